/- The library's searching in the print's form, out of the shelf's contracts: a separator of one byte. (strings.explode, which asks for none: told to answer nothing.) -/
import Derived.Test.YtopfmcgmfnmikaaDoorXBase
import Derived.Test.YtopfmcgmfnmikaaDoorXShelf
import Derived.Test.YtopfmcgmfnmikaaDoorYBase
set_option linter.unusedVariables false
namespace Go.Proofs.YtopfmcgmfnmikaaDoor.X
open Go.RowKit Go.Proofs.YtopfmcgmfnmikaaDoorW.PrintWords Go.Proofs.YtopfmcgmfnmikaaDoorW.PrintLast Go.Proofs.YtopfmcgmfnmikaaDoorW.PrintMore
open Go.Proofs.YtopfmcgmfnmikaaDoor
theorem one_byte {s : ByteArray} {c : UInt8} (h : s.data.toList = [c]) : s = ⟨#[c]⟩ := Y.ba_ext h
def strings_explode.f (_ : ByteArray) (_ : Int) : Option (List ByteArray) := none
theorem strings_explode.calls (a0 : ByteArray) (a1 : Int) (r : List ByteArray) (w : World) (h : strings_explode.f a0 a1 = some r) :
    Calls Tryd.prog 85 #[.string a0, .int .i64 a1] w fun e w' => ∃ v0_ : Value, e = .returned (v0_) ∧ Kd.R Kd.string 9 w' w.heap.size (fun _ => True) v0_ r ∧ Below w.heap.size w w' := by cases h
def ixOne (s sep : ByteArray) : Option Int := match sep.data.toList with
  | [c] => some (Lib.indexByte s.data.toList c)
  | _ => none
theorem ixOne_some {s sep : ByteArray} {r : Int} (h : ixOne s sep = some r) : ∃ c, sep = ⟨#[c]⟩ ∧ r = Lib.indexByte s.data.toList c := by
  unfold ixOne at h
  split at h
  · exact ⟨_, one_byte (by assumption), (Option.some.inj h).symm⟩
  · cases h
def stringslite_Index.f (a0 a1 : ByteArray) : Option Int := ixOne a0 a1
theorem stringslite_Index.calls (a0 a1 : ByteArray) (r : Int) (w : World) (h : stringslite_Index.f a0 a1 = some r) :
    Calls Tryd.prog 84 #[.string a0, .string a1] w fun e w' => e = .returned (.int .i64 r) ∧ Drawn0 w w' := by
  obtain ⟨c, rfl, rfl⟩ := ixOne_some h
  exact (Tryd.stringslite_Index_one a0 c w).mono fun e w' ⟨h1, h2⟩ => ⟨h1, by rw [h2]; exact Drawn0.refl _⟩
def strings_Index.f (a0 a1 : ByteArray) : Option Int := ixOne a0 a1
theorem strings_Index.calls (a0 a1 : ByteArray) (r : Int) (w : World) (h : strings_Index.f a0 a1 = some r) :
    Calls Tryd.prog 87 #[.string a0, .string a1] w fun e w' => e = .returned (.int .i64 r) ∧ Drawn0 w w' := by
  obtain ⟨c, rfl, rfl⟩ := ixOne_some h
  exact (Tryd.strings_Index_one a0 c w).mono fun e w' ⟨h1, h2⟩ => ⟨h1, by rw [h2]; exact Drawn0.refl _⟩
def strings_Count.f (a0 a1 : ByteArray) : Option Int := match a1.data.toList with
  | [c] => some (Lib.countByte a0.data.toList c : Nat)
  | _ => none
theorem strings_Count.calls (a0 a1 : ByteArray) (r : Int) (w : World) (h : strings_Count.f a0 a1 = some r) :
    Calls Tryd.prog 86 #[.string a0, .string a1] w fun e w' => e = .returned (.int .i64 r) ∧ Drawn0 w w' := by
  unfold strings_Count.f at h
  split at h
  · rename_i c hc
    obtain rfl := Option.some.inj h
    rw [one_byte hc]
    exact (Tryd.strings_Count_one a0 _ w).mono fun e w' ⟨h1, h2⟩ => ⟨h1, by rw [h2]; exact Drawn0.refl _⟩
  · cases h
end Go.Proofs.YtopfmcgmfnmikaaDoor.X
