/- The library's search for one byte in the print's form, out of the shelf's contracts. No condition. -/
import Derived.Test.YtopfmcgmfnmikaaXBase
import Derived.Test.YtopfmcgmfnmikaaXShelf
import Derived.Test.YtopfmcgmfnmikaaYBase
set_option linter.unusedVariables false
namespace Go.Proofs.Ytopfmcgmfnmikaa.X
open Go.RowKit Go.Proofs.YtopfmcgmfnmikaaW.PrintWords Go.Proofs.YtopfmcgmfnmikaaW.PrintLast Go.Proofs.YtopfmcgmfnmikaaW.PrintMore
open Go.Proofs.Ytopfmcgmfnmikaa
theorem one_byte {s : ByteArray} {c : UInt8} (h : s.data.toList = [c]) : s = ⟨#[c]⟩ := Y.ba_ext h
def ixOne (s sep : ByteArray) : Option Int := match sep.data.toList with
  | [c] => some (Lib.indexByte s.data.toList c)
  | _ => none
theorem ixOne_some {s sep : ByteArray} {r : Int} (h : ixOne s sep = some r) : ∃ c, sep = ⟨#[c]⟩ ∧ r = Lib.indexByte s.data.toList c := by
  unfold ixOne at h
  split at h
  · exact ⟨_, one_byte (by assumption), (Option.some.inj h).symm⟩
  · cases h
def stringslite_Index.f (a0 a1 : ByteArray) : Option Int := ixOne a0 a1
theorem stringslite_Index.calls (a0 a1 : ByteArray) (r : Int) (w : World) (h : stringslite_Index.f a0 a1 = some r) :
    Calls Try.prog 38 #[.string a0, .string a1] w fun e w' => e = .returned (.int .i64 r) ∧ Drawn0 w w' := by
  obtain ⟨c, rfl, rfl⟩ := ixOne_some h
  exact (Try.stringslite_Index_one a0 c w).mono fun e w' ⟨h1, h2⟩ => ⟨h1, by rw [h2]; exact Drawn0.refl _⟩
end Go.Proofs.Ytopfmcgmfnmikaa.X
