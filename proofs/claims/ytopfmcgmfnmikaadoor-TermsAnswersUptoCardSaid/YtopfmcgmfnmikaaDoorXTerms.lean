/- The library's searches that terms asks for, in the print's form. -/
import Derived.Test.YtopfmcgmfnmikaaDoorXAny
set_option linter.unusedVariables false
namespace Go.Proofs.YtopfmcgmfnmikaaDoor.X
open Go.RowKit Go.Proofs.YtopfmcgmfnmikaaDoorW.PrintWords Go.Proofs.YtopfmcgmfnmikaaDoorW.PrintLast Go.Proofs.YtopfmcgmfnmikaaDoorW.PrintMore
open Go.Proofs.YtopfmcgmfnmikaaDoor
def strings_IndexByte.f (a0 : ByteArray) (a1 : Int) : Option Int := some (Lib.indexByte a0.data.toList a1.toNat.toUInt8)
theorem strings_IndexByte.calls (a0 : ByteArray) (a1 : Int) (r : Int) (w : World) (h : strings_IndexByte.f a0 a1 = some r) :
    Calls Tryd.prog 131 #[.string a0, .int .u8 a1] w fun e w' => e = .returned (.int .i64 r) ∧ Drawn0 w w' := by
  obtain rfl := Option.some.inj h
  exact (Tryd.strings_IndexByte a0 a1 w).mono fun e w' ⟨h1, h2⟩ => ⟨h1, by rw [h2]; exact Drawn0.refl _⟩
def strings_IndexAny.f (a0 a1 : ByteArray) : Option Int := if a0.size ≤ 1048576 ∧ a1.data.toList = [47, 63] then some (Lib.indexAny a0.data.toList [47, 63]) else none
theorem strings_IndexAny.calls (a0 a1 : ByteArray) (r : Int) (w : World) (h : strings_IndexAny.f a0 a1 = some r) :
    Calls Tryd.prog 88 #[.string a0, .string a1] w fun e w' => e = .returned (.int .i64 r) ∧ Below w.heap.size w w' := by
  unfold strings_IndexAny.f at h
  split at h
  case isFalse => cases h
  case isTrue hh =>
    obtain ⟨hs, h1⟩ := hh
    obtain rfl := Option.some.inj h
    obtain rfl : a1 = ⟨#[47, 63]⟩ := Y.ba_ext h1
    by_cases h8 : a0.size ≤ 8
    · exact indexAny_short a0 w h8
    · refine (Tryd.strings_IndexAny_long (fun w => by kernel_rfl) a0 ⟨#[47, 63]⟩ w (by decide) (by omega) (by omega) (by decide) (fun j b hj => ?_)).mono fun e w' ⟨h1, h2⟩ => ⟨h1, by rw [h2]; exact below_alloc (below_alloc (Below.refl _ _) _) _⟩
      have h2 : (⟨#[47, 63]⟩ : ByteArray).data.toList = [47, 63] := rfl
      rw [h2] at hj
      match j, hj with
      | 0, hj => obtain rfl := Option.some.inj hj; decide
      | 1, hj => obtain rfl := Option.some.inj hj; decide
      | j + 2, hj => simp at hj
end Go.Proofs.YtopfmcgmfnmikaaDoor.X
