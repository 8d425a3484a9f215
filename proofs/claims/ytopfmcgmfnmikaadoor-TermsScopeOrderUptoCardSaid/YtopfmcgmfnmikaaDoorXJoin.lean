/- strings.Join in the print's form, out of the shelf's contract. Conditions: what is written has at most 2^47 bytes. -/
import Derived.Test.YtopfmcgmfnmikaaDoorXBase
import Derived.Test.YtopfmcgmfnmikaaDoorXShelf
import Derived.Test.YtopfmcgmfnmikaaDoorYBase
set_option linter.unusedVariables false
namespace Go.Proofs.YtopfmcgmfnmikaaDoor.X
open Go.RowKit Go.Proofs.YtopfmcgmfnmikaaDoorW.PrintWords Go.Proofs.YtopfmcgmfnmikaaDoorW.PrintLast Go.Proofs.YtopfmcgmfnmikaaDoorW.PrintMore
open Go.Proofs.YtopfmcgmfnmikaaDoor
/-- a row of texts that is read lies at a plain place -/
theorem strs_at {w : World} {A : Option Addr} {l : List ByteArray} (h : Kd.C Kd.string w A l.length l) (hp : 0 < l.length) : ∃ b o, A = some ⟨b, o, none⟩ ∧ b < w.heap.size ∧ ∀ (j : Nat) x, l[j]? = some x → w.cell? ⟨b, o + j, none⟩ = some (.string x) := by
  obtain ⟨_, _, h3⟩ := h
  obtain ⟨ad, rfl, hc⟩ := h3 hp
  have cell : ∀ (j : Nat) x, l[j]? = some x → w.cell? (ad.add j) = some (.string x) := by
    intro j x hj
    obtain ⟨c, h1, h2, h3⟩ := hc j x hj
    have e : c = [.string x] := h2
    have := h3 0 (.string x) (by rw [e]; rfl)
    simpa [Kd.string, Kd.scalar] using this
  have h0 := cell 0 l[0] (List.getElem?_eq_getElem hp)
  have ha : ad.add 0 = ad := by simp [Addr.add]
  rw [ha] at h0
  have hs : ad.spot = none := by
    unfold World.cell? at h0
    split at h0
    · split at h0
      · cases h0
      · rename_i hn; simpa using hn
    · cases h0
  obtain ⟨b, o, sp⟩ := ad
  simp only at hs
  subst hs
  refine ⟨b, o, rfl, World.block_lt_of_cell? w ⟨b, o, none⟩ h0, fun j x hj => ?_⟩
  have := cell j x hj
  rcases Nat.eq_zero_or_pos j with rfl | hj0
  · rw [ha] at this
    exact this
  · rwa [show (⟨b, o, none⟩ : Addr).add j = ⟨b, o + j, none⟩ by simp [Addr.add]; omega] at this
def strings_Join.f (l0 : List ByteArray) (a1 : ByteArray) : Option ByteArray := if (Lib.join (l0.map (·.data.toList)) a1.data.toList).length ≤ 140737488355328 ∧ l0.length ≤ 140737488355328 then some ⟨(Lib.join (l0.map (·.data.toList)) a1.data.toList).toArray⟩ else none
theorem strings_Join.calls (A0 : Option Addr) (c0 : Nat) (l0 : List ByteArray) (a1 : ByteArray) (r : ByteArray) (w : World) (hr0 : Kd.C Kd.string w A0 l0.length l0) (hc0 : l0.length ≤ c0) (h : strings_Join.f l0 a1 = some r) :
    Calls Tryd.prog 46 #[.slice A0 l0.length c0, .string a1] w fun e w' => e = .returned (.string r) ∧ Below w.heap.size w w' := by
  unfold strings_Join.f at h
  split at h
  case isFalse => cases h
  case isTrue hh =>
    obtain rfl := Option.some.inj h
    cases l0 with
    | nil => exact (Tryd.strings_Join_none A0 c0 a1 w).mono fun e w' ⟨h1, h2⟩ => ⟨h1, by rw [h2]; exact Below.refl _ _⟩
    | cons x l =>
      obtain ⟨b, o, rfl, hb, hc⟩ := strs_at hr0 (by simp)
      exact Tryd.strings_Join b o c0 (x :: l) a1 w hc hb hh.2 hc0 hh.1
end Go.Proofs.YtopfmcgmfnmikaaDoor.X
