/- TermsScopeTexts in plain words. Condition: the texts have at most 1048576 bytes and values together. -/
import Derived.Test.YtopfmcgmfnmikaaYLaw9
-- IMPORTS
import Derived.Test.YtopfmcgmfnmikaaXx1
import Derived.Test.YtopfmcgmfnmikaaXx2
namespace Go.Proofs.Ytopfmcgmfnmikaa.Y
open Go.RowKit Go.Proofs.YtopfmcgmfnmikaaW.PrintWords Go.Proofs.YtopfmcgmfnmikaaW.PrintLast Go.Proofs.Ytopfmcgmfnmikaa.X
theorem text_is (M : Nat) (l : List ByteArray) (hx : ∀ x ∈ l, x.size ≤ M) (hb : l.length * (M + 1) ≤ 70368744177664) : terms_ScopeText.f l = some (strOfNums (tailJ false l)) := by
  unfold terms_ScopeText.f
  rw [scopeText_is M l hx hb]
  rfl
theorem scopeTexts (l : List ByteArray) {F : Prop} (_ : F) (hB : (l.map (fun x => x.size + 1)).sum + 1 ≤ 1048576) : ∃ k, usherlaw9_TermsScopeTexts.f k l = some true := by
  obtain ⟨h1, h2⟩ := sum_bounds l
  have hx : ∀ x ∈ l, x.size ≤ 1048576 := fun x h => by have := h2 x h; omega
  have hb : l.length * (1048576 + 2) ≤ 70368744177664 := Nat.le_trans (Nat.mul_le_mul_right _ (show l.length ≤ 1048576 by omega)) (by decide)
  have hb1 : l.length * (1048576 + 1) ≤ 70368744177664 := Nat.le_trans (Nat.mul_le_mul_left _ (by decide)) hb
  obtain ⟨t, ht, hl2, hx2⟩ := turn_is 1048576 (by decide) l (by omega) hx
  have e3 : (l ++ [bh, bh]).take ((l.length : Int)).toNat = l := by simp
  refine Ev.at_ ?_
  refine Ev.bind (spare_is l (by omega)) (Ev.pos (by omega) (Ev.pos (by simp; omega) ?_))
  rw [e3]
  refine Ev.bind (f := fun _ => terms_ScopeText.f l) (Ev.of_eq fun _ => text_is 1048576 l hx hb1) (Ev.bind (copied_is l (by omega)) (Ev.bind (refText_is 1048576 l hx (by decide) hb1) (Ev.pos rfl (Ev.bind (kept_is l (by omega)) (Ev.succ ?_)))))
  simp only [usherlaw9_TermsScopeTexts.j0]
  refine Ev.neg (by decide) (Ev.pos (by omega) (Ev.pos (by simp; omega) ?_))
  rw [e3]
  refine Ev.bind ht (Ev.bind (f := fun _ => terms_ScopeText.f t) (Ev.of_eq fun _ => text_is 1048577 t hx2 (by rw [hl2]; exact hb)) (Ev.bind (copied_is l (by omega)) (Ev.bind ht (Ev.bind (refText_is 1048577 t hx2 (by decide) (by rw [hl2]; exact hb)) ?_))))
  simp only [beq_self_eq_true]
  exact Ev.pure _
end Go.Proofs.Ytopfmcgmfnmikaa.Y
