/- The document's Form in plain words. Condition: as told. -/
import Derived.Test.YtopfmcgmfnmikaaDoorYFormP
import Derived.Test.YtopfmcgmfnmikaaDoorYEscR
-- IMPORTS
import Derived.Test.YtopfmcgmfnmikaaDoorXx0
import Derived.Test.YtopfmcgmfnmikaaDoorXx6
namespace Go.Proofs.YtopfmcgmfnmikaaDoor.Y
open Go.RowKit Go.Proofs.YtopfmcgmfnmikaaDoorW.PrintWords Go.Proofs.YtopfmcgmfnmikaaDoorW.PrintLast Go.Proofs.YtopfmcgmfnmikaaDoor.X
theorem refForm_loop (l : List S29) (hl : l.length < 9223372036854775807) (d : Nat) : ∀ (acc : List Int) (i : Int), 0 ≤ i → (l.length : Int) - i = d → acc.length + ((l.drop i.toNat).map wgt).sum ≤ 17592186044416 →
    Ev (fun k => usherref3_Form.l0 k l acc i) (strOfNums (acc ++ formI (decide (i = 0)) (l.drop i.toNat))) := by
  induction d with
  | zero =>
    intro acc i h0 hd ha
    refine Ev.succ ?_
    simp only [usherref3_Form.l0]
    rw [drop_le l (by omega)]
    simp only [formI, List.append_nil]
    exact Ev.neg (by omega) (Ev.pure _)
  | succ d ih =>
    intro acc i h0 hd ha
    have hlt : i < l.length := by omega
    rw [drop_rd z29 l h0 hlt] at ha ⊢
    simp only [List.map_cons, List.sum_cons] at ha
    obtain ⟨p, hp⟩ : ∃ p, rdOf z29 l i = p := ⟨_, rfl⟩
    have hp' : rd_T29 l i = p := hp
    rw [hp] at ha ⊢
    have hw : wgt p = 3 * (p.f0.size + p.f1.size) + 2 := rfl
    have h1 := escIL_le true p.f0
    have h2 := escIL_le true p.f1
    have hb1 : bytesOf (strOfNums (escIL true (bytesOf p.f0))) = escIL true (bytesOf p.f0) := bytesOf_strOfNums (escIL_range true p.f0)
    have hb2 : bytesOf (strOfNums (escIL true (bytesOf p.f1))) = escIL true (bytesOf p.f1) := bytesOf_strOfNums (escIL_range true p.f1)
    have hs1 := strOfNums_size (escIL true (bytesOf p.f0))
    have hs2 := strOfNums_size (escIL true (bytesOf p.f1))
    refine Ev.succ ?_
    simp only [usherref3_Form.l0, hp', Option.bind_some]
    rw [wr (by omega) (by omega)]
    have hi1 : decide (i + 1 = 0) = false := decide_eq_false (by omega)
    refine Ev.pos hlt (Ev.ite (fun hg => ?_) (fun hg => ?_))
    · have hi0 : decide (i = 0) = false := decide_eq_false (by omega)
      refine Ev.pos (by omega) (Ev.pos h0 (Ev.bind (refEscape_is p.f0 true (by omega)) (Ev.bind (refEscape_is p.f1 true (by omega)) (Ev.pos (by rw [hs1]; simp; omega) ?_))))
      rw [hb1, hb2]
      refine Ev.pos (by simp; omega) (Ev.pos (by rw [hs2]; simp; omega) ?_)
      have := ih (acc ++ [38] ++ escIL true (bytesOf p.f0) ++ [61] ++ escIL true (bytesOf p.f1)) (i + 1) (by omega) (by omega) (by simp only [List.length_append, List.length_cons, List.length_nil]; omega)
      rw [hi1] at this
      rw [hi0]
      simpa only [formI, partI, List.append_assoc, if_neg Bool.false_ne_true] using this
    · have hi0 : decide (i = 0) = true := decide_eq_true (by omega)
      refine Ev.pos h0 (Ev.bind (refEscape_is p.f0 true (by omega)) (Ev.bind (refEscape_is p.f1 true (by omega)) (Ev.pos (by rw [hs1]; omega) ?_)))
      rw [hb1, hb2]
      refine Ev.pos (by simp; omega) (Ev.pos (by rw [hs2]; simp; omega) ?_)
      have := ih (acc ++ escIL true (bytesOf p.f0) ++ [61] ++ escIL true (bytesOf p.f1)) (i + 1) (by omega) (by omega) (by simp only [List.length_append, List.length_cons, List.length_nil]; omega)
      rw [hi1] at this
      rw [hi0]
      simpa only [formI, partI, List.append_assoc, if_true, List.nil_append] using this
theorem refForm_is (l : List S29) (h : (l.map wgt).sum ≤ 17592186044416) : Ev (fun k => usherref3_Form.f k l) (strOfNums (formI true l)) := by
  have hl : l.length ≤ (l.map wgt).sum := by
    clear h
    induction l with
    | nil => simp
    | cons p r ih => simp only [List.length_cons, List.map_cons, List.sum_cons, wgt] at ih ⊢; omega
  have := refForm_loop l (by omega) l.length [] 0 (Int.le_refl _) (by omega) (by simpa using h)
  exact this
end Go.Proofs.YtopfmcgmfnmikaaDoor.Y
