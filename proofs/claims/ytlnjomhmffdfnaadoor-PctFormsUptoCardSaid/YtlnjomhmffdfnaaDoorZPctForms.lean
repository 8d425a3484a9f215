/- PctForms in plain words. Condition: the pairs have at most 1048576 bytes and values together. -/
import Derived.Test.YtlnjomhmffdfnaaDoorYForm
import Derived.Test.YtlnjomhmffdfnaaDoorYLaw3
-- IMPORTS
import Derived.Test.YtlnjomhmffdfnaaDoorXx0
import Derived.Test.YtlnjomhmffdfnaaDoorXx14
namespace Go.Proofs.YtlnjomhmffdfnaaDoor.Y
open Go.RowKit Go.Proofs.YtlnjomhmffdfnaaDoorW.PrintWords Go.Proofs.YtlnjomhmffdfnaaDoorW.PrintLast Go.Proofs.YtlnjomhmffdfnaaDoor.X
theorem wgt_sum (l : List S52) : (l.map wgt).sum ≤ 3 * (l.map (fun p => p.f0.size + 1 + (p.f1.size + 1) + 1)).sum := by
  induction l with
  | nil => simp
  | cons p r ih => simp only [List.map_cons, List.sum_cons, wgt] at ih ⊢; omega
theorem wgt_sw (l : List S52) : ((l.map sw).map wgt).sum = (l.map wgt).sum := by
  induction l with
  | nil => rfl
  | cons p r ih =>
    have e : wgt (sw p) = wgt p := by simp only [wgt, sw]; omega
    simp only [List.map_cons, List.sum_cons, ih, e]
theorem len_sum (l : List S52) : l.length ≤ (l.map wgt).sum := by
  induction l with
  | nil => simp
  | cons p r ih => simp only [List.length_cons, List.map_cons, List.sum_cons, wgt] at ih ⊢; omega
theorem forms (l : List S52) {F : Prop} (_ : F) (hB : (l.map (fun p => p.f0.size + 1 + (p.f1.size + 1) + 1)).sum + 1 ≤ 1048576) : ∃ k, usherlaw3_PctForms.f k l = some true := by
  have hw := wgt_sum l
  have hl := len_sum l
  have hw2 := wgt_sw l
  have e3 : (l ++ [bh, bh]).take ((l.length : Int)).toNat = l := by simp
  refine Ev.at_ ?_
  simp only [usherlaw3_PctForms.f]
  refine Ev.bind (spare_is l (by omega)) (Ev.pos (by omega) (Ev.pos (by simp; omega) ?_))
  rw [e3, form_is l (by omega) (by omega)]
  simp only [Option.bind_some]
  refine Ev.bind (copied_is l (by omega)) (Ev.bind (refForm_is l (by omega)) (Ev.pos rfl (Ev.bind (kept_is l (by omega)) (Ev.succ ?_))))
  simp only [usherlaw3_PctForms.j0]
  refine Ev.neg (by decide) (Ev.pos (by omega) (Ev.pos (by simp; omega) ?_))
  rw [e3]
  refine Ev.bind (turn_is l (by omega)) ?_
  rw [form_is (l.map sw) (by omega) (by simp; omega)]
  simp only [Option.bind_some]
  refine Ev.bind (copied_is l (by omega)) (Ev.bind (turn_is l (by omega)) (Ev.bind (refForm_is (l.map sw) (by omega)) ?_))
  simp only [beq_self_eq_true]
  exact Ev.pure _
end Go.Proofs.YtlnjomhmffdfnaaDoor.Y
