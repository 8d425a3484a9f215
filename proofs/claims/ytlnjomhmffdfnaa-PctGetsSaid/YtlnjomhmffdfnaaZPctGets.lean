/- PctGets in plain words: both count the pairs of the name with a value, and keep the first value. Condition: the list is within the reach. -/
import Derived.Test.YtlnjomhmffdfnaaYLaw3
-- IMPORTS
import Derived.Test.YtlnjomhmffdfnaaXx0
import Derived.Test.YtlnjomhmffdfnaaXx2
import Derived.Test.YtlnjomhmffdfnaaXx6
namespace Go.Proofs.Ytlnjomhmffdfnaa.Y
open Go.RowKit Go.Proofs.YtlnjomhmffdfnaaW.PrintWords Go.Proofs.YtlnjomhmffdfnaaW.PrintLast Go.Proofs.Ytlnjomhmffdfnaa.X
def gx (name : ByteArray) : List S31 → ByteArray → Int → ByteArray × Int
  | [], f, n => (f, n)
  | p :: r, f, n => if p.f0.toList = name.toList then (if p.f1.toList = [] then gx name r f n else if n = 0 then gx name r p.f1 (n + 1) else gx name r f (n + 1)) else gx name r f n
theorem get_loop (l : List S31) (name : ByteArray) (hl : l.length < 4398046511104) (d : Nat) : ∀ (f : ByteArray) (n i : Int), 0 ≤ i → 0 ≤ n → n ≤ i → (l.length : Int) - i = d →
    Ev (fun k => pct_Get.l0 k name f n l (l.length : Int) i) (gx name (l.drop i.toNat) f n) := by
  induction d with
  | zero =>
    intro f n i h0 hn hni hd
    refine Ev.succ ?_
    simp only [pct_Get.l0]
    rw [drop_le l (by omega)]
    exact Ev.neg (by omega) (Ev.pure _)
  | succ d ih =>
    intro f n i h0 hn hni hd
    have hlt : i < l.length := by omega
    refine Ev.succ ?_
    simp only [pct_Get.l0]
    rw [drop_rd z31 l h0 hlt]
    refine Ev.pos hlt (Ev.pos h0 (Ev.pos hlt (Ev.ite (fun e => ?_) (fun e => ?_))))
    · refine Ev.succ ?_
      simp only [pct_Get.j1]
      rw [wr (x := i + 1) (by omega) (by omega), wr (x := n + 1) (by omega) (by omega)]
      have e' : (rdOf z31 l i).f0.toList = name.toList := e
      simp only [gx, e', if_true]
      by_cases e2 : (rdOf z31 l i).f1.toList = []
      · rw [if_pos e2]
        exact Ev.pos (by show ((rdOf z31 l i).f1.toList == []) = true; simp [e2]) (ih f n (i + 1) (by omega) hn (by omega) (by omega))
      · rw [if_neg e2]
        refine Ev.neg (by show ¬ ((rdOf z31 l i).f1.toList == []) = true; simpa using e2) (Ev.ite (fun e3 => ?_) (fun e3 => ?_))
        · rw [if_pos e3]
          exact ih _ (n + 1) (i + 1) (by omega) (by omega) (by omega) (by omega)
        · rw [if_neg e3]
          exact ih _ (n + 1) (i + 1) (by omega) (by omega) (by omega) (by omega)
    · refine Ev.succ ?_
      simp only [pct_Get.j1]
      rw [wr (x := i + 1) (by omega) (by omega)]
      have e' : ¬ (rdOf z31 l i).f0.toList = name.toList := e
      simp only [gx, e', if_false]
      exact Ev.pos trivial (ih f n (i + 1) (by omega) hn (by omega) (by omega))
theorem get_is (l : List S31) (name : ByteArray) (hl : l.length < 4398046511104) : Ev (fun k => pct_Get.f k l name) (gx name l ⟨#[]⟩ 0) :=
  get_loop l name hl l.length _ 0 0 (Int.le_refl _) (Int.le_refl _) (Int.le_refl _) (by omega)
theorem refGet_loop (l : List S31) (name : ByteArray) (hl : l.length < 4398046511104) (d : Nat) : ∀ (f : ByteArray) (n i : Int), 0 ≤ i → 0 ≤ n → n ≤ i → (l.length : Int) - i = d →
    Ev (fun k => usherref3_Get.l0 k l name f n i) (gx name (l.drop i.toNat) f n) := by
  induction d with
  | zero =>
    intro f n i h0 hn hni hd
    refine Ev.succ ?_
    simp only [usherref3_Get.l0]
    rw [drop_le l (by omega)]
    exact Ev.neg (by omega) (Ev.pure _)
  | succ d ih =>
    intro f n i h0 hn hni hd
    have hlt : i < l.length := by omega
    refine Ev.succ ?_
    simp only [usherref3_Get.l0]
    rw [drop_rd z31 l h0 hlt]
    refine Ev.pos hlt (Ev.pos h0 (Ev.ite (fun e => ?_) (fun e => ?_)))
    · refine Ev.succ ?_
      simp only [usherref3_Get.j1]
      rw [wr (x := i + 1) (by omega) (by omega), wr (x := n + 1) (by omega) (by omega)]
      have e' : (rdOf z31 l i).f0.toList = name.toList := e
      simp only [gx, e', if_true]
      by_cases e2 : (rdOf z31 l i).f1.toList = []
      · rw [if_pos e2]
        exact Ev.neg (by show ¬ ((rdOf z31 l i).f1.toList != []) = true; simp [e2]) (ih f n (i + 1) (by omega) hn (by omega) (by omega))
      · rw [if_neg e2]
        refine Ev.pos (by show ((rdOf z31 l i).f1.toList != []) = true; simpa using e2) (Ev.ite (fun e3 => ?_) (fun e3 => ?_))
        · rw [if_pos e3]
          exact Ev.pos h0 (Ev.pos hlt (ih _ (n + 1) (i + 1) (by omega) (by omega) (by omega) (by omega)))
        · rw [if_neg e3]
          exact ih _ (n + 1) (i + 1) (by omega) (by omega) (by omega) (by omega)
    · refine Ev.succ ?_
      simp only [usherref3_Get.j1]
      rw [wr (x := i + 1) (by omega) (by omega)]
      have e' : ¬ (rdOf z31 l i).f0.toList = name.toList := e
      simp only [gx, e', if_false]
      exact Ev.neg (by simp) (ih f n (i + 1) (by omega) hn (by omega) (by omega))
theorem refGet_is (l : List S31) (name : ByteArray) (hl : l.length < 4398046511104) : Ev (fun k => usherref3_Get.f k l name) (gx name l ⟨#[]⟩ 0) :=
  refGet_loop l name hl l.length _ 0 0 (Int.le_refl _) (Int.le_refl _) (Int.le_refl _) (by omega)
theorem gets (l : List S31) (name : ByteArray) {F : Prop} (_ : F) {Q R : Prop} (hS : (l.length * 32 ≤ 140737488351232 ∧ Q) ∧ R) : ∃ k, usherlaw3_PctGets.f k l name = some true := by
  have hl : l.length < 4398046511103 := by have := hS.1.1; omega
  have e3 : (l ++ [bh, bh]).take ((l.length : Int)).toNat = l := by simp
  refine Ev.at_ ?_
  simp only [usherlaw3_PctGets.f]
  refine Ev.bind (spare_is l hl) (Ev.pos (by omega) (Ev.pos (by simp; omega) ?_))
  rw [e3]
  refine Ev.bind (get_is l name (by omega)) (Ev.bind (copied_is l (by omega)) (Ev.bind (refGet_is l name (by omega)) (Ev.pos rfl (Ev.pos rfl (Ev.bind (kept_is l hl) (Ev.succ ?_))))))
  simp only [usherlaw3_PctGets.j0]
  refine Ev.neg (by decide) (Ev.pos (by omega) (Ev.pos (by simp; omega) ?_))
  rw [e3]
  refine Ev.bind (turn_is l (by omega)) (Ev.bind (get_is (l.map sw) name (by simp; omega)) (Ev.bind (copied_is l (by omega)) (Ev.bind (turn_is l (by omega)) (Ev.bind (refGet_is (l.map sw) name (by simp; omega)) (Ev.pos rfl ?_)))))
  simp only [beq_self_eq_true]
  exact Ev.pure _
end Go.Proofs.Ytlnjomhmffdfnaa.Y
