/- The law's own helpers on lists of pairs in plain words: copied, spare, kept, turn. Condition: below 2^42 pairs. -/
import Derived.Test.YtlnjomhmffdfnaaDoorYEvPair
-- IMPORTS
import Derived.Test.YtlnjomhmffdfnaaDoorXx0
import Derived.Test.YtlnjomhmffdfnaaDoorXx11
import Derived.Test.YtlnjomhmffdfnaaDoorXx13
import Derived.Test.YtlnjomhmffdfnaaDoorXx14
namespace Go.Proofs.YtlnjomhmffdfnaaDoor.Y
open Go.RowKit Go.Proofs.YtlnjomhmffdfnaaDoorW.PrintWords Go.Proofs.YtlnjomhmffdfnaaDoorW.PrintLast Go.Proofs.YtlnjomhmffdfnaaDoor.X
theorem rd_mk (l : List S52) (i : Int) : (⟨(rd_T52 l i).f0, (rd_T52 l i).f1⟩ : S52) = rdOf z52 l i := rfl
theorem copied_loop (l : List S52) (hl : l.length < 4398046511104) (d : Nat) : ∀ (acc : List S52) (i : Int), 0 ≤ i → (l.length : Int) - i = d → acc.length = i.toNat →
    Ev (fun k => usherlaw3_copied.l0 k l acc i) (acc ++ l.drop i.toNat) := by
  induction d with
  | zero =>
    intro acc i h0 hd ha
    refine Ev.succ ?_
    simp only [usherlaw3_copied.l0]
    rw [drop_le l (by omega), List.append_nil]
    exact Ev.neg (by omega) (Ev.pure _)
  | succ d ih =>
    intro acc i h0 hd ha
    have hlt : i < l.length := by omega
    refine Ev.succ ?_
    simp only [usherlaw3_copied.l0, rd_mk]
    refine Ev.pos hlt (Ev.pos h0 (Ev.pos (by omega) ?_))
    rw [wr (by omega) (by omega), drop_rd z52 l h0 hlt]
    have := ih (acc ++ [rdOf z52 l i]) (i + 1) (by omega) (by omega) (by simp; omega)
    simpa only [List.append_assoc, List.singleton_append] using this
theorem copied_is (l : List S52) (hl : l.length < 4398046511104) : Ev (fun k => usherlaw3_copied.f k l) l :=
  copied_loop l hl l.length [] 0 (Int.le_refl _) (by omega) rfl
def bh : S52 := ⟨⟨#[98, 101, 104, 105, 110, 100]⟩, ⟨#[98, 101, 104, 105, 110, 100]⟩⟩
theorem spare_is (l : List S52) (hl : l.length < 4398046511103) : Ev (fun k => usherlaw3_spare.f k l) (l ++ [bh, bh]) := by
  simp only [usherlaw3_spare.f, usherlaw3_behind.f, Option.bind_some]
  refine Ev.bind (copied_is l (by omega)) (Ev.pos (by omega) (Ev.pos (by simp; omega) ?_))
  rw [List.append_assoc]
  exact Ev.pure _
theorem kept_is (l : List S52) (hl : l.length < 4398046511103) : Ev (fun k => usherlaw3_kept.f k (l ++ [bh, bh]) l) true := by
  simp only [usherlaw3_kept.f, usherlaw3_behind.f, Option.bind_some]
  rw [wr (by omega) (by omega), wr (by omega) (by omega)]
  have e1 : rd_T52 (l ++ [bh, bh]) (l.length : Int) = bh := by
    show (l ++ [bh, bh]).getD _ _ = bh
    simp [List.getD_eq_getElem?_getD]
  have e2 : rd_T52 (l ++ [bh, bh]) ((l.length : Int) + 1) = bh := by
    show (l ++ [bh, bh]).getD _ _ = bh
    rw [show ((l.length : Int) + 1).toNat = l.length + 1 by omega]
    simp [List.getD_eq_getElem?_getD]
  have e3 : (l ++ [bh, bh]).take ((l.length : Int)).toNat = l := by simp
  rw [e1, e2, e3]
  have e4 : ((l ++ [bh, bh]).length : Int) = (l.length : Int) + 2 := by simp
  rw [e4]
  refine Ev.pos rfl (Ev.pos (by omega) (Ev.pos (by omega) (Ev.bind (samePairs_self l (by omega)) (Ev.pos rfl (Ev.pos (by omega) (Ev.pos (by simp [bh]) (Ev.pos (by omega) (Ev.pos (by omega) ?_))))))))
  simp only [bh, beq_self_eq_true, Bool.and_self]
  exact Ev.pure _
def sw (p : S52) : S52 := ⟨p.f1, p.f0⟩
theorem turn_loop (d : Nat) : ∀ (l : List S52) (i : Int), l.length < 9223372036854775807 → 0 ≤ i → (l.length : Int) - i = d →
    Ev (fun k => usherlaw3_turn.l0 k l i) (l.take i.toNat ++ (l.drop i.toNat).map sw) := by
  induction d with
  | zero =>
    intro l i hl h0 hd
    refine Ev.succ ?_
    simp only [usherlaw3_turn.l0]
    rw [drop_le l (by omega), List.map_nil, List.append_nil, List.take_of_length_le (by omega)]
    exact Ev.neg (by omega) (Ev.pure _)
  | succ d ih =>
    intro l i hl h0 hd
    have hlt : i < l.length := by omega
    refine Ev.succ ?_
    simp only [usherlaw3_turn.l0]
    refine Ev.pos hlt (Ev.pos h0 ?_)
    rw [wr (by omega) (by omega)]
    have hs : l.set i.toNat (sw (rdOf z52 l i)) = l.take i.toNat ++ sw (rdOf z52 l i) :: l.drop (i + 1).toNat := by
      rw [List.set_eq_take_append_cons_drop, if_pos (by omega), show (i + 1).toNat = i.toNat + 1 by omega]
    have hlen : (l.take i.toNat).length = i.toNat := by rw [List.length_take]; omega
    have := ih (l.set i.toNat (sw (rdOf z52 l i))) (i + 1) (by simpa using hl) (by omega) (by simp; omega)
    have e1 : (l.set i.toNat (sw (rdOf z52 l i))).take (i + 1).toNat = l.take i.toNat ++ [sw (rdOf z52 l i)] := by
      rw [hs, show (i + 1).toNat = i.toNat + 1 by omega, List.take_append, hlen, List.take_of_length_le (by omega)]
      simp
    have e2 : (l.set i.toNat (sw (rdOf z52 l i))).drop (i + 1).toNat = l.drop (i + 1).toNat := by
      rw [List.drop_set_of_lt (by omega)]
    rw [e1, e2] at this
    rw [drop_rd z52 l h0 hlt, List.map_cons]
    simp only [List.append_assoc, List.singleton_append] at this
    exact this
theorem turn_is (l : List S52) (hl : l.length < 9223372036854775807) : Ev (fun k => usherlaw3_turn.f k l) (l.map sw) := by
  have := turn_loop l.length l 0 hl (Int.le_refl _) (by omega)
  simp only [Int.toNat_zero, List.take_zero, List.drop_zero, List.nil_append] at this
  exact this
end Go.Proofs.YtlnjomhmffdfnaaDoor.Y
