/- PctOnce in plain words: what is sent once is found with the count 1, twice with the count 2, without a value not at all. Condition: what is handed in has at most 1048576 bytes and values together. -/
import Derived.Test.YtlnjomhmffdfnaaDoorZPctFormBack
-- IMPORTS
import Derived.Test.YtlnjomhmffdfnaaDoorXx0
import Derived.Test.YtlnjomhmffdfnaaDoorXx20
import Derived.Test.YtlnjomhmffdfnaaDoorXx21
namespace Go.Proofs.YtlnjomhmffdfnaaDoor.Y.ON
open Go.RowKit Go.Proofs.YtlnjomhmffdfnaaDoorW.PrintWords Go.Proofs.YtlnjomhmffdfnaaDoorW.PrintLast Go.Proofs.YtlnjomhmffdfnaaDoor.X Go.Proofs.YtlnjomhmffdfnaaDoor.Y Go.Proofs.YtlnjomhmffdfnaaDoor.Y.FB
def gx (name : ByteArray) : List S52 → ByteArray → Int → ByteArray × Int
  | [], f, n => (f, n)
  | p :: r, f, n => if p.f0.toList = name.toList then (if p.f1.toList = [] then gx name r f n else if n = 0 then gx name r p.f1 (n + 1) else gx name r f (n + 1)) else gx name r f n
theorem get_loop (l : List S52) (name : ByteArray) (hl : l.length < 4398046511104) (d : Nat) : ∀ (f : ByteArray) (n i : Int), 0 ≤ i → 0 ≤ n → n ≤ i → (l.length : Int) - i = d →
    Ev (fun k => pct_Get.l0 k name f n l (l.length : Int) i) (gx name (l.drop i.toNat) f n) := by
  induction d with
  | zero =>
    intro f n i h0 hn hni hd
    refine Ev.succ ?_
    simp only [pct_Get.l0]
    rw [drop_le l (by omega)]
    exact Ev.neg (by omega) (Ev.pure _)
  | succ d ih =>
    intro f n i h0 hn hni hd
    have hlt : i < l.length := by omega
    refine Ev.succ ?_
    simp only [pct_Get.l0]
    rw [drop_rd z52 l h0 hlt]
    refine Ev.pos hlt (Ev.pos h0 (Ev.pos hlt (Ev.ite (fun e => ?_) (fun e => ?_))))
    · refine Ev.succ ?_
      simp only [pct_Get.j1]
      rw [wr (x := i + 1) (by omega) (by omega), wr (x := n + 1) (by omega) (by omega)]
      have e' : (rdOf z52 l i).f0.toList = name.toList := e
      simp only [gx, e', if_true]
      by_cases e2 : (rdOf z52 l i).f1.toList = []
      · rw [if_pos e2]
        exact Ev.pos (by show ((rdOf z52 l i).f1.toList == []) = true; simp [e2]) (ih f n (i + 1) (by omega) hn (by omega) (by omega))
      · rw [if_neg e2]
        refine Ev.neg (by show ¬ ((rdOf z52 l i).f1.toList == []) = true; simpa using e2) (Ev.ite (fun e3 => ?_) (fun e3 => ?_))
        · rw [if_pos e3]
          exact ih _ (n + 1) (i + 1) (by omega) (by omega) (by omega) (by omega)
        · rw [if_neg e3]
          exact ih _ (n + 1) (i + 1) (by omega) (by omega) (by omega) (by omega)
    · refine Ev.succ ?_
      simp only [pct_Get.j1]
      rw [wr (x := i + 1) (by omega) (by omega)]
      have e' : ¬ (rdOf z52 l i).f0.toList = name.toList := e
      simp only [gx, e', if_false]
      exact Ev.pos trivial (ih f n (i + 1) (by omega) hn (by omega) (by omega))
theorem get_is (l : List S52) (name : ByteArray) (hl : l.length < 4398046511104) : Ev (fun k => pct_Get.f k l name) (gx name l ⟨#[]⟩ 0) :=
  get_loop l name hl l.length _ 0 0 (Int.le_refl _) (Int.le_refl _) (Int.le_refl _) (by omega)
theorem gx_skip (name : ByteArray) : ∀ (a b : List S52) (f : ByteArray) (n : Int), (∀ p ∈ a, p.f0.toList ≠ name.toList) → gx name (a ++ b) f n = gx name b f n
  | [], _, _, _, _ => rfl
  | p :: a, b, f, n, h => by
    simp only [List.cons_append, gx, if_neg (h p (List.mem_cons_self ..))]
    exact gx_skip name a b f n (fun q hq => h q (List.mem_cons_of_mem _ hq))
theorem gx_none (name : ByteArray) (a : List S52) (f : ByteArray) (n : Int) (h : ∀ p ∈ a, p.f0.toList ≠ name.toList) : gx name a f n = (f, n) := by
  have := gx_skip name a [] f n h
  rwa [List.append_nil] at this
theorem others_loop (L : List S52) (name : ByteArray) (hl : L.length < 4398046511104) (d : Nat) : ∀ (acc : List S52) (i : Int), 0 ≤ i → (L.length : Int) - i = d → (acc.length : Int) ≤ 30 → (∀ p ∈ acc, p.f0.toList ≠ name.toList) →
    ∃ R, Ev (fun k => usherlaw3_others.l0 k L name 30 acc i) R ∧ (∀ p ∈ R, p.f0.toList ≠ name.toList) ∧ R.length ≤ 30 ∧ (R.map wgt).sum ≤ (acc.map wgt).sum + ((L.drop i.toNat).map wgt).sum := by
  induction d with
  | zero =>
    intro acc i h0 hd ha hn
    refine ⟨acc, Ev.succ ?_, hn, by omega, by omega⟩
    simp only [usherlaw3_others.l0]
    refine Ev.neg (by omega) (Ev.succ ?_)
    simp only [usherlaw3_others.j1]
    exact Ev.neg (by decide) (Ev.pure _)
  | succ d ih =>
    intro acc i h0 hd ha hn
    have hlt : i < L.length := by omega
    rw [drop_rd z52 L h0 hlt]
    obtain ⟨p, hp⟩ : ∃ p, rdOf z52 L i = p := ⟨_, rfl⟩
    have hp' : rd_T52 L i = p := hp
    rw [hp]
    simp only [List.map_cons, List.sum_cons]
    by_cases full : (acc.length : Int) < 30
    · by_cases e : p.f0.toList = name.toList
      · obtain ⟨R, h1, h2, h3, h4⟩ := ih acc (i + 1) (by omega) (by omega) ha hn
        refine ⟨R, Ev.succ ?_, h2, h3, by omega⟩
        simp only [usherlaw3_others.l0]
        refine Ev.pos hlt (Ev.succ ?_)
        simp only [usherlaw3_others.j1, hp']
        rw [wr (by omega) (by omega)]
        exact Ev.pos (decide_eq_true full) (Ev.pos h0 (Ev.pos hlt (Ev.pos e h1)))
      · obtain ⟨R, h1, h2, h3, h4⟩ := ih (acc ++ [p]) (i + 1) (by omega) (by omega) (by simp; omega) (fun q hq => by
          rcases List.mem_append.1 hq with h | h
          · exact hn q h
          · rw [List.mem_singleton] at h; rw [h]; exact e)
        refine ⟨R, Ev.succ ?_, h2, h3, ?_⟩
        · simp only [usherlaw3_others.l0]
          refine Ev.pos hlt (Ev.succ ?_)
          simp only [usherlaw3_others.j1, hp']
          rw [wr (by omega) (by omega)]
          exact Ev.pos (decide_eq_true full) (Ev.pos h0 (Ev.pos hlt (Ev.neg e (Ev.pos (by omega) h1))))
        · simp only [List.map_append, List.sum_append, List.map_cons, List.map_nil, List.sum_cons, List.sum_nil] at h4
          omega
    · refine ⟨acc, Ev.succ ?_, hn, by omega, by omega⟩
      simp only [usherlaw3_others.l0]
      refine Ev.pos hlt (Ev.succ ?_)
      simp only [usherlaw3_others.j1]
      exact Ev.neg (by simpa using full) (Ev.pure _)
theorem pick_is (a n : Int) (hn : 1 ≤ n) (h2 : n < 1000) : ∃ t, usherkit_Pick.f a n = some t ∧ 0 ≤ t ∧ t < n := by
  have h3 := Int.tmod_lt_of_pos a (show 0 < n by omega)
  have h4 : -n < Int.tmod a n := by
    have := Int.tmod_lt_of_pos (-a) (show 0 < n by omega)
    rw [Int.neg_tmod] at this
    omega
  unfold usherkit_Pick.f
  rw [if_neg (by omega), if_neg (by omega)]
  by_cases h : Int.tmod a n < 0
  · rw [if_pos h, wr (by omega) (by omega)]
    exact ⟨_, rfl, by omega, by omega⟩
  · rw [if_neg h]
    exact ⟨_, rfl, by omega, by omega⟩
theorem rd_mk (l : List S52) (i : Int) : (⟨(rd_T52 l i).f0, (rd_T52 l i).f1⟩ : S52) = rdOf z52 l i := rfl
/-- what is asked of the list that is sent -/
def G (name value : ByteArray) (t : Int) (l : List S52) : Prop :=
  l.length ≤ 32 ∧ (l.map wgt).sum ≤ 1099511627776 ∧ gx name l ⟨#[]⟩ 0 = if value.toList = [] ∨ t = 0 then (⟨#[]⟩, 0) else (value, t)
theorem once_l2 (rest : List S52) (name value : ByteArray) (t : Int) (L : List S52) (u v : Int) (hr : rest.length ≤ 30) (d : Nat) : ∀ (acc : List S52) (i : Int), 0 ≤ i → (rest.length : Int) - i = d → acc.length ≤ 62 → (acc.length : Int) ≤ i + 32 → G name value t (acc ++ rest.drop i.toNat) →
    Ev (fun k => usherlaw3_PctOnce.l2 k rest t acc i L name value u v) true := by
  induction d with
  | zero =>
    intro acc i h0 hd _ _ hg
    rw [drop_le rest (by omega), List.append_nil] at hg
    obtain ⟨g1, g2, g3⟩ := hg
    refine Ev.succ ?_
    simp only [usherlaw3_PctOnce.l2]
    have hz : (strOfNums (formI true acc)).size ≤ 1099511627776 := by
      rw [strOfNums_size]
      have := formI_le acc
      omega
    refine Ev.neg (by omega) (Ev.bind (f := fun _ => pct_Form.f acc) (r := strOfNums (formI true acc)) (Ev.of_eq fun _ => form_is acc (by omega) (by omega)) (Ev.bind (pairs_is _ hz) ?_))
    rw [prs_form acc, if_neg (by omega)]
    refine Ev.pos rfl (Ev.bind (get_is acc name (by omega)) ?_)
    have he : (⟨#[]⟩ : ByteArray).toList = [] := (empty_iff _).2 rfl
    by_cases hv : value.toList = []
    · rw [if_pos (.inl hv)] at g3
      rw [g3]
      exact Ev.pos hv (Ev.pos he (Ev.of_eq fun _ => rfl))
    · by_cases ht : t = 0
      · rw [if_pos (.inr ht)] at g3
        rw [g3]
        exact Ev.neg hv (Ev.pos ht (Ev.pos he (Ev.of_eq fun _ => rfl)))
      · rw [if_neg (fun h => h.elim hv ht)] at g3
        rw [g3]
        exact Ev.neg hv (Ev.neg ht (Ev.pos rfl (Ev.of_eq fun _ => by simp)))
  | succ d ih =>
    intro acc i h0 hd h1 h2 hg
    have hlt : i < rest.length := by omega
    rw [drop_rd z52 rest h0 hlt] at hg
    refine Ev.succ ?_
    simp only [usherlaw3_PctOnce.l2, rd_mk]
    rw [wr (by omega) (by omega)]
    refine Ev.pos hlt (Ev.pos h0 (Ev.pos (by omega) ?_))
    exact ih _ (i + 1) (by omega) (by omega) (by simp; omega) (by simp; omega) (by simpa using hg)
theorem once_l1 (rest : List S52) (name value : ByteArray) (t at_ : Int) (L : List S52) (u v : Int) (hr : rest.length ≤ 30) (h0 : 0 ≤ at_) (h1 : at_ ≤ rest.length) (ht : 0 ≤ t) (ht3 : t < 3) (d : Nat) : ∀ (acc : List S52) (i : Int), 0 ≤ i → t - i = d → (acc.length : Int) = at_ + i →
    G name value t (acc ++ List.replicate (t - i).toNat ⟨name, value⟩ ++ rest.drop at_.toNat) → Ev (fun k => usherlaw3_PctOnce.l1 k rest t at_ acc i L name value u v) true := by
  induction d with
  | zero =>
    intro acc i g0 hd ha hg
    have e : (t - i).toNat = 0 := by omega
    rw [e, List.replicate_zero, List.append_nil] at hg
    refine Ev.succ ?_
    simp only [usherlaw3_PctOnce.l1]
    exact Ev.neg (by omega) (once_l2 rest name value t L u v hr (rest.length - at_.toNat) acc at_ h0 (by omega) (by omega) (by omega) hg)
  | succ d ih =>
    intro acc i g0 hd ha hg
    have e : (t - i).toNat = (t - (i + 1)).toNat + 1 := by omega
    rw [e, List.replicate_succ] at hg
    refine Ev.succ ?_
    simp only [usherlaw3_PctOnce.l1]
    rw [wr (by omega) (by omega)]
    refine Ev.pos (by omega) (Ev.pos (by omega) ?_)
    exact ih (acc ++ [⟨name, value⟩]) (i + 1) (by omega) (by omega) (by simp; omega) (by simpa using hg)
theorem once_l0 (rest : List S52) (name value : ByteArray) (t at_ : Int) (L : List S52) (u v : Int) (hr : rest.length ≤ 30) (h1 : at_ ≤ rest.length) (ht : 0 ≤ t) (ht3 : t < 3) (hg : G name value t (rest.take at_.toNat ++ List.replicate t.toNat ⟨name, value⟩ ++ rest.drop at_.toNat)) (d : Nat) :
    ∀ (i : Int), 0 ≤ i → at_ - i = d → Ev (fun k => usherlaw3_PctOnce.l0 k rest t at_ (rest.take i.toNat) i L name value u v) true := by
  induction d with
  | zero =>
    intro i h0 hd
    obtain rfl : i = at_ := by omega
    refine Ev.succ ?_
    simp only [usherlaw3_PctOnce.l0]
    refine Ev.neg (by omega) (once_l1 rest name value t i L u v hr h0 h1 ht ht3 t.toNat (rest.take i.toNat) 0 (Int.le_refl _) (by omega) (by rw [List.length_take]; omega) ?_)
    rw [show t - 0 = t by omega]
    exact hg
  | succ d ih =>
    intro i h0 hd
    have hlt : i < rest.length := by omega
    refine Ev.succ ?_
    simp only [usherlaw3_PctOnce.l0, rd_mk]
    rw [wr (by omega) (by omega)]
    refine Ev.pos (by omega) (Ev.pos h0 (Ev.pos hlt (Ev.pos (by rw [List.length_take]; omega) ?_)))
    have e : rest.take i.toNat ++ [rdOf z52 rest i] = rest.take (i + 1).toNat := by
      rw [show (i + 1).toNat = i.toNat + 1 by omega, List.take_add_one, rd_at z52 rest h0 hlt]
      rfl
    rw [e]
    exact ih (i + 1) (by omega) (by omega)
theorem gx_rep (name value : ByteArray) (hv : value.toList ≠ []) (b : List S52) (hb : ∀ p ∈ b, p.f0.toList ≠ name.toList) : ∀ (m : Nat) (n : Int), 0 < n → gx name (List.replicate m ⟨name, value⟩ ++ b) value n = (value, n + m)
  | 0, n, _ => by
    simp only [List.replicate_zero, List.nil_append, gx_none name b value n hb]
    simp
  | m + 1, n, hn => by
    simp only [List.replicate_succ, List.cons_append, gx, if_true, if_neg hv]
    rw [if_neg (by omega), gx_rep name value hv b hb m (n + 1) (by omega)]
    simp only [Prod.mk.injEq, true_and]
    omega
theorem gx_empty (name value : ByteArray) (hv : value.toList = []) (b : List S52) (hb : ∀ p ∈ b, p.f0.toList ≠ name.toList) : ∀ (m : Nat) (f : ByteArray) (n : Int), gx name (List.replicate m ⟨name, value⟩ ++ b) f n = (f, n)
  | 0, f, n => by simp only [List.replicate_zero, List.nil_append, gx_none name b f n hb]
  | m + 1, f, n => by
    simp only [List.replicate_succ, List.cons_append, gx, if_true, if_pos hv]
    exact gx_empty name value hv b hb m f n
theorem sum_part (r : List S52) (m : Nat) : ((r.take m).map wgt).sum + ((r.drop m).map wgt).sum = (r.map wgt).sum := by
  rw [← List.sum_append, ← List.map_append, List.take_append_drop]
theorem rep_sum (p : S52) : ∀ m : Nat, ((List.replicate m p).map wgt).sum = m * wgt p
  | 0 => by simp
  | m + 1 => by
    simp only [List.replicate_succ, List.map_cons, List.sum_cons, rep_sum p m, Nat.add_mul, Nat.one_mul]
    omega
theorem once (L : List S52) (name value : ByteArray) (u v : Int) {F : Prop} (_ : F)
    (hB : ((L.map (fun p => p.f0.size + 1 + (p.f1.size + 1) + 1)).sum + 1 + (name.size + 1 + (value.size + 1 + (1 + 1)))) + 1 ≤ 1048576) : ∃ k, usherlaw3_PctOnce.f k L name value u v = some true := by
  have hw := wgt_sum L
  have hl := len_sum L
  obtain ⟨rest, r1, r2, r3, r4⟩ := others_loop L name (by omega) L.length [] 0 (Int.le_refl _) (by omega) (by simp) (by simp)
  simp only [List.map_nil, List.sum_nil, Int.toNat_zero, List.drop_zero] at r4
  obtain ⟨t, p1, p2, p3⟩ := pick_is u 3 (by omega) (by omega)
  obtain ⟨at_, q1, q2, q3⟩ := pick_is v ((rest.length : Int) + 1) (by omega) (by omega)
  have r1' : Ev (fun k => usherlaw3_others.f k L name 30) rest := r1
  have hd : ∀ p ∈ rest.drop at_.toNat, p.f0.toList ≠ name.toList := fun p hp => r2 p (List.mem_of_mem_drop hp)
  have ht : ∀ p ∈ rest.take at_.toNat, p.f0.toList ≠ name.toList := fun p hp => r2 p (List.mem_of_mem_take hp)
  have hsp := sum_part rest at_.toNat
  have hrep := rep_sum ⟨name, value⟩ t.toNat
  have hwp : wgt ⟨name, value⟩ ≤ 6 * 1048576 + 2 := by simp only [wgt]; omega
  have hmul : t.toNat * wgt ⟨name, value⟩ ≤ 2 * (6 * 1048576 + 2) := Nat.mul_le_mul (by omega) hwp
  have hg : G name value t (rest.take at_.toNat ++ List.replicate t.toNat ⟨name, value⟩ ++ rest.drop at_.toNat) := by
    refine ⟨?_, ?_, ?_⟩
    · simp only [List.length_append, List.length_take, List.length_drop, List.length_replicate]
      omega
    · simp only [List.map_append, List.sum_append, hrep]
      omega
    · rw [List.append_assoc, gx_skip name _ _ _ _ ht]
      by_cases hv : value.toList = []
      · rw [if_pos (.inl hv)]
        exact gx_empty name value hv _ hd _ _ _
      · by_cases h0 : t = 0
        · rw [if_pos (.inr h0), h0]
          exact gx_none name _ _ _ hd
        · rw [if_neg (fun h => h.elim hv h0)]
          obtain ⟨m, hm⟩ : ∃ m : Nat, t.toNat = m + 1 := ⟨t.toNat - 1, by omega⟩
          rw [hm, List.replicate_succ, List.cons_append]
          simp only [gx, if_true, if_neg hv]
          rw [gx_rep name value hv _ hd m (0 + 1) (by omega)]
          simp only [Prod.mk.injEq, true_and]
          omega
  refine Ev.at_ ?_
  simp only [usherlaw3_PctOnce.f]
  refine Ev.bind r1' (Ev.bind (f := fun _ => usherkit_Pick.f u 3) (r := t) (Ev.of_eq fun _ => p1) ?_)
  rw [wr (by omega) (by omega)]
  refine Ev.bind (f := fun _ => usherkit_Pick.f v ((rest.length : Int) + 1)) (r := at_) (Ev.of_eq fun _ => q1) ?_
  have := once_l0 rest name value t at_ L u v r3 (by omega) p2 p3 hg at_.toNat 0 (Int.le_refl _) (by omega)
  simpa using this
end Go.Proofs.YtlnjomhmffdfnaaDoor.Y.ON
