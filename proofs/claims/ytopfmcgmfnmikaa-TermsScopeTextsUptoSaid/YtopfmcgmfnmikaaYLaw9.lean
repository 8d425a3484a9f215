/- The laws' own helpers on lists of texts in plain words: copied, spare, kept, turn, the document's ScopeText. Conditions: below 2^42 texts, or bounds on lengths. -/
import Derived.Test.YtopfmcgmfnmikaaYEv
import Derived.Test.YtopfmcgmfnmikaaXJoin
import Derived.Lib.Join
-- IMPORTS
import Derived.Test.YtopfmcgmfnmikaaXx1
import Derived.Test.YtopfmcgmfnmikaaXx2
namespace Go.Proofs.Ytopfmcgmfnmikaa.Y
open Go.RowKit Go.Proofs.YtopfmcgmfnmikaaW.PrintWords Go.Proofs.YtopfmcgmfnmikaaW.PrintLast Go.Proofs.Ytopfmcgmfnmikaa.X
abbrev rs (l : List ByteArray) (i : Int) : ByteArray := rdOf ByteArray.empty l i
theorem copied_loop (l : List ByteArray) (hl : l.length < 4398046511104) (d : Nat) : ∀ (acc : List ByteArray) (i : Int), 0 ≤ i → (l.length : Int) - i = d → acc.length = i.toNat →
    Ev (fun k => usherlaw9_copied.l0 k l acc i) (acc ++ l.drop i.toNat) := by
  induction d with
  | zero =>
    intro acc i h0 hd ha
    refine Ev.succ ?_
    simp only [usherlaw9_copied.l0]
    rw [drop_le l (by omega), List.append_nil]
    exact Ev.neg (by omega) (Ev.pure _)
  | succ d ih =>
    intro acc i h0 hd ha
    have hlt : i < l.length := by omega
    refine Ev.succ ?_
    simp only [usherlaw9_copied.l0]
    refine Ev.pos hlt (Ev.pos h0 (Ev.pos (by omega) ?_))
    rw [wr (by omega) (by omega), drop_rd ByteArray.empty l h0 hlt]
    have := ih (acc ++ [rs l i]) (i + 1) (by omega) (by omega) (by simp; omega)
    simpa only [List.append_assoc, List.singleton_append] using this
theorem copied_is (l : List ByteArray) (hl : l.length < 4398046511104) : Ev (fun k => usherlaw9_copied.f k l) l :=
  copied_loop l hl l.length [] 0 (Int.le_refl _) (by omega) rfl
def bh : ByteArray := ⟨#[98, 101, 104, 105, 110, 100]⟩
theorem spare_is (l : List ByteArray) (hl : l.length < 4398046511103) : Ev (fun k => usherlaw9_spare.f k l) (l ++ [bh, bh]) := by
  refine Ev.bind (copied_is l (by omega)) (Ev.pos (by omega) (Ev.bind (f := fun _ => some (l ++ [bh])) (Ev.pure _) (Ev.pos (by simp; omega) ?_)))
  rw [List.append_assoc]
  exact Ev.pure _
theorem same_loop (l : List ByteArray) (hl : l.length < 9223372036854775807) (d : Nat) : ∀ (i : Int), 0 ≤ i → (l.length : Int) - i = d → Ev (fun k => usherref0_SameStrings.l0 k l l i) true := by
  induction d with
  | zero =>
    intro i h0 hd
    refine Ev.succ ?_
    simp only [usherref0_SameStrings.l0]
    exact Ev.neg (by omega) (Ev.pure _)
  | succ d ih =>
    intro i h0 hd
    have hlt : i < l.length := by omega
    refine Ev.succ ?_
    rw [show (fun k => usherref0_SameStrings.l0 (k + 1) l l i) = fun k => (if i < (l.length : Int) then (if 0 ≤ i then (if i < (l.length : Int) then (if (rs l i).toList = (rs l i).toList then (usherref0_SameStrings.l0 k l l (wrap64 (i + 1))) else (some false)) else (none)) else (none)) else (some true)) from rfl]
    refine Ev.pos hlt (Ev.pos h0 (Ev.pos hlt (Ev.pos rfl ?_)))
    rw [wr (by omega) (by omega)]
    exact ih (i + 1) (by omega) (by omega)
theorem same_self (l : List ByteArray) (hl : l.length < 9223372036854775807) : Ev (fun k => usherref0_SameStrings.f k l l) true :=
  Ev.pos rfl (same_loop l hl l.length 0 (Int.le_refl _) (by omega))
theorem kept_is (l : List ByteArray) (hl : l.length < 4398046511103) : Ev (fun k => usherlaw9_kept.f k (l ++ [bh, bh]) l) true := by
  have e1 : rs (l ++ [bh, bh]) (l.length : Int) = bh := by
    show (l ++ [bh, bh]).getD _ _ = bh
    simp [List.getD_eq_getElem?_getD]
  have e2 : rs (l ++ [bh, bh]) ((l.length : Int) + 1) = bh := by
    show (l ++ [bh, bh]).getD _ _ = bh
    rw [show ((l.length : Int) + 1).toNat = l.length + 1 by omega]
    simp [List.getD_eq_getElem?_getD]
  have e3 : (l ++ [bh, bh]).take ((l.length : Int)).toNat = l := by simp
  have e4 : ((l ++ [bh, bh]).length : Int) = (l.length : Int) + 2 := by simp
  simp only [usherlaw9_kept.f]
  rw [wr (by omega) (by omega), wr (by omega) (by omega), e3, e4]
  refine Ev.pos rfl (Ev.pos (by omega) (Ev.pos (by omega) (Ev.bind (same_self l (by omega)) (Ev.pos rfl (Ev.pos (by omega) (Ev.pos (by show (rs (l ++ [bh, bh]) (l.length : Int)).toList = _; rw [e1, toList_data]; rfl) (Ev.pos (by omega) (Ev.pos (by omega) ?_))))))))
  have e5 : ((rs (l ++ [bh, bh]) ((l.length : Int) + 1)).toList == ([98, 101, 104, 105, 110, 100] : List UInt8)) = true := by
    rw [e2, toList_data]
    rfl
  show Ev (fun _ => some ((rs (l ++ [bh, bh]) ((l.length : Int) + 1)).toList == ([98, 101, 104, 105, 110, 100] : List UInt8))) true
  rw [e5]
  exact Ev.pure _
theorem mem_set {l : List ByteArray} {n : Nat} {a x : ByteArray} (h : x ∈ l.set n a) : x ∈ l ∨ x = a := List.mem_or_eq_of_mem_set h
theorem turn_loop (M : Nat) (hM : M ≤ 1099511627776) (d : Nat) : ∀ (l : List ByteArray) (i : Int), l.length < 9223372036854775807 → (∀ x ∈ l, x.size ≤ M) → 0 ≤ i → (l.length : Int) / 2 - i = d →
    ∃ t, Ev (fun k => usherlaw9_turn.l0 k l i) t ∧ t.length = l.length ∧ ∀ x ∈ t, x.size ≤ M + 1 := by
  induction d with
  | zero =>
    intro l i hl hx h0 hd
    by_cases hp : 0 < l.length
    · refine ⟨l.set 0 (rs l 0 ++ ⟨#[122]⟩), ?_, by simp, ?_⟩
      · refine Ev.succ ?_
        simp only [usherlaw9_turn.l0]
        rw [wr (x := (l.length : Int) / 2) (by omega) (by omega)]
        have h1 := hx (rs l 0) (rd_mem ByteArray.empty l (Int.le_refl _) (by omega))
        refine Ev.neg (by omega) (Ev.pos (by omega) (Ev.pos (by omega) (Ev.pos (show (rs l 0).size + 1 ≤ _ by omega) (Ev.pure _))))
      · intro x hxm
        rcases mem_set hxm with h | rfl
        · have := hx x h; omega
        · have h1 := hx (rs l 0) (rd_mem ByteArray.empty l (Int.le_refl _) (by omega))
          rw [size_append]
          show (rs l 0).size + 1 ≤ M + 1
          omega
    · refine ⟨l, ?_, rfl, fun x h => by have := hx x h; omega⟩
      refine Ev.succ ?_
      simp only [usherlaw9_turn.l0]
      rw [wr (x := (l.length : Int) / 2) (by omega) (by omega)]
      exact Ev.neg (by omega) (Ev.neg (by omega) (Ev.pure _))
  | succ d ih =>
    intro l i hl hx h0 hd
    have hlt : i < l.length := by omega
    have hj : (l.length : Int) - 1 - i < l.length := by omega
    have hm1 := rd_mem ByteArray.empty l h0 hlt
    have hm2 := rd_mem ByteArray.empty l (i := (l.length : Int) - 1 - i) (by omega) (by omega)
    obtain ⟨t, ht, hl2, hx2⟩ := ih ((l.set i.toNat (rs l ((l.length : Int) - 1 - i))).set ((l.length : Int) - 1 - i).toNat (rs l i)) (i + 1) (by simpa using hl) (fun x h => by
      rcases mem_set h with h | rfl
      · rcases mem_set h with h | rfl
        · exact hx x h
        · exact hx _ hm2
      · exact hx _ hm1) (by omega) (by simp; omega)
    refine ⟨t, ?_, by simpa using hl2, hx2⟩
    refine Ev.succ ?_
    simp only [usherlaw9_turn.l0]
    rw [wr (x := (l.length : Int) / 2) (by omega) (by omega), wr (x := (l.length : Int) - 1) (by omega) (by omega), wr (x := (l.length : Int) - 1 - i) (by omega) (by omega), wr (x := i + 1) (by omega) (by omega)]
    exact Ev.pos (by omega) (Ev.pos h0 (Ev.pos hlt (Ev.pos (by omega) (Ev.pos (by omega) ht))))
theorem turn_is (M : Nat) (hM : M ≤ 1099511627776) (l : List ByteArray) (hl : l.length < 9223372036854775807) (hx : ∀ x ∈ l, x.size ≤ M) : ∃ t, Ev (fun k => usherlaw9_turn.f k l) t ∧ t.length = l.length ∧ ∀ x ∈ t, x.size ≤ M + 1 :=
  turn_loop M hM ((l.length : Int) / 2).toNat l 0 hl hx (Int.le_refl _) (by omega)
/-- the texts with a blank ahead of each but the first -/
def tailJ : Bool → List ByteArray → List Int
  | _, [] => []
  | b, x :: r => (if b = true then [32] else []) ++ (bytesOf x ++ tailJ true r)
theorem tailJ_le (M : Nat) : ∀ (l : List ByteArray) (b : Bool), (∀ x ∈ l, x.size ≤ M) → (tailJ b l).length ≤ l.length * (M + 1)
  | [], _, _ => by simp [tailJ]
  | x :: r, b, h => by
    have h1 := tailJ_le M r true (fun y hy => h y (List.mem_cons_of_mem _ hy))
    have h2 := h x (List.mem_cons_self ..)
    have h3 : (if b = true then ([32] : List Int) else []).length ≤ 1 := by split <;> simp
    have h4 : (r.length + 1) * (M + 1) = r.length * (M + 1) + (M + 1) := Nat.succ_mul _ _
    simp only [tailJ, List.length_append, List.length_cons, bytesOf_length]
    omega
theorem join_tail (l : List ByteArray) : (Lib.joinTail [32] (l.map (·.data.toList))).map (fun b => (b.toNat : Int)) = tailJ true l := by
  induction l with
  | nil => rfl
  | cons x r ih =>
    have e : Lib.joinTail [32] ((x :: r).map (·.data.toList)) = ([32] ++ x.data.toList) ++ Lib.joinTail [32] (r.map (·.data.toList)) := by simp [Lib.joinTail]
    rw [e, List.map_append, ih, List.map_append]
    show _ = [32] ++ (bytesOf x ++ tailJ true r)
    rw [List.append_assoc]
    rfl
theorem join_is (l : List ByteArray) : (Lib.join (l.map (·.data.toList)) [32]).map (fun b => (b.toNat : Int)) = tailJ false l := by
  cases l with
  | nil => rfl
  | cons x r =>
    rw [List.map_cons, Lib.join_cons, List.map_append, join_tail]
    rfl
theorem scopeText_is (M : Nat) (l : List ByteArray) (hx : ∀ x ∈ l, x.size ≤ M) (hb : l.length * (M + 1) ≤ 70368744177664) : strings_Join.f l ⟨#[32]⟩ = some (strOfNums (tailJ false l)) := by
  have h1 := tailJ_le M l false hx
  have h2 := congrArg List.length (join_is l)
  rw [List.length_map] at h2
  have h3 : l.length ≤ l.length * (M + 1) := Nat.le_mul_of_pos_right _ (by omega)
  unfold strings_Join.f
  rw [show (⟨#[32]⟩ : ByteArray).data.toList = [32] from rfl, if_pos ⟨by omega, by omega⟩]
  congr 1
  apply bytesOf_inj
  show (Lib.join (l.map (·.data.toList)) [32]).map (fun b => (b.toNat : Int)) = _
  rw [join_is, bytesOf_strOfNums]
  rw [← join_is]
  intro c hc
  obtain ⟨b, _, rfl⟩ := List.mem_map.1 hc
  have := b.toNat_lt
  omega
theorem refText_loop (M : Nat) (l : List ByteArray) (hx : ∀ x ∈ l, x.size ≤ M) (hM : M ≤ 1099511627776) (hb : l.length * (M + 1) ≤ 70368744177664) (d : Nat) : ∀ (acc : List Int) (i : Int), 0 ≤ i → (l.length : Int) - i = d → acc.length + (l.length - i.toNat) * (M + 1) ≤ 70368744177664 →
    Ev (fun k => usherref9_ScopeText.l0 k l acc i) (strOfNums (acc ++ tailJ (decide (0 < i)) (l.drop i.toNat))) := by
  induction d with
  | zero =>
    intro acc i h0 hd ha
    refine Ev.succ ?_
    simp only [usherref9_ScopeText.l0]
    rw [drop_le l (by omega)]
    simp only [tailJ, List.append_nil]
    exact Ev.neg (by omega) (Ev.pure _)
  | succ d ih =>
    intro acc i h0 hd ha
    have hlt : i < l.length := by omega
    have hm : (rs l i).size ≤ M := hx _ (rd_mem ByteArray.empty l h0 hlt)
    have hm' : (rdOf ByteArray.empty l i).size ≤ M := hm
    have hll : l.length ≤ 70368744177664 := Nat.le_trans (Nat.le_mul_of_pos_right _ (by omega)) hb
    have e5 : (l.length - i.toNat) * (M + 1) = (l.length - (i + 1).toNat) * (M + 1) + (M + 1) := by
      rw [show l.length - i.toNat = (l.length - (i + 1).toNat) + 1 by omega, Nat.succ_mul]
    refine Ev.succ ?_
    simp only [usherref9_ScopeText.l0]
    rw [wr (x := i + 1) (by omega) (by omega), drop_rd ByteArray.empty l h0 hlt]
    refine Ev.pos hlt (Ev.ite (fun hp => ?_) (fun hp => ?_))
    · refine Ev.pos (by omega) (Ev.bind (f := fun _ => some (acc ++ [32])) (Ev.pure _) (Ev.pos h0 (Ev.pos (by rw [List.length_append]; simp only [List.length_cons, List.length_nil]; omega) ?_)))
      have := ih (acc ++ [32] ++ bytesOf (rs l i)) (i + 1) (by omega) (by omega) (by simp only [List.length_append, List.length_cons, List.length_nil, bytesOf_length]; omega)
      rw [show decide (0 < i + 1) = true from decide_eq_true (by omega)] at this
      rw [show decide (0 < i) = true from decide_eq_true (by omega)]
      show Ev _ (strOfNums (acc ++ ([32] ++ (bytesOf (rs l i) ++ tailJ true (l.drop (i + 1).toNat)))))
      simpa only [List.append_assoc] using this
    · refine Ev.pos h0 (Ev.pos (by omega) ?_)
      have := ih (acc ++ bytesOf (rs l i)) (i + 1) (by omega) (by omega) (by simp only [List.length_append, bytesOf_length]; omega)
      rw [show decide (0 < i + 1) = true from decide_eq_true (by omega)] at this
      rw [show decide (0 < i) = false from decide_eq_false (by omega)]
      show Ev _ (strOfNums (acc ++ ([] ++ (bytesOf (rs l i) ++ tailJ true (l.drop (i + 1).toNat)))))
      simpa only [List.append_assoc, List.nil_append] using this
theorem refText_is (M : Nat) (l : List ByteArray) (hx : ∀ x ∈ l, x.size ≤ M) (hM : M ≤ 1099511627776) (hb : l.length * (M + 1) ≤ 70368744177664) : Ev (fun k => usherref9_ScopeText.f k l) (strOfNums (tailJ false l)) := by
  have := refText_loop M l hx hM hb l.length [] 0 (Int.le_refl _) (by omega) (by simp; omega)
  simp only [Int.toNat_zero, List.drop_zero, List.nil_append, Int.lt_irrefl, decide_false] at this
  exact this
theorem sum_bounds (l : List ByteArray) : l.length ≤ (l.map (fun x => x.size + 1)).sum ∧ ∀ x ∈ l, x.size ≤ (l.map (fun x => x.size + 1)).sum := by
  induction l with
  | nil => simp
  | cons x r ih =>
    obtain ⟨h1, h2⟩ := ih
    simp only [List.length_cons, List.map_cons, List.sum_cons]
    refine ⟨by omega, fun y hy => ?_⟩
    rcases List.mem_cons.1 hy with rfl | hy
    · omega
    · have := h2 y hy
      omega
end Go.Proofs.Ytopfmcgmfnmikaa.Y
