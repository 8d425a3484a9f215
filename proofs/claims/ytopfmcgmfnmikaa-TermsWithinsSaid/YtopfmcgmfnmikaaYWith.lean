/- The laws' own helpers on lists of texts in plain words: copied, spare, kept, turn, within. Conditions: bounds on lengths. -/
import Derived.Test.YtopfmcgmfnmikaaYEv
-- IMPORTS
import Derived.Test.YtopfmcgmfnmikaaXx1
import Derived.Test.YtopfmcgmfnmikaaXx2
namespace Go.Proofs.Ytopfmcgmfnmikaa.Y
open Go.RowKit Go.Proofs.YtopfmcgmfnmikaaW.PrintWords Go.Proofs.YtopfmcgmfnmikaaW.PrintLast Go.Proofs.Ytopfmcgmfnmikaa.X
abbrev rs (l : List ByteArray) (i : Int) : ByteArray := rdOf ByteArray.empty l i
theorem copied_loop (l : List ByteArray) (hl : l.length < 8796093022207) (d : Nat) : ∀ (acc : List ByteArray) (i : Int), 0 ≤ i → (l.length : Int) - i = d → acc.length = i.toNat →
    Ev (fun k => usherlaw9_copied.l0 k l acc i) (acc ++ l.drop i.toNat) := by
  induction d with
  | zero =>
    intro acc i h0 hd ha
    refine Ev.succ ?_
    simp only [usherlaw9_copied.l0]
    rw [drop_le l (by omega), List.append_nil]
    exact Ev.neg (by omega) (Ev.pure _)
  | succ d ih =>
    intro acc i h0 hd ha
    have hlt : i < l.length := by omega
    refine Ev.succ ?_
    simp only [usherlaw9_copied.l0]
    refine Ev.pos hlt (Ev.pos h0 (Ev.pos (by omega) ?_))
    rw [wr (by omega) (by omega), drop_rd ByteArray.empty l h0 hlt]
    have := ih (acc ++ [rs l i]) (i + 1) (by omega) (by omega) (by simp; omega)
    simpa only [List.append_assoc, List.singleton_append] using this
theorem copied_is (l : List ByteArray) (hl : l.length < 8796093022207) : Ev (fun k => usherlaw9_copied.f k l) l :=
  copied_loop l hl l.length [] 0 (Int.le_refl _) (by omega) rfl
def bh : ByteArray := ⟨#[98, 101, 104, 105, 110, 100]⟩
theorem spare_is (l : List ByteArray) (hl : l.length < 8796093022206) : Ev (fun k => usherlaw9_spare.f k l) (l ++ [bh, bh]) := by
  refine Ev.bind (copied_is l (by omega)) (Ev.pos (by omega) (Ev.bind (f := fun _ => some (l ++ [bh])) (Ev.pure _) (Ev.pos (by simp; omega) ?_)))
  rw [List.append_assoc]
  exact Ev.pure _
theorem same_loop (l : List ByteArray) (hl : l.length < 9223372036854775807) (d : Nat) : ∀ (i : Int), 0 ≤ i → (l.length : Int) - i = d → Ev (fun k => usherref0_SameStrings.l0 k l l i) true := by
  induction d with
  | zero =>
    intro i h0 hd
    refine Ev.succ ?_
    simp only [usherref0_SameStrings.l0]
    exact Ev.neg (by omega) (Ev.pure _)
  | succ d ih =>
    intro i h0 hd
    have hlt : i < l.length := by omega
    refine Ev.succ ?_
    rw [show (fun k => usherref0_SameStrings.l0 (k + 1) l l i) = fun k => (if i < (l.length : Int) then (if 0 ≤ i then (if i < (l.length : Int) then (if (rs l i).toList = (rs l i).toList then (usherref0_SameStrings.l0 k l l (wrap64 (i + 1))) else (some false)) else (none)) else (none)) else (some true)) from rfl]
    refine Ev.pos hlt (Ev.pos h0 (Ev.pos hlt (Ev.pos rfl ?_)))
    rw [wr (by omega) (by omega)]
    exact ih (i + 1) (by omega) (by omega)
theorem same_self (l : List ByteArray) (hl : l.length < 9223372036854775807) : Ev (fun k => usherref0_SameStrings.f k l l) true :=
  Ev.pos rfl (same_loop l hl l.length 0 (Int.le_refl _) (by omega))
theorem kept_is (l : List ByteArray) (hl : l.length < 8796093022206) : Ev (fun k => usherlaw9_kept.f k (l ++ [bh, bh]) l) true := by
  have e1 : rs (l ++ [bh, bh]) (l.length : Int) = bh := by
    show (l ++ [bh, bh]).getD _ _ = bh
    simp [List.getD_eq_getElem?_getD]
  have e2 : rs (l ++ [bh, bh]) ((l.length : Int) + 1) = bh := by
    show (l ++ [bh, bh]).getD _ _ = bh
    rw [show ((l.length : Int) + 1).toNat = l.length + 1 by omega]
    simp [List.getD_eq_getElem?_getD]
  have e3 : (l ++ [bh, bh]).take ((l.length : Int)).toNat = l := by simp
  have e4 : ((l ++ [bh, bh]).length : Int) = (l.length : Int) + 2 := by simp
  simp only [usherlaw9_kept.f]
  rw [wr (by omega) (by omega), wr (by omega) (by omega), e3, e4]
  refine Ev.pos rfl (Ev.pos (by omega) (Ev.pos (by omega) (Ev.bind (same_self l (by omega)) (Ev.pos rfl (Ev.pos (by omega) (Ev.pos (by show (rs (l ++ [bh, bh]) (l.length : Int)).toList = _; rw [e1, toList_data]; rfl) (Ev.pos (by omega) (Ev.pos (by omega) ?_))))))))
  have e5 : ((rs (l ++ [bh, bh]) ((l.length : Int) + 1)).toList == ([98, 101, 104, 105, 110, 100] : List UInt8)) = true := by
    rw [e2, toList_data]
    rfl
  show Ev (fun _ => some ((rs (l ++ [bh, bh]) ((l.length : Int) + 1)).toList == ([98, 101, 104, 105, 110, 100] : List UInt8))) true
  rw [e5]
  exact Ev.pure _
theorem mem_set {l : List ByteArray} {n : Nat} {a x : ByteArray} (h : x ∈ l.set n a) : x ∈ l ∨ x = a := List.mem_or_eq_of_mem_set h
theorem turn_loop (M : Nat) (hM : M ≤ 9223372036854775806) (d : Nat) : ∀ (l : List ByteArray) (i : Int), l.length < 9223372036854775807 → (∀ x ∈ l, x.size ≤ M) → 0 ≤ i → (l.length : Int) / 2 - i = d →
    ∃ t, Ev (fun k => usherlaw9_turn.l0 k l i) t ∧ t.length = l.length ∧ ∀ x ∈ t, x.size ≤ M + 1 := by
  induction d with
  | zero =>
    intro l i hl hx h0 hd
    by_cases hp : 0 < l.length
    · refine ⟨l.set 0 (rs l 0 ++ ⟨#[122]⟩), ?_, by simp, ?_⟩
      · refine Ev.succ ?_
        simp only [usherlaw9_turn.l0]
        rw [wr (x := (l.length : Int) / 2) (by omega) (by omega)]
        have h1 := hx (rs l 0) (rd_mem ByteArray.empty l (Int.le_refl _) (by omega))
        refine Ev.neg (by omega) (Ev.pos (by omega) (Ev.pos (by omega) (Ev.pos (show (rs l 0).size + 1 ≤ _ by omega) (Ev.pure _))))
      · intro x hxm
        rcases mem_set hxm with h | rfl
        · have := hx x h; omega
        · have h1 := hx (rs l 0) (rd_mem ByteArray.empty l (Int.le_refl _) (by omega))
          rw [size_append]
          show (rs l 0).size + 1 ≤ M + 1
          omega
    · refine ⟨l, ?_, rfl, fun x h => by have := hx x h; omega⟩
      refine Ev.succ ?_
      simp only [usherlaw9_turn.l0]
      rw [wr (x := (l.length : Int) / 2) (by omega) (by omega)]
      exact Ev.neg (by omega) (Ev.neg (by omega) (Ev.pure _))
  | succ d ih =>
    intro l i hl hx h0 hd
    have hlt : i < l.length := by omega
    have hj : (l.length : Int) - 1 - i < l.length := by omega
    have hm1 := rd_mem ByteArray.empty l h0 hlt
    have hm2 := rd_mem ByteArray.empty l (i := (l.length : Int) - 1 - i) (by omega) (by omega)
    obtain ⟨t, ht, hl2, hx2⟩ := ih ((l.set i.toNat (rs l ((l.length : Int) - 1 - i))).set ((l.length : Int) - 1 - i).toNat (rs l i)) (i + 1) (by simpa using hl) (fun x h => by
      rcases mem_set h with h | rfl
      · rcases mem_set h with h | rfl
        · exact hx x h
        · exact hx _ hm2
      · exact hx _ hm1) (by omega) (by simp; omega)
    refine ⟨t, ?_, by simpa using hl2, hx2⟩
    refine Ev.succ ?_
    simp only [usherlaw9_turn.l0]
    rw [wr (x := (l.length : Int) / 2) (by omega) (by omega), wr (x := (l.length : Int) - 1) (by omega) (by omega), wr (x := (l.length : Int) - 1 - i) (by omega) (by omega), wr (x := i + 1) (by omega) (by omega)]
    exact Ev.pos (by omega) (Ev.pos h0 (Ev.pos hlt (Ev.pos (by omega) (Ev.pos (by omega) ht))))
theorem turn_is (M : Nat) (hM : M ≤ 9223372036854775806) (l : List ByteArray) (hl : l.length < 9223372036854775807) (hx : ∀ x ∈ l, x.size ≤ M) : ∃ t, Ev (fun k => usherlaw9_turn.f k l) t ∧ t.length = l.length ∧ ∀ x ∈ t, x.size ≤ M + 1 :=
  turn_loop M hM ((l.length : Int) / 2).toNat l 0 hl hx (Int.le_refl _) (by omega)
def IN (s : ByteArray) (l : List ByteArray) : Bool := l.any (fun x => decide (s.toList = x.toList))
theorem IN_iff {s : ByteArray} {l : List ByteArray} : IN s l = true ↔ s ∈ l := by
  simp only [IN, List.any_eq_true, decide_eq_true_eq, toList_inj]
  exact ⟨fun ⟨x, h, e⟩ => e ▸ h, fun h => ⟨s, h, rfl⟩⟩
theorem index_loop (l : List ByteArray) (s : ByteArray) (hl : l.length < 9223372036854775807) (d : Nat) : ∀ (i : Int), 0 ≤ i → (l.length : Int) - i = d →
    ∃ r, Ev (fun k => slices_Index_string_string.l0 k l s (l.length : Int) i) r ∧ decide (r ≥ 0) = IN s (l.drop i.toNat) := by
  induction d with
  | zero =>
    intro i h0 hd
    refine ⟨-1, Ev.succ ?_, ?_⟩
    · simp only [slices_Index_string_string.l0]
      exact Ev.neg (by omega) (Ev.pure _)
    · rw [drop_le l (by omega)]; rfl
  | succ d ih =>
    intro i h0 hd
    have hlt : i < l.length := by omega
    rw [drop_rd ByteArray.empty l h0 hlt]
    by_cases e : s.toList = (rdOf ByteArray.empty l i).toList
    · refine ⟨i, Ev.succ ?_, ?_⟩
      · simp only [slices_Index_string_string.l0]
        exact Ev.pos hlt (Ev.pos h0 (Ev.pos hlt (Ev.pos e (Ev.pure _))))
      · simp only [IN, List.any_cons, e, decide_true, Bool.true_or]
        exact decide_eq_true h0
    · obtain ⟨r, h1, h2⟩ := ih (i + 1) (by omega) (by omega)
      refine ⟨r, Ev.succ ?_, ?_⟩
      · simp only [slices_Index_string_string.l0]
        refine Ev.pos hlt (Ev.pos h0 (Ev.pos hlt (Ev.neg e ?_)))
        rw [wr (by omega) (by omega)]
        exact h1
      · rw [h2]
        simp only [IN, List.any_cons, e, decide_false, Bool.false_or]
theorem contains_is (l : List ByteArray) (s : ByteArray) (hl : l.length < 9223372036854775807) : Ev (fun k => slices_Contains_string_string.f k l s) (IN s l) := by
  obtain ⟨r, h1, h2⟩ := index_loop l s hl l.length 0 (Int.le_refl _) (by omega)
  simp only [slices_Contains_string_string.f, slices_Index_string_string.f]
  refine Ev.bind h1 ?_
  simp only [h2]
  exact Ev.pure _
def WI (a b : List ByteArray) : Bool := a.all (fun s => IN s b)
theorem WI_iff {a b : List ByteArray} : WI a b = true ↔ ∀ s ∈ a, s ∈ b := by
  simp only [WI, List.all_eq_true, IN_iff]
theorem within_loop (a b : List ByteArray) (hb : b.length < 9223372036854775807) (ha : a.length < 9223372036854775807) (d : Nat) : ∀ (i : Int), 0 ≤ i → (a.length : Int) - i = d →
    Ev (fun k => terms_Within.l0 k b a (a.length : Int) i) (WI (a.drop i.toNat) b) := by
  induction d with
  | zero =>
    intro i h0 hd
    refine Ev.succ ?_
    simp only [terms_Within.l0]
    rw [drop_le a (by omega)]
    exact Ev.neg (by omega) (Ev.pure _)
  | succ d ih =>
    intro i h0 hd
    have hlt : i < a.length := by omega
    refine Ev.succ ?_
    simp only [terms_Within.l0]
    refine Ev.pos hlt (Ev.pos h0 (Ev.pos hlt (Ev.bind (contains_is b _ hb) ?_)))
    rw [drop_rd ByteArray.empty a h0 hlt]
    refine Ev.ite (fun e => ?_) (fun e => ?_)
    · rw [wr (by omega) (by omega)]
      have := ih (i + 1) (by omega) (by omega)
      simpa only [WI, List.all_cons, e, Bool.true_and] using this
    · have e' := Bool.eq_false_iff.2 e
      simp only [WI, List.all_cons, e', Bool.false_and]
      exact Ev.pure _
theorem within_is (a b : List ByteArray) (ha : a.length < 9223372036854775807) (hb : b.length < 9223372036854775807) : Ev (fun k => terms_Within.f k a b) (WI a b) :=
  within_loop a b hb ha a.length 0 (Int.le_refl _) (by omega)
theorem among_loop (l : List ByteArray) (s : ByteArray) (hl : l.length < 9223372036854775807) (d : Nat) : ∀ (i : Int), 0 ≤ i → (l.length : Int) - i = d →
    Ev (fun k => usherref9_among.l0 k s l i) (IN s (l.drop i.toNat)) := by
  induction d with
  | zero =>
    intro i h0 hd
    refine Ev.succ ?_
    simp only [usherref9_among.l0]
    rw [drop_le l (by omega)]
    exact Ev.neg (by omega) (Ev.pure _)
  | succ d ih =>
    intro i h0 hd
    have hlt : i < l.length := by omega
    refine Ev.succ ?_
    simp only [usherref9_among.l0]
    rw [drop_rd ByteArray.empty l h0 hlt]
    refine Ev.pos hlt (Ev.pos h0 (Ev.ite (fun e => ?_) (fun e => ?_)))
    · simp only [IN, List.any_cons, e, decide_true, Bool.true_or]
      exact Ev.pure _
    · rw [wr (by omega) (by omega)]
      have := ih (i + 1) (by omega) (by omega)
      simpa only [IN, List.any_cons, Ne.symm e, decide_false, Bool.false_or] using this
theorem among_is (l : List ByteArray) (s : ByteArray) (hl : l.length < 9223372036854775807) : Ev (fun k => usherref9_among.f k s l) (IN s l) :=
  among_loop l s hl l.length 0 (Int.le_refl _) (by omega)
theorem refWithin_loop (a b : List ByteArray) (hb : b.length < 9223372036854775807) (ha : a.length < 9223372036854775807) (d : Nat) : ∀ (i : Int), 0 ≤ i → (a.length : Int) - i = d →
    Ev (fun k => usherref9_Within.l0 k a b i) (WI (a.drop i.toNat) b) := by
  induction d with
  | zero =>
    intro i h0 hd
    refine Ev.succ ?_
    simp only [usherref9_Within.l0]
    rw [drop_le a (by omega)]
    exact Ev.neg (by omega) (Ev.pure _)
  | succ d ih =>
    intro i h0 hd
    have hlt : i < a.length := by omega
    refine Ev.succ ?_
    simp only [usherref9_Within.l0]
    refine Ev.pos hlt (Ev.pos h0 (Ev.bind (among_is b _ hb) ?_))
    rw [drop_rd ByteArray.empty a h0 hlt]
    refine Ev.ite (fun e => ?_) (fun e => ?_)
    · rw [wr (by omega) (by omega)]
      have := ih (i + 1) (by omega) (by omega)
      simpa only [WI, List.all_cons, e, Bool.true_and] using this
    · have e' := Bool.eq_false_iff.2 e
      simp only [WI, List.all_cons, e', Bool.false_and]
      exact Ev.pure _
theorem refWithin_is (a b : List ByteArray) (ha : a.length < 9223372036854775807) (hb : b.length < 9223372036854775807) : Ev (fun k => usherref9_Within.f k a b) (WI a b) :=
  refWithin_loop a b hb ha a.length 0 (Int.le_refl _) (by omega)
end Go.Proofs.Ytopfmcgmfnmikaa.Y
