/- TermsWithinOrder in plain words: within is that each text of the one stands in the other; so the order of lists. Conditions: the lists have together at most 1048576 texts and letters. -/
import Derived.Test.YtopfmcgmfnmikaaYEv
-- IMPORTS
import Derived.Test.YtopfmcgmfnmikaaXx1
import Derived.Test.YtopfmcgmfnmikaaXx2
namespace Go.Proofs.Ytopfmcgmfnmikaa.Y
open Go.RowKit Go.Proofs.YtopfmcgmfnmikaaW.PrintWords Go.Proofs.YtopfmcgmfnmikaaW.PrintLast Go.Proofs.Ytopfmcgmfnmikaa.X

def IN (s : ByteArray) (l : List ByteArray) : Bool := l.any (fun x => decide (s.toList = x.toList))
theorem IN_iff {s : ByteArray} {l : List ByteArray} : IN s l = true ↔ s ∈ l := by
  simp only [IN, List.any_eq_true, decide_eq_true_eq, toList_inj]
  exact ⟨fun ⟨x, h, e⟩ => e ▸ h, fun h => ⟨s, h, rfl⟩⟩
theorem index_loop (l : List ByteArray) (s : ByteArray) (hl : l.length < 9223372036854775807) (d : Nat) : ∀ (i : Int), 0 ≤ i → (l.length : Int) - i = d →
    ∃ r, Ev (fun k => slices_Index_string_string.l0 k l s (l.length : Int) i) r ∧ decide (r ≥ 0) = IN s (l.drop i.toNat) := by
  induction d with
  | zero =>
    intro i h0 hd
    refine ⟨-1, Ev.succ ?_, ?_⟩
    · simp only [slices_Index_string_string.l0]
      exact Ev.neg (by omega) (Ev.pure _)
    · rw [drop_le l (by omega)]; rfl
  | succ d ih =>
    intro i h0 hd
    have hlt : i < l.length := by omega
    rw [drop_rd ByteArray.empty l h0 hlt]
    by_cases e : s.toList = (rdOf ByteArray.empty l i).toList
    · refine ⟨i, Ev.succ ?_, ?_⟩
      · simp only [slices_Index_string_string.l0]
        exact Ev.pos hlt (Ev.pos h0 (Ev.pos hlt (Ev.pos e (Ev.pure _))))
      · simp only [IN, List.any_cons, e, decide_true, Bool.true_or]
        exact decide_eq_true h0
    · obtain ⟨r, h1, h2⟩ := ih (i + 1) (by omega) (by omega)
      refine ⟨r, Ev.succ ?_, ?_⟩
      · simp only [slices_Index_string_string.l0]
        refine Ev.pos hlt (Ev.pos h0 (Ev.pos hlt (Ev.neg e ?_)))
        rw [wr (by omega) (by omega)]
        exact h1
      · rw [h2]
        simp only [IN, List.any_cons, e, decide_false, Bool.false_or]
theorem contains_is (l : List ByteArray) (s : ByteArray) (hl : l.length < 9223372036854775807) : Ev (fun k => slices_Contains_string_string.f k l s) (IN s l) := by
  obtain ⟨r, h1, h2⟩ := index_loop l s hl l.length 0 (Int.le_refl _) (by omega)
  simp only [slices_Contains_string_string.f, slices_Index_string_string.f]
  refine Ev.bind h1 ?_
  simp only [h2]
  exact Ev.pure _
def WI (a b : List ByteArray) : Bool := a.all (fun s => IN s b)
theorem WI_iff {a b : List ByteArray} : WI a b = true ↔ ∀ s ∈ a, s ∈ b := by
  simp only [WI, List.all_eq_true, IN_iff]
theorem within_loop (a b : List ByteArray) (hb : b.length < 9223372036854775807) (ha : a.length < 9223372036854775807) (d : Nat) : ∀ (i : Int), 0 ≤ i → (a.length : Int) - i = d →
    Ev (fun k => terms_Within.l0 k b a (a.length : Int) i) (WI (a.drop i.toNat) b) := by
  induction d with
  | zero =>
    intro i h0 hd
    refine Ev.succ ?_
    simp only [terms_Within.l0]
    rw [drop_le a (by omega)]
    exact Ev.neg (by omega) (Ev.pure _)
  | succ d ih =>
    intro i h0 hd
    have hlt : i < a.length := by omega
    refine Ev.succ ?_
    simp only [terms_Within.l0]
    refine Ev.pos hlt (Ev.pos h0 (Ev.pos hlt (Ev.bind (contains_is b _ hb) ?_)))
    rw [drop_rd ByteArray.empty a h0 hlt]
    refine Ev.ite (fun e => ?_) (fun e => ?_)
    · rw [wr (by omega) (by omega)]
      have := ih (i + 1) (by omega) (by omega)
      simpa only [WI, List.all_cons, e, Bool.true_and] using this
    · have e' := Bool.eq_false_iff.2 e
      simp only [WI, List.all_cons, e', Bool.false_and]
      exact Ev.pure _
theorem within_is (a b : List ByteArray) (ha : a.length < 9223372036854775807) (hb : b.length < 9223372036854775807) : Ev (fun k => terms_Within.f k a b) (WI a b) :=
  within_loop a b hb ha a.length 0 (Int.le_refl _) (by omega)
theorem stands_loop (l : List ByteArray) (s : ByteArray) (hl : l.length < 9223372036854775807) (d : Nat) : ∀ (i : Int), 0 ≤ i → (l.length : Int) - i = d →
    Ev (fun k => usherlaw9_stands.l0 k s l i) (IN s (l.drop i.toNat)) := by
  induction d with
  | zero =>
    intro i h0 hd
    refine Ev.succ ?_
    simp only [usherlaw9_stands.l0]
    rw [drop_le l (by omega)]
    exact Ev.neg (by omega) (Ev.pure _)
  | succ d ih =>
    intro i h0 hd
    have hlt : i < l.length := by omega
    refine Ev.succ ?_
    simp only [usherlaw9_stands.l0]
    rw [drop_rd ByteArray.empty l h0 hlt]
    refine Ev.pos hlt (Ev.pos h0 (Ev.ite (fun e => ?_) (fun e => ?_)))
    · simp only [IN, List.any_cons, e, decide_true, Bool.true_or]
      exact Ev.pure _
    · rw [wr (by omega) (by omega)]
      have := ih (i + 1) (by omega) (by omega)
      simpa only [IN, List.any_cons, Ne.symm e, decide_false, Bool.false_or] using this
theorem stands_is (l : List ByteArray) (s : ByteArray) (hl : l.length < 9223372036854775807) : Ev (fun k => usherlaw9_stands.f k s l) (IN s l) :=
  stands_loop l s hl l.length 0 (Int.le_refl _) (by omega)

theorem j1_is (a b c : List ByteArray) (z : ByteArray) (ha : a.length ≤ 1048576) (hb : b.length ≤ 1048576) : Ev (fun k => usherlaw9_TermsWithinOrder.j1 k false a b c z) true := by
  refine Ev.succ ?_
  simp only [usherlaw9_TermsWithinOrder.j1, List.nil_append, List.length_nil, Nat.zero_add, Option.bind_some]
  refine Ev.neg (by decide) (Ev.pos (by omega) (Ev.pos (by omega) (Ev.bind (within_is (a ++ [z]) b (by simp; omega) (by omega)) (Ev.bind (within_is a b (by omega) (by omega)) ?_))))
  have e : WI (a ++ [z]) b = (WI a b && IN z b) := by simp [WI]
  rw [e]
  refine Ev.ite (fun h => ?_) (fun h => ?_)
  · refine Ev.bind (stands_is b z (by omega)) ?_
    rw [h]
    simp only [Bool.true_and, beq_self_eq_true]
    exact Ev.pure _
  · rw [Bool.eq_false_iff.2 h]
    exact Ev.pure _
theorem j0_is (a b c : List ByteArray) (z : ByteArray) (ha : a.length ≤ 1048576) (hb : b.length ≤ 1048576) (hc : c.length ≤ 1048576) : Ev (fun k => usherlaw9_TermsWithinOrder.j0 k false a b c z) true := by
  refine Ev.succ ?_
  simp only [usherlaw9_TermsWithinOrder.j0]
  refine Ev.neg (by decide) (Ev.bind (within_is a b (by omega) (by omega)) ?_)
  refine Ev.ite (fun h1 => ?_) (fun _ => j1_is a b c z ha hb)
  refine Ev.bind (within_is b c (by omega) (by omega)) ?_
  refine Ev.ite (fun h2 => ?_) (fun _ => j1_is a b c z ha hb)
  refine Ev.bind (within_is a c (by omega) (by omega)) ?_
  have : WI a c = true := WI_iff.2 fun s hs => WI_iff.1 h2 s (WI_iff.1 h1 s hs)
  rw [this]
  exact j1_is a b c z ha hb
theorem length_le (l : List ByteArray) : l.length ≤ (l.map (fun s => s.size + 1)).sum := by
  induction l with
  | nil => simp
  | cons x r ih => simp only [List.length_cons, List.map_cons, List.sum_cons]; omega
theorem withinOrder (a b c : List ByteArray) (z : ByteArray) {F : Prop} (_ : F)
    (hB : ((a.map (fun s => s.size + 1)).sum + 1 + ((b.map (fun s => s.size + 1)).sum + 1 + ((c.map (fun s => s.size + 1)).sum + 1 + (z.size + 1)))) + 1 ≤ 1048576) :
    ∃ k, usherlaw9_TermsWithinOrder.f k a b c z = some true := by
  have ha := length_le a
  have hb := length_le b
  have hc := length_le c
  refine Ev.at_ ?_
  simp only [usherlaw9_TermsWithinOrder.f, List.nil_append, List.length_nil, Nat.zero_add, Option.bind_some]
  have j0 := j0_is a b c z (by omega) (by omega) (by omega)
  have e1 : WI a a = true := WI_iff.2 fun s hs => hs
  have e2 : WI a (a ++ b) = true := WI_iff.2 fun s hs => List.mem_append_left _ hs
  have e3 : WI b (a ++ b) = true := WI_iff.2 fun s hs => List.mem_append_right _ hs
  refine Ev.pos (by omega) (Ev.pos (by omega) (Ev.bind (within_is a a (by omega) (by omega)) (Ev.pos e1 (Ev.bind (within_is a (a ++ b) (by omega) (by simp; omega)) (Ev.pos e2 (Ev.bind (within_is b (a ++ b) (by omega) (by simp; omega)) (Ev.pos e3 (Ev.bind (within_is [] a (by simp) (by omega)) ?_))))))))
  exact j0
end Go.Proofs.Ytopfmcgmfnmikaa.Y
