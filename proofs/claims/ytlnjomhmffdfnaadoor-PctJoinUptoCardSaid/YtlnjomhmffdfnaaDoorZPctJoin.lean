/- PctJoin in plain words: the pairs of two forms with an ampersand between are the pairs of both. Condition: the texts have at most 1048576 bytes. -/
import Derived.Test.YtlnjomhmffdfnaaDoorYPairs2
import Derived.Test.YtlnjomhmffdfnaaDoorYEvPair
-- IMPORTS
import Derived.Test.YtlnjomhmffdfnaaDoorXx0
import Derived.Test.YtlnjomhmffdfnaaDoorXx19
namespace Go.Proofs.YtlnjomhmffdfnaaDoor.Y
open Go.RowKit Go.Proofs.YtlnjomhmffdfnaaDoorW.PrintWords Go.Proofs.YtlnjomhmffdfnaaDoorW.PrintLast Go.Proofs.YtlnjomhmffdfnaaDoor.X
theorem cntB_append : ∀ (a b : List ByteArray), cntB (a ++ b) = cntB a + cntB b
  | [], b => by simp [cntB]
  | x :: a, b => by
    have := cntB_append a b
    simp only [List.cons_append, cntB, this]
    split <;> omega
theorem allB_append : ∀ (a b : List ByteArray), allB (a ++ b) = match allB a with
    | none => none
    | some l => (allB b).map (l ++ ·)
  | [], b => by simp [allB]
  | x :: a, b => by
    have ih := allB_append a b
    by_cases e : x.toList = []
    · simp only [List.cons_append, allB, e, if_true, ih]
    · simp only [List.cons_append, allB, e, if_false, ih]
      cases oneB x with
      | none => rfl
      | some p => cases allB a with
        | none => rfl
        | some l => cases allB b <;> simp
theorem allB_length : ∀ (a : List ByteArray) (l : List S52), allB a = some l → l.length = cntB a
  | [], l, h => by simp only [allB, Option.some.injEq] at h; rw [← h]; rfl
  | x :: a, l, h => by
    by_cases e : x.toList = []
    · simp only [allB, e, if_true] at h
      simp only [cntB, e, if_true]
      exact allB_length a l h
    · simp only [allB, e, if_false] at h
      simp only [cntB, e, if_false]
      cases ho : oneB x with
      | none => rw [ho] at h; cases h
      | some p =>
        rw [ho] at h
        cases ha : allB a with
        | none => rw [ha] at h; cases h
        | some m =>
          rw [ha] at h
          simp only [Option.map_some, Option.some.injEq] at h
          rw [← h, List.length_cons, allB_length a m ha]
theorem prs_cases (P : List ByteArray) : (32 < cntB P ∧ prs P = ([], some 3)) ∨ (cntB P ≤ 32 ∧ allB P = none ∧ prs P = ([], some 2)) ∨ (cntB P ≤ 32 ∧ ∃ ps, allB P = some ps ∧ prs P = (ps, none) ∧ ps.length = cntB P) := by
  unfold prs
  by_cases h : 32 < cntB P
  · exact .inl ⟨h, if_pos h⟩
  · rw [if_neg h]
    cases ha : allB P with
    | none => exact .inr (.inl ⟨by omega, rfl, rfl⟩)
    | some ps => exact .inr (.inr ⟨by omega, ps, rfl, rfl, allB_length P ps ha⟩)
theorem pcs_join (a b : ByteArray) : pcs ((a ++ ⟨#[38]⟩) ++ b) = pcs a ++ pcs b := by
  unfold pcs
  rw [bytesOf_append, bytesOf_append, show bytesOf (⟨#[38]⟩ : ByteArray) = [38] from rfl, List.append_assoc, List.singleton_append, sp_append, List.map_append]
theorem j1_many (l m : List S52) (e f : Option Int) : Ev (fun k => usherlaw3_PctJoin.j1 k l e m f [] (some 3) true) true := by
  refine Ev.succ ?_
  simp only [usherlaw3_PctJoin.j1]
  exact Ev.pos trivial (Ev.neg (by simp) (Ev.pos rfl (Ev.of_eq fun _ => rfl)))
theorem j2_err (l m : List S52) (g : Int) (hg : g = 2 ∨ g = 3) : Ev (fun k => usherlaw3_PctJoin.j2 k l m [] (some g) true) true := by
  refine Ev.succ ?_
  simp only [usherlaw3_PctJoin.j2]
  refine Ev.pos trivial (Ev.neg (by simp) (Ev.ite (fun _ => Ev.of_eq fun _ => rfl) (fun h => Ev.pos ?_ (Ev.of_eq fun _ => rfl))))
  rcases hg with rfl | rfl
  · exact absurd rfl h
  · rfl
theorem j1_err (l m : List S52) (e f : Option Int) (h : e ≠ none ∨ f ≠ none) (g : Int) (hg : g = 2 ∨ g = 3) : Ev (fun k => usherlaw3_PctJoin.j1 k l e m f [] (some g) false) true := by
  refine Ev.succ ?_
  simp only [usherlaw3_PctJoin.j1]
  refine Ev.neg (by decide) (Ev.ite (fun h1 => Ev.neg ?_ (j2_err l m g hg)) (fun _ => j2_err l m g hg))
  rcases h with h | h
  · exact absurd (Option.isNone_iff_eq_none.1 h1) h
  · exact fun z => h (Option.isNone_iff_eq_none.1 z)
theorem j1_ok (l m : List S52) (hl : l.length ≤ 32) (hm : m.length ≤ 32) : Ev (fun k => usherlaw3_PctJoin.j1 k l none m none (if 32 < l.length + m.length then [] else l ++ m) (if 32 < l.length + m.length then some 3 else none) false) true := by
  refine Ev.succ ?_
  simp only [usherlaw3_PctJoin.j1]
  refine Ev.neg (by decide) (Ev.pos rfl (Ev.pos rfl (Ev.succ ?_)))
  simp only [usherlaw3_PctJoin.j2]
  rw [wr (by omega) (by omega)]
  refine Ev.neg (by decide) ?_
  by_cases h : 32 < l.length + m.length
  · rw [if_pos h, if_pos h]
    exact Ev.pos (by omega) (Ev.neg (by simp) (Ev.pos rfl (Ev.of_eq fun _ => rfl)))
  · rw [if_neg h, if_neg h]
    simp only [List.nil_append, List.length_nil, Nat.zero_add, Option.bind_some]
    exact Ev.neg (by omega) (Ev.pos (by omega) (Ev.pos (by omega) (Ev.pos rfl (Ev.bind (samePairs_self (l ++ m) (by simp; omega)) (Ev.pure _)))))
theorem join_j0 (a b : ByteArray) (ha : a.size ≤ 1048576) (hb : b.size ≤ 1048576) : Ev (fun k => usherlaw3_PctJoin.j0 k false a b) true := by
  have hz : (a ++ (⟨#[38]⟩ : ByteArray)).size = a.size + 1 := by rw [size_append]; rfl
  have hz2 : ((a ++ (⟨#[38]⟩ : ByteArray)) ++ b).size = a.size + 1 + b.size := by rw [size_append, hz]
  refine Ev.succ ?_
  simp only [usherlaw3_PctJoin.j0]
  refine Ev.neg (by decide) (Ev.bind (pairs_is a (by omega)) (Ev.bind (pairs_is b (by omega)) (Ev.pos (by omega) (Ev.pos (by omega) (Ev.bind (pairs_is _ (by omega)) ?_)))))
  rw [pcs_join]
  have hc := cntB_append (pcs a) (pcs b)
  have hall := allB_append (pcs a) (pcs b)
  have many : 32 < cntB (pcs a ++ pcs b) → prs (pcs a ++ pcs b) = ([], some 3) := fun h => if_pos h
  have few : ¬ 32 < cntB (pcs a ++ pcs b) → prs (pcs a ++ pcs b) = resB [] (allB (pcs a ++ pcs b)) := fun h => if_neg h
  have some2 : (allB (pcs a) = none ∨ allB (pcs b) = none) → ∃ g, (g = 2 ∨ g = 3) ∧ prs (pcs a ++ pcs b) = ([], some g) := fun h => by
    by_cases h3 : 32 < cntB (pcs a ++ pcs b)
    · exact ⟨3, .inr rfl, many h3⟩
    · refine ⟨2, .inl rfl, ?_⟩
      rw [few h3, hall]
      rcases h with h | h
      · rw [h]; rfl
      · cases allB (pcs a) with
        | none => rfl
        | some l => rw [h]; rfl
  rcases prs_cases (pcs a) with ⟨c1, p1⟩ | ⟨c1, a1, p1⟩ | ⟨c1, l, a1, p1, l1⟩
  · rw [p1, many (by omega)]
    refine Ev.neg (by simp) (Ev.pos rfl ?_)
    exact j1_many _ _ _ _
  · rcases prs_cases (pcs b) with ⟨c2, p2⟩ | ⟨c2, a2, p2⟩ | ⟨c2, m, a2, p2, l2⟩
    · rw [p1, p2, many (by omega)]
      refine Ev.neg (by simp) (Ev.neg (by decide) (Ev.neg (by simp) ?_))
      exact j1_many _ _ _ _
    · obtain ⟨g, hg, pg⟩ := some2 (.inl a1)
      rw [p1, p2, pg]
      refine Ev.neg (by simp) (Ev.neg (by decide) (Ev.neg (by simp) ?_))
      exact j1_err _ _ _ _ (.inl (by simp)) g hg
    · obtain ⟨g, hg, pg⟩ := some2 (.inl a1)
      rw [p1, p2, pg]
      refine Ev.neg (by simp) (Ev.neg (by decide) (Ev.pos rfl ?_))
      exact j1_err _ _ _ _ (.inl (by simp)) g hg
  · rcases prs_cases (pcs b) with ⟨c2, p2⟩ | ⟨c2, a2, p2⟩ | ⟨c2, m, a2, p2, l2⟩
    · rw [p1, p2, many (by omega)]
      refine Ev.pos rfl (Ev.neg (by simp) ?_)
      exact j1_many _ _ _ _
    · obtain ⟨g, hg, pg⟩ := some2 (.inr a2)
      rw [p1, p2, pg]
      refine Ev.pos rfl (Ev.neg (by simp) ?_)
      exact j1_err _ _ _ _ (.inr (by simp)) g hg
    · have hp : prs (pcs a ++ pcs b) = (if 32 < l.length + m.length then [] else l ++ m, if 32 < l.length + m.length then some 3 else none) := by
        by_cases h3 : 32 < cntB (pcs a ++ pcs b)
        · rw [many h3, if_pos (by omega), if_pos (by omega)]
        · rw [few h3, hall, a1, a2, if_neg (by omega), if_neg (by omega)]
          rfl
      rw [p1, p2, hp]
      refine Ev.pos rfl (Ev.pos rfl ?_)
      exact j1_ok l m (by omega) (by omega)
theorem kv_prs : prs (pcs (⟨#[107, 61, 118]⟩ : ByteArray)) = ([⟨⟨#[107]⟩, ⟨#[118]⟩⟩], none) := by
  have e : pcs (⟨#[107, 61, 118]⟩ : ByteArray) = [strOfNums [107, 61, 118]] := rfl
  have h1 : bytesOf (strOfNums [107, 61, 118]) = [107, 61, 118] := rfl
  have ht : ¬ (strOfNums [107, 61, 118]).toList = [] := fun h => by rw [empty_bytes, h1] at h; cases h
  have ho : oneB (strOfNums [107, 61, 118]) = some ⟨⟨#[107]⟩, ⟨#[118]⟩⟩ := by
    unfold oneB
    rw [h1]
    rfl
  rw [e]
  simp only [prs, cntB, allB, ht, if_false, ho, Option.map_some, resB, List.nil_append]
  rfl
theorem join (a b : ByteArray) {F : Prop} (_ : F) (hB : (a.size + 1 + (b.size + 1)) + 1 ≤ 1048576) : ∃ k, usherlaw3_PctJoin.f k a b = some true := by
  refine Ev.at_ ?_
  simp only [usherlaw3_PctJoin.f]
  refine Ev.bind (pairs_is _ (show (3 : Nat) ≤ 1099511627776 by decide)) ?_
  rw [kv_prs]
  have e1 : (rd_T52 [(⟨⟨#[107]⟩, ⟨#[118]⟩⟩ : S52)] 0) = ⟨⟨#[107]⟩, ⟨#[118]⟩⟩ := rfl
  simp only [e1]
  have t1 : (⟨#[107]⟩ : ByteArray).toList = [107] := by rw [toList_data]
  have t2 : (⟨#[118]⟩ : ByteArray).toList = [118] := by rw [toList_data]
  rw [t1, t2]
  refine Ev.pos rfl (Ev.pos rfl (Ev.pos (by decide) (Ev.pos rfl ?_)))
  have e2 : (([118] : List UInt8) != [118]) = false := by decide
  rw [e2]
  exact join_j0 a b (by omega) (by omega)
end Go.Proofs.YtlnjomhmffdfnaaDoor.Y
