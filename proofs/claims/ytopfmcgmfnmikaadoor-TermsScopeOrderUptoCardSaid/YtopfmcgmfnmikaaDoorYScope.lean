/- terms.Scopes in plain words. Condition: a text of at most 2^40 bytes. -/
import Derived.Test.YtopfmcgmfnmikaaDoorYSp
import Derived.Test.YtopfmcgmfnmikaaDoorYCompact
import Derived.Test.YtopfmcgmfnmikaaDoorXScopes
-- IMPORTS
import Derived.Test.YtopfmcgmfnmikaaDoorXx3
import Derived.Test.YtopfmcgmfnmikaaDoorXx4
set_option linter.unusedVariables false
set_option linter.unusedSimpArgs false
namespace Go.Proofs.YtopfmcgmfnmikaaDoor.Y
open Go.RowKit Go.Proofs.YtopfmcgmfnmikaaDoorW.PrintWords Go.Proofs.YtopfmcgmfnmikaaDoorW.PrintLast Go.Proofs.YtopfmcgmfnmikaaDoor.X
def betB (c : Int) : Bool := decide (33 ≤ c ∧ c ≤ 126)
def qB (c : Int) : Bool := decide (c ≠ 34 ∧ c ≠ 92)
def scopeB (s : ByteArray) : Bool := decide (s.size ≠ 0) && decide (s.size ≤ 32) && (bytesOf s).all betB && (bytesOf s).all qB
theorem bet_loop (s : ByteArray) (hs : s.size ≤ 32) (d : Nat) : ∀ i : Int, 0 ≤ i → (s.size : Int) - i = d → Ev (fun k => terms_between.l0 k s 33 126 (s.size : Int) i) (((bytesOf s).drop i.toNat).all betB) := by
  induction d with
  | zero =>
    intro i h0 h1
    rw [drop_end s (by omega)]
    refine Ev.succ ?_
    simp only [terms_between.l0]
    exact Ev.neg (by omega) (Ev.pure _)
  | succ d ih =>
    intro i h0 h1
    rw [drop_at s h0 (by omega), List.all_cons]
    refine Ev.succ ?_
    simp only [terms_between.l0]
    rw [wr (x := i + 1) (by omega) (by omega)]
    refine Ev.pos (by omega) (Ev.pos h0 (Ev.pos (by omega) (Ev.ite (fun e => ?_) (fun e => Ev.ite (fun e2 => ?_) (fun e2 => ?_)))))
    · have : betB (bt s i) = false := decide_eq_false (by omega)
      rw [this]; exact Ev.pure _
    · have : betB (bt s i) = false := decide_eq_false (by omega)
      rw [this]; exact Ev.pure _
    · have : betB (bt s i) = true := decide_eq_true (by omega)
      rw [this, Bool.true_and]
      exact ih (i + 1) (by omega) (by omega)
theorem between_is (s : ByteArray) : Ev (fun k => terms_between.f k s 32 33 126) (decide (s.size ≠ 0) && decide (s.size ≤ 32) && (bytesOf s).all betB) := by
  simp only [terms_between.f]
  refine Ev.ite (fun e => Ev.succ ?_) (fun e => Ev.succ ?_)
  · simp only [terms_between.j0]
    have : s.size = 0 := (empty_iff s).1 e
    rw [decide_eq_false (by omega)]
    exact Ev.pos trivial (Ev.pure _)
  · have hne : s.size ≠ 0 := fun h => e ((empty_iff s).2 h)
    simp only [terms_between.j0]
    rw [decide_eq_true hne, Bool.true_and]
    by_cases h : s.size ≤ 32
    · rw [decide_eq_true h, Bool.true_and]
      exact Ev.neg (by simp; omega) (bet_loop s h s.size 0 (Int.le_refl _) (by omega))
    · rw [decide_eq_false h, Bool.false_and]
      exact Ev.pos (by simp; omega) (Ev.pure _)
theorem ca_is : ∀ l : List UInt8, Lib.containsAny l [34, 92] = !(l.map (fun b => (b.toNat : Int))).all qB
  | [] => rfl
  | b :: l => by
    have ih := ca_is l
    unfold Lib.containsAny at ih ⊢
    have hg := Lib.indexAny_ge [34, 92] l
    simp only [List.map_cons, List.all_cons]
    by_cases h : b = 34 ∨ b = 92
    · have h1 : ([34, 92] : List UInt8).contains b = true := by rcases h with rfl | rfl <;> rfl
      have h2 : qB (b.toNat : Int) = false := by rcases h with rfl | rfl <;> rfl
      have hv : Lib.indexAny (b :: l) [34, 92] = 0 := by simp only [Lib.indexAny]; rw [if_pos h1]
      rw [h2, decide_eq_true (by omega)]
      rfl
    · have h1 : ¬ ([34, 92] : List UInt8).contains b = true := by
        intro e
        simp only [List.contains_cons, List.contains_nil, Bool.or_false, Bool.or_eq_true, beq_iff_eq] at e
        exact h e
      have h2 : qB (b.toNat : Int) = true := by
        unfold qB
        refine decide_eq_true ⟨fun e => h (.inl (UInt8.toNat_inj.1 ?_)), fun e => h (.inr (UInt8.toNat_inj.1 ?_))⟩
        · show b.toNat = 34; omega
        · show b.toNat = 92; omega
      have hv : Lib.indexAny (b :: l) [34, 92] = if (Lib.indexAny l [34, 92] == -1) = true then -1 else Lib.indexAny l [34, 92] + 1 := by simp only [Lib.indexAny]; rw [if_neg h1]
      rw [h2, Bool.true_and, ← ih]
      by_cases e : Lib.indexAny l [34, 92] = -1
      · rw [e] at hv
        have hv2 : Lib.indexAny (b :: l) [34, 92] = -1 := hv
        rw [decide_eq_false (by omega), decide_eq_false (by omega)]
      · have : (Lib.indexAny l [34, 92] == -1) = false := beq_eq_false_iff_ne.2 e
        rw [this] at hv
        simp only [Bool.false_eq_true, if_false] at hv
        rw [decide_eq_true (by omega), decide_eq_true (by omega)]
theorem scope_is (s : ByteArray) : Ev (fun k => terms_scope.f k s) (scopeB s) := by
  simp only [terms_scope.f]
  unfold scopeB
  refine Ev.bind (between_is s) ?_
  cases h : (decide (s.size ≠ 0) && decide (s.size ≤ 32) && (bytesOf s).all betB) with
  | false => exact Ev.neg (by decide) (Ev.pure _)
  | true =>
    refine Ev.pos rfl ?_
    rw [Bool.true_and]
    simp only [Bool.and_eq_true, decide_eq_true_eq, List.all_eq_true] at h
    have hp : plainB s = true := by
      unfold plainB
      simp only [Bool.and_eq_true, decide_eq_true_eq, List.all_eq_true]
      refine ⟨by omega, fun b hb => ?_⟩
      have := h.2 (b.toNat : Int) (List.mem_map_of_mem hb)
      unfold betB at this
      have := of_decide_eq_true this
      omega
    have hc : strings_ContainsAny.f s (⟨#[34, 92]⟩ : ByteArray) = some (!(bytesOf s).all qB) := by
      unfold strings_ContainsAny.f
      rw [if_pos ⟨hp, by decide⟩]
      congr 1
      exact ca_is s.data.toList
    refine Ev.bind (Ev.of_eq fun _ => hc) ?_
    rw [Bool.not_not]
    exact Ev.pure _
theorem scan_is : ∀ l : List ByteArray, Ev (fun k => scanS k l) (l.all scopeB)
  | [] => Ev.pure _
  | x :: r => by
    simp only [scanS]
    refine Ev.bind (scope_is x) ?_
    rw [List.all_cons]
    cases scopeB x with
    | true => exact Ev.pos rfl (scan_is r)
    | false => exact Ev.neg (by decide) (Ev.pure _)
def wordsW (s : ByteArray) : List ByteArray := (sp 32 (bytesOf s)).map strOfNums
def scopesW (l : List ByteArray) : List ByteArray × Option Int := if l.all scopeB = true then (if (((distinctW l).length : Nat) : Int) > 16 then ([], some 3) else (distinctW l, none)) else ([], some 2)
theorem scopes_is (s : ByteArray) (hs : s.size ≤ 1099511627776) : Ev (fun k => terms_Scopes.f k s) (scopesW (wordsW s)) := by
  have hl : (wordsW s).length < 4611686018427387904 := by
    unfold wordsW
    rw [List.length_map, sp_length]
    have : (bytesOf s).count 32 ≤ (bytesOf s).length := List.count_le_length
    rw [bytesOf_length] at this
    omega
  simp only [terms_Scopes.f]
  refine Ev.bind (split_is s 32 hs) (Ev.bind (scan_is (wordsW s)) ?_)
  unfold scopesW
  refine Ev.ite (fun e => ?_) (fun e => ?_)
  · rw [if_pos e]
    have hd : terms_distinct.f (wordsW s) = some (distinctW (wordsW s)) := by unfold terms_distinct.f; rw [if_pos hl]
    refine Ev.bind (Ev.of_eq fun _ => hd) ?_
    refine Ev.ite (fun e2 => ?_) (fun e2 => ?_)
    · rw [if_pos e2]; exact Ev.pure _
    · rw [if_neg e2]; exact Ev.pure _
  · rw [if_neg e]; exact Ev.pure _
end Go.Proofs.YtopfmcgmfnmikaaDoor.Y
