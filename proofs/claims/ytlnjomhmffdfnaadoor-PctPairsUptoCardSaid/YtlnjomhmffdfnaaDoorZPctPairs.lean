/- PctPairs in plain words. Condition: a text of less than 2^20 bytes. -/
import Derived.Test.YtlnjomhmffdfnaaDoorYRefPairs
import Derived.Test.YtlnjomhmffdfnaaDoorXPairs
-- IMPORTS
import Derived.Test.YtlnjomhmffdfnaaDoorXx0
import Derived.Test.YtlnjomhmffdfnaaDoorXx6
import Derived.Test.YtlnjomhmffdfnaaDoorXx12
namespace Go.Proofs.YtlnjomhmffdfnaaDoor.Y
open Go.RowKit Go.Proofs.YtlnjomhmffdfnaaDoorW.PrintWords Go.Proofs.YtlnjomhmffdfnaaDoorW.PrintLast Go.Proofs.YtlnjomhmffdfnaaDoor.X
theorem same_loop (l : List S52) (hl : l.length < 4398046511104) (d : Nat) : ∀ i : Int, 0 ≤ i → (l.length : Int) - i = d → Ev (fun k => usherref0_SamePairs.l0 k l l i) true := by
  induction d with
  | zero =>
    intro i h0 hd
    refine Ev.succ ?_
    simp only [usherref0_SamePairs.l0]
    exact Ev.neg (by omega) (Ev.pure _)
  | succ d ih =>
    intro i h0 hd
    refine Ev.succ ?_
    simp only [usherref0_SamePairs.l0]
    rw [wr (x := i + 1) (by omega) (by omega)]
    exact Ev.pos (by omega) (Ev.pos h0 (Ev.pos (by omega) (Ev.neg (by simp) (ih (i + 1) (by omega) (by omega)))))
theorem same_is (l : List S52) (hl : l.length < 4398046511104) : Ev (fun k => usherref0_SamePairs.f k l l) true := by
  simp only [usherref0_SamePairs.f]
  exact Ev.pos trivial (same_loop l hl l.length 0 (Int.le_refl _) (by omega))
theorem ab_prs : prs (pcs a1b2) = (twoL, none) := by
  have e : pcs a1b2 = [strOfNums [97, 61, 49], strOfNums [98, 61, 50]] := rfl
  have ha : bytesOf (strOfNums [97, 61, 49]) = [97, 61, 49] := rfl
  have hb : bytesOf (strOfNums [98, 61, 50]) = [98, 61, 50] := rfl
  have ta : ¬ (strOfNums [97, 61, 49]).toList = [] := fun h => by rw [empty_bytes, ha] at h; cases h
  have tb : ¬ (strOfNums [98, 61, 50]).toList = [] := fun h => by rw [empty_bytes, hb] at h; cases h
  have oa : oneB (strOfNums [97, 61, 49]) = some ⟨⟨#[97]⟩, ⟨#[49]⟩⟩ := by
    unfold oneB
    rw [ha]
    rfl
  have ob : oneB (strOfNums [98, 61, 50]) = some ⟨⟨#[98]⟩, ⟨#[50]⟩⟩ := by
    unfold oneB
    rw [hb]
    rfl
  rw [e]
  simp only [prs, cntB, allB, ta, tb, if_false, oa, ob, Option.map_some, resB, List.nil_append]
  rfl
theorem Ev.and {α β : Type} {f : Nat → Option α} {g : Nat → Option β} {a : α} {b : β} (h : Ev f a) (h2 : Ev g b) : ∃ K, ∀ k, K ≤ k → f k = some a ∧ g k = some b := by
  obtain ⟨K, h⟩ := h
  obtain ⟨M, h2⟩ := h2
  exact ⟨K + M, fun k hk => ⟨h k (by omega), h2 k (by omega)⟩⟩
theorem allB_len : ∀ (a : List ByteArray) (l : List S52), allB a = some l → l.length = cntB a
  | [], l, h => by obtain rfl := Option.some.inj h; rfl
  | x :: r, l, h => by
    by_cases e : x.toList = []
    · simp only [allB, e, if_true] at h
      simp only [cntB, e, if_true]
      exact allB_len r l h
    · simp only [allB, e, if_false] at h
      simp only [cntB, e, if_false]
      cases h1 : oneB x with
      | none => rw [h1] at h; cases h
      | some p =>
        rw [h1] at h
        cases h2 : allB r with
        | none => rw [h2] at h; cases h
        | some m =>
          rw [h2] at h
          obtain rfl := Option.some.inj h
          rw [List.length_cons, allB_len r m h2]
/-- the program's answer and the document's -/
theorem both (P : List ByteArray) : ∃ (l : List S52) (e : Option Int) (f : Int), prs P = (l, e) ∧ rprs P = (l, f) ∧ usherkit_Num.f e = some f ∧ l.length ≤ 32 := by
  unfold prs rprs
  by_cases h : 32 < cntB P
  · rw [if_pos h, if_pos h]
    exact ⟨[], some 3, 3, rfl, rfl, rfl, by simp⟩
  · rw [if_neg h, if_neg h]
    cases hB : allB P with
    | none => exact ⟨[], some 2, 2, rfl, rfl, rfl, by simp⟩
    | some l => exact ⟨l, none, 0, rfl, rfl, rfl, by rw [allB_len P l hB]; omega⟩
theorem pairs (s : ByteArray) {F : Prop} (_ : F) (hs : s.size + 1 ≤ 1048576) : ∃ k, usherlaw3_PctPairs.f k s = some true := by
  obtain ⟨l, e, f, h1, h2, h3, h4⟩ := both (pcs s)
  obtain ⟨K1, g1⟩ := pairs_is s (by omega)
  obtain ⟨K2, g2⟩ := pairs_is a1b2 (by decide)
  obtain ⟨K3, g3⟩ := refPairs_is s (by omega)
  obtain ⟨K4, g4⟩ := same_is l (by omega)
  obtain ⟨K5, g5⟩ := same_is twoL (by decide)
  refine ⟨K1 + K2 + K3 + K4 + K5, ?_⟩
  unfold usherlaw3_PctPairs.f
  rw [if_pos]
  refine ⟨l, l, e, f, ?_, ?_, ?_, h3, ?_, ?_, by omega⟩
  · rw [← h1]; exact g1 _ (by omega)
  · rw [← ab_prs]; exact g2 _ (by omega)
  · rw [← h2]; exact g3 _ (by omega)
  · exact g4 _ (by omega)
  · exact g5 _ (by omega)
end Go.Proofs.YtlnjomhmffdfnaaDoor.Y
