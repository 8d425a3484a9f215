/- The document's own Unescape in plain words. Condition: the text is within the reach. -/
import Derived.Test.YtlnjomhmffdfnaaDoorYUnescP
-- IMPORTS
import Derived.Test.YtlnjomhmffdfnaaDoorXx5
namespace Go.Proofs.YtlnjomhmffdfnaaDoor.Y
open Go.RowKit Go.Proofs.YtlnjomhmffdfnaaDoorW.PrintWords Go.Proofs.YtlnjomhmffdfnaaDoorW.PrintLast Go.Proofs.YtlnjomhmffdfnaaDoor.X
theorem HexValue_is (c : Int) (h0 : 0 ≤ c) (h1 : c ≤ 255) (k : Nat) (hk : 2 ≤ k) : usherref3_HexValue.f k c = some (if hexv c = 16 then -1 else hexv c) :=
  lift (fun k => usherref3_HexValue.mono c k) hk (byte_cases (p := fun c => usherref3_HexValue.f 2 c = some (if hexv c = 16 then -1 else hexv c)) (by decide +kernel) c h0 h1)
theorem ref_loop (s : ByteArray) (plus : Bool) (hn : s.size ≤ 140737488351232) (d : Nat) : ∀ (k : Nat) (acc : List Int) (i : Int), 0 ≤ i → i ≤ s.size → (s.size : Int) - i = d → 2 * d + 4 ≤ k → (acc.length : Int) ≤ i →
    usherref3_Unescape.l0 k s plus acc i = some (rRes acc (ue plus 0 0 ((bytesOf s).drop i.toNat))) := by
  induction d using Nat.strongRecOn with
  | _ d ih =>
    intro k acc i h0 h1 hd hk ha
    obtain ⟨k, rfl⟩ : ∃ m, k = m + 1 := ⟨k - 1, by omega⟩
    by_cases hlt : i < (s.size : Int)
    · have hb := bt_range s i
      rw [drop_at s h0 hlt]
      simp only [usherref3_Unescape.l0]
      rw [if_pos hlt, if_pos h0, wr (x := i + 2) (by omega) (by omega), wr (x := i + 1) (by omega) (by omega)]
      obtain ⟨k, rfl⟩ : ∃ m, k = m + 1 := ⟨k - 1, by omega⟩
      have next : ∀ x, (if acc.length < 140737488355328 then usherref3_Unescape.l0 k s plus (acc ++ [x]) (i + 1) else none) = some (rRes (acc ++ [x]) (ue plus 0 0 ((bytesOf s).drop (i + 1).toNat))) := by
        intro x
        rw [if_pos (by omega)]
        exact ih (d - 1) (by omega) k (acc ++ [x]) (i + 1) (by omega) (by omega) (by omega) (by omega) (by simp; omega)
      by_cases c : bt s i = 37
      · rw [if_pos c]
        by_cases far : i + 2 ≥ (s.size : Int)
        · rw [if_pos far, ue_short plus _ _ (by rw [List.length_drop, bytesOf_length]; omega) c]
          rfl
        · have hb1 := bt_range s (i + 1)
          have hb2 := bt_range s (i + 2)
          have r1 := hexv_range (bt s (i + 1))
          have r2 := hexv_range (bt s (i + 2))
          rw [if_neg far, if_pos (by omega), if_pos (by omega), HexValue_is _ hb1.1 hb1.2 _ (by omega)]
          simp only [Option.bind_some]
          rw [if_pos (by omega), if_pos (by omega), HexValue_is _ hb2.1 hb2.2 _ (by omega)]
          simp only [Option.bind_some]
          rw [drop_at s (i := i + 1) (by omega) (by omega), show i + 1 + 1 = i + 2 by omega, drop_at s (i := i + 2) (by omega) (by omega)]
          simp only [ue, c, if_true]
          by_cases v1 : hexv (bt s (i + 1)) = 16
          · rw [if_pos v1, if_pos (by omega), if_pos (by omega)]
            rfl
          · rw [if_neg v1, if_neg (show ¬ hexv (bt s (i + 1)) < 0 by omega), if_neg (show ¬ hexv (bt s (i + 1)) > 15 by omega)]
            by_cases v2 : hexv (bt s (i + 2)) = 16
            · rw [if_pos v2, if_pos (show (-1 : Int) < 0 by omega), if_pos (show hexv (bt s (i + 2)) > 15 by omega)]
              rfl
            · rw [if_neg v2, if_neg (show ¬ hexv (bt s (i + 2)) < 0 by omega), if_neg (show ¬ hexv (bt s (i + 2)) > 15 by omega), if_pos (show acc.length < 140737488355328 by omega), wr (x := i + 2 + 1) (by omega) (by omega), wr (x := 16 * hexv (bt s (i + 1))) (by omega) (by omega), wr (x := 16 * hexv (bt s (i + 1)) + hexv (bt s (i + 2))) (by omega) (by omega), show (16 * hexv (bt s (i + 1)) + hexv (bt s (i + 2))) % 256 = 16 * hexv (bt s (i + 1)) + hexv (bt s (i + 2)) by omega, rRes_map]
              exact ih (d - 3) (by omega) _ _ (i + 2 + 1) (by omega) (by omega) (by omega) (by omega) (by simp; omega)
      · rw [if_neg c]
        simp only [ue]
        rw [if_neg c]
        by_cases lo : bt s i < 33
        · rw [if_pos lo, if_pos (.inl lo)]
          simp only [usherref3_Unescape.j1, if_true]
          rfl
        · rw [if_neg lo]
          by_cases hi : bt s i > 126
          · simp only [usherref3_Unescape.j1, decide_eq_true hi, if_true]
            rw [if_pos (.inr hi)]
            rfl
          · simp only [usherref3_Unescape.j1, decide_eq_false hi, Bool.false_eq_true, if_false]
            rw [if_neg (show ¬ (bt s i < 33 ∨ 126 < bt s i) by omega), rRes_map, wr (x := i + 1) (by omega) (by omega)]
            by_cases pl : plus = true
            · rw [if_pos pl]
              by_cases p : bt s i = 43
              · rw [if_pos p, next, if_pos ⟨pl, p⟩]
              · rw [if_neg p, next, if_neg (by simp [p])]
            · rw [if_neg pl, next, if_neg (by simp [pl])]
    · simp only [usherref3_Unescape.l0]
      rw [if_neg hlt, drop_end s (by omega)]
      simp [ue, rRes]

theorem refUnescape_is (s : ByteArray) (plus : Bool) (hn : s.size ≤ 140737488351232) (k : Nat) (hk : 2 * s.size + 4 ≤ k) :
    usherref3_Unescape.f k s plus = some (rRes [] (ue plus 0 0 (bytesOf s))) :=
  ref_loop s plus hn s.size k [] 0 (by omega) (by omega) (by omega) hk (by simp)
end Go.Proofs.YtlnjomhmffdfnaaDoor.Y
