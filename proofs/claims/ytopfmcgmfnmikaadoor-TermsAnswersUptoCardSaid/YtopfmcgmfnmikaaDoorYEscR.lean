/- The document's Escape in plain words. Condition: at most 2^44 bytes. -/
import Derived.Test.YtopfmcgmfnmikaaDoorYEscP
-- IMPORTS
import Derived.Test.YtopfmcgmfnmikaaDoorXx4
import Derived.Test.YtopfmcgmfnmikaaDoorXx6
namespace Go.Proofs.YtopfmcgmfnmikaaDoor.Y
open Go.RowKit Go.Proofs.YtopfmcgmfnmikaaDoorW.PrintWords Go.Proofs.YtopfmcgmfnmikaaDoorW.PrintLast Go.Proofs.YtopfmcgmfnmikaaDoor.X
theorem unres_ref : ∀ n : Fin 256, usherref3_Unreserved.f (n.val : Int) = some (unres (n.val : Int)) := by decide +kernel
theorem digit_hi : ∀ n : Fin 256, usherref3_digit.f ((Int.tdiv (n.val : Int) 16) % 256) = some (hx ((n.val : Int) / 16)) := by decide +kernel
theorem digit_lo : ∀ n : Fin 256, usherref3_digit.f (Int.tmod (n.val : Int) 16) = some (hx ((n.val : Int) % 16)) := by decide +kernel
theorem refEscape_loop (s : ByteArray) (plus : Bool) (hs : s.size ≤ 17592186044416) (d : Nat) : ∀ (acc : List Int) (i : Int), 0 ≤ i → (s.size : Int) - i = d → (acc.length : Int) ≤ 3 * i →
    Ev (fun k => usherref3_Escape.l0 k s plus acc i) (strOfNums (acc ++ escIL plus ((bytesOf s).drop i.toNat))) := by
  induction d with
  | zero =>
    intro acc i h0 hd ha
    refine Ev.succ ?_
    simp only [usherref3_Escape.l0]
    rw [drop_end s (by omega)]
    simp only [escIL, List.flatMap_nil, List.append_nil]
    exact Ev.neg (by omega) (Ev.pure _)
  | succ d ih =>
    intro acc i h0 hd ha
    have hlt : i < s.size := by omega
    have hr := bytesOf_range s (bt s i) (List.mem_of_getElem? (bt_get s h0 hlt))
    obtain ⟨n, hn⟩ : ∃ n : Fin 256, (n.val : Int) = bt s i := ⟨⟨(bt s i).toNat, by omega⟩, by show ((bt s i).toNat : Int) = _; omega⟩
    have u1 := unres_ref n
    have u2 := digit_hi n
    have u3 := digit_lo n
    rw [hn] at u1 u2 u3
    refine Ev.succ ?_
    simp only [usherref3_Escape.l0, u1, Option.bind_some]
    rw [drop_at s h0 hlt, wr (by omega) (by omega)]
    have hc : escIL plus (bt s i :: (bytesOf s).drop (i + 1).toNat) = escI plus (bt s i) ++ escIL plus ((bytesOf s).drop (i + 1).toNat) := by simp [escIL]
    rw [hc, ← List.append_assoc]
    refine Ev.pos hlt (Ev.pos h0 ?_)
    by_cases u : unres (bt s i) = true
    · refine Ev.pos u (Ev.pos (by omega) ?_)
      have e : escI plus (bt s i) = [bt s i] := by unfold escI; rw [if_pos u]
      rw [e]
      exact ih (acc ++ [bt s i]) (i + 1) (by omega) (by omega) (by simp; omega)
    · refine Ev.neg u ?_
      have go : ∀ b : Bool, (b = true ↔ (bt s i = 32 ∧ plus = true)) → Ev (fun k => usherref3_Escape.j1 k s plus acc i (bt s i) b) (strOfNums (acc ++ escI plus (bt s i) ++ escIL plus ((bytesOf s).drop (i + 1).toNat))) := by
        intro b hb
        refine Ev.succ ?_
        simp only [usherref3_Escape.j1, u2, u3, Option.bind_some]
        rw [wr (by omega) (by omega)]
        by_cases sp : bt s i = 32 ∧ plus = true
        · refine Ev.pos (hb.2 sp) (Ev.pos (by omega) ?_)
          have e : escI plus (bt s i) = [43] := by unfold escI; rw [if_neg u, if_pos sp]
          rw [e]
          exact ih (acc ++ [43]) (i + 1) (by omega) (by omega) (by simp; omega)
        · refine Ev.neg (fun e => sp (hb.1 e)) (Ev.pos (by omega) (Ev.pos (by simp; omega) (Ev.pos (by simp; omega) ?_)))
          have e : escI plus (bt s i) = [37, hx (bt s i / 16), hx (bt s i % 16)] := by unfold escI; rw [if_neg u, if_neg sp]
          rw [e]
          have := ih (acc ++ [37] ++ [hx (bt s i / 16)] ++ [hx (bt s i % 16)]) (i + 1) (by omega) (by omega) (by simp; omega)
          simpa only [List.append_assoc, List.cons_append, List.nil_append] using this
      refine Ev.ite (fun hp => go _ ?_) (fun hp => go _ ?_)
      · simp [hp]
      · simp [hp]
theorem refEscape_is (s : ByteArray) (plus : Bool) (hs : s.size ≤ 17592186044416) : Ev (fun k => usherref3_Escape.f k s plus) (strOfNums (escIL plus (bytesOf s))) := by
  have := refEscape_loop s plus hs s.size [] 0 (Int.le_refl _) (by omega) (by simp)
  exact this
end Go.Proofs.YtopfmcgmfnmikaaDoor.Y
