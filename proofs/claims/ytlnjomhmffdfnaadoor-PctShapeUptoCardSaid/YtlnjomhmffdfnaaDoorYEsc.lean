/- Escape in plain words: byte by byte, and the document's own answer is the same. Condition: at most 2^44 bytes. -/
import Derived.Test.YtlnjomhmffdfnaaDoorYEv
import Derived.Test.YtlnjomhmffdfnaaDoorXEscape
-- IMPORTS
import Derived.Test.YtlnjomhmffdfnaaDoorXx2
import Derived.Test.YtlnjomhmffdfnaaDoorXx3
namespace Go.Proofs.YtlnjomhmffdfnaaDoor.Y
open Go.RowKit Go.Proofs.YtlnjomhmffdfnaaDoorW.PrintWords Go.Proofs.YtlnjomhmffdfnaaDoorW.PrintLast Go.Proofs.YtlnjomhmffdfnaaDoor.X
def hx (n : Int) : Int := if n < 10 then 48 + n else 55 + n
def escI (plus : Bool) (c : Int) : List Int := if unres c = true then [c] else if c = 32 ∧ plus = true then [43] else [37, hx (c / 16), hx (c % 16)]
def escIL (plus : Bool) (l : List Int) : List Int := l.flatMap (escI plus)
theorem all256 {p : Nat → Prop} [DecidablePred p] (h : ∀ n : Fin 256, p n.val) (c : Int) (h0 : 0 ≤ c) (h1 : c ≤ 255) : p c.toNat := h ⟨c.toNat, by omega⟩
theorem hexU_hx : ∀ n : Fin 16, ((hexU n.val).toNat : Int) = hx (n.val : Int) := by decide +kernel
theorem esc1_map (plus : Bool) (c : UInt8) : (esc1 plus c).map (fun b => (b.toNat : Int)) = escI plus (c.toNat : Int) := by
  have hc := c.toNat_lt
  unfold esc1 escI
  by_cases u : unres (c.toNat : Int) = true
  · rw [if_pos u, if_pos u]; rfl
  · rw [if_neg u, if_neg u]
    by_cases sp : c.toNat = 32 ∧ plus = true
    · rw [if_pos sp, if_pos ⟨by omega, sp.2⟩]; rfl
    · rw [if_neg sp, if_neg (fun e => sp ⟨by omega, e.2⟩)]
      have h1 := hexU_hx ⟨c.toNat / 16, by omega⟩
      have h2 := hexU_hx ⟨c.toNat % 16, by omega⟩
      simp only [List.map_cons, List.map_nil]
      rw [h1, h2]
      simp
theorem escL_map (plus : Bool) (l : List UInt8) : (escL plus l).map (fun b => (b.toNat : Int)) = escIL plus (l.map (fun b => (b.toNat : Int))) := by
  unfold escL escIL
  induction l with
  | nil => rfl
  | cons c r ih => simp only [List.flatMap_cons, List.map_append, List.map_cons, ih, esc1_map]
theorem escape_is (s : ByteArray) (plus : Bool) (h : s.size ≤ 35184372088832) : pct_Escape.f s plus = some (strOfNums (escIL plus (bytesOf s))) := by
  unfold pct_Escape.f
  rw [if_pos h]
  congr 1
  apply bytesOf_inj
  have e : bytesOf (⟨(escL plus s.data.toList).toArray⟩ : ByteArray) = escIL plus (bytesOf s) := escL_map plus s.data.toList
  rw [← e, strOfNums_bytesOf]
theorem unres_ref : ∀ n : Fin 256, usherref3_Unreserved.f (n.val : Int) = some (unres (n.val : Int)) := by decide +kernel
theorem digit_hi : ∀ n : Fin 256, usherref3_digit.f ((Int.tdiv (n.val : Int) 16) % 256) = some (hx ((n.val : Int) / 16)) := by decide +kernel
theorem digit_lo : ∀ n : Fin 256, usherref3_digit.f (Int.tmod (n.val : Int) 16) = some (hx ((n.val : Int) % 16)) := by decide +kernel
theorem refEscape_loop (s : ByteArray) (plus : Bool) (hs : s.size ≤ 17592186044416) (d : Nat) : ∀ (acc : List Int) (i : Int), 0 ≤ i → (s.size : Int) - i = d → (acc.length : Int) ≤ 3 * i →
    Ev (fun k => usherref3_Escape.l0 k s plus acc i) (strOfNums (acc ++ escIL plus ((bytesOf s).drop i.toNat))) := by
  induction d with
  | zero =>
    intro acc i h0 hd ha
    refine Ev.succ ?_
    simp only [usherref3_Escape.l0]
    rw [drop_end s (by omega)]
    simp only [escIL, List.flatMap_nil, List.append_nil]
    exact Ev.neg (by omega) (Ev.pure _)
  | succ d ih =>
    intro acc i h0 hd ha
    have hlt : i < s.size := by omega
    have hr := bytesOf_range s (bt s i) (List.mem_of_getElem? (bt_get s h0 hlt))
    obtain ⟨n, hn⟩ : ∃ n : Fin 256, (n.val : Int) = bt s i := ⟨⟨(bt s i).toNat, by omega⟩, by show ((bt s i).toNat : Int) = _; omega⟩
    have u1 := unres_ref n
    have u2 := digit_hi n
    have u3 := digit_lo n
    rw [hn] at u1 u2 u3
    refine Ev.succ ?_
    simp only [usherref3_Escape.l0, u1, Option.bind_some]
    rw [drop_at s h0 hlt, wr (by omega) (by omega)]
    have hc : escIL plus (bt s i :: (bytesOf s).drop (i + 1).toNat) = escI plus (bt s i) ++ escIL plus ((bytesOf s).drop (i + 1).toNat) := by simp [escIL]
    rw [hc, ← List.append_assoc]
    refine Ev.pos hlt (Ev.pos h0 ?_)
    by_cases u : unres (bt s i) = true
    · refine Ev.pos u (Ev.pos (by omega) ?_)
      have e : escI plus (bt s i) = [bt s i] := by unfold escI; rw [if_pos u]
      rw [e]
      exact ih (acc ++ [bt s i]) (i + 1) (by omega) (by omega) (by simp; omega)
    · refine Ev.neg u ?_
      have go : ∀ b : Bool, (b = true ↔ (bt s i = 32 ∧ plus = true)) → Ev (fun k => usherref3_Escape.j1 k s plus acc i (bt s i) b) (strOfNums (acc ++ escI plus (bt s i) ++ escIL plus ((bytesOf s).drop (i + 1).toNat))) := by
        intro b hb
        refine Ev.succ ?_
        simp only [usherref3_Escape.j1, u2, u3, Option.bind_some]
        rw [wr (by omega) (by omega)]
        by_cases sp : bt s i = 32 ∧ plus = true
        · refine Ev.pos (hb.2 sp) (Ev.pos (by omega) ?_)
          have e : escI plus (bt s i) = [43] := by unfold escI; rw [if_neg u, if_pos sp]
          rw [e]
          exact ih (acc ++ [43]) (i + 1) (by omega) (by omega) (by simp; omega)
        · refine Ev.neg (fun e => sp (hb.1 e)) (Ev.pos (by omega) (Ev.pos (by simp; omega) (Ev.pos (by simp; omega) ?_)))
          have e : escI plus (bt s i) = [37, hx (bt s i / 16), hx (bt s i % 16)] := by unfold escI; rw [if_neg u, if_neg sp]
          rw [e]
          have := ih (acc ++ [37] ++ [hx (bt s i / 16)] ++ [hx (bt s i % 16)]) (i + 1) (by omega) (by omega) (by simp; omega)
          simpa only [List.append_assoc, List.cons_append, List.nil_append] using this
      refine Ev.ite (fun hp => go _ ?_) (fun hp => go _ ?_)
      · simp [hp]
      · simp [hp]
theorem refEscape_is (s : ByteArray) (plus : Bool) (hs : s.size ≤ 17592186044416) : Ev (fun k => usherref3_Escape.f k s plus) (strOfNums (escIL plus (bytesOf s))) := by
  have := refEscape_loop s plus hs s.size [] 0 (Int.le_refl _) (by omega) (by simp)
  exact this
end Go.Proofs.YtlnjomhmffdfnaaDoor.Y
