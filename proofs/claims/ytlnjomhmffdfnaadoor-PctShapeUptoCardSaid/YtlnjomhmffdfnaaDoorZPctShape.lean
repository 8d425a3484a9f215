/- PctShape in plain words: what Escape writes, byte by byte. Condition: at most 1048576 bytes. -/
import Derived.Test.YtlnjomhmffdfnaaDoorYForm
import Derived.Test.YtlnjomhmffdfnaaDoorYUnesc
-- IMPORTS
import Derived.Test.YtlnjomhmffdfnaaDoorXx7
import Derived.Test.YtlnjomhmffdfnaaDoorXx8
namespace Go.Proofs.YtlnjomhmffdfnaaDoor.Y
open Go.RowKit Go.Proofs.YtlnjomhmffdfnaaDoorW.PrintWords Go.Proofs.YtlnjomhmffdfnaaDoorW.PrintLast Go.Proofs.YtlnjomhmffdfnaaDoor.X
theorem bt_head (W : ByteArray) (i : Int) (h0 : 0 ≤ i) {x : Int} {r : List Int} (h : (bytesOf W).drop i.toNat = x :: r) : bt W i = x ∧ i < W.size ∧ (bytesOf W).drop (i + 1).toNat = r := by
  have hlt : i < W.size := by
    by_cases hlt : i < W.size
    · exact hlt
    · rw [drop_end W (by omega)] at h
      cases h
  rw [drop_at W h0 hlt] at h
  obtain ⟨h1, h2⟩ := List.cons.inj h
  exact ⟨h1, hlt, h2⟩
theorem free_is (c : Int) (h0 : 0 ≤ c) (h1 : c ≤ 255) (k : Nat) (hk : 3 ≤ k) : usherlaw3_free.f k c = some (unres c) :=
  lift (fun k => usherlaw3_free.mono c k) hk (byte_cases (p := fun c => usherlaw3_free.f 3 c = some (unres c)) (by decide +kernel) c h0 h1)
theorem small_hx : ∀ q : Fin 16, usherlaw3_small.f 3 (hx (q.val : Int)) false = some (q.val : Int) := by decide +kernel
theorem small_is' (q : Int) (h0 : 0 ≤ q) (h1 : q < 16) (k : Nat) (hk : 3 ≤ k) : usherlaw3_small.f k (hx q) false = some q := by
  have := small_hx ⟨q.toNat, by omega⟩
  simp only [Int.toNat_of_nonneg h0] at this
  exact lift (fun k => usherlaw3_small.mono (hx q) false k) hk this
theorem shape_loop (s W : ByteArray) (plus : Bool) (hs : s.size ≤ 1099511627776) (hW : W.size ≤ 35184372088832) (d : Nat) : ∀ (x4 x5 : Int), 0 ≤ x4 → x4 ≤ W.size → 0 ≤ x5 → (s.size : Int) - x5 = d →
    (bytesOf W).drop x4.toNat = escIL plus ((bytesOf s).drop x5.toNat) → Ev (fun k => usherlaw3_PctShape.l0 k W x4 x5 s plus) true := by
  induction d with
  | zero =>
    intro x4 x5 h0 h1 h2 hd hdr
    refine Ev.succ ?_
    simp only [usherlaw3_PctShape.l0]
    refine Ev.neg (by omega) ?_
    rw [drop_end s (by omega)] at hdr
    have : W.size ≤ x4.toNat := by
      have h3 := congrArg List.length hdr
      rw [List.length_drop, bytesOf_length] at h3
      simp only [escIL, List.flatMap_nil, List.length_nil] at h3
      omega
    have e : (x4 == (W.size : Int)) = true := beq_iff_eq.2 (by omega)
    rw [e]
    exact Ev.pure _
  | succ d ih =>
    intro x4 x5 h0 h1 h2 hd hdr
    have hlt : x5 < s.size := by omega
    obtain ⟨c, hc⟩ : ∃ c, bt s x5 = c := ⟨_, rfl⟩
    have hr := bytesOf_range s (bt s x5) (List.mem_of_getElem? (bt_get s h2 hlt))
    rw [hc] at hr
    rw [drop_at s h2 hlt, hc] at hdr
    have hcons : escIL plus (c :: (bytesOf s).drop (x5 + 1).toNat) = escI plus c ++ escIL plus ((bytesOf s).drop (x5 + 1).toNat) := by simp [escIL]
    rw [hcons] at hdr
    have third : unres c = false → ¬ (c = 32 ∧ plus = true) → Ev (fun k => usherlaw3_PctShape.j1 k W x4 x5 c false s plus) true := by
      intro hu hsp
      have e : escI plus c = [37, hx (c / 16), hx (c % 16)] := by unfold escI; rw [if_neg (by rw [hu]; decide), if_neg hsp]
      rw [e] at hdr
      obtain ⟨b0, l0, r0⟩ := bt_head W x4 h0 hdr
      obtain ⟨b1, l1, r1⟩ := bt_head W (x4 + 1) (by omega) r0
      obtain ⟨b2, l2, r2⟩ := bt_head W (x4 + 1 + 1) (by omega) r1
      rw [show x4 + 1 + 1 = x4 + 2 by omega] at b2 l2 r2
      rw [show x4 + 2 + 1 = x4 + 3 by omega] at r2
      refine Ev.succ ?_
      simp only [usherlaw3_PctShape.j1]
      rw [wr (x := x4 + 2) (by omega) (by omega)]
      refine Ev.neg Bool.false_ne_true (Ev.neg (by omega) (Ev.pos h0 (Ev.pos l0 ?_)))
      have e37 : (bt W x4 != 37) = false := by rw [b0]; rfl
      rw [e37]
      refine Ev.succ ?_
      simp only [usherlaw3_PctShape.j2]
      rw [wr (x := x4 + 2) (by omega) (by omega), wr (x := x4 + 1) (by omega) (by omega), b1, b2]
      refine Ev.neg Bool.false_ne_true (Ev.pos (by omega) (Ev.pos l1 (Ev.bind (r := c / 16) ⟨3, fun k hk => small_is' _ (by omega) (by omega) k hk⟩ (Ev.pos (by omega) (Ev.pos l2 (Ev.bind (r := c % 16) ⟨3, fun k hk => small_is' _ (by omega) (by omega) k hk⟩ ?_))))))
      rw [wr (x := 16 * (c / 16)) (by omega) (by omega), wr (x := 16 * (c / 16) + c % 16) (by omega) (by omega), wr (x := c) (by omega) (by omega), wr (x := x4 + 3) (by omega) (by omega), wr (x := x5 + 1) (by omega) (by omega)]
      refine Ev.pos (by omega) (Ev.bind (r := c % 16) ⟨3, fun k hk => small_is' _ (by omega) (by omega) k hk⟩ (Ev.neg (by omega) ?_))
      exact ih (x4 + 3) (x5 + 1) (by omega) (by omega) (by omega) (by omega) r2
    refine Ev.succ ?_
    simp only [usherlaw3_PctShape.l0, hc]
    refine Ev.pos hlt (Ev.pos h2 (Ev.bind (r := unres c) ⟨3, fun k hk => free_is c hr.1 hr.2 k hk⟩ ?_))
    by_cases hu : unres c = true
    · refine Ev.pos hu (Ev.succ ?_)
      have e : escI plus c = [c] := by unfold escI; rw [if_pos hu]
      rw [e] at hdr
      obtain ⟨b0, l0, r0⟩ := bt_head W x4 h0 hdr
      have h32 : ¬ c = 32 := by rintro rfl; exact absurd hu (by decide)
      simp only [usherlaw3_PctShape.j1]
      rw [wr (x := x4 + 1) (by omega) (by omega), wr (x := x5 + 1) (by omega) (by omega)]
      exact Ev.pos trivial (Ev.neg h32 (Ev.neg (by omega) (Ev.pos h0 (Ev.pos l0 (Ev.pos b0 (ih (x4 + 1) (x5 + 1) (by omega) (by omega) (by omega) (by omega) r0))))))
    · have hu' : unres c = false := by simpa using hu
      refine Ev.neg hu (Ev.ite (fun hp => ?_) (fun hp => third hu' (fun e => hp e.2)))
      by_cases h32 : c = 32
      · have e : escI plus c = [43] := by unfold escI; rw [if_neg hu, if_pos ⟨h32, hp⟩]
        rw [e] at hdr
        obtain ⟨b0, l0, r0⟩ := bt_head W x4 h0 hdr
        have e32 : (c == 32) = true := beq_iff_eq.2 h32
        rw [e32]
        refine Ev.succ ?_
        simp only [usherlaw3_PctShape.j1]
        rw [wr (x := x4 + 1) (by omega) (by omega), wr (x := x5 + 1) (by omega) (by omega)]
        exact Ev.pos trivial (Ev.pos h32 (Ev.neg (by omega) (Ev.pos h0 (Ev.pos l0 (Ev.pos b0 (ih (x4 + 1) (x5 + 1) (by omega) (by omega) (by omega) (by omega) r0))))))
      · have e32 : (c == 32) = false := beq_eq_false_iff_ne.2 h32
        rw [e32]
        exact third hu' (fun e => h32 e.1)
theorem shape (s : ByteArray) (plus : Bool) {F : Prop} (_ : F) (hB : (s.size + 1 + 1) + 1 ≤ 1048576) : ∃ k, usherlaw3_PctShape.f k s plus = some true := by
  refine Ev.at_ ?_
  have hsz : (strOfNums (escIL plus (bytesOf s))).size ≤ 3 * s.size := by rw [strOfNums_size]; exact escIL_le plus s
  show Ev (fun k => (pct_Escape.f s plus).bind fun t165 => usherlaw3_PctShape.l0 k t165 0 0 s plus) true
  refine Ev.bind (f := fun _ => _) (Ev.of_eq fun _ => escape_is s plus (by omega)) ?_
  refine shape_loop s _ plus (by omega) (by omega) s.size 0 0 (Int.le_refl _) (by omega) (Int.le_refl _) (by omega) ?_
  rw [bytesOf_strOfNums (escIL_range plus s)]
  rfl
end Go.Proofs.YtlnjomhmffdfnaaDoor.Y
