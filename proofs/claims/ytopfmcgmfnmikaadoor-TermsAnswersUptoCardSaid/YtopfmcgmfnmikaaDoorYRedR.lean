/- The document's Redirect as printed answers refRed. Condition: a text of at most 2^20 bytes. -/
import Derived.Test.YtopfmcgmfnmikaaDoorYRedP
-- IMPORTS
import Derived.Test.YtopfmcgmfnmikaaDoorXx3b
import Derived.Test.YtopfmcgmfnmikaaDoorXx4
import Derived.Test.YtopfmcgmfnmikaaDoorXx5
import Derived.Test.YtopfmcgmfnmikaaDoorXx6
set_option linter.unusedSimpArgs false
set_option linter.unusedVariables false
namespace Go.Proofs.YtopfmcgmfnmikaaDoor.Y
open Go.RowKit Go.Proofs.YtopfmcgmfnmikaaDoorW.PrintWords Go.Proofs.YtopfmcgmfnmikaaDoorW.PrintLast Go.Proofs.YtopfmcgmfnmikaaDoor.X
theorem lift {α : Type} {g : Nat → Option α} (mono : ∀ k, LeO (g k) (g (k + 1))) {K k : Nat} (hk : K ≤ k) {r : α} (h : g K = some r) : g k = some r := by
  induction k with
  | zero =>
    obtain rfl : K = 0 := by omega
    exact h
  | succ k ih =>
    rcases Nat.lt_or_ge K (k + 1) with hl | hl
    · exact mono k r (ih (by omega))
    · obtain rfl : K = k + 1 := by omega
      exact h
theorem byte_cases {p : Int → Prop} (h : ∀ c : Fin 256, p (c.val : Int)) (c : Int) (h0 : 0 ≤ c) (h1 : c ≤ 255) : p c := by
  have := h ⟨c.toNat, by omega⟩
  simpa [Int.toNat_of_nonneg h0] using this
def hexI (c : Int) : Int := if 48 ≤ c ∧ c ≤ 57 then c - 48 else if 65 ≤ c ∧ c ≤ 70 then c - 55 else if 97 ≤ c ∧ c ≤ 102 then c - 87 else -1
theorem hexI_neg (c : Int) : hexI c < 0 ↔ hexaB c = false := by
  unfold hexI hexaB
  rw [decide_eq_false_iff_not]
  repeat' split
  all_goals constructor <;> intro h <;> omega
theorem hexV_is (c : Int) (h0 : 0 ≤ c) (h1 : c ≤ 255) : Ev (fun k => usherref3_HexValue.f k c) (hexI c) :=
  ⟨2, fun k hk => lift (fun k => usherref3_HexValue.mono c k) hk (byte_cases (p := fun c => usherref3_HexValue.f 2 c = some (hexI c)) (by decide +kernel) c h0 h1)⟩
theorem rletter_is (c : Int) (h0 : 0 ≤ c) (h1 : c ≤ 255) : usherref9_letter.f c = some (letterB c || digitB c) :=
  byte_cases (p := fun c => usherref9_letter.f c = some (letterB c || digitB c)) (by decide +kernel) c h0 h1
def unrB (c : Int) : Bool := (usherref3_Unreserved.f c).getD false
def mkB (c : Int) : Bool := (usherref9_mark.f c).getD false
theorem unr_is (c : Int) (h0 : 0 ≤ c) (h1 : c ≤ 255) : usherref3_Unreserved.f c = some (unrB c) :=
  byte_cases (p := fun c => usherref3_Unreserved.f c = some (unrB c)) (by decide +kernel) c h0 h1
theorem mk_is (c : Int) (h0 : 0 ≤ c) (h1 : c ≤ 255) : usherref9_mark.f c = some (mkB c) :=
  byte_cases (p := fun c => usherref9_mark.f c = some (mkB c)) (by decide +kernel) c h0 h1
theorem ok1_is (c : Int) (h0 : 0 ≤ c) (h1 : c ≤ 255) : okB P1 c = (unrB c || mkB c || decide (c = 58) || decide (c = 64) || decide (c = 47)) :=
  byte_cases (p := fun c => okB P1 c = (unrB c || mkB c || decide (c = 58) || decide (c = 64) || decide (c = 47))) (by decide +kernel) c h0 h1
theorem ok2_is (c : Int) (h0 : 0 ≤ c) (h1 : c ≤ 255) : okB P2 c = (unrB c || mkB c || decide (c = 58) || decide (c = 64) || decide (c = 47) || decide (c = 63)) :=
  byte_cases (p := fun c => okB P2 c = (unrB c || mkB c || decide (c = 58) || decide (c = 64) || decide (c = 47) || decide (c = 63))) (by decide +kernel) c h0 h1
def mor (ask : Bool) : ByteArray := if ask = true then P2 else P1
theorem runs_loop (s : ByteArray) (hs : s.size ≤ 1048576) (ask : Bool) (d : Nat) : ∀ i : Int, 0 ≤ i → (s.size : Int) - i ≤ d → Ev (fun k => usherref9_runs.l0 k s i ask) (bs (mor ask) 0 ((bytesOf s).drop i.toNat)) := by
  induction d with
  | zero =>
    intro i h0 hd
    refine Ev.succ ?_
    simp only [usherref9_runs.l0]
    rw [drop_end s (by omega)]
    exact Ev.neg (by omega) (Ev.pure _)
  | succ d ih =>
    intro i h0 hd
    by_cases hlt : i < s.size
    case neg =>
      refine Ev.succ ?_
      simp only [usherref9_runs.l0]
      rw [drop_end s (by omega)]
      exact Ev.neg (by omega) (Ev.pure _)
    have hr := bt_range s i
    have jt : Ev (fun k => usherref9_runs.j1 k s i ask (bt s i) true) (bs (mor ask) 0 ((bytesOf s).drop (i + 1).toNat)) := by
      refine Ev.succ ?_
      simp only [usherref9_runs.j1]
      rw [wr (x := i + 1) (by omega) (by omega)]
      exact Ev.pos trivial (ih (i + 1) (by omega) (by omega))
    have j2f : Ev (fun k => usherref9_runs.j2 k s i ask false) false := by
      refine Ev.succ ?_
      simp only [usherref9_runs.j2]
      exact Ev.neg (by simp) (Ev.pure _)
    have jf : okB (mor ask) (bt s i) = false → Ev (fun k => usherref9_runs.j1 k s i ask (bt s i) false) (bs (mor ask) 0 ((bytesOf s).drop i.toNat)) := by
      intro hok
      rw [drop_at s h0 hlt]
      refine Ev.succ ?_
      simp only [usherref9_runs.j1]
      rw [wr (x := i + 2) (by omega) (by omega)]
      refine Ev.neg (by simp) (Ev.ite (fun e => ?_) (fun e => ?_))
      · rw [bs_pct hok e]
        by_cases h2 : i + 2 < s.size
        · rw [decide_eq_true h2]
          refine Ev.succ ?_
          simp only [usherref9_runs.j2]
          rw [wr (x := i + 1) (by omega) (by omega), wr (x := i + 2) (by omega) (by omega), wr (x := i + 3) (by omega) (by omega)]
          have r1 := bt_range s (i + 1)
          have r2 := bt_range s (i + 2)
          have d1 := drop_at s (i := i + 1) (by omega) (by omega)
          have d2 := drop_at s (i := i + 1 + 1) (by omega) (by omega)
          rw [show i + 1 + 1 = i + 2 by omega, show i + 2 + 1 = i + 3 by omega] at d2
          rw [show i + 1 + 1 = i + 2 by omega] at d1
          rw [d1, d2, bs_one]
          refine Ev.pos trivial (Ev.pos (by omega) (Ev.pos (by omega) (Ev.bind (hexV_is _ r1.1 r1.2) (Ev.pos (by omega) (Ev.pos h2 (Ev.bind (hexV_is _ r2.1 r2.2) ?_))))))
          refine Ev.ite (fun n1 => ?_) (fun n1 => ?_)
          · rw [(hexI_neg _).1 n1, if_neg (by simp)]; exact Ev.pure _
          · have p1 : hexaB (bt s (i + 1)) = true := by
              rw [← Bool.not_eq_false]; exact fun h => n1 ((hexI_neg _).2 h)
            rw [p1, if_pos rfl, bs_two]
            refine Ev.ite (fun n2 => ?_) (fun n2 => ?_)
            · rw [(hexI_neg _).1 n2, if_neg (by simp)]; exact Ev.pure _
            · have p2 : hexaB (bt s (i + 2)) = true := by
                rw [← Bool.not_eq_false]; exact fun h => n2 ((hexI_neg _).2 h)
              rw [p2, if_pos rfl]
              exact ih (i + 3) (by omega) (by omega)
        · rw [decide_eq_false h2]
          have : bs (mor ask) 1 ((bytesOf s).drop (i + 1).toNat) = false := by
            by_cases h3 : i + 1 < s.size
            · rw [drop_at s (by omega) h3, drop_end s (by omega), bs_one]
              cases hexaB _ <;> rfl
            · rw [drop_end s (by omega)]; rfl
          rw [this]
          exact j2f
      · rw [bs_no hok e]; exact j2f
    have go : ∀ b : Bool, okB (mor ask) (bt s i) = b → Ev (fun k => usherref9_runs.j1 k s i ask (bt s i) b) (bs (mor ask) 0 ((bytesOf s).drop i.toNat)) := by
      intro b hb
      cases b with
      | true => rw [drop_at s h0 hlt, bs_ok hb]; exact jt
      | false => exact jf hb
    refine Ev.succ ?_
    simp only [usherref9_runs.l0, unr_is _ hr.1 hr.2, mk_is _ hr.1 hr.2, Option.bind_some]
    refine Ev.pos hlt (Ev.pos h0 ?_)
    have hok : okB (mor ask) (bt s i) = (unrB (bt s i) || mkB (bt s i) || decide (bt s i = 58) || decide (bt s i = 64) || decide (bt s i = 47) || (ask && decide (bt s i = 63))) := by
      cases ask with
      | true => exact ok2_is _ hr.1 hr.2
      | false => rw [Bool.false_and, Bool.or_false]; exact ok1_is _ hr.1 hr.2
    refine Ev.ite (fun e1 => go true (by rw [hok, e1]; simp)) (fun e1 => ?_)
    refine Ev.ite (fun e2 => go true (by rw [hok, e2]; simp)) (fun e2 => ?_)
    refine Ev.ite (fun e3 => go true (by rw [hok, decide_eq_true e3]; simp)) (fun e3 => ?_)
    refine Ev.ite (fun e4 => go true (by rw [hok, decide_eq_true e4]; simp)) (fun e4 => ?_)
    refine Ev.ite (fun e5 => go true (by rw [hok, decide_eq_true e5]; simp)) (fun e5 => ?_)
    have e1' : unrB (bt s i) = false := by simpa using e1
    have e2' : mkB (bt s i) = false := by simpa using e2
    rw [e1', e2', decide_eq_false e3, decide_eq_false e4, decide_eq_false e5] at hok
    refine Ev.ite (fun e6 => ?_) (fun e6 => ?_)
    · refine go _ ?_
      rw [hok, e6]
      rfl
    · have e6' : ask = false := by simpa using e6
      exact go false (by rw [hok, e6']; rfl)
theorem runs_is (s : ByteArray) (hs : s.size ≤ 1048576) (ask : Bool) (i : Int) (h0 : 0 ≤ i) : Ev (fun k => usherref9_runs.f k s i ask) (bs (mor ask) 0 ((bytesOf s).drop i.toNat)) := by
  simp only [usherref9_runs.f]
  exact runs_loop s hs ask (s.size) i h0 (by omega)
theorem begins_is (a p : ByteArray) (hs : a.size ≤ 1048576) : usherref9_begins.f a p = some (List.isPrefixOf (bytesOf p) (bytesOf a)) := sPre a p hs
theorem rl_loop (s : ByteArray) (hs : s.size ≤ 1048576) (d : Nat) : ∀ i : Int, 0 ≤ i → (s.size : Int) - i = d → Ev (fun k => usherref9_label.l0 k s i) (((bytesOf s).drop i.toNat).all lcB) := by
  induction d with
  | zero =>
    intro i h0 hd
    refine Ev.succ ?_
    simp only [usherref9_label.l0]
    rw [drop_end s (by omega)]
    exact Ev.neg (by omega) (Ev.pure _)
  | succ d ih =>
    intro i h0 hd
    have hlt : i < s.size := by omega
    have hr := bt_range s i
    have ih' := ih (i + 1) (by omega) (by omega)
    refine Ev.succ ?_
    simp only [usherref9_label.l0, rletter_is _ hr.1 hr.2, Option.bind_some]
    rw [drop_at s h0 hlt, wr (x := i + 1) (by omega) (by omega)]
    simp only [List.all_cons, lcB]
    refine Ev.pos hlt (Ev.pos h0 ?_)
    cases h1 : (letterB (bt s i) || digitB (bt s i)) with
    | true => exact Ev.pos rfl (by simpa using ih')
    | false =>
      refine Ev.neg (by decide) (Ev.ite (fun e => ?_) (fun e => ?_))
      · simpa [e] using ih'
      · simpa [e] using Ev.pure false
theorem rlabel_is (s : ByteArray) (hs : s.size ≤ 1048576) : Ev (fun k => usherref9_label.f k s) (labelP (bytesOf s)) := by
  have jt : Ev (fun k => usherref9_label.j0 k s true) false := by
    refine Ev.succ ?_
    simp only [usherref9_label.j0]
    exact Ev.pos trivial (Ev.pure _)
  have jf : Ev (fun k => usherref9_label.j0 k s false) ((bytesOf s).all lcB) := by
    refine Ev.succ ?_
    simp only [usherref9_label.j0]
    exact Ev.neg (by simp) (rl_loop s hs s.size 0 (Int.le_refl _) (by omega))
  simp only [usherref9_label.f]
  refine Ev.ite (fun e => ?_) (fun e => ?_)
  · rw [labelP_no (.inl ((empty_bytes s).1 e))]; exact jt
  · have hp : 0 < s.size := by have : ¬ s.size = 0 := fun h => e ((empty_iff s).2 h); omega
    have h1 : bytesOf s ≠ [] := fun h => e ((empty_bytes s).2 h)
    refine Ev.ite (fun e2 => ?_) (fun e2 => ?_)
    · rw [labelP_no (.inr (.inl (by rw [bytesOf_length]; omega)))]; exact jt
    · refine Ev.pos (by omega) (Ev.ite (fun e3 => ?_) (fun e3 => ?_))
      · rw [labelP_no (.inr (.inr (.inl (by rw [bt0 s hp, e3]))))]; exact jt
      · rw [wr (x := (s.size : Int) - 1) (by omega) (by omega)]
        refine Ev.pos (by omega) (Ev.pos (by omega) ?_)
        by_cases e4 : bt s ((s.size : Int) - 1) = 45
        · rw [labelP_no (.inr (.inr (.inr (by rw [btl s hp, e4])))), e4]; exact jt
        · rw [labelP_eq h1 (by rw [bytesOf_length]; omega) (by rw [bt0 s hp]; simpa using e3) (by rw [btl s hp]; simpa using e4), show (bt s ((s.size : Int) - 1) == 45) = false from beq_eq_false_iff_ne.2 e4]
          exact jf
theorem rp_loop (s : ByteArray) (hs : s.size ≤ 5) (d : Nat) : ∀ (n i : Int), 0 ≤ i → (s.size : Int) - i = d → 0 ≤ n → n ≤ bnd d →
    Ev (fun k => usherref9_port.l0 k s n i) (((bytesOf s).drop i.toNat).all digitB && decide (valP n ((bytesOf s).drop i.toNat) ≤ 65535)) := by
  induction d with
  | zero =>
    intro n i h0 hd hn hb
    refine Ev.succ ?_
    simp only [usherref9_port.l0]
    rw [drop_end s (by omega)]
    refine Ev.neg (by omega) ?_
    simp only [List.all_nil, Bool.true_and, valP, List.foldl_nil]
    exact Ev.pure _
  | succ d ih =>
    intro n i h0 hd hn hb
    have hlt : i < s.size := by omega
    have hr := bt_range s i
    have hbd := bnd_step hb
    have hle := bnd_le (d + 1)
    refine Ev.succ ?_
    simp only [usherref9_port.l0]
    rw [drop_at s h0 hlt, wr (x := i + 1) (by omega) (by omega)]
    simp only [List.all_cons, valP, List.foldl_cons]
    have no : digitB (bt s i) = false → Ev (fun k => some false) (digitB (bt s i) && ((bytesOf s).drop (i + 1).toNat).all digitB && decide (((bytesOf s).drop (i + 1).toNat).foldl (fun n c => 10 * n + (c - 48)) (10 * n + (bt s i - 48)) ≤ 65535)) := fun h => by
      rw [h]; exact Ev.pure _
    refine Ev.pos hlt (Ev.pos h0 (Ev.ite (fun e1 => no (decide_eq_false (by omega))) (fun e1 => Ev.ite (fun e2 => no (decide_eq_false (by omega))) (fun e2 => ?_))))
    have h1 : digitB (bt s i) = true := decide_eq_true (by omega)
    rw [wr (x := 10 * n) (by omega) (by omega), show (bt s i - 48) % 256 = bt s i - 48 by omega, wr (by omega) (by omega), h1, Bool.true_and]
    exact ih (10 * n + (bt s i - 48)) (i + 1) (by omega) (by omega) (by omega) (by omega)
theorem rport_is (s : ByteArray) (hs : s.size ≤ 1048576) : Ev (fun k => usherref9_port.f k s) (portP (bytesOf s)) := by
  have jt : Ev (fun k => usherref9_port.j0 k s true) false := by
    refine Ev.succ ?_
    simp only [usherref9_port.j0]
    exact Ev.pos trivial (Ev.pure _)
  simp only [usherref9_port.f]
  refine Ev.ite (fun e => ?_) (fun e => ?_)
  · rw [portP_no (.inl ((empty_bytes s).1 e))]; exact jt
  · have hp : 0 < s.size := by have : ¬ s.size = 0 := fun h => e ((empty_iff s).2 h); omega
    have h1 : bytesOf s ≠ [] := fun h => e ((empty_bytes s).2 h)
    refine Ev.ite (fun e2 => ?_) (fun e2 => ?_)
    · rw [portP_no (.inr (.inl (by rw [bytesOf_length]; omega)))]; exact jt
    · refine Ev.pos (by omega) ?_
      by_cases e3 : bt s 0 = 48
      · rw [portP_no (.inr (.inr (by rw [bt0 s hp, e3]))), e3]; exact jt
      · rw [portP_eq h1 (by rw [bytesOf_length]; omega) (by rw [bt0 s hp]; simpa using e3), show (bt s 0 == 48) = false from beq_eq_false_iff_ne.2 e3]
        refine Ev.succ ?_
        simp only [usherref9_port.j0]
        exact Ev.neg (by simp) (rp_loop s (by omega) s.size 0 0 (Int.le_refl _) (by omega) (Int.le_refl _) (bnd0 _))
/-! host -/
theorem rv6_loop (s : ByteArray) (hs : s.size ≤ 1048576) (h1 : 1 ≤ s.size) (d : Nat) : ∀ i : Int, 0 ≤ i → (s.size : Int) - 1 - i = d → Ev (fun k => usherref9_host.l0 k s i) ((((bytesOf s).take (s.size - 1)).drop i.toNat).all v6B) := by
  have hst : ∀ i : Int, 0 ≤ i → i < (s.size : Int) - 1 → ((bytesOf s).take (s.size - 1)).drop i.toNat = bt s i :: ((bytesOf s).take (s.size - 1)).drop (i + 1).toNat := by
    intro i h0 hi
    rw [List.drop_take, List.drop_take, drop_at s h0 (by omega), show s.size - 1 - i.toNat = (s.size - 1 - (i + 1).toNat) + 1 by omega, List.take_succ_cons]
  induction d with
  | zero =>
    intro i h0 hd
    refine Ev.succ ?_
    simp only [usherref9_host.l0]
    rw [wr (x := (s.size : Int) - 1) (by omega) (by omega), List.drop_eq_nil_of_le (by rw [List.length_take, bytesOf_length]; omega)]
    exact Ev.neg (by omega) (Ev.pure _)
  | succ d ih =>
    intro i h0 hd
    have hr := bt_range s i
    have ih' := ih (i + 1) (by omega) (by omega)
    refine Ev.succ ?_
    simp only [usherref9_host.l0]
    rw [hst i h0 (by omega), wr (x := i + 1) (by omega) (by omega), wr (x := (s.size : Int) - 1) (by omega) (by omega)]
    simp only [List.all_cons, v6B]
    refine Ev.pos (by omega) (Ev.pos h0 (Ev.pos (by omega) (Ev.bind (hexV_is _ hr.1 hr.2) ?_)))
    refine Ev.ite (fun e => ?_) (fun e => ?_)
    · rw [(hexI_neg _).1 e]
      refine Ev.ite (fun e1 => ?_) (fun e1 => Ev.ite (fun e2 => ?_) (fun e2 => ?_))
      · simpa [e1] using ih'
      · simpa [e2] using ih'
      · simpa [e1, e2] using Ev.pure false
    · have : hexaB (bt s i) = true := by rw [← Bool.not_eq_false]; exact fun h => e ((hexI_neg _).2 h)
      simpa [this] using ih'
theorem rlabs_loop (s : ByteArray) (hs : s.size ≤ 1048576) (d : Nat) : ∀ (a i : Nat), a ≤ i → s.size - i = d → i ≤ s.size → (∀ j : Nat, a ≤ j → j < i → (bytesOf s)[j]? ≠ some 46) →
    Ev (fun k => usherref9_host.l1 k s (a : Int) (i : Int)) ((sp 46 ((bytesOf s).drop a)).all labelP) := by
  have noc : ∀ (a n : Nat), (∀ j : Nat, a ≤ j → j < a + n → (bytesOf s)[j]? ≠ some 46) → ∀ x ∈ ((bytesOf s).drop a).take n, x ≠ 46 := by
    intro a n h x hx e
    obtain ⟨j, hj⟩ := List.getElem?_of_mem hx
    have hlt := (List.getElem?_eq_some_iff.1 hj).1
    rw [List.length_take] at hlt
    rw [List.getElem?_take, if_pos (by omega), List.getElem?_drop] at hj
    exact h (a + j) (by omega) (by omega) (by rw [hj, e])
  have seg : ∀ a i : Nat, bytesOf (s.extract a i) = ((bytesOf s).drop a).take (i - a) := fun a i => bytesOf_extract s a i
  induction d with
  | zero =>
    intro a i hai hd hi hno
    have hi' : i = s.size := by omega
    have hsp : sp 46 ((bytesOf s).drop a) = [(bytesOf s).drop a] := by
      refine sp_only _ _ fun x hx => ?_
      have := noc a (i - a) (fun j h1 h2 => hno j h1 (by omega))
      rw [List.take_of_length_le (by rw [List.length_drop, bytesOf_length]; omega)] at this
      exact this x hx
    have hseg : bytesOf (s.extract a i) = (bytesOf s).drop a := by rw [seg, List.take_of_length_le (by rw [List.length_drop, bytesOf_length]; omega)]
    have hl := rlabel_is (s.extract a i) (by rw [ByteArray.size_extract]; omega)
    rw [hseg] at hl
    rw [hsp]
    simp only [List.all_cons, List.all_nil, Bool.and_true]
    refine Ev.succ ?_
    simp only [usherref9_host.l1]
    refine Ev.pos (by omega) (Ev.pos (by omega) (Ev.succ ?_))
    simp only [usherref9_host.j3]
    rw [Int.toNat_natCast, Int.toNat_natCast, wr (x := (i : Int) + 1) (by omega) (by omega)]
    refine Ev.pos trivial (Ev.pos (by omega) (Ev.pos (by omega) (Ev.pos (by omega) (Ev.bind hl ?_))))
    cases labelP ((bytesOf s).drop a) with
    | true =>
      refine Ev.pos rfl (Ev.succ ?_)
      simp only [usherref9_host.l1]
      exact Ev.neg (by omega) (Ev.pure _)
    | false => exact Ev.neg (by decide) (Ev.pure _)
  | succ d ih =>
    intro a i hai hd hi hno
    have hlt : i < s.size := by omega
    have hget := bt_get s (i := (i : Int)) (by omega) (by omega)
    rw [Int.toNat_natCast] at hget
    have ec : ((i : Int) + 1) = ((i + 1 : Nat) : Int) := by omega
    refine Ev.succ ?_
    simp only [usherref9_host.l1]
    refine Ev.pos (by omega) (Ev.neg (by omega) (Ev.pos (by omega) (Ev.pos (by omega) (Ev.succ ?_))))
    simp only [usherref9_host.j3]
    rw [wr (x := (i : Int) + 1) (by omega) (by omega), ec]
    by_cases e46 : bt s (i : Int) = 46
    · rw [e46] at hget
      have hdrop : (bytesOf s).drop a = ((bytesOf s).drop a).take (i - a) ++ 46 :: (bytesOf s).drop (i + 1) := by
        have h1 : (bytesOf s).drop i = 46 :: (bytesOf s).drop (i + 1) := by
          rw [List.drop_eq_getElem_cons (by rw [bytesOf_length]; exact hlt)]
          congr 1
          rw [List.getElem?_eq_getElem (by rw [bytesOf_length]; exact hlt)] at hget
          exact Option.some.inj hget
        conv => lhs; rw [← List.take_append_drop (i - a) ((bytesOf s).drop a)]
        rw [List.drop_drop, show a + (i - a) = i by omega, h1]
      have hsp : sp 46 ((bytesOf s).drop a) = ((bytesOf s).drop a).take (i - a) :: sp 46 ((bytesOf s).drop (i + 1)) := by
        conv => lhs; rw [hdrop]
        exact sp_first 46 _ _ (noc a (i - a) (fun j h1 h2 => hno j h1 (by omega)))
      have hl := rlabel_is (s.extract a i) (by rw [ByteArray.size_extract]; omega)
      rw [seg] at hl
      rw [hsp]
      simp only [List.all_cons]
      rw [Int.toNat_natCast, Int.toNat_natCast]
      refine Ev.pos (by rw [e46]; rfl) (Ev.pos (by omega) (Ev.pos (by omega) (Ev.pos (by omega) (Ev.bind hl ?_))))
      cases labelP (((bytesOf s).drop a).take (i - a)) with
      | true =>
        refine Ev.pos rfl ?_
        rw [Bool.true_and]
        exact ih (i + 1) (i + 1) (Nat.le_refl _) (by omega) (by omega) (fun j h1 h2 => by omega)
      | false => exact Ev.neg (by decide) (Ev.pure _)
    · refine Ev.neg (by simp [e46]) ?_
      refine ih a (i + 1) (by omega) (by omega) (by omega) (fun j h1 h2 => ?_)
      by_cases hj : j = i
      · rw [hj, hget]
        exact fun h => e46 (Option.some.inj h)
      · exact hno j h1 (by omega)
theorem rhost_is (s : ByteArray) (hs : s.size ≤ 1048576) : Ev (fun k => usherref9_host.f k s) (hostP (bytesOf s)) := by
  have jf : Ev (fun k => usherref9_host.j0 k s false) ((sp 46 (bytesOf s)).all labelP) := by
    refine Ev.succ ?_
    simp only [usherref9_host.j0]
    have := rlabs_loop s hs s.size 0 0 (Nat.le_refl _) (by omega) (by omega) (fun j h1 h2 => by omega)
    rw [List.drop_zero] at this
    exact Ev.neg (by simp) this
  simp only [usherref9_host.f]
  cases hb : bytesOf s with
  | nil =>
    have hz : s.size = 0 := by rw [← bytesOf_length, hb]; rfl
    rw [hb] at jf
    simp only [hostP]
    exact Ev.neg (by omega) jf
  | cons c r =>
    have hsz : s.size = r.length + 1 := by rw [← bytesOf_length, hb]; rfl
    have hc : bt s 0 = c := by
      have := bt0 s (by omega)
      rw [hb] at this
      exact (Option.some.inj this).symm
    have lab_no : c = 91 → (sp 46 (c :: r)).all labelP = false := fun e => labels_no (x := 91) (by rw [e]; exact List.mem_cons_self ..) (by decide) (by decide)
    rw [hb] at jf
    simp only [hostP]
    by_cases e : c = 91
    · rw [if_pos e]
      rw [lab_no e] at jf
      refine Ev.ite (fun h2 => ?_) (fun h2 => ?_)
      · refine Ev.pos (by omega) (Ev.pos (by rw [hc, e]) ?_)
        rw [wr (x := (s.size : Int) - 1) (by omega) (by omega)]
        refine Ev.pos (by omega) (Ev.pos (by omega) ?_)
        have hl := btl s (by omega)
        have hlast : r.getLast? = some (bt s ((s.size : Int) - 1)) := by
          rw [hb] at hl
          rw [List.getLast?_eq_getElem?]
          rw [show (c :: r).length - 1 = (r.length - 1) + 1 by simp; omega, List.getElem?_cons_succ] at hl
          exact hl
        have hdl : r.dropLast = ((c :: r).take (s.size - 1)).drop 1 := by
          rw [List.dropLast_eq_take, show s.size - 1 = (r.length - 1) + 1 by omega, List.take_succ_cons]
          rfl
        have hne : r.dropLast ≠ [] := by
          intro h
          have h3 := congrArg List.length h
          rw [List.length_dropLast] at h3
          simp at h3
          omega
        rw [hlast]
        by_cases e93 : bt s ((s.size : Int) - 1) = 93
        · rw [e93, decide_eq_true rfl, decide_eq_true hne]
          refine Ev.succ ?_
          simp only [usherref9_host.j0]
          have hv := rv6_loop s hs (by omega) (s.size - 2) 1 (by omega) (by omega)
          rw [hb, show ((1 : Int)).toNat = 1 from rfl, ← hdl] at hv
          simpa using hv
        · have e1 : (bt s ((s.size : Int) - 1) == 93) = false := beq_eq_false_iff_ne.2 e93
          have e2 : decide (some (bt s ((s.size : Int) - 1)) = some 93) = false := decide_eq_false (fun h => e93 (Option.some.inj h))
          rw [e1, e2, Bool.false_and, Bool.false_and]
          exact jf
      · have : (decide (r.getLast? = some 93) && decide (r.dropLast ≠ []) && r.dropLast.all v6B) = false := by
          have hd : r.dropLast = [] := by
            rw [← List.length_eq_zero_iff, List.length_dropLast]
            omega
          rw [hd]
          simp
        rw [this]
        exact jf
    · rw [if_neg e]
      refine Ev.ite (fun h2 => ?_) (fun h2 => jf)
      exact Ev.pos (by omega) (Ev.neg (by rw [hc]; exact e) jf)
/-! site -/
theorem lix_lt (h p : List Int) (hn : 58 ∉ p) : (lixI 93 (h ++ 58 :: p) < (h.length : Int)) ↔ 93 ∉ p := by
  unfold lixI
  rw [show h ++ 58 :: p = (h ++ [58]) ++ p by simp, lastSplit_append]
  cases hp : lastSplit 93 p with
  | some x =>
    have : 93 ∈ p := by
      have := (lastSplit_some 93 p x.1 x.2 hp).1
      rw [this]; simp
    simp only [List.length_append, List.length_cons, List.length_nil]
    constructor
    · intro e; omega
    · intro e; exact absurd this e
  | none =>
    have hno := (lastSplit_none 93 p).1 hp
    simp only [hno, not_false_eq_true, iff_true]
    rw [lastSplit_append]
    simp only [lastSplit]
    rw [if_neg (by decide)]
    simp only
    cases hh : lastSplit 93 h with
    | none => simp; omega
    | some x =>
      have := congrArg List.length (lastSplit_some 93 h x.1 x.2 hh).1
      rw [List.length_append, List.length_cons] at this
      simp
      omega
theorem rsite_end (s : ByteArray) (hs : s.size ≤ 1048576) (loc : Bool) : Ev (fun k => usherref9_site.l0 k s loc (lixI 58 (bytesOf s)) (lixI 93 (bytesOf s)) (s.size : Int)) (siteP (if loc = true then namesP else hostP) (bytesOf s)) := by
  have key : ∀ (x : ByteArray) (m : List UInt8) (n : List Int), m.map (fun b => (b.toNat : Int)) = n → (x.toList = m ↔ bytesOf x = n) := by
    intro x m n hmn
    have e : bytesOf ⟨m.toArray⟩ = n := by rw [← hmn]; unfold bytesOf; simp
    have e2 : (⟨m.toArray⟩ : ByteArray).toList = m := by rw [toList_data]
    constructor
    · intro hh
      rw [← e2, toList_inj] at hh
      rw [hh, e]
    · intro hh
      rw [← e] at hh
      rw [bytesOf_inj hh, e2]
  have nm : ∀ x : ByteArray, Ev (fun k => if x.toList = ([108, 111, 99, 97, 108, 104, 111, 115, 116] : List UInt8) then (some true) else (if x.toList = ([49, 50, 55, 46, 48, 46, 48, 46, 49] : List UInt8) then (some true) else (some (x.toList == ([91, 58, 58, 49, 93] : List UInt8))))) (namesP (bytesOf x)) := fun x => by
    have k1 := key x [108, 111, 99, 97, 108, 104, 111, 115, 116] [108, 111, 99, 97, 108, 104, 111, 115, 116] rfl
    have k2 := key x [49, 50, 55, 46, 48, 46, 48, 46, 49] [49, 50, 55, 46, 48, 46, 48, 46, 49] rfl
    have k3 := key x [91, 58, 58, 49, 93] [91, 58, 58, 49, 93] rfl
    unfold namesP
    refine Ev.ite (fun e1 => ?_) (fun e1 => Ev.ite (fun e2 => ?_) (fun e2 => ?_))
    · rw [decide_eq_true (.inl (k1.1 e1))]; exact Ev.pure _
    · rw [decide_eq_true (.inr (.inl (k2.1 e2)))]; exact Ev.pure _
    · by_cases e3 : x.toList = [91, 58, 58, 49, 93]
      · rw [decide_eq_true (.inr (.inr (k3.1 e3))), e3]; exact Ev.pure _
      · rw [decide_eq_false (by rintro (h | h | h); exact e1 (k1.2 h); exact e2 (k2.2 h); exact e3 (k3.2 h)), show (x.toList == [91, 58, 58, 49, 93]) = false from beq_eq_false_iff_ne.2 e3]
        exact Ev.pure _
  have nmh : ∀ x : ByteArray, x.size ≤ 1048576 → Ev (fun k => if loc = true then (if x.toList = ([108, 111, 99, 97, 108, 104, 111, 115, 116] : List UInt8) then (some true) else (if x.toList = ([49, 50, 55, 46, 48, 46, 48, 46, 49] : List UInt8) then (some true) else (some (x.toList == ([91, 58, 58, 49, 93] : List UInt8))))) else ((usherref9_host.f k x).bind fun t => some t)) ((if loc = true then namesP else hostP) (bytesOf x)) := fun x hx => by
    refine Ev.ite (fun e => ?_) (fun e => ?_)
    · rw [if_pos e]; exact nm x
    · rw [if_neg e]; exact Ev.bind (rhost_is x hx) (Ev.pure _)
  refine Ev.succ ?_
  simp only [usherref9_site.l0]
  refine Ev.neg (by omega) ?_
  unfold siteP
  cases hls : lastSplit 58 (bytesOf s) with
  | none =>
    have h58 : lixI 58 (bytesOf s) = -1 := by unfold lixI; rw [hls]
    have h93 : -1 ≤ lixI 93 (bytesOf s) := by unfold lixI; split <;> omega
    rw [h58]
    exact Ev.neg (by omega) (nmh s hs)
  | some x =>
    obtain ⟨h, p⟩ := x
    obtain ⟨hl, hnp⟩ := lastSplit_some 58 _ h p hls
    have h58 : lixI 58 (bytesOf s) = h.length := by unfold lixI; rw [hls]
    have hlt := lix_lt h p hnp
    rw [← hl] at hlt
    have hlen : h.length + 1 + p.length = s.size := by
      have := congrArg List.length hl
      rw [bytesOf_length, List.length_append, List.length_cons] at this
      omega
    rw [h58]
    simp only
    by_cases h93 : 93 ∈ p
    · rw [if_pos h93]
      exact Ev.neg (by have := hlt.1; by_cases hh : lixI 93 (bytesOf s) < h.length; exact absurd h93 (this hh); omega) (nmh s hs)
    · rw [if_neg h93]
      have hbh : bytesOf (s.extract 0 h.length) = h := by
        rw [bytesOf_extract, List.drop_zero, Nat.sub_zero, hl]
        exact List.take_left
      have hbp : bytesOf (s.extract (h.length + 1) s.size) = p := by
        rw [bytesOf_extract, hl, List.take_of_length_le (by rw [List.length_drop, List.length_append, List.length_cons]; omega)]
        rw [show h ++ 58 :: p = (h ++ [58]) ++ p by simp]
        exact List.drop_left' (by simp)
      have hp := rport_is (s.extract (h.length + 1) s.size) (by rw [ByteArray.size_extract]; omega)
      rw [hbp] at hp
      have hnm := nmh (s.extract 0 h.length) (by rw [ByteArray.size_extract]; omega)
      rw [hbh] at hnm
      rw [wr (x := (h.length : Int) + 1) (by omega) (by omega), show ((h.length : Int) + 1).toNat = h.length + 1 by omega, Int.toNat_natCast]
      refine Ev.pos (hlt.2 h93) (Ev.pos (by omega) (Ev.pos (by omega) (Ev.pos (by omega) (Ev.pos (by omega) (Ev.bind hp ?_)))))
      cases portP p with
      | true => exact Ev.pos rfl (by rw [Bool.true_and]; exact hnm)
      | false => exact Ev.neg (by decide) (Ev.pure _)
theorem rsite_loop (s : ByteArray) (hs : s.size ≤ 1048576) (loc : Bool) (r : Bool) (hend : Ev (fun k => usherref9_site.l0 k s loc (lixI 58 (bytesOf s)) (lixI 93 (bytesOf s)) (s.size : Int)) r) (d : Nat) : ∀ i : Nat, s.size - i = d → i ≤ s.size →
    Ev (fun k => usherref9_site.l0 k s loc (lixI 58 ((bytesOf s).take i)) (lixI 93 ((bytesOf s).take i)) (i : Int)) r := by
  induction d with
  | zero =>
    intro i hd hi
    obtain rfl : i = s.size := by omega
    rw [List.take_of_length_le (by rw [bytesOf_length]; exact Nat.le_refl _)]
    exact hend
  | succ d ih =>
    intro i hd hi
    have hlt : i < s.size := by omega
    have ht : (bytesOf s).take (i + 1) = (bytesOf s).take i ++ [bt s (i : Int)] := by
      have hd : i < (bytesOf s).length := by rw [bytesOf_length]; omega
      have := bt_get s (i := (i : Int)) (by omega) (by omega)
      rw [Int.toNat_natCast, List.getElem?_eq_getElem hd] at this
      rw [← List.take_append_getElem hd, Option.some.inj this]
    have ih' := ih (i + 1) (by omega) (by omega)
    rw [ht, lixI_snoc, lixI_snoc, List.length_take, bytesOf_length, show min i s.size = i by omega, show ((i + 1 : Nat) : Int) = (i : Int) + 1 by omega] at ih'
    refine Ev.succ ?_
    simp only [usherref9_site.l0]
    rw [wr (x := (i : Int) + 1) (by omega) (by omega)]
    refine Ev.pos (by omega) (Ev.pos (by omega) (Ev.ite (fun e1 => ?_) (fun e1 => ?_)))
    · rw [if_pos e1] at ih'
      refine Ev.ite (fun e2 => ?_) (fun e2 => ?_)
      · omega
      · rw [if_neg e2] at ih'; exact ih'
    · rw [if_neg e1] at ih'
      refine Ev.ite (fun e2 => ?_) (fun e2 => ?_)
      · rw [if_pos e2] at ih'; exact ih'
      · rw [if_neg e2] at ih'; exact ih'
theorem rsite_is (s : ByteArray) (hs : s.size ≤ 1048576) (loc : Bool) : Ev (fun k => usherref9_site.f k s loc) (siteP (if loc = true then namesP else hostP) (bytesOf s)) := by
  simp only [usherref9_site.f]
  exact rsite_loop s hs loc _ (rsite_end s hs loc) s.size 0 (by omega) (by omega)
/-! web -/
theorem rweb_loop (s : ByteArray) (hs : s.size ≤ 1048576) (loc : Bool) (d : Nat) : ∀ i : Nat, s.size - i = d → i ≤ s.size → (∀ j : Nat, j < i → (bytesOf s)[j]? ≠ some 47) →
    Ev (fun k => usherref9_web.l0 k s loc (i : Int)) (webP (if loc = true then namesP else hostP) (bytesOf s)) := by
  have tws : ∀ i : Nat, i ≤ s.size → (∀ j : Nat, j < i → (bytesOf s)[j]? ≠ some 47) → (i = s.size ∨ (bytesOf s)[i]? = some 47) → tw 47 (bytesOf s) = (bytesOf s).take i ∧ dw 47 (bytesOf s) = (bytesOf s).drop i := by
    intro i hi hno hat
    have hl : ∀ (l : List Int) (i : Nat), i ≤ l.length → (∀ j : Nat, j < i → l[j]? ≠ some 47) → (i = l.length ∨ l[i]? = some 47) → tw 47 l = l.take i ∧ dw 47 l = l.drop i := by
      intro l
      induction l with
      | nil => intro i hi _ _; simp [tw, dw]
      | cons c r ih =>
        intro i hi hno hat
        cases i with
        | zero =>
          rcases hat with h | h
          · simp at h
          · have : c = 47 := by simpa using h
            simp [tw, dw, this]
        | succ i =>
          have hc : c ≠ 47 := fun e => hno 0 (by omega) (by simp [e])
          obtain ⟨i1, i2⟩ := ih i (by simpa using hi) (fun j hj => by have := hno (j + 1) (by omega); simpa using this) (by rcases hat with h | h; left; simpa using h; right; simpa using h)
          unfold tw dw at *
          simp only [List.takeWhile_cons, List.dropWhile_cons, hc, ne_eq, not_false_eq_true, decide_true, if_true, List.take_succ_cons, List.drop_succ_cons]
          simp only [ne_eq] at i1 i2
          rw [i1, i2]
          exact ⟨rfl, rfl⟩
    exact hl (bytesOf s) i (by rw [bytesOf_length]; exact hi) hno (by rw [bytesOf_length]; exact hat)
  induction d with
  | zero =>
    intro i hd hi hno
    obtain rfl : i = s.size := by omega
    obtain ⟨e1, e2⟩ := tws s.size (Nat.le_refl _) hno (.inl rfl)
    refine Ev.succ ?_
    simp only [usherref9_web.l0, webP]
    rw [e1, e2, List.take_of_length_le (by rw [bytesOf_length]; exact Nat.le_refl _), List.drop_of_length_le (by rw [bytesOf_length]; exact Nat.le_refl _), show bs P1 0 [] = true from rfl, Bool.and_true]
    exact Ev.neg (by omega) (Ev.bind (rsite_is s hs loc) (Ev.pure _))
  | succ d ih =>
    intro i hd hi hno
    have hlt : i < s.size := by omega
    have hget := bt_get s (i := (i : Int)) (by omega) (by omega)
    rw [Int.toNat_natCast] at hget
    refine Ev.succ ?_
    simp only [usherref9_web.l0]
    refine Ev.pos (by omega) (Ev.pos (by omega) (Ev.ite (fun e => ?_) (fun e => ?_)))
    · obtain ⟨e1, e2⟩ := tws i (by omega) hno (.inr (by rw [hget, e]))
      simp only [webP]
      rw [e1, e2]
      have hst := rsite_is (s.extract 0 i) (by rw [ByteArray.size_extract]; omega) loc
      rw [bytesOf_extract, List.drop_zero, Nat.sub_zero] at hst
      have hrn := runs_is s hs false (i : Int) (by omega)
      rw [Int.toNat_natCast] at hrn ⊢
      refine Ev.pos (by omega) (Ev.bind hst ?_)
      cases siteP (if loc = true then namesP else hostP) ((bytesOf s).take i) with
      | true => exact Ev.pos rfl (Ev.bind hrn (Ev.pure _))
      | false => exact Ev.neg (by decide) (Ev.pure _)
    · rw [wr (x := (i : Int) + 1) (by omega) (by omega), show (i : Int) + 1 = ((i + 1 : Nat) : Int) by omega]
      refine ih (i + 1) (by omega) (by omega) (fun j hj => ?_)
      by_cases hji : j = i
      · rw [hji, hget]; exact fun h => e (Option.some.inj h)
      · exact hno j (by omega)
theorem rweb_is (s : ByteArray) (hs : s.size ≤ 1048576) (loc : Bool) : Ev (fun k => usherref9_web.f k s loc) (webP (if loc = true then namesP else hostP) (bytesOf s)) := by
  simp only [usherref9_web.f]
  exact rweb_loop s hs loc s.size 0 (by omega) (by omega) (fun j hj => by omega)
/-! private schemes, the halves, all of it -/
theorem rpriv_loop (s : ByteArray) (hs : s.size ≤ 1048576) (d : Nat) : ∀ (i : Int) (dot : Bool), 0 ≤ i → (s.size : Int) - i = d → Ev (fun k => usherref9_private.l0 k s dot i) (privR (decide (i = 0)) dot ((bytesOf s).drop i.toNat)) := by
  induction d with
  | zero =>
    intro i dot h0 hd
    refine Ev.succ ?_
    simp only [usherref9_private.l0]
    rw [drop_end s (by omega)]
    exact Ev.neg (by omega) (Ev.pure _)
  | succ d ih =>
    intro i dot h0 hd
    have hlt : i < s.size := by omega
    have ih' := fun dt => ih (i + 1) dt (by omega) (by omega)
    rw [show decide (i + 1 = 0) = false from decide_eq_false (by omega)] at ih'
    have hw : wrap64 (i + 1) = i + 1 := wr (by omega) (by omega)
    rw [drop_at s h0 hlt]
    refine Ev.succ ?_
    simp only [usherref9_private.l0, hw]
    generalize bt s i = c
    have cond : ((97 ≤ c ∧ c ≤ 122) ∨ (decide (i = 0) = false ∧ (digitB c = true ∨ c = 43 ∨ c = 45 ∨ c = 46))) ↔ ((97 ≤ c ∧ c ≤ 122) ∨ (i ≠ 0 ∧ ((48 ≤ c ∧ c ≤ 57) ∨ c = 43 ∨ c = 45 ∨ c = 46))) := by
      unfold digitB
      rw [decide_eq_false_iff_not, decide_eq_true_iff]
    have gT : dot = true → ((97 ≤ c ∧ c ≤ 122) ∨ (i ≠ 0 ∧ ((48 ≤ c ∧ c ≤ 57) ∨ c = 43 ∨ c = 45 ∨ c = 46))) → Ev (fun k => usherref9_private.l0 k s true (i + 1)) (privR (decide (i = 0)) dot (c :: (bytesOf s).drop (i + 1).toNat)) := fun hd hc => by
      simp only [privR]
      rw [if_pos (cond.2 hc), hd, Bool.true_or]
      exact ih' true
    have gF : ¬ dot = true → ((97 ≤ c ∧ c ≤ 122) ∨ (i ≠ 0 ∧ ((48 ≤ c ∧ c ≤ 57) ∨ c = 43 ∨ c = 45 ∨ c = 46))) → Ev (fun k => usherref9_private.l0 k s (c == 46) (i + 1)) (privR (decide (i = 0)) dot (c :: (bytesOf s).drop (i + 1).toNat)) := fun hd hc => by
      simp only [privR]
      have hd' : dot = false := by simpa using hd
      rw [if_pos (cond.2 hc), hd', Bool.false_or, show decide (c = 46) = (c == 46) from rfl]
      exact ih' (c == 46)
    have nF : ¬ ((97 ≤ c ∧ c ≤ 122) ∨ (i ≠ 0 ∧ ((48 ≤ c ∧ c ≤ 57) ∨ c = 43 ∨ c = 45 ∨ c = 46))) → Ev (fun k => some false) (privR (decide (i = 0)) dot (c :: (bytesOf s).drop (i + 1).toNat)) := fun hc => by
      simp only [privR]
      rw [if_neg (fun h => hc (cond.1 h))]
      exact Ev.pure _
    refine Ev.pos hlt (Ev.pos h0 ?_)
    clear ih' ih hw cond
    repeat' (refine Ev.ite (fun _ => ?_) (fun _ => ?_))
    all_goals first
      | exact gT (by assumption) (by omega)
      | exact gF (by assumption) (by omega)
      | exact nF (by omega)
theorem rsplit_loop (s : ByteArray) (hs : s.size ≤ 1048576) (d : Nat) : ∀ i : Nat, s.size - i = d → i ≤ s.size → (∀ j : Nat, j < i → (bytesOf s)[j]? ≠ some 63) →
    ∃ (a b : ByteArray) (o : Bool), Ev (fun k => usherref9_Split.l0 k s (i : Int)) (a, b, o) ∧ bytesOf a = tw 63 (bytesOf s) ∧ bytesOf b = (dw 63 (bytesOf s)).drop 1 ∧ a.size ≤ s.size ∧ b.size ≤ s.size := by
  induction d with
  | zero =>
    intro i hd hi hno
    obtain rfl : i = s.size := by omega
    have hno' : ∀ x ∈ bytesOf s, x ≠ 63 := fun x hx e => by
      obtain ⟨j, hj⟩ := List.getElem?_of_mem hx
      have hlt := (List.getElem?_eq_some_iff.1 hj).1
      rw [bytesOf_length] at hlt
      exact hno j hlt (by rw [hj, e])
    obtain ⟨e1, e2⟩ := tw_app (t := []) hno' (.inl rfl)
    rw [List.append_nil] at e1 e2
    refine ⟨s, ⟨#[]⟩, false, ?_, e1.symm, by rw [e2]; rfl, Nat.le_refl _, Nat.zero_le _⟩
    refine Ev.succ ?_
    simp only [usherref9_Split.l0]
    exact Ev.neg (by omega) (Ev.pure _)
  | succ d ih =>
    intro i hd hi hno
    have hlt : i < s.size := by omega
    have hget := bt_get s (i := (i : Int)) (by omega) (by omega)
    rw [Int.toNat_natCast] at hget
    by_cases e : bt s (i : Int) = 63
    · have hj := join_at s i hlt e
      have hf : ∀ x ∈ bytesOf (s.extract 0 i), x ≠ 63 := fun x hx ex => by
        rw [bytesOf_extract, List.drop_zero, Nat.sub_zero] at hx
        obtain ⟨j, hj⟩ := List.getElem?_of_mem hx
        have hl2 := (List.getElem?_eq_some_iff.1 hj).1
        rw [List.length_take, bytesOf_length] at hl2
        rw [List.getElem?_take, if_pos (by omega)] at hj
        exact hno j (by omega) (by rw [hj, ex])
      obtain ⟨e1, e2⟩ := tw_app hf (t := 63 :: bytesOf (s.extract (i + 1) s.size)) (.inr ⟨_, rfl⟩)
      rw [← hj] at e1 e2
      refine ⟨s.extract 0 i, s.extract (i + 1) s.size, true, ?_, e1.symm, by rw [e2]; rfl, by rw [ByteArray.size_extract]; omega, by rw [ByteArray.size_extract]; omega⟩
      refine Ev.succ ?_
      simp only [usherref9_Split.l0]
      rw [wr (x := (i : Int) + 1) (by omega) (by omega), show ((i : Int) + 1).toNat = i + 1 by omega, Int.toNat_natCast]
      exact Ev.pos (by omega) (Ev.pos (by omega) (Ev.pos e (Ev.pos (by omega) (Ev.pos (by omega) (Ev.pos (by omega) (Ev.pure _))))))
    · obtain ⟨a, b, o, hev, r⟩ := ih (i + 1) (by omega) (by omega) (fun j hj => by
        by_cases hji : j = i
        · rw [hji, hget]; exact fun h => e (Option.some.inj h)
        · exact hno j (by omega))
      refine ⟨a, b, o, ?_, r⟩
      refine Ev.succ ?_
      simp only [usherref9_Split.l0]
      rw [wr (x := (i : Int) + 1) (by omega) (by omega), show (i : Int) + 1 = ((i + 1 : Nat) : Int) by omega]
      exact Ev.pos (by omega) (Ev.pos (by omega) (Ev.neg e hev))
theorem rprivate_is (s : ByteArray) (hs : s.size ≤ 1048576) : Ev (fun k => usherref9_private.f k s) (privR true false (bytesOf s)) := by
  simp only [usherref9_private.f]
  have := rpriv_loop s hs s.size 0 false (Int.le_refl _) (by omega)
  rw [Int.toNat_zero, List.drop_zero] at this
  exact this
def ownP (l : List Int) : Bool := match sf l with
  | none => false
  | some (h, p) => privR true false h && List.isPrefixOf [47] p && !List.isPrefixOf [47, 47] p && bs P1 0 p
theorem rown_loop (s : ByteArray) (hs : s.size ≤ 1048576) (d : Nat) : ∀ i : Nat, s.size - i = d → i ≤ s.size → (∀ j : Nat, j < i → (bytesOf s)[j]? ≠ some 58) →
    Ev (fun k => usherref9_Redirect.l0 k s (i : Int)) (ownP (bytesOf s)) := by
  have sfs : ∀ (l : List Int) (i : Nat), (∀ j : Nat, j < i → l[j]? ≠ some 58) → (i = l.length → sf l = none) ∧ (l[i]? = some 58 → sf l = some (l.take i, l.drop (i + 1))) := by
    intro l
    induction l with
    | nil => intro i _; exact ⟨fun _ => rfl, fun h => by simp at h⟩
    | cons c r ih =>
      intro i hno
      cases i with
      | zero => exact ⟨fun h => by simp at h, fun h => by have : c = 58 := by simpa using h
                                                          simp [sf, this]⟩
      | succ i =>
        have hc : c ≠ 58 := fun e => hno 0 (by omega) (by simp [e])
        obtain ⟨i1, i2⟩ := ih i (fun j hj => by have := hno (j + 1) (by omega); simpa using this)
        refine ⟨fun h => ?_, fun h => ?_⟩
        · simp only [sf, if_neg hc, i1 (by simpa using h), Option.map_none]
        · simp only [sf, if_neg hc, i2 (by simpa using h), Option.map_some, List.take_succ_cons, List.drop_succ_cons]
  induction d with
  | zero =>
    intro i hd hi hno
    obtain rfl : i = s.size := by omega
    have := (sfs (bytesOf s) s.size hno).1 (bytesOf_length s).symm
    unfold ownP
    rw [this]
    refine Ev.succ ?_
    simp only [usherref9_Redirect.l0]
    exact Ev.neg (by omega) (Ev.pure _)
  | succ d ih =>
    intro i hd hi hno
    have hlt : i < s.size := by omega
    have hget := bt_get s (i := (i : Int)) (by omega) (by omega)
    rw [Int.toNat_natCast] at hget
    refine Ev.succ ?_
    simp only [usherref9_Redirect.l0]
    rw [wr (x := (i : Int) + 1) (by omega) (by omega)]
    refine Ev.pos (by omega) (Ev.pos (by omega) (Ev.ite (fun e => ?_) (fun e => ?_)))
    · have hsf := (sfs (bytesOf s) i hno).2 (by rw [hget, e])
      unfold ownP
      rw [hsf]
      simp only
      have hh : bytesOf (s.extract 0 i) = (bytesOf s).take i := by rw [bytesOf_extract, List.drop_zero, Nat.sub_zero]
      have hp : bytesOf (s.extract (i + 1) s.size) = (bytesOf s).drop (i + 1) := by rw [bytesOf_extract, List.take_of_length_le (by rw [List.length_drop, bytesOf_length]; omega)]
      have hz : (s.extract (i + 1) s.size).size ≤ 1048576 := by rw [ByteArray.size_extract]; omega
      have hpr := rprivate_is (s.extract 0 i) (by rw [ByteArray.size_extract]; omega)
      rw [hh] at hpr
      have hrn := runs_is (s.extract (i + 1) s.size) hz false 0 (Int.le_refl _)
      rw [Int.toNat_zero, List.drop_zero, hp] at hrn
      have h1 : bytesOf (⟨#[47]⟩ : ByteArray) = [47] := rfl
      have h2 : bytesOf (⟨#[47, 47]⟩ : ByteArray) = [47, 47] := rfl
      rw [show ((i : Int) + 1).toNat = i + 1 by omega, Int.toNat_natCast]
      simp only [begins_is _ _ hz, hp, h1, h2, Option.bind_some]
      refine Ev.pos (by omega) (Ev.bind hpr (Ev.pos (by omega) (Ev.pos (by omega) ?_)))
      cases privR true false ((bytesOf s).take i) with
      | false => exact Ev.neg (by decide) (Ev.pure _)
      | true =>
        refine Ev.pos rfl ?_
        cases List.isPrefixOf [47] ((bytesOf s).drop (i + 1)) with
        | false => exact Ev.neg (by decide) (Ev.pure _)
        | true =>
          refine Ev.pos rfl ?_
          cases List.isPrefixOf [47, 47] ((bytesOf s).drop (i + 1)) with
          | true => exact Ev.pos rfl (Ev.pure _)
          | false => exact Ev.neg (by decide) (Ev.bind hrn (Ev.pure _))
    · rw [show (i : Int) + 1 = ((i + 1 : Nat) : Int) by omega]
      refine ih (i + 1) (by omega) (by omega) (fun j hj => ?_)
      by_cases hji : j = i
      · rw [hji, hget]; exact fun h => e (Option.some.inj h)
      · exact hno j (by omega)
theorem rred_is (s : ByteArray) : Ev (fun k => usherref9_Redirect.f k s) (decide (s.size ≤ 512) && refRed (bytesOf s)) := by
  simp only [usherref9_Redirect.f]
  refine Ev.ite (fun e => ?_) (fun e => ?_)
  · rw [decide_eq_false (by omega)]; exact Ev.pure _
  · have hs : s.size ≤ 1048576 := by omega
    rw [decide_eq_true (by omega), Bool.true_and]
    obtain ⟨a, b, o, hev, ha, hb, hza, hzb⟩ := rsplit_loop s hs s.size 0 (by omega) (by omega) (fun j hj => by omega)
    have hev' : Ev (fun k => usherref9_Split.f k s) (a, b, o) := by simp only [usherref9_Split.f]; exact hev
    have hq := runs_is b (by omega) true 0 (Int.le_refl _)
    rw [Int.toNat_zero, List.drop_zero, hb] at hq
    have hbx : ∀ n : Nat, bytesOf (a.extract n a.size) = (bytesOf a).drop n := fun n => by rw [bytesOf_extract, List.take_of_length_le (by rw [List.length_drop, bytesOf_length]; omega)]
    have hzx : ∀ n : Nat, (a.extract n a.size).size ≤ 1048576 := fun n => by rw [ByteArray.size_extract]; omega
    have e1 : bytesOf (⟨#[104, 116, 116, 112, 115, 58, 47, 47]⟩ : ByteArray) = HS := rfl
    have e2 : bytesOf (⟨#[104, 116, 116, 112, 58, 47, 47]⟩ : ByteArray) = HP := rfl
    refine Ev.bind hev' ?_
    simp only
    refine Ev.bind hq ?_
    unfold refRed
    rw [← ha]
    simp only [begins_is a _ (show a.size ≤ 1048576 by omega), e1, e2, Option.bind_some]
    rw [show mor true = P2 from rfl]
    cases bs P2 0 ((dw 63 (bytesOf s)).drop 1) with
    | false => exact Ev.neg (by decide) (Ev.pure _)
    | true =>
      refine Ev.pos rfl ?_
      rw [Bool.true_and]
      refine Ev.ite (fun h1 => ?_) (fun h1 => ?_)
      · rw [if_pos h1, ← hbx]
        have := rweb_is _ (hzx 8) false
        have hl := (List.isPrefixOf_iff_prefix.1 h1).length_le
        rw [bytesOf_length] at hl
        have : 8 ≤ a.size := hl
        exact Ev.pos (by omega) (Ev.bind (rweb_is _ (hzx 8) false) (Ev.pure _))
      · rw [if_neg h1]
        refine Ev.ite (fun h2 => ?_) (fun h2 => ?_)
        · rw [if_pos h2, ← hbx]
          have hl := (List.isPrefixOf_iff_prefix.1 h2).length_le
          rw [bytesOf_length] at hl
          have : 7 ≤ a.size := hl
          exact Ev.pos (by omega) (Ev.bind (rweb_is _ (hzx 7) true) (Ev.pure _))
        · rw [if_neg h2]
          exact rown_loop a (by omega) a.size 0 (by omega) (by omega) (fun j hj => by omega)
end Go.Proofs.YtopfmcgmfnmikaaDoor.Y
