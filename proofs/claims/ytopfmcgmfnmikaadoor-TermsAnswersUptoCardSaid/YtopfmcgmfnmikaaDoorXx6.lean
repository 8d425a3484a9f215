import Derived.Test.YtopfmcgmfnmikaaDoorXx0
import Derived.Test.YtopfmcgmfnmikaaDoorXx3
import Derived.Test.YtopfmcgmfnmikaaDoorXx3b
import Derived.Test.YtopfmcgmfnmikaaDoorXx4
import Derived.Test.YtopfmcgmfnmikaaDoorXx5
namespace Go.Proofs.YtopfmcgmfnmikaaDoor.X
open Go.RowKit Go.Proofs.YtopfmcgmfnmikaaDoorW.PrintWords Go.Proofs.YtopfmcgmfnmikaaDoorW.PrintLast Go.Proofs.YtopfmcgmfnmikaaDoorW.PrintMore
attribute [local go_sem] max2_int min2_int max_two min_two max_three min_three max_four min_four   -- for this text's walks alone
set_option linter.unusedVariables false
set_option linter.unusedSimpArgs false
open Go.Proofs.YtopfmcgmfnmikaaDoor
attribute [local go_sem] ErrBlk_alloc ErrBlk_drew ErrBlk_drewN errs_eql errs_neq nil_errs_eql nil_errs_neq
variable {EA : Int → Addr} {SS : List Int}

/-! ### usherref9_private: function 34 -/
def usherref9_private.l0 : Nat → ByteArray → Bool → Int → Option (Bool)
 | 0, _, _, _ => none
 | k + 1, x0, x3, x4 => if x4 < (x0.size : Int) then (if 0 ≤ x4 then (if (bt x0 x4) ≥ 97 then (if (bt x0 x4) ≥ 48 then (if (bt x0 x4) ≤ 57 then (if ((bt x0 x4) ≤ 122) then (if x3 = true then (usherref9_private.l0 k x0 true (wrap64 (x4 + 1))) else (usherref9_private.l0 k x0 ((bt x0 x4) == 46) (wrap64 (x4 + 1)))) else (if x4 = 0 then (some false) else (if x3 = true then (usherref9_private.l0 k x0 true (wrap64 (x4 + 1))) else (usherref9_private.l0 k x0 ((bt x0 x4) == 46) (wrap64 (x4 + 1)))))) else (if (bt x0 x4) = 43 then (if ((bt x0 x4) ≤ 122) then (if x3 = true then (usherref9_private.l0 k x0 true (wrap64 (x4 + 1))) else (usherref9_private.l0 k x0 ((bt x0 x4) == 46) (wrap64 (x4 + 1)))) else (if x4 = 0 then (some false) else (if x3 = true then (usherref9_private.l0 k x0 true (wrap64 (x4 + 1))) else (usherref9_private.l0 k x0 ((bt x0 x4) == 46) (wrap64 (x4 + 1)))))) else (if (bt x0 x4) = 45 then (if ((bt x0 x4) ≤ 122) then (if x3 = true then (usherref9_private.l0 k x0 true (wrap64 (x4 + 1))) else (usherref9_private.l0 k x0 ((bt x0 x4) == 46) (wrap64 (x4 + 1)))) else (if x4 = 0 then (some false) else (if x3 = true then (usherref9_private.l0 k x0 true (wrap64 (x4 + 1))) else (usherref9_private.l0 k x0 ((bt x0 x4) == 46) (wrap64 (x4 + 1)))))) else (if ((bt x0 x4) ≤ 122) then (if x3 = true then (usherref9_private.l0 k x0 true (wrap64 (x4 + 1))) else (usherref9_private.l0 k x0 ((bt x0 x4) == 46) (wrap64 (x4 + 1)))) else (if x4 = 0 then (some false) else (if ((bt x0 x4) = 46) then (if x3 = true then (usherref9_private.l0 k x0 true (wrap64 (x4 + 1))) else (usherref9_private.l0 k x0 ((bt x0 x4) == 46) (wrap64 (x4 + 1)))) else (some false))))))) else (if (bt x0 x4) = 43 then (if ((bt x0 x4) ≤ 122) then (if x3 = true then (usherref9_private.l0 k x0 true (wrap64 (x4 + 1))) else (usherref9_private.l0 k x0 ((bt x0 x4) == 46) (wrap64 (x4 + 1)))) else (if x4 = 0 then (some false) else (if x3 = true then (usherref9_private.l0 k x0 true (wrap64 (x4 + 1))) else (usherref9_private.l0 k x0 ((bt x0 x4) == 46) (wrap64 (x4 + 1)))))) else (if (bt x0 x4) = 45 then (if ((bt x0 x4) ≤ 122) then (if x3 = true then (usherref9_private.l0 k x0 true (wrap64 (x4 + 1))) else (usherref9_private.l0 k x0 ((bt x0 x4) == 46) (wrap64 (x4 + 1)))) else (if x4 = 0 then (some false) else (if x3 = true then (usherref9_private.l0 k x0 true (wrap64 (x4 + 1))) else (usherref9_private.l0 k x0 ((bt x0 x4) == 46) (wrap64 (x4 + 1)))))) else (if ((bt x0 x4) ≤ 122) then (if x3 = true then (usherref9_private.l0 k x0 true (wrap64 (x4 + 1))) else (usherref9_private.l0 k x0 ((bt x0 x4) == 46) (wrap64 (x4 + 1)))) else (if x4 = 0 then (some false) else (if ((bt x0 x4) = 46) then (if x3 = true then (usherref9_private.l0 k x0 true (wrap64 (x4 + 1))) else (usherref9_private.l0 k x0 ((bt x0 x4) == 46) (wrap64 (x4 + 1)))) else (some false))))))) else (if (bt x0 x4) ≥ 48 then (if (bt x0 x4) ≤ 57 then (if x4 = 0 then (some false) else (if x3 = true then (usherref9_private.l0 k x0 true (wrap64 (x4 + 1))) else (usherref9_private.l0 k x0 ((bt x0 x4) == 46) (wrap64 (x4 + 1))))) else (if (bt x0 x4) = 43 then (if x4 = 0 then (some false) else (if x3 = true then (usherref9_private.l0 k x0 true (wrap64 (x4 + 1))) else (usherref9_private.l0 k x0 ((bt x0 x4) == 46) (wrap64 (x4 + 1))))) else (if (bt x0 x4) = 45 then (if x4 = 0 then (some false) else (if x3 = true then (usherref9_private.l0 k x0 true (wrap64 (x4 + 1))) else (usherref9_private.l0 k x0 ((bt x0 x4) == 46) (wrap64 (x4 + 1))))) else (if x4 = 0 then (some false) else (if ((bt x0 x4) = 46) then (if x3 = true then (usherref9_private.l0 k x0 true (wrap64 (x4 + 1))) else (usherref9_private.l0 k x0 ((bt x0 x4) == 46) (wrap64 (x4 + 1)))) else (some false)))))) else (if (bt x0 x4) = 43 then (if x4 = 0 then (some false) else (if x3 = true then (usherref9_private.l0 k x0 true (wrap64 (x4 + 1))) else (usherref9_private.l0 k x0 ((bt x0 x4) == 46) (wrap64 (x4 + 1))))) else (if (bt x0 x4) = 45 then (if x4 = 0 then (some false) else (if x3 = true then (usherref9_private.l0 k x0 true (wrap64 (x4 + 1))) else (usherref9_private.l0 k x0 ((bt x0 x4) == 46) (wrap64 (x4 + 1))))) else (if x4 = 0 then (some false) else (if ((bt x0 x4) = 46) then (if x3 = true then (usherref9_private.l0 k x0 true (wrap64 (x4 + 1))) else (usherref9_private.l0 k x0 ((bt x0 x4) == 46) (wrap64 (x4 + 1)))) else (some false))))))) else (none)) else (some x3)
def usherref9_private.f (k : Nat) (a0 : ByteArray) : Option (Bool) := usherref9_private.l0 k a0 false 0
theorem usherref9_private.mono_l : ∀ k, (∀ y0 y1 y2, LeO (usherref9_private.l0 k y0 y1 y2) (usherref9_private.l0 (k + 1) y0 y1 y2))
 | 0 => fun _ _ _ r h => by simp [usherref9_private.l0] at h
 | k + 1 => by
  have ih0 := usherref9_private.mono_l k
  ·intro y0 y1 y2
   unfold usherref9_private.l0
   repeat' first
   | (with_reducible exact ih0 _ _ _)
   | (with_reducible exact LeO.refl _)
   | (with_reducible exact LeO.none _)
   | (with_reducible refine LeO.ite ?_ ?_)
   | (with_reducible refine LeO.bind ?_ (fun _ => ?_))
   | exact ih0 _ _ _
   | exact LeO.none _
   | refine LeO.ite ?_ ?_
   | refine LeO.bind ?_ (fun _ => ?_)
theorem usherref9_private.mono : ∀ a0 k, LeO (usherref9_private.f k a0) (usherref9_private.f (k + 1) a0) := by
 intro a0 k
 have ih0 := usherref9_private.mono_l k
 unfold usherref9_private.f
 repeat' first
   | (with_reducible exact ih0 _ _ _)
   | (with_reducible exact LeO.refl _)
   | (with_reducible exact LeO.none _)
   | (with_reducible refine LeO.ite ?_ ?_)
   | (with_reducible refine LeO.bind ?_ (fun _ => ?_))
   | exact ih0 _ _ _
   | exact LeO.none _
   | refine LeO.ite ?_ ?_
   | refine LeO.bind ?_ (fun _ => ?_)
set_option maxHeartbeats 8000000 in
set_option maxRecDepth 100000 in
theorem usherref9_private.calls (k : Nat) (a0 : ByteArray) (r : Bool) (w : World) (h : usherref9_private.f k a0 = some r) :
  Calls Tryd.prog 34 #[.string a0] w fun e w' => e = .returned (.bool r) ∧ Drawn0 w w' := by
 have H : (usherref9_private.l0 k a0 false 0) = some r := h
 clear h
 have H' := Aside0.mk H
 clear H
 go_enter Tryd.func34, Tryd.ntmps34
 go_wp2
 go_loopg [3, 4] k (fun kq v3 v4 w' => ∃ (x3_1 : Bool) (x4_1 : Int), v3 = .bool x3_1 ∧ v4 = .int .i64 x4_1 ∧ Aside0 (usherref9_private.l0 kq a0 x3_1 x4_1 = some r) ∧ Aside0 (kq ≤ k) ∧ Drawn0 w w')
 case atStart => exact ⟨(false), (0), (by first | rfl | (simp; done) | (simp [*]; done) | (simp [bne]; done)), (by first | rfl | (simp; done) | (simp [*]; done) | (simp [bne]; done)), H', ⟨Nat.le_refl _⟩, by repeat (first | exact Drawn0.refl _ | apply Drawn0.step)⟩
 case round =>
  clear H'
  obtain ⟨x3_1, x4_1, rfl, rfl, HA, HK1, ⟨m1, rfl⟩⟩ := hrel
  cases gk with
  | zero => exact absurd HA.out (by simp [usherref9_private.l0])
  | succ k1 =>
   have H := HA.out
   clear HA
   simp only [usherref9_private.l0] at H
   by_cases c2 : x4_1 < (a0.size : Int)
   ·rw [if_pos c2] at H
    have c2b0 : decide (x4_1 < (a0.size : Int)) = true := decide_eq_true c2
    clear c2
    by_cases c3 : 0 ≤ x4_1
    ·rw [if_pos c3] at H
     have c3b0 : decide (0 ≤ x4_1) = true := decide_eq_true c3
     clear c3
     by_cases c5 : (bt a0 x4_1) ≥ 97
     ·rw [if_pos c5] at H
      have c5b0 : decide (97 ≤ (bt a0 x4_1)) = true := decide_eq_true c5
      clear c5
      by_cases c6 : (bt a0 x4_1) ≥ 48
      ·rw [if_pos c6] at H
       have c6b0 : decide (48 ≤ (bt a0 x4_1)) = true := decide_eq_true c6
       clear c6
       by_cases c7 : (bt a0 x4_1) ≤ 57
       ·rw [if_pos c7] at H
        have c7b0 : decide ((bt a0 x4_1) ≤ 57) = true := decide_eq_true c7
        clear c7
        by_cases c8 : ((bt a0 x4_1) ≤ 122)
        ·rw [if_pos c8] at H
         have c8b0 : decide ((bt a0 x4_1) ≤ 122) = true := decide_eq_true c8
         clear c8
         by_cases c9 : x3_1 = true
         ·subst c9
          have H1 : (usherref9_private.l0 k1 a0 true (wrap64 (x4_1 + 1))) = some r := by rw [if_pos rfl] at H; exact H
          clear H
          have H := H1
          clear H1
          have H' := Aside0.mk H
          clear H
          have p4 : 0 ≤ (x4_1 : Int) := of_decide_eq_true (by first | (with_reducible assumption) | assumption)
          have q4 : x4_1 < (a0.size : Int) := of_decide_eq_true (by first | (with_reducible assumption) | assumption)
          have hx4 := bt_at a0 x4_1
          replace p4 := eq_true p4
          replace q4 := eq_true q4
          go_wp2
          go_roundg k1
          case measure => have := HK1.out; omega
          case rel => exact ⟨(true), (wrap64 (x4_1 + 1)), (by first | rfl | (simp; done) | (simp [*]; done) | (simp [bne]; done)), (by first | rfl | (simp; done) | (simp [*]; done) | (simp [bne]; done)), H', ⟨by have := HK1.out; omega⟩, by repeat (first | exact Drawn0.refl _ | apply Drawn0.step)⟩
         ·replace c9 := Bool.eq_false_iff.mpr c9
          subst c9
          have H1 : (usherref9_private.l0 k1 a0 ((bt a0 x4_1) == 46) (wrap64 (x4_1 + 1))) = some r := by rw [if_neg (show ¬ (false = true) by decide)] at H; exact H
          clear H
          have H := H1
          clear H1
          have H' := Aside0.mk H
          clear H
          have p4 : 0 ≤ (x4_1 : Int) := of_decide_eq_true (by first | (with_reducible assumption) | assumption)
          have q4 : x4_1 < (a0.size : Int) := of_decide_eq_true (by first | (with_reducible assumption) | assumption)
          have hx4 := bt_at a0 x4_1
          replace p4 := eq_true p4
          replace q4 := eq_true q4
          go_wp2
          go_roundg k1
          case measure => have := HK1.out; omega
          case rel => exact ⟨(((bt a0 x4_1) == 46)), (wrap64 (x4_1 + 1)), (by first | rfl | (simp; done) | (simp [*]; done) | (simp [bne]; done)), (by first | rfl | (simp; done) | (simp [*]; done) | (simp [bne]; done)), H', ⟨by have := HK1.out; omega⟩, by repeat (first | exact Drawn0.refl _ | apply Drawn0.step)⟩
        ·rw [if_neg c8] at H
         have c8b0 : decide ((bt a0 x4_1) ≤ 122) = false := decide_eq_false c8
         clear c8
         by_cases c10 : x4_1 = 0
         ·rw [if_pos c10] at H
          have c10b0 : (x4_1 == 0) = true := beq_iff_eq.mpr c10
          have c10b1 : (x4_1 != 0) = false := bne_eq_false_iff_eq.mpr c10
          clear c10
          obtain rfl := Option.some.inj H
          have p4 : 0 ≤ (x4_1 : Int) := of_decide_eq_true (by first | (with_reducible assumption) | assumption)
          have q4 : x4_1 < (a0.size : Int) := of_decide_eq_true (by first | (with_reducible assumption) | assumption)
          have hx4 := bt_at a0 x4_1
          replace p4 := eq_true p4
          replace q4 := eq_true q4
          go_wp2
          go_ret
          exact ⟨by first | rfl | (simp; done) | (simp [*]; done) | (simp [bne]; done), by repeat (first | exact Drawn0.refl _ | apply Drawn0.step)⟩
         ·rw [if_neg c10] at H
          have c10b0 : (x4_1 == 0) = false := beq_eq_false_iff_ne.mpr c10
          have c10b1 : (x4_1 != 0) = true := bne_iff_ne.mpr c10
          by_cases c11 : x3_1 = true
          ·subst c11
           have H1 : (usherref9_private.l0 k1 a0 true (wrap64 (x4_1 + 1))) = some r := by rw [if_pos rfl] at H; exact H
           clear H
           have H := H1
           clear H1
           have H' := Aside0.mk H
           clear H
           have p4 : 0 ≤ (x4_1 : Int) := of_decide_eq_true (by first | (with_reducible assumption) | assumption)
           have q4 : x4_1 < (a0.size : Int) := of_decide_eq_true (by first | (with_reducible assumption) | assumption)
           have hx4 := bt_at a0 x4_1
           replace p4 := eq_true p4
           replace q4 := eq_true q4
           go_wp2
           go_roundg k1
           case measure => have := HK1.out; omega
           case rel => exact ⟨(true), (wrap64 (x4_1 + 1)), (by first | rfl | (simp; done) | (simp [*]; done) | (simp [bne]; done)), (by first | rfl | (simp; done) | (simp [*]; done) | (simp [bne]; done)), H', ⟨by have := HK1.out; omega⟩, by repeat (first | exact Drawn0.refl _ | apply Drawn0.step)⟩
          ·replace c11 := Bool.eq_false_iff.mpr c11
           subst c11
           have H1 : (usherref9_private.l0 k1 a0 ((bt a0 x4_1) == 46) (wrap64 (x4_1 + 1))) = some r := by rw [if_neg (show ¬ (false = true) by decide)] at H; exact H
           clear H
           have H := H1
           clear H1
           have H' := Aside0.mk H
           clear H
           have p4 : 0 ≤ (x4_1 : Int) := of_decide_eq_true (by first | (with_reducible assumption) | assumption)
           have q4 : x4_1 < (a0.size : Int) := of_decide_eq_true (by first | (with_reducible assumption) | assumption)
           have hx4 := bt_at a0 x4_1
           replace p4 := eq_true p4
           replace q4 := eq_true q4
           go_wp2
           go_roundg k1
           case measure => have := HK1.out; omega
           case rel => exact ⟨(((bt a0 x4_1) == 46)), (wrap64 (x4_1 + 1)), (by first | rfl | (simp; done) | (simp [*]; done) | (simp [bne]; done)), (by first | rfl | (simp; done) | (simp [*]; done) | (simp [bne]; done)), H', ⟨by have := HK1.out; omega⟩, by repeat (first | exact Drawn0.refl _ | apply Drawn0.step)⟩
       ·rw [if_neg c7] at H
        have c7b0 : decide ((bt a0 x4_1) ≤ 57) = false := decide_eq_false c7
        clear c7
        by_cases c12 : (bt a0 x4_1) = 43
        ·rw [if_pos c12] at H
         have c12b0 : ((bt a0 x4_1) == 43) = true := beq_iff_eq.mpr c12
         have c12b1 : ((bt a0 x4_1) != 43) = false := bne_eq_false_iff_eq.mpr c12
         clear c12
         by_cases c13 : ((bt a0 x4_1) ≤ 122)
         ·rw [if_pos c13] at H
          have c13b0 : decide ((bt a0 x4_1) ≤ 122) = true := decide_eq_true c13
          clear c13
          by_cases c14 : x3_1 = true
          ·subst c14
           have H1 : (usherref9_private.l0 k1 a0 true (wrap64 (x4_1 + 1))) = some r := by rw [if_pos rfl] at H; exact H
           clear H
           have H := H1
           clear H1
           have H' := Aside0.mk H
           clear H
           have p4 : 0 ≤ (x4_1 : Int) := of_decide_eq_true (by first | (with_reducible assumption) | assumption)
           have q4 : x4_1 < (a0.size : Int) := of_decide_eq_true (by first | (with_reducible assumption) | assumption)
           have hx4 := bt_at a0 x4_1
           replace p4 := eq_true p4
           replace q4 := eq_true q4
           go_wp2
           go_roundg k1
           case measure => have := HK1.out; omega
           case rel => exact ⟨(true), (wrap64 (x4_1 + 1)), (by first | rfl | (simp; done) | (simp [*]; done) | (simp [bne]; done)), (by first | rfl | (simp; done) | (simp [*]; done) | (simp [bne]; done)), H', ⟨by have := HK1.out; omega⟩, by repeat (first | exact Drawn0.refl _ | apply Drawn0.step)⟩
          ·replace c14 := Bool.eq_false_iff.mpr c14
           subst c14
           have H1 : (usherref9_private.l0 k1 a0 ((bt a0 x4_1) == 46) (wrap64 (x4_1 + 1))) = some r := by rw [if_neg (show ¬ (false = true) by decide)] at H; exact H
           clear H
           have H := H1
           clear H1
           have H' := Aside0.mk H
           clear H
           have p4 : 0 ≤ (x4_1 : Int) := of_decide_eq_true (by first | (with_reducible assumption) | assumption)
           have q4 : x4_1 < (a0.size : Int) := of_decide_eq_true (by first | (with_reducible assumption) | assumption)
           have hx4 := bt_at a0 x4_1
           replace p4 := eq_true p4
           replace q4 := eq_true q4
           go_wp2
           go_roundg k1
           case measure => have := HK1.out; omega
           case rel => exact ⟨(((bt a0 x4_1) == 46)), (wrap64 (x4_1 + 1)), (by first | rfl | (simp; done) | (simp [*]; done) | (simp [bne]; done)), (by first | rfl | (simp; done) | (simp [*]; done) | (simp [bne]; done)), H', ⟨by have := HK1.out; omega⟩, by repeat (first | exact Drawn0.refl _ | apply Drawn0.step)⟩
         ·rw [if_neg c13] at H
          have c13b0 : decide ((bt a0 x4_1) ≤ 122) = false := decide_eq_false c13
          clear c13
          by_cases c15 : x4_1 = 0
          ·rw [if_pos c15] at H
           have c15b0 : (x4_1 == 0) = true := beq_iff_eq.mpr c15
           have c15b1 : (x4_1 != 0) = false := bne_eq_false_iff_eq.mpr c15
           clear c15
           obtain rfl := Option.some.inj H
           have p4 : 0 ≤ (x4_1 : Int) := of_decide_eq_true (by first | (with_reducible assumption) | assumption)
           have q4 : x4_1 < (a0.size : Int) := of_decide_eq_true (by first | (with_reducible assumption) | assumption)
           have hx4 := bt_at a0 x4_1
           replace p4 := eq_true p4
           replace q4 := eq_true q4
           go_wp2
           go_ret
           exact ⟨by first | rfl | (simp; done) | (simp [*]; done) | (simp [bne]; done), by repeat (first | exact Drawn0.refl _ | apply Drawn0.step)⟩
          ·rw [if_neg c15] at H
           have c15b0 : (x4_1 == 0) = false := beq_eq_false_iff_ne.mpr c15
           have c15b1 : (x4_1 != 0) = true := bne_iff_ne.mpr c15
           by_cases c16 : x3_1 = true
           ·subst c16
            have H1 : (usherref9_private.l0 k1 a0 true (wrap64 (x4_1 + 1))) = some r := by rw [if_pos rfl] at H; exact H
            clear H
            have H := H1
            clear H1
            have H' := Aside0.mk H
            clear H
            have p4 : 0 ≤ (x4_1 : Int) := of_decide_eq_true (by first | (with_reducible assumption) | assumption)
            have q4 : x4_1 < (a0.size : Int) := of_decide_eq_true (by first | (with_reducible assumption) | assumption)
            have hx4 := bt_at a0 x4_1
            replace p4 := eq_true p4
            replace q4 := eq_true q4
            go_wp2
            go_roundg k1
            case measure => have := HK1.out; omega
            case rel => exact ⟨(true), (wrap64 (x4_1 + 1)), (by first | rfl | (simp; done) | (simp [*]; done) | (simp [bne]; done)), (by first | rfl | (simp; done) | (simp [*]; done) | (simp [bne]; done)), H', ⟨by have := HK1.out; omega⟩, by repeat (first | exact Drawn0.refl _ | apply Drawn0.step)⟩
           ·replace c16 := Bool.eq_false_iff.mpr c16
            subst c16
            have H1 : (usherref9_private.l0 k1 a0 ((bt a0 x4_1) == 46) (wrap64 (x4_1 + 1))) = some r := by rw [if_neg (show ¬ (false = true) by decide)] at H; exact H
            clear H
            have H := H1
            clear H1
            have H' := Aside0.mk H
            clear H
            have p4 : 0 ≤ (x4_1 : Int) := of_decide_eq_true (by first | (with_reducible assumption) | assumption)
            have q4 : x4_1 < (a0.size : Int) := of_decide_eq_true (by first | (with_reducible assumption) | assumption)
            have hx4 := bt_at a0 x4_1
            replace p4 := eq_true p4
            replace q4 := eq_true q4
            go_wp2
            go_roundg k1
            case measure => have := HK1.out; omega
            case rel => exact ⟨(((bt a0 x4_1) == 46)), (wrap64 (x4_1 + 1)), (by first | rfl | (simp; done) | (simp [*]; done) | (simp [bne]; done)), (by first | rfl | (simp; done) | (simp [*]; done) | (simp [bne]; done)), H', ⟨by have := HK1.out; omega⟩, by repeat (first | exact Drawn0.refl _ | apply Drawn0.step)⟩
        ·rw [if_neg c12] at H
         have c12b0 : ((bt a0 x4_1) == 43) = false := beq_eq_false_iff_ne.mpr c12
         have c12b1 : ((bt a0 x4_1) != 43) = true := bne_iff_ne.mpr c12
         by_cases c17 : (bt a0 x4_1) = 45
         ·rw [if_pos c17] at H
          have c17b0 : ((bt a0 x4_1) == 45) = true := beq_iff_eq.mpr c17
          have c17b1 : ((bt a0 x4_1) != 45) = false := bne_eq_false_iff_eq.mpr c17
          clear c17
          by_cases c18 : ((bt a0 x4_1) ≤ 122)
          ·rw [if_pos c18] at H
           have c18b0 : decide ((bt a0 x4_1) ≤ 122) = true := decide_eq_true c18
           clear c18
           by_cases c19 : x3_1 = true
           ·subst c19
            have H1 : (usherref9_private.l0 k1 a0 true (wrap64 (x4_1 + 1))) = some r := by rw [if_pos rfl] at H; exact H
            clear H
            have H := H1
            clear H1
            have H' := Aside0.mk H
            clear H
            have p4 : 0 ≤ (x4_1 : Int) := of_decide_eq_true (by first | (with_reducible assumption) | assumption)
            have q4 : x4_1 < (a0.size : Int) := of_decide_eq_true (by first | (with_reducible assumption) | assumption)
            have hx4 := bt_at a0 x4_1
            replace p4 := eq_true p4
            replace q4 := eq_true q4
            go_wp2
            go_roundg k1
            case measure => have := HK1.out; omega
            case rel => exact ⟨(true), (wrap64 (x4_1 + 1)), (by first | rfl | (simp; done) | (simp [*]; done) | (simp [bne]; done)), (by first | rfl | (simp; done) | (simp [*]; done) | (simp [bne]; done)), H', ⟨by have := HK1.out; omega⟩, by repeat (first | exact Drawn0.refl _ | apply Drawn0.step)⟩
           ·replace c19 := Bool.eq_false_iff.mpr c19
            subst c19
            have H1 : (usherref9_private.l0 k1 a0 ((bt a0 x4_1) == 46) (wrap64 (x4_1 + 1))) = some r := by rw [if_neg (show ¬ (false = true) by decide)] at H; exact H
            clear H
            have H := H1
            clear H1
            have H' := Aside0.mk H
            clear H
            have p4 : 0 ≤ (x4_1 : Int) := of_decide_eq_true (by first | (with_reducible assumption) | assumption)
            have q4 : x4_1 < (a0.size : Int) := of_decide_eq_true (by first | (with_reducible assumption) | assumption)
            have hx4 := bt_at a0 x4_1
            replace p4 := eq_true p4
            replace q4 := eq_true q4
            go_wp2
            go_roundg k1
            case measure => have := HK1.out; omega
            case rel => exact ⟨(((bt a0 x4_1) == 46)), (wrap64 (x4_1 + 1)), (by first | rfl | (simp; done) | (simp [*]; done) | (simp [bne]; done)), (by first | rfl | (simp; done) | (simp [*]; done) | (simp [bne]; done)), H', ⟨by have := HK1.out; omega⟩, by repeat (first | exact Drawn0.refl _ | apply Drawn0.step)⟩
          ·rw [if_neg c18] at H
           have c18b0 : decide ((bt a0 x4_1) ≤ 122) = false := decide_eq_false c18
           clear c18
           by_cases c20 : x4_1 = 0
           ·rw [if_pos c20] at H
            have c20b0 : (x4_1 == 0) = true := beq_iff_eq.mpr c20
            have c20b1 : (x4_1 != 0) = false := bne_eq_false_iff_eq.mpr c20
            clear c20
            obtain rfl := Option.some.inj H
            have p4 : 0 ≤ (x4_1 : Int) := of_decide_eq_true (by first | (with_reducible assumption) | assumption)
            have q4 : x4_1 < (a0.size : Int) := of_decide_eq_true (by first | (with_reducible assumption) | assumption)
            have hx4 := bt_at a0 x4_1
            replace p4 := eq_true p4
            replace q4 := eq_true q4
            go_wp2
            go_ret
            exact ⟨by first | rfl | (simp; done) | (simp [*]; done) | (simp [bne]; done), by repeat (first | exact Drawn0.refl _ | apply Drawn0.step)⟩
           ·rw [if_neg c20] at H
            have c20b0 : (x4_1 == 0) = false := beq_eq_false_iff_ne.mpr c20
            have c20b1 : (x4_1 != 0) = true := bne_iff_ne.mpr c20
            by_cases c21 : x3_1 = true
            ·subst c21
             have H1 : (usherref9_private.l0 k1 a0 true (wrap64 (x4_1 + 1))) = some r := by rw [if_pos rfl] at H; exact H
             clear H
             have H := H1
             clear H1
             have H' := Aside0.mk H
             clear H
             have p4 : 0 ≤ (x4_1 : Int) := of_decide_eq_true (by first | (with_reducible assumption) | assumption)
             have q4 : x4_1 < (a0.size : Int) := of_decide_eq_true (by first | (with_reducible assumption) | assumption)
             have hx4 := bt_at a0 x4_1
             replace p4 := eq_true p4
             replace q4 := eq_true q4
             go_wp2
             go_roundg k1
             case measure => have := HK1.out; omega
             case rel => exact ⟨(true), (wrap64 (x4_1 + 1)), (by first | rfl | (simp; done) | (simp [*]; done) | (simp [bne]; done)), (by first | rfl | (simp; done) | (simp [*]; done) | (simp [bne]; done)), H', ⟨by have := HK1.out; omega⟩, by repeat (first | exact Drawn0.refl _ | apply Drawn0.step)⟩
            ·replace c21 := Bool.eq_false_iff.mpr c21
             subst c21
             have H1 : (usherref9_private.l0 k1 a0 ((bt a0 x4_1) == 46) (wrap64 (x4_1 + 1))) = some r := by rw [if_neg (show ¬ (false = true) by decide)] at H; exact H
             clear H
             have H := H1
             clear H1
             have H' := Aside0.mk H
             clear H
             have p4 : 0 ≤ (x4_1 : Int) := of_decide_eq_true (by first | (with_reducible assumption) | assumption)
             have q4 : x4_1 < (a0.size : Int) := of_decide_eq_true (by first | (with_reducible assumption) | assumption)
             have hx4 := bt_at a0 x4_1
             replace p4 := eq_true p4
             replace q4 := eq_true q4
             go_wp2
             go_roundg k1
             case measure => have := HK1.out; omega
             case rel => exact ⟨(((bt a0 x4_1) == 46)), (wrap64 (x4_1 + 1)), (by first | rfl | (simp; done) | (simp [*]; done) | (simp [bne]; done)), (by first | rfl | (simp; done) | (simp [*]; done) | (simp [bne]; done)), H', ⟨by have := HK1.out; omega⟩, by repeat (first | exact Drawn0.refl _ | apply Drawn0.step)⟩
         ·rw [if_neg c17] at H
          have c17b0 : ((bt a0 x4_1) == 45) = false := beq_eq_false_iff_ne.mpr c17
          have c17b1 : ((bt a0 x4_1) != 45) = true := bne_iff_ne.mpr c17
          by_cases c22 : ((bt a0 x4_1) ≤ 122)
          ·rw [if_pos c22] at H
           have c22b0 : decide ((bt a0 x4_1) ≤ 122) = true := decide_eq_true c22
           clear c22
           by_cases c23 : x3_1 = true
           ·subst c23
            have H1 : (usherref9_private.l0 k1 a0 true (wrap64 (x4_1 + 1))) = some r := by rw [if_pos rfl] at H; exact H
            clear H
            have H := H1
            clear H1
            have H' := Aside0.mk H
            clear H
            have p4 : 0 ≤ (x4_1 : Int) := of_decide_eq_true (by first | (with_reducible assumption) | assumption)
            have q4 : x4_1 < (a0.size : Int) := of_decide_eq_true (by first | (with_reducible assumption) | assumption)
            have hx4 := bt_at a0 x4_1
            replace p4 := eq_true p4
            replace q4 := eq_true q4
            go_wp2
            go_roundg k1
            case measure => have := HK1.out; omega
            case rel => exact ⟨(true), (wrap64 (x4_1 + 1)), (by first | rfl | (simp; done) | (simp [*]; done) | (simp [bne]; done)), (by first | rfl | (simp; done) | (simp [*]; done) | (simp [bne]; done)), H', ⟨by have := HK1.out; omega⟩, by repeat (first | exact Drawn0.refl _ | apply Drawn0.step)⟩
           ·replace c23 := Bool.eq_false_iff.mpr c23
            subst c23
            have H1 : (usherref9_private.l0 k1 a0 ((bt a0 x4_1) == 46) (wrap64 (x4_1 + 1))) = some r := by rw [if_neg (show ¬ (false = true) by decide)] at H; exact H
            clear H
            have H := H1
            clear H1
            have H' := Aside0.mk H
            clear H
            have p4 : 0 ≤ (x4_1 : Int) := of_decide_eq_true (by first | (with_reducible assumption) | assumption)
            have q4 : x4_1 < (a0.size : Int) := of_decide_eq_true (by first | (with_reducible assumption) | assumption)
            have hx4 := bt_at a0 x4_1
            replace p4 := eq_true p4
            replace q4 := eq_true q4
            go_wp2
            go_roundg k1
            case measure => have := HK1.out; omega
            case rel => exact ⟨(((bt a0 x4_1) == 46)), (wrap64 (x4_1 + 1)), (by first | rfl | (simp; done) | (simp [*]; done) | (simp [bne]; done)), (by first | rfl | (simp; done) | (simp [*]; done) | (simp [bne]; done)), H', ⟨by have := HK1.out; omega⟩, by repeat (first | exact Drawn0.refl _ | apply Drawn0.step)⟩
          ·rw [if_neg c22] at H
           have c22b0 : decide ((bt a0 x4_1) ≤ 122) = false := decide_eq_false c22
           clear c22
           by_cases c24 : x4_1 = 0
           ·rw [if_pos c24] at H
            have c24b0 : (x4_1 == 0) = true := beq_iff_eq.mpr c24
            have c24b1 : (x4_1 != 0) = false := bne_eq_false_iff_eq.mpr c24
            clear c24
            obtain rfl := Option.some.inj H
            have p4 : 0 ≤ (x4_1 : Int) := of_decide_eq_true (by first | (with_reducible assumption) | assumption)
            have q4 : x4_1 < (a0.size : Int) := of_decide_eq_true (by first | (with_reducible assumption) | assumption)
            have hx4 := bt_at a0 x4_1
            replace p4 := eq_true p4
            replace q4 := eq_true q4
            go_wp2
            go_ret
            exact ⟨by first | rfl | (simp; done) | (simp [*]; done) | (simp [bne]; done), by repeat (first | exact Drawn0.refl _ | apply Drawn0.step)⟩
           ·rw [if_neg c24] at H
            have c24b0 : (x4_1 == 0) = false := beq_eq_false_iff_ne.mpr c24
            have c24b1 : (x4_1 != 0) = true := bne_iff_ne.mpr c24
            by_cases c25 : ((bt a0 x4_1) = 46)
            ·rw [if_pos c25] at H
             have c25b0 : ((bt a0 x4_1) == 46) = true := beq_iff_eq.mpr c25
             have c25b1 : ((bt a0 x4_1) != 46) = false := bne_eq_false_iff_eq.mpr c25
             clear c25
             by_cases c26 : x3_1 = true
             ·subst c26
              have H1 : (usherref9_private.l0 k1 a0 true (wrap64 (x4_1 + 1))) = some r := by rw [if_pos rfl] at H; exact H
              clear H
              have H := H1
              clear H1
              have H' := Aside0.mk H
              clear H
              have p4 : 0 ≤ (x4_1 : Int) := of_decide_eq_true (by first | (with_reducible assumption) | assumption)
              have q4 : x4_1 < (a0.size : Int) := of_decide_eq_true (by first | (with_reducible assumption) | assumption)
              have hx4 := bt_at a0 x4_1
              replace p4 := eq_true p4
              replace q4 := eq_true q4
              go_wp2
              go_roundg k1
              case measure => have := HK1.out; omega
              case rel => exact ⟨(true), (wrap64 (x4_1 + 1)), (by first | rfl | (simp; done) | (simp [*]; done) | (simp [bne]; done)), (by first | rfl | (simp; done) | (simp [*]; done) | (simp [bne]; done)), H', ⟨by have := HK1.out; omega⟩, by repeat (first | exact Drawn0.refl _ | apply Drawn0.step)⟩
             ·replace c26 := Bool.eq_false_iff.mpr c26
              subst c26
              have H1 : (usherref9_private.l0 k1 a0 ((bt a0 x4_1) == 46) (wrap64 (x4_1 + 1))) = some r := by rw [if_neg (show ¬ (false = true) by decide)] at H; exact H
              clear H
              have H := H1
              clear H1
              have H' := Aside0.mk H
              clear H
              have p4 : 0 ≤ (x4_1 : Int) := of_decide_eq_true (by first | (with_reducible assumption) | assumption)
              have q4 : x4_1 < (a0.size : Int) := of_decide_eq_true (by first | (with_reducible assumption) | assumption)
              have hx4 := bt_at a0 x4_1
              replace p4 := eq_true p4
              replace q4 := eq_true q4
              go_wp2
              go_roundg k1
              case measure => have := HK1.out; omega
              case rel => exact ⟨(((bt a0 x4_1) == 46)), (wrap64 (x4_1 + 1)), (by first | rfl | (simp; done) | (simp [*]; done) | (simp [bne]; done)), (by first | rfl | (simp; done) | (simp [*]; done) | (simp [bne]; done)), H', ⟨by have := HK1.out; omega⟩, by repeat (first | exact Drawn0.refl _ | apply Drawn0.step)⟩
            ·rw [if_neg c25] at H
             have c25b0 : ((bt a0 x4_1) == 46) = false := beq_eq_false_iff_ne.mpr c25
             have c25b1 : ((bt a0 x4_1) != 46) = true := bne_iff_ne.mpr c25
             obtain rfl := Option.some.inj H
             have p4 : 0 ≤ (x4_1 : Int) := of_decide_eq_true (by first | (with_reducible assumption) | assumption)
             have q4 : x4_1 < (a0.size : Int) := of_decide_eq_true (by first | (with_reducible assumption) | assumption)
             have hx4 := bt_at a0 x4_1
             replace p4 := eq_true p4
             replace q4 := eq_true q4
             go_wp2
             go_ret
             exact ⟨by first | rfl | (simp; done) | (simp [*]; done) | (simp [bne]; done), by repeat (first | exact Drawn0.refl _ | apply Drawn0.step)⟩
      ·rw [if_neg c6] at H
       have c6b0 : decide (48 ≤ (bt a0 x4_1)) = false := decide_eq_false c6
       clear c6
       by_cases c27 : (bt a0 x4_1) = 43
       ·rw [if_pos c27] at H
        have c27b0 : ((bt a0 x4_1) == 43) = true := beq_iff_eq.mpr c27
        have c27b1 : ((bt a0 x4_1) != 43) = false := bne_eq_false_iff_eq.mpr c27
        clear c27
        by_cases c28 : ((bt a0 x4_1) ≤ 122)
        ·rw [if_pos c28] at H
         have c28b0 : decide ((bt a0 x4_1) ≤ 122) = true := decide_eq_true c28
         clear c28
         by_cases c29 : x3_1 = true
         ·subst c29
          have H1 : (usherref9_private.l0 k1 a0 true (wrap64 (x4_1 + 1))) = some r := by rw [if_pos rfl] at H; exact H
          clear H
          have H := H1
          clear H1
          have H' := Aside0.mk H
          clear H
          have p4 : 0 ≤ (x4_1 : Int) := of_decide_eq_true (by first | (with_reducible assumption) | assumption)
          have q4 : x4_1 < (a0.size : Int) := of_decide_eq_true (by first | (with_reducible assumption) | assumption)
          have hx4 := bt_at a0 x4_1
          replace p4 := eq_true p4
          replace q4 := eq_true q4
          go_wp2
          go_roundg k1
          case measure => have := HK1.out; omega
          case rel => exact ⟨(true), (wrap64 (x4_1 + 1)), (by first | rfl | (simp; done) | (simp [*]; done) | (simp [bne]; done)), (by first | rfl | (simp; done) | (simp [*]; done) | (simp [bne]; done)), H', ⟨by have := HK1.out; omega⟩, by repeat (first | exact Drawn0.refl _ | apply Drawn0.step)⟩
         ·replace c29 := Bool.eq_false_iff.mpr c29
          subst c29
          have H1 : (usherref9_private.l0 k1 a0 ((bt a0 x4_1) == 46) (wrap64 (x4_1 + 1))) = some r := by rw [if_neg (show ¬ (false = true) by decide)] at H; exact H
          clear H
          have H := H1
          clear H1
          have H' := Aside0.mk H
          clear H
          have p4 : 0 ≤ (x4_1 : Int) := of_decide_eq_true (by first | (with_reducible assumption) | assumption)
          have q4 : x4_1 < (a0.size : Int) := of_decide_eq_true (by first | (with_reducible assumption) | assumption)
          have hx4 := bt_at a0 x4_1
          replace p4 := eq_true p4
          replace q4 := eq_true q4
          go_wp2
          go_roundg k1
          case measure => have := HK1.out; omega
          case rel => exact ⟨(((bt a0 x4_1) == 46)), (wrap64 (x4_1 + 1)), (by first | rfl | (simp; done) | (simp [*]; done) | (simp [bne]; done)), (by first | rfl | (simp; done) | (simp [*]; done) | (simp [bne]; done)), H', ⟨by have := HK1.out; omega⟩, by repeat (first | exact Drawn0.refl _ | apply Drawn0.step)⟩
        ·rw [if_neg c28] at H
         have c28b0 : decide ((bt a0 x4_1) ≤ 122) = false := decide_eq_false c28
         clear c28
         by_cases c30 : x4_1 = 0
         ·rw [if_pos c30] at H
          have c30b0 : (x4_1 == 0) = true := beq_iff_eq.mpr c30
          have c30b1 : (x4_1 != 0) = false := bne_eq_false_iff_eq.mpr c30
          clear c30
          obtain rfl := Option.some.inj H
          have p4 : 0 ≤ (x4_1 : Int) := of_decide_eq_true (by first | (with_reducible assumption) | assumption)
          have q4 : x4_1 < (a0.size : Int) := of_decide_eq_true (by first | (with_reducible assumption) | assumption)
          have hx4 := bt_at a0 x4_1
          replace p4 := eq_true p4
          replace q4 := eq_true q4
          go_wp2
          go_ret
          exact ⟨by first | rfl | (simp; done) | (simp [*]; done) | (simp [bne]; done), by repeat (first | exact Drawn0.refl _ | apply Drawn0.step)⟩
         ·rw [if_neg c30] at H
          have c30b0 : (x4_1 == 0) = false := beq_eq_false_iff_ne.mpr c30
          have c30b1 : (x4_1 != 0) = true := bne_iff_ne.mpr c30
          by_cases c31 : x3_1 = true
          ·subst c31
           have H1 : (usherref9_private.l0 k1 a0 true (wrap64 (x4_1 + 1))) = some r := by rw [if_pos rfl] at H; exact H
           clear H
           have H := H1
           clear H1
           have H' := Aside0.mk H
           clear H
           have p4 : 0 ≤ (x4_1 : Int) := of_decide_eq_true (by first | (with_reducible assumption) | assumption)
           have q4 : x4_1 < (a0.size : Int) := of_decide_eq_true (by first | (with_reducible assumption) | assumption)
           have hx4 := bt_at a0 x4_1
           replace p4 := eq_true p4
           replace q4 := eq_true q4
           go_wp2
           go_roundg k1
           case measure => have := HK1.out; omega
           case rel => exact ⟨(true), (wrap64 (x4_1 + 1)), (by first | rfl | (simp; done) | (simp [*]; done) | (simp [bne]; done)), (by first | rfl | (simp; done) | (simp [*]; done) | (simp [bne]; done)), H', ⟨by have := HK1.out; omega⟩, by repeat (first | exact Drawn0.refl _ | apply Drawn0.step)⟩
          ·replace c31 := Bool.eq_false_iff.mpr c31
           subst c31
           have H1 : (usherref9_private.l0 k1 a0 ((bt a0 x4_1) == 46) (wrap64 (x4_1 + 1))) = some r := by rw [if_neg (show ¬ (false = true) by decide)] at H; exact H
           clear H
           have H := H1
           clear H1
           have H' := Aside0.mk H
           clear H
           have p4 : 0 ≤ (x4_1 : Int) := of_decide_eq_true (by first | (with_reducible assumption) | assumption)
           have q4 : x4_1 < (a0.size : Int) := of_decide_eq_true (by first | (with_reducible assumption) | assumption)
           have hx4 := bt_at a0 x4_1
           replace p4 := eq_true p4
           replace q4 := eq_true q4
           go_wp2
           go_roundg k1
           case measure => have := HK1.out; omega
           case rel => exact ⟨(((bt a0 x4_1) == 46)), (wrap64 (x4_1 + 1)), (by first | rfl | (simp; done) | (simp [*]; done) | (simp [bne]; done)), (by first | rfl | (simp; done) | (simp [*]; done) | (simp [bne]; done)), H', ⟨by have := HK1.out; omega⟩, by repeat (first | exact Drawn0.refl _ | apply Drawn0.step)⟩
       ·rw [if_neg c27] at H
        have c27b0 : ((bt a0 x4_1) == 43) = false := beq_eq_false_iff_ne.mpr c27
        have c27b1 : ((bt a0 x4_1) != 43) = true := bne_iff_ne.mpr c27
        by_cases c32 : (bt a0 x4_1) = 45
        ·rw [if_pos c32] at H
         have c32b0 : ((bt a0 x4_1) == 45) = true := beq_iff_eq.mpr c32
         have c32b1 : ((bt a0 x4_1) != 45) = false := bne_eq_false_iff_eq.mpr c32
         clear c32
         by_cases c33 : ((bt a0 x4_1) ≤ 122)
         ·rw [if_pos c33] at H
          have c33b0 : decide ((bt a0 x4_1) ≤ 122) = true := decide_eq_true c33
          clear c33
          by_cases c34 : x3_1 = true
          ·subst c34
           have H1 : (usherref9_private.l0 k1 a0 true (wrap64 (x4_1 + 1))) = some r := by rw [if_pos rfl] at H; exact H
           clear H
           have H := H1
           clear H1
           have H' := Aside0.mk H
           clear H
           have p4 : 0 ≤ (x4_1 : Int) := of_decide_eq_true (by first | (with_reducible assumption) | assumption)
           have q4 : x4_1 < (a0.size : Int) := of_decide_eq_true (by first | (with_reducible assumption) | assumption)
           have hx4 := bt_at a0 x4_1
           replace p4 := eq_true p4
           replace q4 := eq_true q4
           go_wp2
           go_roundg k1
           case measure => have := HK1.out; omega
           case rel => exact ⟨(true), (wrap64 (x4_1 + 1)), (by first | rfl | (simp; done) | (simp [*]; done) | (simp [bne]; done)), (by first | rfl | (simp; done) | (simp [*]; done) | (simp [bne]; done)), H', ⟨by have := HK1.out; omega⟩, by repeat (first | exact Drawn0.refl _ | apply Drawn0.step)⟩
          ·replace c34 := Bool.eq_false_iff.mpr c34
           subst c34
           have H1 : (usherref9_private.l0 k1 a0 ((bt a0 x4_1) == 46) (wrap64 (x4_1 + 1))) = some r := by rw [if_neg (show ¬ (false = true) by decide)] at H; exact H
           clear H
           have H := H1
           clear H1
           have H' := Aside0.mk H
           clear H
           have p4 : 0 ≤ (x4_1 : Int) := of_decide_eq_true (by first | (with_reducible assumption) | assumption)
           have q4 : x4_1 < (a0.size : Int) := of_decide_eq_true (by first | (with_reducible assumption) | assumption)
           have hx4 := bt_at a0 x4_1
           replace p4 := eq_true p4
           replace q4 := eq_true q4
           go_wp2
           go_roundg k1
           case measure => have := HK1.out; omega
           case rel => exact ⟨(((bt a0 x4_1) == 46)), (wrap64 (x4_1 + 1)), (by first | rfl | (simp; done) | (simp [*]; done) | (simp [bne]; done)), (by first | rfl | (simp; done) | (simp [*]; done) | (simp [bne]; done)), H', ⟨by have := HK1.out; omega⟩, by repeat (first | exact Drawn0.refl _ | apply Drawn0.step)⟩
         ·rw [if_neg c33] at H
          have c33b0 : decide ((bt a0 x4_1) ≤ 122) = false := decide_eq_false c33
          clear c33
          by_cases c35 : x4_1 = 0
          ·rw [if_pos c35] at H
           have c35b0 : (x4_1 == 0) = true := beq_iff_eq.mpr c35
           have c35b1 : (x4_1 != 0) = false := bne_eq_false_iff_eq.mpr c35
           clear c35
           obtain rfl := Option.some.inj H
           have p4 : 0 ≤ (x4_1 : Int) := of_decide_eq_true (by first | (with_reducible assumption) | assumption)
           have q4 : x4_1 < (a0.size : Int) := of_decide_eq_true (by first | (with_reducible assumption) | assumption)
           have hx4 := bt_at a0 x4_1
           replace p4 := eq_true p4
           replace q4 := eq_true q4
           go_wp2
           go_ret
           exact ⟨by first | rfl | (simp; done) | (simp [*]; done) | (simp [bne]; done), by repeat (first | exact Drawn0.refl _ | apply Drawn0.step)⟩
          ·rw [if_neg c35] at H
           have c35b0 : (x4_1 == 0) = false := beq_eq_false_iff_ne.mpr c35
           have c35b1 : (x4_1 != 0) = true := bne_iff_ne.mpr c35
           by_cases c36 : x3_1 = true
           ·subst c36
            have H1 : (usherref9_private.l0 k1 a0 true (wrap64 (x4_1 + 1))) = some r := by rw [if_pos rfl] at H; exact H
            clear H
            have H := H1
            clear H1
            have H' := Aside0.mk H
            clear H
            have p4 : 0 ≤ (x4_1 : Int) := of_decide_eq_true (by first | (with_reducible assumption) | assumption)
            have q4 : x4_1 < (a0.size : Int) := of_decide_eq_true (by first | (with_reducible assumption) | assumption)
            have hx4 := bt_at a0 x4_1
            replace p4 := eq_true p4
            replace q4 := eq_true q4
            go_wp2
            go_roundg k1
            case measure => have := HK1.out; omega
            case rel => exact ⟨(true), (wrap64 (x4_1 + 1)), (by first | rfl | (simp; done) | (simp [*]; done) | (simp [bne]; done)), (by first | rfl | (simp; done) | (simp [*]; done) | (simp [bne]; done)), H', ⟨by have := HK1.out; omega⟩, by repeat (first | exact Drawn0.refl _ | apply Drawn0.step)⟩
           ·replace c36 := Bool.eq_false_iff.mpr c36
            subst c36
            have H1 : (usherref9_private.l0 k1 a0 ((bt a0 x4_1) == 46) (wrap64 (x4_1 + 1))) = some r := by rw [if_neg (show ¬ (false = true) by decide)] at H; exact H
            clear H
            have H := H1
            clear H1
            have H' := Aside0.mk H
            clear H
            have p4 : 0 ≤ (x4_1 : Int) := of_decide_eq_true (by first | (with_reducible assumption) | assumption)
            have q4 : x4_1 < (a0.size : Int) := of_decide_eq_true (by first | (with_reducible assumption) | assumption)
            have hx4 := bt_at a0 x4_1
            replace p4 := eq_true p4
            replace q4 := eq_true q4
            go_wp2
            go_roundg k1
            case measure => have := HK1.out; omega
            case rel => exact ⟨(((bt a0 x4_1) == 46)), (wrap64 (x4_1 + 1)), (by first | rfl | (simp; done) | (simp [*]; done) | (simp [bne]; done)), (by first | rfl | (simp; done) | (simp [*]; done) | (simp [bne]; done)), H', ⟨by have := HK1.out; omega⟩, by repeat (first | exact Drawn0.refl _ | apply Drawn0.step)⟩
        ·rw [if_neg c32] at H
         have c32b0 : ((bt a0 x4_1) == 45) = false := beq_eq_false_iff_ne.mpr c32
         have c32b1 : ((bt a0 x4_1) != 45) = true := bne_iff_ne.mpr c32
         by_cases c37 : ((bt a0 x4_1) ≤ 122)
         ·rw [if_pos c37] at H
          have c37b0 : decide ((bt a0 x4_1) ≤ 122) = true := decide_eq_true c37
          clear c37
          by_cases c38 : x3_1 = true
          ·subst c38
           have H1 : (usherref9_private.l0 k1 a0 true (wrap64 (x4_1 + 1))) = some r := by rw [if_pos rfl] at H; exact H
           clear H
           have H := H1
           clear H1
           have H' := Aside0.mk H
           clear H
           have p4 : 0 ≤ (x4_1 : Int) := of_decide_eq_true (by first | (with_reducible assumption) | assumption)
           have q4 : x4_1 < (a0.size : Int) := of_decide_eq_true (by first | (with_reducible assumption) | assumption)
           have hx4 := bt_at a0 x4_1
           replace p4 := eq_true p4
           replace q4 := eq_true q4
           go_wp2
           go_roundg k1
           case measure => have := HK1.out; omega
           case rel => exact ⟨(true), (wrap64 (x4_1 + 1)), (by first | rfl | (simp; done) | (simp [*]; done) | (simp [bne]; done)), (by first | rfl | (simp; done) | (simp [*]; done) | (simp [bne]; done)), H', ⟨by have := HK1.out; omega⟩, by repeat (first | exact Drawn0.refl _ | apply Drawn0.step)⟩
          ·replace c38 := Bool.eq_false_iff.mpr c38
           subst c38
           have H1 : (usherref9_private.l0 k1 a0 ((bt a0 x4_1) == 46) (wrap64 (x4_1 + 1))) = some r := by rw [if_neg (show ¬ (false = true) by decide)] at H; exact H
           clear H
           have H := H1
           clear H1
           have H' := Aside0.mk H
           clear H
           have p4 : 0 ≤ (x4_1 : Int) := of_decide_eq_true (by first | (with_reducible assumption) | assumption)
           have q4 : x4_1 < (a0.size : Int) := of_decide_eq_true (by first | (with_reducible assumption) | assumption)
           have hx4 := bt_at a0 x4_1
           replace p4 := eq_true p4
           replace q4 := eq_true q4
           go_wp2
           go_roundg k1
           case measure => have := HK1.out; omega
           case rel => exact ⟨(((bt a0 x4_1) == 46)), (wrap64 (x4_1 + 1)), (by first | rfl | (simp; done) | (simp [*]; done) | (simp [bne]; done)), (by first | rfl | (simp; done) | (simp [*]; done) | (simp [bne]; done)), H', ⟨by have := HK1.out; omega⟩, by repeat (first | exact Drawn0.refl _ | apply Drawn0.step)⟩
         ·rw [if_neg c37] at H
          have c37b0 : decide ((bt a0 x4_1) ≤ 122) = false := decide_eq_false c37
          clear c37
          by_cases c39 : x4_1 = 0
          ·rw [if_pos c39] at H
           have c39b0 : (x4_1 == 0) = true := beq_iff_eq.mpr c39
           have c39b1 : (x4_1 != 0) = false := bne_eq_false_iff_eq.mpr c39
           clear c39
           obtain rfl := Option.some.inj H
           have p4 : 0 ≤ (x4_1 : Int) := of_decide_eq_true (by first | (with_reducible assumption) | assumption)
           have q4 : x4_1 < (a0.size : Int) := of_decide_eq_true (by first | (with_reducible assumption) | assumption)
           have hx4 := bt_at a0 x4_1
           replace p4 := eq_true p4
           replace q4 := eq_true q4
           go_wp2
           go_ret
           exact ⟨by first | rfl | (simp; done) | (simp [*]; done) | (simp [bne]; done), by repeat (first | exact Drawn0.refl _ | apply Drawn0.step)⟩
          ·rw [if_neg c39] at H
           have c39b0 : (x4_1 == 0) = false := beq_eq_false_iff_ne.mpr c39
           have c39b1 : (x4_1 != 0) = true := bne_iff_ne.mpr c39
           by_cases c40 : ((bt a0 x4_1) = 46)
           ·rw [if_pos c40] at H
            have c40b0 : ((bt a0 x4_1) == 46) = true := beq_iff_eq.mpr c40
            have c40b1 : ((bt a0 x4_1) != 46) = false := bne_eq_false_iff_eq.mpr c40
            clear c40
            by_cases c41 : x3_1 = true
            ·subst c41
             have H1 : (usherref9_private.l0 k1 a0 true (wrap64 (x4_1 + 1))) = some r := by rw [if_pos rfl] at H; exact H
             clear H
             have H := H1
             clear H1
             have H' := Aside0.mk H
             clear H
             have p4 : 0 ≤ (x4_1 : Int) := of_decide_eq_true (by first | (with_reducible assumption) | assumption)
             have q4 : x4_1 < (a0.size : Int) := of_decide_eq_true (by first | (with_reducible assumption) | assumption)
             have hx4 := bt_at a0 x4_1
             replace p4 := eq_true p4
             replace q4 := eq_true q4
             go_wp2
             go_roundg k1
             case measure => have := HK1.out; omega
             case rel => exact ⟨(true), (wrap64 (x4_1 + 1)), (by first | rfl | (simp; done) | (simp [*]; done) | (simp [bne]; done)), (by first | rfl | (simp; done) | (simp [*]; done) | (simp [bne]; done)), H', ⟨by have := HK1.out; omega⟩, by repeat (first | exact Drawn0.refl _ | apply Drawn0.step)⟩
            ·replace c41 := Bool.eq_false_iff.mpr c41
             subst c41
             have H1 : (usherref9_private.l0 k1 a0 ((bt a0 x4_1) == 46) (wrap64 (x4_1 + 1))) = some r := by rw [if_neg (show ¬ (false = true) by decide)] at H; exact H
             clear H
             have H := H1
             clear H1
             have H' := Aside0.mk H
             clear H
             have p4 : 0 ≤ (x4_1 : Int) := of_decide_eq_true (by first | (with_reducible assumption) | assumption)
             have q4 : x4_1 < (a0.size : Int) := of_decide_eq_true (by first | (with_reducible assumption) | assumption)
             have hx4 := bt_at a0 x4_1
             replace p4 := eq_true p4
             replace q4 := eq_true q4
             go_wp2
             go_roundg k1
             case measure => have := HK1.out; omega
             case rel => exact ⟨(((bt a0 x4_1) == 46)), (wrap64 (x4_1 + 1)), (by first | rfl | (simp; done) | (simp [*]; done) | (simp [bne]; done)), (by first | rfl | (simp; done) | (simp [*]; done) | (simp [bne]; done)), H', ⟨by have := HK1.out; omega⟩, by repeat (first | exact Drawn0.refl _ | apply Drawn0.step)⟩
           ·rw [if_neg c40] at H
            have c40b0 : ((bt a0 x4_1) == 46) = false := beq_eq_false_iff_ne.mpr c40
            have c40b1 : ((bt a0 x4_1) != 46) = true := bne_iff_ne.mpr c40
            obtain rfl := Option.some.inj H
            have p4 : 0 ≤ (x4_1 : Int) := of_decide_eq_true (by first | (with_reducible assumption) | assumption)
            have q4 : x4_1 < (a0.size : Int) := of_decide_eq_true (by first | (with_reducible assumption) | assumption)
            have hx4 := bt_at a0 x4_1
            replace p4 := eq_true p4
            replace q4 := eq_true q4
            go_wp2
            go_ret
            exact ⟨by first | rfl | (simp; done) | (simp [*]; done) | (simp [bne]; done), by repeat (first | exact Drawn0.refl _ | apply Drawn0.step)⟩
     ·rw [if_neg c5] at H
      have c5b0 : decide (97 ≤ (bt a0 x4_1)) = false := decide_eq_false c5
      clear c5
      by_cases c42 : (bt a0 x4_1) ≥ 48
      ·rw [if_pos c42] at H
       have c42b0 : decide (48 ≤ (bt a0 x4_1)) = true := decide_eq_true c42
       clear c42
       by_cases c43 : (bt a0 x4_1) ≤ 57
       ·rw [if_pos c43] at H
        have c43b0 : decide ((bt a0 x4_1) ≤ 57) = true := decide_eq_true c43
        clear c43
        by_cases c44 : x4_1 = 0
        ·rw [if_pos c44] at H
         have c44b0 : (x4_1 == 0) = true := beq_iff_eq.mpr c44
         have c44b1 : (x4_1 != 0) = false := bne_eq_false_iff_eq.mpr c44
         clear c44
         obtain rfl := Option.some.inj H
         have p4 : 0 ≤ (x4_1 : Int) := of_decide_eq_true (by first | (with_reducible assumption) | assumption)
         have q4 : x4_1 < (a0.size : Int) := of_decide_eq_true (by first | (with_reducible assumption) | assumption)
         have hx4 := bt_at a0 x4_1
         replace p4 := eq_true p4
         replace q4 := eq_true q4
         go_wp2
         go_ret
         exact ⟨by first | rfl | (simp; done) | (simp [*]; done) | (simp [bne]; done), by repeat (first | exact Drawn0.refl _ | apply Drawn0.step)⟩
        ·rw [if_neg c44] at H
         have c44b0 : (x4_1 == 0) = false := beq_eq_false_iff_ne.mpr c44
         have c44b1 : (x4_1 != 0) = true := bne_iff_ne.mpr c44
         by_cases c45 : x3_1 = true
         ·subst c45
          have H1 : (usherref9_private.l0 k1 a0 true (wrap64 (x4_1 + 1))) = some r := by rw [if_pos rfl] at H; exact H
          clear H
          have H := H1
          clear H1
          have H' := Aside0.mk H
          clear H
          have p4 : 0 ≤ (x4_1 : Int) := of_decide_eq_true (by first | (with_reducible assumption) | assumption)
          have q4 : x4_1 < (a0.size : Int) := of_decide_eq_true (by first | (with_reducible assumption) | assumption)
          have hx4 := bt_at a0 x4_1
          replace p4 := eq_true p4
          replace q4 := eq_true q4
          go_wp2
          go_roundg k1
          case measure => have := HK1.out; omega
          case rel => exact ⟨(true), (wrap64 (x4_1 + 1)), (by first | rfl | (simp; done) | (simp [*]; done) | (simp [bne]; done)), (by first | rfl | (simp; done) | (simp [*]; done) | (simp [bne]; done)), H', ⟨by have := HK1.out; omega⟩, by repeat (first | exact Drawn0.refl _ | apply Drawn0.step)⟩
         ·replace c45 := Bool.eq_false_iff.mpr c45
          subst c45
          have H1 : (usherref9_private.l0 k1 a0 ((bt a0 x4_1) == 46) (wrap64 (x4_1 + 1))) = some r := by rw [if_neg (show ¬ (false = true) by decide)] at H; exact H
          clear H
          have H := H1
          clear H1
          have H' := Aside0.mk H
          clear H
          have p4 : 0 ≤ (x4_1 : Int) := of_decide_eq_true (by first | (with_reducible assumption) | assumption)
          have q4 : x4_1 < (a0.size : Int) := of_decide_eq_true (by first | (with_reducible assumption) | assumption)
          have hx4 := bt_at a0 x4_1
          replace p4 := eq_true p4
          replace q4 := eq_true q4
          go_wp2
          go_roundg k1
          case measure => have := HK1.out; omega
          case rel => exact ⟨(((bt a0 x4_1) == 46)), (wrap64 (x4_1 + 1)), (by first | rfl | (simp; done) | (simp [*]; done) | (simp [bne]; done)), (by first | rfl | (simp; done) | (simp [*]; done) | (simp [bne]; done)), H', ⟨by have := HK1.out; omega⟩, by repeat (first | exact Drawn0.refl _ | apply Drawn0.step)⟩
       ·rw [if_neg c43] at H
        have c43b0 : decide ((bt a0 x4_1) ≤ 57) = false := decide_eq_false c43
        clear c43
        by_cases c46 : (bt a0 x4_1) = 43
        ·rw [if_pos c46] at H
         have c46b0 : ((bt a0 x4_1) == 43) = true := beq_iff_eq.mpr c46
         have c46b1 : ((bt a0 x4_1) != 43) = false := bne_eq_false_iff_eq.mpr c46
         clear c46
         by_cases c47 : x4_1 = 0
         ·rw [if_pos c47] at H
          have c47b0 : (x4_1 == 0) = true := beq_iff_eq.mpr c47
          have c47b1 : (x4_1 != 0) = false := bne_eq_false_iff_eq.mpr c47
          clear c47
          obtain rfl := Option.some.inj H
          have p4 : 0 ≤ (x4_1 : Int) := of_decide_eq_true (by first | (with_reducible assumption) | assumption)
          have q4 : x4_1 < (a0.size : Int) := of_decide_eq_true (by first | (with_reducible assumption) | assumption)
          have hx4 := bt_at a0 x4_1
          replace p4 := eq_true p4
          replace q4 := eq_true q4
          go_wp2
          go_ret
          exact ⟨by first | rfl | (simp; done) | (simp [*]; done) | (simp [bne]; done), by repeat (first | exact Drawn0.refl _ | apply Drawn0.step)⟩
         ·rw [if_neg c47] at H
          have c47b0 : (x4_1 == 0) = false := beq_eq_false_iff_ne.mpr c47
          have c47b1 : (x4_1 != 0) = true := bne_iff_ne.mpr c47
          by_cases c48 : x3_1 = true
          ·subst c48
           have H1 : (usherref9_private.l0 k1 a0 true (wrap64 (x4_1 + 1))) = some r := by rw [if_pos rfl] at H; exact H
           clear H
           have H := H1
           clear H1
           have H' := Aside0.mk H
           clear H
           have p4 : 0 ≤ (x4_1 : Int) := of_decide_eq_true (by first | (with_reducible assumption) | assumption)
           have q4 : x4_1 < (a0.size : Int) := of_decide_eq_true (by first | (with_reducible assumption) | assumption)
           have hx4 := bt_at a0 x4_1
           replace p4 := eq_true p4
           replace q4 := eq_true q4
           go_wp2
           go_roundg k1
           case measure => have := HK1.out; omega
           case rel => exact ⟨(true), (wrap64 (x4_1 + 1)), (by first | rfl | (simp; done) | (simp [*]; done) | (simp [bne]; done)), (by first | rfl | (simp; done) | (simp [*]; done) | (simp [bne]; done)), H', ⟨by have := HK1.out; omega⟩, by repeat (first | exact Drawn0.refl _ | apply Drawn0.step)⟩
          ·replace c48 := Bool.eq_false_iff.mpr c48
           subst c48
           have H1 : (usherref9_private.l0 k1 a0 ((bt a0 x4_1) == 46) (wrap64 (x4_1 + 1))) = some r := by rw [if_neg (show ¬ (false = true) by decide)] at H; exact H
           clear H
           have H := H1
           clear H1
           have H' := Aside0.mk H
           clear H
           have p4 : 0 ≤ (x4_1 : Int) := of_decide_eq_true (by first | (with_reducible assumption) | assumption)
           have q4 : x4_1 < (a0.size : Int) := of_decide_eq_true (by first | (with_reducible assumption) | assumption)
           have hx4 := bt_at a0 x4_1
           replace p4 := eq_true p4
           replace q4 := eq_true q4
           go_wp2
           go_roundg k1
           case measure => have := HK1.out; omega
           case rel => exact ⟨(((bt a0 x4_1) == 46)), (wrap64 (x4_1 + 1)), (by first | rfl | (simp; done) | (simp [*]; done) | (simp [bne]; done)), (by first | rfl | (simp; done) | (simp [*]; done) | (simp [bne]; done)), H', ⟨by have := HK1.out; omega⟩, by repeat (first | exact Drawn0.refl _ | apply Drawn0.step)⟩
        ·rw [if_neg c46] at H
         have c46b0 : ((bt a0 x4_1) == 43) = false := beq_eq_false_iff_ne.mpr c46
         have c46b1 : ((bt a0 x4_1) != 43) = true := bne_iff_ne.mpr c46
         by_cases c49 : (bt a0 x4_1) = 45
         ·rw [if_pos c49] at H
          have c49b0 : ((bt a0 x4_1) == 45) = true := beq_iff_eq.mpr c49
          have c49b1 : ((bt a0 x4_1) != 45) = false := bne_eq_false_iff_eq.mpr c49
          clear c49
          by_cases c50 : x4_1 = 0
          ·rw [if_pos c50] at H
           have c50b0 : (x4_1 == 0) = true := beq_iff_eq.mpr c50
           have c50b1 : (x4_1 != 0) = false := bne_eq_false_iff_eq.mpr c50
           clear c50
           obtain rfl := Option.some.inj H
           have p4 : 0 ≤ (x4_1 : Int) := of_decide_eq_true (by first | (with_reducible assumption) | assumption)
           have q4 : x4_1 < (a0.size : Int) := of_decide_eq_true (by first | (with_reducible assumption) | assumption)
           have hx4 := bt_at a0 x4_1
           replace p4 := eq_true p4
           replace q4 := eq_true q4
           go_wp2
           go_ret
           exact ⟨by first | rfl | (simp; done) | (simp [*]; done) | (simp [bne]; done), by repeat (first | exact Drawn0.refl _ | apply Drawn0.step)⟩
          ·rw [if_neg c50] at H
           have c50b0 : (x4_1 == 0) = false := beq_eq_false_iff_ne.mpr c50
           have c50b1 : (x4_1 != 0) = true := bne_iff_ne.mpr c50
           by_cases c51 : x3_1 = true
           ·subst c51
            have H1 : (usherref9_private.l0 k1 a0 true (wrap64 (x4_1 + 1))) = some r := by rw [if_pos rfl] at H; exact H
            clear H
            have H := H1
            clear H1
            have H' := Aside0.mk H
            clear H
            have p4 : 0 ≤ (x4_1 : Int) := of_decide_eq_true (by first | (with_reducible assumption) | assumption)
            have q4 : x4_1 < (a0.size : Int) := of_decide_eq_true (by first | (with_reducible assumption) | assumption)
            have hx4 := bt_at a0 x4_1
            replace p4 := eq_true p4
            replace q4 := eq_true q4
            go_wp2
            go_roundg k1
            case measure => have := HK1.out; omega
            case rel => exact ⟨(true), (wrap64 (x4_1 + 1)), (by first | rfl | (simp; done) | (simp [*]; done) | (simp [bne]; done)), (by first | rfl | (simp; done) | (simp [*]; done) | (simp [bne]; done)), H', ⟨by have := HK1.out; omega⟩, by repeat (first | exact Drawn0.refl _ | apply Drawn0.step)⟩
           ·replace c51 := Bool.eq_false_iff.mpr c51
            subst c51
            have H1 : (usherref9_private.l0 k1 a0 ((bt a0 x4_1) == 46) (wrap64 (x4_1 + 1))) = some r := by rw [if_neg (show ¬ (false = true) by decide)] at H; exact H
            clear H
            have H := H1
            clear H1
            have H' := Aside0.mk H
            clear H
            have p4 : 0 ≤ (x4_1 : Int) := of_decide_eq_true (by first | (with_reducible assumption) | assumption)
            have q4 : x4_1 < (a0.size : Int) := of_decide_eq_true (by first | (with_reducible assumption) | assumption)
            have hx4 := bt_at a0 x4_1
            replace p4 := eq_true p4
            replace q4 := eq_true q4
            go_wp2
            go_roundg k1
            case measure => have := HK1.out; omega
            case rel => exact ⟨(((bt a0 x4_1) == 46)), (wrap64 (x4_1 + 1)), (by first | rfl | (simp; done) | (simp [*]; done) | (simp [bne]; done)), (by first | rfl | (simp; done) | (simp [*]; done) | (simp [bne]; done)), H', ⟨by have := HK1.out; omega⟩, by repeat (first | exact Drawn0.refl _ | apply Drawn0.step)⟩
         ·rw [if_neg c49] at H
          have c49b0 : ((bt a0 x4_1) == 45) = false := beq_eq_false_iff_ne.mpr c49
          have c49b1 : ((bt a0 x4_1) != 45) = true := bne_iff_ne.mpr c49
          by_cases c52 : x4_1 = 0
          ·rw [if_pos c52] at H
           have c52b0 : (x4_1 == 0) = true := beq_iff_eq.mpr c52
           have c52b1 : (x4_1 != 0) = false := bne_eq_false_iff_eq.mpr c52
           clear c52
           obtain rfl := Option.some.inj H
           have p4 : 0 ≤ (x4_1 : Int) := of_decide_eq_true (by first | (with_reducible assumption) | assumption)
           have q4 : x4_1 < (a0.size : Int) := of_decide_eq_true (by first | (with_reducible assumption) | assumption)
           have hx4 := bt_at a0 x4_1
           replace p4 := eq_true p4
           replace q4 := eq_true q4
           go_wp2
           go_ret
           exact ⟨by first | rfl | (simp; done) | (simp [*]; done) | (simp [bne]; done), by repeat (first | exact Drawn0.refl _ | apply Drawn0.step)⟩
          ·rw [if_neg c52] at H
           have c52b0 : (x4_1 == 0) = false := beq_eq_false_iff_ne.mpr c52
           have c52b1 : (x4_1 != 0) = true := bne_iff_ne.mpr c52
           by_cases c53 : ((bt a0 x4_1) = 46)
           ·rw [if_pos c53] at H
            have c53b0 : ((bt a0 x4_1) == 46) = true := beq_iff_eq.mpr c53
            have c53b1 : ((bt a0 x4_1) != 46) = false := bne_eq_false_iff_eq.mpr c53
            clear c53
            by_cases c54 : x3_1 = true
            ·subst c54
             have H1 : (usherref9_private.l0 k1 a0 true (wrap64 (x4_1 + 1))) = some r := by rw [if_pos rfl] at H; exact H
             clear H
             have H := H1
             clear H1
             have H' := Aside0.mk H
             clear H
             have p4 : 0 ≤ (x4_1 : Int) := of_decide_eq_true (by first | (with_reducible assumption) | assumption)
             have q4 : x4_1 < (a0.size : Int) := of_decide_eq_true (by first | (with_reducible assumption) | assumption)
             have hx4 := bt_at a0 x4_1
             replace p4 := eq_true p4
             replace q4 := eq_true q4
             go_wp2
             go_roundg k1
             case measure => have := HK1.out; omega
             case rel => exact ⟨(true), (wrap64 (x4_1 + 1)), (by first | rfl | (simp; done) | (simp [*]; done) | (simp [bne]; done)), (by first | rfl | (simp; done) | (simp [*]; done) | (simp [bne]; done)), H', ⟨by have := HK1.out; omega⟩, by repeat (first | exact Drawn0.refl _ | apply Drawn0.step)⟩
            ·replace c54 := Bool.eq_false_iff.mpr c54
             subst c54
             have H1 : (usherref9_private.l0 k1 a0 ((bt a0 x4_1) == 46) (wrap64 (x4_1 + 1))) = some r := by rw [if_neg (show ¬ (false = true) by decide)] at H; exact H
             clear H
             have H := H1
             clear H1
             have H' := Aside0.mk H
             clear H
             have p4 : 0 ≤ (x4_1 : Int) := of_decide_eq_true (by first | (with_reducible assumption) | assumption)
             have q4 : x4_1 < (a0.size : Int) := of_decide_eq_true (by first | (with_reducible assumption) | assumption)
             have hx4 := bt_at a0 x4_1
             replace p4 := eq_true p4
             replace q4 := eq_true q4
             go_wp2
             go_roundg k1
             case measure => have := HK1.out; omega
             case rel => exact ⟨(((bt a0 x4_1) == 46)), (wrap64 (x4_1 + 1)), (by first | rfl | (simp; done) | (simp [*]; done) | (simp [bne]; done)), (by first | rfl | (simp; done) | (simp [*]; done) | (simp [bne]; done)), H', ⟨by have := HK1.out; omega⟩, by repeat (first | exact Drawn0.refl _ | apply Drawn0.step)⟩
           ·rw [if_neg c53] at H
            have c53b0 : ((bt a0 x4_1) == 46) = false := beq_eq_false_iff_ne.mpr c53
            have c53b1 : ((bt a0 x4_1) != 46) = true := bne_iff_ne.mpr c53
            obtain rfl := Option.some.inj H
            have p4 : 0 ≤ (x4_1 : Int) := of_decide_eq_true (by first | (with_reducible assumption) | assumption)
            have q4 : x4_1 < (a0.size : Int) := of_decide_eq_true (by first | (with_reducible assumption) | assumption)
            have hx4 := bt_at a0 x4_1
            replace p4 := eq_true p4
            replace q4 := eq_true q4
            go_wp2
            go_ret
            exact ⟨by first | rfl | (simp; done) | (simp [*]; done) | (simp [bne]; done), by repeat (first | exact Drawn0.refl _ | apply Drawn0.step)⟩
      ·rw [if_neg c42] at H
       have c42b0 : decide (48 ≤ (bt a0 x4_1)) = false := decide_eq_false c42
       clear c42
       by_cases c55 : (bt a0 x4_1) = 43
       ·rw [if_pos c55] at H
        have c55b0 : ((bt a0 x4_1) == 43) = true := beq_iff_eq.mpr c55
        have c55b1 : ((bt a0 x4_1) != 43) = false := bne_eq_false_iff_eq.mpr c55
        clear c55
        by_cases c56 : x4_1 = 0
        ·rw [if_pos c56] at H
         have c56b0 : (x4_1 == 0) = true := beq_iff_eq.mpr c56
         have c56b1 : (x4_1 != 0) = false := bne_eq_false_iff_eq.mpr c56
         clear c56
         obtain rfl := Option.some.inj H
         have p4 : 0 ≤ (x4_1 : Int) := of_decide_eq_true (by first | (with_reducible assumption) | assumption)
         have q4 : x4_1 < (a0.size : Int) := of_decide_eq_true (by first | (with_reducible assumption) | assumption)
         have hx4 := bt_at a0 x4_1
         replace p4 := eq_true p4
         replace q4 := eq_true q4
         go_wp2
         go_ret
         exact ⟨by first | rfl | (simp; done) | (simp [*]; done) | (simp [bne]; done), by repeat (first | exact Drawn0.refl _ | apply Drawn0.step)⟩
        ·rw [if_neg c56] at H
         have c56b0 : (x4_1 == 0) = false := beq_eq_false_iff_ne.mpr c56
         have c56b1 : (x4_1 != 0) = true := bne_iff_ne.mpr c56
         by_cases c57 : x3_1 = true
         ·subst c57
          have H1 : (usherref9_private.l0 k1 a0 true (wrap64 (x4_1 + 1))) = some r := by rw [if_pos rfl] at H; exact H
          clear H
          have H := H1
          clear H1
          have H' := Aside0.mk H
          clear H
          have p4 : 0 ≤ (x4_1 : Int) := of_decide_eq_true (by first | (with_reducible assumption) | assumption)
          have q4 : x4_1 < (a0.size : Int) := of_decide_eq_true (by first | (with_reducible assumption) | assumption)
          have hx4 := bt_at a0 x4_1
          replace p4 := eq_true p4
          replace q4 := eq_true q4
          go_wp2
          go_roundg k1
          case measure => have := HK1.out; omega
          case rel => exact ⟨(true), (wrap64 (x4_1 + 1)), (by first | rfl | (simp; done) | (simp [*]; done) | (simp [bne]; done)), (by first | rfl | (simp; done) | (simp [*]; done) | (simp [bne]; done)), H', ⟨by have := HK1.out; omega⟩, by repeat (first | exact Drawn0.refl _ | apply Drawn0.step)⟩
         ·replace c57 := Bool.eq_false_iff.mpr c57
          subst c57
          have H1 : (usherref9_private.l0 k1 a0 ((bt a0 x4_1) == 46) (wrap64 (x4_1 + 1))) = some r := by rw [if_neg (show ¬ (false = true) by decide)] at H; exact H
          clear H
          have H := H1
          clear H1
          have H' := Aside0.mk H
          clear H
          have p4 : 0 ≤ (x4_1 : Int) := of_decide_eq_true (by first | (with_reducible assumption) | assumption)
          have q4 : x4_1 < (a0.size : Int) := of_decide_eq_true (by first | (with_reducible assumption) | assumption)
          have hx4 := bt_at a0 x4_1
          replace p4 := eq_true p4
          replace q4 := eq_true q4
          go_wp2
          go_roundg k1
          case measure => have := HK1.out; omega
          case rel => exact ⟨(((bt a0 x4_1) == 46)), (wrap64 (x4_1 + 1)), (by first | rfl | (simp; done) | (simp [*]; done) | (simp [bne]; done)), (by first | rfl | (simp; done) | (simp [*]; done) | (simp [bne]; done)), H', ⟨by have := HK1.out; omega⟩, by repeat (first | exact Drawn0.refl _ | apply Drawn0.step)⟩
       ·rw [if_neg c55] at H
        have c55b0 : ((bt a0 x4_1) == 43) = false := beq_eq_false_iff_ne.mpr c55
        have c55b1 : ((bt a0 x4_1) != 43) = true := bne_iff_ne.mpr c55
        by_cases c58 : (bt a0 x4_1) = 45
        ·rw [if_pos c58] at H
         have c58b0 : ((bt a0 x4_1) == 45) = true := beq_iff_eq.mpr c58
         have c58b1 : ((bt a0 x4_1) != 45) = false := bne_eq_false_iff_eq.mpr c58
         clear c58
         by_cases c59 : x4_1 = 0
         ·rw [if_pos c59] at H
          have c59b0 : (x4_1 == 0) = true := beq_iff_eq.mpr c59
          have c59b1 : (x4_1 != 0) = false := bne_eq_false_iff_eq.mpr c59
          clear c59
          obtain rfl := Option.some.inj H
          have p4 : 0 ≤ (x4_1 : Int) := of_decide_eq_true (by first | (with_reducible assumption) | assumption)
          have q4 : x4_1 < (a0.size : Int) := of_decide_eq_true (by first | (with_reducible assumption) | assumption)
          have hx4 := bt_at a0 x4_1
          replace p4 := eq_true p4
          replace q4 := eq_true q4
          go_wp2
          go_ret
          exact ⟨by first | rfl | (simp; done) | (simp [*]; done) | (simp [bne]; done), by repeat (first | exact Drawn0.refl _ | apply Drawn0.step)⟩
         ·rw [if_neg c59] at H
          have c59b0 : (x4_1 == 0) = false := beq_eq_false_iff_ne.mpr c59
          have c59b1 : (x4_1 != 0) = true := bne_iff_ne.mpr c59
          by_cases c60 : x3_1 = true
          ·subst c60
           have H1 : (usherref9_private.l0 k1 a0 true (wrap64 (x4_1 + 1))) = some r := by rw [if_pos rfl] at H; exact H
           clear H
           have H := H1
           clear H1
           have H' := Aside0.mk H
           clear H
           have p4 : 0 ≤ (x4_1 : Int) := of_decide_eq_true (by first | (with_reducible assumption) | assumption)
           have q4 : x4_1 < (a0.size : Int) := of_decide_eq_true (by first | (with_reducible assumption) | assumption)
           have hx4 := bt_at a0 x4_1
           replace p4 := eq_true p4
           replace q4 := eq_true q4
           go_wp2
           go_roundg k1
           case measure => have := HK1.out; omega
           case rel => exact ⟨(true), (wrap64 (x4_1 + 1)), (by first | rfl | (simp; done) | (simp [*]; done) | (simp [bne]; done)), (by first | rfl | (simp; done) | (simp [*]; done) | (simp [bne]; done)), H', ⟨by have := HK1.out; omega⟩, by repeat (first | exact Drawn0.refl _ | apply Drawn0.step)⟩
          ·replace c60 := Bool.eq_false_iff.mpr c60
           subst c60
           have H1 : (usherref9_private.l0 k1 a0 ((bt a0 x4_1) == 46) (wrap64 (x4_1 + 1))) = some r := by rw [if_neg (show ¬ (false = true) by decide)] at H; exact H
           clear H
           have H := H1
           clear H1
           have H' := Aside0.mk H
           clear H
           have p4 : 0 ≤ (x4_1 : Int) := of_decide_eq_true (by first | (with_reducible assumption) | assumption)
           have q4 : x4_1 < (a0.size : Int) := of_decide_eq_true (by first | (with_reducible assumption) | assumption)
           have hx4 := bt_at a0 x4_1
           replace p4 := eq_true p4
           replace q4 := eq_true q4
           go_wp2
           go_roundg k1
           case measure => have := HK1.out; omega
           case rel => exact ⟨(((bt a0 x4_1) == 46)), (wrap64 (x4_1 + 1)), (by first | rfl | (simp; done) | (simp [*]; done) | (simp [bne]; done)), (by first | rfl | (simp; done) | (simp [*]; done) | (simp [bne]; done)), H', ⟨by have := HK1.out; omega⟩, by repeat (first | exact Drawn0.refl _ | apply Drawn0.step)⟩
        ·rw [if_neg c58] at H
         have c58b0 : ((bt a0 x4_1) == 45) = false := beq_eq_false_iff_ne.mpr c58
         have c58b1 : ((bt a0 x4_1) != 45) = true := bne_iff_ne.mpr c58
         by_cases c61 : x4_1 = 0
         ·rw [if_pos c61] at H
          have c61b0 : (x4_1 == 0) = true := beq_iff_eq.mpr c61
          have c61b1 : (x4_1 != 0) = false := bne_eq_false_iff_eq.mpr c61
          clear c61
          obtain rfl := Option.some.inj H
          have p4 : 0 ≤ (x4_1 : Int) := of_decide_eq_true (by first | (with_reducible assumption) | assumption)
          have q4 : x4_1 < (a0.size : Int) := of_decide_eq_true (by first | (with_reducible assumption) | assumption)
          have hx4 := bt_at a0 x4_1
          replace p4 := eq_true p4
          replace q4 := eq_true q4
          go_wp2
          go_ret
          exact ⟨by first | rfl | (simp; done) | (simp [*]; done) | (simp [bne]; done), by repeat (first | exact Drawn0.refl _ | apply Drawn0.step)⟩
         ·rw [if_neg c61] at H
          have c61b0 : (x4_1 == 0) = false := beq_eq_false_iff_ne.mpr c61
          have c61b1 : (x4_1 != 0) = true := bne_iff_ne.mpr c61
          by_cases c62 : ((bt a0 x4_1) = 46)
          ·rw [if_pos c62] at H
           have c62b0 : ((bt a0 x4_1) == 46) = true := beq_iff_eq.mpr c62
           have c62b1 : ((bt a0 x4_1) != 46) = false := bne_eq_false_iff_eq.mpr c62
           clear c62
           by_cases c63 : x3_1 = true
           ·subst c63
            have H1 : (usherref9_private.l0 k1 a0 true (wrap64 (x4_1 + 1))) = some r := by rw [if_pos rfl] at H; exact H
            clear H
            have H := H1
            clear H1
            have H' := Aside0.mk H
            clear H
            have p4 : 0 ≤ (x4_1 : Int) := of_decide_eq_true (by first | (with_reducible assumption) | assumption)
            have q4 : x4_1 < (a0.size : Int) := of_decide_eq_true (by first | (with_reducible assumption) | assumption)
            have hx4 := bt_at a0 x4_1
            replace p4 := eq_true p4
            replace q4 := eq_true q4
            go_wp2
            go_roundg k1
            case measure => have := HK1.out; omega
            case rel => exact ⟨(true), (wrap64 (x4_1 + 1)), (by first | rfl | (simp; done) | (simp [*]; done) | (simp [bne]; done)), (by first | rfl | (simp; done) | (simp [*]; done) | (simp [bne]; done)), H', ⟨by have := HK1.out; omega⟩, by repeat (first | exact Drawn0.refl _ | apply Drawn0.step)⟩
           ·replace c63 := Bool.eq_false_iff.mpr c63
            subst c63
            have H1 : (usherref9_private.l0 k1 a0 ((bt a0 x4_1) == 46) (wrap64 (x4_1 + 1))) = some r := by rw [if_neg (show ¬ (false = true) by decide)] at H; exact H
            clear H
            have H := H1
            clear H1
            have H' := Aside0.mk H
            clear H
            have p4 : 0 ≤ (x4_1 : Int) := of_decide_eq_true (by first | (with_reducible assumption) | assumption)
            have q4 : x4_1 < (a0.size : Int) := of_decide_eq_true (by first | (with_reducible assumption) | assumption)
            have hx4 := bt_at a0 x4_1
            replace p4 := eq_true p4
            replace q4 := eq_true q4
            go_wp2
            go_roundg k1
            case measure => have := HK1.out; omega
            case rel => exact ⟨(((bt a0 x4_1) == 46)), (wrap64 (x4_1 + 1)), (by first | rfl | (simp; done) | (simp [*]; done) | (simp [bne]; done)), (by first | rfl | (simp; done) | (simp [*]; done) | (simp [bne]; done)), H', ⟨by have := HK1.out; omega⟩, by repeat (first | exact Drawn0.refl _ | apply Drawn0.step)⟩
          ·rw [if_neg c62] at H
           have c62b0 : ((bt a0 x4_1) == 46) = false := beq_eq_false_iff_ne.mpr c62
           have c62b1 : ((bt a0 x4_1) != 46) = true := bne_iff_ne.mpr c62
           obtain rfl := Option.some.inj H
           have p4 : 0 ≤ (x4_1 : Int) := of_decide_eq_true (by first | (with_reducible assumption) | assumption)
           have q4 : x4_1 < (a0.size : Int) := of_decide_eq_true (by first | (with_reducible assumption) | assumption)
           have hx4 := bt_at a0 x4_1
           replace p4 := eq_true p4
           replace q4 := eq_true q4
           go_wp2
           go_ret
           exact ⟨by first | rfl | (simp; done) | (simp [*]; done) | (simp [bne]; done), by repeat (first | exact Drawn0.refl _ | apply Drawn0.step)⟩
    ·rw [if_neg c3] at H
     exact absurd H (by simp)
   ·rw [if_neg c2] at H
    have c2b0 : decide (x4_1 < (a0.size : Int)) = false := decide_eq_false c2
    clear c2
    obtain rfl := Option.some.inj H
    go_wp2
    go_ret
    exact ⟨by first | rfl | (simp; done) | (simp [*]; done) | (simp [bne]; done), by repeat (first | exact Drawn0.refl _ | apply Drawn0.step)⟩

/-! ### usherref9_Redirect: function 12 -/
def usherref9_Redirect.l0 : Nat → ByteArray → Int → Option (Bool)
 | 0, _, _ => none
 | k + 1, x3, x9 => if x9 < (x3.size : Int) then (if 0 ≤ x9 then (if (bt x3 x9) = 58 then (if x9 ≤ (x3.size : Int) then ((usherref9_private.f k (x3.extract 0 (x9 : Int).toNat)).bind fun t210 => (if 0 ≤ (wrap64 (x9 + 1)) then (if (wrap64 (x9 + 1)) ≤ (x3.size : Int) then ((usherref9_begins.f (x3.extract ((wrap64 (x9 + 1)) : Int).toNat x3.size) (⟨#[47]⟩ : ByteArray)).bind fun t211 => ((usherref9_begins.f (x3.extract ((wrap64 (x9 + 1)) : Int).toNat x3.size) (⟨#[47, 47]⟩ : ByteArray)).bind fun t212 => (if t210 = true then (if t211 = true then (if t212 = true then (some false) else ((usherref9_runs.f k (x3.extract ((wrap64 (x9 + 1)) : Int).toNat x3.size) 0 false).bind fun t213 => (some t213))) else (some false)) else (some false)))) else (none)) else (none))) else (none)) else (usherref9_Redirect.l0 k x3 (wrap64 (x9 + 1)))) else (none)) else (some false)
def usherref9_Redirect.f (k : Nat) (a0 : ByteArray) : Option (Bool) := if (a0.size : Int) > 512 then (some false) else ((usherref9_Split.f k a0).bind fun bt202 => ((usherref9_runs.f k bt202.2.1 0 true).bind fun t205 => (if t205 = true then ((usherref9_begins.f bt202.1 (⟨#[104, 116, 116, 112, 115, 58, 47, 47]⟩ : ByteArray)).bind fun t206 => (if t206 = true then (if 8 ≤ (bt202.1.size : Int) then ((usherref9_web.f k (bt202.1.extract 8 bt202.1.size) false).bind fun t207 => (some t207)) else (none)) else ((usherref9_begins.f bt202.1 (⟨#[104, 116, 116, 112, 58, 47, 47]⟩ : ByteArray)).bind fun t208 => (if t208 = true then (if 7 ≤ (bt202.1.size : Int) then ((usherref9_web.f k (bt202.1.extract 7 bt202.1.size) true).bind fun t209 => (some t209)) else (none)) else (usherref9_Redirect.l0 k bt202.1 0))))) else (some false))))
theorem usherref9_Redirect.mono_l : ∀ k, (∀ y0 y1, LeO (usherref9_Redirect.l0 k y0 y1) (usherref9_Redirect.l0 (k + 1) y0 y1))
 | 0 => fun _ _ r h => by simp [usherref9_Redirect.l0] at h
 | k + 1 => by
  have ih0 := usherref9_Redirect.mono_l k
  ·intro y0 y1
   unfold usherref9_Redirect.l0
   repeat' first
   | (with_reducible exact ih0 _ _)
   | (with_reducible exact usherref9_Split.mono _ _)
   | (with_reducible exact usherref9_private.mono _ _)
   | (with_reducible exact usherref9_runs.mono _ _ _ _)
   | (with_reducible exact usherref9_web.mono _ _ _)
   | (with_reducible exact LeO.refl _)
   | (with_reducible exact LeO.none _)
   | (with_reducible refine LeO.ite ?_ ?_)
   | (with_reducible refine LeO.bind ?_ (fun _ => ?_))
   | exact ih0 _ _
   | exact usherref9_Split.mono _ _
   | exact usherref9_private.mono _ _
   | exact usherref9_runs.mono _ _ _ _
   | exact usherref9_web.mono _ _ _
   | exact LeO.none _
   | refine LeO.ite ?_ ?_
   | refine LeO.bind ?_ (fun _ => ?_)
theorem usherref9_Redirect.mono : ∀ a0 k, LeO (usherref9_Redirect.f k a0) (usherref9_Redirect.f (k + 1) a0) := by
 intro a0 k
 have ih0 := usherref9_Redirect.mono_l k
 unfold usherref9_Redirect.f
 repeat' first
   | (with_reducible exact ih0 _ _)
   | (with_reducible exact usherref9_Split.mono _ _)
   | (with_reducible exact usherref9_private.mono _ _)
   | (with_reducible exact usherref9_runs.mono _ _ _ _)
   | (with_reducible exact usherref9_web.mono _ _ _)
   | (with_reducible exact LeO.refl _)
   | (with_reducible exact LeO.none _)
   | (with_reducible refine LeO.ite ?_ ?_)
   | (with_reducible refine LeO.bind ?_ (fun _ => ?_))
   | exact ih0 _ _
   | exact usherref9_Split.mono _ _
   | exact usherref9_private.mono _ _
   | exact usherref9_runs.mono _ _ _ _
   | exact usherref9_web.mono _ _ _
   | exact LeO.none _
   | refine LeO.ite ?_ ?_
   | refine LeO.bind ?_ (fun _ => ?_)
set_option maxHeartbeats 8000000 in
set_option maxRecDepth 100000 in
theorem usherref9_Redirect.calls (k : Nat) (a0 : ByteArray) (r : Bool) (w : World) (h : usherref9_Redirect.f k a0 = some r) :
  Calls Tryd.prog 12 #[.string a0] w fun e w' => e = .returned (.bool r) ∧ Drawn0 w w' := by
 have H : (if (a0.size : Int) > 512 then (some false) else ((usherref9_Split.f k a0).bind fun bt202 => ((usherref9_runs.f k bt202.2.1 0 true).bind fun t205 => (if t205 = true then ((usherref9_begins.f bt202.1 (⟨#[104, 116, 116, 112, 115, 58, 47, 47]⟩ : ByteArray)).bind fun t206 => (if t206 = true then (if 8 ≤ (bt202.1.size : Int) then ((usherref9_web.f k (bt202.1.extract 8 bt202.1.size) false).bind fun t207 => (some t207)) else (none)) else ((usherref9_begins.f bt202.1 (⟨#[104, 116, 116, 112, 58, 47, 47]⟩ : ByteArray)).bind fun t208 => (if t208 = true then (if 7 ≤ (bt202.1.size : Int) then ((usherref9_web.f k (bt202.1.extract 7 bt202.1.size) true).bind fun t209 => (some t209)) else (none)) else (usherref9_Redirect.l0 k bt202.1 0))))) else (some false))))) = some r := h
 clear h
 by_cases c2 : (a0.size : Int) > 512
 ·rw [if_pos c2] at H
  have c2b0 : decide (512 < (a0.size : Int)) = true := decide_eq_true c2
  have c2b1 : decide (512 < a0.size) = true := decide_eq_true (by omega)
  clear c2
  obtain rfl := Option.some.inj H
  go_enter Tryd.func12, Tryd.ntmps12
  go_wp2
  go_ret
  exact ⟨by first | rfl | (simp; done) | (simp [*]; done) | (simp [bne]; done), by repeat (first | exact Drawn0.refl _ | apply Drawn0.step)⟩
 ·rw [if_neg c2] at H
  have c2b0 : decide (512 < (a0.size : Int)) = false := decide_eq_false c2
  have c2b1 : decide (512 < a0.size) = false := decide_eq_false (by omega)
  clear c2
  replace H := Option.bind_eq_some_iff.mp H
  obtain ⟨⟨t202, t203, t204⟩, A30, H⟩ := H
  replace H : ((usherref9_runs.f k t203 0 true).bind fun t205 => (if t205 = true then ((usherref9_begins.f t202 (⟨#[104, 116, 116, 112, 115, 58, 47, 47]⟩ : ByteArray)).bind fun t206 => (if t206 = true then (if 8 ≤ (t202.size : Int) then ((usherref9_web.f k (t202.extract 8 t202.size) false).bind fun t207 => (some t207)) else (none)) else ((usherref9_begins.f t202 (⟨#[104, 116, 116, 112, 58, 47, 47]⟩ : ByteArray)).bind fun t208 => (if t208 = true then (if 7 ≤ (t202.size : Int) then ((usherref9_web.f k (t202.extract 7 t202.size) true).bind fun t209 => (some t209)) else (none)) else (usherref9_Redirect.l0 k t202 0))))) else (some false))) = some r := H
  have A3 := Aside0.mk A30
  clear A30
  replace H := Option.bind_eq_some_iff.mp H
  obtain ⟨t205, A40, H⟩ := H
  replace H : (if t205 = true then ((usherref9_begins.f t202 (⟨#[104, 116, 116, 112, 115, 58, 47, 47]⟩ : ByteArray)).bind fun t206 => (if t206 = true then (if 8 ≤ (t202.size : Int) then ((usherref9_web.f k (t202.extract 8 t202.size) false).bind fun t207 => (some t207)) else (none)) else ((usherref9_begins.f t202 (⟨#[104, 116, 116, 112, 58, 47, 47]⟩ : ByteArray)).bind fun t208 => (if t208 = true then (if 7 ≤ (t202.size : Int) then ((usherref9_web.f k (t202.extract 7 t202.size) true).bind fun t209 => (some t209)) else (none)) else (usherref9_Redirect.l0 k t202 0))))) else (some false)) = some r := H
  have A4 := Aside0.mk A40
  clear A40
  by_cases c5 : t205 = true
  ·subst c5
   have H1 : ((usherref9_begins.f t202 (⟨#[104, 116, 116, 112, 115, 58, 47, 47]⟩ : ByteArray)).bind fun t206 => (if t206 = true then (if 8 ≤ (t202.size : Int) then ((usherref9_web.f k (t202.extract 8 t202.size) false).bind fun t207 => (some t207)) else (none)) else ((usherref9_begins.f t202 (⟨#[104, 116, 116, 112, 58, 47, 47]⟩ : ByteArray)).bind fun t208 => (if t208 = true then (if 7 ≤ (t202.size : Int) then ((usherref9_web.f k (t202.extract 7 t202.size) true).bind fun t209 => (some t209)) else (none)) else (usherref9_Redirect.l0 k t202 0))))) = some r := by rw [if_pos rfl] at H; exact H
   clear H
   have H := H1
   clear H1
   replace H := Option.bind_eq_some_iff.mp H
   obtain ⟨t206, A60, H⟩ := H
   replace H : (if t206 = true then (if 8 ≤ (t202.size : Int) then ((usherref9_web.f k (t202.extract 8 t202.size) false).bind fun t207 => (some t207)) else (none)) else ((usherref9_begins.f t202 (⟨#[104, 116, 116, 112, 58, 47, 47]⟩ : ByteArray)).bind fun t208 => (if t208 = true then (if 7 ≤ (t202.size : Int) then ((usherref9_web.f k (t202.extract 7 t202.size) true).bind fun t209 => (some t209)) else (none)) else (usherref9_Redirect.l0 k t202 0)))) = some r := H
   have A6 := Aside0.mk A60
   clear A60
   by_cases c7 : t206 = true
   ·subst c7
    have H1 : (if 8 ≤ (t202.size : Int) then ((usherref9_web.f k (t202.extract 8 t202.size) false).bind fun t207 => (some t207)) else (none)) = some r := by rw [if_pos rfl] at H; exact H
    clear H
    have H := H1
    clear H1
    by_cases c8 : 8 ≤ (t202.size : Int)
    ·rw [if_pos c8] at H
     have c8b0 := eq_true c8
     have c8b1 : decide (8 ≤ (t202.size : Int)) = true := decide_eq_true c8
     clear c8
     replace H := Option.bind_eq_some_iff.mp H
     obtain ⟨t207, A90, H⟩ := H
     replace H : (some t207) = some r := H
     have A9 := Aside0.mk A90
     clear A90
     obtain rfl := Option.some.inj H
     go_enter Tryd.func12, Tryd.ntmps12
     go_wp2_with (first | ((with_reducible refine gate_callee (f := 30) rfl ?_); refine goesL_ (some 19) rfl rfl Tryd.func30 (by kernel_rfl) rfl #[.string a0] rfl (by (try simp only [List.map_toArray, List.map_cons, List.map_nil]); first | done | rfl | (simp only [List.length_drop, List.length_take]; rfl)) ?_; (with_reducible refine (usherref9_Split.calls k a0 t202 t203 t204 _ A3.out).mono ?_); rintro e w' ⟨rfl, ⟨nd, rfl⟩⟩; refine ⟨_, rfl, ?_⟩) | ((with_reducible refine gate_callee (f := 31) rfl ?_); refine goesL_ (some 24) rfl rfl Tryd.func31 (by kernel_rfl) rfl #[.string t203, .int .i64 0, .bool true] rfl (by (try simp only [List.map_toArray, List.map_cons, List.map_nil]); first | done | rfl | (simp only [List.length_drop, List.length_take]; rfl)) ?_; (with_reducible refine (usherref9_runs.calls k t203 0 true true _ A4.out).mono ?_); rintro e w' ⟨rfl, ⟨nd, rfl⟩⟩; refine ⟨_, rfl, ?_⟩) | ((with_reducible refine gate_callee (f := 32) rfl ?_); refine goesL_ (some 28) rfl rfl Tryd.func32 (by kernel_rfl) rfl #[.string t202, .string (⟨#[104, 116, 116, 112, 115, 58, 47, 47]⟩ : ByteArray)] rfl (by (try simp only [List.map_toArray, List.map_cons, List.map_nil]); first | done | rfl | (simp only [List.length_drop, List.length_take]; rfl)) ?_; (with_reducible refine (usherref9_begins.calls t202 (⟨#[104, 116, 116, 112, 115, 58, 47, 47]⟩ : ByteArray) true _ A6.out).mono ?_); rintro e w' ⟨rfl, ⟨nd, rfl⟩⟩; refine ⟨_, rfl, ?_⟩) | ((with_reducible refine gate_callee (f := 33) rfl ?_); refine goesL_ (some 32) rfl rfl Tryd.func33 (by kernel_rfl) rfl #[.string (t202.extract 8 t202.size), .bool false] rfl (by (try simp only [List.map_toArray, List.map_cons, List.map_nil]); first | done | rfl | (simp only [List.length_drop, List.length_take]; rfl)) ?_; (with_reducible refine (usherref9_web.calls k (t202.extract 8 t202.size) false t207 _ A9.out).mono ?_); rintro e w' ⟨rfl, ⟨nd, rfl⟩⟩; refine ⟨_, rfl, ?_⟩))
     go_ret
     exact ⟨by first | rfl | (simp; done) | (simp [*]; done) | (simp [bne]; done), by repeat (first | exact Drawn0.refl _ | apply Drawn0.step)⟩
    ·rw [if_neg c8] at H
     exact absurd H (by simp)
   ·replace c7 := Bool.eq_false_iff.mpr c7
    subst c7
    have H1 : ((usherref9_begins.f t202 (⟨#[104, 116, 116, 112, 58, 47, 47]⟩ : ByteArray)).bind fun t208 => (if t208 = true then (if 7 ≤ (t202.size : Int) then ((usherref9_web.f k (t202.extract 7 t202.size) true).bind fun t209 => (some t209)) else (none)) else (usherref9_Redirect.l0 k t202 0))) = some r := by rw [if_neg (show ¬ (false = true) by decide)] at H; exact H
    clear H
    have H := H1
    clear H1
    replace H := Option.bind_eq_some_iff.mp H
    obtain ⟨t208, A100, H⟩ := H
    replace H : (if t208 = true then (if 7 ≤ (t202.size : Int) then ((usherref9_web.f k (t202.extract 7 t202.size) true).bind fun t209 => (some t209)) else (none)) else (usherref9_Redirect.l0 k t202 0)) = some r := H
    have A10 := Aside0.mk A100
    clear A100
    by_cases c11 : t208 = true
    ·subst c11
     have H1 : (if 7 ≤ (t202.size : Int) then ((usherref9_web.f k (t202.extract 7 t202.size) true).bind fun t209 => (some t209)) else (none)) = some r := by rw [if_pos rfl] at H; exact H
     clear H
     have H := H1
     clear H1
     by_cases c12 : 7 ≤ (t202.size : Int)
     ·rw [if_pos c12] at H
      have c12b0 := eq_true c12
      have c12b1 : decide (7 ≤ (t202.size : Int)) = true := decide_eq_true c12
      clear c12
      replace H := Option.bind_eq_some_iff.mp H
      obtain ⟨t209, A130, H⟩ := H
      replace H : (some t209) = some r := H
      have A13 := Aside0.mk A130
      clear A130
      obtain rfl := Option.some.inj H
      go_enter Tryd.func12, Tryd.ntmps12
      go_wp2_with (first | ((with_reducible refine gate_callee (f := 30) rfl ?_); refine goesL_ (some 19) rfl rfl Tryd.func30 (by kernel_rfl) rfl #[.string a0] rfl (by (try simp only [List.map_toArray, List.map_cons, List.map_nil]); first | done | rfl | (simp only [List.length_drop, List.length_take]; rfl)) ?_; (with_reducible refine (usherref9_Split.calls k a0 t202 t203 t204 _ A3.out).mono ?_); rintro e w' ⟨rfl, ⟨nd, rfl⟩⟩; refine ⟨_, rfl, ?_⟩) | ((with_reducible refine gate_callee (f := 31) rfl ?_); refine goesL_ (some 24) rfl rfl Tryd.func31 (by kernel_rfl) rfl #[.string t203, .int .i64 0, .bool true] rfl (by (try simp only [List.map_toArray, List.map_cons, List.map_nil]); first | done | rfl | (simp only [List.length_drop, List.length_take]; rfl)) ?_; (with_reducible refine (usherref9_runs.calls k t203 0 true true _ A4.out).mono ?_); rintro e w' ⟨rfl, ⟨nd, rfl⟩⟩; refine ⟨_, rfl, ?_⟩) | ((with_reducible refine gate_callee (f := 32) rfl ?_); refine goesL_ (some 28) rfl rfl Tryd.func32 (by kernel_rfl) rfl #[.string t202, .string (⟨#[104, 116, 116, 112, 115, 58, 47, 47]⟩ : ByteArray)] rfl (by (try simp only [List.map_toArray, List.map_cons, List.map_nil]); first | done | rfl | (simp only [List.length_drop, List.length_take]; rfl)) ?_; (with_reducible refine (usherref9_begins.calls t202 (⟨#[104, 116, 116, 112, 115, 58, 47, 47]⟩ : ByteArray) false _ A6.out).mono ?_); rintro e w' ⟨rfl, ⟨nd, rfl⟩⟩; refine ⟨_, rfl, ?_⟩) | ((with_reducible refine gate_callee (f := 32) rfl ?_); refine goesL_ (some 34) rfl rfl Tryd.func32 (by kernel_rfl) rfl #[.string t202, .string (⟨#[104, 116, 116, 112, 58, 47, 47]⟩ : ByteArray)] rfl (by (try simp only [List.map_toArray, List.map_cons, List.map_nil]); first | done | rfl | (simp only [List.length_drop, List.length_take]; rfl)) ?_; (with_reducible refine (usherref9_begins.calls t202 (⟨#[104, 116, 116, 112, 58, 47, 47]⟩ : ByteArray) true _ A10.out).mono ?_); rintro e w' ⟨rfl, ⟨nd, rfl⟩⟩; refine ⟨_, rfl, ?_⟩) | ((with_reducible refine gate_callee (f := 33) rfl ?_); refine goesL_ (some 38) rfl rfl Tryd.func33 (by kernel_rfl) rfl #[.string (t202.extract 7 t202.size), .bool true] rfl (by (try simp only [List.map_toArray, List.map_cons, List.map_nil]); first | done | rfl | (simp only [List.length_drop, List.length_take]; rfl)) ?_; (with_reducible refine (usherref9_web.calls k (t202.extract 7 t202.size) true t209 _ A13.out).mono ?_); rintro e w' ⟨rfl, ⟨nd, rfl⟩⟩; refine ⟨_, rfl, ?_⟩))
      go_ret
      exact ⟨by first | rfl | (simp; done) | (simp [*]; done) | (simp [bne]; done), by repeat (first | exact Drawn0.refl _ | apply Drawn0.step)⟩
     ·rw [if_neg c12] at H
      exact absurd H (by simp)
    ·replace c11 := Bool.eq_false_iff.mpr c11
     subst c11
     have H1 : (usherref9_Redirect.l0 k t202 0) = some r := by rw [if_neg (show ¬ (false = true) by decide)] at H; exact H
     clear H
     have H := H1
     clear H1
     have H' := Aside0.mk H
     clear H
     go_enter Tryd.func12, Tryd.ntmps12
     go_wp2_with (first | ((with_reducible refine gate_callee (f := 30) rfl ?_); refine goesL_ (some 19) rfl rfl Tryd.func30 (by kernel_rfl) rfl #[.string a0] rfl (by (try simp only [List.map_toArray, List.map_cons, List.map_nil]); first | done | rfl | (simp only [List.length_drop, List.length_take]; rfl)) ?_; (with_reducible refine (usherref9_Split.calls k a0 t202 t203 t204 _ A3.out).mono ?_); rintro e w' ⟨rfl, ⟨nd, rfl⟩⟩; refine ⟨_, rfl, ?_⟩) | ((with_reducible refine gate_callee (f := 31) rfl ?_); refine goesL_ (some 24) rfl rfl Tryd.func31 (by kernel_rfl) rfl #[.string t203, .int .i64 0, .bool true] rfl (by (try simp only [List.map_toArray, List.map_cons, List.map_nil]); first | done | rfl | (simp only [List.length_drop, List.length_take]; rfl)) ?_; (with_reducible refine (usherref9_runs.calls k t203 0 true true _ A4.out).mono ?_); rintro e w' ⟨rfl, ⟨nd, rfl⟩⟩; refine ⟨_, rfl, ?_⟩) | ((with_reducible refine gate_callee (f := 32) rfl ?_); refine goesL_ (some 28) rfl rfl Tryd.func32 (by kernel_rfl) rfl #[.string t202, .string (⟨#[104, 116, 116, 112, 115, 58, 47, 47]⟩ : ByteArray)] rfl (by (try simp only [List.map_toArray, List.map_cons, List.map_nil]); first | done | rfl | (simp only [List.length_drop, List.length_take]; rfl)) ?_; (with_reducible refine (usherref9_begins.calls t202 (⟨#[104, 116, 116, 112, 115, 58, 47, 47]⟩ : ByteArray) false _ A6.out).mono ?_); rintro e w' ⟨rfl, ⟨nd, rfl⟩⟩; refine ⟨_, rfl, ?_⟩) | ((with_reducible refine gate_callee (f := 32) rfl ?_); refine goesL_ (some 34) rfl rfl Tryd.func32 (by kernel_rfl) rfl #[.string t202, .string (⟨#[104, 116, 116, 112, 58, 47, 47]⟩ : ByteArray)] rfl (by (try simp only [List.map_toArray, List.map_cons, List.map_nil]); first | done | rfl | (simp only [List.length_drop, List.length_take]; rfl)) ?_; (with_reducible refine (usherref9_begins.calls t202 (⟨#[104, 116, 116, 112, 58, 47, 47]⟩ : ByteArray) false _ A10.out).mono ?_); rintro e w' ⟨rfl, ⟨nd, rfl⟩⟩; refine ⟨_, rfl, ?_⟩))
     go_loopg [9] k (fun kq v9 w' => ∃ (x9_1 : Int), v9 = .int .i64 x9_1 ∧ Aside0 (usherref9_Redirect.l0 kq t202 x9_1 = some r) ∧ Aside0 (kq ≤ k) ∧ Drawn0 w w')
     case atStart => exact ⟨(0), (by first | rfl | (simp; done) | (simp [*]; done) | (simp [bne]; done)), H', ⟨Nat.le_refl _⟩, by repeat (first | exact Drawn0.refl _ | apply Drawn0.step)⟩
     case round =>
      clear H'
      try clear c1
      try clear c2
      try clear c2b0
      try clear c2b1
      try clear p2
      try clear c3
      try clear c5
      try clear c7
      try clear c8
      try clear c8b0
      try clear c8b1
      try clear c11
      try clear c12
      try clear c12b0
      try clear c12b1
      obtain ⟨x9_1, rfl, HA, HK1, ⟨m1, rfl⟩⟩ := hrel
      cases gk with
      | zero => exact absurd HA.out (by simp [usherref9_Redirect.l0])
      | succ k1 =>
       have H := HA.out
       clear HA
       simp only [usherref9_Redirect.l0] at H
       by_cases c14 : x9_1 < (t202.size : Int)
       ·rw [if_pos c14] at H
        have c14b0 : decide (x9_1 < (t202.size : Int)) = true := decide_eq_true c14
        clear c14
        by_cases c15 : 0 ≤ x9_1
        ·rw [if_pos c15] at H
         have c15b0 : decide (0 ≤ x9_1) = true := decide_eq_true c15
         clear c15
         by_cases c17 : (bt t202 x9_1) = 58
         ·rw [if_pos c17] at H
          have c17b0 : ((bt t202 x9_1) == 58) = true := beq_iff_eq.mpr c17
          have c17b1 : ((bt t202 x9_1) != 58) = false := bne_eq_false_iff_eq.mpr c17
          clear c17
          have c18b0 := eq_true (of_decide_eq_true (by first | (with_reducible assumption) | assumption) : 0 ≤ x9_1)
          by_cases c19 : x9_1 ≤ (t202.size : Int)
          ·rw [if_pos c19] at H
           have c19b0 := eq_true c19
           have c19b1 : decide (x9_1 ≤ (t202.size : Int)) = true := decide_eq_true c19
           clear c19
           replace H := Option.bind_eq_some_iff.mp H
           obtain ⟨t210, A200, H⟩ := H
           replace H : (if 0 ≤ (wrap64 (x9_1 + 1)) then (if (wrap64 (x9_1 + 1)) ≤ (t202.size : Int) then ((usherref9_begins.f (t202.extract ((wrap64 (x9_1 + 1)) : Int).toNat t202.size) (⟨#[47]⟩ : ByteArray)).bind fun t211 => ((usherref9_begins.f (t202.extract ((wrap64 (x9_1 + 1)) : Int).toNat t202.size) (⟨#[47, 47]⟩ : ByteArray)).bind fun t212 => (if t210 = true then (if t211 = true then (if t212 = true then (some false) else ((usherref9_runs.f k1 (t202.extract ((wrap64 (x9_1 + 1)) : Int).toNat t202.size) 0 false).bind fun t213 => (some t213))) else (some false)) else (some false)))) else (none)) else (none)) = some r := H
           have A20 := Aside0.mk A200
           clear A200
           obtain ⟨ji21, hji21⟩ : ∃ j_ : Int, (wrap64 (x9_1 + 1)) = j_ := ⟨_, rfl⟩
           replace H : (if 0 ≤ (ji21) then (if (ji21) ≤ (t202.size : Int) then ((usherref9_begins.f (t202.extract ((ji21) : Int).toNat t202.size) (⟨#[47]⟩ : ByteArray)).bind fun t211 => ((usherref9_begins.f (t202.extract ((ji21) : Int).toNat t202.size) (⟨#[47, 47]⟩ : ByteArray)).bind fun t212 => (if t210 = true then (if t211 = true then (if t212 = true then (some false) else ((usherref9_runs.f k1 (t202.extract ((ji21) : Int).toNat t202.size) 0 false).bind fun t213 => (some t213))) else (some false)) else (some false)))) else (none)) else (none)) = some r := by first | (rw [hji21] at H; exact H) | (simp only [hji21] at H ⊢; exact H)
           (try rw [hji21] at A20)
           have hji21w : (IntKind.i64.wrap (x9_1 + 1)) = ji21 := (i64_w _).trans hji21
           by_cases c22 : 0 ≤ (ji21)
           ·rw [if_pos c22] at H
            have c22b0 := eq_true c22
            have c22b1 : decide (0 ≤ (ji21)) = true := decide_eq_true c22
            clear c22
            by_cases c23 : (ji21) ≤ (t202.size : Int)
            ·rw [if_pos c23] at H
             have c23b0 := eq_true c23
             have c23b1 : decide ((ji21) ≤ (t202.size : Int)) = true := decide_eq_true c23
             clear c23
             replace H := Option.bind_eq_some_iff.mp H
             obtain ⟨t211, A240, H⟩ := H
             replace H : ((usherref9_begins.f (t202.extract ((ji21) : Int).toNat t202.size) (⟨#[47, 47]⟩ : ByteArray)).bind fun t212 => (if t210 = true then (if t211 = true then (if t212 = true then (some false) else ((usherref9_runs.f k1 (t202.extract ((ji21) : Int).toNat t202.size) 0 false).bind fun t213 => (some t213))) else (some false)) else (some false))) = some r := H
             have A24 := Aside0.mk A240
             clear A240
             replace H := Option.bind_eq_some_iff.mp H
             obtain ⟨t212, A250, H⟩ := H
             replace H : (if t210 = true then (if t211 = true then (if t212 = true then (some false) else ((usherref9_runs.f k1 (t202.extract ((ji21) : Int).toNat t202.size) 0 false).bind fun t213 => (some t213))) else (some false)) else (some false)) = some r := H
             have A25 := Aside0.mk A250
             clear A250
             by_cases c26 : t210 = true
             ·subst c26
              have H1 : (if t211 = true then (if t212 = true then (some false) else ((usherref9_runs.f k1 (t202.extract ((ji21) : Int).toNat t202.size) 0 false).bind fun t213 => (some t213))) else (some false)) = some r := by rw [if_pos rfl] at H; exact H
              clear H
              have H := H1
              clear H1
              by_cases c27 : t211 = true
              ·subst c27
               have H1 : (if t212 = true then (some false) else ((usherref9_runs.f k1 (t202.extract ((ji21) : Int).toNat t202.size) 0 false).bind fun t213 => (some t213))) = some r := by rw [if_pos rfl] at H; exact H
               clear H
               have H := H1
               clear H1
               by_cases c28 : t212 = true
               ·subst c28
                have H1 : (some false) = some r := by rw [if_pos rfl] at H; exact H
                clear H
                have H := H1
                clear H1
                obtain rfl := Option.some.inj H
                have p16 : 0 ≤ (x9_1 : Int) := of_decide_eq_true (by first | (with_reducible assumption) | assumption)
                have q16 : x9_1 < (t202.size : Int) := of_decide_eq_true (by first | (with_reducible assumption) | assumption)
                have hx16 := bt_at t202 x9_1
                replace p16 := eq_true p16
                replace q16 := eq_true q16
                go_wp2_with (first | ((with_reducible refine gate_callee (f := 34) rfl ?_); refine goesL_ (some 52) rfl rfl Tryd.func34 (by kernel_rfl) rfl #[.string (t202.extract 0 (x9_1 : Int).toNat)] rfl (by (try simp only [List.map_toArray, List.map_cons, List.map_nil]); first | done | rfl | (simp only [List.length_drop, List.length_take]; rfl)) ?_; (with_reducible refine (usherref9_private.calls k1 (t202.extract 0 (x9_1 : Int).toNat) true _ A20.out).mono ?_); rintro e w' ⟨rfl, ⟨nd, rfl⟩⟩; refine ⟨_, rfl, ?_⟩) | ((with_reducible refine gate_callee (f := 32) rfl ?_); refine goesL_ (some 58) rfl rfl Tryd.func32 (by kernel_rfl) rfl #[.string (t202.extract ((ji21) : Int).toNat t202.size), .string (⟨#[47]⟩ : ByteArray)] rfl (by (try simp only [List.map_toArray, List.map_cons, List.map_nil]); first | done | (simp only [hji21]; rfl) | rfl | (simp only [List.length_drop, List.length_take]; rfl)) ?_; (with_reducible refine (usherref9_begins.calls (t202.extract ((ji21) : Int).toNat t202.size) (⟨#[47]⟩ : ByteArray) true _ A24.out).mono ?_); rintro e w' ⟨rfl, ⟨nd, rfl⟩⟩; refine ⟨_, rfl, ?_⟩) | ((with_reducible refine gate_callee (f := 32) rfl ?_); refine goesL_ (some 60) rfl rfl Tryd.func32 (by kernel_rfl) rfl #[.string (t202.extract ((ji21) : Int).toNat t202.size), .string (⟨#[47, 47]⟩ : ByteArray)] rfl (by (try simp only [List.map_toArray, List.map_cons, List.map_nil]); first | done | (simp only [hji21]; rfl) | rfl | (simp only [List.length_drop, List.length_take]; rfl)) ?_; (with_reducible refine (usherref9_begins.calls (t202.extract ((ji21) : Int).toNat t202.size) (⟨#[47, 47]⟩ : ByteArray) true _ A25.out).mono ?_); rintro e w' ⟨rfl, ⟨nd, rfl⟩⟩; refine ⟨_, rfl, ?_⟩))
                go_ret
                exact ⟨by first | rfl | (simp; done) | (simp only [← hji21] <;> (first | rfl | simp)) | (simp [*]; done), by repeat (first | exact Drawn0.refl _ | apply Drawn0.step)⟩
               ·replace c28 := Bool.eq_false_iff.mpr c28
                subst c28
                have H1 : ((usherref9_runs.f k1 (t202.extract ((ji21) : Int).toNat t202.size) 0 false).bind fun t213 => (some t213)) = some r := by rw [if_neg (show ¬ (false = true) by decide)] at H; exact H
                clear H
                have H := H1
                clear H1
                replace H := Option.bind_eq_some_iff.mp H
                obtain ⟨t213, A290, H⟩ := H
                replace H : (some t213) = some r := H
                have A29 := Aside0.mk A290
                clear A290
                obtain rfl := Option.some.inj H
                have p16 : 0 ≤ (x9_1 : Int) := of_decide_eq_true (by first | (with_reducible assumption) | assumption)
                have q16 : x9_1 < (t202.size : Int) := of_decide_eq_true (by first | (with_reducible assumption) | assumption)
                have hx16 := bt_at t202 x9_1
                replace p16 := eq_true p16
                replace q16 := eq_true q16
                go_wp2_with (first | ((with_reducible refine gate_callee (f := 34) rfl ?_); refine goesL_ (some 52) rfl rfl Tryd.func34 (by kernel_rfl) rfl #[.string (t202.extract 0 (x9_1 : Int).toNat)] rfl (by (try simp only [List.map_toArray, List.map_cons, List.map_nil]); first | done | rfl | (simp only [List.length_drop, List.length_take]; rfl)) ?_; (with_reducible refine (usherref9_private.calls k1 (t202.extract 0 (x9_1 : Int).toNat) true _ A20.out).mono ?_); rintro e w' ⟨rfl, ⟨nd, rfl⟩⟩; refine ⟨_, rfl, ?_⟩) | ((with_reducible refine gate_callee (f := 32) rfl ?_); refine goesL_ (some 58) rfl rfl Tryd.func32 (by kernel_rfl) rfl #[.string (t202.extract ((ji21) : Int).toNat t202.size), .string (⟨#[47]⟩ : ByteArray)] rfl (by (try simp only [List.map_toArray, List.map_cons, List.map_nil]); first | done | (simp only [hji21]; rfl) | rfl | (simp only [List.length_drop, List.length_take]; rfl)) ?_; (with_reducible refine (usherref9_begins.calls (t202.extract ((ji21) : Int).toNat t202.size) (⟨#[47]⟩ : ByteArray) true _ A24.out).mono ?_); rintro e w' ⟨rfl, ⟨nd, rfl⟩⟩; refine ⟨_, rfl, ?_⟩) | ((with_reducible refine gate_callee (f := 32) rfl ?_); refine goesL_ (some 60) rfl rfl Tryd.func32 (by kernel_rfl) rfl #[.string (t202.extract ((ji21) : Int).toNat t202.size), .string (⟨#[47, 47]⟩ : ByteArray)] rfl (by (try simp only [List.map_toArray, List.map_cons, List.map_nil]); first | done | (simp only [hji21]; rfl) | rfl | (simp only [List.length_drop, List.length_take]; rfl)) ?_; (with_reducible refine (usherref9_begins.calls (t202.extract ((ji21) : Int).toNat t202.size) (⟨#[47, 47]⟩ : ByteArray) false _ A25.out).mono ?_); rintro e w' ⟨rfl, ⟨nd, rfl⟩⟩; refine ⟨_, rfl, ?_⟩) | (go_at_call 31; (with_reducible refine (usherref9_runs.calls k1 (t202.extract ((ji21) : Int).toNat t202.size) 0 false t213 _ A29.out).mono ?_); rintro e w' ⟨rfl, ⟨nd, rfl⟩⟩))
                go_ret
                exact ⟨by first | rfl | (simp; done) | (simp only [← hji21] <;> (first | rfl | simp)) | (simp [*]; done), by repeat (first | exact Drawn0.refl _ | apply Drawn0.step)⟩
              ·replace c27 := Bool.eq_false_iff.mpr c27
               subst c27
               have H1 : (some false) = some r := by rw [if_neg (show ¬ (false = true) by decide)] at H; exact H
               clear H
               have H := H1
               clear H1
               obtain rfl := Option.some.inj H
               have p16 : 0 ≤ (x9_1 : Int) := of_decide_eq_true (by first | (with_reducible assumption) | assumption)
               have q16 : x9_1 < (t202.size : Int) := of_decide_eq_true (by first | (with_reducible assumption) | assumption)
               have hx16 := bt_at t202 x9_1
               replace p16 := eq_true p16
               replace q16 := eq_true q16
               go_wp2_with (first | ((with_reducible refine gate_callee (f := 34) rfl ?_); refine goesL_ (some 52) rfl rfl Tryd.func34 (by kernel_rfl) rfl #[.string (t202.extract 0 (x9_1 : Int).toNat)] rfl (by (try simp only [List.map_toArray, List.map_cons, List.map_nil]); first | done | rfl | (simp only [List.length_drop, List.length_take]; rfl)) ?_; (with_reducible refine (usherref9_private.calls k1 (t202.extract 0 (x9_1 : Int).toNat) true _ A20.out).mono ?_); rintro e w' ⟨rfl, ⟨nd, rfl⟩⟩; refine ⟨_, rfl, ?_⟩) | ((with_reducible refine gate_callee (f := 32) rfl ?_); refine goesL_ (some 58) rfl rfl Tryd.func32 (by kernel_rfl) rfl #[.string (t202.extract ((ji21) : Int).toNat t202.size), .string (⟨#[47]⟩ : ByteArray)] rfl (by (try simp only [List.map_toArray, List.map_cons, List.map_nil]); first | done | (simp only [hji21]; rfl) | rfl | (simp only [List.length_drop, List.length_take]; rfl)) ?_; (with_reducible refine (usherref9_begins.calls (t202.extract ((ji21) : Int).toNat t202.size) (⟨#[47]⟩ : ByteArray) false _ A24.out).mono ?_); rintro e w' ⟨rfl, ⟨nd, rfl⟩⟩; refine ⟨_, rfl, ?_⟩) | ((with_reducible refine gate_callee (f := 32) rfl ?_); refine goesL_ (some 60) rfl rfl Tryd.func32 (by kernel_rfl) rfl #[.string (t202.extract ((ji21) : Int).toNat t202.size), .string (⟨#[47, 47]⟩ : ByteArray)] rfl (by (try simp only [List.map_toArray, List.map_cons, List.map_nil]); first | done | (simp only [hji21]; rfl) | rfl | (simp only [List.length_drop, List.length_take]; rfl)) ?_; (with_reducible refine (usherref9_begins.calls (t202.extract ((ji21) : Int).toNat t202.size) (⟨#[47, 47]⟩ : ByteArray) t212 _ A25.out).mono ?_); rintro e w' ⟨rfl, ⟨nd, rfl⟩⟩; refine ⟨_, rfl, ?_⟩))
               go_ret
               exact ⟨by first | rfl | (simp; done) | (simp only [← hji21] <;> (first | rfl | simp)) | (simp [*]; done), by repeat (first | exact Drawn0.refl _ | apply Drawn0.step)⟩
             ·replace c26 := Bool.eq_false_iff.mpr c26
              subst c26
              have H1 : (some false) = some r := by rw [if_neg (show ¬ (false = true) by decide)] at H; exact H
              clear H
              have H := H1
              clear H1
              obtain rfl := Option.some.inj H
              have p16 : 0 ≤ (x9_1 : Int) := of_decide_eq_true (by first | (with_reducible assumption) | assumption)
              have q16 : x9_1 < (t202.size : Int) := of_decide_eq_true (by first | (with_reducible assumption) | assumption)
              have hx16 := bt_at t202 x9_1
              replace p16 := eq_true p16
              replace q16 := eq_true q16
              go_wp2_with (first | ((with_reducible refine gate_callee (f := 34) rfl ?_); refine goesL_ (some 52) rfl rfl Tryd.func34 (by kernel_rfl) rfl #[.string (t202.extract 0 (x9_1 : Int).toNat)] rfl (by (try simp only [List.map_toArray, List.map_cons, List.map_nil]); first | done | rfl | (simp only [List.length_drop, List.length_take]; rfl)) ?_; (with_reducible refine (usherref9_private.calls k1 (t202.extract 0 (x9_1 : Int).toNat) false _ A20.out).mono ?_); rintro e w' ⟨rfl, ⟨nd, rfl⟩⟩; refine ⟨_, rfl, ?_⟩) | ((with_reducible refine gate_callee (f := 32) rfl ?_); refine goesL_ (some 58) rfl rfl Tryd.func32 (by kernel_rfl) rfl #[.string (t202.extract ((ji21) : Int).toNat t202.size), .string (⟨#[47]⟩ : ByteArray)] rfl (by (try simp only [List.map_toArray, List.map_cons, List.map_nil]); first | done | (simp only [hji21]; rfl) | rfl | (simp only [List.length_drop, List.length_take]; rfl)) ?_; (with_reducible refine (usherref9_begins.calls (t202.extract ((ji21) : Int).toNat t202.size) (⟨#[47]⟩ : ByteArray) t211 _ A24.out).mono ?_); rintro e w' ⟨rfl, ⟨nd, rfl⟩⟩; refine ⟨_, rfl, ?_⟩) | ((with_reducible refine gate_callee (f := 32) rfl ?_); refine goesL_ (some 60) rfl rfl Tryd.func32 (by kernel_rfl) rfl #[.string (t202.extract ((ji21) : Int).toNat t202.size), .string (⟨#[47, 47]⟩ : ByteArray)] rfl (by (try simp only [List.map_toArray, List.map_cons, List.map_nil]); first | done | (simp only [hji21]; rfl) | rfl | (simp only [List.length_drop, List.length_take]; rfl)) ?_; (with_reducible refine (usherref9_begins.calls (t202.extract ((ji21) : Int).toNat t202.size) (⟨#[47, 47]⟩ : ByteArray) t212 _ A25.out).mono ?_); rintro e w' ⟨rfl, ⟨nd, rfl⟩⟩; refine ⟨_, rfl, ?_⟩))
              go_ret
              exact ⟨by first | rfl | (simp; done) | (simp only [← hji21] <;> (first | rfl | simp)) | (simp [*]; done), by repeat (first | exact Drawn0.refl _ | apply Drawn0.step)⟩
            ·rw [if_neg c23] at H
             exact absurd H (by simp)
           ·rw [if_neg c22] at H
            exact absurd H (by simp)
          ·rw [if_neg c19] at H
           exact absurd H (by simp)
         ·rw [if_neg c17] at H
          have c17b0 : ((bt t202 x9_1) == 58) = false := beq_eq_false_iff_ne.mpr c17
          have c17b1 : ((bt t202 x9_1) != 58) = true := bne_iff_ne.mpr c17
          have H' := Aside0.mk H
          clear H
          have p16 : 0 ≤ (x9_1 : Int) := of_decide_eq_true (by first | (with_reducible assumption) | assumption)
          have q16 : x9_1 < (t202.size : Int) := of_decide_eq_true (by first | (with_reducible assumption) | assumption)
          have hx16 := bt_at t202 x9_1
          replace p16 := eq_true p16
          replace q16 := eq_true q16
          go_wp2
          go_roundg k1
          case measure => have := HK1.out; omega
          case rel => exact ⟨(wrap64 (x9_1 + 1)), (by first | rfl | (simp; done) | (simp [*]; done) | (simp [bne]; done)), H', ⟨by have := HK1.out; omega⟩, by repeat (first | exact Drawn0.refl _ | apply Drawn0.step)⟩
        ·rw [if_neg c15] at H
         exact absurd H (by simp)
       ·rw [if_neg c14] at H
        have c14b0 : decide (x9_1 < (t202.size : Int)) = false := decide_eq_false c14
        clear c14
        obtain rfl := Option.some.inj H
        go_wp2
        go_ret
        exact ⟨by first | rfl | (simp; done) | (simp [*]; done) | (simp [bne]; done), by repeat (first | exact Drawn0.refl _ | apply Drawn0.step)⟩
  ·replace c5 := Bool.eq_false_iff.mpr c5
   subst c5
   have H1 : (some false) = some r := by rw [if_neg (show ¬ (false = true) by decide)] at H; exact H
   clear H
   have H := H1
   clear H1
   obtain rfl := Option.some.inj H
   go_enter Tryd.func12, Tryd.ntmps12
   go_wp2_with (first | ((with_reducible refine gate_callee (f := 30) rfl ?_); refine goesL_ (some 19) rfl rfl Tryd.func30 (by kernel_rfl) rfl #[.string a0] rfl (by (try simp only [List.map_toArray, List.map_cons, List.map_nil]); first | done | rfl | (simp only [List.length_drop, List.length_take]; rfl)) ?_; (with_reducible refine (usherref9_Split.calls k a0 t202 t203 t204 _ A3.out).mono ?_); rintro e w' ⟨rfl, ⟨nd, rfl⟩⟩; refine ⟨_, rfl, ?_⟩) | ((with_reducible refine gate_callee (f := 31) rfl ?_); refine goesL_ (some 24) rfl rfl Tryd.func31 (by kernel_rfl) rfl #[.string t203, .int .i64 0, .bool true] rfl (by (try simp only [List.map_toArray, List.map_cons, List.map_nil]); first | done | rfl | (simp only [List.length_drop, List.length_take]; rfl)) ?_; (with_reducible refine (usherref9_runs.calls k t203 0 true false _ A4.out).mono ?_); rintro e w' ⟨rfl, ⟨nd, rfl⟩⟩; refine ⟨_, rfl, ?_⟩))
   go_ret
   exact ⟨by first | rfl | (simp; done) | (simp [*]; done) | (simp [bne]; done), by repeat (first | exact Drawn0.refl _ | apply Drawn0.step)⟩

/-! ### usherref3_digit: function 83 -/
def usherref3_digit.f (a0 : Int) : Option (Int) := if a0 < 10 then (some ((48 + a0) % 256)) else (some ((65 + (a0 - 10)) % 256))
set_option maxHeartbeats 8000000 in
set_option maxRecDepth 100000 in
theorem usherref3_digit.calls (a0 : Int) (r : Int) (w : World) (h : usherref3_digit.f a0 = some r) :
  Calls Tryd.prog 83 #[.int .u8 a0] w fun e w' => e = .returned (.int .u8 r) ∧ Drawn0 w w' := by
 have H : (if a0 < 10 then (some ((48 + a0) % 256)) else (some ((65 + (a0 - 10)) % 256))) = some r := h
 clear h
 by_cases c2 : a0 < 10
 ·rw [if_pos c2] at H
  have c2b0 : decide (a0 < 10) = true := decide_eq_true c2
  clear c2
  obtain rfl := Option.some.inj H
  go_enter Tryd.func83, Tryd.ntmps83
  go_wp2
  go_ret
  exact ⟨by first | rfl | (simp; done) | (simp [*]; done) | (simp [bne]; done), by repeat (first | exact Drawn0.refl _ | apply Drawn0.step)⟩
 ·rw [if_neg c2] at H
  have c2b0 : decide (a0 < 10) = false := decide_eq_false c2
  clear c2
  obtain rfl := Option.some.inj H
  go_enter Tryd.func83, Tryd.ntmps83
  go_wp2
  go_ret
  exact ⟨by first | rfl | (simp; done) | (simp [*]; done) | (simp [bne]; done), by repeat (first | exact Drawn0.refl _ | apply Drawn0.step)⟩

/-! ### usherref3_Escape: function 63 -/
mutual
def usherref3_Escape.l0 : Nat → ByteArray → Bool → List Int → Int → Option (ByteArray)
 | 0, _, _, _, _ => none
 | k + 1, x0, x1, x5, x6 => if x6 < (x0.size : Int) then (if 0 ≤ x6 then ((usherref3_Unreserved.f (bt x0 x6)).bind fun t214 => (if t214 = true then (if x5.length < 140737488355328 then (usherref3_Escape.l0 k x0 x1 (x5 ++ [bt x0 x6]) (wrap64 (x6 + 1))) else (none)) else (if x1 = true then (usherref3_Escape.j1 k x0 x1 x5 x6 (bt x0 x6) ((bt x0 x6) == 32)) else (usherref3_Escape.j1 k x0 x1 x5 x6 (bt x0 x6) false)))) else (none)) else (some (strOfNums x5))
def usherref3_Escape.j1 : Nat → ByteArray → Bool → List Int → Int → Int → Bool → Option (ByteArray)
 | 0, _, _, _, _, _, _ => none
 | k + 1, x0, x1, x5, x6, x7, x45 => if x45 = true then (if x5.length < 140737488355328 then (usherref3_Escape.l0 k x0 x1 (x5 ++ [43]) (wrap64 (x6 + 1))) else (none)) else ((usherref3_digit.f ((Int.tdiv x7 16) % 256)).bind fun t221 => ((usherref3_digit.f (Int.tmod x7 16)).bind fun t222 => (if x5.length < 140737488355328 then ((some (x5 ++ [37] : List Int)).bind fun y223 => (if y223.length < 140737488355328 then ((some (y223 ++ [t221] : List Int)).bind fun y226 => (if y226.length < 140737488355328 then (usherref3_Escape.l0 k x0 x1 (y226 ++ [t222]) (wrap64 (x6 + 1))) else (none))) else (none))) else (none))))
end
def usherref3_Escape.f (k : Nat) (a0 : ByteArray) (a1 : Bool) : Option (ByteArray) := usherref3_Escape.l0 k a0 a1 ([] : List Int) 0
theorem usherref3_Escape.mono_l : ∀ k, (∀ y0 y1 y2 y3, LeO (usherref3_Escape.l0 k y0 y1 y2 y3) (usherref3_Escape.l0 (k + 1) y0 y1 y2 y3)) ∧ (∀ y0 y1 y2 y3 y4 y5, LeO (usherref3_Escape.j1 k y0 y1 y2 y3 y4 y5) (usherref3_Escape.j1 (k + 1) y0 y1 y2 y3 y4 y5))
 | 0 => ⟨fun _ _ _ _ r h => by simp [usherref3_Escape.l0] at h, fun _ _ _ _ _ _ r h => by simp [usherref3_Escape.j1] at h⟩
 | k + 1 => by
  obtain ⟨ih0, ih1⟩ := usherref3_Escape.mono_l k
  refine ⟨?_, ?_⟩
  ·intro y0 y1 y2 y3
   unfold usherref3_Escape.l0
   repeat' first
   | (with_reducible exact ih0 _ _ _ _)
   | (with_reducible exact ih1 _ _ _ _ _ _)
   | (with_reducible exact LeO.refl _)
   | (with_reducible exact LeO.none _)
   | (with_reducible refine LeO.ite ?_ ?_)
   | (with_reducible refine LeO.bind ?_ (fun _ => ?_))
   | exact ih0 _ _ _ _
   | exact ih1 _ _ _ _ _ _
   | exact LeO.none _
   | refine LeO.ite ?_ ?_
   | refine LeO.bind ?_ (fun _ => ?_)
  ·intro y0 y1 y2 y3 y4 y5
   unfold usherref3_Escape.j1
   repeat' first
   | (with_reducible exact ih0 _ _ _ _)
   | (with_reducible exact ih1 _ _ _ _ _ _)
   | (with_reducible exact LeO.refl _)
   | (with_reducible exact LeO.none _)
   | (with_reducible refine LeO.ite ?_ ?_)
   | (with_reducible refine LeO.bind ?_ (fun _ => ?_))
   | exact ih0 _ _ _ _
   | exact ih1 _ _ _ _ _ _
   | exact LeO.none _
   | refine LeO.ite ?_ ?_
   | refine LeO.bind ?_ (fun _ => ?_)
theorem usherref3_Escape.mono : ∀ a0 a1 k, LeO (usherref3_Escape.f k a0 a1) (usherref3_Escape.f (k + 1) a0 a1) := by
 intro a0 a1 k
 obtain ⟨ih0, ih1⟩ := usherref3_Escape.mono_l k
 unfold usherref3_Escape.f
 repeat' first
   | (with_reducible exact ih0 _ _ _ _)
   | (with_reducible exact ih1 _ _ _ _ _ _)
   | (with_reducible exact LeO.refl _)
   | (with_reducible exact LeO.none _)
   | (with_reducible refine LeO.ite ?_ ?_)
   | (with_reducible refine LeO.bind ?_ (fun _ => ?_))
   | exact ih0 _ _ _ _
   | exact ih1 _ _ _ _ _ _
   | exact LeO.none _
   | refine LeO.ite ?_ ?_
   | refine LeO.bind ?_ (fun _ => ?_)
set_option maxHeartbeats 8000000 in
set_option maxRecDepth 100000 in
theorem usherref3_Escape.calls (k : Nat) (a0 : ByteArray) (a1 : Bool) (r : ByteArray) (w : World) (h : usherref3_Escape.f k a0 a1 = some r) :
  Calls Tryd.prog 63 #[.string a0, .bool a1] w fun e w' => e = .returned (.string r) ∧ Below w.heap.size w w' := by
 have HB := Aside0.mk (Below.refl w.heap.size w)
 have H : (usherref3_Escape.l0 k a0 a1 ([] : List Int) 0) = some r := h
 clear h
 have H' := Aside0.mk H
 clear H
 go_enter Tryd.func63, Tryd.ntmps63
 go_wp2
 go_loopg [5, 6] k (fun kq v5 v6 w' => ∃ (x5_1 : List Int) (x6_1 : Int), v6 = .int .i64 x6_1 ∧ Aside0 (usherref3_Escape.l0 kq a0 a1 x5_1 x6_1 = some r) ∧ Aside0 (kq ≤ k) ∧ Aside0 (Kd.R (Kd.int .u8) 5 w' w.heap.size (fun _ => True) v5 x5_1) ∧ Aside0 (Below w.heap.size w w'))
 case atStart => exact ⟨(([] : List Int)), (0), (by first | rfl | (simp; done) | (simp [*]; done) | (simp [bne]; done)), H', ⟨Nat.le_refl _⟩, ⟨by first | exact Kd.R_nil _ _ _ _ _ | exact Kd.N_nil _ _ _ _ _ | exact Kd.V_nil _ _ _ _ _ | exact Kd.Q_nil _ _ _ _ _ | exact Kd.S_nil _ _ _ _ _⟩, ⟨by repeat (first | (with_reducible first | exact HB.out | apply below_alloc | apply pw_below_drewN | apply below_drew1) | exact HB.out)⟩⟩
 case round =>
  clear H'
  try clear p2
  obtain ⟨x5_1, x6_1, rfl, HA, HK1, HO_5, HB⟩ := hrel
  cases gk with
  | zero => exact absurd HA.out (by simp [usherref3_Escape.l0])
  | succ k1 =>
   have H := HA.out
   clear HA
   simp only [usherref3_Escape.l0] at H
   by_cases c3 : x6_1 < (a0.size : Int)
   ·rw [if_pos c3] at H
    have c3b0 : decide (x6_1 < (a0.size : Int)) = true := decide_eq_true c3
    clear c3
    by_cases c4 : 0 ≤ x6_1
    ·rw [if_pos c4] at H
     have c4b0 : decide (0 ≤ x6_1) = true := decide_eq_true c4
     clear c4
     replace H := Option.bind_eq_some_iff.mp H
     obtain ⟨t214, A60, H⟩ := H
     replace H : (if t214 = true then (if x5_1.length < 140737488355328 then (usherref3_Escape.l0 k1 a0 a1 (x5_1 ++ [bt a0 x6_1]) (wrap64 (x6_1 + 1))) else (none)) else (if a1 = true then (usherref3_Escape.j1 k1 a0 a1 x5_1 x6_1 (bt a0 x6_1) ((bt a0 x6_1) == 32)) else (usherref3_Escape.j1 k1 a0 a1 x5_1 x6_1 (bt a0 x6_1) false))) = some r := H
     have A6 := Aside0.mk A60
     clear A60
     by_cases c7 : t214 = true
     ·subst c7
      have H1 : (if x5_1.length < 140737488355328 then (usherref3_Escape.l0 k1 a0 a1 (x5_1 ++ [bt a0 x6_1]) (wrap64 (x6_1 + 1))) else (none)) = some r := by rw [if_pos rfl] at H; exact H
      clear H
      have H := H1
      clear H1
      by_cases c8 : x5_1.length < 140737488355328
      ·rw [if_pos c8] at H
       have LMc8 := Aside0.mk c8
       clear c8
       obtain ⟨y215, hy215⟩ : ∃ y_ : List Int, y_ = (x5_1 ++ [bt a0 x6_1]) := ⟨_, rfl⟩
       replace H : (usherref3_Escape.l0 k1 a0 a1 y215 (wrap64 (x6_1 + 1))) = some r := by first | (rw [hy215]; with_reducible exact H) | (have H2_ := (Option.bind_some _ _).symm.trans H; rw [hy215]; with_reducible exact H2_) | (have H2_ := (Option.bind_some _ _).symm.trans H; with_reducible exact H2_) | with_reducible exact H | (rw [hy215]; exact H) | exact H
       have Ny215 := Aside0.mk hy215
       clear hy215
       have H' := Aside0.mk H
       clear H
       have p5 : 0 ≤ (x6_1 : Int) := of_decide_eq_true (by first | (with_reducible assumption) | assumption)
       have q5 : x6_1 < (a0.size : Int) := of_decide_eq_true (by first | (with_reducible assumption) | assumption)
       have hx5 := bt_at a0 x6_1
       replace p5 := eq_true p5
       replace q5 := eq_true q5
       go_wp2_with (first | ((with_reducible refine gate_callee (f := 55) rfl ?_); refine goesL_ (some 21) rfl rfl Tryd.func55 (by kernel_rfl) rfl #[.int .u8 (bt a0 x6_1)] rfl (by (try simp only [List.map_toArray, List.map_cons, List.map_nil]); first | done | rfl | (simp only [List.length_drop, List.length_take]; rfl)) ?_; (with_reducible refine (usherref3_Unreserved.calls (bt a0 x6_1) true _ A6.out).mono ?_); rintro e w' ⟨rfl, ⟨nd, rfl⟩⟩; refine ⟨_, rfl, ?_⟩) | ((with_reducible refine gate_builtin (b := .append) (xs := #[.tmp 41, .tmp 43]) rfl ?_); at_builtin; refine Kd.R_append (Kd.int .u8) (w0 := w) w.heap.size rfl (.tmp 41) (.tmp 43) 69 5 (.int .u8 0) 1 rfl Tryd.underlying69 info5 rfl (by decide) (by omega) u5 x5_1 (bt a0 x6_1) [.int .u8 (bt a0 x6_1)] (fun _ => True) (fun _ => False) rfl rfl ?aP (fun _ hk => hk.elim) ?aF ?aO ?aB ?aS ?aL ?_; (case aP => exact rfl); (case aB => exact (by repeat (first | (with_reducible first | exact HB.out | apply below_alloc | apply pw_below_drewN | apply below_drew1) | exact HB.out))); (case aF => exact (fun _ _ => trivial)); (case aO => exact (by (with_reducible repeat (first | apply Kd.R_alloc | apply Kd.R_drewN | apply Kd.R_drew)); exact HO_5.out)); (case aS => exact (below_size (by repeat (first | (with_reducible first | exact HB.out | apply below_alloc | apply pw_below_drewN | apply below_drew1) | exact HB.out)))); (case aL => have := LMc8.out; omega); intro v216 w9 ho hb hg hat; rw [← Ny215.out] at ho; have n0_ := Aside0.mk (hb); have n1_ := Aside0.mk (ho); clear HB; clear HO_5; have HB := n0_; have HO217 := n1_; clear n0_ n1_; clear ho hb hg hat))
       go_roundg k1
       case measure => have := HK1.out; omega
       case rel => exact ⟨(y215), (wrap64 (x6_1 + 1)), (by first | rfl | (simp; done) | (simp [*]; done) | (simp [bne]; done)), H', ⟨by have := HK1.out; omega⟩, ⟨by (with_reducible repeat (first | apply Kd.R_alloc | apply Kd.R_drewN | apply Kd.R_drew)); exact HO217.out⟩, ⟨by repeat (first | (with_reducible first | exact HB.out | apply below_alloc | apply pw_below_drewN | apply below_drew1) | exact HB.out)⟩⟩
      ·rw [if_neg c8] at H
       exact absurd H (by simp)
     ·replace c7 := Bool.eq_false_iff.mpr c7
      subst c7
      have H1 : (if a1 = true then (usherref3_Escape.j1 k1 a0 a1 x5_1 x6_1 (bt a0 x6_1) ((bt a0 x6_1) == 32)) else (usherref3_Escape.j1 k1 a0 a1 x5_1 x6_1 (bt a0 x6_1) false)) = some r := by rw [if_neg (show ¬ (false = true) by decide)] at H; exact H
      clear H
      have H := H1
      clear H1
      have HC10 := Aside0.mk H
      clear H
      have p5 : 0 ≤ (x6_1 : Int) := of_decide_eq_true (by first | (with_reducible assumption) | assumption)
      have q5 : x6_1 < (a0.size : Int) := of_decide_eq_true (by first | (with_reducible assumption) | assumption)
      have hx5 := bt_at a0 x6_1
      replace p5 := eq_true p5
      replace q5 := eq_true q5
      go_upto_region 14 with (first | ((with_reducible refine gate_callee (f := 55) rfl ?_); refine goesL_ (some 21) rfl rfl Tryd.func55 (by kernel_rfl) rfl #[.int .u8 (bt a0 x6_1)] rfl (by (try simp only [List.map_toArray, List.map_cons, List.map_nil]); first | done | rfl | (simp only [List.length_drop, List.length_take]; rfl)) ?_; (with_reducible refine (usherref3_Unreserved.calls (bt a0 x6_1) false _ A6.out).mono ?_); rintro e w' ⟨rfl, ⟨nd, rfl⟩⟩; refine ⟨_, rfl, ?_⟩))
      (try simp only [Act.put, List.setIfInBounds_toArray, List.set_cons_zero, List.set_cons_succ])
      go_cut [45] (fun v45 wc => ∃ (kq : Nat) (x45_9 : Bool), v45 = .bool x45_9 ∧ Aside0 (usherref3_Escape.j1 kq a0 a1 x5_1 x6_1 (bt a0 x6_1) x45_9 = some r) ∧ Aside0 (kq ≤ k1) ∧ Aside0 (Kd.R (Kd.int .u8) 5 wc w.heap.size (fun _ => True) u5 x5_1) ∧ Aside0 (Below w.heap.size w wc))
      case first =>
       have H := HC10.out
       clear HC10
       by_cases c11 : a1 = true
       ·subst c11
        have H1 : (usherref3_Escape.j1 k1 a0 true x5_1 x6_1 (bt a0 x6_1) ((bt a0 x6_1) == 32)) = some r := by rw [if_pos rfl] at H; exact H
        clear H
        have H := H1
        clear H1
        have H' := Aside0.mk H
        clear H
        go_wp2
        go_meet
        case rel => exact ⟨_, (((bt a0 x6_1) == 32)), (by first | rfl | (simp; done) | (simp [*]; done) | (simp [bne]; done)), H', ⟨by have := HK1.out; first | omega | exact Nat.le_refl _⟩, ⟨by (with_reducible repeat (first | apply Kd.R_alloc | apply Kd.R_drewN | apply Kd.R_drew)); exact HO_5.out⟩, ⟨by repeat (first | (with_reducible first | exact HB.out | apply below_alloc | apply pw_below_drewN | apply below_drew1) | exact HB.out)⟩⟩
       ·replace c11 := Bool.eq_false_iff.mpr c11
        subst c11
        have H1 : (usherref3_Escape.j1 k1 a0 false x5_1 x6_1 (bt a0 x6_1) false) = some r := by rw [if_neg (show ¬ (false = true) by decide)] at H; exact H
        clear H
        have H := H1
        clear H1
        have H' := Aside0.mk H
        clear H
        go_wp2
        go_meet
        case rel => exact ⟨_, (false), (by first | rfl | (simp; done) | (simp [*]; done) | (simp [bne]; done)), H', ⟨by have := HK1.out; first | omega | exact Nat.le_refl _⟩, ⟨by (with_reducible repeat (first | apply Kd.R_alloc | apply Kd.R_drewN | apply Kd.R_drew)); exact HO_5.out⟩, ⟨by repeat (first | (with_reducible first | exact HB.out | apply below_alloc | apply pw_below_drewN | apply below_drew1) | exact HB.out)⟩⟩
      case rest =>
       clear HC10
       try clear c1
       try clear p2
       try clear c3
       try clear c3b0
       try clear c4
       try clear c4b0
       try clear c5
       try clear p5
       try clear q5
       try clear hx5
       try clear c6
       try clear p6
       try clear c7
       try clear c8
       try clear c11
       try clear p2
       try clear p5
       try clear q5
       obtain ⟨kq, x45_9, rfl, HA, HJ9, HO_5, HB⟩ := hcut
       cases kq with
       | zero => exact absurd HA.out (by simp [usherref3_Escape.j1])
       | succ kj9 =>
        have H := HA.out
        clear HA
        simp only [usherref3_Escape.j1] at H
        by_cases c12 : x45_9 = true
        ·subst c12
         have H1 : (if x5_1.length < 140737488355328 then (usherref3_Escape.l0 kj9 a0 a1 (x5_1 ++ [43]) (wrap64 (x6_1 + 1))) else (none)) = some r := by rw [if_pos rfl] at H; exact H
         clear H
         have H := H1
         clear H1
         by_cases c13 : x5_1.length < 140737488355328
         ·rw [if_pos c13] at H
          have LMc13 := Aside0.mk c13
          clear c13
          obtain ⟨y218, hy218⟩ : ∃ y_ : List Int, y_ = (x5_1 ++ [43]) := ⟨_, rfl⟩
          replace H : (usherref3_Escape.l0 kj9 a0 a1 y218 (wrap64 (x6_1 + 1))) = some r := by first | (rw [hy218]; with_reducible exact H) | (have H2_ := (Option.bind_some _ _).symm.trans H; rw [hy218]; with_reducible exact H2_) | (have H2_ := (Option.bind_some _ _).symm.trans H; with_reducible exact H2_) | with_reducible exact H | (rw [hy218]; exact H) | exact H
          have Ny218 := Aside0.mk hy218
          clear hy218
          have H' := Aside0.mk H
          clear H
          go_wp2_with (first | ((with_reducible refine gate_builtin (b := .append) (xs := #[.tmp 51, .tmp 52]) rfl ?_); at_builtin; refine Kd.R_append (Kd.int .u8) (w0 := w) w.heap.size rfl (.tmp 51) (.tmp 52) 69 5 (.int .u8 0) 1 rfl Tryd.underlying69 info5 rfl (by decide) (by omega) u5 x5_1 43 [.int .u8 43] (fun _ => True) (fun _ => False) rfl rfl ?aP (fun _ hk => hk.elim) ?aF ?aO ?aB ?aS ?aL ?_; (case aP => exact rfl); (case aB => exact (by repeat (first | (with_reducible first | exact HB.out | apply below_alloc | apply pw_below_drewN | apply below_drew1) | exact HB.out))); (case aF => exact (fun _ _ => trivial)); (case aO => exact (by (with_reducible repeat (first | apply Kd.R_alloc | apply Kd.R_drewN | apply Kd.R_drew)); exact HO_5.out)); (case aS => exact (below_size (by repeat (first | (with_reducible first | exact HB.out | apply below_alloc | apply pw_below_drewN | apply below_drew1) | exact HB.out)))); (case aL => have := LMc13.out; omega); intro v219 w14 ho hb hg hat; rw [← Ny218.out] at ho; have n0_ := Aside0.mk (hb); have n1_ := Aside0.mk (ho); clear HB; clear HO_5; have HB := n0_; have HO220 := n1_; clear n0_ n1_; clear ho hb hg hat))
          go_roundg kj9
          case measure => have := HK1.out; have := HJ9.out; omega
          case rel => exact ⟨(y218), (wrap64 (x6_1 + 1)), (by first | rfl | (simp; done) | (simp [*]; done) | (simp [bne]; done)), H', ⟨by have := HK1.out; have := HJ9.out; omega⟩, ⟨by (with_reducible repeat (first | apply Kd.R_alloc | apply Kd.R_drewN | apply Kd.R_drew)); exact HO220.out⟩, ⟨by repeat (first | (with_reducible first | exact HB.out | apply below_alloc | apply pw_below_drewN | apply below_drew1) | exact HB.out)⟩⟩
         ·rw [if_neg c13] at H
          exact absurd H (by simp)
        ·replace c12 := Bool.eq_false_iff.mpr c12
         subst c12
         have H1 : ((usherref3_digit.f ((Int.tdiv (bt a0 x6_1) 16) % 256)).bind fun t221 => ((usherref3_digit.f (Int.tmod (bt a0 x6_1) 16)).bind fun t222 => (if x5_1.length < 140737488355328 then ((some (x5_1 ++ [37] : List Int)).bind fun y223 => (if y223.length < 140737488355328 then ((some (y223 ++ [t221] : List Int)).bind fun y226 => (if y226.length < 140737488355328 then (usherref3_Escape.l0 kj9 a0 a1 (y226 ++ [t222]) (wrap64 (x6_1 + 1))) else (none))) else (none))) else (none)))) = some r := by rw [if_neg (show ¬ (false = true) by decide)] at H; exact H
         clear H
         have H := H1
         clear H1
         replace H := Option.bind_eq_some_iff.mp H
         obtain ⟨t221, A150, H⟩ := H
         replace H : ((usherref3_digit.f (Int.tmod (bt a0 x6_1) 16)).bind fun t222 => (if x5_1.length < 140737488355328 then ((some (x5_1 ++ [37] : List Int)).bind fun y223 => (if y223.length < 140737488355328 then ((some (y223 ++ [t221] : List Int)).bind fun y226 => (if y226.length < 140737488355328 then (usherref3_Escape.l0 kj9 a0 a1 (y226 ++ [t222]) (wrap64 (x6_1 + 1))) else (none))) else (none))) else (none))) = some r := H
         have A15 := Aside0.mk A150
         clear A150
         replace H := Option.bind_eq_some_iff.mp H
         obtain ⟨t222, A160, H⟩ := H
         replace H : (if x5_1.length < 140737488355328 then ((some (x5_1 ++ [37] : List Int)).bind fun y223 => (if y223.length < 140737488355328 then ((some (y223 ++ [t221] : List Int)).bind fun y226 => (if y226.length < 140737488355328 then (usherref3_Escape.l0 kj9 a0 a1 (y226 ++ [t222]) (wrap64 (x6_1 + 1))) else (none))) else (none))) else (none)) = some r := H
         have A16 := Aside0.mk A160
         clear A160
         by_cases c17 : x5_1.length < 140737488355328
         ·rw [if_pos c17] at H
          have LMc17 := Aside0.mk c17
          clear c17
          obtain ⟨y223, hy223⟩ : ∃ y_ : List Int, y_ = (x5_1 ++ [37]) := ⟨_, rfl⟩
          replace H : (if y223.length < 140737488355328 then ((some (y223 ++ [t221] : List Int)).bind fun y226 => (if y226.length < 140737488355328 then (usherref3_Escape.l0 kj9 a0 a1 (y226 ++ [t222]) (wrap64 (x6_1 + 1))) else (none))) else (none)) = some r := by first | (rw [hy223]; with_reducible exact H) | (have H2_ := (Option.bind_some _ _).symm.trans H; rw [hy223]; with_reducible exact H2_) | (have H2_ := (Option.bind_some _ _).symm.trans H; with_reducible exact H2_) | with_reducible exact H | (rw [hy223]; exact H) | exact H
          have Ny223 := Aside0.mk hy223
          clear hy223
          by_cases c18 : y223.length < 140737488355328
          ·rw [if_pos c18] at H
           have LMc18 := Aside0.mk c18
           clear c18
           obtain ⟨y226, hy226⟩ : ∃ y_ : List Int, y_ = (y223 ++ [t221]) := ⟨_, rfl⟩
           replace H : (if y226.length < 140737488355328 then (usherref3_Escape.l0 kj9 a0 a1 (y226 ++ [t222]) (wrap64 (x6_1 + 1))) else (none)) = some r := by first | (rw [hy226]; with_reducible exact H) | (have H2_ := (Option.bind_some _ _).symm.trans H; rw [hy226]; with_reducible exact H2_) | (have H2_ := (Option.bind_some _ _).symm.trans H; with_reducible exact H2_) | with_reducible exact H | (rw [hy226]; exact H) | exact H
           have Ny226 := Aside0.mk hy226
           clear hy226
           by_cases c19 : y226.length < 140737488355328
           ·rw [if_pos c19] at H
            have LMc19 := Aside0.mk c19
            clear c19
            obtain ⟨y229, hy229⟩ : ∃ y_ : List Int, y_ = (y226 ++ [t222]) := ⟨_, rfl⟩
            replace H : (usherref3_Escape.l0 kj9 a0 a1 y229 (wrap64 (x6_1 + 1))) = some r := by first | (rw [hy229]; with_reducible exact H) | (have H2_ := (Option.bind_some _ _).symm.trans H; rw [hy229]; with_reducible exact H2_) | (have H2_ := (Option.bind_some _ _).symm.trans H; with_reducible exact H2_) | with_reducible exact H | (rw [hy229]; exact H) | exact H
            have Ny229 := Aside0.mk hy229
            clear hy229
            have H' := Aside0.mk H
            clear H
            go_wp2_with (first | ((with_reducible refine gate_callee (f := 83) rfl ?_); refine goesL_ (some 24) rfl rfl Tryd.func83 (by kernel_rfl) rfl #[.int .u8 ((Int.tdiv (bt a0 x6_1) 16) % 256)] rfl (by (try simp only [List.map_toArray, List.map_cons, List.map_nil]); first | done | rfl | (simp only [List.length_drop, List.length_take]; rfl)) ?_; (with_reducible refine (usherref3_digit.calls ((Int.tdiv (bt a0 x6_1) 16) % 256) t221 _ A15.out).mono ?_); rintro e w' ⟨rfl, ⟨nd, rfl⟩⟩; refine ⟨_, rfl, ?_⟩) | ((with_reducible refine gate_callee (f := 83) rfl ?_); refine goesL_ (some 27) rfl rfl Tryd.func83 (by kernel_rfl) rfl #[.int .u8 (Int.tmod (bt a0 x6_1) 16)] rfl (by (try simp only [List.map_toArray, List.map_cons, List.map_nil]); first | done | rfl | (simp only [List.length_drop, List.length_take]; rfl)) ?_; (with_reducible refine (usherref3_digit.calls (Int.tmod (bt a0 x6_1) 16) t222 _ A16.out).mono ?_); rintro e w' ⟨rfl, ⟨nd, rfl⟩⟩; refine ⟨_, rfl, ?_⟩) | ((with_reducible refine gate_builtin (b := .append) (xs := #[.tmp 28, .tmp 29]) rfl ?_); at_builtin; refine Kd.R_append (Kd.int .u8) (w0 := w) w.heap.size rfl (.tmp 28) (.tmp 29) 69 5 (.int .u8 0) 1 rfl Tryd.underlying69 info5 rfl (by decide) (by omega) u5 x5_1 37 [.int .u8 37] (fun _ => True) (fun _ => False) rfl rfl ?aP (fun _ hk => hk.elim) ?aF ?aO ?aB ?aS ?aL ?_; (case aP => exact rfl); (case aB => exact (by repeat (first | (with_reducible first | exact HB.out | apply below_alloc | apply pw_below_drewN | apply below_drew1) | exact HB.out))); (case aF => exact (fun _ _ => trivial)); (case aO => exact (by (with_reducible repeat (first | apply Kd.R_alloc | apply Kd.R_drewN | apply Kd.R_drew)); exact HO_5.out)); (case aS => exact (below_size (by repeat (first | (with_reducible first | exact HB.out | apply below_alloc | apply pw_below_drewN | apply below_drew1) | exact HB.out)))); (case aL => have := LMc17.out; omega); intro v224 w20 ho hb hg hat; rw [← Ny223.out] at ho; have n0_ := Aside0.mk (hb); have n1_ := Aside0.mk (ho); clear HB; clear HO_5; have HB := n0_; have HO225 := n1_; clear n0_ n1_; clear ho hb hg hat) | ((with_reducible refine gate_builtin (b := .append) (xs := #[.tmp 31, .tmp 33]) rfl ?_); at_builtin; refine Kd.R_append (Kd.int .u8) (w0 := w) w.heap.size rfl (.tmp 31) (.tmp 33) 69 5 (.int .u8 0) 1 rfl Tryd.underlying69 info5 rfl (by decide) (by omega) v224 y223 t221 [.int .u8 t221] (fun _ => True) (fun _ => False) rfl rfl ?aP (fun _ hk => hk.elim) ?aF ?aO ?aB ?aS ?aL ?_; (case aP => exact rfl); (case aB => exact (by repeat (first | (with_reducible first | exact HB.out | apply below_alloc | apply pw_below_drewN | apply below_drew1) | exact HB.out))); (case aF => exact (fun _ _ => trivial)); (case aO => exact (by (with_reducible repeat (first | apply Kd.R_alloc | apply Kd.R_drewN | apply Kd.R_drew)); exact HO225.out)); (case aS => exact (below_size (by repeat (first | (with_reducible first | exact HB.out | apply below_alloc | apply pw_below_drewN | apply below_drew1) | exact HB.out)))); (case aL => have := LMc18.out; omega); intro v227 w21 ho hb hg hat; rw [← Ny226.out] at ho; have n0_ := Aside0.mk (hb); have n1_ := Aside0.mk (ho); clear HB; clear HO225; have HB := n0_; have HO228 := n1_; clear n0_ n1_; clear ho hb hg hat) | ((with_reducible refine gate_builtin (b := .append) (xs := #[.tmp 35, .tmp 37]) rfl ?_); at_builtin; refine Kd.R_append (Kd.int .u8) (w0 := w) w.heap.size rfl (.tmp 35) (.tmp 37) 69 5 (.int .u8 0) 1 rfl Tryd.underlying69 info5 rfl (by decide) (by omega) v227 y226 t222 [.int .u8 t222] (fun _ => True) (fun _ => False) rfl rfl ?aP (fun _ hk => hk.elim) ?aF ?aO ?aB ?aS ?aL ?_; (case aP => exact rfl); (case aB => exact (by repeat (first | (with_reducible first | exact HB.out | apply below_alloc | apply pw_below_drewN | apply below_drew1) | exact HB.out))); (case aF => exact (fun _ _ => trivial)); (case aO => exact (by (with_reducible repeat (first | apply Kd.R_alloc | apply Kd.R_drewN | apply Kd.R_drew)); exact HO228.out)); (case aS => exact (below_size (by repeat (first | (with_reducible first | exact HB.out | apply below_alloc | apply pw_below_drewN | apply below_drew1) | exact HB.out)))); (case aL => have := LMc19.out; omega); intro v230 w22 ho hb hg hat; rw [← Ny229.out] at ho; have n0_ := Aside0.mk (hb); have n1_ := Aside0.mk (ho); clear HB; clear HO228; have HB := n0_; have HO231 := n1_; clear n0_ n1_; clear ho hb hg hat))
            go_roundg kj9
            case measure => have := HK1.out; have := HJ9.out; omega
            case rel => exact ⟨(y229), (wrap64 (x6_1 + 1)), (by first | rfl | (simp; done) | (simp [*]; done) | (simp [bne]; done)), H', ⟨by have := HK1.out; have := HJ9.out; omega⟩, ⟨by (with_reducible repeat (first | apply Kd.R_alloc | apply Kd.R_drewN | apply Kd.R_drew)); exact HO231.out⟩, ⟨by repeat (first | (with_reducible first | exact HB.out | apply below_alloc | apply pw_below_drewN | apply below_drew1) | exact HB.out)⟩⟩
           ·rw [if_neg c19] at H
            exact absurd H (by simp)
          ·rw [if_neg c18] at H
           exact absurd H (by simp)
         ·rw [if_neg c17] at H
          exact absurd H (by simp)
    ·rw [if_neg c4] at H
     exact absurd H (by simp)
   ·rw [if_neg c3] at H
    have c3b0 : decide (x6_1 < (a0.size : Int)) = false := decide_eq_false c3
    clear c3
    obtain rfl := Option.some.inj H
    have hcv23 := own_string (P := Tryd.prog) Tryd.underlying69 Tryd.underlying5 Tryd.underlying9 (Kd.own_of_R HO_5.out)
    go_wp2
    go_ret
    exact ⟨by first | rfl | (simp [errW_none, errW_some] <;> rfl) | (simp [*, errW_none, errW_some] <;> rfl), by repeat (first | (with_reducible first | exact HB.out | apply below_alloc | apply pw_below_drewN | apply below_drew1) | exact HB.out)⟩

/-! ### usherref3_Form: function 36 -/
def usherref3_Form.l0 : Nat → List (S29) → List Int → Int → Option (ByteArray)
 | 0, _, _, _ => none
 | k + 1, x0, x3, x4 => if x4 < (x0.length : Int) then (if x4 > 0 then (if x3.length < 140737488355328 then ((some (x3 ++ [38] : List Int)).bind fun y232 => (if 0 ≤ x4 then ((usherref3_Escape.f k ((rd_T29 x0 x4).f0) true).bind fun t236 => ((usherref3_Escape.f k ((rd_T29 x0 x4).f1) true).bind fun t238 => (if y232.length + t236.size < 140737488355328 then ((some (y232 ++ bytesOf t236 : List Int)).bind fun y239 => (if y239.length < 140737488355328 then ((some (y239 ++ [61] : List Int)).bind fun y242 => (if y242.length + t238.size < 140737488355328 then (usherref3_Form.l0 k x0 (y242 ++ bytesOf t238) (wrap64 (x4 + 1))) else (none))) else (none))) else (none)))) else (none))) else (none)) else (if 0 ≤ x4 then ((usherref3_Escape.f k ((rd_T29 x0 x4).f0) true).bind fun t249 => ((usherref3_Escape.f k ((rd_T29 x0 x4).f1) true).bind fun t251 => (if x3.length + t249.size < 140737488355328 then ((some (x3 ++ bytesOf t249 : List Int)).bind fun y252 => (if y252.length < 140737488355328 then ((some (y252 ++ [61] : List Int)).bind fun y255 => (if y255.length + t251.size < 140737488355328 then (usherref3_Form.l0 k x0 (y255 ++ bytesOf t251) (wrap64 (x4 + 1))) else (none))) else (none))) else (none)))) else (none))) else (some (strOfNums x3))
def usherref3_Form.f (k : Nat) (l0 : List (S29)) : Option (ByteArray) := usherref3_Form.l0 k l0 ([] : List Int) 0
theorem usherref3_Form.mono_l : ∀ k, (∀ y0 y1 y2, LeO (usherref3_Form.l0 k y0 y1 y2) (usherref3_Form.l0 (k + 1) y0 y1 y2))
 | 0 => fun _ _ _ r h => by simp [usherref3_Form.l0] at h
 | k + 1 => by
  have ih0 := usherref3_Form.mono_l k
  ·intro y0 y1 y2
   unfold usherref3_Form.l0
   repeat' first
   | (with_reducible exact ih0 _ _ _)
   | (with_reducible exact usherref3_Escape.mono _ _ _)
   | (with_reducible exact LeO.refl _)
   | (with_reducible exact LeO.none _)
   | (with_reducible refine LeO.ite ?_ ?_)
   | (with_reducible refine LeO.bind ?_ (fun _ => ?_))
   | exact ih0 _ _ _
   | exact usherref3_Escape.mono _ _ _
   | exact LeO.none _
   | refine LeO.ite ?_ ?_
   | refine LeO.bind ?_ (fun _ => ?_)
theorem usherref3_Form.mono : ∀ a0 k, LeO (usherref3_Form.f k a0) (usherref3_Form.f (k + 1) a0) := by
 intro a0 k
 have ih0 := usherref3_Form.mono_l k
 unfold usherref3_Form.f
 repeat' first
   | (with_reducible exact ih0 _ _ _)
   | (with_reducible exact usherref3_Escape.mono _ _ _)
   | (with_reducible exact LeO.refl _)
   | (with_reducible exact LeO.none _)
   | (with_reducible refine LeO.ite ?_ ?_)
   | (with_reducible refine LeO.bind ?_ (fun _ => ?_))
   | exact ih0 _ _ _
   | exact usherref3_Escape.mono _ _ _
   | exact LeO.none _
   | refine LeO.ite ?_ ?_
   | refine LeO.bind ?_ (fun _ => ?_)
set_option maxHeartbeats 8000000 in
set_option maxRecDepth 100000 in
theorem usherref3_Form.calls (k : Nat) (A0 : Option Addr) (c0 : Nat) (l0 : List (S29)) (r : ByteArray) (w : World) (hr0 : Kd.C k29 w A0 l0.length l0) (hc0 : l0.length ≤ c0) (h : usherref3_Form.f k l0 = some r) :
  Calls Tryd.prog 36 #[.slice A0 l0.length c0] w fun e w' => e = .returned (.string r) ∧ Below w.heap.size w w' := by
 have HR0 := Aside0.mk hr0
 have HC0 := Aside0.mk hc0
 clear hr0 hc0
 have HB := Aside0.mk (Below.refl w.heap.size w)
 have H : (usherref3_Form.l0 k l0 ([] : List Int) 0) = some r := h
 clear h
 have H' := Aside0.mk H
 clear H
 go_enter Tryd.func36, Tryd.ntmps36
 go_wp2
 go_loopg [3, 4] k (fun kq v3 v4 w' => ∃ (x3_1 : List Int) (x4_1 : Int), v4 = .int .i64 x4_1 ∧ Aside0 (usherref3_Form.l0 kq l0 x3_1 x4_1 = some r) ∧ Aside0 (kq ≤ k) ∧ Aside0 (Kd.R (Kd.int .u8) 5 w' w.heap.size (fun _ => True) v3 x3_1) ∧ Aside0 (Below w.heap.size w w'))
 case atStart => exact ⟨(([] : List Int)), (0), (by first | rfl | (simp; done) | (simp [*]; done) | (simp [bne]; done)), H', ⟨Nat.le_refl _⟩, ⟨by first | exact Kd.R_nil _ _ _ _ _ | exact Kd.N_nil _ _ _ _ _ | exact Kd.V_nil _ _ _ _ _ | exact Kd.Q_nil _ _ _ _ _ | exact Kd.S_nil _ _ _ _ _⟩, ⟨by repeat (first | (with_reducible first | exact HB.out | apply below_alloc | apply pw_below_drewN | apply below_drew1) | exact HB.out)⟩⟩
 case round =>
  clear H'
  obtain ⟨x3_1, x4_1, rfl, HA, HK1, HO_3, HB⟩ := hrel
  cases gk with
  | zero => exact absurd HA.out (by simp [usherref3_Form.l0])
  | succ k1 =>
   have H := HA.out
   clear HA
   simp only [usherref3_Form.l0] at H
   by_cases c2 : x4_1 < (l0.length : Int)
   ·rw [if_pos c2] at H
    have c2b0 : decide (x4_1 < (l0.length : Int)) = true := decide_eq_true c2
    clear c2
    by_cases c3 : x4_1 > 0
    ·rw [if_pos c3] at H
     have c3b0 : decide (0 < x4_1) = true := decide_eq_true c3
     clear c3
     by_cases c4 : x3_1.length < 140737488355328
     ·rw [if_pos c4] at H
      have LMc4 := Aside0.mk c4
      clear c4
      obtain ⟨y232, hy232⟩ : ∃ y_ : List Int, y_ = (x3_1 ++ [38]) := ⟨_, rfl⟩
      replace H : (if 0 ≤ x4_1 then ((usherref3_Escape.f k1 ((rd_T29 l0 x4_1).f0) true).bind fun t236 => ((usherref3_Escape.f k1 ((rd_T29 l0 x4_1).f1) true).bind fun t238 => (if y232.length + t236.size < 140737488355328 then ((some (y232 ++ bytesOf t236 : List Int)).bind fun y239 => (if y239.length < 140737488355328 then ((some (y239 ++ [61] : List Int)).bind fun y242 => (if y242.length + t238.size < 140737488355328 then (usherref3_Form.l0 k1 l0 (y242 ++ bytesOf t238) (wrap64 (x4_1 + 1))) else (none))) else (none))) else (none)))) else (none)) = some r := by first | (rw [hy232]; with_reducible exact H) | (have H2_ := (Option.bind_some _ _).symm.trans H; rw [hy232]; with_reducible exact H2_) | (have H2_ := (Option.bind_some _ _).symm.trans H; with_reducible exact H2_) | with_reducible exact H | (rw [hy232]; exact H) | exact H
      have Ny232 := Aside0.mk hy232
      clear hy232
      by_cases c5 : 0 ≤ x4_1
      ·rw [if_pos c5] at H
       have c5b0 : decide (0 ≤ x4_1) = true := decide_eq_true c5
       clear c5
       replace H := Option.bind_eq_some_iff.mp H
       obtain ⟨t236, A60, H⟩ := H
       replace H : ((usherref3_Escape.f k1 ((rd_T29 l0 x4_1).f1) true).bind fun t238 => (if y232.length + t236.size < 140737488355328 then ((some (y232 ++ bytesOf t236 : List Int)).bind fun y239 => (if y239.length < 140737488355328 then ((some (y239 ++ [61] : List Int)).bind fun y242 => (if y242.length + t238.size < 140737488355328 then (usherref3_Form.l0 k1 l0 (y242 ++ bytesOf t238) (wrap64 (x4_1 + 1))) else (none))) else (none))) else (none))) = some r := H
       have A6 := Aside0.mk A60
       clear A60
       replace H := Option.bind_eq_some_iff.mp H
       obtain ⟨t238, A70, H⟩ := H
       replace H : (if y232.length + t236.size < 140737488355328 then ((some (y232 ++ bytesOf t236 : List Int)).bind fun y239 => (if y239.length < 140737488355328 then ((some (y239 ++ [61] : List Int)).bind fun y242 => (if y242.length + t238.size < 140737488355328 then (usherref3_Form.l0 k1 l0 (y242 ++ bytesOf t238) (wrap64 (x4_1 + 1))) else (none))) else (none))) else (none)) = some r := H
       have A7 := Aside0.mk A70
       clear A70
       by_cases c8 : y232.length + t236.size < 140737488355328
       ·rw [if_pos c8] at H
        have LMc8 := Aside0.mk c8
        clear c8
        obtain ⟨y239, hy239⟩ : ∃ y_ : List Int, y_ = (y232 ++ bytesOf t236) := ⟨_, rfl⟩
        replace H : (if y239.length < 140737488355328 then ((some (y239 ++ [61] : List Int)).bind fun y242 => (if y242.length + t238.size < 140737488355328 then (usherref3_Form.l0 k1 l0 (y242 ++ bytesOf t238) (wrap64 (x4_1 + 1))) else (none))) else (none)) = some r := by first | (rw [hy239]; with_reducible exact H) | (have H2_ := (Option.bind_some _ _).symm.trans H; rw [hy239]; with_reducible exact H2_) | (have H2_ := (Option.bind_some _ _).symm.trans H; with_reducible exact H2_) | with_reducible exact H | (rw [hy239]; exact H) | exact H
        have Ny239 := Aside0.mk hy239
        clear hy239
        by_cases c9 : y239.length < 140737488355328
        ·rw [if_pos c9] at H
         have LMc9 := Aside0.mk c9
         clear c9
         obtain ⟨y242, hy242⟩ : ∃ y_ : List Int, y_ = (y239 ++ [61]) := ⟨_, rfl⟩
         replace H : (if y242.length + t238.size < 140737488355328 then (usherref3_Form.l0 k1 l0 (y242 ++ bytesOf t238) (wrap64 (x4_1 + 1))) else (none)) = some r := by first | (rw [hy242]; with_reducible exact H) | (have H2_ := (Option.bind_some _ _).symm.trans H; rw [hy242]; with_reducible exact H2_) | (have H2_ := (Option.bind_some _ _).symm.trans H; with_reducible exact H2_) | with_reducible exact H | (rw [hy242]; exact H) | exact H
         have Ny242 := Aside0.mk hy242
         clear hy242
         by_cases c10 : y242.length + t238.size < 140737488355328
         ·rw [if_pos c10] at H
          have LMc10 := Aside0.mk c10
          clear c10
          obtain ⟨y245, hy245⟩ : ∃ y_ : List Int, y_ = (y242 ++ bytesOf t238) := ⟨_, rfl⟩
          replace H : (usherref3_Form.l0 k1 l0 y245 (wrap64 (x4_1 + 1))) = some r := by first | (rw [hy245]; with_reducible exact H) | (have H2_ := (Option.bind_some _ _).symm.trans H; rw [hy245]; with_reducible exact H2_) | (have H2_ := (Option.bind_some _ _).symm.trans H; with_reducible exact H2_) | with_reducible exact H | (rw [hy245]; exact H) | exact H
          have Ny245 := Aside0.mk hy245
          clear hy245
          have H' := Aside0.mk H
          clear H
          go_wp2_with (first | ((with_reducible refine gate_builtin (b := .append) (xs := #[.tmp 15, .tmp 16]) rfl ?_); at_builtin; refine Kd.R_append (Kd.int .u8) (w0 := w) w.heap.size rfl (.tmp 15) (.tmp 16) 69 5 (.int .u8 0) 1 rfl Tryd.underlying69 info5 rfl (by decide) (by omega) u3 x3_1 38 [.int .u8 38] (fun _ => True) (fun _ => False) rfl rfl ?aP (fun _ hk => hk.elim) ?aF ?aO ?aB ?aS ?aL ?_; (case aP => exact rfl); (case aB => exact (by repeat (first | (with_reducible first | exact HB.out | apply below_alloc | apply pw_below_drewN | apply below_drew1) | exact HB.out))); (case aF => exact (fun _ _ => trivial)); (case aO => exact (by (with_reducible repeat (first | apply Kd.R_alloc | apply Kd.R_drewN | apply Kd.R_drew)); exact HO_3.out)); (case aS => exact (below_size (by repeat (first | (with_reducible first | exact HB.out | apply below_alloc | apply pw_below_drewN | apply below_drew1) | exact HB.out)))); (case aL => have := LMc4.out; omega); intro v233 w11 ho hb hg hat; rw [← Ny232.out] at ho; have n0_ := Aside0.mk (hb); have n1_ := Aside0.mk (ho); clear HB; clear HO_3; have HB := n0_; have HO234 := n1_; clear n0_ n1_; clear ho hb hg hat; have p235 : 0 ≤ (x4_1 : Int) := of_decide_eq_true (by first | (with_reducible assumption) | assumption); have q235 : x4_1 < (l0.length : Int) := of_decide_eq_true (by first | (with_reducible assumption) | assumption); obtain ⟨ad235, e235, hx235_0, hx235_1⟩ := at_T29 HR0.out x4_1 p235 q235; cases e235; replace hx235_0 := (HB.out.cell (World.block_lt_of_cell? w _ hx235_0)).trans hx235_0; replace hx235_1 := (HB.out.cell (World.block_lt_of_cell? w _ hx235_1)).trans hx235_1; replace p235 := eq_true p235; replace q235 := eq_true q235) | ((with_reducible refine gate_callee (f := 63) rfl ?_); refine goesL_ (some 23) rfl rfl Tryd.func63 (by kernel_rfl) rfl #[.string ((rd_T29 l0 x4_1).f0), .bool true] rfl (by (try simp only [List.map_toArray, List.map_cons, List.map_nil]); first | done | rfl | (simp only [List.length_drop, List.length_take]; rfl)) ?_; (with_reducible refine (usherref3_Escape.calls k1 ((rd_T29 l0 x4_1).f0) true t236 _ A6.out).mono ?_); rintro e w12 ⟨rfl, hb⟩; refine ⟨_, rfl, ?_⟩; have n0_ := Aside0.mk (Kd.R_below (by (with_reducible repeat (first | apply Kd.R_alloc | apply Kd.R_drewN | apply Kd.R_drew)); exact HO234.out) hb); have n1_ := Aside0.mk (below_step (by repeat (first | (with_reducible first | exact HB.out | apply below_alloc | apply pw_below_drewN | apply below_drew1) | exact HB.out)) hb); clear HO234; clear HB; have HO234 := n0_; have HB := n1_; clear n0_ n1_; (try clear hb); (try clear hb2); (try clear hk); (try clear hi); have p237 : 0 ≤ (x4_1 : Int) := of_decide_eq_true (by first | (with_reducible assumption) | assumption); have q237 : x4_1 < (l0.length : Int) := of_decide_eq_true (by first | (with_reducible assumption) | assumption); obtain ⟨ad237, e237, hx237_0, hx237_1⟩ := at_T29 HR0.out x4_1 p237 q237; obtain rfl : ad235 = ad237 := (by injection e237); replace hx237_0 := (HB.out.cell (World.block_lt_of_cell? w _ hx237_0)).trans hx237_0; replace hx237_1 := (HB.out.cell (World.block_lt_of_cell? w _ hx237_1)).trans hx237_1; replace p237 := eq_true p237; replace q237 := eq_true q237) | ((with_reducible refine gate_callee (f := 63) rfl ?_); refine goesL_ (some 29) rfl rfl Tryd.func63 (by kernel_rfl) rfl #[.string ((rd_T29 l0 x4_1).f1), .bool true] rfl (by (try simp only [List.map_toArray, List.map_cons, List.map_nil]); first | done | rfl | (simp only [List.length_drop, List.length_take]; rfl)) ?_; (with_reducible refine (usherref3_Escape.calls k1 ((rd_T29 l0 x4_1).f1) true t238 _ A7.out).mono ?_); rintro e w13 ⟨rfl, hb⟩; refine ⟨_, rfl, ?_⟩; have n0_ := Aside0.mk (Kd.R_below (by (with_reducible repeat (first | apply Kd.R_alloc | apply Kd.R_drewN | apply Kd.R_drew)); exact HO234.out) hb); have n1_ := Aside0.mk (below_step (by repeat (first | (with_reducible first | exact HB.out | apply below_alloc | apply pw_below_drewN | apply below_drew1) | exact HB.out)) hb); clear HO234; clear HB; have HO234 := n0_; have HB := n1_; clear n0_ n1_; (try clear hb); (try clear hb2); (try clear hk); (try clear hi)) | (at_builtin; refine print_append_str (w0 := w) w.heap.size rfl (.tmp 30) _ 69 9 5 rfl Tryd.underlying69 Tryd.underlying9 info5 v233 y232 t236 rfl rfl ?aO ?aB ?aS ?aL ?_; (case aB => exact (by repeat (first | (with_reducible first | exact HB.out | apply below_alloc | apply pw_below_drewN | apply below_drew1) | exact HB.out))); (case aO => exact (Kd.own_of_R (by (with_reducible repeat (first | apply Kd.R_alloc | apply Kd.R_drewN | apply Kd.R_drew)); exact HO234.out))); (case aS => exact (below_size (by repeat (first | (with_reducible first | exact HB.out | apply below_alloc | apply pw_below_drewN | apply below_drew1) | exact HB.out)))); (case aL => have := LMc8.out; omega); intro v240 w14 ho0 hb hg; have ho := Kd.R_of_own (h1 := fun _ => rfl) (ok := fun _ => True) ho0 (fun _ _ => trivial); clear ho0; have hat := True.intro; rw [← Ny239.out] at ho; change Kd.R (Kd.int .u8) 5 w14 w.heap.size (fun _ => True) v240 y239 at ho; have n0_ := Aside0.mk (hb); have n1_ := Aside0.mk (ho); clear HB; clear HO234; have HB := n0_; have HO241 := n1_; clear n0_ n1_; clear ho hb hg hat) | ((with_reducible refine gate_builtin (b := .append) (xs := #[.tmp 33, .tmp 34]) rfl ?_); at_builtin; refine Kd.R_append (Kd.int .u8) (w0 := w) w.heap.size rfl (.tmp 33) (.tmp 34) 69 5 (.int .u8 0) 1 rfl Tryd.underlying69 info5 rfl (by decide) (by omega) v240 y239 61 [.int .u8 61] (fun _ => True) (fun _ => False) rfl rfl ?aP (fun _ hk => hk.elim) ?aF ?aO ?aB ?aS ?aL ?_; (case aP => exact rfl); (case aB => exact (by repeat (first | (with_reducible first | exact HB.out | apply below_alloc | apply pw_below_drewN | apply below_drew1) | exact HB.out))); (case aF => exact (fun _ _ => trivial)); (case aO => exact (by (with_reducible repeat (first | apply Kd.R_alloc | apply Kd.R_drewN | apply Kd.R_drew)); exact HO241.out)); (case aS => exact (below_size (by repeat (first | (with_reducible first | exact HB.out | apply below_alloc | apply pw_below_drewN | apply below_drew1) | exact HB.out)))); (case aL => have := LMc9.out; omega); intro v243 w15 ho hb hg hat; rw [← Ny242.out] at ho; have n0_ := Aside0.mk (hb); have n1_ := Aside0.mk (ho); clear HB; clear HO241; have HB := n0_; have HO244 := n1_; clear n0_ n1_; clear ho hb hg hat) | (at_builtin; refine print_append_str (w0 := w) w.heap.size rfl (.tmp 36) _ 69 9 5 rfl Tryd.underlying69 Tryd.underlying9 info5 v243 y242 t238 rfl rfl ?aO ?aB ?aS ?aL ?_; (case aB => exact (by repeat (first | (with_reducible first | exact HB.out | apply below_alloc | apply pw_below_drewN | apply below_drew1) | exact HB.out))); (case aO => exact (Kd.own_of_R (by (with_reducible repeat (first | apply Kd.R_alloc | apply Kd.R_drewN | apply Kd.R_drew)); exact HO244.out))); (case aS => exact (below_size (by repeat (first | (with_reducible first | exact HB.out | apply below_alloc | apply pw_below_drewN | apply below_drew1) | exact HB.out)))); (case aL => have := LMc10.out; omega); intro v246 w16 ho0 hb hg; have ho := Kd.R_of_own (h1 := fun _ => rfl) (ok := fun _ => True) ho0 (fun _ _ => trivial); clear ho0; have hat := True.intro; rw [← Ny245.out] at ho; change Kd.R (Kd.int .u8) 5 w16 w.heap.size (fun _ => True) v246 y245 at ho; have n0_ := Aside0.mk (hb); have n1_ := Aside0.mk (ho); clear HB; clear HO244; have HB := n0_; have HO247 := n1_; clear n0_ n1_; clear ho hb hg hat))
          go_roundg k1
          case measure => have := HK1.out; omega
          case rel => exact ⟨(y245), (wrap64 (x4_1 + 1)), (by first | rfl | (simp; done) | (simp [*]; done) | (simp [bne]; done)), H', ⟨by have := HK1.out; omega⟩, ⟨by (with_reducible repeat (first | apply Kd.R_alloc | apply Kd.R_drewN | apply Kd.R_drew)); exact HO247.out⟩, ⟨by repeat (first | (with_reducible first | exact HB.out | apply below_alloc | apply pw_below_drewN | apply below_drew1) | exact HB.out)⟩⟩
         ·rw [if_neg c10] at H
          exact absurd H (by simp)
        ·rw [if_neg c9] at H
         exact absurd H (by simp)
       ·rw [if_neg c8] at H
        exact absurd H (by simp)
      ·rw [if_neg c5] at H
       exact absurd H (by simp)
     ·rw [if_neg c4] at H
      exact absurd H (by simp)
    ·rw [if_neg c3] at H
     have c3b0 : decide (0 < x4_1) = false := decide_eq_false c3
     clear c3
     by_cases c17 : 0 ≤ x4_1
     ·rw [if_pos c17] at H
      have c17b0 : decide (0 ≤ x4_1) = true := decide_eq_true c17
      clear c17
      replace H := Option.bind_eq_some_iff.mp H
      obtain ⟨t249, A180, H⟩ := H
      replace H : ((usherref3_Escape.f k1 ((rd_T29 l0 x4_1).f1) true).bind fun t251 => (if x3_1.length + t249.size < 140737488355328 then ((some (x3_1 ++ bytesOf t249 : List Int)).bind fun y252 => (if y252.length < 140737488355328 then ((some (y252 ++ [61] : List Int)).bind fun y255 => (if y255.length + t251.size < 140737488355328 then (usherref3_Form.l0 k1 l0 (y255 ++ bytesOf t251) (wrap64 (x4_1 + 1))) else (none))) else (none))) else (none))) = some r := H
      have A18 := Aside0.mk A180
      clear A180
      replace H := Option.bind_eq_some_iff.mp H
      obtain ⟨t251, A190, H⟩ := H
      replace H : (if x3_1.length + t249.size < 140737488355328 then ((some (x3_1 ++ bytesOf t249 : List Int)).bind fun y252 => (if y252.length < 140737488355328 then ((some (y252 ++ [61] : List Int)).bind fun y255 => (if y255.length + t251.size < 140737488355328 then (usherref3_Form.l0 k1 l0 (y255 ++ bytesOf t251) (wrap64 (x4_1 + 1))) else (none))) else (none))) else (none)) = some r := H
      have A19 := Aside0.mk A190
      clear A190
      by_cases c20 : x3_1.length + t249.size < 140737488355328
      ·rw [if_pos c20] at H
       have LMc20 := Aside0.mk c20
       clear c20
       obtain ⟨y252, hy252⟩ : ∃ y_ : List Int, y_ = (x3_1 ++ bytesOf t249) := ⟨_, rfl⟩
       replace H : (if y252.length < 140737488355328 then ((some (y252 ++ [61] : List Int)).bind fun y255 => (if y255.length + t251.size < 140737488355328 then (usherref3_Form.l0 k1 l0 (y255 ++ bytesOf t251) (wrap64 (x4_1 + 1))) else (none))) else (none)) = some r := by first | (rw [hy252]; with_reducible exact H) | (have H2_ := (Option.bind_some _ _).symm.trans H; rw [hy252]; with_reducible exact H2_) | (have H2_ := (Option.bind_some _ _).symm.trans H; with_reducible exact H2_) | with_reducible exact H | (rw [hy252]; exact H) | exact H
       have Ny252 := Aside0.mk hy252
       clear hy252
       by_cases c21 : y252.length < 140737488355328
       ·rw [if_pos c21] at H
        have LMc21 := Aside0.mk c21
        clear c21
        obtain ⟨y255, hy255⟩ : ∃ y_ : List Int, y_ = (y252 ++ [61]) := ⟨_, rfl⟩
        replace H : (if y255.length + t251.size < 140737488355328 then (usherref3_Form.l0 k1 l0 (y255 ++ bytesOf t251) (wrap64 (x4_1 + 1))) else (none)) = some r := by first | (rw [hy255]; with_reducible exact H) | (have H2_ := (Option.bind_some _ _).symm.trans H; rw [hy255]; with_reducible exact H2_) | (have H2_ := (Option.bind_some _ _).symm.trans H; with_reducible exact H2_) | with_reducible exact H | (rw [hy255]; exact H) | exact H
        have Ny255 := Aside0.mk hy255
        clear hy255
        by_cases c22 : y255.length + t251.size < 140737488355328
        ·rw [if_pos c22] at H
         have LMc22 := Aside0.mk c22
         clear c22
         obtain ⟨y258, hy258⟩ : ∃ y_ : List Int, y_ = (y255 ++ bytesOf t251) := ⟨_, rfl⟩
         replace H : (usherref3_Form.l0 k1 l0 y258 (wrap64 (x4_1 + 1))) = some r := by first | (rw [hy258]; with_reducible exact H) | (have H2_ := (Option.bind_some _ _).symm.trans H; rw [hy258]; with_reducible exact H2_) | (have H2_ := (Option.bind_some _ _).symm.trans H; with_reducible exact H2_) | with_reducible exact H | (rw [hy258]; exact H) | exact H
         have Ny258 := Aside0.mk hy258
         clear hy258
         have H' := Aside0.mk H
         clear H
         have p248 : 0 ≤ (x4_1 : Int) := of_decide_eq_true (by first | (with_reducible assumption) | assumption)
         have q248 : x4_1 < (l0.length : Int) := of_decide_eq_true (by first | (with_reducible assumption) | assumption)
         obtain ⟨ad248, e248, hx248_0, hx248_1⟩ := at_T29 HR0.out x4_1 p248 q248
         cases e248
         replace hx248_0 := (HB.out.cell (World.block_lt_of_cell? w _ hx248_0)).trans hx248_0
         replace hx248_1 := (HB.out.cell (World.block_lt_of_cell? w _ hx248_1)).trans hx248_1
         replace p248 := eq_true p248
         replace q248 := eq_true q248
         go_wp2_with (first | ((with_reducible refine gate_callee (f := 63) rfl ?_); refine goesL_ (some 23) rfl rfl Tryd.func63 (by kernel_rfl) rfl #[.string ((rd_T29 l0 x4_1).f0), .bool true] rfl (by (try simp only [List.map_toArray, List.map_cons, List.map_nil]); first | done | rfl | (simp only [List.length_drop, List.length_take]; rfl)) ?_; (with_reducible refine (usherref3_Escape.calls k1 ((rd_T29 l0 x4_1).f0) true t249 _ A18.out).mono ?_); rintro e w23 ⟨rfl, hb⟩; refine ⟨_, rfl, ?_⟩; have n0_ := Aside0.mk (Kd.R_below (by (with_reducible repeat (first | apply Kd.R_alloc | apply Kd.R_drewN | apply Kd.R_drew)); exact HO_3.out) hb); have n1_ := Aside0.mk (below_step (by repeat (first | (with_reducible first | exact HB.out | apply below_alloc | apply pw_below_drewN | apply below_drew1) | exact HB.out)) hb); clear HO_3; clear HB; have HO_3 := n0_; have HB := n1_; clear n0_ n1_; (try clear hb); (try clear hb2); (try clear hk); (try clear hi); have p250 : 0 ≤ (x4_1 : Int) := of_decide_eq_true (by first | (with_reducible assumption) | assumption); have q250 : x4_1 < (l0.length : Int) := of_decide_eq_true (by first | (with_reducible assumption) | assumption); obtain ⟨ad250, e250, hx250_0, hx250_1⟩ := at_T29 HR0.out x4_1 p250 q250; obtain rfl : ad248 = ad250 := (by injection e250); replace hx250_0 := (HB.out.cell (World.block_lt_of_cell? w _ hx250_0)).trans hx250_0; replace hx250_1 := (HB.out.cell (World.block_lt_of_cell? w _ hx250_1)).trans hx250_1; replace p250 := eq_true p250; replace q250 := eq_true q250) | ((with_reducible refine gate_callee (f := 63) rfl ?_); refine goesL_ (some 29) rfl rfl Tryd.func63 (by kernel_rfl) rfl #[.string ((rd_T29 l0 x4_1).f1), .bool true] rfl (by (try simp only [List.map_toArray, List.map_cons, List.map_nil]); first | done | rfl | (simp only [List.length_drop, List.length_take]; rfl)) ?_; (with_reducible refine (usherref3_Escape.calls k1 ((rd_T29 l0 x4_1).f1) true t251 _ A19.out).mono ?_); rintro e w24 ⟨rfl, hb⟩; refine ⟨_, rfl, ?_⟩; have n0_ := Aside0.mk (Kd.R_below (by (with_reducible repeat (first | apply Kd.R_alloc | apply Kd.R_drewN | apply Kd.R_drew)); exact HO_3.out) hb); have n1_ := Aside0.mk (below_step (by repeat (first | (with_reducible first | exact HB.out | apply below_alloc | apply pw_below_drewN | apply below_drew1) | exact HB.out)) hb); clear HO_3; clear HB; have HO_3 := n0_; have HB := n1_; clear n0_ n1_; (try clear hb); (try clear hb2); (try clear hk); (try clear hi)) | (at_builtin; refine print_append_str (w0 := w) w.heap.size rfl (.tmp 30) _ 69 9 5 rfl Tryd.underlying69 Tryd.underlying9 info5 u3 x3_1 t249 rfl rfl ?aO ?aB ?aS ?aL ?_; (case aB => exact (by repeat (first | (with_reducible first | exact HB.out | apply below_alloc | apply pw_below_drewN | apply below_drew1) | exact HB.out))); (case aO => exact (Kd.own_of_R (by (with_reducible repeat (first | apply Kd.R_alloc | apply Kd.R_drewN | apply Kd.R_drew)); exact HO_3.out))); (case aS => exact (below_size (by repeat (first | (with_reducible first | exact HB.out | apply below_alloc | apply pw_below_drewN | apply below_drew1) | exact HB.out)))); (case aL => have := LMc20.out; omega); intro v253 w25 ho0 hb hg; have ho := Kd.R_of_own (h1 := fun _ => rfl) (ok := fun _ => True) ho0 (fun _ _ => trivial); clear ho0; have hat := True.intro; rw [← Ny252.out] at ho; change Kd.R (Kd.int .u8) 5 w25 w.heap.size (fun _ => True) v253 y252 at ho; have n0_ := Aside0.mk (hb); have n1_ := Aside0.mk (ho); clear HB; clear HO_3; have HB := n0_; have HO254 := n1_; clear n0_ n1_; clear ho hb hg hat) | ((with_reducible refine gate_builtin (b := .append) (xs := #[.tmp 33, .tmp 34]) rfl ?_); at_builtin; refine Kd.R_append (Kd.int .u8) (w0 := w) w.heap.size rfl (.tmp 33) (.tmp 34) 69 5 (.int .u8 0) 1 rfl Tryd.underlying69 info5 rfl (by decide) (by omega) v253 y252 61 [.int .u8 61] (fun _ => True) (fun _ => False) rfl rfl ?aP (fun _ hk => hk.elim) ?aF ?aO ?aB ?aS ?aL ?_; (case aP => exact rfl); (case aB => exact (by repeat (first | (with_reducible first | exact HB.out | apply below_alloc | apply pw_below_drewN | apply below_drew1) | exact HB.out))); (case aF => exact (fun _ _ => trivial)); (case aO => exact (by (with_reducible repeat (first | apply Kd.R_alloc | apply Kd.R_drewN | apply Kd.R_drew)); exact HO254.out)); (case aS => exact (below_size (by repeat (first | (with_reducible first | exact HB.out | apply below_alloc | apply pw_below_drewN | apply below_drew1) | exact HB.out)))); (case aL => have := LMc21.out; omega); intro v256 w26 ho hb hg hat; rw [← Ny255.out] at ho; have n0_ := Aside0.mk (hb); have n1_ := Aside0.mk (ho); clear HB; clear HO254; have HB := n0_; have HO257 := n1_; clear n0_ n1_; clear ho hb hg hat) | (at_builtin; refine print_append_str (w0 := w) w.heap.size rfl (.tmp 36) _ 69 9 5 rfl Tryd.underlying69 Tryd.underlying9 info5 v256 y255 t251 rfl rfl ?aO ?aB ?aS ?aL ?_; (case aB => exact (by repeat (first | (with_reducible first | exact HB.out | apply below_alloc | apply pw_below_drewN | apply below_drew1) | exact HB.out))); (case aO => exact (Kd.own_of_R (by (with_reducible repeat (first | apply Kd.R_alloc | apply Kd.R_drewN | apply Kd.R_drew)); exact HO257.out))); (case aS => exact (below_size (by repeat (first | (with_reducible first | exact HB.out | apply below_alloc | apply pw_below_drewN | apply below_drew1) | exact HB.out)))); (case aL => have := LMc22.out; omega); intro v259 w27 ho0 hb hg; have ho := Kd.R_of_own (h1 := fun _ => rfl) (ok := fun _ => True) ho0 (fun _ _ => trivial); clear ho0; have hat := True.intro; rw [← Ny258.out] at ho; change Kd.R (Kd.int .u8) 5 w27 w.heap.size (fun _ => True) v259 y258 at ho; have n0_ := Aside0.mk (hb); have n1_ := Aside0.mk (ho); clear HB; clear HO257; have HB := n0_; have HO260 := n1_; clear n0_ n1_; clear ho hb hg hat))
         go_roundg k1
         case measure => have := HK1.out; omega
         case rel => exact ⟨(y258), (wrap64 (x4_1 + 1)), (by first | rfl | (simp; done) | (simp [*]; done) | (simp [bne]; done)), H', ⟨by have := HK1.out; omega⟩, ⟨by (with_reducible repeat (first | apply Kd.R_alloc | apply Kd.R_drewN | apply Kd.R_drew)); exact HO260.out⟩, ⟨by repeat (first | (with_reducible first | exact HB.out | apply below_alloc | apply pw_below_drewN | apply below_drew1) | exact HB.out)⟩⟩
        ·rw [if_neg c22] at H
         exact absurd H (by simp)
       ·rw [if_neg c21] at H
        exact absurd H (by simp)
      ·rw [if_neg c20] at H
       exact absurd H (by simp)
     ·rw [if_neg c17] at H
      exact absurd H (by simp)
   ·rw [if_neg c2] at H
    have c2b0 : decide (x4_1 < (l0.length : Int)) = false := decide_eq_false c2
    clear c2
    obtain rfl := Option.some.inj H
    have hcv28 := own_string (P := Tryd.prog) Tryd.underlying69 Tryd.underlying5 Tryd.underlying9 (Kd.own_of_R HO_3.out)
    go_wp2
    go_ret
    exact ⟨by first | rfl | (simp [errW_none, errW_some] <;> rfl) | (simp [*, errW_none, errW_some] <;> rfl), by repeat (first | (with_reducible first | exact HB.out | apply below_alloc | apply pw_below_drewN | apply below_drew1) | exact HB.out)⟩

/-! ### usherref9_Answer: function 17 -/
def usherref9_Answer.f (k : Nat) (a0 : ByteArray) (l1 : List (S29)) : Option (ByteArray × Int) := (usherref9_Redirect.f k a0).bind fun t261 => (if t261 = true then (if (l1.length : Int) > 32 then (some ((⟨#[]⟩ : ByteArray), 3)) else (if (l1.length : Int) = 0 then (some (a0, 0)) else ((usherref9_Split.f k a0).bind fun bt262 => (if bt262.2.2 = true then (if bt262.2.1.toList = ([] : List UInt8) then ((usherref3_Form.f k l1).bind fun t265 => (if a0.size + 0 ≤ 9223372036854775807 then (if (a0 ++ (⟨#[]⟩ : ByteArray)).size + t265.size ≤ 9223372036854775807 then (some ((a0 ++ (⟨#[]⟩ : ByteArray)) ++ t265, 0)) else (none)) else (none))) else ((usherref3_Form.f k l1).bind fun t266 => (if a0.size + 1 ≤ 9223372036854775807 then (if (a0 ++ (⟨#[38]⟩ : ByteArray)).size + t266.size ≤ 9223372036854775807 then (some ((a0 ++ (⟨#[38]⟩ : ByteArray)) ++ t266, 0)) else (none)) else (none)))) else ((usherref3_Form.f k l1).bind fun t267 => (if a0.size + 1 ≤ 9223372036854775807 then (if (a0 ++ (⟨#[63]⟩ : ByteArray)).size + t267.size ≤ 9223372036854775807 then (some ((a0 ++ (⟨#[63]⟩ : ByteArray)) ++ t267, 0)) else (none)) else (none))))))) else (some ((⟨#[]⟩ : ByteArray), 2)))
theorem usherref9_Answer.mono : ∀ a0 a1 k, LeO (usherref9_Answer.f k a0 a1) (usherref9_Answer.f (k + 1) a0 a1) := by
 intro a0 a1 k
 unfold usherref9_Answer.f
 repeat' first
   | (with_reducible exact usherref3_Form.mono _ _)
   | (with_reducible exact usherref9_Redirect.mono _ _)
   | (with_reducible exact usherref9_Split.mono _ _)
   | (with_reducible exact LeO.refl _)
   | (with_reducible exact LeO.none _)
   | (with_reducible refine LeO.ite ?_ ?_)
   | (with_reducible refine LeO.bind ?_ (fun _ => ?_))
   | exact usherref3_Form.mono _ _
   | exact usherref9_Redirect.mono _ _
   | exact usherref9_Split.mono _ _
   | exact LeO.none _
   | refine LeO.ite ?_ ?_
   | refine LeO.bind ?_ (fun _ => ?_)
set_option maxHeartbeats 8000000 in
set_option maxRecDepth 100000 in
theorem usherref9_Answer.calls (k : Nat) (a0 : ByteArray) (A1 : Option Addr) (c1 : Nat) (l1 : List (S29)) (r1 : ByteArray) (r2 : Int) (w : World) (hr1 : Kd.C k29 w A1 l1.length l1) (hc1 : l1.length ≤ c1) (h : usherref9_Answer.f k a0 l1 = some (r1, r2)) :
  Calls Tryd.prog 17 #[.string a0, .slice A1 l1.length c1] w fun e w' => e = .returned (.tuple #[.string r1, .int .i64 r2]) ∧ Below w.heap.size w w' := by
 have HR1 := Aside0.mk hr1
 have HC1 := Aside0.mk hc1
 clear hr1 hc1
 have HB := Aside0.mk (Below.refl w.heap.size w)
 have H : ((usherref9_Redirect.f k a0).bind fun t261 => (if t261 = true then (if (l1.length : Int) > 32 then (some ((⟨#[]⟩ : ByteArray), 3)) else (if (l1.length : Int) = 0 then (some (a0, 0)) else ((usherref9_Split.f k a0).bind fun bt262 => (if bt262.2.2 = true then (if bt262.2.1.toList = ([] : List UInt8) then ((usherref3_Form.f k l1).bind fun t265 => (if a0.size + 0 ≤ 9223372036854775807 then (if (a0 ++ (⟨#[]⟩ : ByteArray)).size + t265.size ≤ 9223372036854775807 then (some ((a0 ++ (⟨#[]⟩ : ByteArray)) ++ t265, 0)) else (none)) else (none))) else ((usherref3_Form.f k l1).bind fun t266 => (if a0.size + 1 ≤ 9223372036854775807 then (if (a0 ++ (⟨#[38]⟩ : ByteArray)).size + t266.size ≤ 9223372036854775807 then (some ((a0 ++ (⟨#[38]⟩ : ByteArray)) ++ t266, 0)) else (none)) else (none)))) else ((usherref3_Form.f k l1).bind fun t267 => (if a0.size + 1 ≤ 9223372036854775807 then (if (a0 ++ (⟨#[63]⟩ : ByteArray)).size + t267.size ≤ 9223372036854775807 then (some ((a0 ++ (⟨#[63]⟩ : ByteArray)) ++ t267, 0)) else (none)) else (none))))))) else (some ((⟨#[]⟩ : ByteArray), 2)))) = some (r1, r2) := h
 clear h
 replace H := Option.bind_eq_some_iff.mp H
 obtain ⟨t261, A30, H⟩ := H
 replace H : (if t261 = true then (if (l1.length : Int) > 32 then (some ((⟨#[]⟩ : ByteArray), 3)) else (if (l1.length : Int) = 0 then (some (a0, 0)) else ((usherref9_Split.f k a0).bind fun bt262 => (if bt262.2.2 = true then (if bt262.2.1.toList = ([] : List UInt8) then ((usherref3_Form.f k l1).bind fun t265 => (if a0.size + 0 ≤ 9223372036854775807 then (if (a0 ++ (⟨#[]⟩ : ByteArray)).size + t265.size ≤ 9223372036854775807 then (some ((a0 ++ (⟨#[]⟩ : ByteArray)) ++ t265, 0)) else (none)) else (none))) else ((usherref3_Form.f k l1).bind fun t266 => (if a0.size + 1 ≤ 9223372036854775807 then (if (a0 ++ (⟨#[38]⟩ : ByteArray)).size + t266.size ≤ 9223372036854775807 then (some ((a0 ++ (⟨#[38]⟩ : ByteArray)) ++ t266, 0)) else (none)) else (none)))) else ((usherref3_Form.f k l1).bind fun t267 => (if a0.size + 1 ≤ 9223372036854775807 then (if (a0 ++ (⟨#[63]⟩ : ByteArray)).size + t267.size ≤ 9223372036854775807 then (some ((a0 ++ (⟨#[63]⟩ : ByteArray)) ++ t267, 0)) else (none)) else (none))))))) else (some ((⟨#[]⟩ : ByteArray), 2))) = some (r1, r2) := H
 have A3 := Aside0.mk A30
 clear A30
 by_cases c4 : t261 = true
 ·subst c4
  have H1 : (if (l1.length : Int) > 32 then (some ((⟨#[]⟩ : ByteArray), 3)) else (if (l1.length : Int) = 0 then (some (a0, 0)) else ((usherref9_Split.f k a0).bind fun bt262 => (if bt262.2.2 = true then (if bt262.2.1.toList = ([] : List UInt8) then ((usherref3_Form.f k l1).bind fun t265 => (if a0.size + 0 ≤ 9223372036854775807 then (if (a0 ++ (⟨#[]⟩ : ByteArray)).size + t265.size ≤ 9223372036854775807 then (some ((a0 ++ (⟨#[]⟩ : ByteArray)) ++ t265, 0)) else (none)) else (none))) else ((usherref3_Form.f k l1).bind fun t266 => (if a0.size + 1 ≤ 9223372036854775807 then (if (a0 ++ (⟨#[38]⟩ : ByteArray)).size + t266.size ≤ 9223372036854775807 then (some ((a0 ++ (⟨#[38]⟩ : ByteArray)) ++ t266, 0)) else (none)) else (none)))) else ((usherref3_Form.f k l1).bind fun t267 => (if a0.size + 1 ≤ 9223372036854775807 then (if (a0 ++ (⟨#[63]⟩ : ByteArray)).size + t267.size ≤ 9223372036854775807 then (some ((a0 ++ (⟨#[63]⟩ : ByteArray)) ++ t267, 0)) else (none)) else (none))))))) = some (r1, r2) := by rw [if_pos rfl] at H; exact H
  clear H
  have H := H1
  clear H1
  by_cases c5 : (l1.length : Int) > 32
  ·rw [if_pos c5] at H
   have c5b0 : decide (32 < (l1.length : Int)) = true := decide_eq_true c5
   have c5b1 : decide (32 < l1.length) = true := decide_eq_true (by omega)
   clear c5
   simp only [Option.some.injEq, Prod.mk.injEq] at H
   obtain ⟨rfl, rfl⟩ := H
   go_enter Tryd.func17, Tryd.ntmps17
   go_wp2_with (first | ((with_reducible refine gate_callee (f := 12) rfl ?_); refine goesL_ (some 13) rfl rfl Tryd.func12 (by kernel_rfl) rfl #[.string a0] rfl (by (try simp only [List.map_toArray, List.map_cons, List.map_nil]); first | done | rfl | (simp only [List.length_drop, List.length_take]; rfl)) ?_; (with_reducible refine (usherref9_Redirect.calls k a0 true _ A3.out).mono ?_); rintro e w' ⟨rfl, ⟨nd, rfl⟩⟩; refine ⟨_, rfl, ?_⟩))
   go_ret2
   exact ⟨by first | rfl | (simp [errW_none, errW_some] <;> rfl) | (simp [*, errW_none, errW_some] <;> rfl), by repeat (first | (with_reducible first | exact HB.out | apply below_alloc | apply pw_below_drewN | apply below_drew1) | exact HB.out)⟩
  ·rw [if_neg c5] at H
   have c5b0 : decide (32 < (l1.length : Int)) = false := decide_eq_false c5
   have c5b1 : decide (32 < l1.length) = false := decide_eq_false (by omega)
   clear c5
   by_cases c6 : (l1.length : Int) = 0
   ·rw [if_pos c6] at H
    have c6b0 : ((l1.length : Int) == 0) = true := beq_iff_eq.mpr c6
    have c6b1 : ((l1.length : Int) != 0) = false := bne_eq_false_iff_eq.mpr c6
    clear c6
    simp only [Option.some.injEq, Prod.mk.injEq] at H
    obtain ⟨rfl, rfl⟩ := H
    go_enter Tryd.func17, Tryd.ntmps17
    go_wp2_with (first | ((with_reducible refine gate_callee (f := 12) rfl ?_); refine goesL_ (some 13) rfl rfl Tryd.func12 (by kernel_rfl) rfl #[.string a0] rfl (by (try simp only [List.map_toArray, List.map_cons, List.map_nil]); first | done | rfl | (simp only [List.length_drop, List.length_take]; rfl)) ?_; (with_reducible refine (usherref9_Redirect.calls k a0 true _ A3.out).mono ?_); rintro e w' ⟨rfl, ⟨nd, rfl⟩⟩; refine ⟨_, rfl, ?_⟩))
    go_ret2
    exact ⟨by first | rfl | (simp [errW_none, errW_some] <;> rfl) | (simp [*, errW_none, errW_some] <;> rfl), by repeat (first | (with_reducible first | exact HB.out | apply below_alloc | apply pw_below_drewN | apply below_drew1) | exact HB.out)⟩
   ·rw [if_neg c6] at H
    have c6b0 : ((l1.length : Int) == 0) = false := beq_eq_false_iff_ne.mpr c6
    have c6b1 : ((l1.length : Int) != 0) = true := bne_iff_ne.mpr c6
    have c6b2 : ¬ (l1 = []) := fun h_ => c6 (by rw [h_]; rfl)
    replace H := Option.bind_eq_some_iff.mp H
    obtain ⟨⟨t262, t263, t264⟩, A70, H⟩ := H
    replace H : (if t264 = true then (if t263.toList = ([] : List UInt8) then ((usherref3_Form.f k l1).bind fun t265 => (if a0.size + 0 ≤ 9223372036854775807 then (if (a0 ++ (⟨#[]⟩ : ByteArray)).size + t265.size ≤ 9223372036854775807 then (some ((a0 ++ (⟨#[]⟩ : ByteArray)) ++ t265, 0)) else (none)) else (none))) else ((usherref3_Form.f k l1).bind fun t266 => (if a0.size + 1 ≤ 9223372036854775807 then (if (a0 ++ (⟨#[38]⟩ : ByteArray)).size + t266.size ≤ 9223372036854775807 then (some ((a0 ++ (⟨#[38]⟩ : ByteArray)) ++ t266, 0)) else (none)) else (none)))) else ((usherref3_Form.f k l1).bind fun t267 => (if a0.size + 1 ≤ 9223372036854775807 then (if (a0 ++ (⟨#[63]⟩ : ByteArray)).size + t267.size ≤ 9223372036854775807 then (some ((a0 ++ (⟨#[63]⟩ : ByteArray)) ++ t267, 0)) else (none)) else (none)))) = some (r1, r2) := H
    have A7 := Aside0.mk A70
    clear A70
    by_cases c8 : t264 = true
    ·subst c8
     have H1 : (if t263.toList = ([] : List UInt8) then ((usherref3_Form.f k l1).bind fun t265 => (if a0.size + 0 ≤ 9223372036854775807 then (if (a0 ++ (⟨#[]⟩ : ByteArray)).size + t265.size ≤ 9223372036854775807 then (some ((a0 ++ (⟨#[]⟩ : ByteArray)) ++ t265, 0)) else (none)) else (none))) else ((usherref3_Form.f k l1).bind fun t266 => (if a0.size + 1 ≤ 9223372036854775807 then (if (a0 ++ (⟨#[38]⟩ : ByteArray)).size + t266.size ≤ 9223372036854775807 then (some ((a0 ++ (⟨#[38]⟩ : ByteArray)) ++ t266, 0)) else (none)) else (none)))) = some (r1, r2) := by rw [if_pos rfl] at H; exact H
     clear H
     have H := H1
     clear H1
     by_cases c9 : t263.toList = ([] : List UInt8)
     ·rw [if_pos c9] at H
      have c9b0 : (t263.toList == ([] : List UInt8)) = true := beq_iff_eq.mpr c9
      have c9b1 : (t263.toList != ([] : List UInt8)) = false := bne_eq_false_iff_eq.mpr c9
      clear c9
      replace H := Option.bind_eq_some_iff.mp H
      obtain ⟨t265, A100, H⟩ := H
      replace H : (if a0.size + 0 ≤ 9223372036854775807 then (if (a0 ++ (⟨#[]⟩ : ByteArray)).size + t265.size ≤ 9223372036854775807 then (some ((a0 ++ (⟨#[]⟩ : ByteArray)) ++ t265, 0)) else (none)) else (none)) = some (r1, r2) := H
      have A10 := Aside0.mk A100
      clear A100
      by_cases c11 : a0.size + 0 ≤ 9223372036854775807
      ·rw [if_pos c11] at H
       have c11b0 := eq_true c11
       have c11b1 : decide (a0.size + 0 ≤ 9223372036854775807) = true := decide_eq_true c11
       try have c11b2 : (9223372036854775807 < a0.size + 0) = False := eq_false (Nat.not_lt.2 c11)
       by_cases c12 : (a0 ++ (⟨#[]⟩ : ByteArray)).size + t265.size ≤ 9223372036854775807
       ·rw [if_pos c12] at H
        have c12b0 := eq_true c12
        have c12b1 : decide ((a0 ++ (⟨#[]⟩ : ByteArray)).size + t265.size ≤ 9223372036854775807) = true := decide_eq_true c12
        try have c12b2 : (9223372036854775807 < (a0 ++ (⟨#[]⟩ : ByteArray)).size + t265.size) = False := eq_false (Nat.not_lt.2 c12)
        simp only [Option.some.injEq, Prod.mk.injEq] at H
        obtain ⟨rfl, rfl⟩ := H
        go_enter Tryd.func17, Tryd.ntmps17
        go_wp2_with (first | ((with_reducible refine gate_callee (f := 12) rfl ?_); refine goesL_ (some 13) rfl rfl Tryd.func12 (by kernel_rfl) rfl #[.string a0] rfl (by (try simp only [List.map_toArray, List.map_cons, List.map_nil]); first | done | rfl | (simp only [List.length_drop, List.length_take]; rfl)) ?_; (with_reducible refine (usherref9_Redirect.calls k a0 true _ A3.out).mono ?_); rintro e w' ⟨rfl, ⟨nd, rfl⟩⟩; refine ⟨_, rfl, ?_⟩) | ((with_reducible refine gate_callee (f := 30) rfl ?_); refine goesL_ (some 25) rfl rfl Tryd.func30 (by kernel_rfl) rfl #[.string a0] rfl (by (try simp only [List.map_toArray, List.map_cons, List.map_nil]); first | done | rfl | (simp only [List.length_drop, List.length_take]; rfl)) ?_; (with_reducible refine (usherref9_Split.calls k a0 t262 t263 true _ A7.out).mono ?_); rintro e w' ⟨rfl, ⟨nd, rfl⟩⟩; refine ⟨_, rfl, ?_⟩) | ((with_reducible refine gate_callee (f := 36) rfl ?_); refine goesL_ (some 34) rfl rfl Tryd.func36 (by kernel_rfl) rfl #[.slice A1 l1.length c1] rfl (by (try simp only [List.map_toArray, List.map_cons, List.map_nil]); first | done | rfl | (simp only [List.length_drop, List.length_take]; rfl)) ?_; (with_reducible refine (usherref3_Form.calls k _ _ l1 t265 _ ?side1 ?side2 A10.out).mono ?_); (case side1 => repeat (first | exact HR1.out | (with_reducible refine Kd.C_alloc ?_ _) | (with_reducible refine Kd.C_drewN ?_ _) | (with_reducible refine Kd.C_drew ?_))); (case side2 => exact HC1.out); rintro e w13 ⟨rfl, hb⟩; refine ⟨_, rfl, ?_⟩; have n0_ := Aside0.mk (below_step (by repeat (first | (with_reducible first | exact HB.out | apply below_alloc | apply pw_below_drewN | apply below_drew1) | exact HB.out)) hb); clear HB; have HB := n0_; clear n0_; (try clear hb); (try clear hb2); (try clear hk); (try clear hi)))
        go_ret2
        exact ⟨by first | rfl | (simp [errW_none, errW_some] <;> rfl) | (simp [*, errW_none, errW_some] <;> rfl), by repeat (first | (with_reducible first | exact HB.out | apply below_alloc | apply pw_below_drewN | apply below_drew1) | exact HB.out)⟩
       ·rw [if_neg c12] at H
        exact absurd H (by simp)
      ·rw [if_neg c11] at H
       exact absurd H (by simp)
     ·rw [if_neg c9] at H
      have c9b0 : (t263.toList == ([] : List UInt8)) = false := beq_eq_false_iff_ne.mpr c9
      have c9b1 : (t263.toList != ([] : List UInt8)) = true := bne_iff_ne.mpr c9
      replace H := Option.bind_eq_some_iff.mp H
      obtain ⟨t266, A140, H⟩ := H
      replace H : (if a0.size + 1 ≤ 9223372036854775807 then (if (a0 ++ (⟨#[38]⟩ : ByteArray)).size + t266.size ≤ 9223372036854775807 then (some ((a0 ++ (⟨#[38]⟩ : ByteArray)) ++ t266, 0)) else (none)) else (none)) = some (r1, r2) := H
      have A14 := Aside0.mk A140
      clear A140
      by_cases c15 : a0.size + 1 ≤ 9223372036854775807
      ·rw [if_pos c15] at H
       have c15b0 := eq_true c15
       have c15b1 : decide (a0.size + 1 ≤ 9223372036854775807) = true := decide_eq_true c15
       try have c15b2 : (9223372036854775807 < a0.size + 1) = False := eq_false (Nat.not_lt.2 c15)
       by_cases c16 : (a0 ++ (⟨#[38]⟩ : ByteArray)).size + t266.size ≤ 9223372036854775807
       ·rw [if_pos c16] at H
        have c16b0 := eq_true c16
        have c16b1 : decide ((a0 ++ (⟨#[38]⟩ : ByteArray)).size + t266.size ≤ 9223372036854775807) = true := decide_eq_true c16
        try have c16b2 : (9223372036854775807 < (a0 ++ (⟨#[38]⟩ : ByteArray)).size + t266.size) = False := eq_false (Nat.not_lt.2 c16)
        simp only [Option.some.injEq, Prod.mk.injEq] at H
        obtain ⟨rfl, rfl⟩ := H
        go_enter Tryd.func17, Tryd.ntmps17
        go_wp2_with (first | ((with_reducible refine gate_callee (f := 12) rfl ?_); refine goesL_ (some 13) rfl rfl Tryd.func12 (by kernel_rfl) rfl #[.string a0] rfl (by (try simp only [List.map_toArray, List.map_cons, List.map_nil]); first | done | rfl | (simp only [List.length_drop, List.length_take]; rfl)) ?_; (with_reducible refine (usherref9_Redirect.calls k a0 true _ A3.out).mono ?_); rintro e w' ⟨rfl, ⟨nd, rfl⟩⟩; refine ⟨_, rfl, ?_⟩) | ((with_reducible refine gate_callee (f := 30) rfl ?_); refine goesL_ (some 25) rfl rfl Tryd.func30 (by kernel_rfl) rfl #[.string a0] rfl (by (try simp only [List.map_toArray, List.map_cons, List.map_nil]); first | done | rfl | (simp only [List.length_drop, List.length_take]; rfl)) ?_; (with_reducible refine (usherref9_Split.calls k a0 t262 t263 true _ A7.out).mono ?_); rintro e w' ⟨rfl, ⟨nd, rfl⟩⟩; refine ⟨_, rfl, ?_⟩) | ((with_reducible refine gate_callee (f := 36) rfl ?_); refine goesL_ (some 34) rfl rfl Tryd.func36 (by kernel_rfl) rfl #[.slice A1 l1.length c1] rfl (by (try simp only [List.map_toArray, List.map_cons, List.map_nil]); first | done | rfl | (simp only [List.length_drop, List.length_take]; rfl)) ?_; (with_reducible refine (usherref3_Form.calls k _ _ l1 t266 _ ?side1 ?side2 A14.out).mono ?_); (case side1 => repeat (first | exact HR1.out | (with_reducible refine Kd.C_alloc ?_ _) | (with_reducible refine Kd.C_drewN ?_ _) | (with_reducible refine Kd.C_drew ?_))); (case side2 => exact HC1.out); rintro e w17 ⟨rfl, hb⟩; refine ⟨_, rfl, ?_⟩; have n0_ := Aside0.mk (below_step (by repeat (first | (with_reducible first | exact HB.out | apply below_alloc | apply pw_below_drewN | apply below_drew1) | exact HB.out)) hb); clear HB; have HB := n0_; clear n0_; (try clear hb); (try clear hb2); (try clear hk); (try clear hi)))
        go_ret2
        exact ⟨by first | rfl | (simp [errW_none, errW_some] <;> rfl) | (simp [*, errW_none, errW_some] <;> rfl), by repeat (first | (with_reducible first | exact HB.out | apply below_alloc | apply pw_below_drewN | apply below_drew1) | exact HB.out)⟩
       ·rw [if_neg c16] at H
        exact absurd H (by simp)
      ·rw [if_neg c15] at H
       exact absurd H (by simp)
    ·replace c8 := Bool.eq_false_iff.mpr c8
     subst c8
     have H1 : ((usherref3_Form.f k l1).bind fun t267 => (if a0.size + 1 ≤ 9223372036854775807 then (if (a0 ++ (⟨#[63]⟩ : ByteArray)).size + t267.size ≤ 9223372036854775807 then (some ((a0 ++ (⟨#[63]⟩ : ByteArray)) ++ t267, 0)) else (none)) else (none))) = some (r1, r2) := by rw [if_neg (show ¬ (false = true) by decide)] at H; exact H
     clear H
     have H := H1
     clear H1
     replace H := Option.bind_eq_some_iff.mp H
     obtain ⟨t267, A180, H⟩ := H
     replace H : (if a0.size + 1 ≤ 9223372036854775807 then (if (a0 ++ (⟨#[63]⟩ : ByteArray)).size + t267.size ≤ 9223372036854775807 then (some ((a0 ++ (⟨#[63]⟩ : ByteArray)) ++ t267, 0)) else (none)) else (none)) = some (r1, r2) := H
     have A18 := Aside0.mk A180
     clear A180
     by_cases c19 : a0.size + 1 ≤ 9223372036854775807
     ·rw [if_pos c19] at H
      have c19b0 := eq_true c19
      have c19b1 : decide (a0.size + 1 ≤ 9223372036854775807) = true := decide_eq_true c19
      try have c19b2 : (9223372036854775807 < a0.size + 1) = False := eq_false (Nat.not_lt.2 c19)
      by_cases c20 : (a0 ++ (⟨#[63]⟩ : ByteArray)).size + t267.size ≤ 9223372036854775807
      ·rw [if_pos c20] at H
       have c20b0 := eq_true c20
       have c20b1 : decide ((a0 ++ (⟨#[63]⟩ : ByteArray)).size + t267.size ≤ 9223372036854775807) = true := decide_eq_true c20
       try have c20b2 : (9223372036854775807 < (a0 ++ (⟨#[63]⟩ : ByteArray)).size + t267.size) = False := eq_false (Nat.not_lt.2 c20)
       simp only [Option.some.injEq, Prod.mk.injEq] at H
       obtain ⟨rfl, rfl⟩ := H
       go_enter Tryd.func17, Tryd.ntmps17
       go_wp2_with (first | ((with_reducible refine gate_callee (f := 12) rfl ?_); refine goesL_ (some 13) rfl rfl Tryd.func12 (by kernel_rfl) rfl #[.string a0] rfl (by (try simp only [List.map_toArray, List.map_cons, List.map_nil]); first | done | rfl | (simp only [List.length_drop, List.length_take]; rfl)) ?_; (with_reducible refine (usherref9_Redirect.calls k a0 true _ A3.out).mono ?_); rintro e w' ⟨rfl, ⟨nd, rfl⟩⟩; refine ⟨_, rfl, ?_⟩) | ((with_reducible refine gate_callee (f := 30) rfl ?_); refine goesL_ (some 25) rfl rfl Tryd.func30 (by kernel_rfl) rfl #[.string a0] rfl (by (try simp only [List.map_toArray, List.map_cons, List.map_nil]); first | done | rfl | (simp only [List.length_drop, List.length_take]; rfl)) ?_; (with_reducible refine (usherref9_Split.calls k a0 t262 t263 false _ A7.out).mono ?_); rintro e w' ⟨rfl, ⟨nd, rfl⟩⟩; refine ⟨_, rfl, ?_⟩) | ((with_reducible refine gate_callee (f := 36) rfl ?_); refine goesL_ (some 34) rfl rfl Tryd.func36 (by kernel_rfl) rfl #[.slice A1 l1.length c1] rfl (by (try simp only [List.map_toArray, List.map_cons, List.map_nil]); first | done | rfl | (simp only [List.length_drop, List.length_take]; rfl)) ?_; (with_reducible refine (usherref3_Form.calls k _ _ l1 t267 _ ?side1 ?side2 A18.out).mono ?_); (case side1 => repeat (first | exact HR1.out | (with_reducible refine Kd.C_alloc ?_ _) | (with_reducible refine Kd.C_drewN ?_ _) | (with_reducible refine Kd.C_drew ?_))); (case side2 => exact HC1.out); rintro e w21 ⟨rfl, hb⟩; refine ⟨_, rfl, ?_⟩; have n0_ := Aside0.mk (below_step (by repeat (first | (with_reducible first | exact HB.out | apply below_alloc | apply pw_below_drewN | apply below_drew1) | exact HB.out)) hb); clear HB; have HB := n0_; clear n0_; (try clear hb); (try clear hb2); (try clear hk); (try clear hi)))
       go_ret2
       exact ⟨by first | rfl | (simp [errW_none, errW_some] <;> rfl) | (simp [*, errW_none, errW_some] <;> rfl), by repeat (first | (with_reducible first | exact HB.out | apply below_alloc | apply pw_below_drewN | apply below_drew1) | exact HB.out)⟩
      ·rw [if_neg c20] at H
       exact absurd H (by simp)
     ·rw [if_neg c19] at H
      exact absurd H (by simp)
 ·replace c4 := Bool.eq_false_iff.mpr c4
  subst c4
  have H1 : (some ((⟨#[]⟩ : ByteArray), 2)) = some (r1, r2) := by rw [if_neg (show ¬ (false = true) by decide)] at H; exact H
  clear H
  have H := H1
  clear H1
  simp only [Option.some.injEq, Prod.mk.injEq] at H
  obtain ⟨rfl, rfl⟩ := H
  go_enter Tryd.func17, Tryd.ntmps17
  go_wp2_with (first | ((with_reducible refine gate_callee (f := 12) rfl ?_); refine goesL_ (some 13) rfl rfl Tryd.func12 (by kernel_rfl) rfl #[.string a0] rfl (by (try simp only [List.map_toArray, List.map_cons, List.map_nil]); first | done | rfl | (simp only [List.length_drop, List.length_take]; rfl)) ?_; (with_reducible refine (usherref9_Redirect.calls k a0 false _ A3.out).mono ?_); rintro e w' ⟨rfl, ⟨nd, rfl⟩⟩; refine ⟨_, rfl, ?_⟩))
  go_ret2
  exact ⟨by first | rfl | (simp [errW_none, errW_some] <;> rfl) | (simp [*, errW_none, errW_some] <;> rfl), by repeat (first | (with_reducible first | exact HB.out | apply below_alloc | apply pw_below_drewN | apply below_drew1) | exact HB.out)⟩

end Go.Proofs.YtopfmcgmfnmikaaDoor.X
