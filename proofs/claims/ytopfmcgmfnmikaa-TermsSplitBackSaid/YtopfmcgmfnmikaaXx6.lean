-- Printed by a program of this session (wip/xprint), not by the kit's print.
import Derived.Test.YtopfmcgmfnmikaaXx0
import Derived.Test.YtopfmcgmfnmikaaXx5
namespace Go.Proofs.Ytopfmcgmfnmikaa.X
open Go.RowKit Go.Proofs.YtopfmcgmfnmikaaW.PrintWords Go.Proofs.YtopfmcgmfnmikaaW.PrintLast Go.Proofs.YtopfmcgmfnmikaaW.PrintMore
attribute [local go_sem] max2_int min2_int max_two min_two max_three min_three max_four min_four   -- for this text's walks alone
set_option linter.unusedVariables false
set_option linter.unusedSimpArgs false
open Go.Proofs.Ytopfmcgmfnmikaa
attribute [local go_sem] ErrBlk_alloc ErrBlk_drew ErrBlk_drewN
variable {EA : Int → Addr} {SS : List Int}

/-! ### usherlaw9_TermsSplitBack: function 8 -/
def usherlaw9_TermsSplitBack.l0 : Nat → ByteArray → ByteArray → ByteArray → Bool → Int → Option (Bool)
  | 0, _, _, _, _, _ => none
  | k + 1, x0, x3, x4, x5, x6 => if x6 < (x3.size : Int) then (if 0 ≤ x6 then (if (bt x3 x6) = 63 then (some false) else (usherlaw9_TermsSplitBack.l0 k x0 x3 x4 x5 (wrap64 (x6 + 1)))) else (none)) else (if x5 = true then (if x3.size + 1 ≤ 9223372036854775807 then (if (x3 ++ (⟨#[63]⟩ : ByteArray)).size + x4.size ≤ 9223372036854775807 then (some (((x3 ++ (⟨#[63]⟩ : ByteArray)) ++ x4).toList == x0.toList)) else (none)) else (none)) else (if x3.toList = x0.toList then (some (x4.toList == ([] : List UInt8))) else (some false)))
def usherlaw9_TermsSplitBack.f (k : Nat) (a0 : ByteArray) : Option (Bool) := (terms_Split.f a0).bind fun bt227 => (usherlaw9_TermsSplitBack.l0 k a0 bt227.1 bt227.2.1 bt227.2.2 0)
theorem usherlaw9_TermsSplitBack.mono_l : ∀ k, (∀ y0 y1 y2 y3 y4, LeO (usherlaw9_TermsSplitBack.l0 k y0 y1 y2 y3 y4) (usherlaw9_TermsSplitBack.l0 (k + 1) y0 y1 y2 y3 y4))
  | 0 => fun _ _ _ _ _ r h => by simp [usherlaw9_TermsSplitBack.l0] at h
  | k + 1 => by
    have ih0 := usherlaw9_TermsSplitBack.mono_l k
    · intro y0 y1 y2 y3 y4
      unfold usherlaw9_TermsSplitBack.l0
      repeat' first
      | (with_reducible exact ih0 _ _ _ _ _)
      | (with_reducible exact LeO.refl _)
      | (with_reducible exact LeO.none _)
      | (with_reducible refine LeO.ite ?_ ?_)
      | (with_reducible refine LeO.bind ?_ (fun _ => ?_))
      | exact ih0 _ _ _ _ _
      | exact LeO.none _
      | refine LeO.ite ?_ ?_
      | refine LeO.bind ?_ (fun _ => ?_)
theorem usherlaw9_TermsSplitBack.mono : ∀ a0 k, LeO (usherlaw9_TermsSplitBack.f k a0) (usherlaw9_TermsSplitBack.f (k + 1) a0) := by
  intro a0 k
  have ih0 := usherlaw9_TermsSplitBack.mono_l k
  unfold usherlaw9_TermsSplitBack.f
  repeat' first
      | (with_reducible exact ih0 _ _ _ _ _)
      | (with_reducible exact LeO.refl _)
      | (with_reducible exact LeO.none _)
      | (with_reducible refine LeO.ite ?_ ?_)
      | (with_reducible refine LeO.bind ?_ (fun _ => ?_))
      | exact ih0 _ _ _ _ _
      | exact LeO.none _
      | refine LeO.ite ?_ ?_
      | refine LeO.bind ?_ (fun _ => ?_)
set_option maxHeartbeats 8000000 in
set_option maxRecDepth 100000 in
theorem usherlaw9_TermsSplitBack.calls (k : Nat) (a0 : ByteArray) (r : Bool) (w : World) (h : usherlaw9_TermsSplitBack.f k a0 = some r) :
    Calls Try.prog 8 #[.string a0] w fun e w' => e = .returned (.bool r) ∧ Drawn0 w w' := by
  have H : ((terms_Split.f a0).bind fun bt227 => (usherlaw9_TermsSplitBack.l0 k a0 bt227.1 bt227.2.1 bt227.2.2 0)) = some r := h
  clear h
  replace H := Option.bind_eq_some_iff.mp H
  obtain ⟨⟨t227, t228, t229⟩, A20, H⟩ := H
  replace H : (usherlaw9_TermsSplitBack.l0 k a0 t227 t228 t229 0) = some r := H
  have A2 := Aside0.mk A20
  clear A20
  have H' := Aside0.mk H
  clear H
  go_enter Try.func8, Try.ntmps8
  go_wp2_with (first | ((with_reducible refine gate_callee (f := 22) rfl ?_); refine goesL_ (some 9) rfl rfl Try.func22 (by kernel_rfl) rfl #[.string a0] rfl (by (try simp only [List.map_toArray, List.map_cons, List.map_nil]); first | done | rfl | (simp only [List.length_drop, List.length_take]; rfl)) ?_; (with_reducible refine (terms_Split.calls a0 t227 t228 t229 _ A2.out).mono ?_); rintro e w' ⟨rfl, ⟨nd, rfl⟩⟩; refine ⟨_, rfl, ?_⟩))
  go_loopg [6] k (fun kq v6 w' => ∃ (x6_1 : Int), v6 = .int .i64 x6_1 ∧ Aside0 (usherlaw9_TermsSplitBack.l0 kq a0 t227 t228 t229 x6_1 = some r) ∧ Aside0 (kq ≤ k) ∧ Drawn0 w w')
  case atStart => exact ⟨(0), (by first | rfl | (simp; done) | (simp [*]; done) | (simp [bne]; done)), H', ⟨Nat.le_refl _⟩, by repeat (first | exact Drawn0.refl _ | apply Drawn0.step)⟩
  case round =>
    clear H'
    try clear c2
    try clear p2
    obtain ⟨x6_1, rfl, HA, HK1, ⟨m1, rfl⟩⟩ := hrel
    cases gk with
    | zero => exact absurd HA.out (by simp [usherlaw9_TermsSplitBack.l0])
    | succ k1 =>
      have H := HA.out
      clear HA
      simp only [usherlaw9_TermsSplitBack.l0] at H
      by_cases c3 : x6_1 < (t227.size : Int)
      · rw [if_pos c3] at H
        have c3b0 : decide (x6_1 < (t227.size : Int)) = true := decide_eq_true c3
        clear c3
        by_cases c4 : 0 ≤ x6_1
        · rw [if_pos c4] at H
          have c4b0 : decide (0 ≤ x6_1) = true := decide_eq_true c4
          clear c4
          by_cases c6 : (bt t227 x6_1) = 63
          · rw [if_pos c6] at H
            have c6b0 : ((bt t227 x6_1) == 63) = true := beq_iff_eq.mpr c6
            have c6b1 : ((bt t227 x6_1) != 63) = false := bne_eq_false_iff_eq.mpr c6
            clear c6
            obtain rfl := Option.some.inj H
            have p5 : 0 ≤ (x6_1 : Int) := of_decide_eq_true (by first | (with_reducible assumption) | assumption)
            have q5 : x6_1 < (t227.size : Int) := of_decide_eq_true (by first | (with_reducible assumption) | assumption)
            have hx5 := bt_at t227 x6_1
            replace p5 := eq_true p5
            replace q5 := eq_true q5
            go_wp2
            go_ret
            exact ⟨by first | rfl | (simp; done) | (simp [*]; done) | (simp [bne]; done), by repeat (first | exact Drawn0.refl _ | apply Drawn0.step)⟩
          · rw [if_neg c6] at H
            have c6b0 : ((bt t227 x6_1) == 63) = false := beq_eq_false_iff_ne.mpr c6
            have c6b1 : ((bt t227 x6_1) != 63) = true := bne_iff_ne.mpr c6
            have H' := Aside0.mk H
            clear H
            have p5 : 0 ≤ (x6_1 : Int) := of_decide_eq_true (by first | (with_reducible assumption) | assumption)
            have q5 : x6_1 < (t227.size : Int) := of_decide_eq_true (by first | (with_reducible assumption) | assumption)
            have hx5 := bt_at t227 x6_1
            replace p5 := eq_true p5
            replace q5 := eq_true q5
            go_wp2
            go_roundg k1
            case measure => have := HK1.out; omega
            case rel => exact ⟨(wrap64 (x6_1 + 1)), (by first | rfl | (simp; done) | (simp [*]; done) | (simp [bne]; done)), H', ⟨by have := HK1.out; omega⟩, by repeat (first | exact Drawn0.refl _ | apply Drawn0.step)⟩
        · rw [if_neg c4] at H
          exact absurd H (by simp)
      · rw [if_neg c3] at H
        have c3b0 : decide (x6_1 < (t227.size : Int)) = false := decide_eq_false c3
        clear c3
        by_cases c7 : t229 = true
        · subst c7
          have H1 : (if t227.size + 1 ≤ 9223372036854775807 then (if (t227 ++ (⟨#[63]⟩ : ByteArray)).size + t228.size ≤ 9223372036854775807 then (some (((t227 ++ (⟨#[63]⟩ : ByteArray)) ++ t228).toList == a0.toList)) else (none)) else (none)) = some r := by rw [if_pos rfl] at H; exact H
          clear H
          have H := H1
          clear H1
          by_cases c8 : t227.size + 1 ≤ 9223372036854775807
          · rw [if_pos c8] at H
            have c8b0 := eq_true c8
            have c8b1 : decide (t227.size + 1 ≤ 9223372036854775807) = true := decide_eq_true c8
            try have c8b2 : (9223372036854775807 < t227.size + 1) = False := eq_false (Nat.not_lt.2 c8)
            by_cases c9 : (t227 ++ (⟨#[63]⟩ : ByteArray)).size + t228.size ≤ 9223372036854775807
            · rw [if_pos c9] at H
              have c9b0 := eq_true c9
              have c9b1 : decide ((t227 ++ (⟨#[63]⟩ : ByteArray)).size + t228.size ≤ 9223372036854775807) = true := decide_eq_true c9
              try have c9b2 : (9223372036854775807 < (t227 ++ (⟨#[63]⟩ : ByteArray)).size + t228.size) = False := eq_false (Nat.not_lt.2 c9)
              obtain rfl := Option.some.inj H
              go_wp2
              go_ret
              exact ⟨by first | rfl | (simp; done) | (simp [*]; done) | (simp [bne]; done), by repeat (first | exact Drawn0.refl _ | apply Drawn0.step)⟩
            · rw [if_neg c9] at H
              exact absurd H (by simp)
          · rw [if_neg c8] at H
            exact absurd H (by simp)
        · replace c7 := Bool.eq_false_iff.mpr c7
          subst c7
          have H1 : (if t227.toList = a0.toList then (some (t228.toList == ([] : List UInt8))) else (some false)) = some r := by rw [if_neg (show ¬ (false = true) by decide)] at H; exact H
          clear H
          have H := H1
          clear H1
          by_cases c10 : t227.toList = a0.toList
          · rw [if_pos c10] at H
            have c10b0 : (t227.toList == a0.toList) = true := beq_iff_eq.mpr c10
            have c10b1 : (t227.toList != a0.toList) = false := bne_eq_false_iff_eq.mpr c10
            clear c10
            obtain rfl := Option.some.inj H
            go_wp2
            go_ret
            exact ⟨by first | rfl | (simp; done) | (simp [*]; done) | (simp [bne]; done), by repeat (first | exact Drawn0.refl _ | apply Drawn0.step)⟩
          · rw [if_neg c10] at H
            have c10b0 : (t227.toList == a0.toList) = false := beq_eq_false_iff_ne.mpr c10
            have c10b1 : (t227.toList != a0.toList) = true := bne_iff_ne.mpr c10
            obtain rfl := Option.some.inj H
            go_wp2
            go_ret
            exact ⟨by first | rfl | (simp; done) | (simp [*]; done) | (simp [bne]; done), by repeat (first | exact Drawn0.refl _ | apply Drawn0.step)⟩

end Go.Proofs.Ytopfmcgmfnmikaa.X
