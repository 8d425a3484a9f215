-- Printed by a program of this session (wip/xprint), not by the kit's print.
import Derived.Test.YtmaedmmcjhmheaaDoorXx0
import Derived.Test.YtmaedmmcjhmheaaDoorXx1
namespace Go.Proofs.YtmaedmmcjhmheaaDoor.X
open Go.RowKit Go.Proofs.YtmaedmmcjhmheaaDoorW.PrintWords Go.Proofs.YtmaedmmcjhmheaaDoorW.PrintLast Go.Proofs.YtmaedmmcjhmheaaDoorW.PrintMore
attribute [local go_sem] max2_int min2_int max_two min_two max_three min_three max_four min_four   -- for this text's walks alone
set_option linter.unusedVariables false
set_option linter.unusedSimpArgs false
open Go.Proofs.YtmaedmmcjhmheaaDoor
attribute [local go_sem] ErrBlk_alloc ErrBlk_drew ErrBlk_drewN errs_eql errs_neq nil_errs_eql nil_errs_neq
variable {EA : Int → Addr} {SS : List Int}

/-! ### usherkit_more: function 41 -/
def usherkit_more.f (a0 : Option Int) : Option (Int) := if a0.isNone = true then (some (-1)) else (if (a0.getD 0) = 8 then (some 8) else (if (a0.getD 0) = 9 then (some 9) else (if (a0.getD 0) = 10 then (some 10) else (if (a0.getD 0) = 11 then (some 11) else (if (a0.getD 0) = 12 then (some 12) else (if (a0.getD 0) = 13 then (some 13) else (some (-1))))))))
set_option maxHeartbeats 8000000 in
set_option maxRecDepth 100000 in
theorem usherkit_more.calls (hk8 : (8 : Int) ∈ SS) (hk9 : (9 : Int) ∈ SS) (hk10 : (10 : Int) ∈ SS) (hk11 : (11 : Int) ∈ SS) (hk12 : (12 : Int) ∈ SS) (hk13 : (13 : Int) ∈ SS) (a0 : Option Int) (r : Int) (w : World) (hE : Sent EA SS w) (h : usherkit_more.f a0 = some r) :
    Calls Tryd.prog 41 #[errW EA a0] w fun e w' => e = .returned (.int .i64 r) ∧ Drawn0 w w' := by
  have hu25 := Tryd.underlying25
  have hu145 := Tryd.underlying145
  have HE := Aside0.mk hE
  clear hE
  have H : (if a0.isNone = true then (some (-1)) else (if (a0.getD 0) = 8 then (some 8) else (if (a0.getD 0) = 9 then (some 9) else (if (a0.getD 0) = 10 then (some 10) else (if (a0.getD 0) = 11 then (some 11) else (if (a0.getD 0) = 12 then (some 12) else (if (a0.getD 0) = 13 then (some 13) else (some (-1))))))))) = some r := h
  clear h
  rcases a0 with _ | q118
  · have H1 : (some (-1)) = some r := by rw [if_pos (show (none : Option Int).isNone = true by rfl)] at H; exact H
    clear H
    have H := H1
    clear H1
    simp only [errW_none, errW_some]
    obtain rfl := Option.some.inj H
    have hg2 := Sent.at_8 HE.out hk8
    have hg3 := Sent.at_9 HE.out hk9
    have hg4 := Sent.at_10 HE.out hk10
    have hg5 := Sent.at_11 HE.out hk11
    have hg6 := Sent.at_12 HE.out hk12
    have hg7 := Sent.at_13 HE.out hk13
    go_enter Tryd.func41, Tryd.ntmps41
    go_wp2
    go_ret
    exact ⟨by first | rfl | (simp; done) | (simp [*]; done) | (simp [bne]; done), by repeat (first | exact Drawn0.refl _ | apply Drawn0.step)⟩
  · have H1 : (if q118 = 8 then (some 8) else (if q118 = 9 then (some 9) else (if q118 = 10 then (some 10) else (if q118 = 11 then (some 11) else (if q118 = 12 then (some 12) else (if q118 = 13 then (some 13) else (some (-1)))))))) = some r := by rw [if_neg (show ¬ (some q118).isNone = true by simp)] at H; exact H
    clear H
    have H := H1
    clear H1
    simp only [errW_none, errW_some]
    by_cases c8 : q118 = 8
    · rw [if_pos c8] at H
      have c8b0 : (q118 == 8) = true := beq_iff_eq.mpr c8
      have c8b1 : (q118 != 8) = false := bne_eq_false_iff_eq.mpr c8
      clear c8
      obtain rfl := Option.some.inj H
      have hg9 := Sent.at_8 HE.out hk8
      have hg10 := Sent.errs HE.out
      go_enter Tryd.func41, Tryd.ntmps41
      go_wp2
      go_ret
      exact ⟨by first | rfl | (simp; done) | (simp [*]; done) | (simp [bne]; done), by repeat (first | exact Drawn0.refl _ | apply Drawn0.step)⟩
    · rw [if_neg c8] at H
      have c8b0 : (q118 == 8) = false := beq_eq_false_iff_ne.mpr c8
      have c8b1 : (q118 != 8) = true := bne_iff_ne.mpr c8
      by_cases c11 : q118 = 9
      · rw [if_pos c11] at H
        have c11b0 : (q118 == 9) = true := beq_iff_eq.mpr c11
        have c11b1 : (q118 != 9) = false := bne_eq_false_iff_eq.mpr c11
        clear c11
        obtain rfl := Option.some.inj H
        have hg12 := Sent.at_8 HE.out hk8
        have hg13 := Sent.errs HE.out
        have hg14 := Sent.at_9 HE.out hk9
        have hg15 := Sent.errs HE.out
        go_enter Tryd.func41, Tryd.ntmps41
        go_wp2
        go_ret
        exact ⟨by first | rfl | (simp; done) | (simp [*]; done) | (simp [bne]; done), by repeat (first | exact Drawn0.refl _ | apply Drawn0.step)⟩
      · rw [if_neg c11] at H
        have c11b0 : (q118 == 9) = false := beq_eq_false_iff_ne.mpr c11
        have c11b1 : (q118 != 9) = true := bne_iff_ne.mpr c11
        by_cases c16 : q118 = 10
        · rw [if_pos c16] at H
          have c16b0 : (q118 == 10) = true := beq_iff_eq.mpr c16
          have c16b1 : (q118 != 10) = false := bne_eq_false_iff_eq.mpr c16
          clear c16
          obtain rfl := Option.some.inj H
          have hg17 := Sent.at_8 HE.out hk8
          have hg18 := Sent.errs HE.out
          have hg19 := Sent.at_9 HE.out hk9
          have hg20 := Sent.errs HE.out
          have hg21 := Sent.at_10 HE.out hk10
          have hg22 := Sent.errs HE.out
          go_enter Tryd.func41, Tryd.ntmps41
          go_wp2
          go_ret
          exact ⟨by first | rfl | (simp; done) | (simp [*]; done) | (simp [bne]; done), by repeat (first | exact Drawn0.refl _ | apply Drawn0.step)⟩
        · rw [if_neg c16] at H
          have c16b0 : (q118 == 10) = false := beq_eq_false_iff_ne.mpr c16
          have c16b1 : (q118 != 10) = true := bne_iff_ne.mpr c16
          by_cases c23 : q118 = 11
          · rw [if_pos c23] at H
            have c23b0 : (q118 == 11) = true := beq_iff_eq.mpr c23
            have c23b1 : (q118 != 11) = false := bne_eq_false_iff_eq.mpr c23
            clear c23
            obtain rfl := Option.some.inj H
            have hg24 := Sent.at_8 HE.out hk8
            have hg25 := Sent.errs HE.out
            have hg26 := Sent.at_9 HE.out hk9
            have hg27 := Sent.errs HE.out
            have hg28 := Sent.at_10 HE.out hk10
            have hg29 := Sent.errs HE.out
            have hg30 := Sent.at_11 HE.out hk11
            have hg31 := Sent.errs HE.out
            go_enter Tryd.func41, Tryd.ntmps41
            go_wp2
            go_ret
            exact ⟨by first | rfl | (simp; done) | (simp [*]; done) | (simp [bne]; done), by repeat (first | exact Drawn0.refl _ | apply Drawn0.step)⟩
          · rw [if_neg c23] at H
            have c23b0 : (q118 == 11) = false := beq_eq_false_iff_ne.mpr c23
            have c23b1 : (q118 != 11) = true := bne_iff_ne.mpr c23
            by_cases c32 : q118 = 12
            · rw [if_pos c32] at H
              have c32b0 : (q118 == 12) = true := beq_iff_eq.mpr c32
              have c32b1 : (q118 != 12) = false := bne_eq_false_iff_eq.mpr c32
              clear c32
              obtain rfl := Option.some.inj H
              have hg33 := Sent.at_8 HE.out hk8
              have hg34 := Sent.errs HE.out
              have hg35 := Sent.at_9 HE.out hk9
              have hg36 := Sent.errs HE.out
              have hg37 := Sent.at_10 HE.out hk10
              have hg38 := Sent.errs HE.out
              have hg39 := Sent.at_11 HE.out hk11
              have hg40 := Sent.errs HE.out
              have hg41 := Sent.at_12 HE.out hk12
              have hg42 := Sent.errs HE.out
              go_enter Tryd.func41, Tryd.ntmps41
              go_wp2
              go_ret
              exact ⟨by first | rfl | (simp; done) | (simp [*]; done) | (simp [bne]; done), by repeat (first | exact Drawn0.refl _ | apply Drawn0.step)⟩
            · rw [if_neg c32] at H
              have c32b0 : (q118 == 12) = false := beq_eq_false_iff_ne.mpr c32
              have c32b1 : (q118 != 12) = true := bne_iff_ne.mpr c32
              by_cases c43 : q118 = 13
              · rw [if_pos c43] at H
                have c43b0 : (q118 == 13) = true := beq_iff_eq.mpr c43
                have c43b1 : (q118 != 13) = false := bne_eq_false_iff_eq.mpr c43
                clear c43
                obtain rfl := Option.some.inj H
                have hg44 := Sent.at_8 HE.out hk8
                have hg45 := Sent.errs HE.out
                have hg46 := Sent.at_9 HE.out hk9
                have hg47 := Sent.errs HE.out
                have hg48 := Sent.at_10 HE.out hk10
                have hg49 := Sent.errs HE.out
                have hg50 := Sent.at_11 HE.out hk11
                have hg51 := Sent.errs HE.out
                have hg52 := Sent.at_12 HE.out hk12
                have hg53 := Sent.errs HE.out
                have hg54 := Sent.at_13 HE.out hk13
                have hg55 := Sent.errs HE.out
                go_enter Tryd.func41, Tryd.ntmps41
                go_wp2
                go_ret
                exact ⟨by first | rfl | (simp; done) | (simp [*]; done) | (simp [bne]; done), by repeat (first | exact Drawn0.refl _ | apply Drawn0.step)⟩
              · rw [if_neg c43] at H
                have c43b0 : (q118 == 13) = false := beq_eq_false_iff_ne.mpr c43
                have c43b1 : (q118 != 13) = true := bne_iff_ne.mpr c43
                obtain rfl := Option.some.inj H
                have hg56 := Sent.at_8 HE.out hk8
                have hg57 := Sent.errs HE.out
                have hg58 := Sent.at_9 HE.out hk9
                have hg59 := Sent.errs HE.out
                have hg60 := Sent.at_10 HE.out hk10
                have hg61 := Sent.errs HE.out
                have hg62 := Sent.at_11 HE.out hk11
                have hg63 := Sent.errs HE.out
                have hg64 := Sent.at_12 HE.out hk12
                have hg65 := Sent.errs HE.out
                have hg66 := Sent.at_13 HE.out hk13
                have hg67 := Sent.errs HE.out
                go_enter Tryd.func41, Tryd.ntmps41
                go_wp2
                go_ret
                exact ⟨by first | rfl | (simp; done) | (simp [*]; done) | (simp [bne]; done), by repeat (first | exact Drawn0.refl _ | apply Drawn0.step)⟩

/-! ### usherkit_Num: function 18 -/
def usherkit_Num.f (a0 : Option Int) : Option (Int) := if a0.isNone = true then (some 0) else (if (a0.getD 0) = 1 then (some 1) else (if (a0.getD 0) = 2 then (some 2) else (if (a0.getD 0) = 3 then (some 3) else (if (a0.getD 0) = 4 then (some 4) else (if (a0.getD 0) = 5 then (some 5) else (if (a0.getD 0) = 6 then (some 6) else (if (a0.getD 0) = 7 then (some 7) else ((usherkit_more.f (some (a0.getD 0))).bind fun t120 => (some t120)))))))))
set_option maxHeartbeats 8000000 in
set_option maxRecDepth 100000 in
theorem usherkit_Num.calls (hk1 : (1 : Int) ∈ SS) (hk2 : (2 : Int) ∈ SS) (hk3 : (3 : Int) ∈ SS) (hk4 : (4 : Int) ∈ SS) (hk5 : (5 : Int) ∈ SS) (hk6 : (6 : Int) ∈ SS) (hk7 : (7 : Int) ∈ SS) (hk8 : (8 : Int) ∈ SS) (hk9 : (9 : Int) ∈ SS) (hk10 : (10 : Int) ∈ SS) (hk11 : (11 : Int) ∈ SS) (hk12 : (12 : Int) ∈ SS) (hk13 : (13 : Int) ∈ SS) (a0 : Option Int) (r : Int) (w : World) (hE : Sent EA SS w) (h : usherkit_Num.f a0 = some r) :
    Calls Tryd.prog 18 #[errW EA a0] w fun e w' => e = .returned (.int .i64 r) ∧ Drawn0 w w' := by
  have hu25 := Tryd.underlying25
  have hu145 := Tryd.underlying145
  have HE := Aside0.mk hE
  clear hE
  have H : (if a0.isNone = true then (some 0) else (if (a0.getD 0) = 1 then (some 1) else (if (a0.getD 0) = 2 then (some 2) else (if (a0.getD 0) = 3 then (some 3) else (if (a0.getD 0) = 4 then (some 4) else (if (a0.getD 0) = 5 then (some 5) else (if (a0.getD 0) = 6 then (some 6) else (if (a0.getD 0) = 7 then (some 7) else ((usherkit_more.f (some (a0.getD 0))).bind fun t120 => (some t120)))))))))) = some r := h
  clear h
  rcases a0 with _ | q119
  · have H1 : (some 0) = some r := by rw [if_pos (show (none : Option Int).isNone = true by rfl)] at H; exact H
    clear H
    have H := H1
    clear H1
    simp only [errW_none, errW_some]
    obtain rfl := Option.some.inj H
    go_enter Tryd.func18, Tryd.ntmps18
    go_wp2
    go_ret
    exact ⟨by first | rfl | (simp; done) | (simp [*]; done) | (simp [bne]; done), by repeat (first | exact Drawn0.refl _ | apply Drawn0.step)⟩
  · have H1 : (if q119 = 1 then (some 1) else (if q119 = 2 then (some 2) else (if q119 = 3 then (some 3) else (if q119 = 4 then (some 4) else (if q119 = 5 then (some 5) else (if q119 = 6 then (some 6) else (if q119 = 7 then (some 7) else ((usherkit_more.f (some q119)).bind fun t120 => (some t120))))))))) = some r := by rw [if_neg (show ¬ (some q119).isNone = true by simp)] at H; exact H
    clear H
    have H := H1
    clear H1
    simp only [errW_none, errW_some]
    by_cases c2 : q119 = 1
    · rw [if_pos c2] at H
      have c2b0 : (q119 == 1) = true := beq_iff_eq.mpr c2
      have c2b1 : (q119 != 1) = false := bne_eq_false_iff_eq.mpr c2
      clear c2
      obtain rfl := Option.some.inj H
      have hg3 := Sent.at_1 HE.out hk1
      have hg4 := Sent.errs HE.out
      go_enter Tryd.func18, Tryd.ntmps18
      go_wp2
      go_ret
      exact ⟨by first | rfl | (simp; done) | (simp [*]; done) | (simp [bne]; done), by repeat (first | exact Drawn0.refl _ | apply Drawn0.step)⟩
    · rw [if_neg c2] at H
      have c2b0 : (q119 == 1) = false := beq_eq_false_iff_ne.mpr c2
      have c2b1 : (q119 != 1) = true := bne_iff_ne.mpr c2
      by_cases c5 : q119 = 2
      · rw [if_pos c5] at H
        have c5b0 : (q119 == 2) = true := beq_iff_eq.mpr c5
        have c5b1 : (q119 != 2) = false := bne_eq_false_iff_eq.mpr c5
        clear c5
        obtain rfl := Option.some.inj H
        have hg6 := Sent.at_1 HE.out hk1
        have hg7 := Sent.errs HE.out
        have hg8 := Sent.at_2 HE.out hk2
        have hg9 := Sent.errs HE.out
        go_enter Tryd.func18, Tryd.ntmps18
        go_wp2
        go_ret
        exact ⟨by first | rfl | (simp; done) | (simp [*]; done) | (simp [bne]; done), by repeat (first | exact Drawn0.refl _ | apply Drawn0.step)⟩
      · rw [if_neg c5] at H
        have c5b0 : (q119 == 2) = false := beq_eq_false_iff_ne.mpr c5
        have c5b1 : (q119 != 2) = true := bne_iff_ne.mpr c5
        by_cases c10 : q119 = 3
        · rw [if_pos c10] at H
          have c10b0 : (q119 == 3) = true := beq_iff_eq.mpr c10
          have c10b1 : (q119 != 3) = false := bne_eq_false_iff_eq.mpr c10
          clear c10
          obtain rfl := Option.some.inj H
          have hg11 := Sent.at_1 HE.out hk1
          have hg12 := Sent.errs HE.out
          have hg13 := Sent.at_2 HE.out hk2
          have hg14 := Sent.errs HE.out
          have hg15 := Sent.at_3 HE.out hk3
          have hg16 := Sent.errs HE.out
          go_enter Tryd.func18, Tryd.ntmps18
          go_wp2
          go_ret
          exact ⟨by first | rfl | (simp; done) | (simp [*]; done) | (simp [bne]; done), by repeat (first | exact Drawn0.refl _ | apply Drawn0.step)⟩
        · rw [if_neg c10] at H
          have c10b0 : (q119 == 3) = false := beq_eq_false_iff_ne.mpr c10
          have c10b1 : (q119 != 3) = true := bne_iff_ne.mpr c10
          by_cases c17 : q119 = 4
          · rw [if_pos c17] at H
            have c17b0 : (q119 == 4) = true := beq_iff_eq.mpr c17
            have c17b1 : (q119 != 4) = false := bne_eq_false_iff_eq.mpr c17
            clear c17
            obtain rfl := Option.some.inj H
            have hg18 := Sent.at_1 HE.out hk1
            have hg19 := Sent.errs HE.out
            have hg20 := Sent.at_2 HE.out hk2
            have hg21 := Sent.errs HE.out
            have hg22 := Sent.at_3 HE.out hk3
            have hg23 := Sent.errs HE.out
            have hg24 := Sent.at_4 HE.out hk4
            have hg25 := Sent.errs HE.out
            go_enter Tryd.func18, Tryd.ntmps18
            go_wp2
            go_ret
            exact ⟨by first | rfl | (simp; done) | (simp [*]; done) | (simp [bne]; done), by repeat (first | exact Drawn0.refl _ | apply Drawn0.step)⟩
          · rw [if_neg c17] at H
            have c17b0 : (q119 == 4) = false := beq_eq_false_iff_ne.mpr c17
            have c17b1 : (q119 != 4) = true := bne_iff_ne.mpr c17
            by_cases c26 : q119 = 5
            · rw [if_pos c26] at H
              have c26b0 : (q119 == 5) = true := beq_iff_eq.mpr c26
              have c26b1 : (q119 != 5) = false := bne_eq_false_iff_eq.mpr c26
              clear c26
              obtain rfl := Option.some.inj H
              have hg27 := Sent.at_1 HE.out hk1
              have hg28 := Sent.errs HE.out
              have hg29 := Sent.at_2 HE.out hk2
              have hg30 := Sent.errs HE.out
              have hg31 := Sent.at_3 HE.out hk3
              have hg32 := Sent.errs HE.out
              have hg33 := Sent.at_4 HE.out hk4
              have hg34 := Sent.errs HE.out
              have hg35 := Sent.at_5 HE.out hk5
              have hg36 := Sent.errs HE.out
              go_enter Tryd.func18, Tryd.ntmps18
              go_wp2
              go_ret
              exact ⟨by first | rfl | (simp; done) | (simp [*]; done) | (simp [bne]; done), by repeat (first | exact Drawn0.refl _ | apply Drawn0.step)⟩
            · rw [if_neg c26] at H
              have c26b0 : (q119 == 5) = false := beq_eq_false_iff_ne.mpr c26
              have c26b1 : (q119 != 5) = true := bne_iff_ne.mpr c26
              by_cases c37 : q119 = 6
              · rw [if_pos c37] at H
                have c37b0 : (q119 == 6) = true := beq_iff_eq.mpr c37
                have c37b1 : (q119 != 6) = false := bne_eq_false_iff_eq.mpr c37
                clear c37
                obtain rfl := Option.some.inj H
                have hg38 := Sent.at_1 HE.out hk1
                have hg39 := Sent.errs HE.out
                have hg40 := Sent.at_2 HE.out hk2
                have hg41 := Sent.errs HE.out
                have hg42 := Sent.at_3 HE.out hk3
                have hg43 := Sent.errs HE.out
                have hg44 := Sent.at_4 HE.out hk4
                have hg45 := Sent.errs HE.out
                have hg46 := Sent.at_5 HE.out hk5
                have hg47 := Sent.errs HE.out
                have hg48 := Sent.at_6 HE.out hk6
                have hg49 := Sent.errs HE.out
                go_enter Tryd.func18, Tryd.ntmps18
                go_wp2
                go_ret
                exact ⟨by first | rfl | (simp; done) | (simp [*]; done) | (simp [bne]; done), by repeat (first | exact Drawn0.refl _ | apply Drawn0.step)⟩
              · rw [if_neg c37] at H
                have c37b0 : (q119 == 6) = false := beq_eq_false_iff_ne.mpr c37
                have c37b1 : (q119 != 6) = true := bne_iff_ne.mpr c37
                by_cases c50 : q119 = 7
                · rw [if_pos c50] at H
                  have c50b0 : (q119 == 7) = true := beq_iff_eq.mpr c50
                  have c50b1 : (q119 != 7) = false := bne_eq_false_iff_eq.mpr c50
                  clear c50
                  obtain rfl := Option.some.inj H
                  have hg51 := Sent.at_1 HE.out hk1
                  have hg52 := Sent.errs HE.out
                  have hg53 := Sent.at_2 HE.out hk2
                  have hg54 := Sent.errs HE.out
                  have hg55 := Sent.at_3 HE.out hk3
                  have hg56 := Sent.errs HE.out
                  have hg57 := Sent.at_4 HE.out hk4
                  have hg58 := Sent.errs HE.out
                  have hg59 := Sent.at_5 HE.out hk5
                  have hg60 := Sent.errs HE.out
                  have hg61 := Sent.at_6 HE.out hk6
                  have hg62 := Sent.errs HE.out
                  have hg63 := Sent.at_7 HE.out hk7
                  have hg64 := Sent.errs HE.out
                  go_enter Tryd.func18, Tryd.ntmps18
                  go_wp2
                  go_ret
                  exact ⟨by first | rfl | (simp; done) | (simp [*]; done) | (simp [bne]; done), by repeat (first | exact Drawn0.refl _ | apply Drawn0.step)⟩
                · rw [if_neg c50] at H
                  have c50b0 : (q119 == 7) = false := beq_eq_false_iff_ne.mpr c50
                  have c50b1 : (q119 != 7) = true := bne_iff_ne.mpr c50
                  replace H := Option.bind_eq_some_iff.mp H
                  obtain ⟨t120, A650, H⟩ := H
                  replace H : (some t120) = some r := H
                  have A65 := Aside0.mk A650
                  clear A650
                  obtain rfl := Option.some.inj H
                  have hg66 := Sent.at_1 HE.out hk1
                  have hg67 := Sent.errs HE.out
                  have hg68 := Sent.at_2 HE.out hk2
                  have hg69 := Sent.errs HE.out
                  have hg70 := Sent.at_3 HE.out hk3
                  have hg71 := Sent.errs HE.out
                  have hg72 := Sent.at_4 HE.out hk4
                  have hg73 := Sent.errs HE.out
                  have hg74 := Sent.at_5 HE.out hk5
                  have hg75 := Sent.errs HE.out
                  have hg76 := Sent.at_6 HE.out hk6
                  have hg77 := Sent.errs HE.out
                  have hg78 := Sent.at_7 HE.out hk7
                  have hg79 := Sent.errs HE.out
                  have CA65 := fun W (hE_ : Sent EA SS W) => usherkit_more.calls (EA := EA) hk8 hk9 hk10 hk11 hk12 hk13 (some q119) t120 W hE_ A65.out
                  try simp only [errW_none, errW_some] at CA65
                  go_enter Tryd.func18, Tryd.ntmps18
                  go_wp2_with (first | (go_at_call 41; (with_reducible refine (CA65 _ ?sideE).mono ?_); (case sideE => repeat (first | exact HE.out | (with_reducible refine Sent.alloc ?_ _) | (with_reducible refine Sent.drewN ?_ _) | (with_reducible refine Sent.drew ?_))); rintro e w' ⟨rfl, ⟨nd, rfl⟩⟩))
                  go_ret
                  exact ⟨by first | rfl | (simp; done) | (simp [*]; done) | (simp [bne]; done), by repeat (first | exact Drawn0.refl _ | apply Drawn0.step)⟩

/-! ### usherlaw5_PageUnescapeExact: function 4 -/
def usherlaw5_PageUnescapeExact.f (k : Nat) (a0 : ByteArray) : Option (Bool) := (page_Unescape.f a0).bind fun bt121 => ((usherref5_Unescape.f k a0).bind fun bt123 => (if bt121.1.toList = bt123.1.toList then ((usherkit_Num.f bt121.2).bind fun t125 => (some (t125 == bt123.2))) else (some false)))
theorem usherlaw5_PageUnescapeExact.mono : ∀ a0 k, LeO (usherlaw5_PageUnescapeExact.f k a0) (usherlaw5_PageUnescapeExact.f (k + 1) a0) := by
  intro a0 k
  unfold usherlaw5_PageUnescapeExact.f
  repeat' first
      | (with_reducible exact usherref5_Unescape.mono _ _)
      | (with_reducible exact LeO.refl _)
      | (with_reducible exact LeO.none _)
      | (with_reducible refine LeO.ite ?_ ?_)
      | (with_reducible refine LeO.bind ?_ (fun _ => ?_))
      | exact usherref5_Unescape.mono _ _
      | exact LeO.none _
      | refine LeO.ite ?_ ?_
      | refine LeO.bind ?_ (fun _ => ?_)
set_option maxHeartbeats 8000000 in
set_option maxRecDepth 100000 in
theorem usherlaw5_PageUnescapeExact.calls (hk1 : (1 : Int) ∈ SS) (hk2 : (2 : Int) ∈ SS) (hk3 : (3 : Int) ∈ SS) (hk4 : (4 : Int) ∈ SS) (hk5 : (5 : Int) ∈ SS) (hk6 : (6 : Int) ∈ SS) (hk7 : (7 : Int) ∈ SS) (hk8 : (8 : Int) ∈ SS) (hk9 : (9 : Int) ∈ SS) (hk10 : (10 : Int) ∈ SS) (hk11 : (11 : Int) ∈ SS) (hk12 : (12 : Int) ∈ SS) (hk13 : (13 : Int) ∈ SS) (hk102 : (102 : Int) ∈ SS) (k : Nat) (a0 : ByteArray) (r : Bool) (w : World) (hE : Sent EA SS w) (h : usherlaw5_PageUnescapeExact.f k a0 = some r) :
    Calls Tryd.prog 4 #[.string a0] w fun e w' => e = .returned (.bool r) ∧ Below w.heap.size w w' := by
  have HE := Aside0.mk hE
  clear hE
  have HB := Aside0.mk (Below.refl w.heap.size w)
  have H : ((page_Unescape.f a0).bind fun bt121 => ((usherref5_Unescape.f k a0).bind fun bt123 => (if bt121.1.toList = bt123.1.toList then ((usherkit_Num.f bt121.2).bind fun t125 => (some (t125 == bt123.2))) else (some false)))) = some r := h
  clear h
  replace H := Option.bind_eq_some_iff.mp H
  obtain ⟨⟨t121, t122⟩, A20, H⟩ := H
  replace H : ((usherref5_Unescape.f k a0).bind fun bt123 => (if t121.toList = bt123.1.toList then ((usherkit_Num.f t122).bind fun t125 => (some (t125 == bt123.2))) else (some false))) = some r := H
  have A2 := Aside0.mk A20
  clear A20
  replace H := Option.bind_eq_some_iff.mp H
  obtain ⟨⟨t123, t124⟩, A30, H⟩ := H
  replace H : (if t121.toList = t123.toList then ((usherkit_Num.f t122).bind fun t125 => (some (t125 == t124))) else (some false)) = some r := H
  have A3 := Aside0.mk A30
  clear A30
  by_cases c4 : t121.toList = t123.toList
  · rw [if_pos c4] at H
    have c4b0 : (t121.toList == t123.toList) = true := beq_iff_eq.mpr c4
    have c4b1 : (t121.toList != t123.toList) = false := bne_eq_false_iff_eq.mpr c4
    clear c4
    replace H := Option.bind_eq_some_iff.mp H
    obtain ⟨t125, A50, H⟩ := H
    replace H : (some (t125 == t124)) = some r := H
    have A5 := Aside0.mk A50
    clear A50
    obtain rfl := Option.some.inj H
    go_enter Tryd.func4, Tryd.ntmps4
    go_wp2_with (first | ((with_reducible refine gate_callee (f := 16) rfl ?_); refine goesL_ (some 9) rfl rfl Tryd.func16 (by kernel_rfl) rfl #[.string a0] rfl (by (try simp only [List.map_toArray, List.map_cons, List.map_nil]); first | done | rfl | (simp only [List.length_drop, List.length_take]; rfl)) ?_; (with_reducible refine (page_Unescape.calls (EA := EA) hk2 hk102 a0 t121 t122 _ ?side1 A2.out).mono ?_); (case side1 => repeat (first | exact HE.out | (with_reducible refine Sent.alloc ?_ _) | (with_reducible refine Sent.drewN ?_ _) | (with_reducible refine Sent.drew ?_))); rintro e w6 ⟨rfl, hb⟩; refine ⟨_, rfl, ?_⟩; have n0_ := Aside0.mk (below_step (by repeat (first | (with_reducible first | exact HB.out | apply below_alloc | apply pw_below_drewN | apply below_drew1) | exact HB.out)) hb); clear HB; have HB := n0_; clear n0_; (try clear hb); (try clear hb2); (try clear hk); (try clear hi); (try simp only [errW_none, errW_some])) | ((with_reducible refine gate_callee (f := 17) rfl ?_); refine goesL_ (some 14) rfl rfl Tryd.func17 (by kernel_rfl) rfl #[.string a0] rfl (by (try simp only [List.map_toArray, List.map_cons, List.map_nil]); first | done | rfl | (simp only [List.length_drop, List.length_take]; rfl)) ?_; (with_reducible refine (usherref5_Unescape.calls k a0 t123 t124 _ A3.out).mono ?_); rintro e w7 ⟨rfl, hb⟩; refine ⟨_, rfl, ?_⟩; have n0_ := Aside0.mk (below_step (by repeat (first | (with_reducible first | exact HB.out | apply below_alloc | apply pw_below_drewN | apply below_drew1) | exact HB.out)) hb); clear HB; have HB := n0_; clear n0_; (try clear hb); (try clear hb2); (try clear hk); (try clear hi); have CA5 := fun W (hE_ : Sent EA SS W) => usherkit_Num.calls (EA := EA) hk1 hk2 hk3 hk4 hk5 hk6 hk7 hk8 hk9 hk10 hk11 hk12 hk13 t122 t125 W hE_ A5.out; try simp only [errW_none, errW_some] at CA5) | (go_at_call 18; (with_reducible refine (CA5 _ ?sideE).mono ?_); (case sideE => repeat (first | exact (Sent.below HE.out HB.out) | (with_reducible refine Sent.alloc ?_ _) | (with_reducible refine Sent.drewN ?_ _) | (with_reducible refine Sent.drew ?_))); rintro e w' ⟨rfl, ⟨nd, rfl⟩⟩))
    go_ret
    exact ⟨by first | rfl | (simp [errW_none, errW_some] <;> rfl) | (simp [*, errW_none, errW_some] <;> rfl), by repeat (first | (with_reducible first | exact HB.out | apply below_alloc | apply pw_below_drewN | apply below_drew1) | exact HB.out)⟩
  · rw [if_neg c4] at H
    have c4b0 : (t121.toList == t123.toList) = false := beq_eq_false_iff_ne.mpr c4
    have c4b1 : (t121.toList != t123.toList) = true := bne_iff_ne.mpr c4
    obtain rfl := Option.some.inj H
    go_enter Tryd.func4, Tryd.ntmps4
    go_wp2_with (first | ((with_reducible refine gate_callee (f := 16) rfl ?_); refine goesL_ (some 9) rfl rfl Tryd.func16 (by kernel_rfl) rfl #[.string a0] rfl (by (try simp only [List.map_toArray, List.map_cons, List.map_nil]); first | done | rfl | (simp only [List.length_drop, List.length_take]; rfl)) ?_; (with_reducible refine (page_Unescape.calls (EA := EA) hk2 hk102 a0 t121 t122 _ ?side1 A2.out).mono ?_); (case side1 => repeat (first | exact HE.out | (with_reducible refine Sent.alloc ?_ _) | (with_reducible refine Sent.drewN ?_ _) | (with_reducible refine Sent.drew ?_))); rintro e w8 ⟨rfl, hb⟩; refine ⟨_, rfl, ?_⟩; have n0_ := Aside0.mk (below_step (by repeat (first | (with_reducible first | exact HB.out | apply below_alloc | apply pw_below_drewN | apply below_drew1) | exact HB.out)) hb); clear HB; have HB := n0_; clear n0_; (try clear hb); (try clear hb2); (try clear hk); (try clear hi); (try simp only [errW_none, errW_some])) | ((with_reducible refine gate_callee (f := 17) rfl ?_); refine goesL_ (some 14) rfl rfl Tryd.func17 (by kernel_rfl) rfl #[.string a0] rfl (by (try simp only [List.map_toArray, List.map_cons, List.map_nil]); first | done | rfl | (simp only [List.length_drop, List.length_take]; rfl)) ?_; (with_reducible refine (usherref5_Unescape.calls k a0 t123 t124 _ A3.out).mono ?_); rintro e w9 ⟨rfl, hb⟩; refine ⟨_, rfl, ?_⟩; have n0_ := Aside0.mk (below_step (by repeat (first | (with_reducible first | exact HB.out | apply below_alloc | apply pw_below_drewN | apply below_drew1) | exact HB.out)) hb); clear HB; have HB := n0_; clear n0_; (try clear hb); (try clear hb2); (try clear hk); (try clear hi)))
    go_ret
    exact ⟨by first | rfl | (simp [errW_none, errW_some] <;> rfl) | (simp [*, errW_none, errW_some] <;> rfl), by repeat (first | (with_reducible first | exact HB.out | apply below_alloc | apply pw_below_drewN | apply below_drew1) | exact HB.out)⟩

/-! ### usherlaw5_quotable: function 19 -/
def usherlaw5_quotable.l0 : Nat → ByteArray → Int → Option (Bool)
  | 0, _, _ => none
  | k + 1, x0, x3 => if x3 < (x0.size : Int) then (if 0 ≤ x3 then (if (bt x0 x3) = 60 then (some true) else (if (bt x0 x3) = 62 then (some true) else (if (bt x0 x3) = 34 then (some true) else (if (bt x0 x3) = 39 then (some true) else (usherlaw5_quotable.l0 k x0 (wrap64 (x3 + 1))))))) else (none)) else (some false)
def usherlaw5_quotable.f (k : Nat) (a0 : ByteArray) : Option (Bool) := usherlaw5_quotable.l0 k a0 0
theorem usherlaw5_quotable.mono_l : ∀ k, (∀ y0 y1, LeO (usherlaw5_quotable.l0 k y0 y1) (usherlaw5_quotable.l0 (k + 1) y0 y1))
  | 0 => fun _ _ r h => by simp [usherlaw5_quotable.l0] at h
  | k + 1 => by
    have ih0 := usherlaw5_quotable.mono_l k
    · intro y0 y1
      unfold usherlaw5_quotable.l0
      repeat' first
      | (with_reducible exact ih0 _ _)
      | (with_reducible exact LeO.refl _)
      | (with_reducible exact LeO.none _)
      | (with_reducible refine LeO.ite ?_ ?_)
      | (with_reducible refine LeO.bind ?_ (fun _ => ?_))
      | exact ih0 _ _
      | exact LeO.none _
      | refine LeO.ite ?_ ?_
      | refine LeO.bind ?_ (fun _ => ?_)
theorem usherlaw5_quotable.mono : ∀ a0 k, LeO (usherlaw5_quotable.f k a0) (usherlaw5_quotable.f (k + 1) a0) := by
  intro a0 k
  have ih0 := usherlaw5_quotable.mono_l k
  unfold usherlaw5_quotable.f
  repeat' first
      | (with_reducible exact ih0 _ _)
      | (with_reducible exact LeO.refl _)
      | (with_reducible exact LeO.none _)
      | (with_reducible refine LeO.ite ?_ ?_)
      | (with_reducible refine LeO.bind ?_ (fun _ => ?_))
      | exact ih0 _ _
      | exact LeO.none _
      | refine LeO.ite ?_ ?_
      | refine LeO.bind ?_ (fun _ => ?_)
set_option maxHeartbeats 8000000 in
set_option maxRecDepth 100000 in
theorem usherlaw5_quotable.calls (k : Nat) (a0 : ByteArray) (r : Bool) (w : World) (h : usherlaw5_quotable.f k a0 = some r) :
    Calls Tryd.prog 19 #[.string a0] w fun e w' => e = .returned (.bool r) ∧ Drawn0 w w' := by
  have H : (usherlaw5_quotable.l0 k a0 0) = some r := h
  clear h
  have H' := Aside0.mk H
  clear H
  go_enter Tryd.func19, Tryd.ntmps19
  go_wp2
  go_loopg [3] k (fun kq v3 w' => ∃ (x3_1 : Int), v3 = .int .i64 x3_1 ∧ Aside0 (usherlaw5_quotable.l0 kq a0 x3_1 = some r) ∧ Aside0 (kq ≤ k) ∧ Drawn0 w w')
  case atStart => exact ⟨(0), (by first | rfl | (simp; done) | (simp [*]; done) | (simp [bne]; done)), H', ⟨Nat.le_refl _⟩, by repeat (first | exact Drawn0.refl _ | apply Drawn0.step)⟩
  case round =>
    clear H'
    try clear c1
    obtain ⟨x3_1, rfl, HA, HK1, ⟨m1, rfl⟩⟩ := hrel
    cases gk with
    | zero => exact absurd HA.out (by simp [usherlaw5_quotable.l0])
    | succ k1 =>
      have H := HA.out
      clear HA
      simp only [usherlaw5_quotable.l0] at H
      by_cases c2 : x3_1 < (a0.size : Int)
      · rw [if_pos c2] at H
        have c2b0 : decide (x3_1 < (a0.size : Int)) = true := decide_eq_true c2
        clear c2
        by_cases c3 : 0 ≤ x3_1
        · rw [if_pos c3] at H
          have c3b0 : decide (0 ≤ x3_1) = true := decide_eq_true c3
          clear c3
          by_cases c5 : (bt a0 x3_1) = 60
          · rw [if_pos c5] at H
            have c5b0 : ((bt a0 x3_1) == 60) = true := beq_iff_eq.mpr c5
            have c5b1 : ((bt a0 x3_1) != 60) = false := bne_eq_false_iff_eq.mpr c5
            clear c5
            obtain rfl := Option.some.inj H
            have p4 : 0 ≤ (x3_1 : Int) := of_decide_eq_true (by first | (with_reducible assumption) | assumption)
            have q4 : x3_1 < (a0.size : Int) := of_decide_eq_true (by first | (with_reducible assumption) | assumption)
            have hx4 := bt_at a0 x3_1
            replace p4 := eq_true p4
            replace q4 := eq_true q4
            go_wp2
            go_ret
            exact ⟨by first | rfl | (simp; done) | (simp [*]; done) | (simp [bne]; done), by repeat (first | exact Drawn0.refl _ | apply Drawn0.step)⟩
          · rw [if_neg c5] at H
            have c5b0 : ((bt a0 x3_1) == 60) = false := beq_eq_false_iff_ne.mpr c5
            have c5b1 : ((bt a0 x3_1) != 60) = true := bne_iff_ne.mpr c5
            by_cases c7 : (bt a0 x3_1) = 62
            · rw [if_pos c7] at H
              have c7b0 : ((bt a0 x3_1) == 62) = true := beq_iff_eq.mpr c7
              have c7b1 : ((bt a0 x3_1) != 62) = false := bne_eq_false_iff_eq.mpr c7
              clear c7
              obtain rfl := Option.some.inj H
              have p4 : 0 ≤ (x3_1 : Int) := of_decide_eq_true (by first | (with_reducible assumption) | assumption)
              have q4 : x3_1 < (a0.size : Int) := of_decide_eq_true (by first | (with_reducible assumption) | assumption)
              have hx4 := bt_at a0 x3_1
              replace p4 := eq_true p4
              replace q4 := eq_true q4
              have p6 : 0 ≤ (x3_1 : Int) := of_decide_eq_true (by first | (with_reducible assumption) | assumption)
              have q6 : x3_1 < (a0.size : Int) := of_decide_eq_true (by first | (with_reducible assumption) | assumption)
              have hx6 := bt_at a0 x3_1
              replace p6 := eq_true p6
              replace q6 := eq_true q6
              go_wp2
              go_ret
              exact ⟨by first | rfl | (simp; done) | (simp [*]; done) | (simp [bne]; done), by repeat (first | exact Drawn0.refl _ | apply Drawn0.step)⟩
            · rw [if_neg c7] at H
              have c7b0 : ((bt a0 x3_1) == 62) = false := beq_eq_false_iff_ne.mpr c7
              have c7b1 : ((bt a0 x3_1) != 62) = true := bne_iff_ne.mpr c7
              by_cases c9 : (bt a0 x3_1) = 34
              · rw [if_pos c9] at H
                have c9b0 : ((bt a0 x3_1) == 34) = true := beq_iff_eq.mpr c9
                have c9b1 : ((bt a0 x3_1) != 34) = false := bne_eq_false_iff_eq.mpr c9
                clear c9
                obtain rfl := Option.some.inj H
                have p4 : 0 ≤ (x3_1 : Int) := of_decide_eq_true (by first | (with_reducible assumption) | assumption)
                have q4 : x3_1 < (a0.size : Int) := of_decide_eq_true (by first | (with_reducible assumption) | assumption)
                have hx4 := bt_at a0 x3_1
                replace p4 := eq_true p4
                replace q4 := eq_true q4
                have p6 : 0 ≤ (x3_1 : Int) := of_decide_eq_true (by first | (with_reducible assumption) | assumption)
                have q6 : x3_1 < (a0.size : Int) := of_decide_eq_true (by first | (with_reducible assumption) | assumption)
                have hx6 := bt_at a0 x3_1
                replace p6 := eq_true p6
                replace q6 := eq_true q6
                have p8 : 0 ≤ (x3_1 : Int) := of_decide_eq_true (by first | (with_reducible assumption) | assumption)
                have q8 : x3_1 < (a0.size : Int) := of_decide_eq_true (by first | (with_reducible assumption) | assumption)
                have hx8 := bt_at a0 x3_1
                replace p8 := eq_true p8
                replace q8 := eq_true q8
                go_wp2
                go_ret
                exact ⟨by first | rfl | (simp; done) | (simp [*]; done) | (simp [bne]; done), by repeat (first | exact Drawn0.refl _ | apply Drawn0.step)⟩
              · rw [if_neg c9] at H
                have c9b0 : ((bt a0 x3_1) == 34) = false := beq_eq_false_iff_ne.mpr c9
                have c9b1 : ((bt a0 x3_1) != 34) = true := bne_iff_ne.mpr c9
                by_cases c11 : (bt a0 x3_1) = 39
                · rw [if_pos c11] at H
                  have c11b0 : ((bt a0 x3_1) == 39) = true := beq_iff_eq.mpr c11
                  have c11b1 : ((bt a0 x3_1) != 39) = false := bne_eq_false_iff_eq.mpr c11
                  clear c11
                  obtain rfl := Option.some.inj H
                  have p4 : 0 ≤ (x3_1 : Int) := of_decide_eq_true (by first | (with_reducible assumption) | assumption)
                  have q4 : x3_1 < (a0.size : Int) := of_decide_eq_true (by first | (with_reducible assumption) | assumption)
                  have hx4 := bt_at a0 x3_1
                  replace p4 := eq_true p4
                  replace q4 := eq_true q4
                  have p6 : 0 ≤ (x3_1 : Int) := of_decide_eq_true (by first | (with_reducible assumption) | assumption)
                  have q6 : x3_1 < (a0.size : Int) := of_decide_eq_true (by first | (with_reducible assumption) | assumption)
                  have hx6 := bt_at a0 x3_1
                  replace p6 := eq_true p6
                  replace q6 := eq_true q6
                  have p8 : 0 ≤ (x3_1 : Int) := of_decide_eq_true (by first | (with_reducible assumption) | assumption)
                  have q8 : x3_1 < (a0.size : Int) := of_decide_eq_true (by first | (with_reducible assumption) | assumption)
                  have hx8 := bt_at a0 x3_1
                  replace p8 := eq_true p8
                  replace q8 := eq_true q8
                  have p10 : 0 ≤ (x3_1 : Int) := of_decide_eq_true (by first | (with_reducible assumption) | assumption)
                  have q10 : x3_1 < (a0.size : Int) := of_decide_eq_true (by first | (with_reducible assumption) | assumption)
                  have hx10 := bt_at a0 x3_1
                  replace p10 := eq_true p10
                  replace q10 := eq_true q10
                  go_wp2
                  go_ret
                  exact ⟨by first | rfl | (simp; done) | (simp [*]; done) | (simp [bne]; done), by repeat (first | exact Drawn0.refl _ | apply Drawn0.step)⟩
                · rw [if_neg c11] at H
                  have c11b0 : ((bt a0 x3_1) == 39) = false := beq_eq_false_iff_ne.mpr c11
                  have c11b1 : ((bt a0 x3_1) != 39) = true := bne_iff_ne.mpr c11
                  have H' := Aside0.mk H
                  clear H
                  have p4 : 0 ≤ (x3_1 : Int) := of_decide_eq_true (by first | (with_reducible assumption) | assumption)
                  have q4 : x3_1 < (a0.size : Int) := of_decide_eq_true (by first | (with_reducible assumption) | assumption)
                  have hx4 := bt_at a0 x3_1
                  replace p4 := eq_true p4
                  replace q4 := eq_true q4
                  have p6 : 0 ≤ (x3_1 : Int) := of_decide_eq_true (by first | (with_reducible assumption) | assumption)
                  have q6 : x3_1 < (a0.size : Int) := of_decide_eq_true (by first | (with_reducible assumption) | assumption)
                  have hx6 := bt_at a0 x3_1
                  replace p6 := eq_true p6
                  replace q6 := eq_true q6
                  have p8 : 0 ≤ (x3_1 : Int) := of_decide_eq_true (by first | (with_reducible assumption) | assumption)
                  have q8 : x3_1 < (a0.size : Int) := of_decide_eq_true (by first | (with_reducible assumption) | assumption)
                  have hx8 := bt_at a0 x3_1
                  replace p8 := eq_true p8
                  replace q8 := eq_true q8
                  have p10 : 0 ≤ (x3_1 : Int) := of_decide_eq_true (by first | (with_reducible assumption) | assumption)
                  have q10 : x3_1 < (a0.size : Int) := of_decide_eq_true (by first | (with_reducible assumption) | assumption)
                  have hx10 := bt_at a0 x3_1
                  replace p10 := eq_true p10
                  replace q10 := eq_true q10
                  go_wp2
                  go_roundg k1
                  case measure => have := HK1.out; omega
                  case rel => exact ⟨(wrap64 (x3_1 + 1)), (by first | rfl | (simp; done) | (simp [*]; done) | (simp [bne]; done)), H', ⟨by have := HK1.out; omega⟩, by repeat (first | exact Drawn0.refl _ | apply Drawn0.step)⟩
        · rw [if_neg c3] at H
          exact absurd H (by simp)
      · rw [if_neg c2] at H
        have c2b0 : decide (x3_1 < (a0.size : Int)) = false := decide_eq_false c2
        clear c2
        obtain rfl := Option.some.inj H
        go_wp2
        go_ret
        exact ⟨by first | rfl | (simp; done) | (simp [*]; done) | (simp [bne]; done), by repeat (first | exact Drawn0.refl _ | apply Drawn0.step)⟩

end Go.Proofs.YtmaedmmcjhmheaaDoor.X
