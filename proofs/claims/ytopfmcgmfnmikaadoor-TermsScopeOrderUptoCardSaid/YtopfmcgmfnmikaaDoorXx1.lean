-- Printed by a program of this session (wip/xprint), not by the kit's print.
import Derived.Test.YtopfmcgmfnmikaaDoorXx0
namespace Go.Proofs.YtopfmcgmfnmikaaDoor.X
open Go.RowKit Go.Proofs.YtopfmcgmfnmikaaDoorW.PrintWords Go.Proofs.YtopfmcgmfnmikaaDoorW.PrintLast Go.Proofs.YtopfmcgmfnmikaaDoorW.PrintMore
attribute [local go_sem] max2_int min2_int max_two min_two max_three min_three max_four min_four   -- for this text's walks alone
set_option linter.unusedVariables false
set_option linter.unusedSimpArgs false
open Go.Proofs.YtopfmcgmfnmikaaDoor
attribute [local go_sem] ErrBlk_alloc ErrBlk_drew ErrBlk_drewN errs_eql errs_neq nil_errs_eql nil_errs_neq
variable {EA : Int → Addr} {SS : List Int}

/-! ### usherkit_more: function 37 -/
def usherkit_more.f (a0 : Option Int) : Option (Int) := if a0.isNone = true then (some (-1)) else (if (a0.getD 0) = 8 then (some 8) else (if (a0.getD 0) = 9 then (some 9) else (if (a0.getD 0) = 10 then (some 10) else (if (a0.getD 0) = 11 then (some 11) else (if (a0.getD 0) = 12 then (some 12) else (if (a0.getD 0) = 13 then (some 13) else (some (-1))))))))
set_option maxHeartbeats 8000000 in
set_option maxRecDepth 100000 in
theorem usherkit_more.calls (hk8 : (8 : Int) ∈ SS) (hk9 : (9 : Int) ∈ SS) (hk10 : (10 : Int) ∈ SS) (hk11 : (11 : Int) ∈ SS) (hk12 : (12 : Int) ∈ SS) (hk13 : (13 : Int) ∈ SS) (a0 : Option Int) (r : Int) (w : World) (hE : Sent EA SS w) (h : usherkit_more.f a0 = some r) :
    Calls Tryd.prog 37 #[errW EA a0] w fun e w' => e = .returned (.int .i64 r) ∧ Drawn0 w w' := by
  have hu32 := Tryd.underlying32
  have hu139 := Tryd.underlying139
  have HE := Aside0.mk hE
  clear hE
  have H : (if a0.isNone = true then (some (-1)) else (if (a0.getD 0) = 8 then (some 8) else (if (a0.getD 0) = 9 then (some 9) else (if (a0.getD 0) = 10 then (some 10) else (if (a0.getD 0) = 11 then (some 11) else (if (a0.getD 0) = 12 then (some 12) else (if (a0.getD 0) = 13 then (some 13) else (some (-1))))))))) = some r := h
  clear h
  rcases a0 with _ | q101
  · have H1 : (some (-1)) = some r := by rw [if_pos (show (none : Option Int).isNone = true by rfl)] at H; exact H
    clear H
    have H := H1
    clear H1
    simp only [errW_none, errW_some]
    obtain rfl := Option.some.inj H
    have hg2 := Sent.at_8 HE.out hk8
    have hg3 := Sent.at_9 HE.out hk9
    have hg4 := Sent.at_10 HE.out hk10
    have hg5 := Sent.at_11 HE.out hk11
    have hg6 := Sent.at_12 HE.out hk12
    have hg7 := Sent.at_13 HE.out hk13
    go_enter Tryd.func37, Tryd.ntmps37
    go_wp2
    go_ret
    exact ⟨by first | rfl | (simp; done) | (simp [*]; done) | (simp [bne]; done), by repeat (first | exact Drawn0.refl _ | apply Drawn0.step)⟩
  · have H1 : (if q101 = 8 then (some 8) else (if q101 = 9 then (some 9) else (if q101 = 10 then (some 10) else (if q101 = 11 then (some 11) else (if q101 = 12 then (some 12) else (if q101 = 13 then (some 13) else (some (-1)))))))) = some r := by rw [if_neg (show ¬ (some q101).isNone = true by simp)] at H; exact H
    clear H
    have H := H1
    clear H1
    simp only [errW_none, errW_some]
    by_cases c8 : q101 = 8
    · rw [if_pos c8] at H
      have c8b0 : (q101 == 8) = true := beq_iff_eq.mpr c8
      have c8b1 : (q101 != 8) = false := bne_eq_false_iff_eq.mpr c8
      clear c8
      obtain rfl := Option.some.inj H
      have hg9 := Sent.at_8 HE.out hk8
      have hg10 := Sent.errs HE.out
      go_enter Tryd.func37, Tryd.ntmps37
      go_wp2
      go_ret
      exact ⟨by first | rfl | (simp; done) | (simp [*]; done) | (simp [bne]; done), by repeat (first | exact Drawn0.refl _ | apply Drawn0.step)⟩
    · rw [if_neg c8] at H
      have c8b0 : (q101 == 8) = false := beq_eq_false_iff_ne.mpr c8
      have c8b1 : (q101 != 8) = true := bne_iff_ne.mpr c8
      by_cases c11 : q101 = 9
      · rw [if_pos c11] at H
        have c11b0 : (q101 == 9) = true := beq_iff_eq.mpr c11
        have c11b1 : (q101 != 9) = false := bne_eq_false_iff_eq.mpr c11
        clear c11
        obtain rfl := Option.some.inj H
        have hg12 := Sent.at_8 HE.out hk8
        have hg13 := Sent.errs HE.out
        have hg14 := Sent.at_9 HE.out hk9
        have hg15 := Sent.errs HE.out
        go_enter Tryd.func37, Tryd.ntmps37
        go_wp2
        go_ret
        exact ⟨by first | rfl | (simp; done) | (simp [*]; done) | (simp [bne]; done), by repeat (first | exact Drawn0.refl _ | apply Drawn0.step)⟩
      · rw [if_neg c11] at H
        have c11b0 : (q101 == 9) = false := beq_eq_false_iff_ne.mpr c11
        have c11b1 : (q101 != 9) = true := bne_iff_ne.mpr c11
        by_cases c16 : q101 = 10
        · rw [if_pos c16] at H
          have c16b0 : (q101 == 10) = true := beq_iff_eq.mpr c16
          have c16b1 : (q101 != 10) = false := bne_eq_false_iff_eq.mpr c16
          clear c16
          obtain rfl := Option.some.inj H
          have hg17 := Sent.at_8 HE.out hk8
          have hg18 := Sent.errs HE.out
          have hg19 := Sent.at_9 HE.out hk9
          have hg20 := Sent.errs HE.out
          have hg21 := Sent.at_10 HE.out hk10
          have hg22 := Sent.errs HE.out
          go_enter Tryd.func37, Tryd.ntmps37
          go_wp2
          go_ret
          exact ⟨by first | rfl | (simp; done) | (simp [*]; done) | (simp [bne]; done), by repeat (first | exact Drawn0.refl _ | apply Drawn0.step)⟩
        · rw [if_neg c16] at H
          have c16b0 : (q101 == 10) = false := beq_eq_false_iff_ne.mpr c16
          have c16b1 : (q101 != 10) = true := bne_iff_ne.mpr c16
          by_cases c23 : q101 = 11
          · rw [if_pos c23] at H
            have c23b0 : (q101 == 11) = true := beq_iff_eq.mpr c23
            have c23b1 : (q101 != 11) = false := bne_eq_false_iff_eq.mpr c23
            clear c23
            obtain rfl := Option.some.inj H
            have hg24 := Sent.at_8 HE.out hk8
            have hg25 := Sent.errs HE.out
            have hg26 := Sent.at_9 HE.out hk9
            have hg27 := Sent.errs HE.out
            have hg28 := Sent.at_10 HE.out hk10
            have hg29 := Sent.errs HE.out
            have hg30 := Sent.at_11 HE.out hk11
            have hg31 := Sent.errs HE.out
            go_enter Tryd.func37, Tryd.ntmps37
            go_wp2
            go_ret
            exact ⟨by first | rfl | (simp; done) | (simp [*]; done) | (simp [bne]; done), by repeat (first | exact Drawn0.refl _ | apply Drawn0.step)⟩
          · rw [if_neg c23] at H
            have c23b0 : (q101 == 11) = false := beq_eq_false_iff_ne.mpr c23
            have c23b1 : (q101 != 11) = true := bne_iff_ne.mpr c23
            by_cases c32 : q101 = 12
            · rw [if_pos c32] at H
              have c32b0 : (q101 == 12) = true := beq_iff_eq.mpr c32
              have c32b1 : (q101 != 12) = false := bne_eq_false_iff_eq.mpr c32
              clear c32
              obtain rfl := Option.some.inj H
              have hg33 := Sent.at_8 HE.out hk8
              have hg34 := Sent.errs HE.out
              have hg35 := Sent.at_9 HE.out hk9
              have hg36 := Sent.errs HE.out
              have hg37 := Sent.at_10 HE.out hk10
              have hg38 := Sent.errs HE.out
              have hg39 := Sent.at_11 HE.out hk11
              have hg40 := Sent.errs HE.out
              have hg41 := Sent.at_12 HE.out hk12
              have hg42 := Sent.errs HE.out
              go_enter Tryd.func37, Tryd.ntmps37
              go_wp2
              go_ret
              exact ⟨by first | rfl | (simp; done) | (simp [*]; done) | (simp [bne]; done), by repeat (first | exact Drawn0.refl _ | apply Drawn0.step)⟩
            · rw [if_neg c32] at H
              have c32b0 : (q101 == 12) = false := beq_eq_false_iff_ne.mpr c32
              have c32b1 : (q101 != 12) = true := bne_iff_ne.mpr c32
              by_cases c43 : q101 = 13
              · rw [if_pos c43] at H
                have c43b0 : (q101 == 13) = true := beq_iff_eq.mpr c43
                have c43b1 : (q101 != 13) = false := bne_eq_false_iff_eq.mpr c43
                clear c43
                obtain rfl := Option.some.inj H
                have hg44 := Sent.at_8 HE.out hk8
                have hg45 := Sent.errs HE.out
                have hg46 := Sent.at_9 HE.out hk9
                have hg47 := Sent.errs HE.out
                have hg48 := Sent.at_10 HE.out hk10
                have hg49 := Sent.errs HE.out
                have hg50 := Sent.at_11 HE.out hk11
                have hg51 := Sent.errs HE.out
                have hg52 := Sent.at_12 HE.out hk12
                have hg53 := Sent.errs HE.out
                have hg54 := Sent.at_13 HE.out hk13
                have hg55 := Sent.errs HE.out
                go_enter Tryd.func37, Tryd.ntmps37
                go_wp2
                go_ret
                exact ⟨by first | rfl | (simp; done) | (simp [*]; done) | (simp [bne]; done), by repeat (first | exact Drawn0.refl _ | apply Drawn0.step)⟩
              · rw [if_neg c43] at H
                have c43b0 : (q101 == 13) = false := beq_eq_false_iff_ne.mpr c43
                have c43b1 : (q101 != 13) = true := bne_iff_ne.mpr c43
                obtain rfl := Option.some.inj H
                have hg56 := Sent.at_8 HE.out hk8
                have hg57 := Sent.errs HE.out
                have hg58 := Sent.at_9 HE.out hk9
                have hg59 := Sent.errs HE.out
                have hg60 := Sent.at_10 HE.out hk10
                have hg61 := Sent.errs HE.out
                have hg62 := Sent.at_11 HE.out hk11
                have hg63 := Sent.errs HE.out
                have hg64 := Sent.at_12 HE.out hk12
                have hg65 := Sent.errs HE.out
                have hg66 := Sent.at_13 HE.out hk13
                have hg67 := Sent.errs HE.out
                go_enter Tryd.func37, Tryd.ntmps37
                go_wp2
                go_ret
                exact ⟨by first | rfl | (simp; done) | (simp [*]; done) | (simp [bne]; done), by repeat (first | exact Drawn0.refl _ | apply Drawn0.step)⟩

/-! ### usherkit_Num: function 18 -/
def usherkit_Num.f (a0 : Option Int) : Option (Int) := if a0.isNone = true then (some 0) else (if (a0.getD 0) = 1 then (some 1) else (if (a0.getD 0) = 2 then (some 2) else (if (a0.getD 0) = 3 then (some 3) else (if (a0.getD 0) = 4 then (some 4) else (if (a0.getD 0) = 5 then (some 5) else (if (a0.getD 0) = 6 then (some 6) else (if (a0.getD 0) = 7 then (some 7) else ((usherkit_more.f (some (a0.getD 0))).bind fun t103 => (some t103)))))))))
set_option maxHeartbeats 8000000 in
set_option maxRecDepth 100000 in
theorem usherkit_Num.calls (hk1 : (1 : Int) ∈ SS) (hk2 : (2 : Int) ∈ SS) (hk3 : (3 : Int) ∈ SS) (hk4 : (4 : Int) ∈ SS) (hk5 : (5 : Int) ∈ SS) (hk6 : (6 : Int) ∈ SS) (hk7 : (7 : Int) ∈ SS) (hk8 : (8 : Int) ∈ SS) (hk9 : (9 : Int) ∈ SS) (hk10 : (10 : Int) ∈ SS) (hk11 : (11 : Int) ∈ SS) (hk12 : (12 : Int) ∈ SS) (hk13 : (13 : Int) ∈ SS) (a0 : Option Int) (r : Int) (w : World) (hE : Sent EA SS w) (h : usherkit_Num.f a0 = some r) :
    Calls Tryd.prog 18 #[errW EA a0] w fun e w' => e = .returned (.int .i64 r) ∧ Drawn0 w w' := by
  have hu32 := Tryd.underlying32
  have hu139 := Tryd.underlying139
  have HE := Aside0.mk hE
  clear hE
  have H : (if a0.isNone = true then (some 0) else (if (a0.getD 0) = 1 then (some 1) else (if (a0.getD 0) = 2 then (some 2) else (if (a0.getD 0) = 3 then (some 3) else (if (a0.getD 0) = 4 then (some 4) else (if (a0.getD 0) = 5 then (some 5) else (if (a0.getD 0) = 6 then (some 6) else (if (a0.getD 0) = 7 then (some 7) else ((usherkit_more.f (some (a0.getD 0))).bind fun t103 => (some t103)))))))))) = some r := h
  clear h
  rcases a0 with _ | q102
  · have H1 : (some 0) = some r := by rw [if_pos (show (none : Option Int).isNone = true by rfl)] at H; exact H
    clear H
    have H := H1
    clear H1
    simp only [errW_none, errW_some]
    obtain rfl := Option.some.inj H
    go_enter Tryd.func18, Tryd.ntmps18
    go_wp2
    go_ret
    exact ⟨by first | rfl | (simp; done) | (simp [*]; done) | (simp [bne]; done), by repeat (first | exact Drawn0.refl _ | apply Drawn0.step)⟩
  · have H1 : (if q102 = 1 then (some 1) else (if q102 = 2 then (some 2) else (if q102 = 3 then (some 3) else (if q102 = 4 then (some 4) else (if q102 = 5 then (some 5) else (if q102 = 6 then (some 6) else (if q102 = 7 then (some 7) else ((usherkit_more.f (some q102)).bind fun t103 => (some t103))))))))) = some r := by rw [if_neg (show ¬ (some q102).isNone = true by simp)] at H; exact H
    clear H
    have H := H1
    clear H1
    simp only [errW_none, errW_some]
    by_cases c2 : q102 = 1
    · rw [if_pos c2] at H
      have c2b0 : (q102 == 1) = true := beq_iff_eq.mpr c2
      have c2b1 : (q102 != 1) = false := bne_eq_false_iff_eq.mpr c2
      clear c2
      obtain rfl := Option.some.inj H
      have hg3 := Sent.at_1 HE.out hk1
      have hg4 := Sent.errs HE.out
      go_enter Tryd.func18, Tryd.ntmps18
      go_wp2
      go_ret
      exact ⟨by first | rfl | (simp; done) | (simp [*]; done) | (simp [bne]; done), by repeat (first | exact Drawn0.refl _ | apply Drawn0.step)⟩
    · rw [if_neg c2] at H
      have c2b0 : (q102 == 1) = false := beq_eq_false_iff_ne.mpr c2
      have c2b1 : (q102 != 1) = true := bne_iff_ne.mpr c2
      by_cases c5 : q102 = 2
      · rw [if_pos c5] at H
        have c5b0 : (q102 == 2) = true := beq_iff_eq.mpr c5
        have c5b1 : (q102 != 2) = false := bne_eq_false_iff_eq.mpr c5
        clear c5
        obtain rfl := Option.some.inj H
        have hg6 := Sent.at_1 HE.out hk1
        have hg7 := Sent.errs HE.out
        have hg8 := Sent.at_2 HE.out hk2
        have hg9 := Sent.errs HE.out
        go_enter Tryd.func18, Tryd.ntmps18
        go_wp2
        go_ret
        exact ⟨by first | rfl | (simp; done) | (simp [*]; done) | (simp [bne]; done), by repeat (first | exact Drawn0.refl _ | apply Drawn0.step)⟩
      · rw [if_neg c5] at H
        have c5b0 : (q102 == 2) = false := beq_eq_false_iff_ne.mpr c5
        have c5b1 : (q102 != 2) = true := bne_iff_ne.mpr c5
        by_cases c10 : q102 = 3
        · rw [if_pos c10] at H
          have c10b0 : (q102 == 3) = true := beq_iff_eq.mpr c10
          have c10b1 : (q102 != 3) = false := bne_eq_false_iff_eq.mpr c10
          clear c10
          obtain rfl := Option.some.inj H
          have hg11 := Sent.at_1 HE.out hk1
          have hg12 := Sent.errs HE.out
          have hg13 := Sent.at_2 HE.out hk2
          have hg14 := Sent.errs HE.out
          have hg15 := Sent.at_3 HE.out hk3
          have hg16 := Sent.errs HE.out
          go_enter Tryd.func18, Tryd.ntmps18
          go_wp2
          go_ret
          exact ⟨by first | rfl | (simp; done) | (simp [*]; done) | (simp [bne]; done), by repeat (first | exact Drawn0.refl _ | apply Drawn0.step)⟩
        · rw [if_neg c10] at H
          have c10b0 : (q102 == 3) = false := beq_eq_false_iff_ne.mpr c10
          have c10b1 : (q102 != 3) = true := bne_iff_ne.mpr c10
          by_cases c17 : q102 = 4
          · rw [if_pos c17] at H
            have c17b0 : (q102 == 4) = true := beq_iff_eq.mpr c17
            have c17b1 : (q102 != 4) = false := bne_eq_false_iff_eq.mpr c17
            clear c17
            obtain rfl := Option.some.inj H
            have hg18 := Sent.at_1 HE.out hk1
            have hg19 := Sent.errs HE.out
            have hg20 := Sent.at_2 HE.out hk2
            have hg21 := Sent.errs HE.out
            have hg22 := Sent.at_3 HE.out hk3
            have hg23 := Sent.errs HE.out
            have hg24 := Sent.at_4 HE.out hk4
            have hg25 := Sent.errs HE.out
            go_enter Tryd.func18, Tryd.ntmps18
            go_wp2
            go_ret
            exact ⟨by first | rfl | (simp; done) | (simp [*]; done) | (simp [bne]; done), by repeat (first | exact Drawn0.refl _ | apply Drawn0.step)⟩
          · rw [if_neg c17] at H
            have c17b0 : (q102 == 4) = false := beq_eq_false_iff_ne.mpr c17
            have c17b1 : (q102 != 4) = true := bne_iff_ne.mpr c17
            by_cases c26 : q102 = 5
            · rw [if_pos c26] at H
              have c26b0 : (q102 == 5) = true := beq_iff_eq.mpr c26
              have c26b1 : (q102 != 5) = false := bne_eq_false_iff_eq.mpr c26
              clear c26
              obtain rfl := Option.some.inj H
              have hg27 := Sent.at_1 HE.out hk1
              have hg28 := Sent.errs HE.out
              have hg29 := Sent.at_2 HE.out hk2
              have hg30 := Sent.errs HE.out
              have hg31 := Sent.at_3 HE.out hk3
              have hg32 := Sent.errs HE.out
              have hg33 := Sent.at_4 HE.out hk4
              have hg34 := Sent.errs HE.out
              have hg35 := Sent.at_5 HE.out hk5
              have hg36 := Sent.errs HE.out
              go_enter Tryd.func18, Tryd.ntmps18
              go_wp2
              go_ret
              exact ⟨by first | rfl | (simp; done) | (simp [*]; done) | (simp [bne]; done), by repeat (first | exact Drawn0.refl _ | apply Drawn0.step)⟩
            · rw [if_neg c26] at H
              have c26b0 : (q102 == 5) = false := beq_eq_false_iff_ne.mpr c26
              have c26b1 : (q102 != 5) = true := bne_iff_ne.mpr c26
              by_cases c37 : q102 = 6
              · rw [if_pos c37] at H
                have c37b0 : (q102 == 6) = true := beq_iff_eq.mpr c37
                have c37b1 : (q102 != 6) = false := bne_eq_false_iff_eq.mpr c37
                clear c37
                obtain rfl := Option.some.inj H
                have hg38 := Sent.at_1 HE.out hk1
                have hg39 := Sent.errs HE.out
                have hg40 := Sent.at_2 HE.out hk2
                have hg41 := Sent.errs HE.out
                have hg42 := Sent.at_3 HE.out hk3
                have hg43 := Sent.errs HE.out
                have hg44 := Sent.at_4 HE.out hk4
                have hg45 := Sent.errs HE.out
                have hg46 := Sent.at_5 HE.out hk5
                have hg47 := Sent.errs HE.out
                have hg48 := Sent.at_6 HE.out hk6
                have hg49 := Sent.errs HE.out
                go_enter Tryd.func18, Tryd.ntmps18
                go_wp2
                go_ret
                exact ⟨by first | rfl | (simp; done) | (simp [*]; done) | (simp [bne]; done), by repeat (first | exact Drawn0.refl _ | apply Drawn0.step)⟩
              · rw [if_neg c37] at H
                have c37b0 : (q102 == 6) = false := beq_eq_false_iff_ne.mpr c37
                have c37b1 : (q102 != 6) = true := bne_iff_ne.mpr c37
                by_cases c50 : q102 = 7
                · rw [if_pos c50] at H
                  have c50b0 : (q102 == 7) = true := beq_iff_eq.mpr c50
                  have c50b1 : (q102 != 7) = false := bne_eq_false_iff_eq.mpr c50
                  clear c50
                  obtain rfl := Option.some.inj H
                  have hg51 := Sent.at_1 HE.out hk1
                  have hg52 := Sent.errs HE.out
                  have hg53 := Sent.at_2 HE.out hk2
                  have hg54 := Sent.errs HE.out
                  have hg55 := Sent.at_3 HE.out hk3
                  have hg56 := Sent.errs HE.out
                  have hg57 := Sent.at_4 HE.out hk4
                  have hg58 := Sent.errs HE.out
                  have hg59 := Sent.at_5 HE.out hk5
                  have hg60 := Sent.errs HE.out
                  have hg61 := Sent.at_6 HE.out hk6
                  have hg62 := Sent.errs HE.out
                  have hg63 := Sent.at_7 HE.out hk7
                  have hg64 := Sent.errs HE.out
                  go_enter Tryd.func18, Tryd.ntmps18
                  go_wp2
                  go_ret
                  exact ⟨by first | rfl | (simp; done) | (simp [*]; done) | (simp [bne]; done), by repeat (first | exact Drawn0.refl _ | apply Drawn0.step)⟩
                · rw [if_neg c50] at H
                  have c50b0 : (q102 == 7) = false := beq_eq_false_iff_ne.mpr c50
                  have c50b1 : (q102 != 7) = true := bne_iff_ne.mpr c50
                  replace H := Option.bind_eq_some_iff.mp H
                  obtain ⟨t103, A650, H⟩ := H
                  replace H : (some t103) = some r := H
                  have A65 := Aside0.mk A650
                  clear A650
                  obtain rfl := Option.some.inj H
                  have hg66 := Sent.at_1 HE.out hk1
                  have hg67 := Sent.errs HE.out
                  have hg68 := Sent.at_2 HE.out hk2
                  have hg69 := Sent.errs HE.out
                  have hg70 := Sent.at_3 HE.out hk3
                  have hg71 := Sent.errs HE.out
                  have hg72 := Sent.at_4 HE.out hk4
                  have hg73 := Sent.errs HE.out
                  have hg74 := Sent.at_5 HE.out hk5
                  have hg75 := Sent.errs HE.out
                  have hg76 := Sent.at_6 HE.out hk6
                  have hg77 := Sent.errs HE.out
                  have hg78 := Sent.at_7 HE.out hk7
                  have hg79 := Sent.errs HE.out
                  have CA65 := fun W (hE_ : Sent EA SS W) => usherkit_more.calls (EA := EA) hk8 hk9 hk10 hk11 hk12 hk13 (some q102) t103 W hE_ A65.out
                  try simp only [errW_none, errW_some] at CA65
                  go_enter Tryd.func18, Tryd.ntmps18
                  go_wp2_with (first | (go_at_call 37; (with_reducible refine (CA65 _ ?sideE).mono ?_); (case sideE => repeat (first | exact HE.out | (with_reducible refine Sent.alloc ?_ _) | (with_reducible refine Sent.drewN ?_ _) | (with_reducible refine Sent.drew ?_))); rintro e w' ⟨rfl, ⟨nd, rfl⟩⟩))
                  go_ret
                  exact ⟨by first | rfl | (simp; done) | (simp [*]; done) | (simp [bne]; done), by repeat (first | exact Drawn0.refl _ | apply Drawn0.step)⟩

-- NOT PRINTED: function 107 (utf8_RuneCountInString)

-- NOT PRINTED: function 135 (utf8_decodeRuneInStringSlow)

-- NOT PRINTED: function 108 (utf8_DecodeRuneInString)

-- NOT PRINTED: function 133 (bytealg_IndexByteString)

-- NOT PRINTED: function 103 (stringslite_IndexByte)

-- NOT PRINTED: function 104 (bytealg_IndexString)

/-! ### bytealg_Cutover: function 105 -/
def bytealg_Cutover.f (a0 : Int) : Option (Int) := some (wrap64 (Int.tdiv (wrap64 (a0 + 16)) 8))
set_option maxHeartbeats 8000000 in
set_option maxRecDepth 100000 in
theorem bytealg_Cutover.calls (a0 : Int) (r : Int) (w : World) (h : bytealg_Cutover.f a0 = some r) :
    Calls Tryd.prog 105 #[.int .i64 a0] w fun e w' => e = .returned (.int .i64 r) ∧ Drawn0 w w' := by
  have H : (some (wrap64 (Int.tdiv (wrap64 (a0 + 16)) 8))) = some r := h
  clear h
  obtain rfl := Option.some.inj H
  go_enter Tryd.func105, Tryd.ntmps105
  go_wp2
  go_ret
  exact ⟨by first | rfl | (simp; done) | (simp [*]; done) | (simp [bne]; done), by repeat (first | exact Drawn0.refl _ | apply Drawn0.step)⟩

/-! ### bytealg_hashStr_string: function 134 -/
mutual
def bytealg_hashStr_string.l0 : Nat → ByteArray → Int → Int → Option (Int × Int)
  | 0, _, _, _ => none
  | k + 1, x0, x4, x5 => if x5 < (x0.size : Int) then (if 0 ≤ x5 then (bytealg_hashStr_string.l0 k x0 ((x4 * 16777619 + (bt x0 x5)) % 4294967296) (wrap64 (x5 + 1))) else (none)) else (bytealg_hashStr_string.l1 k x4 1 16777619 (x0.size : Int))
def bytealg_hashStr_string.l1 : Nat → Int → Int → Int → Int → Option (Int × Int)
  | 0, _, _, _, _ => none
  | k + 1, x4, x6, x7, x8 => if x8 > 0 then (if (Go.bits .and .i64 x8 1) = 0 then (bytealg_hashStr_string.l1 k x4 x6 ((x7 * x7) % 4294967296) (x8 / 2)) else (bytealg_hashStr_string.l1 k x4 ((x6 * x7) % 4294967296) ((x7 * x7) % 4294967296) (x8 / 2))) else (some (x4, x6))
end
def bytealg_hashStr_string.f (k : Nat) (a0 : ByteArray) : Option (Int × Int) := bytealg_hashStr_string.l0 k a0 0 0
theorem bytealg_hashStr_string.mono_l : ∀ k, (∀ y0 y1 y2, LeO (bytealg_hashStr_string.l0 k y0 y1 y2) (bytealg_hashStr_string.l0 (k + 1) y0 y1 y2)) ∧ (∀ y0 y1 y2 y3, LeO (bytealg_hashStr_string.l1 k y0 y1 y2 y3) (bytealg_hashStr_string.l1 (k + 1) y0 y1 y2 y3))
  | 0 => ⟨fun _ _ _ r h => by simp [bytealg_hashStr_string.l0] at h, fun _ _ _ _ r h => by simp [bytealg_hashStr_string.l1] at h⟩
  | k + 1 => by
    obtain ⟨ih0, ih1⟩ := bytealg_hashStr_string.mono_l k
    refine ⟨?_, ?_⟩
    · intro y0 y1 y2
      unfold bytealg_hashStr_string.l0
      repeat' first
      | (with_reducible exact ih0 _ _ _)
      | (with_reducible exact ih1 _ _ _ _)
      | (with_reducible exact LeO.refl _)
      | (with_reducible exact LeO.none _)
      | (with_reducible refine LeO.ite ?_ ?_)
      | (with_reducible refine LeO.bind ?_ (fun _ => ?_))
      | exact ih0 _ _ _
      | exact ih1 _ _ _ _
      | exact LeO.none _
      | refine LeO.ite ?_ ?_
      | refine LeO.bind ?_ (fun _ => ?_)
    · intro y0 y1 y2 y3
      unfold bytealg_hashStr_string.l1
      repeat' first
      | (with_reducible exact ih0 _ _ _)
      | (with_reducible exact ih1 _ _ _ _)
      | (with_reducible exact LeO.refl _)
      | (with_reducible exact LeO.none _)
      | (with_reducible refine LeO.ite ?_ ?_)
      | (with_reducible refine LeO.bind ?_ (fun _ => ?_))
      | exact ih0 _ _ _
      | exact ih1 _ _ _ _
      | exact LeO.none _
      | refine LeO.ite ?_ ?_
      | refine LeO.bind ?_ (fun _ => ?_)
theorem bytealg_hashStr_string.mono : ∀ a0 k, LeO (bytealg_hashStr_string.f k a0) (bytealg_hashStr_string.f (k + 1) a0) := by
  intro a0 k
  obtain ⟨ih0, ih1⟩ := bytealg_hashStr_string.mono_l k
  unfold bytealg_hashStr_string.f
  repeat' first
      | (with_reducible exact ih0 _ _ _)
      | (with_reducible exact ih1 _ _ _ _)
      | (with_reducible exact LeO.refl _)
      | (with_reducible exact LeO.none _)
      | (with_reducible refine LeO.ite ?_ ?_)
      | (with_reducible refine LeO.bind ?_ (fun _ => ?_))
      | exact ih0 _ _ _
      | exact ih1 _ _ _ _
      | exact LeO.none _
      | refine LeO.ite ?_ ?_
      | refine LeO.bind ?_ (fun _ => ?_)
set_option maxHeartbeats 8000000 in
set_option maxRecDepth 100000 in
theorem bytealg_hashStr_string.calls (k : Nat) (a0 : ByteArray) (r1 : Int) (r2 : Int) (w : World) (h : bytealg_hashStr_string.f k a0 = some (r1, r2)) :
    Calls Tryd.prog 134 #[.string a0] w fun e w' => e = .returned (.tuple #[.int .u32 r1, .int .u32 r2]) ∧ Drawn0 w w' := by
  have H : (bytealg_hashStr_string.l0 k a0 0 0) = some (r1, r2) := h
  clear h
  have H' := Aside0.mk H
  clear H
  go_enter Tryd.func134, Tryd.ntmps134
  go_wp2
  go_loopg [4, 5] k (fun kq v4 v5 w' => ∃ (x4_1 : Int) (x5_1 : Int), v4 = .int .u32 x4_1 ∧ v5 = .int .i64 x5_1 ∧ Aside0 (bytealg_hashStr_string.l0 kq a0 x4_1 x5_1 = some (r1, r2)) ∧ Aside0 (kq ≤ k) ∧ Drawn0 w w')
  case atStart => exact ⟨(0), (0), (by first | rfl | (simp; done) | (simp [*]; done) | (simp [bne]; done)), (by first | rfl | (simp; done) | (simp [*]; done) | (simp [bne]; done)), H', ⟨Nat.le_refl _⟩, by repeat (first | exact Drawn0.refl _ | apply Drawn0.step)⟩
  case round =>
    clear H'
    try clear c1
    obtain ⟨x4_1, x5_1, rfl, rfl, HA, HK1, ⟨m1, rfl⟩⟩ := hrel
    cases gk with
    | zero => exact absurd HA.out (by simp [bytealg_hashStr_string.l0])
    | succ k1 =>
      have H := HA.out
      clear HA
      simp only [bytealg_hashStr_string.l0] at H
      by_cases c2 : x5_1 < (a0.size : Int)
      · rw [if_pos c2] at H
        have c2b0 : decide (x5_1 < (a0.size : Int)) = true := decide_eq_true c2
        clear c2
        by_cases c3 : 0 ≤ x5_1
        · rw [if_pos c3] at H
          have c3b0 : decide (0 ≤ x5_1) = true := decide_eq_true c3
          clear c3
          have H' := Aside0.mk H
          clear H
          have p4 : 0 ≤ (x5_1 : Int) := of_decide_eq_true (by first | (with_reducible assumption) | assumption)
          have q4 : x5_1 < (a0.size : Int) := of_decide_eq_true (by first | (with_reducible assumption) | assumption)
          have hx4 := bt_at a0 x5_1
          replace p4 := eq_true p4
          replace q4 := eq_true q4
          go_wp2
          go_roundg k1
          case measure => have := HK1.out; omega
          case rel => exact ⟨((x4_1 * 16777619 + (bt a0 x5_1)) % 4294967296), (wrap64 (x5_1 + 1)), (by first | rfl | (simp; done) | (simp [*]; done) | (simp [bne]; done)), (by first | rfl | (simp; done) | (simp [*]; done) | (simp [bne]; done)), H', ⟨by have := HK1.out; omega⟩, by repeat (first | exact Drawn0.refl _ | apply Drawn0.step)⟩
        · rw [if_neg c3] at H
          exact absurd H (by simp)
      · rw [if_neg c2] at H
        have c2b0 : decide (x5_1 < (a0.size : Int)) = false := decide_eq_false c2
        clear c2
        have H' := Aside0.mk H
        clear H
        go_wp2
        go_loopg [6, 7, 8] k1 (fun kq v6 v7 v8 w' => ∃ (x6_2 : Int) (x7_2 : Int) (x8_2 : Int), v6 = .int .u32 x6_2 ∧ v7 = .int .u32 x7_2 ∧ v8 = .int .i64 x8_2 ∧ Aside0 (bytealg_hashStr_string.l1 kq x4_1 x6_2 x7_2 x8_2 = some (r1, r2)) ∧ Aside0 (kq ≤ k1) ∧ Drawn0 w w')
        case atStart => exact ⟨(1), (16777619), ((a0.size : Int)), (by first | rfl | (simp; done) | (simp [*]; done) | (simp [bne]; done)), (by first | rfl | (simp; done) | (simp [*]; done) | (simp [bne]; done)), (by first | rfl | (simp; done) | (simp [*]; done) | (simp [bne]; done)), H', ⟨Nat.le_refl _⟩, by repeat (first | exact Drawn0.refl _ | apply Drawn0.step)⟩
        case round =>
          clear H'
          try clear c1
          try clear c2
          try clear c2b0
          try clear p2
          try clear c3
          try clear c3b0
          try clear p4
          try clear q4
          try clear hx4
          try clear p4
          try clear q4
          obtain ⟨x6_2, x7_2, x8_2, rfl, rfl, rfl, HA, HK2, ⟨m2, rfl⟩⟩ := hrel
          cases gk with
          | zero => exact absurd HA.out (by simp [bytealg_hashStr_string.l1])
          | succ k2 =>
            have H := HA.out
            clear HA
            simp only [bytealg_hashStr_string.l1] at H
            by_cases c5 : x8_2 > 0
            · rw [if_pos c5] at H
              have c5b0 : decide (0 < x8_2) = true := decide_eq_true c5
              clear c5
              by_cases c6 : (Go.bits .and .i64 x8_2 1) = 0
              · rw [if_pos c6] at H
                have c6b0 : ((Go.bits .and .i64 x8_2 1) == 0) = true := beq_iff_eq.mpr c6
                have c6b1 : ((Go.bits .and .i64 x8_2 1) != 0) = false := bne_eq_false_iff_eq.mpr c6
                clear c6
                have H' := Aside0.mk H
                clear H
                go_wp2
                go_roundg k2
                case measure => have := HK1.out; have := HK2.out; omega
                case rel => exact ⟨(x6_2), ((x7_2 * x7_2) % 4294967296), (x8_2 / 2), (by first | rfl | (simp; done) | (simp [*]; done) | (simp [bne]; done)), (by first | rfl | (simp; done) | (simp [*]; done) | (simp [bne]; done)), (by first | rfl | (simp; done) | (simp [*]; done) | (simp [bne]; done)), H', ⟨by have := HK1.out; have := HK2.out; omega⟩, by repeat (first | exact Drawn0.refl _ | apply Drawn0.step)⟩
              · rw [if_neg c6] at H
                have c6b0 : ((Go.bits .and .i64 x8_2 1) == 0) = false := beq_eq_false_iff_ne.mpr c6
                have c6b1 : ((Go.bits .and .i64 x8_2 1) != 0) = true := bne_iff_ne.mpr c6
                have H' := Aside0.mk H
                clear H
                go_wp2
                go_roundg k2
                case measure => have := HK1.out; have := HK2.out; omega
                case rel => exact ⟨((x6_2 * x7_2) % 4294967296), ((x7_2 * x7_2) % 4294967296), (x8_2 / 2), (by first | rfl | (simp; done) | (simp [*]; done) | (simp [bne]; done)), (by first | rfl | (simp; done) | (simp [*]; done) | (simp [bne]; done)), (by first | rfl | (simp; done) | (simp [*]; done) | (simp [bne]; done)), H', ⟨by have := HK1.out; have := HK2.out; omega⟩, by repeat (first | exact Drawn0.refl _ | apply Drawn0.step)⟩
            · rw [if_neg c5] at H
              have c5b0 : decide (0 < x8_2) = false := decide_eq_false c5
              clear c5
              simp only [Option.some.injEq, Prod.mk.injEq] at H
              obtain ⟨rfl, rfl⟩ := H
              go_wp2
              go_ret2
              exact ⟨by first | rfl | (simp; done) | (simp [*]; done) | (simp [bne]; done), by repeat (first | exact Drawn0.refl _ | apply Drawn0.step)⟩

end Go.Proofs.YtopfmcgmfnmikaaDoor.X
