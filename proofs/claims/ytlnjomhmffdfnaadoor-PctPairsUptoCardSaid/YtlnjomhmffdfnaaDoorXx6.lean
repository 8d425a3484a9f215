-- Printed by a program of this session (wip/xprint), not by the kit's print.
import Derived.Test.YtlnjomhmffdfnaaDoorXx0
import Derived.Test.YtlnjomhmffdfnaaDoorXx4
import Derived.Test.YtlnjomhmffdfnaaDoorXx5
namespace Go.Proofs.YtlnjomhmffdfnaaDoor.X
open Go.RowKit Go.Proofs.YtlnjomhmffdfnaaDoorW.PrintWords Go.Proofs.YtlnjomhmffdfnaaDoorW.PrintLast Go.Proofs.YtlnjomhmffdfnaaDoorW.PrintMore
attribute [local go_sem] max2_int min2_int max_two min_two max_three min_three max_four min_four   -- for this text's walks alone
set_option linter.unusedVariables false
set_option linter.unusedSimpArgs false
open Go.Proofs.YtlnjomhmffdfnaaDoor
attribute [local go_sem] ErrBlk_alloc ErrBlk_drew ErrBlk_drewN errs_eql errs_neq nil_errs_eql nil_errs_neq
variable {EA : Int → Addr} {SS : List Int}

/-! ### usherkit_more: function 43 -/
def usherkit_more.f (a0 : Option Int) : Option (Int) := if a0.isNone = true then (some (-1)) else (if (a0.getD 0) = 8 then (some 8) else (if (a0.getD 0) = 9 then (some 9) else (if (a0.getD 0) = 10 then (some 10) else (if (a0.getD 0) = 11 then (some 11) else (if (a0.getD 0) = 12 then (some 12) else (if (a0.getD 0) = 13 then (some 13) else (some (-1))))))))
set_option maxHeartbeats 8000000 in
set_option maxRecDepth 100000 in
theorem usherkit_more.calls (hk8 : (8 : Int) ∈ SS) (hk9 : (9 : Int) ∈ SS) (hk10 : (10 : Int) ∈ SS) (hk11 : (11 : Int) ∈ SS) (hk12 : (12 : Int) ∈ SS) (hk13 : (13 : Int) ∈ SS) (a0 : Option Int) (r : Int) (w : World) (hE : Sent EA SS w) (h : usherkit_more.f a0 = some r) :
    Calls Tryd.prog 43 #[errW EA a0] w fun e w' => e = .returned (.int .i64 r) ∧ Drawn0 w w' := by
  have hu27 := Tryd.underlying27
  have hu98 := Tryd.underlying98
  have HE := Aside0.mk hE
  clear hE
  have H : (if a0.isNone = true then (some (-1)) else (if (a0.getD 0) = 8 then (some 8) else (if (a0.getD 0) = 9 then (some 9) else (if (a0.getD 0) = 10 then (some 10) else (if (a0.getD 0) = 11 then (some 11) else (if (a0.getD 0) = 12 then (some 12) else (if (a0.getD 0) = 13 then (some 13) else (some (-1))))))))) = some r := h
  clear h
  rcases a0 with _ | q155
  · have H1 : (some (-1)) = some r := by rw [if_pos (show (none : Option Int).isNone = true by rfl)] at H; exact H
    clear H
    have H := H1
    clear H1
    simp only [errW_none, errW_some]
    obtain rfl := Option.some.inj H
    have hg2 := Sent.at_8 HE.out hk8
    have hg3 := Sent.at_9 HE.out hk9
    have hg4 := Sent.at_10 HE.out hk10
    have hg5 := Sent.at_11 HE.out hk11
    have hg6 := Sent.at_12 HE.out hk12
    have hg7 := Sent.at_13 HE.out hk13
    go_enter Tryd.func43, Tryd.ntmps43
    go_wp2
    go_ret
    exact ⟨by first | rfl | (simp; done) | (simp [*]; done) | (simp [bne]; done), by repeat (first | exact Drawn0.refl _ | apply Drawn0.step)⟩
  · have H1 : (if q155 = 8 then (some 8) else (if q155 = 9 then (some 9) else (if q155 = 10 then (some 10) else (if q155 = 11 then (some 11) else (if q155 = 12 then (some 12) else (if q155 = 13 then (some 13) else (some (-1)))))))) = some r := by rw [if_neg (show ¬ (some q155).isNone = true by simp)] at H; exact H
    clear H
    have H := H1
    clear H1
    simp only [errW_none, errW_some]
    by_cases c8 : q155 = 8
    · rw [if_pos c8] at H
      have c8b0 : (q155 == 8) = true := beq_iff_eq.mpr c8
      have c8b1 : (q155 != 8) = false := bne_eq_false_iff_eq.mpr c8
      clear c8
      obtain rfl := Option.some.inj H
      have hg9 := Sent.at_8 HE.out hk8
      have hg10 := Sent.errs HE.out
      go_enter Tryd.func43, Tryd.ntmps43
      go_wp2
      go_ret
      exact ⟨by first | rfl | (simp; done) | (simp [*]; done) | (simp [bne]; done), by repeat (first | exact Drawn0.refl _ | apply Drawn0.step)⟩
    · rw [if_neg c8] at H
      have c8b0 : (q155 == 8) = false := beq_eq_false_iff_ne.mpr c8
      have c8b1 : (q155 != 8) = true := bne_iff_ne.mpr c8
      by_cases c11 : q155 = 9
      · rw [if_pos c11] at H
        have c11b0 : (q155 == 9) = true := beq_iff_eq.mpr c11
        have c11b1 : (q155 != 9) = false := bne_eq_false_iff_eq.mpr c11
        clear c11
        obtain rfl := Option.some.inj H
        have hg12 := Sent.at_8 HE.out hk8
        have hg13 := Sent.errs HE.out
        have hg14 := Sent.at_9 HE.out hk9
        have hg15 := Sent.errs HE.out
        go_enter Tryd.func43, Tryd.ntmps43
        go_wp2
        go_ret
        exact ⟨by first | rfl | (simp; done) | (simp [*]; done) | (simp [bne]; done), by repeat (first | exact Drawn0.refl _ | apply Drawn0.step)⟩
      · rw [if_neg c11] at H
        have c11b0 : (q155 == 9) = false := beq_eq_false_iff_ne.mpr c11
        have c11b1 : (q155 != 9) = true := bne_iff_ne.mpr c11
        by_cases c16 : q155 = 10
        · rw [if_pos c16] at H
          have c16b0 : (q155 == 10) = true := beq_iff_eq.mpr c16
          have c16b1 : (q155 != 10) = false := bne_eq_false_iff_eq.mpr c16
          clear c16
          obtain rfl := Option.some.inj H
          have hg17 := Sent.at_8 HE.out hk8
          have hg18 := Sent.errs HE.out
          have hg19 := Sent.at_9 HE.out hk9
          have hg20 := Sent.errs HE.out
          have hg21 := Sent.at_10 HE.out hk10
          have hg22 := Sent.errs HE.out
          go_enter Tryd.func43, Tryd.ntmps43
          go_wp2
          go_ret
          exact ⟨by first | rfl | (simp; done) | (simp [*]; done) | (simp [bne]; done), by repeat (first | exact Drawn0.refl _ | apply Drawn0.step)⟩
        · rw [if_neg c16] at H
          have c16b0 : (q155 == 10) = false := beq_eq_false_iff_ne.mpr c16
          have c16b1 : (q155 != 10) = true := bne_iff_ne.mpr c16
          by_cases c23 : q155 = 11
          · rw [if_pos c23] at H
            have c23b0 : (q155 == 11) = true := beq_iff_eq.mpr c23
            have c23b1 : (q155 != 11) = false := bne_eq_false_iff_eq.mpr c23
            clear c23
            obtain rfl := Option.some.inj H
            have hg24 := Sent.at_8 HE.out hk8
            have hg25 := Sent.errs HE.out
            have hg26 := Sent.at_9 HE.out hk9
            have hg27 := Sent.errs HE.out
            have hg28 := Sent.at_10 HE.out hk10
            have hg29 := Sent.errs HE.out
            have hg30 := Sent.at_11 HE.out hk11
            have hg31 := Sent.errs HE.out
            go_enter Tryd.func43, Tryd.ntmps43
            go_wp2
            go_ret
            exact ⟨by first | rfl | (simp; done) | (simp [*]; done) | (simp [bne]; done), by repeat (first | exact Drawn0.refl _ | apply Drawn0.step)⟩
          · rw [if_neg c23] at H
            have c23b0 : (q155 == 11) = false := beq_eq_false_iff_ne.mpr c23
            have c23b1 : (q155 != 11) = true := bne_iff_ne.mpr c23
            by_cases c32 : q155 = 12
            · rw [if_pos c32] at H
              have c32b0 : (q155 == 12) = true := beq_iff_eq.mpr c32
              have c32b1 : (q155 != 12) = false := bne_eq_false_iff_eq.mpr c32
              clear c32
              obtain rfl := Option.some.inj H
              have hg33 := Sent.at_8 HE.out hk8
              have hg34 := Sent.errs HE.out
              have hg35 := Sent.at_9 HE.out hk9
              have hg36 := Sent.errs HE.out
              have hg37 := Sent.at_10 HE.out hk10
              have hg38 := Sent.errs HE.out
              have hg39 := Sent.at_11 HE.out hk11
              have hg40 := Sent.errs HE.out
              have hg41 := Sent.at_12 HE.out hk12
              have hg42 := Sent.errs HE.out
              go_enter Tryd.func43, Tryd.ntmps43
              go_wp2
              go_ret
              exact ⟨by first | rfl | (simp; done) | (simp [*]; done) | (simp [bne]; done), by repeat (first | exact Drawn0.refl _ | apply Drawn0.step)⟩
            · rw [if_neg c32] at H
              have c32b0 : (q155 == 12) = false := beq_eq_false_iff_ne.mpr c32
              have c32b1 : (q155 != 12) = true := bne_iff_ne.mpr c32
              by_cases c43 : q155 = 13
              · rw [if_pos c43] at H
                have c43b0 : (q155 == 13) = true := beq_iff_eq.mpr c43
                have c43b1 : (q155 != 13) = false := bne_eq_false_iff_eq.mpr c43
                clear c43
                obtain rfl := Option.some.inj H
                have hg44 := Sent.at_8 HE.out hk8
                have hg45 := Sent.errs HE.out
                have hg46 := Sent.at_9 HE.out hk9
                have hg47 := Sent.errs HE.out
                have hg48 := Sent.at_10 HE.out hk10
                have hg49 := Sent.errs HE.out
                have hg50 := Sent.at_11 HE.out hk11
                have hg51 := Sent.errs HE.out
                have hg52 := Sent.at_12 HE.out hk12
                have hg53 := Sent.errs HE.out
                have hg54 := Sent.at_13 HE.out hk13
                have hg55 := Sent.errs HE.out
                go_enter Tryd.func43, Tryd.ntmps43
                go_wp2
                go_ret
                exact ⟨by first | rfl | (simp; done) | (simp [*]; done) | (simp [bne]; done), by repeat (first | exact Drawn0.refl _ | apply Drawn0.step)⟩
              · rw [if_neg c43] at H
                have c43b0 : (q155 == 13) = false := beq_eq_false_iff_ne.mpr c43
                have c43b1 : (q155 != 13) = true := bne_iff_ne.mpr c43
                obtain rfl := Option.some.inj H
                have hg56 := Sent.at_8 HE.out hk8
                have hg57 := Sent.errs HE.out
                have hg58 := Sent.at_9 HE.out hk9
                have hg59 := Sent.errs HE.out
                have hg60 := Sent.at_10 HE.out hk10
                have hg61 := Sent.errs HE.out
                have hg62 := Sent.at_11 HE.out hk11
                have hg63 := Sent.errs HE.out
                have hg64 := Sent.at_12 HE.out hk12
                have hg65 := Sent.errs HE.out
                have hg66 := Sent.at_13 HE.out hk13
                have hg67 := Sent.errs HE.out
                go_enter Tryd.func43, Tryd.ntmps43
                go_wp2
                go_ret
                exact ⟨by first | rfl | (simp; done) | (simp [*]; done) | (simp [bne]; done), by repeat (first | exact Drawn0.refl _ | apply Drawn0.step)⟩

/-! ### usherkit_Num: function 18 -/
def usherkit_Num.f (a0 : Option Int) : Option (Int) := if a0.isNone = true then (some 0) else (if (a0.getD 0) = 1 then (some 1) else (if (a0.getD 0) = 2 then (some 2) else (if (a0.getD 0) = 3 then (some 3) else (if (a0.getD 0) = 4 then (some 4) else (if (a0.getD 0) = 5 then (some 5) else (if (a0.getD 0) = 6 then (some 6) else (if (a0.getD 0) = 7 then (some 7) else ((usherkit_more.f (some (a0.getD 0))).bind fun t157 => (some t157)))))))))
set_option maxHeartbeats 8000000 in
set_option maxRecDepth 100000 in
theorem usherkit_Num.calls (hk1 : (1 : Int) ∈ SS) (hk2 : (2 : Int) ∈ SS) (hk3 : (3 : Int) ∈ SS) (hk4 : (4 : Int) ∈ SS) (hk5 : (5 : Int) ∈ SS) (hk6 : (6 : Int) ∈ SS) (hk7 : (7 : Int) ∈ SS) (hk8 : (8 : Int) ∈ SS) (hk9 : (9 : Int) ∈ SS) (hk10 : (10 : Int) ∈ SS) (hk11 : (11 : Int) ∈ SS) (hk12 : (12 : Int) ∈ SS) (hk13 : (13 : Int) ∈ SS) (a0 : Option Int) (r : Int) (w : World) (hE : Sent EA SS w) (h : usherkit_Num.f a0 = some r) :
    Calls Tryd.prog 18 #[errW EA a0] w fun e w' => e = .returned (.int .i64 r) ∧ Drawn0 w w' := by
  have hu27 := Tryd.underlying27
  have hu98 := Tryd.underlying98
  have HE := Aside0.mk hE
  clear hE
  have H : (if a0.isNone = true then (some 0) else (if (a0.getD 0) = 1 then (some 1) else (if (a0.getD 0) = 2 then (some 2) else (if (a0.getD 0) = 3 then (some 3) else (if (a0.getD 0) = 4 then (some 4) else (if (a0.getD 0) = 5 then (some 5) else (if (a0.getD 0) = 6 then (some 6) else (if (a0.getD 0) = 7 then (some 7) else ((usherkit_more.f (some (a0.getD 0))).bind fun t157 => (some t157)))))))))) = some r := h
  clear h
  rcases a0 with _ | q156
  · have H1 : (some 0) = some r := by rw [if_pos (show (none : Option Int).isNone = true by rfl)] at H; exact H
    clear H
    have H := H1
    clear H1
    simp only [errW_none, errW_some]
    obtain rfl := Option.some.inj H
    go_enter Tryd.func18, Tryd.ntmps18
    go_wp2
    go_ret
    exact ⟨by first | rfl | (simp; done) | (simp [*]; done) | (simp [bne]; done), by repeat (first | exact Drawn0.refl _ | apply Drawn0.step)⟩
  · have H1 : (if q156 = 1 then (some 1) else (if q156 = 2 then (some 2) else (if q156 = 3 then (some 3) else (if q156 = 4 then (some 4) else (if q156 = 5 then (some 5) else (if q156 = 6 then (some 6) else (if q156 = 7 then (some 7) else ((usherkit_more.f (some q156)).bind fun t157 => (some t157))))))))) = some r := by rw [if_neg (show ¬ (some q156).isNone = true by simp)] at H; exact H
    clear H
    have H := H1
    clear H1
    simp only [errW_none, errW_some]
    by_cases c2 : q156 = 1
    · rw [if_pos c2] at H
      have c2b0 : (q156 == 1) = true := beq_iff_eq.mpr c2
      have c2b1 : (q156 != 1) = false := bne_eq_false_iff_eq.mpr c2
      clear c2
      obtain rfl := Option.some.inj H
      have hg3 := Sent.at_1 HE.out hk1
      have hg4 := Sent.errs HE.out
      go_enter Tryd.func18, Tryd.ntmps18
      go_wp2
      go_ret
      exact ⟨by first | rfl | (simp; done) | (simp [*]; done) | (simp [bne]; done), by repeat (first | exact Drawn0.refl _ | apply Drawn0.step)⟩
    · rw [if_neg c2] at H
      have c2b0 : (q156 == 1) = false := beq_eq_false_iff_ne.mpr c2
      have c2b1 : (q156 != 1) = true := bne_iff_ne.mpr c2
      by_cases c5 : q156 = 2
      · rw [if_pos c5] at H
        have c5b0 : (q156 == 2) = true := beq_iff_eq.mpr c5
        have c5b1 : (q156 != 2) = false := bne_eq_false_iff_eq.mpr c5
        clear c5
        obtain rfl := Option.some.inj H
        have hg6 := Sent.at_1 HE.out hk1
        have hg7 := Sent.errs HE.out
        have hg8 := Sent.at_2 HE.out hk2
        have hg9 := Sent.errs HE.out
        go_enter Tryd.func18, Tryd.ntmps18
        go_wp2
        go_ret
        exact ⟨by first | rfl | (simp; done) | (simp [*]; done) | (simp [bne]; done), by repeat (first | exact Drawn0.refl _ | apply Drawn0.step)⟩
      · rw [if_neg c5] at H
        have c5b0 : (q156 == 2) = false := beq_eq_false_iff_ne.mpr c5
        have c5b1 : (q156 != 2) = true := bne_iff_ne.mpr c5
        by_cases c10 : q156 = 3
        · rw [if_pos c10] at H
          have c10b0 : (q156 == 3) = true := beq_iff_eq.mpr c10
          have c10b1 : (q156 != 3) = false := bne_eq_false_iff_eq.mpr c10
          clear c10
          obtain rfl := Option.some.inj H
          have hg11 := Sent.at_1 HE.out hk1
          have hg12 := Sent.errs HE.out
          have hg13 := Sent.at_2 HE.out hk2
          have hg14 := Sent.errs HE.out
          have hg15 := Sent.at_3 HE.out hk3
          have hg16 := Sent.errs HE.out
          go_enter Tryd.func18, Tryd.ntmps18
          go_wp2
          go_ret
          exact ⟨by first | rfl | (simp; done) | (simp [*]; done) | (simp [bne]; done), by repeat (first | exact Drawn0.refl _ | apply Drawn0.step)⟩
        · rw [if_neg c10] at H
          have c10b0 : (q156 == 3) = false := beq_eq_false_iff_ne.mpr c10
          have c10b1 : (q156 != 3) = true := bne_iff_ne.mpr c10
          by_cases c17 : q156 = 4
          · rw [if_pos c17] at H
            have c17b0 : (q156 == 4) = true := beq_iff_eq.mpr c17
            have c17b1 : (q156 != 4) = false := bne_eq_false_iff_eq.mpr c17
            clear c17
            obtain rfl := Option.some.inj H
            have hg18 := Sent.at_1 HE.out hk1
            have hg19 := Sent.errs HE.out
            have hg20 := Sent.at_2 HE.out hk2
            have hg21 := Sent.errs HE.out
            have hg22 := Sent.at_3 HE.out hk3
            have hg23 := Sent.errs HE.out
            have hg24 := Sent.at_4 HE.out hk4
            have hg25 := Sent.errs HE.out
            go_enter Tryd.func18, Tryd.ntmps18
            go_wp2
            go_ret
            exact ⟨by first | rfl | (simp; done) | (simp [*]; done) | (simp [bne]; done), by repeat (first | exact Drawn0.refl _ | apply Drawn0.step)⟩
          · rw [if_neg c17] at H
            have c17b0 : (q156 == 4) = false := beq_eq_false_iff_ne.mpr c17
            have c17b1 : (q156 != 4) = true := bne_iff_ne.mpr c17
            by_cases c26 : q156 = 5
            · rw [if_pos c26] at H
              have c26b0 : (q156 == 5) = true := beq_iff_eq.mpr c26
              have c26b1 : (q156 != 5) = false := bne_eq_false_iff_eq.mpr c26
              clear c26
              obtain rfl := Option.some.inj H
              have hg27 := Sent.at_1 HE.out hk1
              have hg28 := Sent.errs HE.out
              have hg29 := Sent.at_2 HE.out hk2
              have hg30 := Sent.errs HE.out
              have hg31 := Sent.at_3 HE.out hk3
              have hg32 := Sent.errs HE.out
              have hg33 := Sent.at_4 HE.out hk4
              have hg34 := Sent.errs HE.out
              have hg35 := Sent.at_5 HE.out hk5
              have hg36 := Sent.errs HE.out
              go_enter Tryd.func18, Tryd.ntmps18
              go_wp2
              go_ret
              exact ⟨by first | rfl | (simp; done) | (simp [*]; done) | (simp [bne]; done), by repeat (first | exact Drawn0.refl _ | apply Drawn0.step)⟩
            · rw [if_neg c26] at H
              have c26b0 : (q156 == 5) = false := beq_eq_false_iff_ne.mpr c26
              have c26b1 : (q156 != 5) = true := bne_iff_ne.mpr c26
              by_cases c37 : q156 = 6
              · rw [if_pos c37] at H
                have c37b0 : (q156 == 6) = true := beq_iff_eq.mpr c37
                have c37b1 : (q156 != 6) = false := bne_eq_false_iff_eq.mpr c37
                clear c37
                obtain rfl := Option.some.inj H
                have hg38 := Sent.at_1 HE.out hk1
                have hg39 := Sent.errs HE.out
                have hg40 := Sent.at_2 HE.out hk2
                have hg41 := Sent.errs HE.out
                have hg42 := Sent.at_3 HE.out hk3
                have hg43 := Sent.errs HE.out
                have hg44 := Sent.at_4 HE.out hk4
                have hg45 := Sent.errs HE.out
                have hg46 := Sent.at_5 HE.out hk5
                have hg47 := Sent.errs HE.out
                have hg48 := Sent.at_6 HE.out hk6
                have hg49 := Sent.errs HE.out
                go_enter Tryd.func18, Tryd.ntmps18
                go_wp2
                go_ret
                exact ⟨by first | rfl | (simp; done) | (simp [*]; done) | (simp [bne]; done), by repeat (first | exact Drawn0.refl _ | apply Drawn0.step)⟩
              · rw [if_neg c37] at H
                have c37b0 : (q156 == 6) = false := beq_eq_false_iff_ne.mpr c37
                have c37b1 : (q156 != 6) = true := bne_iff_ne.mpr c37
                by_cases c50 : q156 = 7
                · rw [if_pos c50] at H
                  have c50b0 : (q156 == 7) = true := beq_iff_eq.mpr c50
                  have c50b1 : (q156 != 7) = false := bne_eq_false_iff_eq.mpr c50
                  clear c50
                  obtain rfl := Option.some.inj H
                  have hg51 := Sent.at_1 HE.out hk1
                  have hg52 := Sent.errs HE.out
                  have hg53 := Sent.at_2 HE.out hk2
                  have hg54 := Sent.errs HE.out
                  have hg55 := Sent.at_3 HE.out hk3
                  have hg56 := Sent.errs HE.out
                  have hg57 := Sent.at_4 HE.out hk4
                  have hg58 := Sent.errs HE.out
                  have hg59 := Sent.at_5 HE.out hk5
                  have hg60 := Sent.errs HE.out
                  have hg61 := Sent.at_6 HE.out hk6
                  have hg62 := Sent.errs HE.out
                  have hg63 := Sent.at_7 HE.out hk7
                  have hg64 := Sent.errs HE.out
                  go_enter Tryd.func18, Tryd.ntmps18
                  go_wp2
                  go_ret
                  exact ⟨by first | rfl | (simp; done) | (simp [*]; done) | (simp [bne]; done), by repeat (first | exact Drawn0.refl _ | apply Drawn0.step)⟩
                · rw [if_neg c50] at H
                  have c50b0 : (q156 == 7) = false := beq_eq_false_iff_ne.mpr c50
                  have c50b1 : (q156 != 7) = true := bne_iff_ne.mpr c50
                  replace H := Option.bind_eq_some_iff.mp H
                  obtain ⟨t157, A650, H⟩ := H
                  replace H : (some t157) = some r := H
                  have A65 := Aside0.mk A650
                  clear A650
                  obtain rfl := Option.some.inj H
                  have hg66 := Sent.at_1 HE.out hk1
                  have hg67 := Sent.errs HE.out
                  have hg68 := Sent.at_2 HE.out hk2
                  have hg69 := Sent.errs HE.out
                  have hg70 := Sent.at_3 HE.out hk3
                  have hg71 := Sent.errs HE.out
                  have hg72 := Sent.at_4 HE.out hk4
                  have hg73 := Sent.errs HE.out
                  have hg74 := Sent.at_5 HE.out hk5
                  have hg75 := Sent.errs HE.out
                  have hg76 := Sent.at_6 HE.out hk6
                  have hg77 := Sent.errs HE.out
                  have hg78 := Sent.at_7 HE.out hk7
                  have hg79 := Sent.errs HE.out
                  have CA65 := fun W (hE_ : Sent EA SS W) => usherkit_more.calls (EA := EA) hk8 hk9 hk10 hk11 hk12 hk13 (some q156) t157 W hE_ A65.out
                  try simp only [errW_none, errW_some] at CA65
                  go_enter Tryd.func18, Tryd.ntmps18
                  go_wp2_with (first | (go_at_call 43; (with_reducible refine (CA65 _ ?sideE).mono ?_); (case sideE => repeat (first | exact HE.out | (with_reducible refine Sent.alloc ?_ _) | (with_reducible refine Sent.drewN ?_ _) | (with_reducible refine Sent.drew ?_))); rintro e w' ⟨rfl, ⟨nd, rfl⟩⟩))
                  go_ret
                  exact ⟨by first | rfl | (simp; done) | (simp [*]; done) | (simp [bne]; done), by repeat (first | exact Drawn0.refl _ | apply Drawn0.step)⟩

/-! ### usherlaw3_PctUnescapes: function 4 -/
def usherlaw3_PctUnescapes.f (k : Nat) (a0_0 : ByteArray) (a0_1 : Bool) : Option (Bool) := (pct_Unescape.f k a0_0 a0_1).bind fun bt159 => ((usherref3_Unescape.f k a0_0 a0_1).bind fun bt161 => (if bt159.1.toList = bt161.1.toList then ((usherkit_Num.f bt159.2).bind fun t163 => (some (t163 == bt161.2))) else (some false)))
theorem usherlaw3_PctUnescapes.mono : ∀ a0 a1 k, LeO (usherlaw3_PctUnescapes.f k a0 a1) (usherlaw3_PctUnescapes.f (k + 1) a0 a1) := by
  intro a0 a1 k
  unfold usherlaw3_PctUnescapes.f
  repeat' first
      | (with_reducible exact pct_Unescape.mono _ _ _)
      | (with_reducible exact usherref3_Unescape.mono _ _ _)
      | (with_reducible exact LeO.refl _)
      | (with_reducible exact LeO.none _)
      | (with_reducible refine LeO.ite ?_ ?_)
      | (with_reducible refine LeO.bind ?_ (fun _ => ?_))
      | exact pct_Unescape.mono _ _ _
      | exact usherref3_Unescape.mono _ _ _
      | exact LeO.none _
      | refine LeO.ite ?_ ?_
      | refine LeO.bind ?_ (fun _ => ?_)
set_option maxHeartbeats 8000000 in
set_option maxRecDepth 100000 in
theorem usherlaw3_PctUnescapes.calls (hk1 : (1 : Int) ∈ SS) (hk2 : (2 : Int) ∈ SS) (hk3 : (3 : Int) ∈ SS) (hk4 : (4 : Int) ∈ SS) (hk5 : (5 : Int) ∈ SS) (hk6 : (6 : Int) ∈ SS) (hk7 : (7 : Int) ∈ SS) (hk8 : (8 : Int) ∈ SS) (hk9 : (9 : Int) ∈ SS) (hk10 : (10 : Int) ∈ SS) (hk11 : (11 : Int) ∈ SS) (hk12 : (12 : Int) ∈ SS) (hk13 : (13 : Int) ∈ SS) (k : Nat) (a0_0 : ByteArray) (a0_1 : Bool) (r : Bool) (w : World) (hE : Sent EA SS w) (h : usherlaw3_PctUnescapes.f k a0_0 a0_1 = some r) :
    Calls Tryd.prog 4 #[.agg #[.string a0_0, .bool a0_1]] w fun e w' => e = .returned (.bool r) ∧ Below w.heap.size w w' := by
  have hu23 := Tryd.underlying23
  have HE := Aside0.mk hE
  clear hE
  have HB := Aside0.mk (Below.refl w.heap.size w)
  have H : ((pct_Unescape.f k a0_0 a0_1).bind fun bt159 => ((usherref3_Unescape.f k a0_0 a0_1).bind fun bt161 => (if bt159.1.toList = bt161.1.toList then ((usherkit_Num.f bt159.2).bind fun t163 => (some (t163 == bt161.2))) else (some false)))) = some r := h
  clear h
  replace H := Option.bind_eq_some_iff.mp H
  obtain ⟨⟨t159, t160⟩, A20, H⟩ := H
  replace H : ((usherref3_Unescape.f k a0_0 a0_1).bind fun bt161 => (if t159.toList = bt161.1.toList then ((usherkit_Num.f t160).bind fun t163 => (some (t163 == bt161.2))) else (some false))) = some r := H
  have A2 := Aside0.mk A20
  clear A20
  replace H := Option.bind_eq_some_iff.mp H
  obtain ⟨⟨t161, t162⟩, A30, H⟩ := H
  replace H : (if t159.toList = t161.toList then ((usherkit_Num.f t160).bind fun t163 => (some (t163 == t162))) else (some false)) = some r := H
  have A3 := Aside0.mk A30
  clear A30
  by_cases c4 : t159.toList = t161.toList
  · rw [if_pos c4] at H
    have c4b0 : (t159.toList == t161.toList) = true := beq_iff_eq.mpr c4
    have c4b1 : (t159.toList != t161.toList) = false := bne_eq_false_iff_eq.mpr c4
    clear c4
    replace H := Option.bind_eq_some_iff.mp H
    obtain ⟨t163, A50, H⟩ := H
    replace H : (some (t163 == t162)) = some r := H
    have A5 := Aside0.mk A50
    clear A50
    obtain rfl := Option.some.inj H
    go_enter Tryd.func4, Tryd.ntmps4
    go_wp2_with (first | ((with_reducible refine gate_dst (N := 1) rfl ?_); refine box_event ?hg (N := 1) ?hd (cs := #[.string a0_0, .bool a0_1]) (t := 23) ?hr ?_; (case hd => rfl); (case hg => rfl); (case hr => first | (go_simp; done) | (go_simp; rfl)); intro gb158 hg w6 hbox hb; have n0_ := Aside0.mk (below_step (by repeat (first | (with_reducible first | exact HB.out | apply below_alloc | apply pw_below_drewN | apply below_drew1) | exact HB.out)) hb); have n1_ := Aside0.mk (hbox); have n2_ := Aside0.mk ((by rw [hg]; exact (below_size (by repeat (first | (with_reducible first | exact HB.out | apply below_alloc | apply pw_below_drewN | apply below_drew1) | exact HB.out))) : w.heap.size ≤ gb158)); have n3_ := Aside0.mk ((by rw [hg]; exact (below_size (by repeat (first | (with_reducible first | exact HB.out | apply below_alloc | apply pw_below_drewN | apply below_drew1) | exact HB.out))) : w.heap.size ≤ gb158)); clear HB; have HB := n0_; have BK158 := n1_; have GW158 := n2_; have GE158 := n3_; clear n0_ n1_ n2_ n3_; clear hb hbox hg; have hcz7_0 : w6.cell? ⟨gb158, 0, none⟩ = some (.string a0_0) := (blk_cell BK158.out 0).trans rfl; have hcz7_1 : w6.cell? ⟨gb158, 1, none⟩ = some (.bool a0_1) := (blk_cell BK158.out 1).trans rfl; have hfz7_0 := blk_frozen BK158.out 0; have hfz7_1 := blk_frozen BK158.out 1) | ((with_reducible refine gate_callee (f := 16) rfl ?_); refine goesL_ (some 12) rfl rfl Tryd.func16 (by kernel_rfl) rfl #[.string a0_0, .bool a0_1] rfl (by (try simp only [List.map_toArray, List.map_cons, List.map_nil]); first | done | rfl | (simp only [List.length_drop, List.length_take]; rfl)) ?_; (with_reducible refine (pct_Unescape.calls (EA := EA) hk2 k a0_0 a0_1 t159 t160 _ ?side1 A2.out).mono ?_); (case side1 => repeat (first | exact (Sent.below HE.out HB.out) | (with_reducible refine Sent.alloc ?_ _) | (with_reducible refine Sent.drewN ?_ _) | (with_reducible refine Sent.drew ?_))); rintro e w8 ⟨rfl, hb⟩; refine ⟨_, rfl, ?_⟩; have n0_ := Aside0.mk (blk_below (g := gb158) (o := .cells #[.string a0_0, .bool a0_1] 23 (0, 0)) (by (with_reducible repeat (first | refine blk_drewN ?_ _ | refine blk_drew ?_ | refine blk_alloc ?_ _)); exact BK158.out) hb); have n1_ := Aside0.mk (below_step (by repeat (first | (with_reducible first | exact HB.out | apply below_alloc | apply pw_below_drewN | apply below_drew1 | refine below_set ?_ GE158.out) | exact HB.out)) hb); clear BK158; clear HB; have BK158 := n0_; have HB := n1_; clear n0_ n1_; (try clear hb); (try clear hb2); (try clear hk); (try clear hi); (try simp only [errW_none, errW_some]); have hcz9_0 : w8.cell? ⟨gb158, 0, none⟩ = some (.string a0_0) := (blk_cell BK158.out 0).trans rfl; have hcz9_1 : w8.cell? ⟨gb158, 1, none⟩ = some (.bool a0_1) := (blk_cell BK158.out 1).trans rfl; have hfz9_0 := blk_frozen BK158.out 0; have hfz9_1 := blk_frozen BK158.out 1) | ((with_reducible refine gate_callee (f := 17) rfl ?_); refine goesL_ (some 20) rfl rfl Tryd.func17 (by kernel_rfl) rfl #[.string a0_0, .bool a0_1] rfl (by (try simp only [List.map_toArray, List.map_cons, List.map_nil]); first | done | rfl | (simp only [List.length_drop, List.length_take]; rfl)) ?_; (with_reducible refine (usherref3_Unescape.calls k a0_0 a0_1 t161 t162 _ A3.out).mono ?_); rintro e w10 ⟨rfl, hb⟩; refine ⟨_, rfl, ?_⟩; have n0_ := Aside0.mk (blk_below (g := gb158) (o := .cells #[.string a0_0, .bool a0_1] 23 (0, 0)) (by (with_reducible repeat (first | refine blk_drewN ?_ _ | refine blk_drew ?_ | refine blk_alloc ?_ _)); exact BK158.out) hb); have n1_ := Aside0.mk (below_step (by repeat (first | (with_reducible first | exact HB.out | apply below_alloc | apply pw_below_drewN | apply below_drew1 | refine below_set ?_ GE158.out) | exact HB.out)) hb); clear BK158; clear HB; have BK158 := n0_; have HB := n1_; clear n0_ n1_; (try clear hb); (try clear hb2); (try clear hk); (try clear hi); have CA5 := fun W (hE_ : Sent EA SS W) => usherkit_Num.calls (EA := EA) hk1 hk2 hk3 hk4 hk5 hk6 hk7 hk8 hk9 hk10 hk11 hk12 hk13 t160 t163 W hE_ A5.out; try simp only [errW_none, errW_some] at CA5) | (go_at_call 18; (with_reducible refine (CA5 _ ?sideE).mono ?_); (case sideE => repeat (first | exact (Sent.below HE.out HB.out) | (with_reducible refine Sent.alloc ?_ _) | (with_reducible refine Sent.drewN ?_ _) | (with_reducible refine Sent.drew ?_))); rintro e w' ⟨rfl, ⟨nd, rfl⟩⟩))
    go_ret
    exact ⟨by first | rfl | (simp [errW_none, errW_some] <;> rfl) | (simp [*, errW_none, errW_some] <;> rfl), by repeat (first | (with_reducible first | exact HB.out | apply below_alloc | apply pw_below_drewN | apply below_drew1 | refine below_set ?_ GE158.out) | exact HB.out)⟩
  · rw [if_neg c4] at H
    have c4b0 : (t159.toList == t161.toList) = false := beq_eq_false_iff_ne.mpr c4
    have c4b1 : (t159.toList != t161.toList) = true := bne_iff_ne.mpr c4
    obtain rfl := Option.some.inj H
    go_enter Tryd.func4, Tryd.ntmps4
    go_wp2_with (first | ((with_reducible refine gate_dst (N := 1) rfl ?_); refine box_event ?hg (N := 1) ?hd (cs := #[.string a0_0, .bool a0_1]) (t := 23) ?hr ?_; (case hd => rfl); (case hg => rfl); (case hr => first | (go_simp; done) | (go_simp; rfl)); intro gb158 hg w11 hbox hb; have n0_ := Aside0.mk (below_step (by repeat (first | (with_reducible first | exact HB.out | apply below_alloc | apply pw_below_drewN | apply below_drew1) | exact HB.out)) hb); have n1_ := Aside0.mk (hbox); have n2_ := Aside0.mk ((by rw [hg]; exact (below_size (by repeat (first | (with_reducible first | exact HB.out | apply below_alloc | apply pw_below_drewN | apply below_drew1) | exact HB.out))) : w.heap.size ≤ gb158)); have n3_ := Aside0.mk ((by rw [hg]; exact (below_size (by repeat (first | (with_reducible first | exact HB.out | apply below_alloc | apply pw_below_drewN | apply below_drew1) | exact HB.out))) : w.heap.size ≤ gb158)); clear HB; have HB := n0_; have BK158 := n1_; have GW158 := n2_; have GE158 := n3_; clear n0_ n1_ n2_ n3_; clear hb hbox hg; have hcz12_0 : w11.cell? ⟨gb158, 0, none⟩ = some (.string a0_0) := (blk_cell BK158.out 0).trans rfl; have hcz12_1 : w11.cell? ⟨gb158, 1, none⟩ = some (.bool a0_1) := (blk_cell BK158.out 1).trans rfl; have hfz12_0 := blk_frozen BK158.out 0; have hfz12_1 := blk_frozen BK158.out 1) | ((with_reducible refine gate_callee (f := 16) rfl ?_); refine goesL_ (some 12) rfl rfl Tryd.func16 (by kernel_rfl) rfl #[.string a0_0, .bool a0_1] rfl (by (try simp only [List.map_toArray, List.map_cons, List.map_nil]); first | done | rfl | (simp only [List.length_drop, List.length_take]; rfl)) ?_; (with_reducible refine (pct_Unescape.calls (EA := EA) hk2 k a0_0 a0_1 t159 t160 _ ?side1 A2.out).mono ?_); (case side1 => repeat (first | exact (Sent.below HE.out HB.out) | (with_reducible refine Sent.alloc ?_ _) | (with_reducible refine Sent.drewN ?_ _) | (with_reducible refine Sent.drew ?_))); rintro e w13 ⟨rfl, hb⟩; refine ⟨_, rfl, ?_⟩; have n0_ := Aside0.mk (blk_below (g := gb158) (o := .cells #[.string a0_0, .bool a0_1] 23 (0, 0)) (by (with_reducible repeat (first | refine blk_drewN ?_ _ | refine blk_drew ?_ | refine blk_alloc ?_ _)); exact BK158.out) hb); have n1_ := Aside0.mk (below_step (by repeat (first | (with_reducible first | exact HB.out | apply below_alloc | apply pw_below_drewN | apply below_drew1 | refine below_set ?_ GE158.out) | exact HB.out)) hb); clear BK158; clear HB; have BK158 := n0_; have HB := n1_; clear n0_ n1_; (try clear hb); (try clear hb2); (try clear hk); (try clear hi); (try simp only [errW_none, errW_some]); have hcz14_0 : w13.cell? ⟨gb158, 0, none⟩ = some (.string a0_0) := (blk_cell BK158.out 0).trans rfl; have hcz14_1 : w13.cell? ⟨gb158, 1, none⟩ = some (.bool a0_1) := (blk_cell BK158.out 1).trans rfl; have hfz14_0 := blk_frozen BK158.out 0; have hfz14_1 := blk_frozen BK158.out 1) | ((with_reducible refine gate_callee (f := 17) rfl ?_); refine goesL_ (some 20) rfl rfl Tryd.func17 (by kernel_rfl) rfl #[.string a0_0, .bool a0_1] rfl (by (try simp only [List.map_toArray, List.map_cons, List.map_nil]); first | done | rfl | (simp only [List.length_drop, List.length_take]; rfl)) ?_; (with_reducible refine (usherref3_Unescape.calls k a0_0 a0_1 t161 t162 _ A3.out).mono ?_); rintro e w15 ⟨rfl, hb⟩; refine ⟨_, rfl, ?_⟩; have n0_ := Aside0.mk (blk_below (g := gb158) (o := .cells #[.string a0_0, .bool a0_1] 23 (0, 0)) (by (with_reducible repeat (first | refine blk_drewN ?_ _ | refine blk_drew ?_ | refine blk_alloc ?_ _)); exact BK158.out) hb); have n1_ := Aside0.mk (below_step (by repeat (first | (with_reducible first | exact HB.out | apply below_alloc | apply pw_below_drewN | apply below_drew1 | refine below_set ?_ GE158.out) | exact HB.out)) hb); clear BK158; clear HB; have BK158 := n0_; have HB := n1_; clear n0_ n1_; (try clear hb); (try clear hb2); (try clear hk); (try clear hi)))
    go_ret
    exact ⟨by first | rfl | (simp [errW_none, errW_some] <;> rfl) | (simp [*, errW_none, errW_some] <;> rfl), by repeat (first | (with_reducible first | exact HB.out | apply below_alloc | apply pw_below_drewN | apply below_drew1 | refine below_set ?_ GE158.out) | exact HB.out)⟩

end Go.Proofs.YtlnjomhmffdfnaaDoor.X
