import Derived.Test.YtopfmcgmfnmikaaDoorXx0
import Derived.Test.YtopfmcgmfnmikaaDoorXx1
namespace Go.Proofs.YtopfmcgmfnmikaaDoor.X
open Go.RowKit Go.Proofs.YtopfmcgmfnmikaaDoorW.PrintWords Go.Proofs.YtopfmcgmfnmikaaDoorW.PrintLast Go.Proofs.YtopfmcgmfnmikaaDoorW.PrintMore
attribute [local go_sem] max2_int min2_int max_two min_two max_three min_three max_four min_four   -- for this text's walks alone
set_option linter.unusedVariables false
set_option linter.unusedSimpArgs false
open Go.Proofs.YtopfmcgmfnmikaaDoor
attribute [local go_sem] ErrBlk_alloc ErrBlk_drew ErrBlk_drewN errs_eql errs_neq nil_errs_eql nil_errs_neq
variable {EA : Int → Addr} {SS : List Int}

attribute [local go_sem high] eqA29
/-! ### usherkit_more: function 37 -/
def usherkit_more.f (a0 : Option Int) : Option (Int) := if a0.isNone = true then (some (-1)) else (if (a0.getD 0) = 8 then (some 8) else (if (a0.getD 0) = 9 then (some 9) else (if (a0.getD 0) = 10 then (some 10) else (if (a0.getD 0) = 11 then (some 11) else (if (a0.getD 0) = 12 then (some 12) else (if (a0.getD 0) = 13 then (some 13) else (some (-1))))))))
set_option maxHeartbeats 8000000 in
set_option maxRecDepth 100000 in
theorem usherkit_more.calls (hk8 : (8 : Int) ∈ SS) (hk9 : (9 : Int) ∈ SS) (hk10 : (10 : Int) ∈ SS) (hk11 : (11 : Int) ∈ SS) (hk12 : (12 : Int) ∈ SS) (hk13 : (13 : Int) ∈ SS) (a0 : Option Int) (r : Int) (w : World) (hE : Sent EA SS w) (h : usherkit_more.f a0 = some r) :
  Calls Tryd.prog 37 #[errW EA a0] w fun e w' => e = .returned (.int .i64 r) ∧ Drawn0 w w' := by
 have hu32 := Tryd.underlying32
 have hu139 := Tryd.underlying139
 have HE := Aside0.mk hE
 clear hE
 have H : (if a0.isNone = true then (some (-1)) else (if (a0.getD 0) = 8 then (some 8) else (if (a0.getD 0) = 9 then (some 9) else (if (a0.getD 0) = 10 then (some 10) else (if (a0.getD 0) = 11 then (some 11) else (if (a0.getD 0) = 12 then (some 12) else (if (a0.getD 0) = 13 then (some 13) else (some (-1))))))))) = some r := h
 clear h
 rcases a0 with _ | q268
 ·have H1 : (some (-1)) = some r := by rw [if_pos (show (none : Option Int).isNone = true by rfl)] at H; exact H
  clear H
  have H := H1
  clear H1
  simp only [errW_none, errW_some]
  obtain rfl := Option.some.inj H
  have hg2 := Sent.at_8 HE.out hk8
  have hg3 := Sent.at_9 HE.out hk9
  have hg4 := Sent.at_10 HE.out hk10
  have hg5 := Sent.at_11 HE.out hk11
  have hg6 := Sent.at_12 HE.out hk12
  have hg7 := Sent.at_13 HE.out hk13
  go_enter Tryd.func37, Tryd.ntmps37
  go_wp2
  go_ret
  exact ⟨by first | rfl | (simp; done) | (simp [*]; done) | (simp [bne]; done), by repeat (first | exact Drawn0.refl _ | apply Drawn0.step)⟩
 ·have H1 : (if q268 = 8 then (some 8) else (if q268 = 9 then (some 9) else (if q268 = 10 then (some 10) else (if q268 = 11 then (some 11) else (if q268 = 12 then (some 12) else (if q268 = 13 then (some 13) else (some (-1)))))))) = some r := by rw [if_neg (show ¬ (some q268).isNone = true by simp)] at H; exact H
  clear H
  have H := H1
  clear H1
  simp only [errW_none, errW_some]
  by_cases c8 : q268 = 8
  ·rw [if_pos c8] at H
   have c8b0 : (q268 == 8) = true := beq_iff_eq.mpr c8
   have c8b1 : (q268 != 8) = false := bne_eq_false_iff_eq.mpr c8
   clear c8
   obtain rfl := Option.some.inj H
   have hg9 := Sent.at_8 HE.out hk8
   have hg10 := Sent.errs HE.out
   go_enter Tryd.func37, Tryd.ntmps37
   go_wp2
   go_ret
   exact ⟨by first | rfl | (simp; done) | (simp [*]; done) | (simp [bne]; done), by repeat (first | exact Drawn0.refl _ | apply Drawn0.step)⟩
  ·rw [if_neg c8] at H
   have c8b0 : (q268 == 8) = false := beq_eq_false_iff_ne.mpr c8
   have c8b1 : (q268 != 8) = true := bne_iff_ne.mpr c8
   by_cases c11 : q268 = 9
   ·rw [if_pos c11] at H
    have c11b0 : (q268 == 9) = true := beq_iff_eq.mpr c11
    have c11b1 : (q268 != 9) = false := bne_eq_false_iff_eq.mpr c11
    clear c11
    obtain rfl := Option.some.inj H
    have hg12 := Sent.at_8 HE.out hk8
    have hg13 := Sent.errs HE.out
    have hg14 := Sent.at_9 HE.out hk9
    have hg15 := Sent.errs HE.out
    go_enter Tryd.func37, Tryd.ntmps37
    go_wp2
    go_ret
    exact ⟨by first | rfl | (simp; done) | (simp [*]; done) | (simp [bne]; done), by repeat (first | exact Drawn0.refl _ | apply Drawn0.step)⟩
   ·rw [if_neg c11] at H
    have c11b0 : (q268 == 9) = false := beq_eq_false_iff_ne.mpr c11
    have c11b1 : (q268 != 9) = true := bne_iff_ne.mpr c11
    by_cases c16 : q268 = 10
    ·rw [if_pos c16] at H
     have c16b0 : (q268 == 10) = true := beq_iff_eq.mpr c16
     have c16b1 : (q268 != 10) = false := bne_eq_false_iff_eq.mpr c16
     clear c16
     obtain rfl := Option.some.inj H
     have hg17 := Sent.at_8 HE.out hk8
     have hg18 := Sent.errs HE.out
     have hg19 := Sent.at_9 HE.out hk9
     have hg20 := Sent.errs HE.out
     have hg21 := Sent.at_10 HE.out hk10
     have hg22 := Sent.errs HE.out
     go_enter Tryd.func37, Tryd.ntmps37
     go_wp2
     go_ret
     exact ⟨by first | rfl | (simp; done) | (simp [*]; done) | (simp [bne]; done), by repeat (first | exact Drawn0.refl _ | apply Drawn0.step)⟩
    ·rw [if_neg c16] at H
     have c16b0 : (q268 == 10) = false := beq_eq_false_iff_ne.mpr c16
     have c16b1 : (q268 != 10) = true := bne_iff_ne.mpr c16
     by_cases c23 : q268 = 11
     ·rw [if_pos c23] at H
      have c23b0 : (q268 == 11) = true := beq_iff_eq.mpr c23
      have c23b1 : (q268 != 11) = false := bne_eq_false_iff_eq.mpr c23
      clear c23
      obtain rfl := Option.some.inj H
      have hg24 := Sent.at_8 HE.out hk8
      have hg25 := Sent.errs HE.out
      have hg26 := Sent.at_9 HE.out hk9
      have hg27 := Sent.errs HE.out
      have hg28 := Sent.at_10 HE.out hk10
      have hg29 := Sent.errs HE.out
      have hg30 := Sent.at_11 HE.out hk11
      have hg31 := Sent.errs HE.out
      go_enter Tryd.func37, Tryd.ntmps37
      go_wp2
      go_ret
      exact ⟨by first | rfl | (simp; done) | (simp [*]; done) | (simp [bne]; done), by repeat (first | exact Drawn0.refl _ | apply Drawn0.step)⟩
     ·rw [if_neg c23] at H
      have c23b0 : (q268 == 11) = false := beq_eq_false_iff_ne.mpr c23
      have c23b1 : (q268 != 11) = true := bne_iff_ne.mpr c23
      by_cases c32 : q268 = 12
      ·rw [if_pos c32] at H
       have c32b0 : (q268 == 12) = true := beq_iff_eq.mpr c32
       have c32b1 : (q268 != 12) = false := bne_eq_false_iff_eq.mpr c32
       clear c32
       obtain rfl := Option.some.inj H
       have hg33 := Sent.at_8 HE.out hk8
       have hg34 := Sent.errs HE.out
       have hg35 := Sent.at_9 HE.out hk9
       have hg36 := Sent.errs HE.out
       have hg37 := Sent.at_10 HE.out hk10
       have hg38 := Sent.errs HE.out
       have hg39 := Sent.at_11 HE.out hk11
       have hg40 := Sent.errs HE.out
       have hg41 := Sent.at_12 HE.out hk12
       have hg42 := Sent.errs HE.out
       go_enter Tryd.func37, Tryd.ntmps37
       go_wp2
       go_ret
       exact ⟨by first | rfl | (simp; done) | (simp [*]; done) | (simp [bne]; done), by repeat (first | exact Drawn0.refl _ | apply Drawn0.step)⟩
      ·rw [if_neg c32] at H
       have c32b0 : (q268 == 12) = false := beq_eq_false_iff_ne.mpr c32
       have c32b1 : (q268 != 12) = true := bne_iff_ne.mpr c32
       by_cases c43 : q268 = 13
       ·rw [if_pos c43] at H
        have c43b0 : (q268 == 13) = true := beq_iff_eq.mpr c43
        have c43b1 : (q268 != 13) = false := bne_eq_false_iff_eq.mpr c43
        clear c43
        obtain rfl := Option.some.inj H
        have hg44 := Sent.at_8 HE.out hk8
        have hg45 := Sent.errs HE.out
        have hg46 := Sent.at_9 HE.out hk9
        have hg47 := Sent.errs HE.out
        have hg48 := Sent.at_10 HE.out hk10
        have hg49 := Sent.errs HE.out
        have hg50 := Sent.at_11 HE.out hk11
        have hg51 := Sent.errs HE.out
        have hg52 := Sent.at_12 HE.out hk12
        have hg53 := Sent.errs HE.out
        have hg54 := Sent.at_13 HE.out hk13
        have hg55 := Sent.errs HE.out
        go_enter Tryd.func37, Tryd.ntmps37
        go_wp2
        go_ret
        exact ⟨by first | rfl | (simp; done) | (simp [*]; done) | (simp [bne]; done), by repeat (first | exact Drawn0.refl _ | apply Drawn0.step)⟩
       ·rw [if_neg c43] at H
        have c43b0 : (q268 == 13) = false := beq_eq_false_iff_ne.mpr c43
        have c43b1 : (q268 != 13) = true := bne_iff_ne.mpr c43
        obtain rfl := Option.some.inj H
        have hg56 := Sent.at_8 HE.out hk8
        have hg57 := Sent.errs HE.out
        have hg58 := Sent.at_9 HE.out hk9
        have hg59 := Sent.errs HE.out
        have hg60 := Sent.at_10 HE.out hk10
        have hg61 := Sent.errs HE.out
        have hg62 := Sent.at_11 HE.out hk11
        have hg63 := Sent.errs HE.out
        have hg64 := Sent.at_12 HE.out hk12
        have hg65 := Sent.errs HE.out
        have hg66 := Sent.at_13 HE.out hk13
        have hg67 := Sent.errs HE.out
        go_enter Tryd.func37, Tryd.ntmps37
        go_wp2
        go_ret
        exact ⟨by first | rfl | (simp; done) | (simp [*]; done) | (simp [bne]; done), by repeat (first | exact Drawn0.refl _ | apply Drawn0.step)⟩

/-! ### usherkit_Num: function 18 -/
def usherkit_Num.f (a0 : Option Int) : Option (Int) := if a0.isNone = true then (some 0) else (if (a0.getD 0) = 1 then (some 1) else (if (a0.getD 0) = 2 then (some 2) else (if (a0.getD 0) = 3 then (some 3) else (if (a0.getD 0) = 4 then (some 4) else (if (a0.getD 0) = 5 then (some 5) else (if (a0.getD 0) = 6 then (some 6) else (if (a0.getD 0) = 7 then (some 7) else ((usherkit_more.f (some (a0.getD 0))).bind fun t270 => (some t270)))))))))
set_option maxHeartbeats 8000000 in
set_option maxRecDepth 100000 in
theorem usherkit_Num.calls (hk1 : (1 : Int) ∈ SS) (hk2 : (2 : Int) ∈ SS) (hk3 : (3 : Int) ∈ SS) (hk4 : (4 : Int) ∈ SS) (hk5 : (5 : Int) ∈ SS) (hk6 : (6 : Int) ∈ SS) (hk7 : (7 : Int) ∈ SS) (hk8 : (8 : Int) ∈ SS) (hk9 : (9 : Int) ∈ SS) (hk10 : (10 : Int) ∈ SS) (hk11 : (11 : Int) ∈ SS) (hk12 : (12 : Int) ∈ SS) (hk13 : (13 : Int) ∈ SS) (a0 : Option Int) (r : Int) (w : World) (hE : Sent EA SS w) (h : usherkit_Num.f a0 = some r) :
  Calls Tryd.prog 18 #[errW EA a0] w fun e w' => e = .returned (.int .i64 r) ∧ Drawn0 w w' := by
 have hu32 := Tryd.underlying32
 have hu139 := Tryd.underlying139
 have HE := Aside0.mk hE
 clear hE
 have H : (if a0.isNone = true then (some 0) else (if (a0.getD 0) = 1 then (some 1) else (if (a0.getD 0) = 2 then (some 2) else (if (a0.getD 0) = 3 then (some 3) else (if (a0.getD 0) = 4 then (some 4) else (if (a0.getD 0) = 5 then (some 5) else (if (a0.getD 0) = 6 then (some 6) else (if (a0.getD 0) = 7 then (some 7) else ((usherkit_more.f (some (a0.getD 0))).bind fun t270 => (some t270)))))))))) = some r := h
 clear h
 rcases a0 with _ | q269
 ·have H1 : (some 0) = some r := by rw [if_pos (show (none : Option Int).isNone = true by rfl)] at H; exact H
  clear H
  have H := H1
  clear H1
  simp only [errW_none, errW_some]
  obtain rfl := Option.some.inj H
  go_enter Tryd.func18, Tryd.ntmps18
  go_wp2
  go_ret
  exact ⟨by first | rfl | (simp; done) | (simp [*]; done) | (simp [bne]; done), by repeat (first | exact Drawn0.refl _ | apply Drawn0.step)⟩
 ·have H1 : (if q269 = 1 then (some 1) else (if q269 = 2 then (some 2) else (if q269 = 3 then (some 3) else (if q269 = 4 then (some 4) else (if q269 = 5 then (some 5) else (if q269 = 6 then (some 6) else (if q269 = 7 then (some 7) else ((usherkit_more.f (some q269)).bind fun t270 => (some t270))))))))) = some r := by rw [if_neg (show ¬ (some q269).isNone = true by simp)] at H; exact H
  clear H
  have H := H1
  clear H1
  simp only [errW_none, errW_some]
  by_cases c2 : q269 = 1
  ·rw [if_pos c2] at H
   have c2b0 : (q269 == 1) = true := beq_iff_eq.mpr c2
   have c2b1 : (q269 != 1) = false := bne_eq_false_iff_eq.mpr c2
   clear c2
   obtain rfl := Option.some.inj H
   have hg3 := Sent.at_1 HE.out hk1
   have hg4 := Sent.errs HE.out
   go_enter Tryd.func18, Tryd.ntmps18
   go_wp2
   go_ret
   exact ⟨by first | rfl | (simp; done) | (simp [*]; done) | (simp [bne]; done), by repeat (first | exact Drawn0.refl _ | apply Drawn0.step)⟩
  ·rw [if_neg c2] at H
   have c2b0 : (q269 == 1) = false := beq_eq_false_iff_ne.mpr c2
   have c2b1 : (q269 != 1) = true := bne_iff_ne.mpr c2
   by_cases c5 : q269 = 2
   ·rw [if_pos c5] at H
    have c5b0 : (q269 == 2) = true := beq_iff_eq.mpr c5
    have c5b1 : (q269 != 2) = false := bne_eq_false_iff_eq.mpr c5
    clear c5
    obtain rfl := Option.some.inj H
    have hg6 := Sent.at_1 HE.out hk1
    have hg7 := Sent.errs HE.out
    have hg8 := Sent.at_2 HE.out hk2
    have hg9 := Sent.errs HE.out
    go_enter Tryd.func18, Tryd.ntmps18
    go_wp2
    go_ret
    exact ⟨by first | rfl | (simp; done) | (simp [*]; done) | (simp [bne]; done), by repeat (first | exact Drawn0.refl _ | apply Drawn0.step)⟩
   ·rw [if_neg c5] at H
    have c5b0 : (q269 == 2) = false := beq_eq_false_iff_ne.mpr c5
    have c5b1 : (q269 != 2) = true := bne_iff_ne.mpr c5
    by_cases c10 : q269 = 3
    ·rw [if_pos c10] at H
     have c10b0 : (q269 == 3) = true := beq_iff_eq.mpr c10
     have c10b1 : (q269 != 3) = false := bne_eq_false_iff_eq.mpr c10
     clear c10
     obtain rfl := Option.some.inj H
     have hg11 := Sent.at_1 HE.out hk1
     have hg12 := Sent.errs HE.out
     have hg13 := Sent.at_2 HE.out hk2
     have hg14 := Sent.errs HE.out
     have hg15 := Sent.at_3 HE.out hk3
     have hg16 := Sent.errs HE.out
     go_enter Tryd.func18, Tryd.ntmps18
     go_wp2
     go_ret
     exact ⟨by first | rfl | (simp; done) | (simp [*]; done) | (simp [bne]; done), by repeat (first | exact Drawn0.refl _ | apply Drawn0.step)⟩
    ·rw [if_neg c10] at H
     have c10b0 : (q269 == 3) = false := beq_eq_false_iff_ne.mpr c10
     have c10b1 : (q269 != 3) = true := bne_iff_ne.mpr c10
     by_cases c17 : q269 = 4
     ·rw [if_pos c17] at H
      have c17b0 : (q269 == 4) = true := beq_iff_eq.mpr c17
      have c17b1 : (q269 != 4) = false := bne_eq_false_iff_eq.mpr c17
      clear c17
      obtain rfl := Option.some.inj H
      have hg18 := Sent.at_1 HE.out hk1
      have hg19 := Sent.errs HE.out
      have hg20 := Sent.at_2 HE.out hk2
      have hg21 := Sent.errs HE.out
      have hg22 := Sent.at_3 HE.out hk3
      have hg23 := Sent.errs HE.out
      have hg24 := Sent.at_4 HE.out hk4
      have hg25 := Sent.errs HE.out
      go_enter Tryd.func18, Tryd.ntmps18
      go_wp2
      go_ret
      exact ⟨by first | rfl | (simp; done) | (simp [*]; done) | (simp [bne]; done), by repeat (first | exact Drawn0.refl _ | apply Drawn0.step)⟩
     ·rw [if_neg c17] at H
      have c17b0 : (q269 == 4) = false := beq_eq_false_iff_ne.mpr c17
      have c17b1 : (q269 != 4) = true := bne_iff_ne.mpr c17
      by_cases c26 : q269 = 5
      ·rw [if_pos c26] at H
       have c26b0 : (q269 == 5) = true := beq_iff_eq.mpr c26
       have c26b1 : (q269 != 5) = false := bne_eq_false_iff_eq.mpr c26
       clear c26
       obtain rfl := Option.some.inj H
       have hg27 := Sent.at_1 HE.out hk1
       have hg28 := Sent.errs HE.out
       have hg29 := Sent.at_2 HE.out hk2
       have hg30 := Sent.errs HE.out
       have hg31 := Sent.at_3 HE.out hk3
       have hg32 := Sent.errs HE.out
       have hg33 := Sent.at_4 HE.out hk4
       have hg34 := Sent.errs HE.out
       have hg35 := Sent.at_5 HE.out hk5
       have hg36 := Sent.errs HE.out
       go_enter Tryd.func18, Tryd.ntmps18
       go_wp2
       go_ret
       exact ⟨by first | rfl | (simp; done) | (simp [*]; done) | (simp [bne]; done), by repeat (first | exact Drawn0.refl _ | apply Drawn0.step)⟩
      ·rw [if_neg c26] at H
       have c26b0 : (q269 == 5) = false := beq_eq_false_iff_ne.mpr c26
       have c26b1 : (q269 != 5) = true := bne_iff_ne.mpr c26
       by_cases c37 : q269 = 6
       ·rw [if_pos c37] at H
        have c37b0 : (q269 == 6) = true := beq_iff_eq.mpr c37
        have c37b1 : (q269 != 6) = false := bne_eq_false_iff_eq.mpr c37
        clear c37
        obtain rfl := Option.some.inj H
        have hg38 := Sent.at_1 HE.out hk1
        have hg39 := Sent.errs HE.out
        have hg40 := Sent.at_2 HE.out hk2
        have hg41 := Sent.errs HE.out
        have hg42 := Sent.at_3 HE.out hk3
        have hg43 := Sent.errs HE.out
        have hg44 := Sent.at_4 HE.out hk4
        have hg45 := Sent.errs HE.out
        have hg46 := Sent.at_5 HE.out hk5
        have hg47 := Sent.errs HE.out
        have hg48 := Sent.at_6 HE.out hk6
        have hg49 := Sent.errs HE.out
        go_enter Tryd.func18, Tryd.ntmps18
        go_wp2
        go_ret
        exact ⟨by first | rfl | (simp; done) | (simp [*]; done) | (simp [bne]; done), by repeat (first | exact Drawn0.refl _ | apply Drawn0.step)⟩
       ·rw [if_neg c37] at H
        have c37b0 : (q269 == 6) = false := beq_eq_false_iff_ne.mpr c37
        have c37b1 : (q269 != 6) = true := bne_iff_ne.mpr c37
        by_cases c50 : q269 = 7
        ·rw [if_pos c50] at H
         have c50b0 : (q269 == 7) = true := beq_iff_eq.mpr c50
         have c50b1 : (q269 != 7) = false := bne_eq_false_iff_eq.mpr c50
         clear c50
         obtain rfl := Option.some.inj H
         have hg51 := Sent.at_1 HE.out hk1
         have hg52 := Sent.errs HE.out
         have hg53 := Sent.at_2 HE.out hk2
         have hg54 := Sent.errs HE.out
         have hg55 := Sent.at_3 HE.out hk3
         have hg56 := Sent.errs HE.out
         have hg57 := Sent.at_4 HE.out hk4
         have hg58 := Sent.errs HE.out
         have hg59 := Sent.at_5 HE.out hk5
         have hg60 := Sent.errs HE.out
         have hg61 := Sent.at_6 HE.out hk6
         have hg62 := Sent.errs HE.out
         have hg63 := Sent.at_7 HE.out hk7
         have hg64 := Sent.errs HE.out
         go_enter Tryd.func18, Tryd.ntmps18
         go_wp2
         go_ret
         exact ⟨by first | rfl | (simp; done) | (simp [*]; done) | (simp [bne]; done), by repeat (first | exact Drawn0.refl _ | apply Drawn0.step)⟩
        ·rw [if_neg c50] at H
         have c50b0 : (q269 == 7) = false := beq_eq_false_iff_ne.mpr c50
         have c50b1 : (q269 != 7) = true := bne_iff_ne.mpr c50
         replace H := Option.bind_eq_some_iff.mp H
         obtain ⟨t270, A650, H⟩ := H
         replace H : (some t270) = some r := H
         have A65 := Aside0.mk A650
         clear A650
         obtain rfl := Option.some.inj H
         have hg66 := Sent.at_1 HE.out hk1
         have hg67 := Sent.errs HE.out
         have hg68 := Sent.at_2 HE.out hk2
         have hg69 := Sent.errs HE.out
         have hg70 := Sent.at_3 HE.out hk3
         have hg71 := Sent.errs HE.out
         have hg72 := Sent.at_4 HE.out hk4
         have hg73 := Sent.errs HE.out
         have hg74 := Sent.at_5 HE.out hk5
         have hg75 := Sent.errs HE.out
         have hg76 := Sent.at_6 HE.out hk6
         have hg77 := Sent.errs HE.out
         have hg78 := Sent.at_7 HE.out hk7
         have hg79 := Sent.errs HE.out
         have CA65 := fun W (hE_ : Sent EA SS W) => usherkit_more.calls (EA := EA) hk8 hk9 hk10 hk11 hk12 hk13 (some q269) t270 W hE_ A65.out
         try simp only [errW_none, errW_some] at CA65
         go_enter Tryd.func18, Tryd.ntmps18
         go_wp2_with (first | (go_at_call 37; (with_reducible refine (CA65 _ ?sideE).mono ?_); (case sideE => repeat (first | exact HE.out | (with_reducible refine Sent.alloc ?_ _) | (with_reducible refine Sent.drewN ?_ _) | (with_reducible refine Sent.drew ?_))); rintro e w' ⟨rfl, ⟨nd, rfl⟩⟩))
         go_ret
         exact ⟨by first | rfl | (simp; done) | (simp [*]; done) | (simp [bne]; done), by repeat (first | exact Drawn0.refl _ | apply Drawn0.step)⟩

/-! ### usherref0_SamePairs: function 19 -/
def usherref0_SamePairs.l0 : Nat → List (S29) → List (S29) → Int → Option (Bool)
 | 0, _, _, _ => none
 | k + 1, x0, x1, x5 => if x5 < (x0.length : Int) then (if 0 ≤ x5 then (if x5 < (x1.length : Int) then (if (!((((rd_T29 x0 x5).f0).toList) == (((rd_T29 x1 x5).f0).toList)) || (!((((rd_T29 x0 x5).f1).toList) == (((rd_T29 x1 x5).f1).toList)))) = true then (some false) else (usherref0_SamePairs.l0 k x0 x1 (wrap64 (x5 + 1)))) else (none)) else (none)) else (some true)
def usherref0_SamePairs.f (k : Nat) (l0 : List (S29)) (l1 : List (S29)) : Option (Bool) := if (l0.length : Int) = (l1.length : Int) then (usherref0_SamePairs.l0 k l0 l1 0) else (some false)
theorem usherref0_SamePairs.mono_l : ∀ k, (∀ y0 y1 y2, LeO (usherref0_SamePairs.l0 k y0 y1 y2) (usherref0_SamePairs.l0 (k + 1) y0 y1 y2))
 | 0 => fun _ _ _ r h => by simp [usherref0_SamePairs.l0] at h
 | k + 1 => by
  have ih0 := usherref0_SamePairs.mono_l k
  ·intro y0 y1 y2
   unfold usherref0_SamePairs.l0
   repeat' first
   | (with_reducible exact ih0 _ _ _)
   | (with_reducible exact LeO.refl _)
   | (with_reducible exact LeO.none _)
   | (with_reducible refine LeO.ite ?_ ?_)
   | (with_reducible refine LeO.bind ?_ (fun _ => ?_))
   | exact ih0 _ _ _
   | exact LeO.none _
   | refine LeO.ite ?_ ?_
   | refine LeO.bind ?_ (fun _ => ?_)
theorem usherref0_SamePairs.mono : ∀ a0 a1 k, LeO (usherref0_SamePairs.f k a0 a1) (usherref0_SamePairs.f (k + 1) a0 a1) := by
 intro a0 a1 k
 have ih0 := usherref0_SamePairs.mono_l k
 unfold usherref0_SamePairs.f
 repeat' first
   | (with_reducible exact ih0 _ _ _)
   | (with_reducible exact LeO.refl _)
   | (with_reducible exact LeO.none _)
   | (with_reducible refine LeO.ite ?_ ?_)
   | (with_reducible refine LeO.bind ?_ (fun _ => ?_))
   | exact ih0 _ _ _
   | exact LeO.none _
   | refine LeO.ite ?_ ?_
   | refine LeO.bind ?_ (fun _ => ?_)
set_option maxHeartbeats 8000000 in
set_option maxRecDepth 100000 in
theorem usherref0_SamePairs.calls (k : Nat) (A0 : Option Addr) (c0 : Nat) (l0 : List (S29)) (A1 : Option Addr) (c1 : Nat) (l1 : List (S29)) (r : Bool) (w : World) (hr0 : Kd.C k29 w A0 l0.length l0) (hc0 : l0.length ≤ c0) (hr1 : Kd.C k29 w A1 l1.length l1) (hc1 : l1.length ≤ c1) (h : usherref0_SamePairs.f k l0 l1 = some r) :
  Calls Tryd.prog 19 #[.slice A0 l0.length c0, .slice A1 l1.length c1] w fun e w' => e = .returned (.bool r) ∧ Drawn0 w w' := by
 have hu29 := Tryd.underlying29
 have HR0 := Aside0.mk hr0
 have HC0 := Aside0.mk hc0
 clear hr0 hc0
 have HR1 := Aside0.mk hr1
 have HC1 := Aside0.mk hc1
 clear hr1 hc1
 have H : (if (l0.length : Int) = (l1.length : Int) then (usherref0_SamePairs.l0 k l0 l1 0) else (some false)) = some r := h
 clear h
 by_cases c3 : (l0.length : Int) = (l1.length : Int)
 ·rw [if_pos c3] at H
  have c3b0 : ((l0.length : Int) == (l1.length : Int)) = true := beq_iff_eq.mpr c3
  have c3b1 : ((l0.length : Int) != (l1.length : Int)) = false := bne_eq_false_iff_eq.mpr c3
  have c3b2 : (l0.length == l1.length) = true := by first | simpa using c3 | (simp at c3 ⊢; omega)
  clear c3
  have H' := Aside0.mk H
  clear H
  go_enter Tryd.func19, Tryd.ntmps19
  go_wp2
  repeat (go_quiet (fail); try go_wp2)
  go_loopg [5] k (fun kq v5 w' => ∃ (x5_1 : Int), v5 = .int .i64 x5_1 ∧ Aside0 (usherref0_SamePairs.l0 kq l0 l1 x5_1 = some r) ∧ Aside0 (kq ≤ k) ∧ Drawn0 w w')
  case atStart => exact ⟨(0), (by first | rfl | (simp; done) | (simp [*]; done) | (simp [bne]; done)), H', ⟨Nat.le_refl _⟩, by repeat (first | exact Drawn0.refl _ | apply Drawn0.step)⟩
  case round =>
   clear H'
   try clear c1
   try clear p2
   try clear c3
   try clear c3b0
   try clear c3b1
   try clear c3b2
   obtain ⟨x5_1, rfl, HA, HK1, ⟨m1, rfl⟩⟩ := hrel
   cases gk with
   | zero => exact absurd HA.out (by simp [usherref0_SamePairs.l0])
   | succ k1 =>
    have H := HA.out
    clear HA
    simp only [usherref0_SamePairs.l0] at H
    by_cases c4 : x5_1 < (l0.length : Int)
    ·rw [if_pos c4] at H
     have c4b0 : decide (x5_1 < (l0.length : Int)) = true := decide_eq_true c4
     clear c4
     by_cases c5 : 0 ≤ x5_1
     ·rw [if_pos c5] at H
      have c5b0 : decide (0 ≤ x5_1) = true := decide_eq_true c5
      clear c5
      by_cases c6 : x5_1 < (l1.length : Int)
      ·rw [if_pos c6] at H
       have c6b0 : decide (x5_1 < (l1.length : Int)) = true := decide_eq_true c6
       clear c6
       by_cases c7 : (!((((rd_T29 l0 x5_1).f0).toList) == (((rd_T29 l1 x5_1).f0).toList)) || (!((((rd_T29 l0 x5_1).f1).toList) == (((rd_T29 l1 x5_1).f1).toList)))) = true
       ·rw [if_pos c7] at H
        have c7b0 : (!((((rd_T29 l0 x5_1).f0).toList) == (((rd_T29 l1 x5_1).f0).toList)) || (!((((rd_T29 l0 x5_1).f1).toList) == (((rd_T29 l1 x5_1).f1).toList)))) = true := c7
        clear c7
        obtain rfl := Option.some.inj H
        have p271 : 0 ≤ (x5_1 : Int) := of_decide_eq_true (by first | (with_reducible assumption) | assumption)
        have q271 : x5_1 < (l0.length : Int) := of_decide_eq_true (by first | (with_reducible assumption) | assumption)
        obtain ⟨ad271, e271, hx271_0, hx271_1⟩ := at_T29 HR0.out x5_1 p271 q271
        cases e271
        replace p271 := eq_true p271
        replace q271 := eq_true q271
        have p272 : 0 ≤ (x5_1 : Int) := of_decide_eq_true (by first | (with_reducible assumption) | assumption)
        have q272 : x5_1 < (l1.length : Int) := of_decide_eq_true (by first | (with_reducible assumption) | assumption)
        obtain ⟨ad272, e272, hx272_0, hx272_1⟩ := at_T29 HR1.out x5_1 p272 q272
        cases e272
        replace p272 := eq_true p272
        replace q272 := eq_true q272
        go_wp2
        repeat (go_quiet (fail); try go_wp2)
        go_ret
        exact ⟨by first | rfl | (simp; done) | (simp [*]; done) | (simp [bne]; done), by repeat (first | exact Drawn0.refl _ | apply Drawn0.step)⟩
       ·rw [if_neg c7] at H
        have c7b0 : (!((((rd_T29 l0 x5_1).f0).toList) == (((rd_T29 l1 x5_1).f0).toList)) || (!((((rd_T29 l0 x5_1).f1).toList) == (((rd_T29 l1 x5_1).f1).toList)))) = false := by simpa using c7
        clear c7
        have H' := Aside0.mk H
        clear H
        have p271 : 0 ≤ (x5_1 : Int) := of_decide_eq_true (by first | (with_reducible assumption) | assumption)
        have q271 : x5_1 < (l0.length : Int) := of_decide_eq_true (by first | (with_reducible assumption) | assumption)
        obtain ⟨ad271, e271, hx271_0, hx271_1⟩ := at_T29 HR0.out x5_1 p271 q271
        cases e271
        replace p271 := eq_true p271
        replace q271 := eq_true q271
        have p272 : 0 ≤ (x5_1 : Int) := of_decide_eq_true (by first | (with_reducible assumption) | assumption)
        have q272 : x5_1 < (l1.length : Int) := of_decide_eq_true (by first | (with_reducible assumption) | assumption)
        obtain ⟨ad272, e272, hx272_0, hx272_1⟩ := at_T29 HR1.out x5_1 p272 q272
        cases e272
        replace p272 := eq_true p272
        replace q272 := eq_true q272
        go_wp2
        repeat (go_quiet (fail); try go_wp2)
        go_roundg k1
        case measure => have := HK1.out; omega
        case rel => exact ⟨(wrap64 (x5_1 + 1)), (by first | rfl | (simp; done) | (simp [*]; done) | (simp [bne]; done)), H', ⟨by have := HK1.out; omega⟩, by repeat (first | exact Drawn0.refl _ | apply Drawn0.step)⟩
      ·rw [if_neg c6] at H
       exact absurd H (by simp)
     ·rw [if_neg c5] at H
      exact absurd H (by simp)
    ·rw [if_neg c4] at H
     have c4b0 : decide (x5_1 < (l0.length : Int)) = false := decide_eq_false c4
     clear c4
     obtain rfl := Option.some.inj H
     go_wp2
     repeat (go_quiet (fail); try go_wp2)
     go_ret
     exact ⟨by first | rfl | (simp; done) | (simp [*]; done) | (simp [bne]; done), by repeat (first | exact Drawn0.refl _ | apply Drawn0.step)⟩
 ·rw [if_neg c3] at H
  have c3b0 : ((l0.length : Int) == (l1.length : Int)) = false := beq_eq_false_iff_ne.mpr c3
  have c3b1 : ((l0.length : Int) != (l1.length : Int)) = true := bne_iff_ne.mpr c3
  have c3b2 : (l0.length == l1.length) = false := by first | simpa using c3 | (simp at c3 ⊢; omega)
  obtain rfl := Option.some.inj H
  go_enter Tryd.func19, Tryd.ntmps19
  go_wp2
  repeat (go_quiet (fail); try go_wp2)
  go_ret
  exact ⟨by first | rfl | (simp; done) | (simp [*]; done) | (simp [bne]; done), by repeat (first | exact Drawn0.refl _ | apply Drawn0.step)⟩

end Go.Proofs.YtopfmcgmfnmikaaDoor.X
