-- Printed by a program of this session (wip/xprint), not by the kit's print.
import Derived.Test.YtlnjomhmffdfnaaDoorXx0
import Derived.Test.YtlnjomhmffdfnaaDoorXx12
import Derived.Test.YtlnjomhmffdfnaaDoorXx17
namespace Go.Proofs.YtlnjomhmffdfnaaDoor.X
open Go.RowKit Go.Proofs.YtlnjomhmffdfnaaDoorW.PrintWords Go.Proofs.YtlnjomhmffdfnaaDoorW.PrintLast Go.Proofs.YtlnjomhmffdfnaaDoorW.PrintMore
attribute [local go_sem] max2_int min2_int max_two min_two max_three min_three max_four min_four   -- for this text's walks alone
set_option linter.unusedVariables false
set_option linter.unusedSimpArgs false
open Go.Proofs.YtlnjomhmffdfnaaDoor
attribute [local go_sem] ErrBlk_alloc ErrBlk_drew ErrBlk_drewN errs_eql errs_neq nil_errs_eql nil_errs_neq
variable {EA : Int → Addr} {SS : List Int}

/-! ### usherlaw3_PctJoin: function 11 -/
mutual
def usherlaw3_PctJoin.j0 : Nat → Bool → ByteArray → ByteArray → Option (Bool)
  | 0, _, _, _ => none
  | k + 1, x36, x404000, x404001 => if x36 = true then (some false) else ((pct_Pairs.f k x404000).bind fun bt411 => ((pct_Pairs.f k x404001).bind fun bt415 => (if x404000.size + 1 ≤ 9223372036854775807 then (if (x404000 ++ (⟨#[38]⟩ : ByteArray)).size + x404001.size ≤ 9223372036854775807 then ((pct_Pairs.f k ((x404000 ++ (⟨#[38]⟩ : ByteArray)) ++ x404001)).bind fun bt419 => (if bt411.2.isNone = true then (if bt415.2.isNone = true then (usherlaw3_PctJoin.j1 k bt411.1 none bt415.1 none bt419.1 bt419.2 false) else (usherlaw3_PctJoin.j1 k bt411.1 none bt415.1 (some (bt415.2.getD 0)) bt419.1 bt419.2 ((bt415.2.getD 0) == 3))) else (if (bt411.2.getD 0) = 3 then (usherlaw3_PctJoin.j1 k bt411.1 (some (bt411.2.getD 0)) bt415.1 bt415.2 bt419.1 bt419.2 true) else (if bt415.2.isNone = true then (usherlaw3_PctJoin.j1 k bt411.1 (some (bt411.2.getD 0)) bt415.1 none bt419.1 bt419.2 false) else (usherlaw3_PctJoin.j1 k bt411.1 (some (bt411.2.getD 0)) bt415.1 (some (bt415.2.getD 0)) bt419.1 bt419.2 ((bt415.2.getD 0) == 3)))))) else (none)) else (none))))
def usherlaw3_PctJoin.j1 : Nat → List (S52) → Option Int → List (S52) → Option Int → List (S52) → Option Int → Bool → Option (Bool)
  | 0, _, _, _, _, _, _, _ => none
  | k + 1, x5, x6, x7, x8, x9, x10, x66 => if x66 = true then (if x10.isNone = true then (some false) else (if (x10.getD 0) = 3 then (some ((x9.length : Int) == 0)) else (some false))) else (if x6.isNone = true then (if x8.isNone = true then (usherlaw3_PctJoin.j2 k x5 x7 x9 x10 false) else (usherlaw3_PctJoin.j2 k x5 x7 x9 x10 true)) else (usherlaw3_PctJoin.j2 k x5 x7 x9 x10 true))
def usherlaw3_PctJoin.j2 : Nat → List (S52) → List (S52) → List (S52) → Option Int → Bool → Option (Bool)
  | 0, _, _, _, _, _ => none
  | k + 1, x5, x7, x9, x10, x80 => if x80 = true then (if x10.isNone = true then (some false) else (if (x10.getD 0) = 2 then (some ((x9.length : Int) == 0)) else (if (x10.getD 0) = 3 then (some ((x9.length : Int) == 0)) else (some false)))) else (if (wrap64 ((x5.length : Int) + (x7.length : Int))) > 32 then (if x10.isNone = true then (some false) else (if (x10.getD 0) = 3 then (some ((x9.length : Int) == 0)) else (some false))) else (if ([] : List (S52)).length + x5.length < 4398046511104 then ((some (([] : List (S52)) ++ x5 : List (S52))).bind fun y431 => (if y431.length + x7.length < 4398046511104 then (if x10.isNone = true then ((usherref0_SamePairs.f k x9 (y431 ++ x7)).bind fun t438 => (some t438)) else (some false)) else (none))) else (none)))
end
def usherlaw3_PctJoin.f (k : Nat) (a0_0 : ByteArray) (a0_1 : ByteArray) : Option (Bool) := (pct_Pairs.f k (⟨#[107, 61, 118]⟩ : ByteArray)).bind fun bt404 => (if bt404.2.isNone = true then (if (bt404.1.length : Int) = 1 then (if 0 < (bt404.1.length : Int) then (if ((rd_T52 bt404.1 0).f0).toList = ([107] : List UInt8) then (usherlaw3_PctJoin.j0 k (((rd_T52 bt404.1 0).f1).toList != ([118] : List UInt8)) a0_0 a0_1) else (usherlaw3_PctJoin.j0 k true a0_0 a0_1)) else (none)) else (usherlaw3_PctJoin.j0 k true a0_0 a0_1)) else (usherlaw3_PctJoin.j0 k true a0_0 a0_1))
theorem usherlaw3_PctJoin.mono_l : ∀ k, (∀ y0 y1 y2, LeO (usherlaw3_PctJoin.j0 k y0 y1 y2) (usherlaw3_PctJoin.j0 (k + 1) y0 y1 y2)) ∧ (∀ y0 y1 y2 y3 y4 y5 y6, LeO (usherlaw3_PctJoin.j1 k y0 y1 y2 y3 y4 y5 y6) (usherlaw3_PctJoin.j1 (k + 1) y0 y1 y2 y3 y4 y5 y6)) ∧ (∀ y0 y1 y2 y3 y4, LeO (usherlaw3_PctJoin.j2 k y0 y1 y2 y3 y4) (usherlaw3_PctJoin.j2 (k + 1) y0 y1 y2 y3 y4))
  | 0 => ⟨fun _ _ _ r h => by simp [usherlaw3_PctJoin.j0] at h, fun _ _ _ _ _ _ _ r h => by simp [usherlaw3_PctJoin.j1] at h, fun _ _ _ _ _ r h => by simp [usherlaw3_PctJoin.j2] at h⟩
  | k + 1 => by
    obtain ⟨ih0, ih1, ih2⟩ := usherlaw3_PctJoin.mono_l k
    refine ⟨?_, ?_, ?_⟩
    · intro y0 y1 y2
      unfold usherlaw3_PctJoin.j0
      repeat' first
      | (with_reducible exact ih0 _ _ _)
      | (with_reducible exact ih1 _ _ _ _ _ _ _)
      | (with_reducible exact ih2 _ _ _ _ _)
      | (with_reducible exact pct_Pairs.mono _ _)
      | (with_reducible exact usherref0_SamePairs.mono _ _ _)
      | (with_reducible exact LeO.refl _)
      | (with_reducible exact LeO.none _)
      | (with_reducible refine LeO.ite ?_ ?_)
      | (with_reducible refine LeO.bind ?_ (fun _ => ?_))
      | exact ih0 _ _ _
      | exact ih1 _ _ _ _ _ _ _
      | exact ih2 _ _ _ _ _
      | exact pct_Pairs.mono _ _
      | exact usherref0_SamePairs.mono _ _ _
      | exact LeO.none _
      | refine LeO.ite ?_ ?_
      | refine LeO.bind ?_ (fun _ => ?_)
    · intro y0 y1 y2 y3 y4 y5 y6
      unfold usherlaw3_PctJoin.j1
      repeat' first
      | (with_reducible exact ih0 _ _ _)
      | (with_reducible exact ih1 _ _ _ _ _ _ _)
      | (with_reducible exact ih2 _ _ _ _ _)
      | (with_reducible exact pct_Pairs.mono _ _)
      | (with_reducible exact usherref0_SamePairs.mono _ _ _)
      | (with_reducible exact LeO.refl _)
      | (with_reducible exact LeO.none _)
      | (with_reducible refine LeO.ite ?_ ?_)
      | (with_reducible refine LeO.bind ?_ (fun _ => ?_))
      | exact ih0 _ _ _
      | exact ih1 _ _ _ _ _ _ _
      | exact ih2 _ _ _ _ _
      | exact pct_Pairs.mono _ _
      | exact usherref0_SamePairs.mono _ _ _
      | exact LeO.none _
      | refine LeO.ite ?_ ?_
      | refine LeO.bind ?_ (fun _ => ?_)
    · intro y0 y1 y2 y3 y4
      unfold usherlaw3_PctJoin.j2
      repeat' first
      | (with_reducible exact ih0 _ _ _)
      | (with_reducible exact ih1 _ _ _ _ _ _ _)
      | (with_reducible exact ih2 _ _ _ _ _)
      | (with_reducible exact pct_Pairs.mono _ _)
      | (with_reducible exact usherref0_SamePairs.mono _ _ _)
      | (with_reducible exact LeO.refl _)
      | (with_reducible exact LeO.none _)
      | (with_reducible refine LeO.ite ?_ ?_)
      | (with_reducible refine LeO.bind ?_ (fun _ => ?_))
      | exact ih0 _ _ _
      | exact ih1 _ _ _ _ _ _ _
      | exact ih2 _ _ _ _ _
      | exact pct_Pairs.mono _ _
      | exact usherref0_SamePairs.mono _ _ _
      | exact LeO.none _
      | refine LeO.ite ?_ ?_
      | refine LeO.bind ?_ (fun _ => ?_)
theorem usherlaw3_PctJoin.mono : ∀ a0 a1 k, LeO (usherlaw3_PctJoin.f k a0 a1) (usherlaw3_PctJoin.f (k + 1) a0 a1) := by
  intro a0 a1 k
  obtain ⟨ih0, ih1, ih2⟩ := usherlaw3_PctJoin.mono_l k
  unfold usherlaw3_PctJoin.f
  repeat' first
      | (with_reducible exact ih0 _ _ _)
      | (with_reducible exact ih1 _ _ _ _ _ _ _)
      | (with_reducible exact ih2 _ _ _ _ _)
      | (with_reducible exact pct_Pairs.mono _ _)
      | (with_reducible exact usherref0_SamePairs.mono _ _ _)
      | (with_reducible exact LeO.refl _)
      | (with_reducible exact LeO.none _)
      | (with_reducible refine LeO.ite ?_ ?_)
      | (with_reducible refine LeO.bind ?_ (fun _ => ?_))
      | exact ih0 _ _ _
      | exact ih1 _ _ _ _ _ _ _
      | exact ih2 _ _ _ _ _
      | exact pct_Pairs.mono _ _
      | exact usherref0_SamePairs.mono _ _ _
      | exact LeO.none _
      | refine LeO.ite ?_ ?_
      | refine LeO.bind ?_ (fun _ => ?_)
set_option maxHeartbeats 8000000 in
set_option maxRecDepth 100000 in
theorem usherlaw3_PctJoin.calls (hk2 : (2 : Int) ∈ SS) (hk3 : (3 : Int) ∈ SS) (k : Nat) (a0_0 : ByteArray) (a0_1 : ByteArray) (r : Bool) (w : World) (hE : Sent EA SS w) (h : usherlaw3_PctJoin.f k a0_0 a0_1 = some r) :
    Calls Tryd.prog 11 #[.agg #[.string a0_0, .string a0_1]] w fun e w' => e = .returned (.bool r) ∧ Below w.heap.size w w' := by
  have hu50 := Tryd.underlying50
  have hu27 := Tryd.underlying27
  have hu98 := Tryd.underlying98
  have HE := Aside0.mk hE
  clear hE
  have HB := Aside0.mk (Below.refl w.heap.size w)
  have H : ((pct_Pairs.f k (⟨#[107, 61, 118]⟩ : ByteArray)).bind fun bt404 => (if bt404.2.isNone = true then (if (bt404.1.length : Int) = 1 then (if 0 < (bt404.1.length : Int) then (if ((rd_T52 bt404.1 0).f0).toList = ([107] : List UInt8) then (usherlaw3_PctJoin.j0 k (((rd_T52 bt404.1 0).f1).toList != ([118] : List UInt8)) a0_0 a0_1) else (usherlaw3_PctJoin.j0 k true a0_0 a0_1)) else (none)) else (usherlaw3_PctJoin.j0 k true a0_0 a0_1)) else (usherlaw3_PctJoin.j0 k true a0_0 a0_1))) = some r := h
  clear h
  replace H := Option.bind_eq_some_iff.mp H
  obtain ⟨⟨t404, t405⟩, A20, H⟩ := H
  replace H : (if t405.isNone = true then (if (t404.length : Int) = 1 then (if 0 < (t404.length : Int) then (if ((rd_T52 t404 0).f0).toList = ([107] : List UInt8) then (usherlaw3_PctJoin.j0 k (((rd_T52 t404 0).f1).toList != ([118] : List UInt8)) a0_0 a0_1) else (usherlaw3_PctJoin.j0 k true a0_0 a0_1)) else (none)) else (usherlaw3_PctJoin.j0 k true a0_0 a0_1)) else (usherlaw3_PctJoin.j0 k true a0_0 a0_1)) = some r := H
  have A2 := Aside0.mk A20
  clear A20
  have HC3 := Aside0.mk H
  clear H
  go_enter Tryd.func11, Tryd.ntmps11
  go_upto_region 2 with (first | ((with_reducible refine gate_dst (N := 1) rfl ?_); (try (refine gate_guard (by rfl) ?_; dsimp only)); refine box_event ?hg (N := 1) ?hd (cs := #[.string a0_0, .string a0_1]) (t := 50) ?hr ?_; (case hd => rfl); (case hg => rfl); (case hr => first | (go_simp; done) | (go_simp; rfl)); intro gb403 hg w4 hbox hb; have n0_ := Aside0.mk (below_step (by repeat (first | (with_reducible first | exact HB.out | apply below_alloc | apply pw_below_drewN | apply below_drew1) | exact HB.out)) hb); have n1_ := Aside0.mk (hbox); have n2_ := Aside0.mk ((by rw [hg]; exact (below_size (by repeat (first | (with_reducible first | exact HB.out | apply below_alloc | apply pw_below_drewN | apply below_drew1) | exact HB.out))) : w.heap.size ≤ gb403)); have n3_ := Aside0.mk ((by rw [hg]; exact (below_size (by repeat (first | (with_reducible first | exact HB.out | apply below_alloc | apply pw_below_drewN | apply below_drew1) | exact HB.out))) : w.heap.size ≤ gb403)); clear HB; have HB := n0_; have BK403 := n1_; have GW403 := n2_; have GE403 := n3_; clear n0_ n1_ n2_ n3_; clear hb hbox hg) | ((with_reducible refine gate_callee (f := 28) rfl ?_); refine goesL_ (some 13) rfl rfl Tryd.func28 (by kernel_rfl) rfl #[.string (⟨#[107, 61, 118]⟩ : ByteArray)] rfl (by (try simp only [List.map_toArray, List.map_cons, List.map_nil]); first | done | rfl | (simp only [List.length_drop, List.length_take]; rfl)) ?_; (with_reducible refine (pct_Pairs.calls (EA := EA) hk2 hk3 k (⟨#[107, 61, 118]⟩ : ByteArray) t404 t405 _ ?side1 A2.out).mono ?_); (case side1 => repeat (first | exact (Sent.below HE.out HB.out) | (with_reducible refine Sent.alloc ?_ _) | (with_reducible refine Sent.drewN ?_ _) | (with_reducible refine Sent.drew ?_))); rintro e w5 ⟨v406, rfl, ho0, hb⟩; refine ⟨_, rfl, ?_⟩; have n0_ := Aside0.mk (Kd.R_lower ho0 (below_size (by repeat (first | (with_reducible first | exact HB.out | apply below_alloc | apply pw_below_drewN | apply below_drew1 | refine below_set ?_ GE403.out) | exact HB.out)))); have n1_ := Aside0.mk (blk_below (g := gb403) (o := .cells #[.string a0_0, .string a0_1] 50 (0, 0)) (by (with_reducible repeat (first | refine blk_drewN ?_ _ | refine blk_drew ?_ | refine blk_alloc ?_ _)); exact BK403.out) hb); have n2_ := Aside0.mk (below_step (by repeat (first | (with_reducible first | exact HB.out | apply below_alloc | apply pw_below_drewN | apply below_drew1 | refine below_set ?_ GE403.out) | exact HB.out)) hb); clear BK403; clear HB; have HO407 := n0_; have BK403 := n1_; have HB := n2_; clear n0_ n1_ n2_; (try clear hb); (try clear hb2); (try clear hk); (try clear hi); (try clear ho0); (try simp only [errW_none, errW_some])))
  (try simp only [Act.put, List.setIfInBounds_toArray, List.set_cons_zero, List.set_cons_succ])
  go_cut [36] (fun v36 wc => ∃ (kq : Nat) (x36_2 : Bool), v36 = .bool x36_2 ∧ Aside0 (usherlaw3_PctJoin.j0 kq x36_2 a0_0 a0_1 = some r) ∧ Aside0 (kq ≤ k) ∧ Aside0 (wc.heap[gb403]? = some (.cells #[.string a0_0, .string a0_1] 50 (0, 0))) ∧ Aside0 (Below w.heap.size w wc))
  case first =>
    have H := HC3.out
    clear HC3
    rcases t405 with _ | q408
    · have H1 : (if (t404.length : Int) = 1 then (if 0 < (t404.length : Int) then (if ((rd_T52 t404 0).f0).toList = ([107] : List UInt8) then (usherlaw3_PctJoin.j0 k (((rd_T52 t404 0).f1).toList != ([118] : List UInt8)) a0_0 a0_1) else (usherlaw3_PctJoin.j0 k true a0_0 a0_1)) else (none)) else (usherlaw3_PctJoin.j0 k true a0_0 a0_1)) = some r := by rw [if_pos (show (none : Option Int).isNone = true by rfl)] at H; exact H
      clear H
      have H := H1
      clear H1
      try simp only [errW_none, errW_some]
      by_cases c6 : (t404.length : Int) = 1
      · rw [if_pos c6] at H
        have c6b0 : ((t404.length : Int) == 1) = true := beq_iff_eq.mpr c6
        have c6b1 : ((t404.length : Int) != 1) = false := bne_eq_false_iff_eq.mpr c6
        clear c6
        (first | rw [c6b0] | (simp only [i64_w, i32_w]; rw [c6b0]) | skip)
        by_cases c7 : 0 < (t404.length : Int)
        · rw [if_pos c7] at H
          have c7b0 : decide (0 < (t404.length : Int)) = true := decide_eq_true c7
          have c7b1 : decide (0 < t404.length) = true := decide_eq_true (by omega)
          clear c7
          by_cases c8 : ((rd_T52 t404 0).f0).toList = ([107] : List UInt8)
          · rw [if_pos c8] at H
            have c8b0 : (((rd_T52 t404 0).f0).toList == ([107] : List UInt8)) = true := beq_iff_eq.mpr c8
            have c8b1 : (((rd_T52 t404 0).f0).toList != ([107] : List UInt8)) = false := bne_eq_false_iff_eq.mpr c8
            clear c8
            have H' := Aside0.mk H
            clear H
            obtain ⟨Ao9, co9, eo9⟩ := Kd.R_slice HO407.out
            subst eo9
            have p409 : 0 ≤ (0 : Int) := (by omega)
            have q409 : 0 < (t404.length : Int) := of_decide_eq_true (by first | (with_reducible assumption) | assumption)
            obtain ⟨ad409, e409, hx409_0, hx409_1⟩ := at_T52 (Kd.R_reads' HO407.out).2.2 0 p409 q409
            cases e409
            have qi409 : (0 < t404.length) = True := eq_true (by omega)
            (try rw [show ((0 : Int)).toNat = 0 from rfl] at hx409_0)
            (try rw [show 0 * 2 = 0 from rfl] at hx409_0)
            (try rw [Addr.add_zero'] at hx409_0)
            (try rw [show ((0 : Int)).toNat = 0 from rfl] at hx409_1)
            (try rw [show 0 * 2 = 0 from rfl] at hx409_1)
            (try rw [Addr.add_zero'] at hx409_1)
            replace p409 := eq_true p409
            replace q409 := eq_true q409
            have p410 : 0 ≤ (0 : Int) := (by omega)
            have q410 : 0 < (t404.length : Int) := of_decide_eq_true (by first | (with_reducible assumption) | assumption)
            obtain ⟨ad410, e410, hx410_0, hx410_1⟩ := at_T52 (Kd.R_reads' HO407.out).2.2 0 p410 q410
            obtain rfl : ad409 = ad410 := (by injection e410)
            have qi410 : (0 < t404.length) = True := eq_true (by omega)
            (try rw [show ((0 : Int)).toNat = 0 from rfl] at hx410_0)
            (try rw [show 0 * 2 = 0 from rfl] at hx410_0)
            (try rw [Addr.add_zero'] at hx410_0)
            (try rw [show ((0 : Int)).toNat = 0 from rfl] at hx410_1)
            (try rw [show 0 * 2 = 0 from rfl] at hx410_1)
            (try rw [Addr.add_zero'] at hx410_1)
            replace p410 := eq_true p410
            replace q410 := eq_true q410
            go_wp2
            go_meet
            case rel => exact ⟨_, ((((rd_T52 t404 0).f1).toList != ([118] : List UInt8))), (by first | rfl | (simp; done) | (simp [*]; done) | (simp [bne]; done)), H', ⟨by first | omega | exact Nat.le_refl _⟩, ⟨by (with_reducible repeat (first | refine blk_drewN ?_ _ | refine blk_drew ?_ | refine blk_alloc ?_ _)); exact BK403.out⟩, ⟨by repeat (first | (with_reducible first | exact HB.out | apply below_alloc | apply pw_below_drewN | apply below_drew1 | refine below_set ?_ GE403.out) | exact HB.out)⟩⟩
          · rw [if_neg c8] at H
            have c8b0 : (((rd_T52 t404 0).f0).toList == ([107] : List UInt8)) = false := beq_eq_false_iff_ne.mpr c8
            have c8b1 : (((rd_T52 t404 0).f0).toList != ([107] : List UInt8)) = true := bne_iff_ne.mpr c8
            have H' := Aside0.mk H
            clear H
            obtain ⟨Ao10, co10, eo10⟩ := Kd.R_slice HO407.out
            subst eo10
            have p409 : 0 ≤ (0 : Int) := (by omega)
            have q409 : 0 < (t404.length : Int) := of_decide_eq_true (by first | (with_reducible assumption) | assumption)
            obtain ⟨ad409, e409, hx409_0, hx409_1⟩ := at_T52 (Kd.R_reads' HO407.out).2.2 0 p409 q409
            cases e409
            have qi409 : (0 < t404.length) = True := eq_true (by omega)
            (try rw [show ((0 : Int)).toNat = 0 from rfl] at hx409_0)
            (try rw [show 0 * 2 = 0 from rfl] at hx409_0)
            (try rw [Addr.add_zero'] at hx409_0)
            (try rw [show ((0 : Int)).toNat = 0 from rfl] at hx409_1)
            (try rw [show 0 * 2 = 0 from rfl] at hx409_1)
            (try rw [Addr.add_zero'] at hx409_1)
            replace p409 := eq_true p409
            replace q409 := eq_true q409
            go_wp2
            go_meet
            case rel => exact ⟨_, (true), (by first | rfl | (simp; done) | (simp [*]; done) | (simp [bne]; done)), H', ⟨by first | omega | exact Nat.le_refl _⟩, ⟨by (with_reducible repeat (first | refine blk_drewN ?_ _ | refine blk_drew ?_ | refine blk_alloc ?_ _)); exact BK403.out⟩, ⟨by repeat (first | (with_reducible first | exact HB.out | apply below_alloc | apply pw_below_drewN | apply below_drew1 | refine below_set ?_ GE403.out) | exact HB.out)⟩⟩
        · rw [if_neg c7] at H
          exact absurd H (by simp)
      · rw [if_neg c6] at H
        have c6b0 : ((t404.length : Int) == 1) = false := beq_eq_false_iff_ne.mpr c6
        have c6b1 : ((t404.length : Int) != 1) = true := bne_iff_ne.mpr c6
        (first | rw [c6b0] | (simp only [i64_w, i32_w]; rw [c6b0]) | skip)
        have H' := Aside0.mk H
        clear H
        obtain ⟨Ao11, co11, eo11⟩ := Kd.R_slice HO407.out
        subst eo11
        go_wp2
        go_meet
        case rel => exact ⟨_, (true), (by first | rfl | (simp; done) | (simp [*]; done) | (simp [bne]; done)), H', ⟨by first | omega | exact Nat.le_refl _⟩, ⟨by (with_reducible repeat (first | refine blk_drewN ?_ _ | refine blk_drew ?_ | refine blk_alloc ?_ _)); exact BK403.out⟩, ⟨by repeat (first | (with_reducible first | exact HB.out | apply below_alloc | apply pw_below_drewN | apply below_drew1 | refine below_set ?_ GE403.out) | exact HB.out)⟩⟩
    · have H1 : (usherlaw3_PctJoin.j0 k true a0_0 a0_1) = some r := by rw [if_neg (show ¬ (some q408).isNone = true by simp)] at H; exact H
      clear H
      have H := H1
      clear H1
      try simp only [errW_none, errW_some]
      have H' := Aside0.mk H
      clear H
      go_wp2
      go_meet
      case rel => exact ⟨_, (true), (by first | rfl | (simp; done) | (simp [*]; done) | (simp [bne]; done)), H', ⟨by first | omega | exact Nat.le_refl _⟩, ⟨by (with_reducible repeat (first | refine blk_drewN ?_ _ | refine blk_drew ?_ | refine blk_alloc ?_ _)); exact BK403.out⟩, ⟨by repeat (first | (with_reducible first | exact HB.out | apply below_alloc | apply pw_below_drewN | apply below_drew1 | refine below_set ?_ GE403.out) | exact HB.out)⟩⟩
  case rest =>
    clear HC3
    try clear c1
    try clear c2
    try clear p2
    try clear p4
    try clear q4
    try clear hx4
    try clear qi4
    try clear c6
    try clear c6b0
    try clear c6b1
    try clear c7
    try clear c7b0
    try clear c7b1
    try clear c8
    try clear c8b0
    try clear c8b1
    try clear c11
    try clear hx409_0
    try clear hx409_1
    try clear hx410_0
    try clear hx410_1
    try clear p409
    try clear p410
    try clear q408
    try clear q409
    try clear q410
    obtain ⟨kq, x36_2, rfl, HA, HJ2, BK403, HB⟩ := hcut
    cases kq with
    | zero => exact absurd HA.out (by simp [usherlaw3_PctJoin.j0])
    | succ kj2 =>
      have H := HA.out
      clear HA
      simp only [usherlaw3_PctJoin.j0] at H
      by_cases c12 : x36_2 = true
      · subst c12
        have H1 : (some false) = some r := by rw [if_pos rfl] at H; exact H
        clear H
        have H := H1
        clear H1
        obtain rfl := Option.some.inj H
        go_wp2
        go_ret
        exact ⟨by first | rfl | (simp [errW_none, errW_some] <;> rfl) | (simp [*, errW_none, errW_some] <;> rfl), by repeat (first | (with_reducible first | exact HB.out | apply below_alloc | apply pw_below_drewN | apply below_drew1 | refine below_set ?_ GE403.out) | exact HB.out)⟩
      · replace c12 := Bool.eq_false_iff.mpr c12
        subst c12
        have H1 : ((pct_Pairs.f kj2 a0_0).bind fun bt411 => ((pct_Pairs.f kj2 a0_1).bind fun bt415 => (if a0_0.size + 1 ≤ 9223372036854775807 then (if (a0_0 ++ (⟨#[38]⟩ : ByteArray)).size + a0_1.size ≤ 9223372036854775807 then ((pct_Pairs.f kj2 ((a0_0 ++ (⟨#[38]⟩ : ByteArray)) ++ a0_1)).bind fun bt419 => (if bt411.2.isNone = true then (if bt415.2.isNone = true then (usherlaw3_PctJoin.j1 kj2 bt411.1 none bt415.1 none bt419.1 bt419.2 false) else (usherlaw3_PctJoin.j1 kj2 bt411.1 none bt415.1 (some (bt415.2.getD 0)) bt419.1 bt419.2 ((bt415.2.getD 0) == 3))) else (if (bt411.2.getD 0) = 3 then (usherlaw3_PctJoin.j1 kj2 bt411.1 (some (bt411.2.getD 0)) bt415.1 bt415.2 bt419.1 bt419.2 true) else (if bt415.2.isNone = true then (usherlaw3_PctJoin.j1 kj2 bt411.1 (some (bt411.2.getD 0)) bt415.1 none bt419.1 bt419.2 false) else (usherlaw3_PctJoin.j1 kj2 bt411.1 (some (bt411.2.getD 0)) bt415.1 (some (bt415.2.getD 0)) bt419.1 bt419.2 ((bt415.2.getD 0) == 3)))))) else (none)) else (none)))) = some r := by rw [if_neg (show ¬ (false = true) by decide)] at H; exact H
        clear H
        have H := H1
        clear H1
        replace H := Option.bind_eq_some_iff.mp H
        obtain ⟨⟨t411, t412⟩, A130, H⟩ := H
        replace H : ((pct_Pairs.f kj2 a0_1).bind fun bt415 => (if a0_0.size + 1 ≤ 9223372036854775807 then (if (a0_0 ++ (⟨#[38]⟩ : ByteArray)).size + a0_1.size ≤ 9223372036854775807 then ((pct_Pairs.f kj2 ((a0_0 ++ (⟨#[38]⟩ : ByteArray)) ++ a0_1)).bind fun bt419 => (if t412.isNone = true then (if bt415.2.isNone = true then (usherlaw3_PctJoin.j1 kj2 t411 none bt415.1 none bt419.1 bt419.2 false) else (usherlaw3_PctJoin.j1 kj2 t411 none bt415.1 (some (bt415.2.getD 0)) bt419.1 bt419.2 ((bt415.2.getD 0) == 3))) else (if (t412.getD 0) = 3 then (usherlaw3_PctJoin.j1 kj2 t411 (some (t412.getD 0)) bt415.1 bt415.2 bt419.1 bt419.2 true) else (if bt415.2.isNone = true then (usherlaw3_PctJoin.j1 kj2 t411 (some (t412.getD 0)) bt415.1 none bt419.1 bt419.2 false) else (usherlaw3_PctJoin.j1 kj2 t411 (some (t412.getD 0)) bt415.1 (some (bt415.2.getD 0)) bt419.1 bt419.2 ((bt415.2.getD 0) == 3)))))) else (none)) else (none))) = some r := H
        have A13 := Aside0.mk A130
        clear A130
        replace H := Option.bind_eq_some_iff.mp H
        obtain ⟨⟨t415, t416⟩, A140, H⟩ := H
        replace H : (if a0_0.size + 1 ≤ 9223372036854775807 then (if (a0_0 ++ (⟨#[38]⟩ : ByteArray)).size + a0_1.size ≤ 9223372036854775807 then ((pct_Pairs.f kj2 ((a0_0 ++ (⟨#[38]⟩ : ByteArray)) ++ a0_1)).bind fun bt419 => (if t412.isNone = true then (if t416.isNone = true then (usherlaw3_PctJoin.j1 kj2 t411 none t415 none bt419.1 bt419.2 false) else (usherlaw3_PctJoin.j1 kj2 t411 none t415 (some (t416.getD 0)) bt419.1 bt419.2 ((t416.getD 0) == 3))) else (if (t412.getD 0) = 3 then (usherlaw3_PctJoin.j1 kj2 t411 (some (t412.getD 0)) t415 t416 bt419.1 bt419.2 true) else (if t416.isNone = true then (usherlaw3_PctJoin.j1 kj2 t411 (some (t412.getD 0)) t415 none bt419.1 bt419.2 false) else (usherlaw3_PctJoin.j1 kj2 t411 (some (t412.getD 0)) t415 (some (t416.getD 0)) bt419.1 bt419.2 ((t416.getD 0) == 3)))))) else (none)) else (none)) = some r := H
        have A14 := Aside0.mk A140
        clear A140
        by_cases c15 : a0_0.size + 1 ≤ 9223372036854775807
        · rw [if_pos c15] at H
          have c15b0 := eq_true c15
          have c15b1 : decide (a0_0.size + 1 ≤ 9223372036854775807) = true := decide_eq_true c15
          try have c15b2 : (9223372036854775807 < a0_0.size + 1) = False := eq_false (Nat.not_lt.2 c15)
          by_cases c16 : (a0_0 ++ (⟨#[38]⟩ : ByteArray)).size + a0_1.size ≤ 9223372036854775807
          · rw [if_pos c16] at H
            have c16b0 := eq_true c16
            have c16b1 : decide ((a0_0 ++ (⟨#[38]⟩ : ByteArray)).size + a0_1.size ≤ 9223372036854775807) = true := decide_eq_true c16
            try have c16b2 : (9223372036854775807 < (a0_0 ++ (⟨#[38]⟩ : ByteArray)).size + a0_1.size) = False := eq_false (Nat.not_lt.2 c16)
            replace H := Option.bind_eq_some_iff.mp H
            obtain ⟨⟨t419, t420⟩, A170, H⟩ := H
            replace H : (if t412.isNone = true then (if t416.isNone = true then (usherlaw3_PctJoin.j1 kj2 t411 none t415 none t419 t420 false) else (usherlaw3_PctJoin.j1 kj2 t411 none t415 (some (t416.getD 0)) t419 t420 ((t416.getD 0) == 3))) else (if (t412.getD 0) = 3 then (usherlaw3_PctJoin.j1 kj2 t411 (some (t412.getD 0)) t415 t416 t419 t420 true) else (if t416.isNone = true then (usherlaw3_PctJoin.j1 kj2 t411 (some (t412.getD 0)) t415 none t419 t420 false) else (usherlaw3_PctJoin.j1 kj2 t411 (some (t412.getD 0)) t415 (some (t416.getD 0)) t419 t420 ((t416.getD 0) == 3))))) = some r := H
            have A17 := Aside0.mk A170
            clear A170
            have HC18 := Aside0.mk H
            clear H
            have hcz19_0 : wc.cell? ⟨gb403, 0, none⟩ = some (.string a0_0) := (blk_cell BK403.out 0).trans rfl
            have hcz19_1 : wc.cell? ⟨gb403, 1, none⟩ = some (.string a0_1) := (blk_cell BK403.out 1).trans rfl
            have hfz19_0 := blk_frozen BK403.out 0
            have hfz19_1 := blk_frozen BK403.out 1
            go_upto_region 7 with (first | ((with_reducible refine gate_callee (f := 28) rfl ?_); refine goesL_ (some 40) rfl rfl Tryd.func28 (by kernel_rfl) rfl #[.string a0_0] rfl (by (try simp only [List.map_toArray, List.map_cons, List.map_nil]); first | done | rfl | (simp only [List.length_drop, List.length_take]; rfl)) ?_; (with_reducible refine (pct_Pairs.calls (EA := EA) hk2 hk3 kj2 a0_0 t411 t412 _ ?side1 A13.out).mono ?_); (case side1 => repeat (first | exact (Sent.below HE.out HB.out) | (with_reducible refine Sent.alloc ?_ _) | (with_reducible refine Sent.drewN ?_ _) | (with_reducible refine Sent.drew ?_))); rintro e w20 ⟨v413, rfl, ho0, hb⟩; refine ⟨_, rfl, ?_⟩; have n0_ := Aside0.mk (Kd.R_lower ho0 (below_size (by repeat (first | (with_reducible first | exact HB.out | apply below_alloc | apply pw_below_drewN | apply below_drew1 | refine below_set ?_ GE403.out) | exact HB.out)))); have n1_ := Aside0.mk (blk_below (g := gb403) (o := .cells #[.string a0_0, .string a0_1] 50 (0, 0)) (by (with_reducible repeat (first | refine blk_drewN ?_ _ | refine blk_drew ?_ | refine blk_alloc ?_ _)); exact BK403.out) hb); have n2_ := Aside0.mk (below_step (by repeat (first | (with_reducible first | exact HB.out | apply below_alloc | apply pw_below_drewN | apply below_drew1 | refine below_set ?_ GE403.out) | exact HB.out)) hb); clear BK403; clear HB; have HO414 := n0_; have BK403 := n1_; have HB := n2_; clear n0_ n1_ n2_; (try clear hb); (try clear hb2); (try clear hk); (try clear hi); (try clear ho0); (try simp only [errW_none, errW_some]); have hcz21_0 : w20.cell? ⟨gb403, 0, none⟩ = some (.string a0_0) := (blk_cell BK403.out 0).trans rfl; have hcz21_1 : w20.cell? ⟨gb403, 1, none⟩ = some (.string a0_1) := (blk_cell BK403.out 1).trans rfl; have hfz21_0 := blk_frozen BK403.out 0; have hfz21_1 := blk_frozen BK403.out 1) | ((with_reducible refine gate_callee (f := 28) rfl ?_); refine goesL_ (some 46) rfl rfl Tryd.func28 (by kernel_rfl) rfl #[.string a0_1] rfl (by (try simp only [List.map_toArray, List.map_cons, List.map_nil]); first | done | rfl | (simp only [List.length_drop, List.length_take]; rfl)) ?_; (with_reducible refine (pct_Pairs.calls (EA := EA) hk2 hk3 kj2 a0_1 t415 t416 _ ?side1 A14.out).mono ?_); (case side1 => repeat (first | exact (Sent.below HE.out HB.out) | (with_reducible refine Sent.alloc ?_ _) | (with_reducible refine Sent.drewN ?_ _) | (with_reducible refine Sent.drew ?_))); rintro e w22 ⟨v417, rfl, ho0, hb⟩; refine ⟨_, rfl, ?_⟩; have n0_ := Aside0.mk (Kd.R_elder' (by (with_reducible repeat (first | apply Kd.R_alloc | apply Kd.R_drewN | apply Kd.R_drew)); exact HO414.out) (Kd.R_base ho0) hb); have n1_ := Aside0.mk (Kd.R_lower (Kd.R_new' ho0 (Kd.R_lt (by (with_reducible repeat (first | apply Kd.R_alloc | apply Kd.R_drewN | apply Kd.R_drew)); exact HO414.out))) (below_size (by repeat (first | (with_reducible first | exact HB.out | apply below_alloc | apply pw_below_drewN | apply below_drew1 | refine below_set ?_ GE403.out) | exact HB.out)))); have n2_ := Aside0.mk (blk_below (g := gb403) (o := .cells #[.string a0_0, .string a0_1] 50 (0, 0)) (by (with_reducible repeat (first | refine blk_drewN ?_ _ | refine blk_drew ?_ | refine blk_alloc ?_ _)); exact BK403.out) hb); have n3_ := Aside0.mk (below_step (by repeat (first | (with_reducible first | exact HB.out | apply below_alloc | apply pw_below_drewN | apply below_drew1 | refine below_set ?_ GE403.out) | exact HB.out)) hb); clear HO414; clear BK403; clear HB; have HO414 := n0_; have HO418 := n1_; have BK403 := n2_; have HB := n3_; clear n0_ n1_ n2_ n3_; (try clear hb); (try clear hb2); (try clear hk); (try clear hi); (try clear ho0); (try simp only [errW_none, errW_some]); have hcz23_0 : w22.cell? ⟨gb403, 0, none⟩ = some (.string a0_0) := (blk_cell BK403.out 0).trans rfl; have hcz23_1 : w22.cell? ⟨gb403, 1, none⟩ = some (.string a0_1) := (blk_cell BK403.out 1).trans rfl; have hfz23_0 := blk_frozen BK403.out 0; have hfz23_1 := blk_frozen BK403.out 1) | ((with_reducible refine gate_callee (f := 28) rfl ?_); refine goesL_ (some 56) rfl rfl Tryd.func28 (by kernel_rfl) rfl #[.string ((a0_0 ++ (⟨#[38]⟩ : ByteArray)) ++ a0_1)] rfl (by (try simp only [List.map_toArray, List.map_cons, List.map_nil]); first | done | rfl | (simp only [List.length_drop, List.length_take]; rfl)) ?_; (with_reducible refine (pct_Pairs.calls (EA := EA) hk2 hk3 kj2 ((a0_0 ++ (⟨#[38]⟩ : ByteArray)) ++ a0_1) t419 t420 _ ?side1 A17.out).mono ?_); (case side1 => repeat (first | exact (Sent.below HE.out HB.out) | (with_reducible refine Sent.alloc ?_ _) | (with_reducible refine Sent.drewN ?_ _) | (with_reducible refine Sent.drew ?_))); rintro e w24 ⟨v421, rfl, ho0, hb⟩; refine ⟨_, rfl, ?_⟩; have n0_ := Aside0.mk (Kd.R_elder' (by (with_reducible repeat (first | apply Kd.R_alloc | apply Kd.R_drewN | apply Kd.R_drew)); exact HO414.out) (Kd.R_base ho0) hb); have n1_ := Aside0.mk (Kd.R_elder' (by (with_reducible repeat (first | apply Kd.R_alloc | apply Kd.R_drewN | apply Kd.R_drew)); exact HO418.out) (Kd.R_base ho0) hb); have n2_ := Aside0.mk (Kd.R_lower (Kd.R_new' (Kd.R_new' ho0 (Kd.R_lt (by (with_reducible repeat (first | apply Kd.R_alloc | apply Kd.R_drewN | apply Kd.R_drew)); exact HO414.out))) (Kd.R_lt (by (with_reducible repeat (first | apply Kd.R_alloc | apply Kd.R_drewN | apply Kd.R_drew)); exact HO418.out))) (below_size (by repeat (first | (with_reducible first | exact HB.out | apply below_alloc | apply pw_below_drewN | apply below_drew1 | refine below_set ?_ GE403.out) | exact HB.out)))); have n3_ := Aside0.mk (blk_below (g := gb403) (o := .cells #[.string a0_0, .string a0_1] 50 (0, 0)) (by (with_reducible repeat (first | refine blk_drewN ?_ _ | refine blk_drew ?_ | refine blk_alloc ?_ _)); exact BK403.out) hb); have n4_ := Aside0.mk (below_step (by repeat (first | (with_reducible first | exact HB.out | apply below_alloc | apply pw_below_drewN | apply below_drew1 | refine below_set ?_ GE403.out) | exact HB.out)) hb); clear HO414; clear HO418; clear BK403; clear HB; have HO414 := n0_; have HO418 := n1_; have HO422 := n2_; have BK403 := n3_; have HB := n4_; clear n0_ n1_ n2_ n3_ n4_; (try clear hb); (try clear hb2); (try clear hk); (try clear hi); (try clear ho0); (try simp only [errW_none, errW_some])))
            (try simp only [Act.put, List.setIfInBounds_toArray, List.set_cons_zero, List.set_cons_succ])
            go_cut [66] (fun v66 wc => ∃ (kq : Nat) (x66_17 : Bool), v66 = .bool x66_17 ∧ Aside0 (usherlaw3_PctJoin.j1 kq t411 t412 t415 t416 t419 t420 x66_17 = some r) ∧ Aside0 (kq ≤ kj2) ∧ Aside0 (Kd.R k52 52 wc w.heap.size (fun k_ => some k_ ≠ (v417 : Value).ownBlock ∧ some k_ ≠ (v421 : Value).ownBlock) v413 t411) ∧ Aside0 (Kd.R k52 52 wc w.heap.size (fun k_ => some k_ ≠ (v413 : Value).ownBlock ∧ some k_ ≠ (v421 : Value).ownBlock) v417 t415) ∧ Aside0 (Kd.R k52 52 wc w.heap.size (fun k_ => some k_ ≠ (v413 : Value).ownBlock ∧ some k_ ≠ (v417 : Value).ownBlock) v421 t419) ∧ Aside0 (wc.heap[gb403]? = some (.cells #[.string a0_0, .string a0_1] 50 (0, 0))) ∧ Aside0 (Below w.heap.size w wc))
            case first =>
              have H := HC18.out
              clear HC18
              rcases t412 with _ | q423
              · have H1 : (if t416.isNone = true then (usherlaw3_PctJoin.j1 kj2 t411 none t415 none t419 t420 false) else (usherlaw3_PctJoin.j1 kj2 t411 none t415 (some (t416.getD 0)) t419 t420 ((t416.getD 0) == 3))) = some r := by rw [if_pos (show (none : Option Int).isNone = true by rfl)] at H; exact H
                clear H
                have H := H1
                clear H1
                try simp only [errW_none, errW_some]
                rcases t416 with _ | q424
                · have H1 : (usherlaw3_PctJoin.j1 kj2 t411 none t415 none t419 t420 false) = some r := by rw [if_pos (show (none : Option Int).isNone = true by rfl)] at H; exact H
                  clear H
                  have H := H1
                  clear H1
                  try simp only [errW_none, errW_some]
                  have H' := Aside0.mk H
                  clear H
                  have hg25 := Sent.at_3 (Sent.below HE.out HB.out) hk3
                  have hg26 := Sent.at_3 (Sent.below HE.out HB.out) hk3
                  go_wp2
                  go_meet
                  case rel => exact ⟨_, (false), (by first | rfl | (simp; done) | (simp [*]; done) | (simp [bne]; done)), H', ⟨by have := HJ2.out; first | omega | exact Nat.le_refl _⟩, ⟨by (with_reducible repeat (first | apply Kd.R_alloc | apply Kd.R_drewN | apply Kd.R_drew)); exact Kd.R_mono HO414.out (fun _ hk => ⟨hk.1.2, hk.2⟩)⟩, ⟨by (with_reducible repeat (first | apply Kd.R_alloc | apply Kd.R_drewN | apply Kd.R_drew)); exact Kd.R_mono HO418.out (fun _ hk => ⟨hk.1.2, hk.2⟩)⟩, ⟨by (with_reducible repeat (first | apply Kd.R_alloc | apply Kd.R_drewN | apply Kd.R_drew)); exact Kd.R_mono HO422.out (fun _ hk => ⟨hk.1.2, hk.2⟩)⟩, ⟨by (with_reducible repeat (first | refine blk_drewN ?_ _ | refine blk_drew ?_ | refine blk_alloc ?_ _)); exact BK403.out⟩, ⟨by repeat (first | (with_reducible first | exact HB.out | apply below_alloc | apply pw_below_drewN | apply below_drew1 | refine below_set ?_ GE403.out) | exact HB.out)⟩⟩
                · have H1 : (usherlaw3_PctJoin.j1 kj2 t411 none t415 (some q424) t419 t420 (q424 == 3)) = some r := by rw [if_neg (show ¬ (some q424).isNone = true by simp)] at H; exact H
                  clear H
                  have H := H1
                  clear H1
                  try simp only [errW_none, errW_some]
                  have H' := Aside0.mk H
                  clear H
                  have hg27 := Sent.at_3 (Sent.below HE.out HB.out) hk3
                  have hg28 := Sent.at_3 (Sent.below HE.out HB.out) hk3
                  have hg29 := Sent.errs (Sent.below HE.out HB.out)
                  go_wp2
                  go_meet
                  case rel => exact ⟨_, ((q424 == 3)), (by first | rfl | (simp; done) | (simp [*]; done) | (simp [bne]; done)), H', ⟨by have := HJ2.out; first | omega | exact Nat.le_refl _⟩, ⟨by (with_reducible repeat (first | apply Kd.R_alloc | apply Kd.R_drewN | apply Kd.R_drew)); exact Kd.R_mono HO414.out (fun _ hk => ⟨hk.1.2, hk.2⟩)⟩, ⟨by (with_reducible repeat (first | apply Kd.R_alloc | apply Kd.R_drewN | apply Kd.R_drew)); exact Kd.R_mono HO418.out (fun _ hk => ⟨hk.1.2, hk.2⟩)⟩, ⟨by (with_reducible repeat (first | apply Kd.R_alloc | apply Kd.R_drewN | apply Kd.R_drew)); exact Kd.R_mono HO422.out (fun _ hk => ⟨hk.1.2, hk.2⟩)⟩, ⟨by (with_reducible repeat (first | refine blk_drewN ?_ _ | refine blk_drew ?_ | refine blk_alloc ?_ _)); exact BK403.out⟩, ⟨by repeat (first | (with_reducible first | exact HB.out | apply below_alloc | apply pw_below_drewN | apply below_drew1 | refine below_set ?_ GE403.out) | exact HB.out)⟩⟩
              · have H1 : (if q423 = 3 then (usherlaw3_PctJoin.j1 kj2 t411 (some q423) t415 t416 t419 t420 true) else (if t416.isNone = true then (usherlaw3_PctJoin.j1 kj2 t411 (some q423) t415 none t419 t420 false) else (usherlaw3_PctJoin.j1 kj2 t411 (some q423) t415 (some (t416.getD 0)) t419 t420 ((t416.getD 0) == 3)))) = some r := by rw [if_neg (show ¬ (some q423).isNone = true by simp)] at H; exact H
                clear H
                have H := H1
                clear H1
                try simp only [errW_none, errW_some]
                by_cases c30 : q423 = 3
                · rw [if_pos c30] at H
                  have c30b0 : (q423 == 3) = true := beq_iff_eq.mpr c30
                  have c30b1 : (q423 != 3) = false := bne_eq_false_iff_eq.mpr c30
                  clear c30
                  (first | rw [c30b0] | (simp only [i64_w, i32_w]; rw [c30b0]) | skip)
                  have H' := Aside0.mk H
                  clear H
                  have hg31 := Sent.at_3 (Sent.below HE.out HB.out) hk3
                  have hg32 := Sent.errs (Sent.below HE.out HB.out)
                  go_wp2
                  go_meet
                  case rel => exact ⟨_, (true), (by first | rfl | (simp; done) | (simp [*]; done) | (simp [bne]; done)), H', ⟨by have := HJ2.out; first | omega | exact Nat.le_refl _⟩, ⟨by (with_reducible repeat (first | apply Kd.R_alloc | apply Kd.R_drewN | apply Kd.R_drew)); exact Kd.R_mono HO414.out (fun _ hk => ⟨hk.1.2, hk.2⟩)⟩, ⟨by (with_reducible repeat (first | apply Kd.R_alloc | apply Kd.R_drewN | apply Kd.R_drew)); exact Kd.R_mono HO418.out (fun _ hk => ⟨hk.1.2, hk.2⟩)⟩, ⟨by (with_reducible repeat (first | apply Kd.R_alloc | apply Kd.R_drewN | apply Kd.R_drew)); exact Kd.R_mono HO422.out (fun _ hk => ⟨hk.1.2, hk.2⟩)⟩, ⟨by (with_reducible repeat (first | refine blk_drewN ?_ _ | refine blk_drew ?_ | refine blk_alloc ?_ _)); exact BK403.out⟩, ⟨by repeat (first | (with_reducible first | exact HB.out | apply below_alloc | apply pw_below_drewN | apply below_drew1 | refine below_set ?_ GE403.out) | exact HB.out)⟩⟩
                · rw [if_neg c30] at H
                  have c30b0 : (q423 == 3) = false := beq_eq_false_iff_ne.mpr c30
                  have c30b1 : (q423 != 3) = true := bne_iff_ne.mpr c30
                  (first | rw [c30b0] | (simp only [i64_w, i32_w]; rw [c30b0]) | skip)
                  rcases t416 with _ | q425
                  · have H1 : (usherlaw3_PctJoin.j1 kj2 t411 (some q423) t415 none t419 t420 false) = some r := by rw [if_pos (show (none : Option Int).isNone = true by rfl)] at H; exact H
                    clear H
                    have H := H1
                    clear H1
                    try simp only [errW_none, errW_some]
                    have H' := Aside0.mk H
                    clear H
                    have hg33 := Sent.at_3 (Sent.below HE.out HB.out) hk3
                    have hg34 := Sent.errs (Sent.below HE.out HB.out)
                    have hg35 := Sent.at_3 (Sent.below HE.out HB.out) hk3
                    go_wp2
                    go_meet
                    case rel => exact ⟨_, (false), (by first | rfl | (simp; done) | (simp [*]; done) | (simp [bne]; done)), H', ⟨by have := HJ2.out; first | omega | exact Nat.le_refl _⟩, ⟨by (with_reducible repeat (first | apply Kd.R_alloc | apply Kd.R_drewN | apply Kd.R_drew)); exact Kd.R_mono HO414.out (fun _ hk => ⟨hk.1.2, hk.2⟩)⟩, ⟨by (with_reducible repeat (first | apply Kd.R_alloc | apply Kd.R_drewN | apply Kd.R_drew)); exact Kd.R_mono HO418.out (fun _ hk => ⟨hk.1.2, hk.2⟩)⟩, ⟨by (with_reducible repeat (first | apply Kd.R_alloc | apply Kd.R_drewN | apply Kd.R_drew)); exact Kd.R_mono HO422.out (fun _ hk => ⟨hk.1.2, hk.2⟩)⟩, ⟨by (with_reducible repeat (first | refine blk_drewN ?_ _ | refine blk_drew ?_ | refine blk_alloc ?_ _)); exact BK403.out⟩, ⟨by repeat (first | (with_reducible first | exact HB.out | apply below_alloc | apply pw_below_drewN | apply below_drew1 | refine below_set ?_ GE403.out) | exact HB.out)⟩⟩
                  · have H1 : (usherlaw3_PctJoin.j1 kj2 t411 (some q423) t415 (some q425) t419 t420 (q425 == 3)) = some r := by rw [if_neg (show ¬ (some q425).isNone = true by simp)] at H; exact H
                    clear H
                    have H := H1
                    clear H1
                    try simp only [errW_none, errW_some]
                    have H' := Aside0.mk H
                    clear H
                    have hg36 := Sent.at_3 (Sent.below HE.out HB.out) hk3
                    have hg37 := Sent.errs (Sent.below HE.out HB.out)
                    have hg38 := Sent.at_3 (Sent.below HE.out HB.out) hk3
                    have hg39 := Sent.errs (Sent.below HE.out HB.out)
                    go_wp2
                    go_meet
                    case rel => exact ⟨_, ((q425 == 3)), (by first | rfl | (simp; done) | (simp [*]; done) | (simp [bne]; done)), H', ⟨by have := HJ2.out; first | omega | exact Nat.le_refl _⟩, ⟨by (with_reducible repeat (first | apply Kd.R_alloc | apply Kd.R_drewN | apply Kd.R_drew)); exact Kd.R_mono HO414.out (fun _ hk => ⟨hk.1.2, hk.2⟩)⟩, ⟨by (with_reducible repeat (first | apply Kd.R_alloc | apply Kd.R_drewN | apply Kd.R_drew)); exact Kd.R_mono HO418.out (fun _ hk => ⟨hk.1.2, hk.2⟩)⟩, ⟨by (with_reducible repeat (first | apply Kd.R_alloc | apply Kd.R_drewN | apply Kd.R_drew)); exact Kd.R_mono HO422.out (fun _ hk => ⟨hk.1.2, hk.2⟩)⟩, ⟨by (with_reducible repeat (first | refine blk_drewN ?_ _ | refine blk_drew ?_ | refine blk_alloc ?_ _)); exact BK403.out⟩, ⟨by repeat (first | (with_reducible first | exact HB.out | apply below_alloc | apply pw_below_drewN | apply below_drew1 | refine below_set ?_ GE403.out) | exact HB.out)⟩⟩
            case rest =>
              clear HC18
              try clear c1
              try clear c2
              try clear p2
              try clear c3
              try clear p4
              try clear q4
              try clear hx4
              try clear qi4
              try clear c6
              try clear c6b0
              try clear c6b1
              try clear c7
              try clear c7b0
              try clear c7b1
              try clear c8
              try clear c8b0
              try clear c8b1
              try clear c11
              try clear c12
              try clear c15
              try clear c15b0
              try clear c15b1
              try clear c15b2
              try clear c16
              try clear c16b0
              try clear c16b1
              try clear c16b2
              try clear c28
              try clear c30
              try clear c30b0
              try clear c30b1
              try clear hcz19_0
              try clear hcz19_1
              try clear hcz21_0
              try clear hcz21_1
              try clear hcz23_0
              try clear hcz23_1
              try clear hfz19_0
              try clear hfz19_1
              try clear hfz21_0
              try clear hfz21_1
              try clear hfz23_0
              try clear hfz23_1
              try clear hx409_0
              try clear hx409_1
              try clear hx410_0
              try clear hx410_1
              try clear p2
              try clear p4
              try clear p409
              try clear p410
              try clear q4
              try clear q408
              try clear q409
              try clear q410
              try clear q423
              try clear q424
              try clear q425
              obtain ⟨kq, x66_17, rfl, HA, HJ17, HO_5, HO_7, HO_9, BK403, HB⟩ := hcut
              cases kq with
              | zero => exact absurd HA.out (by simp [usherlaw3_PctJoin.j1])
              | succ kj17 =>
                have H := HA.out
                clear HA
                simp only [usherlaw3_PctJoin.j1] at H
                by_cases c40 : x66_17 = true
                · subst c40
                  have H1 : (if t420.isNone = true then (some false) else (if (t420.getD 0) = 3 then (some ((t419.length : Int) == 0)) else (some false))) = some r := by rw [if_pos rfl] at H; exact H
                  clear H
                  have H := H1
                  clear H1
                  rcases t420 with _ | q426
                  · have H1 : (some false) = some r := by rw [if_pos (show (none : Option Int).isNone = true by rfl)] at H; exact H
                    clear H
                    have H := H1
                    clear H1
                    try simp only [errW_none, errW_some]
                    obtain rfl := Option.some.inj H
                    have hg41 := Sent.at_3 (Sent.below HE.out HB.out) hk3
                    go_wp2
                    go_ret
                    exact ⟨by first | rfl | (simp [errW_none, errW_some] <;> rfl) | (simp [*, errW_none, errW_some] <;> rfl), by repeat (first | (with_reducible first | exact HB.out | apply below_alloc | apply pw_below_drewN | apply below_drew1 | refine below_set ?_ GE403.out) | exact HB.out)⟩
                  · have H1 : (if q426 = 3 then (some ((t419.length : Int) == 0)) else (some false)) = some r := by rw [if_neg (show ¬ (some q426).isNone = true by simp)] at H; exact H
                    clear H
                    have H := H1
                    clear H1
                    try simp only [errW_none, errW_some]
                    by_cases c42 : q426 = 3
                    · rw [if_pos c42] at H
                      have c42b0 : (q426 == 3) = true := beq_iff_eq.mpr c42
                      have c42b1 : (q426 != 3) = false := bne_eq_false_iff_eq.mpr c42
                      clear c42
                      obtain rfl := Option.some.inj H
                      have hg43 := Sent.at_3 (Sent.below HE.out HB.out) hk3
                      have hg44 := Sent.errs (Sent.below HE.out HB.out)
                      obtain ⟨Ao45, co45, eo45⟩ := Kd.R_slice HO_9.out
                      subst eo45
                      go_wp2
                      go_ret
                      exact ⟨by first | rfl | (simp [errW_none, errW_some] <;> rfl) | (simp [*, errW_none, errW_some] <;> rfl), by repeat (first | (with_reducible first | exact HB.out | apply below_alloc | apply pw_below_drewN | apply below_drew1 | refine below_set ?_ GE403.out) | exact HB.out)⟩
                    · rw [if_neg c42] at H
                      have c42b0 : (q426 == 3) = false := beq_eq_false_iff_ne.mpr c42
                      have c42b1 : (q426 != 3) = true := bne_iff_ne.mpr c42
                      obtain rfl := Option.some.inj H
                      have hg46 := Sent.at_3 (Sent.below HE.out HB.out) hk3
                      have hg47 := Sent.errs (Sent.below HE.out HB.out)
                      go_wp2
                      go_ret
                      exact ⟨by first | rfl | (simp [errW_none, errW_some] <;> rfl) | (simp [*, errW_none, errW_some] <;> rfl), by repeat (first | (with_reducible first | exact HB.out | apply below_alloc | apply pw_below_drewN | apply below_drew1 | refine below_set ?_ GE403.out) | exact HB.out)⟩
                · replace c40 := Bool.eq_false_iff.mpr c40
                  subst c40
                  have H1 : (if t412.isNone = true then (if t416.isNone = true then (usherlaw3_PctJoin.j2 kj17 t411 t415 t419 t420 false) else (usherlaw3_PctJoin.j2 kj17 t411 t415 t419 t420 true)) else (usherlaw3_PctJoin.j2 kj17 t411 t415 t419 t420 true)) = some r := by rw [if_neg (show ¬ (false = true) by decide)] at H; exact H
                  clear H
                  have H := H1
                  clear H1
                  have HC48 := Aside0.mk H
                  clear H
                  go_upto_region 9 with (fail)
                  go_cut [80] (fun v80 wc => ∃ (kq : Nat) (x80_47 : Bool), v80 = .bool x80_47 ∧ Aside0 (usherlaw3_PctJoin.j2 kq t411 t415 t419 t420 x80_47 = some r) ∧ Aside0 (kq ≤ kj17) ∧ Aside0 (Kd.R k52 52 wc w.heap.size (fun k_ => some k_ ≠ (v417 : Value).ownBlock ∧ some k_ ≠ (v421 : Value).ownBlock) v413 t411) ∧ Aside0 (Kd.R k52 52 wc w.heap.size (fun k_ => some k_ ≠ (v413 : Value).ownBlock ∧ some k_ ≠ (v421 : Value).ownBlock) v417 t415) ∧ Aside0 (Kd.R k52 52 wc w.heap.size (fun k_ => some k_ ≠ (v413 : Value).ownBlock ∧ some k_ ≠ (v417 : Value).ownBlock) v421 t419) ∧ Aside0 (wc.heap[gb403]? = some (.cells #[.string a0_0, .string a0_1] 50 (0, 0))) ∧ Aside0 (Below w.heap.size w wc))
                  case first =>
                    have H := HC48.out
                    clear HC48
                    rcases t412 with _ | q427
                    · have H1 : (if t416.isNone = true then (usherlaw3_PctJoin.j2 kj17 t411 t415 t419 t420 false) else (usherlaw3_PctJoin.j2 kj17 t411 t415 t419 t420 true)) = some r := by rw [if_pos (show (none : Option Int).isNone = true by rfl)] at H; exact H
                      clear H
                      have H := H1
                      clear H1
                      try simp only [errW_none, errW_some]
                      rcases t416 with _ | q428
                      · have H1 : (usherlaw3_PctJoin.j2 kj17 t411 t415 t419 t420 false) = some r := by rw [if_pos (show (none : Option Int).isNone = true by rfl)] at H; exact H
                        clear H
                        have H := H1
                        clear H1
                        try simp only [errW_none, errW_some]
                        have H' := Aside0.mk H
                        clear H
                        go_wp2
                        go_meet
                        case rel => exact ⟨_, (false), (by first | rfl | (simp; done) | (simp [*]; done) | (simp [bne]; done)), H', ⟨by have := HJ2.out; have := HJ17.out; first | omega | exact Nat.le_refl _⟩, ⟨by (with_reducible repeat (first | apply Kd.R_alloc | apply Kd.R_drewN | apply Kd.R_drew)); exact HO_5.out⟩, ⟨by (with_reducible repeat (first | apply Kd.R_alloc | apply Kd.R_drewN | apply Kd.R_drew)); exact HO_7.out⟩, ⟨by (with_reducible repeat (first | apply Kd.R_alloc | apply Kd.R_drewN | apply Kd.R_drew)); exact HO_9.out⟩, ⟨by (with_reducible repeat (first | refine blk_drewN ?_ _ | refine blk_drew ?_ | refine blk_alloc ?_ _)); exact BK403.out⟩, ⟨by repeat (first | (with_reducible first | exact HB.out | apply below_alloc | apply pw_below_drewN | apply below_drew1 | refine below_set ?_ GE403.out) | exact HB.out)⟩⟩
                      · have H1 : (usherlaw3_PctJoin.j2 kj17 t411 t415 t419 t420 true) = some r := by rw [if_neg (show ¬ (some q428).isNone = true by simp)] at H; exact H
                        clear H
                        have H := H1
                        clear H1
                        try simp only [errW_none, errW_some]
                        have H' := Aside0.mk H
                        clear H
                        go_wp2
                        go_meet
                        case rel => exact ⟨_, (true), (by first | rfl | (simp; done) | (simp [*]; done) | (simp [bne]; done)), H', ⟨by have := HJ2.out; have := HJ17.out; first | omega | exact Nat.le_refl _⟩, ⟨by (with_reducible repeat (first | apply Kd.R_alloc | apply Kd.R_drewN | apply Kd.R_drew)); exact HO_5.out⟩, ⟨by (with_reducible repeat (first | apply Kd.R_alloc | apply Kd.R_drewN | apply Kd.R_drew)); exact HO_7.out⟩, ⟨by (with_reducible repeat (first | apply Kd.R_alloc | apply Kd.R_drewN | apply Kd.R_drew)); exact HO_9.out⟩, ⟨by (with_reducible repeat (first | refine blk_drewN ?_ _ | refine blk_drew ?_ | refine blk_alloc ?_ _)); exact BK403.out⟩, ⟨by repeat (first | (with_reducible first | exact HB.out | apply below_alloc | apply pw_below_drewN | apply below_drew1 | refine below_set ?_ GE403.out) | exact HB.out)⟩⟩
                    · have H1 : (usherlaw3_PctJoin.j2 kj17 t411 t415 t419 t420 true) = some r := by rw [if_neg (show ¬ (some q427).isNone = true by simp)] at H; exact H
                      clear H
                      have H := H1
                      clear H1
                      try simp only [errW_none, errW_some]
                      have H' := Aside0.mk H
                      clear H
                      go_wp2
                      go_meet
                      case rel => exact ⟨_, (true), (by first | rfl | (simp; done) | (simp [*]; done) | (simp [bne]; done)), H', ⟨by have := HJ2.out; have := HJ17.out; first | omega | exact Nat.le_refl _⟩, ⟨by (with_reducible repeat (first | apply Kd.R_alloc | apply Kd.R_drewN | apply Kd.R_drew)); exact HO_5.out⟩, ⟨by (with_reducible repeat (first | apply Kd.R_alloc | apply Kd.R_drewN | apply Kd.R_drew)); exact HO_7.out⟩, ⟨by (with_reducible repeat (first | apply Kd.R_alloc | apply Kd.R_drewN | apply Kd.R_drew)); exact HO_9.out⟩, ⟨by (with_reducible repeat (first | refine blk_drewN ?_ _ | refine blk_drew ?_ | refine blk_alloc ?_ _)); exact BK403.out⟩, ⟨by repeat (first | (with_reducible first | exact HB.out | apply below_alloc | apply pw_below_drewN | apply below_drew1 | refine below_set ?_ GE403.out) | exact HB.out)⟩⟩
                  case rest =>
                    clear HC48
                    try clear c1
                    try clear c2
                    try clear p2
                    try clear c3
                    try clear c4
                    try clear p4
                    try clear q4
                    try clear hx4
                    try clear qi4
                    try clear c6
                    try clear c6b0
                    try clear c6b1
                    try clear c7
                    try clear c7b0
                    try clear c7b1
                    try clear c8
                    try clear c8b0
                    try clear c8b1
                    try clear c11
                    try clear c12
                    try clear c15
                    try clear c15b0
                    try clear c15b1
                    try clear c15b2
                    try clear c16
                    try clear c16b0
                    try clear c16b1
                    try clear c16b2
                    try clear c28
                    try clear c30
                    try clear c30b0
                    try clear c30b1
                    try clear c40
                    try clear p40
                    try clear q40
                    try clear hx40
                    try clear qi40
                    try clear p41
                    try clear q41
                    try clear hx41
                    try clear qi41
                    try clear c42
                    try clear c42b0
                    try clear c42b1
                    try clear q42
                    try clear hcz19_0
                    try clear hcz19_1
                    try clear hcz21_0
                    try clear hcz21_1
                    try clear hcz23_0
                    try clear hcz23_1
                    try clear hfz19_0
                    try clear hfz19_1
                    try clear hfz21_0
                    try clear hfz21_1
                    try clear hfz23_0
                    try clear hfz23_1
                    try clear hx409_0
                    try clear hx409_1
                    try clear hx410_0
                    try clear hx410_1
                    try clear p2
                    try clear p4
                    try clear p409
                    try clear p410
                    try clear q4
                    try clear q408
                    try clear q409
                    try clear q410
                    try clear q423
                    try clear q424
                    try clear q425
                    try clear q426
                    try clear q427
                    try clear q428
                    obtain ⟨kq, x80_47, rfl, HA, HJ47, HO_5, HO_7, HO_9, BK403, HB⟩ := hcut
                    cases kq with
                    | zero => exact absurd HA.out (by simp [usherlaw3_PctJoin.j2])
                    | succ kj47 =>
                      have H := HA.out
                      clear HA
                      simp only [usherlaw3_PctJoin.j2] at H
                      by_cases c49 : x80_47 = true
                      · subst c49
                        have H1 : (if t420.isNone = true then (some false) else (if (t420.getD 0) = 2 then (some ((t419.length : Int) == 0)) else (if (t420.getD 0) = 3 then (some ((t419.length : Int) == 0)) else (some false)))) = some r := by rw [if_pos rfl] at H; exact H
                        clear H
                        have H := H1
                        clear H1
                        rcases t420 with _ | q429
                        · have H1 : (some false) = some r := by rw [if_pos (show (none : Option Int).isNone = true by rfl)] at H; exact H
                          clear H
                          have H := H1
                          clear H1
                          try simp only [errW_none, errW_some]
                          obtain rfl := Option.some.inj H
                          have hg50 := Sent.at_2 (Sent.below HE.out HB.out) hk2
                          have hg51 := Sent.at_3 (Sent.below HE.out HB.out) hk3
                          go_wp2
                          go_ret
                          exact ⟨by first | rfl | (simp [errW_none, errW_some] <;> rfl) | (simp [*, errW_none, errW_some] <;> rfl), by repeat (first | (with_reducible first | exact HB.out | apply below_alloc | apply pw_below_drewN | apply below_drew1 | refine below_set ?_ GE403.out) | exact HB.out)⟩
                        · have H1 : (if q429 = 2 then (some ((t419.length : Int) == 0)) else (if q429 = 3 then (some ((t419.length : Int) == 0)) else (some false))) = some r := by rw [if_neg (show ¬ (some q429).isNone = true by simp)] at H; exact H
                          clear H
                          have H := H1
                          clear H1
                          try simp only [errW_none, errW_some]
                          by_cases c52 : q429 = 2
                          · rw [if_pos c52] at H
                            have c52b0 : (q429 == 2) = true := beq_iff_eq.mpr c52
                            have c52b1 : (q429 != 2) = false := bne_eq_false_iff_eq.mpr c52
                            clear c52
                            obtain rfl := Option.some.inj H
                            have hg53 := Sent.at_2 (Sent.below HE.out HB.out) hk2
                            have hg54 := Sent.errs (Sent.below HE.out HB.out)
                            obtain ⟨Ao55, co55, eo55⟩ := Kd.R_slice HO_9.out
                            subst eo55
                            go_wp2
                            go_ret
                            exact ⟨by first | rfl | (simp [errW_none, errW_some] <;> rfl) | (simp [*, errW_none, errW_some] <;> rfl), by repeat (first | (with_reducible first | exact HB.out | apply below_alloc | apply pw_below_drewN | apply below_drew1 | refine below_set ?_ GE403.out) | exact HB.out)⟩
                          · rw [if_neg c52] at H
                            have c52b0 : (q429 == 2) = false := beq_eq_false_iff_ne.mpr c52
                            have c52b1 : (q429 != 2) = true := bne_iff_ne.mpr c52
                            by_cases c56 : q429 = 3
                            · rw [if_pos c56] at H
                              have c56b0 : (q429 == 3) = true := beq_iff_eq.mpr c56
                              have c56b1 : (q429 != 3) = false := bne_eq_false_iff_eq.mpr c56
                              clear c56
                              obtain rfl := Option.some.inj H
                              have hg57 := Sent.at_2 (Sent.below HE.out HB.out) hk2
                              have hg58 := Sent.errs (Sent.below HE.out HB.out)
                              have hg59 := Sent.at_3 (Sent.below HE.out HB.out) hk3
                              have hg60 := Sent.errs (Sent.below HE.out HB.out)
                              obtain ⟨Ao61, co61, eo61⟩ := Kd.R_slice HO_9.out
                              subst eo61
                              go_wp2
                              go_ret
                              exact ⟨by first | rfl | (simp [errW_none, errW_some] <;> rfl) | (simp [*, errW_none, errW_some] <;> rfl), by repeat (first | (with_reducible first | exact HB.out | apply below_alloc | apply pw_below_drewN | apply below_drew1 | refine below_set ?_ GE403.out) | exact HB.out)⟩
                            · rw [if_neg c56] at H
                              have c56b0 : (q429 == 3) = false := beq_eq_false_iff_ne.mpr c56
                              have c56b1 : (q429 != 3) = true := bne_iff_ne.mpr c56
                              obtain rfl := Option.some.inj H
                              have hg62 := Sent.at_2 (Sent.below HE.out HB.out) hk2
                              have hg63 := Sent.errs (Sent.below HE.out HB.out)
                              have hg64 := Sent.at_3 (Sent.below HE.out HB.out) hk3
                              have hg65 := Sent.errs (Sent.below HE.out HB.out)
                              go_wp2
                              go_ret
                              exact ⟨by first | rfl | (simp [errW_none, errW_some] <;> rfl) | (simp [*, errW_none, errW_some] <;> rfl), by repeat (first | (with_reducible first | exact HB.out | apply below_alloc | apply pw_below_drewN | apply below_drew1 | refine below_set ?_ GE403.out) | exact HB.out)⟩
                      · replace c49 := Bool.eq_false_iff.mpr c49
                        subst c49
                        have H1 : (if (wrap64 ((t411.length : Int) + (t415.length : Int))) > 32 then (if t420.isNone = true then (some false) else (if (t420.getD 0) = 3 then (some ((t419.length : Int) == 0)) else (some false))) else (if ([] : List (S52)).length + t411.length < 4398046511104 then ((some (([] : List (S52)) ++ t411 : List (S52))).bind fun y431 => (if y431.length + t415.length < 4398046511104 then (if t420.isNone = true then ((usherref0_SamePairs.f kj47 t419 (y431 ++ t415)).bind fun t438 => (some t438)) else (some false)) else (none))) else (none))) = some r := by rw [if_neg (show ¬ (false = true) by decide)] at H; exact H
                        clear H
                        have H := H1
                        clear H1
                        by_cases c66 : (wrap64 ((t411.length : Int) + (t415.length : Int))) > 32
                        · rw [if_pos c66] at H
                          have c66b0 : decide (32 < (wrap64 ((t411.length : Int) + (t415.length : Int)))) = true := decide_eq_true c66
                          clear c66
                          rcases t420 with _ | q430
                          · have H1 : (some false) = some r := by rw [if_pos (show (none : Option Int).isNone = true by rfl)] at H; exact H
                            clear H
                            have H := H1
                            clear H1
                            try simp only [errW_none, errW_some]
                            obtain rfl := Option.some.inj H
                            obtain ⟨Ao67, co67, eo67⟩ := Kd.R_slice HO_5.out
                            subst eo67
                            obtain ⟨Ao68, co68, eo68⟩ := Kd.R_slice HO_7.out
                            subst eo68
                            have hg69 := Sent.at_3 (Sent.below HE.out HB.out) hk3
                            go_wp2
                            go_ret
                            exact ⟨by first | rfl | (simp [errW_none, errW_some] <;> rfl) | (simp [*, errW_none, errW_some] <;> rfl), by repeat (first | (with_reducible first | exact HB.out | apply below_alloc | apply pw_below_drewN | apply below_drew1 | refine below_set ?_ GE403.out) | exact HB.out)⟩
                          · have H1 : (if q430 = 3 then (some ((t419.length : Int) == 0)) else (some false)) = some r := by rw [if_neg (show ¬ (some q430).isNone = true by simp)] at H; exact H
                            clear H
                            have H := H1
                            clear H1
                            try simp only [errW_none, errW_some]
                            by_cases c70 : q430 = 3
                            · rw [if_pos c70] at H
                              have c70b0 : (q430 == 3) = true := beq_iff_eq.mpr c70
                              have c70b1 : (q430 != 3) = false := bne_eq_false_iff_eq.mpr c70
                              clear c70
                              obtain rfl := Option.some.inj H
                              obtain ⟨Ao71, co71, eo71⟩ := Kd.R_slice HO_5.out
                              subst eo71
                              obtain ⟨Ao72, co72, eo72⟩ := Kd.R_slice HO_7.out
                              subst eo72
                              have hg73 := Sent.at_3 (Sent.below HE.out HB.out) hk3
                              have hg74 := Sent.errs (Sent.below HE.out HB.out)
                              obtain ⟨Ao75, co75, eo75⟩ := Kd.R_slice HO_9.out
                              subst eo75
                              go_wp2
                              go_ret
                              exact ⟨by first | rfl | (simp [errW_none, errW_some] <;> rfl) | (simp [*, errW_none, errW_some] <;> rfl), by repeat (first | (with_reducible first | exact HB.out | apply below_alloc | apply pw_below_drewN | apply below_drew1 | refine below_set ?_ GE403.out) | exact HB.out)⟩
                            · rw [if_neg c70] at H
                              have c70b0 : (q430 == 3) = false := beq_eq_false_iff_ne.mpr c70
                              have c70b1 : (q430 != 3) = true := bne_iff_ne.mpr c70
                              obtain rfl := Option.some.inj H
                              obtain ⟨Ao76, co76, eo76⟩ := Kd.R_slice HO_5.out
                              subst eo76
                              obtain ⟨Ao77, co77, eo77⟩ := Kd.R_slice HO_7.out
                              subst eo77
                              have hg78 := Sent.at_3 (Sent.below HE.out HB.out) hk3
                              have hg79 := Sent.errs (Sent.below HE.out HB.out)
                              go_wp2
                              go_ret
                              exact ⟨by first | rfl | (simp [errW_none, errW_some] <;> rfl) | (simp [*, errW_none, errW_some] <;> rfl), by repeat (first | (with_reducible first | exact HB.out | apply below_alloc | apply pw_below_drewN | apply below_drew1 | refine below_set ?_ GE403.out) | exact HB.out)⟩
                        · rw [if_neg c66] at H
                          have c66b0 : decide (32 < (wrap64 ((t411.length : Int) + (t415.length : Int)))) = false := decide_eq_false c66
                          clear c66
                          by_cases c80 : ([] : List (S52)).length + t411.length < 4398046511104
                          · rw [if_pos c80] at H
                            have LMc80 := Aside0.mk c80
                            clear c80
                            obtain ⟨y431, hy431⟩ : ∃ y_ : List (S52), y_ = (([] : List (S52)) ++ t411) := ⟨_, rfl⟩
                            replace H : (if y431.length + t415.length < 4398046511104 then (if t420.isNone = true then ((usherref0_SamePairs.f kj47 t419 (y431 ++ t415)).bind fun t438 => (some t438)) else (some false)) else (none)) = some r := by first | (rw [hy431]; with_reducible exact H) | (have H2_ := (Option.bind_some _ _).symm.trans H; rw [hy431]; with_reducible exact H2_) | (have H2_ := (Option.bind_some _ _).symm.trans H; with_reducible exact H2_) | with_reducible exact H | (rw [hy431]; exact H) | exact H
                            have Ny431 := Aside0.mk hy431
                            clear hy431
                            by_cases c81 : y431.length + t415.length < 4398046511104
                            · rw [if_pos c81] at H
                              have LMc81 := Aside0.mk c81
                              clear c81
                              obtain ⟨y434, hy434⟩ : ∃ y_ : List (S52), y_ = (y431 ++ t415) := ⟨_, rfl⟩
                              replace H : (if t420.isNone = true then ((usherref0_SamePairs.f kj47 t419 y434).bind fun t438 => (some t438)) else (some false)) = some r := by first | (rw [hy434]; with_reducible exact H) | (have H2_ := (Option.bind_some _ _).symm.trans H; rw [hy434]; with_reducible exact H2_) | (have H2_ := (Option.bind_some _ _).symm.trans H; with_reducible exact H2_) | with_reducible exact H | (rw [hy434]; exact H) | exact H
                              have Ny434 := Aside0.mk hy434
                              clear hy434
                              rcases t420 with _ | q437
                              · have H1 : ((usherref0_SamePairs.f kj47 t419 y434).bind fun t438 => (some t438)) = some r := by rw [if_pos (show (none : Option Int).isNone = true by rfl)] at H; exact H
                                clear H
                                have H := H1
                                clear H1
                                try simp only [errW_none, errW_some]
                                replace H := Option.bind_eq_some_iff.mp H
                                obtain ⟨t438, A820, H⟩ := H
                                replace H : (some t438) = some r := H
                                have A82 := Aside0.mk A820
                                clear A820
                                obtain rfl := Option.some.inj H
                                obtain ⟨Ao83, co83, eo83⟩ := Kd.R_slice HO_5.out
                                subst eo83
                                obtain ⟨Ao84, co84, eo84⟩ := Kd.R_slice HO_7.out
                                subst eo84
                                go_wp2_with (first | ((with_reducible refine gate_builtin (b := .append) (xs := #[.tmp 108, .tmp 109]) rfl ?_); (try (refine gate_guard (by rfl) ?_; dsimp only)); at_builtin; refine Kd.R_append_rows k52 (w0 := w) w.heap.size rfl (.tmp 108) (.tmp 109) 36 52 (.agg #[(.string ⟨#[]⟩), (.string ⟨#[]⟩)]) 32 rfl Tryd.underlying36 info52 rfl (by decide) (by omega) (.slice none 0 0) ([] : List (S52)) t411 _ _ _ (fun k_ => some k_ ≠ (.slice Ao83 t411.length co83 : Value).ownBlock ∧ some k_ ≠ (.slice Ao84 t415.length co84 : Value).ownBlock ∧ some k_ ≠ (v421 : Value).ownBlock) (fun _ => False) rfl rfl ?aO ?aR (fun _ _ h => h) (fun _ h => h.elim) ?aF ?aB ?aS ?aL ?_; (case aR => repeat (first | exact (Kd.R_reads' HO_5.out).2.2 | (with_reducible refine Kd.C_alloc ?_ _) | (with_reducible refine Kd.C_drewN ?_ _) | (with_reducible refine Kd.C_drew ?_))); (case aB => exact (by repeat (first | (with_reducible first | exact HB.out | apply below_alloc | apply pw_below_drewN | apply below_drew1 | refine below_set ?_ GE403.out) | exact HB.out))); (case aF => exact (fun k_ hk => ⟨Kd.fresh' (Kd.R_lt (by (with_reducible repeat (first | apply Kd.R_alloc | apply Kd.R_drewN | apply Kd.R_drew)); exact HO_5.out)) k_ hk, Kd.fresh' (Kd.R_lt (by (with_reducible repeat (first | apply Kd.R_alloc | apply Kd.R_drewN | apply Kd.R_drew)); exact HO_7.out)) k_ hk, Kd.fresh' (Kd.R_lt (by (with_reducible repeat (first | apply Kd.R_alloc | apply Kd.R_drewN | apply Kd.R_drew)); exact HO_9.out)) k_ hk⟩)); (case aO => exact ((Kd.R_nil _ _ _ _ (fun k_ => some k_ ≠ (.slice Ao83 t411.length co83 : Value).ownBlock ∧ some k_ ≠ (.slice Ao84 t415.length co84 : Value).ownBlock ∧ some k_ ≠ (v421 : Value).ownBlock)))); (case aS => exact (below_size (by repeat (first | (with_reducible first | exact HB.out | apply below_alloc | apply pw_below_drewN | apply below_drew1 | refine below_set ?_ GE403.out) | exact HB.out)))); (case aL => have := LMc80.out; omega); intro v432 w85 ho hb hg hat; rw [← Ny431.out] at ho; have n0_ := Aside0.mk (Kd.R_after (Kd.R_apart_nil (by (with_reducible repeat (first | apply Kd.R_alloc | apply Kd.R_drewN | apply Kd.R_drew)); exact HO_5.out)) hg hat); have n1_ := Aside0.mk (Kd.R_after (Kd.R_apart_nil (by (with_reducible repeat (first | apply Kd.R_alloc | apply Kd.R_drewN | apply Kd.R_drew)); exact HO_7.out)) hg hat); have n2_ := Aside0.mk (Kd.R_after (Kd.R_apart_nil (by (with_reducible repeat (first | apply Kd.R_alloc | apply Kd.R_drewN | apply Kd.R_drew)); exact HO_9.out)) hg hat); have n3_ := Aside0.mk (blk_grown (g := gb403) (o := .cells #[.string a0_0, .string a0_1] 50 (0, 0)) (by (with_reducible repeat (first | refine blk_drewN ?_ _ | refine blk_drew ?_ | refine blk_alloc ?_ _)); exact BK403.out) hg (by simp [Value.ownBlock])); have n4_ := Aside0.mk (hb); have n5_ := Aside0.mk (ho); clear HO_5; clear HO_7; clear HO_9; clear BK403; clear HB; have HO_5 := n0_; have HO_7 := n1_; have HO_9 := n2_; have BK403 := n3_; have HB := n4_; have HO433 := n5_; clear n0_ n1_ n2_ n3_ n4_ n5_; clear ho hb hg hat) | ((with_reducible refine gate_builtin (b := .append) (xs := #[.tmp 111, .tmp 112]) rfl ?_); (try (refine gate_guard (by rfl) ?_; dsimp only)); at_builtin; refine Kd.R_append_rows k52 (w0 := w) w.heap.size rfl (.tmp 111) (.tmp 112) 36 52 (.agg #[(.string ⟨#[]⟩), (.string ⟨#[]⟩)]) 32 rfl Tryd.underlying36 info52 rfl (by decide) (by omega) v432 y431 t415 _ _ _ (fun k_ => some k_ ≠ (.slice Ao83 t411.length co83 : Value).ownBlock ∧ some k_ ≠ (.slice Ao84 t415.length co84 : Value).ownBlock ∧ some k_ ≠ (v421 : Value).ownBlock) (fun _ => False) rfl rfl ?aO ?aR (fun _ _ h => h) (fun _ h => h.elim) ?aF ?aB ?aS ?aL ?_; (case aR => repeat (first | exact (Kd.R_reads' HO_7.out).2.2 | (with_reducible refine Kd.C_alloc ?_ _) | (with_reducible refine Kd.C_drewN ?_ _) | (with_reducible refine Kd.C_drew ?_))); (case aB => exact (by repeat (first | (with_reducible first | exact HB.out | apply below_alloc | apply pw_below_drewN | apply below_drew1 | refine below_set ?_ GE403.out) | exact HB.out))); (case aF => exact (fun k_ hk => ⟨Kd.fresh' (Kd.R_lt (by (with_reducible repeat (first | apply Kd.R_alloc | apply Kd.R_drewN | apply Kd.R_drew)); exact HO_5.out)) k_ hk, Kd.fresh' (Kd.R_lt (by (with_reducible repeat (first | apply Kd.R_alloc | apply Kd.R_drewN | apply Kd.R_drew)); exact HO_7.out)) k_ hk, Kd.fresh' (Kd.R_lt (by (with_reducible repeat (first | apply Kd.R_alloc | apply Kd.R_drewN | apply Kd.R_drew)); exact HO_9.out)) k_ hk⟩)); (case aO => exact (by (with_reducible repeat (first | apply Kd.R_alloc | apply Kd.R_drewN | apply Kd.R_drew)); exact HO433.out)); (case aS => exact (below_size (by repeat (first | (with_reducible first | exact HB.out | apply below_alloc | apply pw_below_drewN | apply below_drew1 | refine below_set ?_ GE403.out) | exact HB.out)))); (case aL => have := LMc81.out; omega); intro v435 w86 ho hb hg hat; rw [← Ny434.out] at ho; have n0_ := Aside0.mk (Kd.R_after (ok := (fun k_ => some k_ ≠ (.slice Ao84 t415.length co84 : Value).ownBlock ∧ some k_ ≠ (v421 : Value).ownBlock)) (by (with_reducible repeat (first | apply Kd.R_alloc | apply Kd.R_drewN | apply Kd.R_drew)); exact HO_5.out) hg hat); have n1_ := Aside0.mk (Kd.R_after (ok := (fun k_ => some k_ ≠ (.slice Ao83 t411.length co83 : Value).ownBlock ∧ some k_ ≠ (v421 : Value).ownBlock)) (by (with_reducible repeat (first | apply Kd.R_alloc | apply Kd.R_drewN | apply Kd.R_drew)); exact HO_7.out) hg hat); have n2_ := Aside0.mk (Kd.R_after (ok := (fun k_ => some k_ ≠ (.slice Ao83 t411.length co83 : Value).ownBlock ∧ some k_ ≠ (.slice Ao84 t415.length co84 : Value).ownBlock)) (by (with_reducible repeat (first | apply Kd.R_alloc | apply Kd.R_drewN | apply Kd.R_drew)); exact HO_9.out) hg hat); have n3_ := Aside0.mk (blk_grown (g := gb403) (o := .cells #[.string a0_0, .string a0_1] 50 (0, 0)) (by (with_reducible repeat (first | refine blk_drewN ?_ _ | refine blk_drew ?_ | refine blk_alloc ?_ _)); exact BK403.out) hg (Kd.R_ne HO433.out BK403.out (by decide))); have n4_ := Aside0.mk (hb); have n5_ := Aside0.mk (ho); clear HO_5; clear HO_7; clear HO_9; clear BK403; clear HB; clear HO433; have HO_5 := n0_; have HO_7 := n1_; have HO_9 := n2_; have BK403 := n3_; have HB := n4_; have HO436 := n5_; clear n0_ n1_ n2_ n3_ n4_ n5_; clear ho hb hg hat; obtain ⟨Ao87, co87, eo87⟩ := Kd.R_slice HO_9.out; subst eo87; obtain ⟨Ao88, co88, eo88⟩ := Kd.R_slice HO436.out; subst eo88) | (go_at_call 30; (with_reducible refine (usherref0_SamePairs.calls kj47 _ _ t419 _ _ y434 t438 _ ?side1 ?side2 ?side3 ?side4 A82.out).mono ?_); (case side1 => repeat (first | exact (Kd.R_reads' HO_9.out).2.2 | (with_reducible refine Kd.C_alloc ?_ _) | (with_reducible refine Kd.C_drewN ?_ _) | (with_reducible refine Kd.C_drew ?_))); (case side2 => exact (Kd.R_reads' HO_9.out).2.1); (case side3 => repeat (first | exact (Kd.R_reads' HO436.out).2.2 | (with_reducible refine Kd.C_alloc ?_ _) | (with_reducible refine Kd.C_drewN ?_ _) | (with_reducible refine Kd.C_drew ?_))); (case side4 => exact (Kd.R_reads' HO436.out).2.1); rintro e w' ⟨rfl, ⟨nd, rfl⟩⟩))
                                go_ret
                                exact ⟨by first | rfl | (simp [errW_none, errW_some] <;> rfl) | (simp [*, errW_none, errW_some] <;> rfl), by repeat (first | (with_reducible first | exact HB.out | apply below_alloc | apply pw_below_drewN | apply below_drew1 | refine below_set ?_ GE403.out) | exact HB.out)⟩
                              · have H1 : (some false) = some r := by rw [if_neg (show ¬ (some q437).isNone = true by simp)] at H; exact H
                                clear H
                                have H := H1
                                clear H1
                                try simp only [errW_none, errW_some]
                                obtain rfl := Option.some.inj H
                                obtain ⟨Ao89, co89, eo89⟩ := Kd.R_slice HO_5.out
                                subst eo89
                                obtain ⟨Ao90, co90, eo90⟩ := Kd.R_slice HO_7.out
                                subst eo90
                                go_wp2_with (first | ((with_reducible refine gate_builtin (b := .append) (xs := #[.tmp 108, .tmp 109]) rfl ?_); (try (refine gate_guard (by rfl) ?_; dsimp only)); at_builtin; refine Kd.R_append_rows k52 (w0 := w) w.heap.size rfl (.tmp 108) (.tmp 109) 36 52 (.agg #[(.string ⟨#[]⟩), (.string ⟨#[]⟩)]) 32 rfl Tryd.underlying36 info52 rfl (by decide) (by omega) (.slice none 0 0) ([] : List (S52)) t411 _ _ _ (fun k_ => some k_ ≠ (.slice Ao89 t411.length co89 : Value).ownBlock ∧ some k_ ≠ (.slice Ao90 t415.length co90 : Value).ownBlock ∧ some k_ ≠ (v421 : Value).ownBlock) (fun _ => False) rfl rfl ?aO ?aR (fun _ _ h => h) (fun _ h => h.elim) ?aF ?aB ?aS ?aL ?_; (case aR => repeat (first | exact (Kd.R_reads' HO_5.out).2.2 | (with_reducible refine Kd.C_alloc ?_ _) | (with_reducible refine Kd.C_drewN ?_ _) | (with_reducible refine Kd.C_drew ?_))); (case aB => exact (by repeat (first | (with_reducible first | exact HB.out | apply below_alloc | apply pw_below_drewN | apply below_drew1 | refine below_set ?_ GE403.out) | exact HB.out))); (case aF => exact (fun k_ hk => ⟨Kd.fresh' (Kd.R_lt (by (with_reducible repeat (first | apply Kd.R_alloc | apply Kd.R_drewN | apply Kd.R_drew)); exact HO_5.out)) k_ hk, Kd.fresh' (Kd.R_lt (by (with_reducible repeat (first | apply Kd.R_alloc | apply Kd.R_drewN | apply Kd.R_drew)); exact HO_7.out)) k_ hk, Kd.fresh' (Kd.R_lt (by (with_reducible repeat (first | apply Kd.R_alloc | apply Kd.R_drewN | apply Kd.R_drew)); exact HO_9.out)) k_ hk⟩)); (case aO => exact ((Kd.R_nil _ _ _ _ (fun k_ => some k_ ≠ (.slice Ao89 t411.length co89 : Value).ownBlock ∧ some k_ ≠ (.slice Ao90 t415.length co90 : Value).ownBlock ∧ some k_ ≠ (v421 : Value).ownBlock)))); (case aS => exact (below_size (by repeat (first | (with_reducible first | exact HB.out | apply below_alloc | apply pw_below_drewN | apply below_drew1 | refine below_set ?_ GE403.out) | exact HB.out)))); (case aL => have := LMc80.out; omega); intro v432 w91 ho hb hg hat; rw [← Ny431.out] at ho; have n0_ := Aside0.mk (Kd.R_after (Kd.R_apart_nil (by (with_reducible repeat (first | apply Kd.R_alloc | apply Kd.R_drewN | apply Kd.R_drew)); exact HO_5.out)) hg hat); have n1_ := Aside0.mk (Kd.R_after (Kd.R_apart_nil (by (with_reducible repeat (first | apply Kd.R_alloc | apply Kd.R_drewN | apply Kd.R_drew)); exact HO_7.out)) hg hat); have n2_ := Aside0.mk (Kd.R_after (Kd.R_apart_nil (by (with_reducible repeat (first | apply Kd.R_alloc | apply Kd.R_drewN | apply Kd.R_drew)); exact HO_9.out)) hg hat); have n3_ := Aside0.mk (blk_grown (g := gb403) (o := .cells #[.string a0_0, .string a0_1] 50 (0, 0)) (by (with_reducible repeat (first | refine blk_drewN ?_ _ | refine blk_drew ?_ | refine blk_alloc ?_ _)); exact BK403.out) hg (by simp [Value.ownBlock])); have n4_ := Aside0.mk (hb); have n5_ := Aside0.mk (ho); clear HO_5; clear HO_7; clear HO_9; clear BK403; clear HB; have HO_5 := n0_; have HO_7 := n1_; have HO_9 := n2_; have BK403 := n3_; have HB := n4_; have HO433 := n5_; clear n0_ n1_ n2_ n3_ n4_ n5_; clear ho hb hg hat) | ((with_reducible refine gate_builtin (b := .append) (xs := #[.tmp 111, .tmp 112]) rfl ?_); (try (refine gate_guard (by rfl) ?_; dsimp only)); at_builtin; refine Kd.R_append_rows k52 (w0 := w) w.heap.size rfl (.tmp 111) (.tmp 112) 36 52 (.agg #[(.string ⟨#[]⟩), (.string ⟨#[]⟩)]) 32 rfl Tryd.underlying36 info52 rfl (by decide) (by omega) v432 y431 t415 _ _ _ (fun k_ => some k_ ≠ (.slice Ao89 t411.length co89 : Value).ownBlock ∧ some k_ ≠ (.slice Ao90 t415.length co90 : Value).ownBlock ∧ some k_ ≠ (v421 : Value).ownBlock) (fun _ => False) rfl rfl ?aO ?aR (fun _ _ h => h) (fun _ h => h.elim) ?aF ?aB ?aS ?aL ?_; (case aR => repeat (first | exact (Kd.R_reads' HO_7.out).2.2 | (with_reducible refine Kd.C_alloc ?_ _) | (with_reducible refine Kd.C_drewN ?_ _) | (with_reducible refine Kd.C_drew ?_))); (case aB => exact (by repeat (first | (with_reducible first | exact HB.out | apply below_alloc | apply pw_below_drewN | apply below_drew1 | refine below_set ?_ GE403.out) | exact HB.out))); (case aF => exact (fun k_ hk => ⟨Kd.fresh' (Kd.R_lt (by (with_reducible repeat (first | apply Kd.R_alloc | apply Kd.R_drewN | apply Kd.R_drew)); exact HO_5.out)) k_ hk, Kd.fresh' (Kd.R_lt (by (with_reducible repeat (first | apply Kd.R_alloc | apply Kd.R_drewN | apply Kd.R_drew)); exact HO_7.out)) k_ hk, Kd.fresh' (Kd.R_lt (by (with_reducible repeat (first | apply Kd.R_alloc | apply Kd.R_drewN | apply Kd.R_drew)); exact HO_9.out)) k_ hk⟩)); (case aO => exact (by (with_reducible repeat (first | apply Kd.R_alloc | apply Kd.R_drewN | apply Kd.R_drew)); exact HO433.out)); (case aS => exact (below_size (by repeat (first | (with_reducible first | exact HB.out | apply below_alloc | apply pw_below_drewN | apply below_drew1 | refine below_set ?_ GE403.out) | exact HB.out)))); (case aL => have := LMc81.out; omega); intro v435 w92 ho hb hg hat; rw [← Ny434.out] at ho; have n0_ := Aside0.mk (Kd.R_after (ok := (fun k_ => some k_ ≠ (.slice Ao90 t415.length co90 : Value).ownBlock ∧ some k_ ≠ (v421 : Value).ownBlock)) (by (with_reducible repeat (first | apply Kd.R_alloc | apply Kd.R_drewN | apply Kd.R_drew)); exact HO_5.out) hg hat); have n1_ := Aside0.mk (Kd.R_after (ok := (fun k_ => some k_ ≠ (.slice Ao89 t411.length co89 : Value).ownBlock ∧ some k_ ≠ (v421 : Value).ownBlock)) (by (with_reducible repeat (first | apply Kd.R_alloc | apply Kd.R_drewN | apply Kd.R_drew)); exact HO_7.out) hg hat); have n2_ := Aside0.mk (Kd.R_after (ok := (fun k_ => some k_ ≠ (.slice Ao89 t411.length co89 : Value).ownBlock ∧ some k_ ≠ (.slice Ao90 t415.length co90 : Value).ownBlock)) (by (with_reducible repeat (first | apply Kd.R_alloc | apply Kd.R_drewN | apply Kd.R_drew)); exact HO_9.out) hg hat); have n3_ := Aside0.mk (blk_grown (g := gb403) (o := .cells #[.string a0_0, .string a0_1] 50 (0, 0)) (by (with_reducible repeat (first | refine blk_drewN ?_ _ | refine blk_drew ?_ | refine blk_alloc ?_ _)); exact BK403.out) hg (Kd.R_ne HO433.out BK403.out (by decide))); have n4_ := Aside0.mk (hb); have n5_ := Aside0.mk (ho); clear HO_5; clear HO_7; clear HO_9; clear BK403; clear HB; clear HO433; have HO_5 := n0_; have HO_7 := n1_; have HO_9 := n2_; have BK403 := n3_; have HB := n4_; have HO436 := n5_; clear n0_ n1_ n2_ n3_ n4_ n5_; clear ho hb hg hat))
                                go_ret
                                exact ⟨by first | rfl | (simp [errW_none, errW_some] <;> rfl) | (simp [*, errW_none, errW_some] <;> rfl), by repeat (first | (with_reducible first | exact HB.out | apply below_alloc | apply pw_below_drewN | apply below_drew1 | refine below_set ?_ GE403.out) | exact HB.out)⟩
                            · rw [if_neg c81] at H
                              exact absurd H (by simp)
                          · rw [if_neg c80] at H
                            exact absurd H (by simp)
          · rw [if_neg c16] at H
            exact absurd H (by simp)
        · rw [if_neg c15] at H
          exact absurd H (by simp)

end Go.Proofs.YtlnjomhmffdfnaaDoor.X
