-- Printed by a program of this session (wip/xprint), not by the kit's print.
import Derived.Test.YtlnjomhmffdfnaaDoorXx0
import Derived.Test.YtlnjomhmffdfnaaDoorXx4
import Derived.Test.YtlnjomhmffdfnaaDoorXx7
namespace Go.Proofs.YtlnjomhmffdfnaaDoor.X
open Go.RowKit Go.Proofs.YtlnjomhmffdfnaaDoorW.PrintWords Go.Proofs.YtlnjomhmffdfnaaDoorW.PrintLast Go.Proofs.YtlnjomhmffdfnaaDoorW.PrintMore
attribute [local go_sem] max2_int min2_int max_two min_two max_three min_three max_four min_four   -- for this text's walks alone
set_option linter.unusedVariables false
set_option linter.unusedSimpArgs false
open Go.Proofs.YtlnjomhmffdfnaaDoor
attribute [local go_sem] ErrBlk_alloc ErrBlk_drew ErrBlk_drewN errs_eql errs_neq nil_errs_eql nil_errs_neq
variable {EA : Int → Addr} {SS : List Int}

/-! ### usherlaw3_PctRefuses: function 6 -/
mutual
def usherlaw3_PctRefuses.l0 : Nat → ByteArray → Option Int → Int → Bool → Int → ByteArray → Bool → Option (Bool)
  | 0, _, _, _, _, _, _, _ => none
  | k + 1, x3, x4, x5, x6, x7, x164000, x164001 => if x7 < (x164000.size : Int) then (if 0 ≤ x7 then (if (bt x164000 x7) < 33 then (usherlaw3_PctRefuses.j1 k x3 x4 x5 x6 x7 (bt x164000 x7) true x164000 x164001) else (usherlaw3_PctRefuses.j1 k x3 x4 x5 x6 x7 (bt x164000 x7) (decide ((bt x164000 x7) > 126)) x164000 x164001)) else (none)) else (if x6 = true then (if x4.isNone = true then (some false) else (if (x4.getD 0) = 2 then (some (x3.toList == ([] : List UInt8))) else (some false))) else (if x4.isNone = true then (some ((x3.size : Int) == (wrap64 ((x164000.size : Int) - (wrap64 (2 * x5)))))) else (some false)))
def usherlaw3_PctRefuses.j1 : Nat → ByteArray → Option Int → Int → Bool → Int → Int → Bool → ByteArray → Bool → Option (Bool)
  | 0, _, _, _, _, _, _, _, _, _ => none
  | k + 1, x3, x4, x5, x6, x7, x8, x33, x164000, x164001 => if x33 = true then (usherlaw3_PctRefuses.j2 k x3 x4 x5 true x7 x8 x164000 x164001) else (usherlaw3_PctRefuses.j2 k x3 x4 x5 x6 x7 x8 x164000 x164001)
def usherlaw3_PctRefuses.j2 : Nat → ByteArray → Option Int → Int → Bool → Int → Int → ByteArray → Bool → Option (Bool)
  | 0, _, _, _, _, _, _, _, _ => none
  | k + 1, x3, x4, x5, x6, x7, x8, x164000, x164001 => if x8 = 37 then (if (wrap64 (x7 + 2)) ≥ (x164000.size : Int) then (usherlaw3_PctRefuses.l0 k x3 x4 (wrap64 (x5 + 1)) true (wrap64 (x7 + 1)) x164000 x164001) else (if 0 ≤ (wrap64 (x7 + 1)) then (if (wrap64 (x7 + 1)) < (x164000.size : Int) then ((usherlaw3_small.f k (bt x164000 (wrap64 (x7 + 1))) true).bind fun t168 => (if t168 > 15 then (usherlaw3_PctRefuses.l0 k x3 x4 (wrap64 (x5 + 1)) true (wrap64 (x7 + 1)) x164000 x164001) else (if 0 ≤ (wrap64 (x7 + 2)) then (if (wrap64 (x7 + 2)) < (x164000.size : Int) then ((usherlaw3_small.f k (bt x164000 (wrap64 (x7 + 2))) true).bind fun t169 => (if t169 > 15 then (usherlaw3_PctRefuses.l0 k x3 x4 (wrap64 (x5 + 1)) true (wrap64 (x7 + 1)) x164000 x164001) else (usherlaw3_PctRefuses.l0 k x3 x4 (wrap64 (x5 + 1)) x6 (wrap64 (x7 + 1)) x164000 x164001))) else (none)) else (none)))) else (none)) else (none))) else (usherlaw3_PctRefuses.l0 k x3 x4 x5 x6 (wrap64 (x7 + 1)) x164000 x164001)
end
def usherlaw3_PctRefuses.f (k : Nat) (a0_0 : ByteArray) (a0_1 : Bool) : Option (Bool) := (pct_Unescape.f k a0_0 a0_1).bind fun bt164 => (usherlaw3_PctRefuses.l0 k bt164.1 bt164.2 0 false 0 a0_0 a0_1)
theorem usherlaw3_PctRefuses.mono_l : ∀ k, (∀ y0 y1 y2 y3 y4 y5 y6, LeO (usherlaw3_PctRefuses.l0 k y0 y1 y2 y3 y4 y5 y6) (usherlaw3_PctRefuses.l0 (k + 1) y0 y1 y2 y3 y4 y5 y6)) ∧ (∀ y0 y1 y2 y3 y4 y5 y6 y7 y8, LeO (usherlaw3_PctRefuses.j1 k y0 y1 y2 y3 y4 y5 y6 y7 y8) (usherlaw3_PctRefuses.j1 (k + 1) y0 y1 y2 y3 y4 y5 y6 y7 y8)) ∧ (∀ y0 y1 y2 y3 y4 y5 y6 y7, LeO (usherlaw3_PctRefuses.j2 k y0 y1 y2 y3 y4 y5 y6 y7) (usherlaw3_PctRefuses.j2 (k + 1) y0 y1 y2 y3 y4 y5 y6 y7))
  | 0 => ⟨fun _ _ _ _ _ _ _ r h => by simp [usherlaw3_PctRefuses.l0] at h, fun _ _ _ _ _ _ _ _ _ r h => by simp [usherlaw3_PctRefuses.j1] at h, fun _ _ _ _ _ _ _ _ r h => by simp [usherlaw3_PctRefuses.j2] at h⟩
  | k + 1 => by
    obtain ⟨ih0, ih1, ih2⟩ := usherlaw3_PctRefuses.mono_l k
    refine ⟨?_, ?_, ?_⟩
    · intro y0 y1 y2 y3 y4 y5 y6
      unfold usherlaw3_PctRefuses.l0
      repeat' first
      | (with_reducible exact ih0 _ _ _ _ _ _ _)
      | (with_reducible exact ih1 _ _ _ _ _ _ _ _ _)
      | (with_reducible exact ih2 _ _ _ _ _ _ _ _)
      | (with_reducible exact pct_Unescape.mono _ _ _)
      | (with_reducible exact usherlaw3_small.mono _ _ _)
      | (with_reducible exact LeO.refl _)
      | (with_reducible exact LeO.none _)
      | (with_reducible refine LeO.ite ?_ ?_)
      | (with_reducible refine LeO.bind ?_ (fun _ => ?_))
      | exact ih0 _ _ _ _ _ _ _
      | exact ih1 _ _ _ _ _ _ _ _ _
      | exact ih2 _ _ _ _ _ _ _ _
      | exact pct_Unescape.mono _ _ _
      | exact usherlaw3_small.mono _ _ _
      | exact LeO.none _
      | refine LeO.ite ?_ ?_
      | refine LeO.bind ?_ (fun _ => ?_)
    · intro y0 y1 y2 y3 y4 y5 y6 y7 y8
      unfold usherlaw3_PctRefuses.j1
      repeat' first
      | (with_reducible exact ih0 _ _ _ _ _ _ _)
      | (with_reducible exact ih1 _ _ _ _ _ _ _ _ _)
      | (with_reducible exact ih2 _ _ _ _ _ _ _ _)
      | (with_reducible exact pct_Unescape.mono _ _ _)
      | (with_reducible exact usherlaw3_small.mono _ _ _)
      | (with_reducible exact LeO.refl _)
      | (with_reducible exact LeO.none _)
      | (with_reducible refine LeO.ite ?_ ?_)
      | (with_reducible refine LeO.bind ?_ (fun _ => ?_))
      | exact ih0 _ _ _ _ _ _ _
      | exact ih1 _ _ _ _ _ _ _ _ _
      | exact ih2 _ _ _ _ _ _ _ _
      | exact pct_Unescape.mono _ _ _
      | exact usherlaw3_small.mono _ _ _
      | exact LeO.none _
      | refine LeO.ite ?_ ?_
      | refine LeO.bind ?_ (fun _ => ?_)
    · intro y0 y1 y2 y3 y4 y5 y6 y7
      unfold usherlaw3_PctRefuses.j2
      repeat' first
      | (with_reducible exact ih0 _ _ _ _ _ _ _)
      | (with_reducible exact ih1 _ _ _ _ _ _ _ _ _)
      | (with_reducible exact ih2 _ _ _ _ _ _ _ _)
      | (with_reducible exact pct_Unescape.mono _ _ _)
      | (with_reducible exact usherlaw3_small.mono _ _ _)
      | (with_reducible exact LeO.refl _)
      | (with_reducible exact LeO.none _)
      | (with_reducible refine LeO.ite ?_ ?_)
      | (with_reducible refine LeO.bind ?_ (fun _ => ?_))
      | exact ih0 _ _ _ _ _ _ _
      | exact ih1 _ _ _ _ _ _ _ _ _
      | exact ih2 _ _ _ _ _ _ _ _
      | exact pct_Unescape.mono _ _ _
      | exact usherlaw3_small.mono _ _ _
      | exact LeO.none _
      | refine LeO.ite ?_ ?_
      | refine LeO.bind ?_ (fun _ => ?_)
theorem usherlaw3_PctRefuses.mono : ∀ a0 a1 k, LeO (usherlaw3_PctRefuses.f k a0 a1) (usherlaw3_PctRefuses.f (k + 1) a0 a1) := by
  intro a0 a1 k
  obtain ⟨ih0, ih1, ih2⟩ := usherlaw3_PctRefuses.mono_l k
  unfold usherlaw3_PctRefuses.f
  repeat' first
      | (with_reducible exact ih0 _ _ _ _ _ _ _)
      | (with_reducible exact ih1 _ _ _ _ _ _ _ _ _)
      | (with_reducible exact ih2 _ _ _ _ _ _ _ _)
      | (with_reducible exact pct_Unescape.mono _ _ _)
      | (with_reducible exact usherlaw3_small.mono _ _ _)
      | (with_reducible exact LeO.refl _)
      | (with_reducible exact LeO.none _)
      | (with_reducible refine LeO.ite ?_ ?_)
      | (with_reducible refine LeO.bind ?_ (fun _ => ?_))
      | exact ih0 _ _ _ _ _ _ _
      | exact ih1 _ _ _ _ _ _ _ _ _
      | exact ih2 _ _ _ _ _ _ _ _
      | exact pct_Unescape.mono _ _ _
      | exact usherlaw3_small.mono _ _ _
      | exact LeO.none _
      | refine LeO.ite ?_ ?_
      | refine LeO.bind ?_ (fun _ => ?_)
set_option maxHeartbeats 8000000 in
set_option maxRecDepth 100000 in
theorem usherlaw3_PctRefuses.calls (hk2 : (2 : Int) ∈ SS) (k : Nat) (a0_0 : ByteArray) (a0_1 : Bool) (r : Bool) (w : World) (hE : Sent EA SS w) (h : usherlaw3_PctRefuses.f k a0_0 a0_1 = some r) :
    Calls Tryd.prog 6 #[.agg #[.string a0_0, .bool a0_1]] w fun e w' => e = .returned (.bool r) ∧ Below w.heap.size w w' := by
  have hu23 := Tryd.underlying23
  have hu27 := Tryd.underlying27
  have hu98 := Tryd.underlying98
  have HE := Aside0.mk hE
  clear hE
  have HB := Aside0.mk (Below.refl w.heap.size w)
  have H : ((pct_Unescape.f k a0_0 a0_1).bind fun bt164 => (usherlaw3_PctRefuses.l0 k bt164.1 bt164.2 0 false 0 a0_0 a0_1)) = some r := h
  clear h
  replace H := Option.bind_eq_some_iff.mp H
  obtain ⟨⟨t164, t165⟩, A20, H⟩ := H
  replace H : (usherlaw3_PctRefuses.l0 k t164 t165 0 false 0 a0_0 a0_1) = some r := H
  have A2 := Aside0.mk A20
  clear A20
  have H' := Aside0.mk H
  clear H
  go_enter Tryd.func6, Tryd.ntmps6
  go_wp2_with (first | ((with_reducible refine gate_dst (N := 1) rfl ?_); (try (refine gate_guard (by rfl) ?_; dsimp only)); refine box_event ?hg (N := 1) ?hd (cs := #[.string a0_0, .bool a0_1]) (t := 23) ?hr ?_; (case hd => rfl); (case hg => rfl); (case hr => first | (go_simp; done) | (go_simp; rfl)); intro gb163 hg w3 hbox hb; have n0_ := Aside0.mk (below_step (by repeat (first | (with_reducible first | exact HB.out | apply below_alloc | apply pw_below_drewN | apply below_drew1) | exact HB.out)) hb); have n1_ := Aside0.mk (hbox); have n2_ := Aside0.mk ((by rw [hg]; exact (below_size (by repeat (first | (with_reducible first | exact HB.out | apply below_alloc | apply pw_below_drewN | apply below_drew1) | exact HB.out))) : w.heap.size ≤ gb163)); have n3_ := Aside0.mk ((by rw [hg]; exact (below_size (by repeat (first | (with_reducible first | exact HB.out | apply below_alloc | apply pw_below_drewN | apply below_drew1) | exact HB.out))) : w.heap.size ≤ gb163)); clear HB; have HB := n0_; have BK163 := n1_; have GW163 := n2_; have GE163 := n3_; clear n0_ n1_ n2_ n3_; clear hb hbox hg; have hcz4_0 : w3.cell? ⟨gb163, 0, none⟩ = some (.string a0_0) := (blk_cell BK163.out 0).trans rfl; have hcz4_1 : w3.cell? ⟨gb163, 1, none⟩ = some (.bool a0_1) := (blk_cell BK163.out 1).trans rfl; have hfz4_0 := blk_frozen BK163.out 0; have hfz4_1 := blk_frozen BK163.out 1) | ((with_reducible refine gate_callee (f := 16) rfl ?_); refine goesL_ (some 14) rfl rfl Tryd.func16 (by kernel_rfl) rfl #[.string a0_0, .bool a0_1] rfl (by (try simp only [List.map_toArray, List.map_cons, List.map_nil]); first | done | rfl | (simp only [List.length_drop, List.length_take]; rfl)) ?_; (with_reducible refine (pct_Unescape.calls (EA := EA) hk2 k a0_0 a0_1 t164 t165 _ ?side1 A2.out).mono ?_); (case side1 => repeat (first | exact (Sent.below HE.out HB.out) | (with_reducible refine Sent.alloc ?_ _) | (with_reducible refine Sent.drewN ?_ _) | (with_reducible refine Sent.drew ?_))); rintro e w5 ⟨rfl, hb⟩; refine ⟨_, rfl, ?_⟩; have n0_ := Aside0.mk (blk_below (g := gb163) (o := .cells #[.string a0_0, .bool a0_1] 23 (0, 0)) (by (with_reducible repeat (first | refine blk_drewN ?_ _ | refine blk_drew ?_ | refine blk_alloc ?_ _)); exact BK163.out) hb); have n1_ := Aside0.mk (below_step (by repeat (first | (with_reducible first | exact HB.out | apply below_alloc | apply pw_below_drewN | apply below_drew1 | refine below_set ?_ GE163.out) | exact HB.out)) hb); clear BK163; clear HB; have BK163 := n0_; have HB := n1_; clear n0_ n1_; (try clear hb); (try clear hb2); (try clear hk); (try clear hi); (try simp only [errW_none, errW_some])))
  go_loopg [5, 6, 7] k (fun kq v5 v6 v7 w' => ∃ (x5_1 : Int) (x6_1 : Bool) (x7_1 : Int), v5 = .int .i64 x5_1 ∧ v6 = .bool x6_1 ∧ v7 = .int .i64 x7_1 ∧ Aside0 (usherlaw3_PctRefuses.l0 kq t164 t165 x5_1 x6_1 x7_1 a0_0 a0_1 = some r) ∧ Aside0 (kq ≤ k) ∧ Aside0 (w'.heap[gb163]? = some (.cells #[.string a0_0, .bool a0_1] 23 (0, 0))) ∧ Aside0 (Below w.heap.size w w'))
  case atStart => exact ⟨(0), (false), (0), (by first | rfl | (simp; done) | (simp [*]; done)), (by first | rfl | (simp; done) | (simp [*]; done)), (by first | rfl | (simp; done) | (simp [*]; done)), H', ⟨Nat.le_refl _⟩, ⟨by (with_reducible repeat (first | refine blk_drewN ?_ _ | refine blk_drew ?_ | refine blk_alloc ?_ _)); exact BK163.out⟩, ⟨by repeat (first | (with_reducible first | exact HB.out | apply below_alloc | apply pw_below_drewN | apply below_drew1 | refine below_set ?_ GE163.out) | exact HB.out)⟩⟩
  case round =>
    clear H'
    try clear c1
    try clear p2
    try clear hcz4_0
    try clear hcz4_1
    try clear hfz4_0
    try clear hfz4_1
    obtain ⟨x5_1, x6_1, x7_1, rfl, rfl, rfl, HA, HK1, BK163, HB⟩ := hrel
    cases gk with
    | zero => exact absurd HA.out (by simp [usherlaw3_PctRefuses.l0])
    | succ k1 =>
      have H := HA.out
      clear HA
      simp only [usherlaw3_PctRefuses.l0] at H
      by_cases c6 : x7_1 < (a0_0.size : Int)
      · rw [if_pos c6] at H
        have c6b0 : decide (x7_1 < (a0_0.size : Int)) = true := decide_eq_true c6
        clear c6
        by_cases c7 : 0 ≤ x7_1
        · rw [if_pos c7] at H
          have c7b0 : decide (0 ≤ x7_1) = true := decide_eq_true c7
          clear c7
          have HC9 := Aside0.mk H
          clear H
          have hcz10_0 : wr.cell? ⟨gb163, 0, none⟩ = some (.string a0_0) := (blk_cell BK163.out 0).trans rfl
          have hcz10_1 : wr.cell? ⟨gb163, 1, none⟩ = some (.bool a0_1) := (blk_cell BK163.out 1).trans rfl
          have hfz10_0 := blk_frozen BK163.out 0
          have hfz10_1 := blk_frozen BK163.out 1
          have p8 : 0 ≤ (x7_1 : Int) := of_decide_eq_true (by first | (with_reducible assumption) | assumption)
          have q8 : x7_1 < (a0_0.size : Int) := of_decide_eq_true (by first | (with_reducible assumption) | assumption)
          have hx8 := bt_at a0_0 x7_1
          replace p8 := eq_true p8
          replace q8 := eq_true q8
          go_upto_region 8 with (fail)
          go_cut [33] (fun v33 wc => ∃ (kq : Nat) (x33_8 : Bool), v33 = .bool x33_8 ∧ Aside0 (usherlaw3_PctRefuses.j1 kq t164 t165 x5_1 x6_1 x7_1 (bt a0_0 x7_1) x33_8 a0_0 a0_1 = some r) ∧ Aside0 (kq ≤ k1) ∧ Aside0 (wc.heap[gb163]? = some (.cells #[.string a0_0, .bool a0_1] 23 (0, 0))) ∧ Aside0 (Below w.heap.size w wc))
          case first =>
            have H := HC9.out
            clear HC9
            by_cases c11 : (bt a0_0 x7_1) < 33
            · rw [if_pos c11] at H
              have c11b0 : decide ((bt a0_0 x7_1) < 33) = true := decide_eq_true c11
              clear c11
              (first | rw [c11b0] | (simp only [i64_w, i32_w]; rw [c11b0]) | skip)
              have H' := Aside0.mk H
              clear H
              go_wp2
              go_meet
              case rel => exact ⟨_, (true), (by first | rfl | (simp; done) | (simp [*]; done)), H', ⟨by have := HK1.out; first | omega | exact Nat.le_refl _⟩, ⟨by (with_reducible repeat (first | refine blk_drewN ?_ _ | refine blk_drew ?_ | refine blk_alloc ?_ _)); exact BK163.out⟩, ⟨by repeat (first | (with_reducible first | exact HB.out | apply below_alloc | apply pw_below_drewN | apply below_drew1 | refine below_set ?_ GE163.out) | exact HB.out)⟩⟩
            · rw [if_neg c11] at H
              have c11b0 : decide ((bt a0_0 x7_1) < 33) = false := decide_eq_false c11
              clear c11
              (first | rw [c11b0] | (simp only [i64_w, i32_w]; rw [c11b0]) | skip)
              have H' := Aside0.mk H
              clear H
              go_wp2
              go_meet
              case rel => exact ⟨_, (decide ((bt a0_0 x7_1) > 126)), (by first | rfl | (simp; done) | (simp [*]; done)), H', ⟨by have := HK1.out; first | omega | exact Nat.le_refl _⟩, ⟨by (with_reducible repeat (first | refine blk_drewN ?_ _ | refine blk_drew ?_ | refine blk_alloc ?_ _)); exact BK163.out⟩, ⟨by repeat (first | (with_reducible first | exact HB.out | apply below_alloc | apply pw_below_drewN | apply below_drew1 | refine below_set ?_ GE163.out) | exact HB.out)⟩⟩
          case rest =>
            clear HC9
            try clear c1
            try clear p2
            try clear c6
            try clear c6b0
            try clear c7
            try clear c7b0
            try clear p8
            try clear q8
            try clear hx8
            try clear c11
            try clear c11b0
            try clear hcz10_0
            try clear hcz10_1
            try clear hcz4_0
            try clear hcz4_1
            try clear hfz10_0
            try clear hfz10_1
            try clear hfz4_0
            try clear hfz4_1
            try clear p2
            try clear p8
            try clear q8
            obtain ⟨kq, x33_8, rfl, HA, HJ8, BK163, HB⟩ := hcut
            cases kq with
            | zero => exact absurd HA.out (by simp [usherlaw3_PctRefuses.j1])
            | succ kj8 =>
              have H := HA.out
              clear HA
              simp only [usherlaw3_PctRefuses.j1] at H
              have HC12 := Aside0.mk H
              clear H
              go_upto_if 33 with (fail)
              go_cut [6] (fun v6 wc => ∃ (kq : Nat) (x6_11 : Bool), v6 = .bool x6_11 ∧ Aside0 (usherlaw3_PctRefuses.j2 kq t164 t165 x5_1 x6_11 x7_1 (bt a0_0 x7_1) a0_0 a0_1 = some r) ∧ Aside0 (kq ≤ kj8) ∧ Aside0 (wc.heap[gb163]? = some (.cells #[.string a0_0, .bool a0_1] 23 (0, 0))) ∧ Aside0 (Below w.heap.size w wc))
              case first =>
                have H := HC12.out
                clear HC12
                by_cases c13 : x33_8 = true
                · subst c13
                  have H1 : (usherlaw3_PctRefuses.j2 kj8 t164 t165 x5_1 true x7_1 (bt a0_0 x7_1) a0_0 a0_1) = some r := by rw [if_pos rfl] at H; exact H
                  clear H
                  have H := H1
                  clear H1
                  have H' := Aside0.mk H
                  clear H
                  go_wp2
                  go_meet
                  case rel => exact ⟨_, (true), (by first | rfl | (simp; done) | (simp [*]; done)), H', ⟨by have := HK1.out; have := HJ8.out; first | omega | exact Nat.le_refl _⟩, ⟨by (with_reducible repeat (first | refine blk_drewN ?_ _ | refine blk_drew ?_ | refine blk_alloc ?_ _)); exact BK163.out⟩, ⟨by repeat (first | (with_reducible first | exact HB.out | apply below_alloc | apply pw_below_drewN | apply below_drew1 | refine below_set ?_ GE163.out) | exact HB.out)⟩⟩
                · replace c13 := Bool.eq_false_iff.mpr c13
                  subst c13
                  have H1 : (usherlaw3_PctRefuses.j2 kj8 t164 t165 x5_1 x6_1 x7_1 (bt a0_0 x7_1) a0_0 a0_1) = some r := by rw [if_neg (show ¬ (false = true) by decide)] at H; exact H
                  clear H
                  have H := H1
                  clear H1
                  have H' := Aside0.mk H
                  clear H
                  go_wp2
                  go_meet
                  case rel => exact ⟨_, (x6_1), (by first | rfl | (simp; done) | (simp [*]; done)), H', ⟨by have := HK1.out; have := HJ8.out; first | omega | exact Nat.le_refl _⟩, ⟨by (with_reducible repeat (first | refine blk_drewN ?_ _ | refine blk_drew ?_ | refine blk_alloc ?_ _)); exact BK163.out⟩, ⟨by repeat (first | (with_reducible first | exact HB.out | apply below_alloc | apply pw_below_drewN | apply below_drew1 | refine below_set ?_ GE163.out) | exact HB.out)⟩⟩
              case rest =>
                clear HC12
                try clear c1
                try clear p2
                try clear c6
                try clear c6b0
                try clear c7
                try clear c7b0
                try clear p8
                try clear q8
                try clear hx8
                try clear c11
                try clear c11b0
                try clear c13
                try clear hcz10_0
                try clear hcz10_1
                try clear hcz4_0
                try clear hcz4_1
                try clear hfz10_0
                try clear hfz10_1
                try clear hfz4_0
                try clear hfz4_1
                try clear p2
                try clear p8
                try clear q8
                obtain ⟨kq, x6_11, rfl, HA, HJ11, BK163, HB⟩ := hcut
                cases kq with
                | zero => exact absurd HA.out (by simp [usherlaw3_PctRefuses.j2])
                | succ kj11 =>
                  have H := HA.out
                  clear HA
                  simp only [usherlaw3_PctRefuses.j2] at H
                  by_cases c14 : (bt a0_0 x7_1) = 37
                  · rw [if_pos c14] at H
                    have c14b0 : ((bt a0_0 x7_1) == 37) = true := beq_iff_eq.mpr c14
                    have c14b1 : ((bt a0_0 x7_1) != 37) = false := bne_eq_false_iff_eq.mpr c14
                    clear c14
                    by_cases c15 : (wrap64 (x7_1 + 2)) ≥ (a0_0.size : Int)
                    · rw [if_pos c15] at H
                      have c15b0 : decide ((a0_0.size : Int) ≤ (wrap64 (x7_1 + 2))) = true := decide_eq_true c15
                      clear c15
                      have H' := Aside0.mk H
                      clear H
                      have hcz16_0 : wc.cell? ⟨gb163, 0, none⟩ = some (.string a0_0) := (blk_cell BK163.out 0).trans rfl
                      have hcz16_1 : wc.cell? ⟨gb163, 1, none⟩ = some (.bool a0_1) := (blk_cell BK163.out 1).trans rfl
                      have hfz16_0 := blk_frozen BK163.out 0
                      have hfz16_1 := blk_frozen BK163.out 1
                      go_wp2
                      go_roundg kj11
                      case measure => have := HK1.out; have := HJ8.out; have := HJ11.out; omega
                      case rel => exact ⟨(wrap64 (x5_1 + 1)), (true), (wrap64 (x7_1 + 1)), (by first | rfl | (simp; done) | (simp [*]; done)), (by first | rfl | (simp; done) | (simp [*]; done)), (by first | rfl | (simp; done) | (simp [*]; done)), H', ⟨by have := HK1.out; have := HJ8.out; have := HJ11.out; omega⟩, ⟨by (with_reducible repeat (first | refine blk_drewN ?_ _ | refine blk_drew ?_ | refine blk_alloc ?_ _)); exact BK163.out⟩, ⟨by repeat (first | (with_reducible first | exact HB.out | apply below_alloc | apply pw_below_drewN | apply below_drew1 | refine below_set ?_ GE163.out) | exact HB.out)⟩⟩
                    · rw [if_neg c15] at H
                      have c15b0 : decide ((a0_0.size : Int) ≤ (wrap64 (x7_1 + 2))) = false := decide_eq_false c15
                      clear c15
                      obtain ⟨ji17, hji17⟩ : ∃ j_ : Int, (wrap64 (x7_1 + 1)) = j_ := ⟨_, rfl⟩
                      replace H : (if 0 ≤ (ji17) then (if (ji17) < (a0_0.size : Int) then ((usherlaw3_small.f kj11 (bt a0_0 (ji17)) true).bind fun t168 => (if t168 > 15 then (usherlaw3_PctRefuses.l0 kj11 t164 t165 (wrap64 (x5_1 + 1)) true ji17 a0_0 a0_1) else (if 0 ≤ (wrap64 (x7_1 + 2)) then (if (wrap64 (x7_1 + 2)) < (a0_0.size : Int) then ((usherlaw3_small.f kj11 (bt a0_0 (wrap64 (x7_1 + 2))) true).bind fun t169 => (if t169 > 15 then (usherlaw3_PctRefuses.l0 kj11 t164 t165 (wrap64 (x5_1 + 1)) true ji17 a0_0 a0_1) else (usherlaw3_PctRefuses.l0 kj11 t164 t165 (wrap64 (x5_1 + 1)) x6_11 ji17 a0_0 a0_1))) else (none)) else (none)))) else (none)) else (none)) = some r := by first | (rw [hji17] at H; exact H) | (simp only [hji17] at H ⊢; exact H)
                      have hji17w : (IntKind.i64.wrap (x7_1 + 1)) = ji17 := (i64_w _).trans hji17
                      by_cases c18 : 0 ≤ (ji17)
                      · rw [if_pos c18] at H
                        have c18b0 : decide (0 ≤ (ji17)) = true := decide_eq_true c18
                        clear c18
                        by_cases c19 : (ji17) < (a0_0.size : Int)
                        · rw [if_pos c19] at H
                          have c19b0 : decide ((ji17) < (a0_0.size : Int)) = true := decide_eq_true c19
                          clear c19
                          replace H := Option.bind_eq_some_iff.mp H
                          obtain ⟨t168, A210, H⟩ := H
                          replace H : (if t168 > 15 then (usherlaw3_PctRefuses.l0 kj11 t164 t165 (wrap64 (x5_1 + 1)) true ji17 a0_0 a0_1) else (if 0 ≤ (wrap64 (x7_1 + 2)) then (if (wrap64 (x7_1 + 2)) < (a0_0.size : Int) then ((usherlaw3_small.f kj11 (bt a0_0 (wrap64 (x7_1 + 2))) true).bind fun t169 => (if t169 > 15 then (usherlaw3_PctRefuses.l0 kj11 t164 t165 (wrap64 (x5_1 + 1)) true ji17 a0_0 a0_1) else (usherlaw3_PctRefuses.l0 kj11 t164 t165 (wrap64 (x5_1 + 1)) x6_11 ji17 a0_0 a0_1))) else (none)) else (none))) = some r := H
                          have A21 := Aside0.mk A210
                          clear A210
                          by_cases c22 : t168 > 15
                          · rw [if_pos c22] at H
                            have c22b0 : decide (15 < t168) = true := decide_eq_true c22
                            clear c22
                            have H' := Aside0.mk H
                            clear H
                            have hcz23_0 : wc.cell? ⟨gb163, 0, none⟩ = some (.string a0_0) := (blk_cell BK163.out 0).trans rfl
                            have hcz23_1 : wc.cell? ⟨gb163, 1, none⟩ = some (.bool a0_1) := (blk_cell BK163.out 1).trans rfl
                            have hfz23_0 := blk_frozen BK163.out 0
                            have hfz23_1 := blk_frozen BK163.out 1
                            have p20 : 0 ≤ ((ji17) : Int) := of_decide_eq_true (by first | (with_reducible assumption) | assumption)
                            have q20 : (ji17) < (a0_0.size : Int) := of_decide_eq_true (by first | (with_reducible assumption) | assumption)
                            have hx20 := bt_at a0_0 (ji17)
                            replace p20 := eq_true p20
                            replace q20 := eq_true q20
                            go_wp2_with (first | (go_at_call 20; (with_reducible refine (usherlaw3_small.calls kj11 (bt a0_0 (ji17)) true t168 _ A21.out).mono ?_); rintro e w' ⟨rfl, ⟨nd, rfl⟩⟩))
                            go_roundg kj11
                            case measure => have := HK1.out; have := HJ8.out; have := HJ11.out; omega
                            case rel => exact ⟨(wrap64 (x5_1 + 1)), (true), (ji17), (by first | rfl | (simp; done) | (simp [*]; done)), (by first | rfl | (simp; done) | (simp [*]; done)), (by first | rfl | (simp; done) | (simp only [← hji17] <;> (first | rfl | simp)) | (simp [*]; done)), H', ⟨by have := HK1.out; have := HJ8.out; have := HJ11.out; omega⟩, ⟨by (with_reducible repeat (first | refine blk_drewN ?_ _ | refine blk_drew ?_ | refine blk_alloc ?_ _)); exact BK163.out⟩, ⟨by repeat (first | (with_reducible first | exact HB.out | apply below_alloc | apply pw_below_drewN | apply below_drew1 | refine below_set ?_ GE163.out) | exact HB.out)⟩⟩
                          · rw [if_neg c22] at H
                            have c22b0 : decide (15 < t168) = false := decide_eq_false c22
                            clear c22
                            obtain ⟨ji24, hji24⟩ : ∃ j_ : Int, (wrap64 (x7_1 + 2)) = j_ := ⟨_, rfl⟩
                            replace H : (if 0 ≤ (ji24) then (if (ji24) < (a0_0.size : Int) then ((usherlaw3_small.f kj11 (bt a0_0 (ji24)) true).bind fun t169 => (if t169 > 15 then (usherlaw3_PctRefuses.l0 kj11 t164 t165 (wrap64 (x5_1 + 1)) true ji17 a0_0 a0_1) else (usherlaw3_PctRefuses.l0 kj11 t164 t165 (wrap64 (x5_1 + 1)) x6_11 ji17 a0_0 a0_1))) else (none)) else (none)) = some r := by first | (rw [hji24] at H; exact H) | (simp only [hji24] at H ⊢; exact H)
                            (try rw [hji24] at c15b0)
                            (try rw [hji24] at A21)
                            have hji24w : (IntKind.i64.wrap (x7_1 + 2)) = ji24 := (i64_w _).trans hji24
                            by_cases c25 : 0 ≤ (ji24)
                            · rw [if_pos c25] at H
                              have c25b0 : decide (0 ≤ (ji24)) = true := decide_eq_true c25
                              clear c25
                              by_cases c26 : (ji24) < (a0_0.size : Int)
                              · rw [if_pos c26] at H
                                have c26b0 : decide ((ji24) < (a0_0.size : Int)) = true := decide_eq_true c26
                                clear c26
                                replace H := Option.bind_eq_some_iff.mp H
                                obtain ⟨t169, A280, H⟩ := H
                                replace H : (if t169 > 15 then (usherlaw3_PctRefuses.l0 kj11 t164 t165 (wrap64 (x5_1 + 1)) true ji17 a0_0 a0_1) else (usherlaw3_PctRefuses.l0 kj11 t164 t165 (wrap64 (x5_1 + 1)) x6_11 ji17 a0_0 a0_1)) = some r := H
                                have A28 := Aside0.mk A280
                                clear A280
                                by_cases c29 : t169 > 15
                                · rw [if_pos c29] at H
                                  have c29b0 : decide (15 < t169) = true := decide_eq_true c29
                                  clear c29
                                  have H' := Aside0.mk H
                                  clear H
                                  have hcz30_0 : wc.cell? ⟨gb163, 0, none⟩ = some (.string a0_0) := (blk_cell BK163.out 0).trans rfl
                                  have hcz30_1 : wc.cell? ⟨gb163, 1, none⟩ = some (.bool a0_1) := (blk_cell BK163.out 1).trans rfl
                                  have hfz30_0 := blk_frozen BK163.out 0
                                  have hfz30_1 := blk_frozen BK163.out 1
                                  have p20 : 0 ≤ ((ji17) : Int) := of_decide_eq_true (by first | (with_reducible assumption) | assumption)
                                  have q20 : (ji17) < (a0_0.size : Int) := of_decide_eq_true (by first | (with_reducible assumption) | assumption)
                                  have hx20 := bt_at a0_0 (ji17)
                                  replace p20 := eq_true p20
                                  replace q20 := eq_true q20
                                  go_wp2_with (first | (go_at_call 20; (with_reducible refine (usherlaw3_small.calls kj11 (bt a0_0 (ji17)) true t168 _ A21.out).mono ?_); rintro e w' ⟨rfl, ⟨nd, rfl⟩⟩; have p27 : 0 ≤ ((ji24) : Int) := of_decide_eq_true (by first | (with_reducible assumption) | assumption); have q27 : (ji24) < (a0_0.size : Int) := of_decide_eq_true (by first | (with_reducible assumption) | assumption); have hx27 := bt_at a0_0 (ji24); replace p27 := eq_true p27; replace q27 := eq_true q27) | (go_at_call 20; (with_reducible refine (usherlaw3_small.calls kj11 (bt a0_0 (ji24)) true t169 _ A28.out).mono ?_); rintro e w' ⟨rfl, ⟨nd, rfl⟩⟩))
                                  go_roundg kj11
                                  case measure => have := HK1.out; have := HJ8.out; have := HJ11.out; omega
                                  case rel => exact ⟨(wrap64 (x5_1 + 1)), (true), (ji17), (by first | rfl | (simp; done) | (simp [*]; done)), (by first | rfl | (simp; done) | (simp [*]; done)), (by first | rfl | (simp; done) | (simp only [← hji17] <;> (first | rfl | simp)) | (simp [*]; done)), H', ⟨by have := HK1.out; have := HJ8.out; have := HJ11.out; omega⟩, ⟨by (with_reducible repeat (first | refine blk_drewN ?_ _ | refine blk_drew ?_ | refine blk_alloc ?_ _)); exact BK163.out⟩, ⟨by repeat (first | (with_reducible first | exact HB.out | apply below_alloc | apply pw_below_drewN | apply below_drew1 | refine below_set ?_ GE163.out) | exact HB.out)⟩⟩
                                · rw [if_neg c29] at H
                                  have c29b0 : decide (15 < t169) = false := decide_eq_false c29
                                  clear c29
                                  have H' := Aside0.mk H
                                  clear H
                                  have hcz31_0 : wc.cell? ⟨gb163, 0, none⟩ = some (.string a0_0) := (blk_cell BK163.out 0).trans rfl
                                  have hcz31_1 : wc.cell? ⟨gb163, 1, none⟩ = some (.bool a0_1) := (blk_cell BK163.out 1).trans rfl
                                  have hfz31_0 := blk_frozen BK163.out 0
                                  have hfz31_1 := blk_frozen BK163.out 1
                                  have p20 : 0 ≤ ((ji17) : Int) := of_decide_eq_true (by first | (with_reducible assumption) | assumption)
                                  have q20 : (ji17) < (a0_0.size : Int) := of_decide_eq_true (by first | (with_reducible assumption) | assumption)
                                  have hx20 := bt_at a0_0 (ji17)
                                  replace p20 := eq_true p20
                                  replace q20 := eq_true q20
                                  go_wp2_with (first | (go_at_call 20; (with_reducible refine (usherlaw3_small.calls kj11 (bt a0_0 (ji17)) true t168 _ A21.out).mono ?_); rintro e w' ⟨rfl, ⟨nd, rfl⟩⟩; have p27 : 0 ≤ ((ji24) : Int) := of_decide_eq_true (by first | (with_reducible assumption) | assumption); have q27 : (ji24) < (a0_0.size : Int) := of_decide_eq_true (by first | (with_reducible assumption) | assumption); have hx27 := bt_at a0_0 (ji24); replace p27 := eq_true p27; replace q27 := eq_true q27) | (go_at_call 20; (with_reducible refine (usherlaw3_small.calls kj11 (bt a0_0 (ji24)) true t169 _ A28.out).mono ?_); rintro e w' ⟨rfl, ⟨nd, rfl⟩⟩))
                                  go_roundg kj11
                                  case measure => have := HK1.out; have := HJ8.out; have := HJ11.out; omega
                                  case rel => exact ⟨(wrap64 (x5_1 + 1)), (x6_11), (ji17), (by first | rfl | (simp; done) | (simp [*]; done)), (by first | rfl | (simp; done) | (simp [*]; done)), (by first | rfl | (simp; done) | (simp only [← hji17] <;> (first | rfl | simp)) | (simp [*]; done)), H', ⟨by have := HK1.out; have := HJ8.out; have := HJ11.out; omega⟩, ⟨by (with_reducible repeat (first | refine blk_drewN ?_ _ | refine blk_drew ?_ | refine blk_alloc ?_ _)); exact BK163.out⟩, ⟨by repeat (first | (with_reducible first | exact HB.out | apply below_alloc | apply pw_below_drewN | apply below_drew1 | refine below_set ?_ GE163.out) | exact HB.out)⟩⟩
                              · rw [if_neg c26] at H
                                exact absurd H (by simp)
                            · rw [if_neg c25] at H
                              exact absurd H (by simp)
                        · rw [if_neg c19] at H
                          exact absurd H (by simp)
                      · rw [if_neg c18] at H
                        exact absurd H (by simp)
                  · rw [if_neg c14] at H
                    have c14b0 : ((bt a0_0 x7_1) == 37) = false := beq_eq_false_iff_ne.mpr c14
                    have c14b1 : ((bt a0_0 x7_1) != 37) = true := bne_iff_ne.mpr c14
                    have H' := Aside0.mk H
                    clear H
                    go_wp2
                    go_roundg kj11
                    case measure => have := HK1.out; have := HJ8.out; have := HJ11.out; omega
                    case rel => exact ⟨(x5_1), (x6_11), (wrap64 (x7_1 + 1)), (by first | rfl | (simp; done) | (simp [*]; done)), (by first | rfl | (simp; done) | (simp [*]; done)), (by first | rfl | (simp; done) | (simp [*]; done)), H', ⟨by have := HK1.out; have := HJ8.out; have := HJ11.out; omega⟩, ⟨by (with_reducible repeat (first | refine blk_drewN ?_ _ | refine blk_drew ?_ | refine blk_alloc ?_ _)); exact BK163.out⟩, ⟨by repeat (first | (with_reducible first | exact HB.out | apply below_alloc | apply pw_below_drewN | apply below_drew1 | refine below_set ?_ GE163.out) | exact HB.out)⟩⟩
        · rw [if_neg c7] at H
          exact absurd H (by simp)
      · rw [if_neg c6] at H
        have c6b0 : decide (x7_1 < (a0_0.size : Int)) = false := decide_eq_false c6
        clear c6
        by_cases c32 : x6_1 = true
        · subst c32
          have H1 : (if t165.isNone = true then (some false) else (if (t165.getD 0) = 2 then (some (t164.toList == ([] : List UInt8))) else (some false))) = some r := by rw [if_pos rfl] at H; exact H
          clear H
          have H := H1
          clear H1
          rcases t165 with _ | q166
          · have H1 : (some false) = some r := by rw [if_pos (show (none : Option Int).isNone = true by rfl)] at H; exact H
            clear H
            have H := H1
            clear H1
            try simp only [errW_none, errW_some]
            obtain rfl := Option.some.inj H
            have hcz33_0 : wr.cell? ⟨gb163, 0, none⟩ = some (.string a0_0) := (blk_cell BK163.out 0).trans rfl
            have hcz33_1 : wr.cell? ⟨gb163, 1, none⟩ = some (.bool a0_1) := (blk_cell BK163.out 1).trans rfl
            have hfz33_0 := blk_frozen BK163.out 0
            have hfz33_1 := blk_frozen BK163.out 1
            have hg34 := Sent.at_2 (Sent.below HE.out HB.out) hk2
            go_wp2
            go_ret
            exact ⟨by first | rfl | (simp [errW_none, errW_some] <;> rfl) | (simp [*, errW_none, errW_some] <;> rfl), by repeat (first | (with_reducible first | exact HB.out | apply below_alloc | apply pw_below_drewN | apply below_drew1 | refine below_set ?_ GE163.out) | exact HB.out)⟩
          · have H1 : (if q166 = 2 then (some (t164.toList == ([] : List UInt8))) else (some false)) = some r := by rw [if_neg (show ¬ (some q166).isNone = true by simp)] at H; exact H
            clear H
            have H := H1
            clear H1
            try simp only [errW_none, errW_some]
            by_cases c35 : q166 = 2
            · rw [if_pos c35] at H
              have c35b0 : (q166 == 2) = true := beq_iff_eq.mpr c35
              have c35b1 : (q166 != 2) = false := bne_eq_false_iff_eq.mpr c35
              clear c35
              obtain rfl := Option.some.inj H
              have hcz36_0 : wr.cell? ⟨gb163, 0, none⟩ = some (.string a0_0) := (blk_cell BK163.out 0).trans rfl
              have hcz36_1 : wr.cell? ⟨gb163, 1, none⟩ = some (.bool a0_1) := (blk_cell BK163.out 1).trans rfl
              have hfz36_0 := blk_frozen BK163.out 0
              have hfz36_1 := blk_frozen BK163.out 1
              have hg37 := Sent.at_2 (Sent.below HE.out HB.out) hk2
              have hg38 := Sent.errs (Sent.below HE.out HB.out)
              go_wp2
              go_ret
              exact ⟨by first | rfl | (simp [errW_none, errW_some] <;> rfl) | (simp [*, errW_none, errW_some] <;> rfl), by repeat (first | (with_reducible first | exact HB.out | apply below_alloc | apply pw_below_drewN | apply below_drew1 | refine below_set ?_ GE163.out) | exact HB.out)⟩
            · rw [if_neg c35] at H
              have c35b0 : (q166 == 2) = false := beq_eq_false_iff_ne.mpr c35
              have c35b1 : (q166 != 2) = true := bne_iff_ne.mpr c35
              obtain rfl := Option.some.inj H
              have hcz39_0 : wr.cell? ⟨gb163, 0, none⟩ = some (.string a0_0) := (blk_cell BK163.out 0).trans rfl
              have hcz39_1 : wr.cell? ⟨gb163, 1, none⟩ = some (.bool a0_1) := (blk_cell BK163.out 1).trans rfl
              have hfz39_0 := blk_frozen BK163.out 0
              have hfz39_1 := blk_frozen BK163.out 1
              have hg40 := Sent.at_2 (Sent.below HE.out HB.out) hk2
              have hg41 := Sent.errs (Sent.below HE.out HB.out)
              go_wp2
              go_ret
              exact ⟨by first | rfl | (simp [errW_none, errW_some] <;> rfl) | (simp [*, errW_none, errW_some] <;> rfl), by repeat (first | (with_reducible first | exact HB.out | apply below_alloc | apply pw_below_drewN | apply below_drew1 | refine below_set ?_ GE163.out) | exact HB.out)⟩
        · replace c32 := Bool.eq_false_iff.mpr c32
          subst c32
          have H1 : (if t165.isNone = true then (some ((t164.size : Int) == (wrap64 ((a0_0.size : Int) - (wrap64 (2 * x5_1)))))) else (some false)) = some r := by rw [if_neg (show ¬ (false = true) by decide)] at H; exact H
          clear H
          have H := H1
          clear H1
          rcases t165 with _ | q167
          · have H1 : (some ((t164.size : Int) == (wrap64 ((a0_0.size : Int) - (wrap64 (2 * x5_1)))))) = some r := by rw [if_pos (show (none : Option Int).isNone = true by rfl)] at H; exact H
            clear H
            have H := H1
            clear H1
            try simp only [errW_none, errW_some]
            obtain rfl := Option.some.inj H
            have hcz42_0 : wr.cell? ⟨gb163, 0, none⟩ = some (.string a0_0) := (blk_cell BK163.out 0).trans rfl
            have hcz42_1 : wr.cell? ⟨gb163, 1, none⟩ = some (.bool a0_1) := (blk_cell BK163.out 1).trans rfl
            have hfz42_0 := blk_frozen BK163.out 0
            have hfz42_1 := blk_frozen BK163.out 1
            go_wp2
            go_ret
            exact ⟨by first | rfl | (simp [errW_none, errW_some] <;> rfl) | (simp [*, errW_none, errW_some] <;> rfl), by repeat (first | (with_reducible first | exact HB.out | apply below_alloc | apply pw_below_drewN | apply below_drew1 | refine below_set ?_ GE163.out) | exact HB.out)⟩
          · have H1 : (some false) = some r := by rw [if_neg (show ¬ (some q167).isNone = true by simp)] at H; exact H
            clear H
            have H := H1
            clear H1
            try simp only [errW_none, errW_some]
            obtain rfl := Option.some.inj H
            have hcz43_0 : wr.cell? ⟨gb163, 0, none⟩ = some (.string a0_0) := (blk_cell BK163.out 0).trans rfl
            have hcz43_1 : wr.cell? ⟨gb163, 1, none⟩ = some (.bool a0_1) := (blk_cell BK163.out 1).trans rfl
            have hfz43_0 := blk_frozen BK163.out 0
            have hfz43_1 := blk_frozen BK163.out 1
            go_wp2
            go_ret
            exact ⟨by first | rfl | (simp [errW_none, errW_some] <;> rfl) | (simp [*, errW_none, errW_some] <;> rfl), by repeat (first | (with_reducible first | exact HB.out | apply below_alloc | apply pw_below_drewN | apply below_drew1 | refine below_set ?_ GE163.out) | exact HB.out)⟩

end Go.Proofs.YtlnjomhmffdfnaaDoor.X
