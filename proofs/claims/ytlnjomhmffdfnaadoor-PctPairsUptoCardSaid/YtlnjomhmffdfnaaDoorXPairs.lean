/- PctPairs walked by hand. -/
import Derived.Test.YtlnjomhmffdfnaaDoorXApart
import Derived.Lib.Hide
-- IMPORTS
import Derived.Test.YtlnjomhmffdfnaaDoorXx0
import Derived.Test.YtlnjomhmffdfnaaDoorXx6
import Derived.Test.YtlnjomhmffdfnaaDoorXx12
import Derived.Test.YtlnjomhmffdfnaaDoorXx17
import Derived.Test.YtlnjomhmffdfnaaDoorXx18
set_option linter.unusedVariables false
set_option linter.unusedSimpArgs false
namespace Go.Proofs.YtlnjomhmffdfnaaDoor.X
open Go.RowKit Go.Proofs.YtlnjomhmffdfnaaDoorW.PrintWords Go.Proofs.YtlnjomhmffdfnaaDoorW.PrintLast Go.Proofs.YtlnjomhmffdfnaaDoorW.PrintMore
open Go.Proofs.YtlnjomhmffdfnaaDoor
attribute [local go_sem] ErrBlk_alloc ErrBlk_drew ErrBlk_drewN errs_eql errs_neq nil_errs_eql nil_errs_neq
variable {EA : Int → Addr} {SS : List Int}
abbrev a1b2 : ByteArray := ⟨#[97, 61, 49, 38, 98, 61, 50]⟩
def twoL : List S52 := [⟨⟨#[97]⟩, ⟨#[49]⟩⟩, ⟨⟨#[98]⟩, ⟨#[50]⟩⟩]
structure PairsOk (k : Nat) (s : ByteArray) (l m : List S52) (e : Option Int) (f : Int) : Prop where
  h1 : pct_Pairs.f k s = some (l, e)
  h2 : pct_Pairs.f k a1b2 = some (twoL, none)
  h3 : usherref3_Pairs.f k s = some (m, f)
  h4 : usherkit_Num.f e = some f
  h5 : usherref0_SamePairs.f k l m = some true
  h6 : usherref0_SamePairs.f k twoL twoL = some true
  hl : l.length ≤ 1000
def three {α : Type} (a b c : α) (j : Nat) : α := if j = 0 then a else if j = 1 then b else c
theorem three_sep {a b c : Value} {g h0 h1 h2 h3 : Nat} (o1 : ∀ k, a.ownBlock = some k → h0 ≤ k ∧ k < h1) (o2 : ∀ k, b.ownBlock = some k → h1 ≤ k ∧ k < h2) (o3 : ∀ k, c.ownBlock = some k → h2 ≤ k ∧ k < h3) (a1 : h0 ≤ h1) (a2 : h1 ≤ h2) (a3 : h2 ≤ h3) (hg : h3 ≤ g) : Sep g 3 (three a b c) := by
  have hall : ∀ j, j < 3 → ∀ k, (three a b c j).ownBlock = some k → (j = 0 ∧ h0 ≤ k ∧ k < h1) ∨ (j = 1 ∧ h1 ≤ k ∧ k < h2) ∨ (j = 2 ∧ h2 ≤ k ∧ k < h3) := by
    intro j hj k hk
    rcases show j = 0 ∨ j = 1 ∨ j = 2 by omega with rfl | rfl | rfl
    · exact .inl ⟨rfl, o1 k hk⟩
    · exact .inr (.inl ⟨rfl, o2 k hk⟩)
    · exact .inr (.inr ⟨rfl, o3 k hk⟩)
  refine ⟨fun i j k hi hj h1 h2 => ?_, fun j hj h1 => ?_⟩
  · have := hall i hi k h1
    have := hall j hj k h2
    omega
  · have := hall j hj g h1
    omega
theorem three_ap {w W : World} {A1 A2 A3 : Option Addr} {c1 c2 c3 : Nat} {x1 x2 x3 : List S52} {b1 b2 b3 : Nat} {K1 K2 K3 : Nat → Prop} (hB : Below w.heap.size w W) (h1 : w.heap.size ≤ b1) (h2 : w.heap.size ≤ b2) (h3 : w.heap.size ≤ b3)
    (R1 : Kd.R k52 52 W b1 K1 (.slice A1 x1.length c1) x1) (R2 : Kd.R k52 52 W b2 K2 (.slice A2 x2.length c2) x2) (R3 : Kd.R k52 52 W b3 K3 (.slice A3 x3.length c3) x3) :
    Ap k52 52 w (W.alloc (.cells #[.slice A1 x1.length c1, .slice A2 x2.length c2, .slice A3 x3.length c3] 36)) (W.alloc (.cells #[.slice A1 x1.length c1, .slice A2 x2.length c2, .slice A3 x3.length c3] 36)) w.heap.size W.heap.size 3 (three (.slice A1 x1.length c1) (.slice A2 x2.length c2) (.slice A3 x3.length c3)) (three x1 x2 x3) := by
  have hb := blk_new W (.cells #[.slice A1 x1.length c1, .slice A2 x2.length c2, .slice A3 x3.length c3] 36)
  have go : ∀ {v : Value} {x : List S52} {b : Nat} {K : Nat → Prop}, w.heap.size ≤ b → Kd.R k52 52 W b K v x → ∀ o, Kd.R k52 52 (W.alloc o) w.heap.size (fun k => v.ownBlock = some k) v x := fun hb h o => Kd.R_mono (Kd.R_tight rfl (Kd.R_lower (Kd.R_alloc h o) hb)) (fun k hk => hk.symm)
  refine ⟨fun j hj => ?_, fun j hj => ?_, ⟨below_alloc hB _, Kept.refl _ _⟩⟩
  · rcases show j = 0 ∨ j = 1 ∨ j = 2 by omega with rfl | rfl | rfl <;> exact (blk_cell hb _).trans rfl
  · rcases show j = 0 ∨ j = 1 ∨ j = 2 by omega with rfl | rfl | rfl
    · exact go h1 R1 _
    · exact go h2 R2 _
    · exact go h3 R3 _
set_option maxHeartbeats 8000000 in
set_option maxRecDepth 100000 in
theorem pairs_walk (hk1 : (1 : Int) ∈ SS) (hk2 : (2 : Int) ∈ SS) (hk3 : (3 : Int) ∈ SS) (hk4 : (4 : Int) ∈ SS) (hk5 : (5 : Int) ∈ SS) (hk6 : (6 : Int) ∈ SS) (hk7 : (7 : Int) ∈ SS) (hk8 : (8 : Int) ∈ SS) (hk9 : (9 : Int) ∈ SS) (hk10 : (10 : Int) ∈ SS) (hk11 : (11 : Int) ∈ SS) (hk12 : (12 : Int) ∈ SS) (hk13 : (13 : Int) ∈ SS)
    {k : Nat} {s : ByteArray} {l m : List S52} {e : Option Int} {f : Int} (O : PairsOk k s l m e f) (w : World) (hE : Sent EA SS w) :
    Calls Tryd.prog 10 #[.string s] w fun e w' => e = .returned (.bool true) ∧ Below w.heap.size w w' := by
  replace O := Lib.hid O
  replace hE := Lib.hid hE
  go_enter Tryd.func10, Tryd.ntmps10
  go_wp2_with fail
  with_reducible refine (pct_Pairs.calls hk2 hk3 k s l e _ hE.out O.out.h1).mono ?_
  rintro _ w1 ⟨v1, rfl, R1, b1⟩
  have o1 := Lib.hid (show ∀ k, v1.ownBlock = some k → w.heap.size ≤ k ∧ k < w1.heap.size from fun k hk => ⟨Kd.R_base R1 k hk, Kd.R_lt R1 k hk⟩)
  have s1 := b1.size
  replace R1 := Lib.hid R1
  replace b1 := Lib.hid b1
  go_wp2_with fail
  with_reducible refine (pct_Pairs.calls hk2 hk3 k a1b2 twoL none _ (hE.out.below b1.out) O.out.h2).mono ?_
  simp only [errW_none]
  rintro _ w2 ⟨v2, rfl, R2, b2⟩
  have o2 := Lib.hid (show ∀ k, v2.ownBlock = some k → w1.heap.size ≤ k ∧ k < w2.heap.size from fun k hk => ⟨Kd.R_base R2 k hk, Kd.R_lt R2 k hk⟩)
  have s2 := b2.size
  replace R1 := Lib.hid (Kd.R_below R1.out b2)
  replace R2 := Lib.hid R2
  replace b2 := Lib.hid (below_then b1.out s1 b2)
  clear b1
  go_wp2_with fail
  with_reducible refine (pct_Pairs.calls hk2 hk3 k s l e _ (hE.out.below b2.out) O.out.h1).mono ?_
  rintro _ w3 ⟨v3, rfl, R3, b3⟩
  have o3 := Lib.hid (show ∀ k, v3.ownBlock = some k → w2.heap.size ≤ k ∧ k < w3.heap.size from fun k hk => ⟨Kd.R_base R3 k hk, Kd.R_lt R3 k hk⟩)
  have s3 := b3.size
  replace R1 := Lib.hid (Kd.R_below R1.out b3)
  replace R2 := Lib.hid (Kd.R_below R2.out b3)
  replace R3 := Lib.hid R3
  replace b3 := Lib.hid (below_then b2.out (Nat.le_trans s1 s2) b3)
  clear b2
  go_wp2_with fail
  with_reducible refine (usherref3_Pairs.calls k s m f _ O.out.h3).mono ?_
  rintro _ w4 ⟨v4, rfl, R4, b4⟩
  have o4 := Lib.hid (show ∀ k, v4.ownBlock = some k → w3.heap.size ≤ k ∧ k < w4.heap.size from fun k hk => ⟨Kd.R_base R4 k hk, Kd.R_lt R4 k hk⟩)
  have s4 := b4.size
  replace R1 := Lib.hid (Kd.R_below R1.out b4)
  replace R2 := Lib.hid (Kd.R_below R2.out b4)
  replace R3 := Lib.hid (Kd.R_below R3.out b4)
  replace R4 := Lib.hid R4
  replace b4 := Lib.hid (below_then b3.out (Nat.le_trans s1 (Nat.le_trans s2 s3)) b4)
  clear b3
  go_wp2_with fail
  with_reducible refine (usherkit_Num.calls hk1 hk2 hk3 hk4 hk5 hk6 hk7 hk8 hk9 hk10 hk11 hk12 hk13 e f _ (hE.out.below b4.out) O.out.h4).mono ?_
  rintro _ w5 ⟨rfl, d5⟩
  replace d5 := d5.below
  have s5 := d5.size
  obtain ⟨A1, c1, e1⟩ := Kd.R_slice R1.out
  obtain ⟨A2, c2, e2⟩ := Kd.R_slice R2.out
  obtain ⟨A3, c3, e3⟩ := Kd.R_slice R3.out
  obtain ⟨A4, c4, e4⟩ := Kd.R_slice R4.out
  subst e1 e2 e3 e4
  have t4 := Nat.le_trans s1 (Nat.le_trans s2 (Nat.le_trans s3 s4))
  replace R1 := Lib.hid (Kd.R_below R1.out d5)
  replace R2 := Lib.hid (Kd.R_below R2.out d5)
  replace R3 := Lib.hid (Kd.R_below R3.out d5)
  replace R4 := Lib.hid (Kd.R_below R4.out d5)
  replace b5 := Lib.hid (below_then b4.out t4 d5)
  have t5 := Nat.le_trans t4 s5
  clear b4 d5
  have hff : (f != f) = false := by simp
  go_wp2_with fail
  with_reducible refine (usherkit_Num.calls hk1 hk2 hk3 hk4 hk5 hk6 hk7 hk8 hk9 hk10 hk11 hk12 hk13 e f _ (hE.out.below b5.out) O.out.h4).mono ?_
  rintro _ w6 ⟨rfl, d6⟩
  replace d6 := d6.below
  have s6 := d6.size
  replace R1 := Lib.hid (Kd.R_below R1.out d6)
  replace R2 := Lib.hid (Kd.R_below R2.out d6)
  replace R3 := Lib.hid (Kd.R_below R3.out d6)
  replace R4 := Lib.hid (Kd.R_below R4.out d6)
  replace b6 := Lib.hid (below_then b5.out t5 d6)
  have t6 := Nat.le_trans t5 s6
  clear b5 d6
  go_wp2_with fail
  with_reducible refine (usherref0_SamePairs.calls k A1 c1 l A4 c4 m true _ (Kd.R_reads' R1.out).2.2 (Kd.R_reads' R1.out).2.1 (Kd.R_reads' R4.out).2.2 (Kd.R_reads' R4.out).2.1 O.out.h5).mono ?_
  rintro _ w7 ⟨rfl, d7⟩
  replace d7 := d7.below
  have s7 := d7.size
  replace R1 := Lib.hid (Kd.R_below R1.out d7)
  replace R2 := Lib.hid (Kd.R_below R2.out d7)
  replace R3 := Lib.hid (Kd.R_below R3.out d7)
  replace R4 := Lib.hid (Kd.R_below R4.out d7)
  replace b7 := Lib.hid (below_then b6.out t6 d7)
  have t7 := Nat.le_trans t6 s7
  clear b6 d7
  go_wp2_with fail
  with_reducible refine (usherref0_SamePairs.calls k A3 c3 l A4 c4 m true _ (Kd.R_reads' R3.out).2.2 (Kd.R_reads' R3.out).2.1 (Kd.R_reads' R4.out).2.2 (Kd.R_reads' R4.out).2.1 O.out.h5).mono ?_
  rintro _ w8 ⟨rfl, d8⟩
  replace d8 := d8.below
  have s8 := d8.size
  replace R1 := Lib.hid (Kd.R_below R1.out d8)
  replace R2 := Lib.hid (Kd.R_below R2.out d8)
  replace R3 := Lib.hid (Kd.R_below R3.out d8)
  replace R4 := Lib.hid (Kd.R_below R4.out d8)
  replace b8 := Lib.hid (below_then b7.out t7 d8)
  have t8 := Nat.le_trans t7 s8
  clear b7 d8
  go_wp2_with fail
  with_reducible refine (usherlaw3_two.calls twoL _ rfl).mono ?_
  rintro _ w9 ⟨v9, rfl, R9, d9⟩
  have s9 := d9.size
  obtain ⟨A9, c9, e9⟩ := Kd.R_slice R9
  subst e9
  replace R9 := Lib.hid R9
  replace R1 := Lib.hid (Kd.R_below R1.out d9)
  replace R2 := Lib.hid (Kd.R_below R2.out d9)
  replace R3 := Lib.hid (Kd.R_below R3.out d9)
  replace R4 := Lib.hid (Kd.R_below R4.out d9)
  replace b9 := Lib.hid (below_then b8.out t8 d9)
  have t9 := Nat.le_trans t8 s9
  clear b8 d9
  go_wp2_with fail
  with_reducible refine (usherref0_SamePairs.calls k A2 c2 twoL A9 c9 twoL true _ (Kd.R_reads' R2.out).2.2 (Kd.R_reads' R2.out).2.1 (Kd.R_reads' R9.out).2.2 (Kd.R_reads' R9.out).2.1 O.out.h6).mono ?_
  rintro _ w10 ⟨rfl, d10⟩
  replace d10 := d10.below
  have s10 := d10.size
  replace R1 := Lib.hid (Kd.R_below R1.out d10)
  replace R2 := Lib.hid (Kd.R_below R2.out d10)
  replace R3 := Lib.hid (Kd.R_below R3.out d10)
  replace R4 := Lib.hid (Kd.R_below R4.out d10)
  replace b10 := Lib.hid (below_then b9.out t9 d10)
  have t10 := Nat.le_trans t9 s10
  clear b9 d10 R9
  have HA := Lib.hid (three_ap b10.out (Nat.le_refl _) s1 (Nat.le_trans s1 s2) R1.out R2.out R3.out)
  have HS := Lib.hid (three_sep (g := w10.heap.size) o1.out o2.out o3.out s1 s2 s3 (by omega))
  have R4' := Lib.hid (Kd.R_alloc (Kd.R_tight rfl R4.out) (.cells #[.slice A1 l.length c1, .slice A2 twoL.length c2, .slice A3 l.length c3] 36))
  have hlen := O.out.hl
  clear R1 R2 R3 R4
  go_wp2_with fail
  with_reducible refine (apart_calls w10.heap.size 3 (three (.slice A1 l.length c1) (.slice A2 twoL.length c2) (.slice A3 l.length c3)) (three l.length twoL.length l.length) (three l twoL l) w _ _ HA.out HS.out ?n1 ?n2 (by decide) ?n3).mono ?_
  case n1 => intro j hj; rcases show j = 0 ∨ j = 1 ∨ j = 2 by omega with rfl | rfl | rfl <;> rfl
  case n2 => exact Nat.le_trans t10 (by simp)
  case n3 => intro j hj; rcases show j = 0 ∨ j = 1 ∨ j = 2 by omega with rfl | rfl | rfl <;> first | exact hlen | exact (show twoL.length ≤ 1000 by decide)
  rintro _ w11 ⟨rfl, FR⟩
  have R5 := Lib.hid (Kd.R_kept R4'.out FR.k (fun k hk hs => by
    obtain ⟨j, hj, hs⟩ := hs
    have q4 := o4.out k hk.symm
    rcases show j = 0 ∨ j = 1 ∨ j = 2 by omega with rfl | rfl | rfl
    · have := o1.out k hs; omega
    · have := o2.out k hs; omega
    · have := o3.out k hs; omega))
  have b11 := Lib.hid FR.b
  have t11 := FR.b.size
  clear FR HA HS R4' b10
  go_wp2_with fail
  with_reducible refine (pct_Pairs.calls hk2 hk3 k s l e _ (hE.out.below b11.out) O.out.h1).mono ?_
  rintro _ w12 ⟨v12, rfl, R12, b12⟩
  obtain ⟨A12, c12, e12⟩ := Kd.R_slice R12
  subst e12
  have s12 := b12.size
  replace R12 := Lib.hid R12
  replace R5 := Lib.hid (Kd.R_below R5.out b12)
  replace b12 := Lib.hid (below_then b11.out t11 b12)
  have t12 := Nat.le_trans t11 s12
  have hff2 : (f == f) = true := by simp
  clear b11
  go_wp2_with fail
  with_reducible refine (usherkit_Num.calls hk1 hk2 hk3 hk4 hk5 hk6 hk7 hk8 hk9 hk10 hk11 hk12 hk13 e f _ (hE.out.below b12.out) O.out.h4).mono ?_
  rintro _ w13 ⟨rfl, d13⟩
  replace d13 := d13.below
  have s13 := d13.size
  replace R12 := Lib.hid (Kd.R_below R12.out d13)
  replace R5 := Lib.hid (Kd.R_below R5.out d13)
  replace b13 := Lib.hid (below_then b12.out t12 d13)
  have t13 := Nat.le_trans t12 s13
  clear b12 d13
  go_wp2_with fail
  with_reducible refine (usherref0_SamePairs.calls k A12 c12 l A4 c4 m true _ (Kd.R_reads' R12.out).2.2 (Kd.R_reads' R12.out).2.1 (Kd.R_reads' R5.out).2.2 (Kd.R_reads' R5.out).2.1 O.out.h5).mono ?_
  rintro _ w14 ⟨rfl, d14⟩
  replace d14 := d14.below
  have b14 := Lib.hid (below_then b13.out t13 d14)
  clear R12 R5 b13 d14
  go_wp2
  go_ret
  exact ⟨rfl, b14.out⟩
open Classical in
noncomputable def usherlaw3_PctPairs.f (k : Nat) (a0 : ByteArray) : Option Bool := if ∃ l m e f, PairsOk k a0 l m e f then some true else none
theorem usherlaw3_PctPairs.calls (hk1 : (1 : Int) ∈ SS) (hk2 : (2 : Int) ∈ SS) (hk3 : (3 : Int) ∈ SS) (hk4 : (4 : Int) ∈ SS) (hk5 : (5 : Int) ∈ SS) (hk6 : (6 : Int) ∈ SS) (hk7 : (7 : Int) ∈ SS) (hk8 : (8 : Int) ∈ SS) (hk9 : (9 : Int) ∈ SS) (hk10 : (10 : Int) ∈ SS) (hk11 : (11 : Int) ∈ SS) (hk12 : (12 : Int) ∈ SS) (hk13 : (13 : Int) ∈ SS) (k : Nat) (a0 : ByteArray) (r : Bool) (w : World) (hE : Sent EA SS w) (h : usherlaw3_PctPairs.f k a0 = some r) :
    Calls Tryd.prog 10 #[.string a0] w fun e w' => e = .returned (.bool r) ∧ Below w.heap.size w w' := by
  unfold usherlaw3_PctPairs.f at h
  split at h
  case isFalse => cases h
  case isTrue hh =>
    obtain rfl := Option.some.inj h
    obtain ⟨l, m, e, f, O⟩ := hh
    exact pairs_walk hk1 hk2 hk3 hk4 hk5 hk6 hk7 hk8 hk9 hk10 hk11 hk12 hk13 O w hE
end Go.Proofs.YtlnjomhmffdfnaaDoor.X
