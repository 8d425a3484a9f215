-- Printed by a program of this session (wip/xprint), not by the kit's print.
import Derived.Test.YtopfmcgmfnmikaaDoorXRedirect
import Derived.Test.YtopfmcgmfnmikaaDoorXx0
import Derived.Test.YtopfmcgmfnmikaaDoorXx7
namespace Go.Proofs.YtopfmcgmfnmikaaDoor.X
open Go.RowKit Go.Proofs.YtopfmcgmfnmikaaDoorW.PrintWords Go.Proofs.YtopfmcgmfnmikaaDoorW.PrintLast Go.Proofs.YtopfmcgmfnmikaaDoorW.PrintMore
attribute [local go_sem] max2_int min2_int max_two min_two max_three min_three max_four min_four   -- for this text's walks alone
set_option linter.unusedVariables false
set_option linter.unusedSimpArgs false
open Go.Proofs.YtopfmcgmfnmikaaDoor
attribute [local go_sem] ErrBlk_alloc ErrBlk_drew ErrBlk_drewN errs_eql errs_neq nil_errs_eql nil_errs_neq
variable {EA : Int → Addr} {SS : List Int}

/-! ### usherlaw9_TermsRedirectSafe: function 4 -/
mutual
def usherlaw9_TermsRedirectSafe.j0 : Nat → ByteArray → Bool → Option (Bool)
  | 0, _, _ => none
  | k + 1, x0, x19 => if x19 = true then (some false) else ((terms_Redirect.f k x0).bind fun t181 => (if t181 = true then (usherlaw9_TermsRedirectSafe.l0 k x0 0) else (some true)))
def usherlaw9_TermsRedirectSafe.l0 : Nat → ByteArray → Int → Option (Bool)
  | 0, _, _ => none
  | k + 1, x0, x3 => if x3 < (x0.size : Int) then (if 0 ≤ x3 then (if (bt x0 x3) ≤ 32 then (some false) else (if (bt x0 x3) ≥ 127 then (some false) else (if (bt x0 x3) = 35 then (some false) else (if (bt x0 x3) = 34 then (some false) else (if (bt x0 x3) = 60 then (some false) else (if (bt x0 x3) = 62 then (some false) else (if (bt x0 x3) = 92 then (some false) else (usherlaw9_TermsRedirectSafe.l0 k x0 (wrap64 (x3 + 1)))))))))) else (none)) else (if (x0.size : Int) > 512 then (usherlaw9_TermsRedirectSafe.j2 k x0 true) else (usherlaw9_TermsRedirectSafe.j2 k x0 (x0.toList == ([] : List UInt8))))
def usherlaw9_TermsRedirectSafe.j2 : Nat → ByteArray → Bool → Option (Bool)
  | 0, _, _ => none
  | k + 1, x0, x64 => if x64 = true then (some false) else ((usherlaw9_head.f x0 (⟨#[104, 116, 116, 112, 58, 47, 47]⟩ : ByteArray)).bind fun t182 => (if t182 = true then (if 7 ≤ (x0.size : Int) then ((usherlaw9_head.f (x0.extract 7 x0.size) (⟨#[108, 111, 99, 97, 108, 104, 111, 115, 116]⟩ : ByteArray)).bind fun t183 => (if t183 = true then ((usherlaw9_ends.f (x0.extract 7 x0.size) 9).bind fun t184 => (if t184 = true then (some true) else ((usherlaw9_head.f (x0.extract 7 x0.size) (⟨#[49, 50, 55, 46, 48, 46, 48, 46, 49]⟩ : ByteArray)).bind fun t185 => (if t185 = true then ((usherlaw9_ends.f (x0.extract 7 x0.size) 9).bind fun t186 => (if t186 = true then (some true) else ((usherlaw9_head.f (x0.extract 7 x0.size) (⟨#[91, 58, 58, 49, 93]⟩ : ByteArray)).bind fun t187 => (if t187 = true then ((usherlaw9_ends.f (x0.extract 7 x0.size) 5).bind fun t188 => (some t188)) else (some false))))) else ((usherlaw9_head.f (x0.extract 7 x0.size) (⟨#[91, 58, 58, 49, 93]⟩ : ByteArray)).bind fun t189 => (if t189 = true then ((usherlaw9_ends.f (x0.extract 7 x0.size) 5).bind fun t190 => (some t190)) else (some false))))))) else ((usherlaw9_head.f (x0.extract 7 x0.size) (⟨#[49, 50, 55, 46, 48, 46, 48, 46, 49]⟩ : ByteArray)).bind fun t191 => (if t191 = true then ((usherlaw9_ends.f (x0.extract 7 x0.size) 9).bind fun t192 => (if t192 = true then (some true) else ((usherlaw9_head.f (x0.extract 7 x0.size) (⟨#[91, 58, 58, 49, 93]⟩ : ByteArray)).bind fun t193 => (if t193 = true then ((usherlaw9_ends.f (x0.extract 7 x0.size) 5).bind fun t194 => (some t194)) else (some false))))) else ((usherlaw9_head.f (x0.extract 7 x0.size) (⟨#[91, 58, 58, 49, 93]⟩ : ByteArray)).bind fun t195 => (if t195 = true then ((usherlaw9_ends.f (x0.extract 7 x0.size) 5).bind fun t196 => (some t196)) else (some false))))))) else (none)) else ((usherlaw9_head.f x0 (⟨#[104, 116, 116, 112, 115, 58, 47, 47]⟩ : ByteArray)).bind fun t197 => (if t197 = true then (usherlaw9_TermsRedirectSafe.l1 k x0 8) else (usherlaw9_TermsRedirectSafe.l2 k x0 false 0)))))
def usherlaw9_TermsRedirectSafe.l1 : Nat → ByteArray → Int → Option (Bool)
  | 0, _, _ => none
  | k + 1, x0, x7 => if x7 < (x0.size : Int) then (if 0 ≤ x7 then (if (bt x0 x7) = 47 then (usherlaw9_TermsRedirectSafe.j4 k x0 x7 false) else (usherlaw9_TermsRedirectSafe.j4 k x0 x7 ((bt x0 x7) != 63))) else (none)) else (usherlaw9_TermsRedirectSafe.j4 k x0 x7 false)
def usherlaw9_TermsRedirectSafe.j4 : Nat → ByteArray → Int → Bool → Option (Bool)
  | 0, _, _, _ => none
  | k + 1, x0, x7, x109 => if x109 = true then (if 0 ≤ x7 then (if x7 < (x0.size : Int) then (if (bt x0 x7) = 64 then (some false) else (usherlaw9_TermsRedirectSafe.l1 k x0 (wrap64 (x7 + 1)))) else (none)) else (none)) else (some true)
def usherlaw9_TermsRedirectSafe.l2 : Nat → ByteArray → Bool → Int → Option (Bool)
  | 0, _, _, _ => none
  | k + 1, x0, x8, x9 => if (wrap64 (x9 + 1)) < (x0.size : Int) then (if 0 ≤ x9 then (if x9 < (x0.size : Int) then (if (bt x0 x9) = 58 then (if x8 = true then (if 0 ≤ (wrap64 (x9 + 1)) then (if (bt x0 (wrap64 (x9 + 1))) = 47 then (if (wrap64 (x9 + 2)) ≥ (x0.size : Int) then (some true) else (if 0 ≤ (wrap64 (x9 + 2)) then (if (wrap64 (x9 + 2)) < (x0.size : Int) then (some ((bt x0 (wrap64 (x9 + 2))) != 47)) else (none)) else (none))) else (some false)) else (none)) else (some false)) else (if x8 = true then (usherlaw9_TermsRedirectSafe.l2 k x0 true (wrap64 (x9 + 1))) else (usherlaw9_TermsRedirectSafe.l2 k x0 ((bt x0 x9) == 46) (wrap64 (x9 + 1))))) else (none)) else (none)) else (some false)
end
def usherlaw9_TermsRedirectSafe.f (k : Nat) (a0 : ByteArray) : Option (Bool) := (terms_Redirect.f k (⟨#[104, 116, 116, 112, 115, 58, 47, 47, 97, 112, 112, 46, 101, 120, 97, 109, 112, 108, 101, 47, 99, 98]⟩ : ByteArray)).bind fun t178 => (if t178 = true then ((terms_Redirect.f k (⟨#[104, 116, 116, 112, 58, 47, 47, 108, 111, 99, 97, 108, 104, 111, 115, 116, 58, 56, 48, 56, 48, 47, 99, 98]⟩ : ByteArray)).bind fun t179 => (if t179 = true then ((terms_Redirect.f k (⟨#[99, 111, 109, 46, 101, 120, 97, 109, 112, 108, 101, 46, 97, 112, 112, 58, 47, 99, 98]⟩ : ByteArray)).bind fun t180 => (usherlaw9_TermsRedirectSafe.j0 k a0 (!t180))) else (usherlaw9_TermsRedirectSafe.j0 k a0 true))) else (usherlaw9_TermsRedirectSafe.j0 k a0 true))
theorem usherlaw9_TermsRedirectSafe.mono_l : ∀ k, (∀ y0 y1, LeO (usherlaw9_TermsRedirectSafe.j0 k y0 y1) (usherlaw9_TermsRedirectSafe.j0 (k + 1) y0 y1)) ∧ (∀ y0 y1, LeO (usherlaw9_TermsRedirectSafe.l0 k y0 y1) (usherlaw9_TermsRedirectSafe.l0 (k + 1) y0 y1)) ∧ (∀ y0 y1, LeO (usherlaw9_TermsRedirectSafe.j2 k y0 y1) (usherlaw9_TermsRedirectSafe.j2 (k + 1) y0 y1)) ∧ (∀ y0 y1, LeO (usherlaw9_TermsRedirectSafe.l1 k y0 y1) (usherlaw9_TermsRedirectSafe.l1 (k + 1) y0 y1)) ∧ (∀ y0 y1 y2, LeO (usherlaw9_TermsRedirectSafe.j4 k y0 y1 y2) (usherlaw9_TermsRedirectSafe.j4 (k + 1) y0 y1 y2)) ∧ (∀ y0 y1 y2, LeO (usherlaw9_TermsRedirectSafe.l2 k y0 y1 y2) (usherlaw9_TermsRedirectSafe.l2 (k + 1) y0 y1 y2))
  | 0 => ⟨fun _ _ r h => by simp [usherlaw9_TermsRedirectSafe.j0] at h, fun _ _ r h => by simp [usherlaw9_TermsRedirectSafe.l0] at h, fun _ _ r h => by simp [usherlaw9_TermsRedirectSafe.j2] at h, fun _ _ r h => by simp [usherlaw9_TermsRedirectSafe.l1] at h, fun _ _ _ r h => by simp [usherlaw9_TermsRedirectSafe.j4] at h, fun _ _ _ r h => by simp [usherlaw9_TermsRedirectSafe.l2] at h⟩
  | k + 1 => by
    obtain ⟨ih0, ih1, ih2, ih3, ih4, ih5⟩ := usherlaw9_TermsRedirectSafe.mono_l k
    refine ⟨?_, ?_, ?_, ?_, ?_, ?_⟩
    · intro y0 y1
      unfold usherlaw9_TermsRedirectSafe.j0
      repeat' first
      | (with_reducible exact ih0 _ _)
      | (with_reducible exact ih1 _ _)
      | (with_reducible exact ih2 _ _)
      | (with_reducible exact ih3 _ _)
      | (with_reducible exact ih4 _ _ _)
      | (with_reducible exact ih5 _ _ _)
      | (with_reducible exact terms_Redirect.mono _ _)
      | (with_reducible exact LeO.refl _)
      | (with_reducible exact LeO.none _)
      | (with_reducible refine LeO.ite ?_ ?_)
      | (with_reducible refine LeO.bind ?_ (fun _ => ?_))
      | exact ih0 _ _
      | exact ih1 _ _
      | exact ih2 _ _
      | exact ih3 _ _
      | exact ih4 _ _ _
      | exact ih5 _ _ _
      | exact terms_Redirect.mono _ _
      | exact LeO.none _
      | refine LeO.ite ?_ ?_
      | refine LeO.bind ?_ (fun _ => ?_)
    · intro y0 y1
      unfold usherlaw9_TermsRedirectSafe.l0
      repeat' first
      | (with_reducible exact ih0 _ _)
      | (with_reducible exact ih1 _ _)
      | (with_reducible exact ih2 _ _)
      | (with_reducible exact ih3 _ _)
      | (with_reducible exact ih4 _ _ _)
      | (with_reducible exact ih5 _ _ _)
      | (with_reducible exact terms_Redirect.mono _ _)
      | (with_reducible exact LeO.refl _)
      | (with_reducible exact LeO.none _)
      | (with_reducible refine LeO.ite ?_ ?_)
      | (with_reducible refine LeO.bind ?_ (fun _ => ?_))
      | exact ih0 _ _
      | exact ih1 _ _
      | exact ih2 _ _
      | exact ih3 _ _
      | exact ih4 _ _ _
      | exact ih5 _ _ _
      | exact terms_Redirect.mono _ _
      | exact LeO.none _
      | refine LeO.ite ?_ ?_
      | refine LeO.bind ?_ (fun _ => ?_)
    · intro y0 y1
      unfold usherlaw9_TermsRedirectSafe.j2
      repeat' first
      | (with_reducible exact ih0 _ _)
      | (with_reducible exact ih1 _ _)
      | (with_reducible exact ih2 _ _)
      | (with_reducible exact ih3 _ _)
      | (with_reducible exact ih4 _ _ _)
      | (with_reducible exact ih5 _ _ _)
      | (with_reducible exact terms_Redirect.mono _ _)
      | (with_reducible exact LeO.refl _)
      | (with_reducible exact LeO.none _)
      | (with_reducible refine LeO.ite ?_ ?_)
      | (with_reducible refine LeO.bind ?_ (fun _ => ?_))
      | exact ih0 _ _
      | exact ih1 _ _
      | exact ih2 _ _
      | exact ih3 _ _
      | exact ih4 _ _ _
      | exact ih5 _ _ _
      | exact terms_Redirect.mono _ _
      | exact LeO.none _
      | refine LeO.ite ?_ ?_
      | refine LeO.bind ?_ (fun _ => ?_)
    · intro y0 y1
      unfold usherlaw9_TermsRedirectSafe.l1
      repeat' first
      | (with_reducible exact ih0 _ _)
      | (with_reducible exact ih1 _ _)
      | (with_reducible exact ih2 _ _)
      | (with_reducible exact ih3 _ _)
      | (with_reducible exact ih4 _ _ _)
      | (with_reducible exact ih5 _ _ _)
      | (with_reducible exact terms_Redirect.mono _ _)
      | (with_reducible exact LeO.refl _)
      | (with_reducible exact LeO.none _)
      | (with_reducible refine LeO.ite ?_ ?_)
      | (with_reducible refine LeO.bind ?_ (fun _ => ?_))
      | exact ih0 _ _
      | exact ih1 _ _
      | exact ih2 _ _
      | exact ih3 _ _
      | exact ih4 _ _ _
      | exact ih5 _ _ _
      | exact terms_Redirect.mono _ _
      | exact LeO.none _
      | refine LeO.ite ?_ ?_
      | refine LeO.bind ?_ (fun _ => ?_)
    · intro y0 y1 y2
      unfold usherlaw9_TermsRedirectSafe.j4
      repeat' first
      | (with_reducible exact ih0 _ _)
      | (with_reducible exact ih1 _ _)
      | (with_reducible exact ih2 _ _)
      | (with_reducible exact ih3 _ _)
      | (with_reducible exact ih4 _ _ _)
      | (with_reducible exact ih5 _ _ _)
      | (with_reducible exact terms_Redirect.mono _ _)
      | (with_reducible exact LeO.refl _)
      | (with_reducible exact LeO.none _)
      | (with_reducible refine LeO.ite ?_ ?_)
      | (with_reducible refine LeO.bind ?_ (fun _ => ?_))
      | exact ih0 _ _
      | exact ih1 _ _
      | exact ih2 _ _
      | exact ih3 _ _
      | exact ih4 _ _ _
      | exact ih5 _ _ _
      | exact terms_Redirect.mono _ _
      | exact LeO.none _
      | refine LeO.ite ?_ ?_
      | refine LeO.bind ?_ (fun _ => ?_)
    · intro y0 y1 y2
      unfold usherlaw9_TermsRedirectSafe.l2
      repeat' first
      | (with_reducible exact ih0 _ _)
      | (with_reducible exact ih1 _ _)
      | (with_reducible exact ih2 _ _)
      | (with_reducible exact ih3 _ _)
      | (with_reducible exact ih4 _ _ _)
      | (with_reducible exact ih5 _ _ _)
      | (with_reducible exact terms_Redirect.mono _ _)
      | (with_reducible exact LeO.refl _)
      | (with_reducible exact LeO.none _)
      | (with_reducible refine LeO.ite ?_ ?_)
      | (with_reducible refine LeO.bind ?_ (fun _ => ?_))
      | exact ih0 _ _
      | exact ih1 _ _
      | exact ih2 _ _
      | exact ih3 _ _
      | exact ih4 _ _ _
      | exact ih5 _ _ _
      | exact terms_Redirect.mono _ _
      | exact LeO.none _
      | refine LeO.ite ?_ ?_
      | refine LeO.bind ?_ (fun _ => ?_)
theorem usherlaw9_TermsRedirectSafe.mono : ∀ a0 k, LeO (usherlaw9_TermsRedirectSafe.f k a0) (usherlaw9_TermsRedirectSafe.f (k + 1) a0) := by
  intro a0 k
  obtain ⟨ih0, ih1, ih2, ih3, ih4, ih5⟩ := usherlaw9_TermsRedirectSafe.mono_l k
  unfold usherlaw9_TermsRedirectSafe.f
  repeat' first
      | (with_reducible exact ih0 _ _)
      | (with_reducible exact ih1 _ _)
      | (with_reducible exact ih2 _ _)
      | (with_reducible exact ih3 _ _)
      | (with_reducible exact ih4 _ _ _)
      | (with_reducible exact ih5 _ _ _)
      | (with_reducible exact terms_Redirect.mono _ _)
      | (with_reducible exact LeO.refl _)
      | (with_reducible exact LeO.none _)
      | (with_reducible refine LeO.ite ?_ ?_)
      | (with_reducible refine LeO.bind ?_ (fun _ => ?_))
      | exact ih0 _ _
      | exact ih1 _ _
      | exact ih2 _ _
      | exact ih3 _ _
      | exact ih4 _ _ _
      | exact ih5 _ _ _
      | exact terms_Redirect.mono _ _
      | exact LeO.none _
      | refine LeO.ite ?_ ?_
      | refine LeO.bind ?_ (fun _ => ?_)
set_option maxHeartbeats 8000000 in
set_option maxRecDepth 100000 in
theorem usherlaw9_TermsRedirectSafe.calls (hk103 : (103 : Int) ∈ SS) (k : Nat) (a0 : ByteArray) (r : Bool) (w : World) (hE : Sent EA SS w) (h : usherlaw9_TermsRedirectSafe.f k a0 = some r) :
    Calls Tryd.prog 4 #[.string a0] w fun e w' => e = .returned (.bool r) ∧ Below w.heap.size w w' := by
  have HE := Aside0.mk hE
  clear hE
  have HB := Aside0.mk (Below.refl w.heap.size w)
  have H : ((terms_Redirect.f k (⟨#[104, 116, 116, 112, 115, 58, 47, 47, 97, 112, 112, 46, 101, 120, 97, 109, 112, 108, 101, 47, 99, 98]⟩ : ByteArray)).bind fun t178 => (if t178 = true then ((terms_Redirect.f k (⟨#[104, 116, 116, 112, 58, 47, 47, 108, 111, 99, 97, 108, 104, 111, 115, 116, 58, 56, 48, 56, 48, 47, 99, 98]⟩ : ByteArray)).bind fun t179 => (if t179 = true then ((terms_Redirect.f k (⟨#[99, 111, 109, 46, 101, 120, 97, 109, 112, 108, 101, 46, 97, 112, 112, 58, 47, 99, 98]⟩ : ByteArray)).bind fun t180 => (usherlaw9_TermsRedirectSafe.j0 k a0 (!t180))) else (usherlaw9_TermsRedirectSafe.j0 k a0 true))) else (usherlaw9_TermsRedirectSafe.j0 k a0 true))) = some r := h
  clear h
  have HC2 := Aside0.mk H
  clear H
  go_enter Tryd.func4, Tryd.ntmps4
  go_upto_region 1 with (fail)
  go_cut [19] (fun v19 wc => ∃ (kq : Nat) (x19_1 : Bool), v19 = .bool x19_1 ∧ Aside0 (usherlaw9_TermsRedirectSafe.j0 kq a0 x19_1 = some r) ∧ Aside0 (kq ≤ k) ∧ Aside0 (Below w.heap.size w wc))
  case first =>
    have H := HC2.out
    clear HC2
    replace H := Option.bind_eq_some_iff.mp H
    obtain ⟨t178, A30, H⟩ := H
    replace H : (if t178 = true then ((terms_Redirect.f k (⟨#[104, 116, 116, 112, 58, 47, 47, 108, 111, 99, 97, 108, 104, 111, 115, 116, 58, 56, 48, 56, 48, 47, 99, 98]⟩ : ByteArray)).bind fun t179 => (if t179 = true then ((terms_Redirect.f k (⟨#[99, 111, 109, 46, 101, 120, 97, 109, 112, 108, 101, 46, 97, 112, 112, 58, 47, 99, 98]⟩ : ByteArray)).bind fun t180 => (usherlaw9_TermsRedirectSafe.j0 k a0 (!t180))) else (usherlaw9_TermsRedirectSafe.j0 k a0 true))) else (usherlaw9_TermsRedirectSafe.j0 k a0 true)) = some r := H
    have A3 := Aside0.mk A30
    clear A30
    by_cases c4 : t178 = true
    · subst c4
      have H1 : ((terms_Redirect.f k (⟨#[104, 116, 116, 112, 58, 47, 47, 108, 111, 99, 97, 108, 104, 111, 115, 116, 58, 56, 48, 56, 48, 47, 99, 98]⟩ : ByteArray)).bind fun t179 => (if t179 = true then ((terms_Redirect.f k (⟨#[99, 111, 109, 46, 101, 120, 97, 109, 112, 108, 101, 46, 97, 112, 112, 58, 47, 99, 98]⟩ : ByteArray)).bind fun t180 => (usherlaw9_TermsRedirectSafe.j0 k a0 (!t180))) else (usherlaw9_TermsRedirectSafe.j0 k a0 true))) = some r := by rw [if_pos rfl] at H; exact H
      clear H
      have H := H1
      clear H1
      replace H := Option.bind_eq_some_iff.mp H
      obtain ⟨t179, A50, H⟩ := H
      replace H : (if t179 = true then ((terms_Redirect.f k (⟨#[99, 111, 109, 46, 101, 120, 97, 109, 112, 108, 101, 46, 97, 112, 112, 58, 47, 99, 98]⟩ : ByteArray)).bind fun t180 => (usherlaw9_TermsRedirectSafe.j0 k a0 (!t180))) else (usherlaw9_TermsRedirectSafe.j0 k a0 true)) = some r := H
      have A5 := Aside0.mk A50
      clear A50
      by_cases c6 : t179 = true
      · subst c6
        have H1 : ((terms_Redirect.f k (⟨#[99, 111, 109, 46, 101, 120, 97, 109, 112, 108, 101, 46, 97, 112, 112, 58, 47, 99, 98]⟩ : ByteArray)).bind fun t180 => (usherlaw9_TermsRedirectSafe.j0 k a0 (!t180))) = some r := by rw [if_pos rfl] at H; exact H
        clear H
        have H := H1
        clear H1
        replace H := Option.bind_eq_some_iff.mp H
        obtain ⟨t180, A70, H⟩ := H
        replace H : (usherlaw9_TermsRedirectSafe.j0 k a0 (!t180)) = some r := H
        have A7 := Aside0.mk A70
        clear A70
        have H' := Aside0.mk H
        clear H
        go_wp2_with (first | ((with_reducible refine gate_callee (f := 11) rfl ?_); refine goesL_ (some 10) rfl rfl Tryd.func11 (by kernel_rfl) rfl #[.string (⟨#[104, 116, 116, 112, 115, 58, 47, 47, 97, 112, 112, 46, 101, 120, 97, 109, 112, 108, 101, 47, 99, 98]⟩ : ByteArray)] rfl (by (try simp only [List.map_toArray, List.map_cons, List.map_nil]); first | done | rfl | (simp only [List.length_drop, List.length_take]; rfl)) ?_; (with_reducible refine (terms_Redirect.calls (EA := EA) hk103 k (⟨#[104, 116, 116, 112, 115, 58, 47, 47, 97, 112, 112, 46, 101, 120, 97, 109, 112, 108, 101, 47, 99, 98]⟩ : ByteArray) true _ ?side1 A3.out).mono ?_); (case side1 => repeat (first | exact (Sent.below HE.out HB.out) | (with_reducible refine Sent.alloc ?_ _) | (with_reducible refine Sent.drewN ?_ _) | (with_reducible refine Sent.drew ?_))); rintro e w8 ⟨rfl, hb⟩; refine ⟨_, rfl, ?_⟩; have n0_ := Aside0.mk (below_step (by repeat (first | (with_reducible first | exact HB.out | apply below_alloc | apply pw_below_drewN | apply below_drew1) | exact HB.out)) hb); clear HB; have HB := n0_; clear n0_; (try clear hb); (try clear hb2); (try clear hk); (try clear hi)) | (go_at_call 11; (with_reducible refine (terms_Redirect.calls (EA := EA) hk103 k (⟨#[104, 116, 116, 112, 58, 47, 47, 108, 111, 99, 97, 108, 104, 111, 115, 116, 58, 56, 48, 56, 48, 47, 99, 98]⟩ : ByteArray) true _ ?side1 A5.out).mono ?_); (case side1 => repeat (first | exact (Sent.below HE.out HB.out) | (with_reducible refine Sent.alloc ?_ _) | (with_reducible refine Sent.drewN ?_ _) | (with_reducible refine Sent.drew ?_))); rintro e w9 ⟨rfl, hb⟩; have n0_ := Aside0.mk (below_step (by repeat (first | (with_reducible first | exact HB.out | apply below_alloc | apply pw_below_drewN | apply below_drew1) | exact HB.out)) hb); clear HB; have HB := n0_; clear n0_; (try clear hb); (try clear hb2); (try clear hk); (try clear hi)) | (go_at_call 11; (with_reducible refine (terms_Redirect.calls (EA := EA) hk103 k (⟨#[99, 111, 109, 46, 101, 120, 97, 109, 112, 108, 101, 46, 97, 112, 112, 58, 47, 99, 98]⟩ : ByteArray) t180 _ ?side1 A7.out).mono ?_); (case side1 => repeat (first | exact (Sent.below HE.out HB.out) | (with_reducible refine Sent.alloc ?_ _) | (with_reducible refine Sent.drewN ?_ _) | (with_reducible refine Sent.drew ?_))); rintro e w10 ⟨rfl, hb⟩; have n0_ := Aside0.mk (below_step (by repeat (first | (with_reducible first | exact HB.out | apply below_alloc | apply pw_below_drewN | apply below_drew1) | exact HB.out)) hb); clear HB; have HB := n0_; clear n0_; (try clear hb); (try clear hb2); (try clear hk); (try clear hi)))
        go_meet
        case rel => exact ⟨_, (!t180), (by first | rfl | (simp; done) | (simp [*]; done) | (simp [bne]; done)), H', ⟨by first | omega | exact Nat.le_refl _⟩, ⟨by repeat (first | (with_reducible first | exact HB.out | apply below_alloc | apply pw_below_drewN | apply below_drew1) | exact HB.out)⟩⟩
      · replace c6 := Bool.eq_false_iff.mpr c6
        subst c6
        have H1 : (usherlaw9_TermsRedirectSafe.j0 k a0 true) = some r := by rw [if_neg (show ¬ (false = true) by decide)] at H; exact H
        clear H
        have H := H1
        clear H1
        have H' := Aside0.mk H
        clear H
        go_wp2_with (first | ((with_reducible refine gate_callee (f := 11) rfl ?_); refine goesL_ (some 10) rfl rfl Tryd.func11 (by kernel_rfl) rfl #[.string (⟨#[104, 116, 116, 112, 115, 58, 47, 47, 97, 112, 112, 46, 101, 120, 97, 109, 112, 108, 101, 47, 99, 98]⟩ : ByteArray)] rfl (by (try simp only [List.map_toArray, List.map_cons, List.map_nil]); first | done | rfl | (simp only [List.length_drop, List.length_take]; rfl)) ?_; (with_reducible refine (terms_Redirect.calls (EA := EA) hk103 k (⟨#[104, 116, 116, 112, 115, 58, 47, 47, 97, 112, 112, 46, 101, 120, 97, 109, 112, 108, 101, 47, 99, 98]⟩ : ByteArray) true _ ?side1 A3.out).mono ?_); (case side1 => repeat (first | exact (Sent.below HE.out HB.out) | (with_reducible refine Sent.alloc ?_ _) | (with_reducible refine Sent.drewN ?_ _) | (with_reducible refine Sent.drew ?_))); rintro e w11 ⟨rfl, hb⟩; refine ⟨_, rfl, ?_⟩; have n0_ := Aside0.mk (below_step (by repeat (first | (with_reducible first | exact HB.out | apply below_alloc | apply pw_below_drewN | apply below_drew1) | exact HB.out)) hb); clear HB; have HB := n0_; clear n0_; (try clear hb); (try clear hb2); (try clear hk); (try clear hi)) | (go_at_call 11; (with_reducible refine (terms_Redirect.calls (EA := EA) hk103 k (⟨#[104, 116, 116, 112, 58, 47, 47, 108, 111, 99, 97, 108, 104, 111, 115, 116, 58, 56, 48, 56, 48, 47, 99, 98]⟩ : ByteArray) false _ ?side1 A5.out).mono ?_); (case side1 => repeat (first | exact (Sent.below HE.out HB.out) | (with_reducible refine Sent.alloc ?_ _) | (with_reducible refine Sent.drewN ?_ _) | (with_reducible refine Sent.drew ?_))); rintro e w12 ⟨rfl, hb⟩; have n0_ := Aside0.mk (below_step (by repeat (first | (with_reducible first | exact HB.out | apply below_alloc | apply pw_below_drewN | apply below_drew1) | exact HB.out)) hb); clear HB; have HB := n0_; clear n0_; (try clear hb); (try clear hb2); (try clear hk); (try clear hi)))
        go_meet
        case rel => exact ⟨_, (true), (by first | rfl | (simp; done) | (simp [*]; done) | (simp [bne]; done)), H', ⟨by first | omega | exact Nat.le_refl _⟩, ⟨by repeat (first | (with_reducible first | exact HB.out | apply below_alloc | apply pw_below_drewN | apply below_drew1) | exact HB.out)⟩⟩
    · replace c4 := Bool.eq_false_iff.mpr c4
      subst c4
      have H1 : (usherlaw9_TermsRedirectSafe.j0 k a0 true) = some r := by rw [if_neg (show ¬ (false = true) by decide)] at H; exact H
      clear H
      have H := H1
      clear H1
      have H' := Aside0.mk H
      clear H
      go_wp2_with (first | ((with_reducible refine gate_callee (f := 11) rfl ?_); refine goesL_ (some 10) rfl rfl Tryd.func11 (by kernel_rfl) rfl #[.string (⟨#[104, 116, 116, 112, 115, 58, 47, 47, 97, 112, 112, 46, 101, 120, 97, 109, 112, 108, 101, 47, 99, 98]⟩ : ByteArray)] rfl (by (try simp only [List.map_toArray, List.map_cons, List.map_nil]); first | done | rfl | (simp only [List.length_drop, List.length_take]; rfl)) ?_; (with_reducible refine (terms_Redirect.calls (EA := EA) hk103 k (⟨#[104, 116, 116, 112, 115, 58, 47, 47, 97, 112, 112, 46, 101, 120, 97, 109, 112, 108, 101, 47, 99, 98]⟩ : ByteArray) false _ ?side1 A3.out).mono ?_); (case side1 => repeat (first | exact (Sent.below HE.out HB.out) | (with_reducible refine Sent.alloc ?_ _) | (with_reducible refine Sent.drewN ?_ _) | (with_reducible refine Sent.drew ?_))); rintro e w13 ⟨rfl, hb⟩; refine ⟨_, rfl, ?_⟩; have n0_ := Aside0.mk (below_step (by repeat (first | (with_reducible first | exact HB.out | apply below_alloc | apply pw_below_drewN | apply below_drew1) | exact HB.out)) hb); clear HB; have HB := n0_; clear n0_; (try clear hb); (try clear hb2); (try clear hk); (try clear hi)))
      go_meet
      case rel => exact ⟨_, (true), (by first | rfl | (simp; done) | (simp [*]; done) | (simp [bne]; done)), H', ⟨by first | omega | exact Nat.le_refl _⟩, ⟨by repeat (first | (with_reducible first | exact HB.out | apply below_alloc | apply pw_below_drewN | apply below_drew1) | exact HB.out)⟩⟩
  case rest =>
    clear HC2
    try clear c1
    try clear p2
    try clear c4
    try clear c6
    try clear c11
    obtain ⟨kq, x19_1, rfl, HA, HJ1, HB⟩ := hcut
    cases kq with
    | zero => exact absurd HA.out (by simp [usherlaw9_TermsRedirectSafe.j0])
    | succ kj1 =>
      have H := HA.out
      clear HA
      simp only [usherlaw9_TermsRedirectSafe.j0] at H
      by_cases c14 : x19_1 = true
      · subst c14
        have H1 : (some false) = some r := by rw [if_pos rfl] at H; exact H
        clear H
        have H := H1
        clear H1
        obtain rfl := Option.some.inj H
        go_wp2
        go_ret
        exact ⟨by first | rfl | (simp [errW_none, errW_some] <;> rfl) | (simp [*, errW_none, errW_some] <;> rfl), by repeat (first | (with_reducible first | exact HB.out | apply below_alloc | apply pw_below_drewN | apply below_drew1) | exact HB.out)⟩
      · replace c14 := Bool.eq_false_iff.mpr c14
        subst c14
        have H1 : ((terms_Redirect.f kj1 a0).bind fun t181 => (if t181 = true then (usherlaw9_TermsRedirectSafe.l0 kj1 a0 0) else (some true))) = some r := by rw [if_neg (show ¬ (false = true) by decide)] at H; exact H
        clear H
        have H := H1
        clear H1
        replace H := Option.bind_eq_some_iff.mp H
        obtain ⟨t181, A150, H⟩ := H
        replace H : (if t181 = true then (usherlaw9_TermsRedirectSafe.l0 kj1 a0 0) else (some true)) = some r := H
        have A15 := Aside0.mk A150
        clear A150
        by_cases c16 : t181 = true
        · subst c16
          have H1 : (usherlaw9_TermsRedirectSafe.l0 kj1 a0 0) = some r := by rw [if_pos rfl] at H; exact H
          clear H
          have H := H1
          clear H1
          have H' := Aside0.mk H
          clear H
          go_wp2_with (first | ((with_reducible refine gate_callee (f := 11) rfl ?_); refine goesL_ (some 21) rfl rfl Tryd.func11 (by kernel_rfl) rfl #[.string a0] rfl (by (try simp only [List.map_toArray, List.map_cons, List.map_nil]); first | done | rfl | (simp only [List.length_drop, List.length_take]; rfl)) ?_; (with_reducible refine (terms_Redirect.calls (EA := EA) hk103 kj1 a0 true _ ?side1 A15.out).mono ?_); (case side1 => repeat (first | exact (Sent.below HE.out HB.out) | (with_reducible refine Sent.alloc ?_ _) | (with_reducible refine Sent.drewN ?_ _) | (with_reducible refine Sent.drew ?_))); rintro e w17 ⟨rfl, hb⟩; refine ⟨_, rfl, ?_⟩; have n0_ := Aside0.mk (below_step (by repeat (first | (with_reducible first | exact HB.out | apply below_alloc | apply pw_below_drewN | apply below_drew1) | exact HB.out)) hb); clear HB; have HB := n0_; clear n0_; (try clear hb); (try clear hb2); (try clear hk); (try clear hi)))
          go_loopg [3] kj1 (fun kq v3 w' => ∃ (x3_2 : Int), v3 = .int .i64 x3_2 ∧ Aside0 (usherlaw9_TermsRedirectSafe.l0 kq a0 x3_2 = some r) ∧ Aside0 (kq ≤ kj1) ∧ Aside0 (Below w.heap.size w w'))
          case atStart => exact ⟨(0), (by first | rfl | (simp; done) | (simp [*]; done) | (simp [bne]; done)), H', ⟨Nat.le_refl _⟩, ⟨by repeat (first | (with_reducible first | exact HB.out | apply below_alloc | apply pw_below_drewN | apply below_drew1) | exact HB.out)⟩⟩
          case round =>
            clear H'
            try clear c1
            try clear p2
            try clear c4
            try clear c6
            try clear c11
            try clear c14
            try clear c16
            try clear p2
            obtain ⟨x3_2, rfl, HA, HK2, HB⟩ := hrel
            cases gk with
            | zero => exact absurd HA.out (by simp [usherlaw9_TermsRedirectSafe.l0])
            | succ k2 =>
              have H := HA.out
              clear HA
              simp only [usherlaw9_TermsRedirectSafe.l0] at H
              by_cases c18 : x3_2 < (a0.size : Int)
              · rw [if_pos c18] at H
                have c18b0 : decide (x3_2 < (a0.size : Int)) = true := decide_eq_true c18
                clear c18
                by_cases c19 : 0 ≤ x3_2
                · rw [if_pos c19] at H
                  have c19b0 : decide (0 ≤ x3_2) = true := decide_eq_true c19
                  clear c19
                  by_cases c21 : (bt a0 x3_2) ≤ 32
                  · rw [if_pos c21] at H
                    have c21b0 : decide ((bt a0 x3_2) ≤ 32) = true := decide_eq_true c21
                    clear c21
                    obtain rfl := Option.some.inj H
                    have p20 : 0 ≤ (x3_2 : Int) := of_decide_eq_true (by first | (with_reducible assumption) | assumption)
                    have q20 : x3_2 < (a0.size : Int) := of_decide_eq_true (by first | (with_reducible assumption) | assumption)
                    have hx20 := bt_at a0 x3_2
                    replace p20 := eq_true p20
                    replace q20 := eq_true q20
                    go_wp2
                    go_ret
                    exact ⟨by first | rfl | (simp [errW_none, errW_some] <;> rfl) | (simp [*, errW_none, errW_some] <;> rfl), by repeat (first | (with_reducible first | exact HB.out | apply below_alloc | apply pw_below_drewN | apply below_drew1) | exact HB.out)⟩
                  · rw [if_neg c21] at H
                    have c21b0 : decide ((bt a0 x3_2) ≤ 32) = false := decide_eq_false c21
                    clear c21
                    by_cases c22 : (bt a0 x3_2) ≥ 127
                    · rw [if_pos c22] at H
                      have c22b0 : decide (127 ≤ (bt a0 x3_2)) = true := decide_eq_true c22
                      clear c22
                      obtain rfl := Option.some.inj H
                      have p20 : 0 ≤ (x3_2 : Int) := of_decide_eq_true (by first | (with_reducible assumption) | assumption)
                      have q20 : x3_2 < (a0.size : Int) := of_decide_eq_true (by first | (with_reducible assumption) | assumption)
                      have hx20 := bt_at a0 x3_2
                      replace p20 := eq_true p20
                      replace q20 := eq_true q20
                      go_wp2
                      go_ret
                      exact ⟨by first | rfl | (simp [errW_none, errW_some] <;> rfl) | (simp [*, errW_none, errW_some] <;> rfl), by repeat (first | (with_reducible first | exact HB.out | apply below_alloc | apply pw_below_drewN | apply below_drew1) | exact HB.out)⟩
                    · rw [if_neg c22] at H
                      have c22b0 : decide (127 ≤ (bt a0 x3_2)) = false := decide_eq_false c22
                      clear c22
                      by_cases c23 : (bt a0 x3_2) = 35
                      · rw [if_pos c23] at H
                        have c23b0 : ((bt a0 x3_2) == 35) = true := beq_iff_eq.mpr c23
                        have c23b1 : ((bt a0 x3_2) != 35) = false := bne_eq_false_iff_eq.mpr c23
                        clear c23
                        obtain rfl := Option.some.inj H
                        have p20 : 0 ≤ (x3_2 : Int) := of_decide_eq_true (by first | (with_reducible assumption) | assumption)
                        have q20 : x3_2 < (a0.size : Int) := of_decide_eq_true (by first | (with_reducible assumption) | assumption)
                        have hx20 := bt_at a0 x3_2
                        replace p20 := eq_true p20
                        replace q20 := eq_true q20
                        go_wp2
                        go_ret
                        exact ⟨by first | rfl | (simp [errW_none, errW_some] <;> rfl) | (simp [*, errW_none, errW_some] <;> rfl), by repeat (first | (with_reducible first | exact HB.out | apply below_alloc | apply pw_below_drewN | apply below_drew1) | exact HB.out)⟩
                      · rw [if_neg c23] at H
                        have c23b0 : ((bt a0 x3_2) == 35) = false := beq_eq_false_iff_ne.mpr c23
                        have c23b1 : ((bt a0 x3_2) != 35) = true := bne_iff_ne.mpr c23
                        by_cases c24 : (bt a0 x3_2) = 34
                        · rw [if_pos c24] at H
                          have c24b0 : ((bt a0 x3_2) == 34) = true := beq_iff_eq.mpr c24
                          have c24b1 : ((bt a0 x3_2) != 34) = false := bne_eq_false_iff_eq.mpr c24
                          clear c24
                          obtain rfl := Option.some.inj H
                          have p20 : 0 ≤ (x3_2 : Int) := of_decide_eq_true (by first | (with_reducible assumption) | assumption)
                          have q20 : x3_2 < (a0.size : Int) := of_decide_eq_true (by first | (with_reducible assumption) | assumption)
                          have hx20 := bt_at a0 x3_2
                          replace p20 := eq_true p20
                          replace q20 := eq_true q20
                          go_wp2
                          go_ret
                          exact ⟨by first | rfl | (simp [errW_none, errW_some] <;> rfl) | (simp [*, errW_none, errW_some] <;> rfl), by repeat (first | (with_reducible first | exact HB.out | apply below_alloc | apply pw_below_drewN | apply below_drew1) | exact HB.out)⟩
                        · rw [if_neg c24] at H
                          have c24b0 : ((bt a0 x3_2) == 34) = false := beq_eq_false_iff_ne.mpr c24
                          have c24b1 : ((bt a0 x3_2) != 34) = true := bne_iff_ne.mpr c24
                          by_cases c25 : (bt a0 x3_2) = 60
                          · rw [if_pos c25] at H
                            have c25b0 : ((bt a0 x3_2) == 60) = true := beq_iff_eq.mpr c25
                            have c25b1 : ((bt a0 x3_2) != 60) = false := bne_eq_false_iff_eq.mpr c25
                            clear c25
                            obtain rfl := Option.some.inj H
                            have p20 : 0 ≤ (x3_2 : Int) := of_decide_eq_true (by first | (with_reducible assumption) | assumption)
                            have q20 : x3_2 < (a0.size : Int) := of_decide_eq_true (by first | (with_reducible assumption) | assumption)
                            have hx20 := bt_at a0 x3_2
                            replace p20 := eq_true p20
                            replace q20 := eq_true q20
                            go_wp2
                            go_ret
                            exact ⟨by first | rfl | (simp [errW_none, errW_some] <;> rfl) | (simp [*, errW_none, errW_some] <;> rfl), by repeat (first | (with_reducible first | exact HB.out | apply below_alloc | apply pw_below_drewN | apply below_drew1) | exact HB.out)⟩
                          · rw [if_neg c25] at H
                            have c25b0 : ((bt a0 x3_2) == 60) = false := beq_eq_false_iff_ne.mpr c25
                            have c25b1 : ((bt a0 x3_2) != 60) = true := bne_iff_ne.mpr c25
                            by_cases c26 : (bt a0 x3_2) = 62
                            · rw [if_pos c26] at H
                              have c26b0 : ((bt a0 x3_2) == 62) = true := beq_iff_eq.mpr c26
                              have c26b1 : ((bt a0 x3_2) != 62) = false := bne_eq_false_iff_eq.mpr c26
                              clear c26
                              obtain rfl := Option.some.inj H
                              have p20 : 0 ≤ (x3_2 : Int) := of_decide_eq_true (by first | (with_reducible assumption) | assumption)
                              have q20 : x3_2 < (a0.size : Int) := of_decide_eq_true (by first | (with_reducible assumption) | assumption)
                              have hx20 := bt_at a0 x3_2
                              replace p20 := eq_true p20
                              replace q20 := eq_true q20
                              go_wp2
                              go_ret
                              exact ⟨by first | rfl | (simp [errW_none, errW_some] <;> rfl) | (simp [*, errW_none, errW_some] <;> rfl), by repeat (first | (with_reducible first | exact HB.out | apply below_alloc | apply pw_below_drewN | apply below_drew1) | exact HB.out)⟩
                            · rw [if_neg c26] at H
                              have c26b0 : ((bt a0 x3_2) == 62) = false := beq_eq_false_iff_ne.mpr c26
                              have c26b1 : ((bt a0 x3_2) != 62) = true := bne_iff_ne.mpr c26
                              by_cases c27 : (bt a0 x3_2) = 92
                              · rw [if_pos c27] at H
                                have c27b0 : ((bt a0 x3_2) == 92) = true := beq_iff_eq.mpr c27
                                have c27b1 : ((bt a0 x3_2) != 92) = false := bne_eq_false_iff_eq.mpr c27
                                clear c27
                                obtain rfl := Option.some.inj H
                                have p20 : 0 ≤ (x3_2 : Int) := of_decide_eq_true (by first | (with_reducible assumption) | assumption)
                                have q20 : x3_2 < (a0.size : Int) := of_decide_eq_true (by first | (with_reducible assumption) | assumption)
                                have hx20 := bt_at a0 x3_2
                                replace p20 := eq_true p20
                                replace q20 := eq_true q20
                                go_wp2
                                go_ret
                                exact ⟨by first | rfl | (simp [errW_none, errW_some] <;> rfl) | (simp [*, errW_none, errW_some] <;> rfl), by repeat (first | (with_reducible first | exact HB.out | apply below_alloc | apply pw_below_drewN | apply below_drew1) | exact HB.out)⟩
                              · rw [if_neg c27] at H
                                have c27b0 : ((bt a0 x3_2) == 92) = false := beq_eq_false_iff_ne.mpr c27
                                have c27b1 : ((bt a0 x3_2) != 92) = true := bne_iff_ne.mpr c27
                                have H' := Aside0.mk H
                                clear H
                                have p20 : 0 ≤ (x3_2 : Int) := of_decide_eq_true (by first | (with_reducible assumption) | assumption)
                                have q20 : x3_2 < (a0.size : Int) := of_decide_eq_true (by first | (with_reducible assumption) | assumption)
                                have hx20 := bt_at a0 x3_2
                                replace p20 := eq_true p20
                                replace q20 := eq_true q20
                                go_wp2
                                go_roundg k2
                                case measure => have := HJ1.out; have := HK2.out; omega
                                case rel => exact ⟨(wrap64 (x3_2 + 1)), (by first | rfl | (simp; done) | (simp [*]; done) | (simp [bne]; done)), H', ⟨by have := HJ1.out; have := HK2.out; omega⟩, ⟨by repeat (first | (with_reducible first | exact HB.out | apply below_alloc | apply pw_below_drewN | apply below_drew1) | exact HB.out)⟩⟩
                · rw [if_neg c19] at H
                  exact absurd H (by simp)
              · rw [if_neg c18] at H
                have c18b0 : decide (x3_2 < (a0.size : Int)) = false := decide_eq_false c18
                clear c18
                have HC28 := Aside0.mk H
                clear H
                go_upto_region 11 with (fail)
                go_cut [64] (fun v64 wc => ∃ (kq : Nat) (x64_27 : Bool), v64 = .bool x64_27 ∧ Aside0 (usherlaw9_TermsRedirectSafe.j2 kq a0 x64_27 = some r) ∧ Aside0 (kq ≤ k2) ∧ Aside0 (Below w.heap.size w wc))
                case first =>
                  have H := HC28.out
                  clear HC28
                  by_cases c29 : (a0.size : Int) > 512
                  · rw [if_pos c29] at H
                    have c29b0 : decide (512 < (a0.size : Int)) = true := decide_eq_true c29
                    have c29b1 : decide (512 < a0.size) = true := decide_eq_true (by omega)
                    clear c29
                    (first | rw [c29b0] | (simp only [i64_w, i32_w]; rw [c29b0]) | skip)
                    have H' := Aside0.mk H
                    clear H
                    go_wp2
                    go_meet
                    case rel => exact ⟨_, (true), (by first | rfl | (simp; done) | (simp [*]; done) | (simp [bne]; done)), H', ⟨by have := HJ1.out; have := HK2.out; first | omega | exact Nat.le_refl _⟩, ⟨by repeat (first | (with_reducible first | exact HB.out | apply below_alloc | apply pw_below_drewN | apply below_drew1) | exact HB.out)⟩⟩
                  · rw [if_neg c29] at H
                    have c29b0 : decide (512 < (a0.size : Int)) = false := decide_eq_false c29
                    have c29b1 : decide (512 < a0.size) = false := decide_eq_false (by omega)
                    clear c29
                    (first | rw [c29b0] | (simp only [i64_w, i32_w]; rw [c29b0]) | skip)
                    have H' := Aside0.mk H
                    clear H
                    go_wp2
                    go_meet
                    case rel => exact ⟨_, ((a0.toList == ([] : List UInt8))), (by first | rfl | (simp; done) | (simp [*]; done) | (simp [bne]; done)), H', ⟨by have := HJ1.out; have := HK2.out; first | omega | exact Nat.le_refl _⟩, ⟨by repeat (first | (with_reducible first | exact HB.out | apply below_alloc | apply pw_below_drewN | apply below_drew1) | exact HB.out)⟩⟩
                case rest =>
                  clear HC28
                  try clear c1
                  try clear c2
                  try clear p2
                  try clear q2
                  try clear hx2
                  try clear c4
                  try clear c6
                  try clear p6
                  try clear c11
                  try clear c14
                  try clear c16
                  try clear c18
                  try clear c18b0
                  try clear c19
                  try clear c19b0
                  try clear p20
                  try clear q20
                  try clear hx20
                  try clear c21
                  try clear c21b0
                  try clear c22
                  try clear c22b0
                  try clear c23
                  try clear c23b0
                  try clear c23b1
                  try clear c24
                  try clear c24b0
                  try clear c24b1
                  try clear c25
                  try clear c25b0
                  try clear c25b1
                  try clear c26
                  try clear c26b0
                  try clear c26b1
                  try clear c27
                  try clear c27b0
                  try clear c27b1
                  try clear c29
                  try clear c29b0
                  try clear c29b1
                  try clear p2
                  try clear p20
                  try clear q20
                  obtain ⟨kq, x64_27, rfl, HA, HJ27, HB⟩ := hcut
                  cases kq with
                  | zero => exact absurd HA.out (by simp [usherlaw9_TermsRedirectSafe.j2])
                  | succ kj27 =>
                    have H := HA.out
                    clear HA
                    simp only [usherlaw9_TermsRedirectSafe.j2] at H
                    by_cases c30 : x64_27 = true
                    · subst c30
                      have H1 : (some false) = some r := by rw [if_pos rfl] at H; exact H
                      clear H
                      have H := H1
                      clear H1
                      obtain rfl := Option.some.inj H
                      go_wp2
                      go_ret
                      exact ⟨by first | rfl | (simp [errW_none, errW_some] <;> rfl) | (simp [*, errW_none, errW_some] <;> rfl), by repeat (first | (with_reducible first | exact HB.out | apply below_alloc | apply pw_below_drewN | apply below_drew1) | exact HB.out)⟩
                    · replace c30 := Bool.eq_false_iff.mpr c30
                      subst c30
                      have H1 : ((usherlaw9_head.f a0 (⟨#[104, 116, 116, 112, 58, 47, 47]⟩ : ByteArray)).bind fun t182 => (if t182 = true then (if 7 ≤ (a0.size : Int) then ((usherlaw9_head.f (a0.extract 7 a0.size) (⟨#[108, 111, 99, 97, 108, 104, 111, 115, 116]⟩ : ByteArray)).bind fun t183 => (if t183 = true then ((usherlaw9_ends.f (a0.extract 7 a0.size) 9).bind fun t184 => (if t184 = true then (some true) else ((usherlaw9_head.f (a0.extract 7 a0.size) (⟨#[49, 50, 55, 46, 48, 46, 48, 46, 49]⟩ : ByteArray)).bind fun t185 => (if t185 = true then ((usherlaw9_ends.f (a0.extract 7 a0.size) 9).bind fun t186 => (if t186 = true then (some true) else ((usherlaw9_head.f (a0.extract 7 a0.size) (⟨#[91, 58, 58, 49, 93]⟩ : ByteArray)).bind fun t187 => (if t187 = true then ((usherlaw9_ends.f (a0.extract 7 a0.size) 5).bind fun t188 => (some t188)) else (some false))))) else ((usherlaw9_head.f (a0.extract 7 a0.size) (⟨#[91, 58, 58, 49, 93]⟩ : ByteArray)).bind fun t189 => (if t189 = true then ((usherlaw9_ends.f (a0.extract 7 a0.size) 5).bind fun t190 => (some t190)) else (some false))))))) else ((usherlaw9_head.f (a0.extract 7 a0.size) (⟨#[49, 50, 55, 46, 48, 46, 48, 46, 49]⟩ : ByteArray)).bind fun t191 => (if t191 = true then ((usherlaw9_ends.f (a0.extract 7 a0.size) 9).bind fun t192 => (if t192 = true then (some true) else ((usherlaw9_head.f (a0.extract 7 a0.size) (⟨#[91, 58, 58, 49, 93]⟩ : ByteArray)).bind fun t193 => (if t193 = true then ((usherlaw9_ends.f (a0.extract 7 a0.size) 5).bind fun t194 => (some t194)) else (some false))))) else ((usherlaw9_head.f (a0.extract 7 a0.size) (⟨#[91, 58, 58, 49, 93]⟩ : ByteArray)).bind fun t195 => (if t195 = true then ((usherlaw9_ends.f (a0.extract 7 a0.size) 5).bind fun t196 => (some t196)) else (some false))))))) else (none)) else ((usherlaw9_head.f a0 (⟨#[104, 116, 116, 112, 115, 58, 47, 47]⟩ : ByteArray)).bind fun t197 => (if t197 = true then (usherlaw9_TermsRedirectSafe.l1 kj27 a0 8) else (usherlaw9_TermsRedirectSafe.l2 kj27 a0 false 0))))) = some r := by rw [if_neg (show ¬ (false = true) by decide)] at H; exact H
                      clear H
                      have H := H1
                      clear H1
                      replace H := Option.bind_eq_some_iff.mp H
                      obtain ⟨t182, A310, H⟩ := H
                      replace H : (if t182 = true then (if 7 ≤ (a0.size : Int) then ((usherlaw9_head.f (a0.extract 7 a0.size) (⟨#[108, 111, 99, 97, 108, 104, 111, 115, 116]⟩ : ByteArray)).bind fun t183 => (if t183 = true then ((usherlaw9_ends.f (a0.extract 7 a0.size) 9).bind fun t184 => (if t184 = true then (some true) else ((usherlaw9_head.f (a0.extract 7 a0.size) (⟨#[49, 50, 55, 46, 48, 46, 48, 46, 49]⟩ : ByteArray)).bind fun t185 => (if t185 = true then ((usherlaw9_ends.f (a0.extract 7 a0.size) 9).bind fun t186 => (if t186 = true then (some true) else ((usherlaw9_head.f (a0.extract 7 a0.size) (⟨#[91, 58, 58, 49, 93]⟩ : ByteArray)).bind fun t187 => (if t187 = true then ((usherlaw9_ends.f (a0.extract 7 a0.size) 5).bind fun t188 => (some t188)) else (some false))))) else ((usherlaw9_head.f (a0.extract 7 a0.size) (⟨#[91, 58, 58, 49, 93]⟩ : ByteArray)).bind fun t189 => (if t189 = true then ((usherlaw9_ends.f (a0.extract 7 a0.size) 5).bind fun t190 => (some t190)) else (some false))))))) else ((usherlaw9_head.f (a0.extract 7 a0.size) (⟨#[49, 50, 55, 46, 48, 46, 48, 46, 49]⟩ : ByteArray)).bind fun t191 => (if t191 = true then ((usherlaw9_ends.f (a0.extract 7 a0.size) 9).bind fun t192 => (if t192 = true then (some true) else ((usherlaw9_head.f (a0.extract 7 a0.size) (⟨#[91, 58, 58, 49, 93]⟩ : ByteArray)).bind fun t193 => (if t193 = true then ((usherlaw9_ends.f (a0.extract 7 a0.size) 5).bind fun t194 => (some t194)) else (some false))))) else ((usherlaw9_head.f (a0.extract 7 a0.size) (⟨#[91, 58, 58, 49, 93]⟩ : ByteArray)).bind fun t195 => (if t195 = true then ((usherlaw9_ends.f (a0.extract 7 a0.size) 5).bind fun t196 => (some t196)) else (some false))))))) else (none)) else ((usherlaw9_head.f a0 (⟨#[104, 116, 116, 112, 115, 58, 47, 47]⟩ : ByteArray)).bind fun t197 => (if t197 = true then (usherlaw9_TermsRedirectSafe.l1 kj27 a0 8) else (usherlaw9_TermsRedirectSafe.l2 kj27 a0 false 0)))) = some r := H
                      have A31 := Aside0.mk A310
                      clear A310
                      by_cases c32 : t182 = true
                      · subst c32
                        have H1 : (if 7 ≤ (a0.size : Int) then ((usherlaw9_head.f (a0.extract 7 a0.size) (⟨#[108, 111, 99, 97, 108, 104, 111, 115, 116]⟩ : ByteArray)).bind fun t183 => (if t183 = true then ((usherlaw9_ends.f (a0.extract 7 a0.size) 9).bind fun t184 => (if t184 = true then (some true) else ((usherlaw9_head.f (a0.extract 7 a0.size) (⟨#[49, 50, 55, 46, 48, 46, 48, 46, 49]⟩ : ByteArray)).bind fun t185 => (if t185 = true then ((usherlaw9_ends.f (a0.extract 7 a0.size) 9).bind fun t186 => (if t186 = true then (some true) else ((usherlaw9_head.f (a0.extract 7 a0.size) (⟨#[91, 58, 58, 49, 93]⟩ : ByteArray)).bind fun t187 => (if t187 = true then ((usherlaw9_ends.f (a0.extract 7 a0.size) 5).bind fun t188 => (some t188)) else (some false))))) else ((usherlaw9_head.f (a0.extract 7 a0.size) (⟨#[91, 58, 58, 49, 93]⟩ : ByteArray)).bind fun t189 => (if t189 = true then ((usherlaw9_ends.f (a0.extract 7 a0.size) 5).bind fun t190 => (some t190)) else (some false))))))) else ((usherlaw9_head.f (a0.extract 7 a0.size) (⟨#[49, 50, 55, 46, 48, 46, 48, 46, 49]⟩ : ByteArray)).bind fun t191 => (if t191 = true then ((usherlaw9_ends.f (a0.extract 7 a0.size) 9).bind fun t192 => (if t192 = true then (some true) else ((usherlaw9_head.f (a0.extract 7 a0.size) (⟨#[91, 58, 58, 49, 93]⟩ : ByteArray)).bind fun t193 => (if t193 = true then ((usherlaw9_ends.f (a0.extract 7 a0.size) 5).bind fun t194 => (some t194)) else (some false))))) else ((usherlaw9_head.f (a0.extract 7 a0.size) (⟨#[91, 58, 58, 49, 93]⟩ : ByteArray)).bind fun t195 => (if t195 = true then ((usherlaw9_ends.f (a0.extract 7 a0.size) 5).bind fun t196 => (some t196)) else (some false))))))) else (none)) = some r := by rw [if_pos rfl] at H; exact H
                        clear H
                        have H := H1
                        clear H1
                        by_cases c33 : 7 ≤ (a0.size : Int)
                        · rw [if_pos c33] at H
                          have c33b0 := eq_true c33
                          have c33b1 : decide (7 ≤ (a0.size : Int)) = true := decide_eq_true c33
                          clear c33
                          replace H := Option.bind_eq_some_iff.mp H
                          obtain ⟨t183, A340, H⟩ := H
                          replace H : (if t183 = true then ((usherlaw9_ends.f (a0.extract 7 a0.size) 9).bind fun t184 => (if t184 = true then (some true) else ((usherlaw9_head.f (a0.extract 7 a0.size) (⟨#[49, 50, 55, 46, 48, 46, 48, 46, 49]⟩ : ByteArray)).bind fun t185 => (if t185 = true then ((usherlaw9_ends.f (a0.extract 7 a0.size) 9).bind fun t186 => (if t186 = true then (some true) else ((usherlaw9_head.f (a0.extract 7 a0.size) (⟨#[91, 58, 58, 49, 93]⟩ : ByteArray)).bind fun t187 => (if t187 = true then ((usherlaw9_ends.f (a0.extract 7 a0.size) 5).bind fun t188 => (some t188)) else (some false))))) else ((usherlaw9_head.f (a0.extract 7 a0.size) (⟨#[91, 58, 58, 49, 93]⟩ : ByteArray)).bind fun t189 => (if t189 = true then ((usherlaw9_ends.f (a0.extract 7 a0.size) 5).bind fun t190 => (some t190)) else (some false))))))) else ((usherlaw9_head.f (a0.extract 7 a0.size) (⟨#[49, 50, 55, 46, 48, 46, 48, 46, 49]⟩ : ByteArray)).bind fun t191 => (if t191 = true then ((usherlaw9_ends.f (a0.extract 7 a0.size) 9).bind fun t192 => (if t192 = true then (some true) else ((usherlaw9_head.f (a0.extract 7 a0.size) (⟨#[91, 58, 58, 49, 93]⟩ : ByteArray)).bind fun t193 => (if t193 = true then ((usherlaw9_ends.f (a0.extract 7 a0.size) 5).bind fun t194 => (some t194)) else (some false))))) else ((usherlaw9_head.f (a0.extract 7 a0.size) (⟨#[91, 58, 58, 49, 93]⟩ : ByteArray)).bind fun t195 => (if t195 = true then ((usherlaw9_ends.f (a0.extract 7 a0.size) 5).bind fun t196 => (some t196)) else (some false)))))) = some r := H
                          have A34 := Aside0.mk A340
                          clear A340
                          by_cases c35 : t183 = true
                          · subst c35
                            have H1 : ((usherlaw9_ends.f (a0.extract 7 a0.size) 9).bind fun t184 => (if t184 = true then (some true) else ((usherlaw9_head.f (a0.extract 7 a0.size) (⟨#[49, 50, 55, 46, 48, 46, 48, 46, 49]⟩ : ByteArray)).bind fun t185 => (if t185 = true then ((usherlaw9_ends.f (a0.extract 7 a0.size) 9).bind fun t186 => (if t186 = true then (some true) else ((usherlaw9_head.f (a0.extract 7 a0.size) (⟨#[91, 58, 58, 49, 93]⟩ : ByteArray)).bind fun t187 => (if t187 = true then ((usherlaw9_ends.f (a0.extract 7 a0.size) 5).bind fun t188 => (some t188)) else (some false))))) else ((usherlaw9_head.f (a0.extract 7 a0.size) (⟨#[91, 58, 58, 49, 93]⟩ : ByteArray)).bind fun t189 => (if t189 = true then ((usherlaw9_ends.f (a0.extract 7 a0.size) 5).bind fun t190 => (some t190)) else (some false))))))) = some r := by rw [if_pos rfl] at H; exact H
                            clear H
                            have H := H1
                            clear H1
                            replace H := Option.bind_eq_some_iff.mp H
                            obtain ⟨t184, A360, H⟩ := H
                            replace H : (if t184 = true then (some true) else ((usherlaw9_head.f (a0.extract 7 a0.size) (⟨#[49, 50, 55, 46, 48, 46, 48, 46, 49]⟩ : ByteArray)).bind fun t185 => (if t185 = true then ((usherlaw9_ends.f (a0.extract 7 a0.size) 9).bind fun t186 => (if t186 = true then (some true) else ((usherlaw9_head.f (a0.extract 7 a0.size) (⟨#[91, 58, 58, 49, 93]⟩ : ByteArray)).bind fun t187 => (if t187 = true then ((usherlaw9_ends.f (a0.extract 7 a0.size) 5).bind fun t188 => (some t188)) else (some false))))) else ((usherlaw9_head.f (a0.extract 7 a0.size) (⟨#[91, 58, 58, 49, 93]⟩ : ByteArray)).bind fun t189 => (if t189 = true then ((usherlaw9_ends.f (a0.extract 7 a0.size) 5).bind fun t190 => (some t190)) else (some false)))))) = some r := H
                            have A36 := Aside0.mk A360
                            clear A360
                            by_cases c37 : t184 = true
                            · subst c37
                              have H1 : (some true) = some r := by rw [if_pos rfl] at H; exact H
                              clear H
                              have H := H1
                              clear H1
                              obtain rfl := Option.some.inj H
                              go_wp2_with (first | ((with_reducible refine gate_callee (f := 13) rfl ?_); refine goesL_ (some 66) rfl rfl Tryd.func13 (by kernel_rfl) rfl #[.string a0, .string (⟨#[104, 116, 116, 112, 58, 47, 47]⟩ : ByteArray)] rfl (by (try simp only [List.map_toArray, List.map_cons, List.map_nil]); first | done | rfl | (simp only [List.length_drop, List.length_take]; rfl)) ?_; (with_reducible refine (usherlaw9_head.calls a0 (⟨#[104, 116, 116, 112, 58, 47, 47]⟩ : ByteArray) true _ A31.out).mono ?_); rintro e w' ⟨rfl, ⟨nd, rfl⟩⟩; refine ⟨_, rfl, ?_⟩) | ((with_reducible refine gate_callee (f := 13) rfl ?_); refine goesL_ (some 70) rfl rfl Tryd.func13 (by kernel_rfl) rfl #[.string (a0.extract 7 a0.size), .string (⟨#[108, 111, 99, 97, 108, 104, 111, 115, 116]⟩ : ByteArray)] rfl (by (try simp only [List.map_toArray, List.map_cons, List.map_nil]); first | done | rfl | (simp only [List.length_drop, List.length_take]; rfl)) ?_; (with_reducible refine (usherlaw9_head.calls (a0.extract 7 a0.size) (⟨#[108, 111, 99, 97, 108, 104, 111, 115, 116]⟩ : ByteArray) true _ A34.out).mono ?_); rintro e w' ⟨rfl, ⟨nd, rfl⟩⟩; refine ⟨_, rfl, ?_⟩) | (go_at_call 14; (with_reducible refine (usherlaw9_ends.calls (a0.extract 7 a0.size) 9 true _ A36.out).mono ?_); rintro e w' ⟨rfl, ⟨nd, rfl⟩⟩))
                              go_ret
                              exact ⟨by first | rfl | (simp [errW_none, errW_some] <;> rfl) | (simp [*, errW_none, errW_some] <;> rfl), by repeat (first | (with_reducible first | exact HB.out | apply below_alloc | apply pw_below_drewN | apply below_drew1) | exact HB.out)⟩
                            · replace c37 := Bool.eq_false_iff.mpr c37
                              subst c37
                              have H1 : ((usherlaw9_head.f (a0.extract 7 a0.size) (⟨#[49, 50, 55, 46, 48, 46, 48, 46, 49]⟩ : ByteArray)).bind fun t185 => (if t185 = true then ((usherlaw9_ends.f (a0.extract 7 a0.size) 9).bind fun t186 => (if t186 = true then (some true) else ((usherlaw9_head.f (a0.extract 7 a0.size) (⟨#[91, 58, 58, 49, 93]⟩ : ByteArray)).bind fun t187 => (if t187 = true then ((usherlaw9_ends.f (a0.extract 7 a0.size) 5).bind fun t188 => (some t188)) else (some false))))) else ((usherlaw9_head.f (a0.extract 7 a0.size) (⟨#[91, 58, 58, 49, 93]⟩ : ByteArray)).bind fun t189 => (if t189 = true then ((usherlaw9_ends.f (a0.extract 7 a0.size) 5).bind fun t190 => (some t190)) else (some false))))) = some r := by rw [if_neg (show ¬ (false = true) by decide)] at H; exact H
                              clear H
                              have H := H1
                              clear H1
                              replace H := Option.bind_eq_some_iff.mp H
                              obtain ⟨t185, A380, H⟩ := H
                              replace H : (if t185 = true then ((usherlaw9_ends.f (a0.extract 7 a0.size) 9).bind fun t186 => (if t186 = true then (some true) else ((usherlaw9_head.f (a0.extract 7 a0.size) (⟨#[91, 58, 58, 49, 93]⟩ : ByteArray)).bind fun t187 => (if t187 = true then ((usherlaw9_ends.f (a0.extract 7 a0.size) 5).bind fun t188 => (some t188)) else (some false))))) else ((usherlaw9_head.f (a0.extract 7 a0.size) (⟨#[91, 58, 58, 49, 93]⟩ : ByteArray)).bind fun t189 => (if t189 = true then ((usherlaw9_ends.f (a0.extract 7 a0.size) 5).bind fun t190 => (some t190)) else (some false)))) = some r := H
                              have A38 := Aside0.mk A380
                              clear A380
                              by_cases c39 : t185 = true
                              · subst c39
                                have H1 : ((usherlaw9_ends.f (a0.extract 7 a0.size) 9).bind fun t186 => (if t186 = true then (some true) else ((usherlaw9_head.f (a0.extract 7 a0.size) (⟨#[91, 58, 58, 49, 93]⟩ : ByteArray)).bind fun t187 => (if t187 = true then ((usherlaw9_ends.f (a0.extract 7 a0.size) 5).bind fun t188 => (some t188)) else (some false))))) = some r := by rw [if_pos rfl] at H; exact H
                                clear H
                                have H := H1
                                clear H1
                                replace H := Option.bind_eq_some_iff.mp H
                                obtain ⟨t186, A400, H⟩ := H
                                replace H : (if t186 = true then (some true) else ((usherlaw9_head.f (a0.extract 7 a0.size) (⟨#[91, 58, 58, 49, 93]⟩ : ByteArray)).bind fun t187 => (if t187 = true then ((usherlaw9_ends.f (a0.extract 7 a0.size) 5).bind fun t188 => (some t188)) else (some false)))) = some r := H
                                have A40 := Aside0.mk A400
                                clear A400
                                by_cases c41 : t186 = true
                                · subst c41
                                  have H1 : (some true) = some r := by rw [if_pos rfl] at H; exact H
                                  clear H
                                  have H := H1
                                  clear H1
                                  obtain rfl := Option.some.inj H
                                  exact absurd (Option.some.inj (A36.out.symm.trans A40.out)) (by decide)
                                · replace c41 := Bool.eq_false_iff.mpr c41
                                  subst c41
                                  have H1 : ((usherlaw9_head.f (a0.extract 7 a0.size) (⟨#[91, 58, 58, 49, 93]⟩ : ByteArray)).bind fun t187 => (if t187 = true then ((usherlaw9_ends.f (a0.extract 7 a0.size) 5).bind fun t188 => (some t188)) else (some false))) = some r := by rw [if_neg (show ¬ (false = true) by decide)] at H; exact H
                                  clear H
                                  have H := H1
                                  clear H1
                                  replace H := Option.bind_eq_some_iff.mp H
                                  obtain ⟨t187, A420, H⟩ := H
                                  replace H : (if t187 = true then ((usherlaw9_ends.f (a0.extract 7 a0.size) 5).bind fun t188 => (some t188)) else (some false)) = some r := H
                                  have A42 := Aside0.mk A420
                                  clear A420
                                  by_cases c43 : t187 = true
                                  · subst c43
                                    have H1 : ((usherlaw9_ends.f (a0.extract 7 a0.size) 5).bind fun t188 => (some t188)) = some r := by rw [if_pos rfl] at H; exact H
                                    clear H
                                    have H := H1
                                    clear H1
                                    replace H := Option.bind_eq_some_iff.mp H
                                    obtain ⟨t188, A440, H⟩ := H
                                    replace H : (some t188) = some r := H
                                    have A44 := Aside0.mk A440
                                    clear A440
                                    obtain rfl := Option.some.inj H
                                    go_wp2_with (first | ((with_reducible refine gate_callee (f := 13) rfl ?_); refine goesL_ (some 66) rfl rfl Tryd.func13 (by kernel_rfl) rfl #[.string a0, .string (⟨#[104, 116, 116, 112, 58, 47, 47]⟩ : ByteArray)] rfl (by (try simp only [List.map_toArray, List.map_cons, List.map_nil]); first | done | rfl | (simp only [List.length_drop, List.length_take]; rfl)) ?_; (with_reducible refine (usherlaw9_head.calls a0 (⟨#[104, 116, 116, 112, 58, 47, 47]⟩ : ByteArray) true _ A31.out).mono ?_); rintro e w' ⟨rfl, ⟨nd, rfl⟩⟩; refine ⟨_, rfl, ?_⟩) | ((with_reducible refine gate_callee (f := 13) rfl ?_); refine goesL_ (some 70) rfl rfl Tryd.func13 (by kernel_rfl) rfl #[.string (a0.extract 7 a0.size), .string (⟨#[108, 111, 99, 97, 108, 104, 111, 115, 116]⟩ : ByteArray)] rfl (by (try simp only [List.map_toArray, List.map_cons, List.map_nil]); first | done | rfl | (simp only [List.length_drop, List.length_take]; rfl)) ?_; (with_reducible refine (usherlaw9_head.calls (a0.extract 7 a0.size) (⟨#[108, 111, 99, 97, 108, 104, 111, 115, 116]⟩ : ByteArray) true _ A34.out).mono ?_); rintro e w' ⟨rfl, ⟨nd, rfl⟩⟩; refine ⟨_, rfl, ?_⟩) | (go_at_call 14; (with_reducible refine (usherlaw9_ends.calls (a0.extract 7 a0.size) 9 false _ A36.out).mono ?_); rintro e w' ⟨rfl, ⟨nd, rfl⟩⟩) | (go_at_call 13; (with_reducible refine (usherlaw9_head.calls (a0.extract 7 a0.size) (⟨#[49, 50, 55, 46, 48, 46, 48, 46, 49]⟩ : ByteArray) true _ A38.out).mono ?_); rintro e w' ⟨rfl, ⟨nd, rfl⟩⟩) | (go_at_call 14; (with_reducible refine (usherlaw9_ends.calls (a0.extract 7 a0.size) 9 false _ A40.out).mono ?_); rintro e w' ⟨rfl, ⟨nd, rfl⟩⟩) | (go_at_call 13; (with_reducible refine (usherlaw9_head.calls (a0.extract 7 a0.size) (⟨#[91, 58, 58, 49, 93]⟩ : ByteArray) true _ A42.out).mono ?_); rintro e w' ⟨rfl, ⟨nd, rfl⟩⟩) | (go_at_call 14; (with_reducible refine (usherlaw9_ends.calls (a0.extract 7 a0.size) 5 t188 _ A44.out).mono ?_); rintro e w' ⟨rfl, ⟨nd, rfl⟩⟩))
                                    go_ret
                                    exact ⟨by first | rfl | (simp [errW_none, errW_some] <;> rfl) | (simp [*, errW_none, errW_some] <;> rfl), by repeat (first | (with_reducible first | exact HB.out | apply below_alloc | apply pw_below_drewN | apply below_drew1) | exact HB.out)⟩
                                  · replace c43 := Bool.eq_false_iff.mpr c43
                                    subst c43
                                    have H1 : (some false) = some r := by rw [if_neg (show ¬ (false = true) by decide)] at H; exact H
                                    clear H
                                    have H := H1
                                    clear H1
                                    obtain rfl := Option.some.inj H
                                    go_wp2_with (first | ((with_reducible refine gate_callee (f := 13) rfl ?_); refine goesL_ (some 66) rfl rfl Tryd.func13 (by kernel_rfl) rfl #[.string a0, .string (⟨#[104, 116, 116, 112, 58, 47, 47]⟩ : ByteArray)] rfl (by (try simp only [List.map_toArray, List.map_cons, List.map_nil]); first | done | rfl | (simp only [List.length_drop, List.length_take]; rfl)) ?_; (with_reducible refine (usherlaw9_head.calls a0 (⟨#[104, 116, 116, 112, 58, 47, 47]⟩ : ByteArray) true _ A31.out).mono ?_); rintro e w' ⟨rfl, ⟨nd, rfl⟩⟩; refine ⟨_, rfl, ?_⟩) | ((with_reducible refine gate_callee (f := 13) rfl ?_); refine goesL_ (some 70) rfl rfl Tryd.func13 (by kernel_rfl) rfl #[.string (a0.extract 7 a0.size), .string (⟨#[108, 111, 99, 97, 108, 104, 111, 115, 116]⟩ : ByteArray)] rfl (by (try simp only [List.map_toArray, List.map_cons, List.map_nil]); first | done | rfl | (simp only [List.length_drop, List.length_take]; rfl)) ?_; (with_reducible refine (usherlaw9_head.calls (a0.extract 7 a0.size) (⟨#[108, 111, 99, 97, 108, 104, 111, 115, 116]⟩ : ByteArray) true _ A34.out).mono ?_); rintro e w' ⟨rfl, ⟨nd, rfl⟩⟩; refine ⟨_, rfl, ?_⟩) | (go_at_call 14; (with_reducible refine (usherlaw9_ends.calls (a0.extract 7 a0.size) 9 false _ A36.out).mono ?_); rintro e w' ⟨rfl, ⟨nd, rfl⟩⟩) | (go_at_call 13; (with_reducible refine (usherlaw9_head.calls (a0.extract 7 a0.size) (⟨#[49, 50, 55, 46, 48, 46, 48, 46, 49]⟩ : ByteArray) true _ A38.out).mono ?_); rintro e w' ⟨rfl, ⟨nd, rfl⟩⟩) | (go_at_call 14; (with_reducible refine (usherlaw9_ends.calls (a0.extract 7 a0.size) 9 false _ A40.out).mono ?_); rintro e w' ⟨rfl, ⟨nd, rfl⟩⟩) | (go_at_call 13; (with_reducible refine (usherlaw9_head.calls (a0.extract 7 a0.size) (⟨#[91, 58, 58, 49, 93]⟩ : ByteArray) false _ A42.out).mono ?_); rintro e w' ⟨rfl, ⟨nd, rfl⟩⟩))
                                    go_ret
                                    exact ⟨by first | rfl | (simp [errW_none, errW_some] <;> rfl) | (simp [*, errW_none, errW_some] <;> rfl), by repeat (first | (with_reducible first | exact HB.out | apply below_alloc | apply pw_below_drewN | apply below_drew1) | exact HB.out)⟩
                              · replace c39 := Bool.eq_false_iff.mpr c39
                                subst c39
                                have H1 : ((usherlaw9_head.f (a0.extract 7 a0.size) (⟨#[91, 58, 58, 49, 93]⟩ : ByteArray)).bind fun t189 => (if t189 = true then ((usherlaw9_ends.f (a0.extract 7 a0.size) 5).bind fun t190 => (some t190)) else (some false))) = some r := by rw [if_neg (show ¬ (false = true) by decide)] at H; exact H
                                clear H
                                have H := H1
                                clear H1
                                replace H := Option.bind_eq_some_iff.mp H
                                obtain ⟨t189, A450, H⟩ := H
                                replace H : (if t189 = true then ((usherlaw9_ends.f (a0.extract 7 a0.size) 5).bind fun t190 => (some t190)) else (some false)) = some r := H
                                have A45 := Aside0.mk A450
                                clear A450
                                by_cases c46 : t189 = true
                                · subst c46
                                  have H1 : ((usherlaw9_ends.f (a0.extract 7 a0.size) 5).bind fun t190 => (some t190)) = some r := by rw [if_pos rfl] at H; exact H
                                  clear H
                                  have H := H1
                                  clear H1
                                  replace H := Option.bind_eq_some_iff.mp H
                                  obtain ⟨t190, A470, H⟩ := H
                                  replace H : (some t190) = some r := H
                                  have A47 := Aside0.mk A470
                                  clear A470
                                  obtain rfl := Option.some.inj H
                                  go_wp2_with (first | ((with_reducible refine gate_callee (f := 13) rfl ?_); refine goesL_ (some 66) rfl rfl Tryd.func13 (by kernel_rfl) rfl #[.string a0, .string (⟨#[104, 116, 116, 112, 58, 47, 47]⟩ : ByteArray)] rfl (by (try simp only [List.map_toArray, List.map_cons, List.map_nil]); first | done | rfl | (simp only [List.length_drop, List.length_take]; rfl)) ?_; (with_reducible refine (usherlaw9_head.calls a0 (⟨#[104, 116, 116, 112, 58, 47, 47]⟩ : ByteArray) true _ A31.out).mono ?_); rintro e w' ⟨rfl, ⟨nd, rfl⟩⟩; refine ⟨_, rfl, ?_⟩) | ((with_reducible refine gate_callee (f := 13) rfl ?_); refine goesL_ (some 70) rfl rfl Tryd.func13 (by kernel_rfl) rfl #[.string (a0.extract 7 a0.size), .string (⟨#[108, 111, 99, 97, 108, 104, 111, 115, 116]⟩ : ByteArray)] rfl (by (try simp only [List.map_toArray, List.map_cons, List.map_nil]); first | done | rfl | (simp only [List.length_drop, List.length_take]; rfl)) ?_; (with_reducible refine (usherlaw9_head.calls (a0.extract 7 a0.size) (⟨#[108, 111, 99, 97, 108, 104, 111, 115, 116]⟩ : ByteArray) true _ A34.out).mono ?_); rintro e w' ⟨rfl, ⟨nd, rfl⟩⟩; refine ⟨_, rfl, ?_⟩) | (go_at_call 14; (with_reducible refine (usherlaw9_ends.calls (a0.extract 7 a0.size) 9 false _ A36.out).mono ?_); rintro e w' ⟨rfl, ⟨nd, rfl⟩⟩) | (go_at_call 13; (with_reducible refine (usherlaw9_head.calls (a0.extract 7 a0.size) (⟨#[49, 50, 55, 46, 48, 46, 48, 46, 49]⟩ : ByteArray) false _ A38.out).mono ?_); rintro e w' ⟨rfl, ⟨nd, rfl⟩⟩) | (go_at_call 13; (with_reducible refine (usherlaw9_head.calls (a0.extract 7 a0.size) (⟨#[91, 58, 58, 49, 93]⟩ : ByteArray) true _ A45.out).mono ?_); rintro e w' ⟨rfl, ⟨nd, rfl⟩⟩) | (go_at_call 14; (with_reducible refine (usherlaw9_ends.calls (a0.extract 7 a0.size) 5 t190 _ A47.out).mono ?_); rintro e w' ⟨rfl, ⟨nd, rfl⟩⟩))
                                  go_ret
                                  exact ⟨by first | rfl | (simp [errW_none, errW_some] <;> rfl) | (simp [*, errW_none, errW_some] <;> rfl), by repeat (first | (with_reducible first | exact HB.out | apply below_alloc | apply pw_below_drewN | apply below_drew1) | exact HB.out)⟩
                                · replace c46 := Bool.eq_false_iff.mpr c46
                                  subst c46
                                  have H1 : (some false) = some r := by rw [if_neg (show ¬ (false = true) by decide)] at H; exact H
                                  clear H
                                  have H := H1
                                  clear H1
                                  obtain rfl := Option.some.inj H
                                  go_wp2_with (first | ((with_reducible refine gate_callee (f := 13) rfl ?_); refine goesL_ (some 66) rfl rfl Tryd.func13 (by kernel_rfl) rfl #[.string a0, .string (⟨#[104, 116, 116, 112, 58, 47, 47]⟩ : ByteArray)] rfl (by (try simp only [List.map_toArray, List.map_cons, List.map_nil]); first | done | rfl | (simp only [List.length_drop, List.length_take]; rfl)) ?_; (with_reducible refine (usherlaw9_head.calls a0 (⟨#[104, 116, 116, 112, 58, 47, 47]⟩ : ByteArray) true _ A31.out).mono ?_); rintro e w' ⟨rfl, ⟨nd, rfl⟩⟩; refine ⟨_, rfl, ?_⟩) | ((with_reducible refine gate_callee (f := 13) rfl ?_); refine goesL_ (some 70) rfl rfl Tryd.func13 (by kernel_rfl) rfl #[.string (a0.extract 7 a0.size), .string (⟨#[108, 111, 99, 97, 108, 104, 111, 115, 116]⟩ : ByteArray)] rfl (by (try simp only [List.map_toArray, List.map_cons, List.map_nil]); first | done | rfl | (simp only [List.length_drop, List.length_take]; rfl)) ?_; (with_reducible refine (usherlaw9_head.calls (a0.extract 7 a0.size) (⟨#[108, 111, 99, 97, 108, 104, 111, 115, 116]⟩ : ByteArray) true _ A34.out).mono ?_); rintro e w' ⟨rfl, ⟨nd, rfl⟩⟩; refine ⟨_, rfl, ?_⟩) | (go_at_call 14; (with_reducible refine (usherlaw9_ends.calls (a0.extract 7 a0.size) 9 false _ A36.out).mono ?_); rintro e w' ⟨rfl, ⟨nd, rfl⟩⟩) | (go_at_call 13; (with_reducible refine (usherlaw9_head.calls (a0.extract 7 a0.size) (⟨#[49, 50, 55, 46, 48, 46, 48, 46, 49]⟩ : ByteArray) false _ A38.out).mono ?_); rintro e w' ⟨rfl, ⟨nd, rfl⟩⟩) | (go_at_call 13; (with_reducible refine (usherlaw9_head.calls (a0.extract 7 a0.size) (⟨#[91, 58, 58, 49, 93]⟩ : ByteArray) false _ A45.out).mono ?_); rintro e w' ⟨rfl, ⟨nd, rfl⟩⟩))
                                  go_ret
                                  exact ⟨by first | rfl | (simp [errW_none, errW_some] <;> rfl) | (simp [*, errW_none, errW_some] <;> rfl), by repeat (first | (with_reducible first | exact HB.out | apply below_alloc | apply pw_below_drewN | apply below_drew1) | exact HB.out)⟩
                          · replace c35 := Bool.eq_false_iff.mpr c35
                            subst c35
                            have H1 : ((usherlaw9_head.f (a0.extract 7 a0.size) (⟨#[49, 50, 55, 46, 48, 46, 48, 46, 49]⟩ : ByteArray)).bind fun t191 => (if t191 = true then ((usherlaw9_ends.f (a0.extract 7 a0.size) 9).bind fun t192 => (if t192 = true then (some true) else ((usherlaw9_head.f (a0.extract 7 a0.size) (⟨#[91, 58, 58, 49, 93]⟩ : ByteArray)).bind fun t193 => (if t193 = true then ((usherlaw9_ends.f (a0.extract 7 a0.size) 5).bind fun t194 => (some t194)) else (some false))))) else ((usherlaw9_head.f (a0.extract 7 a0.size) (⟨#[91, 58, 58, 49, 93]⟩ : ByteArray)).bind fun t195 => (if t195 = true then ((usherlaw9_ends.f (a0.extract 7 a0.size) 5).bind fun t196 => (some t196)) else (some false))))) = some r := by rw [if_neg (show ¬ (false = true) by decide)] at H; exact H
                            clear H
                            have H := H1
                            clear H1
                            replace H := Option.bind_eq_some_iff.mp H
                            obtain ⟨t191, A480, H⟩ := H
                            replace H : (if t191 = true then ((usherlaw9_ends.f (a0.extract 7 a0.size) 9).bind fun t192 => (if t192 = true then (some true) else ((usherlaw9_head.f (a0.extract 7 a0.size) (⟨#[91, 58, 58, 49, 93]⟩ : ByteArray)).bind fun t193 => (if t193 = true then ((usherlaw9_ends.f (a0.extract 7 a0.size) 5).bind fun t194 => (some t194)) else (some false))))) else ((usherlaw9_head.f (a0.extract 7 a0.size) (⟨#[91, 58, 58, 49, 93]⟩ : ByteArray)).bind fun t195 => (if t195 = true then ((usherlaw9_ends.f (a0.extract 7 a0.size) 5).bind fun t196 => (some t196)) else (some false)))) = some r := H
                            have A48 := Aside0.mk A480
                            clear A480
                            by_cases c49 : t191 = true
                            · subst c49
                              have H1 : ((usherlaw9_ends.f (a0.extract 7 a0.size) 9).bind fun t192 => (if t192 = true then (some true) else ((usherlaw9_head.f (a0.extract 7 a0.size) (⟨#[91, 58, 58, 49, 93]⟩ : ByteArray)).bind fun t193 => (if t193 = true then ((usherlaw9_ends.f (a0.extract 7 a0.size) 5).bind fun t194 => (some t194)) else (some false))))) = some r := by rw [if_pos rfl] at H; exact H
                              clear H
                              have H := H1
                              clear H1
                              replace H := Option.bind_eq_some_iff.mp H
                              obtain ⟨t192, A500, H⟩ := H
                              replace H : (if t192 = true then (some true) else ((usherlaw9_head.f (a0.extract 7 a0.size) (⟨#[91, 58, 58, 49, 93]⟩ : ByteArray)).bind fun t193 => (if t193 = true then ((usherlaw9_ends.f (a0.extract 7 a0.size) 5).bind fun t194 => (some t194)) else (some false)))) = some r := H
                              have A50 := Aside0.mk A500
                              clear A500
                              by_cases c51 : t192 = true
                              · subst c51
                                have H1 : (some true) = some r := by rw [if_pos rfl] at H; exact H
                                clear H
                                have H := H1
                                clear H1
                                obtain rfl := Option.some.inj H
                                go_wp2_with (first | ((with_reducible refine gate_callee (f := 13) rfl ?_); refine goesL_ (some 66) rfl rfl Tryd.func13 (by kernel_rfl) rfl #[.string a0, .string (⟨#[104, 116, 116, 112, 58, 47, 47]⟩ : ByteArray)] rfl (by (try simp only [List.map_toArray, List.map_cons, List.map_nil]); first | done | rfl | (simp only [List.length_drop, List.length_take]; rfl)) ?_; (with_reducible refine (usherlaw9_head.calls a0 (⟨#[104, 116, 116, 112, 58, 47, 47]⟩ : ByteArray) true _ A31.out).mono ?_); rintro e w' ⟨rfl, ⟨nd, rfl⟩⟩; refine ⟨_, rfl, ?_⟩) | ((with_reducible refine gate_callee (f := 13) rfl ?_); refine goesL_ (some 70) rfl rfl Tryd.func13 (by kernel_rfl) rfl #[.string (a0.extract 7 a0.size), .string (⟨#[108, 111, 99, 97, 108, 104, 111, 115, 116]⟩ : ByteArray)] rfl (by (try simp only [List.map_toArray, List.map_cons, List.map_nil]); first | done | rfl | (simp only [List.length_drop, List.length_take]; rfl)) ?_; (with_reducible refine (usherlaw9_head.calls (a0.extract 7 a0.size) (⟨#[108, 111, 99, 97, 108, 104, 111, 115, 116]⟩ : ByteArray) false _ A34.out).mono ?_); rintro e w' ⟨rfl, ⟨nd, rfl⟩⟩; refine ⟨_, rfl, ?_⟩) | (go_at_call 13; (with_reducible refine (usherlaw9_head.calls (a0.extract 7 a0.size) (⟨#[49, 50, 55, 46, 48, 46, 48, 46, 49]⟩ : ByteArray) true _ A48.out).mono ?_); rintro e w' ⟨rfl, ⟨nd, rfl⟩⟩) | (go_at_call 14; (with_reducible refine (usherlaw9_ends.calls (a0.extract 7 a0.size) 9 true _ A50.out).mono ?_); rintro e w' ⟨rfl, ⟨nd, rfl⟩⟩))
                                go_ret
                                exact ⟨by first | rfl | (simp [errW_none, errW_some] <;> rfl) | (simp [*, errW_none, errW_some] <;> rfl), by repeat (first | (with_reducible first | exact HB.out | apply below_alloc | apply pw_below_drewN | apply below_drew1) | exact HB.out)⟩
                              · replace c51 := Bool.eq_false_iff.mpr c51
                                subst c51
                                have H1 : ((usherlaw9_head.f (a0.extract 7 a0.size) (⟨#[91, 58, 58, 49, 93]⟩ : ByteArray)).bind fun t193 => (if t193 = true then ((usherlaw9_ends.f (a0.extract 7 a0.size) 5).bind fun t194 => (some t194)) else (some false))) = some r := by rw [if_neg (show ¬ (false = true) by decide)] at H; exact H
                                clear H
                                have H := H1
                                clear H1
                                replace H := Option.bind_eq_some_iff.mp H
                                obtain ⟨t193, A520, H⟩ := H
                                replace H : (if t193 = true then ((usherlaw9_ends.f (a0.extract 7 a0.size) 5).bind fun t194 => (some t194)) else (some false)) = some r := H
                                have A52 := Aside0.mk A520
                                clear A520
                                by_cases c53 : t193 = true
                                · subst c53
                                  have H1 : ((usherlaw9_ends.f (a0.extract 7 a0.size) 5).bind fun t194 => (some t194)) = some r := by rw [if_pos rfl] at H; exact H
                                  clear H
                                  have H := H1
                                  clear H1
                                  replace H := Option.bind_eq_some_iff.mp H
                                  obtain ⟨t194, A540, H⟩ := H
                                  replace H : (some t194) = some r := H
                                  have A54 := Aside0.mk A540
                                  clear A540
                                  obtain rfl := Option.some.inj H
                                  go_wp2_with (first | ((with_reducible refine gate_callee (f := 13) rfl ?_); refine goesL_ (some 66) rfl rfl Tryd.func13 (by kernel_rfl) rfl #[.string a0, .string (⟨#[104, 116, 116, 112, 58, 47, 47]⟩ : ByteArray)] rfl (by (try simp only [List.map_toArray, List.map_cons, List.map_nil]); first | done | rfl | (simp only [List.length_drop, List.length_take]; rfl)) ?_; (with_reducible refine (usherlaw9_head.calls a0 (⟨#[104, 116, 116, 112, 58, 47, 47]⟩ : ByteArray) true _ A31.out).mono ?_); rintro e w' ⟨rfl, ⟨nd, rfl⟩⟩; refine ⟨_, rfl, ?_⟩) | ((with_reducible refine gate_callee (f := 13) rfl ?_); refine goesL_ (some 70) rfl rfl Tryd.func13 (by kernel_rfl) rfl #[.string (a0.extract 7 a0.size), .string (⟨#[108, 111, 99, 97, 108, 104, 111, 115, 116]⟩ : ByteArray)] rfl (by (try simp only [List.map_toArray, List.map_cons, List.map_nil]); first | done | rfl | (simp only [List.length_drop, List.length_take]; rfl)) ?_; (with_reducible refine (usherlaw9_head.calls (a0.extract 7 a0.size) (⟨#[108, 111, 99, 97, 108, 104, 111, 115, 116]⟩ : ByteArray) false _ A34.out).mono ?_); rintro e w' ⟨rfl, ⟨nd, rfl⟩⟩; refine ⟨_, rfl, ?_⟩) | (go_at_call 13; (with_reducible refine (usherlaw9_head.calls (a0.extract 7 a0.size) (⟨#[49, 50, 55, 46, 48, 46, 48, 46, 49]⟩ : ByteArray) true _ A48.out).mono ?_); rintro e w' ⟨rfl, ⟨nd, rfl⟩⟩) | (go_at_call 14; (with_reducible refine (usherlaw9_ends.calls (a0.extract 7 a0.size) 9 false _ A50.out).mono ?_); rintro e w' ⟨rfl, ⟨nd, rfl⟩⟩) | (go_at_call 13; (with_reducible refine (usherlaw9_head.calls (a0.extract 7 a0.size) (⟨#[91, 58, 58, 49, 93]⟩ : ByteArray) true _ A52.out).mono ?_); rintro e w' ⟨rfl, ⟨nd, rfl⟩⟩) | (go_at_call 14; (with_reducible refine (usherlaw9_ends.calls (a0.extract 7 a0.size) 5 t194 _ A54.out).mono ?_); rintro e w' ⟨rfl, ⟨nd, rfl⟩⟩))
                                  go_ret
                                  exact ⟨by first | rfl | (simp [errW_none, errW_some] <;> rfl) | (simp [*, errW_none, errW_some] <;> rfl), by repeat (first | (with_reducible first | exact HB.out | apply below_alloc | apply pw_below_drewN | apply below_drew1) | exact HB.out)⟩
                                · replace c53 := Bool.eq_false_iff.mpr c53
                                  subst c53
                                  have H1 : (some false) = some r := by rw [if_neg (show ¬ (false = true) by decide)] at H; exact H
                                  clear H
                                  have H := H1
                                  clear H1
                                  obtain rfl := Option.some.inj H
                                  go_wp2_with (first | ((with_reducible refine gate_callee (f := 13) rfl ?_); refine goesL_ (some 66) rfl rfl Tryd.func13 (by kernel_rfl) rfl #[.string a0, .string (⟨#[104, 116, 116, 112, 58, 47, 47]⟩ : ByteArray)] rfl (by (try simp only [List.map_toArray, List.map_cons, List.map_nil]); first | done | rfl | (simp only [List.length_drop, List.length_take]; rfl)) ?_; (with_reducible refine (usherlaw9_head.calls a0 (⟨#[104, 116, 116, 112, 58, 47, 47]⟩ : ByteArray) true _ A31.out).mono ?_); rintro e w' ⟨rfl, ⟨nd, rfl⟩⟩; refine ⟨_, rfl, ?_⟩) | ((with_reducible refine gate_callee (f := 13) rfl ?_); refine goesL_ (some 70) rfl rfl Tryd.func13 (by kernel_rfl) rfl #[.string (a0.extract 7 a0.size), .string (⟨#[108, 111, 99, 97, 108, 104, 111, 115, 116]⟩ : ByteArray)] rfl (by (try simp only [List.map_toArray, List.map_cons, List.map_nil]); first | done | rfl | (simp only [List.length_drop, List.length_take]; rfl)) ?_; (with_reducible refine (usherlaw9_head.calls (a0.extract 7 a0.size) (⟨#[108, 111, 99, 97, 108, 104, 111, 115, 116]⟩ : ByteArray) false _ A34.out).mono ?_); rintro e w' ⟨rfl, ⟨nd, rfl⟩⟩; refine ⟨_, rfl, ?_⟩) | (go_at_call 13; (with_reducible refine (usherlaw9_head.calls (a0.extract 7 a0.size) (⟨#[49, 50, 55, 46, 48, 46, 48, 46, 49]⟩ : ByteArray) true _ A48.out).mono ?_); rintro e w' ⟨rfl, ⟨nd, rfl⟩⟩) | (go_at_call 14; (with_reducible refine (usherlaw9_ends.calls (a0.extract 7 a0.size) 9 false _ A50.out).mono ?_); rintro e w' ⟨rfl, ⟨nd, rfl⟩⟩) | (go_at_call 13; (with_reducible refine (usherlaw9_head.calls (a0.extract 7 a0.size) (⟨#[91, 58, 58, 49, 93]⟩ : ByteArray) false _ A52.out).mono ?_); rintro e w' ⟨rfl, ⟨nd, rfl⟩⟩))
                                  go_ret
                                  exact ⟨by first | rfl | (simp [errW_none, errW_some] <;> rfl) | (simp [*, errW_none, errW_some] <;> rfl), by repeat (first | (with_reducible first | exact HB.out | apply below_alloc | apply pw_below_drewN | apply below_drew1) | exact HB.out)⟩
                            · replace c49 := Bool.eq_false_iff.mpr c49
                              subst c49
                              have H1 : ((usherlaw9_head.f (a0.extract 7 a0.size) (⟨#[91, 58, 58, 49, 93]⟩ : ByteArray)).bind fun t195 => (if t195 = true then ((usherlaw9_ends.f (a0.extract 7 a0.size) 5).bind fun t196 => (some t196)) else (some false))) = some r := by rw [if_neg (show ¬ (false = true) by decide)] at H; exact H
                              clear H
                              have H := H1
                              clear H1
                              replace H := Option.bind_eq_some_iff.mp H
                              obtain ⟨t195, A550, H⟩ := H
                              replace H : (if t195 = true then ((usherlaw9_ends.f (a0.extract 7 a0.size) 5).bind fun t196 => (some t196)) else (some false)) = some r := H
                              have A55 := Aside0.mk A550
                              clear A550
                              by_cases c56 : t195 = true
                              · subst c56
                                have H1 : ((usherlaw9_ends.f (a0.extract 7 a0.size) 5).bind fun t196 => (some t196)) = some r := by rw [if_pos rfl] at H; exact H
                                clear H
                                have H := H1
                                clear H1
                                replace H := Option.bind_eq_some_iff.mp H
                                obtain ⟨t196, A570, H⟩ := H
                                replace H : (some t196) = some r := H
                                have A57 := Aside0.mk A570
                                clear A570
                                obtain rfl := Option.some.inj H
                                go_wp2_with (first | ((with_reducible refine gate_callee (f := 13) rfl ?_); refine goesL_ (some 66) rfl rfl Tryd.func13 (by kernel_rfl) rfl #[.string a0, .string (⟨#[104, 116, 116, 112, 58, 47, 47]⟩ : ByteArray)] rfl (by (try simp only [List.map_toArray, List.map_cons, List.map_nil]); first | done | rfl | (simp only [List.length_drop, List.length_take]; rfl)) ?_; (with_reducible refine (usherlaw9_head.calls a0 (⟨#[104, 116, 116, 112, 58, 47, 47]⟩ : ByteArray) true _ A31.out).mono ?_); rintro e w' ⟨rfl, ⟨nd, rfl⟩⟩; refine ⟨_, rfl, ?_⟩) | ((with_reducible refine gate_callee (f := 13) rfl ?_); refine goesL_ (some 70) rfl rfl Tryd.func13 (by kernel_rfl) rfl #[.string (a0.extract 7 a0.size), .string (⟨#[108, 111, 99, 97, 108, 104, 111, 115, 116]⟩ : ByteArray)] rfl (by (try simp only [List.map_toArray, List.map_cons, List.map_nil]); first | done | rfl | (simp only [List.length_drop, List.length_take]; rfl)) ?_; (with_reducible refine (usherlaw9_head.calls (a0.extract 7 a0.size) (⟨#[108, 111, 99, 97, 108, 104, 111, 115, 116]⟩ : ByteArray) false _ A34.out).mono ?_); rintro e w' ⟨rfl, ⟨nd, rfl⟩⟩; refine ⟨_, rfl, ?_⟩) | (go_at_call 13; (with_reducible refine (usherlaw9_head.calls (a0.extract 7 a0.size) (⟨#[49, 50, 55, 46, 48, 46, 48, 46, 49]⟩ : ByteArray) false _ A48.out).mono ?_); rintro e w' ⟨rfl, ⟨nd, rfl⟩⟩) | (go_at_call 13; (with_reducible refine (usherlaw9_head.calls (a0.extract 7 a0.size) (⟨#[91, 58, 58, 49, 93]⟩ : ByteArray) true _ A55.out).mono ?_); rintro e w' ⟨rfl, ⟨nd, rfl⟩⟩) | (go_at_call 14; (with_reducible refine (usherlaw9_ends.calls (a0.extract 7 a0.size) 5 t196 _ A57.out).mono ?_); rintro e w' ⟨rfl, ⟨nd, rfl⟩⟩))
                                go_ret
                                exact ⟨by first | rfl | (simp [errW_none, errW_some] <;> rfl) | (simp [*, errW_none, errW_some] <;> rfl), by repeat (first | (with_reducible first | exact HB.out | apply below_alloc | apply pw_below_drewN | apply below_drew1) | exact HB.out)⟩
                              · replace c56 := Bool.eq_false_iff.mpr c56
                                subst c56
                                have H1 : (some false) = some r := by rw [if_neg (show ¬ (false = true) by decide)] at H; exact H
                                clear H
                                have H := H1
                                clear H1
                                obtain rfl := Option.some.inj H
                                go_wp2_with (first | ((with_reducible refine gate_callee (f := 13) rfl ?_); refine goesL_ (some 66) rfl rfl Tryd.func13 (by kernel_rfl) rfl #[.string a0, .string (⟨#[104, 116, 116, 112, 58, 47, 47]⟩ : ByteArray)] rfl (by (try simp only [List.map_toArray, List.map_cons, List.map_nil]); first | done | rfl | (simp only [List.length_drop, List.length_take]; rfl)) ?_; (with_reducible refine (usherlaw9_head.calls a0 (⟨#[104, 116, 116, 112, 58, 47, 47]⟩ : ByteArray) true _ A31.out).mono ?_); rintro e w' ⟨rfl, ⟨nd, rfl⟩⟩; refine ⟨_, rfl, ?_⟩) | ((with_reducible refine gate_callee (f := 13) rfl ?_); refine goesL_ (some 70) rfl rfl Tryd.func13 (by kernel_rfl) rfl #[.string (a0.extract 7 a0.size), .string (⟨#[108, 111, 99, 97, 108, 104, 111, 115, 116]⟩ : ByteArray)] rfl (by (try simp only [List.map_toArray, List.map_cons, List.map_nil]); first | done | rfl | (simp only [List.length_drop, List.length_take]; rfl)) ?_; (with_reducible refine (usherlaw9_head.calls (a0.extract 7 a0.size) (⟨#[108, 111, 99, 97, 108, 104, 111, 115, 116]⟩ : ByteArray) false _ A34.out).mono ?_); rintro e w' ⟨rfl, ⟨nd, rfl⟩⟩; refine ⟨_, rfl, ?_⟩) | (go_at_call 13; (with_reducible refine (usherlaw9_head.calls (a0.extract 7 a0.size) (⟨#[49, 50, 55, 46, 48, 46, 48, 46, 49]⟩ : ByteArray) false _ A48.out).mono ?_); rintro e w' ⟨rfl, ⟨nd, rfl⟩⟩) | (go_at_call 13; (with_reducible refine (usherlaw9_head.calls (a0.extract 7 a0.size) (⟨#[91, 58, 58, 49, 93]⟩ : ByteArray) false _ A55.out).mono ?_); rintro e w' ⟨rfl, ⟨nd, rfl⟩⟩))
                                go_ret
                                exact ⟨by first | rfl | (simp [errW_none, errW_some] <;> rfl) | (simp [*, errW_none, errW_some] <;> rfl), by repeat (first | (with_reducible first | exact HB.out | apply below_alloc | apply pw_below_drewN | apply below_drew1) | exact HB.out)⟩
                        · rw [if_neg c33] at H
                          exact absurd H (by simp)
                      · replace c32 := Bool.eq_false_iff.mpr c32
                        subst c32
                        have H1 : ((usherlaw9_head.f a0 (⟨#[104, 116, 116, 112, 115, 58, 47, 47]⟩ : ByteArray)).bind fun t197 => (if t197 = true then (usherlaw9_TermsRedirectSafe.l1 kj27 a0 8) else (usherlaw9_TermsRedirectSafe.l2 kj27 a0 false 0))) = some r := by rw [if_neg (show ¬ (false = true) by decide)] at H; exact H
                        clear H
                        have H := H1
                        clear H1
                        replace H := Option.bind_eq_some_iff.mp H
                        obtain ⟨t197, A580, H⟩ := H
                        replace H : (if t197 = true then (usherlaw9_TermsRedirectSafe.l1 kj27 a0 8) else (usherlaw9_TermsRedirectSafe.l2 kj27 a0 false 0)) = some r := H
                        have A58 := Aside0.mk A580
                        clear A580
                        by_cases c59 : t197 = true
                        · subst c59
                          have H1 : (usherlaw9_TermsRedirectSafe.l1 kj27 a0 8) = some r := by rw [if_pos rfl] at H; exact H
                          clear H
                          have H := H1
                          clear H1
                          have H' := Aside0.mk H
                          clear H
                          go_wp2_with (first | ((with_reducible refine gate_callee (f := 13) rfl ?_); refine goesL_ (some 66) rfl rfl Tryd.func13 (by kernel_rfl) rfl #[.string a0, .string (⟨#[104, 116, 116, 112, 58, 47, 47]⟩ : ByteArray)] rfl (by (try simp only [List.map_toArray, List.map_cons, List.map_nil]); first | done | rfl | (simp only [List.length_drop, List.length_take]; rfl)) ?_; (with_reducible refine (usherlaw9_head.calls a0 (⟨#[104, 116, 116, 112, 58, 47, 47]⟩ : ByteArray) false _ A31.out).mono ?_); rintro e w' ⟨rfl, ⟨nd, rfl⟩⟩; refine ⟨_, rfl, ?_⟩) | ((with_reducible refine gate_callee (f := 13) rfl ?_); refine goesL_ (some 93) rfl rfl Tryd.func13 (by kernel_rfl) rfl #[.string a0, .string (⟨#[104, 116, 116, 112, 115, 58, 47, 47]⟩ : ByteArray)] rfl (by (try simp only [List.map_toArray, List.map_cons, List.map_nil]); first | done | rfl | (simp only [List.length_drop, List.length_take]; rfl)) ?_; (with_reducible refine (usherlaw9_head.calls a0 (⟨#[104, 116, 116, 112, 115, 58, 47, 47]⟩ : ByteArray) true _ A58.out).mono ?_); rintro e w' ⟨rfl, ⟨nd, rfl⟩⟩; refine ⟨_, rfl, ?_⟩))
                          go_loopg [7] kj27 (fun kq v7 w' => ∃ (x7_4 : Int), v7 = .int .i64 x7_4 ∧ Aside0 (usherlaw9_TermsRedirectSafe.l1 kq a0 x7_4 = some r) ∧ Aside0 (kq ≤ kj27) ∧ Aside0 (Below w.heap.size w w'))
                          case atStart => exact ⟨(8), (by first | rfl | (simp; done) | (simp [*]; done) | (simp [bne]; done)), H', ⟨Nat.le_refl _⟩, ⟨by repeat (first | (with_reducible first | exact HB.out | apply below_alloc | apply pw_below_drewN | apply below_drew1) | exact HB.out)⟩⟩
                          case round =>
                            clear H'
                            try clear c1
                            try clear c2
                            try clear p2
                            try clear q2
                            try clear hx2
                            try clear c3
                            try clear c4
                            try clear c5
                            try clear c6
                            try clear p6
                            try clear c11
                            try clear c13
                            try clear c14
                            try clear c16
                            try clear c18
                            try clear c18b0
                            try clear c19
                            try clear c19b0
                            try clear p20
                            try clear q20
                            try clear hx20
                            try clear c21
                            try clear c21b0
                            try clear c22
                            try clear c22b0
                            try clear c23
                            try clear c23b0
                            try clear c23b1
                            try clear c24
                            try clear c24b0
                            try clear c24b1
                            try clear c25
                            try clear c25b0
                            try clear c25b1
                            try clear c26
                            try clear c26b0
                            try clear c26b1
                            try clear c27
                            try clear c27b0
                            try clear c27b1
                            try clear c29
                            try clear c29b0
                            try clear c29b1
                            try clear c30
                            try clear c32
                            try clear c33
                            try clear c33b0
                            try clear c33b1
                            try clear c35
                            try clear c37
                            try clear c39
                            try clear c41
                            try clear c43
                            try clear c46
                            try clear c49
                            try clear c51
                            try clear c53
                            try clear c56
                            try clear c59
                            try clear p2
                            try clear p20
                            try clear p6
                            try clear q2
                            try clear q20
                            obtain ⟨x7_4, rfl, HA, HK4, HB⟩ := hrel
                            cases gk with
                            | zero => exact absurd HA.out (by simp [usherlaw9_TermsRedirectSafe.l1])
                            | succ k4 =>
                              have H := HA.out
                              clear HA
                              simp only [usherlaw9_TermsRedirectSafe.l1] at H
                              have HC60 := Aside0.mk H
                              clear H
                              go_upto_region 19 with (fail)
                              go_cut [109] (fun v109 wc => ∃ (kq : Nat) (x109_59 : Bool), v109 = .bool x109_59 ∧ Aside0 (usherlaw9_TermsRedirectSafe.j4 kq a0 x7_4 x109_59 = some r) ∧ Aside0 (kq ≤ k4) ∧ Aside0 (Below w.heap.size w wc))
                              case first =>
                                have H := HC60.out
                                clear HC60
                                by_cases c61 : x7_4 < (a0.size : Int)
                                · rw [if_pos c61] at H
                                  have c61b0 : decide (x7_4 < (a0.size : Int)) = true := decide_eq_true c61
                                  clear c61
                                  (first | rw [c61b0] | (simp only [i64_w, i32_w]; rw [c61b0]) | skip)
                                  by_cases c62 : 0 ≤ x7_4
                                  · rw [if_pos c62] at H
                                    have c62b0 : decide (0 ≤ x7_4) = true := decide_eq_true c62
                                    clear c62
                                    by_cases c64 : (bt a0 x7_4) = 47
                                    · rw [if_pos c64] at H
                                      have c64b0 : ((bt a0 x7_4) == 47) = true := beq_iff_eq.mpr c64
                                      have c64b1 : ((bt a0 x7_4) != 47) = false := bne_eq_false_iff_eq.mpr c64
                                      clear c64
                                      have H' := Aside0.mk H
                                      clear H
                                      have p63 : 0 ≤ (x7_4 : Int) := of_decide_eq_true (by first | (with_reducible assumption) | assumption)
                                      have q63 : x7_4 < (a0.size : Int) := of_decide_eq_true (by first | (with_reducible assumption) | assumption)
                                      have hx63 := bt_at a0 x7_4
                                      replace p63 := eq_true p63
                                      replace q63 := eq_true q63
                                      go_wp2
                                      go_meet
                                      case rel => exact ⟨_, (false), (by first | rfl | (simp; done) | (simp [*]; done) | (simp [bne]; done)), H', ⟨by have := HJ1.out; have := HK2.out; have := HJ27.out; have := HK4.out; first | omega | exact Nat.le_refl _⟩, ⟨by repeat (first | (with_reducible first | exact HB.out | apply below_alloc | apply pw_below_drewN | apply below_drew1) | exact HB.out)⟩⟩
                                    · rw [if_neg c64] at H
                                      have c64b0 : ((bt a0 x7_4) == 47) = false := beq_eq_false_iff_ne.mpr c64
                                      have c64b1 : ((bt a0 x7_4) != 47) = true := bne_iff_ne.mpr c64
                                      have H' := Aside0.mk H
                                      clear H
                                      have p63 : 0 ≤ (x7_4 : Int) := of_decide_eq_true (by first | (with_reducible assumption) | assumption)
                                      have q63 : x7_4 < (a0.size : Int) := of_decide_eq_true (by first | (with_reducible assumption) | assumption)
                                      have hx63 := bt_at a0 x7_4
                                      replace p63 := eq_true p63
                                      replace q63 := eq_true q63
                                      have p65 : 0 ≤ (x7_4 : Int) := of_decide_eq_true (by first | (with_reducible assumption) | assumption)
                                      have q65 : x7_4 < (a0.size : Int) := of_decide_eq_true (by first | (with_reducible assumption) | assumption)
                                      have hx65 := bt_at a0 x7_4
                                      replace p65 := eq_true p65
                                      replace q65 := eq_true q65
                                      go_wp2
                                      go_meet
                                      case rel => exact ⟨_, (((bt a0 x7_4) != 63)), (by first | rfl | (simp; done) | (simp [*]; done) | (simp [bne]; done)), H', ⟨by have := HJ1.out; have := HK2.out; have := HJ27.out; have := HK4.out; first | omega | exact Nat.le_refl _⟩, ⟨by repeat (first | (with_reducible first | exact HB.out | apply below_alloc | apply pw_below_drewN | apply below_drew1) | exact HB.out)⟩⟩
                                  · rw [if_neg c62] at H
                                    exact absurd H (by simp)
                                · rw [if_neg c61] at H
                                  have c61b0 : decide (x7_4 < (a0.size : Int)) = false := decide_eq_false c61
                                  clear c61
                                  (first | rw [c61b0] | (simp only [i64_w, i32_w]; rw [c61b0]) | skip)
                                  have H' := Aside0.mk H
                                  clear H
                                  go_wp2
                                  go_meet
                                  case rel => exact ⟨_, (false), (by first | rfl | (simp; done) | (simp [*]; done) | (simp [bne]; done)), H', ⟨by have := HJ1.out; have := HK2.out; have := HJ27.out; have := HK4.out; first | omega | exact Nat.le_refl _⟩, ⟨by repeat (first | (with_reducible first | exact HB.out | apply below_alloc | apply pw_below_drewN | apply below_drew1) | exact HB.out)⟩⟩
                              case rest =>
                                clear HC60
                                try clear c1
                                try clear c2
                                try clear p2
                                try clear q2
                                try clear hx2
                                try clear c3
                                try clear c4
                                try clear c5
                                try clear c6
                                try clear p6
                                try clear q6
                                try clear hx6
                                try clear c11
                                try clear c13
                                try clear c14
                                try clear c16
                                try clear c18
                                try clear c18b0
                                try clear c19
                                try clear c19b0
                                try clear p20
                                try clear q20
                                try clear hx20
                                try clear c21
                                try clear c21b0
                                try clear c22
                                try clear c22b0
                                try clear c23
                                try clear c23b0
                                try clear c23b1
                                try clear c24
                                try clear c24b0
                                try clear c24b1
                                try clear c25
                                try clear c25b0
                                try clear c25b1
                                try clear c26
                                try clear c26b0
                                try clear c26b1
                                try clear c27
                                try clear c27b0
                                try clear c27b1
                                try clear c29
                                try clear c29b0
                                try clear c29b1
                                try clear c30
                                try clear c32
                                try clear c33
                                try clear c33b0
                                try clear c33b1
                                try clear c35
                                try clear c37
                                try clear c39
                                try clear c41
                                try clear c43
                                try clear c46
                                try clear c49
                                try clear c51
                                try clear c53
                                try clear c56
                                try clear c59
                                try clear c61
                                try clear c61b0
                                try clear c62
                                try clear c62b0
                                try clear p63
                                try clear q63
                                try clear hx63
                                try clear c64
                                try clear c64b0
                                try clear c64b1
                                try clear p64
                                try clear p65
                                try clear q65
                                try clear hx65
                                try clear p2
                                try clear p20
                                try clear p6
                                try clear p63
                                try clear p65
                                try clear q2
                                try clear q20
                                try clear q63
                                try clear q65
                                obtain ⟨kq, x109_59, rfl, HA, HJ59, HB⟩ := hcut
                                cases kq with
                                | zero => exact absurd HA.out (by simp [usherlaw9_TermsRedirectSafe.j4])
                                | succ kj59 =>
                                  have H := HA.out
                                  clear HA
                                  simp only [usherlaw9_TermsRedirectSafe.j4] at H
                                  by_cases c66 : x109_59 = true
                                  · subst c66
                                    have H1 : (if 0 ≤ x7_4 then (if x7_4 < (a0.size : Int) then (if (bt a0 x7_4) = 64 then (some false) else (usherlaw9_TermsRedirectSafe.l1 kj59 a0 (wrap64 (x7_4 + 1)))) else (none)) else (none)) = some r := by rw [if_pos rfl] at H; exact H
                                    clear H
                                    have H := H1
                                    clear H1
                                    by_cases c67 : 0 ≤ x7_4
                                    · rw [if_pos c67] at H
                                      have c67b0 : decide (0 ≤ x7_4) = true := decide_eq_true c67
                                      clear c67
                                      by_cases c68 : x7_4 < (a0.size : Int)
                                      · rw [if_pos c68] at H
                                        have c68b0 : decide (x7_4 < (a0.size : Int)) = true := decide_eq_true c68
                                        clear c68
                                        by_cases c70 : (bt a0 x7_4) = 64
                                        · rw [if_pos c70] at H
                                          have c70b0 : ((bt a0 x7_4) == 64) = true := beq_iff_eq.mpr c70
                                          have c70b1 : ((bt a0 x7_4) != 64) = false := bne_eq_false_iff_eq.mpr c70
                                          clear c70
                                          obtain rfl := Option.some.inj H
                                          have p69 : 0 ≤ (x7_4 : Int) := of_decide_eq_true (by first | (with_reducible assumption) | assumption)
                                          have q69 : x7_4 < (a0.size : Int) := of_decide_eq_true (by first | (with_reducible assumption) | assumption)
                                          have hx69 := bt_at a0 x7_4
                                          replace p69 := eq_true p69
                                          replace q69 := eq_true q69
                                          go_wp2
                                          go_ret
                                          exact ⟨by first | rfl | (simp [errW_none, errW_some] <;> rfl) | (simp [*, errW_none, errW_some] <;> rfl), by repeat (first | (with_reducible first | exact HB.out | apply below_alloc | apply pw_below_drewN | apply below_drew1) | exact HB.out)⟩
                                        · rw [if_neg c70] at H
                                          have c70b0 : ((bt a0 x7_4) == 64) = false := beq_eq_false_iff_ne.mpr c70
                                          have c70b1 : ((bt a0 x7_4) != 64) = true := bne_iff_ne.mpr c70
                                          have H' := Aside0.mk H
                                          clear H
                                          have p69 : 0 ≤ (x7_4 : Int) := of_decide_eq_true (by first | (with_reducible assumption) | assumption)
                                          have q69 : x7_4 < (a0.size : Int) := of_decide_eq_true (by first | (with_reducible assumption) | assumption)
                                          have hx69 := bt_at a0 x7_4
                                          replace p69 := eq_true p69
                                          replace q69 := eq_true q69
                                          go_wp2
                                          go_roundg kj59
                                          case measure => have := HJ1.out; have := HK2.out; have := HJ27.out; have := HK4.out; have := HJ59.out; omega
                                          case rel => exact ⟨(wrap64 (x7_4 + 1)), (by first | rfl | (simp; done) | (simp [*]; done) | (simp [bne]; done)), H', ⟨by have := HJ1.out; have := HK2.out; have := HJ27.out; have := HK4.out; have := HJ59.out; omega⟩, ⟨by repeat (first | (with_reducible first | exact HB.out | apply below_alloc | apply pw_below_drewN | apply below_drew1) | exact HB.out)⟩⟩
                                      · rw [if_neg c68] at H
                                        exact absurd H (by simp)
                                    · rw [if_neg c67] at H
                                      exact absurd H (by simp)
                                  · replace c66 := Bool.eq_false_iff.mpr c66
                                    subst c66
                                    have H1 : (some true) = some r := by rw [if_neg (show ¬ (false = true) by decide)] at H; exact H
                                    clear H
                                    have H := H1
                                    clear H1
                                    obtain rfl := Option.some.inj H
                                    go_wp2
                                    go_ret
                                    exact ⟨by first | rfl | (simp [errW_none, errW_some] <;> rfl) | (simp [*, errW_none, errW_some] <;> rfl), by repeat (first | (with_reducible first | exact HB.out | apply below_alloc | apply pw_below_drewN | apply below_drew1) | exact HB.out)⟩
                        · replace c59 := Bool.eq_false_iff.mpr c59
                          subst c59
                          have H1 : (usherlaw9_TermsRedirectSafe.l2 kj27 a0 false 0) = some r := by rw [if_neg (show ¬ (false = true) by decide)] at H; exact H
                          clear H
                          have H := H1
                          clear H1
                          have H' := Aside0.mk H
                          clear H
                          go_wp2_with (first | ((with_reducible refine gate_callee (f := 13) rfl ?_); refine goesL_ (some 66) rfl rfl Tryd.func13 (by kernel_rfl) rfl #[.string a0, .string (⟨#[104, 116, 116, 112, 58, 47, 47]⟩ : ByteArray)] rfl (by (try simp only [List.map_toArray, List.map_cons, List.map_nil]); first | done | rfl | (simp only [List.length_drop, List.length_take]; rfl)) ?_; (with_reducible refine (usherlaw9_head.calls a0 (⟨#[104, 116, 116, 112, 58, 47, 47]⟩ : ByteArray) false _ A31.out).mono ?_); rintro e w' ⟨rfl, ⟨nd, rfl⟩⟩; refine ⟨_, rfl, ?_⟩) | ((with_reducible refine gate_callee (f := 13) rfl ?_); refine goesL_ (some 93) rfl rfl Tryd.func13 (by kernel_rfl) rfl #[.string a0, .string (⟨#[104, 116, 116, 112, 115, 58, 47, 47]⟩ : ByteArray)] rfl (by (try simp only [List.map_toArray, List.map_cons, List.map_nil]); first | done | rfl | (simp only [List.length_drop, List.length_take]; rfl)) ?_; (with_reducible refine (usherlaw9_head.calls a0 (⟨#[104, 116, 116, 112, 115, 58, 47, 47]⟩ : ByteArray) false _ A58.out).mono ?_); rintro e w' ⟨rfl, ⟨nd, rfl⟩⟩; refine ⟨_, rfl, ?_⟩))
                          go_loopg [8, 9] kj27 (fun kq v8 v9 w' => ∃ (x8_4 : Bool) (x9_4 : Int), v8 = .bool x8_4 ∧ v9 = .int .i64 x9_4 ∧ Aside0 (usherlaw9_TermsRedirectSafe.l2 kq a0 x8_4 x9_4 = some r) ∧ Aside0 (kq ≤ kj27) ∧ Aside0 (Below w.heap.size w w'))
                          case atStart => exact ⟨(false), (0), (by first | rfl | (simp; done) | (simp [*]; done) | (simp [bne]; done)), (by first | rfl | (simp; done) | (simp [*]; done) | (simp [bne]; done)), H', ⟨Nat.le_refl _⟩, ⟨by repeat (first | (with_reducible first | exact HB.out | apply below_alloc | apply pw_below_drewN | apply below_drew1) | exact HB.out)⟩⟩
                          case round =>
                            clear H'
                            try clear c1
                            try clear c2
                            try clear p2
                            try clear q2
                            try clear hx2
                            try clear c3
                            try clear c4
                            try clear c5
                            try clear c6
                            try clear p6
                            try clear q6
                            try clear hx6
                            try clear c7
                            try clear c11
                            try clear c13
                            try clear c14
                            try clear c16
                            try clear c18
                            try clear c18b0
                            try clear c19
                            try clear c19b0
                            try clear p20
                            try clear q20
                            try clear hx20
                            try clear c21
                            try clear c21b0
                            try clear c22
                            try clear c22b0
                            try clear c23
                            try clear c23b0
                            try clear c23b1
                            try clear c24
                            try clear c24b0
                            try clear c24b1
                            try clear c25
                            try clear c25b0
                            try clear c25b1
                            try clear c26
                            try clear c26b0
                            try clear c26b1
                            try clear c27
                            try clear c27b0
                            try clear c27b1
                            try clear c29
                            try clear c29b0
                            try clear c29b1
                            try clear c30
                            try clear c32
                            try clear c33
                            try clear c33b0
                            try clear c33b1
                            try clear c35
                            try clear c37
                            try clear c39
                            try clear c41
                            try clear c43
                            try clear c46
                            try clear c49
                            try clear c51
                            try clear c53
                            try clear c56
                            try clear c59
                            try clear c61
                            try clear c61b0
                            try clear c62
                            try clear c62b0
                            try clear p63
                            try clear q63
                            try clear hx63
                            try clear c64
                            try clear c64b0
                            try clear c64b1
                            try clear p64
                            try clear p65
                            try clear q65
                            try clear hx65
                            try clear c66
                            try clear c67
                            try clear c67b0
                            try clear c68
                            try clear c68b0
                            try clear p69
                            try clear q69
                            try clear hx69
                            try clear c70
                            try clear c70b0
                            try clear c70b1
                            try clear p2
                            try clear p20
                            try clear p6
                            try clear p63
                            try clear p64
                            try clear p65
                            try clear p69
                            try clear q2
                            try clear q20
                            try clear q6
                            try clear q63
                            try clear q65
                            try clear q69
                            obtain ⟨x8_4, x9_4, rfl, rfl, HA, HK4, HB⟩ := hrel
                            cases gk with
                            | zero => exact absurd HA.out (by simp [usherlaw9_TermsRedirectSafe.l2])
                            | succ k4 =>
                              have H := HA.out
                              clear HA
                              simp only [usherlaw9_TermsRedirectSafe.l2] at H
                              by_cases c71 : (wrap64 (x9_4 + 1)) < (a0.size : Int)
                              · rw [if_pos c71] at H
                                have c71b0 : decide ((wrap64 (x9_4 + 1)) < (a0.size : Int)) = true := decide_eq_true c71
                                clear c71
                                by_cases c72 : 0 ≤ x9_4
                                · rw [if_pos c72] at H
                                  have c72b0 : decide (0 ≤ x9_4) = true := decide_eq_true c72
                                  clear c72
                                  by_cases c73 : x9_4 < (a0.size : Int)
                                  · rw [if_pos c73] at H
                                    have c73b0 : decide (x9_4 < (a0.size : Int)) = true := decide_eq_true c73
                                    clear c73
                                    by_cases c75 : (bt a0 x9_4) = 58
                                    · rw [if_pos c75] at H
                                      have c75b0 : ((bt a0 x9_4) == 58) = true := beq_iff_eq.mpr c75
                                      have c75b1 : ((bt a0 x9_4) != 58) = false := bne_eq_false_iff_eq.mpr c75
                                      clear c75
                                      by_cases c76 : x8_4 = true
                                      · subst c76
                                        have H1 : (if 0 ≤ (wrap64 (x9_4 + 1)) then (if (bt a0 (wrap64 (x9_4 + 1))) = 47 then (if (wrap64 (x9_4 + 2)) ≥ (a0.size : Int) then (some true) else (if 0 ≤ (wrap64 (x9_4 + 2)) then (if (wrap64 (x9_4 + 2)) < (a0.size : Int) then (some ((bt a0 (wrap64 (x9_4 + 2))) != 47)) else (none)) else (none))) else (some false)) else (none)) = some r := by rw [if_pos rfl] at H; exact H
                                        clear H
                                        have H := H1
                                        clear H1
                                        obtain ⟨ji77, hji77⟩ : ∃ j_ : Int, (wrap64 (x9_4 + 1)) = j_ := ⟨_, rfl⟩
                                        replace H : (if 0 ≤ (ji77) then (if (bt a0 (ji77)) = 47 then (if (wrap64 (x9_4 + 2)) ≥ (a0.size : Int) then (some true) else (if 0 ≤ (wrap64 (x9_4 + 2)) then (if (wrap64 (x9_4 + 2)) < (a0.size : Int) then (some ((bt a0 (wrap64 (x9_4 + 2))) != 47)) else (none)) else (none))) else (some false)) else (none)) = some r := by first | (rw [hji77] at H; exact H) | (simp only [hji77] at H ⊢; exact H)
                                        (try rw [hji77] at c71b0)
                                        have hji77w : (IntKind.i64.wrap (x9_4 + 1)) = ji77 := (i64_w _).trans hji77
                                        by_cases c78 : 0 ≤ (ji77)
                                        · rw [if_pos c78] at H
                                          have c78b0 : decide (0 ≤ (ji77)) = true := decide_eq_true c78
                                          clear c78
                                          by_cases c80 : (bt a0 (ji77)) = 47
                                          · rw [if_pos c80] at H
                                            have c80b0 : ((bt a0 (ji77)) == 47) = true := beq_iff_eq.mpr c80
                                            have c80b1 : ((bt a0 (ji77)) != 47) = false := bne_eq_false_iff_eq.mpr c80
                                            clear c80
                                            by_cases c81 : (wrap64 (x9_4 + 2)) ≥ (a0.size : Int)
                                            · rw [if_pos c81] at H
                                              have c81b0 : decide ((a0.size : Int) ≤ (wrap64 (x9_4 + 2))) = true := decide_eq_true c81
                                              clear c81
                                              obtain rfl := Option.some.inj H
                                              have p74 : 0 ≤ (x9_4 : Int) := of_decide_eq_true (by first | (with_reducible assumption) | assumption)
                                              have q74 : x9_4 < (a0.size : Int) := of_decide_eq_true (by first | (with_reducible assumption) | assumption)
                                              have hx74 := bt_at a0 x9_4
                                              replace p74 := eq_true p74
                                              replace q74 := eq_true q74
                                              have p79 : 0 ≤ ((ji77) : Int) := of_decide_eq_true (by first | (with_reducible assumption) | assumption)
                                              have q79 : (ji77) < (a0.size : Int) := of_decide_eq_true (by first | (with_reducible assumption) | assumption)
                                              have hx79 := bt_at a0 (ji77)
                                              replace p79 := eq_true p79
                                              replace q79 := eq_true q79
                                              go_wp2
                                              go_ret
                                              exact ⟨by first | rfl | (simp [errW_none, errW_some] <;> rfl) | (simp only [← hji77]; first | rfl | (simp [errW_none, errW_some] <;> rfl)) | (simp [*, errW_none, errW_some] <;> rfl), by repeat (first | (with_reducible first | exact HB.out | apply below_alloc | apply pw_below_drewN | apply below_drew1) | exact HB.out)⟩
                                            · rw [if_neg c81] at H
                                              have c81b0 : decide ((a0.size : Int) ≤ (wrap64 (x9_4 + 2))) = false := decide_eq_false c81
                                              clear c81
                                              obtain ⟨ji82, hji82⟩ : ∃ j_ : Int, (wrap64 (x9_4 + 2)) = j_ := ⟨_, rfl⟩
                                              replace H : (if 0 ≤ (ji82) then (if (ji82) < (a0.size : Int) then (some ((bt a0 (ji82)) != 47)) else (none)) else (none)) = some r := by first | (rw [hji82] at H; exact H) | (simp only [hji82] at H ⊢; exact H)
                                              (try rw [hji82] at c81b0)
                                              have hji82w : (IntKind.i64.wrap (x9_4 + 2)) = ji82 := (i64_w _).trans hji82
                                              by_cases c83 : 0 ≤ (ji82)
                                              · rw [if_pos c83] at H
                                                have c83b0 : decide (0 ≤ (ji82)) = true := decide_eq_true c83
                                                clear c83
                                                by_cases c84 : (ji82) < (a0.size : Int)
                                                · rw [if_pos c84] at H
                                                  have c84b0 : decide ((ji82) < (a0.size : Int)) = true := decide_eq_true c84
                                                  clear c84
                                                  obtain rfl := Option.some.inj H
                                                  have p74 : 0 ≤ (x9_4 : Int) := of_decide_eq_true (by first | (with_reducible assumption) | assumption)
                                                  have q74 : x9_4 < (a0.size : Int) := of_decide_eq_true (by first | (with_reducible assumption) | assumption)
                                                  have hx74 := bt_at a0 x9_4
                                                  replace p74 := eq_true p74
                                                  replace q74 := eq_true q74
                                                  have p79 : 0 ≤ ((ji77) : Int) := of_decide_eq_true (by first | (with_reducible assumption) | assumption)
                                                  have q79 : (ji77) < (a0.size : Int) := of_decide_eq_true (by first | (with_reducible assumption) | assumption)
                                                  have hx79 := bt_at a0 (ji77)
                                                  replace p79 := eq_true p79
                                                  replace q79 := eq_true q79
                                                  have p85 : 0 ≤ ((ji82) : Int) := of_decide_eq_true (by first | (with_reducible assumption) | assumption)
                                                  have q85 : (ji82) < (a0.size : Int) := of_decide_eq_true (by first | (with_reducible assumption) | assumption)
                                                  have hx85 := bt_at a0 (ji82)
                                                  replace p85 := eq_true p85
                                                  replace q85 := eq_true q85
                                                  go_wp2
                                                  go_ret
                                                  exact ⟨by first | rfl | (simp [errW_none, errW_some] <;> rfl) | (simp only [← hji77, ← hji82]; first | rfl | (simp [errW_none, errW_some] <;> rfl)) | (simp [*, errW_none, errW_some] <;> rfl), by repeat (first | (with_reducible first | exact HB.out | apply below_alloc | apply pw_below_drewN | apply below_drew1) | exact HB.out)⟩
                                                · rw [if_neg c84] at H
                                                  exact absurd H (by simp)
                                              · rw [if_neg c83] at H
                                                exact absurd H (by simp)
                                          · rw [if_neg c80] at H
                                            have c80b0 : ((bt a0 (ji77)) == 47) = false := beq_eq_false_iff_ne.mpr c80
                                            have c80b1 : ((bt a0 (ji77)) != 47) = true := bne_iff_ne.mpr c80
                                            obtain rfl := Option.some.inj H
                                            have p74 : 0 ≤ (x9_4 : Int) := of_decide_eq_true (by first | (with_reducible assumption) | assumption)
                                            have q74 : x9_4 < (a0.size : Int) := of_decide_eq_true (by first | (with_reducible assumption) | assumption)
                                            have hx74 := bt_at a0 x9_4
                                            replace p74 := eq_true p74
                                            replace q74 := eq_true q74
                                            have p79 : 0 ≤ ((ji77) : Int) := of_decide_eq_true (by first | (with_reducible assumption) | assumption)
                                            have q79 : (ji77) < (a0.size : Int) := of_decide_eq_true (by first | (with_reducible assumption) | assumption)
                                            have hx79 := bt_at a0 (ji77)
                                            replace p79 := eq_true p79
                                            replace q79 := eq_true q79
                                            go_wp2
                                            go_ret
                                            exact ⟨by first | rfl | (simp [errW_none, errW_some] <;> rfl) | (simp only [← hji77]; first | rfl | (simp [errW_none, errW_some] <;> rfl)) | (simp [*, errW_none, errW_some] <;> rfl), by repeat (first | (with_reducible first | exact HB.out | apply below_alloc | apply pw_below_drewN | apply below_drew1) | exact HB.out)⟩
                                        · rw [if_neg c78] at H
                                          exact absurd H (by simp)
                                      · replace c76 := Bool.eq_false_iff.mpr c76
                                        subst c76
                                        have H1 : (some false) = some r := by rw [if_neg (show ¬ (false = true) by decide)] at H; exact H
                                        clear H
                                        have H := H1
                                        clear H1
                                        obtain rfl := Option.some.inj H
                                        have p74 : 0 ≤ (x9_4 : Int) := of_decide_eq_true (by first | (with_reducible assumption) | assumption)
                                        have q74 : x9_4 < (a0.size : Int) := of_decide_eq_true (by first | (with_reducible assumption) | assumption)
                                        have hx74 := bt_at a0 x9_4
                                        replace p74 := eq_true p74
                                        replace q74 := eq_true q74
                                        go_wp2
                                        go_ret
                                        exact ⟨by first | rfl | (simp [errW_none, errW_some] <;> rfl) | (simp [*, errW_none, errW_some] <;> rfl), by repeat (first | (with_reducible first | exact HB.out | apply below_alloc | apply pw_below_drewN | apply below_drew1) | exact HB.out)⟩
                                    · rw [if_neg c75] at H
                                      have c75b0 : ((bt a0 x9_4) == 58) = false := beq_eq_false_iff_ne.mpr c75
                                      have c75b1 : ((bt a0 x9_4) != 58) = true := bne_iff_ne.mpr c75
                                      by_cases c86 : x8_4 = true
                                      · subst c86
                                        have H1 : (usherlaw9_TermsRedirectSafe.l2 k4 a0 true (wrap64 (x9_4 + 1))) = some r := by rw [if_pos rfl] at H; exact H
                                        clear H
                                        have H := H1
                                        clear H1
                                        have H' := Aside0.mk H
                                        clear H
                                        have p74 : 0 ≤ (x9_4 : Int) := of_decide_eq_true (by first | (with_reducible assumption) | assumption)
                                        have q74 : x9_4 < (a0.size : Int) := of_decide_eq_true (by first | (with_reducible assumption) | assumption)
                                        have hx74 := bt_at a0 x9_4
                                        replace p74 := eq_true p74
                                        replace q74 := eq_true q74
                                        go_wp2
                                        go_roundg k4
                                        case measure => have := HJ1.out; have := HK2.out; have := HJ27.out; have := HK4.out; omega
                                        case rel => exact ⟨(true), (wrap64 (x9_4 + 1)), (by first | rfl | (simp; done) | (simp [*]; done) | (simp [bne]; done)), (by first | rfl | (simp; done) | (simp [*]; done) | (simp [bne]; done)), H', ⟨by have := HJ1.out; have := HK2.out; have := HJ27.out; have := HK4.out; omega⟩, ⟨by repeat (first | (with_reducible first | exact HB.out | apply below_alloc | apply pw_below_drewN | apply below_drew1) | exact HB.out)⟩⟩
                                      · replace c86 := Bool.eq_false_iff.mpr c86
                                        subst c86
                                        have H1 : (usherlaw9_TermsRedirectSafe.l2 k4 a0 ((bt a0 x9_4) == 46) (wrap64 (x9_4 + 1))) = some r := by rw [if_neg (show ¬ (false = true) by decide)] at H; exact H
                                        clear H
                                        have H := H1
                                        clear H1
                                        have H' := Aside0.mk H
                                        clear H
                                        have p74 : 0 ≤ (x9_4 : Int) := of_decide_eq_true (by first | (with_reducible assumption) | assumption)
                                        have q74 : x9_4 < (a0.size : Int) := of_decide_eq_true (by first | (with_reducible assumption) | assumption)
                                        have hx74 := bt_at a0 x9_4
                                        replace p74 := eq_true p74
                                        replace q74 := eq_true q74
                                        have p87 : 0 ≤ (x9_4 : Int) := of_decide_eq_true (by first | (with_reducible assumption) | assumption)
                                        have q87 : x9_4 < (a0.size : Int) := of_decide_eq_true (by first | (with_reducible assumption) | assumption)
                                        have hx87 := bt_at a0 x9_4
                                        replace p87 := eq_true p87
                                        replace q87 := eq_true q87
                                        go_wp2
                                        go_roundg k4
                                        case measure => have := HJ1.out; have := HK2.out; have := HJ27.out; have := HK4.out; omega
                                        case rel => exact ⟨(((bt a0 x9_4) == 46)), (wrap64 (x9_4 + 1)), (by first | rfl | (simp; done) | (simp [*]; done) | (simp [bne]; done)), (by first | rfl | (simp; done) | (simp [*]; done) | (simp [bne]; done)), H', ⟨by have := HJ1.out; have := HK2.out; have := HJ27.out; have := HK4.out; omega⟩, ⟨by repeat (first | (with_reducible first | exact HB.out | apply below_alloc | apply pw_below_drewN | apply below_drew1) | exact HB.out)⟩⟩
                                  · rw [if_neg c73] at H
                                    exact absurd H (by simp)
                                · rw [if_neg c72] at H
                                  exact absurd H (by simp)
                              · rw [if_neg c71] at H
                                have c71b0 : decide ((wrap64 (x9_4 + 1)) < (a0.size : Int)) = false := decide_eq_false c71
                                clear c71
                                obtain rfl := Option.some.inj H
                                go_wp2
                                go_ret
                                exact ⟨by first | rfl | (simp [errW_none, errW_some] <;> rfl) | (simp [*, errW_none, errW_some] <;> rfl), by repeat (first | (with_reducible first | exact HB.out | apply below_alloc | apply pw_below_drewN | apply below_drew1) | exact HB.out)⟩
        · replace c16 := Bool.eq_false_iff.mpr c16
          subst c16
          have H1 : (some true) = some r := by rw [if_neg (show ¬ (false = true) by decide)] at H; exact H
          clear H
          have H := H1
          clear H1
          obtain rfl := Option.some.inj H
          go_wp2_with (first | ((with_reducible refine gate_callee (f := 11) rfl ?_); refine goesL_ (some 21) rfl rfl Tryd.func11 (by kernel_rfl) rfl #[.string a0] rfl (by (try simp only [List.map_toArray, List.map_cons, List.map_nil]); first | done | rfl | (simp only [List.length_drop, List.length_take]; rfl)) ?_; (with_reducible refine (terms_Redirect.calls (EA := EA) hk103 kj1 a0 false _ ?side1 A15.out).mono ?_); (case side1 => repeat (first | exact (Sent.below HE.out HB.out) | (with_reducible refine Sent.alloc ?_ _) | (with_reducible refine Sent.drewN ?_ _) | (with_reducible refine Sent.drew ?_))); rintro e w88 ⟨rfl, hb⟩; refine ⟨_, rfl, ?_⟩; have n0_ := Aside0.mk (below_step (by repeat (first | (with_reducible first | exact HB.out | apply below_alloc | apply pw_below_drewN | apply below_drew1) | exact HB.out)) hb); clear HB; have HB := n0_; clear n0_; (try clear hb); (try clear hb2); (try clear hk); (try clear hi)))
          go_ret
          exact ⟨by first | rfl | (simp [errW_none, errW_some] <;> rfl) | (simp [*, errW_none, errW_some] <;> rfl), by repeat (first | (with_reducible first | exact HB.out | apply below_alloc | apply pw_below_drewN | apply below_drew1) | exact HB.out)⟩

end Go.Proofs.YtopfmcgmfnmikaaDoor.X
