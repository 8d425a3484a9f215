-- Printed by a program of this session (wip/xprint), not by the kit's print.
import Derived.Test.YtmaedmmcjhmheaaXx0
import Derived.Test.YtmaedmmcjhmheaaXx3
import Derived.Test.YtmaedmmcjhmheaaXx5
import Derived.Test.YtmaedmmcjhmheaaXx7
namespace Go.Proofs.Ytmaedmmcjhmheaa.X
open Go.RowKit Go.Proofs.YtmaedmmcjhmheaaW.PrintWords Go.Proofs.YtmaedmmcjhmheaaW.PrintLast Go.Proofs.YtmaedmmcjhmheaaW.PrintMore
attribute [local go_sem] max2_int min2_int max_two min_two max_three min_three max_four min_four   -- for this text's walks alone
set_option linter.unusedVariables false
set_option linter.unusedSimpArgs false
open Go.Proofs.Ytmaedmmcjhmheaa
attribute [local go_sem] ErrBlk_alloc ErrBlk_drew ErrBlk_drewN
variable {EA : Int → Addr} {SS : List Int}

/-! ### usherlaw5_PageSentMemory: function 4 -/
mutual
def usherlaw5_PageSentMemory.j0 : Nat → List (S32) → List (S32) → List (S32) → List (S32) → Bool → ByteArray → List (S30) → ByteArray → List (S32) → ByteArray → List (S30) → ByteArray → Option (Bool)
  | 0, _, _, _, _, _, _, _, _, _, _, _, _ => none
  | k + 1, x4, x5, x6, x7, x84, x188000, x188001, x188002, x188003, x189000, x189001, x189002 => if x84 = true then (some false) else ((usherlaw5_markAll.f k x5 (⟨#[109, 97, 114, 107, 32, 111, 102, 32, 97]⟩ : ByteArray)).bind fun t210 => ((usherlaw5_markAll.f k x7 (⟨#[109, 97, 114, 107, 32, 111, 102, 32, 98]⟩ : ByteArray)).bind fun t211 => (if t210.length < 4398046511104 then (if t211.length < 4398046511104 then (usherlaw5_PageSentMemory.l0 k x4 x6 (t210 ++ [(⟨(⟨#[109, 97, 114, 107, 32, 111, 102, 32, 97]⟩ : ByteArray), (⟨#[109, 97, 114, 107, 32, 111, 102, 32, 97]⟩ : ByteArray)⟩ : S32)]) (t211 ++ [(⟨(⟨#[109, 97, 114, 107, 32, 111, 102, 32, 98]⟩ : ByteArray), (⟨#[109, 97, 114, 107, 32, 111, 102, 32, 98]⟩ : ByteArray)⟩ : S32)]) 1 x188000 x188001 x188002 x188003 x189000 x189001 x189002) else (none)) else (none))))
def usherlaw5_PageSentMemory.l0 : Nat → List (S32) → List (S32) → List (S32) → List (S32) → Int → ByteArray → List (S30) → ByteArray → List (S32) → ByteArray → List (S30) → ByteArray → Option (Bool)
  | 0, _, _, _, _, _, _, _, _, _, _, _, _ => none
  | k + 1, x4, x6, x9, x10, x11, x188000, x188001, x188002, x188003, x189000, x189001, x189002 => if x11 < 64 then (if x9.length < 4398046511104 then (if x10.length < 4398046511104 then (usherlaw5_PageSentMemory.l0 k x4 x6 (x9 ++ [(⟨(⟨#[109, 97, 114, 107, 32, 111, 102, 32, 97]⟩ : ByteArray), (⟨#[109, 97, 114, 107, 32, 111, 102, 32, 97]⟩ : ByteArray)⟩ : S32)]) (x10 ++ [(⟨(⟨#[109, 97, 114, 107, 32, 111, 102, 32, 98]⟩ : ByteArray), (⟨#[109, 97, 114, 107, 32, 111, 102, 32, 98]⟩ : ByteArray)⟩ : S32)]) (wrap64 (x11 + 1)) x188000 x188001 x188002 x188003 x189000 x189001 x189002) else (none)) else (none)) else ((page_Sent.f k x189000 x189001 x189002 x4).bind fun t224 => ((usherlaw5_marked.f k x9 (⟨#[109, 97, 114, 107, 32, 111, 102, 32, 97]⟩ : ByteArray)).bind fun t227 => ((usherlaw5_marked.f k x10 (⟨#[109, 97, 114, 107, 32, 111, 102, 32, 98]⟩ : ByteArray)).bind fun t228 => (if t227 = true then (if t228 = true then (usherlaw5_PageSentMemory.j2 k x4 x6 t224 ((x9.length : Int) == (wrap64 ((x6.length : Int) + 64))) x188000 x188001 x188002 x188003 x189000 x189001 x189002) else (usherlaw5_PageSentMemory.j2 k x4 x6 t224 false x188000 x188001 x188002 x188003 x189000 x189001 x189002)) else (usherlaw5_PageSentMemory.j2 k x4 x6 t224 false x188000 x188001 x188002 x188003 x189000 x189001 x189002)))))
def usherlaw5_PageSentMemory.j2 : Nat → List (S32) → List (S32) → List (S32) → Bool → ByteArray → List (S30) → ByteArray → List (S32) → ByteArray → List (S30) → ByteArray → Option (Bool)
  | 0, _, _, _, _, _, _, _, _, _, _, _ => none
  | k + 1, x4, x6, x12, x15, x188000, x188001, x188002, x188003, x189000, x189001, x189002 => (usherref0_SamePairs.f k x4 x188003).bind fun t229 => (if 0 ≤ (x188001.length : Int) then (if (x188001.length : Int) ≤ (x189001.length : Int) then ((usherref0_SameInputs.f k (x189001.take ((x188001.length : Int) : Int).toNat) x188001).bind fun t234 => ((usherref0_SamePairs.f k x12 x6).bind fun t235 => (if 0 ≤ (wrap64 ((x189001.length : Int) - 1)) then (if (wrap64 ((x189001.length : Int) - 1)) < (x189001.length : Int) then (usherlaw5_PageSentMemory.l1 k x4 x15 t229 t234 t235 0 x189000 (x189001.set ((wrap64 ((x189001.length : Int) - 1)) : Int).toNat (⟨(rd_T30 x189001 (wrap64 ((x189001.length : Int) - 1))).f0, (rd_T30 x189001 (wrap64 ((x189001.length : Int) - 1))).f1, (⟨#[111, 118, 101, 114]⟩ : ByteArray), (rd_T30 x189001 (wrap64 ((x189001.length : Int) - 1))).f3⟩ : S30)) x189002) else (none)) else (none)))) else (none)) else (none))
def usherlaw5_PageSentMemory.l1 : Nat → List (S32) → Bool → Bool → Bool → Bool → Int → ByteArray → List (S30) → ByteArray → Option (Bool)
  | 0, _, _, _, _, _, _, _, _, _ => none
  | k + 1, x4, x15, x16, x17, x18, x19, x189000, x189001, x189002 => if x19 < (x4.length : Int) then (if 0 < (x189001.length : Int) then (if 0 ≤ x19 then (usherlaw5_PageSentMemory.l1 k (x4.set (x19 : Int).toNat (⟨(rd_T30 x189001 0).f1, (⟨#[111, 118, 101, 114]⟩ : ByteArray)⟩ : S32)) x15 x16 x17 x18 (wrap64 (x19 + 1)) x189000 x189001 x189002) else (none)) else (none)) else ((some (([] : List (S30)) : List (S30))).bind fun y240 => (if y240.length + x189001.length < 2513169434916 then ((page_Sent.f k x189000 x189001 x189002 x4).bind fun t246 => ((some (([] : List (S32)) : List (S32))).bind fun y249 => (if y249.length + x4.length < 4398046511104 then ((page_Sent.f k x189000 (y240 ++ x189001) x189002 (y249 ++ x4)).bind fun t255 => ((usherref0_SamePairs.f k t246 t255).bind fun t258 => (if x15 = true then (if x16 = true then (if x17 = true then (if x18 = true then (some t258) else (some false)) else (some false)) else (some false)) else (some false)))) else (none)))) else (none)))
end
def usherlaw5_PageSentMemory.f (k : Nat) (a0_0 : ByteArray) (l0_1 : List (S30)) (a0_2 : ByteArray) (l0_3 : List (S32)) : Option (Bool) := if ([] : List (S30)).length + l0_1.length < 2513169434916 then ((some (([] : List (S30)) ++ l0_1 : List (S30))).bind fun y189 => (if y189.length < 2513169434916 then ((some (y189 ++ [(⟨1, (⟨#[97, 108, 119, 97, 121, 115]⟩ : ByteArray), (⟨#[118]⟩ : ByteArray), (⟨#[]⟩ : ByteArray)⟩ : S30)] : List (S30))).bind fun y192 => (if ([] : List (S32)).length + l0_3.length < 4398046511104 then ((some (([] : List (S32)) ++ l0_3 : List (S32))).bind fun y195 => ((page_Sent.f k a0_0 y192 a0_2 y195).bind fun t198 => (if ([] : List (S32)).length + t198.length < 4398046511104 then ((some (([] : List (S32)) ++ t198 : List (S32))).bind fun y201 => ((page_Sent.f k a0_0 y192 a0_2 y195).bind fun t204 => ((usherref0_SamePairs.f k t198 t204).bind fun t207 => (if t207 = true then (if (t198.length : Int) = 0 then (usherlaw5_PageSentMemory.j0 k y195 t198 y201 t204 true a0_0 l0_1 a0_2 l0_3 a0_0 y192 a0_2) else (if 0 ≤ (wrap64 ((t198.length : Int) - 1)) then (if (wrap64 ((t198.length : Int) - 1)) < (t198.length : Int) then (if ((rd_T32 t198 (wrap64 ((t198.length : Int) - 1))).f0).toList = ([97, 108, 119, 97, 121, 115] : List UInt8) then (usherlaw5_PageSentMemory.j0 k y195 t198 y201 t204 (((rd_T32 t198 (wrap64 ((t198.length : Int) - 1))).f1).toList != ([118] : List UInt8)) a0_0 l0_1 a0_2 l0_3 a0_0 y192 a0_2) else (usherlaw5_PageSentMemory.j0 k y195 t198 y201 t204 true a0_0 l0_1 a0_2 l0_3 a0_0 y192 a0_2)) else (none)) else (none))) else (usherlaw5_PageSentMemory.j0 k y195 t198 y201 t204 true a0_0 l0_1 a0_2 l0_3 a0_0 y192 a0_2))))) else (none)))) else (none))) else (none))) else (none)
theorem usherlaw5_PageSentMemory.mono_l : ∀ k, (∀ y0 y1 y2 y3 y4 y5 y6 y7 y8 y9 y10 y11, LeO (usherlaw5_PageSentMemory.j0 k y0 y1 y2 y3 y4 y5 y6 y7 y8 y9 y10 y11) (usherlaw5_PageSentMemory.j0 (k + 1) y0 y1 y2 y3 y4 y5 y6 y7 y8 y9 y10 y11)) ∧ (∀ y0 y1 y2 y3 y4 y5 y6 y7 y8 y9 y10 y11, LeO (usherlaw5_PageSentMemory.l0 k y0 y1 y2 y3 y4 y5 y6 y7 y8 y9 y10 y11) (usherlaw5_PageSentMemory.l0 (k + 1) y0 y1 y2 y3 y4 y5 y6 y7 y8 y9 y10 y11)) ∧ (∀ y0 y1 y2 y3 y4 y5 y6 y7 y8 y9 y10, LeO (usherlaw5_PageSentMemory.j2 k y0 y1 y2 y3 y4 y5 y6 y7 y8 y9 y10) (usherlaw5_PageSentMemory.j2 (k + 1) y0 y1 y2 y3 y4 y5 y6 y7 y8 y9 y10)) ∧ (∀ y0 y1 y2 y3 y4 y5 y6 y7 y8, LeO (usherlaw5_PageSentMemory.l1 k y0 y1 y2 y3 y4 y5 y6 y7 y8) (usherlaw5_PageSentMemory.l1 (k + 1) y0 y1 y2 y3 y4 y5 y6 y7 y8))
  | 0 => ⟨fun _ _ _ _ _ _ _ _ _ _ _ _ r h => by simp [usherlaw5_PageSentMemory.j0] at h, fun _ _ _ _ _ _ _ _ _ _ _ _ r h => by simp [usherlaw5_PageSentMemory.l0] at h, fun _ _ _ _ _ _ _ _ _ _ _ r h => by simp [usherlaw5_PageSentMemory.j2] at h, fun _ _ _ _ _ _ _ _ _ r h => by simp [usherlaw5_PageSentMemory.l1] at h⟩
  | k + 1 => by
    obtain ⟨ih0, ih1, ih2, ih3⟩ := usherlaw5_PageSentMemory.mono_l k
    refine ⟨?_, ?_, ?_, ?_⟩
    · intro y0 y1 y2 y3 y4 y5 y6 y7 y8 y9 y10 y11
      unfold usherlaw5_PageSentMemory.j0
      repeat' first
      | (with_reducible exact ih0 _ _ _ _ _ _ _ _ _ _ _ _)
      | (with_reducible exact ih1 _ _ _ _ _ _ _ _ _ _ _ _)
      | (with_reducible exact ih2 _ _ _ _ _ _ _ _ _ _ _)
      | (with_reducible exact ih3 _ _ _ _ _ _ _ _ _)
      | (with_reducible exact page_Sent.mono _ _ _ _ _)
      | (with_reducible exact usherlaw5_markAll.mono _ _ _)
      | (with_reducible exact usherlaw5_marked.mono _ _ _)
      | (with_reducible exact usherref0_SameInputs.mono _ _ _)
      | (with_reducible exact usherref0_SamePairs.mono _ _ _)
      | (with_reducible exact LeO.refl _)
      | (with_reducible exact LeO.none _)
      | (with_reducible refine LeO.ite ?_ ?_)
      | (with_reducible refine LeO.bind ?_ (fun _ => ?_))
      | exact ih0 _ _ _ _ _ _ _ _ _ _ _ _
      | exact ih1 _ _ _ _ _ _ _ _ _ _ _ _
      | exact ih2 _ _ _ _ _ _ _ _ _ _ _
      | exact ih3 _ _ _ _ _ _ _ _ _
      | exact page_Sent.mono _ _ _ _ _
      | exact usherlaw5_markAll.mono _ _ _
      | exact usherlaw5_marked.mono _ _ _
      | exact usherref0_SameInputs.mono _ _ _
      | exact usherref0_SamePairs.mono _ _ _
      | exact LeO.none _
      | refine LeO.ite ?_ ?_
      | refine LeO.bind ?_ (fun _ => ?_)
    · intro y0 y1 y2 y3 y4 y5 y6 y7 y8 y9 y10 y11
      unfold usherlaw5_PageSentMemory.l0
      repeat' first
      | (with_reducible exact ih0 _ _ _ _ _ _ _ _ _ _ _ _)
      | (with_reducible exact ih1 _ _ _ _ _ _ _ _ _ _ _ _)
      | (with_reducible exact ih2 _ _ _ _ _ _ _ _ _ _ _)
      | (with_reducible exact ih3 _ _ _ _ _ _ _ _ _)
      | (with_reducible exact page_Sent.mono _ _ _ _ _)
      | (with_reducible exact usherlaw5_markAll.mono _ _ _)
      | (with_reducible exact usherlaw5_marked.mono _ _ _)
      | (with_reducible exact usherref0_SameInputs.mono _ _ _)
      | (with_reducible exact usherref0_SamePairs.mono _ _ _)
      | (with_reducible exact LeO.refl _)
      | (with_reducible exact LeO.none _)
      | (with_reducible refine LeO.ite ?_ ?_)
      | (with_reducible refine LeO.bind ?_ (fun _ => ?_))
      | exact ih0 _ _ _ _ _ _ _ _ _ _ _ _
      | exact ih1 _ _ _ _ _ _ _ _ _ _ _ _
      | exact ih2 _ _ _ _ _ _ _ _ _ _ _
      | exact ih3 _ _ _ _ _ _ _ _ _
      | exact page_Sent.mono _ _ _ _ _
      | exact usherlaw5_markAll.mono _ _ _
      | exact usherlaw5_marked.mono _ _ _
      | exact usherref0_SameInputs.mono _ _ _
      | exact usherref0_SamePairs.mono _ _ _
      | exact LeO.none _
      | refine LeO.ite ?_ ?_
      | refine LeO.bind ?_ (fun _ => ?_)
    · intro y0 y1 y2 y3 y4 y5 y6 y7 y8 y9 y10
      unfold usherlaw5_PageSentMemory.j2
      repeat' first
      | (with_reducible exact ih0 _ _ _ _ _ _ _ _ _ _ _ _)
      | (with_reducible exact ih1 _ _ _ _ _ _ _ _ _ _ _ _)
      | (with_reducible exact ih2 _ _ _ _ _ _ _ _ _ _ _)
      | (with_reducible exact ih3 _ _ _ _ _ _ _ _ _)
      | (with_reducible exact page_Sent.mono _ _ _ _ _)
      | (with_reducible exact usherlaw5_markAll.mono _ _ _)
      | (with_reducible exact usherlaw5_marked.mono _ _ _)
      | (with_reducible exact usherref0_SameInputs.mono _ _ _)
      | (with_reducible exact usherref0_SamePairs.mono _ _ _)
      | (with_reducible exact LeO.refl _)
      | (with_reducible exact LeO.none _)
      | (with_reducible refine LeO.ite ?_ ?_)
      | (with_reducible refine LeO.bind ?_ (fun _ => ?_))
      | exact ih0 _ _ _ _ _ _ _ _ _ _ _ _
      | exact ih1 _ _ _ _ _ _ _ _ _ _ _ _
      | exact ih2 _ _ _ _ _ _ _ _ _ _ _
      | exact ih3 _ _ _ _ _ _ _ _ _
      | exact page_Sent.mono _ _ _ _ _
      | exact usherlaw5_markAll.mono _ _ _
      | exact usherlaw5_marked.mono _ _ _
      | exact usherref0_SameInputs.mono _ _ _
      | exact usherref0_SamePairs.mono _ _ _
      | exact LeO.none _
      | refine LeO.ite ?_ ?_
      | refine LeO.bind ?_ (fun _ => ?_)
    · intro y0 y1 y2 y3 y4 y5 y6 y7 y8
      unfold usherlaw5_PageSentMemory.l1
      repeat' first
      | (with_reducible exact ih0 _ _ _ _ _ _ _ _ _ _ _ _)
      | (with_reducible exact ih1 _ _ _ _ _ _ _ _ _ _ _ _)
      | (with_reducible exact ih2 _ _ _ _ _ _ _ _ _ _ _)
      | (with_reducible exact ih3 _ _ _ _ _ _ _ _ _)
      | (with_reducible exact page_Sent.mono _ _ _ _ _)
      | (with_reducible exact usherlaw5_markAll.mono _ _ _)
      | (with_reducible exact usherlaw5_marked.mono _ _ _)
      | (with_reducible exact usherref0_SameInputs.mono _ _ _)
      | (with_reducible exact usherref0_SamePairs.mono _ _ _)
      | (with_reducible exact LeO.refl _)
      | (with_reducible exact LeO.none _)
      | (with_reducible refine LeO.ite ?_ ?_)
      | (with_reducible refine LeO.bind ?_ (fun _ => ?_))
      | exact ih0 _ _ _ _ _ _ _ _ _ _ _ _
      | exact ih1 _ _ _ _ _ _ _ _ _ _ _ _
      | exact ih2 _ _ _ _ _ _ _ _ _ _ _
      | exact ih3 _ _ _ _ _ _ _ _ _
      | exact page_Sent.mono _ _ _ _ _
      | exact usherlaw5_markAll.mono _ _ _
      | exact usherlaw5_marked.mono _ _ _
      | exact usherref0_SameInputs.mono _ _ _
      | exact usherref0_SamePairs.mono _ _ _
      | exact LeO.none _
      | refine LeO.ite ?_ ?_
      | refine LeO.bind ?_ (fun _ => ?_)
theorem usherlaw5_PageSentMemory.mono : ∀ a0 a1 a2 a3 k, LeO (usherlaw5_PageSentMemory.f k a0 a1 a2 a3) (usherlaw5_PageSentMemory.f (k + 1) a0 a1 a2 a3) := by
  intro a0 a1 a2 a3 k
  obtain ⟨ih0, ih1, ih2, ih3⟩ := usherlaw5_PageSentMemory.mono_l k
  unfold usherlaw5_PageSentMemory.f
  repeat' first
      | (with_reducible exact ih0 _ _ _ _ _ _ _ _ _ _ _ _)
      | (with_reducible exact ih1 _ _ _ _ _ _ _ _ _ _ _ _)
      | (with_reducible exact ih2 _ _ _ _ _ _ _ _ _ _ _)
      | (with_reducible exact ih3 _ _ _ _ _ _ _ _ _)
      | (with_reducible exact page_Sent.mono _ _ _ _ _)
      | (with_reducible exact usherlaw5_markAll.mono _ _ _)
      | (with_reducible exact usherlaw5_marked.mono _ _ _)
      | (with_reducible exact usherref0_SameInputs.mono _ _ _)
      | (with_reducible exact usherref0_SamePairs.mono _ _ _)
      | (with_reducible exact LeO.refl _)
      | (with_reducible exact LeO.none _)
      | (with_reducible refine LeO.ite ?_ ?_)
      | (with_reducible refine LeO.bind ?_ (fun _ => ?_))
      | exact ih0 _ _ _ _ _ _ _ _ _ _ _ _
      | exact ih1 _ _ _ _ _ _ _ _ _ _ _ _
      | exact ih2 _ _ _ _ _ _ _ _ _ _ _
      | exact ih3 _ _ _ _ _ _ _ _ _
      | exact page_Sent.mono _ _ _ _ _
      | exact usherlaw5_markAll.mono _ _ _
      | exact usherlaw5_marked.mono _ _ _
      | exact usherref0_SameInputs.mono _ _ _
      | exact usherref0_SamePairs.mono _ _ _
      | exact LeO.none _
      | refine LeO.ite ?_ ?_
      | refine LeO.bind ?_ (fun _ => ?_)
def usherlaw5_PageSentMemory.T27 : Bool × List (List Nat × List Nat) := (true, [([], []), ([0], [0]), ([], []), ([2], [2]), ([3], [3]), ([4], [4]), ([1, 5], [1, 5]), ([], []), ([7], [7]), ([8], [8]), ([6, 9], [6, 9]), ([10, 10, 0, 1, 2, 3, 4, 5, 6, 7, 8, 9, 10], [10])])
def usherlaw5_PageSentMemory.B27 : List Nat := [0, 1, 0, 4, 12, 28, 63, 0, 128, 384, 1023, 2047]
theorem usherlaw5_PageSentMemory.tab27 : rtab .any (opsOf Try.f4 27) = usherlaw5_PageSentMemory.T27 := by kernel_rfl
theorem usherlaw5_PageSentMemory.bits27 : waitsOk usherlaw5_PageSentMemory.T27.2 usherlaw5_PageSentMemory.B27 = true := by kernel_rfl
def usherlaw5_PageSentMemory.T36 : Bool × List (List Nat × List Nat) := (true, [([], []), ([], []), ([0, 1], [0, 1]), ([], []), ([], []), ([], []), ([4, 5, 2], [4, 5]), ([3, 6, 6], [3, 6]), ([2, 7, 7], [2, 7]), ([8, 8, 0, 1, 2, 3, 4, 5, 6, 7, 8], [8])])
def usherlaw5_PageSentMemory.B36 : List Nat := [0, 0, 3, 0, 0, 0, 55, 127, 255, 511]
theorem usherlaw5_PageSentMemory.tab36 : rtab .any (opsOf Try.f4 36) = usherlaw5_PageSentMemory.T36 := by kernel_rfl
theorem usherlaw5_PageSentMemory.bits36 : waitsOk usherlaw5_PageSentMemory.T36.2 usherlaw5_PageSentMemory.B36 = true := by kernel_rfl
set_option maxHeartbeats 8000000 in
set_option maxRecDepth 100000 in
theorem usherlaw5_PageSentMemory.calls (k : Nat) (a0_0 : ByteArray) (A0_1 : Option Addr) (c0_1 : Nat) (l0_1 : List (S30)) (a0_2 : ByteArray) (A0_3 : Option Addr) (c0_3 : Nat) (l0_3 : List (S32)) (r : Bool) (w : World) (hr0_1 : Kd.C k30 w A0_1 l0_1.length l0_1) (hc0_1 : l0_1.length ≤ c0_1) (hr0_3 : Kd.C k32 w A0_3 l0_3.length l0_3) (hc0_3 : l0_3.length ≤ c0_3) (h : usherlaw5_PageSentMemory.f k a0_0 l0_1 a0_2 l0_3 = some r) :
    Calls Try.prog 4 #[.agg #[.string a0_0, .slice A0_1 l0_1.length c0_1, .string a0_2, .slice A0_3 l0_3.length c0_3]] w fun e w' => e = .returned (.bool r) ∧ Below w.heap.size w w' := by
  have hu27 := Try.underlying27
  have hu24 := Try.underlying24
  have hu30 := Try.underlying30
  have hu32 := Try.underlying32
  have HR0_1 := Aside0.mk hr0_1
  have HC0_1 := Aside0.mk hc0_1
  clear hr0_1 hc0_1
  have HR0_3 := Aside0.mk hr0_3
  have HC0_3 := Aside0.mk hc0_3
  clear hr0_3 hc0_3
  have HB := Aside0.mk (Below.refl w.heap.size w)
  have H : (if ([] : List (S30)).length + l0_1.length < 2513169434916 then ((some (([] : List (S30)) ++ l0_1 : List (S30))).bind fun y189 => (if y189.length < 2513169434916 then ((some (y189 ++ [(⟨1, (⟨#[97, 108, 119, 97, 121, 115]⟩ : ByteArray), (⟨#[118]⟩ : ByteArray), (⟨#[]⟩ : ByteArray)⟩ : S30)] : List (S30))).bind fun y192 => (if ([] : List (S32)).length + l0_3.length < 4398046511104 then ((some (([] : List (S32)) ++ l0_3 : List (S32))).bind fun y195 => ((page_Sent.f k a0_0 y192 a0_2 y195).bind fun t198 => (if ([] : List (S32)).length + t198.length < 4398046511104 then ((some (([] : List (S32)) ++ t198 : List (S32))).bind fun y201 => ((page_Sent.f k a0_0 y192 a0_2 y195).bind fun t204 => ((usherref0_SamePairs.f k t198 t204).bind fun t207 => (if t207 = true then (if (t198.length : Int) = 0 then (usherlaw5_PageSentMemory.j0 k y195 t198 y201 t204 true a0_0 l0_1 a0_2 l0_3 a0_0 y192 a0_2) else (if 0 ≤ (wrap64 ((t198.length : Int) - 1)) then (if (wrap64 ((t198.length : Int) - 1)) < (t198.length : Int) then (if ((rd_T32 t198 (wrap64 ((t198.length : Int) - 1))).f0).toList = ([97, 108, 119, 97, 121, 115] : List UInt8) then (usherlaw5_PageSentMemory.j0 k y195 t198 y201 t204 (((rd_T32 t198 (wrap64 ((t198.length : Int) - 1))).f1).toList != ([118] : List UInt8)) a0_0 l0_1 a0_2 l0_3 a0_0 y192 a0_2) else (usherlaw5_PageSentMemory.j0 k y195 t198 y201 t204 true a0_0 l0_1 a0_2 l0_3 a0_0 y192 a0_2)) else (none)) else (none))) else (usherlaw5_PageSentMemory.j0 k y195 t198 y201 t204 true a0_0 l0_1 a0_2 l0_3 a0_0 y192 a0_2))))) else (none)))) else (none))) else (none))) else (none)) = some r := h
  clear h
  by_cases c2 : ([] : List (S30)).length + l0_1.length < 2513169434916
  · rw [if_pos c2] at H
    have LMc2 := Aside0.mk c2
    clear c2
    obtain ⟨y189, hy189⟩ : ∃ y_ : List (S30), y_ = (([] : List (S30)) ++ l0_1) := ⟨_, rfl⟩
    replace H : (if y189.length < 2513169434916 then ((some (y189 ++ [(⟨1, (⟨#[97, 108, 119, 97, 121, 115]⟩ : ByteArray), (⟨#[118]⟩ : ByteArray), (⟨#[]⟩ : ByteArray)⟩ : S30)] : List (S30))).bind fun y192 => (if ([] : List (S32)).length + l0_3.length < 4398046511104 then ((some (([] : List (S32)) ++ l0_3 : List (S32))).bind fun y195 => ((page_Sent.f k a0_0 y192 a0_2 y195).bind fun t198 => (if ([] : List (S32)).length + t198.length < 4398046511104 then ((some (([] : List (S32)) ++ t198 : List (S32))).bind fun y201 => ((page_Sent.f k a0_0 y192 a0_2 y195).bind fun t204 => ((usherref0_SamePairs.f k t198 t204).bind fun t207 => (if t207 = true then (if (t198.length : Int) = 0 then (usherlaw5_PageSentMemory.j0 k y195 t198 y201 t204 true a0_0 l0_1 a0_2 l0_3 a0_0 y192 a0_2) else (if 0 ≤ (wrap64 ((t198.length : Int) - 1)) then (if (wrap64 ((t198.length : Int) - 1)) < (t198.length : Int) then (if ((rd_T32 t198 (wrap64 ((t198.length : Int) - 1))).f0).toList = ([97, 108, 119, 97, 121, 115] : List UInt8) then (usherlaw5_PageSentMemory.j0 k y195 t198 y201 t204 (((rd_T32 t198 (wrap64 ((t198.length : Int) - 1))).f1).toList != ([118] : List UInt8)) a0_0 l0_1 a0_2 l0_3 a0_0 y192 a0_2) else (usherlaw5_PageSentMemory.j0 k y195 t198 y201 t204 true a0_0 l0_1 a0_2 l0_3 a0_0 y192 a0_2)) else (none)) else (none))) else (usherlaw5_PageSentMemory.j0 k y195 t198 y201 t204 true a0_0 l0_1 a0_2 l0_3 a0_0 y192 a0_2))))) else (none)))) else (none))) else (none)) = some r := by first | (rw [hy189]; with_reducible exact H) | (have H2_ := (Option.bind_some _ _).symm.trans H; rw [hy189]; with_reducible exact H2_) | (have H2_ := (Option.bind_some _ _).symm.trans H; with_reducible exact H2_) | with_reducible exact H | (rw [hy189]; exact H) | exact H
    have Ny189 := Aside0.mk hy189
    clear hy189
    by_cases c3 : y189.length < 2513169434916
    · rw [if_pos c3] at H
      have LMc3 := Aside0.mk c3
      clear c3
      obtain ⟨y192, hy192⟩ : ∃ y_ : List (S30), y_ = (y189 ++ [(⟨1, (⟨#[97, 108, 119, 97, 121, 115]⟩ : ByteArray), (⟨#[118]⟩ : ByteArray), (⟨#[]⟩ : ByteArray)⟩ : S30)]) := ⟨_, rfl⟩
      replace H : (if ([] : List (S32)).length + l0_3.length < 4398046511104 then ((some (([] : List (S32)) ++ l0_3 : List (S32))).bind fun y195 => ((page_Sent.f k a0_0 y192 a0_2 y195).bind fun t198 => (if ([] : List (S32)).length + t198.length < 4398046511104 then ((some (([] : List (S32)) ++ t198 : List (S32))).bind fun y201 => ((page_Sent.f k a0_0 y192 a0_2 y195).bind fun t204 => ((usherref0_SamePairs.f k t198 t204).bind fun t207 => (if t207 = true then (if (t198.length : Int) = 0 then (usherlaw5_PageSentMemory.j0 k y195 t198 y201 t204 true a0_0 l0_1 a0_2 l0_3 a0_0 y192 a0_2) else (if 0 ≤ (wrap64 ((t198.length : Int) - 1)) then (if (wrap64 ((t198.length : Int) - 1)) < (t198.length : Int) then (if ((rd_T32 t198 (wrap64 ((t198.length : Int) - 1))).f0).toList = ([97, 108, 119, 97, 121, 115] : List UInt8) then (usherlaw5_PageSentMemory.j0 k y195 t198 y201 t204 (((rd_T32 t198 (wrap64 ((t198.length : Int) - 1))).f1).toList != ([118] : List UInt8)) a0_0 l0_1 a0_2 l0_3 a0_0 y192 a0_2) else (usherlaw5_PageSentMemory.j0 k y195 t198 y201 t204 true a0_0 l0_1 a0_2 l0_3 a0_0 y192 a0_2)) else (none)) else (none))) else (usherlaw5_PageSentMemory.j0 k y195 t198 y201 t204 true a0_0 l0_1 a0_2 l0_3 a0_0 y192 a0_2))))) else (none)))) else (none)) = some r := by first | (rw [hy192]; with_reducible exact H) | (have H2_ := (Option.bind_some _ _).symm.trans H; rw [hy192]; with_reducible exact H2_) | (have H2_ := (Option.bind_some _ _).symm.trans H; with_reducible exact H2_) | with_reducible exact H | (rw [hy192]; exact H) | exact H
      have Ny192 := Aside0.mk hy192
      clear hy192
      by_cases c4 : ([] : List (S32)).length + l0_3.length < 4398046511104
      · rw [if_pos c4] at H
        have LMc4 := Aside0.mk c4
        clear c4
        obtain ⟨y195, hy195⟩ : ∃ y_ : List (S32), y_ = (([] : List (S32)) ++ l0_3) := ⟨_, rfl⟩
        replace H : ((page_Sent.f k a0_0 y192 a0_2 y195).bind fun t198 => (if ([] : List (S32)).length + t198.length < 4398046511104 then ((some (([] : List (S32)) ++ t198 : List (S32))).bind fun y201 => ((page_Sent.f k a0_0 y192 a0_2 y195).bind fun t204 => ((usherref0_SamePairs.f k t198 t204).bind fun t207 => (if t207 = true then (if (t198.length : Int) = 0 then (usherlaw5_PageSentMemory.j0 k y195 t198 y201 t204 true a0_0 l0_1 a0_2 l0_3 a0_0 y192 a0_2) else (if 0 ≤ (wrap64 ((t198.length : Int) - 1)) then (if (wrap64 ((t198.length : Int) - 1)) < (t198.length : Int) then (if ((rd_T32 t198 (wrap64 ((t198.length : Int) - 1))).f0).toList = ([97, 108, 119, 97, 121, 115] : List UInt8) then (usherlaw5_PageSentMemory.j0 k y195 t198 y201 t204 (((rd_T32 t198 (wrap64 ((t198.length : Int) - 1))).f1).toList != ([118] : List UInt8)) a0_0 l0_1 a0_2 l0_3 a0_0 y192 a0_2) else (usherlaw5_PageSentMemory.j0 k y195 t198 y201 t204 true a0_0 l0_1 a0_2 l0_3 a0_0 y192 a0_2)) else (none)) else (none))) else (usherlaw5_PageSentMemory.j0 k y195 t198 y201 t204 true a0_0 l0_1 a0_2 l0_3 a0_0 y192 a0_2))))) else (none))) = some r := by first | (rw [hy195]; with_reducible exact H) | (have H2_ := (Option.bind_some _ _).symm.trans H; rw [hy195]; with_reducible exact H2_) | (have H2_ := (Option.bind_some _ _).symm.trans H; with_reducible exact H2_) | with_reducible exact H | (rw [hy195]; exact H) | exact H
        have Ny195 := Aside0.mk hy195
        clear hy195
        replace H := Option.bind_eq_some_iff.mp H
        obtain ⟨t198, A50, H⟩ := H
        replace H : (if ([] : List (S32)).length + t198.length < 4398046511104 then ((some (([] : List (S32)) ++ t198 : List (S32))).bind fun y201 => ((page_Sent.f k a0_0 y192 a0_2 y195).bind fun t204 => ((usherref0_SamePairs.f k t198 t204).bind fun t207 => (if t207 = true then (if (t198.length : Int) = 0 then (usherlaw5_PageSentMemory.j0 k y195 t198 y201 t204 true a0_0 l0_1 a0_2 l0_3 a0_0 y192 a0_2) else (if 0 ≤ (wrap64 ((t198.length : Int) - 1)) then (if (wrap64 ((t198.length : Int) - 1)) < (t198.length : Int) then (if ((rd_T32 t198 (wrap64 ((t198.length : Int) - 1))).f0).toList = ([97, 108, 119, 97, 121, 115] : List UInt8) then (usherlaw5_PageSentMemory.j0 k y195 t198 y201 t204 (((rd_T32 t198 (wrap64 ((t198.length : Int) - 1))).f1).toList != ([118] : List UInt8)) a0_0 l0_1 a0_2 l0_3 a0_0 y192 a0_2) else (usherlaw5_PageSentMemory.j0 k y195 t198 y201 t204 true a0_0 l0_1 a0_2 l0_3 a0_0 y192 a0_2)) else (none)) else (none))) else (usherlaw5_PageSentMemory.j0 k y195 t198 y201 t204 true a0_0 l0_1 a0_2 l0_3 a0_0 y192 a0_2))))) else (none)) = some r := H
        have A5 := Aside0.mk A50
        clear A50
        by_cases c6 : ([] : List (S32)).length + t198.length < 4398046511104
        · rw [if_pos c6] at H
          have LMc6 := Aside0.mk c6
          clear c6
          obtain ⟨y201, hy201⟩ : ∃ y_ : List (S32), y_ = (([] : List (S32)) ++ t198) := ⟨_, rfl⟩
          replace H : ((page_Sent.f k a0_0 y192 a0_2 y195).bind fun t204 => ((usherref0_SamePairs.f k t198 t204).bind fun t207 => (if t207 = true then (if (t198.length : Int) = 0 then (usherlaw5_PageSentMemory.j0 k y195 t198 y201 t204 true a0_0 l0_1 a0_2 l0_3 a0_0 y192 a0_2) else (if 0 ≤ (wrap64 ((t198.length : Int) - 1)) then (if (wrap64 ((t198.length : Int) - 1)) < (t198.length : Int) then (if ((rd_T32 t198 (wrap64 ((t198.length : Int) - 1))).f0).toList = ([97, 108, 119, 97, 121, 115] : List UInt8) then (usherlaw5_PageSentMemory.j0 k y195 t198 y201 t204 (((rd_T32 t198 (wrap64 ((t198.length : Int) - 1))).f1).toList != ([118] : List UInt8)) a0_0 l0_1 a0_2 l0_3 a0_0 y192 a0_2) else (usherlaw5_PageSentMemory.j0 k y195 t198 y201 t204 true a0_0 l0_1 a0_2 l0_3 a0_0 y192 a0_2)) else (none)) else (none))) else (usherlaw5_PageSentMemory.j0 k y195 t198 y201 t204 true a0_0 l0_1 a0_2 l0_3 a0_0 y192 a0_2)))) = some r := by first | (rw [hy201]; with_reducible exact H) | (have H2_ := (Option.bind_some _ _).symm.trans H; rw [hy201]; with_reducible exact H2_) | (have H2_ := (Option.bind_some _ _).symm.trans H; with_reducible exact H2_) | with_reducible exact H | (rw [hy201]; exact H) | exact H
          have Ny201 := Aside0.mk hy201
          clear hy201
          replace H := Option.bind_eq_some_iff.mp H
          obtain ⟨t204, A70, H⟩ := H
          replace H : ((usherref0_SamePairs.f k t198 t204).bind fun t207 => (if t207 = true then (if (t198.length : Int) = 0 then (usherlaw5_PageSentMemory.j0 k y195 t198 y201 t204 true a0_0 l0_1 a0_2 l0_3 a0_0 y192 a0_2) else (if 0 ≤ (wrap64 ((t198.length : Int) - 1)) then (if (wrap64 ((t198.length : Int) - 1)) < (t198.length : Int) then (if ((rd_T32 t198 (wrap64 ((t198.length : Int) - 1))).f0).toList = ([97, 108, 119, 97, 121, 115] : List UInt8) then (usherlaw5_PageSentMemory.j0 k y195 t198 y201 t204 (((rd_T32 t198 (wrap64 ((t198.length : Int) - 1))).f1).toList != ([118] : List UInt8)) a0_0 l0_1 a0_2 l0_3 a0_0 y192 a0_2) else (usherlaw5_PageSentMemory.j0 k y195 t198 y201 t204 true a0_0 l0_1 a0_2 l0_3 a0_0 y192 a0_2)) else (none)) else (none))) else (usherlaw5_PageSentMemory.j0 k y195 t198 y201 t204 true a0_0 l0_1 a0_2 l0_3 a0_0 y192 a0_2))) = some r := H
          have A7 := Aside0.mk A70
          clear A70
          replace H := Option.bind_eq_some_iff.mp H
          obtain ⟨t207, A80, H⟩ := H
          replace H : (if t207 = true then (if (t198.length : Int) = 0 then (usherlaw5_PageSentMemory.j0 k y195 t198 y201 t204 true a0_0 l0_1 a0_2 l0_3 a0_0 y192 a0_2) else (if 0 ≤ (wrap64 ((t198.length : Int) - 1)) then (if (wrap64 ((t198.length : Int) - 1)) < (t198.length : Int) then (if ((rd_T32 t198 (wrap64 ((t198.length : Int) - 1))).f0).toList = ([97, 108, 119, 97, 121, 115] : List UInt8) then (usherlaw5_PageSentMemory.j0 k y195 t198 y201 t204 (((rd_T32 t198 (wrap64 ((t198.length : Int) - 1))).f1).toList != ([118] : List UInt8)) a0_0 l0_1 a0_2 l0_3 a0_0 y192 a0_2) else (usherlaw5_PageSentMemory.j0 k y195 t198 y201 t204 true a0_0 l0_1 a0_2 l0_3 a0_0 y192 a0_2)) else (none)) else (none))) else (usherlaw5_PageSentMemory.j0 k y195 t198 y201 t204 true a0_0 l0_1 a0_2 l0_3 a0_0 y192 a0_2)) = some r := H
          have A8 := Aside0.mk A80
          clear A80
          have HC9 := Aside0.mk H
          clear H
          go_enter Try.func4, Try.ntmps4
          go_upto_region 11 with (first | ((with_reducible refine gate_dst (N := 1) rfl ?_); (try (refine gate_guard (by rfl) ?_; dsimp only)); refine box_event ?hg (N := 1) ?hd (cs := #[.string a0_0, .slice A0_1 l0_1.length c0_1, .string a0_2, .slice A0_3 l0_3.length c0_3]) (t := 27) ?hr ?_; (case hd => rfl); (case hg => rfl); (case hr => first | (go_simp; done) | (go_simp; rfl)); intro gb187 hg w10 hbox hb; have n0_ := Aside0.mk (below_step (by repeat (first | (with_reducible first | exact HB.out | apply below_alloc | apply pw_below_drewN | apply below_drew1) | exact HB.out)) hb); have n1_ := Aside0.mk (hbox); have n2_ := Aside0.mk ((by rw [hg]; exact (below_size (by repeat (first | (with_reducible first | exact HB.out | apply below_alloc | apply pw_below_drewN | apply below_drew1) | exact HB.out))) : w.heap.size ≤ gb187)); have n3_ := Aside0.mk ((by rw [hg]; exact (below_size (by repeat (first | (with_reducible first | exact HB.out | apply below_alloc | apply pw_below_drewN | apply below_drew1) | exact HB.out))) : w.heap.size ≤ gb187)); clear HB; have HB := n0_; have BK187 := n1_; have GW187 := n2_; have GE187 := n3_; clear n0_ n1_ n2_ n3_; clear hb hbox hg; have hcz11_0 : w10.cell? ⟨gb187, 0, none⟩ = some (.string a0_0) := (blk_cell BK187.out 0).trans rfl; have hcz11_1 : w10.cell? ⟨gb187, 1, none⟩ = some (.slice A0_1 l0_1.length c0_1) := (blk_cell BK187.out 1).trans rfl; have hcz11_2 : w10.cell? ⟨gb187, 2, none⟩ = some (.string a0_2) := (blk_cell BK187.out 2).trans rfl; have hcz11_3 : w10.cell? ⟨gb187, 3, none⟩ = some (.slice A0_3 l0_3.length c0_3) := (blk_cell BK187.out 3).trans rfl; have hfz11_0 := blk_frozen BK187.out 0; have hfz11_1 := blk_frozen BK187.out 1; have hfz11_2 := blk_frozen BK187.out 2; have hfz11_3 := blk_frozen BK187.out 3) | ((with_reducible refine gate_dst (N := 3) rfl ?_); (try (refine gate_guard (by rfl) ?_; dsimp only)); refine box_event ?hg (N := 3) ?hd (cs := #[.string (⟨#[]⟩ : ByteArray), .slice none 0 0, .string (⟨#[]⟩ : ByteArray)]) (t := 24) ?hr ?_; (case hd => rfl); (case hg => rfl); (case hr => first | (go_simp; done) | (go_simp; rfl)); intro gb188 hg w12 hbox hb; have n0_ := Aside0.mk (blk_below (g := gb187) (o := .cells #[.string a0_0, .slice A0_1 l0_1.length c0_1, .string a0_2, .slice A0_3 l0_3.length c0_3] 27 (0, 0)) (by (with_reducible repeat (first | refine blk_drewN ?_ _ | refine blk_drew ?_ | refine blk_alloc ?_ _)); exact BK187.out) hb); have n1_ := Aside0.mk (below_step (by repeat (first | (with_reducible first | exact HB.out | apply below_alloc | apply pw_below_drewN | apply below_drew1 | refine below_set ?_ GE187.out) | exact HB.out)) hb); have n2_ := Aside0.mk (hbox); have n3_ := Aside0.mk ((by rw [hg]; exact (below_size (by repeat (first | (with_reducible first | exact HB.out | apply below_alloc | apply pw_below_drewN | apply below_drew1 | refine below_set ?_ GE187.out) | exact HB.out))) : w.heap.size ≤ gb188)); have n4_ := Aside0.mk ((by rw [hg]; exact (below_size (by repeat (first | (with_reducible first | exact HB.out | apply below_alloc | apply pw_below_drewN | apply below_drew1 | refine below_set ?_ GE187.out) | exact HB.out))) : w.heap.size ≤ gb188)); have n5_ := Aside0.mk ((by rw [hg]; exact Nat.ne_of_lt (blk_lt (g := gb187) (o := .cells #[.string a0_0, .slice A0_1 l0_1.length c0_1, .string a0_2, .slice A0_3 l0_3.length c0_3] 27 (0, 0)) (by (with_reducible repeat (first | refine blk_drewN ?_ _ | refine blk_drew ?_ | refine blk_alloc ?_ _)); exact BK187.out)) : gb187 ≠ gb188)); have n6_ := Aside0.mk ((by rw [hg]; exact Nat.ne_of_gt (blk_lt (g := gb187) (o := .cells #[.string a0_0, .slice A0_1 l0_1.length c0_1, .string a0_2, .slice A0_3 l0_3.length c0_3] 27 (0, 0)) (by (with_reducible repeat (first | refine blk_drewN ?_ _ | refine blk_drew ?_ | refine blk_alloc ?_ _)); exact BK187.out)) : gb188 ≠ gb187)); clear BK187; clear HB; have BK187 := n0_; have HB := n1_; have BK188 := n2_; have GW188 := n3_; have GE188 := n4_; have NB187_188 := n5_; have NB188_187 := n6_; clear n0_ n1_ n2_ n3_ n4_ n5_ n6_; clear hb hbox hg; have hnb13 := NB188_187.out; have hnc13 := NB187_188.out; have hcz14_0 : w12.cell? ⟨gb188, 0, none⟩ = some (.string (⟨#[]⟩ : ByteArray)) := (blk_cell BK188.out 0).trans rfl; have hcz14_1 : w12.cell? ⟨gb188, 1, none⟩ = some (.slice none 0 0) := (blk_cell BK188.out 1).trans rfl; have hcz14_2 : w12.cell? ⟨gb188, 2, none⟩ = some (.string (⟨#[]⟩ : ByteArray)) := (blk_cell BK188.out 2).trans rfl; have hfz14_0 := blk_frozen BK188.out 0; have hfz14_1 := blk_frozen BK188.out 1; have hfz14_2 := blk_frozen BK188.out 2; have hcz15_0 : w12.cell? ⟨gb187, 0, none⟩ = some (.string a0_0) := (blk_cell BK187.out 0).trans rfl; have hcz15_1 : w12.cell? ⟨gb187, 1, none⟩ = some (.slice A0_1 l0_1.length c0_1) := (blk_cell BK187.out 1).trans rfl; have hcz15_2 : w12.cell? ⟨gb187, 2, none⟩ = some (.string a0_2) := (blk_cell BK187.out 2).trans rfl; have hcz15_3 : w12.cell? ⟨gb187, 3, none⟩ = some (.slice A0_3 l0_3.length c0_3) := (blk_cell BK187.out 3).trans rfl; have hfz15_0 := blk_frozen BK187.out 0; have hfz15_1 := blk_frozen BK187.out 1; have hfz15_2 := blk_frozen BK187.out 2; have hfz15_3 := blk_frozen BK187.out 3) | ((with_reducible refine gate_builtin (b := .append) (xs := #[.tmp 30, .tmp 33]) rfl ?_); (try (refine gate_guard (by rfl) ?_; dsimp only)); at_builtin; refine Kd.R_append_rows k30 (w0 := w) w.heap.size rfl (.tmp 30) (.tmp 33) 22 30 (.agg #[(.int .i64 0), (.string ⟨#[]⟩), (.string ⟨#[]⟩), (.string ⟨#[]⟩)]) 56 rfl Try.underlying22 info30 rfl (by decide) (by omega) (.slice none 0 0) ([] : List (S30)) l0_1 _ _ _ (fun _ => True) (fun _ => False) rfl rfl ?aO ?aR (fun _ _ h => h) (fun _ h => h.elim) ?aF ?aB ?aS ?aL ?_; (case aR => exact Kd.C_below HR0_1.out (by repeat (first | (with_reducible first | exact HB.out | apply below_alloc | apply pw_below_drewN | apply below_drew1 | refine below_set ?_ GE187.out | refine below_set ?_ GE188.out) | exact HB.out))); (case aB => exact (by repeat (first | (with_reducible first | exact HB.out | apply below_alloc | apply pw_below_drewN | apply below_drew1 | refine below_set ?_ GE187.out | refine below_set ?_ GE188.out) | exact HB.out))); (case aF => exact (fun _ _ => trivial)); (case aO => exact ((Kd.R_nil _ _ _ _ (fun _ => True)))); (case aS => exact (below_size (by repeat (first | (with_reducible first | exact HB.out | apply below_alloc | apply pw_below_drewN | apply below_drew1 | refine below_set ?_ GE187.out | refine below_set ?_ GE188.out) | exact HB.out)))); (case aL => have := LMc2.out; omega); intro v190 w16 ho hb hg hat; rw [← Ny189.out] at ho; have n0_ := Aside0.mk (blk_grown (g := gb187) (o := .cells #[.string a0_0, .slice A0_1 l0_1.length c0_1, .string a0_2, .slice A0_3 l0_3.length c0_3] 27 (0, 0)) (by (with_reducible repeat (first | refine blk_drewN ?_ _ | refine blk_drew ?_ | refine blk_alloc ?_ _)); refine blk_far ?_ NB187_188.out _; (with_reducible repeat (first | refine blk_drewN ?_ _ | refine blk_drew ?_ | refine blk_alloc ?_ _)); refine blk_far ?_ NB187_188.out _; (with_reducible repeat (first | refine blk_drewN ?_ _ | refine blk_drew ?_ | refine blk_alloc ?_ _)); refine blk_far ?_ NB187_188.out _; (with_reducible repeat (first | refine blk_drewN ?_ _ | refine blk_drew ?_ | refine blk_alloc ?_ _)); exact BK187.out) hg (by simp [Value.ownBlock])); have n1_ := Aside0.mk (blk_grown (g := gb188) (o := .cells #[.string a0_0, .slice none 0 0, .string a0_2] 24 (0, 0)) (by (with_reducible repeat (first | refine blk_drewN ?_ _ | refine blk_drew ?_ | refine blk_alloc ?_ _)); refine blk_put (cs := #[.string a0_0, .slice none 0 0, .string (⟨#[]⟩ : ByteArray)]) ?_ 2 _ rfl; (with_reducible repeat (first | refine blk_drewN ?_ _ | refine blk_drew ?_ | refine blk_alloc ?_ _)); refine blk_put (cs := #[.string a0_0, .slice none 0 0, .string (⟨#[]⟩ : ByteArray)]) ?_ 1 _ rfl; (with_reducible repeat (first | refine blk_drewN ?_ _ | refine blk_drew ?_ | refine blk_alloc ?_ _)); refine blk_put (cs := #[.string (⟨#[]⟩ : ByteArray), .slice none 0 0, .string (⟨#[]⟩ : ByteArray)]) ?_ 0 _ rfl; (with_reducible repeat (first | refine blk_drewN ?_ _ | refine blk_drew ?_ | refine blk_alloc ?_ _)); exact BK188.out) hg (by simp [Value.ownBlock])); have n2_ := Aside0.mk (hb); have n3_ := Aside0.mk (ho); clear BK187; clear BK188; clear HB; have BK187 := n0_; have BK188 := n1_; have HB := n2_; have HO191 := n3_; clear n0_ n1_ n2_ n3_; clear ho hb hg hat; obtain ⟨Ao17, co17, eo17⟩ := Kd.R_slice HO191.out; subst eo17; have hcz18_0 : w16.cell? ⟨gb188, 0, none⟩ = some (.string a0_0) := (blk_cell BK188.out 0).trans rfl; have hcz18_1 : w16.cell? ⟨gb188, 1, none⟩ = some (.slice none 0 0) := (blk_cell BK188.out 1).trans rfl; have hcz18_2 : w16.cell? ⟨gb188, 2, none⟩ = some (.string a0_2) := (blk_cell BK188.out 2).trans rfl; have hfz18_0 := blk_frozen BK188.out 0; have hfz18_1 := blk_frozen BK188.out 1; have hfz18_2 := blk_frozen BK188.out 2) | ((with_reducible refine gate_builtin (b := .append) (xs := #[.tmp 37, .tmp 39]) rfl ?_); (try (refine gate_guard (by rfl) ?_; dsimp only)); at_builtin; refine Kd.R_append k30 (w0 := w) w.heap.size rfl (.tmp 37) (.tmp 39) 22 30 (.agg #[(.int .i64 0), (.string ⟨#[]⟩), (.string ⟨#[]⟩), (.string ⟨#[]⟩)]) 56 rfl Try.underlying22 info30 rfl (by decide) (by omega) (.slice Ao17 y189.length co17) y189 (⟨1, (⟨#[97, 108, 119, 97, 121, 115]⟩ : ByteArray), (⟨#[118]⟩ : ByteArray), (⟨#[]⟩ : ByteArray)⟩ : S30) [.int .i64 1, .string (⟨#[97, 108, 119, 97, 121, 115]⟩ : ByteArray), .string (⟨#[118]⟩ : ByteArray), .string (⟨#[]⟩ : ByteArray)] (fun _ => True) (fun _ => False) rfl (by first | (go_simp; done) | (go_simp; rfl)) ?aP (fun _ hk => hk.elim) ?aF ?aO ?aB ?aS ?aL ?_; (case aP => exact k30_mkM _ _ _ (⟨1, (⟨#[97, 108, 119, 97, 121, 115]⟩ : ByteArray), (⟨#[118]⟩ : ByteArray), (⟨#[]⟩ : ByteArray)⟩ : S30)); (case aB => exact (by repeat (first | (with_reducible first | exact HB.out | apply below_alloc | apply pw_below_drewN | apply below_drew1 | refine below_set ?_ GE187.out | refine below_set ?_ GE188.out) | exact HB.out))); (case aF => exact (fun _ _ => trivial)); (case aO => exact (by (with_reducible repeat (first | apply Kd.R_alloc | apply Kd.R_drewN | apply Kd.R_drew)); exact Kd.R_mono (Kd.R_far (p := ⟨gb188, 1, none⟩) (Kd.R_types HO191.out BK188.out (by decide)) (fun _ hk => hk.2) (.slice Ao17 y189.length co17)) (fun _ hk => trivial))); (case aS => exact (below_size (by repeat (first | (with_reducible first | exact HB.out | apply below_alloc | apply pw_below_drewN | apply below_drew1 | refine below_set ?_ GE187.out | refine below_set ?_ GE188.out) | exact HB.out)))); (case aL => have := LMc3.out; omega); intro v193 w19 ho hb hg hat; rw [← Ny192.out] at ho; have n0_ := Aside0.mk (blk_grown (g := gb187) (o := .cells #[.string a0_0, .slice A0_1 l0_1.length c0_1, .string a0_2, .slice A0_3 l0_3.length c0_3] 27 (0, 0)) (by (with_reducible repeat (first | refine blk_drewN ?_ _ | refine blk_drew ?_ | refine blk_alloc ?_ _)); refine blk_far ?_ NB187_188.out _; (with_reducible repeat (first | refine blk_drewN ?_ _ | refine blk_drew ?_ | refine blk_alloc ?_ _)); exact BK187.out) hg (Kd.R_ne HO191.out BK187.out (by decide))); have n1_ := Aside0.mk (blk_grown (g := gb188) (o := .cells #[.string a0_0, .slice Ao17 y189.length co17, .string a0_2] 24 (0, 0)) (by (with_reducible repeat (first | refine blk_drewN ?_ _ | refine blk_drew ?_ | refine blk_alloc ?_ _)); refine blk_put (cs := #[.string a0_0, .slice none 0 0, .string a0_2]) ?_ 1 _ rfl; (with_reducible repeat (first | refine blk_drewN ?_ _ | refine blk_drew ?_ | refine blk_alloc ?_ _)); exact BK188.out) hg (Kd.R_ne HO191.out BK188.out (by decide))); have n2_ := Aside0.mk (hb); have n3_ := Aside0.mk (ho); clear BK187; clear BK188; clear HB; clear HO191; have BK187 := n0_; have BK188 := n1_; have HB := n2_; have HO194 := n3_; clear n0_ n1_ n2_ n3_; clear ho hb hg hat; obtain ⟨Ao20, co20, eo20⟩ := Kd.R_slice HO194.out; subst eo20; have hcz21_0 : w19.cell? ⟨gb188, 0, none⟩ = some (.string a0_0) := (blk_cell BK188.out 0).trans rfl; have hcz21_1 : w19.cell? ⟨gb188, 1, none⟩ = some (.slice Ao17 y189.length co17) := (blk_cell BK188.out 1).trans rfl; have hcz21_2 : w19.cell? ⟨gb188, 2, none⟩ = some (.string a0_2) := (blk_cell BK188.out 2).trans rfl; have hfz21_0 := blk_frozen BK188.out 0; have hfz21_1 := blk_frozen BK188.out 1; have hfz21_2 := blk_frozen BK188.out 2; have hcz22_0 : w19.cell? ⟨gb187, 0, none⟩ = some (.string a0_0) := (blk_cell BK187.out 0).trans rfl; have hcz22_1 : w19.cell? ⟨gb187, 1, none⟩ = some (.slice A0_1 l0_1.length c0_1) := (blk_cell BK187.out 1).trans rfl; have hcz22_2 : w19.cell? ⟨gb187, 2, none⟩ = some (.string a0_2) := (blk_cell BK187.out 2).trans rfl; have hcz22_3 : w19.cell? ⟨gb187, 3, none⟩ = some (.slice A0_3 l0_3.length c0_3) := (blk_cell BK187.out 3).trans rfl; have hfz22_0 := blk_frozen BK187.out 0; have hfz22_1 := blk_frozen BK187.out 1; have hfz22_2 := blk_frozen BK187.out 2; have hfz22_3 := blk_frozen BK187.out 3) | ((with_reducible refine gate_builtin (b := .append) (xs := #[.tmp 42, .tmp 44]) rfl ?_); (try (refine gate_guard (by rfl) ?_; dsimp only)); at_builtin; refine Kd.R_append_rows k32 (w0 := w) w.heap.size rfl (.tmp 42) (.tmp 44) 25 32 (.agg #[(.string ⟨#[]⟩), (.string ⟨#[]⟩)]) 32 rfl Try.underlying25 info32 rfl (by decide) (by omega) (.slice none 0 0) ([] : List (S32)) l0_3 _ _ _ (fun _ => True) (fun _ => False) rfl rfl ?aO ?aR (fun _ _ h => h) (fun _ h => h.elim) ?aF ?aB ?aS ?aL ?_; (case aR => exact Kd.C_below HR0_3.out (by repeat (first | (with_reducible first | exact HB.out | apply below_alloc | apply pw_below_drewN | apply below_drew1 | refine below_set ?_ GE187.out | refine below_set ?_ GE188.out) | exact HB.out))); (case aB => exact (by repeat (first | (with_reducible first | exact HB.out | apply below_alloc | apply pw_below_drewN | apply below_drew1 | refine below_set ?_ GE187.out | refine below_set ?_ GE188.out) | exact HB.out))); (case aF => exact (fun _ _ => trivial)); (case aO => exact ((Kd.R_nil _ _ _ _ (fun _ => True)))); (case aS => exact (below_size (by repeat (first | (with_reducible first | exact HB.out | apply below_alloc | apply pw_below_drewN | apply below_drew1 | refine below_set ?_ GE187.out | refine below_set ?_ GE188.out) | exact HB.out)))); (case aL => have := LMc4.out; omega); intro v196 w23 ho hb hg hat; rw [← Ny195.out] at ho; have n0_ := Aside0.mk (blk_grown (g := gb187) (o := .cells #[.string a0_0, .slice A0_1 l0_1.length c0_1, .string a0_2, .slice A0_3 l0_3.length c0_3] 27 (0, 0)) (by (with_reducible repeat (first | refine blk_drewN ?_ _ | refine blk_drew ?_ | refine blk_alloc ?_ _)); refine blk_far ?_ NB187_188.out _; (with_reducible repeat (first | refine blk_drewN ?_ _ | refine blk_drew ?_ | refine blk_alloc ?_ _)); exact BK187.out) hg (by simp [Value.ownBlock])); have n1_ := Aside0.mk (blk_grown (g := gb188) (o := .cells #[.string a0_0, .slice Ao20 y192.length co20, .string a0_2] 24 (0, 0)) (by (with_reducible repeat (first | refine blk_drewN ?_ _ | refine blk_drew ?_ | refine blk_alloc ?_ _)); refine blk_put (cs := #[.string a0_0, .slice Ao17 y189.length co17, .string a0_2]) ?_ 1 _ rfl; (with_reducible repeat (first | refine blk_drewN ?_ _ | refine blk_drew ?_ | refine blk_alloc ?_ _)); exact BK188.out) hg (by simp [Value.ownBlock])); have n2_ := Aside0.mk (Kd.R_grown (by (with_reducible repeat (first | apply Kd.R_alloc | apply Kd.R_drewN | apply Kd.R_drew)); exact (Kd.R_mono (Kd.R_far (p := ⟨gb188, 1, none⟩) (Kd.R_types HO194.out BK188.out (by decide)) (fun _ hk => hk.2) (.slice Ao20 y192.length co20)) (fun _ h_ => h_.1))) hg (fun _ _ => by simp [Value.ownBlock])); have n3_ := Aside0.mk (hb); have n4_ := Aside0.mk (ho); clear BK187; clear BK188; clear HO194; clear HB; have BK187 := n0_; have BK188 := n1_; have HO194 := n2_; have HB := n3_; have HO197 := n4_; clear n0_ n1_ n2_ n3_ n4_; clear ho hb hg hat; have hcz24_0 : w23.cell? ⟨gb188, 0, none⟩ = some (.string a0_0) := (blk_cell BK188.out 0).trans rfl; have hcz24_1 : w23.cell? ⟨gb188, 1, none⟩ = some (.slice Ao20 y192.length co20) := (blk_cell BK188.out 1).trans rfl; have hcz24_2 : w23.cell? ⟨gb188, 2, none⟩ = some (.string a0_2) := (blk_cell BK188.out 2).trans rfl; have hfz24_0 := blk_frozen BK188.out 0; have hfz24_1 := blk_frozen BK188.out 1; have hfz24_2 := blk_frozen BK188.out 2; obtain ⟨Ao25, co25, eo25⟩ := Kd.R_slice HO197.out; subst eo25) | ((with_reducible refine gate_callee (f := 6) rfl ?_); refine goesL_ (some 48) rfl rfl Try.func6 (by kernel_rfl) rfl #[.agg #[.string a0_0, .slice Ao20 y192.length co20, .string a0_2], .slice Ao25 y195.length co25] rfl (by (try simp only [List.map_toArray, List.map_cons, List.map_nil]); first | done | rfl | (simp only [List.length_drop, List.length_take]; rfl)) ?_; (with_reducible refine (page_Sent.calls k a0_0 _ _ y192 a0_2 _ _ y195 t198 _ ?side1 ?side2 ?side3 ?side4 A5.out).mono ?_); (case side1 => repeat (first | exact (Kd.R_reads' HO194.out).2.2 | (with_reducible refine Kd.C_alloc ?_ _) | (with_reducible refine Kd.C_drewN ?_ _) | (with_reducible refine Kd.C_drew ?_))); (case side2 => exact (Kd.R_reads' HO194.out).2.1); (case side3 => repeat (first | exact (Kd.R_reads' HO197.out).2.2 | (with_reducible refine Kd.C_alloc ?_ _) | (with_reducible refine Kd.C_drewN ?_ _) | (with_reducible refine Kd.C_drew ?_))); (case side4 => exact (Kd.R_reads' HO197.out).2.1); rintro e w26 ⟨v199, rfl, ho0, hb⟩; refine ⟨_, rfl, ?_⟩; have n0_ := Aside0.mk (Kd.R_below (by (with_reducible repeat (first | apply Kd.R_alloc | apply Kd.R_drewN | apply Kd.R_drew)); exact HO194.out) hb); have n1_ := Aside0.mk (Kd.R_elder' (by (with_reducible repeat (first | apply Kd.R_alloc | apply Kd.R_drewN | apply Kd.R_drew)); exact HO197.out) (Kd.R_base ho0) hb); have n2_ := Aside0.mk (Kd.R_lower (Kd.R_new' ho0 (Kd.R_lt (by (with_reducible repeat (first | apply Kd.R_alloc | apply Kd.R_drewN | apply Kd.R_drew)); exact HO197.out))) (below_size (by repeat (first | (with_reducible first | exact HB.out | apply below_alloc | apply pw_below_drewN | apply below_drew1 | refine below_set ?_ GE187.out | refine below_set ?_ GE188.out) | exact HB.out)))); have n3_ := Aside0.mk (blk_below (g := gb187) (o := .cells #[.string a0_0, .slice A0_1 l0_1.length c0_1, .string a0_2, .slice A0_3 l0_3.length c0_3] 27 (0, 0)) (by (with_reducible repeat (first | refine blk_drewN ?_ _ | refine blk_drew ?_ | refine blk_alloc ?_ _)); exact BK187.out) hb); have n4_ := Aside0.mk (blk_below (g := gb188) (o := .cells #[.string a0_0, .slice Ao20 y192.length co20, .string a0_2] 24 (0, 0)) (by (with_reducible repeat (first | refine blk_drewN ?_ _ | refine blk_drew ?_ | refine blk_alloc ?_ _)); exact BK188.out) hb); have n5_ := Aside0.mk (below_step (by repeat (first | (with_reducible first | exact HB.out | apply below_alloc | apply pw_below_drewN | apply below_drew1 | refine below_set ?_ GE187.out | refine below_set ?_ GE188.out) | exact HB.out)) hb); clear HO194; clear HO197; clear BK187; clear BK188; clear HB; have HO194 := n0_; have HO197 := n1_; have HO200 := n2_; have BK187 := n3_; have BK188 := n4_; have HB := n5_; clear n0_ n1_ n2_ n3_ n4_ n5_; (try clear hb); (try clear hb2); (try clear hk); (try clear hi); (try clear ho0); obtain ⟨Ao28, co28, eo28⟩ := Kd.R_slice HO200.out; subst eo28) | ((with_reducible refine gate_builtin (b := .append) (xs := #[.tmp 49, .tmp 50]) rfl ?_); (try (refine gate_guard (by rfl) ?_; dsimp only)); at_builtin; refine Kd.R_append_rows k32 (w0 := w) w.heap.size rfl (.tmp 49) (.tmp 50) 25 32 (.agg #[(.string ⟨#[]⟩), (.string ⟨#[]⟩)]) 32 rfl Try.underlying25 info32 rfl (by decide) (by omega) (.slice none 0 0) ([] : List (S32)) t198 _ _ _ (fun k_ => some k_ ≠ (.slice Ao25 y195.length co25 : Value).ownBlock ∧ some k_ ≠ (.slice Ao28 t198.length co28 : Value).ownBlock) (fun _ => False) rfl rfl ?aO ?aR (fun _ _ h => h) (fun _ h => h.elim) ?aF ?aB ?aS ?aL ?_; (case aR => repeat (first | exact (Kd.R_reads' HO200.out).2.2 | (with_reducible refine Kd.C_alloc ?_ _) | (with_reducible refine Kd.C_drewN ?_ _) | (with_reducible refine Kd.C_drew ?_))); (case aB => exact (by repeat (first | (with_reducible first | exact HB.out | apply below_alloc | apply pw_below_drewN | apply below_drew1 | refine below_set ?_ GE187.out | refine below_set ?_ GE188.out) | exact HB.out))); (case aF => exact (fun k_ hk => ⟨Kd.fresh' (Kd.R_lt (by (with_reducible repeat (first | apply Kd.R_alloc | apply Kd.R_drewN | apply Kd.R_drew)); exact HO197.out)) k_ hk, Kd.fresh' (Kd.R_lt (by (with_reducible repeat (first | apply Kd.R_alloc | apply Kd.R_drewN | apply Kd.R_drew)); exact HO200.out)) k_ hk⟩)); (case aO => exact ((Kd.R_nil _ _ _ _ (fun k_ => some k_ ≠ (.slice Ao25 y195.length co25 : Value).ownBlock ∧ some k_ ≠ (.slice Ao28 t198.length co28 : Value).ownBlock)))); (case aS => exact (below_size (by repeat (first | (with_reducible first | exact HB.out | apply below_alloc | apply pw_below_drewN | apply below_drew1 | refine below_set ?_ GE187.out | refine below_set ?_ GE188.out) | exact HB.out)))); (case aL => have := LMc6.out; omega); intro v202 w27 ho hb hg hat; rw [← Ny201.out] at ho; have n0_ := Aside0.mk (blk_grown (g := gb187) (o := .cells #[.string a0_0, .slice A0_1 l0_1.length c0_1, .string a0_2, .slice A0_3 l0_3.length c0_3] 27 (0, 0)) (by (with_reducible repeat (first | refine blk_drewN ?_ _ | refine blk_drew ?_ | refine blk_alloc ?_ _)); exact BK187.out) hg (by simp [Value.ownBlock])); have n1_ := Aside0.mk (blk_grown (g := gb188) (o := .cells #[.string a0_0, .slice Ao20 y192.length co20, .string a0_2] 24 (0, 0)) (by (with_reducible repeat (first | refine blk_drewN ?_ _ | refine blk_drew ?_ | refine blk_alloc ?_ _)); exact BK188.out) hg (by simp [Value.ownBlock])); have n2_ := Aside0.mk (Kd.R_grown (by (with_reducible repeat (first | apply Kd.R_alloc | apply Kd.R_drewN | apply Kd.R_drew)); exact HO194.out) hg (fun _ _ => by simp [Value.ownBlock])); have n3_ := Aside0.mk (Kd.R_after (Kd.R_apart_nil (by (with_reducible repeat (first | apply Kd.R_alloc | apply Kd.R_drewN | apply Kd.R_drew)); exact HO197.out)) hg hat); have n4_ := Aside0.mk (Kd.R_after (Kd.R_apart_nil (by (with_reducible repeat (first | apply Kd.R_alloc | apply Kd.R_drewN | apply Kd.R_drew)); exact HO200.out)) hg hat); have n5_ := Aside0.mk (hb); have n6_ := Aside0.mk (ho); clear BK187; clear BK188; clear HO194; clear HO197; clear HO200; clear HB; have BK187 := n0_; have BK188 := n1_; have HO194 := n2_; have HO197 := n3_; have HO200 := n4_; have HB := n5_; have HO203 := n6_; clear n0_ n1_ n2_ n3_ n4_ n5_ n6_; clear ho hb hg hat; have hcz29_0 : w27.cell? ⟨gb188, 0, none⟩ = some (.string a0_0) := (blk_cell BK188.out 0).trans rfl; have hcz29_1 : w27.cell? ⟨gb188, 1, none⟩ = some (.slice Ao20 y192.length co20) := (blk_cell BK188.out 1).trans rfl; have hcz29_2 : w27.cell? ⟨gb188, 2, none⟩ = some (.string a0_2) := (blk_cell BK188.out 2).trans rfl; have hfz29_0 := blk_frozen BK188.out 0; have hfz29_1 := blk_frozen BK188.out 1; have hfz29_2 := blk_frozen BK188.out 2) | ((with_reducible refine gate_callee (f := 6) rfl ?_); refine goesL_ (some 54) rfl rfl Try.func6 (by kernel_rfl) rfl #[.agg #[.string a0_0, .slice Ao20 y192.length co20, .string a0_2], .slice Ao25 y195.length co25] rfl (by (try simp only [List.map_toArray, List.map_cons, List.map_nil]); first | done | rfl | (simp only [List.length_drop, List.length_take]; rfl)) ?_; (with_reducible refine (page_Sent.calls k a0_0 _ _ y192 a0_2 _ _ y195 t204 _ ?side1 ?side2 ?side3 ?side4 A7.out).mono ?_); (case side1 => repeat (first | exact (Kd.R_reads' HO194.out).2.2 | (with_reducible refine Kd.C_alloc ?_ _) | (with_reducible refine Kd.C_drewN ?_ _) | (with_reducible refine Kd.C_drew ?_))); (case side2 => exact (Kd.R_reads' HO194.out).2.1); (case side3 => repeat (first | exact (Kd.R_reads' HO197.out).2.2 | (with_reducible refine Kd.C_alloc ?_ _) | (with_reducible refine Kd.C_drewN ?_ _) | (with_reducible refine Kd.C_drew ?_))); (case side4 => exact (Kd.R_reads' HO197.out).2.1); rintro e w30 ⟨v205, rfl, ho0, hb⟩; refine ⟨_, rfl, ?_⟩; have n0_ := Aside0.mk (Kd.R_below (by (with_reducible repeat (first | apply Kd.R_alloc | apply Kd.R_drewN | apply Kd.R_drew)); exact HO194.out) hb); have n1_ := Aside0.mk (Kd.R_elder' (by (with_reducible repeat (first | apply Kd.R_alloc | apply Kd.R_drewN | apply Kd.R_drew)); exact HO197.out) (Kd.R_base ho0) hb); have n2_ := Aside0.mk (Kd.R_elder' (by (with_reducible repeat (first | apply Kd.R_alloc | apply Kd.R_drewN | apply Kd.R_drew)); exact HO200.out) (Kd.R_base ho0) hb); have n3_ := Aside0.mk (Kd.R_elder' (by (with_reducible repeat (first | apply Kd.R_alloc | apply Kd.R_drewN | apply Kd.R_drew)); exact HO203.out) (Kd.R_base ho0) hb); have n4_ := Aside0.mk (Kd.R_lower (Kd.R_new' (Kd.R_new' (Kd.R_new' ho0 (Kd.R_lt (by (with_reducible repeat (first | apply Kd.R_alloc | apply Kd.R_drewN | apply Kd.R_drew)); exact HO197.out))) (Kd.R_lt (by (with_reducible repeat (first | apply Kd.R_alloc | apply Kd.R_drewN | apply Kd.R_drew)); exact HO200.out))) (Kd.R_lt (by (with_reducible repeat (first | apply Kd.R_alloc | apply Kd.R_drewN | apply Kd.R_drew)); exact HO203.out))) (below_size (by repeat (first | (with_reducible first | exact HB.out | apply below_alloc | apply pw_below_drewN | apply below_drew1 | refine below_set ?_ GE187.out | refine below_set ?_ GE188.out) | exact HB.out)))); have n5_ := Aside0.mk (blk_below (g := gb187) (o := .cells #[.string a0_0, .slice A0_1 l0_1.length c0_1, .string a0_2, .slice A0_3 l0_3.length c0_3] 27 (0, 0)) (by (with_reducible repeat (first | refine blk_drewN ?_ _ | refine blk_drew ?_ | refine blk_alloc ?_ _)); exact BK187.out) hb); have n6_ := Aside0.mk (blk_below (g := gb188) (o := .cells #[.string a0_0, .slice Ao20 y192.length co20, .string a0_2] 24 (0, 0)) (by (with_reducible repeat (first | refine blk_drewN ?_ _ | refine blk_drew ?_ | refine blk_alloc ?_ _)); exact BK188.out) hb); have n7_ := Aside0.mk (below_step (by repeat (first | (with_reducible first | exact HB.out | apply below_alloc | apply pw_below_drewN | apply below_drew1 | refine below_set ?_ GE187.out | refine below_set ?_ GE188.out) | exact HB.out)) hb); clear HO194; clear HO197; clear HO200; clear HO203; clear BK187; clear BK188; clear HB; have HO194 := n0_; have HO197 := n1_; have HO200 := n2_; have HO203 := n3_; have HO206 := n4_; have BK187 := n5_; have BK188 := n6_; have HB := n7_; clear n0_ n1_ n2_ n3_ n4_ n5_ n6_ n7_; (try clear hb); (try clear hb2); (try clear hk); (try clear hi); (try clear ho0); obtain ⟨Ao31, co31, eo31⟩ := Kd.R_slice HO206.out; subst eo31) | ((with_reducible refine gate_callee (f := 8) rfl ?_); refine goesL_ (some 57) rfl rfl Try.func8 (by kernel_rfl) rfl #[.slice Ao28 t198.length co28, .slice Ao31 t204.length co31] rfl (by (try simp only [List.map_toArray, List.map_cons, List.map_nil]); first | done | rfl | (simp only [List.length_drop, List.length_take]; rfl)) ?_; (with_reducible refine (usherref0_SamePairs.calls k _ _ t198 _ _ t204 t207 _ ?side1 ?side2 ?side3 ?side4 A8.out).mono ?_); (case side1 => repeat (first | exact (Kd.R_reads' HO200.out).2.2 | (with_reducible refine Kd.C_alloc ?_ _) | (with_reducible refine Kd.C_drewN ?_ _) | (with_reducible refine Kd.C_drew ?_))); (case side2 => exact (Kd.R_reads' HO200.out).2.1); (case side3 => repeat (first | exact (Kd.R_reads' HO206.out).2.2 | (with_reducible refine Kd.C_alloc ?_ _) | (with_reducible refine Kd.C_drewN ?_ _) | (with_reducible refine Kd.C_drew ?_))); (case side4 => exact (Kd.R_reads' HO206.out).2.1); rintro e w' ⟨rfl, ⟨nd, rfl⟩⟩; refine ⟨_, rfl, ?_⟩))
          (try simp only [Act.put, List.setIfInBounds_toArray, List.set_cons_zero, List.set_cons_succ])
          go_cut [84] (fun v84 wc => ∃ (kq : Nat) (x84_8 : Bool), v84 = .bool x84_8 ∧ Aside0 (usherlaw5_PageSentMemory.j0 kq y195 t198 y201 t204 x84_8 a0_0 l0_1 a0_2 l0_3 a0_0 y192 a0_2 = some r) ∧ Aside0 (kq ≤ k) ∧ Aside0 (Kd.R k32 32 wc w.heap.size (fun k_ => some k_ ≠ ((.slice Ao28 t198.length co28) : Value).ownBlock ∧ some k_ ≠ (v202 : Value).ownBlock ∧ some k_ ≠ ((.slice Ao31 t204.length co31) : Value).ownBlock) (.slice Ao25 y195.length co25) y195) ∧ Aside0 (Kd.R k32 32 wc w.heap.size (fun k_ => some k_ ≠ ((.slice Ao25 y195.length co25) : Value).ownBlock ∧ some k_ ≠ (v202 : Value).ownBlock ∧ some k_ ≠ ((.slice Ao31 t204.length co31) : Value).ownBlock) (.slice Ao28 t198.length co28) t198) ∧ Aside0 (Kd.R k32 32 wc w.heap.size (fun k_ => some k_ ≠ ((.slice Ao25 y195.length co25) : Value).ownBlock ∧ some k_ ≠ ((.slice Ao28 t198.length co28) : Value).ownBlock ∧ some k_ ≠ ((.slice Ao31 t204.length co31) : Value).ownBlock) v202 y201) ∧ Aside0 (Kd.R k32 32 wc w.heap.size (fun k_ => some k_ ≠ ((.slice Ao25 y195.length co25) : Value).ownBlock ∧ some k_ ≠ ((.slice Ao28 t198.length co28) : Value).ownBlock ∧ some k_ ≠ (v202 : Value).ownBlock) (.slice Ao31 t204.length co31) t204) ∧ Aside0 (Kd.R k30 30 wc w.heap.size (fun _ => True) (.slice Ao20 y192.length co20) y192) ∧ Aside0 (wc.heap[gb187]? = some (.cells #[.string a0_0, (.slice A0_1 l0_1.length c0_1), .string a0_2, (.slice A0_3 l0_3.length c0_3)] 27 (0, 0))) ∧ Aside0 (wc.heap[gb188]? = some (.cells #[.string a0_0, (.slice Ao20 y192.length co20), .string a0_2] 24 (0, 0))) ∧ Aside0 (Below w.heap.size w wc))
          case first =>
            have H := HC9.out
            clear HC9
            by_cases c32 : t207 = true
            · subst c32
              have H1 : (if (t198.length : Int) = 0 then (usherlaw5_PageSentMemory.j0 k y195 t198 y201 t204 true a0_0 l0_1 a0_2 l0_3 a0_0 y192 a0_2) else (if 0 ≤ (wrap64 ((t198.length : Int) - 1)) then (if (wrap64 ((t198.length : Int) - 1)) < (t198.length : Int) then (if ((rd_T32 t198 (wrap64 ((t198.length : Int) - 1))).f0).toList = ([97, 108, 119, 97, 121, 115] : List UInt8) then (usherlaw5_PageSentMemory.j0 k y195 t198 y201 t204 (((rd_T32 t198 (wrap64 ((t198.length : Int) - 1))).f1).toList != ([118] : List UInt8)) a0_0 l0_1 a0_2 l0_3 a0_0 y192 a0_2) else (usherlaw5_PageSentMemory.j0 k y195 t198 y201 t204 true a0_0 l0_1 a0_2 l0_3 a0_0 y192 a0_2)) else (none)) else (none))) = some r := by rw [if_pos rfl] at H; exact H
              clear H
              have H := H1
              clear H1
              by_cases c33 : (t198.length : Int) = 0
              · rw [if_pos c33] at H
                have c33b0 : ((t198.length : Int) == 0) = true := beq_iff_eq.mpr c33
                have c33b1 : ((t198.length : Int) != 0) = false := bne_eq_false_iff_eq.mpr c33
                clear c33
                (first | rw [c33b0] | (simp only [i64_w, i32_w]; rw [c33b0]) | skip)
                have H' := Aside0.mk H
                clear H
                go_wp2
                go_meet
                case rel => exact ⟨_, (true), (by first | rfl | (simp; done) | (simp [*]; done) | (simp [bne]; done)), H', ⟨by first | omega | exact Nat.le_refl _⟩, ⟨by (with_reducible repeat (first | apply Kd.R_alloc | apply Kd.R_drewN | apply Kd.R_drew)); exact Kd.R_mono HO197.out (fun _ hk => ⟨hk.1.1.2, ⟨hk.1.2, hk.2⟩⟩)⟩, ⟨by (with_reducible repeat (first | apply Kd.R_alloc | apply Kd.R_drewN | apply Kd.R_drew)); exact Kd.R_mono HO200.out (fun _ hk => ⟨hk.1.1.2, ⟨hk.1.2, hk.2⟩⟩)⟩, ⟨by (with_reducible repeat (first | apply Kd.R_alloc | apply Kd.R_drewN | apply Kd.R_drew)); exact Kd.R_mono HO203.out (fun _ hk => ⟨hk.1.1, ⟨hk.1.2, hk.2⟩⟩)⟩, ⟨by (with_reducible repeat (first | apply Kd.R_alloc | apply Kd.R_drewN | apply Kd.R_drew)); exact Kd.R_mono HO206.out (fun _ hk => ⟨hk.1.1.2, ⟨hk.1.2, hk.2⟩⟩)⟩, ⟨by (with_reducible repeat (first | apply Kd.R_alloc | apply Kd.R_drewN | apply Kd.R_drew)); exact HO194.out⟩, ⟨by (with_reducible repeat (first | refine blk_drewN ?_ _ | refine blk_drew ?_ | refine blk_alloc ?_ _)); exact BK187.out⟩, ⟨by (with_reducible repeat (first | refine blk_drewN ?_ _ | refine blk_drew ?_ | refine blk_alloc ?_ _)); exact BK188.out⟩, ⟨by repeat (first | (with_reducible first | exact HB.out | apply below_alloc | apply pw_below_drewN | apply below_drew1 | refine below_set ?_ GE187.out | refine below_set ?_ GE188.out) | exact HB.out)⟩⟩
              · rw [if_neg c33] at H
                have c33b0 : ((t198.length : Int) == 0) = false := beq_eq_false_iff_ne.mpr c33
                have c33b1 : ((t198.length : Int) != 0) = true := bne_iff_ne.mpr c33
                have c33b2 : ¬ (t198 = []) := fun h_ => c33 (by rw [h_]; rfl)
                (first | rw [c33b0] | (simp only [i64_w, i32_w]; rw [c33b0]) | skip)
                obtain ⟨ji34, hji34⟩ : ∃ j_ : Int, (wrap64 ((t198.length : Int) - 1)) = j_ := ⟨_, rfl⟩
                replace H : (if 0 ≤ (ji34) then (if (ji34) < (t198.length : Int) then (if ((rd_T32 t198 (ji34)).f0).toList = ([97, 108, 119, 97, 121, 115] : List UInt8) then (usherlaw5_PageSentMemory.j0 k y195 t198 y201 t204 (((rd_T32 t198 (ji34)).f1).toList != ([118] : List UInt8)) a0_0 l0_1 a0_2 l0_3 a0_0 y192 a0_2) else (usherlaw5_PageSentMemory.j0 k y195 t198 y201 t204 true a0_0 l0_1 a0_2 l0_3 a0_0 y192 a0_2)) else (none)) else (none)) = some r := by first | (rw [hji34] at H; exact H) | (simp only [hji34] at H ⊢; exact H)
                have hji34w : (IntKind.i64.wrap ((t198.length : Int) - 1)) = ji34 := (i64_w _).trans hji34
                by_cases c35 : 0 ≤ (ji34)
                · rw [if_pos c35] at H
                  have c35b0 : decide (0 ≤ (ji34)) = true := decide_eq_true c35
                  clear c35
                  by_cases c36 : (ji34) < (t198.length : Int)
                  · rw [if_pos c36] at H
                    have c36b0 : decide ((ji34) < (t198.length : Int)) = true := decide_eq_true c36
                    clear c36
                    by_cases c37 : ((rd_T32 t198 (ji34)).f0).toList = ([97, 108, 119, 97, 121, 115] : List UInt8)
                    · rw [if_pos c37] at H
                      have c37b0 : (((rd_T32 t198 (ji34)).f0).toList == ([97, 108, 119, 97, 121, 115] : List UInt8)) = true := beq_iff_eq.mpr c37
                      have c37b1 : (((rd_T32 t198 (ji34)).f0).toList != ([97, 108, 119, 97, 121, 115] : List UInt8)) = false := bne_eq_false_iff_eq.mpr c37
                      clear c37
                      have H' := Aside0.mk H
                      clear H
                      have p208 : 0 ≤ ((ji34) : Int) := of_decide_eq_true (by first | (with_reducible assumption) | assumption)
                      have q208 : (ji34) < (t198.length : Int) := of_decide_eq_true (by first | (with_reducible assumption) | assumption)
                      obtain ⟨ad208, e208, hx208_0, hx208_1⟩ := at_T32 (Kd.R_reads' HO200.out).2.2 (ji34) p208 q208
                      cases e208
                      replace p208 := eq_true p208
                      replace q208 := eq_true q208
                      have p209 : 0 ≤ ((ji34) : Int) := of_decide_eq_true (by first | (with_reducible assumption) | assumption)
                      have q209 : (ji34) < (t198.length : Int) := of_decide_eq_true (by first | (with_reducible assumption) | assumption)
                      obtain ⟨ad209, e209, hx209_0, hx209_1⟩ := at_T32 (Kd.R_reads' HO200.out).2.2 (ji34) p209 q209
                      obtain rfl : ad208 = ad209 := (by injection e209)
                      replace p209 := eq_true p209
                      replace q209 := eq_true q209
                      go_wp2
                      go_meet
                      case rel => exact ⟨_, ((((rd_T32 t198 (ji34)).f1).toList != ([118] : List UInt8))), (by first | rfl | (simp; done) | (simp only [← hji34] <;> (first | rfl | simp)) | (simp [*]; done)), H', ⟨by first | omega | exact Nat.le_refl _⟩, ⟨by (with_reducible repeat (first | apply Kd.R_alloc | apply Kd.R_drewN | apply Kd.R_drew)); exact Kd.R_mono HO197.out (fun _ hk => ⟨hk.1.1.2, ⟨hk.1.2, hk.2⟩⟩)⟩, ⟨by (with_reducible repeat (first | apply Kd.R_alloc | apply Kd.R_drewN | apply Kd.R_drew)); exact Kd.R_mono HO200.out (fun _ hk => ⟨hk.1.1.2, ⟨hk.1.2, hk.2⟩⟩)⟩, ⟨by (with_reducible repeat (first | apply Kd.R_alloc | apply Kd.R_drewN | apply Kd.R_drew)); exact Kd.R_mono HO203.out (fun _ hk => ⟨hk.1.1, ⟨hk.1.2, hk.2⟩⟩)⟩, ⟨by (with_reducible repeat (first | apply Kd.R_alloc | apply Kd.R_drewN | apply Kd.R_drew)); exact Kd.R_mono HO206.out (fun _ hk => ⟨hk.1.1.2, ⟨hk.1.2, hk.2⟩⟩)⟩, ⟨by (with_reducible repeat (first | apply Kd.R_alloc | apply Kd.R_drewN | apply Kd.R_drew)); exact HO194.out⟩, ⟨by (with_reducible repeat (first | refine blk_drewN ?_ _ | refine blk_drew ?_ | refine blk_alloc ?_ _)); exact BK187.out⟩, ⟨by (with_reducible repeat (first | refine blk_drewN ?_ _ | refine blk_drew ?_ | refine blk_alloc ?_ _)); exact BK188.out⟩, ⟨by repeat (first | (with_reducible first | exact HB.out | apply below_alloc | apply pw_below_drewN | apply below_drew1 | refine below_set ?_ GE187.out | refine below_set ?_ GE188.out) | exact HB.out)⟩⟩
                    · rw [if_neg c37] at H
                      have c37b0 : (((rd_T32 t198 (ji34)).f0).toList == ([97, 108, 119, 97, 121, 115] : List UInt8)) = false := beq_eq_false_iff_ne.mpr c37
                      have c37b1 : (((rd_T32 t198 (ji34)).f0).toList != ([97, 108, 119, 97, 121, 115] : List UInt8)) = true := bne_iff_ne.mpr c37
                      have H' := Aside0.mk H
                      clear H
                      have p208 : 0 ≤ ((ji34) : Int) := of_decide_eq_true (by first | (with_reducible assumption) | assumption)
                      have q208 : (ji34) < (t198.length : Int) := of_decide_eq_true (by first | (with_reducible assumption) | assumption)
                      obtain ⟨ad208, e208, hx208_0, hx208_1⟩ := at_T32 (Kd.R_reads' HO200.out).2.2 (ji34) p208 q208
                      cases e208
                      replace p208 := eq_true p208
                      replace q208 := eq_true q208
                      go_wp2
                      go_meet
                      case rel => exact ⟨_, (true), (by first | rfl | (simp; done) | (simp [*]; done) | (simp [bne]; done)), H', ⟨by first | omega | exact Nat.le_refl _⟩, ⟨by (with_reducible repeat (first | apply Kd.R_alloc | apply Kd.R_drewN | apply Kd.R_drew)); exact Kd.R_mono HO197.out (fun _ hk => ⟨hk.1.1.2, ⟨hk.1.2, hk.2⟩⟩)⟩, ⟨by (with_reducible repeat (first | apply Kd.R_alloc | apply Kd.R_drewN | apply Kd.R_drew)); exact Kd.R_mono HO200.out (fun _ hk => ⟨hk.1.1.2, ⟨hk.1.2, hk.2⟩⟩)⟩, ⟨by (with_reducible repeat (first | apply Kd.R_alloc | apply Kd.R_drewN | apply Kd.R_drew)); exact Kd.R_mono HO203.out (fun _ hk => ⟨hk.1.1, ⟨hk.1.2, hk.2⟩⟩)⟩, ⟨by (with_reducible repeat (first | apply Kd.R_alloc | apply Kd.R_drewN | apply Kd.R_drew)); exact Kd.R_mono HO206.out (fun _ hk => ⟨hk.1.1.2, ⟨hk.1.2, hk.2⟩⟩)⟩, ⟨by (with_reducible repeat (first | apply Kd.R_alloc | apply Kd.R_drewN | apply Kd.R_drew)); exact HO194.out⟩, ⟨by (with_reducible repeat (first | refine blk_drewN ?_ _ | refine blk_drew ?_ | refine blk_alloc ?_ _)); exact BK187.out⟩, ⟨by (with_reducible repeat (first | refine blk_drewN ?_ _ | refine blk_drew ?_ | refine blk_alloc ?_ _)); exact BK188.out⟩, ⟨by repeat (first | (with_reducible first | exact HB.out | apply below_alloc | apply pw_below_drewN | apply below_drew1 | refine below_set ?_ GE187.out | refine below_set ?_ GE188.out) | exact HB.out)⟩⟩
                  · rw [if_neg c36] at H
                    exact absurd H (by simp)
                · rw [if_neg c35] at H
                  exact absurd H (by simp)
            · replace c32 := Bool.eq_false_iff.mpr c32
              subst c32
              have H1 : (usherlaw5_PageSentMemory.j0 k y195 t198 y201 t204 true a0_0 l0_1 a0_2 l0_3 a0_0 y192 a0_2) = some r := by rw [if_neg (show ¬ (false = true) by decide)] at H; exact H
              clear H
              have H := H1
              clear H1
              have H' := Aside0.mk H
              clear H
              go_wp2
              go_meet
              case rel => exact ⟨_, (true), (by first | rfl | (simp; done) | (simp [*]; done) | (simp [bne]; done)), H', ⟨by first | omega | exact Nat.le_refl _⟩, ⟨by (with_reducible repeat (first | apply Kd.R_alloc | apply Kd.R_drewN | apply Kd.R_drew)); exact Kd.R_mono HO197.out (fun _ hk => ⟨hk.1.1.2, ⟨hk.1.2, hk.2⟩⟩)⟩, ⟨by (with_reducible repeat (first | apply Kd.R_alloc | apply Kd.R_drewN | apply Kd.R_drew)); exact Kd.R_mono HO200.out (fun _ hk => ⟨hk.1.1.2, ⟨hk.1.2, hk.2⟩⟩)⟩, ⟨by (with_reducible repeat (first | apply Kd.R_alloc | apply Kd.R_drewN | apply Kd.R_drew)); exact Kd.R_mono HO203.out (fun _ hk => ⟨hk.1.1, ⟨hk.1.2, hk.2⟩⟩)⟩, ⟨by (with_reducible repeat (first | apply Kd.R_alloc | apply Kd.R_drewN | apply Kd.R_drew)); exact Kd.R_mono HO206.out (fun _ hk => ⟨hk.1.1.2, ⟨hk.1.2, hk.2⟩⟩)⟩, ⟨by (with_reducible repeat (first | apply Kd.R_alloc | apply Kd.R_drewN | apply Kd.R_drew)); exact HO194.out⟩, ⟨by (with_reducible repeat (first | refine blk_drewN ?_ _ | refine blk_drew ?_ | refine blk_alloc ?_ _)); exact BK187.out⟩, ⟨by (with_reducible repeat (first | refine blk_drewN ?_ _ | refine blk_drew ?_ | refine blk_alloc ?_ _)); exact BK188.out⟩, ⟨by repeat (first | (with_reducible first | exact HB.out | apply below_alloc | apply pw_below_drewN | apply below_drew1 | refine below_set ?_ GE187.out | refine below_set ?_ GE188.out) | exact HB.out)⟩⟩
          case rest =>
            clear HC9
            try clear c1
            try clear c2
            try clear p2
            try clear q2
            try clear hx2
            try clear c3
            try clear c4
            try clear c6
            try clear p6
            try clear c8
            try clear c13
            try clear p20
            try clear q20
            try clear hx20
            try clear c32
            try clear c33
            try clear c33b0
            try clear c33b1
            try clear c33b2
            try clear c35
            try clear c35b0
            try clear c36
            try clear c36b0
            try clear c37
            try clear c37b0
            try clear c37b1
            try clear hcz11_0
            try clear hcz11_1
            try clear hcz11_2
            try clear hcz11_3
            try clear hcz14_0
            try clear hcz14_1
            try clear hcz14_2
            try clear hcz15_0
            try clear hcz15_1
            try clear hcz15_2
            try clear hcz15_3
            try clear hcz18_0
            try clear hcz18_1
            try clear hcz18_2
            try clear hcz21_0
            try clear hcz21_1
            try clear hcz21_2
            try clear hcz22_0
            try clear hcz22_1
            try clear hcz22_2
            try clear hcz22_3
            try clear hcz24_0
            try clear hcz24_1
            try clear hcz24_2
            try clear hcz29_0
            try clear hcz29_1
            try clear hcz29_2
            try clear hfz11_0
            try clear hfz11_1
            try clear hfz11_2
            try clear hfz11_3
            try clear hfz14_0
            try clear hfz14_1
            try clear hfz14_2
            try clear hfz15_0
            try clear hfz15_1
            try clear hfz15_2
            try clear hfz15_3
            try clear hfz18_0
            try clear hfz18_1
            try clear hfz18_2
            try clear hfz21_0
            try clear hfz21_1
            try clear hfz21_2
            try clear hfz22_0
            try clear hfz22_1
            try clear hfz22_2
            try clear hfz22_3
            try clear hfz24_0
            try clear hfz24_1
            try clear hfz24_2
            try clear hfz29_0
            try clear hfz29_1
            try clear hfz29_2
            try clear hx208_0
            try clear hx208_1
            try clear hx209_0
            try clear hx209_1
            try clear p208
            try clear p209
            try clear q208
            try clear q209
            obtain ⟨kq, x84_8, rfl, HA, HJ8, HO_4, HO_5, HO_6, HO_7, HO_189001, BK187, BK188, HB⟩ := hcut
            cases kq with
            | zero => exact absurd HA.out (by simp [usherlaw5_PageSentMemory.j0])
            | succ kj8 =>
              have H := HA.out
              clear HA
              simp only [usherlaw5_PageSentMemory.j0] at H
              by_cases c38 : x84_8 = true
              · subst c38
                have H1 : (some false) = some r := by rw [if_pos rfl] at H; exact H
                clear H
                have H := H1
                clear H1
                obtain rfl := Option.some.inj H
                go_wp2
                go_ret
                exact ⟨by first | rfl | (simp [errW_none, errW_some] <;> rfl) | (simp [*, errW_none, errW_some] <;> rfl), by repeat (first | (with_reducible first | exact HB.out | apply below_alloc | apply pw_below_drewN | apply below_drew1 | refine below_set ?_ GE187.out | refine below_set ?_ GE188.out) | exact HB.out)⟩
              · replace c38 := Bool.eq_false_iff.mpr c38
                subst c38
                have H1 : ((usherlaw5_markAll.f kj8 t198 (⟨#[109, 97, 114, 107, 32, 111, 102, 32, 97]⟩ : ByteArray)).bind fun t210 => ((usherlaw5_markAll.f kj8 t204 (⟨#[109, 97, 114, 107, 32, 111, 102, 32, 98]⟩ : ByteArray)).bind fun t211 => (if t210.length < 4398046511104 then (if t211.length < 4398046511104 then (usherlaw5_PageSentMemory.l0 kj8 y195 y201 (t210 ++ [(⟨(⟨#[109, 97, 114, 107, 32, 111, 102, 32, 97]⟩ : ByteArray), (⟨#[109, 97, 114, 107, 32, 111, 102, 32, 97]⟩ : ByteArray)⟩ : S32)]) (t211 ++ [(⟨(⟨#[109, 97, 114, 107, 32, 111, 102, 32, 98]⟩ : ByteArray), (⟨#[109, 97, 114, 107, 32, 111, 102, 32, 98]⟩ : ByteArray)⟩ : S32)]) 1 a0_0 l0_1 a0_2 l0_3 a0_0 y192 a0_2) else (none)) else (none)))) = some r := by rw [if_neg (show ¬ (false = true) by decide)] at H; exact H
                clear H
                have H := H1
                clear H1
                replace H := Option.bind_eq_some_iff.mp H
                obtain ⟨t210, A390, H⟩ := H
                replace H : ((usherlaw5_markAll.f kj8 t204 (⟨#[109, 97, 114, 107, 32, 111, 102, 32, 98]⟩ : ByteArray)).bind fun t211 => (if t210.length < 4398046511104 then (if t211.length < 4398046511104 then (usherlaw5_PageSentMemory.l0 kj8 y195 y201 (t210 ++ [(⟨(⟨#[109, 97, 114, 107, 32, 111, 102, 32, 97]⟩ : ByteArray), (⟨#[109, 97, 114, 107, 32, 111, 102, 32, 97]⟩ : ByteArray)⟩ : S32)]) (t211 ++ [(⟨(⟨#[109, 97, 114, 107, 32, 111, 102, 32, 98]⟩ : ByteArray), (⟨#[109, 97, 114, 107, 32, 111, 102, 32, 98]⟩ : ByteArray)⟩ : S32)]) 1 a0_0 l0_1 a0_2 l0_3 a0_0 y192 a0_2) else (none)) else (none))) = some r := H
                have A39 := Aside0.mk A390
                clear A390
                replace H := Option.bind_eq_some_iff.mp H
                obtain ⟨t211, A400, H⟩ := H
                replace H : (if t210.length < 4398046511104 then (if t211.length < 4398046511104 then (usherlaw5_PageSentMemory.l0 kj8 y195 y201 (t210 ++ [(⟨(⟨#[109, 97, 114, 107, 32, 111, 102, 32, 97]⟩ : ByteArray), (⟨#[109, 97, 114, 107, 32, 111, 102, 32, 97]⟩ : ByteArray)⟩ : S32)]) (t211 ++ [(⟨(⟨#[109, 97, 114, 107, 32, 111, 102, 32, 98]⟩ : ByteArray), (⟨#[109, 97, 114, 107, 32, 111, 102, 32, 98]⟩ : ByteArray)⟩ : S32)]) 1 a0_0 l0_1 a0_2 l0_3 a0_0 y192 a0_2) else (none)) else (none)) = some r := H
                have A40 := Aside0.mk A400
                clear A400
                by_cases c41 : t210.length < 4398046511104
                · rw [if_pos c41] at H
                  have LMc41 := Aside0.mk c41
                  clear c41
                  obtain ⟨y212, hy212⟩ : ∃ y_ : List (S32), y_ = (t210 ++ [(⟨(⟨#[109, 97, 114, 107, 32, 111, 102, 32, 97]⟩ : ByteArray), (⟨#[109, 97, 114, 107, 32, 111, 102, 32, 97]⟩ : ByteArray)⟩ : S32)]) := ⟨_, rfl⟩
                  replace H : (if t211.length < 4398046511104 then (usherlaw5_PageSentMemory.l0 kj8 y195 y201 y212 (t211 ++ [(⟨(⟨#[109, 97, 114, 107, 32, 111, 102, 32, 98]⟩ : ByteArray), (⟨#[109, 97, 114, 107, 32, 111, 102, 32, 98]⟩ : ByteArray)⟩ : S32)]) 1 a0_0 l0_1 a0_2 l0_3 a0_0 y192 a0_2) else (none)) = some r := by first | (rw [hy212]; with_reducible exact H) | (have H2_ := (Option.bind_some _ _).symm.trans H; rw [hy212]; with_reducible exact H2_) | (have H2_ := (Option.bind_some _ _).symm.trans H; with_reducible exact H2_) | with_reducible exact H | (rw [hy212]; exact H) | exact H
                  have Ny212 := Aside0.mk hy212
                  clear hy212
                  by_cases c42 : t211.length < 4398046511104
                  · rw [if_pos c42] at H
                    have LMc42 := Aside0.mk c42
                    clear c42
                    obtain ⟨y215, hy215⟩ : ∃ y_ : List (S32), y_ = (t211 ++ [(⟨(⟨#[109, 97, 114, 107, 32, 111, 102, 32, 98]⟩ : ByteArray), (⟨#[109, 97, 114, 107, 32, 111, 102, 32, 98]⟩ : ByteArray)⟩ : S32)]) := ⟨_, rfl⟩
                    replace H : (usherlaw5_PageSentMemory.l0 kj8 y195 y201 y212 y215 1 a0_0 l0_1 a0_2 l0_3 a0_0 y192 a0_2) = some r := by first | (rw [hy215]; with_reducible exact H) | (have H2_ := (Option.bind_some _ _).symm.trans H; rw [hy215]; with_reducible exact H2_) | (have H2_ := (Option.bind_some _ _).symm.trans H; with_reducible exact H2_) | with_reducible exact H | (rw [hy215]; exact H) | exact H
                    have Ny215 := Aside0.mk hy215
                    clear hy215
                    have H' := Aside0.mk H
                    clear H
                    go_wp2_with (first | ((with_reducible refine gate_callee (f := 10) rfl ?_); refine goesL_ (some 86) rfl rfl Try.func10 (by kernel_rfl) rfl #[.slice Ao28 t198.length co28, .string (⟨#[109, 97, 114, 107, 32, 111, 102, 32, 97]⟩ : ByteArray)] rfl (by (try simp only [List.map_toArray, List.map_cons, List.map_nil]); first | done | rfl | (simp only [List.length_drop, List.length_take]; rfl)) ?_; (with_reducible refine (usherlaw5_markAll.calls kj8 (fun k_ => some k_ = (.slice Ao28 t198.length co28 : Value).ownBlock) (.slice Ao28 t198.length co28) t198 (⟨#[109, 97, 114, 107, 32, 111, 102, 32, 97]⟩ : ByteArray) t210 w _ ?side1 ?side2 A39.out).mono ?_); (case side1 => repeat (first | (with_reducible first | exact HB.out | apply below_alloc | apply pw_below_drewN | apply below_drew1 | refine below_set ?_ GE187.out | refine below_set ?_ GE188.out) | exact HB.out)); (case side2 => exact Kd.R_tight rfl HO_5.out); rintro e w43 ⟨rfl, hy0, hb, hkp⟩; refine ⟨_, rfl, ?_⟩; have n0_ := Aside0.mk (Kd.R_mono (ok' := fun k_ => some k_ ≠ (.slice Ao28 t198.length co28 : Value).ownBlock ∧ some k_ ≠ (v202 : Value).ownBlock ∧ some k_ ≠ (.slice Ao31 t204.length co31 : Value).ownBlock) (Kd.R_keptB (HO_4.out) hkp (fun k_ hk_ hs_ => (hk_.1) hs_)) (fun k_ hk_ => ⟨hk_.1.1, hk_.1.2.1, hk_.1.2.2⟩)); have n1_ := Aside0.mk (Kd.R_reok rfl hy0 (fun k_ e_ => HO_5.out.1 k_ e_)); have n2_ := Aside0.mk (Kd.R_mono (ok' := fun k_ => some k_ ≠ (.slice Ao25 y195.length co25 : Value).ownBlock ∧ some k_ ≠ (.slice Ao28 t198.length co28 : Value).ownBlock ∧ some k_ ≠ (.slice Ao31 t204.length co31 : Value).ownBlock) (Kd.R_keptB (HO_6.out) hkp (fun k_ hk_ hs_ => (hk_.2.1) hs_)) (fun k_ hk_ => ⟨hk_.1.1, hk_.1.2.1, hk_.1.2.2⟩)); have n3_ := Aside0.mk (Kd.R_mono (ok' := fun k_ => some k_ ≠ (.slice Ao25 y195.length co25 : Value).ownBlock ∧ some k_ ≠ (.slice Ao28 t198.length co28 : Value).ownBlock ∧ some k_ ≠ (v202 : Value).ownBlock) (Kd.R_keptB (HO_7.out) hkp (fun k_ hk_ hs_ => (hk_.2.1) hs_)) (fun k_ hk_ => ⟨hk_.1.1, hk_.1.2.1, hk_.1.2.2⟩)); have n4_ := Aside0.mk (Kd.R_mono (ok' := fun k_ => True) (Kd.R_keptB ((Kd.R_apart' HO_189001.out (Kd.R_typed HO_5.out) (by decide))) hkp (fun k_ hk_ hs_ => (hk_.2) hs_)) (fun k_ hk_ => trivial)); have n5_ := Aside0.mk (blk_kept (by (with_reducible repeat (first | refine blk_drewN ?_ _ | refine blk_drew ?_ | refine blk_alloc ?_ _)); exact BK187.out) hkp (fun hs_ => (fun e_ => (Kd.R_ne HO_5.out BK187.out (by decide)) e_) hs_)); have n6_ := Aside0.mk (blk_kept (by (with_reducible repeat (first | refine blk_drewN ?_ _ | refine blk_drew ?_ | refine blk_alloc ?_ _)); exact BK188.out) hkp (fun hs_ => (fun e_ => (Kd.R_ne HO_5.out BK188.out (by decide)) e_) hs_)); have n7_ := Aside0.mk (hb); clear HO_4; clear HO_5; clear HO_6; clear HO_7; clear HO_189001; clear BK187; clear BK188; clear HB; have HO_4 := n0_; have HO_5 := n1_; have HO_6 := n2_; have HO_7 := n3_; have HO_189001 := n4_; have BK187 := n5_; have BK188 := n6_; have HB := n7_; clear n0_ n1_ n2_ n3_ n4_ n5_ n6_ n7_; (try clear hb); (try clear hkp); (try clear hy0)) | ((with_reducible refine gate_callee (f := 10) rfl ?_); refine goesL_ (some 88) rfl rfl Try.func10 (by kernel_rfl) rfl #[.slice Ao31 t204.length co31, .string (⟨#[109, 97, 114, 107, 32, 111, 102, 32, 98]⟩ : ByteArray)] rfl (by (try simp only [List.map_toArray, List.map_cons, List.map_nil]); first | done | rfl | (simp only [List.length_drop, List.length_take]; rfl)) ?_; (with_reducible refine (usherlaw5_markAll.calls kj8 (fun k_ => some k_ = (.slice Ao31 t204.length co31 : Value).ownBlock) (.slice Ao31 t204.length co31) t204 (⟨#[109, 97, 114, 107, 32, 111, 102, 32, 98]⟩ : ByteArray) t211 w _ ?side1 ?side2 A40.out).mono ?_); (case side1 => repeat (first | (with_reducible first | exact HB.out | apply below_alloc | apply pw_below_drewN | apply below_drew1 | refine below_set ?_ GE187.out | refine below_set ?_ GE188.out) | exact HB.out)); (case side2 => exact Kd.R_tight rfl HO_7.out); rintro e w44 ⟨rfl, hy0, hb, hkp⟩; refine ⟨_, rfl, ?_⟩; have n0_ := Aside0.mk (Kd.R_mono (ok' := fun k_ => some k_ ≠ (.slice Ao28 t198.length co28 : Value).ownBlock ∧ some k_ ≠ (v202 : Value).ownBlock ∧ some k_ ≠ (.slice Ao31 t204.length co31 : Value).ownBlock) (Kd.R_keptB (HO_4.out) hkp (fun k_ hk_ hs_ => (hk_.2.2) hs_)) (fun k_ hk_ => ⟨hk_.1.1, hk_.1.2.1, hk_.1.2.2⟩)); have n1_ := Aside0.mk (Kd.R_mono (ok' := fun k_ => some k_ ≠ (.slice Ao25 y195.length co25 : Value).ownBlock ∧ some k_ ≠ (v202 : Value).ownBlock ∧ some k_ ≠ (.slice Ao31 t204.length co31 : Value).ownBlock) (Kd.R_keptB (HO_5.out) hkp (fun k_ hk_ hs_ => (hk_.2.2) hs_)) (fun k_ hk_ => ⟨hk_.1.1, hk_.1.2.1, hk_.1.2.2⟩)); have n2_ := Aside0.mk (Kd.R_mono (ok' := fun k_ => some k_ ≠ (.slice Ao25 y195.length co25 : Value).ownBlock ∧ some k_ ≠ (.slice Ao28 t198.length co28 : Value).ownBlock ∧ some k_ ≠ (.slice Ao31 t204.length co31 : Value).ownBlock) (Kd.R_keptB (HO_6.out) hkp (fun k_ hk_ hs_ => (hk_.2.2) hs_)) (fun k_ hk_ => ⟨hk_.1.1, hk_.1.2.1, hk_.1.2.2⟩)); have n3_ := Aside0.mk (Kd.R_reok rfl hy0 (fun k_ e_ => HO_7.out.1 k_ e_)); have n4_ := Aside0.mk (Kd.R_mono (ok' := fun k_ => True) (Kd.R_keptB ((Kd.R_apart' HO_189001.out (Kd.R_typed HO_7.out) (by decide))) hkp (fun k_ hk_ hs_ => (hk_.2) hs_)) (fun k_ hk_ => trivial)); have n5_ := Aside0.mk (blk_kept (by (with_reducible repeat (first | refine blk_drewN ?_ _ | refine blk_drew ?_ | refine blk_alloc ?_ _)); exact BK187.out) hkp (fun hs_ => (fun e_ => (Kd.R_ne HO_7.out BK187.out (by decide)) e_) hs_)); have n6_ := Aside0.mk (blk_kept (by (with_reducible repeat (first | refine blk_drewN ?_ _ | refine blk_drew ?_ | refine blk_alloc ?_ _)); exact BK188.out) hkp (fun hs_ => (fun e_ => (Kd.R_ne HO_7.out BK188.out (by decide)) e_) hs_)); have n7_ := Aside0.mk (hb); clear HO_4; clear HO_5; clear HO_6; clear HO_7; clear HO_189001; clear BK187; clear BK188; clear HB; have HO_4 := n0_; have HO_5 := n1_; have HO_6 := n2_; have HO_7 := n3_; have HO_189001 := n4_; have BK187 := n5_; have BK188 := n6_; have HB := n7_; clear n0_ n1_ n2_ n3_ n4_ n5_ n6_ n7_; (try clear hb); (try clear hkp); (try clear hy0)) | ((with_reducible refine gate_builtin (b := .append) (xs := #[.tmp 89, .tmp 91]) rfl ?_); (try (refine gate_guard (by rfl) ?_; dsimp only)); at_builtin; refine Kd.R_append k32 (w0 := w) w.heap.size rfl (.tmp 89) (.tmp 91) 25 32 (.agg #[(.string ⟨#[]⟩), (.string ⟨#[]⟩)]) 32 rfl Try.underlying25 info32 rfl (by decide) (by omega) (.slice Ao28 t198.length co28) t210 (⟨(⟨#[109, 97, 114, 107, 32, 111, 102, 32, 97]⟩ : ByteArray), (⟨#[109, 97, 114, 107, 32, 111, 102, 32, 97]⟩ : ByteArray)⟩ : S32) [.string (⟨#[109, 97, 114, 107, 32, 111, 102, 32, 97]⟩ : ByteArray), .string (⟨#[109, 97, 114, 107, 32, 111, 102, 32, 97]⟩ : ByteArray)] (fun k_ => some k_ ≠ (.slice Ao25 y195.length co25 : Value).ownBlock ∧ some k_ ≠ (v202 : Value).ownBlock ∧ some k_ ≠ (.slice Ao31 t204.length co31 : Value).ownBlock) (fun _ => False) rfl rfl ?aP (fun _ hk => hk.elim) ?aF ?aO ?aB ?aS ?aL ?_; (case aP => exact k32_mkM _ _ _ (⟨(⟨#[109, 97, 114, 107, 32, 111, 102, 32, 97]⟩ : ByteArray), (⟨#[109, 97, 114, 107, 32, 111, 102, 32, 97]⟩ : ByteArray)⟩ : S32)); (case aB => exact (by repeat (first | (with_reducible first | exact HB.out | apply below_alloc | apply pw_below_drewN | apply below_drew1 | refine below_set ?_ GE187.out | refine below_set ?_ GE188.out) | exact HB.out))); (case aF => exact (fun k_ hk => ⟨Kd.fresh' (Kd.R_lt (by (with_reducible repeat (first | apply Kd.R_alloc | apply Kd.R_drewN | apply Kd.R_drew)); exact HO_4.out)) k_ hk, Kd.fresh' (Kd.R_lt (by (with_reducible repeat (first | apply Kd.R_alloc | apply Kd.R_drewN | apply Kd.R_drew)); exact HO_6.out)) k_ hk, Kd.fresh' (Kd.R_lt (by (with_reducible repeat (first | apply Kd.R_alloc | apply Kd.R_drewN | apply Kd.R_drew)); exact HO_7.out)) k_ hk⟩)); (case aO => exact (by (with_reducible repeat (first | apply Kd.R_alloc | apply Kd.R_drewN | apply Kd.R_drew)); exact HO_5.out)); (case aS => exact (below_size (by repeat (first | (with_reducible first | exact HB.out | apply below_alloc | apply pw_below_drewN | apply below_drew1 | refine below_set ?_ GE187.out | refine below_set ?_ GE188.out) | exact HB.out)))); (case aL => have := LMc41.out; omega); intro v213 w45 ho hb hg hat; rw [← Ny212.out] at ho; have n0_ := Aside0.mk (Kd.R_after (ok := (fun k_ => some k_ ≠ (v202 : Value).ownBlock ∧ some k_ ≠ (.slice Ao31 t204.length co31 : Value).ownBlock)) (by (with_reducible repeat (first | apply Kd.R_alloc | apply Kd.R_drewN | apply Kd.R_drew)); exact Kd.R_mono HO_4.out (fun _ hk => ⟨⟨hk.2.1, hk.2.2⟩, hk.1⟩)) hg hat); have n1_ := Aside0.mk (Kd.R_after (ok := (fun k_ => some k_ ≠ (.slice Ao25 y195.length co25 : Value).ownBlock ∧ some k_ ≠ (.slice Ao31 t204.length co31 : Value).ownBlock)) (by (with_reducible repeat (first | apply Kd.R_alloc | apply Kd.R_drewN | apply Kd.R_drew)); exact Kd.R_mono HO_6.out (fun _ hk => ⟨⟨hk.1, hk.2.2⟩, hk.2.1⟩)) hg hat); have n2_ := Aside0.mk (Kd.R_after (ok := (fun k_ => some k_ ≠ (.slice Ao25 y195.length co25 : Value).ownBlock ∧ some k_ ≠ (v202 : Value).ownBlock)) (by (with_reducible repeat (first | apply Kd.R_alloc | apply Kd.R_drewN | apply Kd.R_drew)); exact Kd.R_mono HO_7.out (fun _ hk => ⟨⟨hk.1, hk.2.2⟩, hk.2.1⟩)) hg hat); have n3_ := Aside0.mk (Kd.R_over' (by (with_reducible repeat (first | apply Kd.R_alloc | apply Kd.R_drewN | apply Kd.R_drew)); exact HO_189001.out) (Kd.R_typed (by (with_reducible repeat (first | apply Kd.R_alloc | apply Kd.R_drewN | apply Kd.R_drew)); exact HO_5.out)) (by decide) hg); have n4_ := Aside0.mk (blk_grown (g := gb187) (o := .cells #[.string a0_0, .slice A0_1 l0_1.length c0_1, .string a0_2, .slice A0_3 l0_3.length c0_3] 27 (0, 0)) (by (with_reducible repeat (first | refine blk_drewN ?_ _ | refine blk_drew ?_ | refine blk_alloc ?_ _)); exact BK187.out) hg (Kd.R_ne HO_5.out BK187.out (by decide))); have n5_ := Aside0.mk (blk_grown (g := gb188) (o := .cells #[.string a0_0, .slice Ao20 y192.length co20, .string a0_2] 24 (0, 0)) (by (with_reducible repeat (first | refine blk_drewN ?_ _ | refine blk_drew ?_ | refine blk_alloc ?_ _)); exact BK188.out) hg (Kd.R_ne HO_5.out BK188.out (by decide))); have n6_ := Aside0.mk (hb); have n7_ := Aside0.mk (ho); clear HO_4; clear HO_6; clear HO_7; clear HO_189001; clear BK187; clear BK188; clear HB; clear HO_5; have HO_4 := n0_; have HO_6 := n1_; have HO_7 := n2_; have HO_189001 := n3_; have BK187 := n4_; have BK188 := n5_; have HB := n6_; have HO214 := n7_; clear n0_ n1_ n2_ n3_ n4_ n5_ n6_ n7_; clear ho hb hg hat) | ((with_reducible refine gate_builtin (b := .append) (xs := #[.tmp 93, .tmp 95]) rfl ?_); (try (refine gate_guard (by rfl) ?_; dsimp only)); at_builtin; refine Kd.R_append k32 (w0 := w) w.heap.size rfl (.tmp 93) (.tmp 95) 25 32 (.agg #[(.string ⟨#[]⟩), (.string ⟨#[]⟩)]) 32 rfl Try.underlying25 info32 rfl (by decide) (by omega) (.slice Ao31 t204.length co31) t211 (⟨(⟨#[109, 97, 114, 107, 32, 111, 102, 32, 98]⟩ : ByteArray), (⟨#[109, 97, 114, 107, 32, 111, 102, 32, 98]⟩ : ByteArray)⟩ : S32) [.string (⟨#[109, 97, 114, 107, 32, 111, 102, 32, 98]⟩ : ByteArray), .string (⟨#[109, 97, 114, 107, 32, 111, 102, 32, 98]⟩ : ByteArray)] (fun k_ => some k_ ≠ (.slice Ao25 y195.length co25 : Value).ownBlock ∧ some k_ ≠ (v202 : Value).ownBlock ∧ some k_ ≠ (v213 : Value).ownBlock) (fun _ => False) rfl rfl ?aP (fun _ hk => hk.elim) ?aF ?aO ?aB ?aS ?aL ?_; (case aP => exact k32_mkM _ _ _ (⟨(⟨#[109, 97, 114, 107, 32, 111, 102, 32, 98]⟩ : ByteArray), (⟨#[109, 97, 114, 107, 32, 111, 102, 32, 98]⟩ : ByteArray)⟩ : S32)); (case aB => exact (by repeat (first | (with_reducible first | exact HB.out | apply below_alloc | apply pw_below_drewN | apply below_drew1 | refine below_set ?_ GE187.out | refine below_set ?_ GE188.out) | exact HB.out))); (case aF => exact (fun k_ hk => ⟨Kd.fresh' (Kd.R_lt (by (with_reducible repeat (first | apply Kd.R_alloc | apply Kd.R_drewN | apply Kd.R_drew)); exact HO_4.out)) k_ hk, Kd.fresh' (Kd.R_lt (by (with_reducible repeat (first | apply Kd.R_alloc | apply Kd.R_drewN | apply Kd.R_drew)); exact HO_6.out)) k_ hk, Kd.fresh' (Kd.R_lt (by (with_reducible repeat (first | apply Kd.R_alloc | apply Kd.R_drewN | apply Kd.R_drew)); exact HO214.out)) k_ hk⟩)); (case aO => exact (by (with_reducible repeat (first | apply Kd.R_alloc | apply Kd.R_drewN | apply Kd.R_drew)); exact Kd.R_mono HO_7.out (fun _ hk => ⟨hk.1.1, ⟨hk.1.2, hk.2⟩⟩))); (case aS => exact (below_size (by repeat (first | (with_reducible first | exact HB.out | apply below_alloc | apply pw_below_drewN | apply below_drew1 | refine below_set ?_ GE187.out | refine below_set ?_ GE188.out) | exact HB.out)))); (case aL => have := LMc42.out; omega); intro v216 w46 ho hb hg hat; rw [← Ny215.out] at ho; have n0_ := Aside0.mk (Kd.R_after (ok := (fun k_ => some k_ ≠ (v202 : Value).ownBlock ∧ some k_ ≠ (v213 : Value).ownBlock)) (by (with_reducible repeat (first | apply Kd.R_alloc | apply Kd.R_drewN | apply Kd.R_drew)); exact Kd.R_mono HO_4.out (fun _ hk => ⟨⟨hk.1.1, hk.2⟩, hk.1.2⟩)) hg hat); have n1_ := Aside0.mk (Kd.R_after (ok := (fun k_ => some k_ ≠ (.slice Ao25 y195.length co25 : Value).ownBlock ∧ some k_ ≠ (v213 : Value).ownBlock)) (by (with_reducible repeat (first | apply Kd.R_alloc | apply Kd.R_drewN | apply Kd.R_drew)); exact Kd.R_mono HO_6.out (fun _ hk => ⟨⟨hk.1.1, hk.2⟩, hk.1.2⟩)) hg hat); have n2_ := Aside0.mk (Kd.R_over' (by (with_reducible repeat (first | apply Kd.R_alloc | apply Kd.R_drewN | apply Kd.R_drew)); exact HO_189001.out) (Kd.R_typed (by (with_reducible repeat (first | apply Kd.R_alloc | apply Kd.R_drewN | apply Kd.R_drew)); exact HO_7.out)) (by decide) hg); have n3_ := Aside0.mk (blk_grown (g := gb187) (o := .cells #[.string a0_0, .slice A0_1 l0_1.length c0_1, .string a0_2, .slice A0_3 l0_3.length c0_3] 27 (0, 0)) (by (with_reducible repeat (first | refine blk_drewN ?_ _ | refine blk_drew ?_ | refine blk_alloc ?_ _)); exact BK187.out) hg (Kd.R_ne HO_7.out BK187.out (by decide))); have n4_ := Aside0.mk (blk_grown (g := gb188) (o := .cells #[.string a0_0, .slice Ao20 y192.length co20, .string a0_2] 24 (0, 0)) (by (with_reducible repeat (first | refine blk_drewN ?_ _ | refine blk_drew ?_ | refine blk_alloc ?_ _)); exact BK188.out) hg (Kd.R_ne HO_7.out BK188.out (by decide))); have n5_ := Aside0.mk (Kd.R_after (ok := (fun k_ => some k_ ≠ (.slice Ao25 y195.length co25 : Value).ownBlock ∧ some k_ ≠ (v202 : Value).ownBlock)) (by (with_reducible repeat (first | apply Kd.R_alloc | apply Kd.R_drewN | apply Kd.R_drew)); exact Kd.R_mono HO214.out (fun _ hk => ⟨⟨hk.1, hk.2.1⟩, hk.2.2⟩)) hg hat); have n6_ := Aside0.mk (hb); have n7_ := Aside0.mk (ho); clear HO_4; clear HO_6; clear HO_189001; clear BK187; clear BK188; clear HO214; clear HB; clear HO_7; have HO_4 := n0_; have HO_6 := n1_; have HO_189001 := n2_; have BK187 := n3_; have BK188 := n4_; have HO214 := n5_; have HB := n6_; have HO217 := n7_; clear n0_ n1_ n2_ n3_ n4_ n5_ n6_ n7_; clear ho hb hg hat))
                    go_loopg [9, 10, 11] kj8 (fun kq v9 v10 v11 w' => ∃ (x9_2 : List (S32)) (x10_2 : List (S32)) (x11_2 : Int), v11 = .int .i64 x11_2 ∧ Aside0 (usherlaw5_PageSentMemory.l0 kq y195 y201 x9_2 x10_2 x11_2 a0_0 l0_1 a0_2 l0_3 a0_0 y192 a0_2 = some r) ∧ Aside0 (kq ≤ kj8) ∧ Aside0 (Kd.R k32 32 w' w.heap.size (fun k_ => some k_ ≠ (v202 : Value).ownBlock ∧ some k_ ≠ (v9 : Value).ownBlock ∧ some k_ ≠ (v10 : Value).ownBlock) (.slice Ao25 y195.length co25) y195) ∧ Aside0 (Kd.R k32 32 w' w.heap.size (fun k_ => some k_ ≠ ((.slice Ao25 y195.length co25) : Value).ownBlock ∧ some k_ ≠ (v9 : Value).ownBlock ∧ some k_ ≠ (v10 : Value).ownBlock) v202 y201) ∧ Aside0 (Kd.R k32 32 w' w.heap.size (fun k_ => some k_ ≠ ((.slice Ao25 y195.length co25) : Value).ownBlock ∧ some k_ ≠ (v202 : Value).ownBlock ∧ some k_ ≠ (v10 : Value).ownBlock) v9 x9_2) ∧ Aside0 (Kd.R k32 32 w' w.heap.size (fun k_ => some k_ ≠ ((.slice Ao25 y195.length co25) : Value).ownBlock ∧ some k_ ≠ (v202 : Value).ownBlock ∧ some k_ ≠ (v9 : Value).ownBlock) v10 x10_2) ∧ Aside0 (Kd.R k30 30 w' w.heap.size (fun _ => True) (.slice Ao20 y192.length co20) y192) ∧ Aside0 (w'.heap[gb187]? = some (.cells #[.string a0_0, (.slice A0_1 l0_1.length c0_1), .string a0_2, (.slice A0_3 l0_3.length c0_3)] 27 (0, 0))) ∧ Aside0 (w'.heap[gb188]? = some (.cells #[.string a0_0, (.slice Ao20 y192.length co20), .string a0_2] 24 (0, 0))) ∧ Aside0 (Below w.heap.size w w'))
                    case atStart => exact ⟨(y212), (y215), (1), (by first | rfl | (simp; done) | (simp [*]; done) | (simp [bne]; done)), H', ⟨Nat.le_refl _⟩, ⟨by (with_reducible repeat (first | apply Kd.R_alloc | apply Kd.R_drewN | apply Kd.R_drew)); exact Kd.R_mono HO_4.out (fun _ hk => ⟨hk.1.1, ⟨hk.1.2, hk.2⟩⟩)⟩, ⟨by (with_reducible repeat (first | apply Kd.R_alloc | apply Kd.R_drewN | apply Kd.R_drew)); exact Kd.R_mono HO_6.out (fun _ hk => ⟨hk.1.1, ⟨hk.1.2, hk.2⟩⟩)⟩, ⟨by (with_reducible repeat (first | apply Kd.R_alloc | apply Kd.R_drewN | apply Kd.R_drew)); exact Kd.R_mono HO214.out (fun _ hk => ⟨hk.1.1, ⟨hk.1.2, hk.2⟩⟩)⟩, ⟨by (with_reducible repeat (first | apply Kd.R_alloc | apply Kd.R_drewN | apply Kd.R_drew)); exact HO217.out⟩, ⟨by (with_reducible repeat (first | apply Kd.R_alloc | apply Kd.R_drewN | apply Kd.R_drew)); exact HO_189001.out⟩, ⟨by (with_reducible repeat (first | refine blk_drewN ?_ _ | refine blk_drew ?_ | refine blk_alloc ?_ _)); exact BK187.out⟩, ⟨by (with_reducible repeat (first | refine blk_drewN ?_ _ | refine blk_drew ?_ | refine blk_alloc ?_ _)); exact BK188.out⟩, ⟨by repeat (first | (with_reducible first | exact HB.out | apply below_alloc | apply pw_below_drewN | apply below_drew1 | refine below_set ?_ GE187.out | refine below_set ?_ GE188.out) | exact HB.out)⟩⟩
                    case round =>
                      clear H'
                      try clear c1
                      try clear c2
                      try clear p2
                      try clear q2
                      try clear hx2
                      try clear c3
                      try clear c4
                      try clear c6
                      try clear p6
                      try clear c8
                      try clear c10
                      try clear c13
                      try clear p20
                      try clear q20
                      try clear hx20
                      try clear c32
                      try clear c33
                      try clear c33b0
                      try clear c33b1
                      try clear c33b2
                      try clear c35
                      try clear c35b0
                      try clear c36
                      try clear c36b0
                      try clear c37
                      try clear c37b0
                      try clear c37b1
                      try clear c38
                      try clear c41
                      try clear c42
                      try clear hcz11_0
                      try clear hcz11_1
                      try clear hcz11_2
                      try clear hcz11_3
                      try clear hcz14_0
                      try clear hcz14_1
                      try clear hcz14_2
                      try clear hcz15_0
                      try clear hcz15_1
                      try clear hcz15_2
                      try clear hcz15_3
                      try clear hcz18_0
                      try clear hcz18_1
                      try clear hcz18_2
                      try clear hcz21_0
                      try clear hcz21_1
                      try clear hcz21_2
                      try clear hcz22_0
                      try clear hcz22_1
                      try clear hcz22_2
                      try clear hcz22_3
                      try clear hcz24_0
                      try clear hcz24_1
                      try clear hcz24_2
                      try clear hcz29_0
                      try clear hcz29_1
                      try clear hcz29_2
                      try clear hfz11_0
                      try clear hfz11_1
                      try clear hfz11_2
                      try clear hfz11_3
                      try clear hfz14_0
                      try clear hfz14_1
                      try clear hfz14_2
                      try clear hfz15_0
                      try clear hfz15_1
                      try clear hfz15_2
                      try clear hfz15_3
                      try clear hfz18_0
                      try clear hfz18_1
                      try clear hfz18_2
                      try clear hfz21_0
                      try clear hfz21_1
                      try clear hfz21_2
                      try clear hfz22_0
                      try clear hfz22_1
                      try clear hfz22_2
                      try clear hfz22_3
                      try clear hfz24_0
                      try clear hfz24_1
                      try clear hfz24_2
                      try clear hfz29_0
                      try clear hfz29_1
                      try clear hfz29_2
                      try clear hx208_0
                      try clear hx208_1
                      try clear hx209_0
                      try clear hx209_1
                      try clear p2
                      try clear p20
                      try clear p208
                      try clear p209
                      try clear p6
                      try clear q2
                      try clear q20
                      try clear q208
                      try clear q209
                      obtain ⟨x9_2, x10_2, x11_2, rfl, HA, HK2, HO_4, HO_6, HO_9, HO_10, HO_189001, BK187, BK188, HB⟩ := hrel
                      cases gk with
                      | zero => exact absurd HA.out (by simp [usherlaw5_PageSentMemory.l0])
                      | succ k2 =>
                        have H := HA.out
                        clear HA
                        simp only [usherlaw5_PageSentMemory.l0] at H
                        by_cases c47 : x11_2 < 64
                        · rw [if_pos c47] at H
                          have c47b0 : decide (x11_2 < 64) = true := decide_eq_true c47
                          clear c47
                          by_cases c48 : x9_2.length < 4398046511104
                          · rw [if_pos c48] at H
                            have LMc48 := Aside0.mk c48
                            clear c48
                            obtain ⟨y218, hy218⟩ : ∃ y_ : List (S32), y_ = (x9_2 ++ [(⟨(⟨#[109, 97, 114, 107, 32, 111, 102, 32, 97]⟩ : ByteArray), (⟨#[109, 97, 114, 107, 32, 111, 102, 32, 97]⟩ : ByteArray)⟩ : S32)]) := ⟨_, rfl⟩
                            replace H : (if x10_2.length < 4398046511104 then (usherlaw5_PageSentMemory.l0 k2 y195 y201 y218 (x10_2 ++ [(⟨(⟨#[109, 97, 114, 107, 32, 111, 102, 32, 98]⟩ : ByteArray), (⟨#[109, 97, 114, 107, 32, 111, 102, 32, 98]⟩ : ByteArray)⟩ : S32)]) (wrap64 (x11_2 + 1)) a0_0 l0_1 a0_2 l0_3 a0_0 y192 a0_2) else (none)) = some r := by first | (rw [hy218]; with_reducible exact H) | (have H2_ := (Option.bind_some _ _).symm.trans H; rw [hy218]; with_reducible exact H2_) | (have H2_ := (Option.bind_some _ _).symm.trans H; with_reducible exact H2_) | with_reducible exact H | (rw [hy218]; exact H) | exact H
                            have Ny218 := Aside0.mk hy218
                            clear hy218
                            by_cases c49 : x10_2.length < 4398046511104
                            · rw [if_pos c49] at H
                              have LMc49 := Aside0.mk c49
                              clear c49
                              obtain ⟨y221, hy221⟩ : ∃ y_ : List (S32), y_ = (x10_2 ++ [(⟨(⟨#[109, 97, 114, 107, 32, 111, 102, 32, 98]⟩ : ByteArray), (⟨#[109, 97, 114, 107, 32, 111, 102, 32, 98]⟩ : ByteArray)⟩ : S32)]) := ⟨_, rfl⟩
                              replace H : (usherlaw5_PageSentMemory.l0 k2 y195 y201 y218 y221 (wrap64 (x11_2 + 1)) a0_0 l0_1 a0_2 l0_3 a0_0 y192 a0_2) = some r := by first | (rw [hy221]; with_reducible exact H) | (have H2_ := (Option.bind_some _ _).symm.trans H; rw [hy221]; with_reducible exact H2_) | (have H2_ := (Option.bind_some _ _).symm.trans H; with_reducible exact H2_) | with_reducible exact H | (rw [hy221]; exact H) | exact H
                              have Ny221 := Aside0.mk hy221
                              clear hy221
                              have H' := Aside0.mk H
                              clear H
                              go_wp2_with (first | ((with_reducible refine gate_builtin (b := .append) (xs := #[.tmp 101, .tmp 103]) rfl ?_); (try (refine gate_guard (by rfl) ?_; dsimp only)); at_builtin; refine Kd.R_append k32 (w0 := w) w.heap.size rfl (.tmp 101) (.tmp 103) 25 32 (.agg #[(.string ⟨#[]⟩), (.string ⟨#[]⟩)]) 32 rfl Try.underlying25 info32 rfl (by decide) (by omega) u9 x9_2 (⟨(⟨#[109, 97, 114, 107, 32, 111, 102, 32, 97]⟩ : ByteArray), (⟨#[109, 97, 114, 107, 32, 111, 102, 32, 97]⟩ : ByteArray)⟩ : S32) [.string (⟨#[109, 97, 114, 107, 32, 111, 102, 32, 97]⟩ : ByteArray), .string (⟨#[109, 97, 114, 107, 32, 111, 102, 32, 97]⟩ : ByteArray)] (fun k_ => some k_ ≠ (.slice Ao25 y195.length co25 : Value).ownBlock ∧ some k_ ≠ (v202 : Value).ownBlock ∧ some k_ ≠ (u10 : Value).ownBlock) (fun _ => False) rfl rfl ?aP (fun _ hk => hk.elim) ?aF ?aO ?aB ?aS ?aL ?_; (case aP => exact k32_mkM _ _ _ (⟨(⟨#[109, 97, 114, 107, 32, 111, 102, 32, 97]⟩ : ByteArray), (⟨#[109, 97, 114, 107, 32, 111, 102, 32, 97]⟩ : ByteArray)⟩ : S32)); (case aB => exact (by repeat (first | (with_reducible first | exact HB.out | apply below_alloc | apply pw_below_drewN | apply below_drew1 | refine below_set ?_ GE187.out | refine below_set ?_ GE188.out) | exact HB.out))); (case aF => exact (fun k_ hk => ⟨Kd.fresh' (Kd.R_lt (by (with_reducible repeat (first | apply Kd.R_alloc | apply Kd.R_drewN | apply Kd.R_drew)); exact HO_4.out)) k_ hk, Kd.fresh' (Kd.R_lt (by (with_reducible repeat (first | apply Kd.R_alloc | apply Kd.R_drewN | apply Kd.R_drew)); exact HO_6.out)) k_ hk, Kd.fresh' (Kd.R_lt (by (with_reducible repeat (first | apply Kd.R_alloc | apply Kd.R_drewN | apply Kd.R_drew)); exact HO_10.out)) k_ hk⟩)); (case aO => exact (by (with_reducible repeat (first | apply Kd.R_alloc | apply Kd.R_drewN | apply Kd.R_drew)); exact HO_9.out)); (case aS => exact (below_size (by repeat (first | (with_reducible first | exact HB.out | apply below_alloc | apply pw_below_drewN | apply below_drew1 | refine below_set ?_ GE187.out | refine below_set ?_ GE188.out) | exact HB.out)))); (case aL => have := LMc48.out; omega); intro v219 w50 ho hb hg hat; rw [← Ny218.out] at ho; have n0_ := Aside0.mk (Kd.R_after (ok := (fun k_ => some k_ ≠ (v202 : Value).ownBlock ∧ some k_ ≠ (u10 : Value).ownBlock)) (by (with_reducible repeat (first | apply Kd.R_alloc | apply Kd.R_drewN | apply Kd.R_drew)); exact Kd.R_mono HO_4.out (fun _ hk => ⟨⟨hk.1, hk.2.2⟩, hk.2.1⟩)) hg hat); have n1_ := Aside0.mk (Kd.R_after (ok := (fun k_ => some k_ ≠ (.slice Ao25 y195.length co25 : Value).ownBlock ∧ some k_ ≠ (u10 : Value).ownBlock)) (by (with_reducible repeat (first | apply Kd.R_alloc | apply Kd.R_drewN | apply Kd.R_drew)); exact Kd.R_mono HO_6.out (fun _ hk => ⟨⟨hk.1, hk.2.2⟩, hk.2.1⟩)) hg hat); have n2_ := Aside0.mk (Kd.R_after (ok := (fun k_ => some k_ ≠ (.slice Ao25 y195.length co25 : Value).ownBlock ∧ some k_ ≠ (v202 : Value).ownBlock)) (by (with_reducible repeat (first | apply Kd.R_alloc | apply Kd.R_drewN | apply Kd.R_drew)); exact Kd.R_mono HO_10.out (fun _ hk => ⟨⟨hk.1, hk.2.1⟩, hk.2.2⟩)) hg hat); have n3_ := Aside0.mk (Kd.R_over' (by (with_reducible repeat (first | apply Kd.R_alloc | apply Kd.R_drewN | apply Kd.R_drew)); exact HO_189001.out) (Kd.R_typed (by (with_reducible repeat (first | apply Kd.R_alloc | apply Kd.R_drewN | apply Kd.R_drew)); exact HO_9.out)) (by decide) hg); have n4_ := Aside0.mk (blk_grown (g := gb187) (o := .cells #[.string a0_0, .slice A0_1 l0_1.length c0_1, .string a0_2, .slice A0_3 l0_3.length c0_3] 27 (0, 0)) (by (with_reducible repeat (first | refine blk_drewN ?_ _ | refine blk_drew ?_ | refine blk_alloc ?_ _)); exact BK187.out) hg (Kd.R_ne HO_9.out BK187.out (by decide))); have n5_ := Aside0.mk (blk_grown (g := gb188) (o := .cells #[.string a0_0, .slice Ao20 y192.length co20, .string a0_2] 24 (0, 0)) (by (with_reducible repeat (first | refine blk_drewN ?_ _ | refine blk_drew ?_ | refine blk_alloc ?_ _)); exact BK188.out) hg (Kd.R_ne HO_9.out BK188.out (by decide))); have n6_ := Aside0.mk (hb); have n7_ := Aside0.mk (ho); clear HO_4; clear HO_6; clear HO_10; clear HO_189001; clear BK187; clear BK188; clear HB; clear HO_9; have HO_4 := n0_; have HO_6 := n1_; have HO_10 := n2_; have HO_189001 := n3_; have BK187 := n4_; have BK188 := n5_; have HB := n6_; have HO220 := n7_; clear n0_ n1_ n2_ n3_ n4_ n5_ n6_ n7_; clear ho hb hg hat) | ((with_reducible refine gate_builtin (b := .append) (xs := #[.tmp 105, .tmp 107]) rfl ?_); (try (refine gate_guard (by rfl) ?_; dsimp only)); at_builtin; refine Kd.R_append k32 (w0 := w) w.heap.size rfl (.tmp 105) (.tmp 107) 25 32 (.agg #[(.string ⟨#[]⟩), (.string ⟨#[]⟩)]) 32 rfl Try.underlying25 info32 rfl (by decide) (by omega) u10 x10_2 (⟨(⟨#[109, 97, 114, 107, 32, 111, 102, 32, 98]⟩ : ByteArray), (⟨#[109, 97, 114, 107, 32, 111, 102, 32, 98]⟩ : ByteArray)⟩ : S32) [.string (⟨#[109, 97, 114, 107, 32, 111, 102, 32, 98]⟩ : ByteArray), .string (⟨#[109, 97, 114, 107, 32, 111, 102, 32, 98]⟩ : ByteArray)] (fun k_ => some k_ ≠ (.slice Ao25 y195.length co25 : Value).ownBlock ∧ some k_ ≠ (v202 : Value).ownBlock ∧ some k_ ≠ (v219 : Value).ownBlock) (fun _ => False) rfl rfl ?aP (fun _ hk => hk.elim) ?aF ?aO ?aB ?aS ?aL ?_; (case aP => exact k32_mkM _ _ _ (⟨(⟨#[109, 97, 114, 107, 32, 111, 102, 32, 98]⟩ : ByteArray), (⟨#[109, 97, 114, 107, 32, 111, 102, 32, 98]⟩ : ByteArray)⟩ : S32)); (case aB => exact (by repeat (first | (with_reducible first | exact HB.out | apply below_alloc | apply pw_below_drewN | apply below_drew1 | refine below_set ?_ GE187.out | refine below_set ?_ GE188.out) | exact HB.out))); (case aF => exact (fun k_ hk => ⟨Kd.fresh' (Kd.R_lt (by (with_reducible repeat (first | apply Kd.R_alloc | apply Kd.R_drewN | apply Kd.R_drew)); exact HO_4.out)) k_ hk, Kd.fresh' (Kd.R_lt (by (with_reducible repeat (first | apply Kd.R_alloc | apply Kd.R_drewN | apply Kd.R_drew)); exact HO_6.out)) k_ hk, Kd.fresh' (Kd.R_lt (by (with_reducible repeat (first | apply Kd.R_alloc | apply Kd.R_drewN | apply Kd.R_drew)); exact HO220.out)) k_ hk⟩)); (case aO => exact (by (with_reducible repeat (first | apply Kd.R_alloc | apply Kd.R_drewN | apply Kd.R_drew)); exact Kd.R_mono HO_10.out (fun _ hk => ⟨hk.1.1, ⟨hk.1.2, hk.2⟩⟩))); (case aS => exact (below_size (by repeat (first | (with_reducible first | exact HB.out | apply below_alloc | apply pw_below_drewN | apply below_drew1 | refine below_set ?_ GE187.out | refine below_set ?_ GE188.out) | exact HB.out)))); (case aL => have := LMc49.out; omega); intro v222 w51 ho hb hg hat; rw [← Ny221.out] at ho; have n0_ := Aside0.mk (Kd.R_after (ok := (fun k_ => some k_ ≠ (v202 : Value).ownBlock ∧ some k_ ≠ (v219 : Value).ownBlock)) (by (with_reducible repeat (first | apply Kd.R_alloc | apply Kd.R_drewN | apply Kd.R_drew)); exact Kd.R_mono HO_4.out (fun _ hk => ⟨⟨hk.1.1, hk.2⟩, hk.1.2⟩)) hg hat); have n1_ := Aside0.mk (Kd.R_after (ok := (fun k_ => some k_ ≠ (.slice Ao25 y195.length co25 : Value).ownBlock ∧ some k_ ≠ (v219 : Value).ownBlock)) (by (with_reducible repeat (first | apply Kd.R_alloc | apply Kd.R_drewN | apply Kd.R_drew)); exact Kd.R_mono HO_6.out (fun _ hk => ⟨⟨hk.1.1, hk.2⟩, hk.1.2⟩)) hg hat); have n2_ := Aside0.mk (Kd.R_over' (by (with_reducible repeat (first | apply Kd.R_alloc | apply Kd.R_drewN | apply Kd.R_drew)); exact HO_189001.out) (Kd.R_typed (by (with_reducible repeat (first | apply Kd.R_alloc | apply Kd.R_drewN | apply Kd.R_drew)); exact HO_10.out)) (by decide) hg); have n3_ := Aside0.mk (blk_grown (g := gb187) (o := .cells #[.string a0_0, .slice A0_1 l0_1.length c0_1, .string a0_2, .slice A0_3 l0_3.length c0_3] 27 (0, 0)) (by (with_reducible repeat (first | refine blk_drewN ?_ _ | refine blk_drew ?_ | refine blk_alloc ?_ _)); exact BK187.out) hg (Kd.R_ne HO_10.out BK187.out (by decide))); have n4_ := Aside0.mk (blk_grown (g := gb188) (o := .cells #[.string a0_0, .slice Ao20 y192.length co20, .string a0_2] 24 (0, 0)) (by (with_reducible repeat (first | refine blk_drewN ?_ _ | refine blk_drew ?_ | refine blk_alloc ?_ _)); exact BK188.out) hg (Kd.R_ne HO_10.out BK188.out (by decide))); have n5_ := Aside0.mk (Kd.R_after (ok := (fun k_ => some k_ ≠ (.slice Ao25 y195.length co25 : Value).ownBlock ∧ some k_ ≠ (v202 : Value).ownBlock)) (by (with_reducible repeat (first | apply Kd.R_alloc | apply Kd.R_drewN | apply Kd.R_drew)); exact Kd.R_mono HO220.out (fun _ hk => ⟨⟨hk.1, hk.2.1⟩, hk.2.2⟩)) hg hat); have n6_ := Aside0.mk (hb); have n7_ := Aside0.mk (ho); clear HO_4; clear HO_6; clear HO_189001; clear BK187; clear BK188; clear HO220; clear HB; clear HO_10; have HO_4 := n0_; have HO_6 := n1_; have HO_189001 := n2_; have BK187 := n3_; have BK188 := n4_; have HO220 := n5_; have HB := n6_; have HO223 := n7_; clear n0_ n1_ n2_ n3_ n4_ n5_ n6_ n7_; clear ho hb hg hat))
                              go_roundg k2
                              case measure => have := HJ8.out; have := HK2.out; omega
                              case rel => exact ⟨(y218), (y221), (wrap64 (x11_2 + 1)), (by first | rfl | (simp; done) | (simp [*]; done) | (simp [bne]; done)), H', ⟨by have := HJ8.out; have := HK2.out; omega⟩, ⟨by (with_reducible repeat (first | apply Kd.R_alloc | apply Kd.R_drewN | apply Kd.R_drew)); exact Kd.R_mono HO_4.out (fun _ hk => ⟨hk.1.1, ⟨hk.1.2, hk.2⟩⟩)⟩, ⟨by (with_reducible repeat (first | apply Kd.R_alloc | apply Kd.R_drewN | apply Kd.R_drew)); exact Kd.R_mono HO_6.out (fun _ hk => ⟨hk.1.1, ⟨hk.1.2, hk.2⟩⟩)⟩, ⟨by (with_reducible repeat (first | apply Kd.R_alloc | apply Kd.R_drewN | apply Kd.R_drew)); exact Kd.R_mono HO220.out (fun _ hk => ⟨hk.1.1, ⟨hk.1.2, hk.2⟩⟩)⟩, ⟨by (with_reducible repeat (first | apply Kd.R_alloc | apply Kd.R_drewN | apply Kd.R_drew)); exact HO223.out⟩, ⟨by (with_reducible repeat (first | apply Kd.R_alloc | apply Kd.R_drewN | apply Kd.R_drew)); exact HO_189001.out⟩, ⟨by (with_reducible repeat (first | refine blk_drewN ?_ _ | refine blk_drew ?_ | refine blk_alloc ?_ _)); exact BK187.out⟩, ⟨by (with_reducible repeat (first | refine blk_drewN ?_ _ | refine blk_drew ?_ | refine blk_alloc ?_ _)); exact BK188.out⟩, ⟨by repeat (first | (with_reducible first | exact HB.out | apply below_alloc | apply pw_below_drewN | apply below_drew1 | refine below_set ?_ GE187.out | refine below_set ?_ GE188.out) | exact HB.out)⟩⟩
                            · rw [if_neg c49] at H
                              exact absurd H (by simp)
                          · rw [if_neg c48] at H
                            exact absurd H (by simp)
                        · rw [if_neg c47] at H
                          have c47b0 : decide (x11_2 < 64) = false := decide_eq_false c47
                          clear c47
                          replace H := Option.bind_eq_some_iff.mp H
                          obtain ⟨t224, A520, H⟩ := H
                          replace H : ((usherlaw5_marked.f k2 x9_2 (⟨#[109, 97, 114, 107, 32, 111, 102, 32, 97]⟩ : ByteArray)).bind fun t227 => ((usherlaw5_marked.f k2 x10_2 (⟨#[109, 97, 114, 107, 32, 111, 102, 32, 98]⟩ : ByteArray)).bind fun t228 => (if t227 = true then (if t228 = true then (usherlaw5_PageSentMemory.j2 k2 y195 y201 t224 ((x9_2.length : Int) == (wrap64 ((y201.length : Int) + 64))) a0_0 l0_1 a0_2 l0_3 a0_0 y192 a0_2) else (usherlaw5_PageSentMemory.j2 k2 y195 y201 t224 false a0_0 l0_1 a0_2 l0_3 a0_0 y192 a0_2)) else (usherlaw5_PageSentMemory.j2 k2 y195 y201 t224 false a0_0 l0_1 a0_2 l0_3 a0_0 y192 a0_2)))) = some r := H
                          have A52 := Aside0.mk A520
                          clear A520
                          replace H := Option.bind_eq_some_iff.mp H
                          obtain ⟨t227, A530, H⟩ := H
                          replace H : ((usherlaw5_marked.f k2 x10_2 (⟨#[109, 97, 114, 107, 32, 111, 102, 32, 98]⟩ : ByteArray)).bind fun t228 => (if t227 = true then (if t228 = true then (usherlaw5_PageSentMemory.j2 k2 y195 y201 t224 ((x9_2.length : Int) == (wrap64 ((y201.length : Int) + 64))) a0_0 l0_1 a0_2 l0_3 a0_0 y192 a0_2) else (usherlaw5_PageSentMemory.j2 k2 y195 y201 t224 false a0_0 l0_1 a0_2 l0_3 a0_0 y192 a0_2)) else (usherlaw5_PageSentMemory.j2 k2 y195 y201 t224 false a0_0 l0_1 a0_2 l0_3 a0_0 y192 a0_2))) = some r := H
                          have A53 := Aside0.mk A530
                          clear A530
                          replace H := Option.bind_eq_some_iff.mp H
                          obtain ⟨t228, A540, H⟩ := H
                          replace H : (if t227 = true then (if t228 = true then (usherlaw5_PageSentMemory.j2 k2 y195 y201 t224 ((x9_2.length : Int) == (wrap64 ((y201.length : Int) + 64))) a0_0 l0_1 a0_2 l0_3 a0_0 y192 a0_2) else (usherlaw5_PageSentMemory.j2 k2 y195 y201 t224 false a0_0 l0_1 a0_2 l0_3 a0_0 y192 a0_2)) else (usherlaw5_PageSentMemory.j2 k2 y195 y201 t224 false a0_0 l0_1 a0_2 l0_3 a0_0 y192 a0_2)) = some r := H
                          have A54 := Aside0.mk A540
                          clear A540
                          have HC55 := Aside0.mk H
                          clear H
                          have hnb56 := NB188_187.out
                          have hnc56 := NB187_188.out
                          have hcz57_0 : wr.cell? ⟨gb188, 0, none⟩ = some (.string a0_0) := (blk_cell BK188.out 0).trans rfl
                          have hcz57_1 : wr.cell? ⟨gb188, 1, none⟩ = some (.slice Ao20 y192.length co20) := (blk_cell BK188.out 1).trans rfl
                          have hcz57_2 : wr.cell? ⟨gb188, 2, none⟩ = some (.string a0_2) := (blk_cell BK188.out 2).trans rfl
                          have hfz57_0 := blk_frozen BK188.out 0
                          have hfz57_1 := blk_frozen BK188.out 1
                          have hfz57_2 := blk_frozen BK188.out 2
                          go_upto_region 25 with (first | ((with_reducible refine gate_callee (f := 6) rfl ?_); refine goesL_ (some 111) rfl rfl Try.func6 (by kernel_rfl) rfl #[.agg #[.string a0_0, .slice Ao20 y192.length co20, .string a0_2], .slice Ao25 y195.length co25] rfl (by (try simp only [List.map_toArray, List.map_cons, List.map_nil]); first | done | rfl | (simp only [List.length_drop, List.length_take]; rfl)) ?_; (with_reducible refine (page_Sent.calls k2 a0_0 _ _ y192 a0_2 _ _ y195 t224 _ ?side1 ?side2 ?side3 ?side4 A52.out).mono ?_); (case side1 => repeat (first | exact (Kd.R_reads' HO_189001.out).2.2 | (with_reducible refine Kd.C_alloc ?_ _) | (with_reducible refine Kd.C_drewN ?_ _) | (with_reducible refine Kd.C_drew ?_))); (case side2 => exact (Kd.R_reads' HO_189001.out).2.1); (case side3 => repeat (first | exact (Kd.R_reads' HO_4.out).2.2 | (with_reducible refine Kd.C_alloc ?_ _) | (with_reducible refine Kd.C_drewN ?_ _) | (with_reducible refine Kd.C_drew ?_))); (case side4 => exact (Kd.R_reads' HO_4.out).2.1); rintro e w58 ⟨v225, rfl, ho0, hb⟩; refine ⟨_, rfl, ?_⟩; have n0_ := Aside0.mk (Kd.R_elder' (by (with_reducible repeat (first | apply Kd.R_alloc | apply Kd.R_drewN | apply Kd.R_drew)); exact HO_4.out) (Kd.R_base ho0) hb); have n1_ := Aside0.mk (Kd.R_elder' (by (with_reducible repeat (first | apply Kd.R_alloc | apply Kd.R_drewN | apply Kd.R_drew)); exact HO_6.out) (Kd.R_base ho0) hb); have n2_ := Aside0.mk (Kd.R_elder' (by (with_reducible repeat (first | apply Kd.R_alloc | apply Kd.R_drewN | apply Kd.R_drew)); exact HO_9.out) (Kd.R_base ho0) hb); have n3_ := Aside0.mk (Kd.R_elder' (by (with_reducible repeat (first | apply Kd.R_alloc | apply Kd.R_drewN | apply Kd.R_drew)); exact HO_10.out) (Kd.R_base ho0) hb); have n4_ := Aside0.mk (Kd.R_below (by (with_reducible repeat (first | apply Kd.R_alloc | apply Kd.R_drewN | apply Kd.R_drew)); exact HO_189001.out) hb); have n5_ := Aside0.mk (Kd.R_lower (Kd.R_new' (Kd.R_new' (Kd.R_new' (Kd.R_new' ho0 (Kd.R_lt (by (with_reducible repeat (first | apply Kd.R_alloc | apply Kd.R_drewN | apply Kd.R_drew)); exact HO_4.out))) (Kd.R_lt (by (with_reducible repeat (first | apply Kd.R_alloc | apply Kd.R_drewN | apply Kd.R_drew)); exact HO_6.out))) (Kd.R_lt (by (with_reducible repeat (first | apply Kd.R_alloc | apply Kd.R_drewN | apply Kd.R_drew)); exact HO_9.out))) (Kd.R_lt (by (with_reducible repeat (first | apply Kd.R_alloc | apply Kd.R_drewN | apply Kd.R_drew)); exact HO_10.out))) (below_size (by repeat (first | (with_reducible first | exact HB.out | apply below_alloc | apply pw_below_drewN | apply below_drew1 | refine below_set ?_ GE187.out | refine below_set ?_ GE188.out) | exact HB.out)))); have n6_ := Aside0.mk (blk_below (g := gb187) (o := .cells #[.string a0_0, .slice A0_1 l0_1.length c0_1, .string a0_2, .slice A0_3 l0_3.length c0_3] 27 (0, 0)) (by (with_reducible repeat (first | refine blk_drewN ?_ _ | refine blk_drew ?_ | refine blk_alloc ?_ _)); exact BK187.out) hb); have n7_ := Aside0.mk (blk_below (g := gb188) (o := .cells #[.string a0_0, .slice Ao20 y192.length co20, .string a0_2] 24 (0, 0)) (by (with_reducible repeat (first | refine blk_drewN ?_ _ | refine blk_drew ?_ | refine blk_alloc ?_ _)); exact BK188.out) hb); have n8_ := Aside0.mk (below_step (by repeat (first | (with_reducible first | exact HB.out | apply below_alloc | apply pw_below_drewN | apply below_drew1 | refine below_set ?_ GE187.out | refine below_set ?_ GE188.out) | exact HB.out)) hb); clear HO_4; clear HO_6; clear HO_9; clear HO_10; clear HO_189001; clear BK187; clear BK188; clear HB; have HO_4 := n0_; have HO_6 := n1_; have HO_9 := n2_; have HO_10 := n3_; have HO_189001 := n4_; have HO226 := n5_; have BK187 := n6_; have BK188 := n7_; have HB := n8_; clear n0_ n1_ n2_ n3_ n4_ n5_ n6_ n7_ n8_; (try clear hb); (try clear hb2); (try clear hk); (try clear hi); (try clear ho0); obtain ⟨Ao59, co59, eo59⟩ := Kd.R_slice HO_9.out; subst eo59) | ((with_reducible refine gate_callee (f := 11) rfl ?_); refine goesL_ (some 113) rfl rfl Try.func11 (by kernel_rfl) rfl #[.slice Ao59 x9_2.length co59, .string (⟨#[109, 97, 114, 107, 32, 111, 102, 32, 97]⟩ : ByteArray)] rfl (by (try simp only [List.map_toArray, List.map_cons, List.map_nil]); first | done | rfl | (simp only [List.length_drop, List.length_take]; rfl)) ?_; (with_reducible refine (usherlaw5_marked.calls k2 _ _ x9_2 (⟨#[109, 97, 114, 107, 32, 111, 102, 32, 97]⟩ : ByteArray) t227 _ ?side1 ?side2 A53.out).mono ?_); (case side1 => repeat (first | exact (Kd.R_reads' HO_9.out).2.2 | (with_reducible refine Kd.C_alloc ?_ _) | (with_reducible refine Kd.C_drewN ?_ _) | (with_reducible refine Kd.C_drew ?_))); (case side2 => exact (Kd.R_reads' HO_9.out).2.1); rintro e w' ⟨rfl, ⟨nd, rfl⟩⟩; refine ⟨_, rfl, ?_⟩; obtain ⟨Ao60, co60, eo60⟩ := Kd.R_slice HO_10.out; subst eo60) | ((with_reducible refine gate_callee (f := 11) rfl ?_); refine goesL_ (some 115) rfl rfl Try.func11 (by kernel_rfl) rfl #[.slice Ao60 x10_2.length co60, .string (⟨#[109, 97, 114, 107, 32, 111, 102, 32, 98]⟩ : ByteArray)] rfl (by (try simp only [List.map_toArray, List.map_cons, List.map_nil]); first | done | rfl | (simp only [List.length_drop, List.length_take]; rfl)) ?_; (with_reducible refine (usherlaw5_marked.calls k2 _ _ x10_2 (⟨#[109, 97, 114, 107, 32, 111, 102, 32, 98]⟩ : ByteArray) t228 _ ?side1 ?side2 A54.out).mono ?_); (case side1 => repeat (first | exact (Kd.R_reads' HO_10.out).2.2 | (with_reducible refine Kd.C_alloc ?_ _) | (with_reducible refine Kd.C_drewN ?_ _) | (with_reducible refine Kd.C_drew ?_))); (case side2 => exact (Kd.R_reads' HO_10.out).2.1); rintro e w' ⟨rfl, ⟨nd, rfl⟩⟩; refine ⟨_, rfl, ?_⟩))
                          (try simp only [Act.put, List.setIfInBounds_toArray, List.set_cons_zero, List.set_cons_succ])
                          go_cut [15] (fun v15 wc => ∃ (kq : Nat) (x15_54 : Bool), v15 = .bool x15_54 ∧ Aside0 (usherlaw5_PageSentMemory.j2 kq y195 y201 t224 x15_54 a0_0 l0_1 a0_2 l0_3 a0_0 y192 a0_2 = some r) ∧ Aside0 (kq ≤ k2) ∧ Aside0 (Kd.R k32 32 wc w.heap.size (fun k_ => some k_ ≠ (v202 : Value).ownBlock ∧ some k_ ≠ (v225 : Value).ownBlock) (.slice Ao25 y195.length co25) y195) ∧ Aside0 (Kd.R k32 32 wc w.heap.size (fun k_ => some k_ ≠ ((.slice Ao25 y195.length co25) : Value).ownBlock ∧ some k_ ≠ (v225 : Value).ownBlock) v202 y201) ∧ Aside0 (Kd.R k32 32 wc w.heap.size (fun k_ => some k_ ≠ ((.slice Ao25 y195.length co25) : Value).ownBlock ∧ some k_ ≠ (v202 : Value).ownBlock) v225 t224) ∧ Aside0 (Kd.R k30 30 wc w.heap.size (fun _ => True) (.slice Ao20 y192.length co20) y192) ∧ Aside0 (wc.heap[gb187]? = some (.cells #[.string a0_0, (.slice A0_1 l0_1.length c0_1), .string a0_2, (.slice A0_3 l0_3.length c0_3)] 27 (0, 0))) ∧ Aside0 (wc.heap[gb188]? = some (.cells #[.string a0_0, (.slice Ao20 y192.length co20), .string a0_2] 24 (0, 0))) ∧ Aside0 (Below w.heap.size w wc))
                          case first =>
                            have H := HC55.out
                            clear HC55
                            by_cases c61 : t227 = true
                            · subst c61
                              have H1 : (if t228 = true then (usherlaw5_PageSentMemory.j2 k2 y195 y201 t224 ((x9_2.length : Int) == (wrap64 ((y201.length : Int) + 64))) a0_0 l0_1 a0_2 l0_3 a0_0 y192 a0_2) else (usherlaw5_PageSentMemory.j2 k2 y195 y201 t224 false a0_0 l0_1 a0_2 l0_3 a0_0 y192 a0_2)) = some r := by rw [if_pos rfl] at H; exact H
                              clear H
                              have H := H1
                              clear H1
                              by_cases c62 : t228 = true
                              · subst c62
                                have H1 : (usherlaw5_PageSentMemory.j2 k2 y195 y201 t224 ((x9_2.length : Int) == (wrap64 ((y201.length : Int) + 64))) a0_0 l0_1 a0_2 l0_3 a0_0 y192 a0_2) = some r := by rw [if_pos rfl] at H; exact H
                                clear H
                                have H := H1
                                clear H1
                                have H' := Aside0.mk H
                                clear H
                                obtain ⟨Ao63, co63, eo63⟩ := Kd.R_slice HO_6.out
                                subst eo63
                                go_wp2
                                go_meet
                                case rel => exact ⟨_, (((x9_2.length : Int) == (wrap64 ((y201.length : Int) + 64)))), (by first | rfl | (simp; done) | (simp [*]; done) | (simp [bne]; done)), H', ⟨by have := HJ8.out; have := HK2.out; first | omega | exact Nat.le_refl _⟩, ⟨by (with_reducible repeat (first | apply Kd.R_alloc | apply Kd.R_drewN | apply Kd.R_drew)); exact Kd.R_mono HO_4.out (fun _ hk => ⟨hk.1.1, hk.2⟩)⟩, ⟨by (with_reducible repeat (first | apply Kd.R_alloc | apply Kd.R_drewN | apply Kd.R_drew)); exact Kd.R_mono HO_6.out (fun _ hk => ⟨hk.1.1, hk.2⟩)⟩, ⟨by (with_reducible repeat (first | apply Kd.R_alloc | apply Kd.R_drewN | apply Kd.R_drew)); exact Kd.R_mono HO226.out (fun _ hk => ⟨hk.1.1.1.2, hk.1.1.2⟩)⟩, ⟨by (with_reducible repeat (first | apply Kd.R_alloc | apply Kd.R_drewN | apply Kd.R_drew)); exact HO_189001.out⟩, ⟨by (with_reducible repeat (first | refine blk_drewN ?_ _ | refine blk_drew ?_ | refine blk_alloc ?_ _)); exact BK187.out⟩, ⟨by (with_reducible repeat (first | refine blk_drewN ?_ _ | refine blk_drew ?_ | refine blk_alloc ?_ _)); exact BK188.out⟩, ⟨by repeat (first | (with_reducible first | exact HB.out | apply below_alloc | apply pw_below_drewN | apply below_drew1 | refine below_set ?_ GE187.out | refine below_set ?_ GE188.out) | exact HB.out)⟩⟩
                              · replace c62 := Bool.eq_false_iff.mpr c62
                                subst c62
                                have H1 : (usherlaw5_PageSentMemory.j2 k2 y195 y201 t224 false a0_0 l0_1 a0_2 l0_3 a0_0 y192 a0_2) = some r := by rw [if_neg (show ¬ (false = true) by decide)] at H; exact H
                                clear H
                                have H := H1
                                clear H1
                                have H' := Aside0.mk H
                                clear H
                                go_wp2
                                go_meet
                                case rel => exact ⟨_, (false), (by first | rfl | (simp; done) | (simp [*]; done) | (simp [bne]; done)), H', ⟨by have := HJ8.out; have := HK2.out; first | omega | exact Nat.le_refl _⟩, ⟨by (with_reducible repeat (first | apply Kd.R_alloc | apply Kd.R_drewN | apply Kd.R_drew)); exact Kd.R_mono HO_4.out (fun _ hk => ⟨hk.1.1, hk.2⟩)⟩, ⟨by (with_reducible repeat (first | apply Kd.R_alloc | apply Kd.R_drewN | apply Kd.R_drew)); exact Kd.R_mono HO_6.out (fun _ hk => ⟨hk.1.1, hk.2⟩)⟩, ⟨by (with_reducible repeat (first | apply Kd.R_alloc | apply Kd.R_drewN | apply Kd.R_drew)); exact Kd.R_mono HO226.out (fun _ hk => ⟨hk.1.1.1.2, hk.1.1.2⟩)⟩, ⟨by (with_reducible repeat (first | apply Kd.R_alloc | apply Kd.R_drewN | apply Kd.R_drew)); exact HO_189001.out⟩, ⟨by (with_reducible repeat (first | refine blk_drewN ?_ _ | refine blk_drew ?_ | refine blk_alloc ?_ _)); exact BK187.out⟩, ⟨by (with_reducible repeat (first | refine blk_drewN ?_ _ | refine blk_drew ?_ | refine blk_alloc ?_ _)); exact BK188.out⟩, ⟨by repeat (first | (with_reducible first | exact HB.out | apply below_alloc | apply pw_below_drewN | apply below_drew1 | refine below_set ?_ GE187.out | refine below_set ?_ GE188.out) | exact HB.out)⟩⟩
                            · replace c61 := Bool.eq_false_iff.mpr c61
                              subst c61
                              have H1 : (usherlaw5_PageSentMemory.j2 k2 y195 y201 t224 false a0_0 l0_1 a0_2 l0_3 a0_0 y192 a0_2) = some r := by rw [if_neg (show ¬ (false = true) by decide)] at H; exact H
                              clear H
                              have H := H1
                              clear H1
                              have H' := Aside0.mk H
                              clear H
                              go_wp2
                              go_meet
                              case rel => exact ⟨_, (false), (by first | rfl | (simp; done) | (simp [*]; done) | (simp [bne]; done)), H', ⟨by have := HJ8.out; have := HK2.out; first | omega | exact Nat.le_refl _⟩, ⟨by (with_reducible repeat (first | apply Kd.R_alloc | apply Kd.R_drewN | apply Kd.R_drew)); exact Kd.R_mono HO_4.out (fun _ hk => ⟨hk.1.1, hk.2⟩)⟩, ⟨by (with_reducible repeat (first | apply Kd.R_alloc | apply Kd.R_drewN | apply Kd.R_drew)); exact Kd.R_mono HO_6.out (fun _ hk => ⟨hk.1.1, hk.2⟩)⟩, ⟨by (with_reducible repeat (first | apply Kd.R_alloc | apply Kd.R_drewN | apply Kd.R_drew)); exact Kd.R_mono HO226.out (fun _ hk => ⟨hk.1.1.1.2, hk.1.1.2⟩)⟩, ⟨by (with_reducible repeat (first | apply Kd.R_alloc | apply Kd.R_drewN | apply Kd.R_drew)); exact HO_189001.out⟩, ⟨by (with_reducible repeat (first | refine blk_drewN ?_ _ | refine blk_drew ?_ | refine blk_alloc ?_ _)); exact BK187.out⟩, ⟨by (with_reducible repeat (first | refine blk_drewN ?_ _ | refine blk_drew ?_ | refine blk_alloc ?_ _)); exact BK188.out⟩, ⟨by repeat (first | (with_reducible first | exact HB.out | apply below_alloc | apply pw_below_drewN | apply below_drew1 | refine below_set ?_ GE187.out | refine below_set ?_ GE188.out) | exact HB.out)⟩⟩
                          case rest =>
                            clear HC55
                            try clear c1
                            try clear c2
                            try clear p2
                            try clear q2
                            try clear hx2
                            try clear c3
                            try clear c4
                            try clear c5
                            try clear c6
                            try clear p6
                            try clear c8
                            try clear c10
                            try clear c11
                            try clear c13
                            try clear p20
                            try clear q20
                            try clear hx20
                            try clear c32
                            try clear c33
                            try clear c33b0
                            try clear c33b1
                            try clear c33b2
                            try clear c35
                            try clear c35b0
                            try clear c36
                            try clear c36b0
                            try clear c37
                            try clear c37b0
                            try clear c37b1
                            try clear c38
                            try clear c41
                            try clear c42
                            try clear c47
                            try clear c47b0
                            try clear c48
                            try clear c49
                            try clear c56
                            try clear c61
                            try clear c62
                            try clear hcz11_0
                            try clear hcz11_1
                            try clear hcz11_2
                            try clear hcz11_3
                            try clear hcz14_0
                            try clear hcz14_1
                            try clear hcz14_2
                            try clear hcz15_0
                            try clear hcz15_1
                            try clear hcz15_2
                            try clear hcz15_3
                            try clear hcz18_0
                            try clear hcz18_1
                            try clear hcz18_2
                            try clear hcz21_0
                            try clear hcz21_1
                            try clear hcz21_2
                            try clear hcz22_0
                            try clear hcz22_1
                            try clear hcz22_2
                            try clear hcz22_3
                            try clear hcz24_0
                            try clear hcz24_1
                            try clear hcz24_2
                            try clear hcz29_0
                            try clear hcz29_1
                            try clear hcz29_2
                            try clear hcz57_0
                            try clear hcz57_1
                            try clear hcz57_2
                            try clear hfz11_0
                            try clear hfz11_1
                            try clear hfz11_2
                            try clear hfz11_3
                            try clear hfz14_0
                            try clear hfz14_1
                            try clear hfz14_2
                            try clear hfz15_0
                            try clear hfz15_1
                            try clear hfz15_2
                            try clear hfz15_3
                            try clear hfz18_0
                            try clear hfz18_1
                            try clear hfz18_2
                            try clear hfz21_0
                            try clear hfz21_1
                            try clear hfz21_2
                            try clear hfz22_0
                            try clear hfz22_1
                            try clear hfz22_2
                            try clear hfz22_3
                            try clear hfz24_0
                            try clear hfz24_1
                            try clear hfz24_2
                            try clear hfz29_0
                            try clear hfz29_1
                            try clear hfz29_2
                            try clear hfz57_0
                            try clear hfz57_1
                            try clear hfz57_2
                            try clear hx208_0
                            try clear hx208_1
                            try clear hx209_0
                            try clear hx209_1
                            try clear p2
                            try clear p20
                            try clear p208
                            try clear p209
                            try clear p6
                            try clear q2
                            try clear q20
                            try clear q208
                            try clear q209
                            obtain ⟨kq, x15_54, rfl, HA, HJ54, HO_4, HO_6, HO_12, HO_189001, BK187, BK188, HB⟩ := hcut
                            cases kq with
                            | zero => exact absurd HA.out (by simp [usherlaw5_PageSentMemory.j2])
                            | succ kj54 =>
                              have H := HA.out
                              clear HA
                              simp only [usherlaw5_PageSentMemory.j2] at H
                              replace H := Option.bind_eq_some_iff.mp H
                              obtain ⟨t229, A640, H⟩ := H
                              replace H : (if 0 ≤ (l0_1.length : Int) then (if (l0_1.length : Int) ≤ (y192.length : Int) then ((usherref0_SameInputs.f kj54 (y192.take ((l0_1.length : Int) : Int).toNat) l0_1).bind fun t234 => ((usherref0_SamePairs.f kj54 t224 y201).bind fun t235 => (if 0 ≤ (wrap64 ((y192.length : Int) - 1)) then (if (wrap64 ((y192.length : Int) - 1)) < (y192.length : Int) then (usherlaw5_PageSentMemory.l1 kj54 y195 x15_54 t229 t234 t235 0 a0_0 (y192.set ((wrap64 ((y192.length : Int) - 1)) : Int).toNat (⟨(rd_T30 y192 (wrap64 ((y192.length : Int) - 1))).f0, (rd_T30 y192 (wrap64 ((y192.length : Int) - 1))).f1, (⟨#[111, 118, 101, 114]⟩ : ByteArray), (rd_T30 y192 (wrap64 ((y192.length : Int) - 1))).f3⟩ : S30)) a0_2) else (none)) else (none)))) else (none)) else (none)) = some r := H
                              have A64 := Aside0.mk A640
                              clear A640
                              by_cases c65 : 0 ≤ (l0_1.length : Int)
                              · rw [if_pos c65] at H
                                have c65b0 := eq_true c65
                                have c65b1 : decide (0 ≤ (l0_1.length : Int)) = true := decide_eq_true c65
                                clear c65
                                by_cases c66 : (l0_1.length : Int) ≤ (y192.length : Int)
                                · rw [if_pos c66] at H
                                  have c66b0 := eq_true c66
                                  have c66b1 : decide ((l0_1.length : Int) ≤ (y192.length : Int)) = true := decide_eq_true c66
                                  clear c66
                                  obtain ⟨y230, hy230⟩ : ∃ y_ : List (S30), y_ = (y192.take ((l0_1.length : Int) : Int).toNat) := ⟨_, rfl⟩
                                  replace H : ((usherref0_SameInputs.f kj54 y230 l0_1).bind fun t234 => ((usherref0_SamePairs.f kj54 t224 y201).bind fun t235 => (if 0 ≤ (wrap64 ((y192.length : Int) - 1)) then (if (wrap64 ((y192.length : Int) - 1)) < (y192.length : Int) then (usherlaw5_PageSentMemory.l1 kj54 y195 x15_54 t229 t234 t235 0 a0_0 (y192.set ((wrap64 ((y192.length : Int) - 1)) : Int).toNat (⟨(rd_T30 y192 (wrap64 ((y192.length : Int) - 1))).f0, (rd_T30 y192 (wrap64 ((y192.length : Int) - 1))).f1, (⟨#[111, 118, 101, 114]⟩ : ByteArray), (rd_T30 y192 (wrap64 ((y192.length : Int) - 1))).f3⟩ : S30)) a0_2) else (none)) else (none)))) = some r := by first | (rw [hy230]; with_reducible exact H) | (have H2_ := (Option.bind_some _ _).symm.trans H; rw [hy230]; with_reducible exact H2_) | (have H2_ := (Option.bind_some _ _).symm.trans H; with_reducible exact H2_) | with_reducible exact H | (rw [hy230]; exact H) | exact H
                                  have Ny230 := Aside0.mk hy230
                                  clear hy230
                                  replace H := Option.bind_eq_some_iff.mp H
                                  obtain ⟨t234, A670, H⟩ := H
                                  replace H : ((usherref0_SamePairs.f kj54 t224 y201).bind fun t235 => (if 0 ≤ (wrap64 ((y192.length : Int) - 1)) then (if (wrap64 ((y192.length : Int) - 1)) < (y192.length : Int) then (usherlaw5_PageSentMemory.l1 kj54 y195 x15_54 t229 t234 t235 0 a0_0 (y192.set ((wrap64 ((y192.length : Int) - 1)) : Int).toNat (⟨(rd_T30 y192 (wrap64 ((y192.length : Int) - 1))).f0, (rd_T30 y192 (wrap64 ((y192.length : Int) - 1))).f1, (⟨#[111, 118, 101, 114]⟩ : ByteArray), (rd_T30 y192 (wrap64 ((y192.length : Int) - 1))).f3⟩ : S30)) a0_2) else (none)) else (none))) = some r := H
                                  have A67 := Aside0.mk A670
                                  clear A670
                                  replace H := Option.bind_eq_some_iff.mp H
                                  obtain ⟨t235, A680, H⟩ := H
                                  replace H : (if 0 ≤ (wrap64 ((y192.length : Int) - 1)) then (if (wrap64 ((y192.length : Int) - 1)) < (y192.length : Int) then (usherlaw5_PageSentMemory.l1 kj54 y195 x15_54 t229 t234 t235 0 a0_0 (y192.set ((wrap64 ((y192.length : Int) - 1)) : Int).toNat (⟨(rd_T30 y192 (wrap64 ((y192.length : Int) - 1))).f0, (rd_T30 y192 (wrap64 ((y192.length : Int) - 1))).f1, (⟨#[111, 118, 101, 114]⟩ : ByteArray), (rd_T30 y192 (wrap64 ((y192.length : Int) - 1))).f3⟩ : S30)) a0_2) else (none)) else (none)) = some r := H
                                  have A68 := Aside0.mk A680
                                  clear A680
                                  obtain ⟨ji69, hji69⟩ : ∃ j_ : Int, (wrap64 ((y192.length : Int) - 1)) = j_ := ⟨_, rfl⟩
                                  replace H : (if 0 ≤ (ji69) then (if (ji69) < (y192.length : Int) then (usherlaw5_PageSentMemory.l1 kj54 y195 x15_54 t229 t234 t235 0 a0_0 (y192.set ((ji69) : Int).toNat (⟨(rd_T30 y192 (ji69)).f0, (rd_T30 y192 (ji69)).f1, (⟨#[111, 118, 101, 114]⟩ : ByteArray), (rd_T30 y192 (ji69)).f3⟩ : S30)) a0_2) else (none)) else (none)) = some r := by first | (rw [hji69] at H; exact H) | (simp only [hji69] at H ⊢; exact H)
                                  (try rw [hji69] at A64)
                                  (try rw [hji69] at A67)
                                  (try rw [hji69] at A68)
                                  have hji69w : (IntKind.i64.wrap ((y192.length : Int) - 1)) = ji69 := (i64_w _).trans hji69
                                  by_cases c70 : 0 ≤ (ji69)
                                  · rw [if_pos c70] at H
                                    have c70b0 : decide (0 ≤ (ji69)) = true := decide_eq_true c70
                                    clear c70
                                    by_cases c71 : (ji69) < (y192.length : Int)
                                    · rw [if_pos c71] at H
                                      have c71b0 : decide ((ji69) < (y192.length : Int)) = true := decide_eq_true c71
                                      clear c71
                                      obtain ⟨y236, hy236⟩ : ∃ y_ : List (S30), y_ = (y192.set ((ji69) : Int).toNat (⟨(rd_T30 y192 (ji69)).f0, (rd_T30 y192 (ji69)).f1, (⟨#[111, 118, 101, 114]⟩ : ByteArray), (rd_T30 y192 (ji69)).f3⟩ : S30)) := ⟨_, rfl⟩
                                      replace H : (usherlaw5_PageSentMemory.l1 kj54 y195 x15_54 t229 t234 t235 0 a0_0 y236 a0_2) = some r := by first | (rw [hy236]; with_reducible exact H) | (have H2_ := (Option.bind_some _ _).symm.trans H; rw [hy236]; with_reducible exact H2_) | (have H2_ := (Option.bind_some _ _).symm.trans H; with_reducible exact H2_) | with_reducible exact H | (rw [hy236]; exact H) | exact H
                                      have Ny236 := Aside0.mk hy236
                                      clear hy236
                                      have H' := Aside0.mk H
                                      clear H
                                      have hnb73 := NB187_188.out
                                      have hnc73 := NB188_187.out
                                      have hcz74_0 : wc.cell? ⟨gb187, 0, none⟩ = some (.string a0_0) := (blk_cell BK187.out 0).trans rfl
                                      have hcz74_1 : wc.cell? ⟨gb187, 1, none⟩ = some (.slice A0_1 l0_1.length c0_1) := (blk_cell BK187.out 1).trans rfl
                                      have hcz74_2 : wc.cell? ⟨gb187, 2, none⟩ = some (.string a0_2) := (blk_cell BK187.out 2).trans rfl
                                      have hcz74_3 : wc.cell? ⟨gb187, 3, none⟩ = some (.slice A0_3 l0_3.length c0_3) := (blk_cell BK187.out 3).trans rfl
                                      have hfz74_0 := blk_frozen BK187.out 0
                                      have hfz74_1 := blk_frozen BK187.out 1
                                      have hfz74_2 := blk_frozen BK187.out 2
                                      have hfz74_3 := blk_frozen BK187.out 3
                                      try go_wp2_with (first | ((with_reducible refine gate_callee (f := 8) rfl ?_); refine goesL_ (some 131) rfl rfl Try.func8 (by kernel_rfl) rfl #[.slice Ao25 y195.length co25, .slice A0_3 l0_3.length c0_3] rfl (by (try simp only [List.map_toArray, List.map_cons, List.map_nil]); first | done | rfl | (simp only [List.length_drop, List.length_take]; rfl)) ?_; (with_reducible refine (usherref0_SamePairs.calls kj54 _ _ y195 _ _ l0_3 t229 _ ?side1 ?side2 ?side3 ?side4 A64.out).mono ?_); (case side1 => repeat (first | exact (Kd.R_reads' HO_4.out).2.2 | (with_reducible refine Kd.C_alloc ?_ _) | (with_reducible refine Kd.C_drewN ?_ _) | (with_reducible refine Kd.C_drew ?_))); (case side2 => exact (Kd.R_reads' HO_4.out).2.1); (case side3 => repeat (first | exact (Kd.C_below HR0_3.out HB.out) | (with_reducible refine Kd.C_alloc ?_ _) | (with_reducible refine Kd.C_drewN ?_ _) | (with_reducible refine Kd.C_drew ?_))); (case side4 => exact HC0_3.out); rintro e w' ⟨rfl, ⟨nd, rfl⟩⟩; refine ⟨_, rfl, ?_⟩; (try rw [World.drewN_drewN]); (try (rw [drewN_self wc]; generalize hq_ : World.drewN wc _ = wc; have n0_ : Aside0 (Kd.R k32 32 wc w.heap.size (fun k_ => some k_ ≠ (.slice Ao25 y195.length co25 : Value).ownBlock ∧ some k_ ≠ (v202 : Value).ownBlock) v225 t224) := ⟨by rw [← hq_]; exact (by (with_reducible repeat (first | apply Kd.R_alloc | apply Kd.R_drewN | apply Kd.R_drew)); exact HO_12.out)⟩; have n1_ : Aside0 (Kd.R k30 30 wc w.heap.size (fun _ => True) (.slice Ao20 y192.length co20) y192) := ⟨by rw [← hq_]; exact (by (with_reducible repeat (first | apply Kd.R_alloc | apply Kd.R_drewN | apply Kd.R_drew)); exact HO_189001.out)⟩; have n2_ : Aside0 (Kd.R k32 32 wc w.heap.size (fun k_ => some k_ ≠ (v225 : Value).ownBlock ∧ some k_ ≠ (v202 : Value).ownBlock) (.slice Ao25 y195.length co25) y195) := ⟨by rw [← hq_]; exact (by (with_reducible repeat (first | apply Kd.R_alloc | apply Kd.R_drewN | apply Kd.R_drew)); exact Kd.R_mono HO_4.out (fun _ hk => by first | exact ⟨hk.2, hk.1⟩ | exact hk))⟩; have n3_ : Aside0 (Kd.R k32 32 wc w.heap.size (fun k_ => some k_ ≠ (v225 : Value).ownBlock ∧ some k_ ≠ (.slice Ao25 y195.length co25 : Value).ownBlock) v202 y201) := ⟨by rw [← hq_]; exact (by (with_reducible repeat (first | apply Kd.R_alloc | apply Kd.R_drewN | apply Kd.R_drew)); exact Kd.R_mono HO_6.out (fun _ hk => by first | exact ⟨hk.2, hk.1⟩ | exact hk))⟩; have n4_ : Aside0 (wc.heap[gb187]? = some (.cells #[.string a0_0, .slice A0_1 l0_1.length c0_1, .string a0_2, .slice A0_3 l0_3.length c0_3] 27 (0, 0))) := ⟨by rw [← hq_]; exact (by (with_reducible repeat (first | refine blk_drewN ?_ _ | refine blk_drew ?_ | refine blk_alloc ?_ _)); exact BK187.out)⟩; have n5_ : Aside0 (wc.heap[gb188]? = some (.cells #[.string a0_0, .slice Ao20 y192.length co20, .string a0_2] 24 (0, 0))) := ⟨by rw [← hq_]; exact (by (with_reducible repeat (first | refine blk_drewN ?_ _ | refine blk_drew ?_ | refine blk_alloc ?_ _)); exact BK188.out)⟩; have n6_ : Aside0 (Below w.heap.size w wc) := ⟨by rw [← hq_]; exact (by repeat (first | (with_reducible first | exact HB.out | apply below_alloc | apply pw_below_drewN | apply below_drew1 | refine below_set ?_ GE187.out | refine below_set ?_ GE188.out) | exact HB.out))⟩; clear HO_12 HO_189001 HO_4 HO_6 BK187 BK188 HB hq_; have HO_12 := n0_; have HO_189001 := n1_; have HO_4 := n2_; have HO_6 := n3_; have BK187 := n4_; have BK188 := n5_; have HB := n6_; clear n0_ n1_ n2_ n3_ n4_ n5_ n6_))))
                                      have n0_ := Aside0.mk (Kd.R_drew HO_4.out)
                                      have n1_ := Aside0.mk (Kd.R_drew HO_6.out)
                                      have n2_ := Aside0.mk (Kd.R_drew HO_12.out)
                                      have n3_ := Aside0.mk (Kd.R_drew HO_189001.out)
                                      have n4_ := Aside0.mk (blk_drew BK187.out)
                                      have n5_ := Aside0.mk (blk_drew BK188.out)
                                      have n6_ := Aside0.mk (below_drew1 HB.out)
                                      clear HO_4
                                      clear HO_6
                                      clear HO_12
                                      clear HO_189001
                                      clear BK187
                                      clear BK188
                                      clear HB
                                      have HO_4 := n0_
                                      have HO_6 := n1_
                                      have HO_12 := n2_
                                      have HO_189001 := n3_
                                      have BK187 := n4_
                                      have BK188 := n5_
                                      have HB := n6_
                                      clear n0_ n1_ n2_ n3_ n4_ n5_ n6_
                                      have q76 : ((l0_1.length : Int) : Int) ≤ ((y192.length : Int) : Int) := of_decide_eq_true (by first | (with_reducible assumption) | assumption)
                                      obtain ⟨i076, hi076, _, hsz76, _⟩ := info_parts info30
                                      have hroom76 : y192.length ≤ co20 := (Kd.R_reads' HO_189001.out).2.1
                                      have hC76 : Kd.C k30 _ Ao20 y192.length y192 := (Kd.R_reads' HO_189001.out).2.2
                                      have hcut76 := cut_to (P := Try.prog) 22 30 .i64 Try.underlying22 hi076 Ao20 y192.length co20 (l0_1.length : Int) (of_decide_eq_true (by first | (with_reducible assumption) | assumption)) q76 hroom76
                                      have hr76 := Kd.C_take (m := ((l0_1.length : Int) : Int).toNat) hC76 (by omega)
                                      have hy76 : y230.length = ((l0_1.length : Int) : Int).toNat := (by rw [Ny230.out, List.length_take]; omega)
                                      rw [← Ny230.out] at hr76
                                      rw [← hy76] at hcut76
                                      have HR233 := Aside0.mk hr76
                                      have HC233 := Aside0.mk (show y230.length ≤ co20 from by omega)
                                      clear hr76 hC76 hroom76 hi076 hsz76
                                      have KY76 := Aside0.mk hy76
                                      clear hy76
                                      have KL76 := Aside0.mk (show ((l0_1.length : Int) : Int).toNat ≤ y192.length from by omega)
                                      replace q76 := eq_true q76
                                      refine start_ (n := 12) (S := fun w' => w'.cell? ⟨gb188, 0, none⟩ = some (.string a0_0) ∧ w'.cell? ⟨gb188, 1, none⟩ = some (.slice Ao20 y192.length co20) ∧ w'.cell? ⟨gb188, 2, none⟩ = some (.string a0_2) ∧ w'.cell? ⟨gb187, 0, none⟩ = some (.string a0_0) ∧ w'.cell? ⟨gb187, 1, none⟩ = some (.slice A0_1 l0_1.length c0_1) ∧ w'.cell? ⟨gb187, 2, none⟩ = some (.string a0_2) ∧ w'.cell? ⟨gb187, 3, none⟩ = some (.slice A0_3 l0_3.length c0_3)) (ds := []) #[false, false, false, false, false, false, false, false, false, false, false, false] (by kernel_rfl) rfl rfl ⟨(blk_cell BK188.out 0).trans rfl, (blk_cell BK188.out 1).trans rfl, (blk_cell BK188.out 2).trans rfl, (blk_cell BK187.out 0).trans rfl, (blk_cell BK187.out 1).trans rfl, (blk_cell BK187.out 2).trans rfl, (blk_cell BK187.out 3).trans rfl⟩ (fun hHeld => ?_); refine with_tabW usherlaw5_PageSentMemory.tab27 usherlaw5_PageSentMemory.bits27 (fun HT_ HW_ => ?_)
                                      generalize wc.drew = w75 at HO_4 HO_6 HO_12 HO_189001 BK187 BK188 HB HR233 hHeld ⊢
                                      refine pure_ (i := 0) (N := some 132) (v := ?_) (a' := ?_) #[true, false, false, false, false, false, false, false, false, false, false, false] rfl rfl (any_of HT_.out (by kernel_rfl)) (fun _ _ _ h => h) (Or.inl ⟨by rfl, ?_⟩) ?_ ?_
                                      rotate_left
                                      · intro w'
                                        go_simp
                                        with_reducible rfl
                                      rotate_left
                                      · simp only [Act.put, List.setIfInBounds_toArray, List.set_cons_zero, List.set_cons_succ, i64_w, i32_w]
                                        rfl
                                      refine pure_ (i := 2) (N := some 134) (v := ?_) (a' := ?_) #[true, false, true, false, false, false, false, false, false, false, false, false] rfl rfl (any_of HT_.out (by kernel_rfl)) (fun _ _ _ h => h) (Or.inl ⟨by rfl, ?_⟩) ?_ ?_
                                      rotate_left
                                      · intro w'
                                        go_simp
                                        with_reducible rfl
                                      rotate_left
                                      · simp only [Act.put, List.setIfInBounds_toArray, List.set_cons_zero, List.set_cons_succ, i64_w, i32_w]
                                        rfl
                                      refine pure_ (i := 3) (N := some 135) (v := ?_) (a' := ?_) #[true, false, true, true, false, false, false, false, false, false, false, false] rfl rfl (any_of HT_.out (by kernel_rfl)) (fun _ _ _ h => h) (Or.inl ⟨by rfl, ?_⟩) ?_ ?_
                                      rotate_left
                                      · intro w'
                                        go_simp
                                        with_reducible rfl
                                      rotate_left
                                      · simp only [Act.put, List.setIfInBounds_toArray, List.set_cons_zero, List.set_cons_succ, i64_w, i32_w]
                                        rfl
                                      refine pure_ (i := 7) (N := some 139) (v := ?_) (a' := ?_) #[true, false, true, true, false, false, false, true, false, false, false, false] rfl rfl (any_of HT_.out (by kernel_rfl)) (fun _ _ _ h => h) (Or.inl ⟨by rfl, ?_⟩) ?_ ?_
                                      rotate_left
                                      · intro w'
                                        go_simp
                                        with_reducible rfl
                                      rotate_left
                                      · simp only [Act.put, List.setIfInBounds_toArray, List.set_cons_zero, List.set_cons_succ, i64_w, i32_w]
                                        rfl
                                      refine pure_ (i := 8) (N := some 140) (v := ?_) (a' := ?_) #[true, false, true, true, false, false, false, true, true, false, false, false] rfl rfl (any_of HT_.out (by kernel_rfl)) (fun _ _ _ h => h) (Or.inl ⟨by rfl, ?_⟩) ?_ ?_
                                      rotate_left
                                      · intro w'
                                        go_simp
                                        with_reducible rfl
                                      rotate_left
                                      · simp only [Act.put, List.setIfInBounds_toArray, List.set_cons_zero, List.set_cons_succ, i64_w, i32_w]
                                        rfl
                                      refine take_ (i := 1) (N := some 133) (v := ?_) (a' := ?_) #[true, true, true, true, false, false, false, true, true, false, false, false] rfl rfl (take_ofW HT_.out HW_.out (by kernel_rfl)) (fun _ _ _ h => h) (Or.inl ⟨by rfl, ?_⟩) hHeld ?_ ?_
                                      rotate_left
                                      · rintro w' ⟨s0, s1, s2, s3, s4, s5, s6⟩
                                        go_simp
                                        with_reducible rfl
                                      rotate_left
                                      · simp only [Act.put, List.setIfInBounds_toArray, List.set_cons_zero, List.set_cons_succ, i64_w, i32_w]
                                        rfl
                                      refine take_ (i := 4) (N := some 136) (v := ?_) (a' := ?_) #[true, true, true, true, true, false, false, true, true, false, false, false] rfl rfl (take_ofW HT_.out HW_.out (by kernel_rfl)) (fun _ _ _ h => h) (Or.inl ⟨by rfl, ?_⟩) hHeld ?_ ?_
                                      rotate_left
                                      · rintro w' ⟨s0, s1, s2, s3, s4, s5, s6⟩
                                        go_simp
                                        with_reducible rfl
                                      rotate_left
                                      · simp only [Act.put, List.setIfInBounds_toArray, List.set_cons_zero, List.set_cons_succ, i64_w, i32_w]
                                        rfl
                                      refine pure_ (i := 5) (N := some 137) (v := ?_) (a' := ?_) #[true, true, true, true, true, true, false, true, true, false, false, false] rfl rfl (any_of HT_.out (by kernel_rfl)) (fun _ _ _ h => h) (Or.inl ⟨by rfl, ?_⟩) ?_ ?_
                                      rotate_left
                                      · intro w'
                                        go_simp
                                        with_reducible rfl
                                      rotate_left
                                      · simp only [Act.put, List.setIfInBounds_toArray, List.set_cons_zero, List.set_cons_succ, i64_w, i32_w]
                                        rfl
                                      refine pure_ (i := 6) (N := some 138) (v := ?_) (a' := ?_) #[true, true, true, true, true, true, true, true, true, false, false, false] rfl rfl (any_of HT_.out (by kernel_rfl)) (fun _ _ _ h => h) (Or.inl ⟨by rfl, ?_⟩) ?_ ?_
                                      rotate_left
                                      · intro w'
                                        go_simp
                                        with_reducible rfl
                                      rotate_left
                                      · simp only [Act.put, List.setIfInBounds_toArray, List.set_cons_zero, List.set_cons_succ, i64_w, i32_w]
                                        rfl
                                      refine take_ (i := 9) (N := some 141) (v := ?_) (a' := ?_) #[true, true, true, true, true, true, true, true, true, true, false, false] rfl rfl (take_ofW HT_.out HW_.out (by kernel_rfl)) (fun _ _ _ h => h) (Or.inl ⟨by rfl, ?_⟩) hHeld ?_ ?_
                                      rotate_left
                                      · rintro w' ⟨s0, s1, s2, s3, s4, s5, s6⟩
                                        go_simp
                                        with_reducible rfl
                                      rotate_left
                                      · simp only [Act.put, List.setIfInBounds_toArray, List.set_cons_zero, List.set_cons_succ, i64_w, i32_w]
                                        rfl
                                      refine one_ (i := 10) (N := some 142) #[true, true, true, true, true, true, true, true, true, true, true, false] rfl rfl (one_of HT_.out (by kernel_rfl)) (by decide) (fun K hK => ?_)
                                      refine goes_ Try.func9 (by kernel_rfl) rfl #[.slice Ao20 y230.length co20, .slice A0_1 l0_1.length c0_1] (by rfl) rfl rfl (by (try simp only [List.map_toArray, List.map_cons, List.map_nil]); first | done | rfl | (simp only [List.length_drop, List.length_take]; rfl) | (simp only [KY76.out, Int.toNat_natCast]; rfl)) ?_
                                      with_reducible refine (usherref0_SameInputs.calls kj54 _ _ y230 _ _ l0_1 t234 _ ?side1 ?side2 ?side3 ?side4 A67.out).mono ?_
                                      (case side1 => repeat (first | exact (by repeat (first | (with_reducible exact HR233.out) | (with_reducible refine Kd.C_alloc ?_ _) | (with_reducible refine Kd.C_drewN ?_ _) | (with_reducible refine Kd.C_drew ?_) | exact HR233.out)) | (with_reducible refine Kd.C_alloc ?_ _) | (with_reducible refine Kd.C_drewN ?_ _) | (with_reducible refine Kd.C_drew ?_)))
                                      (case side2 => exact HC233.out)
                                      (case side3 => repeat (first | exact (Kd.C_below HR0_1.out HB.out) | (with_reducible refine Kd.C_alloc ?_ _) | (with_reducible refine Kd.C_drewN ?_ _) | (with_reducible refine Kd.C_drew ?_)))
                                      (case side4 => exact HC0_1.out)
                                      rintro e w' ⟨rfl, ⟨nd, rfl⟩⟩
                                      refine ⟨_, rfl, ?_⟩
                                      refine hK.out _ _ ⟨(blk_cell BK188.out 0).trans rfl, (blk_cell BK188.out 1).trans rfl, (blk_cell BK188.out 2).trans rfl, (blk_cell BK187.out 0).trans rfl, (blk_cell BK187.out 1).trans rfl, (blk_cell BK187.out 2).trans rfl, (blk_cell BK187.out 3).trans rfl⟩ (fun hHeld => ?_)
                                      clear hK K
                                      refine norm_ (a' := ?_) ?_ ?_
                                      rotate_left
                                      · show Act.put _ (some 142) _ = _
                                        simp only [Act.put, List.setIfInBounds_toArray, List.set_cons_zero, List.set_cons_succ, i64_w, i32_w]
                                        rfl
                                      refine pure_ (i := 11) (N := some 17) (v := ?_) (a' := ?_) #[true, true, true, true, true, true, true, true, true, true, true, true] rfl rfl (any_of HT_.out (by kernel_rfl)) (fun _ _ _ h => h) (Or.inl ⟨by rfl, ?_⟩) ?_ ?_
                                      rotate_left
                                      · intro w'
                                        go_simp
                                        with_reducible rfl
                                      rotate_left
                                      · simp only [Act.put, List.setIfInBounds_toArray, List.set_cons_zero, List.set_cons_succ, i64_w, i32_w]
                                        rfl
                                      refine done_ (done_of HT_.out (by kernel_rfl)) ?_
                                      obtain ⟨Ao77, co77, eo77⟩ := Kd.R_slice HO_12.out
                                      subst eo77
                                      obtain ⟨Ao78, co78, eo78⟩ := Kd.R_slice HO_6.out
                                      subst eo78
                                      try go_wp2_with (first | ((with_reducible refine gate_callee (f := 8) rfl ?_); refine goesL_ (some 145) rfl rfl Try.func8 (by kernel_rfl) rfl #[.slice Ao77 t224.length co77, .slice Ao78 y201.length co78] rfl (by (try simp only [List.map_toArray, List.map_cons, List.map_nil]); first | done | rfl | (simp only [List.length_drop, List.length_take]; rfl) | (simp only [KY76.out, Int.toNat_natCast]; rfl)) ?_; (with_reducible refine (usherref0_SamePairs.calls kj54 _ _ t224 _ _ y201 t235 _ ?side1 ?side2 ?side3 ?side4 A68.out).mono ?_); (case side1 => repeat (first | exact (Kd.R_reads' HO_12.out).2.2 | (with_reducible refine Kd.C_alloc ?_ _) | (with_reducible refine Kd.C_drewN ?_ _) | (with_reducible refine Kd.C_drew ?_))); (case side2 => exact (Kd.R_reads' HO_12.out).2.1); (case side3 => repeat (first | exact (Kd.R_reads' HO_6.out).2.2 | (with_reducible refine Kd.C_alloc ?_ _) | (with_reducible refine Kd.C_drewN ?_ _) | (with_reducible refine Kd.C_drew ?_))); (case side4 => exact (Kd.R_reads' HO_6.out).2.1); rintro e w' ⟨rfl, ⟨nd, rfl⟩⟩; refine ⟨_, rfl, ?_⟩; (try rw [World.drewN_drewN]); (try (rw [drewN_self w75]; generalize hq_ : World.drewN w75 _ = w75; have n0_ : Aside0 (Kd.R k32 32 w75 w.heap.size (fun k_ => some k_ ≠ (.slice Ao25 y195.length co25 : Value).ownBlock ∧ some k_ ≠ (.slice Ao78 y201.length co78 : Value).ownBlock) (.slice Ao77 t224.length co77) t224) := ⟨by rw [← hq_]; exact (by (with_reducible repeat (first | apply Kd.R_alloc | apply Kd.R_drewN | apply Kd.R_drew)); exact HO_12.out)⟩; have n1_ : Aside0 (Kd.R k30 30 w75 w.heap.size (fun _ => True) (.slice Ao20 y192.length co20) y192) := ⟨by rw [← hq_]; exact (by (with_reducible repeat (first | apply Kd.R_alloc | apply Kd.R_drewN | apply Kd.R_drew)); exact HO_189001.out)⟩; have n2_ : Aside0 (Kd.R k32 32 w75 w.heap.size (fun k_ => some k_ ≠ (.slice Ao77 t224.length co77 : Value).ownBlock ∧ some k_ ≠ (.slice Ao78 y201.length co78 : Value).ownBlock) (.slice Ao25 y195.length co25) y195) := ⟨by rw [← hq_]; exact (by (with_reducible repeat (first | apply Kd.R_alloc | apply Kd.R_drewN | apply Kd.R_drew)); exact Kd.R_mono HO_4.out (fun _ hk => by first | exact ⟨hk.2, hk.1⟩ | exact hk))⟩; have n3_ : Aside0 (Kd.R k32 32 w75 w.heap.size (fun k_ => some k_ ≠ (.slice Ao77 t224.length co77 : Value).ownBlock ∧ some k_ ≠ (.slice Ao25 y195.length co25 : Value).ownBlock) (.slice Ao78 y201.length co78) y201) := ⟨by rw [← hq_]; exact (by (with_reducible repeat (first | apply Kd.R_alloc | apply Kd.R_drewN | apply Kd.R_drew)); exact Kd.R_mono HO_6.out (fun _ hk => by first | exact ⟨hk.2, hk.1⟩ | exact hk))⟩; have n4_ : Aside0 (w75.heap[gb187]? = some (.cells #[.string a0_0, .slice A0_1 l0_1.length c0_1, .string a0_2, .slice A0_3 l0_3.length c0_3] 27 (0, 0))) := ⟨by rw [← hq_]; exact (by (with_reducible repeat (first | refine blk_drewN ?_ _ | refine blk_drew ?_ | refine blk_alloc ?_ _)); exact BK187.out)⟩; have n5_ : Aside0 (w75.heap[gb188]? = some (.cells #[.string a0_0, .slice Ao20 y192.length co20, .string a0_2] 24 (0, 0))) := ⟨by rw [← hq_]; exact (by (with_reducible repeat (first | refine blk_drewN ?_ _ | refine blk_drew ?_ | refine blk_alloc ?_ _)); exact BK188.out)⟩; have n6_ : Aside0 (Below w.heap.size w w75) := ⟨by rw [← hq_]; exact (by repeat (first | (with_reducible first | exact HB.out | apply below_alloc | apply pw_below_drewN | apply below_drew1 | refine below_set ?_ GE187.out | refine below_set ?_ GE188.out) | exact HB.out))⟩; have n7_ : Aside0 (Kd.C k30 w75 Ao20 y230.length y230) := ⟨by rw [← hq_]; exact (by repeat (first | (with_reducible exact HR233.out) | (with_reducible refine Kd.C_alloc ?_ _) | (with_reducible refine Kd.C_drewN ?_ _) | (with_reducible refine Kd.C_drew ?_) | exact HR233.out))⟩; clear HO_12 HO_189001 HO_4 HO_6 BK187 BK188 HB HR233 hq_; have HO_12 := n0_; have HO_189001 := n1_; have HO_4 := n2_; have HO_6 := n3_; have BK187 := n4_; have BK188 := n5_; have HB := n6_; have HR233 := n7_; clear n0_ n1_ n2_ n3_ n4_ n5_ n6_ n7_)); have hcz79_0 : w75.cell? ⟨gb188, 0, none⟩ = some (.string a0_0) := (blk_cell BK188.out 0).trans rfl; have hcz79_1 : w75.cell? ⟨gb188, 1, none⟩ = some (.slice Ao20 y192.length co20) := (blk_cell BK188.out 1).trans rfl; have hcz79_2 : w75.cell? ⟨gb188, 2, none⟩ = some (.string a0_2) := (blk_cell BK188.out 2).trans rfl; have hfz79_0 := blk_frozen BK188.out 0; have hfz79_1 := blk_frozen BK188.out 1; have hfz79_2 := blk_frozen BK188.out 2; have p72 : 0 ≤ ((ji69) : Int) := of_decide_eq_true (by first | (with_reducible assumption) | assumption); have q72 : ((ji69) : Int) < ((y192.length : Int) : Int) := of_decide_eq_true (by first | (with_reducible assumption) | assumption); obtain ⟨go72, co72, eo72, gb72, gl72, cl72, HG72⟩ := Kd.R_form HO_189001.out (by omega); (first | cases eo72 | (injection eo72 with ea_ en_ ec_; (first | subst ea_ | (injection ea_ with ea_; subst ea_)); subst ec_; clear en_)); have GB72 := Aside0.mk gb72; have GG72 := Aside0.mk HG72; clear gb72 gl72 HG72; obtain ⟨ce72, hcl72, hM72, hcc72, hfr72⟩ := Kd.R_elem HO_189001.out z30 ((ji69) : Int) p72 q72; obtain rfl := k30_openM hM72; have hx72_0 : w75.cell? ⟨go72, ((ji69) : Int).toNat * 4, none⟩ = some (.int .i64 ((rd_T30 y192 (ji69)).f0)) := hcc72 0 _ rfl; have hx72_1 : w75.cell? ⟨go72, ((ji69) : Int).toNat * 4 + 1, none⟩ = some (.string ((rd_T30 y192 (ji69)).f1)) := hcc72 1 _ rfl; have hx72_2 : w75.cell? ⟨go72, ((ji69) : Int).toNat * 4 + 2, none⟩ = some (.string ((rd_T30 y192 (ji69)).f2)) := hcc72 2 _ rfl; have hx72_3 : w75.cell? ⟨go72, ((ji69) : Int).toNat * 4 + 3, none⟩ = some (.string ((rd_T30 y192 (ji69)).f3)) := hcc72 3 _ rfl; have hf72_0 : w75.frozen? ⟨go72, ((ji69) : Int).toNat * 4, none⟩ = false := hfr72 0; have hf72_1 : w75.frozen? ⟨go72, ((ji69) : Int).toNat * 4 + 1, none⟩ = false := hfr72 1; have hf72_2 : w75.frozen? ⟨go72, ((ji69) : Int).toNat * 4 + 2, none⟩ = false := hfr72 2; have hf72_3 : w75.frozen? ⟨go72, ((ji69) : Int).toNat * 4 + 3, none⟩ = false := hfr72 3; clear hcl72 hcc72 hfr72 hM72; replace p72 := eq_true p72; replace q72 := eq_true q72; have HX80 := Aside0.mk (show Kd.R k30 30 w75 w.heap.size (fun _ => True) (.slice (some ⟨go72, 0, none⟩) y192.length co20) y192 from (by (with_reducible repeat (first | apply Kd.R_alloc | apply Kd.R_drewN | apply Kd.R_drew)); exact HO_189001.out)); obtain ⟨ce80, hcl80, hM80, hcc80, hfr80⟩ := Kd.R_elem HX80.out z30 ((ji69) : Int) (of_decide_eq_true (by first | (with_reducible assumption) | assumption)) (by have h_ : ((ji69) : Int) < ((y192.length : Int) : Int) := of_decide_eq_true (by first | (with_reducible assumption) | assumption); first | exact h_ | (have e_ := (Kd.R_reads' HO_189001.out).1; omega) | simpa using h_); obtain rfl := k30_openM hM80; have HP80 := Kd.R_seg HX80.out ((ji69) : Int) (of_decide_eq_true (by first | (with_reducible assumption) | assumption)) (by have h_ : ((ji69) : Int) < ((y192.length : Int) : Int) := of_decide_eq_true (by first | (with_reducible assumption) | assumption); first | exact h_ | (have e_ := (Kd.R_reads' HO_189001.out).1; omega) | simpa using h_) (seg := [.string (⟨#[111, 118, 101, 114]⟩ : ByteArray)]) (j := 2) hcl80 hcc80 (show 3 ≤ 4 from by decide) (x' := (⟨(rd_T30 y192 (ji69)).f0, (rd_T30 y192 (ji69)).f1, (⟨#[111, 118, 101, 114]⟩ : ByteArray), (rd_T30 y192 (ji69)).f3⟩ : S30)) (k30_mkM _ _ _ (⟨(rd_T30 y192 (ji69)).f0, (rd_T30 y192 (ji69)).f1, (⟨#[111, 118, 101, 114]⟩ : ByteArray), (rd_T30 y192 (ji69)).f3⟩ : S30) ) (fun _ hk => hk); have hx80_2 := hcc80 2 _ rfl; (try simp only [show (k30).sz = 4 from rfl, Nat.mul_one, Nat.add_zero] at hx80_2); have hf80_2 := hfr80 2; (try simp only [show (k30).sz = 4 from rfl, Nat.mul_one, Nat.add_zero] at hf80_2); clear hcl80 hcc80 hfr80 hM80) | ((with_reducible refine gate_store (t := 9) (p := 153) rfl ?_); refine store_event (t := 9) (p := 153) (v := ?vo_w81) (w1 := (w75.setCell ⟨go72, ((ji69) : Int).toNat * 4 + 2, none⟩ (.string (⟨#[111, 118, 101, 114]⟩ : ByteArray)))) ?hg ?ho ?hn ?hr ?_; (case ho => rfl); (case hg => rfl); (case hn => rfl); (case hr => first | (go_simp; done) | (go_simp; rfl)); intro w81 hw; have hg : w75.grownBy w81 (some go72) := (by rw [hw]; exact HP80.2); have hp_ : Kd.R k30 30 w81 w.heap.size (fun _ => True) (.slice (some ⟨go72, 0, none⟩) y192.length co20) y236 := (by rw [hw, Ny236.out]; exact HP80.1); clear HP80; have n0_ := Aside0.mk (Kd.R_over' (v := (.slice (some ⟨go72, 0, none⟩) y192.length co20)) (by (with_reducible repeat (first | apply Kd.R_alloc | apply Kd.R_drewN | apply Kd.R_drew)); exact HO_4.out) (Kd.R_typed HO_189001.out) (by decide) hg); have n1_ := Aside0.mk (Kd.R_over' (v := (.slice (some ⟨go72, 0, none⟩) y192.length co20)) (by (with_reducible repeat (first | apply Kd.R_alloc | apply Kd.R_drewN | apply Kd.R_drew)); exact HO_6.out) (Kd.R_typed HO_189001.out) (by decide) hg); have n2_ := Aside0.mk (Kd.R_over' (v := (.slice (some ⟨go72, 0, none⟩) y192.length co20)) (by (with_reducible repeat (first | apply Kd.R_alloc | apply Kd.R_drewN | apply Kd.R_drew)); exact HO_12.out) (Kd.R_typed HO_189001.out) (by decide) hg); have n3_ := Aside0.mk (hp_); have n4_ := Aside0.mk (blk_grown (g := gb187) (o := .cells #[.string a0_0, .slice A0_1 l0_1.length c0_1, .string a0_2, .slice A0_3 l0_3.length c0_3] 27 (0, 0)) (by (with_reducible repeat (first | refine blk_drewN ?_ _ | refine blk_drew ?_ | refine blk_alloc ?_ _)); exact BK187.out) hg (Kd.R_ne HO_189001.out BK187.out (by decide))); have n5_ := Aside0.mk (blk_grown (g := gb188) (o := .cells #[.string a0_0, .slice (some ⟨go72, 0, none⟩) y192.length co20, .string a0_2] 24 (0, 0)) (by (with_reducible repeat (first | refine blk_drewN ?_ _ | refine blk_drew ?_ | refine blk_alloc ?_ _)); exact BK188.out) hg (Kd.R_ne HO_189001.out BK188.out (by decide))); have n6_ := Aside0.mk ((by rw [hw]; exact below_set (HB.out) GB72.out : Below w.heap.size w w81)); clear HO_4; clear HO_6; clear HO_12; clear HO_189001; clear BK187; clear BK188; clear HB; have HO_4 := n0_; have HO_6 := n1_; have HO_12 := n2_; have HO_189001 := n3_; have BK187 := n4_; have BK188 := n5_; have HB := n6_; clear n0_ n1_ n2_ n3_ n4_ n5_ n6_; clear hg hw hp_))
                                      go_loopg [19] kj54 (fun kq v19 w' => ∃ (x4_4 : List (S32)) (x19_4 : Int), v19 = .int .i64 x19_4 ∧ Aside0 (usherlaw5_PageSentMemory.l1 kq x4_4 x15_54 t229 t234 t235 x19_4 a0_0 y236 a0_2 = some r) ∧ Aside0 (kq ≤ kj54) ∧ Aside0 (Kd.R k32 32 w' w.heap.size (fun _ => True) (.slice Ao25 y195.length co25) x4_4) ∧ Aside0 (Kd.R k30 30 w' w.heap.size (fun _ => True) (.slice (some ⟨go72, 0, none⟩) y192.length co20) y236) ∧ Aside0 (w'.heap[gb187]? = some (.cells #[.string a0_0, (.slice A0_1 l0_1.length c0_1), .string a0_2, (.slice A0_3 l0_3.length c0_3)] 27 (0, 0))) ∧ Aside0 (w'.heap[gb188]? = some (.cells #[.string a0_0, (.slice (some ⟨go72, 0, none⟩) y192.length co20), .string a0_2] 24 (0, 0))) ∧ Aside0 (Below w.heap.size w w'))
                                      case atStart => exact ⟨(y195), (0), (by first | rfl | (simp; done) | (simp [*]; done) | (simp [bne]; done)), H', ⟨Nat.le_refl _⟩, ⟨by (with_reducible repeat (first | apply Kd.R_alloc | apply Kd.R_drewN | apply Kd.R_drew)); exact Kd.R_mono HO_4.out (fun _ hk => trivial)⟩, ⟨by (with_reducible repeat (first | apply Kd.R_alloc | apply Kd.R_drewN | apply Kd.R_drew)); exact HO_189001.out⟩, ⟨by (with_reducible repeat (first | refine blk_drewN ?_ _ | refine blk_drew ?_ | refine blk_alloc ?_ _)); exact BK187.out⟩, ⟨by (with_reducible repeat (first | refine blk_drewN ?_ _ | refine blk_drew ?_ | refine blk_alloc ?_ _)); exact BK188.out⟩, ⟨by repeat (first | (with_reducible first | exact HB.out | apply below_alloc | apply pw_below_drewN | apply below_drew1 | refine below_set ?_ GE187.out | refine below_set ?_ GE188.out) | exact HB.out)⟩⟩
                                      case round =>
                                        clear H'
                                        try clear c1
                                        try clear c2
                                        try clear p2
                                        try clear q2
                                        try clear hx2
                                        try clear c3
                                        try clear c4
                                        try clear c5
                                        try clear c6
                                        try clear p6
                                        try clear c7
                                        try clear p7
                                        try clear q7
                                        try clear hx7
                                        try clear hf7
                                        try clear c8
                                        try clear hx8
                                        try clear hf8
                                        try clear c9
                                        try clear c10
                                        try clear c11
                                        try clear c13
                                        try clear p20
                                        try clear q20
                                        try clear hx20
                                        try clear c32
                                        try clear c33
                                        try clear c33b0
                                        try clear c33b1
                                        try clear c33b2
                                        try clear c35
                                        try clear c35b0
                                        try clear c36
                                        try clear c36b0
                                        try clear c37
                                        try clear c37b0
                                        try clear c37b1
                                        try clear c38
                                        try clear c41
                                        try clear c42
                                        try clear c47
                                        try clear c47b0
                                        try clear c48
                                        try clear c49
                                        try clear c56
                                        try clear c61
                                        try clear c62
                                        try clear p64
                                        try clear c65
                                        try clear c65b0
                                        try clear c65b1
                                        try clear c66
                                        try clear c66b0
                                        try clear c66b1
                                        try clear c70
                                        try clear c70b0
                                        try clear c71
                                        try clear c71b0
                                        try clear c72
                                        try clear p72
                                        try clear q72
                                        try clear hx72
                                        try clear hf72
                                        try clear c73
                                        try clear q76
                                        try clear c80
                                        try clear hx80
                                        try clear hf80
                                        try clear hcz11_0
                                        try clear hcz11_1
                                        try clear hcz11_2
                                        try clear hcz11_3
                                        try clear hcz14_0
                                        try clear hcz14_1
                                        try clear hcz14_2
                                        try clear hcz15_0
                                        try clear hcz15_1
                                        try clear hcz15_2
                                        try clear hcz15_3
                                        try clear hcz18_0
                                        try clear hcz18_1
                                        try clear hcz18_2
                                        try clear hcz21_0
                                        try clear hcz21_1
                                        try clear hcz21_2
                                        try clear hcz22_0
                                        try clear hcz22_1
                                        try clear hcz22_2
                                        try clear hcz22_3
                                        try clear hcz24_0
                                        try clear hcz24_1
                                        try clear hcz24_2
                                        try clear hcz29_0
                                        try clear hcz29_1
                                        try clear hcz29_2
                                        try clear hcz57_0
                                        try clear hcz57_1
                                        try clear hcz57_2
                                        try clear hcz74_0
                                        try clear hcz74_1
                                        try clear hcz74_2
                                        try clear hcz74_3
                                        try clear hcz79_0
                                        try clear hcz79_1
                                        try clear hcz79_2
                                        try clear hfz11_0
                                        try clear hfz11_1
                                        try clear hfz11_2
                                        try clear hfz11_3
                                        try clear hfz14_0
                                        try clear hfz14_1
                                        try clear hfz14_2
                                        try clear hfz15_0
                                        try clear hfz15_1
                                        try clear hfz15_2
                                        try clear hfz15_3
                                        try clear hfz18_0
                                        try clear hfz18_1
                                        try clear hfz18_2
                                        try clear hfz21_0
                                        try clear hfz21_1
                                        try clear hfz21_2
                                        try clear hfz22_0
                                        try clear hfz22_1
                                        try clear hfz22_2
                                        try clear hfz22_3
                                        try clear hfz24_0
                                        try clear hfz24_1
                                        try clear hfz24_2
                                        try clear hfz29_0
                                        try clear hfz29_1
                                        try clear hfz29_2
                                        try clear hfz57_0
                                        try clear hfz57_1
                                        try clear hfz57_2
                                        try clear hfz74_0
                                        try clear hfz74_1
                                        try clear hfz74_2
                                        try clear hfz74_3
                                        try clear hfz79_0
                                        try clear hfz79_1
                                        try clear hfz79_2
                                        try clear hx208_0
                                        try clear hx208_1
                                        try clear hx209_0
                                        try clear hx209_1
                                        try clear hx72_0
                                        try clear hx72_1
                                        try clear hx72_2
                                        try clear hx72_3
                                        try clear hx80_2
                                        try clear p2
                                        try clear p20
                                        try clear p208
                                        try clear p209
                                        try clear p6
                                        try clear p72
                                        try clear q2
                                        try clear q20
                                        try clear q208
                                        try clear q209
                                        try clear q72
                                        try clear q76
                                        obtain ⟨x4_4, x19_4, rfl, HA, HK4, HO_4, HO_189001, BK187, BK188, HB⟩ := hrel
                                        have hl4_4 := (Kd.R_reads' HO_4.out).1
                                        rw [hl4_4] at HO_4
                                        (try simp only [hl4_4])
                                        (try simp only [hl4_4] at BK187)
                                        (try simp only [hl4_4] at BK188)
                                        (try simp only [hl4_4] at HO_189001)
                                        have hl189001_4 := (Kd.R_reads' HO_189001.out).1
                                        rw [hl189001_4] at HO_189001
                                        (try simp only [hl189001_4])
                                        (try simp only [hl189001_4] at BK187)
                                        (try simp only [hl189001_4] at BK188)
                                        (try simp only [hl189001_4] at HO_4)
                                        cases gk with
                                        | zero => exact absurd HA.out (by simp [usherlaw5_PageSentMemory.l1])
                                        | succ k4 =>
                                          have H := HA.out
                                          clear HA
                                          simp only [usherlaw5_PageSentMemory.l1] at H
                                          by_cases c82 : x19_4 < (x4_4.length : Int)
                                          · rw [if_pos c82] at H
                                            have c82b0 : decide (x19_4 < (x4_4.length : Int)) = true := decide_eq_true c82
                                            clear c82
                                            by_cases c83 : 0 < (y236.length : Int)
                                            · rw [if_pos c83] at H
                                              have c83b0 : decide (0 < (y236.length : Int)) = true := decide_eq_true c83
                                              have c83b1 : decide (0 < y236.length) = true := decide_eq_true (by omega)
                                              clear c83
                                              by_cases c84 : 0 ≤ x19_4
                                              · rw [if_pos c84] at H
                                                have c84b0 : decide (0 ≤ x19_4) = true := decide_eq_true c84
                                                clear c84
                                                obtain ⟨y238, hy238⟩ : ∃ y_ : List (S32), y_ = (x4_4.set (x19_4 : Int).toNat (⟨(rd_T30 y236 0).f1, (⟨#[111, 118, 101, 114]⟩ : ByteArray)⟩ : S32)) := ⟨_, rfl⟩
                                                replace H : (usherlaw5_PageSentMemory.l1 k4 y238 x15_54 t229 t234 t235 (wrap64 (x19_4 + 1)) a0_0 y236 a0_2) = some r := by first | (rw [hy238]; with_reducible exact H) | (have H2_ := (Option.bind_some _ _).symm.trans H; rw [hy238]; with_reducible exact H2_) | (have H2_ := (Option.bind_some _ _).symm.trans H; with_reducible exact H2_) | with_reducible exact H | (rw [hy238]; exact H) | exact H
                                                have Ny238 := Aside0.mk hy238
                                                clear hy238
                                                have H' := Aside0.mk H
                                                clear H
                                                have hnb86 := NB188_187.out
                                                have hnc86 := NB187_188.out
                                                have hcz87_0 : wr.cell? ⟨gb188, 0, none⟩ = some (.string a0_0) := (blk_cell BK188.out 0).trans rfl
                                                have hcz87_1 : wr.cell? ⟨gb188, 1, none⟩ = some (.slice (some ⟨go72, 0, none⟩) y236.length co20) := (blk_cell BK188.out 1).trans rfl
                                                have hcz87_2 : wr.cell? ⟨gb188, 2, none⟩ = some (.string a0_2) := (blk_cell BK188.out 2).trans rfl
                                                have hfz87_0 := blk_frozen BK188.out 0
                                                have hfz87_1 := blk_frozen BK188.out 1
                                                have hfz87_2 := blk_frozen BK188.out 2
                                                have p237 : 0 ≤ (0 : Int) := (by omega)
                                                have q237 : 0 < (y236.length : Int) := of_decide_eq_true (by first | (with_reducible assumption) | assumption)
                                                obtain ⟨ad237, e237, hx237_0, hx237_1, hx237_2, hx237_3⟩ := at_T30 (Kd.R_reads' HO_189001.out).2.2 0 p237 q237
                                                obtain rfl : (⟨go72, 0, none⟩ : Addr) = ad237 := (by injection e237)
                                                (first | simp only [add_plain] at hx237_0 | simp only [add_at] at hx237_0 | simp only [Addr.add, Nat.zero_add] at hx237_0 | skip)
                                                (first | simp only [add_plain] at hx237_1 | simp only [add_at] at hx237_1 | simp only [Addr.add, Nat.zero_add] at hx237_1 | skip)
                                                (first | simp only [add_plain] at hx237_2 | simp only [add_at] at hx237_2 | simp only [Addr.add, Nat.zero_add] at hx237_2 | skip)
                                                (first | simp only [add_plain] at hx237_3 | simp only [add_at] at hx237_3 | simp only [Addr.add, Nat.zero_add] at hx237_3 | skip)
                                                have qi237 : (0 < y236.length) = True := eq_true (by omega)
                                                (try rw [show ((0 : Int)).toNat = 0 from rfl] at hx237_0)
                                                (try rw [show 0 * 4 = 0 from rfl] at hx237_0)
                                                (try rw [Addr.add_zero'] at hx237_0)
                                                (try rw [show ((0 : Int)).toNat = 0 from rfl] at hx237_1)
                                                (try rw [show 0 * 4 = 0 from rfl] at hx237_1)
                                                (try rw [Addr.add_zero'] at hx237_1)
                                                (try rw [show ((0 : Int)).toNat = 0 from rfl] at hx237_2)
                                                (try rw [show 0 * 4 = 0 from rfl] at hx237_2)
                                                (try rw [Addr.add_zero'] at hx237_2)
                                                (try rw [show ((0 : Int)).toNat = 0 from rfl] at hx237_3)
                                                (try rw [show 0 * 4 = 0 from rfl] at hx237_3)
                                                (try rw [Addr.add_zero'] at hx237_3)
                                                replace p237 := eq_true p237
                                                replace q237 := eq_true q237
                                                have p85 : 0 ≤ (x19_4 : Int) := of_decide_eq_true (by first | (with_reducible assumption) | assumption)
                                                have q85 : (x19_4 : Int) < ((x4_4.length : Int) : Int) := of_decide_eq_true (by first | (with_reducible assumption) | assumption)
                                                obtain ⟨go85, co85, eo85, gb85, gl85, cl85, HG85⟩ := Kd.R_form HO_4.out (by omega)
                                                (first | cases eo85 | (injection eo85 with ea_ en_ ec_; (first | subst ea_ | (injection ea_ with ea_; subst ea_)); subst ec_; clear en_))
                                                have GB85 := Aside0.mk gb85
                                                have GG85 := Aside0.mk HG85
                                                clear gb85 gl85 HG85
                                                obtain ⟨ce85, hcl85, hM85, hcc85, hfr85⟩ := Kd.R_elem HO_4.out z32 (x19_4 : Int) p85 q85
                                                obtain rfl := k32_openM hM85
                                                have hx85_0 : wr.cell? ⟨go85, (x19_4 : Int).toNat * 2, none⟩ = some (.string ((rd_T32 x4_4 x19_4).f0)) := hcc85 0 _ rfl
                                                have hx85_1 : wr.cell? ⟨go85, (x19_4 : Int).toNat * 2 + 1, none⟩ = some (.string ((rd_T32 x4_4 x19_4).f1)) := hcc85 1 _ rfl
                                                have hf85_0 : wr.frozen? ⟨go85, (x19_4 : Int).toNat * 2, none⟩ = false := hfr85 0
                                                have hf85_1 : wr.frozen? ⟨go85, (x19_4 : Int).toNat * 2 + 1, none⟩ = false := hfr85 1
                                                clear hcl85 hcc85 hfr85 hM85
                                                replace p85 := eq_true p85
                                                replace q85 := eq_true q85
                                                have HX88 := Aside0.mk (show Kd.R k32 32 wr w.heap.size (fun _ => True) (.slice (some ⟨go85, 0, none⟩) x4_4.length co25) x4_4 from (by (with_reducible repeat (first | apply Kd.R_alloc | apply Kd.R_drewN | apply Kd.R_drew)); exact HO_4.out))
                                                obtain ⟨ce88, hcl88, hM88, hcc88, hfr88⟩ := Kd.R_elem HX88.out z32 (x19_4 : Int) (of_decide_eq_true (by first | (with_reducible assumption) | assumption)) (by have h_ : (x19_4 : Int) < ((x4_4.length : Int) : Int) := of_decide_eq_true (by first | (with_reducible assumption) | assumption); first | exact h_ | (have e_ := (Kd.R_reads' HO_4.out).1; omega) | simpa using h_)
                                                obtain rfl := k32_openM hM88
                                                have HP88 := Kd.R_seg HX88.out (x19_4 : Int) (of_decide_eq_true (by first | (with_reducible assumption) | assumption)) (by have h_ : (x19_4 : Int) < ((x4_4.length : Int) : Int) := of_decide_eq_true (by first | (with_reducible assumption) | assumption); first | exact h_ | (have e_ := (Kd.R_reads' HO_4.out).1; omega) | simpa using h_) (seg := [.string ((rd_T30 y236 0).f1), .string (⟨#[111, 118, 101, 114]⟩ : ByteArray)]) (j := 0) hcl88 hcc88 (show 2 ≤ 2 from by decide) (x' := (⟨(rd_T30 y236 0).f1, (⟨#[111, 118, 101, 114]⟩ : ByteArray)⟩ : S32)) (k32_mkM _ _ _ (⟨(rd_T30 y236 0).f1, (⟨#[111, 118, 101, 114]⟩ : ByteArray)⟩ : S32) ) (fun _ hk => hk)
                                                have hx88_0 := hcc88 0 _ rfl
                                                (try simp only [show (k32).sz = 2 from rfl, Nat.mul_one, Nat.add_zero] at hx88_0)
                                                have hf88_0 := hfr88 0
                                                (try simp only [show (k32).sz = 2 from rfl, Nat.mul_one, Nat.add_zero] at hf88_0)
                                                have hx88_1 := hcc88 1 _ rfl
                                                (try simp only [show (k32).sz = 2 from rfl, Nat.mul_one, Nat.add_zero] at hx88_1)
                                                have hf88_1 := hfr88 1
                                                (try simp only [show (k32).sz = 2 from rfl, Nat.mul_one, Nat.add_zero] at hf88_1)
                                                clear hcl88 hcc88 hfr88 hM88
                                                go_wp2_with (first | ((with_reducible refine gate_store (t := 32) (p := 168) rfl ?_); refine store_event (t := 32) (p := 168) (v := ?vo_w89) (w1 := ((wr.setCell ⟨go85, (x19_4 : Int).toNat * 2, none⟩ (.string ((rd_T30 y236 0).f1))).setCell ⟨go85, (x19_4 : Int).toNat * 2 + 1, none⟩ (.string (⟨#[111, 118, 101, 114]⟩ : ByteArray)))) ?hg ?ho ?hn ?hr ?_; (case ho => rfl); (case hg => rfl); (case hn => rfl); (case hr => first | (go_simp; done) | (go_simp; rfl)); intro w89 hw; have hg : wr.grownBy w89 (some go85) := (by rw [hw]; exact HP88.2); have hp_ : Kd.R k32 32 w89 w.heap.size (fun _ => True) (.slice (some ⟨go85, 0, none⟩) x4_4.length co25) y238 := (by rw [hw, Ny238.out]; exact HP88.1); clear HP88; have n0_ := Aside0.mk (hp_); have n1_ := Aside0.mk (Kd.R_over' (v := (.slice (some ⟨go85, 0, none⟩) x4_4.length co25)) (by (with_reducible repeat (first | apply Kd.R_alloc | apply Kd.R_drewN | apply Kd.R_drew)); exact HO_189001.out) (Kd.R_typed HO_4.out) (by decide) hg); have n2_ := Aside0.mk (blk_grown (g := gb187) (o := .cells #[.string a0_0, .slice A0_1 l0_1.length c0_1, .string a0_2, .slice A0_3 l0_3.length c0_3] 27 (0, 0)) (by (with_reducible repeat (first | refine blk_drewN ?_ _ | refine blk_drew ?_ | refine blk_alloc ?_ _)); exact BK187.out) hg (Kd.R_ne HO_4.out BK187.out (by decide))); have n3_ := Aside0.mk (blk_grown (g := gb188) (o := .cells #[.string a0_0, .slice (some ⟨go72, 0, none⟩) y236.length co20, .string a0_2] 24 (0, 0)) (by (with_reducible repeat (first | refine blk_drewN ?_ _ | refine blk_drew ?_ | refine blk_alloc ?_ _)); exact BK188.out) hg (Kd.R_ne HO_4.out BK188.out (by decide))); have n4_ := Aside0.mk ((by rw [hw]; exact below_set (below_set (HB.out) GB85.out) GB85.out : Below w.heap.size w w89)); clear HO_4; clear HO_189001; clear BK187; clear BK188; clear HB; have HO_4 := n0_; have HO_189001 := n1_; have BK187 := n2_; have BK188 := n3_; have HB := n4_; clear n0_ n1_ n2_ n3_ n4_; clear hg hw hp_))
                                                (try simp only [← hl4_4, ← hl189001_4])
                                                go_roundg k4
                                                case measure => have := HJ8.out; have := HK2.out; have := HJ54.out; have := HK4.out; omega
                                                case rel => exact ⟨(y238), (wrap64 (x19_4 + 1)), (by first | rfl | (simp; done) | (simp [*]; done) | (simp [bne]; done)), H', ⟨by have := HJ8.out; have := HK2.out; have := HJ54.out; have := HK4.out; omega⟩, ⟨by (try simp only [hl4_4]); (try simp only [hl189001_4]); (with_reducible repeat (first | apply Kd.R_alloc | apply Kd.R_drewN | apply Kd.R_drew)); exact HO_4.out⟩, ⟨by (try simp only [hl4_4]); (try simp only [hl189001_4]); (with_reducible repeat (first | apply Kd.R_alloc | apply Kd.R_drewN | apply Kd.R_drew)); exact HO_189001.out⟩, ⟨by (try simp only [hl4_4]); (try simp only [hl189001_4]); (with_reducible repeat (first | refine blk_drewN ?_ _ | refine blk_drew ?_ | refine blk_alloc ?_ _)); exact BK187.out⟩, ⟨by (try simp only [hl4_4]); (try simp only [hl189001_4]); (with_reducible repeat (first | refine blk_drewN ?_ _ | refine blk_drew ?_ | refine blk_alloc ?_ _)); exact BK188.out⟩, ⟨by repeat (first | (with_reducible first | exact HB.out | apply below_alloc | apply pw_below_drewN | apply below_drew1 | refine below_set ?_ GE187.out | refine below_set ?_ GE188.out) | exact HB.out)⟩⟩
                                              · rw [if_neg c84] at H
                                                exact absurd H (by simp)
                                            · rw [if_neg c83] at H
                                              exact absurd H (by simp)
                                          · rw [if_neg c82] at H
                                            have c82b0 : decide (x19_4 < (x4_4.length : Int)) = false := decide_eq_false c82
                                            clear c82
                                            obtain ⟨y240, hy240⟩ : ∃ y_ : List (S30), y_ = (([] : List (S30))) := ⟨_, rfl⟩
                                            replace H : (if y240.length + y236.length < 2513169434916 then ((page_Sent.f k4 a0_0 y236 a0_2 x4_4).bind fun t246 => ((some (([] : List (S32)) : List (S32))).bind fun y249 => (if y249.length + x4_4.length < 4398046511104 then ((page_Sent.f k4 a0_0 (y240 ++ y236) a0_2 (y249 ++ x4_4)).bind fun t255 => ((usherref0_SamePairs.f k4 t246 t255).bind fun t258 => (if x15_54 = true then (if t229 = true then (if t234 = true then (if t235 = true then (some t258) else (some false)) else (some false)) else (some false)) else (some false)))) else (none)))) else (none)) = some r := by first | (rw [hy240]; with_reducible exact H) | (have H2_ := (Option.bind_some _ _).symm.trans H; rw [hy240]; with_reducible exact H2_) | (have H2_ := (Option.bind_some _ _).symm.trans H; with_reducible exact H2_) | with_reducible exact H | (rw [hy240]; exact H) | exact H
                                            have Ny240 := Aside0.mk hy240
                                            clear hy240
                                            by_cases c90 : y240.length + y236.length < 2513169434916
                                            · rw [if_pos c90] at H
                                              have LMc90 := Aside0.mk c90
                                              clear c90
                                              obtain ⟨y243, hy243⟩ : ∃ y_ : List (S30), y_ = (y240 ++ y236) := ⟨_, rfl⟩
                                              replace H : ((page_Sent.f k4 a0_0 y236 a0_2 x4_4).bind fun t246 => ((some (([] : List (S32)) : List (S32))).bind fun y249 => (if y249.length + x4_4.length < 4398046511104 then ((page_Sent.f k4 a0_0 y243 a0_2 (y249 ++ x4_4)).bind fun t255 => ((usherref0_SamePairs.f k4 t246 t255).bind fun t258 => (if x15_54 = true then (if t229 = true then (if t234 = true then (if t235 = true then (some t258) else (some false)) else (some false)) else (some false)) else (some false)))) else (none)))) = some r := by first | (rw [hy243]; with_reducible exact H) | (have H2_ := (Option.bind_some _ _).symm.trans H; rw [hy243]; with_reducible exact H2_) | (have H2_ := (Option.bind_some _ _).symm.trans H; with_reducible exact H2_) | with_reducible exact H | (rw [hy243]; exact H) | exact H
                                              have Ny243 := Aside0.mk hy243
                                              clear hy243
                                              replace H := Option.bind_eq_some_iff.mp H
                                              obtain ⟨t246, A910, H⟩ := H
                                              replace H : ((some (([] : List (S32)) : List (S32))).bind fun y249 => (if y249.length + x4_4.length < 4398046511104 then ((page_Sent.f k4 a0_0 y243 a0_2 (y249 ++ x4_4)).bind fun t255 => ((usherref0_SamePairs.f k4 t246 t255).bind fun t258 => (if x15_54 = true then (if t229 = true then (if t234 = true then (if t235 = true then (some t258) else (some false)) else (some false)) else (some false)) else (some false)))) else (none))) = some r := H
                                              have A91 := Aside0.mk A910
                                              clear A910
                                              obtain ⟨y249, hy249⟩ : ∃ y_ : List (S32), y_ = (([] : List (S32))) := ⟨_, rfl⟩
                                              replace H : (if y249.length + x4_4.length < 4398046511104 then ((page_Sent.f k4 a0_0 y243 a0_2 (y249 ++ x4_4)).bind fun t255 => ((usherref0_SamePairs.f k4 t246 t255).bind fun t258 => (if x15_54 = true then (if t229 = true then (if t234 = true then (if t235 = true then (some t258) else (some false)) else (some false)) else (some false)) else (some false)))) else (none)) = some r := by first | (rw [hy249]; with_reducible exact H) | (have H2_ := (Option.bind_some _ _).symm.trans H; rw [hy249]; with_reducible exact H2_) | (have H2_ := (Option.bind_some _ _).symm.trans H; with_reducible exact H2_) | with_reducible exact H | (rw [hy249]; exact H) | exact H
                                              have Ny249 := Aside0.mk hy249
                                              clear hy249
                                              by_cases c92 : y249.length + x4_4.length < 4398046511104
                                              · rw [if_pos c92] at H
                                                have LMc92 := Aside0.mk c92
                                                clear c92
                                                obtain ⟨y252, hy252⟩ : ∃ y_ : List (S32), y_ = (y249 ++ x4_4) := ⟨_, rfl⟩
                                                replace H : ((page_Sent.f k4 a0_0 y243 a0_2 y252).bind fun t255 => ((usherref0_SamePairs.f k4 t246 t255).bind fun t258 => (if x15_54 = true then (if t229 = true then (if t234 = true then (if t235 = true then (some t258) else (some false)) else (some false)) else (some false)) else (some false)))) = some r := by first | (rw [hy252]; with_reducible exact H) | (have H2_ := (Option.bind_some _ _).symm.trans H; rw [hy252]; with_reducible exact H2_) | (have H2_ := (Option.bind_some _ _).symm.trans H; with_reducible exact H2_) | with_reducible exact H | (rw [hy252]; exact H) | exact H
                                                have Ny252 := Aside0.mk hy252
                                                clear hy252
                                                replace H := Option.bind_eq_some_iff.mp H
                                                obtain ⟨t255, A930, H⟩ := H
                                                replace H : ((usherref0_SamePairs.f k4 t246 t255).bind fun t258 => (if x15_54 = true then (if t229 = true then (if t234 = true then (if t235 = true then (some t258) else (some false)) else (some false)) else (some false)) else (some false))) = some r := H
                                                have A93 := Aside0.mk A930
                                                clear A930
                                                replace H := Option.bind_eq_some_iff.mp H
                                                obtain ⟨t258, A940, H⟩ := H
                                                replace H : (if x15_54 = true then (if t229 = true then (if t234 = true then (if t235 = true then (some t258) else (some false)) else (some false)) else (some false)) else (some false)) = some r := H
                                                have A94 := Aside0.mk A940
                                                clear A940
                                                have HL_ := Aside0.mk H
                                                clear H
                                                have hnb99 := NB188_187.out
                                                have hnc99 := NB187_188.out
                                                have hcz100_0 : wr.cell? ⟨gb188, 0, none⟩ = some (.string a0_0) := (blk_cell BK188.out 0).trans rfl
                                                have hcz100_1 : wr.cell? ⟨gb188, 1, none⟩ = some (.slice (some ⟨go72, 0, none⟩) y236.length co20) := (blk_cell BK188.out 1).trans rfl
                                                have hcz100_2 : wr.cell? ⟨gb188, 2, none⟩ = some (.string a0_2) := (blk_cell BK188.out 2).trans rfl
                                                have hfz100_0 := blk_frozen BK188.out 0
                                                have hfz100_1 := blk_frozen BK188.out 1
                                                have hfz100_2 := blk_frozen BK188.out 2
                                                try go_wp2_with (first | ((with_reducible refine gate_dst (N := 20) rfl ?_); (try (refine gate_guard (by rfl) ?_; dsimp only)); refine box_event ?hg (N := 20) ?hd (cs := #[.string (⟨#[]⟩ : ByteArray), .slice none 0 0, .string (⟨#[]⟩ : ByteArray)]) (t := 24) ?hr ?_; (case hd => rfl); (case hg => rfl); (case hr => first | (go_simp; done) | (go_simp; rfl)); intro gb239 hg w101 hbox hb; have n0_ := Aside0.mk (Kd.R_below (by (with_reducible repeat (first | apply Kd.R_alloc | apply Kd.R_drewN | apply Kd.R_drew)); exact HO_4.out) hb); have n1_ := Aside0.mk (Kd.R_below (by (with_reducible repeat (first | apply Kd.R_alloc | apply Kd.R_drewN | apply Kd.R_drew)); exact HO_189001.out) hb); have n2_ := Aside0.mk (blk_below (g := gb187) (o := .cells #[.string a0_0, .slice A0_1 l0_1.length c0_1, .string a0_2, .slice A0_3 l0_3.length c0_3] 27 (0, 0)) (by (with_reducible repeat (first | refine blk_drewN ?_ _ | refine blk_drew ?_ | refine blk_alloc ?_ _)); exact BK187.out) hb); have n3_ := Aside0.mk (blk_below (g := gb188) (o := .cells #[.string a0_0, .slice (some ⟨go72, 0, none⟩) y236.length co20, .string a0_2] 24 (0, 0)) (by (with_reducible repeat (first | refine blk_drewN ?_ _ | refine blk_drew ?_ | refine blk_alloc ?_ _)); exact BK188.out) hb); have n4_ := Aside0.mk (below_step (by repeat (first | (with_reducible first | exact HB.out | apply below_alloc | apply pw_below_drewN | apply below_drew1 | refine below_set ?_ GE187.out | refine below_set ?_ GE188.out) | exact HB.out)) hb); have n5_ := Aside0.mk (hbox); have n6_ := Aside0.mk ((by rw [hg]; exact (below_size (by repeat (first | (with_reducible first | exact HB.out | apply below_alloc | apply pw_below_drewN | apply below_drew1 | refine below_set ?_ GE187.out | refine below_set ?_ GE188.out) | exact HB.out))) : w.heap.size ≤ gb239)); have n7_ := Aside0.mk ((by rw [hg]; exact (below_size (by repeat (first | (with_reducible first | exact HB.out | apply below_alloc | apply pw_below_drewN | apply below_drew1 | refine below_set ?_ GE187.out | refine below_set ?_ GE188.out) | exact HB.out))) : w.heap.size ≤ gb239)); have n8_ := Aside0.mk ((by rw [hg]; exact Nat.ne_of_lt (blk_lt (g := gb187) (o := .cells #[.string a0_0, .slice A0_1 l0_1.length c0_1, .string a0_2, .slice A0_3 l0_3.length c0_3] 27 (0, 0)) (by (with_reducible repeat (first | refine blk_drewN ?_ _ | refine blk_drew ?_ | refine blk_alloc ?_ _)); exact BK187.out)) : gb187 ≠ gb239)); have n9_ := Aside0.mk ((by rw [hg]; exact Nat.ne_of_gt (blk_lt (g := gb187) (o := .cells #[.string a0_0, .slice A0_1 l0_1.length c0_1, .string a0_2, .slice A0_3 l0_3.length c0_3] 27 (0, 0)) (by (with_reducible repeat (first | refine blk_drewN ?_ _ | refine blk_drew ?_ | refine blk_alloc ?_ _)); exact BK187.out)) : gb239 ≠ gb187)); have n10_ := Aside0.mk ((by rw [hg]; exact Nat.ne_of_lt (blk_lt (g := gb188) (o := .cells #[.string a0_0, .slice (some ⟨go72, 0, none⟩) y236.length co20, .string a0_2] 24 (0, 0)) (by (with_reducible repeat (first | refine blk_drewN ?_ _ | refine blk_drew ?_ | refine blk_alloc ?_ _)); exact BK188.out)) : gb188 ≠ gb239)); have n11_ := Aside0.mk ((by rw [hg]; exact Nat.ne_of_gt (blk_lt (g := gb188) (o := .cells #[.string a0_0, .slice (some ⟨go72, 0, none⟩) y236.length co20, .string a0_2] 24 (0, 0)) (by (with_reducible repeat (first | refine blk_drewN ?_ _ | refine blk_drew ?_ | refine blk_alloc ?_ _)); exact BK188.out)) : gb239 ≠ gb188)); clear HO_4; clear HO_189001; clear BK187; clear BK188; clear HB; have HO_4 := n0_; have HO_189001 := n1_; have BK187 := n2_; have BK188 := n3_; have HB := n4_; have BK239 := n5_; have GW239 := n6_; have GE239 := n7_; have NB187_239 := n8_; have NB239_187 := n9_; have NB188_239 := n10_; have NB239_188 := n11_; clear n0_ n1_ n2_ n3_ n4_ n5_ n6_ n7_ n8_ n9_ n10_ n11_; clear hb hbox hg; have hnb102 := NB239_187.out; have hnc102 := NB187_239.out; have hnb103 := NB239_188.out; have hnc103 := NB188_239.out; have hcz104_0 : w101.cell? ⟨gb239, 0, none⟩ = some (.string (⟨#[]⟩ : ByteArray)) := (blk_cell BK239.out 0).trans rfl; have hcz104_1 : w101.cell? ⟨gb239, 1, none⟩ = some (.slice none 0 0) := (blk_cell BK239.out 1).trans rfl; have hcz104_2 : w101.cell? ⟨gb239, 2, none⟩ = some (.string (⟨#[]⟩ : ByteArray)) := (blk_cell BK239.out 2).trans rfl; have hfz104_0 := blk_frozen BK239.out 0; have hfz104_1 := blk_frozen BK239.out 1; have hfz104_2 := blk_frozen BK239.out 2) | ((with_reducible refine gate_dst (N := 170) rfl ?_); (try (refine gate_guard (by rfl) ?_; dsimp only)); refine Kd.R_lit k30 _ 30 ?hg (N := 170) ?hd (xs := ([] : List (S30))) (inner := []) (ok := fun _ => True) (okp := fun _ => True) ?hr ?hp (fun _ hk => hk) trivial (Below.refl _ _) (Nat.le_refl _) (by simp) ?_; (case hd => rfl); (case hg => rfl); (case hr => first | (go_simp; done) | (go_simp; rfl)); (case hp => exact (Reps.none _ _)); intro v241 w105 ho106 hb hg_ hnew_; clear hg_ hnew_; (first | rw [← Ny240.out] at ho106 | (simp only [Int.reduceToNat] at ho106; rw [← Ny240.out] at ho106)); have n0_ := Aside0.mk (Kd.R_below (by (with_reducible repeat (first | apply Kd.R_alloc | apply Kd.R_drewN | apply Kd.R_drew)); exact (Kd.R_mono (Kd.R_far (p := ⟨gb239, 2, none⟩) (Kd.R_far (p := ⟨gb239, 1, none⟩) (Kd.R_far (p := ⟨gb239, 0, none⟩) (Kd.R_types HO_4.out BK239.out (by decide)) (fun _ hk => hk.2) (.string a0_0)) (fun _ hk => hk.2) (.slice (some ⟨go72, 0, none⟩) y236.length co20)) (fun _ hk => hk.2) (.string a0_2)) (fun _ h_ => h_.1))) hb); have n1_ := Aside0.mk (Kd.R_elder' (by (with_reducible repeat (first | apply Kd.R_alloc | apply Kd.R_drewN | apply Kd.R_drew)); exact (Kd.R_mono (Kd.R_far (p := ⟨gb239, 2, none⟩) (Kd.R_far (p := ⟨gb239, 1, none⟩) (Kd.R_far (p := ⟨gb239, 0, none⟩) (Kd.R_types HO_189001.out BK239.out (by decide)) (fun _ hk => hk.2) (.string a0_0)) (fun _ hk => hk.2) (.slice (some ⟨go72, 0, none⟩) y236.length co20)) (fun _ hk => hk.2) (.string a0_2)) (fun _ h_ => h_.1))) (Kd.R_base ho106) hb); have n2_ := Aside0.mk (Kd.R_lower (Kd.R_new' ho106 (Kd.R_lt (by (with_reducible repeat (first | apply Kd.R_alloc | apply Kd.R_drewN | apply Kd.R_drew)); exact (Kd.R_mono (Kd.R_far (p := ⟨gb239, 2, none⟩) (Kd.R_far (p := ⟨gb239, 1, none⟩) (Kd.R_far (p := ⟨gb239, 0, none⟩) (Kd.R_types HO_189001.out BK239.out (by decide)) (fun _ hk => hk.2) (.string a0_0)) (fun _ hk => hk.2) (.slice (some ⟨go72, 0, none⟩) y236.length co20)) (fun _ hk => hk.2) (.string a0_2)) (fun _ h_ => h_.1))))) (below_size (by repeat (first | (with_reducible first | exact HB.out | apply below_alloc | apply pw_below_drewN | apply below_drew1 | refine below_set ?_ GE187.out | refine below_set ?_ GE188.out | refine below_set ?_ GE239.out) | exact HB.out)))); have n3_ := Aside0.mk (blk_below (g := gb187) (o := .cells #[.string a0_0, .slice A0_1 l0_1.length c0_1, .string a0_2, .slice A0_3 l0_3.length c0_3] 27 (0, 0)) (by (with_reducible repeat (first | refine blk_drewN ?_ _ | refine blk_drew ?_ | refine blk_alloc ?_ _)); refine blk_far ?_ NB187_239.out _; (with_reducible repeat (first | refine blk_drewN ?_ _ | refine blk_drew ?_ | refine blk_alloc ?_ _)); refine blk_far ?_ NB187_239.out _; (with_reducible repeat (first | refine blk_drewN ?_ _ | refine blk_drew ?_ | refine blk_alloc ?_ _)); refine blk_far ?_ NB187_239.out _; (with_reducible repeat (first | refine blk_drewN ?_ _ | refine blk_drew ?_ | refine blk_alloc ?_ _)); exact BK187.out) hb); have n4_ := Aside0.mk (blk_below (g := gb188) (o := .cells #[.string a0_0, .slice (some ⟨go72, 0, none⟩) y236.length co20, .string a0_2] 24 (0, 0)) (by (with_reducible repeat (first | refine blk_drewN ?_ _ | refine blk_drew ?_ | refine blk_alloc ?_ _)); refine blk_far ?_ NB188_239.out _; (with_reducible repeat (first | refine blk_drewN ?_ _ | refine blk_drew ?_ | refine blk_alloc ?_ _)); refine blk_far ?_ NB188_239.out _; (with_reducible repeat (first | refine blk_drewN ?_ _ | refine blk_drew ?_ | refine blk_alloc ?_ _)); refine blk_far ?_ NB188_239.out _; (with_reducible repeat (first | refine blk_drewN ?_ _ | refine blk_drew ?_ | refine blk_alloc ?_ _)); exact BK188.out) hb); have n5_ := Aside0.mk (blk_below (g := gb239) (o := .cells #[.string a0_0, .slice (some ⟨go72, 0, none⟩) y236.length co20, .string a0_2] 24 (0, 0)) (by (with_reducible repeat (first | refine blk_drewN ?_ _ | refine blk_drew ?_ | refine blk_alloc ?_ _)); refine blk_put (cs := #[.string a0_0, .slice (some ⟨go72, 0, none⟩) y236.length co20, .string (⟨#[]⟩ : ByteArray)]) ?_ 2 _ rfl; (with_reducible repeat (first | refine blk_drewN ?_ _ | refine blk_drew ?_ | refine blk_alloc ?_ _)); refine blk_put (cs := #[.string a0_0, .slice none 0 0, .string (⟨#[]⟩ : ByteArray)]) ?_ 1 _ rfl; (with_reducible repeat (first | refine blk_drewN ?_ _ | refine blk_drew ?_ | refine blk_alloc ?_ _)); refine blk_put (cs := #[.string (⟨#[]⟩ : ByteArray), .slice none 0 0, .string (⟨#[]⟩ : ByteArray)]) ?_ 0 _ rfl; (with_reducible repeat (first | refine blk_drewN ?_ _ | refine blk_drew ?_ | refine blk_alloc ?_ _)); exact BK239.out) hb); have n6_ := Aside0.mk (below_step (by repeat (first | (with_reducible first | exact HB.out | apply below_alloc | apply pw_below_drewN | apply below_drew1 | refine below_set ?_ GE187.out | refine below_set ?_ GE188.out | refine below_set ?_ GE239.out) | exact HB.out)) hb); clear HO_4; clear HO_189001; clear BK187; clear BK188; clear BK239; clear HB; have HO_4 := n0_; have HO_189001 := n1_; have HO242 := n2_; have BK187 := n3_; have BK188 := n4_; have BK239 := n5_; have HB := n6_; clear n0_ n1_ n2_ n3_ n4_ n5_ n6_; clear hb ho106; have hcz107_0 : w105.cell? ⟨gb188, 0, none⟩ = some (.string a0_0) := (blk_cell BK188.out 0).trans rfl; have hcz107_1 : w105.cell? ⟨gb188, 1, none⟩ = some (.slice (some ⟨go72, 0, none⟩) y236.length co20) := (blk_cell BK188.out 1).trans rfl; have hcz107_2 : w105.cell? ⟨gb188, 2, none⟩ = some (.string a0_2) := (blk_cell BK188.out 2).trans rfl; have hfz107_0 := blk_frozen BK188.out 0; have hfz107_1 := blk_frozen BK188.out 1; have hfz107_2 := blk_frozen BK188.out 2) | ((with_reducible refine gate_builtin (b := .append) (xs := #[.tmp 170, .tmp 172]) rfl ?_); (try (refine gate_guard (by rfl) ?_; dsimp only)); at_builtin; refine Kd.R_append_rows k30 (w0 := w) w.heap.size rfl (.tmp 170) (.tmp 172) 22 30 (.agg #[(.int .i64 0), (.string ⟨#[]⟩), (.string ⟨#[]⟩), (.string ⟨#[]⟩)]) 56 rfl Try.underlying22 info30 rfl (by decide) (by omega) v241 y240 y236 _ _ _ (fun k_ => some k_ ≠ (.slice (some ⟨go72, 0, none⟩) y236.length co20 : Value).ownBlock) (fun _ => False) rfl rfl ?aO ?aR (fun _ _ h => h) (fun _ h => h.elim) ?aF ?aB ?aS ?aL ?_; (case aR => repeat (first | exact (Kd.R_reads' HO_189001.out).2.2 | (with_reducible refine Kd.C_alloc ?_ _) | (with_reducible refine Kd.C_drewN ?_ _) | (with_reducible refine Kd.C_drew ?_))); (case aB => exact (by repeat (first | (with_reducible first | exact HB.out | apply below_alloc | apply pw_below_drewN | apply below_drew1 | refine below_set ?_ GE187.out | refine below_set ?_ GE188.out | refine below_set ?_ GE239.out) | exact HB.out))); (case aF => exact (fun k_ hk => Kd.fresh' (Kd.R_lt (by (with_reducible repeat (first | apply Kd.R_alloc | apply Kd.R_drewN | apply Kd.R_drew)); exact HO_189001.out)) k_ hk)); (case aO => exact (by (with_reducible repeat (first | apply Kd.R_alloc | apply Kd.R_drewN | apply Kd.R_drew)); exact Kd.R_mono HO242.out (fun _ hk => hk.2))); (case aS => exact (below_size (by repeat (first | (with_reducible first | exact HB.out | apply below_alloc | apply pw_below_drewN | apply below_drew1 | refine below_set ?_ GE187.out | refine below_set ?_ GE188.out | refine below_set ?_ GE239.out) | exact HB.out)))); (case aL => have := LMc90.out; omega); intro v244 w108 ho hb hg hat; rw [← Ny243.out] at ho; have n0_ := Aside0.mk (Kd.R_over' (by (with_reducible repeat (first | apply Kd.R_alloc | apply Kd.R_drewN | apply Kd.R_drew)); exact HO_4.out) (Kd.R_typed (by (with_reducible repeat (first | apply Kd.R_alloc | apply Kd.R_drewN | apply Kd.R_drew)); exact HO242.out)) (by decide) hg); have n1_ := Aside0.mk (Kd.R_after (ok := (fun _ => True)) (by (with_reducible repeat (first | apply Kd.R_alloc | apply Kd.R_drewN | apply Kd.R_drew)); exact HO_189001.out) hg hat); have n2_ := Aside0.mk (blk_grown (g := gb187) (o := .cells #[.string a0_0, .slice A0_1 l0_1.length c0_1, .string a0_2, .slice A0_3 l0_3.length c0_3] 27 (0, 0)) (by (with_reducible repeat (first | refine blk_drewN ?_ _ | refine blk_drew ?_ | refine blk_alloc ?_ _)); exact BK187.out) hg (Kd.R_ne HO242.out BK187.out (by decide))); have n3_ := Aside0.mk (blk_grown (g := gb188) (o := .cells #[.string a0_0, .slice (some ⟨go72, 0, none⟩) y236.length co20, .string a0_2] 24 (0, 0)) (by (with_reducible repeat (first | refine blk_drewN ?_ _ | refine blk_drew ?_ | refine blk_alloc ?_ _)); exact BK188.out) hg (Kd.R_ne HO242.out BK188.out (by decide))); have n4_ := Aside0.mk (blk_grown (g := gb239) (o := .cells #[.string a0_0, .slice (some ⟨go72, 0, none⟩) y236.length co20, .string a0_2] 24 (0, 0)) (by (with_reducible repeat (first | refine blk_drewN ?_ _ | refine blk_drew ?_ | refine blk_alloc ?_ _)); exact BK239.out) hg (Kd.R_ne HO242.out BK239.out (by decide))); have n5_ := Aside0.mk (hb); have n6_ := Aside0.mk (ho); clear HO_4; clear HO_189001; clear BK187; clear BK188; clear BK239; clear HB; clear HO242; have HO_4 := n0_; have HO_189001 := n1_; have BK187 := n2_; have BK188 := n3_; have BK239 := n4_; have HB := n5_; have HO245 := n6_; clear n0_ n1_ n2_ n3_ n4_ n5_ n6_; clear ho hb hg hat; obtain ⟨Ao109, co109, eo109⟩ := Kd.R_slice HO245.out; subst eo109; have hcz110_0 : w108.cell? ⟨gb239, 0, none⟩ = some (.string a0_0) := (blk_cell BK239.out 0).trans rfl; have hcz110_1 : w108.cell? ⟨gb239, 1, none⟩ = some (.slice (some ⟨go72, 0, none⟩) y236.length co20) := (blk_cell BK239.out 1).trans rfl; have hcz110_2 : w108.cell? ⟨gb239, 2, none⟩ = some (.string a0_2) := (blk_cell BK239.out 2).trans rfl; have hfz110_0 := blk_frozen BK239.out 0; have hfz110_1 := blk_frozen BK239.out 1; have hfz110_2 := blk_frozen BK239.out 2))
                                                have n0_ : Aside0 (Kd.R k32 32 (w108.setCell ⟨gb239, 1, none⟩ (.slice Ao109 y243.length co109)) w.heap.size (fun _ => True) (.slice Ao25 x4_4.length co25) x4_4) := ⟨by (with_reducible repeat (first | apply Kd.R_alloc | apply Kd.R_drewN | apply Kd.R_drew)); exact Kd.R_mono (Kd.R_far (p := ⟨gb239, 1, none⟩) (Kd.R_types HO_4.out BK239.out (by decide)) (fun _ hk => hk.2) (.slice Ao109 y243.length co109)) (fun _ hk => trivial)⟩
                                                have n1_ : Aside0 (Kd.R k30 30 (w108.setCell ⟨gb239, 1, none⟩ (.slice Ao109 y243.length co109)) w.heap.size (fun k_ => some k_ ≠ (.slice Ao109 y243.length co109 : Value).ownBlock) (.slice (some ⟨go72, 0, none⟩) y236.length co20) y236) := ⟨by (with_reducible repeat (first | apply Kd.R_alloc | apply Kd.R_drewN | apply Kd.R_drew)); exact Kd.R_mono (Kd.R_far (p := ⟨gb239, 1, none⟩) (Kd.R_types HO_189001.out BK239.out (by decide)) (fun _ hk => hk.2) (.slice Ao109 y243.length co109)) (fun _ hk => hk.1.2)⟩
                                                have n2_ : Aside0 (Kd.R k30 30 (w108.setCell ⟨gb239, 1, none⟩ (.slice Ao109 y243.length co109)) w.heap.size (fun k_ => some k_ ≠ (.slice (some ⟨go72, 0, none⟩) y236.length co20 : Value).ownBlock) (.slice Ao109 y243.length co109) y243) := ⟨by (with_reducible repeat (first | apply Kd.R_alloc | apply Kd.R_drewN | apply Kd.R_drew)); exact Kd.R_mono (Kd.R_far (p := ⟨gb239, 1, none⟩) (Kd.R_types HO245.out BK239.out (by decide)) (fun _ hk => hk.2) (.slice Ao109 y243.length co109)) (fun _ hk => hk.1)⟩
                                                have n3_ : Aside0 ((w108.setCell ⟨gb239, 1, none⟩ (.slice Ao109 y243.length co109)).heap[gb187]? = some (.cells #[.string a0_0, .slice A0_1 l0_1.length c0_1, .string a0_2, .slice A0_3 l0_3.length c0_3] 27 (0, 0))) := ⟨by (with_reducible repeat (first | refine blk_drewN ?_ _ | refine blk_drew ?_ | refine blk_alloc ?_ _)); refine blk_far ?_ NB187_239.out _; (with_reducible repeat (first | refine blk_drewN ?_ _ | refine blk_drew ?_ | refine blk_alloc ?_ _)); exact BK187.out⟩
                                                have n4_ : Aside0 ((w108.setCell ⟨gb239, 1, none⟩ (.slice Ao109 y243.length co109)).heap[gb188]? = some (.cells #[.string a0_0, .slice (some ⟨go72, 0, none⟩) y236.length co20, .string a0_2] 24 (0, 0))) := ⟨by (with_reducible repeat (first | refine blk_drewN ?_ _ | refine blk_drew ?_ | refine blk_alloc ?_ _)); refine blk_far ?_ NB188_239.out _; (with_reducible repeat (first | refine blk_drewN ?_ _ | refine blk_drew ?_ | refine blk_alloc ?_ _)); exact BK188.out⟩
                                                have n5_ : Aside0 ((w108.setCell ⟨gb239, 1, none⟩ (.slice Ao109 y243.length co109)).heap[gb239]? = some (.cells #[.string a0_0, .slice Ao109 y243.length co109, .string a0_2] 24 (0, 0))) := ⟨by (with_reducible repeat (first | refine blk_drewN ?_ _ | refine blk_drew ?_ | refine blk_alloc ?_ _)); refine blk_put (cs := #[.string a0_0, .slice (some ⟨go72, 0, none⟩) y236.length co20, .string a0_2]) ?_ 1 _ rfl; (with_reducible repeat (first | refine blk_drewN ?_ _ | refine blk_drew ?_ | refine blk_alloc ?_ _)); exact BK239.out⟩
                                                have n6_ : Aside0 (Below w.heap.size w (w108.setCell ⟨gb239, 1, none⟩ (.slice Ao109 y243.length co109))) := ⟨by repeat (first | (with_reducible first | exact HB.out | apply below_alloc | apply pw_below_drewN | apply below_drew1 | refine below_set ?_ GE187.out | refine below_set ?_ GE188.out | refine below_set ?_ GE239.out) | exact HB.out)⟩
                                                (try clear HO_4)
                                                (try clear HO_189001)
                                                (try clear HO245)
                                                (try clear BK187)
                                                (try clear BK188)
                                                (try clear BK239)
                                                (try clear HB)
                                                generalize (w108.setCell ⟨gb239, 1, none⟩ (.slice Ao109 y243.length co109)) = w111 at n0_ n1_ n2_ n3_ n4_ n5_ n6_ ⊢
                                                have HO_4 := n0_
                                                have HO_189001 := n1_
                                                have HO245 := n2_
                                                have BK187 := n3_
                                                have BK188 := n4_
                                                have BK239 := n5_
                                                have HB := n6_
                                                clear n0_ n1_ n2_ n3_ n4_ n5_ n6_
                                                have n0_ := Aside0.mk (Kd.R_drew HO_4.out)
                                                have n1_ := Aside0.mk (Kd.R_drew HO_189001.out)
                                                have n2_ := Aside0.mk (Kd.R_drew HO245.out)
                                                have n3_ := Aside0.mk (blk_drew BK187.out)
                                                have n4_ := Aside0.mk (blk_drew BK188.out)
                                                have n5_ := Aside0.mk (blk_drew BK239.out)
                                                have n6_ := Aside0.mk (below_drew1 HB.out)
                                                clear HO_4
                                                clear HO_189001
                                                clear HO245
                                                clear BK187
                                                clear BK188
                                                clear BK239
                                                clear HB
                                                have HO_4 := n0_
                                                have HO_189001 := n1_
                                                have HO245 := n2_
                                                have BK187 := n3_
                                                have BK188 := n4_
                                                have BK239 := n5_
                                                have HB := n6_
                                                clear n0_ n1_ n2_ n3_ n4_ n5_ n6_
                                                refine start_ (n := 10) (S := fun w' => w'.cell? ⟨gb188, 0, none⟩ = some (.string a0_0) ∧ w'.cell? ⟨gb188, 1, none⟩ = some (.slice (some ⟨go72, 0, none⟩) y236.length co20) ∧ w'.cell? ⟨gb188, 2, none⟩ = some (.string a0_2) ∧ w'.cell? ⟨gb239, 0, none⟩ = some (.string a0_0) ∧ w'.cell? ⟨gb239, 1, none⟩ = some (.slice Ao109 y243.length co109) ∧ w'.cell? ⟨gb239, 2, none⟩ = some (.string a0_2)) (ds := []) #[false, false, false, false, false, false, false, false, false, false] (by kernel_rfl) rfl rfl ⟨(blk_cell BK188.out 0).trans rfl, (blk_cell BK188.out 1).trans rfl, (blk_cell BK188.out 2).trans rfl, (blk_cell BK239.out 0).trans rfl, (blk_cell BK239.out 1).trans rfl, (blk_cell BK239.out 2).trans rfl⟩ (fun hHeld => ?_); refine with_tabW usherlaw5_PageSentMemory.tab36 usherlaw5_PageSentMemory.bits36 (fun HT_ HW_ => ?_)
                                                generalize w111.drew = w112 at HO_4 HO_189001 HO245 BK187 BK188 BK239 HB hHeld ⊢
                                                refine pure_ (i := 1) (N := some 176) (v := ?_) (a' := ?_) #[false, true, false, false, false, false, false, false, false, false] rfl rfl (any_of HT_.out (by kernel_rfl)) (fun _ _ _ h => h) (Or.inl ⟨by rfl, ?_⟩) ?_ ?_
                                                rotate_left
                                                · intro w'
                                                  go_simp
                                                  with_reducible rfl
                                                rotate_left
                                                · simp only [Act.put, List.setIfInBounds_toArray, List.set_cons_zero, List.set_cons_succ, i64_w, i32_w]
                                                  rfl
                                                refine pure_ (i := 5) (N := some 180) (v := ?_) (a' := ?_) #[false, true, false, false, false, true, false, false, false, false] rfl rfl (any_of HT_.out (by kernel_rfl)) (fun _ _ _ h => h) (Or.inl ⟨by rfl, ?_⟩) ?_ ?_
                                                rotate_left
                                                · intro w'
                                                  go_simp
                                                  with_reducible rfl
                                                rotate_left
                                                · simp only [Act.put, List.setIfInBounds_toArray, List.set_cons_zero, List.set_cons_succ, i64_w, i32_w]
                                                  rfl
                                                refine take_ (i := 0) (N := some 175) (v := ?_) (a' := ?_) #[true, true, false, false, false, true, false, false, false, false] rfl rfl (take_ofW HT_.out HW_.out (by kernel_rfl)) (fun _ _ _ h => h) (Or.inl ⟨by rfl, ?_⟩) hHeld ?_ ?_
                                                rotate_left
                                                · rintro w' ⟨s0, s1, s2, s3, s4, s5⟩
                                                  go_simp
                                                  with_reducible rfl
                                                rotate_left
                                                · simp only [Act.put, List.setIfInBounds_toArray, List.set_cons_zero, List.set_cons_succ, i64_w, i32_w]
                                                  rfl
                                                refine take_ (i := 3) (N := some 178) (v := ?_) (a' := ?_) #[true, true, false, true, false, true, false, false, false, false] rfl rfl (take_ofW HT_.out HW_.out (by kernel_rfl)) (fun _ _ _ h => h) (Or.inl ⟨by rfl, ?_⟩) hHeld ?_ ?_
                                                rotate_left
                                                · rintro w' ⟨s0, s1, s2, s3, s4, s5⟩
                                                  go_simp
                                                  with_reducible rfl
                                                rotate_left
                                                · simp only [Act.put, List.setIfInBounds_toArray, List.set_cons_zero, List.set_cons_succ, i64_w, i32_w]
                                                  rfl
                                                refine join_ (σ := Value × Value) 4 #[true, true, true, true, true, true, false, false, false, false] (fun s_ => [(177, s_.1), (179, s_.2)]) (fun s_ w' => (w'.cell? ⟨gb188, 0, none⟩ = some (.string a0_0) ∧ w'.cell? ⟨gb188, 1, none⟩ = some (.slice (some ⟨go72, 0, none⟩) y236.length co20) ∧ w'.cell? ⟨gb188, 2, none⟩ = some (.string a0_2) ∧ w'.cell? ⟨gb239, 0, none⟩ = some (.string a0_0) ∧ w'.cell? ⟨gb239, 1, none⟩ = some (.slice Ao109 y243.length co109) ∧ w'.cell? ⟨gb239, 2, none⟩ = some (.string a0_2)) ∧ (Kd.R k30 30 w' w.heap.size (fun k_ => some k_ ≠ (.slice (some ⟨go72, 0, none⟩) y236.length co20 : Value).ownBlock) (.slice Ao109 y243.length co109) y243) ∧ (Kd.R k32 32 w' w.heap.size (fun k_ => some k_ ≠ (s_.2 : Value).ownBlock ∧ some k_ ≠ (.slice Ao25 x4_4.length co25 : Value).ownBlock) s_.1 t246) ∧ (Kd.R k32 32 w' w.heap.size (fun k_ => some k_ ≠ (s_.1 : Value).ownBlock ∧ some k_ ≠ (.slice Ao25 x4_4.length co25 : Value).ownBlock) s_.2 y249) ∧ (Kd.R k30 30 w' w.heap.size (fun k_ => some k_ ≠ (.slice Ao109 y243.length co109 : Value).ownBlock) (.slice (some ⟨go72, 0, none⟩) y236.length co20) y236) ∧ (Kd.R k32 32 w' w.heap.size (fun k_ => some k_ ≠ (s_.1 : Value).ownBlock ∧ some k_ ≠ (s_.2 : Value).ownBlock) (.slice Ao25 x4_4.length co25) x4_4) ∧ (w'.heap[gb187]? = some (.cells #[.string a0_0, .slice A0_1 l0_1.length c0_1, .string a0_2, .slice A0_3 l0_3.length c0_3] 27 (0, 0))) ∧ (w'.heap[gb188]? = some (.cells #[.string a0_0, .slice (some ⟨go72, 0, none⟩) y236.length co20, .string a0_2] 24 (0, 0))) ∧ (w'.heap[gb239]? = some (.cells #[.string a0_0, .slice Ao109 y243.length co109, .string a0_2] 24 (0, 0))) ∧ (Below w.heap.size w w')) ?_ ?_
                                                rotate_left
                                                · intro hCont
                                                  refine two_ (i := 2) (j := 4) (Ni := some 177) (Nj := some 179) #[true, true, true, true, false, true, false, false, false, false] #[true, true, false, true, true, true, false, false, false, false] rfl rfl rfl rfl (two_of HT_.out (by kernel_rfl)) (by decide) (by decide) (fun K hK => ?_) (fun K hK => ?_)
                                                  · skip
                                                    refine goes_ Try.func6 (by kernel_rfl) rfl #[.agg #[.string a0_0, .slice (some ⟨go72, 0, none⟩) y236.length co20, .string a0_2], .slice Ao25 x4_4.length co25] (by rfl) rfl rfl (by (try simp only [List.map_toArray, List.map_cons, List.map_nil]); first | done | rfl | (simp only [List.length_drop, List.length_take]; rfl) | (simp only [KY76.out, Int.toNat_natCast]; rfl)) ?_
                                                    with_reducible refine (page_Sent.calls k4 a0_0 _ _ y236 a0_2 _ _ x4_4 t246 _ ?side1 ?side2 ?side3 ?side4 A91.out).mono ?_
                                                    (case side1 => repeat (first | exact (Kd.R_reads' HO_189001.out).2.2 | (with_reducible refine Kd.C_alloc ?_ _) | (with_reducible refine Kd.C_drewN ?_ _) | (with_reducible refine Kd.C_drew ?_)))
                                                    (case side2 => exact (Kd.R_reads' HO_189001.out).2.1)
                                                    (case side3 => repeat (first | exact (Kd.R_reads' HO_4.out).2.2 | (with_reducible refine Kd.C_alloc ?_ _) | (with_reducible refine Kd.C_drewN ?_ _) | (with_reducible refine Kd.C_drew ?_)))
                                                    (case side4 => exact (Kd.R_reads' HO_4.out).2.1)
                                                    rintro e w113 ⟨v247, rfl, ho0, hb⟩
                                                    refine ⟨_, rfl, ?_⟩
                                                    have n0_ := Aside0.mk (Kd.R_elder' (by (with_reducible repeat (first | apply Kd.R_alloc | apply Kd.R_drewN | apply Kd.R_drew)); exact HO_4.out) (Kd.R_base ho0) hb)
                                                    have n1_ := Aside0.mk (Kd.R_below (by (with_reducible repeat (first | apply Kd.R_alloc | apply Kd.R_drewN | apply Kd.R_drew)); exact HO_189001.out) hb)
                                                    have n2_ := Aside0.mk (Kd.R_below (by (with_reducible repeat (first | apply Kd.R_alloc | apply Kd.R_drewN | apply Kd.R_drew)); exact HO245.out) hb)
                                                    have n3_ := Aside0.mk (Kd.R_lower (Kd.R_new' ho0 (Kd.R_lt (by (with_reducible repeat (first | apply Kd.R_alloc | apply Kd.R_drewN | apply Kd.R_drew)); exact HO_4.out))) (below_size (by repeat (first | (with_reducible first | exact HB.out | apply below_alloc | apply pw_below_drewN | apply below_drew1 | refine below_set ?_ GE187.out | refine below_set ?_ GE188.out | refine below_set ?_ GE239.out) | exact HB.out))))
                                                    have n4_ := Aside0.mk (blk_below (g := gb187) (o := .cells #[.string a0_0, .slice A0_1 l0_1.length c0_1, .string a0_2, .slice A0_3 l0_3.length c0_3] 27 (0, 0)) (by (with_reducible repeat (first | refine blk_drewN ?_ _ | refine blk_drew ?_ | refine blk_alloc ?_ _)); exact BK187.out) hb)
                                                    have n5_ := Aside0.mk (blk_below (g := gb188) (o := .cells #[.string a0_0, .slice (some ⟨go72, 0, none⟩) y236.length co20, .string a0_2] 24 (0, 0)) (by (with_reducible repeat (first | refine blk_drewN ?_ _ | refine blk_drew ?_ | refine blk_alloc ?_ _)); exact BK188.out) hb)
                                                    have n6_ := Aside0.mk (blk_below (g := gb239) (o := .cells #[.string a0_0, .slice Ao109 y243.length co109, .string a0_2] 24 (0, 0)) (by (with_reducible repeat (first | refine blk_drewN ?_ _ | refine blk_drew ?_ | refine blk_alloc ?_ _)); exact BK239.out) hb)
                                                    have n7_ := Aside0.mk (below_step (by repeat (first | (with_reducible first | exact HB.out | apply below_alloc | apply pw_below_drewN | apply below_drew1 | refine below_set ?_ GE187.out | refine below_set ?_ GE188.out | refine below_set ?_ GE239.out) | exact HB.out)) hb)
                                                    clear HO_4
                                                    clear HO_189001
                                                    clear HO245
                                                    clear BK187
                                                    clear BK188
                                                    clear BK239
                                                    clear HB
                                                    have HO_4 := n0_
                                                    have HO_189001 := n1_
                                                    have HO245 := n2_
                                                    have HO248 := n3_
                                                    have BK187 := n4_
                                                    have BK188 := n5_
                                                    have BK239 := n6_
                                                    have HB := n7_
                                                    clear n0_ n1_ n2_ n3_ n4_ n5_ n6_ n7_
                                                    (try clear hb)
                                                    (try clear hb2)
                                                    (try clear hk)
                                                    (try clear hi)
                                                    (try clear ho0)
                                                    refine hK.out _ _ ⟨(blk_cell BK188.out 0).trans rfl, (blk_cell BK188.out 1).trans rfl, (blk_cell BK188.out 2).trans rfl, (blk_cell BK239.out 0).trans rfl, (blk_cell BK239.out 1).trans rfl, (blk_cell BK239.out 2).trans rfl⟩ (fun hHeld => ?_)
                                                    clear hK K
                                                    refine norm_ (a' := ?_) ?_ ?_
                                                    rotate_left
                                                    · show Act.put _ (some 177) _ = _
                                                      simp only [Act.put, List.setIfInBounds_toArray, List.set_cons_zero, List.set_cons_succ, i64_w, i32_w]
                                                      rfl
                                                    refine one_ (i := 4) (N := some 179) #[true, true, true, true, true, true, false, false, false, false] rfl rfl (one_of HT_.out (by kernel_rfl)) (by decide) (fun K hK => ?_)
                                                    refine Kd.R_lit_step k32 _ 32 ?hg (N := 179) ?hd (xs := ([] : List (S32))) (inner := []) (ok := fun _ => True) (okp := fun _ => True) ?hr ?hp (fun _ hk => hk) trivial (Below.refl _ _) (Nat.le_refl _) (by simp) ?_; (case hd => rfl); (case hg => rfl); (case hr => first | (go_simp; done) | (go_simp; rfl)); (case hp => exact (Reps.none _ _))
                                                    intro v250 w114 ho115 hb hg_ hnew_
                                                    clear hg_ hnew_
                                                    (first | rw [← Ny249.out] at ho115 | (simp only [Int.reduceToNat] at ho115; rw [← Ny249.out] at ho115))
                                                    have n0_ := Aside0.mk (Kd.R_elder' (by (with_reducible repeat (first | apply Kd.R_alloc | apply Kd.R_drewN | apply Kd.R_drew)); exact HO_4.out) (Kd.R_base ho115) hb)
                                                    have n1_ := Aside0.mk (Kd.R_below (by (with_reducible repeat (first | apply Kd.R_alloc | apply Kd.R_drewN | apply Kd.R_drew)); exact HO_189001.out) hb)
                                                    have n2_ := Aside0.mk (Kd.R_below (by (with_reducible repeat (first | apply Kd.R_alloc | apply Kd.R_drewN | apply Kd.R_drew)); exact HO245.out) hb)
                                                    have n3_ := Aside0.mk (Kd.R_elder' (by (with_reducible repeat (first | apply Kd.R_alloc | apply Kd.R_drewN | apply Kd.R_drew)); exact HO248.out) (Kd.R_base ho115) hb)
                                                    have n4_ := Aside0.mk (Kd.R_lower (Kd.R_new' (Kd.R_new' ho115 (Kd.R_lt (by (with_reducible repeat (first | apply Kd.R_alloc | apply Kd.R_drewN | apply Kd.R_drew)); exact HO_4.out))) (Kd.R_lt (by (with_reducible repeat (first | apply Kd.R_alloc | apply Kd.R_drewN | apply Kd.R_drew)); exact HO248.out))) (below_size (by repeat (first | (with_reducible first | exact HB.out | apply below_alloc | apply pw_below_drewN | apply below_drew1 | refine below_set ?_ GE187.out | refine below_set ?_ GE188.out | refine below_set ?_ GE239.out) | exact HB.out))))
                                                    have n5_ := Aside0.mk (blk_below (g := gb187) (o := .cells #[.string a0_0, .slice A0_1 l0_1.length c0_1, .string a0_2, .slice A0_3 l0_3.length c0_3] 27 (0, 0)) (by (with_reducible repeat (first | refine blk_drewN ?_ _ | refine blk_drew ?_ | refine blk_alloc ?_ _)); exact BK187.out) hb)
                                                    have n6_ := Aside0.mk (blk_below (g := gb188) (o := .cells #[.string a0_0, .slice (some ⟨go72, 0, none⟩) y236.length co20, .string a0_2] 24 (0, 0)) (by (with_reducible repeat (first | refine blk_drewN ?_ _ | refine blk_drew ?_ | refine blk_alloc ?_ _)); exact BK188.out) hb)
                                                    have n7_ := Aside0.mk (blk_below (g := gb239) (o := .cells #[.string a0_0, .slice Ao109 y243.length co109, .string a0_2] 24 (0, 0)) (by (with_reducible repeat (first | refine blk_drewN ?_ _ | refine blk_drew ?_ | refine blk_alloc ?_ _)); exact BK239.out) hb)
                                                    have n8_ := Aside0.mk (below_step (by repeat (first | (with_reducible first | exact HB.out | apply below_alloc | apply pw_below_drewN | apply below_drew1 | refine below_set ?_ GE187.out | refine below_set ?_ GE188.out | refine below_set ?_ GE239.out) | exact HB.out)) hb)
                                                    clear HO_4
                                                    clear HO_189001
                                                    clear HO245
                                                    clear HO248
                                                    clear BK187
                                                    clear BK188
                                                    clear BK239
                                                    clear HB
                                                    have HO_4 := n0_
                                                    have HO_189001 := n1_
                                                    have HO245 := n2_
                                                    have HO248 := n3_
                                                    have HO251 := n4_
                                                    have BK187 := n5_
                                                    have BK188 := n6_
                                                    have BK239 := n7_
                                                    have HB := n8_
                                                    clear n0_ n1_ n2_ n3_ n4_ n5_ n6_ n7_ n8_
                                                    clear hb ho115
                                                    refine hK.out _ _ ⟨(blk_cell BK188.out 0).trans rfl, (blk_cell BK188.out 1).trans rfl, (blk_cell BK188.out 2).trans rfl, (blk_cell BK239.out 0).trans rfl, (blk_cell BK239.out 1).trans rfl, (blk_cell BK239.out 2).trans rfl⟩ (fun hHeld => ?_)
                                                    clear hK K
                                                    refine norm_ (a' := ?_) ?_ ?_
                                                    rotate_left
                                                    · show Act.put _ (some 179) _ = _
                                                      simp only [Act.put, List.setIfInBounds_toArray, List.set_cons_zero, List.set_cons_succ, i64_w, i32_w]
                                                      rfl
                                                    exact norm_ (by simp only [putAll, Act.put, List.setIfInBounds_toArray, List.set_cons_zero, List.set_cons_succ]) (hCont (v247, v250) _ ⟨hHeld, (by (with_reducible repeat (first | apply Kd.R_alloc | apply Kd.R_drewN | apply Kd.R_drew)); exact HO245.out), (by (with_reducible repeat (first | apply Kd.R_alloc | apply Kd.R_drewN | apply Kd.R_drew)); exact Kd.R_mono HO248.out (fun _ hk => ⟨hk.2, hk.1.2⟩)), (by (with_reducible repeat (first | apply Kd.R_alloc | apply Kd.R_drewN | apply Kd.R_drew)); exact Kd.R_mono HO251.out (fun _ hk => ⟨hk.2, hk.1.2⟩)), (by (with_reducible repeat (first | apply Kd.R_alloc | apply Kd.R_drewN | apply Kd.R_drew)); exact HO_189001.out), (by (with_reducible repeat (first | apply Kd.R_alloc | apply Kd.R_drewN | apply Kd.R_drew)); exact Kd.R_mono HO_4.out (fun _ hk => ⟨hk.1.2, hk.2⟩)), (by (with_reducible repeat (first | refine blk_drewN ?_ _ | refine blk_drew ?_ | refine blk_alloc ?_ _)); exact BK187.out), (by (with_reducible repeat (first | refine blk_drewN ?_ _ | refine blk_drew ?_ | refine blk_alloc ?_ _)); exact BK188.out), (by (with_reducible repeat (first | refine blk_drewN ?_ _ | refine blk_drew ?_ | refine blk_alloc ?_ _)); exact BK239.out), (by repeat (first | (with_reducible first | exact HB.out | apply below_alloc | apply pw_below_drewN | apply below_drew1 | refine below_set ?_ GE187.out | refine below_set ?_ GE188.out | refine below_set ?_ GE239.out) | exact HB.out))⟩)
                                                  · skip
                                                    refine Kd.R_lit_step k32 _ 32 ?hg (N := 179) ?hd (xs := ([] : List (S32))) (inner := []) (ok := fun _ => True) (okp := fun _ => True) ?hr ?hp (fun _ hk => hk) trivial (Below.refl _ _) (Nat.le_refl _) (by simp) ?_; (case hd => rfl); (case hg => rfl); (case hr => first | (go_simp; done) | (go_simp; rfl)); (case hp => exact (Reps.none _ _))
                                                    intro v250 w113 ho114 hb hg_ hnew_
                                                    clear hg_ hnew_
                                                    (first | rw [← Ny249.out] at ho114 | (simp only [Int.reduceToNat] at ho114; rw [← Ny249.out] at ho114))
                                                    have n0_ := Aside0.mk (Kd.R_elder' (by (with_reducible repeat (first | apply Kd.R_alloc | apply Kd.R_drewN | apply Kd.R_drew)); exact HO_4.out) (Kd.R_base ho114) hb)
                                                    have n1_ := Aside0.mk (Kd.R_below (by (with_reducible repeat (first | apply Kd.R_alloc | apply Kd.R_drewN | apply Kd.R_drew)); exact HO_189001.out) hb)
                                                    have n2_ := Aside0.mk (Kd.R_below (by (with_reducible repeat (first | apply Kd.R_alloc | apply Kd.R_drewN | apply Kd.R_drew)); exact HO245.out) hb)
                                                    have n3_ := Aside0.mk (Kd.R_lower (Kd.R_new' ho114 (Kd.R_lt (by (with_reducible repeat (first | apply Kd.R_alloc | apply Kd.R_drewN | apply Kd.R_drew)); exact HO_4.out))) (below_size (by repeat (first | (with_reducible first | exact HB.out | apply below_alloc | apply pw_below_drewN | apply below_drew1 | refine below_set ?_ GE187.out | refine below_set ?_ GE188.out | refine below_set ?_ GE239.out) | exact HB.out))))
                                                    have n4_ := Aside0.mk (blk_below (g := gb187) (o := .cells #[.string a0_0, .slice A0_1 l0_1.length c0_1, .string a0_2, .slice A0_3 l0_3.length c0_3] 27 (0, 0)) (by (with_reducible repeat (first | refine blk_drewN ?_ _ | refine blk_drew ?_ | refine blk_alloc ?_ _)); exact BK187.out) hb)
                                                    have n5_ := Aside0.mk (blk_below (g := gb188) (o := .cells #[.string a0_0, .slice (some ⟨go72, 0, none⟩) y236.length co20, .string a0_2] 24 (0, 0)) (by (with_reducible repeat (first | refine blk_drewN ?_ _ | refine blk_drew ?_ | refine blk_alloc ?_ _)); exact BK188.out) hb)
                                                    have n6_ := Aside0.mk (blk_below (g := gb239) (o := .cells #[.string a0_0, .slice Ao109 y243.length co109, .string a0_2] 24 (0, 0)) (by (with_reducible repeat (first | refine blk_drewN ?_ _ | refine blk_drew ?_ | refine blk_alloc ?_ _)); exact BK239.out) hb)
                                                    have n7_ := Aside0.mk (below_step (by repeat (first | (with_reducible first | exact HB.out | apply below_alloc | apply pw_below_drewN | apply below_drew1 | refine below_set ?_ GE187.out | refine below_set ?_ GE188.out | refine below_set ?_ GE239.out) | exact HB.out)) hb)
                                                    clear HO_4
                                                    clear HO_189001
                                                    clear HO245
                                                    clear BK187
                                                    clear BK188
                                                    clear BK239
                                                    clear HB
                                                    have HO_4 := n0_
                                                    have HO_189001 := n1_
                                                    have HO245 := n2_
                                                    have HO251 := n3_
                                                    have BK187 := n4_
                                                    have BK188 := n5_
                                                    have BK239 := n6_
                                                    have HB := n7_
                                                    clear n0_ n1_ n2_ n3_ n4_ n5_ n6_ n7_
                                                    clear hb ho114
                                                    refine hK.out _ _ ⟨(blk_cell BK188.out 0).trans rfl, (blk_cell BK188.out 1).trans rfl, (blk_cell BK188.out 2).trans rfl, (blk_cell BK239.out 0).trans rfl, (blk_cell BK239.out 1).trans rfl, (blk_cell BK239.out 2).trans rfl⟩ (fun hHeld => ?_)
                                                    clear hK K
                                                    refine norm_ (a' := ?_) ?_ ?_
                                                    rotate_left
                                                    · show Act.put _ (some 179) _ = _
                                                      simp only [Act.put, List.setIfInBounds_toArray, List.set_cons_zero, List.set_cons_succ, i64_w, i32_w]
                                                      rfl
                                                    refine one_ (i := 2) (N := some 177) #[true, true, true, true, true, true, false, false, false, false] rfl rfl (one_of HT_.out (by kernel_rfl)) (by decide) (fun K hK => ?_)
                                                    refine goes_ Try.func6 (by kernel_rfl) rfl #[.agg #[.string a0_0, .slice (some ⟨go72, 0, none⟩) y236.length co20, .string a0_2], .slice Ao25 x4_4.length co25] (by rfl) rfl rfl (by (try simp only [List.map_toArray, List.map_cons, List.map_nil]); first | done | rfl | (simp only [List.length_drop, List.length_take]; rfl) | (simp only [KY76.out, Int.toNat_natCast]; rfl)) ?_
                                                    with_reducible refine (page_Sent.calls k4 a0_0 _ _ y236 a0_2 _ _ x4_4 t246 _ ?side1 ?side2 ?side3 ?side4 A91.out).mono ?_
                                                    (case side1 => repeat (first | exact (Kd.R_reads' HO_189001.out).2.2 | (with_reducible refine Kd.C_alloc ?_ _) | (with_reducible refine Kd.C_drewN ?_ _) | (with_reducible refine Kd.C_drew ?_)))
                                                    (case side2 => exact (Kd.R_reads' HO_189001.out).2.1)
                                                    (case side3 => repeat (first | exact (Kd.R_reads' HO_4.out).2.2 | (with_reducible refine Kd.C_alloc ?_ _) | (with_reducible refine Kd.C_drewN ?_ _) | (with_reducible refine Kd.C_drew ?_)))
                                                    (case side4 => exact (Kd.R_reads' HO_4.out).2.1)
                                                    rintro e w115 ⟨v247, rfl, ho0, hb⟩
                                                    refine ⟨_, rfl, ?_⟩
                                                    have n0_ := Aside0.mk (Kd.R_elder' (by (with_reducible repeat (first | apply Kd.R_alloc | apply Kd.R_drewN | apply Kd.R_drew)); exact HO_4.out) (Kd.R_base ho0) hb)
                                                    have n1_ := Aside0.mk (Kd.R_below (by (with_reducible repeat (first | apply Kd.R_alloc | apply Kd.R_drewN | apply Kd.R_drew)); exact HO_189001.out) hb)
                                                    have n2_ := Aside0.mk (Kd.R_below (by (with_reducible repeat (first | apply Kd.R_alloc | apply Kd.R_drewN | apply Kd.R_drew)); exact HO245.out) hb)
                                                    have n3_ := Aside0.mk (Kd.R_elder' (by (with_reducible repeat (first | apply Kd.R_alloc | apply Kd.R_drewN | apply Kd.R_drew)); exact HO251.out) (Kd.R_base ho0) hb)
                                                    have n4_ := Aside0.mk (Kd.R_lower (Kd.R_new' (Kd.R_new' ho0 (Kd.R_lt (by (with_reducible repeat (first | apply Kd.R_alloc | apply Kd.R_drewN | apply Kd.R_drew)); exact HO_4.out))) (Kd.R_lt (by (with_reducible repeat (first | apply Kd.R_alloc | apply Kd.R_drewN | apply Kd.R_drew)); exact HO251.out))) (below_size (by repeat (first | (with_reducible first | exact HB.out | apply below_alloc | apply pw_below_drewN | apply below_drew1 | refine below_set ?_ GE187.out | refine below_set ?_ GE188.out | refine below_set ?_ GE239.out) | exact HB.out))))
                                                    have n5_ := Aside0.mk (blk_below (g := gb187) (o := .cells #[.string a0_0, .slice A0_1 l0_1.length c0_1, .string a0_2, .slice A0_3 l0_3.length c0_3] 27 (0, 0)) (by (with_reducible repeat (first | refine blk_drewN ?_ _ | refine blk_drew ?_ | refine blk_alloc ?_ _)); exact BK187.out) hb)
                                                    have n6_ := Aside0.mk (blk_below (g := gb188) (o := .cells #[.string a0_0, .slice (some ⟨go72, 0, none⟩) y236.length co20, .string a0_2] 24 (0, 0)) (by (with_reducible repeat (first | refine blk_drewN ?_ _ | refine blk_drew ?_ | refine blk_alloc ?_ _)); exact BK188.out) hb)
                                                    have n7_ := Aside0.mk (blk_below (g := gb239) (o := .cells #[.string a0_0, .slice Ao109 y243.length co109, .string a0_2] 24 (0, 0)) (by (with_reducible repeat (first | refine blk_drewN ?_ _ | refine blk_drew ?_ | refine blk_alloc ?_ _)); exact BK239.out) hb)
                                                    have n8_ := Aside0.mk (below_step (by repeat (first | (with_reducible first | exact HB.out | apply below_alloc | apply pw_below_drewN | apply below_drew1 | refine below_set ?_ GE187.out | refine below_set ?_ GE188.out | refine below_set ?_ GE239.out) | exact HB.out)) hb)
                                                    clear HO_4
                                                    clear HO_189001
                                                    clear HO245
                                                    clear HO251
                                                    clear BK187
                                                    clear BK188
                                                    clear BK239
                                                    clear HB
                                                    have HO_4 := n0_
                                                    have HO_189001 := n1_
                                                    have HO245 := n2_
                                                    have HO251 := n3_
                                                    have HO248 := n4_
                                                    have BK187 := n5_
                                                    have BK188 := n6_
                                                    have BK239 := n7_
                                                    have HB := n8_
                                                    clear n0_ n1_ n2_ n3_ n4_ n5_ n6_ n7_ n8_
                                                    (try clear hb)
                                                    (try clear hb2)
                                                    (try clear hk)
                                                    (try clear hi)
                                                    (try clear ho0)
                                                    refine hK.out _ _ ⟨(blk_cell BK188.out 0).trans rfl, (blk_cell BK188.out 1).trans rfl, (blk_cell BK188.out 2).trans rfl, (blk_cell BK239.out 0).trans rfl, (blk_cell BK239.out 1).trans rfl, (blk_cell BK239.out 2).trans rfl⟩ (fun hHeld => ?_)
                                                    clear hK K
                                                    refine norm_ (a' := ?_) ?_ ?_
                                                    rotate_left
                                                    · show Act.put _ (some 177) _ = _
                                                      simp only [Act.put, List.setIfInBounds_toArray, List.set_cons_zero, List.set_cons_succ, i64_w, i32_w]
                                                      rfl
                                                    exact norm_ (by simp only [putAll, Act.put, List.setIfInBounds_toArray, List.set_cons_zero, List.set_cons_succ]) (hCont (v247, v250) _ ⟨hHeld, (by (with_reducible repeat (first | apply Kd.R_alloc | apply Kd.R_drewN | apply Kd.R_drew)); exact HO245.out), (by (with_reducible repeat (first | apply Kd.R_alloc | apply Kd.R_drewN | apply Kd.R_drew)); exact Kd.R_mono HO248.out (fun _ hk => ⟨hk.2, hk.1.2⟩)), (by (with_reducible repeat (first | apply Kd.R_alloc | apply Kd.R_drewN | apply Kd.R_drew)); exact Kd.R_mono HO251.out (fun _ hk => ⟨hk.2, hk.1.2⟩)), (by (with_reducible repeat (first | apply Kd.R_alloc | apply Kd.R_drewN | apply Kd.R_drew)); exact HO_189001.out), (by (with_reducible repeat (first | apply Kd.R_alloc | apply Kd.R_drewN | apply Kd.R_drew)); exact Kd.R_mono HO_4.out (fun _ hk => ⟨hk.2, hk.1.2⟩)), (by (with_reducible repeat (first | refine blk_drewN ?_ _ | refine blk_drew ?_ | refine blk_alloc ?_ _)); exact BK187.out), (by (with_reducible repeat (first | refine blk_drewN ?_ _ | refine blk_drew ?_ | refine blk_alloc ?_ _)); exact BK188.out), (by (with_reducible repeat (first | refine blk_drewN ?_ _ | refine blk_drew ?_ | refine blk_alloc ?_ _)); exact BK239.out), (by repeat (first | (with_reducible first | exact HB.out | apply below_alloc | apply pw_below_drewN | apply below_drew1 | refine below_set ?_ GE187.out | refine below_set ?_ GE188.out | refine below_set ?_ GE239.out) | exact HB.out))⟩)
                                                rintro ⟨v247, v250⟩ w116 ⟨hS_, h0_, h1_, h2_, h3_, h4_, h5_, h6_, h7_, h8_⟩
                                                have n0_ : Aside0 (Kd.R k30 30 w116 w.heap.size (fun k_ => some k_ ≠ (.slice (some ⟨go72, 0, none⟩) y236.length co20 : Value).ownBlock) (.slice Ao109 y243.length co109) y243) := ⟨h0_⟩
                                                have n1_ : Aside0 (Kd.R k32 32 w116 w.heap.size (fun k_ => some k_ ≠ (v250 : Value).ownBlock ∧ some k_ ≠ (.slice Ao25 x4_4.length co25 : Value).ownBlock) v247 t246) := ⟨h1_⟩
                                                have n2_ : Aside0 (Kd.R k32 32 w116 w.heap.size (fun k_ => some k_ ≠ (v247 : Value).ownBlock ∧ some k_ ≠ (.slice Ao25 x4_4.length co25 : Value).ownBlock) v250 y249) := ⟨h2_⟩
                                                have n3_ : Aside0 (Kd.R k30 30 w116 w.heap.size (fun k_ => some k_ ≠ (.slice Ao109 y243.length co109 : Value).ownBlock) (.slice (some ⟨go72, 0, none⟩) y236.length co20) y236) := ⟨h3_⟩
                                                have n4_ : Aside0 (Kd.R k32 32 w116 w.heap.size (fun k_ => some k_ ≠ (v247 : Value).ownBlock ∧ some k_ ≠ (v250 : Value).ownBlock) (.slice Ao25 x4_4.length co25) x4_4) := ⟨h4_⟩
                                                have n5_ : Aside0 (w116.heap[gb187]? = some (.cells #[.string a0_0, .slice A0_1 l0_1.length c0_1, .string a0_2, .slice A0_3 l0_3.length c0_3] 27 (0, 0))) := ⟨h5_⟩
                                                have n6_ : Aside0 (w116.heap[gb188]? = some (.cells #[.string a0_0, .slice (some ⟨go72, 0, none⟩) y236.length co20, .string a0_2] 24 (0, 0))) := ⟨h6_⟩
                                                have n7_ : Aside0 (w116.heap[gb239]? = some (.cells #[.string a0_0, .slice Ao109 y243.length co109, .string a0_2] 24 (0, 0))) := ⟨h7_⟩
                                                have n8_ : Aside0 (Below w.heap.size w w116) := ⟨h8_⟩
                                                clear HO_4
                                                clear HO_189001
                                                clear HO245
                                                clear BK187
                                                clear BK188
                                                clear BK239
                                                clear HB
                                                clear h0_ h1_ h2_ h3_ h4_ h5_ h6_ h7_ h8_
                                                have HO245 := n0_
                                                have HO248 := n1_
                                                have HO251 := n2_
                                                have HO_189001 := n3_
                                                have HO_4 := n4_
                                                have BK187 := n5_
                                                have BK188 := n6_
                                                have BK239 := n7_
                                                have HB := n8_
                                                clear n0_ n1_ n2_ n3_ n4_ n5_ n6_ n7_ n8_
                                                have hHeld : w116.cell? ⟨gb188, 0, none⟩ = some (.string a0_0) ∧ w116.cell? ⟨gb188, 1, none⟩ = some (.slice (some ⟨go72, 0, none⟩) y236.length co20) ∧ w116.cell? ⟨gb188, 2, none⟩ = some (.string a0_2) ∧ w116.cell? ⟨gb239, 0, none⟩ = some (.string a0_0) ∧ w116.cell? ⟨gb239, 1, none⟩ = some (.slice Ao109 y243.length co109) ∧ w116.cell? ⟨gb239, 2, none⟩ = some (.string a0_2) := hS_
                                                refine norm_ (a' := ?_) ?_ ?_
                                                rotate_left
                                                · simp only [putAll, Act.put, List.setIfInBounds_toArray, List.set_cons_zero, List.set_cons_succ]
                                                  rfl
                                                refine one_ (i := 6) (N := some 181) #[true, true, true, true, true, true, true, false, false, false] rfl rfl (one_of HT_.out (by kernel_rfl)) (by decide) (fun K hK => ?_)
                                                refine Kd.R_append_rows_step k32 (w0 := w) w.heap.size (by rfl) (.tmp 179) (.tmp 180) 25 32 (.agg #[(.string ⟨#[]⟩), (.string ⟨#[]⟩)]) 32 rfl Try.underlying25 info32 rfl (by decide) (by omega) v250 y249 x4_4 _ _ _ (fun k_ => some k_ ≠ (.slice Ao25 x4_4.length co25 : Value).ownBlock ∧ some k_ ≠ (v247 : Value).ownBlock) (fun _ => False) rfl rfl ?aO ?aR (fun _ _ h => h) (fun _ h => h.elim) ?aF ?aB ?aS ?aL ?_
                                                (case aR => repeat (first | exact (Kd.R_reads' HO_4.out).2.2 | (with_reducible refine Kd.C_alloc ?_ _) | (with_reducible refine Kd.C_drewN ?_ _) | (with_reducible refine Kd.C_drew ?_)))
                                                (case aB => exact (by repeat (first | (with_reducible first | exact HB.out | apply below_alloc | apply pw_below_drewN | apply below_drew1 | refine below_set ?_ GE187.out | refine below_set ?_ GE188.out | refine below_set ?_ GE239.out) | exact HB.out)))
                                                (case aF => exact (fun k_ hk => ⟨Kd.fresh' (Kd.R_lt (by (with_reducible repeat (first | apply Kd.R_alloc | apply Kd.R_drewN | apply Kd.R_drew)); exact HO_4.out)) k_ hk, Kd.fresh' (Kd.R_lt (by (with_reducible repeat (first | apply Kd.R_alloc | apply Kd.R_drewN | apply Kd.R_drew)); exact HO248.out)) k_ hk⟩))
                                                (case aO => exact (by (with_reducible repeat (first | apply Kd.R_alloc | apply Kd.R_drewN | apply Kd.R_drew)); exact Kd.R_mono HO251.out (fun _ hk => ⟨hk.2, hk.1⟩)))
                                                (case aS => exact (below_size (by repeat (first | (with_reducible first | exact HB.out | apply below_alloc | apply pw_below_drewN | apply below_drew1 | refine below_set ?_ GE187.out | refine below_set ?_ GE188.out | refine below_set ?_ GE239.out) | exact HB.out))))
                                                (case aL => have := LMc92.out; omega)
                                                intro v253 w117 ho hb hg hat
                                                rw [← Ny252.out] at ho
                                                have n0_ := Aside0.mk (Kd.R_after (ok := (fun k_ => some k_ ≠ (v247 : Value).ownBlock)) (by (with_reducible repeat (first | apply Kd.R_alloc | apply Kd.R_drewN | apply Kd.R_drew)); exact HO_4.out) hg hat)
                                                have n1_ := Aside0.mk (Kd.R_over' (by (with_reducible repeat (first | apply Kd.R_alloc | apply Kd.R_drewN | apply Kd.R_drew)); exact HO_189001.out) (Kd.R_typed (by (with_reducible repeat (first | apply Kd.R_alloc | apply Kd.R_drewN | apply Kd.R_drew)); exact HO251.out)) (by decide) hg)
                                                have n2_ := Aside0.mk (blk_grown (g := gb187) (o := .cells #[.string a0_0, .slice A0_1 l0_1.length c0_1, .string a0_2, .slice A0_3 l0_3.length c0_3] 27 (0, 0)) (by (with_reducible repeat (first | refine blk_drewN ?_ _ | refine blk_drew ?_ | refine blk_alloc ?_ _)); exact BK187.out) hg (Kd.R_ne HO251.out BK187.out (by decide)))
                                                have n3_ := Aside0.mk (blk_grown (g := gb188) (o := .cells #[.string a0_0, .slice (some ⟨go72, 0, none⟩) y236.length co20, .string a0_2] 24 (0, 0)) (by (with_reducible repeat (first | refine blk_drewN ?_ _ | refine blk_drew ?_ | refine blk_alloc ?_ _)); exact BK188.out) hg (Kd.R_ne HO251.out BK188.out (by decide)))
                                                have n4_ := Aside0.mk (blk_grown (g := gb239) (o := .cells #[.string a0_0, .slice Ao109 y243.length co109, .string a0_2] 24 (0, 0)) (by (with_reducible repeat (first | refine blk_drewN ?_ _ | refine blk_drew ?_ | refine blk_alloc ?_ _)); exact BK239.out) hg (Kd.R_ne HO251.out BK239.out (by decide)))
                                                have n5_ := Aside0.mk (Kd.R_over' (by (with_reducible repeat (first | apply Kd.R_alloc | apply Kd.R_drewN | apply Kd.R_drew)); exact HO245.out) (Kd.R_typed (by (with_reducible repeat (first | apply Kd.R_alloc | apply Kd.R_drewN | apply Kd.R_drew)); exact HO251.out)) (by decide) hg)
                                                have n6_ := Aside0.mk (Kd.R_after (ok := (fun k_ => some k_ ≠ (.slice Ao25 x4_4.length co25 : Value).ownBlock)) (by (with_reducible repeat (first | apply Kd.R_alloc | apply Kd.R_drewN | apply Kd.R_drew)); exact Kd.R_mono HO248.out (fun _ hk => ⟨hk.2, hk.1⟩)) hg hat)
                                                have n7_ := Aside0.mk (hb)
                                                have n8_ := Aside0.mk (ho)
                                                clear HO_4
                                                clear HO_189001
                                                clear BK187
                                                clear BK188
                                                clear BK239
                                                clear HO245
                                                clear HO248
                                                clear HB
                                                clear HO251
                                                have HO_4 := n0_
                                                have HO_189001 := n1_
                                                have BK187 := n2_
                                                have BK188 := n3_
                                                have BK239 := n4_
                                                have HO245 := n5_
                                                have HO248 := n6_
                                                have HB := n7_
                                                have HO254 := n8_
                                                clear n0_ n1_ n2_ n3_ n4_ n5_ n6_ n7_ n8_
                                                clear ho hb hg hat
                                                obtain ⟨Ao118, co118, eo118⟩ := Kd.R_slice HO254.out
                                                (first | subst eo118 | (injection eo118 with f1_ f2_ f3_; have f4_ := f1_.symm; have f5_ := f3_.symm; clear f1_ f2_ f3_; subst f4_; subst f5_))
                                                refine hK.out _ _ ⟨(blk_cell BK188.out 0).trans rfl, (blk_cell BK188.out 1).trans rfl, (blk_cell BK188.out 2).trans rfl, (blk_cell BK239.out 0).trans rfl, (blk_cell BK239.out 1).trans rfl, (blk_cell BK239.out 2).trans rfl⟩ (fun hHeld => ?_)
                                                clear hK K
                                                refine norm_ (a' := ?_) ?_ ?_
                                                rotate_left
                                                · show Act.put _ (some 181) _ = _
                                                  simp only [Act.put, List.setIfInBounds_toArray, List.set_cons_zero, List.set_cons_succ, i64_w, i32_w]
                                                  rfl
                                                refine one_ (i := 7) (N := some 182) #[true, true, true, true, true, true, true, true, false, false] rfl rfl (one_of HT_.out (by kernel_rfl)) (by decide) (fun K hK => ?_)
                                                refine goes_ Try.func6 (by kernel_rfl) rfl #[.agg #[.string a0_0, .slice Ao109 y243.length co109, .string a0_2], .slice Ao118 y252.length co118] (by rfl) rfl rfl (by (try simp only [List.map_toArray, List.map_cons, List.map_nil]); first | done | rfl | (simp only [List.length_drop, List.length_take]; rfl) | (simp only [KY76.out, Int.toNat_natCast]; rfl)) ?_
                                                with_reducible refine (page_Sent.calls k4 a0_0 _ _ y243 a0_2 _ _ y252 t255 _ ?side1 ?side2 ?side3 ?side4 A93.out).mono ?_
                                                (case side1 => repeat (first | exact (Kd.R_reads' HO245.out).2.2 | (with_reducible refine Kd.C_alloc ?_ _) | (with_reducible refine Kd.C_drewN ?_ _) | (with_reducible refine Kd.C_drew ?_)))
                                                (case side2 => exact (Kd.R_reads' HO245.out).2.1)
                                                (case side3 => repeat (first | exact (Kd.R_reads' HO254.out).2.2 | (with_reducible refine Kd.C_alloc ?_ _) | (with_reducible refine Kd.C_drewN ?_ _) | (with_reducible refine Kd.C_drew ?_)))
                                                (case side4 => exact (Kd.R_reads' HO254.out).2.1)
                                                rintro e w119 ⟨v256, rfl, ho0, hb⟩
                                                refine ⟨_, rfl, ?_⟩
                                                have n0_ := Aside0.mk (Kd.R_elder' (by (with_reducible repeat (first | apply Kd.R_alloc | apply Kd.R_drewN | apply Kd.R_drew)); exact HO_4.out) (Kd.R_base ho0) hb)
                                                have n1_ := Aside0.mk (Kd.R_below (by (with_reducible repeat (first | apply Kd.R_alloc | apply Kd.R_drewN | apply Kd.R_drew)); exact HO_189001.out) hb)
                                                have n2_ := Aside0.mk (Kd.R_below (by (with_reducible repeat (first | apply Kd.R_alloc | apply Kd.R_drewN | apply Kd.R_drew)); exact HO245.out) hb)
                                                have n3_ := Aside0.mk (Kd.R_elder' (by (with_reducible repeat (first | apply Kd.R_alloc | apply Kd.R_drewN | apply Kd.R_drew)); exact HO248.out) (Kd.R_base ho0) hb)
                                                have n4_ := Aside0.mk (Kd.R_elder' (by (with_reducible repeat (first | apply Kd.R_alloc | apply Kd.R_drewN | apply Kd.R_drew)); exact HO254.out) (Kd.R_base ho0) hb)
                                                have n5_ := Aside0.mk (Kd.R_lower (Kd.R_new' (Kd.R_new' (Kd.R_new' ho0 (Kd.R_lt (by (with_reducible repeat (first | apply Kd.R_alloc | apply Kd.R_drewN | apply Kd.R_drew)); exact HO_4.out))) (Kd.R_lt (by (with_reducible repeat (first | apply Kd.R_alloc | apply Kd.R_drewN | apply Kd.R_drew)); exact HO248.out))) (Kd.R_lt (by (with_reducible repeat (first | apply Kd.R_alloc | apply Kd.R_drewN | apply Kd.R_drew)); exact HO254.out))) (below_size (by repeat (first | (with_reducible first | exact HB.out | apply below_alloc | apply pw_below_drewN | apply below_drew1 | refine below_set ?_ GE187.out | refine below_set ?_ GE188.out | refine below_set ?_ GE239.out) | exact HB.out))))
                                                have n6_ := Aside0.mk (blk_below (g := gb187) (o := .cells #[.string a0_0, .slice A0_1 l0_1.length c0_1, .string a0_2, .slice A0_3 l0_3.length c0_3] 27 (0, 0)) (by (with_reducible repeat (first | refine blk_drewN ?_ _ | refine blk_drew ?_ | refine blk_alloc ?_ _)); exact BK187.out) hb)
                                                have n7_ := Aside0.mk (blk_below (g := gb188) (o := .cells #[.string a0_0, .slice (some ⟨go72, 0, none⟩) y236.length co20, .string a0_2] 24 (0, 0)) (by (with_reducible repeat (first | refine blk_drewN ?_ _ | refine blk_drew ?_ | refine blk_alloc ?_ _)); exact BK188.out) hb)
                                                have n8_ := Aside0.mk (blk_below (g := gb239) (o := .cells #[.string a0_0, .slice Ao109 y243.length co109, .string a0_2] 24 (0, 0)) (by (with_reducible repeat (first | refine blk_drewN ?_ _ | refine blk_drew ?_ | refine blk_alloc ?_ _)); exact BK239.out) hb)
                                                have n9_ := Aside0.mk (below_step (by repeat (first | (with_reducible first | exact HB.out | apply below_alloc | apply pw_below_drewN | apply below_drew1 | refine below_set ?_ GE187.out | refine below_set ?_ GE188.out | refine below_set ?_ GE239.out) | exact HB.out)) hb)
                                                clear HO_4
                                                clear HO_189001
                                                clear HO245
                                                clear HO248
                                                clear HO254
                                                clear BK187
                                                clear BK188
                                                clear BK239
                                                clear HB
                                                have HO_4 := n0_
                                                have HO_189001 := n1_
                                                have HO245 := n2_
                                                have HO248 := n3_
                                                have HO254 := n4_
                                                have HO257 := n5_
                                                have BK187 := n6_
                                                have BK188 := n7_
                                                have BK239 := n8_
                                                have HB := n9_
                                                clear n0_ n1_ n2_ n3_ n4_ n5_ n6_ n7_ n8_ n9_
                                                (try clear hb)
                                                (try clear hb2)
                                                (try clear hk)
                                                (try clear hi)
                                                (try clear ho0)
                                                obtain ⟨Ao120, co120, eo120⟩ := Kd.R_slice HO248.out
                                                (first | subst eo120 | (injection eo120 with f1_ f2_ f3_; have f4_ := f1_.symm; have f5_ := f3_.symm; clear f1_ f2_ f3_; subst f4_; subst f5_))
                                                obtain ⟨Ao121, co121, eo121⟩ := Kd.R_slice HO257.out
                                                (first | subst eo121 | (injection eo121 with f1_ f2_ f3_; have f4_ := f1_.symm; have f5_ := f3_.symm; clear f1_ f2_ f3_; subst f4_; subst f5_))
                                                refine hK.out _ _ ⟨(blk_cell BK188.out 0).trans rfl, (blk_cell BK188.out 1).trans rfl, (blk_cell BK188.out 2).trans rfl, (blk_cell BK239.out 0).trans rfl, (blk_cell BK239.out 1).trans rfl, (blk_cell BK239.out 2).trans rfl⟩ (fun hHeld => ?_)
                                                clear hK K
                                                refine norm_ (a' := ?_) ?_ ?_
                                                rotate_left
                                                · show Act.put _ (some 182) _ = _
                                                  simp only [Act.put, List.setIfInBounds_toArray, List.set_cons_zero, List.set_cons_succ, i64_w, i32_w]
                                                  rfl
                                                refine one_ (i := 8) (N := some 183) #[true, true, true, true, true, true, true, true, true, false] rfl rfl (one_of HT_.out (by kernel_rfl)) (by decide) (fun K hK => ?_)
                                                refine goes_ Try.func8 (by kernel_rfl) rfl #[.slice Ao120 t246.length co120, .slice Ao121 t255.length co121] (by rfl) rfl rfl (by (try simp only [List.map_toArray, List.map_cons, List.map_nil]); first | done | rfl | (simp only [List.length_drop, List.length_take]; rfl) | (simp only [KY76.out, Int.toNat_natCast]; rfl)) ?_
                                                with_reducible refine (usherref0_SamePairs.calls k4 _ _ t246 _ _ t255 t258 _ ?side1 ?side2 ?side3 ?side4 A94.out).mono ?_
                                                (case side1 => repeat (first | exact (Kd.R_reads' HO248.out).2.2 | (with_reducible refine Kd.C_alloc ?_ _) | (with_reducible refine Kd.C_drewN ?_ _) | (with_reducible refine Kd.C_drew ?_)))
                                                (case side2 => exact (Kd.R_reads' HO248.out).2.1)
                                                (case side3 => repeat (first | exact (Kd.R_reads' HO257.out).2.2 | (with_reducible refine Kd.C_alloc ?_ _) | (with_reducible refine Kd.C_drewN ?_ _) | (with_reducible refine Kd.C_drew ?_)))
                                                (case side4 => exact (Kd.R_reads' HO257.out).2.1)
                                                rintro e w' ⟨rfl, ⟨nd, rfl⟩⟩
                                                refine ⟨_, rfl, ?_⟩
                                                refine hK.out _ _ ⟨(blk_cell BK188.out 0).trans rfl, (blk_cell BK188.out 1).trans rfl, (blk_cell BK188.out 2).trans rfl, (blk_cell BK239.out 0).trans rfl, (blk_cell BK239.out 1).trans rfl, (blk_cell BK239.out 2).trans rfl⟩ (fun hHeld => ?_)
                                                clear hK K
                                                refine norm_ (a' := ?_) ?_ ?_
                                                rotate_left
                                                · show Act.put _ (some 183) _ = _
                                                  simp only [Act.put, List.setIfInBounds_toArray, List.set_cons_zero, List.set_cons_succ, i64_w, i32_w]
                                                  rfl
                                                refine pure_ (i := 9) (N := some 21) (v := ?_) (a' := ?_) #[true, true, true, true, true, true, true, true, true, true] rfl rfl (any_of HT_.out (by kernel_rfl)) (fun _ _ _ h => h) (Or.inl ⟨by rfl, ?_⟩) ?_ ?_
                                                rotate_left
                                                · intro w'
                                                  go_simp
                                                  with_reducible rfl
                                                rotate_left
                                                · simp only [Act.put, List.setIfInBounds_toArray, List.set_cons_zero, List.set_cons_succ, i64_w, i32_w]
                                                  rfl
                                                refine done_ (done_of HT_.out (by kernel_rfl)) ?_
                                                have H := HL_.out
                                                clear HL_
                                                cases x15_54 <;> cases t229 <;> cases t234 <;> cases t235 <;> (
                                                  have H1 := H
                                                  simp only [if_true, if_false, Bool.false_eq_true, reduceIte] at H1
                                                  obtain rfl := Option.some.inj H1
                                                  clear H H1
                                                  try go_wp2
                                                  go_ret
                                                  exact ⟨by first | rfl | (simp [errW_none, errW_some] <;> rfl) | (simp only [← hji69]; first | rfl | (simp [errW_none, errW_some] <;> rfl)) | (simp [*, errW_none, errW_some] <;> rfl), by repeat (first | (with_reducible first | exact HB.out | apply below_alloc | apply pw_below_drewN | apply below_drew1 | refine below_set ?_ GE187.out | refine below_set ?_ GE188.out | refine below_set ?_ GE239.out) | exact HB.out)⟩)
                                              · rw [if_neg c92] at H
                                                exact absurd H (by simp)
                                            · rw [if_neg c90] at H
                                              exact absurd H (by simp)
                                    · rw [if_neg c71] at H
                                      exact absurd H (by simp)
                                  · rw [if_neg c70] at H
                                    exact absurd H (by simp)
                                · rw [if_neg c66] at H
                                  exact absurd H (by simp)
                              · rw [if_neg c65] at H
                                exact absurd H (by simp)
                  · rw [if_neg c42] at H
                    exact absurd H (by simp)
                · rw [if_neg c41] at H
                  exact absurd H (by simp)
        · rw [if_neg c6] at H
          exact absurd H (by simp)
      · rw [if_neg c4] at H
        exact absurd H (by simp)
    · rw [if_neg c3] at H
      exact absurd H (by simp)
  · rw [if_neg c2] at H
    exact absurd H (by simp)

end Go.Proofs.Ytmaedmmcjhmheaa.X

