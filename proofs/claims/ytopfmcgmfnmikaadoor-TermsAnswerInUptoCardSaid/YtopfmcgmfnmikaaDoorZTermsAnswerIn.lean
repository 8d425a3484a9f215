/- TermsAnswerIn in plain words. Condition: address and pairs of together at most 1048576 bytes. -/
import Derived.Test.YtopfmcgmfnmikaaDoorYAns
-- IMPORTS
import Derived.Test.YtopfmcgmfnmikaaDoorXx0
import Derived.Test.YtopfmcgmfnmikaaDoorXx9
set_option linter.unusedSimpArgs false
set_option linter.unusedVariables false
namespace Go.Proofs.YtopfmcgmfnmikaaDoor.Y
open Go.RowKit Go.Proofs.YtopfmcgmfnmikaaDoorW.PrintWords Go.Proofs.YtopfmcgmfnmikaaDoorW.PrintLast Go.Proofs.YtopfmcgmfnmikaaDoor.X
theorem ans_nil (s : ByteArray) (h : isRed s = true) : ansW s [] = (s, none) := by
  unfold ansW
  rw [if_pos h, if_neg (by decide), if_pos (by decide)]
theorem ansIn (s : ByteArray) (l : List S29) (h : (l.map wgt).sum ≤ 35184372088832) : ∃ k, usherlaw9_TermsAnswerIn.f k s l = some true := by
  refine Ev.at_ ?_
  simp only [usherlaw9_TermsAnswerIn.f]
  have c1 := tans_is (⟨#[104, 116, 116, 112, 115, 58, 47, 47, 97, 47, 99, 98, 63, 120]⟩ : ByteArray) [(⟨(⟨#[99, 111, 100, 101]⟩ : ByteArray), (⟨#[49, 32, 50]⟩ : ByteArray)⟩ : S29)] (by decide)
  have e1 : ansW (⟨#[104, 116, 116, 112, 115, 58, 47, 47, 97, 47, 99, 98, 63, 120]⟩ : ByteArray) [(⟨(⟨#[99, 111, 100, 101]⟩ : ByteArray), (⟨#[49, 32, 50]⟩ : ByteArray)⟩ : S29)] = ((⟨#[104, 116, 116, 112, 115, 58, 47, 47, 97, 47, 99, 98, 63, 120, 38, 99, 111, 100, 101, 61, 49, 43, 50]⟩ : ByteArray), none) := by
    unfold ansW
    rw [if_pos (by decide +kernel), if_neg (by decide), if_neg (by decide)]
    exact congrArg (fun t => (t, none)) (bytesOf_inj (by rw [ansT_bytes]; decide +kernel))
  rw [e1] at c1
  refine Ev.bind c1 (Ev.pos rfl (Ev.succ ?_))
  simp only [usherlaw9_TermsAnswerIn.j0]
  refine Ev.neg (by rw [toList_data]; decide) (Ev.bind (tans_is s l h) ?_)
  unfold ansW
  by_cases hr : isRed s = true
  · rw [if_pos hr]
    by_cases e : (l.length : Int) > 32
    · rw [if_pos e]
      exact Ev.neg (by decide) (Ev.of_eq fun _ => by rw [toList_data]; rfl)
    · rw [if_neg e]
      -- what is answered, t, is a redirect address
      have key : ∀ t : ByteArray, progRed (bytesOf t) = true → Ev (fun k => if (t.size : Int) > 512 then ((terms_Redirect.f k t).bind fun t195 => (some (!t195))) else ((terms_Answer.f k t ([] : List (S29))).bind fun bt196 => ((terms_Redirect.f k t).bind fun t198 => (if t198 = true then (if bt196.2.isNone = true then (some (bt196.1.toList == t.toList)) else (some false)) else (some false))))) true := by
        intro t ht
        refine Ev.ite (fun h5 => ?_) (fun h5 => ?_)
        · refine Ev.bind (red_is t) ?_
          rw [decide_eq_false (by omega)]
          exact Ev.pure _
        · have hred : isRed t = true := by unfold isRed; rw [decide_eq_true (by omega), ht]; rfl
          refine Ev.bind (tans_is t [] (by decide)) (Ev.bind (red_is t) ?_)
          rw [ans_nil t hred]
          exact Ev.pos hred (Ev.pos rfl (Ev.of_eq fun _ => by simp))
      by_cases e2 : (l.length : Int) = 0
      · rw [if_pos e2]
        refine Ev.pos rfl (key s ?_)
        unfold isRed at hr
        simp only [Bool.and_eq_true] at hr
        exact hr.2
      · rw [if_neg e2]
        exact Ev.pos rfl (key (ansT s l) (ansT_red hr).1)
  · rw [if_neg hr]
    exact Ev.neg (by decide) (Ev.of_eq fun _ => by rw [toList_data]; rfl)
theorem ansInU (s : ByteArray) (l : List S29) {F : Prop} (_ : F) (hB : (s.size + 1 + ((l.map (fun p => p.f0.size + 1 + (p.f1.size + 1) + 1)).sum + 1)) + 1 ≤ 1048576) : ∃ k, usherlaw9_TermsAnswerIn.f k s l = some true :=
  ansIn s l (by have := wgt_sum l; omega)
end Go.Proofs.YtopfmcgmfnmikaaDoor.Y
