/- Answer in plain words. Condition: pairs of together at most 2^45 bytes. -/
import Derived.Test.YtopfmcgmfnmikaaDoorYRedP
import Derived.Test.YtopfmcgmfnmikaaDoorYAnsIn
-- IMPORTS
import Derived.Test.YtopfmcgmfnmikaaDoorXx0
import Derived.Test.YtopfmcgmfnmikaaDoorXx3b
set_option linter.unusedSimpArgs false
namespace Go.Proofs.YtopfmcgmfnmikaaDoor.Y
open Go.RowKit Go.Proofs.YtopfmcgmfnmikaaDoorW.PrintWords Go.Proofs.YtopfmcgmfnmikaaDoorW.PrintLast Go.Proofs.YtopfmcgmfnmikaaDoor.X
def isRed (s : ByteArray) : Bool := decide (s.size ≤ 512) && progRed (bytesOf s)
def ansT (s : ByteArray) (l : List S29) : ByteArray := strOfNums (bytesOf s ++ (markI (bytesOf s) ++ formI true l))
def ansW (s : ByteArray) (l : List S29) : ByteArray × Option Int :=
  if isRed s = true then (if (l.length : Int) > 32 then (⟨#[]⟩, some 3) else if (l.length : Int) = 0 then (s, none) else (ansT s l, none)) else (⟨#[]⟩, some 2)
theorem ansT_bytes (s : ByteArray) (l : List S29) : bytesOf (ansT s l) = bytesOf s ++ (markI (bytesOf s) ++ formI true l) := by
  unfold ansT
  apply bytesOf_strOfNums
  intro c hc
  rcases List.mem_append.1 hc with hc | hc
  · exact bytesOf_range s c hc
  · rcases List.mem_append.1 hc with hc | hc
    · unfold markI at hc
      repeat' split at hc
      all_goals simp only [List.mem_singleton, List.not_mem_nil] at hc
      all_goals omega
    · exact formI_range l true c hc
theorem ansT_app (s : ByteArray) (l : List S29) (m : ByteArray) (h : bytesOf m = markI (bytesOf s)) : (s ++ m) ++ strOfNums (formI true l) = ansT s l := by
  apply bytesOf_inj
  rw [ansT_bytes, bytesOf_append, bytesOf_append, bytesOf_strOfNums (formI_range l true), h, List.append_assoc]
theorem tans_is (s : ByteArray) (l : List S29) (h : (l.map wgt).sum ≤ 35184372088832) : Ev (fun k => terms_Answer.f k s l) (ansW s l) := by
  have hlen := len_sum l
  have hfl := formI_le l
  simp only [terms_Answer.f]
  unfold ansW isRed
  refine Ev.bind (red_is s) (Ev.ite (fun hr => ?_) (fun hr => ?_))
  · rw [if_pos hr]
    simp only [Bool.and_eq_true, decide_eq_true_eq] at hr
    obtain ⟨hs, hp⟩ := hr
    refine Ev.ite (fun e => ?_) (fun e => ?_)
    · rw [if_pos e]; exact Ev.pure _
    · rw [if_neg e]
      refine Ev.ite (fun e2 => ?_) (fun e2 => ?_)
      · rw [if_pos e2]; exact Ev.pure _
      · rw [if_neg e2]
        obtain ⟨a, b, o, hsp, ha, hb, _, _, ho⟩ := tsplit_is s (by omega)
        refine Ev.bind (Ev.of_eq fun _ => hsp) ?_
        have hf : pct_Form.f l = some (strOfNums (formI true l)) := form_is l h (by omega)
        have hz : (strOfNums (formI true l)).size ≤ 35184372088832 := by rw [strOfNums_size]; omega
        have z0 : (⟨#[]⟩ : ByteArray).size = 0 := rfl
        have z1 : (⟨#[38]⟩ : ByteArray).size = 1 := rfl
        have z2 : (⟨#[63]⟩ : ByteArray).size = 1 := rfl
        refine Ev.ite (fun e3 => ?_) (fun e3 => ?_)
        · refine Ev.ite (fun e4 => ?_) (fun e4 => ?_)
          · refine Ev.pos (by omega) (Ev.bind (Ev.of_eq fun _ => hf) (Ev.pos (by rw [size_append, z0]; omega) ?_))
            rw [ansT_app s l ⟨#[]⟩]
            · exact Ev.pure _
            · unfold markI
              rw [if_neg (ho.1 e3), ← hb, if_pos ((empty_bytes b).1 e4)]
              rfl
          · refine Ev.pos (by omega) (Ev.bind (Ev.of_eq fun _ => hf) (Ev.pos (by rw [size_append, z1]; omega) ?_))
            rw [ansT_app s l ⟨#[38]⟩]
            · exact Ev.pure _
            · unfold markI
              rw [if_neg (ho.1 e3), ← hb, if_neg (fun h => e4 ((empty_bytes b).2 h))]
              rfl
        · refine Ev.pos (by omega) (Ev.bind (Ev.of_eq fun _ => hf) (Ev.pos (by rw [size_append, z2]; omega) ?_))
          rw [ansT_app s l ⟨#[63]⟩]
          · exact Ev.pure _
          · unfold markI
            rw [if_pos (Classical.byContradiction fun h => e3 (ho.2 h))]
            rfl
  · rw [if_neg hr]; exact Ev.pure _
theorem ansT_red {s : ByteArray} {l : List S29} (h : isRed s = true) : progRed (bytesOf (ansT s l)) = true ∧ tw 63 (bytesOf (ansT s l)) = tw 63 (bytesOf s) ∧ (dw 63 (bytesOf (ansT s l))).drop 1 = (dw 63 (bytesOf s)).drop 1 ++ ((if (dw 63 (bytesOf s)).drop 1 = [] then [] else [38]) ++ formI true l) := by
  unfold isRed at h
  simp only [Bool.and_eq_true, decide_eq_true_eq] at h
  rw [ansT_bytes, red_eq]
  exact answered (by rw [← red_eq]; exact h.2) (form_ok l true)
end Go.Proofs.YtopfmcgmfnmikaaDoor.Y
