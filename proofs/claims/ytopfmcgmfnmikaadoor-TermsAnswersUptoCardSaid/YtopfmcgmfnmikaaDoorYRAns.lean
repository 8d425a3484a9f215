/- The document's Answer in plain words: what the program answers. Condition: pairs of together at most 2^44 bytes. -/
import Derived.Test.YtopfmcgmfnmikaaDoorYAns
import Derived.Test.YtopfmcgmfnmikaaDoorYRedR
import Derived.Test.YtopfmcgmfnmikaaDoorYFormR
-- IMPORTS
import Derived.Test.YtopfmcgmfnmikaaDoorXx0
import Derived.Test.YtopfmcgmfnmikaaDoorXx3b
import Derived.Test.YtopfmcgmfnmikaaDoorXx6
import Derived.Test.YtopfmcgmfnmikaaDoorXx7
set_option linter.unusedSimpArgs false
set_option linter.unusedVariables false
namespace Go.Proofs.YtopfmcgmfnmikaaDoor.Y
open Go.RowKit Go.Proofs.YtopfmcgmfnmikaaDoorW.PrintWords Go.Proofs.YtopfmcgmfnmikaaDoorW.PrintLast Go.Proofs.YtopfmcgmfnmikaaDoor.X
theorem rsplit_o (s : ByteArray) (hs : s.size ≤ 1048576) (d : Nat) : ∀ i : Nat, s.size - i = d → i ≤ s.size → (∀ j : Nat, j < i → (bytesOf s)[j]? ≠ some 63) →
    ∃ (a b : ByteArray) (o : Bool), Ev (fun k => usherref9_Split.l0 k s (i : Int)) (a, b, o) ∧ bytesOf a = tw 63 (bytesOf s) ∧ bytesOf b = (dw 63 (bytesOf s)).drop 1 ∧ a.size ≤ s.size ∧ b.size ≤ s.size ∧ (o = true ↔ dw 63 (bytesOf s) ≠ []) := by
  induction d with
  | zero =>
    intro i hd hi hno
    obtain rfl : i = s.size := by omega
    have hno' : ∀ x ∈ bytesOf s, x ≠ 63 := fun x hx e => by
      obtain ⟨j, hj⟩ := List.getElem?_of_mem hx
      have hlt := (List.getElem?_eq_some_iff.1 hj).1
      rw [bytesOf_length] at hlt
      exact hno j hlt (by rw [hj, e])
    obtain ⟨e1, e2⟩ := tw_app (t := []) hno' (.inl rfl)
    rw [List.append_nil] at e1 e2
    refine ⟨s, ⟨#[]⟩, false, ?_, e1.symm, by rw [e2]; rfl, Nat.le_refl _, Nat.zero_le _, by simp [e2]⟩
    refine Ev.succ ?_
    simp only [usherref9_Split.l0]
    exact Ev.neg (by omega) (Ev.pure _)
  | succ d ih =>
    intro i hd hi hno
    have hlt : i < s.size := by omega
    have hget := bt_get s (i := (i : Int)) (by omega) (by omega)
    rw [Int.toNat_natCast] at hget
    by_cases e : bt s (i : Int) = 63
    · have hj := join_at s i hlt e
      have hf : ∀ x ∈ bytesOf (s.extract 0 i), x ≠ 63 := fun x hx ex => by
        rw [bytesOf_extract, List.drop_zero, Nat.sub_zero] at hx
        obtain ⟨j, hj⟩ := List.getElem?_of_mem hx
        have hl2 := (List.getElem?_eq_some_iff.1 hj).1
        rw [List.length_take, bytesOf_length] at hl2
        rw [List.getElem?_take, if_pos (by omega)] at hj
        exact hno j (by omega) (by rw [hj, ex])
      obtain ⟨e1, e2⟩ := tw_app hf (t := 63 :: bytesOf (s.extract (i + 1) s.size)) (.inr ⟨_, rfl⟩)
      rw [← hj] at e1 e2
      refine ⟨s.extract 0 i, s.extract (i + 1) s.size, true, ?_, e1.symm, by rw [e2]; rfl, by rw [ByteArray.size_extract]; omega, by rw [ByteArray.size_extract]; omega, by simp [e2]⟩
      refine Ev.succ ?_
      simp only [usherref9_Split.l0]
      rw [wr (x := (i : Int) + 1) (by omega) (by omega), show ((i : Int) + 1).toNat = i + 1 by omega, Int.toNat_natCast]
      exact Ev.pos (by omega) (Ev.pos (by omega) (Ev.pos e (Ev.pos (by omega) (Ev.pos (by omega) (Ev.pos (by omega) (Ev.pure _))))))
    · obtain ⟨a, b, o, hev, r⟩ := ih (i + 1) (by omega) (by omega) (fun j hj => by
        by_cases hji : j = i
        · rw [hji, hget]; exact fun h => e (Option.some.inj h)
        · exact hno j (by omega))
      refine ⟨a, b, o, ?_, r⟩
      refine Ev.succ ?_
      simp only [usherref9_Split.l0]
      rw [wr (x := (i : Int) + 1) (by omega) (by omega), show (i : Int) + 1 = ((i + 1 : Nat) : Int) by omega]
      exact Ev.pos (by omega) (Ev.pos (by omega) (Ev.neg e hev))
theorem rans_is (s : ByteArray) (l : List S29) (h : (l.map wgt).sum ≤ 17592186044416) : Ev (fun k => usherref9_Answer.f k s l) ((ansW s l).1, (ansW s l).2.getD 0) := by
  have hlen := len_sum l
  have hfl := formI_le l
  simp only [usherref9_Answer.f]
  unfold ansW isRed
  have hrr := rred_is s
  rw [← red_eq] at hrr
  refine Ev.bind hrr (Ev.ite (fun hr => ?_) (fun hr => ?_))
  · rw [if_pos hr]
    simp only [Bool.and_eq_true, decide_eq_true_eq] at hr
    obtain ⟨hs, hp⟩ := hr
    refine Ev.ite (fun e => ?_) (fun e => ?_)
    · rw [if_pos e]; exact Ev.pure _
    · rw [if_neg e]
      refine Ev.ite (fun e2 => ?_) (fun e2 => ?_)
      · rw [if_pos e2]; exact Ev.pure _
      · rw [if_neg e2]
        obtain ⟨a, b, o, hsp, ha, hb, _, _, ho⟩ := rsplit_o s (by omega) s.size 0 (by omega) (by omega) (fun j hj => by omega)
        have hsp' : Ev (fun k => usherref9_Split.f k s) (a, b, o) := by simp only [usherref9_Split.f]; exact hsp
        refine Ev.bind hsp' ?_
        have hf : Ev (fun k => usherref3_Form.f k l) (strOfNums (formI true l)) := refForm_is l h
        have hz : (strOfNums (formI true l)).size ≤ 17592186044416 := by rw [strOfNums_size]; omega
        have z0 : (⟨#[]⟩ : ByteArray).size = 0 := rfl
        have z1 : (⟨#[38]⟩ : ByteArray).size = 1 := rfl
        have z2 : (⟨#[63]⟩ : ByteArray).size = 1 := rfl
        refine Ev.ite (fun e3 => ?_) (fun e3 => ?_)
        · refine Ev.ite (fun e4 => ?_) (fun e4 => ?_)
          · refine Ev.bind hf (Ev.pos (by omega) (Ev.pos (by rw [size_append, z0]; omega) ?_))
            rw [ansT_app s l ⟨#[]⟩]
            · exact Ev.pure _
            · unfold markI
              rw [if_neg (ho.1 e3), ← hb, if_pos ((empty_bytes b).1 e4)]
              rfl
          · refine Ev.bind hf (Ev.pos (by omega) (Ev.pos (by rw [size_append, z1]; omega) ?_))
            rw [ansT_app s l ⟨#[38]⟩]
            · exact Ev.pure _
            · unfold markI
              rw [if_neg (ho.1 e3), ← hb, if_neg (fun h => e4 ((empty_bytes b).2 h))]
              rfl
        · refine Ev.bind hf (Ev.pos (by omega) (Ev.pos (by rw [size_append, z2]; omega) ?_))
          rw [ansT_app s l ⟨#[63]⟩]
          · exact Ev.pure _
          · unfold markI
            rw [if_pos (Classical.byContradiction fun h => e3 (ho.2 h))]
            rfl
  · rw [if_neg hr]; exact Ev.pure _
theorem num_ans (s : ByteArray) (l : List S29) : usherkit_Num.f (ansW s l).2 = some ((ansW s l).2.getD 0) := by
  unfold ansW
  repeat' split
  all_goals simp [usherkit_Num.f]
end Go.Proofs.YtopfmcgmfnmikaaDoor.Y
