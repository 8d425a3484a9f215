/- PageSentExact in plain words: what a browser sends is the document's; what is handed in stays. No condition but the statement's reach. -/
import Derived.Test.YtmaedmmcjhmheaaYSent
-- IMPORTS
import Derived.Test.YtmaedmmcjhmheaaXx0
import Derived.Test.YtmaedmmcjhmheaaXx3
import Derived.Test.YtmaedmmcjhmheaaXx6
namespace Go.Proofs.Ytmaedmmcjhmheaa.Y
open Go.RowKit Go.Proofs.YtmaedmmcjhmheaaW.PrintWords Go.Proofs.YtmaedmmcjhmheaaW.PrintLast Go.Proofs.Ytmaedmmcjhmheaa.X
def mi : S30 := ⟨77, ⟨#[]⟩, ⟨#[]⟩, ⟨#[]⟩⟩
def mp : S32 := ⟨⟨#[109, 97, 114, 107]⟩, ⟨#[]⟩⟩
theorem rd_behind {α : Type} (z : α) (l m : List α) (j : Nat) (a : α) (h : m[j]? = some a) : rdOf z (l ++ m) ((l.length : Int) + (j : Int)) = a := by
  show (l ++ m).getD _ _ = a
  rw [show ((l.length : Int) + (j : Int)).toNat = l.length + j by omega, List.getD_eq_getElem?_getD, List.getElem?_append_right (by omega), show l.length + j - l.length = j by omega, h]
  rfl
theorem exact_l1 (l0 : List S30) (l1 : List S32) (h0 : l0.length < 4611686018427387904) (h1 : l1.length < 4611686018427387904) (d : Nat) : ∀ (i : Nat), i + d = 4 →
    Ev (fun k => usherlaw5_PageSentExact.l1 k (l0.length : Int) (l1.length : Int) (l0 ++ [mi, mi, mi, mi]) (l1 ++ [mp, mp, mp, mp]) true true true (i : Int)) true := by
  induction d with
  | zero =>
    intro i hi
    refine Ev.succ ?_
    simp only [usherlaw5_PageSentExact.l1]
    exact Ev.neg (by omega) (Ev.pos trivial (Ev.pos trivial (Ev.pure _)))
  | succ d ih =>
    intro i hi
    have hm : ([mi, mi, mi, mi] : List S30)[i]? = some mi := by
      match i, hi with
      | 0, _ => rfl
      | 1, _ => rfl
      | 2, _ => rfl
      | 3, _ => rfl
      | i + 4, hi => omega
    have hp : ([mp, mp, mp, mp] : List S32)[i]? = some mp := by
      match i, hi with
      | 0, _ => rfl
      | 1, _ => rfl
      | 2, _ => rfl
      | 3, _ => rfl
      | i + 4, hi => omega
    refine Ev.succ ?_
    simp only [usherlaw5_PageSentExact.l1, rd30, rd32]
    rw [wr (x := (l0.length : Int) + (i : Int)) (by omega) (by omega), wr (x := (l1.length : Int) + (i : Int)) (by omega) (by omega), wr (x := (i : Int) + 1) (by omega) (by omega), rd_behind z30 l0 _ i mi hm, rd_behind z32 l1 _ i mp hp]
    have e1 : (mi.f0 == 77) = true := rfl
    have e2 : (mp.f0.toList == ([109, 97, 114, 107] : List UInt8)) = true := by
      rw [toList_data]
      rfl
    rw [e1, e2]
    refine Ev.pos (by omega) (Ev.pos trivial (Ev.pos (by omega) (Ev.pos (by simp; omega) (Ev.pos trivial (Ev.pos (by omega) (Ev.pos (by simp; omega) ?_))))))
    exact ih (i + 1) (by omega)
theorem exact_l0 (a b : ByteArray) (l0 : List S30) (l1 : List S32) (h0 : l0.length < 2513169434912) (h1 : l1.length < 4398046511100) (d : Nat) : ∀ (i : Nat), i + d = 4 →
    Ev (fun k => usherlaw5_PageSentExact.l0 k (l0.length : Int) (l1.length : Int) (l0 ++ List.replicate i mi) (l1 ++ List.replicate i mp) (i : Int) a l0 b l1) true := by
  induction d with
  | zero =>
    intro i hi
    obtain rfl : i = 4 := by omega
    refine Ev.succ ?_
    simp only [usherlaw5_PageSentExact.l0]
    have e0 : (l0 ++ List.replicate 4 mi).take ((l0.length : Int)).toNat = l0 := by simp
    have e1 : (l1 ++ List.replicate 4 mp).take ((l1.length : Int)).toNat = l1 := by simp
    rw [e0, e1]
    refine Ev.neg (by omega) (Ev.pos (by omega) (Ev.pos (by simp; omega) (Ev.pos (by omega) (Ev.pos (by simp; omega) ?_))))
    have hs := sn_length l1 l0
    refine Ev.bind (Sent_is a b l1 l0 (by omega) (by omega)) (Ev.bind (refSent_is a b l1 l0 (by omega) (by omega)) (Ev.bind (samePairs_self _ (by omega)) (Ev.bind (sameInputs_self l0 (by omega)) (Ev.bind (samePairs_self l1 (by omega)) ?_))))
    exact exact_l1 l0 l1 (by omega) (by omega) 4 0 rfl
  | succ d ih =>
    intro i hi
    refine Ev.succ ?_
    simp only [usherlaw5_PageSentExact.l0]
    rw [wr (x := (i : Int) + 1) (by omega) (by omega)]
    refine Ev.pos (by omega) (Ev.pos (by simp; omega) (Ev.pos (by simp; omega) ?_))
    have := ih (i + 1) (by omega)
    rw [List.replicate_succ', List.replicate_succ', ← List.append_assoc, ← List.append_assoc] at this
    exact this
theorem sentExact (a : ByteArray) (l0 : List S30) (b : ByteArray) (l1 : List S32) {F : Prop} (_ : F) {Q0 Q1 Q2 Q3 : Prop} (hS : (Q0 ∧ ((l0.length * 56 ≤ 140737488351232 ∧ Q1) ∧ Q2)) ∧ (l1.length * 32 ≤ 140737488351232 ∧ Q3)) : ∃ k, usherlaw5_PageSentExact.f k a l0 b l1 = some true := by
  have h0 : l0.length < 2513169434912 := by have := hS.1.2.1.1; omega
  have h1 : l1.length < 4398046511100 := by have := hS.2.1; omega
  refine Ev.at_ ?_
  simp only [usherlaw5_PageSentExact.f, usherlaw5_twinInputs.f, List.nil_append, List.length_nil, Nat.zero_add]
  rw [if_pos (by omega)]
  simp only [Option.bind_some]
  refine Ev.pos (by omega) ?_
  have := exact_l0 a b l0 l1 h0 h1 4 0 rfl
  simpa using this
end Go.Proofs.Ytmaedmmcjhmheaa.Y
