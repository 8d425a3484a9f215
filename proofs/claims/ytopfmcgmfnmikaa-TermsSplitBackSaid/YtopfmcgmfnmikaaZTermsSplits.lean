/- TermsSplits, TermsSplitBack in plain words: both cut at the first question mark. Condition: the text is within the reach. -/
import Derived.Test.YtopfmcgmfnmikaaYFind
-- IMPORTS
import Derived.Test.YtopfmcgmfnmikaaXx5
import Derived.Test.YtopfmcgmfnmikaaXx6
namespace Go.Proofs.Ytopfmcgmfnmikaa.Y
open Go.RowKit Go.Proofs.YtopfmcgmfnmikaaW.PrintWords Go.Proofs.YtopfmcgmfnmikaaW.PrintLast Go.Proofs.Ytopfmcgmfnmikaa.X
theorem ix63 (s : ByteArray) : stringslite_Index.f s ⟨#[63]⟩ = some (Lib.indexByte s.data.toList 63) := rfl
theorem split_some (s : ByteArray) (hs : s.size ≤ 140737488351232) {t : Nat} (h : Lib.indexByte s.data.toList 63 = (t : Int)) (ht : t < s.size) : terms_Split.f s = some (s.extract 0 t, s.extract (t + 1) s.size, true) := by
  simp only [terms_Split.f, strings_Cut.f, stringslite_Cut.f, ix63, h, Option.bind_some]
  have e1 : ((⟨#[63]⟩ : ByteArray).size : Int) = 1 := rfl
  rw [e1, wr (by omega) (by omega), if_pos (by omega), if_pos (by omega), if_pos (by omega), if_pos (by omega), if_pos (by omega)]
  simp only [Option.bind_some, Int.toNat_natCast, show ((t : Int) + 1).toNat = t + 1 by omega]
theorem split_none (s : ByteArray) (h : Lib.indexByte s.data.toList 63 = -1) : terms_Split.f s = some (s, ⟨#[]⟩, false) := by
  simp only [terms_Split.f, strings_Cut.f, stringslite_Cut.f, ix63, h, Option.bind_some]
  rfl
theorem ref_some (s : ByteArray) (hs : s.size ≤ 140737488351232) {t : Nat} (ht : t < s.size) (hb : bt s (t : Int) = 63) (hn : ∀ i : Int, 0 ≤ i → i < t → bt s i ≠ 63) (d : Nat) : ∀ i : Int, 0 ≤ i → (t : Int) - i = d →
    Ev (fun k => usherref9_Split.l0 k s i) (s.extract 0 t, s.extract (t + 1) s.size, true) := by
  induction d with
  | zero =>
    intro i h0 hd
    obtain rfl : i = t := by omega
    refine Ev.succ ?_
    simp only [usherref9_Split.l0]
    rw [wr (by omega) (by omega)]
    refine Ev.pos (by omega) (Ev.pos h0 (Ev.pos hb (Ev.pos (by omega) (Ev.pos (by omega) (Ev.pos (by omega) ?_)))))
    rw [Int.toNat_natCast, show ((t : Int) + 1).toNat = t + 1 by omega]
    exact Ev.pure _
  | succ d ih =>
    intro i h0 hd
    refine Ev.succ ?_
    simp only [usherref9_Split.l0]
    rw [wr (by omega) (by omega)]
    exact Ev.pos (by omega) (Ev.pos h0 (Ev.neg (hn i h0 (by omega)) (ih (i + 1) (by omega) (by omega))))
theorem ref_none (s : ByteArray) (hs : s.size ≤ 140737488351232) (hn : ∀ i : Int, 0 ≤ i → i < s.size → bt s i ≠ 63) (d : Nat) : ∀ i : Int, 0 ≤ i → (s.size : Int) - i = d →
    Ev (fun k => usherref9_Split.l0 k s i) (s, ⟨#[]⟩, false) := by
  induction d with
  | zero =>
    intro i h0 hd
    refine Ev.succ ?_
    simp only [usherref9_Split.l0]
    exact Ev.neg (by omega) (Ev.pure _)
  | succ d ih =>
    intro i h0 hd
    refine Ev.succ ?_
    simp only [usherref9_Split.l0]
    rw [wr (by omega) (by omega)]
    exact Ev.pos (by omega) (Ev.pos h0 (Ev.neg (hn i h0 (by omega)) (ih (i + 1) (by omega) (by omega))))
theorem splits (s : ByteArray) {F : Prop} (_ : F) (hs : s.size ≤ 140737488351232) : ∃ k, usherlaw9_TermsSplits.f k s = some true := by
  refine Ev.at_ ?_
  simp only [usherlaw9_TermsSplits.f]
  rcases index_cases s 63 with ⟨h1, h2⟩ | ⟨t, h1, h2, h3, h4⟩
  · rw [split_none s h1]
    simp only [Option.bind_some]
    have hr : Ev (fun k => usherref9_Split.f k s) (s, (⟨#[]⟩ : ByteArray), false) := ref_none s hs h2 s.size 0 (Int.le_refl _) (by omega)
    exact Ev.bind hr (Ev.pos rfl (Ev.pos rfl (Ev.of_eq fun _ => rfl)))
  · rw [split_some s hs h1 h2]
    simp only [Option.bind_some]
    have hr : Ev (fun k => usherref9_Split.f k s) (s.extract 0 t, s.extract (t + 1) s.size, true) := ref_some s hs h2 h3 h4 t 0 (Int.le_refl _) (by omega)
    exact Ev.bind hr (Ev.pos rfl (Ev.pos rfl (Ev.of_eq fun _ => rfl)))
theorem back_loop (s a b : ByteArray) (ok : Bool) (ha : a.size ≤ 140737488351232) (hb : b.size ≤ 140737488351232) (hn : ∀ i : Int, 0 ≤ i → i < a.size → bt a i ≠ 63)
    (hend : if ok = true then (a ++ ⟨#[63]⟩) ++ b = s else a = s ∧ b = ⟨#[]⟩) (d : Nat) : ∀ i : Int, 0 ≤ i → (a.size : Int) - i = d → Ev (fun k => usherlaw9_TermsSplitBack.l0 k s a b ok i) true := by
  induction d with
  | zero =>
    intro i h0 hd
    refine Ev.succ ?_
    simp only [usherlaw9_TermsSplitBack.l0]
    refine Ev.neg (by omega) (Ev.ite (fun e => ?_) (fun e => ?_))
    · rw [if_pos e] at hend
      have e1 : (a ++ (⟨#[63]⟩ : ByteArray)).size = a.size + 1 := by rw [size_append]; rfl
      rw [hend]
      refine Ev.pos (by omega) (Ev.pos (by omega) ?_)
      simp only [beq_self_eq_true]
      exact Ev.pure _
    · rw [if_neg e] at hend
      rw [hend.1, hend.2]
      exact Ev.pos rfl (Ev.of_eq fun _ => by simp [toList_data])
  | succ d ih =>
    intro i h0 hd
    refine Ev.succ ?_
    simp only [usherlaw9_TermsSplitBack.l0]
    rw [wr (by omega) (by omega)]
    exact Ev.pos (by omega) (Ev.pos h0 (Ev.neg (hn i h0 (by omega)) (ih (i + 1) (by omega) (by omega))))
theorem bt_extract (s : ByteArray) (t : Nat) (ht : t ≤ s.size) (i : Int) (h0 : 0 ≤ i) (h1 : i < t) : bt (s.extract 0 t) i = bt s i := by
  have hz : (s.extract 0 t).size = t := by rw [ByteArray.size_extract]; omega
  have g1 := bt_get (s.extract 0 t) h0 (by omega)
  have g2 := bt_get s h0 (by omega)
  rw [bytesOf_extract, List.drop_zero, Nat.sub_zero, List.getElem?_take, if_pos (by omega), g2] at g1
  exact (Option.some.inj g1).symm
theorem splitBack (s : ByteArray) {F : Prop} (_ : F) (hs : s.size ≤ 140737488351232) : ∃ k, usherlaw9_TermsSplitBack.f k s = some true := by
  refine Ev.at_ ?_
  simp only [usherlaw9_TermsSplitBack.f]
  rcases index_cases s 63 with ⟨h1, h2⟩ | ⟨t, h1, h2, h3, h4⟩
  · rw [split_none s h1]
    simp only [Option.bind_some]
    exact back_loop s s ⟨#[]⟩ false hs (Nat.zero_le _) h2 ⟨rfl, rfl⟩ s.size 0 (Int.le_refl _) (by omega)
  · rw [split_some s hs h1 h2]
    simp only [Option.bind_some]
    have hz : (s.extract 0 t).size = t := by rw [ByteArray.size_extract]; omega
    have hz2 : (s.extract (t + 1) s.size).size = s.size - (t + 1) := by rw [ByteArray.size_extract]; omega
    refine back_loop s (s.extract 0 t) (s.extract (t + 1) s.size) true (by omega) (by omega) (fun i g0 g1 => ?_) ?_ t 0 (Int.le_refl _) (by omega)
    · rw [bt_extract s t (by omega) i g0 (by omega)]
      exact h4 i g0 (by omega)
    · show (s.extract 0 t ++ ⟨#[63]⟩) ++ s.extract (t + 1) s.size = s
      apply bytesOf_inj
      rw [bytesOf_append, bytesOf_append, join_at s t h2 h3]
      have e : bytesOf (⟨#[63]⟩ : ByteArray) = [63] := rfl
      rw [e, List.append_assoc]
      rfl
end Go.Proofs.Ytopfmcgmfnmikaa.Y
