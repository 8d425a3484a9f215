/- TermsAnswers in plain words. Condition: address and pairs of together at most 1048576 bytes. -/
import Derived.Test.YtopfmcgmfnmikaaDoorYRAns
import Derived.Test.YtopfmcgmfnmikaaDoorYEvPair
-- IMPORTS
import Derived.Test.YtopfmcgmfnmikaaDoorXx0
import Derived.Test.YtopfmcgmfnmikaaDoorXx2
import Derived.Test.YtopfmcgmfnmikaaDoorXx3b
import Derived.Test.YtopfmcgmfnmikaaDoorXx6
import Derived.Test.YtopfmcgmfnmikaaDoorXx7
import Derived.Test.YtopfmcgmfnmikaaDoorXx8
set_option linter.unusedSimpArgs false
set_option linter.unusedVariables false
namespace Go.Proofs.YtopfmcgmfnmikaaDoor.Y
open Go.RowKit Go.Proofs.YtopfmcgmfnmikaaDoorW.PrintWords Go.Proofs.YtopfmcgmfnmikaaDoorW.PrintLast Go.Proofs.YtopfmcgmfnmikaaDoor.X
theorem rd_mk9 (l : List S29) (i : Int) : (⟨(rd_T29 l i).f0, (rd_T29 l i).f1⟩ : S29) = rdOf z29 l i := rfl
theorem copied9_loop (l : List S29) (hl : l.length < 4398046511104) (d : Nat) : ∀ (acc : List S29) (i : Int), 0 ≤ i → (l.length : Int) - i = d → acc.length = i.toNat →
    Ev (fun k => usherlaw9_copiedPairs.l0 k l acc i) (acc ++ l.drop i.toNat) := by
  induction d with
  | zero =>
    intro acc i h0 hd ha
    refine Ev.succ ?_
    simp only [usherlaw9_copiedPairs.l0]
    rw [drop_le l (by omega), List.append_nil]
    exact Ev.neg (by omega) (Ev.pure _)
  | succ d ih =>
    intro acc i h0 hd ha
    have hlt : i < l.length := by omega
    refine Ev.succ ?_
    simp only [usherlaw9_copiedPairs.l0, rd_mk9]
    refine Ev.pos hlt (Ev.pos h0 (Ev.pos (by omega) ?_))
    rw [wr (by omega) (by omega), drop_rd z29 l h0 hlt]
    have := ih (acc ++ [rdOf z29 l i]) (i + 1) (by omega) (by omega) (by simp; omega)
    simpa only [List.append_assoc, List.singleton_append] using this
theorem copied9_is (l : List S29) (hl : l.length < 4398046511104) : Ev (fun k => usherlaw9_copiedPairs.f k l) l :=
  copied9_loop l hl l.length [] 0 (Int.le_refl _) (by omega) rfl
def bh9 : S29 := ⟨⟨#[98, 101, 104, 105, 110, 100]⟩, ⟨#[98, 101, 104, 105, 110, 100]⟩⟩
def up (p : S29) : S29 := ⟨p.f0, p.f1 ++ ⟨#[122]⟩⟩
theorem rd_app (a q : List S29) (p : S29) : rd_T29 (a ++ p :: q) (a.length : Int) = p := by
  show (a ++ p :: q).getD _ _ = p
  simp [List.getD_eq_getElem?_getD]
theorem set_app (a q : List S29) (p x : S29) : (a ++ p :: q).set a.length x = a ++ x :: q := by simp
theorem wgt_up (p : S29) : wgt (up p) = wgt p + 3 := by
  have : (⟨#[122]⟩ : ByteArray).size = 1 := rfl
  simp only [wgt, up, size_append, this]
  omega
theorem wgt_ups (l : List S29) : ((l.map up).map wgt).sum = (l.map wgt).sum + 3 * l.length := by
  induction l with
  | nil => rfl
  | cons p r ih => simp only [List.map_cons, List.sum_cons, ih, wgt_up, List.length_cons]; omega
theorem ans_end (s : ByteArray) (l : List S29) (h : (l.map wgt).sum ≤ 17592186044416) : Ev (fun k => (terms_Answer.f k s l).bind fun bt310 => ((usherref9_Answer.f k s l).bind fun bt312 => (if bt310.1.toList = bt312.1.toList then ((usherkit_Num.f bt310.2).bind fun t314 => (some (t314 == bt312.2))) else (some false)))) true := by
  refine Ev.bind (tans_is s l (by omega)) (Ev.bind (rans_is s l h) (Ev.pos rfl (Ev.bind (Ev.of_eq fun _ => num_ans s l) (Ev.of_eq fun _ => ?_))))
  simp
theorem ans_loop (s : ByteArray) (L : List S29) : ∀ (r a : List S29) (n : Int), n = ((a.length + r.length : Nat) : Int) → (((a ++ r).map wgt).sum + 3 * r.length) ≤ 17592186044416 →
    Ev (fun k => usherlaw9_TermsAnswers.l0 k n (a ++ (r ++ [bh9])) (a ++ r) (a.length : Int) s L) true
  | [], a, n, hn, hw => by
    refine Ev.succ ?_
    simp only [usherlaw9_TermsAnswers.l0]
    simp only [List.length_nil, Nat.add_zero] at hn
    subst hn
    rw [List.append_nil] at hw ⊢
    rw [List.nil_append, Int.toNat_natCast, List.take_left]
    refine Ev.neg (by omega) (Ev.pos (by omega) (Ev.pos (by simp only [List.length_append, List.length_cons, List.length_nil]; omega) ?_))
    exact ans_end s a (by simpa using hw)
  | p :: r, a, n, hn, hw => by
    have ih := ans_loop s L r (a ++ [up p]) n (by rw [hn]; simp; omega) (by
      simp only [List.map_append, List.map_cons, List.map_nil, List.sum_append, List.sum_cons, List.sum_nil, List.length_cons, wgt_up] at hw ⊢
      omega)
    have hlen := len_sum (a ++ p :: r)
    have hwp : wgt p ≤ 17592186044416 := by
      simp only [List.map_append, List.map_cons, List.sum_append, List.sum_cons] at hw
      omega
    simp only [wgt] at hwp
    simp only [List.length_append, List.length_cons] at hlen
    refine Ev.succ ?_
    simp only [usherlaw9_TermsAnswers.l0]
    rw [List.cons_append, rd_app, rd_app, Int.toNat_natCast, set_app, set_app, wr (by simp only [List.length_cons] at hw; omega) (by simp only [List.length_cons] at hw; omega)]
    refine Ev.pos (by rw [hn]; simp only [List.length_cons]; omega) (Ev.pos (by omega) (Ev.pos (by simp only [List.length_append, List.length_cons]; omega) (Ev.pos (by omega) (Ev.pos (by simp only [List.length_append, List.length_cons]; omega) (Ev.pos (by omega) ?_)))))
    rw [List.append_assoc, List.append_assoc, List.singleton_append, List.singleton_append, show (((a ++ [up p]).length : Nat) : Int) = (a.length : Int) + 1 by simp] at ih
    exact ih
theorem answers (s : ByteArray) (l : List S29) (h : (l.map wgt).sum ≤ 1099511627776) : ∃ k, usherlaw9_TermsAnswers.f k s l = some true := by
  have hlen := len_sum l
  have hbl : ((l ++ [bh9]).length : Int) = (l.length : Int) + 1 := by simp
  refine Ev.at_ ?_
  simp only [usherlaw9_TermsAnswers.f]
  refine Ev.bind (copied9_is l (by omega)) (Ev.pos (by omega) (Ev.bind (Ev.of_eq fun _ => rfl) ?_))
  show Ev (fun k => if 0 ≤ (l.length : Int) then _ else _) true
  rw [show (l ++ [(⟨(⟨#[98, 101, 104, 105, 110, 100]⟩ : ByteArray), (⟨#[98, 101, 104, 105, 110, 100]⟩ : ByteArray)⟩ : S29)]) = l ++ [bh9] from rfl]
  rw [Int.toNat_natCast, List.take_left, rd_app l [] bh9]
  refine Ev.pos (by omega) (Ev.pos (by omega) (Ev.bind (tans_is s l (by omega)) (Ev.bind (copied9_is l (by omega)) (Ev.bind (rans_is s l (by omega)) (Ev.pos rfl (Ev.bind (Ev.of_eq fun _ => num_ans s l) (Ev.pos rfl (Ev.bind (samePairs_self l (by omega)) (Ev.pos rfl (Ev.pos (by omega) (Ev.succ ?_)))))))))))
  simp only [usherlaw9_TermsAnswers.j0]
  refine Ev.neg (by simp [bh9, toList_data]) (Ev.bind (copied9_is l (by omega)) ?_)
  have := ans_loop s l l [] (l.length : Int) (by simp) (by simp only [List.nil_append]; omega)
  exact this
theorem answersU (s : ByteArray) (l : List S29) {F : Prop} (_ : F) (hB : (s.size + 1 + ((l.map (fun p => p.f0.size + 1 + (p.f1.size + 1) + 1)).sum + 1)) + 1 ≤ 1048576) : ∃ k, usherlaw9_TermsAnswers.f k s l = some true :=
  answers s l (by have := wgt_sum l; omega)
end Go.Proofs.YtopfmcgmfnmikaaDoor.Y
