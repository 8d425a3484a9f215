/- TermsScopeOrder in plain words. Condition: the texts have at most 1048576 bytes and values together. -/
import Derived.Test.YtopfmcgmfnmikaaDoorYScope
import Derived.Test.YtopfmcgmfnmikaaDoorYTail
-- IMPORTS
import Derived.Test.YtopfmcgmfnmikaaDoorXx1
import Derived.Test.YtopfmcgmfnmikaaDoorXx11
set_option linter.unusedVariables false
set_option linter.unusedSimpArgs false
namespace Go.Proofs.YtopfmcgmfnmikaaDoor.Y
open Go.RowKit Go.Proofs.YtopfmcgmfnmikaaDoorW.PrintWords Go.Proofs.YtopfmcgmfnmikaaDoorW.PrintLast Go.Proofs.YtopfmcgmfnmikaaDoor.X
theorem words_text : ∀ (l : List ByteArray), l ≠ [] → sp 32 (tailJ false l) = l.flatMap (fun x => sp 32 (bytesOf x))
  | [], h => absurd rfl h
  | [x], _ => by simp [tailJ]
  | x :: y :: r, _ => by
    have ih := words_text (y :: r) (by simp)
    have e : tailJ false (x :: y :: r) = bytesOf x ++ 32 :: tailJ false (y :: r) := by simp [tailJ]
    rw [e, sp_append, ih]
    simp
theorem wordsW_text (l : List ByteArray) : wordsW (strOfNums (tailJ false l)) = (sp 32 (tailJ false l)).map strOfNums := by
  unfold wordsW
  rw [bytesOf_strOfNums (tail_range l)]
theorem words_mem (l m : List ByteArray) (hl : l ≠ []) (hm : m ≠ []) (h : ∀ x, x ∈ l ↔ x ∈ m) : ∀ x, x ∈ wordsW (strOfNums (tailJ false l)) ↔ x ∈ wordsW (strOfNums (tailJ false m)) := by
  intro x
  rw [wordsW_text, wordsW_text, words_text l hl, words_text m hm]
  simp only [List.mem_map, List.mem_flatMap, h]
theorem distinct_eq (xs : List ByteArray) : distinctW xs = unstrs (distL (strsW xs)) := rfl
theorem distinct_congr {a b : List ByteArray} (h : ∀ x, x ∈ a ↔ x ∈ b) : distinctW a = distinctW b := by
  rw [distinct_eq, distinct_eq, distL_congr (a := strsW a) (b := strsW b) (fun x => by simp only [strsW, List.mem_map, h])]
theorem all_congr {a b : List ByteArray} (h : ∀ x, x ∈ a ↔ x ∈ b) : a.all scopeB = b.all scopeB := by
  rw [Bool.eq_iff_iff, List.all_eq_true, List.all_eq_true]
  exact ⟨fun k x hx => k x ((h x).2 hx), fun k x hx => k x ((h x).1 hx)⟩
theorem scopes_congr {a b : List ByteArray} (h : ∀ x, x ∈ a ↔ x ∈ b) : scopesW a = scopesW b := by
  unfold scopesW
  rw [all_congr h, distinct_congr h]
theorem scopes_short (a : List ByteArray) : (scopesW a).1.length ≤ 16 := by
  unfold scopesW
  split
  · split
    · simp
    · simp only; omega
  · simp
theorem num_scopes (a : List ByteArray) : ∃ v, usherkit_Num.f (scopesW a).2 = some v := by
  unfold scopesW
  split
  · split
    · exact ⟨3, by simp [usherkit_Num.f]⟩
    · exact ⟨0, by simp [usherkit_Num.f]⟩
  · exact ⟨2, by simp [usherkit_Num.f]⟩
theorem order_end (l m : List ByteArray) (hm : ∀ x, x ∈ l ↔ x ∈ m) (hl : (l.map (fun x => x.size + 1)).sum ≤ 4194304) (hml : (m.map (fun x => x.size + 1)).sum ≤ 4194304) :
    Ev (fun k => ((terms_ScopeText.f l).bind fun t278 => ((terms_Scopes.f k t278).bind fun bt279 => ((terms_ScopeText.f m).bind fun t283 => ((terms_Scopes.f k t283).bind fun bt284 => ((usherkit_Num.f bt279.2).bind fun t288 => ((usherkit_Num.f bt284.2).bind fun t289 => (if t288 = t289 then ((usherref0_SameStrings.f k bt279.1 bt284.1).bind fun t290 => (some t290)) else (some false))))))))) true := by
  have key : ∀ l : List ByteArray, (l.map (fun x => x.size + 1)).sum ≤ 4194304 → terms_ScopeText.f l = some (strOfNums (tailJ false l)) ∧ (strOfNums (tailJ false l)).size ≤ 1099511627776 := by
    intro l hl
    obtain ⟨h1, h2⟩ := sum_bounds l
    refine ⟨text_is 4194304 l (fun x hx => by have := h2 x hx; omega) (Nat.le_trans (Nat.mul_le_mul_right _ (Nat.le_trans h1 hl)) (by decide)), ?_⟩
    rw [strOfNums_size]
    have := tailJ_sum l false
    omega
  obtain ⟨k1, k2⟩ := key l hl
  obtain ⟨k3, k4⟩ := key m hml
  have he : scopesW (wordsW (strOfNums (tailJ false m))) = scopesW (wordsW (strOfNums (tailJ false l))) := by
    by_cases h0 : l = []
    · subst h0
      have : m = [] := by
        cases m with
        | nil => rfl
        | cons y r => exact absurd ((hm y).2 (List.mem_cons_self ..)) (by simp)
      rw [this]
    · have hm0 : m ≠ [] := by
        rintro rfl
        obtain ⟨y, r, rfl⟩ := List.exists_cons_of_ne_nil h0
        exact absurd ((hm y).1 (List.mem_cons_self ..)) (by simp)
      exact scopes_congr (words_mem m l hm0 h0 (fun x => (hm x).symm))
  obtain ⟨v, hv⟩ := num_scopes (wordsW (strOfNums (tailJ false l)))
  have hsh := scopes_short (wordsW (strOfNums (tailJ false l)))
  have s2 := scopes_is (strOfNums (tailJ false m)) k4
  rw [he] at s2
  exact Ev.bind (Ev.of_eq fun _ => k1) (Ev.bind (scopes_is _ k2) (Ev.bind (Ev.of_eq fun _ => k3) (Ev.bind s2 (Ev.bind (Ev.of_eq fun _ => hv) (Ev.bind (Ev.of_eq fun _ => hv) (Ev.pos rfl (Ev.bind (same_self _ (by omega)) (Ev.pure _))))))))
theorem order_loop (l : List ByteArray) (hl : (l.map (fun x => x.size + 1)).sum ≤ 1048576) : ∀ d : Nat, d ≤ l.length → Ev (fun k => usherlaw9_TermsScopeOrder.l0 k l (l.drop d).reverse ((d : Int) - 1)) true
  | 0, _ => by
    have hlen := (sum_bounds l).1
    refine Ev.succ ?_
    simp only [usherlaw9_TermsScopeOrder.l0]
    rw [List.drop_zero]
    refine Ev.neg (by omega) (Ev.pos (by rw [List.length_reverse]; omega) ?_)
    refine order_end l (l.reverse ++ l) (fun x => by simp) (by omega) ?_
    rw [List.map_append, List.sum_append, List.map_reverse, List.sum_reverse]
    omega
  | d + 1, hd => by
    have hlen := (sum_bounds l).1
    have ih := order_loop l hl d (by omega)
    refine Ev.succ ?_
    simp only [usherlaw9_TermsScopeOrder.l0]
    have e0 : ((d + 1 : Nat) : Int) - 1 = (d : Int) := by omega
    rw [e0, wr (x := (d : Int) - 1) (by omega) (by omega)]
    have hr : rdOf ByteArray.empty l (d : Int) = l[d]'(by omega) := by
      simp [rdOf, List.getD_eq_getElem?_getD, List.getElem?_eq_getElem (show d < l.length by omega)]
    rw [hr]
    have he : (l.drop (d + 1)).reverse ++ [l[d]'(by omega)] = (l.drop d).reverse := by
      rw [List.drop_eq_getElem_cons (show d < l.length by omega), List.reverse_cons]
    rw [he]
    exact Ev.pos (by omega) (Ev.pos (by omega) (Ev.pos (by omega) (Ev.pos (by rw [List.length_reverse, List.length_drop]; omega) ih)))
theorem one_word : scopesW (wordsW (⟨#[120]⟩ : ByteArray)) = ([⟨#[120]⟩], none) := by
  have hw : wordsW (⟨#[120]⟩ : ByteArray) = [⟨#[120]⟩] := by decide +kernel
  have hd : distinctW [(⟨#[120]⟩ : ByteArray)] = [⟨#[120]⟩] := by
    rw [distinct_eq, distL_rising _ (by simp [strsW])]
    rfl
  rw [hw]
  unfold scopesW
  rw [if_pos (by decide +kernel), hd]
  rfl
theorem scopeOrder (l : List ByteArray) {F : Prop} (_ : F) (hB : (l.map (fun x => x.size + 1)).sum + 1 ≤ 1048576) : ∃ k, usherlaw9_TermsScopeOrder.f k l = some true := by
  have hlen := (sum_bounds l).1
  refine Ev.at_ ?_
  simp only [usherlaw9_TermsScopeOrder.f]
  have h1 := scopes_is (⟨#[120]⟩ : ByteArray) (by decide)
  rw [one_word] at h1
  refine Ev.bind h1 (Ev.pos rfl (Ev.pos rfl (Ev.pos (by decide) (Ev.succ ?_))))
  simp only [usherlaw9_TermsScopeOrder.j0]
  refine Ev.neg (by simp [rdOf, toList_data]) ?_
  rw [wr (x := (l.length : Int) - 1) (by omega) (by omega)]
  have := order_loop l (by omega) l.length (Nat.le_refl _)
  rw [List.drop_length] at this
  exact this
end Go.Proofs.YtopfmcgmfnmikaaDoor.Y
