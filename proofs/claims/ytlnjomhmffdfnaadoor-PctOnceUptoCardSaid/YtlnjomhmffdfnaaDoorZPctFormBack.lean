/- PctFormBack in plain words: Pairs of Form is the list. Condition: the pairs have at most 1048576 bytes and values together. -/
import Derived.Test.YtlnjomhmffdfnaaDoorYPairs2
import Derived.Test.YtlnjomhmffdfnaaDoorYForm
import Derived.Test.YtlnjomhmffdfnaaDoorYEvPair
-- IMPORTS
import Derived.Test.YtlnjomhmffdfnaaDoorXx0
import Derived.Test.YtlnjomhmffdfnaaDoorXx11
import Derived.Test.YtlnjomhmffdfnaaDoorXx20
namespace Go.Proofs.YtlnjomhmffdfnaaDoor.Y.FB
open Go.RowKit Go.Proofs.YtlnjomhmffdfnaaDoorW.PrintWords Go.Proofs.YtlnjomhmffdfnaaDoorW.PrintLast Go.Proofs.YtlnjomhmffdfnaaDoor.X Go.Proofs.YtlnjomhmffdfnaaDoor.Y
theorem rd_mk (l : List S52) (i : Int) : (⟨(rd_T52 l i).f0, (rd_T52 l i).f1⟩ : S52) = rdOf z52 l i := rfl
theorem copied_loop (l : List S52) (hl : l.length < 4398046511104) (d : Nat) : ∀ (acc : List S52) (i : Int), 0 ≤ i → (l.length : Int) - i = d → acc.length = i.toNat →
    Ev (fun k => usherlaw3_copied.l0 k l acc i) (acc ++ l.drop i.toNat) := by
  induction d with
  | zero =>
    intro acc i h0 hd ha
    refine Ev.succ ?_
    simp only [usherlaw3_copied.l0]
    rw [drop_le l (by omega), List.append_nil]
    exact Ev.neg (by omega) (Ev.pure _)
  | succ d ih =>
    intro acc i h0 hd ha
    have hlt : i < l.length := by omega
    refine Ev.succ ?_
    simp only [usherlaw3_copied.l0, rd_mk]
    refine Ev.pos hlt (Ev.pos h0 (Ev.pos (by omega) ?_))
    rw [wr (by omega) (by omega), drop_rd z52 l h0 hlt]
    have := ih (acc ++ [rdOf z52 l i]) (i + 1) (by omega) (by omega) (by simp; omega)
    simpa only [List.append_assoc, List.singleton_append] using this
theorem copied_is (l : List S52) (hl : l.length < 4398046511104) : Ev (fun k => usherlaw3_copied.f k l) l :=
  copied_loop l hl l.length [] 0 (Int.le_refl _) (by omega) rfl
theorem wgt_sum (l : List S52) : (l.map wgt).sum ≤ 3 * (l.map (fun p => p.f0.size + 1 + (p.f1.size + 1) + 1)).sum := by
  induction l with
  | nil => simp
  | cons p r ih => simp only [List.map_cons, List.sum_cons, wgt] at ih ⊢; omega
theorem len_sum (l : List S52) : l.length ≤ (l.map wgt).sum := by
  induction l with
  | nil => simp
  | cons p r ih => simp only [List.length_cons, List.map_cons, List.sum_cons, wgt] at ih ⊢; omega
theorem unres_free : ∀ n : Fin 256, unres (n.val : Int) = true → (n.val : Int) ≠ 38 ∧ (n.val : Int) ≠ 61 := by decide +kernel
theorem hx_free : ∀ n : Fin 16, hx (n.val : Int) ≠ 38 ∧ hx (n.val : Int) ≠ 61 := by decide +kernel
theorem escI_free (plus : Bool) {c : Int} (h : 0 ≤ c ∧ c ≤ 255) : ∀ x ∈ escI plus c, x ≠ 38 ∧ x ≠ 61 := by
  intro x hxm
  unfold escI at hxm
  by_cases u : unres c = true
  · rw [if_pos u, List.mem_singleton] at hxm
    rw [hxm]
    exact byte_cases (p := fun c => unres c = true → c ≠ 38 ∧ c ≠ 61) unres_free c h.1 h.2 u
  · rw [if_neg u] at hxm
    split at hxm
    · rw [List.mem_singleton] at hxm
      omega
    · simp only [List.mem_cons, List.not_mem_nil, or_false] at hxm
      have e1 := hx_free ⟨(c / 16).toNat, by omega⟩
      have e2 := hx_free ⟨(c % 16).toNat, by omega⟩
      simp only at e1 e2
      rw [show ((c / 16).toNat : Int) = c / 16 by omega] at e1
      rw [show ((c % 16).toNat : Int) = c % 16 by omega] at e2
      rcases hxm with rfl | rfl | rfl
      · omega
      · exact e1
      · exact e2
theorem escIL_free (plus : Bool) (s : ByteArray) : ∀ x ∈ escIL plus (bytesOf s), x ≠ 38 ∧ x ≠ 61 := by
  intro x hxm
  obtain ⟨c, hc, hx⟩ := List.mem_flatMap.1 hxm
  exact escI_free plus (bytesOf_range s c hc) x hx
theorem partI_free (p : S52) : ∀ x ∈ partI p, x ≠ 38 := by
  intro x hx
  unfold partI at hx
  rcases List.mem_append.1 hx with h | h
  · exact (escIL_free true p.f0 x h).1
  · rcases List.mem_append.1 h with h | h
    · rw [List.mem_singleton] at h; omega
    · exact (escIL_free true p.f1 x h).1
theorem partI_range (p : S52) : ∀ x ∈ partI p, 0 ≤ x ∧ x ≤ 255 := by
  intro x hx
  unfold partI at hx
  rcases List.mem_append.1 hx with h | h
  · exact escIL_range true p.f0 x h
  · rcases List.mem_append.1 h with h | h
    · rw [List.mem_singleton] at h; omega
    · exact escIL_range true p.f1 x h
theorem formI_range : ∀ (l : List S52) (b : Bool), ∀ x ∈ formI b l, 0 ≤ x ∧ x ≤ 255
  | [], _ => by simp [formI]
  | p :: r, b => by
    intro x hx
    simp only [formI] at hx
    rcases List.mem_append.1 hx with h | h
    · split at h
      · cases h
      · rw [List.mem_singleton] at h; omega
    · rcases List.mem_append.1 h with h | h
      · exact partI_range p x h
      · exact formI_range r false x h
theorem formI_sp : ∀ (r : List S52) (p : S52), sp 38 (partI p ++ formI false r) = partI p :: r.map partI
  | [], p => by
    simp only [formI, List.append_nil, List.map_nil]
    exact sp_only 38 _ (partI_free p)
  | q :: r, p => by
    simp only [formI, if_neg Bool.false_ne_true, List.singleton_append, List.map_cons]
    rw [sp_first 38 _ _ (partI_free p), formI_sp r q]
theorem oneB_part (p : S52) : oneB (strOfNums (partI p)) = some p := by
  unfold oneB
  rw [bytesOf_strOfNums (partI_range p)]
  have hc : cutP (partI p) = (escIL true (bytesOf p.f0), escIL true (bytesOf p.f1)) := cutP_at _ _ (fun x hx => (escIL_free true p.f0 x hx).2)
  rw [hc]
  simp only [ue_esc true _ (bytesOf_range p.f0), ue_esc true _ (bytesOf_range p.f1), strOfNums_bytesOf]
theorem part_ne (p : S52) : (strOfNums (partI p)).toList ≠ [] := by
  intro h
  rw [empty_bytes, bytesOf_strOfNums (partI_range p)] at h
  unfold partI at h
  simp at h
theorem allB_parts : ∀ (l : List S52), allB (l.map (fun p => strOfNums (partI p))) = some l
  | [] => rfl
  | p :: r => by simp only [List.map_cons, allB, part_ne p, if_false, oneB_part, allB_parts r, Option.map_some]
theorem cntB_parts : ∀ (l : List S52), cntB (l.map (fun p => strOfNums (partI p))) = l.length
  | [] => rfl
  | p :: r => by simp only [List.map_cons, cntB, part_ne p, if_false, cntB_parts r, List.length_cons]
theorem pcs_form (l : List S52) (h : l ≠ []) : pcs (strOfNums (formI true l)) = l.map (fun p => strOfNums (partI p)) := by
  unfold pcs
  rw [bytesOf_strOfNums (formI_range l true)]
  obtain ⟨p, r, rfl⟩ := List.exists_cons_of_ne_nil h
  have : formI true (p :: r) = partI p ++ formI false r := by simp [formI]
  rw [this, formI_sp r p]
  simp
theorem prs_form (l : List S52) : prs (pcs (strOfNums (formI true l))) = if 32 < l.length then ([], some 3) else (l, none) := by
  by_cases h : l = []
  · subst h
    have e : pcs (strOfNums (formI true [])) = [(⟨#[]⟩ : ByteArray)] := rfl
    have ht : (⟨#[]⟩ : ByteArray).toList = [] := (empty_iff _).2 rfl
    rw [e]
    simp [prs, cntB, allB, ht, resB]
  · rw [pcs_form l h]
    unfold prs
    rw [cntB_parts, allB_parts]
    simp only [resB, List.nil_append]
theorem formI_le (l : List S52) : (formI true l).length ≤ (l.map wgt).sum := by
  rw [← formF_map l true, List.length_map]
  exact formF_le l true
theorem formBack (l : List S52) {F : Prop} (_ : F) (hB : (l.map (fun p => p.f0.size + 1 + (p.f1.size + 1) + 1)).sum + 1 ≤ 1048576) : ∃ k, usherlaw3_PctFormBack.f k l = some true := by
  have hw := wgt_sum l
  have hl := len_sum l
  have hz : (strOfNums (formI true l)).size ≤ 1099511627776 := by
    rw [strOfNums_size]
    have := formI_le l
    omega
  refine Ev.at_ ?_
  simp only [usherlaw3_PctFormBack.f]
  refine Ev.bind (copied_is l (by omega)) ?_
  rw [form_is l (by omega) (by omega)]
  simp only [Option.bind_some]
  refine Ev.bind (pairs_is _ hz) ?_
  rw [prs_form l]
  by_cases e : 32 < l.length
  · rw [if_pos e]
    exact Ev.pos (by omega) (Ev.neg (by simp) (Ev.pos rfl (Ev.of_eq fun _ => rfl)))
  · rw [if_neg e]
    exact Ev.neg (by omega) (Ev.pos rfl (Ev.bind (samePairs_self l (by omega)) (Ev.pure _)))
end Go.Proofs.YtlnjomhmffdfnaaDoor.Y.FB
