/- What stands behind the '?' of an answered address, in plain words over lists of numbers: a redirect address again. Condition: numbers of bytes. -/
import Derived.Test.YtopfmcgmfnmikaaDoorYRedS
import Derived.Test.YtopfmcgmfnmikaaDoorYFormP
set_option linter.unusedSimpArgs false
namespace Go.Proofs.YtopfmcgmfnmikaaDoor.Y
open Go.RowKit Go.Proofs.YtopfmcgmfnmikaaDoorW.PrintWords Go.Proofs.YtopfmcgmfnmikaaDoorW.PrintLast Go.Proofs.YtopfmcgmfnmikaaDoor.X
theorem bs_append (m : ByteArray) : ∀ (a : List Int) (k : Nat) (b : List Int), bs m k a = true → bs m k (a ++ b) = bs m 0 b
  | [], 0, b, _ => rfl
  | [], _ + 1, b, h => by simp [bs] at h
  | c :: r, 0, b, h => by
    simp only [List.cons_append, bs] at h ⊢
    by_cases h1 : okB m c = true
    · rw [if_pos h1] at h ⊢; exact bs_append m r 0 b h
    · rw [if_neg h1] at h ⊢
      by_cases h2 : c = 37
      · rw [if_pos h2] at h ⊢; exact bs_append m r 1 b h
      · rw [if_neg h2] at h; cases h
  | c :: r, 1, b, h => by
    simp only [List.cons_append, bs] at h ⊢
    by_cases h1 : hexaB c = true
    · rw [if_pos h1] at h ⊢; exact bs_append m r 2 b h
    · rw [if_neg h1] at h; cases h
  | c :: r, _ + 2, b, h => by
    simp only [List.cons_append, bs] at h ⊢
    by_cases h1 : hexaB c = true
    · rw [if_pos h1] at h ⊢; exact bs_append m r 0 b h
    · rw [if_neg h1] at h; cases h
theorem unres_ok {c : Int} (h0 : 0 ≤ c) (h1 : c ≤ 255) (h : unres c = true) : okB P2 c = true := by
  have key : ∀ n : Fin 256, unres ((n.val : Nat) : Int) = true → okB P2 ((n.val : Nat) : Int) = true := by decide +kernel
  have := key ⟨c.toNat, by omega⟩
  rw [show ((c.toNat : Nat) : Int) = c by omega] at this
  exact this h
theorem hx_hexa {n : Int} (h0 : 0 ≤ n) (h1 : n ≤ 15) : hexaB (hx n) = true := by
  have key : ∀ n : Fin 16, hexaB (hx ((n.val : Nat) : Int)) = true := by decide +kernel
  have := key ⟨n.toNat, by omega⟩
  rwa [show ((n.toNat : Nat) : Int) = n by omega] at this
theorem esc_ok {c : Int} (h : 0 ≤ c ∧ c ≤ 255) : bs P2 0 (escI true c) = true := by
  unfold escI
  by_cases u : unres c = true
  · rw [if_pos u, bs_ok (unres_ok h.1 h.2 u)]; rfl
  · rw [if_neg u]
    by_cases sp : c = 32 ∧ True
    · rw [if_pos (by simpa using sp)]; decide
    · rw [if_neg (by simpa using sp), bs_pct (by decide) rfl, bs_one, if_pos (hx_hexa (by omega) (by omega)), bs_two, if_pos (hx_hexa (by omega) (by omega))]
      rfl
theorem escL_ok : ∀ (l : List Int), (∀ c ∈ l, 0 ≤ c ∧ c ≤ 255) → bs P2 0 (escIL true l) = true
  | [], _ => rfl
  | c :: r, h => by
    have e : escIL true (c :: r) = escI true c ++ escIL true r := by simp [escIL]
    rw [e, bs_append P2 _ 0 _ (esc_ok (h c (List.mem_cons_self ..)))]
    exact escL_ok r (fun x hx => h x (List.mem_cons_of_mem _ hx))
theorem part_ok (p : S29) : bs P2 0 (partI p) = true := by
  unfold partI
  rw [bs_append P2 _ 0 _ (escL_ok _ (bytesOf_range p.f0)), List.singleton_append, bs_ok (by decide)]
  exact escL_ok _ (bytesOf_range p.f1)
theorem form_ok : ∀ (l : List S29) (b : Bool), bs P2 0 (formI b l) = true
  | [], _ => rfl
  | p :: r, b => by
    have ih := form_ok r false
    cases b with
    | true =>
      simp only [formI, if_true, List.nil_append]
      rw [bs_append P2 _ 0 _ (part_ok p)]; exact ih
    | false =>
      simp only [formI, Bool.false_eq_true, if_false, List.singleton_append]
      rw [bs_ok (by decide), bs_append P2 _ 0 _ (part_ok p)]; exact ih
/-- what is put behind an address -/
def markI (l : List Int) : List Int := if dw 63 l = [] then [63] else if (dw 63 l).drop 1 = [] then [] else [38]
theorem answered {l f : List Int} (h : refRed l = true) (hf : bs P2 0 f = true) : refRed (l ++ (markI l ++ f)) = true ∧ tw 63 (l ++ (markI l ++ f)) = tw 63 l ∧ (dw 63 (l ++ (markI l ++ f))).drop 1 = (dw 63 l).drop 1 ++ ((if (dw 63 l).drop 1 = [] then [] else [38]) ++ f) := by
  obtain ⟨hl, hb, ht⟩ := base_split l
  have key : tw 63 (l ++ (markI l ++ f)) = tw 63 l ∧ (dw 63 (l ++ (markI l ++ f))).drop 1 = (dw 63 l).drop 1 ++ ((if (dw 63 l).drop 1 = [] then [] else [38]) ++ f) := by
    unfold markI
    rcases ht with h0 | ⟨q, h0⟩
    · rw [if_pos h0]
      have hl2 : l = tw 63 l := by rw [h0, List.append_nil] at hl; exact hl
      have e := tw_app (b := tw 63 l) (t := 63 :: f) hb (.inr ⟨f, rfl⟩)
      rw [← hl2] at e
      rw [List.singleton_append, e.1, e.2, h0]
      exact ⟨hl2, rfl⟩
    · have hne : dw 63 l ≠ [] := by rw [h0]; simp
      rw [if_neg hne]
      have e := tw_app (b := tw 63 l) (t := dw 63 l ++ ((if (dw 63 l).drop 1 = [] then [] else [38]) ++ f)) hb (.inr ⟨q ++ ((if (dw 63 l).drop 1 = [] then [] else [38]) ++ f), by rw [h0]; rfl⟩)
      rw [← List.append_assoc, ← hl] at e
      refine ⟨e.1, ?_⟩
      rw [e.2, h0]
      rfl
  refine ⟨?_, key.1, key.2⟩
  unfold refRed at h ⊢
  rw [key.1, key.2]
  simp only [Bool.and_eq_true] at h ⊢
  refine ⟨?_, h.2⟩
  rw [bs_append P2 _ 0 _ h.1]
  by_cases e : (dw 63 l).drop 1 = []
  · rw [if_pos e]; exact hf
  · rw [if_neg e, List.singleton_append, bs_ok (by decide)]; exact hf
end Go.Proofs.YtopfmcgmfnmikaaDoor.Y
