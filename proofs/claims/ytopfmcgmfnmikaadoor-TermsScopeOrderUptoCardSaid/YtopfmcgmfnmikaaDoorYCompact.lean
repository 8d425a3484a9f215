/- slices.Compact of what rises: its members, each once, rising; a list is known by that. No condition. -/
import Derived.Test.YtopfmcgmfnmikaaDoorXDistinct
set_option linter.unusedVariables false
set_option linter.unusedSimpArgs false
namespace Go.Proofs.YtopfmcgmfnmikaaDoor.Y
open Go.RowKit Go.Lib Go.Proofs.YtopfmcgmfnmikaaDoorW.PrintWords Go.Proofs.YtopfmcgmfnmikaaDoorW.PrintLast Go.Proofs.YtopfmcgmfnmikaaDoor.X
abbrev LU := List UInt8
theorem lu_trans {a b c : LU} (h : a ≤ b) (k : b ≤ c) : a ≤ c := List.le_trans h k
theorem lu_antisymm {a b : LU} (h : a ≤ b) (k : b ≤ a) : a = b := List.le_antisymm h k
theorem lu_lt {a b : LU} (h : a ≤ b) (k : a ≠ b) : a < b := by
  rcases Decidable.em (a < b) with h1 | h1
  · exact h1
  · exact absurd (lu_antisymm h (List.not_lt.1 h1)) k
theorem lu_le {a b : LU} (h : a < b) : a ≤ b := List.le_of_lt h
theorem lu_ne {a b : LU} (h : a < b) : a ≠ b := fun e => by
  subst e
  exact absurd h (List.lt_irrefl a)
theorem compact_aux (d : Array LU) (hs : ∀ i j, i ≤ j → j < d.size → d[i]! ≤ d[j]!) : ∀ m, m ≤ d.size → (∀ x, x ∈ compactUpTo d m ↔ ∃ j, j < m ∧ d[j]! = x) ∧ (compactUpTo d m).Pairwise (· < ·)
  | 0, _ => by simp [compactUpTo]
  | m + 1, hm => by
    obtain ⟨h1, h2⟩ := compact_aux d hs m (by omega)
    rw [compactUpTo_succ]
    by_cases h0 : m = 0
    · subst h0
      have hk : keeps d 0 = true := keeps_lt_one d 0 (by omega)
      have hc : compactUpTo d 0 = [] := by simp [compactUpTo]
      rw [hk, hc]
      simp only [List.nil_append, if_true]
      refine ⟨fun x => ⟨fun h => ⟨0, by omega, (List.mem_singleton.1 h).symm⟩, fun ⟨j, hj, e⟩ => ?_⟩, by simp⟩
      obtain rfl : j = 0 := by omega
      exact List.mem_singleton.2 e.symm
    · by_cases he : d[m]! = d[m - 1]!
      · rw [keeps_neg (by omega) he]
        simp only [Bool.false_eq_true, if_false, List.append_nil]
        refine ⟨fun x => ?_, h2⟩
        rw [h1]
        constructor
        · rintro ⟨j, hj, e⟩; exact ⟨j, by omega, e⟩
        · rintro ⟨j, hj, e⟩
          by_cases hjm : j = m
          · subst hjm; exact ⟨j - 1, by omega, by rw [← he]; exact e⟩
          · exact ⟨j, by omega, e⟩
      · rw [keeps_pos he]
        simp only [if_true]
        refine ⟨fun x => ?_, ?_⟩
        · rw [List.mem_append, h1, List.mem_singleton]
          constructor
          · rintro (⟨j, hj, e⟩ | e)
            · exact ⟨j, by omega, e⟩
            · exact ⟨m, by omega, e.symm⟩
          · rintro ⟨j, hj, e⟩
            by_cases hjm : j = m
            · subst hjm; exact .inr e.symm
            · exact .inl ⟨j, by omega, e⟩
        · rw [List.pairwise_append]
          refine ⟨h2, by simp, fun x hx y hy => ?_⟩
          rw [List.mem_singleton] at hy
          subst hy
          obtain ⟨j, hj, e⟩ := (h1 x).1 hx
          have k1 : x ≤ d[m - 1]! := by rw [← e]; exact hs j (m - 1) (by omega) (by omega)
          have k2 : d[m - 1]! ≤ d[m]! := hs (m - 1) m (by omega) (by omega)
          refine lu_lt (lu_trans k1 k2) (fun e2 => he ?_)
          rw [e2] at k1
          exact lu_antisymm k1 k2
theorem get_arr (zs : List LU) (j : Nat) (hj : j < zs.length) : zs.toArray[j]! = zs[j] := by
  rw [getElem!_pos zs.toArray j (by simpa using hj)]
  simp
theorem compact_spec (zs : List LU) (hs : zs.Pairwise (· ≤ ·)) : (∀ x, x ∈ compact zs ↔ x ∈ zs) ∧ (compact zs).Pairwise (· < ·) := by
  have hz : zs.toArray.size = zs.length := by simp
  have := compact_aux zs.toArray (fun i j hij hj => by
    rw [hz] at hj
    rw [get_arr zs i (by omega), get_arr zs j hj]
    by_cases e : i = j
    · subst e; exact List.le_refl _
    · exact List.pairwise_iff_getElem.1 hs i j (by omega) hj (by omega)) zs.length (by omega)
  refine ⟨fun x => ?_, this.2⟩
  unfold compact
  rw [this.1, List.mem_iff_getElem]
  constructor
  · rintro ⟨j, hj, e⟩; exact ⟨j, hj, by rw [← e, get_arr zs j hj]⟩
  · rintro ⟨j, hj, e⟩; exact ⟨j, hj, by rw [← e, get_arr zs j hj]⟩
/-- two rising lists of the same members are one -/
theorem rising_eq : ∀ (a b : List LU), a.Pairwise (· < ·) → b.Pairwise (· < ·) → (∀ x, x ∈ a ↔ x ∈ b) → a = b
  | [], [], _, _, _ => rfl
  | [], y :: b, _, _, h => absurd ((h y).2 (List.mem_cons_self ..)) (by simp)
  | x :: a, [], _, _, h => absurd ((h x).1 (List.mem_cons_self ..)) (by simp)
  | x :: a, y :: b, ha, hb, h => by
    rw [List.pairwise_cons] at ha hb
    have hxy : x = y := by
      rcases List.mem_cons.1 ((h x).1 (List.mem_cons_self ..)) with e | e
      · exact e
      · rcases List.mem_cons.1 ((h y).2 (List.mem_cons_self ..)) with e2 | e2
        · exact e2.symm
        · have k1 := hb.1 x e
          have k2 := ha.1 y e2
          exact absurd (lu_antisymm (lu_le k1) (lu_le k2)) (lu_ne k1)
    subst hxy
    congr 1
    refine rising_eq a b ha.2 hb.2 fun z => ⟨fun hz => ?_, fun hz => ?_⟩
    · rcases List.mem_cons.1 ((h z).1 (List.mem_cons_of_mem _ hz)) with e | e
      · exact absurd e.symm (lu_ne (ha.1 z hz))
      · exact e
    · rcases List.mem_cons.1 ((h z).2 (List.mem_cons_of_mem _ hz)) with e | e
      · exact absurd e.symm (lu_ne (hb.1 z hz))
      · exact e
def distL (zs : List LU) : List LU := compact (zs.mergeSort fun x y => decide (x ≤ y))
theorem distL_spec (zs : List LU) : (∀ x, x ∈ distL zs ↔ x ∈ zs) ∧ (distL zs).Pairwise (· < ·) := by
  have hs : (zs.mergeSort fun x y => decide (x ≤ y)).Pairwise (· ≤ ·) := by
    have := List.pairwise_mergeSort (le := fun x y : LU => decide (x ≤ y)) (fun a b c h1 h2 => by simp only [decide_eq_true_eq] at *; exact lu_trans h1 h2) (fun a b => by simp only [Bool.or_eq_true, decide_eq_true_eq]; exact List.le_total a b) zs
    exact this.imp (fun h => by simpa using h)
  obtain ⟨h1, h2⟩ := compact_spec _ hs
  exact ⟨fun x => by unfold distL; rw [h1, List.mem_mergeSort], h2⟩
theorem distL_rising (zs : List LU) (h : zs.Pairwise (· < ·)) : distL zs = zs := rising_eq _ _ (distL_spec zs).2 h (distL_spec zs).1
theorem distL_congr {a b : List LU} (h : ∀ x, x ∈ a ↔ x ∈ b) : distL a = distL b := rising_eq _ _ (distL_spec a).2 (distL_spec b).2 fun x => by rw [(distL_spec a).1, (distL_spec b).1, h]
end Go.Proofs.YtopfmcgmfnmikaaDoor.Y
