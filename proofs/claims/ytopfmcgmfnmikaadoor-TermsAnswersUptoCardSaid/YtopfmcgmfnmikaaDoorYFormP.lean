/- Form in plain words: the parts with ampersands between. Conditions: as told. -/
import Derived.Test.YtopfmcgmfnmikaaDoorYEscP
import Derived.Test.YtopfmcgmfnmikaaDoorXForm
-- IMPORTS
import Derived.Test.YtopfmcgmfnmikaaDoorXx0
namespace Go.Proofs.YtopfmcgmfnmikaaDoor.Y
open Go.RowKit Go.Proofs.YtopfmcgmfnmikaaDoorW.PrintWords Go.Proofs.YtopfmcgmfnmikaaDoorW.PrintLast Go.Proofs.YtopfmcgmfnmikaaDoor.X
def partI (p : S29) : List Int := escIL true (bytesOf p.f0) ++ ([61] ++ escIL true (bytesOf p.f1))
def formI : Bool → List S29 → List Int
  | _, [] => []
  | b, p :: r => (if b = true then [] else [38]) ++ (partI p ++ formI false r)
theorem formF_map : ∀ (l : List S29) (b : Bool), (formF b l).map (fun b => (b.toNat : Int)) = formI b l
  | [], _ => rfl
  | p :: r, b => by
    have h1 : ∀ (s : ByteArray), (escL true s.data.toList).map (fun b => (b.toNat : Int)) = escIL true (bytesOf s) := fun s => escL_map true s.data.toList
    have h2 : (if b = true then ([] : List UInt8) else [38]).map (fun b => (b.toNat : Int)) = if b = true then [] else [38] := by split <;> rfl
    simp only [formF, formI, partL, partI, List.map_append, formF_map r false, h1, h2]
    rfl
theorem form_is (l : List S29) (h : (l.map wgt).sum ≤ 35184372088832) (h2 : l.length ≤ 9223372036854775807) : pct_Form.f l = some (strOfNums (formI true l)) := by
  unfold pct_Form.f
  rw [if_pos ⟨h, h2⟩]
  congr 1
  apply bytesOf_inj
  have e : bytesOf (⟨(formF true l).toArray⟩ : ByteArray) = formI true l := formF_map l true
  rw [← e, strOfNums_bytesOf]
theorem escI_range (plus : Bool) {c : Int} (h : 0 ≤ c ∧ c ≤ 255) : ∀ x ∈ escI plus c, 0 ≤ x ∧ x ≤ 255 := by
  intro x hxm
  unfold escI hx at hxm
  split at hxm
  · simp only [List.mem_singleton] at hxm; omega
  · split at hxm
    · simp only [List.mem_singleton] at hxm; omega
    · simp only [List.mem_cons, List.not_mem_nil, or_false] at hxm
      rcases hxm with rfl | rfl | rfl
      · omega
      · split <;> omega
      · split <;> omega
theorem escIL_range (plus : Bool) (s : ByteArray) : ∀ x ∈ escIL plus (bytesOf s), 0 ≤ x ∧ x ≤ 255 := by
  intro x hxm
  obtain ⟨c, hc, hx⟩ := List.mem_flatMap.1 hxm
  exact escI_range plus (bytesOf_range s c hc) x hx
theorem escIL_le (plus : Bool) (s : ByteArray) : (escIL plus (bytesOf s)).length ≤ 3 * s.size := by
  have e : escIL plus (bytesOf s) = (escL plus s.data.toList).map (fun b => (b.toNat : Int)) := (escL_map plus s.data.toList).symm
  have := escL_le plus s.data.toList
  rw [size_data] at this
  rw [e, List.length_map]
  exact this
theorem wgt_sum (l : List S29) : (l.map wgt).sum ≤ 3 * (l.map (fun p => p.f0.size + 1 + (p.f1.size + 1) + 1)).sum := by
  induction l with
  | nil => simp
  | cons p r ih => simp only [List.map_cons, List.sum_cons, wgt] at ih ⊢; omega
theorem len_sum (l : List S29) : l.length ≤ (l.map wgt).sum := by
  induction l with
  | nil => simp
  | cons p r ih => simp only [List.length_cons, List.map_cons, List.sum_cons, wgt] at ih ⊢; omega
theorem partI_range (p : S29) : ∀ x ∈ partI p, 0 ≤ x ∧ x ≤ 255 := by
  intro x hx
  unfold partI at hx
  rcases List.mem_append.1 hx with h | h
  · exact escIL_range true p.f0 x h
  · rcases List.mem_append.1 h with h | h
    · rw [List.mem_singleton] at h; omega
    · exact escIL_range true p.f1 x h
theorem formI_range : ∀ (l : List S29) (b : Bool), ∀ x ∈ formI b l, 0 ≤ x ∧ x ≤ 255
  | [], _ => by simp [formI]
  | p :: r, b => by
    intro x hx
    simp only [formI] at hx
    rcases List.mem_append.1 hx with h | h
    · split at h
      · cases h
      · rw [List.mem_singleton] at h; omega
    · rcases List.mem_append.1 h with h | h
      · exact partI_range p x h
      · exact formI_range r false x h
theorem formI_le (l : List S29) : (formI true l).length ≤ (l.map wgt).sum := by
  rw [← formF_map l true, List.length_map]
  exact formF_le l true
end Go.Proofs.YtopfmcgmfnmikaaDoor.Y
