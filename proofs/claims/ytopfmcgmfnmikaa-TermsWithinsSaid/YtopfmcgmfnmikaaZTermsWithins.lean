/- TermsWithins in plain words: Within answers as the document's, and spare room and the lists stay. No condition but the statement's reach. -/
import Derived.Test.YtopfmcgmfnmikaaYWith
import Derived.Test.YtopfmcgmfnmikaaXWithins
-- IMPORTS
namespace Go.Proofs.Ytopfmcgmfnmikaa.Y
open Go.RowKit Go.Proofs.YtopfmcgmfnmikaaW.PrintWords Go.Proofs.YtopfmcgmfnmikaaW.PrintLast Go.Proofs.Ytopfmcgmfnmikaa.X
theorem withins (l0 l1 : List ByteArray) {F : Prop} (_ : F) (hS : (l0.length * 16 ≤ 140737488351232 ∧ ∀ x ∈ l0, x.size ≤ 140737488351232) ∧ (l1.length * 16 ≤ 140737488351232 ∧ ∀ x ∈ l1, x.size ≤ 140737488351232)) : ∃ k, usherlaw9_TermsWithins.f k l0 l1 = some true := by
  obtain ⟨⟨n0, s0⟩, ⟨n1, s1⟩⟩ := hS
  have n0' : l0.length < 8796093022206 := by omega
  have n1' : l1.length < 8796093022206 := by omega
  obtain ⟨ta, et0, lta, _⟩ := turn_is 140737488351232 (by omega) l0 (by omega) s0
  obtain ⟨tb, et1, ltb, _⟩ := turn_is 140737488351232 (by omega) l1 (by omega) s1
  obtain ⟨K1, g1⟩ := spare_is l0 n0'
  obtain ⟨K2, g2⟩ := spare_is l1 n1'
  obtain ⟨K3, g3⟩ := within_is l0 l1 (by omega) (by omega)
  obtain ⟨K4, g4⟩ := copied_is l0 (by omega)
  obtain ⟨K5, g5⟩ := copied_is l1 (by omega)
  obtain ⟨K6, g6⟩ := refWithin_is l0 l1 (by omega) (by omega)
  obtain ⟨K7, g7⟩ := kept_is l0 n0'
  obtain ⟨K8, g8⟩ := kept_is l1 n1'
  obtain ⟨K9, g9⟩ := et0
  obtain ⟨K10, g10⟩ := et1
  obtain ⟨K11, g11⟩ := within_is ta l1 (by omega) (by omega)
  obtain ⟨K12, g12⟩ := within_is ta tb (by omega) (by omega)
  obtain ⟨K13, g13⟩ := refWithin_is ta l1 (by omega) (by omega)
  obtain ⟨K14, g14⟩ := refWithin_is ta tb (by omega) (by omega)
  refine ⟨K1 + K2 + K3 + K4 + K5 + K6 + K7 + K8 + K9 + K10 + K11 + K12 + K13 + K14, ?_⟩
  unfold usherlaw9_TermsWithins.f
  rw [if_pos]
  exact ⟨l0 ++ [bh, bh], l1 ++ [bh, bh], ta, tb, WI l0 l1, WI ta l1, WI ta tb, g1 _ (by omega), g2 _ (by omega), g3 _ (by omega), g4 _ (by omega), g5 _ (by omega), g6 _ (by omega), g7 _ (by omega), g8 _ (by omega), g9 _ (by omega), g10 _ (by omega), g11 _ (by omega), g12 _ (by omega), g13 _ (by omega), g14 _ (by omega), lta, ltb, by simp, by simp, by simp, by simp⟩
end Go.Proofs.Ytopfmcgmfnmikaa.Y
