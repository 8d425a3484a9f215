/- Name and State answer as the document's answer does, whatever the text. No condition. -/
import Derived.Test.YtopfmcgmfnmikaaPTermsNamesx1
namespace Go.Proofs.Ytopfmcgmfnmikaa.Pure
open Go.RowKit Go.Proofs.Ytopfmcgmfnmikaa.PTermsNames Go.Proofs.YtopfmcgmfnmikaaW.PrintWords Go.Proofs.YtopfmcgmfnmikaaW.PrintLast

/-- from place i on, d bytes: all of them from lo to hi -/
def inR (s : ByteArray) (lo hi : Int) : Int → Nat → Bool
  | _, 0 => true
  | i, d + 1 => if bt s i < lo then false else if bt s i > hi then false else inR s lo hi (i + 1) d

theorem wrap_step {i : Int} {n : Nat} (h0 : 0 ≤ i) (h : i < (n : Int)) (hn : n ≤ 140737488351232) : wrap64 (i + 1) = i + 1 := by
  unfold wrap64
  omega

theorem between_l0 (s : ByteArray) (lo hi : Int) (hn : s.size ≤ 140737488351232) (d : Nat) : ∀ (k : Nat) (i : Int), 0 ≤ i → (s.size : Int) - i = d → d < k →
    terms_between.l0 k s lo hi (s.size : Int) i = some (inR s lo hi i d) := by
  induction d with
  | zero =>
    intro k i h0 hd hk
    obtain ⟨k, rfl⟩ : ∃ m, k = m + 1 := ⟨k - 1, by omega⟩
    simp only [terms_between.l0, inR]
    rw [if_neg (by omega)]
  | succ d ih =>
    intro k i h0 hd hk
    obtain ⟨k, rfl⟩ : ∃ m, k = m + 1 := ⟨k - 1, by omega⟩
    simp only [terms_between.l0, inR]
    rw [if_pos (by omega), if_pos h0, if_pos (by omega), wrap_step h0 (n := s.size) (by omega) hn, ih k (i + 1) (by omega) (by omega) (by omega)]
    split
    · rfl
    · split <;> rfl

theorem within_l0 (s : ByteArray) (most lo hi : Int) (hn : s.size ≤ 140737488351232) (d : Nat) : ∀ (k : Nat) (i : Int), 0 ≤ i → (s.size : Int) - i = d → d < k →
    usherref9_within.l0 k s most lo hi i = some (inR s lo hi i d && (!(decide (s.toList = [])) && decide ((s.size : Int) ≤ most))) := by
  induction d with
  | zero =>
    intro k i h0 hd hk
    obtain ⟨k, rfl⟩ : ∃ m, k = m + 1 := ⟨k - 1, by omega⟩
    simp only [usherref9_within.l0, inR]
    rw [if_neg (by omega)]
    split <;> simp_all
  | succ d ih =>
    intro k i h0 hd hk
    obtain ⟨k, rfl⟩ : ∃ m, k = m + 1 := ⟨k - 1, by omega⟩
    simp only [usherref9_within.l0, inR]
    rw [if_pos (by omega), if_pos h0, wrap_step h0 (n := s.size) (by omega) hn, ih k (i + 1) (by omega) (by omega) (by omega)]
    split
    · simp
    · split <;> simp

theorem between_is (s : ByteArray) (most lo hi : Int) (hn : s.size ≤ 140737488351232) (k : Nat) (hk : s.size + 1 < k) :
    terms_between.f k s most lo hi = some (inR s lo hi 0 s.size && (!(decide (s.toList = [])) && decide ((s.size : Int) ≤ most))) := by
  obtain ⟨k, rfl⟩ : ∃ m, k = m + 1 := ⟨k - 1, by omega⟩
  unfold terms_between.f
  by_cases e : s.toList = []
  · rw [if_pos e]
    simp [terms_between.j0, e]
  · rw [if_neg e]
    simp only [terms_between.j0]
    by_cases m : (s.size : Int) > most
    · rw [if_pos (by simpa using m)]
      simp [show ¬ (s.size : Int) ≤ most by omega]
    · rw [if_neg (by simpa using m), between_l0 s lo hi hn s.size k 0 (by omega) (by omega) (by omega)]
      simp [e, show (s.size : Int) ≤ most by omega]

theorem within_is (s : ByteArray) (most lo hi : Int) (hn : s.size ≤ 140737488351232) (k : Nat) (hk : s.size + 1 < k) :
    usherref9_within.f k s most lo hi = some (inR s lo hi 0 s.size && (!(decide (s.toList = [])) && decide ((s.size : Int) ≤ most))) :=
  within_l0 s most lo hi hn s.size k 0 (by omega) (by omega) (by omega)

theorem TermsNames : usherlaw9_TermsNames.Pure := by
  intro s hn
  refine ⟨s.size + 2, ?_⟩
  unfold usherlaw9_TermsNames.f terms_Name.f usherref9_Name.f terms_State.f usherref9_State.f
  simp only [between_is s _ _ _ hn (s.size + 2) (by omega), within_is s _ _ _ hn (s.size + 2) (by omega), Option.bind_some]
  simp

end Go.Proofs.Ytopfmcgmfnmikaa.Pure
