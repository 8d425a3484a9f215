/- PctRefuses in plain words: what is refused has a byte out of range or a percent sign without digits; else two bytes go for each percent sign. -/
import Derived.Test.YtlnjomhmffdfnaaDoorYUnesc
-- IMPORTS
import Derived.Test.YtlnjomhmffdfnaaDoorXx7
import Derived.Test.YtlnjomhmffdfnaaDoorXx8
namespace Go.Proofs.YtlnjomhmffdfnaaDoor.Y
open Go.RowKit Go.Proofs.YtlnjomhmffdfnaaDoorW.PrintWords Go.Proofs.YtlnjomhmffdfnaaDoorW.PrintLast Go.Proofs.YtlnjomhmffdfnaaDoor.X

theorem small_is (c : Int) (h0 : 0 ≤ c) (h1 : c ≤ 255) (k : Nat) (hk : 2 ≤ k) : usherlaw3_small.f k c true = some (hexv c) :=
  lift (fun k => usherlaw3_small.mono c true k) hk (byte_cases (p := fun c => usherlaw3_small.f 2 c true = some (hexv c)) (by decide +kernel) c h0 h1)

def two : List Int → Bool
  | a :: b :: _ => !decide (hexv a > 15) && !decide (hexv b > 15)
  | _ => false
def bad : List Int → Bool
  | [] => false
  | c :: r => (decide (c < 33) || decide (c > 126)) || (decide (c = 37) && !two r) || bad r
def cnt : List Int → Nat
  | [] => 0
  | c :: r => (if c = 37 then 1 else 0) + cnt r
theorem cnt_le : ∀ l : List Int, cnt l ≤ l.length
  | [] => by simp [cnt]
  | c :: r => by
    have := cnt_le r
    simp only [cnt, List.length_cons]
    split <;> omega
theorem digit_plain {a : Int} (h : ¬ hexv a > 15) : ¬ a < 33 ∧ ¬ a > 126 ∧ ¬ a = 37 := by
  unfold hexv at h
  (repeat' split at h) <;> omega

theorem ue_bad (plus : Bool) (n : Nat) : ∀ l : List Int, l.length = n →
    (bad l = true → ue plus 0 0 l = none) ∧ (bad l = false → ∃ m, ue plus 0 0 l = some m ∧ m.length + 2 * cnt l = l.length) := by
  induction n using Nat.strongRecOn with
  | _ n ih =>
    intro l hn
    match l, hn with
    | [], _ => exact ⟨fun h => by simp [bad] at h, fun _ => ⟨[], rfl, rfl⟩⟩
    | c :: r, hn =>
      simp only [List.length_cons] at hn
      by_cases p : c = 37
      · subst p
        by_cases t : two r = true
        · match r, t with
          | a :: b :: r', t =>
            simp only [two, Bool.and_eq_true, Bool.not_eq_true', decide_eq_false_iff_not] at t
            obtain ⟨ha, hb⟩ := t
            have pa := digit_plain ha
            have pb := digit_plain hb
            have e1 : bad (37 :: a :: b :: r') = bad r' := by simp [bad, two, ha, hb, pa, pb]
            have e2 : ue plus 0 0 (37 :: a :: b :: r') = (ue plus 0 0 r').map ((16 * hexv a + hexv b) :: ·) := by
              simp only [ue, if_true]
              rw [if_neg ha, if_neg hb]
            have e3 : cnt (37 :: a :: b :: r') = 1 + cnt r' := by simp [cnt, pa, pb]
            rw [e1, e2, e3]
            simp only [List.length_cons] at hn
            obtain ⟨i1, i2⟩ := ih r'.length (by omega) r' rfl
            refine ⟨fun h => by rw [i1 h]; rfl, fun h => ?_⟩
            obtain ⟨m, hm, hl⟩ := i2 h
            exact ⟨_ :: m, by rw [hm]; rfl, by simp only [List.length_cons]; omega⟩
        · have e1 : bad (37 :: r) = true := by simp [bad, t]
          rw [e1]
          refine ⟨fun _ => ?_, fun h => by simp at h⟩
          match r, t with
          | [], _ => simp [ue]
          | [a], _ =>
            simp only [ue, if_true]
            split <;> rfl
          | a :: b :: r', t =>
            simp only [ue, if_true]
            split
            · rfl
            · rename_i ha
              rw [if_pos]
              by_cases hb : hexv b > 15
              · exact hb
              · exact absurd (show two (a :: b :: r') = true by simp only [two, decide_eq_false ha, decide_eq_false hb]; rfl) t
      · obtain ⟨i1, i2⟩ := ih r.length (by omega) r rfl
        simp only [ue]
        rw [if_neg p]
        by_cases q : c < 33 ∨ 126 < c
        · have e1 : bad (c :: r) = true := by
            rcases q with q | q <;> simp [bad, q]
          rw [e1, if_pos q]
          exact ⟨fun _ => rfl, fun h => by simp at h⟩
        · have e1 : bad (c :: r) = bad r := by
            have q1 : ¬ c < 33 := fun h => q (.inl h)
            have q2 : ¬ c > 126 := fun h => q (.inr h)
            simp [bad, p, q1, q2]
          have e3 : cnt (c :: r) = cnt r := by simp [cnt, p]
          rw [e1, e3, if_neg q]
          refine ⟨fun h => by rw [i1 h]; rfl, fun h => ?_⟩
          obtain ⟨m, hm, hl⟩ := i2 h
          exact ⟨_ :: m, by rw [hm]; rfl, by simp only [List.length_cons]; omega⟩

def fin (t : ByteArray) (e : Option Int) (s : ByteArray) (m : Int) (b : Bool) : Bool :=
  if b = true then (if e.isNone = true then false else if e.getD 0 = 2 then t.toList == [] else false)
  else (if e.isNone = true then ((t.size : Int) == wrap64 ((s.size : Int) - wrap64 (2 * m))) else false)

theorem refuses_loop (s t : ByteArray) (e : Option Int) (plus : Bool) (hn : s.size ≤ 140737488351232) (d : Nat) : ∀ (k : Nat) (m : Int) (b : Bool) (i : Int), 0 ≤ i → i ≤ s.size → (s.size : Int) - i = d → 3 * d + 6 ≤ k → 0 ≤ m → m ≤ i →
    usherlaw3_PctRefuses.l0 k t e m b i s plus = some (fin t e s (m + cnt ((bytesOf s).drop i.toNat)) (b || bad ((bytesOf s).drop i.toNat))) := by
  induction d with
  | zero =>
    intro k m b i h0 h1 hd hk hm hmi
    obtain ⟨k, rfl⟩ : ∃ m, k = m + 1 := ⟨k - 1, by omega⟩
    simp only [usherlaw3_PctRefuses.l0]
    rw [if_neg (by omega), drop_end s (by omega)]
    simp only [cnt, bad, Bool.or_false, Int.natCast_zero, Int.add_zero, fin]
    cases b <;> cases e <;> simp <;> split <;> simp_all
  | succ d ih =>
    intro k m b i h0 h1 hd hk hm hmi
    obtain ⟨k, rfl⟩ : ∃ m, k = m + 3 := ⟨k - 3, by omega⟩
    have hlt : i < (s.size : Int) := by omega
    have hb := bt_range s i
    have ih' := fun m' b' (q0 : 0 ≤ m') (q1 : m' ≤ i + 1) => ih k m' b' (i + 1) (by omega) (by omega) (by omega) (by omega) q0 q1
    have w1 : wrap64 (i + 1) = i + 1 := wr (by omega) (by omega)
    have w2 : wrap64 (i + 2) = i + 2 := wr (by omega) (by omega)
    have w3 : wrap64 (m + 1) = m + 1 := wr (by omega) (by omega)
    rw [drop_at s h0 hlt]
    -- behind the test of the range
    have step : ∀ b', usherlaw3_PctRefuses.j2 (k + 1) t e m b' i (bt s i) s plus =
        some (fin t e s (m + cnt (bt s i :: (bytesOf s).drop (i + 1).toNat)) (b' || (decide (bt s i = 37) && !two ((bytesOf s).drop (i + 1).toNat)) || bad ((bytesOf s).drop (i + 1).toNat))) := by
      intro b'
      simp only [usherlaw3_PctRefuses.j2, w1, w2, w3]
      by_cases c : bt s i = 37
      · rw [if_pos c]
        have ec : (cnt (bt s i :: (bytesOf s).drop (i + 1).toNat) : Int) = 1 + cnt ((bytesOf s).drop (i + 1).toNat) := by simp [cnt, c]
        rw [ec, decide_eq_true c, Bool.true_and]
        by_cases far : i + 2 ≥ (s.size : Int)
        · have tw : two ((bytesOf s).drop (i + 1).toNat) = false := by
            have hl : ((bytesOf s).drop (i + 1).toNat).length < 2 := by rw [List.length_drop, bytesOf_length]; omega
            match (bytesOf s).drop (i + 1).toNat, hl with
            | [], _ => rfl
            | [_], _ => rfl
          rw [if_pos far, tw, ih' _ _ (by omega) (by omega), Bool.not_false, Bool.or_true, show m + 1 + (cnt ((bytesOf s).drop (i + 1).toNat) : Int) = m + (1 + cnt ((bytesOf s).drop (i + 1).toNat)) by omega]
        · have hb1 := bt_range s (i + 1)
          have hb2 := bt_range s (i + 2)
          have e1 : (bytesOf s).drop (i + 1).toNat = bt s (i + 1) :: bt s (i + 2) :: (bytesOf s).drop (i + 1 + 1 + 1).toNat := by
            rw [drop_at s (i := i + 1) (by omega) (by omega), drop_at s (i := i + 1 + 1) (by omega) (by omega), show i + 1 + 1 = i + 2 by omega]
          have tw : two ((bytesOf s).drop (i + 1).toNat) = (!decide (hexv (bt s (i + 1)) > 15) && !decide (hexv (bt s (i + 2)) > 15)) := by rw [e1]; rfl
          rw [if_neg far, if_pos (by omega), if_pos (by omega), small_is _ hb1.1 hb1.2 _ (by omega)]
          simp only [Option.bind_some]
          by_cases v1 : hexv (bt s (i + 1)) > 15
          · rw [if_pos v1, tw, decide_eq_true v1, ih' _ _ (by omega) (by omega)]
            simp only [Bool.not_true, Bool.false_and, Bool.not_false, Bool.or_true]
            rw [show m + 1 + (cnt ((bytesOf s).drop (i + 1).toNat) : Int) = m + (1 + cnt ((bytesOf s).drop (i + 1).toNat)) by omega]
          · rw [if_neg v1, if_pos (by omega), if_pos (by omega), small_is _ hb2.1 hb2.2 _ (by omega)]
            simp only [Option.bind_some]
            by_cases v2 : hexv (bt s (i + 2)) > 15
            · rw [if_pos v2, tw, decide_eq_true v2, decide_eq_false v1, ih' _ _ (by omega) (by omega)]
              simp only [Bool.not_true, Bool.and_false, Bool.not_false, Bool.or_true]
              rw [show m + 1 + (cnt ((bytesOf s).drop (i + 1).toNat) : Int) = m + (1 + cnt ((bytesOf s).drop (i + 1).toNat)) by omega]
            · rw [if_neg v2, tw, decide_eq_false v2, decide_eq_false v1, ih' _ _ (by omega) (by omega)]
              simp only [Bool.not_true, Bool.and_self, Bool.not_false, Bool.or_false]
              rw [show m + 1 + (cnt ((bytesOf s).drop (i + 1).toNat) : Int) = m + (1 + cnt ((bytesOf s).drop (i + 1).toNat)) by omega]
      · rw [if_neg c, ih' _ _ (by omega) (by omega), decide_eq_false c]
        have ec : (cnt (bt s i :: (bytesOf s).drop (i + 1).toNat) : Int) = cnt ((bytesOf s).drop (i + 1).toNat) := by simp [cnt, c]
        rw [ec]
        simp
    have lead : usherlaw3_PctRefuses.l0 (k + 3) t e m b i s plus = usherlaw3_PctRefuses.j2 (k + 1) t e m (b || (decide (bt s i < 33) || decide (bt s i > 126))) i (bt s i) s plus := by
      simp only [usherlaw3_PctRefuses.l0]
      rw [if_pos hlt, if_pos h0]
      by_cases lo : bt s i < 33
      · rw [if_pos lo]
        simp [usherlaw3_PctRefuses.j1, lo]
      · rw [if_neg lo]
        by_cases hi : bt s i > 126 <;> simp [usherlaw3_PctRefuses.j1, lo, hi]
    rw [lead, step]
    simp only [bad, Bool.or_assoc]

theorem PctRefuses (s : ByteArray) (plus : Bool) (_hF : s.size ≤ 9223372036854775807 ∧ True) (hS : s.size ≤ 140737488351232 ∧ True) : ∃ k, usherlaw3_PctRefuses.f k s plus = some true := by
  obtain ⟨hn, _⟩ := hS
  refine ⟨3 * s.size + 6, ?_⟩
  unfold usherlaw3_PctRefuses.f
  rw [Unescape_is s plus hn _ (by omega)]
  simp only [Option.bind_some]
  rw [refuses_loop s _ _ plus hn s.size _ 0 false 0 (by omega) (by omega) (by omega) (by omega) (by omega) (by omega)]
  simp only [Int.toNat_zero, List.drop_zero, Bool.false_or, Int.zero_add]
  have hb := ue_bad plus _ (bytesOf s) rfl
  have hc := cnt_le (bytesOf s)
  rw [bytesOf_length] at hb hc
  by_cases b : bad (bytesOf s) = true
  · rw [hb.1 b, b]
    simp [fin, pRes, toList_data]
  · obtain ⟨m, hm, hl⟩ := hb.2 (by simpa using b)
    rw [hm]
    simp only [Bool.not_eq_true] at b
    rw [b]
    simp only [fin, pRes, Bool.false_eq_true, if_false, Option.isNone_none, if_true, List.nil_append, strOfNums_size]
    rw [wr (x := 2 * _) (by omega) (by omega), wr (by omega) (by omega)]
    simp
    omega
end Go.Proofs.YtlnjomhmffdfnaaDoor.Y
