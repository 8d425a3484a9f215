/- PctCase in plain words: the case of the digits behind a percent sign says nothing. -/
import Derived.Test.YtlnjomhmffdfnaaDoorYUnesc
-- IMPORTS
import Derived.Test.YtlnjomhmffdfnaaDoorXx6
import Derived.Test.YtlnjomhmffdfnaaDoorXx9
import Derived.Test.YtlnjomhmffdfnaaDoorXx10
namespace Go.Proofs.YtlnjomhmffdfnaaDoor.Y
open Go.RowKit Go.Proofs.YtlnjomhmffdfnaaDoorW.PrintWords Go.Proofs.YtlnjomhmffdfnaaDoorW.PrintLast Go.Proofs.YtlnjomhmffdfnaaDoor.X

def tog (c : Int) : Int := if 97 ≤ c ∧ c ≤ 102 then c - 32 else if 65 ≤ c ∧ c ≤ 70 then c + 32 else c
def tn : Int → List Int → List Int
  | _, [] => []
  | near, c :: r => (if near > 0 then tog c else c) :: tn (if (if near > 0 then tog c else c) = 37 then 2 else near - 1) r
theorem tog_range {c : Int} (h : 0 ≤ c ∧ c ≤ 255) : 0 ≤ tog c ∧ tog c ≤ 255 := by
  unfold tog
  (repeat' split) <;> omega
theorem tog_hexv (c : Int) : hexv (tog c) = hexv c := by
  unfold hexv tog
  (repeat' split) <;> omega
theorem tn_range : ∀ (l : List Int) (near : Int), (∀ c ∈ l, 0 ≤ c ∧ c ≤ 255) → ∀ c ∈ tn near l, 0 ≤ c ∧ c ≤ 255
  | [], _, _, c, hc => by simp [tn] at hc
  | x :: r, near, h, c, hc => by
    simp only [tn] at hc
    rcases List.mem_cons.1 hc with rfl | hc
    · split
      · exact tog_range (h x (List.mem_cons_self ..))
      · exact h x (List.mem_cons_self ..)
    · exact tn_range r _ (fun z hz => h z (List.mem_cons_of_mem _ hz)) c hc
theorem tn_length : ∀ (l : List Int) (near : Int), (tn near l).length = l.length
  | [], _ => rfl
  | x :: r, near => by simp [tn, tn_length r]
theorem ue_tn (plus : Bool) : ∀ (l : List Int) (near : Int) (st : Nat) (h : Int), (st = 0 ∧ near ≤ 0) ∨ (st = 1 ∧ near = 2) ∨ (st = 2 ∧ near = 1) → ue plus st h (tn near l) = ue plus st h l
  | [], near, st, h, _ => by simp [tn]
  | c :: r, near, st, h, hs => by
    rcases hs with ⟨rfl, hn⟩ | ⟨rfl, rfl⟩ | ⟨rfl, rfl⟩
    · simp only [tn, if_neg (show ¬ near > 0 by omega), ue]
      by_cases p : c = 37
      · simp only [p, if_true]
        exact ue_tn plus r 2 1 0 (.inr (.inl ⟨rfl, rfl⟩))
      · simp only [p, if_false]
        rw [ue_tn plus r (near - 1) 0 0 (.inl ⟨rfl, by omega⟩)]
    · simp only [tn, if_pos (show (2 : Int) > 0 by omega), ue, tog_hexv]
      by_cases v : hexv c > 15
      · rw [if_pos v, if_pos v]
      · rw [if_neg v, if_neg v]
        have : ¬ tog c = 37 := fun e => v (by rw [← tog_hexv, e]; decide)
        rw [if_neg this]
        exact ue_tn plus r (2 - 1) 2 _ (.inr (.inr ⟨rfl, by omega⟩))
    · simp only [tn, if_pos (show (1 : Int) > 0 by omega), ue, tog_hexv]
      by_cases v : hexv c > 15
      · rw [if_pos v, if_pos v]
      · rw [if_neg v, if_neg v]
        have : ¬ tog c = 37 := fun e => v (by rw [← tog_hexv, e]; decide)
        rw [if_neg this, ue_tn plus r (1 - 1) 0 0 (.inl ⟨rfl, by omega⟩)]

theorem turned_loop (s : ByteArray) (hn : s.size ≤ 140737488351232) (d : Nat) : ∀ (k : Nat) (acc : List Int) (near i : Int), 0 ≤ i → i ≤ s.size → (s.size : Int) - i = d → 3 * d + 3 ≤ k → (acc.length : Int) ≤ i → near ≤ 2 → -i ≤ near →
    usherlaw3_turned.l0 k s acc near i = some (strOfNums (acc ++ tn near ((bytesOf s).drop i.toNat))) := by
  induction d with
  | zero =>
    intro k acc near i h0 h1 hd hk ha hn1 hn2
    obtain ⟨k, rfl⟩ : ∃ m, k = m + 1 := ⟨k - 1, by omega⟩
    simp only [usherlaw3_turned.l0]
    rw [if_neg (by omega), drop_end s (by omega)]
    simp [tn]
  | succ d ih =>
    intro k acc near i h0 h1 hd hk ha hn1 hn2
    obtain ⟨k, rfl⟩ : ∃ m, k = m + 3 := ⟨k - 3, by omega⟩
    have hlt : i < (s.size : Int) := by omega
    have hb := bt_range s i
    have w1 : wrap64 (i + 1) = i + 1 := wr (by omega) (by omega)
    have w2 : wrap64 (near - 1) = near - 1 := wr (by omega) (by omega)
    rw [drop_at s h0 hlt]
    have next : ∀ (k' : Nat) (x near' : Int), k ≤ k' → near' ≤ 2 → -(i + 1) ≤ near' → usherlaw3_turned.l0 k' s (acc ++ [x]) near' (i + 1) = some (strOfNums (acc ++ x :: tn near' ((bytesOf s).drop (i + 1).toNat))) := by
      intro k' x near' q q1 q2
      rw [ih k' (acc ++ [x]) near' (i + 1) (by omega) (by omega) (by omega) (by omega) (by simp; omega) q1 q2]
      simp
    have room : acc.length < 140737488355328 := by omega
    -- small letters
    have small : near > 0 → 97 ≤ bt s i → bt s i ≤ 102 → usherlaw3_turned.j1 (k + 2) s acc near i (bt s i) true = some (strOfNums (acc ++ tn near (bt s i :: (bytesOf s).drop (i + 1).toNat))) := by
      intro p a b
      have e : (bt s i - 97 + 65) % 256 = bt s i - 32 := by omega
      have t : tog (bt s i) = bt s i - 32 := by unfold tog; rw [if_pos ⟨a, b⟩]
      simp only [usherlaw3_turned.j1, if_true, e, tn, if_pos p, t]
      rw [if_neg (by omega), if_pos room, w1, w2, next _ _ _ (by omega) (by omega) (by omega), if_neg (by omega)]
    have large : near > 0 → 65 ≤ bt s i → bt s i ≤ 70 → usherlaw3_turned.j2 (k + 1) s acc near i (bt s i) true = some (strOfNums (acc ++ tn near (bt s i :: (bytesOf s).drop (i + 1).toNat))) := by
      intro p a b
      have e : (bt s i - 65 + 97) % 256 = bt s i + 32 := by omega
      have t : tog (bt s i) = bt s i + 32 := by unfold tog; rw [if_neg (by omega), if_pos ⟨a, b⟩]
      simp only [usherlaw3_turned.j2, if_true, e, tn, if_pos p, t]
      rw [if_neg (by omega), if_pos room, w1, w2, next _ _ _ (by omega) (by omega) (by omega), if_neg (by omega)]
    have other : (near > 0 → tog (bt s i) = bt s i) → usherlaw3_turned.j2 (k + 1) s acc near i (bt s i) false = some (strOfNums (acc ++ tn near (bt s i :: (bytesOf s).drop (i + 1).toNat))) := by
      intro t
      have t2 : (if near > 0 then tog (bt s i) else bt s i) = bt s i := by
        split
        · exact t ‹_›
        · rfl
      simp only [usherlaw3_turned.j2, Bool.false_eq_true, if_false, tn, t2]
      by_cases c : bt s i = 37
      · rw [if_pos c, if_pos room, w1, next _ _ _ (by omega) (by omega) (by omega), if_pos c]
      · rw [if_neg c, if_pos room, w1, w2, next _ _ _ (by omega) (by omega) (by omega), if_neg c]
    have mid : (near > 0 → ¬ (97 ≤ bt s i ∧ bt s i ≤ 102)) → usherlaw3_turned.j1 (k + 2) s acc near i (bt s i) false = some (strOfNums (acc ++ tn near (bt s i :: (bytesOf s).drop (i + 1).toNat))) := by
      intro ns
      simp only [usherlaw3_turned.j1, Bool.false_eq_true, if_false]
      by_cases p : near > 0
      · rw [if_pos p]
        by_cases a : bt s i ≥ 65
        · rw [if_pos a]
          by_cases b : bt s i ≤ 70
          · rw [decide_eq_true b]
            exact large p a b
          · rw [decide_eq_false b]
            exact other (fun _ => by unfold tog; rw [if_neg (ns p), if_neg (by omega)])
        · rw [if_neg a]
          exact other (fun _ => by unfold tog; rw [if_neg (by omega), if_neg (by omega)])
      · rw [if_neg p]
        exact other (fun q => absurd q p)
    simp only [usherlaw3_turned.l0]
    rw [if_pos hlt, if_pos h0]
    by_cases p : near > 0
    · rw [if_pos p]
      by_cases a : bt s i ≥ 97
      · rw [if_pos a]
        by_cases b : bt s i ≤ 102
        · rw [decide_eq_true b]
          exact small p a b
        · rw [decide_eq_false b]
          exact mid (fun _ => by omega)
      · rw [if_neg a]
        exact mid (fun _ => by omega)
    · rw [if_neg p]
      exact mid (fun q => absurd q p)

theorem PctCase (s : ByteArray) (plus : Bool) (_hF : s.size ≤ 9223372036854775807 ∧ True) (hS : s.size ≤ 140737488351232 ∧ True) : ∃ k, usherlaw3_PctCase.f k s plus = some true := by
  obtain ⟨hn, _⟩ := hS
  refine ⟨3 * s.size + 30, ?_⟩
  unfold usherlaw3_PctCase.f
  have hc : ue plus 0 0 (bytesOf (⟨#[37, 50, 102, 37, 50, 70, 37, 99, 51]⟩ : ByteArray)) = some [47, 47, 195] := by cases plus <;> decide +kernel
  have sz : (⟨#[37, 50, 102, 37, 50, 70, 37, 99, 51]⟩ : ByteArray).size = 9 := rfl
  rw [Unescape_is _ plus (by rw [sz]; omega) _ (by rw [sz]; omega), hc]
  simp only [Option.bind_some, pRes, List.nil_append, Option.isNone_none, if_true]
  have h0 : ((strOfNums [47, 47, 195]).toList != ([47, 47, 195] : List UInt8)) = false := by rw [toList_data]; decide +kernel
  rw [h0]
  have ht : usherlaw3_turned.f (3 * s.size + 29) s = some (strOfNums (tn 0 (bytesOf s))) := by
    unfold usherlaw3_turned.f
    rw [turned_loop s hn s.size _ [] 0 0 (by omega) (by omega) (by omega) (by omega) (by simp) (by omega) (by omega)]
    simp
  have hsz : (strOfNums (tn 0 (bytesOf s))).size = s.size := by rw [strOfNums_size, tn_length, bytesOf_length]
  show usherlaw3_PctCase.j0 (3 * s.size + 29 + 1) false s plus = some true
  simp only [usherlaw3_PctCase.j0, Bool.false_eq_true, if_false]
  rw [Unescape_is s plus hn _ (by omega), ht]
  simp only [Option.bind_some]
  rw [Unescape_is _ plus (by rw [hsz]; omega) _ (by rw [hsz]; omega), bytesOf_strOfNums (tn_range _ _ (bytesOf_range s)), ue_tn plus _ 0 0 0 (.inl ⟨rfl, by omega⟩)]
  cases ue plus 0 0 (bytesOf s) with
  | none => simp [pRes, usherkit_Num.f]
  | some l => simp [pRes, usherkit_Num.f]
end Go.Proofs.YtlnjomhmffdfnaaDoor.Y
