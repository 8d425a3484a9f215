/- What Unescape answers, the program's and the document's, in plain words: byte by byte over a list. No condition. -/
import Derived.Test.YtlnjomhmffdfnaaDoorYBase
-- IMPORTS
import Derived.Test.YtlnjomhmffdfnaaDoorXx3
import Derived.Test.YtlnjomhmffdfnaaDoorXx4
namespace Go.Proofs.YtlnjomhmffdfnaaDoor.Y
open Go.RowKit Go.Proofs.YtlnjomhmffdfnaaDoorW.PrintWords Go.Proofs.YtlnjomhmffdfnaaDoorW.PrintLast Go.Proofs.YtlnjomhmffdfnaaDoor.X

/-- a hexadecimal digit's value; 16: it is none -/
def hexv (c : Int) : Int := if 48 ≤ c ∧ c ≤ 57 then c - 48 else if 65 ≤ c ∧ c ≤ 70 then c - 55 else if 97 ≤ c ∧ c ≤ 102 then c - 87 else 16
theorem hexv_range (c : Int) : 0 ≤ hexv c ∧ hexv c ≤ 16 := by
  unfold hexv
  (repeat' split) <;> omega

theorem lift {α : Type} {g : Nat → Option α} (mono : ∀ k, LeO (g k) (g (k + 1))) {K k : Nat} (hk : K ≤ k) {r : α} (h : g K = some r) : g k = some r := by
  induction k with
  | zero =>
    obtain rfl : K = 0 := by omega
    exact h
  | succ k ih =>
    rcases Nat.lt_or_ge K (k + 1) with hl | hl
    · exact mono k r (ih (by omega))
    · obtain rfl : K = k + 1 := by omega
      exact h
theorem byte_cases {p : Int → Prop} (h : ∀ c : Fin 256, p (c.val : Int)) (c : Int) (h0 : 0 ≤ c) (h1 : c ≤ 255) : p c := by
  have := h ⟨c.toNat, by omega⟩
  simpa [Int.toNat_of_nonneg h0] using this
theorem digit_is (c : Int) (h0 : 0 ≤ c) (h1 : c ≤ 255) (k : Nat) (hk : 2 ≤ k) : pct_digit.f k c = some (hexv c) :=
  lift (fun k => pct_digit.mono c k) hk (byte_cases (p := fun c => pct_digit.f 2 c = some (hexv c)) (by decide +kernel) c h0 h1)

/-- Unescape, byte by byte: the state is what is expected: 0: anything; 1: the first digit behind a percent sign; 2: the second, the first's value being h -/
def ue (plus : Bool) : Nat → Int → List Int → Option (List Int)
  | 0, _, [] => some []
  | _ + 1, _, [] => none
  | 0, _, c :: r => if c = 37 then ue plus 1 0 r else if c < 33 ∨ 126 < c then none else (ue plus 0 0 r).map ((if plus = true ∧ c = 43 then 32 else c) :: ·)
  | 1, _, c :: r => if hexv c > 15 then none else ue plus 2 (hexv c) r
  | _ + 2, h, c :: r => if hexv c > 15 then none else (ue plus 0 0 r).map ((16 * h + hexv c) :: ·)

theorem or_small (a b : Int) (ha : 0 ≤ a ∧ a ≤ 15) (hb : 0 ≤ b ∧ b ≤ 15) : Go.bits .or .u8 ((a * 16) % 256) b = 16 * a + b := by
  have key : ∀ x y : Fin 16, Go.bits .or .u8 (((x.val : Int) * 16) % 256) (y.val : Int) = 16 * (x.val : Int) + (y.val : Int) := by decide +kernel
  have := key ⟨a.toNat, by omega⟩ ⟨b.toNat, by omega⟩
  simpa [Int.toNat_of_nonneg ha.1, Int.toNat_of_nonneg hb.1] using this

/-- how the program's answer is told -/
def pRes (acc : List Int) : Option (List Int) → ByteArray × Option Int
  | some l => (strOfNums (acc ++ l), none)
  | none => ((⟨#[]⟩ : ByteArray), some 2)
def rRes (acc : List Int) : Option (List Int) → ByteArray × Int
  | some l => (strOfNums (acc ++ l), 0)
  | none => ((⟨#[]⟩ : ByteArray), 2)
theorem pRes_map (acc : List Int) (x : Int) (o : Option (List Int)) : pRes acc (o.map (x :: ·)) = pRes (acc ++ [x]) o := by cases o <;> simp [pRes]
theorem rRes_map (acc : List Int) (x : Int) (o : Option (List Int)) : rRes acc (o.map (x :: ·)) = rRes (acc ++ [x]) o := by cases o <;> simp [rRes]

theorem ue_len (plus : Bool) : ∀ (l : List Int) (s : Nat) (h : Int) (m : List Int), ue plus s h l = some m → m.length ≤ l.length := by
  intro l
  induction l with
  | nil =>
    intro s h m e
    cases s <;> simp [ue] at e
    subst e
    simp
  | cons c r ih =>
    intro s h m e
    match s with
    | 0 =>
      simp only [ue] at e
      split at e
      · have := ih _ _ _ e
        simp
        omega
      · split at e
        · cases e
        · obtain ⟨m', hm, rfl⟩ := Option.map_eq_some_iff.1 e
          have := ih _ _ _ hm
          simp
          omega
    | 1 =>
      simp only [ue] at e
      split at e
      · cases e
      · have := ih _ _ _ e
        simp
        omega
    | s + 2 =>
      simp only [ue] at e
      split at e
      · cases e
      · obtain ⟨m', hm, rfl⟩ := Option.map_eq_some_iff.1 e
        have := ih _ _ _ hm
        simp
        omega
theorem ue_range (plus : Bool) : ∀ (l : List Int) (s : Nat) (h : Int) (m : List Int), 0 ≤ h → h ≤ 15 → ue plus s h l = some m → ∀ x ∈ m, 0 ≤ x ∧ x ≤ 255 := by
  intro l
  induction l with
  | nil =>
    intro s h m _ _ e
    cases s <;> simp [ue] at e
    subst e
    simp
  | cons c r ih =>
    intro s h m h0 h1 e
    have hr := hexv_range c
    match s with
    | 0 =>
      simp only [ue] at e
      split at e
      · exact ih _ _ _ (by omega) (by omega) e
      · split at e
        · cases e
        · obtain ⟨m', hm, rfl⟩ := Option.map_eq_some_iff.1 e
          intro x hx
          rcases List.mem_cons.1 hx with rfl | hx
          · split <;> omega
          · exact ih _ _ _ (by omega) (by omega) hm x hx
    | 1 =>
      simp only [ue] at e
      split at e
      · cases e
      · exact ih _ _ _ (by omega) (by omega) e
    | s + 2 =>
      simp only [ue] at e
      split at e
      · cases e
      · obtain ⟨m', hm, rfl⟩ := Option.map_eq_some_iff.1 e
        intro x hx
        rcases List.mem_cons.1 hx with rfl | hx
        · omega
        · exact ih _ _ _ (by omega) (by omega) hm x hx

theorem ue_short (plus : Bool) (c : Int) (r : List Int) (hr : r.length < 2) (hc : c = 37) : ue plus 0 0 (c :: r) = none := by
  match r, hr with
  | [], _ => simp [ue, hc]
  | [a], _ =>
    simp only [ue, hc, if_true]
    split <;> rfl

theorem pct_loop (s : ByteArray) (plus : Bool) (hn : s.size ≤ 140737488351232) (d : Nat) : ∀ (k : Nat) (acc : List Int) (i : Int), 0 ≤ i → i ≤ s.size → (s.size : Int) - i = d → 2 * d + 4 ≤ k → (acc.length : Int) ≤ i →
    pct_Unescape.l0 k s plus acc i = some (pRes acc (ue plus 0 0 ((bytesOf s).drop i.toNat))) := by
  induction d using Nat.strongRecOn with
  | _ d ih =>
    intro k acc i h0 h1 hd hk ha
    obtain ⟨k, rfl⟩ : ∃ m, k = m + 1 := ⟨k - 1, by omega⟩
    by_cases hlt : i < (s.size : Int)
    · have hb := bt_range s i
      rw [drop_at s h0 hlt]
      simp only [pct_Unescape.l0]
      rw [if_pos hlt, if_pos h0, wr (x := i + 2) (by omega) (by omega), wr (x := i + 1) (by omega) (by omega)]
      have next : ∀ x, (if acc.length < 140737488355328 then pct_Unescape.l0 k s plus (acc ++ [x]) (i + 1) else none) = some (pRes (acc ++ [x]) (ue plus 0 0 ((bytesOf s).drop (i + 1).toNat))) := by
        intro x
        rw [if_pos (by omega)]
        exact ih (d - 1) (by omega) k (acc ++ [x]) (i + 1) (by omega) (by omega) (by omega) (by omega) (by simp; omega)
      by_cases c : bt s i = 37
      · rw [if_pos c]
        obtain ⟨k, rfl⟩ : ∃ m, k = m + 1 := ⟨k - 1, by omega⟩
        by_cases far : i + 2 ≥ (s.size : Int)
        · rw [if_pos far]
          simp only [pct_Unescape.j1, if_true]
          rw [ue_short plus _ _ (by rw [List.length_drop, bytesOf_length]; omega) c]
          rfl
        · have hb1 := bt_range s (i + 1)
          have hb2 := bt_range s (i + 2)
          have r1 := hexv_range (bt s (i + 1))
          have r2 := hexv_range (bt s (i + 2))
          rw [if_neg far, if_pos (by omega), if_pos (by omega), digit_is _ hb1.1 hb1.2 _ (by omega)]
          simp only [Option.bind_some]
          rw [drop_at s (i := i + 1) (by omega) (by omega), show i + 1 + 1 = i + 2 by omega, drop_at s (i := i + 2) (by omega) (by omega)]
          simp only [ue, c, if_true]
          by_cases v1 : hexv (bt s (i + 1)) > 15
          · rw [if_pos v1, if_pos v1]
            simp only [pct_Unescape.j1, if_true]
            rfl
          · rw [if_neg v1, if_neg v1, if_pos (by omega), if_pos (by omega), digit_is _ hb2.1 hb2.2 _ (by omega)]
            simp only [Option.bind_some]
            by_cases v2 : hexv (bt s (i + 2)) > 15
            · rw [if_pos v2]
              simp only [pct_Unescape.j1, decide_eq_true v2, if_true]
              rfl
            · rw [if_neg v2]
              simp only [pct_Unescape.j1, decide_eq_false v2, Bool.false_eq_true, if_false]
              rw [wr (x := i + 1) (by omega) (by omega), wr (x := i + 2) (by omega) (by omega), if_pos (by omega), if_pos (by omega), digit_is _ hb1.1 hb1.2 _ (by omega)]
              simp only [Option.bind_some]
              rw [if_pos (by omega), if_pos (by omega), digit_is _ hb2.1 hb2.2 _ (by omega)]
              simp only [Option.bind_some]
              rw [if_pos (by omega), or_small _ _ (by omega) (by omega), wr (x := i + 2 + 1) (by omega) (by omega), pRes_map]
              exact ih (d - 3) (by omega) k _ (i + 2 + 1) (by omega) (by omega) (by omega) (by omega) (by simp; omega)
      · rw [if_neg c]
        simp only [ue]
        rw [if_neg c]
        by_cases p : bt s i = 43
        · rw [if_pos p]
          by_cases pl : plus = true
          · rw [if_pos pl, next, if_neg (by omega), if_pos ⟨pl, p⟩, pRes_map]
          · rw [if_neg pl, if_neg (by omega), if_neg (by omega), next, if_neg (by omega), if_neg (by simp [pl]), pRes_map]
        · rw [if_neg p]
          by_cases lo : bt s i < 33
          · rw [if_pos lo, if_pos (.inl lo)]
            rfl
          · rw [if_neg lo]
            by_cases hi : bt s i > 126
            · rw [if_pos hi, if_pos (.inr hi)]
              rfl
            · rw [if_neg hi, next, if_neg (by omega), if_neg (by simp [p]), pRes_map]
    · simp only [pct_Unescape.l0]
      rw [if_neg hlt, drop_end s (by omega)]
      simp [ue, pRes]

theorem Unescape_is (s : ByteArray) (plus : Bool) (hn : s.size ≤ 140737488351232) (k : Nat) (hk : 2 * s.size + 4 ≤ k) :
    pct_Unescape.f k s plus = some (pRes [] (ue plus 0 0 (bytesOf s))) := by
  unfold pct_Unescape.f
  rw [if_pos (by omega), if_pos (by omega)]
  exact pct_loop s plus hn s.size k [] 0 (by omega) (by omega) (by omega) hk (by simp)

end Go.Proofs.YtlnjomhmffdfnaaDoor.Y
