/- TermsAnswerBack in plain words: what is put into an address is found there. Condition: pairs of together at most 2^39 bytes. -/
import Derived.Test.YtopfmcgmfnmikaaDoorYEv
import Derived.Test.YtopfmcgmfnmikaaDoorXEscape
import Derived.Test.YtopfmcgmfnmikaaDoorXForm
import Derived.Test.YtopfmcgmfnmikaaDoorXx0
import Derived.Test.YtopfmcgmfnmikaaDoorYBase
import Derived.Test.YtopfmcgmfnmikaaDoorXx10
import Derived.Test.YtopfmcgmfnmikaaDoorXx11
import Derived.Test.YtopfmcgmfnmikaaDoorYRedS
import Derived.Test.YtopfmcgmfnmikaaDoorYSp
import Derived.Test.YtopfmcgmfnmikaaDoorXx7
import Derived.Test.YtopfmcgmfnmikaaDoorXx12
import Derived.Test.YtopfmcgmfnmikaaDoorXx9
import Derived.Test.YtopfmcgmfnmikaaDoorYRedP
-- IMPORTS
namespace Go.Proofs.YtopfmcgmfnmikaaDoor.Y
open Go.RowKit Go.Proofs.YtopfmcgmfnmikaaDoorW.PrintWords Go.Proofs.YtopfmcgmfnmikaaDoorW.PrintLast Go.Proofs.YtopfmcgmfnmikaaDoor.X
def hx (n : Int) : Int := if n < 10 then 48 + n else 55 + n
def escI (plus : Bool) (c : Int) : List Int := if unres c = true then [c] else if c = 32 ∧ plus = true then [43] else [37, hx (c / 16), hx (c % 16)]
def escIL (plus : Bool) (l : List Int) : List Int := l.flatMap (escI plus)
theorem all256 {p : Nat → Prop} [DecidablePred p] (h : ∀ n : Fin 256, p n.val) (c : Int) (h0 : 0 ≤ c) (h1 : c ≤ 255) : p c.toNat := h ⟨c.toNat, by omega⟩
theorem hexU_hx : ∀ n : Fin 16, ((hexU n.val).toNat : Int) = hx (n.val : Int) := by decide +kernel
theorem esc1_map (plus : Bool) (c : UInt8) : (esc1 plus c).map (fun b => (b.toNat : Int)) = escI plus (c.toNat : Int) := by
  have hc := c.toNat_lt
  unfold esc1 escI
  by_cases u : unres (c.toNat : Int) = true
  · rw [if_pos u, if_pos u]; rfl
  · rw [if_neg u, if_neg u]
    by_cases sp : c.toNat = 32 ∧ plus = true
    · rw [if_pos sp, if_pos ⟨by omega, sp.2⟩]; rfl
    · rw [if_neg sp, if_neg (fun e => sp ⟨by omega, e.2⟩)]
      have h1 := hexU_hx ⟨c.toNat / 16, by omega⟩
      have h2 := hexU_hx ⟨c.toNat % 16, by omega⟩
      simp only [List.map_cons, List.map_nil]
      rw [h1, h2]
      simp
theorem escL_map (plus : Bool) (l : List UInt8) : (escL plus l).map (fun b => (b.toNat : Int)) = escIL plus (l.map (fun b => (b.toNat : Int))) := by
  unfold escL escIL
  induction l with
  | nil => rfl
  | cons c r ih => simp only [List.flatMap_cons, List.map_append, List.map_cons, ih, esc1_map]
theorem escape_is (s : ByteArray) (plus : Bool) (h : s.size ≤ 35184372088832) : pct_Escape.f s plus = some (strOfNums (escIL plus (bytesOf s))) := by
  unfold pct_Escape.f
  rw [if_pos h]
  congr 1
  apply bytesOf_inj
  have e : bytesOf (⟨(escL plus s.data.toList).toArray⟩ : ByteArray) = escIL plus (bytesOf s) := escL_map plus s.data.toList
  rw [← e, strOfNums_bytesOf]
end Go.Proofs.YtopfmcgmfnmikaaDoor.Y
-- IMPORTS
namespace Go.Proofs.YtopfmcgmfnmikaaDoor.Y
open Go.RowKit Go.Proofs.YtopfmcgmfnmikaaDoorW.PrintWords Go.Proofs.YtopfmcgmfnmikaaDoorW.PrintLast Go.Proofs.YtopfmcgmfnmikaaDoor.X
def partI (p : S29) : List Int := escIL true (bytesOf p.f0) ++ ([61] ++ escIL true (bytesOf p.f1))
def formI : Bool → List S29 → List Int
  | _, [] => []
  | b, p :: r => (if b = true then [] else [38]) ++ (partI p ++ formI false r)
theorem formF_map : ∀ (l : List S29) (b : Bool), (formF b l).map (fun b => (b.toNat : Int)) = formI b l
  | [], _ => rfl
  | p :: r, b => by
    have h1 : ∀ (s : ByteArray), (escL true s.data.toList).map (fun b => (b.toNat : Int)) = escIL true (bytesOf s) := fun s => escL_map true s.data.toList
    have h2 : (if b = true then ([] : List UInt8) else [38]).map (fun b => (b.toNat : Int)) = if b = true then [] else [38] := by split <;> rfl
    simp only [formF, formI, partL, partI, List.map_append, formF_map r false, h1, h2]
    rfl
theorem form_is (l : List S29) (h : (l.map wgt).sum ≤ 35184372088832) (h2 : l.length ≤ 9223372036854775807) : pct_Form.f l = some (strOfNums (formI true l)) := by
  unfold pct_Form.f
  rw [if_pos ⟨h, h2⟩]
  congr 1
  apply bytesOf_inj
  have e : bytesOf (⟨(formF true l).toArray⟩ : ByteArray) = formI true l := formF_map l true
  rw [← e, strOfNums_bytesOf]
theorem escI_range (plus : Bool) {c : Int} (h : 0 ≤ c ∧ c ≤ 255) : ∀ x ∈ escI plus c, 0 ≤ x ∧ x ≤ 255 := by
  intro x hxm
  unfold escI hx at hxm
  split at hxm
  · simp only [List.mem_singleton] at hxm; omega
  · split at hxm
    · simp only [List.mem_singleton] at hxm; omega
    · simp only [List.mem_cons, List.not_mem_nil, or_false] at hxm
      rcases hxm with rfl | rfl | rfl
      · omega
      · split <;> omega
      · split <;> omega
theorem escIL_range (plus : Bool) (s : ByteArray) : ∀ x ∈ escIL plus (bytesOf s), 0 ≤ x ∧ x ≤ 255 := by
  intro x hxm
  obtain ⟨c, hc, hx⟩ := List.mem_flatMap.1 hxm
  exact escI_range plus (bytesOf_range s c hc) x hx
theorem escIL_le (plus : Bool) (s : ByteArray) : (escIL plus (bytesOf s)).length ≤ 3 * s.size := by
  have e : escIL plus (bytesOf s) = (escL plus s.data.toList).map (fun b => (b.toNat : Int)) := (escL_map plus s.data.toList).symm
  have := escL_le plus s.data.toList
  rw [size_data] at this
  rw [e, List.length_map]
  exact this
theorem wgt_sum (l : List S29) : (l.map wgt).sum ≤ 3 * (l.map (fun p => p.f0.size + 1 + (p.f1.size + 1) + 1)).sum := by
  induction l with
  | nil => simp
  | cons p r ih => simp only [List.map_cons, List.sum_cons, wgt] at ih ⊢; omega
theorem len_sum (l : List S29) : l.length ≤ (l.map wgt).sum := by
  induction l with
  | nil => simp
  | cons p r ih => simp only [List.length_cons, List.map_cons, List.sum_cons, wgt] at ih ⊢; omega
theorem partI_range (p : S29) : ∀ x ∈ partI p, 0 ≤ x ∧ x ≤ 255 := by
  intro x hx
  unfold partI at hx
  rcases List.mem_append.1 hx with h | h
  · exact escIL_range true p.f0 x h
  · rcases List.mem_append.1 h with h | h
    · rw [List.mem_singleton] at h; omega
    · exact escIL_range true p.f1 x h
theorem formI_range : ∀ (l : List S29) (b : Bool), ∀ x ∈ formI b l, 0 ≤ x ∧ x ≤ 255
  | [], _ => by simp [formI]
  | p :: r, b => by
    intro x hx
    simp only [formI] at hx
    rcases List.mem_append.1 hx with h | h
    · split at h
      · cases h
      · rw [List.mem_singleton] at h; omega
    · rcases List.mem_append.1 h with h | h
      · exact partI_range p x h
      · exact formI_range r false x h
theorem formI_le (l : List S29) : (formI true l).length ≤ (l.map wgt).sum := by
  rw [← formF_map l true, List.length_map]
  exact formF_le l true
end Go.Proofs.YtopfmcgmfnmikaaDoor.Y
-- IMPORTS
namespace Go.Proofs.YtopfmcgmfnmikaaDoor.Y
open Go.RowKit Go.Proofs.YtopfmcgmfnmikaaDoorW.PrintWords Go.Proofs.YtopfmcgmfnmikaaDoorW.PrintLast Go.Proofs.YtopfmcgmfnmikaaDoor.X

/-- a hexadecimal digit's value; 16: it is none -/
def hexv (c : Int) : Int := if 48 ≤ c ∧ c ≤ 57 then c - 48 else if 65 ≤ c ∧ c ≤ 70 then c - 55 else if 97 ≤ c ∧ c ≤ 102 then c - 87 else 16
theorem hexv_range (c : Int) : 0 ≤ hexv c ∧ hexv c ≤ 16 := by
  unfold hexv
  (repeat' split) <;> omega

theorem lift {α : Type} {g : Nat → Option α} (mono : ∀ k, LeO (g k) (g (k + 1))) {K k : Nat} (hk : K ≤ k) {r : α} (h : g K = some r) : g k = some r := by
  induction k with
  | zero =>
    obtain rfl : K = 0 := by omega
    exact h
  | succ k ih =>
    rcases Nat.lt_or_ge K (k + 1) with hl | hl
    · exact mono k r (ih (by omega))
    · obtain rfl : K = k + 1 := by omega
      exact h
theorem byte_cases {p : Int → Prop} (h : ∀ c : Fin 256, p (c.val : Int)) (c : Int) (h0 : 0 ≤ c) (h1 : c ≤ 255) : p c := by
  have := h ⟨c.toNat, by omega⟩
  simpa [Int.toNat_of_nonneg h0] using this
theorem digit_is (c : Int) (h0 : 0 ≤ c) (h1 : c ≤ 255) (k : Nat) (hk : 2 ≤ k) : pct_digit.f k c = some (hexv c) :=
  lift (fun k => pct_digit.mono c k) hk (byte_cases (p := fun c => pct_digit.f 2 c = some (hexv c)) (by decide +kernel) c h0 h1)

/-- Unescape, byte by byte: the state is what is expected: 0: anything; 1: the first digit behind a percent sign; 2: the second, the first's value being h -/
def ue (plus : Bool) : Nat → Int → List Int → Option (List Int)
  | 0, _, [] => some []
  | _ + 1, _, [] => none
  | 0, _, c :: r => if c = 37 then ue plus 1 0 r else if c < 33 ∨ 126 < c then none else (ue plus 0 0 r).map ((if plus = true ∧ c = 43 then 32 else c) :: ·)
  | 1, _, c :: r => if hexv c > 15 then none else ue plus 2 (hexv c) r
  | _ + 2, h, c :: r => if hexv c > 15 then none else (ue plus 0 0 r).map ((16 * h + hexv c) :: ·)

theorem or_small (a b : Int) (ha : 0 ≤ a ∧ a ≤ 15) (hb : 0 ≤ b ∧ b ≤ 15) : Go.bits .or .u8 ((a * 16) % 256) b = 16 * a + b := by
  have key : ∀ x y : Fin 16, Go.bits .or .u8 (((x.val : Int) * 16) % 256) (y.val : Int) = 16 * (x.val : Int) + (y.val : Int) := by decide +kernel
  have := key ⟨a.toNat, by omega⟩ ⟨b.toNat, by omega⟩
  simpa [Int.toNat_of_nonneg ha.1, Int.toNat_of_nonneg hb.1] using this

/-- how the program's answer is told -/
def pRes (acc : List Int) : Option (List Int) → ByteArray × Option Int
  | some l => (strOfNums (acc ++ l), none)
  | none => ((⟨#[]⟩ : ByteArray), some 2)
def rRes (acc : List Int) : Option (List Int) → ByteArray × Int
  | some l => (strOfNums (acc ++ l), 0)
  | none => ((⟨#[]⟩ : ByteArray), 2)
theorem pRes_map (acc : List Int) (x : Int) (o : Option (List Int)) : pRes acc (o.map (x :: ·)) = pRes (acc ++ [x]) o := by cases o <;> simp [pRes]
theorem rRes_map (acc : List Int) (x : Int) (o : Option (List Int)) : rRes acc (o.map (x :: ·)) = rRes (acc ++ [x]) o := by cases o <;> simp [rRes]

theorem ue_len (plus : Bool) : ∀ (l : List Int) (s : Nat) (h : Int) (m : List Int), ue plus s h l = some m → m.length ≤ l.length := by
  intro l
  induction l with
  | nil =>
    intro s h m e
    cases s <;> simp [ue] at e
    subst e
    simp
  | cons c r ih =>
    intro s h m e
    match s with
    | 0 =>
      simp only [ue] at e
      split at e
      · have := ih _ _ _ e
        simp
        omega
      · split at e
        · cases e
        · obtain ⟨m', hm, rfl⟩ := Option.map_eq_some_iff.1 e
          have := ih _ _ _ hm
          simp
          omega
    | 1 =>
      simp only [ue] at e
      split at e
      · cases e
      · have := ih _ _ _ e
        simp
        omega
    | s + 2 =>
      simp only [ue] at e
      split at e
      · cases e
      · obtain ⟨m', hm, rfl⟩ := Option.map_eq_some_iff.1 e
        have := ih _ _ _ hm
        simp
        omega
theorem ue_range (plus : Bool) : ∀ (l : List Int) (s : Nat) (h : Int) (m : List Int), 0 ≤ h → h ≤ 15 → ue plus s h l = some m → ∀ x ∈ m, 0 ≤ x ∧ x ≤ 255 := by
  intro l
  induction l with
  | nil =>
    intro s h m _ _ e
    cases s <;> simp [ue] at e
    subst e
    simp
  | cons c r ih =>
    intro s h m h0 h1 e
    have hr := hexv_range c
    match s with
    | 0 =>
      simp only [ue] at e
      split at e
      · exact ih _ _ _ (by omega) (by omega) e
      · split at e
        · cases e
        · obtain ⟨m', hm, rfl⟩ := Option.map_eq_some_iff.1 e
          intro x hx
          rcases List.mem_cons.1 hx with rfl | hx
          · split <;> omega
          · exact ih _ _ _ (by omega) (by omega) hm x hx
    | 1 =>
      simp only [ue] at e
      split at e
      · cases e
      · exact ih _ _ _ (by omega) (by omega) e
    | s + 2 =>
      simp only [ue] at e
      split at e
      · cases e
      · obtain ⟨m', hm, rfl⟩ := Option.map_eq_some_iff.1 e
        intro x hx
        rcases List.mem_cons.1 hx with rfl | hx
        · omega
        · exact ih _ _ _ (by omega) (by omega) hm x hx

theorem ue_short (plus : Bool) (c : Int) (r : List Int) (hr : r.length < 2) (hc : c = 37) : ue plus 0 0 (c :: r) = none := by
  match r, hr with
  | [], _ => simp [ue, hc]
  | [a], _ =>
    simp only [ue, hc, if_true]
    split <;> rfl

theorem pct_loop (s : ByteArray) (plus : Bool) (hn : s.size ≤ 140737488351232) (d : Nat) : ∀ (k : Nat) (acc : List Int) (i : Int), 0 ≤ i → i ≤ s.size → (s.size : Int) - i = d → 2 * d + 4 ≤ k → (acc.length : Int) ≤ i →
    pct_Unescape.l0 k s plus acc i = some (pRes acc (ue plus 0 0 ((bytesOf s).drop i.toNat))) := by
  induction d using Nat.strongRecOn with
  | _ d ih =>
    intro k acc i h0 h1 hd hk ha
    obtain ⟨k, rfl⟩ : ∃ m, k = m + 1 := ⟨k - 1, by omega⟩
    by_cases hlt : i < (s.size : Int)
    · have hb := bt_range s i
      rw [drop_at s h0 hlt]
      simp only [pct_Unescape.l0]
      rw [if_pos hlt, if_pos h0, wr (x := i + 2) (by omega) (by omega), wr (x := i + 1) (by omega) (by omega)]
      have next : ∀ x, (if acc.length < 140737488355328 then pct_Unescape.l0 k s plus (acc ++ [x]) (i + 1) else none) = some (pRes (acc ++ [x]) (ue plus 0 0 ((bytesOf s).drop (i + 1).toNat))) := by
        intro x
        rw [if_pos (by omega)]
        exact ih (d - 1) (by omega) k (acc ++ [x]) (i + 1) (by omega) (by omega) (by omega) (by omega) (by simp; omega)
      by_cases c : bt s i = 37
      · rw [if_pos c]
        obtain ⟨k, rfl⟩ : ∃ m, k = m + 1 := ⟨k - 1, by omega⟩
        by_cases far : i + 2 ≥ (s.size : Int)
        · rw [if_pos far]
          simp only [pct_Unescape.j1, if_true]
          rw [ue_short plus _ _ (by rw [List.length_drop, bytesOf_length]; omega) c]
          rfl
        · have hb1 := bt_range s (i + 1)
          have hb2 := bt_range s (i + 2)
          have r1 := hexv_range (bt s (i + 1))
          have r2 := hexv_range (bt s (i + 2))
          rw [if_neg far, if_pos (by omega), if_pos (by omega), digit_is _ hb1.1 hb1.2 _ (by omega)]
          simp only [Option.bind_some]
          rw [drop_at s (i := i + 1) (by omega) (by omega), show i + 1 + 1 = i + 2 by omega, drop_at s (i := i + 2) (by omega) (by omega)]
          simp only [ue, c, if_true]
          by_cases v1 : hexv (bt s (i + 1)) > 15
          · rw [if_pos v1, if_pos v1]
            simp only [pct_Unescape.j1, if_true]
            rfl
          · rw [if_neg v1, if_neg v1, if_pos (by omega), if_pos (by omega), digit_is _ hb2.1 hb2.2 _ (by omega)]
            simp only [Option.bind_some]
            by_cases v2 : hexv (bt s (i + 2)) > 15
            · rw [if_pos v2]
              simp only [pct_Unescape.j1, decide_eq_true v2, if_true]
              rfl
            · rw [if_neg v2]
              simp only [pct_Unescape.j1, decide_eq_false v2, Bool.false_eq_true, if_false]
              rw [wr (x := i + 1) (by omega) (by omega), wr (x := i + 2) (by omega) (by omega), if_pos (by omega), if_pos (by omega), digit_is _ hb1.1 hb1.2 _ (by omega)]
              simp only [Option.bind_some]
              rw [if_pos (by omega), if_pos (by omega), digit_is _ hb2.1 hb2.2 _ (by omega)]
              simp only [Option.bind_some]
              rw [if_pos (by omega), or_small _ _ (by omega) (by omega), wr (x := i + 2 + 1) (by omega) (by omega), pRes_map]
              exact ih (d - 3) (by omega) k _ (i + 2 + 1) (by omega) (by omega) (by omega) (by omega) (by simp; omega)
      · rw [if_neg c]
        simp only [ue]
        rw [if_neg c]
        by_cases p : bt s i = 43
        · rw [if_pos p]
          by_cases pl : plus = true
          · rw [if_pos pl, next, if_neg (by omega), if_pos ⟨pl, p⟩, pRes_map]
          · rw [if_neg pl, if_neg (by omega), if_neg (by omega), next, if_neg (by omega), if_neg (by simp [pl]), pRes_map]
        · rw [if_neg p]
          by_cases lo : bt s i < 33
          · rw [if_pos lo, if_pos (.inl lo)]
            rfl
          · rw [if_neg lo]
            by_cases hi : bt s i > 126
            · rw [if_pos hi, if_pos (.inr hi)]
              rfl
            · rw [if_neg hi, next, if_neg (by omega), if_neg (by simp [p]), pRes_map]
    · simp only [pct_Unescape.l0]
      rw [if_neg hlt, drop_end s (by omega)]
      simp [ue, pRes]

theorem Unescape_is (s : ByteArray) (plus : Bool) (hn : s.size ≤ 140737488351232) (k : Nat) (hk : 2 * s.size + 4 ≤ k) :
    pct_Unescape.f k s plus = some (pRes [] (ue plus 0 0 (bytesOf s))) := by
  unfold pct_Unescape.f
  rw [if_pos (by omega), if_pos (by omega)]
  exact pct_loop s plus hn s.size k [] 0 (by omega) (by omega) (by omega) hk (by simp)

end Go.Proofs.YtopfmcgmfnmikaaDoor.Y
set_option linter.unusedSimpArgs false
namespace Go.Proofs.YtopfmcgmfnmikaaDoor.Y
open Go.RowKit Go.Proofs.YtopfmcgmfnmikaaDoorW.PrintWords Go.Proofs.YtopfmcgmfnmikaaDoorW.PrintLast Go.Proofs.YtopfmcgmfnmikaaDoor.X
theorem bs_append (m : ByteArray) : ∀ (a : List Int) (k : Nat) (b : List Int), bs m k a = true → bs m k (a ++ b) = bs m 0 b
  | [], 0, b, _ => rfl
  | [], _ + 1, b, h => by simp [bs] at h
  | c :: r, 0, b, h => by
    simp only [List.cons_append, bs] at h ⊢
    by_cases h1 : okB m c = true
    · rw [if_pos h1] at h ⊢; exact bs_append m r 0 b h
    · rw [if_neg h1] at h ⊢
      by_cases h2 : c = 37
      · rw [if_pos h2] at h ⊢; exact bs_append m r 1 b h
      · rw [if_neg h2] at h; cases h
  | c :: r, 1, b, h => by
    simp only [List.cons_append, bs] at h ⊢
    by_cases h1 : hexaB c = true
    · rw [if_pos h1] at h ⊢; exact bs_append m r 2 b h
    · rw [if_neg h1] at h; cases h
  | c :: r, _ + 2, b, h => by
    simp only [List.cons_append, bs] at h ⊢
    by_cases h1 : hexaB c = true
    · rw [if_pos h1] at h ⊢; exact bs_append m r 0 b h
    · rw [if_neg h1] at h; cases h
theorem unres_ok {c : Int} (h0 : 0 ≤ c) (h1 : c ≤ 255) (h : unres c = true) : okB P2 c = true := by
  have key : ∀ n : Fin 256, unres ((n.val : Nat) : Int) = true → okB P2 ((n.val : Nat) : Int) = true := by decide +kernel
  have := key ⟨c.toNat, by omega⟩
  rw [show ((c.toNat : Nat) : Int) = c by omega] at this
  exact this h
theorem hx_hexa {n : Int} (h0 : 0 ≤ n) (h1 : n ≤ 15) : hexaB (hx n) = true := by
  have key : ∀ n : Fin 16, hexaB (hx ((n.val : Nat) : Int)) = true := by decide +kernel
  have := key ⟨n.toNat, by omega⟩
  rwa [show ((n.toNat : Nat) : Int) = n by omega] at this
theorem esc_ok {c : Int} (h : 0 ≤ c ∧ c ≤ 255) : bs P2 0 (escI true c) = true := by
  unfold escI
  by_cases u : unres c = true
  · rw [if_pos u, bs_ok (unres_ok h.1 h.2 u)]; rfl
  · rw [if_neg u]
    by_cases sp : c = 32 ∧ True
    · rw [if_pos (by simpa using sp)]; decide
    · rw [if_neg (by simpa using sp), bs_pct (by decide) rfl, bs_one, if_pos (hx_hexa (by omega) (by omega)), bs_two, if_pos (hx_hexa (by omega) (by omega))]
      rfl
theorem escL_ok : ∀ (l : List Int), (∀ c ∈ l, 0 ≤ c ∧ c ≤ 255) → bs P2 0 (escIL true l) = true
  | [], _ => rfl
  | c :: r, h => by
    have e : escIL true (c :: r) = escI true c ++ escIL true r := by simp [escIL]
    rw [e, bs_append P2 _ 0 _ (esc_ok (h c (List.mem_cons_self ..)))]
    exact escL_ok r (fun x hx => h x (List.mem_cons_of_mem _ hx))
theorem part_ok (p : S29) : bs P2 0 (partI p) = true := by
  unfold partI
  rw [bs_append P2 _ 0 _ (escL_ok _ (bytesOf_range p.f0)), List.singleton_append, bs_ok (by decide)]
  exact escL_ok _ (bytesOf_range p.f1)
theorem form_ok : ∀ (l : List S29) (b : Bool), bs P2 0 (formI b l) = true
  | [], _ => rfl
  | p :: r, b => by
    have ih := form_ok r false
    cases b with
    | true =>
      simp only [formI, if_true, List.nil_append]
      rw [bs_append P2 _ 0 _ (part_ok p)]; exact ih
    | false =>
      simp only [formI, Bool.false_eq_true, if_false, List.singleton_append]
      rw [bs_ok (by decide), bs_append P2 _ 0 _ (part_ok p)]; exact ih
/-- what is put behind an address -/
def markI (l : List Int) : List Int := if dw 63 l = [] then [63] else if (dw 63 l).drop 1 = [] then [] else [38]
theorem answered {l f : List Int} (h : refRed l = true) (hf : bs P2 0 f = true) : refRed (l ++ (markI l ++ f)) = true ∧ tw 63 (l ++ (markI l ++ f)) = tw 63 l ∧ (dw 63 (l ++ (markI l ++ f))).drop 1 = (dw 63 l).drop 1 ++ ((if (dw 63 l).drop 1 = [] then [] else [38]) ++ f) := by
  obtain ⟨hl, hb, ht⟩ := base_split l
  have key : tw 63 (l ++ (markI l ++ f)) = tw 63 l ∧ (dw 63 (l ++ (markI l ++ f))).drop 1 = (dw 63 l).drop 1 ++ ((if (dw 63 l).drop 1 = [] then [] else [38]) ++ f) := by
    unfold markI
    rcases ht with h0 | ⟨q, h0⟩
    · rw [if_pos h0]
      have hl2 : l = tw 63 l := by rw [h0, List.append_nil] at hl; exact hl
      have e := tw_app (b := tw 63 l) (t := 63 :: f) hb (.inr ⟨f, rfl⟩)
      rw [← hl2] at e
      rw [List.singleton_append, e.1, e.2, h0]
      exact ⟨hl2, rfl⟩
    · have hne : dw 63 l ≠ [] := by rw [h0]; simp
      rw [if_neg hne]
      have e := tw_app (b := tw 63 l) (t := dw 63 l ++ ((if (dw 63 l).drop 1 = [] then [] else [38]) ++ f)) hb (.inr ⟨q ++ ((if (dw 63 l).drop 1 = [] then [] else [38]) ++ f), by rw [h0]; rfl⟩)
      rw [← List.append_assoc, ← hl] at e
      refine ⟨e.1, ?_⟩
      rw [e.2, h0]
      rfl
  refine ⟨?_, key.1, key.2⟩
  unfold refRed at h ⊢
  rw [key.1, key.2]
  simp only [Bool.and_eq_true] at h ⊢
  refine ⟨?_, h.2⟩
  rw [bs_append P2 _ 0 _ h.1]
  by_cases e : (dw 63 l).drop 1 = []
  · rw [if_pos e]; exact hf
  · rw [if_neg e, List.singleton_append, bs_ok (by decide)]; exact hf
end Go.Proofs.YtopfmcgmfnmikaaDoor.Y
-- IMPORTS
namespace Go.Proofs.YtopfmcgmfnmikaaDoor.Y
open Go.RowKit Go.Proofs.YtopfmcgmfnmikaaDoorW.PrintWords Go.Proofs.YtopfmcgmfnmikaaDoorW.PrintLast Go.Proofs.YtopfmcgmfnmikaaDoor.X
/-- Unescape of Escape, byte by byte -/
theorem unres_fact : ∀ n : Fin 256, unres (n.val : Int) = true → (n.val : Int) ≠ 37 ∧ (n.val : Int) ≠ 43 ∧ 33 ≤ (n.val : Int) ∧ (n.val : Int) ≤ 126 := by decide +kernel
theorem hexv_hx : ∀ n : Fin 16, hexv (hx (n.val : Int)) = (n.val : Int) := by decide +kernel
theorem ue_esc1 (plus : Bool) (c : Int) (h : 0 ≤ c ∧ c ≤ 255) (r : List Int) : ue plus 0 0 (escI plus c ++ r) = (ue plus 0 0 r).map (c :: ·) := by
  unfold escI
  by_cases u : unres c = true
  · rw [if_pos u]
    obtain ⟨h1, h2, h3, h4⟩ := byte_cases (p := fun c => unres c = true → c ≠ 37 ∧ c ≠ 43 ∧ 33 ≤ c ∧ c ≤ 126) unres_fact c h.1 h.2 u
    simp only [List.singleton_append, ue]
    rw [if_neg h1, if_neg (by omega), if_neg (fun e => h2 e.2)]
  · rw [if_neg u]
    by_cases sp : c = 32 ∧ plus = true
    · rw [if_pos sp]
      obtain ⟨rfl, rfl⟩ := sp
      simp [ue]
    · rw [if_neg sp]
      have e1 := hexv_hx ⟨(c / 16).toNat, by omega⟩
      have e2 := hexv_hx ⟨(c % 16).toNat, by omega⟩
      simp only at e1 e2
      rw [show ((c / 16).toNat : Int) = c / 16 by omega] at e1
      rw [show ((c % 16).toNat : Int) = c % 16 by omega] at e2
      simp only [List.cons_append, List.nil_append, ue, if_true, e1, e2]
      rw [if_neg (by omega), if_neg (by omega), show 16 * (c / 16) + c % 16 = c by omega]
theorem ue_esc (plus : Bool) : ∀ (l : List Int), (∀ c ∈ l, 0 ≤ c ∧ c ≤ 255) → ue plus 0 0 (escIL plus l) = some l
  | [], _ => rfl
  | c :: r, h => by
    have e : escIL plus (c :: r) = escI plus c ++ escIL plus r := by simp [escIL]
    rw [e, ue_esc1 plus c (h c (List.mem_cons_self ..)), ue_esc plus r (fun x hx => h x (List.mem_cons_of_mem _ hx))]
    rfl
end Go.Proofs.YtopfmcgmfnmikaaDoor.Y
-- IMPORTS
namespace Go.Proofs.YtopfmcgmfnmikaaDoor.Y
open Go.RowKit Go.Proofs.YtopfmcgmfnmikaaDoorW.PrintWords Go.Proofs.YtopfmcgmfnmikaaDoorW.PrintLast Go.Proofs.YtopfmcgmfnmikaaDoor.X
def cutP (l : List Int) : List Int × List Int := (l.takeWhile (fun x => decide (x ≠ 61)), (l.dropWhile (fun x => decide (x ≠ 61))).drop 1)
theorem cutP_at : ∀ (a b : List Int), (∀ x ∈ a, x ≠ 61) → cutP (a ++ 61 :: b) = (a, b)
  | [], b, _ => by simp [cutP]
  | x :: a, b, h => by
    have ih := cutP_at a b (fun y hy => h y (List.mem_cons_of_mem _ hy))
    have hx : decide (x ≠ 61) = true := decide_eq_true (h x (List.mem_cons_self ..))
    simp only [cutP, Prod.mk.injEq] at ih
    simp only [cutP, List.cons_append, List.takeWhile_cons, List.dropWhile_cons, hx, if_true, ih.1, ih.2]
theorem cutP_none : ∀ (a : List Int), (∀ x ∈ a, x ≠ 61) → cutP a = (a, [])
  | [], _ => rfl
  | x :: a, h => by
    have ih := cutP_none a (fun y hy => h y (List.mem_cons_of_mem _ hy))
    have hx : decide (x ≠ 61) = true := decide_eq_true (h x (List.mem_cons_self ..))
    simp only [cutP, Prod.mk.injEq] at ih
    simp only [cutP, List.takeWhile_cons, List.dropWhile_cons, hx, if_true, ih.1, ih.2]
theorem cut_is (s : ByteArray) (hs : s.size ≤ 1099511627776) : ∃ u v b, strings_Cut.f s ⟨#[61]⟩ = some (u, v, b) ∧ bytesOf u = (cutP (bytesOf s)).1 ∧ bytesOf v = (cutP (bytesOf s)).2 ∧ u.size ≤ s.size ∧ v.size ≤ s.size := by
  have hix : stringslite_Index.f s ⟨#[61]⟩ = some (Lib.indexByte s.data.toList 61) := rfl
  rcases index_cases s 61 with ⟨h1, h2⟩ | ⟨t, h1, h2, h3, h4⟩
  · refine ⟨s, ⟨#[]⟩, false, ?_, ?_, ?_, Nat.le_refl _, Nat.zero_le _⟩
    · simp only [strings_Cut.f, stringslite_Cut.f, hix, h1, Option.bind_some]
      rfl
    all_goals
      rw [cutP_none]
      first | rfl | skip
    all_goals
      intro x hx
      obtain ⟨j, hj⟩ := List.getElem?_of_mem hx
      have hlt := (List.getElem?_eq_some_iff.1 hj).1
      rw [bytesOf_length] at hlt
      have := bt_get s (i := (j : Int)) (by omega) (by omega)
      rw [Int.toNat_natCast, hj] at this
      rw [Option.some.inj this]
      exact h2 _ (by omega) (by omega)
  · have hj := join_at s t h2 h3
    have hz2 : (s.extract (t + 1) s.size).size = s.size - (t + 1) := by rw [ByteArray.size_extract]; omega
    have hz : (s.extract 0 t).size = t := by rw [ByteArray.size_extract]; omega
    have hf : ∀ x ∈ bytesOf (s.extract 0 t), x ≠ 61 := fun x hx => by
      rw [bytesOf_extract, List.drop_zero, Nat.sub_zero] at hx
      obtain ⟨j, hj⟩ := List.getElem?_of_mem hx
      have hlt := (List.getElem?_eq_some_iff.1 hj).1
      rw [List.length_take, bytesOf_length] at hlt
      rw [List.getElem?_take, if_pos (by omega)] at hj
      have := bt_get s (i := (j : Int)) (by omega) (by omega)
      rw [Int.toNat_natCast, hj] at this
      rw [Option.some.inj this]
      exact h4 _ (by omega) (by omega)
    have hc := cutP_at _ (bytesOf (s.extract (t + 1) s.size)) hf
    have h61 : (((61 : UInt8).toNat : Nat) : Int) = 61 := rfl
    rw [h61] at hj
    refine ⟨s.extract 0 t, s.extract (t + 1) s.size, true, ?_, by rw [hj, hc], by rw [hj, hc], by omega, by omega⟩
    simp only [strings_Cut.f, stringslite_Cut.f, hix, h1, Option.bind_some]
    have e1 : ((⟨#[61]⟩ : ByteArray).size : Int) = 1 := rfl
    rw [e1, wr (by omega) (by omega), if_pos (by omega), if_pos (by omega), if_pos (by omega), if_pos (by omega), if_pos (by omega)]
    simp only [Option.bind_some, Int.toNat_natCast, show ((t : Int) + 1).toNat = t + 1 by omega]
def oneB (x : ByteArray) : Option S29 := match ue true 0 0 (cutP (bytesOf x)).1 with
  | none => none
  | some a => match ue true 0 0 (cutP (bytesOf x)).2 with
    | none => none
    | some b => some ⟨strOfNums a, strOfNums b⟩
def allB : List ByteArray → Option (List S29)
  | [] => some []
  | x :: r => if x.toList = [] then allB r else match oneB x with
    | none => none
    | some p => (allB r).map (p :: ·)
def cntB : List ByteArray → Nat
  | [] => 0
  | x :: r => if x.toList = [] then cntB r else cntB r + 1
theorem cntB_le : ∀ l, cntB l ≤ l.length
  | [] => Nat.le_refl _
  | x :: r => by
    have := cntB_le r
    simp only [cntB, List.length_cons]
    split <;> omega
def resB (acc : List S29) : Option (List S29) → List S29 × Option Int
  | some ps => (acc ++ ps, none)
  | none => ([], some 2)
theorem resB_map (acc : List S29) (p : S29) (o : Option (List S29)) : resB acc (o.map (p :: ·)) = resB (acc ++ [p]) o := by cases o <;> simp [resB]
theorem pairs1_loop (P : List ByteArray) (hP : ∀ x ∈ P, x.size ≤ 1099511627776) (hl : P.length ≤ 2199023255552) (d : Nat) : ∀ (acc : List S29) (i : Int), 0 ≤ i → (P.length : Int) - i = d → (acc.length : Int) ≤ i →
    Ev (fun k => pct_Pairs.l1 k acc P (P.length : Int) i) (resB acc (allB (P.drop i.toNat))) := by
  induction d with
  | zero =>
    intro acc i h0 hd ha
    refine Ev.succ ?_
    simp only [pct_Pairs.l1]
    rw [drop_le P (by omega)]
    simp only [allB, resB, List.append_nil]
    exact Ev.neg (by omega) (Ev.pure _)
  | succ d ih =>
    intro acc i h0 hd ha
    have hlt : i < P.length := by omega
    have hx := hP _ (rd_mem ByteArray.empty P h0 hlt)
    rw [drop_rd ByteArray.empty P h0 hlt]
    obtain ⟨x, hxe⟩ : ∃ x, rdOf ByteArray.empty P i = x := ⟨_, rfl⟩
    rw [hxe] at hx ⊢
    refine Ev.succ ?_
    simp only [pct_Pairs.l1, hxe]
    rw [wr (x := i + 1) (by omega) (by omega)]
    refine Ev.pos hlt (Ev.pos h0 (Ev.pos hlt (Ev.ite (fun e => ?_) (fun e => ?_))))
    · simp only [allB, e, if_true]
      exact ih acc (i + 1) (by omega) (by omega) (by omega)
    · obtain ⟨u, v, b, hc, hu, hv, hus, hvs⟩ := cut_is x hx
      have ev : ∀ z : ByteArray, z.size ≤ 1099511627776 → Ev (fun k => pct_Unescape.f k z true) (pRes [] (ue true 0 0 (bytesOf z))) := fun z hz => ⟨2 * z.size + 4, fun k hk => Unescape_is z true (by omega) k hk⟩
      refine Ev.bind (f := fun _ => strings_Cut.f x ⟨#[61]⟩) (r := (u, v, b)) (Ev.of_eq fun _ => hc) (Ev.bind (ev u (by omega)) ?_)
      simp only [allB, e, if_false, oneB]
      rw [← hu, ← hv]
      cases h1 : ue true 0 0 (bytesOf u) with
      | none =>
        simp only [pRes, resB]
        exact Ev.neg (by simp) (Ev.of_eq fun _ => rfl)
      | some a =>
        simp only [pRes, List.nil_append]
        refine Ev.pos rfl (Ev.bind (ev v (by omega)) ?_)
        cases h2 : ue true 0 0 (bytesOf v) with
        | none =>
          simp only [pRes, resB]
          exact Ev.neg (by simp) (Ev.of_eq fun _ => rfl)
        | some b' =>
          simp only [pRes, List.nil_append]
          refine Ev.pos rfl (Ev.pos (by omega) ?_)
          rw [resB_map]
          exact ih (acc ++ [⟨strOfNums a, strOfNums b'⟩]) (i + 1) (by omega) (by omega) (by simp; omega)
theorem pairs0_loop (P : List ByteArray) (hP : ∀ x ∈ P, x.size ≤ 1099511627776) (hl : P.length ≤ 2199023255552) (d : Nat) : ∀ (n i : Int) (R : List S29 × Option Int), 0 ≤ i → (P.length : Int) - i = d → 0 ≤ n → n ≤ i →
    (n + cntB (P.drop i.toNat) > 32 → R = ([], some 3)) → (¬ n + cntB (P.drop i.toNat) > 32 → R = resB [] (allB P)) → Ev (fun k => pct_Pairs.l0 k P n P (P.length : Int) i) R := by
  induction d with
  | zero =>
    intro n i R h0 hd hn hni g1 g2
    refine Ev.succ ?_
    simp only [pct_Pairs.l0]
    rw [drop_le P (by omega)] at g1 g2
    have hz : cntB [] = 0 := rfl
    rw [hz] at g1 g2
    refine Ev.neg (by omega) ?_
    by_cases e : n > 32
    · rw [g1 (by omega)]
      exact Ev.pos e (Ev.pure _)
    · rw [g2 (by omega)]
      refine Ev.neg e (Ev.pos hn (Ev.pos (by omega) ?_))
      have := pairs1_loop P hP hl P.length [] 0 (Int.le_refl _) (by omega) (by simp)
      exact this
  | succ d ih =>
    intro n i R h0 hd hn hni g1 g2
    have hlt : i < P.length := by omega
    rw [drop_rd ByteArray.empty P h0 hlt] at g1 g2
    obtain ⟨x, hxe⟩ : ∃ x, rdOf ByteArray.empty P i = x := ⟨_, rfl⟩
    rw [hxe] at g1 g2
    refine Ev.succ ?_
    simp only [pct_Pairs.l0, hxe]
    rw [wr (x := i + 1) (by omega) (by omega), wr (x := n + 1) (by omega) (by omega)]
    refine Ev.pos hlt (Ev.pos h0 (Ev.pos hlt (Ev.ite (fun e => ?_) (fun e => ?_))))
    · have hc : cntB (x :: P.drop (i + 1).toNat) = cntB (P.drop (i + 1).toNat) := by simp only [cntB, e, if_true]
      rw [hc] at g1 g2
      exact ih n (i + 1) R (by omega) (by omega) hn (by omega) g1 g2
    · have hc : cntB (x :: P.drop (i + 1).toNat) = cntB (P.drop (i + 1).toNat) + 1 := by simp only [cntB, e, if_false]
      rw [hc] at g1 g2
      exact ih (n + 1) (i + 1) R (by omega) (by omega) (by omega) (by omega) (fun h => g1 (by omega)) (fun h => g2 (by omega))
def pcs (s : ByteArray) : List ByteArray := (sp 38 (bytesOf s)).map strOfNums
def prs (P : List ByteArray) : List S29 × Option Int := if 32 < cntB P then ([], some 3) else resB [] (allB P)
theorem sp_sub (c : Int) : ∀ l, ∀ q ∈ sp c l, q.length ≤ l.length
  | [] => by simp [sp]
  | x :: r => by
    have ih := sp_sub c r
    intro q hq
    by_cases e : x = c
    · simp only [sp, if_pos e] at hq
      rcases List.mem_cons.1 hq with rfl | hq
      · simp
      · have := ih q hq
        simp only [List.length_cons]
        omega
    · obtain ⟨g, t, ht⟩ := sp_cons c r
      rw [sp_cons_ne e ht] at hq
      rw [ht] at ih
      rcases List.mem_cons.1 hq with rfl | hq
      · have := ih g (List.mem_cons_self ..)
        simp only [List.length_cons]
        omega
      · have := ih q (List.mem_cons_of_mem _ hq)
        simp only [List.length_cons]
        omega
theorem pairs_is (s : ByteArray) (hs : s.size ≤ 1099511627776) : Ev (fun k => pct_Pairs.f k s) (prs (pcs s)) := by
  simp only [pct_Pairs.f]
  refine Ev.bind (split_is s 38 hs) ?_
  have hlen : (pcs s).length ≤ 2199023255552 := by
    unfold pcs
    rw [List.length_map, sp_length]
    have : (bytesOf s).count 38 ≤ (bytesOf s).length := List.count_le_length
    rw [bytesOf_length] at this
    omega
  have hP : ∀ x ∈ pcs s, x.size ≤ 1099511627776 := fun x hx => by
    obtain ⟨q, hq, rfl⟩ := List.mem_map.1 hx
    have := sp_sub 38 (bytesOf s) q hq
    rw [bytesOf_length] at this
    rw [strOfNums_size]
    omega
  refine pairs0_loop (pcs s) hP hlen (pcs s).length 0 0 (prs (pcs s)) (Int.le_refl _) (by omega) (Int.le_refl _) (Int.le_refl _) (fun h => ?_) (fun h => ?_)
  · unfold prs
    rw [Int.toNat_zero, List.drop_zero] at h
    rw [if_pos (by omega)]
  · unfold prs
    rw [Int.toNat_zero, List.drop_zero] at h
    rw [if_neg (by omega)]
end Go.Proofs.YtopfmcgmfnmikaaDoor.Y
-- IMPORTS
set_option linter.unusedSimpArgs false
set_option linter.unusedVariables false
namespace Go.Proofs.YtopfmcgmfnmikaaDoor.Y
open Go.RowKit Go.Proofs.YtopfmcgmfnmikaaDoorW.PrintWords Go.Proofs.YtopfmcgmfnmikaaDoorW.PrintLast Go.Proofs.YtopfmcgmfnmikaaDoor.X
theorem unres_free : ∀ n : Fin 256, unres (n.val : Int) = true → (n.val : Int) ≠ 38 ∧ (n.val : Int) ≠ 61 := by decide +kernel
theorem hx_free : ∀ n : Fin 16, hx (n.val : Int) ≠ 38 ∧ hx (n.val : Int) ≠ 61 := by decide +kernel
theorem escI_free (plus : Bool) {c : Int} (h : 0 ≤ c ∧ c ≤ 255) : ∀ x ∈ escI plus c, x ≠ 38 ∧ x ≠ 61 := by
  intro x hxm
  unfold escI at hxm
  by_cases u : unres c = true
  · rw [if_pos u, List.mem_singleton] at hxm
    rw [hxm]
    exact byte_cases (p := fun c => unres c = true → c ≠ 38 ∧ c ≠ 61) unres_free c h.1 h.2 u
  · rw [if_neg u] at hxm
    split at hxm
    · rw [List.mem_singleton] at hxm
      omega
    · simp only [List.mem_cons, List.not_mem_nil, or_false] at hxm
      have e1 := hx_free ⟨(c / 16).toNat, by omega⟩
      have e2 := hx_free ⟨(c % 16).toNat, by omega⟩
      simp only at e1 e2
      rw [show ((c / 16).toNat : Int) = c / 16 by omega] at e1
      rw [show ((c % 16).toNat : Int) = c % 16 by omega] at e2
      rcases hxm with rfl | rfl | rfl
      · omega
      · exact e1
      · exact e2
theorem escIL_free (plus : Bool) (s : ByteArray) : ∀ x ∈ escIL plus (bytesOf s), x ≠ 38 ∧ x ≠ 61 := by
  intro x hxm
  obtain ⟨c, hc, hx⟩ := List.mem_flatMap.1 hxm
  exact escI_free plus (bytesOf_range s c hc) x hx
theorem partI_free (p : S29) : ∀ x ∈ partI p, x ≠ 38 := by
  intro x hx
  unfold partI at hx
  rcases List.mem_append.1 hx with h | h
  · exact (escIL_free true p.f0 x h).1
  · rcases List.mem_append.1 h with h | h
    · rw [List.mem_singleton] at h; omega
    · exact (escIL_free true p.f1 x h).1
theorem formI_sp : ∀ (r : List S29) (p : S29), sp 38 (partI p ++ formI false r) = partI p :: r.map partI
  | [], p => by
    simp only [formI, List.append_nil, List.map_nil]
    exact sp_only 38 _ (partI_free p)
  | q :: r, p => by
    simp only [formI, if_neg Bool.false_ne_true, List.singleton_append, List.map_cons]
    rw [sp_first 38 _ _ (partI_free p), formI_sp r q]
theorem oneB_part (p : S29) : oneB (strOfNums (partI p)) = some p := by
  unfold oneB
  rw [bytesOf_strOfNums (partI_range p)]
  have hc : cutP (partI p) = (escIL true (bytesOf p.f0), escIL true (bytesOf p.f1)) := cutP_at _ _ (fun x hx => (escIL_free true p.f0 x hx).2)
  rw [hc]
  simp only [ue_esc true _ (bytesOf_range p.f0), ue_esc true _ (bytesOf_range p.f1), strOfNums_bytesOf]
theorem part_ne (p : S29) : (strOfNums (partI p)).toList ≠ [] := by
  intro h
  rw [empty_bytes, bytesOf_strOfNums (partI_range p)] at h
  unfold partI at h
  simp at h
theorem allB_parts : ∀ (l : List S29), allB (l.map (fun p => strOfNums (partI p))) = some l
  | [] => rfl
  | p :: r => by simp only [List.map_cons, allB, part_ne p, if_false, oneB_part, allB_parts r, Option.map_some]
theorem cntB_parts : ∀ (l : List S29), cntB (l.map (fun p => strOfNums (partI p))) = l.length
  | [] => rfl
  | p :: r => by simp only [List.map_cons, cntB, part_ne p, if_false, cntB_parts r, List.length_cons]
theorem pcs_form (l : List S29) (h : l ≠ []) : pcs (strOfNums (formI true l)) = l.map (fun p => strOfNums (partI p)) := by
  unfold pcs
  rw [bytesOf_strOfNums (formI_range l true)]
  obtain ⟨p, r, rfl⟩ := List.exists_cons_of_ne_nil h
  have : formI true (p :: r) = partI p ++ formI false r := by simp [formI]
  rw [this, formI_sp r p]
  simp
theorem prs_form (l : List S29) : prs (pcs (strOfNums (formI true l))) = if 32 < l.length then ([], some 3) else (l, none) := by
  by_cases h : l = []
  · subst h
    have e : pcs (strOfNums (formI true [])) = [(⟨#[]⟩ : ByteArray)] := rfl
    have ht : (⟨#[]⟩ : ByteArray).toList = [] := (empty_iff _).2 rfl
    rw [e]
    simp [prs, cntB, allB, ht, resB]
  · rw [pcs_form l h]
    unfold prs
    rw [cntB_parts, allB_parts]
    simp only [resB, List.nil_append]
theorem cntB_append : ∀ (a b : List ByteArray), cntB (a ++ b) = cntB a + cntB b
  | [], b => by simp [cntB]
  | x :: a, b => by
    have := cntB_append a b
    simp only [List.cons_append, cntB, this]
    split <;> omega
theorem allB_append : ∀ (a b : List ByteArray), allB (a ++ b) = match allB a with
    | none => none
    | some l => (allB b).map (l ++ ·)
  | [], b => by simp [allB]
  | x :: a, b => by
    have ih := allB_append a b
    by_cases e : x.toList = []
    · simp only [List.cons_append, allB, e, if_true, ih]
    · simp only [List.cons_append, allB, e, if_false, ih]
      cases oneB x with
      | none => rfl
      | some p => cases allB a with
        | none => rfl
        | some l => cases allB b <;> simp
theorem allB_length : ∀ (a : List ByteArray) (l : List S29), allB a = some l → l.length = cntB a
  | [], l, h => by simp only [allB, Option.some.injEq] at h; rw [← h]; rfl
  | x :: a, l, h => by
    by_cases e : x.toList = []
    · simp only [allB, e, if_true] at h
      simp only [cntB, e, if_true]
      exact allB_length a l h
    · simp only [allB, e, if_false] at h
      simp only [cntB, e, if_false]
      cases ho : oneB x with
      | none => rw [ho] at h; cases h
      | some p =>
        rw [ho] at h
        cases ha : allB a with
        | none => rw [ha] at h; cases h
        | some m =>
          rw [ha] at h
          simp only [Option.map_some, Option.some.injEq] at h
          rw [← h, List.length_cons, allB_length a m ha]
theorem prs_cases (P : List ByteArray) : (32 < cntB P ∧ prs P = ([], some 3)) ∨ (cntB P ≤ 32 ∧ allB P = none ∧ prs P = ([], some 2)) ∨ (cntB P ≤ 32 ∧ ∃ ps, allB P = some ps ∧ prs P = (ps, none) ∧ ps.length = cntB P) := by
  unfold prs
  by_cases h : 32 < cntB P
  · exact .inl ⟨h, if_pos h⟩
  · rw [if_neg h]
    cases ha : allB P with
    | none => exact .inr (.inl ⟨by omega, rfl, rfl⟩)
    | some ps => exact .inr (.inr ⟨by omega, ps, rfl, rfl, allB_length P ps ha⟩)
theorem bs_cut (m : ByteArray) {c : Int} (hc : hexaB c = false) : ∀ (a : List Int) (k : Nat) (b : List Int), bs m k (a ++ c :: b) = true → bs m k a = true ∧ bs m 0 (c :: b) = true
  | [], 0, b, h => ⟨rfl, h⟩
  | [], 1, b, h => by simp only [List.nil_append, bs, hc] at h; cases h
  | [], _ + 2, b, h => by simp only [List.nil_append, bs, hc] at h; cases h
  | x :: r, 0, b, h => by
    simp only [List.cons_append, bs] at h ⊢
    by_cases h1 : okB m x = true
    · rw [if_pos h1] at h ⊢; exact bs_cut m hc r 0 b h
    · rw [if_neg h1] at h ⊢
      by_cases h2 : x = 37
      · rw [if_pos h2] at h ⊢; exact bs_cut m hc r 1 b h
      · rw [if_neg h2] at h; cases h
  | x :: r, 1, b, h => by
    simp only [List.cons_append, bs] at h ⊢
    by_cases h1 : hexaB x = true
    · rw [if_pos h1] at h ⊢; exact bs_cut m hc r 2 b h
    · rw [if_neg h1] at h; cases h
  | x :: r, _ + 2, b, h => by
    simp only [List.cons_append, bs] at h ⊢
    by_cases h1 : hexaB x = true
    · rw [if_pos h1] at h ⊢; exact bs_cut m hc r 0 b h
    · rw [if_neg h1] at h; cases h
theorem at_first (c : Int) : ∀ l : List Int, c ∉ l ∨ ∃ a r, l = a ++ c :: r ∧ ∀ x ∈ a, x ≠ c
  | [] => .inl (by simp)
  | x :: r => by
    by_cases e : x = c
    · exact .inr ⟨[], r, by rw [e]; rfl, by simp⟩
    · rcases at_first c r with h | ⟨a, b, h, h2⟩
      · exact .inl (by simp [h, Ne.symm e])
      · refine .inr ⟨x :: a, b, by rw [h]; rfl, fun y hy => ?_⟩
        rcases List.mem_cons.1 hy with rfl | hy
        · exact e
        · exact h2 y hy
theorem bs_sp : ∀ (n : Nat) (l : List Int), l.length ≤ n → bs P2 0 l = true → ∀ q ∈ sp 38 l, bs P2 0 q = true := by
  intro n
  induction n with
  | zero =>
    intro l hl h q hq
    rw [List.length_eq_zero_iff.1 (by omega : l.length = 0)] at hq
    simp only [sp, List.mem_singleton] at hq
    rw [hq]; rfl
  | succ n ih =>
    intro l hl h q hq
    rcases at_first 38 l with h1 | ⟨a, r, h1, h2⟩
    · rw [sp_only 38 l (fun x hx e => h1 (by rw [← e]; exact hx)), List.mem_singleton] at hq
      rw [hq]; exact h
    · subst h1
      rw [sp_first 38 a r h2] at hq
      obtain ⟨k1, k2⟩ := bs_cut P2 (c := 38) (by decide) a 0 r h
      rw [bs_ok (by decide)] at k2
      rcases List.mem_cons.1 hq with rfl | hq
      · exact k1
      · exact ih r (by simp only [List.length_append, List.length_cons] at hl; omega) k2 q hq
theorem bs_cutP {l : List Int} (h : bs P2 0 l = true) : bs P2 0 (cutP l).1 = true ∧ bs P2 0 (cutP l).2 = true := by
  rcases at_first 61 l with h1 | ⟨a, r, h1, h2⟩
  · rw [cutP_none l (fun x hx e => h1 (by rw [← e]; exact hx))]
    exact ⟨h, rfl⟩
  · subst h1
    rw [cutP_at a r h2]
    obtain ⟨k1, k2⟩ := bs_cut P2 (c := 61) (by decide) a 0 r h
    rw [bs_ok (by decide)] at k2
    exact ⟨k1, k2⟩
theorem ok_plain {c : Int} (h0 : 0 ≤ c) (h1 : c ≤ 255) (h : okB P2 c = true) : c ≠ 37 ∧ 33 ≤ c ∧ c ≤ 126 := by
  have key : ∀ n : Fin 256, okB P2 ((n.val : Nat) : Int) = true → ((n.val : Nat) : Int) ≠ 37 ∧ 33 ≤ ((n.val : Nat) : Int) ∧ ((n.val : Nat) : Int) ≤ 126 := by decide +kernel
  have := key ⟨c.toNat, by omega⟩
  rw [show ((c.toNat : Nat) : Int) = c by omega] at this
  exact this h
theorem hexa_v {c : Int} (h : hexaB c = true) : ¬ hexv c > 15 := by
  simp only [hexaB, decide_eq_true_eq] at h
  unfold hexv
  (repeat' split) <;> omega
theorem bs_ue : ∀ (l : List Int) (k : Nat) (h : Int), (∀ c ∈ l, 0 ≤ c ∧ c ≤ 255) → k ≤ 2 → bs P2 k l = true → ∃ r, ue true k h l = some r
  | [], 0, _, _, _, _ => ⟨[], rfl⟩
  | [], _ + 1, _, _, _, e => by simp [bs] at e
  | c :: r, k, h, hb, hk, e => by
    have ih := fun k' h' hk' e' => bs_ue r k' h' (fun x hx => hb x (List.mem_cons_of_mem _ hx)) hk' e'
    have h3 : k = 0 ∨ k = 1 ∨ k = 2 := by omega
    rcases h3 with rfl | rfl | rfl
    · by_cases ho : okB P2 c = true
      · rw [bs_ok ho] at e
        obtain ⟨q1, q2, q3⟩ := ok_plain (hb c (List.mem_cons_self ..)).1 (hb c (List.mem_cons_self ..)).2 ho
        obtain ⟨m, hm⟩ := ih 0 0 (by omega) e
        simp only [ue]
        rw [if_neg q1, if_neg (by omega), hm]
        exact ⟨_, rfl⟩
      · have ho : okB P2 c = false := Bool.eq_false_iff.2 ho
        by_cases h37 : c = 37
        · rw [bs_pct ho h37] at e
          simp only [ue]
          rw [if_pos h37]
          exact ih 1 0 (by omega) e
        · rw [bs_no ho h37] at e; cases e
    · rw [bs_one] at e
      by_cases ho : hexaB c = true
      · rw [if_pos ho] at e
        simp only [ue]
        rw [if_neg (hexa_v ho)]
        exact ih 2 _ (by omega) e
      · rw [if_neg ho] at e; cases e
    · rw [bs_two] at e
      by_cases ho : hexaB c = true
      · rw [if_pos ho] at e
        obtain ⟨m, hm⟩ := ih 0 0 (by omega) e
        simp only [ue]
        rw [if_neg (hexa_v ho), hm]
        exact ⟨_, rfl⟩
      · rw [if_neg ho] at e; cases e
theorem oneB_ok {x : ByteArray} (h : bs P2 0 (bytesOf x) = true) : ∃ p, oneB x = some p := by
  obtain ⟨k1, k2⟩ := bs_cutP h
  have hr := bytesOf_range x
  obtain ⟨a, ha⟩ := bs_ue (cutP (bytesOf x)).1 0 0 (fun c hc => hr c ((List.takeWhile_sublist _).subset hc)) (by omega) k1
  obtain ⟨b, hb⟩ := bs_ue (cutP (bytesOf x)).2 0 0 (fun c hc => hr c ((List.dropWhile_sublist _).subset (List.mem_of_mem_drop hc))) (by omega) k2
  unfold oneB
  rw [ha, hb]
  exact ⟨_, rfl⟩
theorem allB_ok : ∀ (P : List ByteArray), (∀ x ∈ P, ∃ p, oneB x = some p) → ∃ ps, allB P = some ps
  | [], _ => ⟨[], rfl⟩
  | x :: r, h => by
    obtain ⟨ps, hps⟩ := allB_ok r (fun y hy => h y (List.mem_cons_of_mem _ hy))
    obtain ⟨p, hp⟩ := h x (List.mem_cons_self ..)
    simp only [allB]
    by_cases e : x.toList = []
    · rw [if_pos e]; exact ⟨ps, hps⟩
    · rw [if_neg e, hp, hps]; exact ⟨_, rfl⟩
theorem own_ok {s : ByteArray} (h : bs P2 0 (bytesOf s) = true) : ∃ ps, allB (pcs s) = some ps ∧ ps.length = cntB (pcs s) ∧ prs (pcs s) = if 32 < cntB (pcs s) then ([], some 3) else (ps, none) := by
  obtain ⟨ps, hps⟩ := allB_ok (pcs s) (fun x hx => by
    obtain ⟨q, hq, rfl⟩ := List.mem_map.1 hx
    apply oneB_ok
    rw [bytesOf_strOfNums (sp_mem 38 (bytesOf s) (bytesOf_range s) q hq)]
    exact bs_sp _ (bytesOf s) (Nat.le_refl _) h q hq)
  refine ⟨ps, hps, allB_length _ _ hps, ?_⟩
  unfold prs
  rw [hps]
  rfl
theorem answered_pairs {own query : ByteArray} {l : List S29} (hl : l ≠ []) (h : bs P2 0 (bytesOf own) = true) (hq : bytesOf query = bytesOf own ++ ((if bytesOf own = [] then [] else [38]) ++ formI true l)) {ps : List S29} (hps : allB (pcs own) = some ps) :
    prs (pcs query) = if 32 < cntB (pcs own) + l.length then ([], some 3) else (ps ++ l, none) := by
  have hz : pcs query = (if bytesOf own = [] then [] else pcs own) ++ l.map (fun p => strOfNums (partI p)) := by
    have e := pcs_form l hl
    unfold pcs at e ⊢
    rw [bytesOf_strOfNums (formI_range l true)] at e
    rw [hq]
    by_cases e0 : bytesOf own = []
    · rw [if_pos e0, if_pos e0, e0]
      exact e
    · rw [if_neg e0, if_neg e0, List.singleton_append, sp_append, List.map_append, e]
  have hc : cntB (if bytesOf own = [] then [] else pcs own) = cntB (pcs own) := by
    by_cases e0 : bytesOf own = []
    · rw [if_pos e0]
      unfold pcs
      rw [e0]
      simp [sp, cntB, strOfNums_nil, (empty_iff (⟨#[]⟩ : ByteArray)).2 rfl]
    · rw [if_neg e0]
  have ha : allB (if bytesOf own = [] then [] else pcs own) = some ps := by
    by_cases e0 : bytesOf own = []
    · rw [if_pos e0, ← hps]
      unfold pcs
      rw [e0]
      simp [sp, allB, strOfNums_nil, (empty_iff (⟨#[]⟩ : ByteArray)).2 rfl]
    · rw [if_neg e0]; exact hps
  rw [hz]
  unfold prs
  rw [cntB_append, allB_append, hc, ha, cntB_parts, allB_parts]
  rfl
end Go.Proofs.YtopfmcgmfnmikaaDoor.Y
-- IMPORTS
namespace Go.Proofs.YtopfmcgmfnmikaaDoor.Y
open Go.RowKit Go.Proofs.YtopfmcgmfnmikaaDoorW.PrintWords Go.Proofs.YtopfmcgmfnmikaaDoorW.PrintLast Go.Proofs.YtopfmcgmfnmikaaDoor.X
theorem samePairs_loop (l : List S29) (hl : l.length < 9223372036854775807) (d : Nat) : ∀ (i : Int), 0 ≤ i → (l.length : Int) - i = d →
    Ev (fun k => usherref0_SamePairs.l0 k l l i) true := by
  induction d with
  | zero =>
    intro i h0 hd
    refine Ev.succ ?_
    simp only [usherref0_SamePairs.l0]
    exact Ev.neg (by omega) (Ev.pure _)
  | succ d ih =>
    intro i h0 hd
    have hlt : i < l.length := by omega
    refine Ev.succ ?_
    simp only [usherref0_SamePairs.l0]
    refine Ev.pos hlt (Ev.pos h0 (Ev.pos hlt (Ev.neg (by simp) ?_)))
    rw [wr (by omega) (by omega)]
    exact ih (i + 1) (by omega) (by omega)
theorem samePairs_self (l : List S29) (hl : l.length < 9223372036854775807) : Ev (fun k => usherref0_SamePairs.f k l l) true := by
  simp only [usherref0_SamePairs.f]
  exact Ev.pos trivial (samePairs_loop l hl l.length 0 (Int.le_refl _) (by omega))
end Go.Proofs.YtopfmcgmfnmikaaDoor.Y
-- IMPORTS
set_option linter.unusedSimpArgs false
namespace Go.Proofs.YtopfmcgmfnmikaaDoor.Y
open Go.RowKit Go.Proofs.YtopfmcgmfnmikaaDoorW.PrintWords Go.Proofs.YtopfmcgmfnmikaaDoorW.PrintLast Go.Proofs.YtopfmcgmfnmikaaDoor.X
def isRed (s : ByteArray) : Bool := decide (s.size ≤ 512) && progRed (bytesOf s)
def ansT (s : ByteArray) (l : List S29) : ByteArray := strOfNums (bytesOf s ++ (markI (bytesOf s) ++ formI true l))
def ansW (s : ByteArray) (l : List S29) : ByteArray × Option Int :=
  if isRed s = true then (if (l.length : Int) > 32 then (⟨#[]⟩, some 3) else if (l.length : Int) = 0 then (s, none) else (ansT s l, none)) else (⟨#[]⟩, some 2)
theorem ansT_bytes (s : ByteArray) (l : List S29) : bytesOf (ansT s l) = bytesOf s ++ (markI (bytesOf s) ++ formI true l) := by
  unfold ansT
  apply bytesOf_strOfNums
  intro c hc
  rcases List.mem_append.1 hc with hc | hc
  · exact bytesOf_range s c hc
  · rcases List.mem_append.1 hc with hc | hc
    · unfold markI at hc
      repeat' split at hc
      all_goals simp only [List.mem_singleton, List.not_mem_nil] at hc
      all_goals omega
    · exact formI_range l true c hc
theorem ansT_app (s : ByteArray) (l : List S29) (m : ByteArray) (h : bytesOf m = markI (bytesOf s)) : (s ++ m) ++ strOfNums (formI true l) = ansT s l := by
  apply bytesOf_inj
  rw [ansT_bytes, bytesOf_append, bytesOf_append, bytesOf_strOfNums (formI_range l true), h, List.append_assoc]
theorem tans_is (s : ByteArray) (l : List S29) (h : (l.map wgt).sum ≤ 35184372088832) : Ev (fun k => terms_Answer.f k s l) (ansW s l) := by
  have hlen := len_sum l
  have hfl := formI_le l
  simp only [terms_Answer.f]
  unfold ansW isRed
  refine Ev.bind (red_is s) (Ev.ite (fun hr => ?_) (fun hr => ?_))
  · rw [if_pos hr]
    simp only [Bool.and_eq_true, decide_eq_true_eq] at hr
    obtain ⟨hs, hp⟩ := hr
    refine Ev.ite (fun e => ?_) (fun e => ?_)
    · rw [if_pos e]; exact Ev.pure _
    · rw [if_neg e]
      refine Ev.ite (fun e2 => ?_) (fun e2 => ?_)
      · rw [if_pos e2]; exact Ev.pure _
      · rw [if_neg e2]
        obtain ⟨a, b, o, hsp, ha, hb, _, _, ho⟩ := tsplit_is s (by omega)
        refine Ev.bind (Ev.of_eq fun _ => hsp) ?_
        have hf : pct_Form.f l = some (strOfNums (formI true l)) := form_is l h (by omega)
        have hz : (strOfNums (formI true l)).size ≤ 35184372088832 := by rw [strOfNums_size]; omega
        have z0 : (⟨#[]⟩ : ByteArray).size = 0 := rfl
        have z1 : (⟨#[38]⟩ : ByteArray).size = 1 := rfl
        have z2 : (⟨#[63]⟩ : ByteArray).size = 1 := rfl
        refine Ev.ite (fun e3 => ?_) (fun e3 => ?_)
        · refine Ev.ite (fun e4 => ?_) (fun e4 => ?_)
          · refine Ev.pos (by omega) (Ev.bind (Ev.of_eq fun _ => hf) (Ev.pos (by rw [size_append, z0]; omega) ?_))
            rw [ansT_app s l ⟨#[]⟩]
            · exact Ev.pure _
            · unfold markI
              rw [if_neg (ho.1 e3), ← hb, if_pos ((empty_bytes b).1 e4)]
              rfl
          · refine Ev.pos (by omega) (Ev.bind (Ev.of_eq fun _ => hf) (Ev.pos (by rw [size_append, z1]; omega) ?_))
            rw [ansT_app s l ⟨#[38]⟩]
            · exact Ev.pure _
            · unfold markI
              rw [if_neg (ho.1 e3), ← hb, if_neg (fun h => e4 ((empty_bytes b).2 h))]
              rfl
        · refine Ev.pos (by omega) (Ev.bind (Ev.of_eq fun _ => hf) (Ev.pos (by rw [size_append, z2]; omega) ?_))
          rw [ansT_app s l ⟨#[63]⟩]
          · exact Ev.pure _
          · unfold markI
            rw [if_pos (Classical.byContradiction fun h => e3 (ho.2 h))]
            rfl
  · rw [if_neg hr]; exact Ev.pure _
theorem ansT_red {s : ByteArray} {l : List S29} (h : isRed s = true) : progRed (bytesOf (ansT s l)) = true ∧ tw 63 (bytesOf (ansT s l)) = tw 63 (bytesOf s) ∧ (dw 63 (bytesOf (ansT s l))).drop 1 = (dw 63 (bytesOf s)).drop 1 ++ ((if (dw 63 (bytesOf s)).drop 1 = [] then [] else [38]) ++ formI true l) := by
  unfold isRed at h
  simp only [Bool.and_eq_true, decide_eq_true_eq] at h
  rw [ansT_bytes, red_eq]
  exact answered (by rw [← red_eq]; exact h.2) (form_ok l true)
end Go.Proofs.YtopfmcgmfnmikaaDoor.Y
-- IMPORTS
set_option linter.unusedSimpArgs false
set_option linter.unusedVariables false
namespace Go.Proofs.YtopfmcgmfnmikaaDoor.Y
open Go.RowKit Go.Proofs.YtopfmcgmfnmikaaDoorW.PrintWords Go.Proofs.YtopfmcgmfnmikaaDoorW.PrintLast Go.Proofs.YtopfmcgmfnmikaaDoor.X
theorem rd_mk9 (l : List S29) (i : Int) : (⟨(rd_T29 l i).f0, (rd_T29 l i).f1⟩ : S29) = rdOf z29 l i := rfl
theorem copied9_loop (l : List S29) (hl : l.length < 4398046511104) (d : Nat) : ∀ (acc : List S29) (i : Int), 0 ≤ i → (l.length : Int) - i = d → acc.length = i.toNat →
    Ev (fun k => usherlaw9_copiedPairs.l0 k l acc i) (acc ++ l.drop i.toNat) := by
  induction d with
  | zero =>
    intro acc i h0 hd ha
    refine Ev.succ ?_
    simp only [usherlaw9_copiedPairs.l0]
    rw [drop_le l (by omega), List.append_nil]
    exact Ev.neg (by omega) (Ev.pure _)
  | succ d ih =>
    intro acc i h0 hd ha
    have hlt : i < l.length := by omega
    refine Ev.succ ?_
    simp only [usherlaw9_copiedPairs.l0, rd_mk9]
    refine Ev.pos hlt (Ev.pos h0 (Ev.pos (by omega) ?_))
    rw [wr (by omega) (by omega), drop_rd z29 l h0 hlt]
    have := ih (acc ++ [rdOf z29 l i]) (i + 1) (by omega) (by omega) (by simp; omega)
    simpa only [List.append_assoc, List.singleton_append] using this
theorem copied9_is (l : List S29) (hl : l.length < 4398046511104) : Ev (fun k => usherlaw9_copiedPairs.f k l) l :=
  copied9_loop l hl l.length [] 0 (Int.le_refl _) (by omega) rfl
theorem tsplit_big (s : ByteArray) (hs : s.size ≤ 4611686018427387904) : ∃ (a b : ByteArray) (o : Bool), terms_Split.f s = some (a, b, o) ∧ bytesOf a = tw 63 (bytesOf s) ∧ bytesOf b = (dw 63 (bytesOf s)).drop 1 ∧ a.size ≤ s.size ∧ b.size ≤ s.size ∧ (o = true ↔ dw 63 (bytesOf s) ≠ []) := by
  have hix : stringslite_Index.f s ⟨#[63]⟩ = some (Lib.indexByte s.data.toList 63) := rfl
  have h63 : (((63 : UInt8).toNat : Nat) : Int) = 63 := rfl
  rcases index_cases s 63 with ⟨h1, h2⟩ | ⟨t, h1, h2, h3, h4⟩
  · rw [h63] at h2
    have hno : ∀ x ∈ bytesOf s, x ≠ 63 := fun x hx => by
      obtain ⟨j, hj⟩ := List.getElem?_of_mem hx
      have hlt := (List.getElem?_eq_some_iff.1 hj).1
      rw [bytesOf_length] at hlt
      have := bt_get s (i := (j : Int)) (by omega) (by omega)
      rw [Int.toNat_natCast, hj] at this
      rw [Option.some.inj this]
      exact h2 _ (by omega) (by omega)
    obtain ⟨e1, e2⟩ := tw_app (t := []) hno (.inl rfl)
    rw [List.append_nil] at e1 e2
    refine ⟨s, ⟨#[]⟩, false, ?_, e1.symm, by rw [e2]; rfl, Nat.le_refl _, Nat.zero_le _, by simp [e2]⟩
    simp only [terms_Split.f, strings_Cut.f, stringslite_Cut.f, hix, h1, Option.bind_some]
    rfl
  · rw [h63] at h3 h4
    have hj := join_at s t h2 h3
    have hz2 : (s.extract (t + 1) s.size).size = s.size - (t + 1) := by rw [ByteArray.size_extract]; omega
    have hz : (s.extract 0 t).size = t := by rw [ByteArray.size_extract]; omega
    have hf : ∀ x ∈ bytesOf (s.extract 0 t), x ≠ 63 := fun x hx => by
      rw [bytesOf_extract, List.drop_zero, Nat.sub_zero] at hx
      obtain ⟨j, hj⟩ := List.getElem?_of_mem hx
      have hlt := (List.getElem?_eq_some_iff.1 hj).1
      rw [List.length_take, bytesOf_length] at hlt
      rw [List.getElem?_take, if_pos (by omega)] at hj
      have := bt_get s (i := (j : Int)) (by omega) (by omega)
      rw [Int.toNat_natCast, hj] at this
      rw [Option.some.inj this]
      exact h4 _ (by omega) (by omega)
    obtain ⟨e1, e2⟩ := tw_app hf (t := 63 :: bytesOf (s.extract (t + 1) s.size)) (.inr ⟨_, rfl⟩)
    rw [← hj] at e1 e2
    refine ⟨s.extract 0 t, s.extract (t + 1) s.size, true, ?_, e1.symm, by rw [e2]; rfl, by omega, by omega, by simp [e2]⟩
    simp only [terms_Split.f, strings_Cut.f, stringslite_Cut.f, hix, h1, Option.bind_some]
    have e1 : ((⟨#[63]⟩ : ByteArray).size : Int) = 1 := rfl
    rw [e1, wr (by omega) (by omega), if_pos (by omega), if_pos (by omega), if_pos (by omega), if_pos (by omega), if_pos (by omega)]
    simp only [Option.bind_some, Int.toNat_natCast, show ((t : Int) + 1).toNat = t + 1 by omega]
theorem ansBack (s : ByteArray) (l : List S29) (h : (l.map wgt).sum ≤ 549755813888) : ∃ k, usherlaw9_TermsAnswerBack.f k s l = some true := by
  have hlen := len_sum l
  have hfl := formI_le l
  refine Ev.at_ ?_
  simp only [usherlaw9_TermsAnswerBack.f]
  refine Ev.bind (copied9_is l (by omega)) (Ev.bind (tans_is s l (by omega)) (Ev.bind (red_is s) ?_))
  unfold ansW
  refine Ev.ite (fun hr => ?_) (fun hr => ?_)
  · have hr0 : isRed s = true := hr
    have hr2 := hr
    simp only [Bool.and_eq_true, decide_eq_true_eq] at hr2
    obtain ⟨hs, hp⟩ := hr2
    rw [if_pos hr0]
    refine Ev.ite (fun e => ?_) (fun e => ?_)
    · rw [if_pos e]
      exact Ev.neg (by decide) (Ev.pos rfl (Ev.of_eq fun _ => by rw [toList_data]; rfl))
    · rw [if_neg e]
      obtain ⟨a1, b1, o1, hs1, ha1, hb1, _, hz1, _⟩ := tsplit_is s (by omega)
      -- what stands behind the '?'
      have hown : bs P2 0 (bytesOf b1) = true := by
        rw [hb1]
        rw [red_eq] at hp
        unfold refRed at hp
        simp only [Bool.and_eq_true] at hp
        exact hp.1
      obtain ⟨ps, hps, hpl, hpr⟩ := own_ok hown
      have key : ∀ t : ByteArray, t.size ≤ 2199023255552 → (∃ (a b : ByteArray) (o : Bool), terms_Split.f t = some (a, b, o) ∧ bytesOf a = bytesOf a1 ∧ b.size ≤ 1099511627776 ∧ prs (pcs b) = if 32 < cntB (pcs b1) + l.length then ([], some 3) else (ps ++ l, none)) →
          Ev (fun k => (terms_Split.f t).bind fun bt255 => ((terms_Split.f s).bind fun bt258 => (if bt255.1.toList = bt258.1.toList then ((pct_Pairs.f k bt258.2.1).bind fun bt261 => ((pct_Pairs.f k bt255.2.1).bind fun bt265 => (if bt261.2.isNone = true then (if (wrap64 ((bt261.1.length : Int) + (l.length : Int))) > 32 then (if bt265.2.isNone = true then (some false) else (some ((bt265.2.getD 0) == 3))) else (if ([] : List (S29)).length + bt261.1.length < 4398046511104 then ((some (([] : List (S29)) ++ bt261.1 : List (S29))).bind fun y271 => (if y271.length + l.length < 4398046511104 then (if bt265.2.isNone = true then ((usherref0_SamePairs.f k bt265.1 (y271 ++ l)).bind fun t278 => (some t278)) else (some false)) else (none))) else (none))) else (if bt265.2.isNone = true then (some false) else (some ((bt265.2.getD 0) == 3)))))) else (some false)))) true := by
        intro t _ ⟨a, b, o, ht, ha, hbz, hpq⟩
        refine Ev.bind (Ev.of_eq fun _ => ht) (Ev.bind (Ev.of_eq fun _ => hs1) (Ev.pos (by rw [toList_inj]; exact bytesOf_inj ha) (Ev.bind (pairs_is b1 (by omega)) (Ev.bind (pairs_is b hbz) ?_))))
        rw [hpq, hpr]
        by_cases h1 : 32 < cntB (pcs b1)
        · rw [if_pos h1, if_pos (show 32 < cntB (pcs b1) + l.length by omega)]
          exact Ev.neg (by decide) (Ev.neg (by decide) (Ev.of_eq fun _ => rfl))
        · rw [if_neg h1]
          refine Ev.pos rfl ?_
          rw [wr (x := (ps.length : Int) + (l.length : Int)) (by omega) (by omega)]
          by_cases h2 : 32 < cntB (pcs b1) + l.length
          · rw [if_pos h2]
            exact Ev.pos (by omega) (Ev.neg (by decide) (Ev.of_eq fun _ => rfl))
          · rw [if_neg h2]
            refine Ev.neg (by omega) (Ev.pos (by simp only [List.length_nil]; omega) (Ev.bind (Ev.of_eq fun _ => rfl) (Ev.pos (by simp only [List.nil_append]; omega) (Ev.pos rfl ?_))))
            rw [List.nil_append]
            exact Ev.bind (samePairs_self _ (by rw [List.length_append]; omega)) (Ev.pure _)
      by_cases e2 : (l.length : Int) = 0
      · rw [if_pos e2]
        have hl0 : l = [] := List.length_eq_zero_iff.1 (by omega)
        refine Ev.pos rfl (key s (by omega) ⟨a1, b1, o1, hs1, rfl, by omega, ?_⟩)
        rw [hpr, hl0]
        simp
      · rw [if_neg e2]
        have hl0 : l ≠ [] := fun e => e2 (by rw [e]; rfl)
        obtain ⟨_, ht1, ht2⟩ := ansT_red (l := l) hr0
        have hsz : (ansT s l).size ≤ 1099511629000 := by
          rw [← bytesOf_length, ansT_bytes, List.length_append, List.length_append, bytesOf_length]
          have : (markI (bytesOf s)).length ≤ 1 := by unfold markI; repeat' split <;> simp
          omega
        refine Ev.pos rfl (key (ansT s l) (by omega) ?_)
        obtain ⟨a, b, o, hsp, ha, hb, hza, hzb⟩ := tsplit_big (ansT s l) (by omega)
        refine ⟨a, b, o, hsp, by rw [ha, ht1, ha1], ?_, ?_⟩
        · have : b.size = ((dw 63 (bytesOf (ansT s l))).drop 1).length := by rw [← hb, bytesOf_length]
          rw [ht2, List.length_append, List.length_append, ← hb1, bytesOf_length] at this
          have h3 : (if bytesOf b1 = [] then ([] : List Int) else [38]).length ≤ 1 := by split <;> simp
          omega
        · exact answered_pairs hl0 hown (by rw [hb, ht2, hb1]) hps
  · rw [if_neg (show ¬ isRed s = true from hr)]
    exact Ev.neg (by decide) (Ev.pos rfl (Ev.of_eq fun _ => by rw [toList_data]; rfl))
theorem ansBackU (s : ByteArray) (l : List S29) {F : Prop} (_ : F) (hB : (s.size + 1 + ((l.map (fun p => p.f0.size + 1 + (p.f1.size + 1) + 1)).sum + 1)) + 1 ≤ 1048576) : ∃ k, usherlaw9_TermsAnswerBack.f k s l = some true :=
  ansBack s l (by have := wgt_sum l; omega)
end Go.Proofs.YtopfmcgmfnmikaaDoor.Y
