/- terms' Redirect as printed answers progRed. Condition: a text of at most 2^20 bytes. -/
import Derived.Test.YtopfmcgmfnmikaaDoorYRedS
import Derived.Test.YtopfmcgmfnmikaaDoorXRedirect
-- IMPORTS
import Derived.Test.YtopfmcgmfnmikaaDoorXx2
import Derived.Test.YtopfmcgmfnmikaaDoorXx3
set_option linter.unusedSimpArgs false
set_option linter.unusedVariables false
namespace Go.Proofs.YtopfmcgmfnmikaaDoor.Y
open Go.RowKit Go.Proofs.YtopfmcgmfnmikaaDoorW.PrintWords Go.Proofs.YtopfmcgmfnmikaaDoorW.PrintLast Go.Proofs.YtopfmcgmfnmikaaDoor.X
theorem bt0 (s : ByteArray) (h : 0 < s.size) : (bytesOf s)[0]? = some (bt s 0) := bt_get s (i := 0) (Int.le_refl _) (by omega)
theorem btl (s : ByteArray) (h : 0 < s.size) : (bytesOf s)[(bytesOf s).length - 1]? = some (bt s ((s.size : Int) - 1)) := by
  have := bt_get s (i := (s.size : Int) - 1) (by omega) (by omega)
  rw [bytesOf_length, show s.size - 1 = ((s.size : Int) - 1).toNat by omega]
  exact this
theorem labelP_eq {l : List Int} (h1 : l ≠ []) (h2 : l.length ≤ 63) (h3 : l[0]? ≠ some 45) (h4 : l[l.length - 1]? ≠ some 45) : labelP l = l.all lcB := by
  unfold labelP
  rw [decide_eq_true h1, decide_eq_true h2, decide_eq_true h3, decide_eq_true h4]
  rfl
theorem labelP_no {l : List Int} (h : l = [] ∨ 63 < l.length ∨ l[0]? = some 45 ∨ l[l.length - 1]? = some 45) : labelP l = false := by
  unfold labelP
  rcases h with h | h | h | h
  · simp [h]
  · rw [decide_eq_false (show ¬ l.length ≤ 63 by omega)]; simp
  · simp [h]
  · simp [h]
theorem tl_loop (s : ByteArray) (hs : s.size ≤ 1048576) (d : Nat) : ∀ i : Int, 0 ≤ i → (s.size : Int) - i = d → Ev (fun k => terms_label.l0 k s (s.size : Int) i) (((bytesOf s).drop i.toNat).all lcB) := by
  induction d with
  | zero =>
    intro i h0 hd
    refine Ev.succ ?_
    simp only [terms_label.l0]
    rw [drop_end s (by omega)]
    exact Ev.neg (by omega) (Ev.pure _)
  | succ d ih =>
    intro i h0 hd
    have hlt : i < s.size := by omega
    have ih' := ih (i + 1) (by omega) (by omega)
    refine Ev.succ ?_
    simp only [terms_label.l0, letter_is, digit_is', Option.bind_some]
    rw [drop_at s h0 hlt, wr (x := i + 1) (by omega) (by omega)]
    simp only [List.all_cons, lcB]
    refine Ev.pos hlt (Ev.pos h0 (Ev.pos hlt ?_))
    cases h1 : letterB (bt s i) with
    | true => exact Ev.pos rfl (by simpa using ih')
    | false =>
      refine Ev.neg (by decide) ?_
      cases h2 : digitB (bt s i) with
      | true => exact Ev.pos rfl (by simpa using ih')
      | false =>
        refine Ev.neg (by decide) (Ev.ite (fun e => ?_) (fun e => ?_))
        · simpa [e] using ih'
        · simpa [e] using Ev.pure false
theorem tlabel_is (s : ByteArray) (hs : s.size ≤ 1048576) : Ev (fun k => terms_label.f k s) (labelP (bytesOf s)) := by
  have jt : Ev (fun k => terms_label.j0 k s true) false := by
    refine Ev.succ ?_
    simp only [terms_label.j0]
    exact Ev.pos trivial (Ev.pure _)
  have jf : Ev (fun k => terms_label.j0 k s false) ((bytesOf s).all lcB) := by
    refine Ev.succ ?_
    simp only [terms_label.j0]
    exact Ev.neg (by simp) (tl_loop s hs s.size 0 (Int.le_refl _) (by omega))
  simp only [terms_label.f]
  refine Ev.ite (fun e => ?_) (fun e => ?_)
  · rw [labelP_no (.inl ((empty_bytes s).1 e))]; exact jt
  · have hp : 0 < s.size := by have : ¬ s.size = 0 := fun h => e ((empty_iff s).2 h); omega
    have h1 : bytesOf s ≠ [] := fun h => e ((empty_bytes s).2 h)
    refine Ev.ite (fun e2 => ?_) (fun e2 => ?_)
    · rw [labelP_no (.inr (.inl (by rw [bytesOf_length]; omega)))]; exact jt
    · refine Ev.pos (by omega) (Ev.ite (fun e3 => ?_) (fun e3 => ?_))
      · rw [labelP_no (.inr (.inr (.inl (by rw [bt0 s hp, e3]))))]; exact jt
      · rw [wr (x := (s.size : Int) - 1) (by omega) (by omega)]
        refine Ev.pos (by omega) (Ev.pos (by omega) ?_)
        by_cases e4 : bt s ((s.size : Int) - 1) = 45
        · rw [labelP_no (.inr (.inr (.inr (by rw [btl s hp, e4])))), e4]; exact jt
        · rw [labelP_eq h1 (by rw [bytesOf_length]; omega) (by rw [bt0 s hp]; simpa using e3) (by rw [btl s hp]; simpa using e4), show (bt s ((s.size : Int) - 1) == 45) = false from beq_eq_false_iff_ne.2 e4]
          exact jf
def bnd : Nat → Int
  | 0 => 99999
  | 1 => 9999
  | 2 => 999
  | 3 => 99
  | 4 => 9
  | _ => 0
theorem bnd_step {d : Nat} {n : Int} (h : n ≤ bnd (d + 1)) : 10 * n + 9 ≤ bnd d ∨ 5 ≤ d := by
  match d, h with
  | 0, h => left; simp only [bnd] at *; omega
  | 1, h => left; simp only [bnd] at *; omega
  | 2, h => left; simp only [bnd] at *; omega
  | 3, h => left; simp only [bnd] at *; omega
  | 4, h => left; simp only [bnd] at *; omega
  | d + 5, h => right; omega
theorem bnd_le (d : Nat) : bnd d ≤ 99999 := by
  match d with
  | 0 | 1 | 2 | 3 | 4 => decide
  | d + 5 => simp [bnd]
theorem tp_loop (s : ByteArray) (hs : s.size ≤ 5) (d : Nat) : ∀ (n i : Int), 0 ≤ i → (s.size : Int) - i = d → 0 ≤ n → n ≤ bnd d →
    Ev (fun k => terms_port.l0 k s n (s.size : Int) i) (((bytesOf s).drop i.toNat).all digitB && decide (valP n ((bytesOf s).drop i.toNat) ≤ 65535)) := by
  induction d with
  | zero =>
    intro n i h0 hd hn hb
    refine Ev.succ ?_
    simp only [terms_port.l0]
    rw [drop_end s (by omega)]
    refine Ev.neg (by omega) ?_
    simp only [List.all_nil, Bool.true_and, valP, List.foldl_nil]
    exact Ev.pure _
  | succ d ih =>
    intro n i h0 hd hn hb
    have hlt : i < s.size := by omega
    have hr := bt_range s i
    have hbd := bnd_step hb
    have hle := bnd_le (d + 1)
    refine Ev.succ ?_
    simp only [terms_port.l0, digit_is', Option.bind_some]
    rw [drop_at s h0 hlt, wr (x := i + 1) (by omega) (by omega)]
    refine Ev.pos hlt (Ev.pos h0 (Ev.pos hlt ?_))
    simp only [List.all_cons, valP, List.foldl_cons]
    cases h1 : digitB (bt s i) with
    | true =>
      have h2 : 48 ≤ bt s i ∧ bt s i ≤ 57 := of_decide_eq_true h1
      refine Ev.pos rfl ?_
      rw [wr (x := 10 * n) (by omega) (by omega), show (bt s i - 48) % 256 = bt s i - 48 by omega, wr (by omega) (by omega), Bool.true_and]
      exact ih (10 * n + (bt s i - 48)) (i + 1) (by omega) (by omega) (by omega) (by omega)
    | false => exact Ev.neg (by decide) (Ev.pure _)
theorem portP_eq {l : List Int} (h1 : l ≠ []) (h2 : l.length ≤ 5) (h3 : l[0]? ≠ some 48) : portP l = (l.all digitB && decide (valP 0 l ≤ 65535)) := by
  unfold portP
  rw [decide_eq_true h1, decide_eq_true h2, decide_eq_true h3]
  rfl
theorem portP_no {l : List Int} (h : l = [] ∨ 5 < l.length ∨ l[0]? = some 48) : portP l = false := by
  unfold portP
  rcases h with h | h | h
  · simp [h]
  · rw [decide_eq_false (show ¬ l.length ≤ 5 by omega)]; simp
  · simp [h]
theorem bnd0 (d : Nat) : (0 : Int) ≤ bnd d := by
  match d with
  | 0 | 1 | 2 | 3 | 4 => decide
  | d + 5 => simp [bnd]
theorem tport_is (s : ByteArray) (hs : s.size ≤ 1048576) : Ev (fun k => terms_port.f k s) (portP (bytesOf s)) := by
  have jt : Ev (fun k => terms_port.j0 k s true) false := by
    refine Ev.succ ?_
    simp only [terms_port.j0]
    exact Ev.pos trivial (Ev.pure _)
  simp only [terms_port.f]
  refine Ev.ite (fun e => ?_) (fun e => ?_)
  · rw [portP_no (.inl ((empty_bytes s).1 e))]; exact jt
  · have hp : 0 < s.size := by have : ¬ s.size = 0 := fun h => e ((empty_iff s).2 h); omega
    have h1 : bytesOf s ≠ [] := fun h => e ((empty_bytes s).2 h)
    refine Ev.ite (fun e2 => ?_) (fun e2 => ?_)
    · rw [portP_no (.inr (.inl (by rw [bytesOf_length]; omega)))]; exact jt
    · refine Ev.pos (by omega) ?_
      by_cases e3 : bt s 0 = 48
      · rw [portP_no (.inr (.inr (by rw [bt0 s hp, e3]))), e3]; exact jt
      · rw [portP_eq h1 (by rw [bytesOf_length]; omega) (by rw [bt0 s hp]; simpa using e3), show (bt s 0 == 48) = false from beq_eq_false_iff_ne.2 e3]
        refine Ev.succ ?_
        simp only [terms_port.j0]
        exact Ev.neg (by simp) (tp_loop s (by omega) s.size 0 0 (Int.le_refl _) (by omega) (Int.le_refl _) (bnd0 _))
/-! prefixes, suffixes -/
theorem take_pre {p l : List Int} : (l.take p.length = p) ↔ List.isPrefixOf p l = true := by
  rw [List.isPrefixOf_iff_prefix, List.prefix_iff_eq_take]
  exact ⟨fun h => h.symm, fun h => h.symm⟩
theorem sPre (a p : ByteArray) (hs : a.size ≤ 1048576) : stringslite_HasPrefix.f a p = some (List.isPrefixOf (bytesOf p) (bytesOf a)) := by
  unfold stringslite_HasPrefix.f
  by_cases h : (a.size : Int) ≥ (p.size : Int)
  · rw [if_pos h, if_pos (by omega), if_pos (by omega)]
    congr 1
    rw [Int.toNat_natCast, Bool.eq_iff_iff, beq_iff_eq, toList_inj, ← take_pre, bytesOf_length]
    constructor
    · intro e; rw [← e, bytesOf_extract, List.drop_zero, Nat.sub_zero]
      rw [e]
    · intro e; apply bytesOf_inj; rw [bytesOf_extract, List.drop_zero, Nat.sub_zero, e]
  · rw [if_neg h]
    congr 1
    symm
    rw [Bool.eq_false_iff]
    intro h2
    have := (List.isPrefixOf_iff_prefix.1 h2).length_le
    rw [bytesOf_length, bytesOf_length] at this
    omega
theorem getLast_drop {l : List Int} (h : l ≠ []) (c : Int) : l.getLast? = some c ↔ l.drop (l.length - 1) = [c] := by
  constructor
  · intro e
    obtain ⟨m, rfl⟩ := List.getLast?_eq_some_iff.1 e
    simp
  · intro e
    have := List.take_append_drop (l.length - 1) l
    rw [e] at this
    rw [← this]
    simp
theorem sSuf (a : ByteArray) (hs : a.size ≤ 1048576) : stringslite_HasSuffix.f a ⟨#[93]⟩ = some (decide ((bytesOf a).getLast? = some 93)) := by
  unfold stringslite_HasSuffix.f
  have hz : ((⟨#[93]⟩ : ByteArray).size : Int) = 1 := rfl
  rw [hz, wr (x := (a.size : Int) - 1) (by omega) (by omega)]
  by_cases h : (a.size : Int) ≥ 1
  · rw [if_pos h, if_pos (by omega), if_pos (by omega)]
    congr 1
    have hne : bytesOf a ≠ [] := by
      intro e
      have h0 : (bytesOf a).length = 0 := by rw [e]; rfl
      rw [bytesOf_length] at h0
      omega
    rw [Bool.eq_iff_iff, beq_iff_eq, toList_inj, decide_eq_true_iff, getLast_drop hne, bytesOf_length]
    have e1 : bytesOf (⟨#[93]⟩ : ByteArray) = [93] := rfl
    have e2 : bytesOf (a.extract ((a.size : Int) - 1).toNat a.size) = (bytesOf a).drop (a.size - 1) := by
      rw [bytesOf_extract, List.take_of_length_le (by rw [List.length_drop, bytesOf_length]; omega), show ((a.size : Int) - 1).toNat = a.size - 1 by omega]
    constructor
    · intro e; rw [← e2, e, e1]
    · intro e; apply bytesOf_inj; rw [e2, e, e1]
  · rw [if_neg h]
    congr 1
    have : bytesOf a = [] := by rw [← List.length_eq_zero_iff, bytesOf_length]; omega
    rw [this]
    rfl
/-! host -/
theorem v6_loop (s : ByteArray) (hs : s.size ≤ 1048576) (d : Nat) : ∀ i : Int, 0 ≤ i → (s.size : Int) - i = d → Ev (fun k => terms_host.l0 k s (s.size : Int) i) (((bytesOf s).drop i.toNat).all v6B) := by
  induction d with
  | zero =>
    intro i h0 hd
    refine Ev.succ ?_
    simp only [terms_host.l0]
    rw [drop_end s (by omega)]
    exact Ev.neg (by omega) (Ev.pure _)
  | succ d ih =>
    intro i h0 hd
    have hlt : i < s.size := by omega
    have ih' := ih (i + 1) (by omega) (by omega)
    refine Ev.succ ?_
    simp only [terms_host.l0, hexa_is, Option.bind_some]
    rw [drop_at s h0 hlt, wr (x := i + 1) (by omega) (by omega)]
    simp only [List.all_cons, v6B]
    refine Ev.pos hlt (Ev.pos h0 (Ev.pos hlt ?_))
    cases h1 : hexaB (bt s i) with
    | true => exact Ev.pos rfl (by simpa using ih')
    | false =>
      refine Ev.neg (by decide) (Ev.ite (fun e => ?_) (fun e => ?_))
      · simpa [e] using ih'
      · refine Ev.ite (fun e2 => ?_) (fun e2 => ?_)
        · simpa [e2] using ih'
        · simpa [e, e2] using Ev.pure false
theorem labs_loop (P : List ByteArray) (hP : ∀ x ∈ P, x.size ≤ 1048576) (hl : P.length ≤ 1099511627776) (d : Nat) : ∀ i : Int, 0 ≤ i → (P.length : Int) - i = d → Ev (fun k => terms_host.l1 k P (P.length : Int) i) (((P.drop i.toNat).map bytesOf).all labelP) := by
  induction d with
  | zero =>
    intro i h0 hd
    refine Ev.succ ?_
    simp only [terms_host.l1]
    rw [drop_le P (by omega)]
    exact Ev.neg (by omega) (Ev.pure _)
  | succ d ih =>
    intro i h0 hd
    have hlt : i < P.length := by omega
    have ih' := ih (i + 1) (by omega) (by omega)
    have hx := hP _ (rd_mem ByteArray.empty P h0 hlt)
    rw [drop_rd ByteArray.empty P h0 hlt]
    obtain ⟨x, hxe⟩ : ∃ x, rdOf ByteArray.empty P i = x := ⟨_, rfl⟩
    rw [hxe] at hx ⊢
    refine Ev.succ ?_
    simp only [terms_host.l1, hxe]
    rw [wr (x := i + 1) (by omega) (by omega)]
    simp only [List.map_cons, List.all_cons]
    refine Ev.pos hlt (Ev.pos h0 (Ev.pos hlt (Ev.bind (tlabel_is x hx) ?_)))
    cases labelP (bytesOf x) with
    | true => exact Ev.pos rfl (by simpa using ih')
    | false => exact Ev.neg (by decide) (Ev.pure _)
theorem sp_map {l : List Int} (hl : ∀ c ∈ l, 0 ≤ c ∧ c ≤ 255) : ((sp 46 l).map strOfNums).map bytesOf = sp 46 l := by
  rw [List.map_map]
  conv => rhs; rw [← List.map_id (sp 46 l)]
  apply List.map_congr_left
  intro q hq
  exact bytesOf_strOfNums (fun c hc => sp_mem 46 (p := fun c => 0 ≤ c ∧ c ≤ 255) l hl q hq c hc)
theorem sp_short (c : Int) : ∀ l : List Int, ∀ q ∈ sp c l, q.length ≤ l.length
  | [] => by simp [sp]
  | x :: r => by
    have ih := sp_short c r
    intro q hq
    by_cases e : x = c
    · simp only [sp, if_pos e] at hq
      rcases List.mem_cons.1 hq with rfl | hq
      · simp
      · have := ih q hq
        simp only [List.length_cons]
        omega
    · obtain ⟨g, t, ht⟩ := sp_cons c r
      rw [sp_cons_ne e ht] at hq
      rw [ht] at ih
      rcases List.mem_cons.1 hq with rfl | hq
      · have := ih g (List.mem_cons_self ..)
        simp only [List.length_cons]
        omega
      · have := ih q (List.mem_cons_of_mem _ hq)
        simp only [List.length_cons]
        omega
theorem labs_is (s : ByteArray) (hs : s.size ≤ 1048576) : Ev (fun k => (strings_Split.f k s ⟨#[46]⟩).bind fun t => terms_host.l1 k t (t.length : Int) 0) ((sp 46 (bytesOf s)).all labelP) := by
  refine Ev.bind (split_is s 46 (by omega)) ?_
  have h46 : (((46 : UInt8).toNat : Nat) : Int) = 46 := rfl
  rw [h46]
  have hlen : ((sp 46 (bytesOf s)).map strOfNums).length ≤ 1099511627776 := by
    rw [List.length_map, sp_length]
    have : (bytesOf s).count 46 ≤ (bytesOf s).length := List.count_le_length
    rw [bytesOf_length] at this
    omega
  have := labs_loop ((sp 46 (bytesOf s)).map strOfNums) (fun x hx => by
    obtain ⟨q, hq, rfl⟩ := List.mem_map.1 hx
    have := sp_short 46 (bytesOf s) q hq
    rw [bytesOf_length] at this
    rw [strOfNums_size]
    omega) hlen _ 0 (Int.le_refl _) (Int.sub_zero _)
  rw [Int.toNat_zero, List.drop_zero, sp_map (bytesOf_range s)] at this
  exact this
theorem thost_is (s : ByteArray) (hs : s.size ≤ 1048576) : Ev (fun k => terms_host.f k s) (hostP (bytesOf s)) := by
  have h91 : bytesOf (⟨#[91]⟩ : ByteArray) = [91] := rfl
  have hz1 : ((⟨#[91]⟩ : ByteArray).size : Int) = 1 := rfl
  have hz2 : ((⟨#[93]⟩ : ByteArray).size : Int) = 1 := rfl
  have jt : ∀ x, Ev (fun k => terms_host.j0 k x true) false := fun x => by
    refine Ev.succ ?_
    simp only [terms_host.j0]
    exact Ev.pos trivial (Ev.pure _)
  have jf : ∀ x : ByteArray, x.size ≤ 1048576 → Ev (fun k => terms_host.j0 k x false) ((bytesOf x).all v6B) := fun x hx => by
    refine Ev.succ ?_
    simp only [terms_host.j0]
    exact Ev.neg (by simp) (v6_loop x hx x.size 0 (Int.le_refl _) (by omega))
  simp only [terms_host.f, strings_CutPrefix.f, stringslite_CutPrefix.f, sPre s _ hs, h91, Option.bind_some]
  cases hb : bytesOf s with
  | nil =>
    have : List.isPrefixOf [91] ([] : List Int) = false := rfl
    simp only [this, Bool.false_eq_true, if_false, Option.bind_some, hostP]
    have h2 := labs_is s hs
    rw [hb] at h2
    exact h2
  | cons c r =>
    have hsz : s.size = r.length + 1 := by rw [← bytesOf_length, hb]; rfl
    by_cases e : c = 91
    · subst e
      have : List.isPrefixOf [91] (91 :: r : List Int) = true := by simp [List.isPrefixOf]
      have hb1 : bytesOf (s.extract 1 s.size) = r := by rw [bytesOf_extract, List.take_of_length_le (by rw [List.length_drop, bytesOf_length]; omega), hb]; rfl
      have hz : (s.extract 1 s.size).size = r.length := by rw [ByteArray.size_extract]; omega
      simp only [this, if_true, hz1, hz2]
      rw [show ((1 : Int)).toNat = 1 from rfl]
      refine Ev.bind (f := fun _ => _) (r := (s.extract 1 s.size, true)) (Ev.of_eq fun _ => by rw [if_pos (by omega), if_pos (by omega)]; rfl) ?_
      simp only [strings_CutSuffix.f, stringslite_CutSuffix.f, sSuf _ (show (s.extract 1 s.size).size ≤ 1048576 by omega), hb1, Option.bind_some, if_true, hz2]
      by_cases e2 : r.getLast? = some 93
      · have hr0 : r ≠ [] := by rintro rfl; simp at e2
        have hr1 : 0 < r.length := List.length_pos_iff.2 hr0
        have hb2 : bytesOf ((s.extract 1 s.size).extract 0 (r.length - 1)) = r.dropLast := by rw [bytesOf_extract, hb1, List.drop_zero, Nat.sub_zero, List.dropLast_eq_take]
        rw [decide_eq_true e2]
        simp only [if_true]
        rw [hz, wr (x := (r.length : Int) - 1) (by omega) (by omega), show ((r.length : Int) - 1).toNat = r.length - 1 by omega]
        refine Ev.bind (f := fun _ => _) (r := ((s.extract 1 s.size).extract 0 (r.length - 1), true)) (Ev.of_eq fun _ => by rw [if_pos (by omega), if_pos (by omega)]; rfl) ?_
        simp only [if_true, hostP, e2, decide_true, Bool.true_and]
        by_cases e3 : r.dropLast = []
        · have : ((s.extract 1 s.size).extract 0 (r.length - 1)).toList = [] := (empty_bytes _).2 (by rw [hb2, e3])
          rw [this, e3]
          exact jt _
        · have : ¬ ((s.extract 1 s.size).extract 0 (r.length - 1)).toList = [] := fun h => e3 (by rw [← hb2, (empty_bytes _).1 h])
          have e4 : (((s.extract 1 s.size).extract 0 (r.length - 1)).toList == []) = false := beq_eq_false_iff_ne.2 this
          rw [e4, decide_eq_true e3, Bool.true_and, ← hb2]
          exact jf _ (by rw [ByteArray.size_extract]; omega)
      · rw [decide_eq_false e2]
        simp only [Bool.false_eq_true, if_false, Option.bind_some, hostP, if_true, e2, decide_false, Bool.false_and]
        exact jt _
    · have : List.isPrefixOf [91] (c :: r) = false := by simp [List.isPrefixOf, Ne.symm e]
      simp only [this, Bool.false_eq_true, if_false, Option.bind_some, hostP, e]
      have h2 := labs_is s hs
      rw [hb] at h2
      exact h2
/-! the last colon; the end of the site -/
def lixI (c : Int) (l : List Int) : Int := match lastSplit c l with
  | none => -1
  | some (h, _) => h.length
theorem lixI_snoc (c x : Int) (l : List Int) : lixI c (l ++ [x]) = if x = c then (l.length : Int) else lixI c l := by
  unfold lixI
  rw [lastSplit_append]
  simp only [lastSplit]
  by_cases e : x = c
  · simp [e]
  · simp only [e, if_false]
    cases lastSplit c l <;> rfl
theorem lix_loop (s : ByteArray) (hs : s.size ≤ 1048576) (d : Nat) : ∀ i : Int, i = (d : Int) - 1 → i < s.size → Ev (fun k => bytealg_LastIndexByteString.l0 k s 58 i) (lixI 58 ((bytesOf s).take d)) := by
  induction d with
  | zero =>
    intro i hi _
    refine Ev.succ ?_
    simp only [bytealg_LastIndexByteString.l0, List.take_zero]
    exact Ev.neg (by omega) (Ev.pure _)
  | succ d ih =>
    intro i hi hlt
    have h0 : 0 ≤ i := by omega
    have hd : d < (bytesOf s).length := by rw [bytesOf_length]; omega
    have ht : (bytesOf s).take (d + 1) = (bytesOf s).take d ++ [bt s i] := by
      have := bt_get s h0 hlt
      rw [show i.toNat = d by omega, List.getElem?_eq_getElem hd] at this
      rw [← List.take_append_getElem hd, Option.some.inj this]
    rw [ht, lixI_snoc]
    refine Ev.succ ?_
    simp only [bytealg_LastIndexByteString.l0]
    rw [wr (x := i - 1) (by omega) (by omega)]
    refine Ev.pos (by omega) (Ev.pos h0 (Ev.pos hlt (Ev.ite (fun e => ?_) (fun e => ?_))))
    · rw [if_pos e, List.length_take, show ((min d (bytesOf s).length : Nat) : Int) = i by omega]
      exact Ev.pure _
    · rw [if_neg e]
      exact ih (i - 1) (by omega) (by omega)
theorem lix_is (s : ByteArray) (hs : s.size ≤ 1048576) : Ev (fun k => strings_LastIndexByte.f k s 58) (lixI 58 (bytesOf s)) := by
  simp only [strings_LastIndexByte.f, bytealg_LastIndexByteString.f]
  refine Ev.bind ?_ (Ev.pure _)
  rw [wr (x := (s.size : Int) - 1) (by omega) (by omega)]
  have := lix_loop s hs s.size ((s.size : Int) - 1) rfl (by omega)
  rw [List.take_of_length_le (by rw [bytesOf_length]; exact Nat.le_refl _)] at this
  exact this
theorem any_ix : ∀ l : List UInt8, (Lib.indexAny l [47, 63] = -1 ∧ tw2 (l.map fun b => (b.toNat : Int)) = (l.map fun b => (b.toNat : Int)) ∧ dw2 (l.map fun b => (b.toNat : Int)) = []) ∨
    ∃ n : Nat, Lib.indexAny l [47, 63] = n ∧ n < l.length ∧ tw2 (l.map fun b => (b.toNat : Int)) = (l.map fun b => (b.toNat : Int)).take n ∧ dw2 (l.map fun b => (b.toNat : Int)) = (l.map fun b => (b.toNat : Int)).drop n
  | [] => .inl ⟨rfl, rfl, rfl⟩
  | b :: r => by
    have ih := any_ix r
    have hc : List.contains [47, 63] b = (b == 47 || b == 63) := by simp only [List.contains_cons, List.contains_nil, Bool.or_false]
    simp only [Lib.indexAny, hc, List.map_cons, tw2, dw2, List.takeWhile_cons, List.dropWhile_cons]
    by_cases e : b = 47 ∨ b = 63
    · right
      refine ⟨0, ?_, by simp, ?_, ?_⟩
      · rcases e with rfl | rfl <;> rfl
      · rcases e with rfl | rfl <;> simp
      · rcases e with rfl | rfl <;> simp
    · have e1 : b ≠ 47 := fun h => e (.inl h)
      have e2 : b ≠ 63 := fun h => e (.inr h)
      have n1 : ¬ ((b.toNat : Int) = 47) := fun h => e1 (UInt8.toNat_inj.1 (by rw [show (47 : UInt8).toNat = 47 from rfl]; omega))
      have n2 : ¬ ((b.toNat : Int) = 63) := fun h => e2 (UInt8.toNat_inj.1 (by rw [show (63 : UInt8).toNat = 63 from rfl]; omega))
      have hb : (b == 47 || b == 63) = false := by simp [e1, e2]
      simp only [hb, Bool.false_eq_true, if_false, ne_eq, n1, n2, not_false_eq_true, and_self, decide_true, if_true]
      rcases ih with ⟨h1, h2, h3⟩ | ⟨n, h1, h2, h3, h4⟩
      · left
        simp only [tw2, dw2, ne_eq] at h2 h3
        rw [h1, h2, h3]
        exact ⟨rfl, rfl, rfl⟩
      · right
        simp only [tw2, dw2, ne_eq] at h3 h4
        refine ⟨n + 1, ?_, by rw [List.length_cons]; omega, by rw [h3]; rfl, by rw [h4]; rfl⟩
        rw [h1, if_neg (by simp)]
        omega
/-- what authority answers: the host, the rest, whether the port is one -/
theorem auth_is (s : ByteArray) (hs : s.size ≤ 1048576) : ∃ (h r : ByteArray) (o : Bool), Ev (fun k => terms_authority.f k s) (h, r, o) ∧ bytesOf r = dw2 (bytesOf s) ∧ h.size ≤ s.size ∧ r.size ≤ s.size ∧ ∀ nm : List Int → Bool, (o && nm (bytesOf h)) = progSite nm (tw2 (bytesOf s)) := by
  obtain ⟨e, he0, he, ht, hd, hix⟩ : ∃ e : Nat, True ∧ e ≤ s.size ∧ tw2 (bytesOf s) = (bytesOf s).take e ∧ dw2 (bytesOf s) = (bytesOf s).drop e ∧ ((Lib.indexAny s.data.toList [47, 63] = -1 ∧ e = s.size) ∨ Lib.indexAny s.data.toList [47, 63] = e) := by
    rcases any_ix s.data.toList with ⟨h1, h2, h3⟩ | ⟨n, h1, h2, h3, h4⟩
    · refine ⟨s.size, trivial, Nat.le_refl _, ?_, ?_, .inl ⟨h1, rfl⟩⟩
      · rw [List.take_of_length_le (by rw [bytesOf_length]; exact Nat.le_refl _)]; exact h2
      · rw [List.drop_of_length_le (by rw [bytesOf_length]; exact Nat.le_refl _)]; exact h3
    · rw [size_data] at h2
      exact ⟨n, trivial, by omega, h3, h4, .inr h1⟩
  have hba : bytesOf (s.extract 0 e) = tw2 (bytesOf s) := by rw [ht, bytesOf_extract, List.drop_zero, Nat.sub_zero]
  have hbr : bytesOf (s.extract e s.size) = dw2 (bytesOf s) := by rw [hd, bytesOf_extract, List.take_of_length_le (by rw [List.length_drop, bytesOf_length]; omega)]
  have hza : (s.extract 0 e).size = e := by rw [ByteArray.size_extract]; omega
  have hzr : (s.extract e s.size).size = s.size - e := by rw [ByteArray.size_extract]; omega
  have hlx := lix_is (s.extract 0 e) (by omega)
  have key : ∃ (h : ByteArray) (o : Bool), Ev (fun k => terms_authority.j0 k s (e : Int)) (h, s.extract e s.size, o) ∧ h.size ≤ s.size ∧ ∀ nm : List Int → Bool, (o && nm (bytesOf h)) = progSite nm (tw2 (bytesOf s)) := by
    rw [← hba]
    have hsuf := sSuf (s.extract 0 e) (by omega)
    cases hls : lastSplit 58 (bytesOf (s.extract 0 e)) with
    | none =>
      have hx : lixI 58 (bytesOf (s.extract 0 e)) = -1 := by unfold lixI; rw [hls]
      rw [hx] at hlx
      refine ⟨s.extract 0 e, true, ?_, by omega, fun nm => by unfold progSite; rw [hls]; rfl⟩
      refine Ev.succ ?_
      simp only [terms_authority.j0, Int.toNat_natCast]
      exact Ev.pos (by omega) (Ev.pos (by omega) (Ev.bind hlx (Ev.pos (by omega) (Ev.pure _))))
    | some x =>
      obtain ⟨h, p⟩ := x
      obtain ⟨hl, hnp⟩ := lastSplit_some 58 _ h p hls
      have hx : lixI 58 (bytesOf (s.extract 0 e)) = h.length := by unfold lixI; rw [hls]
      rw [hx] at hlx
      have hlen : h.length + 1 + p.length = e := by
        have := congrArg List.length hl
        rw [bytesOf_length, hza, List.length_append, List.length_cons] at this
        omega
      have hsx : strings_HasSuffix.f (s.extract 0 e) ⟨#[93]⟩ = some (decide ((bytesOf (s.extract 0 e)).getLast? = some 93)) := by
        simp only [strings_HasSuffix.f, hsuf, Option.bind_some]
      by_cases hp : p.getLast? = some 93
      · have hl93 : (bytesOf (s.extract 0 e)).getLast? = some 93 := by
          rw [hl, last_append (by rintro rfl; simp at hp)]
          exact hp
        refine ⟨s.extract 0 e, true, ?_, by omega, fun nm => by unfold progSite; rw [hls]; simp [hp]⟩
        refine Ev.succ ?_
        simp only [terms_authority.j0, Int.toNat_natCast]
        refine Ev.pos (by omega) (Ev.pos (by omega) (Ev.bind hlx (Ev.neg (by omega) ?_)))
        simp only [hsx, hl93, decide_true, Option.bind_some]
        exact Ev.pos trivial (Ev.pure _)
      · have hl93 : ¬ (bytesOf (s.extract 0 e)).getLast? = some 93 := by
          rw [hl]
          by_cases hp0 : p = []
          · subst hp0; simp
          · rw [last_append hp0]; exact hp
        have hbh : bytesOf ((s.extract 0 e).extract 0 h.length) = h := by
          rw [bytesOf_extract, List.drop_zero, Nat.sub_zero, hl]
          exact List.take_left
        have hbp : bytesOf ((s.extract 0 e).extract (h.length + 1) e) = p := by
          rw [bytesOf_extract, hl, List.take_of_length_le (by rw [List.length_drop, List.length_append, List.length_cons]; omega)]
          rw [show h ++ 58 :: p = (h ++ [58]) ++ p by simp]
          exact List.drop_left' (by simp)
        refine ⟨(s.extract 0 e).extract 0 h.length, portP p, ?_, by rw [ByteArray.size_extract]; omega, fun nm => by unfold progSite; rw [hls, hbh]; simp [hp]⟩
        refine Ev.succ ?_
        simp only [terms_authority.j0, Int.toNat_natCast]
        refine Ev.pos (by omega) (Ev.pos (by omega) (Ev.bind hlx (Ev.neg (by omega) ?_)))
        simp only [hsx, hl93, decide_false, Option.bind_some, Int.toNat_natCast]
        rw [wr (x := (h.length : Int) + 1) (by omega) (by omega), hza, show ((h.length : Int) + 1).toNat = h.length + 1 by omega]
        have hpp := tport_is ((s.extract 0 e).extract (h.length + 1) e) (by rw [ByteArray.size_extract]; omega)
        rw [hbp] at hpp
        exact Ev.neg (by decide) (Ev.pos (by omega) (Ev.pos (by omega) (Ev.pos (by omega) (Ev.pos (by omega) (Ev.bind hpp (Ev.pure _))))))
  obtain ⟨h, o, hev, hz, hnm⟩ := key
  refine ⟨h, s.extract e s.size, o, ?_, hbr, hz, by omega, hnm⟩
  have hf : strings_IndexAny.f s ⟨#[47, 63]⟩ = some (Lib.indexAny s.data.toList [47, 63]) := by
    unfold strings_IndexAny.f
    exact if_pos ⟨hs, rfl⟩
  simp only [terms_authority.f, hf, Option.bind_some]
  rcases hix with ⟨h1, h2⟩ | h1
  · rw [h1]
    subst h2
    exact Ev.pos (by decide) hev
  · rw [h1]
    exact Ev.neg (by omega) hev
/-! paths, forms -/
theorem tsplit_is (s : ByteArray) (hs : s.size ≤ 1048576) : ∃ (a b : ByteArray) (o : Bool), terms_Split.f s = some (a, b, o) ∧ bytesOf a = tw 63 (bytesOf s) ∧ bytesOf b = (dw 63 (bytesOf s)).drop 1 ∧ a.size ≤ s.size ∧ b.size ≤ s.size ∧ (o = true ↔ dw 63 (bytesOf s) ≠ []) := by
  have hix : stringslite_Index.f s ⟨#[63]⟩ = some (Lib.indexByte s.data.toList 63) := rfl
  have h63 : (((63 : UInt8).toNat : Nat) : Int) = 63 := rfl
  rcases index_cases s 63 with ⟨h1, h2⟩ | ⟨t, h1, h2, h3, h4⟩
  · rw [h63] at h2
    have hno : ∀ x ∈ bytesOf s, x ≠ 63 := fun x hx => by
      obtain ⟨j, hj⟩ := List.getElem?_of_mem hx
      have hlt := (List.getElem?_eq_some_iff.1 hj).1
      rw [bytesOf_length] at hlt
      have := bt_get s (i := (j : Int)) (by omega) (by omega)
      rw [Int.toNat_natCast, hj] at this
      rw [Option.some.inj this]
      exact h2 _ (by omega) (by omega)
    obtain ⟨e1, e2⟩ := tw_app (t := []) hno (.inl rfl)
    rw [List.append_nil] at e1 e2
    refine ⟨s, ⟨#[]⟩, false, ?_, e1.symm, by rw [e2]; rfl, Nat.le_refl _, Nat.zero_le _, by simp [e2]⟩
    simp only [terms_Split.f, strings_Cut.f, stringslite_Cut.f, hix, h1, Option.bind_some]
    rfl
  · rw [h63] at h3 h4
    have hj := join_at s t h2 h3
    have hz2 : (s.extract (t + 1) s.size).size = s.size - (t + 1) := by rw [ByteArray.size_extract]; omega
    have hz : (s.extract 0 t).size = t := by rw [ByteArray.size_extract]; omega
    have hf : ∀ x ∈ bytesOf (s.extract 0 t), x ≠ 63 := fun x hx => by
      rw [bytesOf_extract, List.drop_zero, Nat.sub_zero] at hx
      obtain ⟨j, hj⟩ := List.getElem?_of_mem hx
      have hlt := (List.getElem?_eq_some_iff.1 hj).1
      rw [List.length_take, bytesOf_length] at hlt
      rw [List.getElem?_take, if_pos (by omega)] at hj
      have := bt_get s (i := (j : Int)) (by omega) (by omega)
      rw [Int.toNat_natCast, hj] at this
      rw [Option.some.inj this]
      exact h4 _ (by omega) (by omega)
    obtain ⟨e1, e2⟩ := tw_app hf (t := 63 :: bytesOf (s.extract (t + 1) s.size)) (.inr ⟨_, rfl⟩)
    rw [← hj] at e1 e2
    refine ⟨s.extract 0 t, s.extract (t + 1) s.size, true, ?_, e1.symm, by rw [e2]; rfl, by omega, by omega, by simp [e2]⟩
    simp only [terms_Split.f, strings_Cut.f, stringslite_Cut.f, hix, h1, Option.bind_some]
    have e1 : ((⟨#[63]⟩ : ByteArray).size : Int) = 1 := rfl
    rw [e1, wr (by omega) (by omega), if_pos (by omega), if_pos (by omega), if_pos (by omega), if_pos (by omega), if_pos (by omega)]
    simp only [Option.bind_some, Int.toNat_natCast, show ((t : Int) + 1).toNat = t + 1 by omega]
theorem tbytes (x m : ByteArray) (hx : x.size ≤ 1048576) : terms_bytesOf.f x m = some (bs m 0 (bytesOf x)) := if_pos hx
theorem way_is (s : ByteArray) (hs : s.size ≤ 1048576) : Ev (fun k => terms_way.f k s) (wayP (bytesOf s)) := by
  obtain ⟨a, b, o, hsp, ha, hb, hza, hzb, _⟩ := tsplit_is s hs
  have jf : Ev (fun k => terms_way.j0 k a b false) (bs P1 0 (bytesOf a) && bs P2 0 (bytesOf b)) := by
    refine Ev.succ ?_
    simp only [terms_way.j0, tbytes a _ (show a.size ≤ 1048576 by omega), tbytes b _ (show b.size ≤ 1048576 by omega), Option.bind_some]
    refine Ev.neg (by simp) ?_
    cases bs P1 0 (bytesOf a) with
    | true => exact Ev.pos rfl (Ev.pure _)
    | false => exact Ev.neg (by decide) (Ev.pure _)
  simp only [terms_way.f, hsp, Option.bind_some]
  unfold wayP
  rw [← ha, ← hb]
  refine Ev.ite (fun e => ?_) (fun e => ?_)
  · have h0 := (empty_bytes a).1 e
    rw [decide_eq_true h0]
    simpa using jf
  · have hp : 0 < a.size := by have : ¬ a.size = 0 := fun h => e ((empty_iff a).2 h); omega
    have h0 : bytesOf a ≠ [] := fun h => e ((empty_bytes a).2 h)
    refine Ev.pos (by omega) ?_
    rw [decide_eq_false h0, bt0 a hp]
    by_cases e2 : bt a 0 = 47
    · rw [e2]
      simpa using jf
    · have : (bt a 0 != 47) = true := by simp [e2]
      rw [this]
      refine Ev.succ ?_
      simp only [terms_way.j0]
      refine Ev.pos trivial ?_
      have e3 : decide (some (bt a 0) = some 47) = false := decide_eq_false (fun h => e2 (Option.some.inj h))
      rw [e3]
      exact Ev.pure _
theorem anyw_is (s : ByteArray) (hs : s.size ≤ 1048576) : Ev (fun k => terms_anywhere.f k s) (anyP hostP (bytesOf s)) := by
  obtain ⟨h, r, o, hev, hr, hzh, hzr, hnm⟩ := auth_is s hs
  simp only [terms_anywhere.f]
  refine Ev.bind hev ?_
  unfold anyP
  rw [← hnm hostP, ← hr]
  cases o with
  | true =>
    refine Ev.pos rfl (Ev.bind (thost_is h (by omega)) ?_)
    cases hostP (bytesOf h) with
    | true => exact Ev.pos rfl (Ev.bind (way_is r (by omega)) (Ev.pure _))
    | false => exact Ev.neg (by decide) (Ev.pure _)
  | false => exact Ev.neg (by simp) (Ev.pure _)
theorem loc_is (s : ByteArray) (hs : s.size ≤ 1048576) : Ev (fun k => terms_local.f k s) (anyP namesP (bytesOf s)) := by
  obtain ⟨h, r, o, hev, hr, hzh, hzr, hnm⟩ := auth_is s hs
  simp only [terms_local.f]
  refine Ev.bind hev ?_
  unfold anyP
  rw [← hnm namesP, ← hr]
  have hw := Ev.bind (way_is r (by omega)) (Ev.pure (wayP (bytesOf r)))
  have key : ∀ (m : List UInt8) (n : List Int), m.map (fun b => (b.toNat : Int)) = n → (h.toList = m ↔ bytesOf h = n) := by
    intro m n hmn
    have e : bytesOf ⟨m.toArray⟩ = n := by rw [← hmn]; unfold bytesOf; simp
    have e2 : (⟨m.toArray⟩ : ByteArray).toList = m := by rw [toList_data]
    constructor
    · intro hh
      rw [← e2, toList_inj] at hh
      rw [hh, e]
    · intro hh
      rw [← e] at hh
      rw [bytesOf_inj hh, e2]
  have k1 := key [108, 111, 99, 97, 108, 104, 111, 115, 116] [108, 111, 99, 97, 108, 104, 111, 115, 116] rfl
  have k2 := key [49, 50, 55, 46, 48, 46, 48, 46, 49] [49, 50, 55, 46, 48, 46, 48, 46, 49] rfl
  have k3 := key [91, 58, 58, 49, 93] [91, 58, 58, 49, 93] rfl
  cases o with
  | false => exact Ev.neg (by simp) (Ev.pure _)
  | true =>
    refine Ev.pos rfl ?_
    unfold namesP
    rw [Bool.true_and]
    refine Ev.ite (fun e1 => ?_) (fun e1 => Ev.ite (fun e2 => ?_) (fun e2 => Ev.ite (fun e3 => ?_) (fun e3 => ?_)))
    · rw [decide_eq_true (.inl (k1.1 e1)), Bool.true_and]; exact hw
    · rw [decide_eq_true (.inr (.inl (k2.1 e2))), Bool.true_and]; exact hw
    · rw [decide_eq_true (.inr (.inr (k3.1 e3))), Bool.true_and]; exact hw
    · rw [decide_eq_false (by rintro (h | h | h); exact e1 (k1.2 h); exact e2 (k2.2 h); exact e3 (k3.2 h)), Bool.false_and]
      exact Ev.pure _
theorem scheme_len : ∀ (l : List Int) (f d : Bool) (r : List Int), schemeP f d l = some r → ∃ p, l = p ++ r ∧ p ≠ []
  | [], f, d, r, h => by simp [schemeP] at h
  | c :: m, f, d, r, h => by
    have rec_ : ∀ d', schemeP false d' m = some r → ∃ p, c :: m = p ++ r ∧ p ≠ [] := fun d' h' => by
      obtain ⟨p, hp, _⟩ := scheme_len m false d' r h'
      exact ⟨c :: p, by rw [hp]; rfl, by simp⟩
    simp only [schemeP] at h
    split at h
    · exact rec_ _ h
    · split at h
      · cases h
      · split at h
        · split at h
          · obtain rfl := Option.some.inj h; exact ⟨[c], rfl, by simp⟩
          · cases h
        · split at h
          · exact rec_ _ h
          · split at h
            · exact rec_ _ h
            · cases h
def pv (l : List Int) (i : Int) (d : Bool) : Int := match schemeP (decide (i = 0)) d (l.drop i.toNat) with
  | none => 0
  | some r => l.length - r.length
theorem priv_loop (s : ByteArray) (hs : s.size ≤ 1048576) (d : Nat) : ∀ (i : Int) (dot : Bool), 0 ≤ i → (s.size : Int) - i = d → Ev (fun k => terms_private.l0 k s dot (s.size : Int) i) (pv (bytesOf s) i dot) := by
  induction d with
  | zero =>
    intro i dot h0 hd
    refine Ev.succ ?_
    simp only [terms_private.l0, pv]
    rw [drop_end s (by omega)]
    exact Ev.neg (by omega) (Ev.pure _)
  | succ d ih =>
    intro i dot h0 hd
    have hlt : i < s.size := by omega
    have ih' := fun dt => ih (i + 1) dt (by omega) (by omega)
    have hn : decide (i + 1 = 0) = false := decide_eq_false (by omega)
    have hpv : ∀ dt, pv (bytesOf s) (i + 1) dt = match schemeP false dt ((bytesOf s).drop (i + 1).toNat) with
      | none => 0
      | some r => (bytesOf s).length - r.length := fun dt => by unfold pv; rw [hn]
    have jt : Ev (fun k => terms_private.j1 k s dot i (bt s i) (s.size : Int) i true) (pv (bytesOf s) (i + 1) dot) := by
      refine Ev.succ ?_
      simp only [terms_private.j1]
      rw [wr (x := i + 1) (by omega) (by omega)]
      exact Ev.pos trivial (ih' dot)
    have go : ∀ r, (¬ (97 ≤ bt s i ∧ bt s i ≤ 122) → Ev (fun k => terms_private.j1 k s dot i (bt s i) (s.size : Int) i false) r) → ((97 ≤ bt s i ∧ bt s i ≤ 122) → r = pv (bytesOf s) (i + 1) dot) → Ev (fun k => terms_private.l0 k s dot (s.size : Int) i) r := by
      intro r h1 h2
      refine Ev.succ ?_
      simp only [terms_private.l0]
      refine Ev.pos hlt (Ev.pos h0 (Ev.pos hlt (Ev.ite (fun e => ?_) (fun e => ?_))))
      · by_cases e2 : bt s i ≤ 122
        · rw [decide_eq_true e2, h2 ⟨e, e2⟩]; exact jt
        · rw [decide_eq_false e2]; exact h1 (fun h => e2 h.2)
      · exact h1 (fun h => e h.1)
    refine go _ (fun h1 => ?_) (fun h1 => ?_)
    · refine Ev.succ ?_
      simp only [terms_private.j1, digit_is', Option.bind_some]
      rw [wr (x := i + 1) (by omega) (by omega)]
      unfold pv
      rw [drop_at s h0 hlt]
      simp only [schemeP, if_neg h1]
      refine Ev.neg (by simp) (Ev.ite (fun e => ?_) (fun e => ?_))
      · rw [decide_eq_true e]
        simp only [if_true]
        exact Ev.pure _
      · rw [decide_eq_false e]
        simp only [Bool.false_eq_true, if_false]
        refine Ev.ite (fun e58 => ?_) (fun e58 => ?_)
        · rw [if_pos e58]
          refine Ev.ite (fun ed => ?_) (fun ed => ?_)
          · rw [if_pos ed]
            simp only
            rw [List.length_drop, bytesOf_length, show ((s.size : Nat) : Int) - ((s.size - (i + 1).toNat : Nat) : Int) = i + 1 by omega]
            exact Ev.pure _
          · rw [if_neg ed]; exact Ev.pure _
        · rw [if_neg e58]
          refine Ev.ite (fun e46 => ?_) (fun e46 => ?_)
          · rw [if_pos e46, ← hpv]; exact ih' true
          · rw [if_neg e46]
            cases hd : digitB (bt s i) with
            | true => rw [if_pos (.inl rfl), ← hpv]; exact Ev.pos rfl (ih' dot)
            | false =>
              refine Ev.neg (by decide) (Ev.ite (fun e43 => ?_) (fun e43 => Ev.ite (fun e45 => ?_) (fun e45 => ?_)))
              · rw [if_pos (.inr (.inl e43)), ← hpv]; exact ih' dot
              · rw [if_pos (.inr (.inr e45)), ← hpv]; exact ih' dot
              · rw [if_neg (by rintro (h | h | h); cases h; exact e43 h; exact e45 h)]
                exact Ev.pure _
    · rw [hpv]
      unfold pv
      rw [drop_at s h0 hlt]
      simp only [schemeP, if_pos h1]
theorem inside_is (s : ByteArray) (hs : s.size ≤ 1048576) : Ev (fun k => terms_inside.f k s) (insideP (bytesOf s)) := by
  have h1 : bytesOf (⟨#[47]⟩ : ByteArray) = [47] := rfl
  have h2 : bytesOf (⟨#[47, 47]⟩ : ByteArray) = [47, 47] := rfl
  simp only [terms_inside.f, strings_HasPrefix.f, sPre s _ hs, h1, h2, Option.bind_some, insideP]
  cases List.isPrefixOf [47] (bytesOf s) with
  | false => exact Ev.neg (by decide) (Ev.pure _)
  | true =>
    refine Ev.pos rfl ?_
    cases List.isPrefixOf [47, 47] (bytesOf s) with
    | true => exact Ev.pos rfl (Ev.pure _)
    | false => exact Ev.neg (by decide) (Ev.bind (way_is s hs) (Ev.pure _))
theorem hp_is (s p : ByteArray) : hp s p = List.isPrefixOf (bytesOf p) (bytesOf s) := by
  unfold hp Lib.hasPrefix bytesOf
  rw [Bool.eq_iff_iff, List.isPrefixOf_iff_prefix, List.isPrefixOf_iff_prefix]
  constructor
  · intro h; exact h.map _
  · intro h
    have := List.prefix_iff_eq_take.1 h
    rw [List.length_map, ← List.map_take] at this
    have h2 := List.map_inj_right (fun x y e => UInt8.toNat_inj.1 (by omega)) |>.1 this
    rw [h2]
    exact List.take_prefix _ _
theorem red_is (s : ByteArray) : Ev (fun k => terms_Redirect.f k s) (decide (s.size ≤ 512) && progRed (bytesOf s)) := by
  simp only [terms_Redirect.f]
  refine Ev.ite (fun e => ?_) (fun e => ?_)
  · rw [decide_eq_false (by omega)]; exact Ev.pure _
  · have hs : s.size ≤ 1048576 := by omega
    rw [decide_eq_true (by omega), Bool.true_and]
    have hb : ∀ n : Nat, bytesOf (s.extract n s.size) = (bytesOf s).drop n := fun n => by rw [bytesOf_extract, List.take_of_length_le (by rw [List.length_drop, bytesOf_length]; omega)]
    have hz : ∀ n : Nat, (s.extract n s.size).size ≤ 1048576 := fun n => by rw [ByteArray.size_extract]; omega
    have e1 : bytesOf headS = HS := rfl
    have e2 : bytesOf headP = HP := rfl
    rw [hp_is, hp_is, e1, e2]
    unfold progRed
    refine Ev.ite (fun h1 => ?_) (fun h1 => ?_)
    · rw [if_pos h1, ← hb]; exact anyw_is _ (hz 8)
    · rw [if_neg h1]
      refine Ev.ite (fun h2 => ?_) (fun h2 => ?_)
      · rw [if_pos h2, ← hb]; exact loc_is _ (hz 7)
      · rw [if_neg h2]
        have hp := priv_loop s hs s.size 0 false (Int.le_refl _) (by omega)
        have hpf : Ev (fun k => terms_private.f k s) (pv (bytesOf s) 0 false) := by simp only [terms_private.f]; exact hp
        refine Ev.bind hpf ?_
        unfold pv
        rw [Int.toNat_zero, List.drop_zero, show decide ((0 : Int) = 0) = true from rfl]
        cases hsc : schemeP true false (bytesOf s) with
        | none => exact Ev.neg (by simp) (Ev.pure _)
        | some r =>
          obtain ⟨p, hp, hne⟩ := scheme_len _ _ _ _ hsc
          have hpl : 0 < p.length := List.length_pos_iff.2 hne
          have hl : (bytesOf s).length = p.length + r.length := by rw [hp, List.length_append]
          have hl2 := bytesOf_length s
          simp only
          rw [show ((bytesOf s).length : Int) - (r.length : Int) = (p.length : Int) by omega]
          refine Ev.pos (by omega) (Ev.pos (by omega) ?_)
          have hin := inside_is (s.extract p.length s.size) (hz _)
          rw [hb, show (bytesOf s).drop p.length = r by rw [hp]; exact List.drop_left] at hin
          rw [Int.toNat_natCast]
          exact hin
end Go.Proofs.YtopfmcgmfnmikaaDoor.Y
