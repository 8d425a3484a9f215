/- Pairs in plain words. Condition: a text of at most 2^40 bytes. -/
import Derived.Test.YtlnjomhmffdfnaaDoorYPairs
-- IMPORTS
import Derived.Test.YtlnjomhmffdfnaaDoorXx0
import Derived.Test.YtlnjomhmffdfnaaDoorXx4
import Derived.Test.YtlnjomhmffdfnaaDoorXx16
import Derived.Test.YtlnjomhmffdfnaaDoorXx17
namespace Go.Proofs.YtlnjomhmffdfnaaDoor.Y
open Go.RowKit Go.Proofs.YtlnjomhmffdfnaaDoorW.PrintWords Go.Proofs.YtlnjomhmffdfnaaDoorW.PrintLast Go.Proofs.YtlnjomhmffdfnaaDoor.X
def cutP (l : List Int) : List Int × List Int := (l.takeWhile (fun x => decide (x ≠ 61)), (l.dropWhile (fun x => decide (x ≠ 61))).drop 1)
theorem cutP_at : ∀ (a b : List Int), (∀ x ∈ a, x ≠ 61) → cutP (a ++ 61 :: b) = (a, b)
  | [], b, _ => by simp [cutP]
  | x :: a, b, h => by
    have ih := cutP_at a b (fun y hy => h y (List.mem_cons_of_mem _ hy))
    have hx : decide (x ≠ 61) = true := decide_eq_true (h x (List.mem_cons_self ..))
    simp only [cutP, Prod.mk.injEq] at ih
    simp only [cutP, List.cons_append, List.takeWhile_cons, List.dropWhile_cons, hx, if_true, ih.1, ih.2]
theorem cutP_none : ∀ (a : List Int), (∀ x ∈ a, x ≠ 61) → cutP a = (a, [])
  | [], _ => rfl
  | x :: a, h => by
    have ih := cutP_none a (fun y hy => h y (List.mem_cons_of_mem _ hy))
    have hx : decide (x ≠ 61) = true := decide_eq_true (h x (List.mem_cons_self ..))
    simp only [cutP, Prod.mk.injEq] at ih
    simp only [cutP, List.takeWhile_cons, List.dropWhile_cons, hx, if_true, ih.1, ih.2]
theorem cut_is (s : ByteArray) (hs : s.size ≤ 1099511627776) : ∃ u v b, strings_Cut.f s ⟨#[61]⟩ = some (u, v, b) ∧ bytesOf u = (cutP (bytesOf s)).1 ∧ bytesOf v = (cutP (bytesOf s)).2 ∧ u.size ≤ s.size ∧ v.size ≤ s.size := by
  have hix : stringslite_Index.f s ⟨#[61]⟩ = some (Lib.indexByte s.data.toList 61) := rfl
  rcases index_cases s 61 with ⟨h1, h2⟩ | ⟨t, h1, h2, h3, h4⟩
  · refine ⟨s, ⟨#[]⟩, false, ?_, ?_, ?_, Nat.le_refl _, Nat.zero_le _⟩
    · simp only [strings_Cut.f, stringslite_Cut.f, hix, h1, Option.bind_some]
      rfl
    all_goals
      rw [cutP_none]
      first | rfl | skip
    all_goals
      intro x hx
      obtain ⟨j, hj⟩ := List.getElem?_of_mem hx
      have hlt := (List.getElem?_eq_some_iff.1 hj).1
      rw [bytesOf_length] at hlt
      have := bt_get s (i := (j : Int)) (by omega) (by omega)
      rw [Int.toNat_natCast, hj] at this
      rw [Option.some.inj this]
      exact h2 _ (by omega) (by omega)
  · have hj := join_at s t h2 h3
    have hz2 : (s.extract (t + 1) s.size).size = s.size - (t + 1) := by rw [ByteArray.size_extract]; omega
    have hz : (s.extract 0 t).size = t := by rw [ByteArray.size_extract]; omega
    have hf : ∀ x ∈ bytesOf (s.extract 0 t), x ≠ 61 := fun x hx => by
      rw [bytesOf_extract, List.drop_zero, Nat.sub_zero] at hx
      obtain ⟨j, hj⟩ := List.getElem?_of_mem hx
      have hlt := (List.getElem?_eq_some_iff.1 hj).1
      rw [List.length_take, bytesOf_length] at hlt
      rw [List.getElem?_take, if_pos (by omega)] at hj
      have := bt_get s (i := (j : Int)) (by omega) (by omega)
      rw [Int.toNat_natCast, hj] at this
      rw [Option.some.inj this]
      exact h4 _ (by omega) (by omega)
    have hc := cutP_at _ (bytesOf (s.extract (t + 1) s.size)) hf
    have h61 : (((61 : UInt8).toNat : Nat) : Int) = 61 := rfl
    rw [h61] at hj
    refine ⟨s.extract 0 t, s.extract (t + 1) s.size, true, ?_, by rw [hj, hc], by rw [hj, hc], by omega, by omega⟩
    simp only [strings_Cut.f, stringslite_Cut.f, hix, h1, Option.bind_some]
    have e1 : ((⟨#[61]⟩ : ByteArray).size : Int) = 1 := rfl
    rw [e1, wr (by omega) (by omega), if_pos (by omega), if_pos (by omega), if_pos (by omega), if_pos (by omega), if_pos (by omega)]
    simp only [Option.bind_some, Int.toNat_natCast, show ((t : Int) + 1).toNat = t + 1 by omega]
def oneB (x : ByteArray) : Option S52 := match ue true 0 0 (cutP (bytesOf x)).1 with
  | none => none
  | some a => match ue true 0 0 (cutP (bytesOf x)).2 with
    | none => none
    | some b => some ⟨strOfNums a, strOfNums b⟩
def allB : List ByteArray → Option (List S52)
  | [] => some []
  | x :: r => if x.toList = [] then allB r else match oneB x with
    | none => none
    | some p => (allB r).map (p :: ·)
def cntB : List ByteArray → Nat
  | [] => 0
  | x :: r => if x.toList = [] then cntB r else cntB r + 1
theorem cntB_le : ∀ l, cntB l ≤ l.length
  | [] => Nat.le_refl _
  | x :: r => by
    have := cntB_le r
    simp only [cntB, List.length_cons]
    split <;> omega
def resB (acc : List S52) : Option (List S52) → List S52 × Option Int
  | some ps => (acc ++ ps, none)
  | none => ([], some 2)
theorem resB_map (acc : List S52) (p : S52) (o : Option (List S52)) : resB acc (o.map (p :: ·)) = resB (acc ++ [p]) o := by cases o <;> simp [resB]
theorem pairs1_loop (P : List ByteArray) (hP : ∀ x ∈ P, x.size ≤ 1099511627776) (hl : P.length ≤ 2199023255552) (d : Nat) : ∀ (acc : List S52) (i : Int), 0 ≤ i → (P.length : Int) - i = d → (acc.length : Int) ≤ i →
    Ev (fun k => pct_Pairs.l1 k acc P (P.length : Int) i) (resB acc (allB (P.drop i.toNat))) := by
  induction d with
  | zero =>
    intro acc i h0 hd ha
    refine Ev.succ ?_
    simp only [pct_Pairs.l1]
    rw [drop_le P (by omega)]
    simp only [allB, resB, List.append_nil]
    exact Ev.neg (by omega) (Ev.pure _)
  | succ d ih =>
    intro acc i h0 hd ha
    have hlt : i < P.length := by omega
    have hx := hP _ (rd_mem ByteArray.empty P h0 hlt)
    rw [drop_rd ByteArray.empty P h0 hlt]
    obtain ⟨x, hxe⟩ : ∃ x, rdOf ByteArray.empty P i = x := ⟨_, rfl⟩
    rw [hxe] at hx ⊢
    refine Ev.succ ?_
    simp only [pct_Pairs.l1, hxe]
    rw [wr (x := i + 1) (by omega) (by omega)]
    refine Ev.pos hlt (Ev.pos h0 (Ev.pos hlt (Ev.ite (fun e => ?_) (fun e => ?_))))
    · simp only [allB, e, if_true]
      exact ih acc (i + 1) (by omega) (by omega) (by omega)
    · obtain ⟨u, v, b, hc, hu, hv, hus, hvs⟩ := cut_is x hx
      have ev : ∀ z : ByteArray, z.size ≤ 1099511627776 → Ev (fun k => pct_Unescape.f k z true) (pRes [] (ue true 0 0 (bytesOf z))) := fun z hz => ⟨2 * z.size + 4, fun k hk => Unescape_is z true (by omega) k hk⟩
      refine Ev.bind (f := fun _ => strings_Cut.f x ⟨#[61]⟩) (r := (u, v, b)) (Ev.of_eq fun _ => hc) (Ev.bind (ev u (by omega)) ?_)
      simp only [allB, e, if_false, oneB]
      rw [← hu, ← hv]
      cases h1 : ue true 0 0 (bytesOf u) with
      | none =>
        simp only [pRes, resB]
        exact Ev.neg (by simp) (Ev.of_eq fun _ => rfl)
      | some a =>
        simp only [pRes, List.nil_append]
        refine Ev.pos rfl (Ev.bind (ev v (by omega)) ?_)
        cases h2 : ue true 0 0 (bytesOf v) with
        | none =>
          simp only [pRes, resB]
          exact Ev.neg (by simp) (Ev.of_eq fun _ => rfl)
        | some b' =>
          simp only [pRes, List.nil_append]
          refine Ev.pos rfl (Ev.pos (by omega) ?_)
          rw [resB_map]
          exact ih (acc ++ [⟨strOfNums a, strOfNums b'⟩]) (i + 1) (by omega) (by omega) (by simp; omega)
theorem pairs0_loop (P : List ByteArray) (hP : ∀ x ∈ P, x.size ≤ 1099511627776) (hl : P.length ≤ 2199023255552) (d : Nat) : ∀ (n i : Int) (R : List S52 × Option Int), 0 ≤ i → (P.length : Int) - i = d → 0 ≤ n → n ≤ i →
    (n + cntB (P.drop i.toNat) > 32 → R = ([], some 3)) → (¬ n + cntB (P.drop i.toNat) > 32 → R = resB [] (allB P)) → Ev (fun k => pct_Pairs.l0 k P n P (P.length : Int) i) R := by
  induction d with
  | zero =>
    intro n i R h0 hd hn hni g1 g2
    refine Ev.succ ?_
    simp only [pct_Pairs.l0]
    rw [drop_le P (by omega)] at g1 g2
    have hz : cntB [] = 0 := rfl
    rw [hz] at g1 g2
    refine Ev.neg (by omega) ?_
    by_cases e : n > 32
    · rw [g1 (by omega)]
      exact Ev.pos e (Ev.pure _)
    · rw [g2 (by omega)]
      refine Ev.neg e (Ev.pos hn (Ev.pos (by omega) ?_))
      have := pairs1_loop P hP hl P.length [] 0 (Int.le_refl _) (by omega) (by simp)
      exact this
  | succ d ih =>
    intro n i R h0 hd hn hni g1 g2
    have hlt : i < P.length := by omega
    rw [drop_rd ByteArray.empty P h0 hlt] at g1 g2
    obtain ⟨x, hxe⟩ : ∃ x, rdOf ByteArray.empty P i = x := ⟨_, rfl⟩
    rw [hxe] at g1 g2
    refine Ev.succ ?_
    simp only [pct_Pairs.l0, hxe]
    rw [wr (x := i + 1) (by omega) (by omega), wr (x := n + 1) (by omega) (by omega)]
    refine Ev.pos hlt (Ev.pos h0 (Ev.pos hlt (Ev.ite (fun e => ?_) (fun e => ?_))))
    · have hc : cntB (x :: P.drop (i + 1).toNat) = cntB (P.drop (i + 1).toNat) := by simp only [cntB, e, if_true]
      rw [hc] at g1 g2
      exact ih n (i + 1) R (by omega) (by omega) hn (by omega) g1 g2
    · have hc : cntB (x :: P.drop (i + 1).toNat) = cntB (P.drop (i + 1).toNat) + 1 := by simp only [cntB, e, if_false]
      rw [hc] at g1 g2
      exact ih (n + 1) (i + 1) R (by omega) (by omega) (by omega) (by omega) (fun h => g1 (by omega)) (fun h => g2 (by omega))
def pcs (s : ByteArray) : List ByteArray := (sp 38 (bytesOf s)).map strOfNums
def prs (P : List ByteArray) : List S52 × Option Int := if 32 < cntB P then ([], some 3) else resB [] (allB P)
theorem sp_sub (c : Int) : ∀ l, ∀ q ∈ sp c l, q.length ≤ l.length
  | [] => by simp [sp]
  | x :: r => by
    have ih := sp_sub c r
    intro q hq
    by_cases e : x = c
    · simp only [sp, if_pos e] at hq
      rcases List.mem_cons.1 hq with rfl | hq
      · simp
      · have := ih q hq
        simp only [List.length_cons]
        omega
    · obtain ⟨g, t, ht⟩ := sp_cons c r
      rw [sp_cons_ne e ht] at hq
      rw [ht] at ih
      rcases List.mem_cons.1 hq with rfl | hq
      · have := ih g (List.mem_cons_self ..)
        simp only [List.length_cons]
        omega
      · have := ih q (List.mem_cons_of_mem _ hq)
        simp only [List.length_cons]
        omega
theorem pairs_is (s : ByteArray) (hs : s.size ≤ 1099511627776) : Ev (fun k => pct_Pairs.f k s) (prs (pcs s)) := by
  simp only [pct_Pairs.f]
  refine Ev.bind (split_is s 38 hs) ?_
  have hlen : (pcs s).length ≤ 2199023255552 := by
    unfold pcs
    rw [List.length_map, sp_length]
    have : (bytesOf s).count 38 ≤ (bytesOf s).length := List.count_le_length
    rw [bytesOf_length] at this
    omega
  have hP : ∀ x ∈ pcs s, x.size ≤ 1099511627776 := fun x hx => by
    obtain ⟨q, hq, rfl⟩ := List.mem_map.1 hx
    have := sp_sub 38 (bytesOf s) q hq
    rw [bytesOf_length] at this
    rw [strOfNums_size]
    omega
  refine pairs0_loop (pcs s) hP hlen (pcs s).length 0 0 (prs (pcs s)) (Int.le_refl _) (by omega) (Int.le_refl _) (Int.le_refl _) (fun h => ?_) (fun h => ?_)
  · unfold prs
    rw [Int.toNat_zero, List.drop_zero] at h
    rw [if_pos (by omega)]
  · unfold prs
    rw [Int.toNat_zero, List.drop_zero] at h
    rw [if_neg (by omega)]
end Go.Proofs.YtlnjomhmffdfnaaDoor.Y
