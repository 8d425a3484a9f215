/- The document's Pairs in plain words. Condition: a text of at most 2^40 bytes. -/
import Derived.Test.YtlnjomhmffdfnaaDoorYPairs2
import Derived.Test.YtlnjomhmffdfnaaDoorYUnesc
-- IMPORTS
import Derived.Test.YtlnjomhmffdfnaaDoorXx0
import Derived.Test.YtlnjomhmffdfnaaDoorXx5
import Derived.Test.YtlnjomhmffdfnaaDoorXx17
import Derived.Test.YtlnjomhmffdfnaaDoorXx18
namespace Go.Proofs.YtlnjomhmffdfnaaDoor.Y
open Go.RowKit Go.Proofs.YtlnjomhmffdfnaaDoorW.PrintWords Go.Proofs.YtlnjomhmffdfnaaDoorW.PrintLast Go.Proofs.YtlnjomhmffdfnaaDoor.X
def nb (P : List ByteArray) : List ByteArray := P.filter (fun x => decide (x.toList ≠ []))
theorem nb_cons_e {x : ByteArray} {r : List ByteArray} (h : x.toList = []) : nb (x :: r) = nb r := by simp [nb, h]
theorem nb_cons_n {x : ByteArray} {r : List ByteArray} (h : x.toList ≠ []) : nb (x :: r) = x :: nb r := by simp [nb, h]
theorem cntB_nb : ∀ P, cntB P = (nb P).length
  | [] => rfl
  | x :: r => by
    have ih := cntB_nb r
    by_cases h : x.toList = []
    · rw [nb_cons_e h, ← ih]; simp only [cntB, h, if_true]
    · rw [nb_cons_n h, List.length_cons, ← ih]; simp only [cntB, h, if_false]
def allQ : List ByteArray → Option (List S52)
  | [] => some []
  | x :: r => match oneB x with
    | none => none
    | some p => (allQ r).map (p :: ·)
theorem allB_nb : ∀ P, allB P = allQ (nb P)
  | [] => rfl
  | x :: r => by
    have ih := allB_nb r
    by_cases h : x.toList = []
    · rw [nb_cons_e h, ← ih]; simp only [allB, h, if_true]
    · rw [nb_cons_n h]; simp only [allB, allQ, h, if_false, ih]; rfl
/-- find -/
theorem find_loop (s : ByteArray) (hs : s.size ≤ 1099511627776) (d : Nat) : ∀ i : Int, 0 ≤ i → (s.size : Int) - i = d →
    Ev (fun k => usherref3_find.l0 k s 61 i) (i + (((bytesOf s).drop i.toNat).takeWhile (fun x => decide (x ≠ 61))).length) := by
  induction d with
  | zero =>
    intro i h0 hd
    refine Ev.succ ?_
    simp only [usherref3_find.l0]
    rw [drop_end s (by omega)]
    refine Ev.neg (by omega) ?_
    simp only [List.takeWhile_nil, List.length_nil]
    rw [show (i + ((0 : Nat) : Int)) = (s.size : Int) by omega]
    exact Ev.pure _
  | succ d ih =>
    intro i h0 hd
    have hlt : i < s.size := by omega
    refine Ev.succ ?_
    simp only [usherref3_find.l0]
    rw [drop_at s h0 hlt, wr (x := i + 1) (by omega) (by omega)]
    refine Ev.pos hlt (Ev.pos h0 (Ev.ite (fun e => ?_) (fun e => ?_)))
    · simp only [List.takeWhile_cons, e]
      simp only [ne_eq, not_true_eq_false, decide_false, Bool.false_eq_true, if_false, List.length_nil]
      rw [show (i + ((0 : Nat) : Int)) = i by omega]
      exact Ev.pure _
    · have := ih (i + 1) (by omega) (by omega)
      simp only [List.takeWhile_cons, e, ne_eq, not_false_eq_true, decide_true, if_true, List.length_cons]
      rw [show ∀ n : Nat, i + ((n + 1 : Nat) : Int) = i + 1 + (n : Int) from fun n => by omega]
      exact this
theorem take_tw {α : Type} (p : α → Bool) : ∀ l : List α, l.take (l.takeWhile p).length = l.takeWhile p
  | [] => rfl
  | x :: r => by
    simp only [List.takeWhile_cons]
    split
    · simp [take_tw p r]
    · rfl
theorem drop_tw {α : Type} (p : α → Bool) : ∀ l : List α, l.drop (l.takeWhile p).length = l.dropWhile p
  | [] => rfl
  | x :: r => by
    simp only [List.takeWhile_cons, List.dropWhile_cons]
    split
    · simp [drop_tw p r]
    · rfl
theorem tw_le {α : Type} (p : α → Bool) (l : List α) : (l.takeWhile p).length ≤ l.length := by
  have := congrArg List.length (take_tw p l)
  rw [List.length_take] at this
  omega
theorem ue_nil : ue true 0 0 [] = some [] := by rfl
def pieceR : Option S52 → ByteArray × ByteArray × Int
  | none => (⟨#[]⟩, ⟨#[]⟩, 2)
  | some p => (p.f0, p.f1, 0)
theorem piece_is (s : ByteArray) (hs : s.size ≤ 1099511627776) : Ev (fun k => usherref3_piece.f k s) (pieceR (oneB s)) := by
  simp only [usherref3_piece.f, usherref3_find.f]
  refine Ev.bind (find_loop s hs s.size 0 (Int.le_refl _) (by omega)) ?_
  rw [Int.toNat_zero, List.drop_zero, Int.zero_add]
  have hle := tw_le (fun x : Int => decide (x ≠ 61)) (bytesOf s)
  rw [bytesOf_length] at hle
  obtain ⟨t, ht⟩ : ∃ t : Nat, ((bytesOf s).takeWhile (fun x => decide (x ≠ 61))).length = t := ⟨_, rfl⟩
  rw [ht] at hle ⊢
  have e1 : bytesOf (s.extract 0 t) = (cutP (bytesOf s)).1 := by
    rw [bytesOf_extract, List.drop_zero, Nat.sub_zero, ← ht, take_tw]
    rfl
  have e2 : bytesOf (s.extract (t + 1) s.size) = (cutP (bytesOf s)).2 := by
    rw [bytesOf_extract, List.take_of_length_le (by rw [List.length_drop, bytesOf_length]; omega)]
    show _ = ((bytesOf s).dropWhile _).drop 1
    rw [← drop_tw, ht, List.drop_drop]
  have ev : ∀ z : ByteArray, z.size ≤ 1099511627776 → Ev (fun k => usherref3_Unescape.f k z true) (rRes [] (ue true 0 0 (bytesOf z))) := fun z hz => ⟨2 * z.size + 4, fun k hk => refUnescape_is z true (by omega) k hk⟩
  have z1 : (s.extract 0 t).size ≤ s.size := by rw [ByteArray.size_extract]; omega
  have z2 : (s.extract (t + 1) s.size).size ≤ s.size := by rw [ByteArray.size_extract]; omega
  rw [wr (x := (t : Int) + 1) (by omega) (by omega)]
  refine Ev.pos (by omega) (Ev.pos (by omega) (Ev.bind (ev _ (by rw [Int.toNat_natCast]; omega)) ?_))
  rw [Int.toNat_natCast, e1]
  unfold oneB
  cases h1 : ue true 0 0 (cutP (bytesOf s)).1 with
  | none =>
    simp only [rRes, pieceR]
    exact Ev.neg (by decide) (Ev.pure _)
  | some a =>
    simp only [rRes, List.nil_append]
    refine Ev.pos trivial (Ev.ite (fun e => ?_) (fun e => ?_))
    · have hn : (cutP (bytesOf s)).2 = [] := by
        rw [← e2, ← List.length_eq_zero_iff, bytesOf_length, ByteArray.size_extract]
        omega
      rw [hn, ue_nil]
      exact Ev.pure _
    · refine Ev.pos (by omega) (Ev.pos (by omega) ?_)
      rw [show ((t : Int) + 1).toNat = t + 1 by omega]
      refine Ev.bind (ev _ (by omega)) ?_
      rw [e2]
      cases h2 : ue true 0 0 (cutP (bytesOf s)).2 with
      | none =>
        simp only [rRes, pieceR]
        exact Ev.neg (by decide) (Ev.pure _)
      | some b =>
        simp only [rRes, pieceR, List.nil_append]
        exact Ev.pos trivial (Ev.pure _)
def rResB (acc : List S52) : Option (List S52) → List S52 × Int
  | some ps => (acc ++ ps, 0)
  | none => ([], 2)
theorem rResB_map (acc : List S52) (p : S52) (o : Option (List S52)) : rResB acc (o.map (p :: ·)) = rResB (acc ++ [p]) o := by cases o <;> simp [rResB]
theorem refPairs_loop (P : List ByteArray) (hP : ∀ x ∈ P, x.size ≤ 1099511627776) (hl : P.length ≤ 32) (d : Nat) : ∀ (acc : List S52) (i : Int), 0 ≤ i → (P.length : Int) - i = d → (acc.length : Int) ≤ i →
    Ev (fun k => usherref3_Pairs.l0 k P acc i) (rResB acc (allQ (P.drop i.toNat))) := by
  induction d with
  | zero =>
    intro acc i h0 hd ha
    refine Ev.succ ?_
    simp only [usherref3_Pairs.l0]
    rw [drop_le P (by omega)]
    simp only [allQ, rResB, List.append_nil]
    exact Ev.neg (by omega) (Ev.pure _)
  | succ d ih =>
    intro acc i h0 hd ha
    have hlt : i < P.length := by omega
    have hx := hP _ (rd_mem ByteArray.empty P h0 hlt)
    rw [drop_rd ByteArray.empty P h0 hlt]
    obtain ⟨x, hxe⟩ : ∃ x, rdOf ByteArray.empty P i = x := ⟨_, rfl⟩
    rw [hxe] at hx ⊢
    refine Ev.succ ?_
    simp only [usherref3_Pairs.l0, hxe]
    rw [wr (x := i + 1) (by omega) (by omega)]
    refine Ev.pos hlt (Ev.pos h0 (Ev.bind (piece_is x hx) ?_))
    simp only [allQ]
    cases oneB x with
    | none => exact Ev.neg (by decide) (Ev.pure _)
    | some p =>
      simp only [pieceR]
      refine Ev.pos trivial (Ev.pos (by omega) ?_)
      rw [rResB_map]
      exact ih (acc ++ [p]) (i + 1) (by omega) (by omega) (by rw [List.length_append, List.length_singleton]; omega)
theorem take_mem_ne {l : List Int} {a n : Nat} (h : ∀ j : Nat, a ≤ j → j < a + n → l[j]? ≠ some 38) : ∀ x ∈ (l.drop a).take n, x ≠ 38 := by
  intro x hx e
  obtain ⟨j, hj⟩ := List.getElem?_of_mem hx
  have hlt := (List.getElem?_eq_some_iff.1 hj).1
  rw [List.length_take] at hlt
  rw [List.getElem?_take, if_pos (by omega), List.getElem?_drop] at hj
  exact h (a + j) (by omega) (by omega) (by rw [hj, e])
theorem pieces_loop (s : ByteArray) (hs : s.size ≤ 1099511627776) (d : Nat) : ∀ (acc : List ByteArray) (a i : Nat), a ≤ i → s.size - i = d → i ≤ s.size → acc.length ≤ i → (∀ j : Nat, a ≤ j → j < i → (bytesOf s)[j]? ≠ some 38) →
    Ev (fun k => usherref3_pieces.l0 k s acc (a : Int) (i : Int)) (acc ++ nb ((sp 38 ((bytesOf s).drop a)).map strOfNums)) := by
  induction d with
  | zero =>
    intro acc a i hai hd hi ha hno
    have hi' : i = s.size := by omega
    have hsp : sp 38 ((bytesOf s).drop a) = [(bytesOf s).drop a] := by
      refine sp_only _ _ fun x hx => ?_
      have := take_mem_ne (l := bytesOf s) (a := a) (n := i - a) (fun j h1 h2 => hno j h1 (by omega))
      rw [List.take_of_length_le (by rw [List.length_drop, bytesOf_length]; omega)] at this
      exact this x hx
    have hseg : strOfNums ((bytesOf s).drop a) = s.extract a i := by
      apply bytesOf_inj
      rw [bytesOf_strOfNums (fun c hc => bytesOf_range s c (List.mem_of_mem_drop hc)), bytesOf_extract, List.take_of_length_le (by rw [List.length_drop, bytesOf_length]; omega)]
    have hend : ∀ acc' : List ByteArray, Ev (fun k => usherref3_pieces.l0 k s acc' (wrap64 ((i : Int) + 1)) (wrap64 ((i : Int) + 1))) acc' := fun acc' => by
      refine Ev.succ ?_
      simp only [usherref3_pieces.l0]
      rw [wr (x := (i : Int) + 1) (by omega) (by omega)]
      exact Ev.neg (by omega) (Ev.pure _)
    rw [hsp, List.map_cons, List.map_nil, hseg]
    refine Ev.succ ?_
    simp only [usherref3_pieces.l0]
    refine Ev.pos (by omega) (Ev.pos (by omega) (Ev.succ ?_))
    simp only [usherref3_pieces.j1]
    refine Ev.pos trivial (Ev.ite (fun e => ?_) (fun e => ?_))
    · refine Ev.pos (by omega) (Ev.pos (by omega) (Ev.pos (by omega) (Ev.pos (by omega) ?_)))
      rw [Int.toNat_natCast, Int.toNat_natCast, nb_cons_n (by rw [ne_eq, empty_iff, ByteArray.size_extract]; omega)]
      exact hend _
    · rw [nb_cons_e (by rw [empty_iff, ByteArray.size_extract]; omega)]
      rw [show nb [] = [] from rfl, List.append_nil]
      exact hend acc
  | succ d ih =>
    intro acc a i hai hd hi ha hno
    have hlt : i < s.size := by omega
    have hget := bt_get s (i := (i : Int)) (by omega) (by omega)
    rw [Int.toNat_natCast] at hget
    refine Ev.succ ?_
    simp only [usherref3_pieces.l0]
    refine Ev.pos (by omega) (Ev.neg (by omega) (Ev.pos (by omega) (Ev.pos (by omega) (Ev.succ ?_))))
    simp only [usherref3_pieces.j1]
    rw [wr (x := (i : Int) + 1) (by omega) (by omega)]
    have ec : ((i : Int) + 1) = ((i + 1 : Nat) : Int) := by omega
    rw [ec]
    by_cases e38 : bt s (i : Int) = 38
    · rw [e38] at hget
      have hdrop : (bytesOf s).drop a = ((bytesOf s).drop a).take (i - a) ++ 38 :: (bytesOf s).drop (i + 1) := by
        have h1 : (bytesOf s).drop i = 38 :: (bytesOf s).drop (i + 1) := by
          rw [List.drop_eq_getElem_cons (by rw [bytesOf_length]; exact hlt)]
          congr 1
          rw [List.getElem?_eq_getElem (by rw [bytesOf_length]; exact hlt)] at hget
          exact Option.some.inj hget
        conv => lhs; rw [← List.take_append_drop (i - a) ((bytesOf s).drop a)]
        rw [List.drop_drop, show a + (i - a) = i by omega, h1]
      have hsp : sp 38 ((bytesOf s).drop a) = ((bytesOf s).drop a).take (i - a) :: sp 38 ((bytesOf s).drop (i + 1)) := by
        conv => lhs; rw [hdrop]
        exact sp_first 38 _ _ (take_mem_ne (fun j h1 h2 => hno j h1 (by omega)))
      have hseg : strOfNums (((bytesOf s).drop a).take (i - a)) = s.extract a i := by
        apply bytesOf_inj
        rw [bytesOf_strOfNums (fun c hc => bytesOf_range s c (List.mem_of_mem_drop (List.mem_of_mem_take hc))), bytesOf_extract]
      rw [hsp, List.map_cons, hseg]
      have hz : (s.extract a i).size = i - a := by rw [ByteArray.size_extract]; omega
      refine Ev.pos (by rw [e38]; rfl) (Ev.ite (fun e => ?_) (fun e => ?_))
      · refine Ev.pos (by omega) (Ev.pos (by omega) (Ev.pos (by omega) (Ev.pos (by omega) ?_)))
        rw [Int.toNat_natCast, Int.toNat_natCast, nb_cons_n (by rw [ne_eq, empty_iff, hz]; omega)]
        have := ih (acc ++ [s.extract a i]) (i + 1) (i + 1) (Nat.le_refl _) (by omega) (by omega) (by rw [List.length_append, List.length_singleton]; omega) (fun j h1 h2 => by omega)
        rw [List.append_assoc, List.singleton_append] at this
        exact this
      · rw [nb_cons_e (by rw [empty_iff, hz]; omega)]
        exact ih acc (i + 1) (i + 1) (Nat.le_refl _) (by omega) (by omega) (by omega) (fun j h1 h2 => by omega)
    · refine Ev.neg (by simp [e38]) ?_
      refine ih acc a (i + 1) (by omega) (by omega) (by omega) (by omega) (fun j h1 h2 => ?_)
      by_cases hj : j = i
      · rw [hj, hget]
        exact fun h => e38 (Option.some.inj h)
      · exact hno j h1 (by omega)
def rprs (P : List ByteArray) : List S52 × Int := if 32 < cntB P then ([], 3) else rResB [] (allB P)
theorem nb_sub (P : List ByteArray) {x : ByteArray} (h : x ∈ nb P) : x ∈ P := (List.mem_filter.1 h).1
theorem refPairs_is (s : ByteArray) (hs : s.size ≤ 1099511627776) : Ev (fun k => usherref3_Pairs.f k s) (rprs (pcs s)) := by
  simp only [usherref3_Pairs.f, usherref3_pieces.f]
  have hp := pieces_loop s hs s.size [] 0 0 (Nat.le_refl _) (by omega) (by omega) (by simp) (fun j h1 h2 => by omega)
  rw [List.drop_zero, List.nil_append] at hp
  refine Ev.bind (r := nb (pcs s)) hp ?_
  unfold rprs
  rw [cntB_nb, allB_nb]
  have hP : ∀ x ∈ nb (pcs s), x.size ≤ 1099511627776 := fun x hx => by
    obtain ⟨q, hq, rfl⟩ := List.mem_map.1 (nb_sub _ hx)
    have := sp_sub 38 (bytesOf s) q hq
    rw [bytesOf_length] at this
    rw [strOfNums_size]
    omega
  by_cases h : 32 < (nb (pcs s)).length
  · rw [if_pos h]
    exact Ev.pos (by omega) (Ev.pure _)
  · rw [if_neg h]
    exact Ev.neg (by omega) (refPairs_loop (nb (pcs s)) hP (by omega) (nb (pcs s)).length [] 0 (Int.le_refl _) (by omega) (by simp))
end Go.Proofs.YtlnjomhmffdfnaaDoor.Y
