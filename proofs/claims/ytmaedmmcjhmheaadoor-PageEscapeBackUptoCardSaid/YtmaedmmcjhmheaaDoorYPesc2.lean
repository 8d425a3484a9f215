/- A page's escapes: the document's own answer in plain words. Condition: at most 2^40 bytes. -/
import Derived.Test.YtmaedmmcjhmheaaDoorYPesc
import Derived.Test.YtmaedmmcjhmheaaDoorXUnesc
-- IMPORTS
import Derived.Test.YtmaedmmcjhmheaaDoorXx1
namespace Go.Proofs.YtmaedmmcjhmheaaDoor.Y
open Go.RowKit Go.Proofs.YtmaedmmcjhmheaaDoorW.PrintWords Go.Proofs.YtmaedmmcjhmheaaDoorW.PrintLast Go.Proofs.YtmaedmmcjhmheaaDoor.X
def ints (l : List UInt8) : List Int := l.map (fun b => (b.toNat : Int))
def str (l : List UInt8) : ByteArray := ⟨l.toArray⟩
theorem str_data (l : List UInt8) : (str l).data.toList = l := rfl
theorem str_toList (l : List UInt8) : (str l).toList = l := by rw [toList_data]; rfl
theorem str_size (l : List UInt8) : (str l).size = l.length := by rw [← size_data]; rfl
theorem str_of (s : ByteArray) : str s.data.toList = s := ba_ext rfl
theorem bytesOf_str (l : List UInt8) : bytesOf (str l) = ints l := rfl
theorem ints_append (a b : List UInt8) : ints (a ++ b) = ints a ++ ints b := by simp [ints]
theorem ints_length (a : List UInt8) : (ints a).length = a.length := by simp [ints]
theorem strOfNums_ints (l : List UInt8) : strOfNums (ints l) = str l := by
  rw [← bytesOf_str, strOfNums_bytesOf]
theorem bt_u8 (s : ByteArray) (i : Nat) (h : i < s.size) : ∃ c, s.data.toList.drop i = c :: s.data.toList.drop (i + 1) ∧ bt s (i : Int) = (c.toNat : Int) := by
  have hl : i < s.data.toList.length := by rw [size_data]; exact h
  refine ⟨s.data.toList[i], List.drop_eq_getElem_cons hl, ?_⟩
  have h1 := bt_get s (i := (i : Int)) (by omega) (by omega)
  unfold bytesOf at h1
  rw [Int.toNat_natCast, List.getElem?_map, List.getElem?_eq_getElem hl] at h1
  exact (Option.some.inj h1).symm
theorem written_is (c : UInt8) : usherref5_written.f (c.toNat : Int) = some (str (pe c)) := by
  by_cases h : spec5 c = true
  · rcases spec_cases h with rfl | rfl | rfl | rfl | rfl <;> rfl
  · have h' : spec5 c = false := by simpa using h
    rw [pe_plain h']
    unfold spec5 at h'
    simp only [Bool.or_eq_false_iff, beq_eq_false_iff_ne] at h'
    obtain ⟨⟨⟨⟨e0, e1⟩, e2⟩, e3⟩, e4⟩ := h'
    have ne : ∀ (n : UInt8), c ≠ n → ¬ ((c.toNat : Int) = (n.toNat : Int)) := fun n hn e => hn (UInt8.toNat_inj.1 (by omega))
    have f0 : ¬ ((c.toNat : Int) = 38) := ne 38 e0
    have f1 : ¬ ((c.toNat : Int) = 60) := ne 60 e1
    have f2 : ¬ ((c.toNat : Int) = 62) := ne 62 e2
    have f3 : ¬ ((c.toNat : Int) = 34) := ne 34 e3
    have f4 : ¬ ((c.toNat : Int) = 39) := ne 39 e4
    unfold usherref5_written.f
    rw [if_neg f0, if_neg f1, if_neg f2, if_neg f3, if_neg f4]
    have : ([(c.toNat : Int)] : List Int) = ints [c] := rfl
    rw [this, strOfNums_ints]
theorem refEscape_loop (s : ByteArray) (hs : s.size ≤ 1099511627776) (d : Nat) : ∀ (a : List UInt8) (i : Nat), s.size - i = d → i ≤ s.size → a.length ≤ 6 * i →
    Ev (fun k => usherref5_Escape.l0 k s (ints a) (i : Int)) (str (a ++ peL (s.data.toList.drop i))) := by
  induction d with
  | zero =>
    intro a i hd hi ha
    refine Ev.succ ?_
    simp only [usherref5_Escape.l0]
    refine Ev.neg (by omega) ?_
    rw [List.drop_of_length_le (by rw [size_data]; omega), strOfNums_ints, peL_nil, List.append_nil]
    exact Ev.pure _
  | succ d ih =>
    intro a i hd hi ha
    obtain ⟨c, hc1, hc2⟩ := bt_u8 s i (by omega)
    have h6 := pe_le c
    refine Ev.succ ?_
    simp only [usherref5_Escape.l0, hc2, written_is, Option.bind_some, bytesOf_str, str_size, ints_length]
    rw [wr (by omega) (by omega), ← ints_append, hc1, peL_cons, ← List.append_assoc]
    exact Ev.pos (by omega) (Ev.pos (by omega) (Ev.pos (by omega) (ih (a ++ pe c) (i + 1) (by omega) (by omega) (by rw [List.length_append]; omega))))
theorem refEscape_is (s : ByteArray) (hs : s.size ≤ 1099511627776) : Ev (fun k => usherref5_Escape.f k s) (str (peL s.data.toList)) := by
  have := refEscape_loop s hs s.size [] 0 (by omega) (by omega) (by simp)
  exact this
theorem escape_is (s : ByteArray) (hs : s.size ≤ 1099511627776) : page_Escape.f s = some (str (peL s.data.toList)) := if_pos (by omega)
theorem unescape_is (s : ByteArray) (hs : s.size ≤ 1099511627776) : page_Unescape.f s = some (match unL s.data.toList with | some t => (str t, none) | none => (str [], some 2)) := if_pos (by omega)
/-- the writing that stands at a place -/
theorem at_place (s w : ByteArray) (i : Nat) (hi : i ≤ s.size) : (i + w.size ≤ s.size ∧ (s.extract i (i + w.size)).toList = w.toList) ↔ w.data.toList.isPrefixOf (s.data.toList.drop i) = true := by
  rw [toList_data, toList_data, Lib.extract_data, Nat.add_sub_cancel_left, List.isPrefixOf_iff_prefix, List.prefix_iff_eq_take, size_data]
  constructor
  · rintro ⟨_, h⟩
    exact h.symm
  · intro h
    refine ⟨?_, h.symm⟩
    have := congrArg List.length h
    rw [List.length_take, List.length_drop, size_data, size_data] at this
    omega
def five : ByteArray := ⟨#[38, 60, 62, 34, 39]⟩
theorem meant_step (s : ByteArray) (hs : s.size ≤ 1099511627776) (i j : Nat) (hi : i ≤ s.size) (hj : j < 5) (c : UInt8) (hc : bt five (j : Int) = (c.toNat : Int)) (k : Nat) :
    usherref5_meant.l0 (k + 1) s (i : Int) five (j : Int) = if (pe c).isPrefixOf (s.data.toList.drop i) = true then some ((c.toNat : Int), ((pe c).length : Int)) else usherref5_meant.l0 k s (i : Int) five ((j + 1 : Nat) : Int) := by
  have h6 := pe_le c
  have h5 : (five.size : Int) = 5 := rfl
  have hap := at_place s (str (pe c)) i hi
  rw [str_size, str_data] at hap
  rw [usherref5_meant.l0, hc, written_is, Option.bind_some, str_size]
  rw [wr (x := (i : Int) + ((pe c).length : Int)) (by omega) (by omega), wr (x := (j : Int) + 1) (by omega) (by omega), h5, if_pos (by omega), if_pos (by omega), show ((j : Int) + 1) = ((j + 1 : Nat) : Int) by omega]
  rw [show ((i : Int) + ((pe c).length : Int)).toNat = i + (pe c).length by omega, Int.toNat_natCast]
  by_cases h : (pe c).isPrefixOf (s.data.toList.drop i) = true
  · obtain ⟨h1, h2⟩ := hap.2 h
    rw [if_pos h, if_pos (by omega), if_pos (by omega), if_pos (by omega), if_pos h2]
  · rw [if_neg h]
    by_cases h1 : i + (pe c).length ≤ s.size
    · have h2 : ¬ (s.extract i (i + (pe c).length)).toList = (str (pe c)).toList := fun e => h (hap.1 ⟨h1, e⟩)
      rw [if_pos (by omega), if_pos (by omega), if_pos (by omega), if_neg h2]
    · rw [if_neg (by omega)]
/-- how many bytes the writing at the head takes -/
def pn (l : List UInt8) : Nat :=
  if [38, 97, 109, 112, 59].isPrefixOf l then 5 else if [38, 108, 116, 59].isPrefixOf l then 4 else if [38, 103, 116, 59].isPrefixOf l then 4
  else if [38, 113, 117, 111, 116, 59].isPrefixOf l then 6 else if [38, 35, 51, 57, 59].isPrefixOf l then 5 else 1
theorem pn_pos (l : List UInt8) : 1 ≤ pn l := by
  unfold pn
  (repeat' split) <;> omega
theorem pn_le (l : List UInt8) : pn l ≤ 6 := by
  unfold pn
  (repeat' split) <;> omega
theorem pm_drop (l : List UInt8) : (pm l).2 = l.drop (pn l) := by
  unfold pm pn
  (repeat' split) <;> first | rfl | simp
theorem meant_is (s : ByteArray) (hs : s.size ≤ 1099511627776) (i : Nat) (hi : i < s.size) : Ev (fun k => usherref5_meant.f k s (i : Int)) (((pm (s.data.toList.drop i)).1.toNat : Int), (pn (s.data.toList.drop i) : Int)) := by
  obtain ⟨c, hc1, hc2⟩ := bt_u8 s i hi
  refine ⟨6, fun k hk => ?_⟩
  obtain ⟨k, rfl⟩ : ∃ m, k = m + 6 := ⟨k - 6, by omega⟩
  show usherref5_meant.f (k + 6) s (i : Int) = _
  have e : usherref5_meant.f (k + 6) s (i : Int) = usherref5_meant.l0 (k + 5 + 1) s (i : Int) five ((0 : Nat) : Int) := rfl
  rw [e, meant_step s hs i 0 (by omega) (by omega) 38 rfl, meant_step s hs i 1 (by omega) (by omega) 60 rfl, meant_step s hs i 2 (by omega) (by omega) 62 rfl, meant_step s hs i 3 (by omega) (by omega) 34 rfl, meant_step s hs i 4 (by omega) (by omega) 39 rfl]
  have last : usherref5_meant.l0 (k + 1) s (i : Int) five ((4 + 1 : Nat) : Int) = some ((c.toNat : Int), 1) := by
    simp only [usherref5_meant.l0]
    rw [if_neg (show ¬ (((4 + 1 : Nat) : Int) < (five.size : Int)) from by decide), if_pos (by omega), if_pos (by omega), hc2]
  rw [last]
  have p0 : pe 38 = [38, 97, 109, 112, 59] := rfl
  have p1 : pe 60 = [38, 108, 116, 59] := rfl
  have p2 : pe 62 = [38, 103, 116, 59] := rfl
  have p3 : pe 34 = [38, 113, 117, 111, 116, 59] := rfl
  have p4 : pe 39 = [38, 35, 51, 57, 59] := rfl
  rw [p0, p1, p2, p3, p4]
  unfold pm pn
  have hh : (s.data.toList.drop i).headD 0 = c := by rw [hc1]; rfl
  rw [hh]
  (repeat' split) <;> first | rfl | simp_all
theorem dec_cons (n : Nat) (c : UInt8) (r : List UInt8) : dec (n + 1) (c :: r) = (pm (c :: r)).1 :: dec n (pm (c :: r)).2 := rfl
theorem dec_fuel (n : Nat) : ∀ (l : List UInt8) (m : Nat), l.length ≤ n → l.length ≤ m → dec n l = dec m l := by
  induction n with
  | zero =>
    intro l m h _
    have : l = [] := by simpa using h
    subst this
    cases m <;> rfl
  | succ n ih =>
    intro l m h1 h2
    cases l with
    | nil => cases m <;> rfl
    | cons c r =>
      obtain ⟨m, rfl⟩ : ∃ q, m = q + 1 := ⟨m - 1, by simp at h2; omega⟩
      have hp := pn_pos (c :: r)
      have hl : (pm (c :: r)).2.length ≤ r.length := by rw [pm_drop, List.length_drop, List.length_cons]; omega
      rw [dec_cons, dec_cons, ih _ m (by simp at h1; omega) (by simp at h2; omega)]
def D (l : List UInt8) : List UInt8 := dec l.length l
theorem D_cons (c : UInt8) (r : List UInt8) : D (c :: r) = (pm (c :: r)).1 :: D (pm (c :: r)).2 := by
  have hp := pn_pos (c :: r)
  have hl : (pm (c :: r)).2.length ≤ r.length := by rw [pm_drop, List.length_drop, List.length_cons]; omega
  unfold D
  rw [List.length_cons, dec_cons, dec_fuel _ _ _ hl (Nat.le_refl _)]
theorem refUnescape_loop (s : ByteArray) (hs : s.size ≤ 17179869184) (d : Nat) : ∀ (a : List UInt8) (i : Nat), s.size ≤ i + d → a.length ≤ i → a.length ≤ s.size →
    Ev (fun k => usherref5_Unescape.l0 k s (ints a) (i : Int)) (if peL (a ++ D (s.data.toList.drop i)) = s.data.toList then (str (a ++ D (s.data.toList.drop i)), 0) else (str [], 2)) := by
  have stop : ∀ (a : List UInt8) (i : Nat), s.size ≤ i → a.length ≤ s.size → Ev (fun k => usherref5_Unescape.l0 k s (ints a) (i : Int)) (if peL (a ++ D (s.data.toList.drop i)) = s.data.toList then (str (a ++ D (s.data.toList.drop i)), 0) else (str [], 2)) := by
    intro a i hd ha
    refine Ev.succ ?_
    simp only [usherref5_Unescape.l0]
    refine Ev.neg (by omega) ?_
    rw [List.drop_of_length_le (by rw [size_data]; omega), strOfNums_ints, show D [] = [] from rfl, List.append_nil]
    refine Ev.bind (refEscape_is (str a) (by rw [str_size]; omega)) ?_
    rw [str_data, str_toList, toList_data]
    by_cases h : peL a = s.data.toList
    · simp only [h, if_true]
      exact Ev.pure _
    · simp only [h, if_false]
      exact Ev.pure _
  induction d with
  | zero =>
    intro a i hd _ ha
    exact stop a i (by omega) ha
  | succ d ih =>
    intro a i hd hi ha
    by_cases hlt : i < s.size
    · obtain ⟨c, hc1, hc2⟩ := bt_u8 s i hlt
      have hp := pn_pos (s.data.toList.drop i)
      have hp2 := pn_le (s.data.toList.drop i)
      refine Ev.succ ?_
      simp only [usherref5_Unescape.l0]
      refine Ev.pos (by omega) (Ev.bind (meant_is s (by omega) i hlt) (Ev.pos (by rw [ints_length]; omega) ?_))
      have e1 : ints a ++ [((pm (s.data.toList.drop i)).1.toNat : Int)] = ints (a ++ [(pm (s.data.toList.drop i)).1]) := by rw [ints_append]; rfl
      show Ev (fun k => usherref5_Unescape.l0 k s (ints a ++ [((pm (s.data.toList.drop i)).1.toNat : Int)]) (wrap64 ((i : Int) + (pn (s.data.toList.drop i) : Int)))) _
      rw [e1, wr (by omega) (by omega), show ((i : Int) + (pn (s.data.toList.drop i) : Int)) = ((i + pn (s.data.toList.drop i) : Nat) : Int) by omega]
      have := ih (a ++ [(pm (s.data.toList.drop i)).1]) (i + pn (s.data.toList.drop i)) (by omega) (by simp; omega) (by simp; omega)
      have e2 : D (s.data.toList.drop i) = (pm (s.data.toList.drop i)).1 :: D (s.data.toList.drop (i + pn (s.data.toList.drop i))) := by
        conv => lhs; rw [hc1, D_cons, ← hc1, pm_drop, List.drop_drop]
      rw [e2]
      simpa only [List.append_assoc, List.cons_append, List.nil_append] using this
    · exact stop a i (by omega) ha
theorem refUnescape_is (s : ByteArray) (hs : s.size ≤ 17179869184) : Ev (fun k => usherref5_Unescape.f k s) (match unL s.data.toList with | some t => (str t, 0) | none => (str [], 2)) := by
  have h := refUnescape_loop s hs s.size [] 0 (by omega) (Nat.zero_le _) (by simp)
  rw [List.drop_zero, List.nil_append] at h
  have e : (match unL s.data.toList with | some t => (str t, (0 : Int)) | none => (str [], 2)) = if peL (D s.data.toList) = s.data.toList then (str (D s.data.toList), 0) else (str [], 2) := by
    unfold unL
    show (match (if peL (D s.data.toList) = s.data.toList then some (D s.data.toList) else none) with | some t => (str t, (0 : Int)) | none => (str [], 2)) = _
    by_cases h : peL (D s.data.toList) = s.data.toList
    · rw [if_pos h, if_pos h]
    · rw [if_neg h, if_neg h]
  rw [e]
  exact h
end Go.Proofs.YtmaedmmcjhmheaaDoor.Y
