/- Split in plain words. Condition: a text of at most 2^40 bytes. -/
import Derived.Test.YtopfmcgmfnmikaaDoorYFind
-- IMPORTS
import Derived.Test.YtopfmcgmfnmikaaDoorXx3
namespace Go.Proofs.YtopfmcgmfnmikaaDoor.Y
open Go.RowKit Go.Proofs.YtopfmcgmfnmikaaDoorW.PrintWords Go.Proofs.YtopfmcgmfnmikaaDoorW.PrintLast Go.Proofs.YtopfmcgmfnmikaaDoor.X
/-- the pieces between the bytes c -/
def sp (c : Int) : List Int → List (List Int)
  | [] => [[]]
  | x :: r => if x = c then [] :: sp c r else match sp c r with
    | [] => [[x]]
    | h :: t => (x :: h) :: t
theorem sp_ne (c : Int) : ∀ l, sp c l ≠ []
  | [] => by simp [sp]
  | x :: r => by
    simp only [sp]
    split
    · simp
    · split <;> simp
theorem sp_cons_ne {c x : Int} {r h : List Int} {t : List (List Int)} (hx : x ≠ c) (hr : sp c r = h :: t) : sp c (x :: r) = (x :: h) :: t := by
  simp only [sp, if_neg hx, hr]
/-- a first piece without the byte -/
theorem sp_first (c : Int) : ∀ (a r : List Int), (∀ x ∈ a, x ≠ c) → sp c (a ++ c :: r) = a :: sp c r
  | [], r, _ => by simp [sp]
  | x :: a, r, h => by
    have ih := sp_first c a r (fun y hy => h y (List.mem_cons_of_mem _ hy))
    exact sp_cons_ne (h x (List.mem_cons_self ..)) ih
theorem sp_only (c : Int) : ∀ (a : List Int), (∀ x ∈ a, x ≠ c) → sp c a = [a]
  | [], _ => rfl
  | x :: a, h => sp_cons_ne (h x (List.mem_cons_self ..)) (sp_only c a (fun y hy => h y (List.mem_cons_of_mem _ hy)))
theorem sp_append (c : Int) : ∀ (a b : List Int), sp c (a ++ c :: b) = sp c a ++ sp c b
  | [], b => by simp [sp]
  | x :: a, b => by
    have ih := sp_append c a b
    by_cases e : x = c
    · simp only [List.cons_append, sp, if_pos e, ih]
    · obtain ⟨h, t, ht⟩ : ∃ h t, sp c a = h :: t := List.exists_cons_of_ne_nil (sp_ne c a)
      rw [List.cons_append, sp_cons_ne (h := h) (t := t ++ sp c b) e (by rw [ih, ht]; rfl), sp_cons_ne e ht]
      rfl
theorem sp_length (c : Int) : ∀ l, (sp c l).length = l.count c + 1
  | [] => rfl
  | x :: r => by
    have ih := sp_length c r
    by_cases e : x = c
    · subst e
      simp only [sp, if_true, List.length_cons, ih, List.count_cons_self]
    · obtain ⟨h, t, ht⟩ : ∃ h t, sp c r = h :: t := List.exists_cons_of_ne_nil (sp_ne c r)
      rw [sp_cons_ne e ht, List.length_cons, List.count_cons_of_ne e, ← ih, ht]
      rfl
theorem sp_mem (c : Int) {p : Int → Prop} : ∀ l, (∀ x ∈ l, p x) → ∀ q ∈ sp c l, ∀ x ∈ q, p x
  | [], _ => by simp [sp]
  | x :: r, h => by
    have ih := sp_mem c (p := p) r (fun y hy => h y (List.mem_cons_of_mem _ hy))
    intro q hq y hy
    by_cases e : x = c
    · simp only [sp, if_pos e] at hq
      rcases List.mem_cons.1 hq with rfl | hq
      · cases hy
      · exact ih q hq y hy
    · obtain ⟨g, t, ht⟩ : ∃ h t, sp c r = h :: t := List.exists_cons_of_ne_nil (sp_ne c r)
      rw [sp_cons_ne e ht] at hq
      rw [ht] at ih
      rcases List.mem_cons.1 hq with rfl | hq
      · rcases List.mem_cons.1 hy with rfl | hy
        · exact h _ (List.mem_cons_self ..)
        · exact ih g (List.mem_cons_self ..) y hy
      · exact ih q (List.mem_cons_of_mem _ hq) y hy
theorem count_bytes (s : ByteArray) (c : UInt8) : s.data.toList.count c = (bytesOf s).count (c.toNat : Int) := by
  unfold bytesOf
  generalize s.data.toList = l
  induction l with
  | nil => rfl
  | cons x r ih =>
    simp only [List.map_cons, List.count_cons, ih]
    congr 1
    have : (x == c) = ((x.toNat : Int) == (c.toNat : Int)) := by
      by_cases e : x = c
      · rw [e]; simp
      · have e2 : ¬ ((x.toNat : Int) = (c.toNat : Int)) := fun h => e (UInt8.toNat_inj.1 (by omega))
        rw [beq_eq_false_iff_ne.2 e, beq_eq_false_iff_ne.2 e2]
    rw [this]
/-- the bytes of a text ahead of the first c -/
theorem sp_bytes (s : ByteArray) (c : UInt8) : (Lib.indexByte s.data.toList c = -1 ∧ sp (c.toNat : Int) (bytesOf s) = [bytesOf s]) ∨
    ∃ t : Nat, Lib.indexByte s.data.toList c = (t : Int) ∧ t < s.size ∧ sp (c.toNat : Int) (bytesOf s) = bytesOf (s.extract 0 t) :: sp (c.toNat : Int) (bytesOf (s.extract (t + 1) s.size)) := by
  rcases index_cases s c with ⟨h1, h2⟩ | ⟨t, h1, h2, h3, h4⟩
  · refine .inl ⟨h1, sp_only _ _ fun x hx => ?_⟩
    obtain ⟨j, hj⟩ := List.getElem?_of_mem hx
    have hlt := (List.getElem?_eq_some_iff.1 hj).1
    rw [bytesOf_length] at hlt
    have := bt_get s (i := (j : Int)) (by omega) (by omega)
    rw [Int.toNat_natCast, hj] at this
    rw [Option.some.inj this]
    exact h2 _ (by omega) (by omega)
  · refine .inr ⟨t, h1, h2, ?_⟩
    rw [join_at s t h2 h3]
    refine sp_first _ _ _ fun x hx => ?_
    rw [bytesOf_extract, List.drop_zero, Nat.sub_zero] at hx
    obtain ⟨j, hj⟩ := List.getElem?_of_mem hx
    have hlt := (List.getElem?_eq_some_iff.1 hj).1
    rw [List.length_take, bytesOf_length] at hlt
    rw [List.getElem?_take, if_pos (by omega)] at hj
    have := bt_get s (i := (j : Int)) (by omega) (by omega)
    rw [Int.toNat_natCast, hj] at this
    rw [Option.some.inj this]
    exact h4 _ (by omega) (by omega)
theorem ixI (s : ByteArray) (c : UInt8) : strings_Index.f s ⟨#[c]⟩ = some (Lib.indexByte s.data.toList c) := rfl
theorem sp_cons (c : Int) (l : List Int) : ∃ h t, sp c l = h :: t := List.exists_cons_of_ne_nil (sp_ne c l)
theorem set_take (x9 : List ByteArray) (x : ByteArray) (i : Int) (h0 : 0 ≤ i) (h1 : i < x9.length) : (x9.set i.toNat x).take (i + 1).toNat = x9.take i.toNat ++ [x] := by
  have h : i.toNat < x9.length := by omega
  have e1 : (i + 1).toNat = (x9.take i.toNat).length + 1 := by rw [List.length_take]; omega
  rw [List.set_eq_take_append_cons_drop, if_pos h, e1, List.take_length_add_append]
  simp
theorem split_loop (c : UInt8) (d : Nat) : ∀ (x0 : ByteArray) (x9 : List ByteArray) (i : Int) (x3 : Int), x0.size ≤ 140737488351232 → x9.length ≤ 4398046511104 → 0 ≤ i → (sp (c.toNat : Int) (bytesOf x0)).length = d + 1 → i + d < x9.length → x3 = i + d →
    Ev (fun k => strings_genSplit.l0 k x0 ⟨#[c]⟩ 0 x3 x9 i) (x9.take i.toNat ++ (sp (c.toNat : Int) (bytesOf x0)).map strOfNums) := by
  induction d with
  | zero =>
    intro x0 x9 i x3 hs h9 h0 hd hi h3
    have hp : sp (c.toNat : Int) (bytesOf x0) = [bytesOf x0] := by
      rcases sp_bytes x0 c with ⟨_, h⟩ | ⟨t, _, _, h⟩
      · exact h
      · rw [h, List.length_cons] at hd
        have hz : (sp (c.toNat : Int) (bytesOf (x0.extract (t + 1) x0.size))).length = 0 := by omega
        exact absurd (List.length_eq_zero_iff.1 hz) (sp_ne _ _)
    rw [hp]
    refine Ev.succ ?_
    simp only [strings_genSplit.l0]
    rw [wr (x := i + 1) (by omega) (by omega)]
    refine Ev.neg (by omega) (Ev.pos h0 (Ev.pos (by omega) (Ev.pos (by omega) (Ev.pos (by omega) ?_))))
    have e := set_take x9 x0 i h0 (by omega)
    rw [e]
    simp only [List.map_cons, List.map_nil, strOfNums_bytesOf]
    exact Ev.pure _
  | succ d ih =>
    intro x0 x9 i x3 hs h9 h0 hd hi h3
    rcases sp_bytes x0 c with ⟨_, h⟩ | ⟨t, h1, h2, h⟩
    · rw [h] at hd; simp at hd
    · rw [h, List.length_cons] at hd
      rw [h]
      have hz2 : (x0.extract (t + 1) x0.size).size = x0.size - (t + 1) := by rw [ByteArray.size_extract]; omega
      refine Ev.succ ?_
      simp only [strings_genSplit.l0]
      have hix : strings_Index.f x0 ⟨#[c]⟩ = some (t : Int) := by rw [ixI, h1]
      refine Ev.pos (by omega) (Ev.bind (f := fun _ => strings_Index.f x0 ⟨#[c]⟩) (r := (t : Int)) (Ev.of_eq fun _ => hix) ?_)
      have e1 : ((⟨#[c]⟩ : ByteArray).size : Int) = 1 := rfl
      rw [e1, wr (x := (t : Int) + 0) (by omega) (by omega), wr (x := (t : Int) + 1) (by omega) (by omega), wr (x := i + 1) (by omega) (by omega)]
      refine Ev.neg (by omega) (Ev.pos (by omega) (Ev.pos (by omega) (Ev.pos h0 (Ev.pos (by omega) (Ev.pos (by omega) (Ev.pos (by omega) ?_))))))
      rw [show ((t : Int) + 1).toNat = t + 1 by omega, show ((t : Int) + 0).toNat = t by omega]
      have := ih (x0.extract (t + 1) x0.size) (x9.set i.toNat (x0.extract 0 t)) (i + 1) x3 (by omega) (by rw [List.length_set]; exact h9) (by omega) (by omega) (by rw [List.length_set]; omega) (by omega)
      have e := set_take x9 (x0.extract 0 t) i h0 (by omega)
      rw [e] at this
      simp only [List.map_cons, strOfNums_bytesOf]
      simpa only [List.append_assoc, List.singleton_append] using this
theorem mn_le (a b : Int) (h : a ≤ b) : mn a b = a := by
  unfold mn
  split <;> omega
theorem split_is (s : ByteArray) (c : UInt8) (hs : s.size ≤ 1099511627776) : Ev (fun k => strings_Split.f k s ⟨#[c]⟩) ((sp (c.toNat : Int) (bytesOf s)).map strOfNums) := by
  have hc : Lib.countByte s.data.toList c + 1 = (sp (c.toNat : Int) (bytesOf s)).length := by rw [sp_length, ← count_bytes]; rfl
  have hle : Lib.countByte s.data.toList c ≤ s.size := by
    have : s.data.toList.count c ≤ s.data.toList.length := List.count_le_length
    rw [size_data] at this
    exact this
  simp only [strings_Split.f]
  refine Ev.bind ?_ (Ev.pure _)
  simp only [strings_genSplit.f]
  refine Ev.neg (by decide) (Ev.neg (by simp [toList_data]) (Ev.pos (by decide) ?_))
  have e : strings_Count.f s ⟨#[c]⟩ = some ((Lib.countByte s.data.toList c : Nat) : Int) := rfl
  simp only [e, Option.bind_some]
  refine Ev.succ ?_
  simp only [strings_genSplit.j0]
  rw [wr (x := ((Lib.countByte s.data.toList c : Nat) : Int) + 1) (by omega) (by omega), wr (x := (s.size : Int) + 1) (by omega) (by omega), mn_le _ _ (by omega)]
  rw [wr (by omega) (by omega)]
  refine Ev.pos (by omega) (Ev.pos (by omega) ?_)
  have := split_loop c (Lib.countByte s.data.toList c) s (List.replicate (((Lib.countByte s.data.toList c : Nat) : Int) + 1).toNat ⟨#[]⟩) 0 (((Lib.countByte s.data.toList c : Nat) : Int) + 1 - 1) (by omega) (by simp; omega) (Int.le_refl _) hc.symm (by simp; omega) (by omega)
  simpa using this
end Go.Proofs.YtopfmcgmfnmikaaDoor.Y
