/- What a browser sends, in plain words: page.Sent and the document's Sent answer the same list. Conditions: below 2^42 inputs and pairs. -/
import Derived.Test.YtmaedmmcjhmheaaYEv
-- IMPORTS
import Derived.Test.YtmaedmmcjhmheaaXx0
import Derived.Test.YtmaedmmcjhmheaaXx3
import Derived.Test.YtmaedmmcjhmheaaXx4
import Derived.Test.YtmaedmmcjhmheaaXx5
namespace Go.Proofs.Ytmaedmmcjhmheaa.Y
open Go.RowKit Go.Proofs.YtmaedmmcjhmheaaW.PrintWords Go.Proofs.YtmaedmmcjhmheaaW.PrintLast Go.Proofs.Ytmaedmmcjhmheaa.X
theorem rd30 (l : List S30) (i : Int) : rd_T30 l i = rdOf z30 l i := rfl
theorem rd32 (l : List S32) (i : Int) : rd_T32 l i = rdOf z32 l i := rfl
/-- the value that an input has behind what was typed, and how often its box was clicked -/
def gs (K : Int) (N V : ByteArray) : List S32 → ByteArray → Int → ByteArray × Int
  | [], v, c => (v, c)
  | t :: r, v, c => if t.f0.toList = N.toList then (if K = 2 ∨ K = 3 then gs K N V r t.f1 c else if K = 4 then (if t.f1.toList = V.toList then gs K N V r v (c + 1) else gs K N V r v c) else gs K N V r v c) else gs K N V r v c
def res (K : Int) (N : ByteArray) (p : ByteArray × Int) : ByteArray × Bool := (p.1, if K ≥ 1 then (if K ≤ 4 then (if N.toList = ([] : List UInt8) then false else (Int.tmod p.2 2) == 0) else false) else false)
theorem sent_loop (K : Int) (N V L : ByteArray) (l : List S32) (hl : l.length < 4611686018427387904) (d : Nat) : ∀ (v : ByteArray) (c i : Int), 0 ≤ i → 0 ≤ c → c ≤ i → (l.length : Int) - i = d →
    Ev (fun k => page_sent.l0 k v c l (l.length : Int) i K N V L) (res K N (gs K N V (l.drop i.toNat) v c)) := by
  induction d with
  | zero =>
    intro v c i h0 hc hci hd
    refine Ev.succ ?_
    simp only [page_sent.l0]
    rw [drop_le l (by omega)]
    refine Ev.neg (by omega) ?_
    simp only [gs, res]
    refine Ev.ite (fun h1 => ?_) (fun h1 => ?_)
    · rw [if_pos h1]
      refine Ev.ite (fun h2 => ?_) (fun h2 => ?_)
      · rw [if_pos h2]
        refine Ev.ite (fun h3 => ?_) (fun h3 => ?_)
        · rw [if_pos h3]; exact Ev.pure _
        · rw [if_neg h3]; exact Ev.pure _
      · rw [if_neg h2]; exact Ev.pure _
    · rw [if_neg h1]; exact Ev.pure _
  | succ d ih =>
    intro v c i h0 hc hci hd
    have hlt : i < l.length := by omega
    refine Ev.succ ?_
    simp only [page_sent.l0, rd32]
    rw [drop_rd z32 l h0 hlt]
    refine Ev.pos hlt (Ev.pos h0 (Ev.pos hlt (Ev.ite (fun e => ?_) (fun e => ?_))))
    · have go : ∀ (b : Bool), (b = true ↔ (K = 2 ∨ K = 3)) → Ev (fun k => page_sent.j1 k v c l (l.length : Int) i K b K N V L (rdOf z32 l i).f0 (rdOf z32 l i).f1) (res K N (gs K N V (rdOf z32 l i :: l.drop (i + 1).toNat) v c)) := by
        intro b hb
        refine Ev.succ ?_
        simp only [page_sent.j1]
        rw [wr (x := i + 1) (by omega) (by omega), wr (x := c + 1) (by omega) (by omega)]
        rw [gs, if_pos e]
        refine Ev.ite (fun h => ?_) (fun h => ?_)
        · rw [if_pos (hb.1 h)]
          exact ih _ c (i + 1) (by omega) hc (by omega) (by omega)
        · rw [if_neg (fun z => h (hb.2 z))]
          refine Ev.ite (fun h4 => ?_) (fun h4 => ?_)
          · rw [if_pos h4]
            refine Ev.ite (fun h5 => ?_) (fun h5 => ?_)
            · rw [if_pos h5]
              exact ih v (c + 1) (i + 1) (by omega) (by omega) (by omega) (by omega)
            · rw [if_neg h5]
              exact ih v c (i + 1) (by omega) hc (by omega) (by omega)
          · rw [if_neg h4]
            exact ih v c (i + 1) (by omega) hc (by omega) (by omega)
      refine Ev.ite (fun h2 => ?_) (fun h2 => ?_)
      · exact go (K == 2) (by simp [h2])
      · exact go (K == 3) (by simp [h2])
    · rw [wr (by omega) (by omega), gs, if_neg e]
      exact ih v c (i + 1) (by omega) hc (by omega) (by omega)
def ps (typed : List S32) (x : S30) : ByteArray × Bool := res x.f0 x.f1 (gs x.f0 x.f1 x.f2 typed x.f2 0)
theorem sent_is (typed : List S32) (x : S30) (hl : typed.length < 4611686018427387904) : Ev (fun k => page_sent.f k x.f0 x.f1 x.f2 x.f3 typed) (ps typed x) :=
  sent_loop x.f0 x.f1 x.f2 x.f3 typed hl typed.length x.f2 0 0 (Int.le_refl _) (Int.le_refl _) (Int.le_refl _) (by omega)
def sn (typed : List S32) : List S30 → List S32
  | [] => []
  | x :: r => if (ps typed x).2 = true then ⟨x.f1, (ps typed x).1⟩ :: sn typed r else sn typed r
theorem sn_length (typed : List S32) (l : List S30) : (sn typed l).length ≤ l.length := by
  induction l with
  | nil => simp [sn]
  | cons x r ih => simp only [sn]; split <;> simp only [List.length_cons] <;> omega
theorem Sent_loop (typed : List S32) (ht : typed.length < 4611686018427387904) (l : List S30) (hl : l.length < 4398046511104) (d : Nat) : ∀ (acc : List S32) (i : Int), 0 ≤ i → acc.length ≤ i.toNat → (l.length : Int) - i = d →
    Ev (fun k => page_Sent.l0 k typed acc l (l.length : Int) i) (acc ++ sn typed (l.drop i.toNat)) := by
  induction d with
  | zero =>
    intro acc i h0 ha hd
    refine Ev.succ ?_
    simp only [page_Sent.l0]
    rw [drop_le l (by omega)]
    simp only [sn, List.append_nil]
    exact Ev.neg (by omega) (Ev.pure _)
  | succ d ih =>
    intro acc i h0 ha hd
    have hlt : i < l.length := by omega
    refine Ev.succ ?_
    simp only [page_Sent.l0, rd30]
    rw [drop_rd z30 l h0 hlt, wr (x := i + 1) (by omega) (by omega)]
    refine Ev.pos hlt (Ev.pos h0 (Ev.pos hlt (Ev.bind (sent_is typed (rdOf z30 l i) ht) ?_)))
    rw [sn]
    refine Ev.ite (fun h => ?_) (fun h => ?_)
    · rw [if_pos h]
      refine Ev.pos (by omega) ?_
      have := ih (acc ++ [⟨(rdOf z30 l i).f1, (ps typed (rdOf z30 l i)).1⟩]) (i + 1) (by omega) (by simp; omega) (by omega)
      simpa only [List.append_assoc, List.singleton_append] using this
    · rw [if_neg h]
      exact ih acc (i + 1) (by omega) (by omega) (by omega)
theorem Sent_is (a b : ByteArray) (typed : List S32) (l : List S30) (ht : typed.length < 4611686018427387904) (hl : l.length < 4398046511104) : Ev (fun k => page_Sent.f k a l b typed) (sn typed l) :=
  Sent_loop typed ht l hl l.length [] 0 (Int.le_refl _) (Nat.le_refl _) (by omega)
/-! ### the document's -/
/-- what was typed last for a name -/
def tfr (N : ByteArray) : List S32 → Option ByteArray
  | [] => none
  | t :: r => match tfr N r with
    | some v => some v
    | none => if t.f0.toList = N.toList then some t.f1 else none
theorem tfr_snoc (N : ByteArray) (p : List S32) (t : S32) : tfr N (p ++ [t]) = if t.f0.toList = N.toList then some t.f1 else tfr N p := by
  induction p with
  | nil => rfl
  | cons x r ih =>
    rw [List.cons_append, tfr, ih, tfr]
    by_cases e : t.f0.toList = N.toList
    · simp only [e, if_true]
    · simp only [e, if_false]
def outT : Option ByteArray → ByteArray × Bool
  | some v => (v, true)
  | none => (⟨#[]⟩, false)
theorem typedFor_loop (N : ByteArray) (l : List S32) (hl : l.length < 4611686018427387904) (n : Nat) : n ≤ l.length → Ev (fun k => usherref5_typedFor.l0 k l N ((n : Int) - 1)) (outT (tfr N (l.take n))) := by
  induction n with
  | zero =>
    intro _
    refine Ev.succ ?_
    simp only [usherref5_typedFor.l0]
    exact Ev.neg (by omega) (Ev.pure _)
  | succ n ih =>
    intro hn
    have h0 : (0 : Int) ≤ n := by omega
    have hlt : (n : Int) < l.length := by omega
    refine Ev.succ ?_
    simp only [usherref5_typedFor.l0, rd32]
    rw [show ((n + 1 : Nat) : Int) - 1 = (n : Int) by omega, wr (x := (n : Int) - 1) (by omega) (by omega)]
    have e1 : l.take (n + 1) = l.take n ++ [rdOf z32 l (n : Int)] := by
      rw [List.take_add_one, show l[n]? = some (rdOf z32 l (n : Int)) from rd_at z32 l h0 hlt]
      rfl
    rw [e1, tfr_snoc]
    refine Ev.pos (by omega) (Ev.pos h0 (Ev.pos hlt (Ev.ite (fun e => ?_) (fun e => ?_))))
    · rw [if_pos e]; exact Ev.pure _
    · rw [if_neg e]; exact ih (by omega)
theorem typedFor_is (N : ByteArray) (l : List S32) (hl : l.length < 4611686018427387904) : Ev (fun k => usherref5_typedFor.f k l N) (outT (tfr N l)) := by
  have := typedFor_loop N l hl l.length (Nat.le_refl _)
  rw [List.take_length] at this
  simp only [usherref5_typedFor.f]
  rw [wr (by omega) (by omega)]
  exact this
theorem gs_typed {K : Int} (hK : K = 2 ∨ K = 3) (N V : ByteArray) (l : List S32) : ∀ v c, gs K N V l v c = ((tfr N l).getD v, c) := by
  induction l with
  | nil => intro v c; rfl
  | cons t r ih =>
    intro v c
    rw [gs, tfr]
    by_cases e : t.f0.toList = N.toList
    · rw [if_pos e, if_pos hK, ih]
      cases tfr N r <;> simp [e]
    · rw [if_neg e, ih]
      cases tfr N r <;> simp [e]
theorem gs_else {K : Int} (h2 : K ≠ 2) (h3 : K ≠ 3) (N V : ByteArray) (l : List S32) : ∀ v c, (gs K N V l v c).1 = v := by
  induction l with
  | nil => intro v c; rfl
  | cons t r ih =>
    intro v c
    rw [gs]
    split
    · rw [if_neg (by omega)]
      split
      · split <;> exact ih _ _
      · exact ih _ _
    · exact ih _ _
theorem gs_hidden {K : Int} (h2 : K ≠ 2) (h3 : K ≠ 3) (h4 : K ≠ 4) (N V : ByteArray) (l : List S32) : ∀ v c, gs K N V l v c = (v, c) := by
  induction l with
  | nil => intro v c; rfl
  | cons t r ih =>
    intro v c
    rw [gs]
    by_cases e : t.f0.toList = N.toList
    · rw [if_pos e, if_neg (by omega : ¬ (K = 2 ∨ K = 3)), if_neg h4, ih]
    · rw [if_neg e, ih]
theorem clicks_loop (K : Int) (N V L : ByteArray) (l : List S32) (hl : l.length < 4611686018427387904) (d : Nat) : ∀ (v : ByteArray) (n i : Int), 0 ≤ i → 0 ≤ n → n ≤ i → (l.length : Int) - i = d →
    Ev (fun k => usherref5_clicks.l0 k l n i K N V L) (gs 4 N V (l.drop i.toNat) v n).2 := by
  induction d with
  | zero =>
    intro v n i h0 hn hni hd
    refine Ev.succ ?_
    simp only [usherref5_clicks.l0]
    rw [drop_le l (by omega)]
    exact Ev.neg (by omega) (Ev.pure _)
  | succ d ih =>
    intro v n i h0 hn hni hd
    have hlt : i < l.length := by omega
    refine Ev.succ ?_
    simp only [usherref5_clicks.l0, rd32]
    rw [drop_rd z32 l h0 hlt, wr (x := i + 1) (by omega) (by omega), wr (x := n + 1) (by omega) (by omega), gs]
    refine Ev.pos hlt (Ev.pos h0 (Ev.ite (fun e => ?_) (fun e => ?_)))
    · rw [if_pos e, if_neg (by decide), if_pos rfl]
      refine Ev.ite (fun e2 => ?_) (fun e2 => ?_)
      · rw [if_pos e2]
        exact ih v (n + 1) (i + 1) (by omega) (by omega) (by omega) (by omega)
      · rw [if_neg e2]
        exact ih v n (i + 1) (by omega) hn (by omega) (by omega)
    · rw [if_neg e]
      exact ih v n (i + 1) (by omega) hn (by omega) (by omega)
theorem clicks_is (l : List S32) (x : S30) (hl : l.length < 4611686018427387904) : Ev (fun k => usherref5_clicks.f k l x.f0 x.f1 x.f2 x.f3) (gs 4 x.f1 x.f2 l x.f2 0).2 :=
  clicks_loop x.f0 x.f1 x.f2 x.f3 l hl l.length x.f2 0 0 (Int.le_refl _) (Int.le_refl _) (Int.le_refl _) (by omega)
theorem ps_known {typed : List S32} {x : S30} (h1 : x.f0 ≥ 1) (h4 : x.f0 ≤ 4) (hn : x.f1.toList ≠ ([] : List UInt8)) : ps typed x = ((gs x.f0 x.f1 x.f2 typed x.f2 0).1, (Int.tmod (gs x.f0 x.f1 x.f2 typed x.f2 0).2 2) == 0) := by
  simp only [ps, res]
  rw [if_pos h1, if_pos h4, if_neg hn]
theorem ps_not {typed : List S32} {x : S30} (h : x.f0 < 1 ∨ x.f0 > 4 ∨ x.f1.toList = ([] : List UInt8)) : (ps typed x).2 = false := by
  simp only [ps, res]
  split
  · split
    · split
      · rfl
      · rename_i a b c; rcases h with h | h | h
        · omega
        · omega
        · exact absurd h c
    · rfl
  · rfl
theorem refSent_loop (a b : ByteArray) (typed : List S32) (ht : typed.length < 4611686018427387904) (l : List S30) (hl : l.length < 4398046511104) (d : Nat) : ∀ (acc : List S32) (i : Int), 0 ≤ i → acc.length ≤ i.toNat → (l.length : Int) - i = d →
    Ev (fun k => usherref5_Sent.l0 k typed acc i a l b) (acc ++ sn typed (l.drop i.toNat)) := by
  induction d with
  | zero =>
    intro acc i h0 ha hd
    refine Ev.succ ?_
    simp only [usherref5_Sent.l0]
    rw [drop_le l (by omega)]
    simp only [sn, List.append_nil]
    exact Ev.neg (by omega) (Ev.pure _)
  | succ d ih =>
    intro acc i h0 ha hd
    have hlt : i < l.length := by omega
    have skip : (ps typed (rdOf z30 l i)).2 = false → Ev (fun k => usherref5_Sent.l0 k typed acc (i + 1) a l b) (acc ++ sn typed (rdOf z30 l i :: l.drop (i + 1).toNat)) := fun h => by
      rw [sn, if_neg (by rw [h]; decide)]
      exact ih acc (i + 1) (by omega) (by omega) (by omega)
    have push : ∀ v, ps typed (rdOf z30 l i) = (v, true) → Ev (fun k => usherref5_Sent.l0 k typed (acc ++ [⟨(rdOf z30 l i).f1, v⟩]) (i + 1) a l b) (acc ++ sn typed (rdOf z30 l i :: l.drop (i + 1).toNat)) := fun v h => by
      rw [sn, h, if_pos rfl]
      have := ih (acc ++ [⟨(rdOf z30 l i).f1, v⟩]) (i + 1) (by omega) (by simp; omega) (by omega)
      simpa only [List.append_assoc, List.singleton_append] using this
    refine Ev.succ ?_
    simp only [usherref5_Sent.l0, rd30]
    rw [drop_rd z30 l h0 hlt, wr (x := i + 1) (by omega) (by omega)]
    refine Ev.pos hlt (Ev.pos h0 (Ev.ite (fun e => ?_) (fun e => ?_)))
    · exact skip (ps_not (.inr (.inr e)))
    · have go : ∀ (bb : Bool), (bb = true ↔ ((rdOf z30 l i).f0 = 2 ∨ (rdOf z30 l i).f0 = 3)) → (rdOf z30 l i).f0 ≠ 1 → Ev (fun k => usherref5_Sent.j1 k typed acc i (rdOf z30 l i).f0 bb a l b (rdOf z30 l i).f0 (rdOf z30 l i).f1 (rdOf z30 l i).f2 (rdOf z30 l i).f3) (acc ++ sn typed (rdOf z30 l i :: l.drop (i + 1).toNat)) := by
        intro bb hb hne
        refine Ev.succ ?_
        simp only [usherref5_Sent.j1]
        rw [wr (x := i + 1) (by omega) (by omega)]
        refine Ev.ite (fun h => ?_) (fun h => ?_)
        · have hK := hb.1 h
          refine Ev.bind (typedFor_is (rdOf z30 l i).f1 typed ht) ?_
          have hp : ps typed (rdOf z30 l i) = ((tfr (rdOf z30 l i).f1 typed).getD (rdOf z30 l i).f2, true) := by
            rw [ps_known (by omega) (by omega) e, gs_typed hK]
            rfl
          cases hT : tfr (rdOf z30 l i).f1 typed with
          | some v =>
            simp only [outT]
            rw [hT] at hp
            exact Ev.pos trivial (Ev.pos (by omega) (push v hp))
          | none =>
            simp only [outT]
            rw [hT] at hp
            exact Ev.neg (by simp) (Ev.pos (by omega) (push _ hp))
        · have hK : ¬ ((rdOf z30 l i).f0 = 2 ∨ (rdOf z30 l i).f0 = 3) := fun z => h (hb.2 z)
          refine Ev.ite (fun h4 => ?_) (fun h4 => ?_)
          · refine Ev.bind (clicks_is typed (rdOf z30 l i) ht) ?_
            have hp : ps typed (rdOf z30 l i) = ((rdOf z30 l i).f2, (Int.tmod (gs 4 (rdOf z30 l i).f1 (rdOf z30 l i).f2 typed (rdOf z30 l i).f2 0).2 2) == 0) := by
              rw [ps_known (by omega) (by omega) e, gs_else (by omega) (by omega), h4]
            refine Ev.ite (fun h5 => ?_) (fun h5 => ?_)
            · exact Ev.pos (by omega) (push _ (by rw [hp, h5]; rfl))
            · exact skip (by rw [hp]; simpa using h5)
          · exact skip (ps_not (by omega))
      refine Ev.ite (fun h1 => ?_) (fun h1 => ?_)
      · refine Ev.pos (by omega) (push _ ?_)
        rw [ps_known (by omega) (by omega) e, gs_hidden (by omega) (by omega) (by omega)]
        rfl
      · refine Ev.ite (fun h2 => ?_) (fun h2 => ?_)
        · exact go ((rdOf z30 l i).f0 == 2) (by simp [h2]) h1
        · exact go ((rdOf z30 l i).f0 == 3) (by simp [h2]) h1
theorem refSent_is (a b : ByteArray) (typed : List S32) (l : List S30) (ht : typed.length < 4611686018427387904) (hl : l.length < 4398046511104) : Ev (fun k => usherref5_Sent.f k a l b typed) (sn typed l) :=
  refSent_loop a b typed ht l hl l.length [] 0 (Int.le_refl _) (Nat.le_refl _) (by omega)
/-! ### lists that are the same -/
theorem samePairs_loop (l : List S32) (hl : l.length < 4611686018427387904) (d : Nat) : ∀ (i : Int), 0 ≤ i → (l.length : Int) - i = d → Ev (fun k => usherref0_SamePairs.l0 k l l i) true := by
  induction d with
  | zero =>
    intro i h0 hd
    refine Ev.succ ?_
    simp only [usherref0_SamePairs.l0]
    exact Ev.neg (by omega) (Ev.pure _)
  | succ d ih =>
    intro i h0 hd
    have hlt : i < l.length := by omega
    refine Ev.succ ?_
    simp only [usherref0_SamePairs.l0]
    refine Ev.pos hlt (Ev.pos h0 (Ev.pos hlt (Ev.neg (by simp) ?_)))
    rw [wr (by omega) (by omega)]
    exact ih (i + 1) (by omega) (by omega)
theorem samePairs_self (l : List S32) (hl : l.length < 4611686018427387904) : Ev (fun k => usherref0_SamePairs.f k l l) true := by
  simp only [usherref0_SamePairs.f]
  exact Ev.pos trivial (samePairs_loop l hl l.length 0 (Int.le_refl _) (by omega))
theorem sameInputs_loop (l : List S30) (hl : l.length < 4611686018427387904) (d : Nat) : ∀ (i : Int), 0 ≤ i → (l.length : Int) - i = d → Ev (fun k => usherref0_SameInputs.l0 k l l i) true := by
  induction d with
  | zero =>
    intro i h0 hd
    refine Ev.succ ?_
    simp only [usherref0_SameInputs.l0]
    exact Ev.neg (by omega) (Ev.pure _)
  | succ d ih =>
    intro i h0 hd
    have hlt : i < l.length := by omega
    refine Ev.succ ?_
    simp only [usherref0_SameInputs.l0]
    refine Ev.pos hlt (Ev.pos h0 (Ev.pos hlt (Ev.neg (by simp) ?_)))
    rw [wr (by omega) (by omega)]
    exact ih (i + 1) (by omega) (by omega)
theorem sameInputs_self (l : List S30) (hl : l.length < 4611686018427387904) : Ev (fun k => usherref0_SameInputs.f k l l) true := by
  simp only [usherref0_SameInputs.f]
  exact Ev.pos trivial (sameInputs_loop l hl l.length 0 (Int.le_refl _) (by omega))
end Go.Proofs.Ytmaedmmcjhmheaa.Y
