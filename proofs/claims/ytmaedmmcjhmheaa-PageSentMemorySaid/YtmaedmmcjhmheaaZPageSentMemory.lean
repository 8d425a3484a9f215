/- PageSentMemory in plain words: what Sent answers is new memory, and it changes nothing that it is handed. No condition but the statement's reach. -/
import Derived.Test.YtmaedmmcjhmheaaYSent
-- IMPORTS
import Derived.Test.YtmaedmmcjhmheaaXx0
import Derived.Test.YtmaedmmcjhmheaaXx7
import Derived.Test.YtmaedmmcjhmheaaXx8
namespace Go.Proofs.Ytmaedmmcjhmheaa.Y
open Go.RowKit Go.Proofs.YtmaedmmcjhmheaaW.PrintWords Go.Proofs.YtmaedmmcjhmheaaW.PrintLast Go.Proofs.Ytmaedmmcjhmheaa.X
theorem markAll_loop (c : ByteArray) (d : Nat) : ∀ (l : List S32) (i : Int), l.length < 4611686018427387904 → 0 ≤ i → (l.length : Int) - i = d →
    Ev (fun k => usherlaw5_markAll.l0 k l c i) (l.take i.toNat ++ List.replicate (l.length - i.toNat) ⟨c, c⟩) := by
  induction d with
  | zero =>
    intro l i hl h0 hd
    refine Ev.succ ?_
    simp only [usherlaw5_markAll.l0]
    rw [show l.length - i.toNat = 0 by omega, List.replicate_zero, List.append_nil, List.take_of_length_le (by omega)]
    exact Ev.neg (by omega) (Ev.pure _)
  | succ d ih =>
    intro l i hl h0 hd
    have hlt : i < l.length := by omega
    refine Ev.succ ?_
    simp only [usherlaw5_markAll.l0]
    refine Ev.pos hlt (Ev.pos h0 ?_)
    rw [wr (by omega) (by omega)]
    have := ih (l.set i.toNat ⟨c, c⟩) (i + 1) (by simpa using hl) (by omega) (by simp; omega)
    have hlen : (l.take i.toNat).length = i.toNat := by rw [List.length_take]; omega
    have e1 : (l.set i.toNat ⟨c, c⟩).take (i + 1).toNat = l.take i.toNat ++ [⟨c, c⟩] := by
      rw [List.set_eq_take_append_cons_drop, if_pos (by omega), show (i + 1).toNat = i.toNat + 1 by omega, List.take_append, hlen, List.take_of_length_le (by omega)]
      simp
    rw [e1, List.length_set, List.append_assoc] at this
    rw [show l.length - i.toNat = (l.length - (i + 1).toNat) + 1 by omega, List.replicate_succ]
    exact this
theorem markAll_is (c : ByteArray) (l : List S32) (hl : l.length < 4611686018427387904) : Ev (fun k => usherlaw5_markAll.f k l c) (List.replicate l.length ⟨c, c⟩) := by
  have := markAll_loop c l.length l 0 hl (Int.le_refl _) (by omega)
  simpa only [usherlaw5_markAll.f, Int.toNat_zero, List.take_zero, List.nil_append, Nat.sub_zero] using this
theorem marked_loop (c : ByteArray) (l : List S32) (hl : l.length < 4611686018427387904) (hx : ∀ x ∈ l, x = ⟨c, c⟩) (d : Nat) : ∀ (i : Int), 0 ≤ i → (l.length : Int) - i = d → Ev (fun k => usherlaw5_marked.l0 k l c i) true := by
  induction d with
  | zero =>
    intro i h0 hd
    refine Ev.succ ?_
    simp only [usherlaw5_marked.l0]
    exact Ev.neg (by omega) (Ev.pure _)
  | succ d ih =>
    intro i h0 hd
    have hlt : i < l.length := by omega
    have he : rd_T32 l i = ⟨c, c⟩ := hx _ (rd_mem z32 l h0 hlt)
    refine Ev.succ ?_
    simp only [usherlaw5_marked.l0]
    rw [wr (by omega) (by omega)]
    exact Ev.pos hlt (Ev.pos h0 (Ev.pos (by rw [he]) (Ev.pos (by rw [he]) (ih (i + 1) (by omega) (by omega)))))
theorem marked_is (c : ByteArray) (l : List S32) (hl : l.length < 4611686018427387904) (hx : ∀ x ∈ l, x = ⟨c, c⟩) : Ev (fun k => usherlaw5_marked.f k l c) true :=
  marked_loop c l hl hx l.length 0 (Int.le_refl _) (by omega)
theorem snoc_all {c : ByteArray} {l : List S32} (h : ∀ x ∈ l, x = ⟨c, c⟩) : ∀ x ∈ l ++ [⟨c, c⟩], x = (⟨c, c⟩ : S32) := fun x hx => by
  rcases List.mem_append.1 hx with h1 | h1
  · exact h x h1
  · simpa using h1
theorem mem_l1 (a b : ByteArray) (ins : List S30) (hi : ins.length < 2513169434916) (hp : 0 < ins.length) (d : Nat) : ∀ (l : List S32) (i : Int), l.length < 4398046511104 → 0 ≤ i → (l.length : Int) - i = d →
    Ev (fun k => usherlaw5_PageSentMemory.l1 k l true true true true i a ins b) true := by
  induction d with
  | zero =>
    intro l i hl h0 hd
    refine Ev.succ ?_
    simp only [usherlaw5_PageSentMemory.l1, Option.bind_some, List.nil_append, List.length_nil, Nat.zero_add]
    have hs := sn_length l ins
    refine Ev.neg (by omega) (Ev.pos (by omega) (Ev.bind (Sent_is a b l ins (by omega) (by omega)) (Ev.pos (by omega) (Ev.bind (Sent_is a b l ins (by omega) (by omega)) (Ev.bind (samePairs_self _ (by omega)) ?_)))))
    exact Ev.pos trivial (Ev.pos trivial (Ev.pos trivial (Ev.pos trivial (Ev.pure _))))
  | succ d ih =>
    intro l i hl h0 hd
    refine Ev.succ ?_
    simp only [usherlaw5_PageSentMemory.l1]
    rw [wr (by omega) (by omega)]
    refine Ev.pos (by omega) (Ev.pos (by omega) (Ev.pos h0 ?_))
    exact ih _ (i + 1) (by simpa using hl) (by omega) (by simp; omega)
def al : S30 := ⟨1, ⟨#[97, 108, 119, 97, 121, 115]⟩, ⟨#[118]⟩, ⟨#[]⟩⟩
def ap : S32 := ⟨⟨#[97, 108, 119, 97, 121, 115]⟩, ⟨#[118]⟩⟩
theorem sn_al (typed : List S32) (l : List S30) : sn typed (l ++ [al]) = sn typed l ++ [ap] := by
  have e : al.f1.toList ≠ ([] : List UInt8) := by
    rw [toList_data]
    decide
  have h : ps typed al = (al.f2, true) := by
    rw [ps_known (by decide) (by decide) e, gs_hidden (by decide) (by decide) (by decide)]
    rfl
  induction l with
  | nil => simp only [List.nil_append, sn, h, if_true]; rfl
  | cons x r ih =>
    rw [List.cons_append, sn, sn, ih]
    split <;> rfl
def ma : ByteArray := ⟨#[109, 97, 114, 107, 32, 111, 102, 32, 97]⟩
def mb : ByteArray := ⟨#[109, 97, 114, 107, 32, 111, 102, 32, 98]⟩
theorem mem_l0 (a b : ByteArray) (l0 : List S30) (l1 : List S32) (h0 : l0.length < 2513169434912) (h1 : l1.length < 4398046511100) (d : Nat) : ∀ (x y : List S32) (i : Int), 1 ≤ i → (64 : Int) - i = d → x.length < 4398046511000 → y.length < 4398046511000 →
    (x.length : Int) = (sn l1 (l0 ++ [al])).length + i → x.length = y.length → (∀ z ∈ x, z = ⟨ma, ma⟩) → (∀ z ∈ y, z = ⟨mb, mb⟩) →
    Ev (fun k => usherlaw5_PageSentMemory.l0 k l1 (sn l1 (l0 ++ [al])) x y i a l0 b l1 a (l0 ++ [al]) b) true := by
  have hs := sn_length l1 (l0 ++ [al])
  have hs2 : (l0 ++ [al]).length = l0.length + 1 := by simp
  induction d with
  | zero =>
    intro x y i hi hd hx hy hn hxy ax ay
    obtain rfl : i = 64 := by omega
    refine Ev.succ ?_
    simp only [usherlaw5_PageSentMemory.l0]
    rw [wr (x := ((sn l1 (l0 ++ [al])).length : Int) + 64) (by omega) (by omega), show ((x.length : Int) == ((sn l1 (l0 ++ [al])).length : Int) + 64) = true from by rw [hn]; exact beq_self_eq_true _]
    refine Ev.neg (by omega) (Ev.bind (Sent_is a b l1 (l0 ++ [al]) (by omega) (by omega)) (Ev.bind (marked_is ma x (by omega) ax) (Ev.bind (marked_is mb y (by omega) ay) (Ev.pos rfl (Ev.pos rfl (Ev.succ ?_))))))
    simp only [usherlaw5_PageSentMemory.j2]
    have e3 : (l0 ++ [al]).take ((l0.length : Int)).toNat = l0 := by simp
    rw [e3, wr (x := ((l0 ++ [al]).length : Int) - 1) (by omega) (by omega)]
    refine Ev.bind (samePairs_self l1 (by omega)) (Ev.pos (by omega) (Ev.pos (by omega) (Ev.bind (sameInputs_self l0 (by omega)) (Ev.bind (samePairs_self _ (by omega)) (Ev.pos (by omega) (Ev.pos (by omega) ?_))))))
    exact mem_l1 a b _ (by rw [List.length_set]; omega) (by rw [List.length_set]; omega) l1.length l1 0 (by omega) (Int.le_refl _) (by omega)
  | succ d ih =>
    intro x y i hi hd hx hy hn hxy ax ay
    refine Ev.succ ?_
    simp only [usherlaw5_PageSentMemory.l0]
    rw [wr (x := i + 1) (by omega) (by omega)]
    refine Ev.pos (by omega) (Ev.pos (by omega) (Ev.pos (by omega) ?_))
    have g1 : (x ++ [(⟨ma, ma⟩ : S32)]).length = x.length + 1 := by simp
    have g2 : (y ++ [(⟨mb, mb⟩ : S32)]).length = y.length + 1 := by simp
    exact ih (x ++ [⟨ma, ma⟩]) (y ++ [⟨mb, mb⟩]) (i + 1) (by omega) (by omega) (by omega) (by omega) (by omega) (by omega) (snoc_all ax) (snoc_all ay)
theorem sentMemory (a : ByteArray) (l0 : List S30) (b : ByteArray) (l1 : List S32) {F : Prop} (_ : F) {Q0 Q1 Q2 Q3 : Prop} (hS : (Q0 ∧ ((l0.length * 56 ≤ 140737488351232 ∧ Q1) ∧ Q2)) ∧ (l1.length * 32 ≤ 140737488351232 ∧ Q3)) : ∃ k, usherlaw5_PageSentMemory.f k a l0 b l1 = some true := by
  have h0 : l0.length < 2513169434912 := by have := hS.1.2.1.1; omega
  have h1 : l1.length < 4398046511100 := by have := hS.2.1; omega
  have hs := sn_length l1 (l0 ++ [al])
  have hs2 : (l0 ++ [al]).length = l0.length + 1 := by simp
  have hq := sn_al l1 l0
  have hq2 : (sn l1 (l0 ++ [al])).length = (sn l1 l0).length + 1 := by rw [hq]; simp
  refine Ev.at_ ?_
  simp only [usherlaw5_PageSentMemory.f, List.nil_append, List.length_nil, Nat.zero_add, Option.bind_some]
  refine Ev.pos (by omega) (Ev.pos (by omega) (Ev.pos (by omega) (Ev.bind (Sent_is a b l1 (l0 ++ [al]) (by omega) (by omega)) (Ev.pos (by omega) (Ev.bind (Sent_is a b l1 (l0 ++ [al]) (by omega) (by omega)) (Ev.bind (samePairs_self _ (by omega)) (Ev.pos rfl (Ev.neg (by omega) ?_))))))))
  have hl : rd_T32 (sn l1 (l0 ++ [al])) (((sn l1 (l0 ++ [al])).length : Int) - 1) = ap := by
    show (sn l1 (l0 ++ [al])).getD _ _ = ap
    rw [show (((sn l1 (l0 ++ [al])).length : Int) - 1).toNat = (sn l1 l0).length by omega, hq]
    simp [List.getD_eq_getElem?_getD]
  have e2 : (ap.f1.toList != ([118] : List UInt8)) = false := by
    rw [toList_data]
    rfl
  have e3 : ((rd_T32 (sn l1 (l0 ++ [al])) (((sn l1 (l0 ++ [al])).length : Int) - 1)).f1.toList != ([118] : List UInt8)) = false := by
    rw [hl]
    exact e2
  rw [wr (x := ((sn l1 (l0 ++ [al])).length : Int) - 1) (by omega) (by omega)]
  refine Ev.pos (by omega) (Ev.pos (by omega) (Ev.pos (by rw [hl, toList_data]; rfl) ?_))
  rw [e3]
  refine Ev.succ ?_
  simp only [usherlaw5_PageSentMemory.j0]
  refine Ev.neg (by decide) (Ev.bind (markAll_is ma _ (by omega)) (Ev.bind (markAll_is mb _ (by omega)) (Ev.pos (by rw [List.length_replicate]; omega) (Ev.pos (by rw [List.length_replicate]; omega) ?_))))
  have r1 : ∀ c : ByteArray, ∀ x ∈ List.replicate (sn l1 (l0 ++ [al])).length (⟨c, c⟩ : S32), x = (⟨c, c⟩ : S32) := fun c x hx => List.eq_of_mem_replicate hx
  have g : ∀ c : ByteArray, (List.replicate (sn l1 (l0 ++ [al])).length (⟨c, c⟩ : S32) ++ [(⟨c, c⟩ : S32)]).length = (sn l1 (l0 ++ [al])).length + 1 := fun c => by simp
  have g1 := g ma
  have g2 := g mb
  exact mem_l0 a b l0 l1 h0 h1 63 (List.replicate (sn l1 (l0 ++ [al])).length (⟨ma, ma⟩ : S32) ++ [(⟨ma, ma⟩ : S32)]) (List.replicate (sn l1 (l0 ++ [al])).length (⟨mb, mb⟩ : S32) ++ [(⟨mb, mb⟩ : S32)]) 1 (Int.le_refl _) (by decide) (by omega) (by omega) (by omega) (by omega) (snoc_all (r1 ma)) (snoc_all (r1 mb))
end Go.Proofs.Ytmaedmmcjhmheaa.Y
