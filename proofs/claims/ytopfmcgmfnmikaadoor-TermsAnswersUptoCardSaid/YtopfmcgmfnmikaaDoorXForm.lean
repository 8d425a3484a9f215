/- pct's Form, walked by hand (strings.Builder): its contract in the print's form. Conditions: the table's cells (Sent); pairs of together at most 2^45 bytes (three for each of theirs, two a pair). -/
import Derived.Test.YtopfmcgmfnmikaaDoorXx0
import Derived.Test.YtopfmcgmfnmikaaDoorXEscape
set_option linter.unusedSimpArgs false
set_option linter.unusedVariables false
namespace Go.Proofs.YtopfmcgmfnmikaaDoor.X
open Go.RowKit Go.Proofs.YtopfmcgmfnmikaaDoorW.PrintWords Go.Proofs.YtopfmcgmfnmikaaDoorW.PrintLast Go.Proofs.YtopfmcgmfnmikaaDoorW.PrintMore
open Go.Proofs.YtopfmcgmfnmikaaDoor
variable {EA : Int → Addr} {SS : List Int}
theorem builder_below {T e : TypeId} {B b : Nat} {bs : List Value} {W W' : World} (h : Lib.IsBuilderF T e B b bs W) (hb : Below W.heap.size W W') : Lib.IsBuilderF T e B b bs W' := by
  have g : ∀ p, Lib.BuilderAtF T e B b p bs W → Lib.BuilderAtF T e B b p bs W' := fun p h => by
    have hlt := h.lt
    obtain ⟨hB, v, hv, hown, hne⟩ := h
    exact ⟨hB, v, (hb.block b hlt).trans hv, hown.kept (row := none) ⟨hb.os, hb.tape, hb.output, hb.size, fun k hk _ => hb.block k hk⟩ (Classical.em _), hne⟩
  exact h.elim (fun x => .inl (g _ x)) (fun x => .inr (g _ x))
theorem box_kept {w w' : World} {g b : Nat} {cs : Array Value} (hg : w.heap[g]? = some (.cells cs 29 (0, 0))) (hne : g ≠ b) (k : Lib.OthersKept 5 (some b) w w') : w'.heap[g]? = some (.cells cs 29 (0, 0)) :=
  k g _ hg (fun e => hne (Option.some.inj e)) (fun c fz e => by injection e with _ h2; exact absurd h2 (by decide))
theorem is_used {T e : TypeId} {B b : Nat} {bs : List Value} {w : World} (h : Lib.BuilderAtF T e B b (.pointer (some ⟨b, 0, none⟩)) bs w) : Lib.IsBuilderF T e B b bs w := Or.inr h
def partL (p : S29) : List UInt8 := escL true p.f0.data.toList ++ ([61] ++ escL true p.f1.data.toList)
def formF : Bool → List S29 → List UInt8
  | _, [] => []
  | b, p :: r => (if b = true then [] else [38]) ++ (partL p ++ formF false r)
def wgt (p : S29) : Nat := 3 * (p.f0.size + p.f1.size) + 2
theorem partL_le (p : S29) : (partL p).length + 1 ≤ wgt p := by
  have h1 := escL_le true p.f0.data.toList
  have h2 := escL_le true p.f1.data.toList
  rw [Y.size_data] at h1 h2
  simp only [partL, wgt, List.length_append, List.length_cons, List.length_nil]
  omega
theorem formF_le : ∀ (l : List S29) (b : Bool), (formF b l).length ≤ (l.map wgt).sum
  | [], _ => by simp [formF]
  | p :: r, b => by
    have h1 := partL_le p
    have h2 := formF_le r false
    have h3 : (if b = true then ([] : List UInt8) else [38]).length ≤ 1 := by split <;> simp
    simp only [formF, List.length_append, List.map_cons, List.sum_cons]
    omega
theorem formF_step : ∀ (l : List S29) (m : Nat) (h : m < l.length) (b : Bool), formF b (l.take (m + 1)) = formF b (l.take m) ++ ((if m = 0 ∧ b = true then [] else [38]) ++ partL l[m])
  | p :: r, 0, _, b => by simp [formF]
  | p :: r, m + 1, h, b => by
    have := formF_step r m (by simpa using h) false
    simp only [List.take_succ_cons, formF, this, List.getElem_cons_succ]
    simp
theorem sum_take (l : List S29) (m : Nat) (h : m < l.length) : ((l.take m).map wgt).sum + wgt l[m] ≤ (l.map wgt).sum := by
  have : (l.map wgt).sum = ((l.take m).map wgt).sum + (wgt l[m] + ((l.drop (m + 1)).map wgt).sum) := by
    have e : l = l.take m ++ l[m] :: l.drop (m + 1) := by rw [← List.drop_eq_getElem_cons h, List.take_append_drop]
    have e2 := congrArg (fun z => (z.map wgt).sum) e
    simpa only [List.map_append, List.map_cons, List.sum_append, List.sum_cons] using e2
  omega
def pct_Form.f (l0 : List S29) : Option ByteArray := if (l0.map wgt).sum ≤ 35184372088832 ∧ l0.length ≤ 9223372036854775807 then some ⟨(formF true l0).toArray⟩ else none
set_option maxHeartbeats 1000000 in
set_option maxRecDepth 100000 in
theorem pct_Form.calls (hk101 : (101 : Int) ∈ SS) (A0 : Option Addr) (c0 : Nat) (l0 : List (S29)) (r : ByteArray) (w : World) (hE : Sent EA SS w) (hr0 : Kd.C k29 w A0 l0.length l0) (hc0 : l0.length ≤ c0) (h : pct_Form.f l0 = some r) :
    Calls Tryd.prog 35 #[.slice A0 l0.length c0] w fun e w' => e = .returned (.string r) ∧ Below w.heap.size w w' := by
  unfold pct_Form.f at h
  by_cases hs : (l0.map wgt).sum ≤ 35184372088832 ∧ l0.length ≤ 9223372036854775807
  case neg => rw [if_neg hs] at h; cases h
  rw [if_pos hs] at h
  obtain rfl := Option.some.inj h
  clear h
  obtain ⟨hs, hlen⟩ := hs
  go_enter Tryd.func35, Tryd.ntmps35
  go_wp2
  go_loopw [8] (fun i wr => ∃ m : Nat, m ≤ l0.length ∧ i = .int .i64 m ∧ Lib.IsBuilderF 78 5 w.heap.size w.heap.size (Lib.byteCells (formF true (l0.take m))) wr ∧ Below w.heap.size w wr) (fun i _ => l0.length - (intOf i).toNat)
  case atStart =>
    exact ⟨0, Nat.zero_le _, rfl, Lib.IsBuilderF.of (Lib.fresh_isBuilder 78 5 w), (Below.refl _ w).alloc (Nat.le_refl _) _⟩
  case round =>
    obtain ⟨m, hm, rfl, hI, hbw⟩ := hrel
    have hsz := hbw.size
    by_cases hp : m < l0.length
    · have c1 : decide ((m : Int) < l0.length) = true := decide_eq_true (by omega)
      have c3 : decide ((0 : Int) ≤ m) = true := decide_eq_true (by omega)
      obtain ⟨ad, e0, hx0, hx1⟩ := at_T29 (Kd.C_below hr0 hbw) (m : Int) (by omega) (by omega)
      cases e0
      simp only [Int.toNat_natCast] at hx0 hx1
      obtain ⟨p, hpe⟩ : ∃ p, rd_T29 l0 (m : Int) = p := ⟨_, rfl⟩
      rw [hpe] at hx0 hx1
      have hpl : l0[m] = p := by
        rw [← hpe]
        show l0[m] = l0.getD _ _
        rw [Int.toNat_natCast, List.getD_eq_getElem?_getD, List.getElem?_eq_getElem hp]
        rfl
      have hne : wr.heap.size ≠ w.heap.size := by
        intro e
        rcases hI with x | x <;> exact absurd x.lt (by omega)
      have hw0 := sum_take l0 m hp
      rw [hpl] at hw0
      have hw1 := formF_le (l0.take m) true
      have hw2 : wgt p = 3 * (p.f0.size + p.f1.size) + 2 := rfl
      have hw3 := escL_le true p.f0.data.toList
      have hw4 := escL_le true p.f1.data.toList
      rw [Y.size_data] at hw3 hw4
      have hf0 : pct_Escape.f p.f0 true = some ⟨(escL true p.f0.data.toList).toArray⟩ := if_pos (by omega)
      have hf1 : pct_Escape.f p.f1 true = some ⟨(escL true p.f1.data.toList).toArray⟩ := if_pos (by omega)
      have hI0 := hI.alloc (.cells #[.string p.f0, .string p.f1] 29)
      have hb0 := hbw.alloc hsz (.cells #[.string p.f0, .string p.f1] 29)
      have hG0 : (wr.alloc (.cells #[.string p.f0, .string p.f1] 29)).heap[wr.heap.size]? = some (.cells #[.string p.f0, .string p.f1] 29 (0, 0)) := blk_new wr _
      by_cases hm0 : m = 0
      · have c4 : decide (0 < m) = false := decide_eq_false (by omega)
        have hm1 := Aside0.mk hm0
        clear hm0
        have hI1 := hI0
        have hb1 := hb0
        have hE1 := hE.below hb1
        have hG1 := hG0
        go_wp2_with (first | (go_at_call 61; (with_reducible refine (pct_Escape.calls hk101 p.f0 true _ _ hE1 hf0).mono ?_); rintro e w2 ⟨rfl, b2⟩; have hI2 := builder_below hI1 b2; have hb2 := hb1.trans (b2.mono hb1.size); have hG2 := blk_below hG1 b2) | (go_at_call 60; (with_reducible refine (Tryd.Builder_WriteString_k w.heap.size w.heap.size _ ⟨(escL true p.f0.data.toList).toArray⟩ _ hI2 (by simp only [List.length_append, List.length_cons, List.length_nil, Lib.byteCells_length, Lib.strCells_eq, ByteArray.size, List.size_toArray]; omega) hb2.size).mono ?_); rintro e w3 ⟨rfl, h3, b3, k3⟩; have hI3 := is_used h3; have hb3 := hb2.trans b3; have hG3 := box_kept hG2 hne k3) | (go_at_call 59; (with_reducible refine (Tryd.Builder_WriteByte_k w.heap.size w.heap.size _ 61 _ hI3 (by simp only [List.length_append, List.length_cons, List.length_nil, Lib.byteCells_length, Lib.strCells_eq, ByteArray.size, List.size_toArray]; omega) hb3.size).mono ?_); rintro e w4 ⟨rfl, h4, b4, k4⟩; have hI4 := is_used h4; have hb4 := hb3.trans b4; have hG4 := box_kept hG3 hne k4; have hE4 := hE.below hb4; have hx4 := (blk_cell hG4 1).trans rfl) | (go_at_call 61; (with_reducible refine (pct_Escape.calls hk101 p.f1 true _ _ hE4 hf1).mono ?_); rintro e w5 ⟨rfl, b5⟩; have hI5 := builder_below hI4 b5; have hb5 := hb4.trans (b5.mono hb4.size)) | (go_at_call 60; (with_reducible refine (Tryd.Builder_WriteString_k w.heap.size w.heap.size _ ⟨(escL true p.f1.data.toList).toArray⟩ _ hI5 (by simp only [List.length_append, List.length_cons, List.length_nil, Lib.byteCells_length, Lib.strCells_eq, ByteArray.size, List.size_toArray]; omega) hb5.size).mono ?_); rintro e w6 ⟨rfl, h6, b6, k6⟩; have hb6 := hb5.trans b6))
        go_roundw
        case rel =>
          refine ⟨m + 1, by omega, by go_num, ?_, hb6⟩
          rw [formF_step l0 m hp true, hpl]
          rw [if_pos ⟨hm1.out, rfl⟩, List.nil_append]
          simp only [partL, Lib.byteCells_append]
          simp only [List.append_assoc] at h6
          exact Or.inr h6
        case measure => simp [intOf]; omega
      · have c4 : decide (0 < m) = true := decide_eq_true (by omega)
        go_wp2_with (first | (go_at_call 59; (with_reducible refine (Tryd.Builder_WriteByte_k w.heap.size w.heap.size _ 38 _ hI0 (by simp only [List.length_append, List.length_cons, List.length_nil, Lib.byteCells_length]; omega) hb0.size).mono ?_); rintro e w1 ⟨rfl, h1, b1, k1⟩; have hI1 := is_used h1; have hb1 := hb0.trans b1; have hG1 := box_kept hG0 hne k1; have hE1 := hE.below hb1; have hx1 := (blk_cell hG1 0).trans rfl) | (go_at_call 61; (with_reducible refine (pct_Escape.calls hk101 p.f0 true _ _ hE1 hf0).mono ?_); rintro e w2 ⟨rfl, b2⟩; have hI2 := builder_below hI1 b2; have hb2 := hb1.trans (b2.mono hb1.size); have hG2 := blk_below hG1 b2) | (go_at_call 60; (with_reducible refine (Tryd.Builder_WriteString_k w.heap.size w.heap.size _ ⟨(escL true p.f0.data.toList).toArray⟩ _ hI2 (by simp only [List.length_append, List.length_cons, List.length_nil, Lib.byteCells_length, Lib.strCells_eq, ByteArray.size, List.size_toArray]; omega) hb2.size).mono ?_); rintro e w3 ⟨rfl, h3, b3, k3⟩; have hI3 := is_used h3; have hb3 := hb2.trans b3; have hG3 := box_kept hG2 hne k3) | (go_at_call 59; (with_reducible refine (Tryd.Builder_WriteByte_k w.heap.size w.heap.size _ 61 _ hI3 (by simp only [List.length_append, List.length_cons, List.length_nil, Lib.byteCells_length, Lib.strCells_eq, ByteArray.size, List.size_toArray]; omega) hb3.size).mono ?_); rintro e w4 ⟨rfl, h4, b4, k4⟩; have hI4 := is_used h4; have hb4 := hb3.trans b4; have hG4 := box_kept hG3 hne k4; have hE4 := hE.below hb4; have hx4 := (blk_cell hG4 1).trans rfl) | (go_at_call 61; (with_reducible refine (pct_Escape.calls hk101 p.f1 true _ _ hE4 hf1).mono ?_); rintro e w5 ⟨rfl, b5⟩; have hI5 := builder_below hI4 b5; have hb5 := hb4.trans (b5.mono hb4.size)) | (go_at_call 60; (with_reducible refine (Tryd.Builder_WriteString_k w.heap.size w.heap.size _ ⟨(escL true p.f1.data.toList).toArray⟩ _ hI5 (by simp only [List.length_append, List.length_cons, List.length_nil, Lib.byteCells_length, Lib.strCells_eq, ByteArray.size, List.size_toArray]; omega) hb5.size).mono ?_); rintro e w6 ⟨rfl, h6, b6, k6⟩; have hb6 := hb5.trans b6))
        go_roundw
        case rel =>
          refine ⟨m + 1, by omega, by go_num, ?_, hb6⟩
          rw [formF_step l0 m hp true, hpl]
          rw [if_neg (fun e => hm0 e.1)]
          simp only [partL, Lib.byteCells_append]
          simp only [List.append_assoc] at h6
          exact Or.inr h6
        case measure => simp [intOf]; omega
    · have c1 : decide ((m : Int) < l0.length) = false := decide_eq_false (by omega)
      obtain rfl : m = l0.length := by omega
      go_wp2_with (go_at_call 62; refine (Tryd.Builder_String_any_k w.heap.size w.heap.size (formF true (l0.take l0.length)) _ hI hsz).mono ?_; rintro e W1 ⟨rfl, _, b1, _⟩)
      go_ret
      exact ⟨rfl, hbw.trans b1⟩
end Go.Proofs.YtopfmcgmfnmikaaDoor.X
