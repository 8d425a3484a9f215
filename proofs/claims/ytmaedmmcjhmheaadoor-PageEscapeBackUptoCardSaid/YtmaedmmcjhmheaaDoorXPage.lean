/- page's Escape and Unescape, walked by hand (a table of the package; strings.Builder): contracts in the print's form. Conditions: the table's cells (Sent); a text of at most 2^44 bytes. -/
import Derived.Test.YtmaedmmcjhmheaaDoorXBase
import Derived.Test.YtmaedmmcjhmheaaDoorXShelf
import Derived.Test.YtmaedmmcjhmheaaDoorYPesc
namespace Go.Proofs.YtmaedmmcjhmheaaDoor.X
open Go.RowKit Go.Proofs.YtmaedmmcjhmheaaDoorW.PrintWords Go.Proofs.YtmaedmmcjhmheaaDoorW.PrintLast Go.Proofs.YtmaedmmcjhmheaaDoorW.PrintMore
open Go.Proofs.YtmaedmmcjhmheaaDoor
variable {EA : Int → Addr} {SS : List Int}
theorem bdrew {T e : TypeId} {B b : Nat} {bs : List Value} {W : World} (h : Lib.IsBuilderF T e B b bs W) (n : Nat) : Lib.IsBuilderF T e B b bs (W.drewN n) := h
/-- an element of an array of structs, by value -/
theorem run_index_structs {P : Program} (w : World) {t e n m : Nat} {fs : Array Field} {i : TypeInfo} (ht : P.underlying t = some (.array n e)) (he : P.underlying e = some (.struct fs)) (hi : P.info? e = some i) (hc : P.cellsOf e = m) (cs : Array Value) (j : Nat) (h : j < n) :
    (Instr.index t (.agg cs) (.int .i64 (j : Int))).run P w = .ok (.agg (cs.extract (j * m) (j * m + m))) w := by
  have h0 : (0 : Int) ≤ (j : Int) ∧ (j : Int) < (n : Int) := by omega
  have hd : ∀ off, (part e cs off).run P w = .ok (.agg (cs.extract off (off + m))) w := fun off => by
    simp [part, isAgg, run_underlying he, run_sizeOf w hi, hc]
  simp [Instr.index, asIntOf, run_underlying ht, run_sizeOf w hi, hc, h0, hd, h]
theorem esc_idx0 (w : World) : (Instr.index 64 (.agg #[.int .u8 38, .string ⟨#[38, 97, 109, 112, 59]⟩, .int .u8 60, .string ⟨#[38, 108, 116, 59]⟩, .int .u8 62, .string ⟨#[38, 103, 116, 59]⟩, .int .u8 34, .string ⟨#[38, 113, 117, 111, 116, 59]⟩, .int .u8 39, .string ⟨#[38, 35, 51, 57, 59]⟩]) (.int .i64 0)).run Tryd.prog w = .ok (.agg #[.int .u8 38, .string ⟨#[38, 97, 109, 112, 59]⟩]) w := by
  obtain ⟨i, hi⟩ := info_of_underlying Tryd.underlying63
  have := run_index_structs w (m := 2) Tryd.underlying64 Tryd.underlying63 hi (by kernel_rfl) #[.int .u8 38, .string ⟨#[38, 97, 109, 112, 59]⟩, .int .u8 60, .string ⟨#[38, 108, 116, 59]⟩, .int .u8 62, .string ⟨#[38, 103, 116, 59]⟩, .int .u8 34, .string ⟨#[38, 113, 117, 111, 116, 59]⟩, .int .u8 39, .string ⟨#[38, 35, 51, 57, 59]⟩] 0 (by decide)
  simpa using this
theorem esc_idx1 (w : World) : (Instr.index 64 (.agg #[.int .u8 38, .string ⟨#[38, 97, 109, 112, 59]⟩, .int .u8 60, .string ⟨#[38, 108, 116, 59]⟩, .int .u8 62, .string ⟨#[38, 103, 116, 59]⟩, .int .u8 34, .string ⟨#[38, 113, 117, 111, 116, 59]⟩, .int .u8 39, .string ⟨#[38, 35, 51, 57, 59]⟩]) (.int .i64 1)).run Tryd.prog w = .ok (.agg #[.int .u8 60, .string ⟨#[38, 108, 116, 59]⟩]) w := by
  obtain ⟨i, hi⟩ := info_of_underlying Tryd.underlying63
  have := run_index_structs w (m := 2) Tryd.underlying64 Tryd.underlying63 hi (by kernel_rfl) #[.int .u8 38, .string ⟨#[38, 97, 109, 112, 59]⟩, .int .u8 60, .string ⟨#[38, 108, 116, 59]⟩, .int .u8 62, .string ⟨#[38, 103, 116, 59]⟩, .int .u8 34, .string ⟨#[38, 113, 117, 111, 116, 59]⟩, .int .u8 39, .string ⟨#[38, 35, 51, 57, 59]⟩] 1 (by decide)
  simpa using this
theorem esc_idx2 (w : World) : (Instr.index 64 (.agg #[.int .u8 38, .string ⟨#[38, 97, 109, 112, 59]⟩, .int .u8 60, .string ⟨#[38, 108, 116, 59]⟩, .int .u8 62, .string ⟨#[38, 103, 116, 59]⟩, .int .u8 34, .string ⟨#[38, 113, 117, 111, 116, 59]⟩, .int .u8 39, .string ⟨#[38, 35, 51, 57, 59]⟩]) (.int .i64 2)).run Tryd.prog w = .ok (.agg #[.int .u8 62, .string ⟨#[38, 103, 116, 59]⟩]) w := by
  obtain ⟨i, hi⟩ := info_of_underlying Tryd.underlying63
  have := run_index_structs w (m := 2) Tryd.underlying64 Tryd.underlying63 hi (by kernel_rfl) #[.int .u8 38, .string ⟨#[38, 97, 109, 112, 59]⟩, .int .u8 60, .string ⟨#[38, 108, 116, 59]⟩, .int .u8 62, .string ⟨#[38, 103, 116, 59]⟩, .int .u8 34, .string ⟨#[38, 113, 117, 111, 116, 59]⟩, .int .u8 39, .string ⟨#[38, 35, 51, 57, 59]⟩] 2 (by decide)
  simpa using this
theorem esc_idx3 (w : World) : (Instr.index 64 (.agg #[.int .u8 38, .string ⟨#[38, 97, 109, 112, 59]⟩, .int .u8 60, .string ⟨#[38, 108, 116, 59]⟩, .int .u8 62, .string ⟨#[38, 103, 116, 59]⟩, .int .u8 34, .string ⟨#[38, 113, 117, 111, 116, 59]⟩, .int .u8 39, .string ⟨#[38, 35, 51, 57, 59]⟩]) (.int .i64 3)).run Tryd.prog w = .ok (.agg #[.int .u8 34, .string ⟨#[38, 113, 117, 111, 116, 59]⟩]) w := by
  obtain ⟨i, hi⟩ := info_of_underlying Tryd.underlying63
  have := run_index_structs w (m := 2) Tryd.underlying64 Tryd.underlying63 hi (by kernel_rfl) #[.int .u8 38, .string ⟨#[38, 97, 109, 112, 59]⟩, .int .u8 60, .string ⟨#[38, 108, 116, 59]⟩, .int .u8 62, .string ⟨#[38, 103, 116, 59]⟩, .int .u8 34, .string ⟨#[38, 113, 117, 111, 116, 59]⟩, .int .u8 39, .string ⟨#[38, 35, 51, 57, 59]⟩] 3 (by decide)
  simpa using this
theorem esc_idx4 (w : World) : (Instr.index 64 (.agg #[.int .u8 38, .string ⟨#[38, 97, 109, 112, 59]⟩, .int .u8 60, .string ⟨#[38, 108, 116, 59]⟩, .int .u8 62, .string ⟨#[38, 103, 116, 59]⟩, .int .u8 34, .string ⟨#[38, 113, 117, 111, 116, 59]⟩, .int .u8 39, .string ⟨#[38, 35, 51, 57, 59]⟩]) (.int .i64 4)).run Tryd.prog w = .ok (.agg #[.int .u8 39, .string ⟨#[38, 35, 51, 57, 59]⟩]) w := by
  obtain ⟨i, hi⟩ := info_of_underlying Tryd.underlying63
  have := run_index_structs w (m := 2) Tryd.underlying64 Tryd.underlying63 hi (by kernel_rfl) #[.int .u8 38, .string ⟨#[38, 97, 109, 112, 59]⟩, .int .u8 60, .string ⟨#[38, 108, 116, 59]⟩, .int .u8 62, .string ⟨#[38, 103, 116, 59]⟩, .int .u8 34, .string ⟨#[38, 113, 117, 111, 116, 59]⟩, .int .u8 39, .string ⟨#[38, 35, 51, 57, 59]⟩] 4 (by decide)
  simpa using this
def page_Escape.f (a0 : ByteArray) : Option ByteArray := if a0.size ≤ 17592186044416 then some ⟨(Y.peL a0.data.toList).toArray⟩ else none
set_option maxHeartbeats 4000000 in
set_option maxRecDepth 100000 in
theorem page_Escape.calls (hk102 : (102 : Int) ∈ SS) (a0 : ByteArray) (r : ByteArray) (w : World) (hE : Sent EA SS w) (h : page_Escape.f a0 = some r) :
    Calls Tryd.prog 14 #[.string a0] w fun e w' => e = .returned (.string r) ∧ Below w.heap.size w w' := by
  unfold page_Escape.f at h
  by_cases hs : a0.size ≤ 17592186044416
  case neg => rw [if_neg hs] at h; cases h
  rw [if_pos hs] at h
  obtain rfl := Option.some.inj h
  clear h
  have hn : a0.data.toList.length = a0.size := Y.size_data a0
  go_enter Tryd.func14, Tryd.ntmps14
  go_wp2
  go_step3
  go_wp2
  go_step3
  go_wp2
  go_loopw [9] (fun i wr => ∃ m : Nat, m ≤ a0.size ∧ i = .int .i64 m ∧ Lib.IsBuilderF 62 5 w.heap.size w.heap.size (Lib.byteCells (Y.peL (a0.data.toList.take m))) wr ∧ Below w.heap.size w wr) (fun i _ => a0.size - (intOf i).toNat)
  case atStart =>
    exact ⟨0, Nat.zero_le _, rfl, Lib.IsBuilderF.of (Lib.fresh_isBuilder 62 5 w), (Below.refl _ w).alloc (Nat.le_refl _) _⟩
  case round =>
    obtain ⟨m, hm, rfl, hI, hbw⟩ := hrel
    have hEw := hE.below hbw
    have hsz := hbw.size
    have hL := Y.peL_le (a0.data.toList.take m)
    rw [List.length_take, hn] at hL
    have hT := hEw.at_102 hk102
    have g0 := hT 0 _ rfl
    have g1 := hT 1 _ rfl
    have g2 := hT 2 _ rfl
    have g3 := hT 3 _ rfl
    have g4 := hT 4 _ rfl
    have g5 := hT 5 _ rfl
    have g6 := hT 6 _ rfl
    have g7 := hT 7 _ rfl
    have g8 := hT 8 _ rfl
    have g9 := hT 9 _ rfl
    clear hT hEw
    have i0 := esc_idx0
    have i1 := esc_idx1
    have i2 := esc_idx2
    have i3 := esc_idx3
    have i4 := esc_idx4
    by_cases hp : m < a0.size
    · have c1 : decide ((m : Int) < a0.size) = true := decide_eq_true (by omega)
      have hg : m < a0.data.toList.length := by omega
      obtain ⟨c, hc⟩ : ∃ c, a0[m] = c := ⟨_, rfl⟩
      have hst : Hid (Y.peL (a0.data.toList.take (m + 1)) = Y.peL (a0.data.toList.take m) ++ Y.pe c) := by
        have e : a0.data.toList.take (m + 1) = a0.data.toList.take m ++ [a0.data.toList[m]] := (List.take_append_getElem hg).symm
        have hc' : a0.data.toList[m] = c := hc
        have := Y.peL_snoc (a0.data.toList.take m) c
        rw [← hc', ← e, hc'] at this
        exact this
      have hcl := c.toNat_lt
      by_cases e0 : c = 38
      · have hpe : Hid (Y.pe c = [38, 97, 109, 112, 59]) := by rw [e0]; exact rfl
        have d0 : ((c.toNat : Int) == 38) = true := by rw [e0]; rfl
        clear e0
        go_wp2
        refine wp_loop_rounds 6 ?_
        rw [rounds_succ]
        go_wp2
        go_quiet (fail)
        have hI1 := bdrew (hI.alloc (.cells #[.int .u8 38, .string ⟨#[38, 97, 109, 112, 59]⟩] 63)) nq
        have hb1 := pw_below_drewN (hbw.alloc hbw.size (.cells #[.int .u8 38, .string ⟨#[38, 97, 109, 112, 59]⟩] 63)) nq
        have hl1 : (Lib.byteCells (Y.peL (a0.data.toList.take m))).length + (⟨#[38, 97, 109, 112, 59]⟩ : ByteArray).size ≤ 140737488355328 := by rw [Lib.byteCells_length, show (⟨#[38, 97, 109, 112, 59]⟩ : ByteArray).size = 5 from rfl]; omega
        go_wp2_with (go_at_call 35; ((with_reducible refine (Tryd.Builder_WriteString_k w.heap.size w.heap.size (Lib.byteCells (Y.peL (a0.data.toList.take m))) ⟨#[38, 97, 109, 112, 59]⟩ _ hI1 hl1 hb1.size).mono ?_); rintro e W1 ⟨rfl, h1, b1, k1⟩))
        go_roundw
        case rel =>
          refine ⟨m + 1, by omega, by go_num, ?_, hb1.trans b1⟩
          rw [hst.out, hpe.out, Lib.byteCells_append]
          exact Or.inr h1
        case measure => simp [intOf]; omega
      by_cases e1 : c = 60
      · have hpe : Hid (Y.pe c = [38, 108, 116, 59]) := by rw [e1]; exact rfl
        have d0 : ((c.toNat : Int) == 38) = false := by rw [e1]; rfl
        have d1 : ((c.toNat : Int) == 60) = true := by rw [e1]; rfl
        clear e0 e1
        go_wp2
        refine wp_loop_rounds 6 ?_
        rw [rounds_succ]
        go_wp2
        go_quiet (fail)
        have hI1 := bdrew (hI.alloc (.cells #[.int .u8 38, .string ⟨#[38, 97, 109, 112, 59]⟩] 63)) nq
        have hb1 := pw_below_drewN (hbw.alloc hbw.size (.cells #[.int .u8 38, .string ⟨#[38, 97, 109, 112, 59]⟩] 63)) nq
        go_wp2
        rw [rounds_succ]
        go_wp2
        go_quiet (fail)
        have hI2 := bdrew (hI1.alloc (.cells #[.int .u8 60, .string ⟨#[38, 108, 116, 59]⟩] 63)) nq
        have hb2 := pw_below_drewN (hb1.alloc hb1.size (.cells #[.int .u8 60, .string ⟨#[38, 108, 116, 59]⟩] 63)) nq
        have hl1 : (Lib.byteCells (Y.peL (a0.data.toList.take m))).length + (⟨#[38, 108, 116, 59]⟩ : ByteArray).size ≤ 140737488355328 := by rw [Lib.byteCells_length, show (⟨#[38, 108, 116, 59]⟩ : ByteArray).size = 4 from rfl]; omega
        go_wp2_with (go_at_call 35; ((with_reducible refine (Tryd.Builder_WriteString_k w.heap.size w.heap.size (Lib.byteCells (Y.peL (a0.data.toList.take m))) ⟨#[38, 108, 116, 59]⟩ _ hI2 hl1 hb2.size).mono ?_); rintro e W1 ⟨rfl, h1, b1, k1⟩))
        go_roundw
        case rel =>
          refine ⟨m + 1, by omega, by go_num, ?_, hb2.trans b1⟩
          rw [hst.out, hpe.out, Lib.byteCells_append]
          exact Or.inr h1
        case measure => simp [intOf]; omega
      by_cases e2 : c = 62
      · have hpe : Hid (Y.pe c = [38, 103, 116, 59]) := by rw [e2]; exact rfl
        have d0 : ((c.toNat : Int) == 38) = false := by rw [e2]; rfl
        have d1 : ((c.toNat : Int) == 60) = false := by rw [e2]; rfl
        have d2 : ((c.toNat : Int) == 62) = true := by rw [e2]; rfl
        clear e0 e1 e2
        go_wp2
        refine wp_loop_rounds 6 ?_
        rw [rounds_succ]
        go_wp2
        go_quiet (fail)
        have hI1 := bdrew (hI.alloc (.cells #[.int .u8 38, .string ⟨#[38, 97, 109, 112, 59]⟩] 63)) nq
        have hb1 := pw_below_drewN (hbw.alloc hbw.size (.cells #[.int .u8 38, .string ⟨#[38, 97, 109, 112, 59]⟩] 63)) nq
        go_wp2
        rw [rounds_succ]
        go_wp2
        go_quiet (fail)
        have hI2 := bdrew (hI1.alloc (.cells #[.int .u8 60, .string ⟨#[38, 108, 116, 59]⟩] 63)) nq
        have hb2 := pw_below_drewN (hb1.alloc hb1.size (.cells #[.int .u8 60, .string ⟨#[38, 108, 116, 59]⟩] 63)) nq
        go_wp2
        rw [rounds_succ]
        go_wp2
        go_quiet (fail)
        have hI3 := bdrew (hI2.alloc (.cells #[.int .u8 62, .string ⟨#[38, 103, 116, 59]⟩] 63)) nq
        have hb3 := pw_below_drewN (hb2.alloc hb2.size (.cells #[.int .u8 62, .string ⟨#[38, 103, 116, 59]⟩] 63)) nq
        have hl1 : (Lib.byteCells (Y.peL (a0.data.toList.take m))).length + (⟨#[38, 103, 116, 59]⟩ : ByteArray).size ≤ 140737488355328 := by rw [Lib.byteCells_length, show (⟨#[38, 103, 116, 59]⟩ : ByteArray).size = 4 from rfl]; omega
        go_wp2_with (go_at_call 35; ((with_reducible refine (Tryd.Builder_WriteString_k w.heap.size w.heap.size (Lib.byteCells (Y.peL (a0.data.toList.take m))) ⟨#[38, 103, 116, 59]⟩ _ hI3 hl1 hb3.size).mono ?_); rintro e W1 ⟨rfl, h1, b1, k1⟩))
        go_roundw
        case rel =>
          refine ⟨m + 1, by omega, by go_num, ?_, hb3.trans b1⟩
          rw [hst.out, hpe.out, Lib.byteCells_append]
          exact Or.inr h1
        case measure => simp [intOf]; omega
      by_cases e3 : c = 34
      · have hpe : Hid (Y.pe c = [38, 113, 117, 111, 116, 59]) := by rw [e3]; exact rfl
        have d0 : ((c.toNat : Int) == 38) = false := by rw [e3]; rfl
        have d1 : ((c.toNat : Int) == 60) = false := by rw [e3]; rfl
        have d2 : ((c.toNat : Int) == 62) = false := by rw [e3]; rfl
        have d3 : ((c.toNat : Int) == 34) = true := by rw [e3]; rfl
        clear e0 e1 e2 e3
        go_wp2
        refine wp_loop_rounds 6 ?_
        rw [rounds_succ]
        go_wp2
        go_quiet (fail)
        have hI1 := bdrew (hI.alloc (.cells #[.int .u8 38, .string ⟨#[38, 97, 109, 112, 59]⟩] 63)) nq
        have hb1 := pw_below_drewN (hbw.alloc hbw.size (.cells #[.int .u8 38, .string ⟨#[38, 97, 109, 112, 59]⟩] 63)) nq
        go_wp2
        rw [rounds_succ]
        go_wp2
        go_quiet (fail)
        have hI2 := bdrew (hI1.alloc (.cells #[.int .u8 60, .string ⟨#[38, 108, 116, 59]⟩] 63)) nq
        have hb2 := pw_below_drewN (hb1.alloc hb1.size (.cells #[.int .u8 60, .string ⟨#[38, 108, 116, 59]⟩] 63)) nq
        go_wp2
        rw [rounds_succ]
        go_wp2
        go_quiet (fail)
        have hI3 := bdrew (hI2.alloc (.cells #[.int .u8 62, .string ⟨#[38, 103, 116, 59]⟩] 63)) nq
        have hb3 := pw_below_drewN (hb2.alloc hb2.size (.cells #[.int .u8 62, .string ⟨#[38, 103, 116, 59]⟩] 63)) nq
        go_wp2
        rw [rounds_succ]
        go_wp2
        go_quiet (fail)
        have hI4 := bdrew (hI3.alloc (.cells #[.int .u8 34, .string ⟨#[38, 113, 117, 111, 116, 59]⟩] 63)) nq
        have hb4 := pw_below_drewN (hb3.alloc hb3.size (.cells #[.int .u8 34, .string ⟨#[38, 113, 117, 111, 116, 59]⟩] 63)) nq
        have hl1 : (Lib.byteCells (Y.peL (a0.data.toList.take m))).length + (⟨#[38, 113, 117, 111, 116, 59]⟩ : ByteArray).size ≤ 140737488355328 := by rw [Lib.byteCells_length, show (⟨#[38, 113, 117, 111, 116, 59]⟩ : ByteArray).size = 6 from rfl]; omega
        go_wp2_with (go_at_call 35; ((with_reducible refine (Tryd.Builder_WriteString_k w.heap.size w.heap.size (Lib.byteCells (Y.peL (a0.data.toList.take m))) ⟨#[38, 113, 117, 111, 116, 59]⟩ _ hI4 hl1 hb4.size).mono ?_); rintro e W1 ⟨rfl, h1, b1, k1⟩))
        go_roundw
        case rel =>
          refine ⟨m + 1, by omega, by go_num, ?_, hb4.trans b1⟩
          rw [hst.out, hpe.out, Lib.byteCells_append]
          exact Or.inr h1
        case measure => simp [intOf]; omega
      by_cases e4 : c = 39
      · have hpe : Hid (Y.pe c = [38, 35, 51, 57, 59]) := by rw [e4]; exact rfl
        have d0 : ((c.toNat : Int) == 38) = false := by rw [e4]; rfl
        have d1 : ((c.toNat : Int) == 60) = false := by rw [e4]; rfl
        have d2 : ((c.toNat : Int) == 62) = false := by rw [e4]; rfl
        have d3 : ((c.toNat : Int) == 34) = false := by rw [e4]; rfl
        have d4 : ((c.toNat : Int) == 39) = true := by rw [e4]; rfl
        clear e0 e1 e2 e3 e4
        go_wp2
        refine wp_loop_rounds 6 ?_
        rw [rounds_succ]
        go_wp2
        go_quiet (fail)
        have hI1 := bdrew (hI.alloc (.cells #[.int .u8 38, .string ⟨#[38, 97, 109, 112, 59]⟩] 63)) nq
        have hb1 := pw_below_drewN (hbw.alloc hbw.size (.cells #[.int .u8 38, .string ⟨#[38, 97, 109, 112, 59]⟩] 63)) nq
        go_wp2
        rw [rounds_succ]
        go_wp2
        go_quiet (fail)
        have hI2 := bdrew (hI1.alloc (.cells #[.int .u8 60, .string ⟨#[38, 108, 116, 59]⟩] 63)) nq
        have hb2 := pw_below_drewN (hb1.alloc hb1.size (.cells #[.int .u8 60, .string ⟨#[38, 108, 116, 59]⟩] 63)) nq
        go_wp2
        rw [rounds_succ]
        go_wp2
        go_quiet (fail)
        have hI3 := bdrew (hI2.alloc (.cells #[.int .u8 62, .string ⟨#[38, 103, 116, 59]⟩] 63)) nq
        have hb3 := pw_below_drewN (hb2.alloc hb2.size (.cells #[.int .u8 62, .string ⟨#[38, 103, 116, 59]⟩] 63)) nq
        go_wp2
        rw [rounds_succ]
        go_wp2
        go_quiet (fail)
        have hI4 := bdrew (hI3.alloc (.cells #[.int .u8 34, .string ⟨#[38, 113, 117, 111, 116, 59]⟩] 63)) nq
        have hb4 := pw_below_drewN (hb3.alloc hb3.size (.cells #[.int .u8 34, .string ⟨#[38, 113, 117, 111, 116, 59]⟩] 63)) nq
        go_wp2
        rw [rounds_succ]
        go_wp2
        go_quiet (fail)
        have hI5 := bdrew (hI4.alloc (.cells #[.int .u8 39, .string ⟨#[38, 35, 51, 57, 59]⟩] 63)) nq
        have hb5 := pw_below_drewN (hb4.alloc hb4.size (.cells #[.int .u8 39, .string ⟨#[38, 35, 51, 57, 59]⟩] 63)) nq
        have hl1 : (Lib.byteCells (Y.peL (a0.data.toList.take m))).length + (⟨#[38, 35, 51, 57, 59]⟩ : ByteArray).size ≤ 140737488355328 := by rw [Lib.byteCells_length, show (⟨#[38, 35, 51, 57, 59]⟩ : ByteArray).size = 5 from rfl]; omega
        go_wp2_with (go_at_call 35; ((with_reducible refine (Tryd.Builder_WriteString_k w.heap.size w.heap.size (Lib.byteCells (Y.peL (a0.data.toList.take m))) ⟨#[38, 35, 51, 57, 59]⟩ _ hI5 hl1 hb5.size).mono ?_); rintro e W1 ⟨rfl, h1, b1, k1⟩))
        go_roundw
        case rel =>
          refine ⟨m + 1, by omega, by go_num, ?_, hb5.trans b1⟩
          rw [hst.out, hpe.out, Lib.byteCells_append]
          exact Or.inr h1
        case measure => simp [intOf]; omega
      have hsp : Y.spec5 c = false := by
        unfold Y.spec5
        simp only [Bool.or_eq_false_iff, beq_eq_false_iff_ne]
        exact ⟨⟨⟨⟨e0, e1⟩, e2⟩, e3⟩, e4⟩
      have hpe : Hid (Y.pe c = [c]) := Y.pe_plain hsp
      have d0 : ((c.toNat : Int) == 38) = false := beq_eq_false_iff_ne.2 (fun h => e0 (UInt8.toNat_inj.1 (by rw [show (38 : UInt8).toNat = 38 from rfl]; omega)))
      have d1 : ((c.toNat : Int) == 60) = false := beq_eq_false_iff_ne.2 (fun h => e1 (UInt8.toNat_inj.1 (by rw [show (60 : UInt8).toNat = 60 from rfl]; omega)))
      have d2 : ((c.toNat : Int) == 62) = false := beq_eq_false_iff_ne.2 (fun h => e2 (UInt8.toNat_inj.1 (by rw [show (62 : UInt8).toNat = 62 from rfl]; omega)))
      have d3 : ((c.toNat : Int) == 34) = false := beq_eq_false_iff_ne.2 (fun h => e3 (UInt8.toNat_inj.1 (by rw [show (34 : UInt8).toNat = 34 from rfl]; omega)))
      have d4 : ((c.toNat : Int) == 39) = false := beq_eq_false_iff_ne.2 (fun h => e4 (UInt8.toNat_inj.1 (by rw [show (39 : UInt8).toNat = 39 from rfl]; omega)))
      clear e0 e1 e2 e3 e4 hsp
      go_wp2
      refine wp_loop_rounds 6 ?_
      rw [rounds_succ]
      go_wp2
      go_quiet (fail)
      have hI1 := bdrew (hI.alloc (.cells #[.int .u8 38, .string ⟨#[38, 97, 109, 112, 59]⟩] 63)) nq
      have hb1 := pw_below_drewN (hbw.alloc hbw.size (.cells #[.int .u8 38, .string ⟨#[38, 97, 109, 112, 59]⟩] 63)) nq
      go_wp2
      rw [rounds_succ]
      go_wp2
      go_quiet (fail)
      have hI2 := bdrew (hI1.alloc (.cells #[.int .u8 60, .string ⟨#[38, 108, 116, 59]⟩] 63)) nq
      have hb2 := pw_below_drewN (hb1.alloc hb1.size (.cells #[.int .u8 60, .string ⟨#[38, 108, 116, 59]⟩] 63)) nq
      go_wp2
      rw [rounds_succ]
      go_wp2
      go_quiet (fail)
      have hI3 := bdrew (hI2.alloc (.cells #[.int .u8 62, .string ⟨#[38, 103, 116, 59]⟩] 63)) nq
      have hb3 := pw_below_drewN (hb2.alloc hb2.size (.cells #[.int .u8 62, .string ⟨#[38, 103, 116, 59]⟩] 63)) nq
      go_wp2
      rw [rounds_succ]
      go_wp2
      go_quiet (fail)
      have hI4 := bdrew (hI3.alloc (.cells #[.int .u8 34, .string ⟨#[38, 113, 117, 111, 116, 59]⟩] 63)) nq
      have hb4 := pw_below_drewN (hb3.alloc hb3.size (.cells #[.int .u8 34, .string ⟨#[38, 113, 117, 111, 116, 59]⟩] 63)) nq
      go_wp2
      rw [rounds_succ]
      go_wp2
      go_quiet (fail)
      have hI5 := bdrew (hI4.alloc (.cells #[.int .u8 39, .string ⟨#[38, 35, 51, 57, 59]⟩] 63)) nq
      have hb5 := pw_below_drewN (hb4.alloc hb4.size (.cells #[.int .u8 39, .string ⟨#[38, 35, 51, 57, 59]⟩] 63)) nq
      go_wp2
      rw [rounds_succ]
      have hl1 : (Lib.byteCells (Y.peL (a0.data.toList.take m))).length + 1 ≤ 140737488355328 := by rw [Lib.byteCells_length]; omega
      go_wp2_with (go_at_call 36; ((with_reducible refine (Tryd.Builder_WriteByte_k w.heap.size w.heap.size (Lib.byteCells (Y.peL (a0.data.toList.take m))) _ _ hI5 hl1 hb5.size).mono ?_); rintro e W1 ⟨rfl, h1, b1, k1⟩))
      go_roundw
      case rel =>
        refine ⟨m + 1, by omega, by go_num, ?_, hb5.trans b1⟩
        rw [hst.out, hpe.out, Lib.byteCells_append]
        exact Or.inr h1
      case measure => simp [intOf]; omega
    · have c1 : decide ((m : Int) < a0.size) = false := decide_eq_false (by omega)
      obtain rfl : m = a0.size := by omega
      go_wp2_with (go_at_call 37; refine (Tryd.Builder_String_any_k w.heap.size w.heap.size (Y.peL (a0.data.toList.take a0.size)) _ hI hsz).mono ?_; rintro e W1 ⟨rfl, _, b1, _⟩)
      rw [Exit.noGoto_ret]
      go_ret
      rw [List.take_of_length_le (by omega)]
      exact ⟨rfl, hbw.trans b1⟩
end Go.Proofs.YtmaedmmcjhmheaaDoor.X
