/- page's Unescape, walked by hand (a table of the package; strings.Builder): its contract in the print's form. Conditions: the table's cells, the error's place (Sent); a text of at most 2^44 bytes. -/
import Derived.Test.YtmaedmmcjhmheaaDoorXPage
import Derived.Lib.Hide
namespace Go.Proofs.YtmaedmmcjhmheaaDoor.X
open Go.RowKit Go.Proofs.YtmaedmmcjhmheaaDoorW.PrintWords Go.Proofs.YtmaedmmcjhmheaaDoorW.PrintLast Go.Proofs.YtmaedmmcjhmheaaDoorW.PrintMore
open Go.Proofs.YtmaedmmcjhmheaaDoor
variable {EA : Int → Addr} {SS : List Int}
def page_Unescape.f (a0 : ByteArray) : Option (ByteArray × Option Int) := if a0.size ≤ 17592186044416 then some (match Y.unL a0.data.toList with | some t => (⟨t.toArray⟩, none) | none => (⟨#[]⟩, some 2)) else none
theorem unesc_ok {a0 r1 : ByteArray} {r2 : Option Int} {t : List UInt8} (h : page_Unescape.f a0 = some (r1, r2)) (ht : Y.peL t = a0.data.toList) : r1 = ⟨t.toArray⟩ ∧ r2 = none := by
  unfold page_Unescape.f at h
  rw [Y.unL_some ht] at h
  split at h
  · have := Option.some.inj h
    exact ⟨(congrArg Prod.fst this).symm, (congrArg Prod.snd this).symm⟩
  · cases h
theorem unesc_no {a0 r1 : ByteArray} {r2 : Option Int} (h : page_Unescape.f a0 = some (r1, r2)) (ht : Y.unL a0.data.toList = none) : r1 = ⟨#[]⟩ ∧ r2 = some 2 := by
  unfold page_Unescape.f at h
  rw [ht] at h
  split at h
  · have := Option.some.inj h
    exact ⟨(congrArg Prod.fst this).symm, (congrArg Prod.snd this).symm⟩
  · cases h
theorem unesc_le {a0 r1 : ByteArray} {r2 : Option Int} (h : page_Unescape.f a0 = some (r1, r2)) : a0.size ≤ 17592186044416 := by
  unfold page_Unescape.f at h
  split at h
  · assumption
  · cases h
theorem box_kept63 {w w' : World} {g b : Nat} {cs : Array Value} (hg : w.heap[g]? = some (.cells cs 63 (0, 0))) (hne : g ≠ b) (k : Lib.OthersKept 5 (some b) w w') : w'.heap[g]? = some (.cells cs 63 (0, 0)) :=
  k g _ hg (fun e => hne (Option.some.inj e)) (fun c fz e => by injection e with _ h2; exact absurd h2 (by decide))
theorem cut_from (t : ByteArray) (k : Nat) : (t.extract k t.size).data.toList = t.data.toList.drop k := by
  rw [Lib.extract_data, List.take_of_length_le]
  rw [List.length_drop, Y.size_data]
  exact Nat.le_refl _
theorem pre_of {p l : List UInt8} (h : p.isPrefixOf l = true) : p ++ l.drop p.length = l := by
  obtain ⟨r, rfl⟩ := List.isPrefixOf_iff_prefix.1 h
  rw [List.drop_left]
set_option maxHeartbeats 8000000 in
set_option maxRecDepth 100000 in
theorem page_Unescape.calls (hk2 : (2 : Int) ∈ SS) (hk102 : (102 : Int) ∈ SS) (a0 : ByteArray) (r1 : ByteArray) (r2 : Option Int) (w : World) (hE : Sent EA SS w) (h : page_Unescape.f a0 = some (r1, r2)) :
    Calls Tryd.prog 16 #[.string a0] w fun e w' => e = .returned (.tuple #[.string r1, errW EA r2]) ∧ Below w.heap.size w w' := by
  have hs := unesc_le h
  have HF := Lib.hid h
  clear h
  have hn : a0.data.toList.length = a0.size := Y.size_data a0
  go_enter Tryd.func16, Tryd.ntmps16
  go_wp2
  go_step3
  go_wp2
  go_step3
  go_wp2
  go_loopg [0] a0.size (fun g v wr => ∃ (t : ByteArray) (out : List UInt8), t.size = g ∧ v = .string t ∧ Hid (Y.peL out ++ t.data.toList = a0.data.toList) ∧ Lib.IsBuilderF 62 5 w.heap.size w.heap.size (Lib.byteCells out) wr ∧ Below w.heap.size w wr)
  case atStart =>
    exact ⟨a0, [], rfl, rfl, rfl, Lib.IsBuilderF.of (Lib.fresh_isBuilder 62 5 w), (Below.refl _ w).alloc (Nat.le_refl _) _⟩
  case round =>
    obtain ⟨t, out, rfl, rfl, hsum, hI, hbw⟩ := hrel
    have hEw := hE.below hbw
    have hsz := hbw.size
    have hol : out.length + t.size ≤ a0.size := by
      have h1 := congrArg List.length hsum.out
      have h2 := Y.peL_len out
      rw [List.length_append, Y.size_data, hn] at h1
      omega
    have hT := hEw.at_102 hk102
    have g0 := hT 0 _ rfl
    have g1 := hT 1 _ rfl
    have g2 := hT 2 _ rfl
    have g3 := hT 3 _ rfl
    have g4 := hT 4 _ rfl
    have g5 := hT 5 _ rfl
    have g6 := hT 6 _ rfl
    have g7 := hT 7 _ rfl
    have g8 := hT 8 _ rfl
    have g9 := hT 9 _ rfl
    have ge := hEw.at_2 hk2
    clear hT hEw
    have i0 := esc_idx0
    have i1 := esc_idx1
    have i2 := esc_idx2
    have i3 := esc_idx3
    have i4 := esc_idx4
    cases hl : t.data.toList with
    | nil =>
      have hz : t.size = 0 := by rw [← Y.size_data, hl]; rfl
      obtain rfl : t = ⟨#[]⟩ := Y.empty_is hz
      clear hl hz
      go_wp2_with (go_at_call 37; refine (Tryd.Builder_String_any_k w.heap.size w.heap.size out _ hI hsz).mono ?_; rintro e W1 ⟨rfl, _, b1, _⟩)
      rw [Exit.noGoto_ret]
      obtain ⟨e1, e2⟩ := unesc_ok (t := out) HF.out (by have := hsum.out; simpa using this)
      subst e1 e2
      go_ret2
      exact ⟨rfl, hbw.trans b1⟩
    | cons c r =>
      have hcl := c.toNat_lt
      have hz : 1 ≤ t.size := by rw [← Y.size_data, hl]; simp
      have hne : ¬ t.toList = [] := by rw [Y.toList_data, hl]; simp
      have hemp : t.toList.isEmpty = false := by rw [Y.toList_data, hl]; rfl
      have h0 : t[0]'(by omega) = c := by
        have : t.data.toList[0]? = some c := by rw [hl]; rfl
        have h2 := Lib.data_getElem? t 0 (by omega)
        rw [h2] at this
        exact Option.some.inj this
      have HL := Lib.hid hl
      clear hl
      by_cases q0 : ([38, 97, 109, 112, 59] : List UInt8).isPrefixOf (c :: r) = true
      · have hz2 : 5 ≤ t.size := by
          have h1 := congrArg List.length (pre_of q0)
          rw [← HL.out, Y.size_data, List.length_append] at h1
          simp only [List.length_cons, List.length_nil] at h1
          omega
        have p0 : Lib.hasPrefix t.data.toList (⟨#[38, 97, 109, 112, 59]⟩ : ByteArray).data.toList = true := by rw [HL.out]; exact q0
        have hI1 := hI.alloc (.cells #[.int .u8 38, .string ⟨#[38, 97, 109, 112, 59]⟩] 63)
        have hb1 := hbw.alloc hbw.size (.cells #[.int .u8 38, .string ⟨#[38, 97, 109, 112, 59]⟩] 63)
        have hG : (wr.alloc (.cells #[.int .u8 38, .string ⟨#[38, 97, 109, 112, 59]⟩] 63)).heap[wr.heap.size]? = some (.cells #[.int .u8 38, .string ⟨#[38, 97, 109, 112, 59]⟩] 63 (0, 0)) := by have := blk_new wr (.cells #[.int .u8 38, .string ⟨#[38, 97, 109, 112, 59]⟩] 63); simpa using this
        have hG := Lib.hid hG
        have hne : wr.heap.size ≠ w.heap.size := by rcases hI with x | x <;> exact (fun e => absurd x.lt (by omega))
        have hne := Lib.hid hne
        have hl1 : (Lib.byteCells out).length + 1 ≤ 140737488355328 := by rw [Lib.byteCells_length]; omega
        have hd : Hid ((t.extract 5 t.size).data.toList = t.data.toList.drop 5) := cut_from t 5
        have hq := Lib.hid q0
        have hd2 : (t.extract 5 t.size).size = t.size - 5 := by rw [ByteArray.size_extract]; omega
        have HD2 := Lib.hid hd2
        clear hd2 q0
        go_wp2
        refine wp_loop_rounds 6 ?_
        rw [rounds_succ]
        go_wp2_with (first | (go_at_call 39; ((with_reducible refine (Tryd.strings_HasPrefix t ⟨#[38, 97, 109, 112, 59]⟩ _).mono ?_); rintro e w' ⟨rfl, rfl⟩; rw [p0])) | (go_at_call 36; ((with_reducible refine (Tryd.Builder_WriteByte_k w.heap.size w.heap.size (Lib.byteCells out) _ _ hI1 hl1 hb1.size).mono ?_); rintro e W1 ⟨rfl, h1, b1, k1⟩; have hx := (blk_cell (box_kept63 hG.out hne.out k1) 1).trans rfl)))
        go_roundg (t.size - 5)
        case measure => omega
        case rel =>
          refine ⟨t.extract 5 t.size, out ++ [38], HD2.out, by first | rfl | simp, ?_, ?_, hb1.trans b1⟩
          · show Y.peL (out ++ [38]) ++ (t.extract 5 t.size).data.toList = _
            have h3 := pre_of hq.out
            rw [← HL.out] at h3
            rw [Y.peL_snoc, hd.out, List.append_assoc, show Y.pe 38 = [38, 97, 109, 112, 59] from rfl, ← hsum.out]
            congr 1
          · rw [Lib.byteCells_append]
            exact Or.inr h1
      by_cases q1 : ([38, 108, 116, 59] : List UInt8).isPrefixOf (c :: r) = true
      · have hz2 : 4 ≤ t.size := by
          have h1 := congrArg List.length (pre_of q1)
          rw [← HL.out, Y.size_data, List.length_append] at h1
          simp only [List.length_cons, List.length_nil] at h1
          omega
        have p0 : Lib.hasPrefix t.data.toList (⟨#[38, 97, 109, 112, 59]⟩ : ByteArray).data.toList = false := by rw [HL.out]; exact Bool.eq_false_iff.2 q0
        have p1 : Lib.hasPrefix t.data.toList (⟨#[38, 108, 116, 59]⟩ : ByteArray).data.toList = true := by rw [HL.out]; exact q1
        have hI1 := hI.alloc (.cells #[.int .u8 38, .string ⟨#[38, 97, 109, 112, 59]⟩] 63)
        have hb1 := hbw.alloc hbw.size (.cells #[.int .u8 38, .string ⟨#[38, 97, 109, 112, 59]⟩] 63)
        have hI2 := hI1.alloc (.cells #[.int .u8 60, .string ⟨#[38, 108, 116, 59]⟩] 63)
        have hb2 := hb1.alloc hb1.size (.cells #[.int .u8 60, .string ⟨#[38, 108, 116, 59]⟩] 63)
        have hG : ((wr.alloc (.cells #[.int .u8 38, .string ⟨#[38, 97, 109, 112, 59]⟩] 63)).alloc (.cells #[.int .u8 60, .string ⟨#[38, 108, 116, 59]⟩] 63)).heap[wr.heap.size + 1]? = some (.cells #[.int .u8 60, .string ⟨#[38, 108, 116, 59]⟩] 63 (0, 0)) := by have := blk_new (wr.alloc (.cells #[.int .u8 38, .string ⟨#[38, 97, 109, 112, 59]⟩] 63)) (.cells #[.int .u8 60, .string ⟨#[38, 108, 116, 59]⟩] 63); simpa using this
        have hG := Lib.hid hG
        have hne : wr.heap.size + 1 ≠ w.heap.size := by rcases hI with x | x <;> exact (fun e => absurd x.lt (by omega))
        have hne := Lib.hid hne
        have hl1 : (Lib.byteCells out).length + 1 ≤ 140737488355328 := by rw [Lib.byteCells_length]; omega
        have hd : Hid ((t.extract 4 t.size).data.toList = t.data.toList.drop 4) := cut_from t 4
        have hq := Lib.hid q1
        have hd2 : (t.extract 4 t.size).size = t.size - 4 := by rw [ByteArray.size_extract]; omega
        have HD2 := Lib.hid hd2
        clear hd2 q0 q1
        go_wp2
        refine wp_loop_rounds 6 ?_
        rw [rounds_succ]
        go_wp2_with (go_at_call 39; ((with_reducible refine (Tryd.strings_HasPrefix t ⟨#[38, 97, 109, 112, 59]⟩ _).mono ?_); rintro e w' ⟨rfl, rfl⟩; rw [p0]))
        rw [rounds_succ]
        go_wp2_with (first | (go_at_call 39; ((with_reducible refine (Tryd.strings_HasPrefix t ⟨#[38, 108, 116, 59]⟩ _).mono ?_); rintro e w' ⟨rfl, rfl⟩; rw [p1])) | (go_at_call 36; ((with_reducible refine (Tryd.Builder_WriteByte_k w.heap.size w.heap.size (Lib.byteCells out) _ _ hI2 hl1 hb2.size).mono ?_); rintro e W1 ⟨rfl, h1, b1, k1⟩; have hx := (blk_cell (box_kept63 hG.out hne.out k1) 1).trans rfl)))
        go_roundg (t.size - 4)
        case measure => omega
        case rel =>
          refine ⟨t.extract 4 t.size, out ++ [60], HD2.out, by first | rfl | simp, ?_, ?_, hb2.trans b1⟩
          · show Y.peL (out ++ [60]) ++ (t.extract 4 t.size).data.toList = _
            have h3 := pre_of hq.out
            rw [← HL.out] at h3
            rw [Y.peL_snoc, hd.out, List.append_assoc, show Y.pe 60 = [38, 108, 116, 59] from rfl, ← hsum.out]
            congr 1
          · rw [Lib.byteCells_append]
            exact Or.inr h1
      by_cases q2 : ([38, 103, 116, 59] : List UInt8).isPrefixOf (c :: r) = true
      · have hz2 : 4 ≤ t.size := by
          have h1 := congrArg List.length (pre_of q2)
          rw [← HL.out, Y.size_data, List.length_append] at h1
          simp only [List.length_cons, List.length_nil] at h1
          omega
        have p0 : Lib.hasPrefix t.data.toList (⟨#[38, 97, 109, 112, 59]⟩ : ByteArray).data.toList = false := by rw [HL.out]; exact Bool.eq_false_iff.2 q0
        have p1 : Lib.hasPrefix t.data.toList (⟨#[38, 108, 116, 59]⟩ : ByteArray).data.toList = false := by rw [HL.out]; exact Bool.eq_false_iff.2 q1
        have p2 : Lib.hasPrefix t.data.toList (⟨#[38, 103, 116, 59]⟩ : ByteArray).data.toList = true := by rw [HL.out]; exact q2
        have hI1 := hI.alloc (.cells #[.int .u8 38, .string ⟨#[38, 97, 109, 112, 59]⟩] 63)
        have hb1 := hbw.alloc hbw.size (.cells #[.int .u8 38, .string ⟨#[38, 97, 109, 112, 59]⟩] 63)
        have hI2 := hI1.alloc (.cells #[.int .u8 60, .string ⟨#[38, 108, 116, 59]⟩] 63)
        have hb2 := hb1.alloc hb1.size (.cells #[.int .u8 60, .string ⟨#[38, 108, 116, 59]⟩] 63)
        have hI3 := hI2.alloc (.cells #[.int .u8 62, .string ⟨#[38, 103, 116, 59]⟩] 63)
        have hb3 := hb2.alloc hb2.size (.cells #[.int .u8 62, .string ⟨#[38, 103, 116, 59]⟩] 63)
        have hG : (((wr.alloc (.cells #[.int .u8 38, .string ⟨#[38, 97, 109, 112, 59]⟩] 63)).alloc (.cells #[.int .u8 60, .string ⟨#[38, 108, 116, 59]⟩] 63)).alloc (.cells #[.int .u8 62, .string ⟨#[38, 103, 116, 59]⟩] 63)).heap[wr.heap.size + 1 + 1]? = some (.cells #[.int .u8 62, .string ⟨#[38, 103, 116, 59]⟩] 63 (0, 0)) := by have := blk_new ((wr.alloc (.cells #[.int .u8 38, .string ⟨#[38, 97, 109, 112, 59]⟩] 63)).alloc (.cells #[.int .u8 60, .string ⟨#[38, 108, 116, 59]⟩] 63)) (.cells #[.int .u8 62, .string ⟨#[38, 103, 116, 59]⟩] 63); simpa using this
        have hG := Lib.hid hG
        have hne : wr.heap.size + 1 + 1 ≠ w.heap.size := by rcases hI with x | x <;> exact (fun e => absurd x.lt (by omega))
        have hne := Lib.hid hne
        have hl1 : (Lib.byteCells out).length + 1 ≤ 140737488355328 := by rw [Lib.byteCells_length]; omega
        have hd : Hid ((t.extract 4 t.size).data.toList = t.data.toList.drop 4) := cut_from t 4
        have hq := Lib.hid q2
        have hd2 : (t.extract 4 t.size).size = t.size - 4 := by rw [ByteArray.size_extract]; omega
        have HD2 := Lib.hid hd2
        clear hd2 q0 q1 q2
        go_wp2
        refine wp_loop_rounds 6 ?_
        rw [rounds_succ]
        go_wp2_with (go_at_call 39; ((with_reducible refine (Tryd.strings_HasPrefix t ⟨#[38, 97, 109, 112, 59]⟩ _).mono ?_); rintro e w' ⟨rfl, rfl⟩; rw [p0]))
        rw [rounds_succ]
        go_wp2_with (go_at_call 39; ((with_reducible refine (Tryd.strings_HasPrefix t ⟨#[38, 108, 116, 59]⟩ _).mono ?_); rintro e w' ⟨rfl, rfl⟩; rw [p1]))
        rw [rounds_succ]
        go_wp2_with (first | (go_at_call 39; ((with_reducible refine (Tryd.strings_HasPrefix t ⟨#[38, 103, 116, 59]⟩ _).mono ?_); rintro e w' ⟨rfl, rfl⟩; rw [p2])) | (go_at_call 36; ((with_reducible refine (Tryd.Builder_WriteByte_k w.heap.size w.heap.size (Lib.byteCells out) _ _ hI3 hl1 hb3.size).mono ?_); rintro e W1 ⟨rfl, h1, b1, k1⟩; have hx := (blk_cell (box_kept63 hG.out hne.out k1) 1).trans rfl)))
        go_roundg (t.size - 4)
        case measure => omega
        case rel =>
          refine ⟨t.extract 4 t.size, out ++ [62], HD2.out, by first | rfl | simp, ?_, ?_, hb3.trans b1⟩
          · show Y.peL (out ++ [62]) ++ (t.extract 4 t.size).data.toList = _
            have h3 := pre_of hq.out
            rw [← HL.out] at h3
            rw [Y.peL_snoc, hd.out, List.append_assoc, show Y.pe 62 = [38, 103, 116, 59] from rfl, ← hsum.out]
            congr 1
          · rw [Lib.byteCells_append]
            exact Or.inr h1
      by_cases q3 : ([38, 113, 117, 111, 116, 59] : List UInt8).isPrefixOf (c :: r) = true
      · have hz2 : 6 ≤ t.size := by
          have h1 := congrArg List.length (pre_of q3)
          rw [← HL.out, Y.size_data, List.length_append] at h1
          simp only [List.length_cons, List.length_nil] at h1
          omega
        have p0 : Lib.hasPrefix t.data.toList (⟨#[38, 97, 109, 112, 59]⟩ : ByteArray).data.toList = false := by rw [HL.out]; exact Bool.eq_false_iff.2 q0
        have p1 : Lib.hasPrefix t.data.toList (⟨#[38, 108, 116, 59]⟩ : ByteArray).data.toList = false := by rw [HL.out]; exact Bool.eq_false_iff.2 q1
        have p2 : Lib.hasPrefix t.data.toList (⟨#[38, 103, 116, 59]⟩ : ByteArray).data.toList = false := by rw [HL.out]; exact Bool.eq_false_iff.2 q2
        have p3 : Lib.hasPrefix t.data.toList (⟨#[38, 113, 117, 111, 116, 59]⟩ : ByteArray).data.toList = true := by rw [HL.out]; exact q3
        have hI1 := hI.alloc (.cells #[.int .u8 38, .string ⟨#[38, 97, 109, 112, 59]⟩] 63)
        have hb1 := hbw.alloc hbw.size (.cells #[.int .u8 38, .string ⟨#[38, 97, 109, 112, 59]⟩] 63)
        have hI2 := hI1.alloc (.cells #[.int .u8 60, .string ⟨#[38, 108, 116, 59]⟩] 63)
        have hb2 := hb1.alloc hb1.size (.cells #[.int .u8 60, .string ⟨#[38, 108, 116, 59]⟩] 63)
        have hI3 := hI2.alloc (.cells #[.int .u8 62, .string ⟨#[38, 103, 116, 59]⟩] 63)
        have hb3 := hb2.alloc hb2.size (.cells #[.int .u8 62, .string ⟨#[38, 103, 116, 59]⟩] 63)
        have hI4 := hI3.alloc (.cells #[.int .u8 34, .string ⟨#[38, 113, 117, 111, 116, 59]⟩] 63)
        have hb4 := hb3.alloc hb3.size (.cells #[.int .u8 34, .string ⟨#[38, 113, 117, 111, 116, 59]⟩] 63)
        have hG : ((((wr.alloc (.cells #[.int .u8 38, .string ⟨#[38, 97, 109, 112, 59]⟩] 63)).alloc (.cells #[.int .u8 60, .string ⟨#[38, 108, 116, 59]⟩] 63)).alloc (.cells #[.int .u8 62, .string ⟨#[38, 103, 116, 59]⟩] 63)).alloc (.cells #[.int .u8 34, .string ⟨#[38, 113, 117, 111, 116, 59]⟩] 63)).heap[wr.heap.size + 1 + 1 + 1]? = some (.cells #[.int .u8 34, .string ⟨#[38, 113, 117, 111, 116, 59]⟩] 63 (0, 0)) := by have := blk_new (((wr.alloc (.cells #[.int .u8 38, .string ⟨#[38, 97, 109, 112, 59]⟩] 63)).alloc (.cells #[.int .u8 60, .string ⟨#[38, 108, 116, 59]⟩] 63)).alloc (.cells #[.int .u8 62, .string ⟨#[38, 103, 116, 59]⟩] 63)) (.cells #[.int .u8 34, .string ⟨#[38, 113, 117, 111, 116, 59]⟩] 63); simpa using this
        have hG := Lib.hid hG
        have hne : wr.heap.size + 1 + 1 + 1 ≠ w.heap.size := by rcases hI with x | x <;> exact (fun e => absurd x.lt (by omega))
        have hne := Lib.hid hne
        have hl1 : (Lib.byteCells out).length + 1 ≤ 140737488355328 := by rw [Lib.byteCells_length]; omega
        have hd : Hid ((t.extract 6 t.size).data.toList = t.data.toList.drop 6) := cut_from t 6
        have hq := Lib.hid q3
        have hd2 : (t.extract 6 t.size).size = t.size - 6 := by rw [ByteArray.size_extract]; omega
        have HD2 := Lib.hid hd2
        clear hd2 q0 q1 q2 q3
        go_wp2
        refine wp_loop_rounds 6 ?_
        rw [rounds_succ]
        go_wp2_with (go_at_call 39; ((with_reducible refine (Tryd.strings_HasPrefix t ⟨#[38, 97, 109, 112, 59]⟩ _).mono ?_); rintro e w' ⟨rfl, rfl⟩; rw [p0]))
        rw [rounds_succ]
        go_wp2_with (go_at_call 39; ((with_reducible refine (Tryd.strings_HasPrefix t ⟨#[38, 108, 116, 59]⟩ _).mono ?_); rintro e w' ⟨rfl, rfl⟩; rw [p1]))
        rw [rounds_succ]
        go_wp2_with (go_at_call 39; ((with_reducible refine (Tryd.strings_HasPrefix t ⟨#[38, 103, 116, 59]⟩ _).mono ?_); rintro e w' ⟨rfl, rfl⟩; rw [p2]))
        rw [rounds_succ]
        go_wp2_with (first | (go_at_call 39; ((with_reducible refine (Tryd.strings_HasPrefix t ⟨#[38, 113, 117, 111, 116, 59]⟩ _).mono ?_); rintro e w' ⟨rfl, rfl⟩; rw [p3])) | (go_at_call 36; ((with_reducible refine (Tryd.Builder_WriteByte_k w.heap.size w.heap.size (Lib.byteCells out) _ _ hI4 hl1 hb4.size).mono ?_); rintro e W1 ⟨rfl, h1, b1, k1⟩; have hx := (blk_cell (box_kept63 hG.out hne.out k1) 1).trans rfl)))
        go_roundg (t.size - 6)
        case measure => omega
        case rel =>
          refine ⟨t.extract 6 t.size, out ++ [34], HD2.out, by first | rfl | simp, ?_, ?_, hb4.trans b1⟩
          · show Y.peL (out ++ [34]) ++ (t.extract 6 t.size).data.toList = _
            have h3 := pre_of hq.out
            rw [← HL.out] at h3
            rw [Y.peL_snoc, hd.out, List.append_assoc, show Y.pe 34 = [38, 113, 117, 111, 116, 59] from rfl, ← hsum.out]
            congr 1
          · rw [Lib.byteCells_append]
            exact Or.inr h1
      by_cases q4 : ([38, 35, 51, 57, 59] : List UInt8).isPrefixOf (c :: r) = true
      · have hz2 : 5 ≤ t.size := by
          have h1 := congrArg List.length (pre_of q4)
          rw [← HL.out, Y.size_data, List.length_append] at h1
          simp only [List.length_cons, List.length_nil] at h1
          omega
        have p0 : Lib.hasPrefix t.data.toList (⟨#[38, 97, 109, 112, 59]⟩ : ByteArray).data.toList = false := by rw [HL.out]; exact Bool.eq_false_iff.2 q0
        have p1 : Lib.hasPrefix t.data.toList (⟨#[38, 108, 116, 59]⟩ : ByteArray).data.toList = false := by rw [HL.out]; exact Bool.eq_false_iff.2 q1
        have p2 : Lib.hasPrefix t.data.toList (⟨#[38, 103, 116, 59]⟩ : ByteArray).data.toList = false := by rw [HL.out]; exact Bool.eq_false_iff.2 q2
        have p3 : Lib.hasPrefix t.data.toList (⟨#[38, 113, 117, 111, 116, 59]⟩ : ByteArray).data.toList = false := by rw [HL.out]; exact Bool.eq_false_iff.2 q3
        have p4 : Lib.hasPrefix t.data.toList (⟨#[38, 35, 51, 57, 59]⟩ : ByteArray).data.toList = true := by rw [HL.out]; exact q4
        have hI1 := hI.alloc (.cells #[.int .u8 38, .string ⟨#[38, 97, 109, 112, 59]⟩] 63)
        have hb1 := hbw.alloc hbw.size (.cells #[.int .u8 38, .string ⟨#[38, 97, 109, 112, 59]⟩] 63)
        have hI2 := hI1.alloc (.cells #[.int .u8 60, .string ⟨#[38, 108, 116, 59]⟩] 63)
        have hb2 := hb1.alloc hb1.size (.cells #[.int .u8 60, .string ⟨#[38, 108, 116, 59]⟩] 63)
        have hI3 := hI2.alloc (.cells #[.int .u8 62, .string ⟨#[38, 103, 116, 59]⟩] 63)
        have hb3 := hb2.alloc hb2.size (.cells #[.int .u8 62, .string ⟨#[38, 103, 116, 59]⟩] 63)
        have hI4 := hI3.alloc (.cells #[.int .u8 34, .string ⟨#[38, 113, 117, 111, 116, 59]⟩] 63)
        have hb4 := hb3.alloc hb3.size (.cells #[.int .u8 34, .string ⟨#[38, 113, 117, 111, 116, 59]⟩] 63)
        have hI5 := hI4.alloc (.cells #[.int .u8 39, .string ⟨#[38, 35, 51, 57, 59]⟩] 63)
        have hb5 := hb4.alloc hb4.size (.cells #[.int .u8 39, .string ⟨#[38, 35, 51, 57, 59]⟩] 63)
        have hG : (((((wr.alloc (.cells #[.int .u8 38, .string ⟨#[38, 97, 109, 112, 59]⟩] 63)).alloc (.cells #[.int .u8 60, .string ⟨#[38, 108, 116, 59]⟩] 63)).alloc (.cells #[.int .u8 62, .string ⟨#[38, 103, 116, 59]⟩] 63)).alloc (.cells #[.int .u8 34, .string ⟨#[38, 113, 117, 111, 116, 59]⟩] 63)).alloc (.cells #[.int .u8 39, .string ⟨#[38, 35, 51, 57, 59]⟩] 63)).heap[wr.heap.size + 1 + 1 + 1 + 1]? = some (.cells #[.int .u8 39, .string ⟨#[38, 35, 51, 57, 59]⟩] 63 (0, 0)) := by have := blk_new ((((wr.alloc (.cells #[.int .u8 38, .string ⟨#[38, 97, 109, 112, 59]⟩] 63)).alloc (.cells #[.int .u8 60, .string ⟨#[38, 108, 116, 59]⟩] 63)).alloc (.cells #[.int .u8 62, .string ⟨#[38, 103, 116, 59]⟩] 63)).alloc (.cells #[.int .u8 34, .string ⟨#[38, 113, 117, 111, 116, 59]⟩] 63)) (.cells #[.int .u8 39, .string ⟨#[38, 35, 51, 57, 59]⟩] 63); simpa using this
        have hG := Lib.hid hG
        have hne : wr.heap.size + 1 + 1 + 1 + 1 ≠ w.heap.size := by rcases hI with x | x <;> exact (fun e => absurd x.lt (by omega))
        have hne := Lib.hid hne
        have hl1 : (Lib.byteCells out).length + 1 ≤ 140737488355328 := by rw [Lib.byteCells_length]; omega
        have hd : Hid ((t.extract 5 t.size).data.toList = t.data.toList.drop 5) := cut_from t 5
        have hq := Lib.hid q4
        have hd2 : (t.extract 5 t.size).size = t.size - 5 := by rw [ByteArray.size_extract]; omega
        have HD2 := Lib.hid hd2
        clear hd2 q0 q1 q2 q3 q4
        go_wp2
        refine wp_loop_rounds 6 ?_
        rw [rounds_succ]
        go_wp2_with (go_at_call 39; ((with_reducible refine (Tryd.strings_HasPrefix t ⟨#[38, 97, 109, 112, 59]⟩ _).mono ?_); rintro e w' ⟨rfl, rfl⟩; rw [p0]))
        rw [rounds_succ]
        go_wp2_with (go_at_call 39; ((with_reducible refine (Tryd.strings_HasPrefix t ⟨#[38, 108, 116, 59]⟩ _).mono ?_); rintro e w' ⟨rfl, rfl⟩; rw [p1]))
        rw [rounds_succ]
        go_wp2_with (go_at_call 39; ((with_reducible refine (Tryd.strings_HasPrefix t ⟨#[38, 103, 116, 59]⟩ _).mono ?_); rintro e w' ⟨rfl, rfl⟩; rw [p2]))
        rw [rounds_succ]
        go_wp2_with (go_at_call 39; ((with_reducible refine (Tryd.strings_HasPrefix t ⟨#[38, 113, 117, 111, 116, 59]⟩ _).mono ?_); rintro e w' ⟨rfl, rfl⟩; rw [p3]))
        rw [rounds_succ]
        go_wp2_with (first | (go_at_call 39; ((with_reducible refine (Tryd.strings_HasPrefix t ⟨#[38, 35, 51, 57, 59]⟩ _).mono ?_); rintro e w' ⟨rfl, rfl⟩; rw [p4])) | (go_at_call 36; ((with_reducible refine (Tryd.Builder_WriteByte_k w.heap.size w.heap.size (Lib.byteCells out) _ _ hI5 hl1 hb5.size).mono ?_); rintro e W1 ⟨rfl, h1, b1, k1⟩; have hx := (blk_cell (box_kept63 hG.out hne.out k1) 1).trans rfl)))
        go_roundg (t.size - 5)
        case measure => omega
        case rel =>
          refine ⟨t.extract 5 t.size, out ++ [39], HD2.out, by first | rfl | simp, ?_, ?_, hb5.trans b1⟩
          · show Y.peL (out ++ [39]) ++ (t.extract 5 t.size).data.toList = _
            have h3 := pre_of hq.out
            rw [← HL.out] at h3
            rw [Y.peL_snoc, hd.out, List.append_assoc, show Y.pe 39 = [38, 35, 51, 57, 59] from rfl, ← hsum.out]
            congr 1
          · rw [Lib.byteCells_append]
            exact Or.inr h1
      have q0_ : ([38, 97, 109, 112, 59] : List UInt8).isPrefixOf (c :: r) = false := Bool.eq_false_iff.2 q0
      have q1_ : ([38, 108, 116, 59] : List UInt8).isPrefixOf (c :: r) = false := Bool.eq_false_iff.2 q1
      have q2_ : ([38, 103, 116, 59] : List UInt8).isPrefixOf (c :: r) = false := Bool.eq_false_iff.2 q2
      have q3_ : ([38, 113, 117, 111, 116, 59] : List UInt8).isPrefixOf (c :: r) = false := Bool.eq_false_iff.2 q3
      have q4_ : ([38, 35, 51, 57, 59] : List UInt8).isPrefixOf (c :: r) = false := Bool.eq_false_iff.2 q4
      have p0 : Lib.hasPrefix t.data.toList (⟨#[38, 97, 109, 112, 59]⟩ : ByteArray).data.toList = false := by rw [HL.out]; exact q0_
      have p1 : Lib.hasPrefix t.data.toList (⟨#[38, 108, 116, 59]⟩ : ByteArray).data.toList = false := by rw [HL.out]; exact q1_
      have p2 : Lib.hasPrefix t.data.toList (⟨#[38, 103, 116, 59]⟩ : ByteArray).data.toList = false := by rw [HL.out]; exact q2_
      have p3 : Lib.hasPrefix t.data.toList (⟨#[38, 113, 117, 111, 116, 59]⟩ : ByteArray).data.toList = false := by rw [HL.out]; exact q3_
      have p4 : Lib.hasPrefix t.data.toList (⟨#[38, 35, 51, 57, 59]⟩ : ByteArray).data.toList = false := by rw [HL.out]; exact q4_
      have hI1 := hI.alloc (.cells #[.int .u8 38, .string ⟨#[38, 97, 109, 112, 59]⟩] 63)
      have hb1 := hbw.alloc hbw.size (.cells #[.int .u8 38, .string ⟨#[38, 97, 109, 112, 59]⟩] 63)
      have hI2 := hI1.alloc (.cells #[.int .u8 60, .string ⟨#[38, 108, 116, 59]⟩] 63)
      have hb2 := hb1.alloc hb1.size (.cells #[.int .u8 60, .string ⟨#[38, 108, 116, 59]⟩] 63)
      have hI3 := hI2.alloc (.cells #[.int .u8 62, .string ⟨#[38, 103, 116, 59]⟩] 63)
      have hb3 := hb2.alloc hb2.size (.cells #[.int .u8 62, .string ⟨#[38, 103, 116, 59]⟩] 63)
      have hI4 := hI3.alloc (.cells #[.int .u8 34, .string ⟨#[38, 113, 117, 111, 116, 59]⟩] 63)
      have hb4 := hb3.alloc hb3.size (.cells #[.int .u8 34, .string ⟨#[38, 113, 117, 111, 116, 59]⟩] 63)
      have hI5 := hI4.alloc (.cells #[.int .u8 39, .string ⟨#[38, 35, 51, 57, 59]⟩] 63)
      have hb5 := hb4.alloc hb4.size (.cells #[.int .u8 39, .string ⟨#[38, 35, 51, 57, 59]⟩] 63)
      by_cases hsp : Y.spec5 c = true
      · have hno : Y.unL a0.data.toList = none := by rw [← hsum.out, HL.out]; exact Y.un_stop hsp q0_ q1_ q2_ q3_ q4_
        have hfin := Lib.hid (unesc_no HF.out hno)
        clear hno q0 q1 q2 q3 q4 q0_ q1_ q2_ q3_ q4_
        have hcs := Lib.hid (Y.spec_cases hsp)
        clear hsp
        by_cases e0 : c = 38
        · have d0 : ((c.toNat : Int) == 38) = true := by rw [e0]; rfl
          clear e0
          go_wp2
          refine wp_loop_rounds 6 ?_
          rw [rounds_succ]
          go_wp2_with (go_at_call 39; ((with_reducible refine (Tryd.strings_HasPrefix t ⟨#[38, 97, 109, 112, 59]⟩ _).mono ?_); rintro e w' ⟨rfl, rfl⟩; rw [p0]))
          rw [rounds_succ]
          go_wp2_with (go_at_call 39; ((with_reducible refine (Tryd.strings_HasPrefix t ⟨#[38, 108, 116, 59]⟩ _).mono ?_); rintro e w' ⟨rfl, rfl⟩; rw [p1]))
          rw [rounds_succ]
          go_wp2_with (go_at_call 39; ((with_reducible refine (Tryd.strings_HasPrefix t ⟨#[38, 103, 116, 59]⟩ _).mono ?_); rintro e w' ⟨rfl, rfl⟩; rw [p2]))
          rw [rounds_succ]
          go_wp2_with (go_at_call 39; ((with_reducible refine (Tryd.strings_HasPrefix t ⟨#[38, 113, 117, 111, 116, 59]⟩ _).mono ?_); rintro e w' ⟨rfl, rfl⟩; rw [p3]))
          rw [rounds_succ]
          go_wp2_with (go_at_call 39; ((with_reducible refine (Tryd.strings_HasPrefix t ⟨#[38, 35, 51, 57, 59]⟩ _).mono ?_); rintro e w' ⟨rfl, rfl⟩; rw [p4]))
          clear g0 g1 g2 g3 g4 g5 g6 g7 g8 g9 ge
          have hT := (hE.below hb5).at_102 hk102
          have g0 := hT 0 _ rfl
          have g1 := hT 1 _ rfl
          have g2 := hT 2 _ rfl
          have g3 := hT 3 _ rfl
          have g4 := hT 4 _ rfl
          have g5 := hT 5 _ rfl
          have g6 := hT 6 _ rfl
          have g7 := hT 7 _ rfl
          have g8 := hT 8 _ rfl
          have g9 := hT 9 _ rfl
          clear hT
          rw [rounds_succ]
          go_wp2
          refine wp_loop_rounds 6 ?_
          rw [rounds_succ]
          go_wp2
          go_quiet (fail)
          have hc0 := pw_below_drewN (hb5.alloc hb5.size (.cells #[.int .u8 38, .string ⟨#[38, 97, 109, 112, 59]⟩] 63)) nq
          go_wp2
          have ge := (hE.below (hb5.alloc hb5.size (.cells #[.int .u8 38, .string ⟨#[38, 97, 109, 112, 59]⟩] 63))).at_2 hk2
          go_quiet (fail)
          go_wp2
          rw [Exit.noGoto_ret]
          obtain ⟨e1, e2⟩ := hfin.out
          subst e1 e2
          go_ret2
          exact ⟨rfl, pw_below_drewN hc0 _⟩
        by_cases e1 : c = 60
        · have d1 : ((c.toNat : Int) == 60) = true := by rw [e1]; rfl
          have d0 : ((c.toNat : Int) == 38) = false := by rw [e1]; rfl
          clear e0 e1
          go_wp2
          refine wp_loop_rounds 6 ?_
          rw [rounds_succ]
          go_wp2_with (go_at_call 39; ((with_reducible refine (Tryd.strings_HasPrefix t ⟨#[38, 97, 109, 112, 59]⟩ _).mono ?_); rintro e w' ⟨rfl, rfl⟩; rw [p0]))
          rw [rounds_succ]
          go_wp2_with (go_at_call 39; ((with_reducible refine (Tryd.strings_HasPrefix t ⟨#[38, 108, 116, 59]⟩ _).mono ?_); rintro e w' ⟨rfl, rfl⟩; rw [p1]))
          rw [rounds_succ]
          go_wp2_with (go_at_call 39; ((with_reducible refine (Tryd.strings_HasPrefix t ⟨#[38, 103, 116, 59]⟩ _).mono ?_); rintro e w' ⟨rfl, rfl⟩; rw [p2]))
          rw [rounds_succ]
          go_wp2_with (go_at_call 39; ((with_reducible refine (Tryd.strings_HasPrefix t ⟨#[38, 113, 117, 111, 116, 59]⟩ _).mono ?_); rintro e w' ⟨rfl, rfl⟩; rw [p3]))
          rw [rounds_succ]
          go_wp2_with (go_at_call 39; ((with_reducible refine (Tryd.strings_HasPrefix t ⟨#[38, 35, 51, 57, 59]⟩ _).mono ?_); rintro e w' ⟨rfl, rfl⟩; rw [p4]))
          clear g0 g1 g2 g3 g4 g5 g6 g7 g8 g9 ge
          have hT := (hE.below hb5).at_102 hk102
          have g0 := hT 0 _ rfl
          have g1 := hT 1 _ rfl
          have g2 := hT 2 _ rfl
          have g3 := hT 3 _ rfl
          have g4 := hT 4 _ rfl
          have g5 := hT 5 _ rfl
          have g6 := hT 6 _ rfl
          have g7 := hT 7 _ rfl
          have g8 := hT 8 _ rfl
          have g9 := hT 9 _ rfl
          clear hT
          rw [rounds_succ]
          go_wp2
          refine wp_loop_rounds 6 ?_
          rw [rounds_succ]
          go_wp2
          go_quiet (fail)
          have hc0 := pw_below_drewN (hb5.alloc hb5.size (.cells #[.int .u8 38, .string ⟨#[38, 97, 109, 112, 59]⟩] 63)) nq
          go_wp2
          rw [rounds_succ]
          go_wp2
          go_quiet (fail)
          have hc1 := pw_below_drewN (hc0.alloc hc0.size (.cells #[.int .u8 60, .string ⟨#[38, 108, 116, 59]⟩] 63)) nq
          go_wp2
          have ge := (hE.below (hc0.alloc hc0.size (.cells #[.int .u8 60, .string ⟨#[38, 108, 116, 59]⟩] 63))).at_2 hk2
          go_quiet (fail)
          go_wp2
          rw [Exit.noGoto_ret]
          obtain ⟨e1, e2⟩ := hfin.out
          subst e1 e2
          go_ret2
          exact ⟨rfl, pw_below_drewN hc1 _⟩
        by_cases e2 : c = 62
        · have d2 : ((c.toNat : Int) == 62) = true := by rw [e2]; rfl
          have d0 : ((c.toNat : Int) == 38) = false := by rw [e2]; rfl
          have d1 : ((c.toNat : Int) == 60) = false := by rw [e2]; rfl
          clear e0 e1 e2
          go_wp2
          refine wp_loop_rounds 6 ?_
          rw [rounds_succ]
          go_wp2_with (go_at_call 39; ((with_reducible refine (Tryd.strings_HasPrefix t ⟨#[38, 97, 109, 112, 59]⟩ _).mono ?_); rintro e w' ⟨rfl, rfl⟩; rw [p0]))
          rw [rounds_succ]
          go_wp2_with (go_at_call 39; ((with_reducible refine (Tryd.strings_HasPrefix t ⟨#[38, 108, 116, 59]⟩ _).mono ?_); rintro e w' ⟨rfl, rfl⟩; rw [p1]))
          rw [rounds_succ]
          go_wp2_with (go_at_call 39; ((with_reducible refine (Tryd.strings_HasPrefix t ⟨#[38, 103, 116, 59]⟩ _).mono ?_); rintro e w' ⟨rfl, rfl⟩; rw [p2]))
          rw [rounds_succ]
          go_wp2_with (go_at_call 39; ((with_reducible refine (Tryd.strings_HasPrefix t ⟨#[38, 113, 117, 111, 116, 59]⟩ _).mono ?_); rintro e w' ⟨rfl, rfl⟩; rw [p3]))
          rw [rounds_succ]
          go_wp2_with (go_at_call 39; ((with_reducible refine (Tryd.strings_HasPrefix t ⟨#[38, 35, 51, 57, 59]⟩ _).mono ?_); rintro e w' ⟨rfl, rfl⟩; rw [p4]))
          clear g0 g1 g2 g3 g4 g5 g6 g7 g8 g9 ge
          have hT := (hE.below hb5).at_102 hk102
          have g0 := hT 0 _ rfl
          have g1 := hT 1 _ rfl
          have g2 := hT 2 _ rfl
          have g3 := hT 3 _ rfl
          have g4 := hT 4 _ rfl
          have g5 := hT 5 _ rfl
          have g6 := hT 6 _ rfl
          have g7 := hT 7 _ rfl
          have g8 := hT 8 _ rfl
          have g9 := hT 9 _ rfl
          clear hT
          rw [rounds_succ]
          go_wp2
          refine wp_loop_rounds 6 ?_
          rw [rounds_succ]
          go_wp2
          go_quiet (fail)
          have hc0 := pw_below_drewN (hb5.alloc hb5.size (.cells #[.int .u8 38, .string ⟨#[38, 97, 109, 112, 59]⟩] 63)) nq
          go_wp2
          rw [rounds_succ]
          go_wp2
          go_quiet (fail)
          have hc1 := pw_below_drewN (hc0.alloc hc0.size (.cells #[.int .u8 60, .string ⟨#[38, 108, 116, 59]⟩] 63)) nq
          go_wp2
          rw [rounds_succ]
          go_wp2
          go_quiet (fail)
          have hc2 := pw_below_drewN (hc1.alloc hc1.size (.cells #[.int .u8 62, .string ⟨#[38, 103, 116, 59]⟩] 63)) nq
          go_wp2
          have ge := (hE.below (hc1.alloc hc1.size (.cells #[.int .u8 62, .string ⟨#[38, 103, 116, 59]⟩] 63))).at_2 hk2
          go_quiet (fail)
          go_wp2
          rw [Exit.noGoto_ret]
          obtain ⟨e1, e2⟩ := hfin.out
          subst e1 e2
          go_ret2
          exact ⟨rfl, pw_below_drewN hc2 _⟩
        by_cases e3 : c = 34
        · have d3 : ((c.toNat : Int) == 34) = true := by rw [e3]; rfl
          have d0 : ((c.toNat : Int) == 38) = false := by rw [e3]; rfl
          have d1 : ((c.toNat : Int) == 60) = false := by rw [e3]; rfl
          have d2 : ((c.toNat : Int) == 62) = false := by rw [e3]; rfl
          clear e0 e1 e2 e3
          go_wp2
          refine wp_loop_rounds 6 ?_
          rw [rounds_succ]
          go_wp2_with (go_at_call 39; ((with_reducible refine (Tryd.strings_HasPrefix t ⟨#[38, 97, 109, 112, 59]⟩ _).mono ?_); rintro e w' ⟨rfl, rfl⟩; rw [p0]))
          rw [rounds_succ]
          go_wp2_with (go_at_call 39; ((with_reducible refine (Tryd.strings_HasPrefix t ⟨#[38, 108, 116, 59]⟩ _).mono ?_); rintro e w' ⟨rfl, rfl⟩; rw [p1]))
          rw [rounds_succ]
          go_wp2_with (go_at_call 39; ((with_reducible refine (Tryd.strings_HasPrefix t ⟨#[38, 103, 116, 59]⟩ _).mono ?_); rintro e w' ⟨rfl, rfl⟩; rw [p2]))
          rw [rounds_succ]
          go_wp2_with (go_at_call 39; ((with_reducible refine (Tryd.strings_HasPrefix t ⟨#[38, 113, 117, 111, 116, 59]⟩ _).mono ?_); rintro e w' ⟨rfl, rfl⟩; rw [p3]))
          rw [rounds_succ]
          go_wp2_with (go_at_call 39; ((with_reducible refine (Tryd.strings_HasPrefix t ⟨#[38, 35, 51, 57, 59]⟩ _).mono ?_); rintro e w' ⟨rfl, rfl⟩; rw [p4]))
          clear g0 g1 g2 g3 g4 g5 g6 g7 g8 g9 ge
          have hT := (hE.below hb5).at_102 hk102
          have g0 := hT 0 _ rfl
          have g1 := hT 1 _ rfl
          have g2 := hT 2 _ rfl
          have g3 := hT 3 _ rfl
          have g4 := hT 4 _ rfl
          have g5 := hT 5 _ rfl
          have g6 := hT 6 _ rfl
          have g7 := hT 7 _ rfl
          have g8 := hT 8 _ rfl
          have g9 := hT 9 _ rfl
          clear hT
          rw [rounds_succ]
          go_wp2
          refine wp_loop_rounds 6 ?_
          rw [rounds_succ]
          go_wp2
          go_quiet (fail)
          have hc0 := pw_below_drewN (hb5.alloc hb5.size (.cells #[.int .u8 38, .string ⟨#[38, 97, 109, 112, 59]⟩] 63)) nq
          go_wp2
          rw [rounds_succ]
          go_wp2
          go_quiet (fail)
          have hc1 := pw_below_drewN (hc0.alloc hc0.size (.cells #[.int .u8 60, .string ⟨#[38, 108, 116, 59]⟩] 63)) nq
          go_wp2
          rw [rounds_succ]
          go_wp2
          go_quiet (fail)
          have hc2 := pw_below_drewN (hc1.alloc hc1.size (.cells #[.int .u8 62, .string ⟨#[38, 103, 116, 59]⟩] 63)) nq
          go_wp2
          rw [rounds_succ]
          go_wp2
          go_quiet (fail)
          have hc3 := pw_below_drewN (hc2.alloc hc2.size (.cells #[.int .u8 34, .string ⟨#[38, 113, 117, 111, 116, 59]⟩] 63)) nq
          go_wp2
          have ge := (hE.below (hc2.alloc hc2.size (.cells #[.int .u8 34, .string ⟨#[38, 113, 117, 111, 116, 59]⟩] 63))).at_2 hk2
          go_quiet (fail)
          go_wp2
          rw [Exit.noGoto_ret]
          obtain ⟨e1, e2⟩ := hfin.out
          subst e1 e2
          go_ret2
          exact ⟨rfl, pw_below_drewN hc3 _⟩
        by_cases e4 : c = 39
        · have d4 : ((c.toNat : Int) == 39) = true := by rw [e4]; rfl
          have d0 : ((c.toNat : Int) == 38) = false := by rw [e4]; rfl
          have d1 : ((c.toNat : Int) == 60) = false := by rw [e4]; rfl
          have d2 : ((c.toNat : Int) == 62) = false := by rw [e4]; rfl
          have d3 : ((c.toNat : Int) == 34) = false := by rw [e4]; rfl
          clear e0 e1 e2 e3 e4
          go_wp2
          refine wp_loop_rounds 6 ?_
          rw [rounds_succ]
          go_wp2_with (go_at_call 39; ((with_reducible refine (Tryd.strings_HasPrefix t ⟨#[38, 97, 109, 112, 59]⟩ _).mono ?_); rintro e w' ⟨rfl, rfl⟩; rw [p0]))
          rw [rounds_succ]
          go_wp2_with (go_at_call 39; ((with_reducible refine (Tryd.strings_HasPrefix t ⟨#[38, 108, 116, 59]⟩ _).mono ?_); rintro e w' ⟨rfl, rfl⟩; rw [p1]))
          rw [rounds_succ]
          go_wp2_with (go_at_call 39; ((with_reducible refine (Tryd.strings_HasPrefix t ⟨#[38, 103, 116, 59]⟩ _).mono ?_); rintro e w' ⟨rfl, rfl⟩; rw [p2]))
          rw [rounds_succ]
          go_wp2_with (go_at_call 39; ((with_reducible refine (Tryd.strings_HasPrefix t ⟨#[38, 113, 117, 111, 116, 59]⟩ _).mono ?_); rintro e w' ⟨rfl, rfl⟩; rw [p3]))
          rw [rounds_succ]
          go_wp2_with (go_at_call 39; ((with_reducible refine (Tryd.strings_HasPrefix t ⟨#[38, 35, 51, 57, 59]⟩ _).mono ?_); rintro e w' ⟨rfl, rfl⟩; rw [p4]))
          clear g0 g1 g2 g3 g4 g5 g6 g7 g8 g9 ge
          have hT := (hE.below hb5).at_102 hk102
          have g0 := hT 0 _ rfl
          have g1 := hT 1 _ rfl
          have g2 := hT 2 _ rfl
          have g3 := hT 3 _ rfl
          have g4 := hT 4 _ rfl
          have g5 := hT 5 _ rfl
          have g6 := hT 6 _ rfl
          have g7 := hT 7 _ rfl
          have g8 := hT 8 _ rfl
          have g9 := hT 9 _ rfl
          clear hT
          rw [rounds_succ]
          go_wp2
          refine wp_loop_rounds 6 ?_
          rw [rounds_succ]
          go_wp2
          go_quiet (fail)
          have hc0 := pw_below_drewN (hb5.alloc hb5.size (.cells #[.int .u8 38, .string ⟨#[38, 97, 109, 112, 59]⟩] 63)) nq
          go_wp2
          rw [rounds_succ]
          go_wp2
          go_quiet (fail)
          have hc1 := pw_below_drewN (hc0.alloc hc0.size (.cells #[.int .u8 60, .string ⟨#[38, 108, 116, 59]⟩] 63)) nq
          go_wp2
          rw [rounds_succ]
          go_wp2
          go_quiet (fail)
          have hc2 := pw_below_drewN (hc1.alloc hc1.size (.cells #[.int .u8 62, .string ⟨#[38, 103, 116, 59]⟩] 63)) nq
          go_wp2
          rw [rounds_succ]
          go_wp2
          go_quiet (fail)
          have hc3 := pw_below_drewN (hc2.alloc hc2.size (.cells #[.int .u8 34, .string ⟨#[38, 113, 117, 111, 116, 59]⟩] 63)) nq
          go_wp2
          rw [rounds_succ]
          go_wp2
          go_quiet (fail)
          have hc4 := pw_below_drewN (hc3.alloc hc3.size (.cells #[.int .u8 39, .string ⟨#[38, 35, 51, 57, 59]⟩] 63)) nq
          go_wp2
          have ge := (hE.below (hc3.alloc hc3.size (.cells #[.int .u8 39, .string ⟨#[38, 35, 51, 57, 59]⟩] 63))).at_2 hk2
          go_quiet (fail)
          go_wp2
          rw [Exit.noGoto_ret]
          obtain ⟨e1, e2⟩ := hfin.out
          subst e1 e2
          go_ret2
          exact ⟨rfl, pw_below_drewN hc4 _⟩
        · exact absurd hcs.out (by simp only [e0, e1, e2, e3, e4, or_self, not_false_eq_true])
      · have hsp' : Y.spec5 c = false := by simpa using hsp
        have hpe : Hid (Y.pe c = [c]) := Y.pe_plain hsp'
        unfold Y.spec5 at hsp'
        simp only [Bool.or_eq_false_iff, beq_eq_false_iff_ne] at hsp'
        obtain ⟨⟨⟨⟨e0, e1⟩, e2⟩, e3⟩, e4⟩ := hsp'
        have d0 : ((c.toNat : Int) == 38) = false := beq_eq_false_iff_ne.2 (fun h => e0 (UInt8.toNat_inj.1 (by rw [show (38 : UInt8).toNat = 38 from rfl]; omega)))
        have d1 : ((c.toNat : Int) == 60) = false := beq_eq_false_iff_ne.2 (fun h => e1 (UInt8.toNat_inj.1 (by rw [show (60 : UInt8).toNat = 60 from rfl]; omega)))
        have d2 : ((c.toNat : Int) == 62) = false := beq_eq_false_iff_ne.2 (fun h => e2 (UInt8.toNat_inj.1 (by rw [show (62 : UInt8).toNat = 62 from rfl]; omega)))
        have d3 : ((c.toNat : Int) == 34) = false := beq_eq_false_iff_ne.2 (fun h => e3 (UInt8.toNat_inj.1 (by rw [show (34 : UInt8).toNat = 34 from rfl]; omega)))
        have d4 : ((c.toNat : Int) == 39) = false := beq_eq_false_iff_ne.2 (fun h => e4 (UInt8.toNat_inj.1 (by rw [show (39 : UInt8).toNat = 39 from rfl]; omega)))
        clear e0 e1 e2 e3 e4 hsp q0 q1 q2 q3 q4 q0_ q1_ q2_ q3_ q4_
        have hl1 : (Lib.byteCells out).length + 1 ≤ 140737488355328 := by rw [Lib.byteCells_length]; omega
        have hd : Hid ((t.extract 1 t.size).data.toList = t.data.toList.drop 1) := cut_from t 1
        have hd2 : (t.extract 1 t.size).size = t.size - 1 := by rw [ByteArray.size_extract]; omega
        have HD2 := Lib.hid hd2
        clear hd2
        go_wp2
        refine wp_loop_rounds 6 ?_
        rw [rounds_succ]
        go_wp2_with (go_at_call 39; ((with_reducible refine (Tryd.strings_HasPrefix t ⟨#[38, 97, 109, 112, 59]⟩ _).mono ?_); rintro e w' ⟨rfl, rfl⟩; rw [p0]))
        rw [rounds_succ]
        go_wp2_with (go_at_call 39; ((with_reducible refine (Tryd.strings_HasPrefix t ⟨#[38, 108, 116, 59]⟩ _).mono ?_); rintro e w' ⟨rfl, rfl⟩; rw [p1]))
        rw [rounds_succ]
        go_wp2_with (go_at_call 39; ((with_reducible refine (Tryd.strings_HasPrefix t ⟨#[38, 103, 116, 59]⟩ _).mono ?_); rintro e w' ⟨rfl, rfl⟩; rw [p2]))
        rw [rounds_succ]
        go_wp2_with (go_at_call 39; ((with_reducible refine (Tryd.strings_HasPrefix t ⟨#[38, 113, 117, 111, 116, 59]⟩ _).mono ?_); rintro e w' ⟨rfl, rfl⟩; rw [p3]))
        rw [rounds_succ]
        go_wp2_with (go_at_call 39; ((with_reducible refine (Tryd.strings_HasPrefix t ⟨#[38, 35, 51, 57, 59]⟩ _).mono ?_); rintro e w' ⟨rfl, rfl⟩; rw [p4]))
        clear g0 g1 g2 g3 g4 g5 g6 g7 g8 g9 ge
        have hT := (hE.below hb5).at_102 hk102
        have g0 := hT 0 _ rfl
        have g1 := hT 1 _ rfl
        have g2 := hT 2 _ rfl
        have g3 := hT 3 _ rfl
        have g4 := hT 4 _ rfl
        have g5 := hT 5 _ rfl
        have g6 := hT 6 _ rfl
        have g7 := hT 7 _ rfl
        have g8 := hT 8 _ rfl
        have g9 := hT 9 _ rfl
        clear hT
        rw [rounds_succ]
        go_wp2
        refine wp_loop_rounds 6 ?_
        rw [rounds_succ]
        go_wp2
        go_quiet (fail)
        have hc0 := pw_below_drewN (hb5.alloc hb5.size (.cells #[.int .u8 38, .string ⟨#[38, 97, 109, 112, 59]⟩] 63)) nq
        have hJ0 := bdrew (hI5.alloc (.cells #[.int .u8 38, .string ⟨#[38, 97, 109, 112, 59]⟩] 63)) nq
        go_wp2
        rw [rounds_succ]
        go_wp2
        go_quiet (fail)
        have hc1 := pw_below_drewN (hc0.alloc hc0.size (.cells #[.int .u8 60, .string ⟨#[38, 108, 116, 59]⟩] 63)) nq
        have hJ1 := bdrew (hJ0.alloc (.cells #[.int .u8 60, .string ⟨#[38, 108, 116, 59]⟩] 63)) nq
        go_wp2
        rw [rounds_succ]
        go_wp2
        go_quiet (fail)
        have hc2 := pw_below_drewN (hc1.alloc hc1.size (.cells #[.int .u8 62, .string ⟨#[38, 103, 116, 59]⟩] 63)) nq
        have hJ2 := bdrew (hJ1.alloc (.cells #[.int .u8 62, .string ⟨#[38, 103, 116, 59]⟩] 63)) nq
        go_wp2
        rw [rounds_succ]
        go_wp2
        go_quiet (fail)
        have hc3 := pw_below_drewN (hc2.alloc hc2.size (.cells #[.int .u8 34, .string ⟨#[38, 113, 117, 111, 116, 59]⟩] 63)) nq
        have hJ3 := bdrew (hJ2.alloc (.cells #[.int .u8 34, .string ⟨#[38, 113, 117, 111, 116, 59]⟩] 63)) nq
        go_wp2
        rw [rounds_succ]
        go_wp2
        go_quiet (fail)
        have hc4 := pw_below_drewN (hc3.alloc hc3.size (.cells #[.int .u8 39, .string ⟨#[38, 35, 51, 57, 59]⟩] 63)) nq
        have hJ4 := bdrew (hJ3.alloc (.cells #[.int .u8 39, .string ⟨#[38, 35, 51, 57, 59]⟩] 63)) nq
        go_wp2
        rw [rounds_succ]
        go_wp2_with (go_at_call 36; ((with_reducible refine (Tryd.Builder_WriteByte_k w.heap.size w.heap.size (Lib.byteCells out) _ _ hJ4 hl1 hc4.size).mono ?_); rintro e W1 ⟨rfl, h1, b1, k1⟩))
        go_roundg (t.size - 1)
        case measure => omega
        case rel =>
          refine ⟨t.extract 1 t.size, out ++ [c], HD2.out, by first | rfl | simp, ?_, ?_, hc4.trans b1⟩
          · show Y.peL (out ++ [c]) ++ (t.extract 1 t.size).data.toList = _
            rw [Y.peL_snoc, hd.out, List.append_assoc, hpe.out, ← hsum.out, HL.out]
            rfl
          · rw [Lib.byteCells_append]
            exact Or.inr h1
end Go.Proofs.YtmaedmmcjhmheaaDoor.X
