/- pct's isUnreserved and Escape, walked by hand (a table of the package; strings.Builder): contracts in the print's form. Conditions: the table's cells (Sent); a text of at most 2^45 bytes. -/
import Derived.Test.YtopfmcgmfnmikaaDoorXBase
import Derived.Test.YtopfmcgmfnmikaaDoorXShelf
import Derived.Test.YtopfmcgmfnmikaaDoorYBase
namespace Go.Proofs.YtopfmcgmfnmikaaDoor.X
open Go.RowKit Go.Proofs.YtopfmcgmfnmikaaDoorW.PrintWords Go.Proofs.YtopfmcgmfnmikaaDoorW.PrintLast Go.Proofs.YtopfmcgmfnmikaaDoorW.PrintMore
open Go.Proofs.YtopfmcgmfnmikaaDoor
variable {EA : Int → Addr} {SS : List Int}
def urow (c : Int) : Int := if c < 32 then 0 else if c < 64 then 67067904 else if c < 96 then 2281701374 else 1207959550
def unres (c : Int) : Bool := decide (c < 128) && (bits BinOp.and IntKind.u32 (urow c / 2 ^ (c % 32).toNat) 1 == 1)
def pct_isUnreserved.f (a0 : Int) : Option Bool := if 0 ≤ a0 then some (unres a0) else none
set_option maxHeartbeats 8000000 in
set_option maxRecDepth 100000 in
theorem pct_isUnreserved.calls (hk101 : (101 : Int) ∈ SS) (a0 : Int) (r : Bool) (w : World) (hE : Sent EA SS w) (h : pct_isUnreserved.f a0 = some r) :
    Calls Tryd.prog 82 #[.int .u8 a0] w fun e w' => e = .returned (.bool r) ∧ Drawn0 w w' := by
  unfold pct_isUnreserved.f at h
  by_cases h0 : 0 ≤ a0
  case neg => rw [if_neg h0] at h; cases h
  rw [if_pos h0] at h
  obtain rfl := Option.some.inj h
  clear h
  by_cases h1 : a0 < 128
  · have hc := hE.at_101 hk101
    have c1 : decide (a0 < 128) = true := decide_eq_true h1
    have hx : w.cell? ⟨14, (a0 / 32).toNat, none⟩ = some (.int .u32 (urow a0)) := by
      unfold urow
      by_cases a : a0 < 32
      · rw [if_pos a, show (a0 / 32).toNat = 0 by omega]; exact hc.1
      · rw [if_neg a]
        by_cases b : a0 < 64
        · rw [if_pos b, show (a0 / 32).toNat = 1 by omega]; exact hc.2.1
        · rw [if_neg b]
          by_cases d : a0 < 96
          · rw [if_pos d, show (a0 / 32).toNat = 2 by omega]; exact hc.2.2.1
          · rw [if_neg d, show (a0 / 32).toNat = 3 by omega]; exact hc.2.2.2
    clear hc
    have e : unres a0 = (bits BinOp.and IntKind.u32 (urow a0 / 2 ^ (a0 % 32).toNat) 1 == 1) := by
      unfold unres
      rw [c1, Bool.true_and]
    rw [e]
    go_enter Tryd.func82, Tryd.ntmps82
    go_wp2
    go_ret
    exact ⟨by first | rfl | (simp; done) | (simp [*]; done), by repeat (first | exact Drawn0.refl _ | apply Drawn0.step)⟩
  · have c1 : decide (a0 < 128) = false := decide_eq_false h1
    have e : unres a0 = false := by
      unfold unres
      rw [c1, Bool.false_and]
    rw [e]
    go_enter Tryd.func82, Tryd.ntmps82
    go_wp2
    go_ret
    exact ⟨by first | rfl | (simp; done) | (simp [*]; done), by repeat (first | exact Drawn0.refl _ | apply Drawn0.step)⟩
def hexS : ByteArray := ⟨#[48, 49, 50, 51, 52, 53, 54, 55, 56, 57, 65, 66, 67, 68, 69, 70]⟩
def hexU (n : Nat) : UInt8 := hexS.data.toList.getD n 0
theorem hexU_at (n : Nat) (h : n < 16) : hexU n = hexS[n]'(show n < hexS.size from h) := by
  unfold hexU
  rw [List.getD_eq_getElem?_getD, List.getElem?_eq_getElem (show n < hexS.data.toList.length from h)]
  rfl
def esc1 (plus : Bool) (c : UInt8) : List UInt8 := if unres c.toNat = true then [c] else if c.toNat = 32 ∧ plus = true then [43] else [37, hexU (c.toNat / 16), hexU (c.toNat % 16)]
def escL (plus : Bool) (l : List UInt8) : List UInt8 := l.flatMap (esc1 plus)
theorem esc1_le (plus : Bool) (c : UInt8) : (esc1 plus c).length ≤ 3 := by
  unfold esc1
  (repeat' split) <;> simp
theorem escL_le (plus : Bool) (l : List UInt8) : (escL plus l).length ≤ 3 * l.length := by
  induction l with
  | nil => simp [escL]
  | cons c r ih =>
    have := esc1_le plus c
    simp only [escL, List.flatMap_cons, List.length_append, List.length_cons] at ih ⊢
    omega
theorem escL_step (plus : Bool) (l : List UInt8) (m : Nat) (h : m < l.length) : escL plus (l.take (m + 1)) = escL plus (l.take m) ++ esc1 plus l[m] := by
  have e : l.take (m + 1) = l.take m ++ [l[m]] := (List.take_append_getElem h).symm
  unfold escL
  rw [e, List.flatMap_append]
  simp
def pct_Escape.f (a0 : ByteArray) (a1 : Bool) : Option ByteArray := if a0.size ≤ 35184372088832 then some ⟨(escL a1 a0.data.toList).toArray⟩ else none
set_option maxHeartbeats 8000000 in
set_option maxRecDepth 100000 in
theorem pct_Escape.calls (hk101 : (101 : Int) ∈ SS) (a0 : ByteArray) (a1 : Bool) (r : ByteArray) (w : World) (hE : Sent EA SS w) (h : pct_Escape.f a0 a1 = some r) :
    Calls Tryd.prog 61 #[.string a0, .bool a1] w fun e w' => e = .returned (.string r) ∧ Below w.heap.size w w' := by
  unfold pct_Escape.f at h
  by_cases hs : a0.size ≤ 35184372088832
  case neg => rw [if_neg hs] at h; cases h
  rw [if_pos hs] at h
  obtain rfl := Option.some.inj h
  clear h
  have hn : a0.data.toList.length = a0.size := Y.size_data a0
  go_enter Tryd.func61, Tryd.ntmps61
  go_wp2
  go_loopw [6] (fun i wr => ∃ m : Nat, m ≤ a0.size ∧ i = .int .i64 m ∧ Lib.IsBuilderF 78 5 w.heap.size w.heap.size (Lib.byteCells (escL a1 (a0.data.toList.take m))) wr ∧ Below w.heap.size w wr) (fun i _ => a0.size - (intOf i).toNat)
  case atStart =>
    exact ⟨0, Nat.zero_le _, rfl, Lib.IsBuilderF.of (Lib.fresh_isBuilder 78 5 w), (Below.refl _ w).alloc (Nat.le_refl _) _⟩
  case round =>
    obtain ⟨m, hm, rfl, hI, hbw⟩ := hrel
    have hEw := hE.below hbw
    have hsz := hbw.size
    have hL := escL_le a1 (a0.data.toList.take m)
    rw [List.length_take, hn] at hL
    by_cases hp : m < a0.size
    · have c1 : decide ((m : Int) < a0.size) = true := decide_eq_true (by omega)
      have hg : m < a0.data.toList.length := by omega
      obtain ⟨c, hc⟩ : ∃ c, a0[m] = c := ⟨_, rfl⟩
      have hc' : a0.data.toList[m] = c := hc
      have hcl := c.toNat_lt
      have hst := escL_step a1 a0.data.toList m hg
      rw [hc'] at hst
      by_cases u : unres c.toNat = true
      · have hu : pct_isUnreserved.f (c.toNat : Int) = some true := by
          unfold pct_isUnreserved.f
          rw [if_pos (Int.natCast_nonneg _), u]
        go_wp2_with (first | (go_at_call 82; (refine (pct_isUnreserved.calls hk101 _ _ _ hEw hu).mono ?_); rintro e w' ⟨rfl, ⟨nd, rfl⟩⟩) | (go_at_call 59; (refine (Tryd.Builder_WriteByte_k w.heap.size w.heap.size _ _ _ (show Lib.IsBuilderF 78 5 w.heap.size w.heap.size (Lib.byteCells (escL a1 (a0.data.toList.take m))) (wr.drewN nd) from hI) (by rw [Lib.byteCells_length]; omega) hsz).mono ?_); rintro e W1 ⟨rfl, h1, b1, k1⟩))
        go_roundw
        case rel =>
          refine ⟨m + 1, by omega, by go_num, ?_, (pw_below_drewN hbw nd).trans b1⟩
          rw [hst, Lib.byteCells_append]
          have e1 : esc1 a1 c = [c] := by unfold esc1; rw [if_pos u]
          rw [e1]
          exact Or.inr h1
        case measure => simp [intOf]; omega
      · have hu : pct_isUnreserved.f (c.toNat : Int) = some false := by
          unfold pct_isUnreserved.f
          rw [if_pos (Int.natCast_nonneg _), Bool.eq_false_iff.2 u]
        by_cases sp : c.toNat = 32 ∧ a1 = true
        · obtain ⟨sp1, rfl⟩ := sp
          have c2 : ((c.toNat : Int) == 32) = true := by rw [sp1]; rfl
          have sp2 := Aside0.mk sp1
          clear sp1
          go_wp2_with (first | (go_at_call 82; (refine (pct_isUnreserved.calls hk101 _ _ _ hEw hu).mono ?_); rintro e w' ⟨rfl, ⟨nd, rfl⟩⟩) | (go_at_call 59; (refine (Tryd.Builder_WriteByte_k w.heap.size w.heap.size _ _ _ (show Lib.IsBuilderF 78 5 w.heap.size w.heap.size (Lib.byteCells (escL true (a0.data.toList.take m))) (wr.drewN nd) from hI) (by rw [Lib.byteCells_length]; omega) hsz).mono ?_); rintro e W1 ⟨rfl, h1, b1, k1⟩))
          go_roundw
          case rel =>
            refine ⟨m + 1, by omega, by go_num, ?_, (pw_below_drewN hbw nd).trans b1⟩
            rw [hst, Lib.byteCells_append]
            have e1 : esc1 true c = [43] := by unfold esc1; rw [if_neg u, if_pos ⟨sp2.out, rfl⟩]
            rw [e1]
            exact Or.inr h1
          case measure => simp [intOf]; omega
        · have e1 : esc1 a1 c = [37, hexU (c.toNat / 16), hexU (c.toNat % 16)] := by unfold esc1; rw [if_neg u, if_neg sp]
          rw [e1] at hst
          by_cases e : c.toNat = 32
          · obtain rfl : a1 = false := Bool.eq_false_iff.2 (fun z => sp ⟨e, z⟩)
            have c2 : ((c.toNat : Int) == 32) = true := by rw [e]; rfl
            clear e1 e sp
            go_wp2_with (first | (go_at_call 82; (refine (pct_isUnreserved.calls hk101 _ _ _ hEw hu).mono ?_); rintro e w' ⟨rfl, ⟨nd, rfl⟩⟩) | (go_at_call 59; (refine (Tryd.Builder_WriteByte_k w.heap.size w.heap.size _ _ _ (show Lib.IsBuilderF 78 5 w.heap.size w.heap.size (Lib.byteCells (escL false (a0.data.toList.take m))) (wr.drewN nd) from hI) (by rw [Lib.byteCells_length]; omega) hsz).mono ?_); rintro e W1 ⟨rfl, h1, b1, k1⟩))
            refine (Tryd.Builder_WriteByte_k w.heap.size w.heap.size _ _ _ (Or.inr h1) (by simp only [List.length_append, List.length_cons, List.length_nil, Lib.byteCells_length]; omega) (Nat.le_trans hsz b1.size)).mono ?_
            rintro e W2 ⟨rfl, h2, b2, k2⟩
            go_wp2_with (go_at_call 59; (refine (Tryd.Builder_WriteByte_k w.heap.size w.heap.size _ _ _ (Or.inr h2) (by simp only [List.length_append, List.length_cons, List.length_nil, Lib.byteCells_length]; omega) (Nat.le_trans (Nat.le_trans hsz b1.size) b2.size)).mono ?_); rintro e W3 ⟨rfl, h3, b3, k3⟩)
            go_roundw
            case rel =>
              refine ⟨m + 1, by omega, by go_num, ?_, (((pw_below_drewN hbw nd).trans b1).trans b2).trans b3⟩
              rw [hst, Lib.byteCells_append]
              rw [List.append_assoc, List.append_assoc] at h3
              have e2 : hexU (c.toNat / 16) = hexS[c.toNat / 16]'(show c.toNat / 16 < 16 by omega) := hexU_at _ (by omega)
              have e3 : hexU (c.toNat % 16) = hexS[c.toNat % 16]'(show c.toNat % 16 < 16 by omega) := hexU_at _ (by omega)
              rw [e2, e3]
              exact Or.inr h3
            case measure => simp [intOf]; omega
          · have c2 : ((c.toNat : Int) == 32) = false := beq_eq_false_iff_ne.2 (by omega)
            go_wp2_with (first | (go_at_call 82; (refine (pct_isUnreserved.calls hk101 _ _ _ hEw hu).mono ?_); rintro e w' ⟨rfl, ⟨nd, rfl⟩⟩) | (go_at_call 59; (refine (Tryd.Builder_WriteByte_k w.heap.size w.heap.size _ _ _ (show Lib.IsBuilderF 78 5 w.heap.size w.heap.size (Lib.byteCells (escL a1 (a0.data.toList.take m))) (wr.drewN nd) from hI) (by rw [Lib.byteCells_length]; omega) hsz).mono ?_); rintro e W1 ⟨rfl, h1, b1, k1⟩))
            refine (Tryd.Builder_WriteByte_k w.heap.size w.heap.size _ _ _ (Or.inr h1) (by simp only [List.length_append, List.length_cons, List.length_nil, Lib.byteCells_length]; omega) (Nat.le_trans hsz b1.size)).mono ?_
            rintro e W2 ⟨rfl, h2, b2, k2⟩
            go_wp2_with (go_at_call 59; (refine (Tryd.Builder_WriteByte_k w.heap.size w.heap.size _ _ _ (Or.inr h2) (by simp only [List.length_append, List.length_cons, List.length_nil, Lib.byteCells_length]; omega) (Nat.le_trans (Nat.le_trans hsz b1.size) b2.size)).mono ?_); rintro e W3 ⟨rfl, h3, b3, k3⟩)
            go_roundw
            case rel =>
              refine ⟨m + 1, by omega, by go_num, ?_, (((pw_below_drewN hbw nd).trans b1).trans b2).trans b3⟩
              rw [hst, Lib.byteCells_append]
              rw [List.append_assoc, List.append_assoc] at h3
              have e2 : hexU (c.toNat / 16) = hexS[c.toNat / 16]'(show c.toNat / 16 < 16 by omega) := hexU_at _ (by omega)
              have e3 : hexU (c.toNat % 16) = hexS[c.toNat % 16]'(show c.toNat % 16 < 16 by omega) := hexU_at _ (by omega)
              rw [e2, e3]
              exact Or.inr h3
            case measure => simp [intOf]; omega
    · have c1 : decide ((m : Int) < a0.size) = false := decide_eq_false (by omega)
      obtain rfl : m = a0.size := by omega
      go_wp2_with (go_at_call 62; refine (Tryd.Builder_String_any_k w.heap.size w.heap.size (escL a1 (a0.data.toList.take a0.size)) _ hI hsz).mono ?_; rintro e W1 ⟨rfl, _, b1, _⟩)
      go_ret
      rw [List.take_of_length_le (by omega)]
      exact ⟨rfl, hbw.trans b1⟩
end Go.Proofs.YtopfmcgmfnmikaaDoor.X
