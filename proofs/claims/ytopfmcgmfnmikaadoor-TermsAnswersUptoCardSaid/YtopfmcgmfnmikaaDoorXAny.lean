/- strings.IndexAny at the two bytes '/' and '?', whatever the text: its contract. Condition: a text of less than 2^32 bytes. -/
import Derived.Test.YtopfmcgmfnmikaaDoorXBase
import Derived.Test.YtopfmcgmfnmikaaDoorXShelf
import Derived.Test.YtopfmcgmfnmikaaDoorYBase
import Derived.WalkKit
import Derived.KernelRfl
import Derived.RowKit3
import Derived.Deep.LoopGhost
import Derived.Deep.QuietTactic
import Derived.BigQuiet
import Derived.Laws.RangeAny
import Derived.Laws.Runes
import Derived.Lib.RuneCount
import Derived.Lib.IndexAny
import Derived.Lib.MapLaws
import Derived.Lib.Hide
import Derived.Lib.OthersKept
set_option linter.unusedVariables false
set_option linter.unusedSimpArgs false
namespace Go.Proofs.YtopfmcgmfnmikaaDoor.X
open Go.RowKit Go.Proofs.YtopfmcgmfnmikaaDoorW.PrintWords Go.Proofs.YtopfmcgmfnmikaaDoorW.PrintLast Go.Proofs.YtopfmcgmfnmikaaDoorW.PrintMore
open Go.Proofs.YtopfmcgmfnmikaaDoor
theorem get!_lt {s : ByteArray} {i : Nat} (h : i < s.size) : s.get! i = s[i] := by
  have := get_at s i h
  simpa using this
/-- what a decoding of a high byte goes past is high bytes, and a rune above them -/
theorem decode_past (s : ByteArray) (pos : Nat) (h : pos < s.size) (ha : 128 ≤ (s[pos]'h).toNat) :
    Utf8.valid ((Utf8.decode s pos).1 : Int) = true ∧ ∀ j, pos ≤ j → j < pos + (Utf8.decode s pos).2 → j < s.size ∧ 128 ≤ (s.get! j).toNat := by
  have h0 : 128 ≤ (s.get! pos).toNat := by rw [get!_lt h]; exact ha
  have e0 : (s.get! pos).toNat < 256 := (s.get! pos).toNat_lt
  have e3 : (s.get! (pos + 3)).toNat < 256 := (s.get! (pos + 3)).toNat_lt
  have vr : ∀ n : Nat, n < 55296 ∨ (57344 ≤ n ∧ n ≤ 1114111) → Utf8.valid (n : Int) = true := fun n hn => by
    simp only [Utf8.valid, Bool.or_eq_true, Bool.and_eq_true, decide_eq_true_eq]
    omega
  rw [Lib.decode_at]
  rcases Lib.decodeN_shape (s.size - pos) (s.get! pos).toNat (s.get! (pos + 1)).toNat (s.get! (pos + 2)).toNat (s.get! (pos + 3)).toNat with ⟨h1, e⟩ | ⟨h1, h2, h3, h4, e⟩ | ⟨h1, h2, h3, h4, h5, h6, e⟩ | ⟨h1, h2, h3, h4, h5, h6, h7, e⟩ | e
  · omega
  · rw [e]
    refine ⟨vr _ (by omega), fun j hj1 hj2 => ?_⟩
    rcases show j = pos ∨ j = pos + 1 by omega with rfl | rfl
    · exact ⟨h, h0⟩
    · exact ⟨by omega, by omega⟩
  · rw [e]
    refine ⟨vr _ (by omega), fun j hj1 hj2 => ?_⟩
    rcases show j = pos ∨ j = pos + 1 ∨ j = pos + 2 by omega with rfl | rfl | rfl
    · exact ⟨h, h0⟩
    · exact ⟨by omega, by omega⟩
    · exact ⟨by omega, by omega⟩
  · rw [e]
    refine ⟨vr _ (by omega), fun j hj1 hj2 => ?_⟩
    rcases show j = pos ∨ j = pos + 1 ∨ j = pos + 2 ∨ j = pos + 3 by omega with rfl | rfl | rfl | rfl
    · exact ⟨h, h0⟩
    · exact ⟨by omega, by omega⟩
    · exact ⟨by omega, by omega⟩
    · exact ⟨by omega, by omega⟩
  · rw [e]
    refine ⟨vr _ (by omega), fun j hj1 hj2 => ?_⟩
    obtain rfl : j = pos := by omega
    exact ⟨h, h0⟩
abbrev sq : ByteArray := ⟨#[47, 63]⟩
set_option maxHeartbeats 8000000 in
set_option maxRecDepth 100000 in
theorem indexRune_high (r : Int) (w : World) (h128 : 128 ≤ r) (hv : Utf8.valid r = true) :
    Calls Tryd.prog 110 #[.string ⟨#[47, 63]⟩, .int .i32 r] w fun e w' => e = .returned (.int .i64 (-1)) ∧ Below w.heap.size w w' := by
  have h0 : decide (0 ≤ r) = true := decide_eq_true (by omega)
  have h1 : decide (r < 128) = false := decide_eq_false (by omega)
  by_cases he : r = 65533
  · subst he
    have n0 : ∀ ty, (Instr.next (.pointer (some ⟨w.heap.size, 0, none⟩)) true ty).run Tryd.prog (w.iter ⟨#[47, 63]⟩ 0) = .ok (.tuple #[.bool true, .int .i64 0, .int .i32 47]) (w.iter ⟨#[47, 63]⟩ 1) := fun ty => run_next_any (P := Tryd.prog) w ⟨#[47, 63]⟩ 0 ty (by decide)
    have n1 : ∀ ty, (Instr.next (.pointer (some ⟨w.heap.size, 0, none⟩)) true ty).run Tryd.prog (w.iter ⟨#[47, 63]⟩ 1) = .ok (.tuple #[.bool true, .int .i64 1, .int .i32 63]) (w.iter ⟨#[47, 63]⟩ 2) := fun ty => run_next_any (P := Tryd.prog) w ⟨#[47, 63]⟩ 1 ty (by decide)
    have n2 := fun ty => run_next_end (P := Tryd.prog) w ⟨#[47, 63]⟩ 2 ty (by decide)
    go_enter Tryd.func110, Tryd.ntmps110
    go_wp2
    refine wp_loop_rounds 4 ?_
    rw [rounds_succ]
    go_wp2
    rw [rounds_succ]
    go_wp2
    rw [rounds_succ]
    go_wp2
    go_ret
    exact ⟨rfl, (Below.refl _ w).alloc (Nat.le_refl _) _⟩
  · have he' : (r == 65533) = false := beq_eq_false_iff_ne.2 he
    have hv2 : Lib.validRune r = true := by
      unfold Lib.validRune
      simp only [Utf8.valid, Bool.or_eq_true, Bool.and_eq_true, decide_eq_true_eq] at hv
      exact decide_eq_true (by omega)
    obtain ⟨g1, g2, g3⟩ := encode_facts r hv h128
    rcases show (Utf8.encode r).size = 2 ∨ (Utf8.encode r).size = 3 ∨ (Utf8.encode r).size = 4 by omega with hsz | hsz | hsz
    · obtain ⟨c1, hc1⟩ : ∃ c1 : UInt8, (Utf8.encode r)[1]'(by omega) = c1 := ⟨_, rfl⟩
      have h1c : 128 ≤ c1.toNat := by
        have h2 := g3 (by omega)
        have e : ∀ (n : Nat) (hn : n < (Utf8.encode r).size), n = 1 → ((Utf8.encode r)[n]'hn) = c1 := fun n hn e => by subst e; exact hc1
        rw [e _ _ (by omega)] at h2
        exact h2
      have hne : ((63 : Int) == (c1.toNat : Int)) = false := beq_eq_false_iff_ne.2 (by omega)
      have hne2 : ((63 : Int) != (c1.toNat : Int)) = true := by simp; omega
      have hne3 : ((((⟨#[47, 63]⟩ : ByteArray)[1]'(by decide)).toNat : Int) != (c1.toNat : Int)) = true := hne2
      clear g1 g2 g3
      go_enter Tryd.func110, Tryd.ntmps110
      go_wp2_with (go_at_call 136; refine (Tryd.utf8_ValidRune _ _).mono ?_; rintro e w' ⟨rfl, rfl⟩; rw [hv2])
      go_step3
      go_wp2
      refine wp_loop_rounds 1 ?_
      rw [rounds_succ]
      go_wp2
      go_step3
      go_wp2
      go_quiet (fail)
      have hb2 : Below w'.heap.size w' (w'.drewN nq) := pw_below_drewN (Below.refl _ _) nq
      generalize w'.drewN nq = W2 at hb2 ⊢
      go_wp2
      go_quiet ((go_at_call 131; exact Calls.quiet_of_same (Tryd.strings_IndexByte _ _ _)))
      go_wp2
      rw [Exit.noGoto_ret]
      go_wp2
      rw [Exit.noGoto_ret]
      go_ret
      exact ⟨rfl, pw_below_drewN hb2 _⟩
    · go_enter Tryd.func110, Tryd.ntmps110
      go_wp2_with (go_at_call 136; refine (Tryd.utf8_ValidRune _ _).mono ?_; rintro e w' ⟨rfl, rfl⟩; rw [hv2])
      go_step3
      go_wp2
      refine wp_loop_rounds 1 ?_
      rw [rounds_succ]
      go_wp2
      rw [Exit.noGoto_ret]
      go_ret
      exact ⟨rfl, Below.refl _ _⟩
    · go_enter Tryd.func110, Tryd.ntmps110
      go_wp2_with (go_at_call 136; refine (Tryd.utf8_ValidRune _ _).mono ?_; rintro e w' ⟨rfl, rfl⟩; rw [hv2])
      go_step3
      go_wp2
      refine wp_loop_rounds 1 ?_
      rw [rounds_succ]
      go_wp2
      rw [Exit.noGoto_ret]
      go_ret
      exact ⟨rfl, Below.refl _ _⟩
theorem contains_sq (x : UInt8) : (⟨#[47, 63]⟩ : ByteArray).data.toList.contains x = (x == 47 || x == 63) := by
  show List.contains [47, 63] x = _
  simp only [List.contains_cons, List.contains_nil, Bool.or_false]
set_option maxHeartbeats 8000000 in
set_option maxRecDepth 100000 in
theorem indexAny_short (s : ByteArray) (w : World) (h8 : s.size ≤ 8) :
    Calls Tryd.prog 88 #[.string s, .string ⟨#[47, 63]⟩] w fun e w' => e = .returned (.int .i64 (Lib.indexAny s.data.toList [47, 63])) ∧ Below w.heap.size w w' := by
  have h8z : decide ((8 : Int) < (s.size : Int)) = false := decide_eq_false (by omega)
  go_enter Tryd.func88, Tryd.ntmps88
  go_wp2_with (go_at_call 111; refine (Tryd.strings_shouldUseASCIISet _ _).mono ?_; rintro e w' ⟨rfl, hw⟩; rw [hw, h8z])
  go_loopg [9, 10] s.size (fun g _ _ wx => ∃ i : Nat, i + g = s.size ∧ Below w.heap.size w wx ∧ wx.heap[w.heap.size]? = some (.stringIter s i) ∧ Hid (Lib.NoAny s.data.toList [47, 63] i))
  case atStart => exact ⟨0, by omega, (Below.refl _ w).alloc (Nat.le_refl _) _, heap_alloc_new w _, Lib.hid (Lib.NoAny.zero _ _)⟩
  case round =>
    obtain ⟨i, hig, hb, hit, hno⟩ := hrel
    have hlt : w.heap.size < wr.heap.size := (Array.getElem?_eq_some_iff.1 hit).1
    by_cases hi : i < s.size
    · obtain ⟨x, hx⟩ : ∃ x : UInt8, s[i]'hi = x := ⟨_, rfl⟩
      have hxl : s.data.toList[i]? = some x := by rw [← hx]; exact Lib.data_getElem? s i hi
      by_cases hlo : x.toNat < 128
      · have hnx := fun ty => Lib.run_next_ascii_at (P := Tryd.prog) wr w.heap.size s i ty hit hi (by rw [hx]; exact hlo)
        rw [hx] at hnx
        have hb2 := Lib.below_iterAt hb (Nat.le_refl _) s (i + 1)
        have hit2 := Lib.iterAt_heap wr w.heap.size s i (i + 1) hit
        replace hit2 := Lib.hid hit2
        have hback : ((x.toNat : Int)).toNat.toUInt8 = x := by simp
        have HX := Lib.hid hxl
        have hcon := Lib.contains_iff_indexByte [47, 63] x
        clear hxl hx hit
        cases hin : List.contains [47, 63] x
        · rw [hin] at hcon
          have hlt : ¬ ((0 : Int) ≤ Lib.indexByte [47, 63] x) := of_decide_eq_false hcon.symm
          have hin' := Lib.hid hin
          clear hcon hin
          go_wp2_with (go_at_call 110; refine (Tryd.strings_IndexRune_ascii _ _ _ (by omega) (by omega)).mono ?_; rintro e w' ⟨rfl, hw⟩; rw [hw, hback])
          go_roundg (s.size - (i + 1))
          case measure => omega
          case rel => exact ⟨i + 1, by omega, hb2, hit2.out, Lib.hid (hno.out.succ HX.out hin'.out)⟩
        · rw [hin] at hcon
          have hge : (0 : Int) ≤ Lib.indexByte [47, 63] x := of_decide_eq_true hcon.symm
          have hin' := Lib.hid hin
          clear hcon hin
          go_wp2_with (go_at_call 110; refine (Tryd.strings_IndexRune_ascii _ _ _ (by omega) (by omega)).mono ?_; rintro e w' ⟨rfl, hw⟩; rw [hw, hback])
          go_ret
          exact ⟨by rw [Lib.indexAny_hit hno.out HX.out hin'.out]; rfl, hb2⟩
      · obtain ⟨hv, hpast⟩ := decode_past s i hi (by rw [hx]; omega)
        have h128 := (decode_high s i hi (by rw [hx]; omega))
        obtain ⟨rn, hrn⟩ : ∃ rn : Nat, (Utf8.decode s i).1 = rn := ⟨_, rfl⟩
        obtain ⟨k, hk⟩ : ∃ k : Nat, (Utf8.decode s i).2 = k := ⟨_, rfl⟩
        have hnx := fun ty => Lib.run_next_any_at (P := Tryd.prog) wr w.heap.size s i ty hit hi
        rw [hrn, hk] at hnx
        rw [hrn] at hv
        rw [hk] at hpast
        rw [hrn, hk] at h128
        obtain ⟨hr128, hk1⟩ := h128
        have hb2 := Lib.below_iterAt hb (Nat.le_refl _) s (i + k)
        have hit2 := Lib.hid (Lib.iterAt_heap wr w.heap.size s i (i + k) hit)
        have hno2 : Hid (Lib.NoAny s.data.toList [47, 63] (i + k)) := fun j b hj hbj => by
          by_cases hji : j < i
          · exact hno.out j b hji hbj
          · obtain ⟨h1, h2⟩ := hpast j (by omega) hj
            have h3 := Lib.data_getElem? s j h1
            rw [h3] at hbj
            have h4 : b = s[j] := (Option.some.inj hbj).symm
            rw [get!_lt h1, ← h4] at h2
            by_cases e : b = 47
            · rw [e] at h2; exact absurd h2 (by decide)
            · by_cases e2 : b = 63
              · rw [e2] at h2; exact absurd h2 (by decide)
              · simp [e, e2]
        have hkle : i + k ≤ s.size := by
          have := (hpast (i + k - 1) (by omega) (by omega)).1
          omega
        clear hxl hx hit hpast hrn hk
        replace hv := Lib.hid hv
        go_wp2_with (go_at_call 110; refine (indexRune_high _ _ (by omega) hv.out).mono ?_; rintro e w2 ⟨rfl, hw⟩)
        go_roundg (s.size - (i + k))
        case measure => omega
        case rel => exact ⟨i + k, by omega, hb2.trans (hw.mono (by rw [Lib.iterAt_size]; omega)), (hw.block _ (by rw [Lib.iterAt_size]; omega)).trans hit2.out, hno2⟩
    · obtain rfl : i = s.size := by
        omega
      have hnx := fun ty => Lib.run_next_end_at (P := Tryd.prog) wr w.heap.size s s.size ty hit (by omega)
      go_wp2
      go_ret
      exact ⟨by rw [Lib.indexAny_none (by rw [← Lib.size_eq]; exact hno.out)]; rfl, hb⟩
end Go.Proofs.YtopfmcgmfnmikaaDoor.X
