/- terms' bytesOf walked by hand (a loop with a label): its contract in the print's form. Condition: a text of less than 2^62 bytes. -/
import Derived.Test.YtopfmcgmfnmikaaDoorXTerms
import Derived.Lib.Hide
-- IMPORTS
import Derived.Test.YtopfmcgmfnmikaaDoorXx2
set_option linter.unusedVariables false
set_option linter.unusedSimpArgs false
namespace Go.Proofs.YtopfmcgmfnmikaaDoor.X
open Go.RowKit Go.Proofs.YtopfmcgmfnmikaaDoorW.PrintWords Go.Proofs.YtopfmcgmfnmikaaDoorW.PrintLast Go.Proofs.YtopfmcgmfnmikaaDoorW.PrintMore
open Go.Proofs.YtopfmcgmfnmikaaDoor
def letterB (c : Int) : Bool := decide ((97 ≤ c ∧ c ≤ 122) ∨ (65 ≤ c ∧ c ≤ 90))
def digitB (c : Int) : Bool := decide (48 ≤ c ∧ c ≤ 57)
def hexaB (c : Int) : Bool := decide ((48 ≤ c ∧ c ≤ 57) ∨ (97 ≤ c ∧ c ≤ 102) ∨ (65 ≤ c ∧ c ≤ 70))
theorem letter_is (c : Int) : terms_letter.f c = some (letterB c) := by
  unfold terms_letter.f letterB
  repeat' split
  all_goals
    congr 1
    first
    | (exact (decide_eq_true (by omega)).symm)
    | (exact decide_eq_decide.2 (by omega))
    | (exact (decide_eq_false (by omega)).symm)
theorem digit_is' (c : Int) : terms_digit.f c = some (digitB c) := by
  unfold terms_digit.f digitB
  repeat' split
  all_goals
    congr 1
    first
    | (exact decide_eq_decide.2 (by omega))
    | (exact (decide_eq_false (by omega)).symm)
theorem hexa_is (c : Int) : terms_hexa.f c = some (hexaB c) := by
  unfold terms_hexa.f
  rw [digit_is', Option.bind_some]
  unfold digitB hexaB
  by_cases h : 48 ≤ c ∧ c ≤ 57
  · rw [if_pos (decide_eq_true h)]
    congr 1
    exact (decide_eq_true (by omega)).symm
  · rw [if_neg (by simpa using h)]
    repeat' split
    all_goals
      congr 1
      first
      | (exact (decide_eq_true (by omega)).symm)
      | (exact decide_eq_decide.2 (by omega))
      | (exact (decide_eq_false (by omega)).symm)
abbrev marks : ByteArray := ⟨#[45, 46, 95, 126, 33, 36, 38, 39, 40, 41, 42, 43, 44, 59, 61, 58, 64]⟩
def markB (m : ByteArray) (c : Int) : Bool := decide (0 ≤ Lib.indexByte m.data.toList c.toNat.toUInt8)
def okB (more : ByteArray) (c : Int) : Bool := letterB c || digitB c || markB marks c || markB more c
/-- a text of such bytes, and of percent signs with two digits; the number: how far in a percent sign -/
def bs (more : ByteArray) : Nat → List Int → Bool
  | 0, [] => true
  | _ + 1, [] => false
  | 0, c :: r => if okB more c = true then bs more 0 r else if c = 37 then bs more 1 r else false
  | 1, c :: r => if hexaB c = true then bs more 2 r else false
  | _ + 2, c :: r => if hexaB c = true then bs more 0 r else false
def terms_bytesOf.f (a0 a1 : ByteArray) : Option Bool := if a0.size ≤ 1048576 then some (bs a1 0 (bytesOf a0)) else none
theorem bytes_drop (s : ByteArray) {i : Nat} (h : i < s.size) : (bytesOf s).drop i = ((s[i]'h).toNat : Int) :: (bytesOf s).drop (i + 1) := by
  have := Y.drop_at s (i := (i : Int)) (by omega) (by omega)
  rw [Int.toNat_natCast, ← bt_at s (i : Int) h] at this
  exact this
theorem bytes_end (s : ByteArray) {i : Nat} (h : s.size ≤ i) : (bytesOf s).drop i = [] := List.drop_eq_nil_of_le (by rw [bytesOf_length]; exact h)
theorem bs_ok {m : ByteArray} {c : Int} {r : List Int} (h : okB m c = true) : bs m 0 (c :: r) = bs m 0 r := by simp only [bs, h, if_true]
theorem bs_pct {m : ByteArray} {c : Int} {r : List Int} (h : okB m c = false) (hc : c = 37) : bs m 0 (c :: r) = bs m 1 r := by simp [bs, h, hc ▸ h, hc]
theorem bs_no {m : ByteArray} {c : Int} {r : List Int} (h : okB m c = false) (hc : c ≠ 37) : bs m 0 (c :: r) = false := by simp [bs, h, hc]
theorem bs_one {m : ByteArray} {c : Int} {r : List Int} : bs m 1 (c :: r) = if hexaB c = true then bs m 2 r else false := rfl
theorem bs_two {m : ByteArray} {c : Int} {r : List Int} : bs m 2 (c :: r) = if hexaB c = true then bs m 0 r else false := rfl
theorem dtr {a b c : World} (h : Drawn0 a b) (k : Drawn0 b c) : Drawn0 a c := by
  obtain ⟨n, rfl⟩ := k.out
  exact h.step n
set_option maxHeartbeats 8000000 in
set_option maxRecDepth 100000 in
theorem terms_bytesOf.calls (a0 a1 : ByteArray) (r : Bool) (w : World) (h : terms_bytesOf.f a0 a1 = some r) :
    Calls Tryd.prog 100 #[.string a0, .string a1] w fun e w' => e = .returned (.bool r) ∧ Drawn0 w w' := by
  have hsz : a0.size ≤ 1048576 ∧ Hid (bs a1 0 (bytesOf a0) = r) := by
    unfold terms_bytesOf.f at h
    split at h
    · exact ⟨by assumption, Option.some.inj h⟩
    · cases h
  obtain ⟨hs, HR⟩ := hsz
  clear h
  go_enter Tryd.func100, Tryd.ntmps100
  go_wp2
  go_step3
  go_wp2
  go_step3
  go_wp2
  go_loopg [5] a0.size (fun g vi wx => ∃ i : Nat, i + g = a0.size ∧ vi = .int .i64 i ∧ Drawn0 w wx ∧ Hid (bs a1 0 ((bytesOf a0).drop i) = r))
  case atStart => exact ⟨0, by omega, rfl, Drawn0.refl _, HR⟩
  case round =>
    clear HR
    obtain ⟨i, hig, rfl, hD, HB⟩ := hrel
    by_cases hi : i < a0.size
    · obtain ⟨x, hx⟩ : ∃ x : UInt8, a0[i]'hi = x := ⟨_, rfl⟩
      have HX : Hid ((bytesOf a0).drop i = (x.toNat : Int) :: (bytesOf a0).drop (i + 1)) := by rw [← hx]; exact bytes_drop a0 hi
      have hxl := x.toNat_lt
      have hback : ((x.toNat : Int)).toNat.toUInt8 = x := by simp
      by_cases h1 : letterB (x.toNat : Int) = true
      · have hl : terms_letter.f (x.toNat : Int) = some true := by rw [letter_is, h1]
        have HO : Hid (okB a1 (x.toNat : Int) = true) := by show okB a1 _ = true; unfold okB; rw [h1]; rfl
        clear h1
        go_wp2_with (first | (go_at_call 130; (with_reducible refine (terms_letter.calls _ true _ hl).mono ?_); rintro e w1 ⟨rfl, hd1⟩))
        go_roundg (a0.size - (i + 1))
        case measure => omega
        case rel => exact ⟨i + 1, by omega, by go_num, dtr hD hd1, Lib.hid (by rw [← HB.out, HX.out]; exact (bs_ok HO.out).symm)⟩
      · have h1' : letterB (x.toNat : Int) = false := by simpa using h1
        have hl : terms_letter.f (x.toNat : Int) = some false := by rw [letter_is, h1']
        clear h1
        by_cases h2 : digitB (x.toNat : Int) = true
        · have hg : terms_digit.f (x.toNat : Int) = some true := by rw [digit_is', h2]
          have HO : Hid (okB a1 (x.toNat : Int) = true) := by show okB a1 _ = true; unfold okB; rw [h1', h2]; rfl
          clear h2 h1'
          go_wp2_with (first | (go_at_call 130; (with_reducible refine (terms_letter.calls _ false _ hl).mono ?_); rintro e w1 ⟨rfl, hd1⟩) | (go_at_call 78; (with_reducible refine (terms_digit.calls _ true _ hg).mono ?_); rintro e w2 ⟨rfl, hd2⟩))
          go_roundg (a0.size - (i + 1))
          case measure => omega
          case rel => exact ⟨i + 1, by omega, by go_num, dtr (dtr hD hd1) hd2, Lib.hid (by rw [← HB.out, HX.out]; exact (bs_ok HO.out).symm)⟩
        · have h2' : digitB (x.toNat : Int) = false := by simpa using h2
          have hg : terms_digit.f (x.toNat : Int) = some false := by rw [digit_is', h2']
          clear h2
          by_cases h3 : 0 ≤ Lib.indexByte marks.data.toList x
          · have HO : Hid (okB a1 (x.toNat : Int) = true) := by show okB a1 _ = true; unfold okB markB; rw [h1', h2', hback, decide_eq_true h3]; rfl
            clear h2' h1'
            go_wp2_with (first | (go_at_call 130; (with_reducible refine (terms_letter.calls _ false _ hl).mono ?_); rintro e w1 ⟨rfl, hd1⟩) | (go_at_call 78; (with_reducible refine (terms_digit.calls _ false _ hg).mono ?_); rintro e w2 ⟨rfl, hd2⟩) | (go_at_call 131; (with_reducible refine (Tryd.strings_IndexByte _ _ _).mono ?_); rintro e w3 ⟨rfl, hw3⟩; rw [hw3, hback]; clear hw3))
            go_roundg (a0.size - (i + 1))
            case measure => omega
            case rel => exact ⟨i + 1, by omega, by go_num, dtr (dtr hD hd1) hd2, Lib.hid (by rw [← HB.out, HX.out]; exact (bs_ok HO.out).symm)⟩
          · by_cases h4 : 0 ≤ Lib.indexByte a1.data.toList x
            · have HO : Hid (okB a1 (x.toNat : Int) = true) := by show okB a1 _ = true; unfold okB markB; rw [h1', h2', hback, decide_eq_true h4]; simp
              clear h2' h1'
              go_wp2_with (first | (go_at_call 130; (with_reducible refine (terms_letter.calls _ false _ hl).mono ?_); rintro e w1 ⟨rfl, hd1⟩) | (go_at_call 78; (with_reducible refine (terms_digit.calls _ false _ hg).mono ?_); rintro e w2 ⟨rfl, hd2⟩) | (go_at_call 131; (with_reducible refine (Tryd.strings_IndexByte _ _ _).mono ?_); rintro e w3 ⟨rfl, hw3⟩; rw [hw3, hback]; clear hw3))
              go_roundg (a0.size - (i + 1))
              case measure => omega
              case rel => exact ⟨i + 1, by omega, by go_num, dtr (dtr hD hd1) hd2, Lib.hid (by rw [← HB.out, HX.out]; exact (bs_ok HO.out).symm)⟩
            · have HO : Hid (okB a1 (x.toNat : Int) = false) := by show okB a1 _ = false; unfold okB markB; rw [h1', h2', hback, decide_eq_false h3, decide_eq_false h4]; rfl
              clear h2' h1'
              have hne : ((i : Int) == (a0.size : Int)) = false := beq_eq_false_iff_ne.2 (by omega)
              by_cases h5 : x.toNat = 37
              · have h5' : ((x.toNat : Int) == 37) = true := by rw [h5]; rfl
                have h37 : Hid ((x.toNat : Int) = 37) := by show (x.toNat : Int) = 37; rw [h5]; rfl
                clear h5
                by_cases h6 : i + 2 < a0.size
                · obtain ⟨y, hy⟩ : ∃ y : UInt8, a0[i + 1]'(by omega) = y := ⟨_, rfl⟩
                  obtain ⟨z, hz⟩ : ∃ z : UInt8, a0[i + 2]'h6 = z := ⟨_, rfl⟩
                  have HY : Hid ((bytesOf a0).drop (i + 1) = (y.toNat : Int) :: (z.toNat : Int) :: (bytesOf a0).drop (i + 3)) := by rw [← hy, ← hz]; show (bytesOf a0).drop (i + 1) = _; rw [bytes_drop a0 (i := i + 1) (by omega), bytes_drop a0 (i := i + 2) h6]
                  cases h7 : hexaB (y.toNat : Int)
                  · have hxy : terms_hexa.f (y.toNat : Int) = some false := by rw [hexa_is, h7]
                    have HF : Hid (false = r) := by show false = r; rw [← HB.out, HX.out, HY.out, bs_pct HO.out h37.out, bs_one, h7]; rfl
                    clear h7
                    go_wp2_with (first | (go_at_call 130; (with_reducible refine (terms_letter.calls _ false _ hl).mono ?_); rintro e w1 ⟨rfl, hd1⟩) | (go_at_call 78; (with_reducible refine (terms_digit.calls _ false _ hg).mono ?_); rintro e w2 ⟨rfl, hd2⟩) | (go_at_call 131; (with_reducible refine (Tryd.strings_IndexByte _ _ _).mono ?_); rintro e w3 ⟨rfl, hw3⟩; rw [hw3, hback]; clear hw3) | (go_at_call 98; (with_reducible refine (terms_hexa.calls ((y.toNat : Int)) false _ hxy).mono ?_); rintro e w4 ⟨rfl, hd4⟩))
                    rw [Exit.noGoto_ret]
                    obtain rfl := HF.out
                    go_ret
                    exact ⟨rfl, dtr (dtr (dtr hD hd1) hd2) hd4⟩
                  · have hxy : terms_hexa.f (y.toNat : Int) = some true := by rw [hexa_is, h7]
                    cases h8 : hexaB (z.toNat : Int)
                    · have hxz : terms_hexa.f (z.toNat : Int) = some false := by rw [hexa_is, h8]
                      have HF : Hid (false = r) := by show false = r; rw [← HB.out, HX.out, HY.out, bs_pct HO.out h37.out, bs_one, h7, if_pos rfl, bs_two, h8]; rfl
                      clear h7 h8
                      go_wp2_with (first | (go_at_call 130; (with_reducible refine (terms_letter.calls _ false _ hl).mono ?_); rintro e w1 ⟨rfl, hd1⟩) | (go_at_call 78; (with_reducible refine (terms_digit.calls _ false _ hg).mono ?_); rintro e w2 ⟨rfl, hd2⟩) | (go_at_call 131; (with_reducible refine (Tryd.strings_IndexByte _ _ _).mono ?_); rintro e w3 ⟨rfl, hw3⟩; rw [hw3, hback]; clear hw3) | (go_at_call 98; (with_reducible refine (terms_hexa.calls ((y.toNat : Int)) true _ hxy).mono ?_); rintro e w4 ⟨rfl, hd4⟩) | (go_at_call 98; (with_reducible refine (terms_hexa.calls ((z.toNat : Int)) false _ hxz).mono ?_); rintro e w5 ⟨rfl, hd5⟩))
                      rw [Exit.noGoto_ret]
                      obtain rfl := HF.out
                      go_ret
                      exact ⟨rfl, dtr (dtr (dtr (dtr hD hd1) hd2) hd4) hd5⟩
                    · have hxz : terms_hexa.f (z.toNat : Int) = some true := by rw [hexa_is, h8]
                      have HF : Hid (bs a1 0 ((bytesOf a0).drop (i + 3)) = r) := by show _ = r; rw [← HB.out, HX.out, HY.out, bs_pct HO.out h37.out, bs_one, h7, if_pos rfl, bs_two, h8, if_pos rfl]
                      clear h7 h8
                      go_wp2_with (first | (go_at_call 130; (with_reducible refine (terms_letter.calls _ false _ hl).mono ?_); rintro e w1 ⟨rfl, hd1⟩) | (go_at_call 78; (with_reducible refine (terms_digit.calls _ false _ hg).mono ?_); rintro e w2 ⟨rfl, hd2⟩) | (go_at_call 131; (with_reducible refine (Tryd.strings_IndexByte _ _ _).mono ?_); rintro e w3 ⟨rfl, hw3⟩; rw [hw3, hback]; clear hw3) | (go_at_call 98; (with_reducible refine (terms_hexa.calls ((y.toNat : Int)) true _ hxy).mono ?_); rintro e w4 ⟨rfl, hd4⟩) | (go_at_call 98; (with_reducible refine (terms_hexa.calls ((z.toNat : Int)) true _ hxz).mono ?_); rintro e w5 ⟨rfl, hd5⟩))
                      go_roundg (a0.size - (i + 3))
                      case measure => omega
                      case rel => exact ⟨i + 3, by omega, by go_num, dtr (dtr (dtr (dtr hD hd1) hd2) hd4) hd5, HF⟩
                · have HF : Hid (false = r) := by
                    show false = r
                    rw [← HB.out, HX.out, bs_pct HO.out h37.out]
                    by_cases h7 : i + 1 < a0.size
                    · rw [bytes_drop a0 h7, bytes_end a0 (by omega), bs_one]
                      cases hexaB _ <;> rfl
                    · rw [bytes_end a0 (by omega)]; rfl
                  have h6' : decide ((i : Int) + 2 < (a0.size : Int)) = false := decide_eq_false (by omega)
                  go_wp2_with (first | (go_at_call 130; (with_reducible refine (terms_letter.calls _ false _ hl).mono ?_); rintro e w1 ⟨rfl, hd1⟩) | (go_at_call 78; (with_reducible refine (terms_digit.calls _ false _ hg).mono ?_); rintro e w2 ⟨rfl, hd2⟩) | (go_at_call 131; (with_reducible refine (Tryd.strings_IndexByte _ _ _).mono ?_); rintro e w3 ⟨rfl, hw3⟩; rw [hw3, hback]; clear hw3))
                  rw [Exit.noGoto_ret]
                  obtain rfl := HF.out
                  go_ret
                  exact ⟨rfl, dtr (dtr hD hd1) hd2⟩
              · have h5' : ((x.toNat : Int) == 37) = false := beq_eq_false_iff_ne.2 (by omega)
                have HF : Hid (false = r) := by show false = r; rw [← HB.out, HX.out, bs_no HO.out (by omega)]
                clear h5
                go_wp2_with (first | (go_at_call 130; (with_reducible refine (terms_letter.calls _ false _ hl).mono ?_); rintro e w1 ⟨rfl, hd1⟩) | (go_at_call 78; (with_reducible refine (terms_digit.calls _ false _ hg).mono ?_); rintro e w2 ⟨rfl, hd2⟩) | (go_at_call 131; (with_reducible refine (Tryd.strings_IndexByte _ _ _).mono ?_); rintro e w3 ⟨rfl, hw3⟩; rw [hw3, hback]; clear hw3))
                rw [Exit.noGoto_ret]
                obtain rfl := HF.out
                go_ret
                exact ⟨rfl, dtr (dtr hD hd1) hd2⟩
    · obtain rfl : i = a0.size := by omega
      have HF : Hid (true = r) := by show true = r; rw [← HB.out, bytes_end a0 (Nat.le_refl _)]; rfl
      go_wp2
      rw [Exit.noGoto_ret]
      obtain rfl := HF.out
      go_ret
      exact ⟨rfl, hD⟩
end Go.Proofs.YtopfmcgmfnmikaaDoor.X
