/- terms.Scopes, by hand: Split, each piece asked, sorted and made single; its contract in the print's form. -/
import Derived.Test.YtopfmcgmfnmikaaDoorXx3
import Derived.Test.YtopfmcgmfnmikaaDoorXx4
import Derived.Test.YtopfmcgmfnmikaaDoorXDistinct
import Derived.WalkKit
import Derived.KernelRfl
import Derived.RowKit3
import Derived.Deep.LoopGhost
import Derived.Deep.QuietTactic
import Derived.BigQuiet
set_option linter.unusedVariables false
set_option linter.unusedSimpArgs false
namespace Go.Proofs.YtopfmcgmfnmikaaDoor.X
open Go.RowKit Go.Proofs.YtopfmcgmfnmikaaDoorW.PrintWords Go.Proofs.YtopfmcgmfnmikaaDoorW.PrintLast Go.Proofs.YtopfmcgmfnmikaaDoorW.PrintMore
open Go.Proofs.YtopfmcgmfnmikaaDoor
attribute [local go_sem] ErrBlk_alloc ErrBlk_drew ErrBlk_drewN errs_eql errs_neq nil_errs_eql nil_errs_neq
variable {EA : Int → Addr} {SS : List Int}
def scanS (k : Nat) : List ByteArray → Option Bool
  | [] => some true
  | x :: r => (terms_scope.f k x).bind fun b => if b = true then scanS k r else some false
theorem scanS_mono (k : Nat) : ∀ l, LeO (scanS k l) (scanS (k + 1) l)
  | [] => LeO.refl _
  | x :: r => LeO.bind (terms_scope.mono x k) (fun _ => LeO.ite (scanS_mono k r) (LeO.refl _))
def terms_Scopes.f (k : Nat) (a0 : ByteArray) : Option (List ByteArray × Option Int) := (strings_Split.f k a0 (⟨#[32]⟩ : ByteArray)).bind fun l => (scanS k l).bind fun b => if b = true then ((terms_distinct.f l).bind fun d => if (d.length : Int) > 16 then some ([], some 3) else some (d, none)) else some ([], some 2)
theorem terms_Scopes.mono : ∀ a0 k, LeO (terms_Scopes.f k a0) (terms_Scopes.f (k + 1) a0) := fun a0 k =>
  LeO.bind (strings_Split.mono a0 _ k) (fun l => LeO.bind (scanS_mono k l) (fun _ => LeO.refl _))
set_option maxHeartbeats 4000000 in
set_option maxRecDepth 100000 in
theorem terms_Scopes.calls (hk2 : (2 : Int) ∈ SS) (hk3 : (3 : Int) ∈ SS) (k : Nat) (a0 : ByteArray) (r1 : List ByteArray) (r2 : Option Int) (w : World) (hE : Sent EA SS w) (h : terms_Scopes.f k a0 = some (r1, r2)) :
    Calls Tryd.prog 22 #[.string a0] w fun e w' => ∃ v0_ : Value, e = .returned (.tuple #[v0_, errW EA r2]) ∧ Kd.R Kd.string 9 w' w.heap.size (fun _ => True) v0_ r1 ∧ Below w.heap.size w w' := by
  unfold terms_Scopes.f at h
  obtain ⟨l, hl, h⟩ := Option.bind_eq_some_iff.1 h
  obtain ⟨b, hb, h⟩ := Option.bind_eq_some_iff.1 h
  go_enter Tryd.func22, Tryd.ntmps22
  go_wp2_with fail
  with_reducible refine (strings_Split.calls k a0 _ l w hl).mono ?_
  rintro e w1 ⟨v, rfl, hR, hB⟩
  obtain ⟨A, c, hv, hc, hC⟩ := Kd.R_reads hR
  subst hv
  have hlen : l.length ≤ 9223372036854775807 := by
    rcases (Kd.own_of_R hR).2 with ⟨_, h0⟩ | ⟨_, _, _, _, _, _, h1, h2, _, _⟩
    · omega
    · have : maxLen ≤ 9223372036854775807 := by decide
      omega
  go_wp2_with fail
  go_loopw [11] (fun i wr => ∃ m : Nat, m ≤ l.length ∧ i = .int .i64 m ∧ scanS k (l.drop m) = some b ∧ Kd.string.R 9 wr w.heap.size (fun _ => True) (.slice A l.length c) l ∧ Below w.heap.size w wr) (fun i _ => l.length - (intOf i).toNat)
  case atStart =>
    exact ⟨0, Nat.zero_le _, rfl, hb, hR, hB⟩
  case round =>
    obtain ⟨m, hm, rfl, hs, hRr, hBr⟩ := hrel
    have hsz := hBr.size
    by_cases hp : m < l.length
    · have c1 : decide ((m : Int) < l.length) = true := decide_eq_true (by omega)
      have c3 : decide ((0 : Int) ≤ m) = true := decide_eq_true (by omega)
      obtain ⟨ad, e0, hx0⟩ := Kd.at_string (Kd.R_reads' hRr).2.2 (m : Int) (by omega) (by omega)
      cases e0
      obtain ⟨x, hxe⟩ : ∃ x, rdOf ByteArray.empty l (m : Int) = x := ⟨_, rfl⟩
      rw [hxe] at hx0
      simp only [Int.toNat_natCast] at hx0
      have hxl : l[m] = x := by
        rw [← hxe]
        simp [rdOf, List.getD_eq_getElem?_getD, List.getElem?_eq_getElem hp]
      rw [List.drop_eq_getElem_cons hp, hxl] at hs
      simp only [scanS] at hs
      obtain ⟨q, hq, hs⟩ := Option.bind_eq_some_iff.1 hs
      have hw : wrap64 ((m : Int) + 1) = (m : Int) + 1 := Y.wr (by omega) (by omega)
      go_wp2_with fail
      with_reducible refine (terms_scope.calls k x q _ hq).mono ?_
      rintro e w2 ⟨rfl, hb2⟩
      have hR2 := Kd.R_below hRr hb2
      have hB2 := below_step hBr hb2
      cases q with
      | true =>
        rw [if_pos rfl] at hs
        go_wp2_with fail
        go_roundw
        case rel => exact ⟨m + 1, by omega, rfl, hs, hR2, hB2⟩
        case measure => simp [intOf, hw]; omega
      | false =>
        have hE2 := Sent.below hE hB2
        have hg2 := Sent.at_2 hE2 hk2
        rw [if_neg (by decide)] at hs
        obtain rfl : false = b := Option.some.inj hs
        rw [if_neg (by decide)] at h
        obtain ⟨rfl, rfl⟩ := Prod.mk.inj (Option.some.inj h)
        go_wp2_with fail
        go_quiet (fail)
        go_wp2_with fail
        go_ret2
        exact ⟨_, rfl, Kd.R_nil _ _ _ _ _, pw_below_drewN hB2 _⟩
    · have hml : m = l.length := by omega
      have c1 : decide ((m : Int) < l.length) = false := decide_eq_false (by omega)
      rw [hml, List.drop_eq_nil_of_le (Nat.le_refl _)] at hs
      obtain rfl : true = b := Option.some.inj hs
      rw [if_pos rfl] at h
      obtain ⟨d, hd, h⟩ := Option.bind_eq_some_iff.1 h
      go_wp2_with fail
      with_reducible refine (terms_distinct.calls (fun _ => True) _ l d w wr hBr hRr hd).mono ?_
      rintro e w2 ⟨v2, rfl, hR2, hB2, hK2⟩
      obtain ⟨A2, c2, hv2, hc2, hC2⟩ := Kd.R_reads hR2
      subst hv2
      have hE2 := Sent.below hE hB2
      have hg3 := Sent.at_3 hE2 hk3
      by_cases h16 : (d.length : Int) > 16
      · have c4 : decide ((16 : Int) < d.length) = true := decide_eq_true h16
        rw [if_pos h16] at h
        obtain ⟨rfl, rfl⟩ := Prod.mk.inj (Option.some.inj h)
        go_wp2_with fail
        go_quiet (fail)
        go_wp2_with fail
        go_ret2
        exact ⟨_, rfl, Kd.R_nil _ _ _ _ _, pw_below_drewN hB2 _⟩
      · have c4 : decide ((16 : Int) < d.length) = false := decide_eq_false h16
        rw [if_neg h16] at h
        obtain ⟨rfl, rfl⟩ := Prod.mk.inj (Option.some.inj h)
        go_wp2_with fail
        go_ret2
        exact ⟨_, rfl, Kd.R_mono hR2 (fun _ _ => trivial), hB2⟩
end Go.Proofs.YtopfmcgmfnmikaaDoor.X
