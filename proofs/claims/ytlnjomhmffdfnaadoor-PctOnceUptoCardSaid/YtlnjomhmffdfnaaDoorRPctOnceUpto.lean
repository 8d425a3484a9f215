/- PctOnce: the law answers true at every input that the statement speaks of. -/
import Derived.Test.YtlnjomhmffdfnaaDoorRows
import Derived.Test.YtlnjomhmffdfnaaDoorXOpen
import Derived.Test.YtlnjomhmffdfnaaDoorXx21
import Derived.Test.YtlnjomhmffdfnaaDoorZPctOnce
import Derived.Test.YtlnjomhmffdfnaaDoorCards
import Derived.Test.YtlnjomhmffdfnaaDoorTie
import Derived.Test.YtlnjomhmffdfnaaDoorXLaid
import Derived.WalkKit
import Derived.ProofKit
import Derived.OpenShut
import Derived.ShutString
import Derived.ChangeOld
import Derived.Below
import Derived.Carry
import Derived.SizedLaws
import Derived.Deep.DeepHandedRow
import Derived.Deep.DeepWitnessRowRef
import Derived.LaidMore
import Derived.Lib.LaidTab
import Derived.Lay
set_option linter.unusedVariables false
namespace Go.Proofs.YtlnjomhmffdfnaaDoor.pctOnceUpto
open Go Go.ChangeShapes Go.WideShapes Go.ChangeAt Go.RowKit Go.Proofs.YtlnjomhmffdfnaaDoor Go.Proofs.YtlnjomhmffdfnaaDoor.O Go.Proofs.YtlnjomhmffdfnaaDoor.X Go.Proofs.YtlnjomhmffdfnaaDoorW.PrintWords
theorem own : ownKnob Tryd.prog.godebug = none := by kernel_rfl
theorem laidOut : laidOutB Tryd.prog = true := by kernel_rfl
noncomputable def op0 := (oStruct (P := Tryd.prog) (T := 55) Tryd.underlying55 rfl (by kernel_rfl) (by kernel_rfl) (fCons (oSlice (P := Tryd.prog) (T := 36) (e := 52) Tryd.underlying36 (by kernel_rfl) (oIso (fun x : S52 => (x.f0, x.f1)) (fun y => ⟨y.1, y.2⟩) (fun _ => rfl) (oStruct (P := Tryd.prog) (T := 52) Tryd.underlying52 rfl (by kernel_rfl) (by kernel_rfl) (fCons (oStr (P := Tryd.prog) (T := 9) Tryd.underlying9) (fLast (oStr (P := Tryd.prog) (T := 9) Tryd.underlying9)))))) (fCons (oStr (P := Tryd.prog) (T := 9) Tryd.underlying9) (fCons (oStr (P := Tryd.prog) (T := 9) Tryd.underlying9) (fCons (oInt (P := Tryd.prog) (T := 3) Tryd.underlying3) (fLast (oInt (P := Tryd.prog) (T := 3) Tryd.underlying3)))))))
def SS : List Int := [2, 3, 101]
theorem sent {W : World} (h : laidMetH Tryd.prog Rows.pctOnceUptoRow.laid W) : ∃ EA : Int → Addr, Sent EA SS W := by
  rw [MakeChecks.laidMetH_plain _ _ _ (by kernel_rfl)] at h
  obtain ⟨EA, h1, h2⟩ := sent_of h [2, 3] 1 (by decide) (by decide) (fun i k hi => by
    match i, hi with
    | 0, hi => obtain rfl := Option.some.inj hi; rfl
    | 1, hi => obtain rfl := Option.some.inj hi; rfl
    | i + 2, hi => simp at hi)
    (fun k hk => by simp only [List.mem_cons, List.not_mem_nil, or_false] at hk; rcases hk with rfl | rfl <;> kernel_rfl)
    (fun k hk => by simp only [List.mem_cons, List.not_mem_nil, or_false] at hk; rcases hk with rfl | rfl <;> kernel_rfl)
  have t101 := laid_ints h 3 (k := .u32) (zs := [0, 67067904, 2281701374, 1207959550]) (g := 7) (t := 80) (e := 79) (n := 4) rfl (by kernel_rfl) (by kernel_rfl) (by kernel_rfl) (by kernel_rfl) (by kernel_rfl) (by kernel_rfl)
  refine ⟨EA, h1, fun k hk => ?_⟩
  simp only [SS, List.mem_cons, List.not_mem_nil, or_false] at hk
  rcases hk with rfl | rfl | rfl
  · exact h2 2 (by decide)
  · exact h2 3 (by decide)
  · exact ⟨t101.cell (g := 7) (by kernel_rfl) 0 (by decide), t101.cell (g := 7) (by kernel_rfl) 1 (by decide), t101.cell (g := 7) (by kernel_rfl) 2 (by decide), t101.cell (g := 7) (by kernel_rfl) 3 (by decide)⟩
set_option maxRecDepth 100000 in
theorem contract (H : Type) (enc : TypeId × Value → H) (W : World) (args : Array Value) (ds gs : List (DataW H)) (before : List MemPlace)
    (hval : ∀ (j : Nat) t v, Tryd.f13.params[j]? = some t → args[j]? = some v → Value.okWide Tryd.prog W .any 0 t v)
    (hW : DataW.Whole enc Tryd.prog Tryd.f13.params.toList Rows.pctOnceSpec.vars false W args.toList ds gs before)
    (hcond : Rows.uptoSmall H (ds ++ gs) = true)
    (hsz : (DataW.weightsEach Tryd.prog (Tryd.f13.params.toList ++ Rows.pctOnceSpec.plain.varTypes Tryd.prog) (ds ++ gs)).all (· ≤ reachBytes) = true)
    (hL : laidMetH Tryd.prog Rows.pctOnceUptoRow.laid W)
    : Calls Tryd.prog 13 args W fun e W' => ∃ v, e = .returned v ∧ Rows.pctOnceSpec.post enc Tryd.prog Tryd.f13 false true false false W args v W' := by
  have hW' := hW
  obtain ⟨p, q, hA0, hV, rfl, hfz, hnd⟩ := hW
  have hA : DataW.TrodAll enc Tryd.prog W 0 (fun _ => true) true Tryd.f13.params.toList args.toList ds p := hA0
  rw [Tryd.params13] at hA hval hsz
  obtain ⟨v0, vs0, d0, ds0, p0, q0, hargs, rfl, rfl, h0, r0⟩ := trodAll_cons hA
  obtain ⟨rfl, rfl, rfl⟩ := trodAll_nil r0
  obtain rfl : args = #[v0] := by cases args; simp_all
  obtain ⟨rfl, rfl⟩ := trodVars_none hV
  have k0 := h0
  have lt0 : ∀ x ∈ p0, x.block < W.heap.size := by obtain ⟨m, hm⟩ := k0; exact DataW.trod_lt m _ _ _ hm
  have z0 : ∀ n ∈ d0.weights Tryd.prog 55, n ≤ 140737488351232 := fun n hn => by
    have := List.all_eq_true.1 hsz n (DataW.weights_mem_each (j := 0) (t := 55) rfl rfl n hn)
    exact of_decide_eq_true this
  obtain ⟨fuel0, f0⟩ := h0
  obtain ⟨cs0, rfl, _⟩ := okWide_struct Tryd.underlying55 (hval 0 55 v0 rfl rfl)
  obtain ⟨x0, hK0, hF0, hM0, hS0⟩ := (op0).op (cs := cs0.toList) f0
  obtain ⟨l0_0, a0_1, a0_2, a0_3, a0_4⟩ := x0
  obtain ⟨_, _, hcs0, ⟨A0_0, c0_0, rfl, hc0_0, hr0_0⟩, ⟨_, _, rfl, rfl, ⟨_, _, rfl, rfl, ⟨_, _, rfl, rfl, rfl⟩⟩⟩⟩ := hK0
  obtain rfl : cs0 = #[.slice A0_0 l0_0.length c0_0, .string a0_1, .string a0_2, .int .i64 a0_3, .int .i64 a0_4] := by
    obtain ⟨m_⟩ := cs0
    simpa using hcs0
  have hB : op0.m (l0_0, a0_1, a0_2, a0_3, a0_4) ≤ 1048576 := by
    have h_ : Rows.uptoBulkAll ([d0] ++ ([] : List (DataW H))) ≤ 1048576 := of_decide_eq_true hcond
    simp only [List.append_nil, Rows.uptoBulkAll] at h_
    omega
  obtain ⟨EA, hE⟩ := sent hL
  obtain ⟨kk, hk⟩ := Y.ON.once l0_0 a0_1 a0_2 a0_3 a0_4 hF0 hB
  refine (usherlaw3_PctOnce.calls (EA := EA) (SS := SS) (by decide) (by decide) (by decide) kk A0_0 c0_0 l0_0 a0_1 a0_2 a0_3 a0_4 true W hE hr0_0 hc0_0 hk).mono fun e W' h => ?_
  obtain ⟨rfl, bel⟩ := h
  exact ⟨_, rfl, _, _, _, [], _, [], hW', trodAll_mk1 (shut_bool Tryd.underlying4 _), (trodAll_cons_mk (Below.trod laidOut (by kernel_rfl) (of_decide_eq_true (by kernel_rfl)) k0 bel lt0) trodAll_mk0), rfl, bel.frame _, fun h => by cases h⟩
theorem laid_met (os : Os) : laidMet Tryd.prog Rows.pctOnceUptoRow.laid ((World.laidAll Tryd.prog os Rows.pctOnceUptoRow.laid).forCall (fun _ _ => 0) ⟨#[], #[.agg #[.slice none 0 0, .string ByteArray.empty, .string ByteArray.empty, .int .i64 0, .int .i64 0]], []⟩).memory :=
  laidMet_laidAll _ (by kernel_rfl) (by kernel_rfl)
theorem reads (os : Os) {H : Type} (enc : TypeId × Value → H) : ∃ places, DataW.whole enc Tryd.prog ((World.laidAll Tryd.prog os Rows.pctOnceUptoRow.laid).forCall (fun _ _ => 0) ⟨#[], #[.agg #[.slice none 0 0, .string ByteArray.empty, .string ByteArray.empty, .int .i64 0, .int .i64 0]], []⟩).memory Tryd.f13.params.toList Rows.pctOnceSpec.vars false (#[.agg #[.slice none 0 0, .string ByteArray.empty, .string ByteArray.empty, .int .i64 0, .int .i64 0]] : Array Value).toList 8 = some ([.agg [.nil, .lit (.string []), .lit (.string []), .lit (.int .i64 0), .lit (.int .i64 0)]], [], places) :=
  ⟨[], by kernel_rfl⟩
set_option maxRecDepth 100000 in
theorem lifted (os : Os) (started : os.Started) (H : Type) (enc : TypeId × Value → H) (F : Stop.Interp) :
    ReturnsInHanded {} Tryd.checked os 13 .any ((Rows.OpenSpec.upto Rows.pctOnceSpec).preRow enc Tryd.prog Tryd.f13 Rows.pctOnceUptoRow.domain false Rows.pctOnceUptoRow.laid) (((Rows.OpenSpec.upto Rows.pctOnceSpec).at F).post enc Tryd.prog Tryd.f13 false true false false) := by
  obtain ⟨places, hx⟩ := reads os enc
  refine returnsInHanded_of_row (C := Tryd.checked) (s := (Rows.OpenSpec.upto Rows.pctOnceSpec)) own started (by kernel_rfl) Tryd.func13
    (witness_row_atRef (enc := enc) (C := Tryd.checked) false (World.laidAll Tryd.prog os Rows.pctOnceUptoRow.laid) #[.agg #[.slice none 0 0, .string ByteArray.empty, .string ByteArray.empty, .int .i64 0, .int .i64 0]] rfl (by kernel_rfl) (by kernel_rfl) (by kernel_rfl)
      (OpenSpec.preRow_of_cond 8 hx (by kernel_rfl) (fun k hk => by cases hk; kernel_rfl) (by kernel_rfl) (laid_met os))) ?_
  intro W base args ds gs before hval hW _ hcond hsz hL _ _
  exact contract H enc W args ds gs before (fun j t v h1 h2 => by first | exact hval j t v h1 h2 | exact (hval j t v h1 h2)) hW (hcond _ rfl) hsz hL
theorem over : Rows.pctOnceUptoRow.holds Tryd.pinned (Rows.OpenSpec.upto Rows.pctOnceSpec) :=
  OpenClaim.holds_of_cond 13 Tryd.f13 rfl rfl rfl rfl rfl rfl rfl ⟨rfl, rfl, rfl, rfl, rfl⟩ rfl rfl rfl rfl rfl (by kernel_rfl) Tryd.func13 (by kernel_rfl)
    (of_decide_eq_true (by kernel_rfl)) (by unfold Func.isWrapper; first | (rw [if_pos (by decide +kernel)]; kernel_rfl) | (rw [if_neg (by decide +kernel)]; exact ⟨rfl, rfl⟩))
    (fun os started H enc _ F => by rw [OpenClaim.pre_eq_preRow]; exact lifted os started H enc F)
theorem plain (f : FuncId) (fn : Func) (hf : Tryd.pinned.checked.prog.funcNamed "usher/usherlaw3.PctOnce" = some f) (hfn : Tryd.pinned.checked.prog.funcs[f]? = some fn) :
    true = Tryd.pinned.checked.prog.looks [] ∧ ∀ (j : Nat) t, fn.params[j]? = some t → Tryd.pinned.checked.prog.wantsStandIn t = false := by
  obtain rfl : f = 13 := Option.some.inj ((show Tryd.prog.funcNamed "usher/usherlaw3.PctOnce" = some 13 by kernel_rfl).symm.trans hf) |>.symm
  obtain rfl : fn = Tryd.f13 := (Option.some.inj (Tryd.func13.symm.trans hfn)).symm
  refine ⟨by kernel_rfl, fun j t ht => ?_⟩
  rw [Tryd.params13] at ht
  have hm := Array.mem_of_getElem? ht
  simp only [List.mem_toArray, List.mem_cons, List.not_mem_nil, or_false] at hm
  rcases hm with rfl
  · exact (show Tryd.prog.wantsStandIn 55 = false by kernel_rfl)
theorem card : Rows.PctOnceUptoCardSaid :=
  Claim7.holds_tied_plain_at .later [] _ _ _ _ over (fun _ h => by cases h) (by kernel_rfl) (fun _ h => by cases h) pctOnceUpto_row_tie rfl ⟨rfl, rfl⟩ (by kernel_rfl) rfl plain (by kernel_rfl)
#print axioms card
end Go.Proofs.YtlnjomhmffdfnaaDoor.pctOnceUpto
namespace Go.Proofs.YtlnjomhmffdfnaaDoor
theorem pctOnceUpto_holds : Rows.PctOnceUptoCardSaid := pctOnceUpto.card
end Go.Proofs.YtlnjomhmffdfnaaDoor
