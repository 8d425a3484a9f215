/- TermsScopeOrder: the law answers true at every input that the statement speaks of. -/
import Derived.Test.YtopfmcgmfnmikaaDoorRows
import Derived.Test.YtopfmcgmfnmikaaDoorXOpen
import Derived.Test.YtopfmcgmfnmikaaDoorXx11
import Derived.Test.YtopfmcgmfnmikaaDoorZTermsScopeOrder
import Derived.Test.YtopfmcgmfnmikaaDoorCards
import Derived.Test.YtopfmcgmfnmikaaDoorTie
import Derived.Test.YtopfmcgmfnmikaaDoorXLaid
import Derived.WalkKit
import Derived.ProofKit
import Derived.OpenShut
import Derived.ShutString
import Derived.ChangeOld
import Derived.Below
import Derived.Carry
import Derived.SizedLaws
import Derived.Deep.DeepHandedRow
import Derived.Deep.DeepWitnessRowRef
import Derived.LaidMore
import Derived.Lib.LaidTab
import Derived.Lay
set_option linter.unusedVariables false
namespace Go.Proofs.YtopfmcgmfnmikaaDoor.termsScopeOrderUpto
open Go Go.ChangeShapes Go.WideShapes Go.ChangeAt Go.RowKit Go.Proofs.YtopfmcgmfnmikaaDoor Go.Proofs.YtopfmcgmfnmikaaDoor.O Go.Proofs.YtopfmcgmfnmikaaDoor.X Go.Proofs.YtopfmcgmfnmikaaDoorW.PrintWords
theorem own : ownKnob Tryd.prog.godebug = none := by kernel_rfl
theorem laidOut : laidOutB Tryd.prog = true := by kernel_rfl
noncomputable def op0 := (oSlice (P := Tryd.prog) (T := 44) (e := 9) Tryd.underlying44 (by kernel_rfl) (oStr (P := Tryd.prog) (T := 9) Tryd.underlying9))
def SS : List Int := [1, 2, 3, 4, 5, 6, 7, 8, 9, 10, 11, 12, 13]
theorem sent {W : World} (h : laidMetH Tryd.prog Rows.termsScopeOrderUptoRow.laid W) : ∃ EA : Int → Addr, Sent EA SS W := by
  rw [MakeChecks.laidMetH_plain _ _ _ (by kernel_rfl)] at h
  obtain ⟨EA, h1, h2⟩ := sent_of h [1, 2, 3, 4, 5, 6, 7, 8, 9, 10, 11, 12, 13] 1 (by decide) (by decide) (fun i k hi => by
    match i, hi with
    | 0, hi => obtain rfl := Option.some.inj hi; rfl
    | 1, hi => obtain rfl := Option.some.inj hi; rfl
    | 2, hi => obtain rfl := Option.some.inj hi; rfl
    | 3, hi => obtain rfl := Option.some.inj hi; rfl
    | 4, hi => obtain rfl := Option.some.inj hi; rfl
    | 5, hi => obtain rfl := Option.some.inj hi; rfl
    | 6, hi => obtain rfl := Option.some.inj hi; rfl
    | 7, hi => obtain rfl := Option.some.inj hi; rfl
    | 8, hi => obtain rfl := Option.some.inj hi; rfl
    | 9, hi => obtain rfl := Option.some.inj hi; rfl
    | 10, hi => obtain rfl := Option.some.inj hi; rfl
    | 11, hi => obtain rfl := Option.some.inj hi; rfl
    | 12, hi => obtain rfl := Option.some.inj hi; rfl
    | i + 13, hi => simp at hi)
    (fun k hk => by simp only [List.mem_cons, List.not_mem_nil, or_false] at hk; rcases hk with rfl | rfl | rfl | rfl | rfl | rfl | rfl | rfl | rfl | rfl | rfl | rfl | rfl <;> kernel_rfl)
    (fun k hk => by simp only [List.mem_cons, List.not_mem_nil, or_false] at hk; rcases hk with rfl | rfl | rfl | rfl | rfl | rfl | rfl | rfl | rfl | rfl | rfl | rfl | rfl <;> kernel_rfl)
  refine ⟨EA, h1, fun k hk => ?_⟩
  simp only [SS, List.mem_cons, List.not_mem_nil, or_false] at hk
  rcases hk with rfl | rfl | rfl | rfl | rfl | rfl | rfl | rfl | rfl | rfl | rfl | rfl | rfl
  · exact h2 1 (by decide)
  · exact h2 2 (by decide)
  · exact h2 3 (by decide)
  · exact h2 4 (by decide)
  · exact h2 5 (by decide)
  · exact h2 6 (by decide)
  · exact h2 7 (by decide)
  · exact h2 8 (by decide)
  · exact h2 9 (by decide)
  · exact h2 10 (by decide)
  · exact h2 11 (by decide)
  · exact h2 12 (by decide)
  · exact h2 13 (by decide)
set_option maxRecDepth 100000 in
theorem contract (H : Type) (enc : TypeId × Value → H) (W : World) (args : Array Value) (ds gs : List (DataW H)) (before : List MemPlace)
    (hval : ∀ (j : Nat) t v, Tryd.f9.params[j]? = some t → args[j]? = some v → Value.okWide Tryd.prog W .any 0 t v)
    (hW : DataW.Whole enc Tryd.prog Tryd.f9.params.toList Rows.termsScopeOrderSpec.vars false W args.toList ds gs before)
    (hcond : Rows.uptoSmall H (ds ++ gs) = true)
    (hsz : (DataW.weightsEach Tryd.prog (Tryd.f9.params.toList ++ Rows.termsScopeOrderSpec.plain.varTypes Tryd.prog) (ds ++ gs)).all (· ≤ reachBytes) = true)
    (hL : laidMetH Tryd.prog Rows.termsScopeOrderUptoRow.laid W)
    : Calls Tryd.prog 9 args W fun e W' => ∃ v, e = .returned v ∧ Rows.termsScopeOrderSpec.post enc Tryd.prog Tryd.f9 false true false false W args v W' := by
  have hW' := hW
  obtain ⟨p, q, hA0, hV, rfl, hfz, hnd⟩ := hW
  have hA : DataW.TrodAll enc Tryd.prog W 0 (fun _ => true) true Tryd.f9.params.toList args.toList ds p := hA0
  rw [Tryd.params9] at hA hval hsz
  obtain ⟨v0, vs0, d0, ds0, p0, q0, hargs, rfl, rfl, h0, r0⟩ := trodAll_cons hA
  obtain ⟨rfl, rfl, rfl⟩ := trodAll_nil r0
  obtain rfl : args = #[v0] := by cases args; simp_all
  obtain ⟨rfl, rfl⟩ := trodVars_none hV
  have k0 := h0
  have lt0 : ∀ x ∈ p0, x.block < W.heap.size := by obtain ⟨m, hm⟩ := k0; exact DataW.trod_lt m _ _ _ hm
  have z0 : ∀ n ∈ d0.weights Tryd.prog 44, n ≤ 140737488351232 := fun n hn => by
    have := List.all_eq_true.1 hsz n (DataW.weights_mem_each (j := 0) (t := 44) rfl rfl n hn)
    exact of_decide_eq_true this
  obtain ⟨fuel0, f0⟩ := h0
  obtain ⟨a_, len_, cap_, rfl⟩ := okWide_slice Tryd.underlying44 (hval 0 44 v0 rfl rfl)
  obtain ⟨l0, ⟨A0, c0, hcs0, hc0, hr0⟩, hF0, hM0, hS0⟩ := (op0).op f0
  simp only [Value.cells, List.cons.injEq, and_true, Value.slice.injEq] at hcs0
  obtain ⟨rfl, rfl, rfl⟩ := hcs0
  have hB : op0.m l0 ≤ 1048576 := by
    have h_ : Rows.uptoBulkAll ([d0] ++ ([] : List (DataW H))) ≤ 1048576 := of_decide_eq_true hcond
    simp only [List.append_nil, Rows.uptoBulkAll] at h_
    omega
  obtain ⟨EA, hE⟩ := sent hL
  obtain ⟨kk, hk⟩ := Y.scopeOrder l0 hF0 hB
  refine (usherlaw9_TermsScopeOrder.calls (EA := EA) (SS := SS) (by decide) (by decide) (by decide) (by decide) (by decide) (by decide) (by decide) (by decide) (by decide) (by decide) (by decide) (by decide) (by decide) kk _ _ l0 true W hE hr0 hc0 hk).mono fun e W' h => ?_
  obtain ⟨rfl, bel⟩ := h
  exact ⟨_, rfl, _, _, _, [], _, [], hW', trodAll_mk1 (shut_bool Tryd.underlying4 _), (trodAll_cons_mk (Below.trod laidOut (by kernel_rfl) (of_decide_eq_true (by kernel_rfl)) k0 bel lt0) trodAll_mk0), rfl, bel.frame _, fun h => by cases h⟩
theorem laid_met (os : Os) : laidMet Tryd.prog Rows.termsScopeOrderUptoRow.laid ((World.laidAll Tryd.prog os Rows.termsScopeOrderUptoRow.laid).forCall (fun _ _ => 0) ⟨#[], #[.slice none 0 0], []⟩).memory :=
  laidMet_laidAll _ (by kernel_rfl) (by kernel_rfl)
theorem reads (os : Os) {H : Type} (enc : TypeId × Value → H) : ∃ places, DataW.whole enc Tryd.prog ((World.laidAll Tryd.prog os Rows.termsScopeOrderUptoRow.laid).forCall (fun _ _ => 0) ⟨#[], #[.slice none 0 0], []⟩).memory Tryd.f9.params.toList Rows.termsScopeOrderSpec.vars false (#[.slice none 0 0] : Array Value).toList 8 = some ([.nil], [], places) :=
  ⟨[], by kernel_rfl⟩
set_option maxRecDepth 100000 in
theorem lifted (os : Os) (started : os.Started) (H : Type) (enc : TypeId × Value → H) (F : Stop.Interp) :
    ReturnsInHanded {} Tryd.checked os 9 .any ((Rows.OpenSpec.upto Rows.termsScopeOrderSpec).preRow enc Tryd.prog Tryd.f9 Rows.termsScopeOrderUptoRow.domain false Rows.termsScopeOrderUptoRow.laid) (((Rows.OpenSpec.upto Rows.termsScopeOrderSpec).at F).post enc Tryd.prog Tryd.f9 false true false false) := by
  obtain ⟨places, hx⟩ := reads os enc
  refine returnsInHanded_of_row (C := Tryd.checked) (s := (Rows.OpenSpec.upto Rows.termsScopeOrderSpec)) own started (by kernel_rfl) Tryd.func9
    (witness_row_atRef (enc := enc) (C := Tryd.checked) false (World.laidAll Tryd.prog os Rows.termsScopeOrderUptoRow.laid) #[.slice none 0 0] rfl (by kernel_rfl) (by kernel_rfl) (by kernel_rfl)
      (OpenSpec.preRow_of_cond 8 hx (by kernel_rfl) (fun k hk => by cases hk; kernel_rfl) (by kernel_rfl) (laid_met os))) ?_
  intro W base args ds gs before hval hW _ hcond hsz hL _ _
  exact contract H enc W args ds gs before (fun j t v h1 h2 => by first | exact hval j t v h1 h2 | exact (hval j t v h1 h2)) hW (hcond _ rfl) hsz hL
theorem over : Rows.termsScopeOrderUptoRow.holds Tryd.pinned (Rows.OpenSpec.upto Rows.termsScopeOrderSpec) :=
  OpenClaim.holds_of_cond 9 Tryd.f9 rfl rfl rfl rfl rfl rfl rfl ⟨rfl, rfl, rfl, rfl, rfl⟩ rfl rfl rfl rfl rfl (by kernel_rfl) Tryd.func9 (by kernel_rfl)
    (of_decide_eq_true (by kernel_rfl)) (by unfold Func.isWrapper; first | (rw [if_pos (by decide +kernel)]; kernel_rfl) | (rw [if_neg (by decide +kernel)]; exact ⟨rfl, rfl⟩))
    (fun os started H enc _ F => by rw [OpenClaim.pre_eq_preRow]; exact lifted os started H enc F)
theorem plain (f : FuncId) (fn : Func) (hf : Tryd.pinned.checked.prog.funcNamed "usher/usherlaw9.TermsScopeOrder" = some f) (hfn : Tryd.pinned.checked.prog.funcs[f]? = some fn) :
    true = Tryd.pinned.checked.prog.looks [] ∧ ∀ (j : Nat) t, fn.params[j]? = some t → Tryd.pinned.checked.prog.wantsStandIn t = false := by
  obtain rfl : f = 9 := Option.some.inj ((show Tryd.prog.funcNamed "usher/usherlaw9.TermsScopeOrder" = some 9 by kernel_rfl).symm.trans hf) |>.symm
  obtain rfl : fn = Tryd.f9 := (Option.some.inj (Tryd.func9.symm.trans hfn)).symm
  refine ⟨by kernel_rfl, fun j t ht => ?_⟩
  rw [Tryd.params9] at ht
  have hm := Array.mem_of_getElem? ht
  simp only [List.mem_toArray, List.mem_cons, List.not_mem_nil, or_false] at hm
  rcases hm with rfl
  · exact (show Tryd.prog.wantsStandIn 44 = false by kernel_rfl)
theorem card : Rows.TermsScopeOrderUptoCardSaid :=
  Claim7.holds_tied_plain_at .later [] _ _ _ _ over (fun _ h => by cases h) (by kernel_rfl) (fun _ h => by cases h) termsScopeOrderUpto_row_tie rfl ⟨rfl, rfl⟩ (by kernel_rfl) rfl plain (by kernel_rfl)
#print axioms card
end Go.Proofs.YtopfmcgmfnmikaaDoor.termsScopeOrderUpto
namespace Go.Proofs.YtopfmcgmfnmikaaDoor
theorem termsScopeOrderUpto_holds : Rows.TermsScopeOrderUptoCardSaid := termsScopeOrderUpto.card
end Go.Proofs.YtopfmcgmfnmikaaDoor
