/- TermsSplits: the law answers true at every input that the statement speaks of. -/
import Derived.Test.YtopfmcgmfnmikaaRows
import Derived.Test.YtopfmcgmfnmikaaXOpen
import Derived.Test.YtopfmcgmfnmikaaXx5
import Derived.Test.YtopfmcgmfnmikaaZTermsSplits
import Derived.WalkKit
import Derived.ProofKit
import Derived.OpenShut
import Derived.ShutString
import Derived.ChangeOld
import Derived.Below
import Derived.Carry
import Derived.SizedLaws
import Derived.Deep.DeepHandedRow
import Derived.Deep.DeepWitnessRowRef
import Derived.LaidMore
import Derived.Lib.LaidTab
set_option linter.unusedVariables false
namespace Go.Proofs.Ytopfmcgmfnmikaa.termsSplits
open Go Go.ChangeShapes Go.WideShapes Go.ChangeAt Go.RowKit Go.Proofs.Ytopfmcgmfnmikaa Go.Proofs.Ytopfmcgmfnmikaa.O Go.Proofs.Ytopfmcgmfnmikaa.X Go.Proofs.YtopfmcgmfnmikaaW.PrintWords
theorem own : ownKnob Try.prog.godebug = none := by kernel_rfl
theorem laidOut : laidOutB Try.prog = true := by kernel_rfl
noncomputable def op0 := (oStr (P := Try.prog) (T := 9) Try.underlying9)
set_option maxRecDepth 100000 in
theorem contract (H : Type) (enc : TypeId × Value → H) (W : World) (args : Array Value) (ds gs : List (DataW H)) (before : List MemPlace)
    (hval : ∀ (j : Nat) t v, Try.f7.params[j]? = some t → args[j]? = some v → Value.okWide Try.prog W .any 0 t v)
    (hW : DataW.Whole enc Try.prog Try.f7.params.toList Rows.termsSplitsSpec.vars false W args.toList ds gs before)
    (hsz : (DataW.weightsEach Try.prog (Try.f7.params.toList ++ Rows.termsSplitsSpec.plain.varTypes Try.prog) (ds ++ gs)).all (· ≤ reachBytes) = true)
    : Calls Try.prog 7 args W fun e W' => ∃ v, e = .returned v ∧ Rows.termsSplitsSpec.post enc Try.prog Try.f7 false true false false W args v W' := by
  have hW' := hW
  obtain ⟨p, q, hA0, hV, rfl, hfz, hnd⟩ := hW
  have hA : DataW.TrodAll enc Try.prog W 0 (fun _ => true) true Try.f7.params.toList args.toList ds p := hA0
  rw [Try.params7] at hA hval hsz
  obtain ⟨v0, vs0, d0, ds0, p0, q0, hargs, rfl, rfl, h0, r0⟩ := trodAll_cons hA
  obtain ⟨rfl, rfl, rfl⟩ := trodAll_nil r0
  obtain rfl : args = #[v0] := by cases args; simp_all
  obtain ⟨rfl, rfl⟩ := trodVars_none hV
  have k0 := h0
  have lt0 : ∀ x ∈ p0, x.block < W.heap.size := by obtain ⟨m, hm⟩ := k0; exact DataW.trod_lt m _ _ _ hm
  have z0 : ∀ n ∈ d0.weights Try.prog 9, n ≤ 140737488351232 := fun n hn => by
    have := List.all_eq_true.1 hsz n (DataW.weights_mem_each (j := 0) (t := 9) rfl rfl n hn)
    exact of_decide_eq_true this
  obtain ⟨fuel0, f0⟩ := h0
  obtain ⟨a0, rfl, e_, rfl, _⟩ := ChangeMaps.open_string Try.underlying9 (hval 0 9 v0 rfl rfl) k0
  obtain ⟨x_, hx_, hF0, hM0, hS0⟩ := (op0).op f0
  obtain rfl : a0 = x_ := by
    have hx2_ : [Value.string a0] = _ := hx_
    simpa using hx2_
  obtain ⟨kk, hk⟩ := Y.splits a0 hF0 (hS0 z0)
  refine (usherlaw9_TermsSplits.calls kk a0 true W  hk).mono fun e W' h => ?_
  obtain ⟨rfl, bel0⟩ := h
  have bel := bel0.below
  exact ⟨_, rfl, _, _, _, [], _, [], hW', trodAll_mk1 (shut_bool Try.underlying4 _), (trodAll_cons_mk (Below.trod laidOut (by kernel_rfl) (of_decide_eq_true (by kernel_rfl)) k0 bel lt0) trodAll_mk0), rfl, bel.frame _, fun h => by cases h⟩
theorem reads (os : Os) {H : Type} (enc : TypeId × Value → H) : ∃ places, DataW.whole enc Try.prog ((World.holding Try.prog os ⟨#[], #[], []⟩).forCall (fun _ _ => 0) ⟨#[], #[.string ByteArray.empty], []⟩).memory Try.f7.params.toList Rows.termsSplitsSpec.vars false (#[.string ByteArray.empty] : Array Value).toList 8 = some ([.lit (.string [])], [], places) :=
  ⟨[], by kernel_rfl⟩
set_option maxRecDepth 100000 in
theorem lifted (os : Os) (started : os.Started) (H : Type) (enc : TypeId × Value → H) (F : Stop.Interp) :
    ReturnsInHanded {} Try.checked os 7 .any ((OpenSpec.ofChange Rows.termsSplitsSpec).preRow enc Try.prog Try.f7 Rows.termsSplitsRow.domain false Rows.termsSplitsRow.laid) (((OpenSpec.ofChange Rows.termsSplitsSpec).at F).post enc Try.prog Try.f7 false true false false) := by
  obtain ⟨places, hx⟩ := reads os enc
  refine returnsInHanded_of_row (C := Try.checked) (s := (OpenSpec.ofChange Rows.termsSplitsSpec)) own started (by kernel_rfl) Try.func7
    (witness_row_at (enc := enc) (C := Try.checked) false (World.holding Try.prog os ⟨#[], #[], []⟩) #[.string ByteArray.empty] rfl (by kernel_rfl) (by kernel_rfl) (by kernel_rfl)
      (OpenSpec.preRow_of_cond 8 hx (by kernel_rfl) (fun k hk => by cases hk) (by kernel_rfl) (laidMet_of_run' 8 (by kernel_rfl) (by kernel_rfl)))) ?_
  intro W base args ds gs before hval hW _ hcond hsz hL _ _
  exact contract H enc W args ds gs before (fun j t v h1 h2 => by first | exact hval j t v h1 h2 | exact (hval j t v h1 h2)) hW hsz
theorem over : Rows.termsSplitsRow.holds Try.pinned (OpenSpec.ofChange Rows.termsSplitsSpec) :=
  OpenClaim.holds_of_cond 7 Try.f7 rfl rfl rfl rfl rfl rfl rfl ⟨rfl, rfl, rfl, rfl, rfl⟩ rfl rfl rfl rfl rfl (by kernel_rfl) Try.func7 (by kernel_rfl)
    (of_decide_eq_true (by kernel_rfl)) (by unfold Func.isWrapper; first | (rw [if_pos (by decide +kernel)]; kernel_rfl) | (rw [if_neg (by decide +kernel)]; exact ⟨rfl, rfl⟩))
    (fun os started H enc _ F => by rw [OpenClaim.pre_eq_preRow]; exact lifted os started H enc F)
theorem said : Rows.TermsSplitsSaid := over
#print axioms said
end Go.Proofs.Ytopfmcgmfnmikaa.termsSplits
namespace Go.Proofs.Ytopfmcgmfnmikaa
theorem termsSplits_holds : Rows.TermsSplitsSaid := termsSplits.said
end Go.Proofs.Ytopfmcgmfnmikaa
