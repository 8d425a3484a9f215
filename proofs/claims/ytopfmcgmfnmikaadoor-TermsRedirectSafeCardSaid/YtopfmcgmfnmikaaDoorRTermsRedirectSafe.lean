/- TermsRedirectSafe: the law answers true at every input that the statement speaks of. -/
import Derived.Test.YtopfmcgmfnmikaaDoorRows
import Derived.Test.YtopfmcgmfnmikaaDoorXOpen
import Derived.Test.YtopfmcgmfnmikaaDoorXx8
import Derived.Test.YtopfmcgmfnmikaaDoorZTermsRedirectSafe
import Derived.Test.YtopfmcgmfnmikaaDoorCards
import Derived.Test.YtopfmcgmfnmikaaDoorTie
import Derived.Test.YtopfmcgmfnmikaaDoorXLaid
import Derived.WalkKit
import Derived.ProofKit
import Derived.OpenShut
import Derived.ShutString
import Derived.ChangeOld
import Derived.Below
import Derived.Carry
import Derived.SizedLaws
import Derived.Deep.DeepHandedRow
import Derived.Deep.DeepWitnessRowRef
import Derived.LaidMore
import Derived.Lib.LaidTab
import Derived.Lay
set_option linter.unusedVariables false
namespace Go.Proofs.YtopfmcgmfnmikaaDoor.termsRedirectSafe
open Go Go.ChangeShapes Go.WideShapes Go.ChangeAt Go.RowKit Go.Proofs.YtopfmcgmfnmikaaDoor Go.Proofs.YtopfmcgmfnmikaaDoor.O Go.Proofs.YtopfmcgmfnmikaaDoor.X Go.Proofs.YtopfmcgmfnmikaaDoorW.PrintWords
theorem own : ownKnob Tryd.prog.godebug = none := by kernel_rfl
theorem laidOut : laidOutB Tryd.prog = true := by kernel_rfl
noncomputable def op0 := (oStr (P := Tryd.prog) (T := 9) Tryd.underlying9)
def SS : List Int := [103]
theorem sent {W : World} (h : laidMetH Tryd.prog Rows.termsRedirectSafeRow.laid W) : ∃ EA : Int → Addr, Sent EA SS W := by
  rw [MakeChecks.laidMetH_plain _ _ _ (by kernel_rfl)] at h
  have t103 := laid_heads h 1 rfl
  obtain ⟨EA, h1⟩ := anyErr (laid_heads_blk h 1 rfl)
  refine ⟨EA, h1, fun k hk => ?_⟩
  simp only [SS, List.mem_cons, List.not_mem_nil, or_false] at hk
  rcases hk with rfl
  · exact t103
set_option maxRecDepth 100000 in
theorem contract (H : Type) (enc : TypeId × Value → H) (W : World) (args : Array Value) (ds gs : List (DataW H)) (before : List MemPlace)
    (hval : ∀ (j : Nat) t v, Tryd.f4.params[j]? = some t → args[j]? = some v → Value.okWide Tryd.prog W .any 0 t v)
    (hW : DataW.Whole enc Tryd.prog Tryd.f4.params.toList Rows.termsRedirectSafeSpec.vars false W args.toList ds gs before)
    (hsz : (DataW.weightsEach Tryd.prog (Tryd.f4.params.toList ++ Rows.termsRedirectSafeSpec.plain.varTypes Tryd.prog) (ds ++ gs)).all (· ≤ reachBytes) = true)
    (hL : laidMetH Tryd.prog Rows.termsRedirectSafeRow.laid W)
    : Calls Tryd.prog 4 args W fun e W' => ∃ v, e = .returned v ∧ Rows.termsRedirectSafeSpec.post enc Tryd.prog Tryd.f4 false true false false W args v W' := by
  have hW' := hW
  obtain ⟨p, q, hA0, hV, rfl, hfz, hnd⟩ := hW
  have hA : DataW.TrodAll enc Tryd.prog W 0 (fun _ => true) true Tryd.f4.params.toList args.toList ds p := hA0
  rw [Tryd.params4] at hA hval hsz
  obtain ⟨v0, vs0, d0, ds0, p0, q0, hargs, rfl, rfl, h0, r0⟩ := trodAll_cons hA
  obtain ⟨rfl, rfl, rfl⟩ := trodAll_nil r0
  obtain rfl : args = #[v0] := by cases args; simp_all
  obtain ⟨rfl, rfl⟩ := trodVars_none hV
  have k0 := h0
  have lt0 : ∀ x ∈ p0, x.block < W.heap.size := by obtain ⟨m, hm⟩ := k0; exact DataW.trod_lt m _ _ _ hm
  have z0 : ∀ n ∈ d0.weights Tryd.prog 9, n ≤ 140737488351232 := fun n hn => by
    have := List.all_eq_true.1 hsz n (DataW.weights_mem_each (j := 0) (t := 9) rfl rfl n hn)
    exact of_decide_eq_true this
  obtain ⟨fuel0, f0⟩ := h0
  obtain ⟨a0, rfl, e_, rfl, _⟩ := ChangeMaps.open_string Tryd.underlying9 (hval 0 9 v0 rfl rfl) k0
  obtain ⟨x_, hx_, hF0, hM0, hS0⟩ := (op0).op f0
  obtain rfl : a0 = x_ := by
    have hx2_ : [Value.string a0] = _ := hx_
    simpa using hx2_
  obtain ⟨EA, hE⟩ := sent hL
  obtain ⟨kk, hk⟩ := Y.redirectSafe a0 hF0 (hS0 z0)
  refine (usherlaw9_TermsRedirectSafe.calls (EA := EA) (SS := SS) (by decide) kk a0 true W hE  hk).mono fun e W' h => ?_
  obtain ⟨rfl, bel⟩ := h
  exact ⟨_, rfl, _, _, _, [], _, [], hW', trodAll_mk1 (shut_bool Tryd.underlying4 _), (trodAll_cons_mk (Below.trod laidOut (by kernel_rfl) (of_decide_eq_true (by kernel_rfl)) k0 bel lt0) trodAll_mk0), rfl, bel.frame _, fun h => by cases h⟩
theorem laid_met (os : Os) : laidMet Tryd.prog Rows.termsRedirectSafeRow.laid ((World.laidAll Tryd.prog os Rows.termsRedirectSafeRow.laid).forCall (fun _ _ => 0) ⟨#[], #[.string ByteArray.empty], []⟩).memory :=
  laidMet_laidAll _ (by kernel_rfl) (by kernel_rfl)
theorem reads (os : Os) {H : Type} (enc : TypeId × Value → H) : ∃ places, DataW.whole enc Tryd.prog ((World.laidAll Tryd.prog os Rows.termsRedirectSafeRow.laid).forCall (fun _ _ => 0) ⟨#[], #[.string ByteArray.empty], []⟩).memory Tryd.f4.params.toList Rows.termsRedirectSafeSpec.vars false (#[.string ByteArray.empty] : Array Value).toList 8 = some ([.lit (.string [])], [], places) :=
  ⟨[], by kernel_rfl⟩
set_option maxRecDepth 100000 in
theorem lifted (os : Os) (started : os.Started) (H : Type) (enc : TypeId × Value → H) (F : Stop.Interp) :
    ReturnsInHanded {} Tryd.checked os 4 .any ((OpenSpec.ofChange Rows.termsRedirectSafeSpec).preRow enc Tryd.prog Tryd.f4 Rows.termsRedirectSafeRow.domain false Rows.termsRedirectSafeRow.laid) (((OpenSpec.ofChange Rows.termsRedirectSafeSpec).at F).post enc Tryd.prog Tryd.f4 false true false false) := by
  obtain ⟨places, hx⟩ := reads os enc
  refine returnsInHanded_of_row (C := Tryd.checked) (s := (OpenSpec.ofChange Rows.termsRedirectSafeSpec)) own started (by kernel_rfl) Tryd.func4
    (witness_row_atRef (enc := enc) (C := Tryd.checked) false (World.laidAll Tryd.prog os Rows.termsRedirectSafeRow.laid) #[.string ByteArray.empty] rfl (by kernel_rfl) (by kernel_rfl) (by kernel_rfl)
      (OpenSpec.preRow_of_cond 8 hx (by kernel_rfl) (fun k hk => by cases hk) (by kernel_rfl) (laid_met os))) ?_
  intro W base args ds gs before hval hW _ hcond hsz hL _ _
  exact contract H enc W args ds gs before (fun j t v h1 h2 => by first | exact hval j t v h1 h2 | exact (hval j t v h1 h2)) hW hsz hL
theorem over : Rows.termsRedirectSafeRow.holds Tryd.pinned (OpenSpec.ofChange Rows.termsRedirectSafeSpec) :=
  OpenClaim.holds_of_cond 4 Tryd.f4 rfl rfl rfl rfl rfl rfl rfl ⟨rfl, rfl, rfl, rfl, rfl⟩ rfl rfl rfl rfl rfl (by kernel_rfl) Tryd.func4 (by kernel_rfl)
    (of_decide_eq_true (by kernel_rfl)) (by unfold Func.isWrapper; first | (rw [if_pos (by decide +kernel)]; kernel_rfl) | (rw [if_neg (by decide +kernel)]; exact ⟨rfl, rfl⟩))
    (fun os started H enc _ F => by rw [OpenClaim.pre_eq_preRow]; exact lifted os started H enc F)
theorem plain (f : FuncId) (fn : Func) (hf : Tryd.pinned.checked.prog.funcNamed "usher/usherlaw9.TermsRedirectSafe" = some f) (hfn : Tryd.pinned.checked.prog.funcs[f]? = some fn) :
    true = Tryd.pinned.checked.prog.looks [] ∧ ∀ (j : Nat) t, fn.params[j]? = some t → Tryd.pinned.checked.prog.wantsStandIn t = false := by
  obtain rfl : f = 4 := Option.some.inj ((show Tryd.prog.funcNamed "usher/usherlaw9.TermsRedirectSafe" = some 4 by kernel_rfl).symm.trans hf) |>.symm
  obtain rfl : fn = Tryd.f4 := (Option.some.inj (Tryd.func4.symm.trans hfn)).symm
  refine ⟨by kernel_rfl, fun j t ht => ?_⟩
  rw [Tryd.params4] at ht
  have hm := Array.mem_of_getElem? ht
  simp only [List.mem_toArray, List.mem_cons, List.not_mem_nil, or_false] at hm
  rcases hm with rfl
  · exact (show Tryd.prog.wantsStandIn 9 = false by kernel_rfl)
theorem card : Rows.TermsRedirectSafeCardSaid :=
  Claim7.holds_tied_plain_at .later [] _ _ _ _ over (fun _ h => by cases h) (by kernel_rfl) (fun _ h => by cases h) termsRedirectSafe_row_tie rfl ⟨rfl, rfl⟩ (by kernel_rfl) rfl plain (by kernel_rfl)
#print axioms card
end Go.Proofs.YtopfmcgmfnmikaaDoor.termsRedirectSafe
namespace Go.Proofs.YtopfmcgmfnmikaaDoor
theorem termsRedirectSafe_holds : Rows.TermsRedirectSafeCardSaid := termsRedirectSafe.card
end Go.Proofs.YtopfmcgmfnmikaaDoor
