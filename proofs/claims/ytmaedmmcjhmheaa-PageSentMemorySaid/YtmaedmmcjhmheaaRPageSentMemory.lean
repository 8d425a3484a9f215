/- PageSentMemory: the law answers true at every input that the statement speaks of. -/
import Derived.Test.YtmaedmmcjhmheaaRows
import Derived.Test.YtmaedmmcjhmheaaXOpen
import Derived.Test.YtmaedmmcjhmheaaXx8
import Derived.Test.YtmaedmmcjhmheaaZPageSentMemory
import Derived.WalkKit
import Derived.ProofKit
import Derived.OpenShut
import Derived.ShutString
import Derived.ChangeOld
import Derived.Below
import Derived.Carry
import Derived.SizedLaws
import Derived.Deep.DeepHandedRow
import Derived.Deep.DeepWitnessRowRef
import Derived.LaidMore
import Derived.Lib.LaidTab
import Derived.Lay
set_option linter.unusedVariables false
namespace Go.Proofs.Ytmaedmmcjhmheaa.pageSentMemory
open Go Go.ChangeShapes Go.WideShapes Go.ChangeAt Go.RowKit Go.Proofs.Ytmaedmmcjhmheaa Go.Proofs.Ytmaedmmcjhmheaa.O Go.Proofs.Ytmaedmmcjhmheaa.X Go.Proofs.YtmaedmmcjhmheaaW.PrintWords
theorem own : ownKnob Try.prog.godebug = none := by kernel_rfl
theorem laidOut : laidOutB Try.prog = true := by kernel_rfl
noncomputable def op0 := (oStruct (P := Try.prog) (T := 27) Try.underlying27 rfl (by kernel_rfl) (by kernel_rfl) (fCons (oStruct (P := Try.prog) (T := 24) Try.underlying24 rfl (by kernel_rfl) (by kernel_rfl) (fCons (oStr (P := Try.prog) (T := 9) Try.underlying9) (fCons (oSlice (P := Try.prog) (T := 22) (e := 30) Try.underlying22 (by kernel_rfl) (oIso (fun x : S30 => (x.f0, x.f1, x.f2, x.f3)) (fun y => ⟨y.1, y.2.1, y.2.2.1, y.2.2.2⟩) (fun _ => rfl) (oStruct (P := Try.prog) (T := 30) Try.underlying30 rfl (by kernel_rfl) (by kernel_rfl) (fCons (oInt (P := Try.prog) (T := 3) Try.underlying3) (fCons (oStr (P := Try.prog) (T := 9) Try.underlying9) (fCons (oStr (P := Try.prog) (T := 9) Try.underlying9) (fLast (oStr (P := Try.prog) (T := 9) Try.underlying9)))))))) (fLast (oStr (P := Try.prog) (T := 9) Try.underlying9))))) (fLast (oSlice (P := Try.prog) (T := 25) (e := 32) Try.underlying25 (by kernel_rfl) (oIso (fun x : S32 => (x.f0, x.f1)) (fun y => ⟨y.1, y.2⟩) (fun _ => rfl) (oStruct (P := Try.prog) (T := 32) Try.underlying32 rfl (by kernel_rfl) (by kernel_rfl) (fCons (oStr (P := Try.prog) (T := 9) Try.underlying9) (fLast (oStr (P := Try.prog) (T := 9) Try.underlying9)))))))))
set_option maxRecDepth 100000 in
theorem contract (H : Type) (enc : TypeId × Value → H) (W : World) (args : Array Value) (ds gs : List (DataW H)) (before : List MemPlace)
    (hval : ∀ (j : Nat) t v, Try.f4.params[j]? = some t → args[j]? = some v → Value.okWide Try.prog W .any 0 t v)
    (hW : DataW.Whole enc Try.prog Try.f4.params.toList Rows.pageSentMemorySpec.vars false W args.toList ds gs before)
    (hsz : (DataW.weightsEach Try.prog (Try.f4.params.toList ++ Rows.pageSentMemorySpec.plain.varTypes Try.prog) (ds ++ gs)).all (· ≤ reachBytes) = true)
    : Calls Try.prog 4 args W fun e W' => ∃ v, e = .returned v ∧ Rows.pageSentMemorySpec.post enc Try.prog Try.f4 false true false false W args v W' := by
  have hW' := hW
  obtain ⟨p, q, hA0, hV, rfl, hfz, hnd⟩ := hW
  have hA : DataW.TrodAll enc Try.prog W 0 (fun _ => true) true Try.f4.params.toList args.toList ds p := hA0
  rw [Try.params4] at hA hval hsz
  obtain ⟨v0, vs0, d0, ds0, p0, q0, hargs, rfl, rfl, h0, r0⟩ := trodAll_cons hA
  obtain ⟨rfl, rfl, rfl⟩ := trodAll_nil r0
  obtain rfl : args = #[v0] := by cases args; simp_all
  obtain ⟨rfl, rfl⟩ := trodVars_none hV
  have k0 := h0
  have lt0 : ∀ x ∈ p0, x.block < W.heap.size := by obtain ⟨m, hm⟩ := k0; exact DataW.trod_lt m _ _ _ hm
  have z0 : ∀ n ∈ d0.weights Try.prog 27, n ≤ 140737488351232 := fun n hn => by
    have := List.all_eq_true.1 hsz n (DataW.weights_mem_each (j := 0) (t := 27) rfl rfl n hn)
    exact of_decide_eq_true this
  obtain ⟨fuel0, f0⟩ := h0
  obtain ⟨cs0, rfl, _⟩ := okWide_struct Try.underlying27 (hval 0 27 v0 rfl rfl)
  obtain ⟨x0, hK0, hF0, hM0, hS0⟩ := (op0).op (cs := cs0.toList) f0
  obtain ⟨⟨a0_0, l0_1, a0_2⟩, l0_3⟩ := x0
  obtain ⟨_, _, hcs0, ⟨_, _, rfl, rfl, ⟨_, _, rfl, ⟨A0_1, c0_1, rfl, hc0_1, hr0_1⟩, rfl⟩⟩, ⟨A0_3, c0_3, rfl, hc0_3, hr0_3⟩⟩ := hK0
  obtain rfl : cs0 = #[.string a0_0, .slice A0_1 l0_1.length c0_1, .string a0_2, .slice A0_3 l0_3.length c0_3] := by
    obtain ⟨m_⟩ := cs0
    simpa using hcs0
  obtain ⟨kk, hk⟩ := Go.Proofs.Ytmaedmmcjhmheaa.Y.sentMemory a0_0 l0_1 a0_2 l0_3 hF0 (hS0 z0)
  refine (usherlaw5_PageSentMemory.calls kk a0_0 A0_1 c0_1 l0_1 a0_2 A0_3 c0_3 l0_3 true W hr0_1 hc0_1 hr0_3 hc0_3 hk).mono fun e W' h => ?_
  obtain ⟨rfl, bel⟩ := h
  exact ⟨_, rfl, _, _, _, [], _, [], hW', trodAll_mk1 (shut_bool Try.underlying4 _), (trodAll_cons_mk (Below.trod laidOut (by kernel_rfl) (of_decide_eq_true (by kernel_rfl)) k0 bel lt0) trodAll_mk0), rfl, bel.frame _, fun h => by cases h⟩
theorem reads (os : Os) {H : Type} (enc : TypeId × Value → H) : ∃ places, DataW.whole enc Try.prog ((World.holding Try.prog os ⟨#[], #[], []⟩).forCall (fun _ _ => 0) ⟨#[], #[.agg #[.string ByteArray.empty, .slice none 0 0, .string ByteArray.empty, .slice none 0 0]], []⟩).memory Try.f4.params.toList Rows.pageSentMemorySpec.vars false (#[.agg #[.string ByteArray.empty, .slice none 0 0, .string ByteArray.empty, .slice none 0 0]] : Array Value).toList 8 = some ([.agg [.agg [.lit (.string []), .nil, .lit (.string [])], .nil]], [], places) :=
  ⟨[], by kernel_rfl⟩
set_option maxRecDepth 100000 in
theorem lifted (os : Os) (started : os.Started) (H : Type) (enc : TypeId × Value → H) (F : Stop.Interp) :
    ReturnsInHanded {} Try.checked os 4 .any ((OpenSpec.ofChange Rows.pageSentMemorySpec).preRow enc Try.prog Try.f4 Rows.pageSentMemoryRow.domain false Rows.pageSentMemoryRow.laid) (((OpenSpec.ofChange Rows.pageSentMemorySpec).at F).post enc Try.prog Try.f4 false true false false) := by
  obtain ⟨places, hx⟩ := reads os enc
  refine returnsInHanded_of_row (C := Try.checked) (s := (OpenSpec.ofChange Rows.pageSentMemorySpec)) own started (by kernel_rfl) Try.func4
    (witness_row_at (enc := enc) (C := Try.checked) false (World.holding Try.prog os ⟨#[], #[], []⟩) #[.agg #[.string ByteArray.empty, .slice none 0 0, .string ByteArray.empty, .slice none 0 0]] rfl (by kernel_rfl) (by kernel_rfl) (by kernel_rfl)
      (OpenSpec.preRow_of_cond 8 hx (by kernel_rfl) (fun k hk => by cases hk) (by kernel_rfl) (laidMet_of_run' 8 (by kernel_rfl) (by kernel_rfl)))) ?_
  intro W base args ds gs before hval hW _ hcond hsz hL _ _
  exact contract H enc W args ds gs before (fun j t v h1 h2 => by first | exact hval j t v h1 h2 | exact (hval j t v h1 h2)) hW hsz
theorem over : Rows.pageSentMemoryRow.holds Try.pinned (OpenSpec.ofChange Rows.pageSentMemorySpec) :=
  OpenClaim.holds_of_cond 4 Try.f4 rfl rfl rfl rfl rfl rfl rfl ⟨rfl, rfl, rfl, rfl, rfl⟩ rfl rfl rfl rfl rfl (by kernel_rfl) Try.func4 (by kernel_rfl)
    (of_decide_eq_true (by kernel_rfl)) (by unfold Func.isWrapper; first | (rw [if_pos (by decide +kernel)]; kernel_rfl) | (rw [if_neg (by decide +kernel)]; exact ⟨rfl, rfl⟩))
    (fun os started H enc _ F => by rw [OpenClaim.pre_eq_preRow]; exact lifted os started H enc F)
theorem said : Rows.PageSentMemorySaid := over
#print axioms said
end Go.Proofs.Ytmaedmmcjhmheaa.pageSentMemory
namespace Go.Proofs.Ytmaedmmcjhmheaa
theorem pageSentMemory_holds : Rows.PageSentMemorySaid := pageSentMemory.said
end Go.Proofs.Ytmaedmmcjhmheaa
