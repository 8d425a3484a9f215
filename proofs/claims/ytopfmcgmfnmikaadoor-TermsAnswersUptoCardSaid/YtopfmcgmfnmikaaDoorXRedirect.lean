/- terms' forms (a table of functions) and Redirect walked by hand: its contract in the print's form. Condition: the two heads' cells (Sent). -/
import Derived.Test.YtopfmcgmfnmikaaDoorXBytesOf
import Derived.Lib.Hide
import Derived.Laws.EntriesVeiled
import Derived.StillTailTactics
-- IMPORTS
import Derived.Test.YtopfmcgmfnmikaaDoorXx3
set_option linter.unusedVariables false
set_option linter.unusedSimpArgs false
namespace Go.Proofs.YtopfmcgmfnmikaaDoor.X
open Go.RowKit Go.Proofs.YtopfmcgmfnmikaaDoorW.PrintWords Go.Proofs.YtopfmcgmfnmikaaDoorW.PrintLast Go.Proofs.YtopfmcgmfnmikaaDoorW.PrintMore
open Go.Proofs.YtopfmcgmfnmikaaDoor
variable {EA : Int → Addr} {SS : List Int}
abbrev headS : ByteArray := ⟨#[104, 116, 116, 112, 115, 58, 47, 47]⟩
abbrev headP : ByteArray := ⟨#[104, 116, 116, 112, 58, 47, 47]⟩
def hp (s p : ByteArray) : Bool := Lib.hasPrefix s.data.toList p.data.toList
theorem hp_size {s p : ByteArray} (h : hp s p = true) : p.size ≤ s.size := by
  have := List.IsPrefix.length_le (List.isPrefixOf_iff_prefix.1 h)
  rw [Y.size_data, Y.size_data] at this
  exact this
set_option maxHeartbeats 4000000 in
theorem prefix_yes (s p : ByteArray) (w : World) (h : hp s p = true) : Calls Tryd.prog 49 #[.string s, .string p] w fun e w' => e = .returned (.int .i64 p.size) ∧ w = w' := by
  unfold hp at h
  go_enter Tryd.func49, Tryd.ntmps49
  go_wp2_with (go_at_call 74; refine (Tryd.strings_HasPrefix _ _ _).mono ?_; rintro e w' ⟨rfl, rfl⟩; rw [h])
  go_ret
  exact ⟨rfl, rfl⟩
set_option maxHeartbeats 4000000 in
theorem prefix_no (s p : ByteArray) (w : World) (h : hp s p = false) : Calls Tryd.prog 49 #[.string s, .string p] w fun e w' => e = .returned (.int .i64 0) ∧ w = w' := by
  unfold hp at h
  go_enter Tryd.func49, Tryd.ntmps49
  go_wp2_with (go_at_call 74; refine (Tryd.strings_HasPrefix _ _ _).mono ?_; rintro e w' ⟨rfl, rfl⟩; rw [h])
  go_ret
  exact ⟨rfl, rfl⟩
theorem head_at {w : World} (hk103 : (103 : Int) ∈ SS) (hE : Sent EA SS w) : w.cell? ⟨7, 0, none⟩ = some (.string headS) ∧ w.cell? ⟨7, 1, none⟩ = some (.string headP) := by
  have := hE.cells 103 hk103
  simpa [LaidCell] using this
set_option maxHeartbeats 4000000 in
theorem head0 (hk103 : (103 : Int) ∈ SS) (s : ByteArray) (w : World) (hE : Sent EA SS w) (b : Bool) (h : hp s headS = b) : Calls Tryd.prog 48 #[.string s] w fun e w' => e = .returned (.int .i64 (if b = true then 8 else 0)) ∧ w = w' := by
  have hc := (head_at hk103 hE).1
  cases b
  all_goals
    go_enter Tryd.func48, Tryd.ntmps48
    go_wp2_with (go_at_call 49; first | (refine (prefix_yes _ _ _ h).mono ?_; rintro e w' ⟨rfl, rfl⟩) | (refine (prefix_no _ _ _ h).mono ?_; rintro e w' ⟨rfl, rfl⟩))
    go_ret
    exact ⟨rfl, rfl⟩
set_option maxHeartbeats 4000000 in
theorem head1 (hk103 : (103 : Int) ∈ SS) (s : ByteArray) (w : World) (hE : Sent EA SS w) (b : Bool) (h : hp s headP = b) : Calls Tryd.prog 51 #[.string s] w fun e w' => e = .returned (.int .i64 (if b = true then 7 else 0)) ∧ w = w' := by
  have hc := (head_at hk103 hE).2
  cases b
  all_goals
    go_enter Tryd.func51, Tryd.ntmps51
    go_wp2_with (go_at_call 49; first | (refine (prefix_yes _ _ _ h).mono ?_; rintro e w' ⟨rfl, rfl⟩) | (refine (prefix_no _ _ _ h).mono ?_; rintro e w' ⟨rfl, rfl⟩))
    go_ret
    exact ⟨rfl, rfl⟩
set_option maxHeartbeats 4000000 in
theorem forms_calls (w : World) : Calls Tryd.prog 29 #[] w fun e w' => e = .returned (.agg #[.func (.func 48) #[] #[], .func (.func 50) #[] #[], .func (.func 51) #[] #[], .func (.func 52) #[] #[], .func (.func 53) #[] #[], .func (.func 54) #[] #[]]) ∧ Below w.heap.size w w' := by
  go_enter Tryd.func29, Tryd.ntmps29
  go_wp2
  exact bodyPost_ret (v := .agg #[.func (.func 48) #[] #[], .func (.func 50) #[] #[], .func (.func 51) #[] #[], .func (.func 52) #[] #[], .func (.func 53) #[] #[], .func (.func 54) #[] #[]]) (by simp [results, Tryd.results29, go_sem]) rfl ⟨rfl, by repeat (first | exact Below.refl _ _ | refine Below.setCell ?_ (Nat.le_refl _) _ | refine Below.alloc ?_ (Nat.le_refl _) _)⟩
section
variable {P : Program} {ops : Array Oper} {Q : Exit → Act → World → Prop}
/-- a call through a function value that is known -/
theorem goesV_ {oi : Oper} {N : Option Tmp} {a : Act} {w : World} {K : Act → World → Prop} {f : FuncId} {fn : Func} {o : Operand} {xs : Array Operand} {ts : Array TypeId} (hf : P.funcs[f]? = some fn) (hname : (fn.name == "runtime.NumGoroutine") = false) (hb : fn.body.isSome = true) (args : Array Value)
    (hw : Region.wanted oi (yielded ops a.tmps) = true) (hN : oi.dst = N) (hop : oi.op = .call { callee := .value o, args := xs, argTypes := ts }) (hv : a.eval o = .func (.func f) #[] #[]) (hargs : xs.map a.eval = args)
    (h : Calls P f args w fun e w' => ∃ v, e = .returned v ∧ K (a.put N v) w') : if Region.wanted oi (yielded ops a.tmps) = true then Oper.wp P oi a w K Q else K (a.put N undef) w := by
  refine call_ f args hw hN ?_ h
  have he := enters_ hf hname hb args w
  unfold execOp
  simp [hop, resolve, Deferred.ofValue, invoke, hv, hargs, he]
end
/-- an element of an array of structs, by value -/
theorem run_index_structs {P : Program} (w : World) {t e n m : Nat} {fs : Array Field} {i : TypeInfo} (ht : P.underlying t = some (.array n e)) (he : P.underlying e = some (.struct fs)) (hi : P.info? e = some i) (hc : P.cellsOf e = m) (cs : Array Value) (j : Nat) (h : j < n) :
    (Instr.index t (.agg cs) (.int .i64 (j : Int))).run P w = .ok (.agg (cs.extract (j * m) (j * m + m))) w := by
  have h0 : (0 : Int) ≤ (j : Int) ∧ (j : Int) < (n : Int) := by omega
  have hd : ∀ off, (part e cs off).run P w = .ok (.agg (cs.extract off (off + m))) w := fun off => by
    simp [part, isAgg, run_underlying he, run_sizeOf w hi, hc]
  simp [Instr.index, asIntOf, run_underlying ht, run_sizeOf w hi, hc, h0, hd, h]
theorem form_idx0 (w : World) : (Instr.index 58 (.agg #[.func (.func 48) #[] #[], .func (.func 50) #[] #[], .func (.func 51) #[] #[], .func (.func 52) #[] #[], .func (.func 53) #[] #[], .func (.func 54) #[] #[]]) (.int .i64 0)).run Tryd.prog w = .ok (.agg #[.func (.func 48) #[] #[], .func (.func 50) #[] #[]]) w := by
  obtain ⟨i, hi⟩ := info_of_underlying Tryd.underlying57
  have := run_index_structs w (m := 2) Tryd.underlying58 Tryd.underlying57 hi (by kernel_rfl) #[.func (.func 48) #[] #[], .func (.func 50) #[] #[], .func (.func 51) #[] #[], .func (.func 52) #[] #[], .func (.func 53) #[] #[], .func (.func 54) #[] #[]] 0 (by decide)
  simpa using this
theorem form_idx1 (w : World) : (Instr.index 58 (.agg #[.func (.func 48) #[] #[], .func (.func 50) #[] #[], .func (.func 51) #[] #[], .func (.func 52) #[] #[], .func (.func 53) #[] #[], .func (.func 54) #[] #[]]) (.int .i64 1)).run Tryd.prog w = .ok (.agg #[.func (.func 51) #[] #[], .func (.func 52) #[] #[]]) w := by
  obtain ⟨i, hi⟩ := info_of_underlying Tryd.underlying57
  have := run_index_structs w (m := 2) Tryd.underlying58 Tryd.underlying57 hi (by kernel_rfl) #[.func (.func 48) #[] #[], .func (.func 50) #[] #[], .func (.func 51) #[] #[], .func (.func 52) #[] #[], .func (.func 53) #[] #[], .func (.func 54) #[] #[]] 1 (by decide)
  simpa using this
theorem form_idx2 (w : World) : (Instr.index 58 (.agg #[.func (.func 48) #[] #[], .func (.func 50) #[] #[], .func (.func 51) #[] #[], .func (.func 52) #[] #[], .func (.func 53) #[] #[], .func (.func 54) #[] #[]]) (.int .i64 2)).run Tryd.prog w = .ok (.agg #[.func (.func 53) #[] #[], .func (.func 54) #[] #[]]) w := by
  obtain ⟨i, hi⟩ := info_of_underlying Tryd.underlying57
  have := run_index_structs w (m := 2) Tryd.underlying58 Tryd.underlying57 hi (by kernel_rfl) #[.func (.func 48) #[] #[], .func (.func 50) #[] #[], .func (.func 51) #[] #[], .func (.func 52) #[] #[], .func (.func 53) #[] #[], .func (.func 54) #[] #[]] 2 (by decide)
  simpa using this
def terms_Redirect.f (k : Nat) (s : ByteArray) : Option Bool :=
  if 512 < s.size then some false
  else if hp s headS = true then terms_anywhere.f k (s.extract 8 s.size)
  else if hp s headP = true then terms_local.f k (s.extract 7 s.size)
  else (terms_private.f k s).bind fun n => if 0 < n then (if n ≤ (s.size : Int) then terms_inside.f k (s.extract n.toNat s.size) else none) else some false
theorem terms_Redirect.mono : ∀ a0 k, LeO (terms_Redirect.f k a0) (terms_Redirect.f (k + 1) a0) := by
  intro a0 k
  unfold terms_Redirect.f
  refine LeO.ite (LeO.refl _) (LeO.ite (terms_anywhere.mono _ _) (LeO.ite (terms_local.mono _ _) (LeO.bind (terms_private.mono _ _) (fun n => LeO.ite (LeO.ite (terms_inside.mono _ _) (LeO.none _)) (LeO.refl _)))))

set_option maxHeartbeats 8000000 in
set_option maxRecDepth 100000 in
theorem terms_Redirect.calls (hk103 : (103 : Int) ∈ SS) (k : Nat) (a0 : ByteArray) (r : Bool) (w : World) (hE : Sent EA SS w) (h : terms_Redirect.f k a0 = some r) :
    Calls Tryd.prog 11 #[.string a0] w fun e w' => e = .returned (.bool r) ∧ Below w.heap.size w w' := by
  unfold terms_Redirect.f at h
  replace hE := Lib.hid hE
  by_cases h0 : 512 < a0.size
  · rw [if_pos h0] at h
    obtain rfl := Option.some.inj h
    have hd : decide ((512 : Int) < (a0.size : Int)) = true := decide_eq_true (by omega)
    clear h
    go_enter Tryd.func11, Tryd.ntmps11
    go_wp2
    go_ret
    exact ⟨rfl, Below.refl _ _⟩
  · rw [if_neg h0] at h
    have hd : decide ((512 : Int) < (a0.size : Int)) = false := decide_eq_false (by omega)
    have i0 := form_idx0; have i1 := form_idx1; have i2 := form_idx2
    by_cases h1 : hp a0 headS = true
    · rw [if_pos h1] at h
      replace h := Lib.hid h
      have hz8 : ((8 : Int) ≤ (a0.size : Int)) = True := eq_true (by have : 8 ≤ a0.size := hp_size h1; omega)
      go_enter Tryd.func11, Tryd.ntmps11
      go_wp2_with (go_at_call 29; (with_reducible refine (forms_calls _).mono ?_); rintro e w1 ⟨rfl, b1⟩)
      refine wp_loop_rounds 4 ?_
      rw [rounds_succ]
      go_wp2_with fail
      with_reducible refine (head0 hk103 a0 _ ((hE.out.below b1).below (below_alloc (Below.refl _ _) _)) true h1).mono ?_
      rintro _ w2 ⟨rfl, rfl⟩
      simp only [if_true]
      go_wp2
      obtain ⟨wp, hwp⟩ : ∃ wp : World, w1 = wp := ⟨_, rfl⟩
      subst hwp
      obtain ⟨wp, rfl⟩ : ∃ wp : World, wp = w1 := ⟨_, rfl⟩
      have bp := Lib.hid b1
      have hc := blk_cell (blk_new wp (.cells #[.func (.func 48) #[] #[], .func (.func 50) #[] #[]] 57)) 1
      replace hc := hc.trans (show _ = some (Value.func (.func 50) #[] #[]) from rfl)
      have hb := Lib.hid (below_alloc bp.out (.cells #[.func (.func 48) #[] #[], .func (.func 50) #[] #[]] 57))
      generalize hq : wp.alloc (.cells #[.func (.func 48) #[] #[], .func (.func 50) #[] #[]] 57) = wq at hc hb ⊢
      clear hq
      obtain ⟨gb, hgb⟩ : ∃ gb : Nat, wp.heap.size = gb := ⟨_, rfl⟩
      rw [hgb] at hc ⊢
      refine start_ (n := 7) (S := fun w' => w'.cell? ⟨gb, 1, none⟩ = some (.func (.func 50) #[] #[])) (ds := []) #[false, false, false, false, false, false, false] (by kernel_rfl) rfl rfl (hc) (fun hHeld => ?_)
      refine pure_ (i := 0) (N := some 19) (v := ?_) (a' := ?_) #[true, false, false, false, false, false, false] rfl rfl (by kernel_rfl) (fun _ _ _ h => h) (Or.inl ⟨by rfl, ?_⟩) ?_ ?_
      rotate_left
      · intro w'
        go_simp
        with_reducible rfl
      rotate_left
      · simp only [Act.put, List.setIfInBounds_toArray, List.set_cons_zero, List.set_cons_succ, i64_w, i32_w]
        rfl
      refine pure_ (i := 2) (N := some 21) (v := ?_) (a' := ?_) #[true, false, true, false, false, false, false] rfl rfl (by kernel_rfl) (fun _ _ _ h => h) (Or.inl ⟨by rfl, ?_⟩) ?_ ?_
      rotate_left
      · intro w'
        go_simp
        with_reducible rfl
      rotate_left
      · simp only [Act.put, List.setIfInBounds_toArray, List.set_cons_zero, List.set_cons_succ, i64_w, i32_w]
        rfl
      refine pure_ (i := 3) (N := some 22) (v := ?_) (a' := ?_) #[true, false, true, true, false, false, false] rfl rfl (by kernel_rfl) (fun _ _ _ h => h) (Or.inl ⟨by rfl, ?_⟩) ?_ ?_
      rotate_left
      · intro w'
        go_simp
        with_reducible rfl
      rotate_left
      · simp only [Act.put, List.setIfInBounds_toArray, List.set_cons_zero, List.set_cons_succ, i64_w, i32_w]
        rfl
      refine pure_ (i := 4) (N := some 23) (v := ?_) (a' := ?_) #[true, false, true, true, true, false, false] rfl rfl (by kernel_rfl) (fun _ _ _ h => h) (Or.inl ⟨by rfl, ?_⟩) ?_ ?_
      rotate_left
      · intro w'
        go_simp
        with_reducible rfl
      rotate_left
      · simp only [Act.put, List.setIfInBounds_toArray, List.set_cons_zero, List.set_cons_succ, i64_w, i32_w]
        rfl
      refine take_ (i := 1) (N := some 20) (v := ?_) (a' := ?_) #[true, true, true, true, true, false, false] rfl rfl (by kernel_rfl) (fun _ _ _ h => h) (Or.inl ⟨by rfl, ?_⟩) hHeld ?_ ?_
      rotate_left
      · intro w' s0
        go_simp
        with_reducible rfl
      rotate_left
      · simp only [Act.put, List.setIfInBounds_toArray, List.set_cons_zero, List.set_cons_succ, i64_w, i32_w]
        rfl
      refine one_ (i := 5) (N := some 24) #[true, true, true, true, true, true, false] rfl rfl (by kernel_rfl) (by decide) (fun K hK => ?_)
      refine goesV_ Tryd.func50 (by kernel_rfl) rfl #[.string (a0.extract 8 a0.size)] (by rfl) rfl rfl (by first | rfl | simp [Act.eval]) (by (try simp only [List.map_toArray, List.map_cons, List.map_nil]); first | done | rfl) ?_
      with_reducible refine (terms_anywhere.calls k (a0.extract 8 a0.size) r _ h.out).mono ?_
      rintro e wz ⟨rfl, bz⟩
      refine ⟨_, rfl, ?_⟩
      refine hK.out _ _ ((pw_cell_below bz hc)) (fun hHeld => ?_)
      clear hK K
      refine norm_ (a' := ?_) ?_ ?_
      rotate_left
      · show Act.put _ (some 24) _ = _
        simp only [Act.put, List.setIfInBounds_toArray, List.set_cons_zero, List.set_cons_succ, i64_w, i32_w]
        rfl
      refine pure_ (i := 6) (N := some 2) (v := ?_) (a' := ?_) #[true, true, true, true, true, true, true] rfl rfl (by kernel_rfl) (fun _ _ _ h => h) (Or.inl ⟨by rfl, ?_⟩) ?_ ?_
      rotate_left
      · intro w'
        go_simp
        with_reducible rfl
      rotate_left
      · simp only [Act.put, List.setIfInBounds_toArray, List.set_cons_zero, List.set_cons_succ, i64_w, i32_w]
        rfl
      refine done_ (by kernel_rfl) ?_
      go_wp2
      go_ret
      exact ⟨rfl, (below_drew hb.out).trans (bz.mono hb.out.size)⟩
    · rw [if_neg h1] at h
      replace h1 : hp a0 headS = false := by simpa using h1
      by_cases h2 : hp a0 headP = true
      · rw [if_pos h2] at h
        replace h := Lib.hid h
        have hz8 : ((7 : Int) ≤ (a0.size : Int)) = True := eq_true (by have : 7 ≤ a0.size := hp_size h2; omega)
        go_enter Tryd.func11, Tryd.ntmps11
        go_wp2_with (go_at_call 29; (with_reducible refine (forms_calls _).mono ?_); rintro e w1 ⟨rfl, b1⟩)
        refine wp_loop_rounds 4 ?_
        rw [rounds_succ]
        go_wp2_with fail
        with_reducible refine (head0 hk103 a0 _ ((hE.out.below b1).below (below_alloc (Below.refl _ _) _)) false h1).mono ?_
        rintro _ w2 ⟨rfl, rfl⟩
        simp only [Bool.false_eq_true, if_false]
        go_wp2
        rw [rounds_succ]
        go_wp2_with fail
        have b2 := below_alloc b1 (.cells #[.func (.func 48) #[] #[], .func (.func 50) #[] #[]] 57)
        have s2 : (w1.alloc (.cells #[.func (.func 48) #[] #[], .func (.func 50) #[] #[]] 57)).heap.size = w1.heap.size + 1 := by simp
        generalize w1.alloc (.cells #[.func (.func 48) #[] #[], .func (.func 50) #[] #[]] 57) = wp at b2 s2 ⊢
        replace s2 := Lib.hid s2
        with_reducible refine (head1 hk103 a0 _ ((hE.out.below b2).below (below_alloc (Below.refl _ _) _)) true h2).mono ?_
        rintro _ w3 ⟨rfl, rfl⟩
        simp only [if_true]
        go_wp2
        have bp := Lib.hid b2
        have hc := blk_cell (blk_new wp (.cells #[.func (.func 51) #[] #[], .func (.func 52) #[] #[]] 57)) 1
        replace hc := hc.trans (show _ = some (Value.func (.func 52) #[] #[]) from rfl)
        have hb := Lib.hid (below_alloc bp.out (.cells #[.func (.func 51) #[] #[], .func (.func 52) #[] #[]] 57))
        generalize hq : wp.alloc (.cells #[.func (.func 51) #[] #[], .func (.func 52) #[] #[]] 57) = wq at hc hb ⊢
        clear hq
        rw [s2.out] at hc
        obtain ⟨gb, hgb⟩ : ∃ gb : Nat, w1.heap.size + 1 = gb := ⟨_, rfl⟩
        rw [hgb] at hc ⊢
        refine start_ (n := 7) (S := fun w' => w'.cell? ⟨gb, 1, none⟩ = some (.func (.func 52) #[] #[])) (ds := []) #[false, false, false, false, false, false, false] (by kernel_rfl) rfl rfl (hc) (fun hHeld => ?_)
        refine pure_ (i := 0) (N := some 19) (v := ?_) (a' := ?_) #[true, false, false, false, false, false, false] rfl rfl (by kernel_rfl) (fun _ _ _ h => h) (Or.inl ⟨by rfl, ?_⟩) ?_ ?_
        rotate_left
        · intro w'
          go_simp
          with_reducible rfl
        rotate_left
        · simp only [Act.put, List.setIfInBounds_toArray, List.set_cons_zero, List.set_cons_succ, i64_w, i32_w]
          rfl
        refine pure_ (i := 2) (N := some 21) (v := ?_) (a' := ?_) #[true, false, true, false, false, false, false] rfl rfl (by kernel_rfl) (fun _ _ _ h => h) (Or.inl ⟨by rfl, ?_⟩) ?_ ?_
        rotate_left
        · intro w'
          go_simp
          with_reducible rfl
        rotate_left
        · simp only [Act.put, List.setIfInBounds_toArray, List.set_cons_zero, List.set_cons_succ, i64_w, i32_w]
          rfl
        refine pure_ (i := 3) (N := some 22) (v := ?_) (a' := ?_) #[true, false, true, true, false, false, false] rfl rfl (by kernel_rfl) (fun _ _ _ h => h) (Or.inl ⟨by rfl, ?_⟩) ?_ ?_
        rotate_left
        · intro w'
          go_simp
          with_reducible rfl
        rotate_left
        · simp only [Act.put, List.setIfInBounds_toArray, List.set_cons_zero, List.set_cons_succ, i64_w, i32_w]
          rfl
        refine pure_ (i := 4) (N := some 23) (v := ?_) (a' := ?_) #[true, false, true, true, true, false, false] rfl rfl (by kernel_rfl) (fun _ _ _ h => h) (Or.inl ⟨by rfl, ?_⟩) ?_ ?_
        rotate_left
        · intro w'
          go_simp
          with_reducible rfl
        rotate_left
        · simp only [Act.put, List.setIfInBounds_toArray, List.set_cons_zero, List.set_cons_succ, i64_w, i32_w]
          rfl
        refine take_ (i := 1) (N := some 20) (v := ?_) (a' := ?_) #[true, true, true, true, true, false, false] rfl rfl (by kernel_rfl) (fun _ _ _ h => h) (Or.inl ⟨by rfl, ?_⟩) hHeld ?_ ?_
        rotate_left
        · intro w' s0
          go_simp
          with_reducible rfl
        rotate_left
        · simp only [Act.put, List.setIfInBounds_toArray, List.set_cons_zero, List.set_cons_succ, i64_w, i32_w]
          rfl
        refine one_ (i := 5) (N := some 24) #[true, true, true, true, true, true, false] rfl rfl (by kernel_rfl) (by decide) (fun K hK => ?_)
        refine goesV_ Tryd.func52 (by kernel_rfl) rfl #[.string (a0.extract 7 a0.size)] (by rfl) rfl rfl (by first | rfl | simp [Act.eval]) (by (try simp only [List.map_toArray, List.map_cons, List.map_nil]); first | done | rfl) ?_
        with_reducible refine (terms_local.calls k (a0.extract 7 a0.size) r _ h.out).mono ?_
        rintro e wz ⟨rfl, bz⟩
        refine ⟨_, rfl, ?_⟩
        refine hK.out _ _ ((pw_cell_below bz hc)) (fun hHeld => ?_)
        clear hK K
        refine norm_ (a' := ?_) ?_ ?_
        rotate_left
        · show Act.put _ (some 24) _ = _
          simp only [Act.put, List.setIfInBounds_toArray, List.set_cons_zero, List.set_cons_succ, i64_w, i32_w]
          rfl
        refine pure_ (i := 6) (N := some 2) (v := ?_) (a' := ?_) #[true, true, true, true, true, true, true] rfl rfl (by kernel_rfl) (fun _ _ _ h => h) (Or.inl ⟨by rfl, ?_⟩) ?_ ?_
        rotate_left
        · intro w'
          go_simp
          with_reducible rfl
        rotate_left
        · simp only [Act.put, List.setIfInBounds_toArray, List.set_cons_zero, List.set_cons_succ, i64_w, i32_w]
          rfl
        refine done_ (by kernel_rfl) ?_
        go_wp2
        go_ret
        exact ⟨rfl, (below_drew hb.out).trans (bz.mono hb.out.size)⟩
      · rw [if_neg h2] at h
        replace h2 : hp a0 headP = false := by simpa using h2
        replace h := Option.bind_eq_some_iff.mp h
        obtain ⟨n, hn, h⟩ := h
        replace hn := Lib.hid hn
        by_cases h3 : 0 < n
        · rw [if_pos h3] at h
          have h3' : decide (0 < n) = true := decide_eq_true h3
          have h3n : (0 ≤ n) = True := eq_true (by omega)
          by_cases h4 : n ≤ (a0.size : Int)
          · rw [if_pos h4] at h
            replace h := Lib.hid h
            have h4' : (n ≤ (a0.size : Int)) = True := eq_true h4
            go_enter Tryd.func11, Tryd.ntmps11
            go_wp2_with (go_at_call 29; (with_reducible refine (forms_calls _).mono ?_); rintro e w1 ⟨rfl, b1⟩)
            refine wp_loop_rounds 4 ?_
            rw [rounds_succ]
            go_wp2_with fail
            with_reducible refine (head0 hk103 a0 _ ((hE.out.below b1).below (below_alloc (Below.refl _ _) _)) false h1).mono ?_
            rintro _ w2 ⟨rfl, rfl⟩
            simp only [Bool.false_eq_true, if_false]
            go_wp2
            rw [rounds_succ]
            go_wp2_with fail
            have b2 := below_alloc b1 (.cells #[.func (.func 48) #[] #[], .func (.func 50) #[] #[]] 57)
            have s2 : (w1.alloc (.cells #[.func (.func 48) #[] #[], .func (.func 50) #[] #[]] 57)).heap.size = w1.heap.size + 1 := by simp
            generalize w1.alloc (.cells #[.func (.func 48) #[] #[], .func (.func 50) #[] #[]] 57) = wp at b2 s2 ⊢
            replace s2 := Lib.hid s2
            with_reducible refine (head1 hk103 a0 _ ((hE.out.below b2).below (below_alloc (Below.refl _ _) _)) false h2).mono ?_
            rintro _ w3 ⟨rfl, rfl⟩
            simp only [Bool.false_eq_true, if_false]
            go_wp2
            rw [rounds_succ]
            go_wp2_with fail
            have b3 := below_alloc b2 (.cells #[.func (.func 51) #[] #[], .func (.func 52) #[] #[]] 57)
            have s3 : (wp.alloc (.cells #[.func (.func 51) #[] #[], .func (.func 52) #[] #[]] 57)).heap.size = wp.heap.size + 1 := by simp
            generalize wp.alloc (.cells #[.func (.func 51) #[] #[], .func (.func 52) #[] #[]] 57) = wp3 at b3 s3 ⊢
            replace s3 := Lib.hid s3
            with_reducible refine (terms_private.calls k a0 n _ hn.out).mono ?_
            rintro _ w4 ⟨rfl, d4⟩
            have hc := (pw_cell_below d4.below (blk_cell (blk_new wp3 (.cells #[.func (.func 53) #[] #[], .func (.func 54) #[] #[]] 57)) 1))
            have hb := Lib.hid ((below_alloc b3 _).trans (d4.below.mono (below_alloc b3 _).size))
            go_wp2
            replace hc := hc.trans (show _ = some (Value.func (.func 54) #[] #[]) from rfl)
            rw [s3.out] at hc
            obtain ⟨gb, hgb⟩ : ∃ gb : Nat, wp.heap.size + 1 = gb := ⟨_, rfl⟩
            rw [hgb] at hc ⊢
            refine start_ (n := 7) (S := fun w' => w'.cell? ⟨gb, 1, none⟩ = some (.func (.func 54) #[] #[])) (ds := []) #[false, false, false, false, false, false, false] (by kernel_rfl) rfl rfl (hc) (fun hHeld => ?_)
            refine pure_ (i := 0) (N := some 19) (v := ?_) (a' := ?_) #[true, false, false, false, false, false, false] rfl rfl (by kernel_rfl) (fun _ _ _ h => h) (Or.inl ⟨by rfl, ?_⟩) ?_ ?_
            rotate_left
            · intro w'
              go_simp
              with_reducible rfl
            rotate_left
            · simp only [Act.put, List.setIfInBounds_toArray, List.set_cons_zero, List.set_cons_succ, i64_w, i32_w]
              rfl
            refine pure_ (i := 2) (N := some 21) (v := ?_) (a' := ?_) #[true, false, true, false, false, false, false] rfl rfl (by kernel_rfl) (fun _ _ _ h => h) (Or.inl ⟨by rfl, ?_⟩) ?_ ?_
            rotate_left
            · intro w'
              go_simp
              with_reducible rfl
            rotate_left
            · simp only [Act.put, List.setIfInBounds_toArray, List.set_cons_zero, List.set_cons_succ, i64_w, i32_w]
              rfl
            refine pure_ (i := 3) (N := some 22) (v := ?_) (a' := ?_) #[true, false, true, true, false, false, false] rfl rfl (by kernel_rfl) (fun _ _ _ h => h) (Or.inl ⟨by rfl, ?_⟩) ?_ ?_
            rotate_left
            · intro w'
              go_simp
              with_reducible rfl
            rotate_left
            · simp only [Act.put, List.setIfInBounds_toArray, List.set_cons_zero, List.set_cons_succ, i64_w, i32_w]
              rfl
            refine pure_ (i := 4) (N := some 23) (v := ?_) (a' := ?_) #[true, false, true, true, true, false, false] rfl rfl (by kernel_rfl) (fun _ _ _ h => h) (Or.inl ⟨by rfl, ?_⟩) ?_ ?_
            rotate_left
            · intro w'
              go_simp
              with_reducible rfl
            rotate_left
            · simp only [Act.put, List.setIfInBounds_toArray, List.set_cons_zero, List.set_cons_succ, i64_w, i32_w]
              rfl
            refine take_ (i := 1) (N := some 20) (v := ?_) (a' := ?_) #[true, true, true, true, true, false, false] rfl rfl (by kernel_rfl) (fun _ _ _ h => h) (Or.inl ⟨by rfl, ?_⟩) hHeld ?_ ?_
            rotate_left
            · intro w' s0
              go_simp
              with_reducible rfl
            rotate_left
            · simp only [Act.put, List.setIfInBounds_toArray, List.set_cons_zero, List.set_cons_succ, i64_w, i32_w]
              rfl
            refine one_ (i := 5) (N := some 24) #[true, true, true, true, true, true, false] rfl rfl (by kernel_rfl) (by decide) (fun K hK => ?_)
            refine goesV_ Tryd.func54 (by kernel_rfl) rfl #[.string (a0.extract n.toNat a0.size)] (by rfl) rfl rfl (by first | rfl | simp [Act.eval]) (by (try simp only [List.map_toArray, List.map_cons, List.map_nil]); first | done | rfl) ?_
            with_reducible refine (terms_inside.calls k (a0.extract n.toNat a0.size) r _ h.out).mono ?_
            rintro e wz ⟨rfl, bz0⟩
            have bz := bz0.below
            refine ⟨_, rfl, ?_⟩
            refine hK.out _ _ ((pw_cell_below bz hc)) (fun hHeld => ?_)
            clear hK K
            refine norm_ (a' := ?_) ?_ ?_
            rotate_left
            · show Act.put _ (some 24) _ = _
              simp only [Act.put, List.setIfInBounds_toArray, List.set_cons_zero, List.set_cons_succ, i64_w, i32_w]
              rfl
            refine pure_ (i := 6) (N := some 2) (v := ?_) (a' := ?_) #[true, true, true, true, true, true, true] rfl rfl (by kernel_rfl) (fun _ _ _ h => h) (Or.inl ⟨by rfl, ?_⟩) ?_ ?_
            rotate_left
            · intro w'
              go_simp
              with_reducible rfl
            rotate_left
            · simp only [Act.put, List.setIfInBounds_toArray, List.set_cons_zero, List.set_cons_succ, i64_w, i32_w]
              rfl
            refine done_ (by kernel_rfl) ?_
            go_wp2
            go_ret
            exact ⟨rfl, (below_drew hb.out).trans (bz.mono hb.out.size)⟩
          · rw [if_neg h4] at h; cases h
        · rw [if_neg h3] at h
          obtain rfl := Option.some.inj h
          have h3' : decide (0 < n) = false := decide_eq_false h3
          go_enter Tryd.func11, Tryd.ntmps11
          go_wp2_with (go_at_call 29; (with_reducible refine (forms_calls _).mono ?_); rintro e w1 ⟨rfl, b1⟩)
          refine wp_loop_rounds 4 ?_
          rw [rounds_succ]
          go_wp2_with fail
          with_reducible refine (head0 hk103 a0 _ ((hE.out.below b1).below (below_alloc (Below.refl _ _) _)) false h1).mono ?_
          rintro _ w2 ⟨rfl, rfl⟩
          simp only [Bool.false_eq_true, if_false]
          go_wp2
          rw [rounds_succ]
          go_wp2_with fail
          have b2 := below_alloc b1 (.cells #[.func (.func 48) #[] #[], .func (.func 50) #[] #[]] 57)
          have s2 : (w1.alloc (.cells #[.func (.func 48) #[] #[], .func (.func 50) #[] #[]] 57)).heap.size = w1.heap.size + 1 := by simp
          generalize w1.alloc (.cells #[.func (.func 48) #[] #[], .func (.func 50) #[] #[]] 57) = wp at b2 s2 ⊢
          replace s2 := Lib.hid s2
          with_reducible refine (head1 hk103 a0 _ ((hE.out.below b2).below (below_alloc (Below.refl _ _) _)) false h2).mono ?_
          rintro _ w3 ⟨rfl, rfl⟩
          simp only [Bool.false_eq_true, if_false]
          go_wp2
          rw [rounds_succ]
          go_wp2_with fail
          have b3 := below_alloc b2 (.cells #[.func (.func 51) #[] #[], .func (.func 52) #[] #[]] 57)
          have s3 : (wp.alloc (.cells #[.func (.func 51) #[] #[], .func (.func 52) #[] #[]] 57)).heap.size = wp.heap.size + 1 := by simp
          generalize wp.alloc (.cells #[.func (.func 51) #[] #[], .func (.func 52) #[] #[]] 57) = wp3 at b3 s3 ⊢
          replace s3 := Lib.hid s3
          with_reducible refine (terms_private.calls k a0 n _ hn.out).mono ?_
          rintro _ w4 ⟨rfl, d4⟩
          go_wp2
          rw [rounds_succ]
          go_wp2
          go_ret
          exact ⟨rfl, (below_alloc b3 _).trans (d4.below.mono (below_alloc b3 _).size)⟩
end Go.Proofs.YtopfmcgmfnmikaaDoor.X

