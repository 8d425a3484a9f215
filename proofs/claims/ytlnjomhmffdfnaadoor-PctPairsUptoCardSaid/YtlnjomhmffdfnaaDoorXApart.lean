/- The law's own check that lists share nothing: written full, grown, looked at: true. Conditions: the lists are rows of the law's own, no two in one block. -/
import Derived.Test.YtlnjomhmffdfnaaDoorXApartW
-- IMPORTS
import Derived.Test.YtlnjomhmffdfnaaDoorXx0
import Derived.Test.YtlnjomhmffdfnaaDoorXx11
set_option linter.unusedVariables false
set_option linter.unusedSimpArgs false
namespace Go.Proofs.YtlnjomhmffdfnaaDoor.X
open Go.RowKit Go.Proofs.YtlnjomhmffdfnaaDoorW.PrintWords Go.Proofs.YtlnjomhmffdfnaaDoorW.PrintLast Go.Proofs.YtlnjomhmffdfnaaDoorW.PrintMore
open Go.Proofs.YtlnjomhmffdfnaaDoor
def mkP (i : Nat) : S52 := ⟨⟨#[109, 97, 114, 107]⟩, strOfNums [(i : Int)]⟩
def bhB : ByteArray := ⟨#[98, 101, 104, 105, 110, 100]⟩
def bhP : S52 := ⟨bhB, bhB⟩
theorem elemP {w0 wz W : World} {base gl m : Nat} {v : Nat → Value} {n : Nat → Nat} {i k g c : Nat} {o : Obj} (h : Ap2 k52 52 mkP w0 wz base gl m v n i k W) (hi : i < m) (hk : k < n i) (ev : v i = .slice (some ⟨g, 0, none⟩) (n i) c) :
    (∃ p : ByteArray, (W.alloc o).cell? ⟨g, k * 2, none⟩ = some (.string p)) ∧ (∃ p : ByteArray, (W.alloc o).cell? ⟨g, k * 2 + 1, none⟩ = some (.string p)) ∧ (W.alloc o).frozen? ⟨g, k * 2, none⟩ = false ∧ (W.alloc o).frozen? ⟨g, k * 2 + 1, none⟩ = false := by
  obtain ⟨x, hA, hl, _⟩ := h.ex
  have hr := Kd.R_alloc (hA.row i hi) o
  rw [ev] at hr
  obtain ⟨ce, hcl, hM, hcc, hfr⟩ := Kd.R_elem hr z52 (k : Int) (by omega) (by omega)
  obtain rfl := k52_openM hM
  exact ⟨⟨_, hcc 0 _ rfl⟩, ⟨_, hcc 1 _ rfl⟩, hfr 0, hfr 1⟩
theorem readP {w0 wz W : World} {base gl m i q k : Nat} {v : Nat → Value} {n c : Nat → Nat} {A : Nat → Option Addr} (h : Ap3 k52 52 w0 wz base gl m v n A (fun j => List.replicate (n j) (mkP j)) i W) (hf : Frm m v n A c) (hq : q < m) (hk : k < n q) :
    ∃ g, A q = some ⟨g, 0, none⟩ ∧ W.cell? ⟨g, k * 2, none⟩ = some (.string ⟨#[109, 97, 114, 107]⟩) ∧ W.cell? ⟨g, k * 2 + 1, none⟩ = some (.string (strOfNums [(q : Int)])) := by
  have hC := Kd.F_now (h.rd q hq)
  obtain ⟨ad, e1, h0, h1⟩ := at_T52 hC (k : Int) (by omega) (by omega)
  have e2 := hf.hd q ad hq e1
  have e3 : List.getD (List.replicate (n q) (mkP q)) k z52 = mkP q := by rw [List.getD_eq_getElem?_getD, List.getElem?_replicate, if_pos hk]; rfl
  have e4 : rd_T52 (List.replicate (n q) (mkP q)) (k : Int) = mkP q := e3
  rw [e4] at h0 h1
  rw [e2] at h0 h1
  simp only [add_plain, Int.toNat_natCast] at h0 h1
  exact ⟨ad.block, by rw [e1]; exact congrArg some e2, h0, h1⟩
theorem stepP {w0 wz W : World} {base gl m : Nat} {v : Nat → Value} {n : Nat → Nat} {i k g c : Nat} {o : Obj} (h : Ap2 k52 52 mkP w0 wz base gl m v n i k W) (s : Sep gl m v) (hs : base ≤ W.heap.size) (hi : i < m) (hk : k < n i) (ev : v i = .slice (some ⟨g, 0, none⟩) (n i) c) :
    Ap2 k52 52 mkP w0 wz base gl m v n i (k + 1) (((W.alloc o).setCell ⟨g, k * 2, none⟩ (.string ⟨#[109, 97, 114, 107]⟩)).setCell ⟨g, k * 2 + 1, none⟩ (.string (strOfNums [(i : Int)]))) := by
  have hg : (W.alloc o).grownBy (((W.alloc o).setCell ⟨g, k * 2, none⟩ (.string ⟨#[109, 97, 114, 107]⟩)).setCell ⟨g, k * 2 + 1, none⟩ (.string (strOfNums [(i : Int)]))) (some g) := by
    obtain ⟨x, hA, hl, _⟩ := h.ex
    have hr := Kd.R_alloc (hA.row i hi) o
    rw [ev] at hr
    obtain ⟨ce, hcl, hM, hcc, hfr⟩ := Kd.R_elem hr z52 (k : Int) (by omega) (by omega)
    obtain rfl := k52_openM hM
    exact (Kd.R_seg hr (k : Int) (by omega) (by omega) (seg := [.string ⟨#[109, 97, 114, 107]⟩, .string (strOfNums [(i : Int)])]) (j := 0) hcl hcc (show 2 ≤ 2 from by decide) (x' := mkP i) (k52_mkM _ _ _ (mkP i)) (fun _ hk => hk)).2
  refine h.step s hs hi hk (by rw [ev]; rfl) (below_alloc (Below.refl _ _) o) hg (fun x hr hl => ?_)
  rw [ev] at hr ⊢
  obtain ⟨ce, hcl, hM, hcc, hfr⟩ := Kd.R_elem hr z52 (k : Int) (by omega) (by omega)
  obtain rfl := k52_openM hM
  exact (Kd.R_seg hr (k : Int) (by omega) (by omega) (seg := [.string ⟨#[109, 97, 114, 107]⟩, .string (strOfNums [(i : Int)])]) (j := 0) hcl hcc (show 2 ≤ 2 from by decide) (x' := mkP i) (k52_mkM _ _ _ (mkP i)) (fun _ hk => hk)).1
def apart.T7 : Bool × List (List Nat × List Nat) := (true, [([], []), ([], []), ([0, 1], [0, 1]), ([2], [2]), ([], []), ([], []), ([5], [5]), ([6], [6]), ([7], [7]), ([8], [8]), ([3, 4, 0, 1, 2, 3, 4, 5, 6, 7, 8, 9], [3, 4]), ([10, 9, 0, 1, 2, 3, 4, 5, 6, 7, 8, 9], [9, 10])])
def apart.B7 : List Nat := [0, 0, 3, 7, 0, 0, 32, 96, 224, 480, 1023, 2047]
theorem apart.tab7 : rtab .any (opsOf Tryd.f32 7) = apart.T7 := by kernel_rfl
theorem apart.bits7 : waitsOk apart.T7.2 apart.B7 = true := by kernel_rfl
def apart.T24 : Bool × List (List Nat × List Nat) := (true, [([], []), ([], []), ([0, 1], [0, 1]), ([2], [2]), ([], []), ([3, 4], [3, 4]), ([5], [5]), ([], []), ([7], [7]), ([8], [8]), ([9], [9]), ([10], [10]), ([6, 11], [6, 11])])
def apart.B24 : List Nat := [0, 0, 3, 7, 0, 31, 63, 0, 128, 384, 896, 1920, 4095]
theorem apart.tab24 : rtab .any (opsOf Tryd.f32 24) = apart.T24 := by kernel_rfl
theorem apart.bits24 : waitsOk apart.T24.2 apart.B24 = true := by kernel_rfl
set_option maxHeartbeats 8000000 in
set_option maxRecDepth 100000 in
theorem apart_calls (gl m : Nat) (v : Nat → Value) (n : Nat → Nat) (x : Nat → List S52) (w0 wz w : World) (hA : Ap k52 52 w0 wz w w0.heap.size gl m v x) (hS : Sep gl m v) (hn : ∀ j, j < m → (x j).length = n j) (hs : w0.heap.size ≤ w.heap.size) (hm : m ≤ 16) (hle : ∀ j, j < m → n j ≤ 1000) :
    Calls Tryd.prog 32 #[.slice (some ⟨gl, 0, none⟩) m m] w fun e w' => e = .returned (.bool true) ∧ Fr w0.heap.size w0 wz (fun k => ∃ j, j < m ∧ (v j).ownBlock = some k) w' := by
  have H0 := Lib.hid (show Ap2 k52 52 mkP w0 wz w0.heap.size gl m v n 0 0 w from ⟨x, hA, hn, fun j hj => by omega, fun _ => rfl⟩)
  replace hS := Lib.hid hS; replace hle := Lib.hid hle; clear hn hA
  go_enter Tryd.func32, Tryd.ntmps32
  go_wp2
  go_loopw [3] (fun vi wr => ∃ i : Nat, i ≤ m ∧ vi = .int .i64 i ∧ Hid (Ap2 k52 52 mkP w0 wz w0.heap.size gl m v n i 0 wr)) (fun vi _ => m - (intOf vi).toNat)
  case atStart => exact ⟨0, by omega, rfl, H0⟩
  case round =>
    clear H0 hs
    obtain ⟨i, hi, rfl, HR⟩ := hrel
    by_cases hlt : i < m
    · obtain ⟨A, c, ev⟩ : ∃ A c, v i = .slice A (n i) c := by
        obtain ⟨x, hA, hl, _⟩ := HR.out.ex
        have := Kd.R_slice (hA.row i hlt); rw [hl i hlt] at this; exact this
      have hc : wr.cell? ⟨gl, i, none⟩ = some (.slice A (n i) c) := by
        obtain ⟨x, hA, _⟩ := HR.out.ex
        rw [hA.cell i hlt, ev]
      have hni : n i ≤ 1000 := hle.out i hlt
      replace ev := Lib.hid ev
      go_wp2
      clear hc
      obtain ⟨wo, rfl⟩ : ∃ wo : World, wo = wr := ⟨_, rfl⟩
      go_loopw [4] (fun vk wk => ∃ k : Nat, k ≤ n i ∧ vk = .int .i64 k ∧ Hid (Ap2 k52 52 mkP w0 wz w0.heap.size gl m v n i k wk)) (fun vk _ => n i - (intOf vk).toNat)
      case atStart => exact ⟨0, by omega, rfl, HR⟩
      case round =>
        clear HR
        obtain ⟨k, hk, rfl, HR⟩ := hrel
        have hc : wr.cell? ⟨gl, i, none⟩ = some (.slice A (n i) c) := by
          obtain ⟨x, hA, _⟩ := HR.out.ex
          rw [hA.cell i hlt, ev.out]
        by_cases hlk : k < n i
        · obtain ⟨g, hA, hvg⟩ : ∃ g, A = some ⟨g, 0, none⟩ ∧ (v i).ownBlock = some g := by
            obtain ⟨x, hA, hl, _⟩ := HR.out.ex
            obtain ⟨g, cap, e1, _⟩ := Kd.R_form (hA.row i hlt) (by rw [hl i hlt]; omega)
            refine ⟨g, ?_, by rw [e1]; rfl⟩
            rw [ev.out] at e1; injection e1
          subst hA
          obtain ⟨⟨p0, hx0⟩, ⟨p1, hx1⟩, hf0, hf1⟩ := elemP (o := .cells #[.int .u8 (IntKind.u8.wrap (i : Int))] 5) HR.out hlt hlk ev.out
          have hgl : g ≠ gl := fun e1 => hS.out.out i hlt (by rw [hvg, e1])
          go_wp2
          refine start_ (n := 12) (S := fun w' => w'.cell? ⟨gl, i, none⟩ = some (.slice (some ⟨g, 0, none⟩) (n i) c)) (ds := [11]) #[false, false, false, false, false, false, false, false, false, false, false, false] (by kernel_rfl) rfl rfl (hc) (fun hHeld => ?_)
          refine with_tabW apart.tab7 apart.bits7 (fun HT_ HW_ => ?_)
          refine pure_ (i := 0) (N := some 26) (v := ?_) (a' := ?_) #[true, false, false, false, false, false, false, false, false, false, false, false] rfl rfl (any_of HT_.out (by kernel_rfl)) (fun _ _ _ h => h) (Or.inl ⟨by rfl, ?_⟩) ?_ ?_
          rotate_left
          · intro w'
            go_simp
            with_reducible rfl
          rotate_left
          · simp only [Act.put, List.setIfInBounds_toArray, List.set_cons_zero, List.set_cons_succ, i64_w, i32_w]
            rfl
          refine pure_ (i := 1) (N := some 27) (v := ?_) (a' := ?_) #[true, true, false, false, false, false, false, false, false, false, false, false] rfl rfl (any_of HT_.out (by kernel_rfl)) (fun _ _ _ h => h) (Or.inl ⟨by rfl, ?_⟩) ?_ ?_
          rotate_left
          · intro w'
            go_simp
            with_reducible rfl
          rotate_left
          · simp only [Act.put, List.setIfInBounds_toArray, List.set_cons_zero, List.set_cons_succ, i64_w, i32_w]
            rfl
          refine pure_ (i := 2) (N := some 28) (v := ?_) (a' := ?_) #[true, true, true, false, false, false, false, false, false, false, false, false] rfl rfl (any_of HT_.out (by kernel_rfl)) (fun _ _ _ h => h) (Or.inl ⟨by rfl, ?_⟩) ?_ ?_
          rotate_left
          · intro w'
            go_simp
            with_reducible rfl
          rotate_left
          · simp only [Act.put, List.setIfInBounds_toArray, List.set_cons_zero, List.set_cons_succ, i64_w, i32_w]
            rfl
          refine pure_ (i := 4) (N := some 30) (v := ?_) (a' := ?_) #[true, true, true, false, true, false, false, false, false, false, false, false] rfl rfl (any_of HT_.out (by kernel_rfl)) (fun _ _ _ h => h) (Or.inl ⟨by rfl, ?_⟩) ?_ ?_
          rotate_left
          · intro w'
            go_simp
            with_reducible rfl
          rotate_left
          · simp only [Act.put, List.setIfInBounds_toArray, List.set_cons_zero, List.set_cons_succ, i64_w, i32_w]
            rfl
          refine pure_ (i := 5) (N := some 31) (v := ?_) (a' := ?_) #[true, true, true, false, true, true, false, false, false, false, false, false] rfl rfl (any_of HT_.out (by kernel_rfl)) (fun _ _ _ h => h) (Or.inl ⟨by rfl, ?_⟩) ?_ ?_
          rotate_left
          · intro w'
            go_simp
            with_reducible rfl
          rotate_left
          · simp only [Act.put, List.setIfInBounds_toArray, List.set_cons_zero, List.set_cons_succ, i64_w, i32_w]
            rfl
          refine pure_ (i := 6) (N := some 32) (v := ?_) (a' := ?_) #[true, true, true, false, true, true, true, false, false, false, false, false] rfl rfl (any_of HT_.out (by kernel_rfl)) (fun _ _ _ h => h) (Or.inl ⟨by rfl, ?_⟩) ?_ ?_
          rotate_left
          · intro w'
            go_simp
            with_reducible rfl
          rotate_left
          · simp only [Act.put, List.setIfInBounds_toArray, List.set_cons_zero, List.set_cons_succ, i64_w, i32_w]
            rfl
          refine take_ (i := 3) (N := some 29) (v := ?_) (a' := ?_) #[true, true, true, true, true, true, true, false, false, false, false, false] rfl rfl (take_ofW HT_.out HW_.out (by kernel_rfl)) (fun _ _ _ h => h) (Or.inl ⟨by rfl, ?_⟩) hHeld ?_ ?_
          rotate_left
          · intro w' s0
            go_simp
            with_reducible rfl
          rotate_left
          · simp only [Act.put, List.setIfInBounds_toArray, List.set_cons_zero, List.set_cons_succ, i64_w, i32_w]
            rfl
          refine one_ (i := 7) (N := some 33) #[true, true, true, true, true, true, true, true, false, false, false, false] rfl rfl (one_of HT_.out (by kernel_rfl)) (by decide) (fun K hK => ?_)
          refine value_ (w1 := ?_) (v := ?_) (by rfl) rfl ?_ ?_
          rotate_left 2
          · go_simp
            constructor
            · rfl
            · rfl
          refine hK.out _ _ ((pw_cell_below (below_alloc (Below.refl _ _) _) hc)) (fun hHeld => ?_)
          clear hK K
          refine norm_ (a' := ?_) ?_ ?_
          rotate_left
          · show Act.put _ (some 33) _ = _
            simp only [Act.put, List.setIfInBounds_toArray, List.set_cons_zero, List.set_cons_succ, i64_w, i32_w]
            rfl
          refine one_ (i := 8) (N := some 34) #[true, true, true, true, true, true, true, true, true, false, false, false] rfl rfl (one_of HT_.out (by kernel_rfl)) (by decide) (fun K hK => ?_)
          have hcv := conv1 (P := Tryd.prog) Tryd.underlying61 Tryd.underlying5 Tryd.underlying9 wr (IntKind.u8.wrap (i : Int))
          refine value_ (w1 := ?_) (v := ?_) (by rfl) rfl ?_ ?_
          rotate_left 2
          · go_simp
            constructor
            · rfl
            · rfl
          clear hcv
          refine hK.out _ _ ((pw_cell_below (below_alloc (Below.refl _ _) _) hc)) (fun hHeld => ?_)
          clear hK K
          refine norm_ (a' := ?_) ?_ ?_
          rotate_left
          · show Act.put _ (some 34) _ = _
            simp only [Act.put, List.setIfInBounds_toArray, List.set_cons_zero, List.set_cons_succ, i64_w, i32_w]
            rfl
          refine pure_ (i := 9) (N := some 35) (v := ?_) (a' := ?_) #[true, true, true, true, true, true, true, true, true, true, false, false] rfl rfl (any_of HT_.out (by kernel_rfl)) (fun _ _ _ h => h) (Or.inl ⟨by rfl, ?_⟩) ?_ ?_
          rotate_left
          · intro w'
            go_simp
            with_reducible rfl
          rotate_left
          · simp only [Act.put, List.setIfInBounds_toArray, List.set_cons_zero, List.set_cons_succ, i64_w, i32_w]
            rfl
          refine pure_ (i := 10) (N := some 36) (v := ?_) (a' := ?_) #[true, true, true, true, true, true, true, true, true, true, true, false] rfl rfl (any_of HT_.out (by kernel_rfl)) (fun _ _ _ h => h) (Or.inl ⟨by rfl, ?_⟩) ?_ ?_
          rotate_left
          · intro w'
            go_simp
            with_reducible rfl
          rotate_left
          · simp only [Act.put, List.setIfInBounds_toArray, List.set_cons_zero, List.set_cons_succ, i64_w, i32_w]
            rfl
          refine last_ (i := 11) (N := none) #[true, true, true, true, true, true, true, true, true, true, true, true] rfl rfl (one_of HT_.out (by kernel_rfl)) (by decide) (fun K hK => ?_)
          refine skip_ (w1 := ?_) (by rfl) rfl ?_ ?_
          rotate_left
          · go_simp
            rfl
          refine hK.out _ _ ?_
          clear hK K
          refine done_ (done_of HT_.out (by kernel_rfl)) ?_
          go_wp2
          go_roundw
          case rel => exact ⟨k + 1, by omega, by go_num, Lib.hid ((stepP HR.out hS.out HR.out.hs hlt hlk ev.out).move (below_drew (Below.refl _ _)))⟩
          case measure => simp [intOf]; omega
        · go_wp2
          go_roundw
          case rel => exact ⟨i + 1, by omega, by go_num, Lib.hid ((show n i = k by omega) ▸ HR.out : Ap2 k52 52 mkP w0 wz w0.heap.size gl m v n i (n i) wr).next hlt⟩
          case measure => simp [intOf]; omega
    · obtain rfl : i = m := by omega
      obtain ⟨A, c, hf, H3⟩ := HR.out.three
      replace hf := Lib.hid hf; replace H3 := Lib.hid H3; clear HR hlt hi
      go_wp2
      obtain ⟨wo, rfl⟩ : ∃ wo : World, wo = wr := ⟨_, rfl⟩
      go_loopw [5, 6] (fun vg vj wr => ∃ j gr : Nat, j ≤ i ∧ vj = .int .i64 j ∧ vg = .int .i64 gr ∧ 64 * j ≤ gr ∧ gr ≤ 1064 * j ∧ Hid (Ap3 k52 52 w0 wz w0.heap.size gl i v n A (fun j => List.replicate (n j) (mkP j)) j wr)) (fun _ vj _ => i - (intOf vj).toNat)
      case atStart => exact ⟨0, 0, by omega, rfl, rfl, by omega, by omega, H3⟩
      case round =>
        clear H3
        obtain ⟨j, gr, hj, rfl, rfl, hg0, hg1, HR⟩ := hrel
        by_cases hlt : j < i
        · have hc : wr.cell? ⟨gl, j, none⟩ = some (.slice (A j) (n j) (c j)) := by rw [HR.out.cell j hlt, hf.out.val j hlt]
          have hni : n j ≤ 1000 := hle.out j hlt
          have H4 := Lib.hid (HR.out.into hlt (List.length_replicate ..))
          obtain ⟨HH, hHH⟩ : ∃ h : Nat, wr.heap.size = h := ⟨_, rfl⟩
          rw [hHH] at H4; replace hHH := Lib.hid hHH
          go_wp2
          clear hc
          obtain ⟨wo, rfl⟩ : ∃ wo : World, wo = wr := ⟨_, rfl⟩
          go_loopw [7, 8] (fun vm vk wk => ∃ (k : Nat) (ys : List S52) (Am : Option Addr) (cm : Nat), k ≤ 64 ∧ vk = .int .i64 k ∧ vm = .slice Am (n j + k) cm ∧ Hid (Ap4 k52 52 w0 wz w0.heap.size gl i v n A (fun j => List.replicate (n j) (mkP j)) j HH k ys vm wk)) (fun _ vk _ => 64 - (intOf vk).toNat)
          case atStart => exact ⟨0, _, A j, c j, by omega, rfl, rfl, Lib.hid (hf.out.val j hlt ▸ H4.out)⟩
          case round =>
            clear HR H4
            obtain ⟨k, ys, Am, cm, hk, rfl, rfl, HR⟩ := hrel
            by_cases hlk : k < 64
            · have hys := HR.out.len
              replace hys := Lib.hid hys
              go_wp2_with (first | (go_at_call 44; ((with_reducible refine (usherlaw3_behind.calls bhB bhB _ rfl).mono ?_); rintro e w1 ⟨rfl, hb1⟩; have H5 := Lib.hid (HR.out.move hb1 HR.out.below.size); clear HR hb1; have hR := Lib.hid (Kd.R_alloc H5.out.own (.cells #[.string bhB, .string bhB] 52)); have hsz := H5.out.below.size; have hl4 : (ys.length + 1) * 32 ≤ 140737488355328 := (by have := hys.out; omega))) | (at_builtin; refine R_append_two k52 rfl w0.heap.size rfl (.tmp 51) (.tmp 53) 36 52 (.agg #[.string ⟨#[]⟩, .string ⟨#[]⟩]) 32 rfl Tryd.underlying36 info52 rfl (by decide) (by decide) (.slice Am (n j + k) cm) ys bhP [.string bhB, .string bhB] rfl ⟨w1.heap.size, 0, none⟩ rfl (k52_mkM _ _ _ bhP) (World.news_of_block (cs := #[.string bhB, .string bhB]) (t := 52) (fr := (0, 0)) (heap_alloc_new w1 (.cells #[.string bhB, .string bhB] 52))) hR.out ?c2 hl4 ?_; (case c2 => simp; omega); intro v1 w2 hr2 hat; obtain ⟨A1, c1, e1⟩ := Kd.R_slice hr2; have H6 := Lib.hid ((H5.out.move (below_alloc (Below.refl _ _) (.cells #[.string bhB, .string bhB] 52)) hsz).push hS.out hf.out (Nat.le_trans hsz (by simp)) hlt hr2 hat); have e2 : v1 = .slice A1 (n j + k + 1) c1 := (by rw [e1, List.length_append, List.length_singleton, hys.out]); clear hr2 hat hR H5 e1; subst e2))
              go_roundw
              case rel => exact ⟨k + 1, _, A1, c1, by omega, by go_num, rfl, H6⟩
              case measure => simp [intOf]; omega
            · obtain rfl : k = 64 := by omega
              have H7 := Lib.hid (HR.out.out hf.out hlt)
              go_wp2
              go_roundw
              case rel => exact ⟨j + 1, gr + (n j + 64), by omega, by go_num, by go_num, by omega, by omega, H7⟩
              case measure => simp [intOf]; omega
        · obtain rfl : j = i := by omega
          clear hlt hj
          go_wp2
          obtain ⟨wo, rfl⟩ : ∃ wo : World, wo = wr := ⟨_, rfl⟩
          go_loopw [9] (fun vq wr => ∃ q : Nat, q ≤ j ∧ vq = .int .i64 q ∧ Hid (Ap3 k52 52 w0 wz w0.heap.size gl j v n A (fun j => List.replicate (n j) (mkP j)) j wr)) (fun vq _ => j - (intOf vq).toNat)
          case atStart => exact ⟨0, by omega, rfl, HR⟩
          case round =>
            clear HR
            obtain ⟨q, hq, rfl, HR⟩ := hrel
            by_cases hlt : q < j
            · have hc : wr.cell? ⟨gl, q, none⟩ = some (.slice (A q) (n q) (c q)) := by rw [HR.out.cell q hlt, hf.out.val q hlt]
              have hni : n q ≤ 1000 := hle.out q hlt
              go_wp2
              clear hc
              obtain ⟨wo, rfl⟩ : ∃ wo : World, wo = wr := ⟨_, rfl⟩
              go_loopw [10] (fun vk wk => ∃ k : Nat, k ≤ n q ∧ vk = .int .i64 k ∧ Hid (Ap3 k52 52 w0 wz w0.heap.size gl j v n A (fun j => List.replicate (n j) (mkP j)) j wk)) (fun vk _ => n q - (intOf vk).toNat)
              case atStart => exact ⟨0, by omega, rfl, HR⟩
              case round =>
                clear HR
                obtain ⟨k, hk, rfl, HR⟩ := hrel
                have hc : wr.cell? ⟨gl, q, none⟩ = some (.slice (A q) (n q) (c q)) := by rw [HR.out.cell q hlt, hf.out.val q hlt]
                by_cases hlk : k < n q
                · obtain ⟨g, eA, hx0, hx1⟩ := readP HR.out hf.out hlt hlk
                  rw [eA] at hc
                  replace eA := Lib.hid eA
                  have hw : IntKind.u8.wrap (q : Int) = (q : Int) := by unfold IntKind.wrap; simp [IntKind.bits, IntKind.signed]; omega
                  go_wp2
                  refine start_ (n := 13) (S := fun w' => w'.cell? ⟨gl, q, none⟩ = some (.slice (some ⟨g, 0, none⟩) (n q) (c q)) ∧ w'.cell? ⟨g, k * 2, none⟩ = some (.string ⟨#[109, 97, 114, 107]⟩) ∧ w'.cell? ⟨g, k * 2 + 1, none⟩ = some (.string (strOfNums [(q : Int)]))) (ds := []) #[false, false, false, false, false, false, false, false, false, false, false, false, false] (by kernel_rfl) rfl rfl ⟨hc, hx0, hx1⟩ (fun hHeld => ?_)
                  refine with_tabW apart.tab24 apart.bits24 (fun HT_ HW_ => ?_)
                  refine pure_ (i := 0) (N := some 74) (v := ?_) (a' := ?_) #[true, false, false, false, false, false, false, false, false, false, false, false, false] rfl rfl (any_of HT_.out (by kernel_rfl)) (fun _ _ _ h => h) (Or.inl ⟨by rfl, ?_⟩) ?_ ?_
                  rotate_left
                  · intro w'
                    go_simp
                    with_reducible rfl
                  rotate_left
                  · simp only [Act.put, List.setIfInBounds_toArray, List.set_cons_zero, List.set_cons_succ, i64_w, i32_w]
                    rfl
                  refine pure_ (i := 1) (N := some 75) (v := ?_) (a' := ?_) #[true, true, false, false, false, false, false, false, false, false, false, false, false] rfl rfl (any_of HT_.out (by kernel_rfl)) (fun _ _ _ h => h) (Or.inl ⟨by rfl, ?_⟩) ?_ ?_
                  rotate_left
                  · intro w'
                    go_simp
                    with_reducible rfl
                  rotate_left
                  · simp only [Act.put, List.setIfInBounds_toArray, List.set_cons_zero, List.set_cons_succ, i64_w, i32_w]
                    rfl
                  refine pure_ (i := 2) (N := some 76) (v := ?_) (a' := ?_) #[true, true, true, false, false, false, false, false, false, false, false, false, false] rfl rfl (any_of HT_.out (by kernel_rfl)) (fun _ _ _ h => h) (Or.inl ⟨by rfl, ?_⟩) ?_ ?_
                  rotate_left
                  · intro w'
                    go_simp
                    with_reducible rfl
                  rotate_left
                  · simp only [Act.put, List.setIfInBounds_toArray, List.set_cons_zero, List.set_cons_succ, i64_w, i32_w]
                    rfl
                  refine pure_ (i := 4) (N := some 78) (v := ?_) (a' := ?_) #[true, true, true, false, true, false, false, false, false, false, false, false, false] rfl rfl (any_of HT_.out (by kernel_rfl)) (fun _ _ _ h => h) (Or.inl ⟨by rfl, ?_⟩) ?_ ?_
                  rotate_left
                  · intro w'
                    go_simp
                    with_reducible rfl
                  rotate_left
                  · simp only [Act.put, List.setIfInBounds_toArray, List.set_cons_zero, List.set_cons_succ, i64_w, i32_w]
                    rfl
                  refine pure_ (i := 7) (N := some 81) (v := ?_) (a' := ?_) #[true, true, true, false, true, false, false, true, false, false, false, false, false] rfl rfl (any_of HT_.out (by kernel_rfl)) (fun _ _ _ h => h) (Or.inl ⟨by rfl, ?_⟩) ?_ ?_
                  rotate_left
                  · intro w'
                    go_simp
                    with_reducible rfl
                  rotate_left
                  · simp only [Act.put, List.setIfInBounds_toArray, List.set_cons_zero, List.set_cons_succ, i64_w, i32_w]
                    rfl
                  refine pure_ (i := 8) (N := some 82) (v := ?_) (a' := ?_) #[true, true, true, false, true, false, false, true, true, false, false, false, false] rfl rfl (any_of HT_.out (by kernel_rfl)) (fun _ _ _ h => h) (Or.inl ⟨by rfl, ?_⟩) ?_ ?_
                  rotate_left
                  · intro w'
                    go_simp
                    with_reducible rfl
                  rotate_left
                  · simp only [Act.put, List.setIfInBounds_toArray, List.set_cons_zero, List.set_cons_succ, i64_w, i32_w]
                    rfl
                  refine take_ (i := 3) (N := some 77) (v := ?_) (a' := ?_) #[true, true, true, true, true, false, false, true, true, false, false, false, false] rfl rfl (take_ofW HT_.out HW_.out (by kernel_rfl)) (fun _ _ _ h => h) (Or.inl ⟨by rfl, ?_⟩) hHeld ?_ ?_
                  rotate_left
                  · rintro w' ⟨s0, s1, s2⟩
                    go_simp
                    with_reducible rfl
                  rotate_left
                  · simp only [Act.put, List.setIfInBounds_toArray, List.set_cons_zero, List.set_cons_succ, i64_w, i32_w]
                    rfl
                  refine pure_ (i := 5) (N := some 79) (v := ?_) (a' := ?_) #[true, true, true, true, true, true, false, true, true, false, false, false, false] rfl rfl (any_of HT_.out (by kernel_rfl)) (fun _ _ _ h => h) (Or.inl ⟨by rfl, ?_⟩) ?_ ?_
                  rotate_left
                  · intro w'
                    go_simp
                    with_reducible rfl
                  rotate_left
                  · simp only [Act.put, List.setIfInBounds_toArray, List.set_cons_zero, List.set_cons_succ, i64_w, i32_w]
                    rfl
                  refine take_ (i := 6) (N := some 80) (v := ?_) (a' := ?_) #[true, true, true, true, true, true, true, true, true, false, false, false, false] rfl rfl (take_ofW HT_.out HW_.out (by kernel_rfl)) (fun _ _ _ h => h) (Or.inl ⟨by rfl, ?_⟩) hHeld ?_ ?_
                  rotate_left
                  · rintro w' ⟨s0, s1, s2⟩
                    go_simp
                    with_reducible rfl
                  rotate_left
                  · simp only [Act.put, List.setIfInBounds_toArray, List.set_cons_zero, List.set_cons_succ, i64_w, i32_w]
                    rfl
                  refine one_ (i := 9) (N := some 83) #[true, true, true, true, true, true, true, true, true, true, false, false, false] rfl rfl (one_of HT_.out (by kernel_rfl)) (by decide) (fun K hK => ?_)
                  refine value_ (w1 := ?_) (v := ?_) (by rfl) rfl ?_ ?_
                  rotate_left 2
                  · go_simp
                    constructor
                    · rfl
                    · rfl
                  refine hK.out _ _ ⟨(pw_cell_below (below_alloc (Below.refl _ _) _) hc), (pw_cell_below (below_alloc (Below.refl _ _) _) hx0), (pw_cell_below (below_alloc (Below.refl _ _) _) hx1)⟩ (fun hHeld => ?_)
                  clear hK K
                  refine norm_ (a' := ?_) ?_ ?_
                  rotate_left
                  · show Act.put _ (some 83) _ = _
                    simp only [Act.put, List.setIfInBounds_toArray, List.set_cons_zero, List.set_cons_succ, i64_w, i32_w]
                    rfl
                  refine one_ (i := 10) (N := some 84) #[true, true, true, true, true, true, true, true, true, true, true, false, false] rfl rfl (one_of HT_.out (by kernel_rfl)) (by decide) (fun K hK => ?_)
                  have hcv := conv1 (P := Tryd.prog) Tryd.underlying61 Tryd.underlying5 Tryd.underlying9 wr (q : Int)
                  refine value_ (w1 := ?_) (v := ?_) (by rfl) rfl ?_ ?_
                  rotate_left 2
                  · go_simp
                    constructor
                    · rfl
                    · rfl
                  clear hcv
                  refine hK.out _ _ ⟨(pw_cell_below (below_alloc (Below.refl _ _) _) hc), (pw_cell_below (below_alloc (Below.refl _ _) _) hx0), (pw_cell_below (below_alloc (Below.refl _ _) _) hx1)⟩ (fun hHeld => ?_)
                  clear hK K
                  refine norm_ (a' := ?_) ?_ ?_
                  rotate_left
                  · show Act.put _ (some 84) _ = _
                    simp only [Act.put, List.setIfInBounds_toArray, List.set_cons_zero, List.set_cons_succ, i64_w, i32_w]
                    rfl
                  refine pure_ (i := 11) (N := some 85) (v := ?_) (a' := ?_) #[true, true, true, true, true, true, true, true, true, true, true, true, false] rfl rfl (any_of HT_.out (by kernel_rfl)) (fun _ _ _ h => h) (Or.inl ⟨by rfl, ?_⟩) ?_ ?_
                  rotate_left
                  · intro w'
                    go_simp
                    with_reducible rfl
                  rotate_left
                  · simp only [Act.put, List.setIfInBounds_toArray, List.set_cons_zero, List.set_cons_succ, i64_w, i32_w]
                    rfl
                  refine pure_ (i := 12) (N := some 86) (v := ?_) (a' := ?_) #[true, true, true, true, true, true, true, true, true, true, true, true, true] rfl rfl (any_of HT_.out (by kernel_rfl)) (fun _ _ _ h => h) (Or.inl ⟨by rfl, ?_⟩) ?_ ?_
                  rotate_left
                  · intro w'
                    go_simp
                    with_reducible rfl
                  rotate_left
                  · simp only [Act.put, List.setIfInBounds_toArray, List.set_cons_zero, List.set_cons_succ, i64_w, i32_w]
                    rfl
                  refine done_ (done_of HT_.out (by kernel_rfl)) ?_
                  go_wp2
                  go_roundw
                  case rel => exact ⟨k + 1, by omega, by go_num, Lib.hid (HR.out.move (below_drew (below_alloc (Below.refl _ _) _)) HR.out.below.size)⟩
                  case measure => simp [intOf]; omega
                · go_wp2
                  go_roundw
                  case rel => exact ⟨q + 1, by omega, by go_num, HR⟩
                  case measure => simp [intOf]; omega
            · obtain rfl : q = j := by omega
              have hge : decide ((64 : Int) * (q : Int) ≤ (gr : Int)) = true := decide_eq_true (by omega)
              have hb := HR.out.below
              clear HR
              go_wp2
              go_ret
              exact ⟨rfl, hb⟩
end Go.Proofs.YtlnjomhmffdfnaaDoor.X
