/- Words for the law's own check that lists share nothing. No condition. -/
import Derived.Test.YtlnjomhmffdfnaaDoorXBase
import Derived.Test.YtlnjomhmffdfnaaDoorYBase
import Derived.Test.YtlnjomhmffdfnaaDoorWWords
import Derived.Test.YtlnjomhmffdfnaaDoorWKept
import Derived.Lib.Hide
set_option linter.unusedVariables false
set_option linter.unusedSimpArgs false
namespace Go.Proofs.YtlnjomhmffdfnaaDoor.X
open Go.RowKit Go.Proofs.YtlnjomhmffdfnaaDoorW.PrintWords Go.Proofs.YtlnjomhmffdfnaaDoorW.PrintLast Go.Proofs.YtlnjomhmffdfnaaDoorW.PrintMore
open Go.Proofs.YtlnjomhmffdfnaaDoor
/-- what stays: below base all is as it was at w0, and but for S as it was at wz -/
structure Fr (base : Nat) (w0 wz : World) (S : Nat → Prop) (W : World) : Prop where
  b : Below base w0 W
  k : Kept wz W S
theorem Fr.move {base : Nat} {w0 wz W W1 : World} {S : Nat → Prop} (h : Fr base w0 wz S W) (hs : base ≤ W.heap.size) (hb : Below W.heap.size W W1) : Fr base w0 wz S W1 := ⟨below_then h.b hs hb, h.k.below hb⟩
theorem Fr.grown {base : Nat} {w0 wz W W1 : World} {S : Nat → Prop} (h : Fr base w0 wz S W) {row : Option Nat} (hs : base ≤ W.heap.size) (hg : W.grownBy W1 row) (hr : ∀ k, row = some k → base ≤ k) (hr2 : ∀ k, row = some k → S k ∨ wz.heap.size ≤ k) : Fr base w0 wz S W1 :=
  ⟨pw_below_grown h.b row hs hg hr, h.k.of_grown hg hr2⟩
theorem Fr.size {base : Nat} {w0 wz W : World} {S : Nat → Prop} (h : Fr base w0 wz S W) : w0.heap.size ≤ W.heap.size := h.b.size
/-- lists of the law's own: m rows, their slices in the cells of the block gl -/
structure Ap {α : Type} (d : Kd α) (e : Nat) (w0 wz W : World) (base gl m : Nat) (v : Nat → Value) (x : Nat → List α) : Prop where
  cell : ∀ j, j < m → W.cell? ⟨gl, j, none⟩ = some (v j)
  row : ∀ j, j < m → d.R e W base (fun k => (v j).ownBlock = some k) (v j) (x j)
  below : Fr base w0 wz (fun k => ∃ j, j < m ∧ (v j).ownBlock = some k) W
structure Sep (gl m : Nat) (v : Nat → Value) : Prop where
  sep : ∀ i j k, i < m → j < m → (v i).ownBlock = some k → (v j).ownBlock = some k → i = j
  out : ∀ j, j < m → (v j).ownBlock ≠ some gl
section
variable {α : Type} {d : Kd α} {e : Nat} {w0 wz W W1 : World} {base gl m : Nat} {v : Nat → Value} {x : Nat → List α}
theorem Ap.move (h : Ap d e w0 wz W base gl m v x) (hb : Below W.heap.size W W1) (hs : base ≤ W.heap.size) : Ap d e w0 wz W1 base gl m v x :=
  ⟨fun j hj => pw_cell_below hb (h.cell j hj), fun j hj => Kd.R_below (h.row j hj) hb, h.below.move hs hb⟩
theorem Ap.put (h : Ap d e w0 wz W base gl m v x) (s : Sep gl m v) (hs : base ≤ W.heap.size) {i g : Nat} {y : List α} (hi : i < m) (hv : (v i).ownBlock = some g) (hg : W.grownBy W1 (some g)) (hr : d.R e W1 base (fun k => (v i).ownBlock = some k) (v i) y) :
    Ap d e w0 wz W1 base gl m v (fun j => if j = i then y else x j) := by
  have hbg := Kd.R_base (h.row i hi) g hv
  refine ⟨fun j hj => hg.cell (h.cell j hj) (fun e1 => s.out i hi (hv.trans e1.symm)), fun j hj => ?_, h.below.grown hs hg (fun k e1 => by injection e1 with e1; omega) (fun k e1 => .inl ⟨i, hi, by rw [hv, e1]⟩)⟩
  by_cases hji : j = i
  · subst hji
    simp only [if_true]
    exact hr
  · simp only [hji, if_false]
    exact Kd.R_grown (h.row j hj) hg (fun k hk e1 => hji (s.sep j i k hj hi hk (hv.trans e1.symm)))
end
theorem conv1 {P : Program} {src dst e : TypeId} (hs : P.underlying src = some (.slice e)) (he : P.underlying e = some (.int .u8)) (hd : P.underlying dst = some .string) (W : World) (c : Int) :
    (convert src dst (.slice (some ⟨W.heap.size, 0, none⟩) 1 1)).run P (W.alloc (.cells #[.int .u8 c] e)).drew = .ok (.string (strOfNums [c])) (W.alloc (.cells #[.int .u8 c] e)).drew :=
  own_string hs he hd (pw_own_below (own_lit W 0 e .u8 [c] (Nat.zero_le _) (by simp)) (below_drew (Below.refl _ _)))
theorem take_set_rep {α : Type} {l : List α} {k : Nat} {a : α} (hk : k < l.length) (h : l.take k = List.replicate k a) : (l.set k a).take (k + 1) = List.replicate (k + 1) a := by
  apply List.ext_getElem?
  intro j
  rw [List.getElem?_take, List.getElem?_set, List.getElem?_replicate]
  by_cases h1 : j < k + 1
  · rw [if_pos h1, if_pos h1]
    by_cases h2 : k = j
    · subst h2
      rw [if_pos rfl, if_pos hk]
    · rw [if_neg h2]
      have h3 : (l.take k)[j]? = (List.replicate k a)[j]? := by rw [h]
      rw [List.getElem?_take, if_pos (by omega), List.getElem?_replicate, if_pos (by omega)] at h3
      exact h3
  · rw [if_neg h1, if_neg h1]
/-- the first loop: rows ahead of i are written full, of row i the first k -/
structure Ap2 {α : Type} (d : Kd α) (e : Nat) (mk : Nat → α) (w0 wz : World) (base gl m : Nat) (v : Nat → Value) (n : Nat → Nat) (i k : Nat) (W : World) : Prop where
  ex : ∃ x, Ap d e w0 wz W base gl m v x ∧ (∀ j, j < m → (x j).length = n j) ∧ (∀ j, j < i → j < m → x j = List.replicate (n j) (mk j)) ∧ (i < m → (x i).take k = List.replicate k (mk i))
section
variable {α : Type} {d : Kd α} {e : Nat} {mk : Nat → α} {w0 wz W W1 : World} {base gl m i k : Nat} {v : Nat → Value} {n : Nat → Nat}
theorem Ap2.next (h : Ap2 d e mk w0 wz base gl m v n i (n i) W) (hi : i < m) : Ap2 d e mk w0 wz base gl m v n (i + 1) 0 W := by
  obtain ⟨x, hA, hl, hp, ht⟩ := h.ex
  refine ⟨x, hA, hl, fun j hj hm => ?_, fun _ => rfl⟩
  by_cases hji : j = i
  · subst hji
    rw [← ht hi, ← hl j hi, List.take_length]
  · exact hp j (by omega) hm
theorem Ap2.step (h : Ap2 d e mk w0 wz base gl m v n i k W) (s : Sep gl m v) (hs : base ≤ W.heap.size) (hi : i < m) (hk : k < n i) {g : Nat} (hv : (v i).ownBlock = some g) (hb : Below W.heap.size W W1) {W2 : World} (hg : W1.grownBy W2 (some g))
    (hr : ∀ x : List α, d.R e W1 base (fun k => (v i).ownBlock = some k) (v i) x → x.length = n i → d.R e W2 base (fun k => (v i).ownBlock = some k) (v i) (x.set k (mk i))) : Ap2 d e mk w0 wz base gl m v n i (k + 1) W2 := by
  obtain ⟨x, hA, hl, hp, ht⟩ := h.ex
  have hA1 := hA.move hb hs
  refine ⟨_, hA1.put s (Nat.le_trans hs hb.size) hi hv hg (hr (x i) (hA1.row i hi) (hl i hi)), fun j hj => ?_, fun j hj hm => ?_, fun _ => ?_⟩
  · by_cases hji : j = i
    · subst hji; simp only [if_true, List.length_set]; exact hl j hj
    · simp only [hji, if_false]; exact hl j hj
  · simp only [show j ≠ i by omega, if_false]; exact hp j hj hm
  · simp only [if_true]
    exact take_set_rep (by rw [hl i hi]; exact hk) (ht hi)
end
theorem Ap2.hs {α : Type} {d : Kd α} {e : Nat} {mk : Nat → α} {w0 wz W : World} {gl m i k : Nat} {v : Nat → Value} {n : Nat → Nat} (h : Ap2 d e mk w0 wz w0.heap.size gl m v n i k W) : w0.heap.size ≤ W.heap.size := by
  obtain ⟨x, hA, _⟩ := h.ex
  exact hA.below.size
theorem Ap2.move {α : Type} {d : Kd α} {e : Nat} {mk : Nat → α} {w0 wz W W1 : World} {gl m i k : Nat} {v : Nat → Value} {n : Nat → Nat} (h : Ap2 d e mk w0 wz w0.heap.size gl m v n i k W) (hb : Below W.heap.size W W1) : Ap2 d e mk w0 wz w0.heap.size gl m v n i k W1 := by
  have hs := h.hs
  obtain ⟨x, hA, hr⟩ := h.ex
  exact ⟨x, hA.move hb hs, hr⟩
section
variable {P : Program}
/-- an append: in its own block, or in a new one, and then nothing that was there has changed -/
theorem run_append_two (w : World) (base : Nat) (t ty e : TypeId) (i : TypeInfo) (z : Value) (size bytes : Nat) (ht : P.underlying t = some (.slice e)) (hi : P.info? e = some i) (hz : i.zero = some z)
    (hsize : i.size = size) (hby : i.bytes = bytes) (hzs : z.cells.size = size) (hsz : 0 < size)
    (v : Value) (n : Nat) (xs : List Value) (hown : w.ownsRow base e size v n xs)
    (a : Addr) (m c : Nat) (news : List Value) (hl : news.length = m * size) (hnews : ∀ j u, news[j]? = some u → w.cell? (a.add j) = some u) (h1 : ∀ u ∈ news, u.oneCell' = true) (hm : 0 < m)
    (h63 : n + m ≤ maxLen) (hbytes : (n + m) * bytes ≤ 140737488355328) (hbase : base ≤ w.heap.size) :
    ∃ v' w', (Builtin.append_ #[t, t] ty #[v, .slice (some a) m c]).run P w = .ok v' w' ∧ w'.ownsRow base e size v' (n + m) (xs ++ news) ∧
      ((v'.ownBlock = v.ownBlock ∧ v.ownBlock ≠ none ∧ w.grownBy w' v.ownBlock) ∨ ∃ b, v'.ownBlock = some b ∧ w.heap.size ≤ b ∧ w.grownBy w' none) := by
  rcases hown.2 with ⟨rfl, rfl⟩ | ⟨g, cap, cur, rfl, hbg, hg, hnc, hcm, hcs, htake⟩
  · obtain ⟨v', w', hr, ho, hg, hnil, hat⟩ := run_append_own_at (P := P) w base t ty e i z size bytes ht hi hz hsize hby hzs hsz _ 0 xs hown a m c news hl hnews h1 h63 hbytes hbase
    refine ⟨v', w', hr, ho, .inr ?_⟩
    obtain ⟨g', cap', e1, _⟩ := ho.form (by omega)
    refine ⟨g', by rw [e1]; rfl, ?_, hg⟩
    rcases hat with hat | hat
    · rw [e1] at hat; simp [Value.ownBlock] at hat
    · rw [e1] at hat
      have : g' = w.heap.size := by simpa [Value.ownBlock] using hat
      omega
  · by_cases hroom : n + m ≤ cap
    · have hfit : n * i.size + news.length ≤ cur.size := by rw [hl, hcs, hsize, ← Nat.add_mul]; exact Nat.mul_le_mul_right _ hroom
      have hr := run_append_room (P := P) w t ty e i ht hi g n cap cur hg a m c news (by rw [hsize]; exact hl) hnews h1 hroom hfit
      have hlen : (xs ++ news).length = (n + m) * size := by rw [List.length_append, hown.1, hl, Nat.add_mul]
      subst hsize
      refine ⟨_, _, hr, ⟨hlen, .inr ⟨g, cap, _, rfl, hbg, setRow_heap w g cur _ e _ hg, hroom, hcm, ?_, ?_⟩⟩, .inl ⟨rfl, by simp [Value.ownBlock], ⟨rfl, rfl, rfl, by simp, fun k _ hk => setRow_other w g k _ (fun e => hk (by simp [Value.ownBlock, e]))⟩⟩⟩
      · simp only [List.size_toArray, List.length_append, List.length_take, List.length_drop, Array.length_toList]
        omega
      · rw [htake, ← hlen]
        exact List.take_left
    · obtain ⟨v', w', hr, ho, hg'⟩ := run_append_arg_grows (P := P) (w := w) t ty e i z size bytes ht hi hz hsize hby hzs hsz ⟨g, 0, none⟩ n cap xs hown.1 (hown.cells (g := g) rfl) a m c news hl hnews (by omega) h63 hbytes
      refine ⟨v', w', hr, ⟨ho.1, ho.2.imp (fun h => h) (fun ⟨g, cap, cur, h1, h2, r⟩ => ⟨g, cap, cur, h1, Nat.le_trans hbase h2, r⟩)⟩, .inr ?_⟩
      obtain ⟨g', cap', e1, hb, _⟩ := ho.form (by omega)
      exact ⟨g', by rw [e1]; rfl, hb, hg'⟩
end
section
variable {P : Program} {ops : Array Oper} {rest : List Oper} {o : Oper} {a : Act} {Q : Exit → Act → World → Prop} {α : Type}
theorem R_append_two (d : Kd α) (hE : d.E = []) {W : World} (base : Nat) (hgd : o.guard = none) (s x : Operand) (t e : TypeId) (z : Value) (bytes : Nat)
    (ho : o.op = .call { callee := .builtin .append, args := #[s, x], argTypes := #[t, t] })
    (ht : P.underlying t = some (.slice e)) (hinfo : (P.info? e).map (fun i => (i.zero, i.size, i.bytes)) = some (some z, d.sz, bytes)) (hz : z.cells.size = d.sz) (hs0 : 0 < d.sz) (hb0 : 0 < bytes)
    (v : Value) (xs : List α) (p : α) (cs : List Value) (hs : a.eval s = v) (ad : Addr) (hx : a.eval x = .slice (some ad) 1 1) (hp : d.M W base (fun _ => False) p cs) (hnews : ∀ j u, cs[j]? = some u → W.cell? (ad.add j) = some u)
    (HO : d.R e W base (fun k => v.ownBlock = some k) v xs) (hbase : base ≤ W.heap.size) (hl : (xs.length + 1) * bytes ≤ 140737488355328)
    (h : ∀ v1 w1, d.R e w1 base (fun k => v1.ownBlock = some k) v1 (xs ++ [p]) → ((v1.ownBlock = v.ownBlock ∧ v.ownBlock ≠ none ∧ W.grownBy w1 v.ownBlock) ∨ ∃ b, v1.ownBlock = some b ∧ W.heap.size ≤ b ∧ W.grownBy w1 none) → wpList P ops Q rest (a.put o.dst v1) w1) :
    wpList P ops Q (o :: rest) a W := by
  obtain ⟨h0, inner, hown, hr⟩ := HO
  obtain ⟨i0, hi, hzz⟩ := Option.map_eq_some_iff.1 hinfo
  simp only [Prod.mk.injEq] at hzz
  obtain ⟨hz0, hz1, hz2⟩ := hzz
  have hlen : xs.length + 1 ≤ 140737488355328 := Nat.le_trans (Nat.le_mul_of_pos_right _ hb0) hl
  obtain ⟨v1, w1, hrun, hown1, hat⟩ := run_append_two (P := P) W base t o.type e i0 z d.sz bytes ht hi hz0 hz1 hz2 hz hs0 v xs.length inner hown ad 1 1 cs (by rw [d.K_len (d.K_of_M hp), Nat.one_mul]) hnews (d.K_one (d.K_of_M hp)) (by decide) (by simp only [maxLen]; omega) hl hbase
  refine wpList_plain hgd fun _ hK => ?_
  unfold Oper.wp execOp
  simp only [ho, resolve, invoke, builtin, Sem.run_bind, Sem.run_pure, Result.andThen_ok, List.map_toArray, List.map_cons, List.map_nil, hs, hx, hrun]
  have hg : W.grownBy w1 v.ownBlock := by
    rcases hat with ⟨_, _, hg⟩ | ⟨b, _, _, hg⟩
    · exact hg
    · exact ⟨hg.os, hg.tape, hg.output, hg.size, fun k hk _ => hg.block k hk (by simp)⟩
  have hat' : v1.ownBlock = v.ownBlock ∨ ∃ b, v1.ownBlock = some b ∧ W.heap.size ≤ b := by
    rcases hat with ⟨e1, _⟩ | ⟨b, e1, e2, _⟩
    · exact .inl e1
    · exact .inr ⟨b, e1, e2⟩
  have hR := Kd.R_appended (d := d) (ok := fun k => v.ownBlock = some k ∨ W.heap.size ≤ k) (fun k hk => .inl hk) (hr.imp_ (fun _ _ hq => d.M_mono (fun k hk => ⟨.inl hk.1, hk.2⟩) hq)) hp (fun _ hk => hk.elim) (fun k hk => .inr hk) hown1 hg hat'
  exact hK _ _ (h v1 w1 (Kd.R_mono (Kd.R_tight hE hR) (fun k hk => hk.symm)) hat)
end
/-- what is static: the slices' form, the lists' lengths -/
structure Frm (m : Nat) (v : Nat → Value) (n : Nat → Nat) (A : Nat → Option Addr) (c : Nat → Nat) : Prop where
  val : ∀ j, j < m → v j = .slice (A j) (n j) (c j)
  hd : ∀ j a, j < m → A j = some a → a = ⟨a.block, 0, none⟩
theorem own_hd {w : World} {base n : Nat} {e : TypeId} {size c : Nat} {A : Option Addr} {xs : List Value} (h : w.ownsRow base e size (.slice A n c) n xs) {a : Addr} (ha : A = some a) : a = ⟨a.block, 0, none⟩ := by
  rcases h.2 with ⟨e1, _⟩ | ⟨g, cap, cur, e1, _⟩
  · injection e1 with e1
    rw [ha] at e1; cases e1
  · injection e1 with e1
    rw [ha] at e1
    injection e1 with e1
    rw [e1]
/-- the rows ahead of i are read, those from i on are rows -/
structure Ap3 {α : Type} (d : Kd α) (e : Nat) (w0 wz : World) (base gl m : Nat) (v : Nat → Value) (n : Nat → Nat) (A : Nat → Option Addr) (x : Nat → List α) (i : Nat) (W : World) : Prop where
  cell : ∀ j, j < m → W.cell? ⟨gl, j, none⟩ = some (v j)
  rd : ∀ j, j < m → Kd.F d W (fun k => (v j).ownBlock = some k) (A j) (n j) (x j)
  row : ∀ j, i ≤ j → j < m → d.R e W base (fun k => (v j).ownBlock = some k) (v j) (x j)
  lt : ∀ j k, j < m → (v j).ownBlock = some k → base ≤ k ∧ k < W.heap.size
  below : Fr base w0 wz (fun k => ∃ j, j < m ∧ (v j).ownBlock = some k) W
structure Ap4 {α : Type} (d : Kd α) (e : Nat) (w0 wz : World) (base gl m : Nat) (v : Nat → Value) (n : Nat → Nat) (A : Nat → Option Addr) (x : Nat → List α) (i H k : Nat) (ys : List α) (vm : Value) (W : World) : Prop where
  cell : ∀ j, j < m → W.cell? ⟨gl, j, none⟩ = some (v j)
  gl_ : gl < H
  rd : ∀ j, j < m → j ≠ i → Kd.F d W (fun k => (v j).ownBlock = some k) (A j) (n j) (x j)
  row : ∀ j, i < j → j < m → d.R e W base (fun k => (v j).ownBlock = some k) (v j) (x j)
  lt : ∀ j k, j < m → (v j).ownBlock = some k → base ≤ k ∧ k < H
  HW : H ≤ W.heap.size
  below : Fr base w0 wz (fun k => ∃ j, j < m ∧ (v j).ownBlock = some k) W
  hz : wz.heap.size ≤ H
  own : d.R e W base (fun k => vm.ownBlock = some k) vm ys
  len : ys.length = n i + k
  two :
    ((vm.ownBlock = (v i).ownBlock ∧ ys.take (n i) = x i) ∨ (Kd.F d W (fun k => (v i).ownBlock = some k) (A i) (n i) (x i) ∧ ∃ b, vm.ownBlock = some b ∧ H ≤ b))
section
variable {α : Type} {d : Kd α} {e : Nat} {w0 wz W W1 : World} {base gl m i H k : Nat} {v : Nat → Value} {n c : Nat → Nat} {A : Nat → Option Addr} {x : Nat → List α} {vm : Value} {ys : List α}
theorem Ap3.start (h : Ap d e w0 wz W base gl m v x) (hf : Frm m v n A c) (hn : ∀ j, j < m → (x j).length = n j) : Ap3 d e w0 wz base gl m v n A x 0 W :=
  ⟨h.cell, fun j hj => by have := h.row j hj; rw [hf.val j hj] at this; have h2 := Kd.R_F this; rw [← hf.val j hj] at h2; exact h2,
   fun j _ hj => h.row j hj, fun j k hj hk => ⟨Kd.R_base (h.row j hj) k hk, Kd.R_lt (h.row j hj) k hk⟩, h.below⟩
theorem Ap3.move (h : Ap3 d e w0 wz base gl m v n A x i W) (hb : Below W.heap.size W W1) (hs : base ≤ W.heap.size) : Ap3 d e w0 wz base gl m v n A x i W1 :=
  ⟨fun j hj => pw_cell_below hb (h.cell j hj), fun j hj => Kd.F_below (h.rd j hj) hb, fun j h1 hj => Kd.R_below (h.row j h1 hj) hb,
   fun j k hj hk => ⟨(h.lt j k hj hk).1, Nat.lt_of_lt_of_le (h.lt j k hj hk).2 hb.size⟩, h.below.move hs hb⟩
theorem Ap3.into (h : Ap3 d e w0 wz base gl m v n A x i W) (hi : i < m) (hn : (x i).length = n i) : Ap4 d e w0 wz base gl m v n A x i W.heap.size 0 (x i) (v i) W :=
  ⟨h.cell, World.block_lt_of_cell? W _ (h.cell i hi), fun j hj _ => h.rd j hj, fun j h1 hj => h.row j (Nat.le_of_lt h1) hj, h.lt, Nat.le_refl _, h.below, h.below.k.1,
   h.row i (Nat.le_refl _) hi, by rw [hn, Nat.add_zero], .inl ⟨rfl, by rw [← hn, List.take_length]⟩⟩
theorem Ap4.move (h : Ap4 d e w0 wz base gl m v n A x i H k ys vm W) (hb : Below W.heap.size W W1) (hs : base ≤ W.heap.size) : Ap4 d e w0 wz base gl m v n A x i H k ys vm W1 := by
  have h1 := h.own; have h2 := h.len; have h3 := h.two
  refine ⟨fun j hj => pw_cell_below hb (h.cell j hj), h.gl_, fun j hj hn => Kd.F_below (h.rd j hj hn) hb, fun j h1 hj => Kd.R_below (h.row j h1 hj) hb, h.lt, Nat.le_trans h.HW hb.size, h.below.move hs hb, h.hz, Kd.R_below h1 hb, h2, ?_⟩
  rcases h3 with h3 | ⟨h3, h4⟩
  · exact .inl h3
  · exact .inr ⟨Kd.F_below h3 hb, h4⟩
theorem Ap4.rdi (h : Ap4 d e w0 wz base gl m v n A x i H k ys vm W) (hf : Frm m v n A c) (hi : i < m) : Kd.F d W (fun k => (v i).ownBlock = some k) (A i) (n i) (x i) := by
  have h1 := h.own; have h2 := h.len; have h3 := h.two
  rcases h3 with ⟨h3, h4⟩ | ⟨h3, _⟩
  · by_cases h0 : n i = 0
    · rw [h0] at h4 ⊢
      rw [← h4]
      exact fun W' _ => ⟨rfl, by omega, fun h => absurd h (Nat.lt_irrefl 0)⟩
    · obtain ⟨g, cap, e1, _⟩ := Kd.R_form h1 (by omega)
      rw [e1] at h1
      have h5 := Kd.R_take (m := n i) h1 (by omega)
      rw [h4] at h5
      have h6 := Kd.R_F h5
      have e2 : (v i).ownBlock = some g := by rw [← h3, e1]; rfl
      have e3 : A i = some ⟨g, 0, none⟩ := by
        rw [hf.val i hi] at e2
        cases hA : A i with
        | none => rw [hA] at e2; simp [Value.ownBlock] at e2
        | some a =>
          rw [hA] at e2
          have : a.block = g := by simpa [Value.ownBlock] using e2
          rw [hf.hd i a hi hA, this]
      rw [e3]
      exact Kd.F_mono h6 (fun k hk => by rw [e2]; simpa [Value.ownBlock] using hk)
  · exact h3
theorem Ap4.out (h : Ap4 d e w0 wz base gl m v n A x i H k ys vm W) (hf : Frm m v n A c) (hi : i < m) : Ap3 d e w0 wz base gl m v n A x (i + 1) W := by
  refine ⟨h.cell, fun j hj => ?_, fun j h1 hj => h.row j h1 hj, fun j k hj hk => ⟨(h.lt j k hj hk).1, Nat.lt_of_lt_of_le (h.lt j k hj hk).2 h.HW⟩, h.below⟩
  by_cases hji : j = i
  · subst hji
    exact h.rdi hf hi
  · exact h.rd j hj hji
theorem Ap4.push (h : Ap4 d e w0 wz base gl m v n A x i H k ys vm W) (s : Sep gl m v) (hf : Frm m v n A c) (hs : base ≤ W.heap.size) (hi : i < m) {v1 : Value} {w1 : World} {p : α}
    (hr1 : d.R e w1 base (fun k => v1.ownBlock = some k) v1 (ys ++ [p]))
    (hat : (v1.ownBlock = vm.ownBlock ∧ vm.ownBlock ≠ none ∧ W.grownBy w1 vm.ownBlock) ∨ ∃ b, v1.ownBlock = some b ∧ W.heap.size ≤ b ∧ W.grownBy w1 none) : Ap4 d e w0 wz base gl m v n A x i H (k + 1) (ys ++ [p]) v1 w1 := by
  have hri := h.rdi hf hi
  have h1 := h.own; have h2 := h.len; have h3 := h.two
  have hfar : ∀ k, vm.ownBlock = some k → (∀ j k', j < m → j ≠ i → (v j).ownBlock = some k' → k' ≠ k) ∧ gl ≠ k := by
    intro k hk
    rcases h3 with ⟨h3, _⟩ | ⟨_, b, hb, hH⟩
    · rw [h3] at hk
      exact ⟨fun j k' hj hji hk' e1 => hji (s.sep j i k hj hi (by rw [hk', e1]) hk), fun e1 => s.out i hi (by rw [hk, e1])⟩
    · rw [hb] at hk
      injection hk with hk
      have hg := h.gl_
      exact ⟨fun j k' hj _ hk' e1 => by have := (h.lt j k' hj hk').2; omega, by omega⟩
  obtain ⟨row, hg, hrow⟩ : ∃ row : Option Nat, W.grownBy w1 row ∧ ∀ k, row = some k → vm.ownBlock = some k := by
    rcases hat with ⟨_, _, hg⟩ | ⟨b, _, _, hg⟩
    · exact ⟨_, hg, fun k hk => hk⟩
    · exact ⟨none, hg, fun k hk => by cases hk⟩
  refine ⟨fun j hj => hg.cell (h.cell j hj) (fun e1 => (hfar gl (hrow gl e1.symm)).2 rfl), h.gl_, fun j hj hji => Kd.F_grown (h.rd j hj hji) hg (fun k hk e1 => (hfar k (hrow k e1.symm)).1 j k hj hji hk rfl),
    fun j h1' hj => Kd.R_grown (h.row j h1' hj) hg (fun k hk e1 => (hfar k (hrow k e1.symm)).1 j k hj (by omega) hk rfl), h.lt, Nat.le_trans h.HW hg.size,
    h.below.grown hs hg (fun k hk => Kd.R_base h1 k (hrow k hk)) (fun k hk => ?_), h.hz, hr1, by rw [List.length_append, List.length_singleton, h2]; omega, ?_⟩
  · rcases h3 with ⟨h3, _⟩ | ⟨_, b, hb, hH⟩
    · exact .inl ⟨i, hi, by rw [← h3]; exact hrow k hk⟩
    · have := hrow k hk
      rw [hb] at this
      injection this with this
      have := h.hz
      exact .inr (by omega)
  rcases hat with ⟨e1, _, hg'⟩ | ⟨b, e1, e2, hg'⟩
  · rcases h3 with ⟨h3, h4⟩ | ⟨h3, b, hb, hH⟩
    · exact .inl ⟨e1.trans h3, by rw [List.take_append_of_le_length (by omega)]; exact h4⟩
    · exact .inr ⟨Kd.F_grown h3 hg' (fun k hk e3 => by rw [hb] at e3; injection e3 with e3; have := (h.lt i k hi hk).2; omega), b, by rw [e1, hb], hH⟩
  · exact .inr ⟨Kd.F_grown hri hg' (fun k _ e3 => by cases e3), b, e1, Nat.le_trans h.HW e2⟩
end
def slA : Value → Option Addr
  | .slice a _ _ => a
  | _ => none
def slC : Value → Nat
  | .slice _ _ c => c
  | _ => 0
theorem frm_of {α : Type} {d : Kd α} {e : Nat} {w0 wz W : World} {base gl m : Nat} {v : Nat → Value} {x : Nat → List α} {n : Nat → Nat} (h : Ap d e w0 wz W base gl m v x) (hn : ∀ j, j < m → (x j).length = n j) : Frm m v n (fun j => slA (v j)) (fun j => slC (v j)) := by
  refine ⟨fun j hj => ?_, fun j a hj ha => ?_⟩
  · obtain ⟨A, c, e1⟩ := Kd.R_slice (h.row j hj)
    show v j = .slice (slA (v j)) (n j) (slC (v j))
    rw [e1, hn j hj]
    rfl
  · obtain ⟨A, c, e1⟩ := Kd.R_slice (h.row j hj)
    obtain ⟨inner, ho⟩ := Kd.R_own (h.row j hj)
    have ha' : slA (v j) = some a := ha
    rw [e1] at ho ha'
    exact own_hd ho ha'
theorem Ap2.three {α : Type} {d : Kd α} {e : Nat} {mk : Nat → α} {w0 wz W : World} {gl m : Nat} {v : Nat → Value} {n : Nat → Nat} (h : Ap2 d e mk w0 wz w0.heap.size gl m v n m 0 W) :
    ∃ A c, Frm m v n A c ∧ Ap3 d e w0 wz w0.heap.size gl m v n A (fun j => List.replicate (n j) (mk j)) 0 W := by
  obtain ⟨x, hA, hl, hp, _⟩ := h.ex
  have hf := frm_of hA hl
  have hA' : Ap d e w0 wz W w0.heap.size gl m v (fun j => List.replicate (n j) (mk j)) := ⟨hA.cell, fun j hj => by have := hA.row j hj; rw [hp j hj hj] at this; exact this, hA.below⟩
  exact ⟨_, _, hf, Ap3.start hA' hf (fun j _ => List.length_replicate ..)⟩
end Go.Proofs.YtlnjomhmffdfnaaDoor.X
