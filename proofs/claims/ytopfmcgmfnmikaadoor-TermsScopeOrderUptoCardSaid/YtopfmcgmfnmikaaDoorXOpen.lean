/- Arguments opened by their kinds: what a reading says of the cells, in the print's own words; how much it holds. No condition. -/
import Derived.Test.YtopfmcgmfnmikaaDoorRows
import Derived.Test.YtopfmcgmfnmikaaDoorWAll
import Derived.ProofKit
import Derived.DataElems
import Derived.ChangeArms
import Derived.DataReads
set_option linter.unusedVariables false
namespace Go.Proofs.YtopfmcgmfnmikaaDoor.O
open Go Go.RowKit Go.ChangeShapes Go.Proofs.YtopfmcgmfnmikaaDoorW.PrintWords Go.Proofs.YtopfmcgmfnmikaaDoor.Rows

/-- WHAT IS TOLD OF A KIND: a reading at type T is of some x whose cells are those; m: how many values and letters it holds at the least; F: what holds of every such x; S: what holds where no part is beyond the reach. -/
structure Opn (P : Program) (T : TypeId) {α : Type} (d : Kd α) where
  m : α → Nat
  F : α → Prop
  S : α → Prop
  op : ∀ {H : Type} {enc : TypeId × Value → H} {W : World} {fuel : Nat} {cs : List Value} {D : DataW H} {ps : List MemPlace}, DataW.trod enc P W 0 (fun _ => true) true fuel T cs = some (D, ps) →
    ∃ x, d.K W x cs ∧ F x ∧ m x ≤ uptoBulk D ∧ ((∀ n ∈ D.weights P T, n ≤ 140737488351232) → S x)

variable {P : Program} {T e : TypeId}
def oBool (hT : P.underlying T = some .bool) : Opn P T Kd.bool where
  m := fun _ => 1
  F := fun _ => True
  S := fun _ => True
  op := fun h => by
    obtain ⟨b, rfl, hx⟩ := DataW.trod_bool hT h
    simp only [Prod.mk.injEq] at hx
    obtain ⟨rfl, rfl⟩ := hx
    exact ⟨b, rfl, trivial, by simp [uptoBulk], fun _ => trivial⟩
def oInt {k : IntKind} (hT : P.underlying T = some (.int k)) : Opn P T (Kd.int k) where
  m := fun _ => 1
  F := fun x => (Lit.int k x).wf = true
  S := fun _ => True
  op := fun h => by
    obtain ⟨b, rfl, hx, hw⟩ := DataW.trod_int hT h
    simp only [Prod.mk.injEq] at hx
    obtain ⟨rfl, rfl⟩ := hx
    exact ⟨b, rfl, hw, by simp [uptoBulk], fun _ => trivial⟩
def oStr (hT : P.underlying T = some .string) : Opn P T Kd.string where
  m := fun s => s.size + 1
  F := fun s => s.size ≤ 9223372036854775807
  S := fun s => s.size ≤ 140737488351232
  op := fun h => by
    obtain ⟨s, rfl, hx, hm⟩ := DataW.trod_string hT h
    simp only [Prod.mk.injEq] at hx
    obtain ⟨rfl, rfl⟩ := hx
    exact ⟨s, rfl, hm, by simp [uptoBulk], fun hw => by
      have := hw s.data.toList.length (by simp [DataW.weights])
      rwa [data_length] at this⟩

theorem bulk_mem {H : Type} : ∀ (l : List (DataW H)), uptoBulkAll l = (l.map uptoBulk).sum
  | [] => rfl
  | d :: r => by simp [uptoBulkAll, bulk_mem r]
theorem weights_all {H : Type} {d : DataW H} {n : Nat} (hn : n ∈ d.weights P e) : ∀ {l : List (DataW H)}, d ∈ l → n ∈ DataW.weightsAll P e l
  | x :: r, hd => by
    simp only [DataW.weightsAll, List.mem_append]
    rcases List.mem_cons.1 hd with rfl | hd
    · exact .inl hn
    · exact .inr (weights_all hn hd)

/-- elements, one by one -/
theorem each {α : Type} {d : Kd α} (o : Opn P e d) {H : Type} {enc : TypeId × Value → H} {W : World} (hsz : P.cellsOf e = d.sz) {a : Addr} {n : Nat} :
    ∀ (elems : List (DataW H × List MemPlace)) (s : Nat), (∀ i, i < elems.length → (W.cells? 0 (a.add ((s + i) * P.cellsOf e)) (P.cellsOf e)).bind (DataW.trod enc P W 0 (fun _ => true) true n e) = elems[i]?) →
      ∃ xs : List α, xs.length = elems.length ∧ (∀ j p, xs[j]? = some p → ∃ c, c.length = d.sz ∧ d.K W p c ∧ ∀ i u, c[i]? = some u → W.cell? (a.add ((s + j) * d.sz + i)) = some u) ∧ (∀ x ∈ xs, o.F x) ∧
        (xs.map o.m).sum ≤ ((elems.map (·.1)).map uptoBulk).sum ∧ ((∀ y ∈ elems, ∀ w ∈ y.1.weights P e, w ≤ 140737488351232) → ∀ x ∈ xs, o.S x)
  | [], s, _ => ⟨[], rfl, (fun j p h => by simp at h), (fun x hx => by cases hx), by simp, (fun _ x hx => by cases hx)⟩
  | y :: r, s, h => by
    obtain ⟨xs, hl, hc, hF, hm, hS⟩ := each o (n := n) hsz r (s + 1) (fun i hi => by
      have := h (i + 1) (by simp; omega)
      rw [show s + (i + 1) = s + 1 + i by omega] at this
      simpa using this)
    have h0 := h 0 (by simp)
    simp only [Nat.add_zero, List.getElem?_cons_zero] at h0
    obtain ⟨cs, h1, h2⟩ := Option.bind_eq_some_iff.1 h0
    obtain ⟨D, ps⟩ := y
    obtain ⟨x, hK, hFx, hmx, hSx⟩ := o.op h2
    obtain ⟨_, hlen, hcell⟩ := World.cells?_some h1
    refine ⟨x :: xs, by simp [hl], ?_, ?_, ?_, ?_⟩
    · intro j p hj
      cases j with
      | zero =>
        simp only [List.getElem?_cons_zero, Option.some.injEq] at hj
        subst hj
        refine ⟨cs, by rw [hlen, hsz], hK, fun i u hu => ?_⟩
        have hi : i < P.cellsOf e := by rw [← hlen]; exact (List.getElem?_eq_some_iff.1 hu).1
        have := hcell i hi
        rw [hu, Go.Addr.add_add, hsz] at this
        simpa using this
      | succ j =>
        obtain ⟨c, h3, h4, h5⟩ := hc j p (by simpa using hj)
        exact ⟨c, h3, h4, fun i u hu => by rw [show s + (j + 1) = s + 1 + j by omega]; exact h5 i u hu⟩
    · intro z hz
      rcases List.mem_cons.1 hz with rfl | hz
      · exact hFx
      · exact hF z hz
    · simp only [List.map_cons, List.sum_cons]
      omega
    · intro hw z hz
      rcases List.mem_cons.1 hz with rfl | hz
      · exact hSx (hw _ (List.mem_cons_self ..))
      · exact hS (fun y hy => hw y (List.mem_cons_of_mem _ hy)) z hz

def oSlice {α : Type} {d : Kd α} (hT : P.underlying T = some (.slice e)) (hsz : P.cellsOf e = d.sz) (o : Opn P e d) : Opn P T (Kd.slice e d) where
  m := fun xs => (xs.map o.m).sum + 1
  F := fun xs => xs.length ≤ 9223372036854775807 ∧ ∀ x ∈ xs, o.F x
  S := fun xs => xs.length * P.bytesOf e ≤ 140737488351232 ∧ ∀ x ∈ xs, o.S x
  op := fun {H enc W fuel cs D ps} h => by
    rcases DataW.trod_slice hT h with ⟨rfl, hx⟩ | ⟨a, len, cap, elems, rest, n, _, rfl, hx, _, hlc, hcap, hlen, hel, _, _⟩
    · simp only [Prod.mk.injEq] at hx
      obtain ⟨rfl, rfl⟩ := hx
      exact ⟨[], ⟨none, 0, rfl, Nat.le_refl _, rfl, by simp, fun hp => absurd hp (by simp)⟩, ⟨by simp, (fun x hx => by cases hx)⟩, by simp [uptoBulk], fun _ => ⟨by simp, (fun x hx => by cases hx)⟩⟩
    · simp only [Prod.mk.injEq] at hx
      obtain ⟨rfl, rfl⟩ := hx
      obtain ⟨xs, hl, hc, hF, hm, hS⟩ := each o hsz (a := a) (n := n) elems 0 (fun i hi => by rw [Nat.zero_add]; exact hel i (by omega))
      have hmx : maxLen = 9223372036854775807 := rfl
      refine ⟨xs, ⟨some a, cap, by rw [hl, hlen], by omega, rfl, by omega, fun hp => ⟨a, rfl, fun j p hj => ?_⟩⟩, ⟨by omega, hF⟩, ?_, ?_⟩
      · obtain ⟨c, h1, h2, h3⟩ := hc j p hj
        exact ⟨c, h1, h2, fun i u hu => by have := h3 i u hu; rwa [Nat.zero_add] at this⟩
      · simp only [uptoBulk]
        rw [bulk_mem]
        omega
      · intro hw
        have hw' : ∀ y ∈ elems, ∀ w ∈ y.1.weights P e, w ≤ 140737488351232 := fun y hy w hw1 => hw w (by
          simp only [DataW.weights, hT, List.mem_cons, List.mem_append]
          exact .inr (.inl (weights_all hw1 (List.mem_map.2 ⟨y, hy, rfl⟩))))
        refine ⟨?_, hS hw'⟩
        have := hw ((elems.map (·.1)).length + (rest.map (·.1)).length |> (· * P.bytesOf e)) (by simp [DataW.weights, hT])
        refine Nat.le_trans (Nat.mul_le_mul_right _ ?_) this
        simp
        omega

/-- a list of fields that lie one behind the other -/
structure OpnF (P : Program) (ts : List TypeId) {α : Type} (d : Kd α) where
  m : α → Nat
  F : α → Prop
  S : α → Prop
  op : ∀ {H : Type} {enc : TypeId × Value → H} {W : World} {n : Nat} (s : Nat) (cs : List Value) (ys : List (DataW H × List MemPlace)), ys.length = ts.length →
    (∀ i t, ts[i]? = some t → DataW.trod enc P W 0 (fun _ => true) true n t ((cs.drop (s + ((ts.take i).map P.cellsOf).sum)).take (P.cellsOf t)) = ys[i]?) → cs.length = s + (ts.map P.cellsOf).sum →
    ∃ x, d.K W x (cs.drop s) ∧ F x ∧ m x ≤ uptoBulkAll (ys.map (·.1)) ∧ ((∀ w ∈ DataW.weightsEach P ts (ys.map (·.1)), w ≤ 140737488351232) → S x)
variable {t : TypeId} {ts : List TypeId}
def fLast {α : Type} {d : Kd α} (o : Opn P t d) : OpnF P [t] d where
  m := o.m
  F := o.F
  S := o.S
  op := fun {H enc W n} s cs ys hl h hc => by
    match ys, hl with
    | [(D, ps)], _ =>
      have h0 := h 0 t rfl
      simp only [List.take_zero, List.map_nil, List.sum_nil, Nat.add_zero, List.getElem?_cons_zero] at h0
      simp only [List.map_cons, List.map_nil, List.sum_cons, List.sum_nil, Nat.add_zero] at hc
      rw [List.take_of_length_le (by rw [List.length_drop]; omega)] at h0
      obtain ⟨x, h1, h2, h3, h4⟩ := o.op h0
      exact ⟨x, h1, h2, by simpa [uptoBulkAll] using h3, fun hw => h4 (by simpa [DataW.weightsEach] using hw)⟩
def fCons {α β : Type} {d : Kd α} {d' : Kd β} (o : Opn P t d) (r : OpnF P ts d') : OpnF P (t :: ts) (Kd.pair d d') where
  m := fun x => o.m x.1 + r.m x.2
  F := fun x => o.F x.1 ∧ r.F x.2
  S := fun x => o.S x.1 ∧ r.S x.2
  op := fun {H enc W n} s cs ys hl h hc => by
    match ys, hl with
    | (D, ps) :: ys, hl =>
      have h0 := h 0 t rfl
      simp only [List.take_zero, List.map_nil, List.sum_nil, Nat.add_zero, List.getElem?_cons_zero] at h0
      simp only [List.map_cons, List.sum_cons] at hc
      obtain ⟨x, h1, h2, h3, h4⟩ := o.op h0
      obtain ⟨y, g1, g2, g3, g4⟩ := r.op (s + P.cellsOf t) cs ys (by simpa using hl) (fun i u hi => by
        have := h (i + 1) u (by simpa using hi)
        simp only [List.take_succ_cons, List.map_cons, List.sum_cons, List.getElem?_cons_succ] at this
        rwa [Nat.add_assoc]) (by omega)
      refine ⟨(x, y), ⟨_, _, ?_, h1, g1⟩, ⟨h2, g2⟩, by simp only [List.map_cons, uptoBulkAll]; omega, fun hw => ?_⟩
      · rw [← List.drop_drop, List.take_append_drop]
      · simp only [List.map_cons, DataW.weightsEach, List.mem_append] at hw
        exact ⟨h4 (fun n hn => hw n (.inl hn)), g4 (fun n hn => hw n (.inr hn))⟩

def oStruct {α : Type} {d : Kd α} {fs : Array Field} (hT : P.underlying T = some (.struct fs)) (ht : fs.toList.map (·.type) = ts) (ho : fs.toList.map (·.offset) = (List.range ts.length).map (fun i => ((ts.take i).map P.cellsOf).sum))
    (hs : P.cellsOf T = (ts.map P.cellsOf).sum) (o : OpnF P ts d) : Opn P T d where
  m := fun x => o.m x + 1
  F := o.F
  S := o.S
  op := fun {H enc W fuel cs D ps} h => by
    obtain ⟨xs, n, rfl, hx, hl, hlen, hf⟩ := DataW.trod_struct hT h
    simp only [Prod.mk.injEq] at hx
    obtain ⟨rfl, rfl⟩ := hx
    have htl : ts.length = fs.size := by rw [← ht]; simp
    obtain ⟨x, h1, h2, h3, h4⟩ := o.op (enc := enc) (W := W) (n := n) 0 cs xs (by omega) (fun i u hi => by
      have hi' : i < fs.size := by rw [← htl]; exact (List.getElem?_eq_some_iff.1 hi).1
      have e1 : (fs[i]'hi').type = u := by
        have : (fs.toList.map (·.type))[i]? = some u := by rw [ht]; exact hi
        simpa [hi'] using this
      have e2 : (fs[i]'hi').offset = ((ts.take i).map P.cellsOf).sum := by
        have : (fs.toList.map (·.offset))[i]? = some (((ts.take i).map P.cellsOf).sum) := by rw [ho]; simp [htl, hi']
        simpa [hi'] using this
      have := hf i (fs[i]'hi') (by simp [hi'])
      rw [e1, e2] at this
      rwa [Nat.zero_add]) (by rw [hl, hs]; omega)
    refine ⟨x, by simpa using h1, h2, by simp only [uptoBulk]; omega, fun hw => h4 (fun w hw1 => hw w ?_)⟩
    simp only [DataW.weights, hT]
    rwa [ht]
def oIso {α β : Type} {d : Kd α} (f : β → α) (g : α → β) (hfg : ∀ x, f (g x) = x) (o : Opn P T d) : Opn P T (Kd.iso d f) where
  m := fun x => o.m (f x)
  F := fun x => o.F (f x)
  S := fun x => o.S (f x)
  op := fun h => by
    obtain ⟨x, h1, h2, h3, h4⟩ := o.op h
    exact ⟨g x, by show d.K _ (f (g x)) _; rw [hfg]; exact h1, by rw [hfg]; exact h2, by rw [hfg]; exact h3, by rw [hfg]; exact h4⟩
end Go.Proofs.YtopfmcgmfnmikaaDoor.O
