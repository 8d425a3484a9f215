/- Out of what a row lists the facts that the walks take: each listed error has a place of its own. No condition. -/
import Derived.Test.YtopfmcgmfnmikaaDoorRows
import Derived.Test.YtopfmcgmfnmikaaDoorXBase
import Derived.ProofKit
import Derived.LaidMore
import Derived.OpenShut
import Derived.LaidLaws
import Derived.Stop.LaidErr
import Derived.Lib.LaidTab
set_option linter.unusedVariables false
set_option maxRecDepth 100000
namespace Go.Proofs.YtopfmcgmfnmikaaDoor
open Go Go.RowKit Go.ChangeShapes
def eData (text : List UInt8) : DataW Unit := .iface "*errors.errorString" (.ptr (.agg [.lit (.string text)]))
def nameE : Int → String
  | 1 => "usher/api.ErrArg"
  | 2 => "usher/api.ErrText"
  | 3 => "usher/api.ErrMany"
  | 4 => "usher/api.ErrTwice"
  | 5 => "usher/api.ErrScheme"
  | 6 => "usher/api.ErrShort"
  | 7 => "usher/api.ErrDry"
  | 8 => "usher/api.ErrTaken"
  | 9 => "usher/api.ErrFull"
  | 10 => "usher/api.ErrDead"
  | 11 => "usher/api.ErrLog"
  | 12 => "usher/api.ErrLost"
  | 13 => "usher/api.ErrDenied"
  | _ => ""
def textE : Int → List UInt8
  | 1 => [97, 114, 103, 117, 109, 101, 110, 116]
  | 2 => [116, 101, 120, 116]
  | 3 => [109, 97, 110, 121]
  | 4 => [116, 119, 105, 99, 101]
  | 5 => [115, 99, 104, 101, 109, 101]
  | 6 => [115, 104, 111, 114, 116]
  | 7 => [100, 114, 121]
  | 8 => [116, 97, 107, 101, 110]
  | 9 => [102, 117, 108, 108]
  | 10 => [100, 101, 97, 100]
  | 11 => [108, 111, 103]
  | 12 => [108, 111, 115, 116]
  | 13 => [100, 101, 110, 105, 101, 100]
  | _ => []
def globE : Int → Nat
  | 1 => 2
  | 2 => 0
  | 3 => 1
  | 4 => 3
  | 5 => 4
  | 6 => 5
  | 7 => 6
  | 8 => 8
  | 9 => 9
  | 10 => 10
  | 11 => 11
  | 12 => 12
  | 13 => 13
  | _ => 0
theorem encode_inj : ∀ a b : Int, (if 0 ≤ a then 2 * a.toNat else 2 * (-a).toNat + 1) = (if 0 ≤ b then 2 * b.toNat else 2 * (-b).toNat + 1) → a = b := by
  intro a b h
  split at h <;> split at h <;> omega
theorem bound_of (K : List Int) (f : Int → Nat) : ∃ M : Nat, ∀ k ∈ K, f k < M := by
  induction K with
  | nil => exact ⟨0, fun k hk => by cases hk⟩
  | cons x r ih =>
    obtain ⟨M, hM⟩ := ih
    refine ⟨M + f x + 1, fun k hk => ?_⟩
    rcases List.mem_cons.1 hk with rfl | hk
    · omega
    · have := hM k hk
      omega
theorem hrowE (u : TypeId) (h : Tryd.prog.typeName? 3 u = some "*errors.errorString") : u = 139 :=
  typeName_ptr_named (nm := "errors.errorString") (by kernel_rfl) (by kernel_rfl) (by decide) u h
theorem hstE : ∃ f : Field, Tryd.prog.underlying 154 = some (.struct #[f]) ∧ f.type = 9 ∧ f.offset = 0 := ⟨_, Tryd.underlying154, rfl, rfl⟩
theorem hsE : Tryd.prog.underlying 9 = some .string := by kernel_rfl
theorem hcE : Tryd.prog.cellsOf 154 = 1 := by kernel_rfl
theorem hcsE : Tryd.prog.cellsOf 9 = 1 := by kernel_rfl
def RowsOk (W : World) (ps : List MemPlace) : Prop := ∀ b off, MemPlace.cell b off ∈ ps → (∃ c t, W.heap[b]? = some (.cells c t (0, 0))) ∧ ∀ u v, W.cell? ⟨b, off, none⟩ = some (.iface u v) → Value.okWide Tryd.prog W .any 0 u v
theorem head_err {W : World} {n : String} {text : List UInt8} {g : Nat} {r : List (String × DataW Unit)} {ps : List MemPlace} (h : DataW.LaidVars Tryd.prog W ((n, eData text) :: r) ps) (hrows : RowsOk W ps)
    (hg : Tryd.prog.globalNamed n = some g) (ht : (Tryd.prog.globals[g]?).map (·.type) = some 32) :
    ∃ a q, W.var? Tryd.prog n = some #[.iface 139 (.pointer (some a))] ∧ DataW.LaidVars Tryd.prog W r q ∧ ps = MemPlace.row ⟨g, 0, none⟩ 1 ++ MemPlace.row a 1 ++ q := by
  obtain ⟨g0, t0, cs0, f0, p0, q0, hg0, ht0, hv0, hd0, hr0, e0⟩ := h
  obtain rfl := Option.some.inj (hg.symm.trans hg0)
  obtain rfl := Option.some.inj (ht.symm.trans ht0)
  obtain ⟨l0⟩ := cs0
  have ok0 : ∀ u v, l0 = [.iface u v] → Value.okWide Tryd.prog W .any 0 u v := fun u v e => by
    subst e
    exact (hrows g 0 (by rw [e0]; simp [MemPlace.row])).2 u v (by simpa using World.var?_cell hg0 hv0 0)
  obtain ⟨f, hst, hft, hfo⟩ := hstE
  obtain ⟨a0, s0, rfl, hc0, hs0, hz0, rfl⟩ := errorString_of_trod hiE hrowE hpE hst hft hfo hsE hcE hcsE hd0 ok0
  exact ⟨a0, q0, hv0, hr0, e0⟩
theorem at_err {W : World} {n : String} {text : List UInt8} {g : Nat} (hg : Tryd.prog.globalNamed n = some g) (ht : (Tryd.prog.globals[g]?).map (·.type) = some 32) :
    ∀ (l : List (String × DataW Unit)) (ps : List MemPlace) (i : Nat), DataW.LaidVars Tryd.prog W l ps → RowsOk W ps → l[i]? = some (n, eData text) →
      ∃ a, W.var? Tryd.prog n = some #[.iface 139 (.pointer (some a))] ∧ MemPlace.cell a.block a.off ∈ ps
  | [], _, i, _, _, he => by simp at he
  | x :: r, ps, 0, h, hrows, he => by
    simp only [List.getElem?_cons_zero, Option.some.injEq] at he
    subst he
    obtain ⟨a, q, hv, _, e⟩ := head_err h hrows hg ht
    exact ⟨a, hv, by rw [e]; simp [MemPlace.row]⟩
  | (m, d) :: r, ps, i + 1, h, hrows, he => by
    obtain ⟨g0, t0, cs0, f0, p0, q0, _, _, _, _, hr0, e0⟩ := h
    obtain ⟨a, hv, hm⟩ := at_err hg ht r q0 i hr0 (fun b off hb => hrows b off (by rw [e0]; exact List.mem_append_right _ hb)) (by simpa using he)
    exact ⟨a, hv, by rw [e0]; exact List.mem_append_right _ hm⟩
theorem ne_err {W : World} {n m : String} {text text' : List UInt8} {g g' : Nat} (hg : Tryd.prog.globalNamed n = some g) (ht : (Tryd.prog.globals[g]?).map (·.type) = some 32) (hg' : Tryd.prog.globalNamed m = some g') (ht' : (Tryd.prog.globals[g']?).map (·.type) = some 32) {a b : Addr}
    (ha : W.var? Tryd.prog n = some #[.iface 139 (.pointer (some a))]) (hb : W.var? Tryd.prog m = some #[.iface 139 (.pointer (some b))]) :
    ∀ (l : List (String × DataW Unit)) (ps : List MemPlace) (i j : Nat), i < j → DataW.LaidVars Tryd.prog W l ps → RowsOk W ps → ps.Nodup → l[i]? = some (n, eData text) → l[j]? = some (m, eData text') → a ≠ b
  | [], _, i, _, _, _, _, _, he, _ => by simp at he
  | x :: r, ps, 0, j + 1, _, h, hrows, hnd, he, hj => by
    simp only [List.getElem?_cons_zero, Option.some.injEq] at he
    subst he
    obtain ⟨a', q, hv, hr, e⟩ := head_err h hrows hg ht
    rw [ha] at hv
    obtain rfl : a = a' := by simpa using hv
    obtain ⟨b', hv', hm⟩ := at_err hg' ht' r q j hr (fun b off hb => hrows b off (by rw [e]; exact List.mem_append_right _ hb)) (by simpa using hj)
    rw [hb] at hv'
    obtain rfl : b = b' := by simpa using hv'
    rintro rfl
    rw [e] at hnd
    have := (List.nodup_append.1 hnd).2.2 (.cell a.block a.off) (by simp [MemPlace.row]) _ hm
    exact this rfl
  | (k, d) :: r, ps, i + 1, j + 1, hij, h, hrows, hnd, he, hj => by
    obtain ⟨g0, t0, cs0, f0, p0, q0, _, _, _, _, hr0, e0⟩ := h
    exact ne_err hg ht hg' ht' ha hb r q0 i j (by omega) hr0 (fun b off hb => hrows b off (by rw [e0]; exact List.mem_append_right _ hb)) (by rw [e0] at hnd; exact (List.nodup_append.1 hnd).2.1) (by simpa using he) (by simpa using hj)
/-- THE ERRORS OF A LIST, each at its place: 'K' their numbers, in the list's order from place o on. -/
theorem sent_of {W : World} {l : List (String × DataW Unit)} (h : laidMet Tryd.prog l W) (K : List Int) (o : Nat) (hK : K ≠ []) (hd : K.Nodup)
    (hl : ∀ i k, K[i]? = some k → l[o + i]? = some (nameE k, eData (textE k)))
    (hg : ∀ k ∈ K, Tryd.prog.globalNamed (nameE k) = some (globE k)) (ht : ∀ k ∈ K, (Tryd.prog.globals[globE k]?).map (·.type) = some 32) :
    ∃ EA : Int → Addr, ErrBlk EA W ∧ ∀ k ∈ K, W.cell? ⟨globE k, 0, none⟩ = some (.iface 139 (.pointer (some (EA k)))) := by
  obtain ⟨ps, hv, hnd, hrows⟩ := h
  have each : ∀ k, ∃ a, k ∈ K → W.var? Tryd.prog (nameE k) = some #[.iface 139 (.pointer (some a))] ∧ MemPlace.cell a.block a.off ∈ ps := fun k => by
    by_cases hk : k ∈ K
    · obtain ⟨i, hi⟩ := List.getElem?_of_mem hk
      obtain ⟨a, h1, h2⟩ := at_err (hg k hk) (ht k hk) l ps (o + i) hv hrows (hl i k hi)
      exact ⟨a, fun _ => ⟨h1, h2⟩⟩
    · exact ⟨⟨0, 0, none⟩, fun x => absurd x hk⟩
  let F : Int → Addr := fun k => Classical.choose (each k)
  have hF : ∀ k ∈ K, W.var? Tryd.prog (nameE k) = some #[.iface 139 (.pointer (some (F k)))] ∧ MemPlace.cell (F k).block (F k).off ∈ ps := fun k hk => Classical.choose_spec (each k) hk
  have inj : ∀ a b, a ∈ K → b ∈ K → F a = F b → a = b := by
    intro a b ha hb e
    obtain ⟨i, hi⟩ := List.getElem?_of_mem ha
    obtain ⟨j, hj⟩ := List.getElem?_of_mem hb
    rcases Nat.lt_trichotomy i j with hij | hij | hij
    · exact absurd e (ne_err (hg a ha) (ht a ha) (hg b hb) (ht b hb) (hF a ha).1 (hF b hb).1 l ps (o + i) (o + j) (by omega) hv hrows hnd (hl i a hi) (hl j b hj))
    · subst hij
      rw [hi] at hj
      exact Option.some.inj hj
    · exact absurd e.symm (ne_err (hg b hb) (ht b hb) (hg a ha) (ht a ha) (hF b hb).1 (hF a ha).1 l ps (o + j) (o + i) (by omega) hv hrows hnd (hl j b hj) (hl i a hi))
  obtain ⟨k0, hk0⟩ := List.exists_mem_of_ne_nil K hK
  have bound := bound_of K (fun k => (F k).off)
  obtain ⟨M, hM⟩ := bound
  refine ⟨fun k => if k ∈ K then F k else ⟨(F k0).block, M + (if 0 ≤ k then 2 * k.toNat else 2 * (-k).toNat + 1), none⟩, ⟨?_, ?_⟩, ?_⟩
  · intro a b e
    by_cases ha : a ∈ K <;> by_cases hb : b ∈ K
    · simp only [ha, hb, if_true] at e
      exact inj a b ha hb e
    · simp only [ha, hb, if_true, if_false] at e
      have := hM a ha
      rw [e] at this
      simp only at this
      omega
    · simp only [ha, hb, if_true, if_false] at e
      have := hM b hb
      rw [← e] at this
      simp only at this
      omega
    · simp only [ha, hb, if_false, Addr.mk.injEq, true_and, and_true] at e
      exact encode_inj a b (by omega)
  · intro q
    by_cases hq : q ∈ K
    · simp only [hq, if_true]
      exact (hrows _ _ (hF q hq).2).1
    · simp only [hq, if_false]
      exact (hrows _ _ (hF k0 hk0).2).1
  · intro k hk
    simp only [hk, if_true]
    simpa using World.var?_cell (hg k hk) (hF k hk).1 0
theorem laid_at {W : World} : ∀ (l : List (String × DataW Unit)) (ps : List MemPlace) (i : Nat) {n : String} {d : DataW Unit} {g t : Nat}, DataW.LaidVars Tryd.prog W l ps → l[i]? = some (n, d) → Tryd.prog.globalNamed n = some g → (Tryd.prog.globals[g]?).map (·.type) = some t →
    ∃ cs f p, W.var? Tryd.prog n = some cs ∧ DataW.trod (fun _ => ()) Tryd.prog W 0 (fun _ => true) false f t cs.toList = some (d, p) ∧ ∀ x, x ∈ MemPlace.row ⟨g, 0, none⟩ cs.size → x ∈ ps
  | [], _, i, _, _, _, _, _, he, _, _ => by simp at he
  | (m, d') :: r, ps, 0, n, d, g, t, h, he, hg, ht => by
    obtain ⟨g0, t0, cs0, f0, p0, q0, hg0, ht0, hv0, hd0, hr0, e0⟩ := h
    simp only [List.getElem?_cons_zero, Option.some.injEq, Prod.mk.injEq] at he
    obtain ⟨rfl, rfl⟩ := he
    obtain rfl := Option.some.inj (hg.symm.trans hg0)
    obtain rfl := Option.some.inj (ht.symm.trans ht0)
    exact ⟨cs0, f0, p0, hv0, hd0, fun x hx => by rw [e0]; exact List.mem_append_left _ (List.mem_append_left _ hx)⟩
  | (m, d') :: r, ps, i + 1, n, d, g, t, h, he, hg, ht => by
    obtain ⟨g0, t0, cs0, f0, p0, q0, _, _, _, _, hr0, e0⟩ := h
    obtain ⟨cs, f, p, h1, h2, h3⟩ := laid_at r q0 i hr0 (by simpa using he) hg ht
    exact ⟨cs, f, p, h1, h2, fun x hx => by rw [e0]; exact List.mem_append_right _ (h3 x hx)⟩
theorem laid_ints {W : World} {l : List (String × DataW Unit)} (h : laidMet Tryd.prog l W) (i : Nat) {name : String} {k : IntKind} {zs : List Int} {g t e n : Nat} (hi : l[i]? = some (name, Lib.tabData k zs))
    (hg : Tryd.prog.globalNamed name = some g) (hty : (Tryd.prog.globals[g]?).map (·.type) = some t) (ht : Tryd.prog.underlying t = some (.array n e)) (he : Tryd.prog.underlying e = some (.int k)) (hce : Tryd.prog.cellsOf e = 1) (hct : Tryd.prog.cellsOf t = n) : Lib.TabIs Tryd.prog W name k zs := by
  obtain ⟨ps, hv, _, _⟩ := h
  obtain ⟨cs, f, p, h1, h2, _⟩ := laid_at l ps i hv hi hg hty
  unfold Lib.TabIs
  rw [h1, ← Lib.cells_of_tab ht he hce hct h2]
theorem laid_blk {W : World} {l : List (String × DataW Unit)} (h : laidMet Tryd.prog l W) (i : Nat) {name : String} {d : DataW Unit} {g t : Nat} (hi : l[i]? = some (name, d))
    (hg : Tryd.prog.globalNamed name = some g) (hty : (Tryd.prog.globals[g]?).map (·.type) = some t) {cs0 : Array Value} (hv0 : W.var? Tryd.prog name = some cs0) (hc : 0 < cs0.size) : ∃ c ty, W.heap[g]? = some (.cells c ty (0, 0)) := by
  obtain ⟨ps, hv, _, hrows⟩ := h
  obtain ⟨cs, f, p, h1, _, h3⟩ := laid_at l ps i hv hi hg hty
  obtain rfl := Option.some.inj (hv0.symm.trans h1)
  exact (hrows g 0 (h3 _ (by simp only [MemPlace.row, List.mem_map, List.mem_range]; exact ⟨0, hc, rfl⟩))).1
theorem anyErr {W : World} {g : Nat} (h : ∃ c ty, W.heap[g]? = some (.cells c ty (0, 0))) : ∃ EA : Int → Addr, ErrBlk EA W := by
  refine ⟨fun k => ⟨g, (if 0 ≤ k then 2 * k.toNat else 2 * (-k).toNat + 1), none⟩, fun a b e => ?_, fun q => h⟩
  simp only [Addr.mk.injEq, true_and, and_true] at e
  exact encode_inj a b e
theorem strs_cells {H : Type} {enc : TypeId × Value → H} {W : World} {base : Nat} {sp : Nat → Bool} {held : Bool} {fuel : Nat} {t e : TypeId} {n : Nat} {cs : List Value} {l : List (List UInt8)} {p : List MemPlace}
    (ht : Tryd.prog.underlying t = some (.array n e)) (hs : Tryd.prog.underlying e = some .string) (hce : Tryd.prog.cellsOf e = 1)
    (h : DataW.trod enc Tryd.prog W base sp held fuel t cs = some (.agg (l.map fun x => (DataW.lit (Lit.string x) : DataW H)), p)) :
    ∀ (i : Nat) (x : List UInt8), l[i]? = some x → cs[i]? = some (Value.string ⟨x.toArray⟩) := by
  obtain ⟨xs, m, _, hx, _, hl, hel⟩ := DataW.trod_array ht h
  simp only [Prod.mk.injEq, DataW.agg.injEq] at hx
  obtain ⟨hx, _⟩ := hx
  intro i x hi
  have hln : l.length = n := by
    have := congrArg List.length hx
    simp only [List.length_map] at this
    omega
  have hin : i < n := by rw [← hln]; exact (List.getElem?_eq_some_iff.1 hi).1
  have hel := hel i hin
  have hxi : xs[i]? = some xs[i] := List.getElem?_eq_getElem (by omega)
  rw [hxi, hce] at hel
  have hd : xs[i].1 = .lit (.string x) := by
    have := congrArg (·[i]?) hx
    simp only [List.getElem?_map, hi, hxi, Option.map_some, Option.some.injEq] at this
    exact this.symm
  obtain ⟨s, s1, s2, _⟩ := DataW.trod_string hs hel
  rw [s2] at hd
  simp only [DataW.lit.injEq, Lit.string.injEq] at hd
  have e1 := congrArg (·[0]?) s1
  simp only [List.getElem?_take, List.getElem?_drop, List.getElem?_cons_zero, Nat.add_zero, Nat.mul_one] at e1
  rw [if_pos (by decide)] at e1
  rw [e1, ← hd]
theorem laid_heads_blk {W : World} {l : List (String × DataW Unit)} (h : laidMet Tryd.prog l W) (i : Nat) {d : DataW Unit} (hi : l[i]? = some ("usher/terms.heads", d)) : ∃ c ty, W.heap[7]? = some (.cells c ty (0, 0)) := by
  have h' := h
  obtain ⟨ps, hv, _, _⟩ := h
  obtain ⟨cs, f, p, h1, h2, _⟩ := laid_at l ps i hv (t := 73) (g := 7) hi (by kernel_rfl) (by kernel_rfl)
  obtain ⟨xs, m, _, hx, hlen, hl, hel⟩ := DataW.trod_array (show Tryd.prog.underlying 73 = some (.array 2 9) by kernel_rfl) h2
  rw [show Tryd.prog.cellsOf 73 = 2 by kernel_rfl] at hlen
  exact laid_blk h' i (g := 7) (t := 73) hi (by kernel_rfl) (by kernel_rfl) h1 (by rw [← Array.length_toList, hlen]; decide)
theorem laid_heads {W : World} {l : List (String × DataW Unit)} (h : laidMet Tryd.prog l W) (i : Nat) (hi : l[i]? = some ("usher/terms.heads", .agg [.lit (.string [104, 116, 116, 112, 115, 58, 47, 47]), .lit (.string [104, 116, 116, 112, 58, 47, 47])])) :
    W.cell? ⟨7, 0, none⟩ = some (.string ⟨#[104, 116, 116, 112, 115, 58, 47, 47]⟩) ∧ W.cell? ⟨7, 1, none⟩ = some (.string ⟨#[104, 116, 116, 112, 58, 47, 47]⟩) := by
  obtain ⟨ps, hv, _, _⟩ := h
  obtain ⟨cs, f, p, h1, h2, _⟩ := laid_at l ps i hv (t := 73) (g := 7) hi (by kernel_rfl) (by kernel_rfl)
  have hc := strs_cells (l := [[104, 116, 116, 112, 115, 58, 47, 47], [104, 116, 116, 112, 58, 47, 47]]) (show Tryd.prog.underlying 73 = some (.array 2 9) by kernel_rfl) (by kernel_rfl) (by kernel_rfl) h2
  have hcell := fun j => World.var?_cell (show Tryd.prog.globalNamed "usher/terms.heads" = some 7 by kernel_rfl) h1 j
  refine ⟨?_, ?_⟩
  · rw [hcell 0, ← Array.getElem?_toList]; exact hc 0 _ rfl
  · rw [hcell 1, ← Array.getElem?_toList]; exact hc 1 _ rfl
end Go.Proofs.YtopfmcgmfnmikaaDoor
