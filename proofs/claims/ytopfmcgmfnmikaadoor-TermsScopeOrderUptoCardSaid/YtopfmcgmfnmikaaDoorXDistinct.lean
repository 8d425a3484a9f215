/- terms.distinct, by hand, out of the shelf's contracts for slices.Sort and slices.Compact: a row of the call's own, sorted and made single in place; strings.ContainsAny on plain texts. -/
import Derived.Test.YtopfmcgmfnmikaaDoorXBase
import Derived.Test.YtopfmcgmfnmikaaDoorXShelf
import Derived.Test.YtopfmcgmfnmikaaDoorYBase
import Derived.WalkKit
import Derived.KernelRfl
import Derived.Sort.OwnSorted
import Derived.Lib.SlicesCompact
set_option linter.unusedVariables false
namespace Go.Proofs.YtopfmcgmfnmikaaDoor.X
open Go.RowKit Go.Sort Go.Proofs.YtopfmcgmfnmikaaDoorW.PrintWords Go.Proofs.YtopfmcgmfnmikaaDoorW.PrintLast Go.Proofs.YtopfmcgmfnmikaaDoorW.PrintMore
open Go.Proofs.YtopfmcgmfnmikaaDoor
def plainB (s : ByteArray) : Bool := decide (s.size < 4294967281) && s.data.toList.all (fun b => decide (b.toNat < 128))
def strings_ContainsAny.f (a0 a1 : ByteArray) : Option Bool := if plainB a0 = true ∧ plainB a1 = true then some (Lib.containsAny a0.data.toList a1.data.toList) else none
theorem plain_at {s : ByteArray} (h : plainB s = true) : s.size < 4294967281 ∧ ∀ (j : Nat) b, s.data.toList[j]? = some b → b.toNat < 128 := by
  simp only [plainB, Bool.and_eq_true, decide_eq_true_eq, List.all_eq_true] at h
  exact ⟨h.1, fun j b hj => h.2 b (List.mem_of_getElem? hj)⟩
theorem strings_ContainsAny.calls (a0 a1 : ByteArray) (r : Bool) (w : World) (h : strings_ContainsAny.f a0 a1 = some r) :
    Calls Tryd.prog 68 #[.string a0, .string a1] w fun e w' => e = .returned (.bool r) ∧ Below w.heap.size w w' := by
  unfold strings_ContainsAny.f at h
  by_cases hp : plainB a0 = true ∧ plainB a1 = true
  case neg => rw [if_neg hp] at h; cases h
  rw [if_pos hp] at h
  obtain rfl := Option.some.inj h
  obtain ⟨h1, h2⟩ := plain_at hp.1
  obtain ⟨h3, h4⟩ := plain_at hp.2
  exact Tryd.strings_ContainsAny_laid a0 a1 w h1 h3 h2 h4
def strsW (xs : List ByteArray) : List (List UInt8) := xs.map fun b => b.data.toList
def unstrs (ss : List (List UInt8)) : List ByteArray := ss.map fun b => ⟨b.toArray⟩
def distinctW (xs : List ByteArray) : List ByteArray := unstrs (Lib.compact ((strsW xs).mergeSort fun x y => decide (x ≤ y)))
def terms_distinct.f (l0 : List ByteArray) : Option (List ByteArray) := if l0.length < 4611686018427387904 then some (distinctW l0) else none
theorem strs_enc (xs : List ByteArray) : (strsW xs).map encStr = encs Value.string xs := by
  simp only [strsW, encs, List.map_map]
  rfl
theorem unstrs_enc (ss : List (List UInt8)) : encs Value.string (unstrs ss) = ss.map encStr := by
  simp only [unstrs, encs, List.map_map]
  rfl
theorem compact_le (zs : List (List UInt8)) : (Lib.compact zs).length ≤ zs.length := by
  unfold Lib.compact Lib.compactUpTo
  rw [List.length_map]
  have := List.length_filter_le (Lib.keeps zs.toArray) (List.range zs.length)
  simpa using this
/-- one step: a row of the call's own is laid anew by what the library did -/
theorem R_sorted {w : World} {base g cap n : Nat} {ok : Nat → Prop} {os : Array Obj} {xs : List ByteArray} {ts : List (List UInt8)} (h : Kd.string.R 9 w base ok (.slice (some ⟨g, 0, none⟩) xs.length cap) xs) (hl : ts.length = xs.length) :
    Kd.string.R 9 (grow (putRow encStr (Sort.ahead w n) g 0 ts.toArray) os) base ok (.slice (some ⟨g, 0, none⟩) (unstrs ts).length cap) (unstrs ts) ∧ w.grownBy (grow (putRow encStr (Sort.ahead w n) g 0 ts.toArray) os) (some g) := by
  have ho := Kd.own_of_R h
  rcases ho.2 with ⟨h0, _⟩ | ⟨g', cap', cur, hv, hbase, hb, h1, h2, h3, h4⟩
  · cases h0
  cases hv
  have hu : (unstrs ts).length = xs.length := by simp [unstrs, hl]
  have hs : (strsW xs).length = xs.length := by simp [strsW]
  refine ⟨Kd.R_of_own ?_ h.1, grownBy_sorted _⟩
  have := ownsRow_sorted (n := n) (os := os) (ss := strsW xs) (ts := ts) (by rw [hs]; exact hl) hbase hb (by rw [hs]; exact h1) h2 h3
  rw [hs] at this
  rw [unstrs_enc, hu]
  exact this
theorem holds_R {w : World} {base g cap : Nat} {ok : Nat → Prop} {xs : List ByteArray} (h : Kd.string.R 9 w base ok (.slice (some ⟨g, 0, none⟩) xs.length cap) xs) : Holds encStr w g 0 (strsW xs).toArray ∧ g < w.heap.size ∧ xs.length ≤ cap := by
  have ho := Kd.own_of_R h
  rcases ho.2 with ⟨h0, _⟩ | ⟨g', cap', cur, hv, hbase, hb, h1, h2, h3, h4⟩
  · cases h0
  cases hv
  refine ⟨holds_of_block hb ?_, (Array.getElem?_eq_some_iff.1 hb).1, h1⟩
  rw [strs_enc, ← h4]
  simp [strsW]
set_option maxHeartbeats 4000000 in
set_option maxRecDepth 100000 in
theorem terms_distinct.calls (P0_ : Nat → Prop) (u9000_ : Value) (l0 : List ByteArray) (r : List ByteArray) (w0 w : World) (hB : Below w0.heap.size w0 w) (ho0 : Kd.R Kd.string 9 w w0.heap.size P0_ u9000_ l0) (h : terms_distinct.f l0 = some r) :
    Calls Tryd.prog 42 #[u9000_] w fun e w' => ∃ v0_ : Value, e = .returned (v0_) ∧ Kd.R Kd.string 9 w' w0.heap.size (fun k_ => (P0_ k_ ∨ w.heap.size ≤ k_)) v0_ r ∧ Below w0.heap.size w0 w' ∧ Kept w w' (fun k_ => P0_ k_) := by
  unfold terms_distinct.f at h
  by_cases hl : l0.length < 4611686018427387904
  case neg => rw [if_neg hl] at h; cases h
  rw [if_pos hl] at h
  obtain rfl := Option.some.inj h
  clear h
  rcases (Kd.own_of_R ho0).2 with ⟨h0, hz⟩ | ⟨g, cap, cur, hv, hbase, hb, h1, h2, h3, h4⟩
  · subst h0
    have hz2 : l0 = [] := List.length_eq_zero_iff.1 hz
    subst hz2
    go_enter Tryd.func42, Tryd.ntmps42
    go_wp2_with fail
    with_reducible refine (Tryd.slices_Sort_string_none none 0 _).mono ?_
    rintro e w' ⟨rfl, rfl⟩
    go_wp2_with fail
    with_reducible refine (Tryd.slices_Compact_string_empty none 0 _).mono ?_
    rintro e w' ⟨rfl, rfl⟩
    go_wp2_with fail
    go_ret
    refine ⟨_, rfl, ?_, ?_, ?_⟩
    · have hd0 : distinctW [] = [] := by simp [distinctW, strsW, Lib.compact, Lib.compactUpTo, unstrs]
      rw [hd0]
      exact Kd.R_nil _ _ _ _ _
    · exact hB
    · exact Kept.refl _ _
  · subst hv
    obtain ⟨hH, hlt, hcap⟩ := holds_R ho0
    have hss : (strsW l0).length = l0.length := by simp [strsW]
    have hsort : ((strsW l0).mergeSort fun x y => decide (x ≤ y)).length = l0.length := by rw [List.length_mergeSort, hss]
    generalize hzs : ((strsW l0).mergeSort fun x y => decide (x ≤ y)) = zs at *
    go_enter Tryd.func42, Tryd.ntmps42
    go_wp2_with fail
    rw [← hss]
    have hlt2 : (strsW l0).length < 4611686018427387904 := by rw [hss]; exact hl
    with_reducible refine (Tryd.slices_Sort_string g 0 cap (strsW l0) _ hH hlt hlt2).mono ?_
    rintro e w1 ⟨rfl, n1, os, hw1⟩
    rw [hzs] at hw1
    obtain ⟨hR1, hg1⟩ := R_sorted (n := n1) (os := os) ho0 hsort
    rw [← hw1] at hR1 hg1
    have hu1 : (unstrs zs).length = l0.length := by simp [unstrs, hsort]
    have hsu : strsW (unstrs zs) = zs := by simp [strsW, unstrs, List.map_map, Function.comp_def]
    obtain ⟨hH1, hlt1, hcap1⟩ := holds_R hR1
    rw [hsu] at hH1
    go_wp2_with fail
    rw [← hsort, ← hw1]
    with_reducible refine (Tryd.slices_Compact_string g 0 cap zs w1 hH1 (by omega) (by omega)).mono ?_
    rintro e w2 ⟨rfl, q, hw2⟩
    have hcl := compact_le zs
    have hl2 : (Lib.compact zs ++ List.replicate (zs.length - (Lib.compact zs).length) []).length = (unstrs zs).length := by simp [unstrs]; omega
    obtain ⟨hR2, hg2⟩ := R_sorted (n := q) (os := #[]) hR1 hl2
    rw [grow_empty, ← hw2] at hR2 hg2
    have hR3 := Kd.R_take (m := (Lib.compact zs).length) hR2 (by simp [unstrs])
    have ht : (unstrs (Lib.compact zs ++ List.replicate (zs.length - (Lib.compact zs).length) [])).take (Lib.compact zs).length = distinctW l0 := by
      rw [show distinctW l0 = unstrs (Lib.compact zs) by unfold distinctW; rw [hzs]]
      simp [unstrs]
    rw [ht] at hR3
    go_wp2_with fail
    go_ret
    have hg := World.grownBy.trans hg1 hg2
    rw [hw2, hw1, hsort] at hR3 hg
    refine ⟨_, rfl, ?_, ?_, ?_⟩
    · exact Kd.R_mono hR3 (fun k hk => .inl hk)
    · exact hB.grown hg hB.size (fun k e => by cases e; exact hbase)
    · exact ⟨hg.size, fun i hi hn => hg.block i hi (fun e => hn (by cases e; exact ho0.1 g rfl))⟩
end Go.Proofs.YtopfmcgmfnmikaaDoor.X
