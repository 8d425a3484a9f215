/- The search for one byte in plain words. No condition. -/
import Derived.Test.YtopfmcgmfnmikaaDoorYEv
import Derived.Lib.IndexLaws
-- IMPORTS
namespace Go.Proofs.YtopfmcgmfnmikaaDoor.Y
open Go.RowKit Go.Proofs.YtopfmcgmfnmikaaDoorW.PrintWords Go.Proofs.YtopfmcgmfnmikaaDoorW.PrintLast
theorem bt_of {s : ByteArray} {k : Nat} {c : UInt8} (h : s.data.toList[k]? = some c) : bt s (k : Int) = (c.toNat : Int) ∧ k < s.size := by
  have hk : k < s.data.toList.length := (List.getElem?_eq_some_iff.1 h).1
  rw [size_data] at hk
  have h2 := bt_get s (i := (k : Int)) (by omega) (by omega)
  have h3 : (bytesOf s)[(k : Int).toNat]? = some (c.toNat : Int) := by
    unfold bytesOf
    rw [Int.toNat_natCast, List.getElem?_map, h]
    rfl
  exact ⟨Option.some.inj (h2.symm.trans h3), hk⟩
theorem of_bt {s : ByteArray} {k : Nat} {c : UInt8} (hk : k < s.size) (h : bt s (k : Int) = (c.toNat : Int)) : s.data.toList[k]? = some c := by
  have hk' : k < s.data.toList.length := by rw [size_data]; exact hk
  have h2 : s.data.toList[k]? = some s.data.toList[k] := List.getElem?_eq_getElem hk'
  have h3 := (bt_of h2).1
  rw [h] at h3
  rw [h2]
  congr 1
  exact UInt8.toNat_inj.1 (by omega)
theorem index_cases (s : ByteArray) (c : UInt8) : (Lib.indexByte s.data.toList c = -1 ∧ ∀ i : Int, 0 ≤ i → i < s.size → bt s i ≠ (c.toNat : Int)) ∨
    ∃ t : Nat, Lib.indexByte s.data.toList c = (t : Int) ∧ t < s.size ∧ bt s (t : Int) = (c.toNat : Int) ∧ ∀ i : Int, 0 ≤ i → i < t → bt s i ≠ (c.toNat : Int) := by
  have hge := Lib.indexByte_ge s.data.toList c
  by_cases e : Lib.indexByte s.data.toList c = -1
  · refine .inl ⟨e, fun i h0 h1 hb => ?_⟩
    have := Lib.indexByte_none e i.toNat
    exact this (of_bt (by omega) (by rw [show ((i.toNat : Nat) : Int) = i by omega]; exact hb))
  · obtain ⟨t, ht⟩ : ∃ t : Nat, Lib.indexByte s.data.toList c = (t : Int) := ⟨(Lib.indexByte s.data.toList c).toNat, by omega⟩
    obtain ⟨h1, h2⟩ := Lib.indexByte_some ht
    obtain ⟨h3, h4⟩ := bt_of h1
    refine .inr ⟨t, ht, h4, h3, fun i g0 g1 hb => ?_⟩
    exact h2 i.toNat (by omega) (of_bt (by omega) (by rw [show ((i.toNat : Nat) : Int) = i by omega]; exact hb))
theorem extract_all (s : ByteArray) : s.extract 0 s.size = s := bytesOf_inj (by rw [bytesOf_extract, List.drop_zero, Nat.sub_zero, ← bytesOf_length, List.take_length])
theorem join_at (s : ByteArray) (t : Nat) (h : t < s.size) {c : Int} (hc : bt s (t : Int) = c) : bytesOf s = bytesOf (s.extract 0 t) ++ c :: bytesOf (s.extract (t + 1) s.size) := by
  rw [bytesOf_extract, bytesOf_extract, List.drop_zero, Nat.sub_zero]
  have h1 := drop_at s (i := (t : Int)) (by omega) (by omega)
  rw [hc, Int.toNat_natCast, show ((t : Int) + 1).toNat = t + 1 by omega] at h1
  rw [List.take_of_length_le (l := (bytesOf s).drop (t + 1)) (by rw [List.length_drop, bytesOf_length]; omega), ← h1, List.take_append_drop]
end Go.Proofs.YtopfmcgmfnmikaaDoor.Y
