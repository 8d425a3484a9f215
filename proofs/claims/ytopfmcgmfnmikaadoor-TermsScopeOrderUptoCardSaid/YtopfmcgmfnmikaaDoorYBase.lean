/- Small facts on bytes, texts and counting that the laws share. No condition. -/
import Derived.Test.YtopfmcgmfnmikaaDoorWAll
import Derived.Laws.Strings
import Derived.Lib.Strings
namespace Go.Proofs.YtopfmcgmfnmikaaDoor.Y
open Go.RowKit Go.Proofs.YtopfmcgmfnmikaaDoorW.PrintWords Go.Proofs.YtopfmcgmfnmikaaDoorW.PrintLast

theorem wr {x : Int} (h0 : -9223372036854775808 ≤ x) (h1 : x < 9223372036854775808) : wrap64 x = x := by
  unfold wrap64
  omega
theorem toList_data (s : ByteArray) : s.toList = s.data.toList := ByteArray.toList_eq s
theorem size_data (s : ByteArray) : s.data.toList.length = s.size := by rw [Array.length_toList]; rfl
theorem ba_ext {a b : ByteArray} (h : a.data.toList = b.data.toList) : a = b := by
  obtain ⟨⟨l⟩⟩ := a
  obtain ⟨⟨m⟩⟩ := b
  simp only at h
  rw [h]
theorem bytesOf_range (s : ByteArray) : ∀ c ∈ bytesOf s, 0 ≤ c ∧ c ≤ 255 := by
  intro c hc
  obtain ⟨b, _, rfl⟩ := List.mem_map.1 hc
  have := b.toNat_lt
  omega
theorem bt_get (s : ByteArray) {i : Int} (h0 : 0 ≤ i) (h1 : i < s.size) : (bytesOf s)[i.toNat]? = some (bt s i) := by
  have h : i.toNat < s.size := by omega
  have h' : i.toNat < (bytesOf s).length := by rw [bytesOf_length]; exact h
  rw [List.getElem?_eq_getElem h', ← rd_bytesOf]
  simp [rd, List.getD_eq_getElem?_getD, List.getElem?_eq_getElem h']
theorem drop_at (s : ByteArray) {i : Int} (h0 : 0 ≤ i) (h1 : i < s.size) : (bytesOf s).drop i.toNat = bt s i :: (bytesOf s).drop (i + 1).toNat := by
  have h : i.toNat < s.size := by omega
  have h' : i.toNat < (bytesOf s).length := by rw [bytesOf_length]; exact h
  rw [List.drop_eq_getElem_cons h']
  have h2 := bt_get s h0 h1
  rw [List.getElem?_eq_getElem h'] at h2
  rw [Option.some.inj h2, show (i + 1).toNat = i.toNat + 1 by omega]
theorem drop_end (s : ByteArray) {i : Int} (h : (s.size : Int) ≤ i) : (bytesOf s).drop i.toNat = [] := by
  apply List.drop_eq_nil_of_le
  rw [bytesOf_length]
  omega
theorem strOfNums_size (l : List Int) : (strOfNums l).size = l.length := by
  rw [← size_data, strOfNums_data, List.length_map]
theorem bytesOf_strOfNums {l : List Int} (h : ∀ c ∈ l, 0 ≤ c ∧ c ≤ 255) : bytesOf (strOfNums l) = l := by
  unfold bytesOf
  rw [strOfNums_data, List.map_map]
  conv => rhs; rw [← List.map_id l]
  apply List.map_congr_left
  intro c hc
  have := h c hc
  simp only [Function.comp, UInt8.toNat_ofNat', id]
  omega
theorem bytesOf_inj {a b : ByteArray} (h : bytesOf a = bytesOf b) : a = b := by
  refine ba_ext (List.map_inj_right (fun x y e => ?_) |>.1 h)
  exact UInt8.toNat_inj.1 (by omega)
theorem strOfNums_bytesOf (s : ByteArray) : strOfNums (bytesOf s) = s := bytesOf_inj (bytesOf_strOfNums (bytesOf_range s))
theorem toList_inj {a b : ByteArray} : a.toList = b.toList ↔ a = b := by
  rw [toList_data, toList_data]
  exact ⟨ba_ext, fun h => by rw [h]⟩
theorem strOfNums_nil : strOfNums [] = (⟨#[]⟩ : ByteArray) := rfl
theorem empty_iff (s : ByteArray) : s.toList = [] ↔ s.size = 0 := by
  rw [toList_data, ← size_data]
  exact List.length_eq_zero_iff.symm
theorem empty_bytes (s : ByteArray) : s.toList = [] ↔ bytesOf s = [] := by
  rw [empty_iff, ← bytesOf_length, List.length_eq_zero_iff]
theorem empty_is {s : ByteArray} (h : s.size = 0) : s = (⟨#[]⟩ : ByteArray) := by
  apply ba_ext
  have : s.data.toList.length = 0 := by rw [size_data]; exact h
  rw [List.length_eq_zero_iff.1 this]
theorem strOfNums_append (a b : List Int) : strOfNums (a ++ b) = strOfNums a ++ strOfNums b := by
  apply ba_ext
  rw [ByteArray.data_append]
  simp [strOfNums_data]
theorem bytesOf_append (a b : ByteArray) : bytesOf (a ++ b) = bytesOf a ++ bytesOf b := by
  unfold bytesOf
  rw [ByteArray.data_append]
  simp
theorem bytesOf_extract (s : ByteArray) (a b : Nat) : bytesOf (s.extract a b) = ((bytesOf s).drop a).take (b - a) := by
  unfold bytesOf
  rw [Lib.extract_data, List.map_take, List.map_drop]
theorem size_append (a b : ByteArray) : (a ++ b).size = a.size + b.size := by
  rw [← size_data, ByteArray.data_append, Array.toList_append, List.length_append, size_data, size_data]
end Go.Proofs.YtopfmcgmfnmikaaDoor.Y
