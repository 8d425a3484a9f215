/- What a printed function answers from some number of rounds on; lists walked by a counter. No condition. -/
import Derived.Test.YtopfmcgmfnmikaaDoorYBase
namespace Go.Proofs.YtopfmcgmfnmikaaDoor.Y
open Go.RowKit Go.Proofs.YtopfmcgmfnmikaaDoorW.PrintWords Go.Proofs.YtopfmcgmfnmikaaDoorW.PrintLast

/-- from some number of rounds on, the answer is r -/
def Ev {α : Type} (f : Nat → Option α) (r : α) : Prop := ∃ K, ∀ k, K ≤ k → f k = some r
theorem Ev.pure {α : Type} (r : α) : Ev (fun _ => some r) r := ⟨0, fun _ _ => rfl⟩
theorem Ev.of_eq {α : Type} {f : Nat → Option α} {r : α} (h : ∀ k, f k = some r) : Ev f r := ⟨0, fun k _ => h k⟩
theorem Ev.succ {α : Type} {f : Nat → Option α} {r : α} (h : Ev (fun k => f (k + 1)) r) : Ev f r := by
  obtain ⟨K, h⟩ := h
  refine ⟨K + 1, fun k hk => ?_⟩
  obtain ⟨m, rfl⟩ : ∃ m, k = m + 1 := ⟨k - 1, by omega⟩
  exact h m (by omega)
theorem Ev.bind {α β : Type} {f : Nat → Option α} {g : Nat → α → Option β} {r : α} {s : β} (h : Ev f r) (h2 : Ev (fun k => g k r) s) : Ev (fun k => (f k).bind (g k)) s := by
  obtain ⟨K, h⟩ := h
  obtain ⟨M, h2⟩ := h2
  refine ⟨K + M, fun k hk => ?_⟩
  show (f k).bind (g k) = some s
  rw [h k (by omega)]
  exact h2 k (by omega)
theorem Ev.at_ {α : Type} {f : Nat → Option α} {r : α} (h : Ev f r) : ∃ k, f k = some r := by
  obtain ⟨K, h⟩ := h
  exact ⟨K, h K (Nat.le_refl _)⟩
theorem Ev.ite {α : Type} {f g : Nat → Option α} {r : α} {c : Prop} [Decidable c] (h1 : c → Ev f r) (h2 : ¬ c → Ev g r) : Ev (fun k => if c then f k else g k) r := by
  by_cases h : c
  · simp only [h, if_true]; exact h1 h
  · simp only [h, if_false]; exact h2 h
theorem Ev.pos {α : Type} {f g : Nat → Option α} {r : α} {c : Prop} [Decidable c] (h : c) (h1 : Ev f r) : Ev (fun k => if c then f k else g k) r := by
  simp only [h, if_true]; exact h1
theorem Ev.neg {α : Type} {f g : Nat → Option α} {r : α} {c : Prop} [Decidable c] (h : ¬ c) (h1 : Ev g r) : Ev (fun k => if c then f k else g k) r := by
  simp only [h, if_false]; exact h1
/-- a list from a place on -/
theorem drop_rd {α : Type} (d : α) (l : List α) {i : Int} (h0 : 0 ≤ i) (h1 : i < l.length) : l.drop i.toNat = rdOf d l i :: l.drop (i + 1).toNat := by
  have h : i.toNat < l.length := by omega
  rw [List.drop_eq_getElem_cons h, show (i + 1).toNat = i.toNat + 1 by omega]
  simp [rdOf, List.getD_eq_getElem?_getD, List.getElem?_eq_getElem h]
theorem drop_le {α : Type} (l : List α) {i : Int} (h : (l.length : Int) ≤ i) : l.drop i.toNat = [] := by
  apply List.drop_eq_nil_of_le
  omega
theorem rd_at {α : Type} (d : α) (l : List α) {i : Int} (h0 : 0 ≤ i) (h1 : i < l.length) : l[i.toNat]? = some (rdOf d l i) := by
  have h : i.toNat < l.length := by omega
  simp [rdOf, List.getD_eq_getElem?_getD, List.getElem?_eq_getElem h]
theorem rd_mem {α : Type} (d : α) (l : List α) {i : Int} (h0 : 0 ≤ i) (h1 : i < l.length) : rdOf d l i ∈ l := List.mem_of_getElem? (rd_at d l h0 h1)
end Go.Proofs.YtopfmcgmfnmikaaDoor.Y
