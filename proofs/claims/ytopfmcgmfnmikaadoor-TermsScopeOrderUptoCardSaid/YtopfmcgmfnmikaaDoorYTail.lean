/- Texts joined by blanks, lists of texts that are the same: in plain words. No condition, or as told. -/
import Derived.Test.YtopfmcgmfnmikaaDoorYEv
import Derived.Test.YtopfmcgmfnmikaaDoorXJoin
import Derived.Lib.Join
-- IMPORTS
import Derived.Test.YtopfmcgmfnmikaaDoorXx11
namespace Go.Proofs.YtopfmcgmfnmikaaDoor.Y
open Go.RowKit Go.Proofs.YtopfmcgmfnmikaaDoorW.PrintWords Go.Proofs.YtopfmcgmfnmikaaDoorW.PrintLast Go.Proofs.YtopfmcgmfnmikaaDoor.X
abbrev rs (l : List ByteArray) (i : Int) : ByteArray := rdOf ByteArray.empty l i
theorem same_loop (l : List ByteArray) (hl : l.length < 9223372036854775807) (d : Nat) : ∀ (i : Int), 0 ≤ i → (l.length : Int) - i = d → Ev (fun k => usherref0_SameStrings.l0 k l l i) true := by
  induction d with
  | zero =>
    intro i h0 hd
    refine Ev.succ ?_
    simp only [usherref0_SameStrings.l0]
    exact Ev.neg (by omega) (Ev.pure _)
  | succ d ih =>
    intro i h0 hd
    have hlt : i < l.length := by omega
    refine Ev.succ ?_
    rw [show (fun k => usherref0_SameStrings.l0 (k + 1) l l i) = fun k => (if i < (l.length : Int) then (if 0 ≤ i then (if i < (l.length : Int) then (if (rs l i).toList = (rs l i).toList then (usherref0_SameStrings.l0 k l l (wrap64 (i + 1))) else (some false)) else (none)) else (none)) else (some true)) from rfl]
    refine Ev.pos hlt (Ev.pos h0 (Ev.pos hlt (Ev.pos rfl ?_)))
    rw [wr (by omega) (by omega)]
    exact ih (i + 1) (by omega) (by omega)
theorem same_self (l : List ByteArray) (hl : l.length < 9223372036854775807) : Ev (fun k => usherref0_SameStrings.f k l l) true :=
  Ev.pos rfl (same_loop l hl l.length 0 (Int.le_refl _) (by omega))
/-- the texts with a blank ahead of each but the first -/
def tailJ : Bool → List ByteArray → List Int
  | _, [] => []
  | b, x :: r => (if b = true then [32] else []) ++ (bytesOf x ++ tailJ true r)
theorem tailJ_le (M : Nat) : ∀ (l : List ByteArray) (b : Bool), (∀ x ∈ l, x.size ≤ M) → (tailJ b l).length ≤ l.length * (M + 1)
  | [], _, _ => by simp [tailJ]
  | x :: r, b, h => by
    have h1 := tailJ_le M r true (fun y hy => h y (List.mem_cons_of_mem _ hy))
    have h2 := h x (List.mem_cons_self ..)
    have h3 : (if b = true then ([32] : List Int) else []).length ≤ 1 := by split <;> simp
    have h4 : (r.length + 1) * (M + 1) = r.length * (M + 1) + (M + 1) := Nat.succ_mul _ _
    simp only [tailJ, List.length_append, List.length_cons, bytesOf_length]
    omega
theorem join_tail (l : List ByteArray) : (Lib.joinTail [32] (l.map (·.data.toList))).map (fun b => (b.toNat : Int)) = tailJ true l := by
  induction l with
  | nil => rfl
  | cons x r ih =>
    have e : Lib.joinTail [32] ((x :: r).map (·.data.toList)) = ([32] ++ x.data.toList) ++ Lib.joinTail [32] (r.map (·.data.toList)) := by simp [Lib.joinTail]
    rw [e, List.map_append, ih, List.map_append]
    show _ = [32] ++ (bytesOf x ++ tailJ true r)
    rw [List.append_assoc]
    rfl
theorem join_is (l : List ByteArray) : (Lib.join (l.map (·.data.toList)) [32]).map (fun b => (b.toNat : Int)) = tailJ false l := by
  cases l with
  | nil => rfl
  | cons x r =>
    rw [List.map_cons, Lib.join_cons, List.map_append, join_tail]
    rfl
theorem scopeText_is (M : Nat) (l : List ByteArray) (hx : ∀ x ∈ l, x.size ≤ M) (hb : l.length * (M + 1) ≤ 70368744177664) : strings_Join.f l ⟨#[32]⟩ = some (strOfNums (tailJ false l)) := by
  have h1 := tailJ_le M l false hx
  have h2 := congrArg List.length (join_is l)
  rw [List.length_map] at h2
  have h3 : l.length ≤ l.length * (M + 1) := Nat.le_mul_of_pos_right _ (by omega)
  unfold strings_Join.f
  rw [show (⟨#[32]⟩ : ByteArray).data.toList = [32] from rfl, if_pos ⟨by omega, by omega⟩]
  congr 1
  apply bytesOf_inj
  show (Lib.join (l.map (·.data.toList)) [32]).map (fun b => (b.toNat : Int)) = _
  rw [join_is, bytesOf_strOfNums]
  rw [← join_is]
  intro c hc
  obtain ⟨b, _, rfl⟩ := List.mem_map.1 hc
  have := b.toNat_lt
  omega
theorem sum_bounds (l : List ByteArray) : l.length ≤ (l.map (fun x => x.size + 1)).sum ∧ ∀ x ∈ l, x.size ≤ (l.map (fun x => x.size + 1)).sum := by
  induction l with
  | nil => simp
  | cons x r ih =>
    obtain ⟨h1, h2⟩ := ih
    simp only [List.length_cons, List.map_cons, List.sum_cons]
    refine ⟨by omega, fun y hy => ?_⟩
    rcases List.mem_cons.1 hy with rfl | hy
    · omega
    · have := h2 y hy
      omega
theorem tail_range (l : List ByteArray) : ∀ c ∈ tailJ false l, 0 ≤ c ∧ c ≤ 255 := by
  rw [← join_is]
  intro c hc
  obtain ⟨b, _, rfl⟩ := List.mem_map.1 hc
  have := b.toNat_lt
  omega
theorem tailJ_sum : ∀ (l : List ByteArray) (b : Bool), (tailJ b l).length ≤ (l.map (fun x => x.size + 1)).sum
  | [], _ => by simp [tailJ]
  | x :: r, b => by
    have h1 := tailJ_sum r true
    have h3 : (if b = true then ([32] : List Int) else []).length ≤ 1 := by split <;> simp
    simp only [tailJ, List.length_append, bytesOf_length, List.map_cons, List.sum_cons]
    omega
theorem text_is (M : Nat) (l : List ByteArray) (hx : ∀ x ∈ l, x.size ≤ M) (hb : l.length * (M + 1) ≤ 70368744177664) : terms_ScopeText.f l = some (strOfNums (tailJ false l)) := by
  unfold terms_ScopeText.f
  rw [scopeText_is M l hx hb]
  rfl
end Go.Proofs.YtopfmcgmfnmikaaDoor.Y
