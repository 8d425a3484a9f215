/- Escape in plain words: byte by byte, as the program does it. Condition: at most 2^45 bytes. -/
import Derived.Test.YtopfmcgmfnmikaaDoorYEv
import Derived.Test.YtopfmcgmfnmikaaDoorXEscape
-- IMPORTS
namespace Go.Proofs.YtopfmcgmfnmikaaDoor.Y
open Go.RowKit Go.Proofs.YtopfmcgmfnmikaaDoorW.PrintWords Go.Proofs.YtopfmcgmfnmikaaDoorW.PrintLast Go.Proofs.YtopfmcgmfnmikaaDoor.X
def hx (n : Int) : Int := if n < 10 then 48 + n else 55 + n
def escI (plus : Bool) (c : Int) : List Int := if unres c = true then [c] else if c = 32 ∧ plus = true then [43] else [37, hx (c / 16), hx (c % 16)]
def escIL (plus : Bool) (l : List Int) : List Int := l.flatMap (escI plus)
theorem all256 {p : Nat → Prop} [DecidablePred p] (h : ∀ n : Fin 256, p n.val) (c : Int) (h0 : 0 ≤ c) (h1 : c ≤ 255) : p c.toNat := h ⟨c.toNat, by omega⟩
theorem hexU_hx : ∀ n : Fin 16, ((hexU n.val).toNat : Int) = hx (n.val : Int) := by decide +kernel
theorem esc1_map (plus : Bool) (c : UInt8) : (esc1 plus c).map (fun b => (b.toNat : Int)) = escI plus (c.toNat : Int) := by
  have hc := c.toNat_lt
  unfold esc1 escI
  by_cases u : unres (c.toNat : Int) = true
  · rw [if_pos u, if_pos u]; rfl
  · rw [if_neg u, if_neg u]
    by_cases sp : c.toNat = 32 ∧ plus = true
    · rw [if_pos sp, if_pos ⟨by omega, sp.2⟩]; rfl
    · rw [if_neg sp, if_neg (fun e => sp ⟨by omega, e.2⟩)]
      have h1 := hexU_hx ⟨c.toNat / 16, by omega⟩
      have h2 := hexU_hx ⟨c.toNat % 16, by omega⟩
      simp only [List.map_cons, List.map_nil]
      rw [h1, h2]
      simp
theorem escL_map (plus : Bool) (l : List UInt8) : (escL plus l).map (fun b => (b.toNat : Int)) = escIL plus (l.map (fun b => (b.toNat : Int))) := by
  unfold escL escIL
  induction l with
  | nil => rfl
  | cons c r ih => simp only [List.flatMap_cons, List.map_append, List.map_cons, ih, esc1_map]
theorem escape_is (s : ByteArray) (plus : Bool) (h : s.size ≤ 35184372088832) : pct_Escape.f s plus = some (strOfNums (escIL plus (bytesOf s))) := by
  unfold pct_Escape.f
  rw [if_pos h]
  congr 1
  apply bytesOf_inj
  have e : bytesOf (⟨(escL plus s.data.toList).toArray⟩ : ByteArray) = escIL plus (bytesOf s) := escL_map plus s.data.toList
  rw [← e, strOfNums_bytesOf]
end Go.Proofs.YtopfmcgmfnmikaaDoor.Y
