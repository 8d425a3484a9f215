/- The package-level errors by their numbers, and what a world bears of them. No condition. -/
import Derived.Test.YtopfmcgmfnmikaaDoorProg
import Derived.Below
import Derived.Deep.Draws
import Derived.Deep.AppendLies
import Derived.Maps.AppendAt
import Derived.OwnWalk
import Derived.Laws.BytesArg
import Derived.Laws.MakeOwn
import Derived.Laws.OwnMore
import Derived.Deep.OwnRows
import Derived.Tactics
import Derived.Lib.ConvBytes
import Derived.Laws.Slices
import Derived.WalkKit
import Derived.KernelRfl
import Derived.RowKit3
import Derived.Deep.LoopGhost
import Derived.Deep.QuietTactic
import Derived.BigQuiet
import Derived.Deep.DeepCutAuto
import Derived.Deep.CutBlock
import Derived.Deep.RegionHeld3
import Derived.Laws.Rows
import Derived.Lib.AppendStr
import Derived.ArgAppend
import Derived.Laws.IdiomCopy
import Derived.OrdersHeld
import Derived.Laws.BitsLemmas
import Derived.RowKit
import Derived.Test.YtopfmcgmfnmikaaDoorWAll
import Derived.LaidEql
import Derived.WideLaws
set_option linter.unusedVariables false
set_option linter.unusedSimpArgs false
namespace Go.Proofs.YtopfmcgmfnmikaaDoor
open Go.RowKit Go.Proofs.YtopfmcgmfnmikaaDoorW.PrintWords
def errW (EA : Int → Addr) : Option Int → Value
  | none => .nilIface
  | some q => .iface 139 (.pointer (some (EA q)))
theorem errW_none (EA : Int → Addr) : errW EA none = .nilIface := rfl
theorem errW_some (EA : Int → Addr) (q : Int) : errW EA (some q) = .iface 139 (.pointer (some (EA q))) := rfl
/-- the cells of a page's table of escapes -/
def escTab : List Value := [.int .u8 38, .string ⟨#[38, 97, 109, 112, 59]⟩, .int .u8 60, .string ⟨#[38, 108, 116, 59]⟩, .int .u8 62, .string ⟨#[38, 103, 116, 59]⟩, .int .u8 34, .string ⟨#[38, 113, 117, 111, 116, 59]⟩, .int .u8 39, .string ⟨#[38, 35, 51, 57, 59]⟩]
/-- what is laid, by number: 1 to 13 the errors -/
def LaidCell (EA : Int → Addr) (w : World) : Int → Prop
  | 1 => w.cell? ⟨2, 0, none⟩ = some (.iface 139 (.pointer (some (EA 1))))
  | 2 => w.cell? ⟨0, 0, none⟩ = some (.iface 139 (.pointer (some (EA 2))))
  | 3 => w.cell? ⟨1, 0, none⟩ = some (.iface 139 (.pointer (some (EA 3))))
  | 4 => w.cell? ⟨3, 0, none⟩ = some (.iface 139 (.pointer (some (EA 4))))
  | 5 => w.cell? ⟨4, 0, none⟩ = some (.iface 139 (.pointer (some (EA 5))))
  | 6 => w.cell? ⟨5, 0, none⟩ = some (.iface 139 (.pointer (some (EA 6))))
  | 7 => w.cell? ⟨6, 0, none⟩ = some (.iface 139 (.pointer (some (EA 7))))
  | 8 => w.cell? ⟨8, 0, none⟩ = some (.iface 139 (.pointer (some (EA 8))))
  | 9 => w.cell? ⟨9, 0, none⟩ = some (.iface 139 (.pointer (some (EA 9))))
  | 10 => w.cell? ⟨10, 0, none⟩ = some (.iface 139 (.pointer (some (EA 10))))
  | 11 => w.cell? ⟨11, 0, none⟩ = some (.iface 139 (.pointer (some (EA 11))))
  | 12 => w.cell? ⟨12, 0, none⟩ = some (.iface 139 (.pointer (some (EA 12))))
  | 13 => w.cell? ⟨13, 0, none⟩ = some (.iface 139 (.pointer (some (EA 13))))
  | 103 => w.cell? ⟨7, 0, none⟩ = some (.string ⟨#[104, 116, 116, 112, 115, 58, 47, 47]⟩) ∧ w.cell? ⟨7, 1, none⟩ = some (.string ⟨#[104, 116, 116, 112, 58, 47, 47]⟩)
  | 101 => w.cell? ⟨14, 0, none⟩ = some (.int .u32 0) ∧ w.cell? ⟨14, 1, none⟩ = some (.int .u32 67067904) ∧ w.cell? ⟨14, 2, none⟩ = some (.int .u32 2281701374) ∧ w.cell? ⟨14, 3, none⟩ = some (.int .u32 1207959550)
  | _ => True
/-- the errors' own places: each holds a block of cells, no two are one -/
def ErrBlk (EA : Int → Addr) (w : World) : Prop := (∀ a b, EA a = EA b → a = b) ∧ ∀ q, ∃ c t, w.heap[(EA q).block]? = some (.cells c t (0, 0))
structure Sent (EA : Int → Addr) (S : List Int) (w : World) : Prop where
  errs : ErrBlk EA w
  cells : ∀ k, k ∈ S → LaidCell EA w k
theorem ErrBlk.below {EA : Int → Addr} {w w1 : World} (h : ErrBlk EA w) (hb : Below w.heap.size w w1) : ErrBlk EA w1 :=
  ⟨h.1, fun q => by
    obtain ⟨c, t, hc⟩ := h.2 q
    exact ⟨c, t, (hb.block _ (Array.getElem?_eq_some_iff.1 hc).1).trans hc⟩⟩
theorem ErrBlk_alloc {EA : Int → Addr} {w : World} {o : Obj} (h : ErrBlk EA w) : ErrBlk EA (w.alloc o) := h.below (below_alloc (Below.refl _ _) o)
theorem ErrBlk_drew {EA : Int → Addr} {w : World} (h : ErrBlk EA w) : ErrBlk EA w.drew := h.below (below_drew (Below.refl _ _))
theorem ErrBlk_drewN {EA : Int → Addr} {w : World} {n : Nat} (h : ErrBlk EA w) : ErrBlk EA (w.drewN n) := h.below (pw_below_drewN (Below.refl _ _) n)
theorem LaidCell.below {EA : Int → Addr} {w w1 : World} {k : Int} (h : LaidCell EA w k) (hb : Below w.heap.size w w1) : LaidCell EA w1 k := by
  unfold LaidCell at h ⊢
  split at h <;> first | trivial | exact pw_cell_below hb h | exact (fun j v hj => pw_cell_below hb (h j v hj)) | exact ⟨pw_cell_below hb h.1, pw_cell_below hb h.2⟩ | exact ⟨pw_cell_below hb h.1, pw_cell_below hb h.2.1, pw_cell_below hb h.2.2.1, pw_cell_below hb h.2.2.2⟩
theorem Sent.below {EA : Int → Addr} {S : List Int} {w w1 : World} (h : Sent EA S w) (hb : Below w.heap.size w w1) : Sent EA S w1 :=
  ⟨h.errs.below hb, fun k hk => (h.cells k hk).below hb⟩
theorem Sent.alloc {EA : Int → Addr} {S : List Int} {w : World} (h : Sent EA S w) (o : Obj) : Sent EA S (w.alloc o) := h.below (below_alloc (Below.refl _ _) o)
theorem Sent.drew {EA : Int → Addr} {S : List Int} {w : World} (h : Sent EA S w) : Sent EA S w.drew := h.below (below_drew (Below.refl _ _))
theorem Sent.drewN {EA : Int → Addr} {S : List Int} {w : World} (h : Sent EA S w) (n : Nat) : Sent EA S (w.drewN n) := h.below (pw_below_drewN (Below.refl _ _) n)
theorem Sent.at_ {EA : Int → Addr} {S : List Int} {w : World} (h : Sent EA S w) (k : Int) (hk : k ∈ S) : LaidCell EA w k := h.cells k hk
theorem Sent.at_1 {EA : Int → Addr} {S : List Int} {w : World} (h : Sent EA S w) (hk : (1 : Int) ∈ S) : w.cell? ⟨2, 0, none⟩ = some (.iface 139 (.pointer (some (EA 1)))) := h.cells 1 hk
theorem Sent.at_2 {EA : Int → Addr} {S : List Int} {w : World} (h : Sent EA S w) (hk : (2 : Int) ∈ S) : w.cell? ⟨0, 0, none⟩ = some (.iface 139 (.pointer (some (EA 2)))) := h.cells 2 hk
theorem Sent.at_3 {EA : Int → Addr} {S : List Int} {w : World} (h : Sent EA S w) (hk : (3 : Int) ∈ S) : w.cell? ⟨1, 0, none⟩ = some (.iface 139 (.pointer (some (EA 3)))) := h.cells 3 hk
theorem Sent.at_4 {EA : Int → Addr} {S : List Int} {w : World} (h : Sent EA S w) (hk : (4 : Int) ∈ S) : w.cell? ⟨3, 0, none⟩ = some (.iface 139 (.pointer (some (EA 4)))) := h.cells 4 hk
theorem Sent.at_5 {EA : Int → Addr} {S : List Int} {w : World} (h : Sent EA S w) (hk : (5 : Int) ∈ S) : w.cell? ⟨4, 0, none⟩ = some (.iface 139 (.pointer (some (EA 5)))) := h.cells 5 hk
theorem Sent.at_6 {EA : Int → Addr} {S : List Int} {w : World} (h : Sent EA S w) (hk : (6 : Int) ∈ S) : w.cell? ⟨5, 0, none⟩ = some (.iface 139 (.pointer (some (EA 6)))) := h.cells 6 hk
theorem Sent.at_7 {EA : Int → Addr} {S : List Int} {w : World} (h : Sent EA S w) (hk : (7 : Int) ∈ S) : w.cell? ⟨6, 0, none⟩ = some (.iface 139 (.pointer (some (EA 7)))) := h.cells 7 hk
theorem Sent.at_8 {EA : Int → Addr} {S : List Int} {w : World} (h : Sent EA S w) (hk : (8 : Int) ∈ S) : w.cell? ⟨8, 0, none⟩ = some (.iface 139 (.pointer (some (EA 8)))) := h.cells 8 hk
theorem Sent.at_9 {EA : Int → Addr} {S : List Int} {w : World} (h : Sent EA S w) (hk : (9 : Int) ∈ S) : w.cell? ⟨9, 0, none⟩ = some (.iface 139 (.pointer (some (EA 9)))) := h.cells 9 hk
theorem Sent.at_10 {EA : Int → Addr} {S : List Int} {w : World} (h : Sent EA S w) (hk : (10 : Int) ∈ S) : w.cell? ⟨10, 0, none⟩ = some (.iface 139 (.pointer (some (EA 10)))) := h.cells 10 hk
theorem Sent.at_11 {EA : Int → Addr} {S : List Int} {w : World} (h : Sent EA S w) (hk : (11 : Int) ∈ S) : w.cell? ⟨11, 0, none⟩ = some (.iface 139 (.pointer (some (EA 11)))) := h.cells 11 hk
theorem Sent.at_12 {EA : Int → Addr} {S : List Int} {w : World} (h : Sent EA S w) (hk : (12 : Int) ∈ S) : w.cell? ⟨12, 0, none⟩ = some (.iface 139 (.pointer (some (EA 12)))) := h.cells 12 hk
theorem Sent.at_13 {EA : Int → Addr} {S : List Int} {w : World} (h : Sent EA S w) (hk : (13 : Int) ∈ S) : w.cell? ⟨13, 0, none⟩ = some (.iface 139 (.pointer (some (EA 13)))) := h.cells 13 hk
theorem Sent.at_103 {EA : Int → Addr} {S : List Int} {w : World} (h : Sent EA S w) (hk : (103 : Int) ∈ S) : w.cell? ⟨7, 0, none⟩ = some (.string ⟨#[104, 116, 116, 112, 115, 58, 47, 47]⟩) ∧ w.cell? ⟨7, 1, none⟩ = some (.string ⟨#[104, 116, 116, 112, 58, 47, 47]⟩) := h.cells 103 hk
theorem Sent.at_101 {EA : Int → Addr} {S : List Int} {w : World} (h : Sent EA S w) (hk : (101 : Int) ∈ S) : w.cell? ⟨14, 0, none⟩ = some (.int .u32 0) ∧ w.cell? ⟨14, 1, none⟩ = some (.int .u32 67067904) ∧ w.cell? ⟨14, 2, none⟩ = some (.int .u32 2281701374) ∧ w.cell? ⟨14, 3, none⟩ = some (.int .u32 1207959550) := h.cells 101 hk

theorem hiE : Tryd.prog.underlying 32 = some (.interface (Tryd.prog.methodsAt 32)) := by kernel_rfl
theorem hpE : Tryd.prog.underlying 139 = some (.pointer 154) := by kernel_rfl
theorem infoTp : (Tryd.prog.info? 139).map (fun i => i.comparable) = some true := by kernel_rfl
theorem infoTe : (Tryd.prog.info? 154).map (fun i => i.size) = some 1 := by kernel_rfl
theorem errs_equalIn {EA : Int → Addr} {w : World} (h : ErrBlk EA w) (a b : Int) (d : Nat) :
    (Op.equalIn (d + 2) 32 (.iface 139 (.pointer (some (EA a)))) (.iface 139 (.pointer (some (EA b))))).run Tryd.prog w = .ok (a == b) w := by
  obtain ⟨i, hi, hc⟩ := Option.map_eq_some_iff.1 infoTp
  obtain ⟨j, hj, hs⟩ := Option.map_eq_some_iff.1 infoTe
  by_cases e : a = b
  · subst e
    rw [run_equalIn_iface_ptr_same w d (EA a) hiE hpE hi hc hj]
    simp
  · obtain ⟨ca, ta, ha⟩ := h.2 a
    obtain ⟨cb, tb, hb⟩ := h.2 b
    rw [run_equalIn_iface_ptr_other w d hiE hpE hi hc hj (by rw [hs]; decide) (fun x => e (h.1 _ _ x)) ha hb]
    simp [e]
theorem errs_eql {EA : Int → Addr} {w : World} (h : ErrBlk EA w) (a b : Int) :
    (binOp .eql 32 (.iface 139 (.pointer (some (EA a)))) (.iface 139 (.pointer (some (EA b))))).run Tryd.prog w = .ok (.bool (a == b)) w := by
  simp only [binOp]
  simp [Op.equal, Op.maxDepth, errs_equalIn h a b 9998]
theorem errs_neq {EA : Int → Addr} {w : World} (h : ErrBlk EA w) (a b : Int) :
    (binOp .neq 32 (.iface 139 (.pointer (some (EA a)))) (.iface 139 (.pointer (some (EA b))))).run Tryd.prog w = .ok (.bool (a != b)) w := by
  simp only [binOp]
  simp [Op.equal, Op.maxDepth, errs_equalIn h a b 9998, bne]
theorem nil_equalIn {w : World} (v : Value) (d : Nat) : (Op.equalIn (d + 1) 32 .nilIface (.iface 139 v)).run Tryd.prog w = .ok false w := by simp [Op.equalIn, run_underlying hiE]
theorem nil_errs_eql {w : World} (v : Value) : (binOp .eql 32 .nilIface (.iface 139 v)).run Tryd.prog w = .ok (.bool false) w := by
  simp only [binOp]
  simp [Op.equal, Op.maxDepth, nil_equalIn v 9999]
theorem nil_errs_neq {w : World} (v : Value) : (binOp .neq 32 .nilIface (.iface 139 v)).run Tryd.prog w = .ok (.bool true) w := by
  simp only [binOp]
  simp [Op.equal, Op.maxDepth, nil_equalIn v 9999]
end Go.Proofs.YtopfmcgmfnmikaaDoor
namespace Go.Proofs.YtopfmcgmfnmikaaDoorW.PrintWords.Kd
open Go.RowKit Go.Proofs.YtopfmcgmfnmikaaDoorW.PrintWords
variable {P : Program} {ops : Array Oper} {rest : List Oper} {o : Oper} {a : Act} {Q : Exit → Act → World → Prop} {W : World} {α : Type}
/-- make([]T, 0, n): a row without elements, with room. -/
theorem R_make0 (d : Kd α) {w0 W : World} (base e : Nat) (hgd : o.guard = none) {N : Tmp} (_hd : o.dst = some N) (t : TypeId) (x y : Operand) (ho : o.op = .makeSlice t x y) (n : Int) (hx : a.eval x = .int .i64 0) (hy : a.eval y = .int .i64 n)
    (ht : P.underlying t = some (.slice e)) (z : Value) (bytes : Nat) (hinfo : (P.info? e).map (fun i => (i.zero, i.size, i.bytes)) = some (some z, d.sz, bytes)) (hz : z.cells.size = d.sz) (hs0 : 0 < d.sz) (hb0 : 0 < bytes)
    (z0 : α) {ok okp : Nat → Prop} (hzero : d.M W base okp z0 z.cells.toList) (hok : ∀ k, okp k → ok k) (hfresh : ok W.heap.size) (h0 : 0 ≤ n) (hl : n.toNat * bytes ≤ 281474976710656) (HB : Below base w0 W) (hbase : base ≤ W.heap.size)
    (h : ∀ v1 w1, d.R e w1 base ok v1 ([] : List α) → Below base w0 w1 → W.grownBy w1 none → (∃ b, v1.ownBlock = some b ∧ W.heap.size ≤ b) → wpList P ops Q rest (a.put o.dst v1) w1) : wpList P ops Q (o :: rest) a W := by
  obtain ⟨m, rfl⟩ := Int.eq_ofNat_of_zero_le h0
  simp only [Int.toNat_natCast] at hl
  obtain ⟨i0, hi, hzz⟩ := Option.map_eq_some_iff.1 hinfo
  simp only [Prod.mk.injEq] at hzz
  obtain ⟨hz0, hz1, hz2⟩ := hzz
  have hm : m ≤ 281474976710656 := Nat.le_trans (Nat.le_mul_of_pos_right _ hb0) hl
  have hr := run_make (P := P) W t e i0 z ht hi hz0 .i64 .i64 (0 : Int) (m : Int) (by omega) (by omega)
    (by
      have h3 : ((i0.bytes * m : Nat) : Int) ≤ 281474976710656 := by rw [hz2, Nat.mul_comm]; omega
      rwa [Int.natCast_mul] at h3) (by omega)
  simp only [Int.toNat_natCast, Int.toNat_zero] at hr
  rw [hz1] at hr
  have hrun : (execOp a.eval o).run P W = .ok (.value (.slice (some ⟨W.heap.size, 0, none⟩) 0 m)) (W.alloc (.cells (madeCells z.cells (m * d.sz)) e)) := by
    simp [execOp, ho, hx, hy, hr]
  have hrep := reps_made (R := d.M W base okp) hz hs0 hzero m
  have full : d.R e (W.alloc (.cells (madeCells z.cells (m * d.sz)) e)) base ok (.slice (some ⟨W.heap.size, 0, none⟩) m m) (List.replicate m z0) := by
    refine ⟨fun k hk => ?_, (madeCells z.cells (m * d.sz)).toList, ?_, ?_⟩
    · have : W.heap.size = k := by simpa [Value.ownBlock] using hk
      subst this
      exact hfresh
    · have h2 := World.ownsRow_lit (base := base) (e := e) (size := d.sz) W (madeCells z.cells (m * d.sz)) m hbase (by simp [maxLen]; omega) (by simpa using hrep.1)
      simpa using h2
    · refine hrep.imp_ (fun p c hp => d.M_mono (fun k hk => ⟨hok k hk.1, fun he => ?_⟩) (M_below (d.M_bound hp) (below_alloc (Below.refl _ _) _)))
      have h3 : k = W.heap.size := by simpa [Value.ownBlock] using he
      have := hk.2.2.1
      omega
  have h4 := R_take (m := 0) full (Nat.zero_le _)
  rw [List.take_zero] at h4
  exact event_run hgd hrun (h _ _ h4 (HB.alloc hbase _) (World.grownBy_alloc W _ none) ⟨W.heap.size, by simp [Value.ownBlock], Nat.le_refl _⟩)
end Go.Proofs.YtopfmcgmfnmikaaDoorW.PrintWords.Kd
