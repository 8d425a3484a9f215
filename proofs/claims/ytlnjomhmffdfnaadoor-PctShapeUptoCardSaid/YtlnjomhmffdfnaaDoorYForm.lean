/- Form in plain words: the parts with ampersands between; the document's own answer is the same; Unescape of Escape is the text. Conditions: as told. -/
import Derived.Test.YtlnjomhmffdfnaaDoorYEsc
import Derived.Test.YtlnjomhmffdfnaaDoorYUnescP
import Derived.Test.YtlnjomhmffdfnaaDoorXForm
-- IMPORTS
import Derived.Test.YtlnjomhmffdfnaaDoorXx0
import Derived.Test.YtlnjomhmffdfnaaDoorXx12
namespace Go.Proofs.YtlnjomhmffdfnaaDoor.Y
open Go.RowKit Go.Proofs.YtlnjomhmffdfnaaDoorW.PrintWords Go.Proofs.YtlnjomhmffdfnaaDoorW.PrintLast Go.Proofs.YtlnjomhmffdfnaaDoor.X
def partI (p : S52) : List Int := escIL true (bytesOf p.f0) ++ ([61] ++ escIL true (bytesOf p.f1))
def formI : Bool → List S52 → List Int
  | _, [] => []
  | b, p :: r => (if b = true then [] else [38]) ++ (partI p ++ formI false r)
theorem formF_map : ∀ (l : List S52) (b : Bool), (formF b l).map (fun b => (b.toNat : Int)) = formI b l
  | [], _ => rfl
  | p :: r, b => by
    have h1 : ∀ (s : ByteArray), (escL true s.data.toList).map (fun b => (b.toNat : Int)) = escIL true (bytesOf s) := fun s => escL_map true s.data.toList
    have h2 : (if b = true then ([] : List UInt8) else [38]).map (fun b => (b.toNat : Int)) = if b = true then [] else [38] := by split <;> rfl
    simp only [formF, formI, partL, partI, List.map_append, formF_map r false, h1, h2]
    rfl
theorem form_is (l : List S52) (h : (l.map wgt).sum ≤ 35184372088832) (h2 : l.length ≤ 9223372036854775807) : pct_Form.f l = some (strOfNums (formI true l)) := by
  unfold pct_Form.f
  rw [if_pos ⟨h, h2⟩]
  congr 1
  apply bytesOf_inj
  have e : bytesOf (⟨(formF true l).toArray⟩ : ByteArray) = formI true l := formF_map l true
  rw [← e, strOfNums_bytesOf]
theorem escI_range (plus : Bool) {c : Int} (h : 0 ≤ c ∧ c ≤ 255) : ∀ x ∈ escI plus c, 0 ≤ x ∧ x ≤ 255 := by
  intro x hxm
  unfold escI hx at hxm
  split at hxm
  · simp only [List.mem_singleton] at hxm; omega
  · split at hxm
    · simp only [List.mem_singleton] at hxm; omega
    · simp only [List.mem_cons, List.not_mem_nil, or_false] at hxm
      rcases hxm with rfl | rfl | rfl
      · omega
      · split <;> omega
      · split <;> omega
theorem escIL_range (plus : Bool) (s : ByteArray) : ∀ x ∈ escIL plus (bytesOf s), 0 ≤ x ∧ x ≤ 255 := by
  intro x hxm
  obtain ⟨c, hc, hx⟩ := List.mem_flatMap.1 hxm
  exact escI_range plus (bytesOf_range s c hc) x hx
theorem escIL_le (plus : Bool) (s : ByteArray) : (escIL plus (bytesOf s)).length ≤ 3 * s.size := by
  have e : escIL plus (bytesOf s) = (escL plus s.data.toList).map (fun b => (b.toNat : Int)) := (escL_map plus s.data.toList).symm
  have := escL_le plus s.data.toList
  rw [size_data] at this
  rw [e, List.length_map]
  exact this
theorem refForm_loop (l : List S52) (hl : l.length < 9223372036854775807) (d : Nat) : ∀ (acc : List Int) (i : Int), 0 ≤ i → (l.length : Int) - i = d → acc.length + ((l.drop i.toNat).map wgt).sum ≤ 17592186044416 →
    Ev (fun k => usherref3_Form.l0 k l acc i) (strOfNums (acc ++ formI (decide (i = 0)) (l.drop i.toNat))) := by
  induction d with
  | zero =>
    intro acc i h0 hd ha
    refine Ev.succ ?_
    simp only [usherref3_Form.l0]
    rw [drop_le l (by omega)]
    simp only [formI, List.append_nil]
    exact Ev.neg (by omega) (Ev.pure _)
  | succ d ih =>
    intro acc i h0 hd ha
    have hlt : i < l.length := by omega
    rw [drop_rd z52 l h0 hlt] at ha ⊢
    simp only [List.map_cons, List.sum_cons] at ha
    obtain ⟨p, hp⟩ : ∃ p, rdOf z52 l i = p := ⟨_, rfl⟩
    have hp' : rd_T52 l i = p := hp
    rw [hp] at ha ⊢
    have hw : wgt p = 3 * (p.f0.size + p.f1.size) + 2 := rfl
    have h1 := escIL_le true p.f0
    have h2 := escIL_le true p.f1
    have hb1 : bytesOf (strOfNums (escIL true (bytesOf p.f0))) = escIL true (bytesOf p.f0) := bytesOf_strOfNums (escIL_range true p.f0)
    have hb2 : bytesOf (strOfNums (escIL true (bytesOf p.f1))) = escIL true (bytesOf p.f1) := bytesOf_strOfNums (escIL_range true p.f1)
    have hs1 := strOfNums_size (escIL true (bytesOf p.f0))
    have hs2 := strOfNums_size (escIL true (bytesOf p.f1))
    refine Ev.succ ?_
    simp only [usherref3_Form.l0, hp', Option.bind_some]
    rw [wr (by omega) (by omega)]
    have hi1 : decide (i + 1 = 0) = false := decide_eq_false (by omega)
    refine Ev.pos hlt (Ev.ite (fun hg => ?_) (fun hg => ?_))
    · have hi0 : decide (i = 0) = false := decide_eq_false (by omega)
      refine Ev.pos (by omega) (Ev.pos h0 (Ev.bind (refEscape_is p.f0 true (by omega)) (Ev.bind (refEscape_is p.f1 true (by omega)) (Ev.pos (by rw [hs1]; simp; omega) ?_))))
      rw [hb1, hb2]
      refine Ev.pos (by simp; omega) (Ev.pos (by rw [hs2]; simp; omega) ?_)
      have := ih (acc ++ [38] ++ escIL true (bytesOf p.f0) ++ [61] ++ escIL true (bytesOf p.f1)) (i + 1) (by omega) (by omega) (by simp only [List.length_append, List.length_cons, List.length_nil]; omega)
      rw [hi1] at this
      rw [hi0]
      simpa only [formI, partI, List.append_assoc, if_neg Bool.false_ne_true] using this
    · have hi0 : decide (i = 0) = true := decide_eq_true (by omega)
      refine Ev.pos h0 (Ev.bind (refEscape_is p.f0 true (by omega)) (Ev.bind (refEscape_is p.f1 true (by omega)) (Ev.pos (by rw [hs1]; omega) ?_)))
      rw [hb1, hb2]
      refine Ev.pos (by simp; omega) (Ev.pos (by rw [hs2]; simp; omega) ?_)
      have := ih (acc ++ escIL true (bytesOf p.f0) ++ [61] ++ escIL true (bytesOf p.f1)) (i + 1) (by omega) (by omega) (by simp only [List.length_append, List.length_cons, List.length_nil]; omega)
      rw [hi1] at this
      rw [hi0]
      simpa only [formI, partI, List.append_assoc, if_true, List.nil_append] using this
theorem refForm_is (l : List S52) (h : (l.map wgt).sum ≤ 17592186044416) : Ev (fun k => usherref3_Form.f k l) (strOfNums (formI true l)) := by
  have hl : l.length ≤ (l.map wgt).sum := by
    clear h
    induction l with
    | nil => simp
    | cons p r ih => simp only [List.length_cons, List.map_cons, List.sum_cons, wgt] at ih ⊢; omega
  have := refForm_loop l (by omega) l.length [] 0 (Int.le_refl _) (by omega) (by simpa using h)
  exact this
/-- Unescape of Escape, byte by byte -/
theorem unres_fact : ∀ n : Fin 256, unres (n.val : Int) = true → (n.val : Int) ≠ 37 ∧ (n.val : Int) ≠ 43 ∧ 33 ≤ (n.val : Int) ∧ (n.val : Int) ≤ 126 := by decide +kernel
theorem hexv_hx : ∀ n : Fin 16, hexv (hx (n.val : Int)) = (n.val : Int) := by decide +kernel
theorem ue_esc1 (plus : Bool) (c : Int) (h : 0 ≤ c ∧ c ≤ 255) (r : List Int) : ue plus 0 0 (escI plus c ++ r) = (ue plus 0 0 r).map (c :: ·) := by
  unfold escI
  by_cases u : unres c = true
  · rw [if_pos u]
    obtain ⟨h1, h2, h3, h4⟩ := byte_cases (p := fun c => unres c = true → c ≠ 37 ∧ c ≠ 43 ∧ 33 ≤ c ∧ c ≤ 126) unres_fact c h.1 h.2 u
    simp only [List.singleton_append, ue]
    rw [if_neg h1, if_neg (by omega), if_neg (fun e => h2 e.2)]
  · rw [if_neg u]
    by_cases sp : c = 32 ∧ plus = true
    · rw [if_pos sp]
      obtain ⟨rfl, rfl⟩ := sp
      simp [ue]
    · rw [if_neg sp]
      have e1 := hexv_hx ⟨(c / 16).toNat, by omega⟩
      have e2 := hexv_hx ⟨(c % 16).toNat, by omega⟩
      simp only at e1 e2
      rw [show ((c / 16).toNat : Int) = c / 16 by omega] at e1
      rw [show ((c % 16).toNat : Int) = c % 16 by omega] at e2
      simp only [List.cons_append, List.nil_append, ue, if_true, e1, e2]
      rw [if_neg (by omega), if_neg (by omega), show 16 * (c / 16) + c % 16 = c by omega]
theorem ue_esc (plus : Bool) : ∀ (l : List Int), (∀ c ∈ l, 0 ≤ c ∧ c ≤ 255) → ue plus 0 0 (escIL plus l) = some l
  | [], _ => rfl
  | c :: r, h => by
    have e : escIL plus (c :: r) = escI plus c ++ escIL plus r := by simp [escIL]
    rw [e, ue_esc1 plus c (h c (List.mem_cons_self ..)), ue_esc plus r (fun x hx => h x (List.mem_cons_of_mem _ hx))]
    rfl
end Go.Proofs.YtlnjomhmffdfnaaDoor.Y
