/- A page's escapes: the four statements in plain words. Condition: the text has fewer than 1048576 bytes. -/
import Derived.Test.YtmaedmmcjhmheaaDoorYPesc2
-- IMPORTS
import Derived.Test.YtmaedmmcjhmheaaDoorXx1
import Derived.Test.YtmaedmmcjhmheaaDoorXx2
import Derived.Test.YtmaedmmcjhmheaaDoorXx3
namespace Go.Proofs.YtmaedmmcjhmheaaDoor.Y
open Go.RowKit Go.Proofs.YtmaedmmcjhmheaaDoorW.PrintWords Go.Proofs.YtmaedmmcjhmheaaDoorW.PrintLast Go.Proofs.YtmaedmmcjhmheaaDoor.X
theorem escExact (s : ByteArray) {F : Prop} (_ : F) (hB : s.size + 1 ≤ 1048576) : ∃ k, usherlaw5_PageEscapeExact.f k s = some true := by
  refine Ev.at_ ?_
  simp only [usherlaw5_PageEscapeExact.f, escape_is s (by omega), Option.bind_some]
  refine Ev.bind (refEscape_is s (by omega)) ?_
  simp only [beq_self_eq_true]
  exact Ev.pure _
theorem unescExact (s : ByteArray) {F : Prop} (_ : F) (hB : s.size + 1 ≤ 1048576) : ∃ k, usherlaw5_PageUnescapeExact.f k s = some true := by
  refine Ev.at_ ?_
  simp only [usherlaw5_PageUnescapeExact.f, unescape_is s (by omega), Option.bind_some]
  refine Ev.bind (refUnescape_is s (by omega)) ?_
  cases unL s.data.toList with
  | none =>
    simp only [usherkit_Num.f]
    exact Ev.pos (by first | trivial | rfl) (Ev.of_eq fun _ => rfl)
  | some t =>
    simp only [usherkit_Num.f]
    exact Ev.pos (by first | trivial | rfl) (Ev.of_eq fun _ => rfl)
theorem quote_no (s : ByteArray) (hs : s.size ≤ 1099511627776) (hq : ∀ c ∈ s.data.toList, c ≠ 60 ∧ c ≠ 62 ∧ c ≠ 34 ∧ c ≠ 39) (d : Nat) : ∀ i : Nat, s.size - i = d → Ev (fun k => usherlaw5_quotable.l0 k s (i : Int)) false := by
  induction d with
  | zero =>
    intro i hd
    refine Ev.succ ?_
    simp only [usherlaw5_quotable.l0]
    exact Ev.neg (by omega) (Ev.pure _)
  | succ d ih =>
    intro i hd
    obtain ⟨c, hc1, hc2⟩ := bt_u8 s i (by omega)
    have hm : c ∈ s.data.toList := List.mem_of_mem_drop (i := i) (by rw [hc1]; exact List.mem_cons_self ..)
    obtain ⟨h1, h2, h3, h4⟩ := hq c hm
    have ne : ∀ (n : UInt8), c ≠ n → ¬ ((c.toNat : Int) = (n.toNat : Int)) := fun n hn e => hn (UInt8.toNat_inj.1 (by omega))
    have f1 : ¬ ((c.toNat : Int) = 60) := ne 60 h1
    have f2 : ¬ ((c.toNat : Int) = 62) := ne 62 h2
    have f3 : ¬ ((c.toNat : Int) = 34) := ne 34 h3
    have f4 : ¬ ((c.toNat : Int) = 39) := ne 39 h4
    refine Ev.succ ?_
    simp only [usherlaw5_quotable.l0, hc2]
    rw [wr (by omega) (by omega)]
    exact Ev.pos (by omega) (Ev.pos (by omega) (Ev.neg f1 (Ev.neg f2 (Ev.neg f3 (Ev.neg f4 (ih (i + 1) (by omega)))))))
theorem pe_quote (c : UInt8) : ∀ x ∈ pe c, x ≠ 60 ∧ x ≠ 62 ∧ x ≠ 34 ∧ x ≠ 39 := by
  by_cases h : spec5 c = true
  · rcases spec_cases h with rfl | rfl | rfl | rfl | rfl <;> decide
  · have h' : spec5 c = false := by simpa using h
    rw [pe_plain h']
    intro x hx
    obtain rfl := List.mem_singleton.1 hx
    unfold spec5 at h'
    simp only [Bool.or_eq_false_iff, beq_eq_false_iff_ne] at h'
    exact ⟨h'.1.1.1.2, h'.1.1.2, h'.1.2, h'.2⟩
theorem peL_quote (l : List UInt8) : ∀ x ∈ peL l, x ≠ 60 ∧ x ≠ 62 ∧ x ≠ 34 ∧ x ≠ 39 := by
  intro x hx
  obtain ⟨c, _, h⟩ := List.mem_flatMap.1 hx
  exact pe_quote c x h
theorem back_ev (s : ByteArray) (hB : s.size + 1 ≤ 1048576) : Ev (fun k => usherlaw5_PageEscapeBack.f k s) true := by
  have hl := size_data s
  have h6 := peL_le s.data.toList
  have h7 := peL_len s.data.toList
  have hz : (str (peL s.data.toList)).size ≤ 1099511627776 := by rw [str_size]; omega
  have e1 : ((s.size : Int) / 2).toNat = s.size / 2 := by omega
  have e2 : s.extract 0 (s.size / 2) = str (s.data.toList.take (s.size / 2)) := ba_ext (by rw [Lib.extract_data, str_data, List.drop_zero, Nat.sub_zero])
  have e3 : s.extract (s.size / 2) s.size = str (s.data.toList.drop (s.size / 2)) := ba_ext (by rw [Lib.extract_data, str_data, List.take_of_length_le (by rw [List.length_drop, size_data]; omega)])
  have hu : page_Unescape.f (str (peL s.data.toList)) = some (s, none) := by
    rw [unescape_is _ hz, str_data, unL_some rfl]
    show some (str s.data.toList, none) = _
    rw [str_of]
  have ha : page_Escape.f (str (s.data.toList.take (s.size / 2))) = some (str (peL (s.data.toList.take (s.size / 2)))) := by
    rw [escape_is _ (by rw [str_size, List.length_take]; omega), str_data]
  have hb : page_Escape.f (str (s.data.toList.drop (s.size / 2))) = some (str (peL (s.data.toList.drop (s.size / 2)))) := by
    rw [escape_is _ (by rw [str_size, List.length_drop]; omega), str_data]
  have hcat : str (peL (s.data.toList.take (s.size / 2))) ++ str (peL (s.data.toList.drop (s.size / 2))) = str (peL s.data.toList) := by
    apply ba_ext
    rw [ByteArray.data_append, Array.toList_append, str_data, str_data, str_data, ← peL_append, List.take_append_drop]
  have h8 := peL_le (s.data.toList.take (s.size / 2))
  have h9 := peL_le (s.data.toList.drop (s.size / 2))
  rw [List.length_take] at h8
  rw [List.length_drop] at h9
  have kn : ∀ {α β : Type} {o : Option α} {r : α} {g : Nat → α → Option β} {q : β}, o = some r → Ev (fun k => g k r) q → Ev (fun k => o.bind (g k)) q := fun e h => Ev.bind (f := fun _ => _) (Ev.of_eq fun _ => e) h
  show Ev (fun k => (page_Escape.f s).bind _) true
  refine kn (escape_is s (by omega)) (kn hu ?_)
  rw [wr (by omega) (by omega), e1, e2, e3]
  refine Ev.pos (by omega) (Ev.pos (by omega) (kn ha (kn hb ?_)))
  refine Ev.bind (quote_no _ hz (by rw [str_data]; exact peL_quote _) _ 0 rfl) ?_
  rw [hcat]
  refine Ev.pos rfl (Ev.pos rfl (Ev.pos (by rw [str_size, str_size]; omega) (Ev.pos (by first | trivial | rfl) (Ev.neg Bool.false_ne_true ?_))))
  have : decide (((str (peL s.data.toList)).size : Int) ≥ (s.size : Int)) = true := decide_eq_true (by rw [str_size]; omega)
  rw [this]
  exact Ev.pure _
theorem escBack (s : ByteArray) {F : Prop} (_ : F) (hB : s.size + 1 ≤ 1048576) : ∃ k, usherlaw5_PageEscapeBack.f k s = some true := (back_ev s hB).at_
theorem escOnly (s : ByteArray) {F : Prop} (_ : F) (hB : s.size + 1 ≤ 1048576) : ∃ k, usherlaw5_PageEscapeOnly.f k s = some true := by
  refine Ev.at_ ?_
  simp only [usherlaw5_PageEscapeOnly.f, unescape_is s (by omega), Option.bind_some]
  refine Ev.bind (back_ev s hB) (Ev.pos rfl ?_)
  cases h : unL s.data.toList with
  | none =>
    refine Ev.neg Bool.false_ne_true ?_
    have hN : usherkit_Num.f (some 2) = some 2 := by simp [usherkit_Num.f]
    show Ev (fun _ => (usherkit_Num.f (some 2)).bind fun t138 => if t138 = 2 then some ((str []).toList == []) else some false) true
    rw [hN, Option.bind_some, str_toList]
    exact Ev.of_eq fun _ => rfl
  | some t =>
    have ht := unL_of h
    have hlen : t.length ≤ s.size := by
      have h1 := peL_len t
      rw [ht, size_data] at h1
      exact h1
    refine Ev.pos rfl ?_
    show Ev (fun _ => (page_Escape.f (str t)).bind fun t137 => some (t137.toList == s.toList)) true
    rw [escape_is _ (by rw [str_size]; omega), str_data, ht, str_of]
    simp only [Option.bind_some, beq_self_eq_true]
    exact Ev.pure _
end Go.Proofs.YtmaedmmcjhmheaaDoor.Y
