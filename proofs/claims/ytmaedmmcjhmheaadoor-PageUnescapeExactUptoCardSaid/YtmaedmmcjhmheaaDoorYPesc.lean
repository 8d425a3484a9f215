/- A page's escapes in plain words: byte by byte; what was escaped comes back, and no text has two spellings. No condition. -/
import Derived.Test.YtmaedmmcjhmheaaDoorYEv
namespace Go.Proofs.YtmaedmmcjhmheaaDoor.Y
open Go.RowKit Go.Proofs.YtmaedmmcjhmheaaDoorW.PrintWords Go.Proofs.YtmaedmmcjhmheaaDoorW.PrintLast

/-- how a byte of a text is written -/
def pe (c : UInt8) : List UInt8 := if c = 38 then [38, 97, 109, 112, 59] else if c = 60 then [38, 108, 116, 59] else if c = 62 then [38, 103, 116, 59] else if c = 34 then [38, 113, 117, 111, 116, 59] else if c = 39 then [38, 35, 51, 57, 59] else [c]
def peL (l : List UInt8) : List UInt8 := l.flatMap pe
/-- the byte whose writing stands at the head, and what stands behind it -/
def pm (l : List UInt8) : UInt8 × List UInt8 :=
  if [38, 97, 109, 112, 59].isPrefixOf l then (38, l.drop 5) else if [38, 108, 116, 59].isPrefixOf l then (60, l.drop 4) else if [38, 103, 116, 59].isPrefixOf l then (62, l.drop 4)
  else if [38, 113, 117, 111, 116, 59].isPrefixOf l then (34, l.drop 6) else if [38, 35, 51, 57, 59].isPrefixOf l then (39, l.drop 5) else (l.headD 0, l.tail)
def dec : Nat → List UInt8 → List UInt8
  | 0, _ => []
  | _ + 1, [] => []
  | n + 1, c :: r => (pm (c :: r)).1 :: dec n (pm (c :: r)).2
def spec5 (c : UInt8) : Bool := c == 38 || c == 60 || c == 62 || c == 34 || c == 39
theorem pe_plain {c : UInt8} (h : spec5 c = false) : pe c = [c] := by
  unfold spec5 at h
  simp only [Bool.or_eq_false_iff, beq_eq_false_iff_ne] at h
  obtain ⟨⟨⟨⟨h1, h2⟩, h3⟩, h4⟩, h5⟩ := h
  unfold pe
  rw [if_neg h1, if_neg h2, if_neg h3, if_neg h4, if_neg h5]
theorem pe_ne (c : UInt8) : pe c ≠ [] := by
  unfold pe
  (repeat' split) <;> simp
theorem pe_pos (c : UInt8) : 1 ≤ (pe c).length := by
  unfold pe
  (repeat' split) <;> simp
theorem pe_le (c : UInt8) : (pe c).length ≤ 6 := by
  unfold pe
  (repeat' split) <;> simp
theorem spec_cases {c : UInt8} (h : spec5 c = true) : c = 38 ∨ c = 60 ∨ c = 62 ∨ c = 34 ∨ c = 39 := by
  unfold spec5 at h
  simp only [Bool.or_eq_true, beq_iff_eq] at h
  rcases h with (((h | h) | h) | h) | h <;> simp [h]
theorem pm_pe (c : UInt8) (l : List UInt8) : pm (pe c ++ l) = (c, l) := by
  by_cases h : spec5 c = true
  · rcases spec_cases h with rfl | rfl | rfl | rfl | rfl <;> rfl
  · have h' : spec5 c = false := by simpa using h
    rw [pe_plain h']
    have h1 : (38 == c) = false := by
      unfold spec5 at h'
      simp only [Bool.or_eq_false_iff, beq_eq_false_iff_ne] at h'
      exact beq_eq_false_iff_ne.2 (Ne.symm h'.1.1.1.1)
    simp [pm, List.isPrefixOf, h1]
theorem peL_nil : peL [] = [] := rfl
theorem peL_cons (c : UInt8) (l : List UInt8) : peL (c :: l) = pe c ++ peL l := by simp [peL]
theorem peL_append (a b : List UInt8) : peL (a ++ b) = peL a ++ peL b := by simp [peL]
theorem peL_snoc (a : List UInt8) (c : UInt8) : peL (a ++ [c]) = peL a ++ pe c := by simp [peL]
theorem peL_len (l : List UInt8) : l.length ≤ (peL l).length := by
  induction l with
  | nil => simp [peL]
  | cons c r ih =>
    have := pe_pos c
    rw [peL_cons, List.length_append, List.length_cons]
    omega
theorem peL_le (l : List UInt8) : (peL l).length ≤ 6 * l.length := by
  induction l with
  | nil => simp [peL]
  | cons c r ih =>
    have := pe_le c
    rw [peL_cons, List.length_append, List.length_cons]
    omega
theorem dec_peL (t : List UInt8) : ∀ n, t.length ≤ n → dec n (peL t) = t := by
  induction t with
  | nil => intro n _; cases n <;> rfl
  | cons c r ih =>
    intro n hn
    obtain ⟨m, rfl⟩ : ∃ m, n = m + 1 := ⟨n - 1, by simp at hn; omega⟩
    have e := pm_pe c (peL r)
    rw [peL_cons]
    obtain ⟨d, s, hd⟩ : ∃ d s, pe c ++ peL r = d :: s := by
      cases h : pe c ++ peL r with
      | nil => exact absurd (List.append_eq_nil_iff.1 h).1 (pe_ne c)
      | cons d s => exact ⟨d, s, rfl⟩
    rw [hd] at e ⊢
    simp only [dec, e]
    rw [ih m (by simpa using hn)]
theorem peL_split : ∀ (o t : List UInt8) {rest : List UInt8}, peL t = peL o ++ rest → ∃ t', t = o ++ t' ∧ rest = peL t'
  | [], t, rest, h => ⟨t, rfl, by simpa [peL] using h.symm⟩
  | c :: o, t, rest, h => by
    rw [peL_cons, List.append_assoc] at h
    cases t with
    | nil =>
      rw [peL_nil] at h
      exact absurd (List.append_eq_nil_iff.1 h.symm).1 (pe_ne c)
    | cons d s =>
      rw [peL_cons] at h
      have e := congrArg pm h
      rw [pm_pe, pm_pe] at e
      obtain ⟨rfl, e2⟩ := Prod.mk.inj e
      obtain ⟨t', rfl, e3⟩ := peL_split o s e2
      exact ⟨t', rfl, e3⟩
theorem peL_inj {a b : List UInt8} (h : peL a = peL b) : a = b := by
  obtain ⟨t', e, e2⟩ := peL_split b a (rest := []) (by simpa using h)
  have : t' = [] := by
    have := peL_len t'
    rw [← e2] at this
    simpa using this
  simpa [this] using e
/-- what Unescape answers -/
def unL (l : List UInt8) : Option (List UInt8) := if peL (dec l.length l) = l then some (dec l.length l) else none
theorem unL_some {t l : List UInt8} (h : peL t = l) : unL l = some t := by
  subst h
  have := dec_peL t (peL t).length (peL_len t)
  unfold unL
  rw [this, if_pos rfl]
theorem unL_none {l : List UInt8} (h : ∀ t, peL t ≠ l) : unL l = none := if_neg (h _)
theorem unL_of {l t : List UInt8} (h : unL l = some t) : peL t = l := by
  unfold unL at h
  split at h
  · rename_i h1
    obtain rfl := Option.some.inj h
    exact h1
  · cases h
/-- where reading stops: a byte that must be written in another way, and no writing of one -/
theorem un_stop {out r : List UInt8} {c : UInt8} (hc : spec5 c = true) (h1 : [38, 97, 109, 112, 59].isPrefixOf (c :: r) = false) (h2 : [38, 108, 116, 59].isPrefixOf (c :: r) = false) (h3 : [38, 103, 116, 59].isPrefixOf (c :: r) = false)
    (h4 : [38, 113, 117, 111, 116, 59].isPrefixOf (c :: r) = false) (h5 : [38, 35, 51, 57, 59].isPrefixOf (c :: r) = false) : unL (peL out ++ c :: r) = none := by
  apply unL_none
  intro t ht
  obtain ⟨t', _, e⟩ := peL_split out t ht
  cases t' with
  | nil => cases e
  | cons d s =>
    rw [peL_cons] at e
    by_cases hd : spec5 d = true
    · rcases spec_cases hd with rfl | rfl | rfl | rfl | rfl
      all_goals
        rw [e] at h1 h2 h3 h4 h5
        simp [pe, List.isPrefixOf] at h1 h2 h3 h4 h5
    · have hd' : spec5 d = false := by simpa using hd
      rw [pe_plain hd'] at e
      have : c = d := by simpa using (List.cons.inj e).1
      rw [this, hd'] at hc
      cases hc
end Go.Proofs.YtmaedmmcjhmheaaDoor.Y
