/- Redirect addresses in plain words, over lists of numbers: the program's order of asking and the document's come to one answer. No condition. -/
import Derived.Test.YtopfmcgmfnmikaaDoorYSp
import Derived.Test.YtopfmcgmfnmikaaDoorXBytesOf
set_option linter.unusedSimpArgs false
namespace Go.Proofs.YtopfmcgmfnmikaaDoor.Y
open Go.RowKit Go.Proofs.YtopfmcgmfnmikaaDoorW.PrintWords Go.Proofs.YtopfmcgmfnmikaaDoorW.PrintLast Go.Proofs.YtopfmcgmfnmikaaDoor.X
abbrev P1 : ByteArray := ⟨#[47]⟩
abbrev P2 : ByteArray := ⟨#[47, 63]⟩
def lcB (c : Int) : Bool := letterB c || digitB c || decide (c = 45)
def labelP (l : List Int) : Bool := decide (l ≠ []) && decide (l.length ≤ 63) && decide (l[0]? ≠ some 45) && decide (l[l.length - 1]? ≠ some 45) && l.all lcB
def valP (n : Int) (l : List Int) : Int := l.foldl (fun n c => 10 * n + (c - 48)) n
def portP (l : List Int) : Bool := decide (l ≠ []) && decide (l.length ≤ 5) && decide (l[0]? ≠ some 48) && l.all digitB && decide (valP 0 l ≤ 65535)
def v6B (c : Int) : Bool := hexaB c || decide (c = 58) || decide (c = 46)
def hostP : List Int → Bool
  | [] => (sp 46 []).all labelP
  | c :: r => if c = 91 then decide (r.getLast? = some 93) && decide (r.dropLast ≠ []) && r.dropLast.all v6B else (sp 46 (c :: r)).all labelP
def namesP (l : List Int) : Bool := decide (l = [108, 111, 99, 97, 108, 104, 111, 115, 116] ∨ l = [49, 50, 55, 46, 48, 46, 48, 46, 49] ∨ l = [91, 58, 58, 49, 93])
/-- at the last c -/
def lastSplit (c : Int) : List Int → Option (List Int × List Int)
  | [] => none
  | x :: r => match lastSplit c r with
    | some (h, p) => some (x :: h, p)
    | none => if x = c then some ([], r) else none
theorem lastSplit_append (c : Int) : ∀ a b : List Int, lastSplit c (a ++ b) = match lastSplit c b with
    | some (h, p) => some (a ++ h, p)
    | none => (lastSplit c a).map (fun x => (x.1, x.2 ++ b))
  | [], b => by
    cases h : lastSplit c b with
    | none => simp [lastSplit, h]
    | some x => simp [h]
  | x :: a, b => by
    have ih := lastSplit_append c a b
    simp only [List.cons_append, lastSplit, ih]
    cases h : lastSplit c b with
    | some y => simp
    | none =>
      cases h2 : lastSplit c a with
      | some y => simp
      | none =>
        simp only [Option.map_none]
        by_cases e : x = c
        · simp [e]
        · simp [e]
theorem lastSplit_none (c : Int) : ∀ l, lastSplit c l = none ↔ c ∉ l
  | [] => by simp [lastSplit]
  | x :: r => by
    have ih := lastSplit_none c r
    simp only [lastSplit]
    cases h : lastSplit c r with
    | some y =>
      have : ¬ c ∉ r := fun e => by rw [ih.2 e] at h; cases h
      simp only [List.mem_cons, not_or, reduceCtorEq, false_iff, not_and]
      intro _ e
      exact this e
    | none =>
      have := ih.1 h
      by_cases e : x = c
      · simp [e]
      · simp [e, this, Ne.symm e]
theorem lastSplit_some (c : Int) : ∀ l h p, lastSplit c l = some (h, p) → l = h ++ c :: p ∧ c ∉ p
  | [], h, p, e => by simp [lastSplit] at e
  | x :: r, h, p, e => by
    simp only [lastSplit] at e
    cases h2 : lastSplit c r with
    | some y =>
      obtain ⟨h', p'⟩ := y
      rw [h2] at e
      simp only [Option.some.injEq, Prod.mk.injEq] at e
      obtain ⟨rfl, rfl⟩ := e
      obtain ⟨e1, e2⟩ := lastSplit_some c r h' p' h2
      exact ⟨by rw [e1]; rfl, e2⟩
    | none =>
      rw [h2] at e
      by_cases ex : x = c
      · simp only [ex, if_true, Option.some.injEq, Prod.mk.injEq] at e
        obtain ⟨rfl, rfl⟩ := e
        exact ⟨by rw [ex]; rfl, (lastSplit_none c _).1 h2⟩
      · simp [ex] at e
def siteP (nm : List Int → Bool) (l : List Int) : Bool := match lastSplit 58 l with
  | none => nm l
  | some (h, p) => if 93 ∈ p then nm l else portP p && nm h
def progSite (nm : List Int → Bool) (l : List Int) : Bool := match lastSplit 58 l with
  | none => nm l
  | some (h, p) => if p.getLast? = some 93 then nm l else portP p && nm h
theorem sp_has (c : Int) {x : Int} (hx : x ≠ c) : ∀ l, x ∈ l → ∃ q ∈ sp c l, x ∈ q
  | [], h => by cases h
  | y :: r, h => by
    by_cases e : y = c
    · have hr : x ∈ r := by
        rcases List.mem_cons.1 h with h | h
        · exact absurd (h.trans e) hx
        · exact h
      obtain ⟨q, hq, hxq⟩ := sp_has c hx r hr
      exact ⟨q, by simp only [sp, if_pos e]; exact List.mem_cons_of_mem _ hq, hxq⟩
    · obtain ⟨g, t, ht⟩ := sp_cons c r
      rw [sp_cons_ne e ht]
      rcases List.mem_cons.1 h with h | h
      · exact ⟨y :: g, List.mem_cons_self .., by rw [h]; exact List.mem_cons_self ..⟩
      · obtain ⟨q, hq, hxq⟩ := sp_has c hx r h
        rw [ht] at hq
        rcases List.mem_cons.1 hq with rfl | hq
        · exact ⟨y :: q, List.mem_cons_self .., List.mem_cons_of_mem _ hxq⟩
        · exact ⟨q, List.mem_cons_of_mem _ hq, hxq⟩
theorem labels_no {l : List Int} {x : Int} (hx : x ∈ l) (h46 : x ≠ 46) (hb : lcB x = false) : (sp 46 l).all labelP = false := by
  obtain ⟨q, hq, hxq⟩ := sp_has 46 h46 l hx
  rw [Bool.eq_false_iff]
  intro h
  have := List.all_eq_true.1 h q hq
  unfold labelP at this
  simp only [Bool.and_eq_true] at this
  have := List.all_eq_true.1 this.2 x hxq
  rw [hb] at this
  cases this
theorem host_no {l : List Int} (h : 93 ∈ l) (hl : l.getLast? ≠ some 93) : hostP l = false := by
  cases l with
  | nil => cases h
  | cons c r =>
    simp only [hostP]
    by_cases e : c = 91
    · rw [if_pos e]
      have hr : r ≠ [] := by
        rintro rfl
        simp [e] at h
      have : r.getLast? ≠ some 93 := by
        intro e2
        apply hl
        rw [List.getLast?_cons_of_ne_nil hr] <;> first | exact e2 | skip
      simp [this]
    · rw [if_neg e]
      exact labels_no h (by decide) (by decide)
theorem names_no {l : List Int} (h : 93 ∈ l) (hl : l.getLast? ≠ some 93) : namesP l = false := by
  unfold namesP
  apply decide_eq_false
  rintro (rfl | rfl | rfl)
  · exact absurd h (by decide)
  · exact absurd h (by decide)
  · exact hl (by decide)
theorem port_no {p : List Int} (h : 93 ∈ p) : portP p = false := by
  rw [Bool.eq_false_iff]
  intro h2
  unfold portP at h2
  simp only [Bool.and_eq_true] at h2
  have := List.all_eq_true.1 h2.1.2 93 h
  exact absurd this (by decide)
theorem last_append {h p : List Int} (hp : p ≠ []) (c : Int) : (h ++ c :: p).getLast? = p.getLast? := by
  rw [List.getLast?_append]
  cases p with
  | nil => exact absurd rfl hp
  | cons x r => rw [List.getLast?_cons_cons, List.getLast?_eq_some_getLast (l := x :: r) (by simp)]; rfl
theorem site_eq {nm : List Int → Bool} (hn : ∀ l, 93 ∈ l → l.getLast? ≠ some 93 → nm l = false) (l : List Int) : siteP nm l = progSite nm l := by
  unfold siteP progSite
  cases h : lastSplit 58 l with
  | none => rfl
  | some x =>
    obtain ⟨a, p⟩ := x
    obtain ⟨hl, _⟩ := lastSplit_some 58 l a p h
    simp only
    by_cases h1 : p.getLast? = some 93
    · rw [if_pos h1, if_pos (List.mem_of_getLast? h1)]
    · rw [if_neg h1]
      by_cases h2 : 93 ∈ p
      · rw [if_pos h2, port_no h2, Bool.false_and]
        apply hn l (by rw [hl]; simp [h2])
        rw [hl, last_append (by rintro rfl; cases h2)]
        exact h1
      · rw [if_neg h2]
def tw (c : Int) (l : List Int) : List Int := l.takeWhile (fun x => decide (x ≠ c))
def dw (c : Int) (l : List Int) : List Int := l.dropWhile (fun x => decide (x ≠ c))
def wayP (l : List Int) : Bool := (decide (tw 63 l = []) || decide ((tw 63 l)[0]? = some 47)) && bs P1 0 (tw 63 l) && bs P2 0 ((dw 63 l).drop 1)
def tw2 (l : List Int) : List Int := l.takeWhile (fun x => decide (x ≠ 47 ∧ x ≠ 63))
def dw2 (l : List Int) : List Int := l.dropWhile (fun x => decide (x ≠ 47 ∧ x ≠ 63))
def anyP (nm : List Int → Bool) (l : List Int) : Bool := progSite nm (tw2 l) && wayP (dw2 l)
def schemeP : Bool → Bool → List Int → Option (List Int)
  | _, _, [] => none
  | first, dot, c :: r => if 97 ≤ c ∧ c ≤ 122 then schemeP false dot r else if first = true then none else if c = 58 then (if dot = true then some r else none) else if c = 46 then schemeP false true r else if digitB c = true ∨ c = 43 ∨ c = 45 then schemeP false dot r else none
def insideP (l : List Int) : Bool := List.isPrefixOf [47] l && !List.isPrefixOf [47, 47] l && wayP l
abbrev HS : List Int := [104, 116, 116, 112, 115, 58, 47, 47]
abbrev HP : List Int := [104, 116, 116, 112, 58, 47, 47]
def progRed (l : List Int) : Bool := if List.isPrefixOf HS l = true then anyP hostP (l.drop 8) else if List.isPrefixOf HP l = true then anyP namesP (l.drop 7) else match schemeP true false l with
  | none => false
  | some r => insideP r
def webP (nm : List Int → Bool) (l : List Int) : Bool := siteP nm (tw 47 l) && bs P1 0 (dw 47 l)
def privR : Bool → Bool → List Int → Bool
  | _, dot, [] => dot
  | first, dot, c :: r => if (97 ≤ c ∧ c ≤ 122) ∨ (first = false ∧ (digitB c = true ∨ c = 43 ∨ c = 45 ∨ c = 46)) then privR false (dot || decide (c = 46)) r else false
def sf : List Int → Option (List Int × List Int)
  | [] => none
  | c :: r => if c = 58 then some ([], r) else (sf r).map (fun x => (c :: x.1, x.2))
def refRed (l : List Int) : Bool := bs P2 0 ((dw 63 l).drop 1) && (if List.isPrefixOf HS (tw 63 l) = true then webP hostP ((tw 63 l).drop 8) else if List.isPrefixOf HP (tw 63 l) = true then webP namesP ((tw 63 l).drop 7) else match sf (tw 63 l) with
  | none => false
  | some (h, p) => privR true false h && List.isPrefixOf [47] p && !List.isPrefixOf [47, 47] p && bs P1 0 p)
/-- t: nothing, or what begins with the '?' -/
def Tl (t : List Int) : Prop := t = [] ∨ ∃ q, t = 63 :: q
theorem tw_all (c : Int) : ∀ l, ∀ x ∈ tw c l, x ≠ c
  | [], x, h => by cases h
  | y :: r, x, h => by
    unfold tw at h
    simp only [List.takeWhile_cons] at h
    by_cases e : y = c
    · simp [e] at h
    · simp only [e, ne_eq, not_false_eq_true, decide_true, if_true] at h
      rcases List.mem_cons.1 h with rfl | h
      · exact e
      · exact tw_all c r x h
theorem base_split (l : List Int) : l = tw 63 l ++ dw 63 l ∧ (∀ x ∈ tw 63 l, x ≠ 63) ∧ Tl (dw 63 l) := by
  refine ⟨(List.takeWhile_append_dropWhile ..).symm, fun x hx => ?_, ?_⟩
  · exact tw_all 63 l x hx
  · unfold dw
    induction l with
    | nil => exact .inl rfl
    | cons c r ih =>
      simp only [List.dropWhile_cons]
      by_cases e : c = 63
      · exact .inr ⟨r, by simp [e]⟩
      · simp only [e, ne_eq, not_false_eq_true, decide_true, if_true]
        exact ih
theorem tw_app {b t : List Int} (hb : ∀ x ∈ b, x ≠ 63) (ht : Tl t) : tw 63 (b ++ t) = b ∧ dw 63 (b ++ t) = t := by
  unfold tw dw
  induction b with
  | nil =>
    rcases ht with rfl | ⟨q, rfl⟩
    · exact ⟨rfl, rfl⟩
    · simp
  | cons c r ih =>
    have hc := hb c (List.mem_cons_self ..)
    obtain ⟨i1, i2⟩ := ih (fun x hx => hb x (List.mem_cons_of_mem _ hx))
    simp only [List.cons_append, List.takeWhile_cons, List.dropWhile_cons, hc, ne_eq, not_false_eq_true, decide_true, if_true, i1, i2, and_self]
theorem tw2_app {b t : List Int} (hb : ∀ x ∈ b, x ≠ 63) (ht : Tl t) : tw2 (b ++ t) = tw 47 b ∧ dw2 (b ++ t) = dw 47 b ++ t := by
  unfold tw2 dw2 tw dw
  induction b with
  | nil =>
    rcases ht with rfl | ⟨q, rfl⟩
    · exact ⟨rfl, rfl⟩
    · simp
  | cons c r ih =>
    have hc := hb c (List.mem_cons_self ..)
    obtain ⟨i1, i2⟩ := ih (fun x hx => hb x (List.mem_cons_of_mem _ hx))
    by_cases e : c = 47
    · simp [List.takeWhile_cons, List.dropWhile_cons, e]
    · simp only [List.cons_append, List.takeWhile_cons, List.dropWhile_cons, hc, e, ne_eq, not_false_eq_true, and_self, decide_true, if_true, i1, i2]
theorem pre_app : ∀ {X b t : List Int}, 63 ∉ X → Tl t → List.isPrefixOf X (b ++ t) = List.isPrefixOf X b
  | [], b, t, _, _ => by simp
  | x :: X, [], t, hx, ht => by
    rcases ht with rfl | ⟨q, rfl⟩
    · rfl
    · have : (x == 63) = false := beq_eq_false_iff_ne.2 (fun e => hx (by rw [e]; exact List.mem_cons_self ..))
      simp [List.isPrefixOf, this]
  | x :: X, c :: b, t, hx, ht => by
    have ih := pre_app (X := X) (b := b) (t := t) (fun e => hx (List.mem_cons_of_mem _ e)) ht
    simp only [List.cons_append, List.isPrefixOf, ih]
theorem scheme_app {t : List Int} (ht : Tl t) : ∀ (b : List Int) (f d : Bool), schemeP f d (b ++ t) = (schemeP f d b).map (· ++ t)
  | [], f, d => by
    rcases ht with rfl | ⟨q, rfl⟩
    · rfl
    · simp [schemeP, digitB]
  | c :: r, f, d => by
    have ih := scheme_app ht r
    simp only [List.cons_append, schemeP, ih]
    repeat' split
    all_goals simp
theorem scheme_ref : ∀ (b : List Int) (f d : Bool), (f = true → d = false) → schemeP f d b = match sf b with
    | none => none
    | some (h, p) => if privR f d h = true then some p else none
  | [], f, d, _ => rfl
  | c :: r, f, d, hfd => by
    have ih1 := scheme_ref r false d (by simp)
    have ih2 := scheme_ref r false true (by simp)
    simp only [schemeP, sf]
    by_cases h1 : 97 ≤ c ∧ c ≤ 122
    · have h58 : c ≠ 58 := by omega
      have h46 : c ≠ 46 := by omega
      rw [if_pos h1, if_neg h58, ih1]
      cases hs : sf r with
      | none => rfl
      | some x => simp [privR, h1, h46]
    · rw [if_neg h1]
      cases f with
      | true =>
        rw [if_pos rfl]
        obtain rfl := hfd rfl
        by_cases h58 : c = 58
        · rw [if_pos h58]; rfl
        · rw [if_neg h58]
          cases hs : sf r with
          | none => rfl
          | some x => simp [privR, h1]
      | false =>
        rw [if_neg (by decide)]
        by_cases h58 : c = 58
        · rw [if_pos h58, if_pos h58]
          rfl
        · rw [if_neg h58, if_neg h58]
          by_cases h46 : c = 46
          · rw [if_pos h46, ih2]
            cases hs : sf r with
            | none => rfl
            | some x => simp [privR, h46]
          · rw [if_neg h46]
            by_cases h2 : digitB c = true ∨ c = 43 ∨ c = 45
            · rw [if_pos h2, ih1]
              cases hs : sf r with
              | none => rfl
              | some x =>
                have : (97 ≤ c ∧ c ≤ 122) ∨ (True ∧ (digitB c = true ∨ c = 43 ∨ c = 45 ∨ c = 46)) := .inr ⟨trivial, by rcases h2 with h | h | h <;> simp [h]⟩
                simp only [Option.map_some, privR]
                rw [if_pos this, decide_eq_false h46, Bool.or_false]
            · rw [if_neg h2]
              cases hs : sf r with
              | none => rfl
              | some x =>
                have : ¬ (digitB c = true ∨ c = 43 ∨ c = 45 ∨ c = 46) := by
                  rintro (h | h | h | h)
                  · exact h2 (.inl h)
                  · exact h2 (.inr (.inl h))
                  · exact h2 (.inr (.inr h))
                  · exact h46 h
                simp [privR, this, h1]
theorem sf_sub : ∀ (b h p : List Int), sf b = some (h, p) → ∀ x ∈ p, x ∈ b
  | [], h, p, e => by simp [sf] at e
  | c :: r, h, p, e => by
    simp only [sf] at e
    by_cases h58 : c = 58
    · rw [if_pos h58] at e
      simp only [Option.some.injEq, Prod.mk.injEq] at e
      obtain ⟨_, rfl⟩ := e
      exact fun x hx => List.mem_cons_of_mem _ hx
    · rw [if_neg h58] at e
      cases hs : sf r with
      | none => rw [hs] at e; cases e
      | some y =>
        rw [hs] at e
        simp only [Option.map_some, Option.some.injEq, Prod.mk.injEq] at e
        obtain ⟨_, rfl⟩ := e
        exact fun x hx => List.mem_cons_of_mem _ (sf_sub r y.1 y.2 hs x hx)
theorem way_app {d t : List Int} (hd : ∀ x ∈ d, x ≠ 63) (h0 : d = [] ∨ d[0]? = some 47) (ht : Tl t) : wayP (d ++ t) = (bs P1 0 d && bs P2 0 (t.drop 1)) := by
  unfold wayP
  obtain ⟨e1, e2⟩ := tw_app hd ht
  rw [e1, e2]
  have : (decide (d = []) || decide (d[0]? = some 47)) = true := by
    rcases h0 with h | h <;> simp [h]
  rw [this, Bool.true_and]
theorem dw_head (l : List Int) : dw 47 l = [] ∨ (dw 47 l)[0]? = some 47 := by
  unfold dw
  induction l with
  | nil => exact .inl rfl
  | cons c r ih =>
    simp only [List.dropWhile_cons]
    by_cases e : c = 47
    · exact .inr (by simp [e])
    · simp only [e, ne_eq, not_false_eq_true, decide_true, if_true]
      exact ih
theorem any_app {nm : List Int → Bool} (hn : ∀ l, 93 ∈ l → l.getLast? ≠ some 93 → nm l = false) {b t : List Int} (hb : ∀ x ∈ b, x ≠ 63) (ht : Tl t) : anyP nm (b ++ t) = (bs P2 0 (t.drop 1) && webP nm b) := by
  unfold anyP webP
  obtain ⟨e1, e2⟩ := tw2_app hb ht
  rw [e1, e2, ← site_eq hn, way_app (d := dw 47 b) (fun x hx => hb x ((List.dropWhile_sublist _).subset hx)) (dw_head b) ht]
  cases siteP nm (tw 47 b) <;> cases bs P1 0 (dw 47 b) <;> cases bs P2 0 (t.drop 1) <;> rfl
theorem drop_app {X b t : List Int} (h : List.isPrefixOf X b = true) : (b ++ t).drop X.length = b.drop X.length ++ t := by
  rw [List.drop_append_of_le_length]
  exact (List.isPrefixOf_iff_prefix.1 h).length_le
theorem red_eq (l : List Int) : progRed l = refRed l := by
  obtain ⟨hl, hb, ht⟩ := base_split l
  unfold refRed
  generalize hbb : tw 63 l = b at *
  generalize htt : dw 63 l = t at *
  unfold progRed
  rw [hl, pre_app (by decide) ht, pre_app (by decide) ht]
  by_cases h1 : List.isPrefixOf HS b = true
  · rw [if_pos h1, if_pos h1, show (b ++ t).drop 8 = b.drop 8 ++ t from drop_app (X := HS) h1]
    exact any_app (fun l h h2 => host_no h h2) (fun x hx => hb x (List.mem_of_mem_drop hx)) ht
  · rw [if_neg h1, if_neg h1]
    by_cases h2 : List.isPrefixOf HP b = true
    · rw [if_pos h2, if_pos h2, show (b ++ t).drop 7 = b.drop 7 ++ t from drop_app (X := HP) h2]
      exact any_app (fun l h h2 => names_no h h2) (fun x hx => hb x (List.mem_of_mem_drop hx)) ht
    · rw [if_neg h2, if_neg h2, scheme_app ht, scheme_ref b true false (fun _ => rfl)]
      cases hs : sf b with
      | none => simp
      | some x =>
        obtain ⟨h, p⟩ := x
        simp only
        cases hp : privR true false h with
        | false => simp
        | true =>
          simp only [if_true, Option.map_some, Bool.true_and]
          unfold insideP
          rw [pre_app (by decide) ht, pre_app (by decide) ht]
          by_cases h47 : List.isPrefixOf [47] p = true
          · have hp0 : p[0]? = some 47 := by
              cases p with
              | nil => simp at h47
              | cons c r =>
                simp only [List.isPrefixOf, Bool.and_true, beq_iff_eq] at h47
                simp [← h47]
            rw [way_app (fun x hx => hb x (sf_sub b h p hs x hx)) (.inr hp0) ht, h47]
            cases List.isPrefixOf [47, 47] p <;> cases bs P1 0 p <;> cases bs P2 0 (t.drop 1) <;> rfl
          · have : List.isPrefixOf [47] p = false := Bool.eq_false_iff.2 h47
            rw [this]
            simp
end Go.Proofs.YtopfmcgmfnmikaaDoor.Y
