/- TermsRedirectSafe in plain words. No condition. -/
import Derived.Test.YtopfmcgmfnmikaaDoorYRedS
import Derived.Test.YtopfmcgmfnmikaaDoorYRedP
import Derived.Test.YtopfmcgmfnmikaaDoorXx7
import Derived.Test.YtopfmcgmfnmikaaDoorXx8
set_option linter.unusedSimpArgs false
namespace Go.Proofs.YtopfmcgmfnmikaaDoor.Y
open Go.RowKit Go.Proofs.YtopfmcgmfnmikaaDoorW.PrintWords Go.Proofs.YtopfmcgmfnmikaaDoorW.PrintLast Go.Proofs.YtopfmcgmfnmikaaDoor.X
def safeB (c : Int) : Bool := decide (32 < c ∧ c < 127 ∧ c ≠ 35 ∧ c ≠ 34 ∧ c ≠ 60 ∧ c ≠ 62 ∧ c ≠ 92)
def hostB (c : Int) : Bool := safeB c && decide (c ≠ 64)
theorem ok2_safe {c : Int} (h0 : 0 ≤ c) (h1 : c ≤ 255) (h : okB P2 c = true) : safeB c = true := by
  have key : ∀ n : Fin 256, okB P2 ((n.val : Nat) : Int) = true → safeB ((n.val : Nat) : Int) = true := by decide +kernel
  have := key ⟨c.toNat, by omega⟩
  rw [show ((c.toNat : Nat) : Int) = c by omega] at this
  exact this h
theorem ok1_safe {c : Int} (h0 : 0 ≤ c) (h1 : c ≤ 255) (h : okB P1 c = true) : safeB c = true := by
  have key : ∀ n : Fin 256, okB P1 ((n.val : Nat) : Int) = true → safeB ((n.val : Nat) : Int) = true := by decide +kernel
  have := key ⟨c.toNat, by omega⟩
  rw [show ((c.toNat : Nat) : Int) = c by omega] at this
  exact this h
theorem lc_host {c : Int} (h0 : 0 ≤ c) (h1 : c ≤ 255) (h : lcB c = true) : hostB c = true := by
  have key : ∀ n : Fin 256, lcB ((n.val : Nat) : Int) = true → hostB ((n.val : Nat) : Int) = true := by decide +kernel
  have := key ⟨c.toNat, by omega⟩
  rw [show ((c.toNat : Nat) : Int) = c by omega] at this
  exact this h
theorem v6_host {c : Int} (h0 : 0 ≤ c) (h1 : c ≤ 255) (h : v6B c = true) : hostB c = true := by
  have key : ∀ n : Fin 256, v6B ((n.val : Nat) : Int) = true → hostB ((n.val : Nat) : Int) = true := by decide +kernel
  have := key ⟨c.toNat, by omega⟩
  rw [show ((c.toNat : Nat) : Int) = c by omega] at this
  exact this h
theorem digit_host {c : Int} (h : digitB c = true) : hostB c = true := by
  simp only [digitB, decide_eq_true_eq] at h
  simp only [hostB, safeB, Bool.and_eq_true, decide_eq_true_eq]
  omega
theorem hexa_safe {c : Int} (h : hexaB c = true) : safeB c = true := by
  simp only [hexaB, decide_eq_true_eq] at h
  simp only [safeB, decide_eq_true_eq]
  omega
abbrev By (l : List Int) : Prop := ∀ x ∈ l, 0 ≤ x ∧ x ≤ 255
theorem By.tail {c : Int} {l : List Int} (h : By (c :: l)) : By l := fun x hx => h x (List.mem_cons_of_mem _ hx)
theorem bs_safe {m : ByteArray} (hm : ∀ c : Int, 0 ≤ c → c ≤ 255 → okB m c = true → safeB c = true) : ∀ (l : List Int) (k : Nat), By l → k ≤ 2 → bs m k l = true → ∀ x ∈ l, safeB x = true
  | [], _, _, _, _ => by simp
  | c :: r, k, hb, hk, h => by
    have hc := hb c (List.mem_cons_self ..)
    have ih := fun k' hk' h' => bs_safe hm r k' hb.tail hk' h'
    have h3 : k = 0 ∨ k = 1 ∨ k = 2 := by omega
    rcases h3 with rfl | rfl | rfl
    · by_cases ho : okB m c = true
      · rw [bs_ok ho] at h
        intro x hx
        rcases List.mem_cons.1 hx with rfl | hx
        · exact hm _ hc.1 hc.2 ho
        · exact ih 0 (by omega) h x hx
      · have ho : okB m c = false := Bool.eq_false_iff.2 ho
        by_cases h37 : c = 37
        · rw [bs_pct ho h37] at h
          intro x hx
          rcases List.mem_cons.1 hx with rfl | hx
          · rw [h37]; decide
          · exact ih 1 (by omega) h x hx
        · rw [bs_no ho h37] at h; cases h
    · rw [bs_one] at h
      by_cases ho : hexaB c = true
      · rw [if_pos ho] at h
        intro x hx
        rcases List.mem_cons.1 hx with rfl | hx
        · exact hexa_safe ho
        · exact ih 2 (by omega) h x hx
      · rw [if_neg ho] at h; cases h
    · rw [bs_two] at h
      by_cases ho : hexaB c = true
      · rw [if_pos ho] at h
        intro x hx
        rcases List.mem_cons.1 hx with rfl | hx
        · exact hexa_safe ho
        · exact ih 0 (by omega) h x hx
      · rw [if_neg ho] at h; cases h
theorem labels_host {l : List Int} (hb : By l) (h : (sp 46 l).all labelP = true) : ∀ x ∈ l, hostB x = true := by
  intro x hx
  by_cases h46 : x = 46
  · rw [h46]; decide
  · cases hl : lcB x with
    | true => exact lc_host (hb x hx).1 (hb x hx).2 hl
    | false => rw [labels_no hx h46 hl] at h; cases h
theorem host_host {l : List Int} (hb : By l) (h : hostP l = true) : ∀ x ∈ l, hostB x = true := by
  cases l with
  | nil => simp
  | cons c r =>
    simp only [hostP] at h
    by_cases e : c = 91
    · rw [if_pos e] at h
      simp only [Bool.and_eq_true, decide_eq_true_eq] at h
      obtain ⟨⟨h1, h2⟩, h3⟩ := h
      intro x hx
      rcases List.mem_cons.1 hx with rfl | hx
      · rw [e]; decide
      · have hr : r ≠ [] := by rintro rfl; cases hx
        have e2 : r = r.dropLast ++ [93] := by
          have := List.dropLast_concat_getLast hr
          have e3 : r.getLast hr = 93 := by
            rw [List.getLast?_eq_some_getLast hr] at h1
            exact Option.some.inj h1
          rw [e3] at this
          exact this.symm
        rw [e2] at hx
        rcases List.mem_append.1 hx with hx | hx
        · have hm : x ∈ r := (List.dropLast_sublist r).subset hx
          exact v6_host (hb x (List.mem_cons_of_mem _ hm)).1 (hb x (List.mem_cons_of_mem _ hm)).2 (List.all_eq_true.1 h3 x hx)
        · rw [List.mem_singleton.1 hx]; decide
    · rw [if_neg e] at h
      exact labels_host hb h
theorem names_host {l : List Int} (h : namesP l = true) : ∀ x ∈ l, hostB x = true := by
  unfold namesP at h
  rcases of_decide_eq_true h with rfl | rfl | rfl
  · decide
  · decide
  · decide
theorem port_host {p : List Int} (h : portP p = true) : ∀ x ∈ p, hostB x = true := by
  unfold portP at h
  simp only [Bool.and_eq_true] at h
  exact fun x hx => digit_host (List.all_eq_true.1 h.1.2 x hx)
theorem site_host {nm : List Int → Bool} (hn : ∀ l, By l → nm l = true → ∀ x ∈ l, hostB x = true) {l : List Int} (hb : By l) (h : progSite nm l = true) : ∀ x ∈ l, hostB x = true := by
  unfold progSite at h
  cases hs : lastSplit 58 l with
  | none => rw [hs] at h; exact hn l hb h
  | some y =>
    obtain ⟨a, p⟩ := y
    rw [hs] at h
    simp only at h
    by_cases e : p.getLast? = some 93
    · rw [if_pos e] at h; exact hn l hb h
    · rw [if_neg e] at h
      simp only [Bool.and_eq_true] at h
      obtain ⟨hl, _⟩ := lastSplit_some 58 l a p hs
      subst hl
      intro x hx
      rcases List.mem_append.1 hx with hx | hx
      · exact hn a (fun y hy => hb y (List.mem_append_left _ hy)) h.2 x hx
      · rcases List.mem_cons.1 hx with rfl | hx
        · decide
        · exact port_host h.1 x hx
theorem host_safe {c : Int} (h : hostB c = true) : safeB c = true := by
  simp only [hostB, Bool.and_eq_true] at h
  exact h.1
theorem cut_at (c : Int) (l : List Int) : l = tw c l ++ dw c l := (List.takeWhile_append_dropWhile ..).symm
theorem cut_at2 (l : List Int) : l = tw2 l ++ dw2 l := (List.takeWhile_append_dropWhile ..).symm
theorem dw63_head (l : List Int) : dw 63 l = [] ∨ dw 63 l = 63 :: (dw 63 l).drop 1 := by
  obtain ⟨_, _, h⟩ := base_split l
  rcases h with h | ⟨q, h⟩
  · exact .inl h
  · exact .inr (by rw [h]; rfl)
theorem way_safe {l : List Int} (hb : By l) (h : wayP l = true) : ∀ x ∈ l, safeB x = true := by
  unfold wayP at h
  simp only [Bool.and_eq_true] at h
  obtain ⟨⟨_, h1⟩, h2⟩ := h
  intro x hx
  have e := cut_at 63 l
  rw [e] at hx
  rcases List.mem_append.1 hx with hx | hx
  · exact bs_safe (fun c => ok1_safe) _ 0 (fun y hy => hb y ((List.takeWhile_sublist _).subset hy)) (by omega) h1 x hx
  · rcases dw63_head l with h3 | h3
    · rw [h3] at hx; cases hx
    · rw [h3] at hx
      rcases List.mem_cons.1 hx with rfl | hx
      · decide
      · exact bs_safe (fun c => ok2_safe) _ 0 (fun y hy => hb y ((List.dropWhile_sublist _).subset (List.mem_of_mem_drop hy))) (by omega) h2 x hx
theorem any_safe {nm : List Int → Bool} (hn : ∀ l, By l → nm l = true → ∀ x ∈ l, hostB x = true) {l : List Int} (hb : By l) (h : anyP nm l = true) : (∀ x ∈ l, safeB x = true) ∧ ∀ x ∈ tw2 l, hostB x = true := by
  unfold anyP at h
  simp only [Bool.and_eq_true] at h
  have h1 := site_host hn (fun y hy => hb y ((List.takeWhile_sublist _).subset hy)) h.1
  refine ⟨fun x hx => ?_, h1⟩
  rw [cut_at2 l] at hx
  rcases List.mem_append.1 hx with hx | hx
  · exact host_safe (h1 x hx)
  · exact way_safe (fun y hy => hb y ((List.dropWhile_sublist _).subset hy)) h.2 x hx
theorem scheme_safe : ∀ (l : List Int) (f d : Bool) (r : List Int), schemeP f d l = some r → (∀ x ∈ r, safeB x = true) → ∀ x ∈ l, safeB x = true
  | [], f, d, r, h, _ => by simp [schemeP] at h
  | c :: t, f, d, r, h, hr => by
    have ih := fun f d h => scheme_safe t f d r h hr
    have hc : ∀ {p : Prop}, (safeB c = true → p) → safeB c = true → p := fun f h => f h
    simp only [schemeP] at h
    by_cases h1 : 97 ≤ c ∧ c ≤ 122
    · rw [if_pos h1] at h
      intro x hx
      rcases List.mem_cons.1 hx with rfl | hx
      · simp only [safeB, decide_eq_true_eq]; omega
      · exact ih _ _ h x hx
    · rw [if_neg h1] at h
      by_cases h2 : f = true
      · rw [if_pos h2] at h; cases h
      · rw [if_neg h2] at h
        by_cases h3 : c = 58
        · rw [if_pos h3] at h
          by_cases h4 : d = true
          · rw [if_pos h4] at h
            rw [Option.some.inj h]
            intro x hx
            rcases List.mem_cons.1 hx with rfl | hx
            · rw [h3]; decide
            · exact hr x hx
          · rw [if_neg h4] at h; cases h
        · rw [if_neg h3] at h
          by_cases h4 : c = 46
          · rw [if_pos h4] at h
            intro x hx
            rcases List.mem_cons.1 hx with rfl | hx
            · rw [h4]; decide
            · exact ih _ _ h x hx
          · rw [if_neg h4] at h
            by_cases h5 : digitB c = true ∨ c = 43 ∨ c = 45
            · rw [if_pos h5] at h
              intro x hx
              rcases List.mem_cons.1 hx with rfl | hx
              · rcases h5 with h5 | h5 | h5
                · exact host_safe (digit_host h5)
                · rw [h5]; decide
                · rw [h5]; decide
              · exact ih _ _ h x hx
            · rw [if_neg h5] at h; cases h
theorem pre_split {X l : List Int} (h : List.isPrefixOf X l = true) : l = X ++ l.drop X.length := by
  obtain ⟨t, rfl⟩ := List.isPrefixOf_iff_prefix.1 h
  simp
theorem scheme_sub : ∀ (l : List Int) (f d : Bool) (r : List Int), schemeP f d l = some r → ∀ x ∈ r, x ∈ l
  | [], f, d, r, h => by simp [schemeP] at h
  | c :: t, f, d, r, h => by
    have ih := fun f d h => scheme_sub t f d r h
    simp only [schemeP] at h
    repeat' split at h
    all_goals first
      | cases h; done
      | exact fun x hx => List.mem_cons_of_mem _ (ih _ _ h x hx)
      | (rw [Option.some.inj h]; exact fun x hx => List.mem_cons_of_mem _ hx)
theorem red_safe {l : List Int} (hb : By l) (h : progRed l = true) : ∀ x ∈ l, safeB x = true := by
  unfold progRed at h
  by_cases h1 : List.isPrefixOf HS l = true
  · rw [if_pos h1] at h
    have h2 := (any_safe (fun l h => host_host h) (fun y hy => hb y (List.mem_of_mem_drop hy)) h).1
    intro x hx
    rw [pre_split h1] at hx
    rcases List.mem_append.1 hx with hx | hx
    · exact (by decide : ∀ y ∈ HS, safeB y = true) x hx
    · exact h2 x hx
  · rw [if_neg h1] at h
    by_cases h1 : List.isPrefixOf HP l = true
    · rw [if_pos h1] at h
      have h2 := (any_safe (fun l _ => names_host) (fun y hy => hb y (List.mem_of_mem_drop hy)) h).1
      intro x hx
      rw [pre_split h1] at hx
      rcases List.mem_append.1 hx with hx | hx
      · exact (by decide : ∀ y ∈ HP, safeB y = true) x hx
      · exact h2 x hx
    · rw [if_neg h1] at h
      cases hs : schemeP true false l with
      | none => rw [hs] at h; cases h
      | some r =>
        rw [hs] at h
        simp only [insideP, Bool.and_eq_true] at h
        exact scheme_safe l _ _ r hs (way_safe (fun y hy => hb y (scheme_sub l _ _ r hs y hy)) h.2)
/-- https: no user's name ahead of the host -/
theorem red_https {l : List Int} (hb : By l) (h : progRed l = true) (h1 : List.isPrefixOf HS l = true) : ∀ x ∈ tw2 (l.drop 8), x ≠ 64 := by
  unfold progRed at h
  rw [if_pos h1] at h
  have h2 := (any_safe (fun l h => host_host h) (fun y hy => hb y (List.mem_of_mem_drop hy)) h).2
  intro x hx
  have := h2 x hx
  simp only [hostB, Bool.and_eq_true, decide_eq_true_eq] at this
  exact this.2
def nearP (l : List Int) : Prop := ∃ n t : List Int, (n = [108, 111, 99, 97, 108, 104, 111, 115, 116] ∨ n = [49, 50, 55, 46, 48, 46, 48, 46, 49] ∨ n = [91, 58, 58, 49, 93]) ∧ l = n ++ t ∧ (t = [] ∨ t[0]? = some 58 ∨ t[0]? = some 47 ∨ t[0]? = some 63)
theorem dw2_head (l : List Int) : dw2 l = [] ∨ (dw2 l)[0]? = some 47 ∨ (dw2 l)[0]? = some 63 := by
  unfold dw2
  induction l with
  | nil => exact .inl rfl
  | cons c r ih =>
    simp only [List.dropWhile_cons]
    by_cases e : c = 47
    · exact .inr (.inl (by simp [e]))
    · by_cases e2 : c = 63
      · exact .inr (.inr (by simp [e2]))
      · simp only [e, e2, ne_eq, not_false_eq_true, and_self, decide_true, if_true]
        exact ih
theorem red_http {l : List Int} (h : progRed l = true) (h1 : List.isPrefixOf HP l = true) : nearP (l.drop 7) := by
  have h0 : ¬ List.isPrefixOf HS l = true := by
    rw [pre_split h1]
    simp [List.isPrefixOf]
  unfold progRed at h
  rw [if_neg h0, if_pos h1] at h
  unfold anyP at h
  simp only [Bool.and_eq_true] at h
  replace h := h.1
  generalize l.drop 7 = q at *
  have e := cut_at2 q
  have hd := dw2_head q
  generalize dw2 q = t at *
  generalize tw2 q = a at *
  unfold progSite at h
  have key : ∀ n u : List Int, namesP n = true → a = n ++ u → (u = [] ∨ u[0]? = some 58) → nearP q := by
    intro n u hn ha hu
    unfold namesP at hn
    refine ⟨n, u ++ t, of_decide_eq_true hn, by rw [e, ha, List.append_assoc], ?_⟩
    rcases hu with rfl | hu
    · rcases hd with h | h | h
      · exact .inl h
      · exact .inr (.inr (.inl h))
      · exact .inr (.inr (.inr h))
    · cases u with
      | nil => cases hu
      | cons c r => exact .inr (.inl hu)
  cases hs : lastSplit 58 a with
  | none => rw [hs] at h; exact key a [] h (by simp) (.inl rfl)
  | some y =>
    obtain ⟨b, p⟩ := y
    rw [hs] at h
    simp only at h
    by_cases e2 : p.getLast? = some 93
    · rw [if_pos e2] at h; exact key a [] h (by simp) (.inl rfl)
    · rw [if_neg e2] at h
      simp only [Bool.and_eq_true] at h
      exact key b (58 :: p) h.2 (lastSplit_some 58 a b p hs).1 (.inr rfl)
/-- the law's way through a scheme -/
def pvt : Bool → List Int → Bool
  | _, [] => false
  | _, [_] => false
  | dot, c :: x :: r => if c = 58 then (dot && decide (x = 47) && decide (r[0]? ≠ some 47)) else pvt (dot || decide (c = 46)) (x :: r)
theorem pvt_skip {c : Int} {r : List Int} (d : Bool) (hc : c ≠ 58) (h : pvt (d || decide (c = 46)) r = true) : pvt d (c :: r) = true := by
  cases r with
  | nil => cases h
  | cons x t => simp only [pvt, if_neg hc]; exact h
theorem scheme_pvt : ∀ (l : List Int) (f d : Bool) (r : List Int), schemeP f d l = some r → insideP r = true → pvt d l = true
  | [], f, d, r, h, _ => by simp [schemeP] at h
  | c :: t, f, d, r, h, hr => by
    have ih := fun f d h => scheme_pvt t f d r h hr
    simp only [schemeP] at h
    by_cases h1 : 97 ≤ c ∧ c ≤ 122
    · rw [if_pos h1] at h
      exact pvt_skip d (by omega) (by rw [decide_eq_false (by omega), Bool.or_false]; exact ih _ _ h)
    · rw [if_neg h1] at h
      by_cases h2 : f = true
      · rw [if_pos h2] at h; cases h
      · rw [if_neg h2] at h
        by_cases h3 : c = 58
        · rw [if_pos h3] at h
          by_cases h4 : d = true
          · rw [if_pos h4] at h
            obtain rfl := Option.some.inj h
            simp only [insideP, Bool.and_eq_true] at hr
            obtain ⟨⟨e1, e2⟩, _⟩ := hr
            cases t with
            | nil => cases e1
            | cons x u =>
              simp only [pvt, if_pos h3, h4, Bool.true_and]
              simp only [List.isPrefixOf, Bool.and_true, beq_iff_eq] at e1
              subst e1
              cases u with
              | nil => rfl
              | cons y v =>
                have : y ≠ 47 := by
                  rintro rfl
                  simp [List.isPrefixOf] at e2
                simp [this]
          · rw [if_neg h4] at h; cases h
        · rw [if_neg h3] at h
          by_cases h4 : c = 46
          · rw [if_pos h4] at h
            exact pvt_skip d h3 (by rw [decide_eq_true h4, Bool.or_true]; exact ih _ _ h)
          · rw [if_neg h4] at h
            by_cases h5 : digitB c = true ∨ c = 43 ∨ c = 45
            · rw [if_pos h5] at h
              exact pvt_skip d h3 (by rw [decide_eq_false h4, Bool.or_false]; exact ih _ _ h)
            · rw [if_neg h5] at h; cases h
theorem red_other {l : List Int} (h : progRed l = true) (h1 : ¬ List.isPrefixOf HS l = true) (h2 : ¬ List.isPrefixOf HP l = true) : pvt false l = true := by
  unfold progRed at h
  rw [if_neg h1, if_neg h2] at h
  cases hs : schemeP true false l with
  | none => rw [hs] at h; cases h
  | some r => rw [hs] at h; exact scheme_pvt l _ _ r hs h
theorem red_ne {l : List Int} (h : progRed l = true) : l ≠ [] := by
  rintro rfl
  exact absurd h (by decide)
end Go.Proofs.YtopfmcgmfnmikaaDoor.Y
-- IMPORTS
set_option linter.unusedSimpArgs false
set_option linter.unusedVariables false
namespace Go.Proofs.YtopfmcgmfnmikaaDoor.Y
open Go.RowKit Go.Proofs.YtopfmcgmfnmikaaDoorW.PrintWords Go.Proofs.YtopfmcgmfnmikaaDoorW.PrintLast Go.Proofs.YtopfmcgmfnmikaaDoor.X
theorem hd (a p : ByteArray) (hs : a.size ≤ 1048576) : usherlaw9_head.f a p = some (List.isPrefixOf (bytesOf p) (bytesOf a)) := by
  unfold usherlaw9_head.f
  by_cases h : (a.size : Int) ≥ (p.size : Int)
  · rw [if_pos h, if_pos (by omega), if_pos (by omega)]
    congr 1
    rw [Int.toNat_natCast, Bool.eq_iff_iff, beq_iff_eq, toList_inj, ← take_pre, bytesOf_length]
    constructor
    · intro e; rw [← e, bytesOf_extract, List.drop_zero, Nat.sub_zero]
      rw [e]
    · intro e; apply bytesOf_inj; rw [bytesOf_extract, List.drop_zero, Nat.sub_zero, e]
  · rw [if_neg h]
    congr 1
    symm
    rw [Bool.eq_false_iff]
    intro h2
    have := (List.isPrefixOf_iff_prefix.1 h2).length_le
    rw [bytesOf_length, bytesOf_length] at this
    omega
theorem ends_is (s : ByteArray) (n t : List Int) (m : Int) (hq : bytesOf s = n ++ t) (hm : m = n.length) (ht : t = [] ∨ t[0]? = some 58 ∨ t[0]? = some 47 ∨ t[0]? = some 63) : usherlaw9_ends.f s m = some true := by
  have hl : s.size = n.length + t.length := by rw [← bytesOf_length, hq, List.length_append]
  unfold usherlaw9_ends.f
  cases t with
  | nil => rw [if_pos (by simp only [List.length_nil] at hl; omega)]
  | cons c r =>
    have hlt : m < s.size := by simp only [List.length_cons] at hl; omega
    rw [if_neg (by simp only [List.length_cons] at hl; omega), if_pos (by omega), if_pos hlt]
    have h0 := bt_get s (i := m) (by omega) hlt
    rw [hq, hm, Int.toNat_natCast, List.getElem?_append_right (Nat.le_refl _), Nat.sub_self, ← hm] at h0
    rw [h0] at ht
    simp only [reduceCtorEq, Option.some.injEq, false_or] at ht
    rcases ht with h | h | h
    · rw [if_pos h]
    · rw [if_neg (by omega), if_pos h]
    · rw [if_neg (by omega), if_neg (by omega), h]; rfl
theorem near_ev (s : ByteArray) (h : nearP (bytesOf s)) (hs : s.size ≤ 1048576) : (∀ (g : Bool), Ev (fun _ : Nat => (usherlaw9_head.f s (⟨#[108, 111, 99, 97, 108, 104, 111, 115, 116]⟩ : ByteArray)).bind fun t210 => (if t210 = true then ((usherlaw9_ends.f s 9).bind fun t211 => (if t211 = true then (some true) else ((usherlaw9_head.f s (⟨#[49, 50, 55, 46, 48, 46, 48, 46, 49]⟩ : ByteArray)).bind fun t212 => (if t212 = true then ((usherlaw9_ends.f s 9).bind fun t213 => (if t213 = true then (some true) else ((usherlaw9_head.f s (⟨#[91, 58, 58, 49, 93]⟩ : ByteArray)).bind fun t214 => (if t214 = true then ((usherlaw9_ends.f s 5).bind fun t215 => (some t215)) else (some false))))) else ((usherlaw9_head.f s (⟨#[91, 58, 58, 49, 93]⟩ : ByteArray)).bind fun t216 => (if t216 = true then ((usherlaw9_ends.f s 5).bind fun t217 => (some t217)) else (some false))))))) else ((usherlaw9_head.f s (⟨#[49, 50, 55, 46, 48, 46, 48, 46, 49]⟩ : ByteArray)).bind fun t218 => (if t218 = true then ((usherlaw9_ends.f s 9).bind fun t219 => (if t219 = true then (some true) else ((usherlaw9_head.f s (⟨#[91, 58, 58, 49, 93]⟩ : ByteArray)).bind fun t220 => (if t220 = true then ((usherlaw9_ends.f s 5).bind fun t221 => (some t221)) else (some false))))) else ((usherlaw9_head.f s (⟨#[91, 58, 58, 49, 93]⟩ : ByteArray)).bind fun t222 => (if t222 = true then ((usherlaw9_ends.f s 5).bind fun t223 => (some t223)) else (some false))))))) true) := by
  intro _
  obtain ⟨n, t, hn, hq, ht⟩ := h
  have e1 : bytesOf (⟨#[108, 111, 99, 97, 108, 104, 111, 115, 116]⟩ : ByteArray) = [108, 111, 99, 97, 108, 104, 111, 115, 116] := rfl
  have e2 : bytesOf (⟨#[49, 50, 55, 46, 48, 46, 48, 46, 49]⟩ : ByteArray) = [49, 50, 55, 46, 48, 46, 48, 46, 49] := rfl
  have e3 : bytesOf (⟨#[91, 58, 58, 49, 93]⟩ : ByteArray) = [91, 58, 58, 49, 93] := rfl
  refine Ev.of_eq fun _ => ?_
  rw [hd _ _ hs, hd _ _ hs, hd _ _ hs, e1, e2, e3]
  rcases hn with rfl | rfl | rfl
  · have h1 := ends_is s _ t 9 hq rfl ht
    rw [hq]
    have k1 : List.isPrefixOf [108, 111, 99, 97, 108, 104, 111, 115, 116] ([108, 111, 99, 97, 108, 104, 111, 115, 116] ++ t) = true := by simp [List.isPrefixOf]
    rw [k1]
    simp only [Option.bind_some, if_true, h1]
  · have h1 := ends_is s _ t 9 hq rfl ht
    rw [hq]
    have k1 : List.isPrefixOf [108, 111, 99, 97, 108, 104, 111, 115, 116] ([49, 50, 55, 46, 48, 46, 48, 46, 49] ++ t) = false := by simp [List.isPrefixOf]
    have k2 : List.isPrefixOf [49, 50, 55, 46, 48, 46, 48, 46, 49] ([49, 50, 55, 46, 48, 46, 48, 46, 49] ++ t) = true := by simp [List.isPrefixOf]
    rw [k1, k2]
    simp only [Option.bind_some, if_true, h1, Bool.false_eq_true, if_false]
  · have h1 := ends_is s _ t 5 hq rfl ht
    rw [hq]
    have k1 : List.isPrefixOf [108, 111, 99, 97, 108, 104, 111, 115, 116] ([91, 58, 58, 49, 93] ++ t) = false := by simp [List.isPrefixOf]
    have k2 : List.isPrefixOf [49, 50, 55, 46, 48, 46, 48, 46, 49] ([91, 58, 58, 49, 93] ++ t) = false := by simp [List.isPrefixOf]
    have k3 : List.isPrefixOf [91, 58, 58, 49, 93] ([91, 58, 58, 49, 93] ++ t) = true := by simp [List.isPrefixOf]
    rw [k1, k2, k3]
    simp only [Option.bind_some, if_true, h1, Bool.false_eq_true, if_false]
theorem rs_l0 (s : ByteArray) (hs : s.size ≤ 512) (hb : ∀ x ∈ bytesOf s, safeB x = true) (hT : Ev (fun k => usherlaw9_TermsRedirectSafe.j2 k s (s.toList == ([] : List UInt8))) true) (d : Nat) : ∀ i : Int, 0 ≤ i → (s.size : Int) - i = d → Ev (fun k => usherlaw9_TermsRedirectSafe.l0 k s i) true := by
  induction d with
  | zero =>
    intro i h0 h1
    refine Ev.succ ?_
    simp only [usherlaw9_TermsRedirectSafe.l0]
    exact Ev.neg (by omega) (Ev.neg (by omega) hT)
  | succ d ih =>
    intro i h0 h1
    refine Ev.succ ?_
    simp only [usherlaw9_TermsRedirectSafe.l0]
    have hc := hb (bt s i) (List.mem_of_getElem? (bt_get s h0 (by omega)))
    simp only [safeB, decide_eq_true_eq] at hc
    rw [wr (x := i + 1) (by omega) (by omega)]
    exact Ev.pos (by omega) (Ev.pos h0 (Ev.neg (by omega) (Ev.neg (by omega) (Ev.neg (by omega) (Ev.neg (by omega) (Ev.neg (by omega) (Ev.neg (by omega) (Ev.neg (by omega) (ih (i + 1) (by omega) (by omega))))))))))
theorem rs_l1 (s : ByteArray) (hs : s.size ≤ 512) (d : Nat) : ∀ i : Int, 0 ≤ i → (s.size : Int) - i = d → (∀ x ∈ tw2 ((bytesOf s).drop i.toNat), x ≠ 64) → Ev (fun k => usherlaw9_TermsRedirectSafe.l1 k s i) true := by
  induction d with
  | zero =>
    intro i h0 h1 _
    refine Ev.succ ?_
    simp only [usherlaw9_TermsRedirectSafe.l1]
    refine Ev.neg (by omega) (Ev.succ ?_)
    simp only [usherlaw9_TermsRedirectSafe.j4]
    exact Ev.neg (by decide) (Ev.pure _)
  | succ d ih =>
    intro i h0 h1 hx
    refine Ev.succ ?_
    simp only [usherlaw9_TermsRedirectSafe.l1]
    refine Ev.pos (by omega) (Ev.pos h0 (Ev.ite (fun e => Ev.succ ?_) (fun e => Ev.succ ?_)))
    · simp only [usherlaw9_TermsRedirectSafe.j4]
      exact Ev.neg (by decide) (Ev.pure _)
    · simp only [usherlaw9_TermsRedirectSafe.j4]
      refine Ev.ite (fun e2 => ?_) (fun _ => Ev.pure _)
      rw [bne_iff_ne] at e2
      rw [drop_at s h0 (by omega)] at hx
      have e3 : tw2 (bt s i :: (bytesOf s).drop (i + 1).toNat) = bt s i :: tw2 ((bytesOf s).drop (i + 1).toNat) := by
        unfold tw2
        rw [List.takeWhile_cons, if_pos (by simp [e, e2])]
      rw [e3] at hx
      rw [wr (x := i + 1) (by omega) (by omega)]
      exact Ev.pos h0 (Ev.pos (by omega) (Ev.neg (hx _ (List.mem_cons_self ..)) (ih (i + 1) (by omega) (by omega) (fun x h => hx x (List.mem_cons_of_mem _ h)))))
theorem rs_l2 (s : ByteArray) (hs : s.size ≤ 512) (d : Nat) : ∀ (i : Int) (b : Bool), 0 ≤ i → (s.size : Int) - i = d → Ev (fun k => usherlaw9_TermsRedirectSafe.l2 k s b i) (pvt b ((bytesOf s).drop i.toNat)) := by
  induction d with
  | zero =>
    intro i b h0 h1
    rw [drop_end s (by omega)]
    refine Ev.succ ?_
    simp only [usherlaw9_TermsRedirectSafe.l2]
    rw [wr (x := i + 1) (by omega) (by omega)]
    exact Ev.neg (by omega) (Ev.pure _)
  | succ d ih =>
    intro i b h0 h1
    rw [drop_at s h0 (by omega)]
    refine Ev.succ ?_
    simp only [usherlaw9_TermsRedirectSafe.l2]
    rw [wr (x := i + 1) (by omega) (by omega), wr (x := i + 2) (by omega) (by omega)]
    by_cases h2 : i + 1 < (s.size : Int)
    · refine Ev.pos h2 (Ev.pos h0 (Ev.pos (by omega) ?_))
      have ih2 := fun b => ih (i + 1) b (by omega) (by omega)
      rw [drop_at s (i := i + 1) (by omega) h2] at ih2 ⊢
      rw [show i + 1 + 1 = i + 2 by omega] at ih2 ⊢
      simp only [pvt]
      refine Ev.ite (fun e => ?_) (fun e => ?_)
      · rw [if_pos e]
        cases b with
        | false => exact Ev.neg (by decide) (Ev.pure _)
        | true =>
          refine Ev.pos rfl (Ev.pos (by omega) (Ev.ite (fun e2 => ?_) (fun e2 => ?_)))
          · rw [decide_eq_true e2]
            refine Ev.ite (fun h3 => ?_) (fun h3 => ?_)
            · rw [drop_end s (by omega)]
              exact Ev.pure _
            · rw [drop_at s (i := i + 2) (by omega) (by omega)]
              refine Ev.pos (by omega) (Ev.pos (by omega) (Ev.of_eq fun _ => ?_))
              by_cases e4 : bt s (i + 2) = 47
              · simp [e4]
              · simp [e4]
          · rw [decide_eq_false e2]
            exact Ev.pure _
      · rw [if_neg e]
        cases b with
        | true => exact Ev.pos rfl (ih2 true)
        | false =>
          refine Ev.neg (by decide) ?_
          rw [Bool.false_or, show decide (bt s i = 46) = (bt s i == 46) from rfl]
          exact ih2 _
    · rw [drop_end s (i := i + 1) (by omega)]
      exact Ev.neg h2 (Ev.pure _)
theorem redirectSafe (s : ByteArray) {F G : Prop} (_ : F) (_ : G) : ∃ k, usherlaw9_TermsRedirectSafe.f k s = some true := by
  refine Ev.at_ ?_
  simp only [usherlaw9_TermsRedirectSafe.f]
  have c1 := red_is (⟨#[104, 116, 116, 112, 115, 58, 47, 47, 97, 112, 112, 46, 101, 120, 97, 109, 112, 108, 101, 47, 99, 98]⟩ : ByteArray)
  have c2 := red_is (⟨#[104, 116, 116, 112, 58, 47, 47, 108, 111, 99, 97, 108, 104, 111, 115, 116, 58, 56, 48, 56, 48, 47, 99, 98]⟩ : ByteArray)
  have c3 := red_is (⟨#[99, 111, 109, 46, 101, 120, 97, 109, 112, 108, 101, 46, 97, 112, 112, 58, 47, 99, 98]⟩ : ByteArray)
  rw [show (decide ((⟨#[104, 116, 116, 112, 115, 58, 47, 47, 97, 112, 112, 46, 101, 120, 97, 109, 112, 108, 101, 47, 99, 98]⟩ : ByteArray).size ≤ 512) && progRed (bytesOf (⟨#[104, 116, 116, 112, 115, 58, 47, 47, 97, 112, 112, 46, 101, 120, 97, 109, 112, 108, 101, 47, 99, 98]⟩ : ByteArray))) = true by decide +kernel] at c1
  rw [show (decide ((⟨#[104, 116, 116, 112, 58, 47, 47, 108, 111, 99, 97, 108, 104, 111, 115, 116, 58, 56, 48, 56, 48, 47, 99, 98]⟩ : ByteArray).size ≤ 512) && progRed (bytesOf (⟨#[104, 116, 116, 112, 58, 47, 47, 108, 111, 99, 97, 108, 104, 111, 115, 116, 58, 56, 48, 56, 48, 47, 99, 98]⟩ : ByteArray))) = true by decide +kernel] at c2
  rw [show (decide ((⟨#[99, 111, 109, 46, 101, 120, 97, 109, 112, 108, 101, 46, 97, 112, 112, 58, 47, 99, 98]⟩ : ByteArray).size ≤ 512) && progRed (bytesOf (⟨#[99, 111, 109, 46, 101, 120, 97, 109, 112, 108, 101, 46, 97, 112, 112, 58, 47, 99, 98]⟩ : ByteArray))) = true by decide +kernel] at c3
  refine Ev.bind c1 (Ev.pos rfl (Ev.bind c2 (Ev.pos rfl (Ev.bind c3 (Ev.succ ?_)))))
  simp only [usherlaw9_TermsRedirectSafe.j0]
  refine Ev.neg (by decide) (Ev.bind (red_is s) (Ev.ite (fun h => ?_) (fun _ => Ev.pure _)))
  simp only [Bool.and_eq_true, decide_eq_true_eq] at h
  obtain ⟨hs, hp⟩ := h
  refine rs_l0 s hs (red_safe (bytesOf_range s) hp) ?_ s.size 0 (Int.le_refl _) (by omega)
  refine Ev.succ ?_
  simp only [usherlaw9_TermsRedirectSafe.j2]
  have hne := red_ne hp
  have e1 : bytesOf (⟨#[104, 116, 116, 112, 58, 47, 47]⟩ : ByteArray) = HP := rfl
  have e2 : bytesOf (⟨#[104, 116, 116, 112, 115, 58, 47, 47]⟩ : ByteArray) = HS := rfl
  refine Ev.neg (by rw [beq_iff_eq, empty_bytes]; exact hne) (Ev.bind (Ev.of_eq fun _ => hd s _ (by omega)) ?_)
  rw [e1]
  refine Ev.ite (fun h1 => ?_) (fun h1 => ?_)
  · have h7 : 7 ≤ (s.size : Int) := by
      have := (List.isPrefixOf_iff_prefix.1 h1).length_le
      rw [bytesOf_length] at this
      have h8 : HP.length = 7 := rfl
      omega
    refine Ev.pos h7 (near_ev _ ?_ (by rw [ByteArray.size_extract]; omega) true)
    rw [bytesOf_extract, List.take_of_length_le (by rw [List.length_drop, bytesOf_length]; omega)]
    exact red_http hp h1
  · refine Ev.bind (Ev.of_eq fun _ => hd s _ (by omega)) ?_
    rw [e2]
    refine Ev.ite (fun h2 => ?_) (fun h2 => ?_)
    · have h8 : 8 ≤ (s.size : Int) := by
        have := (List.isPrefixOf_iff_prefix.1 h2).length_le
        rw [bytesOf_length] at this
        have h8 : HS.length = 8 := rfl
        omega
      exact rs_l1 s hs (s.size - 8) 8 (by omega) (by omega) (red_https (bytesOf_range s) hp h2)
    · have := rs_l2 s hs s.size 0 false (Int.le_refl _) (by omega)
      rw [Int.toNat_zero, List.drop_zero, red_other hp h2 h1] at this
      exact this
end Go.Proofs.YtopfmcgmfnmikaaDoor.Y
