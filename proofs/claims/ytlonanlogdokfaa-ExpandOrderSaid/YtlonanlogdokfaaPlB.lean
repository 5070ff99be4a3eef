/- Plain laws of fires: a rule that fires at all fires in any nine years in which it lasts; the last fires ahead of a year. -/
import Derived.Test.YtlonanlogdokfaaPlA
import Derived.Test.YtlonanlogdokfaaS6
namespace Go.Proofs.Ytlonanlogdokfaa.S
open Go.RowKit Go.Proofs.Ytlonanlogdokfaa.Facts Go.Proofs.Ytlonanlogdokfaa.Cal
open Go.Proofs.YtlonanlogdokfaaW.PrintWords Go.Proofs.YtlonanlogdokfaaW.PrintLast Go.Proofs.YtlonanlogdokfaaW.PrintMore
set_option linter.unusedVariables false
set_option linter.unusedSimpArgs false

theorem dim_two (y y' m : Int) (h : m ≠ 2) : dim y m = dim y' m := by
  unfold dim
  rw [if_neg h, if_neg h]
theorem ok_window (d : S38) (m x0 a : Int) (h : okD d x0 m = true) (ha : 1 ≤ a) (hb : a + 8 ≤ 9999) : ∃ x, a ≤ x ∧ x ≤ a + 8 ∧ okD d x m = true := by
  unfold okD at *
  rw [Bool.and_eq_true] at h
  obtain ⟨hr, hv⟩ := h
  obtain ⟨v1, v2, v3, v4, v5, v6⟩ := (vld_iff _ _ _).1 hv
  have key : ∃ x, a ≤ x ∧ x ≤ a + 8 ∧ 1 ≤ atD d x m ∧ atD d x m ≤ dim x m := by
    unfold atD at *
    by_cases h1 : d.f0 = 1
    · refine ⟨a, by omega, by omega, ?_, ?_⟩ <;> rw [if_pos h1]
      · have := dim_bd a m v3 v4; omega
      · exact Int.le_refl _
    · rw [if_neg h1] at v5 v6
      simp only [if_neg h1]
      by_cases h2 : m = 2
      · obtain ⟨c, hc1, hc2, hc3⟩ : ∃ c, a ≤ c ∧ c ≤ a + 8 ∧ lp c = true := by
          by_cases h4 : (a + (-a) % 4) % 100 ≠ 0 ∨ (a + (-a) % 4) % 400 = 0
          · exact ⟨a + (-a) % 4, by omega, by omega, (lp_iff _).2 ⟨by omega, h4⟩⟩
          · exact ⟨a + (-a) % 4 + 4, by omega, by omega, (lp_iff _).2 ⟨by omega, .inl (by omega)⟩⟩
        refine ⟨c, hc1, hc2, v5, Int.le_trans v6 ?_⟩
        subst h2
        have e1 : ∀ y, dim y 2 = 28 + li y := fun y => by unfold dim; rw [if_pos rfl]
        have e2 : li c = 1 := by rw [li_of hc3, if_pos rfl]
        have e3 := li_01 x0
        rw [e1, e1]
        omega
      · exact ⟨a, by omega, by omega, v5, by rw [dim_two a x0 m h2]; exact v6⟩
  obtain ⟨x, h1, h2, h3, h4⟩ := key
  exact ⟨x, h1, h2, by rw [Bool.and_eq_true]; exact ⟨hr, (vld_iff _ _ _).2 ⟨by omega, by omega, v3, v4, h3, h4⟩⟩⟩
theorem srch_some (r : S42) : ∀ (n : Nat) (x : Int) (p : Int × Int), srch r n x = some p → fireE r p.1 = some p.2 ∧ p.1 ≤ x ∧ ∀ x', p.1 < x' → x' ≤ x → fireE r x' = none := by
  intro n
  induction n with
  | zero => intro x p h; simp [srch] at h
  | succ n ih =>
    intro x p h
    unfold srch at h
    by_cases h1 : firstE r ≤ x
    · rw [if_pos h1] at h
      cases hf : fireE r x with
      | some t =>
        rw [hf] at h
        simp only [Option.some.injEq] at h
        subst h
        exact ⟨hf, Int.le_refl _, fun x' a b => by omega⟩
      | none =>
        rw [hf] at h
        obtain ⟨a, b, c⟩ := ih _ _ h
        refine ⟨a, by omega, fun x' h2 h3 => ?_⟩
        by_cases h4 : x' = x
        · rw [h4]; exact hf
        · exact c x' h2 (by omega)
    · rw [if_neg h1] at h; simp at h
theorem fireE_low {r : S42} {x : Int} (h : x < firstE r) : fireE r x = none := by
  unfold fireE
  rw [if_neg (by omega)]
theorem fireE_high {r : S42} {x : Int} (h : lastE r < x) : fireE r x = none := by
  unfold fireE
  rw [if_neg (by omega)]
theorem srch_none (r : S42) : ∀ (n : Nat) (x : Int), srch r n x = none → ∀ x', x - n < x' → x' ≤ x → fireE r x' = none := by
  intro n
  induction n with
  | zero => intro x _ x' h1 h2; omega
  | succ n ih =>
    intro x h x' h2 h3
    unfold srch at h
    by_cases h1 : firstE r ≤ x
    · rw [if_pos h1] at h
      cases hf : fireE r x with
      | some t => rw [hf] at h; simp at h
      | none =>
        rw [hf] at h
        by_cases h4 : x' = x
        · rw [h4]; exact hf
        · exact ih _ h x' (by omega) (by omega)
    · exact fireE_low (by omega)
theorem fromE_eq (r : S42) (y : Int) : fromE r y = min (y - 1) (lastE r) := by unfold fromE mn; omega
theorem lastF_some {r : S42} {y : Int} {p : Int × Int} (h : lastF r y = some p) : fireE r p.1 = some p.2 ∧ p.1 < y ∧ ∀ x', p.1 < x' → x' < y → fireE r x' = none := by
  obtain ⟨a, b, c⟩ := srch_some r _ _ _ h
  have e := fromE_eq r y
  refine ⟨a, by omega, fun x' h1 h2 => ?_⟩
  by_cases h3 : x' ≤ fromE r y
  · exact c x' h1 h3
  · exact fireE_high (by omega)
theorem lastF_none {r : S42} {y : Int} (h : lastF r y = none) (x' : Int) (hx : x' < y) : fireE r x' = none := by
  have e := fromE_eq r y
  have hn := srch_none r _ _ h
  cases hf : fireE r x' with
  | none => rfl
  | some t =>
    exfalso
    have h1 := fireE_in hf
    have h0 := firstE_pos r
    have h9 := lastE_le r
    have h2 : x' ≤ fromE r y := by omega
    by_cases h3 : fromE r y - (9 : Nat) < x'
    · rw [hn x' h3 h2] at hf; simp at hf
    · have hok : okD r.f4 x' r.f3 = true := by
        unfold fireE at hf
        split at hf
        · rename_i hh; exact hh.2.2
        · simp at hf
      obtain ⟨x, a1, a2, a3⟩ := ok_window r.f4 r.f3 x' (fromE r y - 8) hok (by omega) (by omega)
      have := hn x (by omega) (by omega)
      unfold fireE at this
      rw [if_pos ⟨by omega, by omega, a3⟩] at this
      simp at this

/-! the last of all fires ahead of a year -/
def lastOf (l : List S42) (y : Int) (j : Nat) : Option S36 := (lastF (rd_T42 l (j : Int)) y).map fun p => ⟨(j : Int), p.1, p.2, 0⟩
def pickE (b f : Option S36) : Option S36 := match f with
  | none => b
  | some f => match b with
    | none => some f
    | some b => if cfE b f < 0 then some f else some b
def bestE (l : List S42) (y : Int) : Nat → Option S36
  | 0 => none
  | n + 1 => pickE (bestE l y n) (lastOf l y n)
def saveOf (l : List S42) : Option S36 → Int
  | none => 0
  | some f => (rd_T42 l f.f0).f6
def savedE (l : List S42) (y : Int) : Int := saveOf l (bestE l y l.length)
theorem ltE' (x y : S36) : (cfE x y < 0) ↔ (x.f1 < y.f1 ∨ (x.f1 = y.f1 ∧ (x.f2 < y.f2 ∨ (x.f2 = y.f2 ∧ x.f0 < y.f0)))) := by
  have h := ltE x y
  unfold ltOf at h
  rw [decide_eq_decide] at h
  exact h
theorem best_some (l : List S42) (y : Int) : ∀ (n : Nat) (f : S36), bestE l y n = some f → (∃ j, j < n ∧ lastOf l y j = some f) ∧ ∀ j g, j < n → lastOf l y j = some g → ¬ (cfE f g < 0) := by
  intro n
  induction n with
  | zero => intro f h; simp [bestE] at h
  | succ n ih =>
    intro f h
    unfold bestE pickE at h
    cases hl : lastOf l y n with
    | none =>
      rw [hl] at h
      obtain ⟨⟨j, h1, h2⟩, h3⟩ := ih f h
      refine ⟨⟨j, by omega, h2⟩, fun i g hi hg => ?_⟩
      by_cases e : i = n
      · subst e; rw [hl] at hg; simp at hg
      · exact h3 i g (by omega) hg
    | some f' =>
      rw [hl] at h
      cases hb : bestE l y n with
      | none =>
        rw [hb] at h
        simp only [Option.some.injEq] at h
        subst h
        refine ⟨⟨n, by omega, hl⟩, fun i g hi hg => ?_⟩
        by_cases e : i = n
        · subst e; rw [hl] at hg; simp only [Option.some.injEq] at hg; subst hg; rw [ltE']; omega
        · exfalso
          have : ∀ m, (bestE l y m = none) → ∀ i, i < m → lastOf l y i = none := by
            intro m
            induction m with
            | zero => intro _ i hi; omega
            | succ m ih2 =>
              intro hm i hi
              unfold bestE pickE at hm
              cases hl2 : lastOf l y m with
              | none =>
                rw [hl2] at hm
                by_cases e2 : i = m
                · rw [e2]; exact hl2
                · exact ih2 hm i (by omega)
              | some q =>
                rw [hl2] at hm
                cases hb2 : bestE l y m with
                | none => rw [hb2] at hm; simp at hm
                | some b => rw [hb2] at hm; simp only at hm; split at hm <;> simp at hm
          rw [this n hb i (by omega)] at hg
          simp at hg
      | some b =>
        rw [hb] at h
        simp only at h
        obtain ⟨⟨j, h1, h2⟩, h3⟩ := ih b hb
        by_cases hc : cfE b f' < 0
        · rw [if_pos hc] at h
          simp only [Option.some.injEq] at h
          subst h
          refine ⟨⟨n, by omega, hl⟩, fun i g hi hg => ?_⟩
          by_cases e : i = n
          · subst e; rw [hl] at hg; simp only [Option.some.injEq] at hg; subst hg; rw [ltE']; omega
          · have := h3 i g (by omega) hg
            rw [ltE'] at *
            omega
        · rw [if_neg hc] at h
          simp only [Option.some.injEq] at h
          subst h
          refine ⟨⟨j, by omega, h2⟩, fun i g hi hg => ?_⟩
          by_cases e : i = n
          · subst e; rw [hl] at hg; simp only [Option.some.injEq] at hg; subst hg; exact hc
          · exact h3 i g (by omega) hg
theorem best_none (l : List S42) (y : Int) : ∀ (m : Nat), bestE l y m = none → ∀ i, i < m → lastOf l y i = none := by
  intro m
  induction m with
  | zero => intro _ i hi; omega
  | succ m ih2 =>
    intro hm i hi
    unfold bestE pickE at hm
    cases hl2 : lastOf l y m with
    | none =>
      rw [hl2] at hm
      by_cases e2 : i = m
      · rw [e2]; exact hl2
      · exact ih2 hm i (by omega)
    | some q =>
      rw [hl2] at hm
      cases hb2 : bestE l y m with
      | none => rw [hb2] at hm; simp at hm
      | some b => rw [hb2] at hm; simp only at hm; split at hm <;> simp at hm
/-- what rules are few and light -/
def lightR (r : S42) : Prop := -700000 ≤ r.f5.f0 ∧ r.f5.f0 ≤ 700000 ∧ -100000 ≤ r.f6 ∧ r.f6 ≤ 100000 ∧ (r.f7.size : Int) ≤ 50 ∧ -20000 ≤ r.f1 ∧ r.f1 ≤ 20000 ∧ -20000 ≤ r.f2 ∧ r.f2 ≤ 20000
def lightL (l : List S42) : Prop := l.length ≤ 8 ∧ ∀ j : Nat, j < l.length → lightR (rd_T42 l (j : Int))
def st1 (l : List S42) : Option S36 → Int := saveOf l
theorem saved_l0 (l : List S42) (hl : lightL l) (y : Int) (hy : -20001 ≤ y ∧ y ≤ 20001) : ∀ (m k i : Nat), i + m = l.length → m + 30 ≤ k →
    ∀ b, b = bestE l y i → expand_saved.l0 k y (saveOf l b) b.isSome l (l.length : Int) (i : Int) (b.getD z36).f0 (b.getD z36).f1 (b.getD z36).f2 (b.getD z36).f3 = some (savedE l y) := by
  intro m
  induction m with
  | zero =>
    intro k i h1 h2 b hb
    obtain ⟨k, rfl⟩ : ∃ j, k = j + 1 := ⟨k - 1, by omega⟩
    rw [expand_saved.l0, if_neg (by omega)]
    unfold savedE
    rw [hb, show i = l.length by omega]
  | succ m ih =>
    intro k i h1 h2 b hb
    obtain ⟨k, rfl⟩ : ∃ j, k = j + 1 := ⟨k - 1, by omega⟩
    have hil : i < l.length := by omega
    have hr := hl.2 i hil
    have h8 := hl.1
    rw [expand_saved.l0, if_pos (by omega), if_pos (by omega), if_pos (by omega)]
    obtain ⟨v, hv, hs, hn⟩ := ahead_ev k (by omega) (rd_T42 l (i : Int)) ⟨hr.2.2.2.2.2.2.2.1, hr.2.2.2.2.2.2.2.2⟩ (i : Int) y hy
    rw [hv, Option.bind_some]
    have hw : wrap64 ((i : Int) + 1) = ((i + 1 : Nat) : Int) := by rw [w64 (by omega) (by omega)]; rfl
    cases hF : lastF (rd_T42 l (i : Int)) y with
    | none =>
      rw [if_neg (by rw [hn hF]; decide), hw]
      refine ih k (i + 1) (by omega) (by omega) b ?_
      unfold bestE pickE lastOf
      rw [hF, ← hb]
      rfl
    | some p =>
      have e := hs p hF
      rw [e, if_pos rfl]
      have hL : lastOf l y i = some ⟨(i : Int), p.1, p.2, 0⟩ := by unfold lastOf; rw [hF]; rfl
      cases b with
      | none =>
        rw [if_neg (by decide), hw]
        refine ih k (i + 1) (by omega) (by omega) (some ⟨(i : Int), p.1, p.2, 0⟩) ?_
        unfold bestE pickE
        rw [hL, ← hb]
      | some b =>
        rw [if_pos (show (some b).isSome = true from rfl)]
        obtain ⟨k', rfl⟩ : ∃ j, k = j + 4 := ⟨k - 4, by omega⟩
        have ho := order_ev b ⟨(i : Int), p.1, p.2, 0⟩ k'
        dsimp only [Option.getD_some] at ho ⊢
        rw [ho, Option.bind_some]
        by_cases hc : cfE b ⟨(i : Int), p.1, p.2, 0⟩ < 0
        · rw [if_pos hc, hw]
          refine ih (k' + 4) (i + 1) (by omega) (by omega) (some ⟨(i : Int), p.1, p.2, 0⟩) ?_
          unfold bestE pickE
          rw [hL, ← hb]
          simp only
          rw [if_pos hc]
        · rw [if_neg hc, hw]
          refine ih (k' + 4) (i + 1) (by omega) (by omega) (some b) ?_
          unfold bestE pickE
          rw [hL, ← hb]
          simp only
          rw [if_neg hc]
theorem saved_ev (k : Nat) (l : List S42) (hl : lightL l) (y : Int) (hy : -20001 ≤ y ∧ y ≤ 20001) (hk : 40 ≤ k) : expand_saved.f k l y = some (savedE l y) := by
  have := hl.1
  exact saved_l0 l hl y hy l.length k 0 (by omega) (by omega) none rfl
end Go.Proofs.Ytlonanlogdokfaa.S
