/- What the printed functions of chapter 14 answer, in plain words: a rule's fire in a year, and the last one ahead of a year. -/
import Derived.Test.YtlonanlogdokfaaS4
import Derived.Test.YtlonanlogdokfaaFactsA
namespace Go.Proofs.Ytlonanlogdokfaa.S
open Go.RowKit Go.Proofs.Ytlonanlogdokfaa.Facts Go.Proofs.Ytlonanlogdokfaa.Cal
open Go.Proofs.YtlonanlogdokfaaW.PrintWords Go.Proofs.YtlonanlogdokfaaW.PrintLast Go.Proofs.YtlonanlogdokfaaW.PrintMore
set_option linter.unusedVariables false
set_option linter.unusedSimpArgs false

/-- is it a day's form? -/
def rightD (d : S38) : Bool := decide (0 ≤ d.f0 ∧ d.f0 ≤ 3 ∧ 0 ≤ d.f2 ∧ d.f2 ≤ 6) && (if d.f0 = 1 then decide (d.f1 = 0) else (decide (1 ≤ d.f1 ∧ d.f1 ≤ 31) && (decide (0 < d.f0) || decide (d.f2 = 0))))
theorem right_ev (k : Nat) (d : S38) : dayform_right.f (k + 1) d.f0 d.f1 d.f2 = some (rightD d) := by
  unfold dayform_right.f rightD
  simp only [dayform_right.j0]
  by_cases h1 : d.f0 < 0
  · rw [if_pos h1, if_pos trivial, decide_eq_false (by omega)]; rfl
  rw [if_neg h1]
  by_cases h2 : d.f0 > 3
  · rw [if_pos h2, if_pos trivial, decide_eq_false (by omega)]; rfl
  rw [if_neg h2]
  by_cases h3 : d.f2 < 0
  · rw [if_pos h3, if_pos trivial, decide_eq_false (by omega)]; rfl
  rw [if_neg h3]
  by_cases h4 : d.f2 > 6
  · rw [if_pos (decide_eq_true h4), decide_eq_false (by omega)]; rfl
  rw [if_neg (by simpa using h4), decide_eq_true (show 0 ≤ d.f0 ∧ d.f0 ≤ 3 ∧ 0 ≤ d.f2 ∧ d.f2 ≤ 6 by omega), Bool.true_and]
  by_cases h5 : d.f0 = 1
  · rw [if_pos h5, if_pos h5]
    congr 1
  rw [if_neg h5, if_neg h5]
  by_cases h6 : d.f1 ≥ 1
  · rw [if_pos h6]
    by_cases h7 : d.f1 ≤ 31
    · rw [if_pos h7, decide_eq_true (show 1 ≤ d.f1 ∧ d.f1 ≤ 31 from ⟨h6, h7⟩), Bool.true_and]
      by_cases h8 : d.f0 > 0
      · rw [if_pos h8, decide_eq_true h8]; rfl
      · rw [if_neg h8, decide_eq_false h8, Bool.false_or]
        congr 1
    · rw [if_neg h7, decide_eq_false (by omega)]; rfl
  · rw [if_neg h6, decide_eq_false (by omega)]; rfl
/-- the day of the month that a form begins at -/
def atD (d : S38) (y m : Int) : Int := if d.f0 = 1 then dim y m else d.f1
def okD (d : S38) (y m : Int) : Bool := rightD d && vld y m (atD d y m)
/-- how many days from the n-th on to the form's day of the week -/
def aheadD (d : S38) (n : Int) : Int := (d.f2 - (n + 4) % 7 + 7) % 7
def dayD (d : S38) (y m : Int) : Int :=
  if d.f0 = 0 then num y m (atD d y m) else if d.f0 = 2 then num y m (atD d y m) + aheadD d (num y m (atD d y m)) else num y m (atD d y m) - (7 - aheadD d (num y m (atD d y m))) % 7
theorem num_bd {y m d : Int} (h : vld y m d = true) : -4371953 ≤ num y m d ∧ num y m d ≤ 2932897 := by
  obtain ⟨h1, h2, h3, h4, h5, h6⟩ := (vld_iff y m d).1 h
  have h7 := num_lt h3 h4 h5 h6
  have h8 := jan_bd y h1 (by omega)
  have h9 := jan_bd (y + 1) (by omega) (by omega)
  omega
theorem right_week {d : S38} (h : rightD d = true) : 0 ≤ d.f0 ∧ d.f0 ≤ 3 ∧ 0 ≤ d.f2 ∧ d.f2 ≤ 6 := by
  unfold rightD at h
  rw [Bool.and_eq_true, decide_eq_true_eq] at h
  exact h.1
theorem of_j0 (k : Nat) (d : S38) (y m at_ : Int) (hr : rightD d = true) (ha : at_ = atD d y m) : dayform_Of.j0 (k + 1) y m at_ d.f0 d.f1 d.f2 = some (if vld y m (atD d y m) = true then (dayD d y m, 0) else (0, 6)) := by
  subst ha
  simp only [dayform_Of.j0, days_f, Option.bind_some]
  by_cases hv : vld y m (atD d y m) = true
  · rw [if_pos hv, if_pos hv]
    have hb := num_bd hv
    have hw := right_week hr
    unfold dayD aheadD
    generalize hn : num y m (atD d y m) = n at hb ⊢
    simp only [week_f, Option.bind_some]
    rw [if_pos trivial]
    have e1 : wrap64 (d.f2 - (n + 4) % 7) = d.f2 - (n + 4) % 7 := w64 (by omega) (by omega)
    have e2 : wrap64 (d.f2 - (n + 4) % 7 + 7) = d.f2 - (n + 4) % 7 + 7 := w64 (by omega) (by omega)
    rw [e1, e2, Int.tmod_eq_emod_of_nonneg (by omega)]
    generalize ha : (d.f2 - (n + 4) % 7 + 7) % 7 = a
    have ba : 0 ≤ a ∧ a < 7 := by omega
    have e3 : wrap64 (n + a) = n + a := w64 (by omega) (by omega)
    have e4 : wrap64 (7 - a) = 7 - a := w64 (by omega) (by omega)
    have e5 : wrap64 (n - (7 - a) % 7) = n - (7 - a) % 7 := w64 (by omega) (by omega)
    rw [e3, e4, Int.tmod_eq_emod_of_nonneg (show 0 ≤ 7 - a by omega), e5]
    by_cases h0 : d.f0 = 0
    · rw [if_pos h0, if_pos h0]
    · rw [if_neg h0, if_neg h0]
      by_cases h2 : d.f0 = 2
      · rw [if_pos h2, if_pos h2]
      · rw [if_neg h2, if_neg h2]
  · rw [if_neg hv, if_neg hv, if_neg (by decide)]
theorem of_ev (k : Nat) (d : S38) (y m : Int) : dayform_Of.f (k + 1) d.f0 d.f1 d.f2 y m = some (if rightD d = true then (if vld y m (atD d y m) = true then (dayD d y m, 0) else (0, 6)) else (0, 1)) := by
  unfold dayform_Of.f
  rw [right_ev, Option.bind_some]
  by_cases hr : rightD d = true
  · rw [if_pos hr, if_pos hr]
    by_cases h1 : d.f0 = 1
    · rw [if_pos h1, long_f, Option.bind_some]
      exact of_j0 k d y m _ hr (by unfold atD; rw [if_pos h1])
    · rw [if_neg h1]
      exact of_j0 k d y m _ hr (by unfold atD; rw [if_neg h1])
  · rw [if_neg hr, if_neg hr]
/-- the years in which a rule may fire -/
def firstE (r : S42) : Int := mx r.f1 1
def lastE (r : S42) : Int := mn r.f2 9999
theorem firstE_pos (r : S42) : 1 ≤ firstE r := by unfold firstE mx; split <;> omega
theorem lastE_le (r : S42) : lastE r ≤ 9999 := by unfold lastE mn; split <;> omega
theorem firstE_eq (r : S42) : firstE r = max r.f1 1 := by unfold firstE mx; omega
theorem lastE_eq (r : S42) : lastE r = min r.f2 9999 := by unfold lastE mn; omega
/-- when a rule fires in a year, if it does -/
def fireE (r : S42) (y : Int) : Option Int := if firstE r ≤ y ∧ y ≤ lastE r ∧ okD r.f4 y r.f3 = true then some (wrap64 (wrap64 (dayD r.f4 y r.f3 * 86400) + r.f5.f0)) else none
theorem fireE_in {r : S42} {y t : Int} (h : fireE r y = some t) : firstE r ≤ y ∧ y ≤ lastE r := by
  unfold fireE at h
  split at h
  · rename_i hh; exact ⟨hh.1, hh.2.1⟩
  · simp at h
theorem fireE_in' {r : S42} {y t : Int} (h : fireE r y = some t) : r.f1 ≤ y ∧ 1 ≤ y ∧ y ≤ r.f2 ∧ y ≤ 9999 := by
  have := fireE_in h
  rw [firstE_eq, lastE_eq] at this
  omega
theorem fire_ev (k : Nat) (r : S42) (i y : Int) : ∃ v, expand_lasting_fire.f (k + 1) r.f0 r.f1 r.f2 r.f3 r.f4.f0 r.f4.f1 r.f4.f2 r.f5.f0 r.f5.f1 r.f6 r.f7 i y = some v ∧
    (∀ t, fireE r y = some t → v = (i, y, t, 0, true)) ∧ (fireE r y = none → v.2.2.2.2 = false) := by
  unfold expand_lasting_fire.f expand_lasting_first.f expand_lasting_last.f
  simp only [Option.bind_some]
  unfold fireE
  by_cases h1 : y < mx r.f1 1
  · rw [if_pos h1, if_neg (by unfold firstE; omega)]
    exact ⟨_, rfl, fun t h => by simp at h, fun _ => rfl⟩
  rw [if_neg h1]
  by_cases h2 : y > mn r.f2 9999
  · rw [if_pos h2, if_neg (by unfold lastE; omega)]
    exact ⟨_, rfl, fun t h => by simp at h, fun _ => rfl⟩
  rw [if_neg h2, of_ev, Option.bind_some]
  by_cases h3 : okD r.f4 y r.f3 = true
  · rw [if_pos (show firstE r ≤ y ∧ y ≤ lastE r ∧ okD r.f4 y r.f3 = true from ⟨by unfold firstE; omega, by unfold lastE; omega, h3⟩)]
    unfold okD at h3
    rw [Bool.and_eq_true] at h3
    rw [if_pos h3.1, if_pos h3.2]
    exact ⟨_, rfl, fun t h => by simp only [Option.some.injEq] at h; rw [← h]; rfl, fun h => by simp at h⟩
  · rw [if_neg (show ¬ (firstE r ≤ y ∧ y ≤ lastE r ∧ okD r.f4 y r.f3 = true) from fun h => h3 h.2.2)]
    refine ⟨_, rfl, fun t h => by simp at h, fun _ => ?_⟩
    unfold okD at h3
    by_cases h4 : rightD r.f4 = true
    · rw [if_pos h4]
      by_cases h5 : vld y r.f3 (atD r.f4 y r.f3) = true
      · exact absurd (by rw [h4, h5]; rfl) h3
      · rw [if_neg h5]; rfl
    · rw [if_neg h4]; rfl

/-! the last fire of a rule ahead of a year -/
/-- looked for from year x on downwards, n years -/
def srch (r : S42) : Nat → Int → Option (Int × Int)
  | 0, _ => none
  | n + 1, x => if firstE r ≤ x then (match fireE r x with | some t => some (x, t) | none => srch r n (x - 1)) else none
def fromE (r : S42) (y : Int) : Int := mn (y - 1) (lastE r)
def lastF (r : S42) (y : Int) : Option (Int × Int) := srch r 9 (fromE r y)
theorem ahead_l0 (r : S42) (i from_ : Int) (hf : from_ ≤ 9999) (hf2 : -30000 ≤ from_) : ∀ (n k : Nat) (x : Int), from_ - x + n = 9 → x ≤ from_ → 2 * n + 4 ≤ k →
    ∃ v, expand_lasting_ahead.l0 k i from_ x r.f0 r.f1 r.f2 r.f3 r.f4.f0 r.f4.f1 r.f4.f2 r.f5.f0 r.f5.f1 r.f6 r.f7 = some v ∧ (∀ p, srch r n x = some p → v = (i, p.1, p.2, 0, true)) ∧ (srch r n x = none → v.2.2.2.2 = false) := by
  intro n
  induction n with
  | zero =>
    intro k x h1 h2 h3
    obtain ⟨k, rfl⟩ : ∃ j, k = j + 2 := ⟨k - 2, by omega⟩
    rw [expand_lasting_ahead.l0, expand_lasting_first.f, Option.bind_some]
    have hx : wrap64 (from_ - x) = from_ - x := w64 (by omega) (by omega)
    rw [hx, decide_eq_false (show ¬ from_ - x ≤ 8 by omega), ite_self, expand_lasting_ahead.j1, if_neg (by decide)]
    exact ⟨_, rfl, fun p h => by simp [srch] at h, fun _ => rfl⟩
  | succ n ih =>
    intro k x h1 h2 h3
    obtain ⟨k, rfl⟩ : ∃ j, k = j + 3 := ⟨k - 3, by omega⟩
    rw [expand_lasting_ahead.l0, expand_lasting_first.f, Option.bind_some]
    unfold srch
    by_cases h4 : firstE r ≤ x
    · have h0 := firstE_pos r
      have hx : wrap64 (from_ - x) = from_ - x := w64 (by omega) (by omega)
      rw [hx, decide_eq_true (show from_ - x ≤ 8 by omega), if_pos h4, if_pos (show x ≥ mx r.f1 1 from h4), expand_lasting_ahead.j1, if_pos rfl]
      obtain ⟨v, hv, hs, hn⟩ := fire_ev k r i x
      rw [hv, Option.bind_some]
      cases hfe : fireE r x with
      | some t =>
        have e := hs t hfe
        rw [e, if_pos rfl]
        exact ⟨_, rfl, fun p h => by simp only [Option.some.injEq] at h; subst h; rfl, fun h => by simp at h⟩
      | none =>
        rw [if_neg (by rw [hn hfe]; decide)]
        have hw : wrap64 (x - 1) = x - 1 := w64 (by omega) (by omega)
        rw [hw]
        exact ih (k + 1) (x - 1) (by omega) (by omega) (by omega)
    · rw [if_neg h4, if_neg (show ¬ x ≥ mx r.f1 1 from h4), expand_lasting_ahead.j1, if_neg (by decide)]
      exact ⟨_, rfl, fun p h => by simp at h, fun _ => rfl⟩
theorem ahead_ev (k : Nat) (hk : 22 ≤ k) (r : S42) (hr : -20000 ≤ r.f2 ∧ r.f2 ≤ 20000) (i y : Int) (hy : -20001 ≤ y ∧ y ≤ 20001) : ∃ v, expand_lasting_ahead.f k r.f0 r.f1 r.f2 r.f3 r.f4.f0 r.f4.f1 r.f4.f2 r.f5.f0 r.f5.f1 r.f6 r.f7 i y = some v ∧
    (∀ p, lastF r y = some p → v = (i, p.1, p.2, 0, true)) ∧ (lastF r y = none → v.2.2.2.2 = false) := by
  unfold expand_lasting_ahead.f expand_lasting_last.f
  rw [Option.bind_some]
  have hw : wrap64 (y - 1) = y - 1 := w64 (by omega) (by omega)
  rw [hw]
  have h1 := lastE_le r
  have h2 : fromE r y ≤ 9999 ∧ -30000 ≤ fromE r y := by
    have := lastE_eq r
    unfold fromE mn; split <;> omega
  exact ahead_l0 r i (fromE r y) h2.1 h2.2 9 k (fromE r y) (by omega) (by omega) (by omega)
end Go.Proofs.Ytlonanlogdokfaa.S
