/- for all ints y (no condition) the Go law CivilYears returns true: the pure part of that proof, over numbers alone. -/
import Derived.Test.YtiiaaomfjomccaaDates
namespace Go.Proofs.Ytiiaaomfjomccaa.Pure
open Go.RowKit Go.Proofs.Ytiiaaomfjomccaa.S Go.Proofs.Ytiiaaomfjomccaa.Cal Go.Proofs.Ytiiaaomfjomccaa.Facts
set_option linter.unusedVariables false
set_option linter.unusedSimpArgs false

theorem CivilYears : noonmarklaw04_CivilYears.Pure := by
  intro y wy
  have by' := Go.bounds_i64 wy
  refine ⟨20, ?_⟩
  unfold noonmarklaw04_CivilYears.f
  by_cases h1 : y < -9999
  · rw [if_pos h1]; simp [noonmarklaw04_CivilYears.j0, alive_f]
  rw [if_neg h1]
  by_cases h2 : y > 9599
  · rw [decide_eq_true h2]; simp [noonmarklaw04_CivilYears.j0, alive_f]
  rw [decide_eq_false h2]
  have v1 : vld y 1 1 = true := (vld_iff _ _ _).mpr ⟨by omega, by omega, by omega, by omega, by omega, by simp [dim]⟩
  have v2 : vld y 12 31 = true := (vld_iff _ _ _).mpr ⟨by omega, by omega, by omega, by omega, by omega, by simp [dim]⟩
  have v3 : vld (y + 400) 1 1 = true := (vld_iff _ _ _).mpr ⟨by omega, by omega, by omega, by omega, by omega, by simp [dim]⟩
  have ey : wrap64 (y + 400) = y + 400 := w64 (by omega) (by omega)
  have n1 : num y 1 1 = jan y := by unfold num; rw [cum_one]; omega
  have n2 : num y 12 31 = jan y + 364 + li y := by unfold num cum; simp; omega
  have n3 : num (y + 400) 1 1 = jan y + 146097 := by unfold num; rw [cum_one, jan_400]; omega
  have jb := jan_bd y (by omega) (by omega)
  have hl := li_01 y
  have e1 : wrap64 (jan y + 364 + li y - jan y) = 364 + li y := by rw [show jan y + 364 + li y - jan y = 364 + li y from by omega]; exact w64 (by omega) (by omega)
  have e2 : wrap64 (364 + li y + 1) = 365 + li y := by rw [show 364 + li y + 1 = 365 + li y from by omega]; exact w64 (by omega) (by omega)
  have e3 : wrap64 (jan y + 146097 - jan y) = 146097 := by rw [show jan y + 146097 - jan y = 146097 from by omega]; exact w64 (by omega) (by omega)
  have loop : ∀ (j k : Nat) (m : Int), 1 ≤ m → m ≤ 13 → 13 - m = j → j < k → noonmarklaw04_CivilYears.l0 k y (jan y) 0 (jan y + 364 + li y) 0 (jan y + 146097) 0 (365 + li y) (cum y m) m = some true := by
    intro j
    induction j with
    | zero =>
      intro k m h3 h4 h5 h6
      obtain ⟨k, rfl⟩ : ∃ m, k = m + 1 := ⟨k - 1, by omega⟩
      obtain rfl : m = 13 := by omega
      simp only [noonmarklaw04_CivilYears.l0]
      rw [if_neg (by omega), e1, e2, e3, cum_13]
      simp [alive_f]
    | succ j ih =>
      intro k m h3 h4 h5 h6
      obtain ⟨k, rfl⟩ : ∃ m, k = m + 1 := ⟨k - 1, by omega⟩
      have c := cum_mono y m (by omega) (by omega)
      have d := dim_bd y m (by omega) (by omega)
      have c1 : wrap64 (cum y m + dim y m) = cum y (m + 1) := by rw [cum_succ y m (by omega) (by omega)]; exact w64 (by omega) (by omega)
      have c2 : wrap64 (m + 1) = m + 1 := w64 (by omega) (by omega)
      simp only [noonmarklaw04_CivilYears.l0]
      rw [if_pos (by omega), long_f, Option.bind_some, c1, c2]
      exact ih k (m + 1) (by omega) (by omega) (by omega) (by omega)
  have go := loop 12 18 1 (by omega) (by omega) (by omega) (by omega)
  rw [cum_one] at go
  simp only [noonmarklaw04_CivilYears.j0, days_f, leap_f, ey, v1, v2, v3, n1, n2, n3, Option.bind_some, if_true, Bool.false_eq_true, if_false, noonmarklaw04_CivilYears.j1]
  by_cases h : lp y = true
  · rw [if_pos h]
    have : li y = 1 := by unfold li; rw [if_pos h]
    rw [this] at go ⊢; exact go
  · rw [if_neg h]
    have : li y = 0 := by unfold li; rw [if_neg h]
    rw [this] at go ⊢; exact go

end Go.Proofs.Ytiiaaomfjomccaa.Pure
