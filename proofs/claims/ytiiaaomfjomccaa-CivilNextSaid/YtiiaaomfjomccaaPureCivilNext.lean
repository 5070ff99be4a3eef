/- for all ints y, m, d (no condition) the Go law CivilNext returns true: the pure part of that proof, over numbers alone. -/
import Derived.Test.YtiiaaomfjomccaaDates
namespace Go.Proofs.Ytiiaaomfjomccaa.Pure
open Go.RowKit Go.Proofs.Ytiiaaomfjomccaa.S Go.Proofs.Ytiiaaomfjomccaa.Cal Go.Proofs.Ytiiaaomfjomccaa.Facts
set_option linter.unusedVariables false
set_option linter.unusedSimpArgs false

theorem CivilNext : noonmarklaw04_CivilNext.Pure := by
  intro y m d wy wm wd
  have by' := Go.bounds_i64 wy
  refine ⟨3, ?_⟩
  unfold noonmarklaw04_CivilNext.f
  rw [days_f, Option.bind_some]
  by_cases h : vld y m d = true
  · have g := (vld_iff y m d).mp h
    have hl := num_lt g.2.2.1 g.2.2.2.1 g.2.2.2.2.1 g.2.2.2.2.2
    have hdm := dim_bd y m g.2.2.1 g.2.2.2.1
    have j1 := jan_bd y (by omega) (by omega)
    have j2 := jan_bd (y + 1) (by omega) (by omega)
    rw [if_pos h, long_f, Option.bind_some]
    have ed : wrap64 (d + 1) = d + 1 := w64 (by omega) (by omega)
    have em : wrap64 (m + 1) = m + 1 := w64 (by omega) (by omega)
    have ey : wrap64 (y + 1) = y + 1 := w64 (by omega) (by omega)
    have en : wrap64 (num y m d + 1) = num y m d + 1 := w64 (by omega) (by omega)
    simp only [if_true, ed, em]
    have wk : (num y m d + 1 + 4) % 7 = Int.tmod (wrap64 ((num y m d + 4) % 7 + 1)) 7 := by
      have e : wrap64 ((num y m d + 4) % 7 + 1) = (num y m d + 4) % 7 + 1 := w64 (by omega) (by omega)
      rw [e, tm_pos (by omega)]; omega
    have fin : ∀ (Y M D : Int), vld Y M D = true → num Y M D = num y m d + 1 → Y ≤ 9999 → ∀ k, noonmarklaw04_CivilNext.j1 (k + 1) Y M D (num y m d) = some true := by
      intro Y M D hv hn hY k
      simp only [noonmarklaw04_CivilNext.j1, days_f, if_pos hv, Option.bind_some]
      rw [if_neg (by omega), if_pos trivial, hn, en, if_pos rfl]
      simp only [week_f, Option.bind_some]
      rw [if_pos wk, alive_f]; rfl
    by_cases h1 : d + 1 > dim y m
    · rw [if_pos h1]
      have hd : d = dim y m := by omega
      by_cases h2 : m + 1 > 12
      · have hm : m = 12 := by omega
        subst hm
        simp only [noonmarklaw04_CivilNext.j0]
        rw [if_pos h2, ey]
        have c1 := cum_succ y 12 (by omega) (by omega)
        have c2 : cum y (12 + 1) = 365 + li y := cum_13 y
        have hn : num (y + 1) 1 1 = num y 12 d + 1 := by
          unfold num; rw [cum_one, jan_succ]; omega
        by_cases h3 : y + 1 > 9999
        · simp only [noonmarklaw04_CivilNext.j1, days_f, Option.bind_some]
          rw [if_pos h3, vld_no (by omega)]; simp [alive_f]
        · exact fin (y + 1) 1 1 ((vld_iff _ _ _).mpr ⟨by omega, by omega, by omega, by omega, by omega, by simp [dim]⟩) hn (by omega) _
      · simp only [noonmarklaw04_CivilNext.j0]
        rw [if_neg h2]
        have c1 := cum_succ y m (by omega) (by omega)
        have d1 := dim_bd y (m + 1) (by omega) (by omega)
        exact fin y (m + 1) 1 ((vld_iff _ _ _).mpr ⟨by omega, by omega, by omega, by omega, by omega, by omega⟩) (by unfold num; omega) (by omega) _
    · rw [if_neg h1]
      simp only [noonmarklaw04_CivilNext.j0]
      rw [if_neg (by omega)]
      exact fin y m (d + 1) ((vld_iff _ _ _).mpr ⟨by omega, by omega, by omega, by omega, by omega, by omega⟩) (by unfold num; omega) (by omega) _
  · rw [if_neg h]; simp [alive_f]

end Go.Proofs.Ytiiaaomfjomccaa.Pure
