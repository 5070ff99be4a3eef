/- for all ints y, m, d and int64 n (no condition) the Go law CivilBack returns true: the pure part of that proof, over numbers alone. -/
import Derived.Test.YtiiaaomfjomccaaDates
namespace Go.Proofs.Ytiiaaomfjomccaa.Pure
open Go.RowKit Go.Proofs.Ytiiaaomfjomccaa.S Go.Proofs.Ytiiaaomfjomccaa.Cal Go.Proofs.Ytiiaaomfjomccaa.Facts
set_option linter.unusedVariables false
set_option linter.unusedSimpArgs false

theorem CivilBack : noonmarklaw04_CivilBack.Pure := by
  intro y m d n _ _ _ _
  refine ⟨2, ?_⟩
  unfold noonmarklaw04_CivilBack.f
  have back : ∀ n : Int, noonmarklaw04_CivilBack.j0 2 n = some true := by
    intro n
    simp only [noonmarklaw04_CivilBack.j0, date_f n 0, Option.bind_some]
    by_cases h : isDay n = true
    · have g := (isDay_iff n).mp h
      have v := vld_date n g.1 g.2
      obtain ⟨_, _, _, _, e⟩ := date_num n
      simp [if_pos h, days_f, v, e, alive_f]
    · simp [if_neg h, alive_f]
  rw [days_f, right_f, Option.bind_some, Option.bind_some, back]
  by_cases h : vld y m d = true
  · have g := (vld_iff y m d).mp h
    have hl := num_lt g.2.2.1 g.2.2.2.1 g.2.2.2.2.1 g.2.2.2.2.2
    have j1 := jan_le (a := -9999) (b := y) g.1
    have j2 := jan_le (a := y + 1) (b := 10000) (by omega)
    have hd : isDay (num y m d) = true := (isDay_iff _).mpr ⟨by omega, by omega⟩
    obtain ⟨a, b, c, e, f⟩ := date_num (num y m d)
    obtain ⟨e1, e2, e3⟩ := num_inj a b c e g.2.2.1 g.2.2.2.1 g.2.2.2.2.1 g.2.2.2.2.2 f
    simp [h, date_f _ 1, hd, e1, e2, e3]
  · have h' : vld y m d = false := by simpa using h
    simp [h']

end Go.Proofs.Ytiiaaomfjomccaa.Pure
