/- for all ints y, m, d (no condition) the Go law CivilDays returns true: the pure part of that proof, over numbers alone. -/
import Derived.Test.YtiiaaomfjomccaaDates
namespace Go.Proofs.Ytiiaaomfjomccaa.Pure
open Go.RowKit Go.Proofs.Ytiiaaomfjomccaa.S Go.Proofs.Ytiiaaomfjomccaa.Cal Go.Proofs.Ytiiaaomfjomccaa.Facts
set_option linter.unusedVariables false
set_option linter.unusedSimpArgs false

theorem CivilDays : noonmarklaw04_CivilDays.Pure := by
  intro y m d _ _ _
  refine ⟨501, ?_⟩
  unfold noonmarklaw04_CivilDays.f
  simp [days_f, rdays_f y m d 501 (by omega), alive_f]

end Go.Proofs.Ytiiaaomfjomccaa.Pure
