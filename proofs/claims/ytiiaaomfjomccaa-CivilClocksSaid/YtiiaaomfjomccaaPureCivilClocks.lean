/- for all int64 n (no condition) the Go law CivilClocks returns true: the pure part of that proof, over numbers alone. -/
import Derived.Test.YtiiaaomfjomccaaDates
namespace Go.Proofs.Ytiiaaomfjomccaa.Pure
open Go.RowKit Go.Proofs.Ytiiaaomfjomccaa.S Go.Proofs.Ytiiaaomfjomccaa.Cal Go.Proofs.Ytiiaaomfjomccaa.Facts
set_option linter.unusedVariables false
set_option linter.unusedSimpArgs false

theorem CivilClocks : noonmarklaw04_CivilClocks.Pure := by
  intro n w
  have b := Go.bounds_i64 w
  obtain ⟨r, h1, h2⟩ := clock_eq n b.1 b.2
  unfold noonmarklaw04_CivilClocks.f
  simp [h1, h2, week_f, rweek_f, alive_f]

end Go.Proofs.Ytiiaaomfjomccaa.Pure
