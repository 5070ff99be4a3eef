/- for all int64 n (no condition) the Go law CivilDates returns true: the pure part of that proof, over numbers alone. -/
import Derived.Test.YtiiaaomfjomccaaDates
namespace Go.Proofs.Ytiiaaomfjomccaa.Pure
open Go.RowKit Go.Proofs.Ytiiaaomfjomccaa.S Go.Proofs.Ytiiaaomfjomccaa.Cal Go.Proofs.Ytiiaaomfjomccaa.Facts
set_option linter.unusedVariables false
set_option linter.unusedSimpArgs false

theorem CivilDates : noonmarklaw04_CivilDates.Pure := by
  intro n _
  refine ⟨21001, ?_⟩
  unfold noonmarklaw04_CivilDates.f
  simp [date_f n 21000, rdate_f n 21001 (by omega), alive_f]

end Go.Proofs.Ytiiaaomfjomccaa.Pure
