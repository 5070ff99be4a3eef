/- for all ints y, m, d (no condition) the Go law CivilMonths returns true: the pure part of that proof, over numbers alone. -/
import Derived.Test.YtiiaaomfjomccaaDates
namespace Go.Proofs.Ytiiaaomfjomccaa.Pure
open Go.RowKit Go.Proofs.Ytiiaaomfjomccaa.S Go.Proofs.Ytiiaaomfjomccaa.Cal Go.Proofs.Ytiiaaomfjomccaa.Facts
set_option linter.unusedVariables false
set_option linter.unusedSimpArgs false

theorem CivilMonths : noonmarklaw04_CivilMonths.Pure := by
  intro y m d _ _ _
  refine ⟨1, ?_⟩
  unfold noonmarklaw04_CivilMonths.f
  simp [leap_f, rleap_f, long_f, rlong_f 0, right_f, rright_f 0, alive_f]

end Go.Proofs.Ytiiaaomfjomccaa.Pure
