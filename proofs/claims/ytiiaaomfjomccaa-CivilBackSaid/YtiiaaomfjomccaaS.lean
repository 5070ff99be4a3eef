-- Written by a program of this session for this claim (it follows the print's forms). Not trusted: Lean checks it.
import Derived.Test.YtiiaaomfjomccaaS0
import Derived.Test.YtiiaaomfjomccaaS1
import Derived.Test.YtiiaaomfjomccaaS2
import Derived.Test.YtiiaaomfjomccaaS3
import Derived.Test.YtiiaaomfjomccaaS4
namespace Go.Proofs.Ytiiaaomfjomccaa.S
open Go.RowKit Go.Proofs.YtiiaaomfjomccaaW.PrintWords Go.Proofs.YtiiaaomfjomccaaW.PrintLast Go.Proofs.YtiiaaomfjomccaaW.PrintMore
attribute [local go_sem] max2_int min2_int max_two min_two max_three min_three max_four min_four   -- for this text's walks alone
set_option linter.unusedVariables false
set_option linter.unusedSimpArgs false

end Go.Proofs.Ytiiaaomfjomccaa.S
