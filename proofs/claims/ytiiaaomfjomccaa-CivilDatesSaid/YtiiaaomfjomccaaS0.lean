-- Written by a program of this session for this claim (it follows the print's forms). Not trusted: Lean checks it.
import Derived.Test.YtiiaaomfjomccaaProg
import Derived.Below
import Derived.Deep.Draws
import Derived.Deep.AppendLies
import Derived.Maps.AppendAt
import Derived.OwnWalk
import Derived.Laws.BytesArg
import Derived.Laws.MakeOwn
import Derived.Laws.OwnMore
import Derived.Deep.OwnRows
import Derived.Tactics
import Derived.Lib.ConvBytes
import Derived.Laws.Slices
import Derived.WalkKit
import Derived.KernelRfl
import Derived.RowKit3
import Derived.Deep.LoopGhost
import Derived.Deep.QuietTactic
import Derived.BigQuiet
import Derived.WideLaws
import Derived.Deep.DeepCutAuto
import Derived.Deep.CutBlock
import Derived.Deep.RegionHeld3
import Derived.Laws.Rows
import Derived.Lib.AppendStr
import Derived.ArgAppend
import Derived.Laws.IdiomCopy
import Derived.OrdersHeld
import Derived.Laws.BitsLemmas
import Derived.RowKit
import Derived.Test.YtiiaaomfjomccaaWWords
import Derived.Test.YtiiaaomfjomccaaWLast
import Derived.Test.YtiiaaomfjomccaaWTab
import Derived.Test.YtiiaaomfjomccaaWFour
import Derived.Test.YtiiaaomfjomccaaWQPut
import Derived.Test.YtiiaaomfjomccaaWApart
import Derived.Test.YtiiaaomfjomccaaWArr
import Derived.Test.YtiiaaomfjomccaaWZeros
import Derived.Test.YtiiaaomfjomccaaWFoot
import Derived.Test.YtiiaaomfjomccaaWKept
import Derived.Test.YtiiaaomfjomccaaWShare
import Derived.Test.YtiiaaomfjomccaaWN
import Derived.Test.YtiiaaomfjomccaaWFootNe
import Derived.Test.YtiiaaomfjomccaaWAt
import Derived.Test.YtiiaaomfjomccaaWEqStruct
import Derived.Test.YtiiaaomfjomccaaWRepsOne
import Derived.Test.YtiiaaomfjomccaaWInv
import Derived.Test.YtiiaaomfjomccaaWInvWords
import Derived.Test.YtiiaaomfjomccaaWGuard
import Derived.Test.YtiiaaomfjomccaaWNEv
import Derived.Test.YtiiaaomfjomccaaWMore
namespace Go.Proofs.Ytiiaaomfjomccaa.S
open Go.RowKit Go.Proofs.YtiiaaomfjomccaaW.PrintWords Go.Proofs.YtiiaaomfjomccaaW.PrintLast Go.Proofs.YtiiaaomfjomccaaW.PrintMore
attribute [local go_sem] max2_int min2_int max_two min_two max_three min_three max_four min_four   -- for this text's walks alone
set_option linter.unusedVariables false
set_option linter.unusedSimpArgs false



def errW : Option Int → Value
  | none => .nilIface
  | some c => .iface 0 (.int .i64 c)
theorem errW_none : errW none = .nilIface := rfl
theorem errW_some (c : Int) : errW (some c) = .iface 0 (.int .i64 c) := rfl

-- the values' own types

end Go.Proofs.Ytiiaaomfjomccaa.S
