-- Written by a program of this session for this claim (it follows the print's forms). Not trusted: Lean checks it.
import Derived.Test.YtmohadimhapacaaProg
import Derived.Below
import Derived.Deep.Draws
import Derived.Deep.AppendLies
import Derived.Maps.AppendAt
import Derived.OwnWalk
import Derived.Laws.BytesArg
import Derived.Laws.MakeOwn
import Derived.Laws.OwnMore
import Derived.Deep.OwnRows
import Derived.Tactics
import Derived.Lib.ConvBytes
import Derived.Laws.Slices
import Derived.WalkKit
import Derived.KernelRfl
import Derived.RowKit3
import Derived.Deep.LoopGhost
import Derived.Deep.QuietTactic
import Derived.BigQuiet
import Derived.WideLaws
import Derived.Deep.DeepCutAuto
import Derived.Deep.CutBlock
import Derived.Deep.RegionHeld3
import Derived.Laws.Rows
import Derived.Lib.AppendStr
import Derived.ArgAppend
import Derived.Laws.IdiomCopy
import Derived.OrdersHeld
import Derived.Laws.BitsLemmas
import Derived.RowKit
import Derived.Test.YtmohadimhapacaaShelf
import Derived.Recover
import Derived.Defers
import Derived.WalkLawsBesides
import Derived.RegionTactic
import Derived.Test.YtmohadimhapacaaWWords
import Derived.Test.YtmohadimhapacaaWLast
import Derived.Test.YtmohadimhapacaaWTab
import Derived.Test.YtmohadimhapacaaWFour
import Derived.Test.YtmohadimhapacaaWQPut
import Derived.Test.YtmohadimhapacaaWApart
import Derived.Test.YtmohadimhapacaaWArr
import Derived.Test.YtmohadimhapacaaWZeros
import Derived.Test.YtmohadimhapacaaWFoot
import Derived.Test.YtmohadimhapacaaWKept
import Derived.Test.YtmohadimhapacaaWShare
import Derived.Test.YtmohadimhapacaaWN
import Derived.Test.YtmohadimhapacaaWFootNe
import Derived.Test.YtmohadimhapacaaWAt
import Derived.Test.YtmohadimhapacaaWEqStruct
import Derived.Test.YtmohadimhapacaaWRepsOne
import Derived.Test.YtmohadimhapacaaWInv
import Derived.Test.YtmohadimhapacaaWInvWords
import Derived.Test.YtmohadimhapacaaWGuard
import Derived.Test.YtmohadimhapacaaWNEv
import Derived.Test.YtmohadimhapacaaWMore
namespace Go.Proofs.Ytmohadimhapacaa.S
open Go.RowKit Go.Proofs.YtmohadimhapacaaW.PrintWords Go.Proofs.YtmohadimhapacaaW.PrintLast Go.Proofs.YtmohadimhapacaaW.PrintMore
attribute [local go_sem] max2_int min2_int max_two min_two max_three min_three max_four min_four   -- for this text's walks alone
set_option linter.unusedVariables false
set_option linter.unusedSimpArgs false



def errW : Option Int → Value
  | none => .nilIface
  | some c => .iface 0 (.int .i64 c)
theorem errW_none : errW none = .nilIface := rfl
theorem errW_some (c : Int) : errW (some c) = .iface 0 (.int .i64 c) := rfl

theorem info5 : (Try.prog.info? 5).map (fun i => (i.zero, i.size, i.bytes)) = some (some (.int .u8 0), 1, 1) := by kernel_rfl
theorem info9 : (Try.prog.info? 9).map (fun i => (i.zero, i.size, i.bytes)) = some (some (.string ⟨#[]⟩), 1, 16) := by kernel_rfl
-- the values' own types

end Go.Proofs.Ytmohadimhapacaa.S
