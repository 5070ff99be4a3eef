/-
  No cell of these rows narrows 'for every input' (looked for: loops, veiled, ifaces, maps, wideKeys, modest, calm, conditions, laid).
  DERIVED. THE GIVEN ROWS OF THIS SEAT. 4 by the template 'for every input the law returns true; each argument reads behind the call as it read before'; 0 by the template 'total and deterministic' (their statements: YtlonanlogdokfaaTotals.lean).
  GIVEN WITH THE SEED: the statements are not yours to turn. If you find one false, say at which input.
  Laid BY PROGRAM, IN A SANDBOX (cutbox-rows.mjs): the forced cells as the released guide's own fill.sh prints them over the translation 4bb9c99ca7ddfa61… (all of the seat's roots in one cut). By AI agents, Wed Nov 11 2026. No macro, syntax, notation, axiom, sorry.
-/
import Derived.Test.YtlonanlogdokfaaChecked
import GoSem.Claim
import GoSem.ClaimJoined
import GoSem.ClaimMapViews
import Derived.JoinedTies
import Derived.KernelRfl
namespace Go.Proofs.Ytlonanlogdokfaa
/- THE CELL 'sum', in the pinned program and in every row, IS THE sha256 OF THE DUMP (.gsa) THAT YtlonanlogdokfaaProg.lean LOADS. Nothing in Lean hashes anything: it is a label: what it is worth is what the hold of that sum in a sandbox is worth. -/
noncomputable def Try.pinned : Pinned := { name := "ytlonanlogdokfaa", sum := "4bb9c99ca7ddfa618ba53dcf5d4fc32222d33299b9417870c034514dddd6c121", checked := Try.checked }
namespace Rows
def none {H : Type} : Left H := { results := [], args := [] }

/-- 'noonmarklaw14.ExpandYears': WHATEVER THE INPUT: true; the input reads as it did. -/
def expandYearsSpec : ChangeSpec := { name := "expandYears", fn := fun _ => fun
  | [d1, d2, d3] => { results := [.lit (.bool true)], args := [d1, d2, d3] }
  | _ => none }
def expandYearsRow : OpenClaim := { program := "ytlonanlogdokfaa", sum := "4bb9c99ca7ddfa618ba53dcf5d4fc32222d33299b9417870c034514dddd6c121", func := "noonmark/noonmarklaw14.ExpandYears", spec := "expandYears", unfollowed := true, recurses := true, apart := false }
def ExpandYearsSaid : Prop := expandYearsRow.holds Try.pinned (OpenSpec.ofChange expandYearsSpec)

/-- ITS FALSE NEIGHBOUR: 'it returns false'. Refute it at one input. -/
def expandYearsWrong : ChangeSpec := { name := "expandYears", fn := fun _ => fun
  | [d1, d2, d3] => { results := [.lit (.bool false)], args := [d1, d2, d3] }
  | _ => none }
def ExpandYearsWrongFalsely : Prop := expandYearsRow.holds Try.pinned (OpenSpec.ofChange expandYearsWrong)

/-- 'noonmarklaw14.ExpandJoins': WHATEVER THE INPUT: true; the input reads as it did. -/
def expandJoinsSpec : ChangeSpec := { name := "expandJoins", fn := fun _ => fun
  | [d1, d2, d3, d4] => { results := [.lit (.bool true)], args := [d1, d2, d3, d4] }
  | _ => none }
def expandJoinsRow : OpenClaim := { program := "ytlonanlogdokfaa", sum := "4bb9c99ca7ddfa618ba53dcf5d4fc32222d33299b9417870c034514dddd6c121", func := "noonmark/noonmarklaw14.ExpandJoins", spec := "expandJoins", unfollowed := true, recurses := true, apart := false }
def ExpandJoinsSaid : Prop := expandJoinsRow.holds Try.pinned (OpenSpec.ofChange expandJoinsSpec)

/-- ITS FALSE NEIGHBOUR: 'it returns false'. Refute it at one input. -/
def expandJoinsWrong : ChangeSpec := { name := "expandJoins", fn := fun _ => fun
  | [d1, d2, d3, d4] => { results := [.lit (.bool false)], args := [d1, d2, d3, d4] }
  | _ => none }
def ExpandJoinsWrongFalsely : Prop := expandJoinsRow.holds Try.pinned (OpenSpec.ofChange expandJoinsWrong)

/-- 'noonmarklaw14.ExpandOrder': WHATEVER THE INPUT: true; the input reads as it did. -/
def expandOrderSpec : ChangeSpec := { name := "expandOrder", fn := fun _ => fun
  | [d1, d2, d3] => { results := [.lit (.bool true)], args := [d1, d2, d3] }
  | _ => none }
def expandOrderRow : OpenClaim := { program := "ytlonanlogdokfaa", sum := "4bb9c99ca7ddfa618ba53dcf5d4fc32222d33299b9417870c034514dddd6c121", func := "noonmark/noonmarklaw14.ExpandOrder", spec := "expandOrder", unfollowed := true, recurses := true, apart := false }
def ExpandOrderSaid : Prop := expandOrderRow.holds Try.pinned (OpenSpec.ofChange expandOrderSpec)

/-- ITS FALSE NEIGHBOUR: 'it returns false'. Refute it at one input. -/
def expandOrderWrong : ChangeSpec := { name := "expandOrder", fn := fun _ => fun
  | [d1, d2, d3] => { results := [.lit (.bool false)], args := [d1, d2, d3] }
  | _ => none }
def ExpandOrderWrongFalsely : Prop := expandOrderRow.holds Try.pinned (OpenSpec.ofChange expandOrderWrong)

/-- 'noonmarklaw14.ExpandEach': WHATEVER THE INPUT: true; the input reads as it did. -/
def expandEachSpec : ChangeSpec := { name := "expandEach", fn := fun _ => fun
  | [d1, d2, d3] => { results := [.lit (.bool true)], args := [d1, d2, d3] }
  | _ => none }
def expandEachRow : OpenClaim := { program := "ytlonanlogdokfaa", sum := "4bb9c99ca7ddfa618ba53dcf5d4fc32222d33299b9417870c034514dddd6c121", func := "noonmark/noonmarklaw14.ExpandEach", spec := "expandEach", unfollowed := true, recurses := true, apart := false }
def ExpandEachSaid : Prop := expandEachRow.holds Try.pinned (OpenSpec.ofChange expandEachSpec)

/-- ITS FALSE NEIGHBOUR: 'it returns false'. Refute it at one input. -/
def expandEachWrong : ChangeSpec := { name := "expandEach", fn := fun _ => fun
  | [d1, d2, d3] => { results := [.lit (.bool false)], args := [d1, d2, d3] }
  | _ => none }
def ExpandEachWrongFalsely : Prop := expandEachRow.holds Try.pinned (OpenSpec.ofChange expandEachWrong)

/- THE SECOND FORM. 'bulk': how many values and letters a reading holds, each counted each time it is reached (what is shared counts as often as it is met; a slice's spare places count too). A statement '..UptoSaid' is the law's where the arguments, and the package variables that the reading takes, are together of bulk at most 1048576: NARROWER than '..Said'. Prove '..Said' where nothing that the law and all that it calls make is longer than what came in: it says more and counts as full. Else prove '..UptoSaid'. A law counts once. -/
mutual
def uptoBulk {H : Type} : DataW H → Nat
  | .lit (.string bytes) => bytes.length + 1
  | .lit _ => 1
  | .nil => 1
  | .ptr d => uptoBulk d + 1
  | .slice elems spare => uptoBulkAll elems + uptoBulkAll spare + 1
  | .agg parts => uptoBulkAll parts + 1
  | .iface _ d => uptoBulk d + 1
  | .map entries => uptoBulkEntries entries + 1
  | .held _ => 1
def uptoBulkAll {H : Type} : List (DataW H) → Nat
  | [] => 0
  | d :: r => uptoBulk d + uptoBulkAll r
def uptoBulkEntries {H : Type} : List (Lit × DataW H) → Nat
  | [] => 0
  | x :: r => uptoBulkEntry x + uptoBulkEntries r
def uptoBulkEntry {H : Type} : Lit × DataW H → Nat
  | (.string bytes, d) => bytes.length + uptoBulk d + 1
  | (_, d) => uptoBulk d + 1
 end
def uptoSmall : (H : Type) → List (DataW H) → Bool := fun _ ds => decide (uptoBulkAll ds ≤ 1048576)
def OpenSpec.upto (s : _root_.Go.ChangeSpec) : _root_.Go.OpenSpec := { _root_.Go.OpenSpec.ofChange s with cond := some uptoSmall }

/-- 'noonmarklaw14.ExpandYears', WHERE WHAT IT READS IS OF BULK AT MOST 1048576: true; the input reads as it did. -/
def expandYearsUptoRow : OpenClaim := { program := "ytlonanlogdokfaa", sum := "4bb9c99ca7ddfa618ba53dcf5d4fc32222d33299b9417870c034514dddd6c121", func := "noonmark/noonmarklaw14.ExpandYears", spec := "expandYears", unfollowed := true, recurses := true, apart := false, narrowed := true }
def ExpandYearsUptoSaid : Prop := expandYearsUptoRow.holds Try.pinned (OpenSpec.upto expandYearsSpec)

/-- 'noonmarklaw14.ExpandJoins', WHERE WHAT IT READS IS OF BULK AT MOST 1048576: true; the input reads as it did. -/
def expandJoinsUptoRow : OpenClaim := { program := "ytlonanlogdokfaa", sum := "4bb9c99ca7ddfa618ba53dcf5d4fc32222d33299b9417870c034514dddd6c121", func := "noonmark/noonmarklaw14.ExpandJoins", spec := "expandJoins", unfollowed := true, recurses := true, apart := false, narrowed := true }
def ExpandJoinsUptoSaid : Prop := expandJoinsUptoRow.holds Try.pinned (OpenSpec.upto expandJoinsSpec)

/-- 'noonmarklaw14.ExpandOrder', WHERE WHAT IT READS IS OF BULK AT MOST 1048576: true; the input reads as it did. -/
def expandOrderUptoRow : OpenClaim := { program := "ytlonanlogdokfaa", sum := "4bb9c99ca7ddfa618ba53dcf5d4fc32222d33299b9417870c034514dddd6c121", func := "noonmark/noonmarklaw14.ExpandOrder", spec := "expandOrder", unfollowed := true, recurses := true, apart := false, narrowed := true }
def ExpandOrderUptoSaid : Prop := expandOrderUptoRow.holds Try.pinned (OpenSpec.upto expandOrderSpec)

/-- 'noonmarklaw14.ExpandEach', WHERE WHAT IT READS IS OF BULK AT MOST 1048576: true; the input reads as it did. -/
def expandEachUptoRow : OpenClaim := { program := "ytlonanlogdokfaa", sum := "4bb9c99ca7ddfa618ba53dcf5d4fc32222d33299b9417870c034514dddd6c121", func := "noonmark/noonmarklaw14.ExpandEach", spec := "expandEach", unfollowed := true, recurses := true, apart := false, narrowed := true }
def ExpandEachUptoSaid : Prop := expandEachUptoRow.holds Try.pinned (OpenSpec.upto expandEachSpec)

end Rows
end Go.Proofs.Ytlonanlogdokfaa
