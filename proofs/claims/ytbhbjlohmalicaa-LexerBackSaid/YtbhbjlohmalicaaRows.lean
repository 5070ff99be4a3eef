/-
  No cell of these rows narrows 'for every input' (looked for: loops, veiled, ifaces, maps, wideKeys, modest, calm, conditions, laid).
  DERIVED. THE GIVEN ROWS OF THIS SEAT. 6 by the template 'for every input the law returns true; each argument reads behind the call as it read before'; 0 by the template 'total and deterministic' (their statements: YtbhbjlohmalicaaTotals.lean).
  GIVEN WITH THE SEED: the statements are not yours to turn. If you find one false, say at which input.
  Laid BY PROGRAM, IN A SANDBOX (cutbox-rows.mjs): the forced cells as the released guide's own fill.sh prints them over the translation 509e027ce08598ca… (all of the seat's roots in one cut). By AI agents, Wed Nov 11 2026. No macro, syntax, notation, axiom, sorry.
-/
import Derived.Test.YtbhbjlohmalicaaChecked
import GoSem.Claim
import GoSem.ClaimJoined
import GoSem.ClaimMapViews
import Derived.JoinedTies
import Derived.KernelRfl
namespace Go.Proofs.Ytbhbjlohmalicaa
/- THE CELL 'sum', in the pinned program and in every row, IS THE sha256 OF THE DUMP (.gsa) THAT YtbhbjlohmalicaaProg.lean LOADS. Nothing in Lean hashes anything: it is a label: what it is worth is what the hold of that sum in a sandbox is worth. -/
noncomputable def Try.pinned : Pinned := { name := "ytbhbjlohmalicaa", sum := "509e027ce08598ca8b67ab0765c32c5bb5f63d1a7ccb56e925a80abcab694ae4", checked := Try.checked }
namespace Rows
def none {H : Type} : Left H := { results := [], args := [] }

/-- 'noonmarklaw07.LexerFields': WHATEVER THE INPUT: true; the input reads as it did. -/
def lexerFieldsSpec : ChangeSpec := { name := "lexerFields", fn := fun _ => fun
  | [d] => { results := [.lit (.bool true)], args := [d] }
  | _ => none }
def lexerFieldsRow : OpenClaim := { program := "ytbhbjlohmalicaa", sum := "509e027ce08598ca8b67ab0765c32c5bb5f63d1a7ccb56e925a80abcab694ae4", func := "noonmark/noonmarklaw07.LexerFields", spec := "lexerFields", unfollowed := true, recurses := true, apart := false }
def LexerFieldsSaid : Prop := lexerFieldsRow.holds Try.pinned (OpenSpec.ofChange lexerFieldsSpec)

/-- ITS FALSE NEIGHBOUR: 'it returns false'. Refute it at one input. -/
def lexerFieldsWrong : ChangeSpec := { name := "lexerFields", fn := fun _ => fun
  | [d] => { results := [.lit (.bool false)], args := [d] }
  | _ => none }
def LexerFieldsWrongFalsely : Prop := lexerFieldsRow.holds Try.pinned (OpenSpec.ofChange lexerFieldsWrong)

/-- 'noonmarklaw07.LexerWhite': WHATEVER THE INPUT: true; the input reads as it did. -/
def lexerWhiteSpec : ChangeSpec := { name := "lexerWhite", fn := fun _ => fun
  | [d1, d2, d3] => { results := [.lit (.bool true)], args := [d1, d2, d3] }
  | _ => none }
def lexerWhiteRow : OpenClaim := { program := "ytbhbjlohmalicaa", sum := "509e027ce08598ca8b67ab0765c32c5bb5f63d1a7ccb56e925a80abcab694ae4", func := "noonmark/noonmarklaw07.LexerWhite", spec := "lexerWhite", unfollowed := true, recurses := true, apart := false }
def LexerWhiteSaid : Prop := lexerWhiteRow.holds Try.pinned (OpenSpec.ofChange lexerWhiteSpec)

/-- ITS FALSE NEIGHBOUR: 'it returns false'. Refute it at one input. -/
def lexerWhiteWrong : ChangeSpec := { name := "lexerWhite", fn := fun _ => fun
  | [d1, d2, d3] => { results := [.lit (.bool false)], args := [d1, d2, d3] }
  | _ => none }
def LexerWhiteWrongFalsely : Prop := lexerWhiteRow.holds Try.pinned (OpenSpec.ofChange lexerWhiteWrong)

/-- 'noonmarklaw07.LexerRise': WHATEVER THE INPUT: true; the input reads as it did. -/
def lexerRiseSpec : ChangeSpec := { name := "lexerRise", fn := fun _ => fun
  | [d] => { results := [.lit (.bool true)], args := [d] }
  | _ => none }
def lexerRiseRow : OpenClaim := { program := "ytbhbjlohmalicaa", sum := "509e027ce08598ca8b67ab0765c32c5bb5f63d1a7ccb56e925a80abcab694ae4", func := "noonmark/noonmarklaw07.LexerRise", spec := "lexerRise", unfollowed := true, recurses := true, apart := false }
def LexerRiseSaid : Prop := lexerRiseRow.holds Try.pinned (OpenSpec.ofChange lexerRiseSpec)

/-- ITS FALSE NEIGHBOUR: 'it returns false'. Refute it at one input. -/
def lexerRiseWrong : ChangeSpec := { name := "lexerRise", fn := fun _ => fun
  | [d] => { results := [.lit (.bool false)], args := [d] }
  | _ => none }
def LexerRiseWrongFalsely : Prop := lexerRiseRow.holds Try.pinned (OpenSpec.ofChange lexerRiseWrong)

/-- 'noonmarklaw07.LexerJoins': WHATEVER THE INPUT: true; the input reads as it did. -/
def lexerJoinsSpec : ChangeSpec := { name := "lexerJoins", fn := fun _ => fun
  | [d1, d2] => { results := [.lit (.bool true)], args := [d1, d2] }
  | _ => none }
def lexerJoinsRow : OpenClaim := { program := "ytbhbjlohmalicaa", sum := "509e027ce08598ca8b67ab0765c32c5bb5f63d1a7ccb56e925a80abcab694ae4", func := "noonmark/noonmarklaw07.LexerJoins", spec := "lexerJoins", unfollowed := true, recurses := true, apart := false }
def LexerJoinsSaid : Prop := lexerJoinsRow.holds Try.pinned (OpenSpec.ofChange lexerJoinsSpec)

/-- ITS FALSE NEIGHBOUR: 'it returns false'. Refute it at one input. -/
def lexerJoinsWrong : ChangeSpec := { name := "lexerJoins", fn := fun _ => fun
  | [d1, d2] => { results := [.lit (.bool false)], args := [d1, d2] }
  | _ => none }
def LexerJoinsWrongFalsely : Prop := lexerJoinsRow.holds Try.pinned (OpenSpec.ofChange lexerJoinsWrong)

/-- 'noonmarklaw07.LexerShows': WHATEVER THE INPUT: true; the input reads as it did. -/
def lexerShowsSpec : ChangeSpec := { name := "lexerShows", fn := fun _ => fun
  | [d] => { results := [.lit (.bool true)], args := [d] }
  | _ => none }
def lexerShowsRow : OpenClaim := { program := "ytbhbjlohmalicaa", sum := "509e027ce08598ca8b67ab0765c32c5bb5f63d1a7ccb56e925a80abcab694ae4", func := "noonmark/noonmarklaw07.LexerShows", spec := "lexerShows", inPlace := ["internal/bytealg.IndexByteString", "internal/abi.NoEscape", "internal/bytealg.MakeNoZero"], unfollowed := true, recurses := true, apart := false }
def LexerShowsSaid : Prop := lexerShowsRow.holds Try.pinned (OpenSpec.ofChange lexerShowsSpec)

/-- ITS FALSE NEIGHBOUR: 'it returns false'. Refute it at one input. -/
def lexerShowsWrong : ChangeSpec := { name := "lexerShows", fn := fun _ => fun
  | [d] => { results := [.lit (.bool false)], args := [d] }
  | _ => none }
def LexerShowsWrongFalsely : Prop := lexerShowsRow.holds Try.pinned (OpenSpec.ofChange lexerShowsWrong)

/-- 'noonmarklaw07.LexerBack': WHATEVER THE INPUT: true; the input reads as it did. -/
def lexerBackSpec : ChangeSpec := { name := "lexerBack", fn := fun _ => fun
  | [d] => { results := [.lit (.bool true)], args := [d] }
  | _ => none }
def lexerBackRow : OpenClaim := { program := "ytbhbjlohmalicaa", sum := "509e027ce08598ca8b67ab0765c32c5bb5f63d1a7ccb56e925a80abcab694ae4", func := "noonmark/noonmarklaw07.LexerBack", spec := "lexerBack", inPlace := ["internal/bytealg.IndexByteString", "internal/abi.NoEscape", "internal/bytealg.MakeNoZero"], unfollowed := true, recurses := true, apart := false }
def LexerBackSaid : Prop := lexerBackRow.holds Try.pinned (OpenSpec.ofChange lexerBackSpec)

/-- ITS FALSE NEIGHBOUR: 'it returns false'. Refute it at one input. -/
def lexerBackWrong : ChangeSpec := { name := "lexerBack", fn := fun _ => fun
  | [d] => { results := [.lit (.bool false)], args := [d] }
  | _ => none }
def LexerBackWrongFalsely : Prop := lexerBackRow.holds Try.pinned (OpenSpec.ofChange lexerBackWrong)

/- THE SECOND FORM. 'bulk': how many values and letters a reading holds, each counted each time it is reached (what is shared counts as often as it is met; a slice's spare places count too). A statement '..UptoSaid' is the law's where the arguments, and the package variables that the reading takes, are together of bulk at most 1048576: NARROWER than '..Said'. Prove '..Said' where nothing that the law and all that it calls make is longer than what came in: it says more and counts as full. Else prove '..UptoSaid'. A law counts once. -/
mutual
def uptoBulk {H : Type} : DataW H → Nat
  | .lit (.string bytes) => bytes.length + 1
  | .lit _ => 1
  | .nil => 1
  | .ptr d => uptoBulk d + 1
  | .slice elems spare => uptoBulkAll elems + uptoBulkAll spare + 1
  | .agg parts => uptoBulkAll parts + 1
  | .iface _ d => uptoBulk d + 1
  | .map entries => uptoBulkEntries entries + 1
  | .held _ => 1
def uptoBulkAll {H : Type} : List (DataW H) → Nat
  | [] => 0
  | d :: r => uptoBulk d + uptoBulkAll r
def uptoBulkEntries {H : Type} : List (Lit × DataW H) → Nat
  | [] => 0
  | x :: r => uptoBulkEntry x + uptoBulkEntries r
def uptoBulkEntry {H : Type} : Lit × DataW H → Nat
  | (.string bytes, d) => bytes.length + uptoBulk d + 1
  | (_, d) => uptoBulk d + 1
 end
def uptoSmall : (H : Type) → List (DataW H) → Bool := fun _ ds => decide (uptoBulkAll ds ≤ 1048576)
def OpenSpec.upto (s : _root_.Go.ChangeSpec) : _root_.Go.OpenSpec := { _root_.Go.OpenSpec.ofChange s with cond := some uptoSmall }

/-- 'noonmarklaw07.LexerFields', WHERE WHAT IT READS IS OF BULK AT MOST 1048576: true; the input reads as it did. -/
def lexerFieldsUptoRow : OpenClaim := { program := "ytbhbjlohmalicaa", sum := "509e027ce08598ca8b67ab0765c32c5bb5f63d1a7ccb56e925a80abcab694ae4", func := "noonmark/noonmarklaw07.LexerFields", spec := "lexerFields", unfollowed := true, recurses := true, apart := false, narrowed := true }
def LexerFieldsUptoSaid : Prop := lexerFieldsUptoRow.holds Try.pinned (OpenSpec.upto lexerFieldsSpec)

/-- 'noonmarklaw07.LexerWhite', WHERE WHAT IT READS IS OF BULK AT MOST 1048576: true; the input reads as it did. -/
def lexerWhiteUptoRow : OpenClaim := { program := "ytbhbjlohmalicaa", sum := "509e027ce08598ca8b67ab0765c32c5bb5f63d1a7ccb56e925a80abcab694ae4", func := "noonmark/noonmarklaw07.LexerWhite", spec := "lexerWhite", unfollowed := true, recurses := true, apart := false, narrowed := true }
def LexerWhiteUptoSaid : Prop := lexerWhiteUptoRow.holds Try.pinned (OpenSpec.upto lexerWhiteSpec)

/-- 'noonmarklaw07.LexerRise', WHERE WHAT IT READS IS OF BULK AT MOST 1048576: true; the input reads as it did. -/
def lexerRiseUptoRow : OpenClaim := { program := "ytbhbjlohmalicaa", sum := "509e027ce08598ca8b67ab0765c32c5bb5f63d1a7ccb56e925a80abcab694ae4", func := "noonmark/noonmarklaw07.LexerRise", spec := "lexerRise", unfollowed := true, recurses := true, apart := false, narrowed := true }
def LexerRiseUptoSaid : Prop := lexerRiseUptoRow.holds Try.pinned (OpenSpec.upto lexerRiseSpec)

/-- 'noonmarklaw07.LexerJoins', WHERE WHAT IT READS IS OF BULK AT MOST 1048576: true; the input reads as it did. -/
def lexerJoinsUptoRow : OpenClaim := { program := "ytbhbjlohmalicaa", sum := "509e027ce08598ca8b67ab0765c32c5bb5f63d1a7ccb56e925a80abcab694ae4", func := "noonmark/noonmarklaw07.LexerJoins", spec := "lexerJoins", unfollowed := true, recurses := true, apart := false, narrowed := true }
def LexerJoinsUptoSaid : Prop := lexerJoinsUptoRow.holds Try.pinned (OpenSpec.upto lexerJoinsSpec)

/-- 'noonmarklaw07.LexerShows', WHERE WHAT IT READS IS OF BULK AT MOST 1048576: true; the input reads as it did. -/
def lexerShowsUptoRow : OpenClaim := { program := "ytbhbjlohmalicaa", sum := "509e027ce08598ca8b67ab0765c32c5bb5f63d1a7ccb56e925a80abcab694ae4", func := "noonmark/noonmarklaw07.LexerShows", spec := "lexerShows", inPlace := ["internal/bytealg.IndexByteString", "internal/abi.NoEscape", "internal/bytealg.MakeNoZero"], unfollowed := true, recurses := true, apart := false, narrowed := true }
def LexerShowsUptoSaid : Prop := lexerShowsUptoRow.holds Try.pinned (OpenSpec.upto lexerShowsSpec)

/-- 'noonmarklaw07.LexerBack', WHERE WHAT IT READS IS OF BULK AT MOST 1048576: true; the input reads as it did. -/
def lexerBackUptoRow : OpenClaim := { program := "ytbhbjlohmalicaa", sum := "509e027ce08598ca8b67ab0765c32c5bb5f63d1a7ccb56e925a80abcab694ae4", func := "noonmark/noonmarklaw07.LexerBack", spec := "lexerBack", inPlace := ["internal/bytealg.IndexByteString", "internal/abi.NoEscape", "internal/bytealg.MakeNoZero"], unfollowed := true, recurses := true, apart := false, narrowed := true }
def LexerBackUptoSaid : Prop := lexerBackUptoRow.holds Try.pinned (OpenSpec.upto lexerBackSpec)

end Rows
end Go.Proofs.Ytbhbjlohmalicaa
