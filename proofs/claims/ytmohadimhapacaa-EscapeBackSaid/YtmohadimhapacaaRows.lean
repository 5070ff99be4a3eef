/-
  No cell of these rows narrows 'for every input' (looked for: loops, veiled, ifaces, maps, wideKeys, modest, calm, conditions, laid).
  DERIVED. THE GIVEN ROWS OF THIS SEAT. 6 by the template 'for every input the law returns true; each argument reads behind the call as it read before'; 0 by the template 'total and deterministic' (their statements: YtmohadimhapacaaTotals.lean).
  GIVEN WITH THE SEED: the statements are not yours to turn. If you find one false, say at which input.
  Laid BY PROGRAM, IN A SANDBOX (cutbox-rows.mjs): the forced cells as the released guide's own fill.sh prints them over the translation 5b63f37bc0f47021… (all of the seat's roots in one cut). By AI agents, Wed Nov 11 2026. No macro, syntax, notation, axiom, sorry.
-/
import Derived.Test.YtmohadimhapacaaChecked
import GoSem.Claim
import GoSem.ClaimJoined
import GoSem.ClaimMapViews
import Derived.JoinedTies
import Derived.KernelRfl
namespace Go.Proofs.Ytmohadimhapacaa
/- THE CELL 'sum', in the pinned program and in every row, IS THE sha256 OF THE DUMP (.gsa) THAT YtmohadimhapacaaProg.lean LOADS. Nothing in Lean hashes anything: it is a label: what it is worth is what the hold of that sum in a sandbox is worth. -/
noncomputable def Try.pinned : Pinned := { name := "ytmohadimhapacaa", sum := "5b63f37bc0f47021fc6229c1d19bd9464c010d809dca9e3716ee2c6aecec9a9e", checked := Try.checked }
namespace Rows
def none {H : Type} : Left H := { results := [], args := [] }

/-- 'noonmarklaw02.EscapeQuotes': WHATEVER THE INPUT: true; the input reads as it did. -/
def escapeQuotesSpec : ChangeSpec := { name := "escapeQuotes", fn := fun _ => fun
  | [d1, d2] => { results := [.lit (.bool true)], args := [d1, d2] }
  | _ => none }
def escapeQuotesRow : OpenClaim := { program := "ytmohadimhapacaa", sum := "5b63f37bc0f47021fc6229c1d19bd9464c010d809dca9e3716ee2c6aecec9a9e", func := "noonmark/noonmarklaw02.EscapeQuotes", spec := "escapeQuotes", inPlace := ["internal/bytealg.IndexByteString", "internal/abi.NoEscape", "internal/bytealg.MakeNoZero"], unfollowed := true, recurses := true, apart := false }
def EscapeQuotesSaid : Prop := escapeQuotesRow.holds Try.pinned (OpenSpec.ofChange escapeQuotesSpec)

/-- ITS FALSE NEIGHBOUR: 'it returns false'. Refute it at one input. -/
def escapeQuotesWrong : ChangeSpec := { name := "escapeQuotes", fn := fun _ => fun
  | [d1, d2] => { results := [.lit (.bool false)], args := [d1, d2] }
  | _ => none }
def EscapeQuotesWrongFalsely : Prop := escapeQuotesRow.holds Try.pinned (OpenSpec.ofChange escapeQuotesWrong)

/-- 'noonmarklaw02.EscapeFields': WHATEVER THE INPUT: true; the input reads as it did. -/
def escapeFieldsSpec : ChangeSpec := { name := "escapeFields", fn := fun _ => fun
  | [d1, d2] => { results := [.lit (.bool true)], args := [d1, d2] }
  | _ => none }
def escapeFieldsRow : OpenClaim := { program := "ytmohadimhapacaa", sum := "5b63f37bc0f47021fc6229c1d19bd9464c010d809dca9e3716ee2c6aecec9a9e", func := "noonmark/noonmarklaw02.EscapeFields", spec := "escapeFields", inPlace := ["internal/bytealg.IndexByteString", "internal/abi.NoEscape", "internal/bytealg.MakeNoZero"], unfollowed := true, recurses := true, apart := false }
def EscapeFieldsSaid : Prop := escapeFieldsRow.holds Try.pinned (OpenSpec.ofChange escapeFieldsSpec)

/-- ITS FALSE NEIGHBOUR: 'it returns false'. Refute it at one input. -/
def escapeFieldsWrong : ChangeSpec := { name := "escapeFields", fn := fun _ => fun
  | [d1, d2] => { results := [.lit (.bool false)], args := [d1, d2] }
  | _ => none }
def EscapeFieldsWrongFalsely : Prop := escapeFieldsRow.holds Try.pinned (OpenSpec.ofChange escapeFieldsWrong)

/-- 'noonmarklaw02.EscapeInts': WHATEVER THE INPUT: true; the input reads as it did. -/
def escapeIntsSpec : ChangeSpec := { name := "escapeInts", fn := fun _ => fun
  | [d1, d2] => { results := [.lit (.bool true)], args := [d1, d2] }
  | _ => none }
def escapeIntsRow : OpenClaim := { program := "ytmohadimhapacaa", sum := "5b63f37bc0f47021fc6229c1d19bd9464c010d809dca9e3716ee2c6aecec9a9e", func := "noonmark/noonmarklaw02.EscapeInts", spec := "escapeInts", inPlace := ["internal/bytealg.IndexByteString", "internal/abi.NoEscape", "internal/bytealg.MakeNoZero"], unfollowed := true, recurses := true, apart := false }
def EscapeIntsSaid : Prop := escapeIntsRow.holds Try.pinned (OpenSpec.ofChange escapeIntsSpec)

/-- ITS FALSE NEIGHBOUR: 'it returns false'. Refute it at one input. -/
def escapeIntsWrong : ChangeSpec := { name := "escapeInts", fn := fun _ => fun
  | [d1, d2] => { results := [.lit (.bool false)], args := [d1, d2] }
  | _ => none }
def EscapeIntsWrongFalsely : Prop := escapeIntsRow.holds Try.pinned (OpenSpec.ofChange escapeIntsWrong)

/-- 'noonmarklaw02.EscapeBack': WHATEVER THE INPUT: true; the input reads as it did. -/
def escapeBackSpec : ChangeSpec := { name := "escapeBack", fn := fun _ => fun
  | [d1, d2, d3, d4] => { results := [.lit (.bool true)], args := [d1, d2, d3, d4] }
  | _ => none }
def escapeBackRow : OpenClaim := { program := "ytmohadimhapacaa", sum := "5b63f37bc0f47021fc6229c1d19bd9464c010d809dca9e3716ee2c6aecec9a9e", func := "noonmark/noonmarklaw02.EscapeBack", spec := "escapeBack", inPlace := ["internal/bytealg.IndexByteString", "internal/abi.NoEscape", "internal/bytealg.MakeNoZero"], unfollowed := true, recurses := true, apart := false }
def EscapeBackSaid : Prop := escapeBackRow.holds Try.pinned (OpenSpec.ofChange escapeBackSpec)

/-- ITS FALSE NEIGHBOUR: 'it returns false'. Refute it at one input. -/
def escapeBackWrong : ChangeSpec := { name := "escapeBack", fn := fun _ => fun
  | [d1, d2, d3, d4] => { results := [.lit (.bool false)], args := [d1, d2, d3, d4] }
  | _ => none }
def EscapeBackWrongFalsely : Prop := escapeBackRow.holds Try.pinned (OpenSpec.ofChange escapeBackWrong)

/-- 'noonmarklaw02.EscapeOne': WHATEVER THE INPUT: true; the input reads as it did. -/
def escapeOneSpec : ChangeSpec := { name := "escapeOne", fn := fun _ => fun
  | [d] => { results := [.lit (.bool true)], args := [d] }
  | _ => none }
def escapeOneRow : OpenClaim := { program := "ytmohadimhapacaa", sum := "5b63f37bc0f47021fc6229c1d19bd9464c010d809dca9e3716ee2c6aecec9a9e", func := "noonmark/noonmarklaw02.EscapeOne", spec := "escapeOne", inPlace := ["internal/bytealg.IndexByteString", "internal/abi.NoEscape", "internal/bytealg.MakeNoZero"], unfollowed := true, recurses := true, apart := false }
def EscapeOneSaid : Prop := escapeOneRow.holds Try.pinned (OpenSpec.ofChange escapeOneSpec)

/-- ITS FALSE NEIGHBOUR: 'it returns false'. Refute it at one input. -/
def escapeOneWrong : ChangeSpec := { name := "escapeOne", fn := fun _ => fun
  | [d] => { results := [.lit (.bool false)], args := [d] }
  | _ => none }
def EscapeOneWrongFalsely : Prop := escapeOneRow.holds Try.pinned (OpenSpec.ofChange escapeOneWrong)

/-- 'noonmarklaw02.EscapeOrder': WHATEVER THE INPUT: true; the input reads as it did. -/
def escapeOrderSpec : ChangeSpec := { name := "escapeOrder", fn := fun _ => fun
  | [d] => { results := [.lit (.bool true)], args := [d] }
  | _ => none }
def escapeOrderRow : OpenClaim := { program := "ytmohadimhapacaa", sum := "5b63f37bc0f47021fc6229c1d19bd9464c010d809dca9e3716ee2c6aecec9a9e", func := "noonmark/noonmarklaw02.EscapeOrder", spec := "escapeOrder", inPlace := ["internal/bytealg.IndexByteString", "internal/abi.NoEscape", "internal/bytealg.MakeNoZero"], unfollowed := true, recurses := true, apart := false }
def EscapeOrderSaid : Prop := escapeOrderRow.holds Try.pinned (OpenSpec.ofChange escapeOrderSpec)

/-- ITS FALSE NEIGHBOUR: 'it returns false'. Refute it at one input. -/
def escapeOrderWrong : ChangeSpec := { name := "escapeOrder", fn := fun _ => fun
  | [d] => { results := [.lit (.bool false)], args := [d] }
  | _ => none }
def EscapeOrderWrongFalsely : Prop := escapeOrderRow.holds Try.pinned (OpenSpec.ofChange escapeOrderWrong)

/- THE SECOND FORM. 'bulk': how many values and letters a reading holds, each counted each time it is reached (what is shared counts as often as it is met; a slice's spare places count too). A statement '..UptoSaid' is the law's where the arguments, and the package variables that the reading takes, are together of bulk at most 1048576: NARROWER than '..Said'. Prove '..Said' where nothing that the law and all that it calls make is longer than what came in: it says more and counts as full. Else prove '..UptoSaid'. A law counts once. -/
mutual
def uptoBulk {H : Type} : DataW H → Nat
  | .lit (.string bytes) => bytes.length + 1
  | .lit _ => 1
  | .nil => 1
  | .ptr d => uptoBulk d + 1
  | .slice elems spare => uptoBulkAll elems + uptoBulkAll spare + 1
  | .agg parts => uptoBulkAll parts + 1
  | .iface _ d => uptoBulk d + 1
  | .map entries => uptoBulkEntries entries + 1
  | .held _ => 1
def uptoBulkAll {H : Type} : List (DataW H) → Nat
  | [] => 0
  | d :: r => uptoBulk d + uptoBulkAll r
def uptoBulkEntries {H : Type} : List (Lit × DataW H) → Nat
  | [] => 0
  | x :: r => uptoBulkEntry x + uptoBulkEntries r
def uptoBulkEntry {H : Type} : Lit × DataW H → Nat
  | (.string bytes, d) => bytes.length + uptoBulk d + 1
  | (_, d) => uptoBulk d + 1
 end
def uptoSmall : (H : Type) → List (DataW H) → Bool := fun _ ds => decide (uptoBulkAll ds ≤ 1048576)
def OpenSpec.upto (s : _root_.Go.ChangeSpec) : _root_.Go.OpenSpec := { _root_.Go.OpenSpec.ofChange s with cond := some uptoSmall }

/-- 'noonmarklaw02.EscapeQuotes', WHERE WHAT IT READS IS OF BULK AT MOST 1048576: true; the input reads as it did. -/
def escapeQuotesUptoRow : OpenClaim := { program := "ytmohadimhapacaa", sum := "5b63f37bc0f47021fc6229c1d19bd9464c010d809dca9e3716ee2c6aecec9a9e", func := "noonmark/noonmarklaw02.EscapeQuotes", spec := "escapeQuotes", inPlace := ["internal/bytealg.IndexByteString", "internal/abi.NoEscape", "internal/bytealg.MakeNoZero"], unfollowed := true, recurses := true, apart := false, narrowed := true }
def EscapeQuotesUptoSaid : Prop := escapeQuotesUptoRow.holds Try.pinned (OpenSpec.upto escapeQuotesSpec)

/-- 'noonmarklaw02.EscapeFields', WHERE WHAT IT READS IS OF BULK AT MOST 1048576: true; the input reads as it did. -/
def escapeFieldsUptoRow : OpenClaim := { program := "ytmohadimhapacaa", sum := "5b63f37bc0f47021fc6229c1d19bd9464c010d809dca9e3716ee2c6aecec9a9e", func := "noonmark/noonmarklaw02.EscapeFields", spec := "escapeFields", inPlace := ["internal/bytealg.IndexByteString", "internal/abi.NoEscape", "internal/bytealg.MakeNoZero"], unfollowed := true, recurses := true, apart := false, narrowed := true }
def EscapeFieldsUptoSaid : Prop := escapeFieldsUptoRow.holds Try.pinned (OpenSpec.upto escapeFieldsSpec)

/-- 'noonmarklaw02.EscapeInts', WHERE WHAT IT READS IS OF BULK AT MOST 1048576: true; the input reads as it did. -/
def escapeIntsUptoRow : OpenClaim := { program := "ytmohadimhapacaa", sum := "5b63f37bc0f47021fc6229c1d19bd9464c010d809dca9e3716ee2c6aecec9a9e", func := "noonmark/noonmarklaw02.EscapeInts", spec := "escapeInts", inPlace := ["internal/bytealg.IndexByteString", "internal/abi.NoEscape", "internal/bytealg.MakeNoZero"], unfollowed := true, recurses := true, apart := false, narrowed := true }
def EscapeIntsUptoSaid : Prop := escapeIntsUptoRow.holds Try.pinned (OpenSpec.upto escapeIntsSpec)

/-- 'noonmarklaw02.EscapeBack', WHERE WHAT IT READS IS OF BULK AT MOST 1048576: true; the input reads as it did. -/
def escapeBackUptoRow : OpenClaim := { program := "ytmohadimhapacaa", sum := "5b63f37bc0f47021fc6229c1d19bd9464c010d809dca9e3716ee2c6aecec9a9e", func := "noonmark/noonmarklaw02.EscapeBack", spec := "escapeBack", inPlace := ["internal/bytealg.IndexByteString", "internal/abi.NoEscape", "internal/bytealg.MakeNoZero"], unfollowed := true, recurses := true, apart := false, narrowed := true }
def EscapeBackUptoSaid : Prop := escapeBackUptoRow.holds Try.pinned (OpenSpec.upto escapeBackSpec)

/-- 'noonmarklaw02.EscapeOne', WHERE WHAT IT READS IS OF BULK AT MOST 1048576: true; the input reads as it did. -/
def escapeOneUptoRow : OpenClaim := { program := "ytmohadimhapacaa", sum := "5b63f37bc0f47021fc6229c1d19bd9464c010d809dca9e3716ee2c6aecec9a9e", func := "noonmark/noonmarklaw02.EscapeOne", spec := "escapeOne", inPlace := ["internal/bytealg.IndexByteString", "internal/abi.NoEscape", "internal/bytealg.MakeNoZero"], unfollowed := true, recurses := true, apart := false, narrowed := true }
def EscapeOneUptoSaid : Prop := escapeOneUptoRow.holds Try.pinned (OpenSpec.upto escapeOneSpec)

/-- 'noonmarklaw02.EscapeOrder', WHERE WHAT IT READS IS OF BULK AT MOST 1048576: true; the input reads as it did. -/
def escapeOrderUptoRow : OpenClaim := { program := "ytmohadimhapacaa", sum := "5b63f37bc0f47021fc6229c1d19bd9464c010d809dca9e3716ee2c6aecec9a9e", func := "noonmark/noonmarklaw02.EscapeOrder", spec := "escapeOrder", inPlace := ["internal/bytealg.IndexByteString", "internal/abi.NoEscape", "internal/bytealg.MakeNoZero"], unfollowed := true, recurses := true, apart := false, narrowed := true }
def EscapeOrderUptoSaid : Prop := escapeOrderUptoRow.holds Try.pinned (OpenSpec.upto escapeOrderSpec)

end Rows
end Go.Proofs.Ytmohadimhapacaa
