/-
  No cell of these rows narrows 'for every input' (looked for: loops, veiled, ifaces, maps, wideKeys, modest, calm, conditions, laid).
  DERIVED. THE GIVEN ROWS OF THIS SEAT. 6 by the template 'for every input the law returns true; each argument reads behind the call as it read before'; 0 by the template 'total and deterministic' (their statements: YtmcdpgopjfpjeaaTotals.lean).
  GIVEN WITH THE SEED: the statements are not yours to turn. If you find one false, say at which input.
  Laid BY PROGRAM, IN A SANDBOX (cutbox-rows.mjs): the forced cells as the released guide's own fill.sh prints them over the translation 83149b2e6eb015f1… (all of the seat's roots in one cut). By AI agents, Wed Nov 11 2026. No macro, syntax, notation, axiom, sorry.
-/
import Derived.Test.YtmcdpgopjfpjeaaChecked
import GoSem.Claim
import GoSem.ClaimJoined
import GoSem.ClaimMapViews
import Derived.JoinedTies
import Derived.KernelRfl
namespace Go.Proofs.Ytmcdpgopjfpjeaa
/- THE CELL 'sum', in the pinned program and in every row, IS THE sha256 OF THE DUMP (.gsa) THAT YtmcdpgopjfpjeaaProg.lean LOADS. Nothing in Lean hashes anything: it is a label: what it is worth is what the hold of that sum in a sandbox is worth. -/
noncomputable def Try.pinned : Pinned := { name := "ytmcdpgopjfpjeaa", sum := "83149b2e6eb015f1b285a067ad3e47a605c3e3f8e7790b4579a5eed85ef40f73", checked := Try.checked }
namespace Rows
def none {H : Type} : Left H := { results := [], args := [] }

/-- 'noonmarklaw29.JournalFrames': WHATEVER THE INPUT: true; the input reads as it did. -/
def journalFramesSpec : ChangeSpec := { name := "journalFrames", fn := fun _ => fun
  | [d1, d2] => { results := [.lit (.bool true)], args := [d1, d2] }
  | _ => none }
def journalFramesRow : OpenClaim := { program := "ytmcdpgopjfpjeaa", sum := "83149b2e6eb015f1b285a067ad3e47a605c3e3f8e7790b4579a5eed85ef40f73", func := "noonmark/noonmarklaw29.JournalFrames", spec := "journalFrames", unfollowed := true, recurses := true, apart := false }
def JournalFramesSaid : Prop := journalFramesRow.holds Try.pinned (OpenSpec.ofChange journalFramesSpec)

/-- ITS FALSE NEIGHBOUR: 'it returns false'. Refute it at one input. -/
def journalFramesWrong : ChangeSpec := { name := "journalFrames", fn := fun _ => fun
  | [d1, d2] => { results := [.lit (.bool false)], args := [d1, d2] }
  | _ => none }
def JournalFramesWrongFalsely : Prop := journalFramesRow.holds Try.pinned (OpenSpec.ofChange journalFramesWrong)

/-- 'noonmarklaw29.JournalBack': WHATEVER THE INPUT: true; the input reads as it did. -/
def journalBackSpec : ChangeSpec := { name := "journalBack", fn := fun _ => fun
  | [d1, d2, d3] => { results := [.lit (.bool true)], args := [d1, d2, d3] }
  | _ => none }
def journalBackRow : OpenClaim := { program := "ytmcdpgopjfpjeaa", sum := "83149b2e6eb015f1b285a067ad3e47a605c3e3f8e7790b4579a5eed85ef40f73", func := "noonmark/noonmarklaw29.JournalBack", spec := "journalBack", unfollowed := true, recurses := true, apart := false }
def JournalBackSaid : Prop := journalBackRow.holds Try.pinned (OpenSpec.ofChange journalBackSpec)

/-- ITS FALSE NEIGHBOUR: 'it returns false'. Refute it at one input. -/
def journalBackWrong : ChangeSpec := { name := "journalBack", fn := fun _ => fun
  | [d1, d2, d3] => { results := [.lit (.bool false)], args := [d1, d2, d3] }
  | _ => none }
def JournalBackWrongFalsely : Prop := journalBackRow.holds Try.pinned (OpenSpec.ofChange journalBackWrong)

/-- 'noonmarklaw29.JournalCompacts': WHATEVER THE INPUT: true; the input reads as it did. -/
def journalCompactsSpec : ChangeSpec := { name := "journalCompacts", fn := fun _ => fun
  | [d] => { results := [.lit (.bool true)], args := [d] }
  | _ => none }
def journalCompactsRow : OpenClaim := { program := "ytmcdpgopjfpjeaa", sum := "83149b2e6eb015f1b285a067ad3e47a605c3e3f8e7790b4579a5eed85ef40f73", func := "noonmark/noonmarklaw29.JournalCompacts", spec := "journalCompacts", unfollowed := true, recurses := true, apart := false }
def JournalCompactsSaid : Prop := journalCompactsRow.holds Try.pinned (OpenSpec.ofChange journalCompactsSpec)

/-- ITS FALSE NEIGHBOUR: 'it returns false'. Refute it at one input. -/
def journalCompactsWrong : ChangeSpec := { name := "journalCompacts", fn := fun _ => fun
  | [d] => { results := [.lit (.bool false)], args := [d] }
  | _ => none }
def JournalCompactsWrongFalsely : Prop := journalCompactsRow.holds Try.pinned (OpenSpec.ofChange journalCompactsWrong)

/-- 'noonmarklaw29.JournalDisks': WHATEVER THE INPUT: true; the input reads as it did. -/
def journalDisksSpec : ChangeSpec := { name := "journalDisks", fn := fun _ => fun
  | [d1, d2, d3] => { results := [.lit (.bool true)], args := [d1, d2, d3] }
  | _ => none }
def journalDisksRow : OpenClaim := { program := "ytmcdpgopjfpjeaa", sum := "83149b2e6eb015f1b285a067ad3e47a605c3e3f8e7790b4579a5eed85ef40f73", func := "noonmark/noonmarklaw29.JournalDisks", spec := "journalDisks", unfollowed := true, recurses := true, apart := false }
def JournalDisksSaid : Prop := journalDisksRow.holds Try.pinned (OpenSpec.ofChange journalDisksSpec)

/-- ITS FALSE NEIGHBOUR: 'it returns false'. Refute it at one input. -/
def journalDisksWrong : ChangeSpec := { name := "journalDisks", fn := fun _ => fun
  | [d1, d2, d3] => { results := [.lit (.bool false)], args := [d1, d2, d3] }
  | _ => none }
def JournalDisksWrongFalsely : Prop := journalDisksRow.holds Try.pinned (OpenSpec.ofChange journalDisksWrong)

/-- 'noonmarklaw29.JournalCrash': WHATEVER THE INPUT: true; the input reads as it did. -/
def journalCrashSpec : ChangeSpec := { name := "journalCrash", fn := fun _ => fun
  | [d1, d2, d3] => { results := [.lit (.bool true)], args := [d1, d2, d3] }
  | _ => none }
def journalCrashRow : OpenClaim := { program := "ytmcdpgopjfpjeaa", sum := "83149b2e6eb015f1b285a067ad3e47a605c3e3f8e7790b4579a5eed85ef40f73", func := "noonmark/noonmarklaw29.JournalCrash", spec := "journalCrash", unfollowed := true, recurses := true, apart := false }
def JournalCrashSaid : Prop := journalCrashRow.holds Try.pinned (OpenSpec.ofChange journalCrashSpec)

/-- ITS FALSE NEIGHBOUR: 'it returns false'. Refute it at one input. -/
def journalCrashWrong : ChangeSpec := { name := "journalCrash", fn := fun _ => fun
  | [d1, d2, d3] => { results := [.lit (.bool false)], args := [d1, d2, d3] }
  | _ => none }
def JournalCrashWrongFalsely : Prop := journalCrashRow.holds Try.pinned (OpenSpec.ofChange journalCrashWrong)

/-- 'noonmarklaw29.JournalNils': WHATEVER THE INPUT: true; the input reads as it did. -/
def journalNilsSpec : ChangeSpec := { name := "journalNils", fn := fun _ => fun
  | [d1, d2] => { results := [.lit (.bool true)], args := [d1, d2] }
  | _ => none }
def journalNilsRow : OpenClaim := { program := "ytmcdpgopjfpjeaa", sum := "83149b2e6eb015f1b285a067ad3e47a605c3e3f8e7790b4579a5eed85ef40f73", func := "noonmark/noonmarklaw29.JournalNils", spec := "journalNils", unfollowed := true, recurses := true, apart := false }
def JournalNilsSaid : Prop := journalNilsRow.holds Try.pinned (OpenSpec.ofChange journalNilsSpec)

/-- ITS FALSE NEIGHBOUR: 'it returns false'. Refute it at one input. -/
def journalNilsWrong : ChangeSpec := { name := "journalNils", fn := fun _ => fun
  | [d1, d2] => { results := [.lit (.bool false)], args := [d1, d2] }
  | _ => none }
def JournalNilsWrongFalsely : Prop := journalNilsRow.holds Try.pinned (OpenSpec.ofChange journalNilsWrong)

/- THE SECOND FORM. 'bulk': how many values and letters a reading holds, each counted each time it is reached (what is shared counts as often as it is met; a slice's spare places count too). A statement '..UptoSaid' is the law's where the arguments, and the package variables that the reading takes, are together of bulk at most 1048576: NARROWER than '..Said'. Prove '..Said' where nothing that the law and all that it calls make is longer than what came in: it says more and counts as full. Else prove '..UptoSaid'. A law counts once. -/
mutual
def uptoBulk {H : Type} : DataW H → Nat
  | .lit (.string bytes) => bytes.length + 1
  | .lit _ => 1
  | .nil => 1
  | .ptr d => uptoBulk d + 1
  | .slice elems spare => uptoBulkAll elems + uptoBulkAll spare + 1
  | .agg parts => uptoBulkAll parts + 1
  | .iface _ d => uptoBulk d + 1
  | .map entries => uptoBulkEntries entries + 1
  | .held _ => 1
def uptoBulkAll {H : Type} : List (DataW H) → Nat
  | [] => 0
  | d :: r => uptoBulk d + uptoBulkAll r
def uptoBulkEntries {H : Type} : List (Lit × DataW H) → Nat
  | [] => 0
  | x :: r => uptoBulkEntry x + uptoBulkEntries r
def uptoBulkEntry {H : Type} : Lit × DataW H → Nat
  | (.string bytes, d) => bytes.length + uptoBulk d + 1
  | (_, d) => uptoBulk d + 1
 end
def uptoSmall : (H : Type) → List (DataW H) → Bool := fun _ ds => decide (uptoBulkAll ds ≤ 1048576)
def OpenSpec.upto (s : _root_.Go.ChangeSpec) : _root_.Go.OpenSpec := { _root_.Go.OpenSpec.ofChange s with cond := some uptoSmall }

/-- 'noonmarklaw29.JournalFrames', WHERE WHAT IT READS IS OF BULK AT MOST 1048576: true; the input reads as it did. -/
def journalFramesUptoRow : OpenClaim := { program := "ytmcdpgopjfpjeaa", sum := "83149b2e6eb015f1b285a067ad3e47a605c3e3f8e7790b4579a5eed85ef40f73", func := "noonmark/noonmarklaw29.JournalFrames", spec := "journalFrames", unfollowed := true, recurses := true, apart := false, narrowed := true }
def JournalFramesUptoSaid : Prop := journalFramesUptoRow.holds Try.pinned (OpenSpec.upto journalFramesSpec)

/-- 'noonmarklaw29.JournalBack', WHERE WHAT IT READS IS OF BULK AT MOST 1048576: true; the input reads as it did. -/
def journalBackUptoRow : OpenClaim := { program := "ytmcdpgopjfpjeaa", sum := "83149b2e6eb015f1b285a067ad3e47a605c3e3f8e7790b4579a5eed85ef40f73", func := "noonmark/noonmarklaw29.JournalBack", spec := "journalBack", unfollowed := true, recurses := true, apart := false, narrowed := true }
def JournalBackUptoSaid : Prop := journalBackUptoRow.holds Try.pinned (OpenSpec.upto journalBackSpec)

/-- 'noonmarklaw29.JournalCompacts', WHERE WHAT IT READS IS OF BULK AT MOST 1048576: true; the input reads as it did. -/
def journalCompactsUptoRow : OpenClaim := { program := "ytmcdpgopjfpjeaa", sum := "83149b2e6eb015f1b285a067ad3e47a605c3e3f8e7790b4579a5eed85ef40f73", func := "noonmark/noonmarklaw29.JournalCompacts", spec := "journalCompacts", unfollowed := true, recurses := true, apart := false, narrowed := true }
def JournalCompactsUptoSaid : Prop := journalCompactsUptoRow.holds Try.pinned (OpenSpec.upto journalCompactsSpec)

/-- 'noonmarklaw29.JournalDisks', WHERE WHAT IT READS IS OF BULK AT MOST 1048576: true; the input reads as it did. -/
def journalDisksUptoRow : OpenClaim := { program := "ytmcdpgopjfpjeaa", sum := "83149b2e6eb015f1b285a067ad3e47a605c3e3f8e7790b4579a5eed85ef40f73", func := "noonmark/noonmarklaw29.JournalDisks", spec := "journalDisks", unfollowed := true, recurses := true, apart := false, narrowed := true }
def JournalDisksUptoSaid : Prop := journalDisksUptoRow.holds Try.pinned (OpenSpec.upto journalDisksSpec)

/-- 'noonmarklaw29.JournalCrash', WHERE WHAT IT READS IS OF BULK AT MOST 1048576: true; the input reads as it did. -/
def journalCrashUptoRow : OpenClaim := { program := "ytmcdpgopjfpjeaa", sum := "83149b2e6eb015f1b285a067ad3e47a605c3e3f8e7790b4579a5eed85ef40f73", func := "noonmark/noonmarklaw29.JournalCrash", spec := "journalCrash", unfollowed := true, recurses := true, apart := false, narrowed := true }
def JournalCrashUptoSaid : Prop := journalCrashUptoRow.holds Try.pinned (OpenSpec.upto journalCrashSpec)

/-- 'noonmarklaw29.JournalNils', WHERE WHAT IT READS IS OF BULK AT MOST 1048576: true; the input reads as it did. -/
def journalNilsUptoRow : OpenClaim := { program := "ytmcdpgopjfpjeaa", sum := "83149b2e6eb015f1b285a067ad3e47a605c3e3f8e7790b4579a5eed85ef40f73", func := "noonmark/noonmarklaw29.JournalNils", spec := "journalNils", unfollowed := true, recurses := true, apart := false, narrowed := true }
def JournalNilsUptoSaid : Prop := journalNilsUptoRow.holds Try.pinned (OpenSpec.upto journalNilsSpec)

end Rows
end Go.Proofs.Ytmcdpgopjfpjeaa
