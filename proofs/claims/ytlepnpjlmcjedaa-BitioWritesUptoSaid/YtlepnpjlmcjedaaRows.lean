/-
  No cell of these rows narrows 'for every input' (looked for: loops, veiled, ifaces, maps, wideKeys, modest, calm, conditions, laid).
  DERIVED. THE GIVEN ROWS OF THIS SEAT. 15 by the template 'for every input the law returns true; each argument reads behind the call as it read before'; 0 by the template 'total and deterministic' (their statements: YtlepnpjlmcjedaaTotals.lean).
  GIVEN WITH THE SEED: the statements are not yours to turn. If you find one false, say at which input.
  Laid BY PROGRAM, IN A SANDBOX (cutbox-rows.mjs): the forced cells as the released guide's own fill.sh prints them over the translation 6403089153a655c1… (all of the seat's roots in one cut). By AI agents, Wed Nov 11 2026. No macro, syntax, notation, axiom, sorry.
-/
import Derived.Test.YtlepnpjlmcjedaaChecked
import GoSem.Claim
import GoSem.ClaimJoined
import GoSem.ClaimMapViews
import Derived.JoinedTies
import Derived.KernelRfl
namespace Go.Proofs.Ytlepnpjlmcjedaa
/- THE CELL 'sum', in the pinned program and in every row, IS THE sha256 OF THE DUMP (.gsa) THAT YtlepnpjlmcjedaaProg.lean LOADS. Nothing in Lean hashes anything: it is a label: what it is worth is what the hold of that sum in a sandbox is worth. -/
noncomputable def Try.pinned : Pinned := { name := "ytlepnpjlmcjedaa", sum := "6403089153a655c13542d0239990d655e1f5d9aaf1b884deb525d70a5fcf7915", checked := Try.checked }
namespace Rows
def none {H : Type} : Left H := { results := [], args := [] }

/-- 'gridironlaw02.HuffCodes': WHATEVER THE INPUT: true; the input reads as it did. -/
def huffCodesSpec : ChangeSpec := { name := "huffCodes", fn := fun _ => fun
  | [d] => { results := [.lit (.bool true)], args := [d] }
  | _ => none }
def huffCodesRow : OpenClaim := { program := "ytlepnpjlmcjedaa", sum := "6403089153a655c13542d0239990d655e1f5d9aaf1b884deb525d70a5fcf7915", func := "gridiron/gridironlaw02.HuffCodes", spec := "huffCodes", plainKeys := false, apart := false }
def HuffCodesSaid : Prop := huffCodesRow.holds Try.pinned (OpenSpec.ofChange huffCodesSpec)

/-- ITS FALSE NEIGHBOUR: 'it returns false'. Refute it at one input. -/
def huffCodesWrong : ChangeSpec := { name := "huffCodes", fn := fun _ => fun
  | [d] => { results := [.lit (.bool false)], args := [d] }
  | _ => none }
def HuffCodesWrongFalsely : Prop := huffCodesRow.holds Try.pinned (OpenSpec.ofChange huffCodesWrong)

/-- 'gridironlaw02.HuffAlone': WHATEVER THE INPUT: true; the input reads as it did. -/
def huffAloneSpec : ChangeSpec := { name := "huffAlone", fn := fun _ => fun
  | [d] => { results := [.lit (.bool true)], args := [d] }
  | _ => none }
def huffAloneRow : OpenClaim := { program := "ytlepnpjlmcjedaa", sum := "6403089153a655c13542d0239990d655e1f5d9aaf1b884deb525d70a5fcf7915", func := "gridiron/gridironlaw02.HuffAlone", spec := "huffAlone", plainKeys := false, apart := false }
def HuffAloneSaid : Prop := huffAloneRow.holds Try.pinned (OpenSpec.ofChange huffAloneSpec)

/-- ITS FALSE NEIGHBOUR: 'it returns false'. Refute it at one input. -/
def huffAloneWrong : ChangeSpec := { name := "huffAlone", fn := fun _ => fun
  | [d] => { results := [.lit (.bool false)], args := [d] }
  | _ => none }
def HuffAloneWrongFalsely : Prop := huffAloneRow.holds Try.pinned (OpenSpec.ofChange huffAloneWrong)

/-- 'gridironlaw01.BitioTurns': WHATEVER THE INPUT: true; the input reads as it did. -/
def bitioTurnsSpec : ChangeSpec := { name := "bitioTurns", fn := fun _ => fun
  | [d1, d2] => { results := [.lit (.bool true)], args := [d1, d2] }
  | _ => none }
def bitioTurnsRow : OpenClaim := { program := "ytlepnpjlmcjedaa", sum := "6403089153a655c13542d0239990d655e1f5d9aaf1b884deb525d70a5fcf7915", func := "gridiron/gridironlaw01.BitioTurns", spec := "bitioTurns", plainKeys := false, apart := false }
def BitioTurnsSaid : Prop := bitioTurnsRow.holds Try.pinned (OpenSpec.ofChange bitioTurnsSpec)

/-- ITS FALSE NEIGHBOUR: 'it returns false'. Refute it at one input. -/
def bitioTurnsWrong : ChangeSpec := { name := "bitioTurns", fn := fun _ => fun
  | [d1, d2] => { results := [.lit (.bool false)], args := [d1, d2] }
  | _ => none }
def BitioTurnsWrongFalsely : Prop := bitioTurnsRow.holds Try.pinned (OpenSpec.ofChange bitioTurnsWrong)

/-- 'gridironlaw02.HuffChecks': WHATEVER THE INPUT: true; the input reads as it did. -/
def huffChecksSpec : ChangeSpec := { name := "huffChecks", fn := fun _ => fun
  | [d1, d2] => { results := [.lit (.bool true)], args := [d1, d2] }
  | _ => none }
def huffChecksRow : OpenClaim := { program := "ytlepnpjlmcjedaa", sum := "6403089153a655c13542d0239990d655e1f5d9aaf1b884deb525d70a5fcf7915", func := "gridiron/gridironlaw02.HuffChecks", spec := "huffChecks", plainKeys := false, apart := false }
def HuffChecksSaid : Prop := huffChecksRow.holds Try.pinned (OpenSpec.ofChange huffChecksSpec)

/-- ITS FALSE NEIGHBOUR: 'it returns false'. Refute it at one input. -/
def huffChecksWrong : ChangeSpec := { name := "huffChecks", fn := fun _ => fun
  | [d1, d2] => { results := [.lit (.bool false)], args := [d1, d2] }
  | _ => none }
def HuffChecksWrongFalsely : Prop := huffChecksRow.holds Try.pinned (OpenSpec.ofChange huffChecksWrong)

/-- 'gridironlaw01.BitioReads': WHATEVER THE INPUT: true; the input reads as it did. -/
def bitioReadsSpec : ChangeSpec := { name := "bitioReads", fn := fun _ => fun
  | [d1, d2] => { results := [.lit (.bool true)], args := [d1, d2] }
  | _ => none }
def bitioReadsRow : OpenClaim := { program := "ytlepnpjlmcjedaa", sum := "6403089153a655c13542d0239990d655e1f5d9aaf1b884deb525d70a5fcf7915", func := "gridiron/gridironlaw01.BitioReads", spec := "bitioReads", plainKeys := false, apart := false }
def BitioReadsSaid : Prop := bitioReadsRow.holds Try.pinned (OpenSpec.ofChange bitioReadsSpec)

/-- ITS FALSE NEIGHBOUR: 'it returns false'. Refute it at one input. -/
def bitioReadsWrong : ChangeSpec := { name := "bitioReads", fn := fun _ => fun
  | [d1, d2] => { results := [.lit (.bool false)], args := [d1, d2] }
  | _ => none }
def BitioReadsWrongFalsely : Prop := bitioReadsRow.holds Try.pinned (OpenSpec.ofChange bitioReadsWrong)

/-- 'gridironlaw01.BitioBack': WHATEVER THE INPUT: true; the input reads as it did. -/
def bitioBackSpec : ChangeSpec := { name := "bitioBack", fn := fun _ => fun
  | [d] => { results := [.lit (.bool true)], args := [d] }
  | _ => none }
def bitioBackRow : OpenClaim := { program := "ytlepnpjlmcjedaa", sum := "6403089153a655c13542d0239990d655e1f5d9aaf1b884deb525d70a5fcf7915", func := "gridiron/gridironlaw01.BitioBack", spec := "bitioBack", plainKeys := false, apart := false }
def BitioBackSaid : Prop := bitioBackRow.holds Try.pinned (OpenSpec.ofChange bitioBackSpec)

/-- ITS FALSE NEIGHBOUR: 'it returns false'. Refute it at one input. -/
def bitioBackWrong : ChangeSpec := { name := "bitioBack", fn := fun _ => fun
  | [d] => { results := [.lit (.bool false)], args := [d] }
  | _ => none }
def BitioBackWrongFalsely : Prop := bitioBackRow.holds Try.pinned (OpenSpec.ofChange bitioBackWrong)

/-- 'gridironlaw01.BitioOwn': WHATEVER THE INPUT: true; the input reads as it did. -/
def bitioOwnSpec : ChangeSpec := { name := "bitioOwn", fn := fun _ => fun
  | [d1, d2] => { results := [.lit (.bool true)], args := [d1, d2] }
  | _ => none }
def bitioOwnRow : OpenClaim := { program := "ytlepnpjlmcjedaa", sum := "6403089153a655c13542d0239990d655e1f5d9aaf1b884deb525d70a5fcf7915", func := "gridiron/gridironlaw01.BitioOwn", spec := "bitioOwn", plainKeys := false, apart := false }
def BitioOwnSaid : Prop := bitioOwnRow.holds Try.pinned (OpenSpec.ofChange bitioOwnSpec)

/-- ITS FALSE NEIGHBOUR: 'it returns false'. Refute it at one input. -/
def bitioOwnWrong : ChangeSpec := { name := "bitioOwn", fn := fun _ => fun
  | [d1, d2] => { results := [.lit (.bool false)], args := [d1, d2] }
  | _ => none }
def BitioOwnWrongFalsely : Prop := bitioOwnRow.holds Try.pinned (OpenSpec.ofChange bitioOwnWrong)

/-- 'gridironlaw01.BitioWrites': WHATEVER THE INPUT: true; the input reads as it did. -/
def bitioWritesSpec : ChangeSpec := { name := "bitioWrites", fn := fun _ => fun
  | [d] => { results := [.lit (.bool true)], args := [d] }
  | _ => none }
def bitioWritesRow : OpenClaim := { program := "ytlepnpjlmcjedaa", sum := "6403089153a655c13542d0239990d655e1f5d9aaf1b884deb525d70a5fcf7915", func := "gridiron/gridironlaw01.BitioWrites", spec := "bitioWrites", plainKeys := false, apart := false }
def BitioWritesSaid : Prop := bitioWritesRow.holds Try.pinned (OpenSpec.ofChange bitioWritesSpec)

/-- ITS FALSE NEIGHBOUR: 'it returns false'. Refute it at one input. -/
def bitioWritesWrong : ChangeSpec := { name := "bitioWrites", fn := fun _ => fun
  | [d] => { results := [.lit (.bool false)], args := [d] }
  | _ => none }
def BitioWritesWrongFalsely : Prop := bitioWritesRow.holds Try.pinned (OpenSpec.ofChange bitioWritesWrong)

/-- 'gridironlaw02.HuffReads': WHATEVER THE INPUT: true; the input reads as it did. -/
def huffReadsSpec : ChangeSpec := { name := "huffReads", fn := fun _ => fun
  | [d1, d2, d3] => { results := [.lit (.bool true)], args := [d1, d2, d3] }
  | _ => none }
def huffReadsRow : OpenClaim := { program := "ytlepnpjlmcjedaa", sum := "6403089153a655c13542d0239990d655e1f5d9aaf1b884deb525d70a5fcf7915", func := "gridiron/gridironlaw02.HuffReads", spec := "huffReads", plainKeys := false, apart := false }
def HuffReadsSaid : Prop := huffReadsRow.holds Try.pinned (OpenSpec.ofChange huffReadsSpec)

/-- ITS FALSE NEIGHBOUR: 'it returns false'. Refute it at one input. -/
def huffReadsWrong : ChangeSpec := { name := "huffReads", fn := fun _ => fun
  | [d1, d2, d3] => { results := [.lit (.bool false)], args := [d1, d2, d3] }
  | _ => none }
def HuffReadsWrongFalsely : Prop := huffReadsRow.holds Try.pinned (OpenSpec.ofChange huffReadsWrong)

/-- 'gridironlaw02.HuffPuts': WHATEVER THE INPUT: true; the input reads as it did. -/
def huffPutsSpec : ChangeSpec := { name := "huffPuts", fn := fun _ => fun
  | [d1, d2, d3, d4] => { results := [.lit (.bool true)], args := [d1, d2, d3, d4] }
  | _ => none }
def huffPutsRow : OpenClaim := { program := "ytlepnpjlmcjedaa", sum := "6403089153a655c13542d0239990d655e1f5d9aaf1b884deb525d70a5fcf7915", func := "gridiron/gridironlaw02.HuffPuts", spec := "huffPuts", plainKeys := false, apart := false }
def HuffPutsSaid : Prop := huffPutsRow.holds Try.pinned (OpenSpec.ofChange huffPutsSpec)

/-- ITS FALSE NEIGHBOUR: 'it returns false'. Refute it at one input. -/
def huffPutsWrong : ChangeSpec := { name := "huffPuts", fn := fun _ => fun
  | [d1, d2, d3, d4] => { results := [.lit (.bool false)], args := [d1, d2, d3, d4] }
  | _ => none }
def HuffPutsWrongFalsely : Prop := huffPutsRow.holds Try.pinned (OpenSpec.ofChange huffPutsWrong)

/-- 'gridironlaw02.HuffOwn': WHATEVER THE INPUT: true; the input reads as it did. -/
def huffOwnSpec : ChangeSpec := { name := "huffOwn", fn := fun _ => fun
  | [d1, d2] => { results := [.lit (.bool true)], args := [d1, d2] }
  | _ => none }
def huffOwnRow : OpenClaim := { program := "ytlepnpjlmcjedaa", sum := "6403089153a655c13542d0239990d655e1f5d9aaf1b884deb525d70a5fcf7915", func := "gridiron/gridironlaw02.HuffOwn", spec := "huffOwn", plainKeys := false, apart := false }
def HuffOwnSaid : Prop := huffOwnRow.holds Try.pinned (OpenSpec.ofChange huffOwnSpec)

/-- ITS FALSE NEIGHBOUR: 'it returns false'. Refute it at one input. -/
def huffOwnWrong : ChangeSpec := { name := "huffOwn", fn := fun _ => fun
  | [d1, d2] => { results := [.lit (.bool false)], args := [d1, d2] }
  | _ => none }
def HuffOwnWrongFalsely : Prop := huffOwnRow.holds Try.pinned (OpenSpec.ofChange huffOwnWrong)

/-- 'gridironlaw01.BitioNone': WHATEVER THE INPUT: true; the input reads as it did. -/
def bitioNoneSpec : ChangeSpec := { name := "bitioNone", fn := fun _ => fun
  | [d1, d2, d3] => { results := [.lit (.bool true)], args := [d1, d2, d3] }
  | _ => none }
def bitioNoneRow : OpenClaim := { program := "ytlepnpjlmcjedaa", sum := "6403089153a655c13542d0239990d655e1f5d9aaf1b884deb525d70a5fcf7915", func := "gridiron/gridironlaw01.BitioNone", spec := "bitioNone", plainKeys := false, apart := false }
def BitioNoneSaid : Prop := bitioNoneRow.holds Try.pinned (OpenSpec.ofChange bitioNoneSpec)

/-- ITS FALSE NEIGHBOUR: 'it returns false'. Refute it at one input. -/
def bitioNoneWrong : ChangeSpec := { name := "bitioNone", fn := fun _ => fun
  | [d1, d2, d3] => { results := [.lit (.bool false)], args := [d1, d2, d3] }
  | _ => none }
def BitioNoneWrongFalsely : Prop := bitioNoneRow.holds Try.pinned (OpenSpec.ofChange bitioNoneWrong)

/-- 'gridironlaw02.HuffNone': WHATEVER THE INPUT: true; the input reads as it did. -/
def huffNoneSpec : ChangeSpec := { name := "huffNone", fn := fun _ => fun
  | [d] => { results := [.lit (.bool true)], args := [d] }
  | _ => none }
def huffNoneRow : OpenClaim := { program := "ytlepnpjlmcjedaa", sum := "6403089153a655c13542d0239990d655e1f5d9aaf1b884deb525d70a5fcf7915", func := "gridiron/gridironlaw02.HuffNone", spec := "huffNone", plainKeys := false, apart := false }
def HuffNoneSaid : Prop := huffNoneRow.holds Try.pinned (OpenSpec.ofChange huffNoneSpec)

/-- ITS FALSE NEIGHBOUR: 'it returns false'. Refute it at one input. -/
def huffNoneWrong : ChangeSpec := { name := "huffNone", fn := fun _ => fun
  | [d] => { results := [.lit (.bool false)], args := [d] }
  | _ => none }
def HuffNoneWrongFalsely : Prop := huffNoneRow.holds Try.pinned (OpenSpec.ofChange huffNoneWrong)

/-- 'gridironlaw02.HuffBack': WHATEVER THE INPUT: true; the input reads as it did. -/
def huffBackSpec : ChangeSpec := { name := "huffBack", fn := fun _ => fun
  | [d1, d2] => { results := [.lit (.bool true)], args := [d1, d2] }
  | _ => none }
def huffBackRow : OpenClaim := { program := "ytlepnpjlmcjedaa", sum := "6403089153a655c13542d0239990d655e1f5d9aaf1b884deb525d70a5fcf7915", func := "gridiron/gridironlaw02.HuffBack", spec := "huffBack", plainKeys := false, apart := false }
def HuffBackSaid : Prop := huffBackRow.holds Try.pinned (OpenSpec.ofChange huffBackSpec)

/-- ITS FALSE NEIGHBOUR: 'it returns false'. Refute it at one input. -/
def huffBackWrong : ChangeSpec := { name := "huffBack", fn := fun _ => fun
  | [d1, d2] => { results := [.lit (.bool false)], args := [d1, d2] }
  | _ => none }
def HuffBackWrongFalsely : Prop := huffBackRow.holds Try.pinned (OpenSpec.ofChange huffBackWrong)

/-- 'gridironlaw02.HuffLeast': WHATEVER THE INPUT: true; the input reads as it did. -/
def huffLeastSpec : ChangeSpec := { name := "huffLeast", fn := fun _ => fun
  | [d1, d2] => { results := [.lit (.bool true)], args := [d1, d2] }
  | _ => none }
def huffLeastRow : OpenClaim := { program := "ytlepnpjlmcjedaa", sum := "6403089153a655c13542d0239990d655e1f5d9aaf1b884deb525d70a5fcf7915", func := "gridiron/gridironlaw02.HuffLeast", spec := "huffLeast", unfollowed := true, recurses := true, plainKeys := false, apart := false }
def HuffLeastSaid : Prop := huffLeastRow.holds Try.pinned (OpenSpec.ofChange huffLeastSpec)

/-- ITS FALSE NEIGHBOUR: 'it returns false'. Refute it at one input. -/
def huffLeastWrong : ChangeSpec := { name := "huffLeast", fn := fun _ => fun
  | [d1, d2] => { results := [.lit (.bool false)], args := [d1, d2] }
  | _ => none }
def HuffLeastWrongFalsely : Prop := huffLeastRow.holds Try.pinned (OpenSpec.ofChange huffLeastWrong)

/- THE SECOND FORM. 'bulk': how many values and letters a reading holds, each counted each time it is reached (what is shared counts as often as it is met; a slice's spare places count too). A statement '..UptoSaid' is the law's where the arguments, and the package variables that the reading takes, are together of bulk at most 1048576: NARROWER than '..Said'. Prove '..Said' where nothing that the law and all that it calls make is longer than what came in: it says more and counts as full. Else prove '..UptoSaid'. A law counts once. -/
mutual
def uptoBulk {H : Type} : DataW H → Nat
  | .lit (.string bytes) => bytes.length + 1
  | .lit _ => 1
  | .nil => 1
  | .ptr d => uptoBulk d + 1
  | .slice elems spare => uptoBulkAll elems + uptoBulkAll spare + 1
  | .agg parts => uptoBulkAll parts + 1
  | .iface _ d => uptoBulk d + 1
  | .map entries => uptoBulkEntries entries + 1
  | .held _ => 1
def uptoBulkAll {H : Type} : List (DataW H) → Nat
  | [] => 0
  | d :: r => uptoBulk d + uptoBulkAll r
def uptoBulkEntries {H : Type} : List (Lit × DataW H) → Nat
  | [] => 0
  | x :: r => uptoBulkEntry x + uptoBulkEntries r
def uptoBulkEntry {H : Type} : Lit × DataW H → Nat
  | (.string bytes, d) => bytes.length + uptoBulk d + 1
  | (_, d) => uptoBulk d + 1
 end
def uptoSmall : (H : Type) → List (DataW H) → Bool := fun _ ds => decide (uptoBulkAll ds ≤ 1048576)
def OpenSpec.upto (s : _root_.Go.ChangeSpec) : _root_.Go.OpenSpec := { _root_.Go.OpenSpec.ofChange s with cond := some uptoSmall }

/-- 'gridironlaw02.HuffCodes', WHERE WHAT IT READS IS OF BULK AT MOST 1048576: true; the input reads as it did. -/
def huffCodesUptoRow : OpenClaim := { program := "ytlepnpjlmcjedaa", sum := "6403089153a655c13542d0239990d655e1f5d9aaf1b884deb525d70a5fcf7915", func := "gridiron/gridironlaw02.HuffCodes", spec := "huffCodes", plainKeys := false, apart := false, narrowed := true }
def HuffCodesUptoSaid : Prop := huffCodesUptoRow.holds Try.pinned (OpenSpec.upto huffCodesSpec)

/-- 'gridironlaw02.HuffAlone', WHERE WHAT IT READS IS OF BULK AT MOST 1048576: true; the input reads as it did. -/
def huffAloneUptoRow : OpenClaim := { program := "ytlepnpjlmcjedaa", sum := "6403089153a655c13542d0239990d655e1f5d9aaf1b884deb525d70a5fcf7915", func := "gridiron/gridironlaw02.HuffAlone", spec := "huffAlone", plainKeys := false, apart := false, narrowed := true }
def HuffAloneUptoSaid : Prop := huffAloneUptoRow.holds Try.pinned (OpenSpec.upto huffAloneSpec)

/-- 'gridironlaw01.BitioTurns', WHERE WHAT IT READS IS OF BULK AT MOST 1048576: true; the input reads as it did. -/
def bitioTurnsUptoRow : OpenClaim := { program := "ytlepnpjlmcjedaa", sum := "6403089153a655c13542d0239990d655e1f5d9aaf1b884deb525d70a5fcf7915", func := "gridiron/gridironlaw01.BitioTurns", spec := "bitioTurns", plainKeys := false, apart := false, narrowed := true }
def BitioTurnsUptoSaid : Prop := bitioTurnsUptoRow.holds Try.pinned (OpenSpec.upto bitioTurnsSpec)

/-- 'gridironlaw02.HuffChecks', WHERE WHAT IT READS IS OF BULK AT MOST 1048576: true; the input reads as it did. -/
def huffChecksUptoRow : OpenClaim := { program := "ytlepnpjlmcjedaa", sum := "6403089153a655c13542d0239990d655e1f5d9aaf1b884deb525d70a5fcf7915", func := "gridiron/gridironlaw02.HuffChecks", spec := "huffChecks", plainKeys := false, apart := false, narrowed := true }
def HuffChecksUptoSaid : Prop := huffChecksUptoRow.holds Try.pinned (OpenSpec.upto huffChecksSpec)

/-- 'gridironlaw01.BitioReads', WHERE WHAT IT READS IS OF BULK AT MOST 1048576: true; the input reads as it did. -/
def bitioReadsUptoRow : OpenClaim := { program := "ytlepnpjlmcjedaa", sum := "6403089153a655c13542d0239990d655e1f5d9aaf1b884deb525d70a5fcf7915", func := "gridiron/gridironlaw01.BitioReads", spec := "bitioReads", plainKeys := false, apart := false, narrowed := true }
def BitioReadsUptoSaid : Prop := bitioReadsUptoRow.holds Try.pinned (OpenSpec.upto bitioReadsSpec)

/-- 'gridironlaw01.BitioBack', WHERE WHAT IT READS IS OF BULK AT MOST 1048576: true; the input reads as it did. -/
def bitioBackUptoRow : OpenClaim := { program := "ytlepnpjlmcjedaa", sum := "6403089153a655c13542d0239990d655e1f5d9aaf1b884deb525d70a5fcf7915", func := "gridiron/gridironlaw01.BitioBack", spec := "bitioBack", plainKeys := false, apart := false, narrowed := true }
def BitioBackUptoSaid : Prop := bitioBackUptoRow.holds Try.pinned (OpenSpec.upto bitioBackSpec)

/-- 'gridironlaw01.BitioOwn', WHERE WHAT IT READS IS OF BULK AT MOST 1048576: true; the input reads as it did. -/
def bitioOwnUptoRow : OpenClaim := { program := "ytlepnpjlmcjedaa", sum := "6403089153a655c13542d0239990d655e1f5d9aaf1b884deb525d70a5fcf7915", func := "gridiron/gridironlaw01.BitioOwn", spec := "bitioOwn", plainKeys := false, apart := false, narrowed := true }
def BitioOwnUptoSaid : Prop := bitioOwnUptoRow.holds Try.pinned (OpenSpec.upto bitioOwnSpec)

/-- 'gridironlaw01.BitioWrites', WHERE WHAT IT READS IS OF BULK AT MOST 1048576: true; the input reads as it did. -/
def bitioWritesUptoRow : OpenClaim := { program := "ytlepnpjlmcjedaa", sum := "6403089153a655c13542d0239990d655e1f5d9aaf1b884deb525d70a5fcf7915", func := "gridiron/gridironlaw01.BitioWrites", spec := "bitioWrites", plainKeys := false, apart := false, narrowed := true }
def BitioWritesUptoSaid : Prop := bitioWritesUptoRow.holds Try.pinned (OpenSpec.upto bitioWritesSpec)

/-- 'gridironlaw02.HuffReads', WHERE WHAT IT READS IS OF BULK AT MOST 1048576: true; the input reads as it did. -/
def huffReadsUptoRow : OpenClaim := { program := "ytlepnpjlmcjedaa", sum := "6403089153a655c13542d0239990d655e1f5d9aaf1b884deb525d70a5fcf7915", func := "gridiron/gridironlaw02.HuffReads", spec := "huffReads", plainKeys := false, apart := false, narrowed := true }
def HuffReadsUptoSaid : Prop := huffReadsUptoRow.holds Try.pinned (OpenSpec.upto huffReadsSpec)

/-- 'gridironlaw02.HuffPuts', WHERE WHAT IT READS IS OF BULK AT MOST 1048576: true; the input reads as it did. -/
def huffPutsUptoRow : OpenClaim := { program := "ytlepnpjlmcjedaa", sum := "6403089153a655c13542d0239990d655e1f5d9aaf1b884deb525d70a5fcf7915", func := "gridiron/gridironlaw02.HuffPuts", spec := "huffPuts", plainKeys := false, apart := false, narrowed := true }
def HuffPutsUptoSaid : Prop := huffPutsUptoRow.holds Try.pinned (OpenSpec.upto huffPutsSpec)

/-- 'gridironlaw02.HuffOwn', WHERE WHAT IT READS IS OF BULK AT MOST 1048576: true; the input reads as it did. -/
def huffOwnUptoRow : OpenClaim := { program := "ytlepnpjlmcjedaa", sum := "6403089153a655c13542d0239990d655e1f5d9aaf1b884deb525d70a5fcf7915", func := "gridiron/gridironlaw02.HuffOwn", spec := "huffOwn", plainKeys := false, apart := false, narrowed := true }
def HuffOwnUptoSaid : Prop := huffOwnUptoRow.holds Try.pinned (OpenSpec.upto huffOwnSpec)

/-- 'gridironlaw01.BitioNone', WHERE WHAT IT READS IS OF BULK AT MOST 1048576: true; the input reads as it did. -/
def bitioNoneUptoRow : OpenClaim := { program := "ytlepnpjlmcjedaa", sum := "6403089153a655c13542d0239990d655e1f5d9aaf1b884deb525d70a5fcf7915", func := "gridiron/gridironlaw01.BitioNone", spec := "bitioNone", plainKeys := false, apart := false, narrowed := true }
def BitioNoneUptoSaid : Prop := bitioNoneUptoRow.holds Try.pinned (OpenSpec.upto bitioNoneSpec)

/-- 'gridironlaw02.HuffNone', WHERE WHAT IT READS IS OF BULK AT MOST 1048576: true; the input reads as it did. -/
def huffNoneUptoRow : OpenClaim := { program := "ytlepnpjlmcjedaa", sum := "6403089153a655c13542d0239990d655e1f5d9aaf1b884deb525d70a5fcf7915", func := "gridiron/gridironlaw02.HuffNone", spec := "huffNone", plainKeys := false, apart := false, narrowed := true }
def HuffNoneUptoSaid : Prop := huffNoneUptoRow.holds Try.pinned (OpenSpec.upto huffNoneSpec)

/-- 'gridironlaw02.HuffBack', WHERE WHAT IT READS IS OF BULK AT MOST 1048576: true; the input reads as it did. -/
def huffBackUptoRow : OpenClaim := { program := "ytlepnpjlmcjedaa", sum := "6403089153a655c13542d0239990d655e1f5d9aaf1b884deb525d70a5fcf7915", func := "gridiron/gridironlaw02.HuffBack", spec := "huffBack", plainKeys := false, apart := false, narrowed := true }
def HuffBackUptoSaid : Prop := huffBackUptoRow.holds Try.pinned (OpenSpec.upto huffBackSpec)

/-- 'gridironlaw02.HuffLeast', WHERE WHAT IT READS IS OF BULK AT MOST 1048576: true; the input reads as it did. -/
def huffLeastUptoRow : OpenClaim := { program := "ytlepnpjlmcjedaa", sum := "6403089153a655c13542d0239990d655e1f5d9aaf1b884deb525d70a5fcf7915", func := "gridiron/gridironlaw02.HuffLeast", spec := "huffLeast", unfollowed := true, recurses := true, plainKeys := false, apart := false, narrowed := true }
def HuffLeastUptoSaid : Prop := huffLeastUptoRow.holds Try.pinned (OpenSpec.upto huffLeastSpec)

end Rows
end Go.Proofs.Ytlepnpjlmcjedaa
