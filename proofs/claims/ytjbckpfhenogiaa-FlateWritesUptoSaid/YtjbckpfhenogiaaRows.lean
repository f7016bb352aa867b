/-
  No cell of these rows narrows 'for every input' (looked for: loops, veiled, ifaces, maps, wideKeys, modest, calm, conditions, laid).
  DERIVED. THE GIVEN ROWS OF THIS SEAT. 5 by the template 'for every input the law returns true; each argument reads behind the call as it read before'; 0 by the template 'total and deterministic' (their statements: YtjbckpfhenogiaaTotals.lean).
  GIVEN WITH THE SEED: the statements are not yours to turn. If you find one false, say at which input.
  Laid BY PROGRAM, IN A SANDBOX (cutbox-rows.mjs): the forced cells as the released guide's own fill.sh prints them over the translation 9f157591ffe5ee22… (all of the seat's roots in one cut). By AI agents, Wed Nov 11 2026. No macro, syntax, notation, axiom, sorry.
-/
import Derived.Test.YtjbckpfhenogiaaChecked
import GoSem.Claim
import GoSem.ClaimJoined
import GoSem.ClaimMapViews
import Derived.JoinedTies
import Derived.KernelRfl
namespace Go.Proofs.Ytjbckpfhenogiaa
/- THE CELL 'sum', in the pinned program and in every row, IS THE sha256 OF THE DUMP (.gsa) THAT YtjbckpfhenogiaaProg.lean LOADS. Nothing in Lean hashes anything: it is a label: what it is worth is what the hold of that sum in a sandbox is worth. -/
noncomputable def Try.pinned : Pinned := { name := "ytjbckpfhenogiaa", sum := "9f157591ffe5ee22b229053df16a66378e639f4091c57af89188f71ae18dde6c", checked := Try.checked }
namespace Rows
def none {H : Type} : Left H := { results := [], args := [] }

/-- 'gridironlaw03.FlateWrites': WHATEVER THE INPUT: true; the input reads as it did. -/
def flateWritesSpec : ChangeSpec := { name := "flateWrites", fn := fun _ => fun
  | [d] => { results := [.lit (.bool true)], args := [d] }
  | _ => none }
def flateWritesRow : OpenClaim := { program := "ytjbckpfhenogiaa", sum := "9f157591ffe5ee22b229053df16a66378e639f4091c57af89188f71ae18dde6c", func := "gridiron/gridironlaw03.FlateWrites", spec := "flateWrites", unfollowed := true, recurses := true, plainKeys := false, apart := false }
def FlateWritesSaid : Prop := flateWritesRow.holds Try.pinned (OpenSpec.ofChange flateWritesSpec)

/-- ITS FALSE NEIGHBOUR: 'it returns false'. Refute it at one input. -/
def flateWritesWrong : ChangeSpec := { name := "flateWrites", fn := fun _ => fun
  | [d] => { results := [.lit (.bool false)], args := [d] }
  | _ => none }
def FlateWritesWrongFalsely : Prop := flateWritesRow.holds Try.pinned (OpenSpec.ofChange flateWritesWrong)

/-- 'gridironlaw03.FlateBack': WHATEVER THE INPUT: true; the input reads as it did. -/
def flateBackSpec : ChangeSpec := { name := "flateBack", fn := fun _ => fun
  | [d1, d2] => { results := [.lit (.bool true)], args := [d1, d2] }
  | _ => none }
def flateBackRow : OpenClaim := { program := "ytjbckpfhenogiaa", sum := "9f157591ffe5ee22b229053df16a66378e639f4091c57af89188f71ae18dde6c", func := "gridiron/gridironlaw03.FlateBack", spec := "flateBack", unfollowed := true, recurses := true, plainKeys := false, apart := false }
def FlateBackSaid : Prop := flateBackRow.holds Try.pinned (OpenSpec.ofChange flateBackSpec)

/-- ITS FALSE NEIGHBOUR: 'it returns false'. Refute it at one input. -/
def flateBackWrong : ChangeSpec := { name := "flateBack", fn := fun _ => fun
  | [d1, d2] => { results := [.lit (.bool false)], args := [d1, d2] }
  | _ => none }
def FlateBackWrongFalsely : Prop := flateBackRow.holds Try.pinned (OpenSpec.ofChange flateBackWrong)

/-- 'gridironlaw03.FlateHeads': WHATEVER THE INPUT: true; the input reads as it did. -/
def flateHeadsSpec : ChangeSpec := { name := "flateHeads", fn := fun _ => fun
  | [d1, d2] => { results := [.lit (.bool true)], args := [d1, d2] }
  | _ => none }
def flateHeadsRow : OpenClaim := { program := "ytjbckpfhenogiaa", sum := "9f157591ffe5ee22b229053df16a66378e639f4091c57af89188f71ae18dde6c", func := "gridiron/gridironlaw03.FlateHeads", spec := "flateHeads", unfollowed := true, recurses := true, plainKeys := false, apart := false }
def FlateHeadsSaid : Prop := flateHeadsRow.holds Try.pinned (OpenSpec.ofChange flateHeadsSpec)

/-- ITS FALSE NEIGHBOUR: 'it returns false'. Refute it at one input. -/
def flateHeadsWrong : ChangeSpec := { name := "flateHeads", fn := fun _ => fun
  | [d1, d2] => { results := [.lit (.bool false)], args := [d1, d2] }
  | _ => none }
def FlateHeadsWrongFalsely : Prop := flateHeadsRow.holds Try.pinned (OpenSpec.ofChange flateHeadsWrong)

/-- 'gridironlaw03.FlateOwn': WHATEVER THE INPUT: true; the input reads as it did. -/
def flateOwnSpec : ChangeSpec := { name := "flateOwn", fn := fun _ => fun
  | [d] => { results := [.lit (.bool true)], args := [d] }
  | _ => none }
def flateOwnRow : OpenClaim := { program := "ytjbckpfhenogiaa", sum := "9f157591ffe5ee22b229053df16a66378e639f4091c57af89188f71ae18dde6c", func := "gridiron/gridironlaw03.FlateOwn", spec := "flateOwn", unfollowed := true, recurses := true, plainKeys := false, apart := false }
def FlateOwnSaid : Prop := flateOwnRow.holds Try.pinned (OpenSpec.ofChange flateOwnSpec)

/-- ITS FALSE NEIGHBOUR: 'it returns false'. Refute it at one input. -/
def flateOwnWrong : ChangeSpec := { name := "flateOwn", fn := fun _ => fun
  | [d] => { results := [.lit (.bool false)], args := [d] }
  | _ => none }
def FlateOwnWrongFalsely : Prop := flateOwnRow.holds Try.pinned (OpenSpec.ofChange flateOwnWrong)

/-- 'gridironlaw03.FlateShrinks': WHATEVER THE INPUT: true; the input reads as it did. -/
def flateShrinksSpec : ChangeSpec := { name := "flateShrinks", fn := fun _ => fun
  | [d1, d2] => { results := [.lit (.bool true)], args := [d1, d2] }
  | _ => none }
def flateShrinksRow : OpenClaim := { program := "ytjbckpfhenogiaa", sum := "9f157591ffe5ee22b229053df16a66378e639f4091c57af89188f71ae18dde6c", func := "gridiron/gridironlaw03.FlateShrinks", spec := "flateShrinks", inPlace := ["internal/bytealg.MakeNoZero"], unfollowed := true, recurses := true, plainKeys := false, apart := false }
def FlateShrinksSaid : Prop := flateShrinksRow.holds Try.pinned (OpenSpec.ofChange flateShrinksSpec)

/-- ITS FALSE NEIGHBOUR: 'it returns false'. Refute it at one input. -/
def flateShrinksWrong : ChangeSpec := { name := "flateShrinks", fn := fun _ => fun
  | [d1, d2] => { results := [.lit (.bool false)], args := [d1, d2] }
  | _ => none }
def FlateShrinksWrongFalsely : Prop := flateShrinksRow.holds Try.pinned (OpenSpec.ofChange flateShrinksWrong)

/- THE SECOND FORM. 'bulk': how many values and letters a reading holds, each counted each time it is reached (what is shared counts as often as it is met; a slice's spare places count too). A statement '..UptoSaid' is the law's where the arguments, and the package variables that the reading takes, are together of bulk at most 1048576: NARROWER than '..Said'. Prove '..Said' where nothing that the law and all that it calls make is longer than what came in: it says more and counts as full. Else prove '..UptoSaid'. A law counts once. -/
mutual
def uptoBulk {H : Type} : DataW H → Nat
  | .lit (.string bytes) => bytes.length + 1
  | .lit _ => 1
  | .nil => 1
  | .ptr d => uptoBulk d + 1
  | .slice elems spare => uptoBulkAll elems + uptoBulkAll spare + 1
  | .agg parts => uptoBulkAll parts + 1
  | .iface _ d => uptoBulk d + 1
  | .map entries => uptoBulkEntries entries + 1
  | .held _ => 1
def uptoBulkAll {H : Type} : List (DataW H) → Nat
  | [] => 0
  | d :: r => uptoBulk d + uptoBulkAll r
def uptoBulkEntries {H : Type} : List (Lit × DataW H) → Nat
  | [] => 0
  | x :: r => uptoBulkEntry x + uptoBulkEntries r
def uptoBulkEntry {H : Type} : Lit × DataW H → Nat
  | (.string bytes, d) => bytes.length + uptoBulk d + 1
  | (_, d) => uptoBulk d + 1
 end
def uptoSmall : (H : Type) → List (DataW H) → Bool := fun _ ds => decide (uptoBulkAll ds ≤ 1048576)
def OpenSpec.upto (s : _root_.Go.ChangeSpec) : _root_.Go.OpenSpec := { _root_.Go.OpenSpec.ofChange s with cond := some uptoSmall }

/-- 'gridironlaw03.FlateWrites', WHERE WHAT IT READS IS OF BULK AT MOST 1048576: true; the input reads as it did. -/
def flateWritesUptoRow : OpenClaim := { program := "ytjbckpfhenogiaa", sum := "9f157591ffe5ee22b229053df16a66378e639f4091c57af89188f71ae18dde6c", func := "gridiron/gridironlaw03.FlateWrites", spec := "flateWrites", unfollowed := true, recurses := true, plainKeys := false, apart := false, narrowed := true }
def FlateWritesUptoSaid : Prop := flateWritesUptoRow.holds Try.pinned (OpenSpec.upto flateWritesSpec)

/-- 'gridironlaw03.FlateBack', WHERE WHAT IT READS IS OF BULK AT MOST 1048576: true; the input reads as it did. -/
def flateBackUptoRow : OpenClaim := { program := "ytjbckpfhenogiaa", sum := "9f157591ffe5ee22b229053df16a66378e639f4091c57af89188f71ae18dde6c", func := "gridiron/gridironlaw03.FlateBack", spec := "flateBack", unfollowed := true, recurses := true, plainKeys := false, apart := false, narrowed := true }
def FlateBackUptoSaid : Prop := flateBackUptoRow.holds Try.pinned (OpenSpec.upto flateBackSpec)

/-- 'gridironlaw03.FlateHeads', WHERE WHAT IT READS IS OF BULK AT MOST 1048576: true; the input reads as it did. -/
def flateHeadsUptoRow : OpenClaim := { program := "ytjbckpfhenogiaa", sum := "9f157591ffe5ee22b229053df16a66378e639f4091c57af89188f71ae18dde6c", func := "gridiron/gridironlaw03.FlateHeads", spec := "flateHeads", unfollowed := true, recurses := true, plainKeys := false, apart := false, narrowed := true }
def FlateHeadsUptoSaid : Prop := flateHeadsUptoRow.holds Try.pinned (OpenSpec.upto flateHeadsSpec)

/-- 'gridironlaw03.FlateOwn', WHERE WHAT IT READS IS OF BULK AT MOST 1048576: true; the input reads as it did. -/
def flateOwnUptoRow : OpenClaim := { program := "ytjbckpfhenogiaa", sum := "9f157591ffe5ee22b229053df16a66378e639f4091c57af89188f71ae18dde6c", func := "gridiron/gridironlaw03.FlateOwn", spec := "flateOwn", unfollowed := true, recurses := true, plainKeys := false, apart := false, narrowed := true }
def FlateOwnUptoSaid : Prop := flateOwnUptoRow.holds Try.pinned (OpenSpec.upto flateOwnSpec)

/-- 'gridironlaw03.FlateShrinks', WHERE WHAT IT READS IS OF BULK AT MOST 1048576: true; the input reads as it did. -/
def flateShrinksUptoRow : OpenClaim := { program := "ytjbckpfhenogiaa", sum := "9f157591ffe5ee22b229053df16a66378e639f4091c57af89188f71ae18dde6c", func := "gridiron/gridironlaw03.FlateShrinks", spec := "flateShrinks", inPlace := ["internal/bytealg.MakeNoZero"], unfollowed := true, recurses := true, plainKeys := false, apart := false, narrowed := true }
def FlateShrinksUptoSaid : Prop := flateShrinksUptoRow.holds Try.pinned (OpenSpec.upto flateShrinksSpec)

end Rows
end Go.Proofs.Ytjbckpfhenogiaa
