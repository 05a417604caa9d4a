/-
  No cell of these rows narrows 'for every input' (looked for: loops, veiled, ifaces, maps, wideKeys, modest, calm, conditions, laid).
  DERIVED. THE GIVEN ROWS OF THIS SEAT. 12 by the template 'for every input the law returns true; each argument reads behind the call as it read before'; 0 by the template 'total and deterministic' (their statements: YtkjoojmlcjmlgaaTotals.lean).
  GIVEN WITH THE SEED: the statements are not yours to turn. If you find one false, say at which input.
  Laid BY PROGRAM, IN A SANDBOX (cutbox-rows.mjs): the forced cells as the released guide's own fill.sh prints them over the translation 4f8b7d730a68bcd3… (all of the seat's roots in one cut). By AI agents, Wed Nov 11 2026. No macro, syntax, notation, axiom, sorry.
-/
import Derived.Test.YtkjoojmlcjmlgaaChecked
import GoSem.Claim
import GoSem.ClaimJoined
import GoSem.ClaimMapViews
import Derived.JoinedTies
import Derived.KernelRfl
namespace Go.Proofs.Ytkjoojmlcjmlgaa
/- THE CELL 'sum', in the pinned program and in every row, IS THE sha256 OF THE DUMP (.gsa) THAT YtkjoojmlcjmlgaaProg.lean LOADS. Nothing in Lean hashes anything: it is a label: what it is worth is what the hold of that sum in a sandbox is worth. -/
noncomputable def Try.pinned : Pinned := { name := "ytkjoojmlcjmlgaa", sum := "4f8b7d730a68bcd3bc9e51ab09cc810a9bd37bec5072f27fd5ffbe26af56337e", checked := Try.checked }
namespace Rows
def none {H : Type} : Left H := { results := [], args := [] }

/-- 'motulaw07.CellPlays': WHATEVER THE INPUT: true; the input reads as it did. -/
def cellPlaysSpec : ChangeSpec := { name := "cellPlays", fn := fun _ => fun
  | [d1, d2, d3, d4, d5] => { results := [.lit (.bool true)], args := [d1, d2, d3, d4, d5] }
  | _ => none }
def cellPlaysRow : OpenClaim := { program := "ytkjoojmlcjmlgaa", sum := "4f8b7d730a68bcd3bc9e51ab09cc810a9bd37bec5072f27fd5ffbe26af56337e", func := "motu/motulaw07.CellPlays", spec := "cellPlays", unfollowed := true, recurses := true, plainKeys := false, apart := false }
def CellPlaysSaid : Prop := cellPlaysRow.holds Try.pinned (OpenSpec.ofChange cellPlaysSpec)

/-- ITS FALSE NEIGHBOUR: 'it returns false'. Refute it at one input. -/
def cellPlaysWrong : ChangeSpec := { name := "cellPlays", fn := fun _ => fun
  | [d1, d2, d3, d4, d5] => { results := [.lit (.bool false)], args := [d1, d2, d3, d4, d5] }
  | _ => none }
def CellPlaysWrongFalsely : Prop := cellPlaysRow.holds Try.pinned (OpenSpec.ofChange cellPlaysWrong)

/-- 'motulaw07.CellLedgers': WHATEVER THE INPUT: true; the input reads as it did. -/
def cellLedgersSpec : ChangeSpec := { name := "cellLedgers", fn := fun _ => fun
  | [d1, d2, d3, d4, d5] => { results := [.lit (.bool true)], args := [d1, d2, d3, d4, d5] }
  | _ => none }
def cellLedgersRow : OpenClaim := { program := "ytkjoojmlcjmlgaa", sum := "4f8b7d730a68bcd3bc9e51ab09cc810a9bd37bec5072f27fd5ffbe26af56337e", func := "motu/motulaw07.CellLedgers", spec := "cellLedgers", unfollowed := true, recurses := true, plainKeys := false, apart := false }
def CellLedgersSaid : Prop := cellLedgersRow.holds Try.pinned (OpenSpec.ofChange cellLedgersSpec)

/-- ITS FALSE NEIGHBOUR: 'it returns false'. Refute it at one input. -/
def cellLedgersWrong : ChangeSpec := { name := "cellLedgers", fn := fun _ => fun
  | [d1, d2, d3, d4, d5] => { results := [.lit (.bool false)], args := [d1, d2, d3, d4, d5] }
  | _ => none }
def CellLedgersWrongFalsely : Prop := cellLedgersRow.holds Try.pinned (OpenSpec.ofChange cellLedgersWrong)

/-- 'motulaw07.CellTrue': WHATEVER THE INPUT: true; the input reads as it did. -/
def cellTrueSpec : ChangeSpec := { name := "cellTrue", fn := fun _ => fun
  | [d1, d2, d3, d4, d5] => { results := [.lit (.bool true)], args := [d1, d2, d3, d4, d5] }
  | _ => none }
def cellTrueRow : OpenClaim := { program := "ytkjoojmlcjmlgaa", sum := "4f8b7d730a68bcd3bc9e51ab09cc810a9bd37bec5072f27fd5ffbe26af56337e", func := "motu/motulaw07.CellTrue", spec := "cellTrue", unfollowed := true, recurses := true, plainKeys := false, apart := false }
def CellTrueSaid : Prop := cellTrueRow.holds Try.pinned (OpenSpec.ofChange cellTrueSpec)

/-- ITS FALSE NEIGHBOUR: 'it returns false'. Refute it at one input. -/
def cellTrueWrong : ChangeSpec := { name := "cellTrue", fn := fun _ => fun
  | [d1, d2, d3, d4, d5] => { results := [.lit (.bool false)], args := [d1, d2, d3, d4, d5] }
  | _ => none }
def CellTrueWrongFalsely : Prop := cellTrueRow.holds Try.pinned (OpenSpec.ofChange cellTrueWrong)

/-- 'motulaw07.CellSharp': WHATEVER THE INPUT: true; the input reads as it did. -/
def cellSharpSpec : ChangeSpec := { name := "cellSharp", fn := fun _ => fun
  | [d1, d2, d3, d4, d5] => { results := [.lit (.bool true)], args := [d1, d2, d3, d4, d5] }
  | _ => none }
def cellSharpRow : OpenClaim := { program := "ytkjoojmlcjmlgaa", sum := "4f8b7d730a68bcd3bc9e51ab09cc810a9bd37bec5072f27fd5ffbe26af56337e", func := "motu/motulaw07.CellSharp", spec := "cellSharp", unfollowed := true, recurses := true, plainKeys := false, apart := false }
def CellSharpSaid : Prop := cellSharpRow.holds Try.pinned (OpenSpec.ofChange cellSharpSpec)

/-- ITS FALSE NEIGHBOUR: 'it returns false'. Refute it at one input. -/
def cellSharpWrong : ChangeSpec := { name := "cellSharp", fn := fun _ => fun
  | [d1, d2, d3, d4, d5] => { results := [.lit (.bool false)], args := [d1, d2, d3, d4, d5] }
  | _ => none }
def CellSharpWrongFalsely : Prop := cellSharpRow.holds Try.pinned (OpenSpec.ofChange cellSharpWrong)

/-- 'motulaw07.CellFaults': WHATEVER THE INPUT: true; the input reads as it did. -/
def cellFaultsSpec : ChangeSpec := { name := "cellFaults", fn := fun _ => fun
  | [d1, d2, d3, d4] => { results := [.lit (.bool true)], args := [d1, d2, d3, d4] }
  | _ => none }
def cellFaultsRow : OpenClaim := { program := "ytkjoojmlcjmlgaa", sum := "4f8b7d730a68bcd3bc9e51ab09cc810a9bd37bec5072f27fd5ffbe26af56337e", func := "motu/motulaw07.CellFaults", spec := "cellFaults", unfollowed := true, recurses := true, plainKeys := false, apart := false }
def CellFaultsSaid : Prop := cellFaultsRow.holds Try.pinned (OpenSpec.ofChange cellFaultsSpec)

/-- ITS FALSE NEIGHBOUR: 'it returns false'. Refute it at one input. -/
def cellFaultsWrong : ChangeSpec := { name := "cellFaults", fn := fun _ => fun
  | [d1, d2, d3, d4] => { results := [.lit (.bool false)], args := [d1, d2, d3, d4] }
  | _ => none }
def CellFaultsWrongFalsely : Prop := cellFaultsRow.holds Try.pinned (OpenSpec.ofChange cellFaultsWrong)

/-- 'motulaw07.CellCarried': WHATEVER THE INPUT: true; the input reads as it did. -/
def cellCarriedSpec : ChangeSpec := { name := "cellCarried", fn := fun _ => fun
  | [d1, d2, d3, d4, d5] => { results := [.lit (.bool true)], args := [d1, d2, d3, d4, d5] }
  | _ => none }
def cellCarriedRow : OpenClaim := { program := "ytkjoojmlcjmlgaa", sum := "4f8b7d730a68bcd3bc9e51ab09cc810a9bd37bec5072f27fd5ffbe26af56337e", func := "motu/motulaw07.CellCarried", spec := "cellCarried", unfollowed := true, recurses := true, plainKeys := false, apart := false }
def CellCarriedSaid : Prop := cellCarriedRow.holds Try.pinned (OpenSpec.ofChange cellCarriedSpec)

/-- ITS FALSE NEIGHBOUR: 'it returns false'. Refute it at one input. -/
def cellCarriedWrong : ChangeSpec := { name := "cellCarried", fn := fun _ => fun
  | [d1, d2, d3, d4, d5] => { results := [.lit (.bool false)], args := [d1, d2, d3, d4, d5] }
  | _ => none }
def CellCarriedWrongFalsely : Prop := cellCarriedRow.holds Try.pinned (OpenSpec.ofChange cellCarriedWrong)

/-- 'motulaw07.CellBests': WHATEVER THE INPUT: true; the input reads as it did. -/
def cellBestsSpec : ChangeSpec := { name := "cellBests", fn := fun _ => fun
  | [d] => { results := [.lit (.bool true)], args := [d] }
  | _ => none }
def cellBestsRow : OpenClaim := { program := "ytkjoojmlcjmlgaa", sum := "4f8b7d730a68bcd3bc9e51ab09cc810a9bd37bec5072f27fd5ffbe26af56337e", func := "motu/motulaw07.CellBests", spec := "cellBests", unfollowed := true, recurses := true, plainKeys := false, apart := false }
def CellBestsSaid : Prop := cellBestsRow.holds Try.pinned (OpenSpec.ofChange cellBestsSpec)

/-- ITS FALSE NEIGHBOUR: 'it returns false'. Refute it at one input. -/
def cellBestsWrong : ChangeSpec := { name := "cellBests", fn := fun _ => fun
  | [d] => { results := [.lit (.bool false)], args := [d] }
  | _ => none }
def CellBestsWrongFalsely : Prop := cellBestsRow.holds Try.pinned (OpenSpec.ofChange cellBestsWrong)

/-- 'motulaw07.CellRivals': WHATEVER THE INPUT: true; the input reads as it did. -/
def cellRivalsSpec : ChangeSpec := { name := "cellRivals", fn := fun _ => fun
  | [d1, d2, d3] => { results := [.lit (.bool true)], args := [d1, d2, d3] }
  | _ => none }
def cellRivalsRow : OpenClaim := { program := "ytkjoojmlcjmlgaa", sum := "4f8b7d730a68bcd3bc9e51ab09cc810a9bd37bec5072f27fd5ffbe26af56337e", func := "motu/motulaw07.CellRivals", spec := "cellRivals", unfollowed := true, recurses := true, plainKeys := false, apart := false }
def CellRivalsSaid : Prop := cellRivalsRow.holds Try.pinned (OpenSpec.ofChange cellRivalsSpec)

/-- ITS FALSE NEIGHBOUR: 'it returns false'. Refute it at one input. -/
def cellRivalsWrong : ChangeSpec := { name := "cellRivals", fn := fun _ => fun
  | [d1, d2, d3] => { results := [.lit (.bool false)], args := [d1, d2, d3] }
  | _ => none }
def CellRivalsWrongFalsely : Prop := cellRivalsRow.holds Try.pinned (OpenSpec.ofChange cellRivalsWrong)

/-- 'motulaw07.CellOffs': WHATEVER THE INPUT: true; the input reads as it did. -/
def cellOffsSpec : ChangeSpec := { name := "cellOffs", fn := fun _ => fun
  | [d1, d2, d3] => { results := [.lit (.bool true)], args := [d1, d2, d3] }
  | _ => none }
def cellOffsRow : OpenClaim := { program := "ytkjoojmlcjmlgaa", sum := "4f8b7d730a68bcd3bc9e51ab09cc810a9bd37bec5072f27fd5ffbe26af56337e", func := "motu/motulaw07.CellOffs", spec := "cellOffs", unfollowed := true, recurses := true, plainKeys := false, apart := false }
def CellOffsSaid : Prop := cellOffsRow.holds Try.pinned (OpenSpec.ofChange cellOffsSpec)

/-- ITS FALSE NEIGHBOUR: 'it returns false'. Refute it at one input. -/
def cellOffsWrong : ChangeSpec := { name := "cellOffs", fn := fun _ => fun
  | [d1, d2, d3] => { results := [.lit (.bool false)], args := [d1, d2, d3] }
  | _ => none }
def CellOffsWrongFalsely : Prop := cellOffsRow.holds Try.pinned (OpenSpec.ofChange cellOffsWrong)

/-- 'motulaw07.CellSpared': WHATEVER THE INPUT: true; the input reads as it did. -/
def cellSparedSpec : ChangeSpec := { name := "cellSpared", fn := fun _ => fun
  | [d1, d2, d3, d4] => { results := [.lit (.bool true)], args := [d1, d2, d3, d4] }
  | _ => none }
def cellSparedRow : OpenClaim := { program := "ytkjoojmlcjmlgaa", sum := "4f8b7d730a68bcd3bc9e51ab09cc810a9bd37bec5072f27fd5ffbe26af56337e", func := "motu/motulaw07.CellSpared", spec := "cellSpared", unfollowed := true, recurses := true, plainKeys := false, apart := false }
def CellSparedSaid : Prop := cellSparedRow.holds Try.pinned (OpenSpec.ofChange cellSparedSpec)

/-- ITS FALSE NEIGHBOUR: 'it returns false'. Refute it at one input. -/
def cellSparedWrong : ChangeSpec := { name := "cellSpared", fn := fun _ => fun
  | [d1, d2, d3, d4] => { results := [.lit (.bool false)], args := [d1, d2, d3, d4] }
  | _ => none }
def CellSparedWrongFalsely : Prop := cellSparedRow.holds Try.pinned (OpenSpec.ofChange cellSparedWrong)

/-- 'motulaw07.CellMore': WHATEVER THE INPUT: true; the input reads as it did. -/
def cellMoreSpec : ChangeSpec := { name := "cellMore", fn := fun _ => fun
  | [d1, d2, d3, d4, d5, d6, d7, d8] => { results := [.lit (.bool true)], args := [d1, d2, d3, d4, d5, d6, d7, d8] }
  | _ => none }
def cellMoreRow : OpenClaim := { program := "ytkjoojmlcjmlgaa", sum := "4f8b7d730a68bcd3bc9e51ab09cc810a9bd37bec5072f27fd5ffbe26af56337e", func := "motu/motulaw07.CellMore", spec := "cellMore", unfollowed := true, recurses := true, plainKeys := false, apart := false }
def CellMoreSaid : Prop := cellMoreRow.holds Try.pinned (OpenSpec.ofChange cellMoreSpec)

/-- ITS FALSE NEIGHBOUR: 'it returns false'. Refute it at one input. -/
def cellMoreWrong : ChangeSpec := { name := "cellMore", fn := fun _ => fun
  | [d1, d2, d3, d4, d5, d6, d7, d8] => { results := [.lit (.bool false)], args := [d1, d2, d3, d4, d5, d6, d7, d8] }
  | _ => none }
def CellMoreWrongFalsely : Prop := cellMoreRow.holds Try.pinned (OpenSpec.ofChange cellMoreWrong)

/-- 'motulaw07.CellKnows': WHATEVER THE INPUT: true; the input reads as it did. -/
def cellKnowsSpec : ChangeSpec := { name := "cellKnows", fn := fun _ => fun
  | [d1, d2, d3, d4] => { results := [.lit (.bool true)], args := [d1, d2, d3, d4] }
  | _ => none }
def cellKnowsRow : OpenClaim := { program := "ytkjoojmlcjmlgaa", sum := "4f8b7d730a68bcd3bc9e51ab09cc810a9bd37bec5072f27fd5ffbe26af56337e", func := "motu/motulaw07.CellKnows", spec := "cellKnows", unfollowed := true, recurses := true, plainKeys := false, apart := false }
def CellKnowsSaid : Prop := cellKnowsRow.holds Try.pinned (OpenSpec.ofChange cellKnowsSpec)

/-- ITS FALSE NEIGHBOUR: 'it returns false'. Refute it at one input. -/
def cellKnowsWrong : ChangeSpec := { name := "cellKnows", fn := fun _ => fun
  | [d1, d2, d3, d4] => { results := [.lit (.bool false)], args := [d1, d2, d3, d4] }
  | _ => none }
def CellKnowsWrongFalsely : Prop := cellKnowsRow.holds Try.pinned (OpenSpec.ofChange cellKnowsWrong)

/- THE SECOND FORM. 'bulk': how many values and letters a reading holds, each counted each time it is reached (what is shared counts as often as it is met; a slice's spare places count too). A statement '..UptoSaid' is the law's where the arguments, and the package variables that the reading takes, are together of bulk at most 1048576: NARROWER than '..Said'. Prove '..Said' where nothing that the law and all that it calls make is longer than what came in: it says more and counts as full. Else prove '..UptoSaid'. A law counts once. -/
mutual
def uptoBulk {H : Type} : DataW H → Nat
  | .lit (.string bytes) => bytes.length + 1
  | .lit _ => 1
  | .nil => 1
  | .ptr d => uptoBulk d + 1
  | .slice elems spare => uptoBulkAll elems + uptoBulkAll spare + 1
  | .agg parts => uptoBulkAll parts + 1
  | .iface _ d => uptoBulk d + 1
  | .map entries => uptoBulkEntries entries + 1
  | .held _ => 1
def uptoBulkAll {H : Type} : List (DataW H) → Nat
  | [] => 0
  | d :: r => uptoBulk d + uptoBulkAll r
def uptoBulkEntries {H : Type} : List (Lit × DataW H) → Nat
  | [] => 0
  | x :: r => uptoBulkEntry x + uptoBulkEntries r
def uptoBulkEntry {H : Type} : Lit × DataW H → Nat
  | (.string bytes, d) => bytes.length + uptoBulk d + 1
  | (_, d) => uptoBulk d + 1
 end
def uptoSmall : (H : Type) → List (DataW H) → Bool := fun _ ds => decide (uptoBulkAll ds ≤ 1048576)
def OpenSpec.upto (s : _root_.Go.ChangeSpec) : _root_.Go.OpenSpec := { _root_.Go.OpenSpec.ofChange s with cond := some uptoSmall }

/-- 'motulaw07.CellPlays', WHERE WHAT IT READS IS OF BULK AT MOST 1048576: true; the input reads as it did. -/
def cellPlaysUptoRow : OpenClaim := { program := "ytkjoojmlcjmlgaa", sum := "4f8b7d730a68bcd3bc9e51ab09cc810a9bd37bec5072f27fd5ffbe26af56337e", func := "motu/motulaw07.CellPlays", spec := "cellPlays", unfollowed := true, recurses := true, plainKeys := false, apart := false, narrowed := true }
def CellPlaysUptoSaid : Prop := cellPlaysUptoRow.holds Try.pinned (OpenSpec.upto cellPlaysSpec)

/-- 'motulaw07.CellLedgers', WHERE WHAT IT READS IS OF BULK AT MOST 1048576: true; the input reads as it did. -/
def cellLedgersUptoRow : OpenClaim := { program := "ytkjoojmlcjmlgaa", sum := "4f8b7d730a68bcd3bc9e51ab09cc810a9bd37bec5072f27fd5ffbe26af56337e", func := "motu/motulaw07.CellLedgers", spec := "cellLedgers", unfollowed := true, recurses := true, plainKeys := false, apart := false, narrowed := true }
def CellLedgersUptoSaid : Prop := cellLedgersUptoRow.holds Try.pinned (OpenSpec.upto cellLedgersSpec)

/-- 'motulaw07.CellTrue', WHERE WHAT IT READS IS OF BULK AT MOST 1048576: true; the input reads as it did. -/
def cellTrueUptoRow : OpenClaim := { program := "ytkjoojmlcjmlgaa", sum := "4f8b7d730a68bcd3bc9e51ab09cc810a9bd37bec5072f27fd5ffbe26af56337e", func := "motu/motulaw07.CellTrue", spec := "cellTrue", unfollowed := true, recurses := true, plainKeys := false, apart := false, narrowed := true }
def CellTrueUptoSaid : Prop := cellTrueUptoRow.holds Try.pinned (OpenSpec.upto cellTrueSpec)

/-- 'motulaw07.CellSharp', WHERE WHAT IT READS IS OF BULK AT MOST 1048576: true; the input reads as it did. -/
def cellSharpUptoRow : OpenClaim := { program := "ytkjoojmlcjmlgaa", sum := "4f8b7d730a68bcd3bc9e51ab09cc810a9bd37bec5072f27fd5ffbe26af56337e", func := "motu/motulaw07.CellSharp", spec := "cellSharp", unfollowed := true, recurses := true, plainKeys := false, apart := false, narrowed := true }
def CellSharpUptoSaid : Prop := cellSharpUptoRow.holds Try.pinned (OpenSpec.upto cellSharpSpec)

/-- 'motulaw07.CellFaults', WHERE WHAT IT READS IS OF BULK AT MOST 1048576: true; the input reads as it did. -/
def cellFaultsUptoRow : OpenClaim := { program := "ytkjoojmlcjmlgaa", sum := "4f8b7d730a68bcd3bc9e51ab09cc810a9bd37bec5072f27fd5ffbe26af56337e", func := "motu/motulaw07.CellFaults", spec := "cellFaults", unfollowed := true, recurses := true, plainKeys := false, apart := false, narrowed := true }
def CellFaultsUptoSaid : Prop := cellFaultsUptoRow.holds Try.pinned (OpenSpec.upto cellFaultsSpec)

/-- 'motulaw07.CellCarried', WHERE WHAT IT READS IS OF BULK AT MOST 1048576: true; the input reads as it did. -/
def cellCarriedUptoRow : OpenClaim := { program := "ytkjoojmlcjmlgaa", sum := "4f8b7d730a68bcd3bc9e51ab09cc810a9bd37bec5072f27fd5ffbe26af56337e", func := "motu/motulaw07.CellCarried", spec := "cellCarried", unfollowed := true, recurses := true, plainKeys := false, apart := false, narrowed := true }
def CellCarriedUptoSaid : Prop := cellCarriedUptoRow.holds Try.pinned (OpenSpec.upto cellCarriedSpec)

/-- 'motulaw07.CellBests', WHERE WHAT IT READS IS OF BULK AT MOST 1048576: true; the input reads as it did. -/
def cellBestsUptoRow : OpenClaim := { program := "ytkjoojmlcjmlgaa", sum := "4f8b7d730a68bcd3bc9e51ab09cc810a9bd37bec5072f27fd5ffbe26af56337e", func := "motu/motulaw07.CellBests", spec := "cellBests", unfollowed := true, recurses := true, plainKeys := false, apart := false, narrowed := true }
def CellBestsUptoSaid : Prop := cellBestsUptoRow.holds Try.pinned (OpenSpec.upto cellBestsSpec)

/-- 'motulaw07.CellRivals', WHERE WHAT IT READS IS OF BULK AT MOST 1048576: true; the input reads as it did. -/
def cellRivalsUptoRow : OpenClaim := { program := "ytkjoojmlcjmlgaa", sum := "4f8b7d730a68bcd3bc9e51ab09cc810a9bd37bec5072f27fd5ffbe26af56337e", func := "motu/motulaw07.CellRivals", spec := "cellRivals", unfollowed := true, recurses := true, plainKeys := false, apart := false, narrowed := true }
def CellRivalsUptoSaid : Prop := cellRivalsUptoRow.holds Try.pinned (OpenSpec.upto cellRivalsSpec)

/-- 'motulaw07.CellOffs', WHERE WHAT IT READS IS OF BULK AT MOST 1048576: true; the input reads as it did. -/
def cellOffsUptoRow : OpenClaim := { program := "ytkjoojmlcjmlgaa", sum := "4f8b7d730a68bcd3bc9e51ab09cc810a9bd37bec5072f27fd5ffbe26af56337e", func := "motu/motulaw07.CellOffs", spec := "cellOffs", unfollowed := true, recurses := true, plainKeys := false, apart := false, narrowed := true }
def CellOffsUptoSaid : Prop := cellOffsUptoRow.holds Try.pinned (OpenSpec.upto cellOffsSpec)

/-- 'motulaw07.CellSpared', WHERE WHAT IT READS IS OF BULK AT MOST 1048576: true; the input reads as it did. -/
def cellSparedUptoRow : OpenClaim := { program := "ytkjoojmlcjmlgaa", sum := "4f8b7d730a68bcd3bc9e51ab09cc810a9bd37bec5072f27fd5ffbe26af56337e", func := "motu/motulaw07.CellSpared", spec := "cellSpared", unfollowed := true, recurses := true, plainKeys := false, apart := false, narrowed := true }
def CellSparedUptoSaid : Prop := cellSparedUptoRow.holds Try.pinned (OpenSpec.upto cellSparedSpec)

/-- 'motulaw07.CellMore', WHERE WHAT IT READS IS OF BULK AT MOST 1048576: true; the input reads as it did. -/
def cellMoreUptoRow : OpenClaim := { program := "ytkjoojmlcjmlgaa", sum := "4f8b7d730a68bcd3bc9e51ab09cc810a9bd37bec5072f27fd5ffbe26af56337e", func := "motu/motulaw07.CellMore", spec := "cellMore", unfollowed := true, recurses := true, plainKeys := false, apart := false, narrowed := true }
def CellMoreUptoSaid : Prop := cellMoreUptoRow.holds Try.pinned (OpenSpec.upto cellMoreSpec)

/-- 'motulaw07.CellKnows', WHERE WHAT IT READS IS OF BULK AT MOST 1048576: true; the input reads as it did. -/
def cellKnowsUptoRow : OpenClaim := { program := "ytkjoojmlcjmlgaa", sum := "4f8b7d730a68bcd3bc9e51ab09cc810a9bd37bec5072f27fd5ffbe26af56337e", func := "motu/motulaw07.CellKnows", spec := "cellKnows", unfollowed := true, recurses := true, plainKeys := false, apart := false, narrowed := true }
def CellKnowsUptoSaid : Prop := cellKnowsUptoRow.holds Try.pinned (OpenSpec.upto cellKnowsSpec)

end Rows
end Go.Proofs.Ytkjoojmlcjmlgaa
