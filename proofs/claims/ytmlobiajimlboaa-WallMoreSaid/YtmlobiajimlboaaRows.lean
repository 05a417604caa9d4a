/-
  No cell of these rows narrows 'for every input' (looked for: loops, veiled, ifaces, maps, wideKeys, modest, calm, conditions, laid).
  DERIVED. THE GIVEN ROWS OF THIS SEAT. 11 by the template 'for every input the law returns true; each argument reads behind the call as it read before'; 0 by the template 'total and deterministic' (their statements: YtmlobiajimlboaaTotals.lean).
  GIVEN WITH THE SEED: the statements are not yours to turn. If you find one false, say at which input.
  Laid BY PROGRAM, IN A SANDBOX (cutbox-rows.mjs): the forced cells as the released guide's own fill.sh prints them over the translation 2d45c102abc2a1fd… (all of the seat's roots in one cut). By AI agents, Wed Nov 11 2026. No macro, syntax, notation, axiom, sorry.
-/
import Derived.Test.YtmlobiajimlboaaChecked
import GoSem.Claim
import GoSem.ClaimJoined
import GoSem.ClaimMapViews
import Derived.JoinedTies
import Derived.KernelRfl
namespace Go.Proofs.Ytmlobiajimlboaa
/- THE CELL 'sum', in the pinned program and in every row, IS THE sha256 OF THE DUMP (.gsa) THAT YtmlobiajimlboaaProg.lean LOADS. Nothing in Lean hashes anything: it is a label: what it is worth is what the hold of that sum in a sandbox is worth. -/
noncomputable def Try.pinned : Pinned := { name := "ytmlobiajimlboaa", sum := "2d45c102abc2a1fd70882ae2d3f408bd0c3274ef08bdd0a8aa851637ed21de24", checked := Try.checked }
namespace Rows
def none {H : Type} : Left H := { results := [], args := [] }

/-- 'motulaw08.WallPlays': WHATEVER THE INPUT: true; the input reads as it did. -/
def wallPlaysSpec : ChangeSpec := { name := "wallPlays", fn := fun _ => fun
  | [d1, d2, d3, d4] => { results := [.lit (.bool true)], args := [d1, d2, d3, d4] }
  | _ => none }
def wallPlaysRow : OpenClaim := { program := "ytmlobiajimlboaa", sum := "2d45c102abc2a1fd70882ae2d3f408bd0c3274ef08bdd0a8aa851637ed21de24", func := "motu/motulaw08.WallPlays", spec := "wallPlays", unfollowed := true, recurses := true, plainKeys := false, apart := false }
def WallPlaysSaid : Prop := wallPlaysRow.holds Try.pinned (OpenSpec.ofChange wallPlaysSpec)

/-- ITS FALSE NEIGHBOUR: 'it returns false'. Refute it at one input. -/
def wallPlaysWrong : ChangeSpec := { name := "wallPlays", fn := fun _ => fun
  | [d1, d2, d3, d4] => { results := [.lit (.bool false)], args := [d1, d2, d3, d4] }
  | _ => none }
def WallPlaysWrongFalsely : Prop := wallPlaysRow.holds Try.pinned (OpenSpec.ofChange wallPlaysWrong)

/-- 'motulaw08.WallDepths': WHATEVER THE INPUT: true; the input reads as it did. -/
def wallDepthsSpec : ChangeSpec := { name := "wallDepths", fn := fun _ => fun
  | [d1, d2, d3] => { results := [.lit (.bool true)], args := [d1, d2, d3] }
  | _ => none }
def wallDepthsRow : OpenClaim := { program := "ytmlobiajimlboaa", sum := "2d45c102abc2a1fd70882ae2d3f408bd0c3274ef08bdd0a8aa851637ed21de24", func := "motu/motulaw08.WallDepths", spec := "wallDepths", unfollowed := true, recurses := true, plainKeys := false, apart := false }
def WallDepthsSaid : Prop := wallDepthsRow.holds Try.pinned (OpenSpec.ofChange wallDepthsSpec)

/-- ITS FALSE NEIGHBOUR: 'it returns false'. Refute it at one input. -/
def wallDepthsWrong : ChangeSpec := { name := "wallDepths", fn := fun _ => fun
  | [d1, d2, d3] => { results := [.lit (.bool false)], args := [d1, d2, d3] }
  | _ => none }
def WallDepthsWrongFalsely : Prop := wallDepthsRow.holds Try.pinned (OpenSpec.ofChange wallDepthsWrong)

/-- 'motulaw08.WallTrue': WHATEVER THE INPUT: true; the input reads as it did. -/
def wallTrueSpec : ChangeSpec := { name := "wallTrue", fn := fun _ => fun
  | [d1, d2, d3, d4] => { results := [.lit (.bool true)], args := [d1, d2, d3, d4] }
  | _ => none }
def wallTrueRow : OpenClaim := { program := "ytmlobiajimlboaa", sum := "2d45c102abc2a1fd70882ae2d3f408bd0c3274ef08bdd0a8aa851637ed21de24", func := "motu/motulaw08.WallTrue", spec := "wallTrue", unfollowed := true, recurses := true, plainKeys := false, apart := false }
def WallTrueSaid : Prop := wallTrueRow.holds Try.pinned (OpenSpec.ofChange wallTrueSpec)

/-- ITS FALSE NEIGHBOUR: 'it returns false'. Refute it at one input. -/
def wallTrueWrong : ChangeSpec := { name := "wallTrue", fn := fun _ => fun
  | [d1, d2, d3, d4] => { results := [.lit (.bool false)], args := [d1, d2, d3, d4] }
  | _ => none }
def WallTrueWrongFalsely : Prop := wallTrueRow.holds Try.pinned (OpenSpec.ofChange wallTrueWrong)

/-- 'motulaw08.WallBests': WHATEVER THE INPUT: true; the input reads as it did. -/
def wallBestsSpec : ChangeSpec := { name := "wallBests", fn := fun _ => fun
  | [d1, d2, d3] => { results := [.lit (.bool true)], args := [d1, d2, d3] }
  | _ => none }
def wallBestsRow : OpenClaim := { program := "ytmlobiajimlboaa", sum := "2d45c102abc2a1fd70882ae2d3f408bd0c3274ef08bdd0a8aa851637ed21de24", func := "motu/motulaw08.WallBests", spec := "wallBests", unfollowed := true, recurses := true, plainKeys := false, apart := false }
def WallBestsSaid : Prop := wallBestsRow.holds Try.pinned (OpenSpec.ofChange wallBestsSpec)

/-- ITS FALSE NEIGHBOUR: 'it returns false'. Refute it at one input. -/
def wallBestsWrong : ChangeSpec := { name := "wallBests", fn := fun _ => fun
  | [d1, d2, d3] => { results := [.lit (.bool false)], args := [d1, d2, d3] }
  | _ => none }
def WallBestsWrongFalsely : Prop := wallBestsRow.holds Try.pinned (OpenSpec.ofChange wallBestsWrong)

/-- 'motulaw08.WallMore': WHATEVER THE INPUT: true; the input reads as it did. -/
def wallMoreSpec : ChangeSpec := { name := "wallMore", fn := fun _ => fun
  | [d1, d2, d3, d4, d5, d6, d7] => { results := [.lit (.bool true)], args := [d1, d2, d3, d4, d5, d6, d7] }
  | _ => none }
def wallMoreRow : OpenClaim := { program := "ytmlobiajimlboaa", sum := "2d45c102abc2a1fd70882ae2d3f408bd0c3274ef08bdd0a8aa851637ed21de24", func := "motu/motulaw08.WallMore", spec := "wallMore", unfollowed := true, recurses := true, plainKeys := false, apart := false }
def WallMoreSaid : Prop := wallMoreRow.holds Try.pinned (OpenSpec.ofChange wallMoreSpec)

/-- ITS FALSE NEIGHBOUR: 'it returns false'. Refute it at one input. -/
def wallMoreWrong : ChangeSpec := { name := "wallMore", fn := fun _ => fun
  | [d1, d2, d3, d4, d5, d6, d7] => { results := [.lit (.bool false)], args := [d1, d2, d3, d4, d5, d6, d7] }
  | _ => none }
def WallMoreWrongFalsely : Prop := wallMoreRow.holds Try.pinned (OpenSpec.ofChange wallMoreWrong)

/-- 'motulaw08.WallSharp': WHATEVER THE INPUT: true; the input reads as it did. -/
def wallSharpSpec : ChangeSpec := { name := "wallSharp", fn := fun _ => fun
  | [d1, d2, d3] => { results := [.lit (.bool true)], args := [d1, d2, d3] }
  | _ => none }
def wallSharpRow : OpenClaim := { program := "ytmlobiajimlboaa", sum := "2d45c102abc2a1fd70882ae2d3f408bd0c3274ef08bdd0a8aa851637ed21de24", func := "motu/motulaw08.WallSharp", spec := "wallSharp", unfollowed := true, recurses := true, plainKeys := false, apart := false }
def WallSharpSaid : Prop := wallSharpRow.holds Try.pinned (OpenSpec.ofChange wallSharpSpec)

/-- ITS FALSE NEIGHBOUR: 'it returns false'. Refute it at one input. -/
def wallSharpWrong : ChangeSpec := { name := "wallSharp", fn := fun _ => fun
  | [d1, d2, d3] => { results := [.lit (.bool false)], args := [d1, d2, d3] }
  | _ => none }
def WallSharpWrongFalsely : Prop := wallSharpRow.holds Try.pinned (OpenSpec.ofChange wallSharpWrong)

/-- 'motulaw08.WallLevels': WHATEVER THE INPUT: true; the input reads as it did. -/
def wallLevelsSpec : ChangeSpec := { name := "wallLevels", fn := fun _ => fun
  | [d1, d2] => { results := [.lit (.bool true)], args := [d1, d2] }
  | _ => none }
def wallLevelsRow : OpenClaim := { program := "ytmlobiajimlboaa", sum := "2d45c102abc2a1fd70882ae2d3f408bd0c3274ef08bdd0a8aa851637ed21de24", func := "motu/motulaw08.WallLevels", spec := "wallLevels", unfollowed := true, recurses := true, plainKeys := false, apart := false }
def WallLevelsSaid : Prop := wallLevelsRow.holds Try.pinned (OpenSpec.ofChange wallLevelsSpec)

/-- ITS FALSE NEIGHBOUR: 'it returns false'. Refute it at one input. -/
def wallLevelsWrong : ChangeSpec := { name := "wallLevels", fn := fun _ => fun
  | [d1, d2] => { results := [.lit (.bool false)], args := [d1, d2] }
  | _ => none }
def WallLevelsWrongFalsely : Prop := wallLevelsRow.holds Try.pinned (OpenSpec.ofChange wallLevelsWrong)

/-- 'motulaw08.WallDries': WHATEVER THE INPUT: true; the input reads as it did. -/
def wallDriesSpec : ChangeSpec := { name := "wallDries", fn := fun _ => fun
  | [d1, d2, d3, d4] => { results := [.lit (.bool true)], args := [d1, d2, d3, d4] }
  | _ => none }
def wallDriesRow : OpenClaim := { program := "ytmlobiajimlboaa", sum := "2d45c102abc2a1fd70882ae2d3f408bd0c3274ef08bdd0a8aa851637ed21de24", func := "motu/motulaw08.WallDries", spec := "wallDries", unfollowed := true, recurses := true, plainKeys := false, apart := false }
def WallDriesSaid : Prop := wallDriesRow.holds Try.pinned (OpenSpec.ofChange wallDriesSpec)

/-- ITS FALSE NEIGHBOUR: 'it returns false'. Refute it at one input. -/
def wallDriesWrong : ChangeSpec := { name := "wallDries", fn := fun _ => fun
  | [d1, d2, d3, d4] => { results := [.lit (.bool false)], args := [d1, d2, d3, d4] }
  | _ => none }
def WallDriesWrongFalsely : Prop := wallDriesRow.holds Try.pinned (OpenSpec.ofChange wallDriesWrong)

/-- 'motulaw08.WallRivals': WHATEVER THE INPUT: true; the input reads as it did. -/
def wallRivalsSpec : ChangeSpec := { name := "wallRivals", fn := fun _ => fun
  | [d1, d2, d3, d4] => { results := [.lit (.bool true)], args := [d1, d2, d3, d4] }
  | _ => none }
def wallRivalsRow : OpenClaim := { program := "ytmlobiajimlboaa", sum := "2d45c102abc2a1fd70882ae2d3f408bd0c3274ef08bdd0a8aa851637ed21de24", func := "motu/motulaw08.WallRivals", spec := "wallRivals", unfollowed := true, recurses := true, plainKeys := false, apart := false }
def WallRivalsSaid : Prop := wallRivalsRow.holds Try.pinned (OpenSpec.ofChange wallRivalsSpec)

/-- ITS FALSE NEIGHBOUR: 'it returns false'. Refute it at one input. -/
def wallRivalsWrong : ChangeSpec := { name := "wallRivals", fn := fun _ => fun
  | [d1, d2, d3, d4] => { results := [.lit (.bool false)], args := [d1, d2, d3, d4] }
  | _ => none }
def WallRivalsWrongFalsely : Prop := wallRivalsRow.holds Try.pinned (OpenSpec.ofChange wallRivalsWrong)

/-- 'motulaw08.WallSpared': WHATEVER THE INPUT: true; the input reads as it did. -/
def wallSparedSpec : ChangeSpec := { name := "wallSpared", fn := fun _ => fun
  | [d1, d2, d3, d4, d5] => { results := [.lit (.bool true)], args := [d1, d2, d3, d4, d5] }
  | _ => none }
def wallSparedRow : OpenClaim := { program := "ytmlobiajimlboaa", sum := "2d45c102abc2a1fd70882ae2d3f408bd0c3274ef08bdd0a8aa851637ed21de24", func := "motu/motulaw08.WallSpared", spec := "wallSpared", unfollowed := true, recurses := true, plainKeys := false, apart := false }
def WallSparedSaid : Prop := wallSparedRow.holds Try.pinned (OpenSpec.ofChange wallSparedSpec)

/-- ITS FALSE NEIGHBOUR: 'it returns false'. Refute it at one input. -/
def wallSparedWrong : ChangeSpec := { name := "wallSpared", fn := fun _ => fun
  | [d1, d2, d3, d4, d5] => { results := [.lit (.bool false)], args := [d1, d2, d3, d4, d5] }
  | _ => none }
def WallSparedWrongFalsely : Prop := wallSparedRow.holds Try.pinned (OpenSpec.ofChange wallSparedWrong)

/-- 'motulaw08.WallShelters': WHATEVER THE INPUT: true; the input reads as it did. -/
def wallSheltersSpec : ChangeSpec := { name := "wallShelters", fn := fun _ => fun
  | [d1, d2, d3, d4, d5] => { results := [.lit (.bool true)], args := [d1, d2, d3, d4, d5] }
  | _ => none }
def wallSheltersRow : OpenClaim := { program := "ytmlobiajimlboaa", sum := "2d45c102abc2a1fd70882ae2d3f408bd0c3274ef08bdd0a8aa851637ed21de24", func := "motu/motulaw08.WallShelters", spec := "wallShelters", unfollowed := true, recurses := true, plainKeys := false, apart := false }
def WallSheltersSaid : Prop := wallSheltersRow.holds Try.pinned (OpenSpec.ofChange wallSheltersSpec)

/-- ITS FALSE NEIGHBOUR: 'it returns false'. Refute it at one input. -/
def wallSheltersWrong : ChangeSpec := { name := "wallShelters", fn := fun _ => fun
  | [d1, d2, d3, d4, d5] => { results := [.lit (.bool false)], args := [d1, d2, d3, d4, d5] }
  | _ => none }
def WallSheltersWrongFalsely : Prop := wallSheltersRow.holds Try.pinned (OpenSpec.ofChange wallSheltersWrong)

/- THE SECOND FORM. 'bulk': how many values and letters a reading holds, each counted each time it is reached (what is shared counts as often as it is met; a slice's spare places count too). A statement '..UptoSaid' is the law's where the arguments, and the package variables that the reading takes, are together of bulk at most 1048576: NARROWER than '..Said'. Prove '..Said' where nothing that the law and all that it calls make is longer than what came in: it says more and counts as full. Else prove '..UptoSaid'. A law counts once. -/
mutual
def uptoBulk {H : Type} : DataW H → Nat
  | .lit (.string bytes) => bytes.length + 1
  | .lit _ => 1
  | .nil => 1
  | .ptr d => uptoBulk d + 1
  | .slice elems spare => uptoBulkAll elems + uptoBulkAll spare + 1
  | .agg parts => uptoBulkAll parts + 1
  | .iface _ d => uptoBulk d + 1
  | .map entries => uptoBulkEntries entries + 1
  | .held _ => 1
def uptoBulkAll {H : Type} : List (DataW H) → Nat
  | [] => 0
  | d :: r => uptoBulk d + uptoBulkAll r
def uptoBulkEntries {H : Type} : List (Lit × DataW H) → Nat
  | [] => 0
  | x :: r => uptoBulkEntry x + uptoBulkEntries r
def uptoBulkEntry {H : Type} : Lit × DataW H → Nat
  | (.string bytes, d) => bytes.length + uptoBulk d + 1
  | (_, d) => uptoBulk d + 1
 end
def uptoSmall : (H : Type) → List (DataW H) → Bool := fun _ ds => decide (uptoBulkAll ds ≤ 1048576)
def OpenSpec.upto (s : _root_.Go.ChangeSpec) : _root_.Go.OpenSpec := { _root_.Go.OpenSpec.ofChange s with cond := some uptoSmall }

/-- 'motulaw08.WallPlays', WHERE WHAT IT READS IS OF BULK AT MOST 1048576: true; the input reads as it did. -/
def wallPlaysUptoRow : OpenClaim := { program := "ytmlobiajimlboaa", sum := "2d45c102abc2a1fd70882ae2d3f408bd0c3274ef08bdd0a8aa851637ed21de24", func := "motu/motulaw08.WallPlays", spec := "wallPlays", unfollowed := true, recurses := true, plainKeys := false, apart := false, narrowed := true }
def WallPlaysUptoSaid : Prop := wallPlaysUptoRow.holds Try.pinned (OpenSpec.upto wallPlaysSpec)

/-- 'motulaw08.WallDepths', WHERE WHAT IT READS IS OF BULK AT MOST 1048576: true; the input reads as it did. -/
def wallDepthsUptoRow : OpenClaim := { program := "ytmlobiajimlboaa", sum := "2d45c102abc2a1fd70882ae2d3f408bd0c3274ef08bdd0a8aa851637ed21de24", func := "motu/motulaw08.WallDepths", spec := "wallDepths", unfollowed := true, recurses := true, plainKeys := false, apart := false, narrowed := true }
def WallDepthsUptoSaid : Prop := wallDepthsUptoRow.holds Try.pinned (OpenSpec.upto wallDepthsSpec)

/-- 'motulaw08.WallTrue', WHERE WHAT IT READS IS OF BULK AT MOST 1048576: true; the input reads as it did. -/
def wallTrueUptoRow : OpenClaim := { program := "ytmlobiajimlboaa", sum := "2d45c102abc2a1fd70882ae2d3f408bd0c3274ef08bdd0a8aa851637ed21de24", func := "motu/motulaw08.WallTrue", spec := "wallTrue", unfollowed := true, recurses := true, plainKeys := false, apart := false, narrowed := true }
def WallTrueUptoSaid : Prop := wallTrueUptoRow.holds Try.pinned (OpenSpec.upto wallTrueSpec)

/-- 'motulaw08.WallBests', WHERE WHAT IT READS IS OF BULK AT MOST 1048576: true; the input reads as it did. -/
def wallBestsUptoRow : OpenClaim := { program := "ytmlobiajimlboaa", sum := "2d45c102abc2a1fd70882ae2d3f408bd0c3274ef08bdd0a8aa851637ed21de24", func := "motu/motulaw08.WallBests", spec := "wallBests", unfollowed := true, recurses := true, plainKeys := false, apart := false, narrowed := true }
def WallBestsUptoSaid : Prop := wallBestsUptoRow.holds Try.pinned (OpenSpec.upto wallBestsSpec)

/-- 'motulaw08.WallMore', WHERE WHAT IT READS IS OF BULK AT MOST 1048576: true; the input reads as it did. -/
def wallMoreUptoRow : OpenClaim := { program := "ytmlobiajimlboaa", sum := "2d45c102abc2a1fd70882ae2d3f408bd0c3274ef08bdd0a8aa851637ed21de24", func := "motu/motulaw08.WallMore", spec := "wallMore", unfollowed := true, recurses := true, plainKeys := false, apart := false, narrowed := true }
def WallMoreUptoSaid : Prop := wallMoreUptoRow.holds Try.pinned (OpenSpec.upto wallMoreSpec)

/-- 'motulaw08.WallSharp', WHERE WHAT IT READS IS OF BULK AT MOST 1048576: true; the input reads as it did. -/
def wallSharpUptoRow : OpenClaim := { program := "ytmlobiajimlboaa", sum := "2d45c102abc2a1fd70882ae2d3f408bd0c3274ef08bdd0a8aa851637ed21de24", func := "motu/motulaw08.WallSharp", spec := "wallSharp", unfollowed := true, recurses := true, plainKeys := false, apart := false, narrowed := true }
def WallSharpUptoSaid : Prop := wallSharpUptoRow.holds Try.pinned (OpenSpec.upto wallSharpSpec)

/-- 'motulaw08.WallLevels', WHERE WHAT IT READS IS OF BULK AT MOST 1048576: true; the input reads as it did. -/
def wallLevelsUptoRow : OpenClaim := { program := "ytmlobiajimlboaa", sum := "2d45c102abc2a1fd70882ae2d3f408bd0c3274ef08bdd0a8aa851637ed21de24", func := "motu/motulaw08.WallLevels", spec := "wallLevels", unfollowed := true, recurses := true, plainKeys := false, apart := false, narrowed := true }
def WallLevelsUptoSaid : Prop := wallLevelsUptoRow.holds Try.pinned (OpenSpec.upto wallLevelsSpec)

/-- 'motulaw08.WallDries', WHERE WHAT IT READS IS OF BULK AT MOST 1048576: true; the input reads as it did. -/
def wallDriesUptoRow : OpenClaim := { program := "ytmlobiajimlboaa", sum := "2d45c102abc2a1fd70882ae2d3f408bd0c3274ef08bdd0a8aa851637ed21de24", func := "motu/motulaw08.WallDries", spec := "wallDries", unfollowed := true, recurses := true, plainKeys := false, apart := false, narrowed := true }
def WallDriesUptoSaid : Prop := wallDriesUptoRow.holds Try.pinned (OpenSpec.upto wallDriesSpec)

/-- 'motulaw08.WallRivals', WHERE WHAT IT READS IS OF BULK AT MOST 1048576: true; the input reads as it did. -/
def wallRivalsUptoRow : OpenClaim := { program := "ytmlobiajimlboaa", sum := "2d45c102abc2a1fd70882ae2d3f408bd0c3274ef08bdd0a8aa851637ed21de24", func := "motu/motulaw08.WallRivals", spec := "wallRivals", unfollowed := true, recurses := true, plainKeys := false, apart := false, narrowed := true }
def WallRivalsUptoSaid : Prop := wallRivalsUptoRow.holds Try.pinned (OpenSpec.upto wallRivalsSpec)

/-- 'motulaw08.WallSpared', WHERE WHAT IT READS IS OF BULK AT MOST 1048576: true; the input reads as it did. -/
def wallSparedUptoRow : OpenClaim := { program := "ytmlobiajimlboaa", sum := "2d45c102abc2a1fd70882ae2d3f408bd0c3274ef08bdd0a8aa851637ed21de24", func := "motu/motulaw08.WallSpared", spec := "wallSpared", unfollowed := true, recurses := true, plainKeys := false, apart := false, narrowed := true }
def WallSparedUptoSaid : Prop := wallSparedUptoRow.holds Try.pinned (OpenSpec.upto wallSparedSpec)

/-- 'motulaw08.WallShelters', WHERE WHAT IT READS IS OF BULK AT MOST 1048576: true; the input reads as it did. -/
def wallSheltersUptoRow : OpenClaim := { program := "ytmlobiajimlboaa", sum := "2d45c102abc2a1fd70882ae2d3f408bd0c3274ef08bdd0a8aa851637ed21de24", func := "motu/motulaw08.WallShelters", spec := "wallShelters", unfollowed := true, recurses := true, plainKeys := false, apart := false, narrowed := true }
def WallSheltersUptoSaid : Prop := wallSheltersUptoRow.holds Try.pinned (OpenSpec.upto wallSheltersSpec)

end Rows
end Go.Proofs.Ytmlobiajimlboaa
