/-
  No cell of these rows narrows 'for every input' (looked for: loops, veiled, ifaces, maps, wideKeys, modest, calm, conditions, laid).
  DERIVED. THE GIVEN ROWS OF THIS SEAT. 12 by the template 'for every input the law returns true; each argument reads behind the call as it read before'; 0 by the template 'total and deterministic' (their statements: YthffoglpekpmdaaTotals.lean).
  GIVEN WITH THE SEED: the statements are not yours to turn. If you find one false, say at which input.
  Laid BY PROGRAM, IN A SANDBOX (cutbox-rows.mjs): the forced cells as the released guide's own fill.sh prints them over the translation 16a248b659f21818… (all of the seat's roots in one cut). By AI agents, Wed Nov 11 2026. No macro, syntax, notation, axiom, sorry.
-/
import Derived.Test.YthffoglpekpmdaaChecked
import GoSem.Claim
import GoSem.ClaimJoined
import GoSem.ClaimMapViews
import Derived.JoinedTies
import Derived.KernelRfl
namespace Go.Proofs.Ythffoglpekpmdaa
/- THE CELL 'sum', in the pinned program and in every row, IS THE sha256 OF THE DUMP (.gsa) THAT YthffoglpekpmdaaProg.lean LOADS. Nothing in Lean hashes anything: it is a label: what it is worth is what the hold of that sum in a sandbox is worth. -/
noncomputable def Try.pinned : Pinned := { name := "ythffoglpekpmdaa", sum := "16a248b659f2181830cec6fa1f97a310b9b902627614ddcd0037789a62f4afec", checked := Try.checked }
namespace Rows
def none {H : Type} : Left H := { results := [], args := [] }

/-- 'motulaw03.ReefPlays': WHATEVER THE INPUT: true; the input reads as it did. -/
def reefPlaysSpec : ChangeSpec := { name := "reefPlays", fn := fun _ => fun
  | [d1, d2, d3] => { results := [.lit (.bool true)], args := [d1, d2, d3] }
  | _ => none }
def reefPlaysRow : OpenClaim := { program := "ythffoglpekpmdaa", sum := "16a248b659f2181830cec6fa1f97a310b9b902627614ddcd0037789a62f4afec", func := "motu/motulaw03.ReefPlays", spec := "reefPlays", unfollowed := true, recurses := true, plainKeys := false, apart := false }
def ReefPlaysSaid : Prop := reefPlaysRow.holds Try.pinned (OpenSpec.ofChange reefPlaysSpec)

/-- ITS FALSE NEIGHBOUR: 'it returns false'. Refute it at one input. -/
def reefPlaysWrong : ChangeSpec := { name := "reefPlays", fn := fun _ => fun
  | [d1, d2, d3] => { results := [.lit (.bool false)], args := [d1, d2, d3] }
  | _ => none }
def ReefPlaysWrongFalsely : Prop := reefPlaysRow.holds Try.pinned (OpenSpec.ofChange reefPlaysWrong)

/-- 'motulaw03.ReefLedgers': WHATEVER THE INPUT: true; the input reads as it did. -/
def reefLedgersSpec : ChangeSpec := { name := "reefLedgers", fn := fun _ => fun
  | [d1, d2, d3] => { results := [.lit (.bool true)], args := [d1, d2, d3] }
  | _ => none }
def reefLedgersRow : OpenClaim := { program := "ythffoglpekpmdaa", sum := "16a248b659f2181830cec6fa1f97a310b9b902627614ddcd0037789a62f4afec", func := "motu/motulaw03.ReefLedgers", spec := "reefLedgers", unfollowed := true, recurses := true, plainKeys := false, apart := false }
def ReefLedgersSaid : Prop := reefLedgersRow.holds Try.pinned (OpenSpec.ofChange reefLedgersSpec)

/-- ITS FALSE NEIGHBOUR: 'it returns false'. Refute it at one input. -/
def reefLedgersWrong : ChangeSpec := { name := "reefLedgers", fn := fun _ => fun
  | [d1, d2, d3] => { results := [.lit (.bool false)], args := [d1, d2, d3] }
  | _ => none }
def ReefLedgersWrongFalsely : Prop := reefLedgersRow.holds Try.pinned (OpenSpec.ofChange reefLedgersWrong)

/-- 'motulaw03.ReefShorts': WHATEVER THE INPUT: true; the input reads as it did. -/
def reefShortsSpec : ChangeSpec := { name := "reefShorts", fn := fun _ => fun
  | [d1, d2] => { results := [.lit (.bool true)], args := [d1, d2] }
  | _ => none }
def reefShortsRow : OpenClaim := { program := "ythffoglpekpmdaa", sum := "16a248b659f2181830cec6fa1f97a310b9b902627614ddcd0037789a62f4afec", func := "motu/motulaw03.ReefShorts", spec := "reefShorts", unfollowed := true, recurses := true, plainKeys := false, apart := false }
def ReefShortsSaid : Prop := reefShortsRow.holds Try.pinned (OpenSpec.ofChange reefShortsSpec)

/-- ITS FALSE NEIGHBOUR: 'it returns false'. Refute it at one input. -/
def reefShortsWrong : ChangeSpec := { name := "reefShorts", fn := fun _ => fun
  | [d1, d2] => { results := [.lit (.bool false)], args := [d1, d2] }
  | _ => none }
def ReefShortsWrongFalsely : Prop := reefShortsRow.holds Try.pinned (OpenSpec.ofChange reefShortsWrong)

/-- 'motulaw03.ReefRecovers': WHATEVER THE INPUT: true; the input reads as it did. -/
def reefRecoversSpec : ChangeSpec := { name := "reefRecovers", fn := fun _ => fun
  | [d1, d2, d3] => { results := [.lit (.bool true)], args := [d1, d2, d3] }
  | _ => none }
def reefRecoversRow : OpenClaim := { program := "ythffoglpekpmdaa", sum := "16a248b659f2181830cec6fa1f97a310b9b902627614ddcd0037789a62f4afec", func := "motu/motulaw03.ReefRecovers", spec := "reefRecovers", unfollowed := true, recurses := true, plainKeys := false, apart := false }
def ReefRecoversSaid : Prop := reefRecoversRow.holds Try.pinned (OpenSpec.ofChange reefRecoversSpec)

/-- ITS FALSE NEIGHBOUR: 'it returns false'. Refute it at one input. -/
def reefRecoversWrong : ChangeSpec := { name := "reefRecovers", fn := fun _ => fun
  | [d1, d2, d3] => { results := [.lit (.bool false)], args := [d1, d2, d3] }
  | _ => none }
def ReefRecoversWrongFalsely : Prop := reefRecoversRow.holds Try.pinned (OpenSpec.ofChange reefRecoversWrong)

/-- 'motulaw03.ReefBests': WHATEVER THE INPUT: true; the input reads as it did. -/
def reefBestsSpec : ChangeSpec := { name := "reefBests", fn := fun _ => fun
  | [d] => { results := [.lit (.bool true)], args := [d] }
  | _ => none }
def reefBestsRow : OpenClaim := { program := "ythffoglpekpmdaa", sum := "16a248b659f2181830cec6fa1f97a310b9b902627614ddcd0037789a62f4afec", func := "motu/motulaw03.ReefBests", spec := "reefBests", unfollowed := true, recurses := true, plainKeys := false, apart := false }
def ReefBestsSaid : Prop := reefBestsRow.holds Try.pinned (OpenSpec.ofChange reefBestsSpec)

/-- ITS FALSE NEIGHBOUR: 'it returns false'. Refute it at one input. -/
def reefBestsWrong : ChangeSpec := { name := "reefBests", fn := fun _ => fun
  | [d] => { results := [.lit (.bool false)], args := [d] }
  | _ => none }
def ReefBestsWrongFalsely : Prop := reefBestsRow.holds Try.pinned (OpenSpec.ofChange reefBestsWrong)

/-- 'motulaw03.ReefRivals': WHATEVER THE INPUT: true; the input reads as it did. -/
def reefRivalsSpec : ChangeSpec := { name := "reefRivals", fn := fun _ => fun
  | [d1, d2] => { results := [.lit (.bool true)], args := [d1, d2] }
  | _ => none }
def reefRivalsRow : OpenClaim := { program := "ythffoglpekpmdaa", sum := "16a248b659f2181830cec6fa1f97a310b9b902627614ddcd0037789a62f4afec", func := "motu/motulaw03.ReefRivals", spec := "reefRivals", unfollowed := true, recurses := true, plainKeys := false, apart := false }
def ReefRivalsSaid : Prop := reefRivalsRow.holds Try.pinned (OpenSpec.ofChange reefRivalsSpec)

/-- ITS FALSE NEIGHBOUR: 'it returns false'. Refute it at one input. -/
def reefRivalsWrong : ChangeSpec := { name := "reefRivals", fn := fun _ => fun
  | [d1, d2] => { results := [.lit (.bool false)], args := [d1, d2] }
  | _ => none }
def ReefRivalsWrongFalsely : Prop := reefRivalsRow.holds Try.pinned (OpenSpec.ofChange reefRivalsWrong)

/-- 'motulaw03.ReefQuotas': WHATEVER THE INPUT: true; the input reads as it did. -/
def reefQuotasSpec : ChangeSpec := { name := "reefQuotas", fn := fun _ => fun
  | [d1, d2, d3] => { results := [.lit (.bool true)], args := [d1, d2, d3] }
  | _ => none }
def reefQuotasRow : OpenClaim := { program := "ythffoglpekpmdaa", sum := "16a248b659f2181830cec6fa1f97a310b9b902627614ddcd0037789a62f4afec", func := "motu/motulaw03.ReefQuotas", spec := "reefQuotas", unfollowed := true, recurses := true, plainKeys := false, apart := false }
def ReefQuotasSaid : Prop := reefQuotasRow.holds Try.pinned (OpenSpec.ofChange reefQuotasSpec)

/-- ITS FALSE NEIGHBOUR: 'it returns false'. Refute it at one input. -/
def reefQuotasWrong : ChangeSpec := { name := "reefQuotas", fn := fun _ => fun
  | [d1, d2, d3] => { results := [.lit (.bool false)], args := [d1, d2, d3] }
  | _ => none }
def ReefQuotasWrongFalsely : Prop := reefQuotasRow.holds Try.pinned (OpenSpec.ofChange reefQuotasWrong)

/-- 'motulaw03.ReefTaken': WHATEVER THE INPUT: true; the input reads as it did. -/
def reefTakenSpec : ChangeSpec := { name := "reefTaken", fn := fun _ => fun
  | [d1, d2, d3, d4, d5] => { results := [.lit (.bool true)], args := [d1, d2, d3, d4, d5] }
  | _ => none }
def reefTakenRow : OpenClaim := { program := "ythffoglpekpmdaa", sum := "16a248b659f2181830cec6fa1f97a310b9b902627614ddcd0037789a62f4afec", func := "motu/motulaw03.ReefTaken", spec := "reefTaken", unfollowed := true, recurses := true, plainKeys := false, apart := false }
def ReefTakenSaid : Prop := reefTakenRow.holds Try.pinned (OpenSpec.ofChange reefTakenSpec)

/-- ITS FALSE NEIGHBOUR: 'it returns false'. Refute it at one input. -/
def reefTakenWrong : ChangeSpec := { name := "reefTaken", fn := fun _ => fun
  | [d1, d2, d3, d4, d5] => { results := [.lit (.bool false)], args := [d1, d2, d3, d4, d5] }
  | _ => none }
def ReefTakenWrongFalsely : Prop := reefTakenRow.holds Try.pinned (OpenSpec.ofChange reefTakenWrong)

/-- 'motulaw03.ReefMore': WHATEVER THE INPUT: true; the input reads as it did. -/
def reefMoreSpec : ChangeSpec := { name := "reefMore", fn := fun _ => fun
  | [d1, d2, d3, d4, d5, d6, d7] => { results := [.lit (.bool true)], args := [d1, d2, d3, d4, d5, d6, d7] }
  | _ => none }
def reefMoreRow : OpenClaim := { program := "ythffoglpekpmdaa", sum := "16a248b659f2181830cec6fa1f97a310b9b902627614ddcd0037789a62f4afec", func := "motu/motulaw03.ReefMore", spec := "reefMore", unfollowed := true, recurses := true, plainKeys := false, apart := false }
def ReefMoreSaid : Prop := reefMoreRow.holds Try.pinned (OpenSpec.ofChange reefMoreSpec)

/-- ITS FALSE NEIGHBOUR: 'it returns false'. Refute it at one input. -/
def reefMoreWrong : ChangeSpec := { name := "reefMore", fn := fun _ => fun
  | [d1, d2, d3, d4, d5, d6, d7] => { results := [.lit (.bool false)], args := [d1, d2, d3, d4, d5, d6, d7] }
  | _ => none }
def ReefMoreWrongFalsely : Prop := reefMoreRow.holds Try.pinned (OpenSpec.ofChange reefMoreWrong)

/-- 'motulaw03.ReefTrue': WHATEVER THE INPUT: true; the input reads as it did. -/
def reefTrueSpec : ChangeSpec := { name := "reefTrue", fn := fun _ => fun
  | [d1, d2, d3, d4] => { results := [.lit (.bool true)], args := [d1, d2, d3, d4] }
  | _ => none }
def reefTrueRow : OpenClaim := { program := "ythffoglpekpmdaa", sum := "16a248b659f2181830cec6fa1f97a310b9b902627614ddcd0037789a62f4afec", func := "motu/motulaw03.ReefTrue", spec := "reefTrue", unfollowed := true, recurses := true, plainKeys := false, apart := false }
def ReefTrueSaid : Prop := reefTrueRow.holds Try.pinned (OpenSpec.ofChange reefTrueSpec)

/-- ITS FALSE NEIGHBOUR: 'it returns false'. Refute it at one input. -/
def reefTrueWrong : ChangeSpec := { name := "reefTrue", fn := fun _ => fun
  | [d1, d2, d3, d4] => { results := [.lit (.bool false)], args := [d1, d2, d3, d4] }
  | _ => none }
def ReefTrueWrongFalsely : Prop := reefTrueRow.holds Try.pinned (OpenSpec.ofChange reefTrueWrong)

/-- 'motulaw03.ReefSharp': WHATEVER THE INPUT: true; the input reads as it did. -/
def reefSharpSpec : ChangeSpec := { name := "reefSharp", fn := fun _ => fun
  | [d1, d2, d3] => { results := [.lit (.bool true)], args := [d1, d2, d3] }
  | _ => none }
def reefSharpRow : OpenClaim := { program := "ythffoglpekpmdaa", sum := "16a248b659f2181830cec6fa1f97a310b9b902627614ddcd0037789a62f4afec", func := "motu/motulaw03.ReefSharp", spec := "reefSharp", unfollowed := true, recurses := true, plainKeys := false, apart := false }
def ReefSharpSaid : Prop := reefSharpRow.holds Try.pinned (OpenSpec.ofChange reefSharpSpec)

/-- ITS FALSE NEIGHBOUR: 'it returns false'. Refute it at one input. -/
def reefSharpWrong : ChangeSpec := { name := "reefSharp", fn := fun _ => fun
  | [d1, d2, d3] => { results := [.lit (.bool false)], args := [d1, d2, d3] }
  | _ => none }
def ReefSharpWrongFalsely : Prop := reefSharpRow.holds Try.pinned (OpenSpec.ofChange reefSharpWrong)

/-- 'motulaw03.ReefStocks': WHATEVER THE INPUT: true; the input reads as it did. -/
def reefStocksSpec : ChangeSpec := { name := "reefStocks", fn := fun _ => fun
  | [d1, d2] => { results := [.lit (.bool true)], args := [d1, d2] }
  | _ => none }
def reefStocksRow : OpenClaim := { program := "ythffoglpekpmdaa", sum := "16a248b659f2181830cec6fa1f97a310b9b902627614ddcd0037789a62f4afec", func := "motu/motulaw03.ReefStocks", spec := "reefStocks", unfollowed := true, recurses := true, plainKeys := false, apart := false }
def ReefStocksSaid : Prop := reefStocksRow.holds Try.pinned (OpenSpec.ofChange reefStocksSpec)

/-- ITS FALSE NEIGHBOUR: 'it returns false'. Refute it at one input. -/
def reefStocksWrong : ChangeSpec := { name := "reefStocks", fn := fun _ => fun
  | [d1, d2] => { results := [.lit (.bool false)], args := [d1, d2] }
  | _ => none }
def ReefStocksWrongFalsely : Prop := reefStocksRow.holds Try.pinned (OpenSpec.ofChange reefStocksWrong)

/- THE SECOND FORM. 'bulk': how many values and letters a reading holds, each counted each time it is reached (what is shared counts as often as it is met; a slice's spare places count too). A statement '..UptoSaid' is the law's where the arguments, and the package variables that the reading takes, are together of bulk at most 1048576: NARROWER than '..Said'. Prove '..Said' where nothing that the law and all that it calls make is longer than what came in: it says more and counts as full. Else prove '..UptoSaid'. A law counts once. -/
mutual
def uptoBulk {H : Type} : DataW H → Nat
  | .lit (.string bytes) => bytes.length + 1
  | .lit _ => 1
  | .nil => 1
  | .ptr d => uptoBulk d + 1
  | .slice elems spare => uptoBulkAll elems + uptoBulkAll spare + 1
  | .agg parts => uptoBulkAll parts + 1
  | .iface _ d => uptoBulk d + 1
  | .map entries => uptoBulkEntries entries + 1
  | .held _ => 1
def uptoBulkAll {H : Type} : List (DataW H) → Nat
  | [] => 0
  | d :: r => uptoBulk d + uptoBulkAll r
def uptoBulkEntries {H : Type} : List (Lit × DataW H) → Nat
  | [] => 0
  | x :: r => uptoBulkEntry x + uptoBulkEntries r
def uptoBulkEntry {H : Type} : Lit × DataW H → Nat
  | (.string bytes, d) => bytes.length + uptoBulk d + 1
  | (_, d) => uptoBulk d + 1
 end
def uptoSmall : (H : Type) → List (DataW H) → Bool := fun _ ds => decide (uptoBulkAll ds ≤ 1048576)
def OpenSpec.upto (s : _root_.Go.ChangeSpec) : _root_.Go.OpenSpec := { _root_.Go.OpenSpec.ofChange s with cond := some uptoSmall }

/-- 'motulaw03.ReefPlays', WHERE WHAT IT READS IS OF BULK AT MOST 1048576: true; the input reads as it did. -/
def reefPlaysUptoRow : OpenClaim := { program := "ythffoglpekpmdaa", sum := "16a248b659f2181830cec6fa1f97a310b9b902627614ddcd0037789a62f4afec", func := "motu/motulaw03.ReefPlays", spec := "reefPlays", unfollowed := true, recurses := true, plainKeys := false, apart := false, narrowed := true }
def ReefPlaysUptoSaid : Prop := reefPlaysUptoRow.holds Try.pinned (OpenSpec.upto reefPlaysSpec)

/-- 'motulaw03.ReefLedgers', WHERE WHAT IT READS IS OF BULK AT MOST 1048576: true; the input reads as it did. -/
def reefLedgersUptoRow : OpenClaim := { program := "ythffoglpekpmdaa", sum := "16a248b659f2181830cec6fa1f97a310b9b902627614ddcd0037789a62f4afec", func := "motu/motulaw03.ReefLedgers", spec := "reefLedgers", unfollowed := true, recurses := true, plainKeys := false, apart := false, narrowed := true }
def ReefLedgersUptoSaid : Prop := reefLedgersUptoRow.holds Try.pinned (OpenSpec.upto reefLedgersSpec)

/-- 'motulaw03.ReefShorts', WHERE WHAT IT READS IS OF BULK AT MOST 1048576: true; the input reads as it did. -/
def reefShortsUptoRow : OpenClaim := { program := "ythffoglpekpmdaa", sum := "16a248b659f2181830cec6fa1f97a310b9b902627614ddcd0037789a62f4afec", func := "motu/motulaw03.ReefShorts", spec := "reefShorts", unfollowed := true, recurses := true, plainKeys := false, apart := false, narrowed := true }
def ReefShortsUptoSaid : Prop := reefShortsUptoRow.holds Try.pinned (OpenSpec.upto reefShortsSpec)

/-- 'motulaw03.ReefRecovers', WHERE WHAT IT READS IS OF BULK AT MOST 1048576: true; the input reads as it did. -/
def reefRecoversUptoRow : OpenClaim := { program := "ythffoglpekpmdaa", sum := "16a248b659f2181830cec6fa1f97a310b9b902627614ddcd0037789a62f4afec", func := "motu/motulaw03.ReefRecovers", spec := "reefRecovers", unfollowed := true, recurses := true, plainKeys := false, apart := false, narrowed := true }
def ReefRecoversUptoSaid : Prop := reefRecoversUptoRow.holds Try.pinned (OpenSpec.upto reefRecoversSpec)

/-- 'motulaw03.ReefBests', WHERE WHAT IT READS IS OF BULK AT MOST 1048576: true; the input reads as it did. -/
def reefBestsUptoRow : OpenClaim := { program := "ythffoglpekpmdaa", sum := "16a248b659f2181830cec6fa1f97a310b9b902627614ddcd0037789a62f4afec", func := "motu/motulaw03.ReefBests", spec := "reefBests", unfollowed := true, recurses := true, plainKeys := false, apart := false, narrowed := true }
def ReefBestsUptoSaid : Prop := reefBestsUptoRow.holds Try.pinned (OpenSpec.upto reefBestsSpec)

/-- 'motulaw03.ReefRivals', WHERE WHAT IT READS IS OF BULK AT MOST 1048576: true; the input reads as it did. -/
def reefRivalsUptoRow : OpenClaim := { program := "ythffoglpekpmdaa", sum := "16a248b659f2181830cec6fa1f97a310b9b902627614ddcd0037789a62f4afec", func := "motu/motulaw03.ReefRivals", spec := "reefRivals", unfollowed := true, recurses := true, plainKeys := false, apart := false, narrowed := true }
def ReefRivalsUptoSaid : Prop := reefRivalsUptoRow.holds Try.pinned (OpenSpec.upto reefRivalsSpec)

/-- 'motulaw03.ReefQuotas', WHERE WHAT IT READS IS OF BULK AT MOST 1048576: true; the input reads as it did. -/
def reefQuotasUptoRow : OpenClaim := { program := "ythffoglpekpmdaa", sum := "16a248b659f2181830cec6fa1f97a310b9b902627614ddcd0037789a62f4afec", func := "motu/motulaw03.ReefQuotas", spec := "reefQuotas", unfollowed := true, recurses := true, plainKeys := false, apart := false, narrowed := true }
def ReefQuotasUptoSaid : Prop := reefQuotasUptoRow.holds Try.pinned (OpenSpec.upto reefQuotasSpec)

/-- 'motulaw03.ReefTaken', WHERE WHAT IT READS IS OF BULK AT MOST 1048576: true; the input reads as it did. -/
def reefTakenUptoRow : OpenClaim := { program := "ythffoglpekpmdaa", sum := "16a248b659f2181830cec6fa1f97a310b9b902627614ddcd0037789a62f4afec", func := "motu/motulaw03.ReefTaken", spec := "reefTaken", unfollowed := true, recurses := true, plainKeys := false, apart := false, narrowed := true }
def ReefTakenUptoSaid : Prop := reefTakenUptoRow.holds Try.pinned (OpenSpec.upto reefTakenSpec)

/-- 'motulaw03.ReefMore', WHERE WHAT IT READS IS OF BULK AT MOST 1048576: true; the input reads as it did. -/
def reefMoreUptoRow : OpenClaim := { program := "ythffoglpekpmdaa", sum := "16a248b659f2181830cec6fa1f97a310b9b902627614ddcd0037789a62f4afec", func := "motu/motulaw03.ReefMore", spec := "reefMore", unfollowed := true, recurses := true, plainKeys := false, apart := false, narrowed := true }
def ReefMoreUptoSaid : Prop := reefMoreUptoRow.holds Try.pinned (OpenSpec.upto reefMoreSpec)

/-- 'motulaw03.ReefTrue', WHERE WHAT IT READS IS OF BULK AT MOST 1048576: true; the input reads as it did. -/
def reefTrueUptoRow : OpenClaim := { program := "ythffoglpekpmdaa", sum := "16a248b659f2181830cec6fa1f97a310b9b902627614ddcd0037789a62f4afec", func := "motu/motulaw03.ReefTrue", spec := "reefTrue", unfollowed := true, recurses := true, plainKeys := false, apart := false, narrowed := true }
def ReefTrueUptoSaid : Prop := reefTrueUptoRow.holds Try.pinned (OpenSpec.upto reefTrueSpec)

/-- 'motulaw03.ReefSharp', WHERE WHAT IT READS IS OF BULK AT MOST 1048576: true; the input reads as it did. -/
def reefSharpUptoRow : OpenClaim := { program := "ythffoglpekpmdaa", sum := "16a248b659f2181830cec6fa1f97a310b9b902627614ddcd0037789a62f4afec", func := "motu/motulaw03.ReefSharp", spec := "reefSharp", unfollowed := true, recurses := true, plainKeys := false, apart := false, narrowed := true }
def ReefSharpUptoSaid : Prop := reefSharpUptoRow.holds Try.pinned (OpenSpec.upto reefSharpSpec)

/-- 'motulaw03.ReefStocks', WHERE WHAT IT READS IS OF BULK AT MOST 1048576: true; the input reads as it did. -/
def reefStocksUptoRow : OpenClaim := { program := "ythffoglpekpmdaa", sum := "16a248b659f2181830cec6fa1f97a310b9b902627614ddcd0037789a62f4afec", func := "motu/motulaw03.ReefStocks", spec := "reefStocks", unfollowed := true, recurses := true, plainKeys := false, apart := false, narrowed := true }
def ReefStocksUptoSaid : Prop := reefStocksUptoRow.holds Try.pinned (OpenSpec.upto reefStocksSpec)

end Rows
end Go.Proofs.Ythffoglpekpmdaa
