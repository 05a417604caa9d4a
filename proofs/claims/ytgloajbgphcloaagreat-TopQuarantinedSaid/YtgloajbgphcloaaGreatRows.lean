/-
  No cell of these rows narrows 'for every input' (looked for: loops, veiled, ifaces, maps, wideKeys, modest, calm, conditions, laid).
  DERIVED. THE GIVEN ROWS OF THIS SEAT. 5 by the template 'for every input the law returns true; each argument reads behind the call as it read before'; 0 by the template 'total and deterministic' (their statements: YtgloajbgphcloaaGreatTotals.lean).
  GIVEN WITH THE SEED: the statements are not yours to turn. If you find one false, say at which input.
  Laid BY PROGRAM, IN A SANDBOX (cutbox-rows.mjs): the forced cells as the released guide's own fill.sh prints them over the translation 5d42af4af73681ed… (all of the seat's roots in one cut). By AI agents, Wed Nov 11 2026. No macro, syntax, notation, axiom, sorry.
-/
import Derived.Test.YtgloajbgphcloaaGreatChecked
import GoSem.Claim
import GoSem.ClaimJoined
import GoSem.ClaimMapViews
import Derived.JoinedTies
import Derived.KernelRfl
namespace Go.Proofs.YtgloajbgphcloaaGreat
/- THE CELL 'sum', in the pinned program and in every row, IS THE sha256 OF THE DUMP (.gsa) THAT YtgloajbgphcloaaGreatProg.lean LOADS. Nothing in Lean hashes anything: it is a label: what it is worth is what the hold of that sum in a sandbox is worth. -/
noncomputable def Tryz.pinned : Pinned := { name := "ytgloajbgphcloaagreat", sum := "5d42af4af73681ed535fbd524cb458c5f7c830c7f1d5b911743d3fdbacfde8d9", checked := Tryz.checked }
namespace Rows
def none {H : Type} : Left H := { results := [], args := [] }

/-- 'motutop.TopStorm': WHATEVER THE INPUT: true; the input reads as it did. -/
def topStormSpec : ChangeSpec := { name := "topStorm", fn := fun _ => fun
  | [d1, d2, d3, d4, d5, d6, d7] => { results := [.lit (.bool true)], args := [d1, d2, d3, d4, d5, d6, d7] }
  | _ => none }
def topStormRow : OpenClaim := { program := "ytgloajbgphcloaagreat", sum := "5d42af4af73681ed535fbd524cb458c5f7c830c7f1d5b911743d3fdbacfde8d9", func := "motu/motutop.TopStorm", spec := "topStorm", unfollowed := true, recurses := true, plainKeys := false, apart := false }
def TopStormSaid : Prop := topStormRow.holds Tryz.pinned (OpenSpec.ofChange topStormSpec)

/-- ITS FALSE NEIGHBOUR: 'it returns false'. Refute it at one input. -/
def topStormWrong : ChangeSpec := { name := "topStorm", fn := fun _ => fun
  | [d1, d2, d3, d4, d5, d6, d7] => { results := [.lit (.bool false)], args := [d1, d2, d3, d4, d5, d6, d7] }
  | _ => none }
def TopStormWrongFalsely : Prop := topStormRow.holds Tryz.pinned (OpenSpec.ofChange topStormWrong)

/-- 'motutop.TopSkies': WHATEVER THE INPUT: true; the input reads as it did. -/
def topSkiesSpec : ChangeSpec := { name := "topSkies", fn := fun _ => fun
  | [d1, d2, d3, d4] => { results := [.lit (.bool true)], args := [d1, d2, d3, d4] }
  | _ => none }
def topSkiesRow : OpenClaim := { program := "ytgloajbgphcloaagreat", sum := "5d42af4af73681ed535fbd524cb458c5f7c830c7f1d5b911743d3fdbacfde8d9", func := "motu/motutop.TopSkies", spec := "topSkies", unfollowed := true, recurses := true, plainKeys := false, apart := false }
def TopSkiesSaid : Prop := topSkiesRow.holds Tryz.pinned (OpenSpec.ofChange topSkiesSpec)

/-- ITS FALSE NEIGHBOUR: 'it returns false'. Refute it at one input. -/
def topSkiesWrong : ChangeSpec := { name := "topSkies", fn := fun _ => fun
  | [d1, d2, d3, d4] => { results := [.lit (.bool false)], args := [d1, d2, d3, d4] }
  | _ => none }
def TopSkiesWrongFalsely : Prop := topSkiesRow.holds Tryz.pinned (OpenSpec.ofChange topSkiesWrong)

/-- 'motutop.TopQuarantined': WHATEVER THE INPUT: true; the input reads as it did. -/
def topQuarantinedSpec : ChangeSpec := { name := "topQuarantined", fn := fun _ => fun
  | [d1, d2, d3, d4] => { results := [.lit (.bool true)], args := [d1, d2, d3, d4] }
  | _ => none }
def topQuarantinedRow : OpenClaim := { program := "ytgloajbgphcloaagreat", sum := "5d42af4af73681ed535fbd524cb458c5f7c830c7f1d5b911743d3fdbacfde8d9", func := "motu/motutop.TopQuarantined", spec := "topQuarantined", unfollowed := true, recurses := true, plainKeys := false, apart := false }
def TopQuarantinedSaid : Prop := topQuarantinedRow.holds Tryz.pinned (OpenSpec.ofChange topQuarantinedSpec)

/-- ITS FALSE NEIGHBOUR: 'it returns false'. Refute it at one input. -/
def topQuarantinedWrong : ChangeSpec := { name := "topQuarantined", fn := fun _ => fun
  | [d1, d2, d3, d4] => { results := [.lit (.bool false)], args := [d1, d2, d3, d4] }
  | _ => none }
def TopQuarantinedWrongFalsely : Prop := topQuarantinedRow.holds Tryz.pinned (OpenSpec.ofChange topQuarantinedWrong)

/-- 'motutop.TopTracks': WHATEVER THE INPUT: true; the input reads as it did. -/
def topTracksSpec : ChangeSpec := { name := "topTracks", fn := fun _ => fun
  | [d1, d2] => { results := [.lit (.bool true)], args := [d1, d2] }
  | _ => none }
def topTracksRow : OpenClaim := { program := "ytgloajbgphcloaagreat", sum := "5d42af4af73681ed535fbd524cb458c5f7c830c7f1d5b911743d3fdbacfde8d9", func := "motu/motutop.TopTracks", spec := "topTracks", unfollowed := true, recurses := true, plainKeys := false, apart := false }
def TopTracksSaid : Prop := topTracksRow.holds Tryz.pinned (OpenSpec.ofChange topTracksSpec)

/-- ITS FALSE NEIGHBOUR: 'it returns false'. Refute it at one input. -/
def topTracksWrong : ChangeSpec := { name := "topTracks", fn := fun _ => fun
  | [d1, d2] => { results := [.lit (.bool false)], args := [d1, d2] }
  | _ => none }
def TopTracksWrongFalsely : Prop := topTracksRow.holds Tryz.pinned (OpenSpec.ofChange topTracksWrong)

/-- 'motutop.TopFished': WHATEVER THE INPUT: true; the input reads as it did. -/
def topFishedSpec : ChangeSpec := { name := "topFished", fn := fun _ => fun
  | [d1, d2, d3, d4, d5, d6, d7, d8] => { results := [.lit (.bool true)], args := [d1, d2, d3, d4, d5, d6, d7, d8] }
  | _ => none }
def topFishedRow : OpenClaim := { program := "ytgloajbgphcloaagreat", sum := "5d42af4af73681ed535fbd524cb458c5f7c830c7f1d5b911743d3fdbacfde8d9", func := "motu/motutop.TopFished", spec := "topFished", unfollowed := true, recurses := true, plainKeys := false, apart := false }
def TopFishedSaid : Prop := topFishedRow.holds Tryz.pinned (OpenSpec.ofChange topFishedSpec)

/-- ITS FALSE NEIGHBOUR: 'it returns false'. Refute it at one input. -/
def topFishedWrong : ChangeSpec := { name := "topFished", fn := fun _ => fun
  | [d1, d2, d3, d4, d5, d6, d7, d8] => { results := [.lit (.bool false)], args := [d1, d2, d3, d4, d5, d6, d7, d8] }
  | _ => none }
def TopFishedWrongFalsely : Prop := topFishedRow.holds Tryz.pinned (OpenSpec.ofChange topFishedWrong)

/- THE SECOND FORM. 'bulk': how many values and letters a reading holds, each counted each time it is reached (what is shared counts as often as it is met; a slice's spare places count too). A statement '..UptoSaid' is the law's where the arguments, and the package variables that the reading takes, are together of bulk at most 1048576: NARROWER than '..Said'. Prove '..Said' where nothing that the law and all that it calls make is longer than what came in: it says more and counts as full. Else prove '..UptoSaid'. A law counts once. -/
mutual
def uptoBulk {H : Type} : DataW H → Nat
  | .lit (.string bytes) => bytes.length + 1
  | .lit _ => 1
  | .nil => 1
  | .ptr d => uptoBulk d + 1
  | .slice elems spare => uptoBulkAll elems + uptoBulkAll spare + 1
  | .agg parts => uptoBulkAll parts + 1
  | .iface _ d => uptoBulk d + 1
  | .map entries => uptoBulkEntries entries + 1
  | .held _ => 1
def uptoBulkAll {H : Type} : List (DataW H) → Nat
  | [] => 0
  | d :: r => uptoBulk d + uptoBulkAll r
def uptoBulkEntries {H : Type} : List (Lit × DataW H) → Nat
  | [] => 0
  | x :: r => uptoBulkEntry x + uptoBulkEntries r
def uptoBulkEntry {H : Type} : Lit × DataW H → Nat
  | (.string bytes, d) => bytes.length + uptoBulk d + 1
  | (_, d) => uptoBulk d + 1
 end
def uptoSmall : (H : Type) → List (DataW H) → Bool := fun _ ds => decide (uptoBulkAll ds ≤ 1048576)
def OpenSpec.upto (s : _root_.Go.ChangeSpec) : _root_.Go.OpenSpec := { _root_.Go.OpenSpec.ofChange s with cond := some uptoSmall }

/-- 'motutop.TopStorm', WHERE WHAT IT READS IS OF BULK AT MOST 1048576: true; the input reads as it did. -/
def topStormUptoRow : OpenClaim := { program := "ytgloajbgphcloaagreat", sum := "5d42af4af73681ed535fbd524cb458c5f7c830c7f1d5b911743d3fdbacfde8d9", func := "motu/motutop.TopStorm", spec := "topStorm", unfollowed := true, recurses := true, plainKeys := false, apart := false, narrowed := true }
def TopStormUptoSaid : Prop := topStormUptoRow.holds Tryz.pinned (OpenSpec.upto topStormSpec)

/-- 'motutop.TopSkies', WHERE WHAT IT READS IS OF BULK AT MOST 1048576: true; the input reads as it did. -/
def topSkiesUptoRow : OpenClaim := { program := "ytgloajbgphcloaagreat", sum := "5d42af4af73681ed535fbd524cb458c5f7c830c7f1d5b911743d3fdbacfde8d9", func := "motu/motutop.TopSkies", spec := "topSkies", unfollowed := true, recurses := true, plainKeys := false, apart := false, narrowed := true }
def TopSkiesUptoSaid : Prop := topSkiesUptoRow.holds Tryz.pinned (OpenSpec.upto topSkiesSpec)

/-- 'motutop.TopQuarantined', WHERE WHAT IT READS IS OF BULK AT MOST 1048576: true; the input reads as it did. -/
def topQuarantinedUptoRow : OpenClaim := { program := "ytgloajbgphcloaagreat", sum := "5d42af4af73681ed535fbd524cb458c5f7c830c7f1d5b911743d3fdbacfde8d9", func := "motu/motutop.TopQuarantined", spec := "topQuarantined", unfollowed := true, recurses := true, plainKeys := false, apart := false, narrowed := true }
def TopQuarantinedUptoSaid : Prop := topQuarantinedUptoRow.holds Tryz.pinned (OpenSpec.upto topQuarantinedSpec)

/-- 'motutop.TopTracks', WHERE WHAT IT READS IS OF BULK AT MOST 1048576: true; the input reads as it did. -/
def topTracksUptoRow : OpenClaim := { program := "ytgloajbgphcloaagreat", sum := "5d42af4af73681ed535fbd524cb458c5f7c830c7f1d5b911743d3fdbacfde8d9", func := "motu/motutop.TopTracks", spec := "topTracks", unfollowed := true, recurses := true, plainKeys := false, apart := false, narrowed := true }
def TopTracksUptoSaid : Prop := topTracksUptoRow.holds Tryz.pinned (OpenSpec.upto topTracksSpec)

/-- 'motutop.TopFished', WHERE WHAT IT READS IS OF BULK AT MOST 1048576: true; the input reads as it did. -/
def topFishedUptoRow : OpenClaim := { program := "ytgloajbgphcloaagreat", sum := "5d42af4af73681ed535fbd524cb458c5f7c830c7f1d5b911743d3fdbacfde8d9", func := "motu/motutop.TopFished", spec := "topFished", unfollowed := true, recurses := true, plainKeys := false, apart := false, narrowed := true }
def TopFishedUptoSaid : Prop := topFishedUptoRow.holds Tryz.pinned (OpenSpec.upto topFishedSpec)

end Rows
end Go.Proofs.YtgloajbgphcloaaGreat
