/- Tails of a function's code, single regions of it. -/
import Derived.Test.YtgloajbgphcloaaGreatCo
namespace Go.Proofs.YtgloajbgphcloaaGreat
set_option linter.unusedVariables false
set_option linter.unusedSimpArgs false
open Go.RowKit
def codeTail:Nat→Code→Code
 | 0,c=>c
 | n+1,.seq _ b=>codeTail n b
 | _,c=>c
def findRegion (n:Nat):Code→Option Code
 | .region i ops d=>if i=n then some (.region i ops d)else none
 | .seq a b=>match findRegion n a with
  | some c=>some c
  | none=>findRegion n b
 | .cond _ a b=>match findRegion n a with
  | some c=>some c
  | none=>findRegion n b
 | .block _ c=>findRegion n c
 | .loop c=>findRegion n c
 | _=>none
end Go.Proofs.YtgloajbgphcloaaGreat
