/- The memo: a map from spots to choices, read back as the very values. -/
import Derived.Test.YtmlobiajimlboaaD11
import Derived.Test.YtmlobiajimlboaaD10
import Derived.Maps.OwnSet
import Derived.Maps.Views
import Derived.DeepKeys4
namespace Go.Proofs.Ytmlobiajimlboaa
set_option linter.unusedVariables false
set_option linter.unusedSimpArgs false
open Go.RowKit Go.Maps
theorem spot_row : (117 : TypeId) < Try.prog.types.size := of_decide_eq_true (by kernel_rfl)
theorem spot_wide : (match Try.prog.underlying 117 with | some (.array _ _) | some (.struct _) => true | _ => false) = true := by kernel_rfl
set_option maxRecDepth 100000 in
theorem spot_keyed : Keyed Try.prog 117 := Keyed.of_law (deep_law_laid (by kernel_rfl) (m := 3) (by omega) spot_row (by kernel_rfl) spot_wide)
end Go.Proofs.Ytmlobiajimlboaa
