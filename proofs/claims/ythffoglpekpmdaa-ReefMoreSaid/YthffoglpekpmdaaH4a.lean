/- A slice of an array of four. -/
import Derived.Test.YthffoglpekpmdaaBlk
namespace Go.Proofs.Ythffoglpekpmdaa
set_option linter.unusedVariables false
set_option linter.unusedSimpArgs false
open Go.RowKit
theorem four_len : Try.prog.arrayLen 94 = 4 := by kernel_rfl
theorem four_elem : Try.prog.elem 94 = 3 := by kernel_rfl
theorem four_arr : Try.prog.underlying 94 = some (.array (Try.prog.arrayLen 94) (Try.prog.elem 94)) := by kernel_rfl
set_option maxRecDepth 100000 in
theorem run_size_int (w : World) : (sizeOf 3).run Try.prog w = .ok 1 w := rfl
theorem slice_four (y : World) (b m : Nat) (hm : m ≤ 4) : (Instr.sliceAt 94 (.pointer (some ⟨b, 0, none⟩)) none (some (.int .i64 m)) none).run Try.prog y = .ok (.slice (some ⟨b, 0, none⟩) m 4) y := by
  rw [run_sliceAt_array_h y 94 ⟨b, 0, none⟩ four_arr .i64 m (by omega) (by rw [four_len]; omega), four_elem, run_size_int, four_len]
  simp [Result.andThen, slicedAt, sliced, Addr.add]
end Go.Proofs.Ythffoglpekpmdaa
