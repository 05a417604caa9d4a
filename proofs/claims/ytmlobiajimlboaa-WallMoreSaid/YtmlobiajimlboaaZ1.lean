/- Plain: the dry cells as a list, the first dry cell inward. -/
import Derived.Test.YtmlobiajimlboaaPlain6
import Derived.Test.YtmlobiajimlboaaD7
namespace Go.Proofs.Ytmlobiajimlboaa
set_option linter.unusedVariables false
set_option linter.unusedSimpArgs false
open Go.RowKit
theorem dryTo_has (cs : List W.Cell) (ns : List Int) (n k : Nat) : (dryTo cs ns n).contains (k : Int) = (decide (k < n) && dryB (cs[k]?.getD default) (W.nth ns k)) := by
  rw [Bool.eq_iff_iff]
  simp only [dryTo, List.contains_iff_mem, List.mem_map, List.mem_filter, List.mem_range, Bool.and_eq_true, decide_eq_true_eq]
  constructor
  · rintro ⟨i, ⟨h1, h2⟩, h3⟩
    have e : i = k := by omega
    subst e
    exact ⟨h1, h2⟩
  · rintro ⟨h1, h2⟩
    exact ⟨k, ⟨h1, h2⟩, rfl⟩
theorem fz_none : ∀ (l : List Int) (k : Nat), firstZero l k = none → ∀ (j : Nat) (h : j < l.length), l[j] ≠ 0
  | [], _, _, j, h => by simp at h
  | x :: xs, k, hf, j, h => by
    rw [firstZero] at hf
    split at hf
    · simp at hf
    · rename_i hx
      cases j with
      | zero => exact hx
      | succ j => exact fz_none xs (k + 1) hf j (by simpa using h)
theorem fz_some : ∀ (l : List Int) (k i : Nat), firstZero l k = some i → ∃ m, i = k + m ∧ ∃ h : m < l.length, l[m] = 0 ∧ ∀ (j : Nat) (hj : j < l.length), j < m → l[j] ≠ 0
  | [], _, _, hf => by simp [firstZero] at hf
  | x :: xs, k, i, hf => by
    rw [firstZero] at hf
    split at hf
    · rename_i hx
      simp only [Option.some.injEq] at hf
      exact ⟨0, by omega, by simp, hx, fun j _ hj => by omega⟩
    · rename_i hx
      obtain ⟨m, h1, h2, h3, h4⟩ := fz_some xs (k + 1) i hf
      refine ⟨m + 1, by omega, by simpa using h2, by simpa using h3, fun j hj hjm => ?_⟩
      cases j with
      | zero => exact hx
      | succ j => exact h4 j (by simpa using hj) (by omega)
theorem firstZero_none {Z : List Int} {k0 : Nat} (h : firstZero (Z.drop k0) k0 = none) (k : Nat) (h1 : k0 ≤ k) (h2 : k < Z.length) : Z[k] ≠ 0 := by
  have := fz_none _ _ h (k - k0) (by simp; omega)
  rw [List.getElem_drop] at this
  have e : k0 + (k - k0) = k := by omega
  simpa only [e] using this
theorem firstZero_some {Z : List Int} {k0 i : Nat} (h : firstZero (Z.drop k0) k0 = some i) : k0 ≤ i ∧ ∃ hi : i < Z.length, Z[i] = 0 ∧ ∀ (k : Nat) (hk : k < Z.length), k0 ≤ k → k < i → Z[k] ≠ 0 := by
  obtain ⟨m, rfl, h2, h3, h4⟩ := fz_some _ _ _ h
  rw [List.length_drop] at h2
  rw [List.getElem_drop] at h3
  refine ⟨by omega, by omega, h3, fun k hk h5 h6 => ?_⟩
  have := h4 (k - k0) (by simp; omega) (by omega)
  rw [List.getElem_drop] at this
  have e : k0 + (k - k0) = k := by omega
  simpa only [e] using this
end Go.Proofs.Ytmlobiajimlboaa
