/- Both ends are truths; how long the lists of fish are. -/
import Derived.Test.YthffoglpekpmdaaPl3
namespace Go.Proofs.Ythffoglpekpmdaa.R
set_option linter.unusedVariables false
set_option linter.unusedSimpArgs false
theorem pat_at {l : List Place} {i : Nat} (h : i < l.length) : pat l i = l[i] := by simp [pat, h]
theorem iat_at {l : List Int} {i : Nat} (h : i < l.length) : iat l i = l[i] := by simp [iat, h]
theorem lat_at {l : List (List Int)} {i : Nat} (h : i < l.length) : lat l i = l[i] := by simp [lat, h]
theorem iat_mapRange (f : Nat → Int) {n i : Nat} (h : i < n) : iat ((List.range n).map f) i = f i := by
  rw [iat_at (by simpa using h)]; simp
theorem most_ge {r : Reef} (O : OkR r) {c : Int} (h : 0 ≤ c) : c ≤ most r c := by
  unfold most
  have h2 : 0 ≤ c * r.miss := Int.mul_nonneg h O.m0
  omega
theorem okT_end {r : Reef} {plan : List Int} (O : OkR r) (m : Bool) : OkT r plan (endT r plan m) := by
  have hs : ((r.seasons.toNat : Nat) : Int) = r.seasons := Int.toNat_of_nonneg (by have := O.s1; omega)
  have hg : ∀ s, s < r.seasons.toNat → lat (endT r plan m).grows s = r.places.map fun p => if m then p.gh else p.gl := fun s h => by
    rw [lat_at (by simp [endT, h])]; simp [endT]
  have ht : ∀ s, s < r.seasons.toNat → lat (endT r plan m).takes s = (List.range r.places.length).map fun i => if m then (take (pat r.places i) (has (iat plan s) i)).1 else (take (pat r.places i) (has (iat plan s) i)).2 := fun s h => by
    rw [lat_at (by simp [endT, h])]; simp [endT]
  refine ⟨by simp [endT], by simp [endT, hs], by simp [endT, hs], fun i hi => ?_, fun s h => by rw [hg s h]; simp, fun s h => by rw [ht s h]; simp, fun s h i hi => ?_, fun s h i hi => ?_⟩
  · have hO := O.place i hi
    have h2 := most_ge O hO.c0
    rw [pat_at hi] at h2 ⊢
    rw [iat_at (by simp [endT, hi])]
    cases m <;> simp [endT] <;> omega
  · have hO := (O.place i hi).g1
    rw [pat_at hi] at hO ⊢
    rw [hg s h, iat_at (by simp [hi]), List.getElem_map]
    cases m
    · exact ⟨Int.le_refl _, hO⟩
    · exact ⟨hO, Int.le_refl _⟩
  · have hO := (take_bd (O.place i hi) (has (iat plan s) i)).2.1
    rw [ht s h, iat_mapRange _ hi]
    cases m
    · exact ⟨hO, Int.le_refl _⟩
    · exact ⟨Int.le_refl _, hO⟩
theorem fishOf_len (r : Reef) (t : Truth) : (fishOf r t).length = r.seasons.toNat := by simp [fishOf]
theorem fishOf_at (r : Reef) (t : Truth) {s : Nat} (h : s < r.seasons.toNat) : lat (fishOf r t) s = (stateAt r t (s + 1)).fish := by
  rw [lat_at (by simp [fishOf, h])]; simp [fishOf]
theorem fishOf_row {r : Reef} {plan : List Int} {t : Truth} (O : OkR r) (T : OkT r plan t) {s : Nat} (h : s < r.seasons.toNat) : (lat (fishOf r t) s).length = r.places.length := by
  rw [fishOf_at r t h]; exact (fine_at O T (s + 1) (by omega)).len
theorem fishOf_bd {r : Reef} {plan : List Int} {t : Truth} (O : OkR r) (T : OkT r plan t) {s : Nat} (h : s < r.seasons.toNat) (i : Nat) : 0 ≤ iat (lat (fishOf r t) s) i ∧ iat (lat (fishOf r t) s) i ≤ 28000000 := by
  rw [fishOf_at r t h]
  have hf := fine_at O T (s + 1) (by omega)
  exact ⟨hf.nn i, (fine_bd O T (by have := O.s4; omega) hf).2.2.2.2 i⟩
end Go.Proofs.Ythffoglpekpmdaa.R
