/- What people would take in a season, and what a plan costs. -/
import Derived.Test.YthffoglpekpmdaaIt
import Derived.Test.YthffoglpekpmdaaRw
namespace Go.Proofs.Ythffoglpekpmdaa
set_option linter.unusedVariables false
set_option linter.unusedSimpArgs false
open Go.RowKit Go.Shelf
attribute [local go_sem] Oper.semAt_some
/-- The spans of what is taken, some places closed. -/
def takeL (ps : List R.Place) (cl : List Nat) : List (Int × Int) := (List.range ps.length).map fun i => R.take (R.pat ps i) (cl.contains i)
def takesOf (r : R.Reef) (plan : List Int) (s : Nat) : List (Int × Int) := (List.range r.places.length).map fun i => R.take (R.pat r.places i) (R.has (R.iat plan s) i)
def openC (p : R.Place) : List Value := [.int .i64 p.ol, .int .i64 p.oh]
theorem closed_mem (set : Int) (n i : Nat) (hi : i < n) : (closedTo set n).contains i = R.has set i := by
  unfold closedTo
  rw [Bool.eq_iff_iff, List.contains_iff_mem, List.mem_filter, List.mem_range]
  simp [hi]
theorem takeL_closed (r : R.Reef) (plan : List Int) (s : Nat) (hs : s < plan.length) : takeL r.places (closedTo plan[s] r.places.length) = takesOf r plan s := by
  unfold takeL takesOf
  apply List.map_congr_left
  intro i hi
  rw [closed_mem _ _ _ (List.mem_range.1 hi)]
  have : R.iat plan s = plan[s] := by simp [R.iat, hs]
  rw [this]
theorem takeL_nil (ps : List R.Place) : takeL ps [] = ps.map fun p => (p.ol, p.oh) := by
  apply List.ext_getElem
  · simp [takeL]
  · intro i h1 h2
    have hi : i < ps.length := by simpa using h2
    simp [takeL, R.take, R.pat, hi]
theorem takeL_snoc (ps : List R.Place) (cl : List Nat) (i : Nat) (hi : i < ps.length) : takeL ps (cl ++ [i]) = (takeL ps cl).set i (ps[i].sl, ps[i].sh) := by
  apply List.ext_getElem
  · simp [takeL]
  · intro j h1 h2
    have hj : j < ps.length := by simpa [takeL] using h1
    rw [List.getElem_set]
    by_cases e : i = j
    · subst e; simp [takeL, R.take, R.pat, hj]
    · rw [if_neg e]
      have : (cl ++ [i]).contains j = cl.contains j := by
        rw [Bool.eq_iff_iff]; simp [Ne.symm e]
      simp only [takeL, List.getElem_map, List.getElem_range, this]
theorem takeL_len (ps : List R.Place) (cl : List Nat) : (takeL ps cl).length = ps.length := by simp [takeL]
/-- A row of spans, one of them stored anew. -/
theorem RowB.set_span {w : World} {g : Nat} {xs : List (Int × Int)} (h : RowB spanC 2 44 w g xs) (i : Nat) (x : Int × Int) :
    RowB spanC 2 44 ((w.setCell ⟨g, i * 2, none⟩ (.int .i64 x.1)).setCell ⟨g, i * 2 + 1, none⟩ (.int .i64 x.2)) g (xs.set i x) := by
  obtain ⟨cs, hB, hc⟩ := h
  refine ⟨_, (hB.set _ _).set _ _, fun k hk j u hu => ?_⟩
  have hk' : k < xs.length := by simpa using hk
  rw [List.getElem_set] at hu
  have h0 := hc k hk' 0 _ rfl
  have h1 := hc k hk' 1 _ rfl
  simp only [Nat.add_zero] at h0
  obtain ⟨z0, _⟩ := Array.getElem?_eq_some_iff.1 h0
  obtain ⟨z1, _⟩ := Array.getElem?_eq_some_iff.1 h1
  by_cases e : i = k
  · subst e
    rw [if_pos rfl] at hu
    match j, hu with
    | 0, hu => simp [spanC] at hu; simp [Array.getElem?_setIfInBounds, z0, hu]
    | 1, hu => simp [spanC] at hu; simp [Array.getElem?_setIfInBounds, z1, hu]
    | j + 2, hu => simp [spanC] at hu
  · rw [if_neg e] at hu
    have h2 := hc k hk' j u hu
    have hj : j < 2 := (List.getElem?_eq_some_iff.1 hu).1
    rw [Array.getElem?_setIfInBounds, if_neg (by omega), Array.getElem?_setIfInBounds, if_neg (by omega)]
    exact h2
end Go.Proofs.Ythffoglpekpmdaa
