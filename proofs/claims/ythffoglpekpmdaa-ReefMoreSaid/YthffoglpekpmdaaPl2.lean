/- What being as defined says, in inequalities. -/
import Derived.Test.YthffoglpekpmdaaPl
namespace Go.Proofs.Ythffoglpekpmdaa.R
set_option linter.unusedVariables false
set_option linter.unusedSimpArgs false
structure OkP (p : Place) (i n : Int) : Prop where
  c0 : 0 ≤ p.count
  c1 : p.count ≤ 1000000
  r0 : 0 ≤ p.room
  r1 : p.room ≤ 1000000
  g0 : 0 ≤ p.gl
  g1 : p.gl ≤ p.gh
  g2 : p.gh ≤ 2000
  d0 : 0 ≤ p.drift
  d1 : p.drift ≤ 1000
  i0 : -1 ≤ p.into
  i1 : p.into < n
  i2 : p.into ≠ i
  o0 : 0 ≤ p.ol
  o1 : p.ol ≤ p.oh
  o2 : p.oh ≤ 1000000
  s0 : 0 ≤ p.sl
  s1 : p.sl ≤ p.sh
  s2 : p.sh ≤ 1000000
  w0 : 0 ≤ p.worth
  w1 : p.worth ≤ 1000000
  l0 : 0 ≤ p.goal
  l1 : p.goal ≤ 1000000
theorem okP_of {p : Place} {i n : Int} (h : placeB p i n = true) : OkP p i n := by
  unfold placeB within spanB at h
  simp only [Bool.and_eq_true, decide_eq_true_eq, Bool.not_eq_true', decide_eq_false_iff_not] at h
  constructor <;> first | omega | exact h.1.1.1.1.1.2
structure OkR (r : Reef) : Prop where
  n1 : 1 ≤ r.places.length
  n4 : r.places.length ≤ 4
  m0 : 0 ≤ r.miss
  m1 : r.miss ≤ 2000
  s1 : 1 ≤ r.seasons
  s4 : r.seasons ≤ 4
  place : ∀ i, i < r.places.length → OkP (pat r.places i) i r.places.length
theorem okR_of {r : Reef} (h : reefB r = true) : OkR r := by
  unfold reefB goodTo within at h
  simp only [Bool.and_eq_true, decide_eq_true_eq, List.all_eq_true, List.mem_range] at h
  obtain ⟨⟨⟨h1, h2⟩, h3⟩, h4⟩ := h
  exact ⟨by omega, by omega, by omega, by omega, by omega, by omega, fun i hi => okP_of (h1 i hi)⟩
theorem okR_limited {r : Reef} (O : OkR r) (k : Nat) (m : Int) (hk : k < r.places.length) (hm : 0 ≤ m) : OkR (limited r k m) := by
  have hl : (limited r k m).places.length = r.places.length := by simp [limited]
  have hp : ∀ i, pat (limited r k m).places i = if k = i then { pat r.places k with ol := if (pat r.places k).ol < m then (pat r.places k).ol else m, oh := if (pat r.places k).oh < m then (pat r.places k).oh else m } else pat r.places i := fun i => by
    unfold limited pat
    rw [List.getD_eq_getElem?_getD, List.getElem?_set]
    by_cases e : k = i
    · subst e; simp [hk]
    · simp [e]
  refine ⟨by rw [hl]; exact O.n1, by rw [hl]; exact O.n4, O.m0, O.m1, O.s1, O.s4, fun i hi => ?_⟩
  rw [hl] at hi ⊢
  rw [hp]
  by_cases e : k = i
  · subst e
    rw [if_pos rfl]
    have h := O.place k hi
    exact ⟨h.c0, h.c1, h.r0, h.r1, h.g0, h.g1, h.g2, h.d0, h.d1, h.i0, h.i1, h.i2, by have := h.o0; dsimp only; split <;> omega, by have := h.o1; dsimp only; split <;> split <;> omega, by have := h.o2; dsimp only; split <;> omega, h.s0, h.s1, h.s2, h.w0, h.w1, h.l0, h.l1⟩
  · rw [if_neg e]; exact O.place i hi
theorem two_pow (n : Nat) (hn : n ≤ 4) : 1 ≤ (2 : Int) ^ n ∧ (2 : Int) ^ n ≤ 16 := by
  have : n = 0 ∨ n = 1 ∨ n = 2 ∨ n = 3 ∨ n = 4 := by omega
  rcases this with rfl | rfl | rfl | rfl | rfl <;> decide
structure OkL (r : Reef) (l : List Int) : Prop where
  len : (l.length : Int) = r.seasons
  bit : ∀ s (h : s < l.length), 0 ≤ l[s] ∧ l[s] < 2 ^ r.places.length
theorem okL_iff {r : Reef} {l : List Int} : planB r l = true ↔ OkL r l := by
  unfold planB sets within
  simp only [Bool.and_eq_true, decide_eq_true_eq, List.all_eq_true]
  constructor
  · rintro ⟨h1, h2⟩
    exact ⟨h2, fun s hs => by have := h1 _ (List.getElem_mem hs); omega⟩
  · rintro ⟨h1, h2⟩
    refine ⟨fun x hx => ?_, h1⟩
    obtain ⟨s, hs, rfl⟩ := List.getElem_of_mem hx
    have := h2 s hs
    omega
theorem okL_limited {r : Reef} {l : List Int} (L : OkL r l) (k : Nat) (m : Int) : OkL (limited r k m) l :=
  ⟨L.len, fun s h => by have := L.bit s h; simpa [limited] using this⟩
structure OkT (r : Reef) (plan : List Int) (t : Truth) : Prop where
  ls : t.starts.length = r.places.length
  lg : (t.grows.length : Int) = r.seasons
  lt : (t.takes.length : Int) = r.seasons
  start : ∀ i, i < r.places.length → (pat r.places i).count ≤ iat t.starts i ∧ iat t.starts i ≤ most r (pat r.places i).count
  gl : ∀ s, s < r.seasons.toNat → (lat t.grows s).length = r.places.length
  tl : ∀ s, s < r.seasons.toNat → (lat t.takes s).length = r.places.length
  grow : ∀ s, s < r.seasons.toNat → ∀ i, i < r.places.length → (pat r.places i).gl ≤ iat (lat t.grows s) i ∧ iat (lat t.grows s) i ≤ (pat r.places i).gh
  take : ∀ s, s < r.seasons.toNat → ∀ i, i < r.places.length → (take (pat r.places i) (has (iat plan s) i)).1 ≤ iat (lat t.takes s) i ∧ iat (lat t.takes s) i ≤ (R.take (pat r.places i) (has (iat plan s) i)).2
theorem okT_iff {r : Reef} {plan : List Int} {t : Truth} : truthB r plan t = true ↔ OkT r plan t := by
  unfold truthB lensB startsTo seasonsTo seasonB rowTo within
  simp only [Bool.and_eq_true, decide_eq_true_eq, List.all_eq_true, List.mem_range]
  constructor
  · rintro ⟨⟨⟨⟨h1, h2⟩, h3⟩, h4⟩, h5⟩
    exact ⟨h1, h2, h3, h4, fun s hs => (h5 s hs).1.1, fun s hs => (h5 s hs).1.2, fun s hs i hi => ((h5 s hs).2 i hi).1, fun s hs i hi => ((h5 s hs).2 i hi).2⟩
  · rintro ⟨h1, h2, h3, h4, h5, h6, h7, h8⟩
    exact ⟨⟨⟨⟨h1, h2⟩, h3⟩, h4⟩, fun s hs => ⟨⟨h5 s hs, h6 s hs⟩, fun i hi => ⟨h7 s hs i hi, h8 s hs i hi⟩⟩⟩
end Go.Proofs.Ythffoglpekpmdaa.R
