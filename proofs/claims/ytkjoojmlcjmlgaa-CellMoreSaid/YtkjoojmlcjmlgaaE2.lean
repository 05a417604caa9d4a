/- What an argument reads as: a system whose list of loads is no longer than its room. -/
import Derived.Test.YtkjoojmlcjmlgaaE1
namespace Go.Proofs.Ytkjoojmlcjmlgaa
set_option linter.unusedVariables false
set_option linter.unusedSimpArgs false
open Go.RowKit Go.ChangeShapes Go.WideShapes
variable {H : Type} {enc : TypeId × Value → H} {w : World} {spare : Nat → Bool}
theorem loads_room {fuel : Nat} {v : Value} {x : DataW H × List MemPlace} (h : DataW.trod enc Try.prog w 0 spare true fuel 22 [v] = some x) : ∀ a n k, v = .slice a n k → n ≤ k := by
  rcases Deep.open_slice Try.underlying22 h with ⟨e, _⟩ | ⟨a, len, cap, m, n, D, Pl, e, _, hlc, _, hm, _, hi⟩
  · intro a n k hv
    rw [hv] at e
    cases e
    exact Nat.le_refl _
  · intro a' n' k' hv
    rw [hv] at e
    cases e
    exact hlc
set_option maxRecDepth 100000 in
theorem system_room {v : Value} {d : DataW H} {ps : List MemPlace} {r : Reach} {b0 : Nat} (hv : Value.okWide Try.prog w r b0 24 v) (h : DataW.Trod enc Try.prog w 0 spare true 24 v d ps) :
    ∃ (c : C.Sys) (vl : Value), v = .agg (sysV c vl) ∧ Loads w vl c.loads ∧ ∀ a n k, vl = .slice a n k → n ≤ k := by
  obtain ⟨fuel, h⟩ := h
  obtain ⟨hl, hf⟩ := field_of Try.underlying24 h
  rw [size_system] at hl
  obtain ⟨c0, c1, c2, c3, c4, c5, c6, c7, c8, c9, c10, hc⟩ := eleven hl
  rw [hc] at hf
  obtain ⟨_, _, h0⟩ := hf 0 _ rfl
  obtain ⟨_, _, h1⟩ := hf 1 _ rfl
  obtain ⟨_, _, h2⟩ := hf 2 _ rfl
  obtain ⟨_, _, h3⟩ := hf 3 _ rfl
  obtain ⟨_, _, h4⟩ := hf 4 _ rfl
  obtain ⟨_, _, h5⟩ := hf 5 _ rfl
  obtain ⟨_, _, h6⟩ := hf 6 _ rfl
  obtain ⟨_, _, h7⟩ := hf 7 _ rfl
  obtain ⟨_, _, h8⟩ := hf 8 _ rfl
  obtain ⟨_, _, h9⟩ := hf 9 _ rfl
  obtain ⟨_, _, h10⟩ := hf 10 _ rfl
  simp only [size_int, size_loads, List.drop_zero, List.take_succ_cons, List.take_zero, List.drop_succ_cons] at h0 h1 h2 h3 h4 h5 h6 h7 h8 h9 h10
  obtain ⟨n0, e0⟩ := int_of h0
  obtain ⟨n1, e1⟩ := int_of h1
  obtain ⟨n2, e2⟩ := int_of h2
  obtain ⟨n3, e3⟩ := int_of h3
  obtain ⟨n4, e4⟩ := int_of h4
  obtain ⟨vl, xs, e5, hP⟩ := loads_of h5
  have hr : ∀ a n k, vl = .slice a n k → n ≤ k := by rw [e5] at h5; exact loads_room h5
  obtain ⟨n6, e6⟩ := int_of h6
  obtain ⟨n7, e7⟩ := int_of h7
  obtain ⟨n8, e8⟩ := int_of h8
  obtain ⟨n9, e9⟩ := int_of h9
  obtain ⟨n10, e10⟩ := int_of h10
  cases e0; cases e1; cases e2; cases e3; cases e4; cases e5; cases e6; cases e7; cases e8; cases e9; cases e10
  exact ⟨⟨n0, n1, n2, n3, n4, xs, n6, n7, n8, n9, n10⟩, _, agg_of Try.underlying24 hv hc, hP, hr⟩
end Go.Proofs.Ytkjoojmlcjmlgaa
