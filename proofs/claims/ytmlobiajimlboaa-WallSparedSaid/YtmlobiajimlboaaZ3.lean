/- Plain: what is spared for some money. -/
import Derived.Test.YtmlobiajimlboaaZ2
namespace Go.Proofs.Ytmlobiajimlboaa
set_option linter.unusedVariables false
set_option linter.unusedSimpArgs false
open Go.RowKit
theorem lexlt_anti : ∀ (a b : List Int), a.length = b.length → W.lexlt a b = false → W.lexlt b a = false → a = b
  | [], [], _, _, _ => rfl
  | [], _ :: _, h, _, _ => by simp at h
  | _ :: _, [], h, _, _ => by simp at h
  | x :: a, y :: b, h, h1, h2 => by
    rw [W.lexlt] at h1 h2
    by_cases e : x = y
    · subst e
      rw [if_pos rfl] at h1 h2
      rw [lexlt_anti a b (by simpa using h) h1 h2]
    · rw [if_neg e] at h1
      rw [if_neg (fun h => e h.symm)] at h2
      simp only [decide_eq_false_iff_not] at h1 h2
      omega
/-- All that the law of little money says, of one search with the money, one with more, one with all. -/
structure SpareFacts (s : W.Shore) (c : W.Storm) (m m2 : Int) : Prop where
  len : (foundOf s c m).plan.length = s.cells.length
  planB : W.planB s (foundOf s c m).plan = true
  below : ∀ p ∈ (foundOf s c m).plan, p < s.works.length
  cost : (foundOf s c m).cost = W.costs s.works (foundOf s c m).plan
  pays : (foundOf s c m).cost ≤ m
  dry : ((dryQ s c (foundOf s c m).plan).length : Int) = (foundOf s c m).houses
  more : (foundOf s c m).houses ≤ (foundOf s c m2).houses
  few : (foundOf s c 7000000).houses < W.houses s.cells → (foundOf s c m).houses < W.houses s.cells
  less : ¬ (foundOf s c 7000000).houses < W.houses s.cells → m < (foundOf s c 7000000).cost → (foundOf s c m).houses < W.houses s.cells
  all : ¬ (foundOf s c 7000000).houses < W.houses s.cells → ¬ m < (foundOf s c 7000000).cost → (foundOf s c m).houses = W.houses s.cells ∧ (foundOf s c m).cost = (foundOf s c 7000000).cost ∧ (foundOf s c m).plan = (foundOf s c 7000000).plan
  lenAll : (foundOf s c 7000000).plan.length = s.cells.length
theorem found_le {s : W.Shore} {c : W.Storm} (O : W.Ok s c) {m : Int} (hm : 0 ≤ m) : (foundOf s c m).houses ≤ W.houses s.cells := by
  have B := found_best (c := c) O hm
  have hd := dryQ_houses (c := c) O B.plan.1
  rw [dryQ_cnt] at hd
  have := cnt_le s.cells (W.play s (foundOf s c m).plan (W.worst s c))
  rw [B.houses, ← hd]; exact this
theorem spare_facts {s : W.Shore} {c : W.Storm} (O : W.Ok s c) {m m2 : Int} (h0 : 0 ≤ m) (h7 : m ≤ 7000000) (h2 : m ≤ m2) : SpareFacts s c m m2 := by
  have B := found_best (c := c) O h0
  have B2 := found_best (c := c) O (m := m2) (by omega)
  have BF := found_best (c := c) O (m := 7000000) (by omega)
  have e1 := B2.most _ B.plan (by rw [← B.cost]; have := B.pays; omega)
  have e2 := BF.most _ B.plan (costs_max O B.plan.1)
  rw [← B.houses] at e1 e2
  rw [← B.cost] at e2
  have l1 := found_le (c := c) O h0
  have lF := found_le (c := c) O (m := 7000000) (by omega)
  have hp := B.pays
  refine ⟨B.plan.1, planB_of B.plan, fun p hp => (B.plan.2 p hp).2, B.cost, B.pays, by rw [dryQ_houses O B.plan.1, ← B.houses], by omega, fun h => by omega, fun h h' => by omega, fun h h' => ?_, BF.plan.1⟩
  have e3 := B.most _ BF.plan (by rw [← BF.cost]; omega)
  rw [← BF.houses, ← BF.cost] at e3
  rcases e2 with e2 | ⟨e2, e4 | ⟨e4, e5⟩⟩
  · omega
  · omega
  · rcases e3 with e3 | ⟨e3, e6 | ⟨e6, e7⟩⟩
    · omega
    · omega
    · exact ⟨by omega, by omega, lexlt_anti _ _ (by rw [B.plan.1, BF.plan.1]) e5 e7⟩
end Go.Proofs.Ytmlobiajimlboaa
