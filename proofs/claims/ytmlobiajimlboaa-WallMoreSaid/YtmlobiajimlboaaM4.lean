/- What the loop of the search gathers. -/
import Derived.Test.YtmlobiajimlboaaM3a
namespace Go.Proofs.Ytmlobiajimlboaa
set_option linter.unusedVariables false
set_option linter.unusedSimpArgs false
open Go.RowKit Go.Maps
theorem options_len (n : Nat) : (W.options n).length = n + 1 := by simp [W.options]
theorem options_get (n k : Nat) (h : k < n + 1) : (W.options n)[k]'(by rw [options_len]; exact h) = (k : Int) - 1 := by
  cases k with
  | zero => simp [W.options]
  | succ k => simp [W.options]
theorem cands_none {n k : Nat} (h : k < n + 1) {f : Int → Option W.Choice} (hf : f ((k : Int) - 1) = none) : ((W.options n).take (k + 1)).filterMap f = ((W.options n).take k).filterMap f := by
  rw [List.take_succ_eq_append_getElem (by rw [options_len]; exact h), List.filterMap_append, options_get n k h]
  simp [hf]
theorem cands_some {n k : Nat} (h : k < n + 1) {f : Int → Option W.Choice} {x : W.Choice} (hf : f ((k : Int) - 1) = some x) : ((W.options n).take (k + 1)).filterMap f = ((W.options n).take k).filterMap f ++ [x] := by
  rw [List.take_succ_eq_append_getElem (by rw [options_len]; exact h), List.filterMap_append, options_get n k h]
  simp [hf]
def choiceC (p : W.Choice × Value) : List Value := [.int .i64 p.1.houses, .int .i64 p.1.cost, p.2]
theorem Choices.of_own {w : World} {base : Nat} {v : Value} {L : List (W.Choice × Value)} (h : w.ownsRow base 102 3 v L.length (L.flatMap choiceC)) (hi : ∀ p ∈ L, IntsB w p.2 p.1.plan) : Choices w v (L.map Prod.fst) := by
  obtain ⟨a, cap, rfl⟩ := own_slice h
  refine ⟨a, cap, by simp, fun i hi' => ?_⟩
  have hi2 : i < L.length := by simpa using hi'
  rcases h.2 with ⟨e, h0⟩ | ⟨g, cap', cur, hv, hb, hg, _⟩
  · rw [h0] at hi2; exact absurd hi2 (by omega)
  · cases hv
    have hget := fun j (hj : j < 3) => flat_get choiceC 3 (fun _ => rfl) L i hi2 j hj
    refine ⟨g, 0, rfl, own_lt h, ?_, ?_, L[i].2, ?_, ?_⟩
    · refine (own_cell h _ _ ?_); rw [Nat.zero_add]; simpa [choiceC] using hget 0 (by omega)
    · refine (own_cell h _ _ ?_); rw [Nat.zero_add]; simpa [choiceC] using hget 1 (by omega)
    · refine (own_cell h _ _ ?_); rw [Nat.zero_add]; simpa [choiceC] using hget 2 (by omega)
    · simpa using hi L[i] (List.getElem_mem hi2)
theorem cell_three (w : World) (x y z : Value) (e : TypeId) {b : Nat} (hb : b = w.heap.size) : ∀ j u, ([x, y, z] : List Value)[j]? = some u → (w.alloc (.cells #[x, y, z] e)).cell? ((⟨b, 0, none⟩ : Addr).add j) = some u := by
  intro j u hj
  subst hb
  have hadd : (⟨w.heap.size, 0, none⟩ : Addr).add j = ⟨w.heap.size, j, none⟩ := by unfold Addr.add; split <;> simp_all
  rw [hadd, (Blk.new w #[x, y, z] e).cell]
  simpa using hj
theorem one_choice (h c : Int) (a : Option Addr) (n cap : Nat) : ∀ u ∈ [Value.int .i64 h, .int .i64 c, .slice a n cap], u.oneCell' = true := by
  intro u hu; simp at hu; rcases hu with rfl | rfl | rfl <;> rfl
theorem flat_snoc (L : List (W.Choice × Value)) (x : W.Choice) (v : Value) : (L ++ [(x, v)]).flatMap choiceC = L.flatMap choiceC ++ [.int .i64 x.houses, .int .i64 x.cost, v] := by
  simp [List.flatMap_append, choiceC]
theorem first_set (j : Nat) (q : Int) : ∀ i (hi : i < (q :: List.replicate j (-1)).length), ((ints (List.replicate (j + 1) (-1))).setIfInBounds 0 (.int .i64 q))[i]? = some (.int .i64 (q :: List.replicate j (-1))[i]) := by
  intro i hi
  have h : i < j + 1 := by simpa using hi
  cases i with
  | zero => simp [ints]
  | succ i =>
    have h' : i < j := by omega
    simp [ints, List.getElem?_replicate, h']
theorem plan_ints {w : World} {g j : Nat} {q : Int} {cs : Array Value} (h : Blk w g cs 3) (hc : cs = (ints (List.replicate (j + 1) (-1))).setIfInBounds 0 (.int .i64 q)) : IntsB w (.slice (some ⟨g, 0, none⟩) (j + 1) (j + 1)) (q :: List.replicate j (-1)) := by
  have := IntsB.of_blk (xs := q :: List.replicate j (-1)) h (by rw [hc]; exact first_set j q) (j + 1)
  simpa using this
end Go.Proofs.Ytmlobiajimlboaa
