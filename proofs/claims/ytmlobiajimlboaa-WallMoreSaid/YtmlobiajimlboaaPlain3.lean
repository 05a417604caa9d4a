import Derived.Test.YtmlobiajimlboaaPlain2
namespace Go.Proofs.Ytmlobiajimlboaa.W
set_option linter.unusedVariables false
set_option linter.unusedSimpArgs false

/-- All plans, in lexicographic order. -/
def plans (n : Nat) : Nat → List (List Int)
  | 0 => [[]]
  | k + 1 => (plans n k).flatMap fun p => (options n).map fun w => p ++ [w]
def tryPlan (H C : List Int → Int) (m : Int) (b q : List Int) : List Int :=
  if m < C q then b else if H b < H q ∨ (H q = H b ∧ C q < C b) then q else b
/-- All plans are tried: the first of the best. -/
def brute (H C : List Int → Int) (m : Int) : List (List Int) → List Int
  | [] => []
  | q :: qs => qs.foldl (tryPlan H C m) q

theorem mem_plans (n : Nat) : ∀ (k : Nat) (q : List Int), q ∈ plans n k ↔ Plan n k q
  | 0, q => by
    simp only [plans, List.mem_singleton]
    constructor
    · rintro rfl; exact ⟨rfl, fun _ h => by cases h⟩
    · rintro ⟨h, _⟩; cases q with | nil => rfl | cons _ _ => cases h
  | k + 1, q => by
    simp only [plans, List.mem_flatMap, List.mem_map]
    constructor
    · rintro ⟨p, hp, w, hw, rfl⟩
      have hp := (mem_plans n k p).1 hp
      have hw := mem_options.1 hw
      refine ⟨by simp [hp.1], fun x hx => ?_⟩
      simp only [List.mem_append, List.mem_singleton] at hx
      rcases hx with hx | rfl
      · exact hp.2 x hx
      · exact hw
    · rintro ⟨h1, h2⟩
      have hne : q ≠ [] := by rintro rfl; cases h1
      have e := List.dropLast_concat_getLast hne
      refine ⟨q.dropLast, (mem_plans n k _).2 ⟨by simp [h1], fun x hx => h2 x ((List.dropLast_sublist q).subset hx)⟩, q.getLast hne, mem_options.2 (h2 _ (List.getLast_mem hne)), e⟩

theorem lexlt_append (a : List Int) {x y : Int} (h : x < y) : lexlt (a ++ [x]) (a ++ [y]) = true := by
  induction a with
  | nil => simp [lexlt, h]; omega
  | cons z a ih => simp [lexlt, ih]
theorem lexlt_append_lt : ∀ {a b : List Int} (c d : List Int), a.length = b.length → lexlt a b = true → lexlt (a ++ c) (b ++ d) = true
  | [], [], _, _, _, h => by cases h
  | x :: a, y :: b, c, d, hl, h => by
    rw [lexlt] at h
    rw [List.cons_append, List.cons_append, lexlt]
    split
    · rename_i e; rw [if_pos e] at h; exact lexlt_append_lt c d (by simpa using hl) h
    · rename_i e; rw [if_neg e] at h; exact h
  | [], _ :: _, _, _, hl, _ => by cases hl
  | _ :: _, [], _, _, hl, _ => by cases hl
theorem plans_sorted (n : Nat) : ∀ k, (plans n k).Pairwise (fun a b => lexlt a b = true)
  | 0 => by simp [plans]
  | k + 1 => by
    simp only [plans]
    rw [List.pairwise_flatMap]
    constructor
    · intro p _
      rw [List.pairwise_map]
      exact (options_sorted n).imp fun h => lexlt_append p h
    · have := plans_sorted n k
      refine List.Pairwise.imp_of_mem ?_ this
      intro a b ha hb hab x hx y hy
      simp only [List.mem_map] at hx hy
      obtain ⟨u, _, rfl⟩ := hx
      obtain ⟨v, _, rfl⟩ := hy
      have ha := (mem_plans n k a).1 ha
      have hb := (mem_plans n k b).1 hb
      exact lexlt_append_lt _ _ (by rw [ha.1, hb.1]) hab

def mk (H C : List Int → Int) (q : List Int) : Choice := ⟨H q, C q, q⟩
theorem brute_pick (H C : List Int → Int) (m : Int) : ∀ (qs : List (List Int)) (b : List Int),
    mk H C (qs.foldl (tryPlan H C m) b) = ((qs.filter fun q => decide (C q ≤ m)).map (mk H C)).foldl pick1 (mk H C b)
  | [], b => rfl
  | q :: qs, b => by
    rw [List.foldl_cons, brute_pick H C m qs]
    by_cases h : C q ≤ m
    · rw [List.filter_cons_of_pos (by simpa using h), List.map_cons, List.foldl_cons]
      congr 1
      have e : (H b < H q ∨ (H q = H b ∧ C q < C b)) ↔ better (mk H C q) (mk H C b) = true := by rw [better_iff]; exact Iff.rfl
      unfold tryPlan pick1
      rw [if_neg (by omega)]
      by_cases hb : better (mk H C q) (mk H C b) = true
      · rw [if_pos hb, if_pos (e.2 hb)]
      · rw [if_neg hb, if_neg (fun h => hb (e.1 h))]
    · rw [List.filter_cons_of_neg (by simpa using h)]
      have e : tryPlan H C m b q = b := by unfold tryPlan; rw [if_pos (by omega)]
      rw [e]

/-- The document's search, which tries all plans, finds what the program's does. -/
theorem brute_eq {ws : List Work} {cs : List Cell} {l m : Int} {r : Choice} (hm : 0 ≤ m) (B : Best ws cs l m r) :
    brute (dryHouses ws l cs) (costs ws) m (plans ws.length cs.length) = r.plan := by
  obtain ⟨q0, qs, hq⟩ : ∃ q0 qs, plans ws.length cs.length = q0 :: qs := by
    cases h : plans ws.length cs.length with
    | nil => have := (mem_plans _ _ _).2 B.plan; rw [h] at this; cases this
    | cons a b => exact ⟨a, b, rfl⟩
  have h0 : costs ws q0 ≤ m := by
    have hs := plans_sorted ws.length cs.length
    have hr : List.replicate cs.length (-1) ∈ plans ws.length cs.length := (mem_plans _ _ _).2 ⟨by simp, fun x hx => by have := List.eq_of_mem_replicate hx; omega⟩
    rw [hq] at hs hr
    rw [List.mem_cons] at hr
    rcases hr with hr | hr
    · rw [← hr, costs_none]; exact hm
    · have h1 := List.rel_of_pairwise_cons hs hr
      have h2 := lexlt_none ws.length cs.length q0 ((mem_plans _ _ _).1 (by rw [hq]; simp))
      rw [h1] at h2; cases h2
  have e := brute_pick (dryHouses ws l cs) (costs ws) m qs q0
  rw [hq]
  show qs.foldl _ q0 = _
  generalize hb : qs.foldl (tryPlan (dryHouses ws l cs) (costs ws) m) q0 = q' at *
  have hf : ((plans ws.length cs.length).filter fun q => decide (costs ws q ≤ m)) = q0 :: (qs.filter fun q => decide (costs ws q ≤ m)) := by
    rw [hq, List.filter_cons_of_pos (by simpa using h0)]
  obtain ⟨a, b, r', hab, hr', ha, hb'⟩ := pick_split (mk (dryHouses ws l cs) (costs ws) q0) (((qs.filter fun q => decide (costs ws q ≤ m))).map (mk (dryHouses ws l cs) (costs ws)))
  have hr'' : r' = mk (dryHouses ws l cs) (costs ws) q' := by rw [e, ← hr']; rfl
  rw [← List.map_cons, ← hf] at hab
  have hall : ∀ q, Plan ws.length cs.length q → costs ws q ≤ m → mk (dryHouses ws l cs) (costs ws) q ∈ a ++ r' :: b := fun q h1 h2 => by
    rw [← hab]; exact List.mem_map.2 ⟨q, List.mem_filter.2 ⟨(mem_plans _ _ _).2 h1, by simpa using h2⟩, rfl⟩
  have hq' : Plan ws.length cs.length q' ∧ costs ws q' ≤ m := by
    have : r' ∈ a ++ r' :: b := by simp
    rw [← hab, List.mem_map] at this
    obtain ⟨z, hz, hz'⟩ := this
    rw [hr''] at hz'
    have : z = q' := congrArg Choice.plan hz'
    subst this
    rw [List.mem_filter] at hz
    exact ⟨(mem_plans _ _ _).1 hz.1, by simpa using hz.2⟩
  have hmost := B.most q' hq'.1 hq'.2
  have hin := hall r.plan B.plan (by rw [← B.cost]; exact B.pays)
  have hk : mk (dryHouses ws l cs) (costs ws) r.plan = r := by rw [mk, ← B.houses, ← B.cost]
  rw [hk] at hin
  rw [List.mem_append, List.mem_cons] at hin
  rcases hin with hin | hin | hin
  · have := ha r hin
    rw [better_iff, hr''] at this
    simp only [mk] at this
    omega
  · rw [hin, hr'']; rfl
  · have h1 := hb' r hin
    have h1 : ¬ (better r r' = true) := by simp [h1]
    rw [better_iff, hr''] at h1
    simp only [mk] at h1
    have hsorted := (plans_sorted ws.length cs.length).filter (fun q => decide (costs ws q ≤ m))
    have hl : lexlt q' r.plan = true := by
      have h2 : (((plans ws.length cs.length).filter fun q => decide (costs ws q ≤ m)).map (mk (dryHouses ws l cs) (costs ws))).Pairwise (fun x y => lexlt x.plan y.plan = true) := by
        rw [List.pairwise_map]; exact hsorted
      rw [hab, List.pairwise_append, List.pairwise_cons] at h2
      have := h2.2.1.1 r hin
      rw [hr''] at this
      exact this
    rw [hl] at hmost
    rcases hmost with h | ⟨h, h | ⟨h, h'⟩⟩
    · omega
    · omega
    · cases h'
end Go.Proofs.Ytmlobiajimlboaa.W
