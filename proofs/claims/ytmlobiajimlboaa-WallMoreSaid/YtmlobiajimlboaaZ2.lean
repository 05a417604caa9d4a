/- Plain: how many houses stay dry; what the search's plan promises. -/
import Derived.Test.YtmlobiajimlboaaZ1
import Derived.Test.YtmlobiajimlboaaPlain3
import Derived.Test.YtmlobiajimlboaaD13
namespace Go.Proofs.Ytmlobiajimlboaa
set_option linter.unusedVariables false
set_option linter.unusedSimpArgs false
open Go.RowKit
def cnt (cs : List W.Cell) (ns : List Int) : Nat := ((List.range cs.length).filter fun i => dryB (cs[i]?.getD default) (W.nth ns i)).length
theorem nth_tail (ns : List Int) (i : Nat) : W.nth ns.tail i = W.nth ns (i + 1) := by
  cases ns <;> simp [W.nth]
theorem cnt_cons (x : W.Cell) (cs : List W.Cell) (ns : List Int) : cnt (x :: cs) ns = (if dryB x (W.nth ns 0) then 1 else 0) + cnt cs ns.tail := by
  have e : (fun i => dryB ((x :: cs)[i]?.getD default) (W.nth ns i)) ∘ Nat.succ = fun i => dryB (cs[i]?.getD default) (W.nth ns.tail i) := by
    funext i
    simp only [Function.comp, List.getElem?_cons_succ, nth_tail, Nat.succ_eq_add_one]
  unfold cnt
  rw [List.length_cons, List.range_succ_eq_map, List.filter_cons, List.filter_map, e]
  by_cases h : dryB x (W.nth ns 0) = true
  · simp [h]; omega
  · simp [h]
theorem cnt_le : ∀ (cs : List W.Cell) (ns : List Int), (cnt cs ns : Int) ≤ W.houses cs
  | [], ns => by simp [cnt, W.houses]
  | x :: cs, ns => by
    have ih := cnt_le cs ns.tail
    rw [cnt_cons, W.houses]
    by_cases h : dryB x (W.nth ns 0) = true
    · have h' := h
      simp only [dryB, Bool.and_eq_true] at h'
      have hh : W.hasHouse x = true := h'.1
      rw [if_pos h, if_pos hh]; omega
    · rw [if_neg h]
      split <;> omega
theorem cnt_all : ∀ (cs : List W.Cell) (ns : List Int), (cnt cs ns : Int) = W.houses cs → ∀ (i : Nat) (h : i < cs.length), cs[i].fl ≠ -1 → W.nth ns i ≤ cs[i].fl
  | [], ns, _, i, h, _ => by simp at h
  | x :: cs, ns, hc, i, h, hf => by
    have ih := cnt_le cs ns.tail
    rw [cnt_cons, W.houses] at hc
    by_cases hh : W.hasHouse x = true
    · rw [if_pos hh] at hc
      by_cases hd : dryB x (W.nth ns 0) = true
      · rw [if_pos hd] at hc
        cases i with
        | zero =>
          simp only [dryB, Bool.and_eq_true, decide_eq_true_eq] at hd
          exact hd.2
        | succ i =>
          have := cnt_all cs ns.tail (by omega) i (by simpa using h) (by simpa using hf)
          rw [nth_tail] at this
          simpa using this
      · rw [if_neg hd] at hc; omega
    · rw [if_neg hh] at hc
      have hd : ¬ dryB x (W.nth ns 0) = true := fun e => by
        simp only [dryB, Bool.and_eq_true] at e
        exact hh e.1
      rw [if_neg hd] at hc
      cases i with
      | zero => exact absurd (by simpa [W.hasHouse] using hf) hh
      | succ i =>
        have := cnt_all cs ns.tail (by omega) i (by simpa using h) (by simpa using hf)
        rw [nth_tail] at this
        simpa using this
theorem cnt_zero : ∀ (cs : List W.Cell) (k : Nat), (∀ x ∈ cs, -1 ≤ x.fl) → (cnt cs (List.replicate k 0) : Int) = W.houses cs
  | [], k, _ => by simp [cnt, W.houses]
  | x :: cs, k, h => by
    have ih := cnt_zero cs (k - 1) (fun y hy => h y (by simp [hy]))
    have h0 := h x (by simp)
    rw [cnt_cons, W.houses, W.nth_rep, List.tail_replicate]
    have e : dryB x 0 = W.hasHouse x := by
      unfold dryB W.hasHouse
      by_cases hf : x.fl = -1
      · simp [hf]
      · have : (0 : Int) ≤ x.fl := by omega
        simp [this]
    rw [e]
    split <;> omega
theorem cnt_depths (ws : List W.Work) : ∀ (cs : List W.Cell) (l : Int) (ps : List Int), ps.length = cs.length → (∀ x ∈ cs, -1 ≤ x.fl) →
    (cnt cs (W.depths ws l cs ps (cs.map (·.dl))) : Int) = W.dryHouses ws l cs ps
  | [], l, ps, _, _ => by
    cases ps <;> simp [cnt, W.dryHouses]
  | x :: cs, l, [], h, _ => by simp at h
  | x :: cs, l, p :: ps, h, hf => by
    have ih := cnt_depths ws cs (l - x.dl - (W.work ws p).calm) ps (by simpa using h) (fun y hy => hf y (by simp [hy]))
    rw [List.map_cons, W.depths, W.dryHouses]
    split
    · exact cnt_zero (x :: cs) (cs.length + 1) hf
    · rw [cnt_cons, W.nth_zero, List.tail_cons]
      have e : (((if dryB x (l - x.dl - (W.work ws p).calm - x.g) = true then (1 : Nat) else 0) : Nat) : Int) = (W.spared x (l - x.dl - (W.work ws p).calm)) := by
        unfold W.spared dryB W.hasHouse
        split <;> rfl
      rw [Int.natCast_add, ih, e]
theorem dryQ_cnt (s : W.Shore) (c : W.Storm) (plan : List Int) : (dryQ s c plan).length = cnt s.cells (W.play s plan (W.worst s c)) := by
  unfold dryQ dryTo cnt
  rw [List.length_map]
theorem dryQ_houses {s : W.Shore} {c : W.Storm} {plan : List Int} (O : W.Ok s c) (hp : plan.length = s.cells.length) :
    ((dryQ s c plan).length : Int) = W.dryHouses s.works (W.level s (W.worst s c)) s.cells plan := by
  rw [dryQ_cnt]
  exact cnt_depths s.works s.cells _ plan hp (fun x hx => by have := O.cell x hx; omega)
theorem planB_plan {s : W.Shore} {plan : List Int} (h : W.planB s plan = true) : W.Plan s.works.length s.cells.length plan := by
  simp only [W.planB, Bool.and_eq_true, List.all_eq_true, W.within_iff, decide_eq_true_eq] at h
  exact ⟨h.2, fun p hp => by have := h.1 p hp; omega⟩
theorem planB_of {s : W.Shore} {plan : List Int} (h : W.Plan s.works.length s.cells.length plan) : W.planB s plan = true := by
  simp only [W.planB, Bool.and_eq_true, List.all_eq_true, W.within_iff, decide_eq_true_eq]
  exact ⟨fun p hp => by have := h.2 p hp; omega, h.1⟩
theorem found_best {s : W.Shore} {c : W.Storm} (O : W.Ok s c) {m : Int} (hm : 0 ≤ m) : W.Best s.works s.cells (W.level s (W.worst s c)) m (foundOf s c m) :=
  W.search_best (fun w hw => by have := O.work w hw; omega) _ _ _ hm
theorem work_cost_le {s : W.Shore} {c : W.Storm} (O : W.Ok s c) (p : Int) : (W.work s.works p).cost ≤ 1000000 := by
  unfold W.work
  split
  · cases h : s.works[p.toNat]? with
    | none => exact (by decide : (0 : Int) ≤ 1000000)
    | some w => have := O.work w (List.mem_of_getElem? h); simp only [Option.getD_some]; omega
  · exact (by decide : (0 : Int) ≤ 1000000)
theorem costs_le {s : W.Shore} {c : W.Storm} (O : W.Ok s c) : ∀ (plan : List Int), W.costs s.works plan ≤ plan.length * 1000000
  | [] => by simp [W.costs]
  | p :: ps => by
    have := costs_le O ps
    have := work_cost_le O p
    rw [W.costs, List.length_cons, Int.natCast_add]; omega
theorem costs_max {s : W.Shore} {c : W.Storm} (O : W.Ok s c) {plan : List Int} (hp : plan.length = s.cells.length) : W.costs s.works plan ≤ 7000000 := by
  have := costs_le O plan
  have := O.n7
  omega
end Go.Proofs.Ytmlobiajimlboaa
