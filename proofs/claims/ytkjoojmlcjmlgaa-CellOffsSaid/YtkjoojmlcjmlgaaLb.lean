/- There is one best answer. -/
import Derived.Test.YtkjoojmlcjmlgaaH10
namespace Go.Proofs.Ytkjoojmlcjmlgaa
set_option linter.unusedVariables false
set_option linter.unusedSimpArgs false
open Go.RowKit
theorem best_ex (c : C.Sys) : ∃ o, BestIs c o := by
  have h : ∀ n, ∃ o, BestN c n o := fun n => by
    induction n with
    | zero => exact ⟨none, fun s hs => by simp [stores] at hs⟩
    | succ n ih =>
      obtain ⟨o, ho⟩ := ih
      exact ⟨_, bestN_step ho _ rfl⟩
  obtain ⟨o, ho⟩ := h 117
  exact ⟨o, bestN_all ho⟩
theorem off_ex (c : C.Sys) (p b : Int) (hn : c.loads.length ≤ 5) : ∃ o, OffIs c p b o := by
  have h : ∀ n, ∃ o, FewN c p b n o := fun n => by
    induction n with
    | zero => exact ⟨none, fun s h0 h1 => by omega⟩
    | succ n ih =>
      obtain ⟨o, ho⟩ := ih
      exact ⟨_, fewN_step ho⟩
  obtain ⟨o, ho⟩ := h (2 ^ c.loads.length)
  exact ⟨o, fewN_all hn (by rw [Int.natCast_pow]; rfl) ho⟩
theorem best_the (c : C.Sys) (vl : Value) (w : World) (hL : Loads w vl c.loads) (hn : c.loads.length ≤ 1000000) (hs : C.sysB c = true) {o : Option (Int × Int)} (ho : BestIs c o) :
    Calls Try.prog 36 #[.agg (sysV c vl)] w fun e w' => e = .returned (.tuple #[.int .i64 (bestR c o).1, .int .i64 (bestR c o).2.1, .int .i64 (bestR c o).2.2.1, .int .i64 (bestR c o).2.2.2]) ∧ Ext w w' := by
  refine (bestQ_any c vl w hL hn).mono ?_
  rintro e w' ⟨o', h1, rfl, h2⟩
  have e1 := bestIs_one (h1 hs) ho
  subst e1
  exact ⟨rfl, h2⟩
theorem dbest_the (c : C.Sys) (vl : Value) (w : World) (hL : Loads w vl c.loads) (O : C.Ok c) {o : Option (Int × Int)} (ho : BestIs c o) :
    Calls Try.prog 38 #[.agg (sysV c vl)] w fun e w' => e = .returned (.tuple #[.int .i64 (storeO o).1, .int .i64 (storeO o).2, .bool o.isSome]) ∧ Ext w w' := by
  refine (dbest_any c vl w hL O).mono ?_
  rintro e w' ⟨o', h1, rfl, h2⟩
  have e1 := bestIs_one h1 ho
  subst e1
  exact ⟨rfl, h2⟩
theorem best_bad (c : C.Sys) (vl : Value) (w : World) (hL : Loads w vl c.loads) (hn : c.loads.length ≤ 1000000) (hs : C.sysB c = false) :
    Calls Try.prog 36 #[.agg (sysV c vl)] w fun e w' => e = .returned (.tuple #[.int .i64 0, .int .i64 0, .int .i64 0, .int .i64 2]) ∧ Ext w w' := by
  refine (bestQ_any c vl w hL hn).mono ?_
  rintro e w' ⟨o', h1, rfl, h2⟩
  refine ⟨?_, h2⟩
  unfold bestR
  rw [hs]; rfl
theorem off_the (c : C.Sys) (p b : Int) (vl : Value) (w : World) (hL : Loads w vl c.loads) (hn : c.loads.length ≤ 1000000) (hs : givenB c p b 0 = true) {o : Option Int} (ho : OffIs c p b o) :
    Calls Try.prog 41 #[.agg (sysV c vl), .int .i64 p, .int .i64 b] w fun e w' => e = .returned (.tuple #[.int .i64 (offR c p b o).1, .int .i64 (offR c p b o).2]) ∧ Ext w w' := by
  refine (offQ_any c p b vl w hL hn).mono ?_
  rintro e w' ⟨o', h1, rfl, h2⟩
  have e1 := offIs_one (h1 hs) ho
  subst e1
  exact ⟨rfl, h2⟩
theorem off_bad (c : C.Sys) (p b : Int) (vl : Value) (w : World) (hL : Loads w vl c.loads) (hn : c.loads.length ≤ 1000000) (hs : givenB c p b 0 = false) :
    Calls Try.prog 41 #[.agg (sysV c vl), .int .i64 p, .int .i64 b] w fun e w' => e = .returned (.tuple #[.int .i64 0, .int .i64 2]) ∧ Ext w w' := by
  refine (offQ_any c p b vl w hL hn).mono ?_
  rintro e w' ⟨o', h1, rfl, h2⟩
  refine ⟨?_, h2⟩
  unfold offR
  rw [hs]; rfl
theorem dfew_the (c : C.Sys) (p b : Int) (vl : Value) (w : World) (hL : Loads w vl c.loads) (O : C.Ok c) (hp0 : 0 ≤ p) (hp1 : p ≤ 12) (hb0 : 0 ≤ b) (hb1 : b ≤ 8) {o : Option Int} (ho : OffIs c p b o) :
    Calls Try.prog 42 #[.agg (sysV c vl), .int .i64 p, .int .i64 b] w fun e w' => e = .returned (.int .i64 (fewI o)) ∧ Ext w w' := by
  refine (dfewest_any c p b vl w hL O hp0 hp1 hb0 hb1).mono ?_
  rintro e w' ⟨o', h1, rfl, h2⟩
  have e1 := offIs_one h1 ho
  subst e1
  exact ⟨rfl, h2⟩
theorem off_zero {c : C.Sys} (O : C.Ok c) : C.offB c 0 = true := by
  have h := (pow_bd (n := c.loads.length) (by have := O.n5; omega)).1
  unfold C.offB C.within C.sets
  simp only [Bool.and_eq_true, decide_eq_true_eq]
  omega
theorem given_zero {c : C.Sys} {p b : Int} (h : (C.sysB c && C.partsB p b) = true) : givenB c p b 0 = true := by
  have h' := h
  rw [Bool.and_eq_true] at h'
  unfold givenB
  rw [h, off_zero (C.ok_of h'.1)]; rfl
theorem given_not {c : C.Sys} {p b off : Int} (h : (C.sysB c && C.partsB p b) = false) : givenB c p b off = false := by
  unfold givenB; rw [h]; rfl
end Go.Proofs.Ytkjoojmlcjmlgaa
