/- The example: what the mathematics says. The example: known() returns true. -/
import Derived.Test.YtkjoojmlcjmlgaaH11
import Derived.Test.YtkjoojmlcjmlgaaH4
namespace Go.Proofs.Ytkjoojmlcjmlgaa
set_option linter.unusedVariables false
set_option linter.unusedSimpArgs false
open Go.RowKit
theorem exC_sys : C.sysB exC = true := by decide +kernel
theorem exC_run : C.run exC 2 2 0 [115, 99, 99, 115] = [⟨218, 3⟩, ⟨137, 1⟩, ⟨57, 1⟩, ⟨136, 1⟩] := by decide +kernel
theorem exC_ledger : C.ledger exC 2 2 0 [115, 99, 99, 115] = ⟨400, 480, 540, 200, 4, 136⟩ := by decide +kernel
theorem exC_runs : C.runs exC 2 1 [115, 115, 63, 63] ≠ [] := by decide +kernel
theorem exC_seen : C.seen exC (C.runs exC 2 1 [115, 115, 63, 63]) = [⟨80, 80, [3, 1]⟩, ⟨80, 80, [3, 1]⟩, ⟨0, 80, [3, 1]⟩, ⟨0, 80, [2, 1]⟩] := by decide +kernel
theorem exC_fault : C.fault exC 2 1 0 = some ([115, 115, 99, 99], 3, 0) := by decide +kernel
theorem exC_best0 : suffS exC (2, 2) = true ∧ ((stores 117).all fun s => !suffS exC s || decide (C.cost exC 2 2 < C.cost exC s.1 s.2) || (decide (C.cost exC 2 2 = C.cost exC s.1 s.2) && decide (rankS (2, 2) ≤ rankS s))) = true := by decide +kernel
theorem exC_best : BestIs exC (some (2, 2)) := by
  refine ⟨by unfold inRange; decide, exC_best0.1, fun s hs hf => ?_⟩
  have h := List.all_eq_true.1 exC_best0.2 s (stores_mem hs)
  rw [hf] at h
  simp only [Bool.not_true, Bool.false_or, Bool.or_eq_true, Bool.and_eq_true, decide_eq_true_eq] at h
  exact h
theorem exC_off0 : (freeB exC 2 = true ∧ C.suffice exC 1 2 2 = true) ∧ ((frees exC 4).all fun s => !C.suffice exC 1 2 s || decide (ones 2 5 < ones s 5) || (decide (ones 2 5 = ones s 5) && decide (2 ≤ s))) = true := by decide +kernel
theorem exC_off : OffIs exC 1 2 (some 2) := by
  refine ⟨by decide, exC_off0.1.1, exC_off0.1.2, fun s h0 h1 hf hs => ?_⟩
  have h := List.all_eq_true.1 exC_off0.2 s ((frees_mem exC 4 s).2 ⟨⟨h0, h1⟩, hf⟩)
  rw [hs] at h
  simp only [Bool.not_true, Bool.false_or, Bool.or_eq_true, Bool.and_eq_true, decide_eq_true_eq] at h
  exact h
end Go.Proofs.Ytkjoojmlcjmlgaa
namespace Go.Proofs.Ytkjoojmlcjmlgaa
set_option linter.unusedVariables false
set_option linter.unusedSimpArgs false
open Go.RowKit
theorem Seens.ext {w w' : World} {v : Value} {xs : List C.Seen} (h : Seens w v xs) (he : Ext w w') : Seens w' v xs := by
  obtain ⟨a, cap, rfl, hx⟩ := h
  refine ⟨a, cap, rfl, fun i hi => ?_⟩
  obtain ⟨b, off, vw, rfl, hb, h1, h2, h3, h4⟩ := hx i hi
  exact ⟨b, off, vw, rfl, Nat.lt_of_lt_of_le hb he.size, (he.cells.1 _ _ hb).trans h1, (he.cells.1 _ _ hb).trans h2, (he.cells.1 _ _ hb).trans h3, h4.ext he⟩
theorem k_play (vl : Value) (w : World) (hL : Loads w vl exC.loads) : Calls Try.prog 17 #[.agg (sysV exC vl), .int .i64 2, .int .i64 2, .int .i64 0, .string ⟨#[115, 99, 99, 115]⟩] w fun e w' => ∃ v, e = .returned (.tuple #[v, .agg #[.int .i64 400, .int .i64 480, .int .i64 540, .int .i64 200, .int .i64 4, .int .i64 136], .int .i64 0]) ∧ Days w' v [⟨218, 3⟩, ⟨137, 1⟩, ⟨57, 1⟩, ⟨136, 1⟩] ∧ Ext w w' := by
  refine (play_good exC 2 2 0 ⟨#[115, 99, 99, 115]⟩ vl w hL (by decide) (by decide) (by decide +kernel)).mono ?_
  rintro e w' ⟨v, rfl, h1, h2⟩
  have e1 : (⟨#[115, 99, 99, 115]⟩ : ByteArray).data.toList = [115, 99, 99, 115] := rfl
  rw [e1, exC_run] at h1
  rw [e1, exC_ledger]
  exact ⟨v, rfl, h1, h2⟩
theorem k_known (vl : Value) (w : World) (hL : Loads w vl exC.loads) : Calls Try.prog 28 #[.agg (sysV exC vl), .int .i64 2, .int .i64 1, .string ⟨#[115, 115, 63, 63]⟩] w fun e w' => ∃ v, e = .returned (.tuple #[v, .int .i64 0]) ∧ Seens w' v [⟨80, 80, [3, 1]⟩, ⟨80, 80, [3, 1]⟩, ⟨0, 80, [3, 1]⟩, ⟨0, 80, [2, 1]⟩] ∧ Ext w w' := by
  refine (known_good exC 2 1 ⟨#[115, 115, 63, 63]⟩ vl w hL (by decide) (by decide) (by decide +kernel)).mono ?_
  rintro e w' ⟨v, rfl, h1, h2⟩
  have e1 : (⟨#[115, 115, 63, 63]⟩ : ByteArray).data.toList = [115, 115, 63, 63] := rfl
  rw [e1, if_neg exC_runs, exC_seen] at h1
  rw [e1, if_neg exC_runs]
  exact ⟨v, rfl, h1, h2⟩
theorem k_fault (vl : Value) (w : World) (hL : Loads w vl exC.loads) : Calls Try.prog 31 #[.agg (sysV exC vl), .int .i64 2, .int .i64 1, .int .i64 0] w fun e w' => e = .returned (.tuple #[.agg #[.string ⟨#[115, 115, 99, 99]⟩, .int .i64 3, .int .i64 0], .int .i64 0]) ∧ Ext w w' := by
  refine (faultQ_any exC vl 2 1 0 w hL (by decide)).mono ?_
  rintro e w' ⟨rfl, h2⟩
  have e1 : givenB exC 2 1 0 = true := by decide +kernel
  refine ⟨?_, h2⟩
  unfold faultR faultCode
  rw [if_pos e1, if_pos e1, exC_fault]
  rfl
theorem k_best (vl : Value) (w : World) (hL : Loads w vl exC.loads) : Calls Try.prog 36 #[.agg (sysV exC vl)] w fun e w' => e = .returned (.tuple #[.int .i64 2, .int .i64 2, .int .i64 260, .int .i64 0]) ∧ Ext w w' := by
  refine (bestQ_any exC vl w hL (by decide)).mono ?_
  rintro e w' ⟨o, h1, rfl, h2⟩
  have e1 := bestIs_one (h1 exC_sys) exC_best
  subst e1
  refine ⟨?_, h2⟩
  unfold bestR
  rw [if_pos exC_sys]
  rfl
theorem k_off (vl : Value) (w : World) (hL : Loads w vl exC.loads) : Calls Try.prog 41 #[.agg (sysV exC vl), .int .i64 1, .int .i64 2] w fun e w' => e = .returned (.tuple #[.int .i64 2, .int .i64 0]) ∧ Ext w w' := by
  refine (offQ_any exC 1 2 vl w hL (by decide)).mono ?_
  rintro e w' ⟨o, h1, rfl, h2⟩
  have e0 : givenB exC 1 2 0 = true := by decide +kernel
  have e1 := offIs_one (h1 e0) exC_off
  subst e1
  refine ⟨?_, h2⟩
  unfold offR
  rw [if_pos e0]
end Go.Proofs.Ytkjoojmlcjmlgaa
