/- What the laws want besides: lists of any length, comparisons of results. -/
import Derived.Test.YtkjoojmlcjmlgaaH1
namespace Go.Proofs.Ytkjoojmlcjmlgaa
set_option linter.unusedVariables false
set_option linter.unusedSimpArgs false
open Go.RowKit
theorem short_all (c : C.Sys) (vl : Value) (w : World) (hL : Loads w vl c.loads) :
    Calls Try.prog 15 #[.agg (sysV c vl)] w fun e w' => e = .returned (.bool (decide (c.loads.length ≤ 10))) ∧ Ext w w' := by
  obtain ⟨a, cap, rfl, _⟩ := hL
  go_enter Try.func15, Try.ntmps15
  go_wp2
  all_goals (go_ret; refine ⟨ret_bool ?_, by (with_reducible (repeat (first | exact Ext.refl _ | assumption | apply Ext.alloc | apply Ext.drew | exact ext_plus _ _ | (apply Ext.setCell; rotate_left; (simp <;> omega)) | (apply Ext.trans; rotate_left; exact ext_plus _ _) | (apply Ext.trans; rotate_left; assumption))))⟩; rw [Bool.eq_iff_iff]; simp <;> omega)
set_option maxHeartbeats 2000000 in
theorem few_all (c : C.Sys) (n : Int) (vl : Value) (w : World) (hL : Loads w vl c.loads) :
    Calls Try.prog 30 #[.agg (sysV c vl), .int .i64 n] w fun e w' => e = .returned (.bool (decide (c.loads.length ≤ 10) && (!C.sysB c || decide (c.days ≤ n)))) ∧ Ext w w' := by
  by_cases hn : c.loads.length ≤ 10
  · exact few_any c n vl w hL (by omega)
  · have hL' := hL
    obtain ⟨a, cap, rfl, _⟩ := hL'
    have hT := fun w' (hx : Ext w w') => short_all c _ w' (hL.ext hx)
    have e1 : decide (c.loads.length ≤ 10) = false := by simp; omega
    rw [e1]
    simp only [e1] at hT
    have HT := Lib.hid hT
    clear hT e1 hn
    go_enter Try.func30, Try.ntmps30
    go_wp2_with (first | (go_at_call 15; refine (HT.out _ (by (with_reducible (repeat (first | exact Ext.refl _ | assumption | apply Ext.alloc | apply Ext.drew | exact ext_plus _ _ | (apply Ext.setCell; rotate_left; (simp <;> omega)) | (apply Ext.trans; rotate_left; exact ext_plus _ _) | (apply Ext.trans; rotate_left; assumption)))))).mono ?_; rintro e w' ⟨rfl, ha⟩; have hbx := Blk.ext (Blk.new w (sysV c (.slice a c.loads.length cap)) 24) (by (with_reducible (repeat (first | exact Ext.refl _ | assumption | apply Ext.alloc | apply Ext.drew | exact ext_plus _ _ | (apply Ext.setCell; rotate_left; (simp <;> omega)) | (apply Ext.trans; rotate_left; exact ext_plus _ _) | (apply Ext.trans; rotate_left; assumption)))) : Ext _ w'); have k0 := hbx.cell; have l0 := hbx.lt))
    all_goals (go_ret; refine ⟨ret_bool ?_, by (with_reducible (repeat (first | exact Ext.refl _ | assumption | apply Ext.alloc | apply Ext.drew | exact ext_plus _ _ | (apply Ext.setCell; rotate_left; (simp <;> omega)) | (apply Ext.trans; rotate_left; exact ext_plus _ _) | (apply Ext.trans; rotate_left; assumption))))⟩; simp_all)
theorem ledger_neq (l : C.Ledger) (w : World) : (binOp .neq 29 (.agg (ledV l)) (.agg (ledV l))).run Try.prog w = .ok (.bool false) w := by
  rw [run_neq_struct, run_equalIn_agg w 9999 _ _ _ (by kernel_rfl) (by kernel_rfl)]
  have hu := Try.underlying29
  have hi := Try.underlying3
  have hp : ∀ (n1 n2 n3 n4 n5 n6 : Value) (w : World), (part 3 #[n1, n2, n3, n4, n5, n6] 0).run Try.prog w = .ok n1 w := fun _ _ _ _ _ _ _ => by kernel_rfl
  have hp1 : ∀ (n1 n2 n3 n4 n5 n6 : Value) (w : World), (part 3 #[n1, n2, n3, n4, n5, n6] 1).run Try.prog w = .ok n2 w := fun _ _ _ _ _ _ _ => by kernel_rfl
  have hp2 : ∀ (n1 n2 n3 n4 n5 n6 : Value) (w : World), (part 3 #[n1, n2, n3, n4, n5, n6] 2).run Try.prog w = .ok n3 w := fun _ _ _ _ _ _ _ => by kernel_rfl
  have hp3 : ∀ (n1 n2 n3 n4 n5 n6 : Value) (w : World), (part 3 #[n1, n2, n3, n4, n5, n6] 3).run Try.prog w = .ok n4 w := fun _ _ _ _ _ _ _ => by kernel_rfl
  have hp4 : ∀ (n1 n2 n3 n4 n5 n6 : Value) (w : World), (part 3 #[n1, n2, n3, n4, n5, n6] 4).run Try.prog w = .ok n5 w := fun _ _ _ _ _ _ _ => by kernel_rfl
  have hp5 : ∀ (n1 n2 n3 n4 n5 n6 : Value) (w : World), (part 3 #[n1, n2, n3, n4, n5, n6] 5).run Try.prog w = .ok n6 w := fun _ _ _ _ _ _ _ => by kernel_rfl
  simp only [Program.fieldsOf, hu, Op.eqFields]
  simp [hp, hp1, hp2, hp3, hp4, hp5, run_equalIn_int w 9998 _ _ _ _ _ hi, Op.eqFields, Result.andThen]
theorem ledger_eql (l : C.Ledger) (w : World) : (binOp .eql 29 (.agg (ledV l)) (.agg (ledV l))).run Try.prog w = .ok (.bool true) w := by
  rw [run_eql_struct, run_equalIn_agg w 9999 _ _ _ (by kernel_rfl) (by kernel_rfl)]
  have hu := Try.underlying29
  have hi := Try.underlying3
  have hp : ∀ (n1 n2 n3 n4 n5 n6 : Value) (w : World), (part 3 #[n1, n2, n3, n4, n5, n6] 0).run Try.prog w = .ok n1 w := fun _ _ _ _ _ _ _ => by kernel_rfl
  have hp1 : ∀ (n1 n2 n3 n4 n5 n6 : Value) (w : World), (part 3 #[n1, n2, n3, n4, n5, n6] 1).run Try.prog w = .ok n2 w := fun _ _ _ _ _ _ _ => by kernel_rfl
  have hp2 : ∀ (n1 n2 n3 n4 n5 n6 : Value) (w : World), (part 3 #[n1, n2, n3, n4, n5, n6] 2).run Try.prog w = .ok n3 w := fun _ _ _ _ _ _ _ => by kernel_rfl
  have hp3 : ∀ (n1 n2 n3 n4 n5 n6 : Value) (w : World), (part 3 #[n1, n2, n3, n4, n5, n6] 3).run Try.prog w = .ok n4 w := fun _ _ _ _ _ _ _ => by kernel_rfl
  have hp4 : ∀ (n1 n2 n3 n4 n5 n6 : Value) (w : World), (part 3 #[n1, n2, n3, n4, n5, n6] 4).run Try.prog w = .ok n5 w := fun _ _ _ _ _ _ _ => by kernel_rfl
  have hp5 : ∀ (n1 n2 n3 n4 n5 n6 : Value) (w : World), (part 3 #[n1, n2, n3, n4, n5, n6] 5).run Try.prog w = .ok n6 w := fun _ _ _ _ _ _ _ => by kernel_rfl
  simp only [Program.fieldsOf, hu, Op.eqFields]
  simp [hp, hp1, hp2, hp3, hp4, hp5, run_equalIn_int w 9998 _ _ _ _ _ hi, Op.eqFields, Result.andThen]
theorem ledger_guard : Try.prog.eqGuardType Try.prog.depth 29 = false := by kernel_rfl
theorem fault_eql (s : ByteArray) (a b : Int) (w : World) : (binOp .eql 62 (.agg #[.string s, .int .i64 a, .int .i64 b]) (.agg #[.string s, .int .i64 a, .int .i64 b])).run Try.prog w = .ok (.bool true) w := by
  rw [run_eql_struct, run_equalIn_agg w 9999 _ _ _ (by kernel_rfl) (by kernel_rfl)]
  have hu := Try.underlying62
  have hi := Try.underlying3
  have hs := Try.underlying9
  have hp : ∀ (a b c : Value) (w : World), (part 9 #[a, b, c] 0).run Try.prog w = .ok a w := fun _ _ _ _ => by kernel_rfl
  have hq : ∀ (a b c : Value) (w : World), (part 3 #[a, b, c] 1).run Try.prog w = .ok b w := fun _ _ _ _ => by kernel_rfl
  have hr : ∀ (a b c : Value) (w : World), (part 3 #[a, b, c] 2).run Try.prog w = .ok c w := fun _ _ _ _ => by kernel_rfl
  simp only [Program.fieldsOf, hu, Op.eqFields]
  simp [hp, hq, hr, run_equalIn_int w 9998 _ _ _ _ _ hi, run_equalIn_string w 9998 _ _ _ hs, Op.eqFields, Result.andThen]
theorem fault_guard : Try.prog.eqGuardType Try.prog.depth 62 = false := by kernel_rfl
end Go.Proofs.Ytkjoojmlcjmlgaa
