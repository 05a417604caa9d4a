/- The document's small functions. -/
import Derived.Test.YthffoglpekpmdaaC3
import Derived.Test.YthffoglpekpmdaaPl4
import Derived.Deep.RegionHeld3
import Derived.Deep.CutRange
import Derived.WalkMore
namespace Go.Proofs.Ythffoglpekpmdaa
set_option linter.unusedVariables false
set_option linter.unusedSimpArgs false
open Go.RowKit
theorem din_any (x lo hi : Int) (w : World) :
    Calls Try.prog 53 #[.int .i64 x, .int .i64 lo, .int .i64 hi] w fun e w' => e = .returned (.bool (R.within x lo hi)) ∧ w = w' := by
  go_enter Try.func53, Try.ntmps53
  go_wp2
  all_goals (go_ret; exact ⟨ret_bool (by rw [Bool.eq_iff_iff]; simp [R.within]; omega), rfl⟩)
theorem dspan_any (a b m : Int) (w : World) :
    Calls Try.prog 58 #[.agg #[.int .i64 a, .int .i64 b], .int .i64 m] w fun e w' => e = .returned (.bool (R.spanB a b m)) ∧ Ext w w' := by
  go_enter Try.func58, Try.ntmps58
  go_wp2
  all_goals (go_ret; exact ⟨ret_bool (by rw [Bool.eq_iff_iff]; simp [R.spanB]; omega), (Ext.refl _).alloc _⟩)
theorem dinside_any (n a b : Int) (w : World) :
    Calls Try.prog 43 #[.int .i64 n, .agg #[.int .i64 a, .int .i64 b]] w fun e w' => e = .returned (.bool (R.within n a b)) ∧ Ext w w' := by
  go_enter Try.func43, Try.ntmps43
  go_wp2_with (first | (go_at_call 53; refine (din_any _ _ _ _).mono ?_; rintro e w' ⟨rfl, rfl⟩))
  all_goals (go_ret; exact ⟨rfl, (Ext.refl _).alloc _⟩)
theorem dmost_any (r : R.Reef) (c : Int) (vp : Value) (hvp : ∃ a n k, vp = .slice a n k) (w : World) (h0 : 0 ≤ c) (h1 : c ≤ 1000000000) (h2 : 0 ≤ r.miss) (h3 : r.miss ≤ 2000) :
    Calls Try.prog 54 #[.agg (reefV r vp), .int .i64 c] w fun e w' => e = .returned (.int .i64 (R.most r c)) ∧ Ext w w' := by
  obtain ⟨a, n, k, rfl⟩ := hvp
  have hm : 0 ≤ c * r.miss ∧ c * r.miss ≤ 2000000000000 := ⟨Int.mul_nonneg h0 h2, by have := Int.mul_le_mul h1 h3 h2 (by omega); omega⟩
  have hw : IntKind.wrap .i64 (c * r.miss) = c * r.miss := IntWalk.i64_in _ (by omega)
  obtain ⟨d, hd⟩ : ∃ d, R.most r c = d := ⟨_, rfl⟩
  have hd' : c + c * r.miss / 1000 = d := hd
  rw [hd]
  obtain ⟨M, hM⟩ : ∃ M, c * r.miss = M := ⟨_, rfl⟩
  rw [hM] at hm hw hd'
  go_enter Try.func54, Try.ntmps54
  go_wp2
  go_ret
  exact ⟨ret_int (by simp [hd']), by (with_reducible (repeat (first | exact Ext.refl _ | assumption | apply Ext.alloc | apply Ext.drew | exact ext_plus _ _ | (apply Ext.setCell; rotate_left; (simp <;> omega)) | (apply Ext.trans; rotate_left; exact ext_plus _ _) | (apply Ext.trans; rotate_left; assumption))))⟩
theorem dtakes_any (p : R.Place) (b : Bool) (w : World) :
    Calls Try.prog 55 #[.agg (placeV p), .bool b] w fun e w' => e = .returned (.agg #[.int .i64 (R.take p b).1, .int .i64 (R.take p b).2]) ∧ Ext w w' := by
  cases b
  · go_enter Try.func55, Try.ntmps55
    go_wp2
    exact bodyPost_ret (v := .agg #[.int .i64 p.ol, .int .i64 p.oh]) (by simp [results, Try.results55, go_sem]) rfl ⟨rfl, by (with_reducible (repeat (first | exact Ext.refl _ | assumption | apply Ext.alloc | apply Ext.drew | exact ext_plus _ _ | (apply Ext.setCell; rotate_left; (simp <;> omega)) | (apply Ext.trans; rotate_left; exact ext_plus _ _) | (apply Ext.trans; rotate_left; assumption))))⟩
  · go_enter Try.func55, Try.ntmps55
    go_wp2
    exact bodyPost_ret (v := .agg #[.int .i64 p.sl, .int .i64 p.sh]) (by simp [results, Try.results55, go_sem]) rfl ⟨rfl, by (with_reducible (repeat (first | exact Ext.refl _ | assumption | apply Ext.alloc | apply Ext.drew | exact ext_plus _ _ | (apply Ext.setCell; rotate_left; (simp <;> omega)) | (apply Ext.trans; rotate_left; exact ext_plus _ _) | (apply Ext.trans; rotate_left; assumption))))⟩
theorem dgrown_any (p : R.Place) (f g : Int) (w : World) (h0 : 0 ≤ f) (h1 : f ≤ 1000000000) (h2 : 0 ≤ g) (h3 : g ≤ 2000) (h4 : 0 ≤ p.room) (h5 : p.room ≤ 1000000) :
    Calls Try.prog 56 #[.agg (placeV p), .int .i64 f, .int .i64 g] w fun e w' => e = .returned (.int .i64 (R.grown p f g)) ∧ Ext w w' := by
  have hm : 0 ≤ f * g ∧ f * g ≤ 2000000000000 := ⟨Int.mul_nonneg h0 h2, by have := Int.mul_le_mul h1 h3 h2 (by omega); omega⟩
  obtain ⟨d, hd⟩ : ∃ d, R.grown p f g = d := ⟨_, rfl⟩
  have hd' := hd
  unfold R.grown at hd'
  rw [hd]
  obtain ⟨M, hM⟩ : ∃ M, f * g = M := ⟨_, rfl⟩
  rw [hM] at hm hd'
  by_cases hr : p.room ≤ f
  · rw [if_pos hr] at hd'
    subst hd'
    go_enter Try.func56, Try.ntmps56
    go_wp2
    go_ret
    exact ⟨rfl, by (with_reducible (repeat (first | exact Ext.refl _ | assumption | apply Ext.alloc | apply Ext.drew | exact ext_plus _ _ | (apply Ext.setCell; rotate_left; (simp <;> omega)) | (apply Ext.trans; rotate_left; exact ext_plus _ _) | (apply Ext.trans; rotate_left; assumption))))⟩
  · rw [if_neg hr] at hd'
    have HD := Lib.hid hd'
    clear hd'
    go_enter Try.func56, Try.ntmps56
    go_wp2
    all_goals (go_ret; exact ⟨ret_int (by have := HD.out; split at this <;> omega), by (with_reducible (repeat (first | exact Ext.refl _ | assumption | apply Ext.alloc | apply Ext.drew | exact ext_plus _ _ | (apply Ext.setCell; rotate_left; (simp <;> omega)) | (apply Ext.trans; rotate_left; exact ext_plus _ _) | (apply Ext.trans; rotate_left; assumption))))⟩)
/-- Halved k times. -/
theorem half_pow (x : Int) (k : Nat) : x / 2 ^ k / 2 = x / 2 ^ (k + 1) := by
  rw [Int.pow_succ, Int.ediv_ediv_of_nonneg (Int.le_of_lt (Int.pow_pos (by decide)))]
theorem dhas_any (x : Int) (k : Nat) (w : World) (h0 : 0 ≤ x) (h1 : x ≤ 1000000) (hk : k ≤ 1000) :
    Calls Try.prog 39 #[.int .i64 x, .int .i64 k] w fun e w' => e = .returned (.bool (R.has x k)) ∧ w = w' := by
  obtain ⟨B, hB⟩ : ∃ B, R.has x k = B := ⟨_, rfl⟩
  rw [hB]
  have HB := Lib.hid hB
  clear hB
  go_enter Try.func39, Try.ntmps39
  go_wp2
  go_loop [0, 5] (fun s i => ∃ j : Nat, j ≤ k ∧ i = .int .i64 j ∧ s = .int .i64 (x / 2 ^ j)) (fun _ i => k - (intOf i).toNat)
  case atStart => exact ⟨0, Nat.zero_le _, rfl, by simp⟩
  case round =>
    obtain ⟨j, hj, rfl, rfl⟩ := hrel
    have hd : 0 ≤ x / 2 ^ j := Int.ediv_nonneg h0 (Int.le_of_lt (Int.pow_pos (by decide)))
    have hd2 : x / 2 ^ j ≤ x := Int.ediv_le_self _ h0
    have hp := half_pow x j
    by_cases hlt : j < k
    · obtain ⟨D, hD⟩ : ∃ D, x / 2 ^ j = D := ⟨_, rfl⟩
      rw [hD] at hd hd2 hp ⊢
      have HP := Lib.hid hp
      clear hp hD
      go_wp2
      go_round
      case rel => exact ⟨j + 1, by omega, by go_num, by rw [HP.out]⟩
      case measure => simp [intOf]; omega
    · obtain rfl : j = k := by omega
      have hh : B = decide (x / 2 ^ j % 2 = 1) := HB.out.symm
      obtain ⟨D, hD⟩ : ∃ D, x / 2 ^ j = D := ⟨_, rfl⟩
      rw [hD] at hd hd2 hh ⊢
      have HH := Lib.hid hh
      clear hp hD hh
      go_wp2
      go_ret
      exact ⟨ret_bool (by rw [HH.out]; first | rfl | (rw [Bool.eq_iff_iff]; simp <;> omega)), rfl⟩
end Go.Proofs.Ythffoglpekpmdaa
