/- A reef with a plan, as the program has it. -/
import Derived.Test.YthffoglpekpmdaaC2
namespace Go.Proofs.Ythffoglpekpmdaa
set_option linter.unusedVariables false
set_option linter.unusedSimpArgs false
open Go.RowKit
theorem pow_bd {n : Nat} (hn : n ≤ 8) : 1 ≤ (2 : Int) ^ n ∧ (2 : Int) ^ n ≤ 256 := by
  have : n = 0 ∨ n = 1 ∨ n = 2 ∨ n = 3 ∨ n = 4 ∨ n = 5 ∨ n = 6 ∨ n = 7 ∨ n = 8 := by omega
  rcases this with rfl | rfl | rfl | rfl | rfl | rfl | rfl | rfl | rfl <;> decide
theorem planbad (x : Int) (n : Nat) (hn : n ≤ 8) (bs : Nat) (ap : Option Addr) (cp : Nat) (w : World) (hc : w.cell? ⟨bs, 0, none⟩ = some (.slice ap n cp)) :
    Calls Try.prog 72 #[.int .i64 x, .pointer (some ⟨bs, 0, none⟩)] w fun e w' => e = .returned (.bool (!R.within x 0 (2 ^ n - 1))) ∧ w = w' := by
  have hp := pow_bd hn
  go_enter Try.func72, Try.ntmps72
  go_wp2_with (first | (go_at_call 64; refine (in_any _ _ _ _).mono ?_; rintro e w' ⟨rfl, rfl⟩))
  go_ret
  exact ⟨rfl, rfl⟩
def badPlan (n : Nat) (xs : List Int) : Bool := xs.any (fun p => !R.within p 0 (2 ^ n - 1))
theorem idx_plan (xs : List Int) (v : Value) (w : World) (hl : xs.length ≤ 1000000) (hv : Ints w v xs) (n : Nat) (hn : n ≤ 8) (bs : Nat) (ap : Option Addr) (cp : Nat) (hcb : w.cell? ⟨bs, 0, none⟩ = some (.slice ap n cp)) :
    Calls Try.prog 86 #[v, .func (.func 72) #[] #[.pointer (some ⟨bs, 0, none⟩)]] w fun e w' => ∃ k : Int, e = .returned (.int .i64 k) ∧ decide (0 ≤ k) = badPlan n xs ∧ w = w' := by
  obtain ⟨a, cap, rfl, hx⟩ := hv
  have hx' := Lib.hid hx
  clear hx
  go_enter Try.func86, Try.ntmps86
  go_wp2
  go_loop [4, 5, 8] (fun _ _ i => ∃ k : Nat, k ≤ xs.length ∧ i = .int .i64 k ∧ badPlan n (xs.take k) = false) (fun _ _ i => xs.length - (intOf i).toNat)
  case atStart => exact ⟨0, Nat.zero_le _, rfl, by simp [badPlan]⟩
  case round =>
    obtain ⟨k, hk, rfl, hany⟩ := hrel
    have hany' := Lib.hid hany
    clear hany
    by_cases hlt : k < xs.length
    · obtain ⟨b, off, rfl, hb, h0⟩ := hx'.out k hlt
      go_wp2_with fail
      refine (planbad _ n hn bs ap cp _ hcb).mono ?_
      rintro e w' ⟨rfl, rfl⟩
      by_cases hg : R.within xs[k] 0 (2 ^ n - 1) = true
      · have hg' : (!R.within xs[k] 0 (2 ^ n - 1)) = false := by simp [hg]
        have hany := hany'.out
        have hg'' := Lib.hid hg
        rw [hg']
        clear hg hg' hany
        go_wp2
        go_round
        case rel => exact ⟨k + 1, by omega, by go_num, by unfold badPlan; rw [List.take_succ_eq_append_getElem hlt, List.any_append]; have h1 := hany'.out; unfold badPlan at h1; rw [h1]; simp [hg''.out]⟩
        case measure => simp [intOf]; omega
      · have hg' : (!R.within xs[k] 0 (2 ^ n - 1)) = true := by simp [hg]
        rw [hg']
        have hg'' := Lib.hid hg'
        clear hg hg'
        go_wp2
        go_ret
        exact ⟨_, rfl, by unfold badPlan; rw [eq_comm, List.any_eq_true.2 ⟨xs[k], List.getElem_mem hlt, hg''.out⟩]; simp, rfl⟩
    · go_wp2
      go_ret
      obtain rfl : k = xs.length := by omega
      exact ⟨_, rfl, by have h1 := hany'.out; rw [List.take_length] at h1; rw [h1]; rfl, rfl⟩
theorem has_plan (xs : List Int) (v : Value) (w : World) (hl : xs.length ≤ 1000000) (hv : Ints w v xs) (n : Nat) (hn : n ≤ 8) (bs : Nat) (ap : Option Addr) (cp : Nat) (hcb : w.cell? ⟨bs, 0, none⟩ = some (.slice ap n cp)) :
    Calls Try.prog 71 #[v, .func (.func 72) #[] #[.pointer (some ⟨bs, 0, none⟩)]] w fun e w' => e = .returned (.bool (badPlan n xs)) ∧ w = w' := by
  go_enter Try.func71, Try.ntmps71
  go_wp2_with fail
  refine (idx_plan xs v w hl hv n hn bs ap cp hcb).mono ?_
  rintro e w' ⟨n, rfl, hn, rfl⟩
  have hn' := Lib.hid hn
  clear hn
  go_wp2
  go_ret
  exact ⟨ret_bool hn'.out, rfl⟩
theorem goodTo_all {r : R.Reef} (h : R.reefB r = true) : 1 ≤ r.places.length ∧ r.places.length ≤ 4 ∧ 0 ≤ r.miss ∧ r.miss ≤ 2000 ∧ 1 ≤ r.seasons ∧ r.seasons ≤ 4 := by
  unfold R.reefB R.within at h
  simp only [Bool.and_eq_true, decide_eq_true_eq] at h
  omega
def rightB (r : R.Reef) (plan : List Int) : Bool := R.reefB r && R.planB r plan
theorem right_any (r : R.Reef) (plan : List Int) (vp vl : Value) (w : World) (hP : Places w vp r.places) (hL : Ints w vl plan) (hn : r.places.length ≤ 1000000) (hm : plan.length ≤ 1000000) :
    Calls Try.prog 50 #[.agg (planV r vp vl)] w fun e w' => e = .returned (.bool (rightB r plan)) ∧ Ext w w' := by
  have hP' := hP
  obtain ⟨a, cap, rfl, _⟩ := hP'
  have hL' := hL
  obtain ⟨a2, cap2, rfl, _⟩ := hL'
  have hva := fun w' (hx : Ext w w') => valid_any r _ w' (hP.ext hx) hn
  obtain ⟨B, hB⟩ : ∃ B, R.reefB r = B := ⟨_, rfl⟩
  simp only [hB] at hva
  have HV := Lib.hid hva
  clear hva
  cases B with
  | false =>
    have HB := Lib.hid hB
    clear hB
    go_enter Try.func50, Try.ntmps50
    go_wp2_with (first | (go_at_call 59; refine (HV.out _ (by (with_reducible (repeat (first | exact Ext.refl _ | assumption | apply Ext.alloc | apply Ext.drew | exact ext_plus _ _ | (apply Ext.setCell; rotate_left; (simp <;> omega)) | (apply Ext.trans; rotate_left; exact ext_plus _ _) | (apply Ext.trans; rotate_left; assumption)))))).mono ?_; rintro e w' ⟨rfl, hb⟩))
    all_goals (go_ret; refine ⟨ret_bool (by unfold rightB; rw [HB.out]; rfl), by (with_reducible (repeat (first | exact Ext.refl _ | assumption | apply Ext.alloc | apply Ext.drew | exact ext_plus _ _ | (apply Ext.setCell; rotate_left; (simp <;> omega)) | (apply Ext.trans; rotate_left; exact ext_plus _ _) | (apply Ext.trans; rotate_left; assumption))))⟩)
  | true =>
    have hg := goodTo_all hB
    have HB := Lib.hid hB
    clear hB
    by_cases hsz : (plan.length : Int) = r.seasons
    · go_enter Try.func50, Try.ntmps50
      go_wp2_with (first | (go_at_call 59; refine (HV.out _ (by (with_reducible (repeat (first | exact Ext.refl _ | assumption | apply Ext.alloc | apply Ext.drew | exact ext_plus _ _ | (apply Ext.setCell; rotate_left; (simp <;> omega)) | (apply Ext.trans; rotate_left; exact ext_plus _ _) | (apply Ext.trans; rotate_left; assumption)))))).mono ?_; rintro e w' ⟨rfl, hb⟩; have hc := hb.cells.1; have hz := hb.size; (try simp only [World.size_alloc, size_drew, size_drewN, size_setCell] at hz); have hs0 : w.heap.size < w'.heap.size := (by omega)) | (go_at_call 71; refine (has_plan plan _ _ hm (hL.ext (by (with_reducible (repeat (first | exact Ext.refl _ | assumption | apply Ext.alloc | apply Ext.drew | exact ext_plus _ _ | (apply Ext.setCell; rotate_left; (simp <;> omega)) | (apply Ext.trans; rotate_left; exact ext_plus _ _) | (apply Ext.trans; rotate_left; assumption)))))) r.places.length (by omega) w.heap.size a cap (by have h := (Blk.ext (Blk.new' (w := w) rfl (planV r (.slice a r.places.length cap) (.slice a2 plan.length cap2)) 82) hb).cell 0; exact h)).mono ?_; rintro e w' ⟨rfl, rfl⟩))
      all_goals (go_ret; refine ⟨ret_bool ?_, by (with_reducible (repeat (first | exact Ext.refl _ | assumption | apply Ext.alloc | apply Ext.drew | exact ext_plus _ _ | (apply Ext.setCell; rotate_left; (simp <;> omega)) | (apply Ext.trans; rotate_left; exact ext_plus _ _) | (apply Ext.trans; rotate_left; assumption))))⟩; unfold rightB R.planB R.sets; rw [HB.out, decide_eq_true hsz, Bool.true_and, Bool.and_true]; unfold badPlan at *)
      all_goals (rw [List.any_eq_not_all_not]; simp)
    · go_enter Try.func50, Try.ntmps50
      go_wp2_with (first | (go_at_call 59; refine (HV.out _ (by (with_reducible (repeat (first | exact Ext.refl _ | assumption | apply Ext.alloc | apply Ext.drew | exact ext_plus _ _ | (apply Ext.setCell; rotate_left; (simp <;> omega)) | (apply Ext.trans; rotate_left; exact ext_plus _ _) | (apply Ext.trans; rotate_left; assumption)))))).mono ?_; rintro e w' ⟨rfl, hb⟩; have hc := hb.cells.1; have hz := hb.size; (try simp only [World.size_alloc, size_drew, size_drewN, size_setCell] at hz); have hs0 : w.heap.size < w'.heap.size := (by omega)))
      all_goals (go_ret; refine ⟨ret_bool ?_, by (with_reducible (repeat (first | exact Ext.refl _ | assumption | apply Ext.alloc | apply Ext.drew | exact ext_plus _ _ | (apply Ext.setCell; rotate_left; (simp <;> omega)) | (apply Ext.trans; rotate_left; exact ext_plus _ _) | (apply Ext.trans; rotate_left; assumption))))⟩; unfold rightB R.planB; rw [decide_eq_false hsz, Bool.and_false, Bool.and_false])
theorem starts_any (r : R.Reef) (p : R.Place) (vp vl : Value) (w : World) (h0 : 0 ≤ p.count) (h1 : p.count ≤ 1000000) (h2 : 0 ≤ r.miss) (h3 : r.miss ≤ 2000) :
    Calls Try.prog 74 #[.agg (planV r vp vl), .agg (placeV p)] w fun e w' => e = .returned (.agg #[.int .i64 p.count, .int .i64 (R.most r p.count)]) ∧ Ext w w' := by
  have hm : 0 ≤ p.count * r.miss ∧ p.count * r.miss ≤ 2000000000 := ⟨Int.mul_nonneg h0 h2, by have := Int.mul_le_mul h1 h3 h2 (by omega); omega⟩
  have hw : IntKind.wrap .i64 (p.count * r.miss) = p.count * r.miss := IntWalk.i64_in _ (by omega)
  obtain ⟨c, hc⟩ : ∃ c, R.most r p.count = c := ⟨_, rfl⟩
  have hc' : p.count + p.count * r.miss / 1000 = c := hc
  rw [hc]
  obtain ⟨M, hM⟩ : ∃ M, p.count * r.miss = M := ⟨_, rfl⟩
  rw [hM] at hm hw hc'
  go_enter Try.func74, Try.ntmps74
  go_wp2
  exact bodyPost_ret (v := .agg #[.int .i64 p.count, .int .i64 c]) (by simp [results, Try.results74, go_sem, *]) rfl ⟨rfl, by (with_reducible (repeat (first | exact Ext.refl _ | assumption | apply Ext.alloc | apply Ext.drew | exact ext_plus _ _ | (apply Ext.setCell; rotate_left; (simp <;> omega)) | (apply Ext.trans; rotate_left; exact ext_plus _ _) | (apply Ext.trans; rotate_left; assumption))))⟩
end Go.Proofs.Ythffoglpekpmdaa
