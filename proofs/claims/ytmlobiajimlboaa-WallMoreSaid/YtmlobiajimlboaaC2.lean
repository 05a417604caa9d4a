/- Plans, waves, the worst truth and the best one, and the level in a cell, as the program has them. -/
import Derived.Test.YtmlobiajimlboaaC1
import Derived.Test.YtmlobiajimlboaaDraw
namespace Go.Proofs.Ytmlobiajimlboaa
set_option linter.unusedVariables false
set_option linter.unusedSimpArgs false
open Go.RowKit

theorem check_any (s : W.Shore) (c : W.Storm) (vc vw : Value) (w : World) (hC : Cells w vc s.cells) (hW : Works w vw s.works) (hn : s.cells.length ≤ 1000000) (hm : s.works.length ≤ 1000000) :
    Calls Try.prog 38 #[.agg #[vc, vw, .int .i64 s.reef, .int .i64 s.ll, .int .i64 s.lh], .agg #[.int .i64 c.wl, .int .i64 c.wh, .int .i64 c.fl, .int .i64 c.fh, .int .i64 c.tl, .int .i64 c.th]] w fun e w' =>
      e = .returned (.int .i64 (if W.okB s c then 0 else 2)) ∧ Ext w w' := by
  have hC' := hC
  have hW' := hW
  obtain ⟨a1, c1, rfl, _⟩ := hC'
  obtain ⟨a2, c2, rfl, _⟩ := hW'
  go_enter Try.func38, Try.ntmps38
  go_wp2_with (first | (go_at_call 58; refine (valid_any s c _ _ _ (hC.ext (by (with_reducible (repeat (first | exact Ext.refl _ | assumption | apply Ext.alloc | apply Ext.drew | exact ext_plus _ _ | (apply Ext.setCell; rotate_left; (simp <;> omega)) | (apply Ext.trans; rotate_left; exact ext_plus _ _) | (apply Ext.trans; rotate_left; assumption)))))) (hW.ext (by (with_reducible (repeat (first | exact Ext.refl _ | assumption | apply Ext.alloc | apply Ext.drew | exact ext_plus _ _ | (apply Ext.setCell; rotate_left; (simp <;> omega)) | (apply Ext.trans; rotate_left; exact ext_plus _ _) | (apply Ext.trans; rotate_left; assumption)))))) hn hm).mono ?_; rintro e w' ⟨rfl, hb⟩))
  all_goals (go_ret; refine ⟨ret_int (by cases h : W.okB s c <;> simp_all), ?_⟩)
  all_goals (with_reducible (repeat (first | exact Ext.refl _ | assumption | apply Ext.alloc | apply Ext.drew | exact ext_plus _ _ | (apply Ext.setCell; rotate_left; (simp <;> omega)) | (apply Ext.trans; rotate_left; exact ext_plus _ _) | (apply Ext.trans; rotate_left; assumption))))

theorem planbad (n : Int) (m : Nat) (hm : m ≤ 1000000) (bs : Nat) (aw : Option Addr) (cw : Nat) (w : World) (hc : w.cell? ⟨bs, 1, none⟩ = some (.slice aw m cw)) :
    Calls Try.prog 65 #[.int .i64 n, .pointer (some ⟨bs, 0, none⟩)] w fun e w' => e = .returned (.bool (!W.within n (-1) (m - 1))) ∧ w = w' := by
  go_enter Try.func65, Try.ntmps65
  go_wp2_with (first | (go_at_call 53; refine (in_any _ _ _ _).mono ?_; rintro e w' ⟨rfl, rfl⟩))
  go_ret
  exact ⟨rfl, rfl⟩
def badPlan (m : Nat) (xs : List Int) : Bool := xs.any (fun p => !W.within p (-1) (m - 1))
theorem idx_plan (xs : List Int) (v : Value) (w : World) (hl : xs.length ≤ 1000000) (hv : Ints w v xs) (m : Nat) (hm : m ≤ 1000000) (bs : Nat) (aw : Option Addr) (cw : Nat) (hcb : w.cell? ⟨bs, 1, none⟩ = some (.slice aw m cw)) :
    Calls Try.prog 77 #[v, .func (.func 65) #[] #[.pointer (some ⟨bs, 0, none⟩)]] w fun e w' => ∃ n : Int, e = .returned (.int .i64 n) ∧ decide (0 ≤ n) = badPlan m xs ∧ w = w' := by
  obtain ⟨a, cap, rfl, hx⟩ := hv
  have hx' := Lib.hid hx
  clear hx
  go_enter Try.func77, Try.ntmps77
  go_wp2
  go_loop [4, 5, 8] (fun _ _ i => ∃ k : Nat, k ≤ xs.length ∧ i = .int .i64 k ∧ badPlan m (xs.take k) = false) (fun _ _ i => xs.length - (intOf i).toNat)
  case atStart => exact ⟨0, Nat.zero_le _, rfl, by simp [badPlan]⟩
  case round =>
    obtain ⟨k, hk, rfl, hany⟩ := hrel
    have hany' := Lib.hid hany
    clear hany
    by_cases hlt : k < xs.length
    · obtain ⟨b, off, rfl, hb, h0⟩ := hx'.out k hlt
      go_wp2_with fail
      refine (planbad _ m hm bs aw cw _ hcb).mono ?_
      rintro e w' ⟨rfl, rfl⟩
      by_cases hg : W.within xs[k] (-1) (m - 1) = true
      · have hg' : (!W.within xs[k] (-1) (m - 1)) = false := by simp [hg]
        have hany := hany'.out
        have hg'' := Lib.hid hg
        rw [hg']
        clear hg hg' hany
        go_wp2
        go_round
        case rel => exact ⟨k + 1, by omega, by go_num, by unfold badPlan; rw [List.take_succ_eq_append_getElem hlt, List.any_append]; have h1 := hany'.out; unfold badPlan at h1; rw [h1]; simp [hg''.out]⟩
        case measure => simp [intOf]; omega
      · have hg' : (!W.within xs[k] (-1) (m - 1)) = true := by simp [hg]
        rw [hg']
        have hg'' := Lib.hid hg'
        clear hg hg'
        go_wp2
        go_ret
        exact ⟨_, rfl, by unfold badPlan; rw [eq_comm, List.any_eq_true.2 ⟨xs[k], List.getElem_mem hlt, hg''.out⟩]; simp, rfl⟩
    · go_wp2
      go_ret
      obtain rfl : k = xs.length := by omega
      exact ⟨_, rfl, by have h1 := hany'.out; rw [List.take_length] at h1; rw [h1]; rfl, rfl⟩
theorem has_plan (xs : List Int) (v : Value) (w : World) (hl : xs.length ≤ 1000000) (hv : Ints w v xs) (m : Nat) (hm : m ≤ 1000000) (bs : Nat) (aw : Option Addr) (cw : Nat) (hcb : w.cell? ⟨bs, 1, none⟩ = some (.slice aw m cw)) :
    Calls Try.prog 64 #[v, .func (.func 65) #[] #[.pointer (some ⟨bs, 0, none⟩)]] w fun e w' => e = .returned (.bool (badPlan m xs)) ∧ w = w' := by
  go_enter Try.func64, Try.ntmps64
  go_wp2_with fail
  refine (idx_plan xs v w hl hv m hm bs aw cw hcb).mono ?_
  rintro e w' ⟨n, rfl, hn, rfl⟩
  have hn' := Lib.hid hn
  clear hn
  go_wp2
  go_ret
  exact ⟨ret_bool hn'.out, rfl⟩

theorem wave_any (s : W.Shore) (t : W.Truth) (x0 x1 x2 x3 x4 x5 x6 x7 x8 x9 x10 y : Value) (w : World) (h0 : 0 ≤ t.wind) (h1 : t.wind ≤ 1000) (h2 : 0 ≤ t.fetch) (h3 : t.fetch ≤ 10000) (h4 : 0 ≤ t.loss) (h5 : t.loss ≤ 1000) (h6 : 0 ≤ s.reef) (h7 : s.reef ≤ 1000) :
    Calls Try.prog 59 #[.agg #[x0, x1, .int .i64 s.reef, x2, x3, x4, x5, x6, x7, x8, x9, x10], .agg #[.int .i64 t.wind, .int .i64 t.fetch, .int .i64 t.tide, .int .i64 t.loss, y]] w fun e w' => e = .returned (.int .i64 (W.wave s t)) ∧ Ext w w' := by
  obtain ⟨r, hr⟩ := Int.eq_ofNat_of_zero_le h6
  have hr' : W.wave s t = W.reefN r t.loss (t.wind * t.fetch / 1000) := by unfold W.wave; rw [hr]; rfl
  have hr7 : r ≤ 1000 := by omega
  rw [hr, hr']
  clear hr hr' h6 h7
  have hm := W.mul_bd h0 h1 h2 h3
  have hq : 0 ≤ t.wind * t.fetch / 1000 ∧ t.wind * t.fetch / 1000 ≤ 10000 := by omega
  have HB := Lib.hid (fun k => W.reefN_bd h4 h5 k hq.1)
  go_enter Try.func59, Try.ntmps59
  go_wp2
  go_loop [5, 15] (fun n i => ∃ k : Nat, k ≤ r ∧ i = .int .i64 k ∧ n = .int .i64 (W.reefN k t.loss (t.wind * t.fetch / 1000))) (fun _ i => r - (intOf i).toNat)
  case atStart => exact ⟨0, Nat.zero_le _, rfl, rfl⟩
  case round =>
    obtain ⟨k, hk, rfl, rfl⟩ := hrel
    have hb := HB.out k
    have hs := Lib.hid (W.reefN_succ t.loss k (t.wind * t.fetch / 1000))
    generalize hnk : W.reefN k t.loss (t.wind * t.fetch / 1000) = nk at hb hs ⊢
    have HNK := Lib.hid hnk
    clear hnk
    have hp := W.mul_bd hb.1 (show nk ≤ 10000 by omega) h4 h5
    have hd : 0 ≤ nk * t.loss / 1000 ∧ nk * t.loss / 1000 ≤ 10000 := by omega
    by_cases hlt : k < r
    · go_wp2
      go_round
      case rel => exact ⟨k + 1, by omega, by go_num, by rw [hs.out]; rfl⟩
      case measure => simp [intOf]; omega
    · go_wp2
      go_ret
      have e : k = r := by omega
      subst e
      refine ⟨ret_int HNK.out.symm, ?_⟩
      (with_reducible (repeat (first | exact Ext.refl _ | assumption | apply Ext.alloc | apply Ext.drew | exact ext_plus _ _ | (apply Ext.setCell; rotate_left; (simp <;> omega)) | (apply Ext.trans; rotate_left; exact ext_plus _ _) | (apply Ext.trans; rotate_left; assumption))))

/-- As a plan is asked for. -/
theorem planB_eq (s : W.Shore) (plan : List Int) : W.planB s plan = (!badPlan s.works.length plan && decide (plan.length = s.cells.length)) := by
  unfold W.planB badPlan
  rw [← List.not_all_eq_any_not, Bool.not_not]
/-- A shore in a storm with a plan, as the program holds it. -/
abbrev shoreV (s : W.Shore) (c : W.Storm) (vc vw vp : Value) : Value :=
  .agg #[vc, vw, .int .i64 s.reef, .int .i64 s.ll, .int .i64 s.lh, .int .i64 c.wl, .int .i64 c.wh, .int .i64 c.fl, .int .i64 c.fh, .int .i64 c.tl, .int .i64 c.th, vp]
set_option maxHeartbeats 2000000 in
theorem given_any (s : W.Shore) (c : W.Storm) (plan : List Int) (vc vw vp : Value) (w : World) (hC : Cells w vc s.cells) (hW : Works w vw s.works) (hP : Ints w vp plan) (hn : s.cells.length ≤ 1000000) (hm : s.works.length ≤ 1000000) (hp : plan.length ≤ 1000000) :
    Calls Try.prog 52 #[.agg #[vc, vw, .int .i64 s.reef, .int .i64 s.ll, .int .i64 s.lh], .agg #[.int .i64 c.wl, .int .i64 c.wh, .int .i64 c.fl, .int .i64 c.fh, .int .i64 c.tl, .int .i64 c.th], vp] w fun e w' =>
      e = .returned (.tuple #[shoreV s c vc vw vp, .bool (W.okB s c && W.planB s plan)]) ∧ Ext w w' := by
  have hC' := hC
  have hW' := hW
  have hP' := hP
  obtain ⟨a1, c1, rfl, _⟩ := hC'
  obtain ⟨a2, c2, rfl, _⟩ := hW'
  obtain ⟨a3, c3, rfl, _⟩ := hP'
  rw [planB_eq]
  have hpc := plus_cell
  go_enter Try.func52, Try.ntmps52
  go_wp2
  refine wp_region_ext 21 (fun _ _ d _ _ h => by cases d <;> exact h) (by kernel_rfl) (by kernel_rfl) (by kernel_rfl) (by kernel_rfl) ?_
  simp only [List.take_succ_cons, List.take_zero, List.drop_succ_cons, List.drop_zero]
  repeat (any_goals (first | quiet_step ((first | (go_at_call 58; exact ext_quiet (valid_any s c _ _ _ (hC.ext (by (with_reducible (repeat (first | exact Ext.refl _ | assumption | apply Ext.alloc | apply Ext.drew | exact ext_plus _ _ | (apply Ext.setCell; rotate_left; (simp <;> omega)) | (apply Ext.trans; rotate_left; exact ext_plus _ _) | (apply Ext.trans; rotate_left; assumption)))))) (hW.ext (by (with_reducible (repeat (first | exact Ext.refl _ | assumption | apply Ext.alloc | apply Ext.drew | exact ext_plus _ _ | (apply Ext.setCell; rotate_left; (simp <;> omega)) | (apply Ext.trans; rotate_left; exact ext_plus _ _) | (apply Ext.trans; rotate_left; assumption)))))) hn hm)) | (go_at_call 64; exact same_quiet (has_plan plan _ _ hp (hP.ext (by (with_reducible (repeat (first | exact Ext.refl _ | assumption | apply Ext.alloc | apply Ext.drew | exact ext_plus _ _ | (apply Ext.setCell; rotate_left; (simp <;> omega)) | (apply Ext.trans; rotate_left; exact ext_plus _ _) | (apply Ext.trans; rotate_left; assumption)))))) s.works.length hm w.heap.size a2 c2 (by simp [go_sem, hpc]))))) | (refine wpQuiet_step (fun K hK => ?_); go_simp; split <;> (refine hK _ ?_; clear hK K))))
  all_goals (refine wpQuiet_nil ?_; intro w' hE; have hc := hE.cells.1; have hf := hE.cells.2)
  all_goals go_wp2
  all_goals (refine bodyPost_ret (v := .tuple #[shoreV s c (.slice a1 s.cells.length c1) (.slice a2 s.works.length c2) (.slice a3 plan.length c3), .bool (W.okB s c && (!badPlan s.works.length plan && decide (plan.length = s.cells.length)))]) ?_ rfl ⟨rfl, ?_⟩)
  all_goals first | (with_reducible show Ext _ _; (with_reducible (repeat (first | exact Ext.refl _ | assumption | apply Ext.alloc | apply Ext.drew | exact ext_plus _ _ | (apply Ext.setCell; rotate_left; (simp <;> omega)) | (apply Ext.trans; rotate_left; exact ext_plus _ _) | (apply Ext.trans; rotate_left; assumption)))); done) | skip
  all_goals (simp [results, Try.results52, go_sem, *] <;> (intros; omega))
end Go.Proofs.Ytmlobiajimlboaa
