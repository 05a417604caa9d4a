/- The document's sets and plans. -/
import Derived.Test.YthffoglpekpmdaaD1
namespace Go.Proofs.Ythffoglpekpmdaa
set_option linter.unusedVariables false
set_option linter.unusedSimpArgs false
open Go.RowKit
theorem din_ext (x lo hi : Int) (w : World) :
    Calls Try.prog 53 #[.int .i64 x, .int .i64 lo, .int .i64 hi] w fun e w' => e = .returned (.bool (R.within x lo hi)) ∧ Ext w w' :=
  (din_any x lo hi w).mono fun _ _ ⟨h1, h2⟩ => ⟨h1, h2 ▸ Ext.refl _⟩
theorem dsets_any (r : R.Reef) (vp : Value) (w : World) (hP : Places w vp r.places) (hn : r.places.length ≤ 8) :
    Calls Try.prog 63 #[.agg (reefV r vp)] w fun e w' => e = .returned (.int .i64 (R.sets r)) ∧ Ext w w' := by
  obtain ⟨a1, c1, rfl, _⟩ := hP
  obtain ⟨n, hnn⟩ : ∃ n, r.places.length = n := ⟨_, rfl⟩
  have hs : R.sets r = 2 ^ n := by unfold R.sets; rw [hnn]
  rw [hs]
  have hrv : reefV r (.slice a1 r.places.length c1) = #[.slice a1 n c1, .int .i64 r.miss, .int .i64 r.seasons] := by unfold reefV; rw [hnn]
  rw [hnn] at hn
  rw [hrv]
  clear hs hrv hnn
  go_enter Try.func63, Try.ntmps63
  go_wp2
  obtain ⟨w1, hw1⟩ : ∃ w1, w.alloc (.cells #[.slice a1 n c1, .int .i64 r.miss, .int .i64 r.seasons] 24) = w1 := ⟨_, rfl⟩
  have hb : Blk w1 w.heap.size #[.slice a1 n c1, .int .i64 r.miss, .int .i64 r.seasons] 24 := by rw [← hw1]; exact Blk.new' rfl _ _
  have hE : Ext w w1 := by rw [← hw1]; (with_reducible (repeat (first | exact Ext.refl _ | assumption | apply Ext.alloc | apply Ext.drew | exact ext_plus _ _ | (apply Ext.setCell; rotate_left; (simp <;> omega)) | (apply Ext.trans; rotate_left; exact ext_plus _ _) | (apply Ext.trans; rotate_left; assumption))))
  rw [hw1]
  clear hw1
  have hc := hb.cell
  have hl := hb.lt
  go_loop [3, 4] (fun v i => ∃ k : Nat, k ≤ n ∧ i = .int .i64 k ∧ v = .int .i64 (2 ^ k)) (fun _ i => n - (intOf i).toNat)
  case atStart => exact ⟨0, Nat.zero_le _, rfl, rfl⟩
  case round =>
    obtain ⟨k, hk, rfl, rfl⟩ := hrel
    have hp := pow_bd (n := k) (by omega)
    have hps : (2 : Int) ^ (k + 1) = 2 * 2 ^ k := by rw [Int.pow_succ, Int.mul_comm]
    obtain ⟨X, hX⟩ : ∃ X, (2 : Int) ^ k = X := ⟨_, rfl⟩
    rw [hX] at hp hps ⊢
    have HPS := Lib.hid hps
    have HX := Lib.hid hX
    clear hps hX
    by_cases hlt : k < n
    · go_wp2
      go_round
      case rel => exact ⟨k + 1, by omega, by go_num, by rw [HPS.out]⟩
      case measure => simp [intOf]; omega
    · obtain rfl : n = k := by omega
      go_wp2
      go_ret
      exact ⟨ret_int HX.out.symm, hE⟩
set_option maxRecDepth 100000 in
set_option maxHeartbeats 4000000 in
theorem dplan_any (r : R.Reef) (l : List Int) (vp vl : Value) (w : World) (hP : Places w vp r.places) (hL : Ints w vl l) (hn : r.places.length ≤ 8) (hl : l.length ≤ 1000000) :
    Calls Try.prog 33 #[.agg (reefV r vp), vl] w fun e w' => e = .returned (.bool (R.planB r l)) ∧ Ext w w' := by
  have hP' := hP
  obtain ⟨a1, c1, rfl, _⟩ := hP'
  obtain ⟨a2, c2, rfl, hx2⟩ := hL
  have HX2 := Lib.hid hx2
  have hst := fun w' (hx : Ext w w') => dsets_any r _ w' (hP.ext hx) hn
  have hS1 : 1 ≤ R.sets r ∧ R.sets r ≤ 256 := pow_bd hn
  obtain ⟨B, hB⟩ : ∃ B, R.planB r l = B := ⟨_, rfl⟩
  have hB2 : B = (l.all (fun x => R.within x 0 (R.sets r - 1)) && decide ((l.length : Int) = r.seasons)) := hB.symm
  rw [hB]
  obtain ⟨S, hS⟩ : ∃ S, R.sets r = S := ⟨_, rfl⟩
  simp only [hS] at hst
  rw [hS] at hS1 hB2
  have HST := Lib.hid hst
  have HB := Lib.hid hB2
  have hwS : IntKind.i64.wrap (S - 1) = S - 1 := IntWalk.i64_in _ (by omega)
  clear hx2 hst hB hB2 hS
  have hpc := plus_cell
  go_enter Try.func33, Try.ntmps33
  go_wp2
  obtain ⟨w1, hw1⟩ : ∃ w1, w.alloc (.cells (reefV r (.slice a1 r.places.length c1)) 24) = w1 := ⟨_, rfl⟩
  have hb : Blk w1 w.heap.size (reefV r (.slice a1 r.places.length c1)) 24 := by rw [← hw1]; exact Blk.new' rfl _ _
  have hE : Ext w w1 := by rw [← hw1]; (with_reducible (repeat (first | exact Ext.refl _ | assumption | apply Ext.alloc | apply Ext.drew | exact ext_plus _ _ | (apply Ext.setCell; rotate_left; (simp <;> omega)) | (apply Ext.trans; rotate_left; exact ext_plus _ _) | (apply Ext.trans; rotate_left; assumption))))
  rw [hw1]
  clear hw1
  go_loopw [5] (fun i wr => ∃ k : Nat, k ≤ l.length ∧ i = .int .i64 k ∧ (l.take k).all (fun x => R.within x 0 (S - 1)) = true ∧ Ext w1 wr) (fun i _ => l.length - (intOf i).toNat)
  case atStart => exact ⟨0, Nat.zero_le _, rfl, rfl, Ext.refl _⟩
  case round =>
    rename World => wr
    obtain ⟨k, hk, rfl, hall, hEr⟩ := hrel
    have HALL := Lib.hid hall
    clear hall
    have hbr := hb.ext hEr
    have e0 := hbr.cell
    have e1 := hbr.lt
    have hEw := hE.trans hEr
    by_cases hlt : k < l.length
    · obtain ⟨b, off, rfl, hbl, h0⟩ := HX2.out k hlt
      have h0' := (hEw.cells.1 _ _ hbl).trans h0
      have hblr : b < wr.heap.size := Nat.lt_of_lt_of_le hbl hEw.size
      have hin := fun w' => din_ext l[k] 0 (S - 1) w'
      obtain ⟨G, hG⟩ : ∃ G, R.within l[k] 0 (S - 1) = G := ⟨_, rfl⟩
      simp only [hG] at hin
      have HIN := Lib.hid hin
      have HG := Lib.hid hG
      clear h0 hin hG
      generalize hy : l[k] = y at h0' HIN
      have HY := Lib.hid hy
      clear hy
      cases G with
      | true =>
        go_wp2
        refine wp_region_ext 9 (fun _ _ d _ _ h => by cases d <;> exact h) (by kernel_rfl) (by kernel_rfl) (by kernel_rfl) (by kernel_rfl) ?_
        simp only [List.take_succ_cons, List.take_zero, List.drop_succ_cons, List.drop_zero]
        repeat (any_goals (first | quiet_step (first | (go_at_call 63; exact ext_quiet (HST.out _ (by (with_reducible (repeat (first | exact Ext.refl _ | assumption | apply Ext.alloc | apply Ext.drew | exact ext_plus _ _ | (apply Ext.setCell; rotate_left; (simp <;> omega)) | (apply Ext.trans; rotate_left; exact ext_plus _ _) | (apply Ext.trans; rotate_left; assumption))))))) | (go_at_call 53; exact ext_quiet (HIN.out _)))))
        all_goals (refine wpQuiet_nil ?_; intro w3 hE3)
        go_wp2
        go_roundw
        case rel => exact ⟨k + 1, by omega, by go_num, by rw [List.take_succ_eq_append_getElem hlt, List.all_append, HALL.out]; simp [HG.out], hEr.trans hE3⟩
        case measure => simp [intOf]; omega
      | false =>
        go_wp2
        refine wp_region_ext 9 (fun _ _ d _ _ h => by cases d <;> exact h) (by kernel_rfl) (by kernel_rfl) (by kernel_rfl) (by kernel_rfl) ?_
        simp only [List.take_succ_cons, List.take_zero, List.drop_succ_cons, List.drop_zero]
        repeat (any_goals (first | quiet_step (first | (go_at_call 63; exact ext_quiet (HST.out _ (by (with_reducible (repeat (first | exact Ext.refl _ | assumption | apply Ext.alloc | apply Ext.drew | exact ext_plus _ _ | (apply Ext.setCell; rotate_left; (simp <;> omega)) | (apply Ext.trans; rotate_left; exact ext_plus _ _) | (apply Ext.trans; rotate_left; assumption))))))) | (go_at_call 53; exact ext_quiet (HIN.out _)))))
        all_goals (refine wpQuiet_nil ?_; intro w3 hE3)
        go_wp2
        go_ret
        refine ⟨ret_bool ?_, hEw.trans hE3⟩
        rw [HB.out, eq_comm, Bool.and_eq_false_imp]
        intro h
        rw [List.all_eq_true] at h
        have := h _ (List.getElem_mem hlt)
        rw [HG.out] at this; cases this
    · obtain rfl : k = l.length := by omega
      have ha := HALL.out
      rw [List.take_length] at ha
      have hb2 := HB.out
      rw [ha, Bool.true_and] at hb2
      have HB2 := Lib.hid hb2
      clear ha hb2
      go_wp2
      go_ret
      exact ⟨ret_bool (by rw [HB2.out]; rfl), by (with_reducible (repeat (first | exact Ext.refl _ | assumption | apply Ext.alloc | apply Ext.drew | exact ext_plus _ _ | (apply Ext.setCell; rotate_left; (simp <;> omega)) | (apply Ext.trans; rotate_left; exact ext_plus _ _) | (apply Ext.trans; rotate_left; assumption))))⟩
end Go.Proofs.Ythffoglpekpmdaa
