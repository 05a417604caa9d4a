/- The statements' helpers fair and shaped. -/
import Derived.Test.YthffoglpekpmdaaD7
import Derived.Test.YthffoglpekpmdaaD4
namespace Go.Proofs.Ythffoglpekpmdaa
set_option linter.unusedVariables false
set_option linter.unusedSimpArgs false
open Go.RowKit
def fairB (r : R.Reef) (plan : List Int) (t : R.Truth) : Bool := shortR r && decide (plan.length ≤ 8) && sizedT t && rightB r plan && R.truthB r plan t
set_option maxRecDepth 100000 in
set_option maxHeartbeats 4000000 in
theorem fair_any (r : R.Reef) (plan : List Int) (t : R.Truth) (vr vp vs vg vt : Value) (w : World) (hP : Places w vr r.places) (hL : Ints w vp plan) (hS : Ints w vs t.starts) (hG : Lists w vg t.grows) (hT : Lists w vt t.takes) :
    Calls Try.prog 23 #[.agg (reefV r vr), vp, .agg (truthV vs vg vt)] w fun e w' => e = .returned (.bool (fairB r plan t)) ∧ Ext w w' := by
  have hP' := hP
  have hL' := hL
  have hS' := hS
  have hG' := hG
  have hT' := hT
  obtain ⟨a1, c1, rfl, _⟩ := hP'
  obtain ⟨a2, c2, rfl, _⟩ := hL'
  obtain ⟨a3, c3, rfl, _⟩ := hS'
  obtain ⟨a4, c4, rfl, _⟩ := hG'
  obtain ⟨a5, c5, rfl, _⟩ := hT'
  obtain ⟨w1, hw1⟩ : ∃ w1, ((w.alloc (.cells (reefV r (.slice a1 r.places.length c1)) 24)).alloc (.cells (truthV (.slice a3 t.starts.length c3) (.slice a4 t.grows.length c4) (.slice a5 t.takes.length c5)) 28)) = w1 := ⟨_, rfl⟩
  have hE1 : Ext w w1 := by rw [← hw1]; (with_reducible (repeat (first | exact Ext.refl _ | assumption | apply Ext.alloc | apply Ext.drew | exact ext_plus _ _ | (apply Ext.setCell; rotate_left; (simp <;> omega)) | (apply Ext.trans; rotate_left; exact ext_plus _ _) | (apply Ext.trans; rotate_left; assumption))))
  have hb0 : Blk w1 w.heap.size (reefV r (.slice a1 r.places.length c1)) 24 := by rw [← hw1]; exact (Blk.new' rfl _ _).alloc _
  have hb1 : Blk w1 (w.heap.size + 1) (truthV (.slice a3 t.starts.length c3) (.slice a4 t.grows.length c4) (.slice a5 t.takes.length c5)) 28 := by rw [← hw1]; exact Blk.new' (by simp) _ _
  have hbx := fun y (hy : Ext w1 y) => (⟨(hb0.ext hy).cell, (hb1.ext hy).cell, (hb0.ext hy).lt, (hb1.ext hy).lt⟩ : (∀ o, y.cell? ⟨w.heap.size, o, none⟩ = _) ∧ (∀ o, y.cell? ⟨w.heap.size + 1, o, none⟩ = _) ∧ w.heap.size < y.heap.size ∧ w.heap.size + 1 < y.heap.size)
  have HBX := Lib.hid hbx
  have HW1 := Lib.hid hw1
  have hs := fun w' (hx : Ext w w') => short_any r _ w' (hP.ext hx)
  have hz := fun w' (hx : Ext w w') => sized_any t _ _ _ w' (hS.ext hx) (hG.ext hx) (hT.ext hx)
  obtain ⟨F, hF⟩ : ∃ F, fairB r plan t = F := ⟨_, rfl⟩
  rw [hF]
  have HF0 := Lib.hid hF
  clear hw1 hb0 hb1 hbx hF
  by_cases hsh : shortR r = true
  · rw [hsh] at hs
    have HS := Lib.hid hs
    by_cases hpl : plan.length ≤ 8
    · have hpi : (plan.length : Int) ≤ 8 := by omega
      by_cases hsz : sizedT t = true
      · rw [hsz] at hz
        have HZ := Lib.hid hz
        obtain ⟨z1, z2, z3, z4, z5⟩ := sized_bd hsz
        have hn8 : r.places.length ≤ 8 := by simpa [shortR] using hsh
        have hask := fun w' (hx : Ext w w') => asked_any r plan _ _ w' (hP.ext hx) (hL.ext hx) hn8 (by omega)
        clear hs hz
        cases hA : rightB r plan with
        | false =>
          rw [hA] at hask
          have HA := Lib.hid hask
          have HF : Hid (F = false) := by rw [← HF0.out]; show _ = _; unfold fairB; simp [hA]
          clear hask hA hsh hsz hpl
          go_enter Try.func23, Try.ntmps23
          go_upto_region 1 with (fail)
          rw [HW1.out]
          obtain ⟨k0, k1, l0, l1⟩ := HBX.out w1 (Ext.refl _)
          go_wp2_with (first | (go_at_call 15; refine (HS.out _ (by (with_reducible (repeat (first | exact Ext.refl _ | assumption | apply Ext.alloc | apply Ext.drew | exact ext_plus _ _ | (apply Ext.setCell; rotate_left; (simp <;> omega)) | (apply Ext.trans; rotate_left; exact ext_plus _ _) | (apply Ext.trans; rotate_left; assumption)))))).mono ?_; rintro e w1' ⟨rfl, hb1⟩; (try clear k0 k1 l0 l1); obtain ⟨k0, k1, l0, l1⟩ := HBX.out w1' (by (with_reducible (repeat (first | exact Ext.refl _ | assumption | apply Ext.alloc | apply Ext.drew | exact ext_plus _ _ | (apply Ext.setCell; rotate_left; (simp <;> omega)) | (apply Ext.trans; rotate_left; exact ext_plus _ _) | (apply Ext.trans; rotate_left; assumption)))))) | (go_at_call 16; refine (HZ.out _ (by (with_reducible (repeat (first | exact Ext.refl _ | assumption | apply Ext.alloc | apply Ext.drew | exact ext_plus _ _ | (apply Ext.setCell; rotate_left; (simp <;> omega)) | (apply Ext.trans; rotate_left; exact ext_plus _ _) | (apply Ext.trans; rotate_left; assumption)))))).mono ?_; rintro e w2 ⟨rfl, hb2⟩; (try clear k0 k1 l0 l1); obtain ⟨k0, k1, l0, l1⟩ := HBX.out w2 (by (with_reducible (repeat (first | exact Ext.refl _ | assumption | apply Ext.alloc | apply Ext.drew | exact ext_plus _ _ | (apply Ext.setCell; rotate_left; (simp <;> omega)) | (apply Ext.trans; rotate_left; exact ext_plus _ _) | (apply Ext.trans; rotate_left; assumption)))))) | (go_at_call 19; refine (HA.out _ (by (with_reducible (repeat (first | exact Ext.refl _ | assumption | apply Ext.alloc | apply Ext.drew | exact ext_plus _ _ | (apply Ext.setCell; rotate_left; (simp <;> omega)) | (apply Ext.trans; rotate_left; exact ext_plus _ _) | (apply Ext.trans; rotate_left; assumption)))))).mono ?_; rintro e w4 ⟨rfl, hb4⟩; (try clear k0 k1 l0 l1); obtain ⟨k0, k1, l0, l1⟩ := HBX.out w4 (by (with_reducible (repeat (first | exact Ext.refl _ | assumption | apply Ext.alloc | apply Ext.drew | exact ext_plus _ _ | (apply Ext.setCell; rotate_left; (simp <;> omega)) | (apply Ext.trans; rotate_left; exact ext_plus _ _) | (apply Ext.trans; rotate_left; assumption)))))))
          all_goals
            go_ret
            exact ⟨ret_bool (HF.out.symm), by (with_reducible (repeat (first | exact Ext.refl _ | assumption | apply Ext.alloc | apply Ext.drew | exact ext_plus _ _ | (apply Ext.setCell; rotate_left; (simp <;> omega)) | (apply Ext.trans; rotate_left; exact ext_plus _ _) | (apply Ext.trans; rotate_left; assumption))))⟩
        | true =>
          have hR := hA
          unfold rightB at hR
          rw [Bool.and_eq_true] at hR
          have O := R.okR_of hR.1
          have OL := R.okL_iff.1 hR.2
          have htr := fun w' (hx : Ext w w') => dtruth_any r plan t _ _ _ _ _ w' (hP.ext hx) (hL.ext hx) (hS.ext hx) (hG.ext hx) (hT.ext hx) O OL (by omega) (by omega) (by omega) (fun l hl => by have := z4 l hl; omega) (fun l hl => by have := z5 l hl; omega)
          rw [hA] at hask
          have HA := Lib.hid hask
          have HT := Lib.hid htr
          have HF : Hid (F = R.truthB r plan t) := by rw [← HF0.out]; show _ = _; unfold fairB; simp [hA, hsh, hsz, hpl]
          obtain ⟨B, hB⟩ : ∃ B, R.truthB r plan t = B := ⟨_, rfl⟩
          have ht2 := HT.out
          have hf2 := HF.out
          rw [hB] at hf2
          simp only [hB] at ht2
          have HT2 := Lib.hid ht2
          have HF := Lib.hid hf2
          clear hask hA hsh hsz hpl htr hR O OL hB HT ht2 hf2
          go_enter Try.func23, Try.ntmps23
          go_upto_region 1 with (fail)
          rw [HW1.out]
          obtain ⟨k0, k1, l0, l1⟩ := HBX.out w1 (Ext.refl _)
          go_wp2_with (first | (go_at_call 15; refine (HS.out _ (by (with_reducible (repeat (first | exact Ext.refl _ | assumption | apply Ext.alloc | apply Ext.drew | exact ext_plus _ _ | (apply Ext.setCell; rotate_left; (simp <;> omega)) | (apply Ext.trans; rotate_left; exact ext_plus _ _) | (apply Ext.trans; rotate_left; assumption)))))).mono ?_; rintro e w1' ⟨rfl, hb1⟩; (try clear k0 k1 l0 l1); obtain ⟨k0, k1, l0, l1⟩ := HBX.out w1' (by (with_reducible (repeat (first | exact Ext.refl _ | assumption | apply Ext.alloc | apply Ext.drew | exact ext_plus _ _ | (apply Ext.setCell; rotate_left; (simp <;> omega)) | (apply Ext.trans; rotate_left; exact ext_plus _ _) | (apply Ext.trans; rotate_left; assumption)))))) | (go_at_call 16; refine (HZ.out _ (by (with_reducible (repeat (first | exact Ext.refl _ | assumption | apply Ext.alloc | apply Ext.drew | exact ext_plus _ _ | (apply Ext.setCell; rotate_left; (simp <;> omega)) | (apply Ext.trans; rotate_left; exact ext_plus _ _) | (apply Ext.trans; rotate_left; assumption)))))).mono ?_; rintro e w2 ⟨rfl, hb2⟩; (try clear k0 k1 l0 l1); obtain ⟨k0, k1, l0, l1⟩ := HBX.out w2 (by (with_reducible (repeat (first | exact Ext.refl _ | assumption | apply Ext.alloc | apply Ext.drew | exact ext_plus _ _ | (apply Ext.setCell; rotate_left; (simp <;> omega)) | (apply Ext.trans; rotate_left; exact ext_plus _ _) | (apply Ext.trans; rotate_left; assumption)))))) | (go_at_call 19; refine (HA.out _ (by (with_reducible (repeat (first | exact Ext.refl _ | assumption | apply Ext.alloc | apply Ext.drew | exact ext_plus _ _ | (apply Ext.setCell; rotate_left; (simp <;> omega)) | (apply Ext.trans; rotate_left; exact ext_plus _ _) | (apply Ext.trans; rotate_left; assumption)))))).mono ?_; rintro e w4 ⟨rfl, hb4⟩; (try clear k0 k1 l0 l1); obtain ⟨k0, k1, l0, l1⟩ := HBX.out w4 (by (with_reducible (repeat (first | exact Ext.refl _ | assumption | apply Ext.alloc | apply Ext.drew | exact ext_plus _ _ | (apply Ext.setCell; rotate_left; (simp <;> omega)) | (apply Ext.trans; rotate_left; exact ext_plus _ _) | (apply Ext.trans; rotate_left; assumption)))))) | (go_at_call 20; refine (HT2.out _ (by (with_reducible (repeat (first | exact Ext.refl _ | assumption | apply Ext.alloc | apply Ext.drew | exact ext_plus _ _ | (apply Ext.setCell; rotate_left; (simp <;> omega)) | (apply Ext.trans; rotate_left; exact ext_plus _ _) | (apply Ext.trans; rotate_left; assumption)))))).mono ?_; rintro e w5 ⟨rfl, hb5⟩; (try clear k0 k1 l0 l1); obtain ⟨k0, k1, l0, l1⟩ := HBX.out w5 (by (with_reducible (repeat (first | exact Ext.refl _ | assumption | apply Ext.alloc | apply Ext.drew | exact ext_plus _ _ | (apply Ext.setCell; rotate_left; (simp <;> omega)) | (apply Ext.trans; rotate_left; exact ext_plus _ _) | (apply Ext.trans; rotate_left; assumption)))))))
          all_goals
            go_ret
            exact ⟨ret_bool (HF.out.symm), by (with_reducible (repeat (first | exact Ext.refl _ | assumption | apply Ext.alloc | apply Ext.drew | exact ext_plus _ _ | (apply Ext.setCell; rotate_left; (simp <;> omega)) | (apply Ext.trans; rotate_left; exact ext_plus _ _) | (apply Ext.trans; rotate_left; assumption))))⟩
      · have hsf : sizedT t = false := by simpa using hsz
        rw [hsf] at hz
        have HZ := Lib.hid hz
        have HF : Hid (F = false) := by rw [← HF0.out]; show _ = _; unfold fairB; simp [hsf]
        clear hs hz hsf hsz hsh hpl
        go_enter Try.func23, Try.ntmps23
        go_upto_region 1 with (fail)
        rw [HW1.out]
        obtain ⟨k0, k1, l0, l1⟩ := HBX.out w1 (Ext.refl _)
        go_wp2_with (first | (go_at_call 15; refine (HS.out _ (by (with_reducible (repeat (first | exact Ext.refl _ | assumption | apply Ext.alloc | apply Ext.drew | exact ext_plus _ _ | (apply Ext.setCell; rotate_left; (simp <;> omega)) | (apply Ext.trans; rotate_left; exact ext_plus _ _) | (apply Ext.trans; rotate_left; assumption)))))).mono ?_; rintro e w1' ⟨rfl, hb1⟩; (try clear k0 k1 l0 l1); obtain ⟨k0, k1, l0, l1⟩ := HBX.out w1' (by (with_reducible (repeat (first | exact Ext.refl _ | assumption | apply Ext.alloc | apply Ext.drew | exact ext_plus _ _ | (apply Ext.setCell; rotate_left; (simp <;> omega)) | (apply Ext.trans; rotate_left; exact ext_plus _ _) | (apply Ext.trans; rotate_left; assumption)))))) | (go_at_call 16; refine (HZ.out _ (by (with_reducible (repeat (first | exact Ext.refl _ | assumption | apply Ext.alloc | apply Ext.drew | exact ext_plus _ _ | (apply Ext.setCell; rotate_left; (simp <;> omega)) | (apply Ext.trans; rotate_left; exact ext_plus _ _) | (apply Ext.trans; rotate_left; assumption)))))).mono ?_; rintro e w2 ⟨rfl, hb2⟩; (try clear k0 k1 l0 l1); obtain ⟨k0, k1, l0, l1⟩ := HBX.out w2 (by (with_reducible (repeat (first | exact Ext.refl _ | assumption | apply Ext.alloc | apply Ext.drew | exact ext_plus _ _ | (apply Ext.setCell; rotate_left; (simp <;> omega)) | (apply Ext.trans; rotate_left; exact ext_plus _ _) | (apply Ext.trans; rotate_left; assumption)))))))
        all_goals
          go_ret
          exact ⟨ret_bool (HF.out.symm), by (with_reducible (repeat (first | exact Ext.refl _ | assumption | apply Ext.alloc | apply Ext.drew | exact ext_plus _ _ | (apply Ext.setCell; rotate_left; (simp <;> omega)) | (apply Ext.trans; rotate_left; exact ext_plus _ _) | (apply Ext.trans; rotate_left; assumption))))⟩
    · have hpi : ¬ (plan.length : Int) ≤ 8 := by omega
      have HF : Hid (F = false) := by rw [← HF0.out]; show _ = _; unfold fairB; simp [hpl]
      clear hs hz hpl hsh
      go_enter Try.func23, Try.ntmps23
      go_upto_region 1 with (fail)
      rw [HW1.out]
      obtain ⟨k0, k1, l0, l1⟩ := HBX.out w1 (Ext.refl _)
      go_wp2_with (first | (go_at_call 15; refine (HS.out _ (by (with_reducible (repeat (first | exact Ext.refl _ | assumption | apply Ext.alloc | apply Ext.drew | exact ext_plus _ _ | (apply Ext.setCell; rotate_left; (simp <;> omega)) | (apply Ext.trans; rotate_left; exact ext_plus _ _) | (apply Ext.trans; rotate_left; assumption)))))).mono ?_; rintro e w1' ⟨rfl, hb1⟩; (try clear k0 k1 l0 l1); obtain ⟨k0, k1, l0, l1⟩ := HBX.out w1' (by (with_reducible (repeat (first | exact Ext.refl _ | assumption | apply Ext.alloc | apply Ext.drew | exact ext_plus _ _ | (apply Ext.setCell; rotate_left; (simp <;> omega)) | (apply Ext.trans; rotate_left; exact ext_plus _ _) | (apply Ext.trans; rotate_left; assumption)))))))
      all_goals
        go_ret
        exact ⟨ret_bool (HF.out.symm), by (with_reducible (repeat (first | exact Ext.refl _ | assumption | apply Ext.alloc | apply Ext.drew | exact ext_plus _ _ | (apply Ext.setCell; rotate_left; (simp <;> omega)) | (apply Ext.trans; rotate_left; exact ext_plus _ _) | (apply Ext.trans; rotate_left; assumption))))⟩
  · have hsf : shortR r = false := by simpa using hsh
    rw [hsf] at hs
    have HS := Lib.hid hs
    have HF : Hid (F = false) := by rw [← HF0.out]; show _ = _; unfold fairB; simp [hsf]
    clear hs hz hsf hsh
    go_enter Try.func23, Try.ntmps23
    go_upto_region 1 with (fail)
    rw [HW1.out]
    obtain ⟨k0, k1, l0, l1⟩ := HBX.out w1 (Ext.refl _)
    go_wp2_with (first | (go_at_call 15; refine (HS.out _ (by (with_reducible (repeat (first | exact Ext.refl _ | assumption | apply Ext.alloc | apply Ext.drew | exact ext_plus _ _ | (apply Ext.setCell; rotate_left; (simp <;> omega)) | (apply Ext.trans; rotate_left; exact ext_plus _ _) | (apply Ext.trans; rotate_left; assumption)))))).mono ?_; rintro e w1' ⟨rfl, hb1⟩; (try clear k0 k1 l0 l1); obtain ⟨k0, k1, l0, l1⟩ := HBX.out w1' (by (with_reducible (repeat (first | exact Ext.refl _ | assumption | apply Ext.alloc | apply Ext.drew | exact ext_plus _ _ | (apply Ext.setCell; rotate_left; (simp <;> omega)) | (apply Ext.trans; rotate_left; exact ext_plus _ _) | (apply Ext.trans; rotate_left; assumption)))))))
    all_goals
      go_ret
      exact ⟨ret_bool (HF.out.symm), by (with_reducible (repeat (first | exact Ext.refl _ | assumption | apply Ext.alloc | apply Ext.drew | exact ext_plus _ _ | (apply Ext.setCell; rotate_left; (simp <;> omega)) | (apply Ext.trans; rotate_left; exact ext_plus _ _) | (apply Ext.trans; rotate_left; assumption))))⟩
theorem fair_bd {r : R.Reef} {plan : List Int} {t : R.Truth} (h : fairB r plan t = true) : R.OkR r ∧ R.OkL r plan ∧ R.OkT r plan t ∧ rightB r plan = true ∧ R.truthB r plan t = true := by
  unfold fairB at h
  simp only [Bool.and_eq_true] at h
  obtain ⟨⟨_, h4⟩, h5⟩ := h
  have h6 := h4
  unfold rightB at h6
  rw [Bool.and_eq_true] at h6
  exact ⟨R.okR_of h6.1, R.okL_iff.1 h6.2, R.okT_iff.1 h5, h4, h5⟩
set_option maxRecDepth 100000 in
set_option maxHeartbeats 4000000 in
theorem shaped_any (r : R.Reef) (L : List (List Int)) (vr vl : Value) (w : World) (hP : Places w vr r.places) (hL : Lists w vl L) (hlen : (L.length : Int) = r.seasons) (h4 : L.length ≤ 4) (hn : r.places.length ≤ 1000000) (hrow : ∀ l ∈ L, l.length = r.places.length ∧ ∀ x ∈ l, 0 ≤ x ∧ x ≤ 1000000000) :
    Calls Try.prog 24 #[.agg (reefV r vr), vl] w fun e w' => e = .returned (.bool true) ∧ Ext w w' := by
  obtain ⟨a1, c1, rfl, _⟩ := hP
  obtain ⟨a2, c2, rfl, hx2⟩ := hL
  have HX2 := Lib.hid hx2
  have HROW := Lib.hid hrow
  have HLEN := Lib.hid hlen
  obtain ⟨n, hnn⟩ : ∃ n, r.places.length = n := ⟨_, rfl⟩
  rw [hnn] at hn ⊢
  have HN := Lib.hid hnn
  have hpc := plus_cell
  obtain ⟨W1, hW1⟩ : ∃ w1, w.alloc (.cells (reefV r (.slice a1 n c1)) 24) = w1 := ⟨_, rfl⟩
  have hb0 : Blk W1 w.heap.size (reefV r (.slice a1 n c1)) 24 := by rw [← hW1]; exact Blk.new' rfl _ _
  have hE1 : Ext w W1 := by rw [← hW1]; (with_reducible (repeat (first | exact Ext.refl _ | assumption | apply Ext.alloc | apply Ext.drew | exact ext_plus _ _ | (apply Ext.setCell; rotate_left; (simp <;> omega)) | (apply Ext.trans; rotate_left; exact ext_plus _ _) | (apply Ext.trans; rotate_left; assumption))))
  clear hx2 hrow hlen hnn
  go_enter Try.func24, Try.ntmps24
  go_upto_region 1 with (fail)
  (try rw [hW1])
  clear hW1
  go_wp2
  go_loopw [5] (fun i wr => ∃ k : Nat, k ≤ L.length ∧ i = .int .i64 k ∧ Ext W1 wr) (fun i _ => L.length - (intOf i).toNat)
  case atStart => exact ⟨0, Nat.zero_le _, rfl, Ext.refl _⟩
  case round =>
    obtain ⟨k, hk, rfl, hEk⟩ := hrel
    have k0 := (hb0.ext hEk).cell
    have k1 := (hb0.ext hEk).lt
    have hEw := hE1.trans hEk
    by_cases hlt : k < L.length
    · obtain ⟨g, o, rfl, hg, v, h0, hv, _⟩ := HX2.out k hlt
      simp only [Nat.mul_one] at h0
      have q1 := Nat.lt_of_lt_of_le hg hEw.size
      have cu := (hEw.cells.1 _ _ hg).trans h0
      obtain ⟨hl, hin⟩ := HROW.out _ (List.getElem_mem hlt)
      obtain ⟨x, hx⟩ : ∃ x, L[k] = x := ⟨_, rfl⟩
      rw [hx] at hv hl hin
      rw [HN.out] at hl
      subst hl
      obtain ⟨a3, c3, rfl, hx3⟩ := hv
      have HX3 := Lib.hid hx3
      have HIN := Lib.hid hin
      clear hx3 hin h0 hx
      have hne : ((x.length : Int) != (x.length : Int)) = false := by simp
      go_wp2
      refine wp_region_ext 9 (fun _ _ d _ _ h => by cases d <;> exact h) (by kernel_rfl) (by kernel_rfl) (by kernel_rfl) (by kernel_rfl) ?_
      simp only [List.take_succ_cons, List.take_zero, List.drop_succ_cons, List.drop_zero]
      repeat (any_goals (first | go_big_quiet_step (fail) | quiet_step (fail)))
      all_goals (refine wpQuiet_nil ?_; intro w' hE')
      unfold wpList
      have q3 := Nat.lt_of_lt_of_le q1 hE'.size
      have cu3 := (hE'.cells.1 _ _ q1).trans cu
      clear cu q1 k0 k1
      go_wp2
      go_loopw [6] (fun i wx => ∃ j : Nat, j ≤ x.length ∧ i = .int .i64 j ∧ Ext w' wx) (fun i _ => x.length - (intOf i).toNat)
      case atStart => exact ⟨0, Nat.zero_le _, rfl, Ext.refl _⟩
      case round =>
        rename World => wx
        obtain ⟨j, hj, rfl, hEx⟩ := hrel
        have cu5 := (hEx.cells.1 _ _ q3).trans cu3
        have q5 := Nat.lt_of_lt_of_le q3 hEx.size
        have hEwx : Ext w wx := (hEw.trans hE').trans hEx
        by_cases hlj : j < x.length
        · obtain ⟨b5, o5, rfl, hb5, hc5⟩ := HX3.out j hlj
          have c5 := (hEwx.cells.1 _ _ hb5).trans hc5
          have q6 := Nat.lt_of_lt_of_le hb5 hEwx.size
          obtain ⟨z0, z1⟩ := HIN.out _ (List.getElem_mem hlj)
          obtain ⟨z, hz⟩ : ∃ z, x[j] = z := ⟨_, rfl⟩
          rw [hz] at c5 z0 z1
          clear hc5 hz
          have z2 : ¬ z < 0 := by omega
          have z3 : ¬ 1000000000 < z := by omega
          go_wp2
          go_roundw
          case rel => exact ⟨j + 1, by omega, by go_num, hEx⟩
          case measure => simp [intOf]; omega
        · go_wp2
          go_roundw
          case rel => exact ⟨k + 1, by omega, by go_num, (hEk.trans hE').trans hEx⟩
          case measure => simp [intOf]; omega
    · have hle := HLEN.out
      obtain rfl : k = L.length := by omega
      have heq : decide ((L.length : Int) = r.seasons) = true := by rw [decide_eq_true_iff]; exact hle
      have HEQ := Lib.hid heq
      clear hle heq
      go_wp2
      go_ret
      exact ⟨ret_bool (by simpa using HLEN.out), hEw⟩
end Go.Proofs.Ythffoglpekpmdaa
