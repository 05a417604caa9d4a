/- The quota, as it is asked. -/
import Derived.Test.YthffoglpekpmdaaG9
namespace Go.Proofs.Ythffoglpekpmdaa
set_option linter.unusedVariables false
set_option linter.unusedSimpArgs false
open Go.RowKit
def quotaN (r : R.Reef) (plan : List Int) (place : Int) : Int := R.least (quotaB r plan place.toNat) 40 0 1000001
def quotaAsk (r : R.Reef) (plan : List Int) (place : Int) : Bool := rightB r plan && R.within place 0 (r.places.length - 1)
def quotaOf (r : R.Reef) (plan : List Int) (place : Int) : Int := if quotaAsk r plan place then (if quotaN r plan place = 0 then 0 else quotaN r plan place - 1) else 0
def quotaCode (r : R.Reef) (plan : List Int) (place : Int) : Int := if quotaAsk r plan place then (if quotaN r plan place = 0 then 5 else 0) else 2
theorem R.least_bd (h : Int → Bool) : ∀ (f : Nat) (low high : Int), low ≤ high → low ≤ R.least h f low high ∧ R.least h f low high ≤ high
  | 0, low, high, hl => ⟨Int.le_refl _, hl⟩
  | f + 1, low, high, hl => by
    by_cases he : low = high
    · subst he; rw [R.least_end]; exact ⟨Int.le_refl _, Int.le_refl _⟩
    · rw [R.least_step _ _ _ _ he]
      split
      · have := R.least_bd h f low (low + (high - low) / 2) (by omega); omega
      · have := R.least_bd h f (low + (high - low) / 2 + 1) high (by omega); omega
set_option maxRecDepth 100000 in
set_option maxHeartbeats 8000000 in
theorem quotaQ_any (r : R.Reef) (plan : List Int) (place : Int) (vp vl : Value) (w : World) (hP : Places w vp r.places) (hL : Ints w vl plan) (hn : r.places.length ≤ 1000000) (hm : plan.length ≤ 1000000) :
    Calls Try.prog 35 #[.agg (reefV r vp), vl, .int .i64 place] w fun x w' => x = .returned (.tuple #[.int .i64 (quotaOf r plan place), .int .i64 (quotaCode r plan place)]) ∧ Ext w w' := by
  have hP' := hP
  have hL' := hL
  obtain ⟨a1, c1, rfl, _⟩ := hP'
  obtain ⟨a2, c2, rfl, _⟩ := hL'
  have hri := fun w' (hx : Ext w w') => right_any r plan _ _ w' (hP.ext hx) (hL.ext hx) hn hm
  obtain ⟨B, hB⟩ : ∃ B, rightB r plan = B := ⟨_, rfl⟩
  have hin := fun w' => in_any place 0 ((r.places.length : Int) - 1) w'
  obtain ⟨C, hC⟩ : ∃ C, R.within place 0 ((r.places.length : Int) - 1) = C := ⟨_, rfl⟩
  simp only [hC] at hin
  have HIN := Lib.hid hin
  clear hin
  unfold quotaOf quotaCode quotaAsk
  simp only [hB] at hri
  rw [hB, hC]
  have HRI := Lib.hid hri
  clear hri
  obtain ⟨w1, hw1⟩ : ∃ w1, (w.alloc (.cells (reefV r (.slice a1 r.places.length c1)) 24)) = w1 := ⟨_, rfl⟩
  obtain ⟨w2, hw2⟩ : ∃ w2, (w1.alloc (.cells #[.slice a2 plan.length c2] 25)) = w2 := ⟨_, rfl⟩
  obtain ⟨w3, hw3⟩ : ∃ w3, (w2.alloc (.cells #[.int .i64 place] 3)) = w3 := ⟨_, rfl⟩
  obtain ⟨w4, hw4⟩ : ∃ w4, (w3.alloc (.cells (planV r (.slice a1 r.places.length c1) (.slice a2 plan.length c2)) 82)) = w4 := ⟨_, rfl⟩
  have e1 : Ext w w1 := by rw [← hw1]; (with_reducible (repeat (first | exact Ext.refl _ | assumption | apply Ext.alloc | apply Ext.drew | exact ext_plus _ _ | (apply Ext.setCell; rotate_left; (simp <;> omega)) | (apply Ext.trans; rotate_left; exact ext_plus _ _) | (apply Ext.trans; rotate_left; assumption))))
  have e2 : Ext w1 w2 := by rw [← hw2]; (with_reducible (repeat (first | exact Ext.refl _ | assumption | apply Ext.alloc | apply Ext.drew | exact ext_plus _ _ | (apply Ext.setCell; rotate_left; (simp <;> omega)) | (apply Ext.trans; rotate_left; exact ext_plus _ _) | (apply Ext.trans; rotate_left; assumption))))
  have e3 : Ext w2 w3 := by rw [← hw3]; (with_reducible (repeat (first | exact Ext.refl _ | assumption | apply Ext.alloc | apply Ext.drew | exact ext_plus _ _ | (apply Ext.setCell; rotate_left; (simp <;> omega)) | (apply Ext.trans; rotate_left; exact ext_plus _ _) | (apply Ext.trans; rotate_left; assumption))))
  have e4 : Ext w3 w4 := by rw [← hw4]; (with_reducible (repeat (first | exact Ext.refl _ | assumption | apply Ext.alloc | apply Ext.drew | exact ext_plus _ _ | (apply Ext.setCell; rotate_left; (simp <;> omega)) | (apply Ext.trans; rotate_left; exact ext_plus _ _) | (apply Ext.trans; rotate_left; assumption))))
  have z1 : w1.heap.size = w.heap.size + 1 := by rw [← hw1]; simp
  have z2 : w2.heap.size = w.heap.size + 2 := by rw [← hw2]; simp [z1]
  have z3 : w3.heap.size = w.heap.size + 3 := by rw [← hw3]; simp [z2]
  have b1 : Blk w1 w.heap.size (reefV r (.slice a1 r.places.length c1)) 24 := by rw [← hw1]; exact Blk.new' rfl _ _
  have b2 : Blk w2 (w.heap.size + 1) #[.slice a2 plan.length c2] 25 := by rw [← hw2]; exact Blk.new' z1.symm _ _
  have b3 : Blk w3 (w.heap.size + 2) #[.int .i64 place] 3 := by rw [← hw3]; exact Blk.new' z2.symm _ _
  have b4 : Blk w4 (w.heap.size + 3) (planV r (.slice a1 r.places.length c1) (.slice a2 plan.length c2)) 82 := by rw [← hw4]; exact Blk.new' z3.symm _ _
  have E4 : Ext w w4 := ((e1.trans e2).trans e3).trans e4
  have hbx := fun (w' : World) (hb : Ext w4 w') => (⟨(b1.ext (((e2.trans e3).trans e4).trans hb)), (b2.ext ((e3.trans e4).trans hb)), (b3.ext (e4.trans hb)), (b4.ext hb), E4.trans hb⟩ : Blk w' w.heap.size (reefV r (.slice a1 r.places.length c1)) 24 ∧ Blk w' (w.heap.size + 1) #[.slice a2 plan.length c2] 25 ∧ Blk w' (w.heap.size + 2) #[.int .i64 place] 3 ∧ Blk w' (w.heap.size + 3) (planV r (.slice a1 r.places.length c1) (.slice a2 plan.length c2)) 82 ∧ Ext w w')
  have HW4 : Hid ((((w.alloc (.cells (reefV r (.slice a1 r.places.length c1)) 24)).alloc (.cells #[.slice a2 plan.length c2] 25)).alloc (.cells #[.int .i64 place] 3)).alloc (.cells (planV r (.slice a1 r.places.length c1) (.slice a2 plan.length c2)) 82) = w4) := by
    show _ = _
    rw [hw1, hw2, hw3, hw4]
  have HBX := Lib.hid hbx
  clear hbx hw1 hw2 hw3 hw4 e1 e2 e3 e4 z1 z2 z3 b1 b2 b3 b4
  have hpc := plus_cell
  cases B with
  | false =>
    clear hB
    go_enter Try.func35, Try.ntmps35
    go_upto_region 2 with (fail)
    rw [HW4.out]
    obtain ⟨d1, d2, d3, d4, d5⟩ := HBX.out _ (Ext.refl _)
    have d4c := d4.cell
    have d4l := d4.lt
    go_wp2_with (first | (go_at_call 50; refine (HRI.out _ (by (with_reducible (repeat (first | exact Ext.refl _ | assumption | apply Ext.alloc | apply Ext.drew | exact ext_plus _ _ | (apply Ext.setCell; rotate_left; (simp <;> omega)) | (apply Ext.trans; rotate_left; exact ext_plus _ _) | (apply Ext.trans; rotate_left; assumption)))))).mono ?_; rintro e w5 ⟨rfl, hb⟩))
    exact bodyPost_ret (v := .tuple #[.int .i64 0, .int .i64 2]) (by simp [results, Try.results35, go_sem]) rfl ⟨rfl, by (with_reducible (repeat (first | exact Ext.refl _ | assumption | apply Ext.alloc | apply Ext.drew | exact ext_plus _ _ | (apply Ext.setCell; rotate_left; (simp <;> omega)) | (apply Ext.trans; rotate_left; exact ext_plus _ _) | (apply Ext.trans; rotate_left; assumption))))⟩
  | true =>
    cases C with
    | false =>
      clear hB
      go_enter Try.func35, Try.ntmps35
      go_upto_region 2 with (fail)
      rw [HW4.out]
      obtain ⟨d1, d2, d3, d4, d5⟩ := HBX.out _ (Ext.refl _)
      have d4c := d4.cell
      have d4l := d4.lt
      have d1c := d1.cell
      have d1l := d1.lt
      have d3c := d3.cell
      have d3l := d3.lt
      go_wp2_with (first | (go_at_call 50; refine (HRI.out _ (by (with_reducible (repeat (first | exact Ext.refl _ | assumption | apply Ext.alloc | apply Ext.drew | exact ext_plus _ _ | (apply Ext.setCell; rotate_left; (simp <;> omega)) | (apply Ext.trans; rotate_left; exact ext_plus _ _) | (apply Ext.trans; rotate_left; assumption)))))).mono ?_; rintro e w5 ⟨rfl, hb⟩; have hcc := hb.cells.1; have hcs := hb.size) | (go_at_call 64; refine (HIN.out _).mono ?_; rintro e w6 ⟨rfl, rfl⟩))
      exact bodyPost_ret (v := .tuple #[.int .i64 0, .int .i64 2]) (by simp [results, Try.results35, go_sem]) rfl ⟨rfl, by (with_reducible (repeat (first | exact Ext.refl _ | assumption | apply Ext.alloc | apply Ext.drew | exact ext_plus _ _ | (apply Ext.setCell; rotate_left; (simp <;> omega)) | (apply Ext.trans; rotate_left; exact ext_plus _ _) | (apply Ext.trans; rotate_left; assumption))))⟩
    | true =>
      have hR := hB
      unfold rightB at hR
      rw [Bool.and_eq_true] at hR
      obtain ⟨k, rfl⟩ : ∃ k : Nat, place = k := ⟨place.toNat, by unfold R.within at hC; simp at hC; omega⟩
      have hk : k < r.places.length := by unfold R.within at hC; simp at hC; omega
      have hle := fun w' (hx : Ext w4 w') => least_quota r plan k _ _ w w' (E4.trans hx) hP hL (R.okR_of hR.1) (R.okL_iff.1 hR.2) hk w.heap.size (w.heap.size + 2) (w.heap.size + 1) (HBX.out w' hx).1 (HBX.out w' hx).2.2.1 (HBX.out w' hx).2.1
      have hNe : quotaN r plan k = R.least (quotaB r plan k) 40 0 1000001 := by simp [quotaN]
      have hNb := R.least_bd (quotaB r plan k) 40 0 1000001 (by omega)
      obtain ⟨N, hN⟩ : ∃ N, R.least (quotaB r plan k) 40 0 1000001 = N := ⟨_, rfl⟩
      simp only [hN] at hle
      rw [hN] at hNe hNb
      rw [hNe]
      have HLE := Lib.hid hle
      clear hB hR hle hNe hN hC
      by_cases hz : N = 0
      · subst hz
        go_enter Try.func35, Try.ntmps35
        go_upto_region 2 with (fail)
        rw [HW4.out]
        obtain ⟨d1, d2, d3, d4, d5⟩ := HBX.out _ (Ext.refl _)
        have d4c := d4.cell
        have d4l := d4.lt
        have d1c := d1.cell
        have d1l := d1.lt
        have d3c := d3.cell
        have d3l := d3.lt
        go_wp2_with (first | (go_at_call 50; refine (HRI.out _ (by (with_reducible (repeat (first | exact Ext.refl _ | assumption | apply Ext.alloc | apply Ext.drew | exact ext_plus _ _ | (apply Ext.setCell; rotate_left; (simp <;> omega)) | (apply Ext.trans; rotate_left; exact ext_plus _ _) | (apply Ext.trans; rotate_left; assumption)))))).mono ?_; rintro e w5 ⟨rfl, hb⟩; have hcc := hb.cells.1; have hcs := hb.size) | (go_at_call 64; refine (HIN.out _).mono ?_; rintro e w6 ⟨rfl, rfl⟩) | (go_at_call 65; refine (HLE.out _ (by (with_reducible (repeat (first | exact Ext.refl _ | assumption | apply Ext.alloc | apply Ext.drew | exact ext_plus _ _ | (apply Ext.setCell; rotate_left; (simp <;> omega)) | (apply Ext.trans; rotate_left; exact ext_plus _ _) | (apply Ext.trans; rotate_left; assumption)))))).mono ?_; rintro e w7 ⟨rfl, hb7⟩))
        exact bodyPost_ret (v := .tuple #[.int .i64 0, .int .i64 5]) (by simp [results, Try.results35, go_sem]) rfl ⟨rfl, by (with_reducible (repeat (first | exact Ext.refl _ | assumption | apply Ext.alloc | apply Ext.drew | exact ext_plus _ _ | (apply Ext.setCell; rotate_left; (simp <;> omega)) | (apply Ext.trans; rotate_left; exact ext_plus _ _) | (apply Ext.trans; rotate_left; assumption))))⟩
      · go_enter Try.func35, Try.ntmps35
        go_upto_region 2 with (fail)
        rw [HW4.out]
        obtain ⟨d1, d2, d3, d4, d5⟩ := HBX.out _ (Ext.refl _)
        have d4c := d4.cell
        have d4l := d4.lt
        have d1c := d1.cell
        have d1l := d1.lt
        have d3c := d3.cell
        have d3l := d3.lt
        go_wp2_with (first | (go_at_call 50; refine (HRI.out _ (by (with_reducible (repeat (first | exact Ext.refl _ | assumption | apply Ext.alloc | apply Ext.drew | exact ext_plus _ _ | (apply Ext.setCell; rotate_left; (simp <;> omega)) | (apply Ext.trans; rotate_left; exact ext_plus _ _) | (apply Ext.trans; rotate_left; assumption)))))).mono ?_; rintro e w5 ⟨rfl, hb⟩; have hcc := hb.cells.1; have hcs := hb.size) | (go_at_call 64; refine (HIN.out _).mono ?_; rintro e w6 ⟨rfl, rfl⟩) | (go_at_call 65; refine (HLE.out _ (by (with_reducible (repeat (first | exact Ext.refl _ | assumption | apply Ext.alloc | apply Ext.drew | exact ext_plus _ _ | (apply Ext.setCell; rotate_left; (simp <;> omega)) | (apply Ext.trans; rotate_left; exact ext_plus _ _) | (apply Ext.trans; rotate_left; assumption)))))).mono ?_; rintro e w7 ⟨rfl, hb7⟩))
        exact bodyPost_ret (v := .tuple #[.int .i64 (N - 1), .int .i64 0]) (by simp [results, Try.results35, go_sem]) rfl ⟨by simp [hz], by (with_reducible (repeat (first | exact Ext.refl _ | assumption | apply Ext.alloc | apply Ext.drew | exact ext_plus _ _ | (apply Ext.setCell; rotate_left; (simp <;> omega)) | (apply Ext.trans; rotate_left; exact ext_plus _ _) | (apply Ext.trans; rotate_left; assumption))))⟩
end Go.Proofs.Ythffoglpekpmdaa
