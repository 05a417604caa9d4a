/- The law TopSkies. -/
import Derived.Test.YtgloajbgphcloaaGreatLKa
namespace Go.Proofs.YtgloajbgphcloaaGreat
set_option linter.unusedVariables false
set_option linter.unusedSimpArgs false
open Go.RowKit
set_option maxRecDepth 1000000 in
set_option maxHeartbeats 64000000 in
theorem topSkies_law (i : Ln.Islet) (vw vm : Value) (c : Cl.C.Sys) (vl : Value) (t : Ln.Truth) (vd vr vn : Value) (row : Int) (w : World) (hWe : Ints w vw i.wells) (hMo : Ln.Months w vm i.months) (hL : Cl.Loads w vl c.loads) (hD : Ln.Bools w vd t.dry) (hR : Ints w vr t.rains) (hN : Ints w vn t.needs) :
    Calls Tryz.prog 4 #[.agg (Ln.islV i vw vm), .agg (Cl.sysV c vl), .agg (Ln.trV t vd vr vn), .int .i64 row] w fun e w' => e = .returned (.bool true) ∧ Ext w w' := by
  have HWE := Lib.hid (fun W (hE : Ext w W) => hWe.ext hE)
  have HMO := Lib.hid (fun W (hE : Ext w W) => hMo.ext hE)
  have HLO := Lib.hid (fun W (hE : Ext w W) => hL.ext hE)
  have HDR := Lib.hid (fun W (hE : Ext w W) => hD.ext hE)
  have HRA := Lib.hid (fun W (hE : Ext w W) => hR.ext hE)
  have HNE := Lib.hid (fun W (hE : Ext w W) => hN.ext hE)
  obtain ⟨a1, c1, rfl, _⟩ := hWe
  obtain ⟨a2, c2, rfl, _⟩ := hMo
  obtain ⟨a3, c3, rfl, _⟩ := hL
  obtain ⟨a4, c4, rfl, _⟩ := hD
  obtain ⟨a5, c5, rfl, _⟩ := hR
  obtain ⟨a6, c6, rfl, _⟩ := hN
  obtain ⟨n0, hn0⟩ : ∃ n, w.heap.size = n := ⟨_, rfl⟩
  obtain ⟨w1, hw1⟩ : ∃ w1, ((w.alloc (.cells #[.int .i64 i.cap, .int .i64 i.sl, .int .i64 i.sh, .int .i64 i.roof, .int .i64 i.sand, .int .i64 i.kl, .int .i64 i.kh, .int .i64 i.ll, .int .i64 i.lh, .int .i64 i.pump, .int .i64 i.keep, .int .i64 i.size, .slice a1 i.wells.length c1, .slice a2 i.months.length c2, .int .i64 i.most, .int .i64 i.row] 52)).alloc (.cells #[.int .i64 c.sunny, .int .i64 c.cloudy, .int .i64 c.size, .int .i64 c.fade, .int .i64 c.start, .slice a3 c.loads.length c3, .int .i64 c.days, .int .i64 c.window, .int .i64 c.most, .int .i64 c.panel, .int .i64 c.battery] 55)).alloc (.cells #[.int .i64 t.start, .int .i64 t.soak, .int .i64 t.leak, .slice a4 t.dry.length c4, .slice a5 t.rains.length c5, .slice a6 t.needs.length c6] 58) = w1 := ⟨_, rfl⟩
  have hE1 : Ext w w1 := by rw [← hw1]; (with_reducible (repeat (first | exact Ext.refl _ | assumption | apply Ext.alloc | apply Ext.drew | exact ext_plus _ _ | (apply Ext.setCell; rotate_left; (simp <;> omega)) | (apply Ext.trans; rotate_left; exact ext_plus _ _) | (apply Ext.trans; rotate_left; assumption))))
  have hb0 : Blk w1 n0 #[.int .i64 i.cap, .int .i64 i.sl, .int .i64 i.sh, .int .i64 i.roof, .int .i64 i.sand, .int .i64 i.kl, .int .i64 i.kh, .int .i64 i.ll, .int .i64 i.lh, .int .i64 i.pump, .int .i64 i.keep, .int .i64 i.size, .slice a1 i.wells.length c1, .slice a2 i.months.length c2, .int .i64 i.most, .int .i64 i.row] 52 := by rw [← hw1]; exact ((Blk.new' hn0.symm _ _).alloc _).alloc _
  have hb1 : Blk w1 (n0 + 1) #[.int .i64 c.sunny, .int .i64 c.cloudy, .int .i64 c.size, .int .i64 c.fade, .int .i64 c.start, .slice a3 c.loads.length c3, .int .i64 c.days, .int .i64 c.window, .int .i64 c.most, .int .i64 c.panel, .int .i64 c.battery] 55 := by rw [← hw1]; exact (Blk.new' (by simp [hn0]) _ _).alloc _
  have hb2 : Blk w1 (n0 + 1 + 1) #[.int .i64 t.start, .int .i64 t.soak, .int .i64 t.leak, .slice a4 t.dry.length c4, .slice a5 t.rains.length c5, .slice a6 t.needs.length c6] 58 := by rw [← hw1]; exact Blk.new' (by simp [hn0]) _ _
  have HBX := Lib.hid (fun (y : World) (hy : Ext w1 y) => (⟨hb0.ext hy, hb1.ext hy, hb2.ext hy⟩ : Blk y n0 #[.int .i64 i.cap, .int .i64 i.sl, .int .i64 i.sh, .int .i64 i.roof, .int .i64 i.sand, .int .i64 i.kl, .int .i64 i.kh, .int .i64 i.ll, .int .i64 i.lh, .int .i64 i.pump, .int .i64 i.keep, .int .i64 i.size, .slice a1 i.wells.length c1, .slice a2 i.months.length c2, .int .i64 i.most, .int .i64 i.row] 52 ∧ Blk y (n0 + 1) #[.int .i64 c.sunny, .int .i64 c.cloudy, .int .i64 c.size, .int .i64 c.fade, .int .i64 c.start, .slice a3 c.loads.length c3, .int .i64 c.days, .int .i64 c.window, .int .i64 c.most, .int .i64 c.panel, .int .i64 c.battery] 55 ∧ Blk y (n0 + 1 + 1) #[.int .i64 t.start, .int .i64 t.soak, .int .i64 t.leak, .slice a4 t.dry.length c4, .slice a5 t.rains.length c5, .slice a6 t.needs.length c6] 58))
  have HW1 := Lib.hid hw1
  have HN := Lib.hid hn0
  have HN1 := Lib.hid (show w.heap.size ≤ n0 by omega)
  clear hw1 hn0 hb0 hb1 hb2
  by_cases q1 : i.wells.length ≤ 10
  rotate_left
  · have q1' : (10 : Int) < (i.wells.length : Int) := by omega
    clear q1
    go_enter Tryz.func4, Tryz.ntmps4
    go_upto_region 1 with (fail)
    simp only [HN.out]
    rw [HW1.out]
    obtain ⟨b0, b1, b2⟩ := HBX.out w1 (Ext.refl _)
    have k0 := b0.cell
    have k1 := b0.lt
    have k2 := b1.cell
    have k3 := b1.lt
    have k4 := b2.cell
    have k5 := b2.lt
    clear b0 b1 b2
    go_wp2_with (first | (go_at_call 12; refine (known11_any _).mono ?_; rintro e wk ⟨rfl, hbk⟩))
    all_goals
      go_ret
      exact ⟨rfl, by (with_reducible (repeat (first | exact Ext.refl _ | assumption | apply Ext.alloc | apply Ext.drew | exact ext_plus _ _ | (apply Ext.setCell; rotate_left; (simp <;> omega)) | (apply Ext.trans; rotate_left; exact ext_plus _ _) | (apply Ext.trans; rotate_left; assumption))))⟩
  have q1' : ¬ (10 : Int) < (i.wells.length : Int) := by omega
  by_cases q2 : 2 ≤ i.months.length
  rotate_left
  · have q2' : (i.months.length : Int) < 2 := by omega
    clear q2
    go_enter Tryz.func4, Tryz.ntmps4
    go_upto_region 1 with (fail)
    simp only [HN.out]
    rw [HW1.out]
    obtain ⟨b0, b1, b2⟩ := HBX.out w1 (Ext.refl _)
    have k0 := b0.cell
    have k1 := b0.lt
    have k2 := b1.cell
    have k3 := b1.lt
    have k4 := b2.cell
    have k5 := b2.lt
    clear b0 b1 b2
    go_wp2_with (first | (go_at_call 12; refine (known11_any _).mono ?_; rintro e wk ⟨rfl, hbk⟩))
    all_goals
      go_ret
      exact ⟨rfl, by (with_reducible (repeat (first | exact Ext.refl _ | assumption | apply Ext.alloc | apply Ext.drew | exact ext_plus _ _ | (apply Ext.setCell; rotate_left; (simp <;> omega)) | (apply Ext.trans; rotate_left; exact ext_plus _ _) | (apply Ext.trans; rotate_left; assumption))))⟩
  have q2' : ¬ (i.months.length : Int) < 2 := by omega
  by_cases q3 : i.months.length ≤ 7
  rotate_left
  · have q3' : (7 : Int) < (i.months.length : Int) := by omega
    clear q3
    go_enter Tryz.func4, Tryz.ntmps4
    go_upto_region 1 with (fail)
    simp only [HN.out]
    rw [HW1.out]
    obtain ⟨b0, b1, b2⟩ := HBX.out w1 (Ext.refl _)
    have k0 := b0.cell
    have k1 := b0.lt
    have k2 := b1.cell
    have k3 := b1.lt
    have k4 := b2.cell
    have k5 := b2.lt
    clear b0 b1 b2
    go_wp2_with (first | (go_at_call 12; refine (known11_any _).mono ?_; rintro e wk ⟨rfl, hbk⟩))
    all_goals
      go_ret
      exact ⟨rfl, by (with_reducible (repeat (first | exact Ext.refl _ | assumption | apply Ext.alloc | apply Ext.drew | exact ext_plus _ _ | (apply Ext.setCell; rotate_left; (simp <;> omega)) | (apply Ext.trans; rotate_left; exact ext_plus _ _) | (apply Ext.trans; rotate_left; assumption))))⟩
  have q3' : ¬ (7 : Int) < (i.months.length : Int) := by omega
  by_cases q4 : c.loads.length ≤ 10
  rotate_left
  · have q4' : (10 : Int) < (c.loads.length : Int) := by omega
    clear q4
    go_enter Tryz.func4, Tryz.ntmps4
    go_upto_region 1 with (fail)
    simp only [HN.out]
    rw [HW1.out]
    obtain ⟨b0, b1, b2⟩ := HBX.out w1 (Ext.refl _)
    have k0 := b0.cell
    have k1 := b0.lt
    have k2 := b1.cell
    have k3 := b1.lt
    have k4 := b2.cell
    have k5 := b2.lt
    clear b0 b1 b2
    go_wp2_with (first | (go_at_call 12; refine (known11_any _).mono ?_; rintro e wk ⟨rfl, hbk⟩))
    all_goals
      go_ret
      exact ⟨rfl, by (with_reducible (repeat (first | exact Ext.refl _ | assumption | apply Ext.alloc | apply Ext.drew | exact ext_plus _ _ | (apply Ext.setCell; rotate_left; (simp <;> omega)) | (apply Ext.trans; rotate_left; exact ext_plus _ _) | (apply Ext.trans; rotate_left; assumption))))⟩
  have q4' : ¬ (10 : Int) < (c.loads.length : Int) := by omega
  by_cases q5 : 0 ≤ row
  rotate_left
  · have q5' : row < 0 := by omega
    clear q5
    go_enter Tryz.func4, Tryz.ntmps4
    go_upto_region 1 with (fail)
    simp only [HN.out]
    rw [HW1.out]
    obtain ⟨b0, b1, b2⟩ := HBX.out w1 (Ext.refl _)
    have k0 := b0.cell
    have k1 := b0.lt
    have k2 := b1.cell
    have k3 := b1.lt
    have k4 := b2.cell
    have k5 := b2.lt
    clear b0 b1 b2
    go_wp2_with (first | (go_at_call 12; refine (known11_any _).mono ?_; rintro e wk ⟨rfl, hbk⟩))
    all_goals
      go_ret
      exact ⟨rfl, by (with_reducible (repeat (first | exact Ext.refl _ | assumption | apply Ext.alloc | apply Ext.drew | exact ext_plus _ _ | (apply Ext.setCell; rotate_left; (simp <;> omega)) | (apply Ext.trans; rotate_left; exact ext_plus _ _) | (apply Ext.trans; rotate_left; assumption))))⟩
  have q5' : ¬ row < 0 := by omega
  by_cases q6 : row < (i.months.length : Int)
  rotate_left
  · have q6' : (i.months.length : Int) ≤ row := by omega
    clear q6
    go_enter Tryz.func4, Tryz.ntmps4
    go_upto_region 1 with (fail)
    simp only [HN.out]
    rw [HW1.out]
    obtain ⟨b0, b1, b2⟩ := HBX.out w1 (Ext.refl _)
    have k0 := b0.cell
    have k1 := b0.lt
    have k2 := b1.cell
    have k3 := b1.lt
    have k4 := b2.cell
    have k5 := b2.lt
    clear b0 b1 b2
    go_wp2_with (first | (go_at_call 12; refine (known11_any _).mono ?_; rintro e wk ⟨rfl, hbk⟩))
    all_goals
      go_ret
      exact ⟨rfl, by (with_reducible (repeat (first | exact Ext.refl _ | assumption | apply Ext.alloc | apply Ext.drew | exact ext_plus _ _ | (apply Ext.setCell; rotate_left; (simp <;> omega)) | (apply Ext.trans; rotate_left; exact ext_plus _ _) | (apply Ext.trans; rotate_left; assumption))))⟩
  have q6' : ¬ (i.months.length : Int) ≤ row := by omega
  by_cases q7 : t.dry.length = i.months.length
  rotate_left
  · have q7' : ((t.dry.length : Int) != (i.months.length : Int)) = true := by simpa using (fun e : (t.dry.length : Int) = (i.months.length : Int) => q7 (by omega))
    clear q7
    go_enter Tryz.func4, Tryz.ntmps4
    go_upto_region 1 with (fail)
    simp only [HN.out]
    rw [HW1.out]
    obtain ⟨b0, b1, b2⟩ := HBX.out w1 (Ext.refl _)
    have k0 := b0.cell
    have k1 := b0.lt
    have k2 := b1.cell
    have k3 := b1.lt
    have k4 := b2.cell
    have k5 := b2.lt
    clear b0 b1 b2
    go_wp2_with (first | (go_at_call 12; refine (known11_any _).mono ?_; rintro e wk ⟨rfl, hbk⟩))
    all_goals
      go_ret
      exact ⟨rfl, by (with_reducible (repeat (first | exact Ext.refl _ | assumption | apply Ext.alloc | apply Ext.drew | exact ext_plus _ _ | (apply Ext.setCell; rotate_left; (simp <;> omega)) | (apply Ext.trans; rotate_left; exact ext_plus _ _) | (apply Ext.trans; rotate_left; assumption))))⟩
  have q7' : ((t.dry.length : Int) != (i.months.length : Int)) = false := by rw [q7]; simp
  have Q7 := Lib.hid q7
  clear q7
  by_cases q8 : t.rains.length = i.months.length
  rotate_left
  · have q8' : ((t.rains.length : Int) != (i.months.length : Int)) = true := by simpa using (fun e : (t.rains.length : Int) = (i.months.length : Int) => q8 (by omega))
    clear q8
    go_enter Tryz.func4, Tryz.ntmps4
    go_upto_region 1 with (fail)
    simp only [HN.out]
    rw [HW1.out]
    obtain ⟨b0, b1, b2⟩ := HBX.out w1 (Ext.refl _)
    have k0 := b0.cell
    have k1 := b0.lt
    have k2 := b1.cell
    have k3 := b1.lt
    have k4 := b2.cell
    have k5 := b2.lt
    clear b0 b1 b2
    go_wp2_with (first | (go_at_call 12; refine (known11_any _).mono ?_; rintro e wk ⟨rfl, hbk⟩))
    all_goals
      go_ret
      exact ⟨rfl, by (with_reducible (repeat (first | exact Ext.refl _ | assumption | apply Ext.alloc | apply Ext.drew | exact ext_plus _ _ | (apply Ext.setCell; rotate_left; (simp <;> omega)) | (apply Ext.trans; rotate_left; exact ext_plus _ _) | (apply Ext.trans; rotate_left; assumption))))⟩
  have q8' : ((t.rains.length : Int) != (i.months.length : Int)) = false := by rw [q8]; simp
  have Q8 := Lib.hid q8
  clear q8
  by_cases q9 : t.needs.length = i.months.length
  rotate_left
  · have q9' : ((t.needs.length : Int) != (i.months.length : Int)) = true := by simpa using (fun e : (t.needs.length : Int) = (i.months.length : Int) => q9 (by omega))
    clear q9
    go_enter Tryz.func4, Tryz.ntmps4
    go_upto_region 1 with (fail)
    simp only [HN.out]
    rw [HW1.out]
    obtain ⟨b0, b1, b2⟩ := HBX.out w1 (Ext.refl _)
    have k0 := b0.cell
    have k1 := b0.lt
    have k2 := b1.cell
    have k3 := b1.lt
    have k4 := b2.cell
    have k5 := b2.lt
    clear b0 b1 b2
    go_wp2_with (first | (go_at_call 12; refine (known11_any _).mono ?_; rintro e wk ⟨rfl, hbk⟩))
    all_goals
      go_ret
      exact ⟨rfl, by (with_reducible (repeat (first | exact Ext.refl _ | assumption | apply Ext.alloc | apply Ext.drew | exact ext_plus _ _ | (apply Ext.setCell; rotate_left; (simp <;> omega)) | (apply Ext.trans; rotate_left; exact ext_plus _ _) | (apply Ext.trans; rotate_left; assumption))))⟩
  have q9' : ((t.needs.length : Int) != (i.months.length : Int)) = false := by rw [q9]; simp
  have Q9 := Lib.hid q9
  clear q9
  go_enter Tryz.func4, Tryz.ntmps4
  go_upto_region 1 with (fail)
  simp only [HN.out]
  rw [HW1.out]
  obtain ⟨b0, b1, b2⟩ := HBX.out w1 (Ext.refl _)
  have k0 := b0.cell
  have k1 := b0.lt
  have k2 := b1.cell
  have k3 := b1.lt
  have k4 := b2.cell
  have k5 := b2.lt
  clear b0 b1 b2
  go_upto_if 70 with (fail)
  rename Act → World → Prop => KK
  rename ∀ _ _, _ → KK _ _ => hKK
  have HKK := Lib.hid hKK
  clear hKK
  go_wp2
  exact HKK.out _ _ (sky_tail3 (w := w) (w1 := w1) w1 HWE HMO HLO HDR HRA HNE HBX (Ext.refl _) hE1 q1 q2 q3 q4 q5 q6 Q7.out Q8.out Q9.out HN1.out)
end Go.Proofs.YtgloajbgphcloaaGreat
