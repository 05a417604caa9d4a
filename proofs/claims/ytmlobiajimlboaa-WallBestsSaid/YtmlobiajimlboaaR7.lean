/- The document's definition: the bounds of the depths. -/
import Derived.Test.YtmlobiajimlboaaR6
import Derived.Test.YtmlobiajimlboaaD5
namespace Go.Proofs.Ytmlobiajimlboaa
set_option linter.unusedVariables false
set_option linter.unusedSimpArgs false
open Go.RowKit
set_option maxRecDepth 100000 in
set_option maxHeartbeats 4000000 in
theorem rdepths_any (s : W.Shore) (c : W.Storm) (plan : List Int) (vc vw vp : Value) (w : World) (hok : (W.okB s c && W.planB s plan) = true) (hC : Cells w vc s.cells) (hW : Works w vw s.works) (hP : Ints w vp plan) :
    Calls Try.prog 23 #[shoreA s vc vw, stormA c, vp] w fun e w' => ∃ v, e = .returned v ∧ Spans w' v (depths2 s c plan) ∧ Ext w w' := by
  have hC' := hC
  have hW' := hW
  have hP' := hP
  obtain ⟨a1, c1, rfl, _⟩ := hC'
  obtain ⟨a2, c2, rfl, _⟩ := hW'
  obtain ⟨a3, c3, rfl, _⟩ := hP'
  have SB := sound_best hok
  have SW := sound_worst hok
  have hn := SB.cs
  have HB := Lib.hid (fun w' (hx : Ext w w') => rbest_any s c _ (.slice a2 s.works.length c2) w' (hC.ext hx) hn)
  have HW := Lib.hid (fun w' (hx : Ext w w') => rworst_any s c _ (.slice a2 s.works.length c2) w' (hC.ext hx) hn)
  have HDB := Lib.hid (fun w' (hx : Ext w w') vd hd => rplay_any s plan (W.best s c) _ _ _ vd w' SB (hC.ext hx) (hW.ext hx) (hP.ext hx) hd)
  have HDW := Lib.hid (fun w' (hx : Ext w w') vd hd => rplay_any s plan (W.worst s c) _ _ _ vd w' SW (hC.ext hx) (hW.ext hx) (hP.ext hx) hd)
  clear hok SB SW
  go_enter Try.func23, Try.ntmps23
  go_wp2
  obtain ⟨w1, hw1⟩ : ∃ w1, (w.alloc (.cells #[.slice a1 s.cells.length c1, .slice a2 s.works.length c2, .int .i64 s.reef, .int .i64 s.ll, .int .i64 s.lh] 27)).alloc (.cells #[.int .i64 c.wl, .int .i64 c.wh, .int .i64 c.fl, .int .i64 c.fh, .int .i64 c.tl, .int .i64 c.th] 29) = w1 := ⟨_, rfl⟩
  have hb8 : Blk w1 w.heap.size #[.slice a1 s.cells.length c1, .slice a2 s.works.length c2, .int .i64 s.reef, .int .i64 s.ll, .int .i64 s.lh] 27 := by rw [← hw1]; exact (Blk.new' rfl _ _).alloc _
  have hb9 : Blk w1 (w.heap.size + 1) #[.int .i64 c.wl, .int .i64 c.wh, .int .i64 c.fl, .int .i64 c.fh, .int .i64 c.tl, .int .i64 c.th] 29 := by rw [← hw1]; exact Blk.new' (by simp) _ _
  have hE1 : Ext w w1 := by rw [← hw1]; (with_reducible (repeat (first | exact Ext.refl _ | assumption | apply Ext.alloc | apply Ext.drew | exact ext_plus _ _ | (apply Ext.setCell; rotate_left; (simp <;> omega)) | (apply Ext.trans; rotate_left; exact ext_plus _ _) | (apply Ext.trans; rotate_left; assumption))))
  rw [hw1]
  go_region_held3 (fun y => (∀ o, y.cell? ⟨w.heap.size, o, none⟩ = (#[.slice a1 s.cells.length c1, .slice a2 s.works.length c2, .int .i64 s.reef, .int .i64 s.ll, .int .i64 s.lh] : Array Value)[o]?) ∧ (∀ o, y.cell? ⟨w.heap.size + 1, o, none⟩ = (#[.int .i64 c.wl, .int .i64 c.wh, .int .i64 c.fl, .int .i64 c.fh, .int .i64 c.tl, .int .i64 c.th] : Array Value)[o]?) ∧ Ext w1 y)
    (first | exact ⟨blk_of hb8 (by (with_reducible (repeat (first | exact Ext.refl _ | assumption | apply Ext.alloc | apply Ext.drew | exact ext_plus _ _ | (apply Ext.setCell; rotate_left; (simp <;> omega)) | (apply Ext.trans; rotate_left; exact ext_plus _ _) | (apply Ext.trans; rotate_left; assumption))))), blk_of hb9 (by (with_reducible (repeat (first | exact Ext.refl _ | assumption | apply Ext.alloc | apply Ext.drew | exact ext_plus _ _ | (apply Ext.setCell; rotate_left; (simp <;> omega)) | (apply Ext.trans; rotate_left; exact ext_plus _ _) | (apply Ext.trans; rotate_left; assumption))))), by (with_reducible (repeat (first | exact Ext.refl _ | assumption | apply Ext.alloc | apply Ext.drew | exact ext_plus _ _ | (apply Ext.setCell; rotate_left; (simp <;> omega)) | (apply Ext.trans; rotate_left; exact ext_plus _ _) | (apply Ext.trans; rotate_left; assumption))))⟩)
    (first | (go_at_call 37; refine (HB.out _ (by (with_reducible (repeat (first | exact Ext.refl _ | assumption | apply Ext.alloc | apply Ext.drew | exact ext_plus _ _ | (apply Ext.setCell; rotate_left; (simp <;> omega)) | (apply Ext.trans; rotate_left; exact ext_plus _ _) | (apply Ext.trans; rotate_left; assumption)))))).mono ?_; clear HB; rintro e y1 ⟨vd1, rfl, hv1, hy1, _⟩) | (go_at_call 37; refine (HW.out _ (by (with_reducible (repeat (first | exact Ext.refl _ | assumption | apply Ext.alloc | apply Ext.drew | exact ext_plus _ _ | (apply Ext.setCell; rotate_left; (simp <;> omega)) | (apply Ext.trans; rotate_left; exact ext_plus _ _) | (apply Ext.trans; rotate_left; assumption)))))).mono ?_; clear HW; rintro e y2 ⟨vd2, rfl, hv2, hy2, _⟩) | (go_at_call 20; refine (HDB.out _ (by (with_reducible (repeat (first | exact Ext.refl _ | assumption | apply Ext.alloc | apply Ext.drew | exact ext_plus _ _ | (apply Ext.setCell; rotate_left; (simp <;> omega)) | (apply Ext.trans; rotate_left; exact ext_plus _ _) | (apply Ext.trans; rotate_left; assumption))))) _ hv1).mono ?_; clear HDB; rintro e y3 ⟨v3, rfl, hv3, hy3, _⟩) | (go_at_call 20; refine (HDW.out _ (by (with_reducible (repeat (first | exact Ext.refl _ | assumption | apply Ext.alloc | apply Ext.drew | exact ext_plus _ _ | (apply Ext.setCell; rotate_left; (simp <;> omega)) | (apply Ext.trans; rotate_left; exact ext_plus _ _) | (apply Ext.trans; rotate_left; assumption))))) _ hv2).mono ?_; clear HDW; rintro e y4 ⟨v4, rfl, hv4, hy4, _⟩))
  clear hb8 hb9 hw1
  have hEy : Ext w y4 := by rename_i hh; exact hE1.trans hh.2.2
  have hX3 := hv3.ext (hy2.trans hy4)
  obtain ⟨X, hX⟩ : ∃ X, W.play s plan (W.best s c) = X := ⟨_, rfl⟩
  obtain ⟨Z, hZ⟩ : ∃ Z, W.play s plan (W.worst s c) = Z := ⟨_, rfl⟩
  have hlX : X.length = s.cells.length := by rw [← hX]; exact W.depths_len _ _ _ _ _
  have hlZ : Z.length = s.cells.length := by rw [← hZ]; exact W.depths_len _ _ _ _ _
  have ed2 : depths2 s c plan = X.zip Z := by unfold depths2; rw [hX, hZ]
  rw [hX] at hX3
  rw [hZ] at hv4
  have HED := Lib.hid ed2
  have hlXZ : (X.zip Z).length = s.cells.length := by simp [hlX, hlZ]
  have HLX := Lib.hid hlX
  have HLZ := Lib.hid hlZ
  have HLXZ := Lib.hid hlXZ
  have hnX : X.length ≤ 1000000 := by omega
  clear hlX hlZ hlXZ ed2 hX hZ hv3 hv2 hv1
  obtain ⟨b3, k3, rfl, hx3⟩ := hX3
  obtain ⟨b4, k4, rfl, hx4⟩ := hv4
  have HX3 := Lib.hid hx3
  have HX4 := Lib.hid hx4
  clear hx3 hx4
  obtain ⟨i0, hi, hz0, hz1, hz2⟩ := info_parts span_info
  have hpc := plus_cell
  dsimp only [Exit.then]
  go_wp2
  go_loopw [9, 10] (fun v i wr => ∃ k : Nat, k ≤ X.length ∧ i = .int .i64 k ∧ wr.ownsRow y4.heap.size 25 2 v k (preS spanC (X.zip Z) k) ∧ Ext y4 wr)
    (fun _ i _ => X.length - (intOf i).toNat)
  case atStart => exact ⟨0, Nat.zero_le _, rfl, World.ownsRow_nil _ _ _ _, Ext.refl _⟩
  case round =>
    obtain ⟨k, hk, rfl, hown, hEk⟩ := hrel
    have hcy := hEk.cells.1
    by_cases hlt : k < X.length
    · have hlt4 : k < Z.length := by have := HLX.out; have := HLZ.out; omega
      have hltz : k < (X.zip Z).length := by have := HLX.out; have := HLXZ.out; omega
      obtain ⟨g3, o3, rfl, hg3, h03⟩ := HX3.out k hlt
      obtain ⟨g4, o4, rfl, hg4, h04⟩ := HX4.out k hlt4
      have hsz := hEk.size
      have q0 : g3 < wr.heap.size := by omega
      have q1 : g4 < wr.heap.size := by omega
      go_wp2
      refine wp_region_ext 10 (fun _ _ d _ _ h => by cases d <;> exact h) (by kernel_rfl) (by kernel_rfl) (by kernel_rfl) (by kernel_rfl) ?_
      simp only [List.take_succ_cons, List.take_zero, List.drop_succ_cons, List.drop_zero]
      repeat (any_goals (first | quiet_step (fail) | (refine wpQuiet_step (fun K hK => ?_); go_simp; split <;> (refine hK _ ?_; clear hK K))))
      all_goals (refine wpQuiet_nil ?_; intro w2 hE2)
      have hE2s := hE2.size
      go_wp2_with (first | (at_builtin; refine wpList_append_own _ rfl _ _ 43 rfl (y4.heap.size) 25 i0 (.agg #[.int .i64 0, .int .i64 0]) 2 16 Try.underlying43 hi hz0 hz1 hz2 rfl (by decide) _ _ _ rfl ((own_ext hown hE2).alloc _) ⟨w2.heap.size, 0, none⟩ 1 1 [.int .i64 X[k], .int .i64 Z[k]] rfl rfl (cell_two _ _ _ _ (by simp)) (two_ints _ _) (by unfold maxLen; omega) (by omega) (by simp <;> omega) ?_; intro v' w1 hown' hgrow _; obtain ⟨g', cap', rfl⟩ := own_succ hown'))
      go_roundw
      case rel =>
        refine ⟨k + 1, by omega, by go_num, ?_, ((hEk.trans hE2).alloc _).grown hgrow (own_base hown)⟩
        rw [preS_succ _ _ hltz]
        have e : spanC (X.zip Z)[k] = [.int .i64 X[k], .int .i64 Z[k]] := by simp [spanC]
        rw [e]
        exact hown'
      case measure => simp [intOf]; omega
    · obtain ⟨av, cv, rfl⟩ := own_slice hown
      go_wp2
      have e : k = (X.zip Z).length := by have := HLX.out; have := HLXZ.out; omega
      subst e
      rw [preS_all] at hown
      refine bodyPost_ret (v := .slice av (X.zip Z).length cv) (by simp [results, Try.results23, go_sem]) rfl ⟨_, rfl, ?_, hEy.trans hEk⟩
      rw [HED.out]
      exact Spans.of_own hown
end Go.Proofs.Ytmlobiajimlboaa
