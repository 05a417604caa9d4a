/- The law WallSharp. -/
import Derived.Test.YtmlobiajimlboaaR8
import Derived.Test.YtmlobiajimlboaaR9
namespace Go.Proofs.Ytmlobiajimlboaa
set_option linter.unusedVariables false
set_option linter.unusedSimpArgs false
open Go.RowKit
set_option maxRecDepth 100000 in
set_option maxHeartbeats 4000000 in
theorem wallSharp_law (s : W.Shore) (c : W.Storm) (plan : List Int) (vc vw vp : Value) (w : World) (hC : Cells w vc s.cells) (hW : Works w vw s.works) (hP : Ints w vp plan) :
    Calls Try.prog 8 #[shoreA s vc vw, stormA c, vp] w fun e w' => e = .returned (.bool true) ∧ Ext w w' := by
  have hC' := hC
  have hW' := hW
  have hP' := hP
  obtain ⟨a1, c1, rfl, _⟩ := hC'
  obtain ⟨a2, c2, rfl, _⟩ := hW'
  obtain ⟨a3, c3, rfl, _⟩ := hP'
  have hs := fun w' (hx : Ext w w') => short_any s _ _ w' (hC.ext hx) (hW.ext hx)
  by_cases hsh : shortB s = true ∧ plan.length ≤ 12
  · obtain ⟨h1, h2⟩ := hsh
    rw [h1] at hs
    have HS := Lib.hid hs
    have hn : s.cells.length ≤ 1000000 ∧ s.works.length ≤ 1000000 ∧ s.cells.length ≤ 12 := by simp [shortB] at h1; omega
    obtain ⟨hn, hm, hn12⟩ := hn
    obtain ⟨B, hB⟩ : ∃ B, (W.okB s c && W.planB s plan) = B := ⟨_, rfl⟩
    have hbu := fun w' (hx : Ext w w') => built_any s c plan _ _ _ w' (hC.ext hx) (hW.ext hx) (hP.ext hx) hn hm (by omega)
    rw [hB] at hbu
    have HBU := Lib.hid hbu
    clear hs h1 hbu
    cases B with
    | false =>
      clear hB
      go_enter Try.func8, Try.ntmps8
      go_wp2_with (first | (go_at_call 14; refine (HS.out _ (by (with_reducible (repeat (first | exact Ext.refl _ | assumption | apply Ext.alloc | apply Ext.drew | exact ext_plus _ _ | (apply Ext.setCell; rotate_left; (simp <;> omega)) | (apply Ext.trans; rotate_left; exact ext_plus _ _) | (apply Ext.trans; rotate_left; assumption)))))).mono ?_; rintro e w1 ⟨rfl, hb1⟩; have hc1 := hb1.cells.1; have hz1 := hb1.size; (try simp only [World.size_alloc] at hz1); have p10 : w.heap.size < w1.heap.size := (by omega); have p11 : w.heap.size + 1 < w1.heap.size := (by omega)) | (go_at_call 15; refine (known_any _).mono ?_; rintro e wk ⟨rfl, hbk⟩) | (go_at_call 17; refine (HBU.out _ (by (with_reducible (repeat (first | exact Ext.refl _ | assumption | apply Ext.alloc | apply Ext.drew | exact ext_plus _ _ | (apply Ext.setCell; rotate_left; (simp <;> omega)) | (apply Ext.trans; rotate_left; exact ext_plus _ _) | (apply Ext.trans; rotate_left; assumption)))))).mono ?_; rintro e w2 ⟨rfl, hb2⟩; have hc2 := hb2.cells.1; have hz2 := hb2.size; (try simp only [World.size_alloc] at hz2); have p20 : w.heap.size < w2.heap.size := (by omega); have p21 : w.heap.size + 1 < w2.heap.size := (by omega)))
      all_goals
        go_ret
        exact ⟨rfl, by (with_reducible (repeat (first | exact Ext.refl _ | assumption | apply Ext.alloc | apply Ext.drew | exact ext_plus _ _ | (apply Ext.setCell; rotate_left; (simp <;> omega)) | (apply Ext.trans; rotate_left; exact ext_plus _ _) | (apply Ext.trans; rotate_left; assumption))))⟩
    | true =>
      have hok := hB
      simp only [Bool.and_eq_true] at hok
      have O := W.ok_iff hok.1
      have htw := W.worst_true O
      have htb := W.best_true O
      have k0 : codeOf true = 0 := rfl
      have hwo := fun w' (hx : Ext w w') => worstQ_any s c _ _ w' (hC.ext hx) (hW.ext hx) hn hm
      have ewo : worstOf s c = W.worst s c := by unfold worstOf; rw [hok.1]; rfl
      rw [ewo, hok.1, k0] at hwo
      have hdp := fun w' (hx : Ext w w') => depthsQ_any s c plan _ _ _ w' (hC.ext hx) (hW.ext hx) (hP.ext hx) hn hm (by omega)
      have edp : depths2Of s c plan = (W.play s plan (W.best s c)).zip (W.play s plan (W.worst s c)) := by unfold depths2Of; rw [hB]; rfl
      rw [edp, hB, k0] at hdp
      have hlX : (W.play s plan (W.best s c)).length = s.cells.length := W.depths_len _ _ _ _ _
      have hlZ : (W.play s plan (W.worst s c)).length = s.cells.length := W.depths_len _ _ _ _ _
      have pbW : W.playB s c plan (W.worst s c) = true := by unfold W.playB; rw [hB, htw]; rfl
      have pbB : W.playB s c plan (W.best s c) = true := by unfold W.playB; rw [hB, htb]; rfl
      have hdl : (W.worst s c).drags.length = s.cells.length := by simp [W.worst]
      have hdlb : (W.best s c).drags.length = s.cells.length := by simp [W.best]
      have hpw := fun w' (hx : Ext w w') vd hd => play_any s c plan (W.worst s c) _ _ _ vd w' (hC.ext hx) (hW.ext hx) (hP.ext hx) hd hn hm (by omega) (by omega)
      have hpbb := fun w' (hx : Ext w w') vd hd => play_any s c plan (W.best s c) _ _ _ vd w' (hC.ext hx) (hW.ext hx) (hP.ext hx) hd hn hm (by omega) (by omega)
      have poW : playOf s c plan (W.worst s c) = W.play s plan (W.worst s c) := by unfold playOf; rw [pbW]; rfl
      have poB : playOf s c plan (W.best s c) = W.play s plan (W.best s c) := by unfold playOf; rw [pbB]; rfl
      rw [poW, pbW, k0] at hpw
      rw [poB, pbB, k0] at hpbb
      have htr := fun w' (hx : Ext w w') vd hd => rtruth_any s c (W.worst s c) _ (.slice a2 s.works.length c2) vd w' (hC.ext hx) hd hn (by omega)
      rw [htw] at htr
      have hend := fun w' (hx : Ext w w') => rbest_any s c _ (.slice a2 s.works.length c2) w' (hC.ext hx) hn
      obtain ⟨X, hX⟩ : ∃ X, W.play s plan (W.best s c) = X := ⟨_, rfl⟩
      obtain ⟨Z, hZ⟩ : ∃ Z, W.play s plan (W.worst s c) = Z := ⟨_, rfl⟩
      rw [hX] at hdp hpbb hlX
      rw [hZ] at hdp hpw hlZ
      obtain ⟨TW, hTW⟩ : ∃ TW, W.worst s c = TW := ⟨_, rfl⟩
      obtain ⟨TB, hTB⟩ : ∃ TB, W.best s c = TB := ⟨_, rfl⟩
      rw [hTW] at hwo hpw htr hdl
      rw [hTB] at hpbb hend
      have hlXZ : (X.zip Z).length = s.cells.length := by simp [hlX, hlZ]
      have hd12 : TW.drags.length ≤ 12 := by omega
      have HDL := Lib.hid hdl
      clear hdl
      have HWO := Lib.hid hwo
      have HDP := Lib.hid hdp
      have HPW := Lib.hid hpw
      have HPB := Lib.hid hpbb
      have HTR := Lib.hid htr
      have HEN := Lib.hid hend
      clear hwo hdp hpw hpbb htr hend hX hZ hTW hTB hB hok O htw htb k0 ewo edp pbW pbB poW poB hdlb
      go_enter Try.func8, Try.ntmps8
      go_upto_region 7 with (first | (go_at_call 14; refine (HS.out _ (by (with_reducible (repeat (first | exact Ext.refl _ | assumption | apply Ext.alloc | apply Ext.drew | exact ext_plus _ _ | (apply Ext.setCell; rotate_left; (simp <;> omega)) | (apply Ext.trans; rotate_left; exact ext_plus _ _) | (apply Ext.trans; rotate_left; assumption)))))).mono ?_; rintro e w1 ⟨rfl, hb1⟩; have hc1 := hb1.cells.1; have hz1 := hb1.size; (try simp only [World.size_alloc] at hz1); have p10 : w.heap.size < w1.heap.size := (by omega); have p11 : w.heap.size + 1 < w1.heap.size := (by omega)) | (go_at_call 17; refine (HBU.out _ (by (with_reducible (repeat (first | exact Ext.refl _ | assumption | apply Ext.alloc | apply Ext.drew | exact ext_plus _ _ | (apply Ext.setCell; rotate_left; (simp <;> omega)) | (apply Ext.trans; rotate_left; exact ext_plus _ _) | (apply Ext.trans; rotate_left; assumption)))))).mono ?_; rintro e w2 ⟨rfl, hb2⟩; have hc2 := hb2.cells.1; have hz2 := hb2.size; (try simp only [World.size_alloc] at hz2); have p20 : w.heap.size < w2.heap.size := (by omega); have p21 : w.heap.size + 1 < w2.heap.size := (by omega)) | (go_at_call 36; refine (HWO.out _ (by (with_reducible (repeat (first | exact Ext.refl _ | assumption | apply Ext.alloc | apply Ext.drew | exact ext_plus _ _ | (apply Ext.setCell; rotate_left; (simp <;> omega)) | (apply Ext.trans; rotate_left; exact ext_plus _ _) | (apply Ext.trans; rotate_left; assumption)))))).mono ?_; rintro e w3 ⟨vd, rfl, hvd, hb3⟩; have hvd2 := hvd; obtain ⟨a5, c5, rfl, _⟩ := hvd2; have HVD := Lib.hid hvd; clear hvd; have hbt3 := Blk.new w3 #[.int .i64 TW.wind, .int .i64 TW.fetch, .int .i64 TW.tide, .int .i64 TW.loss, .slice a5 TW.drags.length c5] 32; have hc3 := hb3.cells.1; have hz3 := hb3.size; (try simp only [World.size_alloc] at hz3); have p30 : w.heap.size < w3.heap.size := (by omega); have p31 : w.heap.size + 1 < w3.heap.size := (by omega)) | (go_at_call 18; refine (HTR.out _ (by (with_reducible (repeat (first | exact Ext.refl _ | assumption | apply Ext.alloc | apply Ext.drew | exact ext_plus _ _ | (apply Ext.setCell; rotate_left; (simp <;> omega)) | (apply Ext.trans; rotate_left; exact ext_plus _ _) | (apply Ext.trans; rotate_left; assumption))))) _ (HVD.out.ext (by (with_reducible (repeat (first | exact Ext.refl _ | assumption | apply Ext.alloc | apply Ext.drew | exact ext_plus _ _ | (apply Ext.setCell; rotate_left; (simp <;> omega)) | (apply Ext.trans; rotate_left; exact ext_plus _ _) | (apply Ext.trans; rotate_left; assumption))))))).mono ?_; rintro e w4 ⟨rfl, hb4⟩; have hbt4 := hbt3.ext hb4; have hct4 := hbt4.cell; have hlt4 := hbt4.lt; have hc4 := hb4.cells.1; have hz4 := hb4.size; (try simp only [World.size_alloc] at hz4); have p40 : w.heap.size < w4.heap.size := (by omega); have p41 : w.heap.size + 1 < w4.heap.size := (by omega)) | (go_at_call 21; refine (HDP.out _ (by (with_reducible (repeat (first | exact Ext.refl _ | assumption | apply Ext.alloc | apply Ext.drew | exact ext_plus _ _ | (apply Ext.setCell; rotate_left; (simp <;> omega)) | (apply Ext.trans; rotate_left; exact ext_plus _ _) | (apply Ext.trans; rotate_left; assumption)))))).mono ?_; rintro e w5 ⟨vl, rfl, hvl, hb5⟩; obtain ⟨al, cl, rfl, hxl⟩ := hvl; have HXL := Lib.hid hxl; clear hxl; have hbt5 := hbt4.ext hb5; have hct5 := hbt5.cell; have hlt5 := hbt5.lt; have hc5 := hb5.cells.1; have hz5 := hb5.size; (try simp only [World.size_alloc] at hz5); have p50 : w.heap.size < w5.heap.size := (by omega); have p51 : w.heap.size + 1 < w5.heap.size := (by omega)))
      have hbs5 : Blk w5 w.heap.size #[.slice a1 s.cells.length c1, .slice a2 s.works.length c2, .int .i64 s.reef, .int .i64 s.ll, .int .i64 s.lh] 27 := by
        refine Blk.ext (w := (w.alloc (.cells #[.slice a1 s.cells.length c1, .slice a2 s.works.length c2, .int .i64 s.reef, .int .i64 s.ll, .int .i64 s.lh] 27)).alloc (.cells #[.int .i64 c.wl, .int .i64 c.wh, .int .i64 c.fl, .int .i64 c.fh, .int .i64 c.tl, .int .i64 c.th] 29)) ((Blk.new' rfl _ _).alloc _) ?_
        (with_reducible (repeat (first | exact Ext.refl _ | assumption | apply Ext.alloc | apply Ext.drew | exact ext_plus _ _ | (apply Ext.setCell; rotate_left; (simp <;> omega)) | (apply Ext.trans; rotate_left; exact ext_plus _ _) | (apply Ext.trans; rotate_left; assumption))))
      have hbm5 : Blk w5 (w.heap.size + 1) #[.int .i64 c.wl, .int .i64 c.wh, .int .i64 c.fl, .int .i64 c.fh, .int .i64 c.tl, .int .i64 c.th] 29 := by
        refine Blk.ext (w := (w.alloc (.cells #[.slice a1 s.cells.length c1, .slice a2 s.works.length c2, .int .i64 s.reef, .int .i64 s.ll, .int .i64 s.lh] 27)).alloc (.cells #[.int .i64 c.wl, .int .i64 c.wh, .int .i64 c.fl, .int .i64 c.fh, .int .i64 c.tl, .int .i64 c.th] 29)) (Blk.new' (by simp) _ _) ?_
        (with_reducible (repeat (first | exact Ext.refl _ | assumption | apply Ext.alloc | apply Ext.drew | exact ext_plus _ _ | (apply Ext.setCell; rotate_left; (simp <;> omega)) | (apply Ext.trans; rotate_left; exact ext_plus _ _) | (apply Ext.trans; rotate_left; assumption))))
      have HVD5 := Lib.hid (HVD.out.ext (show Ext w3 w5 by (with_reducible (repeat (first | exact Ext.refl _ | assumption | apply Ext.alloc | apply Ext.drew | exact ext_plus _ _ | (apply Ext.setCell; rotate_left; (simp <;> omega)) | (apply Ext.trans; rotate_left; exact ext_plus _ _) | (apply Ext.trans; rotate_left; assumption))))))
      have hE5 : Ext w w5 := by (with_reducible (repeat (first | exact Ext.refl _ | assumption | apply Ext.alloc | apply Ext.drew | exact ext_plus _ _ | (apply Ext.setCell; rotate_left; (simp <;> omega)) | (apply Ext.trans; rotate_left; exact ext_plus _ _) | (apply Ext.trans; rotate_left; assumption))))
      go_region_held3 (fun y => (∀ o, y.cell? ⟨w.heap.size, o, none⟩ = (#[.slice a1 s.cells.length c1, .slice a2 s.works.length c2, .int .i64 s.reef, .int .i64 s.ll, .int .i64 s.lh] : Array Value)[o]?) ∧ (∀ o, y.cell? ⟨w.heap.size + 1, o, none⟩ = (#[.int .i64 c.wl, .int .i64 c.wh, .int .i64 c.fl, .int .i64 c.fh, .int .i64 c.tl, .int .i64 c.th] : Array Value)[o]?) ∧ Ext w5 y)
        (first | exact ⟨blk_of hbs5 (by (with_reducible (repeat (first | exact Ext.refl _ | assumption | apply Ext.alloc | apply Ext.drew | exact ext_plus _ _ | (apply Ext.setCell; rotate_left; (simp <;> omega)) | (apply Ext.trans; rotate_left; exact ext_plus _ _) | (apply Ext.trans; rotate_left; assumption))))), blk_of hbm5 (by (with_reducible (repeat (first | exact Ext.refl _ | assumption | apply Ext.alloc | apply Ext.drew | exact ext_plus _ _ | (apply Ext.setCell; rotate_left; (simp <;> omega)) | (apply Ext.trans; rotate_left; exact ext_plus _ _) | (apply Ext.trans; rotate_left; assumption))))), by (with_reducible (repeat (first | exact Ext.refl _ | assumption | apply Ext.alloc | apply Ext.drew | exact ext_plus _ _ | (apply Ext.setCell; rotate_left; (simp <;> omega)) | (apply Ext.trans; rotate_left; exact ext_plus _ _) | (apply Ext.trans; rotate_left; assumption))))⟩)
        (first | (go_at_call 37; refine (HEN.out _ (by (with_reducible (repeat (first | exact Ext.refl _ | assumption | apply Ext.alloc | apply Ext.drew | exact ext_plus _ _ | (apply Ext.setCell; rotate_left; (simp <;> omega)) | (apply Ext.trans; rotate_left; exact ext_plus _ _) | (apply Ext.trans; rotate_left; assumption)))))).mono ?_; clear HEN; rintro e y2 ⟨vd2, rfl, hv2, hy2, _⟩) | (go_at_call 16; refine (HPB.out _ (by (with_reducible (repeat (first | exact Ext.refl _ | assumption | apply Ext.alloc | apply Ext.drew | exact ext_plus _ _ | (apply Ext.setCell; rotate_left; (simp <;> omega)) | (apply Ext.trans; rotate_left; exact ext_plus _ _) | (apply Ext.trans; rotate_left; assumption))))) _ hv2).mono ?_; clear HPB; rintro e y4 ⟨v4, rfl, ⟨a4, k4, rfl, hx4⟩, hy4⟩))
      have hEy : Ext w5 y4 := by rename_i hh; exact hh.2.2
      have hXy := hE5.trans hEy
      have hcy4 := hXy.cells.1
      have hzy4 := hXy.size
      have hby4 := hbt5.ext hEy
      have hcb4 := hby4.cell
      have hlb4 := hby4.lt
      have hsy4 := hbs5.ext hEy
      have hcs4 := hsy4.cell
      have hls4 := hsy4.lt
      have hmy4 := hbm5.ext hEy
      have hcm4 := hmy4.cell
      have hlm4 := hmy4.lt
      have HVY := Lib.hid (HVD5.out.ext hEy)
      have HX4 := Lib.hid hx4
      clear hx4 HVD HVD5 hv2
      dsimp only [Exit.then]
      go_wp2_with (first | (go_at_call 16; refine (HPW.out _ (by (with_reducible (repeat (first | exact Ext.refl _ | assumption | apply Ext.alloc | apply Ext.drew | exact ext_plus _ _ | (apply Ext.setCell; rotate_left; (simp <;> omega)) | (apply Ext.trans; rotate_left; exact ext_plus _ _) | (apply Ext.trans; rotate_left; assumption))))) _ HVY.out).mono ?_; rintro e w7 ⟨vz, rfl, hvz, hb7⟩; obtain ⟨az, cz, rfl, hxz⟩ := hvz; have HXZ := Lib.hid hxz; clear hxz; have hsy7 := hsy4.ext hb7; have hcs7 := hsy7.cell; have hls7 := hsy7.lt; have hc7 := hb7.cells.1; have hz7 := hb7.size; (try simp only [World.size_alloc] at hz7); have p70 : w.heap.size < w7.heap.size := (by omega); have p71 : w.heap.size + 1 < w7.heap.size := (by omega)) | (go_at_call 15; refine (known_any _).mono ?_; rintro e wk ⟨rfl, hbk⟩))
      have hgd := span_guard
      have hpc := plus_cell
      go_loopw [15] (fun i wr => ∃ k : Nat, k ≤ s.cells.length ∧ i = .int .i64 k ∧ Ext w7 wr)
        (fun i _ => s.cells.length - (intOf i).toNat)
      case atStart => exact ⟨0, Nat.zero_le _, rfl, Ext.refl _⟩
      case round =>
        obtain ⟨k, hk, rfl, hEk⟩ := hrel
        have hE4 : Ext y4 wr := hb7.trans hEk
        have hE5r : Ext w5 wr := hEy.trans hE4
        have hck := hEk.cells.1
        have hc4 := hE4.cells.1
        have hc5 := hE5r.cells.1
        have hz7 := hEk.size
        have hz4 := hE4.size
        have hz5 := hE5r.size
        by_cases hlt : k < s.cells.length
        · obtain ⟨g4, o4, rfl, hg4, h04⟩ := HX4.out k (by omega)
          obtain ⟨g5, o5, rfl, hg5, h05, h15⟩ := HXL.out k (by omega)
          obtain ⟨g7, o7, rfl, hg7, h07⟩ := HXZ.out k (by omega)
          rw [List.getElem_zip] at h05 h15
          have q4 : g4 < wr.heap.size := by omega
          have q5 : g5 < wr.heap.size := by omega
          have q7 : g7 < wr.heap.size := by omega
          have hcmp : ∀ w : World, (binOp .neq 25 (.agg #[.int .i64 X[k], .int .i64 Z[k]]) (.agg #[.int .i64 X[k], .int .i64 Z[k]])).run Try.prog w = .ok (.bool false) w := fun w => by have := span_neq (X[k], Z[k]) (X[k], Z[k]) w; simpa using this
          go_wp2
          refine wp_region_ext 14 (fun _ _ d _ _ h => by cases d <;> exact h) (by kernel_rfl) (by kernel_rfl) (by kernel_rfl) (by kernel_rfl) ?_
          simp only [List.take_succ_cons, List.take_zero, List.drop_succ_cons, List.drop_zero]
          repeat (any_goals (first | quiet_step (fail) | (refine wpQuiet_step (fun K hK => ?_); go_simp; split <;> (refine hK _ ?_; clear hK K))))
          all_goals (refine wpQuiet_nil ?_; intro w' hE')
          unfold wpList
          go_wp2
          go_roundw
          case rel => exact ⟨k + 1, by omega, by go_num, hEk.trans hE'⟩
          case measure => simp [intOf]; omega
        · have hE0 : Ext w wr := hXy.trans hE4
          clear hE4 hE5r
          go_wp2_with (first | (go_at_call 15; refine (known_any _).mono ?_; rintro e wk ⟨rfl, hbk⟩))
          go_ret
          exact ⟨rfl, hE0.trans hbk⟩
  · have hcs : shortB s = false ∨ (shortB s = true ∧ 12 < plan.length) := by
      cases e : shortB s with
      | false => exact .inl rfl
      | true =>
        rcases Nat.lt_or_ge 12 plan.length with h | h
        · exact .inr ⟨rfl, h⟩
        · exact absurd ⟨e, h⟩ hsh
    clear hsh
    rcases hcs with h1 | ⟨h1, h2⟩
    all_goals
      rw [h1] at hs
      have HS := Lib.hid hs
      clear hs h1
      go_enter Try.func8, Try.ntmps8
      go_wp2_with (first | (go_at_call 14; refine (HS.out _ (by (with_reducible (repeat (first | exact Ext.refl _ | assumption | apply Ext.alloc | apply Ext.drew | exact ext_plus _ _ | (apply Ext.setCell; rotate_left; (simp <;> omega)) | (apply Ext.trans; rotate_left; exact ext_plus _ _) | (apply Ext.trans; rotate_left; assumption)))))).mono ?_; rintro e w1 ⟨rfl, hb1⟩; have hc1 := hb1.cells.1; have hz1 := hb1.size; (try simp only [World.size_alloc] at hz1); have p10 : w.heap.size < w1.heap.size := (by omega); have p11 : w.heap.size + 1 < w1.heap.size := (by omega)) | (go_at_call 15; refine (known_any _).mono ?_; rintro e wk ⟨rfl, hbk⟩))
      all_goals
        go_ret
        exact ⟨rfl, by (with_reducible (repeat (first | exact Ext.refl _ | assumption | apply Ext.alloc | apply Ext.drew | exact ext_plus _ _ | (apply Ext.setCell; rotate_left; (simp <;> omega)) | (apply Ext.trans; rotate_left; exact ext_plus _ _) | (apply Ext.trans; rotate_left; assumption))))⟩
end Go.Proofs.Ytmlobiajimlboaa
