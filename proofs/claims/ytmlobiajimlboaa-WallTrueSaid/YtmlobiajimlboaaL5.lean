/- The law WallTrue. -/
import Derived.Test.YtmlobiajimlboaaPlain6
import Derived.Test.YtmlobiajimlboaaR8
import Derived.Test.YtmlobiajimlboaaR9
namespace Go.Proofs.Ytmlobiajimlboaa
set_option linter.unusedVariables false
set_option linter.unusedSimpArgs false
open Go.RowKit
set_option maxRecDepth 100000 in
set_option maxHeartbeats 4000000 in
theorem wallTrue_law (s : W.Shore) (c : W.Storm) (plan : List Int) (t : W.Truth) (vc vw vp vd : Value) (w : World) (hC : Cells w vc s.cells) (hW : Works w vw s.works) (hP : Ints w vp plan) (hD : Ints w vd t.drags) :
    Calls Try.prog 5 #[shoreA s vc vw, stormA c, vp, truthV t vd] w fun e w' => e = .returned (.bool true) ∧ Ext w w' := by
  have hC' := hC
  have hW' := hW
  have hP' := hP
  have hD' := hD
  obtain ⟨a1, c1, rfl, hx1⟩ := hC'
  obtain ⟨a2, c2, rfl, _⟩ := hW'
  obtain ⟨a3, c3, rfl, _⟩ := hP'
  obtain ⟨a4, c4, rfl, _⟩ := hD'
  have HX1 := Lib.hid hx1
  clear hx1
  have hs := fun w' (hx : Ext w w') => short_any s _ _ w' (hC.ext hx) (hW.ext hx)
  by_cases hsh : shortB s = true ∧ plan.length ≤ 12 ∧ t.drags.length ≤ 12
  · obtain ⟨h1, h2, h3⟩ := hsh
    rw [h1] at hs
    have HS := Lib.hid hs
    have hn : s.cells.length ≤ 1000000 ∧ s.works.length ≤ 1000000 ∧ s.cells.length ≤ 12 := by simp [shortB] at h1; omega
    obtain ⟨hn, hm, hn12⟩ := hn
    obtain ⟨B, hB⟩ : ∃ B, (W.okB s c && W.planB s plan) = B := ⟨_, rfl⟩
    have hbu := fun w' (hx : Ext w w') => built_any s c plan _ _ _ w' (hC.ext hx) (hW.ext hx) (hP.ext hx) hn hm (by omega)
    rw [hB] at hbu
    have HBU := Lib.hid hbu
    have htr := fun w' (hx : Ext w w') => rtruth_any s c t _ (.slice a2 s.works.length c2) _ w' (hC.ext hx) (hD.ext hx) hn (by omega)
    clear hs h1 hbu
    cases B with
    | false =>
      clear hB htr
      go_enter Try.func5, Try.ntmps5
      go_wp2_with (first | (go_at_call 14; refine (HS.out _ (by (with_reducible (repeat (first | exact Ext.refl _ | assumption | apply Ext.alloc | apply Ext.drew | exact ext_plus _ _ | (apply Ext.setCell; rotate_left; (simp <;> omega)) | (apply Ext.trans; rotate_left; exact ext_plus _ _) | (apply Ext.trans; rotate_left; assumption)))))).mono ?_; rintro e w1 ⟨rfl, hb1⟩; have hc1 := hb1.cells.1; have hz1 := hb1.size; (try simp only [World.size_alloc] at hz1); have p10 : w.heap.size < w1.heap.size := (by omega); have p11 : w.heap.size + 1 < w1.heap.size := (by omega); have p12 : w.heap.size + 1 + 1 < w1.heap.size := (by omega)) | (go_at_call 15; refine (known_any _).mono ?_; rintro e wk ⟨rfl, hbk⟩) | (go_at_call 17; refine (HBU.out _ (by (with_reducible (repeat (first | exact Ext.refl _ | assumption | apply Ext.alloc | apply Ext.drew | exact ext_plus _ _ | (apply Ext.setCell; rotate_left; (simp <;> omega)) | (apply Ext.trans; rotate_left; exact ext_plus _ _) | (apply Ext.trans; rotate_left; assumption)))))).mono ?_; rintro e w2 ⟨rfl, hb2⟩; have hc2 := hb2.cells.1; have hz2 := hb2.size; (try simp only [World.size_alloc] at hz2); have p20 : w.heap.size < w2.heap.size := (by omega); have p21 : w.heap.size + 1 < w2.heap.size := (by omega); have p22 : w.heap.size + 1 + 1 < w2.heap.size := (by omega)))
      all_goals
        go_ret
        exact ⟨rfl, by (with_reducible (repeat (first | exact Ext.refl _ | assumption | apply Ext.alloc | apply Ext.drew | exact ext_plus _ _ | (apply Ext.setCell; rotate_left; (simp <;> omega)) | (apply Ext.trans; rotate_left; exact ext_plus _ _) | (apply Ext.trans; rotate_left; assumption))))⟩
    | true =>
      cases hT : W.truthB s c t with
      | false =>
        rw [hT] at htr
        have HTR := Lib.hid htr
        clear hB htr hT
        go_enter Try.func5, Try.ntmps5
        go_wp2_with (first | (go_at_call 14; refine (HS.out _ (by (with_reducible (repeat (first | exact Ext.refl _ | assumption | apply Ext.alloc | apply Ext.drew | exact ext_plus _ _ | (apply Ext.setCell; rotate_left; (simp <;> omega)) | (apply Ext.trans; rotate_left; exact ext_plus _ _) | (apply Ext.trans; rotate_left; assumption)))))).mono ?_; rintro e w1 ⟨rfl, hb1⟩; have hc1 := hb1.cells.1; have hz1 := hb1.size; (try simp only [World.size_alloc] at hz1); have p10 : w.heap.size < w1.heap.size := (by omega); have p11 : w.heap.size + 1 < w1.heap.size := (by omega); have p12 : w.heap.size + 1 + 1 < w1.heap.size := (by omega)) | (go_at_call 15; refine (known_any _).mono ?_; rintro e wk ⟨rfl, hbk⟩) | (go_at_call 17; refine (HBU.out _ (by (with_reducible (repeat (first | exact Ext.refl _ | assumption | apply Ext.alloc | apply Ext.drew | exact ext_plus _ _ | (apply Ext.setCell; rotate_left; (simp <;> omega)) | (apply Ext.trans; rotate_left; exact ext_plus _ _) | (apply Ext.trans; rotate_left; assumption)))))).mono ?_; rintro e w2 ⟨rfl, hb2⟩; have hc2 := hb2.cells.1; have hz2 := hb2.size; (try simp only [World.size_alloc] at hz2); have p20 : w.heap.size < w2.heap.size := (by omega); have p21 : w.heap.size + 1 < w2.heap.size := (by omega); have p22 : w.heap.size + 1 + 1 < w2.heap.size := (by omega)) | (go_at_call 18; refine (HTR.out _ (by (with_reducible (repeat (first | exact Ext.refl _ | assumption | apply Ext.alloc | apply Ext.drew | exact ext_plus _ _ | (apply Ext.setCell; rotate_left; (simp <;> omega)) | (apply Ext.trans; rotate_left; exact ext_plus _ _) | (apply Ext.trans; rotate_left; assumption)))))).mono ?_; rintro e w3 ⟨rfl, hb3⟩; have hc3 := hb3.cells.1; have hz3 := hb3.size; (try simp only [World.size_alloc] at hz3); have p30 : w.heap.size < w3.heap.size := (by omega); have p31 : w.heap.size + 1 < w3.heap.size := (by omega); have p32 : w.heap.size + 1 + 1 < w3.heap.size := (by omega)))
        all_goals
          go_ret
          exact ⟨rfl, by (with_reducible (repeat (first | exact Ext.refl _ | assumption | apply Ext.alloc | apply Ext.drew | exact ext_plus _ _ | (apply Ext.setCell; rotate_left; (simp <;> omega)) | (apply Ext.trans; rotate_left; exact ext_plus _ _) | (apply Ext.trans; rotate_left; assumption))))⟩
      | true =>
        rw [hT] at htr
        have hok := hB
        simp only [Bool.and_eq_true] at hok
        have O := W.ok_iff hok.1
        have T := W.true_iff hT
        have hpl := W.planB_len hok.2
        have k0 : codeOf true = 0 := rfl
        have hdp := fun w' (hx : Ext w w') => depthsQ_any s c plan _ _ _ w' (hC.ext hx) (hW.ext hx) (hP.ext hx) hn hm (by omega)
        have edp : depths2Of s c plan = (W.play s plan (W.best s c)).zip (W.play s plan (W.worst s c)) := by unfold depths2Of; rw [hB]; rfl
        rw [edp, hB, k0] at hdp
        have pbT : W.playB s c plan t = true := by unfold W.playB; rw [hB, hT]; rfl
        have poT : playOf s c plan t = W.play s plan t := by unfold playOf; rw [pbT]; rfl
        have hpt := fun w' (hx : Ext w w') => play_any s c plan t _ _ _ _ w' (hC.ext hx) (hW.ext hx) (hP.ext hx) (hD.ext hx) hn hm (by omega) (by omega)
        rw [poT, pbT, k0] at hpt
        have hlv := fun w' (hx : Ext w w') => levelQ_any s c _ _ w' (hC.ext hx) (hW.ext hx) hn hm
        have el : levelOf s c = (W.level s (W.best s c), W.level s (W.worst s c)) := by unfold levelOf; rw [hok.1]; rfl
        rw [el, hok.1, k0] at hlv
        have hlX : (W.play s plan (W.best s c)).length = s.cells.length := W.depths_len _ _ _ _ _
        have hlY : (W.play s plan (W.worst s c)).length = s.cells.length := W.depths_len _ _ _ _ _
        have hlP : (W.play s plan t).length = s.cells.length := W.depths_len _ _ _ _ _
        have f1 := fun i => W.play_best O T hpl i
        have f2 := fun i => W.play_worst O T hpl i
        have f3 := fun i hi => W.play_bd (plan := plan) O T i hi
        have f4 := (level_bd2 (s := s) O.wind2 O.fetch2 O.tide2 O.loss2)
        have f5 : ∀ (i : Nat) (h : i < s.cells.length), -5000 ≤ s.cells[i].g ∧ s.cells[i].g ≤ 5000 := fun i h => by have := O.cell _ (List.getElem_mem h); omega
        obtain ⟨X, hX⟩ : ∃ X, W.play s plan (W.best s c) = X := ⟨_, rfl⟩
        obtain ⟨Y, hY⟩ : ∃ Y, W.play s plan (W.worst s c) = Y := ⟨_, rfl⟩
        obtain ⟨P, hPP⟩ : ∃ P, W.play s plan t = P := ⟨_, rfl⟩
        obtain ⟨La, hLa⟩ : ∃ x, W.level s (W.best s c) = x := ⟨_, rfl⟩
        obtain ⟨Lb, hLb⟩ : ∃ x, W.level s (W.worst s c) = x := ⟨_, rfl⟩
        rw [hX] at hdp hlX
        rw [hY] at hdp hlY
        rw [hPP] at hpt hlP
        rw [hLa, hLb] at hlv
        rw [hLb] at f4
        simp only [hX, hY, hPP, hLb] at f1 f2 f3
        have hlXY : (X.zip Y).length = s.cells.length := by simp [hlX, hlY]
        have F1 := Lib.hid f1
        have F2 := Lib.hid f2
        have F3 := Lib.hid f3
        have F5 := Lib.hid f5
        have HDP := Lib.hid hdp
        have HPT := Lib.hid hpt
        have HLV := Lib.hid hlv
        have HTR := Lib.hid htr
        clear hdp hpt hlv htr hX hY hPP hLa hLb hB hok O T k0 edp pbT poT el f1 f2 f3 f5 hT hpl
        go_enter Try.func5, Try.ntmps5
        go_upto_region 8 with (first | (go_at_call 14; refine (HS.out _ (by (with_reducible (repeat (first | exact Ext.refl _ | assumption | apply Ext.alloc | apply Ext.drew | exact ext_plus _ _ | (apply Ext.setCell; rotate_left; (simp <;> omega)) | (apply Ext.trans; rotate_left; exact ext_plus _ _) | (apply Ext.trans; rotate_left; assumption)))))).mono ?_; rintro e w1 ⟨rfl, hb1⟩; have hc1 := hb1.cells.1; have hz1 := hb1.size; (try simp only [World.size_alloc] at hz1); have p10 : w.heap.size < w1.heap.size := (by omega); have p11 : w.heap.size + 1 < w1.heap.size := (by omega); have p12 : w.heap.size + 1 + 1 < w1.heap.size := (by omega)) | (go_at_call 17; refine (HBU.out _ (by (with_reducible (repeat (first | exact Ext.refl _ | assumption | apply Ext.alloc | apply Ext.drew | exact ext_plus _ _ | (apply Ext.setCell; rotate_left; (simp <;> omega)) | (apply Ext.trans; rotate_left; exact ext_plus _ _) | (apply Ext.trans; rotate_left; assumption)))))).mono ?_; rintro e w2 ⟨rfl, hb2⟩; have hc2 := hb2.cells.1; have hz2 := hb2.size; (try simp only [World.size_alloc] at hz2); have p20 : w.heap.size < w2.heap.size := (by omega); have p21 : w.heap.size + 1 < w2.heap.size := (by omega); have p22 : w.heap.size + 1 + 1 < w2.heap.size := (by omega)) | (go_at_call 18; refine (HTR.out _ (by (with_reducible (repeat (first | exact Ext.refl _ | assumption | apply Ext.alloc | apply Ext.drew | exact ext_plus _ _ | (apply Ext.setCell; rotate_left; (simp <;> omega)) | (apply Ext.trans; rotate_left; exact ext_plus _ _) | (apply Ext.trans; rotate_left; assumption)))))).mono ?_; rintro e w3 ⟨rfl, hb3⟩; have hc3 := hb3.cells.1; have hz3 := hb3.size; (try simp only [World.size_alloc] at hz3); have p30 : w.heap.size < w3.heap.size := (by omega); have p31 : w.heap.size + 1 < w3.heap.size := (by omega); have p32 : w.heap.size + 1 + 1 < w3.heap.size := (by omega)) | (go_at_call 16; refine (HPT.out _ (by (with_reducible (repeat (first | exact Ext.refl _ | assumption | apply Ext.alloc | apply Ext.drew | exact ext_plus _ _ | (apply Ext.setCell; rotate_left; (simp <;> omega)) | (apply Ext.trans; rotate_left; exact ext_plus _ _) | (apply Ext.trans; rotate_left; assumption)))))).mono ?_; rintro e w4 ⟨vz, rfl, hvz, hb4⟩; obtain ⟨az, cz, rfl, hxz⟩ := hvz; have HXP := Lib.hid hxz; clear hxz; have hc4 := hb4.cells.1; have hz4 := hb4.size; (try simp only [World.size_alloc] at hz4); have p40 : w.heap.size < w4.heap.size := (by omega); have p41 : w.heap.size + 1 < w4.heap.size := (by omega); have p42 : w.heap.size + 1 + 1 < w4.heap.size := (by omega)) | (go_at_call 21; refine (HDP.out _ (by (with_reducible (repeat (first | exact Ext.refl _ | assumption | apply Ext.alloc | apply Ext.drew | exact ext_plus _ _ | (apply Ext.setCell; rotate_left; (simp <;> omega)) | (apply Ext.trans; rotate_left; exact ext_plus _ _) | (apply Ext.trans; rotate_left; assumption)))))).mono ?_; rintro e w5 ⟨vl, rfl, hvl, hb5⟩; obtain ⟨al, cl, rfl, hxl⟩ := hvl; have HXL := Lib.hid hxl; clear hxl; have hc5 := hb5.cells.1; have hz5 := hb5.size; (try simp only [World.size_alloc] at hz5); have p50 : w.heap.size < w5.heap.size := (by omega); have p51 : w.heap.size + 1 < w5.heap.size := (by omega); have p52 : w.heap.size + 1 + 1 < w5.heap.size := (by omega)) | (go_at_call 24; refine (HLV.out _ (by (with_reducible (repeat (first | exact Ext.refl _ | assumption | apply Ext.alloc | apply Ext.drew | exact ext_plus _ _ | (apply Ext.setCell; rotate_left; (simp <;> omega)) | (apply Ext.trans; rotate_left; exact ext_plus _ _) | (apply Ext.trans; rotate_left; assumption)))))).mono ?_; rintro e w6 ⟨rfl, hb6⟩; have hbl6 := Blk.new w6 #[.int .i64 La, .int .i64 Lb] 25; have hc6 := hb6.cells.1; have hz6 := hb6.size; (try simp only [World.size_alloc] at hz6); have p60 : w.heap.size < w6.heap.size := (by omega); have p61 : w.heap.size + 1 < w6.heap.size := (by omega); have p62 : w.heap.size + 1 + 1 < w6.heap.size := (by omega)))
        have hE6 : Ext w w6 := by (with_reducible (repeat (first | exact Ext.refl _ | assumption | apply Ext.alloc | apply Ext.drew | exact ext_plus _ _ | (apply Ext.setCell; rotate_left; (simp <;> omega)) | (apply Ext.trans; rotate_left; exact ext_plus _ _) | (apply Ext.trans; rotate_left; assumption))))
        have hbs6 : Blk w6 w.heap.size #[.slice a1 s.cells.length c1, .slice a2 s.works.length c2, .int .i64 s.reef, .int .i64 s.ll, .int .i64 s.lh] 27 := by
          refine Blk.ext (w := ((w.alloc (.cells #[.slice a1 s.cells.length c1, .slice a2 s.works.length c2, .int .i64 s.reef, .int .i64 s.ll, .int .i64 s.lh] 27)).alloc (.cells #[.int .i64 c.wl, .int .i64 c.wh, .int .i64 c.fl, .int .i64 c.fh, .int .i64 c.tl, .int .i64 c.th] 29)).alloc (.cells #[.int .i64 t.wind, .int .i64 t.fetch, .int .i64 t.tide, .int .i64 t.loss, .slice a4 t.drags.length c4] 32)) (((Blk.new' rfl _ _).alloc _).alloc _) ?_
          clear hE6
          (with_reducible (repeat (first | exact Ext.refl _ | assumption | apply Ext.alloc | apply Ext.drew | exact ext_plus _ _ | (apply Ext.setCell; rotate_left; (simp <;> omega)) | (apply Ext.trans; rotate_left; exact ext_plus _ _) | (apply Ext.trans; rotate_left; assumption))))
        obtain ⟨w7, hw7⟩ : ∃ w7, w6.alloc (.cells #[.int .i64 La, .int .i64 Lb] 25) = w7 := ⟨_, rfl⟩
        have hbl7 : Blk w7 w6.heap.size #[.int .i64 La, .int .i64 Lb] 25 := by rw [← hw7]; exact Blk.new _ _ _
        have hE67 : Ext w6 w7 := by rw [← hw7]; exact (Ext.refl _).alloc _
        have HXP7 := (show Ext w4 w7 by clear hE6; (with_reducible (repeat (first | exact Ext.refl _ | assumption | apply Ext.alloc | apply Ext.drew | exact ext_plus _ _ | (apply Ext.setCell; rotate_left; (simp <;> omega)) | (apply Ext.trans; rotate_left; exact ext_plus _ _) | (apply Ext.trans; rotate_left; assumption)))))
        have HXL7 := (show Ext w5 w7 by clear hE6 HXP7; (with_reducible (repeat (first | exact Ext.refl _ | assumption | apply Ext.alloc | apply Ext.drew | exact ext_plus _ _ | (apply Ext.setCell; rotate_left; (simp <;> omega)) | (apply Ext.trans; rotate_left; exact ext_plus _ _) | (apply Ext.trans; rotate_left; assumption)))))
        rw [hw7]
        have hpc := plus_cell
        have hbs7 := hbs6.ext hE67
        clear hw7
        go_wp2
        go_loopw [15] (fun i wr => ∃ k : Nat, k ≤ s.cells.length ∧ i = .int .i64 k ∧ Ext w7 wr)
          (fun i _ => s.cells.length - (intOf i).toNat)
        case atStart => exact ⟨0, Nat.zero_le _, rfl, Ext.refl _⟩
        case round =>
          obtain ⟨k, hk, rfl, hEk⟩ := hrel
          have hE4 : Ext w4 wr := HXP7.trans hEk
          have hE5 : Ext w5 wr := HXL7.trans hEk
          have hE0 : Ext w wr := hE6.trans (hE67.trans hEk)
          have hc0 := hE0.cells.1
          have hc4 := hE4.cells.1
          have hc5 := hE5.cells.1
          have hz0 := hE0.size
          have hz4 := hE4.size
          have hz5 := hE5.size
          have hblr := hbl7.ext hEk
          have hbsr := hbs7.ext hEk
          have hcbl := hblr.cell
          have hlbl := hblr.lt
          have hcbs := hbsr.cell
          have hlbs := hbsr.lt
          by_cases hlt : k < s.cells.length
          · obtain ⟨g4, o4, rfl, hg4, h04⟩ := HXP.out k (by omega)
            obtain ⟨g5, o5, rfl, hg5, h05, h15⟩ := HXL.out k (by omega)
            obtain ⟨g1, o1, rfl, hg1, hh0, hh1, hh2, hh3⟩ := HX1.out k hlt
            rw [List.getElem_zip] at h05 h15
            have r1 := F1.out k
            have r2 := F2.out k
            have r3 := F3.out k hlt
            have r5 := F5.out k hlt
            have eX : W.nth X k = X[k] := W.nth_get (by omega)
            have eY : W.nth Y k = Y[k] := W.nth_get (by omega)
            have eP : W.nth P k = P[k] := W.nth_get (by omega)
            rw [eX, eP] at r1
            rw [eY, eP] at r2
            rw [eP] at r3
            obtain ⟨x, hx⟩ : ∃ x, X[k] = x := ⟨_, rfl⟩
            obtain ⟨y, hy⟩ : ∃ y, Y[k] = y := ⟨_, rfl⟩
            obtain ⟨z, hz⟩ : ∃ z, P[k] = z := ⟨_, rfl⟩
            obtain ⟨g, hg⟩ : ∃ g, s.cells[k].g = g := ⟨_, rfl⟩
            rw [hx] at r1 h05
            rw [hy] at r2 h15
            rw [hz] at r1 r2 r3 h04
            rw [hg] at r3 r5 hh0
            have HZ := Lib.hid hz
            have q1 : g1 < wr.heap.size := by omega
            have q4 : g4 < wr.heap.size := by omega
            have q5 : g5 < wr.heap.size := by omega
            have hwr : IntKind.wrap .i64 (Lb - g) = Lb - g := IntWalk.i64_in _ (by omega)
            obtain ⟨r30, r31, r32⟩ := r3
            have n1 : ¬ z < x := by omega
            have n2 : ¬ y < z := by omega
            have n3 : ¬ z < 0 := by omega
            have e4 : wr.cell? ⟨g4, o4 + k, none⟩ = some (.int .i64 z) := (hc4 _ _ hg4).trans h04
            have e5 : wr.cell? ⟨g5, o5 + k * 2, none⟩ = some (.int .i64 x) := (hc5 _ _ hg5).trans h05
            have e6 : wr.cell? ⟨g5, o5 + k * 2 + 1, none⟩ = some (.int .i64 y) := (hc5 _ _ hg5).trans h15
            have e1 : wr.cell? ⟨g1, o1 + k * 4, none⟩ = some (.int .i64 g) := (hc0 _ _ hg1).trans hh0
            have HC4 := Lib.hid hc4
            clear hx hy hz hg eX eY eP r1 r2 hh1 hh2 hh3 r5 r32 h04 h05 h15 hh0 hc0 hc4 hc5 hc1 hc2 hc3 hc6 hz0 hz4 hz5 hz1 hz2 hz3 hz6 p10 p11 p12 p20 p21 p22 p30 p31 p32 p40 p41 p42 p50 p51 p52 p60 p61 p62 hb1 hb2 hb3 hb4 hb5 hb6 HS HBU HTR HPT HDP HLV hC hW hP hD hbs6 hbl6 hbl7 hbs7 hE67 hE6 HXP7 HXL7 hE4 hE5 hE0 hblr hbsr f4 HX1 HXL F1 F2 F5 hg1 hg5
            by_cases hz : z = 0
            · subst hz
              by_cases hk0 : 0 < k
              · 
                obtain ⟨j, hj⟩ : ∃ j, k = j + 1 := ⟨k - 1, by omega⟩
                have hkj : (k : Int) - 1 = (j : Int) := by omega
                have hkw : IntKind.wrap .i64 ((k : Int) - 1) = (j : Int) := by rw [hkj]; exact IntWalk.i64_in _ (by omega)
                have hkw2 : wrap64 ((k : Int) - 1) = (j : Int) := by rw [← IntWalk.i64_left]; exact hkw
                have hjn : j < s.cells.length := by omega
                obtain ⟨g4', o4', heq, hg4', h04'⟩ := HXP.out j (by omega)
                cases heq
                obtain ⟨q, hq⟩ : ∃ q, P[j] = q := ⟨_, rfl⟩
                rw [hq] at h04'
                have e7 := (HC4.out _ _ hg4').trans h04'
                clear hq hj h04' hg4' hg4 HXP HC4 F3 HZ
                by_cases hq : q = 0
                · subst hq
                  go_wp2
                  refine wp_region_ext 71 (fun _ _ d _ _ h => by cases d <;> exact h) (by kernel_rfl) (by kernel_rfl) (by kernel_rfl) (by kernel_rfl) ?_
                  simp only [List.take_succ_cons, List.take_zero, List.drop_succ_cons, List.drop_zero]
                  have m0 : ¬ 0 < x := by omega
                  have m1 : ¬ y < 0 := by omega
                  have m2 : 0 < k := by omega
                  repeat (any_goals (first | go_big_quiet_step (fail) | quiet_step (fail)))
                  all_goals (refine wpQuiet_nil ?_; intro w' hE')
                  unfold wpList
                  go_wp2
                  go_roundw
                  case rel => exact ⟨k + 1, by omega, by go_num, hEk.trans hE'⟩
                  case measure => simp [intOf]; omega
                · 
                  go_wp2
                  refine wp_region_ext 71 (fun _ _ d _ _ h => by cases d <;> exact h) (by kernel_rfl) (by kernel_rfl) (by kernel_rfl) (by kernel_rfl) ?_
                  simp only [List.take_succ_cons, List.take_zero, List.drop_succ_cons, List.drop_zero]
                  have m0 : ¬ 0 < x := by omega
                  have m1 : ¬ y < 0 := by omega
                  have m2 : 0 < k := by omega
                  have m3 : ¬ q = 0 := by omega
                  repeat (any_goals (first | go_big_quiet_step (fail) | quiet_step (fail)))
                  all_goals (refine wpQuiet_nil ?_; intro w' hE')
                  unfold wpList
                  go_wp2
                  go_roundw
                  case rel => exact ⟨k + 1, by omega, by go_num, hEk.trans hE'⟩
                  case measure => simp [intOf]; omega
              · 
                go_wp2
                refine wp_region_ext 71 (fun _ _ d _ _ h => by cases d <;> exact h) (by kernel_rfl) (by kernel_rfl) (by kernel_rfl) (by kernel_rfl) ?_
                simp only [List.take_succ_cons, List.take_zero, List.drop_succ_cons, List.drop_zero]
                have m0 : ¬ 0 < x := by omega
                have m1 : ¬ y < 0 := by omega
                have m2 : ¬ 0 < k := by omega
                repeat (any_goals (first | go_big_quiet_step (fail) | quiet_step (fail)))
                all_goals (refine wpQuiet_nil ?_; intro w' hE')
                unfold wpList
                go_wp2
                go_roundw
                case rel => exact ⟨k + 1, by omega, by go_num, hEk.trans hE'⟩
                case measure => simp [intOf]; omega
            · have z1 : 0 < z := by omega
              have n4 : ¬ Lb - g < z := by have := r31 z1; omega
              by_cases hk0 : 0 < k
              · 
                obtain ⟨j, hj⟩ : ∃ j, k = j + 1 := ⟨k - 1, by omega⟩
                have hkj : (k : Int) - 1 = (j : Int) := by omega
                have hkw : IntKind.wrap .i64 ((k : Int) - 1) = (j : Int) := by rw [hkj]; exact IntWalk.i64_in _ (by omega)
                have hkw2 : wrap64 ((k : Int) - 1) = (j : Int) := by rw [← IntWalk.i64_left]; exact hkw
                have hjn : j < s.cells.length := by omega
                obtain ⟨g4', o4', heq, hg4', h04'⟩ := HXP.out j (by omega)
                cases heq
                have r6 := (F3.out j (by omega)).2.2
                have eP : W.nth P j = P[j] := W.nth_get (by omega)
                have eP1 : W.nth P (j + 1) = P[j + 1] := W.nth_get (by omega)
                have eP2 : P[j + 1] = z := by rw [← HZ.out]; congr 1; exact hj.symm
                rw [eP, eP1, eP2] at r6
                obtain ⟨q, hq⟩ : ∃ q, P[j] = q := ⟨_, rfl⟩
                rw [hq] at h04' r6
                have hq0 : ¬ q = 0 := fun e => hz (r6 e)
                have e7 := (HC4.out _ _ hg4').trans h04'
                clear hq eP eP1 r6 hj eP2 h04' hg4' hg4 HXP HC4 F3 HZ
                go_wp2
                refine wp_region_ext 71 (fun _ _ d _ _ h => by cases d <;> exact h) (by kernel_rfl) (by kernel_rfl) (by kernel_rfl) (by kernel_rfl) ?_
                simp only [List.take_succ_cons, List.take_zero, List.drop_succ_cons, List.drop_zero]
                have m0 : ¬ z < x := by omega
                have m1 : ¬ y < z := by omega
                have m2 : ¬ z < 0 := by omega
                have m3 : 0 < z := by omega
                have m4 : ¬ Lb - g < z := by omega
                have m5 : ¬ z = 0 := by omega
                have m6 : 0 < k := by omega
                have m7 : ¬ q = 0 := by omega
                repeat (any_goals (first | go_big_quiet_step (fail) | quiet_step (fail)))
                all_goals (refine wpQuiet_nil ?_; intro w' hE')
                unfold wpList
                go_wp2
                go_roundw
                case rel => exact ⟨k + 1, by omega, by go_num, hEk.trans hE'⟩
                case measure => simp [intOf]; omega
              · 
                go_wp2
                refine wp_region_ext 71 (fun _ _ d _ _ h => by cases d <;> exact h) (by kernel_rfl) (by kernel_rfl) (by kernel_rfl) (by kernel_rfl) ?_
                simp only [List.take_succ_cons, List.take_zero, List.drop_succ_cons, List.drop_zero]
                have m0 : ¬ z < x := by omega
                have m1 : ¬ y < z := by omega
                have m2 : ¬ z < 0 := by omega
                have m3 : 0 < z := by omega
                have m4 : ¬ Lb - g < z := by omega
                have m5 : ¬ z = 0 := by omega
                have m6 : ¬ 0 < k := by omega
                repeat (any_goals (first | go_big_quiet_step (fail) | quiet_step (fail)))
                all_goals (refine wpQuiet_nil ?_; intro w' hE')
                unfold wpList
                go_wp2
                go_roundw
                case rel => exact ⟨k + 1, by omega, by go_num, hEk.trans hE'⟩
                case measure => simp [intOf]; omega
          · go_wp2_with (first | (go_at_call 15; refine (known_any _).mono ?_; rintro e wk ⟨rfl, hbk⟩))
            go_ret
            exact ⟨rfl, hE0.trans hbk⟩
  · have hcs : shortB s = false ∨ (shortB s = true ∧ 12 < plan.length) ∨ (shortB s = true ∧ plan.length ≤ 12 ∧ 12 < t.drags.length) := by
      cases e : shortB s with
      | false => exact .inl rfl
      | true =>
        rcases Nat.lt_or_ge 12 plan.length with h | h
        · exact .inr (.inl ⟨rfl, h⟩)
        · rcases Nat.lt_or_ge 12 t.drags.length with h' | h'
          · exact .inr (.inr ⟨rfl, h, h'⟩)
          · exact absurd ⟨e, h, h'⟩ hsh
    clear hsh
    rcases hcs with h1 | ⟨h1, h2⟩ | ⟨h1, h2, h3⟩
    all_goals
      rw [h1] at hs
      have HS := Lib.hid hs
      clear hs h1
      go_enter Try.func5, Try.ntmps5
      go_wp2_with (first | (go_at_call 14; refine (HS.out _ (by (with_reducible (repeat (first | exact Ext.refl _ | assumption | apply Ext.alloc | apply Ext.drew | exact ext_plus _ _ | (apply Ext.setCell; rotate_left; (simp <;> omega)) | (apply Ext.trans; rotate_left; exact ext_plus _ _) | (apply Ext.trans; rotate_left; assumption)))))).mono ?_; rintro e w1 ⟨rfl, hb1⟩; have hc1 := hb1.cells.1; have hz1 := hb1.size; (try simp only [World.size_alloc] at hz1); have p10 : w.heap.size < w1.heap.size := (by omega); have p11 : w.heap.size + 1 < w1.heap.size := (by omega); have p12 : w.heap.size + 1 + 1 < w1.heap.size := (by omega)) | (go_at_call 15; refine (known_any _).mono ?_; rintro e wk ⟨rfl, hbk⟩))
      all_goals
        go_ret
        exact ⟨rfl, by (with_reducible (repeat (first | exact Ext.refl _ | assumption | apply Ext.alloc | apply Ext.drew | exact ext_plus _ _ | (apply Ext.setCell; rotate_left; (simp <;> omega)) | (apply Ext.trans; rotate_left; exact ext_plus _ _) | (apply Ext.trans; rotate_left; assumption))))⟩
end Go.Proofs.Ytmlobiajimlboaa
