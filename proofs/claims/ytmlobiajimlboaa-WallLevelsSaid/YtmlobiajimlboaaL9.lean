/- The law WallLevels. -/
import Derived.Test.YtmlobiajimlboaaR8
import Derived.Test.YtmlobiajimlboaaR9
namespace Go.Proofs.Ytmlobiajimlboaa
set_option linter.unusedVariables false
set_option linter.unusedSimpArgs false
open Go.RowKit
theorem span_eql (x y : Int × Int) (w : World) : (binOp .eql 25 (.agg #[.int .i64 x.1, .int .i64 x.2]) (.agg #[.int .i64 y.1, .int .i64 y.2])).run Try.prog w = .ok (.bool (decide (x = y))) w := by
  rw [run_eql_struct, run_equalIn_agg w 9999 _ _ _ (by kernel_rfl) (by kernel_rfl)]
  have hu := Try.underlying25
  have hi := Try.underlying3
  have hp : ∀ (a b : Value) (w : World), (part 3 #[a, b] 0).run Try.prog w = .ok a w := fun _ _ _ => by kernel_rfl
  have hq : ∀ (a b : Value) (w : World), (part 3 #[a, b] 1).run Try.prog w = .ok b w := fun _ _ _ => by kernel_rfl
  simp only [Program.fieldsOf, hu, Op.eqFields]
  by_cases h1 : x.1 = y.1
  · by_cases h2 : x.2 = y.2
    · have e : x = y := Prod.ext h1 h2
      subst e
      simp [hp, hq, run_equalIn_int w 9998 _ _ _ _ _ hi, Op.eqFields, Result.andThen]
    · have e : ¬ x = y := fun e => h2 (by rw [e])
      simp [hp, hq, run_equalIn_int w 9998 _ _ _ _ _ hi, h1, h2, e, Op.eqFields, Result.andThen]
  · have e : ¬ x = y := fun e => h1 (by rw [e])
    simp [hp, hq, run_equalIn_int w 9998 _ _ _ _ _ hi, h1, e, Op.eqFields, Result.andThen]
theorem span_same (x y : Int) (w : World) : (binOp .eql 25 (.agg #[.int .i64 x, .int .i64 y]) (.agg #[.int .i64 x, .int .i64 y])).run Try.prog w = .ok (.bool true) w := by
  have := span_eql (x, y) (x, y) w; simpa using this
set_option maxRecDepth 100000 in
set_option maxHeartbeats 4000000 in
theorem wallLevels_law (s : W.Shore) (c : W.Storm) (vc vw : Value) (w : World) (hC : Cells w vc s.cells) (hW : Works w vw s.works) :
    Calls Try.prog 9 #[shoreA s vc vw, stormA c] w fun e w' => e = .returned (.bool true) ∧ Ext w w' := by
  have hC' := hC
  have hW' := hW
  obtain ⟨a1, c1, rfl, _⟩ := hC'
  obtain ⟨a2, c2, rfl, _⟩ := hW'
  have hs := fun w' (hx : Ext w w') => short_any s _ _ w' (hC.ext hx) (hW.ext hx)
  by_cases h1 : shortB s = true
  · rw [h1] at hs
    have HS := Lib.hid hs
    have hn : s.cells.length ≤ 1000000 ∧ s.works.length ≤ 1000000 ∧ s.cells.length ≤ 12 := by simp [shortB] at h1; omega
    obtain ⟨hn, hm, hn12⟩ := hn
    have hck := fun w' (hx : Ext w w') => check_any s c _ _ w' (hC.ext hx) (hW.ext hx) hn hm
    have hlv := fun w' (hx : Ext w w') => levelQ_any s c _ _ w' (hC.ext hx) (hW.ext hx) hn hm
    have hwo := fun w' (hx : Ext w w') => worstQ_any s c _ _ w' (hC.ext hx) (hW.ext hx) hn hm
    have hsh := fun w' (hx : Ext w w') => rshore_any s _ _ w' (hC.ext hx) (hW.ext hx) hn hm
    have hst := fun w' (hx : Ext w w') => rstorm_any c w'
    change ∀ w' : World, Ext w w' → _ at hst
    have hok : W.okB s c = (W.shoreB s && W.stormB c) := rfl
    have k0 : codeOf true = 0 := rfl
    have k2 : codeOf false = 2 := rfl
    have hcm0 := span_same 0 0
    clear h1 hs
    cases hSB : W.shoreB s with
    | false =>
      have hB : W.okB s c = false := by rw [hok, hSB]; rfl
      have el : levelOf s c = (0, 0) := by unfold levelOf; rw [hB]; rfl
      have ew : worstOf s c = zeroTruth := by unfold worstOf; rw [hB]; rfl
      rw [hB] at hck hlv hwo
      rw [el, k2] at hlv
      rw [ew, k2] at hwo
      rw [hSB] at hsh
      have HCK := Lib.hid hck
      have HLV := Lib.hid hlv
      have HWO := Lib.hid hwo
      have HSH := Lib.hid hsh
      clear hck hlv hwo hsh hst hok k0 k2 hSB hB el ew
      go_enter Try.func9, Try.ntmps9
      go_wp2_with (first | (go_at_call 14; refine (HS.out _ (by (with_reducible (repeat (first | exact Ext.refl _ | assumption | apply Ext.alloc | apply Ext.drew | exact ext_plus _ _ | (apply Ext.setCell; rotate_left; (simp <;> omega)) | (apply Ext.trans; rotate_left; exact ext_plus _ _) | (apply Ext.trans; rotate_left; assumption)))))).mono ?_; rintro e w1 ⟨rfl, hb1⟩; clear HS; have hc1 := hb1.cells.1; have hz1 := hb1.size; (try simp only [World.size_alloc] at hz1); have p10 : w.heap.size < w1.heap.size := (by omega); have p11 : w.heap.size + 1 < w1.heap.size := (by omega)) | (go_at_call 38; refine (HCK.out _ (by (with_reducible (repeat (first | exact Ext.refl _ | assumption | apply Ext.alloc | apply Ext.drew | exact ext_plus _ _ | (apply Ext.setCell; rotate_left; (simp <;> omega)) | (apply Ext.trans; rotate_left; exact ext_plus _ _) | (apply Ext.trans; rotate_left; assumption)))))).mono ?_; rintro e w2 ⟨rfl, hb2⟩; clear HCK; have hc2 := hb2.cells.1; have hz2 := hb2.size; (try simp only [World.size_alloc] at hz2); have p20 : w.heap.size < w2.heap.size := (by omega); have p21 : w.heap.size + 1 < w2.heap.size := (by omega)) | (go_at_call 24; refine (HLV.out _ (by (with_reducible (repeat (first | exact Ext.refl _ | assumption | apply Ext.alloc | apply Ext.drew | exact ext_plus _ _ | (apply Ext.setCell; rotate_left; (simp <;> omega)) | (apply Ext.trans; rotate_left; exact ext_plus _ _) | (apply Ext.trans; rotate_left; assumption)))))).mono ?_; rintro e w3 ⟨rfl, hb3⟩; clear HLV; have hbl3 := Blk.new w3 #[.int .i64 (0 : Int), .int .i64 (0 : Int)] 25; have hc3 := hb3.cells.1; have hz3 := hb3.size; (try simp only [World.size_alloc] at hz3); have p30 : w.heap.size < w3.heap.size := (by omega); have p31 : w.heap.size + 1 < w3.heap.size := (by omega)) | (go_at_call 36; refine (HWO.out _ (by (with_reducible (repeat (first | exact Ext.refl _ | assumption | apply Ext.alloc | apply Ext.drew | exact ext_plus _ _ | (apply Ext.setCell; rotate_left; (simp <;> omega)) | (apply Ext.trans; rotate_left; exact ext_plus _ _) | (apply Ext.trans; rotate_left; assumption)))))).mono ?_; rintro e w4 ⟨vd, rfl, hvd, hb4⟩; clear HWO; have hvd2 := hvd; obtain ⟨a5, c5, rfl, _⟩ := hvd2; have HVD := Lib.hid hvd; clear hvd; have hbl4 := hbl3.ext hb4; have hbt4 := Blk.new w4 #[.int .i64 0, .int .i64 0, .int .i64 0, .int .i64 0, .slice a5 zeroTruth.drags.length c5] 32; have hc4 := hb4.cells.1; have hz4 := hb4.size; (try simp only [World.size_alloc] at hz4); have p40 : w.heap.size < w4.heap.size := (by omega); have p41 : w.heap.size + 1 < w4.heap.size := (by omega)) | (go_at_call 25; refine (HSH.out _ (by (with_reducible (repeat (first | exact Ext.refl _ | assumption | apply Ext.alloc | apply Ext.drew | exact ext_plus _ _ | (apply Ext.setCell; rotate_left; (simp <;> omega)) | (apply Ext.trans; rotate_left; exact ext_plus _ _) | (apply Ext.trans; rotate_left; assumption)))))).mono ?_; rintro e w5 ⟨rfl, hb5⟩; clear HSH; have hbl5 := (hbl4.alloc _).ext hb5; have hbt5 := hbt4.ext hb5; have hcl5 := hbl5.cell; have hll5 := hbl5.lt; have hct5 := hbt5.cell; have hlt5 := hbt5.lt; have hc5 := hb5.cells.1; have hz5 := hb5.size; (try simp only [World.size_alloc] at hz5); have p50 : w.heap.size < w5.heap.size := (by omega); have p51 : w.heap.size + 1 < w5.heap.size := (by omega)) | (go_at_call 39; refine (sameTruth_true zeroTruth _ _ _ (HVD.out.ext (by (with_reducible (repeat (first | exact Ext.refl _ | assumption | apply Ext.alloc | apply Ext.drew | exact ext_plus _ _ | (apply Ext.setCell; rotate_left; (simp <;> omega)) | (apply Ext.trans; rotate_left; exact ext_plus _ _) | (apply Ext.trans; rotate_left; assumption)))))) (Ints.nil _) (by decide)).mono ?_; rintro e w7 ⟨rfl, hb7⟩; have hc7 := hb7.cells.1; have hz7 := hb7.size; (try simp only [World.size_alloc] at hz7); have p70 : w.heap.size < w7.heap.size := (by omega); have p71 : w.heap.size + 1 < w7.heap.size := (by omega)) | (go_at_call 15; refine (known_any _).mono ?_; rintro e wk ⟨rfl, hbk⟩))
      all_goals
        go_ret
        exact ⟨rfl, by (with_reducible (repeat (first | exact Ext.refl _ | assumption | apply Ext.alloc | apply Ext.drew | exact ext_plus _ _ | (apply Ext.setCell; rotate_left; (simp <;> omega)) | (apply Ext.trans; rotate_left; exact ext_plus _ _) | (apply Ext.trans; rotate_left; assumption))))⟩
    | true =>
      cases hTB : W.stormB c with
      | false =>
        have hB : W.okB s c = false := by rw [hok, hTB]; simp
        have el : levelOf s c = (0, 0) := by unfold levelOf; rw [hB]; rfl
        have ew : worstOf s c = zeroTruth := by unfold worstOf; rw [hB]; rfl
        rw [hB] at hck hlv hwo
        rw [el, k2] at hlv
        rw [ew, k2] at hwo
        rw [hSB] at hsh
        rw [hTB] at hst
        have HCK := Lib.hid hck
        have HLV := Lib.hid hlv
        have HWO := Lib.hid hwo
        have HSH := Lib.hid hsh
        have HST := Lib.hid hst
        clear hck hlv hwo hsh hst hok k0 k2 hSB hTB hB el ew
        go_enter Try.func9, Try.ntmps9
        go_wp2_with (first | (go_at_call 14; refine (HS.out _ (by (with_reducible (repeat (first | exact Ext.refl _ | assumption | apply Ext.alloc | apply Ext.drew | exact ext_plus _ _ | (apply Ext.setCell; rotate_left; (simp <;> omega)) | (apply Ext.trans; rotate_left; exact ext_plus _ _) | (apply Ext.trans; rotate_left; assumption)))))).mono ?_; rintro e w1 ⟨rfl, hb1⟩; clear HS; have hc1 := hb1.cells.1; have hz1 := hb1.size; (try simp only [World.size_alloc] at hz1); have p10 : w.heap.size < w1.heap.size := (by omega); have p11 : w.heap.size + 1 < w1.heap.size := (by omega)) | (go_at_call 38; refine (HCK.out _ (by (with_reducible (repeat (first | exact Ext.refl _ | assumption | apply Ext.alloc | apply Ext.drew | exact ext_plus _ _ | (apply Ext.setCell; rotate_left; (simp <;> omega)) | (apply Ext.trans; rotate_left; exact ext_plus _ _) | (apply Ext.trans; rotate_left; assumption)))))).mono ?_; rintro e w2 ⟨rfl, hb2⟩; clear HCK; have hc2 := hb2.cells.1; have hz2 := hb2.size; (try simp only [World.size_alloc] at hz2); have p20 : w.heap.size < w2.heap.size := (by omega); have p21 : w.heap.size + 1 < w2.heap.size := (by omega)) | (go_at_call 24; refine (HLV.out _ (by (with_reducible (repeat (first | exact Ext.refl _ | assumption | apply Ext.alloc | apply Ext.drew | exact ext_plus _ _ | (apply Ext.setCell; rotate_left; (simp <;> omega)) | (apply Ext.trans; rotate_left; exact ext_plus _ _) | (apply Ext.trans; rotate_left; assumption)))))).mono ?_; rintro e w3 ⟨rfl, hb3⟩; clear HLV; have hbl3 := Blk.new w3 #[.int .i64 (0 : Int), .int .i64 (0 : Int)] 25; have hc3 := hb3.cells.1; have hz3 := hb3.size; (try simp only [World.size_alloc] at hz3); have p30 : w.heap.size < w3.heap.size := (by omega); have p31 : w.heap.size + 1 < w3.heap.size := (by omega)) | (go_at_call 36; refine (HWO.out _ (by (with_reducible (repeat (first | exact Ext.refl _ | assumption | apply Ext.alloc | apply Ext.drew | exact ext_plus _ _ | (apply Ext.setCell; rotate_left; (simp <;> omega)) | (apply Ext.trans; rotate_left; exact ext_plus _ _) | (apply Ext.trans; rotate_left; assumption)))))).mono ?_; rintro e w4 ⟨vd, rfl, hvd, hb4⟩; clear HWO; have hvd2 := hvd; obtain ⟨a5, c5, rfl, _⟩ := hvd2; have HVD := Lib.hid hvd; clear hvd; have hbl4 := hbl3.ext hb4; have hbt4 := Blk.new w4 #[.int .i64 0, .int .i64 0, .int .i64 0, .int .i64 0, .slice a5 zeroTruth.drags.length c5] 32; have hc4 := hb4.cells.1; have hz4 := hb4.size; (try simp only [World.size_alloc] at hz4); have p40 : w.heap.size < w4.heap.size := (by omega); have p41 : w.heap.size + 1 < w4.heap.size := (by omega)) | (go_at_call 25; refine (HSH.out _ (by (with_reducible (repeat (first | exact Ext.refl _ | assumption | apply Ext.alloc | apply Ext.drew | exact ext_plus _ _ | (apply Ext.setCell; rotate_left; (simp <;> omega)) | (apply Ext.trans; rotate_left; exact ext_plus _ _) | (apply Ext.trans; rotate_left; assumption)))))).mono ?_; rintro e w5 ⟨rfl, hb5⟩; clear HSH; have hbl5 := (hbl4.alloc _).ext hb5; have hbt5 := hbt4.ext hb5; have hcl5 := hbl5.cell; have hll5 := hbl5.lt; have hct5 := hbt5.cell; have hlt5 := hbt5.lt; have hc5 := hb5.cells.1; have hz5 := hb5.size; (try simp only [World.size_alloc] at hz5); have p50 : w.heap.size < w5.heap.size := (by omega); have p51 : w.heap.size + 1 < w5.heap.size := (by omega)) | (go_at_call 28; refine (HST.out _ (by (with_reducible (repeat (first | exact Ext.refl _ | assumption | apply Ext.alloc | apply Ext.drew | exact ext_plus _ _ | (apply Ext.setCell; rotate_left; (simp <;> omega)) | (apply Ext.trans; rotate_left; exact ext_plus _ _) | (apply Ext.trans; rotate_left; assumption)))))).mono ?_; rintro e w6 ⟨rfl, hb6⟩; clear HST; have hbl6 := hbl5.ext hb6; have hbt6 := hbt5.ext hb6; have hcl6 := hbl6.cell; have hll6 := hbl6.lt; have hct6 := hbt6.cell; have hlt6 := hbt6.lt; have hc6 := hb6.cells.1; have hz6 := hb6.size; (try simp only [World.size_alloc] at hz6); have p60 : w.heap.size < w6.heap.size := (by omega); have p61 : w.heap.size + 1 < w6.heap.size := (by omega)) | (go_at_call 39; refine (sameTruth_true zeroTruth _ _ _ (HVD.out.ext (by (with_reducible (repeat (first | exact Ext.refl _ | assumption | apply Ext.alloc | apply Ext.drew | exact ext_plus _ _ | (apply Ext.setCell; rotate_left; (simp <;> omega)) | (apply Ext.trans; rotate_left; exact ext_plus _ _) | (apply Ext.trans; rotate_left; assumption)))))) (Ints.nil _) (by decide)).mono ?_; rintro e w7 ⟨rfl, hb7⟩; have hc7 := hb7.cells.1; have hz7 := hb7.size; (try simp only [World.size_alloc] at hz7); have p70 : w.heap.size < w7.heap.size := (by omega); have p71 : w.heap.size + 1 < w7.heap.size := (by omega)) | (go_at_call 15; refine (known_any _).mono ?_; rintro e wk ⟨rfl, hbk⟩))
        all_goals
          go_ret
          exact ⟨rfl, by (with_reducible (repeat (first | exact Ext.refl _ | assumption | apply Ext.alloc | apply Ext.drew | exact ext_plus _ _ | (apply Ext.setCell; rotate_left; (simp <;> omega)) | (apply Ext.trans; rotate_left; exact ext_plus _ _) | (apply Ext.trans; rotate_left; assumption))))⟩
      | true =>
        have hB : W.okB s c = true := by rw [hok, hSB, hTB]; rfl
        have O := W.ok_iff hB
        have el : levelOf s c = (W.level s (W.best s c), W.level s (W.worst s c)) := by unfold levelOf; rw [hB]; rfl
        have ew : worstOf s c = W.worst s c := by unfold worstOf; rw [hB]; rfl
        have hlw := fun w' (hx : Ext w w') vd => rlevel_any s (W.worst s c) (.slice a1 s.cells.length c1) (.slice a2 s.works.length c2) vd w' O.wind2.1 O.wind2.2 O.fetch2.1 O.fetch2.2 O.loss2.1 O.loss2.2 O.reef.1 (by have := O.reef; omega) O.tide2.1 O.tide2.2
        have hlb := fun w' (hx : Ext w w') vd => rlevel_any s (W.best s c) (.slice a1 s.cells.length c1) (.slice a2 s.works.length c2) vd w' O.wind1.1 O.wind1.2 O.fetch1.1 O.fetch1.2 O.loss1.1 O.loss1.2 O.reef.1 (by have := O.reef; omega) O.tide1.1 O.tide1.2
        change ∀ w' : World, Ext w w' → ∀ vd, _ at hlw
        change ∀ w' : World, Ext w w' → ∀ vd, _ at hlb
        have hew := fun w' (hx : Ext w w') => rworst_any s c _ (.slice a2 s.works.length c2) w' (hC.ext hx) hn
        have heb := fun w' (hx : Ext w w') => rbest_any s c _ (.slice a2 s.works.length c2) w' (hC.ext hx) hn
        have hdl : (W.worst s c).drags.length = s.cells.length := by simp [W.worst]
        rw [hB] at hck hlv hwo
        rw [el, k0] at hlv
        rw [ew, k0] at hwo
        rw [hSB] at hsh
        rw [hTB] at hst
        obtain ⟨TW, hTW⟩ : ∃ TW, W.worst s c = TW := ⟨_, rfl⟩
        obtain ⟨TB, hTB⟩ : ∃ TB, W.best s c = TB := ⟨_, rfl⟩
        rw [hTW] at hwo hlv hlw hew hdl
        rw [hTB] at hlv hlb heb
        obtain ⟨La, hLa⟩ : ∃ x, W.level s TB = x := ⟨_, rfl⟩
        obtain ⟨Lb, hLb⟩ : ∃ x, W.level s TW = x := ⟨_, rfl⟩
        rw [hLa, hLb] at hlv
        rw [hLa] at hlb
        rw [hLb] at hlw
        have HDL := Lib.hid (show TW.drags.length ≤ 1000000 by omega)
        have HCK := Lib.hid hck
        have HLV := Lib.hid hlv
        have HWO := Lib.hid hwo
        have HSH := Lib.hid hsh
        have HST := Lib.hid hst
        have HLW := Lib.hid hlw
        have HLB := Lib.hid hlb
        have HEW := Lib.hid hew
        have HEB := Lib.hid heb
        have hcmp := span_same La Lb
        clear hck hlv hwo hsh hst hok k0 k2 hSB hB el ew hlw hlb hew heb hTW hTB hLa hLb O hdl hcm0
        go_enter Try.func9, Try.ntmps9
        go_upto_region 8 with (first | (go_at_call 14; refine (HS.out _ (by (with_reducible (repeat (first | exact Ext.refl _ | assumption | apply Ext.alloc | apply Ext.drew | exact ext_plus _ _ | (apply Ext.setCell; rotate_left; (simp <;> omega)) | (apply Ext.trans; rotate_left; exact ext_plus _ _) | (apply Ext.trans; rotate_left; assumption)))))).mono ?_; rintro e w1 ⟨rfl, hb1⟩; clear HS; have hc1 := hb1.cells.1; have hz1 := hb1.size; (try simp only [World.size_alloc] at hz1); have p10 : w.heap.size < w1.heap.size := (by omega); have p11 : w.heap.size + 1 < w1.heap.size := (by omega)) | (go_at_call 38; refine (HCK.out _ (by (with_reducible (repeat (first | exact Ext.refl _ | assumption | apply Ext.alloc | apply Ext.drew | exact ext_plus _ _ | (apply Ext.setCell; rotate_left; (simp <;> omega)) | (apply Ext.trans; rotate_left; exact ext_plus _ _) | (apply Ext.trans; rotate_left; assumption)))))).mono ?_; rintro e w2 ⟨rfl, hb2⟩; clear HCK; have hc2 := hb2.cells.1; have hz2 := hb2.size; (try simp only [World.size_alloc] at hz2); have p20 : w.heap.size < w2.heap.size := (by omega); have p21 : w.heap.size + 1 < w2.heap.size := (by omega)) | (go_at_call 24; refine (HLV.out _ (by (with_reducible (repeat (first | exact Ext.refl _ | assumption | apply Ext.alloc | apply Ext.drew | exact ext_plus _ _ | (apply Ext.setCell; rotate_left; (simp <;> omega)) | (apply Ext.trans; rotate_left; exact ext_plus _ _) | (apply Ext.trans; rotate_left; assumption)))))).mono ?_; rintro e w3 ⟨rfl, hb3⟩; clear HLV; have hbl3 := Blk.new w3 #[.int .i64 La, .int .i64 Lb] 25; have hc3 := hb3.cells.1; have hz3 := hb3.size; (try simp only [World.size_alloc] at hz3); have p30 : w.heap.size < w3.heap.size := (by omega); have p31 : w.heap.size + 1 < w3.heap.size := (by omega)) | (go_at_call 36; refine (HWO.out _ (by (with_reducible (repeat (first | exact Ext.refl _ | assumption | apply Ext.alloc | apply Ext.drew | exact ext_plus _ _ | (apply Ext.setCell; rotate_left; (simp <;> omega)) | (apply Ext.trans; rotate_left; exact ext_plus _ _) | (apply Ext.trans; rotate_left; assumption)))))).mono ?_; rintro e w4 ⟨vd, rfl, hvd, hb4⟩; clear HWO; have hvd2 := hvd; obtain ⟨a5, c5, rfl, _⟩ := hvd2; have HVD := Lib.hid hvd; clear hvd; have hbl4 := hbl3.ext hb4; have hbt4 := Blk.new w4 #[.int .i64 TW.wind, .int .i64 TW.fetch, .int .i64 TW.tide, .int .i64 TW.loss, .slice a5 TW.drags.length c5] 32; have hc4 := hb4.cells.1; have hz4 := hb4.size; (try simp only [World.size_alloc] at hz4); have p40 : w.heap.size < w4.heap.size := (by omega); have p41 : w.heap.size + 1 < w4.heap.size := (by omega)) | (go_at_call 25; refine (HSH.out _ (by (with_reducible (repeat (first | exact Ext.refl _ | assumption | apply Ext.alloc | apply Ext.drew | exact ext_plus _ _ | (apply Ext.setCell; rotate_left; (simp <;> omega)) | (apply Ext.trans; rotate_left; exact ext_plus _ _) | (apply Ext.trans; rotate_left; assumption)))))).mono ?_; rintro e w5 ⟨rfl, hb5⟩; clear HSH; have hbl5 := (hbl4.alloc _).ext hb5; have hbt5 := hbt4.ext hb5; have hcl5 := hbl5.cell; have hll5 := hbl5.lt; have hct5 := hbt5.cell; have hlt5 := hbt5.lt; have hc5 := hb5.cells.1; have hz5 := hb5.size; (try simp only [World.size_alloc] at hz5); have p50 : w.heap.size < w5.heap.size := (by omega); have p51 : w.heap.size + 1 < w5.heap.size := (by omega)) | (go_at_call 28; refine (HST.out _ (by (with_reducible (repeat (first | exact Ext.refl _ | assumption | apply Ext.alloc | apply Ext.drew | exact ext_plus _ _ | (apply Ext.setCell; rotate_left; (simp <;> omega)) | (apply Ext.trans; rotate_left; exact ext_plus _ _) | (apply Ext.trans; rotate_left; assumption)))))).mono ?_; rintro e w6 ⟨rfl, hb6⟩; clear HST; have hbl6 := hbl5.ext hb6; have hbt6 := hbt5.ext hb6; have hcl6 := hbl6.cell; have hll6 := hbl6.lt; have hct6 := hbt6.cell; have hlt6 := hbt6.lt; have hc6 := hb6.cells.1; have hz6 := hb6.size; (try simp only [World.size_alloc] at hz6); have p60 : w.heap.size < w6.heap.size := (by omega); have p61 : w.heap.size + 1 < w6.heap.size := (by omega)))
        have hbs6 : Blk w6 w.heap.size #[.slice a1 s.cells.length c1, .slice a2 s.works.length c2, .int .i64 s.reef, .int .i64 s.ll, .int .i64 s.lh] 27 := by
          refine Blk.ext (w := (w.alloc (.cells #[.slice a1 s.cells.length c1, .slice a2 s.works.length c2, .int .i64 s.reef, .int .i64 s.ll, .int .i64 s.lh] 27)).alloc (.cells #[.int .i64 c.wl, .int .i64 c.wh, .int .i64 c.fl, .int .i64 c.fh, .int .i64 c.tl, .int .i64 c.th] 29)) ((Blk.new' rfl _ _).alloc _) ?_
          (with_reducible (repeat (first | exact Ext.refl _ | assumption | apply Ext.alloc | apply Ext.drew | exact ext_plus _ _ | (apply Ext.setCell; rotate_left; (simp <;> omega)) | (apply Ext.trans; rotate_left; exact ext_plus _ _) | (apply Ext.trans; rotate_left; assumption))))
        have hbm6 : Blk w6 (w.heap.size + 1) #[.int .i64 c.wl, .int .i64 c.wh, .int .i64 c.fl, .int .i64 c.fh, .int .i64 c.tl, .int .i64 c.th] 29 := by
          refine Blk.ext (w := (w.alloc (.cells #[.slice a1 s.cells.length c1, .slice a2 s.works.length c2, .int .i64 s.reef, .int .i64 s.ll, .int .i64 s.lh] 27)).alloc (.cells #[.int .i64 c.wl, .int .i64 c.wh, .int .i64 c.fl, .int .i64 c.fh, .int .i64 c.tl, .int .i64 c.th] 29)) (Blk.new' (by simp) _ _) ?_
          (with_reducible (repeat (first | exact Ext.refl _ | assumption | apply Ext.alloc | apply Ext.drew | exact ext_plus _ _ | (apply Ext.setCell; rotate_left; (simp <;> omega)) | (apply Ext.trans; rotate_left; exact ext_plus _ _) | (apply Ext.trans; rotate_left; assumption))))
        have HVD6 := Lib.hid (HVD.out.ext (show Ext w4 w6 by (with_reducible (repeat (first | exact Ext.refl _ | assumption | apply Ext.alloc | apply Ext.drew | exact ext_plus _ _ | (apply Ext.setCell; rotate_left; (simp <;> omega)) | (apply Ext.trans; rotate_left; exact ext_plus _ _) | (apply Ext.trans; rotate_left; assumption))))))
        have hE6 : Ext w w6 := by (with_reducible (repeat (first | exact Ext.refl _ | assumption | apply Ext.alloc | apply Ext.drew | exact ext_plus _ _ | (apply Ext.setCell; rotate_left; (simp <;> omega)) | (apply Ext.trans; rotate_left; exact ext_plus _ _) | (apply Ext.trans; rotate_left; assumption))))
        go_cut [10] from 61 to 97 (fun s10 wc => ∃ b10, s10 = .pointer (some ⟨b10, 0, none⟩) ∧ Blk wc b10 #[.int .i64 La, .int .i64 Lb] 25 ∧ Ext w6 wc)
        case first =>
          go_region_held3 (fun y => (∀ o, y.cell? ⟨w.heap.size, o, none⟩ = (#[.slice a1 s.cells.length c1, .slice a2 s.works.length c2, .int .i64 s.reef, .int .i64 s.ll, .int .i64 s.lh] : Array Value)[o]?) ∧ (∀ o, y.cell? ⟨w.heap.size + 1, o, none⟩ = (#[.int .i64 c.wl, .int .i64 c.wh, .int .i64 c.fl, .int .i64 c.fh, .int .i64 c.tl, .int .i64 c.th] : Array Value)[o]?) ∧ Ext w6 y)
            (first | exact ⟨blk_of hbs6 (by (with_reducible (repeat (first | exact Ext.refl _ | assumption | apply Ext.alloc | apply Ext.drew | exact ext_plus _ _ | (apply Ext.setCell; rotate_left; (simp <;> omega)) | (apply Ext.trans; rotate_left; exact ext_plus _ _) | (apply Ext.trans; rotate_left; assumption))))), blk_of hbm6 (by (with_reducible (repeat (first | exact Ext.refl _ | assumption | apply Ext.alloc | apply Ext.drew | exact ext_plus _ _ | (apply Ext.setCell; rotate_left; (simp <;> omega)) | (apply Ext.trans; rotate_left; exact ext_plus _ _) | (apply Ext.trans; rotate_left; assumption))))), by (with_reducible (repeat (first | exact Ext.refl _ | assumption | apply Ext.alloc | apply Ext.drew | exact ext_plus _ _ | (apply Ext.setCell; rotate_left; (simp <;> omega)) | (apply Ext.trans; rotate_left; exact ext_plus _ _) | (apply Ext.trans; rotate_left; assumption))))⟩)
            (first | (go_at_call 37; refine (HEB.out _ (by (with_reducible (repeat (first | exact Ext.refl _ | assumption | apply Ext.alloc | apply Ext.drew | exact ext_plus _ _ | (apply Ext.setCell; rotate_left; (simp <;> omega)) | (apply Ext.trans; rotate_left; exact ext_plus _ _) | (apply Ext.trans; rotate_left; assumption)))))).mono ?_; clear HEB; rintro e y2 ⟨vd2, rfl, hv2, hy2, _⟩; have hcq := hy2.cells.1; have hfq := hy2.cells.2; have hsq := hy2.size; (try simp only [size_drew, size_drewN, World.size_alloc] at hsq hcq hfq); (try have hlq := Nat.lt_of_succ_le hsq); (try have hA20 : w6.heap.size < y2.heap.size := (by omega))) | (go_at_call 40; refine (HLB.out _ (by (with_reducible (repeat (first | exact Ext.refl _ | assumption | apply Ext.alloc | apply Ext.drew | exact ext_plus _ _ | (apply Ext.setCell; rotate_left; (simp <;> omega)) | (apply Ext.trans; rotate_left; exact ext_plus _ _) | (apply Ext.trans; rotate_left; assumption))))) _).mono ?_; clear HLB; rintro e y3 ⟨rfl, hy3⟩; have hcq3 := hy3.cells.1; have hfq3 := hy3.cells.2; have hsq3 := hy3.size; (try simp only [size_drew, size_drewN, World.size_alloc] at hsq3 hcq3 hfq3); (try have hlq3 := Nat.lt_of_succ_le hsq3); (try have hA30 : w6.heap.size < y3.heap.size := (by omega)); (try have hA31 : y2.heap.size < y3.heap.size := (by omega))) | (go_at_call 37; refine (HEW.out _ (by (with_reducible (repeat (first | exact Ext.refl _ | assumption | apply Ext.alloc | apply Ext.drew | exact ext_plus _ _ | (apply Ext.setCell; rotate_left; (simp <;> omega)) | (apply Ext.trans; rotate_left; exact ext_plus _ _) | (apply Ext.trans; rotate_left; assumption)))))).mono ?_; clear HEW; rintro e y4 ⟨vd4, rfl, hv4, hy4, _⟩; have hcq4 := hy4.cells.1; have hfq4 := hy4.cells.2; have hsq4 := hy4.size; (try simp only [size_drew, size_drewN, World.size_alloc] at hsq4 hcq4 hfq4); (try have hlq4 := Nat.lt_of_succ_le hsq4); (try have hA40 : w6.heap.size < y4.heap.size := (by omega)); (try have hA41 : y2.heap.size < y4.heap.size := (by omega)); (try have hA42 : y3.heap.size < y4.heap.size := (by omega))) | (go_at_call 40; refine (HLW.out _ (by (with_reducible (repeat (first | exact Ext.refl _ | assumption | apply Ext.alloc | apply Ext.drew | exact ext_plus _ _ | (apply Ext.setCell; rotate_left; (simp <;> omega)) | (apply Ext.trans; rotate_left; exact ext_plus _ _) | (apply Ext.trans; rotate_left; assumption))))) _).mono ?_; clear HLW; rintro e y5 ⟨rfl, hy5⟩; have hcq5 := hy5.cells.1; have hfq5 := hy5.cells.2; have hsq5 := hy5.size; (try simp only [size_drew, size_drewN, World.size_alloc] at hsq5 hcq5 hfq5); (try have hlq5 := Nat.lt_of_succ_le hsq5); (try have hA50 : w6.heap.size < y5.heap.size := (by omega)); (try have hA51 : y2.heap.size < y5.heap.size := (by omega)); (try have hA52 : y3.heap.size < y5.heap.size := (by omega)); (try have hA53 : y4.heap.size < y5.heap.size := (by omega))))
          all_goals (dsimp only [Exit.then]; go_wp2; go_meet)
          all_goals first
            | exact ⟨_, rfl, Blk.new' rfl _ _, by (with_reducible show Ext _ _; (with_reducible (repeat (first | exact Ext.refl _ | assumption | apply Ext.alloc | apply Ext.drew | exact ext_plus _ _ | (apply Ext.setCell; rotate_left; (simp <;> omega)) | (apply Ext.trans; rotate_left; exact ext_plus _ _) | (apply Ext.trans; rotate_left; assumption)))); done)⟩
            | (refine ⟨_, rfl, ?_, by (with_reducible show Ext _ _; (with_reducible (repeat (first | exact Ext.refl _ | assumption | apply Ext.alloc | apply Ext.drew | exact ext_plus _ _ | (apply Ext.setCell; rotate_left; (simp <;> omega)) | (apply Ext.trans; rotate_left; exact ext_plus _ _) | (apply Ext.trans; rotate_left; assumption)))); done)⟩
               have hB : Blk y5 _ #[.int .i64 0, .int .i64 0] 25 := (by first | exact (Blk.new' rfl _ _).ext hy5 | exact ((Blk.new' rfl _ _).ext hy4).ext hy5 | exact (((Blk.new' rfl _ _).ext hy3).ext hy4).ext hy5 | exact ((((Blk.drew (Blk.new' rfl _ _)).ext hy2).ext hy3).ext hy4).ext hy5 | exact ((((Blk.new' rfl _ _).ext hy2).ext hy3).ext hy4).ext hy5)
               simpa using (hB.set 0 (.int .i64 La)).set 1 (.int .i64 Lb))
        case rest =>
          obtain ⟨b10, rfl, hbw, hEc⟩ := hcut
          have hEwc := hE6.trans hEc
          have HVC := Lib.hid (HVD6.out.ext hEc)
          have hblc := hbl6.ext hEc
          have hbtc := hbt6.ext hEc
          have hbsc := hbs6.ext hEc
          have hbmc := hbm6.ext hEc
          have hgd : Try.prog.eqGuardType Try.prog.depth 25 = false := span_guard
          go_upto_region 9 with (fail)
          go_region_held3 (fun y => (∀ o, y.cell? ⟨w.heap.size, o, none⟩ = (#[.slice a1 s.cells.length c1, .slice a2 s.works.length c2, .int .i64 s.reef, .int .i64 s.ll, .int .i64 s.lh] : Array Value)[o]?) ∧ (∀ o, y.cell? ⟨w.heap.size + 1, o, none⟩ = (#[.int .i64 c.wl, .int .i64 c.wh, .int .i64 c.fl, .int .i64 c.fh, .int .i64 c.tl, .int .i64 c.th] : Array Value)[o]?) ∧ (∀ o, y.cell? ⟨w3.heap.size, o, none⟩ = (#[.int .i64 La, .int .i64 Lb] : Array Value)[o]?) ∧ (∀ o, y.cell? ⟨b10, o, none⟩ = (#[.int .i64 La, .int .i64 Lb] : Array Value)[o]?) ∧ (∀ o, y.cell? ⟨w4.heap.size, o, none⟩ = (#[.int .i64 TW.wind, .int .i64 TW.fetch, .int .i64 TW.tide, .int .i64 TW.loss, .slice a5 TW.drags.length c5] : Array Value)[o]?) ∧ Ext wc y)
            (first | exact ⟨blk_of hbsc (by (with_reducible (repeat (first | exact Ext.refl _ | assumption | apply Ext.alloc | apply Ext.drew | exact ext_plus _ _ | (apply Ext.setCell; rotate_left; (simp <;> omega)) | (apply Ext.trans; rotate_left; exact ext_plus _ _) | (apply Ext.trans; rotate_left; assumption))))), blk_of hbmc (by (with_reducible (repeat (first | exact Ext.refl _ | assumption | apply Ext.alloc | apply Ext.drew | exact ext_plus _ _ | (apply Ext.setCell; rotate_left; (simp <;> omega)) | (apply Ext.trans; rotate_left; exact ext_plus _ _) | (apply Ext.trans; rotate_left; assumption))))), blk_of hblc (by (with_reducible (repeat (first | exact Ext.refl _ | assumption | apply Ext.alloc | apply Ext.drew | exact ext_plus _ _ | (apply Ext.setCell; rotate_left; (simp <;> omega)) | (apply Ext.trans; rotate_left; exact ext_plus _ _) | (apply Ext.trans; rotate_left; assumption))))), blk_of hbw (by (with_reducible (repeat (first | exact Ext.refl _ | assumption | apply Ext.alloc | apply Ext.drew | exact ext_plus _ _ | (apply Ext.setCell; rotate_left; (simp <;> omega)) | (apply Ext.trans; rotate_left; exact ext_plus _ _) | (apply Ext.trans; rotate_left; assumption))))), blk_of hbtc (by (with_reducible (repeat (first | exact Ext.refl _ | assumption | apply Ext.alloc | apply Ext.drew | exact ext_plus _ _ | (apply Ext.setCell; rotate_left; (simp <;> omega)) | (apply Ext.trans; rotate_left; exact ext_plus _ _) | (apply Ext.trans; rotate_left; assumption))))), by (with_reducible (repeat (first | exact Ext.refl _ | assumption | apply Ext.alloc | apply Ext.drew | exact ext_plus _ _ | (apply Ext.setCell; rotate_left; (simp <;> omega)) | (apply Ext.trans; rotate_left; exact ext_plus _ _) | (apply Ext.trans; rotate_left; assumption))))⟩)
            (first | (go_at_call 37; refine (HEW.out _ (by (with_reducible (repeat (first | exact Ext.refl _ | assumption | apply Ext.alloc | apply Ext.drew | exact ext_plus _ _ | (apply Ext.setCell; rotate_left; (simp <;> omega)) | (apply Ext.trans; rotate_left; exact ext_plus _ _) | (apply Ext.trans; rotate_left; assumption)))))).mono ?_; clear HEW; rintro e z2 ⟨vf2, rfl, hv2, hz2, _⟩) | (go_at_call 39; refine (sameTruth_true TW _ _ _ (HVC.out.ext (by (with_reducible (repeat (first | exact Ext.refl _ | assumption | apply Ext.alloc | apply Ext.drew | exact ext_plus _ _ | (apply Ext.setCell; rotate_left; (simp <;> omega)) | (apply Ext.trans; rotate_left; exact ext_plus _ _) | (apply Ext.trans; rotate_left; assumption)))))) hv2 HDL.out).mono ?_; rintro e z3 ⟨rfl, hz3⟩) | (go_at_call 15; refine (known_any _).mono ?_; rintro e wk ⟨rfl, hbk⟩))
          dsimp only [Exit.then]
          go_wp2
          go_ret
          exact ⟨rfl, by (with_reducible (repeat (first | exact Ext.refl _ | assumption | apply Ext.alloc | apply Ext.drew | exact ext_plus _ _ | (apply Ext.setCell; rotate_left; (simp <;> omega)) | (apply Ext.trans; rotate_left; exact ext_plus _ _) | (apply Ext.trans; rotate_left; assumption))))⟩
  · have h0 : shortB s = false := by simpa using h1
    rw [h0] at hs
    have HS := Lib.hid hs
    clear hs h0 h1
    go_enter Try.func9, Try.ntmps9
    go_wp2_with (first | (go_at_call 14; refine (HS.out _ (by (with_reducible (repeat (first | exact Ext.refl _ | assumption | apply Ext.alloc | apply Ext.drew | exact ext_plus _ _ | (apply Ext.setCell; rotate_left; (simp <;> omega)) | (apply Ext.trans; rotate_left; exact ext_plus _ _) | (apply Ext.trans; rotate_left; assumption)))))).mono ?_; rintro e w1 ⟨rfl, hb1⟩; clear HS; have hc1 := hb1.cells.1; have hz1 := hb1.size; (try simp only [World.size_alloc] at hz1); have p10 : w.heap.size < w1.heap.size := (by omega); have p11 : w.heap.size + 1 < w1.heap.size := (by omega)) | (go_at_call 15; refine (known_any _).mono ?_; rintro e wk ⟨rfl, hbk⟩))
    all_goals
      go_ret
      exact ⟨rfl, by (with_reducible (repeat (first | exact Ext.refl _ | assumption | apply Ext.alloc | apply Ext.drew | exact ext_plus _ _ | (apply Ext.setCell; rotate_left; (simp <;> omega)) | (apply Ext.trans; rotate_left; exact ext_plus _ _) | (apply Ext.trans; rotate_left; assumption))))⟩
end Go.Proofs.Ytmlobiajimlboaa
