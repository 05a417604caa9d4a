/- The document's definition: the dry houses; the first dry cell inward. -/
import Derived.Test.YtmlobiajimlboaaR7
import Derived.Test.YtmlobiajimlboaaD7
namespace Go.Proofs.Ytmlobiajimlboaa
set_option linter.unusedVariables false
set_option linter.unusedSimpArgs false
open Go.RowKit
def inwardN : Option Nat → Int
  | some i => i
  | none => -1
set_option maxRecDepth 100000 in
set_option maxHeartbeats 2000000 in
theorem rinward_any (s : W.Shore) (c : W.Storm) (plan : List Int) (k0 : Nat) (vc vw vp : Value) (w : World) (hok : (W.okB s c && W.planB s plan) = true) (hk0 : k0 ≤ s.cells.length) (hC : Cells w vc s.cells) (hW : Works w vw s.works) (hP : Ints w vp plan) :
    Calls Try.prog 43 #[shoreA s vc vw, stormA c, vp, .int .i64 k0] w fun e w' => e = .returned (.int .i64 (inwardN (firstZero ((W.play s plan (W.worst s c)).drop k0) k0))) ∧ Ext w w' := by
  have hC' := hC
  have hW' := hW
  have hP' := hP
  obtain ⟨a1, c1, rfl, _⟩ := hC'
  obtain ⟨a2, c2, rfl, _⟩ := hW'
  obtain ⟨a3, c3, rfl, _⟩ := hP'
  have SW := sound_worst hok
  have hn := SW.cs
  have HW := Lib.hid (fun w' (hx : Ext w w') => rworst_any s c _ (.slice a2 s.works.length c2) w' (hC.ext hx) hn)
  have hdw := fun w' (hx : Ext w w') vd hd => rplay_any s plan (W.worst s c) _ _ _ vd w' SW (hC.ext hx) (hW.ext hx) (hP.ext hx) hd
  obtain ⟨Z, hZ⟩ : ∃ Z, W.play s plan (W.worst s c) = Z := ⟨_, rfl⟩
  have hlZ : Z.length = s.cells.length := by rw [← hZ]; exact W.depths_len _ _ _ _ _
  rw [hZ] at hdw ⊢
  have HDW := Lib.hid hdw
  have HLZ := Lib.hid hlZ
  have hnZ : Z.length ≤ 1000000 := by omega
  have hkz : k0 ≤ Z.length := by omega
  obtain ⟨fz, hfz⟩ : ∃ fz, firstZero (Z.drop k0) k0 = fz := ⟨_, rfl⟩
  rw [hfz]
  have HFZ0 := Lib.hid hfz
  clear hok SW hdw hlZ hZ hfz hk0
  go_enter Try.func43, Try.ntmps43
  go_wp2
  obtain ⟨w1, hw1⟩ : ∃ w1, (w.alloc (.cells #[.slice a1 s.cells.length c1, .slice a2 s.works.length c2, .int .i64 s.reef, .int .i64 s.ll, .int .i64 s.lh] 27)).alloc (.cells #[.int .i64 c.wl, .int .i64 c.wh, .int .i64 c.fl, .int .i64 c.fh, .int .i64 c.tl, .int .i64 c.th] 29) = w1 := ⟨_, rfl⟩
  have hb8 : Blk w1 w.heap.size #[.slice a1 s.cells.length c1, .slice a2 s.works.length c2, .int .i64 s.reef, .int .i64 s.ll, .int .i64 s.lh] 27 := by rw [← hw1]; exact (Blk.new' rfl _ _).alloc _
  have hb9 : Blk w1 (w.heap.size + 1) #[.int .i64 c.wl, .int .i64 c.wh, .int .i64 c.fl, .int .i64 c.fh, .int .i64 c.tl, .int .i64 c.th] 29 := by rw [← hw1]; exact Blk.new' (by simp) _ _
  have hE1 : Ext w w1 := by rw [← hw1]; (with_reducible (repeat (first | exact Ext.refl _ | assumption | apply Ext.alloc | apply Ext.drew | exact ext_plus _ _ | (apply Ext.setCell; rotate_left; (simp <;> omega)) | (apply Ext.trans; rotate_left; exact ext_plus _ _) | (apply Ext.trans; rotate_left; assumption))))
  rw [hw1]
  go_region_held3 (fun y => (∀ o, y.cell? ⟨w.heap.size, o, none⟩ = (#[.slice a1 s.cells.length c1, .slice a2 s.works.length c2, .int .i64 s.reef, .int .i64 s.ll, .int .i64 s.lh] : Array Value)[o]?) ∧ (∀ o, y.cell? ⟨w.heap.size + 1, o, none⟩ = (#[.int .i64 c.wl, .int .i64 c.wh, .int .i64 c.fl, .int .i64 c.fh, .int .i64 c.tl, .int .i64 c.th] : Array Value)[o]?) ∧ Ext w1 y)
    (first | exact ⟨blk_of hb8 (by (with_reducible (repeat (first | exact Ext.refl _ | assumption | apply Ext.alloc | apply Ext.drew | exact ext_plus _ _ | (apply Ext.setCell; rotate_left; (simp <;> omega)) | (apply Ext.trans; rotate_left; exact ext_plus _ _) | (apply Ext.trans; rotate_left; assumption))))), blk_of hb9 (by (with_reducible (repeat (first | exact Ext.refl _ | assumption | apply Ext.alloc | apply Ext.drew | exact ext_plus _ _ | (apply Ext.setCell; rotate_left; (simp <;> omega)) | (apply Ext.trans; rotate_left; exact ext_plus _ _) | (apply Ext.trans; rotate_left; assumption))))), by (with_reducible (repeat (first | exact Ext.refl _ | assumption | apply Ext.alloc | apply Ext.drew | exact ext_plus _ _ | (apply Ext.setCell; rotate_left; (simp <;> omega)) | (apply Ext.trans; rotate_left; exact ext_plus _ _) | (apply Ext.trans; rotate_left; assumption))))⟩)
    (first | (go_at_call 37; refine (HW.out _ (by (with_reducible (repeat (first | exact Ext.refl _ | assumption | apply Ext.alloc | apply Ext.drew | exact ext_plus _ _ | (apply Ext.setCell; rotate_left; (simp <;> omega)) | (apply Ext.trans; rotate_left; exact ext_plus _ _) | (apply Ext.trans; rotate_left; assumption)))))).mono ?_; clear HW; rintro e y2 ⟨vd2, rfl, hv2, hy2, _⟩) | (go_at_call 20; refine (HDW.out _ (by (with_reducible (repeat (first | exact Ext.refl _ | assumption | apply Ext.alloc | apply Ext.drew | exact ext_plus _ _ | (apply Ext.setCell; rotate_left; (simp <;> omega)) | (apply Ext.trans; rotate_left; exact ext_plus _ _) | (apply Ext.trans; rotate_left; assumption))))) _ hv2).mono ?_; clear HDW; rintro e y4 ⟨v4, rfl, ⟨a4, k4, rfl, hx4⟩, hy4, _⟩))
  clear hb8 hb9 hw1
  have hEy : Ext w y4 := by rename_i hh; exact hE1.trans hh.2.2
  have HX4 := Lib.hid hx4
  clear hx4 hv2
  dsimp only [Exit.then]
  go_wp2
  go_loopw [10] (fun i wr => ∃ k : Nat, k ≤ Z.length ∧ i = .int .i64 k ∧ firstZero (Z.drop k0) k0 = firstZero (Z.drop k) k ∧ Ext y4 wr)
    (fun i _ => Z.length - (intOf i).toNat)
  case atStart => exact ⟨k0, hkz, rfl, rfl, Ext.refl _⟩
  case round =>
    obtain ⟨k, hk, rfl, hfz, hEk⟩ := hrel
    have HFZ := Lib.hid hfz
    clear hfz
    have hcy := hEk.cells.1
    have hsz := hEk.size
    by_cases hlt : k < Z.length
    · obtain ⟨g4, o4, rfl, hg4, h04⟩ := HX4.out k hlt
      have q1 : g4 < wr.heap.size := by omega
      have HD := Lib.hid (firstZero_drop hlt)
      by_cases hz : Z[k] = 0
      · have hR : fz = some k := by rw [← HFZ0.out, HFZ.out, HD.out, if_pos hz]
        have HR := Lib.hid hR
        clear hR
        rw [hz] at h04
        have HZZ := Lib.hid hz
        clear hz
        go_wp2
        refine bodyPost_ret (v := .int .i64 k) (by simp [results, Try.results43, go_sem]) rfl ⟨?_, hEy.trans hEk⟩
        rw [HR.out]; rfl
      · have HR := Lib.hid (HFZ.out.trans (HD.out.trans (if_neg hz)))
        go_wp2
        go_roundw
        case rel => exact ⟨k + 1, by omega, by go_num, HR.out, hEk⟩
        case measure => simp [intOf]; omega
    · go_wp2
      have e : k = Z.length := by omega
      have hR : fz = none := by rw [← HFZ0.out, HFZ.out, e, List.drop_length]; rfl
      refine bodyPost_ret (v := .int .i64 (-1)) (by simp [results, Try.results43, go_sem]) rfl ⟨?_, hEy.trans hEk⟩
      rw [hR]; rfl
set_option maxRecDepth 100000 in
set_option maxHeartbeats 2000000 in
theorem rdry_any (s : W.Shore) (c : W.Storm) (plan : List Int) (vc vw vp : Value) (w : World) (hok : (W.okB s c && W.planB s plan) = true) (hC : Cells w vc s.cells) (hW : Works w vw s.works) (hP : Ints w vp plan) :
    Calls Try.prog 33 #[shoreA s vc vw, stormA c, vp] w fun e w' => ∃ v, e = .returned v ∧ Ints w' v (dryQ s c plan) ∧ Ext w w' := by
  have hC' := hC
  have hW' := hW
  have hP' := hP
  obtain ⟨a1, c1, rfl, hx1⟩ := hC'
  obtain ⟨a2, c2, rfl, _⟩ := hW'
  obtain ⟨a3, c3, rfl, _⟩ := hP'
  have SW := sound_worst hok
  have hn := SW.cs
  have HX1 := Lib.hid hx1
  have hfl : ∀ (k : Nat) (h : k < s.cells.length), -1 ≤ s.cells[k].fl := fun k h => by
    simp only [Bool.and_eq_true] at hok
    have := (W.ok_iff hok.1).cell _ (List.getElem_mem h)
    omega
  have HFL := Lib.hid hfl
  have HW := Lib.hid (fun w' (hx : Ext w w') => rworst_any s c _ (.slice a2 s.works.length c2) w' (hC.ext hx) hn)
  have hdw := fun w' (hx : Ext w w') vd hd => rplay_any s plan (W.worst s c) _ _ _ vd w' SW (hC.ext hx) (hW.ext hx) (hP.ext hx) hd
  obtain ⟨Z, hZ⟩ : ∃ Z, W.play s plan (W.worst s c) = Z := ⟨_, rfl⟩
  have hlZ : Z.length = s.cells.length := by rw [← hZ]; exact W.depths_len _ _ _ _ _
  have hdq : dryQ s c plan = dryTo s.cells Z s.cells.length := by unfold dryQ; rw [hZ]
  rw [hZ] at hdw
  rw [hdq]
  have HDW := Lib.hid hdw
  have HLZ := Lib.hid hlZ
  have hnZ : Z.length ≤ 1000000 := by omega
  clear hok SW hdw hlZ hZ hdq hx1 hfl
  go_enter Try.func33, Try.ntmps33
  go_wp2
  obtain ⟨w1, hw1⟩ : ∃ w1, (w.alloc (.cells #[.slice a1 s.cells.length c1, .slice a2 s.works.length c2, .int .i64 s.reef, .int .i64 s.ll, .int .i64 s.lh] 27)).alloc (.cells #[.int .i64 c.wl, .int .i64 c.wh, .int .i64 c.fl, .int .i64 c.fh, .int .i64 c.tl, .int .i64 c.th] 29) = w1 := ⟨_, rfl⟩
  have hb8 : Blk w1 w.heap.size #[.slice a1 s.cells.length c1, .slice a2 s.works.length c2, .int .i64 s.reef, .int .i64 s.ll, .int .i64 s.lh] 27 := by rw [← hw1]; exact (Blk.new' rfl _ _).alloc _
  have hb9 : Blk w1 (w.heap.size + 1) #[.int .i64 c.wl, .int .i64 c.wh, .int .i64 c.fl, .int .i64 c.fh, .int .i64 c.tl, .int .i64 c.th] 29 := by rw [← hw1]; exact Blk.new' (by simp) _ _
  have hE1 : Ext w w1 := by rw [← hw1]; (with_reducible (repeat (first | exact Ext.refl _ | assumption | apply Ext.alloc | apply Ext.drew | exact ext_plus _ _ | (apply Ext.setCell; rotate_left; (simp <;> omega)) | (apply Ext.trans; rotate_left; exact ext_plus _ _) | (apply Ext.trans; rotate_left; assumption))))
  rw [hw1]
  go_region_held3 (fun y => (∀ o, y.cell? ⟨w.heap.size, o, none⟩ = (#[.slice a1 s.cells.length c1, .slice a2 s.works.length c2, .int .i64 s.reef, .int .i64 s.ll, .int .i64 s.lh] : Array Value)[o]?) ∧ (∀ o, y.cell? ⟨w.heap.size + 1, o, none⟩ = (#[.int .i64 c.wl, .int .i64 c.wh, .int .i64 c.fl, .int .i64 c.fh, .int .i64 c.tl, .int .i64 c.th] : Array Value)[o]?) ∧ Ext w1 y)
    (first | exact ⟨blk_of hb8 (by (with_reducible (repeat (first | exact Ext.refl _ | assumption | apply Ext.alloc | apply Ext.drew | exact ext_plus _ _ | (apply Ext.setCell; rotate_left; (simp <;> omega)) | (apply Ext.trans; rotate_left; exact ext_plus _ _) | (apply Ext.trans; rotate_left; assumption))))), blk_of hb9 (by (with_reducible (repeat (first | exact Ext.refl _ | assumption | apply Ext.alloc | apply Ext.drew | exact ext_plus _ _ | (apply Ext.setCell; rotate_left; (simp <;> omega)) | (apply Ext.trans; rotate_left; exact ext_plus _ _) | (apply Ext.trans; rotate_left; assumption))))), by (with_reducible (repeat (first | exact Ext.refl _ | assumption | apply Ext.alloc | apply Ext.drew | exact ext_plus _ _ | (apply Ext.setCell; rotate_left; (simp <;> omega)) | (apply Ext.trans; rotate_left; exact ext_plus _ _) | (apply Ext.trans; rotate_left; assumption))))⟩)
    (first | (go_at_call 37; refine (HW.out _ (by (with_reducible (repeat (first | exact Ext.refl _ | assumption | apply Ext.alloc | apply Ext.drew | exact ext_plus _ _ | (apply Ext.setCell; rotate_left; (simp <;> omega)) | (apply Ext.trans; rotate_left; exact ext_plus _ _) | (apply Ext.trans; rotate_left; assumption)))))).mono ?_; clear HW; rintro e y2 ⟨vd2, rfl, hv2, hy2, _⟩) | (go_at_call 20; refine (HDW.out _ (by (with_reducible (repeat (first | exact Ext.refl _ | assumption | apply Ext.alloc | apply Ext.drew | exact ext_plus _ _ | (apply Ext.setCell; rotate_left; (simp <;> omega)) | (apply Ext.trans; rotate_left; exact ext_plus _ _) | (apply Ext.trans; rotate_left; assumption))))) _ hv2).mono ?_; clear HDW; rintro e y4 ⟨v4, rfl, ⟨a4, k4, rfl, hx4⟩, hy4, _⟩))
  have hE14 : Ext w1 y4 := by rename_i hh; exact hh.2.2
  have hEy : Ext w y4 := hE1.trans hE14
  have hbs4 := hb8.ext hE14
  have HX4 := Lib.hid hx4
  clear hx4 hv2 hb8 hb9 hw1
  obtain ⟨i0, hi, hz0, hz1, hz2⟩ := info_parts int_info
  have hpc := plus_cell
  dsimp only [Exit.then]
  go_wp2
  go_loopw [8, 9] (fun v i wr => ∃ k : Nat, k ≤ Z.length ∧ i = .int .i64 k ∧ wr.ownsRow y4.heap.size 3 1 v (dryTo s.cells Z k).length ((dryTo s.cells Z k).map (Value.int .i64)) ∧ Ext y4 wr)
    (fun _ i _ => Z.length - (intOf i).toNat)
  case atStart => exact ⟨0, Nat.zero_le _, rfl, World.ownsRow_nil _ _ _ _, Ext.refl _⟩
  case round =>
    obtain ⟨k, hk, rfl, hown, hEk⟩ := hrel
    have hcy := hEk.cells.1
    have hcx := (hEy.trans hEk).cells.1
    have hcs := (hbs4.ext hEk).cell
    have hls := (hbs4.ext hEk).lt
    have hdl := dryTo_len s.cells Z k
    have HSUC := Lib.hid (dryTo_succ s.cells Z k)
    generalize hL : dryTo s.cells Z k = L at hown hdl HSUC
    have HL := Lib.hid hL
    clear hL
    by_cases hlt : k < Z.length
    · have hltc : k < s.cells.length := by have := HLZ.out; omega
      obtain ⟨g3, o3, rfl, hg3, h0', h1', h2', h3'⟩ := HX1.out k hltc
      obtain ⟨g4, o4, rfl, hg4, h04⟩ := HX4.out k hlt
      have hsz := hEk.size
      have hsx := (hEy.trans hEk).size
      have q0 : g3 < wr.heap.size := by omega
      have q1 : g4 < wr.heap.size := by omega
      have ec : (s.cells[k]?.getD default) = s.cells[k] := by simp [hltc]
      have en : W.nth Z k = Z[k] := by simp [W.nth, hlt]
      rw [ec, en] at HSUC
      clear ec en
      have hfk := HFL.out k hltc
      obtain ⟨f, hf0⟩ : ∃ f, s.cells[k].fl = f := ⟨_, rfl⟩
      obtain ⟨z, hz⟩ : ∃ z, Z[k] = z := ⟨_, rfl⟩
      have hdb0 : dryB s.cells[k] Z[k] = ((f != -1) && decide (z ≤ f)) := by unfold dryB; rw [hf0, hz]
      rw [hf0] at hfk h3'
      rw [hz] at h04
      rw [hdb0] at HSUC
      clear hdb0 hf0 hz
      by_cases hf : 0 ≤ f
      · have hne : (f != -1) = true := by simp; omega
        rw [hne, Bool.true_and] at HSUC
        clear hne
        by_cases hle : z ≤ f
        · rw [decide_eq_true hle] at HSUC
          go_wp2
          refine wp_region_ext 20 (fun _ _ d _ _ h => by cases d <;> exact h) (by kernel_rfl) (by kernel_rfl) (by kernel_rfl) (by kernel_rfl) ?_
          simp only [List.take_succ_cons, List.take_zero, List.drop_succ_cons, List.drop_zero]
          iterate 7 (quiet_step (fail))
          repeat (any_goals (first | go_big_quiet_step (fail) | quiet_step (fail)))
          all_goals (refine wpQuiet_nil ?_; intro w2 hE2)
          have hE2s := hE2.size
          unfold wpList
          go_wp2_with (first | (at_builtin; refine wpList_append_own _ rfl _ _ 30 rfl (y4.heap.size) 3 i0 (.int .i64 0) 1 8 Try.underlying30 hi hz0 hz1 hz2 rfl (by decide) _ _ _ rfl ((own_ext hown hE2).alloc _) ⟨w2.heap.size, 0, none⟩ 1 1 [.int .i64 ((k : Int))] rfl rfl (cell_one _ _ _ (by simp)) (one_int _) (by unfold maxLen; omega) (by omega) (by simp <;> omega) ?_; intro v' w1 hown' hgrow _; obtain ⟨g', cap', rfl⟩ := own_succ hown'))
          go_roundw
          case rel =>
            refine ⟨k + 1, by omega, by go_num, ?_, ((hEk.trans hE2).alloc _).grown hgrow (own_base hown)⟩
            rw [HSUC.out]
            simpa using hown'
          case measure => simp [intOf]; omega
        · rw [decide_eq_false hle] at HSUC
          go_wp2
          refine wp_region_ext 20 (fun _ _ d _ _ h => by cases d <;> exact h) (by kernel_rfl) (by kernel_rfl) (by kernel_rfl) (by kernel_rfl) ?_
          simp only [List.take_succ_cons, List.take_zero, List.drop_succ_cons, List.drop_zero]
          iterate 7 (quiet_step (fail))
          repeat (any_goals (first | go_big_quiet_step (fail) | quiet_step (fail)))
          all_goals (refine wpQuiet_nil ?_; intro w2 hE2)
          unfold wpList
          go_wp2
          go_roundw
          case rel => exact ⟨k + 1, by omega, by go_num, by rw [HSUC.out]; simpa using own_ext hown hE2, hEk.trans hE2⟩
          case measure => simp [intOf]; omega
      · obtain rfl : f = -1 := by omega
        go_wp2
        refine wp_region_ext 20 (fun _ _ d _ _ h => by cases d <;> exact h) (by kernel_rfl) (by kernel_rfl) (by kernel_rfl) (by kernel_rfl) ?_
        simp only [List.take_succ_cons, List.take_zero, List.drop_succ_cons, List.drop_zero]
        iterate 7 (quiet_step (fail))
        repeat (any_goals (first | go_big_quiet_step (fail) | quiet_step (fail)))
        all_goals (refine wpQuiet_nil ?_; intro w2 hE2)
        unfold wpList
        go_wp2
        go_roundw
        case rel => exact ⟨k + 1, by omega, by go_num, by rw [HSUC.out]; simpa using own_ext hown hE2, hEk.trans hE2⟩
        case measure => simp [intOf]; omega
    · obtain ⟨av, cv, rfl⟩ := own_slice hown
      go_wp2
      have e : k = s.cells.length := by have := HLZ.out; omega
      refine bodyPost_ret (v := .slice av L.length cv) (by simp [results, Try.results33, go_sem]) rfl ⟨_, rfl, ?_, hEy.trans hEk⟩
      have e2 : dryTo s.cells Z s.cells.length = L := by rw [← HL.out, e]
      rw [e2]
      exact Ints.of_own hown
end Go.Proofs.Ytmlobiajimlboaa
