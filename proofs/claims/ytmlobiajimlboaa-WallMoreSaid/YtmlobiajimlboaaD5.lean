/- The public Depths. -/
import Derived.Test.YtmlobiajimlboaaD4
import Derived.Test.YtmlobiajimlboaaRow
import Derived.Deep.RegionHeld3
namespace Go.Proofs.Ytmlobiajimlboaa
set_option linter.unusedVariables false
set_option linter.unusedSimpArgs false
open Go.RowKit
theorem sound_worst {s : W.Shore} {c : W.Storm} {plan : List Int} (h : (W.okB s c && W.planB s plan) = true) : Sound s plan (W.worst s c) := by
  simp only [Bool.and_eq_true] at h
  exact sound_of h.1 h.2 (W.worst_true (W.ok_iff h.1))
theorem sound_best {s : W.Shore} {c : W.Storm} {plan : List Int} (h : (W.okB s c && W.planB s plan) = true) : Sound s plan (W.best s c) := by
  simp only [Bool.and_eq_true] at h
  exact sound_of h.1 h.2 (W.best_true (W.ok_iff h.1))
/-- The two depths in each cell: at best, at worst. -/
def depths2 (s : W.Shore) (c : W.Storm) (plan : List Int) : List (Int × Int) := (W.play s plan (W.best s c)).zip (W.play s plan (W.worst s c))
def depths2Of (s : W.Shore) (c : W.Storm) (plan : List Int) : List (Int × Int) := if W.okB s c && W.planB s plan then depths2 s c plan else []
/-- What a held region keeps: all that lay. -/
theorem blk_of {w w' : World} {b : Nat} {cs : Array Value} {e : TypeId} (h : Blk w b cs e) (hE : Ext w w') : ∀ o, w'.cell? ⟨b, o, none⟩ = cs[o]? := (h.ext hE).cell
set_option maxRecDepth 100000 in
set_option maxHeartbeats 2000000 in
theorem depthsQ_any (s : W.Shore) (c : W.Storm) (plan : List Int) (vc vw vp : Value) (w : World) (hC : Cells w vc s.cells) (hW : Works w vw s.works) (hP : Ints w vp plan) (hn : s.cells.length ≤ 1000000) (hm : s.works.length ≤ 1000000) (hp : plan.length ≤ 1000000) :
    Calls Try.prog 21 #[shoreA s vc vw, stormA c, vp] w fun e w' => ∃ v, e = .returned (.tuple #[v, .int .i64 (codeOf (W.okB s c && W.planB s plan))]) ∧ Spans w' v (depths2Of s c plan) ∧ Ext w w' := by
  have hC' := hC
  have hW' := hW
  have hP' := hP
  obtain ⟨a1, c1, rfl, _⟩ := hC'
  obtain ⟨a2, c2, rfl, _⟩ := hW'
  obtain ⟨a3, c3, rfl, _⟩ := hP'
  obtain ⟨ok, hok⟩ : ∃ ok, (W.okB s c && W.planB s plan) = ok := ⟨_, rfl⟩
  have HG := Lib.hid (fun w' hx => given_any s c plan _ _ _ w' (hC.ext hx) (hW.ext hx) (hP.ext hx) hn hm hp)
  have ed : depths2Of s c plan = if ok then depths2 s c plan else [] := by unfold depths2Of; rw [hok]
  rw [hok] at HG ⊢
  rw [ed]
  clear ed
  cases ok with
  | false =>
    clear hok
    go_enter Try.func21, Try.ntmps21
    go_wp2_with (first | (go_at_call 52; refine (HG.out _ (by (with_reducible (repeat (first | exact Ext.refl _ | assumption | apply Ext.alloc | apply Ext.drew | exact ext_plus _ _ | (apply Ext.setCell; rotate_left; (simp <;> omega)) | (apply Ext.trans; rotate_left; exact ext_plus _ _) | (apply Ext.trans; rotate_left; assumption)))))).mono ?_; rintro e w' ⟨rfl, hb⟩; have hc := hb.cells.1; have hz := hb.size; (try simp only [World.size_alloc, size_drew, size_drewN, size_setCell] at hz); have hs0 : w.heap.size < w'.heap.size := (by omega); have hs1 : w.heap.size + 1 < w'.heap.size := (by omega)))
    refine bodyPost_ret (v := .tuple #[.slice none 0 0, .int .i64 2]) (by simp [results, Try.results21, go_sem]) rfl ⟨_, rfl, Sls.nil _, ?_⟩
    (with_reducible show Ext _ _; (with_reducible (repeat (first | exact Ext.refl _ | assumption | apply Ext.alloc | apply Ext.drew | exact ext_plus _ _ | (apply Ext.setCell; rotate_left; (simp <;> omega)) | (apply Ext.trans; rotate_left; exact ext_plus _ _) | (apply Ext.trans; rotate_left; assumption)))); done)
  | true =>
    have HSB := Lib.hid (sound_best hok)
    have HSW := Lib.hid (sound_worst hok)
    clear hok
    simp only [if_true]
    have HB := Lib.hid (fun w' hx => best_any s c _ (.slice a2 s.works.length c2) (.slice a3 plan.length c3) w' (hC.ext hx) hn)
    have HW := Lib.hid (fun w' hx => worst_any s c _ (.slice a2 s.works.length c2) (.slice a3 plan.length c3) w' (hC.ext hx) hn)
    have HDB := Lib.hid (fun w' hx vd hd => depths_any s c plan (W.best s c) _ _ _ vd w' HSB.out (hC.ext hx) (hW.ext hx) (hP.ext hx) hd)
    have HDW := Lib.hid (fun w' hx vd hd => depths_any s c plan (W.worst s c) _ _ _ vd w' HSW.out (hC.ext hx) (hW.ext hx) (hP.ext hx) hd)
    go_enter Try.func21, Try.ntmps21
    go_wp2_with (first | (go_at_call 52; refine (HG.out _ (by (with_reducible (repeat (first | exact Ext.refl _ | assumption | apply Ext.alloc | apply Ext.drew | exact ext_plus _ _ | (apply Ext.setCell; rotate_left; (simp <;> omega)) | (apply Ext.trans; rotate_left; exact ext_plus _ _) | (apply Ext.trans; rotate_left; assumption)))))).mono ?_; rintro e w' ⟨rfl, hb⟩; have hc := hb.cells.1; have hz := hb.size; (try simp only [World.size_alloc, size_drew, size_drewN, size_setCell] at hz); have hs0 : w.heap.size < w'.heap.size := (by omega); have hs1 : w.heap.size + 1 < w'.heap.size := (by omega)))
    have hE0 : Ext w w' := by (with_reducible (repeat (first | exact Ext.refl _ | assumption | apply Ext.alloc | apply Ext.drew | exact ext_plus _ _ | (apply Ext.setCell; rotate_left; (simp <;> omega)) | (apply Ext.trans; rotate_left; exact ext_plus _ _) | (apply Ext.trans; rotate_left; assumption))))
    obtain ⟨w1, hw1⟩ : ∃ w1, w'.alloc (.cells #[.slice a1 s.cells.length c1, .slice a2 s.works.length c2, .int .i64 s.reef, .int .i64 s.ll, .int .i64 s.lh, .int .i64 c.wl, .int .i64 c.wh, .int .i64 c.fl, .int .i64 c.fh, .int .i64 c.tl, .int .i64 c.th, .slice a3 plan.length c3] 91) = w1 := ⟨_, rfl⟩
    have hb8 : Blk w1 w'.heap.size #[.slice a1 s.cells.length c1, .slice a2 s.works.length c2, .int .i64 s.reef, .int .i64 s.ll, .int .i64 s.lh, .int .i64 c.wl, .int .i64 c.wh, .int .i64 c.fl, .int .i64 c.fh, .int .i64 c.tl, .int .i64 c.th, .slice a3 plan.length c3] 91 := by rw [← hw1]; exact Blk.new' rfl _ _
    have hE1 : Ext w w1 := by rw [← hw1]; exact hE0.alloc _
    rw [hw1]
    go_region_held3 (fun y => (∀ o, y.cell? ⟨w'.heap.size, o, none⟩ = (#[.slice a1 s.cells.length c1, .slice a2 s.works.length c2, .int .i64 s.reef, .int .i64 s.ll, .int .i64 s.lh, .int .i64 c.wl, .int .i64 c.wh, .int .i64 c.fl, .int .i64 c.fh, .int .i64 c.tl, .int .i64 c.th, .slice a3 plan.length c3] : Array Value)[o]?) ∧ Ext w1 y)
      (first | exact ⟨blk_of hb8 (by (with_reducible (repeat (first | exact Ext.refl _ | assumption | apply Ext.alloc | apply Ext.drew | exact ext_plus _ _ | (apply Ext.setCell; rotate_left; (simp <;> omega)) | (apply Ext.trans; rotate_left; exact ext_plus _ _) | (apply Ext.trans; rotate_left; assumption))))), by (with_reducible (repeat (first | exact Ext.refl _ | assumption | apply Ext.alloc | apply Ext.drew | exact ext_plus _ _ | (apply Ext.setCell; rotate_left; (simp <;> omega)) | (apply Ext.trans; rotate_left; exact ext_plus _ _) | (apply Ext.trans; rotate_left; assumption))))⟩)
      (first | (go_at_call 56; refine (HB.out _ (by (with_reducible (repeat (first | exact Ext.refl _ | assumption | apply Ext.alloc | apply Ext.drew | exact ext_plus _ _ | (apply Ext.setCell; rotate_left; (simp <;> omega)) | (apply Ext.trans; rotate_left; exact ext_plus _ _) | (apply Ext.trans; rotate_left; assumption)))))).mono ?_; rintro e y1 ⟨vd1, rfl, hv1, hy1, _⟩) | (go_at_call 57; refine (HW.out _ (by (with_reducible (repeat (first | exact Ext.refl _ | assumption | apply Ext.alloc | apply Ext.drew | exact ext_plus _ _ | (apply Ext.setCell; rotate_left; (simp <;> omega)) | (apply Ext.trans; rotate_left; exact ext_plus _ _) | (apply Ext.trans; rotate_left; assumption)))))).mono ?_; rintro e y2 ⟨vd2, rfl, hv2, hy2, _⟩) | (go_at_call 54; refine (HDB.out _ (by (with_reducible (repeat (first | exact Ext.refl _ | assumption | apply Ext.alloc | apply Ext.drew | exact ext_plus _ _ | (apply Ext.setCell; rotate_left; (simp <;> omega)) | (apply Ext.trans; rotate_left; exact ext_plus _ _) | (apply Ext.trans; rotate_left; assumption))))) _ hv1).mono ?_; clear HDB; rintro e y3 ⟨v3, rfl, hv3, hy3⟩) | (go_at_call 54; refine (HDW.out _ (by (with_reducible (repeat (first | exact Ext.refl _ | assumption | apply Ext.alloc | apply Ext.drew | exact ext_plus _ _ | (apply Ext.setCell; rotate_left; (simp <;> omega)) | (apply Ext.trans; rotate_left; exact ext_plus _ _) | (apply Ext.trans; rotate_left; assumption))))) _ hv2).mono ?_; rintro e y4 ⟨v4, rfl, hv4, hy4⟩))
    clear HG HB HW HDW hb8 hw1 hc
    have hEy : Ext w y4 := by rename_i hh; exact hE1.trans hh.2
    have hX3 := hv3.ext (hy2.trans hy4)
    obtain ⟨X, hX⟩ : ∃ X, W.play s plan (W.best s c) = X := ⟨_, rfl⟩
    obtain ⟨Z, hZ⟩ : ∃ Z, W.play s plan (W.worst s c) = Z := ⟨_, rfl⟩
    have hlX : X.length = s.cells.length := by rw [← hX]; exact W.depths_len _ _ _ _ _
    have hlZ : Z.length = s.cells.length := by rw [← hZ]; exact W.depths_len _ _ _ _ _
    have ed2 : depths2 s c plan = X.zip Z := by unfold depths2; rw [hX, hZ]
    rw [hX] at hX3
    rw [hZ] at hv4
    have HED := Lib.hid ed2
    have hlXZ : (X.zip Z).length = s.cells.length := by simp [hlX, hlZ]
    have HLX := Lib.hid hlX
    have HLZ := Lib.hid hlZ
    have HLXZ := Lib.hid hlXZ
    have hnX : X.length ≤ 1000000 := by omega
    clear hlX hlZ hlXZ ed2 hX hZ hv3 hv2 hv1
    obtain ⟨b3, k3, rfl, hx3⟩ := hX3
    obtain ⟨b4, k4, rfl, hx4⟩ := hv4
    have HX3 := Lib.hid hx3
    have HX4 := Lib.hid hx4
    clear hx3 hx4
    obtain ⟨i0, hi, hz0, hz1, hz2⟩ := info_parts span_info
    have hpc := plus_cell
    dsimp only [Exit.then]
    go_wp2
    go_loopw [12, 33] (fun v i wr => ∃ k : Nat, k ≤ X.length ∧ i = .int .i64 k ∧ wr.ownsRow y4.heap.size 25 2 v k (preS spanC (X.zip Z) k) ∧ Ext y4 wr)
      (fun _ i _ => X.length - (intOf i).toNat)
    case atStart => exact ⟨0, Nat.zero_le _, rfl, World.ownsRow_nil _ _ _ _, Ext.refl _⟩
    case round =>
      obtain ⟨k, hk, rfl, hown, hEk⟩ := hrel
      have hcy := hEk.cells.1
      by_cases hlt : k < X.length
      · have hlt4 : k < Z.length := by have := HLX.out; have := HLZ.out; omega
        have hltz : k < (X.zip Z).length := by have := HLX.out; have := HLXZ.out; omega
        obtain ⟨g3, o3, rfl, hg3, h03⟩ := HX3.out k hlt
        obtain ⟨g4, o4, rfl, hg4, h04⟩ := HX4.out k hlt4
        have hsz := hEk.size
        have q0 : g3 < wr.heap.size := by omega
        have q1 : g4 < wr.heap.size := by omega
        go_wp2
        refine wp_region_ext 10 (fun _ _ d _ _ h => by cases d <;> exact h) (by kernel_rfl) (by kernel_rfl) (by kernel_rfl) (by kernel_rfl) ?_
        simp only [List.take_succ_cons, List.take_zero, List.drop_succ_cons, List.drop_zero]
        repeat (any_goals (first | quiet_step (fail) | (refine wpQuiet_step (fun K hK => ?_); go_simp; split <;> (refine hK _ ?_; clear hK K))))
        all_goals (refine wpQuiet_nil ?_; intro w2 hE2)
        have hE2s := hE2.size
        go_wp2_with (first | (at_builtin; refine wpList_append_own _ rfl _ _ 43 rfl (y4.heap.size) 25 i0 (.agg #[.int .i64 0, .int .i64 0]) 2 16 Try.underlying43 hi hz0 hz1 hz2 rfl (by decide) _ _ _ rfl ((own_ext hown hE2).alloc _) ⟨w2.heap.size, 0, none⟩ 1 1 [.int .i64 X[k], .int .i64 Z[k]] rfl rfl (cell_two _ _ _ _ (by simp)) (two_ints _ _) (by unfold maxLen; omega) (by omega) (by simp <;> omega) ?_; intro v' w1 hown' hgrow _; obtain ⟨g', cap', rfl⟩ := own_succ hown'))
        go_roundw
        case rel =>
          refine ⟨k + 1, by omega, by go_num, ?_, ((hEk.trans hE2).alloc _).grown hgrow (own_base hown)⟩
          rw [preS_succ _ _ hltz]
          have e : spanC (X.zip Z)[k] = [.int .i64 X[k], .int .i64 Z[k]] := by simp [spanC]
          rw [e]
          exact hown'
        case measure => simp [intOf]; omega
      · obtain ⟨av, cv, rfl⟩ := own_slice hown
        go_wp2
        have e : k = (X.zip Z).length := by have := HLX.out; have := HLXZ.out; omega
        subst e
        rw [preS_all] at hown
        refine bodyPost_ret (v := .tuple #[.slice av (X.zip Z).length cv, .int .i64 0]) (by simp [results, Try.results21, go_sem]) rfl ⟨_, rfl, ?_, hEy.trans hEk⟩
        rw [HED.out]
        exact Spans.of_own hown
end Go.Proofs.Ytmlobiajimlboaa
