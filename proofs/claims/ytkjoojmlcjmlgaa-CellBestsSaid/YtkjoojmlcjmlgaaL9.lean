/- The law CellBests. -/
import Derived.Test.YtkjoojmlcjmlgaaK3
import Derived.Test.YtkjoojmlcjmlgaaLb
import Derived.Test.YtkjoojmlcjmlgaaLa
namespace Go.Proofs.Ytkjoojmlcjmlgaa
set_option linter.unusedVariables false
set_option linter.unusedSimpArgs false
open Go.RowKit
set_option maxRecDepth 100000 in
set_option maxHeartbeats 16000000 in
theorem cellBests_law (c : C.Sys) (vl : Value) (w : World) (hP : Loads w vl c.loads) :
    Calls Try.prog 9 #[.agg (sysV c vl)] w fun e w' => e = .returned (.bool true) ∧ Ext w w' := by
  have hP' := hP
  obtain ⟨a1, c1, rfl, hPx⟩ := hP'
  have HPX := Lib.hid hPx
  clear hPx
  obtain ⟨w1, hw1⟩ : ∃ w1, w.alloc (.cells (sysV c (.slice a1 c.loads.length c1)) 24) = w1 := ⟨_, rfl⟩
  have hE1 : Ext w w1 := by rw [← hw1]; (with_reducible (repeat (first | exact Ext.refl _ | assumption | apply Ext.alloc | apply Ext.drew | exact ext_plus _ _ | (apply Ext.setCell; rotate_left; (simp <;> omega)) | (apply Ext.trans; rotate_left; exact ext_plus _ _) | (apply Ext.trans; rotate_left; assumption))))
  have hb0 : Blk w1 w.heap.size (sysV c (.slice a1 c.loads.length c1)) 24 := by rw [← hw1]; exact Blk.new' rfl _ _
  have hbx := fun y (hy : Ext w1 y) => (⟨(hb0.ext hy).cell, (hb0.ext hy).lt⟩ : (∀ o, y.cell? ⟨w.heap.size, o, none⟩ = _) ∧ w.heap.size < y.heap.size)
  have HBX := Lib.hid hbx
  have HW1 := Lib.hid hw1
  clear hw1 hb0 hbx
  have hfw := fun w' (hx : Ext w w') => few_all c 5 _ w' (hP.ext hx)
  obtain ⟨B, hB⟩ : ∃ B, (decide (c.loads.length ≤ 10) && (!C.sysB c || decide (c.days ≤ 5))) = B := ⟨_, rfl⟩
  simp only [hB] at hfw
  have HFW := Lib.hid hfw
  clear hfw
  cases B with
  | false =>
    clear hB
    go_enter Try.func9, Try.ntmps9
    go_upto_region 1 with (fail)
    rw [HW1.out]
    obtain ⟨k0, l0⟩ := HBX.out w1 (Ext.refl _)
    go_wp2_with (first | (go_at_call 30; refine (HFW.out _ (by (with_reducible (repeat (first | exact Ext.refl _ | assumption | apply Ext.alloc | apply Ext.drew | exact ext_plus _ _ | (apply Ext.setCell; rotate_left; (simp <;> omega)) | (apply Ext.trans; rotate_left; exact ext_plus _ _) | (apply Ext.trans; rotate_left; assumption)))))).mono ?_; rintro e w2 ⟨rfl, hb2⟩; (try clear k0 l0); obtain ⟨k0, l0⟩ := HBX.out w2 (by (with_reducible (repeat (first | exact Ext.refl _ | assumption | apply Ext.alloc | apply Ext.drew | exact ext_plus _ _ | (apply Ext.setCell; rotate_left; (simp <;> omega)) | (apply Ext.trans; rotate_left; exact ext_plus _ _) | (apply Ext.trans; rotate_left; assumption)))))) | (go_at_call 16; refine (known_any _).mono ?_; rintro e wk ⟨rfl, hbk⟩))
    all_goals
      go_ret
      exact ⟨rfl, by (with_reducible (repeat (first | exact Ext.refl _ | assumption | apply Ext.alloc | apply Ext.drew | exact ext_plus _ _ | (apply Ext.setCell; rotate_left; (simp <;> omega)) | (apply Ext.trans; rotate_left; exact ext_plus _ _) | (apply Ext.trans; rotate_left; assumption))))⟩
  | true =>
    rw [Bool.and_eq_true, decide_eq_true_eq] at hB
    have hn := hB.1
    have hs := fun w' (hx : Ext w w') => dsystem_any c _ w' (hP.ext hx) (by omega)
    clear hB
    cases hS : C.sysB c with
    | false =>
      simp only [hS] at hs
      have HS := Lib.hid hs
      have HQ := Lib.hid (fun w' (hx : Ext w w') => best_bad c _ w' (hP.ext hx) (by omega) hS)
      clear hs hS
      go_enter Try.func9, Try.ntmps9
      go_upto_region 1 with (fail)
      rw [HW1.out]
      obtain ⟨k0, l0⟩ := HBX.out w1 (Ext.refl _)
      go_wp2_with (first | (go_at_call 30; refine (HFW.out _ (by (with_reducible (repeat (first | exact Ext.refl _ | assumption | apply Ext.alloc | apply Ext.drew | exact ext_plus _ _ | (apply Ext.setCell; rotate_left; (simp <;> omega)) | (apply Ext.trans; rotate_left; exact ext_plus _ _) | (apply Ext.trans; rotate_left; assumption)))))).mono ?_; rintro e w2 ⟨rfl, hb2⟩; (try clear k0 l0); obtain ⟨k0, l0⟩ := HBX.out w2 (by (with_reducible (repeat (first | exact Ext.refl _ | assumption | apply Ext.alloc | apply Ext.drew | exact ext_plus _ _ | (apply Ext.setCell; rotate_left; (simp <;> omega)) | (apply Ext.trans; rotate_left; exact ext_plus _ _) | (apply Ext.trans; rotate_left; assumption)))))) | (go_at_call 36; refine (HQ.out _ (by (with_reducible (repeat (first | exact Ext.refl _ | assumption | apply Ext.alloc | apply Ext.drew | exact ext_plus _ _ | (apply Ext.setCell; rotate_left; (simp <;> omega)) | (apply Ext.trans; rotate_left; exact ext_plus _ _) | (apply Ext.trans; rotate_left; assumption)))))).mono ?_; rintro e w3 ⟨rfl, hb3⟩; (try clear k0 l0); obtain ⟨k0, l0⟩ := HBX.out w3 (by (with_reducible (repeat (first | exact Ext.refl _ | assumption | apply Ext.alloc | apply Ext.drew | exact ext_plus _ _ | (apply Ext.setCell; rotate_left; (simp <;> omega)) | (apply Ext.trans; rotate_left; exact ext_plus _ _) | (apply Ext.trans; rotate_left; assumption)))))) | (go_at_call 37; refine (HS.out _ (by (with_reducible (repeat (first | exact Ext.refl _ | assumption | apply Ext.alloc | apply Ext.drew | exact ext_plus _ _ | (apply Ext.setCell; rotate_left; (simp <;> omega)) | (apply Ext.trans; rotate_left; exact ext_plus _ _) | (apply Ext.trans; rotate_left; assumption)))))).mono ?_; rintro e w4 ⟨rfl, hb4⟩; (try clear k0 l0); obtain ⟨k0, l0⟩ := HBX.out w4 (by (with_reducible (repeat (first | exact Ext.refl _ | assumption | apply Ext.alloc | apply Ext.drew | exact ext_plus _ _ | (apply Ext.setCell; rotate_left; (simp <;> omega)) | (apply Ext.trans; rotate_left; exact ext_plus _ _) | (apply Ext.trans; rotate_left; assumption)))))) | (go_at_call 16; refine (known_any _).mono ?_; rintro e wk ⟨rfl, hbk⟩))
      all_goals
        go_ret
        exact ⟨rfl, by (with_reducible (repeat (first | exact Ext.refl _ | assumption | apply Ext.alloc | apply Ext.drew | exact ext_plus _ _ | (apply Ext.setCell; rotate_left; (simp <;> omega)) | (apply Ext.trans; rotate_left; exact ext_plus _ _) | (apply Ext.trans; rotate_left; assumption))))⟩
    | true =>
      have O := C.ok_of hS
      obtain ⟨o, ho⟩ := best_ex c
      have hq := fun w' (hx : Ext w w') => best_the c _ w' (hP.ext hx) (by omega) hS ho
      have hd := fun w' (hx : Ext w w') => dbest_the c _ w' (hP.ext hx) O ho
      simp only [hS] at hs
      have HS := Lib.hid hs
      unfold bestR at hq
      rw [hS] at hq
      cases o with
      | none =>
        have hq2 : ∀ w', Ext w w' → Calls Try.prog 36 #[.agg (sysV c (.slice a1 c.loads.length c1))] w' fun e w2 => e = .returned (.tuple #[.int .i64 0, .int .i64 0, .int .i64 0, .int .i64 5]) ∧ Ext w' w2 := fun w' hx => hq w' hx
        have hd2 : ∀ w', Ext w w' → Calls Try.prog 38 #[.agg (sysV c (.slice a1 c.loads.length c1))] w' fun e w2 => e = .returned (.tuple #[.int .i64 0, .int .i64 0, .bool false]) ∧ Ext w' w2 := fun w' hx => hd w' hx
        have HQ := Lib.hid hq2
        have HD := Lib.hid hd2
        clear hs hS hq hd hq2 hd2 O ho
        go_enter Try.func9, Try.ntmps9
        go_upto_region 1 with (fail)
        rw [HW1.out]
        obtain ⟨k0, l0⟩ := HBX.out w1 (Ext.refl _)
        go_wp2_with (first | (go_at_call 30; refine (HFW.out _ (by (with_reducible (repeat (first | exact Ext.refl _ | assumption | apply Ext.alloc | apply Ext.drew | exact ext_plus _ _ | (apply Ext.setCell; rotate_left; (simp <;> omega)) | (apply Ext.trans; rotate_left; exact ext_plus _ _) | (apply Ext.trans; rotate_left; assumption)))))).mono ?_; rintro e w2 ⟨rfl, hb2⟩; (try clear k0 l0); obtain ⟨k0, l0⟩ := HBX.out w2 (by (with_reducible (repeat (first | exact Ext.refl _ | assumption | apply Ext.alloc | apply Ext.drew | exact ext_plus _ _ | (apply Ext.setCell; rotate_left; (simp <;> omega)) | (apply Ext.trans; rotate_left; exact ext_plus _ _) | (apply Ext.trans; rotate_left; assumption)))))) | (go_at_call 36; refine (HQ.out _ (by (with_reducible (repeat (first | exact Ext.refl _ | assumption | apply Ext.alloc | apply Ext.drew | exact ext_plus _ _ | (apply Ext.setCell; rotate_left; (simp <;> omega)) | (apply Ext.trans; rotate_left; exact ext_plus _ _) | (apply Ext.trans; rotate_left; assumption)))))).mono ?_; rintro e w3 ⟨rfl, hb3⟩; (try clear k0 l0); obtain ⟨k0, l0⟩ := HBX.out w3 (by (with_reducible (repeat (first | exact Ext.refl _ | assumption | apply Ext.alloc | apply Ext.drew | exact ext_plus _ _ | (apply Ext.setCell; rotate_left; (simp <;> omega)) | (apply Ext.trans; rotate_left; exact ext_plus _ _) | (apply Ext.trans; rotate_left; assumption)))))) | (go_at_call 37; refine (HS.out _ (by (with_reducible (repeat (first | exact Ext.refl _ | assumption | apply Ext.alloc | apply Ext.drew | exact ext_plus _ _ | (apply Ext.setCell; rotate_left; (simp <;> omega)) | (apply Ext.trans; rotate_left; exact ext_plus _ _) | (apply Ext.trans; rotate_left; assumption)))))).mono ?_; rintro e w4 ⟨rfl, hb4⟩; (try clear k0 l0); obtain ⟨k0, l0⟩ := HBX.out w4 (by (with_reducible (repeat (first | exact Ext.refl _ | assumption | apply Ext.alloc | apply Ext.drew | exact ext_plus _ _ | (apply Ext.setCell; rotate_left; (simp <;> omega)) | (apply Ext.trans; rotate_left; exact ext_plus _ _) | (apply Ext.trans; rotate_left; assumption)))))) | (go_at_call 38; refine (HD.out _ (by (with_reducible (repeat (first | exact Ext.refl _ | assumption | apply Ext.alloc | apply Ext.drew | exact ext_plus _ _ | (apply Ext.setCell; rotate_left; (simp <;> omega)) | (apply Ext.trans; rotate_left; exact ext_plus _ _) | (apply Ext.trans; rotate_left; assumption)))))).mono ?_; rintro e w6 ⟨rfl, hb6⟩; (try clear k0 l0); obtain ⟨k0, l0⟩ := HBX.out w6 (by (with_reducible (repeat (first | exact Ext.refl _ | assumption | apply Ext.alloc | apply Ext.drew | exact ext_plus _ _ | (apply Ext.setCell; rotate_left; (simp <;> omega)) | (apply Ext.trans; rotate_left; exact ext_plus _ _) | (apply Ext.trans; rotate_left; assumption)))))) | (go_at_call 16; refine (known_any _).mono ?_; rintro e wk ⟨rfl, hbk⟩))
        all_goals
          go_ret
          exact ⟨rfl, by (with_reducible (repeat (first | exact Ext.refl _ | assumption | apply Ext.alloc | apply Ext.drew | exact ext_plus _ _ | (apply Ext.setCell; rotate_left; (simp <;> omega)) | (apply Ext.trans; rotate_left; exact ext_plus _ _) | (apply Ext.trans; rotate_left; assumption))))⟩
      | some t =>
        obtain ⟨t1, t2⟩ := t
        have hr := ho.1
        have hc := fun w' => dcost_any c t1 t2 (.slice a1 c.loads.length c1) ⟨_, _, _, rfl⟩ w' ⟨hr.1, hr.2.1⟩ ⟨hr.2.2.1, hr.2.2.2⟩ ⟨O.p0, O.p1⟩ ⟨O.b0, O.b1⟩
        obtain ⟨m, hm⟩ : ∃ m, C.cost c t1 t2 = m := ⟨_, rfl⟩
        simp only [hm] at hc
        have hq2 : ∀ w', Ext w w' → Calls Try.prog 36 #[.agg (sysV c (.slice a1 c.loads.length c1))] w' fun e w2 => e = .returned (.tuple #[.int .i64 t1, .int .i64 t2, .int .i64 m, .int .i64 0]) ∧ Ext w' w2 := fun w' hx => by rw [← hm]; exact hq w' hx
        have hd2 : ∀ w', Ext w w' → Calls Try.prog 38 #[.agg (sysV c (.slice a1 c.loads.length c1))] w' fun e w2 => e = .returned (.tuple #[.int .i64 t1, .int .i64 t2, .bool true]) ∧ Ext w' w2 := fun w' hx => hd w' hx
        have HQ := Lib.hid hq2
        have HD := Lib.hid hd2
        have HC := Lib.hid (fun (w' : World) (_ : Ext w w') => hc w')
        clear hs hS hq hd hq2 hd2 O ho hc hm hr
        go_enter Try.func9, Try.ntmps9
        go_upto_region 1 with (fail)
        rw [HW1.out]
        obtain ⟨k0, l0⟩ := HBX.out w1 (Ext.refl _)
        go_wp2_with (first | (go_at_call 30; refine (HFW.out _ (by (with_reducible (repeat (first | exact Ext.refl _ | assumption | apply Ext.alloc | apply Ext.drew | exact ext_plus _ _ | (apply Ext.setCell; rotate_left; (simp <;> omega)) | (apply Ext.trans; rotate_left; exact ext_plus _ _) | (apply Ext.trans; rotate_left; assumption)))))).mono ?_; rintro e w2 ⟨rfl, hb2⟩; (try clear k0 l0); obtain ⟨k0, l0⟩ := HBX.out w2 (by (with_reducible (repeat (first | exact Ext.refl _ | assumption | apply Ext.alloc | apply Ext.drew | exact ext_plus _ _ | (apply Ext.setCell; rotate_left; (simp <;> omega)) | (apply Ext.trans; rotate_left; exact ext_plus _ _) | (apply Ext.trans; rotate_left; assumption)))))) | (go_at_call 36; refine (HQ.out _ (by (with_reducible (repeat (first | exact Ext.refl _ | assumption | apply Ext.alloc | apply Ext.drew | exact ext_plus _ _ | (apply Ext.setCell; rotate_left; (simp <;> omega)) | (apply Ext.trans; rotate_left; exact ext_plus _ _) | (apply Ext.trans; rotate_left; assumption)))))).mono ?_; rintro e w3 ⟨rfl, hb3⟩; (try clear k0 l0); obtain ⟨k0, l0⟩ := HBX.out w3 (by (with_reducible (repeat (first | exact Ext.refl _ | assumption | apply Ext.alloc | apply Ext.drew | exact ext_plus _ _ | (apply Ext.setCell; rotate_left; (simp <;> omega)) | (apply Ext.trans; rotate_left; exact ext_plus _ _) | (apply Ext.trans; rotate_left; assumption)))))) | (go_at_call 37; refine (HS.out _ (by (with_reducible (repeat (first | exact Ext.refl _ | assumption | apply Ext.alloc | apply Ext.drew | exact ext_plus _ _ | (apply Ext.setCell; rotate_left; (simp <;> omega)) | (apply Ext.trans; rotate_left; exact ext_plus _ _) | (apply Ext.trans; rotate_left; assumption)))))).mono ?_; rintro e w4 ⟨rfl, hb4⟩; (try clear k0 l0); obtain ⟨k0, l0⟩ := HBX.out w4 (by (with_reducible (repeat (first | exact Ext.refl _ | assumption | apply Ext.alloc | apply Ext.drew | exact ext_plus _ _ | (apply Ext.setCell; rotate_left; (simp <;> omega)) | (apply Ext.trans; rotate_left; exact ext_plus _ _) | (apply Ext.trans; rotate_left; assumption)))))) | (go_at_call 38; refine (HD.out _ (by (with_reducible (repeat (first | exact Ext.refl _ | assumption | apply Ext.alloc | apply Ext.drew | exact ext_plus _ _ | (apply Ext.setCell; rotate_left; (simp <;> omega)) | (apply Ext.trans; rotate_left; exact ext_plus _ _) | (apply Ext.trans; rotate_left; assumption)))))).mono ?_; rintro e w6 ⟨rfl, hb6⟩; (try clear k0 l0); obtain ⟨k0, l0⟩ := HBX.out w6 (by (with_reducible (repeat (first | exact Ext.refl _ | assumption | apply Ext.alloc | apply Ext.drew | exact ext_plus _ _ | (apply Ext.setCell; rotate_left; (simp <;> omega)) | (apply Ext.trans; rotate_left; exact ext_plus _ _) | (apply Ext.trans; rotate_left; assumption)))))) | (go_at_call 39; refine (HC.out _ (by (with_reducible (repeat (first | exact Ext.refl _ | assumption | apply Ext.alloc | apply Ext.drew | exact ext_plus _ _ | (apply Ext.setCell; rotate_left; (simp <;> omega)) | (apply Ext.trans; rotate_left; exact ext_plus _ _) | (apply Ext.trans; rotate_left; assumption)))))).mono ?_; rintro e w7 ⟨rfl, hb7⟩; (try clear k0 l0); obtain ⟨k0, l0⟩ := HBX.out w7 (by (with_reducible (repeat (first | exact Ext.refl _ | assumption | apply Ext.alloc | apply Ext.drew | exact ext_plus _ _ | (apply Ext.setCell; rotate_left; (simp <;> omega)) | (apply Ext.trans; rotate_left; exact ext_plus _ _) | (apply Ext.trans; rotate_left; assumption)))))) | (go_at_call 16; refine (known_any _).mono ?_; rintro e wk ⟨rfl, hbk⟩))
        all_goals
          go_ret
          exact ⟨rfl, by (with_reducible (repeat (first | exact Ext.refl _ | assumption | apply Ext.alloc | apply Ext.drew | exact ext_plus _ _ | (apply Ext.setCell; rotate_left; (simp <;> omega)) | (apply Ext.trans; rotate_left; exact ext_plus _ _) | (apply Ext.trans; rotate_left; assumption))))⟩
end Go.Proofs.Ytkjoojmlcjmlgaa
