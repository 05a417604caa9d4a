/- The document's islets: which are as defined; what lies inside a span; the rain of a month. -/
import Derived.Test.YtgloajbgphcloaaGreatLnA
namespace Go.Proofs.YtgloajbgphcloaaGreat.Ln
set_option linter.unusedVariables false
set_option linter.unusedSimpArgs false
open Go.RowKit
theorem rin_any (x lo hi : Int) (w : World) :
    Calls Tryz.prog 69 #[.int .i64 x, .int .i64 lo, .int .i64 hi] w fun e w' => e = .returned (.bool (within x lo hi)) ∧ w = w' := by
  go_enter Tryz.func69, Tryz.ntmps69
  go_wp2
  all_goals (go_ret; exact ⟨ret_bool (by rw [Bool.eq_iff_iff]; simp [within]; omega), rfl⟩)
theorem rspan_any (a b m : Int) (w : World) :
    Calls Tryz.prog 70 #[.agg #[.int .i64 a, .int .i64 b], .int .i64 m] w fun e w' => e = .returned (.bool (spanB a b m)) ∧ Ext w w' := by
  go_enter Tryz.func70, Tryz.ntmps70
  go_wp2
  all_goals (go_ret; exact ⟨ret_bool (by rw [Bool.eq_iff_iff]; simp [spanB]; omega), by (with_reducible (repeat (first | exact Ext.refl _ | assumption | apply Ext.alloc | apply Ext.drew | exact ext_plus _ _ | (apply Ext.setCell; rotate_left; (simp <;> omega)) | (apply Ext.trans; rotate_left; exact ext_plus _ _) | (apply Ext.trans; rotate_left; assumption))))⟩)
theorem rinside_any (n a b : Int) (w : World) :
    Calls Tryz.prog 19 #[.int .i64 n, .agg #[.int .i64 a, .int .i64 b]] w fun e w' => e = .returned (.bool (within n a b)) ∧ Ext w w' := by
  go_enter Tryz.func19, Tryz.ntmps19
  go_wp2_with (first | (go_at_call 69; refine (rin_any _ _ _ _).mono ?_; rintro e w' ⟨rfl, rfl⟩))
  go_ret
  exact ⟨rfl, by (with_reducible (repeat (first | exact Ext.refl _ | assumption | apply Ext.alloc | apply Ext.drew | exact ext_plus _ _ | (apply Ext.setCell; rotate_left; (simp <;> omega)) | (apply Ext.trans; rotate_left; exact ext_plus _ _) | (apply Ext.trans; rotate_left; assumption))))⟩
theorem rrain_any (m : Month) (d : Bool) (w : World) :
    Calls Tryz.prog 20 #[.agg (monthV m), .bool d] w fun e w' => e = .returned (.agg #[.int .i64 (rainLo m d), .int .i64 (rainHi m d)]) ∧ Ext w w' := by
  cases d
  all_goals
    go_enter Tryz.func20, Tryz.ntmps20
    go_wp2
    refine bodyPost_ret (v := .agg #[.int .i64 (rainLo m _), .int .i64 (rainHi m _)]) (by simp [results, Tryz.results20, go_sem, rainLo, rainHi]) rfl ⟨rfl, by (with_reducible (repeat (first | exact Ext.refl _ | assumption | apply Ext.alloc | apply Ext.drew | exact ext_plus _ _ | (apply Ext.setCell; rotate_left; (simp <;> omega)) | (apply Ext.trans; rotate_left; exact ext_plus _ _) | (apply Ext.trans; rotate_left; assumption))))⟩
theorem dall_step {α : Type} {p : α → Bool} {xs : List α} {k : Nat} (h : k < xs.length) (hg : (xs.take k).all p = true) : (xs.take (k + 1)).all p = p xs[k] := by
  rw [List.take_succ_eq_append_getElem h, List.all_append, hg]; simp
theorem dall_wrong {α : Type} {p : α → Bool} {xs : List α} {k : Nat} (h : k < xs.length) (hp : p xs[k] = false) : xs.all p = false := by
  rw [List.all_eq_false]; exact ⟨_, List.getElem_mem h, by rw [hp]; decide⟩
set_option maxRecDepth 100000 in
set_option maxHeartbeats 32000000 in
theorem rislet_any (i : Islet) (vw vm : Value) (w : World) (hW : Ints w vw i.wells) (hM : Months w vm i.months) (hwl : i.wells.length ≤ 1000000) (hml : i.months.length ≤ 1000000) :
    Calls Tryz.prog 17 #[.agg (islV i vw vm)] w fun e w' => e = .returned (.bool (islB i)) ∧ Ext w w' := by
  obtain ⟨aw, cw, rfl, hxw⟩ := hW
  obtain ⟨am, cm, rfl, hxm⟩ := hM
  have HXW := Lib.hid hxw
  have HXM := Lib.hid hxm
  clear hxw hxm
  have hpc := plus_cell
  go_enter Tryz.func17, Tryz.ntmps17
  go_wp2
  obtain ⟨n0, hn0⟩ : ∃ n, w.heap.size = n := ⟨_, rfl⟩
  obtain ⟨w1, hw1⟩ : ∃ y, w.alloc (.cells (islV i (.slice aw i.wells.length cw) (.slice am i.months.length cm)) 52) = y := ⟨_, rfl⟩
  have hV1 : Blk w1 n0 (islV i (.slice aw i.wells.length cw) (.slice am i.months.length cm)) 52 := by rw [← hw1]; exact Blk.new' hn0.symm _ _
  have hE1 : Ext w w1 := by rw [← hw1]; (with_reducible (repeat (first | exact Ext.refl _ | assumption | apply Ext.alloc | apply Ext.drew | exact ext_plus _ _ | (apply Ext.setCell; rotate_left; (simp <;> omega)) | (apply Ext.trans; rotate_left; exact ext_plus _ _) | (apply Ext.trans; rotate_left; assumption))))
  simp only [hw1, hn0]
  clear hw1 hn0
  go_loopw [3] (fun s wr => ∃ k : Nat, k ≤ i.wells.length ∧ s = .int .i64 k ∧ (i.wells.take k).all (fun w => within w 0 i.cap) = true ∧ Ext w1 wr) (fun s _ => i.wells.length - (intOf s).toNat)
  case atStart => exact ⟨0, Nat.zero_le _, rfl, rfl, Ext.refl _⟩
  case round =>
    rename World => wr
    obtain ⟨k, hk, rfl, hg, hE⟩ := hrel
    have HG := Lib.hid hg
    clear hg
    have hV := hV1.ext hE
    have k0 := hV.cell
    have k1 := hV.lt
    by_cases hlt : k < i.wells.length
    · obtain ⟨b, off, rfl, hb, h0⟩ := HXW.out k hlt
      have hEw := hE1.trans hE
      have k2 := (hEw.cells.1 _ _ hb).trans h0
      have k3 := Nat.lt_of_lt_of_le hb hEw.size
      have hs := dall_step hlt HG.out
      have hbad := fun h => dall_wrong (p := fun t => within t 0 i.cap) hlt h
      obtain ⟨x, hxx⟩ : ∃ x, i.wells[k] = x := ⟨_, rfl⟩
      rw [hxx] at k2 hs hbad
      obtain ⟨B, hB⟩ : ∃ B, within x 0 i.cap = B := ⟨_, rfl⟩
      simp only [hB] at hs hbad
      have HS := Lib.hid hs
      have HBAD := Lib.hid hbad
      have HIN := Lib.hid (fun W => (hB ▸ rin_any x 0 i.cap W : Calls Tryz.prog 69 #[.int .i64 x, .int .i64 0, .int .i64 i.cap] W fun e w' => e = .returned (.bool B) ∧ W = w'))
      clear h0 hxx hs hbad hB
      cases B with
      | true =>
        go_upto_region 4 with (fail)
        refine wp_region_ext 9 (fun _ _ d _ _ h => by cases d <;> exact h) (by kernel_rfl) (by kernel_rfl) (by kernel_rfl) (by kernel_rfl) ?_
        simp only [List.take_succ_cons, List.take_zero, List.drop_succ_cons, List.drop_zero]
        repeat (any_goals (first | go_big_quiet_step ((go_at_call 69; exact same_quiet (HIN.out _))) | quiet_step ((go_at_call 69; exact same_quiet (HIN.out _)))))
        all_goals (refine wpQuiet_nil ?_; intro w2 hE2)
        go_wp2
        go_roundw
        case rel => exact ⟨k + 1, by omega, by go_num, HS.out, hE.trans hE2⟩
        case measure => simp [intOf]; omega
      | false =>
        go_upto_region 4 with (fail)
        refine wp_region_ext 9 (fun _ _ d _ _ h => by cases d <;> exact h) (by kernel_rfl) (by kernel_rfl) (by kernel_rfl) (by kernel_rfl) ?_
        simp only [List.take_succ_cons, List.take_zero, List.drop_succ_cons, List.drop_zero]
        repeat (any_goals (first | go_big_quiet_step ((go_at_call 69; exact same_quiet (HIN.out _))) | quiet_step ((go_at_call 69; exact same_quiet (HIN.out _)))))
        all_goals (refine wpQuiet_nil ?_; intro w2 hE2)
        go_wp2
        go_ret
        exact ⟨ret_bool (by unfold islB; rw [HBAD.out (by trivial)]; simp), hE1.trans (hE.trans hE2)⟩
    · obtain rfl : k = i.wells.length := by omega
      have HT := Lib.hid (show i.wells.all (fun w => within w 0 i.cap) = true by have := HG.out; rwa [List.take_length] at this)
      go_wp2
      clear k0 k1 HG
      rename World => w2
      go_loopw [4] (fun s wr => ∃ k : Nat, k ≤ i.months.length ∧ s = .int .i64 k ∧ (i.months.take k).all monthB = true ∧ Ext w1 wr) (fun s _ => i.months.length - (intOf s).toNat)
      case atStart => exact ⟨0, Nat.zero_le _, rfl, rfl, hE⟩
      case round =>
        clear hV hE
        rename World => wr
        obtain ⟨k, hk, rfl, hg, hE⟩ := hrel
        have HG := Lib.hid hg
        clear hg
        have hV := hV1.ext hE
        have k0 := hV.cell
        have k1 := hV.lt
        by_cases hlt : k < i.months.length
        · obtain ⟨b, off, rfl, hb, h0⟩ := HXM.out k hlt
          have hEw := hE1.trans hE
          have k3 := Nat.lt_of_lt_of_le hb hEw.size
          have hs := dall_step hlt HG.out
          have hbad := fun h => dall_wrong (p := monthB) hlt h
          have hAt := ate_stays _ _ _ _ _ _ hEw hb h0
          obtain ⟨m, hxx⟩ : ∃ x, i.months[k] = x := ⟨_, rfl⟩
          rw [hxx] at hs hbad hAt
          obtain ⟨k2, k4, k5, k6, k7, k10⟩ := month_cells hAt
          have HS := Lib.hid hs
          have HBAD := Lib.hid hbad
          clear h0 hxx hs hbad hAt
          go_upto_region 10 with (fail)
          obtain ⟨bm, hbm⟩ : ∃ n, wr.heap.size = n := ⟨_, rfl⟩
          obtain ⟨w3, hw3⟩ : ∃ y, wr.alloc (.cells (monthV m) 63) = y := ⟨_, rfl⟩
          have hMb : Blk w3 bm (monthV m) 63 := by rw [← hw3]; exact Blk.new' hbm.symm _ _
          have hE3 : Ext wr w3 := by rw [← hw3]; (with_reducible (repeat (first | exact Ext.refl _ | assumption | apply Ext.alloc | apply Ext.drew | exact ext_plus _ _ | (apply Ext.setCell; rotate_left; (simp <;> omega)) | (apply Ext.trans; rotate_left; exact ext_plus _ _) | (apply Ext.trans; rotate_left; assumption))))
          simp only [hbm, hw3]
          clear hbm hw3 k0 k1 k2 k3 k4 k5 k6 k7 k10
          have k8 := hMb.cell
          have k9 := hMb.lt
          by_cases y0 : spanB m.wl m.wh 2000 = true
          rotate_left
          · have y0' : spanB m.wl m.wh 2000 = false := by simpa using y0
            clear y0
            go_wp2_with (first | (go_at_call 70; refine (rspan_any _ _ _ _).mono ?_; rintro e wy ⟨rfl, hEy⟩; have hEm : Ext w3 wy := (by (with_reducible (repeat (first | exact Ext.refl _ | assumption | apply Ext.alloc | apply Ext.drew | exact ext_plus _ _ | (apply Ext.setCell; rotate_left; (simp <;> omega)) | (apply Ext.trans; rotate_left; exact ext_plus _ _) | (apply Ext.trans; rotate_left; assumption))))); have k8 := (hMb.ext hEm).cell; have k9 := (hMb.ext hEm).lt))
            go_ret
            exact ⟨ret_bool (by unfold islB; rw [HBAD.out (by unfold monthB; rw [y0']; rfl)]; rfl), by (with_reducible (repeat (first | exact Ext.refl _ | assumption | apply Ext.alloc | apply Ext.drew | exact ext_plus _ _ | (apply Ext.setCell; rotate_left; (simp <;> omega)) | (apply Ext.trans; rotate_left; exact ext_plus _ _) | (apply Ext.trans; rotate_left; assumption))))⟩
          by_cases y1 : spanB m.dl m.dh 2000 = true
          rotate_left
          · have y1' : spanB m.dl m.dh 2000 = false := by simpa using y1
            clear y1
            go_wp2_with (first | (go_at_call 70; refine (rspan_any _ _ _ _).mono ?_; rintro e wy ⟨rfl, hEy⟩; have hEm : Ext w3 wy := (by (with_reducible (repeat (first | exact Ext.refl _ | assumption | apply Ext.alloc | apply Ext.drew | exact ext_plus _ _ | (apply Ext.setCell; rotate_left; (simp <;> omega)) | (apply Ext.trans; rotate_left; exact ext_plus _ _) | (apply Ext.trans; rotate_left; assumption))))); have k8 := (hMb.ext hEm).cell; have k9 := (hMb.ext hEm).lt))
            go_ret
            exact ⟨ret_bool (by unfold islB; rw [HBAD.out (by unfold monthB; rw [y0, y1']; rfl)]; rfl), by (with_reducible (repeat (first | exact Ext.refl _ | assumption | apply Ext.alloc | apply Ext.drew | exact ext_plus _ _ | (apply Ext.setCell; rotate_left; (simp <;> omega)) | (apply Ext.trans; rotate_left; exact ext_plus _ _) | (apply Ext.trans; rotate_left; assumption))))⟩
          by_cases y2 : m.dl ≤ m.wl
          rotate_left
          · skip
            go_wp2_with (first | (go_at_call 70; refine (rspan_any _ _ _ _).mono ?_; rintro e wy ⟨rfl, hEy⟩; have hEm : Ext w3 wy := (by (with_reducible (repeat (first | exact Ext.refl _ | assumption | apply Ext.alloc | apply Ext.drew | exact ext_plus _ _ | (apply Ext.setCell; rotate_left; (simp <;> omega)) | (apply Ext.trans; rotate_left; exact ext_plus _ _) | (apply Ext.trans; rotate_left; assumption))))); have k8 := (hMb.ext hEm).cell; have k9 := (hMb.ext hEm).lt))
            go_ret
            exact ⟨ret_bool (by unfold islB; rw [HBAD.out (by unfold monthB; rw [y0, y1, decide_eq_false (show ¬ (m.dl ≤ m.wl) by omega)]; rfl)]; rfl), by (with_reducible (repeat (first | exact Ext.refl _ | assumption | apply Ext.alloc | apply Ext.drew | exact ext_plus _ _ | (apply Ext.setCell; rotate_left; (simp <;> omega)) | (apply Ext.trans; rotate_left; exact ext_plus _ _) | (apply Ext.trans; rotate_left; assumption))))⟩
          by_cases y3 : m.dh ≤ m.wh
          rotate_left
          · skip
            go_wp2_with (first | (go_at_call 70; refine (rspan_any _ _ _ _).mono ?_; rintro e wy ⟨rfl, hEy⟩; have hEm : Ext w3 wy := (by (with_reducible (repeat (first | exact Ext.refl _ | assumption | apply Ext.alloc | apply Ext.drew | exact ext_plus _ _ | (apply Ext.setCell; rotate_left; (simp <;> omega)) | (apply Ext.trans; rotate_left; exact ext_plus _ _) | (apply Ext.trans; rotate_left; assumption))))); have k8 := (hMb.ext hEm).cell; have k9 := (hMb.ext hEm).lt))
            go_ret
            exact ⟨ret_bool (by unfold islB; rw [HBAD.out (by unfold monthB; rw [y0, y1, decide_eq_true (show m.dl ≤ m.wl by omega), decide_eq_false (show ¬ (m.dh ≤ m.wh) by omega)]; rfl)]; rfl), by (with_reducible (repeat (first | exact Ext.refl _ | assumption | apply Ext.alloc | apply Ext.drew | exact ext_plus _ _ | (apply Ext.setCell; rotate_left; (simp <;> omega)) | (apply Ext.trans; rotate_left; exact ext_plus _ _) | (apply Ext.trans; rotate_left; assumption))))⟩
          by_cases y4 : spanB m.nl m.nh 10000000 = true
          rotate_left
          · have y4' : spanB m.nl m.nh 10000000 = false := by simpa using y4
            clear y4
            go_wp2_with (first | (go_at_call 70; refine (rspan_any _ _ _ _).mono ?_; rintro e wy ⟨rfl, hEy⟩; have hEm : Ext w3 wy := (by (with_reducible (repeat (first | exact Ext.refl _ | assumption | apply Ext.alloc | apply Ext.drew | exact ext_plus _ _ | (apply Ext.setCell; rotate_left; (simp <;> omega)) | (apply Ext.trans; rotate_left; exact ext_plus _ _) | (apply Ext.trans; rotate_left; assumption))))); have k8 := (hMb.ext hEm).cell; have k9 := (hMb.ext hEm).lt))
            go_ret
            exact ⟨ret_bool (by unfold islB; rw [HBAD.out (by unfold monthB; rw [y0, y1, decide_eq_true (show m.dl ≤ m.wl by omega), decide_eq_true (show m.dh ≤ m.wh by omega), y4']; rfl)]; rfl), by (with_reducible (repeat (first | exact Ext.refl _ | assumption | apply Ext.alloc | apply Ext.drew | exact ext_plus _ _ | (apply Ext.setCell; rotate_left; (simp <;> omega)) | (apply Ext.trans; rotate_left; exact ext_plus _ _) | (apply Ext.trans; rotate_left; assumption))))⟩
          go_wp2_with (first | (go_at_call 70; refine (rspan_any _ _ _ _).mono ?_; rintro e wy ⟨rfl, hEy⟩; have hEm : Ext w3 wy := (by (with_reducible (repeat (first | exact Ext.refl _ | assumption | apply Ext.alloc | apply Ext.drew | exact ext_plus _ _ | (apply Ext.setCell; rotate_left; (simp <;> omega)) | (apply Ext.trans; rotate_left; exact ext_plus _ _) | (apply Ext.trans; rotate_left; assumption))))); have k8 := (hMb.ext hEm).cell; have k9 := (hMb.ext hEm).lt))
          go_roundw
          case rel => exact ⟨k + 1, by omega, by go_num, by rw [HS.out]; unfold monthB; rw [y0, y1, decide_eq_true (show m.dl ≤ m.wl by omega), decide_eq_true (show m.dh ≤ m.wh by omega), y4]; rfl, by (with_reducible (repeat (first | exact Ext.refl _ | assumption | apply Ext.alloc | apply Ext.drew | exact ext_plus _ _ | (apply Ext.setCell; rotate_left; (simp <;> omega)) | (apply Ext.trans; rotate_left; exact ext_plus _ _) | (apply Ext.trans; rotate_left; assumption))))⟩
          case measure => simp [intOf]; omega
        · obtain rfl : k = i.months.length := by omega
          have HMA := Lib.hid (show i.months.all monthB = true by have := HG.out; rwa [List.take_length] at this)
          have hib : islB i = restB i := by unfold islB; rw [HMA.out, HT.out]; rfl
          have HIB := Lib.hid hib
          clear hib
          by_cases x0 : within i.cap 1 10000000 = true
          rotate_left
          · have x0' : within i.cap 1 10000000 = false := by simpa using x0
            clear x0
            go_wp2_with (first | (go_at_call 69; refine (rin_any _ _ _ _).mono ?_; rintro e wy ⟨rfl, rfl⟩) | (go_at_call 70; refine (rspan_any _ _ _ _).mono ?_; rintro e wy ⟨rfl, hEy⟩; have hEq : Ext wr wy := (by (with_reducible (repeat (first | exact Ext.refl _ | assumption | apply Ext.alloc | apply Ext.drew | exact ext_plus _ _ | (apply Ext.setCell; rotate_left; (simp <;> omega)) | (apply Ext.trans; rotate_left; exact ext_plus _ _) | (apply Ext.trans; rotate_left; assumption))))); have k0 := (hV.ext hEq).cell; have k1 := (hV.ext hEq).lt))
            go_ret
            exact ⟨ret_bool (by rw [HIB.out]; unfold restB; rw [x0']; rfl), by (with_reducible (repeat (first | exact Ext.refl _ | assumption | apply Ext.alloc | apply Ext.drew | exact ext_plus _ _ | (apply Ext.setCell; rotate_left; (simp <;> omega)) | (apply Ext.trans; rotate_left; exact ext_plus _ _) | (apply Ext.trans; rotate_left; assumption))))⟩
          by_cases x1 : spanB i.sl i.sh i.cap = true
          rotate_left
          · have x1' : spanB i.sl i.sh i.cap = false := by simpa using x1
            clear x1
            go_wp2_with (first | (go_at_call 69; refine (rin_any _ _ _ _).mono ?_; rintro e wy ⟨rfl, rfl⟩) | (go_at_call 70; refine (rspan_any _ _ _ _).mono ?_; rintro e wy ⟨rfl, hEy⟩; have hEq : Ext wr wy := (by (with_reducible (repeat (first | exact Ext.refl _ | assumption | apply Ext.alloc | apply Ext.drew | exact ext_plus _ _ | (apply Ext.setCell; rotate_left; (simp <;> omega)) | (apply Ext.trans; rotate_left; exact ext_plus _ _) | (apply Ext.trans; rotate_left; assumption))))); have k0 := (hV.ext hEq).cell; have k1 := (hV.ext hEq).lt))
            go_ret
            exact ⟨ret_bool (by rw [HIB.out]; unfold restB; rw [x0, x1']; rfl), by (with_reducible (repeat (first | exact Ext.refl _ | assumption | apply Ext.alloc | apply Ext.drew | exact ext_plus _ _ | (apply Ext.setCell; rotate_left; (simp <;> omega)) | (apply Ext.trans; rotate_left; exact ext_plus _ _) | (apply Ext.trans; rotate_left; assumption))))⟩
          by_cases x2 : within i.roof 0 100000 = true
          rotate_left
          · have x2' : within i.roof 0 100000 = false := by simpa using x2
            clear x2
            go_wp2_with (first | (go_at_call 69; refine (rin_any _ _ _ _).mono ?_; rintro e wy ⟨rfl, rfl⟩) | (go_at_call 70; refine (rspan_any _ _ _ _).mono ?_; rintro e wy ⟨rfl, hEy⟩; have hEq : Ext wr wy := (by (with_reducible (repeat (first | exact Ext.refl _ | assumption | apply Ext.alloc | apply Ext.drew | exact ext_plus _ _ | (apply Ext.setCell; rotate_left; (simp <;> omega)) | (apply Ext.trans; rotate_left; exact ext_plus _ _) | (apply Ext.trans; rotate_left; assumption))))); have k0 := (hV.ext hEq).cell; have k1 := (hV.ext hEq).lt))
            go_ret
            exact ⟨ret_bool (by rw [HIB.out]; unfold restB; rw [x0, x1, x2']; rfl), by (with_reducible (repeat (first | exact Ext.refl _ | assumption | apply Ext.alloc | apply Ext.drew | exact ext_plus _ _ | (apply Ext.setCell; rotate_left; (simp <;> omega)) | (apply Ext.trans; rotate_left; exact ext_plus _ _) | (apply Ext.trans; rotate_left; assumption))))⟩
          by_cases x3 : within i.sand 0 10000000 = true
          rotate_left
          · have x3' : within i.sand 0 10000000 = false := by simpa using x3
            clear x3
            go_wp2_with (first | (go_at_call 69; refine (rin_any _ _ _ _).mono ?_; rintro e wy ⟨rfl, rfl⟩) | (go_at_call 70; refine (rspan_any _ _ _ _).mono ?_; rintro e wy ⟨rfl, hEy⟩; have hEq : Ext wr wy := (by (with_reducible (repeat (first | exact Ext.refl _ | assumption | apply Ext.alloc | apply Ext.drew | exact ext_plus _ _ | (apply Ext.setCell; rotate_left; (simp <;> omega)) | (apply Ext.trans; rotate_left; exact ext_plus _ _) | (apply Ext.trans; rotate_left; assumption))))); have k0 := (hV.ext hEq).cell; have k1 := (hV.ext hEq).lt))
            go_ret
            exact ⟨ret_bool (by rw [HIB.out]; unfold restB; rw [x0, x1, x2, x3']; rfl), by (with_reducible (repeat (first | exact Ext.refl _ | assumption | apply Ext.alloc | apply Ext.drew | exact ext_plus _ _ | (apply Ext.setCell; rotate_left; (simp <;> omega)) | (apply Ext.trans; rotate_left; exact ext_plus _ _) | (apply Ext.trans; rotate_left; assumption))))⟩
          by_cases x4 : spanB i.kl i.kh 1000 = true
          rotate_left
          · have x4' : spanB i.kl i.kh 1000 = false := by simpa using x4
            clear x4
            go_wp2_with (first | (go_at_call 69; refine (rin_any _ _ _ _).mono ?_; rintro e wy ⟨rfl, rfl⟩) | (go_at_call 70; refine (rspan_any _ _ _ _).mono ?_; rintro e wy ⟨rfl, hEy⟩; have hEq : Ext wr wy := (by (with_reducible (repeat (first | exact Ext.refl _ | assumption | apply Ext.alloc | apply Ext.drew | exact ext_plus _ _ | (apply Ext.setCell; rotate_left; (simp <;> omega)) | (apply Ext.trans; rotate_left; exact ext_plus _ _) | (apply Ext.trans; rotate_left; assumption))))); have k0 := (hV.ext hEq).cell; have k1 := (hV.ext hEq).lt))
            go_ret
            exact ⟨ret_bool (by rw [HIB.out]; unfold restB; rw [x0, x1, x2, x3, x4']; rfl), by (with_reducible (repeat (first | exact Ext.refl _ | assumption | apply Ext.alloc | apply Ext.drew | exact ext_plus _ _ | (apply Ext.setCell; rotate_left; (simp <;> omega)) | (apply Ext.trans; rotate_left; exact ext_plus _ _) | (apply Ext.trans; rotate_left; assumption))))⟩
          by_cases x5 : spanB i.ll i.lh 1000 = true
          rotate_left
          · have x5' : spanB i.ll i.lh 1000 = false := by simpa using x5
            clear x5
            go_wp2_with (first | (go_at_call 69; refine (rin_any _ _ _ _).mono ?_; rintro e wy ⟨rfl, rfl⟩) | (go_at_call 70; refine (rspan_any _ _ _ _).mono ?_; rintro e wy ⟨rfl, hEy⟩; have hEq : Ext wr wy := (by (with_reducible (repeat (first | exact Ext.refl _ | assumption | apply Ext.alloc | apply Ext.drew | exact ext_plus _ _ | (apply Ext.setCell; rotate_left; (simp <;> omega)) | (apply Ext.trans; rotate_left; exact ext_plus _ _) | (apply Ext.trans; rotate_left; assumption))))); have k0 := (hV.ext hEq).cell; have k1 := (hV.ext hEq).lt))
            go_ret
            exact ⟨ret_bool (by rw [HIB.out]; unfold restB; rw [x0, x1, x2, x3, x4, x5']; rfl), by (with_reducible (repeat (first | exact Ext.refl _ | assumption | apply Ext.alloc | apply Ext.drew | exact ext_plus _ _ | (apply Ext.setCell; rotate_left; (simp <;> omega)) | (apply Ext.trans; rotate_left; exact ext_plus _ _) | (apply Ext.trans; rotate_left; assumption))))⟩
          by_cases x6 : within i.pump 0 10000000 = true
          rotate_left
          · have x6' : within i.pump 0 10000000 = false := by simpa using x6
            clear x6
            go_wp2_with (first | (go_at_call 69; refine (rin_any _ _ _ _).mono ?_; rintro e wy ⟨rfl, rfl⟩) | (go_at_call 70; refine (rspan_any _ _ _ _).mono ?_; rintro e wy ⟨rfl, hEy⟩; have hEq : Ext wr wy := (by (with_reducible (repeat (first | exact Ext.refl _ | assumption | apply Ext.alloc | apply Ext.drew | exact ext_plus _ _ | (apply Ext.setCell; rotate_left; (simp <;> omega)) | (apply Ext.trans; rotate_left; exact ext_plus _ _) | (apply Ext.trans; rotate_left; assumption))))); have k0 := (hV.ext hEq).cell; have k1 := (hV.ext hEq).lt))
            go_ret
            exact ⟨ret_bool (by rw [HIB.out]; unfold restB; rw [x0, x1, x2, x3, x4, x5, x6']; rfl), by (with_reducible (repeat (first | exact Ext.refl _ | assumption | apply Ext.alloc | apply Ext.drew | exact ext_plus _ _ | (apply Ext.setCell; rotate_left; (simp <;> omega)) | (apply Ext.trans; rotate_left; exact ext_plus _ _) | (apply Ext.trans; rotate_left; assumption))))⟩
          by_cases x7 : within i.size 0 10000000 = true
          rotate_left
          · have x7' : within i.size 0 10000000 = false := by simpa using x7
            clear x7
            go_wp2_with (first | (go_at_call 69; refine (rin_any _ _ _ _).mono ?_; rintro e wy ⟨rfl, rfl⟩) | (go_at_call 70; refine (rspan_any _ _ _ _).mono ?_; rintro e wy ⟨rfl, hEy⟩; have hEq : Ext wr wy := (by (with_reducible (repeat (first | exact Ext.refl _ | assumption | apply Ext.alloc | apply Ext.drew | exact ext_plus _ _ | (apply Ext.setCell; rotate_left; (simp <;> omega)) | (apply Ext.trans; rotate_left; exact ext_plus _ _) | (apply Ext.trans; rotate_left; assumption))))); have k0 := (hV.ext hEq).cell; have k1 := (hV.ext hEq).lt))
            go_ret
            exact ⟨ret_bool (by rw [HIB.out]; unfold restB; rw [x0, x1, x2, x3, x4, x5, x6, x7']; rfl), by (with_reducible (repeat (first | exact Ext.refl _ | assumption | apply Ext.alloc | apply Ext.drew | exact ext_plus _ _ | (apply Ext.setCell; rotate_left; (simp <;> omega)) | (apply Ext.trans; rotate_left; exact ext_plus _ _) | (apply Ext.trans; rotate_left; assumption))))⟩
          by_cases x8 : within i.keep 0 i.cap = true
          rotate_left
          · have x8' : within i.keep 0 i.cap = false := by simpa using x8
            clear x8
            go_wp2_with (first | (go_at_call 69; refine (rin_any _ _ _ _).mono ?_; rintro e wy ⟨rfl, rfl⟩) | (go_at_call 70; refine (rspan_any _ _ _ _).mono ?_; rintro e wy ⟨rfl, hEy⟩; have hEq : Ext wr wy := (by (with_reducible (repeat (first | exact Ext.refl _ | assumption | apply Ext.alloc | apply Ext.drew | exact ext_plus _ _ | (apply Ext.setCell; rotate_left; (simp <;> omega)) | (apply Ext.trans; rotate_left; exact ext_plus _ _) | (apply Ext.trans; rotate_left; assumption))))); have k0 := (hV.ext hEq).cell; have k1 := (hV.ext hEq).lt))
            go_ret
            exact ⟨ret_bool (by rw [HIB.out]; unfold restB; rw [x0, x1, x2, x3, x4, x5, x6, x7, x8']; rfl), by (with_reducible (repeat (first | exact Ext.refl _ | assumption | apply Ext.alloc | apply Ext.drew | exact ext_plus _ _ | (apply Ext.setCell; rotate_left; (simp <;> omega)) | (apply Ext.trans; rotate_left; exact ext_plus _ _) | (apply Ext.trans; rotate_left; assumption))))⟩
          by_cases x9 : (i.wells.length : Int) ≤ 4
          rotate_left
          · have x9' : decide (i.wells.length ≤ 4) = false := decide_eq_false (by omega)
            go_wp2_with (first | (go_at_call 69; refine (rin_any _ _ _ _).mono ?_; rintro e wy ⟨rfl, rfl⟩) | (go_at_call 70; refine (rspan_any _ _ _ _).mono ?_; rintro e wy ⟨rfl, hEy⟩; have hEq : Ext wr wy := (by (with_reducible (repeat (first | exact Ext.refl _ | assumption | apply Ext.alloc | apply Ext.drew | exact ext_plus _ _ | (apply Ext.setCell; rotate_left; (simp <;> omega)) | (apply Ext.trans; rotate_left; exact ext_plus _ _) | (apply Ext.trans; rotate_left; assumption))))); have k0 := (hV.ext hEq).cell; have k1 := (hV.ext hEq).lt))
            go_ret
            exact ⟨ret_bool (by rw [HIB.out]; unfold restB; rw [x0, x1, x2, x3, x4, x5, x6, x7, x8, x9']; rfl), by (with_reducible (repeat (first | exact Ext.refl _ | assumption | apply Ext.alloc | apply Ext.drew | exact ext_plus _ _ | (apply Ext.setCell; rotate_left; (simp <;> omega)) | (apply Ext.trans; rotate_left; exact ext_plus _ _) | (apply Ext.trans; rotate_left; assumption))))⟩
          by_cases x10 : within i.months.length 1 8 = true
          rotate_left
          · have x10' : within i.months.length 1 8 = false := by simpa using x10
            clear x10
            go_wp2_with (first | (go_at_call 69; refine (rin_any _ _ _ _).mono ?_; rintro e wy ⟨rfl, rfl⟩) | (go_at_call 70; refine (rspan_any _ _ _ _).mono ?_; rintro e wy ⟨rfl, hEy⟩; have hEq : Ext wr wy := (by (with_reducible (repeat (first | exact Ext.refl _ | assumption | apply Ext.alloc | apply Ext.drew | exact ext_plus _ _ | (apply Ext.setCell; rotate_left; (simp <;> omega)) | (apply Ext.trans; rotate_left; exact ext_plus _ _) | (apply Ext.trans; rotate_left; assumption))))); have k0 := (hV.ext hEq).cell; have k1 := (hV.ext hEq).lt))
            go_ret
            exact ⟨ret_bool (by rw [HIB.out]; unfold restB; rw [x0, x1, x2, x3, x4, x5, x6, x7, x8, (show decide (i.wells.length ≤ 4) = true from decide_eq_true (by omega)), x10']; rfl), by (with_reducible (repeat (first | exact Ext.refl _ | assumption | apply Ext.alloc | apply Ext.drew | exact ext_plus _ _ | (apply Ext.setCell; rotate_left; (simp <;> omega)) | (apply Ext.trans; rotate_left; exact ext_plus _ _) | (apply Ext.trans; rotate_left; assumption))))⟩
          by_cases x11 : within i.most 0 i.months.length = true
          rotate_left
          · have x11' : within i.most 0 i.months.length = false := by simpa using x11
            clear x11
            go_wp2_with (first | (go_at_call 69; refine (rin_any _ _ _ _).mono ?_; rintro e wy ⟨rfl, rfl⟩) | (go_at_call 70; refine (rspan_any _ _ _ _).mono ?_; rintro e wy ⟨rfl, hEy⟩; have hEq : Ext wr wy := (by (with_reducible (repeat (first | exact Ext.refl _ | assumption | apply Ext.alloc | apply Ext.drew | exact ext_plus _ _ | (apply Ext.setCell; rotate_left; (simp <;> omega)) | (apply Ext.trans; rotate_left; exact ext_plus _ _) | (apply Ext.trans; rotate_left; assumption))))); have k0 := (hV.ext hEq).cell; have k1 := (hV.ext hEq).lt))
            go_ret
            exact ⟨ret_bool (by rw [HIB.out]; unfold restB; rw [x0, x1, x2, x3, x4, x5, x6, x7, x8, (show decide (i.wells.length ≤ 4) = true from decide_eq_true (by omega)), x10, x11']; rfl), by (with_reducible (repeat (first | exact Ext.refl _ | assumption | apply Ext.alloc | apply Ext.drew | exact ext_plus _ _ | (apply Ext.setCell; rotate_left; (simp <;> omega)) | (apply Ext.trans; rotate_left; exact ext_plus _ _) | (apply Ext.trans; rotate_left; assumption))))⟩
          by_cases x12 : within i.row 0 i.months.length = true
          rotate_left
          · have x12' : within i.row 0 i.months.length = false := by simpa using x12
            clear x12
            go_wp2_with (first | (go_at_call 69; refine (rin_any _ _ _ _).mono ?_; rintro e wy ⟨rfl, rfl⟩) | (go_at_call 70; refine (rspan_any _ _ _ _).mono ?_; rintro e wy ⟨rfl, hEy⟩; have hEq : Ext wr wy := (by (with_reducible (repeat (first | exact Ext.refl _ | assumption | apply Ext.alloc | apply Ext.drew | exact ext_plus _ _ | (apply Ext.setCell; rotate_left; (simp <;> omega)) | (apply Ext.trans; rotate_left; exact ext_plus _ _) | (apply Ext.trans; rotate_left; assumption))))); have k0 := (hV.ext hEq).cell; have k1 := (hV.ext hEq).lt))
            go_ret
            exact ⟨ret_bool (by rw [HIB.out]; unfold restB; rw [x0, x1, x2, x3, x4, x5, x6, x7, x8, (show decide (i.wells.length ≤ 4) = true from decide_eq_true (by omega)), x10, x11, x12']; rfl), by (with_reducible (repeat (first | exact Ext.refl _ | assumption | apply Ext.alloc | apply Ext.drew | exact ext_plus _ _ | (apply Ext.setCell; rotate_left; (simp <;> omega)) | (apply Ext.trans; rotate_left; exact ext_plus _ _) | (apply Ext.trans; rotate_left; assumption))))⟩
          go_wp2_with (first | (go_at_call 69; refine (rin_any _ _ _ _).mono ?_; rintro e wy ⟨rfl, rfl⟩) | (go_at_call 70; refine (rspan_any _ _ _ _).mono ?_; rintro e wy ⟨rfl, hEy⟩; have hEq : Ext wr wy := (by (with_reducible (repeat (first | exact Ext.refl _ | assumption | apply Ext.alloc | apply Ext.drew | exact ext_plus _ _ | (apply Ext.setCell; rotate_left; (simp <;> omega)) | (apply Ext.trans; rotate_left; exact ext_plus _ _) | (apply Ext.trans; rotate_left; assumption))))); have k0 := (hV.ext hEq).cell; have k1 := (hV.ext hEq).lt))
          go_ret
          exact ⟨ret_bool (by rw [HIB.out]; unfold restB; rw [x0, x1, x2, x3, x4, x5, x6, x7, x8, (show decide (i.wells.length ≤ 4) = true from decide_eq_true (by omega)), x10, x11, x12]; rfl), by (with_reducible (repeat (first | exact Ext.refl _ | assumption | apply Ext.alloc | apply Ext.drew | exact ext_plus _ _ | (apply Ext.setCell; rotate_left; (simp <;> omega)) | (apply Ext.trans; rotate_left; exact ext_plus _ _) | (apply Ext.trans; rotate_left; assumption))))⟩
end Go.Proofs.YtgloajbgphcloaaGreat.Ln
