/- The lens: whether a truth is one of an islet; the play of a truth (its error). -/
import Derived.Test.YtgloajbgphcloaaGreatLnB
namespace Go.Proofs.YtgloajbgphcloaaGreat.Ln
set_option linter.unusedVariables false
set_option linter.unusedSimpArgs false
open Go.RowKit Go.Shelf
attribute [local go_sem] Oper.semAt_some
theorem tanked_zero (i : Islet) (vw vm : Value) (w : World) (hW : Ints w vw i.wells) (hM : Months w vm i.months) (hwl : i.wells.length ≤ 1000000) (hml : i.months.length ≤ 1000000) (hok : islB i = true) :
    Calls Tryz.prog 72 #[.agg (islV i vw vm), .int .i64 0] w fun e w' => e = .returned (.int .i64 0) ∧ Ext w w' := by
  have hv := fun W hE => valid_any i vw vm W (hW.ext hE) (hM.ext hE) hwl hml
  simp only [hok] at hv
  have HV := Lib.hid hv
  have q1 : within 0 0 40 = true := by decide
  obtain ⟨aw, cw, rfl, _⟩ := hW
  obtain ⟨am, cm, rfl, _⟩ := hM
  clear hv hok
  go_enter Tryz.func72, Tryz.ntmps72
  go_wp2_with (first | (go_at_call 121; refine (HV.out _ (by (with_reducible (repeat (first | exact Ext.refl _ | assumption | apply Ext.alloc | apply Ext.drew | exact ext_plus _ _ | (apply Ext.setCell; rotate_left; (simp <;> omega)) | (apply Ext.trans; rotate_left; exact ext_plus _ _) | (apply Ext.trans; rotate_left; assumption)))))).mono ?_; rintro e w1 ⟨rfl, hE1⟩) | (go_at_call 143; refine (in_any _ _ _ _).mono ?_; rintro e w' ⟨rfl, rfl⟩))
  go_ret
  exact ⟨rfl, by (with_reducible (repeat (first | exact Ext.refl _ | assumption | apply Ext.alloc | apply Ext.drew | exact ext_plus _ _ | (apply Ext.setCell; rotate_left; (simp <;> omega)) | (apply Ext.trans; rotate_left; exact ext_plus _ _) | (apply Ext.trans; rotate_left; assumption))))⟩
set_option maxRecDepth 100000 in
set_option maxHeartbeats 8000000 in
theorem isTruth_any (i : Islet) (t : Truth) (aw : Option Addr) (nw kw : Nat) (vm vd vr vn : Value) (w : World) (hM : Months w vm i.months) (hD : Bools w vd t.dry) (hR : Ints w vr t.rains) (hN : Ints w vn t.needs)
    (hml : i.months.length ≤ 1000000) (h1 : t.dry.length = i.months.length) (h2 : t.rains.length = i.months.length) (h3 : t.needs.length = i.months.length)
    (hgood : ∀ k, k < i.months.length → monthT i t k = true) (hs : within t.start i.sl i.sh = true) (hk : within t.soak i.kl i.kh = true) (hl : within t.leak i.ll i.lh = true) :
    Calls Tryz.prog 73 #[.agg (islV i (.slice aw nw kw) vm), .agg (trV t vd vr vn)] w fun e w' => e = .returned (.bool (possible i t.dry)) ∧ Ext w w' := by
  have hM' := hM
  obtain ⟨am, cm, rfl, hxm⟩ := hM'
  have hpo := fun W (hE : Ext w W) => possible_any i (.slice aw nw kw) (.slice am i.months.length cm) vd t.dry W ⟨_, _, _, rfl⟩ ⟨_, _, _, rfl⟩ (hD.ext hE) (by omega)
  obtain ⟨ad, cd, rfl, hxd⟩ := hD
  obtain ⟨ar, cr, rfl, hxr⟩ := hR
  obtain ⟨an, cn, rfl, hxn⟩ := hN
  have HXM := Lib.hid hxm
  have HXD := Lib.hid hxd
  have HXR := Lib.hid hxr
  have HXN := Lib.hid hxn
  have HG := Lib.hid hgood
  have H1 := Lib.hid h1
  have H2 := Lib.hid h2
  have H3 := Lib.hid h3
  rw [h1] at hpo ⊢
  rw [h2, h3]
  obtain ⟨N, hNN⟩ : ∃ N, i.months.length = N := ⟨_, rfl⟩
  rw [hNN] at hpo hml ⊢
  have HNN := Lib.hid hNN
  obtain ⟨B, hB⟩ : ∃ B, possible i t.dry = B := ⟨_, rfl⟩
  simp only [hB] at hpo ⊢
  have HPO := Lib.hid hpo
  clear hM hxm hxd hxr hxn hgood h1 h2 h3 hNN hB hpo
  have hpc := plus_cell
  go_enter Tryz.func73, Tryz.ntmps73
  go_upto_region 2 with (fail)
  obtain ⟨n0, hn0⟩ : ∃ n, w.heap.size = n := ⟨_, rfl⟩
  obtain ⟨w1, hw1⟩ : ∃ y, (w.alloc (.cells (islV i (.slice aw nw kw) (.slice am N cm)) 52)).alloc (.cells (trV t (.slice ad N cd) (.slice ar N cr) (.slice an N cn)) 58) = y := ⟨_, rfl⟩
  have hV1 : Blk w1 n0 (islV i (.slice aw nw kw) (.slice am N cm)) 52 := by rw [← hw1]; exact (Blk.new' hn0.symm _ _).alloc _
  have hT1 : Blk w1 (n0 + 1) (trV t (.slice ad N cd) (.slice ar N cr) (.slice an N cn)) 58 := by rw [← hw1]; exact Blk.new' (by simp [hn0]) _ _
  have hE1 : Ext w w1 := by rw [← hw1]; (with_reducible (repeat (first | exact Ext.refl _ | assumption | apply Ext.alloc | apply Ext.drew | exact ext_plus _ _ | (apply Ext.setCell; rotate_left; (simp <;> omega)) | (apply Ext.trans; rotate_left; exact ext_plus _ _) | (apply Ext.trans; rotate_left; assumption))))
  simp only [hw1, hn0]
  clear hw1 hn0
  have k0 := hV1.cell
  have k1 := hV1.lt
  have k2 := hT1.cell
  have k3 := hT1.lt
  cases B with
  | false =>
    go_wp2_with (first | (go_at_call 144; refine (HPO.out _ hE1).mono ?_; rintro e w2 ⟨rfl, hE2⟩))
    go_ret
    exact ⟨rfl, by (with_reducible (repeat (first | exact Ext.refl _ | assumption | apply Ext.alloc | apply Ext.drew | exact ext_plus _ _ | (apply Ext.setCell; rotate_left; (simp <;> omega)) | (apply Ext.trans; rotate_left; exact ext_plus _ _) | (apply Ext.trans; rotate_left; assumption))))⟩
  | true =>
    go_wp2_with (first | (go_at_call 144; refine (HPO.out _ hE1).mono ?_; rintro e w2 ⟨rfl, hE2⟩; (clear k0 k1 k2 k3); have k0 := (hV1.ext hE2).cell; have k1 := (hV1.ext hE2).lt))
    clear k0 k1
    go_loopw [40] (fun s wr => ∃ k : Nat, k ≤ N ∧ s = .int .i64 k ∧ Ext w1 wr) (fun s _ => N - (intOf s).toNat)
    case atStart => exact ⟨0, Nat.zero_le _, rfl, hE2⟩
    case round =>
      rename World => wr
      obtain ⟨k, hk, rfl, hE⟩ := hrel
      have hV := hV1.ext hE
      have hT := hT1.ext hE
      by_cases hlt : k < N
      · have hkM : k < i.months.length := by rw [HNN.out]; exact hlt
        have hkD : k < t.dry.length := by rw [H1.out]; exact hkM
        have hkR : k < t.rains.length := by rw [H2.out]; exact hkM
        have hkN : k < t.needs.length := by rw [H3.out]; exact hkM
        have hEw := hE1.trans hE
        have hg := HG.out k hkM
        unfold monthT at hg
        rw [iat_get hkR, iat_get hkN, mat_get hkM, bat_get hkD, Bool.and_eq_true] at hg
        obtain ⟨b1, o1, rfl, hb1, g1⟩ := HXM.out k hkM
        obtain ⟨b2, o2, rfl, hb2, g2⟩ := HXD.out k hkD
        obtain ⟨b3, o3, rfl, hb3, g3⟩ := HXR.out k hkR
        obtain ⟨b4, o4, rfl, hb4, g4⟩ := HXN.out k hkN
        have f1 := ate_stays _ _ _ _ _ _ hEw hb1 g1
        have f2 := (ate_stays _ _ _ _ _ _ hEw hb2 g2) 0 _ rfl
        have f3 := (hEw.cells.1 _ _ hb3).trans g3
        have f4 := (hEw.cells.1 _ _ hb4).trans g4
        have e1 := Nat.lt_of_lt_of_le hb1 hEw.size
        have e2 := Nat.lt_of_lt_of_le hb2 hEw.size
        have e3 := Nat.lt_of_lt_of_le hb3 hEw.size
        have e4 := Nat.lt_of_lt_of_le hb4 hEw.size
        simp only [Nat.mul_one, Nat.add_zero] at f2
        obtain ⟨m, hm⟩ : ∃ m, i.months[k] = m := ⟨_, rfl⟩
        obtain ⟨x, hx⟩ : ∃ x, t.dry[k] = x := ⟨_, rfl⟩
        obtain ⟨r, hr⟩ : ∃ r, t.rains[k] = r := ⟨_, rfl⟩
        obtain ⟨nn, hn⟩ : ∃ r, t.needs[k] = r := ⟨_, rfl⟩
        rw [hm, hx, hr, hn] at hg
        rw [hm] at f1
        rw [hx] at f2
        rw [hr] at f3
        rw [hn] at f4
        obtain ⟨c0, c1, c2, c3, c4, c5⟩ := month_cells f1
        have HI1 := Lib.hid (fun W => (hg.1 ▸ inside_any r (rainLo m x) (rainHi m x) W : Calls Tryz.prog 145 #[.int .i64 r, .agg #[.int .i64 (rainLo m x), .int .i64 (rainHi m x)]] W fun e w' => e = .returned (.bool true) ∧ Ext W w'))
        have HI2 := Lib.hid (fun W => (hg.2 ▸ inside_any nn m.nl m.nh W : Calls Tryz.prog 145 #[.int .i64 nn, .agg #[.int .i64 m.nl, .int .i64 m.nh]] W fun e w' => e = .returned (.bool true) ∧ Ext W w'))
        clear hg hm hx hr hn g1 g2 g3 g4 hb1 hb2 hb3 hb4 f1
        go_upto_region 7 with (fail)
        obtain ⟨bm, hbm⟩ : ∃ n, wr.heap.size = n := ⟨_, rfl⟩
        obtain ⟨w3, hw3⟩ : ∃ y, wr.alloc (.cells (monthV m) 63) = y := ⟨_, rfl⟩
        have hMb : Blk w3 bm (monthV m) 63 := by rw [← hw3]; exact Blk.new' hbm.symm _ _
        have hE3 : Ext wr w3 := by rw [← hw3]; (with_reducible (repeat (first | exact Ext.refl _ | assumption | apply Ext.alloc | apply Ext.drew | exact ext_plus _ _ | (apply Ext.setCell; rotate_left; (simp <;> omega)) | (apply Ext.trans; rotate_left; exact ext_plus _ _) | (apply Ext.trans; rotate_left; assumption))))
        simp only [hbm, hw3]
        have h2' := (hE3.cells.1 _ _ e2).trans f2
        have h3' := (hE3.cells.1 _ _ e3).trans f3
        have h4' := (hE3.cells.1 _ _ e4).trans f4
        have e2' := Nat.lt_of_lt_of_le e2 hE3.size
        have e3' := Nat.lt_of_lt_of_le e3 hE3.size
        have e4' := Nat.lt_of_lt_of_le e4 hE3.size
        clear hbm hw3 c0 c1 c2 c3 c4 c5 e1 e2 e3 e4 f2 f3 f4
        have k0 := hMb.cell
        have k1 := hMb.lt
        have k2 := (hT.ext hE3).cell
        have k3 := (hT.ext hE3).lt
        refine wp_region_ext 25 (fun _ _ d _ _ h => by cases d <;> exact h) (by kernel_rfl) (by kernel_rfl) (by kernel_rfl) (by kernel_rfl) ?_
        (try simp only [List.append_eq, List.cons_append, List.nil_append])
        simp only [List.take_succ_cons, List.take_zero, List.drop_succ_cons, List.drop_zero]
        repeat (any_goals (first | go_big_quiet_step ((first | (go_at_call 146; exact ext_quiet (rain_any m x _)) | (go_at_call 145; exact ext_quiet (HI1.out _)) | (go_at_call 145; exact ext_quiet (HI2.out _)))) | quiet_step ((first | (go_at_call 146; exact ext_quiet (rain_any m x _)) | (go_at_call 145; exact ext_quiet (HI1.out _)) | (go_at_call 145; exact ext_quiet (HI2.out _))))))
        all_goals (refine wpQuiet_nil ?_; intro w4 hE4)
        clear k0 k1 k2 k3
        go_wp2
        go_roundw
        case rel => exact ⟨k + 1, by omega, by go_num, (hE.trans hE3).trans hE4⟩
        case measure => simp [intOf]; omega
      · obtain rfl : k = N := by omega
        have k0 := hV.cell
        have k1 := hV.lt
        have k2 := hT.cell
        have k3 := hT.lt
        go_wp2_with (first | (go_at_call 145; refine (inside_any _ _ _ _).mono ?_; rintro e wz ⟨rfl, hEz⟩; have hEq : Ext wr wz := (by (with_reducible (repeat (first | exact Ext.refl _ | assumption | apply Ext.alloc | apply Ext.drew | exact ext_plus _ _ | (apply Ext.setCell; rotate_left; (simp <;> omega)) | (apply Ext.trans; rotate_left; exact ext_plus _ _) | (apply Ext.trans; rotate_left; assumption))))); (clear k0 k1 k2 k3); have k0 := (hV.ext hEq).cell; have k1 := (hV.ext hEq).lt; have k2 := (hT.ext hEq).cell; have k3 := (hT.ext hEq).lt))
        go_ret
        exact ⟨rfl, by (with_reducible (repeat (first | exact Ext.refl _ | assumption | apply Ext.alloc | apply Ext.drew | exact ext_plus _ _ | (apply Ext.setCell; rotate_left; (simp <;> omega)) | (apply Ext.trans; rotate_left; exact ext_plus _ _) | (apply Ext.trans; rotate_left; assumption))))⟩
end Go.Proofs.YtgloajbgphcloaaGreat.Ln
