/- ReefMore: the law. -/
import Derived.Test.YthffoglpekpmdaaL11a
namespace Go.Proofs.Ythffoglpekpmdaa
set_option linter.unusedVariables false
set_option linter.unusedSimpArgs false
open Go.RowKit

set_option maxRecDepth 100000 in
set_option maxHeartbeats 32000000 in
theorem reefMore1_law (r : R.Reef) (vr : Value) (plan : List Int) (vp : Value) (season : Int) (hwfseason : (Lit.int .i64 season).wf = true) (place : Int) (hwfplace : (Lit.int .i64 place).wf = true) (low : Int) (hwflow : (Lit.int .i64 low).wf = true) (high : Int) (hwfhigh : (Lit.int .i64 high).wf = true) (faster : Int) (hwffaster : (Lit.int .i64 faster).wf = true) (w : World) (hP : Places w vr r.places) (hL : Ints w vp plan) (hTi : Tight vp) (hsh : shortR r = true) (hpl : plan.length ≤ 8) (hA : rightB r plan = true) (cd0 : ¬ season < 0) (cd1 : ¬ r.seasons ≤ season) (cd2 : ¬ place < 0) (cd3 : ¬ (r.places.length : Int) ≤ place) (cd4 : ¬ low < 0) (cd5 : ¬ high < low) (cd6 : ¬ (100 : Int) < high) (cd7 : ¬ faster < 0) (cd8 : ¬ (2000 : Int) < faster) (hhas : R.has (R.iat plan season.toNat) place.toNat = true) :
    Calls Try.prog 11 #[.agg (reefV r vr), vp, .int .i64 season, .int .i64 place, .int .i64 low, .int .i64 high, .int .i64 faster] w fun e w' => e = .returned (.bool true) ∧ Ext w w' := by
  have hP' := hP
  have hL' := hL
  obtain ⟨a1, c1, rfl, hPx⟩ := hP'
  obtain ⟨a2, c2, rfl, hLx⟩ := hL'
  have HPX := Lib.hid hPx
  have HLX := Lib.hid hLx
  clear hPx hLx
  obtain ⟨w1, hw1⟩ : ∃ w1, (w.alloc (.cells (reefV r (.slice a1 r.places.length c1)) 24)) = w1 := ⟨_, rfl⟩
  have hE1 : Ext w w1 := by rw [← hw1]; (with_reducible (repeat (first | exact Ext.refl _ | assumption | apply Ext.alloc | apply Ext.drew | exact ext_plus _ _ | (apply Ext.setCell; rotate_left; (simp <;> omega)) | (apply Ext.trans; rotate_left; exact ext_plus _ _) | (apply Ext.trans; rotate_left; assumption))))
  have hb0 : Blk w1 (w.heap.size) (reefV r (.slice a1 r.places.length c1)) 24 := by rw [← hw1]; exact Blk.new' rfl _ _
  have hbx := fun y (hy : Ext w1 y) => (⟨(hb0.ext hy).cell, (hb0.ext hy).lt⟩ : (∀ o, y.cell? ⟨w.heap.size, o, none⟩ = _) ∧ w.heap.size < y.heap.size)
  have HBX := Lib.hid hbx
  have HBB := Lib.hid (fun y (hy : Ext w1 y) => hb0.ext hy)
  have HW1 := Lib.hid hw1
  clear hw1 hb0 hbx
  clear hwfseason hwfplace hwflow hwfhigh hwffaster
  have hs := fun w' (hx : Ext w w') => short_any r _ w' (hP.ext hx)
  rw [hsh] at hs
  have HS := Lib.hid hs
  clear hs
  have hpi : ¬ (8 : Int) < plan.length := by omega
  have hn8 : r.places.length ≤ 8 := by simpa [shortR] using hsh
  have hask := fun w' (hx : Ext w w') => asked_any r plan _ _ w' (hP.ext hx) (hL.ext hx) hn8 (by omega)
  rw [hA] at hask
  have HA := Lib.hid hask
  clear hask
  obtain ⟨s, rfl⟩ := Int.eq_ofNat_of_zero_le (show 0 ≤ season by omega)
  obtain ⟨k, rfl⟩ := Int.eq_ofNat_of_zero_le (show 0 ≤ place by omega)
  have hk : k < r.places.length := by omega
  have hR := hA
  unfold rightB at hR
  rw [Bool.and_eq_true] at hR
  have O := R.okR_of hR.1
  have OL := R.okL_iff.1 hR.2
  have hn4 := O.n4
  have hpl1 : plan.length ≤ 8 := hpl
  have hs : s < plan.length := by have := OL.len; omega
  have hOL := OL.bit s hs
  have h16 := R.two_pow _ hn4
  obtain ⟨x, hx⟩ : ∃ x, plan[s] = x := ⟨_, rfl⟩
  rw [hx] at hOL
  have HXX := Lib.hid hx
  have hha := fun w' => dhas_any x k w' hOL.1 (by omega) (by omega)
  have hAM : rightB r (R.moreL plan s k) = true := by unfold rightB; rw [hR.1, R.okL_iff.2 (R.moreL_ok O OL hs hk)]; rfl
  have e0 : R.iat plan s = x := by rw [R.iat_at hs, hx]
  rw [Int.toNat_natCast, Int.toNat_natCast, e0] at hhas
  simp only [hhas] at hha
  have HHA := Lib.hid hha
  have hmo : R.moreL plan s k = plan := by unfold R.moreL; rw [e0, hhas]; rfl
  have HMO := Lib.hid hmo
  have HXB := Lib.hid (show 0 ≤ x ∧ x ≤ 16 by omega)
  clear hha hmo hR hsh hOL h16 hx e0 hhas
  go_enter Try.func11, Try.ntmps11
  go_upto_region 1 with (fail)
  rw [HW1.out]
  obtain ⟨k0, l0⟩ := HBX.out w1 (Ext.refl _)
  go_upto_region 3 with (first | (go_at_call 15; refine (HS.out _ (by (with_reducible (repeat (first | exact Ext.refl _ | assumption | apply Ext.alloc | apply Ext.drew | exact ext_plus _ _ | (apply Ext.setCell; rotate_left; (simp <;> omega)) | (apply Ext.trans; rotate_left; exact ext_plus _ _) | (apply Ext.trans; rotate_left; assumption)))))).mono ?_; rintro e w2 ⟨rfl, hb2⟩; (try clear k0 l0); obtain ⟨k0, l0⟩ := HBX.out w2 (by (with_reducible (repeat (first | exact Ext.refl _ | assumption | apply Ext.alloc | apply Ext.drew | exact ext_plus _ _ | (apply Ext.setCell; rotate_left; (simp <;> omega)) | (apply Ext.trans; rotate_left; exact ext_plus _ _) | (apply Ext.trans; rotate_left; assumption)))))) | (go_at_call 19; refine (HA.out _ (by (with_reducible (repeat (first | exact Ext.refl _ | assumption | apply Ext.alloc | apply Ext.drew | exact ext_plus _ _ | (apply Ext.setCell; rotate_left; (simp <;> omega)) | (apply Ext.trans; rotate_left; exact ext_plus _ _) | (apply Ext.trans; rotate_left; assumption)))))).mono ?_; rintro e w3 ⟨rfl, hb3⟩; (try clear k0 l0); obtain ⟨k0, l0⟩ := HBX.out w3 (by (with_reducible (repeat (first | exact Ext.refl _ | assumption | apply Ext.alloc | apply Ext.drew | exact ext_plus _ _ | (apply Ext.setCell; rotate_left; (simp <;> omega)) | (apply Ext.trans; rotate_left; exact ext_plus _ _) | (apply Ext.trans; rotate_left; assumption)))))))
  have hE13 : Ext w1 w3 := hb2.trans hb3
  have hE03 := hE1.trans hE13
  go_upto_region 4 with (first | (at_builtin; refine wpList_append_copy rfl _ _ rfl _ plan rfl rfl (hL.ext (hE1.trans hE13)) hTi (by omega) ?_; intro v4 w4 hown4 hE34))
  obtain ⟨g, cap, rfl, hg0, hg1⟩ := own_pos hown4 (by omega)
  have hM4 : IRow w4 g plan := IRow.of_own hown4
  have hE04 := hE03.trans hE34
  have hE14 := hE13.trans hE34
  clear k0 l0 hown4 hb2 hb3
  obtain ⟨k0, l0⟩ := HBX.out w4 hE14
  obtain ⟨bp, op, rfl, hbp, hcp⟩ := HLX.out s hs
  have ep := (hE04.cells.1 _ _ hbp).trans hcp
  have qp := Nat.lt_of_lt_of_le hbp hE04.size
  rw [HXX.out] at ep
  clear hcp
  have hm0 := hM4.get s hs
  rw [HXX.out] at hm0
  go_upto_if 98 with (first | (go_at_call 39; refine (HHA.out _).mono ?_; rintro e w5 ⟨rfl, rfl⟩))
  go_cut [16, 17] from 89 to 375 (fun s16 s17 wc => IRow wc g (R.moreL plan s k) ∧ Ext w3 wc)
  case first =>
    go_wp2
    go_meet
    exact ⟨by rw [HMO.out]; exact hM4, hE34⟩
  case rest =>
    obtain ⟨hM, hE3c⟩ := hcut
    rename World => w5
    rename Act → World → Prop => KK
    rename ∀ _ _, _ → KK _ _ => hKK
    exact hKK _ _ (moreTail4 r plan _ w w1 _ _ _ _ _ g s k low high faster hP hL hA hAM hE1 (HBB.out w1 (Ext.refl _)) hs hk (by omega) (by omega) (by omega) (by omega) (by omega) rfl w5 hM (hE13.trans hE3c) (Nat.le_trans hE13.size hg0))
set_option maxRecDepth 100000 in
set_option maxHeartbeats 32000000 in
theorem reefMore0_law (r : R.Reef) (vr : Value) (plan : List Int) (vp : Value) (season : Int) (hwfseason : (Lit.int .i64 season).wf = true) (place : Int) (hwfplace : (Lit.int .i64 place).wf = true) (low : Int) (hwflow : (Lit.int .i64 low).wf = true) (high : Int) (hwfhigh : (Lit.int .i64 high).wf = true) (faster : Int) (hwffaster : (Lit.int .i64 faster).wf = true) (w : World) (hP : Places w vr r.places) (hL : Ints w vp plan) (hTi : Tight vp) (hsh : shortR r = true) (hpl : plan.length ≤ 8) (hA : rightB r plan = true) (cd0 : ¬ season < 0) (cd1 : ¬ r.seasons ≤ season) (cd2 : ¬ place < 0) (cd3 : ¬ (r.places.length : Int) ≤ place) (cd4 : ¬ low < 0) (cd5 : ¬ high < low) (cd6 : ¬ (100 : Int) < high) (cd7 : ¬ faster < 0) (cd8 : ¬ (2000 : Int) < faster) (hhas : R.has (R.iat plan season.toNat) place.toNat = false) :
    Calls Try.prog 11 #[.agg (reefV r vr), vp, .int .i64 season, .int .i64 place, .int .i64 low, .int .i64 high, .int .i64 faster] w fun e w' => e = .returned (.bool true) ∧ Ext w w' := by
  have hP' := hP
  have hL' := hL
  obtain ⟨a1, c1, rfl, hPx⟩ := hP'
  obtain ⟨a2, c2, rfl, hLx⟩ := hL'
  have HPX := Lib.hid hPx
  have HLX := Lib.hid hLx
  clear hPx hLx
  obtain ⟨w1, hw1⟩ : ∃ w1, (w.alloc (.cells (reefV r (.slice a1 r.places.length c1)) 24)) = w1 := ⟨_, rfl⟩
  have hE1 : Ext w w1 := by rw [← hw1]; (with_reducible (repeat (first | exact Ext.refl _ | assumption | apply Ext.alloc | apply Ext.drew | exact ext_plus _ _ | (apply Ext.setCell; rotate_left; (simp <;> omega)) | (apply Ext.trans; rotate_left; exact ext_plus _ _) | (apply Ext.trans; rotate_left; assumption))))
  have hb0 : Blk w1 (w.heap.size) (reefV r (.slice a1 r.places.length c1)) 24 := by rw [← hw1]; exact Blk.new' rfl _ _
  have hbx := fun y (hy : Ext w1 y) => (⟨(hb0.ext hy).cell, (hb0.ext hy).lt⟩ : (∀ o, y.cell? ⟨w.heap.size, o, none⟩ = _) ∧ w.heap.size < y.heap.size)
  have HBX := Lib.hid hbx
  have HBB := Lib.hid (fun y (hy : Ext w1 y) => hb0.ext hy)
  have HW1 := Lib.hid hw1
  clear hw1 hb0 hbx
  clear hwfseason hwfplace hwflow hwfhigh hwffaster
  have hs := fun w' (hx : Ext w w') => short_any r _ w' (hP.ext hx)
  rw [hsh] at hs
  have HS := Lib.hid hs
  clear hs
  have hpi : ¬ (8 : Int) < plan.length := by omega
  have hn8 : r.places.length ≤ 8 := by simpa [shortR] using hsh
  have hask := fun w' (hx : Ext w w') => asked_any r plan _ _ w' (hP.ext hx) (hL.ext hx) hn8 (by omega)
  rw [hA] at hask
  have HA := Lib.hid hask
  clear hask
  obtain ⟨s, rfl⟩ := Int.eq_ofNat_of_zero_le (show 0 ≤ season by omega)
  obtain ⟨k, rfl⟩ := Int.eq_ofNat_of_zero_le (show 0 ≤ place by omega)
  have hk : k < r.places.length := by omega
  have hR := hA
  unfold rightB at hR
  rw [Bool.and_eq_true] at hR
  have O := R.okR_of hR.1
  have OL := R.okL_iff.1 hR.2
  have hn4 := O.n4
  have hpl1 : plan.length ≤ 8 := hpl
  have hs : s < plan.length := by have := OL.len; omega
  have hOL := OL.bit s hs
  have h16 := R.two_pow _ hn4
  obtain ⟨x, hx⟩ : ∃ x, plan[s] = x := ⟨_, rfl⟩
  rw [hx] at hOL
  have HXX := Lib.hid hx
  have hha := fun w' => dhas_any x k w' hOL.1 (by omega) (by omega)
  have hAM : rightB r (R.moreL plan s k) = true := by unfold rightB; rw [hR.1, R.okL_iff.2 (R.moreL_ok O OL hs hk)]; rfl
  have e0 : R.iat plan s = x := by rw [R.iat_at hs, hx]
  rw [Int.toNat_natCast, Int.toNat_natCast, e0] at hhas
  simp only [hhas] at hha
  have HHA := Lib.hid hha
  have hmo : R.moreL plan s k = plan.set s (x + 2 ^ k) := by unfold R.moreL; rw [e0, hhas]; rfl
  have HMO := Lib.hid hmo
  have HXB := Lib.hid (show 0 ≤ x ∧ x ≤ 16 by omega)
  clear hha hmo hR hsh hOL h16 hx e0 hhas
  go_enter Try.func11, Try.ntmps11
  go_upto_region 1 with (fail)
  rw [HW1.out]
  obtain ⟨k0, l0⟩ := HBX.out w1 (Ext.refl _)
  go_upto_region 3 with (first | (go_at_call 15; refine (HS.out _ (by (with_reducible (repeat (first | exact Ext.refl _ | assumption | apply Ext.alloc | apply Ext.drew | exact ext_plus _ _ | (apply Ext.setCell; rotate_left; (simp <;> omega)) | (apply Ext.trans; rotate_left; exact ext_plus _ _) | (apply Ext.trans; rotate_left; assumption)))))).mono ?_; rintro e w2 ⟨rfl, hb2⟩; (try clear k0 l0); obtain ⟨k0, l0⟩ := HBX.out w2 (by (with_reducible (repeat (first | exact Ext.refl _ | assumption | apply Ext.alloc | apply Ext.drew | exact ext_plus _ _ | (apply Ext.setCell; rotate_left; (simp <;> omega)) | (apply Ext.trans; rotate_left; exact ext_plus _ _) | (apply Ext.trans; rotate_left; assumption)))))) | (go_at_call 19; refine (HA.out _ (by (with_reducible (repeat (first | exact Ext.refl _ | assumption | apply Ext.alloc | apply Ext.drew | exact ext_plus _ _ | (apply Ext.setCell; rotate_left; (simp <;> omega)) | (apply Ext.trans; rotate_left; exact ext_plus _ _) | (apply Ext.trans; rotate_left; assumption)))))).mono ?_; rintro e w3 ⟨rfl, hb3⟩; (try clear k0 l0); obtain ⟨k0, l0⟩ := HBX.out w3 (by (with_reducible (repeat (first | exact Ext.refl _ | assumption | apply Ext.alloc | apply Ext.drew | exact ext_plus _ _ | (apply Ext.setCell; rotate_left; (simp <;> omega)) | (apply Ext.trans; rotate_left; exact ext_plus _ _) | (apply Ext.trans; rotate_left; assumption)))))))
  have hE13 : Ext w1 w3 := hb2.trans hb3
  have hE03 := hE1.trans hE13
  go_upto_region 4 with (first | (at_builtin; refine wpList_append_copy rfl _ _ rfl _ plan rfl rfl (hL.ext (hE1.trans hE13)) hTi (by omega) ?_; intro v4 w4 hown4 hE34))
  obtain ⟨g, cap, rfl, hg0, hg1⟩ := own_pos hown4 (by omega)
  have hM4 : IRow w4 g plan := IRow.of_own hown4
  have hE04 := hE03.trans hE34
  have hE14 := hE13.trans hE34
  clear k0 l0 hown4 hb2 hb3
  obtain ⟨k0, l0⟩ := HBX.out w4 hE14
  obtain ⟨bp, op, rfl, hbp, hcp⟩ := HLX.out s hs
  have ep := (hE04.cells.1 _ _ hbp).trans hcp
  have qp := Nat.lt_of_lt_of_le hbp hE04.size
  rw [HXX.out] at ep
  clear hcp
  have hm0 := hM4.get s hs
  rw [HXX.out] at hm0
  go_upto_if 98 with (first | (go_at_call 39; refine (HHA.out _).mono ?_; rintro e w5 ⟨rfl, rfl⟩))
  go_cut [16, 17] from 89 to 375 (fun s16 s17 wc => IRow wc g (R.moreL plan s k) ∧ Ext w3 wc)
  case first =>
    have hfr := RowB.free hM4
    have hgl := hg1
    go_wp2
    go_loop [16, 17] (fun b i => ∃ j : Nat, j ≤ k ∧ i = .int .i64 j ∧ b = .int .i64 (2 ^ j)) (fun _ i => k - (intOf i).toNat)
    case atStart => exact ⟨0, Nat.zero_le _, rfl, rfl⟩
    case round =>
      obtain ⟨j, hj, rfl, rfl⟩ := hrel
      have hpw := R.two_pow j (by omega)
      have hps : (2 : Int) ^ (j + 1) = 2 ^ j * 2 := Int.pow_succ _ _
      obtain ⟨P, hP2⟩ : ∃ P : Int, 2 ^ j = P := ⟨_, rfl⟩
      rw [hP2] at hpw hps ⊢
      have HPS := Lib.hid hps
      have HP2 := Lib.hid hP2
      clear hps hP2
      by_cases hlj : j < k
      · go_wp2
        go_round
        case rel => exact ⟨j + 1, by omega, by go_num, by rw [HPS.out]; go_num⟩
        case measure => simp [intOf]; omega
      · obtain rfl : j = k := by omega
        have hx1 := HXB.out
        have hwx : IntKind.wrap .i64 (x + P) = x + P := IntWalk.i64_in _ (by omega)
        go_wp2
        go_meet
        refine ⟨?_, hE34.setCell (p := ⟨g, s, none⟩) hg0 _⟩
        rw [HMO.out, HP2.out]
        exact hM4.set s hs _
  case rest =>
    obtain ⟨hM, hE3c⟩ := hcut
    rename World => w5
    rename Act → World → Prop => KK
    rename ∀ _ _, _ → KK _ _ => hKK
    exact hKK _ _ (moreTail4 r plan _ w w1 _ _ _ _ _ g s k low high faster hP hL hA hAM hE1 (HBB.out w1 (Ext.refl _)) hs hk (by omega) (by omega) (by omega) (by omega) (by omega) rfl w5 hM (hE13.trans hE3c) (Nat.le_trans hE13.size hg0))
set_option maxRecDepth 100000 in
set_option maxHeartbeats 32000000 in
theorem reefMore_law (r : R.Reef) (vr : Value) (plan : List Int) (vp : Value) (season : Int) (hwfseason : (Lit.int .i64 season).wf = true) (place : Int) (hwfplace : (Lit.int .i64 place).wf = true) (low : Int) (hwflow : (Lit.int .i64 low).wf = true) (high : Int) (hwfhigh : (Lit.int .i64 high).wf = true) (faster : Int) (hwffaster : (Lit.int .i64 faster).wf = true) (w : World) (hP : Places w vr r.places) (hL : Ints w vp plan) (hTi : Tight vp) :
    Calls Try.prog 11 #[.agg (reefV r vr), vp, .int .i64 season, .int .i64 place, .int .i64 low, .int .i64 high, .int .i64 faster] w fun e w' => e = .returned (.bool true) ∧ Ext w w' := by
  have hP' := hP
  have hL' := hL
  obtain ⟨a1, c1, rfl, hPx⟩ := hP'
  obtain ⟨a2, c2, rfl, hLx⟩ := hL'
  have HPX := Lib.hid hPx
  have HLX := Lib.hid hLx
  clear hPx hLx
  obtain ⟨w1, hw1⟩ : ∃ w1, (w.alloc (.cells (reefV r (.slice a1 r.places.length c1)) 24)) = w1 := ⟨_, rfl⟩
  have hE1 : Ext w w1 := by rw [← hw1]; (with_reducible (repeat (first | exact Ext.refl _ | assumption | apply Ext.alloc | apply Ext.drew | exact ext_plus _ _ | (apply Ext.setCell; rotate_left; (simp <;> omega)) | (apply Ext.trans; rotate_left; exact ext_plus _ _) | (apply Ext.trans; rotate_left; assumption))))
  have hb0 : Blk w1 (w.heap.size) (reefV r (.slice a1 r.places.length c1)) 24 := by rw [← hw1]; exact Blk.new' rfl _ _
  have hbx := fun y (hy : Ext w1 y) => (⟨(hb0.ext hy).cell, (hb0.ext hy).lt⟩ : (∀ o, y.cell? ⟨w.heap.size, o, none⟩ = _) ∧ w.heap.size < y.heap.size)
  have HBX := Lib.hid hbx
  have HW1 := Lib.hid hw1
  clear hw1 hb0 hbx
  have hs := fun w' (hx : Ext w w') => short_any r _ w' (hP.ext hx)
  by_cases hsh : shortR r = true
  case neg =>
    have hsf : shortR r = false := by simpa using hsh
    rw [hsf] at hs
    have HS := Lib.hid hs
    clear hs hsf hsh
    go_enter Try.func11, Try.ntmps11
    go_upto_region 1 with (fail)
    rw [HW1.out]
    obtain ⟨k0, l0⟩ := HBX.out w1 (Ext.refl _)
    go_wp2_with (first | (go_at_call 15; refine (HS.out _ (by (with_reducible (repeat (first | exact Ext.refl _ | assumption | apply Ext.alloc | apply Ext.drew | exact ext_plus _ _ | (apply Ext.setCell; rotate_left; (simp <;> omega)) | (apply Ext.trans; rotate_left; exact ext_plus _ _) | (apply Ext.trans; rotate_left; assumption)))))).mono ?_; rintro e w2 ⟨rfl, hb2⟩; (try clear k0 l0); obtain ⟨k0, l0⟩ := HBX.out w2 (by (with_reducible (repeat (first | exact Ext.refl _ | assumption | apply Ext.alloc | apply Ext.drew | exact ext_plus _ _ | (apply Ext.setCell; rotate_left; (simp <;> omega)) | (apply Ext.trans; rotate_left; exact ext_plus _ _) | (apply Ext.trans; rotate_left; assumption)))))) | (go_at_call 17; refine (known_any _).mono ?_; rintro e wk ⟨rfl, hbk⟩))
    all_goals
      go_ret
      exact ⟨rfl, by (with_reducible (repeat (first | exact Ext.refl _ | assumption | apply Ext.alloc | apply Ext.drew | exact ext_plus _ _ | (apply Ext.setCell; rotate_left; (simp <;> omega)) | (apply Ext.trans; rotate_left; exact ext_plus _ _) | (apply Ext.trans; rotate_left; assumption))))⟩
  case pos =>
  rw [hsh] at hs
  have HS := Lib.hid hs
  clear hs
  by_cases hpl : plan.length ≤ 8
  case neg =>
    have hpi : (8 : Int) < plan.length := by omega
    clear hpl hsh
    go_enter Try.func11, Try.ntmps11
    go_upto_region 1 with (fail)
    rw [HW1.out]
    obtain ⟨k0, l0⟩ := HBX.out w1 (Ext.refl _)
    go_wp2_with (first | (go_at_call 15; refine (HS.out _ (by (with_reducible (repeat (first | exact Ext.refl _ | assumption | apply Ext.alloc | apply Ext.drew | exact ext_plus _ _ | (apply Ext.setCell; rotate_left; (simp <;> omega)) | (apply Ext.trans; rotate_left; exact ext_plus _ _) | (apply Ext.trans; rotate_left; assumption)))))).mono ?_; rintro e w2 ⟨rfl, hb2⟩; (try clear k0 l0); obtain ⟨k0, l0⟩ := HBX.out w2 (by (with_reducible (repeat (first | exact Ext.refl _ | assumption | apply Ext.alloc | apply Ext.drew | exact ext_plus _ _ | (apply Ext.setCell; rotate_left; (simp <;> omega)) | (apply Ext.trans; rotate_left; exact ext_plus _ _) | (apply Ext.trans; rotate_left; assumption)))))) | (go_at_call 17; refine (known_any _).mono ?_; rintro e wk ⟨rfl, hbk⟩))
    all_goals
      go_ret
      exact ⟨rfl, by (with_reducible (repeat (first | exact Ext.refl _ | assumption | apply Ext.alloc | apply Ext.drew | exact ext_plus _ _ | (apply Ext.setCell; rotate_left; (simp <;> omega)) | (apply Ext.trans; rotate_left; exact ext_plus _ _) | (apply Ext.trans; rotate_left; assumption))))⟩
  case pos =>
  have hpi : ¬ (8 : Int) < plan.length := by omega
  have hn8 : r.places.length ≤ 8 := by simpa [shortR] using hsh
  have hask := fun w' (hx : Ext w w') => asked_any r plan _ _ w' (hP.ext hx) (hL.ext hx) hn8 (by omega)
  cases hA : rightB r plan with
  | false =>
    rw [hA] at hask
    have HA := Lib.hid hask
    clear hask hA hsh
    go_enter Try.func11, Try.ntmps11
    go_upto_region 1 with (fail)
    rw [HW1.out]
    obtain ⟨k0, l0⟩ := HBX.out w1 (Ext.refl _)
    go_wp2_with (first | (go_at_call 15; refine (HS.out _ (by (with_reducible (repeat (first | exact Ext.refl _ | assumption | apply Ext.alloc | apply Ext.drew | exact ext_plus _ _ | (apply Ext.setCell; rotate_left; (simp <;> omega)) | (apply Ext.trans; rotate_left; exact ext_plus _ _) | (apply Ext.trans; rotate_left; assumption)))))).mono ?_; rintro e w2 ⟨rfl, hb2⟩; (try clear k0 l0); obtain ⟨k0, l0⟩ := HBX.out w2 (by (with_reducible (repeat (first | exact Ext.refl _ | assumption | apply Ext.alloc | apply Ext.drew | exact ext_plus _ _ | (apply Ext.setCell; rotate_left; (simp <;> omega)) | (apply Ext.trans; rotate_left; exact ext_plus _ _) | (apply Ext.trans; rotate_left; assumption)))))) | (go_at_call 19; refine (HA.out _ (by (with_reducible (repeat (first | exact Ext.refl _ | assumption | apply Ext.alloc | apply Ext.drew | exact ext_plus _ _ | (apply Ext.setCell; rotate_left; (simp <;> omega)) | (apply Ext.trans; rotate_left; exact ext_plus _ _) | (apply Ext.trans; rotate_left; assumption)))))).mono ?_; rintro e w3 ⟨rfl, hb3⟩; (try clear k0 l0); obtain ⟨k0, l0⟩ := HBX.out w3 (by (with_reducible (repeat (first | exact Ext.refl _ | assumption | apply Ext.alloc | apply Ext.drew | exact ext_plus _ _ | (apply Ext.setCell; rotate_left; (simp <;> omega)) | (apply Ext.trans; rotate_left; exact ext_plus _ _) | (apply Ext.trans; rotate_left; assumption)))))) | (go_at_call 17; refine (known_any _).mono ?_; rintro e wk ⟨rfl, hbk⟩))
    all_goals
      go_ret
      exact ⟨rfl, by (with_reducible (repeat (first | exact Ext.refl _ | assumption | apply Ext.alloc | apply Ext.drew | exact ext_plus _ _ | (apply Ext.setCell; rotate_left; (simp <;> omega)) | (apply Ext.trans; rotate_left; exact ext_plus _ _) | (apply Ext.trans; rotate_left; assumption))))⟩
  | true =>
  rw [hA] at hask
  have HA := Lib.hid hask
  by_cases cd0 : season < 0
  case pos =>
    clear hA hask hsh
    go_enter Try.func11, Try.ntmps11
    go_upto_region 1 with (fail)
    rw [HW1.out]
    obtain ⟨k0, l0⟩ := HBX.out w1 (Ext.refl _)
    go_wp2_with (first | (go_at_call 15; refine (HS.out _ (by (with_reducible (repeat (first | exact Ext.refl _ | assumption | apply Ext.alloc | apply Ext.drew | exact ext_plus _ _ | (apply Ext.setCell; rotate_left; (simp <;> omega)) | (apply Ext.trans; rotate_left; exact ext_plus _ _) | (apply Ext.trans; rotate_left; assumption)))))).mono ?_; rintro e w2 ⟨rfl, hb2⟩; (try clear k0 l0); obtain ⟨k0, l0⟩ := HBX.out w2 (by (with_reducible (repeat (first | exact Ext.refl _ | assumption | apply Ext.alloc | apply Ext.drew | exact ext_plus _ _ | (apply Ext.setCell; rotate_left; (simp <;> omega)) | (apply Ext.trans; rotate_left; exact ext_plus _ _) | (apply Ext.trans; rotate_left; assumption)))))) | (go_at_call 19; refine (HA.out _ (by (with_reducible (repeat (first | exact Ext.refl _ | assumption | apply Ext.alloc | apply Ext.drew | exact ext_plus _ _ | (apply Ext.setCell; rotate_left; (simp <;> omega)) | (apply Ext.trans; rotate_left; exact ext_plus _ _) | (apply Ext.trans; rotate_left; assumption)))))).mono ?_; rintro e w3 ⟨rfl, hb3⟩; (try clear k0 l0); obtain ⟨k0, l0⟩ := HBX.out w3 (by (with_reducible (repeat (first | exact Ext.refl _ | assumption | apply Ext.alloc | apply Ext.drew | exact ext_plus _ _ | (apply Ext.setCell; rotate_left; (simp <;> omega)) | (apply Ext.trans; rotate_left; exact ext_plus _ _) | (apply Ext.trans; rotate_left; assumption)))))) | (go_at_call 17; refine (known_any _).mono ?_; rintro e wk ⟨rfl, hbk⟩))
    all_goals
      go_ret
      exact ⟨rfl, by (with_reducible (repeat (first | exact Ext.refl _ | assumption | apply Ext.alloc | apply Ext.drew | exact ext_plus _ _ | (apply Ext.setCell; rotate_left; (simp <;> omega)) | (apply Ext.trans; rotate_left; exact ext_plus _ _) | (apply Ext.trans; rotate_left; assumption))))⟩
  case neg =>
  by_cases cd1 : r.seasons ≤ season
  case pos =>
    clear hA hask hsh
    go_enter Try.func11, Try.ntmps11
    go_upto_region 1 with (fail)
    rw [HW1.out]
    obtain ⟨k0, l0⟩ := HBX.out w1 (Ext.refl _)
    go_wp2_with (first | (go_at_call 15; refine (HS.out _ (by (with_reducible (repeat (first | exact Ext.refl _ | assumption | apply Ext.alloc | apply Ext.drew | exact ext_plus _ _ | (apply Ext.setCell; rotate_left; (simp <;> omega)) | (apply Ext.trans; rotate_left; exact ext_plus _ _) | (apply Ext.trans; rotate_left; assumption)))))).mono ?_; rintro e w2 ⟨rfl, hb2⟩; (try clear k0 l0); obtain ⟨k0, l0⟩ := HBX.out w2 (by (with_reducible (repeat (first | exact Ext.refl _ | assumption | apply Ext.alloc | apply Ext.drew | exact ext_plus _ _ | (apply Ext.setCell; rotate_left; (simp <;> omega)) | (apply Ext.trans; rotate_left; exact ext_plus _ _) | (apply Ext.trans; rotate_left; assumption)))))) | (go_at_call 19; refine (HA.out _ (by (with_reducible (repeat (first | exact Ext.refl _ | assumption | apply Ext.alloc | apply Ext.drew | exact ext_plus _ _ | (apply Ext.setCell; rotate_left; (simp <;> omega)) | (apply Ext.trans; rotate_left; exact ext_plus _ _) | (apply Ext.trans; rotate_left; assumption)))))).mono ?_; rintro e w3 ⟨rfl, hb3⟩; (try clear k0 l0); obtain ⟨k0, l0⟩ := HBX.out w3 (by (with_reducible (repeat (first | exact Ext.refl _ | assumption | apply Ext.alloc | apply Ext.drew | exact ext_plus _ _ | (apply Ext.setCell; rotate_left; (simp <;> omega)) | (apply Ext.trans; rotate_left; exact ext_plus _ _) | (apply Ext.trans; rotate_left; assumption)))))) | (go_at_call 17; refine (known_any _).mono ?_; rintro e wk ⟨rfl, hbk⟩))
    all_goals
      go_ret
      exact ⟨rfl, by (with_reducible (repeat (first | exact Ext.refl _ | assumption | apply Ext.alloc | apply Ext.drew | exact ext_plus _ _ | (apply Ext.setCell; rotate_left; (simp <;> omega)) | (apply Ext.trans; rotate_left; exact ext_plus _ _) | (apply Ext.trans; rotate_left; assumption))))⟩
  case neg =>
  by_cases cd2 : place < 0
  case pos =>
    clear hA hask hsh
    go_enter Try.func11, Try.ntmps11
    go_upto_region 1 with (fail)
    rw [HW1.out]
    obtain ⟨k0, l0⟩ := HBX.out w1 (Ext.refl _)
    go_wp2_with (first | (go_at_call 15; refine (HS.out _ (by (with_reducible (repeat (first | exact Ext.refl _ | assumption | apply Ext.alloc | apply Ext.drew | exact ext_plus _ _ | (apply Ext.setCell; rotate_left; (simp <;> omega)) | (apply Ext.trans; rotate_left; exact ext_plus _ _) | (apply Ext.trans; rotate_left; assumption)))))).mono ?_; rintro e w2 ⟨rfl, hb2⟩; (try clear k0 l0); obtain ⟨k0, l0⟩ := HBX.out w2 (by (with_reducible (repeat (first | exact Ext.refl _ | assumption | apply Ext.alloc | apply Ext.drew | exact ext_plus _ _ | (apply Ext.setCell; rotate_left; (simp <;> omega)) | (apply Ext.trans; rotate_left; exact ext_plus _ _) | (apply Ext.trans; rotate_left; assumption)))))) | (go_at_call 19; refine (HA.out _ (by (with_reducible (repeat (first | exact Ext.refl _ | assumption | apply Ext.alloc | apply Ext.drew | exact ext_plus _ _ | (apply Ext.setCell; rotate_left; (simp <;> omega)) | (apply Ext.trans; rotate_left; exact ext_plus _ _) | (apply Ext.trans; rotate_left; assumption)))))).mono ?_; rintro e w3 ⟨rfl, hb3⟩; (try clear k0 l0); obtain ⟨k0, l0⟩ := HBX.out w3 (by (with_reducible (repeat (first | exact Ext.refl _ | assumption | apply Ext.alloc | apply Ext.drew | exact ext_plus _ _ | (apply Ext.setCell; rotate_left; (simp <;> omega)) | (apply Ext.trans; rotate_left; exact ext_plus _ _) | (apply Ext.trans; rotate_left; assumption)))))) | (go_at_call 17; refine (known_any _).mono ?_; rintro e wk ⟨rfl, hbk⟩))
    all_goals
      go_ret
      exact ⟨rfl, by (with_reducible (repeat (first | exact Ext.refl _ | assumption | apply Ext.alloc | apply Ext.drew | exact ext_plus _ _ | (apply Ext.setCell; rotate_left; (simp <;> omega)) | (apply Ext.trans; rotate_left; exact ext_plus _ _) | (apply Ext.trans; rotate_left; assumption))))⟩
  case neg =>
  by_cases cd3 : (r.places.length : Int) ≤ place
  case pos =>
    clear hA hask hsh
    go_enter Try.func11, Try.ntmps11
    go_upto_region 1 with (fail)
    rw [HW1.out]
    obtain ⟨k0, l0⟩ := HBX.out w1 (Ext.refl _)
    go_wp2_with (first | (go_at_call 15; refine (HS.out _ (by (with_reducible (repeat (first | exact Ext.refl _ | assumption | apply Ext.alloc | apply Ext.drew | exact ext_plus _ _ | (apply Ext.setCell; rotate_left; (simp <;> omega)) | (apply Ext.trans; rotate_left; exact ext_plus _ _) | (apply Ext.trans; rotate_left; assumption)))))).mono ?_; rintro e w2 ⟨rfl, hb2⟩; (try clear k0 l0); obtain ⟨k0, l0⟩ := HBX.out w2 (by (with_reducible (repeat (first | exact Ext.refl _ | assumption | apply Ext.alloc | apply Ext.drew | exact ext_plus _ _ | (apply Ext.setCell; rotate_left; (simp <;> omega)) | (apply Ext.trans; rotate_left; exact ext_plus _ _) | (apply Ext.trans; rotate_left; assumption)))))) | (go_at_call 19; refine (HA.out _ (by (with_reducible (repeat (first | exact Ext.refl _ | assumption | apply Ext.alloc | apply Ext.drew | exact ext_plus _ _ | (apply Ext.setCell; rotate_left; (simp <;> omega)) | (apply Ext.trans; rotate_left; exact ext_plus _ _) | (apply Ext.trans; rotate_left; assumption)))))).mono ?_; rintro e w3 ⟨rfl, hb3⟩; (try clear k0 l0); obtain ⟨k0, l0⟩ := HBX.out w3 (by (with_reducible (repeat (first | exact Ext.refl _ | assumption | apply Ext.alloc | apply Ext.drew | exact ext_plus _ _ | (apply Ext.setCell; rotate_left; (simp <;> omega)) | (apply Ext.trans; rotate_left; exact ext_plus _ _) | (apply Ext.trans; rotate_left; assumption)))))) | (go_at_call 17; refine (known_any _).mono ?_; rintro e wk ⟨rfl, hbk⟩))
    all_goals
      go_ret
      exact ⟨rfl, by (with_reducible (repeat (first | exact Ext.refl _ | assumption | apply Ext.alloc | apply Ext.drew | exact ext_plus _ _ | (apply Ext.setCell; rotate_left; (simp <;> omega)) | (apply Ext.trans; rotate_left; exact ext_plus _ _) | (apply Ext.trans; rotate_left; assumption))))⟩
  case neg =>
  by_cases cd4 : low < 0
  case pos =>
    clear hA hask hsh
    go_enter Try.func11, Try.ntmps11
    go_upto_region 1 with (fail)
    rw [HW1.out]
    obtain ⟨k0, l0⟩ := HBX.out w1 (Ext.refl _)
    go_wp2_with (first | (go_at_call 15; refine (HS.out _ (by (with_reducible (repeat (first | exact Ext.refl _ | assumption | apply Ext.alloc | apply Ext.drew | exact ext_plus _ _ | (apply Ext.setCell; rotate_left; (simp <;> omega)) | (apply Ext.trans; rotate_left; exact ext_plus _ _) | (apply Ext.trans; rotate_left; assumption)))))).mono ?_; rintro e w2 ⟨rfl, hb2⟩; (try clear k0 l0); obtain ⟨k0, l0⟩ := HBX.out w2 (by (with_reducible (repeat (first | exact Ext.refl _ | assumption | apply Ext.alloc | apply Ext.drew | exact ext_plus _ _ | (apply Ext.setCell; rotate_left; (simp <;> omega)) | (apply Ext.trans; rotate_left; exact ext_plus _ _) | (apply Ext.trans; rotate_left; assumption)))))) | (go_at_call 19; refine (HA.out _ (by (with_reducible (repeat (first | exact Ext.refl _ | assumption | apply Ext.alloc | apply Ext.drew | exact ext_plus _ _ | (apply Ext.setCell; rotate_left; (simp <;> omega)) | (apply Ext.trans; rotate_left; exact ext_plus _ _) | (apply Ext.trans; rotate_left; assumption)))))).mono ?_; rintro e w3 ⟨rfl, hb3⟩; (try clear k0 l0); obtain ⟨k0, l0⟩ := HBX.out w3 (by (with_reducible (repeat (first | exact Ext.refl _ | assumption | apply Ext.alloc | apply Ext.drew | exact ext_plus _ _ | (apply Ext.setCell; rotate_left; (simp <;> omega)) | (apply Ext.trans; rotate_left; exact ext_plus _ _) | (apply Ext.trans; rotate_left; assumption)))))) | (go_at_call 17; refine (known_any _).mono ?_; rintro e wk ⟨rfl, hbk⟩))
    all_goals
      go_ret
      exact ⟨rfl, by (with_reducible (repeat (first | exact Ext.refl _ | assumption | apply Ext.alloc | apply Ext.drew | exact ext_plus _ _ | (apply Ext.setCell; rotate_left; (simp <;> omega)) | (apply Ext.trans; rotate_left; exact ext_plus _ _) | (apply Ext.trans; rotate_left; assumption))))⟩
  case neg =>
  by_cases cd5 : high < low
  case pos =>
    clear hA hask hsh
    go_enter Try.func11, Try.ntmps11
    go_upto_region 1 with (fail)
    rw [HW1.out]
    obtain ⟨k0, l0⟩ := HBX.out w1 (Ext.refl _)
    go_wp2_with (first | (go_at_call 15; refine (HS.out _ (by (with_reducible (repeat (first | exact Ext.refl _ | assumption | apply Ext.alloc | apply Ext.drew | exact ext_plus _ _ | (apply Ext.setCell; rotate_left; (simp <;> omega)) | (apply Ext.trans; rotate_left; exact ext_plus _ _) | (apply Ext.trans; rotate_left; assumption)))))).mono ?_; rintro e w2 ⟨rfl, hb2⟩; (try clear k0 l0); obtain ⟨k0, l0⟩ := HBX.out w2 (by (with_reducible (repeat (first | exact Ext.refl _ | assumption | apply Ext.alloc | apply Ext.drew | exact ext_plus _ _ | (apply Ext.setCell; rotate_left; (simp <;> omega)) | (apply Ext.trans; rotate_left; exact ext_plus _ _) | (apply Ext.trans; rotate_left; assumption)))))) | (go_at_call 19; refine (HA.out _ (by (with_reducible (repeat (first | exact Ext.refl _ | assumption | apply Ext.alloc | apply Ext.drew | exact ext_plus _ _ | (apply Ext.setCell; rotate_left; (simp <;> omega)) | (apply Ext.trans; rotate_left; exact ext_plus _ _) | (apply Ext.trans; rotate_left; assumption)))))).mono ?_; rintro e w3 ⟨rfl, hb3⟩; (try clear k0 l0); obtain ⟨k0, l0⟩ := HBX.out w3 (by (with_reducible (repeat (first | exact Ext.refl _ | assumption | apply Ext.alloc | apply Ext.drew | exact ext_plus _ _ | (apply Ext.setCell; rotate_left; (simp <;> omega)) | (apply Ext.trans; rotate_left; exact ext_plus _ _) | (apply Ext.trans; rotate_left; assumption)))))) | (go_at_call 17; refine (known_any _).mono ?_; rintro e wk ⟨rfl, hbk⟩))
    all_goals
      go_ret
      exact ⟨rfl, by (with_reducible (repeat (first | exact Ext.refl _ | assumption | apply Ext.alloc | apply Ext.drew | exact ext_plus _ _ | (apply Ext.setCell; rotate_left; (simp <;> omega)) | (apply Ext.trans; rotate_left; exact ext_plus _ _) | (apply Ext.trans; rotate_left; assumption))))⟩
  case neg =>
  by_cases cd6 : (100 : Int) < high
  case pos =>
    clear hA hask hsh
    go_enter Try.func11, Try.ntmps11
    go_upto_region 1 with (fail)
    rw [HW1.out]
    obtain ⟨k0, l0⟩ := HBX.out w1 (Ext.refl _)
    go_wp2_with (first | (go_at_call 15; refine (HS.out _ (by (with_reducible (repeat (first | exact Ext.refl _ | assumption | apply Ext.alloc | apply Ext.drew | exact ext_plus _ _ | (apply Ext.setCell; rotate_left; (simp <;> omega)) | (apply Ext.trans; rotate_left; exact ext_plus _ _) | (apply Ext.trans; rotate_left; assumption)))))).mono ?_; rintro e w2 ⟨rfl, hb2⟩; (try clear k0 l0); obtain ⟨k0, l0⟩ := HBX.out w2 (by (with_reducible (repeat (first | exact Ext.refl _ | assumption | apply Ext.alloc | apply Ext.drew | exact ext_plus _ _ | (apply Ext.setCell; rotate_left; (simp <;> omega)) | (apply Ext.trans; rotate_left; exact ext_plus _ _) | (apply Ext.trans; rotate_left; assumption)))))) | (go_at_call 19; refine (HA.out _ (by (with_reducible (repeat (first | exact Ext.refl _ | assumption | apply Ext.alloc | apply Ext.drew | exact ext_plus _ _ | (apply Ext.setCell; rotate_left; (simp <;> omega)) | (apply Ext.trans; rotate_left; exact ext_plus _ _) | (apply Ext.trans; rotate_left; assumption)))))).mono ?_; rintro e w3 ⟨rfl, hb3⟩; (try clear k0 l0); obtain ⟨k0, l0⟩ := HBX.out w3 (by (with_reducible (repeat (first | exact Ext.refl _ | assumption | apply Ext.alloc | apply Ext.drew | exact ext_plus _ _ | (apply Ext.setCell; rotate_left; (simp <;> omega)) | (apply Ext.trans; rotate_left; exact ext_plus _ _) | (apply Ext.trans; rotate_left; assumption)))))) | (go_at_call 17; refine (known_any _).mono ?_; rintro e wk ⟨rfl, hbk⟩))
    all_goals
      go_ret
      exact ⟨rfl, by (with_reducible (repeat (first | exact Ext.refl _ | assumption | apply Ext.alloc | apply Ext.drew | exact ext_plus _ _ | (apply Ext.setCell; rotate_left; (simp <;> omega)) | (apply Ext.trans; rotate_left; exact ext_plus _ _) | (apply Ext.trans; rotate_left; assumption))))⟩
  case neg =>
  by_cases cd7 : faster < 0
  case pos =>
    clear hA hask hsh
    go_enter Try.func11, Try.ntmps11
    go_upto_region 1 with (fail)
    rw [HW1.out]
    obtain ⟨k0, l0⟩ := HBX.out w1 (Ext.refl _)
    go_wp2_with (first | (go_at_call 15; refine (HS.out _ (by (with_reducible (repeat (first | exact Ext.refl _ | assumption | apply Ext.alloc | apply Ext.drew | exact ext_plus _ _ | (apply Ext.setCell; rotate_left; (simp <;> omega)) | (apply Ext.trans; rotate_left; exact ext_plus _ _) | (apply Ext.trans; rotate_left; assumption)))))).mono ?_; rintro e w2 ⟨rfl, hb2⟩; (try clear k0 l0); obtain ⟨k0, l0⟩ := HBX.out w2 (by (with_reducible (repeat (first | exact Ext.refl _ | assumption | apply Ext.alloc | apply Ext.drew | exact ext_plus _ _ | (apply Ext.setCell; rotate_left; (simp <;> omega)) | (apply Ext.trans; rotate_left; exact ext_plus _ _) | (apply Ext.trans; rotate_left; assumption)))))) | (go_at_call 19; refine (HA.out _ (by (with_reducible (repeat (first | exact Ext.refl _ | assumption | apply Ext.alloc | apply Ext.drew | exact ext_plus _ _ | (apply Ext.setCell; rotate_left; (simp <;> omega)) | (apply Ext.trans; rotate_left; exact ext_plus _ _) | (apply Ext.trans; rotate_left; assumption)))))).mono ?_; rintro e w3 ⟨rfl, hb3⟩; (try clear k0 l0); obtain ⟨k0, l0⟩ := HBX.out w3 (by (with_reducible (repeat (first | exact Ext.refl _ | assumption | apply Ext.alloc | apply Ext.drew | exact ext_plus _ _ | (apply Ext.setCell; rotate_left; (simp <;> omega)) | (apply Ext.trans; rotate_left; exact ext_plus _ _) | (apply Ext.trans; rotate_left; assumption)))))) | (go_at_call 17; refine (known_any _).mono ?_; rintro e wk ⟨rfl, hbk⟩))
    all_goals
      go_ret
      exact ⟨rfl, by (with_reducible (repeat (first | exact Ext.refl _ | assumption | apply Ext.alloc | apply Ext.drew | exact ext_plus _ _ | (apply Ext.setCell; rotate_left; (simp <;> omega)) | (apply Ext.trans; rotate_left; exact ext_plus _ _) | (apply Ext.trans; rotate_left; assumption))))⟩
  case neg =>
  by_cases cd8 : (2000 : Int) < faster
  case pos =>
    clear hA hask hsh
    go_enter Try.func11, Try.ntmps11
    go_upto_region 1 with (fail)
    rw [HW1.out]
    obtain ⟨k0, l0⟩ := HBX.out w1 (Ext.refl _)
    go_wp2_with (first | (go_at_call 15; refine (HS.out _ (by (with_reducible (repeat (first | exact Ext.refl _ | assumption | apply Ext.alloc | apply Ext.drew | exact ext_plus _ _ | (apply Ext.setCell; rotate_left; (simp <;> omega)) | (apply Ext.trans; rotate_left; exact ext_plus _ _) | (apply Ext.trans; rotate_left; assumption)))))).mono ?_; rintro e w2 ⟨rfl, hb2⟩; (try clear k0 l0); obtain ⟨k0, l0⟩ := HBX.out w2 (by (with_reducible (repeat (first | exact Ext.refl _ | assumption | apply Ext.alloc | apply Ext.drew | exact ext_plus _ _ | (apply Ext.setCell; rotate_left; (simp <;> omega)) | (apply Ext.trans; rotate_left; exact ext_plus _ _) | (apply Ext.trans; rotate_left; assumption)))))) | (go_at_call 19; refine (HA.out _ (by (with_reducible (repeat (first | exact Ext.refl _ | assumption | apply Ext.alloc | apply Ext.drew | exact ext_plus _ _ | (apply Ext.setCell; rotate_left; (simp <;> omega)) | (apply Ext.trans; rotate_left; exact ext_plus _ _) | (apply Ext.trans; rotate_left; assumption)))))).mono ?_; rintro e w3 ⟨rfl, hb3⟩; (try clear k0 l0); obtain ⟨k0, l0⟩ := HBX.out w3 (by (with_reducible (repeat (first | exact Ext.refl _ | assumption | apply Ext.alloc | apply Ext.drew | exact ext_plus _ _ | (apply Ext.setCell; rotate_left; (simp <;> omega)) | (apply Ext.trans; rotate_left; exact ext_plus _ _) | (apply Ext.trans; rotate_left; assumption)))))) | (go_at_call 17; refine (known_any _).mono ?_; rintro e wk ⟨rfl, hbk⟩))
    all_goals
      go_ret
      exact ⟨rfl, by (with_reducible (repeat (first | exact Ext.refl _ | assumption | apply Ext.alloc | apply Ext.drew | exact ext_plus _ _ | (apply Ext.setCell; rotate_left; (simp <;> omega)) | (apply Ext.trans; rotate_left; exact ext_plus _ _) | (apply Ext.trans; rotate_left; assumption))))⟩
  case neg =>
  cases hhas : R.has (R.iat plan season.toNat) place.toNat with
  | true => exact reefMore1_law (r := r) (vr := .slice a1 r.places.length c1) (hP := hP) (plan := plan) (vp := .slice a2 plan.length c2) (hL := hL) (hTi := hTi) (season := season) (hwfseason := hwfseason) (place := place) (hwfplace := hwfplace) (low := low) (hwflow := hwflow) (high := high) (hwfhigh := hwfhigh) (faster := faster) (hwffaster := hwffaster) (w := w) (hsh := hsh) (hpl := hpl) (hA := hA) (cd0 := cd0) (cd1 := cd1) (cd2 := cd2) (cd3 := cd3) (cd4 := cd4) (cd5 := cd5) (cd6 := cd6) (cd7 := cd7) (cd8 := cd8) (hhas := hhas)
  | false => exact reefMore0_law (r := r) (vr := .slice a1 r.places.length c1) (hP := hP) (plan := plan) (vp := .slice a2 plan.length c2) (hL := hL) (hTi := hTi) (season := season) (hwfseason := hwfseason) (place := place) (hwfplace := hwfplace) (low := low) (hwflow := hwflow) (high := high) (hwfhigh := hwfhigh) (faster := faster) (hwffaster := hwffaster) (w := w) (hsh := hsh) (hpl := hpl) (hA := hA) (cd0 := cd0) (cd1 := cd1) (cd2 := cd2) (cd3 := cd3) (cd4 := cd4) (cd5 := cd5) (cd6 := cd6) (cd7 := cd7) (cd8 := cd8) (hhas := hhas)
end Go.Proofs.Ythffoglpekpmdaa
