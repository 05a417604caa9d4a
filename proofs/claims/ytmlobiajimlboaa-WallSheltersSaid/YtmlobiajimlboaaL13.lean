/- The law WallShelters. -/
import Derived.Test.YtmlobiajimlboaaZ1
import Derived.Test.YtmlobiajimlboaaR8
import Derived.Test.YtmlobiajimlboaaR9
import Derived.Test.YtmlobiajimlboaaR10
namespace Go.Proofs.Ytmlobiajimlboaa
set_option linter.unusedVariables false
set_option linter.unusedSimpArgs false
open Go.RowKit
set_option maxRecDepth 100000 in
set_option maxHeartbeats 4000000 in
theorem wallShelters_law (s : W.Shore) (c : W.Storm) (plan : List Int) (t : W.Truth) (cell : Int) (hwfcell : (Lit.int .i64 cell).wf = true) (vc vw vp vd : Value) (w : World) (hC : Cells w vc s.cells) (hW : Works w vw s.works) (hP : Ints w vp plan) (hD : Ints w vd t.drags) :
    Calls Try.prog 13 #[shoreA s vc vw, stormA c, vp, truthV t vd, .int .i64 cell] w fun e w' => e = .returned (.bool true) ∧ Ext w w' := by
  have hC' := hC
  have hW' := hW
  have hP' := hP
  have hD' := hD
  obtain ⟨a1, c1, rfl, hx1⟩ := hC'
  obtain ⟨a2, c2, rfl, _⟩ := hW'
  obtain ⟨a3, c3, rfl, _⟩ := hP'
  obtain ⟨a4, c4, rfl, _⟩ := hD'
  have HX1 := Lib.hid hx1
  clear hx1 hwfcell
  have hs := fun w' (hx : Ext w w') => short_any s _ _ w' (hC.ext hx) (hW.ext hx)
  by_cases hsh : shortB s = true ∧ plan.length ≤ 12 ∧ t.drags.length ≤ 12
  · obtain ⟨h1, h2, h3⟩ := hsh
    rw [h1] at hs
    have HS := Lib.hid hs
    have hn : s.cells.length ≤ 1000000 ∧ s.works.length ≤ 1000000 ∧ s.cells.length ≤ 12 := by simp [shortB] at h1; omega
    obtain ⟨hn, hm, hn12⟩ := hn
    obtain ⟨B, hB⟩ : ∃ B, (W.okB s c && W.planB s plan) = B := ⟨_, rfl⟩
    obtain ⟨V, hV⟩ : ∃ V, W.within cell 0 (s.cells.length - 1) = V := ⟨_, rfl⟩
    have hbu := fun w' (hx : Ext w w') => built_any s c plan _ _ _ w' (hC.ext hx) (hW.ext hx) (hP.ext hx) hn hm (by omega)
    rw [hB] at hbu
    have HBU := Lib.hid hbu
    have htr := fun w' (hx : Ext w w') => rtruth_any s c t _ (.slice a2 s.works.length c2) _ w' (hC.ext hx) (hD.ext hx) hn (by omega)
    have hce := fun w' (hx : Ext w w') => rcell_any s _ (.slice a2 s.works.length c2) cell w' (hC.ext hx) hn
    rw [hV] at hce
    clear hs h1 hbu
    cases B with
    | false =>
      clear hB htr hce hV
      go_enter Try.func13, Try.ntmps13
      go_wp2_with (first | (go_at_call 14; refine (HS.out _ (by (with_reducible (repeat (first | exact Ext.refl _ | assumption | apply Ext.alloc | apply Ext.drew | exact ext_plus _ _ | (apply Ext.setCell; rotate_left; (simp <;> omega)) | (apply Ext.trans; rotate_left; exact ext_plus _ _) | (apply Ext.trans; rotate_left; assumption)))))).mono ?_; rintro e w1 ⟨rfl, hb1⟩; have hc1 := hb1.cells.1; have hz1 := hb1.size; (try simp only [World.size_alloc] at hz1); have p10 : w.heap.size < w1.heap.size := (by omega); have p11 : w.heap.size + 1 < w1.heap.size := (by omega); have p12 : w.heap.size + 1 + 1 < w1.heap.size := (by omega)) | (go_at_call 15; refine (known_any _).mono ?_; rintro e wk ⟨rfl, hbk⟩) | (go_at_call 17; refine (HBU.out _ (by (with_reducible (repeat (first | exact Ext.refl _ | assumption | apply Ext.alloc | apply Ext.drew | exact ext_plus _ _ | (apply Ext.setCell; rotate_left; (simp <;> omega)) | (apply Ext.trans; rotate_left; exact ext_plus _ _) | (apply Ext.trans; rotate_left; assumption)))))).mono ?_; rintro e w2 ⟨rfl, hb2⟩; have hc2 := hb2.cells.1; have hz2 := hb2.size; (try simp only [World.size_alloc] at hz2); have p20 : w.heap.size < w2.heap.size := (by omega); have p21 : w.heap.size + 1 < w2.heap.size := (by omega); have p22 : w.heap.size + 1 + 1 < w2.heap.size := (by omega)))
      all_goals
        go_ret
        exact ⟨rfl, by (with_reducible (repeat (first | exact Ext.refl _ | assumption | apply Ext.alloc | apply Ext.drew | exact ext_plus _ _ | (apply Ext.setCell; rotate_left; (simp <;> omega)) | (apply Ext.trans; rotate_left; exact ext_plus _ _) | (apply Ext.trans; rotate_left; assumption))))⟩
    | true =>
      cases hT : W.truthB s c t with
      | false =>
        rw [hT] at htr
        have HTR := Lib.hid htr
        clear hB htr hT hce hV
        go_enter Try.func13, Try.ntmps13
        go_wp2_with (first | (go_at_call 14; refine (HS.out _ (by (with_reducible (repeat (first | exact Ext.refl _ | assumption | apply Ext.alloc | apply Ext.drew | exact ext_plus _ _ | (apply Ext.setCell; rotate_left; (simp <;> omega)) | (apply Ext.trans; rotate_left; exact ext_plus _ _) | (apply Ext.trans; rotate_left; assumption)))))).mono ?_; rintro e w1 ⟨rfl, hb1⟩; have hc1 := hb1.cells.1; have hz1 := hb1.size; (try simp only [World.size_alloc] at hz1); have p10 : w.heap.size < w1.heap.size := (by omega); have p11 : w.heap.size + 1 < w1.heap.size := (by omega); have p12 : w.heap.size + 1 + 1 < w1.heap.size := (by omega)) | (go_at_call 15; refine (known_any _).mono ?_; rintro e wk ⟨rfl, hbk⟩) | (go_at_call 17; refine (HBU.out _ (by (with_reducible (repeat (first | exact Ext.refl _ | assumption | apply Ext.alloc | apply Ext.drew | exact ext_plus _ _ | (apply Ext.setCell; rotate_left; (simp <;> omega)) | (apply Ext.trans; rotate_left; exact ext_plus _ _) | (apply Ext.trans; rotate_left; assumption)))))).mono ?_; rintro e w2 ⟨rfl, hb2⟩; have hc2 := hb2.cells.1; have hz2 := hb2.size; (try simp only [World.size_alloc] at hz2); have p20 : w.heap.size < w2.heap.size := (by omega); have p21 : w.heap.size + 1 < w2.heap.size := (by omega); have p22 : w.heap.size + 1 + 1 < w2.heap.size := (by omega)) | (go_at_call 18; refine (HTR.out _ (by (with_reducible (repeat (first | exact Ext.refl _ | assumption | apply Ext.alloc | apply Ext.drew | exact ext_plus _ _ | (apply Ext.setCell; rotate_left; (simp <;> omega)) | (apply Ext.trans; rotate_left; exact ext_plus _ _) | (apply Ext.trans; rotate_left; assumption)))))).mono ?_; rintro e w3 ⟨rfl, hb3⟩; clear HTR; have hc3 := hb3.cells.1; have hz3 := hb3.size; (try simp only [World.size_alloc] at hz3); have p30 : w.heap.size < w3.heap.size := (by omega); have p31 : w.heap.size + 1 < w3.heap.size := (by omega); have p32 : w.heap.size + 1 + 1 < w3.heap.size := (by omega)))
        all_goals
          go_ret
          exact ⟨rfl, by (with_reducible (repeat (first | exact Ext.refl _ | assumption | apply Ext.alloc | apply Ext.drew | exact ext_plus _ _ | (apply Ext.setCell; rotate_left; (simp <;> omega)) | (apply Ext.trans; rotate_left; exact ext_plus _ _) | (apply Ext.trans; rotate_left; assumption))))⟩
      | true =>
        rw [hT] at htr
        cases V with
        | false =>
          have HTR := Lib.hid htr
          have HCE := Lib.hid hce
          clear hB htr hT hce hV
          go_enter Try.func13, Try.ntmps13
          go_wp2_with (first | (go_at_call 14; refine (HS.out _ (by (with_reducible (repeat (first | exact Ext.refl _ | assumption | apply Ext.alloc | apply Ext.drew | exact ext_plus _ _ | (apply Ext.setCell; rotate_left; (simp <;> omega)) | (apply Ext.trans; rotate_left; exact ext_plus _ _) | (apply Ext.trans; rotate_left; assumption)))))).mono ?_; rintro e w1 ⟨rfl, hb1⟩; have hc1 := hb1.cells.1; have hz1 := hb1.size; (try simp only [World.size_alloc] at hz1); have p10 : w.heap.size < w1.heap.size := (by omega); have p11 : w.heap.size + 1 < w1.heap.size := (by omega); have p12 : w.heap.size + 1 + 1 < w1.heap.size := (by omega)) | (go_at_call 15; refine (known_any _).mono ?_; rintro e wk ⟨rfl, hbk⟩) | (go_at_call 17; refine (HBU.out _ (by (with_reducible (repeat (first | exact Ext.refl _ | assumption | apply Ext.alloc | apply Ext.drew | exact ext_plus _ _ | (apply Ext.setCell; rotate_left; (simp <;> omega)) | (apply Ext.trans; rotate_left; exact ext_plus _ _) | (apply Ext.trans; rotate_left; assumption)))))).mono ?_; rintro e w2 ⟨rfl, hb2⟩; have hc2 := hb2.cells.1; have hz2 := hb2.size; (try simp only [World.size_alloc] at hz2); have p20 : w.heap.size < w2.heap.size := (by omega); have p21 : w.heap.size + 1 < w2.heap.size := (by omega); have p22 : w.heap.size + 1 + 1 < w2.heap.size := (by omega)) | (go_at_call 18; refine (HTR.out _ (by (with_reducible (repeat (first | exact Ext.refl _ | assumption | apply Ext.alloc | apply Ext.drew | exact ext_plus _ _ | (apply Ext.setCell; rotate_left; (simp <;> omega)) | (apply Ext.trans; rotate_left; exact ext_plus _ _) | (apply Ext.trans; rotate_left; assumption)))))).mono ?_; rintro e w3 ⟨rfl, hb3⟩; clear HTR; have hc3 := hb3.cells.1; have hz3 := hb3.size; (try simp only [World.size_alloc] at hz3); have p30 : w.heap.size < w3.heap.size := (by omega); have p31 : w.heap.size + 1 < w3.heap.size := (by omega); have p32 : w.heap.size + 1 + 1 < w3.heap.size := (by omega)) | (go_at_call 34; refine (HCE.out _ (by (with_reducible (repeat (first | exact Ext.refl _ | assumption | apply Ext.alloc | apply Ext.drew | exact ext_plus _ _ | (apply Ext.setCell; rotate_left; (simp <;> omega)) | (apply Ext.trans; rotate_left; exact ext_plus _ _) | (apply Ext.trans; rotate_left; assumption)))))).mono ?_; rintro e w4 ⟨rfl, hb4⟩; clear HCE; have hc4 := hb4.cells.1; have hz4 := hb4.size; (try simp only [World.size_alloc] at hz4); have p40 : w.heap.size < w4.heap.size := (by omega); have p41 : w.heap.size + 1 < w4.heap.size := (by omega); have p42 : w.heap.size + 1 + 1 < w4.heap.size := (by omega)))
          all_goals
            go_ret
            exact ⟨rfl, by (with_reducible (repeat (first | exact Ext.refl _ | assumption | apply Ext.alloc | apply Ext.drew | exact ext_plus _ _ | (apply Ext.setCell; rotate_left; (simp <;> omega)) | (apply Ext.trans; rotate_left; exact ext_plus _ _) | (apply Ext.trans; rotate_left; assumption))))⟩
        | true =>
          have hok := hB
          simp only [Bool.and_eq_true] at hok
          have O := W.ok_iff hok.1
          have T := W.true_iff hT
          have hpl := W.planB_len hok.2
          have k0 : codeOf true = 0 := rfl
          have hin := fun w' (hx : Ext w w') => inwardQ_any s c plan cell _ _ _ w' (hC.ext hx) (hW.ext hx) (hP.ext hx) hn hm (by omega)
          rw [inwardOf_ok hB hV] at hin
          have hww := W.within_iff.1 hV
          obtain ⟨k1, rfl⟩ := Int.eq_ofNat_of_zero_le hww.1
          rw [Int.toNat_natCast] at hin
          have hdo : dryOf s c plan = dryQ s c plan := by unfold dryOf; rw [hB]; rfl
          have hdr := fun w' (hx : Ext w w') => dryQ_any s c plan _ _ _ w' (hC.ext hx) (hW.ext hx) (hP.ext hx) hn hm (by omega)
          rw [hdo, hB, k0] at hdr
          have hdt := dryTo_has s.cells (W.play s plan (W.worst s c)) s.cells.length
          have hld : (dryTo s.cells (W.play s plan (W.worst s c)) s.cells.length).length ≤ s.cells.length := dryTo_len _ _ _
          have edq : dryQ s c plan = dryTo s.cells (W.play s plan (W.worst s c)) s.cells.length := rfl
          rw [edq] at hdr
          have hwo := fun w' (hx : Ext w w') => worstQ_any s c _ _ w' (hC.ext hx) (hW.ext hx) hn hm
          have ewo : worstOf s c = W.worst s c := by unfold worstOf; rw [hok.1]; rfl
          rw [ewo, hok.1, k0] at hwo
          have htw := W.worst_true O
          have htw2 := fun w' (hx : Ext w w') vd hd => rtruth_any s c (W.worst s c) _ (.slice a2 s.works.length c2) vd w' (hC.ext hx) hd hn (by simp [W.worst]; omega)
          rw [htw] at htw2
          have pbT : W.playB s c plan t = true := by unfold W.playB; rw [hB, hT]; rfl
          have poT : playOf s c plan t = W.play s plan t := by unfold playOf; rw [pbT]; rfl
          have hpt := fun w' (hx : Ext w w') => play_any s c plan t _ _ _ _ w' (hC.ext hx) (hW.ext hx) (hP.ext hx) (hD.ext hx) hn hm (by omega) (by omega)
          rw [poT, pbT, k0] at hpt
          have pbW : W.playB s c plan (W.worst s c) = true := by unfold W.playB; rw [hB, htw]; rfl
          have poW : playOf s c plan (W.worst s c) = W.play s plan (W.worst s c) := by unfold playOf; rw [pbW]; rfl
          have hpw := fun w' (hx : Ext w w') vd hd => play_any s c plan (W.worst s c) _ _ _ vd w' (hC.ext hx) (hW.ext hx) (hP.ext hx) hd hn hm (by omega) (by simp [W.worst]; omega)
          rw [poW, pbW, k0] at hpw
          have hlZ : (W.play s plan (W.worst s c)).length = s.cells.length := W.depths_len _ _ _ _ _
          have hlP : (W.play s plan t).length = s.cells.length := W.depths_len _ _ _ _ _
          have f2 := fun i => W.play_worst O T hpl i
          have f3 := fun i hi => (W.play_bd (plan := plan) O T i hi).1
          have f5 : ∀ (i : Nat) (h : i < s.cells.length), -1 ≤ s.cells[i].fl := fun i h => by have := O.cell _ (List.getElem_mem h); omega
          have hdl : (W.worst s c).drags.length = s.cells.length := by simp [W.worst]
          obtain ⟨Z, hZ⟩ : ∃ Z, W.play s plan (W.worst s c) = Z := ⟨_, rfl⟩
          obtain ⟨P, hPP⟩ : ∃ P, W.play s plan t = P := ⟨_, rfl⟩
          obtain ⟨TW, hTW⟩ : ∃ TW, W.worst s c = TW := ⟨_, rfl⟩
          rw [hTW] at hwo htw2 hpw hdl hZ
          rw [hTW, hZ] at hin hdr hdt hld
          rw [hZ] at hpw
          rw [hTW, hZ] at hlZ
          rw [hPP] at hpt hlP
          simp only [hTW, hZ, hPP] at f2 f3
          obtain ⟨D, hDD⟩ : ∃ D, dryTo s.cells Z s.cells.length = D := ⟨_, rfl⟩
          rw [hDD] at hdr hld
          simp only [hDD] at hdt
          have hd12 : TW.drags.length ≤ 12 := by omega
          have hD12 : D.length ≤ s.cells.length := hld
          have HLD := Lib.hid (show D.length ≤ 1000000 by omega)
          have DT := Lib.hid hdt
          have F2 := Lib.hid f2
          have F3 := Lib.hid f3
          have F5 := Lib.hid f5
          have HDR := Lib.hid hdr
          have HWO := Lib.hid hwo
          have HTW := Lib.hid htw2
          have HPT := Lib.hid hpt
          have HPW := Lib.hid hpw
          have HTR := Lib.hid htr
          have HCE := Lib.hid hce
          obtain ⟨fz, hfz⟩ : ∃ fz, firstZero (Z.drop k1) k1 = fz := ⟨_, rfl⟩
          rw [hfz] at hin
          clear hdr hwo htw2 hpt hpw htr hce hdt f2 f3 f5 hZ hPP hTW hDD hB hok O T hpl k0 hV hdo edq ewo htw pbT poT pbW poW hdl hT hld
          have hf : (inwardR fz = (0, 5) ∧ ∀ (k : Nat), k1 ≤ k → (h : k < Z.length) → Z[k] ≠ 0) ∨ (∃ i : Nat, inwardR fz = ((i : Int), 0) ∧ k1 ≤ i ∧ ∃ hi : i < s.cells.length, P[i]'(by omega) = 0 ∧ Z[i]'(by omega) = 0 ∧ (∀ w' : World, Ext w w' → Calls Try.prog 34 #[shoreA s (.slice a1 s.cells.length c1) (.slice a2 s.works.length c2), .int .i64 i] w' fun e w'' => e = .returned (.bool true) ∧ Ext w' w'') ∧ ∀ (k : Nat) (h : k < Z.length), k1 ≤ k → k < i → Z[k] ≠ 0) := by
            cases fz with
            | none => exact .inl ⟨rfl, firstZero_none hfz⟩
            | some i =>
              obtain ⟨hki, hin2, hzi, hnz⟩ := firstZero_some hfz
              have hpi : P[i]'(by omega) = 0 := by
                have a := F2.out i
                have b := F3.out i (by omega)
                rw [W.nth_get (by omega)] at a b
                rw [W.nth_get hin2, hzi] at a
                omega
              have hcn := fun w' (hx : Ext w w') => rcell_any s _ (.slice a2 s.works.length c2) i w' (hC.ext hx) hn
              have ei : W.within (i : Int) 0 (s.cells.length - 1) = true := W.within_iff.2 ⟨by omega, by omega⟩
              rw [ei] at hcn
              exact .inr ⟨i, rfl, hki, by omega, hpi, hzi, hcn, hnz⟩
          obtain ⟨ni, ci, hni⟩ : ∃ ni ci, inwardR fz = (ni, ci) := ⟨_, _, rfl⟩
          rw [hni] at hin hf
          simp only [Prod.mk.injEq] at hf
          have hf2 : (ni = 0 ∧ ci = 5 ∧ ∀ (k : Nat), k1 ≤ k → (h : k < Z.length) → Z[k] ≠ 0) ∨ (∃ i : Nat, ni = (i : Int) ∧ ci = 0 ∧ k1 ≤ i ∧ ∃ hi : i < s.cells.length, P[i]'(by omega) = 0 ∧ Z[i]'(by omega) = 0 ∧ (∀ w' : World, Ext w w' → Calls Try.prog 34 #[shoreA s (.slice a1 s.cells.length c1) (.slice a2 s.works.length c2), .int .i64 i] w' fun e w'' => e = .returned (.bool true) ∧ Ext w' w'') ∧ ∀ (k : Nat) (h : k < Z.length), k1 ≤ k → k < i → Z[k] ≠ 0) := by
            rcases hf with ⟨⟨a, b⟩, d⟩ | ⟨i, ⟨a, b⟩, d⟩
            · exact .inl ⟨a, b, d⟩
            · exact .inr ⟨i, a, b, d⟩
          have HF := Lib.hid hf2
          have HIN := Lib.hid hin
          clear hin hfz hf hf2 hni
          go_enter Try.func13, Try.ntmps13
          go_upto_region 12 with (first | (go_at_call 14; refine (HS.out _ (by (with_reducible (repeat (first | exact Ext.refl _ | assumption | apply Ext.alloc | apply Ext.drew | exact ext_plus _ _ | (apply Ext.setCell; rotate_left; (simp <;> omega)) | (apply Ext.trans; rotate_left; exact ext_plus _ _) | (apply Ext.trans; rotate_left; assumption)))))).mono ?_; rintro e w1 ⟨rfl, hb1⟩; have hc1 := hb1.cells.1; have hz1 := hb1.size; (try simp only [World.size_alloc] at hz1); have p10 : w.heap.size < w1.heap.size := (by omega); have p11 : w.heap.size + 1 < w1.heap.size := (by omega); have p12 : w.heap.size + 1 + 1 < w1.heap.size := (by omega)) | (go_at_call 17; refine (HBU.out _ (by (with_reducible (repeat (first | exact Ext.refl _ | assumption | apply Ext.alloc | apply Ext.drew | exact ext_plus _ _ | (apply Ext.setCell; rotate_left; (simp <;> omega)) | (apply Ext.trans; rotate_left; exact ext_plus _ _) | (apply Ext.trans; rotate_left; assumption)))))).mono ?_; rintro e w2 ⟨rfl, hb2⟩; have hc2 := hb2.cells.1; have hz2 := hb2.size; (try simp only [World.size_alloc] at hz2); have p20 : w.heap.size < w2.heap.size := (by omega); have p21 : w.heap.size + 1 < w2.heap.size := (by omega); have p22 : w.heap.size + 1 + 1 < w2.heap.size := (by omega)) | (go_at_call 18; refine (HTR.out _ (by (with_reducible (repeat (first | exact Ext.refl _ | assumption | apply Ext.alloc | apply Ext.drew | exact ext_plus _ _ | (apply Ext.setCell; rotate_left; (simp <;> omega)) | (apply Ext.trans; rotate_left; exact ext_plus _ _) | (apply Ext.trans; rotate_left; assumption)))))).mono ?_; rintro e w3 ⟨rfl, hb3⟩; clear HTR; have hc3 := hb3.cells.1; have hz3 := hb3.size; (try simp only [World.size_alloc] at hz3); have p30 : w.heap.size < w3.heap.size := (by omega); have p31 : w.heap.size + 1 < w3.heap.size := (by omega); have p32 : w.heap.size + 1 + 1 < w3.heap.size := (by omega)) | (go_at_call 34; refine (HCE.out _ (by (with_reducible (repeat (first | exact Ext.refl _ | assumption | apply Ext.alloc | apply Ext.drew | exact ext_plus _ _ | (apply Ext.setCell; rotate_left; (simp <;> omega)) | (apply Ext.trans; rotate_left; exact ext_plus _ _) | (apply Ext.trans; rotate_left; assumption)))))).mono ?_; rintro e w4 ⟨rfl, hb4⟩; clear HCE; have hc4 := hb4.cells.1; have hz4 := hb4.size; (try simp only [World.size_alloc] at hz4); have p40 : w.heap.size < w4.heap.size := (by omega); have p41 : w.heap.size + 1 < w4.heap.size := (by omega); have p42 : w.heap.size + 1 + 1 < w4.heap.size := (by omega)) | (go_at_call 41; refine (HDR.out _ (by (with_reducible (repeat (first | exact Ext.refl _ | assumption | apply Ext.alloc | apply Ext.drew | exact ext_plus _ _ | (apply Ext.setCell; rotate_left; (simp <;> omega)) | (apply Ext.trans; rotate_left; exact ext_plus _ _) | (apply Ext.trans; rotate_left; assumption)))))).mono ?_; rintro e w5 ⟨vl, rfl, hvl, hb5⟩; have hvl2 := hvl; obtain ⟨al, cl, rfl, _⟩ := hvl2; have HXL := Lib.hid hvl; clear hvl; have hc5 := hb5.cells.1; have hz5 := hb5.size; (try simp only [World.size_alloc] at hz5); have p50 : w.heap.size < w5.heap.size := (by omega); have p51 : w.heap.size + 1 < w5.heap.size := (by omega); have p52 : w.heap.size + 1 + 1 < w5.heap.size := (by omega)) | (go_at_call 42; refine (HIN.out _ (by (with_reducible (repeat (first | exact Ext.refl _ | assumption | apply Ext.alloc | apply Ext.drew | exact ext_plus _ _ | (apply Ext.setCell; rotate_left; (simp <;> omega)) | (apply Ext.trans; rotate_left; exact ext_plus _ _) | (apply Ext.trans; rotate_left; assumption)))))).mono ?_; rintro e w6 ⟨rfl, hb6⟩; have hc6 := hb6.cells.1; have hz6 := hb6.size; (try simp only [World.size_alloc] at hz6); have p60 : w.heap.size < w6.heap.size := (by omega); have p61 : w.heap.size + 1 < w6.heap.size := (by omega); have p62 : w.heap.size + 1 + 1 < w6.heap.size := (by omega)) | (go_at_call 16; refine (HPT.out _ (by (with_reducible (repeat (first | exact Ext.refl _ | assumption | apply Ext.alloc | apply Ext.drew | exact ext_plus _ _ | (apply Ext.setCell; rotate_left; (simp <;> omega)) | (apply Ext.trans; rotate_left; exact ext_plus _ _) | (apply Ext.trans; rotate_left; assumption)))))).mono ?_; rintro e w7 ⟨vz, rfl, hvz, hb7⟩; clear HPT; obtain ⟨az, cz, rfl, hxz⟩ := hvz; have HXP := Lib.hid hxz; clear hxz; have hc7 := hb7.cells.1; have hz7 := hb7.size; (try simp only [World.size_alloc] at hz7); have p70 : w.heap.size < w7.heap.size := (by omega); have p71 : w.heap.size + 1 < w7.heap.size := (by omega); have p72 : w.heap.size + 1 + 1 < w7.heap.size := (by omega)) | (go_at_call 36; refine (HWO.out _ (by (with_reducible (repeat (first | exact Ext.refl _ | assumption | apply Ext.alloc | apply Ext.drew | exact ext_plus _ _ | (apply Ext.setCell; rotate_left; (simp <;> omega)) | (apply Ext.trans; rotate_left; exact ext_plus _ _) | (apply Ext.trans; rotate_left; assumption)))))).mono ?_; rintro e w8 ⟨vd, rfl, hvd, hb8⟩; have hvd2 := hvd; obtain ⟨a5, c5, rfl, _⟩ := hvd2; have HVD := Lib.hid hvd; clear hvd; have hbt8 := Blk.new w8 #[.int .i64 TW.wind, .int .i64 TW.fetch, .int .i64 TW.tide, .int .i64 TW.loss, .slice a5 TW.drags.length c5] 32; have hc8 := hb8.cells.1; have hz8 := hb8.size; (try simp only [World.size_alloc] at hz8); have p80 : w.heap.size < w8.heap.size := (by omega); have p81 : w.heap.size + 1 < w8.heap.size := (by omega); have p82 : w.heap.size + 1 + 1 < w8.heap.size := (by omega)) | (go_at_call 18; refine (HTW.out _ (by (with_reducible (repeat (first | exact Ext.refl _ | assumption | apply Ext.alloc | apply Ext.drew | exact ext_plus _ _ | (apply Ext.setCell; rotate_left; (simp <;> omega)) | (apply Ext.trans; rotate_left; exact ext_plus _ _) | (apply Ext.trans; rotate_left; assumption))))) _ (HVD.out.ext (by (with_reducible (repeat (first | exact Ext.refl _ | assumption | apply Ext.alloc | apply Ext.drew | exact ext_plus _ _ | (apply Ext.setCell; rotate_left; (simp <;> omega)) | (apply Ext.trans; rotate_left; exact ext_plus _ _) | (apply Ext.trans; rotate_left; assumption))))))).mono ?_; rintro e w9 ⟨rfl, hb9⟩; have hbt9 := hbt8.ext hb9; have hct9 := hbt9.cell; have hlt9 := hbt9.lt; have hc9 := hb9.cells.1; have hz9 := hb9.size; (try simp only [World.size_alloc] at hz9); have p90 : w.heap.size < w9.heap.size := (by omega); have p91 : w.heap.size + 1 < w9.heap.size := (by omega); have p92 : w.heap.size + 1 + 1 < w9.heap.size := (by omega)) | (go_at_call 16; refine (HPW.out _ (by (with_reducible (repeat (first | exact Ext.refl _ | assumption | apply Ext.alloc | apply Ext.drew | exact ext_plus _ _ | (apply Ext.setCell; rotate_left; (simp <;> omega)) | (apply Ext.trans; rotate_left; exact ext_plus _ _) | (apply Ext.trans; rotate_left; assumption))))) _ (HVD.out.ext (by (with_reducible (repeat (first | exact Ext.refl _ | assumption | apply Ext.alloc | apply Ext.drew | exact ext_plus _ _ | (apply Ext.setCell; rotate_left; (simp <;> omega)) | (apply Ext.trans; rotate_left; exact ext_plus _ _) | (apply Ext.trans; rotate_left; assumption))))))).mono ?_; rintro e w10 ⟨vy, rfl, hvy, hb10⟩; obtain ⟨ay, cy, rfl, hxy⟩ := hvy; have HXZ := Lib.hid hxy; clear hxy; have hc10 := hb10.cells.1; have hz10 := hb10.size; (try simp only [World.size_alloc] at hz10); have p100 : w.heap.size < w10.heap.size := (by omega); have p101 : w.heap.size + 1 < w10.heap.size := (by omega); have p102 : w.heap.size + 1 + 1 < w10.heap.size := (by omega)))
          have hbs10 : Blk w10 w.heap.size #[.slice a1 s.cells.length c1, .slice a2 s.works.length c2, .int .i64 s.reef, .int .i64 s.ll, .int .i64 s.lh] 27 := by
            refine Blk.ext (w := ((w.alloc (.cells #[.slice a1 s.cells.length c1, .slice a2 s.works.length c2, .int .i64 s.reef, .int .i64 s.ll, .int .i64 s.lh] 27)).alloc (.cells #[.int .i64 c.wl, .int .i64 c.wh, .int .i64 c.fl, .int .i64 c.fh, .int .i64 c.tl, .int .i64 c.th] 29)).alloc (.cells #[.int .i64 t.wind, .int .i64 t.fetch, .int .i64 t.tide, .int .i64 t.loss, .slice a4 t.drags.length c4] 32)) (((Blk.new' rfl _ _).alloc _).alloc _) ?_
            (with_reducible (repeat (first | exact Ext.refl _ | assumption | apply Ext.alloc | apply Ext.drew | exact ext_plus _ _ | (apply Ext.setCell; rotate_left; (simp <;> omega)) | (apply Ext.trans; rotate_left; exact ext_plus _ _) | (apply Ext.trans; rotate_left; assumption))))
          have HD10 := (show Ext w5 w10 by (with_reducible (repeat (first | exact Ext.refl _ | assumption | apply Ext.alloc | apply Ext.drew | exact ext_plus _ _ | (apply Ext.setCell; rotate_left; (simp <;> omega)) | (apply Ext.trans; rotate_left; exact ext_plus _ _) | (apply Ext.trans; rotate_left; assumption)))))
          have HP10 := (show Ext w7 w10 by clear HD10; (with_reducible (repeat (first | exact Ext.refl _ | assumption | apply Ext.alloc | apply Ext.drew | exact ext_plus _ _ | (apply Ext.setCell; rotate_left; (simp <;> omega)) | (apply Ext.trans; rotate_left; exact ext_plus _ _) | (apply Ext.trans; rotate_left; assumption)))))
          have hE10 : Ext w w10 := by clear HD10 HP10; (with_reducible (repeat (first | exact Ext.refl _ | assumption | apply Ext.alloc | apply Ext.drew | exact ext_plus _ _ | (apply Ext.setCell; rotate_left; (simp <;> omega)) | (apply Ext.trans; rotate_left; exact ext_plus _ _) | (apply Ext.trans; rotate_left; assumption))))
          go_wp2
          go_loopw [21, 22, 23] (fun i f b wr => ∃ k : Nat, k ≤ s.cells.length ∧ i = .int .i64 k ∧ Ext w10 wr)
            (fun i _ _ _ => s.cells.length - (intOf i).toNat)
          case atStart => exact ⟨0, Nat.zero_le _, rfl, Ext.refl _⟩
          case round =>
            obtain ⟨k, hk, rfl, hEk⟩ := hrel
            have hE0 : Ext w wr := hE10.trans hEk
            have hE5 : Ext w5 wr := HD10.trans hEk
            have hE7 : Ext w7 wr := HP10.trans hEk
            have hcw := hE0.cells.1
            have hcp := hE7.cells.1
            have hcq := hEk.cells.1
            have hzw := hE0.size
            have hzp := hE7.size
            have hzq := hEk.size
            have hbsr := hbs10.ext hEk
            have hcbs := hbsr.cell
            have hlbs := hbsr.lt
            clear hc1 hc2 hc3 hc4 hc5 hc6 hc7 hc8 hc9 hc10 hct9 hlt9 hz1 hz2 hz3 hz4 hz5 hz6 hz7 hz8 hz9 hz10 p10 p11 p12 p20 p21 p22 p30 p31 p32 p40 p41 p42 p50 p51 p52 p60 p61 p62 p70 p71 p72 p80 p81 p82 p90 p91 p92 p100 p101 p102 hbt8 hbt9 HVD
            rcases HF.out with ⟨rfl, rfl, nz⟩ | ⟨i, rfl, rfl, hki, hki2, hpi, hzi, hcn, nz⟩
            · have NZ := Lib.hid nz
              clear nz HF
              by_cases hlt : k < s.cells.length
              · obtain ⟨g4, o4, rfl, hg4, h04⟩ := HXP.out k (by omega)
                obtain ⟨g7, o7, rfl, hg7, h07⟩ := HXZ.out k (by omega)
                obtain ⟨g1, o1, rfl, hg1, hh0, hh1, hh2, hh3⟩ := HX1.out k hlt
                have r2 := F2.out k
                have eZ : W.nth Z k = Z[k] := W.nth_get (by omega)
                have eP : W.nth P k = P[k] := W.nth_get (by omega)
                rw [eZ, eP] at r2
                obtain ⟨z, hz⟩ : ∃ z, Z[k] = z := ⟨_, rfl⟩
                obtain ⟨p, hp⟩ : ∃ p, P[k] = p := ⟨_, rfl⟩
                have hdt : dryB s.cells[k] Z[k] = D.contains (k : Int) := by rw [DT.out k, decide_eq_true hlt, eZ]; simp [hlt]
                obtain ⟨f, hf⟩ : ∃ f, s.cells[k].fl = f := ⟨_, rfl⟩
                have N0 : Hid (k1 ≤ k → ¬ z = 0) := Lib.hid (fun h => hz ▸ NZ.out k h (by omega))
                have r5 := F5.out k hlt
                rw [hz, hp] at r2
                rw [hf] at r5 hh3
                rw [hp] at h04
                rw [hz] at h07
                unfold dryB at hdt
                rw [hf, hz] at hdt
                have e4 : wr.cell? ⟨g4, o4 + k, none⟩ = some (.int .i64 p) := (hcp _ _ hg4).trans h04
                have e7 : wr.cell? ⟨g7, o7 + k, none⟩ = some (.int .i64 z) := (hcq _ _ hg7).trans h07
                have e1 : wr.cell? ⟨g1, o1 + k * 4 + 3, none⟩ = some (.int .i64 f) := (hcw _ _ hg1).trans hh3
                have q1 : g1 < wr.heap.size := by omega
                have q4 : g4 < wr.heap.size := by omega
                have q7 : g7 < wr.heap.size := by omega
                have hhas := fun w' (hx : Ext wr w') => has_any D k _ w' (HXL.out.ext (hE5.trans hx)) HLD.out
                obtain ⟨b, hb⟩ : ∃ b, D.contains (k : Int) = b := ⟨_, rfl⟩
                simp only [hb] at hhas
                rw [hb] at hdt
                clear hz hp hf eZ eP hh0 hh1 hh2 hh3 h04 h07 hcw hcp hcq hb hg1 hg4 hg7 HXP HXZ HX1 F2 F5 DT NZ
                cases b with
                | true =>
                  have HHAS := Lib.hid hhas
                  have f0 : 0 ≤ f ∧ z ≤ f ∧ p ≤ f := by simp at hdt; omega
                  obtain ⟨f0, f1, f2⟩ := f0
                  clear hhas hdt r2 r5
                  by_cases hk1 : k1 ≤ k
                  · have hz0 : ¬ z = 0 := N0.out hk1
                    go_wp2_with (first | (go_at_call 48; refine (HHAS.out _ (by exact Ext.refl _)).mono ?_; rintro e wh ⟨rfl, hbh⟩; have hch := hbh.cells.1; have hzh := hbh.size; have e4h := (hch _ _ q4).trans e4; have e7h := (hch _ _ q7).trans e7))
                    go_roundw
                    case rel => exact ⟨k + 1, by omega, by go_num, hEk.trans hbh⟩
                    case measure => simp [intOf]; omega
                  · skip
                    go_wp2_with (first | (go_at_call 48; refine (HHAS.out _ (by exact Ext.refl _)).mono ?_; rintro e wh ⟨rfl, hbh⟩; have hch := hbh.cells.1; have hzh := hbh.size; have e4h := (hch _ _ q4).trans e4; have e7h := (hch _ _ q7).trans e7))
                    go_roundw
                    case rel => exact ⟨k + 1, by omega, by go_num, hEk.trans hbh⟩
                    case measure => simp [intOf]; omega
                | false =>
                  have HHAS := Lib.hid hhas
                  clear hhas r2
                  by_cases f0 : 0 ≤ f
                  · have f1 : ¬ z ≤ f := by simp at hdt; have := hdt (by omega); omega
                    clear hdt r5
                    by_cases hk1 : k1 ≤ k
                    · have hz0 : ¬ z = 0 := N0.out hk1
                      go_wp2_with (first | (go_at_call 48; refine (HHAS.out _ (by exact Ext.refl _)).mono ?_; rintro e wh ⟨rfl, hbh⟩; have hch := hbh.cells.1; have hzh := hbh.size; have e4h := (hch _ _ q4).trans e4; have e7h := (hch _ _ q7).trans e7))
                      go_roundw
                      case rel => exact ⟨k + 1, by omega, by go_num, hEk.trans hbh⟩
                      case measure => simp [intOf]; omega
                    · skip
                      go_wp2_with (first | (go_at_call 48; refine (HHAS.out _ (by exact Ext.refl _)).mono ?_; rintro e wh ⟨rfl, hbh⟩; have hch := hbh.cells.1; have hzh := hbh.size; have e4h := (hch _ _ q4).trans e4; have e7h := (hch _ _ q7).trans e7))
                      go_roundw
                      case rel => exact ⟨k + 1, by omega, by go_num, hEk.trans hbh⟩
                      case measure => simp [intOf]; omega
                  · have f1 : f = -1 := by omega
                    clear hdt r5
                    subst f1
                    clear f0
                    by_cases hk1 : k1 ≤ k
                    · have hz0 : ¬ z = 0 := N0.out hk1
                      go_wp2_with (first | (go_at_call 48; refine (HHAS.out _ (by exact Ext.refl _)).mono ?_; rintro e wh ⟨rfl, hbh⟩; have hch := hbh.cells.1; have hzh := hbh.size; have e4h := (hch _ _ q4).trans e4; have e7h := (hch _ _ q7).trans e7))
                      go_roundw
                      case rel => exact ⟨k + 1, by omega, by go_num, hEk.trans hbh⟩
                      case measure => simp [intOf]; omega
                    · skip
                      go_wp2_with (first | (go_at_call 48; refine (HHAS.out _ (by exact Ext.refl _)).mono ?_; rintro e wh ⟨rfl, hbh⟩; have hch := hbh.cells.1; have hzh := hbh.size; have e4h := (hch _ _ q4).trans e4; have e7h := (hch _ _ q7).trans e7))
                      go_roundw
                      case rel => exact ⟨k + 1, by omega, by go_num, hEk.trans hbh⟩
                      case measure => simp [intOf]; omega
              · clear hcw
                go_wp2_with (first | (go_at_call 15; refine (known_any _).mono ?_; rintro e wk ⟨rfl, hbk⟩))
                go_ret
                exact ⟨rfl, hE0.trans hbk⟩
            · have NZ := Lib.hid nz
              have HPI := Lib.hid hpi
              have HZI := Lib.hid hzi
              have HCN := Lib.hid hcn
              clear nz hpi hzi hcn HF
              by_cases hlt : k < s.cells.length
              · obtain ⟨g4, o4, rfl, hg4, h04⟩ := HXP.out k (by omega)
                obtain ⟨g7, o7, rfl, hg7, h07⟩ := HXZ.out k (by omega)
                obtain ⟨g1, o1, rfl, hg1, hh0, hh1, hh2, hh3⟩ := HX1.out k hlt
                have r2 := F2.out k
                have eZ : W.nth Z k = Z[k] := W.nth_get (by omega)
                have eP : W.nth P k = P[k] := W.nth_get (by omega)
                rw [eZ, eP] at r2
                obtain ⟨z, hz⟩ : ∃ z, Z[k] = z := ⟨_, rfl⟩
                obtain ⟨p, hp⟩ : ∃ p, P[k] = p := ⟨_, rfl⟩
                have hdt : dryB s.cells[k] Z[k] = D.contains (k : Int) := by rw [DT.out k, decide_eq_true hlt, eZ]; simp [hlt]
                obtain ⟨f, hf⟩ : ∃ f, s.cells[k].fl = f := ⟨_, rfl⟩
                have N0 : Hid (k1 ≤ k → k < i → ¬ z = 0) := Lib.hid (fun h h2 => hz ▸ NZ.out k (by omega) h h2)
                have r5 := F5.out k hlt
                rw [hz, hp] at r2
                rw [hf] at r5 hh3
                rw [hp] at h04
                rw [hz] at h07
                unfold dryB at hdt
                rw [hf, hz] at hdt
                have e4 : wr.cell? ⟨g4, o4 + k, none⟩ = some (.int .i64 p) := (hcp _ _ hg4).trans h04
                have e7 : wr.cell? ⟨g7, o7 + k, none⟩ = some (.int .i64 z) := (hcq _ _ hg7).trans h07
                have e1 : wr.cell? ⟨g1, o1 + k * 4 + 3, none⟩ = some (.int .i64 f) := (hcw _ _ hg1).trans hh3
                have q1 : g1 < wr.heap.size := by omega
                have q4 : g4 < wr.heap.size := by omega
                have q7 : g7 < wr.heap.size := by omega
                have hhas := fun w' (hx : Ext wr w') => has_any D k _ w' (HXL.out.ext (hE5.trans hx)) HLD.out
                obtain ⟨b, hb⟩ : ∃ b, D.contains (k : Int) = b := ⟨_, rfl⟩
                simp only [hb] at hhas
                rw [hb] at hdt
                clear hz hp hf eZ eP hh0 hh1 hh2 hh3 h04 h07 hcw hcp hcq hb hg1 hg4 hg7 HXP HXZ HX1 F2 F5 DT NZ
                cases b with
                | true =>
                  have HHAS := Lib.hid hhas
                  have f0 : 0 ≤ f ∧ z ≤ f ∧ p ≤ f := by simp at hdt; omega
                  obtain ⟨f0, f1, f2⟩ := f0
                  clear hhas hdt r2 r5
                  by_cases hk1 : k1 ≤ k
                  · by_cases hki : k < i
                    · have hz0 : ¬ z = 0 := N0.out hk1 hki
                      go_wp2_with (first | (go_at_call 48; refine (HHAS.out _ (by exact Ext.refl _)).mono ?_; rintro e wh ⟨rfl, hbh⟩; have hch := hbh.cells.1; have hzh := hbh.size; have e4h := (hch _ _ q4).trans e4; have e7h := (hch _ _ q7).trans e7))
                      go_roundw
                      case rel => exact ⟨k + 1, by omega, by go_num, hEk.trans hbh⟩
                      case measure => simp [intOf]; omega
                    · skip
                      go_wp2_with (first | (go_at_call 48; refine (HHAS.out _ (by exact Ext.refl _)).mono ?_; rintro e wh ⟨rfl, hbh⟩; have hch := hbh.cells.1; have hzh := hbh.size; have e4h := (hch _ _ q4).trans e4; have e7h := (hch _ _ q7).trans e7))
                      go_roundw
                      case rel => exact ⟨k + 1, by omega, by go_num, hEk.trans hbh⟩
                      case measure => simp [intOf]; omega
                  · skip
                    go_wp2_with (first | (go_at_call 48; refine (HHAS.out _ (by exact Ext.refl _)).mono ?_; rintro e wh ⟨rfl, hbh⟩; have hch := hbh.cells.1; have hzh := hbh.size; have e4h := (hch _ _ q4).trans e4; have e7h := (hch _ _ q7).trans e7))
                    go_roundw
                    case rel => exact ⟨k + 1, by omega, by go_num, hEk.trans hbh⟩
                    case measure => simp [intOf]; omega
                | false =>
                  have HHAS := Lib.hid hhas
                  clear hhas r2
                  by_cases f0 : 0 ≤ f
                  · have f1 : ¬ z ≤ f := by simp at hdt; have := hdt (by omega); omega
                    clear hdt r5
                    by_cases hk1 : k1 ≤ k
                    · by_cases hki : k < i
                      · have hz0 : ¬ z = 0 := N0.out hk1 hki
                        go_wp2_with (first | (go_at_call 48; refine (HHAS.out _ (by exact Ext.refl _)).mono ?_; rintro e wh ⟨rfl, hbh⟩; have hch := hbh.cells.1; have hzh := hbh.size; have e4h := (hch _ _ q4).trans e4; have e7h := (hch _ _ q7).trans e7))
                        go_roundw
                        case rel => exact ⟨k + 1, by omega, by go_num, hEk.trans hbh⟩
                        case measure => simp [intOf]; omega
                      · skip
                        go_wp2_with (first | (go_at_call 48; refine (HHAS.out _ (by exact Ext.refl _)).mono ?_; rintro e wh ⟨rfl, hbh⟩; have hch := hbh.cells.1; have hzh := hbh.size; have e4h := (hch _ _ q4).trans e4; have e7h := (hch _ _ q7).trans e7))
                        go_roundw
                        case rel => exact ⟨k + 1, by omega, by go_num, hEk.trans hbh⟩
                        case measure => simp [intOf]; omega
                    · skip
                      go_wp2_with (first | (go_at_call 48; refine (HHAS.out _ (by exact Ext.refl _)).mono ?_; rintro e wh ⟨rfl, hbh⟩; have hch := hbh.cells.1; have hzh := hbh.size; have e4h := (hch _ _ q4).trans e4; have e7h := (hch _ _ q7).trans e7))
                      go_roundw
                      case rel => exact ⟨k + 1, by omega, by go_num, hEk.trans hbh⟩
                      case measure => simp [intOf]; omega
                  · have f1 : f = -1 := by omega
                    clear hdt r5
                    subst f1
                    clear f0
                    by_cases hk1 : k1 ≤ k
                    · by_cases hki : k < i
                      · have hz0 : ¬ z = 0 := N0.out hk1 hki
                        go_wp2_with (first | (go_at_call 48; refine (HHAS.out _ (by exact Ext.refl _)).mono ?_; rintro e wh ⟨rfl, hbh⟩; have hch := hbh.cells.1; have hzh := hbh.size; have e4h := (hch _ _ q4).trans e4; have e7h := (hch _ _ q7).trans e7))
                        go_roundw
                        case rel => exact ⟨k + 1, by omega, by go_num, hEk.trans hbh⟩
                        case measure => simp [intOf]; omega
                      · skip
                        go_wp2_with (first | (go_at_call 48; refine (HHAS.out _ (by exact Ext.refl _)).mono ?_; rintro e wh ⟨rfl, hbh⟩; have hch := hbh.cells.1; have hzh := hbh.size; have e4h := (hch _ _ q4).trans e4; have e7h := (hch _ _ q7).trans e7))
                        go_roundw
                        case rel => exact ⟨k + 1, by omega, by go_num, hEk.trans hbh⟩
                        case measure => simp [intOf]; omega
                    · skip
                      go_wp2_with (first | (go_at_call 48; refine (HHAS.out _ (by exact Ext.refl _)).mono ?_; rintro e wh ⟨rfl, hbh⟩; have hch := hbh.cells.1; have hzh := hbh.size; have e4h := (hch _ _ q4).trans e4; have e7h := (hch _ _ q7).trans e7))
                      go_roundw
                      case rel => exact ⟨k + 1, by omega, by go_num, hEk.trans hbh⟩
                      case measure => simp [intOf]; omega
              · clear hcw
                obtain ⟨g4, o4, rfl, hg4, h04⟩ := HXP.out i (by omega)
                obtain ⟨g7, o7, rfl, hg7, h07⟩ := HXZ.out i (by omega)
                have e4 : wr.cell? ⟨g4, o4 + i, none⟩ = some (.int .i64 0) := (hcp _ _ hg4).trans (h04.trans (by rw [HPI.out]))
                have e7 : wr.cell? ⟨g7, o7 + i, none⟩ = some (.int .i64 0) := (hcq _ _ hg7).trans (h07.trans (by rw [HZI.out]))
                have q4 : g4 < wr.heap.size := by omega
                have q7 : g7 < wr.heap.size := by omega
                go_wp2_with (first | (go_at_call 34; refine (HCN.out _ hE0).mono ?_; rintro e wn ⟨rfl, hbn⟩; have hcn := hbn.cells.1; have e4n := (hcn _ _ q4).trans e4; have e7n := (hcn _ _ q7).trans e7) | (go_at_call 15; refine (known_any _).mono ?_; rintro e wk ⟨rfl, hbk⟩))
                go_ret
                exact ⟨rfl, (hE0.trans hbn).trans hbk⟩
  · have hcs : shortB s = false ∨ (shortB s = true ∧ 12 < plan.length) ∨ (shortB s = true ∧ plan.length ≤ 12 ∧ 12 < t.drags.length) := by
      cases e : shortB s with
      | false => exact .inl rfl
      | true =>
        rcases Nat.lt_or_ge 12 plan.length with h | h
        · exact .inr (.inl ⟨rfl, h⟩)
        · rcases Nat.lt_or_ge 12 t.drags.length with h' | h'
          · exact .inr (.inr ⟨rfl, h, h'⟩)
          · exact absurd ⟨e, h, h'⟩ hsh
    clear hsh
    rcases hcs with h1 | ⟨h1, h2⟩ | ⟨h1, h2, h3⟩
    all_goals
      rw [h1] at hs
      have HS := Lib.hid hs
      clear hs h1
      go_enter Try.func13, Try.ntmps13
      go_wp2_with (first | (go_at_call 14; refine (HS.out _ (by (with_reducible (repeat (first | exact Ext.refl _ | assumption | apply Ext.alloc | apply Ext.drew | exact ext_plus _ _ | (apply Ext.setCell; rotate_left; (simp <;> omega)) | (apply Ext.trans; rotate_left; exact ext_plus _ _) | (apply Ext.trans; rotate_left; assumption)))))).mono ?_; rintro e w1 ⟨rfl, hb1⟩; have hc1 := hb1.cells.1; have hz1 := hb1.size; (try simp only [World.size_alloc] at hz1); have p10 : w.heap.size < w1.heap.size := (by omega); have p11 : w.heap.size + 1 < w1.heap.size := (by omega); have p12 : w.heap.size + 1 + 1 < w1.heap.size := (by omega)) | (go_at_call 15; refine (known_any _).mono ?_; rintro e wk ⟨rfl, hbk⟩))
      all_goals
        go_ret
        exact ⟨rfl, by (with_reducible (repeat (first | exact Ext.refl _ | assumption | apply Ext.alloc | apply Ext.drew | exact ext_plus _ _ | (apply Ext.setCell; rotate_left; (simp <;> omega)) | (apply Ext.trans; rotate_left; exact ext_plus _ _) | (apply Ext.trans; rotate_left; assumption))))⟩
end Go.Proofs.Ytmlobiajimlboaa
