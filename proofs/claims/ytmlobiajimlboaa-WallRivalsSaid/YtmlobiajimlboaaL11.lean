/- The law WallRivals. -/
import Derived.Test.YtmlobiajimlboaaZ2
import Derived.Test.YtmlobiajimlboaaR8
import Derived.Test.YtmlobiajimlboaaR10
import Derived.Test.YtmlobiajimlboaaR11
namespace Go.Proofs.Ytmlobiajimlboaa
set_option linter.unusedVariables false
set_option linter.unusedSimpArgs false
open Go.RowKit
set_option maxRecDepth 100000 in
set_option maxHeartbeats 4000000 in
theorem wallRivals_law (s : W.Shore) (c : W.Storm) (t : W.Truth) (other : List Int) (vc vw vd vp : Value) (w : World) (hC : Cells w vc s.cells) (hR : Room vc) (hW : Works w vw s.works) (hD : Ints w vd t.drags) (hP : Ints w vp other) :
    Calls Try.prog 11 #[shoreA s vc vw, stormA c, truthV t vd, vp] w fun e w' => e = .returned (.bool true) ∧ Ext w w' := by
  have hC' := hC
  have hW' := hW
  have hP' := hP
  have hD' := hD
  obtain ⟨a1, c1, rfl, hx1⟩ := hC'
  obtain ⟨a2, c2, rfl, _⟩ := hW'
  obtain ⟨a3, c3, rfl, _⟩ := hP'
  obtain ⟨a4, c4, rfl, _⟩ := hD'
  have HX1 := Lib.hid hx1
  have HRoom := Lib.hid hR
  clear hx1 hR
  have hs := fun w' (hx : Ext w w') => short_any s _ _ w' (hC.ext hx) (hW.ext hx)
  by_cases hsh : shortB s = true ∧ other.length ≤ 12 ∧ t.drags.length ≤ 12
  · obtain ⟨h1, h2, h3⟩ := hsh
    rw [h1] at hs
    have HS := Lib.hid hs
    have hn : s.cells.length ≤ 1000000 ∧ s.works.length ≤ 1000000 ∧ s.cells.length ≤ 12 := by simp [shortB] at h1; omega
    obtain ⟨hn, hm, hn12⟩ := hn
    obtain ⟨B, hB⟩ : ∃ B, (W.okB s c && W.planB s other) = B := ⟨_, rfl⟩
    have hbu := fun w' (hx : Ext w w') => built_any s c other _ _ _ w' (hC.ext hx) (hW.ext hx) (hP.ext hx) hn hm (by omega)
    rw [hB] at hbu
    have HBU := Lib.hid hbu
    have htr := fun w' (hx : Ext w w') => rtruth_any s c t _ (.slice a2 s.works.length c2) _ w' (hC.ext hx) (hD.ext hx) hn (by omega)
    clear hs h1 hbu
    cases B with
    | false =>
      clear hB htr
      go_enter Try.func11, Try.ntmps11
      go_wp2_with (first | (go_at_call 14; refine (HS.out _ (by (with_reducible (repeat (first | exact Ext.refl _ | assumption | apply Ext.alloc | apply Ext.drew | exact ext_plus _ _ | (apply Ext.setCell; rotate_left; (simp <;> omega)) | (apply Ext.trans; rotate_left; exact ext_plus _ _) | (apply Ext.trans; rotate_left; assumption)))))).mono ?_; rintro e w1 ⟨rfl, hb1⟩; have hc1 := hb1.cells.1; have hz1 := hb1.size; (try simp only [World.size_alloc] at hz1); have p10 : w.heap.size < w1.heap.size := (by omega); have p11 : w.heap.size + 1 < w1.heap.size := (by omega); have p12 : w.heap.size + 1 + 1 < w1.heap.size := (by omega)) | (go_at_call 15; refine (known_any _).mono ?_; rintro e wk ⟨rfl, hbk⟩) | (go_at_call 17; refine (HBU.out _ (by (with_reducible (repeat (first | exact Ext.refl _ | assumption | apply Ext.alloc | apply Ext.drew | exact ext_plus _ _ | (apply Ext.setCell; rotate_left; (simp <;> omega)) | (apply Ext.trans; rotate_left; exact ext_plus _ _) | (apply Ext.trans; rotate_left; assumption)))))).mono ?_; rintro e w2 ⟨rfl, hb2⟩; have hc2 := hb2.cells.1; have hz2 := hb2.size; (try simp only [World.size_alloc] at hz2); have p20 : w.heap.size < w2.heap.size := (by omega); have p21 : w.heap.size + 1 < w2.heap.size := (by omega); have p22 : w.heap.size + 1 + 1 < w2.heap.size := (by omega)))
      all_goals
        go_ret
        exact ⟨rfl, by (with_reducible (repeat (first | exact Ext.refl _ | assumption | apply Ext.alloc | apply Ext.drew | exact ext_plus _ _ | (apply Ext.setCell; rotate_left; (simp <;> omega)) | (apply Ext.trans; rotate_left; exact ext_plus _ _) | (apply Ext.trans; rotate_left; assumption))))⟩
    | true =>
      cases hT : W.truthB s c t with
      | false =>
        rw [hT] at htr
        have HTR := Lib.hid htr
        clear hB htr hT
        go_enter Try.func11, Try.ntmps11
        go_wp2_with (first | (go_at_call 14; refine (HS.out _ (by (with_reducible (repeat (first | exact Ext.refl _ | assumption | apply Ext.alloc | apply Ext.drew | exact ext_plus _ _ | (apply Ext.setCell; rotate_left; (simp <;> omega)) | (apply Ext.trans; rotate_left; exact ext_plus _ _) | (apply Ext.trans; rotate_left; assumption)))))).mono ?_; rintro e w1 ⟨rfl, hb1⟩; have hc1 := hb1.cells.1; have hz1 := hb1.size; (try simp only [World.size_alloc] at hz1); have p10 : w.heap.size < w1.heap.size := (by omega); have p11 : w.heap.size + 1 < w1.heap.size := (by omega); have p12 : w.heap.size + 1 + 1 < w1.heap.size := (by omega)) | (go_at_call 15; refine (known_any _).mono ?_; rintro e wk ⟨rfl, hbk⟩) | (go_at_call 17; refine (HBU.out _ (by (with_reducible (repeat (first | exact Ext.refl _ | assumption | apply Ext.alloc | apply Ext.drew | exact ext_plus _ _ | (apply Ext.setCell; rotate_left; (simp <;> omega)) | (apply Ext.trans; rotate_left; exact ext_plus _ _) | (apply Ext.trans; rotate_left; assumption)))))).mono ?_; rintro e w2 ⟨rfl, hb2⟩; have hc2 := hb2.cells.1; have hz2 := hb2.size; (try simp only [World.size_alloc] at hz2); have p20 : w.heap.size < w2.heap.size := (by omega); have p21 : w.heap.size + 1 < w2.heap.size := (by omega); have p22 : w.heap.size + 1 + 1 < w2.heap.size := (by omega)) | (go_at_call 18; refine (HTR.out _ (by (with_reducible (repeat (first | exact Ext.refl _ | assumption | apply Ext.alloc | apply Ext.drew | exact ext_plus _ _ | (apply Ext.setCell; rotate_left; (simp <;> omega)) | (apply Ext.trans; rotate_left; exact ext_plus _ _) | (apply Ext.trans; rotate_left; assumption)))))).mono ?_; rintro e w3 ⟨rfl, hb3⟩; clear HTR; have hc3 := hb3.cells.1; have hz3 := hb3.size; (try simp only [World.size_alloc] at hz3); have p30 : w.heap.size < w3.heap.size := (by omega); have p31 : w.heap.size + 1 < w3.heap.size := (by omega); have p32 : w.heap.size + 1 + 1 < w3.heap.size := (by omega)))
        all_goals
          go_ret
          exact ⟨rfl, by (with_reducible (repeat (first | exact Ext.refl _ | assumption | apply Ext.alloc | apply Ext.drew | exact ext_plus _ _ | (apply Ext.setCell; rotate_left; (simp <;> omega)) | (apply Ext.trans; rotate_left; exact ext_plus _ _) | (apply Ext.trans; rotate_left; assumption))))⟩
      | true =>
        rw [hT] at htr
        have hok := hB
        simp only [Bool.and_eq_true] at hok
        have O := W.ok_iff hok.1
        have T := W.true_iff hT
        have hpo := planB_plan hok.2
        have BS := found_best (c := c) O (m := 7000000) (by omega)
        have hpl := planB_of BS.plan
        have k0 : codeOf true = 0 := rfl
        have hfl : ∀ x ∈ s.cells, -1 ≤ x.fl := fun x hx => by have := O.cell x hx; omega
        have hwc : ∀ x ∈ s.works, 0 ≤ x.cost ∧ x.cost ≤ 1000000 := fun x hx => by have := O.work x hx; omega
        have hbe := fun w' (hx : Ext w w') => bestQ_any s c _ _ HRoom.out w' (hC.ext hx) (hW.ext hx) hn hm
        have hdo := fun w' (hx : Ext w w') => dryN_any s c other _ _ _ w' (hC.ext hx) (hW.ext hx) (hP.ext hx) hn hm (by omega)
        have edo : dryN s c other = W.dryHouses s.works (W.level s (W.worst s c)) s.cells other := by
          unfold dryN; rw [hB, if_pos rfl]; exact dryQ_houses O hpo.1
        rw [edo] at hdo
        have hho := fun w' (hx : Ext w w') => rhouses_any s _ (.slice a2 s.works.length c2) w' (hC.ext hx) hn hfl
        have most := BS.most other hpo (costs_max O hpo.1)
        have ebe : bestOf s c = (if (foundOf s c 7000000).houses < W.houses s.cells then ([], 0, 5) else ((foundOf s c 7000000).plan, (foundOf s c 7000000).cost, 0)) := by unfold bestOf; rw [hok.1]; rfl
        obtain ⟨own, hown⟩ : ∃ own, W.dryHouses s.works (W.level s (W.worst s c)) s.cells other = own := ⟨_, rfl⟩
        obtain ⟨nh, hnh⟩ : ∃ nh, W.houses s.cells = nh := ⟨_, rfl⟩
        have own0 : 0 ≤ own := by rw [← hown, ← dryQ_houses O hpo.1]; omega
        rw [hown] at hdo most
        rw [hnh] at hho ebe
        have HTR := Lib.hid htr
        have HDO := Lib.hid hdo
        have HHO := Lib.hid hho
        clear htr hdo hho edo
        by_cases hlt : (foundOf s c 7000000).houses < nh
        · rw [if_pos hlt] at ebe
          rw [ebe] at hbe
          have hlt2 : own < nh := by omega
          have HBE := Lib.hid hbe
          clear hbe ebe most hlt hpo BS hpl O T hfl hwc hown hnh hB hok hT k0
          go_enter Try.func11, Try.ntmps11
          go_wp2_with (first | (go_at_call 14; refine (HS.out _ (by (with_reducible (repeat (first | exact Ext.refl _ | assumption | apply Ext.alloc | apply Ext.drew | exact ext_plus _ _ | (apply Ext.setCell; rotate_left; (simp <;> omega)) | (apply Ext.trans; rotate_left; exact ext_plus _ _) | (apply Ext.trans; rotate_left; assumption)))))).mono ?_; rintro e w1 ⟨rfl, hb1⟩; have hc1 := hb1.cells.1; have hz1 := hb1.size; (try simp only [World.size_alloc] at hz1); have p10 : w.heap.size < w1.heap.size := (by omega); have p11 : w.heap.size + 1 < w1.heap.size := (by omega); have p12 : w.heap.size + 1 + 1 < w1.heap.size := (by omega)) | (go_at_call 15; refine (known_any _).mono ?_; rintro e wk ⟨rfl, hbk⟩) | (go_at_call 17; refine (HBU.out _ (by (with_reducible (repeat (first | exact Ext.refl _ | assumption | apply Ext.alloc | apply Ext.drew | exact ext_plus _ _ | (apply Ext.setCell; rotate_left; (simp <;> omega)) | (apply Ext.trans; rotate_left; exact ext_plus _ _) | (apply Ext.trans; rotate_left; assumption)))))).mono ?_; rintro e w2 ⟨rfl, hb2⟩; have hc2 := hb2.cells.1; have hz2 := hb2.size; (try simp only [World.size_alloc] at hz2); have p20 : w.heap.size < w2.heap.size := (by omega); have p21 : w.heap.size + 1 < w2.heap.size := (by omega); have p22 : w.heap.size + 1 + 1 < w2.heap.size := (by omega)) | (go_at_call 18; refine (HTR.out _ (by (with_reducible (repeat (first | exact Ext.refl _ | assumption | apply Ext.alloc | apply Ext.drew | exact ext_plus _ _ | (apply Ext.setCell; rotate_left; (simp <;> omega)) | (apply Ext.trans; rotate_left; exact ext_plus _ _) | (apply Ext.trans; rotate_left; assumption)))))).mono ?_; rintro e w3 ⟨rfl, hb3⟩; clear HTR; have hc3 := hb3.cells.1; have hz3 := hb3.size; (try simp only [World.size_alloc] at hz3); have p30 : w.heap.size < w3.heap.size := (by omega); have p31 : w.heap.size + 1 < w3.heap.size := (by omega); have p32 : w.heap.size + 1 + 1 < w3.heap.size := (by omega)) | (go_at_call 26; refine (HBE.out _ (by (with_reducible (repeat (first | exact Ext.refl _ | assumption | apply Ext.alloc | apply Ext.drew | exact ext_plus _ _ | (apply Ext.setCell; rotate_left; (simp <;> omega)) | (apply Ext.trans; rotate_left; exact ext_plus _ _) | (apply Ext.trans; rotate_left; assumption)))))).mono ?_; rintro e w4 ⟨vl, rfl, hvl, hb4⟩; clear HBE; have hvl2 := hvl; obtain ⟨al, cl, rfl, _⟩ := hvl2; have HVL := Lib.hid hvl; clear hvl; have hc4 := hb4.cells.1; have hz4 := hb4.size; (try simp only [World.size_alloc] at hz4); have p40 : w.heap.size < w4.heap.size := (by omega); have p41 : w.heap.size + 1 < w4.heap.size := (by omega); have p42 : w.heap.size + 1 + 1 < w4.heap.size := (by omega)) | (go_at_call 44; refine (HDO.out _ (by (with_reducible (repeat (first | exact Ext.refl _ | assumption | apply Ext.alloc | apply Ext.drew | exact ext_plus _ _ | (apply Ext.setCell; rotate_left; (simp <;> omega)) | (apply Ext.trans; rotate_left; exact ext_plus _ _) | (apply Ext.trans; rotate_left; assumption)))))).mono ?_; rintro e w5 ⟨rfl, hb5⟩; clear HDO; have hc5 := hb5.cells.1; have hz5 := hb5.size; (try simp only [World.size_alloc] at hz5); have p50 : w.heap.size < w5.heap.size := (by omega); have p51 : w.heap.size + 1 < w5.heap.size := (by omega); have p52 : w.heap.size + 1 + 1 < w5.heap.size := (by omega)) | (go_at_call 45; refine (HHO.out _ (by (with_reducible (repeat (first | exact Ext.refl _ | assumption | apply Ext.alloc | apply Ext.drew | exact ext_plus _ _ | (apply Ext.setCell; rotate_left; (simp <;> omega)) | (apply Ext.trans; rotate_left; exact ext_plus _ _) | (apply Ext.trans; rotate_left; assumption)))))).mono ?_; rintro e w6 ⟨rfl, hb6⟩; have hc6 := hb6.cells.1; have hz6 := hb6.size; (try simp only [World.size_alloc] at hz6); have p60 : w.heap.size < w6.heap.size := (by omega); have p61 : w.heap.size + 1 < w6.heap.size := (by omega); have p62 : w.heap.size + 1 + 1 < w6.heap.size := (by omega)))
          all_goals
            go_ret
            exact ⟨rfl, by (with_reducible (repeat (first | exact Ext.refl _ | assumption | apply Ext.alloc | apply Ext.drew | exact ext_plus _ _ | (apply Ext.setCell; rotate_left; (simp <;> omega)) | (apply Ext.trans; rotate_left; exact ext_plus _ _) | (apply Ext.trans; rotate_left; assumption))))⟩
        · rw [if_neg hlt] at ebe
          rw [ebe] at hbe
          have hBL : (W.okB s c && W.planB s (foundOf s c 7000000).plan) = true := by rw [hok.1, hpl]; rfl
          have hlp := BS.plan.1
          have hdn : ((dryQ s c (foundOf s c 7000000).plan).length : Int) = (foundOf s c 7000000).houses := by rw [dryQ_houses O hlp, ← BS.houses]
          have hcn := hdn
          rw [dryQ_cnt] at hcn
          have hle := cnt_le s.cells (W.play s (foundOf s c 7000000).plan (W.worst s c))
          rw [hcn, hnh] at hle
          have heq : (foundOf s c 7000000).houses = nh := by omega
          have hall := cnt_all s.cells (W.play s (foundOf s c 7000000).plan (W.worst s c)) (by rw [hcn, hnh, heq])
          have hplw := fun i => W.play_worst O T hlp i
          have hpl2 := fun w' (hx : Ext w w') vl hv => rplan_any s (foundOf s c 7000000).plan _ _ vl w' (hC.ext hx) (hW.ext hx) hv hn hm (by omega)
          rw [hpl] at hpl2
          have hco := fun w' (hx : Ext w w') vl hv => rcost_any s (foundOf s c 7000000).plan (.slice a1 s.cells.length c1) _ vl w' (hW.ext hx) hv (by omega) hm (fun p hp => (BS.plan.2 p hp).2) hwc
          rw [← BS.cost] at hco
          have hdl := fun w' (hx : Ext w w') vl hv => dryN_any s c (foundOf s c 7000000).plan _ _ vl w' (hC.ext hx) (hW.ext hx) hv hn hm (by omega)
          have edl : dryN s c (foundOf s c 7000000).plan = nh := by unfold dryN; rw [hBL, if_pos rfl, hdn, heq]
          rw [edl] at hdl
          have pbT : W.playB s c (foundOf s c 7000000).plan t = true := by unfold W.playB; rw [hBL, hT]; rfl
          have poT : playOf s c (foundOf s c 7000000).plan t = W.play s (foundOf s c 7000000).plan t := by unfold playOf; rw [pbT]; rfl
          have hpt := fun w' (hx : Ext w w') vl hv => play_any s c (foundOf s c 7000000).plan t _ _ vl _ w' (hC.ext hx) (hW.ext hx) hv (hD.ext hx) hn hm (by omega) (by omega)
          rw [poT, pbT, k0] at hpt
          have hco2 := fun w' (hx : Ext w w') => rcost_any s other (.slice a1 s.cells.length c1) _ _ w' (hW.ext hx) (hP.ext hx) (by omega) hm (fun p hp => (hpo.2 p hp).2) hwc
          have hbf := fun w' (hx : Ext w w') vl hv => before_any other (foundOf s c 7000000).plan _ vl w' (hP.ext hx) hv (by omega) (by omega)
          have hlP : (W.play s (foundOf s c 7000000).plan t).length = s.cells.length := W.depths_len _ _ _ _ _
          rw [heq] at most
          obtain ⟨L, hL⟩ : ∃ L, (foundOf s c 7000000).plan = L := ⟨_, rfl⟩
          obtain ⟨K, hK⟩ : ∃ K, (foundOf s c 7000000).cost = K := ⟨_, rfl⟩
          obtain ⟨co, hco0⟩ : ∃ co, W.costs s.works other = co := ⟨_, rfl⟩
          obtain ⟨lx, hlx⟩ : ∃ lx, W.lexlt other L = lx := ⟨_, rfl⟩
          rw [hL, hK] at hbe
          rw [hL] at hlp hpl2 hdl hpt hbf hlP
          simp only [hL] at hall hplw
          rw [hL, hK] at hco
          rw [hco0] at hco2
          rw [hL, hK, hco0, hlx] at most
          rw [hlx] at hbf
          obtain ⟨P, hPP⟩ : ∃ P, W.play s L t = P := ⟨_, rfl⟩
          rw [hPP] at hpt hlP
          simp only [hPP] at hplw
          have hok2 : ∀ (i : Nat) (h : i < s.cells.length), 0 ≤ s.cells[i].fl → W.nth P i ≤ s.cells[i].fl := fun i h h0 => by
            have a := hall i h (by omega)
            have b := hplw i
            omega
          have HOK := Lib.hid hok2
          have HBE := Lib.hid hbe
          have HPL := Lib.hid hpl2
          have HCO := Lib.hid hco
          have HDL := Lib.hid hdl
          have HPT := Lib.hid hpt
          have HCO2 := Lib.hid hco2
          have HBF := Lib.hid hbf
          have MOST := Lib.hid most
          have hlL : L.length ≤ 1000000 := by omega
          clear hbe hpl2 hco hdl hpt hco2 hbf most hok2 hall hplw hB hok hT O T hpo BS hpl k0 hfl hwc ebe hlt hBL hlp hdn hcn hle heq edl pbT poT hPP hL hK hco0 hlx hown hnh
          go_enter Try.func11, Try.ntmps11
          go_upto_region 9 with (first | (go_at_call 14; refine (HS.out _ (by (with_reducible (repeat (first | exact Ext.refl _ | assumption | apply Ext.alloc | apply Ext.drew | exact ext_plus _ _ | (apply Ext.setCell; rotate_left; (simp <;> omega)) | (apply Ext.trans; rotate_left; exact ext_plus _ _) | (apply Ext.trans; rotate_left; assumption)))))).mono ?_; rintro e w1 ⟨rfl, hb1⟩; have hc1 := hb1.cells.1; have hz1 := hb1.size; (try simp only [World.size_alloc] at hz1); have p10 : w.heap.size < w1.heap.size := (by omega); have p11 : w.heap.size + 1 < w1.heap.size := (by omega); have p12 : w.heap.size + 1 + 1 < w1.heap.size := (by omega)) | (go_at_call 17; refine (HBU.out _ (by (with_reducible (repeat (first | exact Ext.refl _ | assumption | apply Ext.alloc | apply Ext.drew | exact ext_plus _ _ | (apply Ext.setCell; rotate_left; (simp <;> omega)) | (apply Ext.trans; rotate_left; exact ext_plus _ _) | (apply Ext.trans; rotate_left; assumption)))))).mono ?_; rintro e w2 ⟨rfl, hb2⟩; have hc2 := hb2.cells.1; have hz2 := hb2.size; (try simp only [World.size_alloc] at hz2); have p20 : w.heap.size < w2.heap.size := (by omega); have p21 : w.heap.size + 1 < w2.heap.size := (by omega); have p22 : w.heap.size + 1 + 1 < w2.heap.size := (by omega)) | (go_at_call 18; refine (HTR.out _ (by (with_reducible (repeat (first | exact Ext.refl _ | assumption | apply Ext.alloc | apply Ext.drew | exact ext_plus _ _ | (apply Ext.setCell; rotate_left; (simp <;> omega)) | (apply Ext.trans; rotate_left; exact ext_plus _ _) | (apply Ext.trans; rotate_left; assumption)))))).mono ?_; rintro e w3 ⟨rfl, hb3⟩; clear HTR; have hc3 := hb3.cells.1; have hz3 := hb3.size; (try simp only [World.size_alloc] at hz3); have p30 : w.heap.size < w3.heap.size := (by omega); have p31 : w.heap.size + 1 < w3.heap.size := (by omega); have p32 : w.heap.size + 1 + 1 < w3.heap.size := (by omega)) | (go_at_call 26; refine (HBE.out _ (by (with_reducible (repeat (first | exact Ext.refl _ | assumption | apply Ext.alloc | apply Ext.drew | exact ext_plus _ _ | (apply Ext.setCell; rotate_left; (simp <;> omega)) | (apply Ext.trans; rotate_left; exact ext_plus _ _) | (apply Ext.trans; rotate_left; assumption)))))).mono ?_; rintro e w4 ⟨vl, rfl, hvl, hb4⟩; clear HBE; have hvl2 := hvl; obtain ⟨al, cl, rfl, _⟩ := hvl2; have HVL := Lib.hid hvl; clear hvl; have hc4 := hb4.cells.1; have hz4 := hb4.size; (try simp only [World.size_alloc] at hz4); have p40 : w.heap.size < w4.heap.size := (by omega); have p41 : w.heap.size + 1 < w4.heap.size := (by omega); have p42 : w.heap.size + 1 + 1 < w4.heap.size := (by omega)) | (go_at_call 44; refine (HDO.out _ (by (with_reducible (repeat (first | exact Ext.refl _ | assumption | apply Ext.alloc | apply Ext.drew | exact ext_plus _ _ | (apply Ext.setCell; rotate_left; (simp <;> omega)) | (apply Ext.trans; rotate_left; exact ext_plus _ _) | (apply Ext.trans; rotate_left; assumption)))))).mono ?_; rintro e w5 ⟨rfl, hb5⟩; clear HDO; have hc5 := hb5.cells.1; have hz5 := hb5.size; (try simp only [World.size_alloc] at hz5); have p50 : w.heap.size < w5.heap.size := (by omega); have p51 : w.heap.size + 1 < w5.heap.size := (by omega); have p52 : w.heap.size + 1 + 1 < w5.heap.size := (by omega)))
          have hbs5 : Blk w5 w.heap.size #[.slice a1 s.cells.length c1, .slice a2 s.works.length c2, .int .i64 s.reef, .int .i64 s.ll, .int .i64 s.lh] 27 := by
            refine Blk.ext (w := ((w.alloc (.cells #[.slice a1 s.cells.length c1, .slice a2 s.works.length c2, .int .i64 s.reef, .int .i64 s.ll, .int .i64 s.lh] 27)).alloc (.cells #[.int .i64 c.wl, .int .i64 c.wh, .int .i64 c.fl, .int .i64 c.fh, .int .i64 c.tl, .int .i64 c.th] 29)).alloc (.cells #[.int .i64 t.wind, .int .i64 t.fetch, .int .i64 t.tide, .int .i64 t.loss, .slice a4 t.drags.length c4] 32)) (((Blk.new' rfl _ _).alloc _).alloc _) ?_
            (with_reducible (repeat (first | exact Ext.refl _ | assumption | apply Ext.alloc | apply Ext.drew | exact ext_plus _ _ | (apply Ext.setCell; rotate_left; (simp <;> omega)) | (apply Ext.trans; rotate_left; exact ext_plus _ _) | (apply Ext.trans; rotate_left; assumption))))
          have hbm5 : Blk w5 (w.heap.size + 1) #[.int .i64 c.wl, .int .i64 c.wh, .int .i64 c.fl, .int .i64 c.fh, .int .i64 c.tl, .int .i64 c.th] 29 := by
            refine Blk.ext (w := ((w.alloc (.cells #[.slice a1 s.cells.length c1, .slice a2 s.works.length c2, .int .i64 s.reef, .int .i64 s.ll, .int .i64 s.lh] 27)).alloc (.cells #[.int .i64 c.wl, .int .i64 c.wh, .int .i64 c.fl, .int .i64 c.fh, .int .i64 c.tl, .int .i64 c.th] 29)).alloc (.cells #[.int .i64 t.wind, .int .i64 t.fetch, .int .i64 t.tide, .int .i64 t.loss, .slice a4 t.drags.length c4] 32)) ((Blk.new' (by simp) _ _).alloc _) ?_
            (with_reducible (repeat (first | exact Ext.refl _ | assumption | apply Ext.alloc | apply Ext.drew | exact ext_plus _ _ | (apply Ext.setCell; rotate_left; (simp <;> omega)) | (apply Ext.trans; rotate_left; exact ext_plus _ _) | (apply Ext.trans; rotate_left; assumption))))
          have hbt5 : Blk w5 (w.heap.size + 1 + 1) #[.int .i64 t.wind, .int .i64 t.fetch, .int .i64 t.tide, .int .i64 t.loss, .slice a4 t.drags.length c4] 32 := by
            refine Blk.ext (w := ((w.alloc (.cells #[.slice a1 s.cells.length c1, .slice a2 s.works.length c2, .int .i64 s.reef, .int .i64 s.ll, .int .i64 s.lh] 27)).alloc (.cells #[.int .i64 c.wl, .int .i64 c.wh, .int .i64 c.fl, .int .i64 c.fh, .int .i64 c.tl, .int .i64 c.th] 29)).alloc (.cells #[.int .i64 t.wind, .int .i64 t.fetch, .int .i64 t.tide, .int .i64 t.loss, .slice a4 t.drags.length c4] 32)) (Blk.new' (by simp) _ _) ?_
            (with_reducible (repeat (first | exact Ext.refl _ | assumption | apply Ext.alloc | apply Ext.drew | exact ext_plus _ _ | (apply Ext.setCell; rotate_left; (simp <;> omega)) | (apply Ext.trans; rotate_left; exact ext_plus _ _) | (apply Ext.trans; rotate_left; assumption))))
          have h45 : Ext w4 w5 := hb5
          have hE5 : Ext w w5 := by (with_reducible (repeat (first | exact Ext.refl _ | assumption | apply Ext.alloc | apply Ext.drew | exact ext_plus _ _ | (apply Ext.setCell; rotate_left; (simp <;> omega)) | (apply Ext.trans; rotate_left; exact ext_plus _ _) | (apply Ext.trans; rotate_left; assumption))))
          have hpc := plus_cell
          have hcs5 := hbs5.cell
          have hls5 := hbs5.lt
          have hcm5 := hbm5.cell
          have hlm5 := hbm5.lt
          have hct5 := hbt5.cell
          have hlt5 := hbt5.lt
          clear hc1 hc2 hc3 hc4 hc5 hz1 hz2 hz3 hz4 hz5 p10 p11 p12 p20 p21 p22 p30 p31 p32 p40 p41 p42 p50 p51 p52 hb1 hb2 hb3 hb4 hb5
          refine wp_region_ext 20 (fun _ _ d _ _ h => by cases d <;> exact h) (by kernel_rfl) (by kernel_rfl) (by kernel_rfl) (by kernel_rfl) ?_
          simp only [List.take_succ_cons, List.take_zero, List.drop_succ_cons, List.drop_zero]
          repeat (any_goals (first | go_big_quiet_step (first | (go_at_call 46; exact ext_quiet (HPL.out _ (by (with_reducible (repeat (first | exact Ext.refl _ | assumption | apply Ext.alloc | apply Ext.drew | exact ext_plus _ _ | (apply Ext.setCell; rotate_left; (simp <;> omega)) | (apply Ext.trans; rotate_left; exact ext_plus _ _) | (apply Ext.trans; rotate_left; assumption))))) _ (HVL.out.ext (by (with_reducible (repeat (first | exact Ext.refl _ | assumption | apply Ext.alloc | apply Ext.drew | exact ext_plus _ _ | (apply Ext.setCell; rotate_left; (simp <;> omega)) | (apply Ext.trans; rotate_left; exact ext_plus _ _) | (apply Ext.trans; rotate_left; assumption)))))))) | (go_at_call 30; exact ext_quiet (HCO.out _ (by (with_reducible (repeat (first | exact Ext.refl _ | assumption | apply Ext.alloc | apply Ext.drew | exact ext_plus _ _ | (apply Ext.setCell; rotate_left; (simp <;> omega)) | (apply Ext.trans; rotate_left; exact ext_plus _ _) | (apply Ext.trans; rotate_left; assumption))))) _ (HVL.out.ext (by (with_reducible (repeat (first | exact Ext.refl _ | assumption | apply Ext.alloc | apply Ext.drew | exact ext_plus _ _ | (apply Ext.setCell; rotate_left; (simp <;> omega)) | (apply Ext.trans; rotate_left; exact ext_plus _ _) | (apply Ext.trans; rotate_left; assumption)))))))) | (go_at_call 44; exact ext_quiet (HDL.out _ (by (with_reducible (repeat (first | exact Ext.refl _ | assumption | apply Ext.alloc | apply Ext.drew | exact ext_plus _ _ | (apply Ext.setCell; rotate_left; (simp <;> omega)) | (apply Ext.trans; rotate_left; exact ext_plus _ _) | (apply Ext.trans; rotate_left; assumption))))) _ (HVL.out.ext (by (with_reducible (repeat (first | exact Ext.refl _ | assumption | apply Ext.alloc | apply Ext.drew | exact ext_plus _ _ | (apply Ext.setCell; rotate_left; (simp <;> omega)) | (apply Ext.trans; rotate_left; exact ext_plus _ _) | (apply Ext.trans; rotate_left; assumption)))))))) | (go_at_call 45; exact ext_quiet (HHO.out _ (by (with_reducible (repeat (first | exact Ext.refl _ | assumption | apply Ext.alloc | apply Ext.drew | exact ext_plus _ _ | (apply Ext.setCell; rotate_left; (simp <;> omega)) | (apply Ext.trans; rotate_left; exact ext_plus _ _) | (apply Ext.trans; rotate_left; assumption)))))))) | quiet_step (first | (go_at_call 46; exact ext_quiet (HPL.out _ (by (with_reducible (repeat (first | exact Ext.refl _ | assumption | apply Ext.alloc | apply Ext.drew | exact ext_plus _ _ | (apply Ext.setCell; rotate_left; (simp <;> omega)) | (apply Ext.trans; rotate_left; exact ext_plus _ _) | (apply Ext.trans; rotate_left; assumption))))) _ (HVL.out.ext (by (with_reducible (repeat (first | exact Ext.refl _ | assumption | apply Ext.alloc | apply Ext.drew | exact ext_plus _ _ | (apply Ext.setCell; rotate_left; (simp <;> omega)) | (apply Ext.trans; rotate_left; exact ext_plus _ _) | (apply Ext.trans; rotate_left; assumption)))))))) | (go_at_call 30; exact ext_quiet (HCO.out _ (by (with_reducible (repeat (first | exact Ext.refl _ | assumption | apply Ext.alloc | apply Ext.drew | exact ext_plus _ _ | (apply Ext.setCell; rotate_left; (simp <;> omega)) | (apply Ext.trans; rotate_left; exact ext_plus _ _) | (apply Ext.trans; rotate_left; assumption))))) _ (HVL.out.ext (by (with_reducible (repeat (first | exact Ext.refl _ | assumption | apply Ext.alloc | apply Ext.drew | exact ext_plus _ _ | (apply Ext.setCell; rotate_left; (simp <;> omega)) | (apply Ext.trans; rotate_left; exact ext_plus _ _) | (apply Ext.trans; rotate_left; assumption)))))))) | (go_at_call 44; exact ext_quiet (HDL.out _ (by (with_reducible (repeat (first | exact Ext.refl _ | assumption | apply Ext.alloc | apply Ext.drew | exact ext_plus _ _ | (apply Ext.setCell; rotate_left; (simp <;> omega)) | (apply Ext.trans; rotate_left; exact ext_plus _ _) | (apply Ext.trans; rotate_left; assumption))))) _ (HVL.out.ext (by (with_reducible (repeat (first | exact Ext.refl _ | assumption | apply Ext.alloc | apply Ext.drew | exact ext_plus _ _ | (apply Ext.setCell; rotate_left; (simp <;> omega)) | (apply Ext.trans; rotate_left; exact ext_plus _ _) | (apply Ext.trans; rotate_left; assumption)))))))) | (go_at_call 45; exact ext_quiet (HHO.out _ (by (with_reducible (repeat (first | exact Ext.refl _ | assumption | apply Ext.alloc | apply Ext.drew | exact ext_plus _ _ | (apply Ext.setCell; rotate_left; (simp <;> omega)) | (apply Ext.trans; rotate_left; exact ext_plus _ _) | (apply Ext.trans; rotate_left; assumption))))))))))
          all_goals (refine wpQuiet_nil ?_; intro w6 hE56)
          unfold wpList
          have hE6 : Ext w w6 := hE5.trans hE56
          have h46 : Ext w4 w6 := h45.trans hE56
          have hbs6 := hbs5.ext hE56
          have hcs6 := hbs6.cell
          have hls6 := hbs6.lt
          have hcm6 := (hbm5.ext hE56).cell
          have hlm6 := (hbm5.ext hE56).lt
          have hct6 := (hbt5.ext hE56).cell
          have hlt6 := (hbt5.ext hE56).lt
          have HVL6 := Lib.hid (HVL.out.ext h46)
          clear HVL HPL HCO HDL hcs5 hls5 hcm5 hlm5 hct5 hlt5 hbs5 hbm5 hbt5 h46 hE56 h45 hE5
          dsimp only [Exit.then]
          go_upto_region 14 with (first | (go_at_call 16; refine (HPT.out _ (by (with_reducible (repeat (first | exact Ext.refl _ | assumption | apply Ext.alloc | apply Ext.drew | exact ext_plus _ _ | (apply Ext.setCell; rotate_left; (simp <;> omega)) | (apply Ext.trans; rotate_left; exact ext_plus _ _) | (apply Ext.trans; rotate_left; assumption))))) _ HVL6.out).mono ?_; rintro e w7 ⟨vz, rfl, hvz, hb7⟩; obtain ⟨az, cz, rfl, hxz⟩ := hvz; have HXP := Lib.hid hxz; clear hxz; have hsy7 := hbs6.ext hb7; have hcs7 := hsy7.cell; have hls7 := hsy7.lt; have hc7 := hb7.cells.1; have hz7 := hb7.size; (try simp only [World.size_alloc] at hz7); have p70 : w.heap.size < w7.heap.size := (by omega); have p71 : w.heap.size + 1 < w7.heap.size := (by omega); have p72 : w.heap.size + 1 + 1 < w7.heap.size := (by omega)))
          have h67 : Ext w6 w7 := hb7
          have hE7 : Ext w w7 := hE6.trans h67
          clear hc7 hz7 p70 p71 p72 hcs6 hls6 hcm6 hlm6 hct6 hlt6
          go_wp2
          go_loopw [15] (fun i wr => ∃ k : Nat, k ≤ s.cells.length ∧ i = .int .i64 k ∧ Ext w7 wr)
            (fun i _ => s.cells.length - (intOf i).toNat)
          case atStart => exact ⟨0, Nat.zero_le _, rfl, Ext.refl _⟩
          case round =>
            obtain ⟨k, hk, rfl, hEk⟩ := hrel
            have hE0 : Ext w wr := hE7.trans hEk
            have hbsr := hsy7.ext hEk
            have hcbs := hbsr.cell
            have hlbs := hbsr.lt
            by_cases hlt : k < s.cells.length
            · have hc0 := hE0.cells.1
              have hcp := hEk.cells.1
              have hz0 := hE0.size
              have hzp := hEk.size
              obtain ⟨g4, o4, rfl, hg4, h04⟩ := HXP.out k (by omega)
              obtain ⟨g1, o1, rfl, hg1, hh0, hh1, hh2, hh3⟩ := HX1.out k hlt
              have hok3 := HOK.out k hlt
              have eP : W.nth P k = P[k] := W.nth_get (by omega)
              rw [eP] at hok3
              obtain ⟨p, hp⟩ : ∃ p, P[k] = p := ⟨_, rfl⟩
              obtain ⟨f, hf⟩ : ∃ f, s.cells[k].fl = f := ⟨_, rfl⟩
              rw [hp] at h04 hok3
              rw [hf] at hh3 hok3
              have e4 : wr.cell? ⟨g4, o4 + k, none⟩ = some (.int .i64 p) := (hcp _ _ hg4).trans h04
              have e1 : wr.cell? ⟨g1, o1 + k * 4 + 3, none⟩ = some (.int .i64 f) := (hc0 _ _ hg1).trans hh3
              have q1 : g1 < wr.heap.size := by omega
              have q4 : g4 < wr.heap.size := by omega
              clear hc0 hcp hz0 hzp hg4 h04 hg1 hh0 hh1 hh2 hh3 eP hp hf HS HBU HHO HPT HCO2 HBF MOST HVL6 hsy7 hcs7 hls7 hbsr
              by_cases f0 : 0 ≤ f
              · have f1 : p ≤ f := hok3 f0
                clear hok3
                go_wp2
                refine wp_region_ext 20 (fun _ _ d _ _ h => by cases d <;> exact h) (by kernel_rfl) (by kernel_rfl) (by kernel_rfl) (by kernel_rfl) ?_
                simp only [List.take_succ_cons, List.take_zero, List.drop_succ_cons, List.drop_zero]
                have m0 : 0 ≤ f := by omega
                have m1 : ¬ f < p := by omega
                repeat (any_goals (first | go_big_quiet_step (fail) | quiet_step (fail)))
                all_goals (refine wpQuiet_nil ?_; intro w' hE')
                unfold wpList
                go_wp2
                go_roundw
                case rel => exact ⟨k + 1, by omega, by go_num, hEk.trans hE'⟩
                case measure => simp [intOf]; omega
              · clear hok3
                go_wp2
                refine wp_region_ext 20 (fun _ _ d _ _ h => by cases d <;> exact h) (by kernel_rfl) (by kernel_rfl) (by kernel_rfl) (by kernel_rfl) ?_
                simp only [List.take_succ_cons, List.take_zero, List.drop_succ_cons, List.drop_zero]
                have m0 : ¬ 0 ≤ f := by omega
                repeat (any_goals (first | go_big_quiet_step (fail) | quiet_step (fail)))
                all_goals (refine wpQuiet_nil ?_; intro w' hE')
                unfold wpList
                go_wp2
                go_roundw
                case rel => exact ⟨k + 1, by omega, by go_num, hEk.trans hE'⟩
                case measure => simp [intOf]; omega
            · have h6r : Ext w6 wr := h67.trans hEk
              rcases MOST.out with own1 | ⟨rfl, co1 | ⟨rfl, rfl⟩⟩
              · clear MOST
                go_wp2_with (first | (go_at_call 30; refine (HCO2.out _ (by exact hE0)).mono ?_; rintro e v1 ⟨rfl, hv1⟩; have hcv1 := hv1.cells.1; have hsv1 := (hbsr.ext hv1).cell; have hlv1 := (hbsr.ext hv1).lt; have hE1 := hE0.trans hv1) | (go_at_call 45; refine (HHO.out _ (by exact hE1)).mono ?_; rintro e v2 ⟨rfl, hv2⟩; have hE2 := hE1.trans hv2; have hE4 := hE2) | (go_at_call 47; refine (HBF.out _ (by exact hE2) _ (HVL6.out.ext ((h6r.trans hv1).trans hv2))).mono ?_; rintro e v3 ⟨rfl, hv3⟩; clear hE4; have hE4 := hE2.trans hv3) | (go_at_call 15; refine (known_any _).mono ?_; rintro e wk ⟨rfl, hbk⟩))
                go_ret
                exact ⟨rfl, hE4.trans hbk⟩
              · clear MOST
                have co2 : ¬ co = K := by omega
                go_wp2_with (first | (go_at_call 30; refine (HCO2.out _ (by exact hE0)).mono ?_; rintro e v1 ⟨rfl, hv1⟩; have hcv1 := hv1.cells.1; have hsv1 := (hbsr.ext hv1).cell; have hlv1 := (hbsr.ext hv1).lt; have hE1 := hE0.trans hv1) | (go_at_call 45; refine (HHO.out _ (by exact hE1)).mono ?_; rintro e v2 ⟨rfl, hv2⟩; have hE2 := hE1.trans hv2; have hE4 := hE2) | (go_at_call 47; refine (HBF.out _ (by exact hE2) _ (HVL6.out.ext ((h6r.trans hv1).trans hv2))).mono ?_; rintro e v3 ⟨rfl, hv3⟩; clear hE4; have hE4 := hE2.trans hv3) | (go_at_call 15; refine (known_any _).mono ?_; rintro e wk ⟨rfl, hbk⟩))
                go_ret
                exact ⟨rfl, hE4.trans hbk⟩
              · clear MOST
                go_wp2_with (first | (go_at_call 30; refine (HCO2.out _ (by exact hE0)).mono ?_; rintro e v1 ⟨rfl, hv1⟩; have hcv1 := hv1.cells.1; have hsv1 := (hbsr.ext hv1).cell; have hlv1 := (hbsr.ext hv1).lt; have hE1 := hE0.trans hv1) | (go_at_call 45; refine (HHO.out _ (by exact hE1)).mono ?_; rintro e v2 ⟨rfl, hv2⟩; have hE2 := hE1.trans hv2; have hE4 := hE2) | (go_at_call 47; refine (HBF.out _ (by exact hE2) _ (HVL6.out.ext ((h6r.trans hv1).trans hv2))).mono ?_; rintro e v3 ⟨rfl, hv3⟩; clear hE4; have hE4 := hE2.trans hv3) | (go_at_call 15; refine (known_any _).mono ?_; rintro e wk ⟨rfl, hbk⟩))
                go_ret
                exact ⟨rfl, hE4.trans hbk⟩
  · have hcs : shortB s = false ∨ (shortB s = true ∧ 12 < other.length) ∨ (shortB s = true ∧ other.length ≤ 12 ∧ 12 < t.drags.length) := by
      cases e : shortB s with
      | false => exact .inl rfl
      | true =>
        rcases Nat.lt_or_ge 12 other.length with h | h
        · exact .inr (.inl ⟨rfl, h⟩)
        · rcases Nat.lt_or_ge 12 t.drags.length with h' | h'
          · exact .inr (.inr ⟨rfl, h, h'⟩)
          · exact absurd ⟨e, h, h'⟩ hsh
    clear hsh
    rcases hcs with h1 | ⟨h1, h2⟩ | ⟨h1, h2, h3⟩
    all_goals
      rw [h1] at hs
      have HS := Lib.hid hs
      clear hs h1
      go_enter Try.func11, Try.ntmps11
      go_wp2_with (first | (go_at_call 14; refine (HS.out _ (by (with_reducible (repeat (first | exact Ext.refl _ | assumption | apply Ext.alloc | apply Ext.drew | exact ext_plus _ _ | (apply Ext.setCell; rotate_left; (simp <;> omega)) | (apply Ext.trans; rotate_left; exact ext_plus _ _) | (apply Ext.trans; rotate_left; assumption)))))).mono ?_; rintro e w1 ⟨rfl, hb1⟩; have hc1 := hb1.cells.1; have hz1 := hb1.size; (try simp only [World.size_alloc] at hz1); have p10 : w.heap.size < w1.heap.size := (by omega); have p11 : w.heap.size + 1 < w1.heap.size := (by omega); have p12 : w.heap.size + 1 + 1 < w1.heap.size := (by omega)) | (go_at_call 15; refine (known_any _).mono ?_; rintro e wk ⟨rfl, hbk⟩))
      all_goals
        go_ret
        exact ⟨rfl, by (with_reducible (repeat (first | exact Ext.refl _ | assumption | apply Ext.alloc | apply Ext.drew | exact ext_plus _ _ | (apply Ext.setCell; rotate_left; (simp <;> omega)) | (apply Ext.trans; rotate_left; exact ext_plus _ _) | (apply Ext.trans; rotate_left; assumption))))⟩
end Go.Proofs.Ytmlobiajimlboaa
