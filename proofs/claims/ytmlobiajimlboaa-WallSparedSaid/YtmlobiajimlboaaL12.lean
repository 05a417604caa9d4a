/- The law WallSpared. -/
import Derived.Test.YtmlobiajimlboaaZ3
import Derived.Test.YtmlobiajimlboaaR8
import Derived.Test.YtmlobiajimlboaaR10
import Derived.Test.YtmlobiajimlboaaR11
namespace Go.Proofs.Ytmlobiajimlboaa
set_option linter.unusedVariables false
set_option linter.unusedSimpArgs false
open Go.RowKit
set_option maxRecDepth 100000 in
set_option maxHeartbeats 4000000 in
theorem wallSpared_law (s : W.Shore) (c : W.Storm) (money : Int) (other : List Int) (more : Int) (hwfmoney : (Lit.int .i64 money).wf = true) (hwfmore : (Lit.int .i64 more).wf = true) (vc vw vp : Value) (w : World) (hC : Cells w vc s.cells) (hR : Room vc) (hW : Works w vw s.works) (hP : Ints w vp other) :
    Calls Try.prog 12 #[shoreA s vc vw, stormA c, .int .i64 money, vp, .int .i64 more] w fun e w' => e = .returned (.bool true) ∧ Ext w w' := by
  have hC' := hC
  have hW' := hW
  have hP' := hP
  obtain ⟨a1, c1, rfl, _⟩ := hC'
  obtain ⟨a2, c2, rfl, _⟩ := hW'
  obtain ⟨a3, c3, rfl, _⟩ := hP'
  have HRoom := Lib.hid hR
  clear hR hwfmoney hwfmore
  have hs := fun w' (hx : Ext w w') => short_any s _ _ w' (hC.ext hx) (hW.ext hx)
  by_cases hsh : shortB s = true ∧ other.length ≤ 12
  · obtain ⟨h1, h2⟩ := hsh
    rw [h1] at hs
    have HS := Lib.hid hs
    have hn : s.cells.length ≤ 1000000 ∧ s.works.length ≤ 1000000 ∧ s.cells.length ≤ 12 := by simp [shortB] at h1; omega
    obtain ⟨hn, hm, hn12⟩ := hn
    obtain ⟨B, hB⟩ : ∃ B, (W.okB s c && W.planB s other) = B := ⟨_, rfl⟩
    have hbu := fun w' (hx : Ext w w') => built_any s c other _ _ _ w' (hC.ext hx) (hW.ext hx) (hP.ext hx) hn hm (by omega)
    rw [hB] at hbu
    have HBU := Lib.hid hbu
    have hm1 := fun w' : World => rmoney_any money w'
    have hm2 := fun w' : World => rmoney_any more w'
    clear hs h1 hbu
    cases B with
    | false =>
      clear hB hm1 hm2
      go_enter Try.func12, Try.ntmps12
      go_wp2_with (first | (go_at_call 14; refine (HS.out _ (by (with_reducible (repeat (first | exact Ext.refl _ | assumption | apply Ext.alloc | apply Ext.drew | exact ext_plus _ _ | (apply Ext.setCell; rotate_left; (simp <;> omega)) | (apply Ext.trans; rotate_left; exact ext_plus _ _) | (apply Ext.trans; rotate_left; assumption)))))).mono ?_; rintro e w1 ⟨rfl, hb1⟩; have hc1 := hb1.cells.1; have hz1 := hb1.size; (try simp only [World.size_alloc] at hz1); have p10 : w.heap.size < w1.heap.size := (by omega); have p11 : w.heap.size + 1 < w1.heap.size := (by omega)) | (go_at_call 15; refine (known_any _).mono ?_; rintro e wk ⟨rfl, hbk⟩) | (go_at_call 17; refine (HBU.out _ (by (with_reducible (repeat (first | exact Ext.refl _ | assumption | apply Ext.alloc | apply Ext.drew | exact ext_plus _ _ | (apply Ext.setCell; rotate_left; (simp <;> omega)) | (apply Ext.trans; rotate_left; exact ext_plus _ _) | (apply Ext.trans; rotate_left; assumption)))))).mono ?_; rintro e w2 ⟨rfl, hb2⟩; have hc2 := hb2.cells.1; have hz2 := hb2.size; (try simp only [World.size_alloc] at hz2); have p20 : w.heap.size < w2.heap.size := (by omega); have p21 : w.heap.size + 1 < w2.heap.size := (by omega)))
      all_goals
        go_ret
        exact ⟨rfl, by (with_reducible (repeat (first | exact Ext.refl _ | assumption | apply Ext.alloc | apply Ext.drew | exact ext_plus _ _ | (apply Ext.setCell; rotate_left; (simp <;> omega)) | (apply Ext.trans; rotate_left; exact ext_plus _ _) | (apply Ext.trans; rotate_left; assumption))))⟩
    | true =>
      cases hV1 : W.within money 0 7000000 with
      | false =>
        rw [hV1] at hm1
        have HM1 := Lib.hid hm1
        clear hB hm1 hm2 hV1
        go_enter Try.func12, Try.ntmps12
        go_wp2_with (first | (go_at_call 14; refine (HS.out _ (by (with_reducible (repeat (first | exact Ext.refl _ | assumption | apply Ext.alloc | apply Ext.drew | exact ext_plus _ _ | (apply Ext.setCell; rotate_left; (simp <;> omega)) | (apply Ext.trans; rotate_left; exact ext_plus _ _) | (apply Ext.trans; rotate_left; assumption)))))).mono ?_; rintro e w1 ⟨rfl, hb1⟩; have hc1 := hb1.cells.1; have hz1 := hb1.size; (try simp only [World.size_alloc] at hz1); have p10 : w.heap.size < w1.heap.size := (by omega); have p11 : w.heap.size + 1 < w1.heap.size := (by omega)) | (go_at_call 15; refine (known_any _).mono ?_; rintro e wk ⟨rfl, hbk⟩) | (go_at_call 17; refine (HBU.out _ (by (with_reducible (repeat (first | exact Ext.refl _ | assumption | apply Ext.alloc | apply Ext.drew | exact ext_plus _ _ | (apply Ext.setCell; rotate_left; (simp <;> omega)) | (apply Ext.trans; rotate_left; exact ext_plus _ _) | (apply Ext.trans; rotate_left; assumption)))))).mono ?_; rintro e w2 ⟨rfl, hb2⟩; have hc2 := hb2.cells.1; have hz2 := hb2.size; (try simp only [World.size_alloc] at hz2); have p20 : w.heap.size < w2.heap.size := (by omega); have p21 : w.heap.size + 1 < w2.heap.size := (by omega)) | (go_at_call 31; refine (HM1.out _).mono ?_; rintro e wm ⟨rfl, rfl⟩; clear HM1))
        all_goals
          go_ret
          exact ⟨rfl, by (with_reducible (repeat (first | exact Ext.refl _ | assumption | apply Ext.alloc | apply Ext.drew | exact ext_plus _ _ | (apply Ext.setCell; rotate_left; (simp <;> omega)) | (apply Ext.trans; rotate_left; exact ext_plus _ _) | (apply Ext.trans; rotate_left; assumption))))⟩
      | true =>
        rw [hV1] at hm1
        cases hV2 : W.within more 0 7000000 with
        | false =>
          rw [hV2] at hm2
          have HM1 := Lib.hid hm1
          have HM2 := Lib.hid hm2
          clear hB hm1 hm2 hV1 hV2
          go_enter Try.func12, Try.ntmps12
          go_wp2_with (first | (go_at_call 14; refine (HS.out _ (by (with_reducible (repeat (first | exact Ext.refl _ | assumption | apply Ext.alloc | apply Ext.drew | exact ext_plus _ _ | (apply Ext.setCell; rotate_left; (simp <;> omega)) | (apply Ext.trans; rotate_left; exact ext_plus _ _) | (apply Ext.trans; rotate_left; assumption)))))).mono ?_; rintro e w1 ⟨rfl, hb1⟩; have hc1 := hb1.cells.1; have hz1 := hb1.size; (try simp only [World.size_alloc] at hz1); have p10 : w.heap.size < w1.heap.size := (by omega); have p11 : w.heap.size + 1 < w1.heap.size := (by omega)) | (go_at_call 15; refine (known_any _).mono ?_; rintro e wk ⟨rfl, hbk⟩) | (go_at_call 17; refine (HBU.out _ (by (with_reducible (repeat (first | exact Ext.refl _ | assumption | apply Ext.alloc | apply Ext.drew | exact ext_plus _ _ | (apply Ext.setCell; rotate_left; (simp <;> omega)) | (apply Ext.trans; rotate_left; exact ext_plus _ _) | (apply Ext.trans; rotate_left; assumption)))))).mono ?_; rintro e w2 ⟨rfl, hb2⟩; have hc2 := hb2.cells.1; have hz2 := hb2.size; (try simp only [World.size_alloc] at hz2); have p20 : w.heap.size < w2.heap.size := (by omega); have p21 : w.heap.size + 1 < w2.heap.size := (by omega)) | (go_at_call 31; refine (HM1.out _).mono ?_; rintro e wm ⟨rfl, rfl⟩; clear HM1) | (go_at_call 31; refine (HM2.out _).mono ?_; rintro e wm ⟨rfl, rfl⟩; clear HM2))
          all_goals
            go_ret
            exact ⟨rfl, by (with_reducible (repeat (first | exact Ext.refl _ | assumption | apply Ext.alloc | apply Ext.drew | exact ext_plus _ _ | (apply Ext.setCell; rotate_left; (simp <;> omega)) | (apply Ext.trans; rotate_left; exact ext_plus _ _) | (apply Ext.trans; rotate_left; assumption))))⟩
        | true =>
          rw [hV2] at hm2
          have HM1 := Lib.hid hm1
          have HM2 := Lib.hid hm2
          have hok := hB
          simp only [Bool.and_eq_true] at hok
          have O := W.ok_iff hok.1
          have hpo := planB_plan hok.2
          have hw1 := W.within_iff.1 hV1
          have hw2 := W.within_iff.1 hV2
          obtain ⟨mx, hmx⟩ : ∃ mx, (if money < more then more else money) = mx := ⟨_, rfl⟩
          have hmx1 : money ≤ mx ∧ mx ≤ 7000000 := by rw [← hmx]; split <;> omega
          have BS := found_best (c := c) O hw1.1
          have SF := spare_facts (c := c) O hw1.1 hw1.2 hmx1.1
          have hfl : ∀ x ∈ s.cells, -1 ≤ x.fl := fun x hx => by have := O.cell x hx; omega
          have hwc : ∀ x ∈ s.works, 0 ≤ x.cost ∧ x.cost ≤ 1000000 := fun x hx => by have := O.work x hx; omega
          have hlp := SF.len
          have hpl := SF.planB
          have hBL : (W.okB s c && W.planB s (foundOf s c money).plan) = true := by rw [hok.1, hpl]; rfl
          have hsp := fun w' (hx : Ext w w') => spareQ_any s c money _ _ HRoom.out w' (hC.ext hx) (hW.ext hx) hn hm
          have hsp2 := fun w' (hx : Ext w w') => spareQ_any s c mx _ _ HRoom.out w' (hC.ext hx) (hW.ext hx) hn hm
          have esp : spareOf s c money = ((foundOf s c money).plan, (foundOf s c money).houses, (foundOf s c money).cost, 0) := by unfold spareOf spareB; rw [hok.1, hV1]; rfl
          have esp2 : spareOf s c mx = ((foundOf s c mx).plan, (foundOf s c mx).houses, (foundOf s c mx).cost, 0) := by unfold spareOf spareB; rw [hok.1, W.within_iff.2 ⟨by omega, hmx1.2⟩]; rfl
          rw [esp] at hsp
          rw [esp2] at hsp2
          have hbe := fun w' (hx : Ext w w') => bestQ_any s c _ _ HRoom.out w' (hC.ext hx) (hW.ext hx) hn hm
          have ebe : bestOf s c = (if (foundOf s c 7000000).houses < W.houses s.cells then ([], 0, 5) else ((foundOf s c 7000000).plan, (foundOf s c 7000000).cost, 0)) := by unfold bestOf; rw [hok.1]; rfl
          have hdo := fun w' (hx : Ext w w') => dryN_any s c other _ _ _ w' (hC.ext hx) (hW.ext hx) (hP.ext hx) hn hm (by omega)
          have edo : dryN s c other = W.dryHouses s.works (W.level s (W.worst s c)) s.cells other := by
            unfold dryN; rw [hB, if_pos rfl]; exact dryQ_houses O hpo.1
          rw [edo] at hdo
          have hpl2 := fun w' (hx : Ext w w') vl hv => rplan_any s (foundOf s c money).plan _ _ vl w' (hC.ext hx) (hW.ext hx) hv hn hm (by omega)
          rw [hpl] at hpl2
          have hco := fun w' (hx : Ext w w') vl hv => rcost_any s (foundOf s c money).plan (.slice a1 s.cells.length c1) _ vl w' (hW.ext hx) hv (by omega) hm SF.below hwc
          rw [← SF.cost] at hco
          have hdl := fun w' (hx : Ext w w') vl hv => dryN_any s c (foundOf s c money).plan _ _ vl w' (hC.ext hx) (hW.ext hx) hv hn hm (by omega)
          have edl : dryN s c (foundOf s c money).plan = (foundOf s c money).houses := by unfold dryN; rw [hBL, if_pos rfl, SF.dry]
          rw [edl] at hdl
          have hco2 := fun w' (hx : Ext w w') => rcost_any s other (.slice a1 s.cells.length c1) _ _ w' (hW.ext hx) (hP.ext hx) (by omega) hm (fun p hp => (hpo.2 p hp).2) hwc
          have hbf := fun w' (hx : Ext w w') vl hv => before_any other (foundOf s c money).plan _ vl w' (hP.ext hx) hv (by omega) (by omega)
          have hho := fun w' (hx : Ext w w') => rhouses_any s _ (.slice a2 s.works.length c2) w' (hC.ext hx) hn hfl
          have most := BS.most other hpo
          have own0 : 0 ≤ W.dryHouses s.works (W.level s (W.worst s c)) s.cells other := by rw [← dryQ_houses O hpo.1]; omega
          have hpays := SF.pays
          have hmore := SF.more
          have hfew := SF.few
          have hless := SF.less
          have hall := SF.all
          have hlF := SF.lenAll
          obtain ⟨own, hown⟩ : ∃ own, W.dryHouses s.works (W.level s (W.worst s c)) s.cells other = own := ⟨_, rfl⟩
          obtain ⟨nh, hnh⟩ : ∃ nh, W.houses s.cells = nh := ⟨_, rfl⟩
          rw [hown] at hdo most own0
          rw [hnh] at hho ebe hfew hless hall
          clear edo edl esp esp2 hV1 hV2 hpo BS SF hw1 hw2 hbe
          have hbe := fun w' (hx : Ext w w') => bestQ_any s c _ _ HRoom.out w' (hC.ext hx) (hW.ext hx) hn hm
          obtain ⟨LB, d, cb, hbo⟩ : ∃ LB d cb, bestOf s c = (LB, d, cb) := ⟨_, _, _, rfl⟩
          rw [hbo] at hbe ebe
          clear hbo
          obtain ⟨F, hF⟩ : ∃ F, foundOf s c 7000000 = F := ⟨_, rfl⟩
          obtain ⟨S2, hS2⟩ : ∃ S2, foundOf s c mx = S2 := ⟨_, rfl⟩
          obtain ⟨S, hS⟩ : ∃ S, foundOf s c money = S := ⟨_, rfl⟩
          rw [hF] at ebe hfew hless hall hlF
          rw [hS2] at hsp2 hmore
          rw [hS] at hsp hlp hpl2 hco hdl hbf most hpays hmore hfew hless hall
          clear hF hS2 hS hpl hBL
          obtain ⟨n, K, L, rfl⟩ : ∃ n K L, S = ⟨n, K, L⟩ := by cases S; exact ⟨_, _, _, rfl⟩
          dsimp only at hsp hlp hpl2 hco hdl hbf most hpays hmore hfew hless hall
          obtain ⟨k2, K2, L2, rfl⟩ : ∃ n K L, S2 = ⟨n, K, L⟩ := by cases S2; exact ⟨_, _, _, rfl⟩
          dsimp only at hsp2 hmore
          obtain ⟨co, hco0⟩ : ∃ co, W.costs s.works other = co := ⟨_, rfl⟩
          obtain ⟨lx, hlx⟩ : ∃ lx, W.lexlt other L = lx := ⟨_, rfl⟩
          rw [hco0] at hco2 most
          rw [hlx] at most hbf
          have hmk : ¬ money < K := by omega
          have hkn : ¬ k2 < n := by omega
          have HSP := Lib.hid hsp
          have HSP2 := Lib.hid hsp2
          have HDO := Lib.hid hdo
          have HPL := Lib.hid hpl2
          have HCO := Lib.hid hco
          have HDL := Lib.hid hdl
          have HCO2 := Lib.hid hco2
          have HBF := Lib.hid hbf
          have HHO := Lib.hid hho
          have MOST := Lib.hid most
          have HLL := Lib.hid (show L.length ≤ 1000000 by omega)
          clear hsp hsp2 hdo hpl2 hco hdl hco2 hbf hho most hco0 hlx hpays hmore hlp hmx1 O hok hB hfl hwc hown hnh
          have hwhat : (cb = 5 ∧ n < nh) ∨ (cb = 0 ∧ money < d ∧ n < nh) ∨ (cb = 0 ∧ ¬ money < d ∧ n = nh ∧ K = d ∧ L = LB) := by
            by_cases hlt : F.houses < nh
            · rw [if_pos hlt] at ebe
              simp only [Prod.mk.injEq] at ebe
              exact .inl ⟨ebe.2.2, hfew hlt⟩
            · rw [if_neg hlt] at ebe
              simp only [Prod.mk.injEq] at ebe
              obtain ⟨rfl, rfl, rfl⟩ := ebe
              by_cases hmd : money < F.cost
              · exact .inr (.inl ⟨rfl, hmd, hless hlt hmd⟩)
              · exact .inr (.inr ⟨rfl, hmd, hall hlt hmd⟩)
          have HWHAT := Lib.hid hwhat
          have HBE := Lib.hid hbe
          clear hbe hfew hless hall hlF hm1 hm2 ebe hwhat
          go_enter Try.func12, Try.ntmps12
          go_upto_region 10 with (first | (go_at_call 14; refine (HS.out _ (by (with_reducible (repeat (first | exact Ext.refl _ | assumption | apply Ext.alloc | apply Ext.drew | exact ext_plus _ _ | (apply Ext.setCell; rotate_left; (simp <;> omega)) | (apply Ext.trans; rotate_left; exact ext_plus _ _) | (apply Ext.trans; rotate_left; assumption)))))).mono ?_; rintro e w1 ⟨rfl, hb1⟩; have hc1 := hb1.cells.1; have hz1 := hb1.size; (try simp only [World.size_alloc] at hz1); have p10 : w.heap.size < w1.heap.size := (by omega); have p11 : w.heap.size + 1 < w1.heap.size := (by omega)) | (go_at_call 17; refine (HBU.out _ (by (with_reducible (repeat (first | exact Ext.refl _ | assumption | apply Ext.alloc | apply Ext.drew | exact ext_plus _ _ | (apply Ext.setCell; rotate_left; (simp <;> omega)) | (apply Ext.trans; rotate_left; exact ext_plus _ _) | (apply Ext.trans; rotate_left; assumption)))))).mono ?_; rintro e w2 ⟨rfl, hb2⟩; have hc2 := hb2.cells.1; have hz2 := hb2.size; (try simp only [World.size_alloc] at hz2); have p20 : w.heap.size < w2.heap.size := (by omega); have p21 : w.heap.size + 1 < w2.heap.size := (by omega)) | (go_at_call 31; refine (HM1.out _).mono ?_; rintro e wm ⟨rfl, rfl⟩; clear HM1) | (go_at_call 31; refine (HM2.out _).mono ?_; rintro e wm ⟨rfl, rfl⟩; clear HM2) | (go_at_call 27; refine (HSP.out _ (by (with_reducible (repeat (first | exact Ext.refl _ | assumption | apply Ext.alloc | apply Ext.drew | exact ext_plus _ _ | (apply Ext.setCell; rotate_left; (simp <;> omega)) | (apply Ext.trans; rotate_left; exact ext_plus _ _) | (apply Ext.trans; rotate_left; assumption)))))).mono ?_; rintro e w3 ⟨vl, rfl, hvl, hb3⟩; clear HSP; have hvl2 := hvl; obtain ⟨al, cl, rfl, _⟩ := hvl2; have HVL := Lib.hid hvl; clear hvl; have hc3 := hb3.cells.1; have hz3 := hb3.size; (try simp only [World.size_alloc] at hz3); have p30 : w.heap.size < w3.heap.size := (by omega); have p31 : w.heap.size + 1 < w3.heap.size := (by omega)) | (go_at_call 27; refine (HSP2.out _ (by (with_reducible (repeat (first | exact Ext.refl _ | assumption | apply Ext.alloc | apply Ext.drew | exact ext_plus _ _ | (apply Ext.setCell; rotate_left; (simp <;> omega)) | (apply Ext.trans; rotate_left; exact ext_plus _ _) | (apply Ext.trans; rotate_left; assumption)))))).mono ?_; rintro e w4 ⟨vl2, rfl, hvl2, hb4⟩; clear HSP2; obtain ⟨al2, cl2, rfl, _⟩ := hvl2; have hc4 := hb4.cells.1; have hz4 := hb4.size; (try simp only [World.size_alloc] at hz4); have p40 : w.heap.size < w4.heap.size := (by omega); have p41 : w.heap.size + 1 < w4.heap.size := (by omega)) | (go_at_call 26; refine (HBE.out _ (by (with_reducible (repeat (first | exact Ext.refl _ | assumption | apply Ext.alloc | apply Ext.drew | exact ext_plus _ _ | (apply Ext.setCell; rotate_left; (simp <;> omega)) | (apply Ext.trans; rotate_left; exact ext_plus _ _) | (apply Ext.trans; rotate_left; assumption)))))).mono ?_; rintro e w5 ⟨vb, rfl, hvb, hb5⟩; clear HBE; have hvb2 := hvb; obtain ⟨ab, cb, rfl, _⟩ := hvb2; have HVB := Lib.hid hvb; clear hvb; have hc5 := hb5.cells.1; have hz5 := hb5.size; (try simp only [World.size_alloc] at hz5); have p50 : w.heap.size < w5.heap.size := (by omega); have p51 : w.heap.size + 1 < w5.heap.size := (by omega)) | (go_at_call 44; refine (HDO.out _ (by (with_reducible (repeat (first | exact Ext.refl _ | assumption | apply Ext.alloc | apply Ext.drew | exact ext_plus _ _ | (apply Ext.setCell; rotate_left; (simp <;> omega)) | (apply Ext.trans; rotate_left; exact ext_plus _ _) | (apply Ext.trans; rotate_left; assumption)))))).mono ?_; rintro e w6 ⟨rfl, hb6⟩; clear HDO; have hc6 := hb6.cells.1; have hz6 := hb6.size; (try simp only [World.size_alloc] at hz6); have p60 : w.heap.size < w6.heap.size := (by omega); have p61 : w.heap.size + 1 < w6.heap.size := (by omega)) | (go_at_call 46; refine (HPL.out _ (by (with_reducible (repeat (first | exact Ext.refl _ | assumption | apply Ext.alloc | apply Ext.drew | exact ext_plus _ _ | (apply Ext.setCell; rotate_left; (simp <;> omega)) | (apply Ext.trans; rotate_left; exact ext_plus _ _) | (apply Ext.trans; rotate_left; assumption))))) _ (HVL.out.ext (by (with_reducible (repeat (first | exact Ext.refl _ | assumption | apply Ext.alloc | apply Ext.drew | exact ext_plus _ _ | (apply Ext.setCell; rotate_left; (simp <;> omega)) | (apply Ext.trans; rotate_left; exact ext_plus _ _) | (apply Ext.trans; rotate_left; assumption))))))).mono ?_; rintro e w7 ⟨rfl, hb7⟩; have hc7 := hb7.cells.1; have hz7 := hb7.size; (try simp only [World.size_alloc] at hz7); have p70 : w.heap.size < w7.heap.size := (by omega); have p71 : w.heap.size + 1 < w7.heap.size := (by omega)) | (go_at_call 30; refine (HCO.out _ (by (with_reducible (repeat (first | exact Ext.refl _ | assumption | apply Ext.alloc | apply Ext.drew | exact ext_plus _ _ | (apply Ext.setCell; rotate_left; (simp <;> omega)) | (apply Ext.trans; rotate_left; exact ext_plus _ _) | (apply Ext.trans; rotate_left; assumption))))) _ (HVL.out.ext (by (with_reducible (repeat (first | exact Ext.refl _ | assumption | apply Ext.alloc | apply Ext.drew | exact ext_plus _ _ | (apply Ext.setCell; rotate_left; (simp <;> omega)) | (apply Ext.trans; rotate_left; exact ext_plus _ _) | (apply Ext.trans; rotate_left; assumption))))))).mono ?_; rintro e w8 ⟨rfl, hb8⟩; clear HCO; have hc8 := hb8.cells.1; have hz8 := hb8.size; (try simp only [World.size_alloc] at hz8); have p80 : w.heap.size < w8.heap.size := (by omega); have p81 : w.heap.size + 1 < w8.heap.size := (by omega)) | (go_at_call 44; refine (HDL.out _ (by (with_reducible (repeat (first | exact Ext.refl _ | assumption | apply Ext.alloc | apply Ext.drew | exact ext_plus _ _ | (apply Ext.setCell; rotate_left; (simp <;> omega)) | (apply Ext.trans; rotate_left; exact ext_plus _ _) | (apply Ext.trans; rotate_left; assumption))))) _ (HVL.out.ext (by (with_reducible (repeat (first | exact Ext.refl _ | assumption | apply Ext.alloc | apply Ext.drew | exact ext_plus _ _ | (apply Ext.setCell; rotate_left; (simp <;> omega)) | (apply Ext.trans; rotate_left; exact ext_plus _ _) | (apply Ext.trans; rotate_left; assumption))))))).mono ?_; rintro e w9 ⟨rfl, hb9⟩; have hc9 := hb9.cells.1; have hz9 := hb9.size; (try simp only [World.size_alloc] at hz9); have p90 : w.heap.size < w9.heap.size := (by omega); have p91 : w.heap.size + 1 < w9.heap.size := (by omega)) | (go_at_call 30; refine (HCO2.out _ (by (with_reducible (repeat (first | exact Ext.refl _ | assumption | apply Ext.alloc | apply Ext.drew | exact ext_plus _ _ | (apply Ext.setCell; rotate_left; (simp <;> omega)) | (apply Ext.trans; rotate_left; exact ext_plus _ _) | (apply Ext.trans; rotate_left; assumption)))))).mono ?_; rintro e w10 ⟨rfl, hb10⟩; have hc10 := hb10.cells.1; have hz10 := hb10.size; (try simp only [World.size_alloc] at hz10); have p100 : w.heap.size < w10.heap.size := (by omega); have p101 : w.heap.size + 1 < w10.heap.size := (by omega)))
          have hbs10 : Blk w10 w.heap.size #[.slice a1 s.cells.length c1, .slice a2 s.works.length c2, .int .i64 s.reef, .int .i64 s.ll, .int .i64 s.lh] 27 := by
            refine Blk.ext (w := (w.alloc (.cells #[.slice a1 s.cells.length c1, .slice a2 s.works.length c2, .int .i64 s.reef, .int .i64 s.ll, .int .i64 s.lh] 27)).alloc (.cells #[.int .i64 c.wl, .int .i64 c.wh, .int .i64 c.fl, .int .i64 c.fh, .int .i64 c.tl, .int .i64 c.th] 29)) ((Blk.new' rfl _ _).alloc _) ?_
            (with_reducible (repeat (first | exact Ext.refl _ | assumption | apply Ext.alloc | apply Ext.drew | exact ext_plus _ _ | (apply Ext.setCell; rotate_left; (simp <;> omega)) | (apply Ext.trans; rotate_left; exact ext_plus _ _) | (apply Ext.trans; rotate_left; assumption))))
          have hcs10 := hbs10.cell
          have hls10 := hbs10.lt
          have HVL10 := Lib.hid (HVL.out.ext (show Ext w3 w10 by (with_reducible (repeat (first | exact Ext.refl _ | assumption | apply Ext.alloc | apply Ext.drew | exact ext_plus _ _ | (apply Ext.setCell; rotate_left; (simp <;> omega)) | (apply Ext.trans; rotate_left; exact ext_plus _ _) | (apply Ext.trans; rotate_left; assumption))))))
          have HVB10 := Lib.hid (HVB.out.ext (show Ext w5 w10 by (with_reducible (repeat (first | exact Ext.refl _ | assumption | apply Ext.alloc | apply Ext.drew | exact ext_plus _ _ | (apply Ext.setCell; rotate_left; (simp <;> omega)) | (apply Ext.trans; rotate_left; exact ext_plus _ _) | (apply Ext.trans; rotate_left; assumption))))))
          have hE10 : Ext w w10 := by (with_reducible (repeat (first | exact Ext.refl _ | assumption | apply Ext.alloc | apply Ext.drew | exact ext_plus _ _ | (apply Ext.setCell; rotate_left; (simp <;> omega)) | (apply Ext.trans; rotate_left; exact ext_plus _ _) | (apply Ext.trans; rotate_left; assumption))))
          clear HVL HVB hc1 hz1 p10 p11 hb1 hc2 hz2 p20 p21 hb2 hc3 hz3 p30 p31 hb3 hc4 hz4 p40 p41 hb4 hc5 hz5 p50 p51 hb5 hc6 hz6 p60 p61 hb6 hc7 hz7 p70 p71 hb7 hc8 hz8 p80 p81 hb8 hc9 hz9 p90 p91 hb9 hc10 hz10 p100 p101 hb10 HS HBU HPL HDL HCO2
          by_cases hcm : co ≤ money
          · rcases MOST.out hcm with own1 | ⟨rfl, co1 | ⟨rfl, rfl⟩⟩
            · clear MOST
              have own2 : ¬ n < own := by omega
              have own3 : ¬ own = n := by omega
              rcases HWHAT.out with ⟨rfl, hfw⟩ | ⟨rfl, hmd, hfw⟩ | ⟨rfl, hmd, rfl, rfl, rfl⟩
              · clear HWHAT
                skip
                go_wp2_with (first | (go_at_call 47; refine (HBF.out _ hE10 _ HVL10.out).mono ?_; rintro e w11 ⟨rfl, hb11⟩; have hcs11 := (hbs10.ext hb11).cell; have hls11 := (hbs10.ext hb11).lt) | (go_at_call 45; refine (HHO.out _ (by (with_reducible (repeat (first | exact Ext.refl _ | assumption | apply Ext.alloc | apply Ext.drew | exact ext_plus _ _ | (apply Ext.setCell; rotate_left; (simp <;> omega)) | (apply Ext.trans; rotate_left; exact ext_plus _ _) | (apply Ext.trans; rotate_left; assumption)))))).mono ?_; rintro e w12 ⟨rfl, hb12⟩) | (go_at_call 19; refine (same_true _ _ _ _ (HVL10.out.ext (by (with_reducible (repeat (first | exact Ext.refl _ | assumption | apply Ext.alloc | apply Ext.drew | exact ext_plus _ _ | (apply Ext.setCell; rotate_left; (simp <;> omega)) | (apply Ext.trans; rotate_left; exact ext_plus _ _) | (apply Ext.trans; rotate_left; assumption)))))) (HVB10.out.ext (by (with_reducible (repeat (first | exact Ext.refl _ | assumption | apply Ext.alloc | apply Ext.drew | exact ext_plus _ _ | (apply Ext.setCell; rotate_left; (simp <;> omega)) | (apply Ext.trans; rotate_left; exact ext_plus _ _) | (apply Ext.trans; rotate_left; assumption)))))) HLL.out).mono ?_; rintro e w13 ⟨rfl, hb13⟩) | (go_at_call 15; refine (known_any _).mono ?_; rintro e wk ⟨rfl, hbk⟩))
                all_goals
                  go_ret
                  exact ⟨rfl, by (with_reducible (repeat (first | exact Ext.refl _ | assumption | apply Ext.alloc | apply Ext.drew | exact ext_plus _ _ | (apply Ext.setCell; rotate_left; (simp <;> omega)) | (apply Ext.trans; rotate_left; exact ext_plus _ _) | (apply Ext.trans; rotate_left; assumption))))⟩
              · clear HWHAT
                skip
                go_wp2_with (first | (go_at_call 47; refine (HBF.out _ hE10 _ HVL10.out).mono ?_; rintro e w11 ⟨rfl, hb11⟩; have hcs11 := (hbs10.ext hb11).cell; have hls11 := (hbs10.ext hb11).lt) | (go_at_call 45; refine (HHO.out _ (by (with_reducible (repeat (first | exact Ext.refl _ | assumption | apply Ext.alloc | apply Ext.drew | exact ext_plus _ _ | (apply Ext.setCell; rotate_left; (simp <;> omega)) | (apply Ext.trans; rotate_left; exact ext_plus _ _) | (apply Ext.trans; rotate_left; assumption)))))).mono ?_; rintro e w12 ⟨rfl, hb12⟩) | (go_at_call 19; refine (same_true _ _ _ _ (HVL10.out.ext (by (with_reducible (repeat (first | exact Ext.refl _ | assumption | apply Ext.alloc | apply Ext.drew | exact ext_plus _ _ | (apply Ext.setCell; rotate_left; (simp <;> omega)) | (apply Ext.trans; rotate_left; exact ext_plus _ _) | (apply Ext.trans; rotate_left; assumption)))))) (HVB10.out.ext (by (with_reducible (repeat (first | exact Ext.refl _ | assumption | apply Ext.alloc | apply Ext.drew | exact ext_plus _ _ | (apply Ext.setCell; rotate_left; (simp <;> omega)) | (apply Ext.trans; rotate_left; exact ext_plus _ _) | (apply Ext.trans; rotate_left; assumption)))))) HLL.out).mono ?_; rintro e w13 ⟨rfl, hb13⟩) | (go_at_call 15; refine (known_any _).mono ?_; rintro e wk ⟨rfl, hbk⟩))
                all_goals
                  go_ret
                  exact ⟨rfl, by (with_reducible (repeat (first | exact Ext.refl _ | assumption | apply Ext.alloc | apply Ext.drew | exact ext_plus _ _ | (apply Ext.setCell; rotate_left; (simp <;> omega)) | (apply Ext.trans; rotate_left; exact ext_plus _ _) | (apply Ext.trans; rotate_left; assumption))))⟩
              · clear HWHAT
                skip
                go_wp2_with (first | (go_at_call 47; refine (HBF.out _ hE10 _ HVL10.out).mono ?_; rintro e w11 ⟨rfl, hb11⟩; have hcs11 := (hbs10.ext hb11).cell; have hls11 := (hbs10.ext hb11).lt) | (go_at_call 45; refine (HHO.out _ (by (with_reducible (repeat (first | exact Ext.refl _ | assumption | apply Ext.alloc | apply Ext.drew | exact ext_plus _ _ | (apply Ext.setCell; rotate_left; (simp <;> omega)) | (apply Ext.trans; rotate_left; exact ext_plus _ _) | (apply Ext.trans; rotate_left; assumption)))))).mono ?_; rintro e w12 ⟨rfl, hb12⟩) | (go_at_call 19; refine (same_true _ _ _ _ (HVL10.out.ext (by (with_reducible (repeat (first | exact Ext.refl _ | assumption | apply Ext.alloc | apply Ext.drew | exact ext_plus _ _ | (apply Ext.setCell; rotate_left; (simp <;> omega)) | (apply Ext.trans; rotate_left; exact ext_plus _ _) | (apply Ext.trans; rotate_left; assumption)))))) (HVB10.out.ext (by (with_reducible (repeat (first | exact Ext.refl _ | assumption | apply Ext.alloc | apply Ext.drew | exact ext_plus _ _ | (apply Ext.setCell; rotate_left; (simp <;> omega)) | (apply Ext.trans; rotate_left; exact ext_plus _ _) | (apply Ext.trans; rotate_left; assumption)))))) HLL.out).mono ?_; rintro e w13 ⟨rfl, hb13⟩) | (go_at_call 15; refine (known_any _).mono ?_; rintro e wk ⟨rfl, hbk⟩))
                all_goals
                  go_ret
                  exact ⟨rfl, by (with_reducible (repeat (first | exact Ext.refl _ | assumption | apply Ext.alloc | apply Ext.drew | exact ext_plus _ _ | (apply Ext.setCell; rotate_left; (simp <;> omega)) | (apply Ext.trans; rotate_left; exact ext_plus _ _) | (apply Ext.trans; rotate_left; assumption))))⟩
            · clear MOST
              have co2 : ¬ co < K := by omega
              have co3 : ¬ co = K := by omega
              rcases HWHAT.out with ⟨rfl, hfw⟩ | ⟨rfl, hmd, hfw⟩ | ⟨rfl, hmd, rfl, rfl, rfl⟩
              · clear HWHAT
                skip
                go_wp2_with (first | (go_at_call 47; refine (HBF.out _ hE10 _ HVL10.out).mono ?_; rintro e w11 ⟨rfl, hb11⟩; have hcs11 := (hbs10.ext hb11).cell; have hls11 := (hbs10.ext hb11).lt) | (go_at_call 45; refine (HHO.out _ (by (with_reducible (repeat (first | exact Ext.refl _ | assumption | apply Ext.alloc | apply Ext.drew | exact ext_plus _ _ | (apply Ext.setCell; rotate_left; (simp <;> omega)) | (apply Ext.trans; rotate_left; exact ext_plus _ _) | (apply Ext.trans; rotate_left; assumption)))))).mono ?_; rintro e w12 ⟨rfl, hb12⟩) | (go_at_call 19; refine (same_true _ _ _ _ (HVL10.out.ext (by (with_reducible (repeat (first | exact Ext.refl _ | assumption | apply Ext.alloc | apply Ext.drew | exact ext_plus _ _ | (apply Ext.setCell; rotate_left; (simp <;> omega)) | (apply Ext.trans; rotate_left; exact ext_plus _ _) | (apply Ext.trans; rotate_left; assumption)))))) (HVB10.out.ext (by (with_reducible (repeat (first | exact Ext.refl _ | assumption | apply Ext.alloc | apply Ext.drew | exact ext_plus _ _ | (apply Ext.setCell; rotate_left; (simp <;> omega)) | (apply Ext.trans; rotate_left; exact ext_plus _ _) | (apply Ext.trans; rotate_left; assumption)))))) HLL.out).mono ?_; rintro e w13 ⟨rfl, hb13⟩) | (go_at_call 15; refine (known_any _).mono ?_; rintro e wk ⟨rfl, hbk⟩))
                all_goals
                  go_ret
                  exact ⟨rfl, by (with_reducible (repeat (first | exact Ext.refl _ | assumption | apply Ext.alloc | apply Ext.drew | exact ext_plus _ _ | (apply Ext.setCell; rotate_left; (simp <;> omega)) | (apply Ext.trans; rotate_left; exact ext_plus _ _) | (apply Ext.trans; rotate_left; assumption))))⟩
              · clear HWHAT
                skip
                go_wp2_with (first | (go_at_call 47; refine (HBF.out _ hE10 _ HVL10.out).mono ?_; rintro e w11 ⟨rfl, hb11⟩; have hcs11 := (hbs10.ext hb11).cell; have hls11 := (hbs10.ext hb11).lt) | (go_at_call 45; refine (HHO.out _ (by (with_reducible (repeat (first | exact Ext.refl _ | assumption | apply Ext.alloc | apply Ext.drew | exact ext_plus _ _ | (apply Ext.setCell; rotate_left; (simp <;> omega)) | (apply Ext.trans; rotate_left; exact ext_plus _ _) | (apply Ext.trans; rotate_left; assumption)))))).mono ?_; rintro e w12 ⟨rfl, hb12⟩) | (go_at_call 19; refine (same_true _ _ _ _ (HVL10.out.ext (by (with_reducible (repeat (first | exact Ext.refl _ | assumption | apply Ext.alloc | apply Ext.drew | exact ext_plus _ _ | (apply Ext.setCell; rotate_left; (simp <;> omega)) | (apply Ext.trans; rotate_left; exact ext_plus _ _) | (apply Ext.trans; rotate_left; assumption)))))) (HVB10.out.ext (by (with_reducible (repeat (first | exact Ext.refl _ | assumption | apply Ext.alloc | apply Ext.drew | exact ext_plus _ _ | (apply Ext.setCell; rotate_left; (simp <;> omega)) | (apply Ext.trans; rotate_left; exact ext_plus _ _) | (apply Ext.trans; rotate_left; assumption)))))) HLL.out).mono ?_; rintro e w13 ⟨rfl, hb13⟩) | (go_at_call 15; refine (known_any _).mono ?_; rintro e wk ⟨rfl, hbk⟩))
                all_goals
                  go_ret
                  exact ⟨rfl, by (with_reducible (repeat (first | exact Ext.refl _ | assumption | apply Ext.alloc | apply Ext.drew | exact ext_plus _ _ | (apply Ext.setCell; rotate_left; (simp <;> omega)) | (apply Ext.trans; rotate_left; exact ext_plus _ _) | (apply Ext.trans; rotate_left; assumption))))⟩
              · clear HWHAT
                skip
                go_wp2_with (first | (go_at_call 47; refine (HBF.out _ hE10 _ HVL10.out).mono ?_; rintro e w11 ⟨rfl, hb11⟩; have hcs11 := (hbs10.ext hb11).cell; have hls11 := (hbs10.ext hb11).lt) | (go_at_call 45; refine (HHO.out _ (by (with_reducible (repeat (first | exact Ext.refl _ | assumption | apply Ext.alloc | apply Ext.drew | exact ext_plus _ _ | (apply Ext.setCell; rotate_left; (simp <;> omega)) | (apply Ext.trans; rotate_left; exact ext_plus _ _) | (apply Ext.trans; rotate_left; assumption)))))).mono ?_; rintro e w12 ⟨rfl, hb12⟩) | (go_at_call 19; refine (same_true _ _ _ _ (HVL10.out.ext (by (with_reducible (repeat (first | exact Ext.refl _ | assumption | apply Ext.alloc | apply Ext.drew | exact ext_plus _ _ | (apply Ext.setCell; rotate_left; (simp <;> omega)) | (apply Ext.trans; rotate_left; exact ext_plus _ _) | (apply Ext.trans; rotate_left; assumption)))))) (HVB10.out.ext (by (with_reducible (repeat (first | exact Ext.refl _ | assumption | apply Ext.alloc | apply Ext.drew | exact ext_plus _ _ | (apply Ext.setCell; rotate_left; (simp <;> omega)) | (apply Ext.trans; rotate_left; exact ext_plus _ _) | (apply Ext.trans; rotate_left; assumption)))))) HLL.out).mono ?_; rintro e w13 ⟨rfl, hb13⟩) | (go_at_call 15; refine (known_any _).mono ?_; rintro e wk ⟨rfl, hbk⟩))
                all_goals
                  go_ret
                  exact ⟨rfl, by (with_reducible (repeat (first | exact Ext.refl _ | assumption | apply Ext.alloc | apply Ext.drew | exact ext_plus _ _ | (apply Ext.setCell; rotate_left; (simp <;> omega)) | (apply Ext.trans; rotate_left; exact ext_plus _ _) | (apply Ext.trans; rotate_left; assumption))))⟩
            · clear MOST
              rcases HWHAT.out with ⟨rfl, hfw⟩ | ⟨rfl, hmd, hfw⟩ | ⟨rfl, hmd, rfl, rfl, rfl⟩
              · clear HWHAT
                skip
                go_wp2_with (first | (go_at_call 47; refine (HBF.out _ hE10 _ HVL10.out).mono ?_; rintro e w11 ⟨rfl, hb11⟩; have hcs11 := (hbs10.ext hb11).cell; have hls11 := (hbs10.ext hb11).lt) | (go_at_call 45; refine (HHO.out _ (by (with_reducible (repeat (first | exact Ext.refl _ | assumption | apply Ext.alloc | apply Ext.drew | exact ext_plus _ _ | (apply Ext.setCell; rotate_left; (simp <;> omega)) | (apply Ext.trans; rotate_left; exact ext_plus _ _) | (apply Ext.trans; rotate_left; assumption)))))).mono ?_; rintro e w12 ⟨rfl, hb12⟩) | (go_at_call 19; refine (same_true _ _ _ _ (HVL10.out.ext (by (with_reducible (repeat (first | exact Ext.refl _ | assumption | apply Ext.alloc | apply Ext.drew | exact ext_plus _ _ | (apply Ext.setCell; rotate_left; (simp <;> omega)) | (apply Ext.trans; rotate_left; exact ext_plus _ _) | (apply Ext.trans; rotate_left; assumption)))))) (HVB10.out.ext (by (with_reducible (repeat (first | exact Ext.refl _ | assumption | apply Ext.alloc | apply Ext.drew | exact ext_plus _ _ | (apply Ext.setCell; rotate_left; (simp <;> omega)) | (apply Ext.trans; rotate_left; exact ext_plus _ _) | (apply Ext.trans; rotate_left; assumption)))))) HLL.out).mono ?_; rintro e w13 ⟨rfl, hb13⟩) | (go_at_call 15; refine (known_any _).mono ?_; rintro e wk ⟨rfl, hbk⟩))
                all_goals
                  go_ret
                  exact ⟨rfl, by (with_reducible (repeat (first | exact Ext.refl _ | assumption | apply Ext.alloc | apply Ext.drew | exact ext_plus _ _ | (apply Ext.setCell; rotate_left; (simp <;> omega)) | (apply Ext.trans; rotate_left; exact ext_plus _ _) | (apply Ext.trans; rotate_left; assumption))))⟩
              · clear HWHAT
                skip
                go_wp2_with (first | (go_at_call 47; refine (HBF.out _ hE10 _ HVL10.out).mono ?_; rintro e w11 ⟨rfl, hb11⟩; have hcs11 := (hbs10.ext hb11).cell; have hls11 := (hbs10.ext hb11).lt) | (go_at_call 45; refine (HHO.out _ (by (with_reducible (repeat (first | exact Ext.refl _ | assumption | apply Ext.alloc | apply Ext.drew | exact ext_plus _ _ | (apply Ext.setCell; rotate_left; (simp <;> omega)) | (apply Ext.trans; rotate_left; exact ext_plus _ _) | (apply Ext.trans; rotate_left; assumption)))))).mono ?_; rintro e w12 ⟨rfl, hb12⟩) | (go_at_call 19; refine (same_true _ _ _ _ (HVL10.out.ext (by (with_reducible (repeat (first | exact Ext.refl _ | assumption | apply Ext.alloc | apply Ext.drew | exact ext_plus _ _ | (apply Ext.setCell; rotate_left; (simp <;> omega)) | (apply Ext.trans; rotate_left; exact ext_plus _ _) | (apply Ext.trans; rotate_left; assumption)))))) (HVB10.out.ext (by (with_reducible (repeat (first | exact Ext.refl _ | assumption | apply Ext.alloc | apply Ext.drew | exact ext_plus _ _ | (apply Ext.setCell; rotate_left; (simp <;> omega)) | (apply Ext.trans; rotate_left; exact ext_plus _ _) | (apply Ext.trans; rotate_left; assumption)))))) HLL.out).mono ?_; rintro e w13 ⟨rfl, hb13⟩) | (go_at_call 15; refine (known_any _).mono ?_; rintro e wk ⟨rfl, hbk⟩))
                all_goals
                  go_ret
                  exact ⟨rfl, by (with_reducible (repeat (first | exact Ext.refl _ | assumption | apply Ext.alloc | apply Ext.drew | exact ext_plus _ _ | (apply Ext.setCell; rotate_left; (simp <;> omega)) | (apply Ext.trans; rotate_left; exact ext_plus _ _) | (apply Ext.trans; rotate_left; assumption))))⟩
              · clear HWHAT
                skip
                go_wp2_with (first | (go_at_call 47; refine (HBF.out _ hE10 _ HVL10.out).mono ?_; rintro e w11 ⟨rfl, hb11⟩; have hcs11 := (hbs10.ext hb11).cell; have hls11 := (hbs10.ext hb11).lt) | (go_at_call 45; refine (HHO.out _ (by (with_reducible (repeat (first | exact Ext.refl _ | assumption | apply Ext.alloc | apply Ext.drew | exact ext_plus _ _ | (apply Ext.setCell; rotate_left; (simp <;> omega)) | (apply Ext.trans; rotate_left; exact ext_plus _ _) | (apply Ext.trans; rotate_left; assumption)))))).mono ?_; rintro e w12 ⟨rfl, hb12⟩) | (go_at_call 19; refine (same_true _ _ _ _ (HVL10.out.ext (by (with_reducible (repeat (first | exact Ext.refl _ | assumption | apply Ext.alloc | apply Ext.drew | exact ext_plus _ _ | (apply Ext.setCell; rotate_left; (simp <;> omega)) | (apply Ext.trans; rotate_left; exact ext_plus _ _) | (apply Ext.trans; rotate_left; assumption)))))) (HVB10.out.ext (by (with_reducible (repeat (first | exact Ext.refl _ | assumption | apply Ext.alloc | apply Ext.drew | exact ext_plus _ _ | (apply Ext.setCell; rotate_left; (simp <;> omega)) | (apply Ext.trans; rotate_left; exact ext_plus _ _) | (apply Ext.trans; rotate_left; assumption)))))) HLL.out).mono ?_; rintro e w13 ⟨rfl, hb13⟩) | (go_at_call 15; refine (known_any _).mono ?_; rintro e wk ⟨rfl, hbk⟩))
                all_goals
                  go_ret
                  exact ⟨rfl, by (with_reducible (repeat (first | exact Ext.refl _ | assumption | apply Ext.alloc | apply Ext.drew | exact ext_plus _ _ | (apply Ext.setCell; rotate_left; (simp <;> omega)) | (apply Ext.trans; rotate_left; exact ext_plus _ _) | (apply Ext.trans; rotate_left; assumption))))⟩
          · clear MOST
            rcases HWHAT.out with ⟨rfl, hfw⟩ | ⟨rfl, hmd, hfw⟩ | ⟨rfl, hmd, rfl, rfl, rfl⟩
            · clear HWHAT
              skip
              go_wp2_with (first | (go_at_call 47; refine (HBF.out _ hE10 _ HVL10.out).mono ?_; rintro e w11 ⟨rfl, hb11⟩; have hcs11 := (hbs10.ext hb11).cell; have hls11 := (hbs10.ext hb11).lt) | (go_at_call 45; refine (HHO.out _ (by (with_reducible (repeat (first | exact Ext.refl _ | assumption | apply Ext.alloc | apply Ext.drew | exact ext_plus _ _ | (apply Ext.setCell; rotate_left; (simp <;> omega)) | (apply Ext.trans; rotate_left; exact ext_plus _ _) | (apply Ext.trans; rotate_left; assumption)))))).mono ?_; rintro e w12 ⟨rfl, hb12⟩) | (go_at_call 19; refine (same_true _ _ _ _ (HVL10.out.ext (by (with_reducible (repeat (first | exact Ext.refl _ | assumption | apply Ext.alloc | apply Ext.drew | exact ext_plus _ _ | (apply Ext.setCell; rotate_left; (simp <;> omega)) | (apply Ext.trans; rotate_left; exact ext_plus _ _) | (apply Ext.trans; rotate_left; assumption)))))) (HVB10.out.ext (by (with_reducible (repeat (first | exact Ext.refl _ | assumption | apply Ext.alloc | apply Ext.drew | exact ext_plus _ _ | (apply Ext.setCell; rotate_left; (simp <;> omega)) | (apply Ext.trans; rotate_left; exact ext_plus _ _) | (apply Ext.trans; rotate_left; assumption)))))) HLL.out).mono ?_; rintro e w13 ⟨rfl, hb13⟩) | (go_at_call 15; refine (known_any _).mono ?_; rintro e wk ⟨rfl, hbk⟩))
              all_goals
                go_ret
                exact ⟨rfl, by (with_reducible (repeat (first | exact Ext.refl _ | assumption | apply Ext.alloc | apply Ext.drew | exact ext_plus _ _ | (apply Ext.setCell; rotate_left; (simp <;> omega)) | (apply Ext.trans; rotate_left; exact ext_plus _ _) | (apply Ext.trans; rotate_left; assumption))))⟩
            · clear HWHAT
              skip
              go_wp2_with (first | (go_at_call 47; refine (HBF.out _ hE10 _ HVL10.out).mono ?_; rintro e w11 ⟨rfl, hb11⟩; have hcs11 := (hbs10.ext hb11).cell; have hls11 := (hbs10.ext hb11).lt) | (go_at_call 45; refine (HHO.out _ (by (with_reducible (repeat (first | exact Ext.refl _ | assumption | apply Ext.alloc | apply Ext.drew | exact ext_plus _ _ | (apply Ext.setCell; rotate_left; (simp <;> omega)) | (apply Ext.trans; rotate_left; exact ext_plus _ _) | (apply Ext.trans; rotate_left; assumption)))))).mono ?_; rintro e w12 ⟨rfl, hb12⟩) | (go_at_call 19; refine (same_true _ _ _ _ (HVL10.out.ext (by (with_reducible (repeat (first | exact Ext.refl _ | assumption | apply Ext.alloc | apply Ext.drew | exact ext_plus _ _ | (apply Ext.setCell; rotate_left; (simp <;> omega)) | (apply Ext.trans; rotate_left; exact ext_plus _ _) | (apply Ext.trans; rotate_left; assumption)))))) (HVB10.out.ext (by (with_reducible (repeat (first | exact Ext.refl _ | assumption | apply Ext.alloc | apply Ext.drew | exact ext_plus _ _ | (apply Ext.setCell; rotate_left; (simp <;> omega)) | (apply Ext.trans; rotate_left; exact ext_plus _ _) | (apply Ext.trans; rotate_left; assumption)))))) HLL.out).mono ?_; rintro e w13 ⟨rfl, hb13⟩) | (go_at_call 15; refine (known_any _).mono ?_; rintro e wk ⟨rfl, hbk⟩))
              all_goals
                go_ret
                exact ⟨rfl, by (with_reducible (repeat (first | exact Ext.refl _ | assumption | apply Ext.alloc | apply Ext.drew | exact ext_plus _ _ | (apply Ext.setCell; rotate_left; (simp <;> omega)) | (apply Ext.trans; rotate_left; exact ext_plus _ _) | (apply Ext.trans; rotate_left; assumption))))⟩
            · clear HWHAT
              skip
              go_wp2_with (first | (go_at_call 47; refine (HBF.out _ hE10 _ HVL10.out).mono ?_; rintro e w11 ⟨rfl, hb11⟩; have hcs11 := (hbs10.ext hb11).cell; have hls11 := (hbs10.ext hb11).lt) | (go_at_call 45; refine (HHO.out _ (by (with_reducible (repeat (first | exact Ext.refl _ | assumption | apply Ext.alloc | apply Ext.drew | exact ext_plus _ _ | (apply Ext.setCell; rotate_left; (simp <;> omega)) | (apply Ext.trans; rotate_left; exact ext_plus _ _) | (apply Ext.trans; rotate_left; assumption)))))).mono ?_; rintro e w12 ⟨rfl, hb12⟩) | (go_at_call 19; refine (same_true _ _ _ _ (HVL10.out.ext (by (with_reducible (repeat (first | exact Ext.refl _ | assumption | apply Ext.alloc | apply Ext.drew | exact ext_plus _ _ | (apply Ext.setCell; rotate_left; (simp <;> omega)) | (apply Ext.trans; rotate_left; exact ext_plus _ _) | (apply Ext.trans; rotate_left; assumption)))))) (HVB10.out.ext (by (with_reducible (repeat (first | exact Ext.refl _ | assumption | apply Ext.alloc | apply Ext.drew | exact ext_plus _ _ | (apply Ext.setCell; rotate_left; (simp <;> omega)) | (apply Ext.trans; rotate_left; exact ext_plus _ _) | (apply Ext.trans; rotate_left; assumption)))))) HLL.out).mono ?_; rintro e w13 ⟨rfl, hb13⟩) | (go_at_call 15; refine (known_any _).mono ?_; rintro e wk ⟨rfl, hbk⟩))
              all_goals
                go_ret
                exact ⟨rfl, by (with_reducible (repeat (first | exact Ext.refl _ | assumption | apply Ext.alloc | apply Ext.drew | exact ext_plus _ _ | (apply Ext.setCell; rotate_left; (simp <;> omega)) | (apply Ext.trans; rotate_left; exact ext_plus _ _) | (apply Ext.trans; rotate_left; assumption))))⟩
  · have hcs : shortB s = false ∨ (shortB s = true ∧ 12 < other.length) := by
      cases e : shortB s with
      | false => exact .inl rfl
      | true =>
        rcases Nat.lt_or_ge 12 other.length with h | h
        · exact .inr ⟨rfl, h⟩
        · exact absurd ⟨e, h⟩ hsh
    clear hsh
    rcases hcs with h1 | ⟨h1, h2⟩
    all_goals
      rw [h1] at hs
      have HS := Lib.hid hs
      clear hs h1
      go_enter Try.func12, Try.ntmps12
      go_wp2_with (first | (go_at_call 14; refine (HS.out _ (by (with_reducible (repeat (first | exact Ext.refl _ | assumption | apply Ext.alloc | apply Ext.drew | exact ext_plus _ _ | (apply Ext.setCell; rotate_left; (simp <;> omega)) | (apply Ext.trans; rotate_left; exact ext_plus _ _) | (apply Ext.trans; rotate_left; assumption)))))).mono ?_; rintro e w1 ⟨rfl, hb1⟩; have hc1 := hb1.cells.1; have hz1 := hb1.size; (try simp only [World.size_alloc] at hz1); have p10 : w.heap.size < w1.heap.size := (by omega); have p11 : w.heap.size + 1 < w1.heap.size := (by omega)) | (go_at_call 15; refine (known_any _).mono ?_; rintro e wk ⟨rfl, hbk⟩))
      all_goals
        go_ret
        exact ⟨rfl, by (with_reducible (repeat (first | exact Ext.refl _ | assumption | apply Ext.alloc | apply Ext.drew | exact ext_plus _ _ | (apply Ext.setCell; rotate_left; (simp <;> omega)) | (apply Ext.trans; rotate_left; exact ext_plus _ _) | (apply Ext.trans; rotate_left; assumption))))⟩
end Go.Proofs.Ytmlobiajimlboaa
