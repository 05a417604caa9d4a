/- The document's Spare: all plans are tried. -/
import Derived.Test.YtmlobiajimlboaaS1
import Derived.Test.YtmlobiajimlboaaZ2
import Derived.Test.YtmlobiajimlboaaR9
import Derived.Test.YtmlobiajimlboaaR10
namespace Go.Proofs.Ytmlobiajimlboaa
set_option linter.unusedVariables false
set_option linter.unusedSimpArgs false
open Go.RowKit
theorem try_drop {H C : List Int → Int} {m : Int} {L : List (List Int)} {b : List Int} {k : Nat} (h : k < L.length) : (L.drop k).foldl (W.tryPlan H C m) b = (L.drop (k + 1)).foldl (W.tryPlan H C m) (W.tryPlan H C m b L[k]) := by
  rw [List.drop_eq_getElem_cons h, List.foldl_cons]
set_option maxRecDepth 100000 in
set_option maxHeartbeats 4000000 in
theorem rspare_any (s : W.Shore) (c : W.Storm) (m : Int) (hok : W.okB s c = true) (hm0 : 0 ≤ m) (vc vw : Value) (w : World) (hC : Cells w vc s.cells) (hW : Works w vw s.works) :
    Calls Try.prog 32 #[shoreA s vc vw, stormA c, .int .i64 m] w fun e w' => ∃ v, e = .returned v ∧ Ints w' v (foundOf s c m).plan ∧ Ext w w' := by
  have hC' := hC
  have hW' := hW
  obtain ⟨a1, c1, rfl, _⟩ := hC'
  obtain ⟨a2, c2, rfl, _⟩ := hW'
  have O := W.ok_iff hok
  have BE := found_best (c := c) O hm0
  have hbr := W.brute_eq hm0 BE
  have hmem := fun q => W.mem_plans s.works.length s.cells.length q
  have hpl := fun w' (hx : Ext w w') => plans_any s _ _ w' (hC.ext hx) (hW.ext hx) O.n7 O.m3
  have hwc : ∀ x ∈ s.works, 0 ≤ x.cost ∧ x.cost ≤ 1000000 := fun x hx => by have := O.work x hx; omega
  have hco : ∀ w' : World, Ext w w' → ∀ q ∈ W.plans s.works.length s.cells.length, ∀ vq, Ints w' vq q → Calls Try.prog 30 #[shoreA s (.slice a1 s.cells.length c1) (.slice a2 s.works.length c2), vq] w' fun e w'' => e = .returned (.int .i64 (W.costs s.works q)) ∧ Ext w' w'' :=
    fun w' hx q hq vq hv => rcost_any s q (.slice a1 s.cells.length c1) _ vq w' (hW.ext hx) hv (by have := ((hmem q).1 hq).1; have := O.n7; omega) (by have := O.m3; omega) (fun p hp => (((hmem q).1 hq).2 p hp).2) hwc
  have hdr : ∀ w' : World, Ext w w' → ∀ q ∈ W.plans s.works.length s.cells.length, ∀ vq, Ints w' vq q → Calls Try.prog 33 #[shoreA s (.slice a1 s.cells.length c1) (.slice a2 s.works.length c2), stormA c, vq] w' fun e w'' => ∃ v, e = .returned v ∧ Ints w'' v (dryQ s c q) ∧ Ext w' w'' :=
    fun w' hx q hq vq hv => rdry_any s c q _ _ vq w' (by rw [hok, planB_of ((hmem q).1 hq)]; rfl) (hC.ext hx) (hW.ext hx) hv
  have hdh : ∀ q ∈ W.plans s.works.length s.cells.length, ((dryQ s c q).length : Int) = W.dryHouses s.works (W.level s (W.worst s c)) s.cells q := fun q hq => dryQ_houses O ((hmem q).1 hq).1
  have hpn := plans_len s.works.length s.cells.length
  have hpb := pow_bd O.m3 O.n7
  have hp1 : 1 ≤ (s.works.length + 1) ^ s.cells.length := Nat.one_le_pow _ _ (by omega)
  obtain ⟨L, hL⟩ : ∃ L, W.plans s.works.length s.cells.length = L := ⟨_, rfl⟩
  obtain ⟨C, hCC⟩ : ∃ C, W.costs s.works = C := ⟨_, rfl⟩
  obtain ⟨H, hHH⟩ : ∃ H, W.dryHouses s.works (W.level s (W.worst s c)) s.cells = H := ⟨_, rfl⟩
  rw [hL] at hbr hpl hco hdr hdh hpn
  rw [hCC] at hbr hco
  rw [hHH] at hbr hdh
  rw [← hpn] at hpb hp1
  obtain ⟨R, hR⟩ : ∃ R, (foundOf s c m).plan = R := ⟨_, rfl⟩
  rw [hR] at hbr ⊢
  have HCO := Lib.hid hco
  have HDR := Lib.hid hdr
  have HDH := Lib.hid hdh
  have HPL := Lib.hid hpl
  have hbr2 : ∀ q0, L[0]? = some q0 → (L.drop 1).foldl (W.tryPlan H C m) q0 = R := fun q0 h0 => by
    rw [← hbr]
    cases L with
    | nil => cases h0
    | cons a l => simp at h0; subst h0; rfl
  have HBR := Lib.hid hbr2
  clear hco hdr hdh hpl hbr hbr2 hmem hwc O BE hL hCC hHH hR hpn hok hm0
  go_enter Try.func32, Try.ntmps32
  go_upto_region 2 with (first | (go_at_call 63; refine (HPL.out _ (by (with_reducible (repeat (first | exact Ext.refl _ | assumption | apply Ext.alloc | apply Ext.drew | exact ext_plus _ _ | (apply Ext.setCell; rotate_left; (simp <;> omega)) | (apply Ext.trans; rotate_left; exact ext_plus _ _) | (apply Ext.trans; rotate_left; assumption)))))).mono ?_; rintro e w1 ⟨vL, rfl, hvL, hb1⟩; obtain ⟨aL, cL, rfl, hxL⟩ := hvL; have HXL := Lib.hid hxL; clear hxL))
  have hE1 : Ext w w1 := by (with_reducible (repeat (first | exact Ext.refl _ | assumption | apply Ext.alloc | apply Ext.drew | exact ext_plus _ _ | (apply Ext.setCell; rotate_left; (simp <;> omega)) | (apply Ext.trans; rotate_left; exact ext_plus _ _) | (apply Ext.trans; rotate_left; assumption))))
  have hbs1 : Blk w1 w.heap.size #[.slice a1 s.cells.length c1, .slice a2 s.works.length c2, .int .i64 s.reef, .int .i64 s.ll, .int .i64 s.lh] 27 := by
    refine Blk.ext (w := (w.alloc (.cells #[.slice a1 s.cells.length c1, .slice a2 s.works.length c2, .int .i64 s.reef, .int .i64 s.ll, .int .i64 s.lh] 27)).alloc (.cells #[.int .i64 c.wl, .int .i64 c.wh, .int .i64 c.fl, .int .i64 c.fh, .int .i64 c.tl, .int .i64 c.th] 29)) ((Blk.new' rfl _ _).alloc _) ?_
    clear hE1
    (with_reducible (repeat (first | exact Ext.refl _ | assumption | apply Ext.alloc | apply Ext.drew | exact ext_plus _ _ | (apply Ext.setCell; rotate_left; (simp <;> omega)) | (apply Ext.trans; rotate_left; exact ext_plus _ _) | (apply Ext.trans; rotate_left; assumption))))
  have hbm1 : Blk w1 (w.heap.size + 1) #[.int .i64 c.wl, .int .i64 c.wh, .int .i64 c.fl, .int .i64 c.fh, .int .i64 c.tl, .int .i64 c.th] 29 := by
    refine Blk.ext (w := (w.alloc (.cells #[.slice a1 s.cells.length c1, .slice a2 s.works.length c2, .int .i64 s.reef, .int .i64 s.ll, .int .i64 s.lh] 27)).alloc (.cells #[.int .i64 c.wl, .int .i64 c.wh, .int .i64 c.fl, .int .i64 c.fh, .int .i64 c.tl, .int .i64 c.th] 29)) (Blk.new' (by simp) _ _) ?_
    clear hE1
    (with_reducible (repeat (first | exact Ext.refl _ | assumption | apply Ext.alloc | apply Ext.drew | exact ext_plus _ _ | (apply Ext.setCell; rotate_left; (simp <;> omega)) | (apply Ext.trans; rotate_left; exact ext_plus _ _) | (apply Ext.trans; rotate_left; assumption))))
  clear hb1
  obtain ⟨gL, oL, rfl, hgL, v0, h00, hv0, _⟩ := HXL.out 0 (by omega)
  have hv02 := hv0
  obtain ⟨a0, k0, rfl, _⟩ := hv02
  have hL0 : L[0]? = some L[0] := List.getElem?_eq_getElem (by omega)
  have hR0 := HBR.out _ hL0
  have hm0 : L[0] ∈ L := List.getElem_mem _
  obtain ⟨q0, hq0⟩ : ∃ q0, L[0] = q0 := ⟨_, rfl⟩
  rw [hq0] at hv0 h00 hR0 hm0
  have HR0 := Lib.hid hR0
  have HV0 := Lib.hid hv0
  clear hL0 hR0 hv0 hq0
  have h000 : w1.cell? ⟨gL, oL, none⟩ = some (.slice a0 q0.length k0) := by simpa using h00
  clear h00
  go_wp2
  go_loopw [8, 9, 10, 11] (fun vb i _ _ wr => ∃ (k : Nat) (b : List Int), 1 ≤ k ∧ k ≤ L.length ∧ i = .int .i64 k ∧ Ints wr vb b ∧ b ∈ L ∧ (L.drop k).foldl (W.tryPlan H C m) b = R ∧ Ext w1 wr)
    (fun _ i _ _ _ => L.length - (intOf i).toNat)
  case atStart => exact ⟨1, q0, Nat.le_refl _, hp1, rfl, HV0.out, hm0, HR0.out, Ext.refl _⟩
  case round =>
    obtain ⟨k, b, hk1, hk, rfl, hvb, hbm, hfo, hEk⟩ := hrel
    have HFO := Lib.hid hfo
    have hvb2 := hvb
    obtain ⟨ab, cb, rfl, _⟩ := hvb2
    have HVB := Lib.hid hvb
    clear hfo hvb
    by_cases hlt : k < L.length
    · obtain ⟨g9, o9, heq, _, vq, h0q, hvq, _⟩ := HXL.out k hlt
      cases heq
      have hvq2 := hvq
      obtain ⟨aq, cq, rfl, _⟩ := hvq2
      have hqm : L[k] ∈ L := List.getElem_mem hlt
      have htd := try_drop (H := H) (C := C) (m := m) (b := b) hlt
      rw [HFO.out] at htd
      obtain ⟨q, hq⟩ : ∃ q, L[k] = q := ⟨_, rfl⟩
      rw [hq] at hvq h0q hqm htd
      clear hq
      have HVQ := Lib.hid (hvq.ext hEk)
      clear hvq
      have h0q2 : w1.cell? ⟨gL, oL + k, none⟩ = some (.slice aq q.length cq) := by simpa using h0q
      have e4 : wr.cell? ⟨gL, oL + k, none⟩ = some (.slice aq q.length cq) := (hEk.cells.1 _ _ hgL).trans h0q2
      have hzk := hEk.size
      have q4 : gL < wr.heap.size := by omega
      have hbs4 := hbs1.ext hEk
      have hbm4 := hbm1.ext hEk
      have hcs4 := hbs4.cell
      have hls4 := hbs4.lt
      have hcm4 := hbm4.cell
      have hlm4 := hbm4.lt
      have hE0 : Ext w wr := hE1.trans hEk
      have hpc := plus_cell
      have HTD := Lib.hid htd
      clear htd h0q
      obtain ⟨D1, hD1⟩ : ∃ D1, dryQ s c q = D1 := ⟨_, rfl⟩
      obtain ⟨D2, hD2⟩ : ∃ D2, dryQ s c b = D2 := ⟨_, rfl⟩
      have hdq := fun w' (hx : Ext w w') hv => HDR.out w' hx q hqm (.slice aq q.length cq) hv
      have hdb := fun w' (hx : Ext w w') hv => HDR.out w' hx b hbm (.slice ab b.length cb) hv
      have hh1 := HDH.out q hqm
      have hh2 := HDH.out b hbm
      rw [hD1] at hdq hh1
      rw [hD2] at hdb hh2
      have HDQ := Lib.hid hdq
      have HDB := Lib.hid hdb
      have HH1 := Lib.hid hh1
      have HH2 := Lib.hid hh2
      clear hdq hdb hh1 hh2 hD1 hD2
      go_wp2
      refine wp_region_ext 8 (fun _ _ d _ _ h => by cases d <;> exact h) (by kernel_rfl) (by kernel_rfl) (by kernel_rfl) (by kernel_rfl) ?_
      simp only [List.take_succ_cons, List.take_zero, List.drop_succ_cons, List.drop_zero]
      repeat (any_goals (first | go_big_quiet_step (first | (go_at_call 30; exact ext_quiet (HCO.out _ (by (with_reducible (repeat (first | exact Ext.refl _ | assumption | apply Ext.alloc | apply Ext.drew | exact ext_plus _ _ | (apply Ext.setCell; rotate_left; (simp <;> omega)) | (apply Ext.trans; rotate_left; exact ext_plus _ _) | (apply Ext.trans; rotate_left; assumption))))) q hqm _ (HVQ.out.ext (by (with_reducible (repeat (first | exact Ext.refl _ | assumption | apply Ext.alloc | apply Ext.drew | exact ext_plus _ _ | (apply Ext.setCell; rotate_left; (simp <;> omega)) | (apply Ext.trans; rotate_left; exact ext_plus _ _) | (apply Ext.trans; rotate_left; assumption))))))))) | quiet_step (first | (go_at_call 30; exact ext_quiet (HCO.out _ (by (with_reducible (repeat (first | exact Ext.refl _ | assumption | apply Ext.alloc | apply Ext.drew | exact ext_plus _ _ | (apply Ext.setCell; rotate_left; (simp <;> omega)) | (apply Ext.trans; rotate_left; exact ext_plus _ _) | (apply Ext.trans; rotate_left; assumption))))) q hqm _ (HVQ.out.ext (by (with_reducible (repeat (first | exact Ext.refl _ | assumption | apply Ext.alloc | apply Ext.drew | exact ext_plus _ _ | (apply Ext.setCell; rotate_left; (simp <;> omega)) | (apply Ext.trans; rotate_left; exact ext_plus _ _) | (apply Ext.trans; rotate_left; assumption)))))))))))
      all_goals (refine wpQuiet_nil ?_; intro w6 hE6)
      unfold wpList
      have hz6 := hE6.size
      have hE06 : Ext w w6 := hE0.trans hE6
      have hE16 : Ext w1 w6 := hEk.trans hE6
      have e6 : w6.cell? ⟨gL, oL + k, none⟩ = some (.slice aq q.length cq) := (hE6.cells.1 _ _ q4).trans e4
      have q6 : gL < w6.heap.size := by omega
      have hbs6 := hbs4.ext hE6
      have hbm6 := hbm4.ext hE6
      have HVQ6 := Lib.hid (HVQ.out.ext hE6)
      have HVB6 := Lib.hid (HVB.out.ext hE6)
      clear e4 HVQ HVB hcs4 hls4 hcm4 hlm4
      by_cases hcm : m < C q
      · have HQ : Hid ((L.drop (k + 1)).foldl (W.tryPlan H C m) b = R) := by
          have := HTD.out
          unfold W.tryPlan at this
          rw [if_pos hcm] at this
          exact this.symm
        dsimp only [Exit.then]
        go_wp2
        exact ⟨⟨k + 1, b, by omega, by omega, by go_num, HVB6.out, hbm, HQ.out, hE16⟩, by simp [intOf]; omega⟩
      · have htd2 : (L.drop (k + 1)).foldl (W.tryPlan H C m) (if H b < H q ∨ (H q = H b ∧ C q < C b) then q else b) = R := by
          have := HTD.out
          have e : W.tryPlan H C m b q = if H b < H q ∨ (H q = H b ∧ C q < C b) then q else b := by unfold W.tryPlan; rw [if_neg hcm]
          rw [e] at this
          exact this.symm
        have HTD2 := Lib.hid htd2
        clear htd2 HTD
        dsimp only [Exit.then]
        go_upto_region 7 with (fail)
        go_region_held3 (fun y => (∀ o, y.cell? ⟨w.heap.size, o, none⟩ = (#[.slice a1 s.cells.length c1, .slice a2 s.works.length c2, .int .i64 s.reef, .int .i64 s.ll, .int .i64 s.lh] : Array Value)[o]?) ∧ (∀ o, y.cell? ⟨w.heap.size + 1, o, none⟩ = (#[.int .i64 c.wl, .int .i64 c.wh, .int .i64 c.fl, .int .i64 c.fh, .int .i64 c.tl, .int .i64 c.th] : Array Value)[o]?) ∧ y.cell? ⟨gL, oL + k, none⟩ = some (.slice aq q.length cq) ∧ Ext w6 y)
          (first | exact ⟨blk_of hbs6 (by (with_reducible (repeat (first | exact Ext.refl _ | assumption | apply Ext.alloc | apply Ext.drew | exact ext_plus _ _ | (apply Ext.setCell; rotate_left; (simp <;> omega)) | (apply Ext.trans; rotate_left; exact ext_plus _ _) | (apply Ext.trans; rotate_left; assumption))))), blk_of hbm6 (by (with_reducible (repeat (first | exact Ext.refl _ | assumption | apply Ext.alloc | apply Ext.drew | exact ext_plus _ _ | (apply Ext.setCell; rotate_left; (simp <;> omega)) | (apply Ext.trans; rotate_left; exact ext_plus _ _) | (apply Ext.trans; rotate_left; assumption))))), (Ext.cells (by (with_reducible (repeat (first | exact Ext.refl _ | assumption | apply Ext.alloc | apply Ext.drew | exact ext_plus _ _ | (apply Ext.setCell; rotate_left; (simp <;> omega)) | (apply Ext.trans; rotate_left; exact ext_plus _ _) | (apply Ext.trans; rotate_left; assumption)))))).1 _ _ q6 |>.trans e6, by (with_reducible (repeat (first | exact Ext.refl _ | assumption | apply Ext.alloc | apply Ext.drew | exact ext_plus _ _ | (apply Ext.setCell; rotate_left; (simp <;> omega)) | (apply Ext.trans; rotate_left; exact ext_plus _ _) | (apply Ext.trans; rotate_left; assumption))))⟩)
          (first | (go_at_call 33; refine (HDQ.out _ (by (with_reducible (repeat (first | exact Ext.refl _ | assumption | apply Ext.alloc | apply Ext.drew | exact ext_plus _ _ | (apply Ext.setCell; rotate_left; (simp <;> omega)) | (apply Ext.trans; rotate_left; exact ext_plus _ _) | (apply Ext.trans; rotate_left; assumption))))) (HVQ6.out.ext (by (with_reducible (repeat (first | exact Ext.refl _ | assumption | apply Ext.alloc | apply Ext.drew | exact ext_plus _ _ | (apply Ext.setCell; rotate_left; (simp <;> omega)) | (apply Ext.trans; rotate_left; exact ext_plus _ _) | (apply Ext.trans; rotate_left; assumption))))))).mono ?_; clear HDQ; rintro e z1 ⟨vz1, rfl, ⟨az1, cz1, rfl, _⟩, hzz1⟩) | (go_at_call 33; refine (HDB.out _ (by (with_reducible (repeat (first | exact Ext.refl _ | assumption | apply Ext.alloc | apply Ext.drew | exact ext_plus _ _ | (apply Ext.setCell; rotate_left; (simp <;> omega)) | (apply Ext.trans; rotate_left; exact ext_plus _ _) | (apply Ext.trans; rotate_left; assumption))))) (HVB6.out.ext (by (with_reducible (repeat (first | exact Ext.refl _ | assumption | apply Ext.alloc | apply Ext.drew | exact ext_plus _ _ | (apply Ext.setCell; rotate_left; (simp <;> omega)) | (apply Ext.trans; rotate_left; exact ext_plus _ _) | (apply Ext.trans; rotate_left; assumption))))))).mono ?_; clear HDB; rintro e z2 ⟨vz2, rfl, ⟨az2, cz2, rfl, _⟩, hzz2⟩))
        have hE67 : Ext w6 z2 := by rename_i hh; exact hh.2.2.2
        have hz7 := hE67.size
        have hE17 : Ext w1 z2 := hE16.trans hE67
        have hE07 : Ext w z2 := hE06.trans hE67
        have e7 : z2.cell? ⟨gL, oL + k, none⟩ = some (.slice aq q.length cq) := (hE67.cells.1 _ _ q6).trans e6
        have q7 : gL < z2.heap.size := by omega
        have hcs7 := (hbs6.ext hE67).cell
        have hls7 := (hbs6.ext hE67).lt
        have hcm7 := (hbm6.ext hE67).cell
        have hlm7 := (hbm6.ext hE67).lt
        have HVQ7 := Lib.hid (HVQ6.out.ext hE67)
        have HVB7 := Lib.hid (HVB6.out.ext hE67)
        have HC3 := Lib.hid (fun w' (hx : Ext w w') vq q hv hq => HCO.out w' hx q hq vq hv)
        clear HVQ6 HVB6 hbs6 hbm6 hbs4 hbm4 e6 hzz1 hzz2 hE06 hE16 hE6 hz6 q6 q4
        dsimp only [Exit.then]
        go_upto_region 8 with (fail)
        by_cases c1 : D2.length < D1.length
        · have HQ : Hid ((L.drop (k + 1)).foldl (W.tryPlan H C m) q = R) := by
            have := HTD2.out
            rw [if_pos (.inl (by have := HH1.out; have := HH2.out; omega))] at this
            exact this
          refine wp_region_ext 20 (fun _ _ d _ _ h => by cases d <;> exact h) (by kernel_rfl) (by kernel_rfl) (by kernel_rfl) (by kernel_rfl) ?_
          simp only [List.take_succ_cons, List.take_zero, List.drop_succ_cons, List.drop_zero]
          have m0 : D2.length < D1.length := by omega
          repeat (any_goals (first | go_big_quiet_step (first | (go_at_call 30; exact ext_quiet (HC3.out _ (by (with_reducible (repeat (first | exact Ext.refl _ | assumption | apply Ext.alloc | apply Ext.drew | exact ext_plus _ _ | (apply Ext.setCell; rotate_left; (simp <;> omega)) | (apply Ext.trans; rotate_left; exact ext_plus _ _) | (apply Ext.trans; rotate_left; assumption))))) _ _ (by first | exact HVQ7.out.ext (by (with_reducible (repeat (first | exact Ext.refl _ | assumption | apply Ext.alloc | apply Ext.drew | exact ext_plus _ _ | (apply Ext.setCell; rotate_left; (simp <;> omega)) | (apply Ext.trans; rotate_left; exact ext_plus _ _) | (apply Ext.trans; rotate_left; assumption))))) | exact HVB7.out.ext (by (with_reducible (repeat (first | exact Ext.refl _ | assumption | apply Ext.alloc | apply Ext.drew | exact ext_plus _ _ | (apply Ext.setCell; rotate_left; (simp <;> omega)) | (apply Ext.trans; rotate_left; exact ext_plus _ _) | (apply Ext.trans; rotate_left; assumption)))))) (by first | exact hqm | exact hbm)))) | quiet_step (first | (go_at_call 30; exact ext_quiet (HC3.out _ (by (with_reducible (repeat (first | exact Ext.refl _ | assumption | apply Ext.alloc | apply Ext.drew | exact ext_plus _ _ | (apply Ext.setCell; rotate_left; (simp <;> omega)) | (apply Ext.trans; rotate_left; exact ext_plus _ _) | (apply Ext.trans; rotate_left; assumption))))) _ _ (by first | exact HVQ7.out.ext (by (with_reducible (repeat (first | exact Ext.refl _ | assumption | apply Ext.alloc | apply Ext.drew | exact ext_plus _ _ | (apply Ext.setCell; rotate_left; (simp <;> omega)) | (apply Ext.trans; rotate_left; exact ext_plus _ _) | (apply Ext.trans; rotate_left; assumption))))) | exact HVB7.out.ext (by (with_reducible (repeat (first | exact Ext.refl _ | assumption | apply Ext.alloc | apply Ext.drew | exact ext_plus _ _ | (apply Ext.setCell; rotate_left; (simp <;> omega)) | (apply Ext.trans; rotate_left; exact ext_plus _ _) | (apply Ext.trans; rotate_left; assumption)))))) (by first | exact hqm | exact hbm))))))
          all_goals (refine wpQuiet_nil ?_; intro w8 hE8)
          unfold wpList
          have hz8 := hE8.size
          have e8 : w8.cell? ⟨gL, oL + k, none⟩ = some (.slice aq q.length cq) := (hE8.cells.1 _ _ q7).trans e7
          have q8 : gL < w8.heap.size := by omega
          clear e7
          go_wp2
          go_roundw
          case rel => exact ⟨k + 1, q, by omega, by omega, by go_num, (HVQ7.out.ext hE8), hqm, HQ.out, hE17.trans hE8⟩
          case measure => simp [intOf]; omega
        · by_cases c2 : D1.length = D2.length
          · by_cases c3 : C q < C b
            · have HQ : Hid ((L.drop (k + 1)).foldl (W.tryPlan H C m) q = R) := by
                have := HTD2.out
                rw [if_pos (.inr ⟨by have := HH1.out; have := HH2.out; omega, c3⟩)] at this
                exact this
              refine wp_region_ext 20 (fun _ _ d _ _ h => by cases d <;> exact h) (by kernel_rfl) (by kernel_rfl) (by kernel_rfl) (by kernel_rfl) ?_
              simp only [List.take_succ_cons, List.take_zero, List.drop_succ_cons, List.drop_zero]
              have m0 : ¬ D2.length < D1.length := by omega
              have m1 : D1.length = D2.length := by omega
              have m2 : C q < C b := by omega
              repeat (any_goals (first | go_big_quiet_step (first | (go_at_call 30; exact ext_quiet (HC3.out _ (by (with_reducible (repeat (first | exact Ext.refl _ | assumption | apply Ext.alloc | apply Ext.drew | exact ext_plus _ _ | (apply Ext.setCell; rotate_left; (simp <;> omega)) | (apply Ext.trans; rotate_left; exact ext_plus _ _) | (apply Ext.trans; rotate_left; assumption))))) _ _ (by first | exact HVQ7.out.ext (by (with_reducible (repeat (first | exact Ext.refl _ | assumption | apply Ext.alloc | apply Ext.drew | exact ext_plus _ _ | (apply Ext.setCell; rotate_left; (simp <;> omega)) | (apply Ext.trans; rotate_left; exact ext_plus _ _) | (apply Ext.trans; rotate_left; assumption))))) | exact HVB7.out.ext (by (with_reducible (repeat (first | exact Ext.refl _ | assumption | apply Ext.alloc | apply Ext.drew | exact ext_plus _ _ | (apply Ext.setCell; rotate_left; (simp <;> omega)) | (apply Ext.trans; rotate_left; exact ext_plus _ _) | (apply Ext.trans; rotate_left; assumption)))))) (by first | exact hqm | exact hbm)))) | quiet_step (first | (go_at_call 30; exact ext_quiet (HC3.out _ (by (with_reducible (repeat (first | exact Ext.refl _ | assumption | apply Ext.alloc | apply Ext.drew | exact ext_plus _ _ | (apply Ext.setCell; rotate_left; (simp <;> omega)) | (apply Ext.trans; rotate_left; exact ext_plus _ _) | (apply Ext.trans; rotate_left; assumption))))) _ _ (by first | exact HVQ7.out.ext (by (with_reducible (repeat (first | exact Ext.refl _ | assumption | apply Ext.alloc | apply Ext.drew | exact ext_plus _ _ | (apply Ext.setCell; rotate_left; (simp <;> omega)) | (apply Ext.trans; rotate_left; exact ext_plus _ _) | (apply Ext.trans; rotate_left; assumption))))) | exact HVB7.out.ext (by (with_reducible (repeat (first | exact Ext.refl _ | assumption | apply Ext.alloc | apply Ext.drew | exact ext_plus _ _ | (apply Ext.setCell; rotate_left; (simp <;> omega)) | (apply Ext.trans; rotate_left; exact ext_plus _ _) | (apply Ext.trans; rotate_left; assumption)))))) (by first | exact hqm | exact hbm))))))
              all_goals (refine wpQuiet_nil ?_; intro w8 hE8)
              unfold wpList
              have hz8 := hE8.size
              have e8 : w8.cell? ⟨gL, oL + k, none⟩ = some (.slice aq q.length cq) := (hE8.cells.1 _ _ q7).trans e7
              have q8 : gL < w8.heap.size := by omega
              clear e7
              go_wp2
              go_roundw
              case rel => exact ⟨k + 1, q, by omega, by omega, by go_num, (HVQ7.out.ext hE8), hqm, HQ.out, hE17.trans hE8⟩
              case measure => simp [intOf]; omega
            · have HQ : Hid ((L.drop (k + 1)).foldl (W.tryPlan H C m) b = R) := by
                have := HTD2.out
                rw [if_neg (by have := HH1.out; have := HH2.out; omega)] at this
                exact this
              refine wp_region_ext 20 (fun _ _ d _ _ h => by cases d <;> exact h) (by kernel_rfl) (by kernel_rfl) (by kernel_rfl) (by kernel_rfl) ?_
              simp only [List.take_succ_cons, List.take_zero, List.drop_succ_cons, List.drop_zero]
              have m0 : ¬ D2.length < D1.length := by omega
              have m1 : D1.length = D2.length := by omega
              have m2 : ¬ C q < C b := by omega
              repeat (any_goals (first | go_big_quiet_step (first | (go_at_call 30; exact ext_quiet (HC3.out _ (by (with_reducible (repeat (first | exact Ext.refl _ | assumption | apply Ext.alloc | apply Ext.drew | exact ext_plus _ _ | (apply Ext.setCell; rotate_left; (simp <;> omega)) | (apply Ext.trans; rotate_left; exact ext_plus _ _) | (apply Ext.trans; rotate_left; assumption))))) _ _ (by first | exact HVQ7.out.ext (by (with_reducible (repeat (first | exact Ext.refl _ | assumption | apply Ext.alloc | apply Ext.drew | exact ext_plus _ _ | (apply Ext.setCell; rotate_left; (simp <;> omega)) | (apply Ext.trans; rotate_left; exact ext_plus _ _) | (apply Ext.trans; rotate_left; assumption))))) | exact HVB7.out.ext (by (with_reducible (repeat (first | exact Ext.refl _ | assumption | apply Ext.alloc | apply Ext.drew | exact ext_plus _ _ | (apply Ext.setCell; rotate_left; (simp <;> omega)) | (apply Ext.trans; rotate_left; exact ext_plus _ _) | (apply Ext.trans; rotate_left; assumption)))))) (by first | exact hqm | exact hbm)))) | quiet_step (first | (go_at_call 30; exact ext_quiet (HC3.out _ (by (with_reducible (repeat (first | exact Ext.refl _ | assumption | apply Ext.alloc | apply Ext.drew | exact ext_plus _ _ | (apply Ext.setCell; rotate_left; (simp <;> omega)) | (apply Ext.trans; rotate_left; exact ext_plus _ _) | (apply Ext.trans; rotate_left; assumption))))) _ _ (by first | exact HVQ7.out.ext (by (with_reducible (repeat (first | exact Ext.refl _ | assumption | apply Ext.alloc | apply Ext.drew | exact ext_plus _ _ | (apply Ext.setCell; rotate_left; (simp <;> omega)) | (apply Ext.trans; rotate_left; exact ext_plus _ _) | (apply Ext.trans; rotate_left; assumption))))) | exact HVB7.out.ext (by (with_reducible (repeat (first | exact Ext.refl _ | assumption | apply Ext.alloc | apply Ext.drew | exact ext_plus _ _ | (apply Ext.setCell; rotate_left; (simp <;> omega)) | (apply Ext.trans; rotate_left; exact ext_plus _ _) | (apply Ext.trans; rotate_left; assumption)))))) (by first | exact hqm | exact hbm))))))
              all_goals (refine wpQuiet_nil ?_; intro w8 hE8)
              unfold wpList
              have hz8 := hE8.size
              have e8 : w8.cell? ⟨gL, oL + k, none⟩ = some (.slice aq q.length cq) := (hE8.cells.1 _ _ q7).trans e7
              have q8 : gL < w8.heap.size := by omega
              clear e7
              go_wp2
              go_roundw
              case rel => exact ⟨k + 1, b, by omega, by omega, by go_num, (HVB7.out.ext hE8), hbm, HQ.out, hE17.trans hE8⟩
              case measure => simp [intOf]; omega
          · have HQ : Hid ((L.drop (k + 1)).foldl (W.tryPlan H C m) b = R) := by
              have := HTD2.out
              rw [if_neg (by have := HH1.out; have := HH2.out; omega)] at this
              exact this
            refine wp_region_ext 20 (fun _ _ d _ _ h => by cases d <;> exact h) (by kernel_rfl) (by kernel_rfl) (by kernel_rfl) (by kernel_rfl) ?_
            simp only [List.take_succ_cons, List.take_zero, List.drop_succ_cons, List.drop_zero]
            have m0 : ¬ D2.length < D1.length := by omega
            have m1 : ¬ (D1.length : Int) = (D2.length : Int) := by omega
            have hne : ((D1.length : Int) == (D2.length : Int)) = false := by simp; omega
            repeat (any_goals (first | go_big_quiet_step (first | (go_at_call 30; exact ext_quiet (HC3.out _ (by (with_reducible (repeat (first | exact Ext.refl _ | assumption | apply Ext.alloc | apply Ext.drew | exact ext_plus _ _ | (apply Ext.setCell; rotate_left; (simp <;> omega)) | (apply Ext.trans; rotate_left; exact ext_plus _ _) | (apply Ext.trans; rotate_left; assumption))))) _ _ (by first | exact HVQ7.out.ext (by (with_reducible (repeat (first | exact Ext.refl _ | assumption | apply Ext.alloc | apply Ext.drew | exact ext_plus _ _ | (apply Ext.setCell; rotate_left; (simp <;> omega)) | (apply Ext.trans; rotate_left; exact ext_plus _ _) | (apply Ext.trans; rotate_left; assumption))))) | exact HVB7.out.ext (by (with_reducible (repeat (first | exact Ext.refl _ | assumption | apply Ext.alloc | apply Ext.drew | exact ext_plus _ _ | (apply Ext.setCell; rotate_left; (simp <;> omega)) | (apply Ext.trans; rotate_left; exact ext_plus _ _) | (apply Ext.trans; rotate_left; assumption)))))) (by first | exact hqm | exact hbm)))) | quiet_step (first | (go_at_call 30; exact ext_quiet (HC3.out _ (by (with_reducible (repeat (first | exact Ext.refl _ | assumption | apply Ext.alloc | apply Ext.drew | exact ext_plus _ _ | (apply Ext.setCell; rotate_left; (simp <;> omega)) | (apply Ext.trans; rotate_left; exact ext_plus _ _) | (apply Ext.trans; rotate_left; assumption))))) _ _ (by first | exact HVQ7.out.ext (by (with_reducible (repeat (first | exact Ext.refl _ | assumption | apply Ext.alloc | apply Ext.drew | exact ext_plus _ _ | (apply Ext.setCell; rotate_left; (simp <;> omega)) | (apply Ext.trans; rotate_left; exact ext_plus _ _) | (apply Ext.trans; rotate_left; assumption))))) | exact HVB7.out.ext (by (with_reducible (repeat (first | exact Ext.refl _ | assumption | apply Ext.alloc | apply Ext.drew | exact ext_plus _ _ | (apply Ext.setCell; rotate_left; (simp <;> omega)) | (apply Ext.trans; rotate_left; exact ext_plus _ _) | (apply Ext.trans; rotate_left; assumption)))))) (by first | exact hqm | exact hbm))))))
            all_goals (refine wpQuiet_nil ?_; intro w8 hE8)
            unfold wpList
            have hz8 := hE8.size
            have e8 : w8.cell? ⟨gL, oL + k, none⟩ = some (.slice aq q.length cq) := (hE8.cells.1 _ _ q7).trans e7
            have q8 : gL < w8.heap.size := by omega
            clear e7
            go_wp2
            go_roundw
            case rel => exact ⟨k + 1, b, by omega, by omega, by go_num, (HVB7.out.ext hE8), hbm, HQ.out, hE17.trans hE8⟩
            case measure => simp [intOf]; omega
    · have e : k = L.length := by omega
      have HRB : Hid (b = R) := by
        have := HFO.out
        rw [e, List.drop_length] at this
        exact this
      have hvb3 := HVB.out
      rw [HRB.out] at hvb3
      have HVR := Lib.hid hvb3
      clear hvb3
      go_wp2
      go_ret
      refine ⟨_, rfl, ?_, hE1.trans hEk⟩
      have := HVR.out
      rw [HRB.out]
      exact this
end Go.Proofs.Ytmlobiajimlboaa
