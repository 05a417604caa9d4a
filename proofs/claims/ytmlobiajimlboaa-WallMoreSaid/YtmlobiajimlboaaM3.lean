/- The search with its memo. -/
import Derived.Test.YtmlobiajimlboaaM4
import Derived.Test.YtmlobiajimlboaaM5
import Derived.Test.YtmlobiajimlboaaD5
namespace Go.Proofs.Ytmlobiajimlboaa
set_option linter.unusedVariables false
set_option linter.unusedSimpArgs false
open Go.RowKit Go.Maps
set_option maxRecDepth 100000 in
set_option maxHeartbeats 2000000 in
theorem spare1_any (s : W.Shore) (c : W.Storm) (O : W.Ok s c) (vc vw vd : Value) (hR : Room vc) (bs bm bt bf b : Nat) : ∀ (j i : Nat), i + j = s.cells.length → ∀ (l m : Int) (n : Nat) (w : World), -5000 ≤ l → l ≤ 15000 → 0 ≤ m → m ≤ 7000000 → n + calls j ≤ 100000 →
    Env s c vc vw vd bs bm bt bf b w → Memo s.works s.cells w b n →
    Calls Try.prog 72 #[spotV i l m, .pointer (some ⟨bs, 0, none⟩), .pointer (some ⟨bm, 0, none⟩), .pointer (some ⟨bt, 0, none⟩), .pointer (some ⟨bf, 0, none⟩)] w fun e w' =>
      ∃ v, e = .returned (choiceA (W.search s.works (s.cells.drop i) l m) v) ∧ IntsB w' v (W.search s.works (s.cells.drop i) l m).plan ∧ Memo s.works s.cells w' b (n + calls j) ∧ But b w w' := by
  intro j
  induction j with
  | zero =>
    intro i hi l m n w hl0 hl1 hm0 hm1 hn E hM
    obtain rfl : i = s.cells.length := by omega
    have hc0 := E.shore.cell
    have hs0 := E.shore.lt
    have hC := E.cells
    obtain ⟨a1, c1, rfl, _⟩ := hC
    have n7 := O.n7
    go_enter Try.func72, Try.ntmps72
    go_wp2
    refine wp_scope_ret fun R hR' => ?_
    go_wp2
    refine hR' _ _ ?_
    refine bodyPost_ret (v := choiceA ⟨0, 0, []⟩ (.slice none 0 0)) (by simp [results, Try.results72, go_sem]) rfl ?_
    rw [List.drop_length]
    exact ⟨_, rfl, IntsB.nil _, hM.ext (by (with_reducible (repeat (first | exact Ext.refl _ | assumption | apply Ext.alloc | apply Ext.drew | exact ext_plus _ _ | (apply Ext.setCell; rotate_left; (simp <;> omega)) | (apply Ext.trans; rotate_left; exact ext_plus _ _) | (apply Ext.trans; rotate_left; assumption))))), Ext.but (by (with_reducible (repeat (first | exact Ext.refl _ | assumption | apply Ext.alloc | apply Ext.drew | exact ext_plus _ _ | (apply Ext.setCell; rotate_left; (simp <;> omega)) | (apply Ext.trans; rotate_left; exact ext_plus _ _) | (apply Ext.trans; rotate_left; assumption))))) b⟩
  | succ j ih =>
    intro i hi l m n w hl0 hl1 hm0 hm1 hn E hM
    have hlt : i < s.cells.length := by omega
    have hmap := hM.mapAt
    have hbsz := hmap.lt
    have hM' := hM
    obtain ⟨D, hown, hD, hall⟩ := hM'
    obtain ⟨kl, hkl⟩ : ∃ kl, keyOf Try.prog 117 (spotV i l m) = some kl := spot_key (wf_small (by have := O.n7; omega) (by have := O.n7; omega)) (wf_small (by omega) (by omega)) (wf_small (by omega) (by omega))
    obtain ⟨v, ps, hrun, hv⟩ := World.ownsMap.look_ok (w := (w.alloc (.cells #[.int .i64 i, .int .i64 l, .int .i64 m] 117)).alloc (.cells #[.int .i64 0, .int .i64 0, .slice none 0 0] 102)) ((hown.alloc _).alloc _) spot_keyed Try.underlying114 (zero_choice _) (zd := .held (.agg #[.int .i64 0, .int .i64 0, .slice none 0 0])) (zp := []) rfl hkl
    have hva : D.atKey kl (.held (.agg #[.int .i64 0, .int .i64 0, .slice none 0 0])) = .held v := by
      unfold RV at hv; exact (congrArg Prod.fst (Option.some.inj hv)).symm
    have hc0 := E.shore.cell
    have hs0 := E.shore.lt
    have hc1 := E.map.cell
    have hs1 := E.map.lt
    have hC := E.cells
    have HR := Lib.hid hR
    obtain ⟨a1, c1, rfl, hx1⟩ := hC
    obtain ⟨g1, o1, rfl, hg1, h0, h1, h2, h3⟩ := hx1 i hlt
    have hW := E.works
    obtain ⟨a2, c2, rfl, hx2⟩ := hW
    clear hx1 hx2 hR hown
    have n7 := O.n7
    by_cases hh : Maps.has D kl = true
    · obtain ⟨vp, hvp, hvi⟩ := hall i l m kl hkl hh
      have e := (hvp _).symm.trans hva
      injection e with e
      subst e
      rw [hh] at hrun
      obtain ⟨X, hX⟩ : ∃ X, W.search s.works (s.cells.drop i) l m = X := ⟨_, rfl⟩
      rw [hX] at hrun hvi ⊢
      have hvi' := hvi
      obtain ⟨⟨av, cv, rfl, _⟩, _⟩ := hvi'
      have HVI := Lib.hid hvi
      clear hall hva hv hh hvi hvp
      go_enter Try.func72, Try.ntmps72
      go_wp2
      refine wp_scope_ret fun R hR' => ?_
      go_wp2
      refine hR' _ _ ?_
      refine bodyPost_ret (v := choiceA X (.slice av X.plan.length cv)) (by simp [results, Try.results72, go_sem]) rfl ⟨_, rfl, ?_, ?_, ?_⟩
      · exact HVI.out.ext (by (with_reducible (repeat (first | exact Ext.refl _ | assumption | apply Ext.alloc | apply Ext.drew | exact ext_plus _ _ | (apply Ext.setCell; rotate_left; (simp <;> omega)) | (apply Ext.trans; rotate_left; exact ext_plus _ _) | (apply Ext.trans; rotate_left; assumption)))))
      · exact (hM.mono (by omega)).ext (by (with_reducible (repeat (first | exact Ext.refl _ | assumption | apply Ext.alloc | apply Ext.drew | exact ext_plus _ _ | (apply Ext.setCell; rotate_left; (simp <;> omega)) | (apply Ext.trans; rotate_left; exact ext_plus _ _) | (apply Ext.trans; rotate_left; assumption)))))
      · exact Ext.but (by (with_reducible (repeat (first | exact Ext.refl _ | assumption | apply Ext.alloc | apply Ext.drew | exact ext_plus _ _ | (apply Ext.setCell; rotate_left; (simp <;> omega)) | (apply Ext.trans; rotate_left; exact ext_plus _ _) | (apply Ext.trans; rotate_left; assumption))))) b
    · have hvz : v = .agg #[.int .i64 0, .int .i64 0, .slice none 0 0] := by
        rw [atKey_of_not_has (by simpa using hh)] at hva
        injection hva with e; exact e.symm
      subst hvz
      have hf : Maps.has D kl = false := by simpa using hh
      rw [hf] at hrun
      have hij := hi
      clear hi
      obtain ⟨i0, hi, hz0, hz1, hz2⟩ := info_parts choice_info
      have HALL := Lib.hid hall
      have hieq : (((i : Nat) : Int) == (s.cells.length : Int)) = false := by simp; omega
      have HM := Lib.hid hM
      have k0 : bs < w.heap.size + 1 := by omega
      have k1 : bs < w.heap.size + 1 + 1 := by omega
      have k2 : g1 < w.heap.size + 1 := by omega
      have k3 : g1 < w.heap.size + 1 + 1 := by omega
      have k4 : g1 < w.heap.size + 1 + 1 + 1 := by omega
      clear hall hva hv hh hf hM
      go_enter Try.func72, Try.ntmps72
      go_wp2
      refine wp_scope_ret fun R hR' => ?_
      go_wp2
      go_step3
      obtain ⟨w1, hw1⟩ : ∃ w1, (((w.alloc (.cells #[.int .i64 i, .int .i64 l, .int .i64 m] 117)).alloc (.cells #[.int .i64 0, .int .i64 0, .slice none 0 0] 102)).alloc (.cells #[.int .i64 0, .int .i64 0, .slice none 0 0] 102)).alloc (.cells #[.int .i64 s.cells[i].g, .int .i64 s.cells[i].dl, .int .i64 s.cells[i].dh, .int .i64 s.cells[i].fl] 51) = w1 := ⟨_, rfl⟩
      have hE1 : Ext w w1 := by rw [← hw1]; (with_reducible (repeat (first | exact Ext.refl _ | assumption | apply Ext.alloc | apply Ext.drew | exact ext_plus _ _ | (apply Ext.setCell; rotate_left; (simp <;> omega)) | (apply Ext.trans; rotate_left; exact ext_plus _ _) | (apply Ext.trans; rotate_left; assumption))))
      have hz1' : w1.heap.size = w.heap.size + 1 + 1 + 1 + 1 := by rw [← hw1]; simp
      have hPb : Blk w1 w.heap.size #[.int .i64 i, .int .i64 l, .int .i64 m] 117 := by rw [← hw1]; exact (((Blk.new' rfl _ _).alloc _).alloc _).alloc _
      have hQb : Blk w1 (w.heap.size + 1) #[.int .i64 0, .int .i64 0, .slice none 0 0] 102 := by rw [← hw1]; exact ((Blk.new' (by simp) _ _).alloc _).alloc _
      have hKb : Blk w1 (w.heap.size + 1 + 1 + 1) #[.int .i64 s.cells[i].g, .int .i64 s.cells[i].dl, .int .i64 s.cells[i].dh, .int .i64 s.cells[i].fl] 51 := by rw [← hw1]; exact Blk.new' (by simp) _ _
      have E1 := E.but (hE1.but b) hmap
      have hM1 := HM.out.ext hE1
      have hmap1 := hmap.ext hE1
      rw [hw1]
      have HB1 := Lib.hid (fun wr (hB : But b w1 wr) => And.intro (hPb.but hB hmap1) (And.intro (hQb.but hB hmap1) (And.intro (hKb.but hB hmap1) (E1.but hB hmap1))))
      have HDR := Lib.hid (List.drop_eq_getElem_cons hlt)
      obtain ⟨cnd, hcnd⟩ : ∃ cnd, W.cand s.works (W.search s.works (s.cells.drop (i + 1))) s.cells[i] (s.cells.drop (i + 1)) l m = cnd := ⟨_, rfl⟩
      have hgl : s.cells[i].g ≥ -5000 := (O.cell _ (List.getElem_mem hlt)).1
      have hgh := (O.cell _ (List.getElem_mem hlt))
      clear hw1 hrun hc0 hc1 h0 h1 h2 h3
      go_wp2
      go_loopg [9, 11] (s.works.length + 1) (fun gk out x wr => ∃ (k : Nat) (q : Int) (L : List (W.Choice × Value)), k + gk = s.works.length + 1 ∧ x = .int .i64 q ∧ q = (k : Int) - 1 ∧ L.map Prod.fst = ((W.options s.works.length).take k).filterMap cnd ∧ L.length ≤ k ∧
          wr.ownsRow w1.heap.size 102 3 out L.length (L.flatMap choiceC) ∧ (∀ p ∈ L, IntsB wr p.2 p.1.plan) ∧ Memo s.works s.cells wr b (n + k * calls j) ∧ But b w1 wr)
      case atStart => exact ⟨0, -1, [], Nat.zero_add _, rfl, rfl, by simp, by simp, World.ownsRow_nil _ _ _ _, by simp, hM1.mono (by omega), But.refl _ _⟩
      case round =>
        obtain ⟨k, q, L, hk, rfl, hq, hL, hLk, hown, hLi, hMr, hBr⟩ := hrel
        obtain ⟨hPr, hQr, hKr, Er⟩ := HB1.out wr hBr
        have hcs := Er.shore.cell
        have hss := Er.shore.lt
        by_cases hkl' : k < s.works.length + 1
        · have hql : q < s.works.length := by omega
          have hq1 : -1 ≤ q := by omega
          have hm3 := O.m3
          have HQ := Lib.hid hq
          clear hq
          go_upto_if 52 with (fail)
          obtain ⟨cost, hcost⟩ : ∃ cost, (W.work s.works q).cost = cost := ⟨_, rfl⟩
          go_cut [12] from 43 to 141 (fun s12 wc => s12 = .int .i64 cost ∧ wr = wc)
          case first =>
            by_cases hq0 : 0 ≤ q
            · obtain ⟨q', rfl⟩ := Int.eq_ofNat_of_zero_le hq0
              have hq' : q' < s.works.length := by omega
              have hcst : cost = s.works[q'].cost := by rw [← hcost]; simp [W.work, hq']
              have hWr := Er.works
              obtain ⟨a2', c2', heq, hx2⟩ := hWr
              obtain ⟨g2, o2, rfl, hg2, k1, k2, k3⟩ := hx2 q' hq'
              cases heq
              clear hx2
              go_wp2
              go_meet
              exact ⟨by rw [hcst], rfl⟩
            · obtain rfl : q = -1 := by omega
              have e2 : cost = 0 := by rw [← hcost]; rfl
              go_wp2
              go_meet
              exact ⟨by rw [e2], rfl⟩
          case rest =>
            obtain ⟨rfl, rfl⟩ := hcut
            have hp0 := hPr.cell
            have hp1 := hPr.lt
            have hk0 := hKr.cell
            have hk1 := hKr.lt
            by_cases hcm : m < cost
            · have hnone : cnd ((k : Int) - 1) = none := by
                rw [← hcnd, ← HQ.out, W.cand, hcost, if_pos hcm]
              go_wp2
              go_roundg (gk - 1)
              case rel => exact ⟨k + 1, q + 1, L, by omega, by go_num, by have := HQ.out; omega, by rw [hL, cands_none hkl' hnone], by omega, hown, hLi, hMr.mono (by rw [Nat.add_mul]; omega), hBr⟩
              case measure => omega
            · have ht0 := Er.truth.cell
              have ht1 := Er.truth.lt
              have hrk := work_get s.works q
              have hwk : 0 ≤ (W.work s.works q).rise ∧ (W.work s.works q).rise ≤ 5000 ∧ 0 ≤ (W.work s.works q).calm ∧ (W.work s.works q).calm ≤ 5000 ∧ 0 ≤ (W.work s.works q).cost ∧ (W.work s.works q).cost ≤ 1000000 := by
                rcases work_get s.works q with e | e
                · rw [e]; decide
                · exact O.work _ e
              have hdr := Er.drags
              obtain ⟨a4, c4, rfl, hx4⟩ := hdr
              obtain ⟨g4, o4, rfl, hg4, h04⟩ := hx4 i (by simpa using hlt)
              clear hx4
              rw [List.length_map, List.getElem_map] at *
              obtain ⟨l', hl'⟩ : ∃ l', l - s.cells[i].dl - (W.work s.works q).calm = l' := ⟨_, rfl⟩
              have hl1' : l' ≤ 15000 := by omega
              have hgo := fun w' (hx : Ext wr w') (st : Bool) (hst : decide (l - s.cells[i].dl - (W.work s.works q).calm ≤ s.cells[i].g + (W.work s.works q).rise) = st) => goes_any s c _ _ (.slice none 0 0) w' (Er.cells.ext hx) (Er.works.ext hx) (by omega) (by have := O.m3; omega) i hlt q l s.cells[i].dl ⟨hq1, hql⟩ ⟨by omega, by omega⟩ ⟨by omega, by omega⟩ ⟨hgh.1, hgh.2.1⟩ ⟨hwk.1, hwk.2.1⟩ ⟨hwk.2.2.1, hwk.2.2.2.1⟩ st hst
              rw [hl'] at hgo
              have hpc := plus_cell
              have k5 : bs < wr.heap.size + 1 := by omega
              by_cases hst : l' ≤ s.cells[i].g + (W.work s.works q).rise
              · have HG := Lib.hid (fun w' hx => hgo w' hx true (decide_eq_true hst))
                have HST := Lib.hid hst
                clear hst hgo
                go_wp2
                refine wp_region_ext 18 (fun _ _ d _ _ h => by cases d <;> exact h) (by kernel_rfl) (by kernel_rfl) (by kernel_rfl) (by kernel_rfl) ?_
                simp only [List.take_succ_cons, List.take_zero, List.drop_succ_cons, List.drop_zero]
                repeat (any_goals (first | quiet_step (first | (go_at_call 73; exact ext_quiet (HG.out _ (by (with_reducible (repeat (first | exact Ext.refl _ | assumption | apply Ext.alloc | apply Ext.drew | exact ext_plus _ _ | (apply Ext.setCell; rotate_left; (simp <;> omega)) | (apply Ext.trans; rotate_left; exact ext_plus _ _) | (apply Ext.trans; rotate_left; assumption)))))))) | (refine wpQuiet_step (fun K hK => ?_); go_simp; split <;> (refine hK _ ?_; clear hK K))))
                all_goals (refine wpQuiet_nil ?_; intro w' hE'; have hc' := hE'.cells.1; have hf' := hE'.cells.2)
                unfold wpList
                have hsz' := hE'.size
                have hji : s.cells.length - i = j + 1 := by omega
                have HN := Lib.hid (fun w2 (hx : Ext wr w2) => none_any s c (.slice (some ⟨g1, o1, none⟩) s.cells.length c1) (.slice a2 s.works.length c2) (.slice none 0 0) i w2 (Er.cells.ext hx) n7 hlt)
                rw [hji] at HN
                have HH := Lib.hid (fun w2 (hx : Ext wr w2) => houses_any s c (.slice (some ⟨g1, o1, none⟩) s.cells.length c1) (.slice a2 s.works.length c2) (.slice none 0 0) i w2 (Er.cells.ext hx) HR.out n7 hlt)
                go_wp2_with (first
                  | (go_at_call 74; refine (HN.out _ (by (with_reducible (repeat (first | exact Ext.refl _ | assumption | apply Ext.alloc | apply Ext.drew | exact ext_plus _ _ | (apply Ext.setCell; rotate_left; (simp <;> omega)) | (apply Ext.trans; rotate_left; exact ext_plus _ _) | (apply Ext.trans; rotate_left; assumption)))))).mono ?_; rintro e w2 ⟨g, rfl, hgb, hgl, hb2⟩; have hg0 : w2.cell? ⟨g, 0, none⟩ = some (.int .i64 (-1)) := (by rw [hgb.cell]; simp [ints, List.replicate_succ]); have hgf := hgb.free; have hn1 : w.heap.size ≠ g := (by omega); have hn2 : g ≠ w.heap.size := (by omega); have hn3 : bs ≠ g := (by omega); have hn4 : g ≠ bs := (by omega); have hc2 := hb2.cells.1; have hq2 : bs < w'.heap.size := (by omega); have hq3 : w.heap.size < w'.heap.size := (by omega))
                  | (go_at_call 62; refine (HH.out _ (by (with_reducible (repeat (first | exact Ext.refl _ | assumption | apply Ext.alloc | apply Ext.drew | exact ext_plus _ _ | (apply Ext.setCell; rotate_left; (simp <;> omega)) | (apply Ext.trans; rotate_left; exact ext_plus _ _) | (apply Ext.trans; rotate_left; assumption)))))).mono ?_; rintro e w3 ⟨rfl, hb3⟩; have hE3 : Ext wr w3 := (by (with_reducible (repeat (first | exact Ext.refl _ | assumption | apply Ext.alloc | apply Ext.drew | exact ext_plus _ _ | (apply Ext.setCell; rotate_left; (simp <;> omega)) | (apply Ext.trans; rotate_left; exact ext_plus _ _) | (apply Ext.trans; rotate_left; assumption))))); have hb3s := hE3.size; have hb2s := hBr.size)
                  | (at_builtin; refine wpList_append_own _ rfl _ _ 119 rfl (w1.heap.size) 102 i0 (.agg #[.int .i64 0, .int .i64 0, .slice none 0 0]) 3 40 Try.underlying119 hi hz0 hz1 hz2 rfl (by decide) _ _ _ rfl ((own_ext hown hE3).alloc _) ⟨w3.heap.size, 0, none⟩ 1 1 [.int .i64 (W.houses (s.cells.drop i)), .int .i64 cost, .slice (some ⟨g, 0, none⟩) (j + 1) (j + 1)] rfl rfl (cell_three _ _ _ _ _ (by simp)) (one_choice _ _ _ _ _) (by unfold maxLen; omega) (by omega) (by simp <;> omega) ?_; intro v' w1 hown' hgrow _; obtain ⟨g', cap', rfl⟩ := own_succ hown'))
                have hxs : cnd ((k : Int) - 1) = some ⟨W.houses (s.cells.drop i), cost, q :: List.replicate j (-1)⟩ := by
                  rw [← hcnd, ← HQ.out, W.cand, hcost, if_neg (show ¬ m < cost by omega), hl', if_pos HST.out, ← HDR.out]
                  have e : (s.cells.drop (i + 1)).length = j := by rw [List.length_drop]; omega
                  rw [e]
                have hownA := (own_ext hown hE3).alloc (.cells #[.int .i64 (W.houses (s.cells.drop i)), .int .i64 cost, .slice (some ⟨g, 0, none⟩) (j + 1) (j + 1)] 102)
                have hblk := own_blk hownA (by decide)
                go_roundg (gk - 1)
                case rel =>
                  refine ⟨k + 1, q + 1, L ++ [(⟨W.houses (s.cells.drop i), cost, q :: List.replicate j (-1)⟩, .slice (some ⟨g, 0, none⟩) (j + 1) (j + 1))], by omega, by go_num, by have := HQ.out; omega, ?_, by simp; omega, ?_, ?_, ?_, ?_⟩
                  · rw [List.map_append, hL, cands_some hkl' hxs]; rfl
                  · rw [flat_snoc, List.length_append]; exact hown'
                  · intro p hp
                    simp only [List.mem_append, List.mem_singleton] at hp
                    rcases hp with hp | rfl
                    · exact (((hLi p hp).ext hE3).ext ((Ext.refl _).alloc _)).grown hgrow hblk
                    · exact ((plan_ints ((hgb.set 0 (.int .i64 q)).ext hb3) rfl).ext ((Ext.refl _).alloc _)).grown hgrow hblk
                  · exact ((((hMr.ext hE3).ext ((Ext.refl _).alloc _)).grown hgrow hblk).mono (by rw [Nat.add_mul]; omega))
                  · exact ((hBr.ext hE3).alloc _).grown hgrow (own_base hownA)
                case measure => omega
              · have HG := Lib.hid (fun w' hx => hgo w' hx false (decide_eq_false hst))
                have HSI := Lib.hid (Int.not_le.1 hst)
                have hl0' : -5000 ≤ l' := by have := hwk.1; omega
                have hbd := search_bd O.work (s.cells.drop (i + 1)) l' (m - cost) (by omega)
                have HIH := fun w4 (E4 : Env s c (.slice (some ⟨g1, o1, none⟩) s.cells.length c1) (.slice a2 s.works.length c2) (.slice (some ⟨g4, o4, none⟩) s.cells.length c4) bs bm bt bf b w4) (M4 : Memo s.works s.cells w4 b (n + k * calls j)) =>
                  ih (i + 1) (by omega) l' (m - cost) (n + k * calls j) w4 hl0' hl1' (by omega) (by omega) (by have : calls (j + 1) = 1 + 4 * calls j := rfl; have h3 : k * calls j ≤ 3 * calls j := Nat.mul_le_mul_right _ (by omega); omega) E4 M4
                have hlen : (s.cells.drop (i + 1)).length ≤ 7 := by rw [List.length_drop]; omega
                obtain ⟨X, hX⟩ : ∃ X, W.search s.works (s.cells.drop (i + 1)) l' (m - cost) = X := ⟨_, rfl⟩
                rw [hX] at HIH hbd
                simp only [Int.natCast_add, Int.natCast_one] at HIH
                have hX1 := hbd.1
                have hX2 : X.houses ≤ 7 := by omega
                have hX3 := hbd.2.2.1
                have hX4 : X.cost ≤ 7000000 := by omega
                have hXl : X.plan.length ≤ 1000000 := by omega
                have hcost0 : 0 ≤ cost := by omega
                have hcost1 : cost ≤ 1000000 := by omega
                have HIH' := Lib.hid HIH
                have HXX := Lib.hid hX
                have hbf0 := Er.self.cell
                have hbf1 := Er.self.lt
                clear hst hgo HIH hX hbd
                go_wp2
                refine wp_region_ext 18 (fun _ _ d _ _ h => by cases d <;> exact h) (by kernel_rfl) (by kernel_rfl) (by kernel_rfl) (by kernel_rfl) ?_
                simp only [List.take_succ_cons, List.take_zero, List.drop_succ_cons, List.drop_zero]
                repeat (any_goals (first | quiet_step (first | (go_at_call 73; exact ext_quiet (HG.out _ (by (with_reducible (repeat (first | exact Ext.refl _ | assumption | apply Ext.alloc | apply Ext.drew | exact ext_plus _ _ | (apply Ext.setCell; rotate_left; (simp <;> omega)) | (apply Ext.trans; rotate_left; exact ext_plus _ _) | (apply Ext.trans; rotate_left; assumption)))))))) | (refine wpQuiet_step (fun K hK => ?_); go_simp; split <;> (refine hK _ ?_; clear hK K))))
                all_goals (refine wpQuiet_nil ?_; intro w' hE'; have hc' := hE'.cells.1; have hf' := hE'.cells.2)
                have hmr := hMr.mapAt
                unfold wpList
                go_wp2_with (first
                  | (go_at_call 72; refine (HIH'.out _ (Er.but (hE'.but b) hmr) (hMr.ext hE')).mono ?_; rintro e w4 ⟨v4, rfl, hv4, hM4, hB4⟩; have hv4' := hv4; obtain ⟨⟨a5, c5, rfl, _⟩, _⟩ := hv4'; have HV4 := Lib.hid hv4; clear hv4))
                obtain ⟨w5, hw5⟩ : ∃ w5, w4.alloc (.cells #[.int .i64 X.houses, .int .i64 X.cost, .slice a5 X.plan.length c5] 102) = w5 := ⟨_, rfl⟩
                have hb16 : Blk w5 w4.heap.size #[.int .i64 X.houses, .int .i64 X.cost, .slice a5 X.plan.length c5] 102 := by rw [← hw5]; exact Blk.new' rfl _ _
                have hE45 : Ext w4 w5 := by rw [← hw5]; (with_reducible (repeat (first | exact Ext.refl _ | assumption | apply Ext.alloc | apply Ext.drew | exact ext_plus _ _ | (apply Ext.setCell; rotate_left; (simp <;> omega)) | (apply Ext.trans; rotate_left; exact ext_plus _ _) | (apply Ext.trans; rotate_left; assumption))))
                have HZ5 : Hid (w5.heap.size = w4.heap.size + 1) := by show _ = _; rw [← hw5]; simp
                have hz5 : w4.heap.size < w5.heap.size := by have := HZ5.out; omega
                have hwc : IntKind.wrap .i64 (X.cost + cost) = X.cost + cost := IntWalk.i64_in _ (by omega)
                have HV5 := Lib.hid (HV4.out.ext hE45)
                rw [hw5]
                clear hw5
                go_cut [17] from 43 to 141 (fun s17 wc => ∃ b17 a6 c6, s17 = .pointer (some ⟨b17, 0, none⟩) ∧ Blk wc b17 #[.int .i64 X.houses, .int .i64 (X.cost + cost), .slice a6 (X.plan.length + 1) c6] 102 ∧ IntsB wc (.slice a6 (X.plan.length + 1) c6) (q :: X.plan) ∧ Ext w5 wc ∧ w5.heap.size ≤ b17)
                case first =>
                  go_region_held3 (fun y => (∀ o, y.cell? ⟨w4.heap.size, o, none⟩ = (#[.int .i64 X.houses, .int .i64 X.cost, .slice a5 X.plan.length c5] : Array Value)[o]?) ∧ Ext w5 y) (first | exact ⟨blk_of hb16 (by (with_reducible (repeat (first | exact Ext.refl _ | assumption | apply Ext.alloc | apply Ext.drew | exact ext_plus _ _ | (apply Ext.setCell; rotate_left; (simp <;> omega)) | (apply Ext.trans; rotate_left; exact ext_plus _ _) | (apply Ext.trans; rotate_left; assumption))))), by (with_reducible (repeat (first | exact Ext.refl _ | assumption | apply Ext.alloc | apply Ext.drew | exact ext_plus _ _ | (apply Ext.setCell; rotate_left; (simp <;> omega)) | (apply Ext.trans; rotate_left; exact ext_plus _ _) | (apply Ext.trans; rotate_left; assumption))))⟩) (first | (refine step_append_fresh _ rfl _ _ rfl _ q _ X.plan rfl rfl (by first | exact Blk.drew (Blk.new' (by simp) _ _) | exact Blk.drew ((Blk.new' (by simp) _ _).alloc _)) (HV5.out.ext (by (with_reducible (repeat (first | exact Ext.refl _ | assumption | apply Ext.alloc | apply Ext.drew | exact ext_plus _ _ | (apply Ext.setCell; rotate_left; (simp <;> omega)) | (apply Ext.trans; rotate_left; exact ext_plus _ _) | (apply Ext.trans; rotate_left; assumption)))))).1 hXl ?_; intro v5 y5 hv5 hg5; have hE5 : Ext w5 y5 := Ext.grown (by (with_reducible (repeat (first | exact Ext.refl _ | assumption | apply Ext.alloc | apply Ext.drew | exact ext_plus _ _ | (apply Ext.setCell; rotate_left; (simp <;> omega)) | (apply Ext.trans; rotate_left; exact ext_plus _ _) | (apply Ext.trans; rotate_left; assumption))))) hg5 (fun k e => by simp at e; omega); have hE5s := hE5.size; have hf1 := far_cell hg5; have hf2 := far_frozen hg5; have hv6 := hv5; obtain ⟨⟨a6, c6, rfl, _⟩, _⟩ := hv6))
                  all_goals (dsimp only [Exit.then]; go_wp2; go_meet)
                  all_goals first
                    | exact ⟨_, _, _, rfl, Blk.new' rfl _ _, hv5.ext ((Ext.refl _).alloc _), hE5.alloc _, hE5s⟩
                    | (have hB17 := Blk.far (cs := #[.int .i64 0, .int .i64 0, .slice none 0 0]) (e := 102) (b := w5.heap.size + 1) (Blk.drew (Blk.new' (by simp) _ _)) hg5 (by omega)
                       exact ⟨_, _, _, rfl, by simpa using ((hB17.set 0 (.int .i64 X.houses)).set 1 (.int .i64 (X.cost + cost))).set 2 (.slice a6 (X.plan.length + 1) c6), ((hv5.set hB17 (by decide) _).set (hB17.set 0 _) (by decide) _).set ((hB17.set 0 _).set 1 _) (by decide) _, by (with_reducible (repeat (first | exact Ext.refl _ | assumption | apply Ext.alloc | apply Ext.drew | exact ext_plus _ _ | (apply Ext.setCell; rotate_left; (simp <;> omega)) | (apply Ext.trans; rotate_left; exact ext_plus _ _) | (apply Ext.trans; rotate_left; assumption)))), by omega⟩)
                    | (have hB17 := Blk.far (cs := #[.int .i64 0, .int .i64 0, .slice none 0 0]) (e := 102) (b := w5.heap.size) (Blk.drew ((Blk.new' (by simp) _ _).alloc _)) hg5 (by omega)
                       exact ⟨_, _, _, rfl, by simpa using ((hB17.set 0 (.int .i64 X.houses)).set 1 (.int .i64 (X.cost + cost))).set 2 (.slice a6 (X.plan.length + 1) c6), ((hv5.set hB17 (by decide) _).set (hB17.set 0 _) (by decide) _).set ((hB17.set 0 _).set 1 _) (by decide) _, by (with_reducible (repeat (first | exact Ext.refl _ | assumption | apply Ext.alloc | apply Ext.drew | exact ext_plus _ _ | (apply Ext.setCell; rotate_left; (simp <;> omega)) | (apply Ext.trans; rotate_left; exact ext_plus _ _) | (apply Ext.trans; rotate_left; assumption)))), by omega⟩)
                    | skip
                case rest =>
                  obtain ⟨b17, a6, c6, rfl, hB17, hv6, hE56, hb17⟩ := hcut
                  have hB4c : But b w1 wc := (((hBr.ext hE').trans hB4).ext hE45).ext hE56
                  obtain ⟨hPc, hQc, hKc, Ec⟩ := HB1.out wc hB4c
                  have hkc0 := hKc.cell
                  have hkc1 := hKc.lt
                  obtain ⟨sp, hsp⟩ : ∃ sp, (!(s.cells[i].fl == -1) && decide (l' - s.cells[i].g ≤ s.cells[i].fl)) = sp := ⟨_, rfl⟩
                  go_upto_region 22 with (fail)
                  go_cut [133] from 43 to 141 (fun s133 wd => s133 = .bool sp ∧ wc = wd)
                  case first =>
                    by_cases hf1 : s.cells[i].fl = -1
                    · have e : sp = false := by rw [← hsp, hf1]; rfl
                      go_wp2
                      all_goals (go_meet; exact ⟨by rw [e]; first | done | rfl | simp [hf1], rfl⟩)
                    · by_cases hf2 : l' - s.cells[i].g ≤ s.cells[i].fl
                      · have e : sp = true := by rw [← hsp]; simp [hf1, hf2]
                        go_wp2
                        all_goals (go_meet; exact ⟨by rw [e]; first | done | rfl | simp [hf1], rfl⟩)
                      · have e : sp = false := by rw [← hsp]; simp [hf1, hf2]
                        go_wp2
                        all_goals (go_meet; exact ⟨by rw [e]; first | done | rfl | simp [hf1], rfl⟩)
                  case rest =>
                    obtain ⟨rfl, rfl⟩ := hcut
                    go_upto_if 133 with (fail)
                    go_cut [] from 43 to 141 (fun wd => Blk wd b17 #[.int .i64 (X.houses + (if sp then 1 else 0)), .int .i64 (X.cost + cost), .slice a6 (X.plan.length + 1) c6] 102 ∧ IntsB wd (.slice a6 (X.plan.length + 1) c6) (q :: X.plan) ∧ Ext w5 wd)
                    case first =>
                      have hcB := hB17.cell
                      have hfB := hB17.free
                      have hlB := hB17.lt
                      cases sp with
                      | true =>
                        go_wp2
                        go_meet
                        exact ⟨by simpa using hB17.set 0 (.int .i64 (X.houses + 1)), hv6.set hB17 (by decide) _, hE56.setCell (by simp; omega) _⟩
                      | false =>
                        go_wp2
                        go_meet
                        exact ⟨by simpa using hB17, hv6, hE56⟩
                    case rest =>
                      obtain ⟨hB18, hv7, hE57⟩ := hcut
                      have hBrd : But b wr wc := (((hE'.but b).trans hB4).ext hE45).ext hE57
                      have hc8 := hB18.cell
                      have hl8 := hB18.lt
                      have hb1b : b < w1.heap.size := hmap1.lt
                      have hownD := own_but hown hBrd hb1b
                      have hzw1 : w1.heap.size ≤ wc.heap.size := Nat.le_trans hBr.size hBrd.size
                      obtain ⟨hh, hhh⟩ : ∃ hh, X.houses + (if sp then 1 else 0) = hh := ⟨_, rfl⟩
                      rw [hhh] at hc8 hB18
                      have hMd := (hM4.ext hE45).ext hE57
                      have hxs : cnd ((k : Int) - 1) = some ⟨hh, X.cost + cost, q :: X.plan⟩ := by
                        rw [← hcnd, ← HQ.out, W.cand, hcost, if_neg (show ¬ m < cost by omega), hl', if_neg (show ¬ l' ≤ s.cells[i].g + (W.work s.works q).rise by have := HSI.out; omega), HXX.out, ← hhh]
                        have e : W.spared s.cells[i] l' = if sp then 1 else 0 := by
                          unfold W.spared W.hasHouse
                          rw [← hsp]
                          rfl
                        rw [e]
                      clear hhh hsp
                      go_wp2_with (first
                        | (at_builtin; refine wpList_append_own _ rfl _ _ 119 rfl (w1.heap.size) 102 i0 (.agg #[.int .i64 0, .int .i64 0, .slice none 0 0]) 3 40 Try.underlying119 hi hz0 hz1 hz2 rfl (by decide) _ _ _ rfl (hownD.alloc _) ⟨wc.heap.size, 0, none⟩ 1 1 [.int .i64 hh, .int .i64 (X.cost + cost), .slice a6 (X.plan.length + 1) c6] rfl rfl (cell_three _ _ _ _ _ (by simp)) (one_choice _ _ _ _ _) (by unfold maxLen; omega) (by omega) (by simp <;> omega) ?_; intro v' w1 hown' hgrow _; obtain ⟨g', cap', rfl⟩ := own_succ hown'))
                      have hownA := hownD.alloc (.cells #[.int .i64 hh, .int .i64 (X.cost + cost), .slice a6 (X.plan.length + 1) c6] 102)
                      have hblk := own_blk hownA (by decide)
                      go_roundg (gk - 1)
                      case rel =>
                        refine ⟨k + 1, q + 1, L ++ [(⟨hh, X.cost + cost, q :: X.plan⟩, .slice a6 (X.plan.length + 1) c6)], by omega, by go_num, by have := HQ.out; omega, ?_, by simp; omega, ?_, ?_, ?_, ?_⟩
                        · rw [List.map_append, hL, cands_some hkl' hxs]; rfl
                        · rw [flat_snoc, List.length_append]; exact hown'
                        · intro p hp
                          simp only [List.mem_append, List.mem_singleton] at hp
                          rcases hp with hp | rfl
                          · exact (((hLi p hp).but hBrd hmr).ext ((Ext.refl _).alloc _)).grown hgrow hblk
                          · exact (hv7.ext ((Ext.refl _).alloc _)).grown hgrow hblk
                        · exact (((hMd.ext ((Ext.refl _).alloc _)).grown hgrow hblk).mono (by rw [Nat.add_mul]; omega))
                        · exact ((hBr.trans hBrd).alloc _).grown hgrow (own_base hownA)
                      case measure => omega
        · have hke : k = s.works.length + 1 := by omega
          have hq2 : ¬ q < s.works.length := by omega
          have hm3 := O.m3
          have hLs : W.pick (L.map Prod.fst) = W.search s.works (s.cells.drop i) l m := by
            rw [hL, hke, List.take_of_length_le (by rw [options_len]; exact Nat.le_refl _), ← hcnd, HDR.out, W.search]
          have hch := Choices.of_own hown hLi
          have HF := first_any (L.map Prod.fst) _ wr hch (by rw [List.length_map]; omega)
          rw [hLs] at HF
          obtain ⟨S, hS⟩ : ∃ S, W.search s.works (s.cells.drop i) l m = S := ⟨_, rfl⟩
          rw [hS] at HF
          have HF' := Lib.hid HF
          have HS := Lib.hid hS
          obtain ⟨av, cv, rfl⟩ := own_slice hown
          have hpc0 := hPr.cell
          have hpc1 := hPr.lt
          have hmc0 := Er.map.cell
          have hmc1 := Er.map.lt
          clear hL hLs HF hch hq hcnd hS
          go_wp2_with (first
            | (go_at_call 75; refine HF'.out.mono ?_; rintro e w7 ⟨v7, rfl, hv7, hE7⟩; have hc7 := hE7.cells.1; have hM7 := hMr.ext hE7; have hv8 := hv7; obtain ⟨⟨a7, c7, rfl, _⟩, _⟩ := hv8; obtain ⟨D7, hown7, hD7, hall7⟩ := hM7; have hs7 := hE7.size; have k6 : w.heap.size < w7.heap.size := (by omega); have k7 : bm < w7.heap.size := (by omega); have HALL7 := Lib.hid hall7; have hb7 := hown7.lt; clear hall7)
            | (at_mapUpdate; refine wpList_mapUpdate_own _ rfl _ _ _ 114 rfl 117 102 spot_keyed Try.underlying114 RV b (n + k * calls j) D7 rfl (hown7.alloc _) (by unfold maxLen; have h3 : k * calls j ≤ 4 * calls j := Nat.mul_le_mul_right _ (by omega); have : calls (j + 1) = 1 + 4 * calls j := rfl; omega) _ _ kl rfl rfl hkl _ [] rfl ?_; intro w8 hown8 hgrow8; have hT8 := Blk.far (Blk.new w7 #[.int .i64 S.houses, .int .i64 S.cost, .slice a7 S.plan.length c7] 102) hgrow8 (by omega); have hB18 : But b w1 w8 := ((hBr.ext hE7).alloc _).trans hgrow8; have hQ8 := (HB1.out w8 hB18).2.1; have ht8 := hT8.cell; have ht9 := hT8.lt; have hq8 := hQ8.cell; have hq9 := hQ8.free; have hq10 := hQ8.lt))
          refine hR' _ _ ?_
          refine bodyPost_ret (v := choiceA S (.slice a7 S.plan.length c7)) (by simp [results, Try.results72, go_sem, *]) rfl ?_
          rw [HS.out]
          have hv9 : IntsB (w7.alloc (.cells #[.int .i64 S.houses, .int .i64 S.cost, .slice a7 S.plan.length c7] 102)) (.slice a7 S.plan.length c7) S.plan := hv7.ext (hE7.alloc _)
          have hm9 : MapAt (w7.alloc (.cells #[.int .i64 S.houses, .int .i64 S.cost, .slice a7 S.plan.length c7] 102)) b := ((hMr.mapAt).ext hE7).ext ((Ext.refl _).alloc _)
          have hM9 : Memo s.works s.cells w8 b (n + k * calls j + 1) := by
            refine Memo.put (D := D7) (i := i) (l := l) (m := m) (v := .slice a7 S.plan.length c7) hD7 (fun i l m kl h1 h2 => ?_) hm9 hkl (by rw [HS.out]; exact hv9) (by rw [HS.out]; exact hown8) hgrow8
            obtain ⟨v, g1, g2⟩ := HALL7.out i l m kl h1 h2
            exact ⟨v, g1, g2.ext ((Ext.refl _).alloc _)⟩
          have hv10 : IntsB w8 (.slice a7 S.plan.length c7) S.plan := hv9.but hgrow8 hm9
          have hne8 : (102 : Nat) ≠ 3 := by decide
          have hM11 : Memo s.works s.cells w8 b (n + calls (j + 1)) := hM9.mono (by have h3 : k * calls j ≤ 4 * calls j := Nat.mul_le_mul_right _ (by omega); have : calls (j + 1) = 1 + 4 * calls j := rfl; omega)
          exact ⟨_, rfl, ((hv10.set hQ8 (by decide) _).set (hQ8.set 0 _) (by decide) _).set ((hQ8.set 0 _).set 1 _) (by decide) _, ((hM11.set hQ8 (by decide) _).set (hQ8.set 0 _) (by decide) _).set ((hQ8.set 0 _).set 1 _) (by decide) _, (((((hE1.but b).trans hB18).set (by simp) _).set (by simp) _).set (by simp) _)⟩
end Go.Proofs.Ytmlobiajimlboaa
