/- The document's definition: the depths in a truth. -/
import Derived.Test.YtmlobiajimlboaaR4
import Derived.Deep.CutRange
namespace Go.Proofs.Ytmlobiajimlboaa
set_option linter.unusedVariables false
set_option linter.unusedSimpArgs false
open Go.RowKit
/-- How far the document's loop has come. -/
structure Run (s : W.Shore) (plan : List Int) (t : W.Truth) (k : Nat) (l : Int) (r : Bool) (A : List Int) : Prop where
  len : A.length = k
  eq : W.play s plan t = A ++ (if r then W.depths s.works l (s.cells.drop k) (plan.drop k) (t.drags.drop k) else List.replicate (s.cells.length - k) 0)
  hi : l ≤ 15000
  lo : -10000 * ((k : Int) + 1) ≤ l
theorem Run.start {s : W.Shore} {plan : List Int} {t : W.Truth} (S : Sound s plan t) : Run s plan t 0 (W.level s t) true [] :=
  ⟨rfl, by simp [W.play], (level_bd S).2, by have := (level_bd S).1; omega⟩
theorem Run.next {s : W.Shore} {plan : List Int} {t : W.Truth} {k : Nat} {l : Int} {r : Bool} {A : List Int} (h : Run s plan t k l r A) (S : Sound s plan t) (hk : k < s.cells.length) (hp : k < plan.length) (hd : k < t.drags.length) :
    Run s plan t (k + 1) (l - t.drags[k] - (W.work s.works plan[k]).calm) (r && decide (s.cells[k].g + (W.work s.works plan[k]).rise < l - t.drags[k] - (W.work s.works plan[k]).calm))
      (A ++ [if (r && decide (s.cells[k].g + (W.work s.works plan[k]).rise < l - t.drags[k] - (W.work s.works plan[k]).calm)) then l - t.drags[k] - (W.work s.works plan[k]).calm - s.cells[k].g else 0]) := by
  have hq := S.calm plan[k]
  have hdr := S.drag t.drags[k] (List.getElem_mem hd)
  have := h.hi
  have := h.lo
  refine ⟨by simp [h.len], ?_, by omega, by omega⟩
  rw [h.eq]
  cases r with
  | false =>
    have e : s.cells.length - k = (s.cells.length - (k + 1)) + 1 := by omega
    simp [e, List.replicate_succ]
  | true =>
    rw [if_pos rfl, drop_get _ hk, drop_get _ hp, drop_get _ hd, W.depths]
    by_cases hs : l - t.drags[k] - (W.work s.works plan[k]).calm ≤ s.cells[k].g + (W.work s.works plan[k]).rise
    · have hs' : ¬ (s.cells[k].g + (W.work s.works plan[k]).rise < l - t.drags[k] - (W.work s.works plan[k]).calm) := by omega
      rw [if_pos hs]
      simp [hs', List.replicate_succ]
    · have hs' : (s.cells[k].g + (W.work s.works plan[k]).rise < l - t.drags[k] - (W.work s.works plan[k]).calm) := by omega
      rw [if_neg hs]
      simp [hs']
theorem Run.end_ {s : W.Shore} {plan : List Int} {t : W.Truth} {l : Int} {r : Bool} {A : List Int} (h : Run s plan t s.cells.length l r A) : A = W.play s plan t := by
  rw [h.eq]
  cases r <;> simp [W.depths]
set_option maxRecDepth 100000 in
set_option maxHeartbeats 2000000 in
theorem rplay_any (s : W.Shore) (plan : List Int) (t : W.Truth) (vc vw vp vd : Value) (w : World) (S : Sound s plan t) (hC : Cells w vc s.cells) (hW : Works w vw s.works) (hP : Ints w vp plan) (hD : Ints w vd t.drags) :
    Calls Try.prog 20 #[shoreA s vc vw, vp, truthV t vd] w fun e w' => ∃ v, e = .returned v ∧ Ints w' v (W.play s plan t) ∧ Ext w w' ∧ (∃ a n c, v = .slice a n c) := by
  obtain ⟨a1, c1, rfl, hx1⟩ := hC
  obtain ⟨a2, c2, rfl, hx2⟩ := hW
  obtain ⟨a3, c3, rfl, hx3⟩ := hP
  obtain ⟨a4, c4, rfl, hx4⟩ := hD
  have HX1 := Lib.hid hx1
  have HX2 := Lib.hid hx2
  have HX3 := Lib.hid hx3
  have HX4 := Lib.hid hx4
  clear hx1 hx2 hx3 hx4
  have hpc := plus_cell
  obtain ⟨i0, hi, hz0, hz1, hz2⟩ := info_parts int_info
  have HLV := Lib.hid (fun w' => rlevel_any s t (.slice a1 s.cells.length c1) (.slice a2 s.works.length c2) (.slice a4 t.drags.length c4) w' S.wind.1 S.wind.2 S.fetch.1 S.fetch.2 S.loss.1 S.loss.2 S.reef.1 S.reef.2 S.tide.1 S.tide.2)
  have hn := S.cs
  have hm := S.ws
  have HS := Lib.hid S
  have hpl := S.psz
  have hdl := S.len
  have hlp : plan.length ≤ 1000000 := by omega
  have hld : t.drags.length ≤ 1000000 := by omega
  have HPL := Lib.hid hpl
  have HDL := Lib.hid hdl
  clear hpl hdl S
  go_enter Try.func20, Try.ntmps20
  go_wp2_with (first | (go_at_call 40; refine (HLV.out _).mono ?_; rintro e w' ⟨rfl, hb⟩))
  have hE0 : Ext w w' := by (with_reducible (repeat (first | exact Ext.refl _ | assumption | apply Ext.alloc | apply Ext.drew | exact ext_plus _ _ | (apply Ext.setCell; rotate_left; (simp <;> omega)) | (apply Ext.trans; rotate_left; exact ext_plus _ _) | (apply Ext.trans; rotate_left; assumption))))
  have hB0 : Blk w' w.heap.size #[.slice a1 s.cells.length c1, .slice a2 s.works.length c2, .int .i64 s.reef, .int .i64 s.ll, .int .i64 s.lh] 27 := ((Blk.new' rfl _ _).alloc _).ext hb
  have hT0 : Blk w' (w.heap.size + 1) #[.int .i64 t.wind, .int .i64 t.fetch, .int .i64 t.tide, .int .i64 t.loss, .slice a4 t.drags.length c4] 32 := (Blk.new' (by simp) _ _).ext hb
  go_loopg [7, 8, 9, 10] s.cells.length (fun gk lv rv out i wr => ∃ (k : Nat) (l : Int) (r : Bool) (A : List Int), k + gk = s.cells.length ∧ lv = .int .i64 l ∧ rv = .bool r ∧ i = .int .i64 k ∧ Run s plan t k l r A ∧ wr.ownsRow w'.heap.size 3 1 out k (A.map (Value.int .i64)) ∧ Ext w' wr)
  case atStart => exact ⟨0, _, true, [], by omega, rfl, rfl, rfl, Run.start HS.out, World.ownsRow_nil _ _ _ _, Ext.refl _⟩
  case round =>
    obtain ⟨k, l, r, A, hk, rfl, rfl, rfl, hrun, hown, hE⟩ := hrel
    have HRUN := Lib.hid hrun
    have hlo := hrun.lo
    have hhi := hrun.hi
    clear hrun
    have hBr := hB0.ext hE
    have hTr := hT0.ext hE
    have hb0 := hBr.cell
    have hb1 := hBr.lt
    have ht0 := hTr.cell
    have ht1 := hTr.lt
    by_cases hlt : k < s.cells.length
    · have hkp : k < plan.length := by rw [HPL.out]; exact hlt
      have hkd : k < t.drags.length := by rw [HDL.out]; exact hlt
      have hcE := (hE0.trans hE).cells.1
      have hsE := (hE0.trans hE).size
      obtain ⟨g1, o1, rfl, hg1, h10, h11, h12, h13⟩ := HX1.out k hlt
      obtain ⟨g3, o3, rfl, hg3, h30⟩ := HX3.out k hkp
      obtain ⟨g4, o4, rfl, hg4, h40⟩ := HX4.out k hkd
      have q1 : g1 < wr.heap.size := by omega
      have q3 : g3 < wr.heap.size := by omega
      have q4 : g4 < wr.heap.size := by omega
      have q5 : g3 < wr.heap.size + 1 := by omega
      have q6 : w.heap.size < wr.heap.size + 1 := by omega
      have q7 : w.heap.size + 1 < wr.heap.size + 1 := by omega
      have hnx := HRUN.out.next HS.out hlt hkp hkd
      have hpw := HS.out.works plan[k] (List.getElem_mem hkp)
      have hcl := HS.out.calm plan[k]
      have hri := HS.out.rise plan[k]
      have hgb := HS.out.cell s.cells[k] (List.getElem_mem hlt)
      have hdb := HS.out.drag t.drags[k] (List.getElem_mem hkd)
      obtain ⟨wk, hwk⟩ : ∃ wk, W.work s.works plan[k] = wk := ⟨_, rfl⟩
      rw [hwk] at hnx hcl hri
      have HNX := Lib.hid hnx
      obtain ⟨p, hp⟩ : ∃ p, plan[k] = p := ⟨_, rfl⟩
      rw [hp] at h30 hpw hwk
      clear hnx hp
      go_upto_if 28 with (fail)
      go_cut [] from 16 to 73 (fun wc => ∃ b11, Blk wc b11 #[.int .i64 wk.rise, .int .i64 wk.calm, .int .i64 wk.cost] 65 ∧ b11 = wr.heap.size ∧ Ext wr wc)
      case first =>
        by_cases hq0 : 0 ≤ p
        · obtain ⟨j, rfl⟩ := Int.eq_ofNat_of_zero_le hq0
          have hjl : j < s.works.length := by omega
          have hwj : wk = s.works[j] := by rw [← hwk]; simp [W.work, hjl]
          obtain ⟨g2, o2, rfl, hg2, k1, k2, k3⟩ := HX2.out j hjl
          have q2 : g2 < wr.heap.size := by omega
          have q8 : g2 < wr.heap.size + 1 := by omega
          have q9 : wr.heap.size < wr.heap.size + 1 := by omega
          have hBn := Blk.new wr #[.int .i64 0, .int .i64 0, .int .i64 0] 65
          clear hwk
          go_wp2
          refine wp_region_ext 8 (fun _ _ d _ _ h => by cases d <;> exact h) (by kernel_rfl) (by kernel_rfl) (by kernel_rfl) (by kernel_rfl) ?_
          simp only [List.take_succ_cons, List.take_zero, List.drop_succ_cons, List.drop_zero]
          repeat (any_goals (first | quiet_step (fail) | (refine wpQuiet_step (fun K hK => ?_); go_simp; split <;> (refine hK _ ?_; clear hK K))))
          all_goals (refine wpQuiet_nil ?_; intro w2 hE2)
          have hB2 := hBn.ext hE2
          have hb2 := hB2.cell
          have hf2 := hB2.free
          have hl2 := hB2.lt
          go_wp2
          go_meet
          rw [hwj]
          exact ⟨_, by simpa using ((hB2.set 0 (.int .i64 s.works[j].rise)).set 1 (.int .i64 s.works[j].calm)).set 2 (.int .i64 s.works[j].cost), rfl, by (with_reducible (repeat (first | exact Ext.refl _ | assumption | apply Ext.alloc | apply Ext.drew | exact ext_plus _ _ | (apply Ext.setCell; rotate_left; (simp <;> omega)) | (apply Ext.trans; rotate_left; exact ext_plus _ _) | (apply Ext.trans; rotate_left; assumption))))⟩
        · obtain rfl : p = -1 := by omega
          have hwj : wk = W.noWork := by rw [← hwk]; rfl
          clear hwk
          go_wp2
          go_meet
          rw [hwj]
          exact ⟨_, Blk.new' rfl _ _, rfl, by (with_reducible (repeat (first | exact Ext.refl _ | assumption | apply Ext.alloc | apply Ext.drew | exact ext_plus _ _ | (apply Ext.setCell; rotate_left; (simp <;> omega)) | (apply Ext.trans; rotate_left; exact ext_plus _ _) | (apply Ext.trans; rotate_left; assumption))))⟩
      case rest =>
        obtain ⟨b11, hB11, rfl, hEc⟩ := hcut
        clear hwk
        have hcw := hB11.cell
        have hlw := hB11.lt
        have hcc := hEc.cells.1
        have p1 : g1 < wc.heap.size := by omega
        have p4 : g4 < wc.heap.size := by omega
        have p5 : w.heap.size < wc.heap.size := by omega
        have p6 : w.heap.size + 1 < wc.heap.size := by omega
        obtain ⟨l', hl'⟩ : ∃ l', l - t.drags[k] - wk.calm = l' := ⟨_, rfl⟩
        have hl1 : l' ≤ 15000 := by omega
        have hl2 : -20000000000 ≤ l' := by omega
        have hw1 : IntKind.wrap .i64 (l - t.drags[k]) = l - t.drags[k] := IntWalk.i64_in _ (by omega)
        have hw2 : IntKind.wrap .i64 (l - t.drags[k] - wk.calm) = l' := by rw [hl']; exact IntWalk.i64_in _ (by omega)
        have hw3 : IntKind.wrap .i64 (s.cells[k].g + wk.rise) = s.cells[k].g + wk.rise := IntWalk.i64_in _ (by omega)
        have hw4 : IntKind.wrap .i64 (l' - s.cells[k].g) = l' - s.cells[k].g := IntWalk.i64_in _ (by omega)
        rw [hl'] at HNX
        clear hl'
        go_wp2
        refine wp_region_ext 11 (fun _ _ d _ _ h => by cases d <;> exact h) (by kernel_rfl) (by kernel_rfl) (by kernel_rfl) (by kernel_rfl) ?_
        simp only [List.take_succ_cons, List.take_zero, List.drop_succ_cons, List.drop_zero]
        repeat (any_goals (first | quiet_step (fail) | (refine wpQuiet_step (fun K hK => ?_); go_simp; split <;> (refine hK _ ?_; clear hK K))))
        all_goals (refine wpQuiet_nil ?_; intro w3 hE3)
        have hc3 := hE3.cells.1
        have hs3 := hE3.size
        have r1 : g1 < w3.heap.size := by omega
        have r2 : w.heap.size < w3.heap.size := by omega
        have r3 : wr.heap.size < w3.heap.size := by omega
        unfold wpList
        go_wp2
        cases r with
        | false =>
          refine wp_region_ext 15 (fun _ _ d _ _ h => by cases d <;> exact h) (by kernel_rfl) (by kernel_rfl) (by kernel_rfl) (by kernel_rfl) ?_
          simp only [List.take_succ_cons, List.take_zero, List.drop_succ_cons, List.drop_zero]
          repeat (any_goals (first | go_big_quiet_step (fail) | quiet_step (fail) | (refine wpQuiet_step (fun K hK => ?_); go_simp; split <;> (refine hK _ ?_; clear hK K))))
          all_goals (refine wpQuiet_nil ?_; intro w4 hE4')
          have hE4 : Ext wr w4 := (hEc.trans hE3).trans hE4'
          have hc4 := hE4'.cells.1
          have hs4 := hE4.size
          have hsw := hE.size
          unfold wpList
          go_wp2_with (first | (at_builtin; refine wpList_append_own _ rfl _ _ 30 rfl (w'.heap.size) 3 i0 (.int .i64 0) 1 8 Try.underlying30 hi hz0 hz1 hz2 rfl (by decide) _ _ _ rfl ((own_ext hown hE4).alloc _) ⟨w4.heap.size, 0, none⟩ 1 1 [.int .i64 (0)] rfl rfl (cell_one _ _ _ (by simp)) (one_int _) (by unfold maxLen; omega) (by omega) (by simp <;> omega) ?_; intro v' w1 hown' hgrow _; obtain ⟨g', cap', rfl⟩ := own_succ hown'))
          go_roundg (gk - 1)
          case rel =>
            refine ⟨k + 1, l', false, A ++ [0], by omega, rfl, rfl, by go_num, ?_, ?_, ((hE.trans hE4).alloc _).grown hgrow (own_base hown)⟩
            · simpa using HNX.out
            · rw [List.map_append]; exact hown'
          case measure => omega
        | true =>
          by_cases hs : s.cells[k].g + wk.rise < l'
          · have HNY : Hid (Run s plan t (k + 1) l' true (A ++ [l' - s.cells[k].g])) := by
              have h := HNX.out; rw [decide_eq_true hs] at h; exact h
            refine wp_region_ext 15 (fun _ _ d _ _ h => by cases d <;> exact h) (by kernel_rfl) (by kernel_rfl) (by kernel_rfl) (by kernel_rfl) ?_
            simp only [List.take_succ_cons, List.take_zero, List.drop_succ_cons, List.drop_zero]
            repeat (any_goals (first | go_big_quiet_step (fail) | quiet_step (fail) | (refine wpQuiet_step (fun K hK => ?_); go_simp; split <;> (refine hK _ ?_; clear hK K))))
            all_goals (refine wpQuiet_nil ?_; intro w4 hE4')
            have hE4 : Ext wr w4 := (hEc.trans hE3).trans hE4'
            have hc4 := hE4'.cells.1
            have hs4 := hE4.size
            have hsw := hE.size
            unfold wpList
            go_wp2_with (first | (at_builtin; refine wpList_append_own _ rfl _ _ 30 rfl (w'.heap.size) 3 i0 (.int .i64 0) 1 8 Try.underlying30 hi hz0 hz1 hz2 rfl (by decide) _ _ _ rfl ((own_ext hown hE4).alloc _) ⟨w4.heap.size, 0, none⟩ 1 1 [.int .i64 ((l' - s.cells[k].g))] rfl rfl (cell_one _ _ _ (by simp)) (one_int _) (by unfold maxLen; omega) (by omega) (by simp <;> omega) ?_; intro v' w1 hown' hgrow _; obtain ⟨g', cap', rfl⟩ := own_succ hown'))
            go_roundg (gk - 1)
            case rel =>
              refine ⟨k + 1, l', true, A ++ [(l' - s.cells[k].g)], by omega, rfl, rfl, by go_num, ?_, ?_, ((hE.trans hE4).alloc _).grown hgrow (own_base hown)⟩
              · exact HNY.out
              · rw [List.map_append]; exact hown'
            case measure => omega
          · have HNY : Hid (Run s plan t (k + 1) l' false (A ++ [0])) := by
              have h := HNX.out; rw [decide_eq_false hs] at h; exact h
            refine wp_region_ext 15 (fun _ _ d _ _ h => by cases d <;> exact h) (by kernel_rfl) (by kernel_rfl) (by kernel_rfl) (by kernel_rfl) ?_
            simp only [List.take_succ_cons, List.take_zero, List.drop_succ_cons, List.drop_zero]
            repeat (any_goals (first | go_big_quiet_step (fail) | quiet_step (fail) | (refine wpQuiet_step (fun K hK => ?_); go_simp; split <;> (refine hK _ ?_; clear hK K))))
            all_goals (refine wpQuiet_nil ?_; intro w4 hE4')
            have hE4 : Ext wr w4 := (hEc.trans hE3).trans hE4'
            have hc4 := hE4'.cells.1
            have hs4 := hE4.size
            have hsw := hE.size
            unfold wpList
            go_wp2_with (first | (at_builtin; refine wpList_append_own _ rfl _ _ 30 rfl (w'.heap.size) 3 i0 (.int .i64 0) 1 8 Try.underlying30 hi hz0 hz1 hz2 rfl (by decide) _ _ _ rfl ((own_ext hown hE4).alloc _) ⟨w4.heap.size, 0, none⟩ 1 1 [.int .i64 (0)] rfl rfl (cell_one _ _ _ (by simp)) (one_int _) (by unfold maxLen; omega) (by omega) (by simp <;> omega) ?_; intro v' w1 hown' hgrow _; obtain ⟨g', cap', rfl⟩ := own_succ hown'))
            go_roundg (gk - 1)
            case rel =>
              refine ⟨k + 1, l', false, A ++ [0], by omega, rfl, rfl, by go_num, ?_, ?_, ((hE.trans hE4).alloc _).grown hgrow (own_base hown)⟩
              · exact HNY.out
              · rw [List.map_append]; exact hown'
            case measure => omega
    · obtain ⟨av, cv, rfl⟩ := own_slice hown
      have hk' : k = s.cells.length := by omega
      have hnlt : ¬ (k : Int) < (s.cells.length : Int) := by omega
      have HK := Lib.hid hk'
      clear hk'
      go_wp2
      have e := HK.out
      subst e
      have e2 := HRUN.out.end_
      rw [← e2]
      have hlA := HRUN.out.len
      refine bodyPost_ret (v := .slice av s.cells.length cv) (by simp [results, Try.results20, go_sem]) rfl ⟨_, rfl, ?_, hE0.trans hE, ⟨_, _, _, rfl⟩⟩
      refine Ints.of_own (base := w'.heap.size) ?_
      rw [hlA]; exact hown
end Go.Proofs.Ytmlobiajimlboaa
