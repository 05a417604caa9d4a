/- The document's definition: plans, truths. -/
import Derived.Test.YtmlobiajimlboaaR1
import Derived.Test.YtmlobiajimlboaaPlain5
namespace Go.Proofs.Ytmlobiajimlboaa
set_option linter.unusedVariables false
set_option linter.unusedSimpArgs false
open Go.RowKit
set_option maxRecDepth 100000 in
set_option maxHeartbeats 2000000 in
theorem rplan_any (s : W.Shore) (plan : List Int) (vc vw vp : Value) (w : World) (hC : Cells w vc s.cells) (hW : Works w vw s.works) (hP : Ints w vp plan) (hn : s.cells.length ≤ 1000000) (hm : s.works.length ≤ 1000000) (hp : plan.length ≤ 1000000) :
    Calls Try.prog 46 #[shoreA s vc vw, vp] w fun e w' => e = .returned (.bool (W.planB s plan)) ∧ Ext w w' := by
  obtain ⟨a1, c1, rfl, _⟩ := hC
  obtain ⟨a2, c2, rfl, _⟩ := hW
  obtain ⟨a3, c3, rfl, hx3⟩ := hP
  have HX3 := Lib.hid hx3
  clear hx3
  have hpc := plus_cell
  have hwr : IntKind.wrap .i64 ((s.works.length : Int) - 1) = (s.works.length : Int) - 1 := IntWalk.i64_in _ (by omega)
  go_enter Try.func46, Try.ntmps46
  go_wp2
  go_loopw [5] (fun i wr => ∃ k : Nat, k ≤ plan.length ∧ i = .int .i64 k ∧ (∀ (j : Nat) (h : j < plan.length), j < k → W.within plan[j] (-1) (s.works.length - 1) = true) ∧ Blk wr w.heap.size #[.slice a1 s.cells.length c1, .slice a2 s.works.length c2, .int .i64 s.reef, .int .i64 s.ll, .int .i64 s.lh] 27 ∧ Ext w wr)
    (fun i _ => plan.length - (intOf i).toNat)
  case atStart => exact ⟨0, Nat.zero_le _, rfl, (fun j _ h => by omega), Blk.new' rfl _ _, by (with_reducible (repeat (first | exact Ext.refl _ | assumption | apply Ext.alloc | apply Ext.drew | exact ext_plus _ _ | (apply Ext.setCell; rotate_left; (simp <;> omega)) | (apply Ext.trans; rotate_left; exact ext_plus _ _) | (apply Ext.trans; rotate_left; assumption))))⟩
  case round =>
    obtain ⟨k, hk, rfl, hall, hB, hE⟩ := hrel
    have HALL := Lib.hid hall
    clear hall
    have hb0 := hB.cell
    have hb1 := hB.lt
    by_cases hlt : k < plan.length
    · obtain ⟨g, o, rfl, hg, h0⟩ := HX3.out k hlt
      have hc := hE.cells.1
      have hsz := hE.size
      have hgw : g < wr.heap.size := by omega
      obtain ⟨ok, hok⟩ : ∃ ok, W.within plan[k] (-1) (s.works.length - 1) = ok := ⟨_, rfl⟩
      have hi := rin_any plan[k] (-1) (s.works.length - 1)
      rw [hok] at hi
      have HI := Lib.hid hi
      have HOK := Lib.hid hok
      clear hi hok
      cases ok with
      | true =>
        go_wp2
        refine wp_region_ext 10 (fun _ _ d _ _ h => by cases d <;> exact h) (by kernel_rfl) (by kernel_rfl) (by kernel_rfl) (by kernel_rfl) ?_
        simp only [List.take_succ_cons, List.take_zero, List.drop_succ_cons, List.drop_zero]
        repeat (any_goals (first | quiet_step (first | (go_at_call 55; exact same_quiet (HI.out _))) | (refine wpQuiet_step (fun K hK => ?_); go_simp; split <;> (refine hK _ ?_; clear hK K))))
        all_goals (refine wpQuiet_nil ?_; intro w' hE')
        unfold wpList
        go_wp2
        go_roundw
        case rel => exact ⟨k + 1, by omega, by go_num, (fun j h hj => by
          by_cases hjk : j = k
          · subst hjk; exact HOK.out
          · exact HALL.out j h (by omega)), hB.ext hE', hE.trans hE'⟩
        case measure => simp [intOf]; omega
      | false =>
        have hpb : W.planB s plan = false := by
          unfold W.planB
          have : plan.all (fun p => W.within p (-1) (s.works.length - 1)) = false := by
            rw [List.all_eq_false]
            refine ⟨_, List.getElem_mem hlt, ?_⟩
            rw [HOK.out]; simp
          rw [this]; rfl
        have HPB := Lib.hid hpb
        clear hpb
        go_wp2
        refine wp_region_ext 10 (fun _ _ d _ _ h => by cases d <;> exact h) (by kernel_rfl) (by kernel_rfl) (by kernel_rfl) (by kernel_rfl) ?_
        simp only [List.take_succ_cons, List.take_zero, List.drop_succ_cons, List.drop_zero]
        repeat (any_goals (first | quiet_step (first | (go_at_call 55; exact same_quiet (HI.out _))) | (refine wpQuiet_step (fun K hK => ?_); go_simp; split <;> (refine hK _ ?_; clear hK K))))
        all_goals (refine wpQuiet_nil ?_; intro w' hE')
        unfold wpList
        go_wp2
        go_ret
        exact ⟨ret_bool (Eq.symm HPB.out), by (with_reducible (repeat (first | exact Ext.refl _ | assumption | apply Ext.alloc | apply Ext.drew | exact ext_plus _ _ | (apply Ext.setCell; rotate_left; (simp <;> omega)) | (apply Ext.trans; rotate_left; exact ext_plus _ _) | (apply Ext.trans; rotate_left; assumption))))⟩
    · have hpa : plan.all (fun p => W.within p (-1) (s.works.length - 1)) = true := by
        rw [List.all_eq_true]
        intro x hx
        obtain ⟨j, hj, rfl⟩ := List.getElem_of_mem hx
        exact HALL.out j hj (by omega)
      have HPA := Lib.hid hpa
      clear HALL HX3 hpa
      go_wp2
      go_ret
      refine ⟨ret_bool ?_, by (with_reducible (repeat (first | exact Ext.refl _ | assumption | apply Ext.alloc | apply Ext.drew | exact ext_plus _ _ | (apply Ext.setCell; rotate_left; (simp <;> omega)) | (apply Ext.trans; rotate_left; exact ext_plus _ _) | (apply Ext.trans; rotate_left; assumption))))⟩
      unfold W.planB
      rw [HPA.out, Bool.eq_iff_iff]
      simp <;> omega
set_option maxRecDepth 100000 in
set_option maxHeartbeats 2000000 in
theorem rtruth_any (s : W.Shore) (c : W.Storm) (t : W.Truth) (vc vw vd : Value) (w : World) (hC : Cells w vc s.cells) (hD : Ints w vd t.drags) (hn : s.cells.length ≤ 1000000) (hd : t.drags.length ≤ 1000000) :
    Calls Try.prog 18 #[shoreA s vc vw, stormA c, truthV t vd] w fun e w' => e = .returned (.bool (W.truthB s c t)) ∧ Ext w w' := by
  obtain ⟨a1, c1, rfl, hx1⟩ := hC
  obtain ⟨a4, c4, rfl, hx4⟩ := hD
  have HX1 := Lib.hid hx1
  have HX4 := Lib.hid hx4
  clear hx1 hx4
  have hpc := plus_cell
  by_cases hlen : t.drags.length = s.cells.length
  · have HLEN := Lib.hid hlen
    have hne : ((t.drags.length : Int) != (s.cells.length : Int)) = false := by simp; omega
    clear hlen
    go_enter Try.func18, Try.ntmps18
    go_wp2
    go_loopw [7] (fun i wr => ∃ k : Nat, k ≤ t.drags.length ∧ i = .int .i64 k ∧ (∀ (j : Nat) (h1 : j < s.cells.length) (h2 : j < t.drags.length), j < k → W.within t.drags[j] s.cells[j].dl s.cells[j].dh = true) ∧ Blk wr w.heap.size #[.slice a1 s.cells.length c1, vw, .int .i64 s.reef, .int .i64 s.ll, .int .i64 s.lh] 27 ∧ Blk wr (w.heap.size + 1) #[.int .i64 c.wl, .int .i64 c.wh, .int .i64 c.fl, .int .i64 c.fh, .int .i64 c.tl, .int .i64 c.th] 29 ∧ Blk wr (w.heap.size + 1 + 1) #[.int .i64 t.wind, .int .i64 t.fetch, .int .i64 t.tide, .int .i64 t.loss, .slice a4 t.drags.length c4] 32 ∧ Ext w wr)
      (fun i _ => t.drags.length - (intOf i).toNat)
    case atStart => exact ⟨0, Nat.zero_le _, rfl, (fun j _ _ h => by omega), ((Blk.new' rfl _ _).alloc _).alloc _, (Blk.new' (by simp) _ _).alloc _, Blk.new' (by simp) _ _, by (with_reducible (repeat (first | exact Ext.refl _ | assumption | apply Ext.alloc | apply Ext.drew | exact ext_plus _ _ | (apply Ext.setCell; rotate_left; (simp <;> omega)) | (apply Ext.trans; rotate_left; exact ext_plus _ _) | (apply Ext.trans; rotate_left; assumption))))⟩
    case round =>
      obtain ⟨k, hk, rfl, hall, hB, hS, hT, hE⟩ := hrel
      have HALL := Lib.hid hall
      clear hall
      have hb0 := hB.cell
      have hb1 := hB.lt
      have hs0 := hS.cell
      have hs1 := hS.lt
      have ht0 := hT.cell
      have ht1 := hT.lt
      by_cases hlt : k < t.drags.length
      · have hlt1 : k < s.cells.length := by have := HLEN.out; omega
        obtain ⟨g, o, rfl, hg, h0⟩ := HX4.out k hlt
        obtain ⟨g', o', rfl, hg', k0, k1, k2, k3⟩ := HX1.out k hlt1
        have hc := hE.cells.1
        have hsz := hE.size
        have hgw : g < wr.heap.size := by omega
        have hgw' : g' < wr.heap.size := by omega
        obtain ⟨ok, hok⟩ : ∃ ok, W.within t.drags[k] s.cells[k].dl s.cells[k].dh = ok := ⟨_, rfl⟩
        have hi := rin_any t.drags[k] s.cells[k].dl s.cells[k].dh
        rw [hok] at hi
        have HI := Lib.hid hi
        have HOK := Lib.hid hok
        clear hi hok
        cases ok with
        | true =>
          go_wp2
          refine wp_region_ext 21 (fun _ _ d _ _ h => by cases d <;> exact h) (by kernel_rfl) (by kernel_rfl) (by kernel_rfl) (by kernel_rfl) ?_
          simp only [List.take_succ_cons, List.take_zero, List.drop_succ_cons, List.drop_zero]
          repeat (any_goals (first | quiet_step (first | (go_at_call 55; exact same_quiet (HI.out _))) | (refine wpQuiet_step (fun K hK => ?_); go_simp; split <;> (refine hK _ ?_; clear hK K))))
          all_goals (refine wpQuiet_nil ?_; intro w' hE')
          unfold wpList
          go_wp2
          go_roundw
          case rel => exact ⟨k + 1, by omega, by go_num, (fun j h h' hj => by
            by_cases hjk : j = k
            · subst hjk; exact HOK.out
            · exact HALL.out j h h' (by omega)), hB.ext hE', hS.ext hE', hT.ext hE', hE.trans hE'⟩
          case measure => simp [intOf]; omega
        | false =>
          have hpb : W.truthB s c t = false := by
            cases e : W.dragsB s.cells t.drags with
            | true => have := W.dragsB_at e k hlt1 hlt; rw [HOK.out] at this; cases this
            | false => simp [W.truthB, e]
          have HPB := Lib.hid hpb
          clear hpb
          go_wp2
          refine wp_region_ext 21 (fun _ _ d _ _ h => by cases d <;> exact h) (by kernel_rfl) (by kernel_rfl) (by kernel_rfl) (by kernel_rfl) ?_
          simp only [List.take_succ_cons, List.take_zero, List.drop_succ_cons, List.drop_zero]
          repeat (any_goals (first | quiet_step (first | (go_at_call 55; exact same_quiet (HI.out _))) | (refine wpQuiet_step (fun K hK => ?_); go_simp; split <;> (refine hK _ ?_; clear hK K))))
          all_goals (refine wpQuiet_nil ?_; intro w' hE')
          unfold wpList
          go_wp2
          go_ret
          exact ⟨ret_bool (Eq.symm HPB.out), by (with_reducible (repeat (first | exact Ext.refl _ | assumption | apply Ext.alloc | apply Ext.drew | exact ext_plus _ _ | (apply Ext.setCell; rotate_left; (simp <;> omega)) | (apply Ext.trans; rotate_left; exact ext_plus _ _) | (apply Ext.trans; rotate_left; assumption))))⟩
      · have hda := W.dragsB_of HLEN.out (fun j h1 h2 => HALL.out j h1 h2 (by omega))
        have HDA := Lib.hid hda
        clear HALL HX1 HX4 hda
        go_wp2_with (first | (go_at_call 55; refine (rin_any _ _ _ _).mono ?_; rintro e w' ⟨rfl, rfl⟩))
        all_goals
          go_ret
          refine ⟨ret_bool ?_, by (with_reducible (repeat (first | exact Ext.refl _ | assumption | apply Ext.alloc | apply Ext.drew | exact ext_plus _ _ | (apply Ext.setCell; rotate_left; (simp <;> omega)) | (apply Ext.trans; rotate_left; exact ext_plus _ _) | (apply Ext.trans; rotate_left; assumption))))⟩
          unfold W.truthB
          rw [HDA.out]
          simp [*]
  · have hpb : W.truthB s c t = false := by
      cases e : W.dragsB s.cells t.drags with
      | true => exact absurd (W.dragsB_len e) hlen
      | false => simp [W.truthB, e]
    have HPB := Lib.hid hpb
    have hne : ((t.drags.length : Int) != (s.cells.length : Int)) = true := by simp; omega
    clear hpb hlen
    go_enter Try.func18, Try.ntmps18
    go_wp2
    go_ret
    exact ⟨ret_bool (Eq.symm HPB.out), by (with_reducible (repeat (first | exact Ext.refl _ | assumption | apply Ext.alloc | apply Ext.drew | exact ext_plus _ _ | (apply Ext.setCell; rotate_left; (simp <;> omega)) | (apply Ext.trans; rotate_left; exact ext_plus _ _) | (apply Ext.trans; rotate_left; assumption))))⟩
end Go.Proofs.Ytmlobiajimlboaa
