/- The public Best and Spare. -/
import Derived.Test.YtmlobiajimlboaaD12
namespace Go.Proofs.Ytmlobiajimlboaa
set_option linter.unusedVariables false
set_option linter.unusedSimpArgs false
open Go.RowKit
def foundOf (s : W.Shore) (c : W.Storm) (m : Int) : W.Choice := W.search s.works s.cells (W.level s (W.worst s c)) m
/-- The best plan, its cost, the error. -/
def bestOf (s : W.Shore) (c : W.Storm) : List Int × Int × Int :=
  if W.okB s c then (if (foundOf s c 7000000).houses < W.houses s.cells then ([], 0, 5) else ((foundOf s c 7000000).plan, (foundOf s c 7000000).cost, 0)) else ([], 0, 2)
def spareB (s : W.Shore) (c : W.Storm) (m : Int) : Bool := W.okB s c && W.within m 0 7000000
def spareOf (s : W.Shore) (c : W.Storm) (m : Int) : List Int × Int × Int × Int :=
  if spareB s c m then ((foundOf s c m).plan, (foundOf s c m).houses, (foundOf s c m).cost, 0) else ([], 0, 0, 2)
set_option maxRecDepth 100000 in
set_option maxHeartbeats 2000000 in
theorem bestQ_any (s : W.Shore) (c : W.Storm) (vc vw : Value) (hR : Room vc) (w : World) (hC : Cells w vc s.cells) (hW : Works w vw s.works) (hn : s.cells.length ≤ 1000000) (hm : s.works.length ≤ 1000000) :
    Calls Try.prog 26 #[shoreA s vc vw, stormA c] w fun e w' => ∃ v, e = .returned (.tuple #[v, .int .i64 (bestOf s c).2.1, .int .i64 (bestOf s c).2.2]) ∧ Ints w' v (bestOf s c).1 ∧ Ext w w' := by
  have hC' := hC
  have hW' := hW
  have HR := Lib.hid hR
  obtain ⟨a1, c1, rfl, _⟩ := hC'
  obtain ⟨a2, c2, rfl, _⟩ := hW'
  clear hR
  obtain ⟨ok, hok⟩ : ∃ ok, W.okB s c = ok := ⟨_, rfl⟩
  have hg := fun w' hx => valid_any s c _ _ w' (hC.ext hx) (hW.ext hx) hn hm
  have ew : bestOf s c = if ok then (if (foundOf s c 7000000).houses < W.houses s.cells then ([], 0, 5) else ((foundOf s c 7000000).plan, (foundOf s c 7000000).cost, 0)) else ([], 0, 2) := by unfold bestOf; rw [hok]
  rw [hok] at hg
  have HG := Lib.hid hg
  clear hg
  rw [ew]
  clear ew
  cases ok with
  | false =>
    clear hok
    go_enter Try.func26, Try.ntmps26
    go_wp2_with (first | (go_at_call 58; refine (HG.out _ (by (with_reducible (repeat (first | exact Ext.refl _ | assumption | apply Ext.alloc | apply Ext.drew | exact ext_plus _ _ | (apply Ext.setCell; rotate_left; (simp <;> omega)) | (apply Ext.trans; rotate_left; exact ext_plus _ _) | (apply Ext.trans; rotate_left; assumption)))))).mono ?_; rintro e w' ⟨rfl, hb⟩; have hc := hb.cells.1; have hz := hb.size; (try simp only [World.size_alloc, size_drew, size_drewN, size_setCell] at hz); have hs0 : w.heap.size < w'.heap.size := (by omega); have hs1 : w.heap.size + 1 < w'.heap.size := (by omega)))
    refine bodyPost_ret (v := .tuple #[.slice none 0 0, .int .i64 0, .int .i64 2]) (by simp [results, Try.results26, go_sem]) rfl ⟨_, rfl, Ints.nil _, ?_⟩
    (with_reducible show Ext _ _; (with_reducible (repeat (first | exact Ext.refl _ | assumption | apply Ext.alloc | apply Ext.drew | exact ext_plus _ _ | (apply Ext.setCell; rotate_left; (simp <;> omega)) | (apply Ext.trans; rotate_left; exact ext_plus _ _) | (apply Ext.trans; rotate_left; assumption)))); done)
  | true =>
    have O := W.ok_iff hok
    have n1 := O.n1
    have hsp := fun w' (hx : Ext w w') => spare_any s c O _ _ HR.out 7000000 (by omega) (by omega) w' (hC.ext hx) (hW.ext hx)
    have hho := fun w' (hx : Ext w w') => houses_any s c _ (.slice a2 s.works.length c2) (.slice none 0 0) 0 w' (hC.ext hx) HR.out O.n7 n1
    rw [List.drop_zero] at hho
    change ∀ w' : World, Ext w w' → _ at hsp
    obtain ⟨S, hS⟩ : ∃ S, foundOf s c 7000000 = S := ⟨_, rfl⟩
    have hS' : W.search s.works s.cells (W.level s (W.worst s c)) 7000000 = S := hS
    rw [hS'] at hsp
    rw [hS]
    obtain ⟨nh, hnh⟩ : ∃ nh, W.houses s.cells = nh := ⟨_, rfl⟩
    rw [hnh] at hho ⊢
    have HSP := Lib.hid hsp
    have HHO := Lib.hid hho
    have hpc := plus_cell
    clear hok hsp hho hS hS' hnh n1
    simp only [if_true]
    by_cases hlt : S.houses < nh
    · rw [if_pos hlt]
      go_enter Try.func26, Try.ntmps26
      go_wp2_with (first | (go_at_call 58; refine (HG.out _ (by (with_reducible (repeat (first | exact Ext.refl _ | assumption | apply Ext.alloc | apply Ext.drew | exact ext_plus _ _ | (apply Ext.setCell; rotate_left; (simp <;> omega)) | (apply Ext.trans; rotate_left; exact ext_plus _ _) | (apply Ext.trans; rotate_left; assumption)))))).mono ?_; rintro e w' ⟨rfl, hb⟩; have hc := hb.cells.1; have hz := hb.size; (try simp only [World.size_alloc, size_drew, size_drewN, size_setCell] at hz); have hs0 : w.heap.size < w'.heap.size := (by omega); have hs1 : w.heap.size + 1 < w'.heap.size := (by omega)) | (go_at_call 61; refine (HSP.out _ (by (with_reducible (repeat (first | exact Ext.refl _ | assumption | apply Ext.alloc | apply Ext.drew | exact ext_plus _ _ | (apply Ext.setCell; rotate_left; (simp <;> omega)) | (apply Ext.trans; rotate_left; exact ext_plus _ _) | (apply Ext.trans; rotate_left; assumption)))))).mono ?_; rintro e w2 ⟨v2, rfl, hv2, hb2⟩; obtain ⟨a7, c7, rfl, _⟩ := hv2; have hb8 := (Blk.new w' #[.slice a1 s.cells.length c1, .slice a2 s.works.length c2, .int .i64 s.reef, .int .i64 s.ll, .int .i64 s.lh, .int .i64 c.wl, .int .i64 c.wh, .int .i64 c.fl, .int .i64 c.fh, .int .i64 c.tl, .int .i64 c.th, .slice none 0 0] 91).ext hb2; have hb9 := hb8.cell; have hb10 := hb8.lt))
      have hE02 : Ext w w2 := by (with_reducible (repeat (first | exact Ext.refl _ | assumption | apply Ext.alloc | apply Ext.drew | exact ext_plus _ _ | (apply Ext.setCell; rotate_left; (simp <;> omega)) | (apply Ext.trans; rotate_left; exact ext_plus _ _) | (apply Ext.trans; rotate_left; assumption))))
      refine wp_region_ext 5 (fun _ _ d _ _ h => by cases d <;> exact h) (by kernel_rfl) (by kernel_rfl) (by kernel_rfl) (by kernel_rfl) ?_
      simp only [List.take_succ_cons, List.take_zero, List.drop_succ_cons, List.drop_zero]
      repeat (any_goals (first | quiet_step (first | (go_at_call 62; exact ext_quiet (HHO.out _ (by (with_reducible (repeat (first | exact Ext.refl _ | assumption | apply Ext.alloc | apply Ext.drew | exact ext_plus _ _ | (apply Ext.setCell; rotate_left; (simp <;> omega)) | (apply Ext.trans; rotate_left; exact ext_plus _ _) | (apply Ext.trans; rotate_left; assumption)))))))) | (refine wpQuiet_step (fun K hK => ?_); go_simp; split <;> (refine hK _ ?_; clear hK K))))
      all_goals (refine wpQuiet_nil ?_; intro w3 hE3; have hc3 := hE3.cells.1; have hf3 := hE3.cells.2)
      unfold wpList
      go_wp2
      refine bodyPost_ret (v := .tuple #[.slice none 0 0, .int .i64 0, .int .i64 5]) (by simp [results, Try.results26, go_sem]) rfl ⟨_, rfl, Ints.nil _, ?_⟩
      (with_reducible show Ext _ _; (with_reducible (repeat (first | exact Ext.refl _ | assumption | apply Ext.alloc | apply Ext.drew | exact ext_plus _ _ | (apply Ext.setCell; rotate_left; (simp <;> omega)) | (apply Ext.trans; rotate_left; exact ext_plus _ _) | (apply Ext.trans; rotate_left; assumption)))); done)
    · rw [if_neg hlt]
      go_enter Try.func26, Try.ntmps26
      go_wp2_with (first | (go_at_call 58; refine (HG.out _ (by (with_reducible (repeat (first | exact Ext.refl _ | assumption | apply Ext.alloc | apply Ext.drew | exact ext_plus _ _ | (apply Ext.setCell; rotate_left; (simp <;> omega)) | (apply Ext.trans; rotate_left; exact ext_plus _ _) | (apply Ext.trans; rotate_left; assumption)))))).mono ?_; rintro e w' ⟨rfl, hb⟩; have hc := hb.cells.1; have hz := hb.size; (try simp only [World.size_alloc, size_drew, size_drewN, size_setCell] at hz); have hs0 : w.heap.size < w'.heap.size := (by omega); have hs1 : w.heap.size + 1 < w'.heap.size := (by omega)) | (go_at_call 61; refine (HSP.out _ (by (with_reducible (repeat (first | exact Ext.refl _ | assumption | apply Ext.alloc | apply Ext.drew | exact ext_plus _ _ | (apply Ext.setCell; rotate_left; (simp <;> omega)) | (apply Ext.trans; rotate_left; exact ext_plus _ _) | (apply Ext.trans; rotate_left; assumption)))))).mono ?_; rintro e w2 ⟨v2, rfl, hv2, hb2⟩; obtain ⟨a7, c7, rfl, _⟩ := hv2; have hb8 := (Blk.new w' #[.slice a1 s.cells.length c1, .slice a2 s.works.length c2, .int .i64 s.reef, .int .i64 s.ll, .int .i64 s.lh, .int .i64 c.wl, .int .i64 c.wh, .int .i64 c.fl, .int .i64 c.fh, .int .i64 c.tl, .int .i64 c.th, .slice none 0 0] 91).ext hb2; have hb9 := hb8.cell; have hb10 := hb8.lt; have hv3 : Ints w2 (.slice a7 S.plan.length c7) S.plan := ⟨a7, c7, rfl, by assumption⟩))
      have hE02 : Ext w w2 := by (with_reducible (repeat (first | exact Ext.refl _ | assumption | apply Ext.alloc | apply Ext.drew | exact ext_plus _ _ | (apply Ext.setCell; rotate_left; (simp <;> omega)) | (apply Ext.trans; rotate_left; exact ext_plus _ _) | (apply Ext.trans; rotate_left; assumption))))
      refine wp_region_ext 5 (fun _ _ d _ _ h => by cases d <;> exact h) (by kernel_rfl) (by kernel_rfl) (by kernel_rfl) (by kernel_rfl) ?_
      simp only [List.take_succ_cons, List.take_zero, List.drop_succ_cons, List.drop_zero]
      repeat (any_goals (first | quiet_step (first | (go_at_call 62; exact ext_quiet (HHO.out _ (by (with_reducible (repeat (first | exact Ext.refl _ | assumption | apply Ext.alloc | apply Ext.drew | exact ext_plus _ _ | (apply Ext.setCell; rotate_left; (simp <;> omega)) | (apply Ext.trans; rotate_left; exact ext_plus _ _) | (apply Ext.trans; rotate_left; assumption)))))))) | (refine wpQuiet_step (fun K hK => ?_); go_simp; split <;> (refine hK _ ?_; clear hK K))))
      all_goals (refine wpQuiet_nil ?_; intro w3 hE3; have hc3 := hE3.cells.1; have hf3 := hE3.cells.2)
      unfold wpList
      go_wp2
      have hl3 : w2.heap.size < w3.heap.size := by have := hE3.size; simp only [World.size_alloc] at this; omega
      refine wp_region_ext 7 (fun _ _ d _ _ h => by cases d <;> exact h) (by kernel_rfl) (by kernel_rfl) (by kernel_rfl) (by kernel_rfl) ?_
      simp only [List.take_succ_cons, List.take_zero, List.drop_succ_cons, List.drop_zero]
      repeat (any_goals (first | quiet_step (fail) | (refine wpQuiet_step (fun K hK => ?_); go_simp; split <;> (refine hK _ ?_; clear hK K))))
      all_goals (refine wpQuiet_nil ?_; intro w4 hE4)
      unfold wpList
      go_wp2
      have hE24 : Ext w2 w4 := Ext.trans (Ext.trans ((Ext.refl w2).alloc _) hE3) hE4
      exact bodyPost_ret (v := .tuple #[.slice a7 S.plan.length c7, .int .i64 S.cost, .int .i64 0]) (by simp [results, Try.results26, go_sem]) rfl ⟨_, rfl, hv3.ext hE24, hE02.trans hE24⟩
set_option maxRecDepth 100000 in
set_option maxHeartbeats 2000000 in
theorem spareQ_any (s : W.Shore) (c : W.Storm) (m : Int) (vc vw : Value) (hR : Room vc) (w : World) (hC : Cells w vc s.cells) (hW : Works w vw s.works) (hn : s.cells.length ≤ 1000000) (hm : s.works.length ≤ 1000000) :
    Calls Try.prog 27 #[shoreA s vc vw, stormA c, .int .i64 m] w fun e w' => ∃ v, e = .returned (.tuple #[v, .int .i64 (spareOf s c m).2.1, .int .i64 (spareOf s c m).2.2.1, .int .i64 (spareOf s c m).2.2.2]) ∧ Ints w' v (spareOf s c m).1 ∧ Ext w w' := by
  have hC' := hC
  have hW' := hW
  have HR := Lib.hid hR
  obtain ⟨a1, c1, rfl, _⟩ := hC'
  obtain ⟨a2, c2, rfl, _⟩ := hW'
  clear hR
  obtain ⟨ok, hok⟩ : ∃ ok, W.okB s c = ok := ⟨_, rfl⟩
  obtain ⟨wi, hwi⟩ : ∃ wi, W.within m 0 7000000 = wi := ⟨_, rfl⟩
  have hg := fun w' hx => valid_any s c _ _ w' (hC.ext hx) (hW.ext hx) hn hm
  have ew : spareOf s c m = if ok && wi then ((foundOf s c m).plan, (foundOf s c m).houses, (foundOf s c m).cost, 0) else ([], 0, 0, 2) := by unfold spareOf spareB; rw [hok, hwi]
  rw [hok] at hg
  have hi := in_any m 0 7000000
  rw [hwi] at hi
  have HG := Lib.hid hg
  have HI := Lib.hid hi
  clear hg hi
  rw [ew]
  clear ew
  by_cases hb : (ok && wi) = true
  · rw [if_pos hb]
    simp only [Bool.and_eq_true] at hb
    obtain ⟨rfl, rfl⟩ := hb
    have O := W.ok_iff hok
    have hwb := W.within_iff.1 hwi
    have hsp := fun w' (hx : Ext w w') => spare_any s c O _ _ HR.out m hwb.1 hwb.2 w' (hC.ext hx) (hW.ext hx)
    obtain ⟨S, hS⟩ : ∃ S, foundOf s c m = S := ⟨_, rfl⟩
    have hS' : W.search s.works s.cells (W.level s (W.worst s c)) m = S := hS
    rw [hS'] at hsp
    rw [hS]
    have HSP := Lib.hid hsp
    have hpc := plus_cell
    clear hok hsp hS hS' hwi hwb
    go_enter Try.func27, Try.ntmps27
    go_wp2_with (first | (go_at_call 58; refine (HG.out _ (by (with_reducible (repeat (first | exact Ext.refl _ | assumption | apply Ext.alloc | apply Ext.drew | exact ext_plus _ _ | (apply Ext.setCell; rotate_left; (simp <;> omega)) | (apply Ext.trans; rotate_left; exact ext_plus _ _) | (apply Ext.trans; rotate_left; assumption)))))).mono ?_; rintro e w' ⟨rfl, hb⟩; have hc := hb.cells.1; have hz := hb.size; (try simp only [World.size_alloc, size_drew, size_drewN, size_setCell] at hz); have hs0 : w.heap.size < w'.heap.size := (by omega); have hs1 : w.heap.size + 1 < w'.heap.size := (by omega)) | (go_at_call 53; refine (HI.out _).mono ?_; rintro e w' ⟨rfl, rfl⟩) | (go_at_call 61; refine (HSP.out _ (by (with_reducible (repeat (first | exact Ext.refl _ | assumption | apply Ext.alloc | apply Ext.drew | exact ext_plus _ _ | (apply Ext.setCell; rotate_left; (simp <;> omega)) | (apply Ext.trans; rotate_left; exact ext_plus _ _) | (apply Ext.trans; rotate_left; assumption)))))).mono ?_; rintro e w2 ⟨v2, rfl, hv2, hb2⟩; have hv3 := Lib.hid hv2; obtain ⟨a7, c7, rfl, _⟩ := hv2))
    have hE02 : Ext w w2 := by (with_reducible (repeat (first | exact Ext.refl _ | assumption | apply Ext.alloc | apply Ext.drew | exact ext_plus _ _ | (apply Ext.setCell; rotate_left; (simp <;> omega)) | (apply Ext.trans; rotate_left; exact ext_plus _ _) | (apply Ext.trans; rotate_left; assumption))))
    refine wp_region_ext 10 (fun _ _ d _ _ h => by cases d <;> exact h) (by kernel_rfl) (by kernel_rfl) (by kernel_rfl) (by kernel_rfl) ?_
    simp only [List.take_succ_cons, List.take_zero, List.drop_succ_cons, List.drop_zero]
    repeat (any_goals (first | quiet_step (fail) | (refine wpQuiet_step (fun K hK => ?_); go_simp; split <;> (refine hK _ ?_; clear hK K))))
    all_goals (refine wpQuiet_nil ?_; intro w4 hE4)
    unfold wpList
    go_wp2
    have hE24 : Ext w2 w4 := Ext.trans ((Ext.refl w2).alloc _) hE4
    exact bodyPost_ret (v := .tuple #[.slice a7 S.plan.length c7, .int .i64 S.houses, .int .i64 S.cost, .int .i64 0]) (by simp [results, Try.results27, go_sem]) rfl ⟨_, rfl, hv3.out.ext hE24, hE02.trans hE24⟩
  · rw [if_neg hb]
    clear hok hwi
    have hcs : ok = false ∨ (ok = true ∧ wi = false) := by cases ok <;> cases wi <;> simp_all
    clear hb
    rcases hcs with rfl | ⟨rfl, rfl⟩
    all_goals
      go_enter Try.func27, Try.ntmps27
      go_wp2_with (first | (go_at_call 58; refine (HG.out _ (by (with_reducible (repeat (first | exact Ext.refl _ | assumption | apply Ext.alloc | apply Ext.drew | exact ext_plus _ _ | (apply Ext.setCell; rotate_left; (simp <;> omega)) | (apply Ext.trans; rotate_left; exact ext_plus _ _) | (apply Ext.trans; rotate_left; assumption)))))).mono ?_; rintro e w' ⟨rfl, hb⟩; have hc := hb.cells.1; have hz := hb.size; (try simp only [World.size_alloc, size_drew, size_drewN, size_setCell] at hz); have hs0 : w.heap.size < w'.heap.size := (by omega); have hs1 : w.heap.size + 1 < w'.heap.size := (by omega)) | (go_at_call 53; refine (HI.out _).mono ?_; rintro e w' ⟨rfl, rfl⟩))
      refine bodyPost_ret (v := .tuple #[.slice none 0 0, .int .i64 0, .int .i64 0, .int .i64 2]) (by simp [results, Try.results27, go_sem]) rfl ⟨_, rfl, Ints.nil _, ?_⟩
      (with_reducible show Ext _ _; (with_reducible (repeat (first | exact Ext.refl _ | assumption | apply Ext.alloc | apply Ext.drew | exact ext_plus _ _ | (apply Ext.setCell; rotate_left; (simp <;> omega)) | (apply Ext.trans; rotate_left; exact ext_plus _ _) | (apply Ext.trans; rotate_left; assumption)))); done)
end Go.Proofs.Ytmlobiajimlboaa
