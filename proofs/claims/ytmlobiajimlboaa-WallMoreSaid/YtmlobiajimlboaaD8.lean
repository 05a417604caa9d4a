/- The public Level. -/
import Derived.Test.YtmlobiajimlboaaD5
namespace Go.Proofs.Ytmlobiajimlboaa
set_option linter.unusedVariables false
set_option linter.unusedSimpArgs false
open Go.RowKit
def levelOf (s : W.Shore) (c : W.Storm) : Int × Int := if W.okB s c then (W.level s (W.best s c), W.level s (W.worst s c)) else (0, 0)
theorem level_bd2 {s : W.Shore} {t : W.Truth} (hw : 0 ≤ t.wind ∧ t.wind ≤ 1000) (hf : 0 ≤ t.fetch ∧ t.fetch ≤ 10000) (ht : -5000 ≤ t.tide ∧ t.tide ≤ 5000) (hl : 0 ≤ t.loss ∧ t.loss ≤ 1000) : -5000 ≤ W.level s t ∧ W.level s t ≤ 15000 := by
  have a := W.mul_bd hw.1 hw.2 hf.1 hf.2
  have b := W.reefN_bd hl.1 hl.2 s.reef.toNat (n := t.wind * t.fetch / 1000) (by omega)
  unfold W.level W.wave
  omega
namespace W.Ok
variable {s : W.Shore} {c : W.Storm} (h : W.Ok s c)
include h
theorem wind1 : 0 ≤ (W.best s c).wind ∧ (W.best s c).wind ≤ 1000 := by have := h.wind; simp only [W.best]; omega
theorem wind2 : 0 ≤ (W.worst s c).wind ∧ (W.worst s c).wind ≤ 1000 := by have := h.wind; simp only [W.worst]; omega
theorem fetch1 : 0 ≤ (W.best s c).fetch ∧ (W.best s c).fetch ≤ 10000 := by have := h.fetch; simp only [W.best]; omega
theorem fetch2 : 0 ≤ (W.worst s c).fetch ∧ (W.worst s c).fetch ≤ 10000 := by have := h.fetch; simp only [W.worst]; omega
theorem tide1 : -5000 ≤ (W.best s c).tide ∧ (W.best s c).tide ≤ 5000 := by have := h.tide; simp only [W.best]; omega
theorem tide2 : -5000 ≤ (W.worst s c).tide ∧ (W.worst s c).tide ≤ 5000 := by have := h.tide; simp only [W.worst]; omega
theorem loss1 : 0 ≤ (W.best s c).loss ∧ (W.best s c).loss ≤ 1000 := by have := h.loss; simp only [W.best]; omega
theorem loss2 : 0 ≤ (W.worst s c).loss ∧ (W.worst s c).loss ≤ 1000 := by have := h.loss; simp only [W.worst]; omega
end W.Ok
set_option maxRecDepth 100000 in
set_option maxHeartbeats 2000000 in
theorem levelQ_any (s : W.Shore) (c : W.Storm) (vc vw : Value) (w : World) (hC : Cells w vc s.cells) (hW : Works w vw s.works) (hn : s.cells.length ≤ 1000000) (hm : s.works.length ≤ 1000000) :
    Calls Try.prog 24 #[shoreA s vc vw, stormA c] w fun e w' => e = .returned (.tuple #[.agg #[.int .i64 (levelOf s c).1, .int .i64 (levelOf s c).2], .int .i64 (codeOf (W.okB s c))]) ∧ Ext w w' := by
  have hC' := hC
  have hW' := hW
  obtain ⟨a1, c1, rfl, _⟩ := hC'
  obtain ⟨a2, c2, rfl, _⟩ := hW'
  obtain ⟨ok, hok⟩ : ∃ ok, W.okB s c = ok := ⟨_, rfl⟩
  have HG := Lib.hid (fun w' hx => valid_any s c _ _ w' (hC.ext hx) (hW.ext hx) hn hm)
  have ew : levelOf s c = if ok then (W.level s (W.best s c), W.level s (W.worst s c)) else (0, 0) := by unfold levelOf; rw [hok]
  rw [hok] at HG
  rw [ew]
  have hcode : codeOf (W.okB s c) = codeOf ok := by rw [hok]
  rw [hcode]
  clear ew hcode
  cases ok with
  | false =>
    clear hok
    go_enter Try.func24, Try.ntmps24
    go_wp2_with (first | (go_at_call 58; refine (HG.out _ (by (with_reducible (repeat (first | exact Ext.refl _ | assumption | apply Ext.alloc | apply Ext.drew | exact ext_plus _ _ | (apply Ext.setCell; rotate_left; (simp <;> omega)) | (apply Ext.trans; rotate_left; exact ext_plus _ _) | (apply Ext.trans; rotate_left; assumption)))))).mono ?_; rintro e w' ⟨rfl, hb⟩; have hb1 : Blk w' (w.heap.size + 1 + 1) #[.int .i64 0, .int .i64 0] 25 := Blk.ext (Blk.new' (by simp) _ _) hb; have hc := hb.cells.1; have hz := hb.size; (try simp only [World.size_alloc, size_drew, size_drewN, size_setCell] at hz); have hs0 : w.heap.size < w'.heap.size := (by omega); have hs1 : w.heap.size + 1 < w'.heap.size := (by omega); have hs2 : w.heap.size + 2 < w'.heap.size := (by omega); have hfb1 := hb1.free; have hcb1 := hb1.cell))
    refine bodyPost_ret (v := .tuple #[.agg #[.int .i64 0, .int .i64 0], .int .i64 2]) (by simp [results, Try.results24, go_sem, *]) rfl ⟨rfl, ?_⟩
    (with_reducible show Ext _ _; (with_reducible (repeat (first | exact Ext.refl _ | assumption | apply Ext.alloc | apply Ext.drew | exact ext_plus _ _ | (apply Ext.setCell; rotate_left; (simp <;> omega)) | (apply Ext.trans; rotate_left; exact ext_plus _ _) | (apply Ext.trans; rotate_left; assumption)))); done)
  | true =>
    have hO := W.ok_iff hok
    clear hok
    go_enter Try.func24, Try.ntmps24
    go_wp2_with (first | (go_at_call 58; refine (HG.out _ (by (with_reducible (repeat (first | exact Ext.refl _ | assumption | apply Ext.alloc | apply Ext.drew | exact ext_plus _ _ | (apply Ext.setCell; rotate_left; (simp <;> omega)) | (apply Ext.trans; rotate_left; exact ext_plus _ _) | (apply Ext.trans; rotate_left; assumption)))))).mono ?_; rintro e w' ⟨rfl, hb⟩; have hb1 : Blk w' (w.heap.size + 1 + 1) #[.int .i64 0, .int .i64 0] 25 := Blk.ext (Blk.new' (by simp) _ _) hb; have hc := hb.cells.1; have hz := hb.size; (try simp only [World.size_alloc, size_drew, size_drewN, size_setCell] at hz); have hs0 : w.heap.size < w'.heap.size := (by omega); have hs1 : w.heap.size + 1 < w'.heap.size := (by omega); have hs2 : w.heap.size + 2 < w'.heap.size := (by omega); have hfb1 := hb1.free; have hcb1 := hb1.cell))
    have hix0 : ∀ (f g : Fn) (A B : Array Value) (w : World), (Instr.index 98 (.agg #[.func f A #[], .func g B #[]]) (.int .i64 0)).run Try.prog w = .ok (.func f A #[]) w := fun _ _ _ _ _ => by kernel_rfl
    have hix1 : ∀ (f g : Fn) (A B : Array Value) (w : World), (Instr.index 98 (.agg #[.func f A #[], .func g B #[]]) (.int .i64 1)).run Try.prog w = .ok (.func g B #[]) w := fun _ _ _ _ _ => by kernel_rfl
    have hbB := level_bd2 (s := s) (t := W.best s c) hO.wind1 hO.fetch1 hO.tide1 hO.loss1
    have hbW := level_bd2 (s := s) (t := W.worst s c) hO.wind2 hO.fetch2 hO.tide2 hO.loss2
    have HLVbest : Hid (IntKind.wrap .i64 ((W.best s c).tide + W.wave s (W.best s c)) = W.level s (W.best s c)) := by
      unfold W.level at hbB; exact IntWalk.i64_in _ (by omega)
    have HLVworst : Hid (IntKind.wrap .i64 ((W.worst s c).tide + W.wave s (W.worst s c)) = W.level s (W.worst s c)) := by
      unfold W.level at hbW; exact IntWalk.i64_in _ (by omega)
    have hreef := hO.reef
    have HWVbest := Lib.hid (fun x0 x1 x2 x3 x4 x5 x6 x7 x8 x9 x10 y w => wave_any s (W.best s c) x0 x1 x2 x3 x4 x5 x6 x7 x8 x9 x10 y w hO.wind1.1 hO.wind1.2 hO.fetch1.1 hO.fetch1.2 hO.loss1.1 hO.loss1.2 hreef.1 (by omega))
    have HWVworst := Lib.hid (fun x0 x1 x2 x3 x4 x5 x6 x7 x8 x9 x10 y w => wave_any s (W.worst s c) x0 x1 x2 x3 x4 x5 x6 x7 x8 x9 x10 y w hO.wind2.1 hO.wind2.2 hO.fetch2.1 hO.fetch2.2 hO.loss2.1 hO.loss2.2 hreef.1 (by omega))
    have hpc := plus_cell
    have hE0 : Ext w w' := by (with_reducible (repeat (first | exact Ext.refl _ | assumption | apply Ext.alloc | apply Ext.drew | exact ext_plus _ _ | (apply Ext.setCell; rotate_left; (simp <;> omega)) | (apply Ext.trans; rotate_left; exact ext_plus _ _) | (apply Ext.trans; rotate_left; assumption))))
    have Hbest := Lib.hid (fun y (hx : Ext w' y) => best_any s c _ (.slice a2 s.works.length c2) (.slice none 0 0) y (hC.ext (hE0.trans hx)) hn)
    have Hworst := Lib.hid (fun y (hx : Ext w' y) => worst_any s c _ (.slice a2 s.works.length c2) (.slice none 0 0) y (hC.ext (hE0.trans hx)) hn)
    clear hbB hbW hreef HG
    go_loopw [24] (fun i wr => ∃ k : Nat, k ≤ 2 ∧ i = .int .i64 k ∧ Blk wr w'.heap.size #[.slice a1 s.cells.length c1, .slice a2 s.works.length c2, .int .i64 s.reef, .int .i64 s.ll, .int .i64 s.lh, .int .i64 c.wl, .int .i64 c.wh, .int .i64 c.fl, .int .i64 c.fh, .int .i64 c.tl, .int .i64 c.th, .slice none 0 0] 91 ∧ Blk wr (w'.heap.size + 1) #[.int .i64 (if 1 ≤ k then W.level s (W.best s c) else 0), .int .i64 (if 2 ≤ k then W.level s (W.worst s c) else 0)] 97 ∧ Ext w' wr)
      (fun i _ => 2 - (intOf i).toNat)
    case atStart => exact ⟨0, by omega, rfl, (Blk.new' rfl _ _).alloc _, Blk.new' (by simp) _ _, by (with_reducible (repeat (first | exact Ext.refl _ | assumption | apply Ext.alloc | apply Ext.drew | exact ext_plus _ _ | (apply Ext.setCell; rotate_left; (simp <;> omega)) | (apply Ext.trans; rotate_left; exact ext_plus _ _) | (apply Ext.trans; rotate_left; assumption))))⟩
    case round =>
      obtain ⟨k, hk, rfl, hX6, hXA, hEk⟩ := hrel
      rcases (show k = 0 ∨ k = 1 ∨ k = 2 by omega) with hk0 | hk0 | hk0
      · simp only [hk0, show ¬ (1 ≤ 0) by omega, show ¬ (2 ≤ 0) by omega, if_false] at hXA
        obtain rfl : k = 0 := by omega
        have hcx := hX6.cell
        have hlx := hX6.lt
        have hca := hXA.cell
        have hfa := hXA.free
        have hla := hXA.lt
        have hsz := hEk.size
        go_wp2_with (first | (go_at_call 56; refine (Hbest.out _ (by (with_reducible (repeat (first | exact Ext.refl _ | assumption | apply Ext.alloc | apply Ext.drew | exact ext_plus _ _ | (apply Ext.setCell; rotate_left; (simp <;> omega)) | (apply Ext.trans; rotate_left; exact ext_plus _ _) | (apply Ext.trans; rotate_left; assumption)))))).mono ?_; rintro e y1 ⟨vd1, rfl, hv1, hy1, _⟩; obtain ⟨vs, vk, rfl, _⟩ := hv1; have hX6' := hX6.ext hy1; have hXA' := hXA.ext hy1; have hcx' := hX6'.cell; have hca' := hXA'.cell; have hfa' := hXA'.free; have hlx' := hX6'.lt; have hla' := hXA'.lt; have hsy := hy1.size; have q7 : w'.heap.size < y1.heap.size + 1 := (by omega)))
        refine wp_region_ext 8 (fun _ _ d _ _ h => by cases d <;> exact h) (by kernel_rfl) (by kernel_rfl) (by kernel_rfl) (by kernel_rfl) ?_
        simp only [List.take_succ_cons, List.take_zero, List.drop_succ_cons, List.drop_zero]
        repeat (any_goals (first | quiet_step (first | (go_at_call 59; exact ext_quiet (HWVbest.out _ _ _ _ _ _ _ _ _ _ _ _ _))) | (refine wpQuiet_step (fun K hK => ?_); go_simp; split <;> (refine hK _ ?_; clear hK K))))
        all_goals (refine wpQuiet_nil ?_; intro y2 hE2)
        rw [HLVbest.out]
        have hXA2 := (hXA'.alloc _).ext hE2
        have hX62 := (hX6'.alloc _).ext hE2
        have hca2 := hXA2.cell
        have hfa2 := hXA2.free
        have hla2 := hXA2.lt
        go_wp2
        go_roundw
        case rel => exact ⟨1, by omega, by go_num, hX62.other (by show w'.heap.size + 1 ≠ w'.heap.size; omega) _, by have h9 := hXA2.set 0 (.int .i64 (W.level s (W.best s c))); simpa using h9, (Ext.trans ((hEk.trans hy1).alloc _) hE2).setCell (by show w'.heap.size ≤ w'.heap.size + 1; omega) _⟩
        case measure => simp [intOf]
      · simp only [hk0, show (1 ≤ 1) by omega, show ¬ (2 ≤ 1) by omega, if_false, if_true] at hXA
        obtain rfl : k = 1 := by omega
        have hcx := hX6.cell
        have hlx := hX6.lt
        have hca := hXA.cell
        have hfa := hXA.free
        have hla := hXA.lt
        have hsz := hEk.size
        go_wp2_with (first | (go_at_call 57; refine (Hworst.out _ (by (with_reducible (repeat (first | exact Ext.refl _ | assumption | apply Ext.alloc | apply Ext.drew | exact ext_plus _ _ | (apply Ext.setCell; rotate_left; (simp <;> omega)) | (apply Ext.trans; rotate_left; exact ext_plus _ _) | (apply Ext.trans; rotate_left; assumption)))))).mono ?_; rintro e y1 ⟨vd1, rfl, hv1, hy1, _⟩; obtain ⟨vs, vk, rfl, _⟩ := hv1; have hX6' := hX6.ext hy1; have hXA' := hXA.ext hy1; have hcx' := hX6'.cell; have hca' := hXA'.cell; have hfa' := hXA'.free; have hlx' := hX6'.lt; have hla' := hXA'.lt; have hsy := hy1.size; have q7 : w'.heap.size < y1.heap.size + 1 := (by omega)))
        refine wp_region_ext 8 (fun _ _ d _ _ h => by cases d <;> exact h) (by kernel_rfl) (by kernel_rfl) (by kernel_rfl) (by kernel_rfl) ?_
        simp only [List.take_succ_cons, List.take_zero, List.drop_succ_cons, List.drop_zero]
        repeat (any_goals (first | quiet_step (first | (go_at_call 59; exact ext_quiet (HWVworst.out _ _ _ _ _ _ _ _ _ _ _ _ _))) | (refine wpQuiet_step (fun K hK => ?_); go_simp; split <;> (refine hK _ ?_; clear hK K))))
        all_goals (refine wpQuiet_nil ?_; intro y2 hE2)
        rw [HLVworst.out]
        have hXA2 := (hXA'.alloc _).ext hE2
        have hX62 := (hX6'.alloc _).ext hE2
        have hca2 := hXA2.cell
        have hfa2 := hXA2.free
        have hla2 := hXA2.lt
        go_wp2
        go_roundw
        case rel => exact ⟨2, by omega, by go_num, hX62.other (by show w'.heap.size + 1 ≠ w'.heap.size; omega) _, by have h9 := hXA2.set 1 (.int .i64 (W.level s (W.worst s c))); simpa using h9, (Ext.trans ((hEk.trans hy1).alloc _) hE2).setCell (by show w'.heap.size ≤ w'.heap.size + 1; omega) _⟩
        case measure => simp [intOf]
      · simp only [hk0, show (1 ≤ 2) by omega, show (2 ≤ 2) by omega, if_true] at hXA
        obtain rfl : k = 2 := by omega
        have hca := hXA.cell
        have hla := hXA.lt
        have hb2 := hb1.ext hEk
        have hcr := hb2.cell
        have hfr := hb2.free
        have hlr := hb2.lt
        go_wp2
        refine bodyPost_ret (v := .tuple #[.agg #[.int .i64 (W.level s (W.best s c)), .int .i64 (W.level s (W.worst s c))], .int .i64 0]) (by simp [results, Try.results24, go_sem, *]) rfl ⟨rfl, ?_⟩
        exact ((hE0.trans hEk).setCell (by simp <;> omega) _).setCell (by simp <;> omega) _
end Go.Proofs.Ytmlobiajimlboaa
