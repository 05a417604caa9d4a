/- The public Worst. -/
import Derived.Test.YtmlobiajimlboaaD3
namespace Go.Proofs.Ytmlobiajimlboaa
set_option linter.unusedVariables false
set_option linter.unusedSimpArgs false
open Go.RowKit
def zeroTruth : W.Truth := ⟨0, 0, 0, 0, []⟩
def worstOf (s : W.Shore) (c : W.Storm) : W.Truth := if W.okB s c then W.worst s c else zeroTruth
set_option maxRecDepth 100000 in
set_option maxHeartbeats 2000000 in
theorem worstQ_any (s : W.Shore) (c : W.Storm) (vc vw : Value) (w : World) (hC : Cells w vc s.cells) (hW : Works w vw s.works) (hn : s.cells.length ≤ 1000000) (hm : s.works.length ≤ 1000000) :
    Calls Try.prog 36 #[shoreA s vc vw, stormA c] w fun e w' => ∃ vd, e = .returned (.tuple #[truthV (worstOf s c) vd, .int .i64 (codeOf (W.okB s c))]) ∧ Ints w' vd (worstOf s c).drags ∧ Ext w w' := by
  have hC' := hC
  have hW' := hW
  obtain ⟨a1, c1, rfl, hx1⟩ := hC'
  obtain ⟨a2, c2, rfl, _⟩ := hW'
  obtain ⟨ok, hok⟩ : ∃ ok, W.okB s c = ok := ⟨_, rfl⟩
  have HG := Lib.hid (fun w' hx => valid_any s c _ _ w' (hC.ext hx) (hW.ext hx) hn hm)
  rw [hok] at HG ⊢
  have ew : worstOf s c = if ok then W.worst s c else zeroTruth := by unfold worstOf; rw [hok]
  rw [ew]
  clear ew hok
  cases ok with
  | true =>
    simp only [if_true]
    go_enter Try.func36, Try.ntmps36
    go_wp2_with (first | (go_at_call 58; refine (HG.out _ (by (with_reducible (repeat (first | exact Ext.refl _ | assumption | apply Ext.alloc | apply Ext.drew | exact ext_plus _ _ | (apply Ext.setCell; rotate_left; (simp <;> omega)) | (apply Ext.trans; rotate_left; exact ext_plus _ _) | (apply Ext.trans; rotate_left; assumption)))))).mono ?_; rintro e w' ⟨rfl, hb⟩; have hb1 : Blk w' (w.heap.size + 1 + 1) #[.int .i64 0, .int .i64 0, .int .i64 0, .int .i64 0, .slice none 0 0] 32 := Blk.ext (Blk.new' (by simp) _ _) hb; have hc := hb.cells.1; have hz := hb.size; (try simp only [World.size_alloc, size_drew, size_drewN, size_setCell] at hz); have hs0 : w.heap.size < w'.heap.size := (by omega); have hs1 : w.heap.size + 1 < w'.heap.size := (by omega); have hs2 : w.heap.size + 2 < w'.heap.size := (by omega); have hfb1 := hb1.free; have hcb1 := hb1.cell) | (go_at_call 57; refine (worst_any s c _ _ _ _ (hC.ext (by (with_reducible (repeat (first | exact Ext.refl _ | assumption | apply Ext.alloc | apply Ext.drew | exact ext_plus _ _ | (apply Ext.setCell; rotate_left; (simp <;> omega)) | (apply Ext.trans; rotate_left; exact ext_plus _ _) | (apply Ext.trans; rotate_left; assumption)))))) hn).mono ?_; rintro e w2 ⟨vd, rfl, hv, hb2, hfr⟩; obtain ⟨av, cv, rfl, hvx⟩ := hv; have hb3 := Blk.ext hb1 hb2; have hfb2 := hb3.free; have hcb2 := hb3.cell; have hlb2 := hb3.lt))
    refine bodyPost_ret (v := .tuple #[truthV (W.worst s c) (.slice av (W.worst s c).drags.length cv), .int .i64 0]) (by simp [results, Try.results36, go_sem, *]) rfl ⟨_, rfl, ?_, ?_⟩
    · have hi : Ints w2 (.slice av (W.worst s c).drags.length cv) (W.worst s c).drags := ⟨av, cv, rfl, hvx⟩
      iterate 5 (refine Ints.setCell ?_ (fun e => by have h9 := hfr _ e; have h8 := hz; simp only [] at h9; omega) _)
      exact hi
    · (with_reducible show Ext _ _; (with_reducible (repeat (first | exact Ext.refl _ | assumption | apply Ext.alloc | apply Ext.drew | exact ext_plus _ _ | (apply Ext.setCell; rotate_left; (simp <;> omega)) | (apply Ext.trans; rotate_left; exact ext_plus _ _) | (apply Ext.trans; rotate_left; assumption)))); done)
  | false =>
    go_enter Try.func36, Try.ntmps36
    go_wp2_with (first | (go_at_call 58; refine (HG.out _ (by (with_reducible (repeat (first | exact Ext.refl _ | assumption | apply Ext.alloc | apply Ext.drew | exact ext_plus _ _ | (apply Ext.setCell; rotate_left; (simp <;> omega)) | (apply Ext.trans; rotate_left; exact ext_plus _ _) | (apply Ext.trans; rotate_left; assumption)))))).mono ?_; rintro e w' ⟨rfl, hb⟩; have hb1 : Blk w' (w.heap.size + 1 + 1) #[.int .i64 0, .int .i64 0, .int .i64 0, .int .i64 0, .slice none 0 0] 32 := Blk.ext (Blk.new' (by simp) _ _) hb; have hc := hb.cells.1; have hz := hb.size; (try simp only [World.size_alloc, size_drew, size_drewN, size_setCell] at hz); have hs0 : w.heap.size < w'.heap.size := (by omega); have hs1 : w.heap.size + 1 < w'.heap.size := (by omega); have hs2 : w.heap.size + 2 < w'.heap.size := (by omega); have hfb1 := hb1.free; have hcb1 := hb1.cell))
    refine bodyPost_ret (v := .tuple #[truthV zeroTruth (.slice none 0 0), .int .i64 2]) (by simp [results, Try.results36, go_sem, *, zeroTruth]) rfl ⟨_, rfl, Ints.nil _, ?_⟩
    (with_reducible show Ext _ _; (with_reducible (repeat (first | exact Ext.refl _ | assumption | apply Ext.alloc | apply Ext.drew | exact ext_plus _ _ | (apply Ext.setCell; rotate_left; (simp <;> omega)) | (apply Ext.trans; rotate_left; exact ext_plus _ _) | (apply Ext.trans; rotate_left; assumption)))); done)
end Go.Proofs.Ytmlobiajimlboaa
