/- The document's definition: the two ends, the level. -/
import Derived.Test.YtmlobiajimlboaaR2
import Derived.Test.YtmlobiajimlboaaD8
namespace Go.Proofs.Ytmlobiajimlboaa
set_option linter.unusedVariables false
set_option linter.unusedSimpArgs false
open Go.RowKit
set_option maxRecDepth 100000 in
set_option maxHeartbeats 2000000 in
theorem rworst_any (s : W.Shore) (c : W.Storm) (vc vw : Value) (w : World) (hC : Cells w vc s.cells) (hn : s.cells.length ≤ 1000000) :
    Calls Try.prog 37 #[shoreA s vc vw, stormA c, .bool true] w (RetTruth w (W.worst s c)) := by
  obtain ⟨a1, c1, rfl, hx⟩ := hC
  have hx' := Lib.hid hx
  clear hx
  obtain ⟨i0, hi, hz0, hz1, hz2⟩ := info_parts int_info
  go_enter Try.func37, Try.ntmps37
  go_wp2
  go_loopw [8] (fun i wr => ∃ (k : Nat) (v : Value), k ≤ s.cells.length ∧ i = .int .i64 k ∧ wr.ownsRow (w.heap.size + 4) 3 1 v k (pre (·.dl) s.cells k) ∧
      Blk wr (w.heap.size + 1 + 1 + 1) #[.int .i64 c.wh, .int .i64 c.fh, .int .i64 c.th, .int .i64 s.ll, v] 32 ∧ Blk wr (w.heap.size + 1 + 1) #[.int .i64 0, .int .i64 0, .int .i64 0, .int .i64 0, .slice none 0 0] 32 ∧ Blk wr w.heap.size #[.slice a1 s.cells.length c1, vw, .int .i64 s.reef, .int .i64 s.ll, .int .i64 s.lh] 27 ∧ Ext w wr)
    (fun i _ => s.cells.length - (intOf i).toNat)
  case atStart => exact ⟨0, _, Nat.zero_le _, rfl, World.ownsRow_nil _ _ _ _, Blk.new' (by simp) _ _, (Blk.new' (by simp) _ _).alloc _, (((Blk.new' rfl _ _).alloc _).alloc _).alloc _, (by (with_reducible (repeat (first | exact Ext.refl _ | assumption | apply Ext.alloc | apply Ext.drew | exact ext_plus _ _ | (apply Ext.setCell; rotate_left; (simp <;> omega)) | (apply Ext.trans; rotate_left; exact ext_plus _ _) | (apply Ext.trans; rotate_left; assumption)))))⟩
  case round =>
    obtain ⟨k, v, hk, rfl, hown, hb2, hb1, hb0, hE⟩ := hrel
    have hz := hb2.lt
    have hcb2 := hb2.cell
    have hfb2 := hb2.free
    have hcb0 := hb0.cell
    have hlb0 := hb0.lt
    by_cases hlt : k < s.cells.length
    · obtain ⟨b, off, rfl, hb, h0, h1, h2, h3⟩ := hx'.out k hlt
      have hc := hE.cells.1
      obtain ⟨av, cv, rfl⟩ := own_slice hown
      go_wp2_with (first | ((at_builtin; refine wpList_append_own _ rfl _ _ 30 rfl (w.heap.size + 4) 3 i0 (.int .i64 0) 1 8 Try.underlying30 hi hz0 hz1 hz2 rfl (by decide) _ _ _ rfl (hown.alloc _) ⟨wr.heap.size, 0, none⟩ 1 1 [.int .i64 (s.cells[k].dl)] rfl rfl (cell_one _ _ _ (by simp)) (one_int _) (by unfold maxLen; omega) (by omega) (by simp <;> omega) ?_; intro v' w1 hown' hgrow _; obtain ⟨g', cap', rfl⟩ := own_succ hown'); have hb2' := (hb2.alloc _).grown hgrow (own_base hown) (by omega); have hb1' := (hb1.alloc _).grown hgrow (own_base hown) (by omega); have hb0' := (hb0.alloc _).grown hgrow (own_base hown) (by omega); have hcb3 := hb2'.cell; have hfb3 := hb2'.free))
      go_roundw
      case rel => exact ⟨k + 1, _, by omega, by go_num, by rw [pre_succ _ _ hlt]; exact ownsRow_setCell_below hown' (a := ⟨w.heap.size + 1 + 1 + 1, 4, none⟩) (by show w.heap.size + 1 + 1 + 1 < w.heap.size + 4; omega) _, hb2'.set 4 _, hb1'.other (by show w.heap.size + 1 + 1 + 1 ≠ w.heap.size + 1 + 1; omega) _, hb0'.other (by show w.heap.size + 1 + 1 + 1 ≠ w.heap.size; omega) _, ((hE.alloc _).grown hgrow (fun k e => by have := own_base hown k e; omega)).setCell (by simp <;> omega) _⟩
      case measure => simp [intOf]; omega
    · have hcb1 := hb1.cell
      have hfb1 := hb1.free
      have hz1 := hb1.lt
      obtain ⟨av, cv, rfl⟩ := own_slice hown
      go_wp2
      have e : k = s.cells.length := by omega
      subst e
      rw [pre_all] at hown
      refine bodyPost_ret (v := truthV (W.worst s c) (.slice av s.cells.length cv)) (by simp [results, Try.results37, go_sem, *, W.worst, W.best]) rfl ⟨_, rfl, ?_, ?_, fun k e => by have := own_base hown k e; omega⟩
      · show Ints _ _ (s.cells.map (·.dl))
        refine Ints.of_own (base := w.heap.size + 4) ?_
        rw [List.length_map]
        iterate 5 (refine ownsRow_setCell_below ?_ (by show w.heap.size + 1 + 1 < w.heap.size + 4; omega) _)
        exact hown
      · (with_reducible (repeat (first | exact Ext.refl _ | assumption | apply Ext.alloc | apply Ext.drew | exact ext_plus _ _ | (apply Ext.setCell; rotate_left; (simp <;> omega)) | (apply Ext.trans; rotate_left; exact ext_plus _ _) | (apply Ext.trans; rotate_left; assumption))))
set_option maxRecDepth 100000 in
set_option maxHeartbeats 2000000 in
theorem rbest_any (s : W.Shore) (c : W.Storm) (vc vw : Value) (w : World) (hC : Cells w vc s.cells) (hn : s.cells.length ≤ 1000000) :
    Calls Try.prog 37 #[shoreA s vc vw, stormA c, .bool false] w (RetTruth w (W.best s c)) := by
  obtain ⟨a1, c1, rfl, hx⟩ := hC
  have hx' := Lib.hid hx
  clear hx
  obtain ⟨i0, hi, hz0, hz1, hz2⟩ := info_parts int_info
  go_enter Try.func37, Try.ntmps37
  go_wp2
  go_loopw [8] (fun i wr => ∃ (k : Nat) (v : Value), k ≤ s.cells.length ∧ i = .int .i64 k ∧ wr.ownsRow (w.heap.size + 4) 3 1 v k (pre (·.dh) s.cells k) ∧
      Blk wr (w.heap.size + 1 + 1 + 1) #[.int .i64 c.wl, .int .i64 c.fl, .int .i64 c.tl, .int .i64 s.lh, v] 32 ∧ Blk wr (w.heap.size + 1 + 1) #[.int .i64 0, .int .i64 0, .int .i64 0, .int .i64 0, .slice none 0 0] 32 ∧ Blk wr w.heap.size #[.slice a1 s.cells.length c1, vw, .int .i64 s.reef, .int .i64 s.ll, .int .i64 s.lh] 27 ∧ Ext w wr)
    (fun i _ => s.cells.length - (intOf i).toNat)
  case atStart => exact ⟨0, _, Nat.zero_le _, rfl, World.ownsRow_nil _ _ _ _, Blk.new' (by simp) _ _, (Blk.new' (by simp) _ _).alloc _, (((Blk.new' rfl _ _).alloc _).alloc _).alloc _, (by (with_reducible (repeat (first | exact Ext.refl _ | assumption | apply Ext.alloc | apply Ext.drew | exact ext_plus _ _ | (apply Ext.setCell; rotate_left; (simp <;> omega)) | (apply Ext.trans; rotate_left; exact ext_plus _ _) | (apply Ext.trans; rotate_left; assumption)))))⟩
  case round =>
    obtain ⟨k, v, hk, rfl, hown, hb2, hb1, hb0, hE⟩ := hrel
    have hz := hb2.lt
    have hcb2 := hb2.cell
    have hfb2 := hb2.free
    have hcb0 := hb0.cell
    have hlb0 := hb0.lt
    by_cases hlt : k < s.cells.length
    · obtain ⟨b, off, rfl, hb, h0, h1, h2, h3⟩ := hx'.out k hlt
      have hc := hE.cells.1
      obtain ⟨av, cv, rfl⟩ := own_slice hown
      go_wp2_with (first | ((at_builtin; refine wpList_append_own _ rfl _ _ 30 rfl (w.heap.size + 4) 3 i0 (.int .i64 0) 1 8 Try.underlying30 hi hz0 hz1 hz2 rfl (by decide) _ _ _ rfl (hown.alloc _) ⟨wr.heap.size, 0, none⟩ 1 1 [.int .i64 (s.cells[k].dh)] rfl rfl (cell_one _ _ _ (by simp)) (one_int _) (by unfold maxLen; omega) (by omega) (by simp <;> omega) ?_; intro v' w1 hown' hgrow _; obtain ⟨g', cap', rfl⟩ := own_succ hown'); have hb2' := (hb2.alloc _).grown hgrow (own_base hown) (by omega); have hb1' := (hb1.alloc _).grown hgrow (own_base hown) (by omega); have hb0' := (hb0.alloc _).grown hgrow (own_base hown) (by omega); have hcb3 := hb2'.cell; have hfb3 := hb2'.free))
      go_roundw
      case rel => exact ⟨k + 1, _, by omega, by go_num, by rw [pre_succ _ _ hlt]; exact ownsRow_setCell_below hown' (a := ⟨w.heap.size + 1 + 1 + 1, 4, none⟩) (by show w.heap.size + 1 + 1 + 1 < w.heap.size + 4; omega) _, hb2'.set 4 _, hb1'.other (by show w.heap.size + 1 + 1 + 1 ≠ w.heap.size + 1 + 1; omega) _, hb0'.other (by show w.heap.size + 1 + 1 + 1 ≠ w.heap.size; omega) _, ((hE.alloc _).grown hgrow (fun k e => by have := own_base hown k e; omega)).setCell (by simp <;> omega) _⟩
      case measure => simp [intOf]; omega
    · have hcb1 := hb1.cell
      have hfb1 := hb1.free
      have hz1 := hb1.lt
      obtain ⟨av, cv, rfl⟩ := own_slice hown
      go_wp2
      have e : k = s.cells.length := by omega
      subst e
      rw [pre_all] at hown
      refine bodyPost_ret (v := truthV (W.best s c) (.slice av s.cells.length cv)) (by simp [results, Try.results37, go_sem, *, W.worst, W.best]) rfl ⟨_, rfl, ?_, ?_, fun k e => by have := own_base hown k e; omega⟩
      · show Ints _ _ (s.cells.map (·.dh))
        refine Ints.of_own (base := w.heap.size + 4) ?_
        rw [List.length_map]
        iterate 5 (refine ownsRow_setCell_below ?_ (by show w.heap.size + 1 + 1 < w.heap.size + 4; omega) _)
        exact hown
      · (with_reducible (repeat (first | exact Ext.refl _ | assumption | apply Ext.alloc | apply Ext.drew | exact ext_plus _ _ | (apply Ext.setCell; rotate_left; (simp <;> omega)) | (apply Ext.trans; rotate_left; exact ext_plus _ _) | (apply Ext.trans; rotate_left; assumption))))
end Go.Proofs.Ytmlobiajimlboaa
