/- The worst truth and the best one. -/
import Derived.Test.YtmlobiajimlboaaC2
import Derived.Test.YtmlobiajimlboaaBlk
namespace Go.Proofs.Ytmlobiajimlboaa
set_option linter.unusedVariables false
set_option linter.unusedSimpArgs false
open Go.RowKit
/-- A truth, as the program holds it. -/
abbrev truthV (t : W.Truth) (vd : Value) : Value := .agg #[.int .i64 t.wind, .int .i64 t.fetch, .int .i64 t.tide, .int .i64 t.loss, vd]
/-- v's cells came since w. -/
def Fresh (w : World) (v : Value) : Prop := ∀ k, v.ownBlock = some k → w.heap.size ≤ k
def RetTruth (w : World) (t : W.Truth) (e : Ending) (w' : World) : Prop := ∃ vd, e = .returned (truthV t vd) ∧ Ints w' vd t.drags ∧ Ext w w' ∧ Fresh w vd
theorem Ints.setCell {w : World} {v : Value} {xs : List Int} (h : Ints w v xs) {a : Addr} (ha : v.ownBlock ≠ some a.block) (u : Value) : Ints (w.setCell a u) v xs := by
  obtain ⟨s, cap, rfl, hx⟩ := h
  refine ⟨s, cap, rfl, fun i hi => ?_⟩
  obtain ⟨b, off, rfl, hb, hc⟩ := hx i hi
  refine ⟨b, off, rfl, by simpa [World.setCell] using hb, ?_⟩
  have hne : b ≠ a.block := fun e => ha (by rw [← e]; rfl)
  rw [← hc]
  simp [World.cell?, Below.heap_setCell _ _ _ _ hne]
set_option maxRecDepth 100000 in
set_option maxHeartbeats 1000000 in
theorem worst_any (s : W.Shore) (c : W.Storm) (vc vw vp : Value) (w : World) (hC : Cells w vc s.cells) (hn : s.cells.length ≤ 1000000) :
    Calls Try.prog 57 #[shoreV s c vc vw vp] w (RetTruth w (W.worst s c)) := by
  obtain ⟨a1, c1, rfl, hx⟩ := hC
  have hx' := Lib.hid hx
  clear hx
  obtain ⟨i0, hi, hz0, hz1, hz2⟩ := info_parts int_info
  go_enter Try.func57, Try.ntmps57
  go_wp2
  go_loopw [5, 27] (fun _ i wr => ∃ (k : Nat) (v : Value), k ≤ s.cells.length ∧ i = .int .i64 k ∧ wr.ownsRow (w.heap.size + 3) 3 1 v k (pre (·.dl) s.cells k) ∧
      Blk wr (w.heap.size + 1 + 1) #[.int .i64 c.wh, .int .i64 c.fh, .int .i64 c.th, .int .i64 s.ll, v] 32 ∧ Blk wr (w.heap.size + 1) #[.int .i64 0, .int .i64 0, .int .i64 0, .int .i64 0, .slice none 0 0] 32 ∧ Ext w wr)
    (fun _ i _ => s.cells.length - (intOf i).toNat)
  case atStart => exact ⟨0, _, Nat.zero_le _, rfl, World.ownsRow_nil _ _ _ _, Blk.new' (by simp) _ _, (Blk.new' (by simp) _ _).alloc _, (by (with_reducible (repeat (first | exact Ext.refl _ | assumption | apply Ext.alloc | apply Ext.drew | exact ext_plus _ _ | (apply Ext.setCell; rotate_left; (simp <;> omega)) | (apply Ext.trans; rotate_left; exact ext_plus _ _) | (apply Ext.trans; rotate_left; assumption)))))⟩
  case round =>
    obtain ⟨k, v, hk, rfl, hown, hb2, hb1, hE⟩ := hrel
    have hz := hb2.lt
    have hcb2 := hb2.cell
    have hfb2 := hb2.free
    by_cases hlt : k < s.cells.length
    · obtain ⟨b, off, rfl, hb, h0, h1, h2, h3⟩ := hx'.out k hlt
      have hc := hE.cells.1
      go_wp2_with (first | ((at_builtin; refine wpList_append_own _ rfl _ _ 30 rfl (w.heap.size + 3) 3 i0 (.int .i64 0) 1 8 Try.underlying30 hi hz0 hz1 hz2 rfl (by decide) _ _ _ rfl ((hown.alloc _).alloc _) ⟨wr.heap.size + 1, 0, none⟩ 1 1 [.int .i64 (s.cells[k].dl)] rfl rfl (cell_one _ _ _ (by simp)) (one_int _) (by unfold maxLen; omega) (by omega) (by simp <;> omega) ?_; intro v' w1 hown' hgrow _; obtain ⟨g', cap', rfl⟩ := own_succ hown'); have hb2' := ((hb2.alloc _).alloc _).grown hgrow (own_base hown) (by omega); have hb1' := ((hb1.alloc _).alloc _).grown hgrow (own_base hown) (by omega); have hcb3 := hb2'.cell; have hfb3 := hb2'.free))
      go_roundw
      case rel => exact ⟨k + 1, _, by omega, by go_num, by rw [pre_succ _ _ hlt]; exact ownsRow_setCell_below hown' (a := ⟨w.heap.size + 1 + 1, 4, none⟩) (by show w.heap.size + 1 + 1 < w.heap.size + 3; omega) _, hb2'.set 4 _, hb1'.other (by show w.heap.size + 1 + 1 ≠ w.heap.size + 1; omega) _, (((hE.alloc _).alloc _).grown hgrow (fun k e => by have := own_base hown k e; omega)).setCell (by simp <;> omega) _⟩
      case measure => simp [intOf]; omega
    · have hcb1 := hb1.cell
      have hfb1 := hb1.free
      obtain ⟨av, cv, rfl⟩ := own_slice hown
      go_wp2
      have e : k = s.cells.length := by omega
      subst e
      rw [pre_all] at hown
      refine bodyPost_ret (v := truthV (W.worst s c) (.slice av s.cells.length cv)) (by simp [results, Try.results57, go_sem, *, W.worst]) rfl ⟨_, rfl, ?_, ?_, fun k e => by have := own_base hown k e; omega⟩
      · show Ints _ _ (s.cells.map (·.dl))
        refine Ints.of_own (base := w.heap.size + 3) ?_
        rw [List.length_map]
        iterate 5 (refine ownsRow_setCell_below ?_ (by show w.heap.size + 1 < w.heap.size + 3; omega) _)
        exact hown
      · (with_reducible (repeat (first | exact Ext.refl _ | assumption | apply Ext.alloc | apply Ext.drew | exact ext_plus _ _ | (apply Ext.setCell; rotate_left; (simp <;> omega)) | (apply Ext.trans; rotate_left; exact ext_plus _ _) | (apply Ext.trans; rotate_left; assumption))))
set_option maxRecDepth 100000 in
set_option maxHeartbeats 1000000 in
theorem best_any (s : W.Shore) (c : W.Storm) (vc vw vp : Value) (w : World) (hC : Cells w vc s.cells) (hn : s.cells.length ≤ 1000000) :
    Calls Try.prog 56 #[shoreV s c vc vw vp] w (RetTruth w (W.best s c)) := by
  obtain ⟨a1, c1, rfl, hx⟩ := hC
  have hx' := Lib.hid hx
  clear hx
  obtain ⟨i0, hi, hz0, hz1, hz2⟩ := info_parts int_info
  go_enter Try.func56, Try.ntmps56
  go_wp2
  go_loopw [5, 27] (fun _ i wr => ∃ (k : Nat) (v : Value), k ≤ s.cells.length ∧ i = .int .i64 k ∧ wr.ownsRow (w.heap.size + 3) 3 1 v k (pre (·.dh) s.cells k) ∧
      Blk wr (w.heap.size + 1 + 1) #[.int .i64 c.wl, .int .i64 c.fl, .int .i64 c.tl, .int .i64 s.lh, v] 32 ∧ Blk wr (w.heap.size + 1) #[.int .i64 0, .int .i64 0, .int .i64 0, .int .i64 0, .slice none 0 0] 32 ∧ Ext w wr)
    (fun _ i _ => s.cells.length - (intOf i).toNat)
  case atStart => exact ⟨0, _, Nat.zero_le _, rfl, World.ownsRow_nil _ _ _ _, Blk.new' (by simp) _ _, (Blk.new' (by simp) _ _).alloc _, (by (with_reducible (repeat (first | exact Ext.refl _ | assumption | apply Ext.alloc | apply Ext.drew | exact ext_plus _ _ | (apply Ext.setCell; rotate_left; (simp <;> omega)) | (apply Ext.trans; rotate_left; exact ext_plus _ _) | (apply Ext.trans; rotate_left; assumption)))))⟩
  case round =>
    obtain ⟨k, v, hk, rfl, hown, hb2, hb1, hE⟩ := hrel
    have hz := hb2.lt
    have hcb2 := hb2.cell
    have hfb2 := hb2.free
    by_cases hlt : k < s.cells.length
    · obtain ⟨b, off, rfl, hb, h0, h1, h2, h3⟩ := hx'.out k hlt
      have hc := hE.cells.1
      go_wp2_with (first | ((at_builtin; refine wpList_append_own _ rfl _ _ 30 rfl (w.heap.size + 3) 3 i0 (.int .i64 0) 1 8 Try.underlying30 hi hz0 hz1 hz2 rfl (by decide) _ _ _ rfl ((hown.alloc _).alloc _) ⟨wr.heap.size + 1, 0, none⟩ 1 1 [.int .i64 (s.cells[k].dh)] rfl rfl (cell_one _ _ _ (by simp)) (one_int _) (by unfold maxLen; omega) (by omega) (by simp <;> omega) ?_; intro v' w1 hown' hgrow _; obtain ⟨g', cap', rfl⟩ := own_succ hown'); have hb2' := ((hb2.alloc _).alloc _).grown hgrow (own_base hown) (by omega); have hb1' := ((hb1.alloc _).alloc _).grown hgrow (own_base hown) (by omega); have hcb3 := hb2'.cell; have hfb3 := hb2'.free))
      go_roundw
      case rel => exact ⟨k + 1, _, by omega, by go_num, by rw [pre_succ _ _ hlt]; exact ownsRow_setCell_below hown' (a := ⟨w.heap.size + 1 + 1, 4, none⟩) (by show w.heap.size + 1 + 1 < w.heap.size + 3; omega) _, hb2'.set 4 _, hb1'.other (by show w.heap.size + 1 + 1 ≠ w.heap.size + 1; omega) _, (((hE.alloc _).alloc _).grown hgrow (fun k e => by have := own_base hown k e; omega)).setCell (by simp <;> omega) _⟩
      case measure => simp [intOf]; omega
    · have hcb1 := hb1.cell
      have hfb1 := hb1.free
      obtain ⟨av, cv, rfl⟩ := own_slice hown
      go_wp2
      have e : k = s.cells.length := by omega
      subst e
      rw [pre_all] at hown
      refine bodyPost_ret (v := truthV (W.best s c) (.slice av s.cells.length cv)) (by simp [results, Try.results56, go_sem, *, W.best]) rfl ⟨_, rfl, ?_, ?_, fun k e => by have := own_base hown k e; omega⟩
      · show Ints _ _ (s.cells.map (·.dh))
        refine Ints.of_own (base := w.heap.size + 3) ?_
        rw [List.length_map]
        iterate 5 (refine ownsRow_setCell_below ?_ (by show w.heap.size + 1 < w.heap.size + 3; omega) _)
        exact hown
      · (with_reducible (repeat (first | exact Ext.refl _ | assumption | apply Ext.alloc | apply Ext.drew | exact ext_plus _ _ | (apply Ext.setCell; rotate_left; (simp <;> omega)) | (apply Ext.trans; rotate_left; exact ext_plus _ _) | (apply Ext.trans; rotate_left; assumption))))
end Go.Proofs.Ytmlobiajimlboaa
