/- The depths in a truth, out of the iterator over the wet cells. -/
import Derived.Test.YtmlobiajimlboaaIt
namespace Go.Proofs.Ytmlobiajimlboaa
set_option linter.unusedVariables false
set_option linter.unusedSimpArgs false
open Go.RowKit Go.Shelf
attribute [local go_sem] Oper.semAt_some
/-- Ints as cells. -/
def ints (xs : List Int) : Array Value := (xs.map (Value.int .i64)).toArray
theorem ints_get (xs : List Int) (i : Nat) (h : i < xs.length) : (ints xs)[i]? = some (.int .i64 xs[i]) := by simp [ints, h]
theorem ints_set (xs : List Int) (i : Nat) (n : Int) : (ints xs).setIfInBounds i (.int .i64 n) = ints (xs.set i n) := by simp [ints, List.map_set]
theorem made_ints (n : Nat) : madeCells (Value.cells (.int .i64 0)) (n * 1) = ints (List.replicate n 0) := by
  apply Array.ext
  · simp [madeCells, ints]
  · intro i h1 h2
    simp [madeCells, ints, Value.cells, Nat.mod_one]
theorem make_ints (n : Nat) (hn : n ≤ 1000000) (w : World) : (Instr.makeSlice 30 (.int .i64 (n : Int)) (.int .i64 (n : Int))).run Try.prog w = .ok (.slice (some ⟨w.heap.size, 0, none⟩) n n) (w.alloc (.cells (ints (List.replicate n 0)) 3)) := by
  obtain ⟨i0, hi, hz0, hz1, hz2⟩ := info_parts int_info
  have h := run_make (P := Try.prog) w 30 3 i0 (.int .i64 0) Try.underlying30 hi hz0 .i64 .i64 n n (by omega) (Int.le_refl _) (by rw [hz2]; omega) (by omega)
  rw [hz1] at h
  simp only [Int.toNat_natCast] at h
  rw [made_ints] at h
  exact h
theorem Ints.of_blk {w : World} {g cap : Nat} {xs : List Int} {n : Nat} (h : Blk w g (ints xs) 3) (hn : n = xs.length) : Ints w (.slice (some ⟨g, 0, none⟩) n cap) xs := by
  subst hn
  exact ⟨_, _, rfl, fun i hi => ⟨g, 0, rfl, h.lt, by rw [h.cell, Nat.zero_add, ints_get _ _ hi]⟩⟩
theorem Blk.kept {A B : World} {row : Option Nat} {b : Nat} {cs : Array Value} {e : TypeId} (h : Blk A b cs e) (hg : A.grownBy B row) (hr : ∀ r, row = some r → ∃ o : Obj, A.heap[r]? = some o ∧ o.isCells = false) : Blk B b cs e :=
  (hg.block b h.lt (fun e' => by obtain ⟨o, ho, hc⟩ := hr b e'.symm; rw [show A.heap[b]? = _ from h] at ho; cases ho; cases hc)).trans h
set_option maxRecDepth 100000 in
set_option maxHeartbeats 2000000 in
theorem depths_any (s : W.Shore) (c : W.Storm) (plan : List Int) (t : W.Truth) (vc vw vp vd : Value) (w : World) (S : Sound s plan t) (hC : Cells w vc s.cells) (hW : Works w vw s.works) (hP : Ints w vp plan) (hD : Ints w vd t.drags) :
    Calls Try.prog 54 #[shoreV s c vc vw vp, truthV t vd] w fun e w' => ∃ v, e = .returned v ∧ Ints w' v (W.play s plan t) ∧ Ext w w' := by
  have hC' := hC
  have hW' := hW
  have hP' := hP
  have hD' := hD
  obtain ⟨a1, c1, rfl, _⟩ := hC'
  obtain ⟨a2, c2, rfl, _⟩ := hW'
  obtain ⟨a3, c3, rfl, _⟩ := hP'
  obtain ⟨a4, c4, rfl, _⟩ := hD'
  have hmk := make_ints s.cells.length S.cs
  have hcs := S.cs
  refine (callsIn_wide (n := 5)).1 ?_
  refine callsIn_of_wp_marks Try.func54 rfl trivial ?_ rfl
  simp only [Try.ntmps54, List.size_toArray, List.length_cons, List.length_nil, Nat.reduceAdd, Nat.reduceSub, Array.replicate_succ, Array.replicate_zero, List.push_toArray, List.append_toArray, List.nil_append, List.cons_append]
  gi_wp2_with (first | (refine ⟨trivial, ?_⟩; gi_at_call 66; refine (callsIn_wide.2 (wet_any s c t _ _ _ _ _)).mono ?_; rintro e w' ⟨rfl, hb1, hb2, hb⟩))
  simp only [World.size_alloc] at hb1 hb2
  have hEw : Ext w w' := by (with_reducible (repeat (first | exact Ext.refl _ | assumption | apply Ext.alloc | apply Ext.drew | exact ext_plus _ _ | (apply Ext.setCell; rotate_left; (simp <;> omega)) | (apply Ext.trans; rotate_left; exact ext_plus _ _) | (apply Ext.trans; rotate_left; assumption))))
  have hg : Blk w' (w.heap.size + 1 + 1) (ints (List.replicate s.cells.length 0)) 3 := by
    refine Blk.ext ?_ hb
    exact (Blk.new' (by simp) _ _).alloc _
  have ho : Blk w' (w.heap.size + 1 + 1 + 1) #[.slice (some ⟨w.heap.size + 1 + 1, 0, none⟩) s.cells.length s.cells.length] 30 := by
    refine Blk.ext ?_ hb
    exact Blk.new' (by simp) _ _
  have hsz := hEw.size
  have hgl := ho.lt
  refine' wpIn_rangeFunc_ownF rfl (by omega) (gf := 78) (lb := _) rfl trivial (enters_of Try.func78 (by kernel_rfl) rfl)
    (wet_stops s c plan t _ _ _ _ w w' hEw S hC hW hP hD _ _ 4 (by omega) hb1 hb2) Keep.trans (Keep.rec_ hEw.size hb1.lt hb2.lt) (Below.refl _ _) (fun _ => rfl)
    (fun pre Y => (Blk Y (w.heap.size + 1 + 1) (ints (outOf s.cells.length pre)) 3 ∧ Blk Y (w.heap.size + 1 + 1 + 1) #[.slice (some ⟨w.heap.size + 1 + 1, 0, none⟩) s.cells.length s.cells.length] 30) ∧ Ext w Y)
    (fun _ _ _ => False)
    ?own (fun _ _ _ _ _ hs _ _ => hs) ⟨⟨hg, ho⟩, hEw⟩ _ ?assign ?body ?done ?stop
  case own =>
    exact OwnFrom.and (Own.from (fun p A B row hs hg hr => ⟨hs.1.kept hg hr, hs.2.kept hg hr⟩) _) (ownFrom_below (Nat.le_refl _) hEw.size)
  case assign =>
    intro l x Y K hK
    simp only [encA]
    gi_wp2
    exact hK
  case body =>
    rintro l pre x Y ⟨⟨hg1, ho1⟩, hEY⟩ hlen
    have hx := x.2
    have hol := outOf_len s.cells.length pre
    have hcg := hg1.cell x.1.1
    rw [ints_get _ _ (by rw [hol]; exact hx)] at hcg
    have hfg := hg1.free x.1.1
    have hco := ho1.cell 0
    have hfo := ho1.free 0
    have hgl1 := hg1.lt
    have hol1 := ho1.lt
    have hnx := hg1.set x.1.1 (.int .i64 x.1.2)
    rw [ints_set, ← outOf_snoc] at hnx
    have HNX := Lib.hid hnx
    clear hnx
    gi_wp2
    exact ⟨KeepsOthers.setCell _ _ _, ⟨(Below.refl _ Y).setCell (by show w.heap.size ≤ w.heap.size + 1 + 1; omega) _, Below.heap_setCell _ _ _ _ (by show w.heap.size + 1 + 1 + 1 + 1 ≠ w.heap.size + 1 + 1; omega), Below.heap_setCell _ _ _ _ (by show w.heap.size + 1 + 1 + 1 + 1 + 1 ≠ w.heap.size + 1 + 1; omega)⟩, ⟨HNX.out, ho1.other (by show w.heap.size + 1 + 1 ≠ w.heap.size + 1 + 1 + 1; omega) _⟩, hEY.setCell (by show w.heap.size ≤ w.heap.size + 1 + 1; omega) _⟩
  case done =>
    rintro D ys Y hD hS ⟨⟨hg1, ho1⟩, hEY⟩ hK
    have hco := ho1.cell 0
    have hfo := ho1.free 0
    have hol1 := ho1.lt
    gi_wp2
    refine ⟨by simp, .inl ⟨_, _, rfl, run_takeDeferred hK, ?_⟩⟩
    refine ⟨_, results_tmp rfl _ _ _, _, rfl, ?_, ?_⟩
    · rw [← hS]
      refine Ints.of_blk ?_ (outOf_len _ _).symm
      exact (grownBy_putObj' Y D _).block _ hg1.lt (by simp at hD ⊢; omega) |>.trans hg1
    · exact Below.trans hEY (belowK_b (w := w) (Nat.le_refl _) Y D _ _ (by omega) hK rfl rfl)
  case stop =>
    rintro D c pre Y _ _ h _
    exact h.elim
end Go.Proofs.Ytmlobiajimlboaa
