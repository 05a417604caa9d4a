/- The iterator over the wet cells, as a contract of its rounds; the depths. -/
import Derived.Test.YtmlobiajimlboaaC3
import Derived.Test.YtmlobiajimlboaaC4
import Derived.RangeFuncNested
import Derived.RangeFuncBound
import Derived.RangeFuncCalls
import Derived.RangeFuncLeaves
import Derived.Shelf.Abstract
import Derived.OwnWalkIn
import Derived.TacticsInMore
import Derived.LoopNIn
import Derived.LoopIn
namespace Go.Proofs.Ytmlobiajimlboaa
set_option linter.unusedVariables false
set_option linter.unusedSimpArgs false
open Go.RowKit Go.Shelf
attribute [local go_sem] Oper.semAt_some
theorem Ext.grownBy {w w' : World} (h : Ext w w') : w.grownBy w' none := ⟨h.os, h.tape, h.output, h.size, fun k hk _ => h.block k hk⟩
/-- What a shore, its plan and a truth must be for the water to be followed. -/
structure Sound (s : W.Shore) (plan : List Int) (t : W.Truth) : Prop where
  cs : s.cells.length ≤ 1000000
  ws : s.works.length ≤ 1000000
  cell : ∀ c ∈ s.cells, -5000 ≤ c.g ∧ c.g ≤ 5000
  rise : ∀ p, 0 ≤ (W.work s.works p).rise ∧ (W.work s.works p).rise ≤ 5000
  calm : ∀ p, 0 ≤ (W.work s.works p).calm ∧ (W.work s.works p).calm ≤ 5000
  reef : 0 ≤ s.reef ∧ s.reef ≤ 1000
  psz : plan.length = s.cells.length
  works : ∀ p ∈ plan, -1 ≤ p ∧ p < s.works.length
  wind : 0 ≤ t.wind ∧ t.wind ≤ 1000
  fetch : 0 ≤ t.fetch ∧ t.fetch ≤ 10000
  tide : -5000 ≤ t.tide ∧ t.tide ≤ 5000
  loss : 0 ≤ t.loss ∧ t.loss ≤ 1000
  len : t.drags.length = s.cells.length
  drag : ∀ d ∈ t.drags, 0 ≤ d ∧ d ≤ 5000
theorem wet_any (s : W.Shore) (c : W.Storm) (t : W.Truth) (vc vw vp vd : Value) (w : World) :
    Calls Try.prog 66 #[shoreV s c vc vw vp, truthV t vd] w fun e w' => e = .returned (.func (.func 78) #[] #[.pointer (some ⟨w.heap.size + 1, 0, none⟩), .pointer (some ⟨w.heap.size, 0, none⟩)]) ∧
      Blk w' w.heap.size #[vc, vw, .int .i64 s.reef, .int .i64 s.ll, .int .i64 s.lh, .int .i64 c.wl, .int .i64 c.wh, .int .i64 c.fl, .int .i64 c.fh, .int .i64 c.tl, .int .i64 c.th, vp] 91 ∧ Blk w' (w.heap.size + 1) #[.int .i64 t.wind, .int .i64 t.fetch, .int .i64 t.tide, .int .i64 t.loss, vd] 32 ∧ Ext w w' := by
  go_enter Try.func66, Try.ntmps66
  go_wp2
  go_ret
  exact ⟨rfl, (Blk.new' (by simp) _ _).alloc _, Blk.new' (by simp) _ _, by (with_reducible (repeat (first | exact Ext.refl _ | assumption | apply Ext.alloc | apply Ext.drew | exact ext_plus _ _ | (apply Ext.setCell; rotate_left; (simp <;> omega)) | (apply Ext.trans; rotate_left; exact ext_plus _ _) | (apply Ext.trans; rotate_left; assumption))))⟩
/-- Where a depth is stored: out[i] = n. -/
abbrev At (n : Nat) := { x : Nat × Int // x.1 < n }
def put {n : Nat} (o : List Int) (x : At n) : List Int := o.set x.1.1 x.1.2
def outOf (n : Nat) (pre : List (At n)) : List Int := pre.foldl put (List.replicate n 0)
theorem outOf_snoc (n : Nat) (pre : List (At n)) (x : At n) : outOf n (pre ++ [x]) = (outOf n pre).set x.1.1 x.1.2 := by simp [outOf, put]
theorem outOf_len (n : Nat) (pre : List (At n)) : (outOf n pre).length = n := by
  unfold outOf
  have : ∀ (l : List (At n)) (o : List Int), (l.foldl put o).length = o.length := by
    intro l; induction l with
    | nil => intro o; rfl
    | cons x l ih => intro o; rw [List.foldl_cons, ih]; simp [put]
  rw [this]; simp
/-- The water's level before cell k, and what has been told till then. -/
structure Wet (s : W.Shore) (plan : List Int) (t : W.Truth) (k : Nat) (l : Int) (pre : List (At s.cells.length)) : Prop where
  len : pre.length = k
  old : ∃ A, A.length = k ∧ outOf s.cells.length pre = A ++ List.replicate (s.cells.length - k) 0 ∧ W.play s plan t = A ++ W.depths s.works l (s.cells.drop k) (plan.drop k) (t.drags.drop k)
  lo : -5000 ≤ l
  hi : l ≤ 15000
def encA {n : Nat} (x : At n) : Array Value := #[.int .i64 x.1.1, .int .i64 x.1.2]
theorem level_bd {s : W.Shore} {plan : List Int} {t : W.Truth} (h : Sound s plan t) : -5000 ≤ W.level s t ∧ W.level s t ≤ 15000 := by
  have a := W.mul_bd h.wind.1 h.wind.2 h.fetch.1 h.fetch.2
  have b := W.reefN_bd h.loss.1 h.loss.2 s.reef.toNat (n := t.wind * t.fetch / 1000) (by omega)
  have := h.tide
  unfold W.level W.wave
  omega
theorem Wet.start {s : W.Shore} {plan : List Int} {t : W.Truth} (h : Sound s plan t) : Wet s plan t 0 (W.level s t) [] :=
  ⟨rfl, ⟨[], rfl, by simp [outOf], by simp [W.play]⟩, (level_bd h).1, (level_bd h).2⟩
theorem Wet.end_ {s : W.Shore} {plan : List Int} {t : W.Truth} {l : Int} {pre : List (At s.cells.length)} (h : Wet s plan t s.cells.length l pre) : outOf s.cells.length pre = W.play s plan t := by
  obtain ⟨A, hA, h1, h2⟩ := h.old
  rw [h1, h2]; simp [W.depths]
theorem drop_get {α : Type} (xs : List α) {k : Nat} (h : k < xs.length) : xs.drop k = xs[k] :: xs.drop (k + 1) := List.drop_eq_getElem_cons h
theorem Wet.dry {s : W.Shore} {plan : List Int} {t : W.Truth} {k : Nat} {l : Int} {pre : List (At s.cells.length)} (h : Wet s plan t k l pre) (S : Sound s plan t) (hk : k < s.cells.length)
    (hp : k < plan.length) (hd : k < t.drags.length) (hs : l - t.drags[k] - (W.work s.works plan[k]).calm ≤ s.cells[k].g + (W.work s.works plan[k]).rise) : outOf s.cells.length pre = W.play s plan t := by
  obtain ⟨A, hA, h1, h2⟩ := h.old
  rw [h1, h2, drop_get _ hk, drop_get _ hp, drop_get _ hd, W.depths, if_pos hs]
  congr 2
  rw [List.length_drop]; omega
theorem Wet.next {s : W.Shore} {plan : List Int} {t : W.Truth} {k : Nat} {l : Int} {pre : List (At s.cells.length)} (h : Wet s plan t k l pre) (S : Sound s plan t) (hk : k < s.cells.length)
    (hp : k < plan.length) (hd : k < t.drags.length) (hs : ¬ l - t.drags[k] - (W.work s.works plan[k]).calm ≤ s.cells[k].g + (W.work s.works plan[k]).rise) :
    Wet s plan t (k + 1) (l - t.drags[k] - (W.work s.works plan[k]).calm) (pre ++ [⟨(k, l - t.drags[k] - (W.work s.works plan[k]).calm - s.cells[k].g), hk⟩]) := by
  obtain ⟨A, hA, h1, h2⟩ := h.old
  have hg := S.cell s.cells[k] (List.getElem_mem hk)
  have hr := S.rise plan[k]
  have hq := S.calm plan[k]
  have hdr := S.drag t.drags[k] (List.getElem_mem hd)
  have := h.hi
  refine ⟨by simp [h.len], ⟨A ++ [l - t.drags[k] - (W.work s.works plan[k]).calm - s.cells[k].g], by simp [hA], ?_, ?_⟩, by omega, by omega⟩
  · rw [outOf_snoc, h1]
    have e : s.cells.length - k = (s.cells.length - (k + 1)) + 1 := by omega
    rw [e, List.replicate_succ, List.set_append]
    simp [hA]
  · rw [h2, drop_get _ hk, drop_get _ hp, drop_get _ hd, W.depths, if_neg hs]
    simp
/-- What a round leaves as it lay: all below n, and two blocks more. -/
def Keep (n b1 b2 : Nat) (A B : World) : Prop := Below n A B ∧ B.heap[b1]? = A.heap[b1]? ∧ B.heap[b2]? = A.heap[b2]?
theorem Keep.trans {n b1 b2 : Nat} {A B C : World} (h : Keep n b1 b2 A B) (k : Keep n b1 b2 B C) : Keep n b1 b2 A C := ⟨h.1.trans k.1, k.2.1.trans h.2.1, k.2.2.trans h.2.2⟩
theorem Keep.rec_ {n b1 b2 : Nat} {w : World} (hn : n ≤ w.heap.size) (h1 : b1 < w.heap.size) (h2 : b2 < w.heap.size) (Y : World) (l : Nat) (o o' : Obj) (hl : w.heap.size ≤ l) (h : Y.heap[l]? = some o) (hc : o.isCells = false) (hw : o.isWalk = false) : Keep n b1 b2 Y (Y.putObj l o') := by
  have hs := (Array.getElem?_eq_some_iff.1 h).1
  exact ⟨belowK_b hn Y l o o' hl h hc hw, (grownBy_putObj' Y l o').block b1 (by omega) (by simp; omega), (grownBy_putObj' Y l o').block b2 (by omega) (by simp; omega)⟩
set_option maxRecDepth 100000 in
set_option maxHeartbeats 2000000 in
/-- The wet cells, one by one, for whatever a round does that leaves what lay as it lay. -/
theorem wet_stops (s : W.Shore) (c : W.Storm) (plan : List Int) (t : W.Truth) (vc vw vp vd : Value) (w0 w1 : World) (h01 : Ext w0 w1) (S : Sound s plan t) (hC : Cells w0 vc s.cells) (hW : Works w0 vw s.works) (hP : Ints w0 vp plan) (hD : Ints w0 vd t.drags) (bs bt n : Nat) (hn : 1 ≤ n)
    (hbs : Blk w1 bs #[vc, vw, .int .i64 s.reef, .int .i64 s.ll, .int .i64 s.lh, .int .i64 c.wl, .int .i64 c.wh, .int .i64 c.fl, .int .i64 c.fh, .int .i64 c.tl, .int .i64 c.th, vp] 91) (hbt : Blk w1 bt #[.int .i64 t.wind, .int .i64 t.fetch, .int .i64 t.tide, .int .i64 t.loss, vd] 32) :
    SeqStopsK Fence.wide n Try.prog 78 #[.pointer (some ⟨bt, 0, none⟩), .pointer (some ⟨bs, 0, none⟩)] encA (Keep w0.heap.size bs bt) (fun xs => outOf s.cells.length xs = W.play s plan t) (fun _ => True) s.cells.length w1 := fun l J Jx Y hY0 hJ hJx hY h0 => by
  have hC' := hC
  have hW' := hW
  have hP' := hP
  have hD' := hD
  obtain ⟨a1, c1, rfl, hx1⟩ := hC'
  obtain ⟨a2, c2, rfl, _⟩ := hW'
  obtain ⟨a3, c3, rfl, hx3⟩ := hP'
  obtain ⟨a4, c4, rfl, hx4⟩ := hD'
  have HX1 := Lib.hid hx1
  have HX3 := Lib.hid hx3
  have HX4 := Lib.hid hx4
  have HS := Lib.hid S
  have hbsY := (Blk.ext hbs hY0).cell
  have hbtY := (Blk.ext hbt hY0).cell
  have hs0 := (Blk.ext hbs hY0).lt
  have ht0 := (Blk.ext hbt hY0).lt
  have hpc := plus_cell
  clear hx1 hx3 hx4
  refine callsIn_of_wp Try.func78 rfl trivial ?_ rfl
  simp only [Try.ntmps78, List.size_toArray, List.length_cons, List.length_nil, Nat.reduceAdd, Nat.reduceSub, Array.replicate_succ, Array.replicate_zero, List.push_toArray, List.append_toArray, List.nil_append, List.cons_append]
  gi_wp2
  refine wpIn_wide.2 ?_
  refine wp_region_ext 7 (fun _ _ d _ _ h => by cases d <;> exact h) (by kernel_rfl) (by kernel_rfl) (by kernel_rfl) (by kernel_rfl) ?_
  simp only [List.take_succ_cons, List.take_zero, List.drop_succ_cons, List.drop_zero]
  repeat (any_goals (first | quiet_step (first | (go_at_call 59; exact ext_quiet (wave_any s t _ _ _ _ _ _ _ _ _ _ _ _ _ S.wind.1 S.wind.2 S.fetch.1 S.fetch.2 S.loss.1 S.loss.2 S.reef.1 S.reef.2))) | (refine wpQuiet_step (fun K hK => ?_); go_simp; split <;> (refine hK _ ?_; clear hK K))))
  all_goals (refine wpQuiet_nil ?_; intro w' hE; have hc := hE.cells.1; have hf := hE.cells.2)
  have hlv := level_bd S
  unfold W.level at hlv
  have ewv : (IntKind.wrap .i64 (t.tide + W.wave s t)) = W.level s t := by rw [IntWalk.i64_in _ (by omega)]; rfl
  rw [ewv]
  clear ewv hlv
  unfold wpList
  gi_wp2
  have hJ' : ∀ p A B, J p A → Ext A B → J p B := fun p A B hp hAB => hJ p A B none hp hAB.grownBy (fun r e => by cases e)
  have hYs := hY0.size
  gi_loopw [4, 19] (fun lv i wr => ∃ (k : Nat) (lw : Int) (pre : List (At s.cells.length)), k ≤ s.cells.length ∧ i = .int .i64 k ∧ lv = .int .i64 lw ∧ Wet s plan t k lw pre ∧ J pre wr ∧ Ext w0 wr ∧ Blk wr bs #[.slice a1 s.cells.length c1, .slice a2 s.works.length c2, .int .i64 s.reef, .int .i64 s.ll, .int .i64 s.lh, .int .i64 c.wl, .int .i64 c.wh, .int .i64 c.fl, .int .i64 c.fh, .int .i64 c.tl, .int .i64 c.th, .slice a3 plan.length c3] 91 ∧ Blk wr bt #[.int .i64 t.wind, .int .i64 t.fetch, .int .i64 t.tide, .int .i64 t.loss, .slice a4 t.drags.length c4] 32)
    (fun _ i _ => s.cells.length - (intOf i).toNat)
  case atStart => exact ⟨0, _, [], Nat.zero_le _, rfl, rfl, Wet.start S, hJ' _ _ _ h0 hE, Ext.trans (Ext.trans h01 hY0) hE, (Blk.ext hbs hY0).ext hE, (Blk.ext hbt hY0).ext hE⟩
  case round =>
    obtain ⟨k, lw, pre, hk, rfl, rfl, hwet, hJk, hEk, hBs, hBt⟩ := hrel
    have HWet := Lib.hid hwet
    have hlo := hwet.lo
    have hhi := hwet.hi
    have hbk := hBs.cell
    have htk := hBt.cell
    have hbl := hBs.lt
    have htl := hBt.lt
    have hck := hEk.cells.1
    by_cases hlt : k < s.cells.length
    · have hkp : k < plan.length := by rw [S.psz]; exact hlt
      have hkd : k < t.drags.length := by rw [S.len]; exact hlt
      obtain ⟨b, off, rfl, hb, h0', h1', h2', h3'⟩ := HX1.out k hlt
      obtain ⟨b3, off3, rfl, hb3, h03⟩ := HX3.out k hkp
      obtain ⟨b4, off4, rfl, hb4, h04⟩ := HX4.out k hkd
      have hcs0 := S.cs
      have hsw := hEk.size
      have k0 : b3 < wr.heap.size := by omega
      have k1 : b4 < wr.heap.size := by omega
      have k2 : b3 < wr.heap.size + 1 := by omega
      have k3 : b4 < wr.heap.size + 1 := by omega
      have k4 : bs < wr.heap.size + 1 := by omega
      have k5 : bt < wr.heap.size + 1 := by omega
      have hgo := Lib.hid (fun (w' : World) (hx : Ext w0 w') (st : Bool) (hst : decide (lw - t.drags[k] - (W.work s.works plan[k]).calm ≤ s.cells[k].g + (W.work s.works plan[k]).rise) = st) =>
        goes_any s c _ _ (.slice (some ⟨b3, off3, none⟩) plan.length c3) w' (hC.ext hx) (hW.ext hx) S.cs S.ws k hlt plan[k] lw t.drags[k] (S.works _ (List.getElem_mem hkp)) (by omega) (by have := S.drag _ (List.getElem_mem hkd); omega) (S.cell _ (List.getElem_mem hlt)) (S.rise _) (S.calm _) st hst)
      by_cases hst : lw - t.drags[k] - (W.work s.works plan[k]).calm ≤ s.cells[k].g + (W.work s.works plan[k]).rise
      · have HST := Lib.hid hst
        clear hst
        gi_wp2
        refine wpIn_wide.2 ?_
        refine wp_region_ext 19 (fun _ _ d _ _ h => by cases d <;> exact h) (by kernel_rfl) (by kernel_rfl) (by kernel_rfl) (by kernel_rfl) ?_
        simp only [List.take_succ_cons, List.take_zero, List.drop_succ_cons, List.drop_zero]
        repeat (any_goals (first | quiet_step (first | (go_at_call 73; exact ext_quiet (hgo.out _ (by (with_reducible (repeat (first | exact Ext.refl _ | assumption | apply Ext.alloc | apply Ext.drew | exact ext_plus _ _ | (apply Ext.setCell; rotate_left; (simp <;> omega)) | (apply Ext.trans; rotate_left; exact ext_plus _ _) | (apply Ext.trans; rotate_left; assumption))))) true (decide_eq_true HST.out)))) | (refine wpQuiet_step (fun K hK => ?_); go_simp; split <;> (refine hK _ ?_; clear hK K))))
        all_goals (refine wpQuiet_nil ?_; intro w' hE'; have hc' := hE'.cells.1; have hf' := hE'.cells.2)
        unfold wpList
        gi_wp2
        refine ⟨fun _ h => (by cases h), ?_⟩
        gi_wp2
        refine bodyPost_ret (results_none rfl _ _ _) rfl ?_
        exact ⟨⟨_, rfl⟩, .inl ⟨pre, HWet.out.dry S hlt hkp hkd HST.out, hJ' _ _ _ hJk (by (with_reducible (repeat (first | exact Ext.refl _ | assumption | apply Ext.alloc | apply Ext.drew | exact ext_plus _ _ | (apply Ext.setCell; rotate_left; (simp <;> omega)) | (apply Ext.trans; rotate_left; exact ext_plus _ _) | (apply Ext.trans; rotate_left; assumption)))))⟩⟩
      · have HG := Lib.hid (fun w' hx => hgo.out w' hx false (decide_eq_false hst))
        have HST := Lib.hid (HWet.out.next S hlt hkp hkd hst)
        have HSI := Lib.hid (Int.not_le.1 hst)
        clear hst
        gi_wp2
        refine wpIn_wide.2 ?_
        refine wp_region_ext 19 (fun _ _ d _ _ h => by cases d <;> exact h) (by kernel_rfl) (by kernel_rfl) (by kernel_rfl) (by kernel_rfl) ?_
        simp only [List.take_succ_cons, List.take_zero, List.drop_succ_cons, List.drop_zero]
        repeat (any_goals (first | quiet_step (first | (go_at_call 73; exact ext_quiet (HG.out _ (by (with_reducible (repeat (first | exact Ext.refl _ | assumption | apply Ext.alloc | apply Ext.drew | exact ext_plus _ _ | (apply Ext.setCell; rotate_left; (simp <;> omega)) | (apply Ext.trans; rotate_left; exact ext_plus _ _) | (apply Ext.trans; rotate_left; assumption)))))))) | (refine wpQuiet_step (fun K hK => ?_); go_simp; split <;> (refine hK _ ?_; clear hK K))))
        all_goals (refine wpQuiet_nil ?_; intro w' hE'; have hc' := hE'.cells.1; have hf' := hE'.cells.2)
        have hcs := HSI.out
        have hcg := S.cell _ (List.getElem_mem hlt)
        have hcr := S.rise plan[k]
        have hcq := S.calm plan[k]
        have hcd := S.drag _ (List.getElem_mem hkd)
        have hE1 : Ext wr w' := Ext.trans ((Ext.refl wr).alloc _) hE'
        have hEw : Ext w0 w' := hEk.trans hE1
        obtain ⟨fn, tmps, assign, body, hy, hR⟩ := hY pre ⟨(k, lw - t.drags[k] - (W.work s.works plan[k]).calm - s.cells[k].g), hlt⟩ w' (hJ' _ _ _ hJk (Ext.trans ((Ext.refl wr).alloc _) hE')) (by rw [HWet.out.len]; exact hlt)
        dsimp only [encA] at hy
        unfold wpList
        gi_wp2
        refine hR.mono ?_
        rintro e W3 (⟨rfl, hJ3, hk3⟩ | ⟨rfl, hJx3⟩)
        · gi_wp2
          go_roundw
          case rel => exact ⟨k + 1, _, _, by omega, by go_num, rfl, HST.out, hJ3, Below.trans hEw hk3.1, hk3.2.1.trans (hBs.ext hE1), hk3.2.2.trans (hBt.ext hE1)⟩
          case measure => simp [intOf]; omega
        · gi_wp2
          refine bodyPost_ret (results_none rfl _ _ _) rfl ?_
          exact ⟨⟨_, rfl⟩, .inr ⟨_, trivial, hJx3⟩⟩
    · gi_wp2
      go_end0
      obtain rfl : k = s.cells.length := by omega
      exact ⟨⟨_, rfl⟩, .inl ⟨pre, HWet.out.end_, hJk⟩⟩
end Go.Proofs.Ytmlobiajimlboaa
