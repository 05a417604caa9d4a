/- Equal lists; the helpers of the statements. -/
import Derived.Test.YtmlobiajimlboaaR5
import Derived.Test.YtmlobiajimlboaaRow
import Derived.Laws.StructEq
import Derived.Test.YtmlobiajimlboaaD10
import Derived.Test.YtmlobiajimlboaaIB
namespace Go.Proofs.Ytmlobiajimlboaa
set_option linter.unusedVariables false
set_option linter.unusedSimpArgs false
open Go.RowKit
theorem list_eq_of {α : Type} {xs ys : List α} (hl : xs.length = ys.length) (h : ∀ (j : Nat) (h1 : j < xs.length) (h2 : j < ys.length), xs[j] = ys[j]) : xs = ys :=
  List.ext_getElem hl h
set_option maxHeartbeats 1000000 in
theorem rsame_any (xs ys : List Int) (va vb : Value) (w : World) (hA : Ints w va xs) (hB : Ints w vb ys) (hn : xs.length ≤ 1000000) (hm : ys.length ≤ 1000000) :
    Calls Try.prog 19 #[va, vb] w fun e w' => e = .returned (.bool (decide (xs = ys))) ∧ Ext w w' := by
  obtain ⟨a1, c1, rfl, hx1⟩ := hA
  obtain ⟨a2, c2, rfl, hx2⟩ := hB
  have HX1 := Lib.hid hx1
  have HX2 := Lib.hid hx2
  clear hx1 hx2
  have hpc := plus_cell
  obtain ⟨r, hr⟩ : ∃ r, decide (xs = ys) = r := ⟨_, rfl⟩
  have HR := Lib.hid hr
  rw [hr]
  clear hr
  by_cases hlen : xs.length = ys.length
  · have HLEN := Lib.hid hlen
    have hne : ((xs.length : Int) != (ys.length : Int)) = false := by simp; omega
    clear hlen
    go_enter Try.func19, Try.ntmps19
    go_wp2
    go_loopw [5] (fun i wr => ∃ k : Nat, k ≤ xs.length ∧ i = .int .i64 k ∧ (∀ (j : Nat) (h1 : j < xs.length) (h2 : j < ys.length), j < k → xs[j] = ys[j]) ∧ Ext w wr)
      (fun i _ => xs.length - (intOf i).toNat)
    case atStart => exact ⟨0, Nat.zero_le _, rfl, (fun j _ _ h => by omega), Ext.refl _⟩
    case round =>
      obtain ⟨k, hk, rfl, hall, hE⟩ := hrel
      have HALL := Lib.hid hall
      clear hall
      by_cases hlt : k < xs.length
      · have hlt2 : k < ys.length := by have := HLEN.out; omega
        obtain ⟨g, o, rfl, hg, h0⟩ := HX1.out k hlt
        obtain ⟨g', o', rfl, hg', h0'⟩ := HX2.out k hlt2
        have hc := hE.cells.1
        have hsz := hE.size
        have q1 : g < wr.heap.size := by omega
        have q2 : g' < wr.heap.size := by omega
        obtain ⟨x, hx⟩ : ∃ x, xs[k] = x := ⟨_, rfl⟩
        obtain ⟨y, hy⟩ : ∃ y, ys[k] = y := ⟨_, rfl⟩
        rw [hx] at h0
        rw [hy] at h0'
        have HX := Lib.hid hx
        have HY := Lib.hid hy
        clear hx hy
        by_cases hxy : x = y
        · subst hxy
          go_wp2
          refine wp_region_ext 9 (fun _ _ d _ _ h => by cases d <;> exact h) (by kernel_rfl) (by kernel_rfl) (by kernel_rfl) (by kernel_rfl) ?_
          simp only [List.take_succ_cons, List.take_zero, List.drop_succ_cons, List.drop_zero]
          repeat (any_goals (first | quiet_step (fail) | (refine wpQuiet_step (fun K hK => ?_); go_simp; split <;> (refine hK _ ?_; clear hK K))))
          all_goals (refine wpQuiet_nil ?_; intro w' hE')
          unfold wpList
          go_wp2
          go_roundw
          case rel => exact ⟨k + 1, by omega, by go_num, (fun j h1 h2 hj => by
            by_cases hjk : j = k
            · subst hjk; rw [HX.out, HY.out]
            · exact HALL.out j h1 h2 (by omega)), hE.trans hE'⟩
          case measure => simp [intOf]; omega
        · have hxy' : (x != y) = true := by simp [hxy]
          have HNE := Lib.hid hxy
          clear hxy
          go_wp2
          refine wp_region_ext 9 (fun _ _ d _ _ h => by cases d <;> exact h) (by kernel_rfl) (by kernel_rfl) (by kernel_rfl) (by kernel_rfl) ?_
          simp only [List.take_succ_cons, List.take_zero, List.drop_succ_cons, List.drop_zero]
          repeat (any_goals (first | quiet_step (fail) | (refine wpQuiet_step (fun K hK => ?_); go_simp; split <;> (refine hK _ ?_; clear hK K))))
          all_goals (refine wpQuiet_nil ?_; intro w' hE')
          unfold wpList
          go_wp2
          go_ret
          refine ⟨ret_bool ?_, by (with_reducible (repeat (first | exact Ext.refl _ | assumption | apply Ext.alloc | apply Ext.drew | exact ext_plus _ _ | (apply Ext.setCell; rotate_left; (simp <;> omega)) | (apply Ext.trans; rotate_left; exact ext_plus _ _) | (apply Ext.trans; rotate_left; assumption))))⟩
          rw [← HR.out, eq_comm, decide_eq_false_iff_not]
          intro e
          subst e
          exact HNE.out (HX.out.symm.trans HY.out)
      · have HT : Hid (r = true) := by
          show r = true
          rw [← HR.out, decide_eq_true_iff]
          exact list_eq_of HLEN.out fun j h1 h2 => HALL.out j h1 h2 (by omega)
        go_wp2
        go_ret
        exact ⟨ret_bool HT.out.symm, hE⟩
  · have HF : Hid (r = false) := by
      show r = false
      rw [← HR.out, decide_eq_false_iff_not]
      intro e; exact hlen (by rw [e])
    have hne : ((xs.length : Int) != (ys.length : Int)) = true := by simp; omega
    clear hlen
    go_enter Try.func19, Try.ntmps19
    go_wp2
    go_ret
    exact ⟨ret_bool HF.out.symm, by (with_reducible (repeat (first | exact Ext.refl _ | assumption | apply Ext.alloc | apply Ext.drew | exact ext_plus _ _ | (apply Ext.setCell; rotate_left; (simp <;> omega)) | (apply Ext.trans; rotate_left; exact ext_plus _ _) | (apply Ext.trans; rotate_left; assumption))))⟩
theorem span_neq (x y : Int × Int) (w : World) : (binOp .neq 25 (.agg #[.int .i64 x.1, .int .i64 x.2]) (.agg #[.int .i64 y.1, .int .i64 y.2])).run Try.prog w = .ok (.bool (!decide (x = y))) w := by
  rw [run_neq_struct, run_equalIn_agg w 9999 _ _ _ (by kernel_rfl) (by kernel_rfl)]
  have hu := Try.underlying25
  have hi := Try.underlying3
  have hp : ∀ (a b : Value) (w : World), (part 3 #[a, b] 0).run Try.prog w = .ok a w := fun _ _ _ => by kernel_rfl
  have hq : ∀ (a b : Value) (w : World), (part 3 #[a, b] 1).run Try.prog w = .ok b w := fun _ _ _ => by kernel_rfl
  simp only [Program.fieldsOf, hu, Op.eqFields]
  by_cases h1 : x.1 = y.1
  · by_cases h2 : x.2 = y.2
    · have e : x = y := Prod.ext h1 h2
      subst e
      simp [hp, hq, run_equalIn_int w 9998 _ _ _ _ _ hi, Op.eqFields, Result.andThen]
    · have e : ¬ x = y := fun e => h2 (by rw [e])
      simp [hp, hq, run_equalIn_int w 9998 _ _ _ _ _ hi, h1, h2, e, Op.eqFields, Result.andThen]
  · have e : ¬ x = y := fun e => h1 (by rw [e])
    simp [hp, hq, run_equalIn_int w 9998 _ _ _ _ _ hi, h1, e, Op.eqFields, Result.andThen]
theorem span_guard : Try.prog.eqGuardType Try.prog.depth 25 = false := by kernel_rfl
set_option maxHeartbeats 1000000 in
theorem rsameSpans_any (xs ys : List (Int × Int)) (va vb : Value) (w : World) (hA : Spans w va xs) (hB : Spans w vb ys) (hn : xs.length ≤ 1000000) (hm : ys.length ≤ 1000000) :
    Calls Try.prog 22 #[va, vb] w fun e w' => e = .returned (.bool (decide (xs = ys))) ∧ Ext w w' := by
  obtain ⟨a1, c1, rfl, hx1⟩ := hA
  obtain ⟨a2, c2, rfl, hx2⟩ := hB
  have HX1 := Lib.hid hx1
  have HX2 := Lib.hid hx2
  clear hx1 hx2
  have hpc := plus_cell
  obtain ⟨r, hr⟩ : ∃ r, decide (xs = ys) = r := ⟨_, rfl⟩
  have HR := Lib.hid hr
  rw [hr]
  clear hr
  by_cases hlen : xs.length = ys.length
  · have HLEN := Lib.hid hlen
    have hne : ((xs.length : Int) != (ys.length : Int)) = false := by simp; omega
    clear hlen
    go_enter Try.func22, Try.ntmps22
    go_wp2
    go_loopw [5] (fun i wr => ∃ k : Nat, k ≤ xs.length ∧ i = .int .i64 k ∧ (∀ (j : Nat) (h1 : j < xs.length) (h2 : j < ys.length), j < k → xs[j] = ys[j]) ∧ Ext w wr)
      (fun i _ => xs.length - (intOf i).toNat)
    case atStart => exact ⟨0, Nat.zero_le _, rfl, (fun j _ _ h => by omega), Ext.refl _⟩
    case round =>
      obtain ⟨k, hk, rfl, hall, hE⟩ := hrel
      have HALL := Lib.hid hall
      clear hall
      by_cases hlt : k < xs.length
      · have hlt2 : k < ys.length := by have := HLEN.out; omega
        obtain ⟨g, o, rfl, hg, h0, h1⟩ := HX1.out k hlt
        obtain ⟨g', o', rfl, hg', h0', h1'⟩ := HX2.out k hlt2
        have hc := hE.cells.1
        have hsz := hE.size
        have q1 : g < wr.heap.size := by omega
        have q2 : g' < wr.heap.size := by omega
        obtain ⟨x, hx⟩ : ∃ x, xs[k] = x := ⟨_, rfl⟩
        obtain ⟨y, hy⟩ : ∃ y, ys[k] = y := ⟨_, rfl⟩
        rw [hx] at h0 h1
        rw [hy] at h0' h1'
        have HX := Lib.hid hx
        have HY := Lib.hid hy
        clear hx hy
        have hgd := span_guard
        by_cases hxy : x = y
        · subst hxy
          have hcmp : ∀ w : World, (binOp .neq 25 (.agg #[.int .i64 x.1, .int .i64 x.2]) (.agg #[.int .i64 x.1, .int .i64 x.2])).run Try.prog w = .ok (.bool false) w := fun w => by rw [span_neq]; simp
          go_wp2
          refine wp_region_ext 9 (fun _ _ d _ _ h => by cases d <;> exact h) (by kernel_rfl) (by kernel_rfl) (by kernel_rfl) (by kernel_rfl) ?_
          simp only [List.take_succ_cons, List.take_zero, List.drop_succ_cons, List.drop_zero]
          repeat (any_goals (first | quiet_step (fail) | (refine wpQuiet_step (fun K hK => ?_); go_simp; split <;> (refine hK _ ?_; clear hK K))))
          all_goals (refine wpQuiet_nil ?_; intro w' hE')
          unfold wpList
          go_wp2
          go_roundw
          case rel => exact ⟨k + 1, by omega, by go_num, (fun j h1 h2 hj => by
            by_cases hjk : j = k
            · subst hjk; rw [HX.out, HY.out]
            · exact HALL.out j h1 h2 (by omega)), hE.trans hE'⟩
          case measure => simp [intOf]; omega
        · have hcmp : ∀ w : World, (binOp .neq 25 (.agg #[.int .i64 x.1, .int .i64 x.2]) (.agg #[.int .i64 y.1, .int .i64 y.2])).run Try.prog w = .ok (.bool true) w := fun w => by rw [span_neq]; simp [hxy]
          have HNE := Lib.hid hxy
          clear hxy
          go_wp2
          refine wp_region_ext 9 (fun _ _ d _ _ h => by cases d <;> exact h) (by kernel_rfl) (by kernel_rfl) (by kernel_rfl) (by kernel_rfl) ?_
          simp only [List.take_succ_cons, List.take_zero, List.drop_succ_cons, List.drop_zero]
          repeat (any_goals (first | quiet_step (fail) | (refine wpQuiet_step (fun K hK => ?_); go_simp; split <;> (refine hK _ ?_; clear hK K))))
          all_goals (refine wpQuiet_nil ?_; intro w' hE')
          unfold wpList
          go_wp2
          go_ret
          refine ⟨ret_bool ?_, by (with_reducible (repeat (first | exact Ext.refl _ | assumption | apply Ext.alloc | apply Ext.drew | exact ext_plus _ _ | (apply Ext.setCell; rotate_left; (simp <;> omega)) | (apply Ext.trans; rotate_left; exact ext_plus _ _) | (apply Ext.trans; rotate_left; assumption))))⟩
          rw [← HR.out, eq_comm, decide_eq_false_iff_not]
          intro e
          subst e
          exact HNE.out (HX.out.symm.trans HY.out)
      · have HT : Hid (r = true) := by
          show r = true
          rw [← HR.out, decide_eq_true_iff]
          exact list_eq_of HLEN.out fun j h1 h2 => HALL.out j h1 h2 (by omega)
        go_wp2
        go_ret
        exact ⟨ret_bool HT.out.symm, hE⟩
  · have HF : Hid (r = false) := by
      show r = false
      rw [← HR.out, decide_eq_false_iff_not]
      intro e; exact hlen (by rw [e])
    have hne : ((xs.length : Int) != (ys.length : Int)) = true := by simp; omega
    clear hlen
    go_enter Try.func22, Try.ntmps22
    go_wp2
    go_ret
    exact ⟨ret_bool HF.out.symm, by (with_reducible (repeat (first | exact Ext.refl _ | assumption | apply Ext.alloc | apply Ext.drew | exact ext_plus _ _ | (apply Ext.setCell; rotate_left; (simp <;> omega)) | (apply Ext.trans; rotate_left; exact ext_plus _ _) | (apply Ext.trans; rotate_left; assumption))))⟩
def shortB (s : W.Shore) : Bool := decide (s.cells.length ≤ 12) && decide (s.works.length ≤ 8)
theorem short_any (s : W.Shore) (vc vw : Value) (w : World) (hC : Cells w vc s.cells) (hW : Works w vw s.works) :
    Calls Try.prog 14 #[shoreA s vc vw] w fun e w' => e = .returned (.bool (shortB s)) ∧ Ext w w' := by
  obtain ⟨a1, c1, rfl, _⟩ := hC
  obtain ⟨a2, c2, rfl, _⟩ := hW
  go_enter Try.func14, Try.ntmps14
  go_wp2
  all_goals (go_ret; refine ⟨ret_bool ?_, by (with_reducible (repeat (first | exact Ext.refl _ | assumption | apply Ext.alloc | apply Ext.drew | exact ext_plus _ _ | (apply Ext.setCell; rotate_left; (simp <;> omega)) | (apply Ext.trans; rotate_left; exact ext_plus _ _) | (apply Ext.trans; rotate_left; assumption))))⟩; rw [Bool.eq_iff_iff]; simp [shortB]; omega)
set_option maxHeartbeats 1000000 in
theorem built_any (s : W.Shore) (c : W.Storm) (plan : List Int) (vc vw vp : Value) (w : World) (hC : Cells w vc s.cells) (hW : Works w vw s.works) (hP : Ints w vp plan) (hn : s.cells.length ≤ 1000000) (hm : s.works.length ≤ 1000000) (hp : plan.length ≤ 1000000) :
    Calls Try.prog 17 #[shoreA s vc vw, stormA c, vp] w fun e w' => e = .returned (.bool (W.okB s c && W.planB s plan)) ∧ Ext w w' := by
  have hC' := hC
  have hW' := hW
  have hP' := hP
  obtain ⟨a1, c1, rfl, _⟩ := hC'
  obtain ⟨a2, c2, rfl, _⟩ := hW'
  obtain ⟨a3, c3, rfl, _⟩ := hP'
  have HS := Lib.hid (fun w' (hx : Ext w w') => rshore_any s _ _ w' (hC.ext hx) (hW.ext hx) hn hm)
  have HP := Lib.hid (fun w' (hx : Ext w w') => rplan_any s plan _ _ _ w' (hC.ext hx) (hW.ext hx) (hP.ext hx) hn hm hp)
  go_enter Try.func17, Try.ntmps17
  go_wp2_with (first | (go_at_call 25; refine (HS.out _ (by (with_reducible (repeat (first | exact Ext.refl _ | assumption | apply Ext.alloc | apply Ext.drew | exact ext_plus _ _ | (apply Ext.setCell; rotate_left; (simp <;> omega)) | (apply Ext.trans; rotate_left; exact ext_plus _ _) | (apply Ext.trans; rotate_left; assumption)))))).mono ?_; rintro e w1 ⟨rfl, hb1⟩; have hcq := hb1.cells.1; have hzq := hb1.size; (try simp only [World.size_alloc] at hzq); have k0 : w.heap.size < w1.heap.size := (by omega); have k1 : w.heap.size + 1 < w1.heap.size := (by omega)) | (go_at_call 28; refine (rstorm_any c _).mono ?_; rintro e w2 ⟨rfl, hb2⟩; have hcr := hb2.cells.1) | (go_at_call 46; refine (HP.out _ (by (with_reducible (repeat (first | exact Ext.refl _ | assumption | apply Ext.alloc | apply Ext.drew | exact ext_plus _ _ | (apply Ext.setCell; rotate_left; (simp <;> omega)) | (apply Ext.trans; rotate_left; exact ext_plus _ _) | (apply Ext.trans; rotate_left; assumption)))))).mono ?_; rintro e w3 ⟨rfl, hb3⟩))
  all_goals (go_ret; refine ⟨ret_bool ?_, by (with_reducible (repeat (first | exact Ext.refl _ | assumption | apply Ext.alloc | apply Ext.drew | exact ext_plus _ _ | (apply Ext.setCell; rotate_left; (simp <;> omega)) | (apply Ext.trans; rotate_left; exact ext_plus _ _) | (apply Ext.trans; rotate_left; assumption))))⟩; simp [W.okB, *])
/-- The document's shore, its storms. -/
def exShore : W.Shore := ⟨[⟨100, 10, 20, -1⟩, ⟨150, 20, 30, -1⟩, ⟨180, 20, 40, 10⟩, ⟨175, 10, 20, 0⟩], [⟨60, 0, 50⟩, ⟨0, 25, 20⟩], 2, 100, 200⟩
def exStorm : W.Storm := ⟨200, 300, 500, 1000, 20, 50⟩
theorem exStorm_any (w : World) : Calls Try.prog 50 #[] w fun e w' => e = .returned (stormA exStorm) ∧ Ext w w' := by
  go_enter Try.func50, Try.ntmps50
  go_wp2
  refine bodyPost_ret (v := stormA exStorm) (by simp [results, Try.results50, go_sem, exStorm]) rfl ⟨rfl, ?_⟩
  (with_reducible (repeat (first | exact Ext.refl _ | assumption | apply Ext.alloc | apply Ext.drew | exact ext_plus _ _ | (apply Ext.setCell; rotate_left; (simp <;> omega)) | (apply Ext.trans; rotate_left; exact ext_plus _ _) | (apply Ext.trans; rotate_left; assumption))))
theorem exNone_any (w : World) : Calls Try.prog 51 #[] w fun e w' => ∃ v, e = .returned v ∧ Ints w' v [-1, -1, -1, -1] ∧ Ext w w' := by
  go_enter Try.func51, Try.ntmps51
  go_wp2
  refine bodyPost_ret (v := .slice (some ⟨w.heap.size, 0, none⟩) 4 4) (by simp [results, Try.results51, go_sem]) rfl ⟨_, rfl, ?_, by (with_reducible (repeat (first | exact Ext.refl _ | assumption | apply Ext.alloc | apply Ext.drew | exact ext_plus _ _ | (apply Ext.setCell; rotate_left; (simp <;> omega)) | (apply Ext.trans; rotate_left; exact ext_plus _ _) | (apply Ext.trans; rotate_left; assumption))))⟩
  refine (IntsB.of_blk (xs := [-1, -1, -1, -1]) (Blk.new' rfl _ _) (fun i hi => ?_) 4).1
  match i, hi with
  | 0, _ => rfl
  | 1, _ => rfl
  | 2, _ => rfl
  | 3, _ => rfl
theorem exShore_any (w : World) : Calls Try.prog 49 #[] w fun e w' => ∃ vc vw, e = .returned (shoreA exShore vc vw) ∧ Cells w' vc exShore.cells ∧ Works w' vw exShore.works ∧ Room vc ∧ Ext w w' := by
  go_enter Try.func49, Try.ntmps49
  go_wp2
  refine bodyPost_ret (v := shoreA exShore (.slice (some ⟨w.heap.size + 1, 0, none⟩) 4 4) (.slice (some ⟨w.heap.size + 1 + 1, 0, none⟩) 2 2)) (by simp [results, Try.results49, go_sem, exShore]) rfl ⟨_, _, rfl, ?_, ?_, by show 4 ≤ 4; omega, by (with_reducible (repeat (first | exact Ext.refl _ | assumption | apply Ext.alloc | apply Ext.drew | exact ext_plus _ _ | (apply Ext.setCell; rotate_left; (simp <;> omega)) | (apply Ext.trans; rotate_left; exact ext_plus _ _) | (apply Ext.trans; rotate_left; assumption))))⟩
  · refine ⟨_, _, rfl, fun i hi => ⟨w.heap.size + 1, 0, rfl, by simp, ?_⟩⟩
    have h := fun o => (Blk.alloc (Blk.new' (b := w.heap.size + 1) (w := w.alloc (.cells #[.slice (some ⟨w.heap.size + 1, 0, none⟩) 4 4, .slice (some ⟨w.heap.size + 1 + 1, 0, none⟩) 2 2, .int .i64 2, .int .i64 100, .int .i64 200] 27)) (by simp) #[.int .i64 100, .int .i64 10, .int .i64 20, .int .i64 (-1), .int .i64 150, .int .i64 20, .int .i64 30, .int .i64 (-1), .int .i64 180, .int .i64 20, .int .i64 40, .int .i64 10, .int .i64 175, .int .i64 10, .int .i64 20, .int .i64 0] 51) (.cells #[.int .i64 60, .int .i64 0, .int .i64 50, .int .i64 0, .int .i64 25, .int .i64 20] 65)).cell o
    have hi4 : i < 4 := hi
    match i, hi4 with
    | 0, _ => exact ⟨(h 0).trans rfl, (h 1).trans rfl, (h 2).trans rfl, (h 3).trans rfl⟩
    | 1, _ => exact ⟨(h 4).trans rfl, (h 5).trans rfl, (h 6).trans rfl, (h 7).trans rfl⟩
    | 2, _ => exact ⟨(h 8).trans rfl, (h 9).trans rfl, (h 10).trans rfl, (h 11).trans rfl⟩
    | 3, _ => exact ⟨(h 12).trans rfl, (h 13).trans rfl, (h 14).trans rfl, (h 15).trans rfl⟩
  · refine ⟨_, _, rfl, fun i hi => ⟨w.heap.size + 1 + 1, 0, rfl, by simp, ?_⟩⟩
    have h := fun o => (Blk.new' (b := w.heap.size + 1 + 1) (w := (w.alloc (.cells #[.slice (some ⟨w.heap.size + 1, 0, none⟩) 4 4, .slice (some ⟨w.heap.size + 1 + 1, 0, none⟩) 2 2, .int .i64 2, .int .i64 100, .int .i64 200] 27)).alloc (.cells #[.int .i64 100, .int .i64 10, .int .i64 20, .int .i64 (-1), .int .i64 150, .int .i64 20, .int .i64 30, .int .i64 (-1), .int .i64 180, .int .i64 20, .int .i64 40, .int .i64 10, .int .i64 175, .int .i64 10, .int .i64 20, .int .i64 0] 51)) (by simp) #[.int .i64 60, .int .i64 0, .int .i64 50, .int .i64 0, .int .i64 25, .int .i64 20] 65).cell o
    have hi2 : i < 2 := hi
    match i, hi2 with
    | 0, _ => exact ⟨(h 0).trans rfl, (h 1).trans rfl, (h 2).trans rfl⟩
    | 1, _ => exact ⟨(h 3).trans rfl, (h 4).trans rfl, (h 5).trans rfl⟩
end Go.Proofs.Ytmlobiajimlboaa
