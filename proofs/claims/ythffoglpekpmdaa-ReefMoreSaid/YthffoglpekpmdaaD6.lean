/- Equal lists, as the document asks it. -/
import Derived.Test.YthffoglpekpmdaaD1
import Derived.Laws.StructEq
namespace Go.Proofs.Ythffoglpekpmdaa
set_option linter.unusedVariables false
set_option linter.unusedSimpArgs false
open Go.RowKit
theorem list_eq_of {α : Type} {xs ys : List α} (hl : xs.length = ys.length) (h : ∀ (j : Nat) (h1 : j < xs.length) (h2 : j < ys.length), xs[j] = ys[j]) : xs = ys :=
  List.ext_getElem hl h
set_option maxRecDepth 100000 in
set_option maxHeartbeats 4000000 in
theorem dsame_any (xs ys : List Int) (va vb : Value) (w : World) (hA : Ints w va xs) (hB : Ints w vb ys) (hn : xs.length ≤ 1000000) (hm : ys.length ≤ 1000000) :
    Calls Try.prog 31 #[va, vb] w fun e w' => e = .returned (.bool (decide (xs = ys))) ∧ Ext w w' := by
  obtain ⟨a1, c1, rfl, hx1⟩ := hA
  obtain ⟨a2, c2, rfl, hx2⟩ := hB
  have HX1 := Lib.hid hx1
  have HX2 := Lib.hid hx2
  clear hx1 hx2
  have hpc := plus_cell
  obtain ⟨r, hr⟩ : ∃ r, decide (xs = ys) = r := ⟨_, rfl⟩
  have HR := Lib.hid hr
  rw [hr]
  clear hr
  by_cases hlen : xs.length = ys.length
  · have HLEN := Lib.hid hlen
    have hne : ((xs.length : Int) != (ys.length : Int)) = false := by simp; omega
    clear hlen
    go_enter Try.func31, Try.ntmps31
    go_wp2
    go_loopw [5] (fun i wr => ∃ k : Nat, k ≤ xs.length ∧ i = .int .i64 k ∧ (∀ (j : Nat) (h1 : j < xs.length) (h2 : j < ys.length), j < k → xs[j] = ys[j]) ∧ Ext w wr)
      (fun i _ => xs.length - (intOf i).toNat)
    case atStart => exact ⟨0, Nat.zero_le _, rfl, (fun j _ _ h => by omega), Ext.refl _⟩
    case round =>
      obtain ⟨k, hk, rfl, hall, hE⟩ := hrel
      have HALL := Lib.hid hall
      clear hall
      by_cases hlt : k < xs.length
      · have hlt2 : k < ys.length := by have := HLEN.out; omega
        obtain ⟨g, o, rfl, hg, h0⟩ := HX1.out k hlt
        obtain ⟨g', o', rfl, hg', h0'⟩ := HX2.out k hlt2
        have hc := hE.cells.1
        have hsz := hE.size
        have q1 : g < wr.heap.size := by omega
        have q2 : g' < wr.heap.size := by omega
        obtain ⟨x, hx⟩ : ∃ x, xs[k] = x := ⟨_, rfl⟩
        obtain ⟨y, hy⟩ : ∃ y, ys[k] = y := ⟨_, rfl⟩
        rw [hx] at h0
        rw [hy] at h0'
        have HX := Lib.hid hx
        have HY := Lib.hid hy
        clear hx hy
        by_cases hxy : x = y
        · subst hxy
          go_wp2
          refine wp_region_ext 9 (fun _ _ d _ _ h => by cases d <;> exact h) (by kernel_rfl) (by kernel_rfl) (by kernel_rfl) (by kernel_rfl) ?_
          simp only [List.take_succ_cons, List.take_zero, List.drop_succ_cons, List.drop_zero]
          repeat (any_goals (first | quiet_step (fail) | (refine wpQuiet_step (fun K hK => ?_); go_simp; split <;> (refine hK _ ?_; clear hK K))))
          all_goals (refine wpQuiet_nil ?_; intro w' hE')
          unfold wpList
          go_wp2
          go_roundw
          case rel => exact ⟨k + 1, by omega, by go_num, (fun j h1 h2 hj => by
            by_cases hjk : j = k
            · subst hjk; rw [HX.out, HY.out]
            · exact HALL.out j h1 h2 (by omega)), hE.trans hE'⟩
          case measure => simp [intOf]; omega
        · have hxy' : (x != y) = true := by simp [hxy]
          have HNE := Lib.hid hxy
          clear hxy
          go_wp2
          refine wp_region_ext 9 (fun _ _ d _ _ h => by cases d <;> exact h) (by kernel_rfl) (by kernel_rfl) (by kernel_rfl) (by kernel_rfl) ?_
          simp only [List.take_succ_cons, List.take_zero, List.drop_succ_cons, List.drop_zero]
          repeat (any_goals (first | quiet_step (fail) | (refine wpQuiet_step (fun K hK => ?_); go_simp; split <;> (refine hK _ ?_; clear hK K))))
          all_goals (refine wpQuiet_nil ?_; intro w' hE')
          unfold wpList
          go_wp2
          go_ret
          refine ⟨ret_bool ?_, by (with_reducible (repeat (first | exact Ext.refl _ | assumption | apply Ext.alloc | apply Ext.drew | exact ext_plus _ _ | (apply Ext.setCell; rotate_left; (simp <;> omega)) | (apply Ext.trans; rotate_left; exact ext_plus _ _) | (apply Ext.trans; rotate_left; assumption))))⟩
          rw [← HR.out, eq_comm, decide_eq_false_iff_not]
          intro e
          subst e
          exact HNE.out (HX.out.symm.trans HY.out)
      · have HT : Hid (r = true) := by
          show r = true
          rw [← HR.out, decide_eq_true_iff]
          exact list_eq_of HLEN.out fun j h1 h2 => HALL.out j h1 h2 (by omega)
        go_wp2
        go_ret
        exact ⟨ret_bool HT.out.symm, hE⟩
  · have HF : Hid (r = false) := by
      show r = false
      rw [← HR.out, decide_eq_false_iff_not]
      intro e; exact hlen (by rw [e])
    have hne : ((xs.length : Int) != (ys.length : Int)) = true := by simp; omega
    clear hlen
    go_enter Try.func31, Try.ntmps31
    go_wp2
    go_ret
    exact ⟨ret_bool HF.out.symm, by (with_reducible (repeat (first | exact Ext.refl _ | assumption | apply Ext.alloc | apply Ext.drew | exact ext_plus _ _ | (apply Ext.setCell; rotate_left; (simp <;> omega)) | (apply Ext.trans; rotate_left; exact ext_plus _ _) | (apply Ext.trans; rotate_left; assumption))))⟩
theorem span_neq (x y : Int × Int) (w : World) : (binOp .neq 44 (.agg #[.int .i64 x.1, .int .i64 x.2]) (.agg #[.int .i64 y.1, .int .i64 y.2])).run Try.prog w = .ok (.bool (!decide (x = y))) w := by
  rw [run_neq_struct, run_equalIn_agg w 9999 _ _ _ (by kernel_rfl) (by kernel_rfl)]
  have hu := Try.underlying44
  have hi := Try.underlying3
  have hp : ∀ (a b : Value) (w : World), (part 3 #[a, b] 0).run Try.prog w = .ok a w := fun _ _ _ => by kernel_rfl
  have hq : ∀ (a b : Value) (w : World), (part 3 #[a, b] 1).run Try.prog w = .ok b w := fun _ _ _ => by kernel_rfl
  simp only [Program.fieldsOf, hu, Op.eqFields]
  by_cases h1 : x.1 = y.1
  · by_cases h2 : x.2 = y.2
    · have e : x = y := Prod.ext h1 h2
      subst e
      simp [hp, hq, run_equalIn_int w 9998 _ _ _ _ _ hi, Op.eqFields, Result.andThen]
    · have e : ¬ x = y := fun e => h2 (by rw [e])
      simp [hp, hq, run_equalIn_int w 9998 _ _ _ _ _ hi, h1, h2, e, Op.eqFields, Result.andThen]
  · have e : ¬ x = y := fun e => h1 (by rw [e])
    simp [hp, hq, run_equalIn_int w 9998 _ _ _ _ _ hi, h1, e, Op.eqFields, Result.andThen]
theorem span_guard : Try.prog.eqGuardType Try.prog.depth 44 = false := by kernel_rfl
set_option maxRecDepth 100000 in
set_option maxHeartbeats 4000000 in
theorem dsameRows_any (xs ys : List (List Int)) (va vb : Value) (w : World) (hA : Lists w va xs) (hB : Lists w vb ys) (hn : xs.length ≤ 1000000) (hm : ys.length ≤ 1000000) (hn2 : ∀ l ∈ xs, l.length ≤ 1000000) (hm2 : ∀ l ∈ ys, l.length ≤ 1000000) :
    Calls Try.prog 22 #[va, vb] w fun e w' => e = .returned (.bool (decide (xs = ys))) ∧ Ext w w' := by
  obtain ⟨a1, c1, rfl, hx1⟩ := hA
  obtain ⟨a2, c2, rfl, hx2⟩ := hB
  have HX1 := Lib.hid hx1
  have HX2 := Lib.hid hx2
  clear hx1 hx2
  have hpc := plus_cell
  obtain ⟨r, hr⟩ : ∃ r, decide (xs = ys) = r := ⟨_, rfl⟩
  have HR := Lib.hid hr
  rw [hr]
  clear hr
  by_cases hlen : xs.length = ys.length
  · have HLEN := Lib.hid hlen
    have hne : ((xs.length : Int) != (ys.length : Int)) = false := by simp; omega
    clear hlen
    go_enter Try.func22, Try.ntmps22
    go_wp2
    go_loopw [5] (fun i wr => ∃ k : Nat, k ≤ xs.length ∧ i = .int .i64 k ∧ (∀ (j : Nat) (h1 : j < xs.length) (h2 : j < ys.length), j < k → xs[j] = ys[j]) ∧ Ext w wr)
      (fun i _ => xs.length - (intOf i).toNat)
    case atStart => exact ⟨0, Nat.zero_le _, rfl, (fun j _ _ h => by omega), Ext.refl _⟩
    case round =>
      obtain ⟨k, hk, rfl, hall, hE⟩ := hrel
      have HALL := Lib.hid hall
      clear hall
      by_cases hlt : k < xs.length
      · have hlt2 : k < ys.length := by have := HLEN.out; omega
        obtain ⟨g, o, rfl, hg, v1, h0, hv1, _⟩ := HX1.out k hlt
        obtain ⟨g', o', rfl, hg', v2, h0', hv2, _⟩ := HX2.out k hlt2
        simp only [Nat.mul_one] at h0 h0'
        have hsz := hE.size
        have q1 : g < wr.heap.size := by omega
        have q2 : g' < wr.heap.size := by omega
        have cu1 := (hE.cells.1 _ _ hg).trans h0
        have cu2 := (hE.cells.1 _ _ hg').trans h0'
        have hl1 := hn2 _ (List.getElem_mem hlt)
        have hl2 := hm2 _ (List.getElem_mem hlt2)
        clear h0 h0'
        obtain ⟨x, hx⟩ : ∃ x, xs[k] = x := ⟨_, rfl⟩
        obtain ⟨y, hy⟩ : ∃ y, ys[k] = y := ⟨_, rfl⟩
        rw [hx] at hv1 hl1
        rw [hy] at hv2 hl2
        have HX := Lib.hid hx
        have HY := Lib.hid hy
        clear hx hy
        have hsm := fun w' (hx : Ext w w') => dsame_any x y v1 v2 w' (hv1.ext hx) (hv2.ext hx) hl1 hl2
        obtain ⟨a3, c3, rfl, _⟩ := id hv1
        obtain ⟨a4, c4, rfl, _⟩ := id hv2
        clear hv1 hv2 hl1 hl2
        by_cases hxy : x = y
        · have hd : decide (x = y) = true := by simp [hxy]
          simp only [hd] at hsm
          have HSM := Lib.hid hsm
          have HXY := Lib.hid hxy
          clear hsm hd hxy
          go_wp2
          refine wp_region_ext 10 (fun _ _ d _ _ h => by cases d <;> exact h) (by kernel_rfl) (by kernel_rfl) (by kernel_rfl) (by kernel_rfl) ?_
          simp only [List.take_succ_cons, List.take_zero, List.drop_succ_cons, List.drop_zero]
          repeat (any_goals (first | quiet_step ((go_at_call 31; exact ext_quiet (HSM.out _ (by (with_reducible (repeat (first | exact Ext.refl _ | assumption | apply Ext.alloc | apply Ext.drew | exact ext_plus _ _ | (apply Ext.setCell; rotate_left; (simp <;> omega)) | (apply Ext.trans; rotate_left; exact ext_plus _ _) | (apply Ext.trans; rotate_left; assumption)))))))) | (refine wpQuiet_step (fun K hK => ?_); go_simp; split <;> (refine hK _ ?_; clear hK K))))
          all_goals (refine wpQuiet_nil ?_; intro w' hE')
          go_wp2
          go_roundw
          case rel => exact ⟨k + 1, by omega, by go_num, (fun j h1 h2 hj => by
            by_cases hjk : j = k
            · subst hjk; rw [HX.out, HY.out]; exact HXY.out
            · exact HALL.out j h1 h2 (by omega)), hE.trans hE'⟩
          case measure => simp [intOf]; omega
        · have hd : decide (x = y) = false := by simp [hxy]
          simp only [hd] at hsm
          have HSM := Lib.hid hsm
          have HNE := Lib.hid hxy
          clear hsm hd hxy
          go_wp2
          refine wp_region_ext 10 (fun _ _ d _ _ h => by cases d <;> exact h) (by kernel_rfl) (by kernel_rfl) (by kernel_rfl) (by kernel_rfl) ?_
          simp only [List.take_succ_cons, List.take_zero, List.drop_succ_cons, List.drop_zero]
          repeat (any_goals (first | quiet_step ((go_at_call 31; exact ext_quiet (HSM.out _ (by (with_reducible (repeat (first | exact Ext.refl _ | assumption | apply Ext.alloc | apply Ext.drew | exact ext_plus _ _ | (apply Ext.setCell; rotate_left; (simp <;> omega)) | (apply Ext.trans; rotate_left; exact ext_plus _ _) | (apply Ext.trans; rotate_left; assumption)))))))) | (refine wpQuiet_step (fun K hK => ?_); go_simp; split <;> (refine hK _ ?_; clear hK K))))
          all_goals (refine wpQuiet_nil ?_; intro w' hE')
          go_wp2
          go_ret
          refine ⟨ret_bool ?_, by (with_reducible (repeat (first | exact Ext.refl _ | assumption | apply Ext.alloc | apply Ext.drew | exact ext_plus _ _ | (apply Ext.setCell; rotate_left; (simp <;> omega)) | (apply Ext.trans; rotate_left; exact ext_plus _ _) | (apply Ext.trans; rotate_left; assumption))))⟩
          rw [← HR.out, eq_comm, decide_eq_false_iff_not]
          intro e
          subst e
          exact HNE.out (HX.out.symm.trans HY.out)
      · have HT : Hid (r = true) := by
          show r = true
          rw [← HR.out, decide_eq_true_iff]
          exact list_eq_of HLEN.out fun j h1 h2 => HALL.out j h1 h2 (by omega)
        go_wp2
        go_ret
        exact ⟨ret_bool HT.out.symm, hE⟩
  · have HF : Hid (r = false) := by
      show r = false
      rw [← HR.out, decide_eq_false_iff_not]
      intro e; exact hlen (by rw [e])
    have hne : ((xs.length : Int) != (ys.length : Int)) = true := by simp; omega
    clear hlen
    go_enter Try.func22, Try.ntmps22
    go_wp2
    go_ret
    exact ⟨ret_bool HF.out.symm, by (with_reducible (repeat (first | exact Ext.refl _ | assumption | apply Ext.alloc | apply Ext.drew | exact ext_plus _ _ | (apply Ext.setCell; rotate_left; (simp <;> omega)) | (apply Ext.trans; rotate_left; exact ext_plus _ _) | (apply Ext.trans; rotate_left; assumption))))⟩
set_option maxRecDepth 100000 in
set_option maxHeartbeats 4000000 in
theorem dsameSpans_any (xs ys : List (List (Int × Int))) (va vb : Value) (w : World) (hA : SpanRows w va xs) (hB : SpanRows w vb ys) (hn : xs.length ≤ 1000000) (hm : ys.length ≤ 1000000) (hn2 : ∀ l ∈ xs, l.length ≤ 1000000) (hm2 : ∀ l ∈ ys, l.length ≤ 1000000) :
    Calls Try.prog 47 #[va, vb] w fun e w' => e = .returned (.bool (decide (xs = ys))) ∧ Ext w w' := by
  obtain ⟨a1, c1, rfl, hx1⟩ := hA
  obtain ⟨a2, c2, rfl, hx2⟩ := hB
  have HX1 := Lib.hid hx1
  have HX2 := Lib.hid hx2
  clear hx1 hx2
  have hpc := plus_cell
  obtain ⟨r, hr⟩ : ∃ r, decide (xs = ys) = r := ⟨_, rfl⟩
  have HR := Lib.hid hr
  rw [hr]
  clear hr
  by_cases hlen : xs.length = ys.length
  · have HLEN := Lib.hid hlen
    have hne : ((xs.length : Int) != (ys.length : Int)) = false := by simp; omega
    clear hlen
    go_enter Try.func47, Try.ntmps47
    go_wp2
    go_loopw [5] (fun i wr => ∃ k : Nat, k ≤ xs.length ∧ i = .int .i64 k ∧ (∀ (j : Nat) (h1 : j < xs.length) (h2 : j < ys.length), j < k → xs[j] = ys[j]) ∧ Ext w wr)
      (fun i _ => xs.length - (intOf i).toNat)
    case atStart => exact ⟨0, Nat.zero_le _, rfl, (fun j _ _ h => by omega), Ext.refl _⟩
    case round =>
      obtain ⟨k, hk, rfl, hall, hE⟩ := hrel
      have HALL := Lib.hid hall
      clear hall
      by_cases hlt : k < xs.length
      · have hlt2 : k < ys.length := by have := HLEN.out; omega
        obtain ⟨g, o, rfl, hg, v1, h0, hv1⟩ := HX1.out k hlt
        obtain ⟨g', o', rfl, hg', v2, h0', hv2⟩ := HX2.out k hlt2
        simp only [Nat.mul_one] at h0 h0'
        have hsz := hE.size
        have q1 : g < wr.heap.size := by omega
        have q2 : g' < wr.heap.size := by omega
        have cu1 := (hE.cells.1 _ _ hg).trans h0
        have cu2 := (hE.cells.1 _ _ hg').trans h0'
        have hl1 := hn2 _ (List.getElem_mem hlt)
        have hl2 := hm2 _ (List.getElem_mem hlt2)
        clear h0 h0'
        obtain ⟨x, hx⟩ : ∃ x, xs[k] = x := ⟨_, rfl⟩
        obtain ⟨y, hy⟩ : ∃ y, ys[k] = y := ⟨_, rfl⟩
        rw [hx] at hv1 hl1
        rw [hy] at hv2 hl2
        have HX := Lib.hid hx
        have HY := Lib.hid hy
        clear hx hy
        obtain ⟨a3, c3, rfl, hx3⟩ := hv1
        obtain ⟨a4, c4, rfl, hx4⟩ := hv2
        have HX3 := Lib.hid hx3
        have HX4 := Lib.hid hx4
        clear hx3 hx4
        by_cases hl : x.length = y.length
        · have HL := Lib.hid hl
          rw [← hl] at cu2
          clear hl hl2
          go_wp2
          refine wp_region_ext 11 (fun _ _ d _ _ h => by cases d <;> exact h) (by kernel_rfl) (by kernel_rfl) (by kernel_rfl) (by kernel_rfl) ?_
          simp only [List.take_succ_cons, List.take_zero, List.drop_succ_cons, List.drop_zero]
          repeat (any_goals (first | quiet_step (fail) | (refine wpQuiet_step (fun K hK => ?_); go_simp; split <;> (refine hK _ ?_; clear hK K))))
          all_goals (refine wpQuiet_nil ?_; intro w' hE')
          have hEr : Ext w w' := hE.trans hE'
          have q3 := Nat.lt_of_lt_of_le q1 hE'.size
          have q4 := Nat.lt_of_lt_of_le q2 hE'.size
          have cu3 := (hE'.cells.1 _ _ q1).trans cu1
          have cu4 := (hE'.cells.1 _ _ q2).trans cu2
          clear cu1 cu2 q1 q2
          go_wp2
          go_loopw [6] (fun i wx => ∃ j : Nat, j ≤ x.length ∧ i = .int .i64 j ∧ (∀ (i : Nat) (h1 : i < x.length) (h2 : i < y.length), i < j → x[i] = y[i]) ∧ Ext w' wx) (fun i _ => x.length - (intOf i).toNat)
          case atStart => exact ⟨0, Nat.zero_le _, rfl, (fun j _ _ h => by omega), Ext.refl _⟩
          case round =>
            rename World => wx
            obtain ⟨j, hj, rfl, hal2, hEx⟩ := hrel
            have HAL2 := Lib.hid hal2
            have cu5 := (hEx.cells.1 _ _ q3).trans cu3
            have cu6 := (hEx.cells.1 _ _ q4).trans cu4
            have q5 := Nat.lt_of_lt_of_le q3 hEx.size
            have q6 := Nat.lt_of_lt_of_le q4 hEx.size
            have hEw : Ext w wx := hEr.trans hEx
            clear hal2
            by_cases hlj : j < x.length
            · have hlj2 : j < y.length := by have := HL.out; omega
              obtain ⟨b5, o5, rfl, hb5, hAt5⟩ := HX3.out j hlj
              obtain ⟨b6, o6, rfl, hb6, hAt6⟩ := HX4.out j hlj2
              obtain ⟨t1, t2⟩ := span_cells (ate_stays _ _ _ _ _ _ hEw hb5 hAt5)
              obtain ⟨t3, t4⟩ := span_cells (ate_stays _ _ _ _ _ _ hEw hb6 hAt6)
              have q7 := Nat.lt_of_lt_of_le hb5 hEw.size
              have q8 := Nat.lt_of_lt_of_le hb6 hEw.size
              clear hAt5 hAt6
              generalize hX : x[j] = X at t1 t2
              generalize hY : y[j] = Y at t3 t4
              have HXX := Lib.hid hX
              have HYY := Lib.hid hY
              clear hX hY
              have hgd := span_guard
              by_cases hxy : X = Y
              · subst hxy
                have hcmp : ∀ w : World, (binOp .neq 44 (.agg #[.int .i64 X.1, .int .i64 X.2]) (.agg #[.int .i64 X.1, .int .i64 X.2])).run Try.prog w = .ok (.bool false) w := fun w => by rw [span_neq]; simp
                go_wp2
                refine wp_region_ext 15 (fun _ _ d _ _ h => by cases d <;> exact h) (by kernel_rfl) (by kernel_rfl) (by kernel_rfl) (by kernel_rfl) ?_
                simp only [List.take_succ_cons, List.take_zero, List.drop_succ_cons, List.drop_zero]
                repeat (any_goals (first | quiet_step (fail) | (refine wpQuiet_step (fun K hK => ?_); go_simp; split <;> (refine hK _ ?_; clear hK K))))
                all_goals (refine wpQuiet_nil ?_; intro w' hE')
                go_wp2
                go_roundw
                case rel => exact ⟨j + 1, by omega, by go_num, (fun i h1 h2 hi => by
                  by_cases hij : i = j
                  · subst hij; rw [HXX.out, HYY.out]
                  · exact HAL2.out i h1 h2 (by omega)), hEx.trans hE'⟩
                case measure => simp [intOf]; omega
              · have hcmp : ∀ w : World, (binOp .neq 44 (.agg #[.int .i64 X.1, .int .i64 X.2]) (.agg #[.int .i64 Y.1, .int .i64 Y.2])).run Try.prog w = .ok (.bool true) w := fun w => by rw [span_neq]; simp [hxy]
                have HNE := Lib.hid hxy
                clear hxy
                go_wp2
                refine wp_region_ext 15 (fun _ _ d _ _ h => by cases d <;> exact h) (by kernel_rfl) (by kernel_rfl) (by kernel_rfl) (by kernel_rfl) ?_
                simp only [List.take_succ_cons, List.take_zero, List.drop_succ_cons, List.drop_zero]
                repeat (any_goals (first | quiet_step (fail) | (refine wpQuiet_step (fun K hK => ?_); go_simp; split <;> (refine hK _ ?_; clear hK K))))
                all_goals (refine wpQuiet_nil ?_; intro w' hE')
                go_wp2
                go_ret
                refine ⟨ret_bool ?_, hEw.trans hE'⟩
                rw [← HR.out, eq_comm, decide_eq_false_iff_not]
                intro e
                subst e
                have e2 := HX.out.symm.trans HY.out
                subst e2
                exact HNE.out (HXX.out.symm.trans HYY.out)
            · go_wp2
              go_roundw
              case rel => exact ⟨k + 1, by omega, by go_num, (fun j h1 h2 hj => by
                by_cases hjk : j = k
                · subst hjk; rw [HX.out, HY.out]; exact list_eq_of HL.out fun i h1 h2 => HAL2.out i h1 h2 (by omega)
                · exact HALL.out j h1 h2 (by omega)), (hE.trans hE').trans hEx⟩
              case measure => simp [intOf]; omega
        · have HNE := Lib.hid hl
          have hne2 : ((x.length : Int) != (y.length : Int)) = true := by simp; omega
          clear hl
          go_wp2
          refine wp_region_ext 11 (fun _ _ d _ _ h => by cases d <;> exact h) (by kernel_rfl) (by kernel_rfl) (by kernel_rfl) (by kernel_rfl) ?_
          simp only [List.take_succ_cons, List.take_zero, List.drop_succ_cons, List.drop_zero]
          repeat (any_goals (first | quiet_step (fail) | (refine wpQuiet_step (fun K hK => ?_); go_simp; split <;> (refine hK _ ?_; clear hK K))))
          all_goals (refine wpQuiet_nil ?_; intro w' hE')
          go_wp2
          go_ret
          refine ⟨ret_bool ?_, by (with_reducible (repeat (first | exact Ext.refl _ | assumption | apply Ext.alloc | apply Ext.drew | exact ext_plus _ _ | (apply Ext.setCell; rotate_left; (simp <;> omega)) | (apply Ext.trans; rotate_left; exact ext_plus _ _) | (apply Ext.trans; rotate_left; assumption))))⟩
          rw [← HR.out, eq_comm, decide_eq_false_iff_not]
          intro e
          subst e
          exact HNE.out (congrArg List.length (HX.out.symm.trans HY.out))
      · have HT : Hid (r = true) := by
          show r = true
          rw [← HR.out, decide_eq_true_iff]
          exact list_eq_of HLEN.out fun j h1 h2 => HALL.out j h1 h2 (by omega)
        go_wp2
        go_ret
        exact ⟨ret_bool HT.out.symm, hE⟩
  · have HF : Hid (r = false) := by
      show r = false
      rw [← HR.out, decide_eq_false_iff_not]
      intro e; exact hlen (by rw [e])
    have hne : ((xs.length : Int) != (ys.length : Int)) = true := by simp; omega
    clear hlen
    go_enter Try.func47, Try.ntmps47
    go_wp2
    go_ret
    exact ⟨ret_bool HF.out.symm, by (with_reducible (repeat (first | exact Ext.refl _ | assumption | apply Ext.alloc | apply Ext.drew | exact ext_plus _ _ | (apply Ext.setCell; rotate_left; (simp <;> omega)) | (apply Ext.trans; rotate_left; exact ext_plus _ _) | (apply Ext.trans; rotate_left; assumption))))⟩
end Go.Proofs.Ythffoglpekpmdaa
