/- Equal lists of what is known, as the document asks it. -/
import Derived.Test.YtkjoojmlcjmlgaaH1
import Derived.Test.YtkjoojmlcjmlgaaG7
namespace Go.Proofs.Ytkjoojmlcjmlgaa
set_option linter.unusedVariables false
set_option linter.unusedSimpArgs false
open Go.RowKit
theorem seen_eq {x y : C.Seen} (h1 : (x.low, x.high) = (y.low, y.high)) (h2 : x.loads = y.loads) : x = y := by
  cases x; cases y; simp_all
set_option maxRecDepth 100000 in
set_option maxHeartbeats 16000000 in
theorem dsameSeen_any (xs ys : List C.Seen) (va vb : Value) (w : World) (hA : Seens w va xs) (hB : Seens w vb ys) (hn : xs.length ≤ 1000000) (hm : ys.length ≤ 1000000) (hn2 : ∀ l ∈ xs, l.loads.length ≤ 1000000) (hm2 : ∀ l ∈ ys, l.loads.length ≤ 1000000) :
    Calls Try.prog 47 #[va, vb] w fun e w' => e = .returned (.bool (decide (xs = ys))) ∧ Ext w w' := by
  obtain ⟨a1, c1, rfl, hx1⟩ := hA
  obtain ⟨a2, c2, rfl, hx2⟩ := hB
  have HX1 := Lib.hid hx1
  have HX2 := Lib.hid hx2
  clear hx1 hx2
  have hpc := plus_cell
  obtain ⟨r, hr⟩ : ∃ r, decide (xs = ys) = r := ⟨_, rfl⟩
  have HR := Lib.hid hr
  rw [hr]
  clear hr
  by_cases hlen : xs.length = ys.length
  · have HLEN := Lib.hid hlen
    have hne : ((xs.length : Int) != (ys.length : Int)) = false := by simp; omega
    clear hlen
    go_enter Try.func47, Try.ntmps47
    go_wp2
    go_loopw [5] (fun i wr => ∃ k : Nat, k ≤ xs.length ∧ i = .int .i64 k ∧ (∀ (j : Nat) (h1 : j < xs.length) (h2 : j < ys.length), j < k → xs[j] = ys[j]) ∧ Ext w wr)
      (fun i _ => xs.length - (intOf i).toNat)
    case atStart => exact ⟨0, Nat.zero_le _, rfl, (fun j _ _ h => by omega), Ext.refl _⟩
    case round =>
      rename World => wr
      obtain ⟨k, hk, rfl, hall, hE⟩ := hrel
      have HALL := Lib.hid hall
      clear hall
      by_cases hlt : k < xs.length
      · have hlt2 : k < ys.length := by have := HLEN.out; omega
        obtain ⟨g, o, v1, rfl, hg, p1, p2, p3, hv1⟩ := HX1.out k hlt
        obtain ⟨g', o', v2, rfl, hg', p4, p5, p6, hv2⟩ := HX2.out k hlt2
        have hsz := hE.size
        have q1 : g < wr.heap.size := by omega
        have q2 : g' < wr.heap.size := by omega
        have t1 := (hE.cells.1 _ _ hg).trans p1
        have t2 := (hE.cells.1 _ _ hg).trans p2
        have t3 := (hE.cells.1 _ _ hg).trans p3
        have t4 := (hE.cells.1 _ _ hg').trans p4
        have t5 := (hE.cells.1 _ _ hg').trans p5
        have t6 := (hE.cells.1 _ _ hg').trans p6
        have hl1 := hn2 _ (List.getElem_mem hlt)
        have hl2 := hm2 _ (List.getElem_mem hlt2)
        clear p1 p2 p3 p4 p5 p6
        obtain ⟨X, hX⟩ : ∃ X, xs[k] = X := ⟨_, rfl⟩
        obtain ⟨Y, hY⟩ : ∃ Y, ys[k] = Y := ⟨_, rfl⟩
        rw [hX] at t1 t2 hv1 hl1
        rw [hY] at t4 t5 hv2 hl2
        have HXX := Lib.hid hX
        have HYY := Lib.hid hY
        clear hX hY
        obtain ⟨xl, xh, x⟩ := X
        obtain ⟨yl, yh, y⟩ := Y
        dsimp only at t1 t2 t4 t5 hv1 hv2 hl1 hl2
        obtain ⟨a3, c3, rfl, hx3⟩ := hv1
        obtain ⟨a4, c4, rfl, hx4⟩ := hv2
        have HX3 := Lib.hid hx3
        have HX4 := Lib.hid hx4
        clear hx3 hx4
        have hgd := span_guard
        by_cases hxy : ((xl, xh) : Int × Int) = (yl, yh)
        · obtain ⟨rfl, rfl⟩ := Prod.mk.inj hxy
          have hcmp : ∀ w : World, (binOp .neq 51 (.agg #[.int .i64 xl, .int .i64 xh]) (.agg #[.int .i64 xl, .int .i64 xh])).run Try.prog w = .ok (.bool false) w := fun w => by have := span_neq (xl, xh) (xl, xh) w; simpa using this
          clear hxy
          by_cases hl : x.length = y.length
          · have HL := Lib.hid hl
            rw [← hl] at t6
            clear hl hl2
            go_wp2
            refine wp_region_ext 26 (fun _ _ d _ _ h => by cases d <;> exact h) (by kernel_rfl) (by kernel_rfl) (by kernel_rfl) (by kernel_rfl) ?_
            (try simp only [List.append_eq, List.cons_append, List.nil_append])
            simp only [List.take_succ_cons, List.take_zero, List.drop_succ_cons, List.drop_zero]
            repeat (any_goals (first | go_big_quiet_step (fail) | quiet_step (fail)))
            all_goals (refine wpQuiet_nil ?_; intro w' hE')
            go_wp2
            have hEr : Ext w w' := hE.trans hE'
            have q3 := Nat.lt_of_lt_of_le q1 hE'.size
            have q4 := Nat.lt_of_lt_of_le q2 hE'.size
            have cu3 := (hE'.cells.1 _ _ q1).trans t3
            have cu4 := (hE'.cells.1 _ _ q2).trans t6
            clear t1 t2 t3 t4 t5 t6 q1 q2 hcmp
            go_loopw [6] (fun i wx => ∃ j : Nat, j ≤ x.length ∧ i = .int .i64 j ∧ (∀ (i : Nat) (h1 : i < x.length) (h2 : i < y.length), i < j → x[i] = y[i]) ∧ Ext w' wx) (fun i _ => x.length - (intOf i).toNat)
            case atStart => exact ⟨0, Nat.zero_le _, rfl, (fun j _ _ h => by omega), Ext.refl _⟩
            case round =>
              rename World => wx
              obtain ⟨j, hj, rfl, hal2, hEx⟩ := hrel
              have HAL2 := Lib.hid hal2
              have cu5 := (hEx.cells.1 _ _ q3).trans cu3
              have cu6 := (hEx.cells.1 _ _ q4).trans cu4
              have q5 := Nat.lt_of_lt_of_le q3 hEx.size
              have q6 := Nat.lt_of_lt_of_le q4 hEx.size
              have hEw : Ext w wx := hEr.trans hEx
              clear hal2
              by_cases hlj : j < x.length
              · have hlj2 : j < y.length := by have := HL.out; omega
                obtain ⟨b5, o5, rfl, hb5, hAt5⟩ := HX3.out j hlj
                obtain ⟨b6, o6, rfl, hb6, hAt6⟩ := HX4.out j hlj2
                have s5 := (hEw.cells.1 _ _ hb5).trans hAt5
                have s6 := (hEw.cells.1 _ _ hb6).trans hAt6
                have q7 := Nat.lt_of_lt_of_le hb5 hEw.size
                have q8 := Nat.lt_of_lt_of_le hb6 hEw.size
                clear hAt5 hAt6
                obtain ⟨X, hX⟩ : ∃ X, x[j] = X := ⟨_, rfl⟩
                obtain ⟨Y, hY⟩ : ∃ Y, y[j] = Y := ⟨_, rfl⟩
                rw [hX] at s5
                rw [hY] at s6
                have HX := Lib.hid hX
                have HY := Lib.hid hY
                clear hX hY
                by_cases hxy : X = Y
                · subst hxy
                  go_wp2
                  refine wp_region_ext 17 (fun _ _ d _ _ h => by cases d <;> exact h) (by kernel_rfl) (by kernel_rfl) (by kernel_rfl) (by kernel_rfl) ?_
                  (try simp only [List.append_eq, List.cons_append, List.nil_append])
                  simp only [List.take_succ_cons, List.take_zero, List.drop_succ_cons, List.drop_zero]
                  repeat (any_goals (first | go_big_quiet_step (fail) | quiet_step (fail)))
                  all_goals (refine wpQuiet_nil ?_; intro w' hE')
                  go_wp2
                  go_roundw
                  case rel => exact ⟨j + 1, by omega, by go_num, (fun i h1 h2 hi => by
                    by_cases hij : i = j
                    · subst hij; rw [HX.out, HY.out]
                    · exact HAL2.out i h1 h2 (by omega)), hEx.trans hE'⟩
                  case measure => simp [intOf]; omega
                · have hxy' : (X != Y) = true := by simp [hxy]
                  have HNE := Lib.hid hxy
                  clear hxy
                  go_wp2
                  refine wp_region_ext 17 (fun _ _ d _ _ h => by cases d <;> exact h) (by kernel_rfl) (by kernel_rfl) (by kernel_rfl) (by kernel_rfl) ?_
                  (try simp only [List.append_eq, List.cons_append, List.nil_append])
                  simp only [List.take_succ_cons, List.take_zero, List.drop_succ_cons, List.drop_zero]
                  repeat (any_goals (first | go_big_quiet_step (fail) | quiet_step (fail)))
                  all_goals (refine wpQuiet_nil ?_; intro w' hE')
                  go_wp2
                  go_ret
                  refine ⟨ret_bool ?_, hEw.trans hE'⟩
                  rw [← HR.out, eq_comm, decide_eq_false_iff_not]
                  intro e
                  subst e
                  have e2 := HXX.out.symm.trans HYY.out
                  cases e2
                  exact HNE.out (HX.out.symm.trans HY.out)
              · go_wp2
                go_roundw
                case rel => exact ⟨k + 1, by omega, by go_num, (fun j h1 h2 hj => by
                  by_cases hjk : j = k
                  · subst hjk; rw [HXX.out, HYY.out]; exact seen_eq rfl (list_eq_of HL.out fun i h1 h2 => HAL2.out i h1 h2 (by have h3 : i < x.length := h1; omega))
                  · exact HALL.out j h1 h2 (by omega)), (hE.trans hE').trans hEx⟩
                case measure => simp [intOf]; omega
          · have HNE := Lib.hid hl
            have hne2 : ((x.length : Int) != (y.length : Int)) = true := by simp; omega
            clear hl
            go_wp2
            refine wp_region_ext 26 (fun _ _ d _ _ h => by cases d <;> exact h) (by kernel_rfl) (by kernel_rfl) (by kernel_rfl) (by kernel_rfl) ?_
            (try simp only [List.append_eq, List.cons_append, List.nil_append])
            simp only [List.take_succ_cons, List.take_zero, List.drop_succ_cons, List.drop_zero]
            repeat (any_goals (first | go_big_quiet_step (fail) | quiet_step (fail)))
            all_goals (refine wpQuiet_nil ?_; intro w' hE')
            go_wp2
            go_ret
            refine ⟨ret_bool ?_, hE.trans hE'⟩
            rw [← HR.out, eq_comm, decide_eq_false_iff_not]
            intro e
            subst e
            have e2 := HXX.out.symm.trans HYY.out
            exact HNE.out (by cases e2; rfl)
        · have hcmp : ∀ w : World, (binOp .neq 51 (.agg #[.int .i64 xl, .int .i64 xh]) (.agg #[.int .i64 yl, .int .i64 yh])).run Try.prog w = .ok (.bool true) w := fun w => by have := span_neq (xl, xh) (yl, yh) w; rw [this]; simp [hxy]
          have HNE := Lib.hid hxy
          clear hxy
          go_wp2
          refine wp_region_ext 26 (fun _ _ d _ _ h => by cases d <;> exact h) (by kernel_rfl) (by kernel_rfl) (by kernel_rfl) (by kernel_rfl) ?_
          (try simp only [List.append_eq, List.cons_append, List.nil_append])
          simp only [List.take_succ_cons, List.take_zero, List.drop_succ_cons, List.drop_zero]
          repeat (any_goals (first | go_big_quiet_step (fail) | quiet_step (fail)))
          all_goals (refine wpQuiet_nil ?_; intro w' hE')
          go_wp2
          go_ret
          refine ⟨ret_bool ?_, hE.trans hE'⟩
          rw [← HR.out, eq_comm, decide_eq_false_iff_not]
          intro e
          subst e
          have e2 := HXX.out.symm.trans HYY.out
          exact HNE.out (by cases e2; rfl)
      · have HT : Hid (r = true) := by
          show r = true
          rw [← HR.out, decide_eq_true_iff]
          exact list_eq_of HLEN.out fun j h1 h2 => HALL.out j h1 h2 (by omega)
        go_wp2
        go_ret
        exact ⟨ret_bool HT.out.symm, hE⟩
  · have HF : Hid (r = false) := by
      show r = false
      rw [← HR.out, decide_eq_false_iff_not]
      intro e; exact hlen (by rw [e])
    have hne : ((xs.length : Int) != (ys.length : Int)) = true := by simp; omega
    clear hlen
    go_enter Try.func47, Try.ntmps47
    go_wp2
    go_ret
    exact ⟨ret_bool HF.out.symm, by (with_reducible (repeat (first | exact Ext.refl _ | assumption | apply Ext.alloc | apply Ext.drew | exact ext_plus _ _ | (apply Ext.setCell; rotate_left; (simp <;> omega)) | (apply Ext.trans; rotate_left; exact ext_plus _ _) | (apply Ext.trans; rotate_left; assumption))))⟩
end Go.Proofs.Ytkjoojmlcjmlgaa
