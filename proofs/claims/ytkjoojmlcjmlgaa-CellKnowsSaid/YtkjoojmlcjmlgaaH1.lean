/- Whether a set has no load that must be carried; the first load that is let down; as the document asks both. The first load that is let down, as the document asks it. Equal lists of days, as the document asks it. -/
import Derived.Test.YtkjoojmlcjmlgaaB4
import Derived.Laws.StructEq
namespace Go.Proofs.Ytkjoojmlcjmlgaa
set_option linter.unusedVariables false
set_option linter.unusedSimpArgs false
open Go.RowKit
set_option maxRecDepth 100000 in
set_option maxHeartbeats 4000000 in
theorem dfree_any (c : C.Sys) (s : Int) (vl : Value) (w : World) (hL : Loads w vl c.loads) (hn : c.loads.length ≤ 10) (h0 : 0 ≤ s) (h1 : s ≤ 1000000) :
    Calls Try.prog 43 #[.agg (sysV c vl), .int .i64 s] w fun e w' => e = .returned (.bool (freeB c s)) ∧ Ext w w' := by
  obtain ⟨a, cap, rfl, hx⟩ := hL
  have HX := Lib.hid hx
  clear hx
  go_enter Try.func43, Try.ntmps43
  go_wp2
  obtain ⟨w1, hw1⟩ : ∃ w1, w.alloc (.cells (sysV c (.slice a c.loads.length cap)) 24) = w1 := ⟨_, rfl⟩
  have hb : Blk w1 w.heap.size (sysV c (.slice a c.loads.length cap)) 24 := by rw [← hw1]; exact Blk.new' rfl _ _
  have hE : Ext w w1 := by rw [← hw1]; (with_reducible (repeat (first | exact Ext.refl _ | assumption | apply Ext.alloc | apply Ext.drew | exact ext_plus _ _ | (apply Ext.setCell; rotate_left; (simp <;> omega)) | (apply Ext.trans; rotate_left; exact ext_plus _ _) | (apply Ext.trans; rotate_left; assumption))))
  rw [hw1]
  clear hw1
  have hc := hb.cell
  have hl := hb.lt
  go_loop [5] (fun i => ∃ k : Nat, k ≤ c.loads.length ∧ i = .int .i64 k ∧ ((List.range k).all fun i => !((C.lat c.loads i).must && C.has s i)) = true) (fun i => c.loads.length - (intOf i).toNat)
  case atStart => exact ⟨0, Nat.zero_le _, rfl, rfl⟩
  case round =>
    obtain ⟨k, hk, rfl, hall⟩ := hrel
    have HALL := Lib.hid hall
    clear hall
    by_cases hlt : k < c.loads.length
    · obtain ⟨b, off, rfl, hbl, hAt⟩ := HX.out k hlt
      obtain ⟨l0, l1, l2⟩ := load_cells (ate_stays _ _ _ _ _ _ hE hbl hAt)
      have hbz := Nat.lt_of_lt_of_le hbl hE.size
      have hst := range_step (p := fun i => !((C.lat c.loads i).must && C.has s i)) HALL.out
      have hfa := fun h => range_false (p := fun i => !((C.lat c.loads i).must && C.has s i)) hlt h
      (try dsimp only at hst hfa)
      rw [C.lat_at hlt] at hst hfa
      have HH := Lib.hid (fun w' => dhas_any s k w' h0 h1 (by omega))
      obtain ⟨H, hH⟩ : ∃ H, C.has s k = H := ⟨_, rfl⟩
      rw [hH] at hst hfa
      simp only [hH] at HH
      obtain ⟨ld, hld⟩ : ∃ ld, c.loads[k] = ld := ⟨_, rfl⟩
      rw [hld] at l0 l1 l2 hst hfa
      obtain ⟨need, keep, mst⟩ := ld
      have HST := Lib.hid hst
      have HFA := Lib.hid hfa
      clear hAt hst hfa hH hld
      cases mst with
      | false =>
        go_wp2
        go_round
        case rel => exact ⟨k + 1, by omega, by go_num, by rw [HST.out]; rfl⟩
        case measure => simp [intOf]; omega
      | true =>
        cases H with
        | false =>
          go_wp2_with (first | (go_at_call 24; refine (HH.out _).mono ?_; rintro e w' ⟨rfl, rfl⟩))
          go_round
          case rel => exact ⟨k + 1, by omega, by go_num, by rw [HST.out]; rfl⟩
          case measure => simp [intOf]; omega
        | true =>
          go_wp2_with (first | (go_at_call 24; refine (HH.out _).mono ?_; rintro e w' ⟨rfl, rfl⟩))
          go_ret
          exact ⟨ret_bool (HFA.out rfl).symm, hE⟩
    · obtain rfl : k = c.loads.length := by omega
      go_wp2
      go_ret
      exact ⟨ret_bool HALL.out.symm, hE⟩
end Go.Proofs.Ytkjoojmlcjmlgaa
namespace Go.Proofs.Ytkjoojmlcjmlgaa
set_option linter.unusedVariables false
set_option linter.unusedSimpArgs false
open Go.RowKit
def downI (o : Option Nat) : Int := match o with | none => -1 | some i => i
set_option maxRecDepth 100000 in
set_option maxHeartbeats 4000000 in
theorem ddown_any (c : C.Sys) (x : C.Day) (vl : Value) (w : World) (hL : Loads w vl c.loads) (hn : c.loads.length ≤ 10) (h0 : 0 ≤ x.carried) (h1 : x.carried ≤ 1000000) :
    Calls Try.prog 34 #[.agg (sysV c vl), .agg #[.int .i64 x.battery, .int .i64 x.carried]] w fun e w' => e = .returned (.int .i64 (downI (C.down c x))) ∧ Ext w w' := by
  obtain ⟨a, cap, rfl, hx⟩ := hL
  have HX := Lib.hid hx
  clear hx
  obtain ⟨xb, xc⟩ := x
  dsimp only at h0 h1
  go_enter Try.func34, Try.ntmps34
  go_wp2
  obtain ⟨w1, hw1⟩ : ∃ w1, (w.alloc (.cells (sysV c (.slice a c.loads.length cap)) 24)).alloc (.cells #[.int .i64 xb, .int .i64 xc] 41) = w1 := ⟨_, rfl⟩
  have hb : Blk w1 w.heap.size (sysV c (.slice a c.loads.length cap)) 24 := by rw [← hw1]; exact Blk.alloc (Blk.new _ _ _) _
  have hb2 : Blk w1 (w.heap.size + 1) #[.int .i64 xb, .int .i64 xc] 41 := by rw [← hw1]; exact Blk.new' (by simp) _ _
  have hE : Ext w w1 := by rw [← hw1]; (with_reducible (repeat (first | exact Ext.refl _ | assumption | apply Ext.alloc | apply Ext.drew | exact ext_plus _ _ | (apply Ext.setCell; rotate_left; (simp <;> omega)) | (apply Ext.trans; rotate_left; exact ext_plus _ _) | (apply Ext.trans; rotate_left; assumption))))
  rw [hw1]
  clear hw1
  have hc := hb.cell
  have hl := hb.lt
  have hc2 := hb2.cell
  have hl2 := hb2.lt
  go_loop [5] (fun i => ∃ k : Nat, k ≤ c.loads.length ∧ i = .int .i64 k ∧ (List.range k).find? (C.downs c ⟨xb, xc⟩) = none) (fun i => c.loads.length - (intOf i).toNat)
  case atStart => exact ⟨0, Nat.zero_le _, rfl, rfl⟩
  case round =>
    obtain ⟨k, hk, rfl, hfi⟩ := hrel
    have HFI := Lib.hid hfi
    clear hfi
    by_cases hlt : k < c.loads.length
    · obtain ⟨b, off, rfl, hbl, hAt⟩ := HX.out k hlt
      obtain ⟨l0, l1, l2⟩ := load_cells (ate_stays _ _ _ _ _ _ hE hbl hAt)
      have hbz := Nat.lt_of_lt_of_le hbl hE.size
      have hfn := fun h => find1_none (p := C.downs c ⟨xb, xc⟩) HFI.out h
      have hfs := fun h => find1_some (p := C.downs c ⟨xb, xc⟩) hlt HFI.out h
      have hdn : C.downs c ⟨xb, xc⟩ k = ((C.lat c.loads k).must && !C.has xc k) := rfl
      rw [hdn, C.lat_at hlt] at hfn hfs
      have HH := Lib.hid (fun w' => dhas_any xc k w' h0 h1 (by omega))
      obtain ⟨H, hH⟩ : ∃ H, C.has xc k = H := ⟨_, rfl⟩
      rw [hH] at hfn hfs
      simp only [hH] at HH
      obtain ⟨ld, hld⟩ : ∃ ld, c.loads[k] = ld := ⟨_, rfl⟩
      rw [hld] at l0 l1 l2 hfn hfs
      obtain ⟨need, keep, mst⟩ := ld
      have HFN := Lib.hid hfn
      have HFS := Lib.hid hfs
      clear hAt hfn hfs hH hld hdn
      cases mst with
      | false =>
        go_wp2
        go_round
        case rel => exact ⟨k + 1, by omega, by go_num, HFN.out rfl⟩
        case measure => simp [intOf]; omega
      | true =>
        cases H with
        | true =>
          go_wp2_with (first | (go_at_call 24; refine (HH.out _).mono ?_; rintro e w' ⟨rfl, rfl⟩))
          go_round
          case rel => exact ⟨k + 1, by omega, by go_num, HFN.out rfl⟩
          case measure => simp [intOf]; omega
        | false =>
          go_wp2_with (first | (go_at_call 24; refine (HH.out _).mono ?_; rintro e w' ⟨rfl, rfl⟩))
          go_ret
          have h := HFS.out rfl
          exact ⟨ret_int (by unfold C.down; rw [h]; rfl), hE⟩
    · obtain rfl : k = c.loads.length := by omega
      go_wp2
      go_ret
      have h := HFI.out
      exact ⟨ret_int (by unfold C.down; rw [h]; rfl), hE⟩
end Go.Proofs.Ytkjoojmlcjmlgaa
namespace Go.Proofs.Ytkjoojmlcjmlgaa
set_option linter.unusedVariables false
set_option linter.unusedSimpArgs false
open Go.RowKit
theorem list_eq_of {α : Type} {xs ys : List α} (hl : xs.length = ys.length) (h : ∀ (j : Nat) (h1 : j < xs.length) (h2 : j < ys.length), xs[j] = ys[j]) : xs = ys :=
  List.ext_getElem hl h
theorem day_neq (x y : Int × Int) (w : World) : (binOp .neq 41 (.agg #[.int .i64 x.1, .int .i64 x.2]) (.agg #[.int .i64 y.1, .int .i64 y.2])).run Try.prog w = .ok (.bool (!decide (x = y))) w := by
  rw [run_neq_struct, run_equalIn_agg w 9999 _ _ _ (by kernel_rfl) (by kernel_rfl)]
  have hu := Try.underlying41
  have hi := Try.underlying3
  have hp : ∀ (a b : Value) (w : World), (part 3 #[a, b] 0).run Try.prog w = .ok a w := fun _ _ _ => by kernel_rfl
  have hq : ∀ (a b : Value) (w : World), (part 3 #[a, b] 1).run Try.prog w = .ok b w := fun _ _ _ => by kernel_rfl
  simp only [Program.fieldsOf, hu, Op.eqFields]
  by_cases h1 : x.1 = y.1
  · by_cases h2 : x.2 = y.2
    · have e : x = y := Prod.ext h1 h2
      subst e
      simp [hp, hq, run_equalIn_int w 9998 _ _ _ _ _ hi, Op.eqFields, Result.andThen]
    · have e : ¬ x = y := fun e => h2 (by rw [e])
      simp [hp, hq, run_equalIn_int w 9998 _ _ _ _ _ hi, h1, h2, e, Op.eqFields, Result.andThen]
  · have e : ¬ x = y := fun e => h1 (by rw [e])
    simp [hp, hq, run_equalIn_int w 9998 _ _ _ _ _ hi, h1, e, Op.eqFields, Result.andThen]
theorem day_guard : Try.prog.eqGuardType Try.prog.depth 41 = false := by kernel_rfl
theorem span_neq (x y : Int × Int) (w : World) : (binOp .neq 51 (.agg #[.int .i64 x.1, .int .i64 x.2]) (.agg #[.int .i64 y.1, .int .i64 y.2])).run Try.prog w = .ok (.bool (!decide (x = y))) w := by
  rw [run_neq_struct, run_equalIn_agg w 9999 _ _ _ (by kernel_rfl) (by kernel_rfl)]
  have hu := Try.underlying51
  have hi := Try.underlying3
  have hp : ∀ (a b : Value) (w : World), (part 3 #[a, b] 0).run Try.prog w = .ok a w := fun _ _ _ => by kernel_rfl
  have hq : ∀ (a b : Value) (w : World), (part 3 #[a, b] 1).run Try.prog w = .ok b w := fun _ _ _ => by kernel_rfl
  simp only [Program.fieldsOf, hu, Op.eqFields]
  by_cases h1 : x.1 = y.1
  · by_cases h2 : x.2 = y.2
    · have e : x = y := Prod.ext h1 h2
      subst e
      simp [hp, hq, run_equalIn_int w 9998 _ _ _ _ _ hi, Op.eqFields, Result.andThen]
    · have e : ¬ x = y := fun e => h2 (by rw [e])
      simp [hp, hq, run_equalIn_int w 9998 _ _ _ _ _ hi, h1, h2, e, Op.eqFields, Result.andThen]
  · have e : ¬ x = y := fun e => h1 (by rw [e])
    simp [hp, hq, run_equalIn_int w 9998 _ _ _ _ _ hi, h1, e, Op.eqFields, Result.andThen]
theorem span_guard : Try.prog.eqGuardType Try.prog.depth 51 = false := by kernel_rfl
set_option maxRecDepth 100000 in
set_option maxHeartbeats 4000000 in
theorem dsameDays_any (xs ys : List C.Day) (va vb : Value) (w : World) (hA : Days w va xs) (hB : Days w vb ys) (hn : xs.length ≤ 1000000) (hm : ys.length ≤ 1000000) :
    Calls Try.prog 22 #[va, vb] w fun e w' => e = .returned (.bool (decide (xs = ys))) ∧ Ext w w' := by
  obtain ⟨a1, c1, rfl, hx1⟩ := hA
  obtain ⟨a2, c2, rfl, hx2⟩ := hB
  have HX1 := Lib.hid hx1
  have HX2 := Lib.hid hx2
  clear hx1 hx2
  have hpc := plus_cell
  obtain ⟨r, hr⟩ : ∃ r, decide (xs = ys) = r := ⟨_, rfl⟩
  have HR := Lib.hid hr
  rw [hr]
  clear hr
  by_cases hlen : xs.length = ys.length
  · have HLEN := Lib.hid hlen
    have hne : ((xs.length : Int) != (ys.length : Int)) = false := by simp; omega
    clear hlen
    go_enter Try.func22, Try.ntmps22
    go_wp2
    go_loopw [5] (fun i wr => ∃ k : Nat, k ≤ xs.length ∧ i = .int .i64 k ∧ (∀ (j : Nat) (h1 : j < xs.length) (h2 : j < ys.length), j < k → xs[j] = ys[j]) ∧ Ext w wr)
      (fun i _ => xs.length - (intOf i).toNat)
    case atStart => exact ⟨0, Nat.zero_le _, rfl, (fun j _ _ h => by omega), Ext.refl _⟩
    case round =>
      rename World => wr
      obtain ⟨k, hk, rfl, hall, hE⟩ := hrel
      have HALL := Lib.hid hall
      clear hall
      by_cases hlt : k < xs.length
      · have hlt2 : k < ys.length := by have := HLEN.out; omega
        obtain ⟨g, o, rfl, hg, h0⟩ := HX1.out k hlt
        obtain ⟨g', o', rfl, hg', h0'⟩ := HX2.out k hlt2
        have hsz := hE.size
        have q1 : g < wr.heap.size := by omega
        have q2 : g' < wr.heap.size := by omega
        obtain ⟨t1, t2⟩ := day_cells (ate_stays _ _ _ _ _ _ hE hg h0)
        obtain ⟨t3, t4⟩ := day_cells (ate_stays _ _ _ _ _ _ hE hg' h0')
        generalize hX : xs[k] = X at t1 t2
        generalize hY : ys[k] = Y at t3 t4
        have HXX := Lib.hid hX
        have HYY := Lib.hid hY
        clear hX hY h0 h0'
        obtain ⟨xb, xc⟩ := X
        obtain ⟨yb, yc⟩ := Y
        have hgd := day_guard
        by_cases hxy : ((xb, xc) : Int × Int) = (yb, yc)
        · obtain ⟨rfl, rfl⟩ := Prod.mk.inj hxy
          have hcmp : ∀ w : World, (binOp .neq 41 (.agg #[.int .i64 xb, .int .i64 xc]) (.agg #[.int .i64 xb, .int .i64 xc])).run Try.prog w = .ok (.bool false) w := fun w => by have := day_neq (xb, xc) (xb, xc) w; simpa using this
          clear hxy
          go_wp2
          refine wp_region_ext 9 (fun _ _ d _ _ h => by cases d <;> exact h) (by kernel_rfl) (by kernel_rfl) (by kernel_rfl) (by kernel_rfl) ?_
          (try simp only [List.append_eq, List.cons_append, List.nil_append])
          simp only [List.take_succ_cons, List.take_zero, List.drop_succ_cons, List.drop_zero]
          repeat (any_goals (first | quiet_step (fail) | (refine wpQuiet_step (fun K hK => ?_); go_simp; split <;> (refine hK _ ?_; clear hK K))))
          all_goals (refine wpQuiet_nil ?_; intro w' hE')
          go_wp2
          go_roundw
          case rel => exact ⟨k + 1, by omega, by go_num, (fun j h1 h2 hj => by
            by_cases hjk : j = k
            · subst hjk; rw [HXX.out, HYY.out]
            · exact HALL.out j h1 h2 (by omega)), hE.trans hE'⟩
          case measure => simp [intOf]; omega
        · have hcmp : ∀ w : World, (binOp .neq 41 (.agg #[.int .i64 xb, .int .i64 xc]) (.agg #[.int .i64 yb, .int .i64 yc])).run Try.prog w = .ok (.bool true) w := fun w => by have := day_neq (xb, xc) (yb, yc) w; rw [this]; simp [hxy]
          have HNE := Lib.hid hxy
          clear hxy
          go_wp2
          refine wp_region_ext 9 (fun _ _ d _ _ h => by cases d <;> exact h) (by kernel_rfl) (by kernel_rfl) (by kernel_rfl) (by kernel_rfl) ?_
          (try simp only [List.append_eq, List.cons_append, List.nil_append])
          simp only [List.take_succ_cons, List.take_zero, List.drop_succ_cons, List.drop_zero]
          repeat (any_goals (first | quiet_step (fail) | (refine wpQuiet_step (fun K hK => ?_); go_simp; split <;> (refine hK _ ?_; clear hK K))))
          all_goals (refine wpQuiet_nil ?_; intro w' hE')
          go_wp2
          go_ret
          refine ⟨ret_bool ?_, hE.trans hE'⟩
          rw [← HR.out, eq_comm, decide_eq_false_iff_not]
          intro e
          subst e
          have e2 := HXX.out.symm.trans HYY.out
          exact HNE.out (by cases e2; rfl)
      · have HT : Hid (r = true) := by
          show r = true
          rw [← HR.out, decide_eq_true_iff]
          exact list_eq_of HLEN.out fun j h1 h2 => HALL.out j h1 h2 (by omega)
        go_wp2
        go_ret
        exact ⟨ret_bool HT.out.symm, hE⟩
  · have HF : Hid (r = false) := by
      show r = false
      rw [← HR.out, decide_eq_false_iff_not]
      intro e; exact hlen (by rw [e])
    have hne : ((xs.length : Int) != (ys.length : Int)) = true := by simp; omega
    clear hlen
    go_enter Try.func22, Try.ntmps22
    go_wp2
    go_ret
    exact ⟨ret_bool HF.out.symm, by (with_reducible (repeat (first | exact Ext.refl _ | assumption | apply Ext.alloc | apply Ext.drew | exact ext_plus _ _ | (apply Ext.setCell; rotate_left; (simp <;> omega)) | (apply Ext.trans; rotate_left; exact ext_plus _ _) | (apply Ext.trans; rotate_left; assumption))))⟩
end Go.Proofs.Ytkjoojmlcjmlgaa
