/- The truth with the fewest fish, or with the most: the ends of spans. -/
import Derived.Test.YthffoglpekpmdaaG1
namespace Go.Proofs.Ythffoglpekpmdaa
set_option linter.unusedVariables false
set_option linter.unusedSimpArgs false
open Go.RowKit
theorem end_any (a b : Int) (h : Bool) (w : World) :
    Calls Try.prog 89 #[.agg #[.int .i64 a, .int .i64 b], .bool h] w fun e w' => e = .returned (.int .i64 (if h then b else a)) ∧ Ext w w' := by
  cases h <;> (go_enter Try.func89, Try.ntmps89; go_wp2; go_ret; exact ⟨rfl, (Ext.refl _).alloc _⟩)
def startF (r : R.Reef) (m : Bool) (p : R.Place) : Int := if m then R.most r p.count else p.count
def growF (m : Bool) (p : R.Place) : Int := if m then p.gh else p.gl
def takeF (m : Bool) (x : Int × Int) : Int := if m then x.1 else x.2
abbrev endF : Value := .func (.func 89) #[] #[]
theorem grow_end (p : R.Place) (m : Bool) (bf bm : Nat) (w : World) (hf : Blk w bf #[endF] 117) (hm : Blk w bm #[.bool m] 4) :
    Calls Try.prog 92 #[.agg (placeV p), .pointer (some ⟨bf, 0, none⟩), .pointer (some ⟨bm, 0, none⟩)] w fun e w' => e = .returned (.int .i64 (growF m p)) ∧ Ext w w' := by
  have c0 := hf.cell
  have c1 := hf.lt
  have c2 := hm.cell
  have c3 := hm.lt
  cases m
  all_goals
    go_enter Try.func92, Try.ntmps92
    go_wp2_with (first | (go_at_call 89; refine (end_any _ _ _ _).mono ?_; rintro e w' ⟨rfl, hb⟩))
    all_goals (go_ret; exact ⟨rfl, by (with_reducible (repeat (first | exact Ext.refl _ | assumption | apply Ext.alloc | apply Ext.drew | exact ext_plus _ _ | (apply Ext.setCell; rotate_left; (simp <;> omega)) | (apply Ext.trans; rotate_left; exact ext_plus _ _) | (apply Ext.trans; rotate_left; assumption))))⟩)
theorem take_end (x : Int × Int) (m : Bool) (bf bm : Nat) (w : World) (hf : Blk w bf #[endF] 117) (hm : Blk w bm #[.bool m] 4) :
    Calls Try.prog 94 #[.agg #[.int .i64 x.1, .int .i64 x.2], .pointer (some ⟨bf, 0, none⟩), .pointer (some ⟨bm, 0, none⟩)] w fun e w' => e = .returned (.int .i64 (takeF m x)) ∧ Ext w w' := by
  have c0 := hf.cell
  have c1 := hf.lt
  have c2 := hm.cell
  have c3 := hm.lt
  cases m
  all_goals
    go_enter Try.func94, Try.ntmps94
    go_wp2_with (first | (go_at_call 89; refine (end_any _ _ _ _).mono ?_; rintro e w' ⟨rfl, hb⟩))
    all_goals (go_ret; exact ⟨rfl, by (with_reducible (repeat (first | exact Ext.refl _ | assumption | apply Ext.alloc | apply Ext.drew | exact ext_plus _ _ | (apply Ext.setCell; rotate_left; (simp <;> omega)) | (apply Ext.trans; rotate_left; exact ext_plus _ _) | (apply Ext.trans; rotate_left; assumption))))⟩)
set_option maxRecDepth 100000 in
theorem start_end (r : R.Reef) (p : R.Place) (m : Bool) (vp vl : Value) (bf bx bm : Nat) (w : World) (hf : Blk w bf #[endF] 117) (hx : Blk w bx (planV r vp vl) 82) (hm : Blk w bm #[.bool m] 4)
    (h0 : 0 ≤ p.count) (h1 : p.count ≤ 1000000) (h2 : 0 ≤ r.miss) (h3 : r.miss ≤ 2000) (hvp : ∃ a n c, vp = .slice a n c) (hvl : ∃ a n c, vl = .slice a n c) :
    Calls Try.prog 91 #[.agg (placeV p), .pointer (some ⟨bf, 0, none⟩), .pointer (some ⟨bx, 0, none⟩), .pointer (some ⟨bm, 0, none⟩)] w fun e w' => e = .returned (.int .i64 (startF r m p)) ∧ Ext w w' := by
  obtain ⟨a1, n1, c1, rfl⟩ := hvp
  obtain ⟨a2, n2, c2, rfl⟩ := hvl
  have c0 := hf.cell
  have d1 := hf.lt
  have d2 := hm.cell
  have d3 := hm.lt
  have d4 := hx.cell
  have d5 := hx.lt
  have hpc := plus_cell
  cases m
  all_goals
    go_enter Try.func91, Try.ntmps91
    go_wp2
    refine wp_region_ext 7 (fun _ _ d _ _ h => by cases d <;> exact h) (by kernel_rfl) (by kernel_rfl) (by kernel_rfl) (by kernel_rfl) ?_
    simp only [List.take_succ_cons, List.take_zero, List.drop_succ_cons, List.drop_zero]
    repeat (any_goals (first | quiet_step (first | (go_at_call 74; exact ext_quiet (starts_any r p _ _ _ h0 h1 h2 h3)) | (go_at_call 89; exact ext_quiet (end_any _ _ _ _)))))
    all_goals (refine wpQuiet_nil ?_; intro w' hE')
    all_goals (unfold wpList; go_wp2; go_ret; exact ⟨rfl, ((Ext.refl _).alloc _).trans hE'⟩)

set_option maxRecDepth 100000 in
set_option maxHeartbeats 8000000 in
theorem ends_starts (r : R.Reef) (m : Bool) (vp vl : Value) (bf bx bm : Nat) (v : Value) (xs : List R.Place) (w : World) (hx : Places w v xs) (hn : xs.length ≤ 1000000) (hf : Blk w bf #[endF] 117) (hbx : Blk w bx (planV r vp vl) 82) (hm : Blk w bm #[.bool m] 4) (h2 : 0 ≤ r.miss) (h3 : r.miss ≤ 2000) (hvp : ∃ a n c, vp = .slice a n c) (hvl : ∃ a n c, vl = .slice a n c) (hO : ∀ p ∈ xs, 0 ≤ p.count ∧ p.count ≤ 1000000) :
    Calls Try.prog 90 #[v, .func (.func 91) #[] #[.pointer (some ⟨bf, 0, none⟩), .pointer (some ⟨bx, 0, none⟩), .pointer (some ⟨bm, 0, none⟩)]] w fun e w' => ∃ v', e = .returned v' ∧ w'.ownsRow w.heap.size 3 1 v' xs.length ((xs.map (startF r m)).map (Value.int .i64)) ∧ Ext w w' := by
  obtain ⟨a, cap, rfl, hx⟩ := hx
  have HX := Lib.hid hx
  obtain ⟨i0, hi, hz0, hz1, hz2⟩ := info_parts int_info
  clear hx
  go_enter Try.func90, Try.ntmps90
  go_wp2
  go_loopw [5, 7, 10] (fun v _ i wr => ∃ k : Nat, k ≤ xs.length ∧ i = .int .i64 k ∧ wr.ownsRow w.heap.size 3 1 v k (pre (startF r m) xs k) ∧ Ext w wr) (fun _ _ i _ => xs.length - (intOf i).toNat)
  case atStart => exact ⟨0, Nat.zero_le _, rfl, World.ownsRow_nil _ _ _ _, Ext.refl _⟩
  case round =>
    rename World => wr
    obtain ⟨k, hk, rfl, hown, hE⟩ := hrel
    by_cases hlt : k < xs.length
    · obtain ⟨b, off, rfl, hb, hAt⟩ := HX.out k hlt
      obtain ⟨u0, u1, u2, u3, u4, u5, u6, u7, u8, u9, u10, u11⟩ := place_cells (ate_stays _ _ _ _ _ _ hE hb hAt)
      have hps := pre_succ (startF r m) xs hlt
      clear hAt
      have HPS := Lib.hid hps
      have hzE := hE.size
      have hin := List.getElem_mem hlt
      obtain ⟨p, hp⟩ : ∃ p, xs[k] = p := ⟨_, rfl⟩
      rw [hp] at hin
      have hcl := fun w' hx => start_end r p m vp vl bf bx bm w' (hf.ext hx) (hbx.ext hx) (hm.ext hx) (hO p hin).1 (hO p hin).2 h2 h3 hvp hvl
      have HCL := Lib.hid hcl
      rw [hp] at HPS u0 u1 u2 u3 u4 u5 u6 u7 u8 u9 u10 u11
      clear hp hps hcl
      go_wp2_with (first | (go_at_call 91; refine (HCL.out _ (by (with_reducible show Ext _ _; (with_reducible (repeat (first | exact Ext.refl _ | assumption | apply Ext.alloc | apply Ext.drew | exact ext_plus _ _ | (apply Ext.setCell; rotate_left; (simp <;> omega)) | (apply Ext.trans; rotate_left; exact ext_plus _ _) | (apply Ext.trans; rotate_left; assumption)))); done))).mono ?_; rintro e w2 ⟨rfl, hb2⟩; have hzb := hb2.size; simp only [World.size_alloc] at hzb; have hEw2 : Ext wr w2 := ((Ext.refl wr).alloc _).trans hb2) | (at_builtin; refine wpList_append_own _ rfl _ _ 25 rfl (w.heap.size) 3 i0 (.int .i64 0) 1 8 Try.underlying25 hi hz0 hz1 hz2 rfl (by decide) _ _ _ rfl ((own_ext hown hEw2).alloc _) ⟨w2.heap.size, 0, none⟩ 1 1 [.int .i64 ((startF r m) p)] rfl rfl (cell_one _ _ _ (by simp)) (one_int _) (by unfold maxLen; omega) (by omega) (by simp <;> omega) ?_; intro v' w1 hown' hgrow _; obtain ⟨g', cap', rfl⟩ := own_succ hown'))
      go_roundw
      case rel => exact ⟨k + 1, by omega, by go_num, by rw [HPS.out]; exact hown', ((hE.trans hEw2).alloc _).grown hgrow (own_base hown)⟩
      case measure => simp [intOf]; omega
    · obtain rfl : k = xs.length := by omega
      obtain ⟨av, cv, rfl⟩ := own_slice hown
      go_wp2
      go_ret
      rw [pre_all] at hown
      exact ⟨_, rfl, hown, hE⟩

set_option maxRecDepth 100000 in
set_option maxHeartbeats 8000000 in
theorem ends_grows (m : Bool) (bf bm : Nat) (v : Value) (xs : List R.Place) (w : World) (hx : Places w v xs) (hn : xs.length ≤ 1000000) (hf : Blk w bf #[endF] 117) (hm : Blk w bm #[.bool m] 4) :
    Calls Try.prog 90 #[v, .func (.func 92) #[] #[.pointer (some ⟨bf, 0, none⟩), .pointer (some ⟨bm, 0, none⟩)]] w fun e w' => ∃ v', e = .returned v' ∧ w'.ownsRow w.heap.size 3 1 v' xs.length ((xs.map (growF m)).map (Value.int .i64)) ∧ Ext w w' := by
  obtain ⟨a, cap, rfl, hx⟩ := hx
  have HX := Lib.hid hx
  obtain ⟨i0, hi, hz0, hz1, hz2⟩ := info_parts int_info
  clear hx
  go_enter Try.func90, Try.ntmps90
  go_wp2
  go_loopw [5, 7, 10] (fun v _ i wr => ∃ k : Nat, k ≤ xs.length ∧ i = .int .i64 k ∧ wr.ownsRow w.heap.size 3 1 v k (pre (growF m) xs k) ∧ Ext w wr) (fun _ _ i _ => xs.length - (intOf i).toNat)
  case atStart => exact ⟨0, Nat.zero_le _, rfl, World.ownsRow_nil _ _ _ _, Ext.refl _⟩
  case round =>
    rename World => wr
    obtain ⟨k, hk, rfl, hown, hE⟩ := hrel
    by_cases hlt : k < xs.length
    · obtain ⟨b, off, rfl, hb, hAt⟩ := HX.out k hlt
      obtain ⟨u0, u1, u2, u3, u4, u5, u6, u7, u8, u9, u10, u11⟩ := place_cells (ate_stays _ _ _ _ _ _ hE hb hAt)
      have hps := pre_succ (growF m) xs hlt
      clear hAt
      have HPS := Lib.hid hps
      have hzE := hE.size
      have hin := List.getElem_mem hlt
      obtain ⟨p, hp⟩ : ∃ p, xs[k] = p := ⟨_, rfl⟩
      rw [hp] at hin
      have hcl := fun w' hx => grow_end p m bf bm w' (hf.ext hx) (hm.ext hx)
      have HCL := Lib.hid hcl
      rw [hp] at HPS u0 u1 u2 u3 u4 u5 u6 u7 u8 u9 u10 u11
      clear hp hps hcl
      go_wp2_with (first | (go_at_call 92; refine (HCL.out _ (by (with_reducible show Ext _ _; (with_reducible (repeat (first | exact Ext.refl _ | assumption | apply Ext.alloc | apply Ext.drew | exact ext_plus _ _ | (apply Ext.setCell; rotate_left; (simp <;> omega)) | (apply Ext.trans; rotate_left; exact ext_plus _ _) | (apply Ext.trans; rotate_left; assumption)))); done))).mono ?_; rintro e w2 ⟨rfl, hb2⟩; have hzb := hb2.size; simp only [World.size_alloc] at hzb; have hEw2 : Ext wr w2 := ((Ext.refl wr).alloc _).trans hb2) | (at_builtin; refine wpList_append_own _ rfl _ _ 25 rfl (w.heap.size) 3 i0 (.int .i64 0) 1 8 Try.underlying25 hi hz0 hz1 hz2 rfl (by decide) _ _ _ rfl ((own_ext hown hEw2).alloc _) ⟨w2.heap.size, 0, none⟩ 1 1 [.int .i64 ((growF m) p)] rfl rfl (cell_one _ _ _ (by simp)) (one_int _) (by unfold maxLen; omega) (by omega) (by simp <;> omega) ?_; intro v' w1 hown' hgrow _; obtain ⟨g', cap', rfl⟩ := own_succ hown'))
      go_roundw
      case rel => exact ⟨k + 1, by omega, by go_num, by rw [HPS.out]; exact hown', ((hE.trans hEw2).alloc _).grown hgrow (own_base hown)⟩
      case measure => simp [intOf]; omega
    · obtain rfl : k = xs.length := by omega
      obtain ⟨av, cv, rfl⟩ := own_slice hown
      go_wp2
      go_ret
      rw [pre_all] at hown
      exact ⟨_, rfl, hown, hE⟩

set_option maxRecDepth 100000 in
set_option maxHeartbeats 8000000 in
theorem ends_takes (m : Bool) (bf bm : Nat) (v : Value) (xs : List (Int × Int)) (w : World) (hx : Spans w v xs) (hn : xs.length ≤ 1000000) (hf : Blk w bf #[endF] 117) (hm : Blk w bm #[.bool m] 4) :
    Calls Try.prog 93 #[v, .func (.func 94) #[] #[.pointer (some ⟨bf, 0, none⟩), .pointer (some ⟨bm, 0, none⟩)]] w fun e w' => ∃ v', e = .returned v' ∧ w'.ownsRow w.heap.size 3 1 v' xs.length ((xs.map (takeF m)).map (Value.int .i64)) ∧ Ext w w' := by
  obtain ⟨a, cap, rfl, hx⟩ := hx
  have HX := Lib.hid hx
  obtain ⟨i0, hi, hz0, hz1, hz2⟩ := info_parts int_info
  clear hx
  go_enter Try.func93, Try.ntmps93
  go_wp2
  go_loopw [5, 7, 10] (fun v _ i wr => ∃ k : Nat, k ≤ xs.length ∧ i = .int .i64 k ∧ wr.ownsRow w.heap.size 3 1 v k (pre (takeF m) xs k) ∧ Ext w wr) (fun _ _ i _ => xs.length - (intOf i).toNat)
  case atStart => exact ⟨0, Nat.zero_le _, rfl, World.ownsRow_nil _ _ _ _, Ext.refl _⟩
  case round =>
    rename World => wr
    obtain ⟨k, hk, rfl, hown, hE⟩ := hrel
    by_cases hlt : k < xs.length
    · obtain ⟨b, off, rfl, hb, hAt⟩ := HX.out k hlt
      obtain ⟨u0, u1⟩ := span_cells (ate_stays _ _ _ _ _ _ hE hb hAt)
      have hps := pre_succ (takeF m) xs hlt
      clear hAt
      have HPS := Lib.hid hps
      have hzE := hE.size
      have hin := List.getElem_mem hlt
      obtain ⟨p, hp⟩ : ∃ p, xs[k] = p := ⟨_, rfl⟩
      rw [hp] at hin
      have hcl := fun w' hx => take_end p m bf bm w' (hf.ext hx) (hm.ext hx)
      have HCL := Lib.hid hcl
      rw [hp] at HPS u0 u1
      clear hp hps hcl
      go_wp2_with (first | (go_at_call 94; refine (HCL.out _ (by (with_reducible show Ext _ _; (with_reducible (repeat (first | exact Ext.refl _ | assumption | apply Ext.alloc | apply Ext.drew | exact ext_plus _ _ | (apply Ext.setCell; rotate_left; (simp <;> omega)) | (apply Ext.trans; rotate_left; exact ext_plus _ _) | (apply Ext.trans; rotate_left; assumption)))); done))).mono ?_; rintro e w2 ⟨rfl, hb2⟩; have hzb := hb2.size; simp only [World.size_alloc] at hzb; have hEw2 : Ext wr w2 := ((Ext.refl wr).alloc _).trans hb2) | (at_builtin; refine wpList_append_own _ rfl _ _ 25 rfl (w.heap.size) 3 i0 (.int .i64 0) 1 8 Try.underlying25 hi hz0 hz1 hz2 rfl (by decide) _ _ _ rfl ((own_ext hown hEw2).alloc _) ⟨w2.heap.size, 0, none⟩ 1 1 [.int .i64 ((takeF m) p)] rfl rfl (cell_one _ _ _ (by simp)) (one_int _) (by unfold maxLen; omega) (by omega) (by simp <;> omega) ?_; intro v' w1 hown' hgrow _; obtain ⟨g', cap', rfl⟩ := own_succ hown'))
      go_roundw
      case rel => exact ⟨k + 1, by omega, by go_num, by rw [HPS.out]; exact hown', ((hE.trans hEw2).alloc _).grown hgrow (own_base hown)⟩
      case measure => simp [intOf]; omega
    · obtain rfl : k = xs.length := by omega
      obtain ⟨av, cv, rfl⟩ := own_slice hown
      go_wp2
      go_ret
      rw [pre_all] at hown
      exact ⟨_, rfl, hown, hE⟩

end Go.Proofs.Ythffoglpekpmdaa
