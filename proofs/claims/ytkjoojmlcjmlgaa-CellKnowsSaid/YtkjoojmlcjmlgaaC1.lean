/- Which systems are as defined, as the program asks it and as the document does. Which systems are as defined: the whole question. A system that runs: how it lies in memory; sums; what the batteries hold. A system before its first day. -/
import Derived.Test.YtkjoojmlcjmlgaaEnc
import Derived.Test.YtkjoojmlcjmlgaaDraw
import Derived.Test.YtkjoojmlcjmlgaaLate
import Derived.Deep.CutRange
import Derived.Deep.RegionHeld3
namespace Go.Proofs.Ytkjoojmlcjmlgaa
set_option linter.unusedVariables false
set_option linter.unusedSimpArgs false
open Go.RowKit
theorem in_any (x lo hi : Int) (w : World) :
    Calls Try.prog 69 #[.int .i64 x, .int .i64 lo, .int .i64 hi] w fun e w' => e = .returned (.bool (C.within x lo hi)) ∧ w = w' := by
  go_enter Try.func69, Try.ntmps69
  go_wp2
  all_goals (go_ret; exact ⟨ret_bool (by rw [Bool.eq_iff_iff]; simp [C.within]; omega), rfl⟩)
theorem din_any (x lo hi : Int) (w : World) :
    Calls Try.prog 53 #[.int .i64 x, .int .i64 lo, .int .i64 hi] w fun e w' => e = .returned (.bool (C.within x lo hi)) ∧ w = w' := by
  go_enter Try.func53, Try.ntmps53
  go_wp2
  all_goals (go_ret; exact ⟨ret_bool (by rw [Bool.eq_iff_iff]; simp [C.within]; omega), rfl⟩)
theorem badLoad_any (l : C.Load) (w : World) :
    Calls Try.prog 78 #[.agg (loadV l)] w fun e w' => e = .returned (.bool (!C.loadB l)) ∧ Ext w w' := by
  go_enter Try.func78, Try.ntmps78
  go_wp2_with (first | (go_at_call 69; refine (in_any _ _ _ _).mono ?_; rintro e w' ⟨rfl, rfl⟩))
  all_goals (go_ret; exact ⟨ret_bool (by simp_all [C.loadB]), (Ext.refl _).alloc _⟩)
set_option maxRecDepth 100000 in
set_option maxHeartbeats 4000000 in
theorem badAt_any (v : Value) (xs : List C.Load) (w : World) (hv : Loads w v xs) (hn : xs.length ≤ 1000000) :
    Calls Try.prog 86 #[v, .func (.func 78) #[] #[]] w fun e w' => ∃ k : Int, e = .returned (.int .i64 k) ∧ decide (0 ≤ k) = !(xs.all C.loadB) ∧ Ext w w' := by
  obtain ⟨a, cap, rfl, hx⟩ := hv
  have HX := Lib.hid hx
  clear hx
  go_enter Try.func86, Try.ntmps86
  go_wp2
  go_loopw [5, 8] (fun _ i wr => ∃ k : Nat, k ≤ xs.length ∧ i = .int .i64 k ∧ (xs.take k).all C.loadB = true ∧ Ext w wr) (fun _ i _ => xs.length - (intOf i).toNat)
  case atStart => exact ⟨0, Nat.zero_le _, rfl, rfl, Ext.refl _⟩
  case round =>
    rename World => wr
    obtain ⟨k, hk, rfl, hgood, hE⟩ := hrel
    have HG := Lib.hid hgood
    clear hgood
    by_cases hlt : k < xs.length
    · obtain ⟨b, off, rfl, hb, hAt⟩ := HX.out k hlt
      obtain ⟨h0, h1, h2⟩ := load_cells (ate_stays _ _ _ _ _ _ hE hb hAt)
      have hbl := Nat.lt_of_lt_of_le hb hE.size
      have hs : (xs.take (k + 1)).all C.loadB = C.loadB xs[k] := by rw [List.take_succ_eq_append_getElem hlt, List.all_append, HG.out]; simp
      have hm : xs[k] ∈ xs := List.getElem_mem hlt
      obtain ⟨l, hl⟩ : ∃ l, xs[k] = l := ⟨_, rfl⟩
      rw [hl] at h0 h1 h2 hs hm
      have hba := fun w' => badLoad_any l w'
      obtain ⟨B, hB⟩ : ∃ B, C.loadB l = B := ⟨_, rfl⟩
      rw [hB] at hs
      simp only [hB] at hba
      have HBA := Lib.hid hba
      have HS := Lib.hid hs
      have HM := Lib.hid hm
      have HBB := Lib.hid hB
      clear hAt hl hba hs hm hB
      cases B with
      | true =>
        go_wp2_with (first | (go_at_call 78; refine (HBA.out _).mono ?_; rintro e w' ⟨rfl, hE'⟩))
        go_roundw
        case rel => exact ⟨k + 1, by omega, by go_num, HS.out, hE.trans hE'⟩
        case measure => simp [intOf]; omega
      | false =>
        go_wp2_with (first | (go_at_call 78; refine (HBA.out _).mono ?_; rintro e w' ⟨rfl, hE'⟩))
        go_ret
        refine ⟨_, rfl, ?_, hE.trans hE'⟩
        have : xs.all C.loadB = false := by rw [List.all_eq_false]; exact ⟨l, HM.out, by rw [HBB.out]; decide⟩
        rw [this]; simp
    · obtain rfl : k = xs.length := by omega
      go_wp2
      go_ret
      have h := HG.out
      rw [List.take_length] at h
      exact ⟨_, rfl, by rw [h]; decide, hE⟩
theorem badLoads_any (v : Value) (xs : List C.Load) (w : World) (hv : Loads w v xs) (hn : xs.length ≤ 1000000) :
    Calls Try.prog 77 #[v, .func (.func 78) #[] #[]] w fun e w' => e = .returned (.bool (!(xs.all C.loadB))) ∧ Ext w w' := by
  have hv' := hv
  obtain ⟨a, cap, rfl, _⟩ := hv'
  have HB := Lib.hid (badAt_any _ xs w hv hn)
  go_enter Try.func77, Try.ntmps77
  go_wp2_with (first | (go_at_call 86; refine HB.out.mono ?_; rintro e w' ⟨k, rfl, hk, hE'⟩))
  all_goals (go_ret; exact ⟨rfl, hE'⟩)
end Go.Proofs.Ytkjoojmlcjmlgaa
namespace Go.Proofs.Ytkjoojmlcjmlgaa
set_option linter.unusedVariables false
set_option linter.unusedSimpArgs false
open Go.RowKit
set_option maxRecDepth 100000 in
set_option maxHeartbeats 4000000 in
theorem valid_any (c : C.Sys) (vl : Value) (w : World) (hL : Loads w vl c.loads) (hn : c.loads.length ≤ 1000000) :
    Calls Try.prog 58 #[.agg (sysV c vl)] w fun e w' => e = .returned (.bool (C.sysB c)) ∧ Ext w w' := by
  have hL' := hL
  obtain ⟨a, cap, rfl, _⟩ := hL'
  have hb := fun w' (hx : Ext w w') => badLoads_any _ c.loads w' (hL.ext hx) hn
  obtain ⟨A, hA⟩ : ∃ A, c.loads.all C.loadB = A := ⟨_, rfl⟩
  simp only [hA] at hb
  have HB := Lib.hid hb
  have HA := Lib.hid hA
  clear hb hA
  go_enter Try.func58, Try.ntmps58
  simp only [List.append_eq, List.cons_append, List.nil_append]
  go_wp2_with (first | (go_at_call 69; refine (in_any _ _ _ _).mono ?_; rintro e w' ⟨rfl, rfl⟩) | (go_at_call 77; refine (HB.out _ (by (with_reducible (repeat (first | exact Ext.refl _ | assumption | apply Ext.alloc | apply Ext.drew | exact ext_plus _ _ | (apply Ext.setCell; rotate_left; (simp <;> omega)) | (apply Ext.trans; rotate_left; exact ext_plus _ _) | (apply Ext.trans; rotate_left; assumption)))))).mono ?_; rintro e w' ⟨rfl, hb⟩; have hbx := Blk.ext (Blk.new w (sysV c (.slice a c.loads.length cap)) 24) hb; have k0 := hbx.cell; have l0 := hbx.lt))
  all_goals (go_ret; refine ⟨ret_bool ?_, by (with_reducible (repeat (first | exact Ext.refl _ | assumption | apply Ext.alloc | apply Ext.drew | exact ext_plus _ _ | (apply Ext.setCell; rotate_left; (simp <;> omega)) | (apply Ext.trans; rotate_left; exact ext_plus _ _) | (apply Ext.trans; rotate_left; assumption))))⟩; unfold C.sysB C.headB C.restB; rw [HA.out]; simp_all)
theorem check_any (c : C.Sys) (vl : Value) (w : World) (hL : Loads w vl c.loads) (hn : c.loads.length ≤ 1000000) :
    Calls Try.prog 45 #[.agg (sysV c vl)] w fun e w' => e = .returned (.int .i64 (if C.sysB c then 0 else 2)) ∧ Ext w w' := by
  have hL' := hL
  obtain ⟨a, cap, rfl, _⟩ := hL'
  go_enter Try.func45, Try.ntmps45
  go_wp2_with (first | (go_at_call 58; refine (valid_any c _ _ (hL.ext (by (with_reducible (repeat (first | exact Ext.refl _ | assumption | apply Ext.alloc | apply Ext.drew | exact ext_plus _ _ | (apply Ext.setCell; rotate_left; (simp <;> omega)) | (apply Ext.trans; rotate_left; exact ext_plus _ _) | (apply Ext.trans; rotate_left; assumption)))))) hn).mono ?_; rintro e w' ⟨rfl, hb⟩))
  all_goals (go_ret; refine ⟨ret_int (by cases h : C.sysB c <;> simp_all), ?_⟩)
  all_goals (with_reducible (repeat (first | exact Ext.refl _ | assumption | apply Ext.alloc | apply Ext.drew | exact ext_plus _ _ | (apply Ext.setCell; rotate_left; (simp <;> omega)) | (apply Ext.trans; rotate_left; exact ext_plus _ _) | (apply Ext.trans; rotate_left; assumption))))
end Go.Proofs.Ytkjoojmlcjmlgaa
namespace Go.Proofs.Ytkjoojmlcjmlgaa
set_option linter.unusedVariables false
set_option linter.unusedSimpArgs false
open Go.RowKit
/-- The cells of a system that runs. -/
abbrev runV (c : C.Sys) (vl : Value) (p b off : Int) (wt : ByteArray) (day : Int) (s : C.St) (st left : Int) : Array Value :=
  #[.int .i64 c.sunny, .int .i64 c.cloudy, .int .i64 c.size, .int .i64 c.fade, .int .i64 c.start, vl, .int .i64 c.days, .int .i64 c.window, .int .i64 c.most, .int .i64 c.panel, .int .i64 c.battery, .int .i64 p, .int .i64 b, .int .i64 off, .string wt, .int .i64 day, .int .i64 s.e, .int .i64 s.carried, .int .i64 st, .int .i64 s.sun, .int .i64 s.used, .int .i64 s.lost, .int .i64 s.faded, .int .i64 left]
theorem sum_any (v : Value) (xs : List Int) (w : World) (hv : Ints w v xs) (hn : xs.length ≤ 1000000) (hb : ∀ k, k ≤ xs.length → -1000000000000000 ≤ (xs.take k).sum ∧ (xs.take k).sum ≤ 1000000000000000) :
    Calls Try.prog 83 #[v] w fun e w' => e = .returned (.int .i64 xs.sum) ∧ w = w' := by
  obtain ⟨a, cap, rfl, hx⟩ := hv
  have HX := Lib.hid hx
  have HB := Lib.hid hb
  clear hx hb
  go_enter Try.func83, Try.ntmps83
  go_wp2
  go_loop [3, 5, 8] (fun n _ i => ∃ k : Nat, k ≤ xs.length ∧ i = .int .i64 k ∧ n = .int .i64 (xs.take k).sum) (fun _ _ i => xs.length - (intOf i).toNat)
  case atStart => exact ⟨0, Nat.zero_le _, rfl, rfl⟩
  case round =>
    obtain ⟨k, hk, rfl, rfl⟩ := hrel
    by_cases hlt : k < xs.length
    · obtain ⟨b, off, rfl, hb, h0⟩ := HX.out k hlt
      have hs : (xs.take (k + 1)).sum = (xs.take k).sum + xs[k] := by rw [List.take_succ_eq_append_getElem hlt, List.sum_append]; simp
      have hb1 := HB.out (k + 1) hlt
      rw [hs] at hb1
      have HS := Lib.hid hs
      clear hs
      obtain ⟨S, hS⟩ : ∃ S, (xs.take k).sum = S := ⟨_, rfl⟩
      rw [hS] at hb1 HS ⊢
      clear hS
      go_wp2
      go_round
      case rel => exact ⟨k + 1, by omega, by go_num, by rw [HS.out]⟩
      case measure => simp [intOf]; omega
    · obtain rfl : k = xs.length := by omega
      go_wp2
      go_ret
      exact ⟨ret_int (by simp), rfl⟩
theorem hold_any (c : C.Sys) (vl : Value) (p b off : Int) (wt : ByteArray) (day : Int) (s : C.St) (st left : Int) (br : Nat) (w : World) (h0 : 0 ≤ c.size) (h1 : c.size ≤ 1000000) (h2 : 0 ≤ b) (h3 : b ≤ 8)
    (hb : Blk w br (runV c vl p b off wt day s st left) 93) :
    Calls Try.prog 70 #[.pointer (some ⟨br, 0, none⟩)] w fun e w' => e = .returned (.int .i64 (C.hold c b)) ∧ Ext w w' := by
  have hm : 0 ≤ c.size * b ∧ c.size * b ≤ 8000000 := ⟨Int.mul_nonneg h0 h2, by have := Int.mul_le_mul h1 h3 h2 (by omega); omega⟩
  have hw : IntKind.wrap .i64 (c.size * b) = c.size * b := IntWalk.i64_in _ (by omega)
  have hh : C.hold c b = c.size * b := rfl
  rw [hh]
  obtain ⟨M, hM⟩ : ∃ M, c.size * b = M := ⟨_, rfl⟩
  rw [hM] at hm hw ⊢
  have k0 := hb.cell
  have k1 := hb.lt
  have hpc := plus_cell
  go_enter Try.func70, Try.ntmps70
  go_upto_region 1 with (fail)
  refine wp_region_ext 11 (fun _ _ d _ _ h => by cases d <;> exact h) (by kernel_rfl) (by kernel_rfl) (by kernel_rfl) (by kernel_rfl) ?_
  simp only [List.take_succ_cons, List.take_zero, List.drop_succ_cons, List.drop_zero]
  repeat (any_goals (first | go_big_quiet_step (fail) | quiet_step (fail)))
  all_goals (refine wpQuiet_nil ?_; intro w2 hE2)
  go_wp2
  go_ret
  exact ⟨rfl, hE2⟩
end Go.Proofs.Ytkjoojmlcjmlgaa
namespace Go.Proofs.Ytkjoojmlcjmlgaa
set_option linter.unusedVariables false
set_option linter.unusedSimpArgs false
open Go.RowKit
/-- What being as defined says, in inequalities. -/
structure C.Ok (c : C.Sys) : Prop where
  s0 : 0 ≤ c.cloudy
  s1 : c.cloudy ≤ c.sunny
  s2 : c.sunny ≤ 1000000
  z0 : 0 ≤ c.size
  z1 : c.size ≤ 1000000
  f0 : 0 ≤ c.fade
  f1 : c.fade ≤ 1000
  t0 : 0 ≤ c.start
  t1 : c.start ≤ 1000
  n1 : 1 ≤ c.loads.length
  n5 : c.loads.length ≤ 5
  d1 : 1 ≤ c.days
  d10 : c.days ≤ 10
  w1 : 1 ≤ c.window
  wd : c.window ≤ c.days
  m0 : 0 ≤ c.most
  mw : c.most ≤ c.window
  p0 : 0 ≤ c.panel
  p1 : c.panel ≤ 1000000
  b0 : 0 ≤ c.battery
  b1 : c.battery ≤ 1000000
  load : ∀ l ∈ c.loads, 0 ≤ l.need ∧ l.need ≤ 1000000 ∧ 0 ≤ l.keep ∧ l.keep ≤ 1000000
theorem C.ok_of {c : C.Sys} (h : C.sysB c = true) : C.Ok c := by
  unfold C.sysB C.headB C.restB C.within at h
  simp only [Bool.and_eq_true, decide_eq_true_eq, List.all_eq_true] at h
  obtain ⟨⟨⟨⟨⟨⟨⟨h1, h2⟩, h3⟩, h4⟩, h5⟩, h6⟩, h7⟩, ⟨⟨⟨⟨h8, h9⟩, h10⟩, h11⟩, h12⟩⟩ := h
  refine ⟨by omega, by omega, by omega, by omega, by omega, by omega, by omega, by omega, by omega, by omega, by omega, by omega, by omega, by omega, by omega, by omega, by omega, by omega, by omega, by omega, by omega, fun l hl => ?_⟩
  have := h7 l hl
  unfold C.loadB C.within at this
  simp only [Bool.and_eq_true, decide_eq_true_eq] at this
  omega
theorem C.hold_bd {c : C.Sys} (O : C.Ok c) {b : Int} (h2 : 0 ≤ b) (h3 : b ≤ 8) : 0 ≤ C.hold c b ∧ C.hold c b ≤ 8000000 :=
  ⟨Int.mul_nonneg O.z0 h2, by have := Int.mul_le_mul O.z1 h3 h2 (by omega); unfold C.hold; omega⟩
theorem C.start_bd {c : C.Sys} (O : C.Ok c) {b : Int} (h2 : 0 ≤ b) (h3 : b ≤ 8) : 0 ≤ C.start c b ∧ C.start c b ≤ C.hold c b ∧ 0 ≤ C.hold c b * c.start ∧ C.hold c b * c.start ≤ 8000000000 := by
  have h := C.hold_bd O h2 h3
  have h4 : 0 ≤ C.hold c b * c.start := Int.mul_nonneg h.1 O.t0
  have h5 : C.hold c b * c.start ≤ C.hold c b * 1000 := Int.mul_le_mul_of_nonneg_left O.t1 h.1
  unfold C.start
  omega
/-- The state before the first day. -/
abbrev C.st0 (c : C.Sys) (b : Int) : C.St := ⟨C.start c b, 0, 0, 0, 0, 0⟩
set_option maxRecDepth 100000 in
set_option maxHeartbeats 4000000 in
theorem run_any (c : C.Sys) (vl : Value) (hvl : ∃ a n k, vl = .slice a n k) (p b off : Int) (wt : ByteArray) (w : World) (O : C.Ok c) (h2 : 0 ≤ b) (h3 : b ≤ 8) :
    Calls Try.prog 51 #[.agg (sysV c vl), .agg #[.int .i64 p, .int .i64 b], .int .i64 off, .string wt] w fun e w' => ∃ br, e = .returned (.pointer (some ⟨br, 0, none⟩)) ∧ Blk w' br (runV c vl p b off wt 0 (C.st0 c b) (C.start c b) 0) 93 ∧ w.heap.size ≤ br ∧ Ext w w' := by
  obtain ⟨al, nl, kl, rfl⟩ := hvl
  have hbd := C.start_bd O h2 h3
  have hH := fun br w' hb => hold_any c (.slice al nl kl) p b off wt 0 ⟨0, 0, 0, 0, 0, 0⟩ 0 0 br w' O.z0 O.z1 h2 h3 hb
  obtain ⟨Hh, hHh⟩ : ∃ Hh, C.hold c b = Hh := ⟨_, rfl⟩
  have hst : C.start c b = Hh * c.start / 1000 := by unfold C.start; rw [hHh]
  rw [hHh] at hbd
  simp only [hHh] at hH
  obtain ⟨M, hM⟩ : ∃ M, Hh * c.start = M := ⟨_, rfl⟩
  rw [hM] at hbd hst
  have hw : IntKind.wrap .i64 M = M := IntWalk.i64_in _ (by omega)
  have HH := Lib.hid hH
  have HST := Lib.hid hst
  clear hH hHh hst
  have hpc := plus_cell
  go_enter Try.func51, Try.ntmps51
  go_upto_region 2 with (fail)
  obtain ⟨w1, hw1⟩ : ∃ w1, ((w.alloc (.cells (sysV c (.slice al nl kl)) 24)).alloc (.cells #[.int .i64 p, .int .i64 b] 86)).alloc (.cells (runV c (.slice al nl kl) p b off wt 0 ⟨0, 0, 0, 0, 0, 0⟩ 0 0) 93) = w1 := ⟨_, rfl⟩
  have hb0 : Blk w1 w.heap.size (sysV c (.slice al nl kl)) 24 := by rw [← hw1]; exact ((Blk.new' rfl _ _).alloc _).alloc _
  have hb2 : Blk w1 (w.heap.size + 1 + 1) (runV c (.slice al nl kl) p b off wt 0 ⟨0, 0, 0, 0, 0, 0⟩ 0 0) 93 := by rw [← hw1]; exact Blk.new' (by simp) _ _
  have hE1 : Ext w w1 := by rw [← hw1]; (with_reducible (repeat (first | exact Ext.refl _ | assumption | apply Ext.alloc | apply Ext.drew | exact ext_plus _ _ | (apply Ext.setCell; rotate_left; (simp <;> omega)) | (apply Ext.trans; rotate_left; exact ext_plus _ _) | (apply Ext.trans; rotate_left; assumption))))
  rw [hw1]
  clear hw1
  obtain ⟨br, hbr⟩ : ∃ br, w.heap.size + 1 + 1 = br := ⟨_, rfl⟩
  rw [hbr] at hb2 ⊢
  have k0 := hb0.cell
  have k1 := hb0.lt
  refine wp_region_ext 9 (fun _ _ d _ _ h => by cases d <;> exact h) (by kernel_rfl) (by kernel_rfl) (by kernel_rfl) (by kernel_rfl) ?_
  simp only [List.take_succ_cons, List.take_zero, List.drop_succ_cons, List.drop_zero]
  repeat (any_goals (first | go_big_quiet_step ((go_at_call 70; exact ext_quiet (HH.out br _ (hb2.ext (by (with_reducible (repeat (first | exact Ext.refl _ | assumption | apply Ext.alloc | apply Ext.drew | exact ext_plus _ _ | (apply Ext.setCell; rotate_left; (simp <;> omega)) | (apply Ext.trans; rotate_left; exact ext_plus _ _) | (apply Ext.trans; rotate_left; assumption))))))))) | quiet_step ((go_at_call 70; exact ext_quiet (HH.out br _ (hb2.ext (by (with_reducible (repeat (first | exact Ext.refl _ | assumption | apply Ext.alloc | apply Ext.drew | exact ext_plus _ _ | (apply Ext.setCell; rotate_left; (simp <;> omega)) | (apply Ext.trans; rotate_left; exact ext_plus _ _) | (apply Ext.trans; rotate_left; assumption)))))))))))
  all_goals (refine wpQuiet_nil ?_; intro w2 hE2)
  have hb3 := hb2.ext hE2
  have d0 := hb3.cell
  have d1 := hb3.free
  have d2 := hb3.lt
  clear k0 k1
  go_upto_region 3 with (fail)
  rw [← HST.out]
  obtain ⟨S, hS⟩ : ∃ S, C.start c b = S := ⟨_, rfl⟩
  have hb4 : Blk (w2.setCell ⟨br, 16, none⟩ (.int .i64 S)) br (runV c (.slice al nl kl) p b off wt 0 ⟨S, 0, 0, 0, 0, 0⟩ 0 0) 93 := by simpa using hb3.set 16 (.int .i64 S)
  have hE3 := (hE1.trans hE2).setCell (p := ⟨br, 16, none⟩) (by simp; omega) (.int .i64 S)
  rw [hS]
  obtain ⟨w3, hw3⟩ : ∃ w3, w2.setCell ⟨br, 16, none⟩ (.int .i64 S) = w3 := ⟨_, rfl⟩
  rw [hw3] at hb4 hE3 ⊢
  have HS := Lib.hid hS
  clear hw3 d0 d1 d2 hS
  have d0 := hb4.cell
  have d1 := hb4.free
  have d2 := hb4.lt
  go_wp2
  go_ret
  have hb5 : Blk (w3.setCell ⟨br, 18, none⟩ (.int .i64 S)) br (runV c (.slice al nl kl) p b off wt 0 ⟨S, 0, 0, 0, 0, 0⟩ S 0) 93 := by simpa using hb4.set 18 (.int .i64 S)
  exact ⟨br, rfl, by rw [C.st0, HS.out]; exact hb5, by omega, hE3.setCell (p := ⟨br, 18, none⟩) (by simp; omega) _⟩
end Go.Proofs.Ytkjoojmlcjmlgaa
