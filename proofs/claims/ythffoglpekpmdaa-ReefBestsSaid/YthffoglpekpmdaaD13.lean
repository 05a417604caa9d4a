/- The document's Cost and Before. -/
import Derived.Test.YthffoglpekpmdaaD4
import Derived.Test.YthffoglpekpmdaaH2
import Derived.Test.YthffoglpekpmdaaPl9
namespace Go.Proofs.Ythffoglpekpmdaa
set_option linter.unusedVariables false
set_option linter.unusedSimpArgs false
open Go.RowKit
/-- The cost of the first s seasons, and of the first i places in the next one. -/
def costAt (r : R.Reef) (plan : List Int) (s i : Nat) : Int := costTo r plan s + ((List.range i).map fun i => if R.has (R.iat plan s) i then (R.pat r.places i).worth else 0).sum
theorem costAt_zero (r : R.Reef) (plan : List Int) : costAt r plan 0 0 = 0 := rfl
theorem costAt_step (r : R.Reef) (plan : List Int) (s i : Nat) : costAt r plan s (i + 1) = costAt r plan s i + if R.has (R.iat plan s) i then (R.pat r.places i).worth else 0 := by
  unfold costAt; rw [List.range_succ, List.map_append, List.sum_append]; simp; omega
theorem costAt_next (r : R.Reef) (plan : List Int) (s : Nat) : costAt r plan s r.places.length = costAt r plan (s + 1) 0 := by
  unfold costAt; rw [costTo_succ]; simp [costRow]
theorem costAt_bd (r : R.Reef) (h : ∀ i, i < r.places.length → 0 ≤ (R.pat r.places i).worth ∧ (R.pat r.places i).worth ≤ 1000000) (hn : r.places.length ≤ 4) (plan : List Int) (s : Nat) : ∀ i, i ≤ r.places.length → 0 ≤ costAt r plan s i ∧ costAt r plan s i ≤ 4000000 * s + 1000000 * i
  | 0, _ => by have := costTo_bd r h hn plan s; unfold costAt; simp; omega
  | i + 1, hi => by
    have h1 := costAt_bd r h hn plan s i (by omega)
    have h2 := h i (by omega)
    rw [costAt_step]
    split <;> omega
set_option maxRecDepth 100000 in
set_option maxHeartbeats 8000000 in
theorem dcost_any (r : R.Reef) (plan : List Int) (vp vl : Value) (w : World) (hP : Places w vp r.places) (hL : Ints w vl plan) (O : R.OkR r) (OL : R.OkL r plan) :
    Calls Try.prog 32 #[.agg (reefV r vp), vl] w fun e w' => e = .returned (.int .i64 (R.cost r plan)) ∧ Ext w w' := by
  obtain ⟨a1, c1, rfl, hx1⟩ := hP
  obtain ⟨a2, c2, rfl, hx2⟩ := hL
  have HX1 := Lib.hid hx1
  have HX2 := Lib.hid hx2
  have hn4 := O.n4
  have hl4 : plan.length ≤ 4 := by have := OL.len; have := O.s4; omega
  have hw := fun i hi => (⟨(O.place i hi).w0, (O.place i hi).w1⟩ : 0 ≤ (R.pat r.places i).worth ∧ (R.pat r.places i).worth ≤ 1000000)
  have HBD := Lib.hid (fun s i hi => costAt_bd r hw hn4 plan s i hi)
  have HW := Lib.hid hw
  have HBIT := Lib.hid (fun (s : Nat) (hs : s < plan.length) => (⟨(OL.bit s hs).1, by have h1 := (OL.bit s hs).2; have h2 := (R.two_pow _ hn4).2; omega⟩ : 0 ≤ plan[s] ∧ plan[s] ≤ 1000000))
  have hend : costAt r plan plan.length 0 = R.cost r plan := by unfold costAt; rw [costTo_all]; simp
  obtain ⟨V, hV⟩ : ∃ V, R.cost r plan = V := ⟨_, rfl⟩
  rw [hV] at hend ⊢
  have HEND := Lib.hid hend
  obtain ⟨C, hC⟩ : ∃ C : Nat → Nat → Int, C = costAt r plan := ⟨_, rfl⟩
  have HSTEP := Lib.hid (show ∀ s i (hs : s < plan.length) (hi : i < r.places.length), C s (i + 1) = C s i + if R.has plan[s] i then r.places[i].worth else 0 from fun s i hs hi => by
    subst hC; rw [costAt_step, R.iat_at hs, R.pat_at hi])
  have HNEXT := Lib.hid (show ∀ s, C s r.places.length = C (s + 1) 0 from fun s => by subst hC; exact costAt_next r plan s)
  rw [← hC] at HEND
  have HBD2 := Lib.hid (show ∀ s i, i ≤ r.places.length → 0 ≤ C s i ∧ C s i ≤ 4000000 * s + 1000000 * i from fun s i hi => by subst hC; exact HBD.out s i hi)
  have HZ := Lib.hid (show C 0 0 = 0 by subst hC; rfl)
  clear hx1 hx2 O OL hw hend hV hC HBD
  go_enter Try.func32, Try.ntmps32
  go_wp2
  obtain ⟨w1, hw1⟩ : ∃ w1, w.alloc (.cells (reefV r (.slice a1 r.places.length c1)) 24) = w1 := ⟨_, rfl⟩
  have hb0 : Blk w1 w.heap.size (reefV r (.slice a1 r.places.length c1)) 24 := by rw [← hw1]; exact Blk.new' rfl _ _
  have hE1 : Ext w w1 := by rw [← hw1]; (with_reducible (repeat (first | exact Ext.refl _ | assumption | apply Ext.alloc | apply Ext.drew | exact ext_plus _ _ | (apply Ext.setCell; rotate_left; (simp <;> omega)) | (apply Ext.trans; rotate_left; exact ext_plus _ _) | (apply Ext.trans; rotate_left; assumption))))
  rw [hw1]
  clear hw1
  go_loopw [5, 6, 7] (fun v i _ wr => ∃ s : Nat, s ≤ plan.length ∧ i = .int .i64 s ∧ v = .int .i64 (C s 0) ∧ Ext w1 wr) (fun _ i _ _ => plan.length - (intOf i).toNat)
  case atStart => exact ⟨0, Nat.zero_le _, rfl, by rw [HZ.out], Ext.refl _⟩
  case round =>
    rename World => wr
    obtain ⟨s, hs, rfl, rfl, hEr⟩ := hrel
    by_cases hlt : s < plan.length
    · obtain ⟨b2, o2, rfl, hb2, hc2⟩ := HX2.out s hlt
      have hbit := HBIT.out s hlt
      have hstep := fun i hi => HSTEP.out s i hlt hi
      obtain ⟨x, hx⟩ : ∃ x, plan[s] = x := ⟨_, rfl⟩
      rw [hx] at hc2 hbit
      simp only [hx] at hstep
      have HST := Lib.hid hstep
      clear hstep hx
      have k0 := (hb0.ext hEr).cell
      have k1 := (hb0.ext hEr).lt
      go_wp2
      go_loopw [5, 7] (fun v j wx => ∃ i : Nat, i ≤ r.places.length ∧ j = .int .i64 i ∧ v = .int .i64 (C s i) ∧ Ext wr wx) (fun _ j _ => r.places.length - (intOf j).toNat)
      case atStart => exact ⟨0, Nat.zero_le _, rfl, rfl, Ext.refl _⟩
      case round =>
        rename World => wx
        obtain ⟨i, hi, rfl, rfl, hEx⟩ := hrel
        have hEw := hE1.trans (hEr.trans hEx)
        have c2' := (hEw.cells.1 _ _ hb2).trans hc2
        have hb2l := Nat.lt_of_lt_of_le hb2 hEw.size
        have k2 := (hb0.ext (hEr.trans hEx)).cell
        have k3 := (hb0.ext (hEr.trans hEx)).lt
        clear k0 k1
        by_cases hli : i < r.places.length
        · have hst := HST.out i hli
          have hw := HW.out i hli
          rw [R.pat_at hli] at hw
          have hbd := HBD2.out s i hi
          obtain ⟨b, off, rfl, hb, hAt⟩ := HX1.out i hli
          have hAt2 := ate_stays _ _ _ _ _ _ hEw hb hAt
          obtain ⟨h0, h1, h2, h3, h4, h5, h6, h7, h8, h9, h10, h11⟩ := place_cells hAt2
          have hbl := Nat.lt_of_lt_of_le hb hEw.size
          have hha := fun w' => dhas_any x i w' hbit.1 hbit.2 (by omega)
          obtain ⟨B, hB⟩ : ∃ B, R.has x i = B := ⟨_, rfl⟩
          simp only [hB] at hha
          rw [hB] at hst
          obtain ⟨y, hy⟩ : ∃ y, r.places[i].worth = y := ⟨_, rfl⟩
          rw [hy] at h11 hst hw
          have HHA := Lib.hid hha
          clear hAt hAt2 h0 h1 h2 h3 h4 h5 h6 h7 h8 h9 h10 hha hB hy
          cases B with
          | true =>
            rw [if_pos rfl] at hst
            have HS2 := Lib.hid hst
            have hwr : IntKind.wrap .i64 (C s i + y) = C s i + y := IntWalk.i64_in _ (by omega)
            clear hst hbd
            go_wp2_with (first | (go_at_call 39; refine (HHA.out _).mono ?_; rintro e wy ⟨rfl, rfl⟩))
            go_roundw
            case rel => exact ⟨i + 1, by omega, by go_num, by rw [HS2.out], hEx⟩
            case measure => simp [intOf]; omega
          | false =>
            rw [if_neg (by decide)] at hst
            have HS2 := Lib.hid hst
            clear hst hbd
            go_wp2_with (first | (go_at_call 39; refine (HHA.out _).mono ?_; rintro e wy ⟨rfl, rfl⟩))
            go_roundw
            case rel => exact ⟨i + 1, by omega, by go_num, by rw [HS2.out, Int.add_zero], hEx⟩
            case measure => simp [intOf]; omega
        · obtain rfl : i = r.places.length := by omega
          go_wp2
          go_roundw
          case rel => exact ⟨s + 1, by omega, by go_num, by rw [HNEXT.out], hEr.trans hEx⟩
          case measure => simp [intOf]; omega
    · obtain rfl : s = plan.length := by omega
      go_wp2
      go_ret
      exact ⟨ret_int HEND.out, hE1.trans hEr⟩
theorem before_drop {a b : List Int} {k : Nat} (ha : k < a.length) (hb : k < b.length) : R.before (a.drop k) (b.drop k) = if a[k] = b[k] then R.before (a.drop (k + 1)) (b.drop (k + 1)) else decide (a[k] < b[k]) := by
  rw [List.drop_eq_getElem_cons ha, List.drop_eq_getElem_cons hb, R.before]
theorem before_nil (a b : List Int) (k : Nat) (h : ¬(k < a.length ∧ k < b.length)) : R.before (a.drop k) (b.drop k) = false := by
  rcases Nat.lt_or_ge k a.length with h1 | h1
  · rcases Nat.lt_or_ge k b.length with h2 | h2
    · exact absurd ⟨h1, h2⟩ h
    · rw [List.drop_eq_nil_of_le h2]
      cases a.drop k <;> rfl
  · rw [List.drop_eq_nil_of_le h1]; rfl
set_option maxRecDepth 100000 in
set_option maxHeartbeats 2000000 in
theorem dbefore_any (L M : List Int) (vl vm : Value) (w : World) (hL : Ints w vl L) (hM : Ints w vm M) (hn : L.length ≤ 1000000) (hm : M.length ≤ 1000000) :
    Calls Try.prog 34 #[vl, vm] w fun e w' => e = .returned (.bool (R.before L M)) ∧ Ext w w' := by
  obtain ⟨a1, c1, rfl, hx1⟩ := hL
  obtain ⟨a2, c2, rfl, hx2⟩ := hM
  have HX1 := Lib.hid hx1
  have HX2 := Lib.hid hx2
  obtain ⟨B, hB⟩ : ∃ B, R.before L M = B := ⟨_, rfl⟩
  rw [hB]
  have HB := Lib.hid hB
  clear hx1 hx2 hB
  have hpc := plus_cell
  go_enter Try.func34, Try.ntmps34
  go_wp2
  go_loopw [5] (fun i wr => ∃ k : Nat, k ≤ L.length ∧ i = .int .i64 k ∧ R.before (L.drop k) (M.drop k) = B ∧ Ext w wr)
    (fun i _ => L.length - (intOf i).toNat)
  case atStart => exact ⟨0, Nat.zero_le _, rfl, by simpa using HB.out, Ext.refl _⟩
  case round =>
    obtain ⟨k, hk, rfl, hfz, hEk⟩ := hrel
    have HFZ := Lib.hid hfz
    clear hfz
    have hcy := hEk.cells.1
    have hsz := hEk.size
    by_cases hlt : k < L.length
    · by_cases hlt2 : k < M.length
      · obtain ⟨g4, o4, rfl, hg4, h04⟩ := HX1.out k hlt
        have q1 : g4 < wr.heap.size := by omega
        obtain ⟨g5, o5, rfl, hg5, h05⟩ := HX2.out k hlt2
        have q2 : g5 < wr.heap.size := by omega
        have HD := Lib.hid (before_drop hlt hlt2)
        obtain ⟨z, hz⟩ : ∃ z, L[k] = z := ⟨_, rfl⟩
        obtain ⟨y, hy⟩ : ∃ y, M[k] = y := ⟨_, rfl⟩
        rw [hz] at h04 HD
        rw [hy] at h05 HD
        clear hz hy
        by_cases hz : z = y
        · subst hz
          have HR := Lib.hid (show R.before (L.drop (k + 1)) (M.drop (k + 1)) = B by rw [← HFZ.out, HD.out, if_pos rfl])
          clear HD HFZ
          go_wp2
          refine wp_region_ext 9 (fun _ _ d _ _ h => by cases d <;> exact h) (by kernel_rfl) (by kernel_rfl) (by kernel_rfl) (by kernel_rfl) ?_
          simp only [List.take_succ_cons, List.take_zero, List.drop_succ_cons, List.drop_zero]
          repeat (any_goals (first | go_big_quiet_step (fail) | quiet_step (fail)))
          all_goals (refine wpQuiet_nil ?_; intro w2 hE2)
          unfold wpList
          go_wp2
          go_roundw
          case rel => exact ⟨k + 1, by omega, by go_num, HR.out, hEk.trans hE2⟩
          case measure => simp [intOf]; omega
        · have hR : B = decide (z < y) := by rw [← HFZ.out, HD.out, if_neg hz]
          have HR := Lib.hid hR
          clear hR HFZ HB HD
          go_wp2
          refine wp_region_ext 9 (fun _ _ d _ _ h => by cases d <;> exact h) (by kernel_rfl) (by kernel_rfl) (by kernel_rfl) (by kernel_rfl) ?_
          simp only [List.take_succ_cons, List.take_zero, List.drop_succ_cons, List.drop_zero]
          repeat (any_goals (first | go_big_quiet_step (fail) | quiet_step (fail)))
          all_goals (refine wpQuiet_nil ?_; intro w2 hE2)
          unfold wpList
          have hE2c := hE2.cells.1
          have hE2s := hE2.size
          have q3 : g4 < w2.heap.size := by omega
          have q4 : g5 < w2.heap.size := by omega
          go_wp2
          refine wp_region_ext 10 (fun _ _ d _ _ h => by cases d <;> exact h) (by kernel_rfl) (by kernel_rfl) (by kernel_rfl) (by kernel_rfl) ?_
          simp only [List.take_succ_cons, List.take_zero, List.drop_succ_cons, List.drop_zero]
          repeat (any_goals (first | go_big_quiet_step (fail) | quiet_step (fail)))
          all_goals (refine wpQuiet_nil ?_; intro w3 hE3)
          unfold wpList
          go_wp2
          go_ret
          exact ⟨ret_bool HR.out.symm, (hEk.trans hE2).trans hE3⟩
      · have hR : B = false := by rw [← HFZ.out]; exact before_nil _ _ _ (fun h => hlt2 h.2)
        have HR := Lib.hid hR
        clear hR HFZ HB
        go_wp2
        go_ret
        exact ⟨ret_bool HR.out.symm, hEk⟩
    · have hR : B = false := by rw [← HFZ.out]; exact before_nil _ _ _ (fun h => hlt h.1)
      have HR := Lib.hid hR
      clear hR HFZ HB
      go_wp2
      go_ret
      exact ⟨ret_bool HR.out.symm, hEk⟩
end Go.Proofs.Ythffoglpekpmdaa
