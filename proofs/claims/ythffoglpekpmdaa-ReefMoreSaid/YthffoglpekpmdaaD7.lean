/- The statements' helpers; the chapter's example. -/
import Derived.Test.YthffoglpekpmdaaD2
import Derived.Test.YthffoglpekpmdaaD3
import Derived.Test.YthffoglpekpmdaaD6
import Derived.Test.YthffoglpekpmdaaF4
namespace Go.Proofs.Ythffoglpekpmdaa
set_option linter.unusedVariables false
set_option linter.unusedSimpArgs false
open Go.RowKit
def shortR (r : R.Reef) : Bool := decide (r.places.length ≤ 8)
theorem short_any (r : R.Reef) (vp : Value) (w : World) (hP : Places w vp r.places) :
    Calls Try.prog 15 #[.agg (reefV r vp)] w fun e w' => e = .returned (.bool (shortR r)) ∧ Ext w w' := by
  obtain ⟨a1, c1, rfl, _⟩ := hP
  go_enter Try.func15, Try.ntmps15
  go_wp2
  all_goals (go_ret; refine ⟨ret_bool ?_, by (with_reducible (repeat (first | exact Ext.refl _ | assumption | apply Ext.alloc | apply Ext.drew | exact ext_plus _ _ | (apply Ext.setCell; rotate_left; (simp <;> omega)) | (apply Ext.trans; rotate_left; exact ext_plus _ _) | (apply Ext.trans; rotate_left; assumption))))⟩; rw [Bool.eq_iff_iff]; simp [shortR]; omega)
set_option maxHeartbeats 1000000 in
theorem asked_any (r : R.Reef) (plan : List Int) (vp vl : Value) (w : World) (hP : Places w vp r.places) (hL : Ints w vl plan) (hn : r.places.length ≤ 8) (hm : plan.length ≤ 1000000) :
    Calls Try.prog 19 #[.agg (reefV r vp), vl] w fun e w' => e = .returned (.bool (rightB r plan)) ∧ Ext w w' := by
  have hP' := hP
  have hL' := hL
  obtain ⟨a1, c1, rfl, _⟩ := hP'
  obtain ⟨a2, c2, rfl, _⟩ := hL'
  have hr := fun w' (hx : Ext w w') => dreef_any r _ w' (hP.ext hx) (by omega)
  have hp := fun w' (hx : Ext w w') => dplan_any r plan _ _ w' (hP.ext hx) (hL.ext hx) hn hm
  obtain ⟨A, hA⟩ : ∃ A, R.reefB r = A := ⟨_, rfl⟩
  obtain ⟨B, hB⟩ : ∃ B, R.planB r plan = B := ⟨_, rfl⟩
  simp only [hA] at hr
  simp only [hB] at hp
  have hb : rightB r plan = (A && B) := by unfold rightB; rw [hA, hB]
  rw [hb]
  have HR := Lib.hid hr
  have HP := Lib.hid hp
  clear hr hp hA hB hb
  go_enter Try.func19, Try.ntmps19
  go_wp2_with (first | (go_at_call 28; refine (HR.out _ (by (with_reducible (repeat (first | exact Ext.refl _ | assumption | apply Ext.alloc | apply Ext.drew | exact ext_plus _ _ | (apply Ext.setCell; rotate_left; (simp <;> omega)) | (apply Ext.trans; rotate_left; exact ext_plus _ _) | (apply Ext.trans; rotate_left; assumption)))))).mono ?_; rintro e w1 ⟨rfl, hb1⟩; have hcq := hb1.cells.1; have hzq := hb1.size; (try simp only [World.size_alloc] at hzq); have k0 : w.heap.size < w1.heap.size := (by omega)) | (go_at_call 33; refine (HP.out _ (by (with_reducible (repeat (first | exact Ext.refl _ | assumption | apply Ext.alloc | apply Ext.drew | exact ext_plus _ _ | (apply Ext.setCell; rotate_left; (simp <;> omega)) | (apply Ext.trans; rotate_left; exact ext_plus _ _) | (apply Ext.trans; rotate_left; assumption)))))).mono ?_; rintro e w3 ⟨rfl, hb3⟩))
  all_goals (go_ret; refine ⟨ret_bool ?_, by (with_reducible (repeat (first | exact Ext.refl _ | assumption | apply Ext.alloc | apply Ext.drew | exact ext_plus _ _ | (apply Ext.setCell; rotate_left; (simp <;> omega)) | (apply Ext.trans; rotate_left; exact ext_plus _ _) | (apply Ext.trans; rotate_left; assumption))))⟩; simp [*])
def sizedT (t : R.Truth) : Bool := decide (t.starts.length ≤ 8) && decide (t.grows.length ≤ 8) && decide (t.takes.length ≤ 8) && t.grows.all (fun l => decide (l.length ≤ 8)) && t.takes.all (fun l => decide (l.length ≤ 8))
theorem sized_bd {t : R.Truth} (h : sizedT t = true) : t.starts.length ≤ 8 ∧ t.grows.length ≤ 8 ∧ t.takes.length ≤ 8 ∧ (∀ l ∈ t.grows, l.length ≤ 8) ∧ (∀ l ∈ t.takes, l.length ≤ 8) := by
  unfold sizedT at h
  simp only [Bool.and_eq_true, decide_eq_true_eq, List.all_eq_true] at h
  exact ⟨h.1.1.1.1, h.1.1.1.2, h.1.1.2, h.1.2, h.2⟩
set_option maxHeartbeats 4000000 in
theorem sized_any (t : R.Truth) (vs vg vt : Value) (w : World) (hS : Ints w vs t.starts) (hG : Lists w vg t.grows) (hT : Lists w vt t.takes) :
    Calls Try.prog 16 #[.agg #[vs, vg, vt]] w fun e w' => e = .returned (.bool (sizedT t)) ∧ Ext w w' := by
  obtain ⟨a3, c3, rfl, _⟩ := hS
  obtain ⟨a4, c4, rfl, hx4⟩ := hG
  obtain ⟨a5, c5, rfl, hx5⟩ := hT
  have HX4 := Lib.hid hx4
  have HX5 := Lib.hid hx5
  clear hx4 hx5
  obtain ⟨B, hB⟩ : ∃ B, sizedT t = B := ⟨_, rfl⟩
  have hB2 := hB
  rw [hB]
  unfold sizedT at hB2
  have HB := Lib.hid hB2
  clear hB hB2
  by_cases hl : t.starts.length ≤ 8 ∧ t.grows.length ≤ 8 ∧ t.takes.length ≤ 8
  · obtain ⟨l1, l2, l3⟩ := hl
    go_enter Try.func16, Try.ntmps16
    go_upto_region 3 with (fail)
    obtain ⟨w1, hw1⟩ : ∃ w1, w.alloc (.cells #[.slice a3 t.starts.length c3, .slice a4 t.grows.length c4, .slice a5 t.takes.length c5] 28) = w1 := ⟨_, rfl⟩
    have hb : Blk w1 w.heap.size #[.slice a3 t.starts.length c3, .slice a4 t.grows.length c4, .slice a5 t.takes.length c5] 28 := by rw [← hw1]; exact Blk.new' rfl _ _
    have hE : Ext w w1 := by rw [← hw1]; (with_reducible (repeat (first | exact Ext.refl _ | assumption | apply Ext.alloc | apply Ext.drew | exact ext_plus _ _ | (apply Ext.setCell; rotate_left; (simp <;> omega)) | (apply Ext.trans; rotate_left; exact ext_plus _ _) | (apply Ext.trans; rotate_left; assumption))))
    rw [hw1]
    clear hw1
    have d0 := hb.cell
    have d1 := hb.lt
    go_wp2
    go_loop [3] (fun i => ∃ k : Nat, k ≤ t.grows.length ∧ i = .int .i64 k ∧ (t.grows.take k).all (fun l => decide (l.length ≤ 8)) = true) (fun i => t.grows.length - (intOf i).toNat)
    case atStart => exact ⟨0, Nat.zero_le _, rfl, rfl⟩
    case round =>
      obtain ⟨k, hk, rfl, hall⟩ := hrel
      have HALL := Lib.hid hall
      clear hall
      by_cases hlt : k < t.grows.length
      · obtain ⟨b4, off4, rfl, hb4, v4, h04, hv4, _⟩ := HX4.out k hlt
        obtain ⟨a6, c6, rfl, _⟩ := hv4
        have u4 := (hE.cells.1 _ _ hb4).trans h04
        simp only [Nat.mul_one] at u4
        clear h04
        generalize hx : t.grows[k] = x at u4
        have HX := Lib.hid hx
        clear hx
        by_cases h8 : x.length ≤ 8
        · have H8 := Lib.hid h8
          go_wp2
          go_round
          case rel => exact ⟨k + 1, by omega, by go_num, by rw [List.take_succ_eq_append_getElem hlt, List.all_append, HALL.out]; simp [HX.out, H8.out]⟩
          case measure => simp [intOf]; omega
        · have H8 := Lib.hid h8
          have h9 : (8 : Int) < x.length := by omega
          clear h8
          go_wp2
          go_ret
          refine ⟨ret_bool ?_, hE⟩
          have hf : t.grows.all (fun l => decide (l.length ≤ 8)) = false := by rw [List.all_eq_false]; exact ⟨_, List.getElem_mem hlt, by simp only [HX.out]; simpa using H8.out⟩
          rw [← HB.out, hf]; simp
      · obtain rfl : k = t.grows.length := by omega
        have hg := HALL.out
        rw [List.take_length] at hg
        have HG := Lib.hid hg
        clear hg HALL
        go_wp2
        go_loop [4] (fun i => ∃ k : Nat, k ≤ t.takes.length ∧ i = .int .i64 k ∧ (t.takes.take k).all (fun l => decide (l.length ≤ 8)) = true) (fun i => t.takes.length - (intOf i).toNat)
        case atStart => exact ⟨0, Nat.zero_le _, rfl, rfl⟩
        case round =>
          obtain ⟨k, hk, rfl, hall⟩ := hrel
          have HALL := Lib.hid hall
          clear hall
          by_cases hlt : k < t.takes.length
          · obtain ⟨b4, off4, rfl, hb4, v4, h04, hv4, _⟩ := HX5.out k hlt
            obtain ⟨a6, c6, rfl, _⟩ := hv4
            have u4 := (hE.cells.1 _ _ hb4).trans h04
            simp only [Nat.mul_one] at u4
            clear h04
            generalize hx : t.takes[k] = x at u4
            have HX := Lib.hid hx
            clear hx
            by_cases h8 : x.length ≤ 8
            · have H8 := Lib.hid h8
              go_wp2
              go_round
              case rel => exact ⟨k + 1, by omega, by go_num, by rw [List.take_succ_eq_append_getElem hlt, List.all_append, HALL.out]; simp [HX.out, H8.out]⟩
              case measure => simp [intOf]; omega
            · have H8 := Lib.hid h8
              have h9 : (8 : Int) < x.length := by omega
              clear h8
              go_wp2
              go_ret
              refine ⟨ret_bool ?_, hE⟩
              have hf : t.takes.all (fun l => decide (l.length ≤ 8)) = false := by rw [List.all_eq_false]; exact ⟨_, List.getElem_mem hlt, by simp only [HX.out]; simpa using H8.out⟩
              rw [← HB.out, hf]; simp
          · obtain rfl : k = t.takes.length := by omega
            have hg := HALL.out
            rw [List.take_length] at hg
            have HG2 := Lib.hid hg
            clear hg HALL
            go_wp2
            go_ret
            refine ⟨ret_bool ?_, hE⟩
            rw [← HB.out, HG.out, HG2.out]
            simp [l1, l2, l3]
  · have HL := Lib.hid hl
    clear hl
    go_enter Try.func16, Try.ntmps16
    go_upto_region 3 with (fail)
    all_goals first
      | (go_ret; refine ⟨ret_bool ?_, by (with_reducible (repeat (first | exact Ext.refl _ | assumption | apply Ext.alloc | apply Ext.drew | exact ext_plus _ _ | (apply Ext.setCell; rotate_left; (simp <;> omega)) | (apply Ext.trans; rotate_left; exact ext_plus _ _) | (apply Ext.trans; rotate_left; assumption))))⟩; rw [← HB.out]; have := HL.out; rw [eq_comm, Bool.and_eq_false_imp]; intro h; exfalso; simp only [Bool.and_eq_true, decide_eq_true_eq] at h; omega)
      | (exfalso; have := HL.out; omega)
theorem lspan_at (a b : Int) (w : World) : Calls Try.prog 38 #[.int .i64 a, .int .i64 b] w fun e w' => e = .returned (.agg #[.int .i64 a, .int .i64 b]) ∧ w.alloc (.cells #[.int .i64 a, .int .i64 b] 44) = w' := by
  go_enter Try.func38, Try.ntmps38
  go_wp2
  exact bodyPost_ret (v := .agg #[.int .i64 a, .int .i64 b]) (by simp [results, Try.results38, go_sem]) rfl ⟨rfl, rfl⟩
theorem lspan_any (a b : Int) (w : World) : Calls Try.prog 38 #[.int .i64 a, .int .i64 b] w fun e w' => e = .returned (.agg #[.int .i64 a, .int .i64 b]) ∧ Ext w w' := (lspan_at a b w).mono fun _ _ ⟨h1, h2⟩ => ⟨h1, h2 ▸ (Ext.refl _).alloc _⟩
def exR : R.Reef := ⟨[⟨1000, 2000, 200, 300, 100, 1, 200, 300, 0, 50, 900, 10⟩, ⟨500, 800, 100, 200, 0, -1, 100, 200, 0, 20, 450, 6⟩], 200, 2⟩
theorem exR_row {w : World} {g : Nat} (h : Blk w g (exR.places.flatMap placeC).toArray 46) : RowB placeC 12 46 w g exR.places :=
  ⟨_, h, fun k hk j u hu => by
    have hj : j < 12 := by have := (List.getElem?_eq_some_iff.1 hu).1; simpa [placeC_len] using this
    rw [List.getElem?_toArray, flat_get placeC 12 placeC_len _ k hk j hj]; exact hu⟩
theorem exR_any (w : World) : Calls Try.prog 49 #[] w fun e w' => ∃ vp, e = .returned (.agg (reefV exR vp)) ∧ Places w' vp exR.places ∧ Ext w w' := by
  go_enter Try.func49, Try.ntmps49
  go_wp2_with (first | (go_at_call 38; refine (lspan_at _ _ _).mono ?_; rintro e y ⟨rfl, rfl⟩))
  refine bodyPost_ret (v := .agg (reefV exR (.slice (some ⟨w.heap.size + 1 + 1 + 1 + 1 + 1 + 1 + 1, 0, none⟩) 2 2))) (by simp [results, Try.results49, go_sem, exR]) rfl ⟨_, rfl, ?_, by (with_reducible (repeat (first | exact Ext.refl _ | assumption | apply Ext.alloc | apply Ext.drew | exact ext_plus _ _ | (apply Ext.setCell; rotate_left; (simp <;> omega)) | (apply Ext.trans; rotate_left; exact ext_plus _ _) | (apply Ext.trans; rotate_left; assumption))))⟩
  exact (exR_row (Blk.new' (by simp) _ _)).sls 2
end Go.Proofs.Ythffoglpekpmdaa
