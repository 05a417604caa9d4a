/- The law CellSharp. -/
import Derived.Test.YtkjoojmlcjmlgaaL6a
import Derived.Test.YtkjoojmlcjmlgaaL6e
namespace Go.Proofs.Ytkjoojmlcjmlgaa
set_option linter.unusedVariables false
set_option linter.unusedSimpArgs false
open Go.RowKit
attribute [local go_sem] Oper.semAt_some
theorem off_zero6 {c : C.Sys} (O : C.Ok c) : C.offB c 0 = true := by
  have h := (pow_bd (n := c.loads.length) (by have := O.n5; omega)).1
  unfold C.offB C.within C.sets
  simp only [Bool.and_eq_true, decide_eq_true_eq]
  omega
theorem seen_at6 {c : C.Sys} {rs : List (List C.Day)} {d : Nat} (h : d < (C.seen c rs).length) : (C.seen c rs)[d] = C.seenAt c rs d := by
  simp only [C.seen, List.getElem_map, List.getElem_range]
theorem seen_len6 (c : C.Sys) (rs : List (List C.Day)) : (C.seen c rs).length = c.days.toNat := by unfold C.seen; simp
set_option maxRecDepth 100000 in
set_option maxHeartbeats 16000000 in
theorem cellSharp_law (c : C.Sys) (vl : Value) (p : Int) (hwfp : (Lit.int .i64 p).wf = true) (b : Int) (hwfb : (Lit.int .i64 b).wf = true) (sky : ByteArray) (dayI : Int) (hwfdayI : (Lit.int .i64 dayI).wf = true) (w : World) (hP : Loads w vl c.loads) :
    Calls Try.prog 6 #[.agg (sysV c vl), .int .i64 p, .int .i64 b, .string sky, .int .i64 dayI] w fun e w' => e = .returned (.bool true) ∧ Ext w w' := by
  have hP' := hP
  obtain ⟨a1, c1, rfl, hPx⟩ := hP'
  have HPX := Lib.hid hPx
  clear hPx
  obtain ⟨w1, hw1⟩ : ∃ w1, w.alloc (.cells (sysV c (.slice a1 c.loads.length c1)) 24) = w1 := ⟨_, rfl⟩
  have hE1 : Ext w w1 := by rw [← hw1]; (with_reducible (repeat (first | exact Ext.refl _ | assumption | apply Ext.alloc | apply Ext.drew | exact ext_plus _ _ | (apply Ext.setCell; rotate_left; (simp <;> omega)) | (apply Ext.trans; rotate_left; exact ext_plus _ _) | (apply Ext.trans; rotate_left; assumption))))
  have hb0 : Blk w1 w.heap.size (sysV c (.slice a1 c.loads.length c1)) 24 := by rw [← hw1]; exact Blk.new' rfl _ _
  have hbx := fun y (hy : Ext w1 y) => (⟨(hb0.ext hy).cell, (hb0.ext hy).lt⟩ : (∀ o, y.cell? ⟨w.heap.size, o, none⟩ = _) ∧ w.heap.size < y.heap.size)
  have HBX := Lib.hid hbx
  have HW1 := Lib.hid hw1
  clear hw1 hb0 hbx
  have HBB := Lib.hid (fun y (hy : Ext w1 y) => (show Blk y w.heap.size (sysV c (.slice a1 c.loads.length c1)) 24 from Blk.ext (by rw [← HW1.out]; exact Blk.new' rfl _ _) hy))
  have hsh := fun w' (hx : Ext w w') => short_all c _ w' (hP.ext hx)
  obtain ⟨B, hB⟩ : ∃ B, decide (c.loads.length ≤ 10) = B := ⟨_, rfl⟩
  simp only [hB] at hsh
  have HSH := Lib.hid hsh
  clear hsh
  cases B with
  | false =>
    clear hB
    go_enter Try.func6, Try.ntmps6
    go_upto_region 1 with (fail)
    rw [HW1.out]
    obtain ⟨k0, l0⟩ := HBX.out w1 (Ext.refl _)
    go_wp2_with (first | (go_at_call 15; refine (HSH.out _ (by (with_reducible (repeat (first | exact Ext.refl _ | assumption | apply Ext.alloc | apply Ext.drew | exact ext_plus _ _ | (apply Ext.setCell; rotate_left; (simp <;> omega)) | (apply Ext.trans; rotate_left; exact ext_plus _ _) | (apply Ext.trans; rotate_left; assumption)))))).mono ?_; rintro e w2 ⟨rfl, hb2⟩; (try clear k0 l0); obtain ⟨k0, l0⟩ := HBX.out w2 (by (with_reducible (repeat (first | exact Ext.refl _ | assumption | apply Ext.alloc | apply Ext.drew | exact ext_plus _ _ | (apply Ext.setCell; rotate_left; (simp <;> omega)) | (apply Ext.trans; rotate_left; exact ext_plus _ _) | (apply Ext.trans; rotate_left; assumption)))))) | (go_at_call 16; refine (known_any _).mono ?_; rintro e wk ⟨rfl, hbk⟩))
    all_goals
      go_ret
      exact ⟨rfl, by (with_reducible (repeat (first | exact Ext.refl _ | assumption | apply Ext.alloc | apply Ext.drew | exact ext_plus _ _ | (apply Ext.setCell; rotate_left; (simp <;> omega)) | (apply Ext.trans; rotate_left; exact ext_plus _ _) | (apply Ext.trans; rotate_left; assumption))))⟩
  | true =>
  have hn : c.loads.length ≤ 10 := by simpa using hB
  clear hB
  by_cases hsz : sky.size ≤ 14
  case neg =>
    have hszi : (14 : Int) < (sky.size : Int) := by omega
    clear hsz
    go_enter Try.func6, Try.ntmps6
    go_upto_region 1 with (fail)
    rw [HW1.out]
    obtain ⟨k0, l0⟩ := HBX.out w1 (Ext.refl _)
    go_wp2_with (first | (go_at_call 15; refine (HSH.out _ (by (with_reducible (repeat (first | exact Ext.refl _ | assumption | apply Ext.alloc | apply Ext.drew | exact ext_plus _ _ | (apply Ext.setCell; rotate_left; (simp <;> omega)) | (apply Ext.trans; rotate_left; exact ext_plus _ _) | (apply Ext.trans; rotate_left; assumption)))))).mono ?_; rintro e w2 ⟨rfl, hb2⟩; (try clear k0 l0); obtain ⟨k0, l0⟩ := HBX.out w2 (by (with_reducible (repeat (first | exact Ext.refl _ | assumption | apply Ext.alloc | apply Ext.drew | exact ext_plus _ _ | (apply Ext.setCell; rotate_left; (simp <;> omega)) | (apply Ext.trans; rotate_left; exact ext_plus _ _) | (apply Ext.trans; rotate_left; assumption)))))) | (go_at_call 16; refine (known_any _).mono ?_; rintro e wk ⟨rfl, hbk⟩))
    all_goals
      go_ret
      exact ⟨rfl, by (with_reducible (repeat (first | exact Ext.refl _ | assumption | apply Ext.alloc | apply Ext.drew | exact ext_plus _ _ | (apply Ext.setCell; rotate_left; (simp <;> omega)) | (apply Ext.trans; rotate_left; exact ext_plus _ _) | (apply Ext.trans; rotate_left; assumption))))⟩
  case pos =>
  have hszi : ¬ (14 : Int) < (sky.size : Int) := by omega
  have hask := fun w' (hx : Ext w w') => asked_any c p b _ w' (hP.ext hx) (by omega)
  have hsk := fun w' (_ : Ext w w') => dsky_any c sky (.slice a1 c.loads.length c1) ⟨_, _, _, rfl⟩ w' (by omega)
  cases hA : (C.sysB c && C.partsB p b) with
  | false =>
    simp only [hA] at hask
    have HA := Lib.hid hask
    clear hask hsk hA
    go_enter Try.func6, Try.ntmps6
    go_upto_region 1 with (fail)
    rw [HW1.out]
    obtain ⟨k0, l0⟩ := HBX.out w1 (Ext.refl _)
    go_wp2_with (first | (go_at_call 15; refine (HSH.out _ (by (with_reducible (repeat (first | exact Ext.refl _ | assumption | apply Ext.alloc | apply Ext.drew | exact ext_plus _ _ | (apply Ext.setCell; rotate_left; (simp <;> omega)) | (apply Ext.trans; rotate_left; exact ext_plus _ _) | (apply Ext.trans; rotate_left; assumption)))))).mono ?_; rintro e w2 ⟨rfl, hb2⟩; (try clear k0 l0); obtain ⟨k0, l0⟩ := HBX.out w2 (by (with_reducible (repeat (first | exact Ext.refl _ | assumption | apply Ext.alloc | apply Ext.drew | exact ext_plus _ _ | (apply Ext.setCell; rotate_left; (simp <;> omega)) | (apply Ext.trans; rotate_left; exact ext_plus _ _) | (apply Ext.trans; rotate_left; assumption)))))) | (go_at_call 18; refine (HA.out _ (by (with_reducible (repeat (first | exact Ext.refl _ | assumption | apply Ext.alloc | apply Ext.drew | exact ext_plus _ _ | (apply Ext.setCell; rotate_left; (simp <;> omega)) | (apply Ext.trans; rotate_left; exact ext_plus _ _) | (apply Ext.trans; rotate_left; assumption)))))).mono ?_; rintro e w4 ⟨rfl, hb4⟩; (try clear k0 l0); obtain ⟨k0, l0⟩ := HBX.out w4 (by (with_reducible (repeat (first | exact Ext.refl _ | assumption | apply Ext.alloc | apply Ext.drew | exact ext_plus _ _ | (apply Ext.setCell; rotate_left; (simp <;> omega)) | (apply Ext.trans; rotate_left; exact ext_plus _ _) | (apply Ext.trans; rotate_left; assumption)))))) | (go_at_call 16; refine (known_any _).mono ?_; rintro e wk ⟨rfl, hbk⟩))
    all_goals
      go_ret
      exact ⟨rfl, by (with_reducible (repeat (first | exact Ext.refl _ | assumption | apply Ext.alloc | apply Ext.drew | exact ext_plus _ _ | (apply Ext.setCell; rotate_left; (simp <;> omega)) | (apply Ext.trans; rotate_left; exact ext_plus _ _) | (apply Ext.trans; rotate_left; assumption))))⟩
  | true =>
  have hg : givenB c p b 0 = true := by have h := hA; rw [Bool.and_eq_true] at h; unfold givenB; rw [h.1, h.2, off_zero6 (C.ok_of h.1)]; rfl
  simp only [hA] at hask
  have HA := Lib.hid hask
  rw [Bool.and_eq_true] at hA
  have O := C.ok_of hA.1
  obtain ⟨hp0, hp1, h2, h3⟩ := C.parts_of hA.2
  by_cases hdy : 7 < c.days
  case pos =>
    clear hask hsk hA hg O
    go_enter Try.func6, Try.ntmps6
    go_upto_region 1 with (fail)
    rw [HW1.out]
    obtain ⟨k0, l0⟩ := HBX.out w1 (Ext.refl _)
    go_wp2_with (first | (go_at_call 15; refine (HSH.out _ (by (with_reducible (repeat (first | exact Ext.refl _ | assumption | apply Ext.alloc | apply Ext.drew | exact ext_plus _ _ | (apply Ext.setCell; rotate_left; (simp <;> omega)) | (apply Ext.trans; rotate_left; exact ext_plus _ _) | (apply Ext.trans; rotate_left; assumption)))))).mono ?_; rintro e w2 ⟨rfl, hb2⟩; (try clear k0 l0); obtain ⟨k0, l0⟩ := HBX.out w2 (by (with_reducible (repeat (first | exact Ext.refl _ | assumption | apply Ext.alloc | apply Ext.drew | exact ext_plus _ _ | (apply Ext.setCell; rotate_left; (simp <;> omega)) | (apply Ext.trans; rotate_left; exact ext_plus _ _) | (apply Ext.trans; rotate_left; assumption)))))) | (go_at_call 18; refine (HA.out _ (by (with_reducible (repeat (first | exact Ext.refl _ | assumption | apply Ext.alloc | apply Ext.drew | exact ext_plus _ _ | (apply Ext.setCell; rotate_left; (simp <;> omega)) | (apply Ext.trans; rotate_left; exact ext_plus _ _) | (apply Ext.trans; rotate_left; assumption)))))).mono ?_; rintro e w4 ⟨rfl, hb4⟩; (try clear k0 l0); obtain ⟨k0, l0⟩ := HBX.out w4 (by (with_reducible (repeat (first | exact Ext.refl _ | assumption | apply Ext.alloc | apply Ext.drew | exact ext_plus _ _ | (apply Ext.setCell; rotate_left; (simp <;> omega)) | (apply Ext.trans; rotate_left; exact ext_plus _ _) | (apply Ext.trans; rotate_left; assumption)))))) | (go_at_call 16; refine (known_any _).mono ?_; rintro e wk ⟨rfl, hbk⟩))
    all_goals
      go_ret
      exact ⟨rfl, by (with_reducible (repeat (first | exact Ext.refl _ | assumption | apply Ext.alloc | apply Ext.drew | exact ext_plus _ _ | (apply Ext.setCell; rotate_left; (simp <;> omega)) | (apply Ext.trans; rotate_left; exact ext_plus _ _) | (apply Ext.trans; rotate_left; assumption))))⟩
  case neg =>
  cases hSk : C.skyB c sky.data.toList with
  | false =>
    simp only [hSk] at hsk
    have HSK := Lib.hid hsk
    clear hask hsk hA hg O hSk
    go_enter Try.func6, Try.ntmps6
    go_upto_region 1 with (fail)
    rw [HW1.out]
    obtain ⟨k0, l0⟩ := HBX.out w1 (Ext.refl _)
    go_wp2_with (first | (go_at_call 15; refine (HSH.out _ (by (with_reducible (repeat (first | exact Ext.refl _ | assumption | apply Ext.alloc | apply Ext.drew | exact ext_plus _ _ | (apply Ext.setCell; rotate_left; (simp <;> omega)) | (apply Ext.trans; rotate_left; exact ext_plus _ _) | (apply Ext.trans; rotate_left; assumption)))))).mono ?_; rintro e w2 ⟨rfl, hb2⟩; (try clear k0 l0); obtain ⟨k0, l0⟩ := HBX.out w2 (by (with_reducible (repeat (first | exact Ext.refl _ | assumption | apply Ext.alloc | apply Ext.drew | exact ext_plus _ _ | (apply Ext.setCell; rotate_left; (simp <;> omega)) | (apply Ext.trans; rotate_left; exact ext_plus _ _) | (apply Ext.trans; rotate_left; assumption)))))) | (go_at_call 18; refine (HA.out _ (by (with_reducible (repeat (first | exact Ext.refl _ | assumption | apply Ext.alloc | apply Ext.drew | exact ext_plus _ _ | (apply Ext.setCell; rotate_left; (simp <;> omega)) | (apply Ext.trans; rotate_left; exact ext_plus _ _) | (apply Ext.trans; rotate_left; assumption)))))).mono ?_; rintro e w4 ⟨rfl, hb4⟩; (try clear k0 l0); obtain ⟨k0, l0⟩ := HBX.out w4 (by (with_reducible (repeat (first | exact Ext.refl _ | assumption | apply Ext.alloc | apply Ext.drew | exact ext_plus _ _ | (apply Ext.setCell; rotate_left; (simp <;> omega)) | (apply Ext.trans; rotate_left; exact ext_plus _ _) | (apply Ext.trans; rotate_left; assumption)))))) | (go_at_call 25; refine (HSK.out _ (by (with_reducible (repeat (first | exact Ext.refl _ | assumption | apply Ext.alloc | apply Ext.drew | exact ext_plus _ _ | (apply Ext.setCell; rotate_left; (simp <;> omega)) | (apply Ext.trans; rotate_left; exact ext_plus _ _) | (apply Ext.trans; rotate_left; assumption)))))).mono ?_; rintro e w5 ⟨rfl, hb5⟩; (try clear k0 l0); obtain ⟨k0, l0⟩ := HBX.out w5 (by (with_reducible (repeat (first | exact Ext.refl _ | assumption | apply Ext.alloc | apply Ext.drew | exact ext_plus _ _ | (apply Ext.setCell; rotate_left; (simp <;> omega)) | (apply Ext.trans; rotate_left; exact ext_plus _ _) | (apply Ext.trans; rotate_left; assumption)))))) | (go_at_call 16; refine (known_any _).mono ?_; rintro e wk ⟨rfl, hbk⟩))
    all_goals
      go_ret
      exact ⟨rfl, by (with_reducible (repeat (first | exact Ext.refl _ | assumption | apply Ext.alloc | apply Ext.drew | exact ext_plus _ _ | (apply Ext.setCell; rotate_left; (simp <;> omega)) | (apply Ext.trans; rotate_left; exact ext_plus _ _) | (apply Ext.trans; rotate_left; assumption))))⟩
  | true =>
  simp only [hSk] at hsk
  have HSK := Lib.hid hsk
  clear hask hsk
  by_cases hd0' : dayI < 0
  case pos =>
    clear hA hg O hSk
    go_enter Try.func6, Try.ntmps6
    go_upto_region 1 with (fail)
    rw [HW1.out]
    obtain ⟨k0, l0⟩ := HBX.out w1 (Ext.refl _)
    go_wp2_with (first | (go_at_call 15; refine (HSH.out _ (by (with_reducible (repeat (first | exact Ext.refl _ | assumption | apply Ext.alloc | apply Ext.drew | exact ext_plus _ _ | (apply Ext.setCell; rotate_left; (simp <;> omega)) | (apply Ext.trans; rotate_left; exact ext_plus _ _) | (apply Ext.trans; rotate_left; assumption)))))).mono ?_; rintro e w2 ⟨rfl, hb2⟩; (try clear k0 l0); obtain ⟨k0, l0⟩ := HBX.out w2 (by (with_reducible (repeat (first | exact Ext.refl _ | assumption | apply Ext.alloc | apply Ext.drew | exact ext_plus _ _ | (apply Ext.setCell; rotate_left; (simp <;> omega)) | (apply Ext.trans; rotate_left; exact ext_plus _ _) | (apply Ext.trans; rotate_left; assumption)))))) | (go_at_call 18; refine (HA.out _ (by (with_reducible (repeat (first | exact Ext.refl _ | assumption | apply Ext.alloc | apply Ext.drew | exact ext_plus _ _ | (apply Ext.setCell; rotate_left; (simp <;> omega)) | (apply Ext.trans; rotate_left; exact ext_plus _ _) | (apply Ext.trans; rotate_left; assumption)))))).mono ?_; rintro e w4 ⟨rfl, hb4⟩; (try clear k0 l0); obtain ⟨k0, l0⟩ := HBX.out w4 (by (with_reducible (repeat (first | exact Ext.refl _ | assumption | apply Ext.alloc | apply Ext.drew | exact ext_plus _ _ | (apply Ext.setCell; rotate_left; (simp <;> omega)) | (apply Ext.trans; rotate_left; exact ext_plus _ _) | (apply Ext.trans; rotate_left; assumption)))))) | (go_at_call 25; refine (HSK.out _ (by (with_reducible (repeat (first | exact Ext.refl _ | assumption | apply Ext.alloc | apply Ext.drew | exact ext_plus _ _ | (apply Ext.setCell; rotate_left; (simp <;> omega)) | (apply Ext.trans; rotate_left; exact ext_plus _ _) | (apply Ext.trans; rotate_left; assumption)))))).mono ?_; rintro e w5 ⟨rfl, hb5⟩; (try clear k0 l0); obtain ⟨k0, l0⟩ := HBX.out w5 (by (with_reducible (repeat (first | exact Ext.refl _ | assumption | apply Ext.alloc | apply Ext.drew | exact ext_plus _ _ | (apply Ext.setCell; rotate_left; (simp <;> omega)) | (apply Ext.trans; rotate_left; exact ext_plus _ _) | (apply Ext.trans; rotate_left; assumption)))))) | (go_at_call 16; refine (known_any _).mono ?_; rintro e wk ⟨rfl, hbk⟩))
    all_goals
      go_ret
      exact ⟨rfl, by (with_reducible (repeat (first | exact Ext.refl _ | assumption | apply Ext.alloc | apply Ext.drew | exact ext_plus _ _ | (apply Ext.setCell; rotate_left; (simp <;> omega)) | (apply Ext.trans; rotate_left; exact ext_plus _ _) | (apply Ext.trans; rotate_left; assumption))))⟩
  case neg =>
  by_cases hdd' : c.days ≤ dayI
  case pos =>
    clear hA hg O hSk
    go_enter Try.func6, Try.ntmps6
    go_upto_region 1 with (fail)
    rw [HW1.out]
    obtain ⟨k0, l0⟩ := HBX.out w1 (Ext.refl _)
    go_wp2_with (first | (go_at_call 15; refine (HSH.out _ (by (with_reducible (repeat (first | exact Ext.refl _ | assumption | apply Ext.alloc | apply Ext.drew | exact ext_plus _ _ | (apply Ext.setCell; rotate_left; (simp <;> omega)) | (apply Ext.trans; rotate_left; exact ext_plus _ _) | (apply Ext.trans; rotate_left; assumption)))))).mono ?_; rintro e w2 ⟨rfl, hb2⟩; (try clear k0 l0); obtain ⟨k0, l0⟩ := HBX.out w2 (by (with_reducible (repeat (first | exact Ext.refl _ | assumption | apply Ext.alloc | apply Ext.drew | exact ext_plus _ _ | (apply Ext.setCell; rotate_left; (simp <;> omega)) | (apply Ext.trans; rotate_left; exact ext_plus _ _) | (apply Ext.trans; rotate_left; assumption)))))) | (go_at_call 18; refine (HA.out _ (by (with_reducible (repeat (first | exact Ext.refl _ | assumption | apply Ext.alloc | apply Ext.drew | exact ext_plus _ _ | (apply Ext.setCell; rotate_left; (simp <;> omega)) | (apply Ext.trans; rotate_left; exact ext_plus _ _) | (apply Ext.trans; rotate_left; assumption)))))).mono ?_; rintro e w4 ⟨rfl, hb4⟩; (try clear k0 l0); obtain ⟨k0, l0⟩ := HBX.out w4 (by (with_reducible (repeat (first | exact Ext.refl _ | assumption | apply Ext.alloc | apply Ext.drew | exact ext_plus _ _ | (apply Ext.setCell; rotate_left; (simp <;> omega)) | (apply Ext.trans; rotate_left; exact ext_plus _ _) | (apply Ext.trans; rotate_left; assumption)))))) | (go_at_call 25; refine (HSK.out _ (by (with_reducible (repeat (first | exact Ext.refl _ | assumption | apply Ext.alloc | apply Ext.drew | exact ext_plus _ _ | (apply Ext.setCell; rotate_left; (simp <;> omega)) | (apply Ext.trans; rotate_left; exact ext_plus _ _) | (apply Ext.trans; rotate_left; assumption)))))).mono ?_; rintro e w5 ⟨rfl, hb5⟩; (try clear k0 l0); obtain ⟨k0, l0⟩ := HBX.out w5 (by (with_reducible (repeat (first | exact Ext.refl _ | assumption | apply Ext.alloc | apply Ext.drew | exact ext_plus _ _ | (apply Ext.setCell; rotate_left; (simp <;> omega)) | (apply Ext.trans; rotate_left; exact ext_plus _ _) | (apply Ext.trans; rotate_left; assumption)))))) | (go_at_call 16; refine (known_any _).mono ?_; rintro e wk ⟨rfl, hbk⟩))
    all_goals
      go_ret
      exact ⟨rfl, by (with_reducible (repeat (first | exact Ext.refl _ | assumption | apply Ext.alloc | apply Ext.drew | exact ext_plus _ _ | (apply Ext.setCell; rotate_left; (simp <;> omega)) | (apply Ext.trans; rotate_left; exact ext_plus _ _) | (apply Ext.trans; rotate_left; assumption))))⟩
  case neg =>
  obtain ⟨day, rfl⟩ := Int.eq_ofNat_of_zero_le (show 0 ≤ dayI by omega)
  have hdz : c.days = ((sky.data.toList.length : Nat) : Int) := by have h := hSk; unfold C.skyB at h; rw [Bool.and_eq_true, decide_eq_true_eq] at h; exact h.2.symm
  have hd0 : 0 ≤ c.days := by have := O.d1; omega
  have hk1 : knownB c p b sky.data.toList = true := by unfold knownB; rw [hg, hSk]; rfl
  have hkn := fun w' (hx : Ext w w') => known_good c p b sky _ w' (hP.ext hx) (by omega) (by omega) hk1
  have hwt := fun w' (_ : Ext w w') => dweathers_any c (.slice a1 c.loads.length c1) ⟨_, _, _, rfl⟩ O w'
  have hMM : (C.weathers c).length ≤ 1000000 := by have := weathers_le c O; omega
  have htl : ∀ k (h : k < (C.weathers c).length), (C.weathers c)[k].length = c.days.toNat := fun k h => (weather_of hd0 (List.getElem_mem h)).2.2
  have hN14 : c.days.toNat ≤ 14 := by have := O.d10; omega
  have hskz : sky.size = c.days.toNat := by
    have h : sky.data.toList.length = sky.size := by simp
    omega
  have hnn5 := O.n5
  have hdn : (day : Int) < c.days := by omega
  by_cases hR : C.runs c p b sky.data.toList = []
  case pos =>
    simp only [if_pos hR] at hkn
    have hno : ∀ k (h : k < (C.weathers c).length), C.agrees (C.weathers c)[k] sky.data.toList = false := fun k h => by
      cases ha : C.agrees (C.weathers c)[k] sky.data.toList with
      | false => rfl
      | true =>
        have hm : (C.weathers c)[k] ∈ C.agreeing c sky.data.toList := by unfold C.agreeing; rw [List.mem_filter]; exact ⟨List.getElem_mem h, ha⟩
        have hm2 : C.run c p b 0 (C.weathers c)[k] ∈ C.runs c p b sky.data.toList := by unfold C.runs; exact List.mem_map.2 ⟨_, hm, rfl⟩
        rw [hR] at hm2; cases hm2
    generalize hTT : C.weathers c = T at hno htl hwt hMM
    generalize hN : c.days.toNat = N at htl hskz hN14
    have HKN := Lib.hid hkn
    have HWT := Lib.hid hwt
    have HNO := Lib.hid hno
    have HTL := Lib.hid htl
    clear hkn hwt hno htl hTT hN hdz hd0 hk1 hR hSk hg O hp0 hp1 h2 h3 hn hP hA hdn
    go_enter Try.func6, Try.ntmps6
    go_upto_region 1 with (fail)
    rw [HW1.out]
    obtain ⟨k0, l0⟩ := HBX.out w1 (Ext.refl _)
    go_upto_region 4 with (first | (go_at_call 15; refine (HSH.out _ (by (with_reducible (repeat (first | exact Ext.refl _ | assumption | apply Ext.alloc | apply Ext.drew | exact ext_plus _ _ | (apply Ext.setCell; rotate_left; (simp <;> omega)) | (apply Ext.trans; rotate_left; exact ext_plus _ _) | (apply Ext.trans; rotate_left; assumption)))))).mono ?_; rintro e w2 ⟨rfl, hb2⟩; (try clear k0 l0); obtain ⟨k0, l0⟩ := HBX.out w2 (by (with_reducible (repeat (first | exact Ext.refl _ | assumption | apply Ext.alloc | apply Ext.drew | exact ext_plus _ _ | (apply Ext.setCell; rotate_left; (simp <;> omega)) | (apply Ext.trans; rotate_left; exact ext_plus _ _) | (apply Ext.trans; rotate_left; assumption)))))) | (go_at_call 18; refine (HA.out _ (by (with_reducible (repeat (first | exact Ext.refl _ | assumption | apply Ext.alloc | apply Ext.drew | exact ext_plus _ _ | (apply Ext.setCell; rotate_left; (simp <;> omega)) | (apply Ext.trans; rotate_left; exact ext_plus _ _) | (apply Ext.trans; rotate_left; assumption)))))).mono ?_; rintro e w4 ⟨rfl, hb4⟩; (try clear k0 l0); obtain ⟨k0, l0⟩ := HBX.out w4 (by (with_reducible (repeat (first | exact Ext.refl _ | assumption | apply Ext.alloc | apply Ext.drew | exact ext_plus _ _ | (apply Ext.setCell; rotate_left; (simp <;> omega)) | (apply Ext.trans; rotate_left; exact ext_plus _ _) | (apply Ext.trans; rotate_left; assumption)))))) | (go_at_call 25; refine (HSK.out _ (by (with_reducible (repeat (first | exact Ext.refl _ | assumption | apply Ext.alloc | apply Ext.drew | exact ext_plus _ _ | (apply Ext.setCell; rotate_left; (simp <;> omega)) | (apply Ext.trans; rotate_left; exact ext_plus _ _) | (apply Ext.trans; rotate_left; assumption)))))).mono ?_; rintro e w5 ⟨rfl, hb5⟩; (try clear k0 l0); obtain ⟨k0, l0⟩ := HBX.out w5 (by (with_reducible (repeat (first | exact Ext.refl _ | assumption | apply Ext.alloc | apply Ext.drew | exact ext_plus _ _ | (apply Ext.setCell; rotate_left; (simp <;> omega)) | (apply Ext.trans; rotate_left; exact ext_plus _ _) | (apply Ext.trans; rotate_left; assumption)))))) | (go_at_call 28; refine (HKN.out _ (by (with_reducible (repeat (first | exact Ext.refl _ | assumption | apply Ext.alloc | apply Ext.drew | exact ext_plus _ _ | (apply Ext.setCell; rotate_left; (simp <;> omega)) | (apply Ext.trans; rotate_left; exact ext_plus _ _) | (apply Ext.trans; rotate_left; assumption)))))).mono ?_; rintro e wa ⟨vk, rfl, hvk, hbwa⟩; obtain ⟨aK, cK, rfl, _⟩ := id hvk; have Hvk := Lib.hid hvk; clear hvk; (try clear k0 l0); obtain ⟨k0, l0⟩ := HBX.out wa (by (with_reducible (repeat (first | exact Ext.refl _ | assumption | apply Ext.alloc | apply Ext.drew | exact ext_plus _ _ | (apply Ext.setCell; rotate_left; (simp <;> omega)) | (apply Ext.trans; rotate_left; exact ext_plus _ _) | (apply Ext.trans; rotate_left; assumption)))))))
    go_upto_region 6 with (first | (go_at_call 29; refine (HWT.out _ (by (with_reducible (repeat (first | exact Ext.refl _ | assumption | apply Ext.alloc | apply Ext.drew | exact ext_plus _ _ | (apply Ext.setCell; rotate_left; (simp <;> omega)) | (apply Ext.trans; rotate_left; exact ext_plus _ _) | (apply Ext.trans; rotate_left; assumption)))))).mono ?_; rintro e wb ⟨vt, rfl, hvt, hbwb⟩; obtain ⟨aT, cT, rfl, _⟩ := id hvt; have Hvt := Lib.hid hvt; clear hvt; (try clear k0 l0); obtain ⟨k0, l0⟩ := HBX.out wb (by (with_reducible (repeat (first | exact Ext.refl _ | assumption | apply Ext.alloc | apply Ext.drew | exact ext_plus _ _ | (apply Ext.setCell; rotate_left; (simp <;> omega)) | (apply Ext.trans; rotate_left; exact ext_plus _ _) | (apply Ext.trans; rotate_left; assumption)))))))
    have hE1b : Ext w1 wb := by (with_reducible (repeat (first | exact Ext.refl _ | assumption | apply Ext.alloc | apply Ext.drew | exact ext_plus _ _ | (apply Ext.setCell; rotate_left; (simp <;> omega)) | (apply Ext.trans; rotate_left; exact ext_plus _ _) | (apply Ext.trans; rotate_left; assumption))))
    have hEb := hE1.trans hE1b
    have hEab : Ext wa wb := by (with_reducible (repeat (first | exact Ext.refl _ | assumption | apply Ext.alloc | apply Ext.drew | exact ext_plus _ _ | (apply Ext.setCell; rotate_left; (simp <;> omega)) | (apply Ext.trans; rotate_left; exact ext_plus _ _) | (apply Ext.trans; rotate_left; assumption))))
    go_cut [17, 18] from 73 to 80 (fun s17 s18 wc => ∃ gy gn, s17 = .slice (some ⟨gy, 0, none⟩) c.loads.length c.loads.length ∧ s18 = .slice (some ⟨gn, 0, none⟩) c.loads.length c.loads.length ∧ Bools c.loads.length wc gy (fun _ => false) ∧ Bools c.loads.length wc gn (fun _ => false) ∧ gy ≠ gn ∧ wb.heap.size ≤ gy ∧ wb.heap.size ≤ gn ∧ Ext wb wc)
    case first =>
      have hbx6 : Blk wb w.heap.size (sysV c (.slice a1 c.loads.length c1)) 24 := HBB.out wb hE1b
      obtain ⟨cs, hmk, hcs⟩ := make_bools c.loads.length (by omega)
      refine wp_region_late 9 (fun cc y => cc = false → (∀ o, y.cell? ⟨w.heap.size, o, none⟩ = (sysV c (.slice a1 c.loads.length c1) : Array Value)[o]?) ∧ w.heap.size < y.heap.size) (by kernel_rfl) (fun hL => ?_)
      refine late_early (i := 0) (v := ?_) rfl (by kernel_rfl) (by kernel_rfl) (by kernel_rfl) (by decide) (by kernel_rfl) (fun _ _ _ h => h) hL (Or.inl ⟨by rfl, ?_⟩) (fun _ => ⟨k0, l0⟩) (fun hL' => ?_)
      rotate_left
      · intro y hy; have hz := hy rfl; clear hy; obtain ⟨g1, g2⟩ := hz; go_simp; (try with_reducible rfl)
      clear hL; rename Shutb _ _ => hL
      (try simp only [Act.put, List.getElem_toArray, List.getElem_cons_zero, List.getElem_cons_succ, List.setIfInBounds_toArray, List.set_cons_zero, List.set_cons_succ])
      refine late_early (i := 1) (v := ?_) rfl (by kernel_rfl) (by kernel_rfl) (by kernel_rfl) (by decide) (by kernel_rfl) (fun _ _ _ h => h) hL (Or.inl ⟨by rfl, ?_⟩) (fun _ => ⟨k0, l0⟩) (fun hL' => ?_)
      rotate_left
      · intro y hy; have hz := hy rfl; clear hy; obtain ⟨g1, g2⟩ := hz; go_simp; (try with_reducible rfl)
      clear hL; rename Shutb _ _ => hL
      (try simp only [Act.put, List.getElem_toArray, List.getElem_cons_zero, List.getElem_cons_succ, List.setIfInBounds_toArray, List.set_cons_zero, List.set_cons_succ])
      refine late_early (i := 2) (v := ?_) rfl (by kernel_rfl) (by kernel_rfl) (by kernel_rfl) (by decide) (by kernel_rfl) (fun _ _ _ h => h) hL (Or.inl ⟨by rfl, ?_⟩) (fun _ => ⟨k0, l0⟩) (fun hL' => ?_)
      rotate_left
      · intro y hy; have hz := hy rfl; clear hy; obtain ⟨g1, g2⟩ := hz; go_simp; (try with_reducible rfl)
      clear hL; rename Shutb _ _ => hL
      (try simp only [Act.put, List.getElem_toArray, List.getElem_cons_zero, List.getElem_cons_succ, List.setIfInBounds_toArray, List.set_cons_zero, List.set_cons_succ])
      refine late_early (i := 4) (v := ?_) rfl (by kernel_rfl) (by kernel_rfl) (by kernel_rfl) (by decide) (by kernel_rfl) (fun _ _ _ h => h) hL (Or.inl ⟨by rfl, ?_⟩) (fun _ => ⟨k0, l0⟩) (fun hL' => ?_)
      rotate_left
      · intro y hy; have hz := hy rfl; clear hy; obtain ⟨g1, g2⟩ := hz; go_simp; (try with_reducible rfl)
      clear hL; rename Shutb _ _ => hL
      (try simp only [Act.put, List.getElem_toArray, List.getElem_cons_zero, List.getElem_cons_succ, List.setIfInBounds_toArray, List.set_cons_zero, List.set_cons_succ])
      refine late_early (i := 5) (v := ?_) rfl (by kernel_rfl) (by kernel_rfl) (by kernel_rfl) (by decide) (by kernel_rfl) (fun _ _ _ h => h) hL (Or.inl ⟨by rfl, ?_⟩) (fun _ => ⟨k0, l0⟩) (fun hL' => ?_)
      rotate_left
      · intro y hy; have hz := hy rfl; clear hy; obtain ⟨g1, g2⟩ := hz; go_simp; (try with_reducible rfl)
      clear hL; rename Shutb _ _ => hL
      (try simp only [Act.put, List.getElem_toArray, List.getElem_cons_zero, List.getElem_cons_succ, List.setIfInBounds_toArray, List.set_cons_zero, List.set_cons_succ])
      refine late_early (i := 6) (v := ?_) rfl (by kernel_rfl) (by kernel_rfl) (by kernel_rfl) (by decide) (by kernel_rfl) (fun _ _ _ h => h) hL (Or.inl ⟨by rfl, ?_⟩) (fun _ => ⟨k0, l0⟩) (fun hL' => ?_)
      rotate_left
      · intro y hy; have hz := hy rfl; clear hy; obtain ⟨g1, g2⟩ := hz; go_simp; (try with_reducible rfl)
      clear hL; rename Shutb _ _ => hL
      (try simp only [Act.put, List.getElem_toArray, List.getElem_cons_zero, List.getElem_cons_succ, List.setIfInBounds_toArray, List.set_cons_zero, List.set_cons_succ])
      refine late_two (i := 3) (j := 7) (by kernel_rfl) hL (fun hL' => ?_) (fun hL' => ?_)
      · refine wpOp_step rfl (fun K hK0 => ?_)
        have hK : Shut _ := hK0
        clear hK0
        go_simp
        refine hK.out _ _ ⟨(fun _ => ⟨Blk.cell (e := 24) (by with_reducible repeat (first | exact hbx6 | apply Blk.drew | apply Blk.alloc)), Blk.lt (e := 24) (by with_reducible repeat (first | exact hbx6 | apply Blk.drew | apply Blk.alloc))⟩), ?_⟩
        clear hK K; clear hL; rename Shutb _ _ => hL
        (try simp only [Act.put, List.getElem_toArray, List.getElem_cons_zero, List.getElem_cons_succ, List.setIfInBounds_toArray, List.set_cons_zero, List.set_cons_succ])
        refine late_two (i := 7) (j := 8) (by kernel_rfl) hL (fun hL' => ?_) (fun hL' => ?_)
        · refine wpOp_step rfl (fun K hK0 => ?_)
          have hK : Shut _ := hK0
          clear hK0
          go_simp
          refine hK.out _ _ ⟨(fun _ => ⟨Blk.cell (e := 24) (by with_reducible repeat (first | exact hbx6 | apply Blk.drew | apply Blk.alloc)), Blk.lt (e := 24) (by with_reducible repeat (first | exact hbx6 | apply Blk.drew | apply Blk.alloc))⟩), ?_⟩
          clear hK K; clear hL; rename Shutb _ _ => hL
          (try simp only [Act.put, List.getElem_toArray, List.getElem_cons_zero, List.getElem_cons_succ, List.setIfInBounds_toArray, List.set_cons_zero, List.set_cons_succ])
          refine late_one (i := 8) (by kernel_rfl) hL (fun hL' => ?_)
          refine wpOp_step rfl (fun K hK0 => ?_)
          have hK : Shut _ := hK0
          clear hK0
          go_simp
          refine hK.out _ _ ⟨(fun _ => ⟨Blk.cell (e := 24) (by with_reducible repeat (first | exact hbx6 | apply Blk.drew | apply Blk.alloc)), Blk.lt (e := 24) (by with_reducible repeat (first | exact hbx6 | apply Blk.drew | apply Blk.alloc))⟩), ?_⟩
          clear hK K; clear hL; rename Shutb _ _ => hL
          (try simp only [Act.put, List.getElem_toArray, List.getElem_cons_zero, List.getElem_cons_succ, List.setIfInBounds_toArray, List.set_cons_zero, List.set_cons_succ])
          refine late_one (i := 9) (by kernel_rfl) hL (fun hL' => ?_)
          refine wpOp_step rfl (fun K hK0 => ?_)
          have hK : Shut _ := hK0
          clear hK0
          go_simp
          refine hK.out _ _ ⟨fun e => absurd (e : true = false) (by decide), ?_⟩
          clear hK K; clear hL; rename Shutb _ _ => hL
          (try simp only [Act.put, List.getElem_toArray, List.getElem_cons_zero, List.getElem_cons_succ, List.setIfInBounds_toArray, List.set_cons_zero, List.set_cons_succ])
          refine late_done (by kernel_rfl) ?_
          (try dsimp only [Exit.then])
          go_wp2
          go_meet
          exact ⟨wb.heap.size, (wb.heap.size + 1), rfl, rfl, ⟨_, (by with_reducible exact (Blk.alloc (Blk.new' rfl _ _) _).drew), hcs⟩, ⟨_, (by with_reducible exact (Blk.new' (by simp) _ _).drew), hcs⟩, by omega, by omega, by omega, (by with_reducible repeat (first | exact Ext.refl _ | apply Ext.drew | apply Ext.alloc))⟩
        · refine wpOp_step rfl (fun K hK0 => ?_)
          have hK : Shut _ := hK0
          clear hK0
          go_simp
          refine hK.out _ _ ⟨(fun _ => ⟨Blk.cell (e := 24) (by with_reducible repeat (first | exact hbx6 | apply Blk.drew | apply Blk.alloc)), Blk.lt (e := 24) (by with_reducible repeat (first | exact hbx6 | apply Blk.drew | apply Blk.alloc))⟩), ?_⟩
          clear hK K; clear hL; rename Shutb _ _ => hL
          (try simp only [Act.put, List.getElem_toArray, List.getElem_cons_zero, List.getElem_cons_succ, List.setIfInBounds_toArray, List.set_cons_zero, List.set_cons_succ])
          refine late_one (i := 7) (by kernel_rfl) hL (fun hL' => ?_)
          refine wpOp_step rfl (fun K hK0 => ?_)
          have hK : Shut _ := hK0
          clear hK0
          go_simp
          refine hK.out _ _ ⟨(fun _ => ⟨Blk.cell (e := 24) (by with_reducible repeat (first | exact hbx6 | apply Blk.drew | apply Blk.alloc)), Blk.lt (e := 24) (by with_reducible repeat (first | exact hbx6 | apply Blk.drew | apply Blk.alloc))⟩), ?_⟩
          clear hK K; clear hL; rename Shutb _ _ => hL
          (try simp only [Act.put, List.getElem_toArray, List.getElem_cons_zero, List.getElem_cons_succ, List.setIfInBounds_toArray, List.set_cons_zero, List.set_cons_succ])
          refine late_one (i := 9) (by kernel_rfl) hL (fun hL' => ?_)
          refine wpOp_step rfl (fun K hK0 => ?_)
          have hK : Shut _ := hK0
          clear hK0
          go_simp
          refine hK.out _ _ ⟨fun e => absurd (e : true = false) (by decide), ?_⟩
          clear hK K; clear hL; rename Shutb _ _ => hL
          (try simp only [Act.put, List.getElem_toArray, List.getElem_cons_zero, List.getElem_cons_succ, List.setIfInBounds_toArray, List.set_cons_zero, List.set_cons_succ])
          refine late_done (by kernel_rfl) ?_
          (try dsimp only [Exit.then])
          go_wp2
          go_meet
          exact ⟨wb.heap.size, (wb.heap.size + 1), rfl, rfl, ⟨_, (by with_reducible exact (Blk.alloc (Blk.new' rfl _ _) _).drew), hcs⟩, ⟨_, (by with_reducible exact (Blk.new' (by simp) _ _).drew), hcs⟩, by omega, by omega, by omega, (by with_reducible repeat (first | exact Ext.refl _ | apply Ext.drew | apply Ext.alloc))⟩
      · refine wpOp_step rfl (fun K hK0 => ?_)
        have hK : Shut _ := hK0
        clear hK0
        go_simp
        refine hK.out _ _ ⟨(fun _ => ⟨Blk.cell (e := 24) (by with_reducible repeat (first | exact hbx6 | apply Blk.drew | apply Blk.alloc)), Blk.lt (e := 24) (by with_reducible repeat (first | exact hbx6 | apply Blk.drew | apply Blk.alloc))⟩), ?_⟩
        clear hK K; clear hL; rename Shutb _ _ => hL
        (try simp only [Act.put, List.getElem_toArray, List.getElem_cons_zero, List.getElem_cons_succ, List.setIfInBounds_toArray, List.set_cons_zero, List.set_cons_succ])
        refine late_one (i := 3) (by kernel_rfl) hL (fun hL' => ?_)
        refine wpOp_step rfl (fun K hK0 => ?_)
        have hK : Shut _ := hK0
        clear hK0
        go_simp
        refine hK.out _ _ ⟨(fun _ => ⟨Blk.cell (e := 24) (by with_reducible repeat (first | exact hbx6 | apply Blk.drew | apply Blk.alloc)), Blk.lt (e := 24) (by with_reducible repeat (first | exact hbx6 | apply Blk.drew | apply Blk.alloc))⟩), ?_⟩
        clear hK K; clear hL; rename Shutb _ _ => hL
        (try simp only [Act.put, List.getElem_toArray, List.getElem_cons_zero, List.getElem_cons_succ, List.setIfInBounds_toArray, List.set_cons_zero, List.set_cons_succ])
        refine late_one (i := 8) (by kernel_rfl) hL (fun hL' => ?_)
        refine wpOp_step rfl (fun K hK0 => ?_)
        have hK : Shut _ := hK0
        clear hK0
        go_simp
        refine hK.out _ _ ⟨(fun _ => ⟨Blk.cell (e := 24) (by with_reducible repeat (first | exact hbx6 | apply Blk.drew | apply Blk.alloc)), Blk.lt (e := 24) (by with_reducible repeat (first | exact hbx6 | apply Blk.drew | apply Blk.alloc))⟩), ?_⟩
        clear hK K; clear hL; rename Shutb _ _ => hL
        (try simp only [Act.put, List.getElem_toArray, List.getElem_cons_zero, List.getElem_cons_succ, List.setIfInBounds_toArray, List.set_cons_zero, List.set_cons_succ])
        refine late_one (i := 9) (by kernel_rfl) hL (fun hL' => ?_)
        refine wpOp_step rfl (fun K hK0 => ?_)
        have hK : Shut _ := hK0
        clear hK0
        go_simp
        refine hK.out _ _ ⟨fun e => absurd (e : true = false) (by decide), ?_⟩
        clear hK K; clear hL; rename Shutb _ _ => hL
        (try simp only [Act.put, List.getElem_toArray, List.getElem_cons_zero, List.getElem_cons_succ, List.setIfInBounds_toArray, List.set_cons_zero, List.set_cons_succ])
        refine late_done (by kernel_rfl) ?_
        (try dsimp only [Exit.then])
        go_wp2
        go_meet
        exact ⟨(wb.heap.size + 1), wb.heap.size, rfl, rfl, ⟨_, (by with_reducible exact (Blk.new' (by simp) _ _).drew), hcs⟩, ⟨_, (by with_reducible exact (Blk.alloc (Blk.new' rfl _ _) _).drew), hcs⟩, by omega, by omega, by omega, (by with_reducible repeat (first | exact Ext.refl _ | apply Ext.drew | apply Ext.alloc))⟩
    case rest =>
      obtain ⟨gy, gn, rfl, rfl, hyb, hzb, hgne, hgy, hgn, hE5v⟩ := hcut
      rename World => wv
      rename Act → World → Prop => KK
      rename ∀ _ _, _ → KK _ _ => hKK
      exact hKK _ _ (shp_tail6e c p b sky T day N w w1 wb a1 aK aT c1 cK cT wv HNO.out HTL.out Hvt.out hMM hN14 hskz hE5v hEb hE1b HBX)
  case neg =>
    simp only [if_neg hR] at hkn
    obtain ⟨kl, kh, lk, hKs, hS⟩ := shp_of (p := p) (b := b) O hp0 hp1 h2 h3 hn hdn hR
    have hkl := seen_len6 c (C.runs c p b sky.data.toList)
    have hkd : ∀ h : day < (C.seen c (C.runs c p b sky.data.toList)).length, (C.seen c (C.runs c p b sky.data.toList))[day] = ⟨kl, kh, lk⟩ := fun h => by rw [seen_at6 h, hKs]
    have hse := fun w' (hx : Ext w w') => dsets_any c _ w' (hP.ext hx) hn
    obtain ⟨T, hTT⟩ : ∃ T, C.weathers c = T := ⟨_, rfl⟩
    simp only [hTT] at hwt
    rw [hTT] at hS hMM
    obtain ⟨F, hF⟩ : ∃ F, rsTo c p b sky.data.toList T = F := ⟨_, rfl⟩
    rw [hF] at hS
    obtain ⟨Q, hQ⟩ : ∃ Q, C.sets c = Q := ⟨_, rfl⟩
    rw [hQ] at hS
    simp only [hQ] at hse
    generalize hK : C.seen c (C.runs c p b sky.data.toList) = K at hkn hkd hkl
    obtain ⟨N, hN⟩ : ∃ N, c.days.toNat = N := ⟨_, rfl⟩
    rw [hN] at hskz hN14 hS hkl
    have hdz2 : c.days = (N : Int) := by omega
    have hl1 : ((K.length : Int) != c.days) = false := by rw [hkl, hdz2]; simp
    have hdk : day < K.length := by omega
    have HKN := Lib.hid hkn
    have HWT := Lib.hid hwt
    have HS := Lib.hid hS
    have HP := Lib.hid hP
    have HDK := Lib.hid hdk
    have HKD := Lib.hid hkd
    have HG := Lib.hid hg
    have HDZ := Lib.hid hdz2
    have HL1 := Lib.hid hl1
    have HSE := Lib.hid hse
    clear hkn hwt hS hdk hkd hg hdz2 hl1 hse hTT hF hQ hK hN hkl hKs htl hMM hdz hd0 hk1 hR hSk O hp0 hp1 h2 h3 hn hP hA hdn hN14
    go_enter Try.func6, Try.ntmps6
    go_upto_region 1 with (fail)
    rw [HW1.out]
    obtain ⟨k0, l0⟩ := HBX.out w1 (Ext.refl _)
    go_upto_region 4 with (first | (go_at_call 15; refine (HSH.out _ (by (with_reducible (repeat (first | exact Ext.refl _ | assumption | apply Ext.alloc | apply Ext.drew | exact ext_plus _ _ | (apply Ext.setCell; rotate_left; (simp <;> omega)) | (apply Ext.trans; rotate_left; exact ext_plus _ _) | (apply Ext.trans; rotate_left; assumption)))))).mono ?_; rintro e w2 ⟨rfl, hb2⟩; (try clear k0 l0); obtain ⟨k0, l0⟩ := HBX.out w2 (by (with_reducible (repeat (first | exact Ext.refl _ | assumption | apply Ext.alloc | apply Ext.drew | exact ext_plus _ _ | (apply Ext.setCell; rotate_left; (simp <;> omega)) | (apply Ext.trans; rotate_left; exact ext_plus _ _) | (apply Ext.trans; rotate_left; assumption)))))) | (go_at_call 18; refine (HA.out _ (by (with_reducible (repeat (first | exact Ext.refl _ | assumption | apply Ext.alloc | apply Ext.drew | exact ext_plus _ _ | (apply Ext.setCell; rotate_left; (simp <;> omega)) | (apply Ext.trans; rotate_left; exact ext_plus _ _) | (apply Ext.trans; rotate_left; assumption)))))).mono ?_; rintro e w4 ⟨rfl, hb4⟩; (try clear k0 l0); obtain ⟨k0, l0⟩ := HBX.out w4 (by (with_reducible (repeat (first | exact Ext.refl _ | assumption | apply Ext.alloc | apply Ext.drew | exact ext_plus _ _ | (apply Ext.setCell; rotate_left; (simp <;> omega)) | (apply Ext.trans; rotate_left; exact ext_plus _ _) | (apply Ext.trans; rotate_left; assumption)))))) | (go_at_call 25; refine (HSK.out _ (by (with_reducible (repeat (first | exact Ext.refl _ | assumption | apply Ext.alloc | apply Ext.drew | exact ext_plus _ _ | (apply Ext.setCell; rotate_left; (simp <;> omega)) | (apply Ext.trans; rotate_left; exact ext_plus _ _) | (apply Ext.trans; rotate_left; assumption)))))).mono ?_; rintro e w5 ⟨rfl, hb5⟩; (try clear k0 l0); obtain ⟨k0, l0⟩ := HBX.out w5 (by (with_reducible (repeat (first | exact Ext.refl _ | assumption | apply Ext.alloc | apply Ext.drew | exact ext_plus _ _ | (apply Ext.setCell; rotate_left; (simp <;> omega)) | (apply Ext.trans; rotate_left; exact ext_plus _ _) | (apply Ext.trans; rotate_left; assumption)))))) | (go_at_call 28; refine (HKN.out _ (by (with_reducible (repeat (first | exact Ext.refl _ | assumption | apply Ext.alloc | apply Ext.drew | exact ext_plus _ _ | (apply Ext.setCell; rotate_left; (simp <;> omega)) | (apply Ext.trans; rotate_left; exact ext_plus _ _) | (apply Ext.trans; rotate_left; assumption)))))).mono ?_; rintro e wa ⟨vk, rfl, hvk, hbwa⟩; obtain ⟨aK, cK, rfl, _⟩ := id hvk; have Hvk := Lib.hid hvk; clear hvk; (try clear k0 l0); obtain ⟨k0, l0⟩ := HBX.out wa (by (with_reducible (repeat (first | exact Ext.refl _ | assumption | apply Ext.alloc | apply Ext.drew | exact ext_plus _ _ | (apply Ext.setCell; rotate_left; (simp <;> omega)) | (apply Ext.trans; rotate_left; exact ext_plus _ _) | (apply Ext.trans; rotate_left; assumption)))))))
    go_upto_region 6 with (first | (go_at_call 29; refine (HWT.out _ (by (with_reducible (repeat (first | exact Ext.refl _ | assumption | apply Ext.alloc | apply Ext.drew | exact ext_plus _ _ | (apply Ext.setCell; rotate_left; (simp <;> omega)) | (apply Ext.trans; rotate_left; exact ext_plus _ _) | (apply Ext.trans; rotate_left; assumption)))))).mono ?_; rintro e wb ⟨vt, rfl, hvt, hbwb⟩; obtain ⟨aT, cT, rfl, _⟩ := id hvt; have Hvt := Lib.hid hvt; clear hvt; (try clear k0 l0); obtain ⟨k0, l0⟩ := HBX.out wb (by (with_reducible (repeat (first | exact Ext.refl _ | assumption | apply Ext.alloc | apply Ext.drew | exact ext_plus _ _ | (apply Ext.setCell; rotate_left; (simp <;> omega)) | (apply Ext.trans; rotate_left; exact ext_plus _ _) | (apply Ext.trans; rotate_left; assumption)))))))
    have hE1b : Ext w1 wb := by (with_reducible (repeat (first | exact Ext.refl _ | assumption | apply Ext.alloc | apply Ext.drew | exact ext_plus _ _ | (apply Ext.setCell; rotate_left; (simp <;> omega)) | (apply Ext.trans; rotate_left; exact ext_plus _ _) | (apply Ext.trans; rotate_left; assumption))))
    have hEb := hE1.trans hE1b
    have hEab : Ext wa wb := by (with_reducible (repeat (first | exact Ext.refl _ | assumption | apply Ext.alloc | apply Ext.drew | exact ext_plus _ _ | (apply Ext.setCell; rotate_left; (simp <;> omega)) | (apply Ext.trans; rotate_left; exact ext_plus _ _) | (apply Ext.trans; rotate_left; assumption))))
    go_cut [17, 18] from 73 to 80 (fun s17 s18 wc => ∃ gy gn, s17 = .slice (some ⟨gy, 0, none⟩) c.loads.length c.loads.length ∧ s18 = .slice (some ⟨gn, 0, none⟩) c.loads.length c.loads.length ∧ Bools c.loads.length wc gy (fun _ => false) ∧ Bools c.loads.length wc gn (fun _ => false) ∧ gy ≠ gn ∧ wb.heap.size ≤ gy ∧ wb.heap.size ≤ gn ∧ Ext wb wc)
    case first =>
      have hbx6 : Blk wb w.heap.size (sysV c (.slice a1 c.loads.length c1)) 24 := HBB.out wb hE1b
      obtain ⟨cs, hmk, hcs⟩ := make_bools c.loads.length (by omega)
      refine wp_region_late 9 (fun cc y => cc = false → (∀ o, y.cell? ⟨w.heap.size, o, none⟩ = (sysV c (.slice a1 c.loads.length c1) : Array Value)[o]?) ∧ w.heap.size < y.heap.size) (by kernel_rfl) (fun hL => ?_)
      refine late_early (i := 0) (v := ?_) rfl (by kernel_rfl) (by kernel_rfl) (by kernel_rfl) (by decide) (by kernel_rfl) (fun _ _ _ h => h) hL (Or.inl ⟨by rfl, ?_⟩) (fun _ => ⟨k0, l0⟩) (fun hL' => ?_)
      rotate_left
      · intro y hy; have hz := hy rfl; clear hy; obtain ⟨g1, g2⟩ := hz; go_simp; (try with_reducible rfl)
      clear hL; rename Shutb _ _ => hL
      (try simp only [Act.put, List.getElem_toArray, List.getElem_cons_zero, List.getElem_cons_succ, List.setIfInBounds_toArray, List.set_cons_zero, List.set_cons_succ])
      refine late_early (i := 1) (v := ?_) rfl (by kernel_rfl) (by kernel_rfl) (by kernel_rfl) (by decide) (by kernel_rfl) (fun _ _ _ h => h) hL (Or.inl ⟨by rfl, ?_⟩) (fun _ => ⟨k0, l0⟩) (fun hL' => ?_)
      rotate_left
      · intro y hy; have hz := hy rfl; clear hy; obtain ⟨g1, g2⟩ := hz; go_simp; (try with_reducible rfl)
      clear hL; rename Shutb _ _ => hL
      (try simp only [Act.put, List.getElem_toArray, List.getElem_cons_zero, List.getElem_cons_succ, List.setIfInBounds_toArray, List.set_cons_zero, List.set_cons_succ])
      refine late_early (i := 2) (v := ?_) rfl (by kernel_rfl) (by kernel_rfl) (by kernel_rfl) (by decide) (by kernel_rfl) (fun _ _ _ h => h) hL (Or.inl ⟨by rfl, ?_⟩) (fun _ => ⟨k0, l0⟩) (fun hL' => ?_)
      rotate_left
      · intro y hy; have hz := hy rfl; clear hy; obtain ⟨g1, g2⟩ := hz; go_simp; (try with_reducible rfl)
      clear hL; rename Shutb _ _ => hL
      (try simp only [Act.put, List.getElem_toArray, List.getElem_cons_zero, List.getElem_cons_succ, List.setIfInBounds_toArray, List.set_cons_zero, List.set_cons_succ])
      refine late_early (i := 4) (v := ?_) rfl (by kernel_rfl) (by kernel_rfl) (by kernel_rfl) (by decide) (by kernel_rfl) (fun _ _ _ h => h) hL (Or.inl ⟨by rfl, ?_⟩) (fun _ => ⟨k0, l0⟩) (fun hL' => ?_)
      rotate_left
      · intro y hy; have hz := hy rfl; clear hy; obtain ⟨g1, g2⟩ := hz; go_simp; (try with_reducible rfl)
      clear hL; rename Shutb _ _ => hL
      (try simp only [Act.put, List.getElem_toArray, List.getElem_cons_zero, List.getElem_cons_succ, List.setIfInBounds_toArray, List.set_cons_zero, List.set_cons_succ])
      refine late_early (i := 5) (v := ?_) rfl (by kernel_rfl) (by kernel_rfl) (by kernel_rfl) (by decide) (by kernel_rfl) (fun _ _ _ h => h) hL (Or.inl ⟨by rfl, ?_⟩) (fun _ => ⟨k0, l0⟩) (fun hL' => ?_)
      rotate_left
      · intro y hy; have hz := hy rfl; clear hy; obtain ⟨g1, g2⟩ := hz; go_simp; (try with_reducible rfl)
      clear hL; rename Shutb _ _ => hL
      (try simp only [Act.put, List.getElem_toArray, List.getElem_cons_zero, List.getElem_cons_succ, List.setIfInBounds_toArray, List.set_cons_zero, List.set_cons_succ])
      refine late_early (i := 6) (v := ?_) rfl (by kernel_rfl) (by kernel_rfl) (by kernel_rfl) (by decide) (by kernel_rfl) (fun _ _ _ h => h) hL (Or.inl ⟨by rfl, ?_⟩) (fun _ => ⟨k0, l0⟩) (fun hL' => ?_)
      rotate_left
      · intro y hy; have hz := hy rfl; clear hy; obtain ⟨g1, g2⟩ := hz; go_simp; (try with_reducible rfl)
      clear hL; rename Shutb _ _ => hL
      (try simp only [Act.put, List.getElem_toArray, List.getElem_cons_zero, List.getElem_cons_succ, List.setIfInBounds_toArray, List.set_cons_zero, List.set_cons_succ])
      refine late_two (i := 3) (j := 7) (by kernel_rfl) hL (fun hL' => ?_) (fun hL' => ?_)
      · refine wpOp_step rfl (fun K hK0 => ?_)
        have hK : Shut _ := hK0
        clear hK0
        go_simp
        refine hK.out _ _ ⟨(fun _ => ⟨Blk.cell (e := 24) (by with_reducible repeat (first | exact hbx6 | apply Blk.drew | apply Blk.alloc)), Blk.lt (e := 24) (by with_reducible repeat (first | exact hbx6 | apply Blk.drew | apply Blk.alloc))⟩), ?_⟩
        clear hK K; clear hL; rename Shutb _ _ => hL
        (try simp only [Act.put, List.getElem_toArray, List.getElem_cons_zero, List.getElem_cons_succ, List.setIfInBounds_toArray, List.set_cons_zero, List.set_cons_succ])
        refine late_two (i := 7) (j := 8) (by kernel_rfl) hL (fun hL' => ?_) (fun hL' => ?_)
        · refine wpOp_step rfl (fun K hK0 => ?_)
          have hK : Shut _ := hK0
          clear hK0
          go_simp
          refine hK.out _ _ ⟨(fun _ => ⟨Blk.cell (e := 24) (by with_reducible repeat (first | exact hbx6 | apply Blk.drew | apply Blk.alloc)), Blk.lt (e := 24) (by with_reducible repeat (first | exact hbx6 | apply Blk.drew | apply Blk.alloc))⟩), ?_⟩
          clear hK K; clear hL; rename Shutb _ _ => hL
          (try simp only [Act.put, List.getElem_toArray, List.getElem_cons_zero, List.getElem_cons_succ, List.setIfInBounds_toArray, List.set_cons_zero, List.set_cons_succ])
          refine late_one (i := 8) (by kernel_rfl) hL (fun hL' => ?_)
          refine wpOp_step rfl (fun K hK0 => ?_)
          have hK : Shut _ := hK0
          clear hK0
          go_simp
          refine hK.out _ _ ⟨(fun _ => ⟨Blk.cell (e := 24) (by with_reducible repeat (first | exact hbx6 | apply Blk.drew | apply Blk.alloc)), Blk.lt (e := 24) (by with_reducible repeat (first | exact hbx6 | apply Blk.drew | apply Blk.alloc))⟩), ?_⟩
          clear hK K; clear hL; rename Shutb _ _ => hL
          (try simp only [Act.put, List.getElem_toArray, List.getElem_cons_zero, List.getElem_cons_succ, List.setIfInBounds_toArray, List.set_cons_zero, List.set_cons_succ])
          refine late_one (i := 9) (by kernel_rfl) hL (fun hL' => ?_)
          refine wpOp_step rfl (fun K hK0 => ?_)
          have hK : Shut _ := hK0
          clear hK0
          go_simp
          refine hK.out _ _ ⟨fun e => absurd (e : true = false) (by decide), ?_⟩
          clear hK K; clear hL; rename Shutb _ _ => hL
          (try simp only [Act.put, List.getElem_toArray, List.getElem_cons_zero, List.getElem_cons_succ, List.setIfInBounds_toArray, List.set_cons_zero, List.set_cons_succ])
          refine late_done (by kernel_rfl) ?_
          (try dsimp only [Exit.then])
          go_wp2
          go_meet
          exact ⟨wb.heap.size, (wb.heap.size + 1), rfl, rfl, ⟨_, (by with_reducible exact (Blk.alloc (Blk.new' rfl _ _) _).drew), hcs⟩, ⟨_, (by with_reducible exact (Blk.new' (by simp) _ _).drew), hcs⟩, by omega, by omega, by omega, (by with_reducible repeat (first | exact Ext.refl _ | apply Ext.drew | apply Ext.alloc))⟩
        · refine wpOp_step rfl (fun K hK0 => ?_)
          have hK : Shut _ := hK0
          clear hK0
          go_simp
          refine hK.out _ _ ⟨(fun _ => ⟨Blk.cell (e := 24) (by with_reducible repeat (first | exact hbx6 | apply Blk.drew | apply Blk.alloc)), Blk.lt (e := 24) (by with_reducible repeat (first | exact hbx6 | apply Blk.drew | apply Blk.alloc))⟩), ?_⟩
          clear hK K; clear hL; rename Shutb _ _ => hL
          (try simp only [Act.put, List.getElem_toArray, List.getElem_cons_zero, List.getElem_cons_succ, List.setIfInBounds_toArray, List.set_cons_zero, List.set_cons_succ])
          refine late_one (i := 7) (by kernel_rfl) hL (fun hL' => ?_)
          refine wpOp_step rfl (fun K hK0 => ?_)
          have hK : Shut _ := hK0
          clear hK0
          go_simp
          refine hK.out _ _ ⟨(fun _ => ⟨Blk.cell (e := 24) (by with_reducible repeat (first | exact hbx6 | apply Blk.drew | apply Blk.alloc)), Blk.lt (e := 24) (by with_reducible repeat (first | exact hbx6 | apply Blk.drew | apply Blk.alloc))⟩), ?_⟩
          clear hK K; clear hL; rename Shutb _ _ => hL
          (try simp only [Act.put, List.getElem_toArray, List.getElem_cons_zero, List.getElem_cons_succ, List.setIfInBounds_toArray, List.set_cons_zero, List.set_cons_succ])
          refine late_one (i := 9) (by kernel_rfl) hL (fun hL' => ?_)
          refine wpOp_step rfl (fun K hK0 => ?_)
          have hK : Shut _ := hK0
          clear hK0
          go_simp
          refine hK.out _ _ ⟨fun e => absurd (e : true = false) (by decide), ?_⟩
          clear hK K; clear hL; rename Shutb _ _ => hL
          (try simp only [Act.put, List.getElem_toArray, List.getElem_cons_zero, List.getElem_cons_succ, List.setIfInBounds_toArray, List.set_cons_zero, List.set_cons_succ])
          refine late_done (by kernel_rfl) ?_
          (try dsimp only [Exit.then])
          go_wp2
          go_meet
          exact ⟨wb.heap.size, (wb.heap.size + 1), rfl, rfl, ⟨_, (by with_reducible exact (Blk.alloc (Blk.new' rfl _ _) _).drew), hcs⟩, ⟨_, (by with_reducible exact (Blk.new' (by simp) _ _).drew), hcs⟩, by omega, by omega, by omega, (by with_reducible repeat (first | exact Ext.refl _ | apply Ext.drew | apply Ext.alloc))⟩
      · refine wpOp_step rfl (fun K hK0 => ?_)
        have hK : Shut _ := hK0
        clear hK0
        go_simp
        refine hK.out _ _ ⟨(fun _ => ⟨Blk.cell (e := 24) (by with_reducible repeat (first | exact hbx6 | apply Blk.drew | apply Blk.alloc)), Blk.lt (e := 24) (by with_reducible repeat (first | exact hbx6 | apply Blk.drew | apply Blk.alloc))⟩), ?_⟩
        clear hK K; clear hL; rename Shutb _ _ => hL
        (try simp only [Act.put, List.getElem_toArray, List.getElem_cons_zero, List.getElem_cons_succ, List.setIfInBounds_toArray, List.set_cons_zero, List.set_cons_succ])
        refine late_one (i := 3) (by kernel_rfl) hL (fun hL' => ?_)
        refine wpOp_step rfl (fun K hK0 => ?_)
        have hK : Shut _ := hK0
        clear hK0
        go_simp
        refine hK.out _ _ ⟨(fun _ => ⟨Blk.cell (e := 24) (by with_reducible repeat (first | exact hbx6 | apply Blk.drew | apply Blk.alloc)), Blk.lt (e := 24) (by with_reducible repeat (first | exact hbx6 | apply Blk.drew | apply Blk.alloc))⟩), ?_⟩
        clear hK K; clear hL; rename Shutb _ _ => hL
        (try simp only [Act.put, List.getElem_toArray, List.getElem_cons_zero, List.getElem_cons_succ, List.setIfInBounds_toArray, List.set_cons_zero, List.set_cons_succ])
        refine late_one (i := 8) (by kernel_rfl) hL (fun hL' => ?_)
        refine wpOp_step rfl (fun K hK0 => ?_)
        have hK : Shut _ := hK0
        clear hK0
        go_simp
        refine hK.out _ _ ⟨(fun _ => ⟨Blk.cell (e := 24) (by with_reducible repeat (first | exact hbx6 | apply Blk.drew | apply Blk.alloc)), Blk.lt (e := 24) (by with_reducible repeat (first | exact hbx6 | apply Blk.drew | apply Blk.alloc))⟩), ?_⟩
        clear hK K; clear hL; rename Shutb _ _ => hL
        (try simp only [Act.put, List.getElem_toArray, List.getElem_cons_zero, List.getElem_cons_succ, List.setIfInBounds_toArray, List.set_cons_zero, List.set_cons_succ])
        refine late_one (i := 9) (by kernel_rfl) hL (fun hL' => ?_)
        refine wpOp_step rfl (fun K hK0 => ?_)
        have hK : Shut _ := hK0
        clear hK0
        go_simp
        refine hK.out _ _ ⟨fun e => absurd (e : true = false) (by decide), ?_⟩
        clear hK K; clear hL; rename Shutb _ _ => hL
        (try simp only [Act.put, List.getElem_toArray, List.getElem_cons_zero, List.getElem_cons_succ, List.setIfInBounds_toArray, List.set_cons_zero, List.set_cons_succ])
        refine late_done (by kernel_rfl) ?_
        (try dsimp only [Exit.then])
        go_wp2
        go_meet
        exact ⟨(wb.heap.size + 1), wb.heap.size, rfl, rfl, ⟨_, (by with_reducible exact (Blk.new' (by simp) _ _).drew), hcs⟩, ⟨_, (by with_reducible exact (Blk.alloc (Blk.new' rfl _ _) _).drew), hcs⟩, by omega, by omega, by omega, (by with_reducible repeat (first | exact Ext.refl _ | apply Ext.drew | apply Ext.alloc))⟩
    case rest =>
      obtain ⟨gy, gn, rfl, rfl, hyb, hzb, hgne, hgy, hgn, hE5v⟩ := hcut
      rename World => wv
      rename Act → World → Prop => KK
      rename ∀ _ _, _ → KK _ _ => hKK
      exact hKK _ _ (shp_tail6 c p b sky T F day N K kl kh lk Q w w1 wb a1 aK aT c1 cK cT gy gn wv HS.out HP.out (Hvk.out.ext hEab) HDK.out (HKD.out _) Hvt.out HG.out HDZ.out hskz HL1.out hyb hzb hgne hgy hgn hE5v hEb hE1b HSE HBX)
end Go.Proofs.Ytkjoojmlcjmlgaa
