/- The law CellCarried. -/
import Derived.Test.YtkjoojmlcjmlgaaK3
import Derived.Test.YtkjoojmlcjmlgaaPd
import Derived.Test.YtkjoojmlcjmlgaaH7
import Derived.Test.YtkjoojmlcjmlgaaLa
namespace Go.Proofs.Ytkjoojmlcjmlgaa
set_option linter.unusedVariables false
set_option linter.unusedSimpArgs false
open Go.RowKit
set_option maxRecDepth 100000 in
set_option maxHeartbeats 16000000 in
theorem cellCarried_law (c : C.Sys) (vl : Value) (p : Int) (hwfp : (Lit.int .i64 p).wf = true) (b : Int) (hwfb : (Lit.int .i64 b).wf = true) (off : Int) (hwfoff : (Lit.int .i64 off).wf = true) (wt : ByteArray) (w : World) (hP : Loads w vl c.loads) :
    Calls Try.prog 8 #[.agg (sysV c vl), .int .i64 p, .int .i64 b, .int .i64 off, .string wt] w fun e w' => e = .returned (.bool true) ∧ Ext w w' := by
  have hP' := hP
  obtain ⟨a1, c1, rfl, hPx⟩ := hP'
  have HPX := Lib.hid hPx
  clear hPx
  obtain ⟨w1, hw1⟩ : ∃ w1, w.alloc (.cells (sysV c (.slice a1 c.loads.length c1)) 24) = w1 := ⟨_, rfl⟩
  have hE1 : Ext w w1 := by rw [← hw1]; (with_reducible (repeat (first | exact Ext.refl _ | assumption | apply Ext.alloc | apply Ext.drew | exact ext_plus _ _ | (apply Ext.setCell; rotate_left; (simp <;> omega)) | (apply Ext.trans; rotate_left; exact ext_plus _ _) | (apply Ext.trans; rotate_left; assumption))))
  have hb0 : Blk w1 w.heap.size (sysV c (.slice a1 c.loads.length c1)) 24 := by rw [← hw1]; exact Blk.new' rfl _ _
  have hbx := fun y (hy : Ext w1 y) => (⟨(hb0.ext hy).cell, (hb0.ext hy).lt⟩ : (∀ o, y.cell? ⟨w.heap.size, o, none⟩ = _) ∧ w.heap.size < y.heap.size)
  have HBX := Lib.hid hbx
  have HW1 := Lib.hid hw1
  clear hw1 hb0 hbx
  have hsh := fun w' (hx : Ext w w') => short_all c _ w' (hP.ext hx)
  obtain ⟨B, hB⟩ : ∃ B, decide (c.loads.length ≤ 10) = B := ⟨_, rfl⟩
  simp only [hB] at hsh
  have HSH := Lib.hid hsh
  clear hsh
  cases B with
  | false =>
    clear hB
    go_enter Try.func8, Try.ntmps8
    go_upto_region 1 with (fail)
    rw [HW1.out]
    obtain ⟨k0, l0⟩ := HBX.out w1 (Ext.refl _)
    go_wp2_with (first | (go_at_call 15; refine (HSH.out _ (by (with_reducible (repeat (first | exact Ext.refl _ | assumption | apply Ext.alloc | apply Ext.drew | exact ext_plus _ _ | (apply Ext.setCell; rotate_left; (simp <;> omega)) | (apply Ext.trans; rotate_left; exact ext_plus _ _) | (apply Ext.trans; rotate_left; assumption)))))).mono ?_; rintro e w2 ⟨rfl, hb2⟩; (try clear k0 l0); obtain ⟨k0, l0⟩ := HBX.out w2 (by (with_reducible (repeat (first | exact Ext.refl _ | assumption | apply Ext.alloc | apply Ext.drew | exact ext_plus _ _ | (apply Ext.setCell; rotate_left; (simp <;> omega)) | (apply Ext.trans; rotate_left; exact ext_plus _ _) | (apply Ext.trans; rotate_left; assumption)))))) | (go_at_call 16; refine (known_any _).mono ?_; rintro e wk ⟨rfl, hbk⟩))
    all_goals
      go_ret
      exact ⟨rfl, by (with_reducible (repeat (first | exact Ext.refl _ | assumption | apply Ext.alloc | apply Ext.drew | exact ext_plus _ _ | (apply Ext.setCell; rotate_left; (simp <;> omega)) | (apply Ext.trans; rotate_left; exact ext_plus _ _) | (apply Ext.trans; rotate_left; assumption))))⟩
  | true =>
    have hn : c.loads.length ≤ 10 := by simpa using hB
    clear hB
    by_cases hsz : wt.size ≤ 14
    · have hszi : ¬ (14 : Int) < (wt.size : Int) := by omega
      have hask := fun w' (hx : Ext w w') => asked_any c p b _ w' (hP.ext hx) (by omega)
      have hoff := fun w' (hx : Ext w w') => doff_any c off _ w' (hP.ext hx) hn
      have HWE := Lib.hid (fun w' (_ : Ext w w') (t : ByteArray) (ht : t.size ≤ 1000000) => dweather_any c t (.slice a1 c.loads.length c1) ⟨_, _, _, rfl⟩ w' ht)
      cases hA : (C.sysB c && C.partsB p b) with
      | false =>
        simp only [hA] at hask
        have HA := Lib.hid hask
        clear hask hoff hA
        go_enter Try.func8, Try.ntmps8
        go_upto_region 1 with (fail)
        rw [HW1.out]
        obtain ⟨k0, l0⟩ := HBX.out w1 (Ext.refl _)
        go_wp2_with (first | (go_at_call 15; refine (HSH.out _ (by (with_reducible (repeat (first | exact Ext.refl _ | assumption | apply Ext.alloc | apply Ext.drew | exact ext_plus _ _ | (apply Ext.setCell; rotate_left; (simp <;> omega)) | (apply Ext.trans; rotate_left; exact ext_plus _ _) | (apply Ext.trans; rotate_left; assumption)))))).mono ?_; rintro e w2 ⟨rfl, hb2⟩; (try clear k0 l0); obtain ⟨k0, l0⟩ := HBX.out w2 (by (with_reducible (repeat (first | exact Ext.refl _ | assumption | apply Ext.alloc | apply Ext.drew | exact ext_plus _ _ | (apply Ext.setCell; rotate_left; (simp <;> omega)) | (apply Ext.trans; rotate_left; exact ext_plus _ _) | (apply Ext.trans; rotate_left; assumption)))))) | (go_at_call 18; refine (HA.out _ (by (with_reducible (repeat (first | exact Ext.refl _ | assumption | apply Ext.alloc | apply Ext.drew | exact ext_plus _ _ | (apply Ext.setCell; rotate_left; (simp <;> omega)) | (apply Ext.trans; rotate_left; exact ext_plus _ _) | (apply Ext.trans; rotate_left; assumption)))))).mono ?_; rintro e w4 ⟨rfl, hb4⟩; (try clear k0 l0); obtain ⟨k0, l0⟩ := HBX.out w4 (by (with_reducible (repeat (first | exact Ext.refl _ | assumption | apply Ext.alloc | apply Ext.drew | exact ext_plus _ _ | (apply Ext.setCell; rotate_left; (simp <;> omega)) | (apply Ext.trans; rotate_left; exact ext_plus _ _) | (apply Ext.trans; rotate_left; assumption)))))) | (go_at_call 16; refine (known_any _).mono ?_; rintro e wk ⟨rfl, hbk⟩))
        all_goals
          go_ret
          exact ⟨rfl, by (with_reducible (repeat (first | exact Ext.refl _ | assumption | apply Ext.alloc | apply Ext.drew | exact ext_plus _ _ | (apply Ext.setCell; rotate_left; (simp <;> omega)) | (apply Ext.trans; rotate_left; exact ext_plus _ _) | (apply Ext.trans; rotate_left; assumption))))⟩
      | true =>
        simp only [hA] at hask
        have HA := Lib.hid hask
        cases hO : C.offB c off with
        | false =>
          simp only [hO] at hoff
          have HO := Lib.hid hoff
          clear hask hoff hA hO
          go_enter Try.func8, Try.ntmps8
          go_upto_region 1 with (fail)
          rw [HW1.out]
          obtain ⟨k0, l0⟩ := HBX.out w1 (Ext.refl _)
          go_wp2_with (first | (go_at_call 15; refine (HSH.out _ (by (with_reducible (repeat (first | exact Ext.refl _ | assumption | apply Ext.alloc | apply Ext.drew | exact ext_plus _ _ | (apply Ext.setCell; rotate_left; (simp <;> omega)) | (apply Ext.trans; rotate_left; exact ext_plus _ _) | (apply Ext.trans; rotate_left; assumption)))))).mono ?_; rintro e w2 ⟨rfl, hb2⟩; (try clear k0 l0); obtain ⟨k0, l0⟩ := HBX.out w2 (by (with_reducible (repeat (first | exact Ext.refl _ | assumption | apply Ext.alloc | apply Ext.drew | exact ext_plus _ _ | (apply Ext.setCell; rotate_left; (simp <;> omega)) | (apply Ext.trans; rotate_left; exact ext_plus _ _) | (apply Ext.trans; rotate_left; assumption)))))) | (go_at_call 18; refine (HA.out _ (by (with_reducible (repeat (first | exact Ext.refl _ | assumption | apply Ext.alloc | apply Ext.drew | exact ext_plus _ _ | (apply Ext.setCell; rotate_left; (simp <;> omega)) | (apply Ext.trans; rotate_left; exact ext_plus _ _) | (apply Ext.trans; rotate_left; assumption)))))).mono ?_; rintro e w4 ⟨rfl, hb4⟩; (try clear k0 l0); obtain ⟨k0, l0⟩ := HBX.out w4 (by (with_reducible (repeat (first | exact Ext.refl _ | assumption | apply Ext.alloc | apply Ext.drew | exact ext_plus _ _ | (apply Ext.setCell; rotate_left; (simp <;> omega)) | (apply Ext.trans; rotate_left; exact ext_plus _ _) | (apply Ext.trans; rotate_left; assumption)))))) | (go_at_call 19; refine (HO.out _ (by (with_reducible (repeat (first | exact Ext.refl _ | assumption | apply Ext.alloc | apply Ext.drew | exact ext_plus _ _ | (apply Ext.setCell; rotate_left; (simp <;> omega)) | (apply Ext.trans; rotate_left; exact ext_plus _ _) | (apply Ext.trans; rotate_left; assumption)))))).mono ?_; rintro e w5 ⟨rfl, hb5⟩; (try clear k0 l0); obtain ⟨k0, l0⟩ := HBX.out w5 (by (with_reducible (repeat (first | exact Ext.refl _ | assumption | apply Ext.alloc | apply Ext.drew | exact ext_plus _ _ | (apply Ext.setCell; rotate_left; (simp <;> omega)) | (apply Ext.trans; rotate_left; exact ext_plus _ _) | (apply Ext.trans; rotate_left; assumption)))))) | (go_at_call 16; refine (known_any _).mono ?_; rintro e wk ⟨rfl, hbk⟩))
          all_goals
            go_ret
            exact ⟨rfl, by (with_reducible (repeat (first | exact Ext.refl _ | assumption | apply Ext.alloc | apply Ext.drew | exact ext_plus _ _ | (apply Ext.setCell; rotate_left; (simp <;> omega)) | (apply Ext.trans; rotate_left; exact ext_plus _ _) | (apply Ext.trans; rotate_left; assumption))))⟩
        | true =>
          simp only [hO] at hoff
          have HO := Lib.hid hoff
          cases hW : C.weatherB c wt.data.toList with
          | false =>
            clear hask hoff hA hO
            go_enter Try.func8, Try.ntmps8
            go_upto_region 1 with (fail)
            rw [HW1.out]
            obtain ⟨k0, l0⟩ := HBX.out w1 (Ext.refl _)
            go_wp2_with (first | (go_at_call 15; refine (HSH.out _ (by (with_reducible (repeat (first | exact Ext.refl _ | assumption | apply Ext.alloc | apply Ext.drew | exact ext_plus _ _ | (apply Ext.setCell; rotate_left; (simp <;> omega)) | (apply Ext.trans; rotate_left; exact ext_plus _ _) | (apply Ext.trans; rotate_left; assumption)))))).mono ?_; rintro e w2 ⟨rfl, hb2⟩; (try clear k0 l0); obtain ⟨k0, l0⟩ := HBX.out w2 (by (with_reducible (repeat (first | exact Ext.refl _ | assumption | apply Ext.alloc | apply Ext.drew | exact ext_plus _ _ | (apply Ext.setCell; rotate_left; (simp <;> omega)) | (apply Ext.trans; rotate_left; exact ext_plus _ _) | (apply Ext.trans; rotate_left; assumption)))))) | (go_at_call 18; refine (HA.out _ (by (with_reducible (repeat (first | exact Ext.refl _ | assumption | apply Ext.alloc | apply Ext.drew | exact ext_plus _ _ | (apply Ext.setCell; rotate_left; (simp <;> omega)) | (apply Ext.trans; rotate_left; exact ext_plus _ _) | (apply Ext.trans; rotate_left; assumption)))))).mono ?_; rintro e w4 ⟨rfl, hb4⟩; (try clear k0 l0); obtain ⟨k0, l0⟩ := HBX.out w4 (by (with_reducible (repeat (first | exact Ext.refl _ | assumption | apply Ext.alloc | apply Ext.drew | exact ext_plus _ _ | (apply Ext.setCell; rotate_left; (simp <;> omega)) | (apply Ext.trans; rotate_left; exact ext_plus _ _) | (apply Ext.trans; rotate_left; assumption)))))) | (go_at_call 19; refine (HO.out _ (by (with_reducible (repeat (first | exact Ext.refl _ | assumption | apply Ext.alloc | apply Ext.drew | exact ext_plus _ _ | (apply Ext.setCell; rotate_left; (simp <;> omega)) | (apply Ext.trans; rotate_left; exact ext_plus _ _) | (apply Ext.trans; rotate_left; assumption)))))).mono ?_; rintro e w5 ⟨rfl, hb5⟩; (try clear k0 l0); obtain ⟨k0, l0⟩ := HBX.out w5 (by (with_reducible (repeat (first | exact Ext.refl _ | assumption | apply Ext.alloc | apply Ext.drew | exact ext_plus _ _ | (apply Ext.setCell; rotate_left; (simp <;> omega)) | (apply Ext.trans; rotate_left; exact ext_plus _ _) | (apply Ext.trans; rotate_left; assumption)))))) | (go_at_call 20; refine (HWE.out _ (by (with_reducible (repeat (first | exact Ext.refl _ | assumption | apply Ext.alloc | apply Ext.drew | exact ext_plus _ _ | (apply Ext.setCell; rotate_left; (simp <;> omega)) | (apply Ext.trans; rotate_left; exact ext_plus _ _) | (apply Ext.trans; rotate_left; assumption))))) _ (by omega)).mono ?_; rintro e w8 ⟨rfl, hb8⟩; (try clear k0 l0); obtain ⟨k0, l0⟩ := HBX.out w8 (by (with_reducible (repeat (first | exact Ext.refl _ | assumption | apply Ext.alloc | apply Ext.drew | exact ext_plus _ _ | (apply Ext.setCell; rotate_left; (simp <;> omega)) | (apply Ext.trans; rotate_left; exact ext_plus _ _) | (apply Ext.trans; rotate_left; assumption)))))) | (go_at_call 16; refine (known_any _).mono ?_; rintro e wk ⟨rfl, hbk⟩))
            all_goals
              go_ret
              exact ⟨rfl, by (with_reducible (repeat (first | exact Ext.refl _ | assumption | apply Ext.alloc | apply Ext.drew | exact ext_plus _ _ | (apply Ext.setCell; rotate_left; (simp <;> omega)) | (apply Ext.trans; rotate_left; exact ext_plus _ _) | (apply Ext.trans; rotate_left; assumption))))⟩
          | true =>
            rw [Bool.and_eq_true] at hA
            have O := C.ok_of hA.1
            have HAL := Lib.hid (fun w' (_ : Ext w w') (t : ByteArray) (ht : t.size ≤ 1000000) => dallowed_any c t (.slice a1 c.loads.length c1) ⟨_, _, _, rfl⟩ w' ht (by have := O.w1; omega) (by have := O.wd; have := O.d10; omega))
            obtain ⟨hp0, hp1, h2, h3⟩ := C.parts_of hA.2
            obtain ⟨ho0, ho1⟩ := C.off_of hO
            clear hask hoff
            cases hAl : C.allowed c wt.data.toList with
            | false =>
              clear hA hO O
              go_enter Try.func8, Try.ntmps8
              go_upto_region 1 with (fail)
              rw [HW1.out]
              obtain ⟨k0, l0⟩ := HBX.out w1 (Ext.refl _)
              go_wp2_with (first | (go_at_call 15; refine (HSH.out _ (by (with_reducible (repeat (first | exact Ext.refl _ | assumption | apply Ext.alloc | apply Ext.drew | exact ext_plus _ _ | (apply Ext.setCell; rotate_left; (simp <;> omega)) | (apply Ext.trans; rotate_left; exact ext_plus _ _) | (apply Ext.trans; rotate_left; assumption)))))).mono ?_; rintro e w2 ⟨rfl, hb2⟩; (try clear k0 l0); obtain ⟨k0, l0⟩ := HBX.out w2 (by (with_reducible (repeat (first | exact Ext.refl _ | assumption | apply Ext.alloc | apply Ext.drew | exact ext_plus _ _ | (apply Ext.setCell; rotate_left; (simp <;> omega)) | (apply Ext.trans; rotate_left; exact ext_plus _ _) | (apply Ext.trans; rotate_left; assumption)))))) | (go_at_call 18; refine (HA.out _ (by (with_reducible (repeat (first | exact Ext.refl _ | assumption | apply Ext.alloc | apply Ext.drew | exact ext_plus _ _ | (apply Ext.setCell; rotate_left; (simp <;> omega)) | (apply Ext.trans; rotate_left; exact ext_plus _ _) | (apply Ext.trans; rotate_left; assumption)))))).mono ?_; rintro e w4 ⟨rfl, hb4⟩; (try clear k0 l0); obtain ⟨k0, l0⟩ := HBX.out w4 (by (with_reducible (repeat (first | exact Ext.refl _ | assumption | apply Ext.alloc | apply Ext.drew | exact ext_plus _ _ | (apply Ext.setCell; rotate_left; (simp <;> omega)) | (apply Ext.trans; rotate_left; exact ext_plus _ _) | (apply Ext.trans; rotate_left; assumption)))))) | (go_at_call 19; refine (HO.out _ (by (with_reducible (repeat (first | exact Ext.refl _ | assumption | apply Ext.alloc | apply Ext.drew | exact ext_plus _ _ | (apply Ext.setCell; rotate_left; (simp <;> omega)) | (apply Ext.trans; rotate_left; exact ext_plus _ _) | (apply Ext.trans; rotate_left; assumption)))))).mono ?_; rintro e w5 ⟨rfl, hb5⟩; (try clear k0 l0); obtain ⟨k0, l0⟩ := HBX.out w5 (by (with_reducible (repeat (first | exact Ext.refl _ | assumption | apply Ext.alloc | apply Ext.drew | exact ext_plus _ _ | (apply Ext.setCell; rotate_left; (simp <;> omega)) | (apply Ext.trans; rotate_left; exact ext_plus _ _) | (apply Ext.trans; rotate_left; assumption)))))) | (go_at_call 20; refine (HWE.out _ (by (with_reducible (repeat (first | exact Ext.refl _ | assumption | apply Ext.alloc | apply Ext.drew | exact ext_plus _ _ | (apply Ext.setCell; rotate_left; (simp <;> omega)) | (apply Ext.trans; rotate_left; exact ext_plus _ _) | (apply Ext.trans; rotate_left; assumption))))) _ (by omega)).mono ?_; rintro e w8 ⟨rfl, hb8⟩; (try clear k0 l0); obtain ⟨k0, l0⟩ := HBX.out w8 (by (with_reducible (repeat (first | exact Ext.refl _ | assumption | apply Ext.alloc | apply Ext.drew | exact ext_plus _ _ | (apply Ext.setCell; rotate_left; (simp <;> omega)) | (apply Ext.trans; rotate_left; exact ext_plus _ _) | (apply Ext.trans; rotate_left; assumption)))))) | (go_at_call 26; refine (HAL.out _ (by (with_reducible (repeat (first | exact Ext.refl _ | assumption | apply Ext.alloc | apply Ext.drew | exact ext_plus _ _ | (apply Ext.setCell; rotate_left; (simp <;> omega)) | (apply Ext.trans; rotate_left; exact ext_plus _ _) | (apply Ext.trans; rotate_left; assumption))))) _ (by omega)).mono ?_; rintro e w9 ⟨rfl, hb9⟩; (try clear k0 l0); obtain ⟨k0, l0⟩ := HBX.out w9 (by (with_reducible (repeat (first | exact Ext.refl _ | assumption | apply Ext.alloc | apply Ext.drew | exact ext_plus _ _ | (apply Ext.setCell; rotate_left; (simp <;> omega)) | (apply Ext.trans; rotate_left; exact ext_plus _ _) | (apply Ext.trans; rotate_left; assumption)))))) | (go_at_call 16; refine (known_any _).mono ?_; rintro e wk ⟨rfl, hbk⟩))
              all_goals
                go_ret
                exact ⟨rfl, by (with_reducible (repeat (first | exact Ext.refl _ | assumption | apply Ext.alloc | apply Ext.drew | exact ext_plus _ _ | (apply Ext.setCell; rotate_left; (simp <;> omega)) | (apply Ext.trans; rotate_left; exact ext_plus _ _) | (apply Ext.trans; rotate_left; assumption))))⟩
            | true =>
              have hmem := weather_mem hW hAl
              have hlist := fun d (h : d < wt.size) => dat_run (c := c) (p := p) (b := b) (off := off) (w := wt.data.toList) (d := d) (by simpa using h)
              have hWD : ((wt.data.toList.length : Nat) : Int) = c.days := by
                have h := hW
                unfold C.weatherB at h
                rw [Bool.and_eq_true, decide_eq_true_eq] at h
                exact h.2
              obtain ⟨N, hN⟩ : ∃ N, wt.size = N := ⟨_, rfl⟩
              obtain ⟨days, hdays⟩ : ∃ days, C.run c p b off wt.data.toList = days := ⟨_, rfl⟩
              have hN14 : N ≤ 14 := by omega
              have hlen : days.length = N := by rw [← hdays, run_len, ← hN]; simp
              have hdz : c.days = (N : Int) := by rw [← hWD, ← hN]; simp
              have hcarD : ∀ x ∈ days, 0 ≤ x.carried ∧ x.carried < 2 ^ c.loads.length := by rw [← hdays]; exact run_carried O hp0 hp1 h2 h3 off _ (by simp; omega)
              have hpw := (pow_bd hn).2
              have hcar : ∀ x ∈ days, 0 ≤ x.carried ∧ x.carried < 1024 := fun x hx => by have := hcarD x hx; omega
              have hgn : givenB c p b off = true := by unfold givenB; rw [hA.1, hA.2, hO]; rfl
              have hpl : ∀ w', Ext w w' → ∀ t : ByteArray, C.weatherB c t.data.toList = true ∧ t.size ≤ 14 → Calls Try.prog 17 #[.agg (sysV c (.slice a1 c.loads.length c1)), .int .i64 p, .int .i64 b, .int .i64 off, .string t] w' fun e w2 => ∃ v l1 l2 l3 l4 l5 l6, e = .returned (.tuple #[v, .agg #[.int .i64 l1, .int .i64 l2, .int .i64 l3, .int .i64 l4, .int .i64 l5, .int .i64 l6], .int .i64 0]) ∧ Days w2 v (C.run c p b off t.data.toList) ∧ Ext w' w2 := fun w' hx t ht => by
                have hpo : playB c p b off t.data.toList = true := by unfold playB; rw [hA.1, hA.2, hO, ht.1]; rfl
                refine (play_good c p b off t _ w' (hP.ext hx) (by omega) (by omega) hpo).mono ?_
                rintro e w2 ⟨v, rfl, h1, h2⟩
                exact ⟨v, _, _, _, _, _, _, rfl, h1, h2⟩
              have hq := fun w' (hx : Ext w w') => faultQ_any c _ p b off w' (hP.ext hx) (by omega)
              have hpe := fun w' (hx : Ext w w') => hP.ext hx
              have HPE := Lib.hid hpe
              have HPL := Lib.hid hpl
              have HLEN := Lib.hid hlen
              have HCAR := Lib.hid hcar
              have HNL := Lib.hid hn
              have hsv := fun wv vd (hd : Days wv vd days) w' (hx : Ext w w') (hx2 : Ext wv w') => sane_any c days _ vd w' (hP.ext hx) (hd.ext hx2) hn (by omega) hcarD
              have HSV0 := Lib.hid hsv
              have HDY := Lib.hid hdays
              have hwn : wt.size ≤ 14 := hsz
              have HWT := Lib.hid (And.intro hW hwn)
              have hlz : ((days.length : Int) != c.days) = false := by rw [hlen, hdz]; simp
              unfold faultR faultCode at hq
              rw [hgn] at hq
              have hd0 : 0 ≤ c.days := by have := O.d1; omega
              have hpc := plus_cell
              cases hF : C.fault c p b off with
              | none =>
                rw [hF] at hq
                have hq2 : ∀ w', Ext w w' → Calls Try.prog 31 #[.agg (sysV c (.slice a1 c.loads.length c1)), .int .i64 p, .int .i64 b, .int .i64 off] w' fun e w2 => e = .returned (.tuple #[.agg #[.string ⟨#[]⟩, .int .i64 0, .int .i64 0], .int .i64 5]) ∧ Ext w' w2 := fun w' hx => hq w' hx
                have HQ := Lib.hid hq2
                have hno : ∀ d, d < N → (h : d < days.length) → C.down c days[d] = none := fun d hd h => by
                  have h1 := fault_none hF hmem
                  rw [hdays] at h1
                  have h2 := firstDown_none h1 h
                  rw [dat_at h] at h2
                  exact h2
                have HNO := Lib.hid hno
                clear hq hq2 hno hF hmem hlist hWD hN hdays hlen hcarD hpw hcar hgn hpl hpe hsv hsz hA hO hd0 O hp0 hp1 h2 h3 ho0 ho1 hdz hn hP
                go_enter Try.func8, Try.ntmps8
                go_upto_region 1 with (fail)
                rw [HW1.out]
                obtain ⟨k0, l0⟩ := HBX.out w1 (Ext.refl _)
                go_upto_region 7 with (first | (go_at_call 15; refine (HSH.out _ (by (with_reducible (repeat (first | exact Ext.refl _ | assumption | apply Ext.alloc | apply Ext.drew | exact ext_plus _ _ | (apply Ext.setCell; rotate_left; (simp <;> omega)) | (apply Ext.trans; rotate_left; exact ext_plus _ _) | (apply Ext.trans; rotate_left; assumption)))))).mono ?_; rintro e w2 ⟨rfl, hb2⟩; (try clear k0 l0); obtain ⟨k0, l0⟩ := HBX.out w2 (by (with_reducible (repeat (first | exact Ext.refl _ | assumption | apply Ext.alloc | apply Ext.drew | exact ext_plus _ _ | (apply Ext.setCell; rotate_left; (simp <;> omega)) | (apply Ext.trans; rotate_left; exact ext_plus _ _) | (apply Ext.trans; rotate_left; assumption)))))) | (go_at_call 18; refine (HA.out _ (by (with_reducible (repeat (first | exact Ext.refl _ | assumption | apply Ext.alloc | apply Ext.drew | exact ext_plus _ _ | (apply Ext.setCell; rotate_left; (simp <;> omega)) | (apply Ext.trans; rotate_left; exact ext_plus _ _) | (apply Ext.trans; rotate_left; assumption)))))).mono ?_; rintro e w4 ⟨rfl, hb4⟩; (try clear k0 l0); obtain ⟨k0, l0⟩ := HBX.out w4 (by (with_reducible (repeat (first | exact Ext.refl _ | assumption | apply Ext.alloc | apply Ext.drew | exact ext_plus _ _ | (apply Ext.setCell; rotate_left; (simp <;> omega)) | (apply Ext.trans; rotate_left; exact ext_plus _ _) | (apply Ext.trans; rotate_left; assumption)))))) | (go_at_call 19; refine (HO.out _ (by (with_reducible (repeat (first | exact Ext.refl _ | assumption | apply Ext.alloc | apply Ext.drew | exact ext_plus _ _ | (apply Ext.setCell; rotate_left; (simp <;> omega)) | (apply Ext.trans; rotate_left; exact ext_plus _ _) | (apply Ext.trans; rotate_left; assumption)))))).mono ?_; rintro e w5 ⟨rfl, hb5⟩; (try clear k0 l0); obtain ⟨k0, l0⟩ := HBX.out w5 (by (with_reducible (repeat (first | exact Ext.refl _ | assumption | apply Ext.alloc | apply Ext.drew | exact ext_plus _ _ | (apply Ext.setCell; rotate_left; (simp <;> omega)) | (apply Ext.trans; rotate_left; exact ext_plus _ _) | (apply Ext.trans; rotate_left; assumption)))))) | (go_at_call 20; refine (HWE.out _ (by (with_reducible (repeat (first | exact Ext.refl _ | assumption | apply Ext.alloc | apply Ext.drew | exact ext_plus _ _ | (apply Ext.setCell; rotate_left; (simp <;> omega)) | (apply Ext.trans; rotate_left; exact ext_plus _ _) | (apply Ext.trans; rotate_left; assumption))))) _ (by omega)).mono ?_; rintro e w8 ⟨rfl, hb8⟩; (try clear k0 l0); obtain ⟨k0, l0⟩ := HBX.out w8 (by (with_reducible (repeat (first | exact Ext.refl _ | assumption | apply Ext.alloc | apply Ext.drew | exact ext_plus _ _ | (apply Ext.setCell; rotate_left; (simp <;> omega)) | (apply Ext.trans; rotate_left; exact ext_plus _ _) | (apply Ext.trans; rotate_left; assumption)))))) | (go_at_call 26; refine (HAL.out _ (by (with_reducible (repeat (first | exact Ext.refl _ | assumption | apply Ext.alloc | apply Ext.drew | exact ext_plus _ _ | (apply Ext.setCell; rotate_left; (simp <;> omega)) | (apply Ext.trans; rotate_left; exact ext_plus _ _) | (apply Ext.trans; rotate_left; assumption))))) _ (by omega)).mono ?_; rintro e w9 ⟨rfl, hb9⟩; (try clear k0 l0); obtain ⟨k0, l0⟩ := HBX.out w9 (by (with_reducible (repeat (first | exact Ext.refl _ | assumption | apply Ext.alloc | apply Ext.drew | exact ext_plus _ _ | (apply Ext.setCell; rotate_left; (simp <;> omega)) | (apply Ext.trans; rotate_left; exact ext_plus _ _) | (apply Ext.trans; rotate_left; assumption)))))) | (go_at_call 31; refine (HQ.out _ (by (with_reducible (repeat (first | exact Ext.refl _ | assumption | apply Ext.alloc | apply Ext.drew | exact ext_plus _ _ | (apply Ext.setCell; rotate_left; (simp <;> omega)) | (apply Ext.trans; rotate_left; exact ext_plus _ _) | (apply Ext.trans; rotate_left; assumption)))))).mono ?_; rintro e w3 ⟨rfl, hb3⟩; have HB8 := Lib.hid (fun (y : World) (hy : Ext (w3.alloc (.cells (#[.string ⟨#[]⟩, .int .i64 0, .int .i64 0]) 62)) y) => And.intro (Blk.ext (Blk.new w3 (#[.string ⟨#[]⟩, .int .i64 0, .int .i64 0]) 62) hy).cell (Blk.ext (Blk.new w3 (#[.string ⟨#[]⟩, .int .i64 0, .int .i64 0]) 62) hy).lt); (try clear k0 l0); obtain ⟨k0, l0⟩ := HBX.out w3 (by (with_reducible (repeat (first | exact Ext.refl _ | assumption | apply Ext.alloc | apply Ext.drew | exact ext_plus _ _ | (apply Ext.setCell; rotate_left; (simp <;> omega)) | (apply Ext.trans; rotate_left; exact ext_plus _ _) | (apply Ext.trans; rotate_left; assumption)))))) | (go_at_call 17; refine (HPL.out _ (by (with_reducible (repeat (first | exact Ext.refl _ | assumption | apply Ext.alloc | apply Ext.drew | exact ext_plus _ _ | (apply Ext.setCell; rotate_left; (simp <;> omega)) | (apply Ext.trans; rotate_left; exact ext_plus _ _) | (apply Ext.trans; rotate_left; assumption))))) _ (HWT.out)).mono ?_; rintro e wv ⟨vv, l1, l2, l3, l4, l5, l6, rfl, hvv, hbwv⟩; rw [HDY.out] at hvv; obtain ⟨avv, cvv, rfl, hxvv⟩ := id hvv; have HXV := Lib.hid hxvv; have HXVD := Lib.hid hvv; clear hxvv hvv; (try clear k0 l0); obtain ⟨k0, l0⟩ := HBX.out wv (by (with_reducible (repeat (first | exact Ext.refl _ | assumption | apply Ext.alloc | apply Ext.drew | exact ext_plus _ _ | (apply Ext.setCell; rotate_left; (simp <;> omega)) | (apply Ext.trans; rotate_left; exact ext_plus _ _) | (apply Ext.trans; rotate_left; assumption))))); (try clear k2 k2l); (try (obtain ⟨k2, k2l⟩ := HB8.out wv (by (with_reducible (repeat (first | exact Ext.refl _ | assumption | apply Ext.alloc | apply Ext.drew | exact ext_plus _ _ | (apply Ext.setCell; rotate_left; (simp <;> omega)) | (apply Ext.trans; rotate_left; exact ext_plus _ _) | (apply Ext.trans; rotate_left; assumption)))))))))
                have hE1v : Ext w1 wv := by (with_reducible (repeat (first | exact Ext.refl _ | assumption | apply Ext.alloc | apply Ext.drew | exact ext_plus _ _ | (apply Ext.setCell; rotate_left; (simp <;> omega)) | (apply Ext.trans; rotate_left; exact ext_plus _ _) | (apply Ext.trans; rotate_left; assumption))))
                have hsvv := HSV0.out wv _ HXVD.out
                have HSV := Lib.hid hsvv
                obtain ⟨WB, hWB⟩ : ∃ WB, wv.alloc (.cells #[.int .i64 l1, .int .i64 l2, .int .i64 l3, .int .i64 l4, .int .i64 l5, .int .i64 l6] 29) = WB := ⟨_, rfl⟩
                have hEvWB : Ext wv WB := by rw [← hWB]; exact (Ext.refl _).alloc _
                rw [hWB]
                clear hWB hsvv k0 l0
                obtain ⟨k0, l0⟩ := HBX.out WB (hE1v.trans hEvWB)
                have hE1W := hE1v.trans hEvWB
                have hEwW := hE1.trans hE1W
                go_upto_region 22 with (first | (go_at_call 33; refine (HSV.out _ (by (with_reducible (repeat (first | exact Ext.refl _ | assumption | apply Ext.alloc | apply Ext.drew | exact ext_plus _ _ | (apply Ext.setCell; rotate_left; (simp <;> omega)) | (apply Ext.trans; rotate_left; exact ext_plus _ _) | (apply Ext.trans; rotate_left; assumption))))) (by (with_reducible (repeat (first | exact Ext.refl _ | assumption | apply Ext.alloc | apply Ext.drew | exact ext_plus _ _ | (apply Ext.setCell; rotate_left; (simp <;> omega)) | (apply Ext.trans; rotate_left; exact ext_plus _ _) | (apply Ext.trans; rotate_left; assumption)))))).mono ?_; rintro e w12 ⟨rfl, hbw12⟩; (try clear k0 l0); obtain ⟨k0, l0⟩ := HBX.out w12 (by (with_reducible (repeat (first | exact Ext.refl _ | assumption | apply Ext.alloc | apply Ext.drew | exact ext_plus _ _ | (apply Ext.setCell; rotate_left; (simp <;> omega)) | (apply Ext.trans; rotate_left; exact ext_plus _ _) | (apply Ext.trans; rotate_left; assumption)))))))
                have hEvw12 : Ext wv w12 := hEvWB.trans hbw12
                go_wp2
                (try clear k0 l0)
                go_loopw [20] (fun s wx => ∃ d : Nat, d ≤ N ∧ s = .int .i64 d ∧ Ext w12 wx) (fun s _ => N - (intOf s).toNat)
                case atStart => exact ⟨0, Nat.zero_le _, rfl, Ext.refl _⟩
                case round =>
                  rename World => wy
                  obtain ⟨d, hd, rfl, hEy⟩ := hrel
                  have hlenD := HLEN.out
                  have hEvy : Ext wv wy := hEvw12.trans hEy
                  have hE1y : Ext w1 wy := hE1v.trans hEvy
                  have hEwy : Ext w wy := hE1.trans hE1y
                  obtain ⟨k0, l0⟩ := HBX.out wy hE1y
                  by_cases hdN : d < N
                  · have hdl : d < days.length := by omega
                    have HDN := Lib.hid hdN
                    clear hlenD
                    have hdow := HNO.out d hdN hdl
                    obtain ⟨b6, o6, e6, hb6, hAt6⟩ := HXV.out d hdl
                    cases e6
                    obtain ⟨q0, q1⟩ := day_cells (ate_stays _ _ _ _ _ _ hEvy hb6 hAt6)
                    have qb := Nat.lt_of_lt_of_le hb6 (Ext.size hEvy)
                    obtain ⟨xd, hxd⟩ : ∃ xd, days[d] = xd := ⟨_, rfl⟩
                    have hbdd := HCAR.out _ (List.getElem_mem hdl)
                    rw [hxd] at q0 q1 hdow hbdd
                    obtain ⟨xb, xc⟩ := xd
                    dsimp only at q0 q1 hbdd
                    have hdw := fun w' (hx : Ext w w') => ddown_any c ⟨xb, xc⟩ _ w' (HPE.out w' hx) HNL.out hbdd.1 (by have := hbdd.2; dsimp only; omega)
                    rw [hdow] at hdw
                    have hdw2 : ∀ w', Ext w w' → Calls Try.prog 34 #[.agg (sysV c (.slice a1 c.loads.length c1)), .agg #[.int .i64 xb, .int .i64 xc]] w' fun e w2 => e = .returned (.int .i64 (-1)) ∧ Ext w' w2 := hdw
                    have HDW := Lib.hid hdw2
                    clear hdw hdw2 hdow hxd hAt6 hbdd
                    go_upto_region 25 with (fail)
                    refine wp_region_ext 7 (fun _ _ d _ _ h => by cases d <;> exact h) (by kernel_rfl) (by kernel_rfl) (by kernel_rfl) (by kernel_rfl) ?_
                    (try simp only [List.append_eq, List.cons_append, List.nil_append])
                    simp only [List.take_succ_cons, List.take_zero, List.drop_succ_cons, List.drop_zero]
                    repeat (any_goals (first | go_big_quiet_step ((go_at_call 34; exact ext_quiet (HDW.out _ (by (with_reducible (repeat (first | exact Ext.refl _ | assumption | apply Ext.alloc | apply Ext.drew | exact ext_plus _ _ | (apply Ext.setCell; rotate_left; (simp <;> omega)) | (apply Ext.trans; rotate_left; exact ext_plus _ _) | (apply Ext.trans; rotate_left; assumption)))))))) | quiet_step ((go_at_call 34; exact ext_quiet (HDW.out _ (by (with_reducible (repeat (first | exact Ext.refl _ | assumption | apply Ext.alloc | apply Ext.drew | exact ext_plus _ _ | (apply Ext.setCell; rotate_left; (simp <;> omega)) | (apply Ext.trans; rotate_left; exact ext_plus _ _) | (apply Ext.trans; rotate_left; assumption))))))))))
                    all_goals (refine wpQuiet_nil ?_; intro w14 hEw14)
                    go_wp2
                    go_roundw
                    case rel => exact ⟨d + 1, HDN.out, by go_num, hEy.trans hEw14⟩
                    case measure => have := HDN.out; simp [intOf]; omega
                  · have hdl : ¬ d < days.length := by omega
                    go_wp2_with (first | (go_at_call 16; refine (known_any _).mono ?_; rintro e wk ⟨rfl, hbk⟩))
                    go_ret
                    exact ⟨rfl, by (with_reducible (repeat (first | exact Ext.refl _ | assumption | apply Ext.alloc | apply Ext.drew | exact ext_plus _ _ | (apply Ext.setCell; rotate_left; (simp <;> omega)) | (apply Ext.trans; rotate_left; exact ext_plus _ _) | (apply Ext.trans; rotate_left; assumption))))⟩
              | some x =>
                rw [hF] at hq
                obtain ⟨x1, D, J⟩ := x
                obtain ⟨hx1, hx2, hx3⟩ := fault_some hd0 hF
                obtain ⟨hx4, hx5, hx6⟩ := weather_of hd0 hx1
                obtain ⟨hx7, hx8, hx9⟩ := firstDown_some hx2
                obtain ⟨xs, hxs⟩ : ∃ xs : ByteArray, (⟨x1.toArray⟩ : ByteArray) = xs := ⟨_, rfl⟩
                have hxl : x1 = xs.data.toList := by rw [← hxs]
                have hq2 : ∀ w', Ext w w' → Calls Try.prog 31 #[.agg (sysV c (.slice a1 c.loads.length c1)), .int .i64 p, .int .i64 b, .int .i64 off] w' fun e w2 => e = .returned (.tuple #[.agg #[.string xs, .int .i64 (D : Int), .int .i64 (J : Int)], .int .i64 0]) ∧ Ext w' w2 := fun w' hx => by rw [← hxs]; exact hq w' hx
                have HQ := Lib.hid hq2
                rw [hxl] at hx3 hx4 hx5 hx6 hx7 hx8 hx9
                have hxsz : xs.size = N := by have h := hx6; simp at h; omega
                have hxs14 : xs.size ≤ 14 := by omega
                have hxsi : ¬ (14 : Int) < (xs.size : Int) := by omega
                obtain ⟨days2, hdays2⟩ : ∃ days2, C.run c p b off xs.data.toList = days2 := ⟨_, rfl⟩
                have hlen2 : days2.length = N := by rw [← hdays2, run_len, ← hxsz]; simp
                have hcarD2 : ∀ x ∈ days2, 0 ≤ x.carried ∧ x.carried < 2 ^ c.loads.length := by rw [← hdays2]; exact run_carried O hp0 hp1 h2 h3 off _ (by simp; omega)
                rw [hdays2] at hx7 hx8 hx9
                have hcar2 : ∀ x ∈ days2, 0 ≤ x.carried ∧ x.carried < 1024 := fun x hx => by have := hcarD2 x hx; omega
                have hlz2 : ((days2.length : Int) != c.days) = false := by rw [hlen2, hdz]; simp
                have hsu := fun wv vd (hd : Days wv vd days2) w' (hx : Ext w w') (hx2 : Ext wv w') => sane_any c days2 _ vd w' (hP.ext hx) (hd.ext hx2) hn (by omega) hcarD2
                have HSU0 := Lib.hid hsu
                have HDY2 := Lib.hid hdays2
                have HXT := Lib.hid (And.intro hx4 hxs14)
                have HLEN2 := Lib.hid hlen2
                have HCAR2 := Lib.hid hcar2
                have hno2 : ∀ d, d < D → (h : d < days2.length) → C.down c days2[d] = none := fun d hd h => by have h1 := hx9 d hd; rw [dat_at h] at h1; exact h1
                have HNO2 := Lib.hid hno2
                have hD2 : D < days2.length := hx7
                have hxD : ∀ h : D < days2.length, C.down c days2[D] = some J := fun h => by have h1 := hx8; rw [dat_at h] at h1; exact h1
                have HXD := Lib.hid hxD
                have hDd : (D : Int) < c.days := by rw [hdz]; omega
                have hD0 : ¬ (D : Int) < 0 := by omega
                obtain ⟨v, hv⟩ : ∃ v, beforeB wt.data.toList xs.data.toList = v := ⟨_, rfl⟩
                have hno : v = true → ∀ d, d < N → (h : d < days.length) → C.down c days[d] = none := fun hvt d hd h => by
                  have h1 := hx3 _ hmem (hv.trans hvt)
                  rw [hdays] at h1
                  have h2 := firstDown_none h1 h
                  rw [dat_at h] at h2
                  exact h2
                have HNV := Lib.hid hno
                have HV := Lib.hid hv
                have HDL := Lib.hid hD2
                have hwsz : wt.size ≤ 14 := hsz
                have hD14 : D ≤ 14 := by omega
                clear hq hq2 hno hF hmem hlist hWD hN hdays hlen hcarD hpw hcar hgn hpl hpe hsv hsz hA hO hd0 O hp0 hp1 h2 h3 ho0 ho1 hdz hn hP hx1 hx2 hx3 hx6 hx7 hx8 hx9 hxl hxs hxsz hdays2 hlen2 hcarD2 hcar2 hsu hno2 hxD hv hD2
                go_enter Try.func8, Try.ntmps8
                go_upto_region 1 with (fail)
                rw [HW1.out]
                obtain ⟨k0, l0⟩ := HBX.out w1 (Ext.refl _)
                go_upto_region 8 with (first | (go_at_call 15; refine (HSH.out _ (by (with_reducible (repeat (first | exact Ext.refl _ | assumption | apply Ext.alloc | apply Ext.drew | exact ext_plus _ _ | (apply Ext.setCell; rotate_left; (simp <;> omega)) | (apply Ext.trans; rotate_left; exact ext_plus _ _) | (apply Ext.trans; rotate_left; assumption)))))).mono ?_; rintro e w2 ⟨rfl, hb2⟩; (try clear k0 l0); obtain ⟨k0, l0⟩ := HBX.out w2 (by (with_reducible (repeat (first | exact Ext.refl _ | assumption | apply Ext.alloc | apply Ext.drew | exact ext_plus _ _ | (apply Ext.setCell; rotate_left; (simp <;> omega)) | (apply Ext.trans; rotate_left; exact ext_plus _ _) | (apply Ext.trans; rotate_left; assumption)))))) | (go_at_call 18; refine (HA.out _ (by (with_reducible (repeat (first | exact Ext.refl _ | assumption | apply Ext.alloc | apply Ext.drew | exact ext_plus _ _ | (apply Ext.setCell; rotate_left; (simp <;> omega)) | (apply Ext.trans; rotate_left; exact ext_plus _ _) | (apply Ext.trans; rotate_left; assumption)))))).mono ?_; rintro e w4 ⟨rfl, hb4⟩; (try clear k0 l0); obtain ⟨k0, l0⟩ := HBX.out w4 (by (with_reducible (repeat (first | exact Ext.refl _ | assumption | apply Ext.alloc | apply Ext.drew | exact ext_plus _ _ | (apply Ext.setCell; rotate_left; (simp <;> omega)) | (apply Ext.trans; rotate_left; exact ext_plus _ _) | (apply Ext.trans; rotate_left; assumption)))))) | (go_at_call 19; refine (HO.out _ (by (with_reducible (repeat (first | exact Ext.refl _ | assumption | apply Ext.alloc | apply Ext.drew | exact ext_plus _ _ | (apply Ext.setCell; rotate_left; (simp <;> omega)) | (apply Ext.trans; rotate_left; exact ext_plus _ _) | (apply Ext.trans; rotate_left; assumption)))))).mono ?_; rintro e w5 ⟨rfl, hb5⟩; (try clear k0 l0); obtain ⟨k0, l0⟩ := HBX.out w5 (by (with_reducible (repeat (first | exact Ext.refl _ | assumption | apply Ext.alloc | apply Ext.drew | exact ext_plus _ _ | (apply Ext.setCell; rotate_left; (simp <;> omega)) | (apply Ext.trans; rotate_left; exact ext_plus _ _) | (apply Ext.trans; rotate_left; assumption)))))) | (go_at_call 20; refine (HWE.out _ (by (with_reducible (repeat (first | exact Ext.refl _ | assumption | apply Ext.alloc | apply Ext.drew | exact ext_plus _ _ | (apply Ext.setCell; rotate_left; (simp <;> omega)) | (apply Ext.trans; rotate_left; exact ext_plus _ _) | (apply Ext.trans; rotate_left; assumption))))) _ (by omega)).mono ?_; rintro e w8 ⟨rfl, hb8⟩; (try clear k0 l0); obtain ⟨k0, l0⟩ := HBX.out w8 (by (with_reducible (repeat (first | exact Ext.refl _ | assumption | apply Ext.alloc | apply Ext.drew | exact ext_plus _ _ | (apply Ext.setCell; rotate_left; (simp <;> omega)) | (apply Ext.trans; rotate_left; exact ext_plus _ _) | (apply Ext.trans; rotate_left; assumption)))))) | (go_at_call 26; refine (HAL.out _ (by (with_reducible (repeat (first | exact Ext.refl _ | assumption | apply Ext.alloc | apply Ext.drew | exact ext_plus _ _ | (apply Ext.setCell; rotate_left; (simp <;> omega)) | (apply Ext.trans; rotate_left; exact ext_plus _ _) | (apply Ext.trans; rotate_left; assumption))))) _ (by omega)).mono ?_; rintro e w9 ⟨rfl, hb9⟩; (try clear k0 l0); obtain ⟨k0, l0⟩ := HBX.out w9 (by (with_reducible (repeat (first | exact Ext.refl _ | assumption | apply Ext.alloc | apply Ext.drew | exact ext_plus _ _ | (apply Ext.setCell; rotate_left; (simp <;> omega)) | (apply Ext.trans; rotate_left; exact ext_plus _ _) | (apply Ext.trans; rotate_left; assumption)))))) | (go_at_call 31; refine (HQ.out _ (by (with_reducible (repeat (first | exact Ext.refl _ | assumption | apply Ext.alloc | apply Ext.drew | exact ext_plus _ _ | (apply Ext.setCell; rotate_left; (simp <;> omega)) | (apply Ext.trans; rotate_left; exact ext_plus _ _) | (apply Ext.trans; rotate_left; assumption)))))).mono ?_; rintro e w3 ⟨rfl, hb3⟩; have HB8 := Lib.hid (fun (y : World) (hy : Ext (w3.alloc (.cells (#[.string xs, .int .i64 (D : Int), .int .i64 (J : Int)]) 62)) y) => And.intro (Blk.ext (Blk.new w3 (#[.string xs, .int .i64 (D : Int), .int .i64 (J : Int)]) 62) hy).cell (Blk.ext (Blk.new w3 (#[.string xs, .int .i64 (D : Int), .int .i64 (J : Int)]) 62) hy).lt); (try clear k0 l0); obtain ⟨k0, l0⟩ := HBX.out w3 (by (with_reducible (repeat (first | exact Ext.refl _ | assumption | apply Ext.alloc | apply Ext.drew | exact ext_plus _ _ | (apply Ext.setCell; rotate_left; (simp <;> omega)) | (apply Ext.trans; rotate_left; exact ext_plus _ _) | (apply Ext.trans; rotate_left; assumption)))))) | (go_at_call 17; refine (HPL.out _ (by (with_reducible (repeat (first | exact Ext.refl _ | assumption | apply Ext.alloc | apply Ext.drew | exact ext_plus _ _ | (apply Ext.setCell; rotate_left; (simp <;> omega)) | (apply Ext.trans; rotate_left; exact ext_plus _ _) | (apply Ext.trans; rotate_left; assumption))))) _ (HWT.out)).mono ?_; rintro e wv ⟨vv, l1, l2, l3, l4, l5, l6, rfl, hvv, hbwv⟩; rw [HDY.out] at hvv; obtain ⟨avv, cvv, rfl, hxvv⟩ := id hvv; have HXV := Lib.hid hxvv; have HXVD := Lib.hid hvv; clear hxvv hvv; (try clear k0 l0); obtain ⟨k0, l0⟩ := HBX.out wv (by (with_reducible (repeat (first | exact Ext.refl _ | assumption | apply Ext.alloc | apply Ext.drew | exact ext_plus _ _ | (apply Ext.setCell; rotate_left; (simp <;> omega)) | (apply Ext.trans; rotate_left; exact ext_plus _ _) | (apply Ext.trans; rotate_left; assumption))))); (try clear k2 k2l); (try (obtain ⟨k2, k2l⟩ := HB8.out wv (by (with_reducible (repeat (first | exact Ext.refl _ | assumption | apply Ext.alloc | apply Ext.drew | exact ext_plus _ _ | (apply Ext.setCell; rotate_left; (simp <;> omega)) | (apply Ext.trans; rotate_left; exact ext_plus _ _) | (apply Ext.trans; rotate_left; assumption)))))))))
                have hE3v := hbwv
                have hE1v : Ext w1 wv := by (with_reducible (repeat (first | exact Ext.refl _ | assumption | apply Ext.alloc | apply Ext.drew | exact ext_plus _ _ | (apply Ext.setCell; rotate_left; (simp <;> omega)) | (apply Ext.trans; rotate_left; exact ext_plus _ _) | (apply Ext.trans; rotate_left; assumption))))
                have hsvv := HSV0.out wv _ HXVD.out
                have HSV := Lib.hid hsvv
                obtain ⟨WB, hWB⟩ : ∃ WB, wv.alloc (.cells #[.int .i64 l1, .int .i64 l2, .int .i64 l3, .int .i64 l4, .int .i64 l5, .int .i64 l6] 29) = WB := ⟨_, rfl⟩
                have hEvWB : Ext wv WB := by rw [← hWB]; exact (Ext.refl _).alloc _
                rw [hWB]
                clear hWB hsvv k0 l0
                obtain ⟨k0, l0⟩ := HBX.out WB (hE1v.trans hEvWB)
                have hE1W := hE1v.trans hEvWB
                have hEwW := hE1.trans hE1W
                have hE3W := hE3v.trans hEvWB
                obtain ⟨k2, k2l⟩ := HB8.out WB hE3W
                go_upto_region 11 with (first | (go_at_call 20; refine (HWE.out _ (by (with_reducible (repeat (first | exact Ext.refl _ | assumption | apply Ext.alloc | apply Ext.drew | exact ext_plus _ _ | (apply Ext.setCell; rotate_left; (simp <;> omega)) | (apply Ext.trans; rotate_left; exact ext_plus _ _) | (apply Ext.trans; rotate_left; assumption))))) _ (by omega)).mono ?_; rintro e w8 ⟨rfl, hb8⟩; (try clear k0 l0); obtain ⟨k0, l0⟩ := HBX.out w8 (by (with_reducible (repeat (first | exact Ext.refl _ | assumption | apply Ext.alloc | apply Ext.drew | exact ext_plus _ _ | (apply Ext.setCell; rotate_left; (simp <;> omega)) | (apply Ext.trans; rotate_left; exact ext_plus _ _) | (apply Ext.trans; rotate_left; assumption))))); (try clear k2 k2l); (try (obtain ⟨k2, k2l⟩ := HB8.out w8 (by (with_reducible (repeat (first | exact Ext.refl _ | assumption | apply Ext.alloc | apply Ext.drew | exact ext_plus _ _ | (apply Ext.setCell; rotate_left; (simp <;> omega)) | (apply Ext.trans; rotate_left; exact ext_plus _ _) | (apply Ext.trans; rotate_left; assumption)))))))) | (go_at_call 26; refine (HAL.out _ (by (with_reducible (repeat (first | exact Ext.refl _ | assumption | apply Ext.alloc | apply Ext.drew | exact ext_plus _ _ | (apply Ext.setCell; rotate_left; (simp <;> omega)) | (apply Ext.trans; rotate_left; exact ext_plus _ _) | (apply Ext.trans; rotate_left; assumption))))) _ (by omega)).mono ?_; rintro e w9 ⟨rfl, hb9⟩; (try clear k0 l0); obtain ⟨k0, l0⟩ := HBX.out w9 (by (with_reducible (repeat (first | exact Ext.refl _ | assumption | apply Ext.alloc | apply Ext.drew | exact ext_plus _ _ | (apply Ext.setCell; rotate_left; (simp <;> omega)) | (apply Ext.trans; rotate_left; exact ext_plus _ _) | (apply Ext.trans; rotate_left; assumption))))); (try clear k2 k2l); (try (obtain ⟨k2, k2l⟩ := HB8.out w9 (by (with_reducible (repeat (first | exact Ext.refl _ | assumption | apply Ext.alloc | apply Ext.drew | exact ext_plus _ _ | (apply Ext.setCell; rotate_left; (simp <;> omega)) | (apply Ext.trans; rotate_left; exact ext_plus _ _) | (apply Ext.trans; rotate_left; assumption)))))))) | (go_at_call 17; refine (HPL.out _ (by (with_reducible (repeat (first | exact Ext.refl _ | assumption | apply Ext.alloc | apply Ext.drew | exact ext_plus _ _ | (apply Ext.setCell; rotate_left; (simp <;> omega)) | (apply Ext.trans; rotate_left; exact ext_plus _ _) | (apply Ext.trans; rotate_left; assumption))))) _ (HXT.out)).mono ?_; rintro e wu ⟨vu, m1, m2, m3, m4, m5, m6, rfl, hvu, hbwu⟩; rw [HDY2.out] at hvu; obtain ⟨avu, cvu, rfl, hxvu⟩ := id hvu; have HXU := Lib.hid hxvu; have HXUD := Lib.hid hvu; clear hxvu hvu; (try clear k0 l0); obtain ⟨k0, l0⟩ := HBX.out wu (by (with_reducible (repeat (first | exact Ext.refl _ | assumption | apply Ext.alloc | apply Ext.drew | exact ext_plus _ _ | (apply Ext.setCell; rotate_left; (simp <;> omega)) | (apply Ext.trans; rotate_left; exact ext_plus _ _) | (apply Ext.trans; rotate_left; assumption))))); (try clear k2 k2l); (try (obtain ⟨k2, k2l⟩ := HB8.out wu (by (with_reducible (repeat (first | exact Ext.refl _ | assumption | apply Ext.alloc | apply Ext.drew | exact ext_plus _ _ | (apply Ext.setCell; rotate_left; (simp <;> omega)) | (apply Ext.trans; rotate_left; exact ext_plus _ _) | (apply Ext.trans; rotate_left; assumption)))))))))
                have hEWu : Ext WB wu := by (with_reducible (repeat (first | exact Ext.refl _ | assumption | apply Ext.alloc | apply Ext.drew | exact ext_plus _ _ | (apply Ext.setCell; rotate_left; (simp <;> omega)) | (apply Ext.trans; rotate_left; exact ext_plus _ _) | (apply Ext.trans; rotate_left; assumption))))
                have hE1u := hE1W.trans hEWu
                have hEu := hEwW.trans hEWu
                have hsuu := HSU0.out wu _ HXUD.out
                have HSU := Lib.hid hsuu
                obtain ⟨WC, hWC⟩ : ∃ WC, wu.alloc (.cells #[.int .i64 m1, .int .i64 m2, .int .i64 m3, .int .i64 m4, .int .i64 m5, .int .i64 m6] 29) = WC := ⟨_, rfl⟩
                have hEuWC : Ext wu WC := by rw [← hWC]; exact (Ext.refl _).alloc _
                rw [hWC]
                clear hWC hsuu k0 l0 k2 k2l
                have hE1C := hE1u.trans hEuWC
                have hEC := hEu.trans hEuWC
                have hE3C := (hE3W.trans hEWu).trans hEuWC
                have hEWC := hEWu.trans hEuWC
                have hEvC := hEvWB.trans hEWC
                obtain ⟨k0, l0⟩ := HBX.out WC hE1C
                obtain ⟨k2, k2l⟩ := HB8.out WC hE3C
                have hdl := HDL.out
                obtain ⟨b6, o6, e6, hb6, hAt6⟩ := HXU.out D hdl
                cases e6
                obtain ⟨q0, q1⟩ := day_cells (ate_stays _ _ _ _ _ _ hEuWC hb6 hAt6)
                have qb := Nat.lt_of_lt_of_le hb6 (Ext.size hEuWC)
                obtain ⟨xd, hxd⟩ : ∃ xd, days2[D] = xd := ⟨_, rfl⟩
                have hdow := HXD.out hdl
                have hbdd := HCAR2.out _ (List.getElem_mem hdl)
                rw [hxd] at q0 q1 hdow hbdd
                obtain ⟨xb, xc⟩ := xd
                dsimp only at q0 q1 hbdd
                have hdw := fun w' (hx : Ext w w') => ddown_any c ⟨xb, xc⟩ _ w' (HPE.out w' hx) HNL.out hbdd.1 (by have := hbdd.2; dsimp only; omega)
                rw [hdow] at hdw
                have hdw2 : ∀ w', Ext w w' → Calls Try.prog 34 #[.agg (sysV c (.slice a1 c.loads.length c1)), .agg #[.int .i64 xb, .int .i64 xc]] w' fun e w2 => e = .returned (.int .i64 (J : Int)) ∧ Ext w' w2 := hdw
                have HDJ := Lib.hid hdw2
                clear hdw hdw2 hdow hxd hAt6 hbdd
                refine wp_region_ext 27 (fun _ _ d _ _ h => by cases d <;> exact h) (by kernel_rfl) (by kernel_rfl) (by kernel_rfl) (by kernel_rfl) ?_
                (try simp only [List.append_eq, List.cons_append, List.nil_append])
                simp only [List.take_succ_cons, List.take_zero, List.drop_succ_cons, List.drop_zero]
                repeat (any_goals (first | go_big_quiet_step (first | (go_at_call 33; exact ext_quiet (HSU.out _ (by (with_reducible (repeat (first | exact Ext.refl _ | assumption | apply Ext.alloc | apply Ext.drew | exact ext_plus _ _ | (apply Ext.setCell; rotate_left; (simp <;> omega)) | (apply Ext.trans; rotate_left; exact ext_plus _ _) | (apply Ext.trans; rotate_left; assumption))))) (by (with_reducible (repeat (first | exact Ext.refl _ | assumption | apply Ext.alloc | apply Ext.drew | exact ext_plus _ _ | (apply Ext.setCell; rotate_left; (simp <;> omega)) | (apply Ext.trans; rotate_left; exact ext_plus _ _) | (apply Ext.trans; rotate_left; assumption))))))) | (go_at_call 34; exact ext_quiet (HDJ.out _ (by (with_reducible (repeat (first | exact Ext.refl _ | assumption | apply Ext.alloc | apply Ext.drew | exact ext_plus _ _ | (apply Ext.setCell; rotate_left; (simp <;> omega)) | (apply Ext.trans; rotate_left; exact ext_plus _ _) | (apply Ext.trans; rotate_left; assumption)))))))) | quiet_step (first | (go_at_call 33; exact ext_quiet (HSU.out _ (by (with_reducible (repeat (first | exact Ext.refl _ | assumption | apply Ext.alloc | apply Ext.drew | exact ext_plus _ _ | (apply Ext.setCell; rotate_left; (simp <;> omega)) | (apply Ext.trans; rotate_left; exact ext_plus _ _) | (apply Ext.trans; rotate_left; assumption))))) (by (with_reducible (repeat (first | exact Ext.refl _ | assumption | apply Ext.alloc | apply Ext.drew | exact ext_plus _ _ | (apply Ext.setCell; rotate_left; (simp <;> omega)) | (apply Ext.trans; rotate_left; exact ext_plus _ _) | (apply Ext.trans; rotate_left; assumption))))))) | (go_at_call 34; exact ext_quiet (HDJ.out _ (by (with_reducible (repeat (first | exact Ext.refl _ | assumption | apply Ext.alloc | apply Ext.drew | exact ext_plus _ _ | (apply Ext.setCell; rotate_left; (simp <;> omega)) | (apply Ext.trans; rotate_left; exact ext_plus _ _) | (apply Ext.trans; rotate_left; assumption))))))))))
                all_goals (refine wpQuiet_nil ?_; intro w14 hEw14)
                clear q0 q1 qb k0 l0 k2 k2l hdl
                have hEu14 := hEuWC.trans hEw14
                have hE114 := hE1C.trans hEw14
                have hE314 := hE3C.trans hEw14
                have hEv14 := hEvC.trans hEw14
                have hEw14' := hEC.trans hEw14
                obtain ⟨k2, k2l⟩ := HB8.out w14 hE314
                go_wp2
                (try clear k2 k2l)
                go_loopw [19] (fun s wx => ∃ d : Nat, d ≤ D ∧ s = .int .i64 d ∧ Ext w14 wx) (fun s _ => D - (intOf s).toNat)
                case atStart => exact ⟨0, Nat.zero_le _, rfl, Ext.refl _⟩
                case round =>
                  rename World => wy
                  obtain ⟨d, hd, rfl, hEy⟩ := hrel
                  have hEuy := hEu14.trans hEy
                  have hE1y := hE114.trans hEy
                  have hE3y := hE314.trans hEy
                  have hEvy := hEv14.trans hEy
                  have hEwy := hEw14'.trans hEy
                  obtain ⟨k0, l0⟩ := HBX.out wy hE1y
                  obtain ⟨k2, k2l⟩ := HB8.out wy hE3y
                  by_cases hdD : d < D
                  · have hdl : d < days2.length := by have := HDL.out; omega
                    have HDN := Lib.hid hdD
                    have hdow := HNO2.out d hdD hdl
                    obtain ⟨b6, o6, e6, hb6, hAt6⟩ := HXU.out d hdl
                    cases e6
                    obtain ⟨q0, q1⟩ := day_cells (ate_stays _ _ _ _ _ _ hEuy hb6 hAt6)
                    have qb := Nat.lt_of_lt_of_le hb6 (Ext.size hEuy)
                    obtain ⟨xd, hxd⟩ : ∃ xd, days2[d] = xd := ⟨_, rfl⟩
                    have hbdd := HCAR2.out _ (List.getElem_mem hdl)
                    rw [hxd] at q0 q1 hdow hbdd
                    obtain ⟨xb, xc⟩ := xd
                    dsimp only at q0 q1 hbdd
                    have hdw := fun w' (hx : Ext w w') => ddown_any c ⟨xb, xc⟩ _ w' (HPE.out w' hx) HNL.out hbdd.1 (by have := hbdd.2; dsimp only; omega)
                    rw [hdow] at hdw
                    have hdw2 : ∀ w', Ext w w' → Calls Try.prog 34 #[.agg (sysV c (.slice a1 c.loads.length c1)), .agg #[.int .i64 xb, .int .i64 xc]] w' fun e w2 => e = .returned (.int .i64 (-1)) ∧ Ext w' w2 := hdw
                    have HDW := Lib.hid hdw2
                    clear hdw hdw2 hdow hxd hAt6 hbdd
                    go_upto_region 16 with (fail)
                    refine wp_region_ext 7 (fun _ _ d _ _ h => by cases d <;> exact h) (by kernel_rfl) (by kernel_rfl) (by kernel_rfl) (by kernel_rfl) ?_
                    (try simp only [List.append_eq, List.cons_append, List.nil_append])
                    simp only [List.take_succ_cons, List.take_zero, List.drop_succ_cons, List.drop_zero]
                    repeat (any_goals (first | go_big_quiet_step ((go_at_call 34; exact ext_quiet (HDW.out _ (by (with_reducible (repeat (first | exact Ext.refl _ | assumption | apply Ext.alloc | apply Ext.drew | exact ext_plus _ _ | (apply Ext.setCell; rotate_left; (simp <;> omega)) | (apply Ext.trans; rotate_left; exact ext_plus _ _) | (apply Ext.trans; rotate_left; assumption)))))))) | quiet_step ((go_at_call 34; exact ext_quiet (HDW.out _ (by (with_reducible (repeat (first | exact Ext.refl _ | assumption | apply Ext.alloc | apply Ext.drew | exact ext_plus _ _ | (apply Ext.setCell; rotate_left; (simp <;> omega)) | (apply Ext.trans; rotate_left; exact ext_plus _ _) | (apply Ext.trans; rotate_left; assumption))))))))))
                    all_goals (refine wpQuiet_nil ?_; intro w15 hEw15)
                    go_wp2
                    go_roundw
                    case rel => exact ⟨d + 1, HDN.out, by go_num, hEy.trans hEw15⟩
                    case measure => have := HDN.out; simp [intOf]; omega
                  · have hbv := HV.out
                    cases v with
                    | false =>
                      go_wp2_with (first | (go_at_call 35; refine (before_any _ _ _ (by omega) (by omega)).mono ?_; rintro e w13 ⟨rfl, hb13⟩; (try clear k0 l0); obtain ⟨k0, l0⟩ := HBX.out w13 (by (with_reducible (repeat (first | exact Ext.refl _ | assumption | apply Ext.alloc | apply Ext.drew | exact ext_plus _ _ | (apply Ext.setCell; rotate_left; (simp <;> omega)) | (apply Ext.trans; rotate_left; exact ext_plus _ _) | (apply Ext.trans; rotate_left; assumption)))))) | (go_at_call 16; refine (known_any _).mono ?_; rintro e wk ⟨rfl, hbk⟩))
                      go_ret
                      exact ⟨rfl, by (with_reducible (repeat (first | exact Ext.refl _ | assumption | apply Ext.alloc | apply Ext.drew | exact ext_plus _ _ | (apply Ext.setCell; rotate_left; (simp <;> omega)) | (apply Ext.trans; rotate_left; exact ext_plus _ _) | (apply Ext.trans; rotate_left; assumption))))⟩
                    | true =>
                      have hnoo := HNV.out rfl
                      have HNO := Lib.hid hnoo
                      clear hnoo
                      go_upto_region 22 with (first | (go_at_call 35; refine (before_any _ _ _ (by omega) (by omega)).mono ?_; rintro e w13 ⟨rfl, hb13⟩; (try clear k0 l0); obtain ⟨k0, l0⟩ := HBX.out w13 (by (with_reducible (repeat (first | exact Ext.refl _ | assumption | apply Ext.alloc | apply Ext.drew | exact ext_plus _ _ | (apply Ext.setCell; rotate_left; (simp <;> omega)) | (apply Ext.trans; rotate_left; exact ext_plus _ _) | (apply Ext.trans; rotate_left; assumption)))))) | (go_at_call 33; refine (HSV.out _ (by (with_reducible (repeat (first | exact Ext.refl _ | assumption | apply Ext.alloc | apply Ext.drew | exact ext_plus _ _ | (apply Ext.setCell; rotate_left; (simp <;> omega)) | (apply Ext.trans; rotate_left; exact ext_plus _ _) | (apply Ext.trans; rotate_left; assumption))))) (by (with_reducible (repeat (first | exact Ext.refl _ | assumption | apply Ext.alloc | apply Ext.drew | exact ext_plus _ _ | (apply Ext.setCell; rotate_left; (simp <;> omega)) | (apply Ext.trans; rotate_left; exact ext_plus _ _) | (apply Ext.trans; rotate_left; assumption)))))).mono ?_; rintro e w12 ⟨rfl, hbw12⟩; (try clear k0 l0); obtain ⟨k0, l0⟩ := HBX.out w12 (by (with_reducible (repeat (first | exact Ext.refl _ | assumption | apply Ext.alloc | apply Ext.drew | exact ext_plus _ _ | (apply Ext.setCell; rotate_left; (simp <;> omega)) | (apply Ext.trans; rotate_left; exact ext_plus _ _) | (apply Ext.trans; rotate_left; assumption)))))))
                      have hEvw12 : Ext wv w12 := by (with_reducible (repeat (first | exact Ext.refl _ | assumption | apply Ext.alloc | apply Ext.drew | exact ext_plus _ _ | (apply Ext.setCell; rotate_left; (simp <;> omega)) | (apply Ext.trans; rotate_left; exact ext_plus _ _) | (apply Ext.trans; rotate_left; assumption))))
                      clear hbv
                      go_wp2
                      (try clear k0 l0 k2 k2l)
                      go_loopw [20] (fun s wx => ∃ d : Nat, d ≤ N ∧ s = .int .i64 d ∧ Ext w12 wx) (fun s _ => N - (intOf s).toNat)
                      case atStart => exact ⟨0, Nat.zero_le _, rfl, Ext.refl _⟩
                      case round =>
                        rename World => wy
                        obtain ⟨d, hd, rfl, hEy⟩ := hrel
                        have hlenD := HLEN.out
                        have hEvy : Ext wv wy := hEvw12.trans hEy
                        have hE1y : Ext w1 wy := hE1v.trans hEvy
                        have hEwy : Ext w wy := hE1.trans hE1y
                        obtain ⟨k0, l0⟩ := HBX.out wy hE1y
                        by_cases hdN : d < N
                        · have hdl : d < days.length := by omega
                          have HDN := Lib.hid hdN
                          clear hlenD
                          have hdow := HNO.out d hdN hdl
                          obtain ⟨b6, o6, e6, hb6, hAt6⟩ := HXV.out d hdl
                          cases e6
                          obtain ⟨q0, q1⟩ := day_cells (ate_stays _ _ _ _ _ _ hEvy hb6 hAt6)
                          have qb := Nat.lt_of_lt_of_le hb6 (Ext.size hEvy)
                          obtain ⟨xd, hxd⟩ : ∃ xd, days[d] = xd := ⟨_, rfl⟩
                          have hbdd := HCAR.out _ (List.getElem_mem hdl)
                          rw [hxd] at q0 q1 hdow hbdd
                          obtain ⟨xb, xc⟩ := xd
                          dsimp only at q0 q1 hbdd
                          have hdw := fun w' (hx : Ext w w') => ddown_any c ⟨xb, xc⟩ _ w' (HPE.out w' hx) HNL.out hbdd.1 (by have := hbdd.2; dsimp only; omega)
                          rw [hdow] at hdw
                          have hdw2 : ∀ w', Ext w w' → Calls Try.prog 34 #[.agg (sysV c (.slice a1 c.loads.length c1)), .agg #[.int .i64 xb, .int .i64 xc]] w' fun e w2 => e = .returned (.int .i64 (-1)) ∧ Ext w' w2 := hdw
                          have HDW := Lib.hid hdw2
                          clear hdw hdw2 hdow hxd hAt6 hbdd
                          go_upto_region 25 with (fail)
                          refine wp_region_ext 7 (fun _ _ d _ _ h => by cases d <;> exact h) (by kernel_rfl) (by kernel_rfl) (by kernel_rfl) (by kernel_rfl) ?_
                          (try simp only [List.append_eq, List.cons_append, List.nil_append])
                          simp only [List.take_succ_cons, List.take_zero, List.drop_succ_cons, List.drop_zero]
                          repeat (any_goals (first | go_big_quiet_step ((go_at_call 34; exact ext_quiet (HDW.out _ (by (with_reducible (repeat (first | exact Ext.refl _ | assumption | apply Ext.alloc | apply Ext.drew | exact ext_plus _ _ | (apply Ext.setCell; rotate_left; (simp <;> omega)) | (apply Ext.trans; rotate_left; exact ext_plus _ _) | (apply Ext.trans; rotate_left; assumption)))))))) | quiet_step ((go_at_call 34; exact ext_quiet (HDW.out _ (by (with_reducible (repeat (first | exact Ext.refl _ | assumption | apply Ext.alloc | apply Ext.drew | exact ext_plus _ _ | (apply Ext.setCell; rotate_left; (simp <;> omega)) | (apply Ext.trans; rotate_left; exact ext_plus _ _) | (apply Ext.trans; rotate_left; assumption))))))))))
                          all_goals (refine wpQuiet_nil ?_; intro w14 hEw14)
                          go_wp2
                          go_roundw
                          case rel => exact ⟨d + 1, HDN.out, by go_num, hEy.trans hEw14⟩
                          case measure => have := HDN.out; simp [intOf]; omega
                        · have hdl : ¬ d < days.length := by omega
                          go_wp2_with (first | (go_at_call 16; refine (known_any _).mono ?_; rintro e wk ⟨rfl, hbk⟩))
                          go_ret
                          exact ⟨rfl, by (with_reducible (repeat (first | exact Ext.refl _ | assumption | apply Ext.alloc | apply Ext.drew | exact ext_plus _ _ | (apply Ext.setCell; rotate_left; (simp <;> omega)) | (apply Ext.trans; rotate_left; exact ext_plus _ _) | (apply Ext.trans; rotate_left; assumption))))⟩
    · have hszi : (14 : Int) < (wt.size : Int) := by omega
      clear hsz
      go_enter Try.func8, Try.ntmps8
      go_upto_region 1 with (fail)
      rw [HW1.out]
      obtain ⟨k0, l0⟩ := HBX.out w1 (Ext.refl _)
      go_wp2_with (first | (go_at_call 15; refine (HSH.out _ (by (with_reducible (repeat (first | exact Ext.refl _ | assumption | apply Ext.alloc | apply Ext.drew | exact ext_plus _ _ | (apply Ext.setCell; rotate_left; (simp <;> omega)) | (apply Ext.trans; rotate_left; exact ext_plus _ _) | (apply Ext.trans; rotate_left; assumption)))))).mono ?_; rintro e w2 ⟨rfl, hb2⟩; (try clear k0 l0); obtain ⟨k0, l0⟩ := HBX.out w2 (by (with_reducible (repeat (first | exact Ext.refl _ | assumption | apply Ext.alloc | apply Ext.drew | exact ext_plus _ _ | (apply Ext.setCell; rotate_left; (simp <;> omega)) | (apply Ext.trans; rotate_left; exact ext_plus _ _) | (apply Ext.trans; rotate_left; assumption)))))) | (go_at_call 16; refine (known_any _).mono ?_; rintro e wk ⟨rfl, hbk⟩))
      all_goals
        go_ret
        exact ⟨rfl, by (with_reducible (repeat (first | exact Ext.refl _ | assumption | apply Ext.alloc | apply Ext.drew | exact ext_plus _ _ | (apply Ext.setCell; rotate_left; (simp <;> omega)) | (apply Ext.trans; rotate_left; exact ext_plus _ _) | (apply Ext.trans; rotate_left; assumption))))⟩
end Go.Proofs.Ytkjoojmlcjmlgaa
