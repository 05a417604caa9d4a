/- The law CellLedgers. -/
import Derived.Test.YtkjoojmlcjmlgaaL4a
namespace Go.Proofs.Ytkjoojmlcjmlgaa
set_option linter.unusedVariables false
set_option linter.unusedSimpArgs false
open Go.RowKit
attribute [local go_sem] Oper.semAt_some
set_option maxRecDepth 100000 in
set_option maxHeartbeats 16000000 in
theorem cellLedgers_law (c : C.Sys) (vl : Value) (p : Int) (hwfp : (Lit.int .i64 p).wf = true) (b : Int) (hwfb : (Lit.int .i64 b).wf = true) (off : Int) (hwfoff : (Lit.int .i64 off).wf = true) (wt : ByteArray) (w : World) (hP : Loads w vl c.loads) :
    Calls Try.prog 4 #[.agg (sysV c vl), .int .i64 p, .int .i64 b, .int .i64 off, .string wt] w fun e w' => e = .returned (.bool true) ∧ Ext w w' := by
  have hP' := hP
  obtain ⟨a1, c1, rfl, hPx⟩ := hP'
  have HPX := Lib.hid hPx
  clear hPx
  obtain ⟨w1, hw1⟩ : ∃ w1, w.alloc (.cells (sysV c (.slice a1 c.loads.length c1)) 24) = w1 := ⟨_, rfl⟩
  have hE1 : Ext w w1 := by rw [← hw1]; (with_reducible (repeat (first | exact Ext.refl _ | assumption | apply Ext.alloc | apply Ext.drew | exact ext_plus _ _ | (apply Ext.setCell; rotate_left; (simp <;> omega)) | (apply Ext.trans; rotate_left; exact ext_plus _ _) | (apply Ext.trans; rotate_left; assumption))))
  have hb0 : Blk w1 w.heap.size (sysV c (.slice a1 c.loads.length c1)) 24 := by rw [← hw1]; exact Blk.new' rfl _ _
  have hbx := fun y (hy : Ext w1 y) => (⟨(hb0.ext hy).cell, (hb0.ext hy).lt⟩ : (∀ o, y.cell? ⟨w.heap.size, o, none⟩ = _) ∧ w.heap.size < y.heap.size)
  have HBX := Lib.hid hbx
  have HW1 := Lib.hid hw1
  clear hw1 hb0 hbx
  have hsh := fun w' (hx : Ext w w') => short_all c _ w' (hP.ext hx)
  obtain ⟨B, hB⟩ : ∃ B, decide (c.loads.length ≤ 10) = B := ⟨_, rfl⟩
  simp only [hB] at hsh
  have HSH := Lib.hid hsh
  clear hsh
  cases B with
  | false =>
    clear hB
    go_enter Try.func4, Try.ntmps4
    go_upto_region 1 with (fail)
    rw [HW1.out]
    obtain ⟨k0, l0⟩ := HBX.out w1 (Ext.refl _)
    go_wp2_with (first | (go_at_call 15; refine (HSH.out _ (by (with_reducible (repeat (first | exact Ext.refl _ | assumption | apply Ext.alloc | apply Ext.drew | exact ext_plus _ _ | (apply Ext.setCell; rotate_left; (simp <;> omega)) | (apply Ext.trans; rotate_left; exact ext_plus _ _) | (apply Ext.trans; rotate_left; assumption)))))).mono ?_; rintro e w2 ⟨rfl, hb2⟩; (try clear k0 l0); obtain ⟨k0, l0⟩ := HBX.out w2 (by (with_reducible (repeat (first | exact Ext.refl _ | assumption | apply Ext.alloc | apply Ext.drew | exact ext_plus _ _ | (apply Ext.setCell; rotate_left; (simp <;> omega)) | (apply Ext.trans; rotate_left; exact ext_plus _ _) | (apply Ext.trans; rotate_left; assumption)))))) | (go_at_call 16; refine (known_any _).mono ?_; rintro e wk ⟨rfl, hbk⟩))
    all_goals
      go_ret
      exact ⟨rfl, by (with_reducible (repeat (first | exact Ext.refl _ | assumption | apply Ext.alloc | apply Ext.drew | exact ext_plus _ _ | (apply Ext.setCell; rotate_left; (simp <;> omega)) | (apply Ext.trans; rotate_left; exact ext_plus _ _) | (apply Ext.trans; rotate_left; assumption))))⟩
  | true =>
    have hn : c.loads.length ≤ 10 := by simpa using hB
    clear hB
    by_cases hsz : wt.size ≤ 14
    · have hszi : ¬ (14 : Int) < (wt.size : Int) := by omega
      have hask := fun w' (hx : Ext w w') => asked_any c p b _ w' (hP.ext hx) (by omega)
      have hoff := fun w' (hx : Ext w w') => doff_any c off _ w' (hP.ext hx) hn
      have hwe := fun w' (_ : Ext w w') => dweather_any c wt (.slice a1 c.loads.length c1) ⟨_, _, _, rfl⟩ w' (by omega)
      cases hA : (C.sysB c && C.partsB p b) with
      | false =>
        simp only [hA] at hask
        have HA := Lib.hid hask
        clear hask hoff hwe hA
        go_enter Try.func4, Try.ntmps4
        go_upto_region 1 with (fail)
        rw [HW1.out]
        obtain ⟨k0, l0⟩ := HBX.out w1 (Ext.refl _)
        go_wp2_with (first | (go_at_call 15; refine (HSH.out _ (by (with_reducible (repeat (first | exact Ext.refl _ | assumption | apply Ext.alloc | apply Ext.drew | exact ext_plus _ _ | (apply Ext.setCell; rotate_left; (simp <;> omega)) | (apply Ext.trans; rotate_left; exact ext_plus _ _) | (apply Ext.trans; rotate_left; assumption)))))).mono ?_; rintro e w2 ⟨rfl, hb2⟩; (try clear k0 l0); obtain ⟨k0, l0⟩ := HBX.out w2 (by (with_reducible (repeat (first | exact Ext.refl _ | assumption | apply Ext.alloc | apply Ext.drew | exact ext_plus _ _ | (apply Ext.setCell; rotate_left; (simp <;> omega)) | (apply Ext.trans; rotate_left; exact ext_plus _ _) | (apply Ext.trans; rotate_left; assumption)))))) | (go_at_call 18; refine (HA.out _ (by (with_reducible (repeat (first | exact Ext.refl _ | assumption | apply Ext.alloc | apply Ext.drew | exact ext_plus _ _ | (apply Ext.setCell; rotate_left; (simp <;> omega)) | (apply Ext.trans; rotate_left; exact ext_plus _ _) | (apply Ext.trans; rotate_left; assumption)))))).mono ?_; rintro e w4 ⟨rfl, hb4⟩; (try clear k0 l0); obtain ⟨k0, l0⟩ := HBX.out w4 (by (with_reducible (repeat (first | exact Ext.refl _ | assumption | apply Ext.alloc | apply Ext.drew | exact ext_plus _ _ | (apply Ext.setCell; rotate_left; (simp <;> omega)) | (apply Ext.trans; rotate_left; exact ext_plus _ _) | (apply Ext.trans; rotate_left; assumption)))))) | (go_at_call 16; refine (known_any _).mono ?_; rintro e wk ⟨rfl, hbk⟩))
        all_goals
          go_ret
          exact ⟨rfl, by (with_reducible (repeat (first | exact Ext.refl _ | assumption | apply Ext.alloc | apply Ext.drew | exact ext_plus _ _ | (apply Ext.setCell; rotate_left; (simp <;> omega)) | (apply Ext.trans; rotate_left; exact ext_plus _ _) | (apply Ext.trans; rotate_left; assumption))))⟩
      | true =>
        simp only [hA] at hask
        have HA := Lib.hid hask
        cases hO : C.offB c off with
        | false =>
          simp only [hO] at hoff
          have HO := Lib.hid hoff
          clear hask hoff hwe hA hO
          go_enter Try.func4, Try.ntmps4
          go_upto_region 1 with (fail)
          rw [HW1.out]
          obtain ⟨k0, l0⟩ := HBX.out w1 (Ext.refl _)
          go_wp2_with (first | (go_at_call 15; refine (HSH.out _ (by (with_reducible (repeat (first | exact Ext.refl _ | assumption | apply Ext.alloc | apply Ext.drew | exact ext_plus _ _ | (apply Ext.setCell; rotate_left; (simp <;> omega)) | (apply Ext.trans; rotate_left; exact ext_plus _ _) | (apply Ext.trans; rotate_left; assumption)))))).mono ?_; rintro e w2 ⟨rfl, hb2⟩; (try clear k0 l0); obtain ⟨k0, l0⟩ := HBX.out w2 (by (with_reducible (repeat (first | exact Ext.refl _ | assumption | apply Ext.alloc | apply Ext.drew | exact ext_plus _ _ | (apply Ext.setCell; rotate_left; (simp <;> omega)) | (apply Ext.trans; rotate_left; exact ext_plus _ _) | (apply Ext.trans; rotate_left; assumption)))))) | (go_at_call 18; refine (HA.out _ (by (with_reducible (repeat (first | exact Ext.refl _ | assumption | apply Ext.alloc | apply Ext.drew | exact ext_plus _ _ | (apply Ext.setCell; rotate_left; (simp <;> omega)) | (apply Ext.trans; rotate_left; exact ext_plus _ _) | (apply Ext.trans; rotate_left; assumption)))))).mono ?_; rintro e w4 ⟨rfl, hb4⟩; (try clear k0 l0); obtain ⟨k0, l0⟩ := HBX.out w4 (by (with_reducible (repeat (first | exact Ext.refl _ | assumption | apply Ext.alloc | apply Ext.drew | exact ext_plus _ _ | (apply Ext.setCell; rotate_left; (simp <;> omega)) | (apply Ext.trans; rotate_left; exact ext_plus _ _) | (apply Ext.trans; rotate_left; assumption)))))) | (go_at_call 19; refine (HO.out _ (by (with_reducible (repeat (first | exact Ext.refl _ | assumption | apply Ext.alloc | apply Ext.drew | exact ext_plus _ _ | (apply Ext.setCell; rotate_left; (simp <;> omega)) | (apply Ext.trans; rotate_left; exact ext_plus _ _) | (apply Ext.trans; rotate_left; assumption)))))).mono ?_; rintro e w5 ⟨rfl, hb5⟩; (try clear k0 l0); obtain ⟨k0, l0⟩ := HBX.out w5 (by (with_reducible (repeat (first | exact Ext.refl _ | assumption | apply Ext.alloc | apply Ext.drew | exact ext_plus _ _ | (apply Ext.setCell; rotate_left; (simp <;> omega)) | (apply Ext.trans; rotate_left; exact ext_plus _ _) | (apply Ext.trans; rotate_left; assumption)))))) | (go_at_call 16; refine (known_any _).mono ?_; rintro e wk ⟨rfl, hbk⟩))
          all_goals
            go_ret
            exact ⟨rfl, by (with_reducible (repeat (first | exact Ext.refl _ | assumption | apply Ext.alloc | apply Ext.drew | exact ext_plus _ _ | (apply Ext.setCell; rotate_left; (simp <;> omega)) | (apply Ext.trans; rotate_left; exact ext_plus _ _) | (apply Ext.trans; rotate_left; assumption))))⟩
        | true =>
          simp only [hO] at hoff
          have HO := Lib.hid hoff
          cases hW : C.weatherB c wt.data.toList with
          | false =>
            simp only [hW] at hwe
            have HWE := Lib.hid hwe
            clear hask hoff hwe hA hO hW
            go_enter Try.func4, Try.ntmps4
            go_upto_region 1 with (fail)
            rw [HW1.out]
            obtain ⟨k0, l0⟩ := HBX.out w1 (Ext.refl _)
            go_wp2_with (first | (go_at_call 15; refine (HSH.out _ (by (with_reducible (repeat (first | exact Ext.refl _ | assumption | apply Ext.alloc | apply Ext.drew | exact ext_plus _ _ | (apply Ext.setCell; rotate_left; (simp <;> omega)) | (apply Ext.trans; rotate_left; exact ext_plus _ _) | (apply Ext.trans; rotate_left; assumption)))))).mono ?_; rintro e w2 ⟨rfl, hb2⟩; (try clear k0 l0); obtain ⟨k0, l0⟩ := HBX.out w2 (by (with_reducible (repeat (first | exact Ext.refl _ | assumption | apply Ext.alloc | apply Ext.drew | exact ext_plus _ _ | (apply Ext.setCell; rotate_left; (simp <;> omega)) | (apply Ext.trans; rotate_left; exact ext_plus _ _) | (apply Ext.trans; rotate_left; assumption)))))) | (go_at_call 18; refine (HA.out _ (by (with_reducible (repeat (first | exact Ext.refl _ | assumption | apply Ext.alloc | apply Ext.drew | exact ext_plus _ _ | (apply Ext.setCell; rotate_left; (simp <;> omega)) | (apply Ext.trans; rotate_left; exact ext_plus _ _) | (apply Ext.trans; rotate_left; assumption)))))).mono ?_; rintro e w4 ⟨rfl, hb4⟩; (try clear k0 l0); obtain ⟨k0, l0⟩ := HBX.out w4 (by (with_reducible (repeat (first | exact Ext.refl _ | assumption | apply Ext.alloc | apply Ext.drew | exact ext_plus _ _ | (apply Ext.setCell; rotate_left; (simp <;> omega)) | (apply Ext.trans; rotate_left; exact ext_plus _ _) | (apply Ext.trans; rotate_left; assumption)))))) | (go_at_call 19; refine (HO.out _ (by (with_reducible (repeat (first | exact Ext.refl _ | assumption | apply Ext.alloc | apply Ext.drew | exact ext_plus _ _ | (apply Ext.setCell; rotate_left; (simp <;> omega)) | (apply Ext.trans; rotate_left; exact ext_plus _ _) | (apply Ext.trans; rotate_left; assumption)))))).mono ?_; rintro e w5 ⟨rfl, hb5⟩; (try clear k0 l0); obtain ⟨k0, l0⟩ := HBX.out w5 (by (with_reducible (repeat (first | exact Ext.refl _ | assumption | apply Ext.alloc | apply Ext.drew | exact ext_plus _ _ | (apply Ext.setCell; rotate_left; (simp <;> omega)) | (apply Ext.trans; rotate_left; exact ext_plus _ _) | (apply Ext.trans; rotate_left; assumption)))))) | (go_at_call 20; refine (HWE.out _ (by (with_reducible (repeat (first | exact Ext.refl _ | assumption | apply Ext.alloc | apply Ext.drew | exact ext_plus _ _ | (apply Ext.setCell; rotate_left; (simp <;> omega)) | (apply Ext.trans; rotate_left; exact ext_plus _ _) | (apply Ext.trans; rotate_left; assumption)))))).mono ?_; rintro e w8 ⟨rfl, hb8⟩; (try clear k0 l0); obtain ⟨k0, l0⟩ := HBX.out w8 (by (with_reducible (repeat (first | exact Ext.refl _ | assumption | apply Ext.alloc | apply Ext.drew | exact ext_plus _ _ | (apply Ext.setCell; rotate_left; (simp <;> omega)) | (apply Ext.trans; rotate_left; exact ext_plus _ _) | (apply Ext.trans; rotate_left; assumption)))))) | (go_at_call 16; refine (known_any _).mono ?_; rintro e wk ⟨rfl, hbk⟩))
            all_goals
              go_ret
              exact ⟨rfl, by (with_reducible (repeat (first | exact Ext.refl _ | assumption | apply Ext.alloc | apply Ext.drew | exact ext_plus _ _ | (apply Ext.setCell; rotate_left; (simp <;> omega)) | (apply Ext.trans; rotate_left; exact ext_plus _ _) | (apply Ext.trans; rotate_left; assumption))))⟩
          | true =>
            have hpo : playB c p b off wt.data.toList = true := by unfold playB; rw [hA, hO, hW]; rfl
            simp only [hW] at hwe
            have HWE := Lib.hid hwe
            rw [Bool.and_eq_true] at hA
            have O := C.ok_of hA.1
            obtain ⟨hp0, hp1, h2, h3⟩ := C.parts_of hA.2
            obtain ⟨ho0, ho1⟩ := C.off_of hO
            have hox : 0 ≤ off ∧ off ≤ 1000000 := by have := (pow_bd hn).2; omega
            obtain ⟨N, F, days, st, S, U, L, D, E, gs, gc, hh, hs, Q, hL, hdays, hled, hQ, hdz⟩ := led_of (off := off) O hp0 hp1 h2 h3 hn hW hsz
            have hpl := fun w' (hx : Ext w w') => play_good c p b off wt _ w' (hP.ext hx) (by omega) (by omega) hpo
            simp only [hled, hdays] at hpl
            have hpl2 : ∀ w', Ext w w' → Calls Try.prog 17 #[.agg (sysV c (.slice a1 c.loads.length c1)), .int .i64 p, .int .i64 b, .int .i64 off, .string wt] w' fun e w2 => ∃ v, e = .returned (.tuple #[v, .agg #[.int .i64 st, .int .i64 S, .int .i64 U, .int .i64 L, .int .i64 D, .int .i64 E], .int .i64 0]) ∧ Days w2 v days ∧ Ext w' w2 := hpl
            have hse := fun w' (hx : Ext w w') => dsets_any c _ w' (hP.ext hx) hn
            simp only [hQ] at hse
            have hlz : ((days.length : Int) != c.days) = false := by rw [hL.len, hdz]; simp
            have HSE := Lib.hid hse
            have HPL := Lib.hid hpl2
            have HL := Lib.hid hL
            have HP := Lib.hid hP
            have HOX := Lib.hid hox
            clear hse hpl hpl2 hL hdays hled hQ hdz hA hpo hO hW O hoff hwe hask ho0 ho1 hox hp0 hp1 h2 h3 hn hP
            go_enter Try.func4, Try.ntmps4
            go_upto_region 1 with (fail)
            rw [HW1.out]
            obtain ⟨k0, l0⟩ := HBX.out w1 (Ext.refl _)
            go_upto_region 4 with (first | (go_at_call 15; refine (HSH.out _ (by (with_reducible (repeat (first | exact Ext.refl _ | assumption | apply Ext.alloc | apply Ext.drew | exact ext_plus _ _ | (apply Ext.setCell; rotate_left; (simp <;> omega)) | (apply Ext.trans; rotate_left; exact ext_plus _ _) | (apply Ext.trans; rotate_left; assumption)))))).mono ?_; rintro e w2 ⟨rfl, hb2⟩; (try clear k0 l0); obtain ⟨k0, l0⟩ := HBX.out w2 (by (with_reducible (repeat (first | exact Ext.refl _ | assumption | apply Ext.alloc | apply Ext.drew | exact ext_plus _ _ | (apply Ext.setCell; rotate_left; (simp <;> omega)) | (apply Ext.trans; rotate_left; exact ext_plus _ _) | (apply Ext.trans; rotate_left; assumption)))))) | (go_at_call 18; refine (HA.out _ (by (with_reducible (repeat (first | exact Ext.refl _ | assumption | apply Ext.alloc | apply Ext.drew | exact ext_plus _ _ | (apply Ext.setCell; rotate_left; (simp <;> omega)) | (apply Ext.trans; rotate_left; exact ext_plus _ _) | (apply Ext.trans; rotate_left; assumption)))))).mono ?_; rintro e w4 ⟨rfl, hb4⟩; (try clear k0 l0); obtain ⟨k0, l0⟩ := HBX.out w4 (by (with_reducible (repeat (first | exact Ext.refl _ | assumption | apply Ext.alloc | apply Ext.drew | exact ext_plus _ _ | (apply Ext.setCell; rotate_left; (simp <;> omega)) | (apply Ext.trans; rotate_left; exact ext_plus _ _) | (apply Ext.trans; rotate_left; assumption)))))) | (go_at_call 19; refine (HO.out _ (by (with_reducible (repeat (first | exact Ext.refl _ | assumption | apply Ext.alloc | apply Ext.drew | exact ext_plus _ _ | (apply Ext.setCell; rotate_left; (simp <;> omega)) | (apply Ext.trans; rotate_left; exact ext_plus _ _) | (apply Ext.trans; rotate_left; assumption)))))).mono ?_; rintro e w5 ⟨rfl, hb5⟩; (try clear k0 l0); obtain ⟨k0, l0⟩ := HBX.out w5 (by (with_reducible (repeat (first | exact Ext.refl _ | assumption | apply Ext.alloc | apply Ext.drew | exact ext_plus _ _ | (apply Ext.setCell; rotate_left; (simp <;> omega)) | (apply Ext.trans; rotate_left; exact ext_plus _ _) | (apply Ext.trans; rotate_left; assumption)))))) | (go_at_call 20; refine (HWE.out _ (by (with_reducible (repeat (first | exact Ext.refl _ | assumption | apply Ext.alloc | apply Ext.drew | exact ext_plus _ _ | (apply Ext.setCell; rotate_left; (simp <;> omega)) | (apply Ext.trans; rotate_left; exact ext_plus _ _) | (apply Ext.trans; rotate_left; assumption)))))).mono ?_; rintro e w8 ⟨rfl, hb8⟩; (try clear k0 l0); obtain ⟨k0, l0⟩ := HBX.out w8 (by (with_reducible (repeat (first | exact Ext.refl _ | assumption | apply Ext.alloc | apply Ext.drew | exact ext_plus _ _ | (apply Ext.setCell; rotate_left; (simp <;> omega)) | (apply Ext.trans; rotate_left; exact ext_plus _ _) | (apply Ext.trans; rotate_left; assumption)))))) | (go_at_call 17; refine (HPL.out _ (by (with_reducible (repeat (first | exact Ext.refl _ | assumption | apply Ext.alloc | apply Ext.drew | exact ext_plus _ _ | (apply Ext.setCell; rotate_left; (simp <;> omega)) | (apply Ext.trans; rotate_left; exact ext_plus _ _) | (apply Ext.trans; rotate_left; assumption)))))).mono ?_; rintro e w3 ⟨v3, rfl, hv3, hb3⟩; obtain ⟨al, cl, rfl, _⟩ := id hv3; have HV3 := Lib.hid hv3; clear hv3; (try clear k0 l0); obtain ⟨k0, l0⟩ := HBX.out w3 (by (with_reducible (repeat (first | exact Ext.refl _ | assumption | apply Ext.alloc | apply Ext.drew | exact ext_plus _ _ | (apply Ext.setCell; rotate_left; (simp <;> omega)) | (apply Ext.trans; rotate_left; exact ext_plus _ _) | (apply Ext.trans; rotate_left; assumption)))))))
            have hbl := Blk.new w3 #[.int .i64 st, .int .i64 S, .int .i64 U, .int .i64 L, .int .i64 D, .int .i64 E] 29
            have hEv : Ext w3 (w3.alloc (.cells #[.int .i64 st, .int .i64 S, .int .i64 U, .int .i64 L, .int .i64 D, .int .i64 E] 29)) := (Ext.refl _).alloc _
            have hEwv : Ext w (w3.alloc (.cells #[.int .i64 st, .int .i64 S, .int .i64 U, .int .i64 L, .int .i64 D, .int .i64 E] 29)) := by (with_reducible (repeat (first | exact Ext.refl _ | assumption | apply Ext.alloc | apply Ext.drew | exact ext_plus _ _ | (apply Ext.setCell; rotate_left; (simp <;> omega)) | (apply Ext.trans; rotate_left; exact ext_plus _ _) | (apply Ext.trans; rotate_left; assumption))))
            have hE1v : Ext w1 (w3.alloc (.cells #[.int .i64 st, .int .i64 S, .int .i64 U, .int .i64 L, .int .i64 D, .int .i64 E] 29)) := by (with_reducible (repeat (first | exact Ext.refl _ | assumption | apply Ext.alloc | apply Ext.drew | exact ext_plus _ _ | (apply Ext.setCell; rotate_left; (simp <;> omega)) | (apply Ext.trans; rotate_left; exact ext_plus _ _) | (apply Ext.trans; rotate_left; assumption))))
            obtain ⟨wv, hwv⟩ : ∃ wv, w3.alloc (.cells #[.int .i64 st, .int .i64 S, .int .i64 U, .int .i64 L, .int .i64 D, .int .i64 E] 29) = wv := ⟨_, rfl⟩
            rw [hwv] at hbl hEv hEwv hE1v ⊢
            obtain ⟨nb, hnb⟩ : ∃ nb, w3.heap.size = nb := ⟨_, rfl⟩
            rw [hnb] at hbl ⊢
            have HLB := Lib.hid (fun y (hy : Ext wv y) => And.intro (hbl.ext hy).cell (hbl.ext hy).lt)
            clear hwv hnb hbl k0 l0
            obtain ⟨k0, l0⟩ := HBX.out wv hE1v
            go_upto_if 65 with (fail)
            rename Act → World → Prop => KK
            rename ∀ _ _, _ → KK _ _ => hKK
            have HKK := Lib.hid hKK
            clear hKK
            go_wp2
            exact HKK.out _ _ (led_tail4 c p b off wt N F days st S U L D E gs gc hh hs Q w w1 w3 a1 al c1 cl nb wv HL.out HP.out HV3.out hEv hEwv hE1v HOX.out HSE HBX HLB)
    · have hszi : (14 : Int) < (wt.size : Int) := by omega
      clear hsz
      go_enter Try.func4, Try.ntmps4
      go_upto_region 1 with (fail)
      rw [HW1.out]
      obtain ⟨k0, l0⟩ := HBX.out w1 (Ext.refl _)
      go_wp2_with (first | (go_at_call 15; refine (HSH.out _ (by (with_reducible (repeat (first | exact Ext.refl _ | assumption | apply Ext.alloc | apply Ext.drew | exact ext_plus _ _ | (apply Ext.setCell; rotate_left; (simp <;> omega)) | (apply Ext.trans; rotate_left; exact ext_plus _ _) | (apply Ext.trans; rotate_left; assumption)))))).mono ?_; rintro e w2 ⟨rfl, hb2⟩; (try clear k0 l0); obtain ⟨k0, l0⟩ := HBX.out w2 (by (with_reducible (repeat (first | exact Ext.refl _ | assumption | apply Ext.alloc | apply Ext.drew | exact ext_plus _ _ | (apply Ext.setCell; rotate_left; (simp <;> omega)) | (apply Ext.trans; rotate_left; exact ext_plus _ _) | (apply Ext.trans; rotate_left; assumption)))))) | (go_at_call 16; refine (known_any _).mono ?_; rintro e wk ⟨rfl, hbk⟩))
      all_goals
        go_ret
        exact ⟨rfl, by (with_reducible (repeat (first | exact Ext.refl _ | assumption | apply Ext.alloc | apply Ext.drew | exact ext_plus _ _ | (apply Ext.setCell; rotate_left; (simp <;> omega)) | (apply Ext.trans; rotate_left; exact ext_plus _ _) | (apply Ext.trans; rotate_left; assumption))))⟩
end Go.Proofs.Ytkjoojmlcjmlgaa
