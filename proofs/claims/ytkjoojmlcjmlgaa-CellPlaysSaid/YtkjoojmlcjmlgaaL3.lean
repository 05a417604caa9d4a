/- The law CellPlays. -/
import Derived.Test.YtkjoojmlcjmlgaaK3
import Derived.Test.YtkjoojmlcjmlgaaH5
import Derived.Test.YtkjoojmlcjmlgaaLa
namespace Go.Proofs.Ytkjoojmlcjmlgaa
set_option linter.unusedVariables false
set_option linter.unusedSimpArgs false
open Go.RowKit
theorem days_true (xs : List C.Day) (va vb : Value) (w : World) (hA : Days w va xs) (hB : Days w vb xs) (hn : xs.length ≤ 1000000) :
    Calls Try.prog 22 #[va, vb] w fun e w' => e = .returned (.bool true) ∧ Ext w w' := by
  refine (dsameDays_any xs xs va vb w hA hB hn hn).mono ?_
  rintro e w' ⟨rfl, h⟩
  exact ⟨by simp, h⟩
set_option maxRecDepth 100000 in
set_option maxHeartbeats 16000000 in
theorem cellPlays_law (c : C.Sys) (vl : Value) (p : Int) (hwfp : (Lit.int .i64 p).wf = true) (b : Int) (hwfb : (Lit.int .i64 b).wf = true) (off : Int) (hwfoff : (Lit.int .i64 off).wf = true) (wt : ByteArray) (w : World) (hP : Loads w vl c.loads) :
    Calls Try.prog 3 #[.agg (sysV c vl), .int .i64 p, .int .i64 b, .int .i64 off, .string wt] w fun e w' => e = .returned (.bool true) ∧ Ext w w' := by
  have hP' := hP
  obtain ⟨a1, c1, rfl, hPx⟩ := hP'
  have HPX := Lib.hid hPx
  clear hPx
  obtain ⟨w1, hw1⟩ : ∃ w1, w.alloc (.cells (sysV c (.slice a1 c.loads.length c1)) 24) = w1 := ⟨_, rfl⟩
  have hE1 : Ext w w1 := by rw [← hw1]; (with_reducible (repeat (first | exact Ext.refl _ | assumption | apply Ext.alloc | apply Ext.drew | exact ext_plus _ _ | (apply Ext.setCell; rotate_left; (simp <;> omega)) | (apply Ext.trans; rotate_left; exact ext_plus _ _) | (apply Ext.trans; rotate_left; assumption))))
  have hb0 : Blk w1 w.heap.size (sysV c (.slice a1 c.loads.length c1)) 24 := by rw [← hw1]; exact Blk.new' rfl _ _
  have hbx := fun y (hy : Ext w1 y) => (⟨(hb0.ext hy).cell, (hb0.ext hy).lt⟩ : (∀ o, y.cell? ⟨w.heap.size, o, none⟩ = _) ∧ w.heap.size < y.heap.size)
  have HBX := Lib.hid hbx
  have HW1 := Lib.hid hw1
  clear hw1 hb0 hbx
  have hsh := fun w' (hx : Ext w w') => short_all c _ w' (hP.ext hx)
  have hgd := ledger_guard
  obtain ⟨B, hB⟩ : ∃ B, decide (c.loads.length ≤ 10) = B := ⟨_, rfl⟩
  simp only [hB] at hsh
  have HSH := Lib.hid hsh
  clear hsh
  cases B with
  | false =>
    clear hB
    go_enter Try.func3, Try.ntmps3
    go_upto_region 1 with (fail)
    rw [HW1.out]
    obtain ⟨k0, l0⟩ := HBX.out w1 (Ext.refl _)
    go_wp2_with (first | (go_at_call 15; refine (HSH.out _ (by (with_reducible (repeat (first | exact Ext.refl _ | assumption | apply Ext.alloc | apply Ext.drew | exact ext_plus _ _ | (apply Ext.setCell; rotate_left; (simp <;> omega)) | (apply Ext.trans; rotate_left; exact ext_plus _ _) | (apply Ext.trans; rotate_left; assumption)))))).mono ?_; rintro e w2 ⟨rfl, hb2⟩; (try clear k0 l0); obtain ⟨k0, l0⟩ := HBX.out w2 (by (with_reducible (repeat (first | exact Ext.refl _ | assumption | apply Ext.alloc | apply Ext.drew | exact ext_plus _ _ | (apply Ext.setCell; rotate_left; (simp <;> omega)) | (apply Ext.trans; rotate_left; exact ext_plus _ _) | (apply Ext.trans; rotate_left; assumption)))))) | (go_at_call 16; refine (known_any _).mono ?_; rintro e wk ⟨rfl, hbk⟩))
    all_goals
      go_ret
      exact ⟨rfl, by (with_reducible (repeat (first | exact Ext.refl _ | assumption | apply Ext.alloc | apply Ext.drew | exact ext_plus _ _ | (apply Ext.setCell; rotate_left; (simp <;> omega)) | (apply Ext.trans; rotate_left; exact ext_plus _ _) | (apply Ext.trans; rotate_left; assumption))))⟩
  | true =>
    have hn : c.loads.length ≤ 10 := by simpa using hB
    clear hB
    by_cases hsz : wt.size ≤ 14
    · have hszi : ¬ (14 : Int) < (wt.size : Int) := by omega
      have hask := fun w' (hx : Ext w w') => asked_any c p b _ w' (hP.ext hx) (by omega)
      have hoff := fun w' (hx : Ext w w') => doff_any c off _ w' (hP.ext hx) hn
      have hwe := fun w' (_ : Ext w w') => dweather_any c wt (.slice a1 c.loads.length c1) ⟨_, _, _, rfl⟩ w' (by omega)
      cases hA : (C.sysB c && C.partsB p b) with
      | false =>
        have hpo : playB c p b off wt.data.toList = false := by unfold playB; rw [hA]; rfl
        have hcmp := ledger_eql C.noLedger
        simp only [hA] at hask
        have HA := Lib.hid hask
        have HPL := Lib.hid (fun w' (hx : Ext w w') => play_bad c p b off wt _ w' (hP.ext hx) (by omega) (by omega) hpo)
        clear hask hoff hwe hA hpo
        go_enter Try.func3, Try.ntmps3
        go_upto_region 1 with (fail)
        rw [HW1.out]
        obtain ⟨k0, l0⟩ := HBX.out w1 (Ext.refl _)
        go_wp2_with (first | (go_at_call 15; refine (HSH.out _ (by (with_reducible (repeat (first | exact Ext.refl _ | assumption | apply Ext.alloc | apply Ext.drew | exact ext_plus _ _ | (apply Ext.setCell; rotate_left; (simp <;> omega)) | (apply Ext.trans; rotate_left; exact ext_plus _ _) | (apply Ext.trans; rotate_left; assumption)))))).mono ?_; rintro e w2 ⟨rfl, hb2⟩; (try clear k0 l0); obtain ⟨k0, l0⟩ := HBX.out w2 (by (with_reducible (repeat (first | exact Ext.refl _ | assumption | apply Ext.alloc | apply Ext.drew | exact ext_plus _ _ | (apply Ext.setCell; rotate_left; (simp <;> omega)) | (apply Ext.trans; rotate_left; exact ext_plus _ _) | (apply Ext.trans; rotate_left; assumption)))))) | (go_at_call 17; refine (HPL.out _ (by (with_reducible (repeat (first | exact Ext.refl _ | assumption | apply Ext.alloc | apply Ext.drew | exact ext_plus _ _ | (apply Ext.setCell; rotate_left; (simp <;> omega)) | (apply Ext.trans; rotate_left; exact ext_plus _ _) | (apply Ext.trans; rotate_left; assumption)))))).mono ?_; rintro e w3 ⟨rfl, hb3⟩; have HB8 := Lib.hid (fun (y : World) (hy : Ext (w3.alloc (.cells (ledV C.noLedger) 29)) y) => And.intro (Blk.ext (Blk.new w3 (ledV C.noLedger) 29) hy).cell (Blk.ext (Blk.new w3 (ledV C.noLedger) 29) hy).lt); (try clear k0 l0); obtain ⟨k0, l0⟩ := HBX.out w3 (by (with_reducible (repeat (first | exact Ext.refl _ | assumption | apply Ext.alloc | apply Ext.drew | exact ext_plus _ _ | (apply Ext.setCell; rotate_left; (simp <;> omega)) | (apply Ext.trans; rotate_left; exact ext_plus _ _) | (apply Ext.trans; rotate_left; assumption)))))) | (go_at_call 18; refine (HA.out _ (by (with_reducible (repeat (first | exact Ext.refl _ | assumption | apply Ext.alloc | apply Ext.drew | exact ext_plus _ _ | (apply Ext.setCell; rotate_left; (simp <;> omega)) | (apply Ext.trans; rotate_left; exact ext_plus _ _) | (apply Ext.trans; rotate_left; assumption)))))).mono ?_; rintro e w4 ⟨rfl, hb4⟩; (try clear k0 l0); obtain ⟨k0, l0⟩ := HBX.out w4 (by (with_reducible (repeat (first | exact Ext.refl _ | assumption | apply Ext.alloc | apply Ext.drew | exact ext_plus _ _ | (apply Ext.setCell; rotate_left; (simp <;> omega)) | (apply Ext.trans; rotate_left; exact ext_plus _ _) | (apply Ext.trans; rotate_left; assumption))))); (try clear k2 k2l); (try (obtain ⟨k2, k2l⟩ := HB8.out w4 (by (with_reducible (repeat (first | exact Ext.refl _ | assumption | apply Ext.alloc | apply Ext.drew | exact ext_plus _ _ | (apply Ext.setCell; rotate_left; (simp <;> omega)) | (apply Ext.trans; rotate_left; exact ext_plus _ _) | (apply Ext.trans; rotate_left; assumption)))))))) | (go_at_call 16; refine (known_any _).mono ?_; rintro e wk ⟨rfl, hbk⟩))
        all_goals
          go_ret
          exact ⟨rfl, by (with_reducible (repeat (first | exact Ext.refl _ | assumption | apply Ext.alloc | apply Ext.drew | exact ext_plus _ _ | (apply Ext.setCell; rotate_left; (simp <;> omega)) | (apply Ext.trans; rotate_left; exact ext_plus _ _) | (apply Ext.trans; rotate_left; assumption))))⟩
      | true =>
        simp only [hA] at hask
        have HA := Lib.hid hask
        cases hO : C.offB c off with
        | false =>
          have hpo : playB c p b off wt.data.toList = false := by unfold playB; rw [hA, hO]; rfl
          have hcmp := ledger_eql C.noLedger
          simp only [hO] at hoff
          have HO := Lib.hid hoff
          have HPL := Lib.hid (fun w' (hx : Ext w w') => play_bad c p b off wt _ w' (hP.ext hx) (by omega) (by omega) hpo)
          clear hask hoff hwe hA hpo hO
          go_enter Try.func3, Try.ntmps3
          go_upto_region 1 with (fail)
          rw [HW1.out]
          obtain ⟨k0, l0⟩ := HBX.out w1 (Ext.refl _)
          go_wp2_with (first | (go_at_call 15; refine (HSH.out _ (by (with_reducible (repeat (first | exact Ext.refl _ | assumption | apply Ext.alloc | apply Ext.drew | exact ext_plus _ _ | (apply Ext.setCell; rotate_left; (simp <;> omega)) | (apply Ext.trans; rotate_left; exact ext_plus _ _) | (apply Ext.trans; rotate_left; assumption)))))).mono ?_; rintro e w2 ⟨rfl, hb2⟩; (try clear k0 l0); obtain ⟨k0, l0⟩ := HBX.out w2 (by (with_reducible (repeat (first | exact Ext.refl _ | assumption | apply Ext.alloc | apply Ext.drew | exact ext_plus _ _ | (apply Ext.setCell; rotate_left; (simp <;> omega)) | (apply Ext.trans; rotate_left; exact ext_plus _ _) | (apply Ext.trans; rotate_left; assumption)))))) | (go_at_call 17; refine (HPL.out _ (by (with_reducible (repeat (first | exact Ext.refl _ | assumption | apply Ext.alloc | apply Ext.drew | exact ext_plus _ _ | (apply Ext.setCell; rotate_left; (simp <;> omega)) | (apply Ext.trans; rotate_left; exact ext_plus _ _) | (apply Ext.trans; rotate_left; assumption)))))).mono ?_; rintro e w3 ⟨rfl, hb3⟩; have HB8 := Lib.hid (fun (y : World) (hy : Ext (w3.alloc (.cells (ledV C.noLedger) 29)) y) => And.intro (Blk.ext (Blk.new w3 (ledV C.noLedger) 29) hy).cell (Blk.ext (Blk.new w3 (ledV C.noLedger) 29) hy).lt); (try clear k0 l0); obtain ⟨k0, l0⟩ := HBX.out w3 (by (with_reducible (repeat (first | exact Ext.refl _ | assumption | apply Ext.alloc | apply Ext.drew | exact ext_plus _ _ | (apply Ext.setCell; rotate_left; (simp <;> omega)) | (apply Ext.trans; rotate_left; exact ext_plus _ _) | (apply Ext.trans; rotate_left; assumption)))))) | (go_at_call 18; refine (HA.out _ (by (with_reducible (repeat (first | exact Ext.refl _ | assumption | apply Ext.alloc | apply Ext.drew | exact ext_plus _ _ | (apply Ext.setCell; rotate_left; (simp <;> omega)) | (apply Ext.trans; rotate_left; exact ext_plus _ _) | (apply Ext.trans; rotate_left; assumption)))))).mono ?_; rintro e w4 ⟨rfl, hb4⟩; (try clear k0 l0); obtain ⟨k0, l0⟩ := HBX.out w4 (by (with_reducible (repeat (first | exact Ext.refl _ | assumption | apply Ext.alloc | apply Ext.drew | exact ext_plus _ _ | (apply Ext.setCell; rotate_left; (simp <;> omega)) | (apply Ext.trans; rotate_left; exact ext_plus _ _) | (apply Ext.trans; rotate_left; assumption))))); (try clear k2 k2l); (try (obtain ⟨k2, k2l⟩ := HB8.out w4 (by (with_reducible (repeat (first | exact Ext.refl _ | assumption | apply Ext.alloc | apply Ext.drew | exact ext_plus _ _ | (apply Ext.setCell; rotate_left; (simp <;> omega)) | (apply Ext.trans; rotate_left; exact ext_plus _ _) | (apply Ext.trans; rotate_left; assumption)))))))) | (go_at_call 19; refine (HO.out _ (by (with_reducible (repeat (first | exact Ext.refl _ | assumption | apply Ext.alloc | apply Ext.drew | exact ext_plus _ _ | (apply Ext.setCell; rotate_left; (simp <;> omega)) | (apply Ext.trans; rotate_left; exact ext_plus _ _) | (apply Ext.trans; rotate_left; assumption)))))).mono ?_; rintro e w5 ⟨rfl, hb5⟩; (try clear k0 l0); obtain ⟨k0, l0⟩ := HBX.out w5 (by (with_reducible (repeat (first | exact Ext.refl _ | assumption | apply Ext.alloc | apply Ext.drew | exact ext_plus _ _ | (apply Ext.setCell; rotate_left; (simp <;> omega)) | (apply Ext.trans; rotate_left; exact ext_plus _ _) | (apply Ext.trans; rotate_left; assumption))))); (try clear k2 k2l); (try (obtain ⟨k2, k2l⟩ := HB8.out w5 (by (with_reducible (repeat (first | exact Ext.refl _ | assumption | apply Ext.alloc | apply Ext.drew | exact ext_plus _ _ | (apply Ext.setCell; rotate_left; (simp <;> omega)) | (apply Ext.trans; rotate_left; exact ext_plus _ _) | (apply Ext.trans; rotate_left; assumption)))))))) | (go_at_call 16; refine (known_any _).mono ?_; rintro e wk ⟨rfl, hbk⟩))
          all_goals
            go_ret
            exact ⟨rfl, by (with_reducible (repeat (first | exact Ext.refl _ | assumption | apply Ext.alloc | apply Ext.drew | exact ext_plus _ _ | (apply Ext.setCell; rotate_left; (simp <;> omega)) | (apply Ext.trans; rotate_left; exact ext_plus _ _) | (apply Ext.trans; rotate_left; assumption))))⟩
        | true =>
          simp only [hO] at hoff
          have HO := Lib.hid hoff
          cases hW : C.weatherB c wt.data.toList with
          | false =>
            have hpo : playB c p b off wt.data.toList = false := by unfold playB; rw [hA, hO, hW]; rfl
            have hcmp := ledger_eql C.noLedger
            simp only [hW] at hwe
            have HWE := Lib.hid hwe
            have HPL := Lib.hid (fun w' (hx : Ext w w') => play_bad c p b off wt _ w' (hP.ext hx) (by omega) (by omega) hpo)
            clear hask hoff hwe hA hpo hO hW
            go_enter Try.func3, Try.ntmps3
            go_upto_region 1 with (fail)
            rw [HW1.out]
            obtain ⟨k0, l0⟩ := HBX.out w1 (Ext.refl _)
            go_wp2_with (first | (go_at_call 15; refine (HSH.out _ (by (with_reducible (repeat (first | exact Ext.refl _ | assumption | apply Ext.alloc | apply Ext.drew | exact ext_plus _ _ | (apply Ext.setCell; rotate_left; (simp <;> omega)) | (apply Ext.trans; rotate_left; exact ext_plus _ _) | (apply Ext.trans; rotate_left; assumption)))))).mono ?_; rintro e w2 ⟨rfl, hb2⟩; (try clear k0 l0); obtain ⟨k0, l0⟩ := HBX.out w2 (by (with_reducible (repeat (first | exact Ext.refl _ | assumption | apply Ext.alloc | apply Ext.drew | exact ext_plus _ _ | (apply Ext.setCell; rotate_left; (simp <;> omega)) | (apply Ext.trans; rotate_left; exact ext_plus _ _) | (apply Ext.trans; rotate_left; assumption)))))) | (go_at_call 17; refine (HPL.out _ (by (with_reducible (repeat (first | exact Ext.refl _ | assumption | apply Ext.alloc | apply Ext.drew | exact ext_plus _ _ | (apply Ext.setCell; rotate_left; (simp <;> omega)) | (apply Ext.trans; rotate_left; exact ext_plus _ _) | (apply Ext.trans; rotate_left; assumption)))))).mono ?_; rintro e w3 ⟨rfl, hb3⟩; have HB8 := Lib.hid (fun (y : World) (hy : Ext (w3.alloc (.cells (ledV C.noLedger) 29)) y) => And.intro (Blk.ext (Blk.new w3 (ledV C.noLedger) 29) hy).cell (Blk.ext (Blk.new w3 (ledV C.noLedger) 29) hy).lt); (try clear k0 l0); obtain ⟨k0, l0⟩ := HBX.out w3 (by (with_reducible (repeat (first | exact Ext.refl _ | assumption | apply Ext.alloc | apply Ext.drew | exact ext_plus _ _ | (apply Ext.setCell; rotate_left; (simp <;> omega)) | (apply Ext.trans; rotate_left; exact ext_plus _ _) | (apply Ext.trans; rotate_left; assumption)))))) | (go_at_call 18; refine (HA.out _ (by (with_reducible (repeat (first | exact Ext.refl _ | assumption | apply Ext.alloc | apply Ext.drew | exact ext_plus _ _ | (apply Ext.setCell; rotate_left; (simp <;> omega)) | (apply Ext.trans; rotate_left; exact ext_plus _ _) | (apply Ext.trans; rotate_left; assumption)))))).mono ?_; rintro e w4 ⟨rfl, hb4⟩; (try clear k0 l0); obtain ⟨k0, l0⟩ := HBX.out w4 (by (with_reducible (repeat (first | exact Ext.refl _ | assumption | apply Ext.alloc | apply Ext.drew | exact ext_plus _ _ | (apply Ext.setCell; rotate_left; (simp <;> omega)) | (apply Ext.trans; rotate_left; exact ext_plus _ _) | (apply Ext.trans; rotate_left; assumption))))); (try clear k2 k2l); (try (obtain ⟨k2, k2l⟩ := HB8.out w4 (by (with_reducible (repeat (first | exact Ext.refl _ | assumption | apply Ext.alloc | apply Ext.drew | exact ext_plus _ _ | (apply Ext.setCell; rotate_left; (simp <;> omega)) | (apply Ext.trans; rotate_left; exact ext_plus _ _) | (apply Ext.trans; rotate_left; assumption)))))))) | (go_at_call 19; refine (HO.out _ (by (with_reducible (repeat (first | exact Ext.refl _ | assumption | apply Ext.alloc | apply Ext.drew | exact ext_plus _ _ | (apply Ext.setCell; rotate_left; (simp <;> omega)) | (apply Ext.trans; rotate_left; exact ext_plus _ _) | (apply Ext.trans; rotate_left; assumption)))))).mono ?_; rintro e w5 ⟨rfl, hb5⟩; (try clear k0 l0); obtain ⟨k0, l0⟩ := HBX.out w5 (by (with_reducible (repeat (first | exact Ext.refl _ | assumption | apply Ext.alloc | apply Ext.drew | exact ext_plus _ _ | (apply Ext.setCell; rotate_left; (simp <;> omega)) | (apply Ext.trans; rotate_left; exact ext_plus _ _) | (apply Ext.trans; rotate_left; assumption))))); (try clear k2 k2l); (try (obtain ⟨k2, k2l⟩ := HB8.out w5 (by (with_reducible (repeat (first | exact Ext.refl _ | assumption | apply Ext.alloc | apply Ext.drew | exact ext_plus _ _ | (apply Ext.setCell; rotate_left; (simp <;> omega)) | (apply Ext.trans; rotate_left; exact ext_plus _ _) | (apply Ext.trans; rotate_left; assumption)))))))) | (go_at_call 20; refine (HWE.out _ (by (with_reducible (repeat (first | exact Ext.refl _ | assumption | apply Ext.alloc | apply Ext.drew | exact ext_plus _ _ | (apply Ext.setCell; rotate_left; (simp <;> omega)) | (apply Ext.trans; rotate_left; exact ext_plus _ _) | (apply Ext.trans; rotate_left; assumption)))))).mono ?_; rintro e w8 ⟨rfl, hb8⟩; (try clear k0 l0); obtain ⟨k0, l0⟩ := HBX.out w8 (by (with_reducible (repeat (first | exact Ext.refl _ | assumption | apply Ext.alloc | apply Ext.drew | exact ext_plus _ _ | (apply Ext.setCell; rotate_left; (simp <;> omega)) | (apply Ext.trans; rotate_left; exact ext_plus _ _) | (apply Ext.trans; rotate_left; assumption))))); (try clear k2 k2l); (try (obtain ⟨k2, k2l⟩ := HB8.out w8 (by (with_reducible (repeat (first | exact Ext.refl _ | assumption | apply Ext.alloc | apply Ext.drew | exact ext_plus _ _ | (apply Ext.setCell; rotate_left; (simp <;> omega)) | (apply Ext.trans; rotate_left; exact ext_plus _ _) | (apply Ext.trans; rotate_left; assumption)))))))) | (go_at_call 16; refine (known_any _).mono ?_; rintro e wk ⟨rfl, hbk⟩))
            all_goals
              go_ret
              exact ⟨rfl, by (with_reducible (repeat (first | exact Ext.refl _ | assumption | apply Ext.alloc | apply Ext.drew | exact ext_plus _ _ | (apply Ext.setCell; rotate_left; (simp <;> omega)) | (apply Ext.trans; rotate_left; exact ext_plus _ _) | (apply Ext.trans; rotate_left; assumption))))⟩
          | true =>
            have hpo : playB c p b off wt.data.toList = true := by unfold playB; rw [hA, hO, hW]; rfl
            simp only [hW] at hwe
            have HWE := Lib.hid hwe
            rw [Bool.and_eq_true] at hA
            have O := C.ok_of hA.1
            obtain ⟨hp0, hp1, h2, h3⟩ := C.parts_of hA.2
            obtain ⟨ho0, ho1⟩ := C.off_of hO
            have hpl := fun w' (hx : Ext w w') => play_good c p b off wt _ w' (hP.ext hx) (by omega) (by omega) hpo
            have hrn := fun w' (hx : Ext w w') => drun_any c p b off wt _ w' (hP.ext hx) O hp0 hp1 h2 h3 ho0 ho1 (by omega)
            obtain ⟨led, hled⟩ : ∃ led, C.ledger c p b off wt.data.toList = led := ⟨_, rfl⟩
            obtain ⟨days, hdays⟩ : ∃ days, C.run c p b off wt.data.toList = days := ⟨_, rfl⟩
            have hld : days.length ≤ 1000000 := by
              rw [← hdays]
              have : (C.run c p b off wt.data.toList).length = wt.size := by unfold C.run; simp
              omega
            have hcmp := ledger_eql led
            simp only [hled, hdays] at hpl hrn
            have hrn2 : ∀ w', Ext w w' → Calls Try.prog 21 #[.agg (sysV c (.slice a1 c.loads.length c1)), .int .i64 p, .int .i64 b, .int .i64 off, .string wt] w' fun e w2 => ∃ v, e = .returned (.tuple #[v, .agg (ledV led)]) ∧ Days w2 v days ∧ Ext w' w2 := fun w' hx => (hrn w' hx).mono fun e w2 ⟨v, h1, h2, h3, _⟩ => ⟨v, h1, h2, h3⟩
            have HPL := Lib.hid hpl
            have HR := Lib.hid hrn2
            have HLD := Lib.hid hld
            clear hask hoff hwe hA hpo hO hW hpl hrn hrn2 hld hled hdays O hp0 hp1 h2 h3 ho0 ho1
            go_enter Try.func3, Try.ntmps3
            go_upto_region 1 with (fail)
            rw [HW1.out]
            obtain ⟨k0, l0⟩ := HBX.out w1 (Ext.refl _)
            go_wp2_with (first | (go_at_call 15; refine (HSH.out _ (by (with_reducible (repeat (first | exact Ext.refl _ | assumption | apply Ext.alloc | apply Ext.drew | exact ext_plus _ _ | (apply Ext.setCell; rotate_left; (simp <;> omega)) | (apply Ext.trans; rotate_left; exact ext_plus _ _) | (apply Ext.trans; rotate_left; assumption)))))).mono ?_; rintro e w2 ⟨rfl, hb2⟩; (try clear k0 l0); obtain ⟨k0, l0⟩ := HBX.out w2 (by (with_reducible (repeat (first | exact Ext.refl _ | assumption | apply Ext.alloc | apply Ext.drew | exact ext_plus _ _ | (apply Ext.setCell; rotate_left; (simp <;> omega)) | (apply Ext.trans; rotate_left; exact ext_plus _ _) | (apply Ext.trans; rotate_left; assumption)))))) | (go_at_call 17; refine (HPL.out _ (by (with_reducible (repeat (first | exact Ext.refl _ | assumption | apply Ext.alloc | apply Ext.drew | exact ext_plus _ _ | (apply Ext.setCell; rotate_left; (simp <;> omega)) | (apply Ext.trans; rotate_left; exact ext_plus _ _) | (apply Ext.trans; rotate_left; assumption)))))).mono ?_; rintro e w3 ⟨v3, rfl, hv3, hb3⟩; obtain ⟨al, cl, rfl, _⟩ := id hv3; have HV3 := Lib.hid hv3; clear hv3; have HB8 := Lib.hid (fun (y : World) (hy : Ext (w3.alloc (.cells (ledV led) 29)) y) => And.intro (Blk.ext (Blk.new w3 (ledV led) 29) hy).cell (Blk.ext (Blk.new w3 (ledV led) 29) hy).lt); (try clear k0 l0); obtain ⟨k0, l0⟩ := HBX.out w3 (by (with_reducible (repeat (first | exact Ext.refl _ | assumption | apply Ext.alloc | apply Ext.drew | exact ext_plus _ _ | (apply Ext.setCell; rotate_left; (simp <;> omega)) | (apply Ext.trans; rotate_left; exact ext_plus _ _) | (apply Ext.trans; rotate_left; assumption)))))) | (go_at_call 18; refine (HA.out _ (by (with_reducible (repeat (first | exact Ext.refl _ | assumption | apply Ext.alloc | apply Ext.drew | exact ext_plus _ _ | (apply Ext.setCell; rotate_left; (simp <;> omega)) | (apply Ext.trans; rotate_left; exact ext_plus _ _) | (apply Ext.trans; rotate_left; assumption)))))).mono ?_; rintro e w4 ⟨rfl, hb4⟩; (try clear k0 l0); obtain ⟨k0, l0⟩ := HBX.out w4 (by (with_reducible (repeat (first | exact Ext.refl _ | assumption | apply Ext.alloc | apply Ext.drew | exact ext_plus _ _ | (apply Ext.setCell; rotate_left; (simp <;> omega)) | (apply Ext.trans; rotate_left; exact ext_plus _ _) | (apply Ext.trans; rotate_left; assumption))))); (try clear k2 k2l); (try (obtain ⟨k2, k2l⟩ := HB8.out w4 (by (with_reducible (repeat (first | exact Ext.refl _ | assumption | apply Ext.alloc | apply Ext.drew | exact ext_plus _ _ | (apply Ext.setCell; rotate_left; (simp <;> omega)) | (apply Ext.trans; rotate_left; exact ext_plus _ _) | (apply Ext.trans; rotate_left; assumption)))))))) | (go_at_call 19; refine (HO.out _ (by (with_reducible (repeat (first | exact Ext.refl _ | assumption | apply Ext.alloc | apply Ext.drew | exact ext_plus _ _ | (apply Ext.setCell; rotate_left; (simp <;> omega)) | (apply Ext.trans; rotate_left; exact ext_plus _ _) | (apply Ext.trans; rotate_left; assumption)))))).mono ?_; rintro e w5 ⟨rfl, hb5⟩; (try clear k0 l0); obtain ⟨k0, l0⟩ := HBX.out w5 (by (with_reducible (repeat (first | exact Ext.refl _ | assumption | apply Ext.alloc | apply Ext.drew | exact ext_plus _ _ | (apply Ext.setCell; rotate_left; (simp <;> omega)) | (apply Ext.trans; rotate_left; exact ext_plus _ _) | (apply Ext.trans; rotate_left; assumption))))); (try clear k2 k2l); (try (obtain ⟨k2, k2l⟩ := HB8.out w5 (by (with_reducible (repeat (first | exact Ext.refl _ | assumption | apply Ext.alloc | apply Ext.drew | exact ext_plus _ _ | (apply Ext.setCell; rotate_left; (simp <;> omega)) | (apply Ext.trans; rotate_left; exact ext_plus _ _) | (apply Ext.trans; rotate_left; assumption)))))))) | (go_at_call 20; refine (HWE.out _ (by (with_reducible (repeat (first | exact Ext.refl _ | assumption | apply Ext.alloc | apply Ext.drew | exact ext_plus _ _ | (apply Ext.setCell; rotate_left; (simp <;> omega)) | (apply Ext.trans; rotate_left; exact ext_plus _ _) | (apply Ext.trans; rotate_left; assumption)))))).mono ?_; rintro e w8 ⟨rfl, hb8⟩; (try clear k0 l0); obtain ⟨k0, l0⟩ := HBX.out w8 (by (with_reducible (repeat (first | exact Ext.refl _ | assumption | apply Ext.alloc | apply Ext.drew | exact ext_plus _ _ | (apply Ext.setCell; rotate_left; (simp <;> omega)) | (apply Ext.trans; rotate_left; exact ext_plus _ _) | (apply Ext.trans; rotate_left; assumption))))); (try clear k2 k2l); (try (obtain ⟨k2, k2l⟩ := HB8.out w8 (by (with_reducible (repeat (first | exact Ext.refl _ | assumption | apply Ext.alloc | apply Ext.drew | exact ext_plus _ _ | (apply Ext.setCell; rotate_left; (simp <;> omega)) | (apply Ext.trans; rotate_left; exact ext_plus _ _) | (apply Ext.trans; rotate_left; assumption)))))))) | (go_at_call 21; refine (HR.out _ (by (with_reducible (repeat (first | exact Ext.refl _ | assumption | apply Ext.alloc | apply Ext.drew | exact ext_plus _ _ | (apply Ext.setCell; rotate_left; (simp <;> omega)) | (apply Ext.trans; rotate_left; exact ext_plus _ _) | (apply Ext.trans; rotate_left; assumption)))))).mono ?_; rintro e w6 ⟨v6, rfl, hv6, hb6⟩; obtain ⟨ar, cr, rfl, _⟩ := id hv6; have HV6 := Lib.hid hv6; clear hv6; have HB9 := Lib.hid (fun (y : World) (hy : Ext (w6.alloc (.cells (ledV led) 29)) y) => And.intro (Blk.ext (Blk.new w6 (ledV led) 29) hy).cell (Blk.ext (Blk.new w6 (ledV led) 29) hy).lt); (try clear k0 l0); obtain ⟨k0, l0⟩ := HBX.out w6 (by (with_reducible (repeat (first | exact Ext.refl _ | assumption | apply Ext.alloc | apply Ext.drew | exact ext_plus _ _ | (apply Ext.setCell; rotate_left; (simp <;> omega)) | (apply Ext.trans; rotate_left; exact ext_plus _ _) | (apply Ext.trans; rotate_left; assumption))))); (try clear k2 k2l); (try (obtain ⟨k2, k2l⟩ := HB8.out w6 (by (with_reducible (repeat (first | exact Ext.refl _ | assumption | apply Ext.alloc | apply Ext.drew | exact ext_plus _ _ | (apply Ext.setCell; rotate_left; (simp <;> omega)) | (apply Ext.trans; rotate_left; exact ext_plus _ _) | (apply Ext.trans; rotate_left; assumption)))))))) | (go_at_call 22; refine (days_true days _ _ _ (HV3.out.ext (by (with_reducible (repeat (first | exact Ext.refl _ | assumption | apply Ext.alloc | apply Ext.drew | exact ext_plus _ _ | (apply Ext.setCell; rotate_left; (simp <;> omega)) | (apply Ext.trans; rotate_left; exact ext_plus _ _) | (apply Ext.trans; rotate_left; assumption)))))) (HV6.out.ext (by (with_reducible (repeat (first | exact Ext.refl _ | assumption | apply Ext.alloc | apply Ext.drew | exact ext_plus _ _ | (apply Ext.setCell; rotate_left; (simp <;> omega)) | (apply Ext.trans; rotate_left; exact ext_plus _ _) | (apply Ext.trans; rotate_left; assumption)))))) HLD.out).mono ?_; rintro e w7 ⟨rfl, hb7⟩; (try clear k0 l0); obtain ⟨k0, l0⟩ := HBX.out w7 (by (with_reducible (repeat (first | exact Ext.refl _ | assumption | apply Ext.alloc | apply Ext.drew | exact ext_plus _ _ | (apply Ext.setCell; rotate_left; (simp <;> omega)) | (apply Ext.trans; rotate_left; exact ext_plus _ _) | (apply Ext.trans; rotate_left; assumption))))); (try clear k2 k2l); (try (obtain ⟨k2, k2l⟩ := HB8.out w7 (by (with_reducible (repeat (first | exact Ext.refl _ | assumption | apply Ext.alloc | apply Ext.drew | exact ext_plus _ _ | (apply Ext.setCell; rotate_left; (simp <;> omega)) | (apply Ext.trans; rotate_left; exact ext_plus _ _) | (apply Ext.trans; rotate_left; assumption))))))); (try clear k3 k3l); (try (obtain ⟨k3, k3l⟩ := HB9.out w7 (by (with_reducible (repeat (first | exact Ext.refl _ | assumption | apply Ext.alloc | apply Ext.drew | exact ext_plus _ _ | (apply Ext.setCell; rotate_left; (simp <;> omega)) | (apply Ext.trans; rotate_left; exact ext_plus _ _) | (apply Ext.trans; rotate_left; assumption)))))))) | (go_at_call 16; refine (known_any _).mono ?_; rintro e wk ⟨rfl, hbk⟩))
            all_goals
              go_ret
              exact ⟨rfl, by (with_reducible (repeat (first | exact Ext.refl _ | assumption | apply Ext.alloc | apply Ext.drew | exact ext_plus _ _ | (apply Ext.setCell; rotate_left; (simp <;> omega)) | (apply Ext.trans; rotate_left; exact ext_plus _ _) | (apply Ext.trans; rotate_left; assumption))))⟩
    · have hszi : (14 : Int) < (wt.size : Int) := by omega
      clear hsz
      go_enter Try.func3, Try.ntmps3
      go_upto_region 1 with (fail)
      rw [HW1.out]
      obtain ⟨k0, l0⟩ := HBX.out w1 (Ext.refl _)
      go_wp2_with (first | (go_at_call 15; refine (HSH.out _ (by (with_reducible (repeat (first | exact Ext.refl _ | assumption | apply Ext.alloc | apply Ext.drew | exact ext_plus _ _ | (apply Ext.setCell; rotate_left; (simp <;> omega)) | (apply Ext.trans; rotate_left; exact ext_plus _ _) | (apply Ext.trans; rotate_left; assumption)))))).mono ?_; rintro e w2 ⟨rfl, hb2⟩; (try clear k0 l0); obtain ⟨k0, l0⟩ := HBX.out w2 (by (with_reducible (repeat (first | exact Ext.refl _ | assumption | apply Ext.alloc | apply Ext.drew | exact ext_plus _ _ | (apply Ext.setCell; rotate_left; (simp <;> omega)) | (apply Ext.trans; rotate_left; exact ext_plus _ _) | (apply Ext.trans; rotate_left; assumption)))))) | (go_at_call 16; refine (known_any _).mono ?_; rintro e wk ⟨rfl, hbk⟩))
      all_goals
        go_ret
        exact ⟨rfl, by (with_reducible (repeat (first | exact Ext.refl _ | assumption | apply Ext.alloc | apply Ext.drew | exact ext_plus _ _ | (apply Ext.setCell; rotate_left; (simp <;> omega)) | (apply Ext.trans; rotate_left; exact ext_plus _ _) | (apply Ext.trans; rotate_left; assumption))))⟩
end Go.Proofs.Ytkjoojmlcjmlgaa
