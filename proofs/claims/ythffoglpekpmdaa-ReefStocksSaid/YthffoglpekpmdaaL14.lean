/- The law ReefStocks. -/
import Derived.Test.YthffoglpekpmdaaK2
import Derived.Test.YthffoglpekpmdaaD8
import Derived.Test.YthffoglpekpmdaaD11
namespace Go.Proofs.Ythffoglpekpmdaa
set_option linter.unusedVariables false
set_option linter.unusedSimpArgs false
open Go.RowKit
set_option maxRecDepth 100000 in
set_option maxHeartbeats 16000000 in
theorem reefStocks_law (r : R.Reef) (vr : Value) (plan : List Int) (vp : Value) (w : World) (hP : Places w vr r.places) (hL : Ints w vp plan) :
    Calls Try.prog 14 #[.agg (reefV r vr), vp] w fun e w' => e = .returned (.bool true) ∧ Ext w w' := by
  have hP' := hP
  have hL' := hL
  obtain ⟨a1, c1, rfl, hPx⟩ := hP'
  obtain ⟨a2, c2, rfl, hLx⟩ := hL'
  have HPX := Lib.hid hPx
  have HLX := Lib.hid hLx
  clear hPx hLx
  obtain ⟨w1, hw1⟩ : ∃ w1, (w.alloc (.cells (reefV r (.slice a1 r.places.length c1)) 24)) = w1 := ⟨_, rfl⟩
  have hE1 : Ext w w1 := by rw [← hw1]; (with_reducible (repeat (first | exact Ext.refl _ | assumption | apply Ext.alloc | apply Ext.drew | exact ext_plus _ _ | (apply Ext.setCell; rotate_left; (simp <;> omega)) | (apply Ext.trans; rotate_left; exact ext_plus _ _) | (apply Ext.trans; rotate_left; assumption))))
  have hb0 : Blk w1 (w.heap.size) (reefV r (.slice a1 r.places.length c1)) 24 := by rw [← hw1]; exact Blk.new' rfl _ _
  have hbx := fun y (hy : Ext w1 y) => (⟨(hb0.ext hy).cell, (hb0.ext hy).lt⟩ : (∀ o, y.cell? ⟨w.heap.size, o, none⟩ = _) ∧ w.heap.size < y.heap.size)
  have HBX := Lib.hid hbx
  have HW1 := Lib.hid hw1
  clear hw1 hb0 hbx
  have hs := fun w' (hx : Ext w w') => short_any r _ w' (hP.ext hx)
  by_cases hsh : shortR r = true
  · rw [hsh] at hs
    have HS := Lib.hid hs
    clear hs
    by_cases hpl : plan.length ≤ 8
    · have hpi : ¬ (8 : Int) < plan.length := by omega
      have hn8 : r.places.length ≤ 8 := by simpa [shortR] using hsh
      have hask := fun w' (hx : Ext w w') => asked_any r plan _ _ w' (hP.ext hx) (hL.ext hx) hn8 (by omega)
      have hck := fun w' (hx : Ext w w') => check_any r _ w' (hP.ext hx) (by omega)
      have hrf := fun w' (hx : Ext w w') => dreef_any r _ w' (hP.ext hx) (by omega)
      have hst := fun w' (hx : Ext w w') => stocksQ_any r plan _ _ w' (hP.ext hx) (hL.ext hx) (by omega) (by omega)
      have hct := fun w' (hx : Ext w w') => counts_any r plan _ _ w' (hP.ext hx) (hL.ext hx) (by omega) (by omega)
      cases hA : rightB r plan with
      | false =>
        rw [hA] at hask hst hct
        simp only [Bool.false_eq_true, if_false, show codeOf false = 2 from rfl] at hst hct
        have HA := Lib.hid hask
        have HST := Lib.hid hst
        have HCT := Lib.hid hct
        cases hB : R.reefB r with
        | false =>
          rw [hB] at hrf
          simp only [hB, Bool.false_eq_true, if_false] at hck
          have HRF := Lib.hid hrf
          have HCK := Lib.hid hck
          clear hask hst hct hrf hck hA hB hsh
          go_enter Try.func14, Try.ntmps14
          go_upto_region 1 with (fail)
          rw [HW1.out]
          obtain ⟨k0, l0⟩ := HBX.out w1 (Ext.refl _)
          go_wp2_with (first | (go_at_call 15; refine (HS.out _ (by (with_reducible (repeat (first | exact Ext.refl _ | assumption | apply Ext.alloc | apply Ext.drew | exact ext_plus _ _ | (apply Ext.setCell; rotate_left; (simp <;> omega)) | (apply Ext.trans; rotate_left; exact ext_plus _ _) | (apply Ext.trans; rotate_left; assumption)))))).mono ?_; rintro e w2 ⟨rfl, hb2⟩; (try clear k0 l0); obtain ⟨k0, l0⟩ := HBX.out w2 (by (with_reducible (repeat (first | exact Ext.refl _ | assumption | apply Ext.alloc | apply Ext.drew | exact ext_plus _ _ | (apply Ext.setCell; rotate_left; (simp <;> omega)) | (apply Ext.trans; rotate_left; exact ext_plus _ _) | (apply Ext.trans; rotate_left; assumption)))))) | (go_at_call 45; refine (HCK.out _ (by (with_reducible (repeat (first | exact Ext.refl _ | assumption | apply Ext.alloc | apply Ext.drew | exact ext_plus _ _ | (apply Ext.setCell; rotate_left; (simp <;> omega)) | (apply Ext.trans; rotate_left; exact ext_plus _ _) | (apply Ext.trans; rotate_left; assumption)))))).mono ?_; rintro e w3 ⟨rfl, hb3⟩; (try clear k0 l0); obtain ⟨k0, l0⟩ := HBX.out w3 (by (with_reducible (repeat (first | exact Ext.refl _ | assumption | apply Ext.alloc | apply Ext.drew | exact ext_plus _ _ | (apply Ext.setCell; rotate_left; (simp <;> omega)) | (apply Ext.trans; rotate_left; exact ext_plus _ _) | (apply Ext.trans; rotate_left; assumption)))))) | (go_at_call 41; refine (HST.out _ (by (with_reducible (repeat (first | exact Ext.refl _ | assumption | apply Ext.alloc | apply Ext.drew | exact ext_plus _ _ | (apply Ext.setCell; rotate_left; (simp <;> omega)) | (apply Ext.trans; rotate_left; exact ext_plus _ _) | (apply Ext.trans; rotate_left; assumption)))))).mono ?_; rintro e w4 ⟨vl, rfl, hvl, hb4⟩; obtain ⟨al, cl, rfl, _⟩ := id hvl; have HVL := Lib.hid hvl; clear hvl; (try clear k0 l0); obtain ⟨k0, l0⟩ := HBX.out w4 (by (with_reducible (repeat (first | exact Ext.refl _ | assumption | apply Ext.alloc | apply Ext.drew | exact ext_plus _ _ | (apply Ext.setCell; rotate_left; (simp <;> omega)) | (apply Ext.trans; rotate_left; exact ext_plus _ _) | (apply Ext.trans; rotate_left; assumption)))))) | (go_at_call 42; refine (HCT.out _ (by (with_reducible (repeat (first | exact Ext.refl _ | assumption | apply Ext.alloc | apply Ext.drew | exact ext_plus _ _ | (apply Ext.setCell; rotate_left; (simp <;> omega)) | (apply Ext.trans; rotate_left; exact ext_plus _ _) | (apply Ext.trans; rotate_left; assumption)))))).mono ?_; rintro e w5 ⟨vc, rfl, hvc, hb5⟩; obtain ⟨ac, cc, rfl, _⟩ := id hvc; have HVC := Lib.hid hvc; clear hvc; (try clear k0 l0); obtain ⟨k0, l0⟩ := HBX.out w5 (by (with_reducible (repeat (first | exact Ext.refl _ | assumption | apply Ext.alloc | apply Ext.drew | exact ext_plus _ _ | (apply Ext.setCell; rotate_left; (simp <;> omega)) | (apply Ext.trans; rotate_left; exact ext_plus _ _) | (apply Ext.trans; rotate_left; assumption)))))) | (go_at_call 28; refine (HRF.out _ (by (with_reducible (repeat (first | exact Ext.refl _ | assumption | apply Ext.alloc | apply Ext.drew | exact ext_plus _ _ | (apply Ext.setCell; rotate_left; (simp <;> omega)) | (apply Ext.trans; rotate_left; exact ext_plus _ _) | (apply Ext.trans; rotate_left; assumption)))))).mono ?_; rintro e w6 ⟨rfl, hb6⟩; (try clear k0 l0); obtain ⟨k0, l0⟩ := HBX.out w6 (by (with_reducible (repeat (first | exact Ext.refl _ | assumption | apply Ext.alloc | apply Ext.drew | exact ext_plus _ _ | (apply Ext.setCell; rotate_left; (simp <;> omega)) | (apply Ext.trans; rotate_left; exact ext_plus _ _) | (apply Ext.trans; rotate_left; assumption)))))) | (go_at_call 19; refine (HA.out _ (by (with_reducible (repeat (first | exact Ext.refl _ | assumption | apply Ext.alloc | apply Ext.drew | exact ext_plus _ _ | (apply Ext.setCell; rotate_left; (simp <;> omega)) | (apply Ext.trans; rotate_left; exact ext_plus _ _) | (apply Ext.trans; rotate_left; assumption)))))).mono ?_; rintro e w7 ⟨rfl, hb7⟩; (try clear k0 l0); obtain ⟨k0, l0⟩ := HBX.out w7 (by (with_reducible (repeat (first | exact Ext.refl _ | assumption | apply Ext.alloc | apply Ext.drew | exact ext_plus _ _ | (apply Ext.setCell; rotate_left; (simp <;> omega)) | (apply Ext.trans; rotate_left; exact ext_plus _ _) | (apply Ext.trans; rotate_left; assumption)))))) | (go_at_call 17; refine (known_any _).mono ?_; rintro e wk ⟨rfl, hbk⟩))
          all_goals
            go_ret
            exact ⟨rfl, by (with_reducible (repeat (first | exact Ext.refl _ | assumption | apply Ext.alloc | apply Ext.drew | exact ext_plus _ _ | (apply Ext.setCell; rotate_left; (simp <;> omega)) | (apply Ext.trans; rotate_left; exact ext_plus _ _) | (apply Ext.trans; rotate_left; assumption))))⟩
        | true =>
          rw [hB] at hrf
          simp only [hB, if_true] at hck
          have HRF := Lib.hid hrf
          have HCK := Lib.hid hck
          clear hask hst hct hrf hck hA hB hsh
          go_enter Try.func14, Try.ntmps14
          go_upto_region 1 with (fail)
          rw [HW1.out]
          obtain ⟨k0, l0⟩ := HBX.out w1 (Ext.refl _)
          go_wp2_with (first | (go_at_call 15; refine (HS.out _ (by (with_reducible (repeat (first | exact Ext.refl _ | assumption | apply Ext.alloc | apply Ext.drew | exact ext_plus _ _ | (apply Ext.setCell; rotate_left; (simp <;> omega)) | (apply Ext.trans; rotate_left; exact ext_plus _ _) | (apply Ext.trans; rotate_left; assumption)))))).mono ?_; rintro e w2 ⟨rfl, hb2⟩; (try clear k0 l0); obtain ⟨k0, l0⟩ := HBX.out w2 (by (with_reducible (repeat (first | exact Ext.refl _ | assumption | apply Ext.alloc | apply Ext.drew | exact ext_plus _ _ | (apply Ext.setCell; rotate_left; (simp <;> omega)) | (apply Ext.trans; rotate_left; exact ext_plus _ _) | (apply Ext.trans; rotate_left; assumption)))))) | (go_at_call 45; refine (HCK.out _ (by (with_reducible (repeat (first | exact Ext.refl _ | assumption | apply Ext.alloc | apply Ext.drew | exact ext_plus _ _ | (apply Ext.setCell; rotate_left; (simp <;> omega)) | (apply Ext.trans; rotate_left; exact ext_plus _ _) | (apply Ext.trans; rotate_left; assumption)))))).mono ?_; rintro e w3 ⟨rfl, hb3⟩; (try clear k0 l0); obtain ⟨k0, l0⟩ := HBX.out w3 (by (with_reducible (repeat (first | exact Ext.refl _ | assumption | apply Ext.alloc | apply Ext.drew | exact ext_plus _ _ | (apply Ext.setCell; rotate_left; (simp <;> omega)) | (apply Ext.trans; rotate_left; exact ext_plus _ _) | (apply Ext.trans; rotate_left; assumption)))))) | (go_at_call 41; refine (HST.out _ (by (with_reducible (repeat (first | exact Ext.refl _ | assumption | apply Ext.alloc | apply Ext.drew | exact ext_plus _ _ | (apply Ext.setCell; rotate_left; (simp <;> omega)) | (apply Ext.trans; rotate_left; exact ext_plus _ _) | (apply Ext.trans; rotate_left; assumption)))))).mono ?_; rintro e w4 ⟨vl, rfl, hvl, hb4⟩; obtain ⟨al, cl, rfl, _⟩ := id hvl; have HVL := Lib.hid hvl; clear hvl; (try clear k0 l0); obtain ⟨k0, l0⟩ := HBX.out w4 (by (with_reducible (repeat (first | exact Ext.refl _ | assumption | apply Ext.alloc | apply Ext.drew | exact ext_plus _ _ | (apply Ext.setCell; rotate_left; (simp <;> omega)) | (apply Ext.trans; rotate_left; exact ext_plus _ _) | (apply Ext.trans; rotate_left; assumption)))))) | (go_at_call 42; refine (HCT.out _ (by (with_reducible (repeat (first | exact Ext.refl _ | assumption | apply Ext.alloc | apply Ext.drew | exact ext_plus _ _ | (apply Ext.setCell; rotate_left; (simp <;> omega)) | (apply Ext.trans; rotate_left; exact ext_plus _ _) | (apply Ext.trans; rotate_left; assumption)))))).mono ?_; rintro e w5 ⟨vc, rfl, hvc, hb5⟩; obtain ⟨ac, cc, rfl, _⟩ := id hvc; have HVC := Lib.hid hvc; clear hvc; (try clear k0 l0); obtain ⟨k0, l0⟩ := HBX.out w5 (by (with_reducible (repeat (first | exact Ext.refl _ | assumption | apply Ext.alloc | apply Ext.drew | exact ext_plus _ _ | (apply Ext.setCell; rotate_left; (simp <;> omega)) | (apply Ext.trans; rotate_left; exact ext_plus _ _) | (apply Ext.trans; rotate_left; assumption)))))) | (go_at_call 28; refine (HRF.out _ (by (with_reducible (repeat (first | exact Ext.refl _ | assumption | apply Ext.alloc | apply Ext.drew | exact ext_plus _ _ | (apply Ext.setCell; rotate_left; (simp <;> omega)) | (apply Ext.trans; rotate_left; exact ext_plus _ _) | (apply Ext.trans; rotate_left; assumption)))))).mono ?_; rintro e w6 ⟨rfl, hb6⟩; (try clear k0 l0); obtain ⟨k0, l0⟩ := HBX.out w6 (by (with_reducible (repeat (first | exact Ext.refl _ | assumption | apply Ext.alloc | apply Ext.drew | exact ext_plus _ _ | (apply Ext.setCell; rotate_left; (simp <;> omega)) | (apply Ext.trans; rotate_left; exact ext_plus _ _) | (apply Ext.trans; rotate_left; assumption)))))) | (go_at_call 19; refine (HA.out _ (by (with_reducible (repeat (first | exact Ext.refl _ | assumption | apply Ext.alloc | apply Ext.drew | exact ext_plus _ _ | (apply Ext.setCell; rotate_left; (simp <;> omega)) | (apply Ext.trans; rotate_left; exact ext_plus _ _) | (apply Ext.trans; rotate_left; assumption)))))).mono ?_; rintro e w7 ⟨rfl, hb7⟩; (try clear k0 l0); obtain ⟨k0, l0⟩ := HBX.out w7 (by (with_reducible (repeat (first | exact Ext.refl _ | assumption | apply Ext.alloc | apply Ext.drew | exact ext_plus _ _ | (apply Ext.setCell; rotate_left; (simp <;> omega)) | (apply Ext.trans; rotate_left; exact ext_plus _ _) | (apply Ext.trans; rotate_left; assumption)))))) | (go_at_call 17; refine (known_any _).mono ?_; rintro e wk ⟨rfl, hbk⟩))
          all_goals
            go_ret
            exact ⟨rfl, by (with_reducible (repeat (first | exact Ext.refl _ | assumption | apply Ext.alloc | apply Ext.drew | exact ext_plus _ _ | (apply Ext.setCell; rotate_left; (simp <;> omega)) | (apply Ext.trans; rotate_left; exact ext_plus _ _) | (apply Ext.trans; rotate_left; assumption))))⟩
      | true =>
        have hR := hA
        unfold rightB at hR
        rw [Bool.and_eq_true] at hR
        have O := R.okR_of hR.1
        have OL := R.okL_iff.1 hR.2
        rw [hA] at hask hst hct
        rw [hR.1] at hrf
        simp only [hR.1, if_true] at hck
        simp only [if_true, show codeOf true = 0 from rfl] at hst hct
        have hds := fun w' (hx : Ext w w') => dstocks_any r plan _ _ w' (hP.ext hx) (hL.ext hx) O OL
        have hlen := counts_len r plan
        have hsl := R.stocks_len r plan
        have hrow : ∀ s (h : s < (R.stocks r plan).length) (h' : s < (counts r plan).length), (counts r plan)[s].length = (R.stocks r plan)[s].length ∧ ∀ i (hi : i < (R.stocks r plan)[s].length) (hi' : i < (counts r plan)[s].length), 0 ≤ (R.stocks r plan)[s][i].1 ∧ (R.stocks r plan)[s][i].1 ≤ 1000000000 ∧ (counts r plan)[s][i] = countedD r (R.stocks r plan)[s][i] := fun s h h' => by
          obtain ⟨h1, h2⟩ := counts_at O plan h h'
          refine ⟨h1, fun i hi hi' => ?_⟩
          have hb := R.stocks_bd O plan h i hi
          exact ⟨hb.1, by omega, h2 i hi hi'⟩
        have hsm : (R.stocks r plan).length ≤ 1000000 ∧ ∀ l ∈ R.stocks r plan, l.length ≤ 1000000 := by
          have := O.s4
          have := O.n4
          refine ⟨by omega, fun l hl => ?_⟩
          obtain ⟨i, hi, rfl⟩ := List.getElem_of_mem hl
          have := (R.stocks_at r plan hi).1
          omega
        obtain ⟨X, hX⟩ : ∃ X, R.stocks r plan = X := ⟨_, rfl⟩
        obtain ⟨C, hC⟩ : ∃ C, counts r plan = C := ⟨_, rfl⟩
        have hrow2 : ∀ s (h : s < X.length) (h' : s < C.length), C[s].length = X[s].length ∧ ∀ i (hi : i < X[s].length) (hi' : i < C[s].length), 0 ≤ X[s][i].1 ∧ X[s][i].1 ≤ 1000000000 ∧ C[s][i] = countedD r X[s][i] := by subst hX hC; exact hrow
        rw [hX] at hlen hsl hsm
        rw [hC] at hlen
        simp only [hX] at hst hds
        simp only [hC] at hct
        have HA := Lib.hid hask
        have HST := Lib.hid hst
        have HCT := Lib.hid hct
        have HRF := Lib.hid hrf
        have HCK := Lib.hid hck
        have HDS := Lib.hid hds
        have HSM := Lib.hid hsm
        have hXl : X.length ≤ 1000000 := hsm.1
        have HLC := Lib.hid hlen
        have HROW := Lib.hid hrow2
        have HMI := Lib.hid (show 0 ≤ r.miss ∧ r.miss ≤ 2000 from ⟨O.m0, O.m1⟩)
        have hnl : ((C.length : Int) != (X.length : Int)) = false := by simp [hlen]
        clear hask hst hct hrf hck hds hA hR hsh hlen hsl hrow hrow2 hsm hX hC O OL
        go_enter Try.func14, Try.ntmps14
        go_upto_region 1 with (fail)
        rw [HW1.out]
        obtain ⟨k0, l0⟩ := HBX.out w1 (Ext.refl _)
        go_upto_region 14 with (first | (go_at_call 15; refine (HS.out _ (by (with_reducible (repeat (first | exact Ext.refl _ | assumption | apply Ext.alloc | apply Ext.drew | exact ext_plus _ _ | (apply Ext.setCell; rotate_left; (simp <;> omega)) | (apply Ext.trans; rotate_left; exact ext_plus _ _) | (apply Ext.trans; rotate_left; assumption)))))).mono ?_; rintro e w2 ⟨rfl, hb2⟩; (try clear k0 l0); obtain ⟨k0, l0⟩ := HBX.out w2 (by (with_reducible (repeat (first | exact Ext.refl _ | assumption | apply Ext.alloc | apply Ext.drew | exact ext_plus _ _ | (apply Ext.setCell; rotate_left; (simp <;> omega)) | (apply Ext.trans; rotate_left; exact ext_plus _ _) | (apply Ext.trans; rotate_left; assumption)))))) | (go_at_call 45; refine (HCK.out _ (by (with_reducible (repeat (first | exact Ext.refl _ | assumption | apply Ext.alloc | apply Ext.drew | exact ext_plus _ _ | (apply Ext.setCell; rotate_left; (simp <;> omega)) | (apply Ext.trans; rotate_left; exact ext_plus _ _) | (apply Ext.trans; rotate_left; assumption)))))).mono ?_; rintro e w3 ⟨rfl, hb3⟩; (try clear k0 l0); obtain ⟨k0, l0⟩ := HBX.out w3 (by (with_reducible (repeat (first | exact Ext.refl _ | assumption | apply Ext.alloc | apply Ext.drew | exact ext_plus _ _ | (apply Ext.setCell; rotate_left; (simp <;> omega)) | (apply Ext.trans; rotate_left; exact ext_plus _ _) | (apply Ext.trans; rotate_left; assumption)))))) | (go_at_call 41; refine (HST.out _ (by (with_reducible (repeat (first | exact Ext.refl _ | assumption | apply Ext.alloc | apply Ext.drew | exact ext_plus _ _ | (apply Ext.setCell; rotate_left; (simp <;> omega)) | (apply Ext.trans; rotate_left; exact ext_plus _ _) | (apply Ext.trans; rotate_left; assumption)))))).mono ?_; rintro e w4 ⟨vl, rfl, hvl, hb4⟩; obtain ⟨al, cl, rfl, _⟩ := id hvl; have HVL := Lib.hid hvl; clear hvl; (try clear k0 l0); obtain ⟨k0, l0⟩ := HBX.out w4 (by (with_reducible (repeat (first | exact Ext.refl _ | assumption | apply Ext.alloc | apply Ext.drew | exact ext_plus _ _ | (apply Ext.setCell; rotate_left; (simp <;> omega)) | (apply Ext.trans; rotate_left; exact ext_plus _ _) | (apply Ext.trans; rotate_left; assumption)))))) | (go_at_call 42; refine (HCT.out _ (by (with_reducible (repeat (first | exact Ext.refl _ | assumption | apply Ext.alloc | apply Ext.drew | exact ext_plus _ _ | (apply Ext.setCell; rotate_left; (simp <;> omega)) | (apply Ext.trans; rotate_left; exact ext_plus _ _) | (apply Ext.trans; rotate_left; assumption)))))).mono ?_; rintro e w5 ⟨vc, rfl, hvc, hb5⟩; obtain ⟨ac, cc, rfl, _⟩ := id hvc; have HVC := Lib.hid hvc; clear hvc; (try clear k0 l0); obtain ⟨k0, l0⟩ := HBX.out w5 (by (with_reducible (repeat (first | exact Ext.refl _ | assumption | apply Ext.alloc | apply Ext.drew | exact ext_plus _ _ | (apply Ext.setCell; rotate_left; (simp <;> omega)) | (apply Ext.trans; rotate_left; exact ext_plus _ _) | (apply Ext.trans; rotate_left; assumption)))))) | (go_at_call 28; refine (HRF.out _ (by (with_reducible (repeat (first | exact Ext.refl _ | assumption | apply Ext.alloc | apply Ext.drew | exact ext_plus _ _ | (apply Ext.setCell; rotate_left; (simp <;> omega)) | (apply Ext.trans; rotate_left; exact ext_plus _ _) | (apply Ext.trans; rotate_left; assumption)))))).mono ?_; rintro e w6 ⟨rfl, hb6⟩; (try clear k0 l0); obtain ⟨k0, l0⟩ := HBX.out w6 (by (with_reducible (repeat (first | exact Ext.refl _ | assumption | apply Ext.alloc | apply Ext.drew | exact ext_plus _ _ | (apply Ext.setCell; rotate_left; (simp <;> omega)) | (apply Ext.trans; rotate_left; exact ext_plus _ _) | (apply Ext.trans; rotate_left; assumption)))))) | (go_at_call 19; refine (HA.out _ (by (with_reducible (repeat (first | exact Ext.refl _ | assumption | apply Ext.alloc | apply Ext.drew | exact ext_plus _ _ | (apply Ext.setCell; rotate_left; (simp <;> omega)) | (apply Ext.trans; rotate_left; exact ext_plus _ _) | (apply Ext.trans; rotate_left; assumption)))))).mono ?_; rintro e w7 ⟨rfl, hb7⟩; (try clear k0 l0); obtain ⟨k0, l0⟩ := HBX.out w7 (by (with_reducible (repeat (first | exact Ext.refl _ | assumption | apply Ext.alloc | apply Ext.drew | exact ext_plus _ _ | (apply Ext.setCell; rotate_left; (simp <;> omega)) | (apply Ext.trans; rotate_left; exact ext_plus _ _) | (apply Ext.trans; rotate_left; assumption)))))) | (go_at_call 46; refine (HDS.out _ (by (with_reducible (repeat (first | exact Ext.refl _ | assumption | apply Ext.alloc | apply Ext.drew | exact ext_plus _ _ | (apply Ext.setCell; rotate_left; (simp <;> omega)) | (apply Ext.trans; rotate_left; exact ext_plus _ _) | (apply Ext.trans; rotate_left; assumption)))))).mono ?_; rintro e w8 ⟨vx, rfl, hvx, hb8⟩; obtain ⟨ax, cx, rfl, _⟩ := id hvx; have HVX := Lib.hid hvx; clear hvx; (try clear k0 l0); obtain ⟨k0, l0⟩ := HBX.out w8 (by (with_reducible (repeat (first | exact Ext.refl _ | assumption | apply Ext.alloc | apply Ext.drew | exact ext_plus _ _ | (apply Ext.setCell; rotate_left; (simp <;> omega)) | (apply Ext.trans; rotate_left; exact ext_plus _ _) | (apply Ext.trans; rotate_left; assumption)))))) | (go_at_call 47; refine (spanRows_true X _ _ _ (HVL.out.ext (by (with_reducible (repeat (first | exact Ext.refl _ | assumption | apply Ext.alloc | apply Ext.drew | exact ext_plus _ _ | (apply Ext.setCell; rotate_left; (simp <;> omega)) | (apply Ext.trans; rotate_left; exact ext_plus _ _) | (apply Ext.trans; rotate_left; assumption)))))) (HVX.out.ext (by (with_reducible (repeat (first | exact Ext.refl _ | assumption | apply Ext.alloc | apply Ext.drew | exact ext_plus _ _ | (apply Ext.setCell; rotate_left; (simp <;> omega)) | (apply Ext.trans; rotate_left; exact ext_plus _ _) | (apply Ext.trans; rotate_left; assumption)))))) HSM.out.1 HSM.out.2).mono ?_; rintro e w9 ⟨rfl, hb9⟩; (try clear k0 l0); obtain ⟨k0, l0⟩ := HBX.out w9 (by (with_reducible (repeat (first | exact Ext.refl _ | assumption | apply Ext.alloc | apply Ext.drew | exact ext_plus _ _ | (apply Ext.setCell; rotate_left; (simp <;> omega)) | (apply Ext.trans; rotate_left; exact ext_plus _ _) | (apply Ext.trans; rotate_left; assumption)))))))
        have hE19 : Ext w1 w9 := by (with_reducible (repeat (first | exact Ext.refl _ | assumption | apply Ext.alloc | apply Ext.drew | exact ext_plus _ _ | (apply Ext.setCell; rotate_left; (simp <;> omega)) | (apply Ext.trans; rotate_left; exact ext_plus _ _) | (apply Ext.trans; rotate_left; assumption))))
        have hE9 : Ext w w9 := hE1.trans hE19
        have hvc := HVC.out.ext ((hb6.trans hb7).trans (hb8.trans hb9))
        have hvx := HVX.out.ext hb9
        obtain ⟨ac, cc, e1, hxc⟩ := hvc
        cases e1
        obtain ⟨ax, cx, e2, hxx⟩ := hvx
        cases e2
        have HXC := Lib.hid hxc
        have HXX := Lib.hid hxx
        clear hxc hxx hb2 hb3 hb4 hb5 hb6 hb7 hb8 hb9 k0 l0 HVL HVC HVX
        have hpc := plus_cell
        have hgd := span_guard
        go_wp2
        go_loopw [12, 13] (fun i _ wr => ∃ s : Nat, s ≤ X.length ∧ i = .int .i64 s ∧ Ext w9 wr) (fun i _ _ => X.length - (intOf i).toNat)
        case atStart => exact ⟨0, Nat.zero_le _, rfl, Ext.refl _⟩
        case round =>
          rename World => wr
          obtain ⟨s, hs, rfl, hEr⟩ := hrel
          obtain ⟨k0, l0⟩ := HBX.out wr (hE19.trans hEr)
          by_cases hlt : s < X.length
          · have hltC : s < C.length := by have := HLC.out; omega
            obtain ⟨bc, oc, e1, hbc, vc, hcc, hvc⟩ := HXC.out s hltC
            cases e1
            obtain ⟨bx, ox, e2, hbx', vx, hcx, hvx⟩ := HXX.out s hlt
            cases e2
            simp only [Nat.mul_one] at hcc hcx
            have hrow := HROW.out s hlt hltC
            have hxl := HSM.out.2 _ (List.getElem_mem hlt)
            obtain ⟨x, hx⟩ : ∃ x, X[s] = x := ⟨_, rfl⟩
            obtain ⟨y, hy⟩ : ∃ y, C[s] = y := ⟨_, rfl⟩
            rw [hx] at hvx hxl
            rw [hy] at hvc
            have hrow2 : y.length = x.length ∧ ∀ i (hi : i < x.length) (hi' : i < y.length), 0 ≤ x[i].1 ∧ x[i].1 ≤ 1000000000 ∧ y[i] = countedD r x[i] := by subst hx hy; exact hrow
            obtain ⟨hyl, hel⟩ := hrow2
            have HEL := Lib.hid hel
            obtain ⟨a6, c6, rfl, hx6⟩ := hvc
            obtain ⟨a7, c7, rfl, hx7⟩ := hvx
            have HX6 := Lib.hid hx6
            have HX7 := Lib.hid hx7
            have HYL := Lib.hid hyl
            rw [hyl] at hcc
            have cu1 := (hEr.cells.1 _ _ hbc).trans hcc
            have cu2 := (hEr.cells.1 _ _ hbx').trans hcx
            have q1 := Nat.lt_of_lt_of_le hbc hEr.size
            have q2 := Nat.lt_of_lt_of_le hbx' hEr.size
            clear hcc hcx hrow hx hy hyl hel hx6 hx7
            have hne : ((x.length : Int) != (x.length : Int)) = false := by simp
            go_wp2
            refine wp_region_ext 11 (fun _ _ d _ _ h => by cases d <;> exact h) (by kernel_rfl) (by kernel_rfl) (by kernel_rfl) (by kernel_rfl) ?_
            simp only [List.take_succ_cons, List.take_zero, List.drop_succ_cons, List.drop_zero]
            repeat (any_goals (first | go_big_quiet_step (fail) | quiet_step (fail)))
            all_goals (refine wpQuiet_nil ?_; intro w' hE')
            unfold wpList
            have cu3 := (hE'.cells.1 _ _ q1).trans cu1
            have cu4 := (hE'.cells.1 _ _ q2).trans cu2
            have q3 := Nat.lt_of_lt_of_le q1 hE'.size
            have q4 := Nat.lt_of_lt_of_le q2 hE'.size
            clear cu1 cu2 k0 l0 q1 q2
            go_wp2
            go_loopw [13] (fun i wx => ∃ j : Nat, j ≤ x.length ∧ i = .int .i64 j ∧ Ext w' wx) (fun i _ => x.length - (intOf i).toNat)
            case atStart => exact ⟨0, Nat.zero_le _, rfl, Ext.refl _⟩
            case round =>
              rename World => wx
              obtain ⟨j, hj, rfl, hEx⟩ := hrel
              have hE9x : Ext w9 wx := (hEr.trans hE').trans hEx
              obtain ⟨k0, l0⟩ := HBX.out wx (hE19.trans hE9x)
              have cu5 := (hEx.cells.1 _ _ q3).trans cu3
              have cu6 := (hEx.cells.1 _ _ q4).trans cu4
              have q5 := Nat.lt_of_lt_of_le q3 hEx.size
              have q6 := Nat.lt_of_lt_of_le q4 hEx.size
              by_cases hlj : j < x.length
              · have hlj2 : j < y.length := by have := HYL.out; omega
                obtain ⟨b8, o8, e1, hb8, hAt8⟩ := HX6.out j hlj2
                cases e1
                obtain ⟨b7, o7, e2, hb7, hAt7⟩ := HX7.out j hlj
                cases e2
                obtain ⟨t1, t2⟩ := span_cells (ate_stays _ _ _ _ _ _ hE9x hb8 hAt8)
                obtain ⟨t3, t4⟩ := span_cells (ate_stays _ _ _ _ _ _ hE9x hb7 hAt7)
                have q7 := Nat.lt_of_lt_of_le hb8 hE9x.size
                have q8 := Nat.lt_of_lt_of_le hb7 hE9x.size
                obtain ⟨z0, z1, zeq⟩ := HEL.out j hlj hlj2
                rw [zeq] at t1 t2
                obtain ⟨z, hz⟩ : ∃ z, x[j] = z := ⟨_, rfl⟩
                rw [hz] at t1 t2 t3 t4 z0 z1
                have hcd := fun w' => dcounted_any r z (.slice a1 r.places.length c1) ⟨_, _, _, rfl⟩ w' HMI.out.1 HMI.out.2 z0 z1
                obtain ⟨P, hPP⟩ : ∃ P, (countedD r z).1 = P := ⟨_, rfl⟩
                obtain ⟨Q, hQQ⟩ : ∃ Q, (countedD r z).2 = Q := ⟨_, rfl⟩
                rw [hPP] at t1
                rw [hQQ] at t2
                simp only [hPP, hQQ] at hcd
                have HCD := Lib.hid hcd
                have hcmp : ∀ w : World, (binOp .neq 44 (.agg #[.int .i64 P, .int .i64 Q]) (.agg #[.int .i64 P, .int .i64 Q])).run Try.prog w = .ok (.bool false) w := fun w => by have := span_neq (P, Q) (P, Q) w; simpa using this
                clear hAt8 hAt7 hcd zeq hz hPP hQQ
                go_wp2
                refine wp_region_ext 17 (fun _ _ d _ _ h => by cases d <;> exact h) (by kernel_rfl) (by kernel_rfl) (by kernel_rfl) (by kernel_rfl) ?_
                simp only [List.take_succ_cons, List.take_zero, List.drop_succ_cons, List.drop_zero]
                repeat (any_goals (first | quiet_step ((go_at_call 48; exact ext_quiet (HCD.out _))) | go_big_quiet_step (fail) | (refine wpQuiet_step (fun K hK => ?_); go_simp; split <;> (refine hK _ ?_; clear hK K))))
                all_goals (refine wpQuiet_nil ?_; intro w'' hE'')
                unfold wpList
                clear t1 t2 t3 t4 cu5 cu6 k0 l0
                go_wp2
                go_roundw
                case rel => exact ⟨j + 1, by omega, by go_num, hEx.trans hE''⟩
                case measure => simp [intOf]; omega
              · go_wp2
                go_roundw
                case rel => exact ⟨s + 1, by omega, by go_num, (hEr.trans hE').trans hEx⟩
                case measure => simp [intOf]; omega
          · obtain rfl : s = X.length := by omega
            go_wp2_with (first | (go_at_call 17; refine (known_any _).mono ?_; rintro e wk ⟨rfl, hbk⟩))
            go_ret
            exact ⟨rfl, by (with_reducible (repeat (first | exact Ext.refl _ | assumption | apply Ext.alloc | apply Ext.drew | exact ext_plus _ _ | (apply Ext.setCell; rotate_left; (simp <;> omega)) | (apply Ext.trans; rotate_left; exact ext_plus _ _) | (apply Ext.trans; rotate_left; assumption))))⟩
    · have hpi : (8 : Int) < plan.length := by omega
      clear hpl hsh
      go_enter Try.func14, Try.ntmps14
      go_upto_region 1 with (fail)
      rw [HW1.out]
      obtain ⟨k0, l0⟩ := HBX.out w1 (Ext.refl _)
      go_wp2_with (first | (go_at_call 15; refine (HS.out _ (by (with_reducible (repeat (first | exact Ext.refl _ | assumption | apply Ext.alloc | apply Ext.drew | exact ext_plus _ _ | (apply Ext.setCell; rotate_left; (simp <;> omega)) | (apply Ext.trans; rotate_left; exact ext_plus _ _) | (apply Ext.trans; rotate_left; assumption)))))).mono ?_; rintro e w2 ⟨rfl, hb2⟩; (try clear k0 l0); obtain ⟨k0, l0⟩ := HBX.out w2 (by (with_reducible (repeat (first | exact Ext.refl _ | assumption | apply Ext.alloc | apply Ext.drew | exact ext_plus _ _ | (apply Ext.setCell; rotate_left; (simp <;> omega)) | (apply Ext.trans; rotate_left; exact ext_plus _ _) | (apply Ext.trans; rotate_left; assumption)))))) | (go_at_call 17; refine (known_any _).mono ?_; rintro e wk ⟨rfl, hbk⟩))
      all_goals
        go_ret
        exact ⟨rfl, by (with_reducible (repeat (first | exact Ext.refl _ | assumption | apply Ext.alloc | apply Ext.drew | exact ext_plus _ _ | (apply Ext.setCell; rotate_left; (simp <;> omega)) | (apply Ext.trans; rotate_left; exact ext_plus _ _) | (apply Ext.trans; rotate_left; assumption))))⟩
  · have hsf : shortR r = false := by simpa using hsh
    rw [hsf] at hs
    have HS := Lib.hid hs
    clear hs hsf hsh
    go_enter Try.func14, Try.ntmps14
    go_upto_region 1 with (fail)
    rw [HW1.out]
    obtain ⟨k0, l0⟩ := HBX.out w1 (Ext.refl _)
    go_wp2_with (first | (go_at_call 15; refine (HS.out _ (by (with_reducible (repeat (first | exact Ext.refl _ | assumption | apply Ext.alloc | apply Ext.drew | exact ext_plus _ _ | (apply Ext.setCell; rotate_left; (simp <;> omega)) | (apply Ext.trans; rotate_left; exact ext_plus _ _) | (apply Ext.trans; rotate_left; assumption)))))).mono ?_; rintro e w2 ⟨rfl, hb2⟩; (try clear k0 l0); obtain ⟨k0, l0⟩ := HBX.out w2 (by (with_reducible (repeat (first | exact Ext.refl _ | assumption | apply Ext.alloc | apply Ext.drew | exact ext_plus _ _ | (apply Ext.setCell; rotate_left; (simp <;> omega)) | (apply Ext.trans; rotate_left; exact ext_plus _ _) | (apply Ext.trans; rotate_left; assumption)))))) | (go_at_call 17; refine (known_any _).mono ?_; rintro e wk ⟨rfl, hbk⟩))
    all_goals
      go_ret
      exact ⟨rfl, by (with_reducible (repeat (first | exact Ext.refl _ | assumption | apply Ext.alloc | apply Ext.drew | exact ext_plus _ _ | (apply Ext.setCell; rotate_left; (simp <;> omega)) | (apply Ext.trans; rotate_left; exact ext_plus _ _) | (apply Ext.trans; rotate_left; assumption))))⟩
end Go.Proofs.Ythffoglpekpmdaa
