/- The law ReefQuotas. -/
import Derived.Test.YthffoglpekpmdaaK2
import Derived.Test.YthffoglpekpmdaaD11
import Derived.Test.YthffoglpekpmdaaD12
import Derived.Test.YthffoglpekpmdaaPl5
namespace Go.Proofs.Ythffoglpekpmdaa
set_option linter.unusedVariables false
set_option linter.unusedSimpArgs false
open Go.RowKit
/-- Whether some place can be short if no more than m are taken of a place. -/
def tooMany (r : R.Reef) (plan : List Int) (k : Nat) (m : Int) : Bool := (R.short (R.limited r k m) plan).isSome
set_option maxRecDepth 100000 in
set_option maxHeartbeats 8000000 in
theorem dquota_any (r : R.Reef) (plan : List Int) (k : Nat) (vp vl : Value) (w : World) (hP : Places w vp r.places) (hPl : Ints w vl plan) (O : R.OkR r) (OL : R.OkL r plan) (hk : k < r.places.length) :
    Calls Try.prog 36 #[.agg (reefV r vp), vl, .int .i64 k] w fun e w' => e = .returned (.int .i64 (R.topOf (tooMany r plan k) 40 (-1) 1000000)) ∧ Ext w w' := by
  have hP' := hP
  have hL' := hPl
  obtain ⟨a1, c1, rfl, _⟩ := hP'
  obtain ⟨a2, c2, rfl, _⟩ := hL'
  have hn4 := O.n4
  have HLI := Lib.hid (fun m w' (hx : Ext w w') => dlimited_any r k m _ w' (hP.ext hx) (by omega) hk)
  have hll : ∀ m, (R.limited r k m).places.length = r.places.length := fun m => by simp [R.limited]
  have hsho : ∀ m w' g cap, 0 ≤ m → Ext w w' → RowB placeC 12 46 w' g (R.limited r k m).places → Calls Try.prog 26 #[.agg (reefV r (.slice (some ⟨g, 0, none⟩) r.places.length cap)), .slice a2 plan.length c2] w' fun x w2 => x = .returned (.tuple #[.int .i64 (shortP (R.short (R.limited r k m) plan)).1, .int .i64 (shortP (R.short (R.limited r k m) plan)).2, .bool (tooMany r plan k m)]) ∧ Ext w' w2 := fun m w' g cap hm hx hrow => by
    have h := dshort_any (R.limited r k m) plan (.slice (some ⟨g, 0, none⟩) r.places.length cap) _ w' (by have := hrow.sls cap; rw [hll] at this; exact this) (hPl.ext hx) (R.okR_limited O k m hk hm) (R.okL_limited OL k m)
    exact h
  have HSH := Lib.hid hsho
  obtain ⟨V, hV⟩ : ∃ V, R.topOf (tooMany r plan k) 40 (-1) 1000000 = V := ⟨_, rfl⟩
  rw [hV]
  have HV := Lib.hid hV
  clear hV hsho hll O OL
  go_enter Try.func36, Try.ntmps36
  go_wp2
  obtain ⟨w1, hw1⟩ : ∃ w1, w.alloc (.cells (reefV r (.slice a1 r.places.length c1)) 24) = w1 := ⟨_, rfl⟩
  have hb0 : Blk w1 w.heap.size (reefV r (.slice a1 r.places.length c1)) 24 := by rw [← hw1]; exact Blk.new' rfl _ _
  have hE1 : Ext w w1 := by rw [← hw1]; (with_reducible (repeat (first | exact Ext.refl _ | assumption | apply Ext.alloc | apply Ext.drew | exact ext_plus _ _ | (apply Ext.setCell; rotate_left; (simp <;> omega)) | (apply Ext.trans; rotate_left; exact ext_plus _ _) | (apply Ext.trans; rotate_left; assumption))))
  rw [hw1]
  clear hw1
  go_loopw [7, 8, 9, 10, 11, 12] (fun lo hi _ _ _ _ wr => ∃ (f : Nat) (low high : Int), lo = .int .i64 low ∧ hi = .int .i64 high ∧ -1 ≤ low ∧ low ≤ high ∧ high ≤ 1000000 ∧ high - low < 2 ^ f ∧ R.topOf (tooMany r plan k) f low high = V ∧ Ext w1 wr) (fun lo hi _ _ _ _ _ => ((intOf hi) - (intOf lo)).toNat)
  case atStart => exact ⟨40, -1, 1000000, rfl, rfl, by omega, by omega, by omega, (by decide), HV.out, Ext.refl _⟩
  case round =>
    rename World => wr
    obtain ⟨f, low, high, rfl, rfl, hl0, hlh, hh, hf, hV, hEr⟩ := hrel
    have k0 := (hb0.ext hEr).cell
    have k1 := (hb0.ext hEr).lt
    have hEw := hE1.trans hEr
    by_cases he : low < high
    · cases f with
      | zero => simp at hf; omega
      | succ f =>
        have hd : 0 < high - low := by omega
        have hb := half_bd hd hf
        rw [R.top_cons _ _ _ _ he] at hV
        have hd0 : 0 ≤ high - low := by omega
        obtain ⟨D, hD⟩ : ∃ D, (high - low) / 2 = D := ⟨_, rfl⟩
        rw [hD] at hb hV
        have hD2 : 0 ≤ D ∧ D < high - low := by omega
        have HV2 := Lib.hid hV
        have HB := Lib.hid hb
        have hli := fun w' hx => HLI.out (high - D) w' hx
        have hsh := fun w' g cap hx hr => HSH.out (high - D) w' g cap (by omega) hx hr
        obtain ⟨x, hx⟩ : ∃ x, shortP (R.short (R.limited r k (high - D)) plan) = x := ⟨_, rfl⟩
        obtain ⟨B, hB⟩ : ∃ B, tooMany r plan k (high - D) = B := ⟨_, rfl⟩
        simp only [hx, hB] at hsh
        have hV3 := HV2.out
        rw [hB] at hV3
        have HL2 := Lib.hid hli
        have HS2 := Lib.hid hsh
        clear hV hb hf hli hsh hx hB HV2
        cases B with
        | true =>
          rw [if_pos rfl] at hV3
          have HV3 := Lib.hid hV3
          clear hV3
          go_wp2_with (first | (go_at_call 37; refine (HL2.out _ (by (with_reducible (repeat (first | exact Ext.refl _ | assumption | apply Ext.alloc | apply Ext.drew | exact ext_plus _ _ | (apply Ext.setCell; rotate_left; (simp <;> omega)) | (apply Ext.trans; rotate_left; exact ext_plus _ _) | (apply Ext.trans; rotate_left; assumption)))))).mono ?_; rintro e w2 ⟨g, cap, rfl, hrow, hg, hE2⟩) | (go_at_call 26; refine (HS2.out _ _ _ (by (with_reducible (repeat (first | exact Ext.refl _ | assumption | apply Ext.alloc | apply Ext.drew | exact ext_plus _ _ | (apply Ext.setCell; rotate_left; (simp <;> omega)) | (apply Ext.trans; rotate_left; exact ext_plus _ _) | (apply Ext.trans; rotate_left; assumption))))) hrow).mono ?_; rintro e w3 ⟨rfl, hE3⟩))
          go_roundw
          case rel => exact ⟨f, low, high - D - 1, rfl, by go_num, by omega, by omega, by omega, by have := HB.out; omega, HV3.out, (hEr.trans hE2).trans hE3⟩
          case measure => simp [intOf]; omega
        | false =>
          rw [if_neg (by decide)] at hV3
          have HV3 := Lib.hid hV3
          clear hV3
          go_wp2_with (first | (go_at_call 37; refine (HL2.out _ (by (with_reducible (repeat (first | exact Ext.refl _ | assumption | apply Ext.alloc | apply Ext.drew | exact ext_plus _ _ | (apply Ext.setCell; rotate_left; (simp <;> omega)) | (apply Ext.trans; rotate_left; exact ext_plus _ _) | (apply Ext.trans; rotate_left; assumption)))))).mono ?_; rintro e w2 ⟨g, cap, rfl, hrow, hg, hE2⟩) | (go_at_call 26; refine (HS2.out _ _ _ (by (with_reducible (repeat (first | exact Ext.refl _ | assumption | apply Ext.alloc | apply Ext.drew | exact ext_plus _ _ | (apply Ext.setCell; rotate_left; (simp <;> omega)) | (apply Ext.trans; rotate_left; exact ext_plus _ _) | (apply Ext.trans; rotate_left; assumption))))) hrow).mono ?_; rintro e w3 ⟨rfl, hE3⟩))
          go_roundw
          case rel => exact ⟨f, high - D, high, by go_num, rfl, by omega, by omega, by omega, by have := HB.out; omega, HV3.out, (hEr.trans hE2).trans hE3⟩
          case measure => simp [intOf]; omega
    · rw [R.top_nil _ _ _ _ he] at hV
      have HV2 := Lib.hid hV
      clear hV
      go_wp2
      go_ret
      exact ⟨ret_int HV2.out, hEw⟩
theorem quotaB_eq (r : R.Reef) (plan : List Int) (k : Nat) : quotaB r plan k = tooMany r plan k := by
  funext m; unfold quotaB tooMany; cases R.short (R.limited r k m) plan <;> rfl
theorem dquota_eq {r : R.Reef} (O : R.OkR r) (plan : List Int) (k : Nat) (hk : k < r.places.length) : R.topOf (tooMany r plan k) 40 (-1) 1000000 = quotaN r plan k - 1 := by
  unfold quotaN
  rw [Int.toNat_natCast, quotaB_eq]
  exact R.top_least (R.short_mono O plan k hk) (by decide) (by decide) (by decide)
set_option maxRecDepth 100000 in
set_option maxHeartbeats 8000000 in
theorem reefQuotas_law (r : R.Reef) (vr : Value) (plan : List Int) (vp : Value) (place : Int) (hwfplace : (Lit.int .i64 place).wf = true) (w : World) (hP : Places w vr r.places) (hL : Ints w vp plan) :
    Calls Try.prog 9 #[.agg (reefV r vr), vp, .int .i64 place] w fun e w' => e = .returned (.bool true) ∧ Ext w w' := by
  have hP' := hP
  have hL' := hL
  obtain ⟨a1, c1, rfl, hPx⟩ := hP'
  obtain ⟨a2, c2, rfl, hLx⟩ := hL'
  have HPX := Lib.hid hPx
  have HLX := Lib.hid hLx
  clear hPx hLx
  obtain ⟨w1, hw1⟩ : ∃ w1, (w.alloc (.cells (reefV r (.slice a1 r.places.length c1)) 24)) = w1 := ⟨_, rfl⟩
  have hE1 : Ext w w1 := by rw [← hw1]; (with_reducible (repeat (first | exact Ext.refl _ | assumption | apply Ext.alloc | apply Ext.drew | exact ext_plus _ _ | (apply Ext.setCell; rotate_left; (simp <;> omega)) | (apply Ext.trans; rotate_left; exact ext_plus _ _) | (apply Ext.trans; rotate_left; assumption))))
  have hb0 : Blk w1 (w.heap.size) (reefV r (.slice a1 r.places.length c1)) 24 := by rw [← hw1]; exact Blk.new' rfl _ _
  have hbx := fun y (hy : Ext w1 y) => (⟨(hb0.ext hy).cell, (hb0.ext hy).lt⟩ : (∀ o, y.cell? ⟨w.heap.size, o, none⟩ = _) ∧ w.heap.size < y.heap.size)
  have HBX := Lib.hid hbx
  have HW1 := Lib.hid hw1
  clear hw1 hb0 hbx
  clear hwfplace
  have hs := fun w' (hx : Ext w w') => short_any r _ w' (hP.ext hx)
  by_cases hsh : shortR r = true
  · rw [hsh] at hs
    have HS := Lib.hid hs
    clear hs
    by_cases hpl : plan.length ≤ 8
    · have hpi : ¬ (8 : Int) < plan.length := by omega
      have hn8 : r.places.length ≤ 8 := by simpa [shortR] using hsh
      have hask := fun w' (hx : Ext w w') => asked_any r plan _ _ w' (hP.ext hx) (hL.ext hx) hn8 (by omega)
      have hqq := fun w' (hx : Ext w w') => quotaQ_any r plan place _ _ w' (hP.ext hx) (hL.ext hx) (by omega) (by omega)
      cases hA : rightB r plan with
      | false =>
        have e0 : quotaAsk r plan place = false := by unfold quotaAsk; rw [hA]; rfl
        have e1 : quotaOf r plan place = 0 := by unfold quotaOf; rw [e0]; rfl
        have e2 : quotaCode r plan place = 2 := by unfold quotaCode; rw [e0]; rfl
        simp only [e1, e2] at hqq
        rw [hA] at hask
        have HQQ := Lib.hid hqq
        have HA := Lib.hid hask
        clear hqq hask hA hsh e0 e1 e2
        go_enter Try.func9, Try.ntmps9
        go_upto_region 1 with (fail)
        rw [HW1.out]
        obtain ⟨k0, l0⟩ := HBX.out w1 (Ext.refl _)
        go_wp2_with (first | (go_at_call 15; refine (HS.out _ (by (with_reducible (repeat (first | exact Ext.refl _ | assumption | apply Ext.alloc | apply Ext.drew | exact ext_plus _ _ | (apply Ext.setCell; rotate_left; (simp <;> omega)) | (apply Ext.trans; rotate_left; exact ext_plus _ _) | (apply Ext.trans; rotate_left; assumption)))))).mono ?_; rintro e w2 ⟨rfl, hb2⟩; (try clear k0 l0); obtain ⟨k0, l0⟩ := HBX.out w2 (by (with_reducible (repeat (first | exact Ext.refl _ | assumption | apply Ext.alloc | apply Ext.drew | exact ext_plus _ _ | (apply Ext.setCell; rotate_left; (simp <;> omega)) | (apply Ext.trans; rotate_left; exact ext_plus _ _) | (apply Ext.trans; rotate_left; assumption)))))) | (go_at_call 35; refine (HQQ.out _ (by (with_reducible (repeat (first | exact Ext.refl _ | assumption | apply Ext.alloc | apply Ext.drew | exact ext_plus _ _ | (apply Ext.setCell; rotate_left; (simp <;> omega)) | (apply Ext.trans; rotate_left; exact ext_plus _ _) | (apply Ext.trans; rotate_left; assumption)))))).mono ?_; rintro e w3 ⟨rfl, hb3⟩; (try clear k0 l0); obtain ⟨k0, l0⟩ := HBX.out w3 (by (with_reducible (repeat (first | exact Ext.refl _ | assumption | apply Ext.alloc | apply Ext.drew | exact ext_plus _ _ | (apply Ext.setCell; rotate_left; (simp <;> omega)) | (apply Ext.trans; rotate_left; exact ext_plus _ _) | (apply Ext.trans; rotate_left; assumption)))))) | (go_at_call 19; refine (HA.out _ (by (with_reducible (repeat (first | exact Ext.refl _ | assumption | apply Ext.alloc | apply Ext.drew | exact ext_plus _ _ | (apply Ext.setCell; rotate_left; (simp <;> omega)) | (apply Ext.trans; rotate_left; exact ext_plus _ _) | (apply Ext.trans; rotate_left; assumption)))))).mono ?_; rintro e w4 ⟨rfl, hb4⟩; (try clear k0 l0); obtain ⟨k0, l0⟩ := HBX.out w4 (by (with_reducible (repeat (first | exact Ext.refl _ | assumption | apply Ext.alloc | apply Ext.drew | exact ext_plus _ _ | (apply Ext.setCell; rotate_left; (simp <;> omega)) | (apply Ext.trans; rotate_left; exact ext_plus _ _) | (apply Ext.trans; rotate_left; assumption)))))) | (go_at_call 17; refine (known_any _).mono ?_; rintro e wk ⟨rfl, hbk⟩))
        all_goals
          go_ret
          exact ⟨rfl, by (with_reducible (repeat (first | exact Ext.refl _ | assumption | apply Ext.alloc | apply Ext.drew | exact ext_plus _ _ | (apply Ext.setCell; rotate_left; (simp <;> omega)) | (apply Ext.trans; rotate_left; exact ext_plus _ _) | (apply Ext.trans; rotate_left; assumption))))⟩
      | true =>
        have hR := hA
        unfold rightB at hR
        rw [Bool.and_eq_true] at hR
        have O := R.okR_of hR.1
        have OL := R.okL_iff.1 hR.2
        rw [hA] at hask
        have HA := Lib.hid hask
        by_cases h0 : place < 0
        · have e0 : quotaAsk r plan place = false := by unfold quotaAsk R.within; rw [decide_eq_false (by omega : ¬ (0 : Int) ≤ place)]; simp
          have e1 : quotaOf r plan place = 0 := by unfold quotaOf; rw [e0]; rfl
          have e2 : quotaCode r plan place = 2 := by unfold quotaCode; rw [e0]; rfl
          simp only [e1, e2] at hqq
          have HQQ := Lib.hid hqq
          clear hqq hask hA hsh e0 e1 e2 O OL hR
          go_enter Try.func9, Try.ntmps9
          go_upto_region 1 with (fail)
          rw [HW1.out]
          obtain ⟨k0, l0⟩ := HBX.out w1 (Ext.refl _)
          go_wp2_with (first | (go_at_call 15; refine (HS.out _ (by (with_reducible (repeat (first | exact Ext.refl _ | assumption | apply Ext.alloc | apply Ext.drew | exact ext_plus _ _ | (apply Ext.setCell; rotate_left; (simp <;> omega)) | (apply Ext.trans; rotate_left; exact ext_plus _ _) | (apply Ext.trans; rotate_left; assumption)))))).mono ?_; rintro e w2 ⟨rfl, hb2⟩; (try clear k0 l0); obtain ⟨k0, l0⟩ := HBX.out w2 (by (with_reducible (repeat (first | exact Ext.refl _ | assumption | apply Ext.alloc | apply Ext.drew | exact ext_plus _ _ | (apply Ext.setCell; rotate_left; (simp <;> omega)) | (apply Ext.trans; rotate_left; exact ext_plus _ _) | (apply Ext.trans; rotate_left; assumption)))))) | (go_at_call 35; refine (HQQ.out _ (by (with_reducible (repeat (first | exact Ext.refl _ | assumption | apply Ext.alloc | apply Ext.drew | exact ext_plus _ _ | (apply Ext.setCell; rotate_left; (simp <;> omega)) | (apply Ext.trans; rotate_left; exact ext_plus _ _) | (apply Ext.trans; rotate_left; assumption)))))).mono ?_; rintro e w3 ⟨rfl, hb3⟩; (try clear k0 l0); obtain ⟨k0, l0⟩ := HBX.out w3 (by (with_reducible (repeat (first | exact Ext.refl _ | assumption | apply Ext.alloc | apply Ext.drew | exact ext_plus _ _ | (apply Ext.setCell; rotate_left; (simp <;> omega)) | (apply Ext.trans; rotate_left; exact ext_plus _ _) | (apply Ext.trans; rotate_left; assumption)))))) | (go_at_call 19; refine (HA.out _ (by (with_reducible (repeat (first | exact Ext.refl _ | assumption | apply Ext.alloc | apply Ext.drew | exact ext_plus _ _ | (apply Ext.setCell; rotate_left; (simp <;> omega)) | (apply Ext.trans; rotate_left; exact ext_plus _ _) | (apply Ext.trans; rotate_left; assumption)))))).mono ?_; rintro e w4 ⟨rfl, hb4⟩; (try clear k0 l0); obtain ⟨k0, l0⟩ := HBX.out w4 (by (with_reducible (repeat (first | exact Ext.refl _ | assumption | apply Ext.alloc | apply Ext.drew | exact ext_plus _ _ | (apply Ext.setCell; rotate_left; (simp <;> omega)) | (apply Ext.trans; rotate_left; exact ext_plus _ _) | (apply Ext.trans; rotate_left; assumption)))))) | (go_at_call 17; refine (known_any _).mono ?_; rintro e wk ⟨rfl, hbk⟩))
          all_goals
            go_ret
            exact ⟨rfl, by (with_reducible (repeat (first | exact Ext.refl _ | assumption | apply Ext.alloc | apply Ext.drew | exact ext_plus _ _ | (apply Ext.setCell; rotate_left; (simp <;> omega)) | (apply Ext.trans; rotate_left; exact ext_plus _ _) | (apply Ext.trans; rotate_left; assumption))))⟩
        · by_cases h1 : (r.places.length : Int) ≤ place
          · have e0 : quotaAsk r plan place = false := by unfold quotaAsk R.within; rw [decide_eq_false (by omega : ¬ place ≤ (r.places.length : Int) - 1)]; simp
            have e1 : quotaOf r plan place = 0 := by unfold quotaOf; rw [e0]; rfl
            have e2 : quotaCode r plan place = 2 := by unfold quotaCode; rw [e0]; rfl
            simp only [e1, e2] at hqq
            have HQQ := Lib.hid hqq
            clear hqq hask hA hsh e0 e1 e2 O OL hR
            go_enter Try.func9, Try.ntmps9
            go_upto_region 1 with (fail)
            rw [HW1.out]
            obtain ⟨k0, l0⟩ := HBX.out w1 (Ext.refl _)
            go_wp2_with (first | (go_at_call 15; refine (HS.out _ (by (with_reducible (repeat (first | exact Ext.refl _ | assumption | apply Ext.alloc | apply Ext.drew | exact ext_plus _ _ | (apply Ext.setCell; rotate_left; (simp <;> omega)) | (apply Ext.trans; rotate_left; exact ext_plus _ _) | (apply Ext.trans; rotate_left; assumption)))))).mono ?_; rintro e w2 ⟨rfl, hb2⟩; (try clear k0 l0); obtain ⟨k0, l0⟩ := HBX.out w2 (by (with_reducible (repeat (first | exact Ext.refl _ | assumption | apply Ext.alloc | apply Ext.drew | exact ext_plus _ _ | (apply Ext.setCell; rotate_left; (simp <;> omega)) | (apply Ext.trans; rotate_left; exact ext_plus _ _) | (apply Ext.trans; rotate_left; assumption)))))) | (go_at_call 35; refine (HQQ.out _ (by (with_reducible (repeat (first | exact Ext.refl _ | assumption | apply Ext.alloc | apply Ext.drew | exact ext_plus _ _ | (apply Ext.setCell; rotate_left; (simp <;> omega)) | (apply Ext.trans; rotate_left; exact ext_plus _ _) | (apply Ext.trans; rotate_left; assumption)))))).mono ?_; rintro e w3 ⟨rfl, hb3⟩; (try clear k0 l0); obtain ⟨k0, l0⟩ := HBX.out w3 (by (with_reducible (repeat (first | exact Ext.refl _ | assumption | apply Ext.alloc | apply Ext.drew | exact ext_plus _ _ | (apply Ext.setCell; rotate_left; (simp <;> omega)) | (apply Ext.trans; rotate_left; exact ext_plus _ _) | (apply Ext.trans; rotate_left; assumption)))))) | (go_at_call 19; refine (HA.out _ (by (with_reducible (repeat (first | exact Ext.refl _ | assumption | apply Ext.alloc | apply Ext.drew | exact ext_plus _ _ | (apply Ext.setCell; rotate_left; (simp <;> omega)) | (apply Ext.trans; rotate_left; exact ext_plus _ _) | (apply Ext.trans; rotate_left; assumption)))))).mono ?_; rintro e w4 ⟨rfl, hb4⟩; (try clear k0 l0); obtain ⟨k0, l0⟩ := HBX.out w4 (by (with_reducible (repeat (first | exact Ext.refl _ | assumption | apply Ext.alloc | apply Ext.drew | exact ext_plus _ _ | (apply Ext.setCell; rotate_left; (simp <;> omega)) | (apply Ext.trans; rotate_left; exact ext_plus _ _) | (apply Ext.trans; rotate_left; assumption)))))) | (go_at_call 17; refine (known_any _).mono ?_; rintro e wk ⟨rfl, hbk⟩))
            all_goals
              go_ret
              exact ⟨rfl, by (with_reducible (repeat (first | exact Ext.refl _ | assumption | apply Ext.alloc | apply Ext.drew | exact ext_plus _ _ | (apply Ext.setCell; rotate_left; (simp <;> omega)) | (apply Ext.trans; rotate_left; exact ext_plus _ _) | (apply Ext.trans; rotate_left; assumption))))⟩
          · obtain ⟨k, rfl⟩ := Int.eq_ofNat_of_zero_le (show 0 ≤ place by omega)
            have hk : k < r.places.length := by omega
            have e0 : quotaAsk r plan (k : Int) = true := by unfold quotaAsk R.within; rw [hA, decide_eq_true (by omega : (0 : Int) ≤ k), decide_eq_true (by omega : (k : Int) ≤ (r.places.length : Int) - 1)]; rfl
            have hdq := fun w' (hx : Ext w w') => dquota_any r plan k _ _ w' (hP.ext hx) (hL.ext hx) O OL hk
            have hqe := dquota_eq O plan k hk
            have hnn := R.least_bd (quotaB r plan (k : Int).toNat) 40 0 1000001 (by omega)
            have e1 : quotaOf r plan (k : Int) = if quotaN r plan k = 0 then 0 else quotaN r plan k - 1 := by unfold quotaOf; rw [e0]; rfl
            have e2 : quotaCode r plan (k : Int) = if quotaN r plan k = 0 then 5 else 0 := by unfold quotaCode; rw [e0]; rfl
            simp only [e1, e2] at hqq
            simp only [hqe] at hdq
            obtain ⟨N, hN⟩ : ∃ N, quotaN r plan k = N := ⟨_, rfl⟩
            have hN0 : 0 ≤ N := by rw [← hN]; exact hnn.1
            simp only [hN] at hqq hdq
            by_cases hz : N = 0
            · subst hz
              simp only [if_true, show (0 : Int) - 1 = -1 from rfl] at hqq hdq
              have HQQ := Lib.hid hqq
              have HD := Lib.hid hdq
              clear hqq hask hA hsh e0 e1 e2 O OL hR hdq hqe hnn hN h0
              go_enter Try.func9, Try.ntmps9
              go_upto_region 1 with (fail)
              rw [HW1.out]
              obtain ⟨k0, l0⟩ := HBX.out w1 (Ext.refl _)
              go_wp2_with (first | (go_at_call 15; refine (HS.out _ (by (with_reducible (repeat (first | exact Ext.refl _ | assumption | apply Ext.alloc | apply Ext.drew | exact ext_plus _ _ | (apply Ext.setCell; rotate_left; (simp <;> omega)) | (apply Ext.trans; rotate_left; exact ext_plus _ _) | (apply Ext.trans; rotate_left; assumption)))))).mono ?_; rintro e w2 ⟨rfl, hb2⟩; (try clear k0 l0); obtain ⟨k0, l0⟩ := HBX.out w2 (by (with_reducible (repeat (first | exact Ext.refl _ | assumption | apply Ext.alloc | apply Ext.drew | exact ext_plus _ _ | (apply Ext.setCell; rotate_left; (simp <;> omega)) | (apply Ext.trans; rotate_left; exact ext_plus _ _) | (apply Ext.trans; rotate_left; assumption)))))) | (go_at_call 35; refine (HQQ.out _ (by (with_reducible (repeat (first | exact Ext.refl _ | assumption | apply Ext.alloc | apply Ext.drew | exact ext_plus _ _ | (apply Ext.setCell; rotate_left; (simp <;> omega)) | (apply Ext.trans; rotate_left; exact ext_plus _ _) | (apply Ext.trans; rotate_left; assumption)))))).mono ?_; rintro e w3 ⟨rfl, hb3⟩; (try clear k0 l0); obtain ⟨k0, l0⟩ := HBX.out w3 (by (with_reducible (repeat (first | exact Ext.refl _ | assumption | apply Ext.alloc | apply Ext.drew | exact ext_plus _ _ | (apply Ext.setCell; rotate_left; (simp <;> omega)) | (apply Ext.trans; rotate_left; exact ext_plus _ _) | (apply Ext.trans; rotate_left; assumption)))))) | (go_at_call 19; refine (HA.out _ (by (with_reducible (repeat (first | exact Ext.refl _ | assumption | apply Ext.alloc | apply Ext.drew | exact ext_plus _ _ | (apply Ext.setCell; rotate_left; (simp <;> omega)) | (apply Ext.trans; rotate_left; exact ext_plus _ _) | (apply Ext.trans; rotate_left; assumption)))))).mono ?_; rintro e w4 ⟨rfl, hb4⟩; (try clear k0 l0); obtain ⟨k0, l0⟩ := HBX.out w4 (by (with_reducible (repeat (first | exact Ext.refl _ | assumption | apply Ext.alloc | apply Ext.drew | exact ext_plus _ _ | (apply Ext.setCell; rotate_left; (simp <;> omega)) | (apply Ext.trans; rotate_left; exact ext_plus _ _) | (apply Ext.trans; rotate_left; assumption)))))) | (go_at_call 36; refine (HD.out _ (by (with_reducible (repeat (first | exact Ext.refl _ | assumption | apply Ext.alloc | apply Ext.drew | exact ext_plus _ _ | (apply Ext.setCell; rotate_left; (simp <;> omega)) | (apply Ext.trans; rotate_left; exact ext_plus _ _) | (apply Ext.trans; rotate_left; assumption)))))).mono ?_; rintro e w5 ⟨rfl, hb5⟩; (try clear k0 l0); obtain ⟨k0, l0⟩ := HBX.out w5 (by (with_reducible (repeat (first | exact Ext.refl _ | assumption | apply Ext.alloc | apply Ext.drew | exact ext_plus _ _ | (apply Ext.setCell; rotate_left; (simp <;> omega)) | (apply Ext.trans; rotate_left; exact ext_plus _ _) | (apply Ext.trans; rotate_left; assumption)))))) | (go_at_call 17; refine (known_any _).mono ?_; rintro e wk ⟨rfl, hbk⟩))
              all_goals
                go_ret
                exact ⟨rfl, by (with_reducible (repeat (first | exact Ext.refl _ | assumption | apply Ext.alloc | apply Ext.drew | exact ext_plus _ _ | (apply Ext.setCell; rotate_left; (simp <;> omega)) | (apply Ext.trans; rotate_left; exact ext_plus _ _) | (apply Ext.trans; rotate_left; assumption))))⟩
            · simp only [if_neg hz] at hqq
              obtain ⟨y, hy⟩ : ∃ y, N - 1 = y := ⟨_, rfl⟩
              simp only [hy] at hqq hdq
              have hy0 : ¬ y < 0 := by omega
              have HQQ := Lib.hid hqq
              have HD := Lib.hid hdq
              clear hqq hask hA hsh e0 e1 e2 O OL hR hdq hqe hnn hN hz hy hN0 h0
              go_enter Try.func9, Try.ntmps9
              go_upto_region 1 with (fail)
              rw [HW1.out]
              obtain ⟨k0, l0⟩ := HBX.out w1 (Ext.refl _)
              go_wp2_with (first | (go_at_call 15; refine (HS.out _ (by (with_reducible (repeat (first | exact Ext.refl _ | assumption | apply Ext.alloc | apply Ext.drew | exact ext_plus _ _ | (apply Ext.setCell; rotate_left; (simp <;> omega)) | (apply Ext.trans; rotate_left; exact ext_plus _ _) | (apply Ext.trans; rotate_left; assumption)))))).mono ?_; rintro e w2 ⟨rfl, hb2⟩; (try clear k0 l0); obtain ⟨k0, l0⟩ := HBX.out w2 (by (with_reducible (repeat (first | exact Ext.refl _ | assumption | apply Ext.alloc | apply Ext.drew | exact ext_plus _ _ | (apply Ext.setCell; rotate_left; (simp <;> omega)) | (apply Ext.trans; rotate_left; exact ext_plus _ _) | (apply Ext.trans; rotate_left; assumption)))))) | (go_at_call 35; refine (HQQ.out _ (by (with_reducible (repeat (first | exact Ext.refl _ | assumption | apply Ext.alloc | apply Ext.drew | exact ext_plus _ _ | (apply Ext.setCell; rotate_left; (simp <;> omega)) | (apply Ext.trans; rotate_left; exact ext_plus _ _) | (apply Ext.trans; rotate_left; assumption)))))).mono ?_; rintro e w3 ⟨rfl, hb3⟩; (try clear k0 l0); obtain ⟨k0, l0⟩ := HBX.out w3 (by (with_reducible (repeat (first | exact Ext.refl _ | assumption | apply Ext.alloc | apply Ext.drew | exact ext_plus _ _ | (apply Ext.setCell; rotate_left; (simp <;> omega)) | (apply Ext.trans; rotate_left; exact ext_plus _ _) | (apply Ext.trans; rotate_left; assumption)))))) | (go_at_call 19; refine (HA.out _ (by (with_reducible (repeat (first | exact Ext.refl _ | assumption | apply Ext.alloc | apply Ext.drew | exact ext_plus _ _ | (apply Ext.setCell; rotate_left; (simp <;> omega)) | (apply Ext.trans; rotate_left; exact ext_plus _ _) | (apply Ext.trans; rotate_left; assumption)))))).mono ?_; rintro e w4 ⟨rfl, hb4⟩; (try clear k0 l0); obtain ⟨k0, l0⟩ := HBX.out w4 (by (with_reducible (repeat (first | exact Ext.refl _ | assumption | apply Ext.alloc | apply Ext.drew | exact ext_plus _ _ | (apply Ext.setCell; rotate_left; (simp <;> omega)) | (apply Ext.trans; rotate_left; exact ext_plus _ _) | (apply Ext.trans; rotate_left; assumption)))))) | (go_at_call 36; refine (HD.out _ (by (with_reducible (repeat (first | exact Ext.refl _ | assumption | apply Ext.alloc | apply Ext.drew | exact ext_plus _ _ | (apply Ext.setCell; rotate_left; (simp <;> omega)) | (apply Ext.trans; rotate_left; exact ext_plus _ _) | (apply Ext.trans; rotate_left; assumption)))))).mono ?_; rintro e w5 ⟨rfl, hb5⟩; (try clear k0 l0); obtain ⟨k0, l0⟩ := HBX.out w5 (by (with_reducible (repeat (first | exact Ext.refl _ | assumption | apply Ext.alloc | apply Ext.drew | exact ext_plus _ _ | (apply Ext.setCell; rotate_left; (simp <;> omega)) | (apply Ext.trans; rotate_left; exact ext_plus _ _) | (apply Ext.trans; rotate_left; assumption)))))) | (go_at_call 17; refine (known_any _).mono ?_; rintro e wk ⟨rfl, hbk⟩))
              all_goals
                go_ret
                exact ⟨rfl, by (with_reducible (repeat (first | exact Ext.refl _ | assumption | apply Ext.alloc | apply Ext.drew | exact ext_plus _ _ | (apply Ext.setCell; rotate_left; (simp <;> omega)) | (apply Ext.trans; rotate_left; exact ext_plus _ _) | (apply Ext.trans; rotate_left; assumption))))⟩
    · have hpi : (8 : Int) < plan.length := by omega
      clear hpl hsh
      go_enter Try.func9, Try.ntmps9
      go_upto_region 1 with (fail)
      rw [HW1.out]
      obtain ⟨k0, l0⟩ := HBX.out w1 (Ext.refl _)
      go_wp2_with (first | (go_at_call 15; refine (HS.out _ (by (with_reducible (repeat (first | exact Ext.refl _ | assumption | apply Ext.alloc | apply Ext.drew | exact ext_plus _ _ | (apply Ext.setCell; rotate_left; (simp <;> omega)) | (apply Ext.trans; rotate_left; exact ext_plus _ _) | (apply Ext.trans; rotate_left; assumption)))))).mono ?_; rintro e w2 ⟨rfl, hb2⟩; (try clear k0 l0); obtain ⟨k0, l0⟩ := HBX.out w2 (by (with_reducible (repeat (first | exact Ext.refl _ | assumption | apply Ext.alloc | apply Ext.drew | exact ext_plus _ _ | (apply Ext.setCell; rotate_left; (simp <;> omega)) | (apply Ext.trans; rotate_left; exact ext_plus _ _) | (apply Ext.trans; rotate_left; assumption)))))) | (go_at_call 17; refine (known_any _).mono ?_; rintro e wk ⟨rfl, hbk⟩))
      all_goals
        go_ret
        exact ⟨rfl, by (with_reducible (repeat (first | exact Ext.refl _ | assumption | apply Ext.alloc | apply Ext.drew | exact ext_plus _ _ | (apply Ext.setCell; rotate_left; (simp <;> omega)) | (apply Ext.trans; rotate_left; exact ext_plus _ _) | (apply Ext.trans; rotate_left; assumption))))⟩
  · have hsf : shortR r = false := by simpa using hsh
    rw [hsf] at hs
    have HS := Lib.hid hs
    clear hs hsf hsh
    go_enter Try.func9, Try.ntmps9
    go_upto_region 1 with (fail)
    rw [HW1.out]
    obtain ⟨k0, l0⟩ := HBX.out w1 (Ext.refl _)
    go_wp2_with (first | (go_at_call 15; refine (HS.out _ (by (with_reducible (repeat (first | exact Ext.refl _ | assumption | apply Ext.alloc | apply Ext.drew | exact ext_plus _ _ | (apply Ext.setCell; rotate_left; (simp <;> omega)) | (apply Ext.trans; rotate_left; exact ext_plus _ _) | (apply Ext.trans; rotate_left; assumption)))))).mono ?_; rintro e w2 ⟨rfl, hb2⟩; (try clear k0 l0); obtain ⟨k0, l0⟩ := HBX.out w2 (by (with_reducible (repeat (first | exact Ext.refl _ | assumption | apply Ext.alloc | apply Ext.drew | exact ext_plus _ _ | (apply Ext.setCell; rotate_left; (simp <;> omega)) | (apply Ext.trans; rotate_left; exact ext_plus _ _) | (apply Ext.trans; rotate_left; assumption)))))) | (go_at_call 17; refine (known_any _).mono ?_; rintro e wk ⟨rfl, hbk⟩))
    all_goals
      go_ret
      exact ⟨rfl, by (with_reducible (repeat (first | exact Ext.refl _ | assumption | apply Ext.alloc | apply Ext.drew | exact ext_plus _ _ | (apply Ext.setCell; rotate_left; (simp <;> omega)) | (apply Ext.trans; rotate_left; exact ext_plus _ _) | (apply Ext.trans; rotate_left; assumption))))⟩
end Go.Proofs.Ythffoglpekpmdaa
