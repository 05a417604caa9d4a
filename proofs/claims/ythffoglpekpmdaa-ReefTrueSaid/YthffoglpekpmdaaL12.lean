/- The law ReefTrue. -/
import Derived.Test.YthffoglpekpmdaaK2
import Derived.Test.YthffoglpekpmdaaD8
import Derived.Test.YthffoglpekpmdaaD9
namespace Go.Proofs.Ythffoglpekpmdaa
set_option linter.unusedVariables false
set_option linter.unusedSimpArgs false
open Go.RowKit
/-- A season's fish x, its stocks y, its counts z. -/
structure RowOk (r : R.Reef) (x : List Int) (y z : List (Int × Int)) : Prop where
  len : x.length ≤ 1000000
  ly : y.length = x.length
  lz : z.length = x.length
  el : ∀ i (h : i < x.length) (hy : i < y.length) (hz : i < z.length), R.within x[i] y[i].1 y[i].2 = true ∧ ∀ c, countsB r c x[i] = true → R.within c z[i].1 z[i].2 = true
theorem rows_ok {r : R.Reef} {plan : List Int} {t : R.Truth} (O : R.OkR r) (T : R.OkT r plan t) : ∀ l ∈ R.fishOf r t, l.length = r.places.length ∧ ∀ x ∈ l, 0 ≤ x ∧ x ≤ 1000000000 := by
  intro l hl
  obtain ⟨i, hi, rfl⟩ := List.getElem_of_mem hl
  rw [R.fishOf_len] at hi
  have h1 := R.fishOf_row O T (s := i) hi
  rw [R.lat_at (by rw [R.fishOf_len]; exact hi)] at h1
  refine ⟨h1, fun x hx => ?_⟩
  obtain ⟨j, hj, rfl⟩ := List.getElem_of_mem hx
  have h2 := R.fishOf_bd O T (s := i) hi j
  rw [R.lat_at (by rw [R.fishOf_len]; exact hi), R.iat_at hj] at h2
  omega
theorem row_true {r : R.Reef} {plan : List Int} {t : R.Truth} (O : R.OkR r) (T : R.OkT r plan t) {s : Nat} (hx : s < (R.fishOf r t).length) (hk : s < (R.stocks r plan).length) (hc : s < (counts r plan).length) : RowOk r (R.fishOf r t)[s] (R.stocks r plan)[s] (counts r plan)[s] := by
  have hs : s < r.seasons.toNat := by rw [R.fishOf_len] at hx; exact hx
  have hl := (rows_ok O T _ (List.getElem_mem hx)).1
  obtain ⟨k1, k2⟩ := R.stocks_at r plan hk
  obtain ⟨c1, c2⟩ := counts_at O plan hk hc
  have hn4 := O.n4
  refine ⟨by omega, by omega, by omega, fun i h hy hz => ?_⟩
  have hb := R.between O T (s + 1) (by omega)
  have hb1 := hb.1 i
  have hb2 := hb.2 i
  rw [← R.fishOf_at _ _ hs, ← R.fishOf_at _ _ hs] at hb1 hb2
  have e : R.iat (R.lat (R.fishOf r t) s) i = (R.fishOf r t)[s][i] := by rw [R.lat_at hx, R.iat_at h]
  rw [e] at hb1 hb2
  have hk2 := k2 i hy
  have hbd := R.stocks_bd O plan hk i hy
  have hc2 := c2 i hy hz
  rw [hc2]
  unfold countedD
  rw [hk2] at hbd ⊢
  dsimp only at hbd ⊢
  refine ⟨by unfold R.within; rw [decide_eq_true hb1, decide_eq_true hb2]; rfl, fun c hcb => ?_⟩
  unfold countsB at hcb
  simp only [Bool.and_eq_true, decide_eq_true_eq] at hcb
  obtain ⟨b1, b2, b3, b4⟩ := counted_least O hbd.1 (by omega)
  unfold R.within
  have h1 : R.least (countB r (R.iat (R.lat (R.fishOf r (R.endT r plan false)) s) i)) 40 0 (R.iat (R.lat (R.fishOf r (R.endT r plan false)) s) i) ≤ c := by
    rcases Int.lt_or_le c (R.least (countB r (R.iat (R.lat (R.fishOf r (R.endT r plan false)) s) i)) 40 0 (R.iat (R.lat (R.fishOf r (R.endT r plan false)) s) i)) with hlt | hle
    · rcases Int.lt_or_le c 0 with hc0 | hc0
      · have hm : R.most r c ≤ R.most r 0 := R.most_mono O (by omega)
        have hm0 : R.most r 0 = 0 := by simp [R.most]
        have := b4 0 (Int.le_refl _)
        rcases Int.lt_or_le 0 (R.least (countB r (R.iat (R.lat (R.fishOf r (R.endT r plan false)) s) i)) 40 0 (R.iat (R.lat (R.fishOf r (R.endT r plan false)) s) i)) with h5 | h5
        · have := b4 0 (Int.le_refl _) h5
          omega
        · have h6 : R.most r (R.least (countB r (R.iat (R.lat (R.fishOf r (R.endT r plan false)) s) i)) 40 0 (R.iat (R.lat (R.fishOf r (R.endT r plan false)) s) i)) ≤ R.most r 0 := R.most_mono O h5
          have h7 : R.most r c ≤ c := by
            unfold R.most
            have h8 : c * r.miss ≤ 0 := Int.mul_nonpos_of_nonpos_of_nonneg (by omega) O.m0
            omega
          omega
      · have := b4 c hc0 hlt
        omega
    · exact hle
  rw [decide_eq_true h1, decide_eq_true (by omega : c ≤ _)]
  rfl
set_option maxRecDepth 100000 in
set_option maxHeartbeats 16000000 in
theorem reefTrue_law (r : R.Reef) (vr : Value) (plan : List Int) (vp : Value) (t : R.Truth) (vs vg vt : Value) (count : Int) (hwfcount : (Lit.int .i64 count).wf = true) (w : World) (hP : Places w vr r.places) (hL : Ints w vp plan) (hS : Ints w vs t.starts) (hG : Lists w vg t.grows) (hT : Lists w vt t.takes) :
    Calls Try.prog 12 #[.agg (reefV r vr), vp, .agg (truthV vs vg vt), .int .i64 count] w fun e w' => e = .returned (.bool true) ∧ Ext w w' := by
  have hP' := hP
  have hL' := hL
  have hS' := hS
  have hG' := hG
  have hT' := hT
  obtain ⟨a1, c1, rfl, hPx⟩ := hP'
  obtain ⟨a2, c2, rfl, hLx⟩ := hL'
  obtain ⟨a3, c3, rfl, hSx⟩ := hS'
  obtain ⟨a4, c4, rfl, hGx⟩ := hG'
  obtain ⟨a5, c5, rfl, hTx⟩ := hT'
  have HPX := Lib.hid hPx
  have HLX := Lib.hid hLx
  have HSX := Lib.hid hSx
  have HGX := Lib.hid hGx
  have HTX := Lib.hid hTx
  clear hPx hLx hSx hGx hTx
  obtain ⟨w1, hw1⟩ : ∃ w1, ((w.alloc (.cells (reefV r (.slice a1 r.places.length c1)) 24)).alloc (.cells (truthV (.slice a3 t.starts.length c3) (.slice a4 t.grows.length c4) (.slice a5 t.takes.length c5)) 28)) = w1 := ⟨_, rfl⟩
  have hE1 : Ext w w1 := by rw [← hw1]; (with_reducible (repeat (first | exact Ext.refl _ | assumption | apply Ext.alloc | apply Ext.drew | exact ext_plus _ _ | (apply Ext.setCell; rotate_left; (simp <;> omega)) | (apply Ext.trans; rotate_left; exact ext_plus _ _) | (apply Ext.trans; rotate_left; assumption))))
  have hb0 : Blk w1 (w.heap.size) (reefV r (.slice a1 r.places.length c1)) 24 := by rw [← hw1]; exact (Blk.new' rfl _ _).alloc _
  have hb1 : Blk w1 (w.heap.size + 1) (truthV (.slice a3 t.starts.length c3) (.slice a4 t.grows.length c4) (.slice a5 t.takes.length c5)) 28 := by rw [← hw1]; exact Blk.new' (by simp) _ _
  have hbx := fun y (hy : Ext w1 y) => (⟨(hb0.ext hy).cell, (hb1.ext hy).cell, (hb0.ext hy).lt, (hb1.ext hy).lt⟩ : (∀ o, y.cell? ⟨w.heap.size, o, none⟩ = _) ∧ (∀ o, y.cell? ⟨w.heap.size + 1, o, none⟩ = _) ∧ w.heap.size < y.heap.size ∧ w.heap.size + 1 < y.heap.size)
  have HBX := Lib.hid hbx
  have HW1 := Lib.hid hw1
  clear hw1 hb0 hb1 hbx
  clear hwfcount
  have hfr := fun w' (hx : Ext w w') => fair_any r plan t _ _ _ _ _ w' (hP.ext hx) (hL.ext hx) (hS.ext hx) (hG.ext hx) (hT.ext hx)
  cases hfair : fairB r plan t with
  | false =>
    rw [hfair] at hfr
    have HFR := Lib.hid hfr
    clear hfr hfair
    go_enter Try.func12, Try.ntmps12
    go_upto_region 1 with (fail)
    rw [HW1.out]
    obtain ⟨k0, k1, l0, l1⟩ := HBX.out w1 (Ext.refl _)
    go_wp2_with (first | (go_at_call 23; refine (HFR.out _ (by (with_reducible (repeat (first | exact Ext.refl _ | assumption | apply Ext.alloc | apply Ext.drew | exact ext_plus _ _ | (apply Ext.setCell; rotate_left; (simp <;> omega)) | (apply Ext.trans; rotate_left; exact ext_plus _ _) | (apply Ext.trans; rotate_left; assumption)))))).mono ?_; rintro e w2 ⟨rfl, hb2⟩; (try clear k0 k1 l0 l1); obtain ⟨k0, k1, l0, l1⟩ := HBX.out w2 (by (with_reducible (repeat (first | exact Ext.refl _ | assumption | apply Ext.alloc | apply Ext.drew | exact ext_plus _ _ | (apply Ext.setCell; rotate_left; (simp <;> omega)) | (apply Ext.trans; rotate_left; exact ext_plus _ _) | (apply Ext.trans; rotate_left; assumption)))))) | (go_at_call 17; refine (known_any _).mono ?_; rintro e wk ⟨rfl, hbk⟩))
    all_goals
      go_ret
      exact ⟨rfl, by (with_reducible (repeat (first | exact Ext.refl _ | assumption | apply Ext.alloc | apply Ext.drew | exact ext_plus _ _ | (apply Ext.setCell; rotate_left; (simp <;> omega)) | (apply Ext.trans; rotate_left; exact ext_plus _ _) | (apply Ext.trans; rotate_left; assumption))))⟩
  | true =>
    rw [hfair] at hfr
    have HFR := Lib.hid hfr
    by_cases hc0 : count < 0
    · clear hfr hfair
      go_enter Try.func12, Try.ntmps12
      go_upto_region 1 with (fail)
      rw [HW1.out]
      obtain ⟨k0, k1, l0, l1⟩ := HBX.out w1 (Ext.refl _)
      go_wp2_with (first | (go_at_call 23; refine (HFR.out _ (by (with_reducible (repeat (first | exact Ext.refl _ | assumption | apply Ext.alloc | apply Ext.drew | exact ext_plus _ _ | (apply Ext.setCell; rotate_left; (simp <;> omega)) | (apply Ext.trans; rotate_left; exact ext_plus _ _) | (apply Ext.trans; rotate_left; assumption)))))).mono ?_; rintro e w2 ⟨rfl, hb2⟩; (try clear k0 k1 l0 l1); obtain ⟨k0, k1, l0, l1⟩ := HBX.out w2 (by (with_reducible (repeat (first | exact Ext.refl _ | assumption | apply Ext.alloc | apply Ext.drew | exact ext_plus _ _ | (apply Ext.setCell; rotate_left; (simp <;> omega)) | (apply Ext.trans; rotate_left; exact ext_plus _ _) | (apply Ext.trans; rotate_left; assumption)))))) | (go_at_call 17; refine (known_any _).mono ?_; rintro e wk ⟨rfl, hbk⟩))
      all_goals
        go_ret
        exact ⟨rfl, by (with_reducible (repeat (first | exact Ext.refl _ | assumption | apply Ext.alloc | apply Ext.drew | exact ext_plus _ _ | (apply Ext.setCell; rotate_left; (simp <;> omega)) | (apply Ext.trans; rotate_left; exact ext_plus _ _) | (apply Ext.trans; rotate_left; assumption))))⟩
    · by_cases hc1 : 100000000 < count
      · clear hfr hfair
        go_enter Try.func12, Try.ntmps12
        go_upto_region 1 with (fail)
        rw [HW1.out]
        obtain ⟨k0, k1, l0, l1⟩ := HBX.out w1 (Ext.refl _)
        go_wp2_with (first | (go_at_call 23; refine (HFR.out _ (by (with_reducible (repeat (first | exact Ext.refl _ | assumption | apply Ext.alloc | apply Ext.drew | exact ext_plus _ _ | (apply Ext.setCell; rotate_left; (simp <;> omega)) | (apply Ext.trans; rotate_left; exact ext_plus _ _) | (apply Ext.trans; rotate_left; assumption)))))).mono ?_; rintro e w2 ⟨rfl, hb2⟩; (try clear k0 k1 l0 l1); obtain ⟨k0, k1, l0, l1⟩ := HBX.out w2 (by (with_reducible (repeat (first | exact Ext.refl _ | assumption | apply Ext.alloc | apply Ext.drew | exact ext_plus _ _ | (apply Ext.setCell; rotate_left; (simp <;> omega)) | (apply Ext.trans; rotate_left; exact ext_plus _ _) | (apply Ext.trans; rotate_left; assumption)))))) | (go_at_call 17; refine (known_any _).mono ?_; rintro e wk ⟨rfl, hbk⟩))
        all_goals
          go_ret
          exact ⟨rfl, by (with_reducible (repeat (first | exact Ext.refl _ | assumption | apply Ext.alloc | apply Ext.drew | exact ext_plus _ _ | (apply Ext.setCell; rotate_left; (simp <;> omega)) | (apply Ext.trans; rotate_left; exact ext_plus _ _) | (apply Ext.trans; rotate_left; assumption))))⟩
      · obtain ⟨O, OL, T, hA, hB⟩ := fair_bd hfair
        have hsz := hfair
        unfold fairB at hsz
        simp only [Bool.and_eq_true, decide_eq_true_eq] at hsz
        obtain ⟨⟨⟨⟨hsh, hpl⟩, hsz⟩, _⟩, _⟩ := hsz
        obtain ⟨z1, z2, z3, z4, z5⟩ := sized_bd hsz
        have hn4 := O.n4
        have hs4 := O.s4
        have hs1 := O.s1
        have hpla := fun w' (hx : Ext w w') => play_any r plan t _ _ _ _ _ w' (hP.ext hx) (hL.ext hx) (hS.ext hx) (hG.ext hx) (hT.ext hx) (by omega) (by omega) (by omega) (by omega) (by omega) (fun l hl => by have := z4 l hl; omega) (fun l hl => by have := z5 l hl; omega)
        have hpo : playOk r plan t = true := by unfold playOk; rw [hA, hB]; rfl
        have hst := fun w' (hx : Ext w w') => stocksQ_any r plan _ _ w' (hP.ext hx) (hL.ext hx) (by omega) (by omega)
        have hct := fun w' (hx : Ext w w') => counts_any r plan _ _ w' (hP.ext hx) (hL.ext hx) (by omega) (by omega)
        have hXr := rows_ok O T
        have hXl := R.fishOf_len r t
        have hKl := R.stocks_len r plan
        have hCl := (counts_len r plan).trans hKl
        have hrw := fun s hx hk hc => row_true O T (s := s) hx hk hc
        have hsp := fun w' v (hx : Ext w w') (hv : Lists w' v (R.fishOf r t)) => shaped_any r (R.fishOf r t) _ v w' (hP.ext hx) hv (by omega) (by omega) (by omega) hXr
        obtain ⟨led, hled⟩ : ∃ led, R.ledger r t = led := ⟨_, rfl⟩
        obtain ⟨X, hX⟩ : ∃ X, R.fishOf r t = X := ⟨_, rfl⟩
        obtain ⟨K, hK⟩ : ∃ K, R.stocks r plan = K := ⟨_, rfl⟩
        obtain ⟨C, hC⟩ : ∃ C, counts r plan = C := ⟨_, rfl⟩
        have hrow : ∀ s (h : s < X.length) (hk : s < K.length) (hc : s < C.length), RowOk r X[s] K[s] C[s] := by subst hX hK hC; exact hrw
        simp only [hpo, hled, hX, if_true, show codeOf true = 0 from rfl] at hpla
        simp only [hA, hK, if_true, show codeOf true = 0 from rfl] at hst
        simp only [hA, hC, if_true, show codeOf true = 0 from rfl] at hct
        simp only [hX] at hsp hXl
        rw [hK] at hKl
        rw [hC] at hCl
        have hpla2 : ∀ w', Ext w w' → Calls Try.prog 18 #[.agg (reefV r (.slice a1 r.places.length c1)), .slice a2 plan.length c2, .agg (truthV (.slice a3 t.starts.length c3) (.slice a4 t.grows.length c4) (.slice a5 t.takes.length c5))] w' fun x w2 => ∃ v, x = .returned (.tuple #[v, .agg (ledgerV led), .int .i64 0]) ∧ Lists w2 v X ∧ Ext w' w2 := fun w' hx => (hpla w' hx).mono fun e w2 ⟨v, h1, h2, h3⟩ => ⟨v, h1, h2.lists, h3⟩
        have HPL := Lib.hid hpla2
        have HST := Lib.hid hst
        have HCT := Lib.hid hct
        have HSP := Lib.hid hsp
        have HROW := Lib.hid hrow
        have HLK := Lib.hid (show K.length = X.length by omega)
        have HLC := Lib.hid (show C.length = X.length by omega)
        have HMI := Lib.hid (show 0 ≤ r.miss ∧ r.miss ≤ 2000 from ⟨O.m0, O.m1⟩)
        have hn1 : ((K.length : Int) != (X.length : Int)) = false := by simp [HLK.out]
        have hn2 : ((C.length : Int) != (X.length : Int)) = false := by simp [HLC.out]
        have hXle : X.length ≤ 1000000 := by omega
        clear hfr hfair hsz hA hB hpla hpla2 hst hct hsp O OL T hpo hX hK hC hXl hKl hCl hrw hrow hled hXr z1 z2 z3 z4 z5 hsh hpl hs1 hs4
        go_enter Try.func12, Try.ntmps12
        go_upto_region 1 with (fail)
        rw [HW1.out]
        obtain ⟨k0, k1, l0, l1⟩ := HBX.out w1 (Ext.refl _)
        go_upto_region 8 with (first | (go_at_call 23; refine (HFR.out _ (by (with_reducible (repeat (first | exact Ext.refl _ | assumption | apply Ext.alloc | apply Ext.drew | exact ext_plus _ _ | (apply Ext.setCell; rotate_left; (simp <;> omega)) | (apply Ext.trans; rotate_left; exact ext_plus _ _) | (apply Ext.trans; rotate_left; assumption)))))).mono ?_; rintro e w2 ⟨rfl, hb2⟩; (try clear k0 k1 l0 l1); obtain ⟨k0, k1, l0, l1⟩ := HBX.out w2 (by (with_reducible (repeat (first | exact Ext.refl _ | assumption | apply Ext.alloc | apply Ext.drew | exact ext_plus _ _ | (apply Ext.setCell; rotate_left; (simp <;> omega)) | (apply Ext.trans; rotate_left; exact ext_plus _ _) | (apply Ext.trans; rotate_left; assumption)))))) | (go_at_call 18; refine (HPL.out _ (by (with_reducible (repeat (first | exact Ext.refl _ | assumption | apply Ext.alloc | apply Ext.drew | exact ext_plus _ _ | (apply Ext.setCell; rotate_left; (simp <;> omega)) | (apply Ext.trans; rotate_left; exact ext_plus _ _) | (apply Ext.trans; rotate_left; assumption)))))).mono ?_; rintro e w3 ⟨vl, rfl, hvl, hb3⟩; obtain ⟨al, cl, rfl, _⟩ := id hvl; have HVL := Lib.hid hvl; clear hvl; (try clear k0 k1 l0 l1); obtain ⟨k0, k1, l0, l1⟩ := HBX.out w3 (by (with_reducible (repeat (first | exact Ext.refl _ | assumption | apply Ext.alloc | apply Ext.drew | exact ext_plus _ _ | (apply Ext.setCell; rotate_left; (simp <;> omega)) | (apply Ext.trans; rotate_left; exact ext_plus _ _) | (apply Ext.trans; rotate_left; assumption)))))) | (go_at_call 41; refine (HST.out _ (by (with_reducible (repeat (first | exact Ext.refl _ | assumption | apply Ext.alloc | apply Ext.drew | exact ext_plus _ _ | (apply Ext.setCell; rotate_left; (simp <;> omega)) | (apply Ext.trans; rotate_left; exact ext_plus _ _) | (apply Ext.trans; rotate_left; assumption)))))).mono ?_; rintro e w4 ⟨vk, rfl, hvk, hb4⟩; obtain ⟨ak, ck, rfl, _⟩ := id hvk; have HVK := Lib.hid hvk; clear hvk; (try clear k0 k1 l0 l1); obtain ⟨k0, k1, l0, l1⟩ := HBX.out w4 (by (with_reducible (repeat (first | exact Ext.refl _ | assumption | apply Ext.alloc | apply Ext.drew | exact ext_plus _ _ | (apply Ext.setCell; rotate_left; (simp <;> omega)) | (apply Ext.trans; rotate_left; exact ext_plus _ _) | (apply Ext.trans; rotate_left; assumption)))))) | (go_at_call 42; refine (HCT.out _ (by (with_reducible (repeat (first | exact Ext.refl _ | assumption | apply Ext.alloc | apply Ext.drew | exact ext_plus _ _ | (apply Ext.setCell; rotate_left; (simp <;> omega)) | (apply Ext.trans; rotate_left; exact ext_plus _ _) | (apply Ext.trans; rotate_left; assumption)))))).mono ?_; rintro e w5 ⟨vc, rfl, hvc, hb5⟩; obtain ⟨ac, cc, rfl, _⟩ := id hvc; have HVC := Lib.hid hvc; clear hvc; (try clear k0 k1 l0 l1); obtain ⟨k0, k1, l0, l1⟩ := HBX.out w5 (by (with_reducible (repeat (first | exact Ext.refl _ | assumption | apply Ext.alloc | apply Ext.drew | exact ext_plus _ _ | (apply Ext.setCell; rotate_left; (simp <;> omega)) | (apply Ext.trans; rotate_left; exact ext_plus _ _) | (apply Ext.trans; rotate_left; assumption)))))) | (go_at_call 24; refine (HSP.out _ _ (by (with_reducible (repeat (first | exact Ext.refl _ | assumption | apply Ext.alloc | apply Ext.drew | exact ext_plus _ _ | (apply Ext.setCell; rotate_left; (simp <;> omega)) | (apply Ext.trans; rotate_left; exact ext_plus _ _) | (apply Ext.trans; rotate_left; assumption))))) (HVL.out.ext (by (with_reducible (repeat (first | exact Ext.refl _ | assumption | apply Ext.alloc | apply Ext.drew | exact ext_plus _ _ | (apply Ext.setCell; rotate_left; (simp <;> omega)) | (apply Ext.trans; rotate_left; exact ext_plus _ _) | (apply Ext.trans; rotate_left; assumption))))))).mono ?_; rintro e w6 ⟨rfl, hb6⟩; (try clear k0 k1 l0 l1); obtain ⟨k0, k1, l0, l1⟩ := HBX.out w6 (by (with_reducible (repeat (first | exact Ext.refl _ | assumption | apply Ext.alloc | apply Ext.drew | exact ext_plus _ _ | (apply Ext.setCell; rotate_left; (simp <;> omega)) | (apply Ext.trans; rotate_left; exact ext_plus _ _) | (apply Ext.trans; rotate_left; assumption)))))))
        have hE36 : Ext w3 w6 := ((Ext.refl w3).alloc _).trans (hb4.trans (hb5.trans hb6))
        have hE1w6 : Ext w1 w6 := hb2.trans (hb3.trans hE36)
        have hE16 : Ext w1 w6 := hE1w6
        have hE6 : Ext w w6 := hE1.trans hE16
        have hvl := HVL.out.ext hE36
        have hvk := HVK.out.ext (hb5.trans hb6)
        have hvc := HVC.out.ext hb6
        obtain ⟨al, cl, e1, hxl⟩ := hvl
        cases e1
        obtain ⟨ak, ck, e2, hxk⟩ := hvk
        cases e2
        obtain ⟨ac, cc, e3, hxc⟩ := hvc
        cases e3
        have HXL := Lib.hid hxl
        have HXK := Lib.hid hxk
        have HXC := Lib.hid hxc
        clear hxl hxk hxc hb2 hb3 hb4 hb5 hb6 k0 k1 l0 l1 HVL HVK HVC
        have hpc := plus_cell
        go_wp2
        go_loopw [16, 17] (fun i _ wr => ∃ s : Nat, s ≤ X.length ∧ i = .int .i64 s ∧ Ext w6 wr) (fun i _ _ => X.length - (intOf i).toNat)
        case atStart => exact ⟨0, Nat.zero_le _, rfl, Ext.refl _⟩
        case round =>
          rename World => wr
          obtain ⟨s, hs, rfl, hEr⟩ := hrel
          by_cases hlt : s < X.length
          · have hltK : s < K.length := by have := HLK.out; omega
            have hltC : s < C.length := by have := HLC.out; omega
            obtain ⟨bl, ol, e1, hbl, vl, hcl, hvl, _⟩ := HXL.out s hlt
            cases e1
            obtain ⟨bk, ok, e2, hbk, vk, hck, hvk⟩ := HXK.out s hltK
            cases e2
            obtain ⟨bc, oc, e3, hbc, vc, hcc, hvc⟩ := HXC.out s hltC
            cases e3
            simp only [Nat.mul_one] at hcl hck hcc
            have hrow := HROW.out s hlt hltK hltC
            obtain ⟨x, hx⟩ : ∃ x, X[s] = x := ⟨_, rfl⟩
            obtain ⟨y, hy⟩ : ∃ y, K[s] = y := ⟨_, rfl⟩
            obtain ⟨z, hz⟩ : ∃ z, C[s] = z := ⟨_, rfl⟩
            rw [hx] at hvl
            rw [hy] at hvk
            rw [hz] at hvc
            have hrow2 : RowOk r x y z := by subst hx hy hz; exact hrow
            have HEL := Lib.hid hrow2.el
            have hxl8 := hrow2.len
            obtain ⟨a6, c6, rfl, hx6⟩ := hvl
            obtain ⟨a7, c7, rfl, hx7⟩ := hvk
            obtain ⟨a8, c8, rfl, hx8⟩ := hvc
            have HX6 := Lib.hid hx6
            have HX7 := Lib.hid hx7
            have HX8 := Lib.hid hx8
            have HYL := Lib.hid hrow2.ly
            have HZL := Lib.hid hrow2.lz
            rw [hrow2.ly] at hck
            rw [hrow2.lz] at hcc
            have cu1 := (hEr.cells.1 _ _ hbl).trans hcl
            have cu2 := (hEr.cells.1 _ _ hbk).trans hck
            have cu3 := (hEr.cells.1 _ _ hbc).trans hcc
            have q1 := Nat.lt_of_lt_of_le hbl hEr.size
            have q2 := Nat.lt_of_lt_of_le hbk hEr.size
            have q3 := Nat.lt_of_lt_of_le hbc hEr.size
            clear hcl hck hcc hrow hrow2 hx hy hz hx6 hx7 hx8
            go_wp2
            refine wp_region_ext 24 (fun _ _ d _ _ h => by cases d <;> exact h) (by kernel_rfl) (by kernel_rfl) (by kernel_rfl) (by kernel_rfl) ?_
            simp only [List.take_succ_cons, List.take_zero, List.drop_succ_cons, List.drop_zero]
            repeat (any_goals (first | go_big_quiet_step (fail) | quiet_step (fail)))
            all_goals (refine wpQuiet_nil ?_; intro w' hE')
            unfold wpList
            have cv1 := (hE'.cells.1 _ _ q1).trans cu1
            have cv2 := (hE'.cells.1 _ _ q2).trans cu2
            have cv3 := (hE'.cells.1 _ _ q3).trans cu3
            have r1 := Nat.lt_of_lt_of_le q1 hE'.size
            have r2 := Nat.lt_of_lt_of_le q2 hE'.size
            have r3 := Nat.lt_of_lt_of_le q3 hE'.size
            clear cu1 cu2 cu3 q1 q2 q3
            go_wp2
            go_loopw [17] (fun i wx => ∃ j : Nat, j ≤ x.length ∧ i = .int .i64 j ∧ Ext w' wx) (fun i _ => x.length - (intOf i).toNat)
            case atStart => exact ⟨0, Nat.zero_le _, rfl, Ext.refl _⟩
            case round =>
              rename World => wx
              obtain ⟨j, hj, rfl, hEx⟩ := hrel
              have hE6x : Ext w6 wx := (hEr.trans hE').trans hEx
              have cw1 := (hEx.cells.1 _ _ r1).trans cv1
              have cw2 := (hEx.cells.1 _ _ r2).trans cv2
              have cw3 := (hEx.cells.1 _ _ r3).trans cv3
              have s1 := Nat.lt_of_lt_of_le r1 hEx.size
              have s2 := Nat.lt_of_lt_of_le r2 hEx.size
              have s3 := Nat.lt_of_lt_of_le r3 hEx.size
              by_cases hlj : j < x.length
              · have hj7 : j < y.length := by have := HYL.out; omega
                have hj8 : j < z.length := by have := HZL.out; omega
                obtain ⟨k0, k1, l0, l1⟩ := HBX.out wx (hE16.trans hE6x)
                obtain ⟨b6, o6, e1, hb6, hc6⟩ := HX6.out j hlj
                cases e1
                obtain ⟨b7, o7, e2, hb7, hAt7⟩ := HX7.out j hj7
                cases e2
                obtain ⟨b8, o8, e3, hb8, hAt8⟩ := HX8.out j hj8
                cases e3
                have cy1 := (hE6x.cells.1 _ _ hb6).trans hc6
                obtain ⟨t1, t2⟩ := span_cells (ate_stays _ _ _ _ _ _ hE6x hb7 hAt7)
                obtain ⟨t3, t4⟩ := span_cells (ate_stays _ _ _ _ _ _ hE6x hb8 hAt8)
                have p6 := Nat.lt_of_lt_of_le hb6 hE6x.size
                have p7 := Nat.lt_of_lt_of_le hb7 hE6x.size
                have p8 := Nat.lt_of_lt_of_le hb8 hE6x.size
                obtain ⟨i1, i2⟩ := HEL.out j hlj hj7 hj8
                obtain ⟨n, hn⟩ : ∃ n, x[j] = n := ⟨_, rfl⟩
                obtain ⟨A, hA⟩ : ∃ A, y[j].1 = A := ⟨_, rfl⟩
                obtain ⟨B, hB⟩ : ∃ B, y[j].2 = B := ⟨_, rfl⟩
                obtain ⟨P, hP'⟩ : ∃ P, z[j].1 = P := ⟨_, rfl⟩
                obtain ⟨Q, hQ⟩ : ∃ Q, z[j].2 = Q := ⟨_, rfl⟩
                rw [hn] at cy1 i1 i2
                rw [hA] at t1 i1
                rw [hB] at t2 i1
                rw [hP'] at t3 i2
                rw [hQ] at t4 i2
                have hin1 : R.within n A B = true := i1
                have i3 := i2 count
                have hcn := fun w' => dcounts_any r count n (.slice a1 r.places.length c1) ⟨_, _, _, rfl⟩ w' (by omega) (by omega) HMI.out.1 HMI.out.2
                have HCN := Lib.hid hcn
                clear hc6 hAt7 hAt8 i1 i2 hn hA hB hP' hQ hcn
                cases hcb : countsB r count n with
                | false =>
                  clear i3
                  go_wp2
                  refine wp_region_ext 40 (fun _ _ d _ _ h => by cases d <;> exact h) (by kernel_rfl) (by kernel_rfl) (by kernel_rfl) (by kernel_rfl) ?_
                  simp only [List.take_succ_cons, List.take_zero, List.drop_succ_cons, List.drop_zero]
                  repeat (any_goals (first | go_big_quiet_step ((go_at_call 43; exact ext_quiet (dinside_any _ _ _ _))) | go_big_quiet_step ((go_at_call 44; exact ext_quiet (HCN.out _))) | quiet_step ((go_at_call 43; exact ext_quiet (dinside_any _ _ _ _))) | quiet_step ((go_at_call 44; exact ext_quiet (HCN.out _)))))
                  all_goals (refine wpQuiet_nil ?_; intro w'' hE'')
                  unfold wpList
                  clear t1 t2 t3 t4 cw1 cw2 cw3 cy1 k0 k1 l0 l1
                  go_wp2
                  go_roundw
                  case rel => exact ⟨j + 1, by omega, by go_num, hEx.trans hE''⟩
                  case measure => simp [intOf]; omega
                | true =>
                  have hin2 : R.within count P Q = true := i3 hcb
                  clear i3
                  go_wp2
                  refine wp_region_ext 40 (fun _ _ d _ _ h => by cases d <;> exact h) (by kernel_rfl) (by kernel_rfl) (by kernel_rfl) (by kernel_rfl) ?_
                  simp only [List.take_succ_cons, List.take_zero, List.drop_succ_cons, List.drop_zero]
                  repeat (any_goals (first | go_big_quiet_step ((go_at_call 43; exact ext_quiet (dinside_any _ _ _ _))) | go_big_quiet_step ((go_at_call 44; exact ext_quiet (HCN.out _))) | quiet_step ((go_at_call 43; exact ext_quiet (dinside_any _ _ _ _))) | quiet_step ((go_at_call 44; exact ext_quiet (HCN.out _)))))
                  all_goals (refine wpQuiet_nil ?_; intro w'' hE'')
                  unfold wpList
                  clear t1 t2 t3 t4 cw1 cw2 cw3 cy1 k0 k1 l0 l1
                  go_wp2
                  go_roundw
                  case rel => exact ⟨j + 1, by omega, by go_num, hEx.trans hE''⟩
                  case measure => simp [intOf]; omega
              · go_wp2
                go_roundw
                case rel => exact ⟨s + 1, by omega, by go_num, (hEr.trans hE').trans hEx⟩
                case measure => simp [intOf]; omega
          · obtain rfl : s = X.length := by omega
            go_wp2_with (first | (go_at_call 17; refine (known_any _).mono ?_; rintro e wk ⟨rfl, hbk⟩))
            go_ret
            exact ⟨rfl, by (with_reducible (repeat (first | exact Ext.refl _ | assumption | apply Ext.alloc | apply Ext.drew | exact ext_plus _ _ | (apply Ext.setCell; rotate_left; (simp <;> omega)) | (apply Ext.trans; rotate_left; exact ext_plus _ _) | (apply Ext.trans; rotate_left; assumption))))⟩
end Go.Proofs.Ythffoglpekpmdaa
