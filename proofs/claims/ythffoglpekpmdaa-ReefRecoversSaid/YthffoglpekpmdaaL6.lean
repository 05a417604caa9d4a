/- The law ReefRecovers. -/
import Derived.Test.YthffoglpekpmdaaK2
import Derived.Test.YthffoglpekpmdaaD9
import Derived.Test.YthffoglpekpmdaaD10
import Derived.Test.YthffoglpekpmdaaG7
import Derived.Test.YthffoglpekpmdaaPl5
namespace Go.Proofs.Ythffoglpekpmdaa
set_option linter.unusedVariables false
set_option linter.unusedSimpArgs false
open Go.RowKit
theorem rows_ok {r : R.Reef} {plan : List Int} {t : R.Truth} (O : R.OkR r) (T : R.OkT r plan t) : ∀ l ∈ R.fishOf r t, l.length = r.places.length ∧ ∀ x ∈ l, 0 ≤ x ∧ x ≤ 1000000000 := by
  intro l hl
  obtain ⟨i, hi, rfl⟩ := List.getElem_of_mem hl
  rw [R.fishOf_len] at hi
  have h1 := R.fishOf_row O T (s := i) hi
  rw [R.lat_at (by rw [R.fishOf_len]; exact hi)] at h1
  refine ⟨h1, fun x hx => ?_⟩
  obtain ⟨j, hj, rfl⟩ := List.getElem_of_mem hx
  have h2 := R.fishOf_bd O T (s := i) hi j
  rw [R.lat_at (by rw [R.fishOf_len]; exact hi), R.iat_at hj] at h2
  omega
theorem last_row {r : R.Reef} (O : R.OkR r) (t : R.Truth) {q : Nat} (hq : r.seasons.toNat = q + 1) (h : q < (R.fishOf r t).length) : (R.fishOf r t)[q] = (R.endOf r t).fish := by
  have := R.fishOf_at r t (s := q) (by omega)
  rw [R.lat_at h] at this
  rw [this]
  unfold R.endOf
  rw [hq]
set_option maxRecDepth 100000 in
set_option maxHeartbeats 16000000 in
theorem reefRecovers_law (r : R.Reef) (vr : Value) (plan : List Int) (vp : Value) (t : R.Truth) (vs vg vt : Value) (w : World) (hP : Places w vr r.places) (hL : Ints w vp plan) (hS : Ints w vs t.starts) (hG : Lists w vg t.grows) (hT : Lists w vt t.takes) :
    Calls Try.prog 6 #[.agg (reefV r vr), vp, .agg (truthV vs vg vt)] w fun e w' => e = .returned (.bool true) ∧ Ext w w' := by
  have hP' := hP
  have hL' := hL
  have hS' := hS
  have hG' := hG
  have hT' := hT
  obtain ⟨a1, c1, rfl, hPx⟩ := hP'
  obtain ⟨a2, c2, rfl, hLx⟩ := hL'
  obtain ⟨a3, c3, rfl, hSx⟩ := hS'
  obtain ⟨a4, c4, rfl, hGx⟩ := hG'
  obtain ⟨a5, c5, rfl, hTx⟩ := hT'
  have HPX := Lib.hid hPx
  have HLX := Lib.hid hLx
  have HSX := Lib.hid hSx
  have HGX := Lib.hid hGx
  have HTX := Lib.hid hTx
  clear hPx hLx hSx hGx hTx
  obtain ⟨w1, hw1⟩ : ∃ w1, ((w.alloc (.cells (reefV r (.slice a1 r.places.length c1)) 24)).alloc (.cells (truthV (.slice a3 t.starts.length c3) (.slice a4 t.grows.length c4) (.slice a5 t.takes.length c5)) 28)) = w1 := ⟨_, rfl⟩
  have hE1 : Ext w w1 := by rw [← hw1]; (with_reducible (repeat (first | exact Ext.refl _ | assumption | apply Ext.alloc | apply Ext.drew | exact ext_plus _ _ | (apply Ext.setCell; rotate_left; (simp <;> omega)) | (apply Ext.trans; rotate_left; exact ext_plus _ _) | (apply Ext.trans; rotate_left; assumption))))
  have hb0 : Blk w1 (w.heap.size) (reefV r (.slice a1 r.places.length c1)) 24 := by rw [← hw1]; exact (Blk.new' rfl _ _).alloc _
  have hb1 : Blk w1 (w.heap.size + 1) (truthV (.slice a3 t.starts.length c3) (.slice a4 t.grows.length c4) (.slice a5 t.takes.length c5)) 28 := by rw [← hw1]; exact Blk.new' (by simp) _ _
  have hbx := fun y (hy : Ext w1 y) => (⟨(hb0.ext hy).cell, (hb1.ext hy).cell, (hb0.ext hy).lt, (hb1.ext hy).lt⟩ : (∀ o, y.cell? ⟨w.heap.size, o, none⟩ = _) ∧ (∀ o, y.cell? ⟨w.heap.size + 1, o, none⟩ = _) ∧ w.heap.size < y.heap.size ∧ w.heap.size + 1 < y.heap.size)
  have HBX := Lib.hid hbx
  have HW1 := Lib.hid hw1
  clear hw1 hb0 hb1 hbx
  have hfr := fun w' (hx : Ext w w') => fair_any r plan t _ _ _ _ _ w' (hP.ext hx) (hL.ext hx) (hS.ext hx) (hG.ext hx) (hT.ext hx)
  cases hfair : fairB r plan t with
  | false =>
    rw [hfair] at hfr
    have HFR := Lib.hid hfr
    clear hfr hfair
    go_enter Try.func6, Try.ntmps6
    go_upto_region 1 with (fail)
    rw [HW1.out]
    obtain ⟨k0, k1, l0, l1⟩ := HBX.out w1 (Ext.refl _)
    go_wp2_with (first | (go_at_call 23; refine (HFR.out _ (by (with_reducible (repeat (first | exact Ext.refl _ | assumption | apply Ext.alloc | apply Ext.drew | exact ext_plus _ _ | (apply Ext.setCell; rotate_left; (simp <;> omega)) | (apply Ext.trans; rotate_left; exact ext_plus _ _) | (apply Ext.trans; rotate_left; assumption)))))).mono ?_; rintro e w2 ⟨rfl, hb2⟩; (try clear k0 k1 l0 l1); obtain ⟨k0, k1, l0, l1⟩ := HBX.out w2 (by (with_reducible (repeat (first | exact Ext.refl _ | assumption | apply Ext.alloc | apply Ext.drew | exact ext_plus _ _ | (apply Ext.setCell; rotate_left; (simp <;> omega)) | (apply Ext.trans; rotate_left; exact ext_plus _ _) | (apply Ext.trans; rotate_left; assumption)))))) | (go_at_call 17; refine (known_any _).mono ?_; rintro e wk ⟨rfl, hbk⟩))
    all_goals
      go_ret
      exact ⟨rfl, by (with_reducible (repeat (first | exact Ext.refl _ | assumption | apply Ext.alloc | apply Ext.drew | exact ext_plus _ _ | (apply Ext.setCell; rotate_left; (simp <;> omega)) | (apply Ext.trans; rotate_left; exact ext_plus _ _) | (apply Ext.trans; rotate_left; assumption))))⟩
  | true =>
    rw [hfair] at hfr
    have HFR := Lib.hid hfr
    obtain ⟨O, OL, T, hA, hB⟩ := fair_bd hfair
    have hsz := hfair
    unfold fairB at hsz
    simp only [Bool.and_eq_true, decide_eq_true_eq] at hsz
    obtain ⟨⟨⟨⟨hsh, hpl⟩, hsz⟩, _⟩, _⟩ := hsz
    obtain ⟨z1, z2, z3, z4, z5⟩ := sized_bd hsz
    have hn4 := O.n4
    have hs4 := O.s4
    have TE := R.okT_end (plan := plan) O false
    have hpla := fun w' (hx : Ext w w') => play_any r plan t _ _ _ _ _ w' (hP.ext hx) (hL.ext hx) (hS.ext hx) (hG.ext hx) (hT.ext hx) (by omega) (by omega) (by omega) (by omega) (by omega) (fun l hl => by have := z4 l hl; omega) (fun l hl => by have := z5 l hl; omega)
    have hpo : playOk r plan t = true := by unfold playOk; rw [hA, hB]; rfl
    have hpe : playOk r plan (R.endT r plan false) = true := by unfold playOk; rw [hA, R.okT_iff.2 TE]; rfl
    have hsm : ∀ l ∈ (R.endT r plan false).grows, l.length ≤ 1000000 := fun l hl => by
      obtain ⟨i, hi, rfl⟩ := List.getElem_of_mem hl
      have hg := TE.gl i (by have := TE.lg; omega)
      rw [R.lat_at hi] at hg
      omega
    have hsm2 : ∀ l ∈ (R.endT r plan false).takes, l.length ≤ 1000000 := fun l hl => by
      obtain ⟨i, hi, rfl⟩ := List.getElem_of_mem hl
      have hg := TE.tl i (by have := TE.lt; omega)
      rw [R.lat_at hi] at hg
      omega
    have hpw := fun w' vs vg vt (hx : Ext w w') hs hg ht => play_any r plan (R.endT r plan false) _ _ vs vg vt w' (hP.ext hx) (hL.ext hx) hs hg ht (by omega) (by omega) (by have := TE.ls; omega) (by have := TE.lg; omega) (by have := TE.lt; omega) hsm hsm2
    have hen := fun w' (hx : Ext w w') => dend_any r plan false _ _ w' (hP.ext hx) (hL.ext hx) O OL
    have hsq := fun w' (hx : Ext w w') => shortQ_any r plan _ _ w' (hP.ext hx) (hL.ext hx) (by omega) (by omega)
    obtain ⟨qS, hqS⟩ := Int.eq_ofNat_of_zero_le (show 0 ≤ r.seasons - 1 by have := O.s1; omega)
    have hSn : r.seasons.toNat = qS + 1 := by omega
    have hwq : IntKind.wrap .i64 (qS : Int) = qS := IntWalk.i64_in _ (by omega)
    have hXr := rows_ok O T
    have hYr := rows_ok O TE
    have hXl : (R.fishOf r t).length = qS + 1 := by rw [R.fishOf_len, hSn]
    have hYl : (R.fishOf r (R.endT r plan false)).length = qS + 1 := by rw [R.fishOf_len, hSn]
    have hXF := fun h => last_row O t hSn h
    have hYG := fun h => last_row O (R.endT r plan false) hSn h
    have hFl : (R.endOf r t).fish.length = r.places.length := (R.fine_at O T _ (Nat.le_refl _)).len
    have hGl : (R.lowF r plan).length = r.places.length := R.lowF_len O plan
    have hGb : ∀ i (h : i < (R.lowF r plan).length), 0 ≤ (R.lowF r plan)[i] ∧ (R.lowF r plan)[i] ≤ 28000000 := fun i h => by
      have f := R.fine_at O TE r.seasons.toNat (Nat.le_refl _)
      have h1 := f.nn i
      have h2 := (R.fine_bd O TE (by omega) f).2.2.2.2 i
      have h3 : R.iat (R.lowF r plan) i = R.iat (R.stateAt r (R.endT r plan false) r.seasons.toNat).fish i := rfl
      rw [R.iat_at h] at h3
      omega
    have hbt := R.end_between O T
    have hsn := R.short_none O plan
    have hgoal : ∀ i, i < r.places.length → 0 ≤ (R.pat r.places i).goal ∧ (R.pat r.places i).goal ≤ 1000000 := fun i hi => ⟨(O.place i hi).l0, (O.place i hi).l1⟩
    obtain ⟨led, hled⟩ : ∃ led, R.ledger r t = led := ⟨_, rfl⟩
    simp only [hpo, hled, if_true, show codeOf true = 0 from rfl] at hpla
    simp only [hpe, if_true, show codeOf true = 0 from rfl] at hpw
    have hsx := fun w' v (hx : Ext w w') (hv : Lists w' v (R.fishOf r t)) => shaped_any r (R.fishOf r t) _ v w' (hP.ext hx) hv (by omega) (by omega) (by omega) hXr
    have hsy := fun w' v (hx : Ext w w') (hv : Lists w' v (R.fishOf r (R.endT r plan false))) => shaped_any r (R.fishOf r (R.endT r plan false)) _ v w' (hP.ext hx) hv (by omega) (by omega) (by omega) hYr
    have hYG' : ∀ (h : qS < (R.fishOf r (R.endT r plan false)).length), (R.fishOf r (R.endT r plan false))[qS] = R.lowF r plan := hYG
    obtain ⟨X, hX⟩ : ∃ X, R.fishOf r t = X := ⟨_, rfl⟩
    obtain ⟨Y, hY⟩ : ∃ Y, R.fishOf r (R.endT r plan false) = Y := ⟨_, rfl⟩
    obtain ⟨F, hF⟩ : ∃ F, (R.endOf r t).fish = F := ⟨_, rfl⟩
    have hXF2 : ∀ (h : qS < X.length), X[qS] = F := by subst hX hF; exact hXF
    have hYG2 : ∀ (h : qS < Y.length), Y[qS] = R.lowF r plan := by subst hY; exact hYG'
    clear hXF hYG hYG'
    simp only [hX] at hpla hsx hXl
    simp only [hY] at hpw hsy hYl
    simp only [hF] at hFl hbt
    have hpla2 : ∀ w', Ext w w' → Calls Try.prog 18 #[.agg (reefV r (.slice a1 r.places.length c1)), .slice a2 plan.length c2, .agg (truthV (.slice a3 t.starts.length c3) (.slice a4 t.grows.length c4) (.slice a5 t.takes.length c5))] w' fun x w2 => ∃ v, x = .returned (.tuple #[v, .agg (ledgerV led), .int .i64 0]) ∧ Lists w2 v X ∧ Ext w' w2 := fun w' hx => (hpla w' hx).mono fun e w2 ⟨v, h1, h2, h3⟩ => ⟨v, h1, h2.lists, h3⟩
    have hpw2 : ∀ w' vs vg vt, Ext w w' → Ints w' vs (R.endT r plan false).starts → Lists w' vg (R.endT r plan false).grows → Lists w' vt (R.endT r plan false).takes → Calls Try.prog 18 #[.agg (reefV r (.slice a1 r.places.length c1)), .slice a2 plan.length c2, .agg (truthV vs vg vt)] w' fun x w2 => ∃ v a b c d e, x = .returned (.tuple #[v, .agg #[.int .i64 a, .int .i64 b, .int .i64 c, .int .i64 d, .int .i64 e], .int .i64 0]) ∧ ListsF w'.heap.size w2 v Y ∧ Ext w' w2 := fun w' vs vg vt hx hs hg ht => (hpw w' vs vg vt hx hs hg ht).mono fun e w2 ⟨v, h1, h2, h3⟩ => ⟨v, _, _, _, _, _, h1, h2, h3⟩
    have HPL := Lib.hid hpla2
    have HPW := Lib.hid hpw2
    have HEN := Lib.hid hen
    have hsb : ∀ w' v L, (L = X ∨ L = Y) → Ext w w' → Lists w' v L → Calls Try.prog 24 #[.agg (reefV r (.slice a1 r.places.length c1)), v] w' fun e w2 => e = .returned (.bool true) ∧ Ext w' w2 := fun w' v L hL' hx hv => by
      rcases hL' with e | e
      · subst e; exact hsx w' v hx hv
      · subst e; exact hsy w' v hx hv
    have HSB := Lib.hid hsb
    have HXF := Lib.hid hXF2
    have HYG := Lib.hid hYG2
    have HLF := Lib.hid hFl
    have hqX : qS < X.length := by omega
    have hqY : qS < Y.length := by omega
    cases hsc : R.short r plan with
    | none =>
      have e1 : shortOf r plan = (0, 0) := by unfold shortOf; rw [hA, hsc]; rfl
      have e2 : shortCode r plan = 5 := by unfold shortCode; rw [hA, hsc]; rfl
      simp only [e1, e2] at hsq
      have HSQ := Lib.hid hsq
      have HGE := Lib.hid (show ∀ k, k < r.places.length → ∀ (h : k < r.places.length) (hf : k < F.length), r.places[k].goal ≤ F[k] from fun k _ h hf => by
        have h1 := hsn.1 hsc k h
        have h2 := hbt k
        rw [R.iat_at hf] at h2
        rw [R.pat_at h] at h1
        omega)
      clear hfr hfair hsz hA hB hpla hpla2 hpw hpw2 hen hsq O OL T TE hpo hpe hsm hsm2 hXr hYr hXl hYl hXF2 hYG2 hFl hGl hGb hbt hsn hgoal hled hsx hsy hsb hX hY hF z1 z2 z3 z4 z5 hsh hsc e1 e2 hSn
      go_enter Try.func6, Try.ntmps6
      go_upto_region 1 with (fail)
      rw [HW1.out]
      obtain ⟨k0, k1, l0, l1⟩ := HBX.out w1 (Ext.refl _)
      go_upto_region 5 with (first | (go_at_call 23; refine (HFR.out _ (by (with_reducible (repeat (first | exact Ext.refl _ | assumption | apply Ext.alloc | apply Ext.drew | exact ext_plus _ _ | (apply Ext.setCell; rotate_left; (simp <;> omega)) | (apply Ext.trans; rotate_left; exact ext_plus _ _) | (apply Ext.trans; rotate_left; assumption)))))).mono ?_; rintro e w2 ⟨rfl, hb2⟩; (try clear k0 k1 l0 l1); obtain ⟨k0, k1, l0, l1⟩ := HBX.out w2 (by (with_reducible (repeat (first | exact Ext.refl _ | assumption | apply Ext.alloc | apply Ext.drew | exact ext_plus _ _ | (apply Ext.setCell; rotate_left; (simp <;> omega)) | (apply Ext.trans; rotate_left; exact ext_plus _ _) | (apply Ext.trans; rotate_left; assumption)))))) | (go_at_call 25; refine (HSQ.out _ (by (with_reducible (repeat (first | exact Ext.refl _ | assumption | apply Ext.alloc | apply Ext.drew | exact ext_plus _ _ | (apply Ext.setCell; rotate_left; (simp <;> omega)) | (apply Ext.trans; rotate_left; exact ext_plus _ _) | (apply Ext.trans; rotate_left; assumption)))))).mono ?_; rintro e w3 ⟨rfl, hb3⟩; (try clear k0 k1 l0 l1); obtain ⟨k0, k1, l0, l1⟩ := HBX.out w3 (by (with_reducible (repeat (first | exact Ext.refl _ | assumption | apply Ext.alloc | apply Ext.drew | exact ext_plus _ _ | (apply Ext.setCell; rotate_left; (simp <;> omega)) | (apply Ext.trans; rotate_left; exact ext_plus _ _) | (apply Ext.trans; rotate_left; assumption)))))) | (go_at_call 18; refine (HPL.out _ (by (with_reducible (repeat (first | exact Ext.refl _ | assumption | apply Ext.alloc | apply Ext.drew | exact ext_plus _ _ | (apply Ext.setCell; rotate_left; (simp <;> omega)) | (apply Ext.trans; rotate_left; exact ext_plus _ _) | (apply Ext.trans; rotate_left; assumption)))))).mono ?_; rintro e w4 ⟨vl, rfl, hvl, hb4⟩; obtain ⟨al, cl, rfl, hxl⟩ := id hvl; have HVL := Lib.hid hvl; clear hvl hxl; (try clear k0 k1 l0 l1); obtain ⟨k0, k1, l0, l1⟩ := HBX.out w4 (by (with_reducible (repeat (first | exact Ext.refl _ | assumption | apply Ext.alloc | apply Ext.drew | exact ext_plus _ _ | (apply Ext.setCell; rotate_left; (simp <;> omega)) | (apply Ext.trans; rotate_left; exact ext_plus _ _) | (apply Ext.trans; rotate_left; assumption)))))))
      obtain ⟨wP, hwP⟩ : ∃ wP, w4.alloc (.cells (ledgerV led) 33) = wP := ⟨_, rfl⟩
      have hEP : Ext w1 wP := by rw [← hwP]; (with_reducible (repeat (first | exact Ext.refl _ | assumption | apply Ext.alloc | apply Ext.drew | exact ext_plus _ _ | (apply Ext.setCell; rotate_left; (simp <;> omega)) | (apply Ext.trans; rotate_left; exact ext_plus _ _) | (apply Ext.trans; rotate_left; assumption))))
      have hvp : Lists wP (.slice al X.length cl) X := by rw [← hwP]; exact HVL.out.ext ((Ext.refl _).alloc _)
      have HVP := Lib.hid hvp
      rw [hwP]
      clear hwP hvp hb2 hb3 hb4 k0 k1 l0 l1 HVL
      have hPb := HBX.out wP hEP
      obtain ⟨k0, k1, l0, l1⟩ := hPb
      go_cut [13, 15] from 18 to 137 (fun s13 s15 wc => Lists wc s13 Y ∧ s15 = .int .i64 0 ∧ Ext wP wc)
      case first =>
        go_region_held3 (fun y => (∀ o, y.cell? ⟨w.heap.size, o, none⟩ = (reefV r (.slice a1 r.places.length c1) : Array Value)[o]?) ∧ Ext wP y)
          (first | exact ⟨(HBX.out _ (hEP.trans (by (with_reducible (repeat (first | exact Ext.refl _ | assumption | apply Ext.alloc | apply Ext.drew | exact ext_plus _ _ | (apply Ext.setCell; rotate_left; (simp <;> omega)) | (apply Ext.trans; rotate_left; exact ext_plus _ _) | (apply Ext.trans; rotate_left; assumption))))))).1, by (with_reducible (repeat (first | exact Ext.refl _ | assumption | apply Ext.alloc | apply Ext.drew | exact ext_plus _ _ | (apply Ext.setCell; rotate_left; (simp <;> omega)) | (apply Ext.trans; rotate_left; exact ext_plus _ _) | (apply Ext.trans; rotate_left; assumption))))⟩)
          (first | (go_at_call 27; refine (HEN.out _ ((hE1.trans hEP).trans (by (with_reducible (repeat (first | exact Ext.refl _ | assumption | apply Ext.alloc | apply Ext.drew | exact ext_plus _ _ | (apply Ext.setCell; rotate_left; (simp <;> omega)) | (apply Ext.trans; rotate_left; exact ext_plus _ _) | (apply Ext.trans; rotate_left; assumption))))))).mono ?_; rintro e y1 ⟨vs', vg', vt', rfl, h1s, h1g, h1t, hy1⟩; have q1 := hy1.cells.1; have q2 := hy1.cells.2; have q3 := hy1.size; (try simp only [size_drew, World.size_alloc] at q1 q2 q3); (try have q7 : wP.heap.size < y1.heap.size := (by omega))) | (go_at_call 18; refine (HPW.out _ _ _ _ ((hE1.trans hEP).trans (by (with_reducible (repeat (first | exact Ext.refl _ | assumption | apply Ext.alloc | apply Ext.drew | exact ext_plus _ _ | (apply Ext.setCell; rotate_left; (simp <;> omega)) | (apply Ext.trans; rotate_left; exact ext_plus _ _) | (apply Ext.trans; rotate_left; assumption)))))) (h1s.ext (by (with_reducible show Ext _ _; (with_reducible (repeat (first | exact Ext.refl _ | assumption | apply Ext.alloc | apply Ext.drew | exact ext_plus _ _ | (apply Ext.setCell; rotate_left; (simp <;> omega)) | (apply Ext.trans; rotate_left; exact ext_plus _ _) | (apply Ext.trans; rotate_left; assumption)))); done))) (h1g.ext (by (with_reducible show Ext _ _; (with_reducible (repeat (first | exact Ext.refl _ | assumption | apply Ext.alloc | apply Ext.drew | exact ext_plus _ _ | (apply Ext.setCell; rotate_left; (simp <;> omega)) | (apply Ext.trans; rotate_left; exact ext_plus _ _) | (apply Ext.trans; rotate_left; assumption)))); done))) (h1t.ext (by (with_reducible show Ext _ _; (with_reducible (repeat (first | exact Ext.refl _ | assumption | apply Ext.alloc | apply Ext.drew | exact ext_plus _ _ | (apply Ext.setCell; rotate_left; (simp <;> omega)) | (apply Ext.trans; rotate_left; exact ext_plus _ _) | (apply Ext.trans; rotate_left; assumption)))); done)))).mono ?_; rintro e y2 ⟨v2, qa, qb, qc, qd, qe, rfl, h2, hy2⟩; have q4 := hy2.cells.1; have q5 := hy2.cells.2; have q6 := hy2.size; (try simp only [size_drew, World.size_alloc] at q4 q5 q6)))
        all_goals (dsimp only [Exit.then]; go_wp2; go_meet)
        all_goals refine ⟨?_, rfl, ?_⟩
        all_goals first
          | (with_reducible refine ListsF.five h2 ?_ _ _ _ _ _; (try simp only [size_drew, World.size_alloc]); omega)
          | (with_reducible exact h2.lists.ext ((Ext.refl _).alloc _))
          | (with_reducible refine Ext.five ?_ ?_ _ _ _ _ _ <;> first | omega | (with_reducible show Ext _ _; (with_reducible (repeat (first | exact Ext.refl _ | assumption | apply Ext.alloc | apply Ext.drew | exact ext_plus _ _ | (apply Ext.setCell; rotate_left; (simp <;> omega)) | (apply Ext.trans; rotate_left; exact ext_plus _ _) | (apply Ext.trans; rotate_left; assumption)))); done))
          | (with_reducible show Ext _ _; (with_reducible (repeat (first | exact Ext.refl _ | assumption | apply Ext.alloc | apply Ext.drew | exact ext_plus _ _ | (apply Ext.setCell; rotate_left; (simp <;> omega)) | (apply Ext.trans; rotate_left; exact ext_plus _ _) | (apply Ext.trans; rotate_left; assumption)))); done)
      case rest =>
        obtain ⟨hLW, rfl, hE6⟩ := hcut
        rename World => w6
        obtain ⟨aw, cw, rfl, _⟩ := id hLW
        have HVW := Lib.hid hLW
        clear hLW k0 k1 l0 l1
        have hE16 : Ext w1 w6 := hEP.trans hE6
        have hP6 := HBX.out w6 hE16
        obtain ⟨k0, k1, l0, l1⟩ := hP6
        have hEP6 := hE6; clear hE6
        go_upto_region 13 with (first | (go_at_call 24; refine (HSB.out _ _ _ (Or.inl rfl) (by (with_reducible (repeat (first | exact Ext.refl _ | assumption | apply Ext.alloc | apply Ext.drew | exact ext_plus _ _ | (apply Ext.setCell; rotate_left; (simp <;> omega)) | (apply Ext.trans; rotate_left; exact ext_plus _ _) | (apply Ext.trans; rotate_left; assumption))))) (by with_reducible exact HVP.out.ext (by (with_reducible (repeat (first | exact Ext.refl _ | assumption | apply Ext.alloc | apply Ext.drew | exact ext_plus _ _ | (apply Ext.setCell; rotate_left; (simp <;> omega)) | (apply Ext.trans; rotate_left; exact ext_plus _ _) | (apply Ext.trans; rotate_left; assumption))))))).mono ?_; rintro e w7 ⟨rfl, hbw7⟩; (try clear k0 k1 l0 l1); obtain ⟨k0, k1, l0, l1⟩ := HBX.out w7 (by (with_reducible (repeat (first | exact Ext.refl _ | assumption | apply Ext.alloc | apply Ext.drew | exact ext_plus _ _ | (apply Ext.setCell; rotate_left; (simp <;> omega)) | (apply Ext.trans; rotate_left; exact ext_plus _ _) | (apply Ext.trans; rotate_left; assumption)))))) | (go_at_call 24; refine (HSB.out _ _ _ (Or.inr rfl) (by (with_reducible (repeat (first | exact Ext.refl _ | assumption | apply Ext.alloc | apply Ext.drew | exact ext_plus _ _ | (apply Ext.setCell; rotate_left; (simp <;> omega)) | (apply Ext.trans; rotate_left; exact ext_plus _ _) | (apply Ext.trans; rotate_left; assumption))))) (by with_reducible exact HVW.out.ext (by (with_reducible (repeat (first | exact Ext.refl _ | assumption | apply Ext.alloc | apply Ext.drew | exact ext_plus _ _ | (apply Ext.setCell; rotate_left; (simp <;> omega)) | (apply Ext.trans; rotate_left; exact ext_plus _ _) | (apply Ext.trans; rotate_left; assumption))))))).mono ?_; rintro e w8 ⟨rfl, hbw8⟩; (try clear k0 k1 l0 l1); obtain ⟨k0, k1, l0, l1⟩ := HBX.out w8 (by (with_reducible (repeat (first | exact Ext.refl _ | assumption | apply Ext.alloc | apply Ext.drew | exact ext_plus _ _ | (apply Ext.setCell; rotate_left; (simp <;> omega)) | (apply Ext.trans; rotate_left; exact ext_plus _ _) | (apply Ext.trans; rotate_left; assumption)))))))
        have hE8 : Ext w1 w8 := hE16.trans (hbw7.trans hbw8)
        have hE68 : Ext w6 w8 := hbw7.trans hbw8
        clear hbw7 hbw8 k0 k1 l0 l1
        have hvx := (HVP.out.ext hEP6).ext hE68
        obtain ⟨al, cl, e0, hxl⟩ := hvx
        cases e0
        obtain ⟨bR, oR, rfl, hbR, vR, hcR, hvR, _⟩ := hxl qS hqX
        simp only [Nat.mul_one] at hcR
        rw [show X[qS] = F from HXF.out hqX] at hvR
        obtain ⟨aF, cF, rfl, hxF⟩ := hvR
        have HXFc := Lib.hid hxF
        clear hxF hxl
        have hEw8 := hE1.trans hE8
        obtain ⟨w9, hw9⟩ : ∃ w9, w8 = w9 := ⟨_, rfl⟩
        have hE9 : Ext w8 w9 := hw9 ▸ Ext.refl _
        have hE89 := hE8.trans hE9
        subst hw9
        go_wp2
        go_loopw [17] (fun i wr => ∃ k : Nat, k ≤ r.places.length ∧ i = .int .i64 k ∧ Ext w8 wr) (fun i _ => r.places.length - (intOf i).toNat)
        case atStart => exact ⟨0, Nat.zero_le _, rfl, Ext.refl _⟩
        case round =>
          obtain ⟨k, hk, rfl, hEr⟩ := hrel
          have hE1r : Ext w1 wr := hE89.trans hEr
          have hEwr := hE1.trans hE1r
          have hE8r : Ext w8 wr := hE9.trans hEr
          by_cases hlt : k < r.places.length
          · have hkn : k < r.places.length := by omega
            have hkF : k < F.length := by have := HLF.out; omega
            obtain ⟨k0, k1, l0, l1⟩ := HBX.out wr hE1r
            obtain ⟨b, off, e1, hb, hAt⟩ := HPX.out k hkn
            obtain ⟨bF, oF, e2, hbF, hcF⟩ := HXFc.out k hkF
            cases e2
            subst e1
            have hAt2 := ate_stays _ _ _ _ _ _ hEwr hb hAt
            obtain ⟨h0, h1, h2, h3, h4, h5, h6, h7, h8, h9, h10, h11⟩ := place_cells hAt2
            have hbl := Nat.lt_of_lt_of_le hb hEwr.size
            have cF' := (hE8r.cells.1 _ _ hbF).trans hcF
            have hbFl := Nat.lt_of_lt_of_le hbF hE8r.size
            have cR' := (hE8r.cells.1 _ _ hbR).trans hcR
            have hbRl := Nat.lt_of_lt_of_le hbR hE8r.size
            have hge := HGE.out k hlt hkn hkF
            obtain ⟨g, hg⟩ : ∃ g, r.places[k].goal = g := ⟨_, rfl⟩
            obtain ⟨x, hx⟩ : ∃ x, F[k] = x := ⟨_, rfl⟩
            rw [hg] at h10 hge
            rw [hx] at cF' hge
            have hpc := plus_cell
            clear hAt hAt2 h0 h1 h2 h3 h4 h5 h6 h7 h8 h9 h11 hcF hg hx
            go_wp2
            refine wp_region_ext 16 (fun _ _ d _ _ h => by cases d <;> exact h) (by kernel_rfl) (by kernel_rfl) (by kernel_rfl) (by kernel_rfl) ?_
            simp only [List.take_succ_cons, List.take_zero, List.drop_succ_cons, List.drop_zero]
            repeat (any_goals (first | go_big_quiet_step (fail) | quiet_step (fail)))
            all_goals (refine wpQuiet_nil ?_; intro w' hE')
            unfold wpList
            have hnl : ¬ x < g := by omega
            clear h10 cF' cR' k0 k1 l0 l1
            go_wp2
            go_roundw
            case rel => exact ⟨k + 1, by omega, by go_num, hEr.trans hE'⟩
            case measure => simp [intOf]; omega
          · obtain rfl : k = r.places.length := by omega
            go_wp2_with (first | (go_at_call 17; refine (known_any _).mono ?_; rintro e wk ⟨rfl, hbk⟩))
            go_ret
            exact ⟨rfl, by (with_reducible (repeat (first | exact Ext.refl _ | assumption | apply Ext.alloc | apply Ext.drew | exact ext_plus _ _ | (apply Ext.setCell; rotate_left; (simp <;> omega)) | (apply Ext.trans; rotate_left; exact ext_plus _ _) | (apply Ext.trans; rotate_left; assumption))))⟩
    | some x =>
      obtain ⟨p, d⟩ := x
      have e1 : shortOf r plan = ((p : Int), d) := by unfold shortOf; rw [hA, hsc]; rfl
      have e2 : shortCode r plan = 0 := by unfold shortCode; rw [hA, hsc]; rfl
      simp only [e1, e2] at hsq
      have HSQ := Lib.hid hsq
      obtain ⟨hpn, hd, hd0, hbef⟩ := R.short_some O hsc
      have hpg := hgoal p hpn
      obtain ⟨G, hG⟩ : ∃ G, R.lowF r plan = G := ⟨_, rfl⟩
      rw [hG] at hd hbef hGl
      have hGb2 : ∀ i (h : i < G.length), 0 ≤ G[i] ∧ G[i] ≤ 28000000 := by subst hG; exact hGb
      have hYG3 : ∀ (h : qS < Y.length), Y[qS] = G := by subst hG; exact hYG2
      simp only [hG] at hbt
      have HYG := Lib.hid hYG3
      have HLG := Lib.hid hGl
      have HGB := Lib.hid hGb2
      have HGE := Lib.hid (show ∀ k, k < p → ∀ (h : k < r.places.length) (hf : k < F.length), r.places[k].goal ≤ F[k] from fun k hk h hf => by
        have h1 := hbef k hk
        have h2 := hbt k
        rw [R.iat_at hf] at h2
        rw [R.pat_at h] at h1
        omega)
      have HSUM := Lib.hid (show ∀ (h : p < G.length), G[p] + d = r.places[p].goal from fun h => by
        rw [R.iat_at h, R.pat_at hpn] at hd
        omega)
      have hd1 : d ≤ 1000000 := by
        have := hGb2 p (by omega)
        rw [R.iat_at (by omega : p < G.length)] at hd
        omega
      clear hfr hfair hsz hA hB hpla hpla2 hpw hpw2 hen hsq O OL T TE hpo hpe hsm hsm2 hXr hYr hXl hYl hXF2 hYG2 hFl hGl hGb hbt hsn hgoal hled hsx hsy hsb hX hY hF z1 z2 z3 z4 z5 hsh hsc e1 e2 hSn hG hbef hd hpg hGb2 hYG3
      go_enter Try.func6, Try.ntmps6
      go_upto_region 1 with (fail)
      rw [HW1.out]
      obtain ⟨k0, k1, l0, l1⟩ := HBX.out w1 (Ext.refl _)
      go_upto_region 5 with (first | (go_at_call 23; refine (HFR.out _ (by (with_reducible (repeat (first | exact Ext.refl _ | assumption | apply Ext.alloc | apply Ext.drew | exact ext_plus _ _ | (apply Ext.setCell; rotate_left; (simp <;> omega)) | (apply Ext.trans; rotate_left; exact ext_plus _ _) | (apply Ext.trans; rotate_left; assumption)))))).mono ?_; rintro e w2 ⟨rfl, hb2⟩; (try clear k0 k1 l0 l1); obtain ⟨k0, k1, l0, l1⟩ := HBX.out w2 (by (with_reducible (repeat (first | exact Ext.refl _ | assumption | apply Ext.alloc | apply Ext.drew | exact ext_plus _ _ | (apply Ext.setCell; rotate_left; (simp <;> omega)) | (apply Ext.trans; rotate_left; exact ext_plus _ _) | (apply Ext.trans; rotate_left; assumption)))))) | (go_at_call 25; refine (HSQ.out _ (by (with_reducible (repeat (first | exact Ext.refl _ | assumption | apply Ext.alloc | apply Ext.drew | exact ext_plus _ _ | (apply Ext.setCell; rotate_left; (simp <;> omega)) | (apply Ext.trans; rotate_left; exact ext_plus _ _) | (apply Ext.trans; rotate_left; assumption)))))).mono ?_; rintro e w3 ⟨rfl, hb3⟩; (try clear k0 k1 l0 l1); obtain ⟨k0, k1, l0, l1⟩ := HBX.out w3 (by (with_reducible (repeat (first | exact Ext.refl _ | assumption | apply Ext.alloc | apply Ext.drew | exact ext_plus _ _ | (apply Ext.setCell; rotate_left; (simp <;> omega)) | (apply Ext.trans; rotate_left; exact ext_plus _ _) | (apply Ext.trans; rotate_left; assumption)))))) | (go_at_call 18; refine (HPL.out _ (by (with_reducible (repeat (first | exact Ext.refl _ | assumption | apply Ext.alloc | apply Ext.drew | exact ext_plus _ _ | (apply Ext.setCell; rotate_left; (simp <;> omega)) | (apply Ext.trans; rotate_left; exact ext_plus _ _) | (apply Ext.trans; rotate_left; assumption)))))).mono ?_; rintro e w4 ⟨vl, rfl, hvl, hb4⟩; obtain ⟨al, cl, rfl, hxl⟩ := id hvl; have HVL := Lib.hid hvl; clear hvl hxl; (try clear k0 k1 l0 l1); obtain ⟨k0, k1, l0, l1⟩ := HBX.out w4 (by (with_reducible (repeat (first | exact Ext.refl _ | assumption | apply Ext.alloc | apply Ext.drew | exact ext_plus _ _ | (apply Ext.setCell; rotate_left; (simp <;> omega)) | (apply Ext.trans; rotate_left; exact ext_plus _ _) | (apply Ext.trans; rotate_left; assumption)))))))
      obtain ⟨wP, hwP⟩ : ∃ wP, w4.alloc (.cells (ledgerV led) 33) = wP := ⟨_, rfl⟩
      have hEP : Ext w1 wP := by rw [← hwP]; (with_reducible (repeat (first | exact Ext.refl _ | assumption | apply Ext.alloc | apply Ext.drew | exact ext_plus _ _ | (apply Ext.setCell; rotate_left; (simp <;> omega)) | (apply Ext.trans; rotate_left; exact ext_plus _ _) | (apply Ext.trans; rotate_left; assumption))))
      have hvp : Lists wP (.slice al X.length cl) X := by rw [← hwP]; exact HVL.out.ext ((Ext.refl _).alloc _)
      have HVP := Lib.hid hvp
      rw [hwP]
      clear hwP hvp hb2 hb3 hb4 k0 k1 l0 l1 HVL
      have hPb := HBX.out wP hEP
      obtain ⟨k0, k1, l0, l1⟩ := hPb
      go_cut [13, 15] from 18 to 137 (fun s13 s15 wc => Lists wc s13 Y ∧ s15 = .int .i64 0 ∧ Ext wP wc)
      case first =>
        go_region_held3 (fun y => (∀ o, y.cell? ⟨w.heap.size, o, none⟩ = (reefV r (.slice a1 r.places.length c1) : Array Value)[o]?) ∧ Ext wP y)
          (first | exact ⟨(HBX.out _ (hEP.trans (by (with_reducible (repeat (first | exact Ext.refl _ | assumption | apply Ext.alloc | apply Ext.drew | exact ext_plus _ _ | (apply Ext.setCell; rotate_left; (simp <;> omega)) | (apply Ext.trans; rotate_left; exact ext_plus _ _) | (apply Ext.trans; rotate_left; assumption))))))).1, by (with_reducible (repeat (first | exact Ext.refl _ | assumption | apply Ext.alloc | apply Ext.drew | exact ext_plus _ _ | (apply Ext.setCell; rotate_left; (simp <;> omega)) | (apply Ext.trans; rotate_left; exact ext_plus _ _) | (apply Ext.trans; rotate_left; assumption))))⟩)
          (first | (go_at_call 27; refine (HEN.out _ ((hE1.trans hEP).trans (by (with_reducible (repeat (first | exact Ext.refl _ | assumption | apply Ext.alloc | apply Ext.drew | exact ext_plus _ _ | (apply Ext.setCell; rotate_left; (simp <;> omega)) | (apply Ext.trans; rotate_left; exact ext_plus _ _) | (apply Ext.trans; rotate_left; assumption))))))).mono ?_; rintro e y1 ⟨vs', vg', vt', rfl, h1s, h1g, h1t, hy1⟩; have q1 := hy1.cells.1; have q2 := hy1.cells.2; have q3 := hy1.size; (try simp only [size_drew, World.size_alloc] at q1 q2 q3); (try have q7 : wP.heap.size < y1.heap.size := (by omega))) | (go_at_call 18; refine (HPW.out _ _ _ _ ((hE1.trans hEP).trans (by (with_reducible (repeat (first | exact Ext.refl _ | assumption | apply Ext.alloc | apply Ext.drew | exact ext_plus _ _ | (apply Ext.setCell; rotate_left; (simp <;> omega)) | (apply Ext.trans; rotate_left; exact ext_plus _ _) | (apply Ext.trans; rotate_left; assumption)))))) (h1s.ext (by (with_reducible show Ext _ _; (with_reducible (repeat (first | exact Ext.refl _ | assumption | apply Ext.alloc | apply Ext.drew | exact ext_plus _ _ | (apply Ext.setCell; rotate_left; (simp <;> omega)) | (apply Ext.trans; rotate_left; exact ext_plus _ _) | (apply Ext.trans; rotate_left; assumption)))); done))) (h1g.ext (by (with_reducible show Ext _ _; (with_reducible (repeat (first | exact Ext.refl _ | assumption | apply Ext.alloc | apply Ext.drew | exact ext_plus _ _ | (apply Ext.setCell; rotate_left; (simp <;> omega)) | (apply Ext.trans; rotate_left; exact ext_plus _ _) | (apply Ext.trans; rotate_left; assumption)))); done))) (h1t.ext (by (with_reducible show Ext _ _; (with_reducible (repeat (first | exact Ext.refl _ | assumption | apply Ext.alloc | apply Ext.drew | exact ext_plus _ _ | (apply Ext.setCell; rotate_left; (simp <;> omega)) | (apply Ext.trans; rotate_left; exact ext_plus _ _) | (apply Ext.trans; rotate_left; assumption)))); done)))).mono ?_; rintro e y2 ⟨v2, qa, qb, qc, qd, qe, rfl, h2, hy2⟩; have q4 := hy2.cells.1; have q5 := hy2.cells.2; have q6 := hy2.size; (try simp only [size_drew, World.size_alloc] at q4 q5 q6)))
        all_goals (dsimp only [Exit.then]; go_wp2; go_meet)
        all_goals refine ⟨?_, rfl, ?_⟩
        all_goals first
          | (with_reducible refine ListsF.five h2 ?_ _ _ _ _ _; (try simp only [size_drew, World.size_alloc]); omega)
          | (with_reducible exact h2.lists.ext ((Ext.refl _).alloc _))
          | (with_reducible refine Ext.five ?_ ?_ _ _ _ _ _ <;> first | omega | (with_reducible show Ext _ _; (with_reducible (repeat (first | exact Ext.refl _ | assumption | apply Ext.alloc | apply Ext.drew | exact ext_plus _ _ | (apply Ext.setCell; rotate_left; (simp <;> omega)) | (apply Ext.trans; rotate_left; exact ext_plus _ _) | (apply Ext.trans; rotate_left; assumption)))); done))
          | (with_reducible show Ext _ _; (with_reducible (repeat (first | exact Ext.refl _ | assumption | apply Ext.alloc | apply Ext.drew | exact ext_plus _ _ | (apply Ext.setCell; rotate_left; (simp <;> omega)) | (apply Ext.trans; rotate_left; exact ext_plus _ _) | (apply Ext.trans; rotate_left; assumption)))); done)
      case rest =>
        obtain ⟨hLW, rfl, hE6⟩ := hcut
        rename World => w6
        obtain ⟨aw, cw, rfl, _⟩ := id hLW
        have HVW := Lib.hid hLW
        clear hLW k0 k1 l0 l1
        have hE16 : Ext w1 w6 := hEP.trans hE6
        have hP6 := HBX.out w6 hE16
        obtain ⟨k0, k1, l0, l1⟩ := hP6
        have hEP6 := hE6; clear hE6
        go_upto_region 10 with (first | (go_at_call 24; refine (HSB.out _ _ _ (Or.inl rfl) (by (with_reducible (repeat (first | exact Ext.refl _ | assumption | apply Ext.alloc | apply Ext.drew | exact ext_plus _ _ | (apply Ext.setCell; rotate_left; (simp <;> omega)) | (apply Ext.trans; rotate_left; exact ext_plus _ _) | (apply Ext.trans; rotate_left; assumption))))) (by with_reducible exact HVP.out.ext (by (with_reducible (repeat (first | exact Ext.refl _ | assumption | apply Ext.alloc | apply Ext.drew | exact ext_plus _ _ | (apply Ext.setCell; rotate_left; (simp <;> omega)) | (apply Ext.trans; rotate_left; exact ext_plus _ _) | (apply Ext.trans; rotate_left; assumption))))))).mono ?_; rintro e w7 ⟨rfl, hbw7⟩; (try clear k0 k1 l0 l1); obtain ⟨k0, k1, l0, l1⟩ := HBX.out w7 (by (with_reducible (repeat (first | exact Ext.refl _ | assumption | apply Ext.alloc | apply Ext.drew | exact ext_plus _ _ | (apply Ext.setCell; rotate_left; (simp <;> omega)) | (apply Ext.trans; rotate_left; exact ext_plus _ _) | (apply Ext.trans; rotate_left; assumption)))))) | (go_at_call 24; refine (HSB.out _ _ _ (Or.inr rfl) (by (with_reducible (repeat (first | exact Ext.refl _ | assumption | apply Ext.alloc | apply Ext.drew | exact ext_plus _ _ | (apply Ext.setCell; rotate_left; (simp <;> omega)) | (apply Ext.trans; rotate_left; exact ext_plus _ _) | (apply Ext.trans; rotate_left; assumption))))) (by with_reducible exact HVW.out.ext (by (with_reducible (repeat (first | exact Ext.refl _ | assumption | apply Ext.alloc | apply Ext.drew | exact ext_plus _ _ | (apply Ext.setCell; rotate_left; (simp <;> omega)) | (apply Ext.trans; rotate_left; exact ext_plus _ _) | (apply Ext.trans; rotate_left; assumption))))))).mono ?_; rintro e w8 ⟨rfl, hbw8⟩; (try clear k0 k1 l0 l1); obtain ⟨k0, k1, l0, l1⟩ := HBX.out w8 (by (with_reducible (repeat (first | exact Ext.refl _ | assumption | apply Ext.alloc | apply Ext.drew | exact ext_plus _ _ | (apply Ext.setCell; rotate_left; (simp <;> omega)) | (apply Ext.trans; rotate_left; exact ext_plus _ _) | (apply Ext.trans; rotate_left; assumption)))))))
        have hE8 : Ext w1 w8 := hE16.trans (hbw7.trans hbw8)
        have hE68 : Ext w6 w8 := hbw7.trans hbw8
        clear hbw7 hbw8 k0 k1 l0 l1
        have hvx := (HVP.out.ext hEP6).ext hE68
        obtain ⟨al, cl, e0, hxl⟩ := hvx
        cases e0
        obtain ⟨bR, oR, rfl, hbR, vR, hcR, hvR, _⟩ := hxl qS hqX
        simp only [Nat.mul_one] at hcR
        rw [show X[qS] = F from HXF.out hqX] at hvR
        obtain ⟨aF, cF, rfl, hxF⟩ := hvR
        have HXFc := Lib.hid hxF
        clear hxF hxl
        have hEw8 := hE1.trans hE8
        have hvy := HVW.out.ext hE68
        obtain ⟨aw, cw, e0, hxw⟩ := hvy
        cases e0
        obtain ⟨bY, oY, rfl, hbY, vY, hcY, hvY, _⟩ := hxw qS hqY
        simp only [Nat.mul_one] at hcY
        rw [show Y[qS] = G from HYG.out hqY] at hvY
        obtain ⟨aG, cG, rfl, hxG⟩ := hvY
        have hpG : p < G.length := by have := HLG.out; omega
        obtain ⟨bG, oG, rfl, hbG, hcG⟩ := hxG p hpG
        obtain ⟨bp, offp, rfl, hbp, hAt⟩ := HPX.out p hpn
        have hAt2 := ate_stays _ _ _ _ _ _ hEw8 hbp hAt
        obtain ⟨h0, h1, h2, h3, h4, h5, h6, h7, h8, h9, h10, h11⟩ := place_cells hAt2
        have hbpl := Nat.lt_of_lt_of_le hbp hEw8.size
        have hsum := HSUM.out hpG
        have hgb := HGB.out p hpG
        obtain ⟨gp, hgp⟩ : ∃ gp, r.places[p].goal = gp := ⟨_, rfl⟩
        obtain ⟨y, hy⟩ : ∃ y, G[p] = y := ⟨_, rfl⟩
        rw [hgp] at h10 hsum
        rw [hy] at hcG hsum hgb
        obtain ⟨k0, k1, l0, l1⟩ := HBX.out w8 hE8
        have hpc := plus_cell
        have hwy : IntKind.wrap .i64 (y + d) = y + d := IntWalk.i64_in _ (by omega)
        clear hAt hAt2 h0 h1 h2 h3 h4 h5 h6 h7 h8 h9 h11 hxw hgp hy hgb
        refine wp_region_ext 35 (fun _ _ d _ _ h => by cases d <;> exact h) (by kernel_rfl) (by kernel_rfl) (by kernel_rfl) (by kernel_rfl) ?_
        simp only [List.take_succ_cons, List.take_zero, List.drop_succ_cons, List.drop_zero]
        have m1 : ¬ (p : Int) < 0 := by omega
        have m2 : ¬ (r.places.length : Int) ≤ (p : Int) := by omega
        have m3 : ¬ d ≤ 0 := by omega
        have m4 : ¬ 1000000 < d := by omega
        have m5 : (y + d != gp) = false := by rw [hsum]; simp
        have m6 : decide ((p : Int) < 0) = false := decide_eq_false m1
        have m7 : decide ((r.places.length : Int) ≤ (p : Int)) = false := decide_eq_false m2
        have m8 : decide (d ≤ 0) = false := decide_eq_false m3
        have m9 : decide (1000000 < d) = false := decide_eq_false m4
        clear hsum
        repeat (any_goals (first | go_big_quiet_step (fail) | quiet_step (fail)))
        all_goals (refine wpQuiet_nil ?_; intro w9 hE9)
        unfold wpList
        clear m1 m2 m3 m4 m5 m6 m7 m8 m9 h10 hcY hcG k0 k1 l0 l1
        have hE89 := hE8.trans hE9
        have hR9 : ∀ b o, b < w8.heap.size → w9.cell? ⟨b, o, none⟩ = w8.cell? ⟨b, o, none⟩ := hE9.cells.1
        go_wp2
        go_loopw [17] (fun i wr => ∃ k : Nat, k ≤ p ∧ i = .int .i64 k ∧ Ext w9 wr) (fun i _ => p - (intOf i).toNat)
        case atStart => exact ⟨0, Nat.zero_le _, rfl, Ext.refl _⟩
        case round =>
          obtain ⟨k, hk, rfl, hEr⟩ := hrel
          have hE1r : Ext w1 wr := hE89.trans hEr
          have hEwr := hE1.trans hE1r
          have hE8r : Ext w8 wr := hE9.trans hEr
          by_cases hlt : k < p
          · have hkn : k < r.places.length := by omega
            have hkF : k < F.length := by have := HLF.out; omega
            obtain ⟨k0, k1, l0, l1⟩ := HBX.out wr hE1r
            obtain ⟨b, off, e1, hb, hAt⟩ := HPX.out k hkn
            obtain ⟨bF, oF, e2, hbF, hcF⟩ := HXFc.out k hkF
            cases e2
            cases e1
            have hAt2 := ate_stays _ _ _ _ _ _ hEwr hb hAt
            obtain ⟨h0, h1, h2, h3, h4, h5, h6, h7, h8, h9, h10, h11⟩ := place_cells hAt2
            have hbl := Nat.lt_of_lt_of_le hb hEwr.size
            have cF' := (hE8r.cells.1 _ _ hbF).trans hcF
            have hbFl := Nat.lt_of_lt_of_le hbF hE8r.size
            have cR' := (hE8r.cells.1 _ _ hbR).trans hcR
            have hbRl := Nat.lt_of_lt_of_le hbR hE8r.size
            have hge := HGE.out k hlt hkn hkF
            obtain ⟨g, hg⟩ : ∃ g, r.places[k].goal = g := ⟨_, rfl⟩
            obtain ⟨x, hx⟩ : ∃ x, F[k] = x := ⟨_, rfl⟩
            rw [hg] at h10 hge
            rw [hx] at cF' hge
            have hpc := plus_cell
            clear hAt hAt2 h0 h1 h2 h3 h4 h5 h6 h7 h8 h9 h11 hcF hg hx
            go_wp2
            refine wp_region_ext 16 (fun _ _ d _ _ h => by cases d <;> exact h) (by kernel_rfl) (by kernel_rfl) (by kernel_rfl) (by kernel_rfl) ?_
            simp only [List.take_succ_cons, List.take_zero, List.drop_succ_cons, List.drop_zero]
            repeat (any_goals (first | go_big_quiet_step (fail) | quiet_step (fail)))
            all_goals (refine wpQuiet_nil ?_; intro w' hE')
            unfold wpList
            have hnl : ¬ x < g := by omega
            clear h10 cF' cR' k0 k1 l0 l1
            go_wp2
            go_roundw
            case rel => exact ⟨k + 1, by omega, by go_num, hEr.trans hE'⟩
            case measure => simp [intOf]; omega
          · obtain rfl : k = p := by omega
            go_wp2_with (first | (go_at_call 17; refine (known_any _).mono ?_; rintro e wk ⟨rfl, hbk⟩))
            go_ret
            exact ⟨rfl, by (with_reducible (repeat (first | exact Ext.refl _ | assumption | apply Ext.alloc | apply Ext.drew | exact ext_plus _ _ | (apply Ext.setCell; rotate_left; (simp <;> omega)) | (apply Ext.trans; rotate_left; exact ext_plus _ _) | (apply Ext.trans; rotate_left; assumption))))⟩
end Go.Proofs.Ythffoglpekpmdaa
