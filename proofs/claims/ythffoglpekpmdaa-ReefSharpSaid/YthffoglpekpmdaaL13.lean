/- The law ReefSharp. -/
import Derived.Test.YthffoglpekpmdaaK2
import Derived.Test.YthffoglpekpmdaaD8
import Derived.Test.YthffoglpekpmdaaD9
import Derived.Test.YthffoglpekpmdaaD10
namespace Go.Proofs.Ythffoglpekpmdaa
set_option linter.unusedVariables false
set_option linter.unusedSimpArgs false
open Go.RowKit
/-- A season's fish x in an end, its stocks y, its counts z. -/
structure RowSharp (r : R.Reef) (m : Bool) (x : List Int) (y z : List (Int × Int)) : Prop where
  len : x.length ≤ 1000000
  ly : y.length = x.length
  lz : z.length = x.length
  el : ∀ i (h : i < x.length) (hy : i < y.length) (hz : i < z.length), (m = false → x[i] = y[i].1 ∧ 0 ≤ z[i].1 ∧ z[i].1 ≤ y[i].1 ∧ y[i].1 ≤ 1000000000 ∧ countsB r z[i].1 y[i].1 = true ∧ (0 < z[i].1 → countsB r (z[i].1 - 1) y[i].1 = false)) ∧
    (m = true → x[i] = y[i].2 ∧ z[i].2 = y[i].2 ∧ 0 ≤ y[i].2 ∧ y[i].2 ≤ 1000000000 ∧ countsB r y[i].2 y[i].2 = true)
theorem rows_ok {r : R.Reef} {plan : List Int} {t : R.Truth} (O : R.OkR r) (T : R.OkT r plan t) : ∀ l ∈ R.fishOf r t, l.length = r.places.length ∧ ∀ x ∈ l, 0 ≤ x ∧ x ≤ 1000000000 := by
  intro l hl
  obtain ⟨i, hi, rfl⟩ := List.getElem_of_mem hl
  rw [R.fishOf_len] at hi
  have h1 := R.fishOf_row O T (s := i) hi
  rw [R.lat_at (by rw [R.fishOf_len]; exact hi)] at h1
  refine ⟨h1, fun x hx => ?_⟩
  obtain ⟨j, hj, rfl⟩ := List.getElem_of_mem hx
  have h2 := R.fishOf_bd O T (s := i) hi j
  rw [R.lat_at (by rw [R.fishOf_len]; exact hi), R.iat_at hj] at h2
  omega
theorem row_sharp {r : R.Reef} {plan : List Int} (m : Bool) (O : R.OkR r) {s : Nat} (hx : s < (R.fishOf r (R.endT r plan m)).length) (hk : s < (R.stocks r plan).length) (hc : s < (counts r plan).length) : RowSharp r m (R.fishOf r (R.endT r plan m))[s] (R.stocks r plan)[s] (counts r plan)[s] := by
  have T := R.okT_end (plan := plan) O m
  have hl := (rows_ok O T _ (List.getElem_mem hx)).1
  obtain ⟨k1, k2⟩ := R.stocks_at r plan hk
  obtain ⟨c1, c2⟩ := counts_at O plan hk hc
  have hn4 := O.n4
  refine ⟨by omega, by omega, by omega, fun i h hy hz => ?_⟩
  have e : R.iat (R.lat (R.fishOf r (R.endT r plan m)) s) i = (R.fishOf r (R.endT r plan m))[s][i] := by rw [R.lat_at hx, R.iat_at h]
  have hk2 := k2 i hy
  have hbd := R.stocks_bd O plan hk i hy
  have hc2 := c2 i hy hz
  rw [hc2]
  unfold countedD
  rw [hk2] at hbd ⊢
  dsimp only at hbd ⊢
  obtain ⟨b1, b2, b3, b4⟩ := counted_least O hbd.1 (by omega)
  unfold countsB
  obtain ⟨lo, hlo⟩ : ∃ lo, R.iat (R.lat (R.fishOf r (R.endT r plan false)) s) i = lo := ⟨_, rfl⟩
  obtain ⟨hi, hhi⟩ : ∃ hi, R.iat (R.lat (R.fishOf r (R.endT r plan true)) s) i = hi := ⟨_, rfl⟩
  obtain ⟨P, hP⟩ : ∃ P, R.least (countB r lo) 40 0 lo = P := ⟨_, rfl⟩
  rw [hlo, hhi] at hbd
  rw [hlo] at b1 b2 b3 b4
  rw [hlo, hhi]
  rw [hP] at b1 b2 b3 b4 ⊢
  refine ⟨fun hm => ⟨?_, b1, b2, by omega, ?_, fun h0 => ?_⟩, fun hm => ⟨?_, rfl, by omega, by omega, ?_⟩⟩
  · subst hm; rw [← e, hlo]
  · rw [decide_eq_true b2, decide_eq_true b3]; rfl
  · have := b4 (P - 1) (by omega) (by omega)
    rw [decide_eq_false (by omega : ¬ lo ≤ R.most r (P - 1))]
    simp
  · subst hm; rw [← e, hhi]
  · rw [decide_eq_true (Int.le_refl _), decide_eq_true (R.most_ge O hbd.2.2.1)]; rfl
set_option maxRecDepth 100000 in
set_option maxHeartbeats 16000000 in
theorem reefSharp_law (r : R.Reef) (vr : Value) (plan : List Int) (vp : Value) (many : Bool) (w : World) (hP : Places w vr r.places) (hL : Ints w vp plan) :
    Calls Try.prog 13 #[.agg (reefV r vr), vp, .bool many] w fun e w' => e = .returned (.bool true) ∧ Ext w w' := by
  have hP' := hP
  have hL' := hL
  obtain ⟨a1, c1, rfl, hPx⟩ := hP'
  obtain ⟨a2, c2, rfl, hLx⟩ := hL'
  have HPX := Lib.hid hPx
  have HLX := Lib.hid hLx
  clear hPx hLx
  obtain ⟨w1, hw1⟩ : ∃ w1, (w.alloc (.cells (reefV r (.slice a1 r.places.length c1)) 24)) = w1 := ⟨_, rfl⟩
  have hE1 : Ext w w1 := by rw [← hw1]; (with_reducible (repeat (first | exact Ext.refl _ | assumption | apply Ext.alloc | apply Ext.drew | exact ext_plus _ _ | (apply Ext.setCell; rotate_left; (simp <;> omega)) | (apply Ext.trans; rotate_left; exact ext_plus _ _) | (apply Ext.trans; rotate_left; assumption))))
  have hb0 : Blk w1 (w.heap.size) (reefV r (.slice a1 r.places.length c1)) 24 := by rw [← hw1]; exact Blk.new' rfl _ _
  have hbx := fun y (hy : Ext w1 y) => (⟨(hb0.ext hy).cell, (hb0.ext hy).lt⟩ : (∀ o, y.cell? ⟨w.heap.size, o, none⟩ = _) ∧ w.heap.size < y.heap.size)
  have HBX := Lib.hid hbx
  have HW1 := Lib.hid hw1
  clear hw1 hb0 hbx
  have hs := fun w' (hx : Ext w w') => short_any r _ w' (hP.ext hx)
  by_cases hsh : shortR r = true
  · rw [hsh] at hs
    have HS := Lib.hid hs
    clear hs
    by_cases hpl : plan.length ≤ 8
    · have hpi : ¬ (8 : Int) < plan.length := by omega
      have hn8 : r.places.length ≤ 8 := by simpa [shortR] using hsh
      have hask := fun w' (hx : Ext w w') => asked_any r plan _ _ w' (hP.ext hx) (hL.ext hx) hn8 (by omega)
      cases hA : rightB r plan with
      | false =>
        rw [hA] at hask
        have HA := Lib.hid hask
        clear hask hA hsh
        go_enter Try.func13, Try.ntmps13
        go_upto_region 1 with (fail)
        rw [HW1.out]
        obtain ⟨k0, l0⟩ := HBX.out w1 (Ext.refl _)
        go_wp2_with (first | (go_at_call 15; refine (HS.out _ (by (with_reducible (repeat (first | exact Ext.refl _ | assumption | apply Ext.alloc | apply Ext.drew | exact ext_plus _ _ | (apply Ext.setCell; rotate_left; (simp <;> omega)) | (apply Ext.trans; rotate_left; exact ext_plus _ _) | (apply Ext.trans; rotate_left; assumption)))))).mono ?_; rintro e w2 ⟨rfl, hb2⟩; (try clear k0 l0); obtain ⟨k0, l0⟩ := HBX.out w2 (by (with_reducible (repeat (first | exact Ext.refl _ | assumption | apply Ext.alloc | apply Ext.drew | exact ext_plus _ _ | (apply Ext.setCell; rotate_left; (simp <;> omega)) | (apply Ext.trans; rotate_left; exact ext_plus _ _) | (apply Ext.trans; rotate_left; assumption)))))) | (go_at_call 19; refine (HA.out _ (by (with_reducible (repeat (first | exact Ext.refl _ | assumption | apply Ext.alloc | apply Ext.drew | exact ext_plus _ _ | (apply Ext.setCell; rotate_left; (simp <;> omega)) | (apply Ext.trans; rotate_left; exact ext_plus _ _) | (apply Ext.trans; rotate_left; assumption)))))).mono ?_; rintro e w3 ⟨rfl, hb3⟩; (try clear k0 l0); obtain ⟨k0, l0⟩ := HBX.out w3 (by (with_reducible (repeat (first | exact Ext.refl _ | assumption | apply Ext.alloc | apply Ext.drew | exact ext_plus _ _ | (apply Ext.setCell; rotate_left; (simp <;> omega)) | (apply Ext.trans; rotate_left; exact ext_plus _ _) | (apply Ext.trans; rotate_left; assumption)))))) | (go_at_call 17; refine (known_any _).mono ?_; rintro e wk ⟨rfl, hbk⟩))
        all_goals
          go_ret
          exact ⟨rfl, by (with_reducible (repeat (first | exact Ext.refl _ | assumption | apply Ext.alloc | apply Ext.drew | exact ext_plus _ _ | (apply Ext.setCell; rotate_left; (simp <;> omega)) | (apply Ext.trans; rotate_left; exact ext_plus _ _) | (apply Ext.trans; rotate_left; assumption))))⟩
      | true =>
        have hR := hA
        unfold rightB at hR
        rw [Bool.and_eq_true] at hR
        have O := R.okR_of hR.1
        have OL := R.okL_iff.1 hR.2
        rw [hA] at hask
        have HA := Lib.hid hask
        have hn4 := O.n4
        have hs4 := O.s4
        have hs1 := O.s1
        have TE := R.okT_end (plan := plan) O many
        have hpe : playOk r plan (R.endT r plan many) = true := by unfold playOk; rw [hA, R.okT_iff.2 TE]; rfl
        have hsm : ∀ l ∈ (R.endT r plan many).grows, l.length ≤ 1000000 := fun l hl => by
          obtain ⟨i, hi, rfl⟩ := List.getElem_of_mem hl
          have hg := TE.gl i (by have := TE.lg; omega)
          rw [R.lat_at hi] at hg
          omega
        have hsm2 : ∀ l ∈ (R.endT r plan many).takes, l.length ≤ 1000000 := fun l hl => by
          obtain ⟨i, hi, rfl⟩ := List.getElem_of_mem hl
          have hg := TE.tl i (by have := TE.lt; omega)
          rw [R.lat_at hi] at hg
          omega
        have hpw := fun w' vs vg vt (hx : Ext w w') hs hg ht => play_any r plan (R.endT r plan many) _ _ vs vg vt w' (hP.ext hx) (hL.ext hx) hs hg ht (by omega) (by omega) (by have := TE.ls; omega) (by have := TE.lg; omega) (by have := TE.lt; omega) hsm hsm2
        have hen := fun w' (hx : Ext w w') => dend_any r plan many _ _ w' (hP.ext hx) (hL.ext hx) O OL
        have hst := fun w' (hx : Ext w w') => stocksQ_any r plan _ _ w' (hP.ext hx) (hL.ext hx) (by omega) (by omega)
        have hct := fun w' (hx : Ext w w') => counts_any r plan _ _ w' (hP.ext hx) (hL.ext hx) (by omega) (by omega)
        have hXr := rows_ok O TE
        have hXl := R.fishOf_len r (R.endT r plan many)
        have hKl := R.stocks_len r plan
        have hCl := (counts_len r plan).trans hKl
        have hrw := fun s hx hk hc => row_sharp (plan := plan) many O (s := s) hx hk hc
        have hsp := fun w' v (hx : Ext w w') (hv : Lists w' v (R.fishOf r (R.endT r plan many))) => shaped_any r (R.fishOf r (R.endT r plan many)) _ v w' (hP.ext hx) hv (by omega) (by omega) (by omega) hXr
        have hcn := fun c n w' (h0 : 0 ≤ c) (h1 : c ≤ 1000000000) => dcounts_any r c n (.slice a1 r.places.length c1) ⟨_, _, _, rfl⟩ w' h0 h1 O.m0 O.m1
        obtain ⟨X, hX⟩ : ∃ X, R.fishOf r (R.endT r plan many) = X := ⟨_, rfl⟩
        obtain ⟨K, hK⟩ : ∃ K, R.stocks r plan = K := ⟨_, rfl⟩
        obtain ⟨C, hC⟩ : ∃ C, counts r plan = C := ⟨_, rfl⟩
        have hrow : ∀ s (h : s < X.length) (hk : s < K.length) (hc : s < C.length), RowSharp r many X[s] K[s] C[s] := by subst hX hK hC; exact hrw
        simp only [hpe, hX, if_true, show codeOf true = 0 from rfl] at hpw
        simp only [hA, hK, if_true, show codeOf true = 0 from rfl] at hst
        simp only [hA, hC, if_true, show codeOf true = 0 from rfl] at hct
        simp only [hX] at hsp hXl
        rw [hK] at hKl
        rw [hC] at hCl
        have hpw2 : ∀ w' vs vg vt, Ext w w' → Ints w' vs (R.endT r plan many).starts → Lists w' vg (R.endT r plan many).grows → Lists w' vt (R.endT r plan many).takes → Calls Try.prog 18 #[.agg (reefV r (.slice a1 r.places.length c1)), .slice a2 plan.length c2, .agg (truthV vs vg vt)] w' fun x w2 => ∃ v a b c d e, x = .returned (.tuple #[v, .agg #[.int .i64 a, .int .i64 b, .int .i64 c, .int .i64 d, .int .i64 e], .int .i64 0]) ∧ ListsF w'.heap.size w2 v X ∧ Ext w' w2 := fun w' vs vg vt hx hs hg ht => (hpw w' vs vg vt hx hs hg ht).mono fun e w2 ⟨v, h1, h2, h3⟩ => ⟨v, _, _, _, _, _, h1, h2, h3⟩
        have HPW := Lib.hid hpw2
        have HEN := Lib.hid hen
        have HST := Lib.hid hst
        have HCT := Lib.hid hct
        have HSP := Lib.hid hsp
        have HCN := Lib.hid hcn
        have HROW := Lib.hid hrow
        have HLK := Lib.hid (show K.length = X.length by omega)
        have HLC := Lib.hid (show C.length = X.length by omega)
        have hn1 : ((K.length : Int) != (X.length : Int)) = false := by simp [HLK.out]
        have hn2 : ((C.length : Int) != (X.length : Int)) = false := by simp [HLC.out]
        have hXle : X.length ≤ 1000000 := by omega
        clear hask hA hsh hR O OL TE hpe hsm hsm2 hpw hpw2 hen hst hct hXr hXl hKl hCl hrw hrow hsp hcn hX hK hC hs4 hs1
        cases many with
        | false =>
          go_enter Try.func13, Try.ntmps13
          go_upto_region 1 with (fail)
          rw [HW1.out]
          obtain ⟨k0, l0⟩ := HBX.out w1 (Ext.refl _)
          go_upto_region 3 with (first | (go_at_call 15; refine (HS.out _ (by (with_reducible (repeat (first | exact Ext.refl _ | assumption | apply Ext.alloc | apply Ext.drew | exact ext_plus _ _ | (apply Ext.setCell; rotate_left; (simp <;> omega)) | (apply Ext.trans; rotate_left; exact ext_plus _ _) | (apply Ext.trans; rotate_left; assumption)))))).mono ?_; rintro e w2 ⟨rfl, hb2⟩; (try clear k0 l0); obtain ⟨k0, l0⟩ := HBX.out w2 (by (with_reducible (repeat (first | exact Ext.refl _ | assumption | apply Ext.alloc | apply Ext.drew | exact ext_plus _ _ | (apply Ext.setCell; rotate_left; (simp <;> omega)) | (apply Ext.trans; rotate_left; exact ext_plus _ _) | (apply Ext.trans; rotate_left; assumption)))))) | (go_at_call 19; refine (HA.out _ (by (with_reducible (repeat (first | exact Ext.refl _ | assumption | apply Ext.alloc | apply Ext.drew | exact ext_plus _ _ | (apply Ext.setCell; rotate_left; (simp <;> omega)) | (apply Ext.trans; rotate_left; exact ext_plus _ _) | (apply Ext.trans; rotate_left; assumption)))))).mono ?_; rintro e w3 ⟨rfl, hb3⟩; (try clear k0 l0); obtain ⟨k0, l0⟩ := HBX.out w3 (by (with_reducible (repeat (first | exact Ext.refl _ | assumption | apply Ext.alloc | apply Ext.drew | exact ext_plus _ _ | (apply Ext.setCell; rotate_left; (simp <;> omega)) | (apply Ext.trans; rotate_left; exact ext_plus _ _) | (apply Ext.trans; rotate_left; assumption)))))))
          have hE13 : Ext w1 w3 := hb2.trans hb3
          clear k0 l0
          obtain ⟨k0, l0⟩ := HBX.out w3 hE13
          go_cut [7, 9] from 18 to 198 (fun s7 s9 wc => Lists wc s7 X ∧ s9 = .int .i64 0 ∧ Ext w3 wc)
          case first =>
            go_region_held3 (fun y => (∀ o, y.cell? ⟨w.heap.size, o, none⟩ = (reefV r (.slice a1 r.places.length c1) : Array Value)[o]?) ∧ Ext w3 y)
              (first | exact ⟨(HBX.out _ (hE13.trans (by (with_reducible (repeat (first | exact Ext.refl _ | assumption | apply Ext.alloc | apply Ext.drew | exact ext_plus _ _ | (apply Ext.setCell; rotate_left; (simp <;> omega)) | (apply Ext.trans; rotate_left; exact ext_plus _ _) | (apply Ext.trans; rotate_left; assumption))))))).1, by (with_reducible (repeat (first | exact Ext.refl _ | assumption | apply Ext.alloc | apply Ext.drew | exact ext_plus _ _ | (apply Ext.setCell; rotate_left; (simp <;> omega)) | (apply Ext.trans; rotate_left; exact ext_plus _ _) | (apply Ext.trans; rotate_left; assumption))))⟩)
              (first | (go_at_call 27; refine (HEN.out _ ((hE1.trans hE13).trans (by (with_reducible (repeat (first | exact Ext.refl _ | assumption | apply Ext.alloc | apply Ext.drew | exact ext_plus _ _ | (apply Ext.setCell; rotate_left; (simp <;> omega)) | (apply Ext.trans; rotate_left; exact ext_plus _ _) | (apply Ext.trans; rotate_left; assumption))))))).mono ?_; rintro e y1 ⟨vs', vg', vt', rfl, h1s, h1g, h1t, hy1⟩; have q1 := hy1.cells.1; have q2 := hy1.cells.2; have q3 := hy1.size; (try simp only [size_drew, World.size_alloc] at q1 q2 q3); (try have q7 : w3.heap.size < y1.heap.size := (by omega))) | (go_at_call 18; refine (HPW.out _ _ _ _ ((hE1.trans hE13).trans (by (with_reducible (repeat (first | exact Ext.refl _ | assumption | apply Ext.alloc | apply Ext.drew | exact ext_plus _ _ | (apply Ext.setCell; rotate_left; (simp <;> omega)) | (apply Ext.trans; rotate_left; exact ext_plus _ _) | (apply Ext.trans; rotate_left; assumption)))))) (h1s.ext (by (with_reducible show Ext _ _; (with_reducible (repeat (first | exact Ext.refl _ | assumption | apply Ext.alloc | apply Ext.drew | exact ext_plus _ _ | (apply Ext.setCell; rotate_left; (simp <;> omega)) | (apply Ext.trans; rotate_left; exact ext_plus _ _) | (apply Ext.trans; rotate_left; assumption)))); done))) (h1g.ext (by (with_reducible show Ext _ _; (with_reducible (repeat (first | exact Ext.refl _ | assumption | apply Ext.alloc | apply Ext.drew | exact ext_plus _ _ | (apply Ext.setCell; rotate_left; (simp <;> omega)) | (apply Ext.trans; rotate_left; exact ext_plus _ _) | (apply Ext.trans; rotate_left; assumption)))); done))) (h1t.ext (by (with_reducible show Ext _ _; (with_reducible (repeat (first | exact Ext.refl _ | assumption | apply Ext.alloc | apply Ext.drew | exact ext_plus _ _ | (apply Ext.setCell; rotate_left; (simp <;> omega)) | (apply Ext.trans; rotate_left; exact ext_plus _ _) | (apply Ext.trans; rotate_left; assumption)))); done)))).mono ?_; rintro e y2 ⟨v2, qa, qb, qc, qd, qe, rfl, h2, hy2⟩; have q4 := hy2.cells.1; have q5 := hy2.cells.2; have q6 := hy2.size; (try simp only [size_drew, World.size_alloc] at q4 q5 q6)))
            all_goals (dsimp only [Exit.then]; go_wp2; go_meet)
            all_goals refine ⟨?_, rfl, ?_⟩
            all_goals first
              | (with_reducible refine ListsF.five h2 ?_ _ _ _ _ _; (try simp only [size_drew, World.size_alloc]); omega)
              | (with_reducible exact h2.lists.ext ((Ext.refl _).alloc _))
              | (with_reducible refine Ext.five ?_ ?_ _ _ _ _ _ <;> first | omega | (with_reducible show Ext _ _; (with_reducible (repeat (first | exact Ext.refl _ | assumption | apply Ext.alloc | apply Ext.drew | exact ext_plus _ _ | (apply Ext.setCell; rotate_left; (simp <;> omega)) | (apply Ext.trans; rotate_left; exact ext_plus _ _) | (apply Ext.trans; rotate_left; assumption)))); done))
              | (with_reducible show Ext _ _; (with_reducible (repeat (first | exact Ext.refl _ | assumption | apply Ext.alloc | apply Ext.drew | exact ext_plus _ _ | (apply Ext.setCell; rotate_left; (simp <;> omega)) | (apply Ext.trans; rotate_left; exact ext_plus _ _) | (apply Ext.trans; rotate_left; assumption)))); done)
          case rest =>
            obtain ⟨hLW, rfl, hE3c⟩ := hcut
            rename World => wc
            obtain ⟨al, cl, rfl, _⟩ := id hLW
            have HVL := Lib.hid hLW
            clear hLW k0 l0
            have hE1c : Ext w1 wc := hE13.trans hE3c
            have hPc := HBX.out wc hE1c
            obtain ⟨k0, l0⟩ := hPc
            clear hE3c hb2 hb3
            go_upto_region 8 with (first | (go_at_call 41; refine (HST.out _ (by (with_reducible (repeat (first | exact Ext.refl _ | assumption | apply Ext.alloc | apply Ext.drew | exact ext_plus _ _ | (apply Ext.setCell; rotate_left; (simp <;> omega)) | (apply Ext.trans; rotate_left; exact ext_plus _ _) | (apply Ext.trans; rotate_left; assumption)))))).mono ?_; rintro e w4 ⟨vk, rfl, hvk, hb4⟩; obtain ⟨ak, ck, rfl, _⟩ := id hvk; have HVK := Lib.hid hvk; clear hvk; (try clear k0 l0); obtain ⟨k0, l0⟩ := HBX.out w4 (by (with_reducible (repeat (first | exact Ext.refl _ | assumption | apply Ext.alloc | apply Ext.drew | exact ext_plus _ _ | (apply Ext.setCell; rotate_left; (simp <;> omega)) | (apply Ext.trans; rotate_left; exact ext_plus _ _) | (apply Ext.trans; rotate_left; assumption)))))) | (go_at_call 42; refine (HCT.out _ (by (with_reducible (repeat (first | exact Ext.refl _ | assumption | apply Ext.alloc | apply Ext.drew | exact ext_plus _ _ | (apply Ext.setCell; rotate_left; (simp <;> omega)) | (apply Ext.trans; rotate_left; exact ext_plus _ _) | (apply Ext.trans; rotate_left; assumption)))))).mono ?_; rintro e w5 ⟨vc, rfl, hvc, hb5⟩; obtain ⟨ac, cc, rfl, _⟩ := id hvc; have HVC := Lib.hid hvc; clear hvc; (try clear k0 l0); obtain ⟨k0, l0⟩ := HBX.out w5 (by (with_reducible (repeat (first | exact Ext.refl _ | assumption | apply Ext.alloc | apply Ext.drew | exact ext_plus _ _ | (apply Ext.setCell; rotate_left; (simp <;> omega)) | (apply Ext.trans; rotate_left; exact ext_plus _ _) | (apply Ext.trans; rotate_left; assumption)))))) | (go_at_call 24; refine (HSP.out _ _ (by (with_reducible (repeat (first | exact Ext.refl _ | assumption | apply Ext.alloc | apply Ext.drew | exact ext_plus _ _ | (apply Ext.setCell; rotate_left; (simp <;> omega)) | (apply Ext.trans; rotate_left; exact ext_plus _ _) | (apply Ext.trans; rotate_left; assumption))))) (HVL.out.ext (by (with_reducible (repeat (first | exact Ext.refl _ | assumption | apply Ext.alloc | apply Ext.drew | exact ext_plus _ _ | (apply Ext.setCell; rotate_left; (simp <;> omega)) | (apply Ext.trans; rotate_left; exact ext_plus _ _) | (apply Ext.trans; rotate_left; assumption))))))).mono ?_; rintro e w6 ⟨rfl, hb6⟩; (try clear k0 l0); obtain ⟨k0, l0⟩ := HBX.out w6 (by (with_reducible (repeat (first | exact Ext.refl _ | assumption | apply Ext.alloc | apply Ext.drew | exact ext_plus _ _ | (apply Ext.setCell; rotate_left; (simp <;> omega)) | (apply Ext.trans; rotate_left; exact ext_plus _ _) | (apply Ext.trans; rotate_left; assumption)))))))
            have hEc6 : Ext wc w6 := hb4.trans (hb5.trans hb6)
            have hE16 : Ext w1 w6 := hE1c.trans hEc6
            have hE6 : Ext w w6 := hE1.trans hE16
            have hvl := HVL.out.ext hEc6
            have hvk := HVK.out.ext (hb5.trans hb6)
            have hvc := HVC.out.ext hb6
            obtain ⟨al, cl, e1, hxl⟩ := hvl
            cases e1
            obtain ⟨ak, ck, e2, hxk⟩ := hvk
            cases e2
            obtain ⟨ac, cc, e3, hxc⟩ := hvc
            cases e3
            have HXL := Lib.hid hxl
            have HXK := Lib.hid hxk
            have HXC := Lib.hid hxc
            clear hxl hxk hxc hb4 hb5 hb6 k0 l0 HVL HVK HVC hEc6
            have hpc := plus_cell
            go_wp2
            go_loopw [14, 15, 16, 17] (fun i _ _ _ wr => ∃ s : Nat, s ≤ X.length ∧ i = .int .i64 s ∧ Ext w6 wr) (fun i _ _ _ _ => X.length - (intOf i).toNat)
            case atStart => exact ⟨0, Nat.zero_le _, rfl, Ext.refl _⟩
            case round =>
              rename World => wr
              obtain ⟨s, hs, rfl, hEr⟩ := hrel
              by_cases hlt : s < X.length
              · have hltK : s < K.length := by have := HLK.out; omega
                have hltC : s < C.length := by have := HLC.out; omega
                obtain ⟨bl, ol, e1, hbl, vl, hcl, hvl, _⟩ := HXL.out s hlt
                cases e1
                obtain ⟨bk, ok, e2, hbk, vk, hck, hvk⟩ := HXK.out s hltK
                cases e2
                obtain ⟨bc, oc, e3, hbc, vc, hcc, hvc⟩ := HXC.out s hltC
                cases e3
                simp only [Nat.mul_one] at hcl hck hcc
                have hrow := HROW.out s hlt hltK hltC
                obtain ⟨x, hx⟩ : ∃ x, X[s] = x := ⟨_, rfl⟩
                obtain ⟨y, hy⟩ : ∃ y, K[s] = y := ⟨_, rfl⟩
                obtain ⟨z, hz⟩ : ∃ z, C[s] = z := ⟨_, rfl⟩
                rw [hx] at hvl
                rw [hy] at hvk
                rw [hz] at hvc
                have hrow2 : RowSharp r false x y z := by subst hx hy hz; exact hrow
                have HEL := Lib.hid hrow2.el
                have hxl8 := hrow2.len
                obtain ⟨a6, c6, rfl, hx6⟩ := hvl
                obtain ⟨a7, c7, rfl, hx7⟩ := hvk
                obtain ⟨a8, c8, rfl, hx8⟩ := hvc
                have HX6 := Lib.hid hx6
                have HX7 := Lib.hid hx7
                have HX8 := Lib.hid hx8
                have HYL := Lib.hid hrow2.ly
                have HZL := Lib.hid hrow2.lz
                rw [hrow2.ly] at hck
                rw [hrow2.lz] at hcc
                have cu1 := (hEr.cells.1 _ _ hbl).trans hcl
                have cu2 := (hEr.cells.1 _ _ hbk).trans hck
                have cu3 := (hEr.cells.1 _ _ hbc).trans hcc
                have q1 := Nat.lt_of_lt_of_le hbl hEr.size
                have q2 := Nat.lt_of_lt_of_le hbk hEr.size
                have q3 := Nat.lt_of_lt_of_le hbc hEr.size
                clear hcl hck hcc hrow hrow2 hx hy hz hx6 hx7 hx8
                go_wp2
                refine wp_region_ext 24 (fun _ _ d _ _ h => by cases d <;> exact h) (by kernel_rfl) (by kernel_rfl) (by kernel_rfl) (by kernel_rfl) ?_
                simp only [List.take_succ_cons, List.take_zero, List.drop_succ_cons, List.drop_zero]
                repeat (any_goals (first | go_big_quiet_step (fail) | quiet_step (fail)))
                all_goals (refine wpQuiet_nil ?_; intro w' hE')
                unfold wpList
                have cv1 := (hE'.cells.1 _ _ q1).trans cu1
                have cv2 := (hE'.cells.1 _ _ q2).trans cu2
                have cv3 := (hE'.cells.1 _ _ q3).trans cu3
                have r1 := Nat.lt_of_lt_of_le q1 hE'.size
                have r2 := Nat.lt_of_lt_of_le q2 hE'.size
                have r3 := Nat.lt_of_lt_of_le q3 hE'.size
                clear cu1 cu2 cu3 q1 q2 q3
                go_wp2
                go_loopw [15, 16, 17] (fun i _ _ wx => ∃ j : Nat, j ≤ x.length ∧ i = .int .i64 j ∧ Ext w' wx) (fun i _ _ _ => x.length - (intOf i).toNat)
                case atStart => exact ⟨0, Nat.zero_le _, rfl, Ext.refl _⟩
                case round =>
                  rename World => wx
                  obtain ⟨j, hj, rfl, hEx⟩ := hrel
                  have hE6x : Ext w6 wx := (hEr.trans hE').trans hEx
                  have cw1 := (hEx.cells.1 _ _ r1).trans cv1
                  have cw2 := (hEx.cells.1 _ _ r2).trans cv2
                  have cw3 := (hEx.cells.1 _ _ r3).trans cv3
                  have s1 := Nat.lt_of_lt_of_le r1 hEx.size
                  have s2 := Nat.lt_of_lt_of_le r2 hEx.size
                  have s3 := Nat.lt_of_lt_of_le r3 hEx.size
                  by_cases hlj : j < x.length
                  · have hj7 : j < y.length := by have := HYL.out; omega
                    have hj8 : j < z.length := by have := HZL.out; omega
                    obtain ⟨b6, o6, e1, hb6, hc6⟩ := HX6.out j hlj
                    cases e1
                    obtain ⟨b7, o7, e2, hb7, hAt7⟩ := HX7.out j hj7
                    cases e2
                    obtain ⟨b8, o8, e3, hb8, hAt8⟩ := HX8.out j hj8
                    cases e3
                    have cy1 := (hE6x.cells.1 _ _ hb6).trans hc6
                    obtain ⟨t1, t2⟩ := span_cells (ate_stays _ _ _ _ _ _ hE6x hb7 hAt7)
                    obtain ⟨t3, t4⟩ := span_cells (ate_stays _ _ _ _ _ _ hE6x hb8 hAt8)
                    have p6 := Nat.lt_of_lt_of_le hb6 hE6x.size
                    have p7 := Nat.lt_of_lt_of_le hb7 hE6x.size
                    have p8 := Nat.lt_of_lt_of_le hb8 hE6x.size
                    have hel := HEL.out j hlj hj7 hj8
                    obtain ⟨A, hA⟩ : ∃ A, y[j].1 = A := ⟨_, rfl⟩
                    obtain ⟨B, hB⟩ : ∃ B, y[j].2 = B := ⟨_, rfl⟩
                    obtain ⟨P, hP'⟩ : ∃ P, z[j].1 = P := ⟨_, rfl⟩
                    obtain ⟨Q, hQ⟩ : ∃ Q, z[j].2 = Q := ⟨_, rfl⟩
                    rw [hA] at t1
                    rw [hB] at t2
                    rw [hP'] at t3
                    rw [hQ] at t4
                    have hel2 : x[j] = A ∧ 0 ≤ P ∧ P ≤ A ∧ A ≤ 1000000000 ∧ countsB r P A = true ∧ (0 < P → countsB r (P - 1) A = false) := by subst hA hP'; first | exact hel.1 rfl | exact hel.1 trivial | exact hel.1
                    obtain ⟨f1, f3, f4, f5, hcb1, hcb2'⟩ := hel2
                    rw [f1] at cy1
                    have HCB2 := Lib.hid hcb2'
                    clear hcb2'
                    clear hc6 hAt7 hAt8 hel hA hB hP' hQ f1
                    have hj7x : j < y.length := hj7
                    go_upto_region 16 with (fail)
                    have d2 : wx.drew.cell? _ = _ := cw2
                    have d3 : wx.drew.cell? _ = _ := cw3
                    have d4 : wx.drew.cell? _ = _ := t1
                    have d5 : wx.drew.cell? _ = _ := t3
                    refine wp_region_late 17 (fun c y => c = false → (y.cell? ⟨bk, ok + s, none⟩ = some (.slice (some ⟨b7, o7, none⟩) x.length c7) ∧ y.cell? ⟨bc, oc + s, none⟩ = some (.slice (some ⟨b8, o8, none⟩) x.length c8) ∧ y.cell? ⟨b7, o7 + j * 2, none⟩ = some (.int .i64 A) ∧ y.cell? ⟨b8, o8 + j * 2, none⟩ = some (.int .i64 P))) (by kernel_rfl) (fun hL => ?_)
                    refine late_early (i := 0) (v := ?_) rfl (by kernel_rfl) (by kernel_rfl) (by kernel_rfl) (by decide) (by kernel_rfl) (fun _ _ _ h => h) hL (Or.inl ⟨by rfl, ?_⟩) (fun _ => ⟨d2, d3, d4, d5⟩) (fun hL' => ?_)
                    rotate_left
                    · intro y hy; have hz := hy rfl; clear hy; obtain ⟨g1, g2, g3, g4⟩ := hz; go_simp; (try with_reducible rfl)
                    clear hL; rename Shutb _ _ => hL
                    (try simp only [Act.put, List.setIfInBounds_toArray, List.set_cons_zero, List.set_cons_succ])
                    refine late_early (i := 1) (v := ?_) rfl (by kernel_rfl) (by kernel_rfl) (by kernel_rfl) (by decide) (by kernel_rfl) (fun _ _ _ h => h) hL (Or.inl ⟨by rfl, ?_⟩) (fun _ => ⟨d2, d3, d4, d5⟩) (fun hL' => ?_)
                    rotate_left
                    · intro y hy; have hz := hy rfl; clear hy; obtain ⟨g1, g2, g3, g4⟩ := hz; go_simp; (try with_reducible rfl)
                    clear hL; rename Shutb _ _ => hL
                    (try simp only [Act.put, List.setIfInBounds_toArray, List.set_cons_zero, List.set_cons_succ])
                    refine late_early (i := 2) (v := ?_) rfl (by kernel_rfl) (by kernel_rfl) (by kernel_rfl) (by decide) (by kernel_rfl) (fun _ _ _ h => h) hL (Or.inl ⟨by rfl, ?_⟩) (fun _ => ⟨d2, d3, d4, d5⟩) (fun hL' => ?_)
                    rotate_left
                    · intro y hy; have hz := hy rfl; clear hy; obtain ⟨g1, g2, g3, g4⟩ := hz; go_simp; (try with_reducible rfl)
                    clear hL; rename Shutb _ _ => hL
                    (try simp only [Act.put, List.setIfInBounds_toArray, List.set_cons_zero, List.set_cons_succ])
                    refine late_early (i := 3) (v := ?_) rfl (by kernel_rfl) (by kernel_rfl) (by kernel_rfl) (by decide) (by kernel_rfl) (fun _ _ _ h => h) hL (Or.inl ⟨by rfl, ?_⟩) (fun _ => ⟨d2, d3, d4, d5⟩) (fun hL' => ?_)
                    rotate_left
                    · intro y hy; have hz := hy rfl; clear hy; obtain ⟨g1, g2, g3, g4⟩ := hz; go_simp; (try with_reducible rfl)
                    clear hL; rename Shutb _ _ => hL
                    (try simp only [Act.put, List.setIfInBounds_toArray, List.set_cons_zero, List.set_cons_succ])
                    refine late_early (i := 4) (v := ?_) rfl (by kernel_rfl) (by kernel_rfl) (by kernel_rfl) (by decide) (by kernel_rfl) (fun _ _ _ h => h) hL (Or.inl ⟨by rfl, ?_⟩) (fun _ => ⟨d2, d3, d4, d5⟩) (fun hL' => ?_)
                    rotate_left
                    · intro y hy; have hz := hy rfl; clear hy; obtain ⟨g1, g2, g3, g4⟩ := hz; go_simp; (try with_reducible rfl)
                    clear hL; rename Shutb _ _ => hL
                    (try simp only [Act.put, List.setIfInBounds_toArray, List.set_cons_zero, List.set_cons_succ])
                    refine late_early (i := 5) (v := ?_) rfl (by kernel_rfl) (by kernel_rfl) (by kernel_rfl) (by decide) (by kernel_rfl) (fun _ _ _ h => h) hL (Or.inl ⟨by rfl, ?_⟩) (fun _ => ⟨d2, d3, d4, d5⟩) (fun hL' => ?_)
                    rotate_left
                    · intro y hy; have hz := hy rfl; clear hy; obtain ⟨g1, g2, g3, g4⟩ := hz; go_simp; (try with_reducible rfl)
                    clear hL; rename Shutb _ _ => hL
                    (try simp only [Act.put, List.setIfInBounds_toArray, List.set_cons_zero, List.set_cons_succ])
                    refine late_early (i := 6) (v := ?_) rfl (by kernel_rfl) (by kernel_rfl) (by kernel_rfl) (by decide) (by kernel_rfl) (fun _ _ _ h => h) hL (Or.inl ⟨by rfl, ?_⟩) (fun _ => ⟨d2, d3, d4, d5⟩) (fun hL' => ?_)
                    rotate_left
                    · intro y hy; have hz := hy rfl; clear hy; obtain ⟨g1, g2, g3, g4⟩ := hz; go_simp; (try with_reducible rfl)
                    clear hL; rename Shutb _ _ => hL
                    (try simp only [Act.put, List.setIfInBounds_toArray, List.set_cons_zero, List.set_cons_succ])
                    refine late_early (i := 7) (v := ?_) rfl (by kernel_rfl) (by kernel_rfl) (by kernel_rfl) (by decide) (by kernel_rfl) (fun _ _ _ h => h) hL (Or.inl ⟨by rfl, ?_⟩) (fun _ => ⟨d2, d3, d4, d5⟩) (fun hL' => ?_)
                    rotate_left
                    · intro y hy; have hz := hy rfl; clear hy; obtain ⟨g1, g2, g3, g4⟩ := hz; go_simp; (try with_reducible rfl)
                    clear hL; rename Shutb _ _ => hL
                    (try simp only [Act.put, List.setIfInBounds_toArray, List.set_cons_zero, List.set_cons_succ])
                    refine late_early (i := 8) (v := ?_) rfl (by kernel_rfl) (by kernel_rfl) (by kernel_rfl) (by decide) (by kernel_rfl) (fun _ _ _ h => h) hL (Or.inl ⟨by rfl, ?_⟩) (fun _ => ⟨d2, d3, d4, d5⟩) (fun hL' => ?_)
                    rotate_left
                    · intro y hy; have hz := hy rfl; clear hy; obtain ⟨g1, g2, g3, g4⟩ := hz; go_simp; (try with_reducible rfl)
                    clear hL; rename Shutb _ _ => hL
                    (try simp only [Act.put, List.setIfInBounds_toArray, List.set_cons_zero, List.set_cons_succ])
                    refine late_early (i := 9) (v := ?_) rfl (by kernel_rfl) (by kernel_rfl) (by kernel_rfl) (by decide) (by kernel_rfl) (fun _ _ _ h => h) hL (Or.inl ⟨by rfl, ?_⟩) (fun _ => ⟨d2, d3, d4, d5⟩) (fun hL' => ?_)
                    rotate_left
                    · intro y hy; have hz := hy rfl; clear hy; obtain ⟨g1, g2, g3, g4⟩ := hz; go_simp; (try with_reducible rfl)
                    clear hL; rename Shutb _ _ => hL
                    (try simp only [Act.put, List.setIfInBounds_toArray, List.set_cons_zero, List.set_cons_succ])
                    refine late_early (i := 10) (v := ?_) rfl (by kernel_rfl) (by kernel_rfl) (by kernel_rfl) (by decide) (by kernel_rfl) (fun _ _ _ h => h) hL (Or.inl ⟨by rfl, ?_⟩) (fun _ => ⟨d2, d3, d4, d5⟩) (fun hL' => ?_)
                    rotate_left
                    · intro y hy; have hz := hy rfl; clear hy; obtain ⟨g1, g2, g3, g4⟩ := hz; go_simp; (try with_reducible rfl)
                    clear hL; rename Shutb _ _ => hL
                    (try simp only [Act.put, List.setIfInBounds_toArray, List.set_cons_zero, List.set_cons_succ])
                    refine late_early (i := 11) (v := ?_) rfl (by kernel_rfl) (by kernel_rfl) (by kernel_rfl) (by decide) (by kernel_rfl) (fun _ _ _ h => h) hL (Or.inl ⟨by rfl, ?_⟩) (fun _ => ⟨d2, d3, d4, d5⟩) (fun hL' => ?_)
                    rotate_left
                    · intro y hy; have hz := hy rfl; clear hy; obtain ⟨g1, g2, g3, g4⟩ := hz; go_simp; (try with_reducible rfl)
                    clear hL; rename Shutb _ _ => hL
                    (try simp only [Act.put, List.setIfInBounds_toArray, List.set_cons_zero, List.set_cons_succ])
                    refine late_early (i := 12) (v := ?_) rfl (by kernel_rfl) (by kernel_rfl) (by kernel_rfl) (by decide) (by kernel_rfl) (fun _ _ _ h => h) hL (Or.inl ⟨by rfl, ?_⟩) (fun _ => ⟨d2, d3, d4, d5⟩) (fun hL' => ?_)
                    rotate_left
                    · intro y hy; have hz := hy rfl; clear hy; obtain ⟨g1, g2, g3, g4⟩ := hz; go_simp; (try with_reducible rfl)
                    clear hL; rename Shutb _ _ => hL
                    (try simp only [Act.put, List.setIfInBounds_toArray, List.set_cons_zero, List.set_cons_succ])
                    refine late_early (i := 13) (v := ?_) rfl (by kernel_rfl) (by kernel_rfl) (by kernel_rfl) (by decide) (by kernel_rfl) (fun _ _ _ h => h) hL (Or.inl ⟨by rfl, ?_⟩) (fun _ => ⟨d2, d3, d4, d5⟩) (fun hL' => ?_)
                    rotate_left
                    · intro y hy; have hz := hy rfl; clear hy; obtain ⟨g1, g2, g3, g4⟩ := hz; go_simp; (try with_reducible rfl)
                    clear hL; rename Shutb _ _ => hL
                    (try simp only [Act.put, List.setIfInBounds_toArray, List.set_cons_zero, List.set_cons_succ])
                    refine late_early (i := 14) (v := ?_) rfl (by kernel_rfl) (by kernel_rfl) (by kernel_rfl) (by decide) (by kernel_rfl) (fun _ _ _ h => h) hL (Or.inl ⟨by rfl, ?_⟩) (fun _ => ⟨d2, d3, d4, d5⟩) (fun hL' => ?_)
                    rotate_left
                    · intro y hy; have hz := hy rfl; clear hy; obtain ⟨g1, g2, g3, g4⟩ := hz; go_simp; (try with_reducible rfl)
                    clear hL; rename Shutb _ _ => hL
                    (try simp only [Act.put, List.setIfInBounds_toArray, List.set_cons_zero, List.set_cons_succ])
                    refine late_early (i := 15) (v := ?_) rfl (by kernel_rfl) (by kernel_rfl) (by kernel_rfl) (by decide) (by kernel_rfl) (fun _ _ _ h => h) hL (Or.inl ⟨by rfl, ?_⟩) (fun _ => ⟨d2, d3, d4, d5⟩) (fun hL' => ?_)
                    rotate_left
                    · intro y hy; have hz := hy rfl; clear hy; obtain ⟨g1, g2, g3, g4⟩ := hz; go_simp; (try with_reducible rfl)
                    clear hL; rename Shutb _ _ => hL
                    (try simp only [Act.put, List.setIfInBounds_toArray, List.set_cons_zero, List.set_cons_succ])
                    refine late_one (i := 16) (by kernel_rfl) hL (fun hL' => ?_)
                    refine wpOp_step rfl (fun K hK0 => ?_)
                    have hK : Shut _ := hK0
                    clear hK0
                    go_simp
                    refine hK.out _ _ ⟨fun _ => ⟨d2, d3, d4, d5⟩, ?_⟩
                    clear hK K; clear hL; rename Shutb _ _ => hL
                    (try simp only [Act.put, List.setIfInBounds_toArray, List.set_cons_zero, List.set_cons_succ])
                    refine late_one (i := 17) (by kernel_rfl) hL (fun hL' => ?_)
                    refine wpOp_step rfl (fun K hK0 => ?_)
                    have hK : Shut _ := hK0
                    clear hK0
                    go_simp
                    refine hK.out _ _ ⟨fun e => absurd (e : true = false) (by decide), ?_⟩
                    clear hK K; clear hL; rename Shutb _ _ => hL
                    (try simp only [Act.put, List.setIfInBounds_toArray, List.set_cons_zero, List.set_cons_succ])
                    refine late_done (by kernel_rfl) ?_
                    (try dsimp only [Exit.then])
                    have hE6d : Ext w6 wx.drew := hE6x.drew
                    have hEd : Ext wx wx.drew := (Ext.refl wx).drew
                    have cw1d : wx.drew.cell? _ = _ := cw1
                    have cy1d : wx.drew.cell? _ = _ := cy1
                    have cw2d : wx.drew.cell? _ = _ := cw2
                    have cw3d : wx.drew.cell? _ = _ := cw3
                    have t2d : wx.drew.cell? _ = _ := t2
                    have t4d : wx.drew.cell? _ = _ := t4
                    have z1 : bl < wx.drew.heap.size := s1
                    have z2 : bk < wx.drew.heap.size := s2
                    have z3 : bc < wx.drew.heap.size := s3
                    have z6 : b6 < wx.drew.heap.size := p6
                    have z7 : b7 < wx.drew.heap.size := p7
                    have z8 : b8 < wx.drew.heap.size := p8
                    obtain ⟨wd, hwd⟩ : ∃ wd, wx.drew = wd := ⟨_, rfl⟩
                    rw [hwd] at hE6d hEd cw1d cy1d cw2d cw3d t2d t4d z1 z2 z3 z6 z7 z8 ⊢
                    clear hwd d2 d3 d4 d5 cw1 cw2 cw3 cy1 t1 t2 t3 t4
                    have hne : (A != A) = false := by simp
                    have m1 : ¬ P < 0 := by omega
                    have m2 : ¬ A < P := by omega
                    obtain ⟨k0, l0⟩ := HBX.out _ (hE16.trans hE6d)
                    by_cases hP0 : 0 < P
                    · have hcb2 := HCB2.out hP0
                      have hwp : IntKind.wrap .i64 (P - 1) = P - 1 := IntWalk.i64_in _ (by omega)
                      go_wp2_with (first | (have hq := hbya; go_at_call 44; refine (HCN.out _ _ _ (by omega) (by omega)).mono ?_; rintro e wyb ⟨rfl, hbyb⟩; rw [hcb2]) | (go_at_call 44; refine (HCN.out _ _ _ (by omega) (by omega)).mono ?_; rintro e wya ⟨rfl, hbya⟩; rw [hcb1]; (try clear k0 l0); obtain ⟨k0, l0⟩ := HBX.out wya ((hE16.trans hE6d).trans hbya)))
                      go_roundw
                      case rel => exact ⟨j + 1, by omega, by go_num, hEx.trans (hEd.trans (hbya.trans hbyb))⟩
                      case measure => simp [intOf]; omega
                    · have hcb2 : True := trivial
                      go_wp2_with (first | (go_at_call 44; refine (HCN.out _ _ _ (by omega) (by omega)).mono ?_; rintro e wy ⟨rfl, hby⟩; (try rw [hcb1]); (try rw [hcb2]); (try clear k0 l0); obtain ⟨k0, l0⟩ := HBX.out wy ((hE16.trans hE6d).trans (by (with_reducible (repeat (first | exact Ext.refl _ | assumption | apply Ext.alloc | apply Ext.drew | exact ext_plus _ _ | (apply Ext.setCell; rotate_left; (simp <;> omega)) | (apply Ext.trans; rotate_left; exact ext_plus _ _) | (apply Ext.trans; rotate_left; assumption))))))))
                      go_roundw
                      case rel => exact ⟨j + 1, by omega, by go_num, hEx.trans (hEd.trans hby)⟩
                      case measure => simp [intOf]; omega
                  · go_wp2
                    go_roundw
                    case rel => exact ⟨s + 1, by omega, by go_num, (hEr.trans hE').trans hEx⟩
                    case measure => simp [intOf]; omega
              · obtain rfl : s = X.length := by omega
                go_wp2_with (first | (go_at_call 17; refine (known_any _).mono ?_; rintro e wk ⟨rfl, hbk⟩))
                go_ret
                exact ⟨rfl, by (with_reducible (repeat (first | exact Ext.refl _ | assumption | apply Ext.alloc | apply Ext.drew | exact ext_plus _ _ | (apply Ext.setCell; rotate_left; (simp <;> omega)) | (apply Ext.trans; rotate_left; exact ext_plus _ _) | (apply Ext.trans; rotate_left; assumption))))⟩
        | true =>
          go_enter Try.func13, Try.ntmps13
          go_upto_region 1 with (fail)
          rw [HW1.out]
          obtain ⟨k0, l0⟩ := HBX.out w1 (Ext.refl _)
          go_upto_region 3 with (first | (go_at_call 15; refine (HS.out _ (by (with_reducible (repeat (first | exact Ext.refl _ | assumption | apply Ext.alloc | apply Ext.drew | exact ext_plus _ _ | (apply Ext.setCell; rotate_left; (simp <;> omega)) | (apply Ext.trans; rotate_left; exact ext_plus _ _) | (apply Ext.trans; rotate_left; assumption)))))).mono ?_; rintro e w2 ⟨rfl, hb2⟩; (try clear k0 l0); obtain ⟨k0, l0⟩ := HBX.out w2 (by (with_reducible (repeat (first | exact Ext.refl _ | assumption | apply Ext.alloc | apply Ext.drew | exact ext_plus _ _ | (apply Ext.setCell; rotate_left; (simp <;> omega)) | (apply Ext.trans; rotate_left; exact ext_plus _ _) | (apply Ext.trans; rotate_left; assumption)))))) | (go_at_call 19; refine (HA.out _ (by (with_reducible (repeat (first | exact Ext.refl _ | assumption | apply Ext.alloc | apply Ext.drew | exact ext_plus _ _ | (apply Ext.setCell; rotate_left; (simp <;> omega)) | (apply Ext.trans; rotate_left; exact ext_plus _ _) | (apply Ext.trans; rotate_left; assumption)))))).mono ?_; rintro e w3 ⟨rfl, hb3⟩; (try clear k0 l0); obtain ⟨k0, l0⟩ := HBX.out w3 (by (with_reducible (repeat (first | exact Ext.refl _ | assumption | apply Ext.alloc | apply Ext.drew | exact ext_plus _ _ | (apply Ext.setCell; rotate_left; (simp <;> omega)) | (apply Ext.trans; rotate_left; exact ext_plus _ _) | (apply Ext.trans; rotate_left; assumption)))))))
          have hE13 : Ext w1 w3 := hb2.trans hb3
          clear k0 l0
          obtain ⟨k0, l0⟩ := HBX.out w3 hE13
          go_cut [7, 9] from 18 to 198 (fun s7 s9 wc => Lists wc s7 X ∧ s9 = .int .i64 0 ∧ Ext w3 wc)
          case first =>
            go_region_held3 (fun y => (∀ o, y.cell? ⟨w.heap.size, o, none⟩ = (reefV r (.slice a1 r.places.length c1) : Array Value)[o]?) ∧ Ext w3 y)
              (first | exact ⟨(HBX.out _ (hE13.trans (by (with_reducible (repeat (first | exact Ext.refl _ | assumption | apply Ext.alloc | apply Ext.drew | exact ext_plus _ _ | (apply Ext.setCell; rotate_left; (simp <;> omega)) | (apply Ext.trans; rotate_left; exact ext_plus _ _) | (apply Ext.trans; rotate_left; assumption))))))).1, by (with_reducible (repeat (first | exact Ext.refl _ | assumption | apply Ext.alloc | apply Ext.drew | exact ext_plus _ _ | (apply Ext.setCell; rotate_left; (simp <;> omega)) | (apply Ext.trans; rotate_left; exact ext_plus _ _) | (apply Ext.trans; rotate_left; assumption))))⟩)
              (first | (go_at_call 27; refine (HEN.out _ ((hE1.trans hE13).trans (by (with_reducible (repeat (first | exact Ext.refl _ | assumption | apply Ext.alloc | apply Ext.drew | exact ext_plus _ _ | (apply Ext.setCell; rotate_left; (simp <;> omega)) | (apply Ext.trans; rotate_left; exact ext_plus _ _) | (apply Ext.trans; rotate_left; assumption))))))).mono ?_; rintro e y1 ⟨vs', vg', vt', rfl, h1s, h1g, h1t, hy1⟩; have q1 := hy1.cells.1; have q2 := hy1.cells.2; have q3 := hy1.size; (try simp only [size_drew, World.size_alloc] at q1 q2 q3); (try have q7 : w3.heap.size < y1.heap.size := (by omega))) | (go_at_call 18; refine (HPW.out _ _ _ _ ((hE1.trans hE13).trans (by (with_reducible (repeat (first | exact Ext.refl _ | assumption | apply Ext.alloc | apply Ext.drew | exact ext_plus _ _ | (apply Ext.setCell; rotate_left; (simp <;> omega)) | (apply Ext.trans; rotate_left; exact ext_plus _ _) | (apply Ext.trans; rotate_left; assumption)))))) (h1s.ext (by (with_reducible show Ext _ _; (with_reducible (repeat (first | exact Ext.refl _ | assumption | apply Ext.alloc | apply Ext.drew | exact ext_plus _ _ | (apply Ext.setCell; rotate_left; (simp <;> omega)) | (apply Ext.trans; rotate_left; exact ext_plus _ _) | (apply Ext.trans; rotate_left; assumption)))); done))) (h1g.ext (by (with_reducible show Ext _ _; (with_reducible (repeat (first | exact Ext.refl _ | assumption | apply Ext.alloc | apply Ext.drew | exact ext_plus _ _ | (apply Ext.setCell; rotate_left; (simp <;> omega)) | (apply Ext.trans; rotate_left; exact ext_plus _ _) | (apply Ext.trans; rotate_left; assumption)))); done))) (h1t.ext (by (with_reducible show Ext _ _; (with_reducible (repeat (first | exact Ext.refl _ | assumption | apply Ext.alloc | apply Ext.drew | exact ext_plus _ _ | (apply Ext.setCell; rotate_left; (simp <;> omega)) | (apply Ext.trans; rotate_left; exact ext_plus _ _) | (apply Ext.trans; rotate_left; assumption)))); done)))).mono ?_; rintro e y2 ⟨v2, qa, qb, qc, qd, qe, rfl, h2, hy2⟩; have q4 := hy2.cells.1; have q5 := hy2.cells.2; have q6 := hy2.size; (try simp only [size_drew, World.size_alloc] at q4 q5 q6)))
            all_goals (dsimp only [Exit.then]; go_wp2; go_meet)
            all_goals refine ⟨?_, rfl, ?_⟩
            all_goals first
              | (with_reducible refine ListsF.five h2 ?_ _ _ _ _ _; (try simp only [size_drew, World.size_alloc]); omega)
              | (with_reducible exact h2.lists.ext ((Ext.refl _).alloc _))
              | (with_reducible refine Ext.five ?_ ?_ _ _ _ _ _ <;> first | omega | (with_reducible show Ext _ _; (with_reducible (repeat (first | exact Ext.refl _ | assumption | apply Ext.alloc | apply Ext.drew | exact ext_plus _ _ | (apply Ext.setCell; rotate_left; (simp <;> omega)) | (apply Ext.trans; rotate_left; exact ext_plus _ _) | (apply Ext.trans; rotate_left; assumption)))); done))
              | (with_reducible show Ext _ _; (with_reducible (repeat (first | exact Ext.refl _ | assumption | apply Ext.alloc | apply Ext.drew | exact ext_plus _ _ | (apply Ext.setCell; rotate_left; (simp <;> omega)) | (apply Ext.trans; rotate_left; exact ext_plus _ _) | (apply Ext.trans; rotate_left; assumption)))); done)
          case rest =>
            obtain ⟨hLW, rfl, hE3c⟩ := hcut
            rename World => wc
            obtain ⟨al, cl, rfl, _⟩ := id hLW
            have HVL := Lib.hid hLW
            clear hLW k0 l0
            have hE1c : Ext w1 wc := hE13.trans hE3c
            have hPc := HBX.out wc hE1c
            obtain ⟨k0, l0⟩ := hPc
            clear hE3c hb2 hb3
            go_upto_region 8 with (first | (go_at_call 41; refine (HST.out _ (by (with_reducible (repeat (first | exact Ext.refl _ | assumption | apply Ext.alloc | apply Ext.drew | exact ext_plus _ _ | (apply Ext.setCell; rotate_left; (simp <;> omega)) | (apply Ext.trans; rotate_left; exact ext_plus _ _) | (apply Ext.trans; rotate_left; assumption)))))).mono ?_; rintro e w4 ⟨vk, rfl, hvk, hb4⟩; obtain ⟨ak, ck, rfl, _⟩ := id hvk; have HVK := Lib.hid hvk; clear hvk; (try clear k0 l0); obtain ⟨k0, l0⟩ := HBX.out w4 (by (with_reducible (repeat (first | exact Ext.refl _ | assumption | apply Ext.alloc | apply Ext.drew | exact ext_plus _ _ | (apply Ext.setCell; rotate_left; (simp <;> omega)) | (apply Ext.trans; rotate_left; exact ext_plus _ _) | (apply Ext.trans; rotate_left; assumption)))))) | (go_at_call 42; refine (HCT.out _ (by (with_reducible (repeat (first | exact Ext.refl _ | assumption | apply Ext.alloc | apply Ext.drew | exact ext_plus _ _ | (apply Ext.setCell; rotate_left; (simp <;> omega)) | (apply Ext.trans; rotate_left; exact ext_plus _ _) | (apply Ext.trans; rotate_left; assumption)))))).mono ?_; rintro e w5 ⟨vc, rfl, hvc, hb5⟩; obtain ⟨ac, cc, rfl, _⟩ := id hvc; have HVC := Lib.hid hvc; clear hvc; (try clear k0 l0); obtain ⟨k0, l0⟩ := HBX.out w5 (by (with_reducible (repeat (first | exact Ext.refl _ | assumption | apply Ext.alloc | apply Ext.drew | exact ext_plus _ _ | (apply Ext.setCell; rotate_left; (simp <;> omega)) | (apply Ext.trans; rotate_left; exact ext_plus _ _) | (apply Ext.trans; rotate_left; assumption)))))) | (go_at_call 24; refine (HSP.out _ _ (by (with_reducible (repeat (first | exact Ext.refl _ | assumption | apply Ext.alloc | apply Ext.drew | exact ext_plus _ _ | (apply Ext.setCell; rotate_left; (simp <;> omega)) | (apply Ext.trans; rotate_left; exact ext_plus _ _) | (apply Ext.trans; rotate_left; assumption))))) (HVL.out.ext (by (with_reducible (repeat (first | exact Ext.refl _ | assumption | apply Ext.alloc | apply Ext.drew | exact ext_plus _ _ | (apply Ext.setCell; rotate_left; (simp <;> omega)) | (apply Ext.trans; rotate_left; exact ext_plus _ _) | (apply Ext.trans; rotate_left; assumption))))))).mono ?_; rintro e w6 ⟨rfl, hb6⟩; (try clear k0 l0); obtain ⟨k0, l0⟩ := HBX.out w6 (by (with_reducible (repeat (first | exact Ext.refl _ | assumption | apply Ext.alloc | apply Ext.drew | exact ext_plus _ _ | (apply Ext.setCell; rotate_left; (simp <;> omega)) | (apply Ext.trans; rotate_left; exact ext_plus _ _) | (apply Ext.trans; rotate_left; assumption)))))))
            have hEc6 : Ext wc w6 := hb4.trans (hb5.trans hb6)
            have hE16 : Ext w1 w6 := hE1c.trans hEc6
            have hE6 : Ext w w6 := hE1.trans hE16
            have hvl := HVL.out.ext hEc6
            have hvk := HVK.out.ext (hb5.trans hb6)
            have hvc := HVC.out.ext hb6
            obtain ⟨al, cl, e1, hxl⟩ := hvl
            cases e1
            obtain ⟨ak, ck, e2, hxk⟩ := hvk
            cases e2
            obtain ⟨ac, cc, e3, hxc⟩ := hvc
            cases e3
            have HXL := Lib.hid hxl
            have HXK := Lib.hid hxk
            have HXC := Lib.hid hxc
            clear hxl hxk hxc hb4 hb5 hb6 k0 l0 HVL HVK HVC hEc6
            have hpc := plus_cell
            go_wp2
            go_loopw [14, 15, 16, 17] (fun i _ _ _ wr => ∃ s : Nat, s ≤ X.length ∧ i = .int .i64 s ∧ Ext w6 wr) (fun i _ _ _ _ => X.length - (intOf i).toNat)
            case atStart => exact ⟨0, Nat.zero_le _, rfl, Ext.refl _⟩
            case round =>
              rename World => wr
              obtain ⟨s, hs, rfl, hEr⟩ := hrel
              by_cases hlt : s < X.length
              · have hltK : s < K.length := by have := HLK.out; omega
                have hltC : s < C.length := by have := HLC.out; omega
                obtain ⟨bl, ol, e1, hbl, vl, hcl, hvl, _⟩ := HXL.out s hlt
                cases e1
                obtain ⟨bk, ok, e2, hbk, vk, hck, hvk⟩ := HXK.out s hltK
                cases e2
                obtain ⟨bc, oc, e3, hbc, vc, hcc, hvc⟩ := HXC.out s hltC
                cases e3
                simp only [Nat.mul_one] at hcl hck hcc
                have hrow := HROW.out s hlt hltK hltC
                obtain ⟨x, hx⟩ : ∃ x, X[s] = x := ⟨_, rfl⟩
                obtain ⟨y, hy⟩ : ∃ y, K[s] = y := ⟨_, rfl⟩
                obtain ⟨z, hz⟩ : ∃ z, C[s] = z := ⟨_, rfl⟩
                rw [hx] at hvl
                rw [hy] at hvk
                rw [hz] at hvc
                have hrow2 : RowSharp r true x y z := by subst hx hy hz; exact hrow
                have HEL := Lib.hid hrow2.el
                have hxl8 := hrow2.len
                obtain ⟨a6, c6, rfl, hx6⟩ := hvl
                obtain ⟨a7, c7, rfl, hx7⟩ := hvk
                obtain ⟨a8, c8, rfl, hx8⟩ := hvc
                have HX6 := Lib.hid hx6
                have HX7 := Lib.hid hx7
                have HX8 := Lib.hid hx8
                have HYL := Lib.hid hrow2.ly
                have HZL := Lib.hid hrow2.lz
                rw [hrow2.ly] at hck
                rw [hrow2.lz] at hcc
                have cu1 := (hEr.cells.1 _ _ hbl).trans hcl
                have cu2 := (hEr.cells.1 _ _ hbk).trans hck
                have cu3 := (hEr.cells.1 _ _ hbc).trans hcc
                have q1 := Nat.lt_of_lt_of_le hbl hEr.size
                have q2 := Nat.lt_of_lt_of_le hbk hEr.size
                have q3 := Nat.lt_of_lt_of_le hbc hEr.size
                clear hcl hck hcc hrow hrow2 hx hy hz hx6 hx7 hx8
                go_wp2
                refine wp_region_ext 24 (fun _ _ d _ _ h => by cases d <;> exact h) (by kernel_rfl) (by kernel_rfl) (by kernel_rfl) (by kernel_rfl) ?_
                simp only [List.take_succ_cons, List.take_zero, List.drop_succ_cons, List.drop_zero]
                repeat (any_goals (first | go_big_quiet_step (fail) | quiet_step (fail)))
                all_goals (refine wpQuiet_nil ?_; intro w' hE')
                unfold wpList
                have cv1 := (hE'.cells.1 _ _ q1).trans cu1
                have cv2 := (hE'.cells.1 _ _ q2).trans cu2
                have cv3 := (hE'.cells.1 _ _ q3).trans cu3
                have r1 := Nat.lt_of_lt_of_le q1 hE'.size
                have r2 := Nat.lt_of_lt_of_le q2 hE'.size
                have r3 := Nat.lt_of_lt_of_le q3 hE'.size
                clear cu1 cu2 cu3 q1 q2 q3
                go_wp2
                go_loopw [15, 16, 17] (fun i _ _ wx => ∃ j : Nat, j ≤ x.length ∧ i = .int .i64 j ∧ Ext w' wx) (fun i _ _ _ => x.length - (intOf i).toNat)
                case atStart => exact ⟨0, Nat.zero_le _, rfl, Ext.refl _⟩
                case round =>
                  rename World => wx
                  obtain ⟨j, hj, rfl, hEx⟩ := hrel
                  have hE6x : Ext w6 wx := (hEr.trans hE').trans hEx
                  have cw1 := (hEx.cells.1 _ _ r1).trans cv1
                  have cw2 := (hEx.cells.1 _ _ r2).trans cv2
                  have cw3 := (hEx.cells.1 _ _ r3).trans cv3
                  have s1 := Nat.lt_of_lt_of_le r1 hEx.size
                  have s2 := Nat.lt_of_lt_of_le r2 hEx.size
                  have s3 := Nat.lt_of_lt_of_le r3 hEx.size
                  by_cases hlj : j < x.length
                  · have hj7 : j < y.length := by have := HYL.out; omega
                    have hj8 : j < z.length := by have := HZL.out; omega
                    obtain ⟨b6, o6, e1, hb6, hc6⟩ := HX6.out j hlj
                    cases e1
                    obtain ⟨b7, o7, e2, hb7, hAt7⟩ := HX7.out j hj7
                    cases e2
                    obtain ⟨b8, o8, e3, hb8, hAt8⟩ := HX8.out j hj8
                    cases e3
                    have cy1 := (hE6x.cells.1 _ _ hb6).trans hc6
                    obtain ⟨t1, t2⟩ := span_cells (ate_stays _ _ _ _ _ _ hE6x hb7 hAt7)
                    obtain ⟨t3, t4⟩ := span_cells (ate_stays _ _ _ _ _ _ hE6x hb8 hAt8)
                    have p6 := Nat.lt_of_lt_of_le hb6 hE6x.size
                    have p7 := Nat.lt_of_lt_of_le hb7 hE6x.size
                    have p8 := Nat.lt_of_lt_of_le hb8 hE6x.size
                    have hel := HEL.out j hlj hj7 hj8
                    obtain ⟨A, hA⟩ : ∃ A, y[j].1 = A := ⟨_, rfl⟩
                    obtain ⟨B, hB⟩ : ∃ B, y[j].2 = B := ⟨_, rfl⟩
                    obtain ⟨P, hP'⟩ : ∃ P, z[j].1 = P := ⟨_, rfl⟩
                    obtain ⟨Q, hQ⟩ : ∃ Q, z[j].2 = Q := ⟨_, rfl⟩
                    rw [hA] at t1
                    rw [hB] at t2
                    rw [hP'] at t3
                    rw [hQ] at t4
                    have hel2 : x[j] = B ∧ Q = B ∧ 0 ≤ B ∧ B ≤ 1000000000 ∧ countsB r B B = true := by subst hB hQ; first | exact hel.2 rfl | exact hel.2 trivial | exact hel.2
                    obtain ⟨f1, f2, f3, f4, hcb1⟩ := hel2
                    rw [f1] at cy1
                    rw [f2] at t4
                    have hcb2 : True := trivial
                    clear f2
                    clear hc6 hAt7 hAt8 hel hA hB hP' hQ f1
                    have hj7x : j < y.length := hj7
                    go_upto_region 16 with (fail)
                    have d2 : wx.drew.cell? _ = _ := cw2
                    have d3 : wx.drew.cell? _ = _ := cw3
                    have d4 : wx.drew.cell? _ = _ := t1
                    have d5 : wx.drew.cell? _ = _ := t3
                    refine wp_region_late 17 (fun c y => c = false → (y.cell? ⟨bk, ok + s, none⟩ = some (.slice (some ⟨b7, o7, none⟩) x.length c7) ∧ y.cell? ⟨bc, oc + s, none⟩ = some (.slice (some ⟨b8, o8, none⟩) x.length c8) ∧ y.cell? ⟨b7, o7 + j * 2, none⟩ = some (.int .i64 A) ∧ y.cell? ⟨b8, o8 + j * 2, none⟩ = some (.int .i64 P))) (by kernel_rfl) (fun hL => ?_)
                    refine late_early (i := 0) (v := ?_) rfl (by kernel_rfl) (by kernel_rfl) (by kernel_rfl) (by decide) (by kernel_rfl) (fun _ _ _ h => h) hL (Or.inl ⟨by rfl, ?_⟩) (fun _ => ⟨d2, d3, d4, d5⟩) (fun hL' => ?_)
                    rotate_left
                    · intro y hy; have hz := hy rfl; clear hy; obtain ⟨g1, g2, g3, g4⟩ := hz; go_simp; (try with_reducible rfl)
                    clear hL; rename Shutb _ _ => hL
                    (try simp only [Act.put, List.setIfInBounds_toArray, List.set_cons_zero, List.set_cons_succ])
                    refine late_early (i := 1) (v := ?_) rfl (by kernel_rfl) (by kernel_rfl) (by kernel_rfl) (by decide) (by kernel_rfl) (fun _ _ _ h => h) hL (Or.inl ⟨by rfl, ?_⟩) (fun _ => ⟨d2, d3, d4, d5⟩) (fun hL' => ?_)
                    rotate_left
                    · intro y hy; have hz := hy rfl; clear hy; obtain ⟨g1, g2, g3, g4⟩ := hz; go_simp; (try with_reducible rfl)
                    clear hL; rename Shutb _ _ => hL
                    (try simp only [Act.put, List.setIfInBounds_toArray, List.set_cons_zero, List.set_cons_succ])
                    refine late_early (i := 2) (v := ?_) rfl (by kernel_rfl) (by kernel_rfl) (by kernel_rfl) (by decide) (by kernel_rfl) (fun _ _ _ h => h) hL (Or.inl ⟨by rfl, ?_⟩) (fun _ => ⟨d2, d3, d4, d5⟩) (fun hL' => ?_)
                    rotate_left
                    · intro y hy; have hz := hy rfl; clear hy; obtain ⟨g1, g2, g3, g4⟩ := hz; go_simp; (try with_reducible rfl)
                    clear hL; rename Shutb _ _ => hL
                    (try simp only [Act.put, List.setIfInBounds_toArray, List.set_cons_zero, List.set_cons_succ])
                    refine late_early (i := 3) (v := ?_) rfl (by kernel_rfl) (by kernel_rfl) (by kernel_rfl) (by decide) (by kernel_rfl) (fun _ _ _ h => h) hL (Or.inl ⟨by rfl, ?_⟩) (fun _ => ⟨d2, d3, d4, d5⟩) (fun hL' => ?_)
                    rotate_left
                    · intro y hy; have hz := hy rfl; clear hy; obtain ⟨g1, g2, g3, g4⟩ := hz; go_simp; (try with_reducible rfl)
                    clear hL; rename Shutb _ _ => hL
                    (try simp only [Act.put, List.setIfInBounds_toArray, List.set_cons_zero, List.set_cons_succ])
                    refine late_early (i := 4) (v := ?_) rfl (by kernel_rfl) (by kernel_rfl) (by kernel_rfl) (by decide) (by kernel_rfl) (fun _ _ _ h => h) hL (Or.inl ⟨by rfl, ?_⟩) (fun _ => ⟨d2, d3, d4, d5⟩) (fun hL' => ?_)
                    rotate_left
                    · intro y hy; have hz := hy rfl; clear hy; obtain ⟨g1, g2, g3, g4⟩ := hz; go_simp; (try with_reducible rfl)
                    clear hL; rename Shutb _ _ => hL
                    (try simp only [Act.put, List.setIfInBounds_toArray, List.set_cons_zero, List.set_cons_succ])
                    refine late_early (i := 5) (v := ?_) rfl (by kernel_rfl) (by kernel_rfl) (by kernel_rfl) (by decide) (by kernel_rfl) (fun _ _ _ h => h) hL (Or.inl ⟨by rfl, ?_⟩) (fun _ => ⟨d2, d3, d4, d5⟩) (fun hL' => ?_)
                    rotate_left
                    · intro y hy; have hz := hy rfl; clear hy; obtain ⟨g1, g2, g3, g4⟩ := hz; go_simp; (try with_reducible rfl)
                    clear hL; rename Shutb _ _ => hL
                    (try simp only [Act.put, List.setIfInBounds_toArray, List.set_cons_zero, List.set_cons_succ])
                    refine late_early (i := 6) (v := ?_) rfl (by kernel_rfl) (by kernel_rfl) (by kernel_rfl) (by decide) (by kernel_rfl) (fun _ _ _ h => h) hL (Or.inl ⟨by rfl, ?_⟩) (fun _ => ⟨d2, d3, d4, d5⟩) (fun hL' => ?_)
                    rotate_left
                    · intro y hy; have hz := hy rfl; clear hy; obtain ⟨g1, g2, g3, g4⟩ := hz; go_simp; (try with_reducible rfl)
                    clear hL; rename Shutb _ _ => hL
                    (try simp only [Act.put, List.setIfInBounds_toArray, List.set_cons_zero, List.set_cons_succ])
                    refine late_early (i := 7) (v := ?_) rfl (by kernel_rfl) (by kernel_rfl) (by kernel_rfl) (by decide) (by kernel_rfl) (fun _ _ _ h => h) hL (Or.inl ⟨by rfl, ?_⟩) (fun _ => ⟨d2, d3, d4, d5⟩) (fun hL' => ?_)
                    rotate_left
                    · intro y hy; have hz := hy rfl; clear hy; obtain ⟨g1, g2, g3, g4⟩ := hz; go_simp; (try with_reducible rfl)
                    clear hL; rename Shutb _ _ => hL
                    (try simp only [Act.put, List.setIfInBounds_toArray, List.set_cons_zero, List.set_cons_succ])
                    refine late_early (i := 8) (v := ?_) rfl (by kernel_rfl) (by kernel_rfl) (by kernel_rfl) (by decide) (by kernel_rfl) (fun _ _ _ h => h) hL (Or.inl ⟨by rfl, ?_⟩) (fun _ => ⟨d2, d3, d4, d5⟩) (fun hL' => ?_)
                    rotate_left
                    · intro y hy; have hz := hy rfl; clear hy; obtain ⟨g1, g2, g3, g4⟩ := hz; go_simp; (try with_reducible rfl)
                    clear hL; rename Shutb _ _ => hL
                    (try simp only [Act.put, List.setIfInBounds_toArray, List.set_cons_zero, List.set_cons_succ])
                    refine late_early (i := 9) (v := ?_) rfl (by kernel_rfl) (by kernel_rfl) (by kernel_rfl) (by decide) (by kernel_rfl) (fun _ _ _ h => h) hL (Or.inl ⟨by rfl, ?_⟩) (fun _ => ⟨d2, d3, d4, d5⟩) (fun hL' => ?_)
                    rotate_left
                    · intro y hy; have hz := hy rfl; clear hy; obtain ⟨g1, g2, g3, g4⟩ := hz; go_simp; (try with_reducible rfl)
                    clear hL; rename Shutb _ _ => hL
                    (try simp only [Act.put, List.setIfInBounds_toArray, List.set_cons_zero, List.set_cons_succ])
                    refine late_early (i := 10) (v := ?_) rfl (by kernel_rfl) (by kernel_rfl) (by kernel_rfl) (by decide) (by kernel_rfl) (fun _ _ _ h => h) hL (Or.inl ⟨by rfl, ?_⟩) (fun _ => ⟨d2, d3, d4, d5⟩) (fun hL' => ?_)
                    rotate_left
                    · intro y hy; have hz := hy rfl; clear hy; obtain ⟨g1, g2, g3, g4⟩ := hz; go_simp; (try with_reducible rfl)
                    clear hL; rename Shutb _ _ => hL
                    (try simp only [Act.put, List.setIfInBounds_toArray, List.set_cons_zero, List.set_cons_succ])
                    refine late_early (i := 11) (v := ?_) rfl (by kernel_rfl) (by kernel_rfl) (by kernel_rfl) (by decide) (by kernel_rfl) (fun _ _ _ h => h) hL (Or.inl ⟨by rfl, ?_⟩) (fun _ => ⟨d2, d3, d4, d5⟩) (fun hL' => ?_)
                    rotate_left
                    · intro y hy; have hz := hy rfl; clear hy; obtain ⟨g1, g2, g3, g4⟩ := hz; go_simp; (try with_reducible rfl)
                    clear hL; rename Shutb _ _ => hL
                    (try simp only [Act.put, List.setIfInBounds_toArray, List.set_cons_zero, List.set_cons_succ])
                    refine late_early (i := 12) (v := ?_) rfl (by kernel_rfl) (by kernel_rfl) (by kernel_rfl) (by decide) (by kernel_rfl) (fun _ _ _ h => h) hL (Or.inl ⟨by rfl, ?_⟩) (fun _ => ⟨d2, d3, d4, d5⟩) (fun hL' => ?_)
                    rotate_left
                    · intro y hy; have hz := hy rfl; clear hy; obtain ⟨g1, g2, g3, g4⟩ := hz; go_simp; (try with_reducible rfl)
                    clear hL; rename Shutb _ _ => hL
                    (try simp only [Act.put, List.setIfInBounds_toArray, List.set_cons_zero, List.set_cons_succ])
                    refine late_early (i := 13) (v := ?_) rfl (by kernel_rfl) (by kernel_rfl) (by kernel_rfl) (by decide) (by kernel_rfl) (fun _ _ _ h => h) hL (Or.inl ⟨by rfl, ?_⟩) (fun _ => ⟨d2, d3, d4, d5⟩) (fun hL' => ?_)
                    rotate_left
                    · intro y hy; have hz := hy rfl; clear hy; obtain ⟨g1, g2, g3, g4⟩ := hz; go_simp; (try with_reducible rfl)
                    clear hL; rename Shutb _ _ => hL
                    (try simp only [Act.put, List.setIfInBounds_toArray, List.set_cons_zero, List.set_cons_succ])
                    refine late_early (i := 14) (v := ?_) rfl (by kernel_rfl) (by kernel_rfl) (by kernel_rfl) (by decide) (by kernel_rfl) (fun _ _ _ h => h) hL (Or.inl ⟨by rfl, ?_⟩) (fun _ => ⟨d2, d3, d4, d5⟩) (fun hL' => ?_)
                    rotate_left
                    · intro y hy; have hz := hy rfl; clear hy; obtain ⟨g1, g2, g3, g4⟩ := hz; go_simp; (try with_reducible rfl)
                    clear hL; rename Shutb _ _ => hL
                    (try simp only [Act.put, List.setIfInBounds_toArray, List.set_cons_zero, List.set_cons_succ])
                    refine late_early (i := 15) (v := ?_) rfl (by kernel_rfl) (by kernel_rfl) (by kernel_rfl) (by decide) (by kernel_rfl) (fun _ _ _ h => h) hL (Or.inl ⟨by rfl, ?_⟩) (fun _ => ⟨d2, d3, d4, d5⟩) (fun hL' => ?_)
                    rotate_left
                    · intro y hy; have hz := hy rfl; clear hy; obtain ⟨g1, g2, g3, g4⟩ := hz; go_simp; (try with_reducible rfl)
                    clear hL; rename Shutb _ _ => hL
                    (try simp only [Act.put, List.setIfInBounds_toArray, List.set_cons_zero, List.set_cons_succ])
                    refine late_one (i := 16) (by kernel_rfl) hL (fun hL' => ?_)
                    refine wpOp_step rfl (fun K hK0 => ?_)
                    have hK : Shut _ := hK0
                    clear hK0
                    go_simp
                    refine hK.out _ _ ⟨fun _ => ⟨d2, d3, d4, d5⟩, ?_⟩
                    clear hK K; clear hL; rename Shutb _ _ => hL
                    (try simp only [Act.put, List.setIfInBounds_toArray, List.set_cons_zero, List.set_cons_succ])
                    refine late_one (i := 17) (by kernel_rfl) hL (fun hL' => ?_)
                    refine wpOp_step rfl (fun K hK0 => ?_)
                    have hK : Shut _ := hK0
                    clear hK0
                    go_simp
                    refine hK.out _ _ ⟨fun e => absurd (e : true = false) (by decide), ?_⟩
                    clear hK K; clear hL; rename Shutb _ _ => hL
                    (try simp only [Act.put, List.setIfInBounds_toArray, List.set_cons_zero, List.set_cons_succ])
                    refine late_done (by kernel_rfl) ?_
                    (try dsimp only [Exit.then])
                    have hE6d : Ext w6 wx.drew := hE6x.drew
                    have hEd : Ext wx wx.drew := (Ext.refl wx).drew
                    have cw1d : wx.drew.cell? _ = _ := cw1
                    have cy1d : wx.drew.cell? _ = _ := cy1
                    have cw2d : wx.drew.cell? _ = _ := cw2
                    have cw3d : wx.drew.cell? _ = _ := cw3
                    have t2d : wx.drew.cell? _ = _ := t2
                    have t4d : wx.drew.cell? _ = _ := t4
                    have z1 : bl < wx.drew.heap.size := s1
                    have z2 : bk < wx.drew.heap.size := s2
                    have z3 : bc < wx.drew.heap.size := s3
                    have z6 : b6 < wx.drew.heap.size := p6
                    have z7 : b7 < wx.drew.heap.size := p7
                    have z8 : b8 < wx.drew.heap.size := p8
                    obtain ⟨wd, hwd⟩ : ∃ wd, wx.drew = wd := ⟨_, rfl⟩
                    rw [hwd] at hE6d hEd cw1d cy1d cw2d cw3d t2d t4d z1 z2 z3 z6 z7 z8 ⊢
                    clear hwd d2 d3 d4 d5 cw1 cw2 cw3 cy1 t1 t2 t3 t4
                    go_wp2
                    have d2 : wd.drew.cell? _ = _ := cw2d
                    have d3 : wd.drew.cell? _ = _ := cw3d
                    have d4 : wd.drew.cell? _ = _ := t2d
                    have d5 : wd.drew.cell? _ = _ := t4d
                    refine wp_region_late 17 (fun c y => c = false → (y.cell? ⟨bk, ok + s, none⟩ = some (.slice (some ⟨b7, o7, none⟩) x.length c7) ∧ y.cell? ⟨bc, oc + s, none⟩ = some (.slice (some ⟨b8, o8, none⟩) x.length c8) ∧ y.cell? ⟨b7, o7 + j * 2 + 1, none⟩ = some (.int .i64 B) ∧ y.cell? ⟨b8, o8 + j * 2 + 1, none⟩ = some (.int .i64 B))) (by kernel_rfl) (fun hL => ?_)
                    refine late_early (i := 0) (v := ?_) rfl (by kernel_rfl) (by kernel_rfl) (by kernel_rfl) (by decide) (by kernel_rfl) (fun _ _ _ h => h) hL (Or.inl ⟨by rfl, ?_⟩) (fun _ => ⟨d2, d3, d4, d5⟩) (fun hL' => ?_)
                    rotate_left
                    · intro y hy; have hz := hy rfl; clear hy; obtain ⟨g1, g2, g3, g4⟩ := hz; go_simp; (try with_reducible rfl)
                    clear hL; rename Shutb _ _ => hL
                    (try simp only [Act.put, List.setIfInBounds_toArray, List.set_cons_zero, List.set_cons_succ])
                    refine late_early (i := 1) (v := ?_) rfl (by kernel_rfl) (by kernel_rfl) (by kernel_rfl) (by decide) (by kernel_rfl) (fun _ _ _ h => h) hL (Or.inl ⟨by rfl, ?_⟩) (fun _ => ⟨d2, d3, d4, d5⟩) (fun hL' => ?_)
                    rotate_left
                    · intro y hy; have hz := hy rfl; clear hy; obtain ⟨g1, g2, g3, g4⟩ := hz; go_simp; (try with_reducible rfl)
                    clear hL; rename Shutb _ _ => hL
                    (try simp only [Act.put, List.setIfInBounds_toArray, List.set_cons_zero, List.set_cons_succ])
                    refine late_early (i := 2) (v := ?_) rfl (by kernel_rfl) (by kernel_rfl) (by kernel_rfl) (by decide) (by kernel_rfl) (fun _ _ _ h => h) hL (Or.inl ⟨by rfl, ?_⟩) (fun _ => ⟨d2, d3, d4, d5⟩) (fun hL' => ?_)
                    rotate_left
                    · intro y hy; have hz := hy rfl; clear hy; obtain ⟨g1, g2, g3, g4⟩ := hz; go_simp; (try with_reducible rfl)
                    clear hL; rename Shutb _ _ => hL
                    (try simp only [Act.put, List.setIfInBounds_toArray, List.set_cons_zero, List.set_cons_succ])
                    refine late_early (i := 3) (v := ?_) rfl (by kernel_rfl) (by kernel_rfl) (by kernel_rfl) (by decide) (by kernel_rfl) (fun _ _ _ h => h) hL (Or.inl ⟨by rfl, ?_⟩) (fun _ => ⟨d2, d3, d4, d5⟩) (fun hL' => ?_)
                    rotate_left
                    · intro y hy; have hz := hy rfl; clear hy; obtain ⟨g1, g2, g3, g4⟩ := hz; go_simp; (try with_reducible rfl)
                    clear hL; rename Shutb _ _ => hL
                    (try simp only [Act.put, List.setIfInBounds_toArray, List.set_cons_zero, List.set_cons_succ])
                    refine late_early (i := 4) (v := ?_) rfl (by kernel_rfl) (by kernel_rfl) (by kernel_rfl) (by decide) (by kernel_rfl) (fun _ _ _ h => h) hL (Or.inl ⟨by rfl, ?_⟩) (fun _ => ⟨d2, d3, d4, d5⟩) (fun hL' => ?_)
                    rotate_left
                    · intro y hy; have hz := hy rfl; clear hy; obtain ⟨g1, g2, g3, g4⟩ := hz; go_simp; (try with_reducible rfl)
                    clear hL; rename Shutb _ _ => hL
                    (try simp only [Act.put, List.setIfInBounds_toArray, List.set_cons_zero, List.set_cons_succ])
                    refine late_early (i := 5) (v := ?_) rfl (by kernel_rfl) (by kernel_rfl) (by kernel_rfl) (by decide) (by kernel_rfl) (fun _ _ _ h => h) hL (Or.inl ⟨by rfl, ?_⟩) (fun _ => ⟨d2, d3, d4, d5⟩) (fun hL' => ?_)
                    rotate_left
                    · intro y hy; have hz := hy rfl; clear hy; obtain ⟨g1, g2, g3, g4⟩ := hz; go_simp; (try with_reducible rfl)
                    clear hL; rename Shutb _ _ => hL
                    (try simp only [Act.put, List.setIfInBounds_toArray, List.set_cons_zero, List.set_cons_succ])
                    refine late_early (i := 6) (v := ?_) rfl (by kernel_rfl) (by kernel_rfl) (by kernel_rfl) (by decide) (by kernel_rfl) (fun _ _ _ h => h) hL (Or.inl ⟨by rfl, ?_⟩) (fun _ => ⟨d2, d3, d4, d5⟩) (fun hL' => ?_)
                    rotate_left
                    · intro y hy; have hz := hy rfl; clear hy; obtain ⟨g1, g2, g3, g4⟩ := hz; go_simp; (try with_reducible rfl)
                    clear hL; rename Shutb _ _ => hL
                    (try simp only [Act.put, List.setIfInBounds_toArray, List.set_cons_zero, List.set_cons_succ])
                    refine late_early (i := 7) (v := ?_) rfl (by kernel_rfl) (by kernel_rfl) (by kernel_rfl) (by decide) (by kernel_rfl) (fun _ _ _ h => h) hL (Or.inl ⟨by rfl, ?_⟩) (fun _ => ⟨d2, d3, d4, d5⟩) (fun hL' => ?_)
                    rotate_left
                    · intro y hy; have hz := hy rfl; clear hy; obtain ⟨g1, g2, g3, g4⟩ := hz; go_simp; (try with_reducible rfl)
                    clear hL; rename Shutb _ _ => hL
                    (try simp only [Act.put, List.setIfInBounds_toArray, List.set_cons_zero, List.set_cons_succ])
                    refine late_early (i := 8) (v := ?_) rfl (by kernel_rfl) (by kernel_rfl) (by kernel_rfl) (by decide) (by kernel_rfl) (fun _ _ _ h => h) hL (Or.inl ⟨by rfl, ?_⟩) (fun _ => ⟨d2, d3, d4, d5⟩) (fun hL' => ?_)
                    rotate_left
                    · intro y hy; have hz := hy rfl; clear hy; obtain ⟨g1, g2, g3, g4⟩ := hz; go_simp; (try with_reducible rfl)
                    clear hL; rename Shutb _ _ => hL
                    (try simp only [Act.put, List.setIfInBounds_toArray, List.set_cons_zero, List.set_cons_succ])
                    refine late_early (i := 9) (v := ?_) rfl (by kernel_rfl) (by kernel_rfl) (by kernel_rfl) (by decide) (by kernel_rfl) (fun _ _ _ h => h) hL (Or.inl ⟨by rfl, ?_⟩) (fun _ => ⟨d2, d3, d4, d5⟩) (fun hL' => ?_)
                    rotate_left
                    · intro y hy; have hz := hy rfl; clear hy; obtain ⟨g1, g2, g3, g4⟩ := hz; go_simp; (try with_reducible rfl)
                    clear hL; rename Shutb _ _ => hL
                    (try simp only [Act.put, List.setIfInBounds_toArray, List.set_cons_zero, List.set_cons_succ])
                    refine late_early (i := 10) (v := ?_) rfl (by kernel_rfl) (by kernel_rfl) (by kernel_rfl) (by decide) (by kernel_rfl) (fun _ _ _ h => h) hL (Or.inl ⟨by rfl, ?_⟩) (fun _ => ⟨d2, d3, d4, d5⟩) (fun hL' => ?_)
                    rotate_left
                    · intro y hy; have hz := hy rfl; clear hy; obtain ⟨g1, g2, g3, g4⟩ := hz; go_simp; (try with_reducible rfl)
                    clear hL; rename Shutb _ _ => hL
                    (try simp only [Act.put, List.setIfInBounds_toArray, List.set_cons_zero, List.set_cons_succ])
                    refine late_early (i := 11) (v := ?_) rfl (by kernel_rfl) (by kernel_rfl) (by kernel_rfl) (by decide) (by kernel_rfl) (fun _ _ _ h => h) hL (Or.inl ⟨by rfl, ?_⟩) (fun _ => ⟨d2, d3, d4, d5⟩) (fun hL' => ?_)
                    rotate_left
                    · intro y hy; have hz := hy rfl; clear hy; obtain ⟨g1, g2, g3, g4⟩ := hz; go_simp; (try with_reducible rfl)
                    clear hL; rename Shutb _ _ => hL
                    (try simp only [Act.put, List.setIfInBounds_toArray, List.set_cons_zero, List.set_cons_succ])
                    refine late_early (i := 12) (v := ?_) rfl (by kernel_rfl) (by kernel_rfl) (by kernel_rfl) (by decide) (by kernel_rfl) (fun _ _ _ h => h) hL (Or.inl ⟨by rfl, ?_⟩) (fun _ => ⟨d2, d3, d4, d5⟩) (fun hL' => ?_)
                    rotate_left
                    · intro y hy; have hz := hy rfl; clear hy; obtain ⟨g1, g2, g3, g4⟩ := hz; go_simp; (try with_reducible rfl)
                    clear hL; rename Shutb _ _ => hL
                    (try simp only [Act.put, List.setIfInBounds_toArray, List.set_cons_zero, List.set_cons_succ])
                    refine late_early (i := 13) (v := ?_) rfl (by kernel_rfl) (by kernel_rfl) (by kernel_rfl) (by decide) (by kernel_rfl) (fun _ _ _ h => h) hL (Or.inl ⟨by rfl, ?_⟩) (fun _ => ⟨d2, d3, d4, d5⟩) (fun hL' => ?_)
                    rotate_left
                    · intro y hy; have hz := hy rfl; clear hy; obtain ⟨g1, g2, g3, g4⟩ := hz; go_simp; (try with_reducible rfl)
                    clear hL; rename Shutb _ _ => hL
                    (try simp only [Act.put, List.setIfInBounds_toArray, List.set_cons_zero, List.set_cons_succ])
                    refine late_early (i := 14) (v := ?_) rfl (by kernel_rfl) (by kernel_rfl) (by kernel_rfl) (by decide) (by kernel_rfl) (fun _ _ _ h => h) hL (Or.inl ⟨by rfl, ?_⟩) (fun _ => ⟨d2, d3, d4, d5⟩) (fun hL' => ?_)
                    rotate_left
                    · intro y hy; have hz := hy rfl; clear hy; obtain ⟨g1, g2, g3, g4⟩ := hz; go_simp; (try with_reducible rfl)
                    clear hL; rename Shutb _ _ => hL
                    (try simp only [Act.put, List.setIfInBounds_toArray, List.set_cons_zero, List.set_cons_succ])
                    refine late_early (i := 15) (v := ?_) rfl (by kernel_rfl) (by kernel_rfl) (by kernel_rfl) (by decide) (by kernel_rfl) (fun _ _ _ h => h) hL (Or.inl ⟨by rfl, ?_⟩) (fun _ => ⟨d2, d3, d4, d5⟩) (fun hL' => ?_)
                    rotate_left
                    · intro y hy; have hz := hy rfl; clear hy; obtain ⟨g1, g2, g3, g4⟩ := hz; go_simp; (try with_reducible rfl)
                    clear hL; rename Shutb _ _ => hL
                    (try simp only [Act.put, List.setIfInBounds_toArray, List.set_cons_zero, List.set_cons_succ])
                    refine late_one (i := 16) (by kernel_rfl) hL (fun hL' => ?_)
                    refine wpOp_step rfl (fun K hK0 => ?_)
                    have hK : Shut _ := hK0
                    clear hK0
                    go_simp
                    refine hK.out _ _ ⟨fun _ => ⟨d2, d3, d4, d5⟩, ?_⟩
                    clear hK K; clear hL; rename Shutb _ _ => hL
                    (try simp only [Act.put, List.setIfInBounds_toArray, List.set_cons_zero, List.set_cons_succ])
                    refine late_one (i := 17) (by kernel_rfl) hL (fun hL' => ?_)
                    refine wpOp_step rfl (fun K hK0 => ?_)
                    have hK : Shut _ := hK0
                    clear hK0
                    go_simp
                    refine hK.out _ _ ⟨fun e => absurd (e : true = false) (by decide), ?_⟩
                    clear hK K; clear hL; rename Shutb _ _ => hL
                    (try simp only [Act.put, List.setIfInBounds_toArray, List.set_cons_zero, List.set_cons_succ])
                    refine late_done (by kernel_rfl) ?_
                    (try dsimp only [Exit.then])
                    have hE6e : Ext w6 wd.drew := hE6d.drew
                    have hEe : Ext wx wd.drew := hEd.drew
                    have cw1e : wd.drew.cell? _ = _ := cw1d
                    have cy1e : wd.drew.cell? _ = _ := cy1d
                    have y1 : bl < wd.drew.heap.size := z1
                    have y6 : b6 < wd.drew.heap.size := z6
                    obtain ⟨we, hwe⟩ : ∃ we, wd.drew = we := ⟨_, rfl⟩
                    rw [hwe] at hE6e hEe cw1e cy1e y1 y6 ⊢
                    clear hwe d2 d3 d4 d5 cw1d cw2d cw3d cy1d t2d t4d z1 z2 z3 z6 z7 z8 hE6d hEd
                    have hE6d := hE6e
                    have hEd := hEe
                    have hne : (B != B) = false := by simp
                    have m1 : ¬ B < 0 := by omega
                    have m2 : ¬ B < B := by omega
                    obtain ⟨k0, l0⟩ := HBX.out _ (hE16.trans hE6d)
                    go_wp2_with (first | (go_at_call 44; refine (HCN.out _ _ _ (by omega) (by omega)).mono ?_; rintro e wy ⟨rfl, hby⟩; (try rw [hcb1]); (try rw [hcb2]); (try clear k0 l0); obtain ⟨k0, l0⟩ := HBX.out wy ((hE16.trans hE6d).trans (by (with_reducible (repeat (first | exact Ext.refl _ | assumption | apply Ext.alloc | apply Ext.drew | exact ext_plus _ _ | (apply Ext.setCell; rotate_left; (simp <;> omega)) | (apply Ext.trans; rotate_left; exact ext_plus _ _) | (apply Ext.trans; rotate_left; assumption))))))))
                    go_roundw
                    case rel => exact ⟨j + 1, by omega, by go_num, hEx.trans (hEd.trans hby)⟩
                    case measure => simp [intOf]; omega
                  · go_wp2
                    go_roundw
                    case rel => exact ⟨s + 1, by omega, by go_num, (hEr.trans hE').trans hEx⟩
                    case measure => simp [intOf]; omega
              · obtain rfl : s = X.length := by omega
                go_wp2_with (first | (go_at_call 17; refine (known_any _).mono ?_; rintro e wk ⟨rfl, hbk⟩))
                go_ret
                exact ⟨rfl, by (with_reducible (repeat (first | exact Ext.refl _ | assumption | apply Ext.alloc | apply Ext.drew | exact ext_plus _ _ | (apply Ext.setCell; rotate_left; (simp <;> omega)) | (apply Ext.trans; rotate_left; exact ext_plus _ _) | (apply Ext.trans; rotate_left; assumption))))⟩
    · have hpi : (8 : Int) < plan.length := by omega
      clear hpl hsh
      go_enter Try.func13, Try.ntmps13
      go_upto_region 1 with (fail)
      rw [HW1.out]
      obtain ⟨k0, l0⟩ := HBX.out w1 (Ext.refl _)
      go_wp2_with (first | (go_at_call 15; refine (HS.out _ (by (with_reducible (repeat (first | exact Ext.refl _ | assumption | apply Ext.alloc | apply Ext.drew | exact ext_plus _ _ | (apply Ext.setCell; rotate_left; (simp <;> omega)) | (apply Ext.trans; rotate_left; exact ext_plus _ _) | (apply Ext.trans; rotate_left; assumption)))))).mono ?_; rintro e w2 ⟨rfl, hb2⟩; (try clear k0 l0); obtain ⟨k0, l0⟩ := HBX.out w2 (by (with_reducible (repeat (first | exact Ext.refl _ | assumption | apply Ext.alloc | apply Ext.drew | exact ext_plus _ _ | (apply Ext.setCell; rotate_left; (simp <;> omega)) | (apply Ext.trans; rotate_left; exact ext_plus _ _) | (apply Ext.trans; rotate_left; assumption)))))) | (go_at_call 17; refine (known_any _).mono ?_; rintro e wk ⟨rfl, hbk⟩))
      all_goals
        go_ret
        exact ⟨rfl, by (with_reducible (repeat (first | exact Ext.refl _ | assumption | apply Ext.alloc | apply Ext.drew | exact ext_plus _ _ | (apply Ext.setCell; rotate_left; (simp <;> omega)) | (apply Ext.trans; rotate_left; exact ext_plus _ _) | (apply Ext.trans; rotate_left; assumption))))⟩
  · have hsf : shortR r = false := by simpa using hsh
    rw [hsf] at hs
    have HS := Lib.hid hs
    clear hs hsf hsh
    go_enter Try.func13, Try.ntmps13
    go_upto_region 1 with (fail)
    rw [HW1.out]
    obtain ⟨k0, l0⟩ := HBX.out w1 (Ext.refl _)
    go_wp2_with (first | (go_at_call 15; refine (HS.out _ (by (with_reducible (repeat (first | exact Ext.refl _ | assumption | apply Ext.alloc | apply Ext.drew | exact ext_plus _ _ | (apply Ext.setCell; rotate_left; (simp <;> omega)) | (apply Ext.trans; rotate_left; exact ext_plus _ _) | (apply Ext.trans; rotate_left; assumption)))))).mono ?_; rintro e w2 ⟨rfl, hb2⟩; (try clear k0 l0); obtain ⟨k0, l0⟩ := HBX.out w2 (by (with_reducible (repeat (first | exact Ext.refl _ | assumption | apply Ext.alloc | apply Ext.drew | exact ext_plus _ _ | (apply Ext.setCell; rotate_left; (simp <;> omega)) | (apply Ext.trans; rotate_left; exact ext_plus _ _) | (apply Ext.trans; rotate_left; assumption)))))) | (go_at_call 17; refine (known_any _).mono ?_; rintro e wk ⟨rfl, hbk⟩))
    all_goals
      go_ret
      exact ⟨rfl, by (with_reducible (repeat (first | exact Ext.refl _ | assumption | apply Ext.alloc | apply Ext.drew | exact ext_plus _ _ | (apply Ext.setCell; rotate_left; (simp <;> omega)) | (apply Ext.trans; rotate_left; exact ext_plus _ _) | (apply Ext.trans; rotate_left; assumption))))⟩
end Go.Proofs.Ythffoglpekpmdaa
