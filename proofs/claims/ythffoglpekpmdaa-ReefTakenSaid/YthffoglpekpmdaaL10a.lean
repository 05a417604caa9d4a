/- The law ReefTaken: its helpers; a place where more is taken when it is closed; no quota. -/
import Derived.Test.YthffoglpekpmdaaK2
import Derived.Test.YthffoglpekpmdaaD9
import Derived.Test.YthffoglpekpmdaaD10
import Derived.Test.YthffoglpekpmdaaD12
import Derived.Test.YthffoglpekpmdaaPl5
namespace Go.Proofs.Ythffoglpekpmdaa
set_option linter.unusedVariables false
set_option linter.unusedSimpArgs false
open Go.RowKit
theorem RowB.keep {α : Type} {f : α → List Value} {n : Nat} {e : TypeId} {w : World} {g : Nat} {xs : List α} (h : RowB f n e w g xs) (o : Nat) {u : Value} (hu : w.cell? ⟨g, o, none⟩ = some u) : RowB f n e (w.setCell ⟨g, o, none⟩ u) g xs := by
  obtain ⟨cs, hB, hc⟩ := h
  refine ⟨_, hB.set o u, fun i hi j v hv => ?_⟩
  have h1 := hc i hi j v hv
  rw [hB.cell] at hu
  rw [Array.getElem?_setIfInBounds]
  by_cases e : o = i * n + j
  · subst e
    obtain ⟨hsz, _⟩ := Array.getElem?_eq_some_iff.1 h1
    rw [if_pos rfl, if_pos hsz, ← h1, hu]
  · rw [if_neg e]; exact h1
def allTo (ps : List R.Place) (G : List Int) (j : Nat) : Bool := (List.range j).all fun i => decide ((R.pat ps i).goal ≤ R.iat G i)
theorem allTo_succ (ps : List R.Place) (G : List Int) (j : Nat) (h : j < ps.length) (h' : j < G.length) : allTo ps G (j + 1) = (allTo ps G j && decide (ps[j].goal ≤ G[j])) := by
  unfold allTo; rw [List.range_succ, List.all_append, ← R.pat_at h, ← R.iat_at h']; simp
theorem rows_ok {r : R.Reef} {plan : List Int} {t : R.Truth} (O : R.OkR r) (T : R.OkT r plan t) : ∀ l ∈ R.fishOf r t, l.length = r.places.length ∧ ∀ x ∈ l, 0 ≤ x ∧ x ≤ 1000000000 := by
  intro l hl
  obtain ⟨i, hi, rfl⟩ := List.getElem_of_mem hl
  rw [R.fishOf_len] at hi
  have h1 := R.fishOf_row O T (s := i) hi
  rw [R.lat_at (by rw [R.fishOf_len]; exact hi)] at h1
  refine ⟨h1, fun x hx => ?_⟩
  obtain ⟨j, hj, rfl⟩ := List.getElem_of_mem hx
  have h2 := R.fishOf_bd O T (s := i) hi j
  rw [R.lat_at (by rw [R.fishOf_len]; exact hi), R.iat_at hj] at h2
  omega
theorem last_row {r : R.Reef} (t : R.Truth) {q : Nat} (hq : r.seasons.toNat = q + 1) (h : q < (R.fishOf r t).length) : (R.fishOf r t)[q] = (R.endOf r t).fish := by
  have := R.fishOf_at r t (s := q) (by omega)
  rw [R.lat_at h] at this
  rw [this]
  unfold R.endOf
  rw [hq]
/-- A reef of which no more is taken at a place is as defined, if no more is taken there when it is closed. -/
theorem right_limited {r : R.Reef} {plan : List Int} (h : rightB r plan = true) (k : Nat) (hk : k < r.places.length) (m : Int) (hm : 0 ≤ m) (h1 : (R.pat (R.limited r k m).places k).sl ≤ (R.pat (R.limited r k m).places k).ol) (h2 : (R.pat (R.limited r k m).places k).sh ≤ (R.pat (R.limited r k m).places k).oh) : rightB (R.limited r k m) plan = true := by
  unfold rightB at h ⊢
  rw [Bool.and_eq_true] at h ⊢
  refine ⟨?_, ?_⟩
  · have O := R.okR_of h.1
    have hb := h.1
    unfold R.reefB R.goodTo at hb ⊢
    rw [R.limited_len]
    simp only [Bool.and_eq_true, List.all_eq_true, List.mem_range] at hb ⊢
    refine ⟨⟨⟨fun i hi => ?_, hb.1.1.2⟩, hb.1.2⟩, hb.2⟩
    have hp := hb.1.1.1 i hi
    by_cases e : k = i
    · subst e
      have P := O.place k hk
      rw [R.pat_limited r k m hk, if_pos rfl] at h1 h2 ⊢
      dsimp only at h1 h2
      unfold R.placeB R.within R.spanB at hp ⊢
      simp only [Bool.and_eq_true, decide_eq_true_eq, Bool.not_eq_true', decide_eq_false_iff_not] at hp ⊢
      have o0 := P.o0; have o1 := P.o1; have o2 := P.o2
      obtain ⟨⟨⟨⟨⟨a, b⟩, c⟩, d⟩, e1⟩, i1⟩ := hp
      refine ⟨⟨⟨⟨⟨a, ?_⟩, c⟩, h1⟩, h2⟩, i1⟩
      refine ⟨⟨?_, ?_⟩, ?_⟩
      · split <;> omega
      · split <;> split <;> omega
      · split <;> omega
    · rw [R.pat_limited r k m hk, if_neg e]; exact hp
  · exact R.okL_iff.2 (R.okL_limited (R.okL_iff.1 h.2) k m)
set_option maxRecDepth 100000 in
set_option maxHeartbeats 16000000 in
theorem takenBad_law (r : R.Reef) (vr : Value) (plan : List Int) (vp : Value) (place : Int) (hwfplace : (Lit.int .i64 place).wf = true) (other : Int) (hwfother : (Lit.int .i64 other).wf = true) (t : R.Truth) (vs vg vt : Value) (w : World) (hP : Places w vr r.places) (hL : Ints w vp plan) (hS : Ints w vs t.starts) (hG : Lists w vg t.grows) (hT : Lists w vt t.takes) (hsh : shortR r = true) (hpl : plan.length ≤ 8) (hA : rightB r plan = true) (hsz : sizedT t = true) (hp0 : ¬ place < 0) (hp1 : ¬ (r.places.length : Int) ≤ place) (ho0 : ¬ other < 0) (ho1 : ¬ 1000000 < other) (hgood : ¬ ((R.pat (R.limited r place.toNat other).places place.toNat).sl ≤ (R.pat (R.limited r place.toNat other).places place.toNat).ol ∧ (R.pat (R.limited r place.toNat other).places place.toNat).sh ≤ (R.pat (R.limited r place.toNat other).places place.toNat).oh)) :
    Calls Try.prog 10 #[.agg (reefV r vr), vp, .int .i64 place, .int .i64 other, .agg (truthV vs vg vt)] w fun e w' => e = .returned (.bool true) ∧ Ext w w' := by
  have hP' := hP
  have hL' := hL
  have hS' := hS
  have hG' := hG
  have hT' := hT
  obtain ⟨a1, c1, rfl, hPx⟩ := hP'
  obtain ⟨a2, c2, rfl, hLx⟩ := hL'
  obtain ⟨a3, c3, rfl, hSx⟩ := hS'
  obtain ⟨a4, c4, rfl, hGx⟩ := hG'
  obtain ⟨a5, c5, rfl, hTx⟩ := hT'
  have HPX := Lib.hid hPx
  have HLX := Lib.hid hLx
  have HSX := Lib.hid hSx
  have HGX := Lib.hid hGx
  have HTX := Lib.hid hTx
  clear hPx hLx hSx hGx hTx
  obtain ⟨w1, hw1⟩ : ∃ w1, ((w.alloc (.cells (reefV r (.slice a1 r.places.length c1)) 24)).alloc (.cells (truthV (.slice a3 t.starts.length c3) (.slice a4 t.grows.length c4) (.slice a5 t.takes.length c5)) 28)) = w1 := ⟨_, rfl⟩
  have hE1 : Ext w w1 := by rw [← hw1]; (with_reducible (repeat (first | exact Ext.refl _ | assumption | apply Ext.alloc | apply Ext.drew | exact ext_plus _ _ | (apply Ext.setCell; rotate_left; (simp <;> omega)) | (apply Ext.trans; rotate_left; exact ext_plus _ _) | (apply Ext.trans; rotate_left; assumption))))
  have hb0 : Blk w1 (w.heap.size) (reefV r (.slice a1 r.places.length c1)) 24 := by rw [← hw1]; exact (Blk.new' rfl _ _).alloc _
  have hb1 : Blk w1 (w.heap.size + 1) (truthV (.slice a3 t.starts.length c3) (.slice a4 t.grows.length c4) (.slice a5 t.takes.length c5)) 28 := by rw [← hw1]; exact Blk.new' (by simp) _ _
  have hbx := fun y (hy : Ext w1 y) => (⟨(hb0.ext hy).cell, (hb1.ext hy).cell, (hb0.ext hy).lt, (hb1.ext hy).lt⟩ : (∀ o, y.cell? ⟨w.heap.size, o, none⟩ = _) ∧ (∀ o, y.cell? ⟨w.heap.size + 1, o, none⟩ = _) ∧ w.heap.size < y.heap.size ∧ w.heap.size + 1 < y.heap.size)
  have HBX := Lib.hid hbx
  have HW1 := Lib.hid hw1
  clear hw1 hb0 hb1 hbx
  clear hwfplace hwfother
  have hs := fun w' (hx : Ext w w') => short_any r _ w' (hP.ext hx)
  rw [hsh] at hs
  have HS := Lib.hid hs
  clear hs
  have hpi : ¬ (8 : Int) < plan.length := by omega
  have hn8 : r.places.length ≤ 8 := by simpa [shortR] using hsh
  have hask := fun w' (hx : Ext w w') => asked_any r plan _ _ w' (hP.ext hx) (hL.ext hx) hn8 (by omega)
  rw [hA] at hask
  have HA := Lib.hid hask
  clear hask
  have hz := fun w' (hx : Ext w w') => sized_any t _ _ _ w' (hS.ext hx) (hG.ext hx) (hT.ext hx)
  rw [hsz] at hz
  have HZ := Lib.hid hz
  clear hz
  obtain ⟨k, rfl⟩ := Int.eq_ofNat_of_zero_le (show 0 ≤ place by omega)
  have hk : k < r.places.length := by omega
  have hR := hA
  unfold rightB at hR
  rw [Bool.and_eq_true] at hR
  have O := R.okR_of hR.1
  have OL := R.okL_iff.1 hR.2
  obtain ⟨z1, z2, z3, z4, z5⟩ := sized_bd hsz
  have hn4 := O.n4
  have hs4 := O.s4
  have hs1 := O.s1
  have hqq := fun w' (hx : Ext w w') => quotaQ_any r plan (k : Int) _ _ w' (hP.ext hx) (hL.ext hx) (by omega) (by omega)
  have hask : quotaAsk r plan (k : Int) = true := by unfold quotaAsk R.within; rw [hA, decide_eq_true (by omega : (0 : Int) ≤ k), decide_eq_true (by omega : (k : Int) ≤ (r.places.length : Int) - 1)]; rfl
  have e1 : quotaOf r plan (k : Int) = if quotaN r plan k = 0 then 0 else quotaN r plan k - 1 := by unfold quotaOf; rw [hask]; rfl
  have e2 : quotaCode r plan (k : Int) = if quotaN r plan k = 0 then 5 else 0 := by unfold quotaCode; rw [hask]; rfl
  simp only [e1, e2] at hqq
  have hmono : R.Mono (quotaB r plan k) := by
    have h := R.short_mono O plan k hk
    have e : quotaB r plan k = fun m => (R.short (R.limited r k m) plan).isSome := by funext m; unfold quotaB; cases R.short (R.limited r k m) plan <;> rfl
    rw [e]; exact h
  obtain ⟨b1, b2, b3, b4⟩ := R.least_spec hmono 40 0 1000001 (by omega) (by omega) (by decide)
  have hNe : R.least (quotaB r plan k) 40 0 1000001 = quotaN r plan k := by unfold quotaN; rw [Int.toNat_natCast]
  rw [hNe] at b1 b2 b3 b4
  have hli := fun w' (hx : Ext w w') => dlimited_any r k other _ w' (hP.ext hx) (by omega) hk
  have Oq := R.okR_limited O k other hk (by omega)
  have OLq := R.okL_limited OL k other
  have TE := R.okT_end (plan := plan) Oq false
  have hqB : quotaB r plan k other = !(R.short (R.limited r k other) plan).isNone := rfl
  have hsn := R.short_none Oq plan
  have hall : allTo (R.limited r k other).places (R.lowF (R.limited r k other) plan) r.places.length = !quotaB r plan k other := by
    rw [hqB, Bool.not_not, Bool.eq_iff_iff]
    unfold allTo
    rw [List.all_eq_true, Option.isNone_iff_eq_none, hsn]
    simp only [List.mem_range, decide_eq_true_eq, R.limited_len]
  have hcmp : quotaB r plan k other = decide (quotaN r plan k ≤ other) := by
    by_cases h : quotaN r plan k ≤ other
    · rw [decide_eq_true h]
      exact hmono _ _ b1 h (b3 (by omega))
    · rw [decide_eq_false h]
      exact b4 other (by omega) (by omega)
  rw [hcmp] at hall
  have hQl := R.limited_len r k other
  have hpq : R.pat (R.limited r k other).places k = (R.limited r k other).places[k]'(by rw [hQl]; exact hk) := R.pat_at (by rw [hQl]; exact hk)
  obtain ⟨P, hPP⟩ : ∃ P, (R.limited r k other).places[k]'(by rw [hQl]; exact hk) = P := ⟨_, rfl⟩
  rw [hPP] at hpq
  have hrl := fun h1 h2 => right_limited hA k hk other (by omega) h1 h2
  rw [hpq] at hrl
  obtain ⟨qs, hqs⟩ : ∃ qs, (R.limited r k other).places = qs := ⟨_, rfl⟩
  have HPQ : Hid (∀ (h : k < qs.length), qs[k] = P) := by show ∀ (h : k < qs.length), qs[k] = P; subst hqs; exact fun _ => hPP
  have hli2 : ∀ w', Ext w w' → Calls Try.prog 37 #[.agg (reefV r (.slice a1 r.places.length c1)), .int .i64 k, .int .i64 other] w' fun e w2 => ∃ g cap, e = .returned (.agg (reefV r (.slice (some ⟨g, 0, none⟩) r.places.length cap))) ∧ RowB placeC 12 46 w2 g qs ∧ w'.heap.size ≤ g ∧ Ext w' w2 := by subst hqs; exact hli
  have HLI := Lib.hid hli2
  have HQL := Lib.hid (show qs.length = r.places.length by subst hqs; exact hQl)
  obtain ⟨N, hN⟩ : ∃ N, quotaN r plan k = N := ⟨_, rfl⟩
  have hN0 : 0 ≤ N := by rw [← hN]; exact b1
  simp only [hN] at hqq hall
  have hpp0 : ¬ (k : Int) < 0 := hp0
  rw [Int.toNat_natCast, hpq] at hgood
  have HBAD := Lib.hid hgood
  by_cases hz0 : N = 0
  · subst hz0
    simp only [if_true] at hqq
    have HQQ := Lib.hid hqq
    clear hqq hA hsh hsz O OL hR hask e1 e2 hmono b1 b2 b3 b4 hNe hli hli2 Oq OLq TE hqB hsn hall hcmp hQl hpq hPP hrl hqs hN hN0 hgood hs4 hs1 z1 z2 z3 z4 z5
    go_enter Try.func10, Try.ntmps10
    go_upto_region 1 with (fail)
    rw [HW1.out]
    obtain ⟨k0, k1, l0, l1⟩ := HBX.out w1 (Ext.refl _)
    go_upto_region 7 with (first | (go_at_call 15; refine (HS.out _ (by (with_reducible (repeat (first | exact Ext.refl _ | assumption | apply Ext.alloc | apply Ext.drew | exact ext_plus _ _ | (apply Ext.setCell; rotate_left; (simp <;> omega)) | (apply Ext.trans; rotate_left; exact ext_plus _ _) | (apply Ext.trans; rotate_left; assumption)))))).mono ?_; rintro e w2 ⟨rfl, hb2⟩; (try clear k0 k1 l0 l1); obtain ⟨k0, k1, l0, l1⟩ := HBX.out w2 (by (with_reducible (repeat (first | exact Ext.refl _ | assumption | apply Ext.alloc | apply Ext.drew | exact ext_plus _ _ | (apply Ext.setCell; rotate_left; (simp <;> omega)) | (apply Ext.trans; rotate_left; exact ext_plus _ _) | (apply Ext.trans; rotate_left; assumption)))))) | (go_at_call 19; refine (HA.out _ (by (with_reducible (repeat (first | exact Ext.refl _ | assumption | apply Ext.alloc | apply Ext.drew | exact ext_plus _ _ | (apply Ext.setCell; rotate_left; (simp <;> omega)) | (apply Ext.trans; rotate_left; exact ext_plus _ _) | (apply Ext.trans; rotate_left; assumption)))))).mono ?_; rintro e w3 ⟨rfl, hb3⟩; (try clear k0 k1 l0 l1); obtain ⟨k0, k1, l0, l1⟩ := HBX.out w3 (by (with_reducible (repeat (first | exact Ext.refl _ | assumption | apply Ext.alloc | apply Ext.drew | exact ext_plus _ _ | (apply Ext.setCell; rotate_left; (simp <;> omega)) | (apply Ext.trans; rotate_left; exact ext_plus _ _) | (apply Ext.trans; rotate_left; assumption)))))) | (go_at_call 16; refine (HZ.out _ (by (with_reducible (repeat (first | exact Ext.refl _ | assumption | apply Ext.alloc | apply Ext.drew | exact ext_plus _ _ | (apply Ext.setCell; rotate_left; (simp <;> omega)) | (apply Ext.trans; rotate_left; exact ext_plus _ _) | (apply Ext.trans; rotate_left; assumption)))))).mono ?_; rintro e w4 ⟨rfl, hb4⟩; (try clear k0 k1 l0 l1); obtain ⟨k0, k1, l0, l1⟩ := HBX.out w4 (by (with_reducible (repeat (first | exact Ext.refl _ | assumption | apply Ext.alloc | apply Ext.drew | exact ext_plus _ _ | (apply Ext.setCell; rotate_left; (simp <;> omega)) | (apply Ext.trans; rotate_left; exact ext_plus _ _) | (apply Ext.trans; rotate_left; assumption)))))) | (go_at_call 35; refine (HQQ.out _ (by (with_reducible (repeat (first | exact Ext.refl _ | assumption | apply Ext.alloc | apply Ext.drew | exact ext_plus _ _ | (apply Ext.setCell; rotate_left; (simp <;> omega)) | (apply Ext.trans; rotate_left; exact ext_plus _ _) | (apply Ext.trans; rotate_left; assumption)))))).mono ?_; rintro e w5 ⟨rfl, hb5⟩; (try clear k0 k1 l0 l1); obtain ⟨k0, k1, l0, l1⟩ := HBX.out w5 (by (with_reducible (repeat (first | exact Ext.refl _ | assumption | apply Ext.alloc | apply Ext.drew | exact ext_plus _ _ | (apply Ext.setCell; rotate_left; (simp <;> omega)) | (apply Ext.trans; rotate_left; exact ext_plus _ _) | (apply Ext.trans; rotate_left; assumption)))))) | (go_at_call 37; refine (HLI.out _ (by (with_reducible (repeat (first | exact Ext.refl _ | assumption | apply Ext.alloc | apply Ext.drew | exact ext_plus _ _ | (apply Ext.setCell; rotate_left; (simp <;> omega)) | (apply Ext.trans; rotate_left; exact ext_plus _ _) | (apply Ext.trans; rotate_left; assumption)))))).mono ?_; rintro e w6 ⟨g, cap, rfl, hrow6, hg6, hb6⟩; have hgl6 := hrow6.lt; (try clear k0 k1 l0 l1); obtain ⟨k0, k1, l0, l1⟩ := HBX.out w6 (by (with_reducible (repeat (first | exact Ext.refl _ | assumption | apply Ext.alloc | apply Ext.drew | exact ext_plus _ _ | (apply Ext.setCell; rotate_left; (simp <;> omega)) | (apply Ext.trans; rotate_left; exact ext_plus _ _) | (apply Ext.trans; rotate_left; assumption)))))))
    have hE16 : Ext w1 w6 := hb2.trans (hb3.trans (hb4.trans (hb5.trans hb6)))
    have hgw1 : w1.heap.size ≤ g := by have := (hb2.trans (hb3.trans (hb4.trans hb5))).size; omega
    have hgw : w.heap.size ≤ g := by have := (hE1.trans (hb2.trans (hb3.trans (hb4.trans hb5)))).size; omega
    obtain ⟨wx, hwx⟩ : ∃ wx, w6.alloc (.cells (reefV r (.slice (some ⟨g, 0, none⟩) r.places.length cap)) 24) = wx := ⟨_, rfl⟩
    have hbX : Blk wx w6.heap.size (reefV r (.slice (some ⟨g, 0, none⟩) r.places.length cap)) 24 := by rw [← hwx]; exact Blk.new' rfl _ _
    have hE6x : Ext w6 wx := by rw [← hwx]; (with_reducible (repeat (first | exact Ext.refl _ | assumption | apply Ext.alloc | apply Ext.drew | exact ext_plus _ _ | (apply Ext.setCell; rotate_left; (simp <;> omega)) | (apply Ext.trans; rotate_left; exact ext_plus _ _) | (apply Ext.trans; rotate_left; assumption))))
    rw [hwx]
    clear hwx k0 k1 l0 l1 hb2 hb3 hb4 hb5 hb6
    obtain ⟨bX, hbXe⟩ : ∃ bX, w6.heap.size = bX := ⟨_, rfl⟩
    rw [hbXe] at hbX hgl6 ⊢
    have hE1x : Ext w w6 := hE1.trans hE16
    have hzz := hE1x.size
    have hrowx := hrow6.ext hE6x
    have hkq : k < qs.length := by have := HQL.out; omega
    have d0 := hbX.cell
    have d1 := hbX.lt
    obtain ⟨h0, h1, h2, h3, h4, h5, h6, h7, h8, h9, h10, h11⟩ := (⟨hrowx.cell k hkq 0 _ rfl, hrowx.cell k hkq 1 _ rfl, hrowx.cell k hkq 2 _ rfl, hrowx.cell k hkq 3 _ rfl, hrowx.cell k hkq 4 _ rfl, hrowx.cell k hkq 5 _ rfl, hrowx.cell k hkq 6 _ rfl, hrowx.cell k hkq 7 _ rfl, hrowx.cell k hkq 8 _ rfl, hrowx.cell k hkq 9 _ rfl, hrowx.cell k hkq 10 _ rfl, hrowx.cell k hkq 11 _ rfl⟩ : _ ∧ _ ∧ _ ∧ _ ∧ _ ∧ _ ∧ _ ∧ _ ∧ _ ∧ _ ∧ _ ∧ _)
    have hpq := HPQ.out hkq
    rw [hpq] at h0 h1 h2 h3 h4 h5 h6 h7 h8 h9 h10 h11
    have hgx := hrowx.lt
    rw [Nat.add_zero] at h0
    go_upto_region 8 with (fail)
    obtain ⟨w7, hw7⟩ : ∃ w7, wx.alloc (.cells #[.int .i64 P.count, .int .i64 P.room, .int .i64 P.gl, .int .i64 P.gh, .int .i64 P.drift, .int .i64 P.into, .int .i64 P.ol, .int .i64 P.oh, .int .i64 P.sl, .int .i64 P.sh, .int .i64 P.goal, .int .i64 P.worth] 46) = w7 := ⟨_, rfl⟩
    have hbP : Blk w7 wx.heap.size #[.int .i64 P.count, .int .i64 P.room, .int .i64 P.gl, .int .i64 P.gh, .int .i64 P.drift, .int .i64 P.into, .int .i64 P.ol, .int .i64 P.oh, .int .i64 P.sl, .int .i64 P.sh, .int .i64 P.goal, .int .i64 P.worth] 46 := by rw [← hw7]; exact Blk.new' rfl _ _
    have hEx7 : Ext wx w7 := by rw [← hw7]; (with_reducible (repeat (first | exact Ext.refl _ | assumption | apply Ext.alloc | apply Ext.drew | exact ext_plus _ _ | (apply Ext.setCell; rotate_left; (simp <;> omega)) | (apply Ext.trans; rotate_left; exact ext_plus _ _) | (apply Ext.trans; rotate_left; assumption))))
    rw [hw7]
    clear hw7 h0 h1 h2 h3 h4 h5 h6 h7 h8 h9 h10 h11 d0 d1
    obtain ⟨bP, hbPe⟩ : ∃ bP, wx.heap.size = bP := ⟨_, rfl⟩
    rw [hbPe] at hbP hgx ⊢
    have hX7 := hbX.ext hEx7
    have hrow7 := hrowx.ext hEx7
    have hXd := hX7.drew
    have hPd := hbP.drew
    refine wp_region_late 20 (fun c y => c = false → (∀ o, y.cell? ⟨bX, o, none⟩ = (reefV r (.slice (some ⟨g, 0, none⟩) r.places.length cap) : Array Value)[o]?) ∧ (∀ o, y.cell? ⟨bP, o, none⟩ = (#[.int .i64 P.count, .int .i64 P.room, .int .i64 P.gl, .int .i64 P.gh, .int .i64 P.drift, .int .i64 P.into, .int .i64 P.ol, .int .i64 P.oh, .int .i64 P.sl, .int .i64 P.sh, .int .i64 P.goal, .int .i64 P.worth] : Array Value)[o]?)) (by kernel_rfl) (fun hL => ?_)
    refine late_early (i := 0) (v := ?_) rfl (by kernel_rfl) (by kernel_rfl) (by kernel_rfl) (by decide) (by kernel_rfl) (fun _ _ _ h => h) hL (Or.inl ⟨by rfl, ?_⟩) (fun _ => ⟨hXd.cell, hPd.cell⟩) (fun hL' => ?_)
    rotate_left
    · intro y hy; have hz := hy rfl; clear hy; obtain ⟨g1, g2⟩ := hz; go_simp; (try with_reducible rfl)
    clear hL; rename Shutb _ _ => hL
    (try simp only [Act.put, List.setIfInBounds_toArray, List.set_cons_zero, List.set_cons_succ])
    refine late_early (i := 1) (v := ?_) rfl (by kernel_rfl) (by kernel_rfl) (by kernel_rfl) (by decide) (by kernel_rfl) (fun _ _ _ h => h) hL (Or.inl ⟨by rfl, ?_⟩) (fun _ => ⟨hXd.cell, hPd.cell⟩) (fun hL' => ?_)
    rotate_left
    · intro y hy; have hz := hy rfl; clear hy; obtain ⟨g1, g2⟩ := hz; go_simp; (try with_reducible rfl)
    clear hL; rename Shutb _ _ => hL
    (try simp only [Act.put, List.setIfInBounds_toArray, List.set_cons_zero, List.set_cons_succ])
    refine late_early (i := 2) (v := ?_) rfl (by kernel_rfl) (by kernel_rfl) (by kernel_rfl) (by decide) (by kernel_rfl) (fun _ _ _ h => h) hL (Or.inl ⟨by rfl, ?_⟩) (fun _ => ⟨hXd.cell, hPd.cell⟩) (fun hL' => ?_)
    rotate_left
    · intro y hy; have hz := hy rfl; clear hy; obtain ⟨g1, g2⟩ := hz; go_simp; (try with_reducible rfl)
    clear hL; rename Shutb _ _ => hL
    (try simp only [Act.put, List.setIfInBounds_toArray, List.set_cons_zero, List.set_cons_succ])
    refine late_early (i := 3) (v := ?_) rfl (by kernel_rfl) (by kernel_rfl) (by kernel_rfl) (by decide) (by kernel_rfl) (fun _ _ _ h => h) hL (Or.inl ⟨by rfl, ?_⟩) (fun _ => ⟨hXd.cell, hPd.cell⟩) (fun hL' => ?_)
    rotate_left
    · intro y hy; have hz := hy rfl; clear hy; obtain ⟨g1, g2⟩ := hz; go_simp; (try with_reducible rfl)
    clear hL; rename Shutb _ _ => hL
    (try simp only [Act.put, List.setIfInBounds_toArray, List.set_cons_zero, List.set_cons_succ])
    refine late_early (i := 4) (v := ?_) rfl (by kernel_rfl) (by kernel_rfl) (by kernel_rfl) (by decide) (by kernel_rfl) (fun _ _ _ h => h) hL (Or.inl ⟨by rfl, ?_⟩) (fun _ => ⟨hXd.cell, hPd.cell⟩) (fun hL' => ?_)
    rotate_left
    · intro y hy; have hz := hy rfl; clear hy; obtain ⟨g1, g2⟩ := hz; go_simp; (try with_reducible rfl)
    clear hL; rename Shutb _ _ => hL
    (try simp only [Act.put, List.setIfInBounds_toArray, List.set_cons_zero, List.set_cons_succ])
    refine late_early (i := 5) (v := ?_) rfl (by kernel_rfl) (by kernel_rfl) (by kernel_rfl) (by decide) (by kernel_rfl) (fun _ _ _ h => h) hL (Or.inl ⟨by rfl, ?_⟩) (fun _ => ⟨hXd.cell, hPd.cell⟩) (fun hL' => ?_)
    rotate_left
    · intro y hy; have hz := hy rfl; clear hy; obtain ⟨g1, g2⟩ := hz; go_simp; (try with_reducible rfl)
    clear hL; rename Shutb _ _ => hL
    (try simp only [Act.put, List.setIfInBounds_toArray, List.set_cons_zero, List.set_cons_succ])
    refine late_early (i := 6) (v := ?_) rfl (by kernel_rfl) (by kernel_rfl) (by kernel_rfl) (by decide) (by kernel_rfl) (fun _ _ _ h => h) hL (Or.inl ⟨by rfl, ?_⟩) (fun _ => ⟨hXd.cell, hPd.cell⟩) (fun hL' => ?_)
    rotate_left
    · intro y hy; have hz := hy rfl; clear hy; obtain ⟨g1, g2⟩ := hz; go_simp; (try with_reducible rfl)
    clear hL; rename Shutb _ _ => hL
    (try simp only [Act.put, List.setIfInBounds_toArray, List.set_cons_zero, List.set_cons_succ])
    refine late_early (i := 7) (v := ?_) rfl (by kernel_rfl) (by kernel_rfl) (by kernel_rfl) (by decide) (by kernel_rfl) (fun _ _ _ h => h) hL (Or.inl ⟨by rfl, ?_⟩) (fun _ => ⟨hXd.cell, hPd.cell⟩) (fun hL' => ?_)
    rotate_left
    · intro y hy; have hz := hy rfl; clear hy; obtain ⟨g1, g2⟩ := hz; go_simp; (try with_reducible rfl)
    clear hL; rename Shutb _ _ => hL
    (try simp only [Act.put, List.setIfInBounds_toArray, List.set_cons_zero, List.set_cons_succ])
    refine late_early (i := 8) (v := ?_) rfl (by kernel_rfl) (by kernel_rfl) (by kernel_rfl) (by decide) (by kernel_rfl) (fun _ _ _ h => h) hL (Or.inl ⟨by rfl, ?_⟩) (fun _ => ⟨hXd.cell, hPd.cell⟩) (fun hL' => ?_)
    rotate_left
    · intro y hy; have hz := hy rfl; clear hy; obtain ⟨g1, g2⟩ := hz; go_simp; (try with_reducible rfl)
    clear hL; rename Shutb _ _ => hL
    (try simp only [Act.put, List.setIfInBounds_toArray, List.set_cons_zero, List.set_cons_succ])
    refine late_early (i := 9) (v := ?_) rfl (by kernel_rfl) (by kernel_rfl) (by kernel_rfl) (by decide) (by kernel_rfl) (fun _ _ _ h => h) hL (Or.inl ⟨by rfl, ?_⟩) (fun _ => ⟨hXd.cell, hPd.cell⟩) (fun hL' => ?_)
    rotate_left
    · intro y hy; have hz := hy rfl; clear hy; obtain ⟨g1, g2⟩ := hz; go_simp; (try with_reducible rfl)
    clear hL; rename Shutb _ _ => hL
    (try simp only [Act.put, List.setIfInBounds_toArray, List.set_cons_zero, List.set_cons_succ])
    refine late_early (i := 10) (v := ?_) rfl (by kernel_rfl) (by kernel_rfl) (by kernel_rfl) (by decide) (by kernel_rfl) (fun _ _ _ h => h) hL (Or.inl ⟨by rfl, ?_⟩) (fun _ => ⟨hXd.cell, hPd.cell⟩) (fun hL' => ?_)
    rotate_left
    · intro y hy; have hz := hy rfl; clear hy; obtain ⟨g1, g2⟩ := hz; go_simp; (try with_reducible rfl)
    clear hL; rename Shutb _ _ => hL
    (try simp only [Act.put, List.setIfInBounds_toArray, List.set_cons_zero, List.set_cons_succ])
    refine late_early (i := 11) (v := ?_) rfl (by kernel_rfl) (by kernel_rfl) (by kernel_rfl) (by decide) (by kernel_rfl) (fun _ _ _ h => h) hL (Or.inl ⟨by rfl, ?_⟩) (fun _ => ⟨hXd.cell, hPd.cell⟩) (fun hL' => ?_)
    rotate_left
    · intro y hy; have hz := hy rfl; clear hy; obtain ⟨g1, g2⟩ := hz; go_simp; (try with_reducible rfl)
    clear hL; rename Shutb _ _ => hL
    (try simp only [Act.put, List.setIfInBounds_toArray, List.set_cons_zero, List.set_cons_succ])
    refine late_early (i := 12) (v := ?_) rfl (by kernel_rfl) (by kernel_rfl) (by kernel_rfl) (by decide) (by kernel_rfl) (fun _ _ _ h => h) hL (Or.inl ⟨by rfl, ?_⟩) (fun _ => ⟨hXd.cell, hPd.cell⟩) (fun hL' => ?_)
    rotate_left
    · intro y hy; have hz := hy rfl; clear hy; obtain ⟨g1, g2⟩ := hz; go_simp; (try with_reducible rfl)
    clear hL; rename Shutb _ _ => hL
    (try simp only [Act.put, List.setIfInBounds_toArray, List.set_cons_zero, List.set_cons_succ])
    refine late_early (i := 13) (v := ?_) rfl (by kernel_rfl) (by kernel_rfl) (by kernel_rfl) (by decide) (by kernel_rfl) (fun _ _ _ h => h) hL (Or.inl ⟨by rfl, ?_⟩) (fun _ => ⟨hXd.cell, hPd.cell⟩) (fun hL' => ?_)
    rotate_left
    · intro y hy; have hz := hy rfl; clear hy; obtain ⟨g1, g2⟩ := hz; go_simp; (try with_reducible rfl)
    clear hL; rename Shutb _ _ => hL
    (try simp only [Act.put, List.setIfInBounds_toArray, List.set_cons_zero, List.set_cons_succ])
    refine late_early (i := 14) (v := ?_) rfl (by kernel_rfl) (by kernel_rfl) (by kernel_rfl) (by decide) (by kernel_rfl) (fun _ _ _ h => h) hL (Or.inl ⟨by rfl, ?_⟩) (fun _ => ⟨hXd.cell, hPd.cell⟩) (fun hL' => ?_)
    rotate_left
    · intro y hy; have hz := hy rfl; clear hy; obtain ⟨g1, g2⟩ := hz; go_simp; (try with_reducible rfl)
    clear hL; rename Shutb _ _ => hL
    (try simp only [Act.put, List.setIfInBounds_toArray, List.set_cons_zero, List.set_cons_succ])
    refine late_early (i := 15) (v := ?_) rfl (by kernel_rfl) (by kernel_rfl) (by kernel_rfl) (by decide) (by kernel_rfl) (fun _ _ _ h => h) hL (Or.inl ⟨by rfl, ?_⟩) (fun _ => ⟨hXd.cell, hPd.cell⟩) (fun hL' => ?_)
    rotate_left
    · intro y hy; have hz := hy rfl; clear hy; obtain ⟨g1, g2⟩ := hz; go_simp; (try with_reducible rfl)
    clear hL; rename Shutb _ _ => hL
    (try simp only [Act.put, List.setIfInBounds_toArray, List.set_cons_zero, List.set_cons_succ])
    refine late_early (i := 16) (v := ?_) rfl (by kernel_rfl) (by kernel_rfl) (by kernel_rfl) (by decide) (by kernel_rfl) (fun _ _ _ h => h) hL (Or.inl ⟨by rfl, ?_⟩) (fun _ => ⟨hXd.cell, hPd.cell⟩) (fun hL' => ?_)
    rotate_left
    · intro y hy; have hz := hy rfl; clear hy; obtain ⟨g1, g2⟩ := hz; go_simp; (try with_reducible rfl)
    clear hL; rename Shutb _ _ => hL
    (try simp only [Act.put, List.setIfInBounds_toArray, List.set_cons_zero, List.set_cons_succ])
    refine late_one (i := 17) (by kernel_rfl) hL (fun hL' => ?_)
    refine wpOp_step rfl (fun K hK0 => ?_)
    have hK : Shut _ := hK0
    clear hK0
    go_simp
    go_wp2_with (first | (go_at_call 38; refine (lspan_any _ _ _).mono ?_; rintro e w8 ⟨rfl, hE8⟩))
    have hX8 := hXd.ext hE8
    have hP8 := hPd.ext hE8
    have hrow8 := RowB.ext (RowB.ext hrow7 ((Ext.refl w7).drew)) hE8
    refine hK.out _ _ ⟨fun _ => ⟨hX8.cell, hP8.cell⟩, ?_⟩
    clear hK K; clear hL; rename Shutb _ _ => hL
    (try simp only [Act.put, List.setIfInBounds_toArray, List.set_cons_zero, List.set_cons_succ])
    have f6 := hrow8.free
    have f7 := hrow8.lt
    refine late_one (i := 18) (by kernel_rfl) hL (fun hL' => ?_)
    refine wpOp_step rfl (fun K hK0 => ?_)
    have hK : Shut _ := hK0
    clear hK0
    go_simp
    refine hK.out _ _ ⟨fun _ => ⟨hX8.cell, hP8.cell⟩, ?_⟩
    clear hK K; clear hL; rename Shutb _ _ => hL
    (try simp only [Act.put, List.setIfInBounds_toArray, List.set_cons_zero, List.set_cons_succ])
    refine late_one (i := 19) (by kernel_rfl) hL (fun hL' => ?_)
    refine wpOp_step rfl (fun K hK0 => ?_)
    have hK : Shut _ := hK0
    clear hK0
    go_simp
    refine hK.out _ _ ⟨fun _ => ⟨hX8.cell, hP8.cell⟩, ?_⟩
    clear hK K; clear hL; rename Shutb _ _ => hL
    (try simp only [Act.put, List.setIfInBounds_toArray, List.set_cons_zero, List.set_cons_succ])
    have x8 := hrow8.cell k hkq 8 _ rfl
    have x9 := hrow8.cell k hkq 9 _ rfl
    rw [hpq] at x8 x9
    refine late_one (i := 20) (by kernel_rfl) hL (fun hL' => ?_)
    refine wpOp_step rfl (fun K hK0 => ?_)
    have hK : Shut _ := hK0
    clear hK0
    go_simp
    refine hK.out _ _ ⟨fun e => absurd (e : true = false) (by decide), ?_⟩
    clear hK K; clear hL; rename Shutb _ _ => hL
    (try simp only [Act.put, List.setIfInBounds_toArray, List.set_cons_zero, List.set_cons_succ])
    refine late_done (by kernel_rfl) ?_
    (try dsimp only [Exit.then])
    have hE78 : Ext w7 w8 := ((Ext.refl w7).drew).trans hE8
    have hz7 := hEx7.size
    have hz8 := hE78.size
    have hz6 := hE6x.size
    have hX9 := (hX8.other (a := ⟨g, k * 12 + 8, none⟩) (by simp; omega) (.int .i64 (min P.sl P.ol))).other (a := ⟨g, k * 12 + 8 + 1, none⟩) (by simp; omega) (.int .i64 (min P.sh P.oh))
    have hP9 := (hP8.other (a := ⟨g, k * 12 + 8, none⟩) (by simp; omega) (.int .i64 (min P.sl P.ol))).other (a := ⟨g, k * 12 + 8 + 1, none⟩) (by simp; omega) (.int .i64 (min P.sh P.oh))
    have hE9 := (((hE1x.trans hE6x).trans (hEx7.trans hE78)).setCell (p := ⟨g, k * 12 + 8, none⟩) (by simp; omega) (.int .i64 (min P.sl P.ol))).setCell (p := ⟨g, k * 12 + 8 + 1, none⟩) (by simp; omega) (.int .i64 (min P.sh P.oh))
    have hE19 := (((hE16.trans hE6x).trans (hEx7.trans hE78)).setCell (p := ⟨g, k * 12 + 8, none⟩) (by simp; omega) (.int .i64 (min P.sl P.ol))).setCell (p := ⟨g, k * 12 + 8 + 1, none⟩) (by simp; omega) (.int .i64 (min P.sh P.oh))
    obtain ⟨w9, hw9⟩ : ∃ w9, (w8.setCell ⟨g, k * 12 + 8, none⟩ (.int .i64 (min P.sl P.ol))).setCell ⟨g, k * 12 + 8 + 1, none⟩ (.int .i64 (min P.sh P.oh)) = w9 := ⟨_, rfl⟩
    rw [hw9] at hX9 hP9 hE9 hE19 ⊢
    (try clear hr8 x9')
    clear hw9 f6 f7 x8 x9 hX8 hP8 hrow8 hXd hPd hX7 hrow7 hE8 hE78 hEx7 hE6x hrowx hrow6 hbX hbP hz7 hz8 hz6 hE16 hgx hgl6 hpq
    have d0 := hP9.cell
    have d1 := hP9.lt
    by_cases hbad1 : P.oh < P.sh
    · go_wp2_with (first | (go_at_call 17; refine (known_any _).mono ?_; rintro e wk ⟨rfl, hbk⟩))
      go_ret
      exact ⟨rfl, hE9.trans hbk⟩
    · have hbad2 : P.ol < P.sl := by have := HBAD.out; omega
      go_wp2_with (first | (go_at_call 17; refine (known_any _).mono ?_; rintro e wk ⟨rfl, hbk⟩))
      go_ret
      exact ⟨rfl, hE9.trans hbk⟩
  · simp only [if_neg hz0] at hqq
    have HQQ := Lib.hid hqq
    clear hqq hA hsh hsz O OL hR hask e1 e2 hmono b1 b2 b3 b4 hNe hli hli2 Oq OLq TE hqB hsn hall hcmp hQl hpq hPP hrl hqs hN hN0 hgood hs4 hs1 z1 z2 z3 z4 z5
    go_enter Try.func10, Try.ntmps10
    go_upto_region 1 with (fail)
    rw [HW1.out]
    obtain ⟨k0, k1, l0, l1⟩ := HBX.out w1 (Ext.refl _)
    go_upto_region 7 with (first | (go_at_call 15; refine (HS.out _ (by (with_reducible (repeat (first | exact Ext.refl _ | assumption | apply Ext.alloc | apply Ext.drew | exact ext_plus _ _ | (apply Ext.setCell; rotate_left; (simp <;> omega)) | (apply Ext.trans; rotate_left; exact ext_plus _ _) | (apply Ext.trans; rotate_left; assumption)))))).mono ?_; rintro e w2 ⟨rfl, hb2⟩; (try clear k0 k1 l0 l1); obtain ⟨k0, k1, l0, l1⟩ := HBX.out w2 (by (with_reducible (repeat (first | exact Ext.refl _ | assumption | apply Ext.alloc | apply Ext.drew | exact ext_plus _ _ | (apply Ext.setCell; rotate_left; (simp <;> omega)) | (apply Ext.trans; rotate_left; exact ext_plus _ _) | (apply Ext.trans; rotate_left; assumption)))))) | (go_at_call 19; refine (HA.out _ (by (with_reducible (repeat (first | exact Ext.refl _ | assumption | apply Ext.alloc | apply Ext.drew | exact ext_plus _ _ | (apply Ext.setCell; rotate_left; (simp <;> omega)) | (apply Ext.trans; rotate_left; exact ext_plus _ _) | (apply Ext.trans; rotate_left; assumption)))))).mono ?_; rintro e w3 ⟨rfl, hb3⟩; (try clear k0 k1 l0 l1); obtain ⟨k0, k1, l0, l1⟩ := HBX.out w3 (by (with_reducible (repeat (first | exact Ext.refl _ | assumption | apply Ext.alloc | apply Ext.drew | exact ext_plus _ _ | (apply Ext.setCell; rotate_left; (simp <;> omega)) | (apply Ext.trans; rotate_left; exact ext_plus _ _) | (apply Ext.trans; rotate_left; assumption)))))) | (go_at_call 16; refine (HZ.out _ (by (with_reducible (repeat (first | exact Ext.refl _ | assumption | apply Ext.alloc | apply Ext.drew | exact ext_plus _ _ | (apply Ext.setCell; rotate_left; (simp <;> omega)) | (apply Ext.trans; rotate_left; exact ext_plus _ _) | (apply Ext.trans; rotate_left; assumption)))))).mono ?_; rintro e w4 ⟨rfl, hb4⟩; (try clear k0 k1 l0 l1); obtain ⟨k0, k1, l0, l1⟩ := HBX.out w4 (by (with_reducible (repeat (first | exact Ext.refl _ | assumption | apply Ext.alloc | apply Ext.drew | exact ext_plus _ _ | (apply Ext.setCell; rotate_left; (simp <;> omega)) | (apply Ext.trans; rotate_left; exact ext_plus _ _) | (apply Ext.trans; rotate_left; assumption)))))) | (go_at_call 35; refine (HQQ.out _ (by (with_reducible (repeat (first | exact Ext.refl _ | assumption | apply Ext.alloc | apply Ext.drew | exact ext_plus _ _ | (apply Ext.setCell; rotate_left; (simp <;> omega)) | (apply Ext.trans; rotate_left; exact ext_plus _ _) | (apply Ext.trans; rotate_left; assumption)))))).mono ?_; rintro e w5 ⟨rfl, hb5⟩; (try clear k0 k1 l0 l1); obtain ⟨k0, k1, l0, l1⟩ := HBX.out w5 (by (with_reducible (repeat (first | exact Ext.refl _ | assumption | apply Ext.alloc | apply Ext.drew | exact ext_plus _ _ | (apply Ext.setCell; rotate_left; (simp <;> omega)) | (apply Ext.trans; rotate_left; exact ext_plus _ _) | (apply Ext.trans; rotate_left; assumption)))))) | (go_at_call 37; refine (HLI.out _ (by (with_reducible (repeat (first | exact Ext.refl _ | assumption | apply Ext.alloc | apply Ext.drew | exact ext_plus _ _ | (apply Ext.setCell; rotate_left; (simp <;> omega)) | (apply Ext.trans; rotate_left; exact ext_plus _ _) | (apply Ext.trans; rotate_left; assumption)))))).mono ?_; rintro e w6 ⟨g, cap, rfl, hrow6, hg6, hb6⟩; have hgl6 := hrow6.lt; (try clear k0 k1 l0 l1); obtain ⟨k0, k1, l0, l1⟩ := HBX.out w6 (by (with_reducible (repeat (first | exact Ext.refl _ | assumption | apply Ext.alloc | apply Ext.drew | exact ext_plus _ _ | (apply Ext.setCell; rotate_left; (simp <;> omega)) | (apply Ext.trans; rotate_left; exact ext_plus _ _) | (apply Ext.trans; rotate_left; assumption)))))))
    have hE16 : Ext w1 w6 := hb2.trans (hb3.trans (hb4.trans (hb5.trans hb6)))
    have hgw1 : w1.heap.size ≤ g := by have := (hb2.trans (hb3.trans (hb4.trans hb5))).size; omega
    have hgw : w.heap.size ≤ g := by have := (hE1.trans (hb2.trans (hb3.trans (hb4.trans hb5)))).size; omega
    obtain ⟨wx, hwx⟩ : ∃ wx, w6.alloc (.cells (reefV r (.slice (some ⟨g, 0, none⟩) r.places.length cap)) 24) = wx := ⟨_, rfl⟩
    have hbX : Blk wx w6.heap.size (reefV r (.slice (some ⟨g, 0, none⟩) r.places.length cap)) 24 := by rw [← hwx]; exact Blk.new' rfl _ _
    have hE6x : Ext w6 wx := by rw [← hwx]; (with_reducible (repeat (first | exact Ext.refl _ | assumption | apply Ext.alloc | apply Ext.drew | exact ext_plus _ _ | (apply Ext.setCell; rotate_left; (simp <;> omega)) | (apply Ext.trans; rotate_left; exact ext_plus _ _) | (apply Ext.trans; rotate_left; assumption))))
    rw [hwx]
    clear hwx k0 k1 l0 l1 hb2 hb3 hb4 hb5 hb6
    obtain ⟨bX, hbXe⟩ : ∃ bX, w6.heap.size = bX := ⟨_, rfl⟩
    rw [hbXe] at hbX hgl6 ⊢
    have hE1x : Ext w w6 := hE1.trans hE16
    have hzz := hE1x.size
    have hrowx := hrow6.ext hE6x
    have hkq : k < qs.length := by have := HQL.out; omega
    have d0 := hbX.cell
    have d1 := hbX.lt
    obtain ⟨h0, h1, h2, h3, h4, h5, h6, h7, h8, h9, h10, h11⟩ := (⟨hrowx.cell k hkq 0 _ rfl, hrowx.cell k hkq 1 _ rfl, hrowx.cell k hkq 2 _ rfl, hrowx.cell k hkq 3 _ rfl, hrowx.cell k hkq 4 _ rfl, hrowx.cell k hkq 5 _ rfl, hrowx.cell k hkq 6 _ rfl, hrowx.cell k hkq 7 _ rfl, hrowx.cell k hkq 8 _ rfl, hrowx.cell k hkq 9 _ rfl, hrowx.cell k hkq 10 _ rfl, hrowx.cell k hkq 11 _ rfl⟩ : _ ∧ _ ∧ _ ∧ _ ∧ _ ∧ _ ∧ _ ∧ _ ∧ _ ∧ _ ∧ _ ∧ _)
    have hpq := HPQ.out hkq
    rw [hpq] at h0 h1 h2 h3 h4 h5 h6 h7 h8 h9 h10 h11
    have hgx := hrowx.lt
    rw [Nat.add_zero] at h0
    go_upto_region 8 with (fail)
    obtain ⟨w7, hw7⟩ : ∃ w7, wx.alloc (.cells #[.int .i64 P.count, .int .i64 P.room, .int .i64 P.gl, .int .i64 P.gh, .int .i64 P.drift, .int .i64 P.into, .int .i64 P.ol, .int .i64 P.oh, .int .i64 P.sl, .int .i64 P.sh, .int .i64 P.goal, .int .i64 P.worth] 46) = w7 := ⟨_, rfl⟩
    have hbP : Blk w7 wx.heap.size #[.int .i64 P.count, .int .i64 P.room, .int .i64 P.gl, .int .i64 P.gh, .int .i64 P.drift, .int .i64 P.into, .int .i64 P.ol, .int .i64 P.oh, .int .i64 P.sl, .int .i64 P.sh, .int .i64 P.goal, .int .i64 P.worth] 46 := by rw [← hw7]; exact Blk.new' rfl _ _
    have hEx7 : Ext wx w7 := by rw [← hw7]; (with_reducible (repeat (first | exact Ext.refl _ | assumption | apply Ext.alloc | apply Ext.drew | exact ext_plus _ _ | (apply Ext.setCell; rotate_left; (simp <;> omega)) | (apply Ext.trans; rotate_left; exact ext_plus _ _) | (apply Ext.trans; rotate_left; assumption))))
    rw [hw7]
    clear hw7 h0 h1 h2 h3 h4 h5 h6 h7 h8 h9 h10 h11 d0 d1
    obtain ⟨bP, hbPe⟩ : ∃ bP, wx.heap.size = bP := ⟨_, rfl⟩
    rw [hbPe] at hbP hgx ⊢
    have hX7 := hbX.ext hEx7
    have hrow7 := hrowx.ext hEx7
    have hXd := hX7.drew
    have hPd := hbP.drew
    refine wp_region_late 20 (fun c y => c = false → (∀ o, y.cell? ⟨bX, o, none⟩ = (reefV r (.slice (some ⟨g, 0, none⟩) r.places.length cap) : Array Value)[o]?) ∧ (∀ o, y.cell? ⟨bP, o, none⟩ = (#[.int .i64 P.count, .int .i64 P.room, .int .i64 P.gl, .int .i64 P.gh, .int .i64 P.drift, .int .i64 P.into, .int .i64 P.ol, .int .i64 P.oh, .int .i64 P.sl, .int .i64 P.sh, .int .i64 P.goal, .int .i64 P.worth] : Array Value)[o]?)) (by kernel_rfl) (fun hL => ?_)
    refine late_early (i := 0) (v := ?_) rfl (by kernel_rfl) (by kernel_rfl) (by kernel_rfl) (by decide) (by kernel_rfl) (fun _ _ _ h => h) hL (Or.inl ⟨by rfl, ?_⟩) (fun _ => ⟨hXd.cell, hPd.cell⟩) (fun hL' => ?_)
    rotate_left
    · intro y hy; have hz := hy rfl; clear hy; obtain ⟨g1, g2⟩ := hz; go_simp; (try with_reducible rfl)
    clear hL; rename Shutb _ _ => hL
    (try simp only [Act.put, List.setIfInBounds_toArray, List.set_cons_zero, List.set_cons_succ])
    refine late_early (i := 1) (v := ?_) rfl (by kernel_rfl) (by kernel_rfl) (by kernel_rfl) (by decide) (by kernel_rfl) (fun _ _ _ h => h) hL (Or.inl ⟨by rfl, ?_⟩) (fun _ => ⟨hXd.cell, hPd.cell⟩) (fun hL' => ?_)
    rotate_left
    · intro y hy; have hz := hy rfl; clear hy; obtain ⟨g1, g2⟩ := hz; go_simp; (try with_reducible rfl)
    clear hL; rename Shutb _ _ => hL
    (try simp only [Act.put, List.setIfInBounds_toArray, List.set_cons_zero, List.set_cons_succ])
    refine late_early (i := 2) (v := ?_) rfl (by kernel_rfl) (by kernel_rfl) (by kernel_rfl) (by decide) (by kernel_rfl) (fun _ _ _ h => h) hL (Or.inl ⟨by rfl, ?_⟩) (fun _ => ⟨hXd.cell, hPd.cell⟩) (fun hL' => ?_)
    rotate_left
    · intro y hy; have hz := hy rfl; clear hy; obtain ⟨g1, g2⟩ := hz; go_simp; (try with_reducible rfl)
    clear hL; rename Shutb _ _ => hL
    (try simp only [Act.put, List.setIfInBounds_toArray, List.set_cons_zero, List.set_cons_succ])
    refine late_early (i := 3) (v := ?_) rfl (by kernel_rfl) (by kernel_rfl) (by kernel_rfl) (by decide) (by kernel_rfl) (fun _ _ _ h => h) hL (Or.inl ⟨by rfl, ?_⟩) (fun _ => ⟨hXd.cell, hPd.cell⟩) (fun hL' => ?_)
    rotate_left
    · intro y hy; have hz := hy rfl; clear hy; obtain ⟨g1, g2⟩ := hz; go_simp; (try with_reducible rfl)
    clear hL; rename Shutb _ _ => hL
    (try simp only [Act.put, List.setIfInBounds_toArray, List.set_cons_zero, List.set_cons_succ])
    refine late_early (i := 4) (v := ?_) rfl (by kernel_rfl) (by kernel_rfl) (by kernel_rfl) (by decide) (by kernel_rfl) (fun _ _ _ h => h) hL (Or.inl ⟨by rfl, ?_⟩) (fun _ => ⟨hXd.cell, hPd.cell⟩) (fun hL' => ?_)
    rotate_left
    · intro y hy; have hz := hy rfl; clear hy; obtain ⟨g1, g2⟩ := hz; go_simp; (try with_reducible rfl)
    clear hL; rename Shutb _ _ => hL
    (try simp only [Act.put, List.setIfInBounds_toArray, List.set_cons_zero, List.set_cons_succ])
    refine late_early (i := 5) (v := ?_) rfl (by kernel_rfl) (by kernel_rfl) (by kernel_rfl) (by decide) (by kernel_rfl) (fun _ _ _ h => h) hL (Or.inl ⟨by rfl, ?_⟩) (fun _ => ⟨hXd.cell, hPd.cell⟩) (fun hL' => ?_)
    rotate_left
    · intro y hy; have hz := hy rfl; clear hy; obtain ⟨g1, g2⟩ := hz; go_simp; (try with_reducible rfl)
    clear hL; rename Shutb _ _ => hL
    (try simp only [Act.put, List.setIfInBounds_toArray, List.set_cons_zero, List.set_cons_succ])
    refine late_early (i := 6) (v := ?_) rfl (by kernel_rfl) (by kernel_rfl) (by kernel_rfl) (by decide) (by kernel_rfl) (fun _ _ _ h => h) hL (Or.inl ⟨by rfl, ?_⟩) (fun _ => ⟨hXd.cell, hPd.cell⟩) (fun hL' => ?_)
    rotate_left
    · intro y hy; have hz := hy rfl; clear hy; obtain ⟨g1, g2⟩ := hz; go_simp; (try with_reducible rfl)
    clear hL; rename Shutb _ _ => hL
    (try simp only [Act.put, List.setIfInBounds_toArray, List.set_cons_zero, List.set_cons_succ])
    refine late_early (i := 7) (v := ?_) rfl (by kernel_rfl) (by kernel_rfl) (by kernel_rfl) (by decide) (by kernel_rfl) (fun _ _ _ h => h) hL (Or.inl ⟨by rfl, ?_⟩) (fun _ => ⟨hXd.cell, hPd.cell⟩) (fun hL' => ?_)
    rotate_left
    · intro y hy; have hz := hy rfl; clear hy; obtain ⟨g1, g2⟩ := hz; go_simp; (try with_reducible rfl)
    clear hL; rename Shutb _ _ => hL
    (try simp only [Act.put, List.setIfInBounds_toArray, List.set_cons_zero, List.set_cons_succ])
    refine late_early (i := 8) (v := ?_) rfl (by kernel_rfl) (by kernel_rfl) (by kernel_rfl) (by decide) (by kernel_rfl) (fun _ _ _ h => h) hL (Or.inl ⟨by rfl, ?_⟩) (fun _ => ⟨hXd.cell, hPd.cell⟩) (fun hL' => ?_)
    rotate_left
    · intro y hy; have hz := hy rfl; clear hy; obtain ⟨g1, g2⟩ := hz; go_simp; (try with_reducible rfl)
    clear hL; rename Shutb _ _ => hL
    (try simp only [Act.put, List.setIfInBounds_toArray, List.set_cons_zero, List.set_cons_succ])
    refine late_early (i := 9) (v := ?_) rfl (by kernel_rfl) (by kernel_rfl) (by kernel_rfl) (by decide) (by kernel_rfl) (fun _ _ _ h => h) hL (Or.inl ⟨by rfl, ?_⟩) (fun _ => ⟨hXd.cell, hPd.cell⟩) (fun hL' => ?_)
    rotate_left
    · intro y hy; have hz := hy rfl; clear hy; obtain ⟨g1, g2⟩ := hz; go_simp; (try with_reducible rfl)
    clear hL; rename Shutb _ _ => hL
    (try simp only [Act.put, List.setIfInBounds_toArray, List.set_cons_zero, List.set_cons_succ])
    refine late_early (i := 10) (v := ?_) rfl (by kernel_rfl) (by kernel_rfl) (by kernel_rfl) (by decide) (by kernel_rfl) (fun _ _ _ h => h) hL (Or.inl ⟨by rfl, ?_⟩) (fun _ => ⟨hXd.cell, hPd.cell⟩) (fun hL' => ?_)
    rotate_left
    · intro y hy; have hz := hy rfl; clear hy; obtain ⟨g1, g2⟩ := hz; go_simp; (try with_reducible rfl)
    clear hL; rename Shutb _ _ => hL
    (try simp only [Act.put, List.setIfInBounds_toArray, List.set_cons_zero, List.set_cons_succ])
    refine late_early (i := 11) (v := ?_) rfl (by kernel_rfl) (by kernel_rfl) (by kernel_rfl) (by decide) (by kernel_rfl) (fun _ _ _ h => h) hL (Or.inl ⟨by rfl, ?_⟩) (fun _ => ⟨hXd.cell, hPd.cell⟩) (fun hL' => ?_)
    rotate_left
    · intro y hy; have hz := hy rfl; clear hy; obtain ⟨g1, g2⟩ := hz; go_simp; (try with_reducible rfl)
    clear hL; rename Shutb _ _ => hL
    (try simp only [Act.put, List.setIfInBounds_toArray, List.set_cons_zero, List.set_cons_succ])
    refine late_early (i := 12) (v := ?_) rfl (by kernel_rfl) (by kernel_rfl) (by kernel_rfl) (by decide) (by kernel_rfl) (fun _ _ _ h => h) hL (Or.inl ⟨by rfl, ?_⟩) (fun _ => ⟨hXd.cell, hPd.cell⟩) (fun hL' => ?_)
    rotate_left
    · intro y hy; have hz := hy rfl; clear hy; obtain ⟨g1, g2⟩ := hz; go_simp; (try with_reducible rfl)
    clear hL; rename Shutb _ _ => hL
    (try simp only [Act.put, List.setIfInBounds_toArray, List.set_cons_zero, List.set_cons_succ])
    refine late_early (i := 13) (v := ?_) rfl (by kernel_rfl) (by kernel_rfl) (by kernel_rfl) (by decide) (by kernel_rfl) (fun _ _ _ h => h) hL (Or.inl ⟨by rfl, ?_⟩) (fun _ => ⟨hXd.cell, hPd.cell⟩) (fun hL' => ?_)
    rotate_left
    · intro y hy; have hz := hy rfl; clear hy; obtain ⟨g1, g2⟩ := hz; go_simp; (try with_reducible rfl)
    clear hL; rename Shutb _ _ => hL
    (try simp only [Act.put, List.setIfInBounds_toArray, List.set_cons_zero, List.set_cons_succ])
    refine late_early (i := 14) (v := ?_) rfl (by kernel_rfl) (by kernel_rfl) (by kernel_rfl) (by decide) (by kernel_rfl) (fun _ _ _ h => h) hL (Or.inl ⟨by rfl, ?_⟩) (fun _ => ⟨hXd.cell, hPd.cell⟩) (fun hL' => ?_)
    rotate_left
    · intro y hy; have hz := hy rfl; clear hy; obtain ⟨g1, g2⟩ := hz; go_simp; (try with_reducible rfl)
    clear hL; rename Shutb _ _ => hL
    (try simp only [Act.put, List.setIfInBounds_toArray, List.set_cons_zero, List.set_cons_succ])
    refine late_early (i := 15) (v := ?_) rfl (by kernel_rfl) (by kernel_rfl) (by kernel_rfl) (by decide) (by kernel_rfl) (fun _ _ _ h => h) hL (Or.inl ⟨by rfl, ?_⟩) (fun _ => ⟨hXd.cell, hPd.cell⟩) (fun hL' => ?_)
    rotate_left
    · intro y hy; have hz := hy rfl; clear hy; obtain ⟨g1, g2⟩ := hz; go_simp; (try with_reducible rfl)
    clear hL; rename Shutb _ _ => hL
    (try simp only [Act.put, List.setIfInBounds_toArray, List.set_cons_zero, List.set_cons_succ])
    refine late_early (i := 16) (v := ?_) rfl (by kernel_rfl) (by kernel_rfl) (by kernel_rfl) (by decide) (by kernel_rfl) (fun _ _ _ h => h) hL (Or.inl ⟨by rfl, ?_⟩) (fun _ => ⟨hXd.cell, hPd.cell⟩) (fun hL' => ?_)
    rotate_left
    · intro y hy; have hz := hy rfl; clear hy; obtain ⟨g1, g2⟩ := hz; go_simp; (try with_reducible rfl)
    clear hL; rename Shutb _ _ => hL
    (try simp only [Act.put, List.setIfInBounds_toArray, List.set_cons_zero, List.set_cons_succ])
    refine late_one (i := 17) (by kernel_rfl) hL (fun hL' => ?_)
    refine wpOp_step rfl (fun K hK0 => ?_)
    have hK : Shut _ := hK0
    clear hK0
    go_simp
    go_wp2_with (first | (go_at_call 38; refine (lspan_any _ _ _).mono ?_; rintro e w8 ⟨rfl, hE8⟩))
    have hX8 := hXd.ext hE8
    have hP8 := hPd.ext hE8
    have hrow8 := RowB.ext (RowB.ext hrow7 ((Ext.refl w7).drew)) hE8
    refine hK.out _ _ ⟨fun _ => ⟨hX8.cell, hP8.cell⟩, ?_⟩
    clear hK K; clear hL; rename Shutb _ _ => hL
    (try simp only [Act.put, List.setIfInBounds_toArray, List.set_cons_zero, List.set_cons_succ])
    have f6 := hrow8.free
    have f7 := hrow8.lt
    refine late_one (i := 18) (by kernel_rfl) hL (fun hL' => ?_)
    refine wpOp_step rfl (fun K hK0 => ?_)
    have hK : Shut _ := hK0
    clear hK0
    go_simp
    refine hK.out _ _ ⟨fun _ => ⟨hX8.cell, hP8.cell⟩, ?_⟩
    clear hK K; clear hL; rename Shutb _ _ => hL
    (try simp only [Act.put, List.setIfInBounds_toArray, List.set_cons_zero, List.set_cons_succ])
    refine late_one (i := 19) (by kernel_rfl) hL (fun hL' => ?_)
    refine wpOp_step rfl (fun K hK0 => ?_)
    have hK : Shut _ := hK0
    clear hK0
    go_simp
    refine hK.out _ _ ⟨fun _ => ⟨hX8.cell, hP8.cell⟩, ?_⟩
    clear hK K; clear hL; rename Shutb _ _ => hL
    (try simp only [Act.put, List.setIfInBounds_toArray, List.set_cons_zero, List.set_cons_succ])
    have x8 := hrow8.cell k hkq 8 _ rfl
    have x9 := hrow8.cell k hkq 9 _ rfl
    rw [hpq] at x8 x9
    refine late_one (i := 20) (by kernel_rfl) hL (fun hL' => ?_)
    refine wpOp_step rfl (fun K hK0 => ?_)
    have hK : Shut _ := hK0
    clear hK0
    go_simp
    refine hK.out _ _ ⟨fun e => absurd (e : true = false) (by decide), ?_⟩
    clear hK K; clear hL; rename Shutb _ _ => hL
    (try simp only [Act.put, List.setIfInBounds_toArray, List.set_cons_zero, List.set_cons_succ])
    refine late_done (by kernel_rfl) ?_
    (try dsimp only [Exit.then])
    have hE78 : Ext w7 w8 := ((Ext.refl w7).drew).trans hE8
    have hz7 := hEx7.size
    have hz8 := hE78.size
    have hz6 := hE6x.size
    have hX9 := (hX8.other (a := ⟨g, k * 12 + 8, none⟩) (by simp; omega) (.int .i64 (min P.sl P.ol))).other (a := ⟨g, k * 12 + 8 + 1, none⟩) (by simp; omega) (.int .i64 (min P.sh P.oh))
    have hP9 := (hP8.other (a := ⟨g, k * 12 + 8, none⟩) (by simp; omega) (.int .i64 (min P.sl P.ol))).other (a := ⟨g, k * 12 + 8 + 1, none⟩) (by simp; omega) (.int .i64 (min P.sh P.oh))
    have hE9 := (((hE1x.trans hE6x).trans (hEx7.trans hE78)).setCell (p := ⟨g, k * 12 + 8, none⟩) (by simp; omega) (.int .i64 (min P.sl P.ol))).setCell (p := ⟨g, k * 12 + 8 + 1, none⟩) (by simp; omega) (.int .i64 (min P.sh P.oh))
    have hE19 := (((hE16.trans hE6x).trans (hEx7.trans hE78)).setCell (p := ⟨g, k * 12 + 8, none⟩) (by simp; omega) (.int .i64 (min P.sl P.ol))).setCell (p := ⟨g, k * 12 + 8 + 1, none⟩) (by simp; omega) (.int .i64 (min P.sh P.oh))
    obtain ⟨w9, hw9⟩ : ∃ w9, (w8.setCell ⟨g, k * 12 + 8, none⟩ (.int .i64 (min P.sl P.ol))).setCell ⟨g, k * 12 + 8 + 1, none⟩ (.int .i64 (min P.sh P.oh)) = w9 := ⟨_, rfl⟩
    rw [hw9] at hX9 hP9 hE9 hE19 ⊢
    (try clear hr8 x9')
    clear hw9 f6 f7 x8 x9 hX8 hP8 hrow8 hXd hPd hX7 hrow7 hE8 hE78 hEx7 hE6x hrowx hrow6 hbX hbP hz7 hz8 hz6 hE16 hgx hgl6 hpq
    have d0 := hP9.cell
    have d1 := hP9.lt
    by_cases hbad1 : P.oh < P.sh
    · go_wp2_with (first | (go_at_call 17; refine (known_any _).mono ?_; rintro e wk ⟨rfl, hbk⟩))
      go_ret
      exact ⟨rfl, hE9.trans hbk⟩
    · have hbad2 : P.ol < P.sl := by have := HBAD.out; omega
      go_wp2_with (first | (go_at_call 17; refine (known_any _).mono ?_; rintro e wk ⟨rfl, hbk⟩))
      go_ret
      exact ⟨rfl, hE9.trans hbk⟩
set_option maxRecDepth 100000 in
set_option maxHeartbeats 16000000 in
theorem takenA_law (r : R.Reef) (vr : Value) (plan : List Int) (vp : Value) (place : Int) (hwfplace : (Lit.int .i64 place).wf = true) (other : Int) (hwfother : (Lit.int .i64 other).wf = true) (t : R.Truth) (vs vg vt : Value) (w : World) (hP : Places w vr r.places) (hL : Ints w vp plan) (hS : Ints w vs t.starts) (hG : Lists w vg t.grows) (hT : Lists w vt t.takes) (hsh : shortR r = true) (hpl : plan.length ≤ 8) (hA : rightB r plan = true) (hsz : sizedT t = true) (hp0 : ¬ place < 0) (hp1 : ¬ (r.places.length : Int) ≤ place) (ho0 : ¬ other < 0) (ho1 : ¬ 1000000 < other) (hgood : ((R.pat (R.limited r place.toNat other).places place.toNat).sl ≤ (R.pat (R.limited r place.toNat other).places place.toNat).ol ∧ (R.pat (R.limited r place.toNat other).places place.toNat).sh ≤ (R.pat (R.limited r place.toNat other).places place.toNat).oh)) (hq : quotaN r plan place = 0) :
    Calls Try.prog 10 #[.agg (reefV r vr), vp, .int .i64 place, .int .i64 other, .agg (truthV vs vg vt)] w fun e w' => e = .returned (.bool true) ∧ Ext w w' := by
  have hP' := hP
  have hL' := hL
  have hS' := hS
  have hG' := hG
  have hT' := hT
  obtain ⟨a1, c1, rfl, hPx⟩ := hP'
  obtain ⟨a2, c2, rfl, hLx⟩ := hL'
  obtain ⟨a3, c3, rfl, hSx⟩ := hS'
  obtain ⟨a4, c4, rfl, hGx⟩ := hG'
  obtain ⟨a5, c5, rfl, hTx⟩ := hT'
  have HPX := Lib.hid hPx
  have HLX := Lib.hid hLx
  have HSX := Lib.hid hSx
  have HGX := Lib.hid hGx
  have HTX := Lib.hid hTx
  clear hPx hLx hSx hGx hTx
  obtain ⟨w1, hw1⟩ : ∃ w1, ((w.alloc (.cells (reefV r (.slice a1 r.places.length c1)) 24)).alloc (.cells (truthV (.slice a3 t.starts.length c3) (.slice a4 t.grows.length c4) (.slice a5 t.takes.length c5)) 28)) = w1 := ⟨_, rfl⟩
  have hE1 : Ext w w1 := by rw [← hw1]; (with_reducible (repeat (first | exact Ext.refl _ | assumption | apply Ext.alloc | apply Ext.drew | exact ext_plus _ _ | (apply Ext.setCell; rotate_left; (simp <;> omega)) | (apply Ext.trans; rotate_left; exact ext_plus _ _) | (apply Ext.trans; rotate_left; assumption))))
  have hb0 : Blk w1 (w.heap.size) (reefV r (.slice a1 r.places.length c1)) 24 := by rw [← hw1]; exact (Blk.new' rfl _ _).alloc _
  have hb1 : Blk w1 (w.heap.size + 1) (truthV (.slice a3 t.starts.length c3) (.slice a4 t.grows.length c4) (.slice a5 t.takes.length c5)) 28 := by rw [← hw1]; exact Blk.new' (by simp) _ _
  have hbx := fun y (hy : Ext w1 y) => (⟨(hb0.ext hy).cell, (hb1.ext hy).cell, (hb0.ext hy).lt, (hb1.ext hy).lt⟩ : (∀ o, y.cell? ⟨w.heap.size, o, none⟩ = _) ∧ (∀ o, y.cell? ⟨w.heap.size + 1, o, none⟩ = _) ∧ w.heap.size < y.heap.size ∧ w.heap.size + 1 < y.heap.size)
  have HBX := Lib.hid hbx
  have HW1 := Lib.hid hw1
  clear hw1 hb0 hb1 hbx
  clear hwfplace hwfother
  have hs := fun w' (hx : Ext w w') => short_any r _ w' (hP.ext hx)
  rw [hsh] at hs
  have HS := Lib.hid hs
  clear hs
  have hpi : ¬ (8 : Int) < plan.length := by omega
  have hn8 : r.places.length ≤ 8 := by simpa [shortR] using hsh
  have hask := fun w' (hx : Ext w w') => asked_any r plan _ _ w' (hP.ext hx) (hL.ext hx) hn8 (by omega)
  rw [hA] at hask
  have HA := Lib.hid hask
  clear hask
  have hz := fun w' (hx : Ext w w') => sized_any t _ _ _ w' (hS.ext hx) (hG.ext hx) (hT.ext hx)
  rw [hsz] at hz
  have HZ := Lib.hid hz
  clear hz
  obtain ⟨k, rfl⟩ := Int.eq_ofNat_of_zero_le (show 0 ≤ place by omega)
  have hk : k < r.places.length := by omega
  have hR := hA
  unfold rightB at hR
  rw [Bool.and_eq_true] at hR
  have O := R.okR_of hR.1
  have OL := R.okL_iff.1 hR.2
  obtain ⟨z1, z2, z3, z4, z5⟩ := sized_bd hsz
  have hn4 := O.n4
  have hs4 := O.s4
  have hs1 := O.s1
  have hqq := fun w' (hx : Ext w w') => quotaQ_any r plan (k : Int) _ _ w' (hP.ext hx) (hL.ext hx) (by omega) (by omega)
  have hask : quotaAsk r plan (k : Int) = true := by unfold quotaAsk R.within; rw [hA, decide_eq_true (by omega : (0 : Int) ≤ k), decide_eq_true (by omega : (k : Int) ≤ (r.places.length : Int) - 1)]; rfl
  have e1 : quotaOf r plan (k : Int) = if quotaN r plan k = 0 then 0 else quotaN r plan k - 1 := by unfold quotaOf; rw [hask]; rfl
  have e2 : quotaCode r plan (k : Int) = if quotaN r plan k = 0 then 5 else 0 := by unfold quotaCode; rw [hask]; rfl
  simp only [e1, e2] at hqq
  have hmono : R.Mono (quotaB r plan k) := by
    have h := R.short_mono O plan k hk
    have e : quotaB r plan k = fun m => (R.short (R.limited r k m) plan).isSome := by funext m; unfold quotaB; cases R.short (R.limited r k m) plan <;> rfl
    rw [e]; exact h
  obtain ⟨b1, b2, b3, b4⟩ := R.least_spec hmono 40 0 1000001 (by omega) (by omega) (by decide)
  have hNe : R.least (quotaB r plan k) 40 0 1000001 = quotaN r plan k := by unfold quotaN; rw [Int.toNat_natCast]
  rw [hNe] at b1 b2 b3 b4
  have hli := fun w' (hx : Ext w w') => dlimited_any r k other _ w' (hP.ext hx) (by omega) hk
  have Oq := R.okR_limited O k other hk (by omega)
  have OLq := R.okL_limited OL k other
  have TE := R.okT_end (plan := plan) Oq false
  have hqB : quotaB r plan k other = !(R.short (R.limited r k other) plan).isNone := rfl
  have hsn := R.short_none Oq plan
  have hall : allTo (R.limited r k other).places (R.lowF (R.limited r k other) plan) r.places.length = !quotaB r plan k other := by
    rw [hqB, Bool.not_not, Bool.eq_iff_iff]
    unfold allTo
    rw [List.all_eq_true, Option.isNone_iff_eq_none, hsn]
    simp only [List.mem_range, decide_eq_true_eq, R.limited_len]
  have hcmp : quotaB r plan k other = decide (quotaN r plan k ≤ other) := by
    by_cases h : quotaN r plan k ≤ other
    · rw [decide_eq_true h]
      exact hmono _ _ b1 h (b3 (by omega))
    · rw [decide_eq_false h]
      exact b4 other (by omega) (by omega)
  rw [hcmp] at hall
  have hQl := R.limited_len r k other
  have hpq : R.pat (R.limited r k other).places k = (R.limited r k other).places[k]'(by rw [hQl]; exact hk) := R.pat_at (by rw [hQl]; exact hk)
  obtain ⟨P, hPP⟩ : ∃ P, (R.limited r k other).places[k]'(by rw [hQl]; exact hk) = P := ⟨_, rfl⟩
  rw [hPP] at hpq
  have hrl := fun h1 h2 => right_limited hA k hk other (by omega) h1 h2
  rw [hpq] at hrl
  obtain ⟨qs, hqs⟩ : ∃ qs, (R.limited r k other).places = qs := ⟨_, rfl⟩
  have HPQ : Hid (∀ (h : k < qs.length), qs[k] = P) := by show ∀ (h : k < qs.length), qs[k] = P; subst hqs; exact fun _ => hPP
  have hli2 : ∀ w', Ext w w' → Calls Try.prog 37 #[.agg (reefV r (.slice a1 r.places.length c1)), .int .i64 k, .int .i64 other] w' fun e w2 => ∃ g cap, e = .returned (.agg (reefV r (.slice (some ⟨g, 0, none⟩) r.places.length cap))) ∧ RowB placeC 12 46 w2 g qs ∧ w'.heap.size ≤ g ∧ Ext w' w2 := by subst hqs; exact hli
  have HLI := Lib.hid hli2
  have HQL := Lib.hid (show qs.length = r.places.length by subst hqs; exact hQl)
  obtain ⟨N, hN⟩ : ∃ N, quotaN r plan k = N := ⟨_, rfl⟩
  have hN0 : 0 ≤ N := by rw [← hN]; exact b1
  simp only [hN] at hqq hall
  have hpp0 : ¬ (k : Int) < 0 := hp0
  rw [Int.toNat_natCast, hpq] at hgood
  obtain ⟨hg1, hg2⟩ := hgood
  have hAq := hrl hg1 hg2
  have hgd1 : ¬ P.oh < P.sh := by omega
  have hgd2 : ¬ P.ol < P.sl := by omega
  have hms1 : min P.sl P.ol = P.sl := Int.min_eq_left hg1
  have hms2 : min P.sh P.oh = P.sh := Int.min_eq_left hg2
  obtain ⟨qS, hqS⟩ := Int.eq_ofNat_of_zero_le (show 0 ≤ r.seasons - 1 by omega)
  have hSn : (R.limited r k other).seasons.toNat = qS + 1 := by show r.seasons.toNat = qS + 1; omega
  have hwq : IntKind.wrap .i64 (qS : Int) = qS := IntWalk.i64_in _ (by omega)
  have hpe : playOk (R.limited r k other) plan (R.endT (R.limited r k other) plan false) = true := by unfold playOk; rw [hAq, R.okT_iff.2 TE]; rfl
  have hpt : playOk (R.limited r k other) plan t = R.truthB (R.limited r k other) plan t := by unfold playOk; rw [hAq]; rfl
  have hql4 : (R.limited r k other).places.length ≤ 4 := by rw [R.limited_len]; exact hn4
  have hsm : ∀ l ∈ (R.endT (R.limited r k other) plan false).grows, l.length ≤ 1000000 := fun l hl => by
    obtain ⟨i, hi, rfl⟩ := List.getElem_of_mem hl
    have hg := TE.gl i (by have := TE.lg; omega)
    rw [R.lat_at hi] at hg
    omega
  have hsm2 : ∀ l ∈ (R.endT (R.limited r k other) plan false).takes, l.length ≤ 1000000 := fun l hl => by
    obtain ⟨i, hi, rfl⟩ := List.getElem_of_mem hl
    have hg := TE.tl i (by have := TE.lt; omega)
    rw [R.lat_at hi] at hg
    omega
  have hss : (R.limited r k other).seasons = r.seasons := rfl
  have hpl : ∀ {w' : World} {g : Nat} (cap : Nat), RowB placeC 12 46 w' g qs → Places w' (.slice (some ⟨g, 0, none⟩) r.places.length cap) (R.limited r k other).places := fun {w' g} cap h => by subst hqs; have := h.sls cap; rw [R.limited_len] at this; exact this
  have hen : ∀ w' g cap, RowB placeC 12 46 w' g qs → Ext w w' → Calls Try.prog 27 #[.agg (reefV r (.slice (some ⟨g, 0, none⟩) r.places.length cap)), .slice a2 plan.length c2, .bool false] w' fun x w2 => ∃ vs vg vt, x = .returned (.agg (truthV vs vg vt)) ∧ Ints w2 vs (R.endT (R.limited r k other) plan false).starts ∧ Lists w2 vg (R.endT (R.limited r k other) plan false).grows ∧ Lists w2 vt (R.endT (R.limited r k other) plan false).takes ∧ Ext w' w2 := fun w' g cap h hx => dend_any (R.limited r k other) plan false _ _ w' (hpl cap h) (hL.ext hx) Oq OLq
  have hpw : ∀ w' g cap vs vg vt, RowB placeC 12 46 w' g qs → Ext w w' → Ints w' vs (R.endT (R.limited r k other) plan false).starts → Lists w' vg (R.endT (R.limited r k other) plan false).grows → Lists w' vt (R.endT (R.limited r k other) plan false).takes → Calls Try.prog 18 #[.agg (reefV r (.slice (some ⟨g, 0, none⟩) r.places.length cap)), .slice a2 plan.length c2, .agg (truthV vs vg vt)] w' fun x w2 => ∃ v a b c d e, x = .returned (.tuple #[v, .agg #[.int .i64 a, .int .i64 b, .int .i64 c, .int .i64 d, .int .i64 e], .int .i64 0]) ∧ ListsF w'.heap.size w2 v (R.fishOf (R.limited r k other) (R.endT (R.limited r k other) plan false)) ∧ Ext w' w2 := fun w' g cap vs vg vt h hx hs hg ht => by
    have hh := play_any (R.limited r k other) plan (R.endT (R.limited r k other) plan false) _ _ vs vg vt w' (hpl cap h) (hL.ext hx) hs hg ht (by omega) (by omega) (by have := TE.ls; omega) (by have := TE.lg; omega) (by have := TE.lt; omega) hsm hsm2
    simp only [hpe, if_true, show codeOf true = 0 from rfl] at hh
    exact hh.mono fun e w2 ⟨v, h1, h2, h3⟩ => ⟨v, _, _, _, _, _, h1, h2, h3⟩
  have hYr := rows_ok Oq TE
  have hYl : (R.fishOf (R.limited r k other) (R.endT (R.limited r k other) plan false)).length = qS + 1 := by rw [R.fishOf_len, hSn]
  have hYG : ∀ h, (R.fishOf (R.limited r k other) (R.endT (R.limited r k other) plan false))[qS]'h = R.lowF (R.limited r k other) plan := fun h => last_row (R.endT (R.limited r k other) plan false) hSn h
  have hGl := R.lowF_len Oq plan
  have hshp : ∀ w' g cap v L, (L.length = qS + 1) → (∀ l ∈ L, l.length = (R.limited r k other).places.length ∧ ∀ x ∈ l, 0 ≤ x ∧ x ≤ 1000000000) → RowB placeC 12 46 w' g qs → Lists w' v L → Calls Try.prog 24 #[.agg (reefV r (.slice (some ⟨g, 0, none⟩) r.places.length cap)), v] w' fun e w2 => e = .returned (.bool true) ∧ Ext w' w2 := fun w' g cap v L hl hr h hv => shaped_any (R.limited r k other) L _ v w' (hpl cap h) hv (by omega) (by omega) (by omega) hr
  obtain ⟨Y, hY⟩ : ∃ Y, R.fishOf (R.limited r k other) (R.endT (R.limited r k other) plan false) = Y := ⟨_, rfl⟩
  obtain ⟨G, hG'⟩ : ∃ G, R.lowF (R.limited r k other) plan = G := ⟨_, rfl⟩
  have HYG : Hid (∀ (h : qS < Y.length), Y[qS] = G) := by show ∀ (h : qS < Y.length), Y[qS] = G; subst hY hG'; exact hYG
  have HGL := Lib.hid (show G.length = r.places.length by rw [← hG', hGl, R.limited_len])
  have hqY : qS < Y.length := by rw [← hY]; omega
  rw [hY] at hYr hYl
  simp only [hY] at hpw
  rw [hqs, hG'] at hall
  have HEN := Lib.hid hen
  have HPW := Lib.hid hpw
  have hz0 : N = 0 := by rw [← hN]; exact hq
  clear hq
  · subst hz0
    simp only [if_true] at hqq
    have HQQ := Lib.hid hqq
    have HALL := Lib.hid (show allTo qs G r.places.length = false by rw [hall, decide_eq_true (by omega : (0 : Int) ≤ other)]; rfl)
    have hsb : ∀ w' g cap v L, (L = Y ∨ L = Y) → (RowB placeC 12 46 w' g qs ∧ Ext w' w') → Lists w' v L → Calls Try.prog 24 #[.agg (reefV r (.slice (some ⟨g, 0, none⟩) r.places.length cap)), v] w' fun e w2 => e = .returned (.bool true) ∧ Ext w' w2 := fun w' g cap v L hL' h hv => by
      have e : L = Y := by rcases hL' with e | e <;> exact e
      subst e; exact hshp w' g cap v L hYl hYr h.1 hv
    have HSB := Lib.hid hsb
    clear hqq hA hsh hsz O OL hR hask e1 e2 hmono b1 b2 b3 b4 hNe hli hli2 Oq OLq TE hqB hsn hall hcmp hQl hpq hPP hrl hqs hN hN0 hg1 hg2 hAq hSn hpe hpt hsm hsm2 hss hpl hen hpw hYr hYl hYG hGl hshp hsb hY hG' hs4 hs1 z1 z2 z3 z4 z5
    go_enter Try.func10, Try.ntmps10
    go_upto_region 1 with (fail)
    rw [HW1.out]
    obtain ⟨k0, k1, l0, l1⟩ := HBX.out w1 (Ext.refl _)
    go_upto_region 7 with (first | (go_at_call 15; refine (HS.out _ (by (with_reducible (repeat (first | exact Ext.refl _ | assumption | apply Ext.alloc | apply Ext.drew | exact ext_plus _ _ | (apply Ext.setCell; rotate_left; (simp <;> omega)) | (apply Ext.trans; rotate_left; exact ext_plus _ _) | (apply Ext.trans; rotate_left; assumption)))))).mono ?_; rintro e w2 ⟨rfl, hb2⟩; (try clear k0 k1 l0 l1); obtain ⟨k0, k1, l0, l1⟩ := HBX.out w2 (by (with_reducible (repeat (first | exact Ext.refl _ | assumption | apply Ext.alloc | apply Ext.drew | exact ext_plus _ _ | (apply Ext.setCell; rotate_left; (simp <;> omega)) | (apply Ext.trans; rotate_left; exact ext_plus _ _) | (apply Ext.trans; rotate_left; assumption)))))) | (go_at_call 19; refine (HA.out _ (by (with_reducible (repeat (first | exact Ext.refl _ | assumption | apply Ext.alloc | apply Ext.drew | exact ext_plus _ _ | (apply Ext.setCell; rotate_left; (simp <;> omega)) | (apply Ext.trans; rotate_left; exact ext_plus _ _) | (apply Ext.trans; rotate_left; assumption)))))).mono ?_; rintro e w3 ⟨rfl, hb3⟩; (try clear k0 k1 l0 l1); obtain ⟨k0, k1, l0, l1⟩ := HBX.out w3 (by (with_reducible (repeat (first | exact Ext.refl _ | assumption | apply Ext.alloc | apply Ext.drew | exact ext_plus _ _ | (apply Ext.setCell; rotate_left; (simp <;> omega)) | (apply Ext.trans; rotate_left; exact ext_plus _ _) | (apply Ext.trans; rotate_left; assumption)))))) | (go_at_call 16; refine (HZ.out _ (by (with_reducible (repeat (first | exact Ext.refl _ | assumption | apply Ext.alloc | apply Ext.drew | exact ext_plus _ _ | (apply Ext.setCell; rotate_left; (simp <;> omega)) | (apply Ext.trans; rotate_left; exact ext_plus _ _) | (apply Ext.trans; rotate_left; assumption)))))).mono ?_; rintro e w4 ⟨rfl, hb4⟩; (try clear k0 k1 l0 l1); obtain ⟨k0, k1, l0, l1⟩ := HBX.out w4 (by (with_reducible (repeat (first | exact Ext.refl _ | assumption | apply Ext.alloc | apply Ext.drew | exact ext_plus _ _ | (apply Ext.setCell; rotate_left; (simp <;> omega)) | (apply Ext.trans; rotate_left; exact ext_plus _ _) | (apply Ext.trans; rotate_left; assumption)))))) | (go_at_call 35; refine (HQQ.out _ (by (with_reducible (repeat (first | exact Ext.refl _ | assumption | apply Ext.alloc | apply Ext.drew | exact ext_plus _ _ | (apply Ext.setCell; rotate_left; (simp <;> omega)) | (apply Ext.trans; rotate_left; exact ext_plus _ _) | (apply Ext.trans; rotate_left; assumption)))))).mono ?_; rintro e w5 ⟨rfl, hb5⟩; (try clear k0 k1 l0 l1); obtain ⟨k0, k1, l0, l1⟩ := HBX.out w5 (by (with_reducible (repeat (first | exact Ext.refl _ | assumption | apply Ext.alloc | apply Ext.drew | exact ext_plus _ _ | (apply Ext.setCell; rotate_left; (simp <;> omega)) | (apply Ext.trans; rotate_left; exact ext_plus _ _) | (apply Ext.trans; rotate_left; assumption)))))) | (go_at_call 37; refine (HLI.out _ (by (with_reducible (repeat (first | exact Ext.refl _ | assumption | apply Ext.alloc | apply Ext.drew | exact ext_plus _ _ | (apply Ext.setCell; rotate_left; (simp <;> omega)) | (apply Ext.trans; rotate_left; exact ext_plus _ _) | (apply Ext.trans; rotate_left; assumption)))))).mono ?_; rintro e w6 ⟨g, cap, rfl, hrow6, hg6, hb6⟩; have hgl6 := hrow6.lt; (try clear k0 k1 l0 l1); obtain ⟨k0, k1, l0, l1⟩ := HBX.out w6 (by (with_reducible (repeat (first | exact Ext.refl _ | assumption | apply Ext.alloc | apply Ext.drew | exact ext_plus _ _ | (apply Ext.setCell; rotate_left; (simp <;> omega)) | (apply Ext.trans; rotate_left; exact ext_plus _ _) | (apply Ext.trans; rotate_left; assumption)))))))
    have hE16 : Ext w1 w6 := hb2.trans (hb3.trans (hb4.trans (hb5.trans hb6)))
    have hgw1 : w1.heap.size ≤ g := by have := (hb2.trans (hb3.trans (hb4.trans hb5))).size; omega
    have hgw : w.heap.size ≤ g := by have := (hE1.trans (hb2.trans (hb3.trans (hb4.trans hb5)))).size; omega
    obtain ⟨wx, hwx⟩ : ∃ wx, w6.alloc (.cells (reefV r (.slice (some ⟨g, 0, none⟩) r.places.length cap)) 24) = wx := ⟨_, rfl⟩
    have hbX : Blk wx w6.heap.size (reefV r (.slice (some ⟨g, 0, none⟩) r.places.length cap)) 24 := by rw [← hwx]; exact Blk.new' rfl _ _
    have hE6x : Ext w6 wx := by rw [← hwx]; (with_reducible (repeat (first | exact Ext.refl _ | assumption | apply Ext.alloc | apply Ext.drew | exact ext_plus _ _ | (apply Ext.setCell; rotate_left; (simp <;> omega)) | (apply Ext.trans; rotate_left; exact ext_plus _ _) | (apply Ext.trans; rotate_left; assumption))))
    rw [hwx]
    clear hwx k0 k1 l0 l1 hb2 hb3 hb4 hb5 hb6
    obtain ⟨bX, hbXe⟩ : ∃ bX, w6.heap.size = bX := ⟨_, rfl⟩
    rw [hbXe] at hbX hgl6 ⊢
    have hE1x : Ext w w6 := hE1.trans hE16
    have hzz := hE1x.size
    have hrowx := hrow6.ext hE6x
    have hkq : k < qs.length := by have := HQL.out; omega
    have d0 := hbX.cell
    have d1 := hbX.lt
    obtain ⟨h0, h1, h2, h3, h4, h5, h6, h7, h8, h9, h10, h11⟩ := (⟨hrowx.cell k hkq 0 _ rfl, hrowx.cell k hkq 1 _ rfl, hrowx.cell k hkq 2 _ rfl, hrowx.cell k hkq 3 _ rfl, hrowx.cell k hkq 4 _ rfl, hrowx.cell k hkq 5 _ rfl, hrowx.cell k hkq 6 _ rfl, hrowx.cell k hkq 7 _ rfl, hrowx.cell k hkq 8 _ rfl, hrowx.cell k hkq 9 _ rfl, hrowx.cell k hkq 10 _ rfl, hrowx.cell k hkq 11 _ rfl⟩ : _ ∧ _ ∧ _ ∧ _ ∧ _ ∧ _ ∧ _ ∧ _ ∧ _ ∧ _ ∧ _ ∧ _)
    have hpq := HPQ.out hkq
    rw [hpq] at h0 h1 h2 h3 h4 h5 h6 h7 h8 h9 h10 h11
    have hgx := hrowx.lt
    rw [Nat.add_zero] at h0
    go_upto_region 8 with (fail)
    obtain ⟨w7, hw7⟩ : ∃ w7, wx.alloc (.cells #[.int .i64 P.count, .int .i64 P.room, .int .i64 P.gl, .int .i64 P.gh, .int .i64 P.drift, .int .i64 P.into, .int .i64 P.ol, .int .i64 P.oh, .int .i64 P.sl, .int .i64 P.sh, .int .i64 P.goal, .int .i64 P.worth] 46) = w7 := ⟨_, rfl⟩
    have hbP : Blk w7 wx.heap.size #[.int .i64 P.count, .int .i64 P.room, .int .i64 P.gl, .int .i64 P.gh, .int .i64 P.drift, .int .i64 P.into, .int .i64 P.ol, .int .i64 P.oh, .int .i64 P.sl, .int .i64 P.sh, .int .i64 P.goal, .int .i64 P.worth] 46 := by rw [← hw7]; exact Blk.new' rfl _ _
    have hEx7 : Ext wx w7 := by rw [← hw7]; (with_reducible (repeat (first | exact Ext.refl _ | assumption | apply Ext.alloc | apply Ext.drew | exact ext_plus _ _ | (apply Ext.setCell; rotate_left; (simp <;> omega)) | (apply Ext.trans; rotate_left; exact ext_plus _ _) | (apply Ext.trans; rotate_left; assumption))))
    rw [hw7]
    clear hw7 h0 h1 h2 h3 h4 h5 h6 h7 h8 h9 h10 h11 d0 d1
    obtain ⟨bP, hbPe⟩ : ∃ bP, wx.heap.size = bP := ⟨_, rfl⟩
    rw [hbPe] at hbP hgx ⊢
    have hX7 := hbX.ext hEx7
    have hrow7 := hrowx.ext hEx7
    have hXd := hX7.drew
    have hPd := hbP.drew
    refine wp_region_late 20 (fun c y => c = false → (∀ o, y.cell? ⟨bX, o, none⟩ = (reefV r (.slice (some ⟨g, 0, none⟩) r.places.length cap) : Array Value)[o]?) ∧ (∀ o, y.cell? ⟨bP, o, none⟩ = (#[.int .i64 P.count, .int .i64 P.room, .int .i64 P.gl, .int .i64 P.gh, .int .i64 P.drift, .int .i64 P.into, .int .i64 P.ol, .int .i64 P.oh, .int .i64 P.sl, .int .i64 P.sh, .int .i64 P.goal, .int .i64 P.worth] : Array Value)[o]?)) (by kernel_rfl) (fun hL => ?_)
    refine late_early (i := 0) (v := ?_) rfl (by kernel_rfl) (by kernel_rfl) (by kernel_rfl) (by decide) (by kernel_rfl) (fun _ _ _ h => h) hL (Or.inl ⟨by rfl, ?_⟩) (fun _ => ⟨hXd.cell, hPd.cell⟩) (fun hL' => ?_)
    rotate_left
    · intro y hy; have hz := hy rfl; clear hy; obtain ⟨g1, g2⟩ := hz; go_simp; (try with_reducible rfl)
    clear hL; rename Shutb _ _ => hL
    (try simp only [Act.put, List.setIfInBounds_toArray, List.set_cons_zero, List.set_cons_succ])
    refine late_early (i := 1) (v := ?_) rfl (by kernel_rfl) (by kernel_rfl) (by kernel_rfl) (by decide) (by kernel_rfl) (fun _ _ _ h => h) hL (Or.inl ⟨by rfl, ?_⟩) (fun _ => ⟨hXd.cell, hPd.cell⟩) (fun hL' => ?_)
    rotate_left
    · intro y hy; have hz := hy rfl; clear hy; obtain ⟨g1, g2⟩ := hz; go_simp; (try with_reducible rfl)
    clear hL; rename Shutb _ _ => hL
    (try simp only [Act.put, List.setIfInBounds_toArray, List.set_cons_zero, List.set_cons_succ])
    refine late_early (i := 2) (v := ?_) rfl (by kernel_rfl) (by kernel_rfl) (by kernel_rfl) (by decide) (by kernel_rfl) (fun _ _ _ h => h) hL (Or.inl ⟨by rfl, ?_⟩) (fun _ => ⟨hXd.cell, hPd.cell⟩) (fun hL' => ?_)
    rotate_left
    · intro y hy; have hz := hy rfl; clear hy; obtain ⟨g1, g2⟩ := hz; go_simp; (try with_reducible rfl)
    clear hL; rename Shutb _ _ => hL
    (try simp only [Act.put, List.setIfInBounds_toArray, List.set_cons_zero, List.set_cons_succ])
    refine late_early (i := 3) (v := ?_) rfl (by kernel_rfl) (by kernel_rfl) (by kernel_rfl) (by decide) (by kernel_rfl) (fun _ _ _ h => h) hL (Or.inl ⟨by rfl, ?_⟩) (fun _ => ⟨hXd.cell, hPd.cell⟩) (fun hL' => ?_)
    rotate_left
    · intro y hy; have hz := hy rfl; clear hy; obtain ⟨g1, g2⟩ := hz; go_simp; (try with_reducible rfl)
    clear hL; rename Shutb _ _ => hL
    (try simp only [Act.put, List.setIfInBounds_toArray, List.set_cons_zero, List.set_cons_succ])
    refine late_early (i := 4) (v := ?_) rfl (by kernel_rfl) (by kernel_rfl) (by kernel_rfl) (by decide) (by kernel_rfl) (fun _ _ _ h => h) hL (Or.inl ⟨by rfl, ?_⟩) (fun _ => ⟨hXd.cell, hPd.cell⟩) (fun hL' => ?_)
    rotate_left
    · intro y hy; have hz := hy rfl; clear hy; obtain ⟨g1, g2⟩ := hz; go_simp; (try with_reducible rfl)
    clear hL; rename Shutb _ _ => hL
    (try simp only [Act.put, List.setIfInBounds_toArray, List.set_cons_zero, List.set_cons_succ])
    refine late_early (i := 5) (v := ?_) rfl (by kernel_rfl) (by kernel_rfl) (by kernel_rfl) (by decide) (by kernel_rfl) (fun _ _ _ h => h) hL (Or.inl ⟨by rfl, ?_⟩) (fun _ => ⟨hXd.cell, hPd.cell⟩) (fun hL' => ?_)
    rotate_left
    · intro y hy; have hz := hy rfl; clear hy; obtain ⟨g1, g2⟩ := hz; go_simp; (try with_reducible rfl)
    clear hL; rename Shutb _ _ => hL
    (try simp only [Act.put, List.setIfInBounds_toArray, List.set_cons_zero, List.set_cons_succ])
    refine late_early (i := 6) (v := ?_) rfl (by kernel_rfl) (by kernel_rfl) (by kernel_rfl) (by decide) (by kernel_rfl) (fun _ _ _ h => h) hL (Or.inl ⟨by rfl, ?_⟩) (fun _ => ⟨hXd.cell, hPd.cell⟩) (fun hL' => ?_)
    rotate_left
    · intro y hy; have hz := hy rfl; clear hy; obtain ⟨g1, g2⟩ := hz; go_simp; (try with_reducible rfl)
    clear hL; rename Shutb _ _ => hL
    (try simp only [Act.put, List.setIfInBounds_toArray, List.set_cons_zero, List.set_cons_succ])
    refine late_early (i := 7) (v := ?_) rfl (by kernel_rfl) (by kernel_rfl) (by kernel_rfl) (by decide) (by kernel_rfl) (fun _ _ _ h => h) hL (Or.inl ⟨by rfl, ?_⟩) (fun _ => ⟨hXd.cell, hPd.cell⟩) (fun hL' => ?_)
    rotate_left
    · intro y hy; have hz := hy rfl; clear hy; obtain ⟨g1, g2⟩ := hz; go_simp; (try with_reducible rfl)
    clear hL; rename Shutb _ _ => hL
    (try simp only [Act.put, List.setIfInBounds_toArray, List.set_cons_zero, List.set_cons_succ])
    refine late_early (i := 8) (v := ?_) rfl (by kernel_rfl) (by kernel_rfl) (by kernel_rfl) (by decide) (by kernel_rfl) (fun _ _ _ h => h) hL (Or.inl ⟨by rfl, ?_⟩) (fun _ => ⟨hXd.cell, hPd.cell⟩) (fun hL' => ?_)
    rotate_left
    · intro y hy; have hz := hy rfl; clear hy; obtain ⟨g1, g2⟩ := hz; go_simp; (try with_reducible rfl)
    clear hL; rename Shutb _ _ => hL
    (try simp only [Act.put, List.setIfInBounds_toArray, List.set_cons_zero, List.set_cons_succ])
    refine late_early (i := 9) (v := ?_) rfl (by kernel_rfl) (by kernel_rfl) (by kernel_rfl) (by decide) (by kernel_rfl) (fun _ _ _ h => h) hL (Or.inl ⟨by rfl, ?_⟩) (fun _ => ⟨hXd.cell, hPd.cell⟩) (fun hL' => ?_)
    rotate_left
    · intro y hy; have hz := hy rfl; clear hy; obtain ⟨g1, g2⟩ := hz; go_simp; (try with_reducible rfl)
    clear hL; rename Shutb _ _ => hL
    (try simp only [Act.put, List.setIfInBounds_toArray, List.set_cons_zero, List.set_cons_succ])
    refine late_early (i := 10) (v := ?_) rfl (by kernel_rfl) (by kernel_rfl) (by kernel_rfl) (by decide) (by kernel_rfl) (fun _ _ _ h => h) hL (Or.inl ⟨by rfl, ?_⟩) (fun _ => ⟨hXd.cell, hPd.cell⟩) (fun hL' => ?_)
    rotate_left
    · intro y hy; have hz := hy rfl; clear hy; obtain ⟨g1, g2⟩ := hz; go_simp; (try with_reducible rfl)
    clear hL; rename Shutb _ _ => hL
    (try simp only [Act.put, List.setIfInBounds_toArray, List.set_cons_zero, List.set_cons_succ])
    refine late_early (i := 11) (v := ?_) rfl (by kernel_rfl) (by kernel_rfl) (by kernel_rfl) (by decide) (by kernel_rfl) (fun _ _ _ h => h) hL (Or.inl ⟨by rfl, ?_⟩) (fun _ => ⟨hXd.cell, hPd.cell⟩) (fun hL' => ?_)
    rotate_left
    · intro y hy; have hz := hy rfl; clear hy; obtain ⟨g1, g2⟩ := hz; go_simp; (try with_reducible rfl)
    clear hL; rename Shutb _ _ => hL
    (try simp only [Act.put, List.setIfInBounds_toArray, List.set_cons_zero, List.set_cons_succ])
    refine late_early (i := 12) (v := ?_) rfl (by kernel_rfl) (by kernel_rfl) (by kernel_rfl) (by decide) (by kernel_rfl) (fun _ _ _ h => h) hL (Or.inl ⟨by rfl, ?_⟩) (fun _ => ⟨hXd.cell, hPd.cell⟩) (fun hL' => ?_)
    rotate_left
    · intro y hy; have hz := hy rfl; clear hy; obtain ⟨g1, g2⟩ := hz; go_simp; (try with_reducible rfl)
    clear hL; rename Shutb _ _ => hL
    (try simp only [Act.put, List.setIfInBounds_toArray, List.set_cons_zero, List.set_cons_succ])
    refine late_early (i := 13) (v := ?_) rfl (by kernel_rfl) (by kernel_rfl) (by kernel_rfl) (by decide) (by kernel_rfl) (fun _ _ _ h => h) hL (Or.inl ⟨by rfl, ?_⟩) (fun _ => ⟨hXd.cell, hPd.cell⟩) (fun hL' => ?_)
    rotate_left
    · intro y hy; have hz := hy rfl; clear hy; obtain ⟨g1, g2⟩ := hz; go_simp; (try with_reducible rfl)
    clear hL; rename Shutb _ _ => hL
    (try simp only [Act.put, List.setIfInBounds_toArray, List.set_cons_zero, List.set_cons_succ])
    refine late_early (i := 14) (v := ?_) rfl (by kernel_rfl) (by kernel_rfl) (by kernel_rfl) (by decide) (by kernel_rfl) (fun _ _ _ h => h) hL (Or.inl ⟨by rfl, ?_⟩) (fun _ => ⟨hXd.cell, hPd.cell⟩) (fun hL' => ?_)
    rotate_left
    · intro y hy; have hz := hy rfl; clear hy; obtain ⟨g1, g2⟩ := hz; go_simp; (try with_reducible rfl)
    clear hL; rename Shutb _ _ => hL
    (try simp only [Act.put, List.setIfInBounds_toArray, List.set_cons_zero, List.set_cons_succ])
    refine late_early (i := 15) (v := ?_) rfl (by kernel_rfl) (by kernel_rfl) (by kernel_rfl) (by decide) (by kernel_rfl) (fun _ _ _ h => h) hL (Or.inl ⟨by rfl, ?_⟩) (fun _ => ⟨hXd.cell, hPd.cell⟩) (fun hL' => ?_)
    rotate_left
    · intro y hy; have hz := hy rfl; clear hy; obtain ⟨g1, g2⟩ := hz; go_simp; (try with_reducible rfl)
    clear hL; rename Shutb _ _ => hL
    (try simp only [Act.put, List.setIfInBounds_toArray, List.set_cons_zero, List.set_cons_succ])
    refine late_early (i := 16) (v := ?_) rfl (by kernel_rfl) (by kernel_rfl) (by kernel_rfl) (by decide) (by kernel_rfl) (fun _ _ _ h => h) hL (Or.inl ⟨by rfl, ?_⟩) (fun _ => ⟨hXd.cell, hPd.cell⟩) (fun hL' => ?_)
    rotate_left
    · intro y hy; have hz := hy rfl; clear hy; obtain ⟨g1, g2⟩ := hz; go_simp; (try with_reducible rfl)
    clear hL; rename Shutb _ _ => hL
    (try simp only [Act.put, List.setIfInBounds_toArray, List.set_cons_zero, List.set_cons_succ])
    refine late_one (i := 17) (by kernel_rfl) hL (fun hL' => ?_)
    refine wpOp_step rfl (fun K hK0 => ?_)
    have hK : Shut _ := hK0
    clear hK0
    go_simp
    go_wp2_with (first | (go_at_call 38; refine (lspan_any _ _ _).mono ?_; rintro e w8 ⟨rfl, hE8⟩))
    have hX8 := hXd.ext hE8
    have hP8 := hPd.ext hE8
    have hrow8 := RowB.ext (RowB.ext hrow7 ((Ext.refl w7).drew)) hE8
    refine hK.out _ _ ⟨fun _ => ⟨hX8.cell, hP8.cell⟩, ?_⟩
    clear hK K; clear hL; rename Shutb _ _ => hL
    (try simp only [Act.put, List.setIfInBounds_toArray, List.set_cons_zero, List.set_cons_succ])
    have f6 := hrow8.free
    have f7 := hrow8.lt
    refine late_one (i := 18) (by kernel_rfl) hL (fun hL' => ?_)
    refine wpOp_step rfl (fun K hK0 => ?_)
    have hK : Shut _ := hK0
    clear hK0
    go_simp
    refine hK.out _ _ ⟨fun _ => ⟨hX8.cell, hP8.cell⟩, ?_⟩
    clear hK K; clear hL; rename Shutb _ _ => hL
    (try simp only [Act.put, List.setIfInBounds_toArray, List.set_cons_zero, List.set_cons_succ])
    refine late_one (i := 19) (by kernel_rfl) hL (fun hL' => ?_)
    refine wpOp_step rfl (fun K hK0 => ?_)
    have hK : Shut _ := hK0
    clear hK0
    go_simp
    refine hK.out _ _ ⟨fun _ => ⟨hX8.cell, hP8.cell⟩, ?_⟩
    clear hK K; clear hL; rename Shutb _ _ => hL
    (try simp only [Act.put, List.setIfInBounds_toArray, List.set_cons_zero, List.set_cons_succ])
    have x8 := hrow8.cell k hkq 8 _ rfl
    have x9 := hrow8.cell k hkq 9 _ rfl
    rw [hpq] at x8 x9
    refine late_one (i := 20) (by kernel_rfl) hL (fun hL' => ?_)
    refine wpOp_step rfl (fun K hK0 => ?_)
    have hK : Shut _ := hK0
    clear hK0
    go_simp
    refine hK.out _ _ ⟨fun e => absurd (e : true = false) (by decide), ?_⟩
    clear hK K; clear hL; rename Shutb _ _ => hL
    (try simp only [Act.put, List.setIfInBounds_toArray, List.set_cons_zero, List.set_cons_succ])
    refine late_done (by kernel_rfl) ?_
    (try dsimp only [Exit.then])
    have hE78 : Ext w7 w8 := ((Ext.refl w7).drew).trans hE8
    have hz7 := hEx7.size
    have hz8 := hE78.size
    have hz6 := hE6x.size
    have hX9 := (hX8.other (a := ⟨g, k * 12 + 8, none⟩) (by simp; omega) (.int .i64 P.sl)).other (a := ⟨g, k * 12 + 8 + 1, none⟩) (by simp; omega) (.int .i64 P.sh)
    have hP9 := (hP8.other (a := ⟨g, k * 12 + 8, none⟩) (by simp; omega) (.int .i64 P.sl)).other (a := ⟨g, k * 12 + 8 + 1, none⟩) (by simp; omega) (.int .i64 P.sh)
    have hE9 := (((hE1x.trans hE6x).trans (hEx7.trans hE78)).setCell (p := ⟨g, k * 12 + 8, none⟩) (by simp; omega) (.int .i64 P.sl)).setCell (p := ⟨g, k * 12 + 8 + 1, none⟩) (by simp; omega) (.int .i64 P.sh)
    have hE19 := (((hE16.trans hE6x).trans (hEx7.trans hE78)).setCell (p := ⟨g, k * 12 + 8, none⟩) (by simp; omega) (.int .i64 P.sl)).setCell (p := ⟨g, k * 12 + 8 + 1, none⟩) (by simp; omega) (.int .i64 P.sh)
    have hr8 := hrow8.keep (k * 12 + 8) x8
    have x9' := hr8.cell k hkq 9 _ rfl
    rw [hpq] at x9'
    have hrow9 := hr8.keep (k * 12 + 8 + 1) x9'
    obtain ⟨w9, hw9⟩ : ∃ w9, (w8.setCell ⟨g, k * 12 + 8, none⟩ (.int .i64 P.sl)).setCell ⟨g, k * 12 + 8 + 1, none⟩ (.int .i64 P.sh) = w9 := ⟨_, rfl⟩
    rw [hw9] at hX9 hP9 hE9 hE19 hrow9 ⊢
    (try clear hr8 x9')
    clear hw9 f6 f7 x8 x9 hX8 hP8 hrow8 hXd hPd hX7 hrow7 hE8 hE78 hEx7 hE6x hrowx hrow6 hbX hbP hz7 hz8 hz6 hE16 hgx hgl6 hpq
    have d0 := hP9.cell
    have d1 := hP9.lt
    have e0 := hX9.cell
    have e1 := hX9.lt
    go_upto_region 11 with (fail)
    go_cut [15, 17] from 24 to 224 (fun s15 s17 wc => Lists wc s15 Y ∧ s17 = .int .i64 0 ∧ Ext w9 wc)
    case first =>
      go_region_held3 (fun y => (∀ o, y.cell? ⟨bX, o, none⟩ = (reefV r (.slice (some ⟨g, 0, none⟩) r.places.length cap) : Array Value)[o]?) ∧ Ext w9 y)
        (first | exact ⟨blk_of hX9 (by (with_reducible (repeat (first | exact Ext.refl _ | assumption | apply Ext.alloc | apply Ext.drew | exact ext_plus _ _ | (apply Ext.setCell; rotate_left; (simp <;> omega)) | (apply Ext.trans; rotate_left; exact ext_plus _ _) | (apply Ext.trans; rotate_left; assumption))))), by (with_reducible (repeat (first | exact Ext.refl _ | assumption | apply Ext.alloc | apply Ext.drew | exact ext_plus _ _ | (apply Ext.setCell; rotate_left; (simp <;> omega)) | (apply Ext.trans; rotate_left; exact ext_plus _ _) | (apply Ext.trans; rotate_left; assumption))))⟩)
        (first | (go_at_call 27; refine (HEN.out _ _ _ (hrow9.ext (by (with_reducible (repeat (first | exact Ext.refl _ | assumption | apply Ext.alloc | apply Ext.drew | exact ext_plus _ _ | (apply Ext.setCell; rotate_left; (simp <;> omega)) | (apply Ext.trans; rotate_left; exact ext_plus _ _) | (apply Ext.trans; rotate_left; assumption)))))) (hE9.trans (by (with_reducible (repeat (first | exact Ext.refl _ | assumption | apply Ext.alloc | apply Ext.drew | exact ext_plus _ _ | (apply Ext.setCell; rotate_left; (simp <;> omega)) | (apply Ext.trans; rotate_left; exact ext_plus _ _) | (apply Ext.trans; rotate_left; assumption))))))).mono ?_; rintro e y1 ⟨vs', vg', vt', rfl, h1s, h1g, h1t, hy1⟩; have q1 := hy1.cells.1; have q2 := hy1.cells.2; have q3 := hy1.size; (try simp only [size_drew, World.size_alloc] at q1 q2 q3); (try have q7 : w9.heap.size < y1.heap.size := (by omega))) | (go_at_call 18; refine (HPW.out _ _ _ _ _ _ (hrow9.ext (by (with_reducible (repeat (first | exact Ext.refl _ | assumption | apply Ext.alloc | apply Ext.drew | exact ext_plus _ _ | (apply Ext.setCell; rotate_left; (simp <;> omega)) | (apply Ext.trans; rotate_left; exact ext_plus _ _) | (apply Ext.trans; rotate_left; assumption)))))) (hE9.trans (by (with_reducible (repeat (first | exact Ext.refl _ | assumption | apply Ext.alloc | apply Ext.drew | exact ext_plus _ _ | (apply Ext.setCell; rotate_left; (simp <;> omega)) | (apply Ext.trans; rotate_left; exact ext_plus _ _) | (apply Ext.trans; rotate_left; assumption)))))) (h1s.ext (by (with_reducible show Ext _ _; (with_reducible (repeat (first | exact Ext.refl _ | assumption | apply Ext.alloc | apply Ext.drew | exact ext_plus _ _ | (apply Ext.setCell; rotate_left; (simp <;> omega)) | (apply Ext.trans; rotate_left; exact ext_plus _ _) | (apply Ext.trans; rotate_left; assumption)))); done))) (h1g.ext (by (with_reducible show Ext _ _; (with_reducible (repeat (first | exact Ext.refl _ | assumption | apply Ext.alloc | apply Ext.drew | exact ext_plus _ _ | (apply Ext.setCell; rotate_left; (simp <;> omega)) | (apply Ext.trans; rotate_left; exact ext_plus _ _) | (apply Ext.trans; rotate_left; assumption)))); done))) (h1t.ext (by (with_reducible show Ext _ _; (with_reducible (repeat (first | exact Ext.refl _ | assumption | apply Ext.alloc | apply Ext.drew | exact ext_plus _ _ | (apply Ext.setCell; rotate_left; (simp <;> omega)) | (apply Ext.trans; rotate_left; exact ext_plus _ _) | (apply Ext.trans; rotate_left; assumption)))); done)))).mono ?_; rintro e y2 ⟨v2, qa, qb, qc, qd, qe, rfl, h2, hy2⟩; have q4 := hy2.cells.1; have q5 := hy2.cells.2; have q6 := hy2.size; (try simp only [size_drew, World.size_alloc] at q4 q5 q6)))
      all_goals (dsimp only [Exit.then]; go_wp2; go_meet)
      all_goals refine ⟨?_, rfl, ?_⟩
      all_goals first
        | (with_reducible refine ListsF.five h2 ?_ _ _ _ _ _; (try simp only [size_drew, World.size_alloc]); omega)
        | (with_reducible exact h2.lists.ext ((Ext.refl _).alloc _))
        | (with_reducible refine Ext.five ?_ ?_ _ _ _ _ _ <;> first | omega | (with_reducible show Ext _ _; (with_reducible (repeat (first | exact Ext.refl _ | assumption | apply Ext.alloc | apply Ext.drew | exact ext_plus _ _ | (apply Ext.setCell; rotate_left; (simp <;> omega)) | (apply Ext.trans; rotate_left; exact ext_plus _ _) | (apply Ext.trans; rotate_left; assumption)))); done))
        | (with_reducible show Ext _ _; (with_reducible (repeat (first | exact Ext.refl _ | assumption | apply Ext.alloc | apply Ext.drew | exact ext_plus _ _ | (apply Ext.setCell; rotate_left; (simp <;> omega)) | (apply Ext.trans; rotate_left; exact ext_plus _ _) | (apply Ext.trans; rotate_left; assumption)))); done)
    case rest =>
      obtain ⟨hLW, rfl, hE9c⟩ := hcut
      rename World => wc
      obtain ⟨aw, cw, rfl, _⟩ := id hLW
      have HVW := Lib.hid hLW
      clear hLW d0 d1 e0 e1
      have e0 := (hX9.ext hE9c).cell
      have e1 := (hX9.ext hE9c).lt
      go_upto_region 14 with (first | (go_at_call 24; refine (HSB.out _ _ _ _ _ (Or.inr rfl) (by first | exact ⟨hrow9.ext (by (with_reducible (repeat (first | exact Ext.refl _ | assumption | apply Ext.alloc | apply Ext.drew | exact ext_plus _ _ | (apply Ext.setCell; rotate_left; (simp <;> omega)) | (apply Ext.trans; rotate_left; exact ext_plus _ _) | (apply Ext.trans; rotate_left; assumption))))), by (with_reducible (repeat (first | exact Ext.refl _ | assumption | apply Ext.alloc | apply Ext.drew | exact ext_plus _ _ | (apply Ext.setCell; rotate_left; (simp <;> omega)) | (apply Ext.trans; rotate_left; exact ext_plus _ _) | (apply Ext.trans; rotate_left; assumption))))⟩) (by with_reducible exact HVW.out.ext (by (with_reducible (repeat (first | exact Ext.refl _ | assumption | apply Ext.alloc | apply Ext.drew | exact ext_plus _ _ | (apply Ext.setCell; rotate_left; (simp <;> omega)) | (apply Ext.trans; rotate_left; exact ext_plus _ _) | (apply Ext.trans; rotate_left; assumption))))))).mono ?_; rintro e wd ⟨rfl, hbwd⟩))
      have hE9d : Ext w9 wd := hE9c.trans hbwd
      have hEwd := hE9.trans hE9d
      clear e0 e1
      have hvy := HVW.out.ext hbwd
      obtain ⟨aw, cw, ee, hxw⟩ := hvy
      cases ee
      obtain ⟨bY, oY, rfl, hbY, vY, hcY, hvY, _⟩ := hxw qS hqY
      simp only [Nat.mul_one] at hcY
      rw [show Y[qS] = G from HYG.out hqY] at hvY
      obtain ⟨aG, cG, rfl, hxG⟩ := hvY
      have HXG := Lib.hid hxG
      clear hxG hxw hbwd hE9c HVW
      have hpc := plus_cell
      have hrowd := hrow9.ext hE9d
      have hXd := hX9.ext hE9d
      go_wp2
      go_loopw [18, 19] (fun o i wr => ∃ (j : Nat) (b : Bool), j ≤ r.places.length ∧ i = .int .i64 j ∧ o = .bool b ∧ allTo qs G j = b ∧ Ext wd wr) (fun _ i _ => r.places.length - (intOf i).toNat)
      case atStart => exact ⟨0, true, Nat.zero_le _, rfl, rfl, rfl, Ext.refl _⟩
      case round =>
        rename World => wr
        obtain ⟨j, b, hj, rfl, rfl, hab, hEr⟩ := hrel
        have HAB := Lib.hid hab
        clear hab
        have e0 := (hXd.ext hEr).cell
        have e1 := (hXd.ext hEr).lt
        have hrowr := hrowd.ext hEr
        by_cases hlj : j < r.places.length
        · have hjq : j < qs.length := by have := HQL.out; omega
          have hjG : j < G.length := by have := HGL.out; omega
          have has := allTo_succ qs G j hjq hjG
          rw [HAB.out] at has
          have h10 := hrowr.cell j hjq 10 _ rfl
          have hgr := hrowr.lt
          obtain ⟨bG, oG, ee, hbG, hcG⟩ := HXG.out j hjG
          cases ee
          have cG' := (hEr.cells.1 _ _ hbG).trans hcG
          have hbGl := Nat.lt_of_lt_of_le hbG hEr.size
          have cY' := (hEr.cells.1 _ _ hbY).trans hcY
          have hbYl := Nat.lt_of_lt_of_le hbY hEr.size
          obtain ⟨gl, hgl⟩ : ∃ gl, qs[j].goal = gl := ⟨_, rfl⟩
          obtain ⟨x, hx⟩ : ∃ x, G[j] = x := ⟨_, rfl⟩
          have h10' : wr.cell? ⟨g, j * 12 + 10, none⟩ = some (.int .i64 gl) := by rw [← hgl]; exact h10
          rw [hx] at cG' has
          rw [hgl] at has
          have HAS := Lib.hid has
          clear has h10 hcG hgl hx
          cases b with
          | false =>
            go_wp2
            refine wp_region_ext 19 (fun _ _ d _ _ h => by cases d <;> exact h) (by kernel_rfl) (by kernel_rfl) (by kernel_rfl) (by kernel_rfl) ?_
            simp only [List.take_succ_cons, List.take_zero, List.drop_succ_cons, List.drop_zero]
            repeat (any_goals (first | go_big_quiet_step (fail) | quiet_step (fail)))
            all_goals (refine wpQuiet_nil ?_; intro w' hE')
            clear e0 e1 cG' cY' h10'
            go_wp2
            go_roundw
            case rel => exact ⟨j + 1, false, by omega, by go_num, rfl, by rw [HAS.out]; rfl, hEr.trans hE'⟩
            case measure => simp [intOf]; omega
          | true =>
            go_wp2
            refine wp_region_ext 19 (fun _ _ d _ _ h => by cases d <;> exact h) (by kernel_rfl) (by kernel_rfl) (by kernel_rfl) (by kernel_rfl) ?_
            simp only [List.take_succ_cons, List.take_zero, List.drop_succ_cons, List.drop_zero]
            repeat (any_goals (first | go_big_quiet_step (fail) | quiet_step (fail)))
            all_goals (refine wpQuiet_nil ?_; intro w' hE')
            clear e0 e1 cG' cY' h10'
            go_wp2
            go_roundw
            case rel => exact ⟨j + 1, decide (gl ≤ x), by omega, by go_num, (by first | rfl | simp), by rw [HAS.out]; rfl, hEr.trans hE'⟩
            case measure => simp [intOf]; omega
        · obtain rfl : j = r.places.length := by omega
          have hall := HALL.out
          rw [HAB.out] at hall
          subst hall
          go_wp2_with (first | (go_at_call 17; refine (known_any _).mono ?_; rintro e wk ⟨rfl, hbk⟩))
          go_ret
          exact ⟨rfl, ((hEwd.trans hEr).trans hbk)⟩
end Go.Proofs.Ythffoglpekpmdaa
