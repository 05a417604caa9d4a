/- The law ReefLedgers. -/
import Derived.Test.YthffoglpekpmdaaK2
import Derived.Test.YthffoglpekpmdaaD9
import Derived.Test.YthffoglpekpmdaaPl7
import Derived.Test.YthffoglpekpmdaaLate
namespace Go.Proofs.Ythffoglpekpmdaa
set_option linter.unusedVariables false
set_option linter.unusedSimpArgs false
open Go.RowKit
theorem take_sum {l : List Int} {k : Nat} (h : k < l.length) : (l.take (k + 1)).sum = (l.take k).sum + l[k] := by
  rw [List.take_succ_eq_append_getElem h, List.sum_append]; simp
theorem take_sum_bd {l : List Int} (h : ∀ i, 0 ≤ R.iat l i) (k : Nat) : 0 ≤ (l.take k).sum ∧ (l.take k).sum ≤ l.sum := by
  have e : (l.take k).sum + (l.drop k).sum = l.sum := by rw [← List.sum_append, List.take_append_drop]
  have h1 := R.sum_nn (l.take k) (fun i => by
    rcases Nat.lt_or_ge i k with hi | hi
    · have := h i
      unfold R.iat at this ⊢
      rw [List.getD_eq_getElem?_getD, List.getElem?_take, if_pos hi, ← List.getD_eq_getElem?_getD]; exact this
    · rw [R.iat_out _ _ (by simp; omega)]; omega)
  have h2 := R.sum_nn (l.drop k) (fun i => by
    have := h (k + i)
    unfold R.iat at this ⊢
    rw [List.getD_eq_getElem?_getD, List.getElem?_drop, ← List.getD_eq_getElem?_getD]; exact this)
  omega
set_option maxRecDepth 100000 in
set_option maxHeartbeats 16000000 in
theorem reefLedgers_law (r : R.Reef) (vr : Value) (plan : List Int) (vp : Value) (t : R.Truth) (vs vg vt : Value) (w : World) (hP : Places w vr r.places) (hL : Ints w vp plan) (hS : Ints w vs t.starts) (hG : Lists w vg t.grows) (hT : Lists w vt t.takes) :
    Calls Try.prog 4 #[.agg (reefV r vr), vp, .agg (truthV vs vg vt)] w fun e w' => e = .returned (.bool true) ∧ Ext w w' := by
  have hP' := hP
  have hL' := hL
  have hS' := hS
  have hG' := hG
  have hT' := hT
  obtain ⟨a1, c1, rfl, hPx⟩ := hP'
  obtain ⟨a2, c2, rfl, hLx⟩ := hL'
  obtain ⟨a3, c3, rfl, hSx⟩ := hS'
  obtain ⟨a4, c4, rfl, hGx⟩ := hG'
  obtain ⟨a5, c5, rfl, hTx⟩ := hT'
  have HPX := Lib.hid hPx
  have HLX := Lib.hid hLx
  have HSX := Lib.hid hSx
  have HGX := Lib.hid hGx
  have HTX := Lib.hid hTx
  clear hPx hLx hSx hGx hTx
  obtain ⟨w1, hw1⟩ : ∃ w1, ((w.alloc (.cells (reefV r (.slice a1 r.places.length c1)) 24)).alloc (.cells (truthV (.slice a3 t.starts.length c3) (.slice a4 t.grows.length c4) (.slice a5 t.takes.length c5)) 28)) = w1 := ⟨_, rfl⟩
  have hE1 : Ext w w1 := by rw [← hw1]; (with_reducible (repeat (first | exact Ext.refl _ | assumption | apply Ext.alloc | apply Ext.drew | exact ext_plus _ _ | (apply Ext.setCell; rotate_left; (simp <;> omega)) | (apply Ext.trans; rotate_left; exact ext_plus _ _) | (apply Ext.trans; rotate_left; assumption))))
  have hb0 : Blk w1 (w.heap.size) (reefV r (.slice a1 r.places.length c1)) 24 := by rw [← hw1]; exact (Blk.new' rfl _ _).alloc _
  have hb1 : Blk w1 (w.heap.size + 1) (truthV (.slice a3 t.starts.length c3) (.slice a4 t.grows.length c4) (.slice a5 t.takes.length c5)) 28 := by rw [← hw1]; exact Blk.new' (by simp) _ _
  have hbx := fun y (hy : Ext w1 y) => (⟨(hb0.ext hy).cell, (hb1.ext hy).cell, (hb0.ext hy).lt, (hb1.ext hy).lt⟩ : (∀ o, y.cell? ⟨w.heap.size, o, none⟩ = _) ∧ (∀ o, y.cell? ⟨w.heap.size + 1, o, none⟩ = _) ∧ w.heap.size < y.heap.size ∧ w.heap.size + 1 < y.heap.size)
  have HBX := Lib.hid hbx
  have HW1 := Lib.hid hw1
  clear hw1 hb0 hb1 hbx
  have hfr := fun w' (hx : Ext w w') => fair_any r plan t _ _ _ _ _ w' (hP.ext hx) (hL.ext hx) (hS.ext hx) (hG.ext hx) (hT.ext hx)
  cases hfair : fairB r plan t with
  | false =>
    rw [hfair] at hfr
    have HFR := Lib.hid hfr
    clear hfr hfair
    go_enter Try.func4, Try.ntmps4
    go_upto_region 1 with (fail)
    rw [HW1.out]
    obtain ⟨k0, k1, l0, l1⟩ := HBX.out w1 (Ext.refl _)
    go_wp2_with (first | (go_at_call 23; refine (HFR.out _ (by (with_reducible (repeat (first | exact Ext.refl _ | assumption | apply Ext.alloc | apply Ext.drew | exact ext_plus _ _ | (apply Ext.setCell; rotate_left; (simp <;> omega)) | (apply Ext.trans; rotate_left; exact ext_plus _ _) | (apply Ext.trans; rotate_left; assumption)))))).mono ?_; rintro e w2 ⟨rfl, hb2⟩; (try clear k0 k1 l0 l1); obtain ⟨k0, k1, l0, l1⟩ := HBX.out w2 (by (with_reducible (repeat (first | exact Ext.refl _ | assumption | apply Ext.alloc | apply Ext.drew | exact ext_plus _ _ | (apply Ext.setCell; rotate_left; (simp <;> omega)) | (apply Ext.trans; rotate_left; exact ext_plus _ _) | (apply Ext.trans; rotate_left; assumption)))))) | (go_at_call 17; refine (known_any _).mono ?_; rintro e wk ⟨rfl, hbk⟩))
    all_goals
      go_ret
      exact ⟨rfl, by (with_reducible (repeat (first | exact Ext.refl _ | assumption | apply Ext.alloc | apply Ext.drew | exact ext_plus _ _ | (apply Ext.setCell; rotate_left; (simp <;> omega)) | (apply Ext.trans; rotate_left; exact ext_plus _ _) | (apply Ext.trans; rotate_left; assumption))))⟩
  | true =>
    rw [hfair] at hfr
    have HFR := Lib.hid hfr
    obtain ⟨O, OL, T, hA, hB⟩ := fair_bd hfair
    have hsz := hfair
    unfold fairB at hsz
    simp only [Bool.and_eq_true, decide_eq_true_eq] at hsz
    obtain ⟨⟨⟨⟨hsh, hpl⟩, hsz⟩, _⟩, _⟩ := hsz
    obtain ⟨z1, z2, z3, z4, z5⟩ := sized_bd hsz
    have hn4 := O.n4
    have hpla := fun w' (hx : Ext w w') => play_any r plan t _ _ _ _ _ w' (hP.ext hx) (hL.ext hx) (hS.ext hx) (hG.ext hx) (hT.ext hx) (by omega) (by omega) (by omega) (by omega) (by omega) (fun l hl => by have := z4 l hl; omega) (fun l hl => by have := z5 l hl; omega)
    have hpo : playOk r plan t = true := by unfold playOk; rw [hA, hB]; rfl
    have hlf := R.ledger_facts O T
    obtain ⟨S, hS0⟩ := Int.eq_ofNat_of_zero_le (show 0 ≤ r.seasons by have := O.s1; omega)
    have hSn : r.seasons.toNat = S := by omega
    have hS4 : S ≤ 4 := by have := O.s4; omega
    have hS1 : 1 ≤ S := by have := O.s1; omega
    obtain ⟨X, hX⟩ : ∃ X, R.fishOf r t = X := ⟨_, rfl⟩
    have hXl : X.length = S := by rw [← hX, R.fishOf_len, hSn]
    have hXr : ∀ l ∈ X, l.length = r.places.length ∧ ∀ x ∈ l, 0 ≤ x ∧ x ≤ 1000000000 := by
      intro l hl
      rw [← hX] at hl
      obtain ⟨i, hi, rfl⟩ := List.getElem_of_mem hl
      rw [R.fishOf_len] at hi
      have h1 := R.fishOf_row O T (s := i) hi
      rw [R.lat_at (by rw [R.fishOf_len]; exact hi)] at h1
      refine ⟨h1, fun x hx => ?_⟩
      obtain ⟨j, hj, rfl⟩ := List.getElem_of_mem hx
      have h2 := R.fishOf_bd O T (s := i) hi j
      rw [R.lat_at (by rw [R.fishOf_len]; exact hi), R.iat_at hj] at h2
      omega
    obtain ⟨F, hF⟩ : ∃ F, (R.endOf r t).fish = F := ⟨_, rfl⟩
    have hXF : ∀ (h : S - 1 < X.length), X[S - 1] = F := fun h => by
      subst hX hF
      have := R.fishOf_at r t (s := S - 1) (by omega)
      rw [R.lat_at h] at this
      rw [this, Nat.sub_add_cancel hS1]
      unfold R.endOf
      rw [hSn]
    have fine := R.fine_at O T r.seasons.toNat (Nat.le_refl _)
    have fbd := R.fine_bd O T (by omega) fine
    have hFl : F.length = r.places.length := by rw [← hF]; exact fine.len
    have hFn : ∀ i, 0 ≤ R.iat F i := by rw [← hF]; exact fine.nn
    have hFs : F.sum ≤ 28000000 := by rw [← hF]; exact fbd.1
    have hss := R.starts_sum O T
    have hsn := R.starts_nn O T
    obtain ⟨A1, hA1⟩ : ∃ A1 : Nat → Int, A1 = fun k => (t.starts.take k).sum := ⟨_, rfl⟩
    obtain ⟨A3, hA3⟩ : ∃ A3 : Nat → Int, A3 = fun k => (F.take k).sum := ⟨_, rfl⟩
    obtain ⟨T2, hT2⟩ : ∃ T2 : Nat → Nat → Int, T2 = fun k s => R.wantTo t S k s := ⟨_, rfl⟩
    have HA1 := Lib.hid (show A1 0 = 0 ∧ (∀ k, k < r.places.length → (h : k < t.starts.length) → A1 (k + 1) = A1 k + t.starts[k]) ∧ (∀ k, k ≤ r.places.length → 0 ≤ A1 k ∧ A1 k ≤ 12000000) by
      subst hA1
      exact ⟨rfl, fun k _ h => take_sum h, fun k _ => by have := take_sum_bd hsn k; dsimp only; omega⟩)
    have HA3 := Lib.hid (show A3 0 = 0 ∧ (∀ k, k < r.places.length → (h : k < F.length) → A3 (k + 1) = A3 k + F[k]) ∧ (∀ k, k ≤ r.places.length → 0 ≤ A3 k ∧ A3 k ≤ 28000000) by
      subst hA3
      exact ⟨rfl, fun k _ h => take_sum h, fun k _ => by have := take_sum_bd hFn k; dsimp only; omega⟩)
    have htb : ∀ s, s < S → ∀ i, i < r.places.length → 0 ≤ R.iat (R.lat t.takes s) i ∧ R.iat (R.lat t.takes s) i ≤ 1000000 := fun s hs i hi => by
      have h1 := T.take s (by omega) i hi
      have h2 := R.take_bd (O.place i hi) (R.has (R.iat plan s) i)
      omega
    have HT2 := Lib.hid (show T2 0 0 = 0 ∧ (∀ k s, k < r.places.length → s < S → T2 k (s + 1) = T2 k s + R.iat (R.lat t.takes s) k) ∧ (∀ k, k < r.places.length → T2 k S = T2 (k + 1) 0) ∧ (∀ k s, k < r.places.length → s ≤ S → 0 ≤ T2 k s ∧ T2 k s ≤ 100000000) by
      subst hT2
      refine ⟨rfl, fun k s _ _ => R.wantTo_succ t S k s, fun k _ => R.wantTo_next t S k, fun k s hk hs => ?_⟩
      have h1 : ∀ j i, j ≤ S → i < r.places.length → 0 ≤ R.colTo t j i ∧ R.colTo t j i ≤ 4000000 := fun j i hj hi => by
        have := R.sum_range_bd (fun s => R.iat (R.lat t.takes s) i) 1000000 j (fun s hs => htb s (by omega) i hi)
        unfold R.colTo
        omega
      have h2 := R.sum_range_bd (R.colTo t S) 4000000 k (fun i hi => h1 S i (Nat.le_refl _) (by omega))
      have h3 := h1 s k hs hk
      show 0 ≤ R.wantTo t S k s ∧ R.wantTo t S k s ≤ 100000000
      unfold R.wantTo
      omega)
    obtain ⟨led, hled⟩ : ∃ led, R.ledger r t = led := ⟨_, rfl⟩
    rw [hled] at hlf
    simp only [hpo, hled, hX, if_true, show codeOf true = 0 from rfl] at hpla
    obtain ⟨ls, lg, lt, lo, ll⟩ := led
    have HEQ1 := Lib.hid (show A1 r.places.length = ls by
      have := hlf.start
      subst hA1
      dsimp only at this ⊢
      rw [this, ← T.ls, List.take_length])
    have HEQ3 := Lib.hid (show A3 r.places.length = ll by
      have := hlf.left
      subst hA3
      dsimp only at this ⊢
      rw [this, ← hFl, hF, List.take_length])
    have HLF2 := Lib.hid (show 0 ≤ lt ∧ lt ≤ T2 r.places.length 0 ∧ 0 ≤ lo ∧ (0 < lo → R.outTo r r.places.length = true) ∧ 0 ≤ lg ∧ lg ≤ 16000000 ∧ lo ≤ ls + lg ∧ ls + lg = lt + lo + ll ∧ True by
      subst hT2
      refine ⟨hlf.t0, ?_, hlf.g0, hlf.g1, hlf.r0, hlf.r1, hlf.g2, hlf.sum, trivial⟩
      have := hlf.t1
      rw [hSn] at this
      exact this)
    have HBS := Lib.hid (show 0 ≤ ls ∧ ls ≤ 12000000 ∧ 0 ≤ ll ∧ ll ≤ 28000000 by
      have h1 := hlf.start
      have h2 := hlf.left
      dsimp only at h1 h2
      rw [hF] at h2
      have := R.sum_nn F hFn
      omega)
    have hpla2 : ∀ w', Ext w w' → Calls Try.prog 18 #[.agg (reefV r (.slice a1 r.places.length c1)), .slice a2 plan.length c2, .agg (truthV (.slice a3 t.starts.length c3) (.slice a4 t.grows.length c4) (.slice a5 t.takes.length c5))] w' fun x w2 => ∃ v, x = .returned (.tuple #[v, .agg (ledgerV ⟨ls, lg, lt, lo, ll⟩), .int .i64 0]) ∧ Lists w2 v X ∧ Ext w' w2 := fun w' hx => (hpla w' hx).mono fun e w2 ⟨v, h1, h2, h3⟩ => ⟨v, h1, h2.lists, h3⟩
    have hsp := fun w' v (hx : Ext w w') (hv : Lists w' v X) => shaped_any r X _ v w' (hP.ext hx) hv (by omega) (by omega) (by omega) hXr
    have HPL := Lib.hid hpla2
    have HSP := Lib.hid hsp
    have HSS := Lib.hid hS0
    have HLS := Lib.hid T.ls
    have HLF := Lib.hid hFl
    have HLT := Lib.hid (show t.takes.length = S by have := T.lt; omega)
    have HTL := Lib.hid (show ∀ s, s < S → (R.lat t.takes s).length = r.places.length from fun s hs => T.tl s (by omega))
    have HXF0 := Lib.hid hXF
    have HXLN := Lib.hid hXl
    have hsub : r.seasons - 1 = ((S - 1 : Nat) : Int) := by omega
    obtain ⟨qS, hqS⟩ : ∃ qS, S - 1 = qS := ⟨_, rfl⟩
    rw [hqS] at hsub
    have hwq : IntKind.wrap .i64 (qS : Int) = qS := IntWalk.i64_in _ (by omega)
    have hqX : qS < X.length := by omega
    have HQS := Lib.hid hqS
    clear hfr hfair hsz hA hB hpla hpla2 hsp O OL T hpo hlf hSn hX hXl hXr hF hXF fine fbd hFl hFn hFs hss hsn hA1 hA3 hT2 htb hled hS0 z1 z2 z3 z4 z5 hsh hqS
    go_enter Try.func4, Try.ntmps4
    go_upto_region 1 with (fail)
    rw [HW1.out]
    obtain ⟨k0, k1, l0, l1⟩ := HBX.out w1 (Ext.refl _)
    go_upto_region 7 with (first | (go_at_call 23; refine (HFR.out _ (by (with_reducible (repeat (first | exact Ext.refl _ | assumption | apply Ext.alloc | apply Ext.drew | exact ext_plus _ _ | (apply Ext.setCell; rotate_left; (simp <;> omega)) | (apply Ext.trans; rotate_left; exact ext_plus _ _) | (apply Ext.trans; rotate_left; assumption)))))).mono ?_; rintro e w2 ⟨rfl, hb2⟩; (try clear k0 k1 l0 l1); obtain ⟨k0, k1, l0, l1⟩ := HBX.out w2 (by (with_reducible (repeat (first | exact Ext.refl _ | assumption | apply Ext.alloc | apply Ext.drew | exact ext_plus _ _ | (apply Ext.setCell; rotate_left; (simp <;> omega)) | (apply Ext.trans; rotate_left; exact ext_plus _ _) | (apply Ext.trans; rotate_left; assumption)))))) | (go_at_call 18; refine (HPL.out _ (by (with_reducible (repeat (first | exact Ext.refl _ | assumption | apply Ext.alloc | apply Ext.drew | exact ext_plus _ _ | (apply Ext.setCell; rotate_left; (simp <;> omega)) | (apply Ext.trans; rotate_left; exact ext_plus _ _) | (apply Ext.trans; rotate_left; assumption)))))).mono ?_; rintro e w3 ⟨vl, rfl, hvl, hb3⟩; obtain ⟨al, cl, rfl, hxl⟩ := id hvl; have HVL := Lib.hid hvl; have HXL := Lib.hid hxl; clear hvl hxl; have HB8 := Lib.hid (fun (y : World) (hy : Ext (w3.alloc (.cells (ledgerV ⟨ls, lg, lt, lo, ll⟩) 33)) y) => (Blk.ext (Blk.new w3 (ledgerV ⟨ls, lg, lt, lo, ll⟩) 33) hy).cell); (try clear k0 k1 l0 l1); obtain ⟨k0, k1, l0, l1⟩ := HBX.out w3 (by (with_reducible (repeat (first | exact Ext.refl _ | assumption | apply Ext.alloc | apply Ext.drew | exact ext_plus _ _ | (apply Ext.setCell; rotate_left; (simp <;> omega)) | (apply Ext.trans; rotate_left; exact ext_plus _ _) | (apply Ext.trans; rotate_left; assumption)))))) | (go_at_call 24; refine (HSP.out _ _ (by (with_reducible (repeat (first | exact Ext.refl _ | assumption | apply Ext.alloc | apply Ext.drew | exact ext_plus _ _ | (apply Ext.setCell; rotate_left; (simp <;> omega)) | (apply Ext.trans; rotate_left; exact ext_plus _ _) | (apply Ext.trans; rotate_left; assumption))))) (HVL.out.ext (by (with_reducible (repeat (first | exact Ext.refl _ | assumption | apply Ext.alloc | apply Ext.drew | exact ext_plus _ _ | (apply Ext.setCell; rotate_left; (simp <;> omega)) | (apply Ext.trans; rotate_left; exact ext_plus _ _) | (apply Ext.trans; rotate_left; assumption))))))).mono ?_; rintro e w5 ⟨rfl, hb4⟩; (try clear k0 k1 l0 l1); obtain ⟨k0, k1, l0, l1⟩ := HBX.out w5 (by (with_reducible (repeat (first | exact Ext.refl _ | assumption | apply Ext.alloc | apply Ext.drew | exact ext_plus _ _ | (apply Ext.setCell; rotate_left; (simp <;> omega)) | (apply Ext.trans; rotate_left; exact ext_plus _ _) | (apply Ext.trans; rotate_left; assumption))))); (try clear k2); (try have k2 := HB8.out w5 (by (with_reducible (repeat (first | exact Ext.refl _ | assumption | apply Ext.alloc | apply Ext.drew | exact ext_plus _ _ | (apply Ext.setCell; rotate_left; (simp <;> omega)) | (apply Ext.trans; rotate_left; exact ext_plus _ _) | (apply Ext.trans; rotate_left; assumption))))))))
    have hE15 : Ext w1 w5 := by (with_reducible (repeat (first | exact Ext.refl _ | assumption | apply Ext.alloc | apply Ext.drew | exact ext_plus _ _ | (apply Ext.setCell; rotate_left; (simp <;> omega)) | (apply Ext.trans; rotate_left; exact ext_plus _ _) | (apply Ext.trans; rotate_left; assumption))))
    have hE5 : Ext w w5 := hE1.trans hE15
    have hE85 : Ext (w3.alloc (.cells (ledgerV ⟨ls, lg, lt, lo, ll⟩) 33)) w5 := hb4
    have hE35 : Ext w3 w5 := ((Ext.refl w3).alloc _).trans hE85
    obtain ⟨bR, oR, rfl, hbR, vR, hcR, hvR, _⟩ := HXL.out qS hqX
    simp only [Nat.mul_one] at hcR
    rw [show X[qS] = F from by have h := HXF0.out; rw [HQS.out] at h; exact h hqX] at hvR
    obtain ⟨aF, cF, rfl, hxF⟩ := hvR
    have HXF := Lib.hid hxF
    clear hxF hb2 hb3 hb4 k0 k1 k2 l0 l1
    go_wp2
    go_loopw [10, 11, 12, 13, 14, 15] (fun v10 v11 v12 v13 i _ wr => ∃ (k : Nat) (o : Bool), k ≤ r.places.length ∧ i = .int .i64 k ∧ v10 = .int .i64 (A1 k) ∧ v11 = .int .i64 (T2 k 0) ∧ v12 = .int .i64 (A3 k) ∧ v13 = .bool o ∧ R.outTo r k = o ∧ Ext w5 wr) (fun _ _ _ _ i _ _ => r.places.length - (intOf i).toNat)
    case atStart => exact ⟨0, false, Nat.zero_le _, rfl, by rw [HA1.out.1], by rw [HT2.out.1], by rw [HA3.out.1], rfl, rfl, Ext.refl _⟩
    case round =>
      rename World => wr
      obtain ⟨k, o, hk, rfl, rfl, rfl, rfl, rfl, hout, hEr⟩ := hrel
      have HOUT := Lib.hid hout
      clear hout
      have hEw := hE5.trans hEr
      obtain ⟨k0, k1, l0, l1⟩ := HBX.out wr (hE15.trans hEr)
      have k2 := HB8.out wr (hE85.trans hEr)
      by_cases hlt : k < r.places.length
      · obtain ⟨b3, o3, rfl, hb3, hc3⟩ := HSX.out k (by rw [HLS.out]; exact hlt)
        have hk3 : k < t.starts.length := by rw [HLS.out]; exact hlt
        have c3' := (hEw.cells.1 _ _ hb3).trans hc3
        have hb3l := Nat.lt_of_lt_of_le hb3 hEw.size
        obtain ⟨bF, oF, rfl, hbF, hcF⟩ := HXF.out k (by rw [HLF.out]; exact hlt)
        have hkF : k < F.length := by rw [HLF.out]; exact hlt
        have cF' := ((hE35.trans hEr).cells.1 _ _ hbF).trans hcF
        have hbFl := Nat.lt_of_lt_of_le hbF (hE35.trans hEr).size
        have cR' := ((hE35.trans hEr).cells.1 _ _ hbR).trans hcR
        have hbRl := Nat.lt_of_lt_of_le hbR (hE35.trans hEr).size
        have hs1 := HA1.out.2.1 k hlt hk3
        have hs3 := HA3.out.2.1 k hlt hkF
        have hq1 := HA1.out.2.2 (k + 1) hlt
        have hq3 := HA3.out.2.2 (k + 1) hlt
        have hq2 := HA1.out.2.2 k hk
        have hq4 := HA3.out.2.2 k hk
        obtain ⟨x, hx⟩ : ∃ x, t.starts[k] = x := ⟨_, rfl⟩
        obtain ⟨z, hz⟩ : ∃ z, F[k] = z := ⟨_, rfl⟩
        rw [hx] at c3' hs1
        rw [hz] at cF' hs3
        rw [hs1] at hq1
        rw [hs3] at hq3
        have HS1 := Lib.hid hs1
        have HS3 := Lib.hid hs3
        have hw1 : IntKind.wrap .i64 (A1 k + x) = A1 k + x := IntWalk.i64_in _ (by omega)
        have hw3 : IntKind.wrap .i64 (A3 k + z) = A3 k + z := IntWalk.i64_in _ (by omega)
        clear hc3 hcF hs1 hs3 hq1 hq2 hq3 hq4 hx hz
        go_upto_region 10 with (fail)
        have k0d : ∀ o, wr.drew.cell? ⟨w.heap.size, o, none⟩ = _ := k0
        have k1d : ∀ o, wr.drew.cell? ⟨w.heap.size + 1, o, none⟩ = _ := k1
        have c3d : wr.drew.cell? _ = _ := c3'
        have cFd : wr.drew.cell? _ = _ := cF'
        have cRd : wr.drew.cell? _ = _ := cR'
        refine wp_region_late 19 (fun c y => c = false → (∀ o, y.cell? ⟨w.heap.size, o, none⟩ = (reefV r (.slice a1 r.places.length c1) : Array Value)[o]?) ∧ (∀ o, y.cell? ⟨w.heap.size + 1, o, none⟩ = (#[.slice (some ⟨b3, o3, none⟩) t.starts.length c3, .slice a4 t.grows.length c4, .slice a5 t.takes.length c5] : Array Value)[o]?) ∧ y.cell? ⟨b3, o3 + k, none⟩ = some (.int .i64 x) ∧ y.cell? ⟨bR, oR + qS, none⟩ = some (.slice (some ⟨bF, oF, none⟩) F.length cF) ∧ y.cell? ⟨bF, oF + k, none⟩ = some (.int .i64 z)) (by kernel_rfl) (fun hL => ?_)
        refine late_early (i := 0) (v := ?_) rfl (by kernel_rfl) (by kernel_rfl) (by kernel_rfl) (by decide) (by kernel_rfl) (fun _ _ _ h => h) hL (Or.inl ⟨by rfl, ?_⟩) (fun _ => ⟨k0d, k1d, c3d, cRd, cFd⟩) (fun hL' => ?_)
        rotate_left
        · intro y hy; have hz := hy rfl; clear hy; obtain ⟨g1, g2, g3, g4, g5⟩ := hz; go_simp; (try with_reducible rfl)
        clear hL; rename Shutb _ _ => hL
        (try simp only [Act.put, List.setIfInBounds_toArray, List.set_cons_zero, List.set_cons_succ])
        refine late_early (i := 1) (v := ?_) rfl (by kernel_rfl) (by kernel_rfl) (by kernel_rfl) (by decide) (by kernel_rfl) (fun _ _ _ h => h) hL (Or.inl ⟨by rfl, ?_⟩) (fun _ => ⟨k0d, k1d, c3d, cRd, cFd⟩) (fun hL' => ?_)
        rotate_left
        · intro y hy; have hz := hy rfl; clear hy; obtain ⟨g1, g2, g3, g4, g5⟩ := hz; go_simp; (try with_reducible rfl)
        clear hL; rename Shutb _ _ => hL
        (try simp only [Act.put, List.setIfInBounds_toArray, List.set_cons_zero, List.set_cons_succ])
        refine late_early (i := 2) (v := ?_) rfl (by kernel_rfl) (by kernel_rfl) (by kernel_rfl) (by decide) (by kernel_rfl) (fun _ _ _ h => h) hL (Or.inl ⟨by rfl, ?_⟩) (fun _ => ⟨k0d, k1d, c3d, cRd, cFd⟩) (fun hL' => ?_)
        rotate_left
        · intro y hy; have hz := hy rfl; clear hy; obtain ⟨g1, g2, g3, g4, g5⟩ := hz; go_simp; (try with_reducible rfl)
        clear hL; rename Shutb _ _ => hL
        (try simp only [Act.put, List.setIfInBounds_toArray, List.set_cons_zero, List.set_cons_succ])
        refine late_early (i := 3) (v := ?_) rfl (by kernel_rfl) (by kernel_rfl) (by kernel_rfl) (by decide) (by kernel_rfl) (fun _ _ _ h => h) hL (Or.inl ⟨by rfl, ?_⟩) (fun _ => ⟨k0d, k1d, c3d, cRd, cFd⟩) (fun hL' => ?_)
        rotate_left
        · intro y hy; have hz := hy rfl; clear hy; obtain ⟨g1, g2, g3, g4, g5⟩ := hz; go_simp; (try with_reducible rfl)
        clear hL; rename Shutb _ _ => hL
        (try simp only [Act.put, List.setIfInBounds_toArray, List.set_cons_zero, List.set_cons_succ])
        refine late_early (i := 4) (v := ?_) rfl (by kernel_rfl) (by kernel_rfl) (by kernel_rfl) (by decide) (by kernel_rfl) (fun _ _ _ h => h) hL (Or.inl ⟨by rfl, ?_⟩) (fun _ => ⟨k0d, k1d, c3d, cRd, cFd⟩) (fun hL' => ?_)
        rotate_left
        · intro y hy; have hz := hy rfl; clear hy; obtain ⟨g1, g2, g3, g4, g5⟩ := hz; go_simp; (try with_reducible rfl)
        clear hL; rename Shutb _ _ => hL
        (try simp only [Act.put, List.setIfInBounds_toArray, List.set_cons_zero, List.set_cons_succ])
        refine late_early (i := 5) (v := ?_) rfl (by kernel_rfl) (by kernel_rfl) (by kernel_rfl) (by decide) (by kernel_rfl) (fun _ _ _ h => h) hL (Or.inl ⟨by rfl, ?_⟩) (fun _ => ⟨k0d, k1d, c3d, cRd, cFd⟩) (fun hL' => ?_)
        rotate_left
        · intro y hy; have hz := hy rfl; clear hy; obtain ⟨g1, g2, g3, g4, g5⟩ := hz; go_simp; (try with_reducible rfl)
        clear hL; rename Shutb _ _ => hL
        (try simp only [Act.put, List.setIfInBounds_toArray, List.set_cons_zero, List.set_cons_succ])
        refine late_early (i := 6) (v := ?_) rfl (by kernel_rfl) (by kernel_rfl) (by kernel_rfl) (by decide) (by kernel_rfl) (fun _ _ _ h => h) hL (Or.inl ⟨by rfl, ?_⟩) (fun _ => ⟨k0d, k1d, c3d, cRd, cFd⟩) (fun hL' => ?_)
        rotate_left
        · intro y hy; have hz := hy rfl; clear hy; obtain ⟨g1, g2, g3, g4, g5⟩ := hz; go_simp; (try with_reducible rfl)
        clear hL; rename Shutb _ _ => hL
        (try simp only [Act.put, List.setIfInBounds_toArray, List.set_cons_zero, List.set_cons_succ])
        refine late_early (i := 7) (v := ?_) rfl (by kernel_rfl) (by kernel_rfl) (by kernel_rfl) (by decide) (by kernel_rfl) (fun _ _ _ h => h) hL (Or.inl ⟨by rfl, ?_⟩) (fun _ => ⟨k0d, k1d, c3d, cRd, cFd⟩) (fun hL' => ?_)
        rotate_left
        · intro y hy; have hz := hy rfl; clear hy; obtain ⟨g1, g2, g3, g4, g5⟩ := hz; go_simp; (try with_reducible rfl)
        clear hL; rename Shutb _ _ => hL
        (try simp only [Act.put, List.setIfInBounds_toArray, List.set_cons_zero, List.set_cons_succ])
        refine late_early (i := 8) (v := ?_) rfl (by kernel_rfl) (by kernel_rfl) (by kernel_rfl) (by decide) (by kernel_rfl) (fun _ _ _ h => h) hL (Or.inl ⟨by rfl, ?_⟩) (fun _ => ⟨k0d, k1d, c3d, cRd, cFd⟩) (fun hL' => ?_)
        rotate_left
        · intro y hy; have hz := hy rfl; clear hy; obtain ⟨g1, g2, g3, g4, g5⟩ := hz; go_simp; (try with_reducible rfl)
        clear hL; rename Shutb _ _ => hL
        (try simp only [Act.put, List.setIfInBounds_toArray, List.set_cons_zero, List.set_cons_succ])
        refine late_early (i := 9) (v := ?_) rfl (by kernel_rfl) (by kernel_rfl) (by kernel_rfl) (by decide) (by kernel_rfl) (fun _ _ _ h => h) hL (Or.inl ⟨by rfl, ?_⟩) (fun _ => ⟨k0d, k1d, c3d, cRd, cFd⟩) (fun hL' => ?_)
        rotate_left
        · intro y hy; have hz := hy rfl; clear hy; obtain ⟨g1, g2, g3, g4, g5⟩ := hz; go_simp; (try with_reducible rfl)
        clear hL; rename Shutb _ _ => hL
        (try simp only [Act.put, List.setIfInBounds_toArray, List.set_cons_zero, List.set_cons_succ])
        refine late_early (i := 10) (v := ?_) rfl (by kernel_rfl) (by kernel_rfl) (by kernel_rfl) (by decide) (by kernel_rfl) (fun _ _ _ h => h) hL (Or.inl ⟨by rfl, ?_⟩) (fun _ => ⟨k0d, k1d, c3d, cRd, cFd⟩) (fun hL' => ?_)
        rotate_left
        · intro y hy; have hz := hy rfl; clear hy; obtain ⟨g1, g2, g3, g4, g5⟩ := hz; go_simp; (try with_reducible rfl)
        clear hL; rename Shutb _ _ => hL
        (try simp only [Act.put, List.setIfInBounds_toArray, List.set_cons_zero, List.set_cons_succ])
        refine late_early (i := 11) (v := ?_) rfl (by kernel_rfl) (by kernel_rfl) (by kernel_rfl) (by decide) (by kernel_rfl) (fun _ _ _ h => h) hL (Or.inl ⟨by rfl, ?_⟩) (fun _ => ⟨k0d, k1d, c3d, cRd, cFd⟩) (fun hL' => ?_)
        rotate_left
        · intro y hy; have hz := hy rfl; clear hy; obtain ⟨g1, g2, g3, g4, g5⟩ := hz; go_simp; (try with_reducible rfl)
        clear hL; rename Shutb _ _ => hL
        (try simp only [Act.put, List.setIfInBounds_toArray, List.set_cons_zero, List.set_cons_succ])
        refine late_early (i := 12) (v := ?_) rfl (by kernel_rfl) (by kernel_rfl) (by kernel_rfl) (by decide) (by kernel_rfl) (fun _ _ _ h => h) hL (Or.inl ⟨by rfl, ?_⟩) (fun _ => ⟨k0d, k1d, c3d, cRd, cFd⟩) (fun hL' => ?_)
        rotate_left
        · intro y hy; have hz := hy rfl; clear hy; obtain ⟨g1, g2, g3, g4, g5⟩ := hz; go_simp; (try with_reducible rfl)
        clear hL; rename Shutb _ _ => hL
        (try simp only [Act.put, List.setIfInBounds_toArray, List.set_cons_zero, List.set_cons_succ])
        refine late_early (i := 13) (v := ?_) rfl (by kernel_rfl) (by kernel_rfl) (by kernel_rfl) (by decide) (by kernel_rfl) (fun _ _ _ h => h) hL (Or.inl ⟨by rfl, ?_⟩) (fun _ => ⟨k0d, k1d, c3d, cRd, cFd⟩) (fun hL' => ?_)
        rotate_left
        · intro y hy; have hz := hy rfl; clear hy; obtain ⟨g1, g2, g3, g4, g5⟩ := hz; go_simp; (try with_reducible rfl)
        clear hL; rename Shutb _ _ => hL
        (try simp only [Act.put, List.setIfInBounds_toArray, List.set_cons_zero, List.set_cons_succ])
        refine late_early (i := 14) (v := ?_) rfl (by kernel_rfl) (by kernel_rfl) (by kernel_rfl) (by decide) (by kernel_rfl) (fun _ _ _ h => h) hL (Or.inl ⟨by rfl, ?_⟩) (fun _ => ⟨k0d, k1d, c3d, cRd, cFd⟩) (fun hL' => ?_)
        rotate_left
        · intro y hy; have hz := hy rfl; clear hy; obtain ⟨g1, g2, g3, g4, g5⟩ := hz; go_simp; (try with_reducible rfl)
        clear hL; rename Shutb _ _ => hL
        (try simp only [Act.put, List.setIfInBounds_toArray, List.set_cons_zero, List.set_cons_succ])
        refine late_early (i := 15) (v := ?_) rfl (by kernel_rfl) (by kernel_rfl) (by kernel_rfl) (by decide) (by kernel_rfl) (fun _ _ _ h => h) hL (Or.inl ⟨by rfl, ?_⟩) (fun _ => ⟨k0d, k1d, c3d, cRd, cFd⟩) (fun hL' => ?_)
        rotate_left
        · intro y hy; have hz := hy rfl; clear hy; obtain ⟨g1, g2, g3, g4, g5⟩ := hz; go_simp; (try with_reducible rfl)
        clear hL; rename Shutb _ _ => hL
        (try simp only [Act.put, List.setIfInBounds_toArray, List.set_cons_zero, List.set_cons_succ])
        refine late_early (i := 16) (v := ?_) rfl (by kernel_rfl) (by kernel_rfl) (by kernel_rfl) (by decide) (by kernel_rfl) (fun _ _ _ h => h) hL (Or.inl ⟨by rfl, ?_⟩) (fun _ => ⟨k0d, k1d, c3d, cRd, cFd⟩) (fun hL' => ?_)
        rotate_left
        · intro y hy; have hz := hy rfl; clear hy; obtain ⟨g1, g2, g3, g4, g5⟩ := hz; go_simp; (try with_reducible rfl)
        clear hL; rename Shutb _ _ => hL
        (try simp only [Act.put, List.setIfInBounds_toArray, List.set_cons_zero, List.set_cons_succ])
        refine late_early (i := 17) (v := ?_) rfl (by kernel_rfl) (by kernel_rfl) (by kernel_rfl) (by decide) (by kernel_rfl) (fun _ _ _ h => h) hL (Or.inl ⟨by rfl, ?_⟩) (fun _ => ⟨k0d, k1d, c3d, cRd, cFd⟩) (fun hL' => ?_)
        rotate_left
        · intro y hy; have hz := hy rfl; clear hy; obtain ⟨g1, g2, g3, g4, g5⟩ := hz; go_simp; (try with_reducible rfl)
        clear hL; rename Shutb _ _ => hL
        (try simp only [Act.put, List.setIfInBounds_toArray, List.set_cons_zero, List.set_cons_succ])
        refine late_one (i := 18) (by kernel_rfl) hL (fun hL' => ?_)
        refine wpOp_step rfl (fun K hK0 => ?_)
        have hK : Shut _ := hK0
        clear hK0
        go_simp
        refine hK.out _ _ ⟨fun _ => ⟨k0d, k1d, c3d, cRd, cFd⟩, ?_⟩
        clear hK K; clear hL; rename Shutb _ _ => hL
        (try simp only [Act.put, List.setIfInBounds_toArray, List.set_cons_zero, List.set_cons_succ])
        refine late_one (i := 19) (by kernel_rfl) hL (fun hL' => ?_)
        refine wpOp_step rfl (fun K hK0 => ?_)
        have hK : Shut _ := hK0
        clear hK0
        go_simp
        refine hK.out _ _ ⟨fun e => absurd (e : true = false) (by decide), ?_⟩
        clear hK K; clear hL; rename Shutb _ _ => hL
        (try simp only [Act.put, List.setIfInBounds_toArray, List.set_cons_zero, List.set_cons_succ])
        refine late_done (by kernel_rfl) ?_
        (try dsimp only [Exit.then])
        clear k0 k1 k2 l0 l1 c3' cF' cR' k0d k1d c3d cFd cRd
        have hEd : Ext w5 wr.drew := hEr.drew
        obtain ⟨wd, hwd⟩ : ∃ wd, wr.drew = wd := ⟨_, rfl⟩
        rw [hwd] at hEd ⊢
        clear hwd hEr hEw hb3l hbFl hbRl
        have hEdw := hE5.trans hEd
        obtain ⟨k0, k1, l0, l1⟩ := HBX.out wd (hE15.trans hEd)
        obtain ⟨b, off, rfl, hb, hAt⟩ := HPX.out k hlt
        have hAt2 := ate_stays _ _ _ _ _ _ hEdw hb hAt
        obtain ⟨h0, h1, h2, h3, h4, h5, h6, h7, h8, h9, h10, h11⟩ := place_cells hAt2
        have hbl := Nat.lt_of_lt_of_le hb hEdw.size
        have hos := R.outTo_succ r k
        rw [HOUT.out, R.pat_at hlt] at hos
        obtain ⟨D, hD⟩ : ∃ D, r.places[k].drift = D := ⟨_, rfl⟩
        obtain ⟨I, hI⟩ : ∃ I, r.places[k].into = I := ⟨_, rfl⟩
        rw [hD] at h4 hos
        rw [hI] at h5 hos
        have HOS := Lib.hid hos
        clear hAt hAt2 h0 h1 h2 h3 h6 h7 h8 h9 h10 h11 hos hD hI
        cases o with
        | true =>
          go_wp2
          go_loopw [11, 15] (fun v11 j wx => ∃ s : Nat, s ≤ S ∧ j = .int .i64 s ∧ v11 = .int .i64 (T2 k s) ∧ Ext wd wx) (fun _ j _ => S - (intOf j).toNat)
          case atStart => exact ⟨0, Nat.zero_le _, rfl, rfl, Ext.refl _⟩
          case round =>
            rename World => wx
            obtain ⟨s, hs, rfl, rfl, hEx⟩ := hrel
            have hExw := hEdw.trans hEx
            (try clear k0 k1 l0 l1 h4 h5)
            obtain ⟨k0, k1, l0, l1⟩ := HBX.out wx ((hE15.trans hEd).trans hEx)
            by_cases hls : s < S
            · have hls' : (s : Int) < r.seasons := by have := HSS.out; omega
              obtain ⟨b5, o5, rfl, hb5, v5, h05, hv5, _⟩ := HTX.out s (by have := HLT.out; omega)
              have hs5 : s < t.takes.length := by have := HLT.out; omega
              simp only [Nat.mul_one] at h05
              have u5 := (hExw.cells.1 _ _ hb5).trans h05
              have hb5l := Nat.lt_of_lt_of_le hb5 hExw.size
              have htl := HTL.out s hls
              rw [R.lat_at hs5] at htl
              have hst := HT2.out.2.1 k s hlt hls
              rw [R.lat_at hs5] at hst
              have hq := HT2.out.2.2.2 k s hlt hs
              have hq2 := HT2.out.2.2.2 k (s + 1) hlt hls
              obtain ⟨x5, hx5⟩ : ∃ x5, t.takes[s] = x5 := ⟨_, rfl⟩
              rw [hx5] at hv5 htl hst
              obtain ⟨a6, c6, rfl, hx6⟩ := hv5
              have hk6 : k < x5.length := by omega
              obtain ⟨b6, o6, rfl, hb6, hc6⟩ := hx6 k hk6
              have c6' := (hExw.cells.1 _ _ hb6).trans hc6
              have hb6l := Nat.lt_of_lt_of_le hb6 hExw.size
              rw [R.iat_at hk6] at hst
              obtain ⟨y, hy⟩ : ∃ y, x5[k] = y := ⟨_, rfl⟩
              rw [hy] at c6' hst
              rw [hst] at hq2
              have HST := Lib.hid hst
              have hw2 : IntKind.wrap .i64 (T2 k s + y) = T2 k s + y := IntWalk.i64_in _ (by omega)
              clear h05 hx6 hc6 hst hq hq2 hy hx5 htl
              go_wp2
              go_roundw
              case rel => exact ⟨s + 1, by omega, by go_num, by rw [HST.out], hEx⟩
              case measure => simp [intOf]; omega
            · obtain rfl : s = S := by omega
              have hls' : ¬ (s : Int) < r.seasons := by have := HSS.out; omega
              go_wp2
              go_roundw
              case rel => exact ⟨k + 1, true, by omega, by go_num, by rw [HS1.out], by rw [HT2.out.2.2.1 k hlt], by rw [HS3.out], rfl, by rw [HOS.out]; rfl, hEd.trans hEx⟩
              case measure => simp [intOf]; omega
        | false =>
          by_cases hI0 : I < 0
          · by_cases hD0 : 0 < D
            · go_wp2
              go_loopw [11, 15] (fun v11 j wx => ∃ s : Nat, s ≤ S ∧ j = .int .i64 s ∧ v11 = .int .i64 (T2 k s) ∧ Ext wd wx) (fun _ j _ => S - (intOf j).toNat)
              case atStart => exact ⟨0, Nat.zero_le _, rfl, rfl, Ext.refl _⟩
              case round =>
                rename World => wx
                obtain ⟨s, hs, rfl, rfl, hEx⟩ := hrel
                have hExw := hEdw.trans hEx
                (try clear k0 k1 l0 l1 h4 h5)
                obtain ⟨k0, k1, l0, l1⟩ := HBX.out wx ((hE15.trans hEd).trans hEx)
                by_cases hls : s < S
                · have hls' : (s : Int) < r.seasons := by have := HSS.out; omega
                  obtain ⟨b5, o5, rfl, hb5, v5, h05, hv5, _⟩ := HTX.out s (by have := HLT.out; omega)
                  have hs5 : s < t.takes.length := by have := HLT.out; omega
                  simp only [Nat.mul_one] at h05
                  have u5 := (hExw.cells.1 _ _ hb5).trans h05
                  have hb5l := Nat.lt_of_lt_of_le hb5 hExw.size
                  have htl := HTL.out s hls
                  rw [R.lat_at hs5] at htl
                  have hst := HT2.out.2.1 k s hlt hls
                  rw [R.lat_at hs5] at hst
                  have hq := HT2.out.2.2.2 k s hlt hs
                  have hq2 := HT2.out.2.2.2 k (s + 1) hlt hls
                  obtain ⟨x5, hx5⟩ : ∃ x5, t.takes[s] = x5 := ⟨_, rfl⟩
                  rw [hx5] at hv5 htl hst
                  obtain ⟨a6, c6, rfl, hx6⟩ := hv5
                  have hk6 : k < x5.length := by omega
                  obtain ⟨b6, o6, rfl, hb6, hc6⟩ := hx6 k hk6
                  have c6' := (hExw.cells.1 _ _ hb6).trans hc6
                  have hb6l := Nat.lt_of_lt_of_le hb6 hExw.size
                  rw [R.iat_at hk6] at hst
                  obtain ⟨y, hy⟩ : ∃ y, x5[k] = y := ⟨_, rfl⟩
                  rw [hy] at c6' hst
                  rw [hst] at hq2
                  have HST := Lib.hid hst
                  have hw2 : IntKind.wrap .i64 (T2 k s + y) = T2 k s + y := IntWalk.i64_in _ (by omega)
                  clear h05 hx6 hc6 hst hq hq2 hy hx5 htl
                  go_wp2
                  go_roundw
                  case rel => exact ⟨s + 1, by omega, by go_num, by rw [HST.out], hEx⟩
                  case measure => simp [intOf]; omega
                · obtain rfl : s = S := by omega
                  have hls' : ¬ (s : Int) < r.seasons := by have := HSS.out; omega
                  go_wp2
                  go_roundw
                  case rel => exact ⟨k + 1, true, by omega, by go_num, by rw [HS1.out], by rw [HT2.out.2.2.1 k hlt], by rw [HS3.out], rfl, by rw [HOS.out]; simp [hI0, hD0], hEd.trans hEx⟩
                  case measure => simp [intOf]; omega
            · go_wp2
              go_loopw [11, 15] (fun v11 j wx => ∃ s : Nat, s ≤ S ∧ j = .int .i64 s ∧ v11 = .int .i64 (T2 k s) ∧ Ext wd wx) (fun _ j _ => S - (intOf j).toNat)
              case atStart => exact ⟨0, Nat.zero_le _, rfl, rfl, Ext.refl _⟩
              case round =>
                rename World => wx
                obtain ⟨s, hs, rfl, rfl, hEx⟩ := hrel
                have hExw := hEdw.trans hEx
                (try clear k0 k1 l0 l1 h4 h5)
                obtain ⟨k0, k1, l0, l1⟩ := HBX.out wx ((hE15.trans hEd).trans hEx)
                by_cases hls : s < S
                · have hls' : (s : Int) < r.seasons := by have := HSS.out; omega
                  obtain ⟨b5, o5, rfl, hb5, v5, h05, hv5, _⟩ := HTX.out s (by have := HLT.out; omega)
                  have hs5 : s < t.takes.length := by have := HLT.out; omega
                  simp only [Nat.mul_one] at h05
                  have u5 := (hExw.cells.1 _ _ hb5).trans h05
                  have hb5l := Nat.lt_of_lt_of_le hb5 hExw.size
                  have htl := HTL.out s hls
                  rw [R.lat_at hs5] at htl
                  have hst := HT2.out.2.1 k s hlt hls
                  rw [R.lat_at hs5] at hst
                  have hq := HT2.out.2.2.2 k s hlt hs
                  have hq2 := HT2.out.2.2.2 k (s + 1) hlt hls
                  obtain ⟨x5, hx5⟩ : ∃ x5, t.takes[s] = x5 := ⟨_, rfl⟩
                  rw [hx5] at hv5 htl hst
                  obtain ⟨a6, c6, rfl, hx6⟩ := hv5
                  have hk6 : k < x5.length := by omega
                  obtain ⟨b6, o6, rfl, hb6, hc6⟩ := hx6 k hk6
                  have c6' := (hExw.cells.1 _ _ hb6).trans hc6
                  have hb6l := Nat.lt_of_lt_of_le hb6 hExw.size
                  rw [R.iat_at hk6] at hst
                  obtain ⟨y, hy⟩ : ∃ y, x5[k] = y := ⟨_, rfl⟩
                  rw [hy] at c6' hst
                  rw [hst] at hq2
                  have HST := Lib.hid hst
                  have hw2 : IntKind.wrap .i64 (T2 k s + y) = T2 k s + y := IntWalk.i64_in _ (by omega)
                  clear h05 hx6 hc6 hst hq hq2 hy hx5 htl
                  go_wp2
                  go_roundw
                  case rel => exact ⟨s + 1, by omega, by go_num, by rw [HST.out], hEx⟩
                  case measure => simp [intOf]; omega
                · obtain rfl : s = S := by omega
                  have hls' : ¬ (s : Int) < r.seasons := by have := HSS.out; omega
                  go_wp2
                  go_roundw
                  case rel => exact ⟨k + 1, false, by omega, by go_num, by rw [HS1.out], by rw [HT2.out.2.2.1 k hlt], by rw [HS3.out], rfl, by rw [HOS.out]; simp; omega, hEd.trans hEx⟩
                  case measure => simp [intOf]; omega
          · go_wp2
            go_loopw [11, 15] (fun v11 j wx => ∃ s : Nat, s ≤ S ∧ j = .int .i64 s ∧ v11 = .int .i64 (T2 k s) ∧ Ext wd wx) (fun _ j _ => S - (intOf j).toNat)
            case atStart => exact ⟨0, Nat.zero_le _, rfl, rfl, Ext.refl _⟩
            case round =>
              rename World => wx
              obtain ⟨s, hs, rfl, rfl, hEx⟩ := hrel
              have hExw := hEdw.trans hEx
              (try clear k0 k1 l0 l1 h4 h5)
              obtain ⟨k0, k1, l0, l1⟩ := HBX.out wx ((hE15.trans hEd).trans hEx)
              by_cases hls : s < S
              · have hls' : (s : Int) < r.seasons := by have := HSS.out; omega
                obtain ⟨b5, o5, rfl, hb5, v5, h05, hv5, _⟩ := HTX.out s (by have := HLT.out; omega)
                have hs5 : s < t.takes.length := by have := HLT.out; omega
                simp only [Nat.mul_one] at h05
                have u5 := (hExw.cells.1 _ _ hb5).trans h05
                have hb5l := Nat.lt_of_lt_of_le hb5 hExw.size
                have htl := HTL.out s hls
                rw [R.lat_at hs5] at htl
                have hst := HT2.out.2.1 k s hlt hls
                rw [R.lat_at hs5] at hst
                have hq := HT2.out.2.2.2 k s hlt hs
                have hq2 := HT2.out.2.2.2 k (s + 1) hlt hls
                obtain ⟨x5, hx5⟩ : ∃ x5, t.takes[s] = x5 := ⟨_, rfl⟩
                rw [hx5] at hv5 htl hst
                obtain ⟨a6, c6, rfl, hx6⟩ := hv5
                have hk6 : k < x5.length := by omega
                obtain ⟨b6, o6, rfl, hb6, hc6⟩ := hx6 k hk6
                have c6' := (hExw.cells.1 _ _ hb6).trans hc6
                have hb6l := Nat.lt_of_lt_of_le hb6 hExw.size
                rw [R.iat_at hk6] at hst
                obtain ⟨y, hy⟩ : ∃ y, x5[k] = y := ⟨_, rfl⟩
                rw [hy] at c6' hst
                rw [hst] at hq2
                have HST := Lib.hid hst
                have hw2 : IntKind.wrap .i64 (T2 k s + y) = T2 k s + y := IntWalk.i64_in _ (by omega)
                clear h05 hx6 hc6 hst hq hq2 hy hx5 htl
                go_wp2
                go_roundw
                case rel => exact ⟨s + 1, by omega, by go_num, by rw [HST.out], hEx⟩
                case measure => simp [intOf]; omega
              · obtain rfl : s = S := by omega
                have hls' : ¬ (s : Int) < r.seasons := by have := HSS.out; omega
                go_wp2
                go_roundw
                case rel => exact ⟨k + 1, false, by omega, by go_num, by rw [HS1.out], by rw [HT2.out.2.2.1 k hlt], by rw [HS3.out], rfl, by rw [HOS.out]; simp; omega, hEd.trans hEx⟩
                case measure => simp [intOf]; omega
      · obtain rfl : k = r.places.length := by omega
        rw [HEQ1.out, HEQ3.out]
        have hou := HOUT.out
        have hf := HLF2.out
        obtain ⟨f1, f2, f3, f4, f5, f6, f7, f8, f9⟩ := hf
        obtain ⟨tk, htk⟩ : ∃ tk, T2 r.places.length 0 = tk := ⟨_, rfl⟩
        rw [htk] at f2 ⊢
        rw [hou] at f4
        have n1 : (ls != ls) = false := by simp
        have n3 : (ll != ll) = false := by simp
        have g1 : ¬ lt < 0 := by omega
        have g2 : ¬ tk < lt := by omega
        have g3 : ¬ lo < 0 := by omega
        have g4 : ¬ lg < 0 := by omega
        have g5 : ¬ 16000000 < lg := by omega
        have hbs := HBS.out
        have w1s : IntKind.wrap .i64 (ls + lg) = ls + lg := IntWalk.i64_in _ (by omega)
        have w2s : IntKind.wrap .i64 (lt + lo) = lt + lo := IntWalk.i64_in _ (by omega)
        have w3s : IntKind.wrap .i64 (lt + lo + ll) = lt + lo + ll := IntWalk.i64_in _ (by omega)
        have g6 : ¬ ls + lg < lo := by omega
        have g7 : (ls + lg == lt + lo + ll) = true := by simp; omega
        have hE9 : Ext w wr := hEw
        by_cases hlo : 0 < lo
        · obtain rfl := f4 hlo
          clear f1 f2 f3 f4 f5 f6 f7 f8 f9 hbs hou htk HOUT
          go_wp2_with (first | (go_at_call 17; refine (known_any _).mono ?_; rintro e wk ⟨rfl, hbk⟩))
          go_ret
          exact ⟨rfl, by (with_reducible (repeat (first | exact Ext.refl _ | assumption | apply Ext.alloc | apply Ext.drew | exact ext_plus _ _ | (apply Ext.setCell; rotate_left; (simp <;> omega)) | (apply Ext.trans; rotate_left; exact ext_plus _ _) | (apply Ext.trans; rotate_left; assumption))))⟩
        · clear f1 f2 f3 f4 f5 f6 f7 f8 f9 hbs hou htk HOUT
          go_wp2_with (first | (go_at_call 17; refine (known_any _).mono ?_; rintro e wk ⟨rfl, hbk⟩))
          go_ret
          exact ⟨rfl, by (with_reducible (repeat (first | exact Ext.refl _ | assumption | apply Ext.alloc | apply Ext.drew | exact ext_plus _ _ | (apply Ext.setCell; rotate_left; (simp <;> omega)) | (apply Ext.trans; rotate_left; exact ext_plus _ _) | (apply Ext.trans; rotate_left; assumption))))⟩
end Go.Proofs.Ythffoglpekpmdaa
