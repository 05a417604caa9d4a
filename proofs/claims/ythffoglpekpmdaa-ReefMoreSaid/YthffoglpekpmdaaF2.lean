/- The fish drift. -/
import Derived.Test.YthffoglpekpmdaaF1
namespace Go.Proofs.Ythffoglpekpmdaa
set_option linter.unusedVariables false
set_option linter.unusedSimpArgs false
open Go.RowKit
theorem RowB.off {α : Type} {f : α → List Value} {k : Nat} {e : TypeId} {b g c : Nat} {w w' : World} {xs : List α} (h : RowB f k e w c xs) (ho : Off b g w w') (h1 : c ≠ b) (h2 : c ≠ g) : RowB f k e w' c xs := h.move (ho.block c h.lt h1 h2)
set_option maxRecDepth 100000 in
set_option maxHeartbeats 8000000 in
theorem drifts_any (r : R.Reef) (s : Int) (fish : List Int) (a b c d e : Int) (vp vl vs vg vt : Value) (w0 w : World) (bF g cap : Nat) (h0 : Ext w0 w) (hb0 : w0.heap.size ≤ bF) (hg0 : w0.heap.size ≤ g) (hne : g ≠ bF)
    (hP : Places w0 vp r.places) (hfl : fish.length = r.places.length) (hn1 : 1 ≤ r.places.length) (hn4 : r.places.length ≤ 4)
    (O : ∀ i, i < r.places.length → R.OkP (R.pat r.places i) i r.places.length) (hf : ∀ i, 0 ≤ R.iat fish i) (hfs : fish.sum ≤ 1000000000) (hd : 0 ≤ d ∧ d ≤ 1000000000)
    (hF : Blk w bF (folV r vp vl vs vg vt s (.slice (some ⟨g, 0, none⟩) r.places.length cap) a b c d e) 107) (hR : IRow w g fish) :
    Calls Try.prog 78 #[.pointer (some ⟨bF, 0, none⟩)] w fun x w' => x = .returned (.tuple #[]) ∧ Blk w' bF (folV r vp vl vs vg vt s (.slice (some ⟨g, 0, none⟩) r.places.length cap) a b c (R.driftTo r.places fish (fish, d) r.places.length).2 e) 107 ∧
      IRow w' g (R.driftTo r.places fish (fish, d) r.places.length).1 ∧ Off bF g w w' := by
  obtain ⟨a1, c1, rfl, hx1⟩ := hP
  have HX1 := Lib.hid hx1
  have HINV := Lib.hid (fun k hk => R.driftTo_inv (ps := r.places) (now := fish) (g0 := d) hfl hf O k hk)
  have HFL := Lib.hid hfl
  have HO := Lib.hid O
  have HF0 := Lib.hid hf
  have HFB := Lib.hid (fun i => R.iat_le_sum fish i hf)
  have hcl := fun w' hx => clone_ints (.slice (some ⟨g, 0, none⟩) r.places.length cap) fish w' (IRow.ints (RowB.ext hR hx) hfl.symm cap) (by omega)
  have HCL := Lib.hid hcl
  clear hx1 hfl hf O hcl
  have f0 := hF.cell
  have f1 := hF.lt
  go_enter Try.func78, Try.ntmps78
  go_upto_region 1 with (first | (go_at_call 60; refine (HCL.out _ (Ext.refl _)).mono ?_; rintro x w1 ⟨v2, rfl, hown, hE1⟩))
  clear HCL
  have hfl0 : 0 < fish.length := by have := HFL.out; omega
  obtain ⟨g2, cap2, rfl, hg2, hg2l⟩ := own_pos hown hfl0
  have hnow := IRow.of_own hown
  have hF1 := hF.ext hE1
  have hR1 := RowB.ext hR hE1
  have hbl := hF.lt
  have hgl := hR.lt
  have f0 := hF1.cell
  have f1 := hF1.lt
  have HLE := Lib.hid HFL.out
  obtain ⟨ln, hln⟩ : ∃ ln, fish.length = ln := ⟨_, rfl⟩
  have e2 : ln = r.places.length := by rw [← hln]; exact HFL.out
  rw [hln, e2]
  clear hown hln e2 f0 f1
  have f0 := hF1.cell
  have f1 := hF1.lt
  go_wp2
  go_loopw [3, 4, 5, 18] (fun _ _ _ i wr => ∃ (k : Nat) (st : R.St), k ≤ r.places.length ∧ i = .int .i64 k ∧ R.driftTo r.places fish (fish, d) k = st ∧ Blk wr bF (folV r (.slice a1 r.places.length c1) vl vs vg vt s (.slice (some ⟨g, 0, none⟩) r.places.length cap) a b c st.2 e) 107 ∧ IRow wr g st.1 ∧ IRow wr g2 fish ∧ Off bF g w wr)
    (fun _ _ _ i _ => r.places.length - (intOf i).toNat)
  case atStart => exact ⟨0, _, Nat.zero_le _, rfl, rfl, hF1, hR1, hnow, hE1.off _ _⟩
  case round =>
    rename World => wr
    obtain ⟨k, st, hk, rfl, hst, hBF, hRow, hNow, hOff⟩ := hrel
    have hinv := HINV.out k hk
    rw [hst] at hinv
    have HST := Lib.hid hst
    have hE : Ext w0 wr := hOff.ext0 h0 hb0 hg0
    have d0 := hBF.cell
    have d2 := hBF.lt
    clear hst f0 f1
    by_cases hlt : k < r.places.length
    · obtain ⟨b1, off1, rfl, hb1, hAt⟩ := HX1.out k hlt
      have hkf : k < fish.length := by have := HFL.out; omega
      have hks : k < st.1.length := by rw [hinv.len]; exact hkf
      obtain ⟨p0, p1, p2, p3, p4, p5, p6, p7, p8, p9, p10, p11⟩ := place_cells (ate_stays _ _ _ _ _ _ hE hb1 hAt)
      have r0 := IRow.get hNow k hkf
      have r2 := RowB.lt hNow
      have hok := HO.out k hlt
      have hfb := HFB.out k
      have hf0 := HF0.out k
      have hsum := hinv.sum
      have hlo := hinv.lo
      have hnn := hinv.nn
      have hle := fun i => R.iat_le_sum st.1 i hnn
      have hmo := hinv.more k (Nat.le_refl _)
      have hsu := R.driftTo_succ r.places fish (fish, d) k
      rw [HST.out] at hsu
      unfold R.driftStep at hsu
      dsimp only at hsu
      have hgb := R.goes_bd hok hf0
      have HNN := Lib.hid hnn
      have HLE2 := Lib.hid hle
      have hsn := R.sum_nn st.1 hnn
      have hl1 := hle k
      rw [pat_of hlt] at hok hsu hgb
      rw [iat_of hks] at hsu hmo hl1
      rw [iat_of hkf] at hf0 hfb hsu hgb hmo
      clear hAt hnn hle
      obtain ⟨p, hp⟩ : ∃ p, r.places[k] = p := ⟨_, rfl⟩
      obtain ⟨f, hff⟩ : ∃ f, fish[k] = f := ⟨_, rfl⟩
      obtain ⟨G, hGG⟩ : ∃ G, st.1[k] = G := ⟨_, rfl⟩
      rw [hp] at p0 p1 p2 p3 p4 p5 p6 p7 p8 p9 p10 p11 hok hsu hgb
      rw [hff] at r0 hf0 hfb hsu hgb hmo
      rw [hGG] at hsu hmo hl1
      have HGG := Lib.hid hGG
      clear hp hff hGG
      have hpc := plus_cell
      have hm : 0 ≤ f * p.drift ∧ f * p.drift ≤ 1000000000000 := ⟨Int.mul_nonneg hf0 hok.d0, by have := Int.mul_le_mul (show f ≤ 1000000000 by omega) hok.d1 hok.d0 (by omega); omega⟩
      obtain ⟨X, hX⟩ : ∃ X, R.goes p f = X := ⟨_, rfl⟩
      have hX' := hX
      unfold R.goes at hX'
      rw [hX] at hsu hgb
      obtain ⟨M, hM⟩ : ∃ M, f * p.drift = M := ⟨_, rfl⟩
      rw [hM] at hm hX'
      have hX2 : M / 1000 = X := hX'
      have i0 := hok.i0
      have i1 := hok.i1
      have i2 := hok.i2
      have HSU := Lib.hid hsu
      clear hX hX' hsu hok
      go_upto_region 4 with (fail)
      refine wp_region_ext 9 (fun _ _ d _ _ h => by cases d <;> exact h) (by kernel_rfl) (by kernel_rfl) (by kernel_rfl) (by kernel_rfl) ?_
      simp only [List.take_succ_cons, List.take_zero, List.drop_succ_cons, List.drop_zero]
      repeat (any_goals (first | go_big_quiet_step (fail) | quiet_step (fail)))
      all_goals (refine wpQuiet_nil ?_; intro w' hE')
      unfold wpList
      rw [hX2]
      have hwm : IntKind.wrap .i64 (G - X) = G - X := IntWalk.i64_in _ (by omega)
      have hEr : Ext wr w' := ((Ext.refl _).alloc _).trans hE'
      have hBF1 := hBF.ext hEr
      have hRow1 := RowB.ext hRow hEr
      have hNow1 := RowB.ext hNow hEr
      have hOff1 := hOff.ext hEr
      have hbp : Blk w' wr.heap.size (placeV p) 46 := Blk.ext (Blk.new' rfl _ _) hE'
      have hwz := hOff.size
      have s0 := IRow.get hRow1 k hks
      rw [HGG.out] at s0
      have s1 := RowB.free hRow1 k
      have s2 := RowB.lt hRow1
      have s3 := hBF1.cell
      have s4 := hBF1.lt
      have e1 : bF ≠ wr.heap.size := by omega
      have e2 : g ≠ wr.heap.size := by omega
      clear r0 r2 d0 d2 p0 p1 p2 p3 p4 p5 p6 p7 p8 p9 p10 p11 hpc hM hX2 hm
      go_upto_region 6 with (fail)
      obtain ⟨w2, hw2⟩ : ∃ w2, w'.setCell ⟨g, k, none⟩ (.int .i64 (G - X)) = w2 := ⟨_, rfl⟩
      have hBF2 := hBF1.other (a := ⟨g, k, none⟩) hne (.int .i64 (G - X))
      have hbp2 := hbp.other (a := ⟨g, k, none⟩) e2 (.int .i64 (G - X))
      have hRow2 := IRow.set hRow1 k hks (G - X)
      have hNow2 := RowB.other hNow1 (a := ⟨g, k, none⟩) (by simp; omega) (.int .i64 (G - X))
      have hOff2 := hOff1.set (a := ⟨g, k, none⟩) (.inr (.inl rfl)) (.int .i64 (G - X))
      rw [hw2] at hBF2 hRow2 hOff2 hbp2 hNow2 ⊢
      clear hw2 s0 s1 s2 s3 s4 hwm
      have s3 := hBF2.cell
      have s4 := hBF2.lt
      have s5 := hbp2.cell
      have s6 := hbp2.lt
      have hpc := plus_cell
      by_cases hin : 0 ≤ p.into
      · obtain ⟨j, hj⟩ := Int.eq_ofNat_of_zero_le hin
        have hsu := HSU.out
        rw [if_pos hin, hj, Int.toNat_natCast] at hsu
        have hjl : j < (st.1.set k (G - X)).length := by rw [List.length_set, hinv.len]; have := HFL.out; omega
        have hjk : k ≠ j := by omega
        have t0 := IRow.get hRow2 j hjl
        have ey : (st.1.set k (G - X))[j] = R.iat st.1 j := by rw [List.getElem_set, if_neg hjk, iat_of (by simpa using hjl)]
        have hy0 := HNN.out j
        have hy1 := HLE2.out j
        rw [iat_of hjl] at hsu
        rw [ey] at t0 hsu
        obtain ⟨y, hy⟩ : ∃ y, R.iat st.1 j = y := ⟨_, rfl⟩
        rw [hy] at t0 hsu hy0 hy1
        have HSU2 := Lib.hid hsu
        have hwn : IntKind.wrap .i64 (y + X) = y + X := IntWalk.i64_in _ (by omega)
        have t1 := RowB.free hRow2 j
        have t2 := RowB.lt hRow2
        clear hsu hy ey HSU
        have hjn : j < r.places.length := by omega
        go_upto_region 7 with (fail)
        refine wp_region_ext 11 (fun _ _ d _ _ h => by cases d <;> exact h) (by kernel_rfl) (by kernel_rfl) (by kernel_rfl) (by kernel_rfl) ?_
        simp only [List.take_succ_cons, List.take_zero, List.drop_succ_cons, List.drop_zero]
        repeat (any_goals (first | go_big_quiet_step (fail) | quiet_step (fail)))
        all_goals (refine wpQuiet_nil ?_; intro w3 hE3)
        have t3 := hE3.cells.1
        have t4 := hE3.cells.2
        go_wp2
        go_roundw
        case rel => exact ⟨k + 1, _, by omega, by go_num, HSU2.out, (hBF2.ext hE3).other (a := ⟨g, j, none⟩) hne _, IRow.set (RowB.ext hRow2 hE3) j hjl (y + X), RowB.other (RowB.ext hNow2 hE3) (a := ⟨g, j, none⟩) (by simp; omega) _, (hOff2.ext hE3).set (a := ⟨g, j, none⟩) (.inr (.inl rfl)) _⟩
        case measure => simp [intOf]; omega
      · have hsu := HSU.out
        rw [if_neg hin] at hsu
        have HSU2 := Lib.hid hsu
        clear hsu HSU
        have hwn : IntKind.wrap .i64 (st.2 + X) = st.2 + X := IntWalk.i64_in _ (by omega)
        have s7 := hBF2.free
        go_wp2_with (first | (go_at_call 76; refine (sum_any _ [st.2, X] _ (two_sum _ _ _) (by simp) (two_bd _ _ (by omega) (by omega) (by omega) (by omega))).mono ?_; rintro e w'' ⟨rfl, rfl⟩))
        go_roundw
        case rel => exact ⟨k + 1, _, by omega, by go_num, HSU2.out, (hBF2.set 12 (.int .i64 (st.2 + X))).alloc _, RowB.ext (RowB.other hRow2 (a := ⟨bF, 12, none⟩) (fun e => hne e.symm) _) ((Ext.refl _).alloc _), RowB.ext (RowB.other hNow2 (a := ⟨bF, 12, none⟩) (by simp; omega) _) ((Ext.refl _).alloc _), (hOff2.set (a := ⟨bF, 12, none⟩) (.inl rfl) _).alloc _⟩
        case measure => simp [intOf]; omega
    · obtain rfl : k = r.places.length := by omega
      go_wp2
      go_end0
      rw [HST.out]
      exact ⟨rfl, hBF, hRow, hOff⟩
end Go.Proofs.Ythffoglpekpmdaa
