/- The fish are taken. -/
import Derived.Test.YthffoglpekpmdaaF2
namespace Go.Proofs.Ythffoglpekpmdaa
set_option linter.unusedVariables false
set_option linter.unusedSimpArgs false
open Go.RowKit
set_option maxRecDepth 100000 in
set_option maxHeartbeats 8000000 in
theorem taken_any (r : R.Reef) (t : R.Truth) (s : Nat) (fish : List Int) (a b c d e : Int) (vp vl vs vg vt : Value) (w0 w : World) (bF g cap : Nat) (h0 : Ext w0 w) (hb0 : w0.heap.size ≤ bF) (hg0 : w0.heap.size ≤ g) (hne : g ≠ bF)
    (hP : Places w0 vp r.places) (hG : Lists w0 vt t.takes) (hs : s < t.takes.length) (hlg : t.takes[s].length = r.places.length) (hfl : fish.length = r.places.length) (hn4 : r.places.length ≤ 4)
    (hgr : ∀ i, i < r.places.length → 0 ≤ R.iat t.takes[s] i ∧ R.iat t.takes[s] i ≤ 1000000) (hf : ∀ i, 0 ≤ R.iat fish i) (hfs : fish.sum ≤ 1000000000) (hc : 0 ≤ c ∧ c ≤ 1000000000)
    (hF : Blk w bF (folV r vp vl vs vg vt s (.slice (some ⟨g, 0, none⟩) r.places.length cap) a b c d e) 107) (hR : IRow w g fish) :
    Calls Try.prog 79 #[.pointer (some ⟨bF, 0, none⟩)] w fun x w' => x = .returned (.tuple #[]) ∧ Blk w' bF (folV r vp vl vs vg vt s (.slice (some ⟨g, 0, none⟩) r.places.length cap) a b (R.takeTo t.takes[s] (fish, c) r.places.length).2 d e) 107 ∧
      IRow w' g (R.takeTo t.takes[s] (fish, c) r.places.length).1 ∧ Off bF g w w' := by
  obtain ⟨a1, c1, rfl, _⟩ := hP
  obtain ⟨a4, c4, rfl, hx4⟩ := hG
  obtain ⟨b4, off4, rfl, hb4, v4, h04, hv4, _⟩ := hx4 s hs
  obtain ⟨gs, hgs⟩ : ∃ gs, t.takes[s] = gs := ⟨_, rfl⟩
  rw [hgs] at hv4 hlg hgr ⊢
  obtain ⟨a6, c6, rfl, hx6⟩ := hv4
  have HX6 := Lib.hid hx6
  have HINV := Lib.hid (fun k hk => R.takeTo_inv (ks := gs) (fish := fish) (g0 := c) hf (fun i hi => (hgr i (by omega)).1) k hk)
  have HFL := Lib.hid hfl
  have HGR := Lib.hid hgr
  rw [hlg] at h04
  have HLG := Lib.hid hlg
  simp only [Nat.mul_one] at h04
  clear hx4 hx6 hgs hfl hgr hlg hf
  have f0 := hF.cell
  have f1 := hF.lt
  go_enter Try.func79, Try.ntmps79
  go_wp2
  go_loopw [2, 3, 11] (fun _ _ i wr => ∃ (k : Nat) (st : R.St), k ≤ r.places.length ∧ i = .int .i64 k ∧ R.takeTo gs (fish, c) k = st ∧ Blk wr bF (folV r (.slice a1 r.places.length c1) vl vs vg (.slice (some ⟨b4, off4, none⟩) t.takes.length c4) s (.slice (some ⟨g, 0, none⟩) r.places.length cap) a b st.2 d e) 107 ∧ IRow wr g st.1 ∧ Off bF g w wr)
    (fun _ _ i _ => r.places.length - (intOf i).toNat)
  case atStart => exact ⟨0, _, Nat.zero_le _, rfl, rfl, hF, hR, Off.refl _ _ _⟩
  case round =>
    rename World => wr
    obtain ⟨k, st, hk, rfl, hst, hBF, hRow, hOff⟩ := hrel
    have hinv := HINV.out k (by have := HFL.out; omega)
    rw [hst] at hinv
    have HST := Lib.hid hst
    have hE : Ext w0 wr := hOff.ext0 h0 hb0 hg0
    have d0 := hBF.cell
    have d1 := hBF.free
    have d2 := hBF.lt
    clear hst f0 f1
    by_cases hlt : k < r.places.length
    · have hkg : k < gs.length := by have := HLG.out; omega
      have hks : k < st.1.length := by have := HFL.out; rw [hinv.len]; omega
      obtain ⟨b6, off6, rfl, hb6, h06⟩ := HX6.out k hkg
      have u6 := (hE.cells.1 _ _ hb6).trans h06
      have u4 := (hE.cells.1 _ _ hb4).trans h04
      have q6 : b6 < wr.heap.size := Nat.lt_of_lt_of_le hb6 hE.size
      have q4 : b4 < wr.heap.size := Nat.lt_of_lt_of_le hb4 hE.size
      have r0 := IRow.get hRow k hks
      have r2 := RowB.lt hRow
      have hgk := HGR.out k hlt
      have hnn := hinv.nn k
      have hsn := R.sum_nn st.1 hinv.nn
      have hle := R.iat_le_sum st.1 k hinv.nn
      have hlo := hinv.lo
      have hsum := hinv.sum
      have hsu := R.takeTo_succ gs (fish, c) k
      rw [HST.out] at hsu
      unfold R.takeStep at hsu
      rw [iat_of hks] at hnn hsu hle
      rw [iat_of hkg] at hgk hsu
      clear h06
      obtain ⟨f, hff⟩ : ∃ f, st.1[k] = f := ⟨_, rfl⟩
      obtain ⟨G, hGG⟩ : ∃ G, gs[k] = G := ⟨_, rfl⟩
      rw [hff] at r0 hnn hsu hle
      rw [hGG] at u6 hgk hsu
      have HFF := Lib.hid hff
      clear hff hGG
      have hpc := plus_cell
      obtain ⟨X, hX⟩ : ∃ X, R.caught f G = X := ⟨_, rfl⟩
      have hX' := hX
      unfold R.caught at hX'
      rw [hX] at hsu
      have hmin : min f G = X := by rw [← hX']; split <;> omega
      have hXb : 0 ≤ X ∧ X ≤ f := by rw [← hmin]; omega
      have HSU := Lib.hid hsu
      have HMIN := Lib.hid hmin
      clear hsu hX hX' hmin
      go_upto_region 3 with (fail)
      refine wp_region_ext 23 (fun _ _ d _ _ h => by cases d <;> exact h) (by kernel_rfl) (by kernel_rfl) (by kernel_rfl) (by kernel_rfl) ?_
      simp only [List.take_succ_cons, List.take_zero, List.drop_succ_cons, List.drop_zero]
      repeat (any_goals (first | go_big_quiet_step (fail) | quiet_step (fail)))
      all_goals (refine wpQuiet_nil ?_; intro w' hE')
      unfold wpList
      rw [HMIN.out]
      have hwm : IntKind.wrap .i64 (f - X) = f - X := IntWalk.i64_in _ (by omega)
      have hBF1 := hBF.ext hE'
      have hRow1 := RowB.ext hRow hE'
      have hOff1 := hOff.ext hE'
      have s0 := IRow.get hRow1 k hks
      rw [HFF.out] at s0
      have s1 := RowB.free hRow1 k
      have s2 := RowB.lt hRow1
      have s3 := hBF1.cell
      have s4 := hBF1.lt
      clear r0 r2 d0 d1 d2 u4 u6 q4 q6 hpc
      go_upto_region 5 with (fail)
      obtain ⟨w2, hw2⟩ : ∃ w2, w'.setCell ⟨g, k, none⟩ (.int .i64 (f - X)) = w2 := ⟨_, rfl⟩
      have hBF2 := hBF1.other (a := ⟨g, k, none⟩) hne (.int .i64 (f - X))
      have hRow2 := IRow.set hRow1 k hks (f - X)
      have hOff2 := hOff1.set (a := ⟨g, k, none⟩) (.inr (.inl rfl)) (.int .i64 (f - X))
      rw [hw2] at hBF2 hRow2 hOff2 ⊢
      clear hw2 s0 s1 s2 s3 s4
      have s3 := hBF2.cell
      have s4 := hBF2.lt
      have s5 := hBF2.free
      have hwn : IntKind.wrap .i64 (st.2 + X) = st.2 + X := IntWalk.i64_in _ (by omega)
      go_wp2_with (first | (go_at_call 76; refine (sum_any _ [st.2, X] _ (two_sum _ _ _) (by simp) (two_bd _ _ (by omega) (by omega) (by omega) (by omega))).mono ?_; rintro e w'' ⟨rfl, rfl⟩))
      go_roundw
      case rel => exact ⟨k + 1, _, by omega, by go_num, HSU.out, (hBF2.set 11 (.int .i64 (st.2 + X))).alloc _, RowB.ext (RowB.other hRow2 (a := ⟨bF, 11, none⟩) (fun e => hne e.symm) _) ((Ext.refl _).alloc _), (hOff2.set (a := ⟨bF, 11, none⟩) (.inl rfl) _).alloc _⟩
      case measure => simp [intOf]; omega
    · obtain rfl : k = r.places.length := by omega
      go_wp2
      go_end0
      rw [HST.out]
      exact ⟨rfl, hBF, hRow, hOff⟩
end Go.Proofs.Ythffoglpekpmdaa
