/- The fish grow. -/
import Derived.Test.YthffoglpekpmdaaOff
import Derived.Test.YthffoglpekpmdaaC4
import Derived.Test.YthffoglpekpmdaaPl3
namespace Go.Proofs.Ythffoglpekpmdaa
set_option linter.unusedVariables false
set_option linter.unusedSimpArgs false
open Go.RowKit
/-- The followed reef. -/
abbrev folV (r : R.Reef) (vp vl vs vg vt : Value) (s : Int) (vf : Value) (a b c d e : Int) : Array Value :=
  #[vp, .int .i64 r.miss, .int .i64 r.seasons, vl, vs, vg, vt, .int .i64 s, vf, .int .i64 a, .int .i64 b, .int .i64 c, .int .i64 d, .int .i64 e]
theorem two_sum (w : World) (x y : Int) : Ints (w.alloc (.cells #[.int .i64 x, .int .i64 y] 3)) (.slice (some ⟨w.heap.size, 0, none⟩) 2 2) [x, y] := by
  have hB := (Blk.new w #[.int .i64 x, .int .i64 y] 3)
  refine ⟨_, _, rfl, fun i hi => ⟨w.heap.size, 0, rfl, hB.lt, ?_⟩⟩
  rw [hB.cell, Nat.zero_add]
  have hi2 : i < 2 := hi
  match i, hi2 with
  | 0, _ => rfl
  | 1, _ => rfl
theorem two_bd (x y : Int) (h1 : 0 ≤ x) (h2 : x ≤ 100000000000) (h3 : 0 ≤ y) (h4 : y ≤ 100000000000) : ∀ k, k ≤ [x, y].length → -1000000000000000 ≤ ([x, y].take k).sum ∧ ([x, y].take k).sum ≤ 1000000000000000 := by
  intro k hk
  match k, hk with
  | 0, _ => simp
  | 1, _ => simp; omega
  | 2, _ => simp; omega
set_option maxRecDepth 100000 in
set_option maxHeartbeats 8000000 in
theorem grows_any (r : R.Reef) (t : R.Truth) (s : Nat) (fish : List Int) (a b c d e : Int) (vp vl vs vg vt : Value) (w0 w : World) (bF g cap : Nat) (h0 : Ext w0 w) (hb0 : w0.heap.size ≤ bF) (hg0 : w0.heap.size ≤ g) (hne : g ≠ bF)
    (hP : Places w0 vp r.places) (hG : Lists w0 vg t.grows) (hs : s < t.grows.length) (hlg : t.grows[s].length = r.places.length) (hfl : fish.length = r.places.length) (hn4 : r.places.length ≤ 4)
    (O : ∀ i, i < r.places.length → R.OkP (R.pat r.places i) i r.places.length) (hgr : ∀ i, i < r.places.length → 0 ≤ R.iat t.grows[s] i ∧ R.iat t.grows[s] i ≤ 2000) (hf : ∀ i, 0 ≤ R.iat fish i) (hb : 0 ≤ b ∧ b ≤ 1000000000)
    (hF : Blk w bF (folV r vp vl vs vg vt s (.slice (some ⟨g, 0, none⟩) r.places.length cap) a b c d e) 107) (hR : IRow w g fish) :
    Calls Try.prog 77 #[.pointer (some ⟨bF, 0, none⟩)] w fun x w' => x = .returned (.tuple #[]) ∧ Blk w' bF (folV r vp vl vs vg vt s (.slice (some ⟨g, 0, none⟩) r.places.length cap) a (R.growTo r.places t.grows[s] (fish, b) r.places.length).2 c d e) 107 ∧
      IRow w' g (R.growTo r.places t.grows[s] (fish, b) r.places.length).1 ∧ Off bF g w w' := by
  obtain ⟨a1, c1, rfl, hx1⟩ := hP
  obtain ⟨a4, c4, rfl, hx4⟩ := hG
  have HX1 := Lib.hid hx1
  obtain ⟨b4, off4, rfl, hb4, v4, h04, hv4, _⟩ := hx4 s hs
  obtain ⟨gs, hgs⟩ : ∃ gs, t.grows[s] = gs := ⟨_, rfl⟩
  rw [hgs] at hv4 hlg hgr ⊢
  obtain ⟨a6, c6, rfl, hx6⟩ := hv4
  have HX6 := Lib.hid hx6
  have HINV := Lib.hid (fun k hk => R.growTo_inv (ps := r.places) (gs := gs) (fish := fish) (g0 := b) hfl hf O (fun i hi => (hgr i hi).1) k hk)
  have HFL := Lib.hid hfl
  have HGR := Lib.hid hgr
  rw [hlg] at h04
  have HLG := Lib.hid hlg
  have HO := Lib.hid O
  simp only [Nat.mul_one] at h04
  clear hx1 hx4 hx6 hgs hfl hgr hlg hf O
  have f0 := hF.cell
  have f1 := hF.lt
  go_enter Try.func77, Try.ntmps77
  go_wp2
  go_loopw [2, 3, 4, 5, 13] (fun _ _ _ _ i wr => ∃ (k : Nat) (st : R.St), k ≤ r.places.length ∧ i = .int .i64 k ∧ R.growTo r.places gs (fish, b) k = st ∧ Blk wr bF (folV r (.slice a1 r.places.length c1) vl vs (.slice (some ⟨b4, off4, none⟩) t.grows.length c4) vt s (.slice (some ⟨g, 0, none⟩) r.places.length cap) a st.2 c d e) 107 ∧ IRow wr g st.1 ∧ Off bF g w wr)
    (fun _ _ _ _ i _ => r.places.length - (intOf i).toNat)
  case atStart => exact ⟨0, _, Nat.zero_le _, rfl, rfl, hF, hR, Off.refl _ _ _⟩
  case round =>
    rename World => wr
    obtain ⟨k, st, hk, rfl, hst, hBF, hRow, hOff⟩ := hrel
    have hinv := HINV.out k hk
    rw [hst] at hinv
    have HST := Lib.hid hst
    have hE : Ext w0 wr := hOff.ext0 h0 hb0 hg0
    have d0 := hBF.cell
    have d1 := hBF.free
    have d2 := hBF.lt
    clear hst f0 f1
    by_cases hlt : k < r.places.length
    · obtain ⟨b1, off1, rfl, hb1, hAt⟩ := HX1.out k hlt
      have hkg : k < gs.length := by have := HLG.out; omega
      have hks : k < st.1.length := by have := HFL.out; rw [hinv.len]; omega
      obtain ⟨b6, off6, rfl, hb6, h06⟩ := HX6.out k hkg
      have u6 := (hE.cells.1 _ _ hb6).trans h06
      have u4 := (hE.cells.1 _ _ hb4).trans h04
      obtain ⟨p0, p1, p2, p3, p4, p5, p6, p7, p8, p9, p10, p11⟩ := place_cells (ate_stays _ _ _ _ _ _ hE hb1 hAt)
      have q6 : b6 < wr.heap.size := Nat.lt_of_lt_of_le hb6 hE.size
      have q4 : b4 < wr.heap.size := Nat.lt_of_lt_of_le hb4 hE.size
      have r0 := hRow.get k hks
      have r1 := hRow.free k
      have r2 := hRow.lt
      have hok := HO.out k hlt
      have hgk := HGR.out k hlt
      have hnn := hinv.nn k
      have hlo := hinv.lo
      have hhi := hinv.hi
      have hsu := R.growTo_succ r.places gs (fish, b) k
      rw [HST.out] at hsu
      unfold R.growStep at hsu
      have hgb := R.grown_bd hok hnn hgk.1
      rw [pat_of hlt] at hok hsu hgb
      rw [iat_of hks] at hnn hsu hgb
      rw [iat_of hkg] at hgk hsu hgb
      clear hAt h06
      obtain ⟨p, hp⟩ : ∃ p, r.places[k] = p := ⟨_, rfl⟩
      obtain ⟨f, hff⟩ : ∃ f, st.1[k] = f := ⟨_, rfl⟩
      obtain ⟨G, hGG⟩ : ∃ G, gs[k] = G := ⟨_, rfl⟩
      rw [hp] at p0 p1 p2 p3 p4 p5 p6 p7 p8 p9 p10 p11 hok hsu hgb
      rw [hff] at r0 hnn hsu hgb
      rw [hGG] at u6 hgk hsu hgb
      have o0 := hok.r0
      have o1 := hok.r1
      have HSELF := Lib.hid (show st.1.set k f = st.1 by rw [← hff]; exact List.set_getElem_self hks)
      have HFF := Lib.hid hff
      clear hp hff hGG hok
      have hpc := plus_cell
      by_cases hge : p.room ≤ f
      · have hz : R.grown p f G = 0 := by unfold R.grown; rw [if_pos hge]
        rw [hz, Int.add_zero, Int.add_zero] at hsu
        have HSU := Lib.hid hsu
        clear hsu hz hgb
        go_wp2
        go_roundw
        case rel => exact ⟨k + 1, st, by omega, by go_num, by rw [HSU.out, HSELF.out], hBF.alloc _, hRow.ext ((Ext.refl _).alloc _), hOff.alloc _⟩
        case measure => simp [intOf]; omega
      · have hm : 0 ≤ f * G ∧ f * G ≤ 2000000000 := ⟨Int.mul_nonneg hnn hgk.1, by have := Int.mul_le_mul (show f ≤ 1000000 by omega) hgk.2 hgk.1 (by omega); omega⟩
        obtain ⟨M, hM⟩ : ∃ M, f * G = M := ⟨_, rfl⟩
        obtain ⟨X, hX⟩ : ∃ X, R.grown p f G = X := ⟨_, rfl⟩
        have hX' := hX
        unfold R.grown at hX'
        rw [if_neg hge, hM] at hX'
        rw [hX] at hsu hgb
        rw [hM] at hm
        have HSU := Lib.hid hsu
        clear hsu hX
        have hfr : f + X ≤ 1000000 := by split at hX' <;> omega
        go_upto_region 5 with (fail)
        refine wp_region_ext 23 (fun _ _ d _ _ h => by cases d <;> exact h) (by kernel_rfl) (by kernel_rfl) (by kernel_rfl) (by kernel_rfl) ?_
        simp only [List.take_succ_cons, List.take_zero, List.drop_succ_cons, List.drop_zero]
        repeat (any_goals (first | go_big_quiet_step (fail) | quiet_step (fail)))
        all_goals (refine wpQuiet_nil ?_; intro w' hE')
        unfold wpList
        have hmin : min (M / 1000) (p.room - f) = X := by rw [← hX']; split <;> omega
        rw [hmin]
        have hwm : IntKind.wrap .i64 (f + X) = f + X := IntWalk.i64_in _ (by omega)
        have hEr : Ext wr w' := ((Ext.refl _).alloc _).trans hE'
        have hBF1 := hBF.ext hEr
        have hRow1 := hRow.ext hEr
        have hOff1 := hOff.ext hEr
        have s0 := IRow.get hRow1 k hks
        rw [HFF.out] at s0
        have s1 := RowB.free hRow1 k
        have s2 := RowB.lt hRow1
        have s3 := hBF1.cell
        have s4 := hBF1.lt
        clear r0 r1 r2 d0 d1 d2 u4 u6 q4 q6 p0 p1 p2 p3 p4 p5 p6 p7 p8 p9 p10 p11 hpc hmin hM hX'
        go_upto_region 7 with (fail)
        obtain ⟨w2, hw2⟩ : ∃ w2, w'.setCell ⟨g, k, none⟩ (.int .i64 (f + X)) = w2 := ⟨_, rfl⟩
        have hBF2 := hBF1.other (a := ⟨g, k, none⟩) hne (.int .i64 (f + X))
        have hRow2 := IRow.set hRow1 k hks (f + X)
        have hOff2 := hOff1.set (a := ⟨g, k, none⟩) (.inr (.inl rfl)) (.int .i64 (f + X))
        rw [hw2] at hBF2 hRow2 hOff2 ⊢
        clear hw2 s0 s1 s2 s3 s4
        have s3 := hBF2.cell
        have s4 := hBF2.lt
        have s5 := hBF2.free
        have hwn : IntKind.wrap .i64 (st.2 + X) = st.2 + X := IntWalk.i64_in _ (by omega)
        go_wp2_with (first | (go_at_call 76; refine (sum_any _ [st.2, X] _ (two_sum _ _ _) (by simp) (two_bd _ _ (by omega) (by omega) (by omega) (by omega))).mono ?_; rintro e w'' ⟨rfl, rfl⟩))
        go_roundw
        case rel => exact ⟨k + 1, _, by omega, by go_num, HSU.out, (hBF2.set 10 (.int .i64 (st.2 + X))).alloc _, RowB.ext (RowB.other hRow2 (a := ⟨bF, 10, none⟩) (fun e => hne e.symm) _) ((Ext.refl _).alloc _), (hOff2.set (a := ⟨bF, 10, none⟩) (.inl rfl) _).alloc _⟩
        case measure => simp [intOf]; omega
    · obtain rfl : k = r.places.length := by omega
      go_wp2
      go_end0
      rw [HST.out]
      exact ⟨rfl, hBF, hRow, hOff⟩
end Go.Proofs.Ythffoglpekpmdaa
