/- The document's Stocks and Short. -/
import Derived.Test.YthffoglpekpmdaaD10
import Derived.Test.YthffoglpekpmdaaD5
import Derived.Test.YthffoglpekpmdaaG7
namespace Go.Proofs.Ythffoglpekpmdaa
set_option linter.unusedVariables false
set_option linter.unusedSimpArgs false
open Go.RowKit
theorem drun_any' (r : R.Reef) (plan : List Int) (t : R.Truth) (vp vs vg vt : Value) (w : World) (hP : Places w vp r.places) (hS : Ints w vs t.starts) (hG : Lists w vg t.grows) (hT : Lists w vt t.takes)
    (O : R.OkR r) (T : R.OkT r plan t) :
    Calls Try.prog 21 #[.agg (reefV r vp), .agg (truthV vs vg vt)] w fun x w' => ∃ v a b c d e, x = .returned (.tuple #[v, .agg #[.int .i64 a, .int .i64 b, .int .i64 c, .int .i64 d, .int .i64 e]]) ∧ ListsF w.heap.size w' v (R.fishOf r t) ∧ Ext w w' :=
  (drun_any r plan t vp vs vg vt w hP hS hG hT O T).mono fun _ _ ⟨v, h1, h2, h3⟩ => ⟨v, _, _, _, _, _, h1, h2, h3⟩
set_option maxRecDepth 100000 in
set_option maxHeartbeats 16000000 in
theorem dstocks_any (r : R.Reef) (plan : List Int) (vp vl : Value) (w : World) (hP : Places w vp r.places) (hPl : Ints w vl plan) (O : R.OkR r) (OL : R.OkL r plan) :
    Calls Try.prog 46 #[.agg (reefV r vp), vl] w fun x w' => ∃ v, x = .returned v ∧ SpanRows w' v (R.stocks r plan) ∧ Ext w w' := by
  have hP' := hP
  have hL' := hPl
  obtain ⟨a1, c1, rfl, _⟩ := hP'
  obtain ⟨a2, c2, rfl, _⟩ := hL'
  obtain ⟨i0, hi, hz0, hz1, hz2⟩ := info_parts span_info
  obtain ⟨i9, hi9, hy0, hy1, hy2⟩ := info_parts spanRow_info
  have hn1 : 0 < r.places.length := O.n1
  have hn4 := O.n4
  obtain ⟨mm, hmm⟩ := Int.eq_ofNat_of_zero_le (show 0 ≤ r.seasons by have := O.s1; omega)
  have hm4 : mm ≤ 4 := by have := O.s4; omega
  have hms : r.seasons.toNat = mm := by omega
  have HMM := Lib.hid hmm
  have hmp : 0 < mm := by have := O.s1; omega
  have HTR := Lib.hid (fun m w' (hx : Ext w w') => dend_any r plan m _ _ w' (hP.ext hx) (hPl.ext hx) O OL)
  have HFO := Lib.hid (fun m w' vs vg vt (hx : Ext w w') hs hg ht => drun_any' r plan (R.endT r plan m) _ vs vg vt w' (hP.ext hx) hs hg ht O (R.okT_end O m))
  have HLEN := Lib.hid (fun m => (R.fishOf_len r (R.endT r plan m)).trans hms)
  have HROW := Lib.hid (fun m s (h : s < mm) => R.fishOf_row O (R.okT_end (plan := plan) O m) (s := s) (by omega))
  have HSTK := Lib.hid (show R.stocks r plan = (List.range mm).map fun s => (List.range r.places.length).map fun i => (R.iat (R.lat (R.fishOf r (R.endT r plan false)) s) i, R.iat (R.lat (R.fishOf r (R.endT r plan true)) s) i) by unfold R.stocks; rw [hms])
  obtain ⟨S, hS⟩ : ∃ S, R.stocks r plan = S := ⟨_, rfl⟩
  rw [hS]
  have HS := Lib.hid hS
  clear hS hmm hms O OL
  go_enter Try.func46, Try.ntmps46
  go_upto_region 1 with (fail)
  obtain ⟨w1, hw1⟩ : ∃ w1, w.alloc (.cells (reefV r (.slice a1 r.places.length c1)) 24) = w1 := ⟨_, rfl⟩
  have hbx : Blk w1 w.heap.size (reefV r (.slice a1 r.places.length c1)) 24 := by rw [← hw1]; exact Blk.new' rfl _ _
  have hE1 : Ext w w1 := by rw [← hw1]; (with_reducible (repeat (first | exact Ext.refl _ | assumption | apply Ext.alloc | apply Ext.drew | exact ext_plus _ _ | (apply Ext.setCell; rotate_left; (simp <;> omega)) | (apply Ext.trans; rotate_left; exact ext_plus _ _) | (apply Ext.trans; rotate_left; assumption))))
  rw [hw1]
  clear hw1
  obtain ⟨X, hX⟩ : ∃ X, R.fishOf r (R.endT r plan false) = X := ⟨_, rfl⟩
  obtain ⟨Z, hZ⟩ : ∃ Z, R.fishOf r (R.endT r plan true) = Z := ⟨_, rfl⟩
  have hlX := HLEN.out false
  have hlZ := HLEN.out true
  have hrX := HROW.out false
  have hrZ := HROW.out true
  have hst := HSTK.out
  rw [HS.out] at hst
  rw [hX] at hlX hrX hst
  rw [hZ] at hlZ hrZ hst
  have HST := Lib.hid hst
  have HRX := Lib.hid hrX
  have HRZ := Lib.hid hrZ
  have HLX := Lib.hid hlX
  have HLZ := Lib.hid hlZ
  have HX := Lib.hid hX
  have HZ := Lib.hid hZ
  clear hlX hlZ hrX hrZ hst hX hZ HLEN HROW HSTK
  go_cut [5] from 13 to 64 (fun s3 wc => Lists wc s3 X ∧ Ext w1 wc)
  case first =>
    go_region_held3 (fun y => (∀ o, y.cell? ⟨w.heap.size, o, none⟩ = (reefV r (.slice a1 r.places.length c1))[o]?) ∧ Ext w1 y)
      (first | exact ⟨blk_of hbx (by (with_reducible (repeat (first | exact Ext.refl _ | assumption | apply Ext.alloc | apply Ext.drew | exact ext_plus _ _ | (apply Ext.setCell; rotate_left; (simp <;> omega)) | (apply Ext.trans; rotate_left; exact ext_plus _ _) | (apply Ext.trans; rotate_left; assumption))))), by (with_reducible (repeat (first | exact Ext.refl _ | assumption | apply Ext.alloc | apply Ext.drew | exact ext_plus _ _ | (apply Ext.setCell; rotate_left; (simp <;> omega)) | (apply Ext.trans; rotate_left; exact ext_plus _ _) | (apply Ext.trans; rotate_left; assumption))))⟩)
      (first | (go_at_call 27; refine (HTR.out false _ (hE1.trans (by (with_reducible (repeat (first | exact Ext.refl _ | assumption | apply Ext.alloc | apply Ext.drew | exact ext_plus _ _ | (apply Ext.setCell; rotate_left; (simp <;> omega)) | (apply Ext.trans; rotate_left; exact ext_plus _ _) | (apply Ext.trans; rotate_left; assumption))))))).mono ?_; rintro e y1 ⟨vs, vg, vt, rfl, h1s, h1g, h1t, hy1⟩; have k1 := hy1.cells.1; have k2 := hy1.cells.2; have k3 := hy1.size; (try simp only [size_drew, World.size_alloc] at k1 k2 k3); (try have k7 : w1.heap.size < y1.heap.size := (by omega))) | (go_at_call 21; refine (HFO.out false _ _ _ _ (hE1.trans (by (with_reducible (repeat (first | exact Ext.refl _ | assumption | apply Ext.alloc | apply Ext.drew | exact ext_plus _ _ | (apply Ext.setCell; rotate_left; (simp <;> omega)) | (apply Ext.trans; rotate_left; exact ext_plus _ _) | (apply Ext.trans; rotate_left; assumption)))))) (h1s.ext (by (with_reducible show Ext _ _; (with_reducible (repeat (first | exact Ext.refl _ | assumption | apply Ext.alloc | apply Ext.drew | exact ext_plus _ _ | (apply Ext.setCell; rotate_left; (simp <;> omega)) | (apply Ext.trans; rotate_left; exact ext_plus _ _) | (apply Ext.trans; rotate_left; assumption)))); done))) (h1g.ext (by (with_reducible show Ext _ _; (with_reducible (repeat (first | exact Ext.refl _ | assumption | apply Ext.alloc | apply Ext.drew | exact ext_plus _ _ | (apply Ext.setCell; rotate_left; (simp <;> omega)) | (apply Ext.trans; rotate_left; exact ext_plus _ _) | (apply Ext.trans; rotate_left; assumption)))); done))) (h1t.ext (by (with_reducible show Ext _ _; (with_reducible (repeat (first | exact Ext.refl _ | assumption | apply Ext.alloc | apply Ext.drew | exact ext_plus _ _ | (apply Ext.setCell; rotate_left; (simp <;> omega)) | (apply Ext.trans; rotate_left; exact ext_plus _ _) | (apply Ext.trans; rotate_left; assumption)))); done)))).mono ?_; rintro e y2 ⟨v2, q1, q2, q3, q4, q5, rfl, h2, hy2⟩; have k4 := hy2.cells.1; have k5 := hy2.cells.2; have k6 := hy2.size; (try simp only [size_drew, World.size_alloc] at k4 k5 k6)))
    all_goals (dsimp only [Exit.then]; go_wp2; go_meet)
    all_goals rw [HX.out] at h2
    all_goals refine ⟨?_, ?_⟩
    all_goals first
      | (with_reducible refine ListsF.five h2 ?_ _ _ _ _ _; (try simp only [size_drew, World.size_alloc]); omega)
      | (with_reducible exact h2.lists.ext ((Ext.refl _).alloc _))
      | (with_reducible refine Ext.five ?_ ?_ _ _ _ _ _ <;> first | omega | (with_reducible show Ext _ _; (with_reducible (repeat (first | exact Ext.refl _ | assumption | apply Ext.alloc | apply Ext.drew | exact ext_plus _ _ | (apply Ext.setCell; rotate_left; (simp <;> omega)) | (apply Ext.trans; rotate_left; exact ext_plus _ _) | (apply Ext.trans; rotate_left; assumption)))); done))
      | (with_reducible show Ext _ _; (with_reducible (repeat (first | exact Ext.refl _ | assumption | apply Ext.alloc | apply Ext.drew | exact ext_plus _ _ | (apply Ext.setCell; rotate_left; (simp <;> omega)) | (apply Ext.trans; rotate_left; exact ext_plus _ _) | (apply Ext.trans; rotate_left; assumption)))); done)
  case rest =>
    obtain ⟨hLX, hE2⟩ := hcut
    rename World => w2
    have hbx2 := hbx.ext hE2
    have hEw2 := hE1.trans hE2
    go_upto_region 2 with (fail)
    go_cut [7] from 13 to 64 (fun s5 wc => Lists wc s5 Z ∧ Ext w2 wc)
    case first =>
      go_region_held3 (fun y => (∀ o, y.cell? ⟨w.heap.size, o, none⟩ = (reefV r (.slice a1 r.places.length c1))[o]?) ∧ Ext w2 y)
        (first | exact ⟨blk_of hbx2 (by (with_reducible (repeat (first | exact Ext.refl _ | assumption | apply Ext.alloc | apply Ext.drew | exact ext_plus _ _ | (apply Ext.setCell; rotate_left; (simp <;> omega)) | (apply Ext.trans; rotate_left; exact ext_plus _ _) | (apply Ext.trans; rotate_left; assumption))))), by (with_reducible (repeat (first | exact Ext.refl _ | assumption | apply Ext.alloc | apply Ext.drew | exact ext_plus _ _ | (apply Ext.setCell; rotate_left; (simp <;> omega)) | (apply Ext.trans; rotate_left; exact ext_plus _ _) | (apply Ext.trans; rotate_left; assumption))))⟩)
        (first | (go_at_call 27; refine (HTR.out true _ (hEw2.trans (by (with_reducible (repeat (first | exact Ext.refl _ | assumption | apply Ext.alloc | apply Ext.drew | exact ext_plus _ _ | (apply Ext.setCell; rotate_left; (simp <;> omega)) | (apply Ext.trans; rotate_left; exact ext_plus _ _) | (apply Ext.trans; rotate_left; assumption))))))).mono ?_; rintro e y1 ⟨vs, vg, vt, rfl, h1s, h1g, h1t, hy1⟩; have k1 := hy1.cells.1; have k2 := hy1.cells.2; have k3 := hy1.size; (try simp only [size_drew, World.size_alloc] at k1 k2 k3); (try have k7 : w2.heap.size < y1.heap.size := (by omega))) | (go_at_call 21; refine (HFO.out true _ _ _ _ (hEw2.trans (by (with_reducible (repeat (first | exact Ext.refl _ | assumption | apply Ext.alloc | apply Ext.drew | exact ext_plus _ _ | (apply Ext.setCell; rotate_left; (simp <;> omega)) | (apply Ext.trans; rotate_left; exact ext_plus _ _) | (apply Ext.trans; rotate_left; assumption)))))) (h1s.ext (by (with_reducible show Ext _ _; (with_reducible (repeat (first | exact Ext.refl _ | assumption | apply Ext.alloc | apply Ext.drew | exact ext_plus _ _ | (apply Ext.setCell; rotate_left; (simp <;> omega)) | (apply Ext.trans; rotate_left; exact ext_plus _ _) | (apply Ext.trans; rotate_left; assumption)))); done))) (h1g.ext (by (with_reducible show Ext _ _; (with_reducible (repeat (first | exact Ext.refl _ | assumption | apply Ext.alloc | apply Ext.drew | exact ext_plus _ _ | (apply Ext.setCell; rotate_left; (simp <;> omega)) | (apply Ext.trans; rotate_left; exact ext_plus _ _) | (apply Ext.trans; rotate_left; assumption)))); done))) (h1t.ext (by (with_reducible show Ext _ _; (with_reducible (repeat (first | exact Ext.refl _ | assumption | apply Ext.alloc | apply Ext.drew | exact ext_plus _ _ | (apply Ext.setCell; rotate_left; (simp <;> omega)) | (apply Ext.trans; rotate_left; exact ext_plus _ _) | (apply Ext.trans; rotate_left; assumption)))); done)))).mono ?_; rintro e y2 ⟨v2, q1, q2, q3, q4, q5, rfl, h2, hy2⟩; have k4 := hy2.cells.1; have k5 := hy2.cells.2; have k6 := hy2.size; (try simp only [size_drew, World.size_alloc] at k4 k5 k6)))
      all_goals (dsimp only [Exit.then]; go_wp2; go_meet)
      all_goals rw [HZ.out] at h2
      all_goals refine ⟨?_, ?_⟩
      all_goals first
        | (with_reducible refine ListsF.five h2 ?_ _ _ _ _ _; (try simp only [size_drew, World.size_alloc]); omega)
        | (with_reducible exact h2.lists.ext ((Ext.refl _).alloc _))
        | (with_reducible refine Ext.five ?_ ?_ _ _ _ _ _ <;> first | omega | (with_reducible show Ext _ _; (with_reducible (repeat (first | exact Ext.refl _ | assumption | apply Ext.alloc | apply Ext.drew | exact ext_plus _ _ | (apply Ext.setCell; rotate_left; (simp <;> omega)) | (apply Ext.trans; rotate_left; exact ext_plus _ _) | (apply Ext.trans; rotate_left; assumption)))); done))
        | (with_reducible show Ext _ _; (with_reducible (repeat (first | exact Ext.refl _ | assumption | apply Ext.alloc | apply Ext.drew | exact ext_plus _ _ | (apply Ext.setCell; rotate_left; (simp <;> omega)) | (apply Ext.trans; rotate_left; exact ext_plus _ _) | (apply Ext.trans; rotate_left; assumption)))); done)
    case rest =>
      obtain ⟨hLZ, hE3⟩ := hcut
      rename World => w3
      have hLX3 := hLX.ext hE3
      have hEw3 := hEw2.trans hE3
      have hbx3 := hbx2.ext hE3
      clear hLX hbx hbx2 HTR HFO hE2 hE3 hE1 hEw2
      obtain ⟨a3, c3, rfl, hx3⟩ := hLX3
      obtain ⟨a4, c4, rfl, hx4⟩ := hLZ
      have HX3 := Lib.hid hx3
      have HX4 := Lib.hid hx4
      clear hx3 hx4
      have hlX : X.length = mm := HLX.out
      have hlZ : Z.length = mm := HLZ.out
      have HLX' := Lib.hid hlX
      have HLZ' := Lib.hid hlZ
      clear hlX hlZ
      have HQ := HMM
      go_wp2
      go_loopw [9, 10, 11, 12] (fun v i _ _ wr => ∃ (k : Nat) (L : List (List (Int × Int) × Value)), k ≤ mm ∧ i = .int .i64 k ∧ L.length = k ∧ wr.ownsRow w3.heap.size 70 1 v L.length (L.map Prod.snd) ∧ (∀ p ∈ L, ApartS w.heap.size wr p) ∧ (L.Pairwise fun p q => p.2.ownBlock ≠ q.2.ownBlock) ∧ L.map Prod.fst = (List.range k).map (fun s => (List.range r.places.length).map fun i => (R.iat (R.lat X s) i, R.iat (R.lat Z s) i)) ∧ Ext w3 wr) (fun _ i _ _ _ => mm - (intOf i).toNat)
      case atStart => exact ⟨0, [], Nat.zero_le _, rfl, rfl, World.ownsRow_nil _ _ _ _, by simp, List.Pairwise.nil, rfl, Ext.refl _⟩
      case round =>
        rename World => wr
        obtain ⟨k, L, hk, rfl, hl, hown, hA, hpw, hf, hE⟩ := hrel
        have HA := Lib.hid hA
        have HPW := Lib.hid hpw
        have HF := Lib.hid hf
        have HL := Lib.hid hl
        have hl4 : L.length ≤ 4 := by omega
        have hbr := hbx3.ext hE
        have x0 := hbr.cell
        have x1 := hbr.lt
        clear hA hf hl hpw
        by_cases hlt : k < mm
        · have hlt' : (k : Int) < r.seasons := by have := HMM.out; omega
          have hkX : k < X.length := by have := HLX'.out; omega
          have hkZ : k < Z.length := by have := HLZ'.out; omega
          obtain ⟨b3, off3, rfl, hb3, v3, h03, hv3, _⟩ := HX3.out k hkX
          obtain ⟨b4, off4, rfl, hb4, v4, h04, hv4, _⟩ := HX4.out k hkZ
          have r3 := HRX.out k hlt
          have r4 := HRZ.out k hlt
          have HLA := Lib.hid (lat_of hkX)
          have HLB := Lib.hid (lat_of hkZ)
          rw [lat_of hkX] at r3
          rw [lat_of hkZ] at r4
          simp only [Nat.mul_one] at h03 h04
          have u3 := (hE.cells.1 _ _ hb3).trans h03
          have u4 := (hE.cells.1 _ _ hb4).trans h04
          clear h03 h04
          obtain ⟨x, hx⟩ : ∃ x, X[k] = x := ⟨_, rfl⟩
          obtain ⟨z, hz⟩ : ∃ z, Z[k] = z := ⟨_, rfl⟩
          rw [hx] at hv3 r3 HLA
          rw [hz] at hv4 r4 HLB
          clear hx hz
          obtain ⟨a5, c5, rfl, hx5⟩ := hv3
          obtain ⟨a6, c6, rfl, hx6⟩ := hv4
          rw [r3] at u3
          rw [r4] at u4
          have HX5 := Lib.hid hx5
          have HX6 := Lib.hid hx6
          have HR3 := Lib.hid r3
          have HR4 := Lib.hid r4
          have hz3 := hE.size
          have q3 : b3 < wr.heap.size := Nat.lt_of_lt_of_le hb3 hz3
          have q4 : b4 < wr.heap.size := Nat.lt_of_lt_of_le hb4 hz3
          clear hx5 hx6 r3 r4
          obtain ⟨rw_, hrw⟩ : ∃ rw_, (List.range r.places.length).map (fun i => (R.iat x i, R.iat z i)) = rw_ := ⟨_, rfl⟩
          have hrl : rw_.length = r.places.length := by rw [← hrw]; simp
          have hrg : ∀ i (h : i < r.places.length) (h3 : i < x.length) (h4 : i < z.length), rw_[i]? = some (x[i], z[i]) := fun i h h3 h4 => by
            subst hrw; simp [h, h3, h4]
          have HRL := Lib.hid hrl
          have HRG := Lib.hid hrg
          have HRW := Lib.hid hrw
          clear hrl hrg hrw
          obtain ⟨avo, cvo, rfl⟩ := own_slice hown
          go_wp2
          go_loopw [11, 12] (fun v i wx => ∃ j : Nat, j ≤ r.places.length ∧ i = .int .i64 j ∧ wx.ownsRow wr.heap.size 44 2 v j (preS spanC rw_ j) ∧ Ext wr wx) (fun _ i _ => r.places.length - (intOf i).toNat)
          case atStart => exact ⟨0, Nat.zero_le _, rfl, World.ownsRow_nil _ _ _ _, Ext.refl _⟩
          case round =>
            rename World => wx
            obtain ⟨j, hj, rfl, hownr, hEx⟩ := hrel
            have u3' := (hEx.cells.1 _ _ q3).trans u3
            have u4' := (hEx.cells.1 _ _ q4).trans u4
            have hzx := hEx.size
            have hbrx := hbr.ext hEx
            have z0 := hbrx.cell
            have z1 := hbrx.lt
            clear x0 x1
            have q3' := Nat.lt_of_lt_of_le q3 hzx
            have q4' := Nat.lt_of_lt_of_le q4 hzx
            obtain ⟨avr, cvr, rfl⟩ := own_slice hownr
            by_cases hlj : j < r.places.length
            · have hjx : j < x.length := by have := HR3.out; omega
              have hjz : j < z.length := by have := HR4.out; omega
              obtain ⟨b5, off5, rfl, hb5, h05⟩ := HX5.out j hjx
              obtain ⟨b6, off6, rfl, hb6, h06⟩ := HX6.out j hjz
              have hEa := hE.trans hEx
              have u5 := (hEa.cells.1 _ _ hb5).trans h05
              have u6 := (hEa.cells.1 _ _ hb6).trans h06
              have q5 := Nat.lt_of_lt_of_le hb5 hEa.size
              have q6 := Nat.lt_of_lt_of_le hb6 hEa.size
              have hps := preS_succ spanC rw_ (k := j) (by have := HRL.out; omega)
              obtain ⟨_, hrj⟩ := List.getElem?_eq_some_iff.1 (HRG.out j hlj hjx hjz)
              rw [hrj] at hps
              have HPS := Lib.hid hps
              obtain ⟨A, hAA⟩ : ∃ A, x[j] = A := ⟨_, rfl⟩
              obtain ⟨B, hBB⟩ : ∃ B, z[j] = B := ⟨_, rfl⟩
              rw [hAA] at u5 HPS
              rw [hBB] at u6 HPS
              clear h05 h06 hps hAA hBB hrj
              have hpc := plus_cell
              go_wp2
              refine wp_region_ext 16 (fun _ _ d _ _ h => by cases d <;> exact h) (by kernel_rfl) (by kernel_rfl) (by kernel_rfl) (by kernel_rfl) ?_
              simp only [List.take_succ_cons, List.take_zero, List.drop_succ_cons, List.drop_zero]
              repeat (any_goals (first | go_big_quiet_step (fail) | quiet_step (fail)))
              all_goals (refine wpQuiet_nil ?_; intro w' hE')
              have hownw := own_ext hownr hE'
              have hzw := hE'.size
              go_wp2_with (first | (at_builtin; refine wpList_append_own _ rfl _ _ 70 rfl (wr.heap.size) 44 i0 (.agg #[.int .i64 0, .int .i64 0]) 2 16 Try.underlying70 hi hz0 hz1 hz2 rfl (by decide) _ _ _ rfl (hownw.alloc _) ⟨w'.heap.size, 0, none⟩ 1 1 [.int .i64 A, .int .i64 B] rfl rfl (cell_two _ _ _ _ (by simp)) (two_ints _ _) (by unfold maxLen; omega) (by omega) (by simp <;> omega) ?_; intro v' w1 hown' hgrow _; obtain ⟨g', cap', rfl⟩ := own_succ hown'))
              refine ⟨⟨j + 1, by omega, by go_num, ?_, ((hEx.trans hE').alloc _).grown hgrow (own_base hownw)⟩, by simp [intOf]; omega⟩
              rw [HPS.out]
              exact hown'
            · obtain rfl : j = r.places.length := by omega
              obtain ⟨g, cap, e0, hg1, hg2⟩ := own_pos hownr hn1
              obtain rfl : avr = some ⟨g, 0, none⟩ := by cases e0; rfl
              have hpa : preS spanC rw_ r.places.length = rw_.flatMap spanC := by have h := preS_all spanC rw_; rwa [HRL.out] at h
              rw [hpa] at hownr
              have hrowb : RowB spanC 2 44 wx g rw_ := RowB.of_own (f := spanC) spanC_len (by rw [HRL.out]; exact hownr)
              have hownx := own_ext hown hEx
              clear u3' u4' hownr hpa u3 u4
              go_wp2_with (first | (at_builtin; refine wpList_append_own _ rfl _ _ 67 rfl w3.heap.size 70 i9 (.slice none 0 0) 1 24 Try.underlying67 hi9 hy0 hy1 hy2 rfl (by decide) _ _ _ rfl (hownx.alloc _) ⟨wx.heap.size, 0, none⟩ 1 1 [.slice (some ⟨g, 0, none⟩) r.places.length cvr] rfl rfl (cell_one _ _ _ (by simp)) (one_cell _ rfl) (by unfold maxLen; omega) (by omega) (by simp <;> omega) ?_; intro v6 w6 hown6 hgr6 _; obtain ⟨g6, cap6, rfl⟩ := own_succ hown6))
              have hoi := own_blkS (hownx.alloc (.cells #[.slice (some ⟨g, 0, none⟩) r.places.length cvr] 70)) (by decide)
              refine ⟨⟨k + 1, L ++ [(rw_, .slice (some ⟨g, 0, none⟩) r.places.length cvr)], by omega, by go_num, by simp [HL.out], by simpa using hown6, ?_, ?_, ?_, Ext.grown ((hE.trans hEx).alloc _) hgr6 (own_base hownx)⟩, by simp [intOf]; omega⟩
              · intro p hp
                rw [List.mem_append, List.mem_singleton] at hp
                rcases hp with hp | rfl
                · exact (((HA.out p hp).ext hEx).ext ((Ext.refl _).alloc _)).grown hgr6 hoi
                · have h1 : ApartS w.heap.size wx (rw_, .slice (some ⟨g, 0, none⟩) r.places.length cvr) := ⟨g, cvr, by simp [HRL.out], hrowb, by have := hEw3.size; omega⟩
                  exact (h1.ext ((Ext.refl _).alloc _)).grown hgr6 hoi
              · rw [List.pairwise_append]
                refine ⟨HPW.out, List.pairwise_singleton _ _, fun p hp q hq => ?_⟩
                rw [List.mem_singleton] at hq
                subst hq
                obtain ⟨g', e1, e2⟩ := (HA.out p hp).blk
                rw [e1]
                simp [Value.ownBlock]
                omega
              · rw [List.map_append, HF.out, List.range_succ, List.map_append, ← HRW.out, ← HLA.out, ← HLB.out]; rfl
        · obtain rfl : k = mm := by omega
          have hnlt : ¬ (k : Int) < r.seasons := by have := HMM.out; omega
          have hSR := (OwnRows.of_own hEw3.size (by rw [HL.out]; exact hmp) hown HA.out HPW.out).rows
          rw [HF.out, ← HST.out] at hSR
          obtain ⟨av, cv, rfl⟩ := own_slice hown
          go_wp2
          go_ret
          exact ⟨_, rfl, hSR, hEw3.trans hE⟩
/-- What the document's Short returns. -/
def dshortV (o : Option (Nat × Int)) : Array Value := #[.int .i64 (shortP o).1, .int .i64 (shortP o).2, .bool o.isSome]
set_option maxRecDepth 100000 in
set_option maxHeartbeats 16000000 in
theorem dshort_any (r : R.Reef) (plan : List Int) (vp vl : Value) (w : World) (hP : Places w vp r.places) (hPl : Ints w vl plan) (O : R.OkR r) (OL : R.OkL r plan) :
    Calls Try.prog 26 #[.agg (reefV r vp), vl] w fun x w' => x = .returned (.tuple (dshortV (R.short r plan))) ∧ Ext w w' := by
  have hP' := hP
  have hL' := hPl
  obtain ⟨a1, c1, rfl, hx1⟩ := hP'
  obtain ⟨a2, c2, rfl, _⟩ := hL'
  have hn1 : 0 < r.places.length := O.n1
  have hn4 := O.n4
  obtain ⟨q, hq⟩ := Int.eq_ofNat_of_zero_le (show 0 ≤ r.seasons - 1 by have := O.s1; omega)
  have hs4 := O.s4
  have hms : r.seasons.toNat = q + 1 := by omega
  have hq4 : q ≤ 4 := by omega
  have T := R.okT_end (plan := plan) O false
  have HST := Lib.hid (fun w' (hx : Ext w w') => dstocks_any r plan _ _ w' (hP.ext hx) (hPl.ext hx) O OL)
  obtain ⟨Fq, hFq⟩ : ∃ Fq, (R.endOf r (R.endT r plan false)).fish = Fq := ⟨_, rfl⟩
  have hfine := R.fine_at O T (q + 1) (by omega)
  have he : R.stateAt r (R.endT r plan false) (q + 1) = R.endOf r (R.endT r plan false) := by unfold R.endOf; rw [hms]
  rw [he] at hfine
  have hfb := fun i => (R.fine_bd O T (by omega) hfine).2.2.2.2 i
  have hfn := hfine.nn
  have hfl := hfine.len
  rw [hFq] at hfl hfn
  simp only [hFq] at hfb
  have hlen : (R.stocks r plan).length = q + 1 := by simp [R.stocks, hms]
  have hqm : q < q + 1 := by omega
  have hwq : IntKind.wrap .i64 (q : Int) = q := IntWalk.i64_in _ (by omega)
  obtain ⟨SR, hSR⟩ : ∃ SR, R.stocks r plan = SR := ⟨_, rfl⟩
  have hrow : ∀ (h : q < SR.length), SR[q] = (List.range r.places.length).map fun i => (R.iat Fq i, R.iat (R.lat (R.fishOf r (R.endT r plan true)) q) i) := fun h => by
    subst hSR
    simp only [R.stocks, List.getElem_map, List.getElem_range]
    apply List.map_congr_left
    intro i _
    rw [R.fishOf_at _ _ (by omega), he, hFq]
  rw [hSR] at hlen
  simp only [hSR] at HST
  obtain ⟨RQ, hRQ⟩ : ∃ RQ, ((List.range r.places.length).map fun i => (R.iat Fq i, R.iat (R.lat (R.fishOf r (R.endT r plan true)) q) i)) = RQ := ⟨_, rfl⟩
  have hrq : ∀ (h : q < SR.length), SR[q] = RQ := fun h => by rw [hrow h, hRQ]
  have hrl : RQ.length = r.places.length := by rw [← hRQ]; simp
  have hrg : ∀ k (h : k < r.places.length) (hf : k < Fq.length) (hr : k < RQ.length), (RQ[k]).1 = Fq[k] := fun k h hf hr => by subst hRQ; simp [hf]
  have hsh : R.short r plan = R.shortFrom (r.places.drop 0) (Fq.drop 0) 0 := by unfold R.short; rw [hFq]; rfl
  obtain ⟨V, hV⟩ : ∃ V, R.short r plan = V := ⟨_, rfl⟩
  rw [hV] at hsh ⊢
  have HLEN := Lib.hid hlen
  have HROWQ := Lib.hid hrq
  have HRL := Lib.hid hrl
  have HRG := Lib.hid hrg
  have HSH := Lib.hid hsh.symm
  have HFL := Lib.hid hfl
  have HFB := Lib.hid hfb
  have HFN := Lib.hid hfn
  have HO := Lib.hid O
  have HX1 := Lib.hid hx1
  clear hlen hrow hrq hrl hrg hsh hfl hfb hfn O OL T hx1 hfine he hFq hSR hRQ hV hms
  go_enter Try.func26, Try.ntmps26
  go_upto_region 1 with (fail)
  obtain ⟨w1, hw1⟩ : ∃ w1, w.alloc (.cells (reefV r (.slice a1 r.places.length c1)) 24) = w1 := ⟨_, rfl⟩
  have hbx : Blk w1 w.heap.size (reefV r (.slice a1 r.places.length c1)) 24 := by rw [← hw1]; exact Blk.new' rfl _ _
  have hE1 : Ext w w1 := by rw [← hw1]; (with_reducible (repeat (first | exact Ext.refl _ | assumption | apply Ext.alloc | apply Ext.drew | exact ext_plus _ _ | (apply Ext.setCell; rotate_left; (simp <;> omega)) | (apply Ext.trans; rotate_left; exact ext_plus _ _) | (apply Ext.trans; rotate_left; assumption))))
  rw [hw1]
  clear hw1
  have hbd := hbx.drew
  refine wp_region_late 8 (fun c z => c = false → ∀ o, z.cell? ⟨w.heap.size, o, none⟩ = (reefV r (.slice a1 r.places.length c1) : Array Value)[o]?) (by kernel_rfl) (fun hL => ?_)
  refine late_early (i := 0) (v := ?_) rfl (by kernel_rfl) (by kernel_rfl) (by kernel_rfl) (by decide) (by kernel_rfl) (fun _ _ _ h => h) hL (Or.inl ⟨by rfl, ?_⟩) (fun _ => hbd.cell) (fun hL' => ?_)
  rotate_left
  · intro y hy; have g1 := hy rfl; go_simp; (try with_reducible rfl)
  clear hL; rename Shutb _ _ => hL
  (try simp only [Act.put, List.setIfInBounds_toArray, List.set_cons_zero, List.set_cons_succ])
  refine late_early (i := 1) (v := ?_) rfl (by kernel_rfl) (by kernel_rfl) (by kernel_rfl) (by decide) (by kernel_rfl) (fun _ _ _ h => h) hL (Or.inl ⟨by rfl, ?_⟩) (fun _ => hbd.cell) (fun hL' => ?_)
  rotate_left
  · intro y hy; have g1 := hy rfl; go_simp; (try with_reducible rfl)
  clear hL; rename Shutb _ _ => hL
  (try simp only [Act.put, List.setIfInBounds_toArray, List.set_cons_zero, List.set_cons_succ])
  refine late_early (i := 3) (v := ?_) rfl (by kernel_rfl) (by kernel_rfl) (by kernel_rfl) (by decide) (by kernel_rfl) (fun _ _ _ h => h) hL (Or.inl ⟨by rfl, ?_⟩) (fun _ => hbd.cell) (fun hL' => ?_)
  rotate_left
  · intro y hy; have g1 := hy rfl; go_simp; (try with_reducible rfl)
  clear hL; rename Shutb _ _ => hL
  (try simp only [Act.put, List.setIfInBounds_toArray, List.set_cons_zero, List.set_cons_succ])
  refine late_early (i := 4) (v := ?_) rfl (by kernel_rfl) (by kernel_rfl) (by kernel_rfl) (by decide) (by kernel_rfl) (fun _ _ _ h => h) hL (Or.inl ⟨by rfl, ?_⟩) (fun _ => hbd.cell) (fun hL' => ?_)
  rotate_left
  · intro y hy; have g1 := hy rfl; go_simp; (try with_reducible rfl)
  clear hL; rename Shutb _ _ => hL
  (try simp only [Act.put, List.setIfInBounds_toArray, List.set_cons_zero, List.set_cons_succ])
  refine late_early (i := 5) (v := ?_) rfl (by kernel_rfl) (by kernel_rfl) (by kernel_rfl) (by decide) (by kernel_rfl) (fun _ _ _ h => h) hL (Or.inl ⟨by rfl, ?_⟩) (fun _ => hbd.cell) (fun hL' => ?_)
  rotate_left
  · intro y hy; have g1 := hy rfl; go_simp; (try with_reducible rfl)
  clear hL; rename Shutb _ _ => hL
  (try simp only [Act.put, List.setIfInBounds_toArray, List.set_cons_zero, List.set_cons_succ])
  refine late_one (i := 2) (by kernel_rfl) hL (fun hL' => ?_)
  refine wpOp_step rfl (fun K hK0 => ?_)
  have hK : Shut _ := hK0
  clear hK0
  go_simp
  go_wp2_with (first | (go_at_call 46; refine (HST.out _ ((hE1.trans (Ext.refl _).drew))).mono ?_; rintro e w2 ⟨vS, rfl, hvS, hE2⟩; obtain ⟨aS, cS, rfl, hxS⟩ := hvS))
  have hb2 := hbd.ext hE2
  have hqs : q < SR.length := by rw [HLEN.out]; exact hqm
  have HXS := Lib.hid hxS
  clear hxS
  refine hK.out _ _ ⟨fun _ => hb2.cell, ?_⟩
  clear hK K; clear hL; rename Shutb _ _ => hL
  (try simp only [Act.put, List.setIfInBounds_toArray, List.set_cons_zero, List.set_cons_succ])
  obtain ⟨gS, oS, rfl, hgS, vR, hcR, hvR⟩ := HXS.out q (by rw [HLEN.out]; exact hqm)
  simp only [Nat.mul_one] at hcR
  refine late_one (i := 6) (by kernel_rfl) hL (fun hL' => ?_)
  refine wpOp_step rfl (fun K hK0 => ?_)
  have hK : Shut _ := hK0
  clear hK0
  go_simp
  refine hK.out _ _ ⟨fun _ => hb2.cell, ?_⟩
  clear hK K; clear hL; rename Shutb _ _ => hL
  (try simp only [Act.put, List.setIfInBounds_toArray, List.set_cons_zero, List.set_cons_succ])
  refine late_one (i := 7) (by kernel_rfl) hL (fun hL' => ?_)
  refine wpOp_step rfl (fun K hK0 => ?_)
  have hK : Shut _ := hK0
  clear hK0
  go_simp
  refine hK.out _ _ ⟨fun _ => hb2.cell, ?_⟩
  clear hK K; clear hL; rename Shutb _ _ => hL
  (try simp only [Act.put, List.setIfInBounds_toArray, List.set_cons_zero, List.set_cons_succ])
  refine late_one (i := 8) (by kernel_rfl) hL (fun hL' => ?_)
  refine wpOp_step rfl (fun K hK0 => ?_)
  have hK : Shut _ := hK0
  clear hK0
  go_simp
  refine hK.out _ _ ⟨fun e => absurd (e : true = false) (by decide), ?_⟩
  clear hK K; clear hL; rename Shutb _ _ => hL
  (try simp only [Act.put, List.setIfInBounds_toArray, List.set_cons_zero, List.set_cons_succ])
  refine late_done (by kernel_rfl) ?_
  (try dsimp only [Exit.then])
  rw [HROWQ.out] at hvR
  obtain ⟨aR, cR, rfl, hxR⟩ := hvR
  have HXR := Lib.hid hxR
  have hEw2 : Ext w w2 := (hE1.trans (Ext.refl _).drew).trans hE2
  clear hxR hcR hbd
  go_wp2
  go_loopw [8] (fun i wr => ∃ k : Nat, k ≤ r.places.length ∧ i = .int .i64 k ∧ R.shortFrom (r.places.drop k) (Fq.drop k) k = V ∧ Ext w2 wr) (fun i _ => r.places.length - (intOf i).toNat)
  case atStart => exact ⟨0, Nat.zero_le _, rfl, HSH.out, Ext.refl _⟩
  case round =>
    obtain ⟨k, hk, rfl, hsf, hE⟩ := hrel
    have HSF := Lib.hid hsf
    clear hsf
    have hbr := hb2.ext hE
    have x0 := hbr.cell
    have x1 := hbr.lt
    have hEw := hEw2.trans hE
    by_cases hlt : k < r.places.length
    · obtain ⟨b, off, rfl, hb, hAt⟩ := HX1.out k hlt
      have hAt2 := ate_stays _ _ _ _ _ _ hEw hb hAt
      obtain ⟨h0, h1, h2, h3, h4, h5, h6, h7, h8, h9, h10, h11⟩ := place_cells hAt2
      have hbl := Nat.lt_of_lt_of_le hb hEw.size
      have hkf : k < Fq.length := by have := HFL.out; omega
      have hkR : k < RQ.length := by have := HRL.out; omega
      have hst := short_drop r.places Fq k hlt hkf
      obtain ⟨bR, oR, rfl, hbR, hAR⟩ := HXR.out k (by have := HRL.out; omega)
      obtain ⟨t1, t2⟩ := span_cells (ate_stays _ _ _ _ _ _ hE hbR hAR)
      have hbRl := Nat.lt_of_lt_of_le hbR hE.size
      have hrg := HRG.out k hlt hkf
      rw [hrg] at t1
      have hgo := (HO.out.place k hlt)
      rw [R.pat_at hlt] at hgo
      have hl0 := hgo.l0
      have hl1 := hgo.l1
      have hfb := HFB.out k
      rw [R.iat_at hkf] at hfb
      have hfn := HFN.out k
      rw [R.iat_at hkf] at hfn
      obtain ⟨G, hG⟩ : ∃ G, r.places[k].goal = G := ⟨_, rfl⟩
      rw [hG] at h10 hst hl0 hl1
      obtain ⟨n, hn⟩ : ∃ n, Fq[k] = n := ⟨_, rfl⟩
      rw [hn] at t1 hst hfb hfn
      have hwd : IntKind.wrap .i64 (G - n) = G - n := IntWalk.i64_in _ (by omega)
      have HST2 := Lib.hid hst
      clear hAt hAt2 hAR h0 h1 h2 h3 h4 h5 h6 h7 h8 h9 h11 t2 hst hrg hgo hG hn
      have hpc := plus_cell
      by_cases hng : n < G
      · have hV := HSF.out
        rw [HST2.out, if_pos hng] at hV
        have HV := Lib.hid hV
        clear hV HST2 HSF
        go_wp2
        refine wp_region_ext 12 (fun _ _ d _ _ h => by cases d <;> exact h) (by kernel_rfl) (by kernel_rfl) (by kernel_rfl) (by kernel_rfl) ?_
        simp only [List.take_succ_cons, List.take_zero, List.drop_succ_cons, List.drop_zero]
        repeat (any_goals (first | go_big_quiet_step (fail) | quiet_step (fail)))
        all_goals (refine wpQuiet_nil ?_; intro w' hE')
        unfold wpList
        have hbr' := hbr.ext hE'
        have h10' := (hE'.cells.1 _ _ hbl).trans h10
        have t1' := (hE'.cells.1 _ _ hbRl).trans t1
        have hEw' := hEw.trans hE'
        clear x0 x1 h10 t1
        go_wp2
        have hbrd := hbr'.drew
        have h10d : w'.drew.cell? _ = _ := h10'
        have t1d : w'.drew.cell? _ = _ := t1'
        refine wp_region_late 15 (fun c z => c = false → (∀ o, z.cell? ⟨w.heap.size, o, none⟩ = (reefV r (.slice (some ⟨b, off, none⟩) r.places.length c1) : Array Value)[o]?) ∧ z.cell? ⟨b, off + k * 12 + 10, none⟩ = some (.int .i64 G) ∧ z.cell? ⟨bR, oR + k * 2, none⟩ = some (.int .i64 n)) (by kernel_rfl) (fun hL => ?_)
        refine late_early (i := 0) (v := ?_) rfl (by kernel_rfl) (by kernel_rfl) (by kernel_rfl) (by decide) (by kernel_rfl) (fun _ _ _ h => h) hL (Or.inl ⟨by rfl, ?_⟩) (fun _ => ⟨hbrd.cell, h10d, t1d⟩) (fun hL' => ?_)
        rotate_left
        · intro y hy; have hz := hy rfl; clear hy; obtain ⟨g1, g2, g3⟩ := hz; go_simp; (try with_reducible rfl)
        clear hL; rename Shutb _ _ => hL
        (try simp only [Act.put, List.setIfInBounds_toArray, List.set_cons_zero, List.set_cons_succ])
        refine late_early (i := 1) (v := ?_) rfl (by kernel_rfl) (by kernel_rfl) (by kernel_rfl) (by decide) (by kernel_rfl) (fun _ _ _ h => h) hL (Or.inl ⟨by rfl, ?_⟩) (fun _ => ⟨hbrd.cell, h10d, t1d⟩) (fun hL' => ?_)
        rotate_left
        · intro y hy; have hz := hy rfl; clear hy; obtain ⟨g1, g2, g3⟩ := hz; go_simp; (try with_reducible rfl)
        clear hL; rename Shutb _ _ => hL
        (try simp only [Act.put, List.setIfInBounds_toArray, List.set_cons_zero, List.set_cons_succ])
        refine late_early (i := 2) (v := ?_) rfl (by kernel_rfl) (by kernel_rfl) (by kernel_rfl) (by decide) (by kernel_rfl) (fun _ _ _ h => h) hL (Or.inl ⟨by rfl, ?_⟩) (fun _ => ⟨hbrd.cell, h10d, t1d⟩) (fun hL' => ?_)
        rotate_left
        · intro y hy; have hz := hy rfl; clear hy; obtain ⟨g1, g2, g3⟩ := hz; go_simp; (try with_reducible rfl)
        clear hL; rename Shutb _ _ => hL
        (try simp only [Act.put, List.setIfInBounds_toArray, List.set_cons_zero, List.set_cons_succ])
        refine late_early (i := 3) (v := ?_) rfl (by kernel_rfl) (by kernel_rfl) (by kernel_rfl) (by decide) (by kernel_rfl) (fun _ _ _ h => h) hL (Or.inl ⟨by rfl, ?_⟩) (fun _ => ⟨hbrd.cell, h10d, t1d⟩) (fun hL' => ?_)
        rotate_left
        · intro y hy; have hz := hy rfl; clear hy; obtain ⟨g1, g2, g3⟩ := hz; go_simp; (try with_reducible rfl)
        clear hL; rename Shutb _ _ => hL
        (try simp only [Act.put, List.setIfInBounds_toArray, List.set_cons_zero, List.set_cons_succ])
        refine late_early (i := 4) (v := ?_) rfl (by kernel_rfl) (by kernel_rfl) (by kernel_rfl) (by decide) (by kernel_rfl) (fun _ _ _ h => h) hL (Or.inl ⟨by rfl, ?_⟩) (fun _ => ⟨hbrd.cell, h10d, t1d⟩) (fun hL' => ?_)
        rotate_left
        · intro y hy; have hz := hy rfl; clear hy; obtain ⟨g1, g2, g3⟩ := hz; go_simp; (try with_reducible rfl)
        clear hL; rename Shutb _ _ => hL
        (try simp only [Act.put, List.setIfInBounds_toArray, List.set_cons_zero, List.set_cons_succ])
        refine late_early (i := 5) (v := ?_) rfl (by kernel_rfl) (by kernel_rfl) (by kernel_rfl) (by decide) (by kernel_rfl) (fun _ _ _ h => h) hL (Or.inl ⟨by rfl, ?_⟩) (fun _ => ⟨hbrd.cell, h10d, t1d⟩) (fun hL' => ?_)
        rotate_left
        · intro y hy; have hz := hy rfl; clear hy; obtain ⟨g1, g2, g3⟩ := hz; go_simp; (try with_reducible rfl)
        clear hL; rename Shutb _ _ => hL
        (try simp only [Act.put, List.setIfInBounds_toArray, List.set_cons_zero, List.set_cons_succ])
        refine late_early (i := 6) (v := ?_) rfl (by kernel_rfl) (by kernel_rfl) (by kernel_rfl) (by decide) (by kernel_rfl) (fun _ _ _ h => h) hL (Or.inl ⟨by rfl, ?_⟩) (fun _ => ⟨hbrd.cell, h10d, t1d⟩) (fun hL' => ?_)
        rotate_left
        · intro y hy; have hz := hy rfl; clear hy; obtain ⟨g1, g2, g3⟩ := hz; go_simp; (try with_reducible rfl)
        clear hL; rename Shutb _ _ => hL
        (try simp only [Act.put, List.setIfInBounds_toArray, List.set_cons_zero, List.set_cons_succ])
        refine late_early (i := 7) (v := ?_) rfl (by kernel_rfl) (by kernel_rfl) (by kernel_rfl) (by decide) (by kernel_rfl) (fun _ _ _ h => h) hL (Or.inl ⟨by rfl, ?_⟩) (fun _ => ⟨hbrd.cell, h10d, t1d⟩) (fun hL' => ?_)
        rotate_left
        · intro y hy; have hz := hy rfl; clear hy; obtain ⟨g1, g2, g3⟩ := hz; go_simp; (try with_reducible rfl)
        clear hL; rename Shutb _ _ => hL
        (try simp only [Act.put, List.setIfInBounds_toArray, List.set_cons_zero, List.set_cons_succ])
        refine late_early (i := 8) (v := ?_) rfl (by kernel_rfl) (by kernel_rfl) (by kernel_rfl) (by decide) (by kernel_rfl) (fun _ _ _ h => h) hL (Or.inl ⟨by rfl, ?_⟩) (fun _ => ⟨hbrd.cell, h10d, t1d⟩) (fun hL' => ?_)
        rotate_left
        · intro y hy; have hz := hy rfl; clear hy; obtain ⟨g1, g2, g3⟩ := hz; go_simp; (try with_reducible rfl)
        clear hL; rename Shutb _ _ => hL
        (try simp only [Act.put, List.setIfInBounds_toArray, List.set_cons_zero, List.set_cons_succ])
        refine late_early (i := 9) (v := ?_) rfl (by kernel_rfl) (by kernel_rfl) (by kernel_rfl) (by decide) (by kernel_rfl) (fun _ _ _ h => h) hL (Or.inl ⟨by rfl, ?_⟩) (fun _ => ⟨hbrd.cell, h10d, t1d⟩) (fun hL' => ?_)
        rotate_left
        · intro y hy; have hz := hy rfl; clear hy; obtain ⟨g1, g2, g3⟩ := hz; go_simp; (try with_reducible rfl)
        clear hL; rename Shutb _ _ => hL
        (try simp only [Act.put, List.setIfInBounds_toArray, List.set_cons_zero, List.set_cons_succ])
        refine late_early (i := 10) (v := ?_) rfl (by kernel_rfl) (by kernel_rfl) (by kernel_rfl) (by decide) (by kernel_rfl) (fun _ _ _ h => h) hL (Or.inl ⟨by rfl, ?_⟩) (fun _ => ⟨hbrd.cell, h10d, t1d⟩) (fun hL' => ?_)
        rotate_left
        · intro y hy; have hz := hy rfl; clear hy; obtain ⟨g1, g2, g3⟩ := hz; go_simp; (try with_reducible rfl)
        clear hL; rename Shutb _ _ => hL
        (try simp only [Act.put, List.setIfInBounds_toArray, List.set_cons_zero, List.set_cons_succ])
        refine late_early (i := 11) (v := ?_) rfl (by kernel_rfl) (by kernel_rfl) (by kernel_rfl) (by decide) (by kernel_rfl) (fun _ _ _ h => h) hL (Or.inl ⟨by rfl, ?_⟩) (fun _ => ⟨hbrd.cell, h10d, t1d⟩) (fun hL' => ?_)
        rotate_left
        · intro y hy; have hz := hy rfl; clear hy; obtain ⟨g1, g2, g3⟩ := hz; go_simp; (try with_reducible rfl)
        clear hL; rename Shutb _ _ => hL
        (try simp only [Act.put, List.setIfInBounds_toArray, List.set_cons_zero, List.set_cons_succ])
        refine late_early (i := 12) (v := ?_) rfl (by kernel_rfl) (by kernel_rfl) (by kernel_rfl) (by decide) (by kernel_rfl) (fun _ _ _ h => h) hL (Or.inl ⟨by rfl, ?_⟩) (fun _ => ⟨hbrd.cell, h10d, t1d⟩) (fun hL' => ?_)
        rotate_left
        · intro y hy; have hz := hy rfl; clear hy; obtain ⟨g1, g2, g3⟩ := hz; go_simp; (try with_reducible rfl)
        clear hL; rename Shutb _ _ => hL
        (try simp only [Act.put, List.setIfInBounds_toArray, List.set_cons_zero, List.set_cons_succ])
        refine late_one (i := 13) (by kernel_rfl) hL (fun hL' => ?_)
        refine wpOp_step rfl (fun K hK0 => ?_)
        have hK : Shut _ := hK0
        clear hK0
        go_simp
        refine hK.out _ _ ⟨fun _ => ⟨hbrd.cell, h10d, t1d⟩, ?_⟩
        clear hK K; clear hL; rename Shutb _ _ => hL
        (try simp only [Act.put, List.setIfInBounds_toArray, List.set_cons_zero, List.set_cons_succ])
        refine late_one (i := 14) (by kernel_rfl) hL (fun hL' => ?_)
        refine wpOp_step rfl (fun K hK0 => ?_)
        have hK : Shut _ := hK0
        clear hK0
        go_simp
        refine hK.out _ _ ⟨fun _ => ⟨hbrd.cell, h10d, t1d⟩, ?_⟩
        clear hK K; clear hL; rename Shutb _ _ => hL
        (try simp only [Act.put, List.setIfInBounds_toArray, List.set_cons_zero, List.set_cons_succ])
        refine late_one (i := 15) (by kernel_rfl) hL (fun hL' => ?_)
        refine wpOp_step rfl (fun K hK0 => ?_)
        have hK : Shut _ := hK0
        clear hK0
        go_simp
        refine hK.out _ _ ⟨fun e => absurd (e : true = false) (by decide), ?_⟩
        clear hK K; clear hL; rename Shutb _ _ => hL
        (try simp only [Act.put, List.setIfInBounds_toArray, List.set_cons_zero, List.set_cons_succ])
        refine late_done (by kernel_rfl) ?_
        (try dsimp only [Exit.then])
        go_wp2
        refine bodyPost_ret (v := .tuple #[.int .i64 k, .int .i64 (G - n), .bool true]) (by simp [results, Try.results26, go_sem, hwd]) rfl ⟨?_, hEw'.drew⟩
        rw [← HV.out]; rfl
      · have hV := HSF.out
        rw [HST2.out, if_neg hng] at hV
        have HV := Lib.hid hV
        clear hV HST2 HSF
        go_wp2
        refine wp_region_ext 12 (fun _ _ d _ _ h => by cases d <;> exact h) (by kernel_rfl) (by kernel_rfl) (by kernel_rfl) (by kernel_rfl) ?_
        simp only [List.take_succ_cons, List.take_zero, List.drop_succ_cons, List.drop_zero]
        repeat (any_goals (first | go_big_quiet_step (fail) | quiet_step (fail)))
        all_goals (refine wpQuiet_nil ?_; intro w' hE')
        unfold wpList
        go_wp2
        go_roundw
        case rel => exact ⟨k + 1, by omega, by go_num, HV.out, hE.trans hE'⟩
        case measure => simp [intOf]; omega
    · obtain rfl : k = r.places.length := by omega
      have hV := HSF.out
      rw [List.drop_length] at hV
      have HV := Lib.hid hV
      clear hV HSF
      go_wp2
      refine bodyPost_ret (v := .tuple #[.int .i64 0, .int .i64 0, .bool false]) (by simp [results, Try.results26, go_sem]) rfl ⟨?_, hEw⟩
      rw [← HV.out]; rfl
end Go.Proofs.Ythffoglpekpmdaa
