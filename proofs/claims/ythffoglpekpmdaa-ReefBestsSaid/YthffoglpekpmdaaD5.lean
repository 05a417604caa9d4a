/- What becomes of a reef in truth, as the document runs it. -/
import Derived.Test.YthffoglpekpmdaaD4
import Derived.Test.YthffoglpekpmdaaF4
import Derived.Test.YthffoglpekpmdaaLate2
import Derived.Maps.AppendAt
namespace Go.Proofs.Ythffoglpekpmdaa
set_option linter.unusedVariables false
set_option linter.unusedSimpArgs false
open Go.RowKit
abbrev ledC (a b c d e : Int) : Array Value := #[.int .i64 a, .int .i64 b, .int .i64 c, .int .i64 d, .int .i64 e]
set_option maxRecDepth 100000 in
set_option maxHeartbeats 16000000 in
theorem drun_any (r : R.Reef) (plan : List Int) (t : R.Truth) (vp vs vg vt : Value) (w : World) (hP : Places w vp r.places) (hS : Ints w vs t.starts) (hG : Lists w vg t.grows) (hT : Lists w vt t.takes)
    (O : R.OkR r) (T : R.OkT r plan t) :
    Calls Try.prog 21 #[.agg (reefV r vp), .agg (truthV vs vg vt)] w fun x w' => ∃ v, x = .returned (.tuple #[v, .agg (ledgerV (R.ledger r t))]) ∧ ListsF w.heap.size w' v (R.fishOf r t) ∧ Ext w w' := by
  have hP' := hP
  have hS' := hS
  have hG' := hG
  have hT' := hT
  obtain ⟨a1, c1, rfl, hx1⟩ := hP'
  have hn1 := O.n1
  have hn4 := O.n4
  have hls := T.ls
  have hsl : 0 < r.places.length := by omega
  obtain ⟨a3, c3, rfl, hx3⟩ := hS'
  obtain ⟨b3, off3, rfl, hb3, hq3⟩ := hx3 0 (by omega)
  clear hq3
  obtain ⟨a4, c4, rfl, hx4⟩ := hG'
  obtain ⟨a5, c5, rfl, hx5⟩ := hT'
  have hSs := hS.sls
  rw [hls] at hS hSs
  rw [hls]
  have HLS := Lib.hid hls
  have hst0 := R.starts_nn O T
  have hst1 := R.starts_sum O T
  have hs1 := O.s1
  have hs4 := O.s4
  have HO := Lib.hid O
  have HT := Lib.hid T
  have HSS := Lib.hid hSs
  have HX1 := Lib.hid hx1
  have HX4 := Lib.hid hx4
  have HX5 := Lib.hid hx5
  have HN0 := Lib.hid hst0
  obtain ⟨i0, hi, hz0, hz1, hz2⟩ := info_parts int_info
  obtain ⟨i9, hi9, hy0, hy1, hy2⟩ := info_parts row_info
  have hpc := plus_cell
  clear O T hls hx1 hx3 hx4 hx5 hSs hst0
  go_enter Try.func21, Try.ntmps21
  go_upto_region 1 with (fail)
  obtain ⟨w1, hw1⟩ : ∃ w1, ((w.alloc (.cells (reefV r (.slice a1 r.places.length c1)) 24)).alloc (.cells (truthV (.slice (some ⟨b3, off3, none⟩) r.places.length c3) (.slice a4 t.grows.length c4) (.slice a5 t.takes.length c5)) 28)).alloc (.cells (ledC 0 0 0 0 0) 33) = w1 := ⟨_, rfl⟩
  have hbx : Blk w1 w.heap.size (reefV r (.slice a1 r.places.length c1)) 24 := by rw [← hw1]; exact ((Blk.new' rfl _ _).alloc _).alloc _
  have hbt : Blk w1 (w.heap.size + 1) (truthV (.slice (some ⟨b3, off3, none⟩) r.places.length c3) (.slice a4 t.grows.length c4) (.slice a5 t.takes.length c5)) 28 := by rw [← hw1]; exact (Blk.new' (by simp) _ _).alloc _
  have hbo : Blk w1 (w.heap.size + 1 + 1) (ledC 0 0 0 0 0) 33 := by rw [← hw1]; exact Blk.new' (by simp) _ _
  have hE1 : Ext w w1 := by rw [← hw1]; (with_reducible (repeat (first | exact Ext.refl _ | assumption | apply Ext.alloc | apply Ext.drew | exact ext_plus _ _ | (apply Ext.setCell; rotate_left; (simp <;> omega)) | (apply Ext.trans; rotate_left; exact ext_plus _ _) | (apply Ext.trans; rotate_left; assumption))))
  have hz1w : w1.heap.size = w.heap.size + 3 := by rw [← hw1]; simp
  rw [hw1]
  clear hw1
  have d0 := hbt.cell
  have d1 := hbt.lt
  go_upto_region 3 with (first | (at_builtin; refine wpList_append_own _ rfl _ _ 25 rfl w1.heap.size 3 i0 (.int .i64 0) 1 8 Try.underlying25 hi hz0 hz1 hz2 rfl (by decide) _ 0 [] rfl (World.ownsRow_nil _ _ _ _) ⟨b3, off3, none⟩ r.places.length c3 (t.starts.flatMap intC) rfl (by rw [flat_len intC 1 intC_len, HLS.out]) (sls_news intC_len (by decide) (by have h := Sls.ext (ate_stays _) HSS.out hE1; exact h)) (intC_one _) (by unfold maxLen; omega) (by omega) (by simp <;> omega) ?_; intro v2 w2 hown2 hgr2 _; obtain ⟨g, cap, rfl, hg0, hg1⟩ := own_pos hown2 (by omega)))
  have hRw2 : IRow w2 g t.starts := by
    have h : w2.ownsRow w1.heap.size 3 1 (.slice (some ⟨g, 0, none⟩) r.places.length cap) r.places.length (t.starts.flatMap intC) := by simpa using hown2
    rw [← HLS.out] at h
    exact RowB.of_own (f := intC) intC_len h
  have hE2 : Ext w1 w2 := Ext.grown (Ext.refl _) hgr2 (own_base (World.ownsRow_nil w1 w1.heap.size 3 1))
  obtain ⟨w3, hw3⟩ : ∃ w3, w2.alloc (.cells (ledC 0 0 0 0 0) 33) = w3 := ⟨_, rfl⟩
  obtain ⟨bL, hbL⟩ : ∃ bL, w2.heap.size = bL := ⟨_, rfl⟩
  have hBL : Blk w3 bL (ledC (t.starts.take 0).sum 0 0 0 0) 33 := by rw [← hw3]; exact Blk.new' hbL.symm _ _
  have hRow : IRow w3 g t.starts := by rw [← hw3]; exact RowB.ext hRw2 ((Ext.refl _).alloc _)
  have hE13 : Ext w1 w3 := by rw [← hw3]; exact hE2.alloc _
  rw [hw3, hbL]
  have hE3 : Ext w w3 := hE1.trans hE13
  have hne : g ≠ bL := by omega
  have hb0 : w.heap.size ≤ bL := by have := hE2.size; omega
  have hb1 : w.heap.size + 3 ≤ bL := by have := hE2.size; omega
  have hg1' : w.heap.size + 3 ≤ g := by omega
  have hg0' : w.heap.size ≤ g := by omega
  have hbl3 := hBL.lt
  have hbx3 := hbx.ext hE13
  have hbt3 := hbt.ext hE13
  have hbo3 := hbo.ext hE13
  clear hw3 hown2 hgr2 hRw2 d0 d1 hg1 hg0 hE2 hbL hbx hbt hbo hE13
  go_wp2
  go_loopw [8] (fun i wr => ∃ k : Nat, k ≤ r.places.length ∧ i = .int .i64 k ∧ Blk wr bL (ledC ((t.starts.take k).sum) 0 0 0 0) 33 ∧ IRow wr g t.starts ∧ Off bL g w3 wr) (fun i _ => r.places.length - (intOf i).toNat)
  case atStart => exact ⟨0, Nat.zero_le _, rfl, hBL, hRow, Off.refl _ _ _⟩
  case round =>
    rename World => wr
    obtain ⟨k, hk, rfl, hB, hR, hO⟩ := hrel
    by_cases hlt : k < r.places.length
    · have hks : k < t.starts.length := by have := HLS.out; omega
      have hsn : (t.starts.take (k + 1)).sum = (t.starts.take k).sum + t.starts[k] := by rw [List.take_succ_eq_append_getElem hks, List.sum_append]; simp
      have hs1 := sum_bd HN0.out (show t.starts.sum ≤ 1000000000 by omega) k (by omega)
      have hs2 := HN0.out k
      have hs3 := R.iat_le_sum t.starts k HN0.out
      have hs4 := (show t.starts.sum ≤ 1000000000 by omega)
      rw [iat_of hks] at hs2 hs3
      have d0 := hB.cell
      have d1 := hB.lt
      have r0 := IRow.get hR k hks
      have r2 := RowB.lt hR
      generalize hy : t.starts[k] = y at r0 hsn hs2 hs3
      obtain ⟨S, hS⟩ : ∃ S, (t.starts.take k).sum = S := ⟨_, rfl⟩
      rw [hS] at hsn hs1 hB d0
      have HSN := Lib.hid hsn
      have hwS : IntKind.wrap .i64 (S + y) = S + y := IntWalk.i64_in _ (by omega)
      clear hsn hy hS
      go_upto_region 6 with (fail)
      refine wp_region_ext 8 (fun _ _ d _ _ h => by cases d <;> exact h) (by kernel_rfl) (by kernel_rfl) (by kernel_rfl) (by kernel_rfl) ?_
      simp only [List.take_succ_cons, List.take_zero, List.drop_succ_cons, List.drop_zero]
      repeat (any_goals (first | go_big_quiet_step (fail) | quiet_step (fail)))
      all_goals (refine wpQuiet_nil ?_; intro w' hE')
      have hB' := hB.ext hE'
      have s3 := hB'.cell
      have s4 := hB'.lt
      have s5 := hB'.free
      clear r0 r2 d0 d1
      go_wp2
      go_roundw
      case rel => exact ⟨k + 1, by omega, by go_num, by rw [HSN.out]; exact hB'.set 0 (.int .i64 (S + y)), RowB.other (RowB.ext hR hE') (a := ⟨bL, 0, none⟩) (fun e => hne e.symm) _, (hO.ext hE').set (a := ⟨bL, 0, none⟩) (.inl rfl) _⟩
      case measure => simp [intOf]; omega
    · obtain rfl : k = r.places.length := by omega
      have hta : t.starts.take r.places.length = t.starts := by rw [← HLS.out]; exact List.take_length
      rw [hta] at hB
      obtain ⟨m, hm⟩ := Int.eq_ofNat_of_zero_le (show 0 ≤ r.seasons by omega)
      have hm4 : m ≤ 4 := by omega
      have HM := Lib.hid hm
      have hbX := hbx3.off hO (by omega) (by omega)
      have hbT := hbt3.off hO (by omega) (by omega)
      have hbO := hbo3.off hO (by omega) (by omega)
      have hE4 : Ext w wr := hO.ext0 hE3 hb0 hg0'
      have hbL4 := hB.lt
      have hgL4 := RowB.lt hR
      clear hm hta hO hBL hRow hbx3 hbt3 hbo3 hE3 hbl3
      rename World => w4
      go_wp2
      go_loopw [9, 10] (fun v i wr => ∃ (s : Nat) (L : List (List Int × Value)), s ≤ m ∧ i = .int .i64 s ∧ L.length = s ∧ wr.ownsRow w4.heap.size 25 1 v L.length (L.map Prod.snd) ∧ (∀ p ∈ L, Apart bL g w.heap.size wr p) ∧ L.map Prod.fst = (List.range s).map (fun s => (R.stateAt r t (s + 1)).fish) ∧
          Blk wr bL (ledC t.starts.sum (R.stateAt r t s).grown (R.stateAt r t s).taken (R.stateAt r t s).gone 0) 33 ∧ IRow wr g (R.stateAt r t s).fish ∧ Off bL g w4 wr)
        (fun _ i _ => m - (intOf i).toNat)
      case atStart => exact ⟨0, [], Nat.zero_le _, rfl, rfl, World.ownsRow_nil _ _ _ _, by simp, rfl, hB, hR, Off.refl _ _ _⟩
      case round =>
        rename World => wr
        obtain ⟨s, L, hs, rfl, hLl, hown, hLa, hLf, hBr, hRr, hOr⟩ := hrel
        have HLA := Lib.hid hLa
        have HLF := Lib.hid hLf
        have HLL := Lib.hid hLl
        have hbX2 := hbX.off hOr (by omega) (by omega)
        have hbT2 := hbT.off hOr (by omega) (by omega)
        have hbO2 := hbO.off hOr (by omega) (by omega)
        have hEr : Ext w wr := hOr.ext0 hE4 hb0 hg0'
        have d0 := hbX2.cell
        have d1 := hbX2.lt
        have hfn := R.fine_at HO.out HT.out s (by have := HM.out; omega)
        clear hLa hLf hLl
        by_cases hlt : s < m
        · have hlt' : (s : Int) < r.seasons := by have := HM.out; omega
          have hmt : s < r.seasons.toNat := by have := HM.out; omega
          have hsg : s < t.grows.length := by have := HT.out.lg; have := HM.out; omega
          have hst : s < t.takes.length := by have := HT.out.lt; have := HM.out; omega
          have hbd := R.fine_bd HO.out HT.out (by omega : s ≤ 4) hfn
          have hgrow := fun i hi => HT.out.grow s hmt i hi
          have htake := fun i hi => HT.out.take s hmt i hi
          have hgl := HT.out.gl s hmt
          have htl := HT.out.tl s hmt
          rw [lat_of hsg] at hgl
          rw [lat_of hst] at htl
          simp only [lat_of hsg] at hgrow
          simp only [lat_of hst] at htake
          have hstep : R.stateAt r t (s + 1) = R.season r.places t.grows[s] t.takes[s] (R.stateAt r t s) := by
            show R.season r.places (R.lat t.grows s) (R.lat t.takes s) (R.stateAt r t s) = _
            rw [lat_of hsg, lat_of hst]
          obtain ⟨b6, off6, rfl, hb6, v6, h06, hv6, _⟩ := HX4.out s hsg
          obtain ⟨b7, off7, rfl, hb7, v7, h07, hv7, _⟩ := HX5.out s hst
          generalize t.grows[s] = gs at hgl hgrow hstep hv6
          generalize t.takes[s] = ks at htl htake hstep hv7
          obtain ⟨x, hx⟩ : ∃ x, R.stateAt r t s = x := ⟨_, rfl⟩
          rw [hx] at hBr hRr hstep hbd hfn
          have hxl := hfn.len
          have hgr2 : ∀ i, i < r.places.length → 0 ≤ R.iat gs i ∧ R.iat gs i ≤ 2000 := fun i hi => by have h1 := hgrow i hi; have h2 := (HO.out.place i hi).g0; have h3 := (HO.out.place i hi).g2; omega
          have htk2 : ∀ i, i < r.places.length → 0 ≤ R.iat ks i ∧ R.iat ks i ≤ 1000000 := fun i hi => by have h1 := htake i hi; have h2 := R.take_bd (HO.out.place i hi) (R.has (R.iat plan s) i); omega
          have hgi := fun k hk => R.growTo_inv (ps := r.places) (gs := gs) (fish := x.fish) (g0 := x.grown) hxl hfn.nn HO.out.place (fun i hi => (hgr2 i hi).1) k hk
          obtain ⟨A, hA⟩ : ∃ A, R.growTo r.places gs (x.fish, x.grown) r.places.length = A := ⟨_, rfl⟩
          have hgA := hgi r.places.length (Nat.le_refl _)
          rw [hA] at hgA
          have hAl : A.1.length = r.places.length := by rw [hgA.len, hxl]
          have hdi := fun k hk => R.driftTo_inv (ps := r.places) (now := A.1) (g0 := x.gone) hAl hgA.nn HO.out.place k hk
          obtain ⟨D, hD⟩ : ∃ D, R.driftTo r.places A.1 (A.1, x.gone) r.places.length = D := ⟨_, rfl⟩
          have hdD := hdi r.places.length (Nat.le_refl _)
          rw [hD] at hdD
          have hDl : D.1.length = r.places.length := by rw [hdD.len, hAl]
          have hti := fun k hk => R.takeTo_inv (ks := ks) (fish := D.1) (g0 := x.taken) hdD.nn (fun i hi => (htk2 i (by omega)).1) k hk
          obtain ⟨C, hC⟩ : ∃ C, R.takeTo ks (D.1, x.taken) r.places.length = C := ⟨_, rfl⟩
          have htC := hti r.places.length (by omega)
          rw [hC] at htC
          have hCl : C.1.length = r.places.length := by rw [htC.len, hDl]
          have hstep2 : R.stateAt r t (s + 1) = ⟨C.1, A.2, D.2, C.2⟩ := by rw [hstep]; unfold R.season; simp only [hA, hD, hC]
          have hxs := R.sum_nn _ hfn.nn
          have hx1 := hbd.1
          have hx2 := hbd.2.1
          have hx3 := hbd.2.2.1
          have hx4 := hbd.2.2.2.1
          have hx5 := hfn.g0
          have hx6 := hfn.t0
          have hx7 := hfn.r0
          have hA1 := hgA.sum
          have hA2 := hgA.lo
          have hA3 := hgA.hi
          have hD1 := hdD.sum
          have hD2 := hdD.lo
          have hAn := R.sum_nn _ hgA.nn
          have hDn := R.sum_nn _ hdD.nn
          have HST := Lib.hid hstep2
          have HGI := Lib.hid hgi
          have HDI := Lib.hid hdi
          have HTI := Lib.hid hti
          have HA := Lib.hid hA
          have HD := Lib.hid hD
          have HC := Lib.hid hC
          have HG2 := Lib.hid hgr2
          have HK2 := Lib.hid htk2
          have HXL := Lib.hid hxl
          have HAL := Lib.hid hAl
          have HDL := Lib.hid hDl
          have HCL := Lib.hid hCl
          have HGL := Lib.hid hgl
          have HTL := Lib.hid htl
          have HXN := Lib.hid hfn.nn
          have HAN := Lib.hid hgA.nn
          have HDN := Lib.hid hdD.nn
          simp only [Nat.mul_one] at h06 h07
          obtain ⟨a6, c6, rfl, hx66⟩ := hv6
          obtain ⟨a7, c7, rfl, hx77⟩ := hv7
          rw [hgl] at h06
          rw [htl] at h07
          have HX6 := Lib.hid hx66
          have HX7 := Lib.hid hx77
          clear hx hstep hstep2 hgi hdi hti hA hD hC hgr2 htk2 hxl hAl hDl hCl hgl htl hgrow htake hfn hbd hgA hdD htC hx66 hx77 hmt
          go_upto_region 11 with (fail)
          have hOr0 := Off.refl bL g wr
          go_wp2
          clear d0 d1
          go_loopw [11] (fun i wx => ∃ (k : Nat) (st : R.St), k ≤ r.places.length ∧ i = .int .i64 k ∧ R.growTo r.places gs (x.fish, x.grown) k = st ∧ Blk wx bL (ledC t.starts.sum st.2 x.taken x.gone 0) 33 ∧ IRow wx g st.1 ∧ Off bL g wr wx) (fun i _ => r.places.length - (intOf i).toNat)
          case atStart => exact ⟨0, _, Nat.zero_le _, rfl, rfl, hBr, hRr, hOr0⟩
          case round =>
            rename World => wx
            obtain ⟨k, st, hk, rfl, hst, hBx, hRx, hOx⟩ := hrel
            have hinv := HGI.out k hk
            rw [hst] at hinv
            have HSTT := Lib.hid hst
            have hbX3 := hbX2.off hOx (by omega) (by omega)
            have hbT3 := hbT2.off hOx (by omega) (by omega)
            have hEx : Ext w wx := hOx.ext0 hEr hb0 hg0'
            clear hst
            by_cases hltk : k < r.places.length
            · obtain ⟨b1, off1, rfl, hb1, hAt⟩ := HX1.out k hltk
              have hkg : k < gs.length := by have := HGL.out; omega
              have hks : k < st.1.length := by have := HXL.out; rw [hinv.len]; omega
              obtain ⟨b8, off8, rfl, hb8, h08⟩ := HX6.out k hkg
              have u8 := (hEx.cells.1 _ _ hb8).trans h08
              have u6 := (hEx.cells.1 _ _ hb6).trans h06
              have p0 := ate_stays _ _ _ _ _ _ hEx hb1 hAt
              obtain ⟨p0, p1, p2, p3, p4, p5, p6, p7, p8, p9, p10, p11⟩ := place_cells p0
              have q8 : b8 < wx.heap.size := Nat.lt_of_lt_of_le hb8 hEx.size
              have q6 : b6 < wx.heap.size := Nat.lt_of_lt_of_le hb6 hEx.size
              have q1 : b1 < wx.heap.size := Nat.lt_of_lt_of_le hb1 hEx.size
              have r0 := IRow.get hRx k hks
              have r2 := RowB.lt hRx
              have d0 := hbX3.cell
              have d1 := hbX3.lt
              have e0 := hbT3.cell
              have e1 := hbT3.lt
              have hok := HO.out.place k hltk
              have hgk := HG2.out k hltk
              have hnn := hinv.nn k
              have hlo := hinv.lo
              have hhi := hinv.hi
              have hsm := hinv.sum
              have hle := R.iat_le_sum st.1 k hinv.nn
              have hsu := R.growTo_succ r.places gs (x.fish, x.grown) k
              rw [HSTT.out] at hsu
              unfold R.growStep at hsu
              have hgb := R.grown_bd hok hnn hgk.1
              rw [pat_of hltk] at hok hsu hgb
              rw [iat_of hks] at hnn hsu hgb hle
              rw [iat_of hkg] at hgk hsu hgb
              clear hAt h08
              obtain ⟨p, hp⟩ : ∃ p, r.places[k] = p := ⟨_, rfl⟩
              obtain ⟨f, hff⟩ : ∃ f, st.1[k] = f := ⟨_, rfl⟩
              obtain ⟨G, hGG⟩ : ∃ G, gs[k] = G := ⟨_, rfl⟩
              rw [hp] at p0 p1 p2 p3 p4 p5 p6 p7 p8 p9 p10 p11 hok hsu hgb
              rw [hff] at r0 hnn hsu hgb hle
              rw [hGG] at u8 hgk hsu hgb
              have HFF := Lib.hid hff
              have hgr := fun w' => dgrown_any p f G w' hnn (by omega) hgk.1 hgk.2 hok.r0 hok.r1
              obtain ⟨X, hX⟩ : ∃ X, R.grown p f G = X := ⟨_, rfl⟩
              rw [hX] at hsu hgb
              simp only [hX] at hgr
              have HGR := Lib.hid hgr
              have HSU := Lib.hid hsu
              clear hp hff hGG hok hX hgr hsu
              go_upto_region 14 with (fail)
              refine wp_region_ext 18 (fun _ _ d _ _ h => by cases d <;> exact h) (by kernel_rfl) (by kernel_rfl) (by kernel_rfl) (by kernel_rfl) ?_
              simp only [List.take_succ_cons, List.take_zero, List.drop_succ_cons, List.drop_zero]
              repeat (any_goals (first | go_big_quiet_step ((go_at_call 56; exact ext_quiet (HGR.out _))) | quiet_step ((go_at_call 56; exact ext_quiet (HGR.out _)))))
              all_goals (refine wpQuiet_nil ?_; intro w' hE')
              have hBL1 := hBx.ext hE'
              have hRow1 := RowB.ext hRx hE'
              have hOff1 := hOx.ext hE'
              have hwf : IntKind.wrap .i64 (f + X) = f + X := IntWalk.i64_in _ (by omega)
              have hwl : IntKind.wrap .i64 (st.2 + X) = st.2 + X := IntWalk.i64_in _ (by omega)
              clear p0 p1 p2 p3 p4 p5 p6 p7 p8 p9 p10 p11 u8 u6 q8 q6 q1 r0 r2 d0 d1 e0 e1
              go_upto_region 15 with (fail)
              have hBd := hBL1.drew
              have hRd : IRow w'.drew g st.1 := RowB.ext hRow1 ((Ext.refl _).drew)
              have h16 := hBd.cell
              have h11 := IRow.get hRd k hks
              rw [HFF.out] at h11
              refine wp_region_late2 13 15 (fun a b y => (b = false → ∀ o, y.cell? ⟨bL, o, none⟩ = (ledC t.starts.sum st.2 x.taken x.gone 0 : Array Value)[o]?) ∧ (a = false → y.cell? ⟨g, k, none⟩ = some (.int .i64 f))) (by kernel_rfl) (fun hL => ?_)
              refine late_early2 (i := 0) (v := ?_) rfl (by kernel_rfl) (by kernel_rfl) (by kernel_rfl) (by decide) (by decide) (by kernel_rfl) (by kernel_rfl) (fun _ _ _ h => h) hL (Or.inl ⟨by rfl, ?_⟩) ⟨fun _ => h16, fun _ => h11⟩ (fun hL' => ?_)
              rotate_left
              · intro y hy; obtain ⟨g16, g11⟩ := hy; have g16 := g16 rfl; (try have g11 := g11 rfl); go_simp; (try with_reducible rfl)
              clear hL; rename Shutb _ _ => hL
              (try simp only [Act.put, List.setIfInBounds_toArray, List.set_cons_zero, List.set_cons_succ])
              refine late_early2 (i := 1) (v := ?_) rfl (by kernel_rfl) (by kernel_rfl) (by kernel_rfl) (by decide) (by decide) (by kernel_rfl) (by kernel_rfl) (fun _ _ _ h => h) hL (Or.inl ⟨by rfl, ?_⟩) ⟨fun _ => h16, fun _ => h11⟩ (fun hL' => ?_)
              rotate_left
              · intro y hy; obtain ⟨g16, g11⟩ := hy; have g16 := g16 rfl; (try have g11 := g11 rfl); go_simp; (try with_reducible rfl)
              clear hL; rename Shutb _ _ => hL
              (try simp only [Act.put, List.setIfInBounds_toArray, List.set_cons_zero, List.set_cons_succ])
              refine late_early2 (i := 2) (v := ?_) rfl (by kernel_rfl) (by kernel_rfl) (by kernel_rfl) (by decide) (by decide) (by kernel_rfl) (by kernel_rfl) (fun _ _ _ h => h) hL (Or.inl ⟨by rfl, ?_⟩) ⟨fun _ => h16, fun _ => h11⟩ (fun hL' => ?_)
              rotate_left
              · intro y hy; obtain ⟨g16, g11⟩ := hy; have g16 := g16 rfl; (try have g11 := g11 rfl); go_simp; (try with_reducible rfl)
              clear hL; rename Shutb _ _ => hL
              (try simp only [Act.put, List.setIfInBounds_toArray, List.set_cons_zero, List.set_cons_succ])
              refine late_early2 (i := 3) (v := ?_) rfl (by kernel_rfl) (by kernel_rfl) (by kernel_rfl) (by decide) (by decide) (by kernel_rfl) (by kernel_rfl) (fun _ _ _ h => h) hL (Or.inl ⟨by rfl, ?_⟩) ⟨fun _ => h16, fun _ => h11⟩ (fun hL' => ?_)
              rotate_left
              · intro y hy; obtain ⟨g16, g11⟩ := hy; have g16 := g16 rfl; (try have g11 := g11 rfl); go_simp; (try with_reducible rfl)
              clear hL; rename Shutb _ _ => hL
              (try simp only [Act.put, List.setIfInBounds_toArray, List.set_cons_zero, List.set_cons_succ])
              refine late_early2 (i := 4) (v := ?_) rfl (by kernel_rfl) (by kernel_rfl) (by kernel_rfl) (by decide) (by decide) (by kernel_rfl) (by kernel_rfl) (fun _ _ _ h => h) hL (Or.inl ⟨by rfl, ?_⟩) ⟨fun _ => h16, fun _ => h11⟩ (fun hL' => ?_)
              rotate_left
              · intro y hy; obtain ⟨g16, g11⟩ := hy; have g16 := g16 rfl; (try have g11 := g11 rfl); go_simp; (try with_reducible rfl)
              clear hL; rename Shutb _ _ => hL
              (try simp only [Act.put, List.setIfInBounds_toArray, List.set_cons_zero, List.set_cons_succ])
              refine late_early2 (i := 5) (v := ?_) rfl (by kernel_rfl) (by kernel_rfl) (by kernel_rfl) (by decide) (by decide) (by kernel_rfl) (by kernel_rfl) (fun _ _ _ h => h) hL (Or.inl ⟨by rfl, ?_⟩) ⟨fun _ => h16, fun _ => h11⟩ (fun hL' => ?_)
              rotate_left
              · intro y hy; obtain ⟨g16, g11⟩ := hy; have g16 := g16 rfl; (try have g11 := g11 rfl); go_simp; (try with_reducible rfl)
              clear hL; rename Shutb _ _ => hL
              (try simp only [Act.put, List.setIfInBounds_toArray, List.set_cons_zero, List.set_cons_succ])
              refine late_early2 (i := 6) (v := ?_) rfl (by kernel_rfl) (by kernel_rfl) (by kernel_rfl) (by decide) (by decide) (by kernel_rfl) (by kernel_rfl) (fun _ _ _ h => h) hL (Or.inl ⟨by rfl, ?_⟩) ⟨fun _ => h16, fun _ => h11⟩ (fun hL' => ?_)
              rotate_left
              · intro y hy; obtain ⟨g16, g11⟩ := hy; have g16 := g16 rfl; (try have g11 := g11 rfl); go_simp; (try with_reducible rfl)
              clear hL; rename Shutb _ _ => hL
              (try simp only [Act.put, List.setIfInBounds_toArray, List.set_cons_zero, List.set_cons_succ])
              refine late_early2 (i := 7) (v := ?_) rfl (by kernel_rfl) (by kernel_rfl) (by kernel_rfl) (by decide) (by decide) (by kernel_rfl) (by kernel_rfl) (fun _ _ _ h => h) hL (Or.inl ⟨by rfl, ?_⟩) ⟨fun _ => h16, fun _ => h11⟩ (fun hL' => ?_)
              rotate_left
              · intro y hy; obtain ⟨g16, g11⟩ := hy; have g16 := g16 rfl; (try have g11 := g11 rfl); go_simp; (try with_reducible rfl)
              clear hL; rename Shutb _ _ => hL
              (try simp only [Act.put, List.setIfInBounds_toArray, List.set_cons_zero, List.set_cons_succ])
              refine late_mid2 (i := 8) (v := ?_) rfl (by kernel_rfl) (by kernel_rfl) (by kernel_rfl) (by decide) (by decide) (by kernel_rfl) (fun _ h => ⟨h.1, fun e => by cases e⟩) (fun _ _ _ h => h) hL (Or.inl ⟨by rfl, ?_⟩) ⟨fun _ => h16, fun _ => h11⟩ (fun hL' => ?_)
              rotate_left
              · intro y hy; obtain ⟨g16, g11⟩ := hy; have g16 := g16 rfl; (try have g11 := g11 rfl); go_simp; (try with_reducible rfl)
              clear hL; rename Shutb _ _ => hL
              (try simp only [Act.put, List.setIfInBounds_toArray, List.set_cons_zero, List.set_cons_succ])
              refine late_mid2 (i := 9) (v := ?_) rfl (by kernel_rfl) (by kernel_rfl) (by kernel_rfl) (by decide) (by decide) (by kernel_rfl) (fun _ h => ⟨h.1, fun e => by cases e⟩) (fun _ _ _ h => h) hL (Or.inl ⟨by rfl, ?_⟩) ⟨fun _ => h16, fun _ => h11⟩ (fun hL' => ?_)
              rotate_left
              · intro y hy; obtain ⟨g16, g11⟩ := hy; have g16 := g16 rfl; (try have g11 := g11 rfl); go_simp; (try with_reducible rfl)
              clear hL; rename Shutb _ _ => hL
              (try simp only [Act.put, List.setIfInBounds_toArray, List.set_cons_zero, List.set_cons_succ])
              refine late_mid2 (i := 10) (v := ?_) rfl (by kernel_rfl) (by kernel_rfl) (by kernel_rfl) (by decide) (by decide) (by kernel_rfl) (fun _ h => ⟨h.1, fun e => by cases e⟩) (fun _ _ _ h => h) hL (Or.inl ⟨by rfl, ?_⟩) ⟨fun _ => h16, fun _ => h11⟩ (fun hL' => ?_)
              rotate_left
              · intro y hy; obtain ⟨g16, g11⟩ := hy; have g16 := g16 rfl; (try have g11 := g11 rfl); go_simp; (try with_reducible rfl)
              clear hL; rename Shutb _ _ => hL
              (try simp only [Act.put, List.setIfInBounds_toArray, List.set_cons_zero, List.set_cons_succ])
              refine late_mid2 (i := 11) (v := ?_) rfl (by kernel_rfl) (by kernel_rfl) (by kernel_rfl) (by decide) (by decide) (by kernel_rfl) (fun _ h => ⟨h.1, fun e => by cases e⟩) (fun _ _ _ h => h) hL (Or.inl ⟨by rfl, ?_⟩) ⟨fun _ => h16, fun _ => h11⟩ (fun hL' => ?_)
              rotate_left
              · intro y hy; obtain ⟨g16, g11⟩ := hy; have g16 := g16 rfl; (try have g11 := g11 rfl); go_simp; (try with_reducible rfl)
              clear hL; rename Shutb _ _ => hL
              (try simp only [Act.put, List.setIfInBounds_toArray, List.set_cons_zero, List.set_cons_succ])
              refine late_mid2 (i := 12) (v := ?_) rfl (by kernel_rfl) (by kernel_rfl) (by kernel_rfl) (by decide) (by decide) (by kernel_rfl) (fun _ h => ⟨h.1, fun e => by cases e⟩) (fun _ _ _ h => h) hL (Or.inl ⟨by rfl, ?_⟩) ⟨fun _ => h16, fun _ => h11⟩ (fun hL' => ?_)
              rotate_left
              · intro y hy; obtain ⟨g16, g11⟩ := hy; have g16 := g16 rfl; (try have g11 := g11 rfl); go_simp; (try with_reducible rfl)
              clear hL; rename Shutb _ _ => hL
              (try simp only [Act.put, List.setIfInBounds_toArray, List.set_cons_zero, List.set_cons_succ])
              have f11 := RowB.free hRd k
              have f12 := RowB.lt hRd
              refine late_one2 (i := 13) (by kernel_rfl) hL (fun hL2 => ?_)
              refine wpOp_step rfl (fun K hK0 => ?_)
              have hK : Shut _ := hK0
              clear hK0
              go_simp
              have hBe := hBd.other (a := ⟨g, k, none⟩) hne (.int .i64 (f + X))
              have hRe := IRow.set hRd k hks (f + X)
              refine hK.out _ _ ⟨⟨fun _ => hBe.cell, fun e => absurd (e : true = false) (by decide)⟩, ?_⟩
              clear hK K h16 h11 f11 f12
              (try simp only [Act.put, List.setIfInBounds_toArray, List.set_cons_zero, List.set_cons_succ])
              have h16 := hBe.cell
              clear hL; rename Shutb _ _ => hL
              refine late_mid2 (i := 14) (v := ?_) rfl (by kernel_rfl) (by kernel_rfl) (by kernel_rfl) (by decide) (by decide) (by kernel_rfl) (fun _ h => ⟨h.1, fun e => by cases e⟩) (fun _ _ _ h => h) hL (Or.inl ⟨by rfl, ?_⟩) ⟨fun _ => h16, fun e => absurd (e : true = false) (by decide)⟩ (fun hL' => ?_)
              rotate_left
              · intro y hy; obtain ⟨g16, g11⟩ := hy; have g16 := g16 rfl; (try have g11 := g11 rfl); go_simp; (try with_reducible rfl)
              clear hL; rename Shutb _ _ => hL
              (try simp only [Act.put, List.setIfInBounds_toArray, List.set_cons_zero, List.set_cons_succ])
              have f16 := hBL1.free
              have f17 := hBL1.lt
              have f18 := hBL1.cell
              refine late_one2 (i := 15) (by kernel_rfl) hL (fun _ => ?_)
              refine wpOp_step rfl (fun K hK0 => ?_)
              have hK : Shut _ := hK0
              clear hK0
              go_simp
              have hBf := hBe.set 1 (.int .i64 (st.2 + X))
              have hRf := RowB.other hRe (a := ⟨bL, 1, none⟩) (fun e => hne e.symm) (.int .i64 (st.2 + X))
              have hOf := ((hOff1.drew).set (a := ⟨g, k, none⟩) (.inr (.inl rfl)) (.int .i64 (f + X))).set (a := ⟨bL, 1, none⟩) (.inl rfl) (.int .i64 (st.2 + X))
              refine hK.out _ _ ⟨⟨fun e => absurd (e : true = false) (by decide), fun e => absurd (e : true = false) (by decide)⟩, ?_⟩
              clear hK K
              (try simp only [Act.put, List.setIfInBounds_toArray, List.set_cons_zero, List.set_cons_succ])
              refine late_done2 (by kernel_rfl) ?_
              (try dsimp only [Exit.then])
              go_wp2
              go_roundw
              case rel => exact ⟨k + 1, _, by omega, by go_num, HSU.out, hBf, hRf, hOf⟩
              case measure => simp [intOf]; omega
            · obtain rfl : k = r.places.length := by omega
              have hAs : A = st := HA.out.symm.trans HSTT.out
              subst hAs
              have hEy : Ext w wx := hOx.ext0 hEr hb0 hg0'
              have hsrc : Sls 1 (AtE intC) wx (.slice (some ⟨g, 0, none⟩) r.places.length cap) A.1 := (IRow.ints hRx HAL.out.symm cap).sls
              have HSRC := Lib.hid hsrc
              have hbxl := hBx.lt
              have hgxl := RowB.lt hRx
              clear hsrc
              go_upto_region 17 with (first | (at_builtin; refine wpList_append_own _ rfl _ _ 25 rfl wx.heap.size 3 i0 (.int .i64 0) 1 8 Try.underlying25 hi hz0 hz1 hz2 rfl (by decide) _ 0 [] rfl (World.ownsRow_nil _ _ _ _) ⟨g, 0, none⟩ r.places.length cap (A.1.flatMap intC) rfl (by rw [flat_len intC 1 intC_len, HAL.out]) (sls_news intC_len (by decide) (HSRC.out)) (intC_one _) (by unfold maxLen; omega) (by omega) (by simp <;> omega) ?_; intro v2 w5 hown2 hgr5 _; obtain ⟨g2, cap2, rfl, hg2, hg2l⟩ := own_pos hown2 (by omega)))
              have hNow : IRow w5 g2 A.1 := by
                have h : w5.ownsRow wx.heap.size 3 1 (.slice (some ⟨g2, 0, none⟩) r.places.length cap2) r.places.length (A.1.flatMap intC) := by simpa using hown2
                rw [← HAL.out] at h
                exact RowB.of_own (f := intC) intC_len h
              have hE5 : Ext wx w5 := Ext.grown (Ext.refl _) hgr5 (own_base (World.ownsRow_nil wx wx.heap.size 3 1))
              have hB5 := hBx.ext hE5
              have hR5 := RowB.ext hRx hE5
              have hO5 := hOx.ext hE5
              have hne2 : bL ≠ g2 := by omega
              have hne3 : g ≠ g2 := by omega
              clear hown2 hgr5 hBx hRx hOx hinv
              go_wp2
              go_loopw [14] (fun i wx => ∃ (k : Nat) (st : R.St), k ≤ r.places.length ∧ i = .int .i64 k ∧ R.driftTo r.places A.1 (A.1, x.gone) k = st ∧ Blk wx bL (ledC t.starts.sum A.2 x.taken st.2 0) 33 ∧ IRow wx g st.1 ∧ IRow wx g2 A.1 ∧ Off bL g wr wx) (fun i _ => r.places.length - (intOf i).toNat)
              case atStart => exact ⟨0, _, Nat.zero_le _, rfl, rfl, hB5, hR5, hNow, hO5⟩
              case round =>
                clear hB5 hR5 hO5 hNow
                rename World => wy
                obtain ⟨k, st, hk, rfl, hst, hBy, hRy, hNy, hOy⟩ := hrel
                have hinv := HDI.out k hk
                rw [hst] at hinv
                have HSTT := Lib.hid hst
                have hbX3 := hbX2.off hOy (by omega) (by omega)
                have hEz : Ext w wy := hOy.ext0 hEr hb0 hg0'
                clear hst
                by_cases hltk : k < r.places.length
                · obtain ⟨b1, off1, rfl, hb1, hAt⟩ := HX1.out k hltk
                  have hka : k < A.1.length := by have := HAL.out; omega
                  have hks : k < st.1.length := by rw [hinv.len]; omega
                  have p0 := ate_stays _ _ _ _ _ _ hEz hb1 hAt
                  obtain ⟨p0, p1, p2, p3, p4, p5, p6, p7, p8, p9, p10, p11⟩ := place_cells p0
                  have c5 := (place_cells hAt).2.2.2.2.2.1
                  have q1 : b1 < wy.heap.size := Nat.lt_of_lt_of_le hb1 hEz.size
                  have r0 := IRow.get hNy k hka
                  have r2 := RowB.lt hNy
                  have d0 := hbX3.cell
                  have d1 := hbX3.lt
                  have hok := HO.out.place k hltk
                  have hf0 := HAN.out k
                  have hfb := R.iat_le_sum A.1 k HAN.out
                  have hnn := hinv.nn
                  have hsum := hinv.sum
                  have hlo := hinv.lo
                  have hmo := hinv.more k (Nat.le_refl _)
                  have hsn := R.sum_nn st.1 hnn
                  have hle := fun i => R.iat_le_sum st.1 i hnn
                  have hl1 := hle k
                  have hsu := R.driftTo_succ r.places A.1 (A.1, x.gone) k
                  rw [HSTT.out] at hsu
                  unfold R.driftStep at hsu
                  dsimp only at hsu
                  have hgb := R.goes_bd hok hf0
                  rw [pat_of hltk] at hok hsu hgb
                  rw [iat_of hks] at hsu hmo hl1
                  rw [iat_of hka] at hf0 hfb hsu hgb hmo
                  have HNN := Lib.hid hnn
                  have HLE2 := Lib.hid hle
                  clear hAt hnn hle
                  obtain ⟨p, hp⟩ : ∃ p, r.places[k] = p := ⟨_, rfl⟩
                  obtain ⟨f, hff⟩ : ∃ f, A.1[k] = f := ⟨_, rfl⟩
                  obtain ⟨G, hGG⟩ : ∃ G, st.1[k] = G := ⟨_, rfl⟩
                  rw [hp] at p0 p1 p2 p3 p4 p5 p6 p7 p8 p9 p10 p11 c5 hok hsu hgb
                  rw [hff] at r0 hf0 hfb hsu hgb hmo
                  rw [hGG] at hsu hmo hl1
                  have HGG := Lib.hid hGG
                  have hm2 : 0 ≤ f * p.drift ∧ f * p.drift ≤ 1000000000000 := ⟨Int.mul_nonneg hf0 hok.d0, by have := Int.mul_le_mul (show f ≤ 1000000000 by omega) hok.d1 hok.d0 (by omega); omega⟩
                  obtain ⟨X, hX⟩ : ∃ X, R.goes p f = X := ⟨_, rfl⟩
                  have hX' := hX
                  unfold R.goes at hX'
                  rw [hX] at hsu hgb
                  have hwM : IntKind.wrap .i64 (f * p.drift) = f * p.drift := IntWalk.i64_in _ (by omega)
                  obtain ⟨M, hM⟩ : ∃ M, f * p.drift = M := ⟨_, rfl⟩
                  rw [hM] at hm2 hX' hwM
                  have i0' := hok.i0
                  have i1' := hok.i1
                  have i2' := hok.i2
                  have HSU := Lib.hid hsu
                  clear hp hff hGG hX hsu hok
                  go_upto_region 20 with (fail)
                  refine wp_region_ext 12 (fun _ _ d _ _ h => by cases d <;> exact h) (by kernel_rfl) (by kernel_rfl) (by kernel_rfl) (by kernel_rfl) ?_
                  simp only [List.take_succ_cons, List.take_zero, List.drop_succ_cons, List.drop_zero]
                  repeat (any_goals (first | go_big_quiet_step (fail) | quiet_step (fail)))
                  all_goals (refine wpQuiet_nil ?_; intro w' hE')
                  have hB1 := hBy.ext hE'
                  have hR1 := RowB.ext hRy hE'
                  have hN1 := RowB.ext hNy hE'
                  have hO1 := hOy.ext hE'
                  have hbX4 := hbX3.ext hE'
                  (try rw [hX'])
                  have s0 := IRow.get hR1 k hks
                  rw [HGG.out] at s0
                  have s1 := RowB.free hR1 k
                  have s2 := RowB.lt hR1
                  have hwm : IntKind.wrap .i64 (G - X) = G - X := IntWalk.i64_in _ (by omega)
                  clear p0 p1 p2 p3 p4 p5 p6 p7 p8 p9 p10 p11 q1 r0 r2 d0 d1 hwM
                  go_upto_region 22 with (fail)
                  obtain ⟨w2, hw2⟩ : ∃ w2, w'.setCell ⟨g, k, none⟩ (.int .i64 (G - X)) = w2 := ⟨_, rfl⟩
                  have hB2 := hB1.other (a := ⟨g, k, none⟩) hne (.int .i64 (G - X))
                  have hbX5 := hbX4.other (a := ⟨g, k, none⟩) (by simp; omega) (.int .i64 (G - X))
                  have hR2 := IRow.set hR1 k hks (G - X)
                  have hN2 := RowB.other hN1 (a := ⟨g, k, none⟩) (by simp; omega) (.int .i64 (G - X))
                  have hO2 := hO1.set (a := ⟨g, k, none⟩) (.inr (.inl rfl)) (.int .i64 (G - X))
                  rw [hw2] at hB2 hR2 hO2 hbX5 hN2 ⊢
                  clear hw2 s0 s1 s2 hwm
                  have hE2 : Ext w w2 := hO2.ext0 hEr hb0 hg0'
                  have c5' := (hE2.cells.1 b1 _ hb1).trans c5
                  have d0 := hbX5.cell
                  have d1 := hbX5.lt
                  by_cases hin : 0 ≤ p.into
                  · obtain ⟨j, hj⟩ := Int.eq_ofNat_of_zero_le hin
                    have hsu := HSU.out
                    rw [if_pos hin, hj, Int.toNat_natCast] at hsu
                    have hjl : j < (st.1.set k (G - X)).length := by rw [List.length_set, hinv.len]; have := HAL.out; omega
                    have hjk : k ≠ j := by omega
                    have t0 := IRow.get hR2 j hjl
                    have ey : (st.1.set k (G - X))[j] = R.iat st.1 j := by rw [List.getElem_set, if_neg hjk, iat_of (by simpa using hjl)]
                    have hy0 := HNN.out j
                    have hy1 := HLE2.out j
                    rw [iat_of hjl] at hsu
                    rw [ey] at t0 hsu
                    obtain ⟨y, hy⟩ : ∃ y, R.iat st.1 j = y := ⟨_, rfl⟩
                    rw [hy] at t0 hsu hy0 hy1
                    have HSU2 := Lib.hid hsu
                    have hwn : IntKind.wrap .i64 (y + X) = y + X := IntWalk.i64_in _ (by omega)
                    have t1 := RowB.free hR2 j
                    have t2 := RowB.lt hR2
                    have hjn : j < r.places.length := by omega
                    clear hsu hy ey HSU
                    go_wp2
                    go_roundw
                    case rel => exact ⟨k + 1, _, by omega, by go_num, HSU2.out, hB2.other (a := ⟨g, j, none⟩) hne _, IRow.set hR2 j hjl (y + X), RowB.other hN2 (a := ⟨g, j, none⟩) (by simp; omega) _, hO2.set (a := ⟨g, j, none⟩) (.inr (.inl rfl)) _⟩
                    case measure => simp [intOf]; omega
                  · have hsu := HSU.out
                    rw [if_neg hin] at hsu
                    have HSU2 := Lib.hid hsu
                    clear hsu HSU
                    have hwn : IntKind.wrap .i64 (st.2 + X) = st.2 + X := IntWalk.i64_in _ (by omega)
                    have s5 := hB2.cell
                    have s6 := hB2.lt
                    have s7 := hB2.free
                    go_wp2
                    go_roundw
                    case rel => exact ⟨k + 1, _, by omega, by go_num, HSU2.out, hB2.set 3 (.int .i64 (st.2 + X)), RowB.other hR2 (a := ⟨bL, 3, none⟩) (fun e => hne e.symm) _, RowB.other hN2 (a := ⟨bL, 3, none⟩) hne2 _, hO2.set (a := ⟨bL, 3, none⟩) (.inl rfl) _⟩
                    case measure => simp [intOf]; omega
                · obtain rfl : k = r.places.length := by omega
                  have hDs : D = st := HD.out.symm.trans HSTT.out
                  subst hDs
                  go_upto_region 26 with (fail)
                  clear hNy hbX3 hinv
                  go_wp2
                  go_loopw [17] (fun i wx => ∃ (k : Nat) (st : R.St), k ≤ r.places.length ∧ i = .int .i64 k ∧ R.takeTo ks (D.1, x.taken) k = st ∧ Blk wx bL (ledC t.starts.sum A.2 st.2 D.2 0) 33 ∧ IRow wx g st.1 ∧ Off bL g wr wx) (fun i _ => r.places.length - (intOf i).toNat)
                  case atStart => exact ⟨0, _, Nat.zero_le _, rfl, rfl, hBy, hRy, hOy⟩
                  case round =>
                    clear hBy hRy hOy hEz
                    rename World => wx
                    obtain ⟨k, st, hk, rfl, hst, hBx, hRx, hOx⟩ := hrel
                    have hinv := HTI.out k (by have := HDL.out; omega)
                    rw [hst] at hinv
                    have HSTT2 := Lib.hid hst
                    have hbT3 := hbT2.off hOx (by omega) (by omega)
                    have hEx : Ext w wx := hOx.ext0 hEr hb0 hg0'
                    clear hst
                    by_cases hltk : k < r.places.length
                    · have hkg : k < ks.length := by have := HTL.out; omega
                      have hks : k < st.1.length := by have := HDL.out; rw [hinv.len]; omega
                      obtain ⟨b8, off8, rfl, hb8, h08⟩ := HX7.out k hkg
                      have u8 := (hEx.cells.1 _ _ hb8).trans h08
                      have u6 := (hEx.cells.1 _ _ hb7).trans h07
                      have q8 : b8 < wx.heap.size := Nat.lt_of_lt_of_le hb8 hEx.size
                      have q6 : b7 < wx.heap.size := Nat.lt_of_lt_of_le hb7 hEx.size
                      have r0 := IRow.get hRx k hks
                      have r2 := RowB.lt hRx
                      have e0 := hbT3.cell
                      have e1 := hbT3.lt
                      have hgk := HK2.out k hltk
                      have hnn := hinv.nn k
                      have hlo := hinv.lo
                      have hsum := hinv.sum
                      have hsn := R.sum_nn st.1 hinv.nn
                      have hle := R.iat_le_sum st.1 k hinv.nn
                      have hsu := R.takeTo_succ ks (D.1, x.taken) k
                      rw [HSTT2.out] at hsu
                      unfold R.takeStep at hsu
                      rw [iat_of hks] at hnn hsu hle
                      rw [iat_of hkg] at hgk hsu
                      clear h08
                      obtain ⟨f, hff⟩ : ∃ f, st.1[k] = f := ⟨_, rfl⟩
                      obtain ⟨G, hGG⟩ : ∃ G, ks[k] = G := ⟨_, rfl⟩
                      rw [hff] at r0 hnn hsu hle
                      rw [hGG] at u8 hgk hsu
                      have HFF := Lib.hid hff
                      obtain ⟨X, hX⟩ : ∃ X, R.caught f G = X := ⟨_, rfl⟩
                      have hX' := hX
                      unfold R.caught at hX'
                      rw [hX] at hsu
                      have hmin : min f G = X := by rw [← hX']; split <;> omega
                      have hXb : 0 ≤ X ∧ X ≤ f := by rw [← hmin]; omega
                      have HSU := Lib.hid hsu
                      have HMIN := Lib.hid hmin
                      clear hff hGG hsu hX hX' hmin
                      go_upto_region 29 with (fail)
                      refine wp_region_ext 13 (fun _ _ d _ _ h => by cases d <;> exact h) (by kernel_rfl) (by kernel_rfl) (by kernel_rfl) (by kernel_rfl) ?_
                      simp only [List.take_succ_cons, List.take_zero, List.drop_succ_cons, List.drop_zero]
                      repeat (any_goals (first | go_big_quiet_step (fail) | quiet_step (fail)))
                      all_goals (refine wpQuiet_nil ?_; intro w' hE')
                      (try rw [HMIN.out])
                      have hBL1 := hBx.ext hE'
                      have hRow1 := RowB.ext hRx hE'
                      have hOff1 := hOx.ext hE'
                      have hwf : IntKind.wrap .i64 (f - X) = f - X := IntWalk.i64_in _ (by omega)
                      have hwl : IntKind.wrap .i64 (st.2 + X) = st.2 + X := IntWalk.i64_in _ (by omega)
                      clear u8 u6 q8 q6 r0 r2 e0 e1
                      go_upto_region 30 with (fail)
                      have hBd := hBL1.drew
                      have hRd : IRow w'.drew g st.1 := RowB.ext hRow1 ((Ext.refl _).drew)
                      have h16 := hBd.cell
                      have h11 := IRow.get hRd k hks
                      rw [HFF.out] at h11
                      refine wp_region_late2 13 15 (fun a b y => (b = false → ∀ o, y.cell? ⟨bL, o, none⟩ = (ledC t.starts.sum A.2 st.2 D.2 0 : Array Value)[o]?) ∧ (a = false → y.cell? ⟨g, k, none⟩ = some (.int .i64 f))) (by kernel_rfl) (fun hL => ?_)
                      refine late_early2 (i := 0) (v := ?_) rfl (by kernel_rfl) (by kernel_rfl) (by kernel_rfl) (by decide) (by decide) (by kernel_rfl) (by kernel_rfl) (fun _ _ _ h => h) hL (Or.inl ⟨by rfl, ?_⟩) ⟨fun _ => h16, fun _ => h11⟩ (fun hL' => ?_)
                      rotate_left
                      · intro y hy; obtain ⟨g16, g11⟩ := hy; have g16 := g16 rfl; (try have g11 := g11 rfl); go_simp; (try with_reducible rfl)
                      clear hL; rename Shutb _ _ => hL
                      (try simp only [Act.put, List.setIfInBounds_toArray, List.set_cons_zero, List.set_cons_succ])
                      refine late_early2 (i := 1) (v := ?_) rfl (by kernel_rfl) (by kernel_rfl) (by kernel_rfl) (by decide) (by decide) (by kernel_rfl) (by kernel_rfl) (fun _ _ _ h => h) hL (Or.inl ⟨by rfl, ?_⟩) ⟨fun _ => h16, fun _ => h11⟩ (fun hL' => ?_)
                      rotate_left
                      · intro y hy; obtain ⟨g16, g11⟩ := hy; have g16 := g16 rfl; (try have g11 := g11 rfl); go_simp; (try with_reducible rfl)
                      clear hL; rename Shutb _ _ => hL
                      (try simp only [Act.put, List.setIfInBounds_toArray, List.set_cons_zero, List.set_cons_succ])
                      refine late_early2 (i := 2) (v := ?_) rfl (by kernel_rfl) (by kernel_rfl) (by kernel_rfl) (by decide) (by decide) (by kernel_rfl) (by kernel_rfl) (fun _ _ _ h => h) hL (Or.inl ⟨by rfl, ?_⟩) ⟨fun _ => h16, fun _ => h11⟩ (fun hL' => ?_)
                      rotate_left
                      · intro y hy; obtain ⟨g16, g11⟩ := hy; have g16 := g16 rfl; (try have g11 := g11 rfl); go_simp; (try with_reducible rfl)
                      clear hL; rename Shutb _ _ => hL
                      (try simp only [Act.put, List.setIfInBounds_toArray, List.set_cons_zero, List.set_cons_succ])
                      refine late_early2 (i := 3) (v := ?_) rfl (by kernel_rfl) (by kernel_rfl) (by kernel_rfl) (by decide) (by decide) (by kernel_rfl) (by kernel_rfl) (fun _ _ _ h => h) hL (Or.inl ⟨by rfl, ?_⟩) ⟨fun _ => h16, fun _ => h11⟩ (fun hL' => ?_)
                      rotate_left
                      · intro y hy; obtain ⟨g16, g11⟩ := hy; have g16 := g16 rfl; (try have g11 := g11 rfl); go_simp; (try with_reducible rfl)
                      clear hL; rename Shutb _ _ => hL
                      (try simp only [Act.put, List.setIfInBounds_toArray, List.set_cons_zero, List.set_cons_succ])
                      refine late_early2 (i := 4) (v := ?_) rfl (by kernel_rfl) (by kernel_rfl) (by kernel_rfl) (by decide) (by decide) (by kernel_rfl) (by kernel_rfl) (fun _ _ _ h => h) hL (Or.inl ⟨by rfl, ?_⟩) ⟨fun _ => h16, fun _ => h11⟩ (fun hL' => ?_)
                      rotate_left
                      · intro y hy; obtain ⟨g16, g11⟩ := hy; have g16 := g16 rfl; (try have g11 := g11 rfl); go_simp; (try with_reducible rfl)
                      clear hL; rename Shutb _ _ => hL
                      (try simp only [Act.put, List.setIfInBounds_toArray, List.set_cons_zero, List.set_cons_succ])
                      refine late_early2 (i := 5) (v := ?_) rfl (by kernel_rfl) (by kernel_rfl) (by kernel_rfl) (by decide) (by decide) (by kernel_rfl) (by kernel_rfl) (fun _ _ _ h => h) hL (Or.inl ⟨by rfl, ?_⟩) ⟨fun _ => h16, fun _ => h11⟩ (fun hL' => ?_)
                      rotate_left
                      · intro y hy; obtain ⟨g16, g11⟩ := hy; have g16 := g16 rfl; (try have g11 := g11 rfl); go_simp; (try with_reducible rfl)
                      clear hL; rename Shutb _ _ => hL
                      (try simp only [Act.put, List.setIfInBounds_toArray, List.set_cons_zero, List.set_cons_succ])
                      refine late_early2 (i := 6) (v := ?_) rfl (by kernel_rfl) (by kernel_rfl) (by kernel_rfl) (by decide) (by decide) (by kernel_rfl) (by kernel_rfl) (fun _ _ _ h => h) hL (Or.inl ⟨by rfl, ?_⟩) ⟨fun _ => h16, fun _ => h11⟩ (fun hL' => ?_)
                      rotate_left
                      · intro y hy; obtain ⟨g16, g11⟩ := hy; have g16 := g16 rfl; (try have g11 := g11 rfl); go_simp; (try with_reducible rfl)
                      clear hL; rename Shutb _ _ => hL
                      (try simp only [Act.put, List.setIfInBounds_toArray, List.set_cons_zero, List.set_cons_succ])
                      refine late_early2 (i := 7) (v := ?_) rfl (by kernel_rfl) (by kernel_rfl) (by kernel_rfl) (by decide) (by decide) (by kernel_rfl) (by kernel_rfl) (fun _ _ _ h => h) hL (Or.inl ⟨by rfl, ?_⟩) ⟨fun _ => h16, fun _ => h11⟩ (fun hL' => ?_)
                      rotate_left
                      · intro y hy; obtain ⟨g16, g11⟩ := hy; have g16 := g16 rfl; (try have g11 := g11 rfl); go_simp; (try with_reducible rfl)
                      clear hL; rename Shutb _ _ => hL
                      (try simp only [Act.put, List.setIfInBounds_toArray, List.set_cons_zero, List.set_cons_succ])
                      refine late_mid2 (i := 8) (v := ?_) rfl (by kernel_rfl) (by kernel_rfl) (by kernel_rfl) (by decide) (by decide) (by kernel_rfl) (fun _ h => ⟨h.1, fun e => by cases e⟩) (fun _ _ _ h => h) hL (Or.inl ⟨by rfl, ?_⟩) ⟨fun _ => h16, fun _ => h11⟩ (fun hL' => ?_)
                      rotate_left
                      · intro y hy; obtain ⟨g16, g11⟩ := hy; have g16 := g16 rfl; (try have g11 := g11 rfl); go_simp; (try with_reducible rfl)
                      clear hL; rename Shutb _ _ => hL
                      (try simp only [Act.put, List.setIfInBounds_toArray, List.set_cons_zero, List.set_cons_succ])
                      refine late_mid2 (i := 9) (v := ?_) rfl (by kernel_rfl) (by kernel_rfl) (by kernel_rfl) (by decide) (by decide) (by kernel_rfl) (fun _ h => ⟨h.1, fun e => by cases e⟩) (fun _ _ _ h => h) hL (Or.inl ⟨by rfl, ?_⟩) ⟨fun _ => h16, fun _ => h11⟩ (fun hL' => ?_)
                      rotate_left
                      · intro y hy; obtain ⟨g16, g11⟩ := hy; have g16 := g16 rfl; (try have g11 := g11 rfl); go_simp; (try with_reducible rfl)
                      clear hL; rename Shutb _ _ => hL
                      (try simp only [Act.put, List.setIfInBounds_toArray, List.set_cons_zero, List.set_cons_succ])
                      refine late_mid2 (i := 10) (v := ?_) rfl (by kernel_rfl) (by kernel_rfl) (by kernel_rfl) (by decide) (by decide) (by kernel_rfl) (fun _ h => ⟨h.1, fun e => by cases e⟩) (fun _ _ _ h => h) hL (Or.inl ⟨by rfl, ?_⟩) ⟨fun _ => h16, fun _ => h11⟩ (fun hL' => ?_)
                      rotate_left
                      · intro y hy; obtain ⟨g16, g11⟩ := hy; have g16 := g16 rfl; (try have g11 := g11 rfl); go_simp; (try with_reducible rfl)
                      clear hL; rename Shutb _ _ => hL
                      (try simp only [Act.put, List.setIfInBounds_toArray, List.set_cons_zero, List.set_cons_succ])
                      refine late_mid2 (i := 11) (v := ?_) rfl (by kernel_rfl) (by kernel_rfl) (by kernel_rfl) (by decide) (by decide) (by kernel_rfl) (fun _ h => ⟨h.1, fun e => by cases e⟩) (fun _ _ _ h => h) hL (Or.inl ⟨by rfl, ?_⟩) ⟨fun _ => h16, fun _ => h11⟩ (fun hL' => ?_)
                      rotate_left
                      · intro y hy; obtain ⟨g16, g11⟩ := hy; have g16 := g16 rfl; (try have g11 := g11 rfl); go_simp; (try with_reducible rfl)
                      clear hL; rename Shutb _ _ => hL
                      (try simp only [Act.put, List.setIfInBounds_toArray, List.set_cons_zero, List.set_cons_succ])
                      refine late_mid2 (i := 12) (v := ?_) rfl (by kernel_rfl) (by kernel_rfl) (by kernel_rfl) (by decide) (by decide) (by kernel_rfl) (fun _ h => ⟨h.1, fun e => by cases e⟩) (fun _ _ _ h => h) hL (Or.inl ⟨by rfl, ?_⟩) ⟨fun _ => h16, fun _ => h11⟩ (fun hL' => ?_)
                      rotate_left
                      · intro y hy; obtain ⟨g16, g11⟩ := hy; have g16 := g16 rfl; (try have g11 := g11 rfl); go_simp; (try with_reducible rfl)
                      clear hL; rename Shutb _ _ => hL
                      (try simp only [Act.put, List.setIfInBounds_toArray, List.set_cons_zero, List.set_cons_succ])
                      have f11 := RowB.free hRd k
                      have f12 := RowB.lt hRd
                      refine late_one2 (i := 13) (by kernel_rfl) hL (fun hL2 => ?_)
                      refine wpOp_step rfl (fun K hK0 => ?_)
                      have hK : Shut _ := hK0
                      clear hK0
                      go_simp
                      have hBe := hBd.other (a := ⟨g, k, none⟩) hne (.int .i64 (f - X))
                      have hRe := IRow.set hRd k hks (f - X)
                      refine hK.out _ _ ⟨⟨fun _ => hBe.cell, fun e => absurd (e : true = false) (by decide)⟩, ?_⟩
                      clear hK K h16 h11 f11 f12
                      (try simp only [Act.put, List.setIfInBounds_toArray, List.set_cons_zero, List.set_cons_succ])
                      have h16 := hBe.cell
                      clear hL; rename Shutb _ _ => hL
                      refine late_mid2 (i := 14) (v := ?_) rfl (by kernel_rfl) (by kernel_rfl) (by kernel_rfl) (by decide) (by decide) (by kernel_rfl) (fun _ h => ⟨h.1, fun e => by cases e⟩) (fun _ _ _ h => h) hL (Or.inl ⟨by rfl, ?_⟩) ⟨fun _ => h16, fun e => absurd (e : true = false) (by decide)⟩ (fun hL' => ?_)
                      rotate_left
                      · intro y hy; obtain ⟨g16, g11⟩ := hy; have g16 := g16 rfl; (try have g11 := g11 rfl); go_simp; (try with_reducible rfl)
                      clear hL; rename Shutb _ _ => hL
                      (try simp only [Act.put, List.setIfInBounds_toArray, List.set_cons_zero, List.set_cons_succ])
                      have f16 := hBL1.free
                      have f17 := hBL1.lt
                      have f18 := hBL1.cell
                      refine late_one2 (i := 15) (by kernel_rfl) hL (fun _ => ?_)
                      refine wpOp_step rfl (fun K hK0 => ?_)
                      have hK : Shut _ := hK0
                      clear hK0
                      go_simp
                      have hBf := hBe.set 2 (.int .i64 (st.2 + X))
                      have hRf := RowB.other hRe (a := ⟨bL, 2, none⟩) (fun e => hne e.symm) (.int .i64 (st.2 + X))
                      have hOf := ((hOff1.drew).set (a := ⟨g, k, none⟩) (.inr (.inl rfl)) (.int .i64 (f - X))).set (a := ⟨bL, 2, none⟩) (.inl rfl) (.int .i64 (st.2 + X))
                      refine hK.out _ _ ⟨⟨fun e => absurd (e : true = false) (by decide), fun e => absurd (e : true = false) (by decide)⟩, ?_⟩
                      clear hK K
                      (try simp only [Act.put, List.setIfInBounds_toArray, List.set_cons_zero, List.set_cons_succ])
                      refine late_done2 (by kernel_rfl) ?_
                      (try dsimp only [Exit.then])
                      go_wp2
                      go_roundw
                      case rel => exact ⟨k + 1, _, by omega, by go_num, HSU.out, hBf, hRf, hOf⟩
                      case measure => simp [intOf]; omega
                    · obtain rfl : k = r.places.length := by omega
                      have hCs : C = st := HC.out.symm.trans HSTT2.out
                      subst hCs
                      have hown4 := own_off hown hOx hbL4 hgL4
                      obtain ⟨av, cv, rfl⟩ := own_slice hown
                      obtain ⟨nl, hnl⟩ : ∃ nl, L.length = nl := ⟨_, rfl⟩
                      have hnl4 : nl ≤ 4 := by have := HLL.out; omega
                      rw [hnl] at hown4
                      have HNL := Lib.hid hnl
                      rw [hnl]
                      have hsrc : Sls 1 (AtE intC) wx (.slice (some ⟨g, 0, none⟩) r.places.length cap) C.1 := (IRow.ints hRx HCL.out.symm cap).sls
                      have HSRC := Lib.hid hsrc
                      have hz4 := hOr.size
                      have hz5 := hOx.size
                      clear hnl hown hsrc hbT3 hinv
                      go_wp2_with (first | (at_builtin; refine wpList_append_own _ rfl _ _ 25 rfl wx.heap.size 3 i0 (.int .i64 0) 1 8 Try.underlying25 hi hz0 hz1 hz2 rfl (by decide) _ 0 [] rfl (World.ownsRow_nil _ _ _ _) ⟨g, 0, none⟩ r.places.length cap (C.1.flatMap intC) rfl (by rw [flat_len intC 1 intC_len, HCL.out]) (sls_news intC_len (by decide) (HSRC.out)) (intC_one _) (by unfold maxLen; omega) (by omega) (by simp <;> omega) ?_; intro v2 w5 hown2 hgr5 _; obtain ⟨g5, cap5, rfl, hg5, hg5l⟩ := own_pos hown2 (by omega); have hE5 : Ext wx w5 := Ext.grown (Ext.refl _) hgr5 (own_base (World.ownsRow_nil wx wx.heap.size 3 1))) | (at_builtin; refine wpList_append_own _ rfl _ _ 26 rfl w4.heap.size 25 i9 (.slice none 0 0) 1 24 Try.underlying26 hi9 hy0 hy1 hy2 rfl (by decide) _ _ _ rfl ((own_ext hown4 hE5).alloc _) ⟨w5.heap.size, 0, none⟩ 1 1 [.slice (some ⟨g5, 0, none⟩) r.places.length cap5] rfl rfl (cell_one _ _ _ (by simp)) (one_cell _ rfl) (by unfold maxLen; omega) (by omega) (by have := hE5.size; simp; omega) ?_; intro v6 w6 hown6 hgr6 _; obtain ⟨g6, cap6, rfl⟩ := own_succ hown6))
                      have hrow5 : IRow w5 g5 C.1 := by
                        have h : w5.ownsRow wx.heap.size 3 1 (.slice (some ⟨g5, 0, none⟩) r.places.length cap5) r.places.length (C.1.flatMap intC) := by simpa using hown2
                        rw [← HCL.out] at h
                        exact RowB.of_own (f := intC) intC_len h
                      have hrow : ∀ j, (Value.slice av nl cv).ownBlock = some j → w4.heap.size ≤ j := own_base hown4
                      have hoi := own_blk ((own_ext hown4 hE5).alloc (.cells #[.slice (some ⟨g5, 0, none⟩) r.places.length cap5] 25)) (by decide)
                      refine ⟨⟨s + 1, L ++ [(C.1, .slice (some ⟨g5, 0, none⟩) r.places.length cap5)], by omega, by go_num, by simp [HLL.out], ?_, ?_, ?_, ?_, ?_, ?_⟩, by simp [intOf]; omega⟩
                      · simpa [HNL.out] using hown6
                      · intro p hp
                        rw [List.mem_append, List.mem_singleton] at hp
                        rcases hp with hp | rfl
                        · exact ((((HLA.out p hp).off hOx).ext hE5).ext ((Ext.refl _).alloc _)).grown hgr6 hoi
                        · have h1 : Apart bL g w.heap.size w5 (C.1, .slice (some ⟨g5, 0, none⟩) r.places.length cap5) := ⟨g5, cap5, by simp [HCL.out], by omega, by omega, hrow5, by have := hE4.size; omega⟩
                          exact (h1.ext ((Ext.refl _).alloc _)).grown hgr6 hoi
                      · rw [List.map_append, HLF.out, List.range_succ, List.map_append]
                        simp [HST.out]
                      · rw [HST.out]; exact Blk.grown ((hBx.ext hE5).alloc _) hgr6 hrow hbL4
                      · rw [HST.out]; exact RowB.grown (RowB.ext (RowB.ext hRx hE5) ((Ext.refl _).alloc _)) hgr6 hrow hgL4
                      · exact Off.grown (((hOr.trans hOx).ext hE5).alloc _) hgr6 hrow
        · obtain rfl : m = s := by omega
          have hnlt : ¬ (m : Int) < r.seasons := by have := HM.out; omega
          have hbd := R.fine_bd HO.out HT.out hm4 hfn
          have hfl := hfn.len
          have hnn := hfn.nn
          have hms : r.seasons.toNat = m := by have := HM.out; omega
          have HEND := Lib.hid (show R.endOf r t = R.stateAt r t m by unfold R.endOf; rw [hms])
          have hfo : (List.range m).map (fun s => (R.stateAt r t (s + 1)).fish) = R.fishOf r t := by unfold R.fishOf; rw [hms]
          have HFO := Lib.hid hfo
          obtain ⟨av, cv, rfl⟩ := own_slice hown
          obtain ⟨x, hx⟩ : ∃ x, R.stateAt r t m = x := ⟨_, rfl⟩
          rw [hx] at hBr hRr hbd hfl hnn HEND
          have HFL := Lib.hid hfl
          have HXN := Lib.hid hnn
          have hxs := hbd.1
          have hBL : Blk wr bL (ledC t.starts.sum x.grown x.taken x.gone (x.fish.take 0).sum) 33 := hBr
          have hRow := hRr
          have hOr0 := hOr
          clear hms hfo hx hfl hfn hnn hbd hBr hRr d0 d1 hbX2 hbT2
          have d0 := (hbX.off hOr (by omega) (by omega)).cell
          have d1 := (hbX.off hOr (by omega) (by omega)).lt
          go_upto_region 32 with (fail)
          go_wp2
          go_loopw [19] (fun i wq => ∃ k : Nat, k ≤ r.places.length ∧ i = .int .i64 k ∧ Blk wq bL (ledC t.starts.sum x.grown x.taken x.gone ((x.fish.take k).sum)) 33 ∧ IRow wq g x.fish ∧ Off bL g wr wq) (fun i _ => r.places.length - (intOf i).toNat)
          case atStart => exact ⟨0, Nat.zero_le _, rfl, hBL, hRow, Off.refl _ _ _⟩
          case round =>
            rename World => wq
            obtain ⟨k, hk, rfl, hB, hR, hO⟩ := hrel
            by_cases hlt : k < r.places.length
            · have hks : k < x.fish.length := by have := HFL.out; omega
              have hsn : (x.fish.take (k + 1)).sum = (x.fish.take k).sum + x.fish[k] := by rw [List.take_succ_eq_append_getElem hks, List.sum_append]; simp
              have hs1 := sum_bd HXN.out (show x.fish.sum ≤ 1000000000 by omega) k (by omega)
              have hs2 := HXN.out k
              have hs3 := R.iat_le_sum x.fish k HXN.out
              have hs4 := (show x.fish.sum ≤ 1000000000 by omega)
              rw [iat_of hks] at hs2 hs3
              have d0 := hB.cell
              have d1 := hB.lt
              have r0 := IRow.get hR k hks
              have r2 := RowB.lt hR
              generalize hy : x.fish[k] = y at r0 hsn hs2 hs3
              obtain ⟨S, hS⟩ : ∃ S, (x.fish.take k).sum = S := ⟨_, rfl⟩
              rw [hS] at hsn hs1 hB d0
              have HSN := Lib.hid hsn
              have hwS : IntKind.wrap .i64 (S + y) = S + y := IntWalk.i64_in _ (by omega)
              clear hsn hy hS
              go_upto_region 35 with (fail)
              refine wp_region_ext 8 (fun _ _ d _ _ h => by cases d <;> exact h) (by kernel_rfl) (by kernel_rfl) (by kernel_rfl) (by kernel_rfl) ?_
              simp only [List.take_succ_cons, List.take_zero, List.drop_succ_cons, List.drop_zero]
              repeat (any_goals (first | go_big_quiet_step (fail) | quiet_step (fail)))
              all_goals (refine wpQuiet_nil ?_; intro w' hE')
              have hB' := hB.ext hE'
              have s3 := hB'.cell
              have s4 := hB'.lt
              have s5 := hB'.free
              clear r0 r2 d0 d1
              go_wp2
              go_roundw
              case rel => exact ⟨k + 1, by omega, by go_num, by rw [HSN.out]; exact hB'.set 4 (.int .i64 (S + y)), RowB.other (RowB.ext hR hE') (a := ⟨bL, 4, none⟩) (fun e => hne e.symm) _, (hO.ext hE').set (a := ⟨bL, 4, none⟩) (.inl rfl) _⟩
              case measure => simp [intOf]; omega
            · obtain rfl : k = r.places.length := by omega
              have hta : x.fish.take r.places.length = x.fish := by rw [← HFL.out]; exact List.take_length
              rw [hta] at hB
              have hbO3 := hbO2.off hO (by omega) (by omega)
              have hown7 := own_off hown hO hbL4 hgL4
              have hEq : Ext w wq := hO.ext0 hEr hb0 hg0'
              have HLA7 := Lib.hid (fun p hp => (HLA.out p hp).off hO)
              have e0 := hB.cell
              have e2 := hB.lt
              obtain ⟨fs, hfs⟩ : ∃ fs, x.fish.sum = fs := ⟨_, rfl⟩
              rw [hfs] at hB e0
              have HFS := Lib.hid hfs
              clear hta hown hbO2 hfs d0 d1
              go_upto_region 36 with (fail)
              refine wp_region_ext 3 (fun _ _ d _ _ h => by cases d <;> exact h) (by kernel_rfl) (by kernel_rfl) (by kernel_rfl) (by kernel_rfl) ?_
              simp only [List.take_succ_cons, List.take_zero, List.drop_succ_cons, List.drop_zero]
              repeat (any_goals (first | go_big_quiet_step (fail) | quiet_step (fail)))
              all_goals (refine wpQuiet_nil ?_; intro w8 hE')
              have hbR8 := hbO3.ext hE'
              have hrf := hbR8.free
              have hrc := hbR8.cell
              have hrl := hbR8.lt
              go_wp2
              have hrz : w.heap.size ≤ w.heap.size + 1 + 1 := by omega
              have hbR9 := (((((hbR8.set 0 (.int .i64 t.starts.sum)).set 1 (.int .i64 x.grown)).set 2 (.int .i64 x.taken)).set 3 (.int .i64 x.gone)).set 4 (.int .i64 fs))
              have hO9 := ((((((Off.refl (w.heap.size + 1 + 1) (w.heap.size + 1 + 1) w8).set (a := ⟨w.heap.size + 1 + 1, 0, none⟩) (.inl rfl) (.int .i64 t.starts.sum)).set (a := ⟨w.heap.size + 1 + 1, 1, none⟩) (.inl rfl) (.int .i64 x.grown)).set (a := ⟨w.heap.size + 1 + 1, 2, none⟩) (.inl rfl) (.int .i64 x.taken)).set (a := ⟨w.heap.size + 1 + 1, 3, none⟩) (.inl rfl) (.int .i64 x.gone)).set (a := ⟨w.heap.size + 1 + 1, 4, none⟩) (.inl rfl) (.int .i64 fs))
              obtain ⟨w9, hw9⟩ : ∃ w9, (((((w8.setCell ⟨w.heap.size + 1 + 1, 0, none⟩ (.int .i64 t.starts.sum)).setCell ⟨w.heap.size + 1 + 1, 1, none⟩ (.int .i64 x.grown)).setCell ⟨w.heap.size + 1 + 1, 2, none⟩ (.int .i64 x.taken)).setCell ⟨w.heap.size + 1 + 1, 3, none⟩ (.int .i64 x.gone)).setCell ⟨w.heap.size + 1 + 1, 4, none⟩ (.int .i64 fs)) = w9 := ⟨_, rfl⟩
              rw [hw9] at hbR9 hO9 ⊢
              have hown9 := own_off (own_ext hown7 hE') hO9 (by have := hE4.size; omega) (by have := hE4.size; omega)
              have hE9 : Ext w w9 := hO9.ext0 (hEq.trans hE') hrz hrz
              have hLL := Lists.of_own (n := w.heap.size) hE4.size hown9 (fun p hp => (((HLA7.out p hp).ext hE').off2 hbR8 (by decide) hO9))
              rw [HLF.out, HFO.out] at hLL
              have hle : R.ledger r t = ⟨t.starts.sum, x.grown, x.taken, x.gone, fs⟩ := by unfold R.ledger R.sumL; rw [HEND.out, HFS.out]
              rw [hle]
              have k0 := hbR9.cell
              clear hrf hrc hrl hw9 hO9
              exact bodyPost_ret (v := .tuple #[.slice av L.length cv, .agg #[.int .i64 t.starts.sum, .int .i64 x.grown, .int .i64 x.taken, .int .i64 x.gone, .int .i64 fs]]) (by simp [results, Try.results21, go_sem, k0]) rfl ⟨_, rfl, hLL, hE9⟩
end Go.Proofs.Ythffoglpekpmdaa

