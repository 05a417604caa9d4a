/- What becomes of a system in a weather, as the document runs it. -/
import Derived.Test.YtkjoojmlcjmlgaaH1
import Derived.Test.YtkjoojmlcjmlgaaG1
namespace Go.Proofs.Ytkjoojmlcjmlgaa
set_option linter.unusedVariables false
set_option linter.unusedSimpArgs false
open Go.RowKit

set_option maxRecDepth 100000 in
set_option maxHeartbeats 16000000 in
theorem drun_any (c : C.Sys) (p b off : Int) (wt : ByteArray) (vl : Value) (w : World) (hL : Loads w vl c.loads) (O : C.Ok c) (hp0 : 0 ≤ p) (hp1 : p ≤ 12) (hb0 : 0 ≤ b) (hb1 : b ≤ 8) (ho0 : 0 ≤ off) (ho1 : off < 2 ^ c.loads.length) (hs : wt.size ≤ 20) :
    Calls Try.prog 21 #[.agg (sysV c vl), .int .i64 p, .int .i64 b, .int .i64 off, .string wt] w fun e w' => ∃ v, e = .returned (.tuple #[v, .agg (ledV (C.ledger c p b off wt.data.toList))]) ∧ Days w' v (C.run c p b off wt.data.toList) ∧ Ext w w' ∧ ∀ j, v.ownBlock = some j → w.heap.size ≤ j := by
  obtain ⟨a, cap, rfl, hx⟩ := hL
  have HX := Lib.hid hx
  have HO := Lib.hid O
  have hlen : wt.data.toList.length = wt.size := by simp
  have hix := fun i x (h : wt.data.toList[i]? = some x) => str_at wt i x h
  have HIX := Lib.hid hix
  have HLEN := Lib.hid hlen
  have hsb := fun k (hk : k ≤ 20) => C.state_bd O hp0 hp1 hb0 hb1 off wt.data.toList k (by omega)
  have HSB := Lib.hid hsb
  have hdb := fun k (hk : k ≤ 20) x s (B : C.Bk c b k s) => C.day_bd O hp0 hp1 hb0 hb1 off hk x B
  have HDB := Lib.hid hdb
  have hhb := C.hold_bd O hb0 hb1
  have hstb := C.start_bd O hb0 hb1
  have hpow := pow_bd (n := c.loads.length) (by have := O.n5; omega)
  have hn5 := O.n5
  have hn1 := O.n1
  have hc0 := O.s0; have hc1 := O.s1; have hc2 := O.s2; have hf0 := O.f0; have hf1 := O.f1
  have hA := Int.mul_nonneg hp0 (show 0 ≤ c.sunny by omega)
  have hA1 := Int.mul_le_mul hp1 (show c.sunny ≤ 1000000 by omega) (by omega) (by omega)
  have hB := Int.mul_nonneg hp0 (show 0 ≤ c.cloudy by omega)
  have hB1 := Int.mul_le_mul hp1 (show c.cloudy ≤ 1000000 by omega) (by omega) (by omega)
  have hgs : p * c.sunny = C.gives c p 115 := by unfold C.gives; simp [Int.mul_comm]
  have hho : b * c.size = C.hold c b := by unfold C.hold; rw [Int.mul_comm]
  have hst : C.hold c b * c.start / 1000 = C.start c b := rfl
  have hdpos : 0 ≤ C.hold c b * c.start := Int.mul_nonneg (by omega) O.t0
  have hdle : C.hold c b * c.start ≤ 8000000 * 1000 := Int.mul_le_mul hhb.2 O.t1 O.t0 (by omega)
  obtain ⟨i0, hi, hz0, hz1, hz2⟩ := info_parts day_info
  have hpc := plus_cell
  obtain ⟨T, hT⟩ : ∃ T, wt.data.toList = T := ⟨_, rfl⟩
  rw [hT]
  simp only [hT] at HIX HLEN HSB
  obtain ⟨Hh, hHh⟩ : ∃ Hh, C.hold c b = Hh := ⟨_, rfl⟩
  rw [hHh] at hhb hho hst hdpos hdle
  obtain ⟨HS, hHS⟩ : ∃ HS, Hh * c.start = HS := ⟨_, rfl⟩
  rw [hHS] at hdpos hdle hst
  obtain ⟨PS, hPS⟩ : ∃ PS, p * c.sunny = PS := ⟨_, rfl⟩
  obtain ⟨PC, hPC⟩ : ∃ PC, p * c.cloudy = PC := ⟨_, rfl⟩
  rw [hPS] at hA hA1 hgs
  rw [hPC] at hB hB1
  have HH := Lib.hid hHh
  have HG := Lib.hid hgs
  clear hx O hix hlen hsb hdb hgs hHh hc0 hc1 hc2 hT
  have hw1 : IntKind.wrap .i64 Hh = Hh := IntWalk.i64_in _ (by omega)
  have hw2 : IntKind.wrap .i64 HS = HS := IntWalk.i64_in _ (by omega)
  have hw3 : IntKind.wrap .i64 PS = PS := IntWalk.i64_in _ (by omega)
  have hw4 : IntKind.wrap .i64 PC = PC := IntWalk.i64_in _ (by omega)
  go_enter Try.func21, Try.ntmps21
  go_upto_region 4 with (fail)
  rw [hst]
  obtain ⟨w1, hw1e⟩ : ∃ w1, ((w.alloc (.cells (sysV c (.slice a c.loads.length cap)) 24)).alloc (.cells #[.int .i64 (0), .int .i64 0, .int .i64 0, .int .i64 0, .int .i64 0, .int .i64 0] 29)).alloc (.cells #[.int .i64 (C.start c b), .int .i64 0, .int .i64 0, .int .i64 0, .int .i64 0, .int .i64 0] 29) = w1 := ⟨_, rfl⟩
  have hbx : Blk w1 w.heap.size (sysV c (.slice a c.loads.length cap)) 24 := by rw [← hw1e]; exact ((Blk.new w _ _).alloc _).alloc _
  have hbo : Blk w1 (w.heap.size + 1) #[.int .i64 (0), .int .i64 0, .int .i64 0, .int .i64 0, .int .i64 0, .int .i64 0] 29 := by rw [← hw1e]; exact (Blk.new' (by simp) _ _).alloc _
  have hbl : Blk w1 (w.heap.size + 1 + 1) #[.int .i64 (C.start c b), .int .i64 0, .int .i64 0, .int .i64 0, .int .i64 0, .int .i64 0] 29 := by rw [← hw1e]; exact Blk.new' (by simp) _ _
  have hE1 : Ext w w1 := by rw [← hw1e]; (with_reducible (repeat (first | exact Ext.refl _ | assumption | apply Ext.alloc | apply Ext.drew | exact ext_plus _ _ | (apply Ext.setCell; rotate_left; (simp <;> omega)) | (apply Ext.trans; rotate_left; exact ext_plus _ _) | (apply Ext.trans; rotate_left; assumption))))
  have hz1 : w1.heap.size = w.heap.size + 3 := by rw [← hw1e]; simp
  rw [hw1e]
  obtain ⟨bL, hbL⟩ : ∃ bL, w.heap.size + 1 + 1 = bL := ⟨_, rfl⟩
  rw [hbL] at hbl ⊢
  obtain ⟨N, hN⟩ : ∃ N, wt.size = N := ⟨_, rfl⟩
  have hNs : (wt.size : Int) = (N : Int) := by rw [hN]
  have HZ1 := Lib.hid hz1
  have HST := Lib.hid hst
  have HNN := Lib.hid hN
  simp only [hN] at HLEN
  rw [hN] at hs
  clear hw1e hz1 hst hN
  go_wp2
  go_loopw [13, 15, 16, 17, 18, 19, 20, 21, 22] (fun vn l vi _ _ _ _ _ _ wr => ∃ k : Nat, k ≤ N ∧ vi = .int .i64 k ∧ vn = .int .i64 (C.stateAt c p b off T k).e ∧ wr.ownsRow w1.heap.size 41 2 l k (((List.range k).map (C.dayAt c p b off T)).flatMap dayC) ∧ Blk wr bL #[.int .i64 (C.start c b), .int .i64 (C.stateAt c p b off T k).sun, .int .i64 (C.stateAt c p b off T k).used, .int .i64 (C.stateAt c p b off T k).lost, .int .i64 (C.stateAt c p b off T k).faded, .int .i64 0] 29 ∧ Off bL w1 wr) (fun _ _ vi _ _ _ _ _ _ _ => N - (intOf vi).toNat)
  case atStart => exact ⟨0, Nat.zero_le _, rfl, rfl, World.ownsRow_nil _ _ _ _, hbl, Off.refl _ _⟩
  case round =>
    rename World => wr
    obtain ⟨k, hk, rfl, rfl, hown, hB, hO⟩ := hrel
    have hbxr := hbx.off hO (by omega)
    have hEr : Ext w wr := hO.ext0 hE1 (by omega)
    have hbll := hB.lt
    have hor := hO.size
    obtain ⟨s, hs'⟩ : ∃ s, C.stateAt c p b off T k = s := ⟨_, rfl⟩
    have hSB := HSB.out k (by omega)
    rw [hs'] at hSB hB ⊢
    have hs0 := hSB.e0; have hs1 := hSB.e1; have hs2 := hSB.s0; have hs3 := hSB.s1; have hs4 := hSB.u0; have hs5 := hSB.u1; have hs6 := hSB.l0; have hs7 := hSB.l1; have hs8 := hSB.f0; have hs9 := hSB.f1
    rw [HH.out] at hs1
    have HSS := Lib.hid hs'
    by_cases hlt : k < N
    · obtain ⟨x, hx⟩ : ∃ x, T[k]? = some x := ⟨_, List.getElem?_eq_getElem (by rw [HLEN.out]; exact hlt)⟩
      have hi9 := HIX.out k x hx
      have hnx : C.stateAt c p b off T (k + 1) = C.daySt c p b off x s := by
        show C.daySt c p b off (T.getD k 0) (C.stateAt c p b off T k) = _
        rw [hs', List.getD_eq_getElem?_getD, hx]; rfl
      have hday := HDB.out k (by omega) x s hSB
      have HNX := Lib.hid hnx
      have HDAY := Lib.hid hday
      have h99 := u8_eq x 99 (by decide)
      obtain ⟨D, hD⟩ : ∃ D, (x == UInt8.ofNat 99) = D := ⟨_, rfl⟩
      rw [hD] at h99
      have hgv : C.gives c p x = if D then PC else PS := by
        have e : (x == 99) = D := hD
        unfold C.gives
        cases D with
        | true => rw [if_pos (by simpa using e), if_pos rfl, Int.mul_comm, hPC]
        | false => rw [if_neg (by simpa using e), if_neg (by decide), Int.mul_comm, hPS]
      clear hx hnx hday hs' hSB hD
      have k0 := hB.cell
      have k1 := hB.lt
      have k2 := hB.free
      have l0 := hbxr.cell
      have l1 := hbxr.lt
      cases D with

      | true =>
        have hg : C.gives c p x = PC := hgv
        go_upto_region 11 with (fail)
        obtain ⟨F, hF⟩ : ∃ F, C.full c b (s.e + PC) = F := ⟨_, rfl⟩
        have hFd : F = if s.e + PC < Hh then s.e + PC else Hh := by rw [← hF, ← HH.out]; rfl
        have hF1 : 0 ≤ F ∧ F ≤ Hh ∧ F ≤ s.e + PC := by rw [hFd]; split <;> omega
        have hmx : max 0 (s.e + PC - Hh) = s.e + PC - F := by rw [hFd]; split <;> omega
        have hsun : C.sunSt c p b x s = { s with e := F, sun := s.sun + PC, lost := s.lost + (s.e + PC) - F } := by unfold C.sunSt; rw [hg, hF]
        have HMX := Lib.hid hmx
        have HSUN := Lib.hid hsun
        have HHG := Lib.hid hg
        clear hF hFd hmx hsun hg hgv h99
        go_upto_region 12 with (fail)
        rw [HMX.out]
        have he9 : s.e + PC - (s.e + PC - F) = F := by omega
        have hwl : IntKind.wrap .i64 (s.lost + (s.e + PC - F)) = s.lost + (s.e + PC - F) := IntWalk.i64_in _ (by omega)
        go_upto_region 13 with (fail)
        obtain ⟨s1, hs1e⟩ : ∃ s1, C.sunSt c p b x s = s1 := ⟨_, rfl⟩
        have hs1d : s1 = { s with e := F, sun := s.sun + PC, lost := s.lost + (s.e + PC) - F } := by rw [← hs1e]; exact HSUN.out
        have e1 : s1.e = F := by rw [hs1d]
        have e2 : s1.sun = s.sun + PC := by rw [hs1d]
        have e3 : s1.used = s.used := by rw [hs1d]
        have e4 : s1.lost = s.lost + (s.e + PC - F) := by rw [hs1d]; dsimp only; omega
        have e5 : s1.faded = s.faded := by rw [hs1d]
        have hB1 : Blk ((wr.setCell ⟨bL, 1, none⟩ (.int .i64 (s.sun + PC))).setCell ⟨bL, 3, none⟩ (.int .i64 (s.lost + (s.e + PC - F)))) bL #[.int .i64 (C.start c b), .int .i64 s1.sun, .int .i64 s1.used, .int .i64 s1.lost, .int .i64 s1.faded, .int .i64 0] 29 := by
          rw [e2, e3, e4, e5]
          simpa using (hB.set 1 (.int .i64 (s.sun + PC))).set 3 (.int .i64 (s.lost + (s.e + PC - F)))
        have hO1 : Off bL wr ((wr.setCell ⟨bL, 1, none⟩ (.int .i64 (s.sun + PC))).setCell ⟨bL, 3, none⟩ (.int .i64 (s.lost + (s.e + PC - F)))) := ((Off.refl bL wr).set (a := ⟨bL, 1, none⟩) (.inl rfl) _).set (a := ⟨bL, 3, none⟩) (.inl rfl) _
        obtain ⟨w2, hw2e⟩ : ∃ w2, (wr.setCell ⟨bL, 1, none⟩ (.int .i64 (s.sun + PC))).setCell ⟨bL, 3, none⟩ (.int .i64 (s.lost + (s.e + PC - F))) = w2 := ⟨_, rfl⟩
        (try rw [he9])
        (try rw [hw2e])
        rw [hw2e] at hB1 hO1
        have hday := HDAY.out
        have hdy : C.daySt c p b off x s = C.fadeSt c (C.loadsSt c off s1) := by unfold C.daySt; rw [hs1e]
        rw [hdy, hs1e] at hday
        have HDY := Lib.hid hdy
        have hldb := fun k hk => C.ldSt_bd HO.out off hday.1 k hk
        rw [e1] at hldb
        have hsu9 := fun k (hk : k < c.loads.length) => C.ldSt_succ c off s1 hk
        have HLD := Lib.hid HO.out.load
        have HLB := Lib.hid hldb
        have HDD := Lib.hid hday
        have HS9 := Lib.hid hsu9
        rw [show F = (C.ldSt c off s1 0).e from by rw [C.ldSt_zero]; exact e1.symm]
        have hB2 : Blk w2 bL #[.int .i64 (C.start c b), .int .i64 s1.sun, .int .i64 (C.ldSt c off s1 0).used, .int .i64 s1.lost, .int .i64 s1.faded, .int .i64 0] 29 := hB1
        clear hw2e hs1d HSUN HMX he9 hwl hs1e e1 e2 e3 e4 e5 hday hdy hldb hB1 k0 k1 k2 l0 l1 hB hsu9
        go_wp2
        go_loopw [13, 19, 20, 21] (fun vn vc vb vi wx => ∃ j : Nat, j ≤ c.loads.length ∧ vi = .int .i64 j ∧ vn = .int .i64 (C.ldSt c off s1 j).e ∧ vc = .int .i64 (C.ldSt c off s1 j).carried ∧ vb = .int .i64 (2 ^ j) ∧ Blk wx bL #[.int .i64 (C.start c b), .int .i64 s1.sun, .int .i64 (C.ldSt c off s1 j).used, .int .i64 s1.lost, .int .i64 s1.faded, .int .i64 0] 29 ∧ Off bL wr wx) (fun _ _ _ vi _ => c.loads.length - (intOf vi).toNat)
        case atStart => exact ⟨0, Nat.zero_le _, rfl, rfl, rfl, rfl, hB2, hO1⟩
        case round =>
          rename World => wx
          clear hB2 hO1
          obtain ⟨j, hj, rfl, rfl, rfl, rfl, hB, hOx⟩ := hrel
          have hbxx := hbxr.off hOx (by omega)
          have hEx : Ext w wx := hOx.ext0 hEr (by omega)
          have hlb := HLB.out j hj
          have hpj := pow_bd (n := j) (by omega)
          obtain ⟨s2, hs2e⟩ : ∃ s2, C.ldSt c off s1 j = s2 := ⟨_, rfl⟩
          rw [hs2e] at hlb hB ⊢
          have HS2 := Lib.hid hs2e
          obtain ⟨BT, hBT⟩ : ∃ BT, (2 : Int) ^ j = BT := ⟨_, rfl⟩
          rw [hBT] at hpj hlb ⊢
          have HBT := Lib.hid hBT
          clear hs2e hBT
          by_cases hlj : j < c.loads.length
          · obtain ⟨b5, o5, rfl, hb5, hAt⟩ := HX.out j hlj
            obtain ⟨m0, m1, m2⟩ := load_cells (ate_stays _ _ _ _ _ _ hEx hb5 hAt)
            have hb5l := Nat.lt_of_lt_of_le hb5 hEx.size
            have hld := HLD.out _ (List.getElem_mem hlj)
            have hsu := HS9.out j hlj
            rw [HS2.out, HBT.out] at hsu
            obtain ⟨ld, hld9⟩ : ∃ ld, c.loads[j] = ld := ⟨_, rfl⟩
            rw [hld9] at m0 m1 m2 hld hsu
            have HH9 := Lib.hid (fun w' => (dhas_any off j w' ho0 (by omega) (by omega)).mono (fun e w2 h => (⟨h.1, h.2 ▸ Ext.refl _⟩ : e = .returned (.bool (C.has off j)) ∧ Ext w' w2)))
            obtain ⟨H, hH⟩ : ∃ H, C.has off j = H := ⟨_, rfl⟩
            rw [hH] at hsu
            simp only [hH] at HH9
            have HSU := Lib.hid hsu
            obtain ⟨need, keep, mst⟩ := ld
            dsimp only at hld m0 m1 m2
            clear hAt hld9 hH hsu m2
            have l0 := hbxx.cell
            have l1 := hbxx.lt
            cases H with
            | true =>
              have HSU3 : Hid (C.ldSt c off s1 (j + 1) = s2) := by have h := HSU.out; rw [if_neg (fun e => by cases e.1)] at h; exact h
              go_upto_region 17 with (fail)
              refine wp_region_ext 21 (fun _ _ d _ _ h => by cases d <;> exact h) (by kernel_rfl) (by kernel_rfl) (by kernel_rfl) (by kernel_rfl) ?_
              (try simp only [List.append_eq, List.cons_append, List.nil_append])
              simp only [List.take_succ_cons, List.take_zero, List.drop_succ_cons, List.drop_zero]
              repeat (any_goals (first | go_big_quiet_step ((go_at_call 24; exact ext_quiet (HH9.out _))) | quiet_step ((go_at_call 24; exact ext_quiet (HH9.out _)))))
              all_goals (refine wpQuiet_nil ?_; intro w3 hEw3)
              go_wp2
              go_roundw
              case rel => exact ⟨j + 1, by omega, by go_num, by rw [HSU3.out], by rw [HSU3.out], by rw [Int.pow_succ, HBT.out, Int.mul_comm], by rw [HSU3.out]; exact hB.ext hEw3, hOx.ext hEw3⟩
              case measure => simp [intOf]; omega
            | false =>
              by_cases hen : need + keep ≤ s2.e
              · have HSU3 : Hid (C.ldSt c off s1 (j + 1) = { s2 with e := s2.e - need, carried := s2.carried + BT, used := s2.used + need }) := by have h := HSU.out; rw [if_pos ⟨rfl, hen⟩] at h; exact h
                have hge : decide (s2.e ≥ need + keep) = true := by simp; omega
                have hbd9 := HDD.out.1
                have hu0 := hbd9.u0
                have hu1 := hbd9.u1
                have hwa : IntKind.wrap .i64 (s2.e - need) = s2.e - need := IntWalk.i64_in _ (by omega)
                have hwb : IntKind.wrap .i64 (s2.carried + BT) = s2.carried + BT := IntWalk.i64_in _ (by omega)
                have hwc : IntKind.wrap .i64 (s2.used + need) = s2.used + need := IntWalk.i64_in _ (by omega)
                clear hbd9
                go_upto_region 17 with (fail)
                refine wp_region_ext 21 (fun _ _ d _ _ h => by cases d <;> exact h) (by kernel_rfl) (by kernel_rfl) (by kernel_rfl) (by kernel_rfl) ?_
                (try simp only [List.append_eq, List.cons_append, List.nil_append])
                simp only [List.take_succ_cons, List.take_zero, List.drop_succ_cons, List.drop_zero]
                repeat (any_goals (first | go_big_quiet_step ((go_at_call 24; exact ext_quiet (HH9.out _))) | quiet_step ((go_at_call 24; exact ext_quiet (HH9.out _)))))
                all_goals (refine wpQuiet_nil ?_; intro w3 hEw3)
                have hB3 := hB.ext hEw3
                have hbx3 := hbxx.ext hEw3
                have hE3 : Ext w w3 := hEx.trans hEw3
                have m0' := (hEw3.cells.1 b5 (o5 + j * 3) hb5l).trans m0
                clear l0 l1 m0 m1
                have k0 := hB3.cell
                have k1 := hB3.lt
                have k2 := hB3.free
                have l0 := hbx3.cell
                have l1 := hbx3.lt
                have hb53 : b5 < w3.heap.size := Nat.lt_of_lt_of_le hb5l hEw3.size
                go_upto_region 18 with (fail)
                have n0 := hbx3.drew.cell
                have n2 := hB3.drew.cell
                have n1 : w3.drew.cell? ⟨b5, o5 + j * 3, none⟩ = some (.int .i64 need) := m0'
                refine wp_region_late 23 (fun cc y => cc = false → ((∀ o, y.cell? ⟨w.heap.size, o, none⟩ = (sysV c (.slice (some ⟨b5, o5, none⟩) c.loads.length cap) : Array Value)[o]?) ∧ y.cell? ⟨b5, o5 + j * 3, none⟩ = some (.int .i64 need) ∧ (∀ o, y.cell? ⟨bL, o, none⟩ = (#[.int .i64 (C.start c b), .int .i64 s1.sun, .int .i64 s2.used, .int .i64 s1.lost, .int .i64 s1.faded, .int .i64 0] : Array Value)[o]?))) (by kernel_rfl) (fun hL => ?_)
                refine late_early (i := 0) (v := ?_) rfl (by kernel_rfl) (by kernel_rfl) (by kernel_rfl) (by decide) (by kernel_rfl) (fun _ _ _ h => h) hL (Or.inl ⟨by rfl, ?_⟩) (fun _ => ⟨n0, n1, n2⟩) (fun hL' => ?_)
                rotate_left
                · intro y hy; clear hy; go_simp; (try with_reducible rfl)
                clear hL; rename Shutb _ _ => hL
                (try simp only [Act.put, List.getElem_toArray, List.getElem_cons_zero, List.getElem_cons_succ, List.setIfInBounds_toArray, List.set_cons_zero, List.set_cons_succ])
                refine late_early (i := 1) (v := ?_) rfl (by kernel_rfl) (by kernel_rfl) (by kernel_rfl) (by decide) (by kernel_rfl) (fun _ _ _ h => h) hL (Or.inl ⟨by rfl, ?_⟩) (fun _ => ⟨n0, n1, n2⟩) (fun hL' => ?_)
                rotate_left
                · intro y hy; clear hy; go_simp; (try with_reducible rfl)
                clear hL; rename Shutb _ _ => hL
                (try simp only [Act.put, List.getElem_toArray, List.getElem_cons_zero, List.getElem_cons_succ, List.setIfInBounds_toArray, List.set_cons_zero, List.set_cons_succ])
                refine late_early (i := 2) (v := ?_) rfl (by kernel_rfl) (by kernel_rfl) (by kernel_rfl) (by decide) (by kernel_rfl) (fun _ _ _ h => h) hL (Or.inl ⟨by rfl, ?_⟩) (fun _ => ⟨n0, n1, n2⟩) (fun hL' => ?_)
                rotate_left
                · intro y hy; clear hy; go_simp; (try with_reducible rfl)
                clear hL; rename Shutb _ _ => hL
                (try simp only [Act.put, List.getElem_toArray, List.getElem_cons_zero, List.getElem_cons_succ, List.setIfInBounds_toArray, List.set_cons_zero, List.set_cons_succ])
                refine late_early (i := 3) (v := ?_) rfl (by kernel_rfl) (by kernel_rfl) (by kernel_rfl) (by decide) (by kernel_rfl) (fun _ _ _ h => h) hL (Or.inl ⟨by rfl, ?_⟩) (fun _ => ⟨n0, n1, n2⟩) (fun hL' => ?_)
                rotate_left
                · intro y hy; clear hy; go_simp; (try with_reducible rfl)
                clear hL; rename Shutb _ _ => hL
                (try simp only [Act.put, List.getElem_toArray, List.getElem_cons_zero, List.getElem_cons_succ, List.setIfInBounds_toArray, List.set_cons_zero, List.set_cons_succ])
                refine late_early (i := 4) (v := ?_) rfl (by kernel_rfl) (by kernel_rfl) (by kernel_rfl) (by decide) (by kernel_rfl) (fun _ _ _ h => h) hL (Or.inl ⟨by rfl, ?_⟩) (fun _ => ⟨n0, n1, n2⟩) (fun hL' => ?_)
                rotate_left
                · intro y hy; clear hy; go_simp; (try with_reducible rfl)
                clear hL; rename Shutb _ _ => hL
                (try simp only [Act.put, List.getElem_toArray, List.getElem_cons_zero, List.getElem_cons_succ, List.setIfInBounds_toArray, List.set_cons_zero, List.set_cons_succ])
                refine late_early (i := 5) (v := ?_) rfl (by kernel_rfl) (by kernel_rfl) (by kernel_rfl) (by decide) (by kernel_rfl) (fun _ _ _ h => h) hL (Or.inl ⟨by rfl, ?_⟩) (fun _ => ⟨n0, n1, n2⟩) (fun hL' => ?_)
                rotate_left
                · intro y hy; have hz := hy rfl; clear hy; obtain ⟨g1, g2, g3⟩ := hz; go_simp; (try with_reducible rfl)
                clear hL; rename Shutb _ _ => hL
                (try simp only [Act.put, List.getElem_toArray, List.getElem_cons_zero, List.getElem_cons_succ, List.setIfInBounds_toArray, List.set_cons_zero, List.set_cons_succ])
                refine late_early (i := 6) (v := ?_) rfl (by kernel_rfl) (by kernel_rfl) (by kernel_rfl) (by decide) (by kernel_rfl) (fun _ _ _ h => h) hL (Or.inl ⟨by rfl, ?_⟩) (fun _ => ⟨n0, n1, n2⟩) (fun hL' => ?_)
                rotate_left
                · intro y hy; clear hy; go_simp; (try with_reducible rfl)
                clear hL; rename Shutb _ _ => hL
                (try simp only [Act.put, List.getElem_toArray, List.getElem_cons_zero, List.getElem_cons_succ, List.setIfInBounds_toArray, List.set_cons_zero, List.set_cons_succ])
                refine late_early (i := 7) (v := ?_) rfl (by kernel_rfl) (by kernel_rfl) (by kernel_rfl) (by decide) (by kernel_rfl) (fun _ _ _ h => h) hL (Or.inl ⟨by rfl, ?_⟩) (fun _ => ⟨n0, n1, n2⟩) (fun hL' => ?_)
                rotate_left
                · intro y hy; clear hy; go_simp; (try with_reducible rfl)
                clear hL; rename Shutb _ _ => hL
                (try simp only [Act.put, List.getElem_toArray, List.getElem_cons_zero, List.getElem_cons_succ, List.setIfInBounds_toArray, List.set_cons_zero, List.set_cons_succ])
                refine late_early (i := 8) (v := ?_) rfl (by kernel_rfl) (by kernel_rfl) (by kernel_rfl) (by decide) (by kernel_rfl) (fun _ _ _ h => h) hL (Or.inl ⟨by rfl, ?_⟩) (fun _ => ⟨n0, n1, n2⟩) (fun hL' => ?_)
                rotate_left
                · intro y hy; clear hy; go_simp; (try with_reducible rfl)
                clear hL; rename Shutb _ _ => hL
                (try simp only [Act.put, List.getElem_toArray, List.getElem_cons_zero, List.getElem_cons_succ, List.setIfInBounds_toArray, List.set_cons_zero, List.set_cons_succ])
                refine late_early (i := 9) (v := ?_) rfl (by kernel_rfl) (by kernel_rfl) (by kernel_rfl) (by decide) (by kernel_rfl) (fun _ _ _ h => h) hL (Or.inl ⟨by rfl, ?_⟩) (fun _ => ⟨n0, n1, n2⟩) (fun hL' => ?_)
                rotate_left
                · intro y hy; have hz := hy rfl; clear hy; obtain ⟨g1, g2, g3⟩ := hz; go_simp; (try with_reducible rfl)
                clear hL; rename Shutb _ _ => hL
                (try simp only [Act.put, List.getElem_toArray, List.getElem_cons_zero, List.getElem_cons_succ, List.setIfInBounds_toArray, List.set_cons_zero, List.set_cons_succ])
                refine late_early (i := 10) (v := ?_) rfl (by kernel_rfl) (by kernel_rfl) (by kernel_rfl) (by decide) (by kernel_rfl) (fun _ _ _ h => h) hL (Or.inl ⟨by rfl, ?_⟩) (fun _ => ⟨n0, n1, n2⟩) (fun hL' => ?_)
                rotate_left
                · intro y hy; clear hy; go_simp; (try with_reducible rfl)
                clear hL; rename Shutb _ _ => hL
                (try simp only [Act.put, List.getElem_toArray, List.getElem_cons_zero, List.getElem_cons_succ, List.setIfInBounds_toArray, List.set_cons_zero, List.set_cons_succ])
                refine late_early (i := 11) (v := ?_) rfl (by kernel_rfl) (by kernel_rfl) (by kernel_rfl) (by decide) (by kernel_rfl) (fun _ _ _ h => h) hL (Or.inl ⟨by rfl, ?_⟩) (fun _ => ⟨n0, n1, n2⟩) (fun hL' => ?_)
                rotate_left
                · intro y hy; clear hy; go_simp; (try with_reducible rfl)
                clear hL; rename Shutb _ _ => hL
                (try simp only [Act.put, List.getElem_toArray, List.getElem_cons_zero, List.getElem_cons_succ, List.setIfInBounds_toArray, List.set_cons_zero, List.set_cons_succ])
                refine late_early (i := 12) (v := ?_) rfl (by kernel_rfl) (by kernel_rfl) (by kernel_rfl) (by decide) (by kernel_rfl) (fun _ _ _ h => h) hL (Or.inl ⟨by rfl, ?_⟩) (fun _ => ⟨n0, n1, n2⟩) (fun hL' => ?_)
                rotate_left
                · intro y hy; have hz := hy rfl; clear hy; obtain ⟨g1, g2, g3⟩ := hz; go_simp; (try with_reducible rfl)
                clear hL; rename Shutb _ _ => hL
                (try simp only [Act.put, List.getElem_toArray, List.getElem_cons_zero, List.getElem_cons_succ, List.setIfInBounds_toArray, List.set_cons_zero, List.set_cons_succ])
                refine late_early (i := 13) (v := ?_) rfl (by kernel_rfl) (by kernel_rfl) (by kernel_rfl) (by decide) (by kernel_rfl) (fun _ _ _ h => h) hL (Or.inl ⟨by rfl, ?_⟩) (fun _ => ⟨n0, n1, n2⟩) (fun hL' => ?_)
                rotate_left
                · intro y hy; clear hy; go_simp; (try with_reducible rfl)
                clear hL; rename Shutb _ _ => hL
                (try simp only [Act.put, List.getElem_toArray, List.getElem_cons_zero, List.getElem_cons_succ, List.setIfInBounds_toArray, List.set_cons_zero, List.set_cons_succ])
                refine late_early (i := 14) (v := ?_) rfl (by kernel_rfl) (by kernel_rfl) (by kernel_rfl) (by decide) (by kernel_rfl) (fun _ _ _ h => h) hL (Or.inl ⟨by rfl, ?_⟩) (fun _ => ⟨n0, n1, n2⟩) (fun hL' => ?_)
                rotate_left
                · intro y hy; have hz := hy rfl; clear hy; obtain ⟨g1, g2, g3⟩ := hz; go_simp; (try with_reducible rfl)
                clear hL; rename Shutb _ _ => hL
                (try simp only [Act.put, List.getElem_toArray, List.getElem_cons_zero, List.getElem_cons_succ, List.setIfInBounds_toArray, List.set_cons_zero, List.set_cons_succ])
                refine late_early (i := 15) (v := ?_) rfl (by kernel_rfl) (by kernel_rfl) (by kernel_rfl) (by decide) (by kernel_rfl) (fun _ _ _ h => h) hL (Or.inl ⟨by rfl, ?_⟩) (fun _ => ⟨n0, n1, n2⟩) (fun hL' => ?_)
                rotate_left
                · intro y hy; clear hy; go_simp; (try with_reducible rfl)
                clear hL; rename Shutb _ _ => hL
                (try simp only [Act.put, List.getElem_toArray, List.getElem_cons_zero, List.getElem_cons_succ, List.setIfInBounds_toArray, List.set_cons_zero, List.set_cons_succ])
                refine late_early (i := 16) (v := ?_) rfl (by kernel_rfl) (by kernel_rfl) (by kernel_rfl) (by decide) (by kernel_rfl) (fun _ _ _ h => h) hL (Or.inl ⟨by rfl, ?_⟩) (fun _ => ⟨n0, n1, n2⟩) (fun hL' => ?_)
                rotate_left
                · intro y hy; clear hy; go_simp; (try with_reducible rfl)
                clear hL; rename Shutb _ _ => hL
                (try simp only [Act.put, List.getElem_toArray, List.getElem_cons_zero, List.getElem_cons_succ, List.setIfInBounds_toArray, List.set_cons_zero, List.set_cons_succ])
                refine late_early (i := 17) (v := ?_) rfl (by kernel_rfl) (by kernel_rfl) (by kernel_rfl) (by decide) (by kernel_rfl) (fun _ _ _ h => h) hL (Or.inl ⟨by rfl, ?_⟩) (fun _ => ⟨n0, n1, n2⟩) (fun hL' => ?_)
                rotate_left
                · intro y hy; clear hy; go_simp; (try with_reducible rfl)
                clear hL; rename Shutb _ _ => hL
                (try simp only [Act.put, List.getElem_toArray, List.getElem_cons_zero, List.getElem_cons_succ, List.setIfInBounds_toArray, List.set_cons_zero, List.set_cons_succ])
                refine late_early (i := 18) (v := ?_) rfl (by kernel_rfl) (by kernel_rfl) (by kernel_rfl) (by decide) (by kernel_rfl) (fun _ _ _ h => h) hL (Or.inl ⟨by rfl, ?_⟩) (fun _ => ⟨n0, n1, n2⟩) (fun hL' => ?_)
                rotate_left
                · intro y hy; have hz := hy rfl; clear hy; obtain ⟨g1, g2, g3⟩ := hz; go_simp; (try with_reducible rfl)
                clear hL; rename Shutb _ _ => hL
                (try simp only [Act.put, List.getElem_toArray, List.getElem_cons_zero, List.getElem_cons_succ, List.setIfInBounds_toArray, List.set_cons_zero, List.set_cons_succ])
                refine late_early (i := 19) (v := ?_) rfl (by kernel_rfl) (by kernel_rfl) (by kernel_rfl) (by decide) (by kernel_rfl) (fun _ _ _ h => h) hL (Or.inl ⟨by rfl, ?_⟩) (fun _ => ⟨n0, n1, n2⟩) (fun hL' => ?_)
                rotate_left
                · intro y hy; clear hy; go_simp; (try with_reducible rfl)
                clear hL; rename Shutb _ _ => hL
                (try simp only [Act.put, List.getElem_toArray, List.getElem_cons_zero, List.getElem_cons_succ, List.setIfInBounds_toArray, List.set_cons_zero, List.set_cons_succ])
                refine late_one (i := 20) (by kernel_rfl) hL (fun hL' => ?_)
                refine wpOp_step rfl (fun K hK0 => ?_)
                have hK : Shut _ := hK0
                clear hK0
                go_simp
                refine hK.out _ _ ⟨fun _ => ⟨n0, n1, n2⟩, ?_⟩
                clear hK K; clear hL; rename Shutb _ _ => hL
                (try simp only [Act.put, List.getElem_toArray, List.getElem_cons_zero, List.getElem_cons_succ, List.setIfInBounds_toArray, List.set_cons_zero, List.set_cons_succ])
                refine late_one (i := 21) (by kernel_rfl) hL (fun hL' => ?_)
                refine wpOp_step rfl (fun K hK0 => ?_)
                have hK : Shut _ := hK0
                clear hK0
                go_simp
                refine hK.out _ _ ⟨fun _ => ⟨n0, n1, n2⟩, ?_⟩
                clear hK K; clear hL; rename Shutb _ _ => hL
                (try simp only [Act.put, List.getElem_toArray, List.getElem_cons_zero, List.getElem_cons_succ, List.setIfInBounds_toArray, List.set_cons_zero, List.set_cons_succ])
                refine late_one (i := 22) (by kernel_rfl) hL (fun hL' => ?_)
                refine wpOp_step rfl (fun K hK0 => ?_)
                have hK : Shut _ := hK0
                clear hK0
                go_simp
                refine hK.out _ _ ⟨fun _ => ⟨n0, n1, n2⟩, ?_⟩
                clear hK K; clear hL; rename Shutb _ _ => hL
                (try simp only [Act.put, List.getElem_toArray, List.getElem_cons_zero, List.getElem_cons_succ, List.setIfInBounds_toArray, List.set_cons_zero, List.set_cons_succ])
                refine late_one (i := 23) (by kernel_rfl) hL (fun hL' => ?_)
                refine wpOp_step rfl (fun K hK0 => ?_)
                have hK : Shut _ := hK0
                clear hK0
                have k9 := hB3.drew.free
                go_simp
                refine hK.out _ _ ⟨fun e => absurd (e : true = false) (by decide), ?_⟩
                clear hK K; clear hL; rename Shutb _ _ => hL
                (try simp only [Act.put, List.getElem_toArray, List.getElem_cons_zero, List.getElem_cons_succ, List.setIfInBounds_toArray, List.set_cons_zero, List.set_cons_succ])
                refine late_done (by kernel_rfl) ?_
                (try dsimp only [Exit.then])
                have hB4 : Blk (w3.drew.setCell ⟨bL, 2, none⟩ (.int .i64 (s2.used + need))) bL #[.int .i64 (C.start c b), .int .i64 s1.sun, .int .i64 (s2.used + need), .int .i64 s1.lost, .int .i64 s1.faded, .int .i64 0] 29 := by simpa using hB3.drew.set 2 (.int .i64 (s2.used + need))
                have hO4 : Off bL wr (w3.drew.setCell ⟨bL, 2, none⟩ (.int .i64 (s2.used + need))) := ((hOx.ext hEw3).ext ((Ext.refl _).drew)).set (a := ⟨bL, 2, none⟩) (.inl rfl) _
                (try rw [hwa])
                (try rw [hwb])
                (try rw [hwc])
                clear n0 n1 n2 k0 k1 k2 l0 l1 m0'
                go_wp2
                go_roundw
                case rel => exact ⟨j + 1, by omega, by go_num, by rw [HSU3.out], by rw [HSU3.out], by rw [Int.pow_succ, HBT.out, Int.mul_comm], by rw [HSU3.out]; exact hB4, hO4⟩
                case measure => simp [intOf]; omega
              · have HSU3 : Hid (C.ldSt c off s1 (j + 1) = s2) := by have h := HSU.out; rw [if_neg (fun e => hen e.2)] at h; exact h
                have hge : decide (s2.e ≥ need + keep) = false := by simp; omega
                go_upto_region 17 with (fail)
                refine wp_region_ext 21 (fun _ _ d _ _ h => by cases d <;> exact h) (by kernel_rfl) (by kernel_rfl) (by kernel_rfl) (by kernel_rfl) ?_
                (try simp only [List.append_eq, List.cons_append, List.nil_append])
                simp only [List.take_succ_cons, List.take_zero, List.drop_succ_cons, List.drop_zero]
                repeat (any_goals (first | go_big_quiet_step ((go_at_call 24; exact ext_quiet (HH9.out _))) | quiet_step ((go_at_call 24; exact ext_quiet (HH9.out _)))))
                all_goals (refine wpQuiet_nil ?_; intro w3 hEw3)
                go_wp2
                go_roundw
                case rel => exact ⟨j + 1, by omega, by go_num, by rw [HSU3.out], by rw [HSU3.out], by rw [Int.pow_succ, HBT.out, Int.mul_comm], by rw [HSU3.out]; exact hB.ext hEw3, hOx.ext hEw3⟩
                case measure => simp [intOf]; omega
          · obtain rfl : c.loads.length = j := by omega
            have hs2a : C.loadsSt c off s1 = s2 := HS2.out
            have hf1' : s2.sun = s1.sun := by rw [← HS2.out]; rfl
            have hf2 : s2.lost = s1.lost := by rw [← HS2.out]; rfl
            have hf3 : s2.faded = s1.faded := by rw [← HS2.out]; rfl
            have hbd9 := HDD.out.2.1
            rw [hs2a] at hbd9
            obtain ⟨y0, y1, y2, y3, y4, y5, y6, y7, y8, y9⟩ := hbd9
            have hfb := C.fades_bd HO.out (e := s2.e) y0
            obtain ⟨f, hf⟩ : ∃ f, C.fades c s2.e = f := ⟨_, rfl⟩
            rw [hf] at hfb
            have hX0 : 0 ≤ s2.e * c.fade := Int.mul_nonneg y0 hf0
            have hX1 : s2.e * c.fade ≤ 8000000 * 1000 := Int.mul_le_mul y1 HO.out.f1 hf0 (by omega)
            have hX2 : s2.e * c.fade / 1000 = f := hf
            obtain ⟨X9, hX9⟩ : ∃ X9, s2.e * c.fade = X9 := ⟨_, rfl⟩
            rw [hX9] at hX0 hX1 hX2
            have hwX : IntKind.wrap .i64 X9 = X9 := IntWalk.i64_in _ (by omega)
            have hnx : C.stateAt c p b off T (k + 1) = { s2 with e := s2.e - f, faded := s1.faded + f } := by rw [HNX.out, HDY.out, hs2a]; unfold C.fadeSt; rw [hf, hf3]
            have hwf : IntKind.wrap .i64 (s1.faded + f) = s1.faded + f := IntWalk.i64_in _ (by have := HDD.out.1; have h1 := this.f0; have h2 := this.f1; omega)
            have HX2 := Lib.hid hX2
            have HF1 := Lib.hid (And.intro hf1' hf2)
            have HNX2 := Lib.hid hnx
            clear hX2 hf1' hf2 hf3 hf hnx hs2a
            have k0 := hB.cell
            have k1 := hB.lt
            have k2 := hB.free
            have l0 := hbxx.cell
            have l1 := hbxx.lt
            go_upto_region 21 with (fail)
            rw [HX2.out]
            go_upto_region 22 with (fail)
            (try rw [hwf])
            have hB4 : Blk (wx.setCell ⟨bL, 4, none⟩ (.int .i64 (s1.faded + f))) bL #[.int .i64 (C.start c b), .int .i64 s1.sun, .int .i64 s2.used, .int .i64 s1.lost, .int .i64 (s1.faded + f), .int .i64 0] 29 := by simpa using hB.set 4 (.int .i64 (s1.faded + f))
            have hO4 : Off bL wr (wx.setCell ⟨bL, 4, none⟩ (.int .i64 (s1.faded + f))) := hOx.set (a := ⟨bL, 4, none⟩) (.inl rfl) _
            obtain ⟨w4, hw4e⟩ : ∃ w4, wx.setCell ⟨bL, 4, none⟩ (.int .i64 (s1.faded + f)) = w4 := ⟨_, rfl⟩
            rw [hw4e] at hB4 hO4 ⊢
            have hown4 := own_off hown hO4 (by have := HZ1.out; omega)
            have hz4 := hO4.size
            have hb4 := hB4.lt
            have hO14 := hO.trans hO4
            have hz14 := hO14.size
            have HZ := HZ1.out
            clear k0 k1 k2 l0 l1 hw4e hB hOx hbxx hEx hX9
            go_wp2_with (at_builtin; refine wpList_append_own _ rfl _ _ 27 rfl (w1.heap.size) 41 i0 (.agg #[.int .i64 0, .int .i64 0]) 2 16 Try.underlying27 hi hz0 hz1 hz2 rfl (by decide) _ _ _ rfl (own_ext hown4 ((Ext.refl _).alloc _)) ⟨w4.heap.size, 0, none⟩ 1 1 [.int .i64 (s2.e - f), .int .i64 s2.carried] rfl rfl (cell_two _ _ _ _ (by simp)) (two_ints _ _) (by unfold maxLen; omega) (by omega) (by simp; omega) ?_; intro v' w9 hown' hgrow _)
            have hEb : Ext w4 (w4.alloc (.cells #[.int .i64 (s2.e - f), .int .i64 s2.carried] 41)) := (Ext.refl _).alloc _
            have hB9 := Blk.grown (hB4.ext hEb) hgrow (own_base hown4) (by omega)
            have hO9 : Off bL w1 w9 := ⟨hgrow.os.trans hO14.os, hgrow.tape.trans hO14.tape, hgrow.output.trans hO14.output, by have h1 := hgrow.size; have h2 := hEb.size; omega, fun g hg hgb => by rw [hgrow.block g (by have h2 := hEb.size; omega) (fun e => by have := own_base hown4 g (by first | exact e | exact e.symm); omega), hEb.block g (by omega)]; exact hO14.block g hg hgb⟩
            have hda : C.dayAt c p b off T k = ⟨s2.e - f, s2.carried⟩ := by unfold C.dayAt; rw [HNX2.out]
            refine ⟨⟨k + 1, by omega, by go_num, by rw [HNX2.out], ?_, ?_, hO9⟩, by simp [intOf]; omega⟩
            · rw [List.range_succ, List.map_append, List.flatMap_append]
              simpa [hda, dayC] using hown'
            · rw [HNX2.out]
              dsimp only
              rw [HF1.out.1, HF1.out.2]
              exact hB9
      | false =>
        have hg : C.gives c p x = PS := hgv
        go_upto_region 11 with (fail)
        obtain ⟨F, hF⟩ : ∃ F, C.full c b (s.e + PS) = F := ⟨_, rfl⟩
        have hFd : F = if s.e + PS < Hh then s.e + PS else Hh := by rw [← hF, ← HH.out]; rfl
        have hF1 : 0 ≤ F ∧ F ≤ Hh ∧ F ≤ s.e + PS := by rw [hFd]; split <;> omega
        have hmx : max 0 (s.e + PS - Hh) = s.e + PS - F := by rw [hFd]; split <;> omega
        have hsun : C.sunSt c p b x s = { s with e := F, sun := s.sun + PS, lost := s.lost + (s.e + PS) - F } := by unfold C.sunSt; rw [hg, hF]
        have HMX := Lib.hid hmx
        have HSUN := Lib.hid hsun
        have HHG := Lib.hid hg
        clear hF hFd hmx hsun hg hgv h99
        go_upto_region 12 with (fail)
        rw [HMX.out]
        have he9 : s.e + PS - (s.e + PS - F) = F := by omega
        have hwl : IntKind.wrap .i64 (s.lost + (s.e + PS - F)) = s.lost + (s.e + PS - F) := IntWalk.i64_in _ (by omega)
        go_upto_region 13 with (fail)
        obtain ⟨s1, hs1e⟩ : ∃ s1, C.sunSt c p b x s = s1 := ⟨_, rfl⟩
        have hs1d : s1 = { s with e := F, sun := s.sun + PS, lost := s.lost + (s.e + PS) - F } := by rw [← hs1e]; exact HSUN.out
        have e1 : s1.e = F := by rw [hs1d]
        have e2 : s1.sun = s.sun + PS := by rw [hs1d]
        have e3 : s1.used = s.used := by rw [hs1d]
        have e4 : s1.lost = s.lost + (s.e + PS - F) := by rw [hs1d]; dsimp only; omega
        have e5 : s1.faded = s.faded := by rw [hs1d]
        have hB1 : Blk ((wr.setCell ⟨bL, 1, none⟩ (.int .i64 (s.sun + PS))).setCell ⟨bL, 3, none⟩ (.int .i64 (s.lost + (s.e + PS - F)))) bL #[.int .i64 (C.start c b), .int .i64 s1.sun, .int .i64 s1.used, .int .i64 s1.lost, .int .i64 s1.faded, .int .i64 0] 29 := by
          rw [e2, e3, e4, e5]
          simpa using (hB.set 1 (.int .i64 (s.sun + PS))).set 3 (.int .i64 (s.lost + (s.e + PS - F)))
        have hO1 : Off bL wr ((wr.setCell ⟨bL, 1, none⟩ (.int .i64 (s.sun + PS))).setCell ⟨bL, 3, none⟩ (.int .i64 (s.lost + (s.e + PS - F)))) := ((Off.refl bL wr).set (a := ⟨bL, 1, none⟩) (.inl rfl) _).set (a := ⟨bL, 3, none⟩) (.inl rfl) _
        obtain ⟨w2, hw2e⟩ : ∃ w2, (wr.setCell ⟨bL, 1, none⟩ (.int .i64 (s.sun + PS))).setCell ⟨bL, 3, none⟩ (.int .i64 (s.lost + (s.e + PS - F))) = w2 := ⟨_, rfl⟩
        (try rw [he9])
        (try rw [hw2e])
        rw [hw2e] at hB1 hO1
        have hday := HDAY.out
        have hdy : C.daySt c p b off x s = C.fadeSt c (C.loadsSt c off s1) := by unfold C.daySt; rw [hs1e]
        rw [hdy, hs1e] at hday
        have HDY := Lib.hid hdy
        have hldb := fun k hk => C.ldSt_bd HO.out off hday.1 k hk
        rw [e1] at hldb
        have hsu9 := fun k (hk : k < c.loads.length) => C.ldSt_succ c off s1 hk
        have HLD := Lib.hid HO.out.load
        have HLB := Lib.hid hldb
        have HDD := Lib.hid hday
        have HS9 := Lib.hid hsu9
        rw [show F = (C.ldSt c off s1 0).e from by rw [C.ldSt_zero]; exact e1.symm]
        have hB2 : Blk w2 bL #[.int .i64 (C.start c b), .int .i64 s1.sun, .int .i64 (C.ldSt c off s1 0).used, .int .i64 s1.lost, .int .i64 s1.faded, .int .i64 0] 29 := hB1
        clear hw2e hs1d HSUN HMX he9 hwl hs1e e1 e2 e3 e4 e5 hday hdy hldb hB1 k0 k1 k2 l0 l1 hB hsu9
        go_wp2
        go_loopw [13, 19, 20, 21] (fun vn vc vb vi wx => ∃ j : Nat, j ≤ c.loads.length ∧ vi = .int .i64 j ∧ vn = .int .i64 (C.ldSt c off s1 j).e ∧ vc = .int .i64 (C.ldSt c off s1 j).carried ∧ vb = .int .i64 (2 ^ j) ∧ Blk wx bL #[.int .i64 (C.start c b), .int .i64 s1.sun, .int .i64 (C.ldSt c off s1 j).used, .int .i64 s1.lost, .int .i64 s1.faded, .int .i64 0] 29 ∧ Off bL wr wx) (fun _ _ _ vi _ => c.loads.length - (intOf vi).toNat)
        case atStart => exact ⟨0, Nat.zero_le _, rfl, rfl, rfl, rfl, hB2, hO1⟩
        case round =>
          rename World => wx
          clear hB2 hO1
          obtain ⟨j, hj, rfl, rfl, rfl, rfl, hB, hOx⟩ := hrel
          have hbxx := hbxr.off hOx (by omega)
          have hEx : Ext w wx := hOx.ext0 hEr (by omega)
          have hlb := HLB.out j hj
          have hpj := pow_bd (n := j) (by omega)
          obtain ⟨s2, hs2e⟩ : ∃ s2, C.ldSt c off s1 j = s2 := ⟨_, rfl⟩
          rw [hs2e] at hlb hB ⊢
          have HS2 := Lib.hid hs2e
          obtain ⟨BT, hBT⟩ : ∃ BT, (2 : Int) ^ j = BT := ⟨_, rfl⟩
          rw [hBT] at hpj hlb ⊢
          have HBT := Lib.hid hBT
          clear hs2e hBT
          by_cases hlj : j < c.loads.length
          · obtain ⟨b5, o5, rfl, hb5, hAt⟩ := HX.out j hlj
            obtain ⟨m0, m1, m2⟩ := load_cells (ate_stays _ _ _ _ _ _ hEx hb5 hAt)
            have hb5l := Nat.lt_of_lt_of_le hb5 hEx.size
            have hld := HLD.out _ (List.getElem_mem hlj)
            have hsu := HS9.out j hlj
            rw [HS2.out, HBT.out] at hsu
            obtain ⟨ld, hld9⟩ : ∃ ld, c.loads[j] = ld := ⟨_, rfl⟩
            rw [hld9] at m0 m1 m2 hld hsu
            have HH9 := Lib.hid (fun w' => (dhas_any off j w' ho0 (by omega) (by omega)).mono (fun e w2 h => (⟨h.1, h.2 ▸ Ext.refl _⟩ : e = .returned (.bool (C.has off j)) ∧ Ext w' w2)))
            obtain ⟨H, hH⟩ : ∃ H, C.has off j = H := ⟨_, rfl⟩
            rw [hH] at hsu
            simp only [hH] at HH9
            have HSU := Lib.hid hsu
            obtain ⟨need, keep, mst⟩ := ld
            dsimp only at hld m0 m1 m2
            clear hAt hld9 hH hsu m2
            have l0 := hbxx.cell
            have l1 := hbxx.lt
            cases H with
            | true =>
              have HSU3 : Hid (C.ldSt c off s1 (j + 1) = s2) := by have h := HSU.out; rw [if_neg (fun e => by cases e.1)] at h; exact h
              go_upto_region 17 with (fail)
              refine wp_region_ext 21 (fun _ _ d _ _ h => by cases d <;> exact h) (by kernel_rfl) (by kernel_rfl) (by kernel_rfl) (by kernel_rfl) ?_
              (try simp only [List.append_eq, List.cons_append, List.nil_append])
              simp only [List.take_succ_cons, List.take_zero, List.drop_succ_cons, List.drop_zero]
              repeat (any_goals (first | go_big_quiet_step ((go_at_call 24; exact ext_quiet (HH9.out _))) | quiet_step ((go_at_call 24; exact ext_quiet (HH9.out _)))))
              all_goals (refine wpQuiet_nil ?_; intro w3 hEw3)
              go_wp2
              go_roundw
              case rel => exact ⟨j + 1, by omega, by go_num, by rw [HSU3.out], by rw [HSU3.out], by rw [Int.pow_succ, HBT.out, Int.mul_comm], by rw [HSU3.out]; exact hB.ext hEw3, hOx.ext hEw3⟩
              case measure => simp [intOf]; omega
            | false =>
              by_cases hen : need + keep ≤ s2.e
              · have HSU3 : Hid (C.ldSt c off s1 (j + 1) = { s2 with e := s2.e - need, carried := s2.carried + BT, used := s2.used + need }) := by have h := HSU.out; rw [if_pos ⟨rfl, hen⟩] at h; exact h
                have hge : decide (s2.e ≥ need + keep) = true := by simp; omega
                have hbd9 := HDD.out.1
                have hu0 := hbd9.u0
                have hu1 := hbd9.u1
                have hwa : IntKind.wrap .i64 (s2.e - need) = s2.e - need := IntWalk.i64_in _ (by omega)
                have hwb : IntKind.wrap .i64 (s2.carried + BT) = s2.carried + BT := IntWalk.i64_in _ (by omega)
                have hwc : IntKind.wrap .i64 (s2.used + need) = s2.used + need := IntWalk.i64_in _ (by omega)
                clear hbd9
                go_upto_region 17 with (fail)
                refine wp_region_ext 21 (fun _ _ d _ _ h => by cases d <;> exact h) (by kernel_rfl) (by kernel_rfl) (by kernel_rfl) (by kernel_rfl) ?_
                (try simp only [List.append_eq, List.cons_append, List.nil_append])
                simp only [List.take_succ_cons, List.take_zero, List.drop_succ_cons, List.drop_zero]
                repeat (any_goals (first | go_big_quiet_step ((go_at_call 24; exact ext_quiet (HH9.out _))) | quiet_step ((go_at_call 24; exact ext_quiet (HH9.out _)))))
                all_goals (refine wpQuiet_nil ?_; intro w3 hEw3)
                have hB3 := hB.ext hEw3
                have hbx3 := hbxx.ext hEw3
                have hE3 : Ext w w3 := hEx.trans hEw3
                have m0' := (hEw3.cells.1 b5 (o5 + j * 3) hb5l).trans m0
                clear l0 l1 m0 m1
                have k0 := hB3.cell
                have k1 := hB3.lt
                have k2 := hB3.free
                have l0 := hbx3.cell
                have l1 := hbx3.lt
                have hb53 : b5 < w3.heap.size := Nat.lt_of_lt_of_le hb5l hEw3.size
                go_upto_region 18 with (fail)
                have n0 := hbx3.drew.cell
                have n2 := hB3.drew.cell
                have n1 : w3.drew.cell? ⟨b5, o5 + j * 3, none⟩ = some (.int .i64 need) := m0'
                refine wp_region_late 23 (fun cc y => cc = false → ((∀ o, y.cell? ⟨w.heap.size, o, none⟩ = (sysV c (.slice (some ⟨b5, o5, none⟩) c.loads.length cap) : Array Value)[o]?) ∧ y.cell? ⟨b5, o5 + j * 3, none⟩ = some (.int .i64 need) ∧ (∀ o, y.cell? ⟨bL, o, none⟩ = (#[.int .i64 (C.start c b), .int .i64 s1.sun, .int .i64 s2.used, .int .i64 s1.lost, .int .i64 s1.faded, .int .i64 0] : Array Value)[o]?))) (by kernel_rfl) (fun hL => ?_)
                refine late_early (i := 0) (v := ?_) rfl (by kernel_rfl) (by kernel_rfl) (by kernel_rfl) (by decide) (by kernel_rfl) (fun _ _ _ h => h) hL (Or.inl ⟨by rfl, ?_⟩) (fun _ => ⟨n0, n1, n2⟩) (fun hL' => ?_)
                rotate_left
                · intro y hy; clear hy; go_simp; (try with_reducible rfl)
                clear hL; rename Shutb _ _ => hL
                (try simp only [Act.put, List.getElem_toArray, List.getElem_cons_zero, List.getElem_cons_succ, List.setIfInBounds_toArray, List.set_cons_zero, List.set_cons_succ])
                refine late_early (i := 1) (v := ?_) rfl (by kernel_rfl) (by kernel_rfl) (by kernel_rfl) (by decide) (by kernel_rfl) (fun _ _ _ h => h) hL (Or.inl ⟨by rfl, ?_⟩) (fun _ => ⟨n0, n1, n2⟩) (fun hL' => ?_)
                rotate_left
                · intro y hy; clear hy; go_simp; (try with_reducible rfl)
                clear hL; rename Shutb _ _ => hL
                (try simp only [Act.put, List.getElem_toArray, List.getElem_cons_zero, List.getElem_cons_succ, List.setIfInBounds_toArray, List.set_cons_zero, List.set_cons_succ])
                refine late_early (i := 2) (v := ?_) rfl (by kernel_rfl) (by kernel_rfl) (by kernel_rfl) (by decide) (by kernel_rfl) (fun _ _ _ h => h) hL (Or.inl ⟨by rfl, ?_⟩) (fun _ => ⟨n0, n1, n2⟩) (fun hL' => ?_)
                rotate_left
                · intro y hy; clear hy; go_simp; (try with_reducible rfl)
                clear hL; rename Shutb _ _ => hL
                (try simp only [Act.put, List.getElem_toArray, List.getElem_cons_zero, List.getElem_cons_succ, List.setIfInBounds_toArray, List.set_cons_zero, List.set_cons_succ])
                refine late_early (i := 3) (v := ?_) rfl (by kernel_rfl) (by kernel_rfl) (by kernel_rfl) (by decide) (by kernel_rfl) (fun _ _ _ h => h) hL (Or.inl ⟨by rfl, ?_⟩) (fun _ => ⟨n0, n1, n2⟩) (fun hL' => ?_)
                rotate_left
                · intro y hy; clear hy; go_simp; (try with_reducible rfl)
                clear hL; rename Shutb _ _ => hL
                (try simp only [Act.put, List.getElem_toArray, List.getElem_cons_zero, List.getElem_cons_succ, List.setIfInBounds_toArray, List.set_cons_zero, List.set_cons_succ])
                refine late_early (i := 4) (v := ?_) rfl (by kernel_rfl) (by kernel_rfl) (by kernel_rfl) (by decide) (by kernel_rfl) (fun _ _ _ h => h) hL (Or.inl ⟨by rfl, ?_⟩) (fun _ => ⟨n0, n1, n2⟩) (fun hL' => ?_)
                rotate_left
                · intro y hy; clear hy; go_simp; (try with_reducible rfl)
                clear hL; rename Shutb _ _ => hL
                (try simp only [Act.put, List.getElem_toArray, List.getElem_cons_zero, List.getElem_cons_succ, List.setIfInBounds_toArray, List.set_cons_zero, List.set_cons_succ])
                refine late_early (i := 5) (v := ?_) rfl (by kernel_rfl) (by kernel_rfl) (by kernel_rfl) (by decide) (by kernel_rfl) (fun _ _ _ h => h) hL (Or.inl ⟨by rfl, ?_⟩) (fun _ => ⟨n0, n1, n2⟩) (fun hL' => ?_)
                rotate_left
                · intro y hy; have hz := hy rfl; clear hy; obtain ⟨g1, g2, g3⟩ := hz; go_simp; (try with_reducible rfl)
                clear hL; rename Shutb _ _ => hL
                (try simp only [Act.put, List.getElem_toArray, List.getElem_cons_zero, List.getElem_cons_succ, List.setIfInBounds_toArray, List.set_cons_zero, List.set_cons_succ])
                refine late_early (i := 6) (v := ?_) rfl (by kernel_rfl) (by kernel_rfl) (by kernel_rfl) (by decide) (by kernel_rfl) (fun _ _ _ h => h) hL (Or.inl ⟨by rfl, ?_⟩) (fun _ => ⟨n0, n1, n2⟩) (fun hL' => ?_)
                rotate_left
                · intro y hy; clear hy; go_simp; (try with_reducible rfl)
                clear hL; rename Shutb _ _ => hL
                (try simp only [Act.put, List.getElem_toArray, List.getElem_cons_zero, List.getElem_cons_succ, List.setIfInBounds_toArray, List.set_cons_zero, List.set_cons_succ])
                refine late_early (i := 7) (v := ?_) rfl (by kernel_rfl) (by kernel_rfl) (by kernel_rfl) (by decide) (by kernel_rfl) (fun _ _ _ h => h) hL (Or.inl ⟨by rfl, ?_⟩) (fun _ => ⟨n0, n1, n2⟩) (fun hL' => ?_)
                rotate_left
                · intro y hy; clear hy; go_simp; (try with_reducible rfl)
                clear hL; rename Shutb _ _ => hL
                (try simp only [Act.put, List.getElem_toArray, List.getElem_cons_zero, List.getElem_cons_succ, List.setIfInBounds_toArray, List.set_cons_zero, List.set_cons_succ])
                refine late_early (i := 8) (v := ?_) rfl (by kernel_rfl) (by kernel_rfl) (by kernel_rfl) (by decide) (by kernel_rfl) (fun _ _ _ h => h) hL (Or.inl ⟨by rfl, ?_⟩) (fun _ => ⟨n0, n1, n2⟩) (fun hL' => ?_)
                rotate_left
                · intro y hy; clear hy; go_simp; (try with_reducible rfl)
                clear hL; rename Shutb _ _ => hL
                (try simp only [Act.put, List.getElem_toArray, List.getElem_cons_zero, List.getElem_cons_succ, List.setIfInBounds_toArray, List.set_cons_zero, List.set_cons_succ])
                refine late_early (i := 9) (v := ?_) rfl (by kernel_rfl) (by kernel_rfl) (by kernel_rfl) (by decide) (by kernel_rfl) (fun _ _ _ h => h) hL (Or.inl ⟨by rfl, ?_⟩) (fun _ => ⟨n0, n1, n2⟩) (fun hL' => ?_)
                rotate_left
                · intro y hy; have hz := hy rfl; clear hy; obtain ⟨g1, g2, g3⟩ := hz; go_simp; (try with_reducible rfl)
                clear hL; rename Shutb _ _ => hL
                (try simp only [Act.put, List.getElem_toArray, List.getElem_cons_zero, List.getElem_cons_succ, List.setIfInBounds_toArray, List.set_cons_zero, List.set_cons_succ])
                refine late_early (i := 10) (v := ?_) rfl (by kernel_rfl) (by kernel_rfl) (by kernel_rfl) (by decide) (by kernel_rfl) (fun _ _ _ h => h) hL (Or.inl ⟨by rfl, ?_⟩) (fun _ => ⟨n0, n1, n2⟩) (fun hL' => ?_)
                rotate_left
                · intro y hy; clear hy; go_simp; (try with_reducible rfl)
                clear hL; rename Shutb _ _ => hL
                (try simp only [Act.put, List.getElem_toArray, List.getElem_cons_zero, List.getElem_cons_succ, List.setIfInBounds_toArray, List.set_cons_zero, List.set_cons_succ])
                refine late_early (i := 11) (v := ?_) rfl (by kernel_rfl) (by kernel_rfl) (by kernel_rfl) (by decide) (by kernel_rfl) (fun _ _ _ h => h) hL (Or.inl ⟨by rfl, ?_⟩) (fun _ => ⟨n0, n1, n2⟩) (fun hL' => ?_)
                rotate_left
                · intro y hy; clear hy; go_simp; (try with_reducible rfl)
                clear hL; rename Shutb _ _ => hL
                (try simp only [Act.put, List.getElem_toArray, List.getElem_cons_zero, List.getElem_cons_succ, List.setIfInBounds_toArray, List.set_cons_zero, List.set_cons_succ])
                refine late_early (i := 12) (v := ?_) rfl (by kernel_rfl) (by kernel_rfl) (by kernel_rfl) (by decide) (by kernel_rfl) (fun _ _ _ h => h) hL (Or.inl ⟨by rfl, ?_⟩) (fun _ => ⟨n0, n1, n2⟩) (fun hL' => ?_)
                rotate_left
                · intro y hy; have hz := hy rfl; clear hy; obtain ⟨g1, g2, g3⟩ := hz; go_simp; (try with_reducible rfl)
                clear hL; rename Shutb _ _ => hL
                (try simp only [Act.put, List.getElem_toArray, List.getElem_cons_zero, List.getElem_cons_succ, List.setIfInBounds_toArray, List.set_cons_zero, List.set_cons_succ])
                refine late_early (i := 13) (v := ?_) rfl (by kernel_rfl) (by kernel_rfl) (by kernel_rfl) (by decide) (by kernel_rfl) (fun _ _ _ h => h) hL (Or.inl ⟨by rfl, ?_⟩) (fun _ => ⟨n0, n1, n2⟩) (fun hL' => ?_)
                rotate_left
                · intro y hy; clear hy; go_simp; (try with_reducible rfl)
                clear hL; rename Shutb _ _ => hL
                (try simp only [Act.put, List.getElem_toArray, List.getElem_cons_zero, List.getElem_cons_succ, List.setIfInBounds_toArray, List.set_cons_zero, List.set_cons_succ])
                refine late_early (i := 14) (v := ?_) rfl (by kernel_rfl) (by kernel_rfl) (by kernel_rfl) (by decide) (by kernel_rfl) (fun _ _ _ h => h) hL (Or.inl ⟨by rfl, ?_⟩) (fun _ => ⟨n0, n1, n2⟩) (fun hL' => ?_)
                rotate_left
                · intro y hy; have hz := hy rfl; clear hy; obtain ⟨g1, g2, g3⟩ := hz; go_simp; (try with_reducible rfl)
                clear hL; rename Shutb _ _ => hL
                (try simp only [Act.put, List.getElem_toArray, List.getElem_cons_zero, List.getElem_cons_succ, List.setIfInBounds_toArray, List.set_cons_zero, List.set_cons_succ])
                refine late_early (i := 15) (v := ?_) rfl (by kernel_rfl) (by kernel_rfl) (by kernel_rfl) (by decide) (by kernel_rfl) (fun _ _ _ h => h) hL (Or.inl ⟨by rfl, ?_⟩) (fun _ => ⟨n0, n1, n2⟩) (fun hL' => ?_)
                rotate_left
                · intro y hy; clear hy; go_simp; (try with_reducible rfl)
                clear hL; rename Shutb _ _ => hL
                (try simp only [Act.put, List.getElem_toArray, List.getElem_cons_zero, List.getElem_cons_succ, List.setIfInBounds_toArray, List.set_cons_zero, List.set_cons_succ])
                refine late_early (i := 16) (v := ?_) rfl (by kernel_rfl) (by kernel_rfl) (by kernel_rfl) (by decide) (by kernel_rfl) (fun _ _ _ h => h) hL (Or.inl ⟨by rfl, ?_⟩) (fun _ => ⟨n0, n1, n2⟩) (fun hL' => ?_)
                rotate_left
                · intro y hy; clear hy; go_simp; (try with_reducible rfl)
                clear hL; rename Shutb _ _ => hL
                (try simp only [Act.put, List.getElem_toArray, List.getElem_cons_zero, List.getElem_cons_succ, List.setIfInBounds_toArray, List.set_cons_zero, List.set_cons_succ])
                refine late_early (i := 17) (v := ?_) rfl (by kernel_rfl) (by kernel_rfl) (by kernel_rfl) (by decide) (by kernel_rfl) (fun _ _ _ h => h) hL (Or.inl ⟨by rfl, ?_⟩) (fun _ => ⟨n0, n1, n2⟩) (fun hL' => ?_)
                rotate_left
                · intro y hy; clear hy; go_simp; (try with_reducible rfl)
                clear hL; rename Shutb _ _ => hL
                (try simp only [Act.put, List.getElem_toArray, List.getElem_cons_zero, List.getElem_cons_succ, List.setIfInBounds_toArray, List.set_cons_zero, List.set_cons_succ])
                refine late_early (i := 18) (v := ?_) rfl (by kernel_rfl) (by kernel_rfl) (by kernel_rfl) (by decide) (by kernel_rfl) (fun _ _ _ h => h) hL (Or.inl ⟨by rfl, ?_⟩) (fun _ => ⟨n0, n1, n2⟩) (fun hL' => ?_)
                rotate_left
                · intro y hy; have hz := hy rfl; clear hy; obtain ⟨g1, g2, g3⟩ := hz; go_simp; (try with_reducible rfl)
                clear hL; rename Shutb _ _ => hL
                (try simp only [Act.put, List.getElem_toArray, List.getElem_cons_zero, List.getElem_cons_succ, List.setIfInBounds_toArray, List.set_cons_zero, List.set_cons_succ])
                refine late_early (i := 19) (v := ?_) rfl (by kernel_rfl) (by kernel_rfl) (by kernel_rfl) (by decide) (by kernel_rfl) (fun _ _ _ h => h) hL (Or.inl ⟨by rfl, ?_⟩) (fun _ => ⟨n0, n1, n2⟩) (fun hL' => ?_)
                rotate_left
                · intro y hy; clear hy; go_simp; (try with_reducible rfl)
                clear hL; rename Shutb _ _ => hL
                (try simp only [Act.put, List.getElem_toArray, List.getElem_cons_zero, List.getElem_cons_succ, List.setIfInBounds_toArray, List.set_cons_zero, List.set_cons_succ])
                refine late_one (i := 20) (by kernel_rfl) hL (fun hL' => ?_)
                refine wpOp_step rfl (fun K hK0 => ?_)
                have hK : Shut _ := hK0
                clear hK0
                go_simp
                refine hK.out _ _ ⟨fun _ => ⟨n0, n1, n2⟩, ?_⟩
                clear hK K; clear hL; rename Shutb _ _ => hL
                (try simp only [Act.put, List.getElem_toArray, List.getElem_cons_zero, List.getElem_cons_succ, List.setIfInBounds_toArray, List.set_cons_zero, List.set_cons_succ])
                refine late_one (i := 21) (by kernel_rfl) hL (fun hL' => ?_)
                refine wpOp_step rfl (fun K hK0 => ?_)
                have hK : Shut _ := hK0
                clear hK0
                go_simp
                refine hK.out _ _ ⟨fun _ => ⟨n0, n1, n2⟩, ?_⟩
                clear hK K; clear hL; rename Shutb _ _ => hL
                (try simp only [Act.put, List.getElem_toArray, List.getElem_cons_zero, List.getElem_cons_succ, List.setIfInBounds_toArray, List.set_cons_zero, List.set_cons_succ])
                refine late_one (i := 22) (by kernel_rfl) hL (fun hL' => ?_)
                refine wpOp_step rfl (fun K hK0 => ?_)
                have hK : Shut _ := hK0
                clear hK0
                go_simp
                refine hK.out _ _ ⟨fun _ => ⟨n0, n1, n2⟩, ?_⟩
                clear hK K; clear hL; rename Shutb _ _ => hL
                (try simp only [Act.put, List.getElem_toArray, List.getElem_cons_zero, List.getElem_cons_succ, List.setIfInBounds_toArray, List.set_cons_zero, List.set_cons_succ])
                refine late_one (i := 23) (by kernel_rfl) hL (fun hL' => ?_)
                refine wpOp_step rfl (fun K hK0 => ?_)
                have hK : Shut _ := hK0
                clear hK0
                have k9 := hB3.drew.free
                go_simp
                refine hK.out _ _ ⟨fun e => absurd (e : true = false) (by decide), ?_⟩
                clear hK K; clear hL; rename Shutb _ _ => hL
                (try simp only [Act.put, List.getElem_toArray, List.getElem_cons_zero, List.getElem_cons_succ, List.setIfInBounds_toArray, List.set_cons_zero, List.set_cons_succ])
                refine late_done (by kernel_rfl) ?_
                (try dsimp only [Exit.then])
                have hB4 : Blk (w3.drew.setCell ⟨bL, 2, none⟩ (.int .i64 (s2.used + need))) bL #[.int .i64 (C.start c b), .int .i64 s1.sun, .int .i64 (s2.used + need), .int .i64 s1.lost, .int .i64 s1.faded, .int .i64 0] 29 := by simpa using hB3.drew.set 2 (.int .i64 (s2.used + need))
                have hO4 : Off bL wr (w3.drew.setCell ⟨bL, 2, none⟩ (.int .i64 (s2.used + need))) := ((hOx.ext hEw3).ext ((Ext.refl _).drew)).set (a := ⟨bL, 2, none⟩) (.inl rfl) _
                (try rw [hwa])
                (try rw [hwb])
                (try rw [hwc])
                clear n0 n1 n2 k0 k1 k2 l0 l1 m0'
                go_wp2
                go_roundw
                case rel => exact ⟨j + 1, by omega, by go_num, by rw [HSU3.out], by rw [HSU3.out], by rw [Int.pow_succ, HBT.out, Int.mul_comm], by rw [HSU3.out]; exact hB4, hO4⟩
                case measure => simp [intOf]; omega
              · have HSU3 : Hid (C.ldSt c off s1 (j + 1) = s2) := by have h := HSU.out; rw [if_neg (fun e => hen e.2)] at h; exact h
                have hge : decide (s2.e ≥ need + keep) = false := by simp; omega
                go_upto_region 17 with (fail)
                refine wp_region_ext 21 (fun _ _ d _ _ h => by cases d <;> exact h) (by kernel_rfl) (by kernel_rfl) (by kernel_rfl) (by kernel_rfl) ?_
                (try simp only [List.append_eq, List.cons_append, List.nil_append])
                simp only [List.take_succ_cons, List.take_zero, List.drop_succ_cons, List.drop_zero]
                repeat (any_goals (first | go_big_quiet_step ((go_at_call 24; exact ext_quiet (HH9.out _))) | quiet_step ((go_at_call 24; exact ext_quiet (HH9.out _)))))
                all_goals (refine wpQuiet_nil ?_; intro w3 hEw3)
                go_wp2
                go_roundw
                case rel => exact ⟨j + 1, by omega, by go_num, by rw [HSU3.out], by rw [HSU3.out], by rw [Int.pow_succ, HBT.out, Int.mul_comm], by rw [HSU3.out]; exact hB.ext hEw3, hOx.ext hEw3⟩
                case measure => simp [intOf]; omega
          · obtain rfl : c.loads.length = j := by omega
            have hs2a : C.loadsSt c off s1 = s2 := HS2.out
            have hf1' : s2.sun = s1.sun := by rw [← HS2.out]; rfl
            have hf2 : s2.lost = s1.lost := by rw [← HS2.out]; rfl
            have hf3 : s2.faded = s1.faded := by rw [← HS2.out]; rfl
            have hbd9 := HDD.out.2.1
            rw [hs2a] at hbd9
            obtain ⟨y0, y1, y2, y3, y4, y5, y6, y7, y8, y9⟩ := hbd9
            have hfb := C.fades_bd HO.out (e := s2.e) y0
            obtain ⟨f, hf⟩ : ∃ f, C.fades c s2.e = f := ⟨_, rfl⟩
            rw [hf] at hfb
            have hX0 : 0 ≤ s2.e * c.fade := Int.mul_nonneg y0 hf0
            have hX1 : s2.e * c.fade ≤ 8000000 * 1000 := Int.mul_le_mul y1 HO.out.f1 hf0 (by omega)
            have hX2 : s2.e * c.fade / 1000 = f := hf
            obtain ⟨X9, hX9⟩ : ∃ X9, s2.e * c.fade = X9 := ⟨_, rfl⟩
            rw [hX9] at hX0 hX1 hX2
            have hwX : IntKind.wrap .i64 X9 = X9 := IntWalk.i64_in _ (by omega)
            have hnx : C.stateAt c p b off T (k + 1) = { s2 with e := s2.e - f, faded := s1.faded + f } := by rw [HNX.out, HDY.out, hs2a]; unfold C.fadeSt; rw [hf, hf3]
            have hwf : IntKind.wrap .i64 (s1.faded + f) = s1.faded + f := IntWalk.i64_in _ (by have := HDD.out.1; have h1 := this.f0; have h2 := this.f1; omega)
            have HX2 := Lib.hid hX2
            have HF1 := Lib.hid (And.intro hf1' hf2)
            have HNX2 := Lib.hid hnx
            clear hX2 hf1' hf2 hf3 hf hnx hs2a
            have k0 := hB.cell
            have k1 := hB.lt
            have k2 := hB.free
            have l0 := hbxx.cell
            have l1 := hbxx.lt
            go_upto_region 21 with (fail)
            rw [HX2.out]
            go_upto_region 22 with (fail)
            (try rw [hwf])
            have hB4 : Blk (wx.setCell ⟨bL, 4, none⟩ (.int .i64 (s1.faded + f))) bL #[.int .i64 (C.start c b), .int .i64 s1.sun, .int .i64 s2.used, .int .i64 s1.lost, .int .i64 (s1.faded + f), .int .i64 0] 29 := by simpa using hB.set 4 (.int .i64 (s1.faded + f))
            have hO4 : Off bL wr (wx.setCell ⟨bL, 4, none⟩ (.int .i64 (s1.faded + f))) := hOx.set (a := ⟨bL, 4, none⟩) (.inl rfl) _
            obtain ⟨w4, hw4e⟩ : ∃ w4, wx.setCell ⟨bL, 4, none⟩ (.int .i64 (s1.faded + f)) = w4 := ⟨_, rfl⟩
            rw [hw4e] at hB4 hO4 ⊢
            have hown4 := own_off hown hO4 (by have := HZ1.out; omega)
            have hz4 := hO4.size
            have hb4 := hB4.lt
            have hO14 := hO.trans hO4
            have hz14 := hO14.size
            have HZ := HZ1.out
            clear k0 k1 k2 l0 l1 hw4e hB hOx hbxx hEx hX9
            go_wp2_with (at_builtin; refine wpList_append_own _ rfl _ _ 27 rfl (w1.heap.size) 41 i0 (.agg #[.int .i64 0, .int .i64 0]) 2 16 Try.underlying27 hi hz0 hz1 hz2 rfl (by decide) _ _ _ rfl (own_ext hown4 ((Ext.refl _).alloc _)) ⟨w4.heap.size, 0, none⟩ 1 1 [.int .i64 (s2.e - f), .int .i64 s2.carried] rfl rfl (cell_two _ _ _ _ (by simp)) (two_ints _ _) (by unfold maxLen; omega) (by omega) (by simp; omega) ?_; intro v' w9 hown' hgrow _)
            have hEb : Ext w4 (w4.alloc (.cells #[.int .i64 (s2.e - f), .int .i64 s2.carried] 41)) := (Ext.refl _).alloc _
            have hB9 := Blk.grown (hB4.ext hEb) hgrow (own_base hown4) (by omega)
            have hO9 : Off bL w1 w9 := ⟨hgrow.os.trans hO14.os, hgrow.tape.trans hO14.tape, hgrow.output.trans hO14.output, by have h1 := hgrow.size; have h2 := hEb.size; omega, fun g hg hgb => by rw [hgrow.block g (by have h2 := hEb.size; omega) (fun e => by have := own_base hown4 g (by first | exact e | exact e.symm); omega), hEb.block g (by omega)]; exact hO14.block g hg hgb⟩
            have hda : C.dayAt c p b off T k = ⟨s2.e - f, s2.carried⟩ := by unfold C.dayAt; rw [HNX2.out]
            refine ⟨⟨k + 1, by omega, by go_num, by rw [HNX2.out], ?_, ?_, hO9⟩, by simp [intOf]; omega⟩
            · rw [List.range_succ, List.map_append, List.flatMap_append]
              simpa [hda, dayC] using hown'
            · rw [HNX2.out]
              dsimp only
              rw [HF1.out.1, HF1.out.2]
              exact hB9
    · obtain rfl : N = k := by omega
      have hbor := hbo.off hO (by omega)
      have HZ := HZ1.out
      clear hs'
      have k0 := hB.cell
      have k1 := hB.lt
      have k2 := hB.free
      go_upto_region 24 with (fail)
      have hB2 : Blk (wr.setCell ⟨bL, 5, none⟩ (.int .i64 s.e)) bL #[.int .i64 (C.start c b), .int .i64 s.sun, .int .i64 s.used, .int .i64 s.lost, .int .i64 s.faded, .int .i64 s.e] 29 := by simpa using hB.set 5 (.int .i64 s.e)
      have hO2 : Off bL wr (wr.setCell ⟨bL, 5, none⟩ (.int .i64 s.e)) := (Off.refl bL wr).set (a := ⟨bL, 5, none⟩) (.inl rfl) _
      obtain ⟨w2, hw2e⟩ : ∃ w2, wr.setCell ⟨bL, 5, none⟩ (.int .i64 s.e) = w2 := ⟨_, rfl⟩
      rw [hw2e] at hB2 hO2 ⊢
      have hown2 := own_off hown hO2 (by omega)
      have hbo2 := hbor.off hO2 (by omega)
      have hE2 : Ext w w2 := (hO.trans hO2).ext0 hE1 (by omega)
      clear hw2e k0 k1 k2 hB hown hbor
      have n0 := hB2.cell
      have k1 := hB2.lt
      have p2 := hbo2.free
      have p1 := hbo2.lt


      have hz2 := hO2.size
      obtain ⟨al, cl, rfl⟩ := own_slice hown2

      refine wp_region_ext 3 (fun _ _ d _ _ h => by cases d <;> exact h) (by kernel_rfl) (by kernel_rfl) (by kernel_rfl) (by kernel_rfl) ?_
      (try simp only [List.append_eq, List.cons_append, List.nil_append])
      simp only [List.take_succ_cons, List.take_zero, List.drop_succ_cons, List.drop_zero]
      repeat (any_goals (first | go_big_quiet_step (fail) | quiet_step (fail)))
      all_goals (refine wpQuiet_nil ?_; intro w3 hEw3)
      have hB3 := hB2.ext hEw3
      have hbo3 := hbo2.ext hEw3
      have hown3 := own_ext hown2 hEw3
      clear n0 k1 p1 p2
      have n0 := hB3.cell
      have n1 := hB3.lt
      have p0 := hbo3.cell
      have p1 := hbo3.lt
      have p2 := hbo3.free
      go_wp2
      have hB9 := ((((((hbo3.set 0 (.int .i64 (C.start c b))).set 1 (.int .i64 s.sun)).set 2 (.int .i64 s.used)).set 3 (.int .i64 s.lost)).set 4 (.int .i64 s.faded)).set 5 (.int .i64 s.e))
      have hO9 := (((((((Off.refl (w.heap.size + 1) w3).set (a := ⟨w.heap.size + 1, 0, none⟩) (.inl rfl) (.int .i64 (C.start c b))).set (a := ⟨w.heap.size + 1, 1, none⟩) (.inl rfl) (.int .i64 s.sun)).set (a := ⟨w.heap.size + 1, 2, none⟩) (.inl rfl) (.int .i64 s.used)).set (a := ⟨w.heap.size + 1, 3, none⟩) (.inl rfl) (.int .i64 s.lost)).set (a := ⟨w.heap.size + 1, 4, none⟩) (.inl rfl) (.int .i64 s.faded)).set (a := ⟨w.heap.size + 1, 5, none⟩) (.inl rfl) (.int .i64 s.e))
      obtain ⟨w9, hw9⟩ : ∃ w9, ((((((w3.setCell ⟨w.heap.size + 1, 0, none⟩ (.int .i64 (C.start c b))).setCell ⟨w.heap.size + 1, 1, none⟩ (.int .i64 s.sun)).setCell ⟨w.heap.size + 1, 2, none⟩ (.int .i64 s.used)).setCell ⟨w.heap.size + 1, 3, none⟩ (.int .i64 s.lost)).setCell ⟨w.heap.size + 1, 4, none⟩ (.int .i64 s.faded)).setCell ⟨w.heap.size + 1, 5, none⟩ (.int .i64 s.e)) = w9 := ⟨_, rfl⟩
      rw [hw9] at hB9 hO9 ⊢
      have hown9 := own_off hown3 hO9 (by omega)
      have hE9 : Ext w w9 := hO9.ext0 (hE2.trans hEw3) (by omega)
      have z0 := hB9.cell
      have z1 := hB9.lt
      clear hw9 hO9 hown3 n0 n1 p0 p1 p2
      have hll : C.ledger c p b off T = ⟨C.start c b, s.sun, s.used, s.lost, s.faded, s.e⟩ := by unfold C.ledger; rw [HLEN.out, HSS.out]
      have hru : C.run c p b off T = (List.range N).map (C.dayAt c p b off T) := by unfold C.run; rw [HLEN.out]
      have hlr : ((List.range N).map (C.dayAt c p b off T)).length = N := by simp
      have hday := sls_of_own dayC 2 (fun _ => rfl) (by rw [hlr]; exact hown9 : w9.ownsRow w1.heap.size 41 2 (.slice al N cl) ((List.range N).map (C.dayAt c p b off T)).length (((List.range N).map (C.dayAt c p b off T)).flatMap dayC))
      rw [hll, hru]
      have HDY2 := Lib.hid hday
      have hob : ∀ j, (Value.slice al N cl).ownBlock = some j → w.heap.size ≤ j := fun j hj => by have := own_base hown9 j hj; omega
      clear hll hru hlr hday hown9
      exact bodyPost_ret (v := .tuple #[.slice al N cl, .agg #[.int .i64 (C.start c b), .int .i64 s.sun, .int .i64 s.used, .int .i64 s.lost, .int .i64 s.faded, .int .i64 s.e]]) (by simp [results, Try.results21, go_sem, z0]) rfl ⟨_, rfl, HDY2.out, hE9, hob⟩
end Go.Proofs.Ytkjoojmlcjmlgaa
