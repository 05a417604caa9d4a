/- The best plan, as the program seeks it. -/
import Derived.Test.YthffoglpekpmdaaH4
import Derived.Test.YthffoglpekpmdaaH4a
import Derived.Maps.OwnOps
import Derived.Deep.RegionHeld3
import Derived.Deep.CutRange
import Derived.WalkMore
namespace Go.Proofs.Ythffoglpekpmdaa
set_option linter.unusedVariables false
set_option linter.unusedSimpArgs false
open Go.RowKit Go.Maps
def bestV (r : R.Reef) : Option (List Int) → List Int × Int × Int
  | some l => (l, R.cost r l, 0)
  | none => ([], 0, 5)
def bestOf (r : R.Reef) : List Int × Int × Int := if R.reefB r then bestV r (R.best r) else ([], 0, 2)
set_option maxRecDepth 100000 in
set_option maxHeartbeats 16000000 in
theorem bestQ_any (r : R.Reef) (vp : Value) (w : World) (hP : Places w vp r.places) (hn : r.places.length ≤ 1000000) :
    Calls Try.prog 29 #[.agg (reefV r vp)] w fun x w' => ∃ v, x = .returned (.tuple #[v, .int .i64 (bestOf r).2.1, .int .i64 (bestOf r).2.2]) ∧ Ints w' v (bestOf r).1 ∧ Ext w w' := by
  have hP' := hP
  obtain ⟨a1, c1, rfl, _⟩ := hP'
  have hva := fun w' (hx : Ext w w') => valid_any r _ w' (hP.ext hx) hn
  obtain ⟨B, hB⟩ : ∃ B, R.reefB r = B := ⟨_, rfl⟩
  simp only [hB] at hva
  have HV := Lib.hid hva
  clear hva
  unfold bestOf
  rw [hB]
  have hpc := plus_cell
  cases B with
  | false =>
    clear hB
    go_enter Try.func29, Try.ntmps29
    go_wp2_with (first | (go_at_call 59; refine (HV.out _ (by (with_reducible (repeat (first | exact Ext.refl _ | assumption | apply Ext.alloc | apply Ext.drew | exact ext_plus _ _ | (apply Ext.setCell; rotate_left; (simp <;> omega)) | (apply Ext.trans; rotate_left; exact ext_plus _ _) | (apply Ext.trans; rotate_left; assumption)))))).mono ?_; rintro e w' ⟨rfl, hb⟩))
    exact bodyPost_ret (v := .tuple #[.slice none 0 0, .int .i64 0, .int .i64 2]) (by simp [results, Try.results29, go_sem]) rfl ⟨_, rfl, Ints.nil _, by (with_reducible (repeat (first | exact Ext.refl _ | assumption | apply Ext.alloc | apply Ext.drew | exact ext_plus _ _ | (apply Ext.setCell; rotate_left; (simp <;> omega)) | (apply Ext.trans; rotate_left; exact ext_plus _ _) | (apply Ext.trans; rotate_left; assumption))))⟩
  | true =>
    have O := R.okR_of hB
    have hco := fun l (OL : R.OkL r l) w' vl (hx : Ext w w') hl => cost_any r l _ vl w' (hP.ext hx) hl O OL
    have hre := fun l (OL : R.OkL r l) w' vl (hx : Ext w w') hl => recovers_any r l _ vl w' (hP.ext hx) hl O OL
    obtain ⟨m, hm⟩ := Int.eq_ofNat_of_zero_le (show 0 ≤ r.seasons by have := O.s1; omega)
    have hm1 : 1 ≤ m ∧ m ≤ 4 := by have := O.s1; have := O.s4; omega
    have hmn : r.seasons.toNat = m := by omega
    have hn4 : 1 ≤ r.places.length ∧ r.places.length ≤ 4 := ⟨O.n1, O.n4⟩
    obtain ⟨q, hq⟩ : ∃ q : Nat, (r.places.length : Int) * (m : Int) = q := ⟨r.places.length * m, (Int.natCast_mul _ _).symm⟩
    have hqq : q = r.places.length * m := (Int.ofNat.inj ((Int.natCast_mul _ _).trans hq)).symm
    have hq16 : q ≤ 16 := by rw [hqq]; exact Nat.mul_le_mul hn4.2 hm1.2
    have hp16 : 1 ≤ (2 : Int) ^ q ∧ (2 : Int) ^ q ≤ 65536 := ⟨Int.pow_pos (by decide), by have h := Nat.pow_le_pow_right (n := 2) (by decide) hq16; rw [show 2 ^ 16 = 65536 from rfl] at h; have h2 := Int.ofNat_le.2 h; rw [Int.natCast_pow] at h2; exact h2⟩
    have hpv : ∀ v, planV r (.slice a1 r.places.length c1) v = #[.slice a1 r.places.length c1, .int .i64 r.miss, .int .i64 m, v] := fun v => by unfold planV; rw [hm]
    have hrv : reefV r (.slice a1 r.places.length c1) = #[.slice a1 r.places.length c1, .int .i64 r.miss, .int .i64 m] := by unfold reefV; rw [hm]
    simp only [hpv] at hco hre
    have hva := HV.out
    rw [hrv] at hva ⊢
    have HV := Lib.hid hva
    have HCO := Lib.hid hco
    have HRE := Lib.hid hre
    have HM := Lib.hid hm
    have HQQ := Lib.hid hqq
    have HMN := Lib.hid hmn
    have HB := Lib.hid hB
    have HOK := Lib.hid O
    clear hco hre hB O hm hmn hqq hpv hrv hva
    have hmm : ∀ w : World, (Instr.makeMap 93 none).run Try.prog w = .ok (.map (some w.heap.size)) (w.alloc (.map #[] 0)) := fun _ => rfl
    go_enter Try.func29, Try.ntmps29
    go_upto_region 4 with (first | (go_at_call 59; refine (HV.out _ (by (with_reducible (repeat (first | exact Ext.refl _ | assumption | apply Ext.alloc | apply Ext.drew | exact ext_plus _ _ | (apply Ext.setCell; rotate_left; (simp <;> omega)) | (apply Ext.trans; rotate_left; exact ext_plus _ _) | (apply Ext.trans; rotate_left; assumption)))))).mono ?_; rintro e w' ⟨rfl, hb⟩; have k0 := hb.cells.1; have k1 := hb.size))
    rename World => w'
    go_upto_region 7 with (fail)
    obtain ⟨w2, hw2⟩ : ∃ w2, ((w'.alloc (Obj.map #[] 0)).alloc (Obj.cells #[.int .i64 0, .int .i64 0, .int .i64 0, .int .i64 0] 94)) = w2 := ⟨_, rfl⟩
    have hCo2 : Costs r w2 w'.heap.size 0 none := by rw [← hw2]; exact (Costs.made r w').ext ((Ext.refl _).alloc _)
    have hBb2 : Blk w2 (w'.heap.size + 1) (padO none) 94 := by rw [← hw2]; exact Blk.new' (by simp) _ _
    have hBr2 : Blk w2 w.heap.size #[.slice a1 r.places.length c1, .int .i64 r.miss, .int .i64 m] 24 := by rw [← hw2]; exact (((Blk.new' rfl _ _).ext hb).alloc _).alloc _
    have hE2 : Ext w w2 := by rw [← hw2]; (with_reducible (repeat (first | exact Ext.refl _ | assumption | apply Ext.alloc | apply Ext.drew | exact ext_plus _ _ | (apply Ext.setCell; rotate_left; (simp <;> omega)) | (apply Ext.trans; rotate_left; exact ext_plus _ _) | (apply Ext.trans; rotate_left; assumption))))
    have hz2 : w.heap.size + 1 ≤ w'.heap.size := by simpa using hb.size
    rw [hw2]
    clear hw2 k0 k1 hb HV
    obtain ⟨bm, hbm⟩ : ∃ bm, w'.heap.size = bm := ⟨_, rfl⟩
    rw [hbm] at hCo2 hBb2 hz2 ⊢
    clear hbm
    obtain ⟨N, hN⟩ : ∃ N : Nat, (2 : Int) ^ q = N := ⟨2 ^ q, by simp⟩
    have hNq : N = 2 ^ (r.places.length * r.seasons.toNat) := by rw [HMN.out, ← HQQ.out]; exact_mod_cast hN.symm
    have hN2 : (1 : Int) ≤ N ∧ (N : Int) ≤ 65536 := by rw [← hN]; exact hp16
    have HNQ := Lib.hid hNq
    clear hNq hp16
    have hc0 := hBr2.cell
    have hc1 := hBr2.lt
    go_wp2
    go_loopw [8, 28] (fun f i wr => ∃ x : Nat, i = .int .i64 x ∧ (x : Int) ≤ N ∧ f = .bool (bestTo r x).isSome ∧ Costs r wr bm x (bestTo r x) ∧ Blk wr (bm + 1) (padO (bestTo r x)) 94 ∧ Blk wr w.heap.size #[.slice a1 r.places.length c1, .int .i64 r.miss, .int .i64 m] 24 ∧ Ext w wr)
      (fun _ i _ => N - (intOf i).toNat)
    case atStart => exact ⟨0, rfl, by omega, rfl, hCo2, hBb2, hBr2, hE2⟩
    case round =>
      rename World => wr
      obtain ⟨x, rfl, hxN, rfl, hCo, hBb, hBr, hE⟩ := hrel
      have HSU := Lib.hid (bestTo_succ r x)
      obtain ⟨L, hL⟩ : ∃ L, R.digits r.places.length r.seasons.toNat x = L := ⟨_, rfl⟩
      have hLl : L.length = m := by rw [← hL, R.digits_len, HMN.out]
      have hLo : R.OkL r L := by rw [← hL]; exact R.digits_ok r _ x (by rw [HMN.out, HM.out])
      have hLd : ∀ s, s < m → R.iat L s = ((x / 2 ^ (r.places.length * (m - 1 - s)) % 2 ^ r.places.length : Nat) : Int) := fun s hs => by rw [← hL, HMN.out]; exact R.digits_at r.places.length m x s hs
      have hsu := HSU.out
      rw [hL] at hsu
      have HSU := Lib.hid hsu
      have HLO := Lib.hid hLo
      have HLD := Lib.hid hLd
      have HLL := Lib.hid hLl
      clear hL hsu hLo hLd hLl
      generalize hbt : bestTo r x = o at hCo hBb HSU ⊢
      have e0 := hBr.cell
      have e1 := hBr.lt
      by_cases hlt : (x : Int) < N
      · go_upto_region 11 with (fail)
        obtain ⟨w1, hw1⟩ : ∃ w1, wr.alloc (Obj.cells #[.int .i64 0, .int .i64 0, .int .i64 0, .int .i64 0] 94) = w1 := ⟨_, rfl⟩
        have hBk : Blk w1 wr.heap.size (padTo L 0) 94 := by rw [← hw1]; exact Blk.new' rfl _ _
        have hE1 : Ext wr w1 := by rw [← hw1]; (with_reducible (repeat (first | exact Ext.refl _ | assumption | apply Ext.alloc | apply Ext.drew | exact ext_plus _ _ | (apply Ext.setCell; rotate_left; (simp <;> omega)) | (apply Ext.trans; rotate_left; exact ext_plus _ _) | (apply Ext.trans; rotate_left; assumption))))
        rw [hw1]
        clear hw1
        have f0 := (hBr.ext hE1).cell
        have f1 := (hBr.ext hE1).lt
        go_wp2
        go_loopw [33] (fun i wx => ∃ s : Nat, s ≤ m ∧ i = .int .i64 s ∧ Blk wx wr.heap.size (padTo L s) 94 ∧ Ext wr wx)
          (fun i _ => m - (intOf i).toNat)
        case atStart => exact ⟨0, Nat.zero_le _, rfl, hBk, hE1⟩
        case round =>
          rename World => wx
          obtain ⟨s, hs, rfl, hBx, hEx⟩ := hrel
          have g0 := (hBr.ext hEx).cell
          have g1 := (hBr.ext hEx).lt
          have p0 := hBx.cell
          have p1 := hBx.lt
          have p2 := hBx.free
          by_cases hsl : s < m
          · obtain ⟨cn, hcn⟩ : ∃ cn, r.places.length * (m - 1 - s) = cn := ⟨_, rfl⟩
            have hsh : (r.places.length : Int) * ((m : Int) - 1 - s) = cn := by
              rw [← hcn, show ((m : Int) - 1 - s) = ((m - 1 - s : Nat) : Int) by omega]; exact (Int.natCast_mul _ _).symm
            have hcn16 : cn ≤ 16 := by rw [← hcn]; have h : r.places.length * (m - 1 - s) ≤ 4 * 4 := Nat.mul_le_mul hn4.2 (by omega); omega
            have hld := HLD.out s hsl
            rw [hcn] at hld
            have hpb := pow_bd (n := r.places.length) (by omega)
            have hmk : bits .and .i64 ((x : Int) / 2 ^ cn) (2 ^ r.places.length - 1) = R.iat L s := by
              rw [hld, mask_i64 _ (by omega) _ (Int.ediv_nonneg (by omega) (Int.le_of_lt (Int.pow_pos (by decide)))) (by have h := Int.ediv_le_self (a := (x : Int)) (2 ^ cn) (by omega); omega)]
              push_cast
              rfl
            have hps := padTo_succ L s (by rw [HLL.out]; exact hsl) (by rw [HLL.out]; omega)
            have HPS := Lib.hid hps
            clear hps hld hcn
            go_wp2
            refine wp_region_ext 15 (fun _ _ d _ _ h => by cases d <;> exact h) (by kernel_rfl) (by kernel_rfl) (by kernel_rfl) (by kernel_rfl) ?_
            simp only [List.take_succ_cons, List.take_zero, List.drop_succ_cons, List.drop_zero]
            repeat (any_goals (first | go_big_quiet_step (fail) | quiet_step (fail)))
            all_goals (refine wpQuiet_nil ?_; intro w4 hE4)
            obtain ⟨u, hu⟩ : ∃ u, (padTo L s)[s]? = some u := ⟨_, Array.getElem?_eq_getElem (by show s < 4; omega)⟩
            have q0 := ((hBx.ext hE4).cell s).trans hu
            clear hu
            have q1 := (hBx.ext hE4).lt
            have q2 := (hBx.ext hE4).free
            go_wp2
            go_roundw
            case rel => exact ⟨s + 1, by omega, by go_num, by rw [← HPS.out]; exact (hBx.ext hE4).set s _, (hEx.trans hE4).setCell (p := ⟨wr.heap.size, s, none⟩) (Nat.le_refl _) _⟩
            case measure => simp [intOf]; omega
          · obtain rfl : m = s := by omega
            have hpa : padTo L m = pad4 L := by rw [← HLL.out]; exact padTo_all L
            rw [hpa] at hBx
            clear hpa p0 p1 p2 g0 g1 f0 f1 e0 e1
            have hcl := fun y (hy : Ext wx y) => clone_ints (.slice (some ⟨wr.heap.size, 0, none⟩) L.length 4) L y (pad4_ints (hBx.ext hy) (by rw [HLL.out]; omega) 4) (by rw [HLL.out]; omega)
            rw [HLL.out] at hcl
            have HCL := Lib.hid hcl
            clear hcl
            have hBrx := hBr.ext hEx
            have f0 := hBrx.cell
            have f1 := hBrx.lt
            have f2 := hBx.lt
            have hsl := fun y => slice_four y wr.heap.size m hm1.2
            go_upto_region 16 with (fail)
            go_cut [12] from 29 to 78 (fun s12 wc => ∃ (bp : Nat) (v : Value), s12 = .pointer (some ⟨bp, 0, none⟩) ∧ Blk wc bp #[.slice a1 r.places.length c1, .int .i64 r.miss, .int .i64 m, v] 82 ∧ Ints wc v L ∧ Ext wx wc)
            case first =>
              go_region_held3 (fun y => (∀ o, y.cell? ⟨w.heap.size, o, none⟩ = (#[.slice a1 r.places.length c1, .int .i64 r.miss, .int .i64 m] : Array Value)[o]?) ∧ Ext wx y)
                (first | exact ⟨blk_of hBrx (by (with_reducible (repeat (first | exact Ext.refl _ | assumption | apply Ext.alloc | apply Ext.drew | exact ext_plus _ _ | (apply Ext.setCell; rotate_left; (simp <;> omega)) | (apply Ext.trans; rotate_left; exact ext_plus _ _) | (apply Ext.trans; rotate_left; assumption))))), by (with_reducible (repeat (first | exact Ext.refl _ | assumption | apply Ext.alloc | apply Ext.drew | exact ext_plus _ _ | (apply Ext.setCell; rotate_left; (simp <;> omega)) | (apply Ext.trans; rotate_left; exact ext_plus _ _) | (apply Ext.trans; rotate_left; assumption))))⟩)
                (first | (go_at_call 60; refine (HCL.out _ (by (with_reducible show Ext _ _; (with_reducible (repeat (first | exact Ext.refl _ | assumption | apply Ext.alloc | apply Ext.drew | exact ext_plus _ _ | (apply Ext.setCell; rotate_left; (simp <;> omega)) | (apply Ext.trans; rotate_left; exact ext_plus _ _) | (apply Ext.trans; rotate_left; assumption)))); done))).mono ?_; rintro e y1 ⟨v1, rfl, hv1, hy1⟩; obtain ⟨a9, c9, rfl⟩ := own_slice hv1; have k1 := hy1.cells.1; have k2 := hy1.cells.2; have k3 := hy1.size; (try simp only [size_drew, World.size_alloc] at k1 k2 k3)))
              all_goals (dsimp only [Exit.then]; go_wp2; go_meet)
              · exact ⟨_, _, rfl, Blk.new' rfl _ _, (Ints.of_own (by rw [HLL.out]; exact hv1)).ext ((Ext.refl _).alloc _), by (with_reducible show Ext _ _; (with_reducible (repeat (first | exact Ext.refl _ | assumption | apply Ext.alloc | apply Ext.drew | exact ext_plus _ _ | (apply Ext.setCell; rotate_left; (simp <;> omega)) | (apply Ext.trans; rotate_left; exact ext_plus _ _) | (apply Ext.trans; rotate_left; assumption)))); done)⟩
              · have hz0 := (Blk.new' (w := wx.drew) (b := wx.heap.size) (by simp [size_drew]) #[.slice none 0 0, .int .i64 0, .int .i64 0, .slice none 0 0] 82).ext hy1
                have hz1 := (((hz0.set 0 (.slice a1 r.places.length c1)).set 1 (.int .i64 r.miss)).set 2 (.int .i64 m)).set 3 (.slice a9 m c9)
                have hbs : wx.heap.size < (wx.drew.alloc (Obj.cells #[.slice none 0 0, .int .i64 0, .int .i64 0, .slice none 0 0] 82)).heap.size := by simp [size_drew]
                refine ⟨_, _, rfl, by simpa using hz1, Ints.of_own (by rw [HLL.out]; exact own_other (own_other (own_other (own_other hv1 hbs _) hbs _) hbs _) hbs _), ?_⟩
                have hE0 : Ext wx y1 := by (with_reducible show Ext _ _; (with_reducible (repeat (first | exact Ext.refl _ | assumption | apply Ext.alloc | apply Ext.drew | exact ext_plus _ _ | (apply Ext.setCell; rotate_left; (simp <;> omega)) | (apply Ext.trans; rotate_left; exact ext_plus _ _) | (apply Ext.trans; rotate_left; assumption)))); done)
                exact (((hE0.setCell (p := ⟨wx.heap.size, 0, none⟩) (Nat.le_refl _) _).setCell (p := ⟨wx.heap.size, 1, none⟩) (Nat.le_refl _) _).setCell (p := ⟨wx.heap.size, 2, none⟩) (Nat.le_refl _) _).setCell (p := ⟨wx.heap.size, 3, none⟩) (Nat.le_refl _) _
            case rest =>
              rename World => wc
              obtain ⟨bp, v, rfl, hBp, hIv, hEc⟩ := hcut
              obtain ⟨av, cv, rfl, _⟩ := id hIv
              have hEwc : Ext w wc := hE.trans (hEx.trans hEc)
              have hcost := fun w' (hx : Ext wc w') => HCO.out L HLO.out w' _ (hEwc.trans hx) (hIv.ext hx)
              have hrec := fun w' (hx : Ext wc w') => HRE.out L HLO.out w' _ (hEwc.trans hx) (hIv.ext hx)
              have hcbd := cost_bd HOK.out HLO.out
              have hbet := HSU.out
              obtain ⟨cL, hcL⟩ : ∃ cL, R.cost r L = cL := ⟨_, rfl⟩
              obtain ⟨sL, hsL⟩ : ∃ sL, (R.short r L).isNone = sL := ⟨_, rfl⟩
              obtain ⟨SP, hSP⟩ : ∃ SP, shortP (R.short r L) = SP := ⟨_, rfl⟩
              simp only [hcL] at hcost hcbd
              simp only [hsL, hSP] at hrec
              rw [HLL.out] at hcost hrec hBp
              have HCS := Lib.hid hcost
              have HRC := Lib.hid hrec
              have HCL2 := Lib.hid hcL
              have HSL2 := Lib.hid hsL
              have HWF : Hid ((Lit.int .i64 cL).wf = true) := wf64_of (by omega) (by omega)
              obtain ⟨kl, hkl⟩ := pad_key_ok HOK.out HLO.out
              obtain ⟨l0, l1, l2, l3, hp4⟩ : ∃ l0 l1 l2 l3 : Int, pad4 L = #[.int .i64 l0, .int .i64 l1, .int .i64 l2, .int .i64 l3] := ⟨_, _, _, _, rfl⟩
              have HKL0 := Lib.hid hkl
              rw [hp4] at hkl
              have HKL := Lib.hid hkl
              have HP4 := Lib.hid hp4
              have hCoc := (hCo.ext hEx).ext hEc
              have hBbc := (hBb.ext hEx).ext hEc
              have hBkc := hBx.ext hEc
              rw [hp4] at hBkc
              have hBrc := hBrx.ext hEc
              have q0 := hBp.cell
              have q1 := hBp.lt
              have hbm := hBb.lt
              have hzc := (hEx.trans hEc).size
              have hCol := hCo.lt
              clear hcost hrec hcL hsL hSP f0 f1 f2 hkl hp4
              cases o with
              | none =>
                have hBbc : Blk wc (bm + 1) #[.int .i64 0, .int .i64 0, .int .i64 0, .int .i64 0] 94 := hBbc
                rw [better_none, HSL2.out] at hbet
                have HBET := Lib.hid hbet
                clear hbet
                cases sL with
                | true =>
                  go_wp2_with (first | (go_at_call 61; refine (HCS.out _ (by (with_reducible (repeat (first | exact Ext.refl _ | assumption | apply Ext.alloc | apply Ext.drew | exact ext_plus _ _ | (apply Ext.setCell; rotate_left; (simp <;> omega)) | (apply Ext.trans; rotate_left; exact ext_plus _ _) | (apply Ext.trans; rotate_left; assumption)))))).mono ?_; rintro e w5 ⟨rfl, hb5⟩; have hCo5 := hCoc.ext hb5; have hBb5 := hBbc.ext hb5; have k0 := hb5.cells.1; have k1 := hb5.size) | (go_at_call 57; refine (HRC.out _ (by (with_reducible (repeat (first | exact Ext.refl _ | assumption | apply Ext.alloc | apply Ext.drew | exact ext_plus _ _ | (apply Ext.setCell; rotate_left; (simp <;> omega)) | (apply Ext.trans; rotate_left; exact ext_plus _ _) | (apply Ext.trans; rotate_left; assumption)))))).mono ?_; rintro e w6 ⟨rfl, hb6⟩; obtain ⟨D6, hown6, hat6⟩ := (hCo5.ext hb6); have hBb6 := (hBb5.ext hb6).alloc (.cells #[.int .i64 SP.1, .int .i64 SP.2] 89); have hBk6 := ((hBkc.ext hb5).ext hb6).alloc (.cells #[.int .i64 SP.1, .int .i64 SP.2] 89); have hBr6 := ((hBrc.ext hb5).ext hb6).alloc (.cells #[.int .i64 SP.1, .int .i64 SP.2] 89); have hE6 := ((hEwc.trans hb5).trans hb6).alloc (.cells #[.int .i64 SP.1, .int .i64 SP.2] 89); have z6 := hb6.size; have r0 := hBk6.cell; have r1 := hBk6.lt) | (at_mapUpdate; refine wpList_mapUpdate_own _ rfl _ _ _ 93 rfl 94 3 key_keyed Try.underlying93 IV bm x D6 rfl (hown6.alloc _) (by unfold maxLen; omega) _ _ kl rfl rfl HKL.out (.lit (.int .i64 cL)) [] (plainElem_int Try.underlying3 HWF.out) ?_; intro w8 hown8 hgrow8; have hBb8 := hBb6.but hgrow8 (by omega); have hBk8 := hBk6.but hgrow8 (by omega); have hBr8 := hBr6.but hgrow8 (by omega); have s0 := hBb8.cell; have s1 := hBb8.free; have s2 := hBb8.lt; have s3 := hBk8.cell; have s4 := hBk8.lt))
                  go_roundw
                  case rel =>
                    have hput : Costs r w8 bm (x + 1) (some L) := Costs.put hown6.isMap HKL0.out (by rw [HCL2.out]; exact hown8)
                    have hE8 : Ext w w8 := Ext.grown hE6 hgrow8 (fun k e => by cases e; omega)
                    refine ⟨x + 1, by go_num, by omega, by rw [HBET.out]; rfl, ?_, ?_, ?_, ?_⟩
                    · rw [HBET.out]; exact (((hput.set (a := ⟨bm + 1, 0, none⟩) (by simp) _).set (a := ⟨bm + 1, 1, none⟩) (by simp) _).set (a := ⟨bm + 1, 2, none⟩) (by simp) _).set (a := ⟨bm + 1, 3, none⟩) (by simp) _
                    · rw [HBET.out]
                      show Blk _ _ (pad4 L) _
                      rw [HP4.out]
                      simpa using (((hBb8.set 0 (.int .i64 l0)).set 1 (.int .i64 l1)).set 2 (.int .i64 l2)).set 3 (.int .i64 l3)
                    · exact (((hBr8.other (by simp; omega) _).other (by simp; omega) _).other (by simp; omega) _).other (by simp; omega) _
                    · exact (((hE8.setCell (p := ⟨bm + 1, 0, none⟩) (by simp; omega) _).setCell (p := ⟨bm + 1, 1, none⟩) (by simp; omega) _).setCell (p := ⟨bm + 1, 2, none⟩) (by simp; omega) _).setCell (p := ⟨bm + 1, 3, none⟩) (by simp; omega) _
                  case measure => simp [intOf]; omega
                | false =>
                  go_wp2_with (first | (go_at_call 61; refine (HCS.out _ (by (with_reducible (repeat (first | exact Ext.refl _ | assumption | apply Ext.alloc | apply Ext.drew | exact ext_plus _ _ | (apply Ext.setCell; rotate_left; (simp <;> omega)) | (apply Ext.trans; rotate_left; exact ext_plus _ _) | (apply Ext.trans; rotate_left; assumption)))))).mono ?_; rintro e w5 ⟨rfl, hb5⟩; have hCo5 := hCoc.ext hb5; have hBb5 := hBbc.ext hb5; have k0 := hb5.cells.1; have k1 := hb5.size) | (go_at_call 57; refine (HRC.out _ (by (with_reducible (repeat (first | exact Ext.refl _ | assumption | apply Ext.alloc | apply Ext.drew | exact ext_plus _ _ | (apply Ext.setCell; rotate_left; (simp <;> omega)) | (apply Ext.trans; rotate_left; exact ext_plus _ _) | (apply Ext.trans; rotate_left; assumption)))))).mono ?_; rintro e w6 ⟨rfl, hb6⟩; obtain ⟨D6, hown6, hat6⟩ := (hCo5.ext hb6); have hBb6 := (hBb5.ext hb6).alloc (.cells #[.int .i64 SP.1, .int .i64 SP.2] 89); have hBk6 := ((hBkc.ext hb5).ext hb6).alloc (.cells #[.int .i64 SP.1, .int .i64 SP.2] 89); have hBr6 := ((hBrc.ext hb5).ext hb6).alloc (.cells #[.int .i64 SP.1, .int .i64 SP.2] 89); have hE6 := ((hEwc.trans hb5).trans hb6).alloc (.cells #[.int .i64 SP.1, .int .i64 SP.2] 89); have z6 := hb6.size; have r0 := hBk6.cell; have r1 := hBk6.lt))
                  go_roundw
                  case rel => exact ⟨x + 1, by go_num, by omega, by rw [HBET.out]; rfl, by rw [HBET.out]; exact ((hCo5.ext hb6).ext ((Ext.refl _).alloc _)).mono (by omega), by rw [HBET.out]; exact hBb6, hBr6, hE6⟩
                  case measure => simp [intOf]; omega
              | some l =>
                rw [better_some, HSL2.out, HCL2.out] at hbet
                obtain ⟨cl, hcl⟩ : ∃ cl, R.cost r l = cl := ⟨_, rfl⟩
                rw [hcl] at hbet
                obtain ⟨y0, y1, y2, y3, hp4l⟩ : ∃ l0 l1 l2 l3 : Int, pad4 l = #[.int .i64 l0, .int .i64 l1, .int .i64 l2, .int .i64 l3] := ⟨_, _, _, _, rfl⟩
                have hBbc : Blk wc (bm + 1) #[.int .i64 y0, .int .i64 y1, .int .i64 y2, .int .i64 y3] 94 := by rw [← hp4l]; exact hBbc
                by_cases hge : cl ≤ cL
                · rw [if_pos hge] at hbet
                  have HBET := Lib.hid hbet
                  have HP4L := Lib.hid hp4l
                  have HCLL := Lib.hid hcl
                  clear hbet hp4l hcl
                  go_wp2_with (first | (go_at_call 61; refine (HCS.out _ (by (with_reducible (repeat (first | exact Ext.refl _ | assumption | apply Ext.alloc | apply Ext.drew | exact ext_plus _ _ | (apply Ext.setCell; rotate_left; (simp <;> omega)) | (apply Ext.trans; rotate_left; exact ext_plus _ _) | (apply Ext.trans; rotate_left; assumption)))))).mono ?_; rintro e w5 ⟨rfl, hb5⟩; have hCo5 := hCoc.ext hb5; have hBb5 := hBbc.ext hb5; have k0 := hb5.cells.1; have k1 := hb5.size; have hlk := hCo5.look; rw [HP4L.out, HCLL.out] at hlk; have t0 := hBb5.cell; have t1 := hBb5.lt) | (go_at_call 57; refine (HRC.out _ (by (with_reducible (repeat (first | exact Ext.refl _ | assumption | apply Ext.alloc | apply Ext.drew | exact ext_plus _ _ | (apply Ext.setCell; rotate_left; (simp <;> omega)) | (apply Ext.trans; rotate_left; exact ext_plus _ _) | (apply Ext.trans; rotate_left; assumption)))))).mono ?_; rintro e w6 ⟨rfl, hb6⟩; obtain ⟨D6, hown6, hat6⟩ := (hCo5.ext hb6); have hBb6 := (hBb5.ext hb6).alloc (.cells #[.int .i64 SP.1, .int .i64 SP.2] 89); have hBk6 := ((hBkc.ext hb5).ext hb6).alloc (.cells #[.int .i64 SP.1, .int .i64 SP.2] 89); have hBr6 := ((hBrc.ext hb5).ext hb6).alloc (.cells #[.int .i64 SP.1, .int .i64 SP.2] 89); have hE6 := ((hEwc.trans hb5).trans hb6).alloc (.cells #[.int .i64 SP.1, .int .i64 SP.2] 89); have z6 := hb6.size; have r0 := hBk6.cell; have r1 := hBk6.lt))
                  go_roundw
                  case rel => exact ⟨x + 1, by go_num, by omega, by rw [HBET.out]; rfl, by rw [HBET.out]; exact hCo5.mono (by omega), by rw [HBET.out]; show Blk _ _ (pad4 l) _; rw [HP4L.out]; exact hBb5, hBrc.ext hb5, hEwc.trans hb5⟩
                  case measure => simp [intOf]; omega
                · rw [if_neg hge] at hbet
                  have HBET := Lib.hid hbet
                  have HP4L := Lib.hid hp4l
                  have HCLL := Lib.hid hcl
                  clear hbet hp4l hcl
                  cases sL with
                  | true =>
                    go_wp2_with (first | (go_at_call 61; refine (HCS.out _ (by (with_reducible (repeat (first | exact Ext.refl _ | assumption | apply Ext.alloc | apply Ext.drew | exact ext_plus _ _ | (apply Ext.setCell; rotate_left; (simp <;> omega)) | (apply Ext.trans; rotate_left; exact ext_plus _ _) | (apply Ext.trans; rotate_left; assumption)))))).mono ?_; rintro e w5 ⟨rfl, hb5⟩; have hCo5 := hCoc.ext hb5; have hBb5 := hBbc.ext hb5; have k0 := hb5.cells.1; have k1 := hb5.size; have hlk := hCo5.look; rw [HP4L.out, HCLL.out] at hlk; have t0 := hBb5.cell; have t1 := hBb5.lt) | (go_at_call 57; refine (HRC.out _ (by (with_reducible (repeat (first | exact Ext.refl _ | assumption | apply Ext.alloc | apply Ext.drew | exact ext_plus _ _ | (apply Ext.setCell; rotate_left; (simp <;> omega)) | (apply Ext.trans; rotate_left; exact ext_plus _ _) | (apply Ext.trans; rotate_left; assumption)))))).mono ?_; rintro e w6 ⟨rfl, hb6⟩; obtain ⟨D6, hown6, hat6⟩ := (hCo5.ext hb6); have hBb6 := (hBb5.ext hb6).alloc (.cells #[.int .i64 SP.1, .int .i64 SP.2] 89); have hBk6 := ((hBkc.ext hb5).ext hb6).alloc (.cells #[.int .i64 SP.1, .int .i64 SP.2] 89); have hBr6 := ((hBrc.ext hb5).ext hb6).alloc (.cells #[.int .i64 SP.1, .int .i64 SP.2] 89); have hE6 := ((hEwc.trans hb5).trans hb6).alloc (.cells #[.int .i64 SP.1, .int .i64 SP.2] 89); have z6 := hb6.size; have r0 := hBk6.cell; have r1 := hBk6.lt) | (at_mapUpdate; refine wpList_mapUpdate_own _ rfl _ _ _ 93 rfl 94 3 key_keyed Try.underlying93 IV bm x D6 rfl (hown6.alloc _) (by unfold maxLen; omega) _ _ kl rfl rfl HKL.out (.lit (.int .i64 cL)) [] (plainElem_int Try.underlying3 HWF.out) ?_; intro w8 hown8 hgrow8; have hBb8 := hBb6.but hgrow8 (by omega); have hBk8 := hBk6.but hgrow8 (by omega); have hBr8 := hBr6.but hgrow8 (by omega); have s0 := hBb8.cell; have s1 := hBb8.free; have s2 := hBb8.lt; have s3 := hBk8.cell; have s4 := hBk8.lt))
                    go_roundw
                    case rel =>
                      have hput : Costs r w8 bm (x + 1) (some L) := Costs.put hown6.isMap HKL0.out (by rw [HCL2.out]; exact hown8)
                      have hE8 : Ext w w8 := Ext.grown hE6 hgrow8 (fun k e => by cases e; omega)
                      refine ⟨x + 1, by go_num, by omega, by rw [HBET.out]; rfl, ?_, ?_, ?_, ?_⟩
                      · rw [HBET.out]; exact (((hput.set (a := ⟨bm + 1, 0, none⟩) (by simp) _).set (a := ⟨bm + 1, 1, none⟩) (by simp) _).set (a := ⟨bm + 1, 2, none⟩) (by simp) _).set (a := ⟨bm + 1, 3, none⟩) (by simp) _
                      · rw [HBET.out]
                        show Blk _ _ (pad4 L) _
                        rw [HP4.out]
                        simpa using (((hBb8.set 0 (.int .i64 l0)).set 1 (.int .i64 l1)).set 2 (.int .i64 l2)).set 3 (.int .i64 l3)
                      · exact (((hBr8.other (by simp; omega) _).other (by simp; omega) _).other (by simp; omega) _).other (by simp; omega) _
                      · exact (((hE8.setCell (p := ⟨bm + 1, 0, none⟩) (by simp; omega) _).setCell (p := ⟨bm + 1, 1, none⟩) (by simp; omega) _).setCell (p := ⟨bm + 1, 2, none⟩) (by simp; omega) _).setCell (p := ⟨bm + 1, 3, none⟩) (by simp; omega) _
                    case measure => simp [intOf]; omega
                  | false =>
                    go_wp2_with (first | (go_at_call 61; refine (HCS.out _ (by (with_reducible (repeat (first | exact Ext.refl _ | assumption | apply Ext.alloc | apply Ext.drew | exact ext_plus _ _ | (apply Ext.setCell; rotate_left; (simp <;> omega)) | (apply Ext.trans; rotate_left; exact ext_plus _ _) | (apply Ext.trans; rotate_left; assumption)))))).mono ?_; rintro e w5 ⟨rfl, hb5⟩; have hCo5 := hCoc.ext hb5; have hBb5 := hBbc.ext hb5; have k0 := hb5.cells.1; have k1 := hb5.size; have hlk := hCo5.look; rw [HP4L.out, HCLL.out] at hlk; have t0 := hBb5.cell; have t1 := hBb5.lt) | (go_at_call 57; refine (HRC.out _ (by (with_reducible (repeat (first | exact Ext.refl _ | assumption | apply Ext.alloc | apply Ext.drew | exact ext_plus _ _ | (apply Ext.setCell; rotate_left; (simp <;> omega)) | (apply Ext.trans; rotate_left; exact ext_plus _ _) | (apply Ext.trans; rotate_left; assumption)))))).mono ?_; rintro e w6 ⟨rfl, hb6⟩; obtain ⟨D6, hown6, hat6⟩ := (hCo5.ext hb6); have hBb6 := (hBb5.ext hb6).alloc (.cells #[.int .i64 SP.1, .int .i64 SP.2] 89); have hBk6 := ((hBkc.ext hb5).ext hb6).alloc (.cells #[.int .i64 SP.1, .int .i64 SP.2] 89); have hBr6 := ((hBrc.ext hb5).ext hb6).alloc (.cells #[.int .i64 SP.1, .int .i64 SP.2] 89); have hE6 := ((hEwc.trans hb5).trans hb6).alloc (.cells #[.int .i64 SP.1, .int .i64 SP.2] 89); have z6 := hb6.size; have r0 := hBk6.cell; have r1 := hBk6.lt))
                    go_roundw
                    case rel => exact ⟨x + 1, by go_num, by omega, by rw [HBET.out]; rfl, by rw [HBET.out]; exact ((hCo5.ext hb6).ext ((Ext.refl _).alloc _)).mono (by omega), by rw [HBET.out]; show Blk _ _ (pad4 l) _; rw [HP4L.out]; exact hBb6, hBr6, hE6⟩
                    case measure => simp [intOf]; omega
      · have hxe : x = N := by omega
        have hba : o = R.best r := by rw [← hbt, hxe, HNQ.out]; exact bestTo_all r
        subst hxe
        have hEcl := fun l (h : o = some l) => bestTo_form r x l (hbt.trans h)
        have HBA := Lib.hid hba
        clear hba hbt
        cases o with
        | none =>
          go_wp2
          refine bodyPost_ret (v := .tuple #[.slice none 0 0, .int .i64 0, .int .i64 5]) (by simp [results, Try.results29, go_sem]) rfl ?_
          rw [← HBA.out]
          exact ⟨_, rfl, Ints.nil _, by (with_reducible (repeat (first | exact Ext.refl _ | assumption | apply Ext.alloc | apply Ext.drew | exact ext_plus _ _ | (apply Ext.setCell; rotate_left; (simp <;> omega)) | (apply Ext.trans; rotate_left; exact ext_plus _ _) | (apply Ext.trans; rotate_left; assumption))))⟩
        | some l =>
          obtain ⟨y, hy⟩ := hEcl l rfl
          have hll : l.length = m := by rw [hy, R.digits_len, HMN.out]
          have hcl := fun y (hy : Ext wr y) => clone_ints (.slice (some ⟨bm + 1, 0, none⟩) l.length 4) l y (pad4_ints (hBb.ext hy) (by rw [hll]; omega) 4) (by rw [hll]; omega)
          rw [hll] at hcl
          have HCL := Lib.hid hcl
          have hsl := fun y => slice_four y (bm + 1) m hm1.2
          obtain ⟨cl, hcl⟩ : ∃ cl, R.cost r l = cl := ⟨_, rfl⟩
          obtain ⟨y0, y1, y2, y3, hp4l⟩ : ∃ l0 l1 l2 l3 : Int, pad4 l = #[.int .i64 l0, .int .i64 l1, .int .i64 l2, .int .i64 l3] := ⟨_, _, _, _, rfl⟩
          have hBb : Blk wr (bm + 1) #[.int .i64 y0, .int .i64 y1, .int .i64 y2, .int .i64 y3] 94 := by rw [← hp4l]; exact hBb
          have hlk := fun y (hy : Ext wr y) => (hCo.ext hy).look
          rw [hp4l, hcl] at hlk
          have HLK := Lib.hid hlk
          have b0 := hBb.cell
          have b1 := hBb.lt
          have HLEN := Lib.hid hll
          have HCS := Lib.hid hcl
          clear hEcl hy hcl hlk hp4l hll
          go_upto_region 26 with (fail)
          go_region_held3 (fun y => (∀ o, y.cell? ⟨w.heap.size, o, none⟩ = (#[.slice a1 r.places.length c1, .int .i64 r.miss, .int .i64 m] : Array Value)[o]?) ∧ (∀ o, y.cell? ⟨bm + 1, o, none⟩ = (#[.int .i64 y0, .int .i64 y1, .int .i64 y2, .int .i64 y3] : Array Value)[o]?) ∧ (Instr.lookup 93 (.map (some bm)) (.agg #[.int .i64 y0, .int .i64 y1, .int .i64 y2, .int .i64 y3]) false).run Try.prog y = .ok (.int .i64 cl) y ∧ Ext wr y)
            (first | exact ⟨blk_of hBr (by (with_reducible (repeat (first | exact Ext.refl _ | assumption | apply Ext.alloc | apply Ext.drew | exact ext_plus _ _ | (apply Ext.setCell; rotate_left; (simp <;> omega)) | (apply Ext.trans; rotate_left; exact ext_plus _ _) | (apply Ext.trans; rotate_left; assumption))))), blk_of hBb (by (with_reducible (repeat (first | exact Ext.refl _ | assumption | apply Ext.alloc | apply Ext.drew | exact ext_plus _ _ | (apply Ext.setCell; rotate_left; (simp <;> omega)) | (apply Ext.trans; rotate_left; exact ext_plus _ _) | (apply Ext.trans; rotate_left; assumption))))), HLK.out _ (by (with_reducible (repeat (first | exact Ext.refl _ | assumption | apply Ext.alloc | apply Ext.drew | exact ext_plus _ _ | (apply Ext.setCell; rotate_left; (simp <;> omega)) | (apply Ext.trans; rotate_left; exact ext_plus _ _) | (apply Ext.trans; rotate_left; assumption))))), by (with_reducible (repeat (first | exact Ext.refl _ | assumption | apply Ext.alloc | apply Ext.drew | exact ext_plus _ _ | (apply Ext.setCell; rotate_left; (simp <;> omega)) | (apply Ext.trans; rotate_left; exact ext_plus _ _) | (apply Ext.trans; rotate_left; assumption))))⟩)
            (first | (go_at_call 60; refine (HCL.out _ (by (with_reducible show Ext _ _; (with_reducible (repeat (first | exact Ext.refl _ | assumption | apply Ext.alloc | apply Ext.drew | exact ext_plus _ _ | (apply Ext.setCell; rotate_left; (simp <;> omega)) | (apply Ext.trans; rotate_left; exact ext_plus _ _) | (apply Ext.trans; rotate_left; assumption)))); done))).mono ?_; rintro e y1 ⟨v1, rfl, hv1, hy1⟩; obtain ⟨a9, c9, rfl⟩ := own_slice hv1; have k1 := hy1.cells.1; have k2 := hy1.cells.2; have k3 := hy1.size; (try simp only [size_drew, World.size_alloc] at k1 k2 k3)))
          all_goals (dsimp only [Exit.then]; go_wp2)
          all_goals refine bodyPost_ret (v := .tuple #[.slice a9 m c9, .int .i64 cl, .int .i64 0]) (by simp [results, Try.results29, go_sem]) rfl ?_
          all_goals rw [← HBA.out]
          all_goals refine ⟨_, by show _ = Ending.returned (.tuple #[_, .int .i64 (R.cost r l), .int .i64 0]); rw [HCS.out], Ints.of_own (by show World.ownsRow _ _ _ _ _ l.length _; rw [HLEN.out]; exact hv1), ?_⟩
          all_goals (with_reducible show Ext _ _; (with_reducible (repeat (first | exact Ext.refl _ | assumption | apply Ext.alloc | apply Ext.drew | exact ext_plus _ _ | (apply Ext.setCell; rotate_left; (simp <;> omega)) | (apply Ext.trans; rotate_left; exact ext_plus _ _) | (apply Ext.trans; rotate_left; assumption)))); done)
end Go.Proofs.Ythffoglpekpmdaa
