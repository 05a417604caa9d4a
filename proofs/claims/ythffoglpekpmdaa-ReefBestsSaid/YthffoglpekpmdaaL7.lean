/- The law ReefBests. -/
import Derived.Test.YthffoglpekpmdaaK2
import Derived.Test.YthffoglpekpmdaaD13
import Derived.Test.YthffoglpekpmdaaD11
import Derived.Test.YthffoglpekpmdaaD3
import Derived.Test.YthffoglpekpmdaaF4
import Derived.Test.YthffoglpekpmdaaPl9
import Derived.Test.YthffoglpekpmdaaLate

namespace Go.Proofs.Ythffoglpekpmdaa
set_option linter.unusedVariables false
set_option linter.unusedSimpArgs false
open Go.RowKit
theorem wpList_append_copy {w : World} {ops : Array Oper} {rest : List Oper} {o : Oper} {a : Act} {Q : Exit → Act → World → Prop} (hgd : o.guard = none) (s x : Operand)
    (ho : o.op = .call { callee := .builtin .append, args := #[s, x], argTypes := #[25, 25] }) (v : Value) (xs : List Int) (hs : a.eval s = .slice none 0 0) (hx : a.eval x = v)
    (hv : Ints w v xs) (ht : Tight v) (hn : xs.length ≤ 1000000)
    (h : ∀ v' w', w'.ownsRow w.heap.size 3 1 v' xs.length (xs.map (Value.int .i64)) → Ext w w' → wpList Try.prog ops Q rest (a.put o.dst v') w') : wpList Try.prog ops Q (o :: rest) a w := by
  obtain ⟨i0, hi, hz0, hz1, hz2⟩ := info_parts int_info
  obtain ⟨a1, cap, rfl, hcell⟩ := hv
  cases a1 with
  | none =>
    obtain ⟨e, rfl⟩ := ht _ _ rfl
    have e2 : xs = [] := List.eq_nil_of_length_eq_zero e
    subst e2
    exact wpList_append_own_none hgd s x 25 ho w.heap.size 3 i0 1 Try.underlying25 hi _ 0 [] hs (World.ownsRow_nil _ _ _ _) hx (h _ _ (World.ownsRow_nil _ _ _ _) (Ext.refl _))
  | some ad =>
    refine wpList_append_own _ hgd s x 25 ho w.heap.size 3 i0 (.int .i64 0) 1 8 Try.underlying25 hi hz0 hz1 hz2 rfl (by decide) _ 0 [] hs (World.ownsRow_nil _ _ _ _) ad xs.length cap (xs.map (Value.int .i64)) hx (by simp) ?_ (by intro u hu; obtain ⟨x, _, rfl⟩ := List.mem_map.1 hu; rfl) (by unfold maxLen; omega) (by omega) (Nat.le_refl _) ?_
    · intro j u hu
      rw [List.getElem?_map] at hu
      cases h : xs[j]? with
      | none => rw [h] at hu; cases hu
      | some x =>
        rw [h] at hu
        obtain rfl := Option.some.inj hu
        obtain ⟨hj, rfl⟩ := List.getElem?_eq_some_iff.1 h
        obtain ⟨b, off, e, hb, hc⟩ := hcell j hj
        cases e
        have hadd : (⟨b, off, none⟩ : Addr).add j = ⟨b, off + j, none⟩ := by unfold Addr.add; split <;> simp_all
        rw [hadd]; exact hc
    · intro v' w' h1 h2 _
      refine h v' w' (by simpa using h1) (Ext.grown (Ext.refl _) h2 (fun k e => by simp [Value.ownBlock] at e))
set_option maxRecDepth 100000 in
set_option maxHeartbeats 4000000 in
theorem dplans_any (r : R.Reef) (vp : Value) (w : World) (hP : Places w vp r.places) (O : R.OkR r) (h6 : r.places.length * r.seasons.toNat ≤ 6) :
    Calls Try.prog 62 #[.agg (reefV r vp)] w fun e w' => ∃ v, e = .returned v ∧ Lists w' v (R.plans r.places.length r.seasons.toNat) ∧ Ext w w' := by
  have hP' := hP
  obtain ⟨a1, c1, rfl, _⟩ := hP'
  obtain ⟨i0, hi, hz0, hz1, hz2⟩ := info_parts int_info
  obtain ⟨i9, hi9, hy0, hy1, hy2⟩ := info_parts row_info
  have hn4 := O.n4
  have hs1 := O.s1
  have hset := fun w' (hx : Ext w w') => dsets_any r _ w' (hP.ext hx) (by omega)
  obtain ⟨B, hB⟩ : ∃ B : Nat, 2 ^ r.places.length = B := ⟨_, rfl⟩
  have hsB : R.sets r = (B : Int) := by unfold R.sets; rw [← hB, Int.natCast_pow]; rfl
  have hB16 : 1 ≤ B ∧ B ≤ 16 := by
    have h1 := R.two_pow r.places.length hn4
    have h2 : R.sets r = 2 ^ r.places.length := rfl
    omega
  simp only [hsB] at hset
  have HSET := Lib.hid hset
  obtain ⟨S, hS⟩ : ∃ S, r.seasons.toNat = S := ⟨_, rfl⟩
  have hsS : r.seasons = (S : Int) := by omega
  have HSS := Lib.hid hsS
  rw [hS] at h6 ⊢
  have hpl : ∀ k, k ≤ S → 2 ^ (r.places.length * k) ≤ 64 := fun k hk => by
    have h1 : r.places.length * k ≤ 6 := Nat.le_trans (Nat.mul_le_mul_left _ hk) h6
    exact Nat.le_trans (Nat.pow_le_pow_right (by decide) h1) (by decide)
  have hS6 : S ≤ 6 := by
    have h1 := O.n1
    have h2 : 1 * S ≤ r.places.length * S := Nat.mul_le_mul_right _ h1
    omega
  obtain ⟨n, hn⟩ : ∃ n, r.places.length = n := ⟨_, rfl⟩
  have HPOW := Lib.hid hpl
  have HBB := Lib.hid hB
  have HNN := Lib.hid hn
  clear hset hsB hS hsS hpl h6 O hB hn
  go_enter Try.func62, Try.ntmps62
  go_wp2
  obtain ⟨w1, hw1⟩ : ∃ w1, (w.alloc (.cells (reefV r (.slice a1 r.places.length c1)) 24)).alloc (.cells #[.slice none 0 0] 25) = w1 := ⟨_, rfl⟩
  have hb1 : Blk w1 w.heap.size (reefV r (.slice a1 r.places.length c1)) 24 := by rw [← hw1]; exact (Blk.new' rfl _ _).alloc _
  have hE1 : Ext w w1 := by rw [← hw1]; (with_reducible (repeat (first | exact Ext.refl _ | assumption | apply Ext.alloc | apply Ext.drew | exact ext_plus _ _ | (apply Ext.setCell; rotate_left; (simp <;> omega)) | (apply Ext.trans; rotate_left; exact ext_plus _ _) | (apply Ext.trans; rotate_left; assumption))))
  have hl0 : Lists w1 (.slice (some ⟨w.heap.size + 1, 0, none⟩) 1 1) (R.plans n 0) := by
    rw [R.plans_zero]
    refine ⟨_, _, rfl, fun i hi => ⟨w.heap.size + 1, 0, rfl, by rw [← hw1]; simp, .slice none 0 0, ?_, ?_, Tight.nil⟩⟩
    · have : i = 0 := by simp at hi; omega
      subst this
      have hb : Blk w1 (w.heap.size + 1) #[.slice none 0 0] 25 := by rw [← hw1]; exact Blk.new' (by simp) _ _
      exact hb.cell 0
    · have : i = 0 := by simp at hi; omega
      subst this
      exact Ints.nil _
  rw [hw1]
  clear hw1
  go_loopw [3, 4, 5, 6, 7] (fun v i _ _ _ wr => ∃ k : Nat, k ≤ S ∧ i = .int .i64 k ∧ Lists wr v (R.plans n k) ∧ Ext w1 wr) (fun _ i _ _ _ _ => S - (intOf i).toNat)
  case atStart => exact ⟨0, Nat.zero_le _, rfl, hl0, Ext.refl _⟩
  case round =>
    rename World => wo
    obtain ⟨k, hk, rfl, hL, hEk⟩ := hrel
    have hcs := (hb1.ext hEk).cell
    have hls := (hb1.ext hEk).lt
    by_cases hlt : k < S
    · have hlt' : (k : Int) < r.seasons := by have := HSS.out; omega
      have hpk := R.plans_len n k
      have hpk2 := HPOW.out k (by omega)
      have hpk3 := HPOW.out (k + 1) (by omega)
      rw [HNN.out] at hpk2 hpk3
      rw [← hpk] at hpk2
      have hpm := R.plans_row n k
      have hga := R.gath_all n k
      obtain ⟨O, hO⟩ : ∃ O, R.plans n k = O := ⟨_, rfl⟩
      rw [hO] at hL hpk hpk2 hga
      simp only [hO] at hpm
      have hOB : O.length * B ≤ 64 := by
        have h1 := HBB.out
        rw [HNN.out] at h1
        rw [hpk, ← h1, ← Nat.pow_add, ← Nat.mul_succ]; exact hpk3
      have HPM := Lib.hid hpm
      have HGA := Lib.hid hga
      clear hpm hga hO hpk hpk3
      obtain ⟨av, cv, rfl, hxL⟩ := hL
      have HXL := Lib.hid hxL
      clear hxL
      go_wp2
      go_loopw [5, 6, 7] (fun v i _ wx => ∃ (j : Nat) (L : List (List Int × Value)), j ≤ O.length ∧ i = .int .i64 j ∧ wx.ownsRow wo.heap.size 25 1 v L.length (L.map Prod.snd) ∧ (∀ p ∈ L, Apart w.heap.size w.heap.size w1.heap.size wx p) ∧ L.map Prod.fst = R.gath n O j ∧ Ext wo wx) (fun _ i _ _ => O.length - (intOf i).toNat)
      case atStart => exact ⟨0, [], Nat.zero_le _, rfl, World.ownsRow_nil _ _ _ _, (by simp), rfl, Ext.refl _⟩
      case round =>
        rename World => wx
        obtain ⟨j, L, hj, rfl, hown, hel, hge, hEx⟩ := hrel
        have HGE := Lib.hid hge
        have HEL := Lib.hid hel
        have hLb : L.length ≤ 64 := by
          have h1 := congrArg List.length hge
          have h2 := HBB.out
          rw [HNN.out] at h2
          rw [List.length_map, R.gath_len n O j hj, h2] at h1
          have h3 := Nat.mul_le_mul_right B hj
          omega
        clear hge hel
        have hcs2 := ((hb1.ext hEk).ext hEx).cell
        have hls2 := ((hb1.ext hEk).ext hEx).lt
        by_cases hlj : j < O.length
        · obtain ⟨g4, o4, rfl, hg4, vp, h04, hvp, htp⟩ := HXL.out j hlj
          have hpj := HPM.out _ (List.getElem_mem hlj)
          have HSU := Lib.hid (R.gath_succ n O hlj)
          obtain ⟨p, hp⟩ : ∃ p, O[j] = p := ⟨_, rfl⟩
          rw [hp] at hvp hpj HSU
          clear hp
          have hvp2 := hvp
          obtain ⟨ap, cp, rfl, _⟩ := hvp2
          rw [hpj] at h04 hvp htp
          simp only [Nat.mul_one] at h04
          have HVP := Lib.hid hvp
          have HPJ := Lib.hid hpj
          clear hvp hpj
          go_wp2
          go_loopw [5, 7] (fun v i wy => ∃ (q : Nat) (M : List (List Int × Value)), q ≤ B ∧ i = .int .i64 q ∧ M.length ≤ 64 + q ∧ wy.ownsRow wo.heap.size 25 1 v M.length (M.map Prod.snd) ∧ (∀ p ∈ M, Apart w.heap.size w.heap.size w1.heap.size wy p) ∧ M.map Prod.fst = R.gath n O j ++ ((List.range q).map fun x => p ++ [((x : Nat) : Int)]) ∧ Ext wo wy) (fun _ i _ => B - (intOf i).toNat)
          case atStart => exact ⟨0, L, Nat.zero_le _, rfl, by omega, hown, HEL.out, by simpa using HGE.out, hEx⟩
          case round =>
            rename World => wy
            obtain ⟨q, M, hq, rfl, hMl, hown2, hel2, hge2, hEy⟩ := hrel
            have hcs3 := ((hb1.ext hEk).ext hEy).cell
            have hls3 := ((hb1.ext hEk).ext hEy).lt
            have HEL2 := Lib.hid hel2
            have HGE2 := Lib.hid hge2
            clear hel2 hge2 hown
            have hEwy : Ext w wy := hE1.trans (hEk.trans hEy)
            by_cases hlq : q < B
            · go_wp2_with (first | (go_at_call 63; refine (HSET.out _ (by (with_reducible (repeat (first | exact Ext.refl _ | assumption | apply Ext.alloc | apply Ext.drew | exact ext_plus _ _ | (apply Ext.setCell; rotate_left; (simp <;> omega)) | (apply Ext.trans; rotate_left; exact ext_plus _ _) | (apply Ext.trans; rotate_left; assumption)))))).mono ?_; rintro e ys ⟨rfl, hEys⟩; have hEoy : Ext wo ys := hEy.trans hEys; have e5 := (hEoy.cells.1 _ _ hg4).trans h04; have q5 := Nat.lt_of_lt_of_le hg4 hEoy.size; have HVY := Lib.hid (HVP.out.ext hEoy); have hown2s := own_ext hown2 hEys; have hszs := hEys.size) | (at_builtin; refine wpList_append_copy rfl _ _ rfl _ p rfl rfl HVY.out htp (by have := HPJ.out; omega) ?_; intro v1 y1 hown1 hEy1; have hzy1 := hEy1.size) | (at_builtin; refine wpList_append_own _ rfl _ _ 25 rfl ys.heap.size 3 i0 (.int .i64 0) 1 8 Try.underlying25 hi hz0 hz1 hz2 rfl (by decide) _ _ _ rfl ((own_ext hown1 (Ext.refl _)).alloc _) ⟨y1.heap.size, 0, none⟩ 1 1 [.int .i64 (q : Int)] rfl rfl (cell_one _ _ _ (by simp)) (one_int _) (by have := HPJ.out; unfold maxLen; omega) (by have := HPJ.out; omega) (by simp <;> omega) ?_; intro v2 y2 hown3 hgr2 _; obtain ⟨g2, cap2, rfl⟩ := own_succ hown3; have hEy2 : Ext ys y2 := Ext.grown (hEy1.alloc _) hgr2 (own_base hown1); have hzy2 := hEy2.size; have hown4 := own_ext hown2s hEy2) | (at_builtin; refine wpList_append_own _ rfl _ _ 26 rfl wo.heap.size 25 i9 (.slice none 0 0) 1 24 Try.underlying26 hi9 hy0 hy1 hy2 rfl (by decide) _ _ _ rfl (hown4.alloc _) ⟨y2.heap.size, 0, none⟩ 1 1 [.slice (some ⟨g2, 0, none⟩) (p.length + 1) cap2] rfl rfl (cell_one _ _ _ (by simp)) (by intro u hu; simp at hu; subst hu; rfl) (by unfold maxLen; omega) (by omega) (by have := hEy.size; simp <;> omega) ?_; intro v3 y3 hown5 hgr3 _; obtain ⟨g3, cap3, rfl⟩ := own_succ hown5))
              have hz1o := hEk.size
              have hzoy := hEoy.size
              refine ⟨⟨q + 1, M ++ [(p ++ [(q : Int)], .slice (some ⟨g2, 0, none⟩) (p.length + 1) cap2)], by omega, by go_num, by simp; omega, by simpa using hown5, ?_, ?_, Ext.grown ((hEoy.trans hEy2).alloc _) hgr3 (own_base hown4)⟩, by simp [intOf]; omega⟩
              · intro pr hpr
                rw [List.mem_append, List.mem_singleton] at hpr
                rcases hpr with hpr | rfl
                · exact ((((HEL2.out pr hpr).ext hEys).ext hEy2).ext ((Ext.refl _).alloc _)).grown hgr3 (own_blk (hown4.alloc _) (by decide))
                · have hg2 := own_base hown3 g2 rfl
                  have hwl := hb1.lt
                  have h1 : Apart w.heap.size w.heap.size w1.heap.size y2 (p ++ [(q : Int)], .slice (some ⟨g2, 0, none⟩) (p.length + 1) cap2) := ⟨g2, cap2, by simp, by omega, by omega, IRow.of_own (base := ys.heap.size) (by simpa using hown3), by omega⟩
                  exact (h1.ext ((Ext.refl _).alloc _)).grown hgr3 (own_blk (hown4.alloc _) (by decide))
              · rw [List.map_append, HGE2.out, List.range_succ, List.map_append, List.append_assoc]; rfl
            · obtain rfl : q = B := by omega
              have hge3 : M.map Prod.fst = R.gath n O (j + 1) := by
                have h2 := HBB.out
                rw [HNN.out] at h2
                rw [HGE2.out, HSU.out]
                unfold R.more
                rw [h2]
              have HGE3 := Lib.hid hge3
              clear hge3
              go_wp2_with (first | (go_at_call 63; refine (HSET.out _ (by (with_reducible (repeat (first | exact Ext.refl _ | assumption | apply Ext.alloc | apply Ext.drew | exact ext_plus _ _ | (apply Ext.setCell; rotate_left; (simp <;> omega)) | (apply Ext.trans; rotate_left; exact ext_plus _ _) | (apply Ext.trans; rotate_left; assumption)))))).mono ?_; rintro e ys ⟨rfl, hEys⟩; have hEoy : Ext wo ys := hEy.trans hEys; have e5 := (hEoy.cells.1 _ _ hg4).trans h04; have q5 := Nat.lt_of_lt_of_le hg4 hEoy.size; have HVY := Lib.hid (HVP.out.ext hEoy); have hown2s := own_ext hown2 hEys; have hszs := hEys.size))
              exact ⟨⟨j + 1, M, by omega, by go_num, hown2s, fun p hp => (HEL2.out p hp).ext hEys, HGE3.out, hEoy⟩, by simp [intOf]; omega⟩
        · obtain rfl : j = O.length := by omega
          have hsz := (hEk.size)
          have hLL := (Lists.of_own (n := w1.heap.size) (by omega) hown HEL.out).lists
          rw [HGE.out, HGA.out] at hLL
          have HLL := Lib.hid hLL
          clear hLL
          obtain ⟨av2, cv2, rfl⟩ := own_slice hown
          go_wp2
          exact ⟨⟨k + 1, by omega, by go_num, HLL.out, hEk.trans hEx⟩, by simp [intOf]; omega⟩
    · obtain rfl : k = S := by omega
      have hnlt : ¬ (k : Int) < r.seasons := by have := HSS.out; omega
      obtain ⟨av, cv, rfl, hxL⟩ := hL
      go_wp2
      go_ret
      refine ⟨_, rfl, ?_, hE1.trans hEk⟩
      rw [HNN.out]
      exact ⟨av, cv, rfl, hxL⟩
set_option maxRecDepth 100000 in
set_option maxHeartbeats 16000000 in
theorem dbest_any (r : R.Reef) (vp : Value) (w : World) (hP : Places w vp r.places) (O : R.OkR r) (h6 : r.places.length * r.seasons.toNat ≤ 6) :
    Calls Try.prog 30 #[.agg (reefV r vp)] w fun e w' => ∃ v, e = .returned (.tuple #[v, .bool (R.best r).isSome]) ∧ Ints w' v ((R.best r).getD []) ∧ Ext w w' := by
  have hP' := hP
  obtain ⟨a1, c1, rfl, _⟩ := hP'
  have HPL := Lib.hid (fun w' (hx : Ext w w') => dplans_any r _ w' (hP.ext hx) O h6)
  have HCO := Lib.hid (show ∀ w' v L c, Ext w w' → Ints w' v L → R.OkL r L → R.cost r L = c → Calls Try.prog 32 #[.agg (reefV r (.slice a1 r.places.length c1)), v] w' fun e w2 => e = .returned (.int .i64 c) ∧ Ext w' w2 from fun w' v L c hx hv hl hc => hc ▸ dcost_any r L _ v w' (hP.ext hx) hv O hl)
  have HSH := Lib.hid (fun w' v L (hx : Ext w w') (hv : Ints w' v L) (hl : R.OkL r L) => dshort_any r L _ v w' (hP.ext hx) hv O hl)
  have HMEM := Lib.hid (fun l (h : l ∈ R.plans r.places.length r.seasons.toNat) => (R.mem_plans O l).1 h)
  have hlen : (R.plans r.places.length r.seasons.toNat).length ≤ 64 := by
    rw [R.plans_len]
    exact Nat.le_trans (Nat.pow_le_pow_right (by decide) h6) (by decide)
  have hbt : (R.plans r.places.length r.seasons.toNat).foldl (R.better r) none = R.best r := rfl
  obtain ⟨L, hL⟩ : ∃ L, R.plans r.places.length r.seasons.toNat = L := ⟨_, rfl⟩
  obtain ⟨V, hV⟩ : ∃ V, R.best r = V := ⟨_, rfl⟩
  rw [hL] at hlen hbt
  rw [hV] at hbt ⊢
  have HBT := Lib.hid hbt
  simp only [hL] at HPL HMEM
  clear hbt hV hL h6 O
  have hpc := plus_cell
  go_enter Try.func30, Try.ntmps30
  go_upto_region 1 with (fail)
  obtain ⟨w1, hw1⟩ : ∃ w1, w.alloc (.cells (reefV r (.slice a1 r.places.length c1)) 24) = w1 := ⟨_, rfl⟩
  have hbx : Blk w1 w.heap.size (reefV r (.slice a1 r.places.length c1)) 24 := by rw [← hw1]; exact Blk.new' rfl _ _
  have hE1 : Ext w w1 := by rw [← hw1]; (with_reducible (repeat (first | exact Ext.refl _ | assumption | apply Ext.alloc | apply Ext.drew | exact ext_plus _ _ | (apply Ext.setCell; rotate_left; (simp <;> omega)) | (apply Ext.trans; rotate_left; exact ext_plus _ _) | (apply Ext.trans; rotate_left; assumption))))
  rw [hw1]
  clear hw1
  have k0 := hbx.cell
  have k1 := hbx.lt
  go_wp2_with (first | (go_at_call 62; refine (HPL.out _ hE1).mono ?_; rintro e w2 ⟨vL, rfl, ⟨aL, cL, rfl, hxL⟩, hE2⟩))
  have hbx2 := hbx.ext hE2
  have hEw2 := hE1.trans hE2
  have HXL := Lib.hid hxL
  clear hxL k0 k1 hbx
  go_loopw [5, 6, 7, 8, 9, 10] (fun vb vf i _ _ _ wr => ∃ (k : Nat) (b : Option (List Int)) (fb : Bool), k ≤ L.length ∧ i = .int .i64 k ∧ vf = .bool fb ∧ b.isSome = fb ∧ Ints wr vb (b.getD []) ∧ (L.drop k).foldl (R.better r) b = V ∧ (∀ l, b = some l → R.OkL r l) ∧ Ext w2 wr) (fun _ _ i _ _ _ _ => L.length - (intOf i).toNat)
  case atStart => exact ⟨0, none, false, Nat.zero_le _, rfl, rfl, rfl, Ints.nil _, HBT.out, (fun _ h => by cases h), Ext.refl _⟩
  case round =>
    obtain ⟨k, b, fb, hk, rfl, rfl, hfb, hvb, hfz, hok, hEk⟩ := hrel
    have hEw := hEw2.trans hEk
    by_cases hlt : k < L.length
    · obtain ⟨gL, oL, rfl, hgL, vq, hcq, hvq, _⟩ := HXL.out k hlt
      have hokq := HMEM.out _ (List.getElem_mem hlt)
      rw [List.drop_eq_getElem_cons hlt, List.foldl_cons] at hfz
      obtain ⟨q, hq⟩ : ∃ q, L[k] = q := ⟨_, rfl⟩
      rw [hq] at hfz hvq hokq
      clear hq
      simp only [Nat.mul_one] at hcq
      obtain ⟨aq, cq, rfl, hxq⟩ := id hvq
      have e6 := (hEk.cells.1 _ _ hgL).trans hcq
      have gLw := Nat.lt_of_lt_of_le hgL hEk.size
      have hbs := hbx2.ext hEk
      have hcs := hbs.cell
      have hls := hbs.lt
      have HVQ := Lib.hid (hvq.ext hEk)
      have HVB := Lib.hid hvb
      have HOKQ := Lib.hid hokq
      have HOKB := Lib.hid hok
      have HFZ := Lib.hid hfz
      have hsq := fun w' (hx : Ext _ w') => HSH.out w' _ q (hEw.trans hx) (HVQ.out.ext hx) hokq
      have hqlen := hokq.len
      clear hcq hxq hvq hfz hok hqlen
      cases b with
      | none =>
        obtain rfl : fb = false := hfb.symm
        clear hvb hokq hfb
        go_upto_region 7 with (fail)
        refine wp_region_ext 13 (fun _ _ d _ _ h => by cases d <;> exact h) (by kernel_rfl) (by kernel_rfl) (by kernel_rfl) (by kernel_rfl) ?_
        simp only [List.take_succ_cons, List.take_zero, List.drop_succ_cons, List.drop_zero]
        repeat (any_goals (first | go_big_quiet_step (fail) | quiet_step (fail)))
        all_goals (refine wpQuiet_nil ?_; intro w7 hE7)
        unfold wpList
        have e7 := (hE7.cells.1 _ _ gLw).trans e6
        have q7 := Nat.lt_of_lt_of_le gLw hE7.size
        have hbs7 := hbs.ext hE7
        have hcs7 := hbs7.cell
        have hls7 := hbs7.lt
        have hEk7 := hEk.trans hE7
        have hsq7 := fun w' (hx : Ext w7 w') => hsq w' (hE7.trans hx)
        clear hsq
        have hsq := hsq7
        clear hsq7 e6 gLw hcs hls
        cases hsh : R.short r q with
        | none =>
          have HNX : Hid ((L.drop (k + 1)).foldl (R.better r) (some q) = V) := by
            have h1 := HFZ.out
            have h2 : R.better r none q = some q := by unfold R.better; dsimp only; rw [hsh]; rfl
            rw [h2] at h1; exact h1
          have e3 : dshortV (R.short r q) = #[.int .i64 0, .int .i64 0, .bool false] := by rw [hsh]; rfl
          simp only [e3] at hsq
          have HSQ := Lib.hid hsq
          clear hsq hsh HFZ e3
          go_upto_region 8 with (fail)
          have hbd := hbs7.drew
          have e8 : w7.drew.cell? ⟨gL, oL + k, none⟩ = some (.slice aq q.length cq) := e7
          refine wp_region_late 12 (fun c y => c = false → ((∀ o, y.cell? ⟨w.heap.size, o, none⟩ = (reefV r (.slice a1 r.places.length c1) : Array Value)[o]?) ∧ y.cell? ⟨gL, oL + k, none⟩ = some (.slice aq q.length cq))) (by kernel_rfl) (fun hL => ?_)
          refine late_early (i := 0) (v := ?_) rfl (by kernel_rfl) (by kernel_rfl) (by kernel_rfl) (by decide) (by kernel_rfl) (fun _ _ _ h => h) hL (Or.inl ⟨by rfl, ?_⟩) (fun _ => ⟨hbd.cell, e8⟩) (fun hL' => ?_)
          rotate_left
          · intro y hy; have hz := hy rfl; clear hy; obtain ⟨g1, g2⟩ := hz; go_simp; (try with_reducible rfl)
          clear hL; rename Shutb _ _ => hL
          (try simp only [Act.put, List.setIfInBounds_toArray, List.set_cons_zero, List.set_cons_succ])
          refine late_early (i := 1) (v := ?_) rfl (by kernel_rfl) (by kernel_rfl) (by kernel_rfl) (by decide) (by kernel_rfl) (fun _ _ _ h => h) hL (Or.inl ⟨by rfl, ?_⟩) (fun _ => ⟨hbd.cell, e8⟩) (fun hL' => ?_)
          rotate_left
          · intro y hy; have hz := hy rfl; clear hy; obtain ⟨g1, g2⟩ := hz; go_simp; (try with_reducible rfl)
          clear hL; rename Shutb _ _ => hL
          (try simp only [Act.put, List.setIfInBounds_toArray, List.set_cons_zero, List.set_cons_succ])
          refine late_early (i := 2) (v := ?_) rfl (by kernel_rfl) (by kernel_rfl) (by kernel_rfl) (by decide) (by kernel_rfl) (fun _ _ _ h => h) hL (Or.inl ⟨by rfl, ?_⟩) (fun _ => ⟨hbd.cell, e8⟩) (fun hL' => ?_)
          rotate_left
          · intro y hy; have hz := hy rfl; clear hy; obtain ⟨g1, g2⟩ := hz; go_simp; (try with_reducible rfl)
          clear hL; rename Shutb _ _ => hL
          (try simp only [Act.put, List.setIfInBounds_toArray, List.set_cons_zero, List.set_cons_succ])
          refine late_early (i := 3) (v := ?_) rfl (by kernel_rfl) (by kernel_rfl) (by kernel_rfl) (by decide) (by kernel_rfl) (fun _ _ _ h => h) hL (Or.inl ⟨by rfl, ?_⟩) (fun _ => ⟨hbd.cell, e8⟩) (fun hL' => ?_)
          rotate_left
          · intro y hy; have hz := hy rfl; clear hy; obtain ⟨g1, g2⟩ := hz; go_simp; (try with_reducible rfl)
          clear hL; rename Shutb _ _ => hL
          (try simp only [Act.put, List.setIfInBounds_toArray, List.set_cons_zero, List.set_cons_succ])
          refine late_early (i := 4) (v := ?_) rfl (by kernel_rfl) (by kernel_rfl) (by kernel_rfl) (by decide) (by kernel_rfl) (fun _ _ _ h => h) hL (Or.inl ⟨by rfl, ?_⟩) (fun _ => ⟨hbd.cell, e8⟩) (fun hL' => ?_)
          rotate_left
          · intro y hy; have hz := hy rfl; clear hy; obtain ⟨g1, g2⟩ := hz; go_simp; (try with_reducible rfl)
          clear hL; rename Shutb _ _ => hL
          (try simp only [Act.put, List.setIfInBounds_toArray, List.set_cons_zero, List.set_cons_succ])
          refine late_one (i := 5) (by kernel_rfl) hL (fun hL' => ?_)
          refine wpOp_step rfl (fun K hK0 => ?_)
          have hK : Shut _ := hK0
          clear hK0
          go_simp
          go_wp2_with (first | (go_at_call 26; refine (HSQ.out _ (by (with_reducible (repeat (first | exact Ext.refl _ | assumption | apply Ext.alloc | apply Ext.drew | exact ext_plus _ _ | (apply Ext.setCell; rotate_left; (simp <;> omega)) | (apply Ext.trans; rotate_left; exact ext_plus _ _) | (apply Ext.trans; rotate_left; assumption)))))).mono ?_; rintro e w9 ⟨rfl, hE9⟩))
          have hb9 := hbd.ext hE9
          have e9 := (hE9.cells.1 _ _ (by exact q7)).trans e8
          have hEk9 := (hEk7.drew).trans hE9
          have hE79 := (hE7.drew).trans hE9
          refine hK.out _ _ ⟨fun _ => ⟨hb9.cell, e9⟩, ?_⟩
          clear hK K; clear hL; rename Shutb _ _ => hL
          (try simp only [Act.put, List.setIfInBounds_toArray, List.set_cons_zero, List.set_cons_succ])
          refine late_one (i := 6) (by kernel_rfl) hL (fun hL' => ?_)
          refine wpOp_step rfl (fun K hK0 => ?_)
          have hK : Shut _ := hK0
          clear hK0
          go_simp
          refine hK.out _ _ ⟨fun _ => ⟨hb9.cell, e9⟩, ?_⟩
          clear hK K; clear hL; rename Shutb _ _ => hL
          (try simp only [Act.put, List.setIfInBounds_toArray, List.set_cons_zero, List.set_cons_succ])
          refine late_early (i := 7) (v := ?_) rfl (by kernel_rfl) (by kernel_rfl) (by kernel_rfl) (by decide) (by kernel_rfl) (fun _ _ _ h => h) hL (Or.inl ⟨by rfl, ?_⟩) (fun _ => ⟨hb9.cell, e9⟩) (fun hL' => ?_)
          rotate_left
          · intro y hy; have hz := hy rfl; clear hy; obtain ⟨g1, g2⟩ := hz; go_simp; (try with_reducible rfl)
          clear hL; rename Shutb _ _ => hL
          (try simp only [Act.put, List.setIfInBounds_toArray, List.set_cons_zero, List.set_cons_succ])
          refine late_early (i := 8) (v := ?_) rfl (by kernel_rfl) (by kernel_rfl) (by kernel_rfl) (by decide) (by kernel_rfl) (fun _ _ _ h => h) hL (Or.inl ⟨by rfl, ?_⟩) (fun _ => ⟨hb9.cell, e9⟩) (fun hL' => ?_)
          rotate_left
          · intro y hy; have hz := hy rfl; clear hy; obtain ⟨g1, g2⟩ := hz; go_simp; (try with_reducible rfl)
          clear hL; rename Shutb _ _ => hL
          (try simp only [Act.put, List.setIfInBounds_toArray, List.set_cons_zero, List.set_cons_succ])
          refine late_early (i := 9) (v := ?_) rfl (by kernel_rfl) (by kernel_rfl) (by kernel_rfl) (by decide) (by kernel_rfl) (fun _ _ _ h => h) hL (Or.inl ⟨by rfl, ?_⟩) (fun _ => ⟨hb9.cell, e9⟩) (fun hL' => ?_)
          rotate_left
          · intro y hy; have hz := hy rfl; clear hy; obtain ⟨g1, g2⟩ := hz; go_simp; (try with_reducible rfl)
          clear hL; rename Shutb _ _ => hL
          (try simp only [Act.put, List.setIfInBounds_toArray, List.set_cons_zero, List.set_cons_succ])
          refine late_one (i := 10) (by kernel_rfl) hL (fun hL' => ?_)
          refine wpOp_step rfl (fun K hK0 => ?_)
          have hK : Shut _ := hK0
          clear hK0
          go_simp
          refine hK.out _ _ ⟨fun _ => ⟨hb9.cell, e9⟩, ?_⟩
          clear hK K; clear hL; rename Shutb _ _ => hL
          (try simp only [Act.put, List.setIfInBounds_toArray, List.set_cons_zero, List.set_cons_succ])
          refine late_one (i := 11) (by kernel_rfl) hL (fun hL' => ?_)
          refine wpOp_step rfl (fun K hK0 => ?_)
          have hK : Shut _ := hK0
          clear hK0
          go_simp
          refine hK.out _ _ ⟨fun _ => ⟨hb9.cell, e9⟩, ?_⟩
          clear hK K; clear hL; rename Shutb _ _ => hL
          (try simp only [Act.put, List.setIfInBounds_toArray, List.set_cons_zero, List.set_cons_succ])
          refine late_one (i := 12) (by kernel_rfl) hL (fun hL' => ?_)
          refine wpOp_step rfl (fun K hK0 => ?_)
          have hK : Shut _ := hK0
          clear hK0
          go_simp
          refine hK.out _ _ ⟨fun e => absurd (e : true = false) (by decide), ?_⟩
          clear hK K; clear hL; rename Shutb _ _ => hL
          (try simp only [Act.put, List.setIfInBounds_toArray, List.set_cons_zero, List.set_cons_succ])
          refine late_done (by kernel_rfl) ?_
          (try dsimp only [Exit.then])
          go_wp2
          go_roundw
          case rel => exact ⟨k + 1, some q, true, by omega, by go_num, rfl, rfl, HVQ.out.ext hE79, HNX.out, fun l h => by cases h; exact HOKQ.out, hEk9⟩
          case measure => simp [intOf]; omega
        | some z =>
          have HNX : Hid ((L.drop (k + 1)).foldl (R.better r) none = V) := by
            have h1 := HFZ.out
            have h2 : R.better r none q = none := by unfold R.better; dsimp only; rw [hsh]; rfl
            rw [h2] at h1; exact h1
          have e3 : dshortV (R.short r q) = #[.int .i64 (z.1 : Int), .int .i64 z.2, .bool true] := by rw [hsh]; rfl
          simp only [e3] at hsq
          have HSQ := Lib.hid hsq
          clear hsq hsh HFZ e3
          go_upto_region 8 with (fail)
          have hbd := hbs7.drew
          have e8 : w7.drew.cell? ⟨gL, oL + k, none⟩ = some (.slice aq q.length cq) := e7
          refine wp_region_late 12 (fun c y => c = false → ((∀ o, y.cell? ⟨w.heap.size, o, none⟩ = (reefV r (.slice a1 r.places.length c1) : Array Value)[o]?) ∧ y.cell? ⟨gL, oL + k, none⟩ = some (.slice aq q.length cq))) (by kernel_rfl) (fun hL => ?_)
          refine late_early (i := 0) (v := ?_) rfl (by kernel_rfl) (by kernel_rfl) (by kernel_rfl) (by decide) (by kernel_rfl) (fun _ _ _ h => h) hL (Or.inl ⟨by rfl, ?_⟩) (fun _ => ⟨hbd.cell, e8⟩) (fun hL' => ?_)
          rotate_left
          · intro y hy; have hz := hy rfl; clear hy; obtain ⟨g1, g2⟩ := hz; go_simp; (try with_reducible rfl)
          clear hL; rename Shutb _ _ => hL
          (try simp only [Act.put, List.setIfInBounds_toArray, List.set_cons_zero, List.set_cons_succ])
          refine late_early (i := 1) (v := ?_) rfl (by kernel_rfl) (by kernel_rfl) (by kernel_rfl) (by decide) (by kernel_rfl) (fun _ _ _ h => h) hL (Or.inl ⟨by rfl, ?_⟩) (fun _ => ⟨hbd.cell, e8⟩) (fun hL' => ?_)
          rotate_left
          · intro y hy; have hz := hy rfl; clear hy; obtain ⟨g1, g2⟩ := hz; go_simp; (try with_reducible rfl)
          clear hL; rename Shutb _ _ => hL
          (try simp only [Act.put, List.setIfInBounds_toArray, List.set_cons_zero, List.set_cons_succ])
          refine late_early (i := 2) (v := ?_) rfl (by kernel_rfl) (by kernel_rfl) (by kernel_rfl) (by decide) (by kernel_rfl) (fun _ _ _ h => h) hL (Or.inl ⟨by rfl, ?_⟩) (fun _ => ⟨hbd.cell, e8⟩) (fun hL' => ?_)
          rotate_left
          · intro y hy; have hz := hy rfl; clear hy; obtain ⟨g1, g2⟩ := hz; go_simp; (try with_reducible rfl)
          clear hL; rename Shutb _ _ => hL
          (try simp only [Act.put, List.setIfInBounds_toArray, List.set_cons_zero, List.set_cons_succ])
          refine late_early (i := 3) (v := ?_) rfl (by kernel_rfl) (by kernel_rfl) (by kernel_rfl) (by decide) (by kernel_rfl) (fun _ _ _ h => h) hL (Or.inl ⟨by rfl, ?_⟩) (fun _ => ⟨hbd.cell, e8⟩) (fun hL' => ?_)
          rotate_left
          · intro y hy; have hz := hy rfl; clear hy; obtain ⟨g1, g2⟩ := hz; go_simp; (try with_reducible rfl)
          clear hL; rename Shutb _ _ => hL
          (try simp only [Act.put, List.setIfInBounds_toArray, List.set_cons_zero, List.set_cons_succ])
          refine late_early (i := 4) (v := ?_) rfl (by kernel_rfl) (by kernel_rfl) (by kernel_rfl) (by decide) (by kernel_rfl) (fun _ _ _ h => h) hL (Or.inl ⟨by rfl, ?_⟩) (fun _ => ⟨hbd.cell, e8⟩) (fun hL' => ?_)
          rotate_left
          · intro y hy; have hz := hy rfl; clear hy; obtain ⟨g1, g2⟩ := hz; go_simp; (try with_reducible rfl)
          clear hL; rename Shutb _ _ => hL
          (try simp only [Act.put, List.setIfInBounds_toArray, List.set_cons_zero, List.set_cons_succ])
          refine late_one (i := 5) (by kernel_rfl) hL (fun hL' => ?_)
          refine wpOp_step rfl (fun K hK0 => ?_)
          have hK : Shut _ := hK0
          clear hK0
          go_simp
          go_wp2_with (first | (go_at_call 26; refine (HSQ.out _ (by (with_reducible (repeat (first | exact Ext.refl _ | assumption | apply Ext.alloc | apply Ext.drew | exact ext_plus _ _ | (apply Ext.setCell; rotate_left; (simp <;> omega)) | (apply Ext.trans; rotate_left; exact ext_plus _ _) | (apply Ext.trans; rotate_left; assumption)))))).mono ?_; rintro e w9 ⟨rfl, hE9⟩))
          have hb9 := hbd.ext hE9
          have e9 := (hE9.cells.1 _ _ (by exact q7)).trans e8
          have hEk9 := (hEk7.drew).trans hE9
          have hE79 := (hE7.drew).trans hE9
          refine hK.out _ _ ⟨fun _ => ⟨hb9.cell, e9⟩, ?_⟩
          clear hK K; clear hL; rename Shutb _ _ => hL
          (try simp only [Act.put, List.setIfInBounds_toArray, List.set_cons_zero, List.set_cons_succ])
          refine late_one (i := 6) (by kernel_rfl) hL (fun hL' => ?_)
          refine wpOp_step rfl (fun K hK0 => ?_)
          have hK : Shut _ := hK0
          clear hK0
          go_simp
          refine hK.out _ _ ⟨fun _ => ⟨hb9.cell, e9⟩, ?_⟩
          clear hK K; clear hL; rename Shutb _ _ => hL
          (try simp only [Act.put, List.setIfInBounds_toArray, List.set_cons_zero, List.set_cons_succ])
          refine late_early (i := 7) (v := ?_) rfl (by kernel_rfl) (by kernel_rfl) (by kernel_rfl) (by decide) (by kernel_rfl) (fun _ _ _ h => h) hL (Or.inl ⟨by rfl, ?_⟩) (fun _ => ⟨hb9.cell, e9⟩) (fun hL' => ?_)
          rotate_left
          · intro y hy; have hz := hy rfl; clear hy; obtain ⟨g1, g2⟩ := hz; go_simp; (try with_reducible rfl)
          clear hL; rename Shutb _ _ => hL
          (try simp only [Act.put, List.setIfInBounds_toArray, List.set_cons_zero, List.set_cons_succ])
          refine late_early (i := 8) (v := ?_) rfl (by kernel_rfl) (by kernel_rfl) (by kernel_rfl) (by decide) (by kernel_rfl) (fun _ _ _ h => h) hL (Or.inl ⟨by rfl, ?_⟩) (fun _ => ⟨hb9.cell, e9⟩) (fun hL' => ?_)
          rotate_left
          · intro y hy; have hz := hy rfl; clear hy; obtain ⟨g1, g2⟩ := hz; go_simp; (try with_reducible rfl)
          clear hL; rename Shutb _ _ => hL
          (try simp only [Act.put, List.setIfInBounds_toArray, List.set_cons_zero, List.set_cons_succ])
          refine late_early (i := 9) (v := ?_) rfl (by kernel_rfl) (by kernel_rfl) (by kernel_rfl) (by decide) (by kernel_rfl) (fun _ _ _ h => h) hL (Or.inl ⟨by rfl, ?_⟩) (fun _ => ⟨hb9.cell, e9⟩) (fun hL' => ?_)
          rotate_left
          · intro y hy; have hz := hy rfl; clear hy; obtain ⟨g1, g2⟩ := hz; go_simp; (try with_reducible rfl)
          clear hL; rename Shutb _ _ => hL
          (try simp only [Act.put, List.setIfInBounds_toArray, List.set_cons_zero, List.set_cons_succ])
          refine late_one (i := 10) (by kernel_rfl) hL (fun hL' => ?_)
          refine wpOp_step rfl (fun K hK0 => ?_)
          have hK : Shut _ := hK0
          clear hK0
          go_simp
          refine hK.out _ _ ⟨fun _ => ⟨hb9.cell, e9⟩, ?_⟩
          clear hK K; clear hL; rename Shutb _ _ => hL
          (try simp only [Act.put, List.setIfInBounds_toArray, List.set_cons_zero, List.set_cons_succ])
          refine late_one (i := 11) (by kernel_rfl) hL (fun hL' => ?_)
          refine wpOp_step rfl (fun K hK0 => ?_)
          have hK : Shut _ := hK0
          clear hK0
          go_simp
          refine hK.out _ _ ⟨fun _ => ⟨hb9.cell, e9⟩, ?_⟩
          clear hK K; clear hL; rename Shutb _ _ => hL
          (try simp only [Act.put, List.setIfInBounds_toArray, List.set_cons_zero, List.set_cons_succ])
          refine late_one (i := 12) (by kernel_rfl) hL (fun hL' => ?_)
          refine wpOp_step rfl (fun K hK0 => ?_)
          have hK : Shut _ := hK0
          clear hK0
          go_simp
          refine hK.out _ _ ⟨fun e => absurd (e : true = false) (by decide), ?_⟩
          clear hK K; clear hL; rename Shutb _ _ => hL
          (try simp only [Act.put, List.setIfInBounds_toArray, List.set_cons_zero, List.set_cons_succ])
          refine late_done (by kernel_rfl) ?_
          (try dsimp only [Exit.then])
          go_wp2
          go_roundw
          case rel => exact ⟨k + 1, none, _, by omega, by go_num, rfl, rfl, HVB.out.ext hE79, HNX.out, HOKB.out, hEk9⟩
          case measure => simp [intOf]; omega
      | some l =>
        obtain rfl : fb = true := hfb.symm
        clear hfb
        have hvb : Ints wr _ l := hvb
        clear HVB
        have HVB := Lib.hid hvb
        have HOK := Lib.hid (show R.OkL r q ∧ R.OkL r l from ⟨hokq, HOKB.out l rfl⟩)
        obtain ⟨al, cl, rfl, _⟩ := id hvb
        obtain ⟨X, hX⟩ : ∃ X, R.cost r l = X := ⟨_, rfl⟩
        obtain ⟨Y, hY⟩ : ∃ Y, R.cost r q = Y := ⟨_, rfl⟩
        clear hvb hokq
        by_cases hc : X ≤ Y
        · have HNX : Hid ((L.drop (k + 1)).foldl (R.better r) (some l) = V) := by
            have h1 := HFZ.out
            have h2 : R.better r (some l) q = some l := by unfold R.better; dsimp only; rw [hX, hY, if_pos hc]
            rw [h2] at h1; exact h1
          have HXX := Lib.hid hX
          have HYY := Lib.hid hY
          clear HFZ hX hY hsq
          go_upto_region 7 with (fail)
          refine wp_region_ext 13 (fun _ _ d _ _ h => by cases d <;> exact h) (by kernel_rfl) (by kernel_rfl) (by kernel_rfl) (by kernel_rfl) ?_
          simp only [List.take_succ_cons, List.take_zero, List.drop_succ_cons, List.drop_zero]
          repeat (any_goals (first | go_big_quiet_step ((go_at_call 32; exact ext_quiet (HCO.out _ _ _ _ (by (with_reducible (repeat (first | exact Ext.refl _ | assumption | apply Ext.alloc | apply Ext.drew | exact ext_plus _ _ | (apply Ext.setCell; rotate_left; (simp <;> omega)) | (apply Ext.trans; rotate_left; exact ext_plus _ _) | (apply Ext.trans; rotate_left; assumption))))) (by first | with_reducible exact HVQ.out.ext (by (with_reducible (repeat (first | exact Ext.refl _ | assumption | apply Ext.alloc | apply Ext.drew | exact ext_plus _ _ | (apply Ext.setCell; rotate_left; (simp <;> omega)) | (apply Ext.trans; rotate_left; exact ext_plus _ _) | (apply Ext.trans; rotate_left; assumption))))) | with_reducible exact HVB.out.ext (by (with_reducible (repeat (first | exact Ext.refl _ | assumption | apply Ext.alloc | apply Ext.drew | exact ext_plus _ _ | (apply Ext.setCell; rotate_left; (simp <;> omega)) | (apply Ext.trans; rotate_left; exact ext_plus _ _) | (apply Ext.trans; rotate_left; assumption)))))) (by with_reducible first | exact HOK.out.1 | exact HOK.out.2) (by with_reducible first | exact HYY.out | exact HXX.out)))) | quiet_step ((go_at_call 32; exact ext_quiet (HCO.out _ _ _ _ (by (with_reducible (repeat (first | exact Ext.refl _ | assumption | apply Ext.alloc | apply Ext.drew | exact ext_plus _ _ | (apply Ext.setCell; rotate_left; (simp <;> omega)) | (apply Ext.trans; rotate_left; exact ext_plus _ _) | (apply Ext.trans; rotate_left; assumption))))) (by first | with_reducible exact HVQ.out.ext (by (with_reducible (repeat (first | exact Ext.refl _ | assumption | apply Ext.alloc | apply Ext.drew | exact ext_plus _ _ | (apply Ext.setCell; rotate_left; (simp <;> omega)) | (apply Ext.trans; rotate_left; exact ext_plus _ _) | (apply Ext.trans; rotate_left; assumption))))) | with_reducible exact HVB.out.ext (by (with_reducible (repeat (first | exact Ext.refl _ | assumption | apply Ext.alloc | apply Ext.drew | exact ext_plus _ _ | (apply Ext.setCell; rotate_left; (simp <;> omega)) | (apply Ext.trans; rotate_left; exact ext_plus _ _) | (apply Ext.trans; rotate_left; assumption)))))) (by with_reducible first | exact HOK.out.1 | exact HOK.out.2) (by with_reducible first | exact HYY.out | exact HXX.out))))))
          all_goals (refine wpQuiet_nil ?_; intro w7 hE7)
          unfold wpList
          have e7 := (hE7.cells.1 _ _ gLw).trans e6
          have q7 := Nat.lt_of_lt_of_le gLw hE7.size
          have hbs7 := hbs.ext hE7
          have hcs7 := hbs7.cell
          have hls7 := hbs7.lt
          have hEk7 := hEk.trans hE7
          go_wp2
          go_roundw
          case rel => exact ⟨k + 1, some l, _, by omega, by go_num, rfl, rfl, HVB.out.ext hE7, HNX.out, HOKB.out, hEk7⟩
          case measure => simp [intOf]; omega
        · have HBE : Hid (¬ X ≤ Y) := hc
          have hcc : ¬ R.cost r l ≤ R.cost r q := by rw [hX, hY]; exact hc
          have HCC := Lib.hid hcc
          have HXX := Lib.hid hX
          have HYY := Lib.hid hY
          clear hX hY hcc
          go_upto_region 7 with (fail)
          refine wp_region_ext 13 (fun _ _ d _ _ h => by cases d <;> exact h) (by kernel_rfl) (by kernel_rfl) (by kernel_rfl) (by kernel_rfl) ?_
          simp only [List.take_succ_cons, List.take_zero, List.drop_succ_cons, List.drop_zero]
          repeat (any_goals (first | go_big_quiet_step ((go_at_call 32; exact ext_quiet (HCO.out _ _ _ _ (by (with_reducible (repeat (first | exact Ext.refl _ | assumption | apply Ext.alloc | apply Ext.drew | exact ext_plus _ _ | (apply Ext.setCell; rotate_left; (simp <;> omega)) | (apply Ext.trans; rotate_left; exact ext_plus _ _) | (apply Ext.trans; rotate_left; assumption))))) (by first | with_reducible exact HVQ.out.ext (by (with_reducible (repeat (first | exact Ext.refl _ | assumption | apply Ext.alloc | apply Ext.drew | exact ext_plus _ _ | (apply Ext.setCell; rotate_left; (simp <;> omega)) | (apply Ext.trans; rotate_left; exact ext_plus _ _) | (apply Ext.trans; rotate_left; assumption))))) | with_reducible exact HVB.out.ext (by (with_reducible (repeat (first | exact Ext.refl _ | assumption | apply Ext.alloc | apply Ext.drew | exact ext_plus _ _ | (apply Ext.setCell; rotate_left; (simp <;> omega)) | (apply Ext.trans; rotate_left; exact ext_plus _ _) | (apply Ext.trans; rotate_left; assumption)))))) (by with_reducible first | exact HOK.out.1 | exact HOK.out.2) (by with_reducible first | exact HYY.out | exact HXX.out)))) | quiet_step ((go_at_call 32; exact ext_quiet (HCO.out _ _ _ _ (by (with_reducible (repeat (first | exact Ext.refl _ | assumption | apply Ext.alloc | apply Ext.drew | exact ext_plus _ _ | (apply Ext.setCell; rotate_left; (simp <;> omega)) | (apply Ext.trans; rotate_left; exact ext_plus _ _) | (apply Ext.trans; rotate_left; assumption))))) (by first | with_reducible exact HVQ.out.ext (by (with_reducible (repeat (first | exact Ext.refl _ | assumption | apply Ext.alloc | apply Ext.drew | exact ext_plus _ _ | (apply Ext.setCell; rotate_left; (simp <;> omega)) | (apply Ext.trans; rotate_left; exact ext_plus _ _) | (apply Ext.trans; rotate_left; assumption))))) | with_reducible exact HVB.out.ext (by (with_reducible (repeat (first | exact Ext.refl _ | assumption | apply Ext.alloc | apply Ext.drew | exact ext_plus _ _ | (apply Ext.setCell; rotate_left; (simp <;> omega)) | (apply Ext.trans; rotate_left; exact ext_plus _ _) | (apply Ext.trans; rotate_left; assumption)))))) (by with_reducible first | exact HOK.out.1 | exact HOK.out.2) (by with_reducible first | exact HYY.out | exact HXX.out))))))
          all_goals (refine wpQuiet_nil ?_; intro w7 hE7)
          unfold wpList
          have e7 := (hE7.cells.1 _ _ gLw).trans e6
          have q7 := Nat.lt_of_lt_of_le gLw hE7.size
          have hbs7 := hbs.ext hE7
          have hcs7 := hbs7.cell
          have hls7 := hbs7.lt
          have hEk7 := hEk.trans hE7
          have hsq7 := fun w' (hx : Ext w7 w') => hsq w' (hE7.trans hx)
          clear hsq
          have hsq := hsq7
          clear hsq7 e6 gLw hcs hls
          cases hsh : R.short r q with
          | none =>
            have HNX : Hid ((L.drop (k + 1)).foldl (R.better r) (some q) = V) := by
              have h1 := HFZ.out
              have h2 : R.better r (some l) q = some q := by unfold R.better; dsimp only; rw [if_neg HCC.out, hsh]; rfl
              rw [h2] at h1; exact h1
            have e3 : dshortV (R.short r q) = #[.int .i64 0, .int .i64 0, .bool false] := by rw [hsh]; rfl
            simp only [e3] at hsq
            have HSQ := Lib.hid hsq
            clear hsq hsh HFZ e3
            go_upto_region 8 with (fail)
            have hbd := hbs7.drew
            have e8 : w7.drew.cell? ⟨gL, oL + k, none⟩ = some (.slice aq q.length cq) := e7
            refine wp_region_late 12 (fun c y => c = false → ((∀ o, y.cell? ⟨w.heap.size, o, none⟩ = (reefV r (.slice a1 r.places.length c1) : Array Value)[o]?) ∧ y.cell? ⟨gL, oL + k, none⟩ = some (.slice aq q.length cq))) (by kernel_rfl) (fun hL => ?_)
            refine late_early (i := 0) (v := ?_) rfl (by kernel_rfl) (by kernel_rfl) (by kernel_rfl) (by decide) (by kernel_rfl) (fun _ _ _ h => h) hL (Or.inl ⟨by rfl, ?_⟩) (fun _ => ⟨hbd.cell, e8⟩) (fun hL' => ?_)
            rotate_left
            · intro y hy; have hz := hy rfl; clear hy; obtain ⟨g1, g2⟩ := hz; go_simp; (try with_reducible rfl)
            clear hL; rename Shutb _ _ => hL
            (try simp only [Act.put, List.setIfInBounds_toArray, List.set_cons_zero, List.set_cons_succ])
            refine late_early (i := 1) (v := ?_) rfl (by kernel_rfl) (by kernel_rfl) (by kernel_rfl) (by decide) (by kernel_rfl) (fun _ _ _ h => h) hL (Or.inl ⟨by rfl, ?_⟩) (fun _ => ⟨hbd.cell, e8⟩) (fun hL' => ?_)
            rotate_left
            · intro y hy; have hz := hy rfl; clear hy; obtain ⟨g1, g2⟩ := hz; go_simp; (try with_reducible rfl)
            clear hL; rename Shutb _ _ => hL
            (try simp only [Act.put, List.setIfInBounds_toArray, List.set_cons_zero, List.set_cons_succ])
            refine late_early (i := 2) (v := ?_) rfl (by kernel_rfl) (by kernel_rfl) (by kernel_rfl) (by decide) (by kernel_rfl) (fun _ _ _ h => h) hL (Or.inl ⟨by rfl, ?_⟩) (fun _ => ⟨hbd.cell, e8⟩) (fun hL' => ?_)
            rotate_left
            · intro y hy; have hz := hy rfl; clear hy; obtain ⟨g1, g2⟩ := hz; go_simp; (try with_reducible rfl)
            clear hL; rename Shutb _ _ => hL
            (try simp only [Act.put, List.setIfInBounds_toArray, List.set_cons_zero, List.set_cons_succ])
            refine late_early (i := 3) (v := ?_) rfl (by kernel_rfl) (by kernel_rfl) (by kernel_rfl) (by decide) (by kernel_rfl) (fun _ _ _ h => h) hL (Or.inl ⟨by rfl, ?_⟩) (fun _ => ⟨hbd.cell, e8⟩) (fun hL' => ?_)
            rotate_left
            · intro y hy; have hz := hy rfl; clear hy; obtain ⟨g1, g2⟩ := hz; go_simp; (try with_reducible rfl)
            clear hL; rename Shutb _ _ => hL
            (try simp only [Act.put, List.setIfInBounds_toArray, List.set_cons_zero, List.set_cons_succ])
            refine late_early (i := 4) (v := ?_) rfl (by kernel_rfl) (by kernel_rfl) (by kernel_rfl) (by decide) (by kernel_rfl) (fun _ _ _ h => h) hL (Or.inl ⟨by rfl, ?_⟩) (fun _ => ⟨hbd.cell, e8⟩) (fun hL' => ?_)
            rotate_left
            · intro y hy; have hz := hy rfl; clear hy; obtain ⟨g1, g2⟩ := hz; go_simp; (try with_reducible rfl)
            clear hL; rename Shutb _ _ => hL
            (try simp only [Act.put, List.setIfInBounds_toArray, List.set_cons_zero, List.set_cons_succ])
            refine late_one (i := 5) (by kernel_rfl) hL (fun hL' => ?_)
            refine wpOp_step rfl (fun K hK0 => ?_)
            have hK : Shut _ := hK0
            clear hK0
            go_simp
            go_wp2_with (first | (go_at_call 26; refine (HSQ.out _ (by (with_reducible (repeat (first | exact Ext.refl _ | assumption | apply Ext.alloc | apply Ext.drew | exact ext_plus _ _ | (apply Ext.setCell; rotate_left; (simp <;> omega)) | (apply Ext.trans; rotate_left; exact ext_plus _ _) | (apply Ext.trans; rotate_left; assumption)))))).mono ?_; rintro e w9 ⟨rfl, hE9⟩))
            have hb9 := hbd.ext hE9
            have e9 := (hE9.cells.1 _ _ (by exact q7)).trans e8
            have hEk9 := (hEk7.drew).trans hE9
            have hE79 := (hE7.drew).trans hE9
            refine hK.out _ _ ⟨fun _ => ⟨hb9.cell, e9⟩, ?_⟩
            clear hK K; clear hL; rename Shutb _ _ => hL
            (try simp only [Act.put, List.setIfInBounds_toArray, List.set_cons_zero, List.set_cons_succ])
            refine late_one (i := 6) (by kernel_rfl) hL (fun hL' => ?_)
            refine wpOp_step rfl (fun K hK0 => ?_)
            have hK : Shut _ := hK0
            clear hK0
            go_simp
            refine hK.out _ _ ⟨fun _ => ⟨hb9.cell, e9⟩, ?_⟩
            clear hK K; clear hL; rename Shutb _ _ => hL
            (try simp only [Act.put, List.setIfInBounds_toArray, List.set_cons_zero, List.set_cons_succ])
            refine late_early (i := 7) (v := ?_) rfl (by kernel_rfl) (by kernel_rfl) (by kernel_rfl) (by decide) (by kernel_rfl) (fun _ _ _ h => h) hL (Or.inl ⟨by rfl, ?_⟩) (fun _ => ⟨hb9.cell, e9⟩) (fun hL' => ?_)
            rotate_left
            · intro y hy; have hz := hy rfl; clear hy; obtain ⟨g1, g2⟩ := hz; go_simp; (try with_reducible rfl)
            clear hL; rename Shutb _ _ => hL
            (try simp only [Act.put, List.setIfInBounds_toArray, List.set_cons_zero, List.set_cons_succ])
            refine late_early (i := 8) (v := ?_) rfl (by kernel_rfl) (by kernel_rfl) (by kernel_rfl) (by decide) (by kernel_rfl) (fun _ _ _ h => h) hL (Or.inl ⟨by rfl, ?_⟩) (fun _ => ⟨hb9.cell, e9⟩) (fun hL' => ?_)
            rotate_left
            · intro y hy; have hz := hy rfl; clear hy; obtain ⟨g1, g2⟩ := hz; go_simp; (try with_reducible rfl)
            clear hL; rename Shutb _ _ => hL
            (try simp only [Act.put, List.setIfInBounds_toArray, List.set_cons_zero, List.set_cons_succ])
            refine late_early (i := 9) (v := ?_) rfl (by kernel_rfl) (by kernel_rfl) (by kernel_rfl) (by decide) (by kernel_rfl) (fun _ _ _ h => h) hL (Or.inl ⟨by rfl, ?_⟩) (fun _ => ⟨hb9.cell, e9⟩) (fun hL' => ?_)
            rotate_left
            · intro y hy; have hz := hy rfl; clear hy; obtain ⟨g1, g2⟩ := hz; go_simp; (try with_reducible rfl)
            clear hL; rename Shutb _ _ => hL
            (try simp only [Act.put, List.setIfInBounds_toArray, List.set_cons_zero, List.set_cons_succ])
            refine late_one (i := 10) (by kernel_rfl) hL (fun hL' => ?_)
            refine wpOp_step rfl (fun K hK0 => ?_)
            have hK : Shut _ := hK0
            clear hK0
            go_simp
            refine hK.out _ _ ⟨fun _ => ⟨hb9.cell, e9⟩, ?_⟩
            clear hK K; clear hL; rename Shutb _ _ => hL
            (try simp only [Act.put, List.setIfInBounds_toArray, List.set_cons_zero, List.set_cons_succ])
            refine late_one (i := 11) (by kernel_rfl) hL (fun hL' => ?_)
            refine wpOp_step rfl (fun K hK0 => ?_)
            have hK : Shut _ := hK0
            clear hK0
            go_simp
            refine hK.out _ _ ⟨fun _ => ⟨hb9.cell, e9⟩, ?_⟩
            clear hK K; clear hL; rename Shutb _ _ => hL
            (try simp only [Act.put, List.setIfInBounds_toArray, List.set_cons_zero, List.set_cons_succ])
            refine late_one (i := 12) (by kernel_rfl) hL (fun hL' => ?_)
            refine wpOp_step rfl (fun K hK0 => ?_)
            have hK : Shut _ := hK0
            clear hK0
            go_simp
            refine hK.out _ _ ⟨fun e => absurd (e : true = false) (by decide), ?_⟩
            clear hK K; clear hL; rename Shutb _ _ => hL
            (try simp only [Act.put, List.setIfInBounds_toArray, List.set_cons_zero, List.set_cons_succ])
            refine late_done (by kernel_rfl) ?_
            (try dsimp only [Exit.then])
            go_wp2
            go_roundw
            case rel => exact ⟨k + 1, some q, true, by omega, by go_num, rfl, rfl, HVQ.out.ext hE79, HNX.out, fun l h => by cases h; exact HOKQ.out, hEk9⟩
            case measure => simp [intOf]; omega
          | some z =>
            have HNX : Hid ((L.drop (k + 1)).foldl (R.better r) (some l) = V) := by
              have h1 := HFZ.out
              have h2 : R.better r (some l) q = (some l) := by unfold R.better; dsimp only; rw [if_neg HCC.out, hsh]; rfl
              rw [h2] at h1; exact h1
            have e3 : dshortV (R.short r q) = #[.int .i64 (z.1 : Int), .int .i64 z.2, .bool true] := by rw [hsh]; rfl
            simp only [e3] at hsq
            have HSQ := Lib.hid hsq
            clear hsq hsh HFZ e3
            go_upto_region 8 with (fail)
            have hbd := hbs7.drew
            have e8 : w7.drew.cell? ⟨gL, oL + k, none⟩ = some (.slice aq q.length cq) := e7
            refine wp_region_late 12 (fun c y => c = false → ((∀ o, y.cell? ⟨w.heap.size, o, none⟩ = (reefV r (.slice a1 r.places.length c1) : Array Value)[o]?) ∧ y.cell? ⟨gL, oL + k, none⟩ = some (.slice aq q.length cq))) (by kernel_rfl) (fun hL => ?_)
            refine late_early (i := 0) (v := ?_) rfl (by kernel_rfl) (by kernel_rfl) (by kernel_rfl) (by decide) (by kernel_rfl) (fun _ _ _ h => h) hL (Or.inl ⟨by rfl, ?_⟩) (fun _ => ⟨hbd.cell, e8⟩) (fun hL' => ?_)
            rotate_left
            · intro y hy; have hz := hy rfl; clear hy; obtain ⟨g1, g2⟩ := hz; go_simp; (try with_reducible rfl)
            clear hL; rename Shutb _ _ => hL
            (try simp only [Act.put, List.setIfInBounds_toArray, List.set_cons_zero, List.set_cons_succ])
            refine late_early (i := 1) (v := ?_) rfl (by kernel_rfl) (by kernel_rfl) (by kernel_rfl) (by decide) (by kernel_rfl) (fun _ _ _ h => h) hL (Or.inl ⟨by rfl, ?_⟩) (fun _ => ⟨hbd.cell, e8⟩) (fun hL' => ?_)
            rotate_left
            · intro y hy; have hz := hy rfl; clear hy; obtain ⟨g1, g2⟩ := hz; go_simp; (try with_reducible rfl)
            clear hL; rename Shutb _ _ => hL
            (try simp only [Act.put, List.setIfInBounds_toArray, List.set_cons_zero, List.set_cons_succ])
            refine late_early (i := 2) (v := ?_) rfl (by kernel_rfl) (by kernel_rfl) (by kernel_rfl) (by decide) (by kernel_rfl) (fun _ _ _ h => h) hL (Or.inl ⟨by rfl, ?_⟩) (fun _ => ⟨hbd.cell, e8⟩) (fun hL' => ?_)
            rotate_left
            · intro y hy; have hz := hy rfl; clear hy; obtain ⟨g1, g2⟩ := hz; go_simp; (try with_reducible rfl)
            clear hL; rename Shutb _ _ => hL
            (try simp only [Act.put, List.setIfInBounds_toArray, List.set_cons_zero, List.set_cons_succ])
            refine late_early (i := 3) (v := ?_) rfl (by kernel_rfl) (by kernel_rfl) (by kernel_rfl) (by decide) (by kernel_rfl) (fun _ _ _ h => h) hL (Or.inl ⟨by rfl, ?_⟩) (fun _ => ⟨hbd.cell, e8⟩) (fun hL' => ?_)
            rotate_left
            · intro y hy; have hz := hy rfl; clear hy; obtain ⟨g1, g2⟩ := hz; go_simp; (try with_reducible rfl)
            clear hL; rename Shutb _ _ => hL
            (try simp only [Act.put, List.setIfInBounds_toArray, List.set_cons_zero, List.set_cons_succ])
            refine late_early (i := 4) (v := ?_) rfl (by kernel_rfl) (by kernel_rfl) (by kernel_rfl) (by decide) (by kernel_rfl) (fun _ _ _ h => h) hL (Or.inl ⟨by rfl, ?_⟩) (fun _ => ⟨hbd.cell, e8⟩) (fun hL' => ?_)
            rotate_left
            · intro y hy; have hz := hy rfl; clear hy; obtain ⟨g1, g2⟩ := hz; go_simp; (try with_reducible rfl)
            clear hL; rename Shutb _ _ => hL
            (try simp only [Act.put, List.setIfInBounds_toArray, List.set_cons_zero, List.set_cons_succ])
            refine late_one (i := 5) (by kernel_rfl) hL (fun hL' => ?_)
            refine wpOp_step rfl (fun K hK0 => ?_)
            have hK : Shut _ := hK0
            clear hK0
            go_simp
            go_wp2_with (first | (go_at_call 26; refine (HSQ.out _ (by (with_reducible (repeat (first | exact Ext.refl _ | assumption | apply Ext.alloc | apply Ext.drew | exact ext_plus _ _ | (apply Ext.setCell; rotate_left; (simp <;> omega)) | (apply Ext.trans; rotate_left; exact ext_plus _ _) | (apply Ext.trans; rotate_left; assumption)))))).mono ?_; rintro e w9 ⟨rfl, hE9⟩))
            have hb9 := hbd.ext hE9
            have e9 := (hE9.cells.1 _ _ (by exact q7)).trans e8
            have hEk9 := (hEk7.drew).trans hE9
            have hE79 := (hE7.drew).trans hE9
            refine hK.out _ _ ⟨fun _ => ⟨hb9.cell, e9⟩, ?_⟩
            clear hK K; clear hL; rename Shutb _ _ => hL
            (try simp only [Act.put, List.setIfInBounds_toArray, List.set_cons_zero, List.set_cons_succ])
            refine late_one (i := 6) (by kernel_rfl) hL (fun hL' => ?_)
            refine wpOp_step rfl (fun K hK0 => ?_)
            have hK : Shut _ := hK0
            clear hK0
            go_simp
            refine hK.out _ _ ⟨fun _ => ⟨hb9.cell, e9⟩, ?_⟩
            clear hK K; clear hL; rename Shutb _ _ => hL
            (try simp only [Act.put, List.setIfInBounds_toArray, List.set_cons_zero, List.set_cons_succ])
            refine late_early (i := 7) (v := ?_) rfl (by kernel_rfl) (by kernel_rfl) (by kernel_rfl) (by decide) (by kernel_rfl) (fun _ _ _ h => h) hL (Or.inl ⟨by rfl, ?_⟩) (fun _ => ⟨hb9.cell, e9⟩) (fun hL' => ?_)
            rotate_left
            · intro y hy; have hz := hy rfl; clear hy; obtain ⟨g1, g2⟩ := hz; go_simp; (try with_reducible rfl)
            clear hL; rename Shutb _ _ => hL
            (try simp only [Act.put, List.setIfInBounds_toArray, List.set_cons_zero, List.set_cons_succ])
            refine late_early (i := 8) (v := ?_) rfl (by kernel_rfl) (by kernel_rfl) (by kernel_rfl) (by decide) (by kernel_rfl) (fun _ _ _ h => h) hL (Or.inl ⟨by rfl, ?_⟩) (fun _ => ⟨hb9.cell, e9⟩) (fun hL' => ?_)
            rotate_left
            · intro y hy; have hz := hy rfl; clear hy; obtain ⟨g1, g2⟩ := hz; go_simp; (try with_reducible rfl)
            clear hL; rename Shutb _ _ => hL
            (try simp only [Act.put, List.setIfInBounds_toArray, List.set_cons_zero, List.set_cons_succ])
            refine late_early (i := 9) (v := ?_) rfl (by kernel_rfl) (by kernel_rfl) (by kernel_rfl) (by decide) (by kernel_rfl) (fun _ _ _ h => h) hL (Or.inl ⟨by rfl, ?_⟩) (fun _ => ⟨hb9.cell, e9⟩) (fun hL' => ?_)
            rotate_left
            · intro y hy; have hz := hy rfl; clear hy; obtain ⟨g1, g2⟩ := hz; go_simp; (try with_reducible rfl)
            clear hL; rename Shutb _ _ => hL
            (try simp only [Act.put, List.setIfInBounds_toArray, List.set_cons_zero, List.set_cons_succ])
            refine late_one (i := 10) (by kernel_rfl) hL (fun hL' => ?_)
            refine wpOp_step rfl (fun K hK0 => ?_)
            have hK : Shut _ := hK0
            clear hK0
            go_simp
            refine hK.out _ _ ⟨fun _ => ⟨hb9.cell, e9⟩, ?_⟩
            clear hK K; clear hL; rename Shutb _ _ => hL
            (try simp only [Act.put, List.setIfInBounds_toArray, List.set_cons_zero, List.set_cons_succ])
            refine late_one (i := 11) (by kernel_rfl) hL (fun hL' => ?_)
            refine wpOp_step rfl (fun K hK0 => ?_)
            have hK : Shut _ := hK0
            clear hK0
            go_simp
            refine hK.out _ _ ⟨fun _ => ⟨hb9.cell, e9⟩, ?_⟩
            clear hK K; clear hL; rename Shutb _ _ => hL
            (try simp only [Act.put, List.setIfInBounds_toArray, List.set_cons_zero, List.set_cons_succ])
            refine late_one (i := 12) (by kernel_rfl) hL (fun hL' => ?_)
            refine wpOp_step rfl (fun K hK0 => ?_)
            have hK : Shut _ := hK0
            clear hK0
            go_simp
            refine hK.out _ _ ⟨fun e => absurd (e : true = false) (by decide), ?_⟩
            clear hK K; clear hL; rename Shutb _ _ => hL
            (try simp only [Act.put, List.setIfInBounds_toArray, List.set_cons_zero, List.set_cons_succ])
            refine late_done (by kernel_rfl) ?_
            (try dsimp only [Exit.then])
            go_wp2
            go_roundw
            case rel => exact ⟨k + 1, (some l), _, by omega, by go_num, rfl, rfl, HVB.out.ext hE79, HNX.out, HOKB.out, hEk9⟩
            case measure => simp [intOf]; omega
    · obtain rfl : k = L.length := by omega
      rw [List.drop_length, List.foldl_nil] at hfz
      subst hfz
      subst hfb
      have HVB := Lib.hid hvb
      clear hvb
      obtain ⟨ab, cb, e, _⟩ := HVB.out
      subst e
      go_wp2
      exact bodyPost_ret (v := .tuple #[.slice ab (b.getD []).length cb, .bool b.isSome]) (by simp [results, Try.results30, go_sem]) rfl ⟨_, rfl, HVB.out, hEw2.trans hEk⟩
set_option maxRecDepth 100000 in
set_option maxHeartbeats 16000000 in
theorem reefBests_law (r : R.Reef) (vr : Value) (w : World) (hP : Places w vr r.places) :
    Calls Try.prog 7 #[.agg (reefV r vr)] w fun e w' => e = .returned (.bool true) ∧ Ext w w' := by
  have hP' := hP
  obtain ⟨a1, c1, rfl, hPx⟩ := hP'
  have HPX := Lib.hid hPx
  clear hPx
  obtain ⟨w1, hw1⟩ : ∃ w1, (w.alloc (.cells (reefV r (.slice a1 r.places.length c1)) 24)) = w1 := ⟨_, rfl⟩
  have hE1 : Ext w w1 := by rw [← hw1]; (with_reducible (repeat (first | exact Ext.refl _ | assumption | apply Ext.alloc | apply Ext.drew | exact ext_plus _ _ | (apply Ext.setCell; rotate_left; (simp <;> omega)) | (apply Ext.trans; rotate_left; exact ext_plus _ _) | (apply Ext.trans; rotate_left; assumption))))
  have hb0 : Blk w1 (w.heap.size) (reefV r (.slice a1 r.places.length c1)) 24 := by rw [← hw1]; exact Blk.new' rfl _ _
  have hbx := fun y (hy : Ext w1 y) => (⟨(hb0.ext hy).cell, (hb0.ext hy).lt⟩ : (∀ o, y.cell? ⟨w.heap.size, o, none⟩ = _) ∧ w.heap.size < y.heap.size)
  have HBX := Lib.hid hbx
  have HW1 := Lib.hid hw1
  clear hw1 hb0 hbx
  have hs := fun w' (hx : Ext w w') => short_any r _ w' (hP.ext hx)
  by_cases hsh : shortR r = true
  case neg =>
    have hsf : shortR r = false := by simpa using hsh
    rw [hsf] at hs
    have HS := Lib.hid hs
    clear hs hsf hsh
    go_enter Try.func7, Try.ntmps7
    go_upto_region 1 with (fail)
    rw [HW1.out]
    obtain ⟨k0, l0⟩ := HBX.out w1 (Ext.refl _)
    go_wp2_with (first | (go_at_call 15; refine (HS.out _ (by (with_reducible (repeat (first | exact Ext.refl _ | assumption | apply Ext.alloc | apply Ext.drew | exact ext_plus _ _ | (apply Ext.setCell; rotate_left; (simp <;> omega)) | (apply Ext.trans; rotate_left; exact ext_plus _ _) | (apply Ext.trans; rotate_left; assumption)))))).mono ?_; rintro e w2 ⟨rfl, hb2⟩; (try clear k0 l0); obtain ⟨k0, l0⟩ := HBX.out w2 (by (with_reducible (repeat (first | exact Ext.refl _ | assumption | apply Ext.alloc | apply Ext.drew | exact ext_plus _ _ | (apply Ext.setCell; rotate_left; (simp <;> omega)) | (apply Ext.trans; rotate_left; exact ext_plus _ _) | (apply Ext.trans; rotate_left; assumption)))))) | (go_at_call 17; refine (known_any _).mono ?_; rintro e wk ⟨rfl, hbk⟩))
    all_goals
      go_ret
      exact ⟨rfl, by (with_reducible (repeat (first | exact Ext.refl _ | assumption | apply Ext.alloc | apply Ext.drew | exact ext_plus _ _ | (apply Ext.setCell; rotate_left; (simp <;> omega)) | (apply Ext.trans; rotate_left; exact ext_plus _ _) | (apply Ext.trans; rotate_left; assumption))))⟩
  case pos =>
  rw [hsh] at hs
  have HS := Lib.hid hs
  clear hs
  have hn8 : r.places.length ≤ 8 := by simpa [shortR] using hsh
  have hrf := fun w' (hx : Ext w w') => dreef_any r _ w' (hP.ext hx) (by omega)
  have hbe := fun w' (hx : Ext w w') => bestQ_any r _ w' (hP.ext hx) (by omega)
  cases hR : R.reefB r with
  | false =>
    rw [hR] at hrf
    have hbo : bestOf r = ([], 0, 2) := by unfold bestOf; rw [hR]; rfl
    rw [hbo] at hbe
    have hbe2 : ∀ w', Ext w w' → Calls Try.prog 29 #[.agg (reefV r (.slice a1 r.places.length c1))] w' fun x w2 => ∃ v, x = .returned (.tuple #[v, .int .i64 0, .int .i64 2]) ∧ Ints w2 v [] ∧ Ext w' w2 := hbe
    have HBE := Lib.hid hbe2
    have HRF := Lib.hid hrf
    clear hbe hbe2 hrf hR hsh hbo
    go_enter Try.func7, Try.ntmps7
    go_upto_region 1 with (fail)
    rw [HW1.out]
    obtain ⟨k0, l0⟩ := HBX.out w1 (Ext.refl _)
    go_wp2_with (first | (go_at_call 15; refine (HS.out _ (by (with_reducible (repeat (first | exact Ext.refl _ | assumption | apply Ext.alloc | apply Ext.drew | exact ext_plus _ _ | (apply Ext.setCell; rotate_left; (simp <;> omega)) | (apply Ext.trans; rotate_left; exact ext_plus _ _) | (apply Ext.trans; rotate_left; assumption)))))).mono ?_; rintro e w2 ⟨rfl, hb2⟩; (try clear k0 l0); obtain ⟨k0, l0⟩ := HBX.out w2 (by (with_reducible (repeat (first | exact Ext.refl _ | assumption | apply Ext.alloc | apply Ext.drew | exact ext_plus _ _ | (apply Ext.setCell; rotate_left; (simp <;> omega)) | (apply Ext.trans; rotate_left; exact ext_plus _ _) | (apply Ext.trans; rotate_left; assumption)))))) | (go_at_call 28; refine (HRF.out _ (by (with_reducible (repeat (first | exact Ext.refl _ | assumption | apply Ext.alloc | apply Ext.drew | exact ext_plus _ _ | (apply Ext.setCell; rotate_left; (simp <;> omega)) | (apply Ext.trans; rotate_left; exact ext_plus _ _) | (apply Ext.trans; rotate_left; assumption)))))).mono ?_; rintro e w3 ⟨rfl, hb3⟩; (try clear k0 l0); obtain ⟨k0, l0⟩ := HBX.out w3 (by (with_reducible (repeat (first | exact Ext.refl _ | assumption | apply Ext.alloc | apply Ext.drew | exact ext_plus _ _ | (apply Ext.setCell; rotate_left; (simp <;> omega)) | (apply Ext.trans; rotate_left; exact ext_plus _ _) | (apply Ext.trans; rotate_left; assumption)))))) | (go_at_call 29; refine (HBE.out _ (by (with_reducible (repeat (first | exact Ext.refl _ | assumption | apply Ext.alloc | apply Ext.drew | exact ext_plus _ _ | (apply Ext.setCell; rotate_left; (simp <;> omega)) | (apply Ext.trans; rotate_left; exact ext_plus _ _) | (apply Ext.trans; rotate_left; assumption)))))).mono ?_; rintro e w4 ⟨vb, rfl, hvb, hb4⟩; obtain ⟨ab, cb, rfl, _⟩ := id hvb; have HVB := Lib.hid hvb; clear hvb; (try clear k0 l0); obtain ⟨k0, l0⟩ := HBX.out w4 (by (with_reducible (repeat (first | exact Ext.refl _ | assumption | apply Ext.alloc | apply Ext.drew | exact ext_plus _ _ | (apply Ext.setCell; rotate_left; (simp <;> omega)) | (apply Ext.trans; rotate_left; exact ext_plus _ _) | (apply Ext.trans; rotate_left; assumption)))))) | (go_at_call 17; refine (known_any _).mono ?_; rintro e wk ⟨rfl, hbk⟩))
    all_goals
      go_ret
      exact ⟨rfl, by (with_reducible (repeat (first | exact Ext.refl _ | assumption | apply Ext.alloc | apply Ext.drew | exact ext_plus _ _ | (apply Ext.setCell; rotate_left; (simp <;> omega)) | (apply Ext.trans; rotate_left; exact ext_plus _ _) | (apply Ext.trans; rotate_left; assumption))))⟩
  | true =>
  rw [hR] at hrf
  have O := R.okR_of hR
  have hbo : bestOf r = bestV r (R.best r) := by unfold bestOf; rw [hR]; rfl
  rw [hbo] at hbe
  obtain ⟨q, hq⟩ : ∃ q, (r.places.length : Int) * r.seasons = q := ⟨_, rfl⟩
  have hq0 : 0 ≤ q ∧ q ≤ 16 := by
    have h1 := O.n4; have h2 := O.s1; have h3 := O.s4
    have h4 : (r.places.length : Int) * r.seasons ≤ 4 * 4 := Int.mul_le_mul (by omega) h3 (by omega) (by omega)
    have h5 : 0 ≤ (r.places.length : Int) * r.seasons := Int.mul_nonneg (by omega) (by omega)
    omega
  have hwq : IntKind.wrap .i64 q = q := IntWalk.i64_in _ (by omega)
  have HRF := Lib.hid hrf
  by_cases hq6 : 6 < q
  case pos =>
    clear hbe hrf hR hsh hbo O
    go_enter Try.func7, Try.ntmps7
    go_upto_region 1 with (fail)
    rw [HW1.out]
    obtain ⟨k0, l0⟩ := HBX.out w1 (Ext.refl _)
    go_wp2_with (first | (go_at_call 15; refine (HS.out _ (by (with_reducible (repeat (first | exact Ext.refl _ | assumption | apply Ext.alloc | apply Ext.drew | exact ext_plus _ _ | (apply Ext.setCell; rotate_left; (simp <;> omega)) | (apply Ext.trans; rotate_left; exact ext_plus _ _) | (apply Ext.trans; rotate_left; assumption)))))).mono ?_; rintro e w2 ⟨rfl, hb2⟩; (try clear k0 l0); obtain ⟨k0, l0⟩ := HBX.out w2 (by (with_reducible (repeat (first | exact Ext.refl _ | assumption | apply Ext.alloc | apply Ext.drew | exact ext_plus _ _ | (apply Ext.setCell; rotate_left; (simp <;> omega)) | (apply Ext.trans; rotate_left; exact ext_plus _ _) | (apply Ext.trans; rotate_left; assumption)))))) | (go_at_call 28; refine (HRF.out _ (by (with_reducible (repeat (first | exact Ext.refl _ | assumption | apply Ext.alloc | apply Ext.drew | exact ext_plus _ _ | (apply Ext.setCell; rotate_left; (simp <;> omega)) | (apply Ext.trans; rotate_left; exact ext_plus _ _) | (apply Ext.trans; rotate_left; assumption)))))).mono ?_; rintro e w3 ⟨rfl, hb3⟩; (try clear k0 l0); obtain ⟨k0, l0⟩ := HBX.out w3 (by (with_reducible (repeat (first | exact Ext.refl _ | assumption | apply Ext.alloc | apply Ext.drew | exact ext_plus _ _ | (apply Ext.setCell; rotate_left; (simp <;> omega)) | (apply Ext.trans; rotate_left; exact ext_plus _ _) | (apply Ext.trans; rotate_left; assumption)))))) | (go_at_call 17; refine (known_any _).mono ?_; rintro e wk ⟨rfl, hbk⟩))
    all_goals
      go_ret
      exact ⟨rfl, by (with_reducible (repeat (first | exact Ext.refl _ | assumption | apply Ext.alloc | apply Ext.drew | exact ext_plus _ _ | (apply Ext.setCell; rotate_left; (simp <;> omega)) | (apply Ext.trans; rotate_left; exact ext_plus _ _) | (apply Ext.trans; rotate_left; assumption))))⟩
  case neg =>
  have h6 : r.places.length * r.seasons.toNat ≤ 6 := by
    have h1 : ((r.places.length * r.seasons.toNat : Nat) : Int) = q := by
      rw [← hq, Int.natCast_mul, Int.toNat_of_nonneg (by have := O.s1; omega)]
    omega
  have hdb := fun w' (hx : Ext w w') => dbest_any r _ w' (hP.ext hx) O h6
  have hbf := R.best_found O
  cases hbst : R.best r with
  | none =>
    rw [hbst] at hbe
    simp only [hbst] at hdb
    have hbe2 : ∀ w', Ext w w' → Calls Try.prog 29 #[.agg (reefV r (.slice a1 r.places.length c1))] w' fun x w2 => ∃ v, x = .returned (.tuple #[v, .int .i64 0, .int .i64 5]) ∧ Ints w2 v [] ∧ Ext w' w2 := hbe
    have hdb2 : ∀ w', Ext w w' → Calls Try.prog 30 #[.agg (reefV r (.slice a1 r.places.length c1))] w' fun x w2 => ∃ v, x = .returned (.tuple #[v, .bool false]) ∧ Ints w2 v [] ∧ Ext w' w2 := hdb
    have HBE := Lib.hid hbe2
    have HDB := Lib.hid hdb2
    clear hbe hbe2 hrf hR hsh hbo hdb hdb2 hbf hbst h6 O
    go_enter Try.func7, Try.ntmps7
    go_upto_region 1 with (fail)
    rw [HW1.out]
    obtain ⟨k0, l0⟩ := HBX.out w1 (Ext.refl _)
    go_wp2_with (first | (go_at_call 15; refine (HS.out _ (by (with_reducible (repeat (first | exact Ext.refl _ | assumption | apply Ext.alloc | apply Ext.drew | exact ext_plus _ _ | (apply Ext.setCell; rotate_left; (simp <;> omega)) | (apply Ext.trans; rotate_left; exact ext_plus _ _) | (apply Ext.trans; rotate_left; assumption)))))).mono ?_; rintro e w2 ⟨rfl, hb2⟩; (try clear k0 l0); obtain ⟨k0, l0⟩ := HBX.out w2 (by (with_reducible (repeat (first | exact Ext.refl _ | assumption | apply Ext.alloc | apply Ext.drew | exact ext_plus _ _ | (apply Ext.setCell; rotate_left; (simp <;> omega)) | (apply Ext.trans; rotate_left; exact ext_plus _ _) | (apply Ext.trans; rotate_left; assumption)))))) | (go_at_call 28; refine (HRF.out _ (by (with_reducible (repeat (first | exact Ext.refl _ | assumption | apply Ext.alloc | apply Ext.drew | exact ext_plus _ _ | (apply Ext.setCell; rotate_left; (simp <;> omega)) | (apply Ext.trans; rotate_left; exact ext_plus _ _) | (apply Ext.trans; rotate_left; assumption)))))).mono ?_; rintro e w3 ⟨rfl, hb3⟩; (try clear k0 l0); obtain ⟨k0, l0⟩ := HBX.out w3 (by (with_reducible (repeat (first | exact Ext.refl _ | assumption | apply Ext.alloc | apply Ext.drew | exact ext_plus _ _ | (apply Ext.setCell; rotate_left; (simp <;> omega)) | (apply Ext.trans; rotate_left; exact ext_plus _ _) | (apply Ext.trans; rotate_left; assumption)))))) | (go_at_call 29; refine (HBE.out _ (by (with_reducible (repeat (first | exact Ext.refl _ | assumption | apply Ext.alloc | apply Ext.drew | exact ext_plus _ _ | (apply Ext.setCell; rotate_left; (simp <;> omega)) | (apply Ext.trans; rotate_left; exact ext_plus _ _) | (apply Ext.trans; rotate_left; assumption)))))).mono ?_; rintro e w4 ⟨vb, rfl, hvb, hb4⟩; obtain ⟨ab, cb, rfl, _⟩ := id hvb; have HVB := Lib.hid hvb; clear hvb; (try clear k0 l0); obtain ⟨k0, l0⟩ := HBX.out w4 (by (with_reducible (repeat (first | exact Ext.refl _ | assumption | apply Ext.alloc | apply Ext.drew | exact ext_plus _ _ | (apply Ext.setCell; rotate_left; (simp <;> omega)) | (apply Ext.trans; rotate_left; exact ext_plus _ _) | (apply Ext.trans; rotate_left; assumption)))))) | (go_at_call 30; refine (HDB.out _ (by (with_reducible (repeat (first | exact Ext.refl _ | assumption | apply Ext.alloc | apply Ext.drew | exact ext_plus _ _ | (apply Ext.setCell; rotate_left; (simp <;> omega)) | (apply Ext.trans; rotate_left; exact ext_plus _ _) | (apply Ext.trans; rotate_left; assumption)))))).mono ?_; rintro e w5 ⟨vd, rfl, hvd, hb5⟩; obtain ⟨ad, cd, rfl, _⟩ := id hvd; have HVD := Lib.hid hvd; clear hvd; (try clear k0 l0); obtain ⟨k0, l0⟩ := HBX.out w5 (by (with_reducible (repeat (first | exact Ext.refl _ | assumption | apply Ext.alloc | apply Ext.drew | exact ext_plus _ _ | (apply Ext.setCell; rotate_left; (simp <;> omega)) | (apply Ext.trans; rotate_left; exact ext_plus _ _) | (apply Ext.trans; rotate_left; assumption)))))) | (go_at_call 17; refine (known_any _).mono ?_; rintro e wk ⟨rfl, hbk⟩))
    all_goals
      go_ret
      exact ⟨rfl, by (with_reducible (repeat (first | exact Ext.refl _ | assumption | apply Ext.alloc | apply Ext.drew | exact ext_plus _ _ | (apply Ext.setCell; rotate_left; (simp <;> omega)) | (apply Ext.trans; rotate_left; exact ext_plus _ _) | (apply Ext.trans; rotate_left; assumption))))⟩
  | some l =>
    rw [hbst] at hbe hbf
    simp only [hbst] at hdb
    obtain ⟨OLl, _, _⟩ := hbf
    have hl4 : l.length ≤ 1000000 := by have := OLl.len; have := O.s4; omega
    have hbe2 : ∀ w', Ext w w' → Calls Try.prog 29 #[.agg (reefV r (.slice a1 r.places.length c1))] w' fun x w2 => ∃ v, x = .returned (.tuple #[v, .int .i64 (R.cost r l), .int .i64 0]) ∧ Ints w2 v l ∧ Ext w' w2 := hbe
    have hdb2 : ∀ w', Ext w w' → Calls Try.prog 30 #[.agg (reefV r (.slice a1 r.places.length c1))] w' fun x w2 => ∃ v, x = .returned (.tuple #[v, .bool true]) ∧ Ints w2 v l ∧ Ext w' w2 := hdb
    have hco := fun w' v (hx : Ext w w') (hv : Ints w' v l) => dcost_any r l _ v w' (hP.ext hx) hv O OLl
    have hsa := fun w' va vb (ha : Ints w' va l) (hb : Ints w' vb l) => dsame_any l l va vb w' ha hb hl4 hl4
    simp only [decide_true] at hsa
    obtain ⟨c, hc⟩ : ∃ c, R.cost r l = c := ⟨_, rfl⟩
    simp only [hc] at hbe2 hco
    have HBE := Lib.hid hbe2
    have HDB := Lib.hid hdb2
    have HCO := Lib.hid hco
    have HSA := Lib.hid hsa
    clear hbe hbe2 hrf hR hsh hbo hdb hdb2 hbst h6 O OLl hco hsa hc
    go_enter Try.func7, Try.ntmps7
    go_upto_region 1 with (fail)
    rw [HW1.out]
    obtain ⟨k0, l0⟩ := HBX.out w1 (Ext.refl _)
    go_wp2_with (first | (go_at_call 15; refine (HS.out _ (by (with_reducible (repeat (first | exact Ext.refl _ | assumption | apply Ext.alloc | apply Ext.drew | exact ext_plus _ _ | (apply Ext.setCell; rotate_left; (simp <;> omega)) | (apply Ext.trans; rotate_left; exact ext_plus _ _) | (apply Ext.trans; rotate_left; assumption)))))).mono ?_; rintro e w2 ⟨rfl, hb2⟩; (try clear k0 l0); obtain ⟨k0, l0⟩ := HBX.out w2 (by (with_reducible (repeat (first | exact Ext.refl _ | assumption | apply Ext.alloc | apply Ext.drew | exact ext_plus _ _ | (apply Ext.setCell; rotate_left; (simp <;> omega)) | (apply Ext.trans; rotate_left; exact ext_plus _ _) | (apply Ext.trans; rotate_left; assumption)))))) | (go_at_call 28; refine (HRF.out _ (by (with_reducible (repeat (first | exact Ext.refl _ | assumption | apply Ext.alloc | apply Ext.drew | exact ext_plus _ _ | (apply Ext.setCell; rotate_left; (simp <;> omega)) | (apply Ext.trans; rotate_left; exact ext_plus _ _) | (apply Ext.trans; rotate_left; assumption)))))).mono ?_; rintro e w3 ⟨rfl, hb3⟩; (try clear k0 l0); obtain ⟨k0, l0⟩ := HBX.out w3 (by (with_reducible (repeat (first | exact Ext.refl _ | assumption | apply Ext.alloc | apply Ext.drew | exact ext_plus _ _ | (apply Ext.setCell; rotate_left; (simp <;> omega)) | (apply Ext.trans; rotate_left; exact ext_plus _ _) | (apply Ext.trans; rotate_left; assumption)))))) | (go_at_call 29; refine (HBE.out _ (by (with_reducible (repeat (first | exact Ext.refl _ | assumption | apply Ext.alloc | apply Ext.drew | exact ext_plus _ _ | (apply Ext.setCell; rotate_left; (simp <;> omega)) | (apply Ext.trans; rotate_left; exact ext_plus _ _) | (apply Ext.trans; rotate_left; assumption)))))).mono ?_; rintro e w4 ⟨vb, rfl, hvb, hb4⟩; obtain ⟨ab, cb, rfl, _⟩ := id hvb; have HVB := Lib.hid hvb; clear hvb; (try clear k0 l0); obtain ⟨k0, l0⟩ := HBX.out w4 (by (with_reducible (repeat (first | exact Ext.refl _ | assumption | apply Ext.alloc | apply Ext.drew | exact ext_plus _ _ | (apply Ext.setCell; rotate_left; (simp <;> omega)) | (apply Ext.trans; rotate_left; exact ext_plus _ _) | (apply Ext.trans; rotate_left; assumption)))))) | (go_at_call 30; refine (HDB.out _ (by (with_reducible (repeat (first | exact Ext.refl _ | assumption | apply Ext.alloc | apply Ext.drew | exact ext_plus _ _ | (apply Ext.setCell; rotate_left; (simp <;> omega)) | (apply Ext.trans; rotate_left; exact ext_plus _ _) | (apply Ext.trans; rotate_left; assumption)))))).mono ?_; rintro e w5 ⟨vd, rfl, hvd, hb5⟩; obtain ⟨ad, cd, rfl, _⟩ := id hvd; have HVD := Lib.hid hvd; clear hvd; (try clear k0 l0); obtain ⟨k0, l0⟩ := HBX.out w5 (by (with_reducible (repeat (first | exact Ext.refl _ | assumption | apply Ext.alloc | apply Ext.drew | exact ext_plus _ _ | (apply Ext.setCell; rotate_left; (simp <;> omega)) | (apply Ext.trans; rotate_left; exact ext_plus _ _) | (apply Ext.trans; rotate_left; assumption)))))) | (go_at_call 31; refine (HSA.out _ _ _ (HVB.out.ext (by (with_reducible (repeat (first | exact Ext.refl _ | assumption | apply Ext.alloc | apply Ext.drew | exact ext_plus _ _ | (apply Ext.setCell; rotate_left; (simp <;> omega)) | (apply Ext.trans; rotate_left; exact ext_plus _ _) | (apply Ext.trans; rotate_left; assumption)))))) (HVD.out.ext (by (with_reducible (repeat (first | exact Ext.refl _ | assumption | apply Ext.alloc | apply Ext.drew | exact ext_plus _ _ | (apply Ext.setCell; rotate_left; (simp <;> omega)) | (apply Ext.trans; rotate_left; exact ext_plus _ _) | (apply Ext.trans; rotate_left; assumption))))))).mono ?_; rintro e w6 ⟨rfl, hb6⟩; (try clear k0 l0); obtain ⟨k0, l0⟩ := HBX.out w6 (by (with_reducible (repeat (first | exact Ext.refl _ | assumption | apply Ext.alloc | apply Ext.drew | exact ext_plus _ _ | (apply Ext.setCell; rotate_left; (simp <;> omega)) | (apply Ext.trans; rotate_left; exact ext_plus _ _) | (apply Ext.trans; rotate_left; assumption)))))) | (go_at_call 32; refine (HCO.out _ _ (by (with_reducible (repeat (first | exact Ext.refl _ | assumption | apply Ext.alloc | apply Ext.drew | exact ext_plus _ _ | (apply Ext.setCell; rotate_left; (simp <;> omega)) | (apply Ext.trans; rotate_left; exact ext_plus _ _) | (apply Ext.trans; rotate_left; assumption))))) (HVD.out.ext (by (with_reducible (repeat (first | exact Ext.refl _ | assumption | apply Ext.alloc | apply Ext.drew | exact ext_plus _ _ | (apply Ext.setCell; rotate_left; (simp <;> omega)) | (apply Ext.trans; rotate_left; exact ext_plus _ _) | (apply Ext.trans; rotate_left; assumption))))))).mono ?_; rintro e w7 ⟨rfl, hb7⟩; (try clear k0 l0); obtain ⟨k0, l0⟩ := HBX.out w7 (by (with_reducible (repeat (first | exact Ext.refl _ | assumption | apply Ext.alloc | apply Ext.drew | exact ext_plus _ _ | (apply Ext.setCell; rotate_left; (simp <;> omega)) | (apply Ext.trans; rotate_left; exact ext_plus _ _) | (apply Ext.trans; rotate_left; assumption)))))) | (go_at_call 17; refine (known_any _).mono ?_; rintro e wk ⟨rfl, hbk⟩))
    all_goals
      go_ret
      exact ⟨rfl, by (with_reducible (repeat (first | exact Ext.refl _ | assumption | apply Ext.alloc | apply Ext.drew | exact ext_plus _ _ | (apply Ext.setCell; rotate_left; (simp <;> omega)) | (apply Ext.trans; rotate_left; exact ext_plus _ _) | (apply Ext.trans; rotate_left; assumption))))⟩
end Go.Proofs.Ythffoglpekpmdaa
