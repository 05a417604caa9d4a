/- The document's plans: all of them, in order. -/
import Derived.Test.YtmlobiajimlboaaM4
import Derived.Test.YtmlobiajimlboaaR1
import Derived.Test.YtmlobiajimlboaaPlain3
import Derived.Laws.AppendOwnNone
namespace Go.Proofs.Ytmlobiajimlboaa
set_option linter.unusedVariables false
set_option linter.unusedSimpArgs false
open Go.RowKit
/-- A slice that is nil is the empty one without room. -/
def Tight (v : Value) : Prop := ∀ n c, v = .slice none n c → n = 0 ∧ c = 0
theorem Tight.some (a : Addr) (n c : Nat) : Tight (.slice (.some a) n c) := fun _ _ h => by cases h
theorem Tight.nil : Tight (.slice none 0 0) := fun _ _ h => by cases h; exact ⟨rfl, rfl⟩
theorem Tight.own {w : World} {base : Nat} {e : TypeId} {s : Nat} {v : Value} {n : Nat} {xs : List Value} (h : w.ownsRow base e s v n xs) : Tight v := by
  rcases h.2 with ⟨rfl, _⟩ | ⟨g, cap, cur, rfl, _⟩
  · exact Tight.nil
  · exact Tight.some _ _ _
def PlanAt (w : World) (b o : Nat) (xs : List Int) : Prop := ∃ v, w.cell? ⟨b, o, none⟩ = some v ∧ Ints w v xs ∧ Tight v
theorem plan_stays : Stays PlanAt := fun _ _ _ _ _ he hb ⟨v, h1, h2, h3⟩ => ⟨v, (he.cells.1 _ _ hb).trans h1, h2.ext he, h3⟩
def Lists (w : World) (v : Value) (xs : List (List Int)) : Prop := Sls 1 PlanAt w v xs
theorem Lists.ext {w w' : World} {v : Value} {xs : List (List Int)} (h : Lists w v xs) (he : Ext w w') : Lists w' v xs := Sls.ext plan_stays h he
theorem plan_info : (Try.prog.info? 30).map (fun i => (i.zero, i.size, i.bytes)) = some (some (.slice none 0 0), 1, 24) := by kernel_rfl
theorem Lists.of_own {w : World} {base : Nat} {v : Value} {L : List (List Int × Value)} (h : w.ownsRow base 30 1 v L.length (L.map Prod.snd)) (hi : ∀ p ∈ L, IntsB w p.2 p.1 ∧ Tight p.2) : Lists w v (L.map Prod.fst) := by
  obtain ⟨a, cap, rfl⟩ := own_slice h
  refine ⟨a, cap, by simp, fun i hi' => ?_⟩
  have hi2 : i < L.length := by simpa using hi'
  rcases h.2 with ⟨e, h0⟩ | ⟨g, cap', cur, hv, hb, hg, _⟩
  · rw [h0] at hi2; exact absurd hi2 (by omega)
  · cases hv
    refine ⟨g, 0, rfl, own_lt h, L[i].2, ?_, ?_, ?_⟩
    · exact own_cell h _ _ (by simp [hi2])
    · simpa using (hi L[i] (List.getElem_mem hi2)).1.1
    · exact (hi L[i] (List.getElem_mem hi2)).2
theorem wpList_append_copy {w : World} {ops : Array Oper} {rest : List Oper} {o : Oper} {a : Act} {Q : Exit → Act → World → Prop} (hgd : o.guard = none) (s x : Operand)
    (ho : o.op = .call { callee := .builtin .append, args := #[s, x], argTypes := #[30, 30] }) (v : Value) (xs : List Int) (hs : a.eval s = .slice none 0 0) (hx : a.eval x = v)
    (hv : Ints w v xs) (ht : Tight v) (hn : xs.length ≤ 1000000)
    (h : ∀ v' w', w'.ownsRow w.heap.size 3 1 v' xs.length (xs.map (Value.int .i64)) → Ext w w' → wpList Try.prog ops Q rest (a.put o.dst v') w') : wpList Try.prog ops Q (o :: rest) a w := by
  obtain ⟨i0, hi, hz0, hz1, hz2⟩ := info_parts int_info
  obtain ⟨a1, cap, rfl, hcell⟩ := hv
  cases a1 with
  | none =>
    obtain ⟨e, rfl⟩ := ht _ _ rfl
    have e2 : xs = [] := List.eq_nil_of_length_eq_zero e
    subst e2
    exact wpList_append_own_none hgd s x 30 ho w.heap.size 3 i0 1 Try.underlying30 hi _ 0 [] hs (World.ownsRow_nil _ _ _ _) hx (h _ _ (World.ownsRow_nil _ _ _ _) (Ext.refl _))
  | some ad =>
    refine wpList_append_own _ hgd s x 30 ho w.heap.size 3 i0 (.int .i64 0) 1 8 Try.underlying30 hi hz0 hz1 hz2 rfl (by decide) _ 0 [] hs (World.ownsRow_nil _ _ _ _) ad xs.length cap (xs.map (Value.int .i64)) hx (by simp) ?_ (by intro u hu; obtain ⟨x, _, rfl⟩ := List.mem_map.1 hu; rfl) (by unfold maxLen; omega) (by omega) (Nat.le_refl _) ?_
    · intro j u hu
      rw [List.getElem?_map] at hu
      cases h : xs[j]? with
      | none => rw [h] at hu; cases hu
      | some x =>
        rw [h] at hu
        obtain rfl := Option.some.inj hu
        obtain ⟨hj, rfl⟩ := List.getElem?_eq_some_iff.1 h
        obtain ⟨b, off, e, hb, hc⟩ := hcell j hj
        cases e
        have hadd : (⟨b, off, none⟩ : Addr).add j = ⟨b, off + j, none⟩ := by unfold Addr.add; split <;> simp_all
        rw [hadd]; exact hc
    · intro v' w' h1 h2 _
      refine h v' w' (by simpa using h1) (Ext.grown (Ext.refl _) h2 (fun k e => by simp [Value.ownBlock] at e))
def gath (n : Nat) (out : List (List Int)) (k : Nat) : List (List Int) := (out.take k).flatMap fun p => (W.options n).map fun x => p ++ [x]
theorem gath_succ (n : Nat) (out : List (List Int)) {k : Nat} (h : k < out.length) : gath n out (k + 1) = gath n out k ++ (W.options n).map fun x => out[k] ++ [x] := by
  unfold gath
  rw [List.take_succ_eq_append_getElem h, List.flatMap_append]; simp
theorem gath_all (n i : Nat) : gath n (W.plans n i) (W.plans n i).length = W.plans n (i + 1) := by
  unfold gath; rw [List.take_length]; rfl
theorem flat_len (n : Nat) (l : List (List Int)) : (l.flatMap fun p => (W.options n).map fun x => p ++ [x]).length = l.length * (n + 1) := by
  induction l with
  | nil => simp
  | cons a l ih => rw [List.flatMap_cons, List.length_append, ih, List.length_map, options_len, List.length_cons, Nat.succ_mul]; omega
theorem plans_len (n : Nat) : ∀ k, (W.plans n k).length = (n + 1) ^ k
  | 0 => rfl
  | k + 1 => by rw [W.plans, flat_len, plans_len n k, Nat.pow_succ]
theorem gath_len (n : Nat) (out : List (List Int)) (k : Nat) (hn : n ≤ 3) (hk : k ≤ 4096) : (gath n out k).length ≤ 16384 := by
  unfold gath
  rw [flat_len]
  have h1 : (out.take k).length ≤ 4096 := by rw [List.length_take]; omega
  have := Nat.mul_le_mul h1 (show n + 1 ≤ 4 by omega)
  omega
theorem pow_bd {n i : Nat} (hn : n ≤ 3) (hi : i ≤ 7) : (n + 1) ^ i ≤ 16384 :=
  Nat.le_trans (Nat.pow_le_pow_left (by omega : n + 1 ≤ 4) i) (Nat.le_trans (Nat.pow_le_pow_right (by decide) hi) (by decide))
theorem pow_bd6 {n i : Nat} (hn : n ≤ 3) (hi : i ≤ 6) : (n + 1) ^ i ≤ 4096 :=
  Nat.le_trans (Nat.pow_le_pow_left (by omega : n + 1 ≤ 4) i) (Nat.le_trans (Nat.pow_le_pow_right (by decide) hi) (by decide))
set_option maxRecDepth 100000 in
set_option maxHeartbeats 4000000 in
theorem plans_any (s : W.Shore) (vc vw : Value) (w : World) (hC : Cells w vc s.cells) (hW : Works w vw s.works) (hn : s.cells.length ≤ 7) (hm : s.works.length ≤ 3) :
    Calls Try.prog 63 #[shoreA s vc vw] w fun e w' => ∃ v, e = .returned v ∧ Lists w' v (W.plans s.works.length s.cells.length) ∧ Ext w w' := by
  obtain ⟨a1, c1, rfl, _⟩ := hC
  obtain ⟨a2, c2, rfl, _⟩ := hW
  obtain ⟨i0, hi, hz0, hz1, hz2⟩ := info_parts int_info
  obtain ⟨i9, hi9, hy0, hy1, hy2⟩ := info_parts plan_info
  obtain ⟨m, hmm⟩ : ∃ m, s.works.length = m := ⟨_, rfl⟩
  obtain ⟨n, hnn⟩ : ∃ n, s.cells.length = n := ⟨_, rfl⟩
  rw [hmm] at hm ⊢
  rw [hnn] at hn ⊢
  clear hmm hnn
  go_enter Try.func63, Try.ntmps63
  go_wp2
  obtain ⟨w1, hw1⟩ : ∃ w1, (w.alloc (.cells #[.slice a1 n c1, .slice a2 m c2, .int .i64 s.reef, .int .i64 s.ll, .int .i64 s.lh] 27)).alloc (.cells #[.slice none 0 0] 30) = w1 := ⟨_, rfl⟩
  have hb1 : Blk w1 w.heap.size #[.slice a1 n c1, .slice a2 m c2, .int .i64 s.reef, .int .i64 s.ll, .int .i64 s.lh] 27 := by rw [← hw1]; exact (Blk.new' rfl _ _).alloc _
  have hE1 : Ext w w1 := by rw [← hw1]; (with_reducible (repeat (first | exact Ext.refl _ | assumption | apply Ext.alloc | apply Ext.drew | exact ext_plus _ _ | (apply Ext.setCell; rotate_left; (simp <;> omega)) | (apply Ext.trans; rotate_left; exact ext_plus _ _) | (apply Ext.trans; rotate_left; assumption))))
  have hl0 : Lists w1 (.slice (some ⟨w.heap.size + 1, 0, none⟩) 1 1) (W.plans m 0) := by
    refine ⟨_, _, rfl, fun i hi => ⟨w.heap.size + 1, 0, rfl, by rw [← hw1]; simp, .slice none 0 0, ?_, ?_, Tight.nil⟩⟩
    · have : i = 0 := by simp [W.plans] at hi; omega
      subst this
      have hb : Blk w1 (w.heap.size + 1) #[.slice none 0 0] 30 := by rw [← hw1]; exact Blk.new' (by simp) _ _
      exact hb.cell 0
    · have : i = 0 := by simp [W.plans] at hi; omega
      subst this
      exact Ints.nil _
  rw [hw1]
  clear hw1
  go_loopw [3, 4, 5, 6, 7] (fun v i nx _ _ wr => ∃ k : Nat, k ≤ n ∧ i = .int .i64 k ∧ Lists wr v (W.plans m k) ∧ Ext w1 wr)
    (fun _ i _ _ _ _ => n - (intOf i).toNat)
  case atStart => exact ⟨0, Nat.zero_le _, rfl, hl0, Ext.refl _⟩
  case round =>
    rename World => wo
    obtain ⟨k, hk, rfl, hL, hEk⟩ := hrel
    have hcs := (hb1.ext hEk).cell
    have hls := (hb1.ext hEk).lt
    by_cases hlt : k < n
    · have hpl := plans_len m k
      have hpb := pow_bd6 (n := m) (i := k) hm (by omega)
      rw [← hpl] at hpb
      have hpm : ∀ p ∈ W.plans m k, p.length = k := fun p h => ((W.mem_plans m k p).1 h).1
      have hga := gath_all m k
      obtain ⟨O, hO⟩ : ∃ O, W.plans m k = O := ⟨_, rfl⟩
      rw [hO] at hL hpb hga hpm
      have HPM := Lib.hid hpm
      have HGA := Lib.hid hga
      clear hpl hpm hga hO
      obtain ⟨av, cv, rfl, hxL⟩ := hL
      have HXL := Lib.hid hxL
      clear hxL
      go_wp2
      go_loopw [5, 6, 7] (fun v i _ wx => ∃ (j : Nat) (L : List (List Int × Value)), j ≤ O.length ∧ i = .int .i64 j ∧ wx.ownsRow wo.heap.size 30 1 v L.length (L.map Prod.snd) ∧ (∀ p ∈ L, IntsB wx p.2 p.1 ∧ Tight p.2) ∧ L.map Prod.fst = gath m O j ∧ Ext wo wx)
        (fun _ i _ _ => O.length - (intOf i).toNat)
      case atStart => exact ⟨0, [], Nat.zero_le _, rfl, World.ownsRow_nil _ _ _ _, (by simp), rfl, Ext.refl _⟩
      case round =>
        rename World => wx
        obtain ⟨j, L, hj, rfl, hown, hel, hge, hEx⟩ := hrel
        have HGE := Lib.hid hge
        have HEL := Lib.hid hel
        have hLb : L.length ≤ 16384 := by
          have := congrArg List.length hge
          rw [List.length_map] at this
          rw [this]
          exact gath_len m O j hm (by omega)
        clear hge hel
        have hcx := hEx.cells.1
        have hzx := hEx.size
        have hcs2 := ((hb1.ext hEk).ext hEx).cell
        have hls2 := ((hb1.ext hEk).ext hEx).lt
        by_cases hlj : j < O.length
        · obtain ⟨g4, o4, rfl, hg4, vp, h04, hvp, htp⟩ := HXL.out j hlj
          have hpj := HPM.out _ (List.getElem_mem hlj)
          have HSU := Lib.hid (gath_succ m O hlj)
          obtain ⟨p, hp⟩ : ∃ p, O[j] = p := ⟨_, rfl⟩
          rw [hp] at hvp hpj HSU
          clear hp
          have q4 : g4 < wx.heap.size := by omega
          have e4 : wx.cell? ⟨g4, o4 + j, none⟩ = some vp := by have := (hcx _ _ hg4).trans h04; simpa using this
          have hvp2 := hvp
          obtain ⟨ap, cp, rfl, _⟩ := hvp2
          rw [hpj] at e4 hvp htp
          have HVP := Lib.hid hvp
          have HPJ := Lib.hid hpj
          clear hvp hpj
          go_wp2
          go_loopw [5, 7] (fun v i wy => ∃ (q : Nat) (M : List (List Int × Value)), q ≤ m + 1 ∧ i = .int .i64 ((q : Int) - 1) ∧ M.length ≤ 16384 + q ∧ wy.ownsRow wo.heap.size 30 1 v M.length (M.map Prod.snd) ∧ (∀ p ∈ M, IntsB wy p.2 p.1 ∧ Tight p.2) ∧ M.map Prod.fst = gath m O j ++ ((W.options m).take q).map (fun x => p ++ [x]) ∧ Ext wo wy)
            (fun _ i _ => m + 1 - ((intOf i) + 1).toNat)
          case atStart => exact ⟨0, L, Nat.zero_le _, rfl, by omega, hown, HEL.out, by simpa using HGE.out, hEx⟩
          case round =>
            rename World => wy
            obtain ⟨q, M, hq, rfl, hMl, hown2, hel2, hge2, hEy⟩ := hrel
            have hcy := hEy.cells.1
            have hzy := hEy.size
            have hcs3 := ((hb1.ext hEk).ext hEy).cell
            have hls3 := ((hb1.ext hEk).ext hEy).lt
            have HEL2 := Lib.hid hel2
            have HGE2 := Lib.hid hge2
            clear hel2 hge2 hown
            by_cases hlq : q < m + 1
            · have q5 : g4 < wy.heap.size := by omega
              have e5 : wy.cell? ⟨g4, o4 + j, none⟩ = some (.slice ap k cp) := by have := (hcy _ _ hg4).trans h04; rw [HPJ.out] at this; simpa using this
              clear hcy hcx e4 h04
              have hq0 : (q : Int) - 1 < m := by omega
              have HVY := Lib.hid (HVP.out.ext hEy)
              go_wp2_with (first | (at_builtin; refine wpList_append_copy rfl _ _ rfl _ p rfl rfl HVY.out htp (by have := HPJ.out; omega) ?_; intro v1 y1 hown1 hEy1; have hzy1 := hEy1.size) | (at_builtin; refine wpList_append_own _ rfl _ _ 30 rfl wy.heap.size 3 i0 (.int .i64 0) 1 8 Try.underlying30 hi hz0 hz1 hz2 rfl (by decide) _ _ _ rfl ((own_ext hown1 (Ext.refl _)).alloc _) ⟨y1.heap.size, 0, none⟩ 1 1 [.int .i64 ((q : Int) - 1)] rfl rfl (cell_one _ _ _ (by simp)) (one_int _) (by have := HPJ.out; unfold maxLen; omega) (by have := HPJ.out; omega) (by simp <;> omega) ?_; intro v2 y2 hown3 hgr2 _; obtain ⟨g2, cap2, rfl⟩ := own_succ hown3; have hEy2 : Ext wy y2 := Ext.grown (hEy1.alloc _) hgr2 (own_base hown1); have hzy2 := hEy2.size; have hown4 := own_ext hown2 hEy2) | (at_builtin; refine wpList_append_own _ rfl _ _ 105 rfl wo.heap.size 30 i9 (.slice none 0 0) 1 24 Try.underlying105 hi9 hy0 hy1 hy2 rfl (by decide) _ _ _ rfl (hown4.alloc _) ⟨y2.heap.size, 0, none⟩ 1 1 [.slice (some ⟨g2, 0, none⟩) (p.length + 1) cap2] rfl rfl (cell_one _ _ _ (by simp)) (by intro u hu; simp at hu; subst hu; rfl) (by unfold maxLen; omega) (by omega) (by simp <;> omega) ?_; intro v3 y3 hown5 hgr3 _; obtain ⟨g3, cap3, rfl⟩ := own_succ hown5))
              refine ⟨⟨q + 1, M ++ [(p ++ [(q : Int) - 1], .slice (some ⟨g2, 0, none⟩) (p.length + 1) cap2)], by omega, by rw [show ((q + 1 : Nat) : Int) - 1 = q by omega], by simp; omega, by simpa using hown5, ?_, ?_, Ext.grown ((hEy.trans hEy2).alloc _) hgr3 (own_base hown4)⟩, by simp [intOf]; omega⟩
              · intro pr hpr
                rw [List.mem_append, List.mem_singleton] at hpr
                rcases hpr with hpr | rfl
                · obtain ⟨h1, h2⟩ := HEL2.out pr hpr
                  exact ⟨((h1.ext hEy2).ext ((Ext.refl _).alloc _)).grown hgr3 (own_blk (hown4.alloc _) (by decide)), h2⟩
                · have h1 : IntsB y2 (.slice (some ⟨g2, 0, none⟩) (p.length + 1) cap2) (p ++ [(q : Int) - 1]) := IntsB.of_own (base := wy.heap.size) (by simpa using hown3)
                  exact ⟨(h1.ext ((Ext.refl _).alloc _)).grown hgr3 (own_blk (hown4.alloc _) (by decide)), Tight.some _ _ _⟩
              · rw [List.map_append, HGE2.out, List.take_succ_eq_append_getElem (by rw [options_len]; exact hlq), options_get m q hlq]
                simp
            · have e : q = m + 1 := by omega
              subst e
              have hq0 : ¬ (((m + 1 : Nat) : Int) - 1 < (m : Int)) := by omega
              have hge3 : M.map Prod.fst = gath m O (j + 1) := by
                rw [HGE2.out, HSU.out, List.take_of_length_le (by rw [options_len]; omega)]
              have HGE3 := Lib.hid hge3
              clear hge3 hcy hcx e4 h04
              go_wp2
              exact ⟨⟨j + 1, M, by omega, by go_num, hown2, HEL2.out, HGE3.out, hEy⟩, by simp [intOf]; omega⟩
        · have e : j = O.length := by omega
          subst e
          have hLL := Lists.of_own hown HEL.out
          rw [HGE.out, HGA.out] at hLL
          have HLL := Lib.hid hLL
          clear hLL hcx
          obtain ⟨av2, cv2, rfl⟩ := own_slice hown
          go_wp2
          exact ⟨⟨k + 1, by omega, by go_num, HLL.out, hEk.trans hEx⟩, by simp [intOf]; omega⟩
    · have e : k = n := by omega
      subst e
      obtain ⟨av, cv, rfl, hxL⟩ := hL
      go_wp2
      go_ret
      exact ⟨_, rfl, ⟨av, cv, rfl, hxL⟩, hE1.trans hEk⟩
end Go.Proofs.Ytmlobiajimlboaa
