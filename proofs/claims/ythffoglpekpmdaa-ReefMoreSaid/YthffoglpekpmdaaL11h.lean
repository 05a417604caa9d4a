/- Small words for the law ReefMore: places of another growth, cell by cell; its helper narrow. -/
import Derived.Test.YthffoglpekpmdaaK2
import Derived.Test.YthffoglpekpmdaaPl11
import Derived.Test.YthffoglpekpmdaaF4
import Derived.Test.YthffoglpekpmdaaG3
import Derived.Test.YthffoglpekpmdaaLate
namespace Go.Proofs.Ythffoglpekpmdaa
set_option linter.unusedVariables false
set_option linter.unusedSimpArgs false
open Go.RowKit
theorem wpList_append_copy {w : World} {ops : Array Oper} {rest : List Oper} {o : Oper} {a : Act} {Q : Exit → Act → World → Prop} (hgd : o.guard = none) (s x : Operand)
    (ho : o.op = .call { callee := .builtin .append, args := #[s, x], argTypes := #[25, 25] }) (v : Value) (xs : List Int) (hs : a.eval s = .slice none 0 0) (hx : a.eval x = v)
    (hv : Ints w v xs) (ht : Tight v) (hn : xs.length ≤ 1000000)
    (h : ∀ v' w', w'.ownsRow w.heap.size 3 1 v' xs.length (xs.map (Value.int .i64)) → Ext w w' → wpList Try.prog ops Q rest (a.put o.dst v') w') : wpList Try.prog ops Q (o :: rest) a w := by
  obtain ⟨i0, hi, hz0, hz1, hz2⟩ := info_parts int_info
  obtain ⟨a1, cap, rfl, hcell⟩ := hv
  cases a1 with
  | none =>
    obtain ⟨e, rfl⟩ := ht _ _ rfl
    have e2 : xs = [] := List.eq_nil_of_length_eq_zero e
    subst e2
    exact wpList_append_own_none hgd s x 25 ho w.heap.size 3 i0 1 Try.underlying25 hi _ 0 [] hs (World.ownsRow_nil _ _ _ _) hx (h _ _ (World.ownsRow_nil _ _ _ _) (Ext.refl _))
  | some ad =>
    refine wpList_append_own _ hgd s x 25 ho w.heap.size 3 i0 (.int .i64 0) 1 8 Try.underlying25 hi hz0 hz1 hz2 rfl (by decide) _ 0 [] hs (World.ownsRow_nil _ _ _ _) ad xs.length cap (xs.map (Value.int .i64)) hx (by simp) ?_ (by intro u hu; obtain ⟨x, _, rfl⟩ := List.mem_map.1 hu; rfl) (by unfold maxLen; omega) (by omega) (Nat.le_refl _) ?_
    · intro j u hu
      rw [List.getElem?_map] at hu
      cases h : xs[j]? with
      | none => rw [h] at hu; cases hu
      | some x =>
        rw [h] at hu
        obtain rfl := Option.some.inj hu
        obtain ⟨hj, rfl⟩ := List.getElem?_eq_some_iff.1 h
        obtain ⟨b, off, e, hb, hc⟩ := hcell j hj
        cases e
        have hadd : (⟨b, off, none⟩ : Addr).add j = ⟨b, off + j, none⟩ := by unfold Addr.add; split <;> simp_all
        rw [hadd]; exact hc
    · intro v' w' h1 h2 _
      refine h v' w' (by simpa using h1) (Ext.grown (Ext.refl _) h2 (fun k e => by simp [Value.ownBlock] at e))
theorem late_two {P : Program} {ops : Array Oper} {Q : Exit → Act → World → Prop} {S : Bool → World → Prop} {t : Nat} {L : Array Bool} {a : Act} {w : World} {f i j : Nat} (hr : Region.ready .any ops L = [i, j]) (hL : Shutb ops L)
    (h : Shutb ops (L.setIfInBounds i true) → wpOp P ops Q i (fun a' w' => S ((L.setIfInBounds i true).getD t false) w' ∧ wpAnyL P ops Q t S f (L.setIfInBounds i true) a' w') a w)
    (h2 : Shutb ops (L.setIfInBounds j true) → wpOp P ops Q j (fun a' w' => S ((L.setIfInBounds j true).getD t false) w' ∧ wpAnyL P ops Q t S f (L.setIfInBounds j true) a' w') a w) : wpAnyL P ops Q t S (f + 1) L a w := by
  have hi : i ∈ Region.ready .any ops L := by rw [hr]; simp
  have hj : j ∈ Region.ready .any ops L := by rw [hr]; simp
  refine ⟨fun e => ?_, fun k hk => ?_⟩
  · rw [hr] at e; cases e
  · rw [hr] at hk
    simp only [List.mem_cons, List.not_mem_nil, or_false] at hk
    rcases hk with rfl | rfl
    · exact h (shut_set hL hi)
    · exact h2 (shut_set hL hj)
def codeTail : Nat → Code → Code
  | 0, c => c
  | n + 1, .seq _ b => codeTail n b
  | _, c => c
theorem step_append_places (w : World) {ops : Array Oper} {o : Oper} {a : Act} {K : Act → World → Prop} {Q : Exit → Act → World → Prop} {E : Prop} (hgd : o.guard = none) (s x : Operand)
    (ho : o.op = .call { callee := .builtin .append, args := #[s, x], argTypes := #[22, 22] }) (xs : List R.Place) (b off c1 : Nat) (hs : a.eval s = .slice none 0 0) (hx : a.eval x = .slice (some ⟨b, off, none⟩) xs.length c1)
    (hP : Places w (.slice (some ⟨b, off, none⟩) xs.length c1) xs) (hn : xs.length ≤ 1000000)
    (h : ∀ v' w', w'.ownsRow w.heap.size 46 12 v' xs.length (xs.flatMap placeC) → Ext w w' → K (a.put o.dst v') w') :
    if Region.wanted o (yielded ops a.tmps) = true then Oper.wp Try.prog o a w K Q else E := by
  have hw : Region.wanted o (yielded ops a.tmps) = true := by simp [Region.wanted, hgd]
  rw [if_pos hw]
  obtain ⟨i0, hi, hz0, hz1, hz2⟩ := info_parts place_info
  refine wp_append_own w s x 22 ho w.heap.size 46 i0 _ 12 96 Try.underlying22 hi hz0 hz1 hz2 rfl (by decide) _ 0 [] hs (World.ownsRow_nil _ _ _ _) ⟨b, off, none⟩ xs.length c1 (xs.flatMap placeC) hx (flat_len placeC 12 placeC_len xs) (sls_news placeC_len (by decide) hP) (placeC_one _) (by unfold maxLen; omega) (by omega) (Nat.le_refl _) ?_
  intro v' w' h1 h2 _
  exact h v' w' (by simpa using h1) (Ext.grown (Ext.refl _) h2 (own_base (World.ownsRow_nil w w.heap.size 46 12)))
noncomputable def moreTail (n : Nat) : Code := codeTail n (Try.f11.body.getD .skip)
def findRegion (n : Nat) : Code → Option Code
  | .region i ops d => if i = n then some (.region i ops d) else none
  | .seq a b => match findRegion n a with
    | some c => some c
    | none => findRegion n b
  | .cond _ a b => match findRegion n a with
    | some c => some c
    | none => findRegion n b
  | .block _ c => findRegion n c
  | .loop c => findRegion n c
  | _ => none
noncomputable def moreReg (n : Nat) : Code := (findRegion n (Try.f11.body.getD .skip)).getD .skip
def withGrow (p : R.Place) (a b : Int) : R.Place := { p with gl := a, gh := b }
/-- A row of places, the growth of one stored anew. -/
theorem RowB.set_grow {w : World} {g : Nat} {xs : List R.Place} (h : RowB placeC 12 46 w g xs) (i : Nat) (hi : i < xs.length) (a b : Int) :
    RowB placeC 12 46 ((w.setCell ⟨g, i * 12 + 2, none⟩ (.int .i64 a)).setCell ⟨g, i * 12 + 2 + 1, none⟩ (.int .i64 b)) g (xs.set i (withGrow xs[i] a b)) := by
  obtain ⟨cs, hB, hc⟩ := h
  refine ⟨_, (hB.set _ _).set _ _, fun k hk j u hu => ?_⟩
  have hk' : k < xs.length := by simpa using hk
  have hj : j < 12 := (List.getElem?_eq_some_iff.1 hu).1
  rw [List.getElem_set] at hu
  have h6 := hc k hk' 2 _ rfl
  have h7 := hc k hk' 3 _ rfl
  obtain ⟨z6, _⟩ := Array.getElem?_eq_some_iff.1 h6
  obtain ⟨z7, _⟩ := Array.getElem?_eq_some_iff.1 h7
  by_cases e : i = k
  · subst e
    rw [if_pos rfl] at hu
    have hcj := fun v hv => hc i hk' j v hv
    have h01 : j = 0 ∨ j = 1 ∨ j = 2 ∨ j = 3 ∨ j = 4 ∨ j = 5 ∨ j = 6 ∨ j = 7 ∨ j = 8 ∨ j = 9 ∨ j = 10 ∨ j = 11 := by omega
    rcases h01 with rfl | rfl | rfl | rfl | rfl | rfl | rfl | rfl | rfl | rfl | rfl | rfl
    case inr.inr.inl => simp [placeC, withGrow] at hu; simp [Array.getElem?_setIfInBounds, z6, hu]
    case inr.inr.inr.inl => simp [placeC, withGrow] at hu; simp [Array.getElem?_setIfInBounds, z7, hu]
    all_goals
      rw [Array.getElem?_setIfInBounds, if_neg (by omega), Array.getElem?_setIfInBounds, if_neg (by omega)]
      exact hcj u hu
  · rw [if_neg e] at hu
    rw [Array.getElem?_setIfInBounds, if_neg (by omega), Array.getElem?_setIfInBounds, if_neg (by omega)]
    exact hc k hk' j u hu
/-- The first k places with another growth. -/
def regTo (f : R.Place → Int × Int) (xs : List R.Place) (k : Nat) : List R.Place := (xs.take k).map (fun p => withGrow p (f p).1 (f p).2) ++ xs.drop k
theorem regTo_zero (f : R.Place → Int × Int) (xs : List R.Place) : regTo f xs 0 = xs := by simp [regTo]
theorem regTo_len (f : R.Place → Int × Int) (xs : List R.Place) (k : Nat) (h : k ≤ xs.length) : (regTo f xs k).length = xs.length := by simp [regTo]; omega
theorem regTo_all (f : R.Place → Int × Int) (r : R.Reef) : regTo f r.places r.places.length = (R.regrow f r).places := by simp [regTo, R.regrow, withGrow]
theorem regTo_at (f : R.Place → Int × Int) (xs : List R.Place) {k : Nat} (h : k < xs.length) (h' : k < (regTo f xs k).length) : (regTo f xs k)[k] = xs[k] := by
  have e : (regTo f xs k)[k]? = xs[k]? := by
    unfold regTo
    have hl : ((xs.take k).map fun p => withGrow p (f p).1 (f p).2).length = k := by simp; omega
    rw [List.getElem?_append_right (by omega), hl, Nat.sub_self, List.getElem?_drop]
    rfl
  rw [List.getElem?_eq_getElem h', List.getElem?_eq_getElem h] at e
  exact Option.some.inj e
theorem regTo_set (f : R.Place → Int × Int) (xs : List R.Place) {k : Nat} (h : k < xs.length) : (regTo f xs k).set k (withGrow xs[k] (f xs[k]).1 (f xs[k]).2) = regTo f xs (k + 1) := by
  unfold regTo
  have e : ((xs.take k).map fun p => withGrow p (f p).1 (f p).2).length = k := by simp; omega
  rw [List.set_append_right _ _ (by omega), e, Nat.sub_self, List.drop_eq_getElem_cons h, List.set_cons_zero, List.take_succ_eq_append_getElem h, List.map_append, List.append_assoc]
  rfl
theorem lnarrow_any (a b lo hi : Int) (w : World) (h0 : 0 ≤ a) (h1 : a ≤ b) (h2 : b ≤ 2000) (h3 : 0 ≤ lo) (h4 : lo ≤ hi) (h5 : hi ≤ 100) :
    Calls Try.prog 40 #[.agg #[.int .i64 a, .int .i64 b], .int .i64 lo, .int .i64 hi] w fun e w' => e = .returned (.agg #[.int .i64 (a + (b - a) * lo / 100), .int .i64 (a + (b - a) * hi / 100)]) ∧ Ext w w' := by
  have hx : 0 ≤ (b - a) * lo ∧ (b - a) * lo ≤ 200000 := ⟨Int.mul_nonneg (by omega) h3, by have := Int.mul_le_mul (show b - a ≤ 2000 by omega) (show lo ≤ 100 by omega) h3 (by omega); omega⟩
  have hy : 0 ≤ (b - a) * hi ∧ (b - a) * hi ≤ 200000 := ⟨Int.mul_nonneg (by omega) (by omega), by have := Int.mul_le_mul (show b - a ≤ 2000 by omega) h5 (by omega) (by omega); omega⟩
  have hwx : IntKind.wrap .i64 ((b - a) * lo) = (b - a) * lo := IntWalk.i64_in _ (by omega)
  have hwy : IntKind.wrap .i64 ((b - a) * hi) = (b - a) * hi := IntWalk.i64_in _ (by omega)
  obtain ⟨X, hX⟩ : ∃ X, (b - a) * lo = X := ⟨_, rfl⟩
  obtain ⟨Y, hY⟩ : ∃ Y, (b - a) * hi = Y := ⟨_, rfl⟩
  rw [hX] at hx hwx ⊢
  rw [hY] at hy hwy ⊢
  go_enter Try.func40, Try.ntmps40
  go_wp2_with (first | (go_at_call 38; refine (lspan_at _ _ _).mono ?_; rintro e y ⟨rfl, rfl⟩))
  all_goals refine bodyPost_ret (v := .agg #[.int .i64 (a + X / 100), .int .i64 (a + Y / 100)]) (by simp [results, Try.results40, go_sem]) rfl ⟨rfl, ?_⟩
  all_goals (with_reducible (repeat (first | exact Ext.refl _ | assumption | apply Ext.alloc | apply Ext.drew | exact ext_plus _ _ | (apply Ext.setCell; rotate_left; (simp <;> omega)) | (apply Ext.trans; rotate_left; exact ext_plus _ _) | (apply Ext.trans; rotate_left; assumption))))
theorem stocksR (r : R.Reef) (plan : List Int) (vp vl : Value) (w : World) (hP : Places w vp r.places) (hL : Ints w vl plan) (hn : r.places.length ≤ 1000000) (hm : plan.length ≤ 1000000) (h : rightB r plan = true) :
    Calls Try.prog 41 #[.agg (reefV r vp), vl] w fun x w' => ∃ v, x = .returned (.tuple #[v, .int .i64 0]) ∧ SpanRows w' v (R.stocks r plan) ∧ Ext w w' := by
  have hh := stocksQ_any r plan vp vl w hP hL hn hm
  simp only [h, if_true, show codeOf true = 0 from rfl] at hh
  exact hh
theorem stocksLen (r : R.Reef) (plan : List Int) : (R.stocks r plan).length = r.seasons.toNat := by simp [R.stocks]
theorem stkRow (r : R.Reef) (plan : List Int) {s : Nat} (h : s < (R.stocks r plan).length) : (R.stocks r plan)[s].length = r.places.length := by simp [R.stocks]
theorem stkAt (r : R.Reef) (plan : List Int) {s : Nat} (h : s < (R.stocks r plan).length) (i : Nat) (hi : i < (R.stocks r plan)[s].length) : (R.stocks r plan)[s][i] = (R.stk r plan false s i, R.stk r plan true s i) := by
  simp [R.stocks, R.stk]
theorem right_regrow {r : R.Reef} {plan : List Int} (h : rightB r plan = true) (f : R.Place → Int × Int) (hf : ∀ i, i < r.places.length → 0 ≤ (f (R.pat r.places i)).1 ∧ (f (R.pat r.places i)).1 ≤ (f (R.pat r.places i)).2 ∧ (f (R.pat r.places i)).2 ≤ 2000) : rightB (R.regrow f r) plan = true := by
  unfold rightB at h ⊢
  rw [Bool.and_eq_true] at h ⊢
  refine ⟨?_, R.okL_iff.2 (R.okL_regrow (R.okL_iff.1 h.2) f)⟩
  have hb := h.1
  unfold R.reefB R.goodTo at hb ⊢
  rw [R.regrow_len]
  simp only [Bool.and_eq_true, List.all_eq_true, List.mem_range] at hb ⊢
  refine ⟨⟨⟨fun i hi => ?_, hb.1.1.2⟩, hb.1.2⟩, hb.2⟩
  have hp := hb.1.1.1 i hi
  have hg := hf i hi
  rw [R.pat_regrow f r hi]
  unfold R.placeB R.within R.spanB at hp ⊢
  simp only [Bool.and_eq_true, decide_eq_true_eq, Bool.not_eq_true', decide_eq_false_iff_not] at hp ⊢
  obtain ⟨⟨⟨⟨⟨⟨⟨⟨⟨⟨⟨p1, p2⟩, p3⟩, p4⟩, p5⟩, p6⟩, p7⟩, p8⟩, p9⟩, p10⟩, p11⟩, p12⟩ := hp
  exact ⟨⟨⟨⟨⟨⟨⟨⟨⟨⟨⟨p1, p2⟩, p3⟩, ⟨⟨hg.1, hg.2.1⟩, hg.2.2⟩⟩, p5⟩, p6⟩, p7⟩, p8⟩, p9⟩, p10⟩, p11⟩, p12⟩
/-- What the four stocks must fulfil. -/
structure Fits (m n : Nat) (SA SB SC SD : List (List (Int × Int))) : Prop where
  la : SA.length = m
  lb : SB.length = m
  lc : SC.length = m
  ld : SD.length = m
  ra : ∀ s (h : s < SA.length), SA[s].length = n
  rb : ∀ s (h : s < SB.length), SB[s].length = n
  rc : ∀ s (h : s < SC.length), SC[s].length = n
  rd : ∀ s (h : s < SD.length), SD[s].length = n
  le : ∀ s (ha : s < SA.length) (hb : s < SB.length) (hc : s < SC.length) (hd : s < SD.length) i (h1 : i < SA[s].length) (h2 : i < SB[s].length) (h3 : i < SC[s].length) (h4 : i < SD[s].length),
    SA[s][i].1 ≤ SB[s][i].1 ∧ SA[s][i].2 ≤ SB[s][i].2 ∧ SA[s][i].1 ≤ SD[s][i].1 ∧ SA[s][i].2 ≤ SD[s][i].2 ∧ SA[s][i].1 ≤ SC[s][i].1 ∧ SC[s][i].2 ≤ SA[s][i].2
theorem fits_all {r : R.Reef} {plan : List Int} (h : rightB r plan = true) {s p : Nat} (hs : s < plan.length) (hp : p < r.places.length) {low high faster : Int} (h0 : 0 ≤ low) (h1 : low ≤ high) (h2 : high ≤ 100) (h3 : 0 ≤ faster) :
    Fits r.seasons.toNat r.places.length (R.stocks r plan) (R.stocks r (R.moreL plan s p)) (R.stocks (R.regrow (R.narrowF low high) r) plan) (R.stocks (R.regrow (R.fasterF faster) r) plan) := by
  unfold rightB at h
  rw [Bool.and_eq_true] at h
  have O := R.okR_of h.1
  have OL := R.okL_iff.1 h.2
  have C := R.shuts_of h.1
  refine ⟨stocksLen _ _, stocksLen _ _, stocksLen _ _, stocksLen _ _, fun s h => stkRow _ _ h, fun s h => stkRow _ _ h, fun s h => (stkRow _ _ h).trans (R.regrow_len _ _), fun s h => (stkRow _ _ h).trans (R.regrow_len _ _), ?_⟩
  intro q ha hb hc hd i i1 i2 i3 i4
  have hq : q < r.seasons.toNat := by rw [stocksLen] at ha; exact ha
  rw [stkAt _ _ ha i i1, stkAt _ _ hb i i2, stkAt _ _ hc i i3, stkAt _ _ hd i i4]
  have a1 := R.more_le O C OL hs hp false hq i
  have a2 := R.more_le O C OL hs hp true hq i
  have a3 := R.faster_le (plan := plan) O h3 false hq i
  have a4 := R.faster_le (plan := plan) O h3 true hq i
  have a5 := R.narrow_le (plan := plan) O h0 h1 h2 hq i
  exact ⟨a1, a2, a3, a4, a5.1, a5.2⟩
end Go.Proofs.Ythffoglpekpmdaa
