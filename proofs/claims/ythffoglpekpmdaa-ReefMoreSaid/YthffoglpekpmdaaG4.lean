/- The stocks. -/
import Derived.Test.YthffoglpekpmdaaG3
import Derived.Test.YthffoglpekpmdaaPl4
namespace Go.Proofs.Ythffoglpekpmdaa
set_option linter.unusedVariables false
set_option linter.unusedSimpArgs false
open Go.RowKit
/-- A row of spans in a block of its own, from block n on. -/
def ApartS (n : Nat) (w : World) (p : List (Int × Int) × Value) : Prop := ∃ g' cap, p.2 = .slice (some ⟨g', 0, none⟩) p.1.length cap ∧ RowB spanC 2 44 w g' p.1 ∧ n ≤ g'
theorem ApartS.ext {n : Nat} {w w' : World} {p : List (Int × Int) × Value} (h : ApartS n w p) (he : Ext w w') : ApartS n w' p := by
  obtain ⟨g', cap, e, h1, h2⟩ := h
  exact ⟨g', cap, e, h1.ext he, h2⟩
theorem ApartS.grown {n : Nat} {w w' : World} {row : Option Nat} {p : List (Int × Int) × Value} (h : ApartS n w p) (hg : w.grownBy w' row) (hr : ∀ k, row = some k → ∃ cs e, Blk w k cs e ∧ e ≠ 44) : ApartS n w' p := by
  obtain ⟨g', cap, e, h1, h2⟩ := h
  refine ⟨g', cap, e, h1.move (hg.block g' h1.lt ?_), h2⟩
  intro e'
  obtain ⟨cs, e2, hc, he⟩ := hr g' e'.symm
  obtain ⟨cs', hc', _⟩ := h1
  unfold Blk at hc hc'; rw [hc] at hc'
  have := Option.some.inj hc'
  injection this with _ h2 _
  exact he h2
theorem ApartS.blk {n : Nat} {w : World} {p : List (Int × Int) × Value} (h : ApartS n w p) : ∃ g, p.2.ownBlock = some g ∧ g < w.heap.size := by
  obtain ⟨g', cap, e, h1, h2⟩ := h
  exact ⟨g', by rw [e]; rfl, h1.lt⟩
/-- Rows of spans, each in a block of its own, from block n on. -/
def OwnRows (n : Nat) (w : World) (v : Value) (xs : List (List (Int × Int))) : Prop :=
  ∃ (g cap : Nat) (gs cs : Nat → Nat) (el : Array Value), v = .slice (some ⟨g, 0, none⟩) xs.length cap ∧ n ≤ g ∧ Blk w g el 70 ∧
    (∀ i (h : i < xs.length), el[i]? = some (.slice (some ⟨gs i, 0, none⟩) xs[i].length (cs i)) ∧ n ≤ gs i ∧ RowB spanC 2 44 w (gs i) xs[i]) ∧ (∀ i j, i < xs.length → j < xs.length → i ≠ j → gs i ≠ gs j)
theorem OwnRows.ext {n : Nat} {w w' : World} {v : Value} {xs : List (List (Int × Int))} (h : OwnRows n w v xs) (he : Ext w w') : OwnRows n w' v xs := by
  obtain ⟨g, cap, gs, cs, el, h1, h2, h3, h4, h5⟩ := h
  exact ⟨g, cap, gs, cs, el, h1, h2, h3.ext he, fun i hi => ⟨(h4 i hi).1, (h4 i hi).2.1, (h4 i hi).2.2.ext he⟩, h5⟩
theorem blk_ne {w : World} {a b : Nat} {cs cs' : Array Value} {e e' : TypeId} (h : Blk w a cs e) (h' : Blk w b cs' e') (hne : e ≠ e') : a ≠ b := by
  intro e1
  subst e1
  unfold Blk at h h'; rw [h] at h'
  have := Option.some.inj h'
  injection this with _ h2 _
  exact hne h2
theorem OwnRows.rows {n : Nat} {w : World} {v : Value} {xs : List (List (Int × Int))} (h : OwnRows n w v xs) : SpanRows w v xs := by
  obtain ⟨g, cap, gs, cs, el, h1, h2, h3, h4, h5⟩ := h
  refine ⟨some ⟨g, 0, none⟩, cap, h1, fun i hi => ?_⟩
  obtain ⟨k1, k2, k3⟩ := h4 i hi
  exact ⟨g, 0, rfl, h3.lt, _, by have := h3.cell i; simpa [k1] using this, k3.sls _⟩
/-- One span's lower end stored anew. -/
theorem OwnRows.set {n : Nat} {w : World} {g cap : Nat} {gs cs : Nat → Nat} {el : Array Value} {xs : List (List (Int × Int))} (h3 : Blk w g el 70)
    (h4 : ∀ i (h : i < xs.length), el[i]? = some (.slice (some ⟨gs i, 0, none⟩) xs[i].length (cs i)) ∧ n ≤ gs i ∧ RowB spanC 2 44 w (gs i) xs[i]) (h5 : ∀ i j, i < xs.length → j < xs.length → i ≠ j → gs i ≠ gs j)
    (k : Nat) (hk : k < xs.length) (j : Nat) (hj : j < xs[k].length) (m : Int) (x : Int × Int) (hx : xs[k][j] = x) :
    Blk (w.setCell ⟨gs k, j * 2, none⟩ (.int .i64 m)) g el 70 ∧ (∀ i (h : i < (xs.set k (xs[k].set j (m, x.2))).length), el[i]? = some (.slice (some ⟨gs i, 0, none⟩) (xs.set k (xs[k].set j (m, x.2)))[i].length (cs i)) ∧ n ≤ gs i ∧ RowB spanC 2 44 (w.setCell ⟨gs k, j * 2, none⟩ (.int .i64 m)) (gs i) (xs.set k (xs[k].set j (m, x.2)))[i]) := by
  obtain ⟨k1, k2, k3⟩ := h4 k hk
  have hgk : gs k ≠ g := by
    obtain ⟨cs', hc, _⟩ := k3
    exact blk_ne hc h3 (by decide)
  refine ⟨h3.other (by simpa using hgk) _, fun i hi => ?_⟩
  have hi' : i < xs.length := by simpa using hi
  obtain ⟨l1, l2, l3⟩ := h4 i hi'
  rw [List.getElem_set]
  by_cases e : k = i
  · subst e
    rw [if_pos rfl]
    refine ⟨by simpa using l1, l2, ?_⟩
    obtain ⟨q, hB, hc⟩ := l3
    refine ⟨_, hB.set _ _, fun k' hk' j' u hu => ?_⟩
    have hk2 : k' < xs[k].length := by simpa using hk'
    have h0 := hc j hj 0 _ rfl
    simp only [Nat.add_zero] at h0
    obtain ⟨z0, _⟩ := Array.getElem?_eq_some_iff.1 h0
    rw [List.getElem_set] at hu
    by_cases e2 : j = k'
    · subst e2
      rw [if_pos rfl] at hu
      match j', hu with
      | 0, hu => simp [spanC] at hu; simp [Array.getElem?_setIfInBounds, z0, hu]
      | 1, hu =>
        have h1 := hc j hj 1 _ rfl
        simp [spanC] at hu
        rw [Array.getElem?_setIfInBounds, if_neg (by omega), h1, hx, hu]
      | j' + 2, hu => simp [spanC] at hu
    · rw [if_neg e2] at hu
      have h1 := hc k' hk2 j' u hu
      have hj2 : j' < 2 := by
        match j', hu with
        | 0, _ => omega
        | 1, _ => omega
        | j' + 2, hu => simp [spanC] at hu
      rw [Array.getElem?_setIfInBounds, if_neg (by omega)]
      exact h1
  · rw [if_neg e]
    exact ⟨l1, l2, l3.other (by simpa using (h5 k i hk hi' e)) _⟩
theorem own_blkS {w : World} {base : Nat} {e : TypeId} {s : Nat} {v : Value} {n : Nat} {xs : List Value} (h : w.ownsRow base e s v n xs) (he : e ≠ 44) : ∀ k, v.ownBlock = some k → ∃ cs e, Blk w k cs e ∧ e ≠ 44 := by
  intro k hk
  rcases h.2 with ⟨rfl, _⟩ | ⟨g, cap, cur, rfl, _, hg, _⟩
  · simp [Value.ownBlock] at hk
  · simp [Value.ownBlock] at hk
    subst hk
    exact ⟨_, e, hg, he⟩
theorem OwnRows.of_own {n : Nat} {w : World} {base : Nat} {v : Value} {L : List (List (Int × Int) × Value)} (hn : n ≤ base) (h0 : 0 < L.length) (h : w.ownsRow base 70 1 v L.length (L.map Prod.snd)) (hi : ∀ p ∈ L, ApartS n w p) (hp : L.Pairwise fun p q => p.2.ownBlock ≠ q.2.ownBlock) : OwnRows n w v (L.map Prod.fst) := by
  rcases h.2 with ⟨_, e⟩ | ⟨g, cap', cur, hv, hb, hg, _, _, hcs, htk⟩
  · omega
  · have hA : ∀ i (h : i < L.length), ∃ gc : Nat × Nat, L[i].2 = .slice (some ⟨gc.1, 0, none⟩) L[i].1.length gc.2 ∧ RowB spanC 2 44 w gc.1 L[i].1 ∧ n ≤ gc.1 := fun i h => by
      obtain ⟨g', c', e1, e2, e3⟩ := hi L[i] (List.getElem_mem h)
      exact ⟨(g', c'), e1, e2, e3⟩
    have hF : ∃ f : Nat → Nat × Nat, ∀ i (h : i < L.length), L[i].2 = .slice (some ⟨(f i).1, 0, none⟩) L[i].1.length (f i).2 ∧ RowB spanC 2 44 w (f i).1 L[i].1 ∧ n ≤ (f i).1 :=
      ⟨fun i => if h : i < L.length then (hA i h).choose else (0, 0), fun i h => by simp only [dif_pos h]; exact (hA i h).choose_spec⟩
    obtain ⟨f, hf⟩ := hF
    refine ⟨g, cap', fun i => (f i).1, fun i => (f i).2, cur, by rw [hv]; simp, by omega, hg, fun i hi' => ?_, fun i j h1 h2 hne => ?_⟩
    · have hi2 : i < L.length := by simpa using hi'
      obtain ⟨e1, e2, e3⟩ := hf i hi2
      refine ⟨?_, e3, by simpa using e2⟩
      have h1 : (L.map Prod.snd)[i]? = some L[i].2 := by simp [hi2]
      rw [← htk, List.getElem?_take] at h1
      rw [if_pos (by omega)] at h1
      rw [Array.getElem?_toList] at h1
      rw [h1, e1]; simp
    · have h1' : i < L.length := by simpa using h1
      have h2' : j < L.length := by simpa using h2
      have e1 := (hf i h1').1
      have e2 := (hf j h2').1
      intro he
      rw [List.pairwise_iff_getElem] at hp
      rcases Nat.lt_or_ge i j with hlt | hge
      · refine hp i j h1' h2' hlt ?_
        rw [e1, e2]; simp [Value.ownBlock, he]
      · refine hp j i h2' h1' (by omega) ?_
        rw [e1, e2]; simp [Value.ownBlock, he]
theorem ListsF.five {n b : Nat} {w : World} {v : Value} {xs : List (List Int)} (h : ListsF n w v xs) (hb : b < n) (u0 u1 u2 u3 u4 : Value) : Lists (((((w.setCell ⟨b, 0, none⟩ u0).setCell ⟨b, 1, none⟩ u1).setCell ⟨b, 2, none⟩ u2).setCell ⟨b, 3, none⟩ u3).setCell ⟨b, 4, none⟩ u4) v xs := (h.off hb ((((((Off.refl b b w).set (a := ⟨b, 0, none⟩) (.inl rfl) u0).set (a := ⟨b, 1, none⟩) (.inl rfl) u1).set (a := ⟨b, 2, none⟩) (.inl rfl) u2).set (a := ⟨b, 3, none⟩) (.inl rfl) u3).set (a := ⟨b, 4, none⟩) (.inl rfl) u4)).lists
theorem Ext.five {b : Nat} {w1 w : World} (h : Ext w1 w) (hb : w1.heap.size ≤ b) (u0 u1 u2 u3 u4 : Value) : Ext w1 (((((w.setCell ⟨b, 0, none⟩ u0).setCell ⟨b, 1, none⟩ u1).setCell ⟨b, 2, none⟩ u2).setCell ⟨b, 3, none⟩ u3).setCell ⟨b, 4, none⟩ u4) := (((((h.setCell (p := ⟨b, 0, none⟩) hb u0).setCell (p := ⟨b, 1, none⟩) hb u1).setCell (p := ⟨b, 2, none⟩) hb u2).setCell (p := ⟨b, 3, none⟩) hb u3).setCell (p := ⟨b, 4, none⟩) hb u4)
theorem follow_any' (r : R.Reef) (plan : List Int) (t : R.Truth) (vp vl vs vg vt : Value) (w : World) (hP : Places w vp r.places) (hL : Ints w vl plan) (hS : Ints w vs t.starts) (hG : Lists w vg t.grows) (hT : Lists w vt t.takes)
    (O : R.OkR r) (T : R.OkT r plan t) :
    Calls Try.prog 52 #[.agg (planV r vp vl), .agg (truthV vs vg vt)] w fun x w' => ∃ v a b c d e, x = .returned (.tuple #[v, .agg #[.int .i64 a, .int .i64 b, .int .i64 c, .int .i64 d, .int .i64 e]]) ∧ ListsF w.heap.size w' v (R.fishOf r t) ∧ Ext w w' :=
  (follow_any r plan t vp vl vs vg vt w hP hL hS hG hT O T).mono fun _ _ ⟨v, h1, h2, h3⟩ => ⟨v, _, _, _, _, _, h1, h2, h3⟩
set_option maxRecDepth 100000 in
set_option maxHeartbeats 16000000 in
theorem stocks_own (r : R.Reef) (plan : List Int) (vp vl : Value) (w : World) (hP : Places w vp r.places) (hPl : Ints w vl plan) (O : R.OkR r) (OL : R.OkL r plan) :
    Calls Try.prog 68 #[.agg (planV r vp vl)] w fun x w' => ∃ v, x = .returned v ∧ OwnRows w.heap.size w' v (R.stocks r plan) ∧ Ext w w' := by
  have hP' := hP
  have hL' := hPl
  obtain ⟨a1, c1, rfl, _⟩ := hP'
  obtain ⟨a2, c2, rfl, _⟩ := hL'
  obtain ⟨i0, hi, hz0, hz1, hz2⟩ := info_parts span_info
  obtain ⟨i9, hi9, hy0, hy1, hy2⟩ := info_parts spanRow_info
  have hn1 : 0 < r.places.length := O.n1
  have hn4 := O.n4
  obtain ⟨mm, hmm⟩ := Int.eq_ofNat_of_zero_le (show 0 ≤ r.seasons by have := O.s1; omega)
  have hm4 : mm ≤ 4 := by have := O.s4; omega
  have hms : r.seasons.toNat = mm := by omega
  have hmp : 0 < mm := by have := O.s1; omega
  have HTR := Lib.hid (fun m w' (hx : Ext w w') => truth_any r plan m _ _ w' (hP.ext hx) (hPl.ext hx) O OL)
  have HFO := Lib.hid (fun m w' vs vg vt (hx : Ext w w') hs hg ht => follow_any' r plan (R.endT r plan m) _ _ vs vg vt w' (hP.ext hx) (hPl.ext hx) hs hg ht O (R.okT_end O m))
  have HLEN := Lib.hid (fun m => (R.fishOf_len r (R.endT r plan m)).trans hms)
  have HROW := Lib.hid (fun m s (h : s < mm) => R.fishOf_row O (R.okT_end (plan := plan) O m) (s := s) (by omega))
  have HSTK := Lib.hid (show R.stocks r plan = (List.range mm).map fun s => (List.range r.places.length).map fun i => (R.iat (R.lat (R.fishOf r (R.endT r plan false)) s) i, R.iat (R.lat (R.fishOf r (R.endT r plan true)) s) i) by unfold R.stocks; rw [hms])
  obtain ⟨S, hS⟩ : ∃ S, R.stocks r plan = S := ⟨_, rfl⟩
  rw [hS]
  have HS := Lib.hid hS
  clear hS hmm hms O OL
  go_enter Try.func68, Try.ntmps68
  go_upto_region 1 with (fail)
  obtain ⟨w1, hw1⟩ : ∃ w1, w.alloc (.cells (planV r (.slice a1 r.places.length c1) (.slice a2 plan.length c2)) 82) = w1 := ⟨_, rfl⟩
  have hbx : Blk w1 w.heap.size (planV r (.slice a1 r.places.length c1) (.slice a2 plan.length c2)) 82 := by rw [← hw1]; exact Blk.new' rfl _ _
  have hE1 : Ext w w1 := by rw [← hw1]; (with_reducible (repeat (first | exact Ext.refl _ | assumption | apply Ext.alloc | apply Ext.drew | exact ext_plus _ _ | (apply Ext.setCell; rotate_left; (simp <;> omega)) | (apply Ext.trans; rotate_left; exact ext_plus _ _) | (apply Ext.trans; rotate_left; assumption))))
  rw [hw1]
  clear hw1
  obtain ⟨X, hX⟩ : ∃ X, R.fishOf r (R.endT r plan false) = X := ⟨_, rfl⟩
  obtain ⟨Z, hZ⟩ : ∃ Z, R.fishOf r (R.endT r plan true) = Z := ⟨_, rfl⟩
  have hlX := HLEN.out false
  have hlZ := HLEN.out true
  have hrX := HROW.out false
  have hrZ := HROW.out true
  have hst := HSTK.out
  rw [HS.out] at hst
  rw [hX] at hlX hrX hst
  rw [hZ] at hlZ hrZ hst
  have HST := Lib.hid hst
  have HRX := Lib.hid hrX
  have HRZ := Lib.hid hrZ
  have HLX := Lib.hid hlX
  have HLZ := Lib.hid hlZ
  have HX := Lib.hid hX
  have HZ := Lib.hid hZ
  clear hlX hlZ hrX hrZ hst hX hZ HLEN HROW HSTK
  go_cut [3] from 13 to 59 (fun s3 wc => Lists wc s3 X ∧ Ext w1 wc)
  case first =>
    go_region_held3 (fun y => (∀ o, y.cell? ⟨w.heap.size, o, none⟩ = (planV r (.slice a1 r.places.length c1) (.slice a2 plan.length c2))[o]?) ∧ Ext w1 y)
      (first | exact ⟨blk_of hbx (by (with_reducible (repeat (first | exact Ext.refl _ | assumption | apply Ext.alloc | apply Ext.drew | exact ext_plus _ _ | (apply Ext.setCell; rotate_left; (simp <;> omega)) | (apply Ext.trans; rotate_left; exact ext_plus _ _) | (apply Ext.trans; rotate_left; assumption))))), by (with_reducible (repeat (first | exact Ext.refl _ | assumption | apply Ext.alloc | apply Ext.drew | exact ext_plus _ _ | (apply Ext.setCell; rotate_left; (simp <;> omega)) | (apply Ext.trans; rotate_left; exact ext_plus _ _) | (apply Ext.trans; rotate_left; assumption))))⟩)
      (first | (go_at_call 85; refine (HTR.out false _ (hE1.trans (by (with_reducible (repeat (first | exact Ext.refl _ | assumption | apply Ext.alloc | apply Ext.drew | exact ext_plus _ _ | (apply Ext.setCell; rotate_left; (simp <;> omega)) | (apply Ext.trans; rotate_left; exact ext_plus _ _) | (apply Ext.trans; rotate_left; assumption))))))).mono ?_; rintro e y1 ⟨vs, vg, vt, rfl, h1s, h1g, h1t, hy1⟩; have k1 := hy1.cells.1; have k2 := hy1.cells.2; have k3 := hy1.size; (try simp only [size_drew, World.size_alloc] at k1 k2 k3); (try have k7 : w1.heap.size < y1.heap.size := (by omega))) | (go_at_call 52; refine (HFO.out false _ _ _ _ (hE1.trans (by (with_reducible (repeat (first | exact Ext.refl _ | assumption | apply Ext.alloc | apply Ext.drew | exact ext_plus _ _ | (apply Ext.setCell; rotate_left; (simp <;> omega)) | (apply Ext.trans; rotate_left; exact ext_plus _ _) | (apply Ext.trans; rotate_left; assumption)))))) (h1s.ext (by (with_reducible show Ext _ _; (with_reducible (repeat (first | exact Ext.refl _ | assumption | apply Ext.alloc | apply Ext.drew | exact ext_plus _ _ | (apply Ext.setCell; rotate_left; (simp <;> omega)) | (apply Ext.trans; rotate_left; exact ext_plus _ _) | (apply Ext.trans; rotate_left; assumption)))); done))) (h1g.ext (by (with_reducible show Ext _ _; (with_reducible (repeat (first | exact Ext.refl _ | assumption | apply Ext.alloc | apply Ext.drew | exact ext_plus _ _ | (apply Ext.setCell; rotate_left; (simp <;> omega)) | (apply Ext.trans; rotate_left; exact ext_plus _ _) | (apply Ext.trans; rotate_left; assumption)))); done))) (h1t.ext (by (with_reducible show Ext _ _; (with_reducible (repeat (first | exact Ext.refl _ | assumption | apply Ext.alloc | apply Ext.drew | exact ext_plus _ _ | (apply Ext.setCell; rotate_left; (simp <;> omega)) | (apply Ext.trans; rotate_left; exact ext_plus _ _) | (apply Ext.trans; rotate_left; assumption)))); done)))).mono ?_; rintro e y2 ⟨v2, q1, q2, q3, q4, q5, rfl, h2, hy2⟩; have k4 := hy2.cells.1; have k5 := hy2.cells.2; have k6 := hy2.size; (try simp only [size_drew, World.size_alloc] at k4 k5 k6)))
    all_goals (dsimp only [Exit.then]; go_wp2; go_meet)
    all_goals rw [HX.out] at h2
    all_goals refine ⟨?_, ?_⟩
    all_goals first
      | (with_reducible refine ListsF.five h2 ?_ _ _ _ _ _; (try simp only [size_drew, World.size_alloc]); omega)
      | (with_reducible exact h2.lists.ext ((Ext.refl _).alloc _))
      | (with_reducible refine Ext.five ?_ ?_ _ _ _ _ _ <;> first | omega | (with_reducible show Ext _ _; (with_reducible (repeat (first | exact Ext.refl _ | assumption | apply Ext.alloc | apply Ext.drew | exact ext_plus _ _ | (apply Ext.setCell; rotate_left; (simp <;> omega)) | (apply Ext.trans; rotate_left; exact ext_plus _ _) | (apply Ext.trans; rotate_left; assumption)))); done))
      | (with_reducible show Ext _ _; (with_reducible (repeat (first | exact Ext.refl _ | assumption | apply Ext.alloc | apply Ext.drew | exact ext_plus _ _ | (apply Ext.setCell; rotate_left; (simp <;> omega)) | (apply Ext.trans; rotate_left; exact ext_plus _ _) | (apply Ext.trans; rotate_left; assumption)))); done)
  case rest =>
    obtain ⟨hLX, hE2⟩ := hcut
    rename World => w2
    have hbx2 := hbx.ext hE2
    have hEw2 := hE1.trans hE2
    go_upto_region 2 with (fail)
    go_cut [5] from 13 to 59 (fun s5 wc => Lists wc s5 Z ∧ Ext w2 wc)
    case first =>
      go_region_held3 (fun y => (∀ o, y.cell? ⟨w.heap.size, o, none⟩ = (planV r (.slice a1 r.places.length c1) (.slice a2 plan.length c2))[o]?) ∧ Ext w2 y)
        (first | exact ⟨blk_of hbx2 (by (with_reducible (repeat (first | exact Ext.refl _ | assumption | apply Ext.alloc | apply Ext.drew | exact ext_plus _ _ | (apply Ext.setCell; rotate_left; (simp <;> omega)) | (apply Ext.trans; rotate_left; exact ext_plus _ _) | (apply Ext.trans; rotate_left; assumption))))), by (with_reducible (repeat (first | exact Ext.refl _ | assumption | apply Ext.alloc | apply Ext.drew | exact ext_plus _ _ | (apply Ext.setCell; rotate_left; (simp <;> omega)) | (apply Ext.trans; rotate_left; exact ext_plus _ _) | (apply Ext.trans; rotate_left; assumption))))⟩)
        (first | (go_at_call 85; refine (HTR.out true _ (hEw2.trans (by (with_reducible (repeat (first | exact Ext.refl _ | assumption | apply Ext.alloc | apply Ext.drew | exact ext_plus _ _ | (apply Ext.setCell; rotate_left; (simp <;> omega)) | (apply Ext.trans; rotate_left; exact ext_plus _ _) | (apply Ext.trans; rotate_left; assumption))))))).mono ?_; rintro e y1 ⟨vs, vg, vt, rfl, h1s, h1g, h1t, hy1⟩; have k1 := hy1.cells.1; have k2 := hy1.cells.2; have k3 := hy1.size; (try simp only [size_drew, World.size_alloc] at k1 k2 k3); (try have k7 : w2.heap.size < y1.heap.size := (by omega))) | (go_at_call 52; refine (HFO.out true _ _ _ _ (hEw2.trans (by (with_reducible (repeat (first | exact Ext.refl _ | assumption | apply Ext.alloc | apply Ext.drew | exact ext_plus _ _ | (apply Ext.setCell; rotate_left; (simp <;> omega)) | (apply Ext.trans; rotate_left; exact ext_plus _ _) | (apply Ext.trans; rotate_left; assumption)))))) (h1s.ext (by (with_reducible show Ext _ _; (with_reducible (repeat (first | exact Ext.refl _ | assumption | apply Ext.alloc | apply Ext.drew | exact ext_plus _ _ | (apply Ext.setCell; rotate_left; (simp <;> omega)) | (apply Ext.trans; rotate_left; exact ext_plus _ _) | (apply Ext.trans; rotate_left; assumption)))); done))) (h1g.ext (by (with_reducible show Ext _ _; (with_reducible (repeat (first | exact Ext.refl _ | assumption | apply Ext.alloc | apply Ext.drew | exact ext_plus _ _ | (apply Ext.setCell; rotate_left; (simp <;> omega)) | (apply Ext.trans; rotate_left; exact ext_plus _ _) | (apply Ext.trans; rotate_left; assumption)))); done))) (h1t.ext (by (with_reducible show Ext _ _; (with_reducible (repeat (first | exact Ext.refl _ | assumption | apply Ext.alloc | apply Ext.drew | exact ext_plus _ _ | (apply Ext.setCell; rotate_left; (simp <;> omega)) | (apply Ext.trans; rotate_left; exact ext_plus _ _) | (apply Ext.trans; rotate_left; assumption)))); done)))).mono ?_; rintro e y2 ⟨v2, q1, q2, q3, q4, q5, rfl, h2, hy2⟩; have k4 := hy2.cells.1; have k5 := hy2.cells.2; have k6 := hy2.size; (try simp only [size_drew, World.size_alloc] at k4 k5 k6)))
      all_goals (dsimp only [Exit.then]; go_wp2; go_meet)
      all_goals rw [HZ.out] at h2
      all_goals refine ⟨?_, ?_⟩
      all_goals first
        | (with_reducible refine ListsF.five h2 ?_ _ _ _ _ _; (try simp only [size_drew, World.size_alloc]); omega)
        | (with_reducible exact h2.lists.ext ((Ext.refl _).alloc _))
        | (with_reducible refine Ext.five ?_ ?_ _ _ _ _ _ <;> first | omega | (with_reducible show Ext _ _; (with_reducible (repeat (first | exact Ext.refl _ | assumption | apply Ext.alloc | apply Ext.drew | exact ext_plus _ _ | (apply Ext.setCell; rotate_left; (simp <;> omega)) | (apply Ext.trans; rotate_left; exact ext_plus _ _) | (apply Ext.trans; rotate_left; assumption)))); done))
        | (with_reducible show Ext _ _; (with_reducible (repeat (first | exact Ext.refl _ | assumption | apply Ext.alloc | apply Ext.drew | exact ext_plus _ _ | (apply Ext.setCell; rotate_left; (simp <;> omega)) | (apply Ext.trans; rotate_left; exact ext_plus _ _) | (apply Ext.trans; rotate_left; assumption)))); done)
    case rest =>
      obtain ⟨hLZ, hE3⟩ := hcut
      rename World => w3
      have hLX3 := hLX.ext hE3
      have hEw3 := hEw2.trans hE3
      clear hLX hbx hbx2 HTR HFO hE2 hE3 hE1 hEw2
      obtain ⟨a3, c3, rfl, hx3⟩ := hLX3
      obtain ⟨a4, c4, rfl, hx4⟩ := hLZ
      have HX3 := Lib.hid hx3
      have HX4 := Lib.hid hx4
      clear hx3 hx4
      have hlX : X.length = mm := HLX.out
      have hlZ : Z.length = mm := HLZ.out
      have HLX' := Lib.hid hlX
      have HLZ' := Lib.hid hlZ
      clear hlX hlZ
      go_wp2
      go_loopw [7, 8, 9, 10, 11, 12, 29] (fun v _ _ _ _ _ i wr => ∃ (k : Nat) (L : List (List (Int × Int) × Value)), k ≤ mm ∧ i = .int .i64 k ∧ L.length = k ∧ wr.ownsRow w3.heap.size 70 1 v L.length (L.map Prod.snd) ∧ (∀ p ∈ L, ApartS w.heap.size wr p) ∧ (L.Pairwise fun p q => p.2.ownBlock ≠ q.2.ownBlock) ∧
          L.map Prod.fst = (List.range k).map (fun s => (List.range r.places.length).map fun i => (R.iat (R.lat X s) i, R.iat (R.lat Z s) i)) ∧ Ext w3 wr)
        (fun _ _ _ _ _ _ i _ => mm - (intOf i).toNat)
      case atStart => exact ⟨0, [], Nat.zero_le _, rfl, rfl, World.ownsRow_nil _ _ _ _, by simp, List.Pairwise.nil, rfl, Ext.refl _⟩
      case round =>
        rename World => wr
        obtain ⟨k, L, hk, rfl, hl, hown, hA, hpw, hf, hE⟩ := hrel
        have HA := Lib.hid hA
        have HPW := Lib.hid hpw
        have HF := Lib.hid hf
        have HL := Lib.hid hl
        have hl4 : L.length ≤ 4 := by omega
        clear hA hf hl hpw
        by_cases hlt : k < mm
        · have hkX : k < X.length := by have := HLX'.out; omega
          have hkZ : k < Z.length := by have := HLZ'.out; omega
          obtain ⟨b3, off3, rfl, hb3, v3, h03, hv3, _⟩ := HX3.out k hkX
          obtain ⟨b4, off4, rfl, hb4, v4, h04, hv4, _⟩ := HX4.out k hkZ
          have r3 := HRX.out k hlt
          have r4 := HRZ.out k hlt
          have HLA := Lib.hid (lat_of hkX)
          have HLB := Lib.hid (lat_of hkZ)
          rw [lat_of hkX] at r3
          rw [lat_of hkZ] at r4
          simp only [Nat.mul_one] at h03 h04
          have u3 := (hE.cells.1 _ _ hb3).trans h03
          have u4 := (hE.cells.1 _ _ hb4).trans h04
          clear h03 h04
          obtain ⟨x, hx⟩ : ∃ x, X[k] = x := ⟨_, rfl⟩
          obtain ⟨z, hz⟩ : ∃ z, Z[k] = z := ⟨_, rfl⟩
          rw [hx] at hv3 r3 HLA
          rw [hz] at hv4 r4 HLB
          clear hx hz
          obtain ⟨a5, c5, rfl, hx5⟩ := hv3
          obtain ⟨a6, c6, rfl, hx6⟩ := hv4
          rw [r3] at u3
          rw [r4] at u4
          have HX5 := Lib.hid hx5
          have HX6 := Lib.hid hx6
          have HR3 := Lib.hid r3
          have HR4 := Lib.hid r4
          have hz3 := hE.size
          have q4 : b4 < wr.heap.size := Nat.lt_of_lt_of_le hb4 hz3
          clear hx5 hx6 r3 r4
          obtain ⟨rw_, hrw⟩ : ∃ rw_, (List.range r.places.length).map (fun i => (R.iat x i, R.iat z i)) = rw_ := ⟨_, rfl⟩
          have hrl : rw_.length = r.places.length := by rw [← hrw]; simp
          have hrg : ∀ i (h : i < r.places.length) (h3 : i < x.length) (h4 : i < z.length), rw_[i]? = some (x[i], z[i]) := fun i h h3 h4 => by
            subst hrw; simp [h, h3, h4]
          have HRL := Lib.hid hrl
          have HRG := Lib.hid hrg
          have HRW := Lib.hid hrw
          clear hrl hrg hrw
          obtain ⟨avo, cvo, rfl⟩ := own_slice hown
          go_wp2
          go_loopw [10, 11, 12, 36] (fun v _ _ i wx => ∃ j : Nat, j ≤ r.places.length ∧ i = .int .i64 j ∧ wx.ownsRow wr.heap.size 44 2 v j (preS spanC rw_ j) ∧ Ext wr wx)
            (fun _ _ _ i _ => r.places.length - (intOf i).toNat)
          case atStart => exact ⟨0, Nat.zero_le _, rfl, World.ownsRow_nil _ _ _ _, Ext.refl _⟩
          case round =>
            rename World => wx
            obtain ⟨j, hj, rfl, hownr, hEx⟩ := hrel
            have u4' := (hEx.cells.1 _ _ q4).trans u4
            have hzx := hEx.size
            by_cases hlj : j < r.places.length
            · have hjx : j < x.length := by have := HR3.out; omega
              have hjz : j < z.length := by have := HR4.out; omega
              obtain ⟨b5, off5, rfl, hb5, h05⟩ := HX5.out j hjx
              obtain ⟨b6, off6, rfl, hb6, h06⟩ := HX6.out j hjz
              have hEa := hE.trans hEx
              have u5 := (hEa.cells.1 _ _ hb5).trans h05
              have u6 := (hEa.cells.1 _ _ hb6).trans h06
              have hps := preS_succ spanC rw_ (k := j) (by have := HRL.out; omega)
              obtain ⟨_, hrj⟩ := List.getElem?_eq_some_iff.1 (HRG.out j hlj hjx hjz)
              rw [hrj] at hps
              have HPS := Lib.hid hps
              obtain ⟨A, hAA⟩ : ∃ A, x[j] = A := ⟨_, rfl⟩
              obtain ⟨B, hBB⟩ : ∃ B, z[j] = B := ⟨_, rfl⟩
              rw [hAA] at u5 HPS
              rw [hBB] at u6 HPS
              clear h05 h06 hps hAA hBB hrj
              go_wp2_with (first | (at_builtin; refine wpList_append_own _ rfl _ _ 70 rfl (wr.heap.size) 44 i0 (.agg #[.int .i64 0, .int .i64 0]) 2 16 Try.underlying70 hi hz0 hz1 hz2 rfl (by decide) _ _ _ rfl (hownr.alloc _) ⟨wx.heap.size, 0, none⟩ 1 1 [.int .i64 A, .int .i64 B] rfl rfl (cell_two _ _ _ _ (by simp)) (two_ints _ _) (by unfold maxLen; omega) (by omega) (by simp <;> omega) ?_; intro v' w1 hown' hgrow _; obtain ⟨g', cap', rfl⟩ := own_succ hown'))
              refine ⟨⟨j + 1, by omega, by go_num, ?_, (hEx.alloc _).grown hgrow (own_base hownr)⟩, by simp [intOf]; omega⟩
              rw [HPS.out]
              exact hown'
            · obtain rfl : j = r.places.length := by omega
              obtain ⟨g, cap, rfl, hg1, hg2⟩ := own_pos hownr hn1
              have hpa : preS spanC rw_ r.places.length = rw_.flatMap spanC := by have h := preS_all spanC rw_; rwa [HRL.out] at h
              rw [hpa] at hownr
              have hrowb : RowB spanC 2 44 wx g rw_ := RowB.of_own (f := spanC) spanC_len (by rw [HRL.out]; exact hownr)
              have hownx := own_ext hown hEx
              clear u4' hownr hpa u3 u4
              go_wp2_with (first | (at_builtin; refine wpList_append_own _ rfl _ _ 67 rfl w3.heap.size 70 i9 (.slice none 0 0) 1 24 Try.underlying67 hi9 hy0 hy1 hy2 rfl (by decide) _ _ _ rfl (hownx.alloc _) ⟨wx.heap.size, 0, none⟩ 1 1 [.slice (some ⟨g, 0, none⟩) r.places.length cap] rfl rfl (cell_one _ _ _ (by simp)) (one_cell _ rfl) (by unfold maxLen; omega) (by omega) (by simp <;> omega) ?_; intro v6 w6 hown6 hgr6 _; obtain ⟨g6, cap6, rfl⟩ := own_succ hown6))
              have hoi := own_blkS (hownx.alloc (.cells #[.slice (some ⟨g, 0, none⟩) r.places.length cap] 70)) (by decide)
              refine ⟨⟨k + 1, L ++ [(rw_, .slice (some ⟨g, 0, none⟩) r.places.length cap)], by omega, by go_num, by simp [HL.out], by simpa using hown6, ?_, ?_, ?_, Ext.grown ((hE.trans hEx).alloc _) hgr6 (own_base hownx)⟩, by simp [intOf]; omega⟩
              · intro p hp
                rw [List.mem_append, List.mem_singleton] at hp
                rcases hp with hp | rfl
                · exact (((HA.out p hp).ext hEx).ext ((Ext.refl _).alloc _)).grown hgr6 hoi
                · have h1 : ApartS w.heap.size wx (rw_, .slice (some ⟨g, 0, none⟩) r.places.length cap) := ⟨g, cap, by simp [HRL.out], hrowb, by have := hEw3.size; omega⟩
                  exact (h1.ext ((Ext.refl _).alloc _)).grown hgr6 hoi
              · rw [List.pairwise_append]
                refine ⟨HPW.out, List.pairwise_singleton _ _, fun p hp q hq => ?_⟩
                rw [List.mem_singleton] at hq
                subst hq
                obtain ⟨g', e1, e2⟩ := (HA.out p hp).blk
                rw [e1]
                simp [Value.ownBlock]
                omega
              · rw [List.map_append, HF.out, List.range_succ, List.map_append, ← HRW.out, ← HLA.out, ← HLB.out]; rfl
        · obtain rfl : k = mm := by omega
          have hkX : ¬ (k : Int) < (X.length : Int) := by have := HLX'.out; omega
          have hSR := OwnRows.of_own hEw3.size (by rw [HL.out]; exact hmp) hown HA.out HPW.out
          rw [HF.out, ← HST.out] at hSR
          obtain ⟨av, cv, rfl⟩ := own_slice hown
          go_wp2
          go_ret
          exact ⟨_, rfl, hSR, hEw3.trans hE⟩
theorem stocks_any (r : R.Reef) (plan : List Int) (vp vl : Value) (w : World) (hP : Places w vp r.places) (hPl : Ints w vl plan) (O : R.OkR r) (OL : R.OkL r plan) :
    Calls Try.prog 68 #[.agg (planV r vp vl)] w fun x w' => ∃ v, x = .returned v ∧ SpanRows w' v (R.stocks r plan) ∧ Ext w w' :=
  (stocks_own r plan vp vl w hP hPl O OL).mono fun _ _ ⟨v, h1, h2, h3⟩ => ⟨v, h1, h2.rows, h3⟩
end Go.Proofs.Ythffoglpekpmdaa
