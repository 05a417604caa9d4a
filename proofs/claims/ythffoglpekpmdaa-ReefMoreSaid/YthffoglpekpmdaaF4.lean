/- A reef is followed in truth. -/
import Derived.Test.YthffoglpekpmdaaF3
namespace Go.Proofs.Ythffoglpekpmdaa
set_option linter.unusedVariables false
set_option linter.unusedSimpArgs false
open Go.RowKit
/-- The state after k of the three steps of a season. -/
def midS (ps : List R.Place) (gs ks : List Int) (x : R.State) : Nat → R.State
  | 0 => x
  | 1 => ⟨(R.growTo ps gs (x.fish, x.grown) ps.length).1, (R.growTo ps gs (x.fish, x.grown) ps.length).2, x.gone, x.taken⟩
  | 2 => ⟨(R.driftTo ps (R.growTo ps gs (x.fish, x.grown) ps.length).1 ((R.growTo ps gs (x.fish, x.grown) ps.length).1, x.gone) ps.length).1, (R.growTo ps gs (x.fish, x.grown) ps.length).2,
      (R.driftTo ps (R.growTo ps gs (x.fish, x.grown) ps.length).1 ((R.growTo ps gs (x.fish, x.grown) ps.length).1, x.gone) ps.length).2, x.taken⟩
  | _ => R.season ps gs ks x
/-- A row of ints that lies apart from the blocks that are written. -/
def Apart (b g n : Nat) (w : World) (p : List Int × Value) : Prop := ∃ g' cap, p.2 = .slice (some ⟨g', 0, none⟩) p.1.length cap ∧ g' ≠ b ∧ g' ≠ g ∧ IRow w g' p.1 ∧ n ≤ g'
theorem Apart.off {b g n : Nat} {w w' : World} {p : List Int × Value} (h : Apart b g n w p) (ho : Off b g w w') : Apart b g n w' p := by
  obtain ⟨g', cap, e, h1, h2, h3, hN⟩ := h
  exact ⟨g', cap, e, h1, h2, h3.off ho h1 h2, hN⟩
theorem Apart.ext {b g n : Nat} {w w' : World} {p : List Int × Value} (h : Apart b g n w p) (ho : Ext w w') : Apart b g n w' p := h.off (ho.off _ _)
theorem Apart.grown {b g n : Nat} {w w' : World} {row : Option Nat} {p : List Int × Value} (h : Apart b g n w p) (hg : w.grownBy w' row) (hr : ∀ k, row = some k → ∃ cs e, Blk w k cs e ∧ e ≠ 3) : Apart b g n w' p := by
  obtain ⟨g', cap, e, h1, h2, h3, hN⟩ := h
  refine ⟨g', cap, e, h1, h2, h3.move (hg.block g' h3.lt ?_), hN⟩
  intro e'
  obtain ⟨cs, e2, hc, he⟩ := hr g' e'.symm
  obtain ⟨cs', hc', _⟩ := h3
  unfold Blk at hc hc'; rw [hc] at hc'
  have := Option.some.inj hc'
  injection this with _ h2 _
  exact he h2
theorem own_blk {w : World} {base : Nat} {e : TypeId} {s : Nat} {v : Value} {n : Nat} {xs : List Value} (h : w.ownsRow base e s v n xs) (he : e ≠ 3) : ∀ k, v.ownBlock = some k → ∃ cs e, Blk w k cs e ∧ e ≠ 3 := by
  intro k hk
  rcases h.2 with ⟨rfl, _⟩ | ⟨g, cap, cur, rfl, _, hg, _⟩
  · simp [Value.ownBlock] at hk
  · simp [Value.ownBlock] at hk
    subst hk
    exact ⟨_, e, hg, he⟩
theorem own_off {w w' : World} {base b g : Nat} {e : TypeId} {s : Nat} {v : Value} {n : Nat} {xs : List Value} (h : w.ownsRow base e s v n xs) (ho : Off b g w w') (hb : b < base) (hg : g < base) : w'.ownsRow base e s v n xs := by
  refine ⟨h.1, ?_⟩
  rcases h.2 with h0 | ⟨k, cap, cur, hv, hk, hh, hr⟩
  · exact .inl h0
  · exact .inr ⟨k, cap, cur, hv, hk, (ho.block k (Array.getElem?_eq_some_iff.1 hh).1 (by omega) (by omega)).trans hh, hr⟩
/-- Lists all of whose blocks lie from n on. -/
def RowAtF (n : Nat) (w : World) (b o : Nat) (xs : List Int) : Prop := n ≤ b ∧ ∃ v, w.cell? ⟨b, o, none⟩ = some v ∧ Ints w v xs ∧ Tight v ∧ ∀ k, v.ownBlock = some k → n ≤ k
def ListsF (n : Nat) (w : World) (v : Value) (xs : List (List Int)) : Prop := Sls 1 (RowAtF n) w v xs
theorem ListsF.lists {n : Nat} {w : World} {v : Value} {xs : List (List Int)} (h : ListsF n w v xs) : Lists w v xs := by
  obtain ⟨a, cap, rfl, hx⟩ := h
  refine ⟨a, cap, rfl, fun i hi => ?_⟩
  obtain ⟨b, off, e, hb, _, v, h1, h2, h3, _⟩ := hx i hi
  exact ⟨b, off, e, hb, v, h1, h2, h3⟩
theorem cell_heap {w w' : World} {b : Nat} (h : w'.heap[b]? = w.heap[b]?) (o : Nat) : w'.cell? ⟨b, o, none⟩ = w.cell? ⟨b, o, none⟩ := by simp [World.cell?, h]
theorem Ints.off {c n : Nat} {w w' : World} {v : Value} {xs : List Int} (h : Ints w v xs) (hn : ∀ k, v.ownBlock = some k → n ≤ k) (hc : c < n) (ho : Off c c w w') : Ints w' v xs := by
  obtain ⟨a, cap, rfl, hx⟩ := h
  refine ⟨a, cap, rfl, fun i hi => ?_⟩
  obtain ⟨b, off, rfl, hb, h1⟩ := hx i hi
  have hnb : n ≤ b := hn b rfl
  exact ⟨b, off, rfl, Nat.lt_of_lt_of_le hb ho.size, (cell_heap (ho.block b hb (by omega) (by omega)) _).trans h1⟩
theorem ListsF.off {c n : Nat} {w w' : World} {v : Value} {xs : List (List Int)} (h : ListsF n w v xs) (hc : c < n) (ho : Off c c w w') : ListsF n w' v xs := by
  obtain ⟨a, cap, rfl, hx⟩ := h
  refine ⟨a, cap, rfl, fun i hi => ?_⟩
  obtain ⟨b, off, e, hb, hn, v, h1, h2, h3, h4⟩ := hx i hi
  exact ⟨b, off, e, Nat.lt_of_lt_of_le hb ho.size, hn, v, (cell_heap (ho.block b hb (by omega) (by omega)) _).trans h1, h2.off h4 hc ho, h3, h4⟩
theorem ListsF.ext {n : Nat} {w w' : World} {v : Value} {xs : List (List Int)} (h : ListsF n w v xs) (he : Ext w w') : ListsF n w' v xs := by
  obtain ⟨a, cap, rfl, hx⟩ := h
  refine ⟨a, cap, rfl, fun i hi => ?_⟩
  obtain ⟨b, off, e, hb, hn, v, h1, h2, h3, h4⟩ := hx i hi
  exact ⟨b, off, e, Nat.lt_of_lt_of_le hb he.size, hn, v, (he.cells.1 _ _ hb).trans h1, h2.ext he, h3, h4⟩
theorem ListsF.mono {n m : Nat} {w : World} {v : Value} {xs : List (List Int)} (h : ListsF n w v xs) (hm : m ≤ n) : ListsF m w v xs := by
  obtain ⟨a, cap, rfl, hx⟩ := h
  refine ⟨a, cap, rfl, fun i hi => ?_⟩
  obtain ⟨b, off, e, hb, hn, v, h1, h2, h3, h4⟩ := hx i hi
  exact ⟨b, off, e, hb, Nat.le_trans hm hn, v, h1, h2, h3, fun k hk => Nat.le_trans hm (h4 k hk)⟩
theorem ListsF.nil (n : Nat) (w : World) : ListsF n w (.slice none 0 0) [] := Sls.nil w
theorem Lists.of_own {b g n : Nat} {w : World} {base : Nat} {v : Value} {L : List (List Int × Value)} (hn : n ≤ base) (h : w.ownsRow base 25 1 v L.length (L.map Prod.snd)) (hi : ∀ p ∈ L, Apart b g n w p) : ListsF n w v (L.map Prod.fst) := by
  obtain ⟨a, cap, rfl⟩ := own_slice h
  refine ⟨a, cap, by simp, fun i hi' => ?_⟩
  have hi2 : i < L.length := by simpa using hi'
  rcases h.2 with ⟨e, h0⟩ | ⟨g, cap', cur, hv, hb, hg, _⟩
  · rw [h0] at hi2; exact absurd hi2 (by omega)
  · cases hv
    obtain ⟨g', c', e', _, _, h3, hN⟩ := hi L[i] (List.getElem_mem hi2)
    refine ⟨g, 0, rfl, own_lt h, Nat.le_trans hn hb, L[i].2, ?_, ?_, ?_, ?_⟩
    · exact own_cell h _ _ (by simp [hi2])
    · rw [e']; simpa using IRow.ints h3 rfl c'
    · rw [e']; exact Tight.some _ _ _
    · rw [e']; intro k hk; simp [Value.ownBlock] at hk; omega
theorem blk_of {w w' : World} {b : Nat} {cs : Array Value} {e : TypeId} (h : Blk w b cs e) (hE : Ext w w') : ∀ o, w'.cell? ⟨b, o, none⟩ = cs[o]? := (h.ext hE).cell
theorem one_cell (v : Value) (h : v.oneCell' = true) : ∀ u ∈ [v], u.oneCell' = true := by intro u hu; simp at hu; subst hu; exact h
theorem sum_bd {l : List Int} (h : ∀ i, 0 ≤ R.iat l i) (hs : l.sum ≤ 1000000000) : ∀ k, k ≤ l.length → -1000000000000000 ≤ (l.take k).sum ∧ (l.take k).sum ≤ 1000000000000000 := by
  intro k _
  have e : l.sum = (l.take k).sum + (l.drop k).sum := by rw [← List.sum_append, List.take_append_drop]
  have h1 : 0 ≤ (l.take k).sum := R.sum_nn _ fun j => by
    have := h j
    unfold R.iat at this ⊢
    rw [List.getD_eq_getElem?_getD] at this ⊢
    rw [List.getElem?_take]
    split
    · exact this
    · simp
  have h2 : 0 ≤ (l.drop k).sum := R.sum_nn _ fun j => by
    have := h (k + j)
    unfold R.iat at this ⊢
    rw [List.getD_eq_getElem?_getD] at this ⊢
    rw [List.getElem?_drop]; exact this
  omega
theorem RowB.grown {α : Type} {f : α → List Value} {k : Nat} {e : TypeId} {w w' : World} {row : Option Nat} {g : Nat} {xs : List α} (h : RowB f k e w g xs) (hg : w.grownBy w' row) {base : Nat} (hr : ∀ k, row = some k → base ≤ k) (hb : g < base) : RowB f k e w' g xs :=
  h.move (hg.block g h.lt (fun e => by have := hr g e.symm; omega))
theorem Off.grown {b g : Nat} {x y z : World} {row : Option Nat} (h : Off b g x y) (k : y.grownBy z row) (hr : ∀ j, row = some j → x.heap.size ≤ j) : Off b g x z :=
  ⟨k.os.trans h.os, k.tape.trans h.tape, k.output.trans h.output, Nat.le_trans h.size k.size, fun i hi h1 h2 => (k.block i (Nat.lt_of_lt_of_le hi h.size) (fun e => by have := hr i e.symm; omega)).trans (h.block i hi h1 h2)⟩
theorem Apart.off2 {b g n c : Nat} {w w' : World} {p : List Int × Value} {cs : Array Value} {e : TypeId} (h : Apart b g n w p) (hc : Blk w c cs e) (he : e ≠ 3) (ho : Off c c w w') : Apart b g n w' p := by
  obtain ⟨g', cap, e0, h1, h2, h3, hN⟩ := h
  have hne : g' ≠ c := by
    intro e'
    subst e'
    obtain ⟨cs', hc', _⟩ := h3
    unfold Blk at hc hc'; rw [hc] at hc'
    have := Option.some.inj hc'
    injection this with _ h2 _
    exact he h2
  exact ⟨g', cap, e0, h1, h2, h3.off ho hne hne, hN⟩
abbrev truthV (vs vg vt : Value) : Array Value := #[vs, vg, vt]
abbrev ledgerV (l : R.Ledger) : Array Value := #[.int .i64 l.start, .int .i64 l.grown, .int .i64 l.taken, .int .i64 l.gone, .int .i64 l.left]
set_option maxRecDepth 100000 in
set_option maxHeartbeats 16000000 in
theorem follow_any (r : R.Reef) (plan : List Int) (t : R.Truth) (vp vl vs vg vt : Value) (w : World) (hP : Places w vp r.places) (hL : Ints w vl plan) (hS : Ints w vs t.starts) (hG : Lists w vg t.grows) (hT : Lists w vt t.takes)
    (O : R.OkR r) (T : R.OkT r plan t) :
    Calls Try.prog 52 #[.agg (planV r vp vl), .agg (truthV vs vg vt)] w fun x w' => ∃ v, x = .returned (.tuple #[v, .agg (ledgerV (R.ledger r t))]) ∧ ListsF w.heap.size w' v (R.fishOf r t) ∧ Ext w w' := by
  have hP' := hP
  have hL' := hL
  have hS' := hS
  have hG' := hG
  have hT' := hT
  obtain ⟨a1, c1, rfl, _⟩ := hP'
  obtain ⟨a2, c2, rfl, _⟩ := hL'
  obtain ⟨a3, c3, rfl, _⟩ := hS'
  obtain ⟨a4, c4, rfl, _⟩ := hG'
  obtain ⟨a5, c5, rfl, _⟩ := hT'
  have hn1 := O.n1
  have hn4 := O.n4
  have hls := T.ls
  have hsl : 0 < r.places.length := by omega
  rw [hls] at hS
  rw [hls]
  have HLS := Lib.hid hls
  have hst0 := R.starts_nn O T
  have hst1 := R.starts_sum O T
  have hcl := fun w' hx => clone_ints (.slice a3 r.places.length c3) t.starts w' (hS.ext hx) (by omega)
  simp only [hls] at hcl
  have HCL := Lib.hid hcl
  have hs1 := O.s1
  have hs4 := O.s4
  have HO := Lib.hid O
  have HT := Lib.hid T
  have HSI := Lib.hid hS
  clear O T hcl hls
  go_enter Try.func52, Try.ntmps52
  go_upto_region 1 with (fail)
  obtain ⟨w1, hw1⟩ : ∃ w1, ((w.alloc (.cells (planV r (.slice a1 r.places.length c1) (.slice a2 plan.length c2)) 82)).alloc (.cells (truthV (.slice a3 r.places.length c3) (.slice a4 t.grows.length c4) (.slice a5 t.takes.length c5)) 28)).alloc (.cells #[.int .i64 0, .int .i64 0, .int .i64 0, .int .i64 0, .int .i64 0] 33) = w1 := ⟨_, rfl⟩
  have hbx : Blk w1 w.heap.size (planV r (.slice a1 r.places.length c1) (.slice a2 plan.length c2)) 82 := by rw [← hw1]; exact ((Blk.new' rfl _ _).alloc _).alloc _
  have hbt : Blk w1 (w.heap.size + 1) (truthV (.slice a3 r.places.length c3) (.slice a4 t.grows.length c4) (.slice a5 t.takes.length c5)) 28 := by rw [← hw1]; exact (Blk.new' (by simp) _ _).alloc _
  have hbr : Blk w1 (w.heap.size + 1 + 1) #[.int .i64 0, .int .i64 0, .int .i64 0, .int .i64 0, .int .i64 0] 33 := by rw [← hw1]; exact Blk.new' (by simp) _ _
  have hE1 : Ext w w1 := by rw [← hw1]; (with_reducible (repeat (first | exact Ext.refl _ | assumption | apply Ext.alloc | apply Ext.drew | exact ext_plus _ _ | (apply Ext.setCell; rotate_left; (simp <;> omega)) | (apply Ext.trans; rotate_left; exact ext_plus _ _) | (apply Ext.trans; rotate_left; assumption))))
  rw [hw1]
  clear hw1
  go_cut [6] from 11 to 17 (fun s6 wc => ∃ bF g cap, s6 = .pointer (some ⟨bF, 0, none⟩) ∧ Blk wc bF (folV r (.slice a1 r.places.length c1) (.slice a2 plan.length c2) (.slice a3 r.places.length c3) (.slice a4 t.grows.length c4) (.slice a5 t.takes.length c5) 0 (.slice (some ⟨g, 0, none⟩) r.places.length cap) 0 0 0 0 0) 107 ∧ IRow wc g t.starts ∧ g ≠ bF ∧ w1.heap.size ≤ bF ∧ w1.heap.size ≤ g ∧ Ext w1 wc)
  case first =>
    go_region_held3 (fun y => (∀ o, y.cell? ⟨w.heap.size, o, none⟩ = (planV r (.slice a1 r.places.length c1) (.slice a2 plan.length c2))[o]?) ∧ (∀ o, y.cell? ⟨w.heap.size + 1, o, none⟩ = (truthV (.slice a3 r.places.length c3) (.slice a4 t.grows.length c4) (.slice a5 t.takes.length c5))[o]?) ∧ Ext w1 y)
      (first | exact ⟨blk_of hbx (by (with_reducible (repeat (first | exact Ext.refl _ | assumption | apply Ext.alloc | apply Ext.drew | exact ext_plus _ _ | (apply Ext.setCell; rotate_left; (simp <;> omega)) | (apply Ext.trans; rotate_left; exact ext_plus _ _) | (apply Ext.trans; rotate_left; assumption))))), blk_of hbt (by (with_reducible (repeat (first | exact Ext.refl _ | assumption | apply Ext.alloc | apply Ext.drew | exact ext_plus _ _ | (apply Ext.setCell; rotate_left; (simp <;> omega)) | (apply Ext.trans; rotate_left; exact ext_plus _ _) | (apply Ext.trans; rotate_left; assumption))))), by (with_reducible (repeat (first | exact Ext.refl _ | assumption | apply Ext.alloc | apply Ext.drew | exact ext_plus _ _ | (apply Ext.setCell; rotate_left; (simp <;> omega)) | (apply Ext.trans; rotate_left; exact ext_plus _ _) | (apply Ext.trans; rotate_left; assumption))))⟩)
      (first | (go_at_call 60; refine (HCL.out _ (hE1.trans (by (with_reducible (repeat (first | exact Ext.refl _ | assumption | apply Ext.alloc | apply Ext.drew | exact ext_plus _ _ | (apply Ext.setCell; rotate_left; (simp <;> omega)) | (apply Ext.trans; rotate_left; exact ext_plus _ _) | (apply Ext.trans; rotate_left; assumption))))))).mono ?_; rintro e y1 ⟨v2, rfl, hown, hy1⟩; obtain ⟨g, cap, rfl, hg0, hg1⟩ := own_pos hown hsl))
    all_goals (dsimp only [Exit.then]; go_wp2; go_meet)
    all_goals
      simp only [size_drew] at hg0
      have hyz := hy1.size
      simp only [size_drew] at hyz
      exact ⟨_, g, cap, rfl, Blk.new' rfl _ _, RowB.ext (IRow.of_own (by rw [HLS.out]; exact hown)) ((Ext.refl _).alloc _), by omega, hyz, hg0, (((Ext.refl _).drew).trans hy1).alloc _⟩
  case rest =>
    obtain ⟨bF, g, cap, rfl, hBF, hRow, hne, hlb, hlg, hEc⟩ := hcut
    obtain ⟨m, hm⟩ := Int.eq_ofNat_of_zero_le (show 0 ≤ r.seasons by omega)
    have hm4 : m ≤ 4 := by omega
    have HM := Lib.hid hm
    obtain ⟨i9, hi9, hy0, hy1, hy2⟩ := info_parts row_info
    have d0 := hBF.cell
    have d1 := hBF.free
    have d2 := hBF.lt
    clear hm
    go_upto_region 3 with (first | (go_at_call 76; refine (sum_any _ t.starts _ (IRow.ints hRow HLS.out.symm cap) (by have := HLS.out; omega) (sum_bd hst0 (by omega))).mono ?_; rintro e w'' ⟨rfl, rfl⟩))
    obtain ⟨w2, hw2⟩ : ∃ w2, wc.setCell ⟨bF, 9, none⟩ (.int .i64 t.starts.sum) = w2 := ⟨_, rfl⟩
    have hBF2 := hBF.set 9 (.int .i64 t.starts.sum)
    have hRow2 := RowB.other hRow (a := ⟨bF, 9, none⟩) (fun e => hne e.symm) (.int .i64 t.starts.sum)
    have hE12 := hEc.setCell (p := ⟨bF, 9, none⟩) hlb (.int .i64 t.starts.sum)
    rw [hw2] at hBF2 hRow2 hE12 ⊢
    clear hw2 d0 d1 d2
    have hbx2 := hbx.ext hE12
    have hbr2 := hbr.ext hE12
    have hE2 : Ext w w2 := hE1.trans hE12
    have hz1 := hE1.size
    have hb0 : w.heap.size ≤ bF := by omega
    have hg0 : w.heap.size ≤ g := by omega
    have hbl := hBF2.lt
    have hgl := RowB.lt hRow2
    have hxb : w.heap.size ≠ bF := by have := hbx.lt; omega
    have hxg : w.heap.size ≠ g := by have := hbx.lt; omega
    have hrb : w.heap.size + 1 + 1 ≠ bF := by have := hbr.lt; omega
    have hrg : w.heap.size + 1 + 1 ≠ g := by have := hbr.lt; omega
    have d0 := hbx2.cell
    have d1 := hbx2.lt
    go_wp2
    go_loopw [7, 8, 10, 30] (fun v _ _ i wr => ∃ (k : Nat) (L : List (List Int × Value)) (sv : Int), k ≤ m ∧ i = .int .i64 k ∧ L.length = k ∧ wr.ownsRow w2.heap.size 25 1 v L.length (L.map Prod.snd) ∧ (∀ p ∈ L, Apart bF g w.heap.size wr p) ∧ L.map Prod.fst = (List.range k).map (fun s => (R.stateAt r t (s + 1)).fish) ∧
        Blk wr bF (folV r (.slice a1 r.places.length c1) (.slice a2 plan.length c2) (.slice a3 r.places.length c3) (.slice a4 t.grows.length c4) (.slice a5 t.takes.length c5) sv (.slice (some ⟨g, 0, none⟩) r.places.length cap) t.starts.sum (R.stateAt r t k).grown (R.stateAt r t k).taken (R.stateAt r t k).gone 0) 107 ∧ IRow wr g (R.stateAt r t k).fish ∧ Off bF g w2 wr)
      (fun _ _ _ i _ => m - (intOf i).toNat)
    case atStart => exact ⟨0, [], 0, Nat.zero_le _, rfl, rfl, World.ownsRow_nil _ _ _ _, by simp, rfl, hBF2, hRow2, Off.refl _ _ _⟩
    case round =>
      rename World => wr
      obtain ⟨s, L, sv, hs, rfl, hLl, hown, hLa, hLf, hBr, hRr, hOr⟩ := hrel
      have HLA := Lib.hid hLa
      have HLF := Lib.hid hLf
      have HLL := Lib.hid hLl
      have hbX := hbx2.off hOr hxb hxg
      have hbR := hbr2.off hOr hrb hrg
      have hEr : Ext w wr := hOr.ext0 hE2 hb0 hg0
      have d0 := hbX.cell
      have d1 := hbX.lt
      have e0 := hBr.cell
      have e1 := hBr.free
      have e2 := hBr.lt
      have hfn := R.fine_at HO.out HT.out s (by have := HM.out; omega)
      clear hLa hLf hLl
      by_cases hlt : s < m
      · have hlt' : (s : Int) < r.seasons := by have := HM.out; omega
        go_upto_region 8 with (fail)
        obtain ⟨w3, hw3⟩ : ∃ w3, wr.setCell ⟨bF, 7, none⟩ (.int .i64 s) = w3 := ⟨_, rfl⟩
        have hB3 := hBr.set 7 (.int .i64 s)
        have hR3 := RowB.other hRr (a := ⟨bF, 7, none⟩) (fun e => hne e.symm) (.int .i64 s)
        have hO3 := hOr.set (a := ⟨bF, 7, none⟩) (.inl rfl) (.int .i64 s)
        rw [hw3] at hB3 hR3 hO3 ⊢
        have hown3 := own_other hown (a := ⟨bF, 7, none⟩) hbl (.int .i64 s)
        rw [hw3] at hown3
        have hLa3 : ∀ p ∈ L, Apart bF g w.heap.size w3 p := fun p hp => by rw [← hw3]; exact (HLA.out p hp).off ((Off.refl _ _ _).set (a := ⟨bF, 7, none⟩) (.inl rfl) _)
        have HLA3 := Lib.hid hLa3
        clear hw3 hLa3 e0 e1 e2 d0 d1 hown
        have hmt : s < r.seasons.toNat := by have := HM.out; omega
        have hsg : s < t.grows.length := by have := HT.out.lg; have := HM.out; omega
        have hst : s < t.takes.length := by have := HT.out.lt; have := HM.out; omega
        have hE3 : Ext w w3 := hO3.ext0 hE2 hb0 hg0
        have hbd := R.fine_bd HO.out HT.out (by omega : s ≤ 4) hfn
        have hgi := R.growTo_inv (ps := r.places) (gs := t.grows[s]) (fish := (R.stateAt r t s).fish) (g0 := (R.stateAt r t s).grown) hfn.len hfn.nn HO.out.place (fun i hi => by have h1 := (HT.out.grow s hmt i hi).1; have h2 := (HO.out.place i hi).g0; rw [lat_of hsg] at h1; omega) r.places.length (Nat.le_refl _)
        have hdi := R.driftTo_inv (ps := r.places) (now := (R.growTo r.places t.grows[s] ((R.stateAt r t s).fish, (R.stateAt r t s).grown) r.places.length).1) (g0 := (R.stateAt r t s).gone) (by rw [hgi.len, hfn.len]) hgi.nn HO.out.place r.places.length (Nat.le_refl _)
        have hstep : R.stateAt r t (s + 1) = midS r.places t.grows[s] t.takes[s] (R.stateAt r t s) 3 := by
          show R.season r.places (R.lat t.grows s) (R.lat t.takes s) (R.stateAt r t s) = R.season r.places t.grows[s] t.takes[s] (R.stateAt r t s)
          rw [lat_of hsg, lat_of hst]
        have HG1 := Lib.hid (fun (w' : World) (cap' : Nat) (h0 : Ext w w') (hB : Blk w' bF _ 107) (hR : IRow w' g _) => grows_any r t s (R.stateAt r t s).fish t.starts.sum (R.stateAt r t s).grown (R.stateAt r t s).taken (R.stateAt r t s).gone 0 _ (.slice a2 plan.length c2) (.slice a3 r.places.length c3) _ (.slice a5 t.takes.length c5) w w' bF g cap' h0 hb0 hg0 hne hP hG hsg (by have := HT.out.gl s hmt; rwa [lat_of hsg] at this) hfn.len hn4 HO.out.place
          (fun i hi => by have h1 := HT.out.grow s hmt i hi; have h2 := (HO.out.place i hi).g0; have h3 := (HO.out.place i hi).g2; rw [lat_of hsg] at h1; omega) hfn.nn (by have := hfn.r0; omega) hB hR)
        have HG2 := Lib.hid (fun (w' : World) (cap' : Nat) (h0 : Ext w w') (hB : Blk w' bF _ 107) (hR : IRow w' g _) => drifts_any r s (R.growTo r.places t.grows[s] ((R.stateAt r t s).fish, (R.stateAt r t s).grown) r.places.length).1 t.starts.sum (R.growTo r.places t.grows[s] ((R.stateAt r t s).fish, (R.stateAt r t s).grown) r.places.length).2 (R.stateAt r t s).taken (R.stateAt r t s).gone 0 _ (.slice a2 plan.length c2) (.slice a3 r.places.length c3) (.slice a4 t.grows.length c4) (.slice a5 t.takes.length c5) w w' bF g cap' h0 hb0 hg0 hne hP (by rw [hgi.len, hfn.len]) hn1 hn4 HO.out.place hgi.nn
          (by have := hgi.sum; have := hgi.hi; have := hfn.r0; omega) (by have := hfn.g0; omega) hB hR)
        have HG3 := Lib.hid (fun (w' : World) (cap' : Nat) (h0 : Ext w w') (hB : Blk w' bF _ 107) (hR : IRow w' g _) => taken_any r t s (midS r.places t.grows[s] t.takes[s] (R.stateAt r t s) 2).fish t.starts.sum (midS r.places t.grows[s] t.takes[s] (R.stateAt r t s) 2).grown (R.stateAt r t s).taken (midS r.places t.grows[s] t.takes[s] (R.stateAt r t s) 2).gone 0 _ (.slice a2 plan.length c2) (.slice a3 r.places.length c3) (.slice a4 t.grows.length c4) _ w w' bF g cap' h0 hb0 hg0 hne hP hT hst (by have := HT.out.tl s hmt; rwa [lat_of hst] at this) (by show (R.driftTo _ _ _ _).1.length = _; rw [hdi.len, hgi.len, hfn.len]) hn4
          (fun i hi => by have h1 := HT.out.take s hmt i hi; have h2 := R.take_bd (HO.out.place i hi) (R.has (R.iat plan s) i); rw [lat_of hst] at h1; omega) hdi.nn (by show (R.driftTo _ _ _ _).1.sum ≤ _; have := hdi.sum; have := hdi.lo; have := hgi.sum; have := hgi.hi; have := hfn.r0; omega) (by have := hfn.t0; omega) hB hR)
        have HST := Lib.hid hstep
        clear hgi hdi hstep hbd hfn
        obtain ⟨x, hx⟩ : ∃ x, R.stateAt r t s = x := ⟨_, rfl⟩
        rw [hx] at hB3 hR3 HG1 HG2 HG3 HST
        obtain ⟨gs, hgs⟩ : ∃ gs, t.grows[s] = gs := ⟨_, rfl⟩
        rw [hgs] at HG1 HG2 HG3 HST
        obtain ⟨ks, hks⟩ : ∃ ks, t.takes[s] = ks := ⟨_, rfl⟩
        rw [hks] at HG3 HST
        clear hx hgs hks
        have hix0 : ∀ w, (Instr.index 109 (.agg #[(.func (.func 77) #[.pointer (some ⟨bF, 0, none⟩)] #[]), (.func (.func 78) #[.pointer (some ⟨bF, 0, none⟩)] #[]), (.func (.func 79) #[.pointer (some ⟨bF, 0, none⟩)] #[])]) (.int .i64 0)).run Try.prog w = .ok (.func (.func 77) #[.pointer (some ⟨bF, 0, none⟩)] #[]) w := fun _ => by kernel_rfl
        have hix1 : ∀ w, (Instr.index 109 (.agg #[(.func (.func 77) #[.pointer (some ⟨bF, 0, none⟩)] #[]), (.func (.func 78) #[.pointer (some ⟨bF, 0, none⟩)] #[]), (.func (.func 79) #[.pointer (some ⟨bF, 0, none⟩)] #[])]) (.int .i64 1)).run Try.prog w = .ok (.func (.func 78) #[.pointer (some ⟨bF, 0, none⟩)] #[]) w := fun _ => by kernel_rfl
        have hix2 : ∀ w, (Instr.index 109 (.agg #[(.func (.func 77) #[.pointer (some ⟨bF, 0, none⟩)] #[]), (.func (.func 78) #[.pointer (some ⟨bF, 0, none⟩)] #[]), (.func (.func 79) #[.pointer (some ⟨bF, 0, none⟩)] #[])]) (.int .i64 2)).run Try.prog w = .ok (.func (.func 79) #[.pointer (some ⟨bF, 0, none⟩)] #[]) w := fun _ => by kernel_rfl
        go_wp2
        go_loopw [10, 44] (fun _ i wy => ∃ (k : Nat), k ≤ 3 ∧ i = .int .i64 k ∧ Blk wy bF (folV r (.slice a1 r.places.length c1) (.slice a2 plan.length c2) (.slice a3 r.places.length c3) (.slice a4 t.grows.length c4) (.slice a5 t.takes.length c5) s (.slice (some ⟨g, 0, none⟩) r.places.length cap) t.starts.sum (midS r.places gs ks x k).grown (midS r.places gs ks x k).taken (midS r.places gs ks x k).gone 0) 107 ∧ IRow wy g (midS r.places gs ks x k).fish ∧ Off bF g w3 wy)
          (fun _ i _ => 3 - (intOf i).toNat)
        case atStart => exact ⟨0, Nat.zero_le _, rfl, hB3, hR3, Off.refl _ _ _⟩
        case round =>
          rename World => wy
          obtain ⟨k, hk, rfl, hBy, hRy, hOy⟩ := hrel
          have hEy : Ext w wy := hOy.ext0 hE3 hb0 hg0
          have hk3 : k = 0 ∨ k = 1 ∨ k = 2 ∨ k = 3 := by omega
          rcases hk3 with rfl | rfl | rfl | rfl
          · go_wp2_with (first | (go_at_call 77; refine (HG1.out _ cap hEy hBy hRy).mono ?_; rintro e wz ⟨rfl, hBz, hRz, hOz⟩))
            go_wp2
            go_roundw
            case rel => exact ⟨1, by omega, by go_num, hBz, hRz, hOy.trans hOz⟩
            case measure => simp [intOf]
          · go_wp2_with (first | (go_at_call 78; refine (HG2.out _ cap hEy hBy hRy).mono ?_; rintro e wz ⟨rfl, hBz, hRz, hOz⟩))
            go_wp2
            go_roundw
            case rel => exact ⟨2, by omega, by go_num, hBz, hRz, hOy.trans hOz⟩
            case measure => simp [intOf]
          · go_wp2_with (first | (go_at_call 79; refine (HG3.out _ cap hEy hBy hRy).mono ?_; rintro e wz ⟨rfl, hBz, hRz, hOz⟩))
            go_wp2
            go_roundw
            case rel => exact ⟨3, by omega, by go_num, hBz, hRz, hOy.trans hOz⟩
            case measure => simp [intOf]
          · rw [← HST.out] at hBy hRy
            have hf1 := R.fine_at HO.out HT.out (s + 1) (by omega)
            have hfl := hf1.len
            obtain ⟨x', hx'⟩ : ∃ x', R.stateAt r t (s + 1) = x' := ⟨_, rfl⟩
            rw [hx'] at hBy hRy hfl
            have HX := Lib.hid hx'
            have hc5 := fun w' (h : IRow w' g x'.fish) => clone_ints (.slice (some ⟨g, 0, none⟩) r.places.length cap) x'.fish w' (IRow.ints h hfl.symm cap) (by omega)
            simp only [hfl] at hc5
            have HC5 := Lib.hid hc5
            have HFL := Lib.hid hfl
            clear hx' hfl hc5 hf1 hix0 hix1 hix2 HG1 HG2 HG3
            have hown4 := own_off hown3 hOy hbl hgl
            have e0 := hBy.cell
            have e2 := hBy.lt
            obtain ⟨av, cv, rfl⟩ := own_slice hown3
            obtain ⟨nl, hnl⟩ : ∃ nl, L.length = nl := ⟨_, rfl⟩
            have hnl4 : nl ≤ 4 := by have := HLL.out; omega
            rw [hnl] at hown4
            have HNL := Lib.hid hnl
            rw [hnl]
            clear hnl hown3
            go_wp2_with (first | (go_at_call 60; refine (HC5.out _ hRy).mono ?_; rintro e w5 ⟨v5, rfl, hown5, hE5⟩; obtain ⟨g5, cap5, rfl, hg5, hg5l⟩ := own_pos hown5 hsl) | (at_builtin; refine wpList_append_own _ rfl _ _ 26 rfl w2.heap.size 25 i9 (.slice none 0 0) 1 24 Try.underlying26 hi9 hy0 hy1 hy2 rfl (by decide) _ _ _ rfl ((own_ext hown4 hE5).alloc _) ⟨w5.heap.size, 0, none⟩ 1 1 [.slice (some ⟨g5, 0, none⟩) r.places.length cap5] rfl rfl (cell_one _ _ _ (by simp)) (one_cell _ rfl) (by unfold maxLen; omega) (by omega) (by have := hE5.size; have := hOy.size; have := hO3.size; simp; omega) ?_; intro v6 w6 hown6 hgr6 _; obtain ⟨g6, cap6, rfl⟩ := own_succ hown6))
            have hz5 := hE5.size
            have hzy := hOy.size
            have hz3 := hO3.size
            have hrow : ∀ j, (Value.slice av nl cv).ownBlock = some j → w2.heap.size ≤ j := own_base hown4
            have hoi := own_blk ((own_ext hown4 hE5).alloc (.cells #[.slice (some ⟨g5, 0, none⟩) r.places.length cap5] 25)) (by decide)
            refine ⟨⟨s + 1, L ++ [(x'.fish, .slice (some ⟨g5, 0, none⟩) r.places.length cap5)], s, by omega, by go_num, by simp [HLL.out], ?_, ?_, ?_, ?_, ?_, ?_⟩, by simp [intOf]; omega⟩
            · simpa [HNL.out] using hown6
            · intro p hp
              rw [List.mem_append, List.mem_singleton] at hp
              rcases hp with hp | rfl
              · exact ((((HLA3.out p hp).off hOy).ext hE5).ext ((Ext.refl _).alloc _)).grown hgr6 hoi
              · have h1 : Apart bF g w.heap.size w5 (x'.fish, .slice (some ⟨g5, 0, none⟩) r.places.length cap5) := ⟨g5, cap5, by simp [HFL.out], by omega, by omega, IRow.of_own (by rw [HFL.out]; exact hown5), by have := hE2.size; omega⟩
                exact (h1.ext ((Ext.refl _).alloc _)).grown hgr6 hoi
            · rw [List.map_append, HLF.out, List.range_succ, List.map_append, ← HX.out]; rfl
            · rw [HX.out]; exact Blk.grown ((hBy.ext hE5).alloc _) hgr6 hrow hbl
            · rw [HX.out]; exact RowB.grown (RowB.ext (RowB.ext hRy hE5) ((Ext.refl _).alloc _)) hgr6 hrow hgl
            · exact Off.grown (((hO3.trans hOy).ext hE5).alloc _) hgr6 hrow
      · obtain rfl : s = m := by omega
        have hnlt : ¬ (s : Int) < r.seasons := by have := HM.out; omega
        have hbd := R.fine_bd HO.out HT.out hm4 hfn
        have hfl := hfn.len
        have hnn := hfn.nn
        have hms : r.seasons.toNat = s := by have := HM.out; omega
        have HEND := Lib.hid (show R.endOf r t = R.stateAt r t s by unfold R.endOf; rw [hms])
        have hLL := Lists.of_own (n := w.heap.size) hE2.size hown HLA.out
        rw [HLF.out] at hLL
        have hfo : (List.range s).map (fun s => (R.stateAt r t (s + 1)).fish) = R.fishOf r t := by unfold R.fishOf; rw [hms]
        rw [hfo] at hLL
        obtain ⟨av, cv, rfl⟩ := own_slice hown
        obtain ⟨x, hx⟩ : ∃ x, R.stateAt r t s = x := ⟨_, rfl⟩
        rw [hx] at hBr hRr hbd hfl hnn HEND e0
        have HFL := Lib.hid hfl
        have hrf := hbR.free
        have hrc := hbR.cell
        have hrl := hbR.lt
        clear hms hfo hx hfl hfn
        go_upto_region 16 with (first | (go_at_call 76; refine (sum_any _ x.fish _ (IRow.ints hRr HFL.out.symm cap) (by have := HFL.out; omega) (sum_bd hnn (by omega))).mono ?_; rintro e w'' ⟨rfl, rfl⟩))
        obtain ⟨w7, hw7⟩ : ∃ w7, wr.setCell ⟨bF, 13, none⟩ (.int .i64 x.fish.sum) = w7 := ⟨_, rfl⟩
        have hB7 := hBr.set 13 (.int .i64 x.fish.sum)
        have hbR7 := hbR.other (a := ⟨bF, 13, none⟩) (fun e => hrb e.symm) (.int .i64 x.fish.sum)
        have hO7 : Off bF g wr (wr.setCell ⟨bF, 13, none⟩ (.int .i64 x.fish.sum)) := (Off.refl bF g wr).set (a := ⟨bF, 13, none⟩) (.inl rfl) _
        have hown7 := own_other hown (a := ⟨bF, 13, none⟩) hbl (.int .i64 x.fish.sum)
        rw [hw7] at hB7 hbR7 hO7 hown7 ⊢
        have HLA7 := Lib.hid (fun p hp => (HLA.out p hp).off hO7)
        clear hw7 e0 e1 e2 d0 d1 hrf hrc hrl hown hLL
        have e0 := hB7.cell
        have e2 := hB7.lt
        have hpc := plus_cell
        refine wp_region_ext 6 (fun _ _ d _ _ h => by cases d <;> exact h) (by kernel_rfl) (by kernel_rfl) (by kernel_rfl) (by kernel_rfl) ?_
        simp only [List.take_succ_cons, List.take_zero, List.drop_succ_cons, List.drop_zero]
        repeat (any_goals (first | go_big_quiet_step (fail) | quiet_step (fail)))
        all_goals (refine wpQuiet_nil ?_; intro w8 hE8)
        have hbR8 := hbR7.ext hE8
        have hrf := hbR8.free
        have hrc := hbR8.cell
        have hrl := hbR8.lt
        go_wp2
        have hrz : w.heap.size ≤ w.heap.size + 1 + 1 := by omega
        have hbR9 := ((((hbR8.set 0 (.int .i64 t.starts.sum)).set 1 (.int .i64 x.grown)).set 2 (.int .i64 x.taken)).set 3 (.int .i64 x.gone)).set 4 (.int .i64 x.fish.sum)
        have hO9 := (((((Off.refl (w.heap.size + 1 + 1) (w.heap.size + 1 + 1) w8).set (a := ⟨w.heap.size + 1 + 1, 0, none⟩) (.inl rfl) (.int .i64 t.starts.sum)).set (a := ⟨w.heap.size + 1 + 1, 1, none⟩) (.inl rfl) (.int .i64 x.grown)).set (a := ⟨w.heap.size + 1 + 1, 2, none⟩) (.inl rfl) (.int .i64 x.taken)).set (a := ⟨w.heap.size + 1 + 1, 3, none⟩) (.inl rfl) (.int .i64 x.gone)).set (a := ⟨w.heap.size + 1 + 1, 4, none⟩) (.inl rfl) (.int .i64 x.fish.sum)
        obtain ⟨w9, hw9⟩ : ∃ w9, ((((w8.setCell ⟨w.heap.size + 1 + 1, 0, none⟩ (.int .i64 t.starts.sum)).setCell ⟨w.heap.size + 1 + 1, 1, none⟩ (.int .i64 x.grown)).setCell ⟨w.heap.size + 1 + 1, 2, none⟩ (.int .i64 x.taken)).setCell ⟨w.heap.size + 1 + 1, 3, none⟩ (.int .i64 x.gone)).setCell ⟨w.heap.size + 1 + 1, 4, none⟩ (.int .i64 x.fish.sum) = w9 := ⟨_, rfl⟩
        rw [hw9] at hbR9 hO9 ⊢
        have hrl2 := hbr2.lt
        have hown9 := own_off (own_ext hown7 hE8) hO9 (by omega) (by omega)
        have hE78 : Ext w w8 := (hO7.ext0 hEr hb0 hg0).trans hE8
        have hE9 : Ext w w9 := hO9.ext0 hE78 hrz hrz
        have hLL := Lists.of_own (n := w.heap.size) hE2.size hown9 (fun p hp => (((HLA7.out p hp).ext hE8).off2 hbR8 (by decide) hO9))
        have hms : r.seasons.toNat = s := by have := HM.out; omega
        have hfo : (List.range s).map (fun s => (R.stateAt r t (s + 1)).fish) = R.fishOf r t := by unfold R.fishOf; rw [hms]
        rw [HLF.out, hfo] at hLL
        have hle : R.ledger r t = ⟨t.starts.sum, x.grown, x.taken, x.gone, x.fish.sum⟩ := by unfold R.ledger R.sumL; rw [HEND.out]
        rw [hle]
        have k0 := hbR9.cell
        clear hrf hrc hrl hw9 hO9
        exact bodyPost_ret (v := .tuple #[.slice av L.length cv, .agg #[.int .i64 t.starts.sum, .int .i64 x.grown, .int .i64 x.taken, .int .i64 x.gone, .int .i64 x.fish.sum]]) (by simp [results, Try.results52, go_sem, k0]) rfl ⟨_, rfl, hLL, hE9⟩
end Go.Proofs.Ythffoglpekpmdaa
