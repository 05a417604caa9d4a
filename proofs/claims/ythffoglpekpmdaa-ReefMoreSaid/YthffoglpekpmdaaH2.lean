/- What a plan costs: a range over a function inside a loop: a mark more in each round. -/
import Derived.Test.YthffoglpekpmdaaT2
import Derived.Test.YthffoglpekpmdaaPl4
namespace Go.Proofs.Ythffoglpekpmdaa
set_option linter.unusedVariables false
set_option linter.unusedSimpArgs false
open Go.RowKit Go.Shelf
attribute [local go_sem] Oper.semAt_some
/-- What the places of a list are worth. -/
def worthL (r : R.Reef) (l : List Nat) : Int := (l.map fun i => (R.pat r.places i).worth).sum
def costRow (r : R.Reef) (set : Int) : Int := ((List.range r.places.length).map fun i => if R.has set i then (R.pat r.places i).worth else 0).sum
def costTo (r : R.Reef) (plan : List Int) (k : Nat) : Int := ((List.range k).map fun s => costRow r (R.iat plan s)).sum
theorem costTo_succ (r : R.Reef) (plan : List Int) (k : Nat) : costTo r plan (k + 1) = costTo r plan k + costRow r (R.iat plan k) := by
  unfold costTo; rw [List.range_succ, List.map_append, List.sum_append]; simp
theorem costTo_all (r : R.Reef) (plan : List Int) : costTo r plan plan.length = R.cost r plan := rfl
theorem worthL_snoc (r : R.Reef) (l : List Nat) (i : Nat) : worthL r (l ++ [i]) = worthL r l + (R.pat r.places i).worth := by
  unfold worthL; rw [List.map_append, List.sum_append]; simp
theorem worthL_closed (r : R.Reef) (set : Int) : worthL r (closedTo set r.places.length) = costRow r set := by
  unfold worthL costRow
  generalize r.places.length = n
  induction n with
  | zero => rfl
  | succ n ih =>
    rw [closedTo_succ, List.range_succ, List.map_append, List.map_append, List.sum_append, List.sum_append, ih]
    by_cases h : R.has set n = true <;> simp [h]
theorem worthL_bd (r : R.Reef) (h : ∀ i, i < r.places.length → 0 ≤ (R.pat r.places i).worth ∧ (R.pat r.places i).worth ≤ 1000000) : ∀ l : List (Num r.places.length), 0 ≤ worthL r (l.map Subtype.val) ∧ worthL r (l.map Subtype.val) ≤ 1000000 * l.length
  | [] => by simp [worthL]
  | x :: l => by
    have h1 := worthL_bd r h l
    have h2 := h x.1 x.2
    have e : worthL r ((x :: l).map Subtype.val) = (R.pat r.places x.1).worth + worthL r (l.map Subtype.val) := rfl
    rw [e]
    simp only [List.length_cons]
    omega
theorem costRow_bd (r : R.Reef) (h : ∀ i, i < r.places.length → 0 ≤ (R.pat r.places i).worth ∧ (R.pat r.places i).worth ≤ 1000000) (set : Int) : 0 ≤ costRow r set ∧ costRow r set ≤ 1000000 * r.places.length := by
  unfold costRow
  have key : ∀ n, n ≤ r.places.length → 0 ≤ ((List.range n).map fun i => if R.has set i then (R.pat r.places i).worth else 0).sum ∧ ((List.range n).map fun i => if R.has set i then (R.pat r.places i).worth else 0).sum ≤ 1000000 * n := by
    intro n hn
    induction n with
    | zero => simp
    | succ n ih =>
      have := ih (by omega)
      have h2 := h n (by omega)
      rw [List.range_succ, List.map_append, List.sum_append]
      simp only [List.map_cons, List.map_nil, List.sum_cons, List.sum_nil]
      split <;> omega
  exact key _ (Nat.le_refl _)
theorem costTo_bd (r : R.Reef) (h : ∀ i, i < r.places.length → 0 ≤ (R.pat r.places i).worth ∧ (R.pat r.places i).worth ≤ 1000000) (hn : r.places.length ≤ 4) (plan : List Int) : ∀ k, 0 ≤ costTo r plan k ∧ costTo r plan k ≤ 4000000 * k
  | 0 => by simp [costTo]
  | k + 1 => by
    have h1 := costTo_bd r h hn plan k
    have h2 := costRow_bd r h (R.iat plan k)
    rw [costTo_succ]
    omega
/-- Marks of ranges over functions, the last one first: each in a block of its own, from block n on. -/
def Marks (n : Nat) : List Deferred → World → Prop
  | [], _ => True
  | d :: ds, w => ∃ b, n ≤ b ∧ d = { target := .collected b, args := #[] } ∧ w.heap[b]? = some (.deferred (some [])) ∧ (∀ x ∈ ds, ∃ c, c < b ∧ x = { target := .collected c, args := #[] }) ∧ Marks n ds w
theorem Marks.move {n : Nat} {w w' : World} : ∀ {ds : List Deferred}, Marks n ds w → (∀ b : Nat, w.heap[b]? = some (Obj.deferred (some [])) → w'.heap[b]? = some (Obj.deferred (some []))) → Marks n ds w'
  | [], _, _ => trivial
  | _ :: _, ⟨b, h1, h2, h3, h4, h5⟩, hm => ⟨b, h1, h2, hm b h3, h4, h5.move hm⟩
theorem Marks.ext {n : Nat} {w w' : World} {ds : List Deferred} (h : Marks n ds w) (he : Ext w w') : Marks n ds w' :=
  h.move fun b hb => (he.block b (Array.getElem?_eq_some_iff.1 hb).1).trans hb
theorem Marks.grown {n : Nat} {w w' : World} {row : Option Nat} {ds : List Deferred} (h : Marks n ds w) (hg : w.grownBy w' row) (m : Nat) (hm : ∀ d ∈ ds, ∃ c, c < m ∧ d = { target := .collected c, args := #[] }) (hr : ∀ r, row = some r → m ≤ r) : Marks n ds w' := by
  induction ds with
  | nil => trivial
  | cons d ds ih =>
    obtain ⟨b, h1, h2, h3, h4, h5⟩ := h
    refine ⟨b, h1, h2, ?_, h4, ih h5 fun x hx => hm x (List.mem_cons_of_mem _ hx)⟩
    obtain ⟨c, hc, e⟩ := hm d (List.mem_cons_self ..)
    rw [h2] at e
    have : b = c := by cases e; rfl
    subst this
    exact (hg.block b (Array.getElem?_eq_some_iff.1 h3).1 (fun e' => by have := hr b e'.symm; omega)).trans h3
theorem Marks.below {n : Nat} {w : World} {ds : List Deferred} (h : Marks n ds w) : ∀ d ∈ ds, ∃ c, c < w.heap.size ∧ d = { target := .collected c, args := #[] } := by
  induction ds with
  | nil => intro d hd; cases hd
  | cons d ds ih =>
    obtain ⟨b, h1, h2, h3, h4, h5⟩ := h
    intro x hx
    rcases List.mem_cons.1 hx with e | hx
    · exact ⟨b, (Array.getElem?_eq_some_iff.1 h3).1, e.trans h2⟩
    · exact ih h5 x hx
/-- A frame with nothing but marks leaves: each block is shut. -/
theorem leaves_marks {F : Fence} {n : Nat} {P : Program} {fn : Func} {tmps : Array Value} {R : Ending → World → Prop} {u : FrameMode} (hu : u ≠ .run) (w0 : World) :
    ∀ (ds : List Deferred) (w : World), Marks w0.heap.size ds w → Ext w0 w → (∀ w', Ext w0 w' → LeavesInM F n P fn tmps R [] u w') → LeavesInM F n P fn tmps R ds u w
  | [], w, _, hE, h => h w hE
  | d :: ds, w, hM, hE, h => by
    obtain ⟨b, h1, rfl, h3, h4, h5⟩ := hM
    refine ⟨hu, .inl ⟨b, _, rfl, run_takeDeferred h3, leaves_marks hu w0 ds _ ?_ ?_ h⟩⟩
    · clear h hE
      induction ds with
      | nil => trivial
      | cons x ds ih =>
        obtain ⟨c, k1, k2, k3, k4, k5⟩ := h5
        refine ⟨c, k1, k2, ?_, k4, ih (fun y hy => h4 y (List.mem_cons_of_mem _ hy)) k5⟩
        obtain ⟨c', hc', e⟩ := h4 x (List.mem_cons_self ..)
        rw [k2] at e
        have : c = c' := by cases e; rfl
        subst this
        exact ((grownBy_putObj' w b _).block c (Array.getElem?_eq_some_iff.1 k3).1 (by simp; omega)).trans k3
    · exact Below.trans hE (belowK_b (w := w0) (Nat.le_refl _) w b _ _ h1 h3 rfl rfl)
set_option maxRecDepth 100000 in
set_option maxHeartbeats 8000000 in
theorem cost_any (r : R.Reef) (plan : List Int) (vp vl : Value) (w : World) (hP : Places w vp r.places) (hL : Ints w vl plan) (O : R.OkR r) (OL : R.OkL r plan) :
    Calls Try.prog 61 #[.agg (planV r vp vl)] w fun e w' => e = .returned (.int .i64 (R.cost r plan)) ∧ Ext w w' := by
  have hP' := hP
  obtain ⟨a1, c1, rfl, hx1⟩ := hP'
  have hL' := hL
  obtain ⟨a2, c2, rfl, _⟩ := hL'
  have HX := Lib.hid hx1
  clear hx1
  refine (callsIn_wide (n := 5)).1 ?_
  refine callsIn_of_wp_marks Try.func61 rfl trivial ?_ rfl
  simp only [Try.ntmps61, List.size_toArray, List.length_cons, List.length_nil, Nat.reduceAdd, Nat.reduceSub, Array.replicate_succ, Array.replicate_zero, List.push_toArray, List.append_toArray, List.nil_append, List.cons_append]
  refine wpIn_wide.2 ?_
  go_wp2
  obtain ⟨w1, hw1⟩ : ∃ w1, (w.alloc (.cells (planV r (.slice a1 r.places.length c1) (.slice a2 plan.length c2)) 82)).alloc (.cells #[.int .i64 0] 3) = w1 := ⟨_, rfl⟩
  have hbx : Blk w1 w.heap.size (planV r (.slice a1 r.places.length c1) (.slice a2 plan.length c2)) 82 := by rw [← hw1]; exact (Blk.new' rfl _ _).alloc _
  have hbo : Blk w1 (w.heap.size + 1) #[.int .i64 0] 3 := by rw [← hw1]; exact Blk.new' (by simp) _ _
  have hE1 : Ext w w1 := by rw [← hw1]; (with_reducible (repeat (first | exact Ext.refl _ | assumption | apply Ext.alloc | apply Ext.drew | exact ext_plus _ _ | (apply Ext.setCell; rotate_left; (simp <;> omega)) | (apply Ext.trans; rotate_left; exact ext_plus _ _) | (apply Ext.trans; rotate_left; assumption))))
  rw [hw1]
  clear hw1
  have hW : ∀ i, i < r.places.length → 0 ≤ (R.pat r.places i).worth ∧ (R.pat r.places i).worth ≤ 1000000 := fun i hi => ⟨(O.place i hi).w0, (O.place i hi).w1⟩
  have hn4 := O.n4
  have hs4 := O.s4
  have hlen := OL.len
  have hbit := OL.bit
  have hCB := costTo_bd r hW hn4 plan
  have HCA : Hid (costTo r plan plan.length = R.cost r plan) := costTo_all r plan
  have HW := Lib.hid hW
  have HCB := Lib.hid hCB
  have HBIT := Lib.hid hbit
  obtain ⟨m, hm⟩ : ∃ m, r.seasons = m := ⟨_, rfl⟩
  rw [hm]
  have hm4 : m ≤ 4 ∧ m = (plan.length : Int) := ⟨by omega, by omega⟩
  have HM := Lib.hid hm4
  clear hW hCB hbit O OL hm hs4 hlen hm4
  refine wp_loop (fun a' wr => ∃ (k : Nat) (ds : List Deferred) (u4 u10 u11 u12 u13 u14 u25 : Value), (k ≤ plan.length ∧ Marks w.heap.size ds wr ∧ Blk wr (w.heap.size + 1) #[.int .i64 (costTo r plan k)] 3 ∧ Blk wr w.heap.size (planV r (.slice a1 r.places.length c1) (.slice a2 plan.length c2)) 82 ∧ Ext w wr) ∧
      a' = ⟨#[.agg (planV r (.slice a1 r.places.length c1) (.slice a2 plan.length c2)), .pointer (some ⟨w.heap.size, 0, none⟩), .int .i64 0, .pointer (some ⟨w.heap.size + 1, 0, none⟩), u4, undef, .pointer (some ⟨w.heap.size, 0, none⟩), .pointer (some ⟨w.heap.size, 2, none⟩), .int .i64 m, .int .i64 k, u10, u11, u12, u13, u14, undef, undef, undef, undef, undef, undef, undef, undef, undef, undef, u25, undef], ds⟩)
    (fun a' _ => plan.length - (intOf (a'.tmps.getD 9 undef)).toNat) ⟨0, [], _, _, _, _, _, _, _, ⟨Nat.zero_le _, trivial, hbo, hbx, hE1⟩, rfl⟩ ?_
  rintro _ wr ⟨k, ds, u4, u10, u11, u12, u13, u14, u25, ⟨hk, hM, hBo, hBx, hE⟩, rfl⟩
  have c0 := hBo.cell
  have c1' := hBo.free
  have c2' := hBo.lt
  have d0 := hBx.cell
  have d2 := hBx.lt
  by_cases hlt : k < plan.length
  · have hlm : (k : Int) < m := by have := HM.out.2; omega
    go_wp2_with (first | (go_at_call 83; refine (closed_any r _ _ _ _).mono ?_; rintro e w2 ⟨rfl, hb1, hb2, hb⟩))
    have hEw : Ext w w2 := hE.trans hb
    have hBo2 := hBo.ext hb
    have hBx2 := hBx.ext hb
    have hM2 := hM.ext hb
    have hMb := hM2.below
    have hb0 : 0 ≤ plan[k] ∧ plan[k] ≤ 1000000 := by
      have h1 := HBIT.out k hlt
      have h2 : (2 : Int) ^ r.places.length ≤ 16 := by
        exact_mod_cast (Nat.pow_le_pow_right (by decide) hn4 : 2 ^ r.places.length ≤ 2 ^ 4)
      omega
    have hcb := HCB.out k
    have hk3 : (k : Int) ≤ 3 := by have := HM.out; omega
    obtain ⟨cst, hcst⟩ : ∃ cst, costTo r plan k = cst := ⟨_, rfl⟩
    rw [hcst] at hBo hBo2 c0 hcb
    have hcb2 : 0 ≤ cst ∧ cst ≤ 12000000 := by omega
    have HCST := Lib.hid hcst
    have hq := hBo.lt
    have hqE := hE.size
    clear c0 c1' c2' d0 d2 hcst hcb
    refine (wpIn_wide (n := 5)).1 ?_
    refine' wpIn_rangeFunc_ownF rfl (by omega) (gf := 88) (lb := _) rfl trivial (enters_of Try.func88 (by kernel_rfl) rfl)
      (closed_stops r plan k hlt hb0.1 hb0.2 (by omega) _ _ w w2 hEw hP hL _ _ 4 (by omega) hb1 hb2) Keep.trans (Keep.rec_ hEw.size hb1.lt hb2.lt) (Below.refl _ _) (fun _ => rfl)
      (fun pre Y => (Blk Y (w.heap.size + 1) #[.int .i64 (cst + worthL r (pre.map Subtype.val))] 3 ∧ Blk Y w.heap.size (planV r (.slice a1 r.places.length c1) (.slice a2 plan.length c2)) 82 ∧ Marks w.heap.size ds Y) ∧ Below w.heap.size w2 Y)
      (fun _ _ _ => False)
      ?own (fun _ _ _ _ _ hs _ _ => hs) ⟨⟨by simpa [worthL] using hBo2, hBx2, hM2⟩, Below.refl _ _⟩ _ ?assign ?body ?done ?stop
    case own =>
      exact OwnFrom.and (fun p A B row hs hg hr => ⟨hs.1.kept hg (fun r e => (hr r e).2), hs.2.1.kept hg (fun r e => (hr r e).2), hs.2.2.grown hg w2.heap.size hMb (fun r e => (hr r e).1)⟩) (ownFrom_below hEw.size hEw.size)
    case assign =>
      intro l x Y K hK
      simp only [encN]
      gi_wp2
      exact hK
    case body =>
      rintro l pre x Y ⟨⟨ho1, hx1, hmk⟩, hBY⟩ hlen
      have hEY : Ext w Y := Below.trans hEw hBY
      have hY2 := Below.size hBY
      have hz2 := hb2.lt
      have hx := x.2
      obtain ⟨b, off, rfl, hb, hAt⟩ := HX.out x.1 hx
      have hAt2 := ate_stays _ _ _ _ _ _ hEY hb hAt
      obtain ⟨h0, h1, h2, h3, h4, h5, h6, h7, h8, h9, h10, h11⟩ := place_cells hAt2
      have hbY : b < Y.heap.size := Nat.lt_of_lt_of_le hb hEY.size
      have hwb := worthL_bd r HW.out pre
      have hwx := HW.out x.1 hx
      rw [show R.pat r.places x.1 = r.places[x.1] by simp [R.pat, hx]] at hwx
      have hsn := worthL_snoc r (pre.map Subtype.val) x.1
      rw [show R.pat r.places x.1 = r.places[x.1] by simp [R.pat, hx]] at hsn
      have hco := ho1.cell
      have hfo := ho1.free
      have hol := ho1.lt
      have hxc := hx1.cell
      have hxl := hx1.lt
      clear hAt hAt2
      obtain ⟨p, hp⟩ : ∃ p, r.places[x.1] = p := ⟨_, rfl⟩
      rw [hp] at h0 h1 h2 h3 h4 h5 h6 h7 h8 h9 h10 h11 hwx hsn
      obtain ⟨W, hW⟩ : ∃ W, worthL r (pre.map Subtype.val) = W := ⟨_, rfl⟩
      rw [hW] at hwb hco hsn
      have hwb2 : 0 ≤ W ∧ W ≤ 4000000 := by omega
      have HSN := Lib.hid hsn
      clear hp hsn hW hwb
      gi_wp2
      have hpc := plus_cell
      refine wpIn_region_ext 9 (fun _ _ d _ _ h => by cases d <;> exact h) (by rintro ⟨_, _, h⟩; first | exact h | exact h.elim) (by kernel_rfl) (by kernel_rfl) (by kernel_rfl) (by kernel_rfl) (by kernel_rfl) ?_
      simp only [List.take_succ_cons, List.take_zero, List.drop_succ_cons, List.drop_zero]
      repeat (any_goals (first | quiet_step (fail)))
      all_goals (refine wpQuiet_nil ?_; intro w' hE')
      have hE1' := hE'.cells.1
      have hE2' := hE'.cells.2
      have hsz' := hE'.size
      go_wp2
      have hgw : w.heap.size ≤ w.heap.size + 1 := by omega
      refine ⟨(KeepsOthers.of_grownBy hE'.grownBy (fun j o e => by cases e)).trans (KeepsOthers.setCell _ _ _), ⟨(Below.mono hE' hEY.size).setCell hgw _, ?_, ?_⟩, ⟨?_, (hx1.ext hE').other (by simp) _, ?_⟩, (Below.trans hBY (Below.mono hE' hEY.size)).setCell hgw _⟩
      · rw [Below.heap_setCell _ _ _ _ (by simp; omega)]; exact hE'.block _ (by omega)
      · rw [Below.heap_setCell _ _ _ _ (by simp; omega)]; exact hE'.block _ (by omega)
      · have h := (ho1.ext hE').set 0 (.int .i64 (cst + W + p.worth))
        have e : List.map Subtype.val pre ++ [x.1] = List.map Subtype.val (pre ++ [x]) := by simp
        rw [← e, HSN.out, ← Int.add_assoc]
        exact h
      · exact (hmk.ext hE').move fun b hb => by
          rw [Below.heap_setCell _ _ _ _ ?_]
          · exact hb
          · intro e
            have h1 := (ho1.ext hE').cell 0
            unfold World.cell? at h1
            simp only at e h1
            rw [← e] at h1
            simp [hb] at h1
    case done =>
      rintro D ys Y hD hS ⟨⟨ho1, hx1, hmk⟩, hBY⟩ hK
      have hEY : Ext w Y := Below.trans hEw hBY
      go_wp2
      refine ⟨⟨k + 1, { target := .collected D, args := #[] } :: ds, _, _, _, _, _, _, _, ⟨by omega, ⟨D, by have := hEw.size; omega, rfl, hK, fun x hx => ?_, hmk⟩, ?_, hx1, hEY⟩, rfl⟩, ?_⟩
      · obtain ⟨c, h1, h2⟩ := hMb x hx
        exact ⟨c, by omega, h2⟩
      · rw [hS, worthL_closed] at ho1
        rw [costTo_succ, HCST.out, show R.iat plan k = plan[k] by simp [R.iat, hlt]]
        exact ho1
      · simp [intOf]; omega
    case stop =>
      rintro D c pre Y _ _ h _
      exact h.elim
  · obtain rfl : k = plan.length := by omega
    have hlm : ¬ ((plan.length : Int) < m) := by have := HM.out.2; omega
    rw [HCA.out] at hBo c0
    go_wp2
    refine leaves_marks (by simp) w ds _ hM hE ?_
    intro w' hE'
    exact ⟨_, results_tmp rfl _ _ _, rfl, hE'⟩
end Go.Proofs.Ythffoglpekpmdaa
