/- What an argument reads as: reefs, plans, truths. -/
import Derived.Test.YthffoglpekpmdaaK2
import Derived.Deep.Slices
import Derived.Lib.SmallJoins
import Derived.ProofKit
namespace Go.Proofs.Ythffoglpekpmdaa
set_option linter.unusedVariables false
set_option linter.unusedSimpArgs false
open Go.RowKit Go.ChangeShapes Go.WideShapes
variable {H : Type} {enc : TypeId × Value → H} {w : World} {spare : Nat → Bool}
theorem add_at {a : Addr} (h : a.spot = none) (i : Nat) : a.add i = ⟨a.block, a.off + i, none⟩ := by
  obtain ⟨b, o, s⟩ := a
  simp only at h; subst h
  unfold Addr.add; split <;> simp_all
theorem add_add_at {a : Addr} (h : a.spot = none) (x i : Nat) : (a.add x).add i = ⟨a.block, a.off + x + i, none⟩ := by
  rw [add_at h, add_at rfl]
theorem addr_at {a : Addr} (h : a.spot = none) : a = ⟨a.block, a.off, none⟩ := by
  obtain ⟨b, o, s⟩ := a
  simp only at h; subst h; rfl
theorem spot_of {a : Addr} {v : Value} (h : w.cell? (a.add 0) = some v) : a.spot = none := by
  have := World.cell?_spot h
  simpa [Addr.add] using this
theorem int_of {fuel : Nat} {cs : List Value} {x : DataW H × List MemPlace} (h : DataW.trod enc Try.prog w 0 spare true fuel 3 cs = some x) : ∃ n, cs = [.int .i64 n] := by
  obtain ⟨n, rfl, _⟩ := DataW.trod_int Try.underlying3 h
  exact ⟨n, rfl⟩
theorem ints_of {fuel : Nat} {cs : List Value} {x : DataW H × List MemPlace} (h : DataW.trod enc Try.prog w 0 spare true fuel 25 cs = some x) : ∃ v xs, cs = [v] ∧ Ints w v xs ∧ Tight v := by
  rcases open_ints Try.underlying25 Try.underlying3 (by kernel_rfl) h with ⟨rfl, _⟩ | ⟨a, len, cap, zs, rfl, _, hlc, _, hz, _, hc, _⟩
  · exact ⟨_, [], rfl, Ints.nil w, Tight.nil⟩
  · have hzl : len ≤ zs.length := by rw [hz]; split <;> omega
    refine ⟨_, zs.take len, rfl, ⟨some a, cap, by rw [List.length_take, Nat.min_eq_left hzl], fun i hi => ?_⟩, Tight.some _ _ _⟩
    have hi' : i < zs.length := by rw [List.length_take] at hi; omega
    have hs := spot_of (hc 0 (by omega))
    have hci := hc i hi'
    have hb := World.block_lt_of_cell? w _ hci
    rw [add_at hs] at hci hb
    exact ⟨a.block, a.off, by rw [← addr_at hs], hb, by rw [hci]; simp [hi']⟩
theorem three {α : Type} {l : List α} (h : l.length = 3) : ∃ a b c, l = [a, b, c] := by
  match l, h with
  | [a, b, c], _ => exact ⟨a, b, c, rfl⟩
theorem two {α : Type} {l : List α} (h : l.length = 2) : ∃ a b, l = [a, b] := by
  match l, h with
  | [a, b], _ => exact ⟨a, b, rfl⟩
theorem twelve {α : Type} {l : List α} (h : l.length = 12) : ∃ a b c d e f g h' i j k m, l = [a, b, c, d, e, f, g, h', i, j, k, m] := by
  match l, h with
  | [a, b, c, d, e, f, g, h', i, j, k, m], _ => exact ⟨a, b, c, d, e, f, g, h', i, j, k, m, rfl⟩
/-- The reading of field i of a struct. -/
theorem field_of {t : TypeId} {fs : Array Field} {fuel : Nat} {cs : List Value} {x : DataW H × List MemPlace} (ht : Try.prog.underlying t = some (.struct fs)) (h : DataW.trod enc Try.prog w 0 spare true fuel t cs = some x) :
    cs.length = Try.prog.cellsOf t ∧ ∀ (i : Nat) (f : Field), fs.toList[i]? = some f → ∃ n y, DataW.trod enc Try.prog w 0 spare true n f.type ((cs.drop f.offset).take (Try.prog.cellsOf f.type)) = some y := by
  obtain ⟨xs, n, _, _, hl, hlen, hf⟩ := DataW.trod_struct ht h
  refine ⟨hl, fun i f hfi' => ?_⟩
  have hfi : fs[i]? = some f := by rw [← hfi']; simp
  have hi : i < xs.length := by rw [hlen]; exact (Array.getElem?_eq_some_iff.1 hfi).1
  exact ⟨n, xs[i], by rw [hf i f hfi]; exact List.getElem?_eq_getElem hi⟩
theorem size_int : Try.prog.cellsOf 3 = 1 := by kernel_rfl
theorem size_span : Try.prog.cellsOf 44 = 2 := by kernel_rfl
theorem size_slice_int : Try.prog.cellsOf 25 = 1 := by kernel_rfl
theorem size_slice_rows : Try.prog.cellsOf 26 = 1 := by kernel_rfl
theorem size_slice_place : Try.prog.cellsOf 22 = 1 := by kernel_rfl
theorem size_place : Try.prog.cellsOf 46 = 12 := by kernel_rfl
theorem size_reef : Try.prog.cellsOf 24 = 3 := by kernel_rfl
theorem size_truth : Try.prog.cellsOf 28 = 3 := by kernel_rfl
set_option maxRecDepth 100000 in
theorem span_of {fuel : Nat} {cs : List Value} {x : DataW H × List MemPlace} (h : DataW.trod enc Try.prog w 0 spare true fuel 44 cs = some x) : ∃ a b, cs = [.int .i64 a, .int .i64 b] := by
  obtain ⟨hl, hf⟩ := field_of Try.underlying44 h
  rw [size_span] at hl
  obtain ⟨c0, c1, rfl⟩ := two hl
  obtain ⟨_, _, h0⟩ := hf 0 _ rfl
  obtain ⟨_, _, h1⟩ := hf 1 _ rfl
  simp only [size_int, List.drop_zero, List.take_succ_cons, List.take_zero, List.drop_succ_cons] at h0 h1
  obtain ⟨a, ha⟩ := int_of h0
  obtain ⟨b, hb⟩ := int_of h1
  cases ha; cases hb
  exact ⟨a, b, rfl⟩
set_option maxRecDepth 100000 in
theorem place_of {fuel : Nat} {cs : List Value} {x : DataW H × List MemPlace} (h : DataW.trod enc Try.prog w 0 spare true fuel 46 cs = some x) : ∃ p : R.Place, cs = placeC p := by
  obtain ⟨hl, hf⟩ := field_of Try.underlying46 h
  rw [size_place] at hl
  obtain ⟨c0, c1, c2, c3, c4, c5, c6, c7, c8, c9, c10, c11, rfl⟩ := twelve hl
  obtain ⟨_, _, h0⟩ := hf 0 _ rfl
  obtain ⟨_, _, h1⟩ := hf 1 _ rfl
  obtain ⟨_, _, h2⟩ := hf 2 _ rfl
  obtain ⟨_, _, h3⟩ := hf 3 _ rfl
  obtain ⟨_, _, h4⟩ := hf 4 _ rfl
  obtain ⟨_, _, h5⟩ := hf 5 _ rfl
  obtain ⟨_, _, h6⟩ := hf 6 _ rfl
  obtain ⟨_, _, h7⟩ := hf 7 _ rfl
  obtain ⟨_, _, h8⟩ := hf 8 _ rfl
  simp only [size_int, size_span, List.drop_zero, List.take_succ_cons, List.take_zero, List.drop_succ_cons] at h0 h1 h2 h3 h4 h5 h6 h7 h8
  obtain ⟨n0, e0⟩ := int_of h0
  obtain ⟨n1, e1⟩ := int_of h1
  obtain ⟨n2, m2, e2⟩ := span_of h2
  obtain ⟨n3, e3⟩ := int_of h3
  obtain ⟨n4, e4⟩ := int_of h4
  obtain ⟨n5, m5, e5⟩ := span_of h5
  obtain ⟨n6, m6, e6⟩ := span_of h6
  obtain ⟨n7, e7⟩ := int_of h7
  obtain ⟨n8, e8⟩ := int_of h8
  cases e0; cases e1; cases e2; cases e3; cases e4; cases e5; cases e6; cases e7; cases e8
  exact ⟨⟨n0, n1, n2, m2, n3, n4, n5, m5, n6, m6, n7, n8⟩, rfl⟩
theorem places_of {fuel : Nat} {cs : List Value} {x : DataW H × List MemPlace} (h : DataW.trod enc Try.prog w 0 spare true fuel 22 cs = some x) : ∃ v xs, cs = [v] ∧ Places w v xs := by
  rcases Deep.open_slice Try.underlying22 h with ⟨rfl, _⟩ | ⟨a, len, cap, m, n, D, Pl, rfl, _, hlc, _, hm, _, hi⟩
  · exact ⟨_, [], rfl, Sls.nil w⟩
  · have hlm : len ≤ m := by rw [hm]; split <;> omega
    rw [size_place] at hi
    obtain ⟨f, hf⟩ := Deep.choose_lt (α := R.Place) (n := len) (p := fun i c => w.cells? 0 (a.add (i * 12)) 12 = some (placeC c)) (fun i hil => by
      obtain ⟨cs', h1, h2⟩ := hi i (by omega)
      obtain ⟨c, rfl⟩ := place_of h2
      exact ⟨c, h1⟩)
    refine ⟨_, (List.range len).map f, rfl, ⟨some a, cap, by simp, fun i hil => ?_⟩⟩
    have hil' : i < len := by simpa using hil
    obtain ⟨_, _, hc⟩ := World.cells?_some (hf i hil')
    obtain ⟨_, _, hc0⟩ := World.cells?_some (hf 0 (by omega))
    have hs : a.spot = none := by
      have := hc0 0 (by omega)
      simp only [Nat.zero_mul] at this
      have h2 := World.cell?_spot this
      simpa [Addr.add] using h2
    have e : ((List.range len).map f)[i] = f i := by simp
    rw [e]
    have k := fun j (hj : j < 12) => by have := hc j hj; rw [add_add_at hs] at this; exact this
    refine ⟨a.block, a.off, by rw [← addr_at hs], ?_, fun j u hu => ?_⟩
    · exact World.block_lt_of_cell? w ⟨a.block, a.off + i * 12 + 0, none⟩ ((k 0 (by omega)).trans rfl)
    · have hj : j < 12 := (List.getElem?_eq_some_iff.1 hu).1
      rw [k j hj]
      rw [← hu]
      first | done | simp [placeC_len, hj]
theorem rows_of {fuel : Nat} {cs : List Value} {x : DataW H × List MemPlace} (h : DataW.trod enc Try.prog w 0 spare true fuel 26 cs = some x) : ∃ v xs, cs = [v] ∧ Lists w v xs := by
  rcases Deep.open_slice Try.underlying26 h with ⟨rfl, _⟩ | ⟨a, len, cap, m, n, D, Pl, rfl, _, hlc, _, hm, _, hi⟩
  · exact ⟨_, [], rfl, Sls.nil w⟩
  · have hlm : len ≤ m := by rw [hm]; split <;> omega
    rw [size_slice_int] at hi
    obtain ⟨f, hf⟩ := Deep.choose_lt (α := Value × List Int) (n := len) (p := fun i c => w.cells? 0 (a.add (i * 1)) 1 = some [c.1] ∧ Ints w c.1 c.2 ∧ Tight c.1) (fun i hil => by
      obtain ⟨cs', h1, h2⟩ := hi i (by omega)
      obtain ⟨v, xs, rfl, hI, hT⟩ := ints_of h2
      exact ⟨(v, xs), h1, hI, hT⟩)
    refine ⟨_, (List.range len).map fun i => (f i).2, rfl, ⟨some a, cap, by simp, fun i hil => ?_⟩⟩
    have hil' : i < len := by simpa using hil
    obtain ⟨hfi, hI, hT⟩ := hf i hil'
    obtain ⟨hf0, _, _⟩ := hf 0 (by omega)
    obtain ⟨_, _, hc⟩ := World.cells?_some hfi
    obtain ⟨_, _, hc0⟩ := World.cells?_some hf0
    have hs : a.spot = none := by
      have := hc0 0 (by omega)
      simp only [Nat.zero_mul] at this
      have h2 := World.cell?_spot this
      simpa [Addr.add] using h2
    have e : ((List.range len).map fun i => (f i).2)[i] = (f i).2 := by simp
    rw [e]
    have k := hc 0 (by omega)
    rw [add_add_at hs, Nat.add_zero] at k
    exact ⟨a.block, a.off, by rw [← addr_at hs], World.block_lt_of_cell? w ⟨a.block, a.off + i * 1, none⟩ (k.trans rfl), (f i).1, k.trans rfl, hI, hT⟩
set_option maxRecDepth 100000 in
/-- A struct by value is the array of its cells. -/
theorem agg_of {t : TypeId} {fs : Array Field} {r : Reach} {b0 : Nat} {v : Value} (ht : Try.prog.underlying t = some (.struct fs)) (hv : Value.okWide Try.prog w r b0 t v) {l : List Value} (hl : v.cells.toList = l) : v = .agg l.toArray := by
  obtain ⟨cs, rfl, _⟩ := okWide_struct ht hv
  subst hl
  simp [Value.cells]
set_option maxRecDepth 100000 in
theorem reef_of {v : Value} {d : DataW H} {ps : List MemPlace} {r : Reach} {b0 : Nat} (hv : Value.okWide Try.prog w r b0 24 v) (h : DataW.Trod enc Try.prog w 0 spare true 24 v d ps) :
    ∃ (s : R.Reef) (vp : Value), v = .agg (reefV s vp) ∧ Places w vp s.places := by
  obtain ⟨fuel, h⟩ := h
  obtain ⟨hl, hf⟩ := field_of Try.underlying24 h
  rw [size_reef] at hl
  obtain ⟨c0, c1, c2, hc⟩ := three hl
  rw [hc] at hf
  obtain ⟨_, _, h0⟩ := hf 0 _ rfl
  obtain ⟨_, _, h1⟩ := hf 1 _ rfl
  obtain ⟨_, _, h2⟩ := hf 2 _ rfl
  simp only [size_int, size_slice_place, List.drop_zero, List.take_succ_cons, List.take_zero, List.drop_succ_cons] at h0 h1 h2
  obtain ⟨vp, xs, hvp, hP⟩ := places_of h0
  obtain ⟨n, hn⟩ := int_of h1
  obtain ⟨m, hm⟩ := int_of h2
  cases hvp; cases hn; cases hm
  exact ⟨⟨xs, n, m⟩, _, agg_of Try.underlying24 hv hc, hP⟩
set_option maxRecDepth 100000 in
theorem truth_of {v : Value} {d : DataW H} {ps : List MemPlace} {r : Reach} {b0 : Nat} (hv : Value.okWide Try.prog w r b0 28 v) (h : DataW.Trod enc Try.prog w 0 spare true 28 v d ps) :
    ∃ (t : R.Truth) (vs vg vt : Value), v = .agg (truthV vs vg vt) ∧ Ints w vs t.starts ∧ Lists w vg t.grows ∧ Lists w vt t.takes := by
  obtain ⟨fuel, h⟩ := h
  obtain ⟨hl, hf⟩ := field_of Try.underlying28 h
  rw [size_truth] at hl
  obtain ⟨c0, c1, c2, hc⟩ := three hl
  rw [hc] at hf
  obtain ⟨_, _, h0⟩ := hf 0 _ rfl
  obtain ⟨_, _, h1⟩ := hf 1 _ rfl
  obtain ⟨_, _, h2⟩ := hf 2 _ rfl
  simp only [size_slice_int, size_slice_rows, List.drop_zero, List.take_succ_cons, List.take_zero, List.drop_succ_cons] at h0 h1 h2
  obtain ⟨vs, xs, e0, hS, _⟩ := ints_of h0
  obtain ⟨vg, ys, e1, hG⟩ := rows_of h1
  obtain ⟨vt, zs, e2, hT⟩ := rows_of h2
  cases e0; cases e1; cases e2
  exact ⟨⟨xs, ys, zs⟩, _, _, _, agg_of Try.underlying28 hv hc, hS, hG, hT⟩
theorem plan_of {v : Value} {d : DataW H} {ps : List MemPlace} (h : DataW.Trod enc Try.prog w 0 spare true 25 v d ps) (h1 : v.cells.toList = [v]) : ∃ xs, Ints w v xs ∧ Tight v := by
  obtain ⟨fuel, h⟩ := h
  obtain ⟨u, xs, hu, hI, hR⟩ := ints_of h
  rw [h1] at hu
  cases hu
  exact ⟨xs, hI, hR⟩
set_option maxRecDepth 100000 in
/-- A slice is one cell. -/
theorem slice_cell {t e : TypeId} {r : Reach} {b0 : Nat} {v : Value} (ht : Try.prog.underlying t = some (.slice e)) (hv : Value.okWide Try.prog w r b0 t v) : v.cells.toList = [v] := by
  unfold Value.okWide at hv
  rw [ht] at hv
  simp only at hv
  unfold Cell.okWide Cell.ok at hv
  rw [ht] at hv
  cases v <;> first | rfl | exact hv.elim
set_option maxRecDepth 100000 in
theorem list_of {v : Value} {d : DataW H} {ps : List MemPlace} {r : Reach} {b0 : Nat} (hv : Value.okWide Try.prog w r b0 25 v) (h : DataW.Trod enc Try.prog w 0 spare true 25 v d ps) : ∃ xs, Ints w v xs ∧ Tight v :=
  plan_of h (slice_cell Try.underlying25 hv)
end Go.Proofs.Ythffoglpekpmdaa
