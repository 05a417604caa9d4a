/- What an argument reads as: shores, storms, truths, lists. -/
import Derived.Test.YtgloajbgphcloaaGreatCo
import Derived.Test.YtgloajbgphcloaaGreatWl
import Derived.Deep.CutRange
import Derived.Laws.StructEq
import Derived.Deep.AppendSrc
import Derived.Deep.AppendLies
import Derived.Deep.RegionHeld3
import Derived.Laws.EntriesVeiled
import Derived.Deep.Slices
import Derived.Lib.SmallJoins
import Derived.ProofKit
namespace Go.Proofs.YtgloajbgphcloaaGreat.Wl
set_option linter.unusedVariables false
set_option linter.unusedSimpArgs false
open Go.RowKit Go.ChangeShapes Go.WideShapes
variable {H : Type} {enc : TypeId × Value → H} {w : World} {spare : Nat → Bool}
theorem add_at {a : Addr} (h : a.spot = none) (i : Nat) : a.add i = ⟨a.block, a.off + i, none⟩ := by
  obtain ⟨b, o, s⟩ := a
  simp only at h; subst h
  unfold Addr.add; split <;> simp_all
theorem add_add_at {a : Addr} (h : a.spot = none) (x i : Nat) : (a.add x).add i = ⟨a.block, a.off + x + i, none⟩ := by
  rw [add_at h, add_at rfl]
theorem addr_at {a : Addr} (h : a.spot = none) : a = ⟨a.block, a.off, none⟩ := by
  obtain ⟨b, o, s⟩ := a
  simp only at h; subst h; rfl
theorem int_of {fuel : Nat} {cs : List Value} {x : DataW H × List MemPlace} (h : DataW.trod enc Tryz.prog w 0 spare true fuel 3 cs = some x) : ∃ n, cs = [.int .i64 n] := by
  obtain ⟨n, rfl, _⟩ := DataW.trod_int Tryz.underlying3 h
  exact ⟨n, rfl⟩
theorem four {α : Type} {l : List α} (h : l.length = 4) : ∃ a b c d, l = [a, b, c, d] := by
  match l, h with
  | [a, b, c, d], _ => exact ⟨a, b, c, d, rfl⟩
theorem three {α : Type} {l : List α} (h : l.length = 3) : ∃ a b c, l = [a, b, c] := by
  match l, h with
  | [a, b, c], _ => exact ⟨a, b, c, rfl⟩
theorem two {α : Type} {l : List α} (h : l.length = 2) : ∃ a b, l = [a, b] := by
  match l, h with
  | [a, b], _ => exact ⟨a, b, rfl⟩
theorem five {α : Type} {l : List α} (h : l.length = 5) : ∃ a b c d e, l = [a, b, c, d, e] := by
  match l, h with
  | [a, b, c, d, e], _ => exact ⟨a, b, c, d, e, rfl⟩
theorem six {α : Type} {l : List α} (h : l.length = 6) : ∃ a b c d e f, l = [a, b, c, d, e, f] := by
  match l, h with
  | [a, b, c, d, e, f], _ => exact ⟨a, b, c, d, e, f, rfl⟩
/-- The reading of field i of a struct. -/
theorem field_of {t : TypeId} {fs : Array Field} {fuel : Nat} {cs : List Value} {x : DataW H × List MemPlace} (ht : Tryz.prog.underlying t = some (.struct fs)) (h : DataW.trod enc Tryz.prog w 0 spare true fuel t cs = some x) :
    cs.length = Tryz.prog.cellsOf t ∧ ∀ (i : Nat) (f : Field), fs.toList[i]? = some f → ∃ n y, DataW.trod enc Tryz.prog w 0 spare true n f.type ((cs.drop f.offset).take (Tryz.prog.cellsOf f.type)) = some y := by
  obtain ⟨xs, n, _, _, hl, hlen, hf⟩ := DataW.trod_struct ht h
  refine ⟨hl, fun i f hfi' => ?_⟩
  have hfi : fs[i]? = some f := by rw [← hfi']; simp
  have hi : i < xs.length := by rw [hlen]; exact (Array.getElem?_eq_some_iff.1 hfi).1
  exact ⟨n, xs[i], by rw [hf i f hfi]; exact List.getElem?_eq_getElem hi⟩
theorem size_int : Tryz.prog.cellsOf 3 = 1 := by kernel_rfl
theorem size_span : Tryz.prog.cellsOf 25 = 2 := by kernel_rfl
theorem size_slice_cell : Tryz.prog.cellsOf 22 = 1 := by kernel_rfl
theorem size_slice_work : Tryz.prog.cellsOf 23 = 1 := by kernel_rfl
theorem size_cell : Tryz.prog.cellsOf 135 = 4 := by kernel_rfl
theorem size_work : Tryz.prog.cellsOf 139 = 3 := by kernel_rfl
theorem size_shore : Tryz.prog.cellsOf 27 = 5 := by kernel_rfl
theorem size_storm : Tryz.prog.cellsOf 29 = 6 := by kernel_rfl
theorem span_of {fuel : Nat} {cs : List Value} {x : DataW H × List MemPlace} (h : DataW.trod enc Tryz.prog w 0 spare true fuel 25 cs = some x) : ∃ a b, cs = [.int .i64 a, .int .i64 b] := by
  obtain ⟨hl, hf⟩ := field_of Tryz.underlying25 h
  rw [size_span] at hl
  obtain ⟨c0, c1, rfl⟩ := two hl
  obtain ⟨_, _, h0⟩ := hf 0 _ rfl
  obtain ⟨_, _, h1⟩ := hf 1 _ rfl
  simp only [size_int, List.drop_zero, List.take_succ_cons, List.take_zero, List.drop_succ_cons] at h0 h1
  obtain ⟨a, ha⟩ := int_of h0
  obtain ⟨b, hb⟩ := int_of h1
  cases ha; cases hb
  exact ⟨a, b, rfl⟩
theorem cell_of {fuel : Nat} {cs : List Value} {x : DataW H × List MemPlace} (h : DataW.trod enc Tryz.prog w 0 spare true fuel 135 cs = some x) : ∃ c : W.Cell, cs = [.int .i64 c.g, .int .i64 c.dl, .int .i64 c.dh, .int .i64 c.fl] := by
  obtain ⟨hl, hf⟩ := field_of Tryz.underlying135 h
  rw [size_cell] at hl
  obtain ⟨c0, c1, c2, c3, rfl⟩ := four hl
  obtain ⟨_, _, h0⟩ := hf 0 _ rfl
  obtain ⟨_, _, h1⟩ := hf 1 _ rfl
  obtain ⟨_, _, h2⟩ := hf 2 _ rfl
  simp only [size_int, size_span, List.drop_zero, List.take_succ_cons, List.take_zero, List.drop_succ_cons] at h0 h1 h2
  obtain ⟨g, hg⟩ := int_of h0
  obtain ⟨a, b, hab⟩ := span_of h1
  obtain ⟨f, hf'⟩ := int_of h2
  cases hg; cases hab; cases hf'
  exact ⟨⟨g, a, b, f⟩, rfl⟩
theorem work_of {fuel : Nat} {cs : List Value} {x : DataW H × List MemPlace} (h : DataW.trod enc Tryz.prog w 0 spare true fuel 139 cs = some x) : ∃ c : W.Work, cs = [.int .i64 c.rise, .int .i64 c.calm, .int .i64 c.cost] := by
  obtain ⟨hl, hf⟩ := field_of Tryz.underlying139 h
  rw [size_work] at hl
  obtain ⟨c0, c1, c2, rfl⟩ := three hl
  obtain ⟨_, _, h0⟩ := hf 0 _ rfl
  obtain ⟨_, _, h1⟩ := hf 1 _ rfl
  obtain ⟨_, _, h2⟩ := hf 2 _ rfl
  simp only [size_int, List.drop_zero, List.take_succ_cons, List.take_zero, List.drop_succ_cons] at h0 h1 h2
  obtain ⟨g, hg⟩ := int_of h0
  obtain ⟨a, ha⟩ := int_of h1
  obtain ⟨f, hf'⟩ := int_of h2
  cases hg; cases ha; cases hf'
  exact ⟨⟨g, a, f⟩, rfl⟩
theorem cells_of {fuel : Nat} {cs : List Value} {x : DataW H × List MemPlace} (h : DataW.trod enc Tryz.prog w 0 spare true fuel 22 cs = some x) : ∃ v xs, cs = [v] ∧ Cells w v xs ∧ Room v := by
  rcases Deep.open_slice Tryz.underlying22 h with ⟨rfl, _⟩ | ⟨a, len, cap, m, n, D, Pl, rfl, _, hlc, _, hm, _, hi⟩
  · exact ⟨_, [], rfl, Sls.nil w, Nat.le_refl _⟩
  · have hlm : len ≤ m := by rw [hm]; split <;> omega
    rw [size_cell] at hi
    obtain ⟨f, hf⟩ := Deep.choose_lt (α := W.Cell) (n := len) (p := fun i c => w.cells? 0 (a.add (i * 4)) 4 = some [.int .i64 c.g, .int .i64 c.dl, .int .i64 c.dh, .int .i64 c.fl]) (fun i hil => by
      obtain ⟨cs', h1, h2⟩ := hi i (by omega)
      obtain ⟨c, rfl⟩ := cell_of h2
      exact ⟨c, h1⟩)
    refine ⟨_, (List.range len).map f, rfl, ⟨some a, cap, by simp, fun i hil => ?_⟩, hlc⟩
    have hil' : i < len := by simpa using hil
    obtain ⟨_, _, hc⟩ := World.cells?_some (hf i hil')
    obtain ⟨_, _, hc0⟩ := World.cells?_some (hf 0 (by omega))
    have hs : a.spot = none := by
      have := hc0 0 (by omega)
      simp only [Nat.zero_mul] at this
      have h2 := World.cell?_spot this
      simpa [Addr.add] using h2
    have e : ((List.range len).map f)[i] = f i := by simp
    rw [e]
    have k := fun j (hj : j < 4) => by have := hc j hj; rw [add_add_at hs] at this; exact this
    refine ⟨a.block, a.off, by rw [← addr_at hs], ?_, k 0 (by omega), k 1 (by omega), k 2 (by omega), k 3 (by omega)⟩
    exact World.block_lt_of_cell? w ⟨a.block, a.off + i * 4 + 0, none⟩ ((k 0 (by omega)).trans rfl)
theorem works_of {fuel : Nat} {cs : List Value} {x : DataW H × List MemPlace} (h : DataW.trod enc Tryz.prog w 0 spare true fuel 23 cs = some x) : ∃ v xs, cs = [v] ∧ Works w v xs := by
  rcases Deep.open_slice Tryz.underlying23 h with ⟨rfl, _⟩ | ⟨a, len, cap, m, n, D, Pl, rfl, _, hlc, _, hm, _, hi⟩
  · exact ⟨_, [], rfl, Sls.nil w⟩
  · have hlm : len ≤ m := by rw [hm]; split <;> omega
    rw [size_work] at hi
    obtain ⟨f, hf⟩ := Deep.choose_lt (α := W.Work) (n := len) (p := fun i c => w.cells? 0 (a.add (i * 3)) 3 = some [.int .i64 c.rise, .int .i64 c.calm, .int .i64 c.cost]) (fun i hil => by
      obtain ⟨cs', h1, h2⟩ := hi i (by omega)
      obtain ⟨c, rfl⟩ := work_of h2
      exact ⟨c, h1⟩)
    refine ⟨_, (List.range len).map f, rfl, ⟨some a, cap, by simp, fun i hil => ?_⟩⟩
    have hil' : i < len := by simpa using hil
    obtain ⟨_, _, hc⟩ := World.cells?_some (hf i hil')
    obtain ⟨_, _, hc0⟩ := World.cells?_some (hf 0 (by omega))
    have hs : a.spot = none := by
      have := hc0 0 (by omega)
      simp only [Nat.zero_mul] at this
      have h2 := World.cell?_spot this
      simpa [Addr.add] using h2
    have e : ((List.range len).map f)[i] = f i := by simp
    rw [e]
    have k := fun j (hj : j < 3) => by have := hc j hj; rw [add_add_at hs] at this; exact this
    refine ⟨a.block, a.off, by rw [← addr_at hs], ?_, k 0 (by omega), k 1 (by omega), k 2 (by omega)⟩
    exact World.block_lt_of_cell? w ⟨a.block, a.off + i * 3 + 0, none⟩ ((k 0 (by omega)).trans rfl)
set_option maxRecDepth 100000 in
/-- A struct by value is the array of its cells. -/
theorem agg_of {t : TypeId} {fs : Array Field} {r : Reach} {b0 : Nat} {v : Value} (ht : Tryz.prog.underlying t = some (.struct fs)) (hv : Value.okWide Tryz.prog w r b0 t v) {l : List Value} (hl : v.cells.toList = l) : v = .agg l.toArray := by
  obtain ⟨cs, rfl, _⟩ := okWide_struct ht hv
  subst hl
  simp [Value.cells]
set_option maxRecDepth 100000 in
theorem shore_of {v : Value} {d : DataW H} {ps : List MemPlace} {r : Reach} {b0 : Nat} (hv : Value.okWide Tryz.prog w r b0 27 v) (h : DataW.Trod enc Tryz.prog w 0 spare true 27 v d ps) :
    ∃ (s : W.Shore) (vc vw : Value), v = shoreA s vc vw ∧ Cells w vc s.cells ∧ Works w vw s.works ∧ Room vc := by
  obtain ⟨fuel, h⟩ := h
  obtain ⟨hl, hf⟩ := field_of Tryz.underlying27 h
  rw [size_shore] at hl
  obtain ⟨c0, c1, c2, c3, c4, hc⟩ := five hl
  rw [hc] at hf
  obtain ⟨_, _, h0⟩ := hf 0 _ rfl
  obtain ⟨_, _, h1⟩ := hf 1 _ rfl
  obtain ⟨_, _, h2⟩ := hf 2 _ rfl
  obtain ⟨_, _, h3⟩ := hf 3 _ rfl
  simp only [size_int, size_span, size_slice_cell, size_slice_work, List.drop_zero, List.take_succ_cons, List.take_zero, List.drop_succ_cons] at h0 h1 h2 h3
  obtain ⟨vc, xs, hvc, hC, hR⟩ := cells_of h0
  obtain ⟨vw, ys, hvw, hW⟩ := works_of h1
  obtain ⟨n, hn⟩ := int_of h2
  obtain ⟨a, b, hab⟩ := span_of h3
  cases hvc; cases hvw; cases hn; cases hab
  exact ⟨⟨xs, ys, n, a, b⟩, _, _, agg_of Tryz.underlying27 hv hc, hC, hW, hR⟩
set_option maxRecDepth 100000 in
theorem storm_of {v : Value} {d : DataW H} {ps : List MemPlace} {r : Reach} {b0 : Nat} (hv : Value.okWide Tryz.prog w r b0 29 v) (h : DataW.Trod enc Tryz.prog w 0 spare true 29 v d ps) :
    ∃ c : W.Storm, v = stormA c := by
  obtain ⟨fuel, h⟩ := h
  obtain ⟨hl, hf⟩ := field_of Tryz.underlying29 h
  rw [size_storm] at hl
  obtain ⟨c0, c1, c2, c3, c4, c5, hc⟩ := six hl
  rw [hc] at hf
  obtain ⟨_, _, h0⟩ := hf 0 _ rfl
  obtain ⟨_, _, h1⟩ := hf 1 _ rfl
  obtain ⟨_, _, h2⟩ := hf 2 _ rfl
  simp only [size_span, List.drop_zero, List.take_succ_cons, List.take_zero, List.drop_succ_cons] at h0 h1 h2
  obtain ⟨a, b, hab⟩ := span_of h0
  obtain ⟨a', b', hab'⟩ := span_of h1
  obtain ⟨a'', b'', hab''⟩ := span_of h2
  cases hab; cases hab'; cases hab''
  exact ⟨⟨a, b, a', b', a'', b''⟩, agg_of Tryz.underlying29 hv hc⟩
end Go.Proofs.YtgloajbgphcloaaGreat.Wl
