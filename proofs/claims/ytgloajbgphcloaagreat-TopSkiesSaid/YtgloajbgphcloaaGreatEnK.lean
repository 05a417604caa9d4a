/- What an argument reads as: an islet, a system, a truth. -/
import Derived.Test.YtgloajbgphcloaaGreatEn
import Derived.Test.YtgloajbgphcloaaGreatLnA
import Derived.Test.YtgloajbgphcloaaGreatClA
namespace Go.Proofs.YtgloajbgphcloaaGreat
set_option linter.unusedVariables false
set_option linter.unusedSimpArgs false
open Go.RowKit Go.ChangeShapes Go.WideShapes
variable {H : Type} {enc : TypeId × Value → H} {w : World} {spare : Nat → Bool}
theorem cells6 {l : List Value} (h : l.length = 6) : ∃ a0 a1 a2 a3 a4 a5, l = [a0, a1, a2, a3, a4, a5] := by
  match l, h with
  | [a0, a1, a2, a3, a4, a5], _ => exact ⟨a0, a1, a2, a3, a4, a5, rfl⟩
theorem cells3 {l : List Value} (h : l.length = 3) : ∃ a0 a1 a2, l = [a0, a1, a2] := by
  match l, h with
  | [a0, a1, a2], _ => exact ⟨a0, a1, a2, rfl⟩
theorem size_month : Tryz.prog.cellsOf 63 = 6 := by kernel_rfl
set_option maxRecDepth 100000 in
theorem month_of {fuel : Nat} {cs : List Value} {x : DataW H × List MemPlace} (h : DataW.trod enc Tryz.prog w 0 spare true fuel 63 cs = some x) : ∃ l : Ln.Month, cs = Ln.monthC l := by
  obtain ⟨hl, hf⟩ := field_of Tryz.underlying63 h
  rw [size_month] at hl
  obtain ⟨c0, c1, c2, c3, c4, c5, rfl⟩ := cells6 hl
  obtain ⟨_, _, h0⟩ := hf 0 _ rfl
  obtain ⟨_, _, h1⟩ := hf 1 _ rfl
  obtain ⟨_, _, h2⟩ := hf 2 _ rfl
  simp only [size_span, List.drop_zero, List.take_succ_cons, List.take_zero, List.drop_succ_cons] at h0 h1 h2
  obtain ⟨n0, m0, e0⟩ := span_of h0
  obtain ⟨n1, m1, e1⟩ := span_of h1
  obtain ⟨n2, m2, e2⟩ := span_of h2
  cases e0; cases e1; cases e2
  exact ⟨⟨n0, m0, n1, m1, n2, m2⟩, rfl⟩
theorem size_load : Tryz.prog.cellsOf 165 = 3 := by kernel_rfl
set_option maxRecDepth 100000 in
theorem load_of {fuel : Nat} {cs : List Value} {x : DataW H × List MemPlace} (h : DataW.trod enc Tryz.prog w 0 spare true fuel 165 cs = some x) : ∃ l : Cl.C.Load, cs = Cl.loadC l := by
  obtain ⟨hl, hf⟩ := field_of Tryz.underlying165 h
  rw [size_load] at hl
  obtain ⟨c0, c1, c2, rfl⟩ := cells3 hl
  obtain ⟨_, _, h0⟩ := hf 0 _ rfl
  obtain ⟨_, _, h1⟩ := hf 1 _ rfl
  obtain ⟨_, _, h2⟩ := hf 2 _ rfl
  simp only [size_bool, size_int, List.drop_zero, List.take_succ_cons, List.take_zero, List.drop_succ_cons] at h0 h1 h2
  obtain ⟨n0, e0⟩ := int_of h0
  obtain ⟨n1, e1⟩ := int_of h1
  obtain ⟨n2, e2⟩ := bool_of h2
  cases e0; cases e1; cases e2
  exact ⟨⟨n0, n1, n2⟩, rfl⟩
theorem size_months : Tryz.prog.cellsOf 50 = 1 := by kernel_rfl
theorem months_of {fuel : Nat} {cs : List Value} {x : DataW H × List MemPlace} (h : DataW.trod enc Tryz.prog w 0 spare true fuel 50 cs = some x) : ∃ v xs, cs = [v] ∧ Ln.Months w v xs := by
  rcases Deep.open_slice Tryz.underlying50 h with ⟨rfl, _⟩ | ⟨a, len, cap, m, n, D, Pl, rfl, _, hlc, _, hm, _, hi⟩
  · exact ⟨_, [], rfl, Sls.nil w⟩
  · have hlm : len ≤ m := by rw [hm]; split <;> omega
    rw [size_month] at hi
    obtain ⟨f, hf⟩ := Deep.choose_lt (α := Ln.Month) (n := len) (p := fun i c => w.cells? 0 (a.add (i * 6)) 6 = some (Ln.monthC c)) (fun i hil => by
      obtain ⟨cs', h1, h2⟩ := hi i (by omega)
      obtain ⟨c, rfl⟩ := month_of h2
      exact ⟨c, h1⟩)
    refine ⟨_, (List.range len).map f, rfl, ⟨some a, cap, by simp, fun i hil => ?_⟩⟩
    have hil' : i < len := by simpa using hil
    obtain ⟨_, _, hc⟩ := World.cells?_some (hf i hil')
    obtain ⟨_, _, hc0⟩ := World.cells?_some (hf 0 (by omega))
    have hs : a.spot = none := by
      have := hc0 0 (by omega)
      simp only [Nat.zero_mul] at this
      have h2 := World.cell?_spot this
      simpa [Addr.add] using h2
    have e : ((List.range len).map f)[i] = f i := by simp
    rw [e]
    have k := fun j (hj : j < 6) => by have := hc j hj; rw [add_add_at hs] at this; exact this
    refine ⟨a.block, a.off, by rw [← addr_at hs], ?_, fun j u hu => ?_⟩
    · exact World.block_lt_of_cell? w ⟨a.block, a.off + i * 6 + 0, none⟩ ((k 0 (by omega)).trans rfl)
    · have hj : j < 6 := (List.getElem?_eq_some_iff.1 hu).1
      rw [k j hj]
      rw [← hu]
      first | done | simp [Ln.monthC, hj]
theorem size_loads : Tryz.prog.cellsOf 53 = 1 := by kernel_rfl
theorem loads_of {fuel : Nat} {cs : List Value} {x : DataW H × List MemPlace} (h : DataW.trod enc Tryz.prog w 0 spare true fuel 53 cs = some x) : ∃ v xs, cs = [v] ∧ Cl.Loads w v xs := by
  rcases Deep.open_slice Tryz.underlying53 h with ⟨rfl, _⟩ | ⟨a, len, cap, m, n, D, Pl, rfl, _, hlc, _, hm, _, hi⟩
  · exact ⟨_, [], rfl, Sls.nil w⟩
  · have hlm : len ≤ m := by rw [hm]; split <;> omega
    rw [size_load] at hi
    obtain ⟨f, hf⟩ := Deep.choose_lt (α := Cl.C.Load) (n := len) (p := fun i c => w.cells? 0 (a.add (i * 3)) 3 = some (Cl.loadC c)) (fun i hil => by
      obtain ⟨cs', h1, h2⟩ := hi i (by omega)
      obtain ⟨c, rfl⟩ := load_of h2
      exact ⟨c, h1⟩)
    refine ⟨_, (List.range len).map f, rfl, ⟨some a, cap, by simp, fun i hil => ?_⟩⟩
    have hil' : i < len := by simpa using hil
    obtain ⟨_, _, hc⟩ := World.cells?_some (hf i hil')
    obtain ⟨_, _, hc0⟩ := World.cells?_some (hf 0 (by omega))
    have hs : a.spot = none := by
      have := hc0 0 (by omega)
      simp only [Nat.zero_mul] at this
      have h2 := World.cell?_spot this
      simpa [Addr.add] using h2
    have e : ((List.range len).map f)[i] = f i := by simp
    rw [e]
    have k := fun j (hj : j < 3) => by have := hc j hj; rw [add_add_at hs] at this; exact this
    refine ⟨a.block, a.off, by rw [← addr_at hs], ?_, fun j u hu => ?_⟩
    · exact World.block_lt_of_cell? w ⟨a.block, a.off + i * 3 + 0, none⟩ ((k 0 (by omega)).trans rfl)
    · have hj : j < 3 := (List.getElem?_eq_some_iff.1 hu).1
      rw [k j hj]
      rw [← hu]
      first | done | simp [Cl.loadC, hj]
theorem boolc_of {fuel : Nat} {cs : List Value} {x : DataW H × List MemPlace} (h : DataW.trod enc Tryz.prog w 0 spare true fuel 4 cs = some x) : ∃ l : Bool, cs = Ln.boolC l := by
  obtain ⟨a, rfl⟩ := bool_of h
  exact ⟨a, rfl⟩
theorem size_bools : Tryz.prog.cellsOf 56 = 1 := by kernel_rfl
theorem bools_of {fuel : Nat} {cs : List Value} {x : DataW H × List MemPlace} (h : DataW.trod enc Tryz.prog w 0 spare true fuel 56 cs = some x) : ∃ v xs, cs = [v] ∧ Ln.Bools w v xs := by
  rcases Deep.open_slice Tryz.underlying56 h with ⟨rfl, _⟩ | ⟨a, len, cap, m, n, D, Pl, rfl, _, hlc, _, hm, _, hi⟩
  · exact ⟨_, [], rfl, Sls.nil w⟩
  · have hlm : len ≤ m := by rw [hm]; split <;> omega
    rw [size_bool] at hi
    obtain ⟨f, hf⟩ := Deep.choose_lt (α := Bool) (n := len) (p := fun i c => w.cells? 0 (a.add (i * 1)) 1 = some (Ln.boolC c)) (fun i hil => by
      obtain ⟨cs', h1, h2⟩ := hi i (by omega)
      obtain ⟨c, rfl⟩ := boolc_of h2
      exact ⟨c, h1⟩)
    refine ⟨_, (List.range len).map f, rfl, ⟨some a, cap, by simp, fun i hil => ?_⟩⟩
    have hil' : i < len := by simpa using hil
    obtain ⟨_, _, hc⟩ := World.cells?_some (hf i hil')
    obtain ⟨_, _, hc0⟩ := World.cells?_some (hf 0 (by omega))
    have hs : a.spot = none := by
      have := hc0 0 (by omega)
      simp only [Nat.zero_mul] at this
      have h2 := World.cell?_spot this
      simpa [Addr.add] using h2
    have e : ((List.range len).map f)[i] = f i := by simp
    rw [e]
    have k := fun j (hj : j < 1) => by have := hc j hj; rw [add_add_at hs] at this; exact this
    refine ⟨a.block, a.off, by rw [← addr_at hs], ?_, fun j u hu => ?_⟩
    · exact World.block_lt_of_cell? w ⟨a.block, a.off + i * 1 + 0, none⟩ ((k 0 (by omega)).trans rfl)
    · have hj : j < 1 := (List.getElem?_eq_some_iff.1 hu).1
      rw [k j hj]
      rw [← hu]
      first | done | simp [Ln.boolC, hj]
theorem cells16 {l : List Value} (h : l.length = 16) : ∃ a0 a1 a2 a3 a4 a5 a6 a7 a8 a9 a10 a11 a12 a13 a14 a15, l = [a0, a1, a2, a3, a4, a5, a6, a7, a8, a9, a10, a11, a12, a13, a14, a15] := by
  match l, h with
  | [a0, a1, a2, a3, a4, a5, a6, a7, a8, a9, a10, a11, a12, a13, a14, a15], _ => exact ⟨a0, a1, a2, a3, a4, a5, a6, a7, a8, a9, a10, a11, a12, a13, a14, a15, rfl⟩
theorem cells11 {l : List Value} (h : l.length = 11) : ∃ a0 a1 a2 a3 a4 a5 a6 a7 a8 a9 a10, l = [a0, a1, a2, a3, a4, a5, a6, a7, a8, a9, a10] := by
  match l, h with
  | [a0, a1, a2, a3, a4, a5, a6, a7, a8, a9, a10], _ => exact ⟨a0, a1, a2, a3, a4, a5, a6, a7, a8, a9, a10, rfl⟩
theorem size_islet : Tryz.prog.cellsOf 52 = 16 := by kernel_rfl
set_option maxRecDepth 100000 in
theorem islet_of {v : Value} {d : DataW H} {ps : List MemPlace} {r : Reach} {b0 : Nat} (hv : Value.okWide Tryz.prog w r b0 52 v) (h : DataW.Trod enc Tryz.prog w 0 spare true 52 v d ps) :
    ∃ (i : Ln.Islet) (vw vm : Value), v = .agg (Ln.islV i vw vm) ∧ Ints w vw i.wells ∧ Ln.Months w vm i.months := by
  obtain ⟨fuel, h⟩ := h
  obtain ⟨hl, hf⟩ := field_of Tryz.underlying52 h
  rw [size_islet] at hl
  obtain ⟨c0, c1, c2, c3, c4, c5, c6, c7, c8, c9, c10, c11, c12, c13, c14, c15, hc⟩ := cells16 hl
  rw [hc] at hf
  obtain ⟨_, _, h0⟩ := hf 0 _ rfl
  obtain ⟨_, _, h1⟩ := hf 1 _ rfl
  obtain ⟨_, _, h2⟩ := hf 2 _ rfl
  obtain ⟨_, _, h3⟩ := hf 3 _ rfl
  obtain ⟨_, _, h4⟩ := hf 4 _ rfl
  obtain ⟨_, _, h5⟩ := hf 5 _ rfl
  obtain ⟨_, _, h6⟩ := hf 6 _ rfl
  obtain ⟨_, _, h7⟩ := hf 7 _ rfl
  obtain ⟨_, _, h8⟩ := hf 8 _ rfl
  obtain ⟨_, _, h9⟩ := hf 9 _ rfl
  obtain ⟨_, _, h10⟩ := hf 10 _ rfl
  obtain ⟨_, _, h11⟩ := hf 11 _ rfl
  obtain ⟨_, _, h12⟩ := hf 12 _ rfl
  simp only [size_int, size_months, size_slice_int, size_span, List.drop_zero, List.take_succ_cons, List.take_zero, List.drop_succ_cons] at h0 h1 h2 h3 h4 h5 h6 h7 h8 h9 h10 h11 h12
  obtain ⟨n0, e0⟩ := int_of h0
  obtain ⟨n1, m1, e1⟩ := span_of h1
  obtain ⟨n2, e2⟩ := int_of h2
  obtain ⟨n3, e3⟩ := int_of h3
  obtain ⟨n4, m4, e4⟩ := span_of h4
  obtain ⟨n5, m5, e5⟩ := span_of h5
  obtain ⟨n6, e6⟩ := int_of h6
  obtain ⟨n7, e7⟩ := int_of h7
  obtain ⟨n8, e8⟩ := int_of h8
  obtain ⟨v9, n9, e9, r9⟩ := ints_of h9
  obtain ⟨v10, n10, e10, r10⟩ := months_of h10
  obtain ⟨n11, e11⟩ := int_of h11
  obtain ⟨n12, e12⟩ := int_of h12
  cases e0; cases e1; cases e2; cases e3; cases e4; cases e5; cases e6; cases e7; cases e8; cases e9; cases e10; cases e11; cases e12
  exact ⟨⟨n0, n1, m1, n2, n3, n4, m4, n5, m5, n6, n7, n8, n9, n10, n11, n12⟩, _, _, agg_of Tryz.underlying52 hv hc, r9, r10⟩
theorem size_system : Tryz.prog.cellsOf 55 = 11 := by kernel_rfl
set_option maxRecDepth 100000 in
theorem system_of {v : Value} {d : DataW H} {ps : List MemPlace} {r : Reach} {b0 : Nat} (hv : Value.okWide Tryz.prog w r b0 55 v) (h : DataW.Trod enc Tryz.prog w 0 spare true 55 v d ps) :
    ∃ (c : Cl.C.Sys) (vl : Value), v = .agg (Cl.sysV c vl) ∧ Cl.Loads w vl c.loads := by
  obtain ⟨fuel, h⟩ := h
  obtain ⟨hl, hf⟩ := field_of Tryz.underlying55 h
  rw [size_system] at hl
  obtain ⟨c0, c1, c2, c3, c4, c5, c6, c7, c8, c9, c10, hc⟩ := cells11 hl
  rw [hc] at hf
  obtain ⟨_, _, h0⟩ := hf 0 _ rfl
  obtain ⟨_, _, h1⟩ := hf 1 _ rfl
  obtain ⟨_, _, h2⟩ := hf 2 _ rfl
  obtain ⟨_, _, h3⟩ := hf 3 _ rfl
  obtain ⟨_, _, h4⟩ := hf 4 _ rfl
  obtain ⟨_, _, h5⟩ := hf 5 _ rfl
  obtain ⟨_, _, h6⟩ := hf 6 _ rfl
  obtain ⟨_, _, h7⟩ := hf 7 _ rfl
  obtain ⟨_, _, h8⟩ := hf 8 _ rfl
  obtain ⟨_, _, h9⟩ := hf 9 _ rfl
  obtain ⟨_, _, h10⟩ := hf 10 _ rfl
  simp only [size_int, size_loads, List.drop_zero, List.take_succ_cons, List.take_zero, List.drop_succ_cons] at h0 h1 h2 h3 h4 h5 h6 h7 h8 h9 h10
  obtain ⟨n0, e0⟩ := int_of h0
  obtain ⟨n1, e1⟩ := int_of h1
  obtain ⟨n2, e2⟩ := int_of h2
  obtain ⟨n3, e3⟩ := int_of h3
  obtain ⟨n4, e4⟩ := int_of h4
  obtain ⟨v5, n5, e5, r5⟩ := loads_of h5
  obtain ⟨n6, e6⟩ := int_of h6
  obtain ⟨n7, e7⟩ := int_of h7
  obtain ⟨n8, e8⟩ := int_of h8
  obtain ⟨n9, e9⟩ := int_of h9
  obtain ⟨n10, e10⟩ := int_of h10
  cases e0; cases e1; cases e2; cases e3; cases e4; cases e5; cases e6; cases e7; cases e8; cases e9; cases e10
  exact ⟨⟨n0, n1, n2, n3, n4, n5, n6, n7, n8, n9, n10⟩, _, agg_of Tryz.underlying55 hv hc, r5⟩
theorem size_lenstruth : Tryz.prog.cellsOf 58 = 6 := by kernel_rfl
set_option maxRecDepth 100000 in
theorem lenstruth_of {v : Value} {d : DataW H} {ps : List MemPlace} {r : Reach} {b0 : Nat} (hv : Value.okWide Tryz.prog w r b0 58 v) (h : DataW.Trod enc Tryz.prog w 0 spare true 58 v d ps) :
    ∃ (t : Ln.Truth) (vd vr vn : Value), v = .agg (Ln.trV t vd vr vn) ∧ Ln.Bools w vd t.dry ∧ Ints w vr t.rains ∧ Ints w vn t.needs := by
  obtain ⟨fuel, h⟩ := h
  obtain ⟨hl, hf⟩ := field_of Tryz.underlying58 h
  rw [size_lenstruth] at hl
  obtain ⟨c0, c1, c2, c3, c4, c5, hc⟩ := cells6 hl
  rw [hc] at hf
  obtain ⟨_, _, h0⟩ := hf 0 _ rfl
  obtain ⟨_, _, h1⟩ := hf 1 _ rfl
  obtain ⟨_, _, h2⟩ := hf 2 _ rfl
  obtain ⟨_, _, h3⟩ := hf 3 _ rfl
  obtain ⟨_, _, h4⟩ := hf 4 _ rfl
  obtain ⟨_, _, h5⟩ := hf 5 _ rfl
  simp only [size_bools, size_int, size_slice_int, List.drop_zero, List.take_succ_cons, List.take_zero, List.drop_succ_cons] at h0 h1 h2 h3 h4 h5
  obtain ⟨n0, e0⟩ := int_of h0
  obtain ⟨n1, e1⟩ := int_of h1
  obtain ⟨n2, e2⟩ := int_of h2
  obtain ⟨v3, n3, e3, r3⟩ := bools_of h3
  obtain ⟨v4, n4, e4, r4⟩ := ints_of h4
  obtain ⟨v5, n5, e5, r5⟩ := ints_of h5
  cases e0; cases e1; cases e2; cases e3; cases e4; cases e5
  exact ⟨⟨n0, n1, n2, n3, n4, n5⟩, _, _, _, agg_of Tryz.underlying58 hv hc, r3, r4, r5⟩
end Go.Proofs.YtgloajbgphcloaaGreat
