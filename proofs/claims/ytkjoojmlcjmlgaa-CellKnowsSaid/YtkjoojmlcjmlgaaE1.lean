/- What an argument reads as: systems, texts. -/
import Derived.Test.YtkjoojmlcjmlgaaEnc
import Derived.Deep.Slices
import Derived.Lib.SmallJoins
import Derived.ProofKit
namespace Go.Proofs.Ytkjoojmlcjmlgaa
set_option linter.unusedVariables false
set_option linter.unusedSimpArgs false
open Go.RowKit Go.ChangeShapes Go.WideShapes
variable {H : Type} {enc : TypeId × Value → H} {w : World} {spare : Nat → Bool}
theorem add_at {a : Addr} (h : a.spot = none) (i : Nat) : a.add i = ⟨a.block, a.off + i, none⟩ := by
  obtain ⟨b, o, s⟩ := a
  simp only at h; subst h
  unfold Addr.add; split <;> simp_all
theorem add_add_at {a : Addr} (h : a.spot = none) (x i : Nat) : (a.add x).add i = ⟨a.block, a.off + x + i, none⟩ := by
  rw [add_at h, add_at rfl]
theorem addr_at {a : Addr} (h : a.spot = none) : a = ⟨a.block, a.off, none⟩ := by
  obtain ⟨b, o, s⟩ := a
  simp only at h; subst h; rfl
theorem spot_of {a : Addr} {v : Value} (h : w.cell? (a.add 0) = some v) : a.spot = none := by
  have := World.cell?_spot h
  simpa [Addr.add] using this
theorem int_of {fuel : Nat} {cs : List Value} {x : DataW H × List MemPlace} (h : DataW.trod enc Try.prog w 0 spare true fuel 3 cs = some x) : ∃ n, cs = [.int .i64 n] := by
  obtain ⟨n, rfl, _⟩ := DataW.trod_int Try.underlying3 h
  exact ⟨n, rfl⟩
theorem three {α : Type} {l : List α} (h : l.length = 3) : ∃ a0 a1 a2, l = [a0, a1, a2] := by
  match l, h with
  | [a0, a1, a2], _ => exact ⟨a0, a1, a2, rfl⟩
theorem eleven {α : Type} {l : List α} (h : l.length = 11) : ∃ a0 a1 a2 a3 a4 a5 a6 a7 a8 a9 a10, l = [a0, a1, a2, a3, a4, a5, a6, a7, a8, a9, a10] := by
  match l, h with
  | [a0, a1, a2, a3, a4, a5, a6, a7, a8, a9, a10], _ => exact ⟨a0, a1, a2, a3, a4, a5, a6, a7, a8, a9, a10, rfl⟩
/-- The reading of field i of a struct. -/
theorem field_of {t : TypeId} {fs : Array Field} {fuel : Nat} {cs : List Value} {x : DataW H × List MemPlace} (ht : Try.prog.underlying t = some (.struct fs)) (h : DataW.trod enc Try.prog w 0 spare true fuel t cs = some x) :
    cs.length = Try.prog.cellsOf t ∧ ∀ (i : Nat) (f : Field), fs.toList[i]? = some f → ∃ n y, DataW.trod enc Try.prog w 0 spare true n f.type ((cs.drop f.offset).take (Try.prog.cellsOf f.type)) = some y := by
  obtain ⟨xs, n, _, _, hl, hlen, hf⟩ := DataW.trod_struct ht h
  refine ⟨hl, fun i f hfi' => ?_⟩
  have hfi : fs[i]? = some f := by rw [← hfi']; simp
  have hi : i < xs.length := by rw [hlen]; exact (Array.getElem?_eq_some_iff.1 hfi).1
  exact ⟨n, xs[i], by rw [hf i f hfi]; exact List.getElem?_eq_getElem hi⟩
theorem size_int : Try.prog.cellsOf 3 = 1 := by kernel_rfl
theorem size_bool : Try.prog.cellsOf 4 = 1 := by kernel_rfl
theorem size_loads : Try.prog.cellsOf 22 = 1 := by kernel_rfl
theorem size_load : Try.prog.cellsOf 45 = 3 := by kernel_rfl
theorem size_system : Try.prog.cellsOf 24 = 11 := by kernel_rfl
theorem bool_of {fuel : Nat} {cs : List Value} {x : DataW H × List MemPlace} (h : DataW.trod enc Try.prog w 0 spare true fuel 4 cs = some x) : ∃ n, cs = [.bool n] := by
  obtain ⟨n, rfl, _⟩ := DataW.trod_bool Try.underlying4 h
  exact ⟨n, rfl⟩
set_option maxRecDepth 100000 in
theorem load_of {fuel : Nat} {cs : List Value} {x : DataW H × List MemPlace} (h : DataW.trod enc Try.prog w 0 spare true fuel 45 cs = some x) : ∃ l : C.Load, cs = loadC l := by
  obtain ⟨hl, hf⟩ := field_of Try.underlying45 h
  rw [size_load] at hl
  obtain ⟨c0, c1, c2, rfl⟩ := three hl
  obtain ⟨_, _, h0⟩ := hf 0 _ rfl
  obtain ⟨_, _, h1⟩ := hf 1 _ rfl
  obtain ⟨_, _, h2⟩ := hf 2 _ rfl
  simp only [size_int, size_bool, List.drop_zero, List.take_succ_cons, List.take_zero, List.drop_succ_cons] at h0 h1 h2
  obtain ⟨n0, e0⟩ := int_of h0
  obtain ⟨n1, e1⟩ := int_of h1
  obtain ⟨n2, e2⟩ := bool_of h2
  cases e0; cases e1; cases e2
  exact ⟨⟨n0, n1, n2⟩, rfl⟩
theorem loads_of {fuel : Nat} {cs : List Value} {x : DataW H × List MemPlace} (h : DataW.trod enc Try.prog w 0 spare true fuel 22 cs = some x) : ∃ v xs, cs = [v] ∧ Loads w v xs := by
  rcases Deep.open_slice Try.underlying22 h with ⟨rfl, _⟩ | ⟨a, len, cap, m, n, D, Pl, rfl, _, hlc, _, hm, _, hi⟩
  · exact ⟨_, [], rfl, Sls.nil w⟩
  · have hlm : len ≤ m := by rw [hm]; split <;> omega
    rw [size_load] at hi
    obtain ⟨f, hf⟩ := Deep.choose_lt (α := C.Load) (n := len) (p := fun i c => w.cells? 0 (a.add (i * 3)) 3 = some (loadC c)) (fun i hil => by
      obtain ⟨cs', h1, h2⟩ := hi i (by omega)
      obtain ⟨c, rfl⟩ := load_of h2
      exact ⟨c, h1⟩)
    refine ⟨_, (List.range len).map f, rfl, ⟨some a, cap, by simp, fun i hil => ?_⟩⟩
    have hil' : i < len := by simpa using hil
    obtain ⟨_, _, hc⟩ := World.cells?_some (hf i hil')
    obtain ⟨_, _, hc0⟩ := World.cells?_some (hf 0 (by omega))
    have hs : a.spot = none := by
      have := hc0 0 (by omega)
      simp only [Nat.zero_mul] at this
      have h2 := World.cell?_spot this
      simpa [Addr.add] using h2
    have e : ((List.range len).map f)[i] = f i := by simp
    rw [e]
    have k := fun j (hj : j < 3) => by have := hc j hj; rw [add_add_at hs] at this; exact this
    refine ⟨a.block, a.off, by rw [← addr_at hs], ?_, fun j u hu => ?_⟩
    · exact World.block_lt_of_cell? w ⟨a.block, a.off + i * 3 + 0, none⟩ ((k 0 (by omega)).trans rfl)
    · have hj : j < 3 := (List.getElem?_eq_some_iff.1 hu).1
      rw [k j hj]
      rw [← hu]
      first | done | simp [loadC, hj]
set_option maxRecDepth 100000 in
/-- A struct by value is the array of its cells. -/
theorem agg_of {t : TypeId} {fs : Array Field} {r : Reach} {b0 : Nat} {v : Value} (ht : Try.prog.underlying t = some (.struct fs)) (hv : Value.okWide Try.prog w r b0 t v) {l : List Value} (hl : v.cells.toList = l) : v = .agg l.toArray := by
  obtain ⟨cs, rfl, _⟩ := okWide_struct ht hv
  subst hl
  simp [Value.cells]
set_option maxRecDepth 100000 in
theorem system_of {v : Value} {d : DataW H} {ps : List MemPlace} {r : Reach} {b0 : Nat} (hv : Value.okWide Try.prog w r b0 24 v) (h : DataW.Trod enc Try.prog w 0 spare true 24 v d ps) :
    ∃ (c : C.Sys) (vl : Value), v = .agg (sysV c vl) ∧ Loads w vl c.loads := by
  obtain ⟨fuel, h⟩ := h
  obtain ⟨hl, hf⟩ := field_of Try.underlying24 h
  rw [size_system] at hl
  obtain ⟨c0, c1, c2, c3, c4, c5, c6, c7, c8, c9, c10, hc⟩ := eleven hl
  rw [hc] at hf
  obtain ⟨_, _, h0⟩ := hf 0 _ rfl
  obtain ⟨_, _, h1⟩ := hf 1 _ rfl
  obtain ⟨_, _, h2⟩ := hf 2 _ rfl
  obtain ⟨_, _, h3⟩ := hf 3 _ rfl
  obtain ⟨_, _, h4⟩ := hf 4 _ rfl
  obtain ⟨_, _, h5⟩ := hf 5 _ rfl
  obtain ⟨_, _, h6⟩ := hf 6 _ rfl
  obtain ⟨_, _, h7⟩ := hf 7 _ rfl
  obtain ⟨_, _, h8⟩ := hf 8 _ rfl
  obtain ⟨_, _, h9⟩ := hf 9 _ rfl
  obtain ⟨_, _, h10⟩ := hf 10 _ rfl
  simp only [size_int, size_loads, List.drop_zero, List.take_succ_cons, List.take_zero, List.drop_succ_cons] at h0 h1 h2 h3 h4 h5 h6 h7 h8 h9 h10
  obtain ⟨n0, e0⟩ := int_of h0
  obtain ⟨n1, e1⟩ := int_of h1
  obtain ⟨n2, e2⟩ := int_of h2
  obtain ⟨n3, e3⟩ := int_of h3
  obtain ⟨n4, e4⟩ := int_of h4
  obtain ⟨vl, xs, e5, hP⟩ := loads_of h5
  obtain ⟨n6, e6⟩ := int_of h6
  obtain ⟨n7, e7⟩ := int_of h7
  obtain ⟨n8, e8⟩ := int_of h8
  obtain ⟨n9, e9⟩ := int_of h9
  obtain ⟨n10, e10⟩ := int_of h10
  cases e0; cases e1; cases e2; cases e3; cases e4; cases e5; cases e6; cases e7; cases e8; cases e9; cases e10
  exact ⟨⟨n0, n1, n2, n3, n4, xs, n6, n7, n8, n9, n10⟩, _, agg_of Try.underlying24 hv hc, hP⟩
set_option maxRecDepth 100000 in
/-- A text. -/
theorem text_of {v : Value} {r : Reach} {b0 : Nat} (hv : Value.okWide Try.prog w r b0 9 v) : ∃ s, v = .string s := okWide_string Try.underlying9 hv
end Go.Proofs.Ytkjoojmlcjmlgaa
