/- Whole blocks of memory; a slice that the call itself made. -/
import Derived.Test.YthffoglpekpmdaaBase
namespace Go.Proofs.Ythffoglpekpmdaa
set_option linter.unusedVariables false
set_option linter.unusedSimpArgs false
open Go.RowKit
/-- Block b holds these cells, none of them frozen. -/
def Blk (w : World) (b : Nat) (cs : Array Value) (e : TypeId) : Prop := w.heap[b]? = some (.cells cs e (0, 0))
theorem Blk.cell {w : World} {b : Nat} {cs : Array Value} {e : TypeId} (h : Blk w b cs e) (o : Nat) : w.cell? ⟨b, o, none⟩ = cs[o]? := by
  unfold Blk at h; simp [World.cell?, h]
theorem Blk.free {w : World} {b : Nat} {cs : Array Value} {e : TypeId} (h : Blk w b cs e) (o : Nat) : w.frozen? ⟨b, o, none⟩ = false := by
  unfold Blk at h; simp [World.frozen?, h]
theorem Blk.lt {w : World} {b : Nat} {cs : Array Value} {e : TypeId} (h : Blk w b cs e) : b < w.heap.size := (Array.getElem?_eq_some_iff.1 h).1
theorem Blk.set {w : World} {b : Nat} {cs : Array Value} {e : TypeId} (h : Blk w b cs e) (o : Nat) (v : Value) : Blk (w.setCell ⟨b, o, none⟩ v) b (cs.setIfInBounds o v) e := by
  unfold Blk at *; simp [World.setCell, Array.getElem?_modify, h]
theorem Blk.other {w : World} {b : Nat} {cs : Array Value} {e : TypeId} (h : Blk w b cs e) {a : Addr} (hne : a.block ≠ b) (v : Value) : Blk (w.setCell a v) b cs e := by
  unfold Blk at *; rw [Below.heap_setCell _ _ _ _ (fun e => hne e.symm)]; exact h
theorem Blk.alloc {w : World} {b : Nat} {cs : Array Value} {e : TypeId} (h : Blk w b cs e) (o : Obj) : Blk (w.alloc o) b cs e := by
  have := h.lt; unfold Blk at *; rw [Below.heap_alloc _ _ _ this]; exact h
theorem Blk.ext {w w' : World} {b : Nat} {cs : Array Value} {e : TypeId} (h : Blk w b cs e) (he : Ext w w') : Blk w' b cs e := (he.block b h.lt).trans h
theorem Blk.drew {w : World} {b : Nat} {cs : Array Value} {e : TypeId} (h : Blk w b cs e) : Blk w.drew b cs e := h
theorem Blk.grown {w w' : World} {row : Option Nat} {b : Nat} {cs : Array Value} {e : TypeId} (h : Blk w b cs e) (hg : w.grownBy w' row) {base : Nat} (hr : ∀ k, row = some k → base ≤ k) (hb : b < base) : Blk w' b cs e :=
  (hg.block b h.lt (fun e => by have := hr b e.symm; omega)).trans h
theorem Blk.new (w : World) (cs : Array Value) (e : TypeId) : Blk (w.alloc (.cells cs e)) w.heap.size cs e := by
  unfold Blk; exact heap_alloc_new w _
theorem Blk.new' {w : World} {b : Nat} (hb : b = w.heap.size) (cs : Array Value) (e : TypeId) : Blk (w.alloc (.cells cs e)) b cs e := by
  subst hb; exact Blk.new w cs e
theorem cell_one (w : World) (x : Value) (e : TypeId) {b : Nat} (hb : b = w.heap.size) : ∀ j u, ([x] : List Value)[j]? = some u → (w.alloc (.cells #[x] e)).cell? ((⟨b, 0, none⟩ : Addr).add j) = some u := by
  intro j u hj
  subst hb
  match j, hj with
  | 0, hj =>
    have e1 : x = u := by simpa using hj
    subst e1
    exact (Blk.new w #[x] e).cell 0
theorem one_int (n : Int) : ∀ u ∈ [Value.int .i64 n], u.oneCell' = true := by intro u hu; simp at hu; subst hu; rfl
theorem own_base {w : World} {base : Nat} {e : TypeId} {s : Nat} {v : Value} {n : Nat} {xs : List Value} (h : w.ownsRow base e s v n xs) : ∀ k, v.ownBlock = some k → base ≤ k := fun k hk => (h.lt k hk).1
theorem own_succ {w : World} {base : Nat} {e : TypeId} {s : Nat} {v : Value} {n : Nat} {xs : List Value} (h : w.ownsRow base e s v (n + 1) xs) : ∃ g cap, v = .slice (some ⟨g, 0, none⟩) (n + 1) cap := by
  rcases h.2 with ⟨_, h0⟩ | ⟨g, cap, cur, hv, _⟩
  · omega
  · exact ⟨g, cap, hv⟩
theorem own_slice {w : World} {base : Nat} {e : TypeId} {s : Nat} {v : Value} {n : Nat} {xs : List Value} (h : w.ownsRow base e s v n xs) : ∃ a cap, v = .slice a n cap := by
  rcases h.2 with ⟨rfl, rfl⟩ | ⟨g, cap, cur, hv, _⟩
  · exact ⟨none, 0, rfl⟩
  · exact ⟨_, cap, hv⟩
/-- The ints that f makes of the first k elements. -/
def pre {α : Type} (f : α → Int) (xs : List α) (k : Nat) : List Value := ((xs.take k).map f).map (Value.int .i64)
theorem pre_zero {α : Type} (f : α → Int) (xs : List α) : pre f xs 0 = [] := rfl
theorem pre_succ {α : Type} (f : α → Int) (xs : List α) {k : Nat} (h : k < xs.length) : pre f xs (k + 1) = pre f xs k ++ [.int .i64 (f xs[k])] := by
  unfold pre; rw [List.take_succ_eq_append_getElem h, List.map_append, List.map_append]; rfl
theorem pre_all {α : Type} (f : α → Int) (xs : List α) : pre f xs xs.length = (xs.map f).map (Value.int .i64) := by
  unfold pre; rw [List.take_length]
theorem int_info : (Try.prog.info? 3).map (fun i => (i.zero, i.size, i.bytes)) = some (some (.int .i64 0), 1, 8) := by kernel_rfl
end Go.Proofs.Ythffoglpekpmdaa
