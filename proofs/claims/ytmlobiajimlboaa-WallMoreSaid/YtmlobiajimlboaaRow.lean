/- Rows of elements of more than one cell that the call itself made. -/
import Derived.Test.YtmlobiajimlboaaBlk
import Derived.Test.YtmlobiajimlboaaEnc
namespace Go.Proofs.Ytmlobiajimlboaa
set_option linter.unusedVariables false
set_option linter.unusedSimpArgs false
open Go.RowKit
theorem flat_get {α : Type} (f : α → List Value) (k : Nat) (hf : ∀ x, (f x).length = k) : ∀ (xs : List α) (i : Nat) (h : i < xs.length) (j : Nat), j < k → (xs.flatMap f)[i * k + j]? = (f xs[i])[j]?
  | x :: xs, 0, _, j, hj => by simp [List.flatMap_cons, List.getElem?_append_left (show j < (f x).length by rw [hf]; exact hj)]
  | x :: xs, i + 1, h, j, hj => by
    rw [List.flatMap_cons, List.getElem?_append_right (by rw [hf, Nat.succ_mul]; omega), hf]
    have e : (i + 1) * k + j - k = i * k + j := by rw [Nat.succ_mul]; omega
    rw [e, flat_get f k hf xs i (by simpa using h) j hj]
    simp
/-- The cells of the first k elements. -/
def preS {α : Type} (f : α → List Value) (xs : List α) (k : Nat) : List Value := (xs.take k).flatMap f
theorem preS_zero {α : Type} (f : α → List Value) (xs : List α) : preS f xs 0 = [] := rfl
theorem preS_succ {α : Type} (f : α → List Value) (xs : List α) {k : Nat} (h : k < xs.length) : preS f xs (k + 1) = preS f xs k ++ f xs[k] := by
  unfold preS; rw [List.take_succ_eq_append_getElem h, List.flatMap_append]; simp
theorem preS_all {α : Type} (f : α → List Value) (xs : List α) : preS f xs xs.length = xs.flatMap f := by
  unfold preS; rw [List.take_length]
theorem own_cell {w : World} {base : Nat} {e : TypeId} {s : Nat} {g len cap n : Nat} {xs : List Value} (h : w.ownsRow base e s (.slice (some ⟨g, 0, none⟩) len cap) n xs) (i : Nat) (u : Value) (hu : xs[i]? = some u) : w.cell? ⟨g, i, none⟩ = some u := by
  have := h.cells (g := g) rfl i u hu
  have hadd : (⟨g, 0, none⟩ : Addr).add i = ⟨g, i, none⟩ := by unfold Addr.add; split <;> simp_all
  rwa [hadd] at this
theorem own_lt {w : World} {base : Nat} {e : TypeId} {s : Nat} {g len cap n : Nat} {xs : List Value} (h : w.ownsRow base e s (.slice (some ⟨g, 0, none⟩) len cap) n xs) : g < w.heap.size := by
  rcases h.2 with ⟨h0, _⟩ | ⟨g', cap', cur, hv, _, hg, _⟩
  · cases h0
  · cases hv; exact (Array.getElem?_eq_some_iff.1 hg).1
def spanC (x : Int × Int) : List Value := [.int .i64 x.1, .int .i64 x.2]
theorem Spans.of_own {w : World} {base : Nat} {v : Value} {xs : List (Int × Int)} (h : w.ownsRow base 25 2 v xs.length (xs.flatMap spanC)) : Spans w v xs := by
  obtain ⟨a, cap, rfl⟩ := own_slice h
  refine ⟨a, cap, rfl, fun i hi => ?_⟩
  rcases h.2 with ⟨e, h0⟩ | ⟨g, cap', cur, hv, hb, hg, _⟩
  · rw [h0] at hi; exact absurd hi (by omega)
  · cases hv
    refine ⟨g, 0, rfl, own_lt h, ?_, ?_⟩
    · exact own_cell h _ _ (by rw [Nat.zero_add]; have := flat_get spanC 2 (fun _ => rfl) xs i hi 0 (by omega); rw [Nat.add_zero] at this; rw [this]; rfl)
    · exact own_cell h _ _ (by rw [Nat.zero_add, flat_get spanC 2 (fun _ => rfl) xs i hi 1 (by omega)]; rfl)
theorem own_ext {w w' : World} {base : Nat} {e : TypeId} {s : Nat} {v : Value} {n : Nat} {xs : List Value} (h : w.ownsRow base e s v n xs) (hE : Ext w w') : w'.ownsRow base e s v n xs := by
  refine ⟨h.1, ?_⟩
  rcases h.2 with h0 | ⟨g, cap, cur, hv, hb, hg, hr⟩
  · exact .inl h0
  · exact .inr ⟨g, cap, cur, hv, hb, (hE.block g (Array.getElem?_eq_some_iff.1 hg).1).trans hg, hr⟩
theorem cell_two (w : World) (x y : Value) (e : TypeId) {b : Nat} (hb : b = w.heap.size) : ∀ j u, ([x, y] : List Value)[j]? = some u → (w.alloc (.cells #[x, y] e)).cell? ((⟨b, 0, none⟩ : Addr).add j) = some u := by
  intro j u hj
  subst hb
  have hc := (Blk.new w #[x, y] e).cell
  match j, hj with
  | 0, hj =>
    have e1 : x = u := by simpa using hj
    subst e1
    exact hc 0
  | 1, hj =>
    have e1 : y = u := by simpa using hj
    subst e1
    exact hc 1
theorem two_ints (m n : Int) : ∀ u ∈ [Value.int .i64 m, Value.int .i64 n], u.oneCell' = true := by intro u hu; simp at hu; rcases hu with rfl | rfl <;> rfl
theorem span_info : (Try.prog.info? 25).map (fun i => (i.zero, i.size, i.bytes)) = some (some (.agg #[.int .i64 0, .int .i64 0]), 2, 16) := by kernel_rfl
end Go.Proofs.Ytmlobiajimlboaa
