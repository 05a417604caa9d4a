/- Rows of elements that the call itself made; copies of slices. -/
import Derived.Test.YthffoglpekpmdaaEnc
import Derived.Laws.AppendOwnNone
import Derived.Deep.Upon
namespace Go.Proofs.Ythffoglpekpmdaa
set_option linter.unusedVariables false
set_option linter.unusedSimpArgs false
open Go.RowKit
theorem flat_get {α : Type} (f : α → List Value) (k : Nat) (hf : ∀ x, (f x).length = k) : ∀ (xs : List α) (i : Nat) (h : i < xs.length) (j : Nat), j < k → (xs.flatMap f)[i * k + j]? = (f xs[i])[j]?
  | x :: xs, 0, _, j, hj => by simp [List.flatMap_cons, List.getElem?_append_left (show j < (f x).length by rw [hf]; exact hj)]
  | x :: xs, i + 1, h, j, hj => by
    rw [List.flatMap_cons, List.getElem?_append_right (by rw [hf, Nat.succ_mul]; omega), hf]
    have e : (i + 1) * k + j - k = i * k + j := by rw [Nat.succ_mul]; omega
    rw [e, flat_get f k hf xs i (by simpa using h) j hj]
    simp
theorem flat_len {α : Type} (f : α → List Value) (k : Nat) (hf : ∀ x, (f x).length = k) (xs : List α) : (xs.flatMap f).length = xs.length * k := by
  induction xs with
  | nil => simp
  | cons x xs ih => rw [List.flatMap_cons, List.length_append, ih, hf, List.length_cons, Nat.succ_mul]; omega
/-- The cells of the first k elements. -/
def preS {α : Type} (f : α → List Value) (xs : List α) (k : Nat) : List Value := (xs.take k).flatMap f
theorem preS_zero {α : Type} (f : α → List Value) (xs : List α) : preS f xs 0 = [] := rfl
theorem preS_succ {α : Type} (f : α → List Value) (xs : List α) {k : Nat} (h : k < xs.length) : preS f xs (k + 1) = preS f xs k ++ f xs[k] := by
  unfold preS; rw [List.take_succ_eq_append_getElem h, List.flatMap_append]; simp
theorem preS_all {α : Type} (f : α → List Value) (xs : List α) : preS f xs xs.length = xs.flatMap f := by
  unfold preS; rw [List.take_length]
theorem own_cell {w : World} {base : Nat} {e : TypeId} {s : Nat} {g len cap n : Nat} {xs : List Value} (h : w.ownsRow base e s (.slice (some ⟨g, 0, none⟩) len cap) n xs) (i : Nat) (u : Value) (hu : xs[i]? = some u) : w.cell? ⟨g, i, none⟩ = some u := by
  have := h.cells (g := g) rfl i u hu
  have hadd : (⟨g, 0, none⟩ : Addr).add i = ⟨g, i, none⟩ := by unfold Addr.add; split <;> simp_all
  rwa [hadd] at this
theorem own_lt {w : World} {base : Nat} {e : TypeId} {s : Nat} {g len cap n : Nat} {xs : List Value} (h : w.ownsRow base e s (.slice (some ⟨g, 0, none⟩) len cap) n xs) : g < w.heap.size := by
  rcases h.2 with ⟨h0, _⟩ | ⟨g', cap', cur, hv, _, hg, _⟩
  · cases h0
  · cases hv; exact (Array.getElem?_eq_some_iff.1 hg).1
theorem own_ext {w w' : World} {base : Nat} {e : TypeId} {s : Nat} {v : Value} {n : Nat} {xs : List Value} (h : w.ownsRow base e s v n xs) (hE : Ext w w') : w'.ownsRow base e s v n xs := by
  refine ⟨h.1, ?_⟩
  rcases h.2 with h0 | ⟨g, cap, cur, hv, hb, hg, hr⟩
  · exact .inl h0
  · exact .inr ⟨g, cap, cur, hv, hb, (hE.block g (Array.getElem?_eq_some_iff.1 hg).1).trans hg, hr⟩
theorem own_mono {w : World} {base base' : Nat} {e : TypeId} {s : Nat} {v : Value} {n : Nat} {xs : List Value} (h : w.ownsRow base e s v n xs) (hb : base' ≤ base) : w.ownsRow base' e s v n xs := by
  refine ⟨h.1, ?_⟩
  rcases h.2 with h0 | ⟨g, cap, cur, hv, hb', hg, hr⟩
  · exact .inl h0
  · exact .inr ⟨g, cap, cur, hv, Nat.le_trans hb hb', hg, hr⟩
theorem cell_two (w : World) (x y : Value) (e : TypeId) {b : Nat} (hb : b = w.heap.size) : ∀ j u, ([x, y] : List Value)[j]? = some u → (w.alloc (.cells #[x, y] e)).cell? ((⟨b, 0, none⟩ : Addr).add j) = some u := by
  intro j u hj
  subst hb
  have hc := (Blk.new w #[x, y] e).cell
  match j, hj with
  | 0, hj =>
    have e1 : x = u := by simpa using hj
    subst e1
    exact hc 0
  | 1, hj =>
    have e1 : y = u := by simpa using hj
    subst e1
    exact hc 1
theorem two_ints (m n : Int) : ∀ u ∈ [Value.int .i64 m, Value.int .i64 n], u.oneCell' = true := by intro u hu; simp at hu; rcases hu with rfl | rfl <;> rfl
theorem span_info : (Try.prog.info? 44).map (fun i => (i.zero, i.size, i.bytes)) = some (some (.agg #[.int .i64 0, .int .i64 0]), 2, 16) := by kernel_rfl
theorem row_info : (Try.prog.info? 25).map (fun i => (i.zero, i.size, i.bytes)) = some (some (.slice none 0 0), 1, 24) := by kernel_rfl
theorem spanRow_info : (Try.prog.info? 70).map (fun i => (i.zero, i.size, i.bytes)) = some (some (.slice none 0 0), 1, 24) := by kernel_rfl
theorem place_info : (Try.prog.info? 46).map (fun i => (i.zero, i.size, i.bytes)) = some (some (.agg #[.int .i64 0, .int .i64 0, .int .i64 0, .int .i64 0, .int .i64 0, .int .i64 0, .int .i64 0, .int .i64 0, .int .i64 0, .int .i64 0, .int .i64 0, .int .i64 0]), 12, 96) := by kernel_rfl
/-- A row that the call itself made reads as its elements. -/
theorem sls_of_own {α : Type} (f : α → List Value) (k : Nat) (hf : ∀ x, (f x).length = k) {w : World} {base : Nat} {e : TypeId} {v : Value} {xs : List α} (h : w.ownsRow base e k v xs.length (xs.flatMap f)) : Sls k (AtE f) w v xs := by
  obtain ⟨a, cap, rfl⟩ := own_slice h
  refine ⟨a, cap, rfl, fun i hi => ?_⟩
  rcases h.2 with ⟨e, h0⟩ | ⟨g, cap', cur, hv, hb, hg, _⟩
  · rw [h0] at hi; exact absurd hi (by omega)
  · cases hv
    refine ⟨g, 0, rfl, own_lt h, fun j u hu => own_cell h _ _ ?_⟩
    have hj : j < k := by rw [← hf xs[i]]; exact (List.getElem?_eq_some_iff.1 hu).1
    rw [Nat.zero_add, flat_get f k hf xs i hi j hj]; exact hu
theorem Spans.of_own {w : World} {base : Nat} {v : Value} {xs : List (Int × Int)} (h : w.ownsRow base 44 2 v xs.length (xs.flatMap spanC)) : Spans w v xs := sls_of_own spanC 2 (fun _ => rfl) h
theorem Places.of_own {w : World} {base : Nat} {v : Value} {xs : List R.Place} (h : w.ownsRow base 46 12 v xs.length (xs.flatMap placeC)) : Places w v xs := sls_of_own placeC 12 (fun _ => rfl) h
/-- A block whose cells hold the elements xs, one after another. -/
def RowB {α : Type} (f : α → List Value) (k : Nat) (e : TypeId) (w : World) (g : Nat) (xs : List α) : Prop :=
  ∃ cs, Blk w g cs e ∧ ∀ i (h : i < xs.length) j u, (f xs[i])[j]? = some u → cs[i * k + j]? = some u
theorem RowB.of_own {α : Type} {f : α → List Value} {k : Nat} (hf : ∀ x, (f x).length = k) {w : World} {base : Nat} {e : TypeId} {g len cap : Nat} {xs : List α} (h : w.ownsRow base e k (.slice (some ⟨g, 0, none⟩) len cap) xs.length (xs.flatMap f)) : RowB f k e w g xs := by
  have hc := fun i u hu => own_cell h i u hu
  rcases h.2 with ⟨h0, _⟩ | ⟨g', cap', cur, hv, hb, hg, _⟩
  · cases h0
  · cases hv
    have hB : Blk w g _ e := hg
    refine ⟨_, hB, fun i hi j u hu => ?_⟩
    have hj : j < k := by rw [← hf xs[i]]; exact (List.getElem?_eq_some_iff.1 hu).1
    rw [← hB.cell]
    exact hc _ _ (by rw [flat_get f k hf xs i hi j hj]; exact hu)
theorem RowB.lt {α : Type} {f : α → List Value} {k : Nat} {e : TypeId} {w : World} {g : Nat} {xs : List α} (h : RowB f k e w g xs) : g < w.heap.size := by
  obtain ⟨cs, hB, _⟩ := h; exact hB.lt
theorem RowB.free {α : Type} {f : α → List Value} {k : Nat} {e : TypeId} {w : World} {g : Nat} {xs : List α} (h : RowB f k e w g xs) (o : Nat) : w.frozen? ⟨g, o, none⟩ = false := by
  obtain ⟨cs, hB, _⟩ := h; exact hB.free o
theorem RowB.cell {α : Type} {f : α → List Value} {k : Nat} {e : TypeId} {w : World} {g : Nat} {xs : List α} (h : RowB f k e w g xs) (i : Nat) (hi : i < xs.length) (j : Nat) (u : Value) (hu : (f xs[i])[j]? = some u) : w.cell? ⟨g, i * k + j, none⟩ = some u := by
  obtain ⟨cs, hB, hc⟩ := h
  rw [hB.cell]; exact hc i hi j u hu
theorem RowB.move {α : Type} {f : α → List Value} {k : Nat} {e : TypeId} {w w' : World} {g : Nat} {xs : List α} (h : RowB f k e w g xs) (he : w'.heap[g]? = w.heap[g]?) : RowB f k e w' g xs := by
  obtain ⟨cs, hB, hc⟩ := h
  exact ⟨cs, he.trans hB, hc⟩
theorem RowB.ext {α : Type} {f : α → List Value} {k : Nat} {e : TypeId} {w w' : World} {g : Nat} {xs : List α} (h : RowB f k e w g xs) (he : Ext w w') : RowB f k e w' g xs := h.move (he.block g h.lt)
theorem RowB.other {α : Type} {f : α → List Value} {k : Nat} {e : TypeId} {w : World} {g : Nat} {xs : List α} (h : RowB f k e w g xs) {a : Addr} (hne : a.block ≠ g) (v : Value) : RowB f k e (w.setCell a v) g xs := by
  obtain ⟨cs, hB, hc⟩ := h
  exact ⟨cs, hB.other hne v, hc⟩
theorem RowB.sls {α : Type} {f : α → List Value} {k : Nat} {e : TypeId} {w : World} {g : Nat} {xs : List α} (h : RowB f k e w g xs) (cap : Nat) : Sls k (AtE f) w (.slice (some ⟨g, 0, none⟩) xs.length cap) xs :=
  ⟨_, _, rfl, fun i hi => ⟨g, 0, rfl, h.lt, fun j u hu => by rw [Nat.zero_add]; exact h.cell i hi j u hu⟩⟩
def intC (n : Int) : List Value := [.int .i64 n]
/-- A block of ints. -/
abbrev IRow (w : World) (g : Nat) (xs : List Int) : Prop := RowB intC 1 3 w g xs
theorem IRow.get {w : World} {g : Nat} {xs : List Int} (h : IRow w g xs) (i : Nat) (hi : i < xs.length) : w.cell? ⟨g, i, none⟩ = some (.int .i64 xs[i]) := by
  have := RowB.cell h i hi 0 (.int .i64 xs[i]) rfl
  simpa using this
theorem IRow.ints {w : World} {g : Nat} {xs : List Int} (h : IRow w g xs) {n : Nat} (hn : n = xs.length) (cap : Nat) : Ints w (.slice (some ⟨g, 0, none⟩) n cap) xs := by
  subst hn
  exact ⟨_, _, rfl, fun i hi => ⟨g, 0, rfl, h.lt, by rw [Nat.zero_add]; exact h.get i hi⟩⟩
theorem IRow.set {w : World} {g : Nat} {xs : List Int} (h : IRow w g xs) (i : Nat) (hi : i < xs.length) (n : Int) : IRow (w.setCell ⟨g, i, none⟩ (.int .i64 n)) g (xs.set i n) := by
  obtain ⟨cs, hB, hc⟩ := h
  refine ⟨_, hB.set i _, fun k hk j u hu => ?_⟩
  have hk' : k < xs.length := by simpa using hk
  rw [List.getElem_set] at hu
  have h1 := hc k hk' 0 (.int .i64 xs[k]) rfl
  simp only [Nat.mul_one, Nat.add_zero] at h1
  cases j with
  | succ j => simp [intC] at hu
  | zero =>
    rw [Nat.mul_one, Nat.add_zero]
    by_cases e : i = k
    · subst e
      rw [if_pos rfl] at hu
      obtain ⟨hsz, _⟩ := Array.getElem?_eq_some_iff.1 h1
      simp [intC] at hu
      simp [Array.getElem?_setIfInBounds, hsz, hu]
    · rw [if_neg e] at hu
      rw [Array.getElem?_setIfInBounds, if_neg e, h1]
      simpa [intC] using hu
theorem ints_flat (xs : List Int) : xs.flatMap intC = xs.map (Value.int .i64) := by
  induction xs with
  | nil => rfl
  | cons x xs ih => rw [List.flatMap_cons, ih]; rfl
theorem IRow.of_own {w : World} {base : Nat} {g len cap : Nat} {xs : List Int} (h : w.ownsRow base 3 1 (.slice (some ⟨g, 0, none⟩) len cap) xs.length (xs.map (Value.int .i64))) : IRow w g xs :=
  RowB.of_own (f := intC) (fun _ => rfl) (by rw [ints_flat]; exact h)
theorem own_pos {w : World} {base : Nat} {e : TypeId} {s : Nat} {v : Value} {n : Nat} {xs : List Value} (h : w.ownsRow base e s v n xs) (hn : 0 < n) : ∃ g cap, v = .slice (some ⟨g, 0, none⟩) n cap ∧ base ≤ g ∧ g < w.heap.size := by
  cases n with
  | zero => omega
  | succ n =>
    obtain ⟨g, cap, rfl⟩ := own_succ h
    exact ⟨g, cap, rfl, own_base h g rfl, own_lt h⟩
theorem intC_len (x : Int) : (intC x).length = 1 := rfl
theorem placeC_len (x : R.Place) : (placeC x).length = 12 := rfl
theorem spanC_len (x : Int × Int) : (spanC x).length = 2 := rfl
theorem sls_news {α : Type} {f : α → List Value} {k : Nat} (hf : ∀ x, (f x).length = k) (hk : 0 < k) {w : World} {a : Addr} {n cap : Nat} {xs : List α} (h : Sls k (AtE f) w (.slice (some a) n cap) xs) :
    ∀ j u, (xs.flatMap f)[j]? = some u → w.cell? (a.add j) = some u := by
  obtain ⟨a', cap', e, hx⟩ := h
  cases e
  intro j u hu
  have hj : j < xs.length * k := by
    have := (List.getElem?_eq_some_iff.1 hu).1
    rwa [flat_len f k hf] at this
  have hi : j / k < xs.length := Nat.div_lt_of_lt_mul (by rw [Nat.mul_comm]; exact hj)
  have hr : j % k < k := Nat.mod_lt _ hk
  have hg := flat_get f k hf xs (j / k) hi (j % k) hr
  have e : j / k * k + j % k = j := Nat.div_add_mod' j k
  rw [e, hu] at hg
  obtain ⟨b, off, e', hb, hc⟩ := hx (j / k) hi
  cases e'
  have hadd : (⟨b, off, none⟩ : Addr).add j = ⟨b, off + j, none⟩ := by unfold Addr.add; split <;> simp_all
  rw [hadd]
  have := hc (j % k) u hg.symm
  rw [Nat.add_assoc, e] at this
  exact this
theorem own_empty (w : World) (e : TypeId) (k : Nat) : (w.alloc (.cells #[] e)).ownsRow w.heap.size e k (.slice (some ⟨w.heap.size, 0, none⟩) 0 0) 0 [] :=
  ⟨by simp, .inr ⟨w.heap.size, 0, #[], rfl, Nat.le_refl _, heap_alloc_new w _, Nat.le_refl _, by unfold maxLen; omega, by simp, by simp⟩⟩
theorem Ints.sls {w : World} {v : Value} {xs : List Int} (h : Ints w v xs) : Sls 1 (AtE intC) w v xs := by
  obtain ⟨a, cap, rfl, hx⟩ := h
  refine ⟨a, cap, rfl, fun i hi => ?_⟩
  obtain ⟨b, off, rfl, hb, hc⟩ := hx i hi
  refine ⟨b, off, rfl, hb, fun j u hu => ?_⟩
  cases j with
  | zero => simp [intC] at hu; subst hu; simpa using hc
  | succ j => simp [intC] at hu
theorem intC_one (xs : List Int) : ∀ u ∈ xs.flatMap intC, u.oneCell' = true := by
  intro u hu
  obtain ⟨x, _, hx⟩ := List.mem_flatMap.1 hu
  simp only [intC, List.mem_cons, List.not_mem_nil, or_false] at hx
  subst hx; rfl
theorem placeC_one (xs : List R.Place) : ∀ u ∈ xs.flatMap placeC, u.oneCell' = true := by
  intro u hu
  obtain ⟨x, _, hx⟩ := List.mem_flatMap.1 hu
  simp only [placeC, List.mem_cons, List.not_mem_nil, or_false] at hx
  rcases hx with rfl | rfl | rfl | rfl | rfl | rfl | rfl | rfl | rfl | rfl | rfl | rfl <;> rfl
theorem sls_none {α : Type} {k : Nat} {At : World → Nat → Nat → α → Prop} {w : World} {n cap : Nat} {xs : List α} (h : Sls k At w (.slice none n cap) xs) : xs = [] := by
  obtain ⟨a, c, e, hx⟩ := h
  cases e
  cases xs with
  | nil => rfl
  | cons x xs => obtain ⟨b, off, h, _⟩ := hx 0 (by simp); cases h
set_option maxRecDepth 100000 in
theorem clone_ints (v : Value) (xs : List Int) (w : World) (hv : Ints w v xs) (hn : xs.length ≤ 1000000) :
    Calls Try.prog 60 #[v] w fun e w' => ∃ v', e = .returned v' ∧ w'.ownsRow w.heap.size 3 1 v' xs.length (xs.map (Value.int .i64)) ∧ Ext w w' := by
  have q25 : ∀ (w : World) (a : Option Addr) (n c n' c' : Nat), (binOp .eql 25 (.slice a n c) (.slice none n' c')).run Try.prog w = .ok (.bool a.isNone) w := fun w a n c n' c' => Lib.run_eql_slice_nil w _ _ a n c n' c' Try.underlying25
  have hs := hv.sls
  rw [← ints_flat]
  obtain ⟨a, cap, rfl, _⟩ := hv
  cases a with
  | none =>
    obtain rfl := sls_none hs
    go_enter Try.func60, Try.ntmps60
    go_wp2
    go_ret
    exact ⟨_, rfl, World.ownsRow_nil _ _ _ _, Ext.refl _⟩
  | some a =>
    obtain ⟨i0, hi, hz0, hz1, hz2⟩ := info_parts int_info
    have HS := Lib.hid hs
    clear hs
    go_enter Try.func60, Try.ntmps60
    go_wp2_with (first | (at_builtin; refine wpList_append_own _ rfl _ _ 25 rfl w.heap.size 3 i0 (.int .i64 0) 1 8 Try.underlying25 hi hz0 hz1 hz2 rfl (by decide) _ 0 [] rfl (own_empty w _ _) a xs.length cap (xs.flatMap intC) rfl (flat_len intC 1 intC_len xs) (sls_news intC_len (by decide) (Sls.ext (ate_stays _) HS.out ((Ext.refl _).alloc _))) (intC_one _) (by unfold maxLen; omega) (by omega) (by simp) ?_; intro v' w1 hown' hgrow _; obtain ⟨av, cv, rfl⟩ := own_slice hown'))
    go_ret
    exact ⟨_, rfl, by simpa using hown', Ext.grown ((Ext.refl _).alloc _) hgrow (own_base (own_empty w 3 1))⟩
set_option maxRecDepth 100000 in
theorem clone_places (v : Value) (xs : List R.Place) (w : World) (hs : Places w v xs) (hn : xs.length ≤ 1000000) :
    Calls Try.prog 84 #[v] w fun e w' => ∃ v', e = .returned v' ∧ w'.ownsRow w.heap.size 46 12 v' xs.length (xs.flatMap placeC) ∧ Ext w w' := by
  have q25 : ∀ (w : World) (a : Option Addr) (n c n' c' : Nat), (binOp .eql 22 (.slice a n c) (.slice none n' c')).run Try.prog w = .ok (.bool a.isNone) w := fun w a n c n' c' => Lib.run_eql_slice_nil w _ _ a n c n' c' Try.underlying22
  unfold Places at hs
  have hs' := hs
  obtain ⟨a, cap, rfl, _⟩ := hs'
  cases a with
  | none =>
    obtain rfl := sls_none hs
    go_enter Try.func84, Try.ntmps84
    go_wp2
    go_ret
    exact ⟨_, rfl, World.ownsRow_nil _ _ _ _, Ext.refl _⟩
  | some a =>
    obtain ⟨i0, hi, hz0, hz1, hz2⟩ := info_parts place_info
    have HS := Lib.hid hs
    clear hs
    go_enter Try.func84, Try.ntmps84
    go_wp2_with (first | (at_builtin; refine wpList_append_own _ rfl _ _ 22 rfl w.heap.size 46 i0 _ 12 96 Try.underlying22 hi hz0 hz1 hz2 rfl (by decide) _ 0 [] rfl (own_empty w _ _) a xs.length cap (xs.flatMap placeC) rfl (flat_len placeC 12 placeC_len xs) (sls_news placeC_len (by decide) (Sls.ext (ate_stays _) HS.out ((Ext.refl _).alloc _))) (placeC_one _) (by unfold maxLen; omega) (by omega) (by simp) ?_; intro v' w1 hown' hgrow _; obtain ⟨av, cv, rfl⟩ := own_slice hown'))
    go_ret
    exact ⟨_, rfl, by simpa using hown', Ext.grown ((Ext.refl _).alloc _) hgrow (own_base (own_empty w 46 12))⟩
end Go.Proofs.Ythffoglpekpmdaa
