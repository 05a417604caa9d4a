/- Slices of ints whose block is a block of ints; what a call leaves that writes one map alone. -/
import Derived.Test.YtmlobiajimlboaaRow
import Derived.Maps.Range
import Derived.Maps.AppendAt
namespace Go.Proofs.Ytmlobiajimlboaa
set_option linter.unusedVariables false
set_option linter.unusedSimpArgs false
open Go.RowKit
theorem Ints.setOff {w : World} {v : Value} {xs : List Int} (h : Ints w v xs) {a : Addr} (ha : v.ownBlock ≠ some a.block) (u : Value) : Ints (w.setCell a u) v xs := by
  obtain ⟨s, cap, rfl, hx⟩ := h
  refine ⟨s, cap, rfl, fun i hi => ?_⟩
  obtain ⟨b, off, rfl, hb, hc⟩ := hx i hi
  refine ⟨b, off, rfl, by simpa [World.setCell] using hb, ?_⟩
  have hne : b ≠ a.block := fun e => ha (by rw [← e]; rfl)
  rw [← hc]
  simp [World.cell?, Below.heap_setCell _ _ _ _ hne]
/-- The slice reads as the ints xs, and its block is one of ints. -/
def IntsB (w : World) (v : Value) (xs : List Int) : Prop := Ints w v xs ∧ ∀ k, v.ownBlock = some k → ∃ cs, Blk w k cs 3
theorem IntsB.ext {w w' : World} {v : Value} {xs : List Int} (h : IntsB w v xs) (he : Ext w w') : IntsB w' v xs :=
  ⟨h.1.ext he, fun k hk => by obtain ⟨cs, hb⟩ := h.2 k hk; exact ⟨cs, hb.ext he⟩⟩
theorem IntsB.nil (w : World) : IntsB w (.slice none 0 0) [] := ⟨Ints.nil w, fun k hk => by simp [Value.ownBlock] at hk⟩
theorem IntsB.set {w : World} {v : Value} {xs : List Int} (h : IntsB w v xs) {c o : Nat} {cs : Array Value} {e : TypeId} (hc : Blk w c cs e) (he : e ≠ 3) (u : Value) : IntsB (w.setCell ⟨c, o, none⟩ u) v xs := by
  have hne : ∀ k, v.ownBlock = some k → c ≠ k := fun k hk e' => by
    obtain ⟨cs', hb⟩ := h.2 k hk
    subst e'
    unfold Blk at hc hb
    rw [hc] at hb
    have := Option.some.inj hb
    injection this with _ h2 _
    exact he h2
  refine ⟨h.1.setOff (fun e' => hne _ e' rfl) u, fun k hk => ?_⟩
  obtain ⟨cs', hb⟩ := h.2 k hk
  exact ⟨cs', hb.other (hne k hk) u⟩
/-- Block b is a map. -/
def MapAt (w : World) (b : Nat) : Prop := ∃ es clock, w.heap[b]? = some (.map es clock)
/-- All that lay lies as it lay, but for block b. -/
def But (b : Nat) (w w' : World) : Prop := w.grownBy w' (some b)
theorem But.refl (b : Nat) (w : World) : But b w w := World.grownBy.refl w _
theorem But.trans {b : Nat} {x y z : World} (h : But b x y) (k : But b y z) : But b x z := World.grownBy.trans h k
theorem But.size {b : Nat} {w w' : World} (h : But b w w') : w.heap.size ≤ w'.heap.size := World.grownBy.size h
theorem Ext.but {w w' : World} (h : Ext w w') (b : Nat) : But b w w' := ⟨h.os, h.tape, h.output, h.size, fun k hk _ => h.block k hk⟩
theorem But.ext {b : Nat} {x y z : World} (h : But b x y) (k : Ext y z) : But b x z := h.trans (k.but b)
theorem But.alloc {b : Nat} {x y : World} (h : But b x y) (o : Obj) : But b x (y.alloc o) := h.ext ((Ext.refl y).alloc o)
theorem But.grown {b : Nat} {x y z : World} {row : Option Nat} (h : But b x y) (k : y.grownBy z row) (hr : ∀ j, row = some j → x.heap.size ≤ j) : But b x z :=
  World.grownBy.andThen h k fun j hj => .inl (hr j hj)
theorem But.set {b : Nat} {x y : World} (h : But b x y) {a : Addr} (ha : x.heap.size ≤ a.block) (v : Value) : But b x (y.setCell a v) := by
  refine h.grown (row := some a.block) ⟨rfl, rfl, rfl, by simp [World.setCell], fun k _ hk => ?_⟩ (fun j hj => by cases hj; exact ha)
  exact Below.heap_setCell _ _ _ _ (fun e => hk (by rw [e]))
theorem But.drew {b : Nat} {x y : World} (h : But b x y) : But b x y.drew := h.ext ((Ext.refl y).drew)
theorem MapAt.ext {w w' : World} {b : Nat} (h : MapAt w b) (he : Ext w w') : MapAt w' b := by
  obtain ⟨es, cl, hb⟩ := h
  exact ⟨es, cl, (he.block b (Array.getElem?_eq_some_iff.1 hb).1).trans hb⟩
theorem MapAt.lt {w : World} {b : Nat} (h : MapAt w b) : b < w.heap.size := by
  obtain ⟨es, cl, hb⟩ := h
  exact (Array.getElem?_eq_some_iff.1 hb).1
theorem MapAt.cell {w : World} {b : Nat} (h : MapAt w b) {c o : Nat} {v : Value} (hc : w.cell? ⟨c, o, none⟩ = some v) : c ≠ b := fun e => by
  obtain ⟨es, cl, hb⟩ := h
  subst e
  simp [World.cell?, hb] at hc
theorem But.cell {w w' : World} {b : Nat} (hB : But b w w') (hm : MapAt w b) {c o : Nat} {v : Value} (hc : w.cell? ⟨c, o, none⟩ = some v) : w'.cell? ⟨c, o, none⟩ = some v :=
  World.grownBy.cell hB hc (by have := hm.cell hc; simpa using this)
theorem Ints.but {w w' : World} {v : Value} {xs : List Int} {b : Nat} (h : Ints w v xs) (hB : But b w w') (hm : MapAt w b) : Ints w' v xs := by
  obtain ⟨a, cap, rfl, hx⟩ := h
  refine ⟨a, cap, rfl, fun i hi => ?_⟩
  obtain ⟨b, off, rfl, hb, hc⟩ := hx i hi
  exact ⟨b, off, rfl, Nat.lt_of_lt_of_le hb hB.size, hB.cell hm hc⟩
theorem Cells.but {w w' : World} {v : Value} {xs : List W.Cell} {b : Nat} (h : Cells w v xs) (hB : But b w w') (hm : MapAt w b) : Cells w' v xs := by
  obtain ⟨a, cap, rfl, hx⟩ := h
  refine ⟨a, cap, rfl, fun i hi => ?_⟩
  obtain ⟨b, off, rfl, hb, hc⟩ := hx i hi
  exact ⟨b, off, rfl, Nat.lt_of_lt_of_le hb hB.size, hB.cell hm hc.1, hB.cell hm hc.2.1, hB.cell hm hc.2.2.1, hB.cell hm hc.2.2.2⟩
theorem Works.but {w w' : World} {v : Value} {xs : List W.Work} {b : Nat} (h : Works w v xs) (hB : But b w w') (hm : MapAt w b) : Works w' v xs := by
  obtain ⟨a, cap, rfl, hx⟩ := h
  refine ⟨a, cap, rfl, fun i hi => ?_⟩
  obtain ⟨b, off, rfl, hb, hc⟩ := hx i hi
  exact ⟨b, off, rfl, Nat.lt_of_lt_of_le hb hB.size, hB.cell hm hc.1, hB.cell hm hc.2.1, hB.cell hm hc.2.2⟩
theorem Blk.but {w w' : World} {b c : Nat} {cs : Array Value} {e : TypeId} (h : Blk w c cs e) (hB : But b w w') (hm : MapAt w b) : Blk w' c cs e := by
  have hne : c ≠ b := fun e' => by
    obtain ⟨es, cl, hm⟩ := hm
    subst e'; unfold Blk at h; rw [h] at hm; cases hm
  exact (World.grownBy.block hB c h.lt (by simpa using hne)).trans h
theorem IntsB.but {w w' : World} {v : Value} {xs : List Int} {b : Nat} (h : IntsB w v xs) (hB : But b w w') (hm : MapAt w b) : IntsB w' v xs :=
  ⟨h.1.but hB hm, fun k hk => by obtain ⟨cs, hb⟩ := h.2 k hk; exact ⟨cs, hb.but hB hm⟩⟩
theorem own_but {w w' : World} {base : Nat} {e : TypeId} {s : Nat} {v : Value} {n b : Nat} {xs : List Value} (h : w.ownsRow base e s v n xs) (hB : But b w w') (hb : b < base) : w'.ownsRow base e s v n xs :=
  h.kept hB (.inr fun e' => by have := own_base h b e'; omega)
theorem IntsB.grown {w w' : World} {row : Option Nat} {v : Value} {xs : List Int} (h : IntsB w v xs) (hg : w.grownBy w' row) (hr : ∀ k, row = some k → ∃ cs e, Blk w k cs e ∧ e ≠ 3) : IntsB w' v xs := by
  obtain ⟨hv2, hv3⟩ := h
  have hne : ∀ k, v.ownBlock = some k → some k ≠ row := fun k hk e' => by
    obtain ⟨cs, e, hc, he⟩ := hr k e'.symm
    obtain ⟨cs', hc'⟩ := hv3 k hk
    unfold Blk at hc hc'; rw [hc] at hc'
    have := Option.some.inj hc'
    injection this with _ h2 _
    exact he h2
  refine ⟨?_, fun k hk => ?_⟩
  · obtain ⟨a, cap, rfl, hx⟩ := hv2
    refine ⟨a, cap, rfl, fun i hi => ?_⟩
    obtain ⟨b', off, rfl, hb', hc⟩ := hx i hi
    exact ⟨b', off, rfl, Nat.lt_of_lt_of_le hb' hg.size, hg.cell hc (hne b' rfl)⟩
  · obtain ⟨cs, hc⟩ := hv3 k hk
    exact ⟨cs, (hg.block k hc.lt (hne k hk)).trans hc⟩
theorem own_blk {w : World} {base : Nat} {e : TypeId} {s : Nat} {v : Value} {n : Nat} {xs : List Value} (h : w.ownsRow base e s v n xs) (he : e ≠ 3) : ∀ k, v.ownBlock = some k → ∃ cs e, Blk w k cs e ∧ e ≠ 3 := by
  intro k hk
  rcases h.2 with ⟨rfl, _⟩ | ⟨g, cap, cur, rfl, _, hg, _⟩
  · simp [Value.ownBlock] at hk
  · simp [Value.ownBlock] at hk
    subst hk
    exact ⟨_, e, hg, he⟩
/-- An appended row: a new block of ints, or the block that was there. -/
theorem IntsB.of_own {w : World} {base : Nat} {v : Value} {xs : List Int} (h : w.ownsRow base 3 1 v xs.length (xs.map (Value.int .i64))) : IntsB w v xs := by
  refine ⟨Ints.of_own h, fun k hk => ?_⟩
  rcases h.2 with ⟨rfl, _⟩ | ⟨g, cap, cur, rfl, _, hg, _⟩
  · simp [Value.ownBlock] at hk
  · simp [Value.ownBlock] at hk
    subst hk
    exact ⟨_, hg⟩
theorem IntsB.of_blk {w : World} {g : Nat} {xs : List Int} {cs : Array Value} (h : Blk w g cs 3) (hc : ∀ i (hi : i < xs.length), cs[i]? = some (.int .i64 xs[i])) (cap : Nat) : IntsB w (.slice (some ⟨g, 0, none⟩) xs.length cap) xs := by
  refine ⟨⟨_, _, rfl, fun i hi => ⟨g, 0, rfl, h.lt, ?_⟩⟩, fun k hk => ?_⟩
  · rw [h.cell, Nat.zero_add]; exact hc i hi
  · simp [Value.ownBlock] at hk; subst hk; exact ⟨cs, h⟩
end Go.Proofs.Ytmlobiajimlboaa
