/- The best plan: the plans as numbers, the map of costs. -/
import Derived.Test.YthffoglpekpmdaaG7
import Derived.Test.YthffoglpekpmdaaH2
import Derived.Maps.OwnSet
import Derived.Maps.Views
import Derived.Maps.OwnOps
import Derived.DeepKeys4
namespace Go.Proofs.Ythffoglpekpmdaa
set_option linter.unusedVariables false
set_option linter.unusedSimpArgs false
open Go.RowKit Go.Maps
theorem R.digits_len (n : Nat) : ∀ (k x : Nat), (R.digits n k x).length = k
  | 0, _ => rfl
  | k + 1, x => by rw [R.digits, List.length_append, R.digits_len n k]; rfl
theorem R.digits_at (n : Nat) : ∀ (k x s : Nat), s < k → R.iat (R.digits n k x) s = ((x / 2 ^ (n * (k - 1 - s)) % 2 ^ n : Nat) : Int)
  | 0, _, _, h => by omega
  | k + 1, x, s, h => by
    rw [R.digits]
    unfold R.iat
    rw [List.getD_eq_getElem?_getD]
    by_cases e : s = k
    · subst e
      rw [List.getElem?_append_right (by rw [R.digits_len]; omega), R.digits_len]
      simp
    · rw [List.getElem?_append_left (by rw [R.digits_len]; omega), ← List.getD_eq_getElem?_getD]
      have ih := R.digits_at n k (x / 2 ^ n) s (by omega)
      unfold R.iat at ih
      rw [ih, Nat.div_div_eq_div_mul, ← Nat.pow_add]
      have : n + n * (k - 1 - s) = n * (k + 1 - 1 - s) := by
        rw [show k + 1 - 1 - s = (k - 1 - s) + 1 by omega, Nat.mul_add]; omega
      rw [this]
theorem R.digits_ok (r : R.Reef) (k x : Nat) (hk : (k : Int) = r.seasons) : R.OkL r (R.digits r.places.length k x) := by
  refine ⟨by rw [R.digits_len]; exact hk, fun s h => ?_⟩
  have hs : s < k := by rw [R.digits_len] at h; exact h
  have e := R.digits_at r.places.length k x s hs
  rw [R.iat_at h] at e
  rw [e]
  refine ⟨by omega, ?_⟩
  have : x / 2 ^ (r.places.length * (k - 1 - s)) % 2 ^ r.places.length < 2 ^ r.places.length := Nat.mod_lt _ (Nat.pow_pos (by decide))
  exact_mod_cast this
def bestTo (r : R.Reef) (x : Nat) : Option (List Int) := ((List.range x).map (R.digits r.places.length r.seasons.toNat)).foldl (R.better r) none
theorem bestTo_succ (r : R.Reef) (x : Nat) : bestTo r (x + 1) = R.better r (bestTo r x) (R.digits r.places.length r.seasons.toNat x) := by
  unfold bestTo; rw [List.range_succ, List.map_append, List.foldl_append]; rfl
theorem bestTo_all (r : R.Reef) : bestTo r (2 ^ (r.places.length * r.seasons.toNat)) = R.best r := rfl
theorem better_is (r : R.Reef) (l : List Int) (b : Option (List Int)) : R.better r b l = some l ∨ R.better r b l = b := by
  unfold R.better; cases b <;> (simp only; repeat' split) <;> simp
theorem bestTo_form (r : R.Reef) : ∀ x l, bestTo r x = some l → ∃ y, l = R.digits r.places.length r.seasons.toNat y
  | 0, l, h => by cases h
  | x + 1, l, h => by
    rw [bestTo_succ] at h
    rcases better_is r (R.digits r.places.length r.seasons.toNat x) (bestTo r x) with e | e
    · rw [e] at h; exact ⟨x, (Option.some.inj h).symm⟩
    · rw [e] at h; exact bestTo_form r x l h
/-- A plan as a key: four sets. -/
def pad4 (l : List Int) : Array Value := #[.int .i64 (R.iat l 0), .int .i64 (R.iat l 1), .int .i64 (R.iat l 2), .int .i64 (R.iat l 3)]
/-- The first s sets laid. -/
def padTo (l : List Int) (s : Nat) : Array Value := pad4 (l.take s)
theorem padTo_zero (l : List Int) : padTo l 0 = #[.int .i64 0, .int .i64 0, .int .i64 0, .int .i64 0] := rfl
theorem padTo_all (l : List Int) : padTo l l.length = pad4 l := by unfold padTo; rw [List.take_length]
theorem padTo_succ (l : List Int) (s : Nat) (h : s < l.length) (h4 : l.length ≤ 4) : (padTo l s).setIfInBounds s (.int .i64 (R.iat l s)) = padTo l (s + 1) := by
  have hk : ∀ j i, R.iat (l.take j) i = if i < j then R.iat l i else 0 := fun j i => by
    unfold R.iat; rw [List.getD_eq_getElem?_getD, List.getElem?_take]; split <;> rfl
  unfold padTo pad4
  simp only [hk]
  have : s = 0 ∨ s = 1 ∨ s = 2 ∨ s = 3 := by omega
  rcases this with rfl | rfl | rfl | rfl <;> simp
theorem pad4_ints {w : World} {b : Nat} {l : List Int} (h : Blk w b (pad4 l) 94) (h4 : l.length ≤ 4) (cap : Nat) : Ints w (.slice (some ⟨b, 0, none⟩) l.length cap) l := by
  refine ⟨_, cap, rfl, fun i hi => ⟨b, 0, rfl, h.lt, ?_⟩⟩
  rw [Nat.zero_add, h.cell, ← R.iat_at hi]
  have : i = 0 ∨ i = 1 ∨ i = 2 ∨ i = 3 := by omega
  rcases this with rfl | rfl | rfl | rfl <;> rfl
theorem key_row : (94 : TypeId) < Try.prog.types.size := of_decide_eq_true (by kernel_rfl)
theorem key_wide : (match Try.prog.underlying 94 with | some (.array _ _) | some (.struct _) => true | _ => false) = true := by kernel_rfl
set_option maxRecDepth 100000 in
theorem key_keyed : Keyed Try.prog 94 := Keyed.of_law (deep_law_laid (by kernel_rfl) (m := 3) (by omega) key_row (by kernel_rfl) key_wide)
def wf64 (n : Int) : Prop := (Lit.int .i64 n).wf = true
theorem wf64_of {n : Int} (h0 : 0 ≤ n) (h1 : n ≤ 1000000000) : wf64 n := by
  have h2 : IntKind.min .i64 = -9223372036854775808 := by decide
  have h3 : IntKind.max .i64 = 9223372036854775807 := by decide
  show (decide (IntKind.min .i64 ≤ n) && decide (n ≤ IntKind.max .i64)) = true
  rw [h2, h3, Bool.and_eq_true, decide_eq_true_eq, decide_eq_true_eq]
  omega
set_option maxRecDepth 100000 in
theorem pad_key {a b c d : Int} (ha : wf64 a) (hb : wf64 b) (hc : wf64 c) (hd : wf64 d) : ∃ kl, keyOf Try.prog 94 (.agg #[.int .i64 a, .int .i64 b, .int .i64 c, .int .i64 d]) = some kl := by
  unfold wf64 at ha hb hc hd
  obtain ⟨k, hk⟩ : ∃ k, Try.prog.types.size + 1 = k + 2 := ⟨Try.prog.types.size - 1, by have h : (decide (0 < Try.prog.types.size)) = true := (by kernel_rfl); have h := of_decide_eq_true h; omega⟩
  have hkt : Try.prog.keyType 94 = true := by kernel_rfl
  have hs : Try.prog.cellsOf 94 = 4 := by kernel_rfl
  have hi1 : Try.prog.cellsOf 3 = 1 := by kernel_rfl
  have hu := Try.underlying94
  have hui := Try.underlying3
  unfold keyOf
  simp only [hu]
  rw [if_pos (by simp [hkt, Value.formed, hu, hs]), hk]
  refine ⟨.string (keyBytes [.int .i64 a, .int .i64 b, .int .i64 c, .int .i64 d]), ?_⟩
  unfold Program.keyLits
  simp only [hu, Value.cells]
  rw [if_pos (by simp [hs]), show List.range 4 = [0, 1, 2, 3] from rfl]
  simp [List.mapM_cons, Program.keyLits, hui, hi1, ha, hb, hc, hd]
theorem pad_key_ok {r : R.Reef} {l : List Int} (O : R.OkR r) (OL : R.OkL r l) : ∃ kl, keyOf Try.prog 94 (.agg (pad4 l)) = some kl := by
  have hb : ∀ i, wf64 (R.iat l i) := fun i => by
    by_cases h : i < l.length
    · have h1 := OL.bit i h
      have h2 := (pow_bd (n := r.places.length) (by have := O.n4; omega)).2
      rw [R.iat_at h]
      exact wf64_of h1.1 (by omega)
    · rw [R.iat_out l i (by omega)]; exact wf64_of (by omega) (by omega)
  exact pad_key (hb 0) (hb 1) (hb 2) (hb 3)
theorem cost_bd {r : R.Reef} {l : List Int} (O : R.OkR r) (OL : R.OkL r l) : 0 ≤ R.cost r l ∧ R.cost r l ≤ 16000000 := by
  have h := costTo_bd r (fun i hi => ⟨(O.place i hi).w0, (O.place i hi).w1⟩) O.n4 l l.length
  rw [costTo_all] at h
  have h1 := OL.len
  have h2 := O.s4
  omega
noncomputable abbrev IV : Value → Option (DataW Value × List MemPlace) := plainElem (H := Value) Try.prog 3
def padO : Option (List Int) → Array Value
  | some l => pad4 l
  | none => #[.int .i64 0, .int .i64 0, .int .i64 0, .int .i64 0]
/-- The map of costs: what it has for the best plan so far. -/
def Costs (r : R.Reef) (w : World) (b n : Nat) (o : Option (List Int)) : Prop :=
  ∃ D, w.ownsMap Try.prog 94 IV b n D ∧ ∀ l, o = some l → ∃ kl, keyOf Try.prog 94 (.agg (pad4 l)) = some kl ∧ D.atKey kl (.lit (.int .i64 0)) = .lit (.int .i64 (R.cost r l))
theorem Costs.made (r : R.Reef) (w : World) : Costs r (w.alloc (.map #[] 0)) w.heap.size 0 none := ⟨.map [], World.ownsMap_made _ _ _ _, fun _ h => by cases h⟩
theorem Costs.mono {r : R.Reef} {w : World} {b n n' : Nat} {o : Option (List Int)} (h : Costs r w b n o) (hn : n ≤ n') : Costs r w b n' o := by
  obtain ⟨D, h1, h2⟩ := h
  exact ⟨D, h1.mono hn, h2⟩
theorem Costs.ext {r : R.Reef} {w w' : World} {b n : Nat} {o : Option (List Int)} (h : Costs r w b n o) (he : Ext w w') : Costs r w' b n o := by
  obtain ⟨D, h1, h2⟩ := h
  exact ⟨D, h1.kept (row := none) ⟨he.os, he.tape, he.output, he.size, fun k hk _ => he.block k hk⟩ (by simp), h2⟩
theorem Costs.lt {r : R.Reef} {w : World} {b n : Nat} {o : Option (List Int)} (h : Costs r w b n o) : b < w.heap.size := by
  obtain ⟨D, h1, h2⟩ := h
  exact h1.lt
theorem Costs.ne {r : R.Reef} {w : World} {b n c : Nat} {cs : Array Value} {e : TypeId} {o : Option (List Int)} (h : Costs r w b n o) (hc : Blk w c cs e) : c ≠ b := fun e' => by
  obtain ⟨D, ⟨es, cl, hb, _⟩, h2⟩ := h
  subst e'; unfold Blk at hc; rw [hc] at hb; cases hb
theorem Costs.set {r : R.Reef} {w : World} {b n : Nat} {o : Option (List Int)} (h : Costs r w b n o) {a : Addr} (ha : b ≠ a.block) (u : Value) : Costs r (w.setCell a u) b n o := by
  obtain ⟨D, h1, h2⟩ := h
  exact ⟨D, h1.setCell ha u, h2⟩
set_option maxRecDepth 100000 in
theorem zero_int (w : World) : (zeroValue 3).run Try.prog w = .ok (.int .i64 0) w := rfl
set_option maxRecDepth 100000 in
theorem Costs.look {r : R.Reef} {w : World} {b n : Nat} {l : List Int} (h : Costs r w b n (some l)) : (Instr.lookup 93 (.map (some b)) (.agg (pad4 l)) false).run Try.prog w = .ok (.int .i64 (R.cost r l)) w := by
  obtain ⟨D, h1, h2⟩ := h
  obtain ⟨kl, hk, hat⟩ := h2 l rfl
  obtain ⟨c, hrun, hc, _⟩ := h1.lookup_int key_keyed Try.underlying93 Try.underlying3 (zero_int w) hk
  rw [hat] at hc
  have : R.cost r l = c := by simpa using hc
  rw [this]; exact hrun
/-- What is stored. -/
theorem Costs.put {r : R.Reef} {w' : World} {b n : Nat} {l : List Int} {D : DataW Value} {kl : Lit} (hD : IsMap D) (hk : keyOf Try.prog 94 (.agg (pad4 l)) = some kl) (h1 : w'.ownsMap Try.prog 94 IV b (n + 1) (D.put kl (.lit (.int .i64 (R.cost r l))))) : Costs r w' b (n + 1) (some l) :=
  ⟨_, h1, fun l' e => by cases e; exact ⟨kl, hk, atKey_put_same hD (key_keyed.key hk) _ _⟩⟩
theorem Blk.but {w w' : World} {b c : Nat} {cs : Array Value} {e : TypeId} (h : Blk w c cs e) (hg : w.grownBy w' (some b)) (hne : c ≠ b) : Blk w' c cs e :=
  (hg.block c h.lt (fun e => hne (Option.some.inj e))).trans h
theorem better_none (r : R.Reef) (L : List Int) : R.better r none L = if (R.short r L).isNone then some L else none := rfl
theorem better_some (r : R.Reef) (l L : List Int) : R.better r (some l) L = if R.cost r l ≤ R.cost r L then some l else if (R.short r L).isNone then some L else some l := rfl
end Go.Proofs.Ythffoglpekpmdaa
