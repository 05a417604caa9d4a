/- The memo's invariant. -/
import Derived.Test.YtmlobiajimlboaaM1
namespace Go.Proofs.Ytmlobiajimlboaa
set_option linter.unusedVariables false
set_option linter.unusedSimpArgs false
open Go.RowKit Go.Maps
abbrev spotV (i l m : Int) : Value := .agg #[.int .i64 i, .int .i64 l, .int .i64 m]
def wf64 (n : Int) : Prop := (Lit.int .i64 n).wf = true
set_option maxRecDepth 100000 in
theorem spot_key {i l m : Int} (hi : wf64 i) (hl : wf64 l) (hm : wf64 m) : ∃ kl, keyOf Try.prog 117 (spotV i l m) = some kl := by
  unfold wf64 at hi hl hm
  obtain ⟨k, hk⟩ : ∃ k, Try.prog.types.size + 1 = k + 2 := ⟨Try.prog.types.size - 1, by have h : (decide (0 < Try.prog.types.size)) = true := (by kernel_rfl); have h := of_decide_eq_true h; omega⟩
  have hkt : Try.prog.keyType 117 = true := by kernel_rfl
  have hs : Try.prog.cellsOf 117 = 3 := by kernel_rfl
  have hi1 : Try.prog.cellsOf 3 = 1 := by kernel_rfl
  have hu := Try.underlying117
  have hui := Try.underlying3
  unfold keyOf
  simp only [hu]
  rw [if_pos (by simp [hkt, Value.formed, hu, hs]), hk]
  refine ⟨.string (keyBytes [.int .i64 i, .int .i64 l, .int .i64 m]), ?_⟩
  unfold Program.keyLits
  simp only [hu, Value.cells]
  rw [if_pos (by simp [hs])]
  simp [List.mapM_cons, Program.keyLits, hui, hi1, hi, hl, hm]
def RV (v : Value) : Option (DataW Value × List MemPlace) := some (.held v, [])
/-- Whatever the memo holds at a spot is what the search finds from there. -/
def Memo (ws : List W.Work) (cells : List W.Cell) (w : World) (b n : Nat) : Prop :=
  ∃ D, w.ownsMap Try.prog 117 RV b n D ∧ IsMap D ∧ ∀ (i : Nat) (l m : Int) (kl : Lit), keyOf Try.prog 117 (spotV i l m) = some kl → Maps.has D kl = true →
    ∃ v, (∀ z, D.atKey kl z = .held (choiceA (W.search ws (cells.drop i) l m) v)) ∧ IntsB w v (W.search ws (cells.drop i) l m).plan
theorem Memo.mapAt {ws : List W.Work} {cells : List W.Cell} {w : World} {b n : Nat} (h : Memo ws cells w b n) : MapAt w b := by
  obtain ⟨D, ⟨es, cl, hb, _⟩, _⟩ := h
  exact ⟨es, cl, hb⟩
theorem Memo.mono {ws : List W.Work} {cells : List W.Cell} {w : World} {b n n' : Nat} (h : Memo ws cells w b n) (hn : n ≤ n') : Memo ws cells w b n' := by
  obtain ⟨D, h1, h2⟩ := h
  exact ⟨D, h1.mono hn, h2⟩
theorem Memo.made (ws : List W.Work) (cells : List W.Cell) (w : World) : Memo ws cells (w.alloc (.map #[] 0)) w.heap.size 0 :=
  ⟨.map [], World.ownsMap_made _ _ _ _, isMap_empty, fun _ _ _ _ _ h => by simp [Maps.has] at h⟩
theorem Memo.ext {ws : List W.Work} {cells : List W.Cell} {w w' : World} {b n : Nat} (h : Memo ws cells w b n) (he : Ext w w') : Memo ws cells w' b n := by
  obtain ⟨D, h1, h2, h3⟩ := h
  refine ⟨D, h1.kept (row := none) ⟨he.os, he.tape, he.output, he.size, fun k hk _ => he.block k hk⟩ (by simp), h2, fun i l m kl hk hh => ?_⟩
  obtain ⟨v, hv1, hv2⟩ := h3 i l m kl hk hh
  exact ⟨v, hv1, hv2.ext he⟩
theorem Memo.set {ws : List W.Work} {cells : List W.Cell} {w : World} {b n : Nat} (h : Memo ws cells w b n) {c o : Nat} {cs : Array Value} {e : TypeId} (hc : Blk w c cs e) (he : e ≠ 3) (u : Value) : Memo ws cells (w.setCell ⟨c, o, none⟩ u) b n := by
  obtain ⟨D, h1, h2, h3⟩ := h
  have hne : c ≠ b := fun e' => by
    obtain ⟨es, cl, hb, _⟩ := h1
    subst e'; unfold Blk at hc; rw [hc] at hb; cases hb
  refine ⟨D, h1.kept (row := some c) ⟨rfl, rfl, rfl, by simp [World.setCell], fun k _ hk => Below.heap_setCell _ _ _ _ (fun e => hk (by rw [e]))⟩ (by simpa using fun e => hne e.symm), h2, fun i l m kl hk hh => ?_⟩
  obtain ⟨v, hv1, hv2⟩ := h3 i l m kl hk hh
  exact ⟨v, hv1, hv2.set hc he u⟩
/-- A row that the call owns grows. -/
theorem Memo.grown {ws : List W.Work} {cells : List W.Cell} {w w' : World} {b n : Nat} {row : Option Nat} (h : Memo ws cells w b n) (hg : w.grownBy w' row) (hr : ∀ k, row = some k → ∃ cs e, Blk w k cs e ∧ e ≠ 3) : Memo ws cells w' b n := by
  obtain ⟨D, h1, h2, h3⟩ := h
  have hb : some b ≠ row := fun e' => by
    obtain ⟨cs, e, hc, _⟩ := hr b e'.symm
    obtain ⟨es, cl, hb, _⟩ := h1
    unfold Blk at hc; rw [hc] at hb; cases hb
  refine ⟨D, h1.kept hg hb, h2, fun i l m kl hk hh => ?_⟩
  obtain ⟨v, hv1, hv2⟩ := h3 i l m kl hk hh
  exact ⟨v, hv1, hv2.grown hg hr⟩
/-- What is stored. -/
theorem Memo.put {ws : List W.Work} {cells : List W.Cell} {w w' : World} {b n : Nat} {D : DataW Value} {i : Nat} {l m : Int} {kl : Lit} {v : Value}
    (h2 : IsMap D) (h3 : ∀ (i : Nat) (l m : Int) (kl : Lit), keyOf Try.prog 117 (spotV i l m) = some kl → Maps.has D kl = true →
      ∃ v, (∀ z, D.atKey kl z = .held (choiceA (W.search ws (cells.drop i) l m) v)) ∧ IntsB w v (W.search ws (cells.drop i) l m).plan)
    (hm : MapAt w b) (hk : keyOf Try.prog 117 (spotV i l m) = some kl) (hv : IntsB w v (W.search ws (cells.drop i) l m).plan)
    (h1 : w'.ownsMap Try.prog 117 RV b (n + 1) (D.put kl (.held (choiceA (W.search ws (cells.drop i) l m) v)))) (hg : w.grownBy w' (some b)) : Memo ws cells w' b (n + 1) := by
  refine ⟨_, h1, h2.put _ _, fun i' l' m' kl' hk' hh => ?_⟩
  by_cases he : kl' = kl
  · subst he
    have e := spot_keyed.inj hk' hk
    simp only [spotV, Value.agg.injEq, Array.mk.injEq, List.cons.injEq, Value.int.injEq, true_and, and_true] at e
    obtain ⟨e1, e2, e3⟩ := e
    have e1' : i' = i := by omega
    subst e1' e2 e3
    exact ⟨v, fun z => atKey_put_same h2 (spot_keyed.key hk) _ _, hv.but hg hm⟩
  · rw [has_put_other he] at hh
    obtain ⟨v', hv1, hv2⟩ := h3 i' l' m' kl' hk' hh
    exact ⟨v', fun z => by rw [atKey_put_other he]; exact hv1 z, hv2.but hg hm⟩
end Go.Proofs.Ytmlobiajimlboaa
