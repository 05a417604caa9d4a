/- Slices of works: copied, one work more. -/
import Derived.Test.YtmlobiajimlboaaIB
import Derived.Test.YtmlobiajimlboaaM5
import Derived.Deep.Upon
namespace Go.Proofs.Ytmlobiajimlboaa
set_option linter.unusedVariables false
set_option linter.unusedSimpArgs false
open Go.RowKit
def workC (x : W.Work) : List Value := [.int .i64 x.rise, .int .i64 x.calm, .int .i64 x.cost]
theorem work_info : (Try.prog.info? 65).map (fun i => (i.zero, i.size, i.bytes)) = some (some (.agg #[.int .i64 0, .int .i64 0, .int .i64 0]), 3, 24) := by kernel_rfl
theorem workC_one (xs : List W.Work) : ∀ u ∈ xs.flatMap workC, u.oneCell' = true := by
  intro u hu
  obtain ⟨x, _, hx⟩ := List.mem_flatMap.1 hu
  simp only [workC, List.mem_cons, List.not_mem_nil, or_false] at hx
  rcases hx with rfl | rfl | rfl <;> rfl
theorem workC_len (xs : List W.Work) : (xs.flatMap workC).length = xs.length * 3 := by
  induction xs with
  | nil => rfl
  | cons x xs ih => rw [List.flatMap_cons, List.length_append, ih, List.length_cons, Nat.succ_mul]; simp [workC]; omega
theorem Works.of_own {w : World} {base : Nat} {v : Value} {xs : List W.Work} (h : w.ownsRow base 65 3 v xs.length (xs.flatMap workC)) : Works w v xs := by
  obtain ⟨a, cap, rfl⟩ := own_slice h
  refine ⟨a, cap, rfl, fun i hi => ?_⟩
  rcases h.2 with ⟨e, h0⟩ | ⟨g, cap', cur, hv, hb, hg, _⟩
  · rw [h0] at hi; exact absurd hi (by omega)
  · cases hv
    have hget := fun j (hj : j < 3) => flat_get workC 3 (fun _ => rfl) xs i hi j hj
    refine ⟨g, 0, rfl, own_lt h, ?_, ?_, ?_⟩
    · refine (own_cell h _ _ ?_); rw [Nat.zero_add]; simpa [workC] using hget 0 (by omega)
    · refine (own_cell h _ _ ?_); rw [Nat.zero_add]; simpa [workC] using hget 1 (by omega)
    · refine (own_cell h _ _ ?_); rw [Nat.zero_add]; simpa [workC] using hget 2 (by omega)
theorem run_append_copyW (w : World) (v : Value) (xs : List W.Work) (ty : TypeId) (hv : Works w v xs) (hn : xs.length ≤ 1000000) :
    ∃ v' w', (Builtin.append_ #[23, 23] ty #[.slice none 0 0, v]).run Try.prog w = .ok v' w' ∧ w'.ownsRow w.heap.size 65 3 v' xs.length (xs.flatMap workC) ∧ Ext w w' := by
  obtain ⟨i0, hi, hz0, hz1, hz2⟩ := info_parts work_info
  obtain ⟨a, cap, rfl, hx⟩ := hv
  cases a with
  | none =>
    have e : xs = [] := by
      cases xs with
      | nil => rfl
      | cons x xs => obtain ⟨b, off, h, _⟩ := hx 0 (by simp); cases h
    subst e
    have := run_append_nothing (P := Try.prog) w 23 23 ty 65 i0 Try.underlying23 hi none 0 0 (Nat.le_refl _) (.slice none 0 cap) (Src.ofNil w Try.underlying23 cap)
    exact ⟨_, _, this, World.ownsRow_nil _ _ _ _, Ext.refl _⟩
  | some a =>
    have hnews : ∀ j u, (xs.flatMap workC)[j]? = some u → w.cell? (a.add j) = some u := by
      intro j u hu
      have hj : j < xs.length * 3 := by
        have := (List.getElem?_eq_some_iff.1 hu).1
        rwa [workC_len] at this
      have hi3 : j / 3 < xs.length := by omega
      have hg := flat_get workC 3 (fun _ => rfl) xs (j / 3) hi3 (j % 3) (by omega)
      have e : j / 3 * 3 + j % 3 = j := by omega
      rw [e, hu] at hg
      obtain ⟨b, off, e, hb, h0, h1, h2⟩ := hx (j / 3) hi3
      cases e
      have hadd : (⟨b, off, none⟩ : Addr).add j = ⟨b, off + j, none⟩ := by unfold Addr.add; split <;> simp_all
      rw [hadd]
      obtain ⟨r, hr⟩ : ∃ r, j % 3 = r := ⟨_, rfl⟩
      obtain ⟨d, hd⟩ : ∃ d, j / 3 = d := ⟨_, rfl⟩
      simp only [hd] at h0 h1 h2 hg
      rw [hr] at hg
      have hr3 : r = 0 ∨ r = 1 ∨ r = 2 := by omega
      rcases hr3 with rfl | rfl | rfl
      · have e2 : off + j = off + d * 3 := by omega
        rw [e2, h0, hg]; rfl
      · have e2 : off + j = off + d * 3 + 1 := by omega
        rw [e2, h1, hg]; rfl
      · have e2 : off + j = off + d * 3 + 2 := by omega
        rw [e2, h2, hg]; rfl
    obtain ⟨v', w', h1, h2, h3, _, _⟩ := run_append_own_at (P := Try.prog) w w.heap.size 23 ty 65 i0 (.agg #[.int .i64 0, .int .i64 0, .int .i64 0]) 3 24 Try.underlying23 hi hz0 hz1 hz2 rfl (by decide) _ 0 _ (World.ownsRow_nil _ _ _ _) a xs.length cap (xs.flatMap workC) (workC_len xs) hnews (workC_one xs) (by unfold maxLen; omega) (by omega) (Nat.le_refl _)
    exact ⟨v', w', h1, by simpa using h2, Ext.grown (Ext.refl _) h3 (fun k e => by simp [Value.ownBlock] at e)⟩
theorem run_append_snocW (w : World) (base : Nat) (v : Value) (xs : List W.Work) (y : W.Work) (g : Nat) (ty : TypeId) (hv : w.ownsRow base 65 3 v xs.length (xs.flatMap workC)) (hg : Blk w g #[.int .i64 y.rise, .int .i64 y.calm, .int .i64 y.cost] 65) (hn : xs.length ≤ 1000000) (hb : base ≤ w.heap.size) :
    ∃ v' w', (Builtin.append_ #[23, 23] ty #[v, .slice (some ⟨g, 0, none⟩) 1 1]).run Try.prog w = .ok v' w' ∧ w'.ownsRow base 65 3 v' (xs.length + 1) ((xs ++ [y]).flatMap workC) ∧ w.grownBy w' v.ownBlock := by
  obtain ⟨i0, hi, hz0, hz1, hz2⟩ := info_parts work_info
  have hnews : ∀ j u, [Value.int .i64 y.rise, Value.int .i64 y.calm, Value.int .i64 y.cost][j]? = some u → w.cell? ((⟨g, 0, none⟩ : Addr).add j) = some u := by
    intro j u hu
    have hadd : (⟨g, 0, none⟩ : Addr).add j = ⟨g, j, none⟩ := by unfold Addr.add; split <;> simp_all
    rw [hadd, hg.cell]
    simpa using hu
  obtain ⟨v', w', h1, h2, h3, _, _⟩ := run_append_own_at (P := Try.prog) w base 23 ty 65 i0 (.agg #[.int .i64 0, .int .i64 0, .int .i64 0]) 3 24 Try.underlying23 hi hz0 hz1 hz2 rfl (by decide) v xs.length _ hv ⟨g, 0, none⟩ 1 1 _ rfl hnews (by intro u hu; simp at hu; rcases hu with rfl | rfl | rfl <;> rfl) (by unfold maxLen; omega) (by omega) hb
  refine ⟨v', w', h1, ?_, h3⟩
  have e : (xs ++ [y]).flatMap workC = xs.flatMap workC ++ [Value.int .i64 y.rise, Value.int .i64 y.calm, Value.int .i64 y.cost] := by simp [List.flatMap_append, workC]
  rw [e]; exact h2
theorem step_append_copyW (w : World) {ops : Array Oper} {o : Oper} {a : Act} {K : Act → World → Prop} {Q : Exit → Act → World → Prop} {E : Prop} (hgd : o.guard = none) (s x : Operand)
    (ho : o.op = .call { callee := .builtin .append, args := #[s, x], argTypes := #[23, 23] }) (v : Value) (xs : List W.Work) (hs : a.eval s = .slice none 0 0) (hx : a.eval x = v)
    (hv : Works w v xs) (hn : xs.length ≤ 1000000) (h : ∀ v' w', w'.ownsRow w.heap.size 65 3 v' xs.length (xs.flatMap workC) → Ext w w' → K (a.put o.dst v') w') :
    if Region.wanted o (yielded ops a.tmps) = true then Oper.wp Try.prog o a w K Q else E := by
  have hw : Region.wanted o (yielded ops a.tmps) = true := by simp [Region.wanted, hgd]
  rw [if_pos hw]
  obtain ⟨v', w', hr, h2, h3⟩ := run_append_copyW w v xs o.type hv hn
  unfold Oper.wp execOp
  simp only [ho, resolve, invoke, builtin, Sem.run_bind, Sem.run_pure, Result.andThen_ok, List.map_toArray, List.map_cons, List.map_nil, hs, hx, hr]
  exact h v' w' h2 h3
theorem step_append_snocW (w : World) {ops : Array Oper} {o : Oper} {a : Act} {K : Act → World → Prop} {Q : Exit → Act → World → Prop} {E : Prop} (hgd : o.guard = none) (s x : Operand)
    (ho : o.op = .call { callee := .builtin .append, args := #[s, x], argTypes := #[23, 23] }) (base : Nat) (v : Value) (xs : List W.Work) (y : W.Work) (g : Nat) (hs : a.eval s = v) (hx : a.eval x = .slice (some ⟨g, 0, none⟩) 1 1)
    (hv : w.ownsRow base 65 3 v xs.length (xs.flatMap workC)) (hg : Blk w g #[.int .i64 y.rise, .int .i64 y.calm, .int .i64 y.cost] 65) (hn : xs.length ≤ 1000000) (hb : base ≤ w.heap.size)
    (h : ∀ v' w', w'.ownsRow base 65 3 v' (xs.length + 1) ((xs ++ [y]).flatMap workC) → w.grownBy w' v.ownBlock → K (a.put o.dst v') w') :
    if Region.wanted o (yielded ops a.tmps) = true then Oper.wp Try.prog o a w K Q else E := by
  have hw : Region.wanted o (yielded ops a.tmps) = true := by simp [Region.wanted, hgd]
  rw [if_pos hw]
  obtain ⟨v', w', hr, h2, h3⟩ := run_append_snocW w base v xs y g o.type hv hg hn hb
  unfold Oper.wp execOp
  simp only [ho, resolve, invoke, builtin, Sem.run_bind, Sem.run_pure, Result.andThen_ok, List.map_toArray, List.map_cons, List.map_nil, hs, hx, hr]
  exact h v' w' h2 h3
/-- A copied list of ints with one number stored. -/
theorem own_store {w : World} {base g len cap : Nat} {xs : List Int} (h : w.ownsRow base 3 1 (.slice (some ⟨g, 0, none⟩) len cap) xs.length (xs.map (Value.int .i64))) (k : Nat) (hk : k < xs.length) (v : Int) :
    Ints (w.setCell ⟨g, k, none⟩ (.int .i64 v)) (.slice (some ⟨g, 0, none⟩) len cap) (xs.set k v) ∧ w.cell? ⟨g, k, none⟩ = some (.int .i64 xs[k]) ∧ w.frozen? ⟨g, k, none⟩ = false ∧ base ≤ g ∧ g < w.heap.size := by
  have hc := fun i (hi : i < xs.length) => own_cell h i (.int .i64 xs[i]) (by simp [hi])
  have hlen : len = xs.length := by obtain ⟨a', c', e⟩ := own_slice h; cases e; rfl
  have hlt := own_lt h
  have hbg := own_base h g rfl
  rcases h.2 with ⟨h0, _⟩ | ⟨g', cap', cur, hv, hb, hg, _⟩
  · cases h0
  · cases hv
    have hB : Blk w g _ 3 := hg
    refine ⟨⟨some ⟨g, 0, none⟩, cap, by rw [List.length_set, hlen], fun i hi => ⟨g, 0, rfl, by simpa [World.setCell] using hlt, ?_⟩⟩, hc k hk, hB.free k, hbg, hlt⟩
    have hi2 : i < xs.length := by simpa using hi
    rw [Nat.zero_add, (hB.set k (.int .i64 v)).cell, List.getElem_set]
    have hci := hc i hi2
    rw [hB.cell] at hci
    by_cases e : k = i
    · subst e
      rw [if_pos rfl]
      obtain ⟨hsz, _⟩ := Array.getElem?_eq_some_iff.1 hci
      simp [Array.getElem?_setIfInBounds, hsz]
    · rw [if_neg e, Array.getElem?_setIfInBounds, if_neg e]; exact hci
end Go.Proofs.Ytmlobiajimlboaa
