/- append([]int{x}, xs...) in a statement whose order Go leaves open. -/
import Derived.Test.YtmlobiajimlboaaIB
import Derived.Deep.AppendSrc
import Derived.Deep.AppendLies
namespace Go.Proofs.Ytmlobiajimlboaa
set_option linter.unusedVariables false
set_option linter.unusedSimpArgs false
open Go.RowKit
theorem far_cell {w w' : World} {g : Nat} (hg : w.grownBy w' (some g)) : ∀ c o, c < w.heap.size → c ≠ g → w'.cell? ⟨c, o, none⟩ = w.cell? ⟨c, o, none⟩ :=
  fun c o h1 h2 => hg.cell_far ⟨c, o, none⟩ h1 (by simpa using h2)
theorem far_frozen {w w' : World} {g : Nat} (hg : w.grownBy w' (some g)) : ∀ c o, c < w.heap.size → c ≠ g → w'.frozen? ⟨c, o, none⟩ = w.frozen? ⟨c, o, none⟩ :=
  fun c o h1 h2 => hg.frozen_far ⟨c, o, none⟩ h1 (by simpa using h2)
theorem Blk.far {w w' : World} {b g : Nat} {cs : Array Value} {e : TypeId} (h : Blk w b cs e) (hg : w.grownBy w' (some g)) (hne : b ≠ g) : Blk w' b cs e :=
  (hg.block b h.lt (by simpa using hne)).trans h
theorem run_append_fresh (w : World) (g : Nat) (q : Int) (v : Value) (xs : List Int) (ty : TypeId) (hg : Blk w g #[.int .i64 q] 3) (hv : Ints w v xs) (hn : xs.length ≤ 1000000) :
    ∃ v' w', (Builtin.append_ #[30, 30] ty #[.slice (some ⟨g, 0, none⟩) 1 1, v]).run Try.prog w = .ok v' w' ∧ IntsB w' v' (q :: xs) ∧ w.grownBy w' (some g) := by
  obtain ⟨i0, hi, hz0, hz1, hz2⟩ := info_parts int_info
  have hgo : w.ownsRow g 3 1 (.slice (some ⟨g, 0, none⟩) 1 1) 1 [.int .i64 q] := ⟨rfl, .inr ⟨g, 1, _, rfl, Nat.le_refl _, hg, Nat.le_refl _, by unfold maxLen; omega, rfl, rfl⟩⟩
  obtain ⟨a, cap, rfl, hx⟩ := hv
  cases a with
  | none =>
    have e : xs = [] := by
      cases xs with
      | nil => rfl
      | cons x xs => obtain ⟨b, off, h, _⟩ := hx 0 (by simp); cases h
    subst e
    have := run_append_room_src (P := Try.prog) w 30 30 ty 3 i0 Try.underlying30 hi g 0 1 1 (.slice none 0 cap) 0 [] (Src.ofNil w Try.underlying30 cap) (by omega) (by simp) (by simp)
    refine ⟨_, _, this, ?_, ?_⟩
    · exact IntsB.of_own (w := w) (base := g) hgo
    · exact World.grownBy.refl w _
  | some a =>
    have hnews : ∀ j u, (xs.map (Value.int .i64))[j]? = some u → w.cell? (a.add j) = some u := by
      intro j u hu
      rw [List.getElem?_map] at hu
      cases h : xs[j]? with
      | none => rw [h] at hu; cases hu
      | some x =>
        rw [h] at hu
        obtain rfl := Option.some.inj hu
        obtain ⟨hj, rfl⟩ := List.getElem?_eq_some_iff.1 h
        obtain ⟨b, off, e, hb, hc⟩ := hx j hj
        cases e
        have hadd : (⟨b, off, none⟩ : Addr).add j = ⟨b, off + j, none⟩ := by unfold Addr.add; split <;> simp_all
        rw [hadd]; exact hc
    obtain ⟨v', w', h1, h2, h3, _, _⟩ := run_append_own_at (P := Try.prog) w g 30 ty 3 i0 (.int .i64 0) 1 8 Try.underlying30 hi hz0 hz1 hz2 rfl (by decide) _ 1 _ hgo a xs.length cap (xs.map (Value.int .i64)) (by simp) hnews (by intro u hu; obtain ⟨x, _, rfl⟩ := List.mem_map.1 hu; rfl) (by unfold maxLen; omega) (by omega) (Nat.le_of_lt hg.lt)
    refine ⟨v', w', h1, ?_, h3⟩
    refine IntsB.of_own (base := g) ?_
    have e : (q :: xs).length = 1 + xs.length := by simp; omega
    rw [e]; exact h2
theorem step_append_fresh (w : World) {ops : Array Oper} {o : Oper} {a : Act} {K : Act → World → Prop} {Q : Exit → Act → World → Prop} {E : Prop} (hgd : o.guard = none) (s x : Operand)
    (ho : o.op = .call { callee := .builtin .append, args := #[s, x], argTypes := #[30, 30] }) (g : Nat) (q : Int) (v : Value) (xs : List Int) (hs : a.eval s = .slice (some ⟨g, 0, none⟩) 1 1) (hx : a.eval x = v)
    (hg : Blk w g #[.int .i64 q] 3) (hv : Ints w v xs) (hn : xs.length ≤ 1000000) (h : ∀ v' w', IntsB w' v' (q :: xs) → w.grownBy w' (some g) → K (a.put o.dst v') w') :
    if Region.wanted o (yielded ops a.tmps) = true then Oper.wp Try.prog o a w K Q else E := by
  have hw : Region.wanted o (yielded ops a.tmps) = true := by simp [Region.wanted, hgd]
  rw [if_pos hw]
  obtain ⟨v', w', hr, h2, h3⟩ := run_append_fresh w g q v xs o.type hg hv hn
  unfold Oper.wp execOp
  simp only [ho, resolve, invoke, builtin, Sem.run_bind, Sem.run_pure, Result.andThen_ok, List.map_toArray, List.map_cons, List.map_nil, hs, hx, hr]
  exact h v' w' h2 h3
end Go.Proofs.Ytmlobiajimlboaa
