/- The balance of energy: plain mathematics. -/
import Derived.Test.YtkjoojmlcjmlgaaEnc
namespace Go.Proofs.Ytkjoojmlcjmlgaa
set_option linter.unusedVariables false
set_option linter.unusedSimpArgs false
theorem pow_pos2 (k : Nat) : (0 : Int) < 2 ^ k := Int.pow_pos (by decide)
/-- Behind the loads k to n, the set's loads below k are as they were. -/
theorem has_add {y : Int} {j k : Nat} (h : j < k) : C.has (y + 2 ^ k) j = C.has y j := by
  unfold C.has
  have e : (2 : Int) ^ k = 2 ^ j * (2 * 2 ^ (k - j - 1)) := by
    rw [show (2 : Int) * 2 ^ (k - j - 1) = 2 ^ (k - j - 1 + 1) by rw [Int.pow_succ, Int.mul_comm], ← Int.pow_add]
    congr 1; omega
  have hp := pow_pos2 j
  rw [e, Int.add_mul_ediv_left _ _ (by omega), Int.add_mul_emod_self_left]
theorem has_small {y : Int} {k : Nat} (h0 : 0 ≤ y) (h1 : y < 2 ^ k) : C.has y k = false := by
  unfold C.has
  rw [Int.ediv_eq_zero_of_lt h0 h1]; rfl
theorem has_top {y : Int} {k : Nat} (h0 : 0 ≤ y) (h1 : y < 2 ^ k) : C.has (y + 2 ^ k) k = true := by
  unfold C.has
  have hp := pow_pos2 k
  have : (y + 2 ^ k) / 2 ^ k = 1 := by
    rw [show y + 2 ^ k = y + 1 * 2 ^ k by omega, Int.add_mul_ediv_right _ _ (by omega), Int.ediv_eq_zero_of_lt h0 h1]; rfl
  rw [this]; rfl
theorem loads_carried (off : Int) (ls : List C.Load) (e u : Int) : ∀ k, 0 ≤ (C.loadsTo off ls ⟨e, 0, u⟩ k).carried ∧ (C.loadsTo off ls ⟨e, 0, u⟩ k).carried < 2 ^ k
  | 0 => ⟨Int.le_refl _, (by decide : (0 : Int) < 2 ^ 0)⟩
  | k + 1 => by
    have h := loads_carried off ls e u k
    have hp := pow_pos2 k
    have hq : (2 : Int) ^ (k + 1) = 2 ^ k * 2 := Int.pow_succ _ _
    rw [C.loadsTo_succ]
    unfold C.loadStep
    split
    · dsimp only; omega
    · omega
/-- What the loads of a set need, of the first k. -/
def needs (ls : List C.Load) (x : Int) : Nat → Int
  | 0 => 0
  | k + 1 => needs ls x k + if C.has x k then (C.lat ls k).need else 0
theorem needs_congr (ls : List C.Load) {x y : Int} : ∀ k, (∀ j, j < k → C.has x j = C.has y j) → needs ls x k = needs ls y k
  | 0, _ => rfl
  | k + 1, h => by
    unfold needs
    rw [needs_congr ls k (fun j hj => h j (by omega)), h k (by omega)]
theorem needs_bd {ls : List C.Load} (hl : ∀ l ∈ ls, 0 ≤ l.need ∧ l.need ≤ 1000000) (x : Int) : ∀ k, k ≤ ls.length → 0 ≤ needs ls x k ∧ needs ls x k ≤ 1000000 * k
  | 0, _ => ⟨Int.le_refl _, Int.le_refl _⟩
  | k + 1, h => by
    have h1 := needs_bd hl x k (by omega)
    have h2 := hl _ (List.getElem_mem (show k < ls.length by omega))
    have e : C.lat ls k = ls[k] := by unfold C.lat; rw [List.getD_eq_getElem?_getD, List.getElem?_eq_getElem (by omega)]; rfl
    unfold needs
    rw [e]
    split <;> omega
theorem loads_used (off : Int) (ls : List C.Load) (e u : Int) : ∀ k,
    (C.loadsTo off ls ⟨e, 0, u⟩ k).used = u + needs ls (C.loadsTo off ls ⟨e, 0, u⟩ k).carried k ∧ (C.loadsTo off ls ⟨e, 0, u⟩ k).e + (C.loadsTo off ls ⟨e, 0, u⟩ k).used = e + u ∧ ∀ j, j < k → C.has (C.loadsTo off ls ⟨e, 0, u⟩ k).carried j = true → C.has off j = false
  | 0 => ⟨(Int.add_zero u).symm, rfl, fun j hj => by omega⟩
  | k + 1 => by
    obtain ⟨h1, h2, h3⟩ := loads_used off ls e u k
    obtain ⟨h4, h5⟩ := loads_carried off ls e u k
    rw [C.loadsTo_succ]
    unfold C.loadStep
    split
    · rename_i hc
      dsimp only
      refine ⟨?_, by omega, fun j hj hh => ?_⟩
      · unfold needs
        rw [has_top h4 h5, if_pos rfl, needs_congr ls k (fun j hj => has_add hj), h1]
        omega
      · by_cases hjk : j = k
        · subst hjk; exact hc.1
        · rw [has_add (by omega)] at hh
          exact h3 j (by omega) hh
    · refine ⟨?_, h2, fun j hj hh => ?_⟩
      · unfold needs
        rw [has_small h4 h5]
        simp only [Bool.false_eq_true, if_false]
        omega
      · by_cases hjk : j = k
        · subst hjk
          rw [has_small h4 h5] at hh; cases hh
        · exact h3 j (by omega) hh
theorem day_used (c : C.Sys) (p b off : Int) (x : UInt8) (s : C.St) :
    (C.daySt c p b off x s).used = s.used + needs c.loads (C.daySt c p b off x s).carried c.loads.length ∧
    (∀ j, j < c.loads.length → C.has (C.daySt c p b off x s).carried j = true → C.has off j = false) ∧
    (C.daySt c p b off x s).sun = s.sun + C.gives c p x ∧
    (C.daySt c p b off x s).e + (C.daySt c p b off x s).used + (C.daySt c p b off x s).lost + (C.daySt c p b off x s).faded + s.sun = s.e + s.used + s.lost + s.faded + (C.daySt c p b off x s).sun := by
  obtain ⟨h1, h2, h3⟩ := loads_used off c.loads (C.sunSt c p b x s).e (C.sunSt c p b x s).used c.loads.length
  refine ⟨h1, h3, rfl, ?_⟩
  unfold C.daySt C.fadeSt
  dsimp only
  have e1 : (C.loadsSt c off (C.sunSt c p b x s)).sun = s.sun + C.gives c p x := rfl
  have e2 : (C.loadsSt c off (C.sunSt c p b x s)).lost = s.lost + (s.e + C.gives c p x) - C.full c b (s.e + C.gives c p x) := rfl
  have e3 : (C.loadsSt c off (C.sunSt c p b x s)).faded = s.faded := rfl
  have e4 : (C.loadsSt c off (C.sunSt c p b x s)).e + (C.loadsSt c off (C.sunSt c p b x s)).used = (C.sunSt c p b x s).e + (C.sunSt c p b x s).used := h2
  have e5 : (C.sunSt c p b x s).e = C.full c b (s.e + C.gives c p x) := rfl
  have e6 : (C.sunSt c p b x s).used = s.used := rfl
  omega
theorem balance (c : C.Sys) (p b off : Int) (w : C.Txt) : ∀ k, (C.stateAt c p b off w k).e + (C.stateAt c p b off w k).used + (C.stateAt c p b off w k).lost + (C.stateAt c p b off w k).faded = C.start c b + (C.stateAt c p b off w k).sun
  | 0 => by show C.start c b + 0 + 0 + 0 = C.start c b + 0; omega
  | k + 1 => by
    have h1 := balance c p b off w k
    have h2 := (day_used c p b off (w.getD k 0) (C.stateAt c p b off w k)).2.2.2
    unfold C.stateAt
    omega
/-- What panels give in the first k days. -/
theorem sun_step (c : C.Sys) (p b off : Int) (w : C.Txt) (k : Nat) : (C.stateAt c p b off w (k + 1)).sun = (C.stateAt c p b off w k).sun + C.gives c p (w.getD k 0) := rfl
theorem used_step (c : C.Sys) (p b off : Int) (w : C.Txt) (k : Nat) : (C.stateAt c p b off w (k + 1)).used = (C.stateAt c p b off w k).used + needs c.loads (C.stateAt c p b off w (k + 1)).carried c.loads.length :=
  (day_used c p b off (w.getD k 0) (C.stateAt c p b off w k)).1
theorem off_step (c : C.Sys) (p b off : Int) (w : C.Txt) (k : Nat) : ∀ j, j < c.loads.length → C.has (C.stateAt c p b off w (k + 1)).carried j = true → C.has off j = false :=
  (day_used c p b off (w.getD k 0) (C.stateAt c p b off w k)).2.1
end Go.Proofs.Ytkjoojmlcjmlgaa
