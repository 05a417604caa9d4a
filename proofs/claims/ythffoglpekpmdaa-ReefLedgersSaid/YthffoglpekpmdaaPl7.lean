/- The ledger: what is taken, what is gone. -/
import Derived.Test.YthffoglpekpmdaaPl5
namespace Go.Proofs.Ythffoglpekpmdaa.R
set_option linter.unusedVariables false
set_option linter.unusedSimpArgs false
theorem sum_range_succ (f : Nat → Int) (n : Nat) : ((List.range (n + 1)).map f).sum = ((List.range n).map f).sum + f n := by
  rw [List.range_succ, List.map_append, List.sum_append]; simp
theorem sum_range_add (f g : Nat → Int) (n : Nat) : ((List.range n).map fun i => f i + g i).sum = ((List.range n).map f).sum + ((List.range n).map g).sum := by
  induction n with
  | zero => simp
  | succ n ih => rw [sum_range_succ, sum_range_succ, sum_range_succ, ih]; omega
theorem sum_range_bd (f : Nat → Int) (m : Int) (n : Nat) (h : ∀ i, i < n → 0 ≤ f i ∧ f i ≤ m) : 0 ≤ ((List.range n).map f).sum ∧ ((List.range n).map f).sum ≤ m * n := by
  induction n with
  | zero => simp
  | succ n ih =>
    rw [sum_range_succ]
    have h1 := ih (fun i hi => h i (by omega))
    have h2 := h n (by omega)
    push_cast
    rw [Int.mul_add]
    omega
/-- Some place of the first k drifts out. -/
def outTo (r : Reef) (k : Nat) : Bool := (List.range k).any fun i => decide ((pat r.places i).into < 0) && decide (0 < (pat r.places i).drift)
theorem outTo_succ (r : Reef) (k : Nat) : outTo r (k + 1) = (outTo r k || (decide ((pat r.places k).into < 0) && decide (0 < (pat r.places k).drift))) := by
  unfold outTo; rw [List.range_succ, List.any_append]; simp
theorem driftTo_gone {ps : List Place} {now : List Int} (st : St) (hd : ∀ i, i < ps.length → ¬ ((pat ps i).into < 0 ∧ 0 < (pat ps i).drift)) (h0 : ∀ i, i < ps.length → 0 ≤ (pat ps i).drift) :
    ∀ k, k ≤ ps.length → (driftTo ps now st k).2 = st.2
  | 0, _ => rfl
  | k + 1, hk => by
    have h := driftTo_gone (now := now) st hd h0 k (by omega)
    rw [driftTo_succ]
    unfold driftStep
    dsimp only
    split
    · exact h
    · rename_i hn
      have h1 := hd k (by omega)
      have h2 := h0 k (by omega)
      have h3 : (pat ps k).drift = 0 := by
        rcases Int.lt_or_le 0 (pat ps k).drift with e | e
        · exact absurd ⟨by omega, e⟩ h1
        · omega
      show _ + goes _ _ = _
      unfold goes
      rw [h3, h]; simp
theorem takeTo_taken {ks : List Int} (st : St) : ∀ k, (takeTo ks st k).2 ≤ st.2 + ((List.range k).map (iat ks)).sum
  | 0 => by simp [takeTo]
  | k + 1 => by
    have h := takeTo_taken (ks := ks) st k
    rw [takeTo_succ, sum_range_succ]
    unfold takeStep
    show (takeTo ks st k).2 + caught _ _ ≤ _
    have : ∀ f g : Int, caught f g ≤ g := fun f g => by unfold caught; split <;> omega
    have := this (iat (takeTo ks st k).1 k) (iat ks k)
    omega
def colTo (t : Truth) (j i : Nat) : Int := ((List.range j).map fun s => iat (lat t.takes s) i).sum
/-- What people would take of the first k places, and of the next one in the first j seasons. -/
def wantTo (t : Truth) (S k j : Nat) : Int := ((List.range k).map (colTo t S)).sum + colTo t j k
theorem wantTo_zero (t : Truth) (S : Nat) : wantTo t S 0 0 = 0 := rfl
theorem wantTo_succ (t : Truth) (S k j : Nat) : wantTo t S k (j + 1) = wantTo t S k j + iat (lat t.takes j) k := by
  unfold wantTo colTo; rw [sum_range_succ]; omega
theorem wantTo_next (t : Truth) (S k : Nat) : wantTo t S k S = wantTo t S (k + 1) 0 := by
  unfold wantTo; rw [sum_range_succ]; simp [colTo]
theorem want_all (t : Truth) (n : Nat) : ∀ S, ((List.range n).map (colTo t S)).sum = ((List.range S).map fun s => ((List.range n).map (iat (lat t.takes s))).sum).sum
  | 0 => by
    show ((List.range n).map fun _ => (0 : Int)).sum = 0
    induction n with
    | zero => rfl
    | succ n ih => rw [sum_range_succ, ih]; rfl
  | S + 1 => by
    rw [sum_range_succ, ← want_all t n S]
    rw [← sum_range_add]
    congr 1
    apply List.map_congr_left
    intro i _
    unfold colTo
    rw [sum_range_succ]
theorem taken_at (r : Reef) (t : Truth) : ∀ k, (stateAt r t k).taken ≤ ((List.range k).map fun s => ((List.range r.places.length).map (iat (lat t.takes s))).sum).sum
  | 0 => by simp [stateAt]
  | k + 1 => by
    rw [sum_range_succ]
    have h := taken_at r t k
    unfold stateAt season
    dsimp only
    have h2 := takeTo_taken (ks := lat t.takes k) ((driftTo r.places (growTo r.places (lat t.grows k) ((stateAt r t k).fish, (stateAt r t k).grown) r.places.length).1 ((growTo r.places (lat t.grows k) ((stateAt r t k).fish, (stateAt r t k).grown) r.places.length).1, (stateAt r t k).gone) r.places.length).1, (stateAt r t k).taken) r.places.length
    dsimp only at h2
    omega
theorem gone_at {r : Reef} (O : OkR r) (t : Truth) (hd : outTo r r.places.length = false) : ∀ k, (stateAt r t k).gone = 0
  | 0 => rfl
  | k + 1 => by
    have h := gone_at O t hd k
    unfold stateAt season
    dsimp only
    rw [driftTo_gone _ (fun i hi hb => ?_) (fun i hi => (O.place i hi).d0) _ (Nat.le_refl _)]
    · exact h
    · unfold outTo at hd
      rw [List.any_eq_false] at hd
      exact hd i (by simpa using hi) (by rw [decide_eq_true hb.1, decide_eq_true hb.2]; rfl)
structure LedgerFacts (r : Reef) (t : Truth) (l : Ledger) : Prop where
  start : l.start = t.starts.sum
  left : l.left = (endOf r t).fish.sum
  t0 : 0 ≤ l.taken
  t1 : l.taken ≤ wantTo t r.seasons.toNat r.places.length 0
  g0 : 0 ≤ l.gone
  g1 : 0 < l.gone → outTo r r.places.length = true
  r0 : 0 ≤ l.grown
  r1 : l.grown ≤ 16000000
  g2 : l.gone ≤ l.start + l.grown
  sum : l.start + l.grown = l.taken + l.gone + l.left
theorem ledger_facts {r : Reef} {plan : List Int} {t : Truth} (O : OkR r) (T : OkT r plan t) : LedgerFacts r t (ledger r t) := by
  have F := fine_at O T r.seasons.toNat (Nat.le_refl _)
  have B := fine_bd O T (by have := O.s4; omega) F
  have hs := F.sum; have h0 := F.g0; have h1 := F.t0; have h2 := F.r0
  have hnn := sum_nn _ F.nn
  have ht := taken_at r t r.seasons.toNat
  rw [← want_all] at ht
  have hw : wantTo t r.seasons.toNat r.places.length 0 = ((List.range r.places.length).map (colTo t r.seasons.toNat)).sum := by unfold wantTo; simp [colTo]
  refine ⟨rfl, rfl, h1, by rw [hw]; exact ht, h0, fun hg => ?_, h2, B.2.2.2.1, ?_, ?_⟩
  · cases ho : outTo r r.places.length with
    | true => rfl
    | false =>
      have : (stateAt r t r.seasons.toNat).gone = 0 := gone_at O t ho _
      have hg' : 0 < (stateAt r t r.seasons.toNat).gone := hg
      omega
  · show (stateAt r t r.seasons.toNat).gone ≤ t.starts.sum + (stateAt r t r.seasons.toNat).grown
    omega
  · show t.starts.sum + (stateAt r t r.seasons.toNat).grown = (stateAt r t r.seasons.toNat).taken + (stateAt r t r.seasons.toNat).gone + (stateAt r t r.seasons.toNat).fish.sum
    omega
end Go.Proofs.Ythffoglpekpmdaa.R
