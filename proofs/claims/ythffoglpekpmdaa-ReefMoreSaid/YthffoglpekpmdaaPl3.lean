/- No fish is lost: what holds through the steps of a season. -/
import Derived.Test.YthffoglpekpmdaaPl2
namespace Go.Proofs.Ythffoglpekpmdaa.R
set_option linter.unusedVariables false
set_option linter.unusedSimpArgs false
theorem sum_set : ∀ (l : List Int) (i : Nat) (x : Int), i < l.length → (l.set i x).sum = l.sum - iat l i + x
  | a :: l, 0, x, _ => by simp [iat]; omega
  | a :: l, i + 1, x, h => by
    have := sum_set l i x (by simpa using h)
    simp [iat] at this ⊢; omega
theorem iat_set (l : List Int) (i j : Nat) (x : Int) (h : i < l.length) : iat (l.set i x) j = if i = j then x else iat l j := by
  unfold iat
  rw [List.getD_eq_getElem?_getD, List.getElem?_set]
  by_cases e : i = j
  · subst e; simp [h]
  · simp [e]
theorem iat_le_sum : ∀ (l : List Int) (i : Nat), (∀ j, 0 ≤ iat l j) → iat l i ≤ l.sum
  | [], i, _ => by simp [iat]
  | a :: l, 0, h => by
    have h2 : ∀ j, 0 ≤ iat l j := fun j => by simpa [iat] using h (j + 1)
    have h3 := sum_nn l h2
    simp [iat]; omega
  | a :: l, i + 1, h => by
    have h0 := h 0
    have h2 := iat_le_sum l i (fun j => by simpa [iat] using h (j + 1))
    simp [iat] at h0 h2 ⊢; omega
where
  sum_nn : ∀ (l : List Int), (∀ j, 0 ≤ iat l j) → 0 ≤ l.sum
    | [], _ => by simp
    | a :: l, h => by
      have h0 := h 0
      have := sum_nn l (fun j => by simpa [iat] using h (j + 1))
      simp [iat] at h0 ⊢; omega
theorem sum_nn (l : List Int) (h : ∀ j, 0 ≤ iat l j) : 0 ≤ l.sum := iat_le_sum.sum_nn l h
theorem iat_out (l : List Int) (i : Nat) (h : l.length ≤ i) : iat l i = 0 := by simp [iat, h]
theorem grown_bd {p : Place} {i n f g : Int} (O : OkP p i n) (hf : 0 ≤ f) (hg : 0 ≤ g) : 0 ≤ grown p f g ∧ grown p f g ≤ 1000000 := by
  have hm : 0 ≤ f * g := Int.mul_nonneg hf hg
  have := O.r0; have := O.r1
  unfold grown
  split
  · omega
  · split <;> omega
structure GInv (fish : List Int) (g0 : Int) (k : Nat) (st : St) : Prop where
  len : st.1.length = fish.length
  nn : ∀ i, 0 ≤ iat st.1 i
  sum : st.1.sum - st.2 = fish.sum - g0
  lo : g0 ≤ st.2
  hi : st.2 ≤ g0 + 1000000 * k
  old : ∀ i, k ≤ i → iat st.1 i = iat fish i
theorem growTo_inv {ps : List Place} {gs fish : List Int} {g0 n : Int} (hl : fish.length = ps.length) (hf : ∀ i, 0 ≤ iat fish i) (O : ∀ i, i < ps.length → OkP (pat ps i) i n) (hg : ∀ i, i < ps.length → 0 ≤ iat gs i) :
    ∀ k, k ≤ ps.length → GInv fish g0 k (growTo ps gs (fish, g0) k)
  | 0, _ => ⟨rfl, hf, rfl, Int.le_refl _, by show g0 ≤ _; omega, fun _ _ => rfl⟩
  | k + 1, hk => by
    have h := growTo_inv (g0 := g0) hl hf O hg k (by omega)
    obtain ⟨st, hst⟩ : ∃ st, growTo ps gs (fish, g0) k = st := ⟨_, rfl⟩
    rw [growTo_succ, hst]
    rw [hst] at h
    have hlt : k < st.1.length := by rw [h.len]; omega
    have hb := grown_bd (O k (by omega)) (h.nn k) (hg k (by omega))
    obtain ⟨x, hx⟩ : ∃ x, grown (pat ps k) (iat st.1 k) (iat gs k) = x := ⟨_, rfl⟩
    unfold growStep
    rw [hx] at hb ⊢
    have hs := h.sum
    have hlo := h.lo
    have hhi := h.hi
    have hnk := h.nn k
    refine ⟨by simp [h.len], fun i => ?_, ?_, ?_, ?_, fun i hi => ?_⟩
    · show 0 ≤ iat (st.1.set k _) i
      rw [iat_set _ _ _ _ hlt]
      split
      · omega
      · exact h.nn i
    · show (st.1.set k _).sum - (st.2 + x) = _
      rw [sum_set _ _ _ hlt]; omega
    · show g0 ≤ st.2 + x; omega
    · show st.2 + x ≤ _; omega
    · show iat (st.1.set k _) i = _
      rw [iat_set _ _ _ _ hlt, if_neg (by omega)]
      exact h.old i (by omega)
structure DInv (now : List Int) (g0 : Int) (k : Nat) (st : St) : Prop where
  len : st.1.length = now.length
  nn : ∀ i, 0 ≤ iat st.1 i
  sum : st.1.sum + st.2 = now.sum + g0
  lo : g0 ≤ st.2
  more : ∀ i, k ≤ i → iat now i ≤ iat st.1 i
theorem goes_bd {p : Place} {i n f : Int} (O : OkP p i n) (hf : 0 ≤ f) : 0 ≤ goes p f ∧ goes p f ≤ f := by
  unfold goes
  have h0 := O.d0
  have h1 := O.d1
  have a := Int.mul_nonneg hf h0
  have b := Int.mul_le_mul_of_nonneg_left h1 hf
  omega
theorem driftTo_inv {ps : List Place} {now : List Int} {g0 : Int} (hl : now.length = ps.length) (hf : ∀ i, 0 ≤ iat now i) (O : ∀ i, i < ps.length → OkP (pat ps i) i ps.length) :
    ∀ k, k ≤ ps.length → DInv now g0 k (driftTo ps now (now, g0) k)
  | 0, _ => ⟨rfl, hf, rfl, Int.le_refl _, fun _ _ => Int.le_refl _⟩
  | k + 1, hk => by
    have h := driftTo_inv (g0 := g0) hl hf O k (by omega)
    obtain ⟨st, hst⟩ : ∃ st, driftTo ps now (now, g0) k = st := ⟨_, rfl⟩
    rw [driftTo_succ, hst]
    rw [hst] at h
    have hlt : k < st.1.length := by rw [h.len]; omega
    have hO := O k (by omega)
    have hb := goes_bd hO (hf k)
    obtain ⟨x, hx⟩ : ∃ x, goes (pat ps k) (iat now k) = x := ⟨_, rfl⟩
    unfold driftStep
    rw [hx] at hb ⊢
    have hs := h.sum
    have hlo := h.lo
    have hnk := h.more k (Nat.le_refl _)
    have hfk := hf k
    dsimp only
    have hA : ∀ i, 0 ≤ iat (st.1.set k (iat st.1 k - x)) i := fun i => by
      rw [iat_set _ _ _ _ hlt]
      split
      · omega
      · exact h.nn i
    have hB : ∀ i, k + 1 ≤ i → iat now i ≤ iat (st.1.set k (iat st.1 k - x)) i := fun i hi => by
      rw [iat_set _ _ _ _ hlt, if_neg (by omega)]
      exact h.more i (by omega)
    have hS : (st.1.set k (iat st.1 k - x)).sum = st.1.sum - x := by rw [sum_set _ _ _ hlt]; omega
    split
    · rename_i hin
      have hi1 := hO.i1
      have hto : (pat ps k).into.toNat < (st.1.set k (iat st.1 k - x)).length := by rw [List.length_set, h.len]; omega
      refine ⟨by simp [h.len], fun i => ?_, ?_, hlo, fun i hi => ?_⟩
      · show 0 ≤ iat (List.set _ _ _) i
        rw [iat_set _ _ _ _ hto]
        split
        · have := hA (pat ps k).into.toNat; omega
        · exact hA i
      · show (List.set _ _ _).sum + st.2 = _
        rw [sum_set _ _ _ hto]; omega
      · show _ ≤ iat (List.set _ _ _) i
        rw [iat_set _ _ _ _ hto]
        have := hB i hi
        split
        · rename_i e; rw [e]; omega
        · exact this
    · exact ⟨by simp [h.len], hA, by show (List.set _ _ _).sum + (st.2 + x) = _; omega, by show g0 ≤ st.2 + x; omega, hB⟩
structure TInv (fish : List Int) (g0 : Int) (st : St) : Prop where
  len : st.1.length = fish.length
  nn : ∀ i, 0 ≤ iat st.1 i
  sum : st.1.sum + st.2 = fish.sum + g0
  lo : g0 ≤ st.2
theorem takeTo_inv {ks fish : List Int} {g0 : Int} (hf : ∀ i, 0 ≤ iat fish i) (hk0 : ∀ i, i < fish.length → 0 ≤ iat ks i) :
    ∀ k, k ≤ fish.length → TInv fish g0 (takeTo ks (fish, g0) k)
  | 0, _ => ⟨rfl, hf, rfl, Int.le_refl _⟩
  | k + 1, hk => by
    have h := takeTo_inv (g0 := g0) hf hk0 k (by omega)
    obtain ⟨st, hst⟩ : ∃ st, takeTo ks (fish, g0) k = st := ⟨_, rfl⟩
    rw [takeTo_succ, hst]
    rw [hst] at h
    have hlt : k < st.1.length := by rw [h.len]; omega
    have hb : 0 ≤ caught (iat st.1 k) (iat ks k) ∧ caught (iat st.1 k) (iat ks k) ≤ iat st.1 k := by
      have := h.nn k
      have := hk0 k (by omega)
      unfold caught; split <;> omega
    obtain ⟨x, hx⟩ : ∃ x, caught (iat st.1 k) (iat ks k) = x := ⟨_, rfl⟩
    unfold takeStep
    rw [hx] at hb ⊢
    have hs := h.sum
    have hlo := h.lo
    refine ⟨by simp [h.len], fun i => ?_, ?_, ?_⟩
    · show 0 ≤ iat (st.1.set k _) i
      rw [iat_set _ _ _ _ hlt]
      split
      · omega
      · exact h.nn i
    · show (st.1.set k _).sum + (st.2 + x) = _
      rw [sum_set _ _ _ hlt]; omega
    · show g0 ≤ st.2 + x; omega
/-- What holds after k seasons. -/
structure Fine (r : Reef) (t : Truth) (k : Nat) (x : State) : Prop where
  len : x.fish.length = r.places.length
  nn : ∀ i, 0 ≤ iat x.fish i
  sum : x.fish.sum + x.gone + x.taken = t.starts.sum + x.grown
  g0 : 0 ≤ x.gone
  t0 : 0 ≤ x.taken
  r0 : 0 ≤ x.grown
  r1 : x.grown ≤ 4000000 * k
theorem take_bd {p : Place} {i n : Int} (O : OkP p i n) (b : Bool) : 0 ≤ (take p b).1 ∧ (take p b).1 ≤ (take p b).2 ∧ (take p b).2 ≤ 1000000 := by
  have := O.o0; have := O.o1; have := O.o2; have := O.s0; have := O.s1; have := O.s2
  unfold take; split <;> (dsimp only; omega)
theorem fine_season {r : Reef} {plan : List Int} {t : Truth} {k : Nat} {x : State} (O : OkR r) (T : OkT r plan t) (hk : k < r.seasons.toNat) (h : Fine r t k x) : Fine r t (k + 1) (season r.places (lat t.grows k) (lat t.takes k) x) := by
  have hg := growTo_inv (ps := r.places) (gs := lat t.grows k) (fish := x.fish) (g0 := x.grown) h.len h.nn O.place (fun i hi => by have := (T.grow k hk i hi).1; have := (O.place i hi).g0; omega) r.places.length (Nat.le_refl _)
  obtain ⟨A, hA⟩ : ∃ A, growTo r.places (lat t.grows k) (x.fish, x.grown) r.places.length = A := ⟨_, rfl⟩
  have hd := driftTo_inv (ps := r.places) (now := A.1) (g0 := x.gone) (by rw [hA] at hg; rw [hg.len, h.len]) (by rw [hA] at hg; exact hg.nn) O.place r.places.length (Nat.le_refl _)
  obtain ⟨B, hB⟩ : ∃ B, driftTo r.places A.1 (A.1, x.gone) r.places.length = B := ⟨_, rfl⟩
  rw [hA] at hg
  rw [hB] at hd
  have hlB : B.1.length = r.places.length := by rw [hd.len, hg.len, h.len]
  have ht := takeTo_inv (ks := lat t.takes k) (fish := B.1) (g0 := x.taken) hd.nn (fun i hi => by have := (T.take k hk i (by omega)).1; have := (take_bd (O.place i (by omega)) (has (iat plan k) i)).1; omega) r.places.length (by omega)
  obtain ⟨C, hC⟩ : ∃ C, takeTo (lat t.takes k) (B.1, x.taken) r.places.length = C := ⟨_, rfl⟩
  rw [hC] at ht
  unfold season
  rw [hA]
  dsimp only
  rw [hB]
  rw [hC]
  have n4 := O.n4
  have := hg.sum; have := hg.lo; have := hg.hi
  have := hd.sum; have := hd.lo; have := ht.sum; have := ht.lo
  have := h.sum; have := h.g0; have := h.t0; have := h.r0; have := h.r1
  refine ⟨by rw [ht.len, hlB], ht.nn, ?_, ?_, ?_, ?_, ?_⟩ <;> (dsimp only; omega)
theorem starts_nn {r : Reef} {plan : List Int} {t : Truth} (O : OkR r) (T : OkT r plan t) : ∀ i, 0 ≤ iat t.starts i := fun i => by
  rcases Nat.lt_or_ge i r.places.length with h | h
  · have := (T.start i h).1; have := (O.place i h).c0; omega
  · rw [iat_out _ _ (by rw [T.ls]; exact h)]; omega
theorem fine_at {r : Reef} {plan : List Int} {t : Truth} (O : OkR r) (T : OkT r plan t) : ∀ k, k ≤ r.seasons.toNat → Fine r t k (stateAt r t k)
  | 0, _ => ⟨T.ls, starts_nn O T, by simp [stateAt], Int.le_refl _, Int.le_refl _, Int.le_refl _, by simp [stateAt]⟩
  | k + 1, hk => fine_season O T (by omega) (fine_at O T k (by omega))
theorem sum_le (l : List Int) (m : Int) (h : ∀ i, i < l.length → iat l i ≤ m) : l.sum ≤ m * l.length := by
  induction l with
  | nil => simp
  | cons a l ih =>
    have h0 := h 0 (by simp)
    have h1 := ih (fun i hi => by have := h (i + 1) (by simpa using hi); simpa [iat] using this)
    simp [iat] at h0
    rw [List.sum_cons, List.length_cons]
    push_cast
    rw [Int.mul_add]; omega
theorem starts_sum {r : Reef} {plan : List Int} {t : Truth} (O : OkR r) (T : OkT r plan t) : 0 ≤ t.starts.sum ∧ t.starts.sum ≤ 12000000 := by
  have hn := O.n4
  refine ⟨sum_nn _ (starts_nn O T), ?_⟩
  have h := sum_le t.starts 3000000 (fun i hi => by
    rw [T.ls] at hi
    have h1 := (T.start i hi).2
    have hO := O.place i hi
    have h2 := hO.c0; have h3 := hO.c1; have h4 := O.m0; have h5 := O.m1
    have h6 : (pat r.places i).count * r.miss ≤ 1000000 * 2000 := Int.mul_le_mul h3 h5 h4 (by omega)
    unfold most at h1
    omega)
  rw [T.ls] at h
  omega
theorem fine_bd {r : Reef} {plan : List Int} {t : Truth} (O : OkR r) (T : OkT r plan t) {k : Nat} {x : State} (hk : k ≤ 4) (h : Fine r t k x) : x.fish.sum ≤ 28000000 ∧ x.gone ≤ 28000000 ∧ x.taken ≤ 28000000 ∧ x.grown ≤ 16000000 ∧ ∀ i, iat x.fish i ≤ 28000000 := by
  have h1 := starts_sum O T
  have h2 := h.sum; have h3 := h.g0; have h4 := h.t0; have h5 := h.r0; have h6 := h.r1
  have h7 := sum_nn _ h.nn
  refine ⟨by omega, by omega, by omega, by omega, fun i => ?_⟩
  have := iat_le_sum x.fish i h.nn
  omega
end Go.Proofs.Ythffoglpekpmdaa.R
