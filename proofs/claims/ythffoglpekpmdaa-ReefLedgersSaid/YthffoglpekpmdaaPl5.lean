/- More fish, faster growth and fewer takes never leave fewer fish. -/
import Derived.Test.YthffoglpekpmdaaPl4
namespace Go.Proofs.Ythffoglpekpmdaa.R
set_option linter.unusedVariables false
set_option linter.unusedSimpArgs false
/-- Nowhere fewer. -/
def Le (a b : List Int) : Prop := ∀ i, iat a i ≤ iat b i
/-- The places have the same room, drift the same. -/
structure Like (ps qs : List Place) : Prop where
  len : ps.length = qs.length
  room : ∀ i, (pat ps i).room = (pat qs i).room
  drift : ∀ i, (pat ps i).drift = (pat qs i).drift
  into : ∀ i, (pat ps i).into = (pat qs i).into
theorem Like.refl (ps : List Place) : Like ps ps := ⟨rfl, fun _ => rfl, fun _ => rfl, fun _ => rfl⟩
theorem grown_mono {p q : Place} {f f' g g' : Int} (hr : p.room = q.room) (h0 : 0 ≤ f) (hf : f ≤ f') (hg0 : 0 ≤ g) (hg : g ≤ g') : f + grown p f g ≤ f' + grown q f' g' := by
  have h1 : f * g ≤ f' * g' := Int.mul_le_mul hf hg hg0 (by omega)
  have h2 : f * g / 1000 ≤ f' * g' / 1000 := Int.ediv_le_ediv (by omega) h1
  have h3 : 0 ≤ f' * g' := Int.mul_nonneg (by omega) (by omega)
  have h4 : 0 ≤ f' * g' / 1000 := by omega
  obtain ⟨a, ha⟩ : ∃ a, f * g / 1000 = a := ⟨_, rfl⟩
  obtain ⟨b, hb⟩ : ∃ b, f' * g' / 1000 = b := ⟨_, rfl⟩
  unfold grown
  rw [ha, hb, hr]
  rw [ha, hb] at h2
  rw [hb] at h4
  split <;> split <;> (try split) <;> (try split) <;> omega
theorem growTo_at {ps : List Place} {gs : List Int} (fish : List Int) (g0 : Int) (hl : fish.length = ps.length) :
    ∀ k, k ≤ ps.length → (growTo ps gs (fish, g0) k).1.length = fish.length ∧ ∀ i, iat (growTo ps gs (fish, g0) k).1 i = if i < k then iat fish i + grown (pat ps i) (iat fish i) (iat gs i) else iat fish i
  | 0, _ => ⟨rfl, fun i => by simp [growTo]⟩
  | k + 1, hk => by
    obtain ⟨h1, h2⟩ := growTo_at (gs := gs) fish g0 hl k (by omega)
    obtain ⟨st, hst⟩ : ∃ st, growTo ps gs (fish, g0) k = st := ⟨_, rfl⟩
    rw [growTo_succ, hst]
    rw [hst] at h1 h2
    unfold growStep
    refine ⟨by simp [h1], fun i => ?_⟩
    show iat (st.1.set k _) i = _
    have hq := h2 k
    rw [if_neg (by omega)] at hq
    rw [iat_set _ _ _ _ (by omega), hq, h2 i]
    by_cases e : k = i
    · subst e; rw [if_pos rfl, if_pos (by omega)]
    · rw [if_neg e]
      by_cases e2 : i < k
      · rw [if_pos e2, if_pos (by omega)]
      · rw [if_neg e2, if_neg (by omega)]
/-- What drifts from the first k places to place i. -/
def inflow (ps : List Place) (now : List Int) (i : Nat) : Nat → Int
  | 0 => 0
  | k + 1 => inflow ps now i k + if 0 ≤ (pat ps k).into ∧ (pat ps k).into.toNat = i then goes (pat ps k) (iat now k) else 0
theorem inflow_succ (ps : List Place) (now : List Int) (i k : Nat) : inflow ps now i (k + 1) = inflow ps now i k + if 0 ≤ (pat ps k).into ∧ (pat ps k).into.toNat = i then goes (pat ps k) (iat now k) else 0 := rfl
theorem driftTo_at {ps : List Place} {now : List Int} (g0 : Int) (hl : now.length = ps.length) (O : ∀ i, i < ps.length → OkP (pat ps i) i ps.length) :
    ∀ k, k ≤ ps.length → (driftTo ps now (now, g0) k).1.length = now.length ∧ ∀ i, iat (driftTo ps now (now, g0) k).1 i = iat now i - (if i < k then goes (pat ps i) (iat now i) else 0) + inflow ps now i k
  | 0, _ => ⟨rfl, fun i => by simp [driftTo, inflow]⟩
  | k + 1, hk => by
    obtain ⟨h1, h2⟩ := driftTo_at g0 hl O k (by omega)
    obtain ⟨st, hst⟩ : ∃ st, driftTo ps now (now, g0) k = st := ⟨_, rfl⟩
    rw [driftTo_succ, hst]
    rw [hst] at h1 h2
    have hi1 := (O k (by omega)).i1
    obtain ⟨x, hx⟩ : ∃ x, goes (pat ps k) (iat now k) = x := ⟨_, rfl⟩
    have hf : ∀ i, iat (st.1.set k (iat st.1 k - x)) i = iat now i - (if i < k + 1 then goes (pat ps i) (iat now i) else 0) + inflow ps now i k := fun i => by
      have hq := h2 k
      rw [if_neg (by omega)] at hq
      rw [iat_set _ _ _ _ (by omega), hq, h2 i]
      by_cases e : k = i
      · subst e; rw [if_pos rfl, if_pos (by omega), hx]; omega
      · rw [if_neg e]
        by_cases e2 : i < k
        · rw [if_pos e2, if_pos (by omega)]
        · rw [if_neg e2, if_neg (by omega)]
    unfold driftStep
    rw [hx]
    dsimp only
    by_cases hin : 0 ≤ (pat ps k).into
    · rw [if_pos hin]
      refine ⟨by simp [h1], fun i => ?_⟩
      show iat (List.set _ _ _) i = _
      rw [iat_set _ _ _ _ (by rw [List.length_set]; omega), hf, hf]
      rw [inflow_succ, hx]
      by_cases e : (pat ps k).into.toNat = i
      · have e2 : 0 ≤ (pat ps k).into ∧ (pat ps k).into.toNat = i := ⟨hin, e⟩
        rw [if_pos e, if_pos e2, e]; omega
      · have e2 : ¬ (0 ≤ (pat ps k).into ∧ (pat ps k).into.toNat = i) := fun h => e h.2
        rw [if_neg e, if_neg e2]; omega
    · rw [if_neg hin]
      refine ⟨by simp [h1], fun i => ?_⟩
      show iat (List.set _ _ _) i = _
      rw [hf]
      have e2 : ¬ (0 ≤ (pat ps k).into ∧ (pat ps k).into.toNat = i) := fun h => hin h.1
      rw [inflow_succ, if_neg e2]; omega
theorem goes_mono {p q : Place} {i n f f' : Int} (hd : p.drift = q.drift) (O : OkP p i n) (hf : f ≤ f') : goes p f ≤ goes q f' ∧ f - goes p f ≤ f' - goes q f' := by
  unfold goes
  rw [← hd]
  have h0 := O.d0
  have h1 := O.d1
  have a := Int.mul_le_mul_of_nonneg_right hf h0
  have b : (f' - f) * p.drift ≤ (f' - f) * 1000 := Int.mul_le_mul_of_nonneg_left h1 (by omega)
  rw [Int.sub_mul, Int.sub_mul] at b
  omega
theorem inflow_mono {ps qs : List Place} {a b : List Int} (K : Like ps qs) (O : ∀ i, i < ps.length → OkP (pat ps i) i ps.length) (h : Le a b) (i : Nat) : ∀ k, k ≤ ps.length → inflow ps a i k ≤ inflow qs b i k
  | 0, _ => Int.le_refl _
  | k + 1, hk => by
    have h1 := inflow_mono K O h i k (by omega)
    have h2 := (goes_mono (K.drift k) (O k (by omega)) (h k)).1
    rw [inflow_succ, inflow_succ, ← K.into k]
    split <;> omega
theorem takeTo_at {ks : List Int} (fish : List Int) (g0 : Int) :
    ∀ k, k ≤ fish.length → (takeTo ks (fish, g0) k).1.length = fish.length ∧ ∀ i, iat (takeTo ks (fish, g0) k).1 i = if i < k then iat fish i - caught (iat fish i) (iat ks i) else iat fish i
  | 0, _ => ⟨rfl, fun i => by simp [takeTo]⟩
  | k + 1, hk => by
    obtain ⟨h1, h2⟩ := takeTo_at (ks := ks) fish g0 k (by omega)
    obtain ⟨st, hst⟩ : ∃ st, takeTo ks (fish, g0) k = st := ⟨_, rfl⟩
    rw [takeTo_succ, hst]
    rw [hst] at h1 h2
    unfold takeStep
    refine ⟨by simp [h1], fun i => ?_⟩
    show iat (st.1.set k _) i = _
    have hq := h2 k
    rw [if_neg (by omega)] at hq
    rw [iat_set _ _ _ _ (by omega), hq, h2 i]
    by_cases e : k = i
    · subst e; rw [if_pos rfl, if_pos (by omega)]
    · rw [if_neg e]
      by_cases e2 : i < k
      · rw [if_pos e2, if_pos (by omega)]
      · rw [if_neg e2, if_neg (by omega)]
theorem season_mono {ps qs : List Place} {gs gs' ks ks' : List Int} {x y : State} (K : Like ps qs) (O : ∀ i, i < ps.length → OkP (pat ps i) i ps.length) (O' : ∀ i, i < qs.length → OkP (pat qs i) i qs.length)
    (lx : x.fish.length = ps.length) (ly : y.fish.length = ps.length) (h0 : ∀ i, 0 ≤ iat x.fish i) (h : Le x.fish y.fish) (hg0 : ∀ i, i < ps.length → 0 ≤ iat gs i) (hg : ∀ i, i < ps.length → iat gs i ≤ iat gs' i) (hk : ∀ i, i < ps.length → iat ks' i ≤ iat ks i) :
    Le (season ps gs ks x).fish (season qs gs' ks' y).fish := by
  have hlen := K.len
  obtain ⟨a1, a2⟩ := growTo_at (ps := ps) (gs := gs) x.fish x.grown lx ps.length (Nat.le_refl _)
  obtain ⟨b1, b2⟩ := growTo_at (ps := qs) (gs := gs') y.fish y.grown (by rw [ly, K.len]) qs.length (Nat.le_refl _)
  obtain ⟨A, hA⟩ : ∃ A, growTo ps gs (x.fish, x.grown) ps.length = A := ⟨_, rfl⟩
  obtain ⟨B, hB⟩ : ∃ B, growTo qs gs' (y.fish, y.grown) qs.length = B := ⟨_, rfl⟩
  rw [hA] at a1 a2
  rw [hB] at b1 b2
  have hAB : Le A.1 B.1 := fun i => by
    rw [a2, b2, ← K.len]
    by_cases e : i < ps.length
    · rw [if_pos e, if_pos e]
      exact grown_mono (K.room i) (h0 i) (h i) (hg0 i e) (hg i e)
    · rw [if_neg e, if_neg e]; exact h i
  obtain ⟨c1, c2⟩ := driftTo_at (ps := ps) (now := A.1) x.gone (by omega) O ps.length (Nat.le_refl _)
  obtain ⟨d1, d2⟩ := driftTo_at (ps := qs) (now := B.1) y.gone (by have := K.len; omega) O' qs.length (Nat.le_refl _)
  obtain ⟨C, hC⟩ : ∃ C, driftTo ps A.1 (A.1, x.gone) ps.length = C := ⟨_, rfl⟩
  obtain ⟨D, hD⟩ : ∃ D, driftTo qs B.1 (B.1, y.gone) qs.length = D := ⟨_, rfl⟩
  rw [hC] at c1 c2
  rw [hD] at d1 d2
  have hCD : Le C.1 D.1 := fun i => by
    rw [c2, d2, ← K.len]
    have h1 := inflow_mono K O hAB i ps.length (Nat.le_refl _)
    have h2 := hAB i
    by_cases e : i < ps.length
    · rw [if_pos e, if_pos e]
      have := (goes_mono (K.drift i) (O i e) h2).2
      omega
    · rw [if_neg e, if_neg e]; omega
  obtain ⟨e1, e2⟩ := takeTo_at (ks := ks) C.1 x.taken ps.length (by omega)
  obtain ⟨f1, f2⟩ := takeTo_at (ks := ks') D.1 y.taken qs.length (by omega)
  unfold season
  rw [hA, hB]
  dsimp only
  rw [hC, hD]
  intro i
  rw [e2, f2, ← K.len]
  have h2 := hCD i
  by_cases e : i < ps.length
  · rw [if_pos e, if_pos e]
    have := hk i e
    unfold caught
    split <;> split <;> omega
  · rw [if_neg e, if_neg e]; exact h2
/-- Two truths of like reefs: one never leaves fewer fish. -/
theorem states_mono {r q : Reef} {plan plan' : List Int} {t u : Truth} (O : OkR r) (O' : OkR q) (K : Like r.places q.places) (hs : r.seasons = q.seasons) (T : OkT r plan t) (U : OkT q plan' u)
    (h0 : Le t.starts u.starts) (hg : ∀ s, s < r.seasons.toNat → ∀ i, i < r.places.length → iat (lat t.grows s) i ≤ iat (lat u.grows s) i) (hk : ∀ s, s < r.seasons.toNat → ∀ i, i < r.places.length → iat (lat u.takes s) i ≤ iat (lat t.takes s) i) :
    ∀ k, k ≤ r.seasons.toNat → Le (stateAt r t k).fish (stateAt q u k).fish
  | 0, _ => h0
  | k + 1, hk1 => by
    have ih := states_mono O O' K hs T U h0 hg hk k (by omega)
    have fx := fine_at O T k (by omega)
    have fy := fine_at O' U k (by rw [← hs]; omega)
    unfold stateAt
    exact season_mono K O.place O'.place fx.len (by rw [fy.len, K.len]) fx.nn ih (fun i hi => by have := (T.grow k (by omega) i hi).1; have := (O.place i hi).g0; omega) (hg k (by omega)) (hk k (by omega))
theorem most_mono {r : Reef} (O : OkR r) {c d : Int} (h : c ≤ d) : most r c ≤ most r d := by
  unfold most
  have h2 := Int.mul_le_mul_of_nonneg_right h O.m0
  omega
theorem endT_starts (r : Reef) (plan : List Int) (m : Bool) {i : Nat} (h : i < r.places.length) : iat (endT r plan m).starts i = if m then most r (pat r.places i).count else (pat r.places i).count := by
  rw [iat_at (by simp [endT, h]), pat_at h]; simp [endT]
theorem endT_grows (r : Reef) (plan : List Int) (m : Bool) {s i : Nat} (hs : s < r.seasons.toNat) (h : i < r.places.length) : iat (lat (endT r plan m).grows s) i = if m then (pat r.places i).gh else (pat r.places i).gl := by
  rw [lat_at (by simp [endT, hs])]
  rw [iat_at (by simp [endT, h]), pat_at h]; simp [endT]
theorem endT_takes (r : Reef) (plan : List Int) (m : Bool) {s i : Nat} (hs : s < r.seasons.toNat) (h : i < r.places.length) : iat (lat (endT r plan m).takes s) i = if m then (take (pat r.places i) (has (iat plan s) i)).1 else (take (pat r.places i) (has (iat plan s) i)).2 := by
  rw [lat_at (by simp [endT, hs])]
  have e : (endT r plan m).takes[s]'(by simp [endT, hs]) = (List.range r.places.length).map fun i => if m then (take (pat r.places i) (has (iat plan s) i)).1 else (take (pat r.places i) (has (iat plan s) i)).2 := by simp [endT]
  rw [e, iat_mapRange _ h]
theorem Le.of_lt {a b : List Int} {n : Nat} (ha : a.length = n) (hb : b.length = n) (h : ∀ i, i < n → iat a i ≤ iat b i) : Le a b := fun i => by
  rcases Nat.lt_or_ge i n with h1 | h1
  · exact h i h1
  · rw [iat_out _ _ (by omega), iat_out _ _ (by omega)]; exact Int.le_refl _
/-- Any truth lies between the ends. -/
theorem between {r : Reef} {plan : List Int} {t : Truth} (O : OkR r) (T : OkT r plan t) (k : Nat) (hk : k ≤ r.seasons.toNat) :
    Le (stateAt r (endT r plan false) k).fish (stateAt r t k).fish ∧ Le (stateAt r t k).fish (stateAt r (endT r plan true) k).fish := by
  have E0 := okT_end (plan := plan) O false
  have E1 := okT_end (plan := plan) O true
  refine ⟨states_mono O O (Like.refl _) rfl E0 T (Le.of_lt E0.ls T.ls fun i hi => ?_) (fun s hs i hi => ?_) (fun s hs i hi => ?_) k hk, states_mono O O (Like.refl _) rfl T E1 (Le.of_lt T.ls E1.ls fun i hi => ?_) (fun s hs i hi => ?_) (fun s hs i hi => ?_) k hk⟩
  · rw [endT_starts _ _ _ hi]; exact (T.start i hi).1
  · rw [endT_grows _ _ _ hs hi]; exact (T.grow s hs i hi).1
  · rw [endT_takes _ _ _ hs hi]; exact (T.take s hs i hi).2
  · rw [endT_starts _ _ _ hi]; exact (T.start i hi).2
  · rw [endT_grows _ _ _ hs hi]; exact (T.grow s hs i hi).2
  · rw [endT_takes _ _ _ hs hi]; exact (T.take s hs i hi).1
end Go.Proofs.Ythffoglpekpmdaa.R
