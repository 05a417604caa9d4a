/- More fish, faster growth and fewer takes never leave fewer fish. -/
import Derived.Test.YthffoglpekpmdaaPl4
namespace Go.Proofs.Ythffoglpekpmdaa.R
set_option linter.unusedVariables false
set_option linter.unusedSimpArgs false
/-- Nowhere fewer. -/
def Le (a b : List Int) : Prop := ∀ i, iat a i ≤ iat b i
/-- The places have the same room, drift the same. -/
structure Like (ps qs : List Place) : Prop where
  len : ps.length = qs.length
  room : ∀ i, (pat ps i).room = (pat qs i).room
  drift : ∀ i, (pat ps i).drift = (pat qs i).drift
  into : ∀ i, (pat ps i).into = (pat qs i).into
theorem Like.refl (ps : List Place) : Like ps ps := ⟨rfl, fun _ => rfl, fun _ => rfl, fun _ => rfl⟩
theorem grown_mono {p q : Place} {f f' g g' : Int} (hr : p.room = q.room) (h0 : 0 ≤ f) (hf : f ≤ f') (hg0 : 0 ≤ g) (hg : g ≤ g') : f + grown p f g ≤ f' + grown q f' g' := by
  have h1 : f * g ≤ f' * g' := Int.mul_le_mul hf hg hg0 (by omega)
  have h2 : f * g / 1000 ≤ f' * g' / 1000 := Int.ediv_le_ediv (by omega) h1
  have h3 : 0 ≤ f' * g' := Int.mul_nonneg (by omega) (by omega)
  have h4 : 0 ≤ f' * g' / 1000 := by omega
  obtain ⟨a, ha⟩ : ∃ a, f * g / 1000 = a := ⟨_, rfl⟩
  obtain ⟨b, hb⟩ : ∃ b, f' * g' / 1000 = b := ⟨_, rfl⟩
  unfold grown
  rw [ha, hb, hr]
  rw [ha, hb] at h2
  rw [hb] at h4
  split <;> split <;> (try split) <;> (try split) <;> omega
theorem growTo_at {ps : List Place} {gs : List Int} (fish : List Int) (g0 : Int) (hl : fish.length = ps.length) :
    ∀ k, k ≤ ps.length → (growTo ps gs (fish, g0) k).1.length = fish.length ∧ ∀ i, iat (growTo ps gs (fish, g0) k).1 i = if i < k then iat fish i + grown (pat ps i) (iat fish i) (iat gs i) else iat fish i
  | 0, _ => ⟨rfl, fun i => by simp [growTo]⟩
  | k + 1, hk => by
    obtain ⟨h1, h2⟩ := growTo_at (gs := gs) fish g0 hl k (by omega)
    obtain ⟨st, hst⟩ : ∃ st, growTo ps gs (fish, g0) k = st := ⟨_, rfl⟩
    rw [growTo_succ, hst]
    rw [hst] at h1 h2
    unfold growStep
    refine ⟨by simp [h1], fun i => ?_⟩
    show iat (st.1.set k _) i = _
    have hq := h2 k
    rw [if_neg (by omega)] at hq
    rw [iat_set _ _ _ _ (by omega), hq, h2 i]
    by_cases e : k = i
    · subst e; rw [if_pos rfl, if_pos (by omega)]
    · rw [if_neg e]
      by_cases e2 : i < k
      · rw [if_pos e2, if_pos (by omega)]
      · rw [if_neg e2, if_neg (by omega)]
/-- What drifts from the first k places to place i. -/
def inflow (ps : List Place) (now : List Int) (i : Nat) : Nat → Int
  | 0 => 0
  | k + 1 => inflow ps now i k + if 0 ≤ (pat ps k).into ∧ (pat ps k).into.toNat = i then goes (pat ps k) (iat now k) else 0
theorem inflow_succ (ps : List Place) (now : List Int) (i k : Nat) : inflow ps now i (k + 1) = inflow ps now i k + if 0 ≤ (pat ps k).into ∧ (pat ps k).into.toNat = i then goes (pat ps k) (iat now k) else 0 := rfl
theorem driftTo_at {ps : List Place} {now : List Int} (g0 : Int) (hl : now.length = ps.length) (O : ∀ i, i < ps.length → OkP (pat ps i) i ps.length) :
    ∀ k, k ≤ ps.length → (driftTo ps now (now, g0) k).1.length = now.length ∧ ∀ i, iat (driftTo ps now (now, g0) k).1 i = iat now i - (if i < k then goes (pat ps i) (iat now i) else 0) + inflow ps now i k
  | 0, _ => ⟨rfl, fun i => by simp [driftTo, inflow]⟩
  | k + 1, hk => by
    obtain ⟨h1, h2⟩ := driftTo_at g0 hl O k (by omega)
    obtain ⟨st, hst⟩ : ∃ st, driftTo ps now (now, g0) k = st := ⟨_, rfl⟩
    rw [driftTo_succ, hst]
    rw [hst] at h1 h2
    have hi1 := (O k (by omega)).i1
    obtain ⟨x, hx⟩ : ∃ x, goes (pat ps k) (iat now k) = x := ⟨_, rfl⟩
    have hf : ∀ i, iat (st.1.set k (iat st.1 k - x)) i = iat now i - (if i < k + 1 then goes (pat ps i) (iat now i) else 0) + inflow ps now i k := fun i => by
      have hq := h2 k
      rw [if_neg (by omega)] at hq
      rw [iat_set _ _ _ _ (by omega), hq, h2 i]
      by_cases e : k = i
      · subst e; rw [if_pos rfl, if_pos (by omega), hx]; omega
      · rw [if_neg e]
        by_cases e2 : i < k
        · rw [if_pos e2, if_pos (by omega)]
        · rw [if_neg e2, if_neg (by omega)]
    unfold driftStep
    rw [hx]
    dsimp only
    by_cases hin : 0 ≤ (pat ps k).into
    · rw [if_pos hin]
      refine ⟨by simp [h1], fun i => ?_⟩
      show iat (List.set _ _ _) i = _
      rw [iat_set _ _ _ _ (by rw [List.length_set]; omega), hf, hf]
      rw [inflow_succ, hx]
      by_cases e : (pat ps k).into.toNat = i
      · have e2 : 0 ≤ (pat ps k).into ∧ (pat ps k).into.toNat = i := ⟨hin, e⟩
        rw [if_pos e, if_pos e2, e]; omega
      · have e2 : ¬ (0 ≤ (pat ps k).into ∧ (pat ps k).into.toNat = i) := fun h => e h.2
        rw [if_neg e, if_neg e2]; omega
    · rw [if_neg hin]
      refine ⟨by simp [h1], fun i => ?_⟩
      show iat (List.set _ _ _) i = _
      rw [hf]
      have e2 : ¬ (0 ≤ (pat ps k).into ∧ (pat ps k).into.toNat = i) := fun h => hin h.1
      rw [inflow_succ, if_neg e2]; omega
theorem goes_mono {p q : Place} {i n f f' : Int} (hd : p.drift = q.drift) (O : OkP p i n) (hf : f ≤ f') : goes p f ≤ goes q f' ∧ f - goes p f ≤ f' - goes q f' := by
  unfold goes
  rw [← hd]
  have h0 := O.d0
  have h1 := O.d1
  have a := Int.mul_le_mul_of_nonneg_right hf h0
  have b : (f' - f) * p.drift ≤ (f' - f) * 1000 := Int.mul_le_mul_of_nonneg_left h1 (by omega)
  rw [Int.sub_mul, Int.sub_mul] at b
  omega
theorem inflow_mono {ps qs : List Place} {a b : List Int} (K : Like ps qs) (O : ∀ i, i < ps.length → OkP (pat ps i) i ps.length) (h : Le a b) (i : Nat) : ∀ k, k ≤ ps.length → inflow ps a i k ≤ inflow qs b i k
  | 0, _ => Int.le_refl _
  | k + 1, hk => by
    have h1 := inflow_mono K O h i k (by omega)
    have h2 := (goes_mono (K.drift k) (O k (by omega)) (h k)).1
    rw [inflow_succ, inflow_succ, ← K.into k]
    split <;> omega
theorem takeTo_at {ks : List Int} (fish : List Int) (g0 : Int) :
    ∀ k, k ≤ fish.length → (takeTo ks (fish, g0) k).1.length = fish.length ∧ ∀ i, iat (takeTo ks (fish, g0) k).1 i = if i < k then iat fish i - caught (iat fish i) (iat ks i) else iat fish i
  | 0, _ => ⟨rfl, fun i => by simp [takeTo]⟩
  | k + 1, hk => by
    obtain ⟨h1, h2⟩ := takeTo_at (ks := ks) fish g0 k (by omega)
    obtain ⟨st, hst⟩ : ∃ st, takeTo ks (fish, g0) k = st := ⟨_, rfl⟩
    rw [takeTo_succ, hst]
    rw [hst] at h1 h2
    unfold takeStep
    refine ⟨by simp [h1], fun i => ?_⟩
    show iat (st.1.set k _) i = _
    have hq := h2 k
    rw [if_neg (by omega)] at hq
    rw [iat_set _ _ _ _ (by omega), hq, h2 i]
    by_cases e : k = i
    · subst e; rw [if_pos rfl, if_pos (by omega)]
    · rw [if_neg e]
      by_cases e2 : i < k
      · rw [if_pos e2, if_pos (by omega)]
      · rw [if_neg e2, if_neg (by omega)]
theorem season_mono {ps qs : List Place} {gs gs' ks ks' : List Int} {x y : State} (K : Like ps qs) (O : ∀ i, i < ps.length → OkP (pat ps i) i ps.length) (O' : ∀ i, i < qs.length → OkP (pat qs i) i qs.length)
    (lx : x.fish.length = ps.length) (ly : y.fish.length = ps.length) (h0 : ∀ i, 0 ≤ iat x.fish i) (h : Le x.fish y.fish) (hg0 : ∀ i, i < ps.length → 0 ≤ iat gs i) (hg : ∀ i, i < ps.length → iat gs i ≤ iat gs' i) (hk : ∀ i, i < ps.length → iat ks' i ≤ iat ks i) :
    Le (season ps gs ks x).fish (season qs gs' ks' y).fish := by
  have hlen := K.len
  obtain ⟨a1, a2⟩ := growTo_at (ps := ps) (gs := gs) x.fish x.grown lx ps.length (Nat.le_refl _)
  obtain ⟨b1, b2⟩ := growTo_at (ps := qs) (gs := gs') y.fish y.grown (by rw [ly, K.len]) qs.length (Nat.le_refl _)
  obtain ⟨A, hA⟩ : ∃ A, growTo ps gs (x.fish, x.grown) ps.length = A := ⟨_, rfl⟩
  obtain ⟨B, hB⟩ : ∃ B, growTo qs gs' (y.fish, y.grown) qs.length = B := ⟨_, rfl⟩
  rw [hA] at a1 a2
  rw [hB] at b1 b2
  have hAB : Le A.1 B.1 := fun i => by
    rw [a2, b2, ← K.len]
    by_cases e : i < ps.length
    · rw [if_pos e, if_pos e]
      exact grown_mono (K.room i) (h0 i) (h i) (hg0 i e) (hg i e)
    · rw [if_neg e, if_neg e]; exact h i
  obtain ⟨c1, c2⟩ := driftTo_at (ps := ps) (now := A.1) x.gone (by omega) O ps.length (Nat.le_refl _)
  obtain ⟨d1, d2⟩ := driftTo_at (ps := qs) (now := B.1) y.gone (by have := K.len; omega) O' qs.length (Nat.le_refl _)
  obtain ⟨C, hC⟩ : ∃ C, driftTo ps A.1 (A.1, x.gone) ps.length = C := ⟨_, rfl⟩
  obtain ⟨D, hD⟩ : ∃ D, driftTo qs B.1 (B.1, y.gone) qs.length = D := ⟨_, rfl⟩
  rw [hC] at c1 c2
  rw [hD] at d1 d2
  have hCD : Le C.1 D.1 := fun i => by
    rw [c2, d2, ← K.len]
    have h1 := inflow_mono K O hAB i ps.length (Nat.le_refl _)
    have h2 := hAB i
    by_cases e : i < ps.length
    · rw [if_pos e, if_pos e]
      have := (goes_mono (K.drift i) (O i e) h2).2
      omega
    · rw [if_neg e, if_neg e]; omega
  obtain ⟨e1, e2⟩ := takeTo_at (ks := ks) C.1 x.taken ps.length (by omega)
  obtain ⟨f1, f2⟩ := takeTo_at (ks := ks') D.1 y.taken qs.length (by omega)
  unfold season
  rw [hA, hB]
  dsimp only
  rw [hC, hD]
  intro i
  rw [e2, f2, ← K.len]
  have h2 := hCD i
  by_cases e : i < ps.length
  · rw [if_pos e, if_pos e]
    have := hk i e
    unfold caught
    split <;> split <;> omega
  · rw [if_neg e, if_neg e]; exact h2
/-- Two truths of like reefs: one never leaves fewer fish. -/
theorem states_mono {r q : Reef} {plan plan' : List Int} {t u : Truth} (O : OkR r) (O' : OkR q) (K : Like r.places q.places) (hs : r.seasons = q.seasons) (T : OkT r plan t) (U : OkT q plan' u)
    (h0 : Le t.starts u.starts) (hg : ∀ s, s < r.seasons.toNat → ∀ i, i < r.places.length → iat (lat t.grows s) i ≤ iat (lat u.grows s) i) (hk : ∀ s, s < r.seasons.toNat → ∀ i, i < r.places.length → iat (lat u.takes s) i ≤ iat (lat t.takes s) i) :
    ∀ k, k ≤ r.seasons.toNat → Le (stateAt r t k).fish (stateAt q u k).fish
  | 0, _ => h0
  | k + 1, hk1 => by
    have ih := states_mono O O' K hs T U h0 hg hk k (by omega)
    have fx := fine_at O T k (by omega)
    have fy := fine_at O' U k (by rw [← hs]; omega)
    unfold stateAt
    exact season_mono K O.place O'.place fx.len (by rw [fy.len, K.len]) fx.nn ih (fun i hi => by have := (T.grow k (by omega) i hi).1; have := (O.place i hi).g0; omega) (hg k (by omega)) (hk k (by omega))
theorem most_mono {r : Reef} (O : OkR r) {c d : Int} (h : c ≤ d) : most r c ≤ most r d := by
  unfold most
  have h2 := Int.mul_le_mul_of_nonneg_right h O.m0
  omega
theorem endT_starts (r : Reef) (plan : List Int) (m : Bool) {i : Nat} (h : i < r.places.length) : iat (endT r plan m).starts i = if m then most r (pat r.places i).count else (pat r.places i).count := by
  rw [iat_at (by simp [endT, h]), pat_at h]; simp [endT]
theorem endT_grows (r : Reef) (plan : List Int) (m : Bool) {s i : Nat} (hs : s < r.seasons.toNat) (h : i < r.places.length) : iat (lat (endT r plan m).grows s) i = if m then (pat r.places i).gh else (pat r.places i).gl := by
  rw [lat_at (by simp [endT, hs])]
  rw [iat_at (by simp [endT, h]), pat_at h]; simp [endT]
theorem endT_takes (r : Reef) (plan : List Int) (m : Bool) {s i : Nat} (hs : s < r.seasons.toNat) (h : i < r.places.length) : iat (lat (endT r plan m).takes s) i = if m then (take (pat r.places i) (has (iat plan s) i)).1 else (take (pat r.places i) (has (iat plan s) i)).2 := by
  rw [lat_at (by simp [endT, hs])]
  have e : (endT r plan m).takes[s]'(by simp [endT, hs]) = (List.range r.places.length).map fun i => if m then (take (pat r.places i) (has (iat plan s) i)).1 else (take (pat r.places i) (has (iat plan s) i)).2 := by simp [endT]
  rw [e, iat_mapRange _ h]
theorem Le.of_lt {a b : List Int} {n : Nat} (ha : a.length = n) (hb : b.length = n) (h : ∀ i, i < n → iat a i ≤ iat b i) : Le a b := fun i => by
  rcases Nat.lt_or_ge i n with h1 | h1
  · exact h i h1
  · rw [iat_out _ _ (by omega), iat_out _ _ (by omega)]; exact Int.le_refl _
/-- Any truth lies between the ends. -/
theorem between {r : Reef} {plan : List Int} {t : Truth} (O : OkR r) (T : OkT r plan t) (k : Nat) (hk : k ≤ r.seasons.toNat) :
    Le (stateAt r (endT r plan false) k).fish (stateAt r t k).fish ∧ Le (stateAt r t k).fish (stateAt r (endT r plan true) k).fish := by
  have E0 := okT_end (plan := plan) O false
  have E1 := okT_end (plan := plan) O true
  refine ⟨states_mono O O (Like.refl _) rfl E0 T (Le.of_lt E0.ls T.ls fun i hi => ?_) (fun s hs i hi => ?_) (fun s hs i hi => ?_) k hk, states_mono O O (Like.refl _) rfl T E1 (Le.of_lt T.ls E1.ls fun i hi => ?_) (fun s hs i hi => ?_) (fun s hs i hi => ?_) k hk⟩
  · rw [endT_starts _ _ _ hi]; exact (T.start i hi).1
  · rw [endT_grows _ _ _ hs hi]; exact (T.grow s hs i hi).1
  · rw [endT_takes _ _ _ hs hi]; exact (T.take s hs i hi).2
  · rw [endT_starts _ _ _ hi]; exact (T.start i hi).2
  · rw [endT_grows _ _ _ hs hi]; exact (T.grow s hs i hi).2
  · rw [endT_takes _ _ _ hs hi]; exact (T.take s hs i hi).1
/-! What is found by halving. -/
theorem least_cons (h : Int → Bool) (f : Nat) (low high : Int) (hne : low ≠ high) : least h (f + 1) low high = if h (low + (high - low) / 2) then least h f low (low + (high - low) / 2) else least h f (low + (high - low) / 2 + 1) high := by
  show (if low = high then low else _) = _
  rw [if_neg hne]
theorem least_nil (h : Int → Bool) (f : Nat) (low : Int) : least h f low low = low := by
  cases f with
  | zero => rfl
  | succ f => show (if low = low then low else _) = low; rw [if_pos rfl]
/-- h goes from false to true once, from 0 on. -/
def Mono (h : Int → Bool) : Prop := ∀ a b, 0 ≤ a → a ≤ b → h a = true → h b = true
theorem least_spec {h : Int → Bool} (M : Mono h) : ∀ (f : Nat) (low high : Int), 0 ≤ low → low ≤ high → high - low < 2 ^ f →
    low ≤ least h f low high ∧ least h f low high ≤ high ∧ (least h f low high < high → h (least h f low high) = true) ∧ ∀ c, low ≤ c → c < least h f low high → h c = false
  | 0, low, high, h0, h1, h2 => by
    have : low = high := by simp at h2; omega
    subst this
    exact ⟨Int.le_refl _, Int.le_refl _, fun e => absurd e (Int.lt_irrefl _), fun c h3 h4 => absurd h4 (by show ¬ c < low; omega)⟩
  | f + 1, low, high, h0, h1, h2 => by
    by_cases he : low = high
    · subst he
      rw [least_nil]
      exact ⟨Int.le_refl _, Int.le_refl _, fun e => absurd e (Int.lt_irrefl _), fun c h3 h4 => absurd h4 (by omega)⟩
    · rw [least_cons _ _ _ _ he]
      rw [Int.pow_succ] at h2
      obtain ⟨D, hD⟩ : ∃ D, (high - low) / 2 = D := ⟨_, rfl⟩
      rw [hD]
      have hb : 0 ≤ D ∧ D < high - low ∧ D < 2 ^ f ∧ high - (low + D + 1) < 2 ^ f := by omega
      obtain ⟨b1, b2, b3, b4⟩ := hb
      cases hm : h (low + D) with
      | true =>
        rw [if_pos rfl]
        obtain ⟨s1, s2, s3, s4⟩ := least_spec M f low (low + D) h0 (by omega) (by omega)
        refine ⟨s1, by omega, fun _ => ?_, s4⟩
        by_cases e : least h f low (low + D) = low + D
        · rw [e]; exact hm
        · exact s3 (by omega)
      | false =>
        rw [if_neg (by decide)]
        obtain ⟨s1, s2, s3, s4⟩ := least_spec M f (low + D + 1) high (by omega) (by omega) (by omega)
        refine ⟨by omega, s2, s3, fun c c1 c2 => ?_⟩
        by_cases e : c ≤ low + D
        · cases hc : h c with
          | false => rfl
          | true => rw [M _ _ (by omega) e hc] at hm; cases hm
        · exact s4 c (by omega) c2
/-- One that is less than all is found from whichever end. -/
theorem least_eq {h : Int → Bool} (M : Mono h) {f g : Nat} {low high high' : Int} (h0 : 0 ≤ low) (h1 : low ≤ high) (h2 : high - low < 2 ^ f) (h3 : low ≤ high') (h4 : high' - low < 2 ^ g) (h5 : h high = true) (h6 : high ≤ high') : least h f low high = least h g low high' := by
  obtain ⟨a1, a2, a3, a4⟩ := least_spec M f low high h0 h1 h2
  obtain ⟨b1, b2, b3, b4⟩ := least_spec M g low high' h0 h3 h4
  obtain ⟨x, hx⟩ : ∃ x, least h f low high = x := ⟨_, rfl⟩
  obtain ⟨y, hy⟩ : ∃ y, least h g low high' = y := ⟨_, rfl⟩
  rw [hx] at a1 a2 a3 a4 ⊢
  rw [hy] at b1 b2 b3 b4 ⊢
  have ht : h x = true := by
    by_cases e : x = high
    · rw [e]; exact h5
    · exact a3 (by omega)
  have hy2 : y ≤ x := by
    rcases Int.lt_or_le x y with e | e
    · rw [b4 x a1 e] at ht; cases ht
    · exact e
  have hx2 : x ≤ y := by
    rcases Int.lt_or_le y x with e | e
    · have := a4 y b1 e
      rw [b3 (by omega)] at this; cases this
    · exact e
  omega
/-- The greatest number from low on for which h does not hold, as it is sought in halves. -/
def topOf (h : Int → Bool) : Nat → Int → Int → Int
  | 0, low, _ => low
  | f + 1, low, high => if low < high then
      let mid := high - (high - low) / 2
      if h mid then topOf h f low (mid - 1) else topOf h f mid high
    else low
theorem top_cons (h : Int → Bool) (f : Nat) (low high : Int) (hlt : low < high) : topOf h (f + 1) low high = if h (high - (high - low) / 2) then topOf h f low (high - (high - low) / 2 - 1) else topOf h f (high - (high - low) / 2) high := by
  show (if low < high then _ else low) = _
  rw [if_pos hlt]
theorem top_nil (h : Int → Bool) (f : Nat) (low high : Int) (hn : ¬ low < high) : topOf h f low high = low := by
  cases f with
  | zero => rfl
  | succ f => show (if low < high then _ else low) = low; rw [if_neg hn]
theorem top_spec {h : Int → Bool} (M : Mono h) : ∀ (f : Nat) (low high : Int), -1 ≤ low → low ≤ high → high - low < 2 ^ f →
    low ≤ topOf h f low high ∧ topOf h f low high ≤ high ∧ (low < topOf h f low high → h (topOf h f low high) = false) ∧ ∀ c, topOf h f low high < c → c ≤ high → h c = true
  | 0, low, high, h0, h1, h2 => by
    have : low = high := by simp at h2; omega
    subst this
    exact ⟨Int.le_refl _, Int.le_refl _, fun e => absurd e (Int.lt_irrefl _), fun c h3 h4 => absurd h3 (by show ¬ low < c; omega)⟩
  | f + 1, low, high, h0, h1, h2 => by
    by_cases he : low < high
    · rw [top_cons _ _ _ _ he]
      rw [Int.pow_succ] at h2
      obtain ⟨D, hD⟩ : ∃ D, (high - low) / 2 = D := ⟨_, rfl⟩
      rw [hD]
      have hb : 0 ≤ D ∧ D < high - low ∧ D < 2 ^ f ∧ high - D - 1 - low < 2 ^ f := by omega
      obtain ⟨b1, b2, b3, b4⟩ := hb
      cases hm : h (high - D) with
      | false =>
        rw [if_neg (by decide)]
        obtain ⟨s1, s2, s3, s4⟩ := top_spec M f (high - D) high (by omega) (by omega) (by omega)
        refine ⟨by omega, s2, fun _ => ?_, s4⟩
        by_cases e : topOf h f (high - D) high = high - D
        · rw [e]; exact hm
        · exact s3 (by omega)
      | true =>
        rw [if_pos rfl]
        obtain ⟨s1, s2, s3, s4⟩ := top_spec M f low (high - D - 1) h0 (by omega) (by omega)
        refine ⟨s1, by omega, s3, fun c c1 c2 => ?_⟩
        by_cases e : high - D ≤ c
        · exact M _ _ (by omega) e hm
        · exact s4 c c1 (by omega)
    · rw [top_nil _ _ _ _ he]
      have : low = high := by omega
      subst this
      exact ⟨Int.le_refl _, Int.le_refl _, fun e => absurd e (Int.lt_irrefl _), fun c h3 h4 => absurd h3 (by omega)⟩
/-- From both ends the same is found. -/
theorem top_least {h : Int → Bool} (M : Mono h) {f g : Nat} {m : Int} (h0 : 0 ≤ m) (h1 : m + 1 < 2 ^ f) (h2 : m + 1 < 2 ^ g) : topOf h f (-1) m = least h g 0 (m + 1) - 1 := by
  obtain ⟨a1, a2, a3, a4⟩ := top_spec M f (-1) m (by omega) (by omega) (by omega)
  obtain ⟨b1, b2, b3, b4⟩ := least_spec M g 0 (m + 1) (by omega) (by omega) (by omega)
  obtain ⟨x, hx⟩ : ∃ x, topOf h f (-1) m = x := ⟨_, rfl⟩
  obtain ⟨y, hy⟩ : ∃ y, least h g 0 (m + 1) = y := ⟨_, rfl⟩
  rw [hx] at a1 a2 a3 a4 ⊢
  rw [hy] at b1 b2 b3 b4 ⊢
  rcases Int.lt_trichotomy x (y - 1) with e | e | e
  · have h5 := b4 (x + 1) (by omega) (by omega)
    rw [a4 (x + 1) (by omega) (by omega)] at h5; cases h5
  · exact e
  · have h5 := a3 (by omega)
    rw [M y x (by omega) (by omega) (b3 (by omega))] at h5; cases h5
/-! When a place is short; takes that are limited. -/
theorem shortFrom_none : ∀ (ps : List Place) (ns : List Int) (j : Nat), ps.length = ns.length → (shortFrom ps ns j = none ↔ ∀ i, i < ps.length → (pat ps i).goal ≤ iat ns i)
  | [], [], _, _ => by simp [shortFrom]
  | p :: ps, n :: ns, j, h => by
    have ih := shortFrom_none ps ns (j + 1) (by simpa using h)
    unfold shortFrom
    by_cases hn : n < p.goal
    · rw [if_pos hn]
      refine ⟨fun e => (by cases e), fun e => ?_⟩
      have := e 0 (by simp)
      simp [pat, iat] at this
      omega
    · rw [if_neg hn, ih]
      refine ⟨fun e i hi => ?_, fun e i hi => ?_⟩
      · cases i with
        | zero => simp [pat, iat]; omega
        | succ i => simpa [pat, iat] using e i (by simpa using hi)
      · simpa [pat, iat] using e (i + 1) (by simpa using hi)
  | [], _ :: _, _, h => by simp at h
  | _ :: _, [], _, h => by simp at h
theorem shortFrom_some : ∀ (ps : List Place) (ns : List Int) (j p : Nat) (d : Int), ps.length = ns.length → shortFrom ps ns j = some (p, d) →
    ∃ i, p = j + i ∧ i < ps.length ∧ d = (pat ps i).goal - iat ns i ∧ 0 < d ∧ ∀ k, k < i → (pat ps k).goal ≤ iat ns k
  | [], [], _, _, _, _, e => by simp [shortFrom] at e
  | q :: ps, n :: ns, j, p, d, h, e => by
    unfold shortFrom at e
    by_cases hn : n < q.goal
    · rw [if_pos hn] at e
      cases e
      exact ⟨0, rfl, by simp, by simp [pat, iat], by omega, fun k hk => absurd hk (Nat.not_lt_zero _)⟩
    · rw [if_neg hn] at e
      obtain ⟨i, h1, h2, h3, h4, h5⟩ := shortFrom_some ps ns (j + 1) p d (by simpa using h) e
      refine ⟨i + 1, by omega, by simpa using h2, by simpa [pat, iat] using h3, h4, fun k hk => ?_⟩
      cases k with
      | zero => simp [pat, iat]; omega
      | succ k => simpa [pat, iat] using h5 k (by omega)
  | [], _ :: _, _, _, _, h, _ => by simp at h
  | _ :: _, [], _, _, _, h, _ => by simp at h
/-- The fish in the end of the truth with as few as can be. -/
def lowF (r : Reef) (plan : List Int) : List Int := (endOf r (endT r plan false)).fish
theorem lowF_len {r : Reef} (O : OkR r) (plan : List Int) : (lowF r plan).length = r.places.length := (fine_at O (okT_end (plan := plan) O false) _ (Nat.le_refl _)).len
theorem short_none {r : Reef} (O : OkR r) (plan : List Int) : short r plan = none ↔ ∀ i, i < r.places.length → (pat r.places i).goal ≤ iat (lowF r plan) i :=
  shortFrom_none _ _ _ (lowF_len O plan).symm
theorem short_some {r : Reef} (O : OkR r) {plan : List Int} {p : Nat} {d : Int} (h : short r plan = some (p, d)) : p < r.places.length ∧ d = (pat r.places p).goal - iat (lowF r plan) p ∧ 0 < d ∧ ∀ k, k < p → (pat r.places k).goal ≤ iat (lowF r plan) k := by
  obtain ⟨i, h1, h2, h3, h4, h5⟩ := shortFrom_some _ _ _ _ _ (lowF_len O plan).symm h
  obtain rfl : p = i := by omega
  exact ⟨h2, h3, h4, h5⟩
theorem end_between {r : Reef} {plan : List Int} {t : Truth} (O : OkR r) (T : OkT r plan t) (i : Nat) : iat (lowF r plan) i ≤ iat (endOf r t).fish i := (between O T _ (Nat.le_refl _)).1 i
theorem pat_limited (r : Reef) (k : Nat) (m : Int) (hk : k < r.places.length) (i : Nat) : pat (limited r k m).places i = if k = i then { pat r.places k with ol := if (pat r.places k).ol < m then (pat r.places k).ol else m, oh := if (pat r.places k).oh < m then (pat r.places k).oh else m } else pat r.places i := by
  unfold limited pat
  rw [List.getD_eq_getElem?_getD, List.getElem?_set]
  by_cases e : k = i
  · subst e; simp [hk]
  · simp [e]
theorem limited_len (r : Reef) (k : Nat) (m : Int) : (limited r k m).places.length = r.places.length := by simp [limited]
theorem like_limited (r : Reef) (k : Nat) (hk : k < r.places.length) (m m' : Int) : Like (limited r k m).places (limited r k m').places := by
  refine ⟨by rw [limited_len, limited_len], fun i => ?_, fun i => ?_, fun i => ?_⟩ <;> rw [pat_limited r k m hk, pat_limited r k m' hk] <;> split <;> rfl
/-- The more is taken at most, the fewer fish there are. -/
theorem limited_mono {r : Reef} (O : OkR r) (plan : List Int) (k : Nat) (hk : k < r.places.length) {m m' : Int} (h0 : 0 ≤ m) (h : m ≤ m') : Le (lowF (limited r k m') plan) (lowF (limited r k m) plan) := by
  have O1 := okR_limited O k m hk h0
  have O2 := okR_limited O k m' hk (by omega)
  have T1 := okT_end (plan := plan) O1 false
  have T2 := okT_end (plan := plan) O2 false
  refine states_mono O2 O1 (like_limited r k hk m' m) rfl T2 T1 (Le.of_lt T2.ls (T1.ls.trans (by rw [limited_len, limited_len])) fun i hi => ?_) (fun s hs i hi => ?_) (fun s hs i hi => ?_) _ (Nat.le_refl _)
  · have hi' : i < (limited r k m).places.length := by rw [limited_len] at hi ⊢; exact hi
    rw [endT_starts _ _ _ hi, endT_starts _ _ _ hi', pat_limited r k m hk, pat_limited r k m' hk]
    simp only [Bool.false_eq_true, if_false]
    by_cases e : k = i
    · simp only [if_pos e]; exact Int.le_refl _
    · simp only [if_neg e]; exact Int.le_refl _
  · have hi' : i < (limited r k m).places.length := by rw [limited_len] at hi ⊢; exact hi
    rw [endT_grows _ _ _ hs hi, endT_grows _ _ _ (by exact hs) hi', pat_limited r k m hk, pat_limited r k m' hk]
    simp only [Bool.false_eq_true, if_false]
    by_cases e : k = i
    · simp only [if_pos e]; exact Int.le_refl _
    · simp only [if_neg e]; exact Int.le_refl _
  · have hi' : i < (limited r k m).places.length := by rw [limited_len] at hi ⊢; exact hi
    rw [endT_takes _ _ _ hs hi, endT_takes _ _ _ (by exact hs) hi', pat_limited r k m hk, pat_limited r k m' hk]
    simp only [Bool.false_eq_true, if_false]
    by_cases e : k = i
    · simp only [if_pos e]
      unfold take
      split
      · exact Int.le_refl _
      · show (if _ < m then _ else m) ≤ (if _ < m' then _ else m')
        split <;> split <;> omega
    · simp only [if_neg e]; exact Int.le_refl _
theorem short_mono {r : Reef} (O : OkR r) (plan : List Int) (k : Nat) (hk : k < r.places.length) : Mono (fun m => (short (limited r k m) plan).isSome) := fun a b h0 hab h => by
  have O1 := okR_limited O k a hk h0
  have O2 := okR_limited O k b hk (by omega)
  dsimp only at h ⊢
  cases hb : short (limited r k b) plan with
  | some x => rfl
  | none =>
    rw [short_none O2] at hb
    have hn : short (limited r k a) plan = none := by
      rw [short_none O1]
      intro i hi
      have h1 := hb i (by rw [limited_len] at hi ⊢; exact hi)
      have h2 := limited_mono O plan k hk h0 hab i
      have h3 : (pat (limited r k a).places i).goal = (pat (limited r k b).places i).goal := by
        rw [pat_limited r k a hk, pat_limited r k b hk]; split <;> rfl
      omega
    rw [hn] at h; cases h
end Go.Proofs.Ythffoglpekpmdaa.R
