/- More closures, better knowledge and faster growth never leave fewer fish, or wider stocks. -/
import Derived.Test.YthffoglpekpmdaaPl5
namespace Go.Proofs.Ythffoglpekpmdaa.R
set_option linter.unusedVariables false
set_option linter.unusedSimpArgs false
/-- An end of the stock of place i after season s. -/
def stk (r : Reef) (plan : List Int) (m : Bool) (s i : Nat) : Int := iat (lat (fishOf r (endT r plan m)) s) i
theorem stk_state (r : Reef) (plan : List Int) (m : Bool) {s : Nat} (hs : s < r.seasons.toNat) (i : Nat) : stk r plan m s i = iat (stateAt r (endT r plan m) (s + 1)).fish i := by
  unfold stk fishOf
  rw [lat_at (by simpa using hs)]
  simp
theorem stk_le {r q : Reef} {plan plan' : List Int} (m : Bool) (O : OkR r) (O' : OkR q) (K : Like r.places q.places) (hs : r.seasons = q.seasons) (hm : r.miss = q.miss)
    (hc : ∀ i, i < r.places.length → (pat r.places i).count = (pat q.places i).count)
    (hg : ∀ i, i < r.places.length → (if m then (pat r.places i).gh else (pat r.places i).gl) ≤ (if m then (pat q.places i).gh else (pat q.places i).gl))
    (hk : ∀ s, s < r.seasons.toNat → ∀ i, i < r.places.length → (take (pat q.places i) (has (iat plan' s) i)).1 ≤ (take (pat r.places i) (has (iat plan s) i)).1 ∧ (take (pat q.places i) (has (iat plan' s) i)).2 ≤ (take (pat r.places i) (has (iat plan s) i)).2)
    {s : Nat} (h : s < r.seasons.toNat) (i : Nat) : stk r plan m s i ≤ stk q plan' m s i := by
  have T := okT_end (plan := plan) O m
  have U := okT_end (plan := plan') O' m
  rw [stk_state r plan m h, stk_state q plan' m (by rw [← hs]; exact h)]
  refine states_mono O O' K hs T U (Le.of_lt T.ls (U.ls.trans K.len.symm) fun i hi => ?_) (fun s hs' i hi => ?_) (fun s hs' i hi => ?_) (s + 1) h i
  · rw [endT_starts _ _ _ hi, endT_starts _ _ _ (by rw [← K.len]; exact hi), hc i hi]
    unfold most
    rw [hm]
    exact Int.le_refl _
  · rw [endT_grows _ _ _ hs' hi, endT_grows _ _ _ (by rw [← hs]; exact hs') (by rw [← K.len]; exact hi)]
    exact hg i hi
  · rw [endT_takes _ _ _ hs' hi, endT_takes _ _ _ (by rw [← hs]; exact hs') (by rw [← K.len]; exact hi)]
    have := hk s hs' i hi
    cases m
    · exact this.2
    · exact this.1
/-- Who closes takes no more. -/
def Shuts (r : Reef) : Prop := ∀ i, i < r.places.length → (pat r.places i).sl ≤ (pat r.places i).ol ∧ (pat r.places i).sh ≤ (pat r.places i).oh
theorem shuts_of {r : Reef} (h : reefB r = true) : Shuts r := by
  unfold reefB goodTo within at h
  simp only [Bool.and_eq_true, decide_eq_true_eq, List.all_eq_true, List.mem_range] at h
  obtain ⟨⟨⟨h1, _⟩, _⟩, _⟩ := h
  intro i hi
  have h2 := h1 i hi
  unfold placeB within spanB at h2
  simp only [Bool.and_eq_true, decide_eq_true_eq, Bool.not_eq_true', decide_eq_false_iff_not] at h2
  constructor <;> omega
theorem bit_table : ∀ n : Fin 5, ∀ p : Fin 4, ∀ x : Fin 16, p.val < n.val → x.val < 2 ^ n.val → has (x.val : Int) p.val = false → x.val + 2 ^ p.val < 2 ^ n.val ∧ ∀ j : Fin 4, has ((x.val + 2 ^ p.val : Nat) : Int) j.val = (has (x.val : Int) j.val || decide (j.val = p.val)) := by decide +kernel
theorem bit_more {n p : Nat} {x : Int} (hn : n ≤ 4) (hp : p < n) (h0 : 0 ≤ x) (h1 : x < 2 ^ n) (hh : has x p = false) : x + 2 ^ p < 2 ^ n ∧ ∀ j, j < n → has (x + 2 ^ p) j = (has x j || decide (j = p)) := by
  obtain ⟨y, rfl⟩ := Int.eq_ofNat_of_zero_le h0
  have hy : y < 2 ^ n := by
    have : ((y : Nat) : Int) < ((2 ^ n : Nat) : Int) := by rw [Int.natCast_pow]; exact h1
    omega
  have h16 : 2 ^ n ≤ 16 := Nat.pow_le_pow_right (n := 2) (by decide) hn
  obtain ⟨a, b⟩ := bit_table ⟨n, by omega⟩ ⟨p, by omega⟩ ⟨y, by omega⟩ hp hy hh
  dsimp only at a b
  have e : ((y : Nat) : Int) + 2 ^ p = ((y + 2 ^ p : Nat) : Int) := by rw [Int.natCast_add, Int.natCast_pow]; rfl
  rw [e]
  refine ⟨?_, fun j hj => b ⟨j, by omega⟩⟩
  have : ((y + 2 ^ p : Nat) : Int) < ((2 ^ n : Nat) : Int) := by omega
  rw [Int.natCast_pow] at this
  exact this
/-- The plan with a place closed in one more season. -/
def moreL (plan : List Int) (s p : Nat) : List Int := if has (iat plan s) p then plan else plan.set s (iat plan s + 2 ^ p)
theorem moreL_len (plan : List Int) (s p : Nat) : (moreL plan s p).length = plan.length := by unfold moreL; split <;> simp
theorem moreL_has {r : Reef} {plan : List Int} (O : OkR r) (L : OkL r plan) {s p : Nat} (hs : s < plan.length) (hp : p < r.places.length) (k i : Nat) (hk : k < plan.length) (hi : i < r.places.length) :
    has (iat (moreL plan s p) k) i = (has (iat plan k) i || (decide (k = s) && decide (i = p))) := by
  unfold moreL
  cases h : has (iat plan s) p with
  | true =>
    rw [if_pos rfl]
    by_cases e : k = s ∧ i = p
    · obtain ⟨rfl, rfl⟩ := e; rw [h]; rfl
    · have : (decide (k = s) && decide (i = p)) = false := by
        rw [Bool.and_eq_false_iff]; simp only [decide_eq_false_iff_not]; omega
      rw [this, Bool.or_false]
  | false =>
    rw [if_neg (by simp)]
    have hb := L.bit s hs
    have e1 : iat plan s = plan[s] := iat_at hs
    have hm := bit_more O.n4 hp hb.1 hb.2 (by rw [← e1]; exact h)
    have e3 : iat plan k = plan[k] := iat_at hk
    by_cases e : k = s
    · subst e
      have e2 : iat (plan.set k (iat plan k + 2 ^ p)) k = plan[k] + 2 ^ p := by rw [iat_at (by simpa using hs), List.getElem_set_self, e3]
      rw [e2, hm.2 i hi, e3]; simp
    · have e2 : iat (plan.set s (iat plan s + 2 ^ p)) k = iat plan k := by
        rw [iat_at (by simpa using hk), iat_at hk, List.getElem_set_ne (by omega)]
      rw [e2]; simp [e]
theorem moreL_ok {r : Reef} {plan : List Int} (O : OkR r) (L : OkL r plan) {s p : Nat} (hs : s < plan.length) (hp : p < r.places.length) : OkL r (moreL plan s p) := by
  refine ⟨by rw [moreL_len]; exact L.len, fun k hk => ?_⟩
  have hk' : k < plan.length := by rw [moreL_len] at hk; exact hk
  have hmem : (moreL plan s p)[k] ∈ moreL plan s p := List.getElem_mem hk
  obtain ⟨y, hy⟩ : ∃ y, (moreL plan s p)[k] = y := ⟨_, rfl⟩
  rw [hy] at hmem ⊢
  have hall : ∀ z ∈ plan, 0 ≤ z ∧ z < 2 ^ r.places.length := fun z hz => by
    obtain ⟨j, hj, rfl⟩ := List.getElem_of_mem hz
    exact L.bit j hj
  unfold moreL at hmem
  cases h : has (iat plan s) p with
  | true => rw [h, if_pos rfl] at hmem; exact hall y hmem
  | false =>
    rw [h, if_neg (by decide)] at hmem
    have hb := L.bit s hs
    have e1 : iat plan s = plan[s] := iat_at hs
    have hm := bit_more O.n4 hp hb.1 hb.2 (by rw [← e1]; exact h)
    rcases List.mem_or_eq_of_mem_set hmem with h1 | h1
    · exact hall y h1
    · rw [h1, e1]
      have h2 : (0 : Int) < 2 ^ p := Int.pow_pos (by decide)
      exact ⟨by omega, hm.1⟩
theorem more_le {r : Reef} {plan : List Int} (O : OkR r) (C : Shuts r) (L : OkL r plan) {sx p : Nat} (hsx : sx < plan.length) (hp : p < r.places.length) (m : Bool) {s : Nat} (h : s < r.seasons.toNat) (i : Nat) :
    stk r plan m s i ≤ stk r (moreL plan sx p) m s i := by
  refine stk_le m O O (Like.refl _) rfl rfl (fun _ _ => rfl) (fun _ _ => Int.le_refl _) (fun k hk i hi => ?_) h i
  have hl := L.len
  rw [moreL_has O L hsx hp k i (by omega) hi]
  cases has (iat plan k) i with
  | true => exact ⟨Int.le_refl _, Int.le_refl _⟩
  | false =>
    rw [Bool.false_or]
    cases decide (k = sx) && decide (i = p) with
    | true => exact C i hi
    | false => exact ⟨Int.le_refl _, Int.le_refl _⟩
/-- The places with another growth. -/
def regrow (f : Place → Int × Int) (r : Reef) : Reef := { r with places := r.places.map fun p => { p with gl := (f p).1, gh := (f p).2 } }
theorem regrow_len (f : Place → Int × Int) (r : Reef) : (regrow f r).places.length = r.places.length := by simp [regrow]
theorem pat_regrow (f : Place → Int × Int) (r : Reef) {i : Nat} (h : i < r.places.length) : pat (regrow f r).places i = { pat r.places i with gl := (f (pat r.places i)).1, gh := (f (pat r.places i)).2 } := by
  have h' : i < (regrow f r).places.length := by rw [regrow_len]; exact h
  rw [pat_at h', pat_at h]; simp [regrow]
theorem like_regrow (f : Place → Int × Int) (r : Reef) : Like r.places (regrow f r).places := by
  have hout : ∀ i, ¬ i < r.places.length → pat (regrow f r).places i = pat r.places i := fun i h => by
    unfold pat
    rw [List.getD_eq_getElem?_getD, List.getD_eq_getElem?_getD, List.getElem?_eq_none (by rw [regrow_len]; omega), List.getElem?_eq_none (by omega)]
  refine ⟨(regrow_len f r).symm, fun i => ?_, fun i => ?_, fun i => ?_⟩
  all_goals
    by_cases h : i < r.places.length
    · rw [pat_regrow f r h]
    · rw [hout i h]
theorem okR_regrow {r : Reef} (O : OkR r) (f : Place → Int × Int) (hf : ∀ i, i < r.places.length → 0 ≤ (f (pat r.places i)).1 ∧ (f (pat r.places i)).1 ≤ (f (pat r.places i)).2 ∧ (f (pat r.places i)).2 ≤ 2000) : OkR (regrow f r) := by
  refine ⟨by rw [regrow_len]; exact O.n1, by rw [regrow_len]; exact O.n4, O.m0, O.m1, O.s1, O.s4, fun i hi => ?_⟩
  rw [regrow_len] at hi ⊢
  rw [pat_regrow f r hi]
  have h := O.place i hi
  have g := hf i hi
  exact ⟨h.c0, h.c1, h.r0, h.r1, g.1, g.2.1, g.2.2, h.d0, h.d1, h.i0, h.i1, h.i2, h.o0, h.o1, h.o2, h.s0, h.s1, h.s2, h.w0, h.w1, h.l0, h.l1⟩
theorem okL_regrow {r : Reef} {l : List Int} (L : OkL r l) (f : Place → Int × Int) : OkL (regrow f r) l :=
  ⟨L.len, fun s h => by have := L.bit s h; rw [regrow_len]; exact this⟩
def narrowF (low high : Int) (p : Place) : Int × Int := (p.gl + (p.gh - p.gl) * low / 100, p.gl + (p.gh - p.gl) * high / 100)
def fasterF (n : Int) (p : Place) : Int × Int := (if 2000 < p.gl + n then 2000 else p.gl + n, if 2000 < p.gh + n then 2000 else p.gh + n)
theorem narrow_bd {low high : Int} (h0 : 0 ≤ low) (h1 : low ≤ high) (h2 : high ≤ 100) {p : Place} (g : p.gl ≤ p.gh) : p.gl ≤ (narrowF low high p).1 ∧ (narrowF low high p).1 ≤ (narrowF low high p).2 ∧ (narrowF low high p).2 ≤ p.gh := by
  unfold narrowF
  dsimp only
  have a0 : 0 ≤ (p.gh - p.gl) * low := Int.mul_nonneg (by omega) h0
  have a1 : (p.gh - p.gl) * low ≤ (p.gh - p.gl) * high := Int.mul_le_mul_of_nonneg_left h1 (by omega)
  have a2 : (p.gh - p.gl) * high ≤ (p.gh - p.gl) * 100 := Int.mul_le_mul_of_nonneg_left h2 (by omega)
  obtain ⟨x, hx⟩ : ∃ x, (p.gh - p.gl) * low = x := ⟨_, rfl⟩
  obtain ⟨y, hy⟩ : ∃ y, (p.gh - p.gl) * high = y := ⟨_, rfl⟩
  rw [hx] at a0 a1 ⊢
  rw [hy] at a1 a2 ⊢
  omega
theorem narrow_ok {r : Reef} (O : OkR r) {low high : Int} (h0 : 0 ≤ low) (h1 : low ≤ high) (h2 : high ≤ 100) : OkR (regrow (narrowF low high) r) :=
  okR_regrow O _ fun i hi => by
    have h := O.place i hi
    have := narrow_bd h0 h1 h2 h.g1
    have := h.g0
    have := h.g2
    omega
theorem narrow_le {r : Reef} {plan : List Int} (O : OkR r) {low high : Int} (h0 : 0 ≤ low) (h1 : low ≤ high) (h2 : high ≤ 100) {s : Nat} (h : s < r.seasons.toNat) (i : Nat) :
    stk r plan false s i ≤ stk (regrow (narrowF low high) r) plan false s i ∧ stk (regrow (narrowF low high) r) plan true s i ≤ stk r plan true s i := by
  have O' := narrow_ok O h0 h1 h2
  constructor
  · refine stk_le false O O' (like_regrow _ r) rfl rfl (fun i hi => by rw [pat_regrow _ r hi]) (fun i hi => ?_) (fun k _ i hi => ?_) h i
    · rw [pat_regrow _ r hi]; exact (narrow_bd h0 h1 h2 (O.place i hi).g1).1
    · rw [pat_regrow _ r hi]
      unfold take
      split <;> exact ⟨Int.le_refl _, Int.le_refl _⟩
  · have hl := regrow_len (narrowF low high) r
    have hli := like_regrow (narrowF low high) r
    refine stk_le true O' O ⟨hli.len.symm, fun i => (hli.room i).symm, fun i => (hli.drift i).symm, fun i => (hli.into i).symm⟩ rfl rfl (fun i hi => by rw [hl] at hi; rw [pat_regrow _ r hi]) (fun i hi => ?_) (fun k _ i hi => ?_) h i
    · rw [hl] at hi
      rw [pat_regrow _ r hi]; exact (narrow_bd h0 h1 h2 (O.place i hi).g1).2.2
    · rw [hl] at hi
      rw [pat_regrow _ r hi]
      unfold take
      split <;> exact ⟨Int.le_refl _, Int.le_refl _⟩
theorem faster_ok {r : Reef} (O : OkR r) {n : Int} (h0 : 0 ≤ n) : OkR (regrow (fasterF n) r) :=
  okR_regrow O _ fun i hi => by
    have h := O.place i hi
    have := h.g0
    have := h.g1
    have := h.g2
    unfold fasterF
    dsimp only
    split <;> split <;> omega
theorem faster_le {r : Reef} {plan : List Int} (O : OkR r) {n : Int} (h0 : 0 ≤ n) (m : Bool) {s : Nat} (h : s < r.seasons.toNat) (i : Nat) :
    stk r plan m s i ≤ stk (regrow (fasterF n) r) plan m s i := by
  refine stk_le m O (faster_ok O h0) (like_regrow _ r) rfl rfl (fun i hi => by rw [pat_regrow _ r hi]) (fun i hi => ?_) (fun k _ i hi => ?_) h i
  · rw [pat_regrow _ r hi]
    have h := O.place i hi
    have := h.g2
    have := h.g1
    unfold fasterF
    dsimp only
    cases m
    · simp only [Bool.false_eq_true, if_false]; split <;> omega
    · simp only [if_true]; split <;> omega
  · rw [pat_regrow _ r hi]
    unfold take
    split <;> exact ⟨Int.le_refl _, Int.le_refl _⟩
end Go.Proofs.Ythffoglpekpmdaa.R
