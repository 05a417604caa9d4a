/- The best plan: none that does is cheaper, or as cheap and before. -/
import Derived.Test.YthffoglpekpmdaaPl4
namespace Go.Proofs.Ythffoglpekpmdaa.R
set_option linter.unusedVariables false
set_option linter.unusedSimpArgs false
def before : List Int → List Int → Bool
  | a :: l, b :: m => if a = b then before l m else decide (a < b)
  | _, _ => false
theorem before_self : ∀ l : List Int, before l l = false
  | [] => rfl
  | a :: l => by unfold before; rw [if_pos rfl]; exact before_self l
theorem before_append : ∀ (l m : List Int) (a b : Int), l.length = m.length → before (l ++ [a]) (m ++ [b]) = if l = m then decide (a < b) else before l m
  | [], [], a, b, _ => by
    show before [a] [b] = _
    unfold before
    rw [if_pos rfl]
    by_cases h : a = b
    · subst h; simp [before]
    · rw [if_neg h]
  | x :: l, y :: m, a, b, h => by
    have ih := before_append l m a b (by simpa using h)
    rw [List.cons_append, List.cons_append]
    by_cases e : x = y
    · subst e
      show (if x = x then before (l ++ [a]) (m ++ [b]) else decide (x < x)) = _
      rw [if_pos rfl, ih]
      by_cases e2 : l = m
      · subst e2; simp
      · rw [if_neg e2, if_neg (by simpa using e2)]
        show _ = (if x = x then before l m else _)
        rw [if_pos rfl]
    · show (if x = y then _ else decide (x < y)) = _
      rw [if_neg e, if_neg (by simp [e])]
      show _ = (if x = y then _ else decide (x < y))
      rw [if_neg e]
  | [], _ :: _, _, _, h => by simp at h
  | _ :: _, [], _, _, h => by simp at h
theorem dg_len (n : Nat) : ∀ k x, (digits n k x).length = k
  | 0, _ => rfl
  | k + 1, x => by unfold digits; rw [List.length_append, dg_len n k]; rfl
theorem pow_succ' (n k : Nat) : 2 ^ (n * (k + 1)) = 2 ^ (n * k) * 2 ^ n := by rw [Nat.mul_succ, Nat.pow_add]
theorem digits_before (n : Nat) : ∀ k x y, x < 2 ^ (n * k) → y < 2 ^ (n * k) → before (digits n k x) (digits n k y) = decide (x < y)
  | 0, x, y, hx, hy => by
    have h1 : x = 0 := by simpa using hx
    have h2 : y = 0 := by simpa using hy
    subst h1 h2; rfl
  | k + 1, x, y, hx, hy => by
    rw [pow_succ'] at hx hy
    have hB : 0 < 2 ^ n := Nat.pow_pos (by decide)
    obtain ⟨B, hBB⟩ : ∃ B, 2 ^ n = B := ⟨_, rfl⟩
    have hX : x / 2 ^ n < 2 ^ (n * k) := (Nat.div_lt_iff_lt_mul hB).2 hx
    have hY : y / 2 ^ n < 2 ^ (n * k) := (Nat.div_lt_iff_lt_mul hB).2 hy
    have ih := digits_before n k _ _ hX hY
    have ih2 := digits_before n k _ _ hY hX
    unfold digits
    rw [before_append _ _ _ _ (by rw [dg_len, dg_len])]
    have dx := Nat.div_add_mod x (2 ^ n)
    have dy := Nat.div_add_mod y (2 ^ n)
    have mx := Nat.mod_lt x hB
    have my := Nat.mod_lt y hB
    rw [hBB] at hB ih ih2 dx dy mx my ⊢
    by_cases e : digits n k (x / B) = digits n k (y / B)
    · rw [if_pos e]
      rw [e, before_self] at ih
      rw [← e, before_self] at ih2
      have i1 := of_decide_eq_false ih.symm
      have i2 := of_decide_eq_false ih2.symm
      have e2 : x / B = y / B := by omega
      rw [e2] at dx
      rw [decide_eq_decide]
      omega
    · rw [if_neg e, ih, decide_eq_decide]
      have hne : x / B ≠ y / B := fun h => e (by rw [h])
      constructor
      · intro h
        exact Nat.lt_of_not_le fun hle => absurd (Nat.div_le_div_right (c := B) hle) (by omega)
      · intro h
        have := Nat.div_le_div_right (c := B) (Nat.le_of_lt h)
        omega
theorem dg_ok (n : Nat) : ∀ k x, ∀ a ∈ digits n k x, 0 ≤ a ∧ a < 2 ^ n
  | 0, _, a, h => by simp [digits] at h
  | k + 1, x, a, h => by
    unfold digits at h
    rw [List.mem_append, List.mem_singleton] at h
    rcases h with h | rfl
    · exact dg_ok n k _ a h
    · have h1 := Nat.mod_lt x (Nat.pow_pos (n := n) (by decide : 0 < 2))
      refine ⟨Int.natCast_nonneg _, ?_⟩
      have h2 := Int.ofNat_lt.2 h1
      rw [Int.natCast_pow] at h2
      exact h2
theorem digits_all (n : Nat) : ∀ k (l : List Int), l.length = k → (∀ a ∈ l, 0 ≤ a ∧ a < 2 ^ n) → ∃ x, x < 2 ^ (n * k) ∧ digits n k x = l
  | 0, l, h, _ => ⟨0, by simp, by rw [List.eq_nil_of_length_eq_zero h]; rfl⟩
  | k + 1, l, h, ha => by
    have hne : l ≠ [] := fun e => by rw [e] at h; simp at h
    obtain ⟨x, hx, hd⟩ := digits_all n k l.dropLast (by rw [List.length_dropLast, h]; rfl) (fun a h => ha a ((List.dropLast_sublist l).subset h))
    obtain ⟨h0, h1⟩ := ha _ (List.getLast_mem hne)
    obtain ⟨b, hb⟩ := Int.eq_ofNat_of_zero_le h0
    have hB : 0 < 2 ^ n := Nat.pow_pos (by decide)
    have hbB : b < 2 ^ n := by
      rw [hb] at h1
      have : ((b : Nat) : Int) < ((2 ^ n : Nat) : Int) := by rw [Int.natCast_pow]; exact h1
      omega
    refine ⟨x * 2 ^ n + b, ?_, ?_⟩
    · rw [pow_succ']
      have h2 : (x + 1) * 2 ^ n ≤ 2 ^ (n * k) * 2 ^ n := Nat.mul_le_mul_right _ hx
      rw [Nat.succ_mul] at h2
      omega
    · unfold digits
      have e1 : (x * 2 ^ n + b) / 2 ^ n = x := by
        rw [Nat.mul_comm, Nat.mul_add_div hB, Nat.div_eq_of_lt hbB]; rfl
      have e2 : (x * 2 ^ n + b) % 2 ^ n = b := by
        rw [Nat.mul_comm, Nat.mul_add_mod, Nat.mod_eq_of_lt hbB]
      rw [e1, e2, hd]
      rw [show ((b : Nat) : Int) = l.getLast hne from hb.symm]
      exact List.dropLast_concat_getLast hne
theorem mem_plans {r : Reef} (O : OkR r) (l : List Int) : l ∈ plans r.places.length r.seasons.toNat ↔ OkL r l := by
  have hs := O.s1
  unfold plans
  rw [List.mem_map]
  constructor
  · rintro ⟨x, _, rfl⟩
    refine ⟨by rw [dg_len]; omega, fun s h => dg_ok _ _ _ _ (List.getElem_mem h)⟩
  · intro OL
    obtain ⟨x, hx, hd⟩ := digits_all r.places.length r.seasons.toNat l (by have := OL.len; omega) (fun a ha => by
      obtain ⟨i, hi, rfl⟩ := List.getElem_of_mem ha
      exact OL.bit i hi)
    exact ⟨x, by simpa using hx, hd⟩
theorem plans_sorted (n k : Nat) : (plans n k).Pairwise fun a b => before b a = false := by
  unfold plans
  rw [List.pairwise_map]
  refine List.Pairwise.imp_of_mem (R := fun a b => a < b) ?_ List.pairwise_lt_range
  intro a b ha hb hab
  rw [List.mem_range] at ha hb
  rw [digits_before n k b a hb ha, decide_eq_false]
  omega
/-- What the search holds. -/
def Found (r : Reef) (L : List (List Int)) : Option (List Int) → Prop
  | none => ∀ x ∈ L, short r x ≠ none
  | some l => l ∈ L ∧ short r l = none ∧ ∀ x ∈ L, short r x = none → cost r l < cost r x ∨ (cost r l = cost r x ∧ before x l = false)
theorem found_step (r : Reef) {L : List (List Int)} {b : Option (List Int)} (x : List Int) (h : Found r L b) (hp : ∀ y ∈ L, before x y = false) : Found r (L ++ [x]) (better r b x) := by
  cases b with
  | none =>
    unfold better
    dsimp only
    cases hs : short r x with
    | none =>
      simp only [Option.isNone_none, if_true]
      refine ⟨by simp, hs, fun y hy hy2 => ?_⟩
      rw [List.mem_append, List.mem_singleton] at hy
      rcases hy with hy | rfl
      · exact absurd hy2 (h y hy)
      · exact .inr ⟨rfl, before_self _⟩
    | some z =>
      simp only [Option.isNone_some, Bool.false_eq_true, if_false]
      intro y hy
      rw [List.mem_append, List.mem_singleton] at hy
      rcases hy with hy | rfl
      · exact h y hy
      · rw [hs]; simp
  | some l =>
    obtain ⟨h1, h2, h3⟩ := h
    unfold better
    dsimp only
    by_cases hc : cost r l ≤ cost r x
    · rw [if_pos hc]
      refine ⟨by simp [h1], h2, fun y hy hy2 => ?_⟩
      rw [List.mem_append, List.mem_singleton] at hy
      rcases hy with hy | rfl
      · exact h3 y hy hy2
      · rcases Int.lt_or_eq_of_le hc with e | e
        · exact .inl e
        · exact .inr ⟨e, hp l h1⟩
    · rw [if_neg hc]
      cases hs : short r x with
      | none =>
        simp only [Option.isNone_none, if_true]
        refine ⟨by simp, hs, fun y hy hy2 => ?_⟩
        rw [List.mem_append, List.mem_singleton] at hy
        rcases hy with hy | rfl
        · have := h3 y hy hy2
          left; omega
        · exact .inr ⟨rfl, before_self _⟩
      | some z =>
        simp only [Option.isNone_some, Bool.false_eq_true, if_false]
        refine ⟨by simp [h1], h2, fun y hy hy2 => ?_⟩
        rw [List.mem_append, List.mem_singleton] at hy
        rcases hy with hy | rfl
        · exact h3 y hy hy2
        · rw [hs] at hy2; cases hy2
theorem found_fold (r : Reef) : ∀ (M L : List (List Int)) (b : Option (List Int)), Found r L b → (L ++ M).Pairwise (fun a b => before b a = false) → Found r (L ++ M) (M.foldl (better r) b)
  | [], L, b, h, _ => by simpa using h
  | x :: M, L, b, h, hp => by
    have hx : ∀ y ∈ L, before x y = false := fun y hy => by
      rw [List.pairwise_append] at hp
      exact hp.2.2 y hy x (by simp)
    have h1 := found_step r x h hx
    have h2 := found_fold r M (L ++ [x]) (better r b x) h1 (by simpa using hp)
    simpa using h2
/-- The theorem of closures. -/
theorem best_found {r : Reef} (O : OkR r) : match best r with
    | none => ∀ x, OkL r x → short r x ≠ none
    | some l => OkL r l ∧ short r l = none ∧ ∀ x, OkL r x → short r x = none → cost r l < cost r x ∨ (cost r l = cost r x ∧ before x l = false) := by
  have h := found_fold r (plans r.places.length r.seasons.toNat) [] none (by intro x hx; simp at hx) (by simpa using plans_sorted _ _)
  rw [List.nil_append] at h
  have e : best r = (plans r.places.length r.seasons.toNat).foldl (better r) none := rfl
  rw [e]
  cases hb : (plans r.places.length r.seasons.toNat).foldl (better r) none with
  | none =>
    rw [hb] at h
    exact fun x hx => h x ((mem_plans O x).2 hx)
  | some l =>
    rw [hb] at h
    exact ⟨(mem_plans O l).1 h.1, h.2.1, fun x hx hx2 => h.2.2 x ((mem_plans O x).2 hx) hx2⟩
theorem range_mul {α : Type} (f : Nat → α) (B : Nat) : ∀ A, (List.range (A * B)).map f = (List.range A).flatMap fun a => (List.range B).map fun b => f (a * B + b)
  | 0 => by simp
  | A + 1 => by
    rw [Nat.succ_mul, List.range_add, List.map_append, range_mul f B A, List.range_succ, List.flatMap_append, List.map_map]
    simp [Function.comp_def]
theorem digits_snoc (n k a b : Nat) (hb : b < 2 ^ n) : digits n (k + 1) (a * 2 ^ n + b) = digits n k a ++ [((b : Nat) : Int)] := by
  have hB : 0 < 2 ^ n := Nat.pow_pos (by decide)
  show digits n k ((a * 2 ^ n + b) / 2 ^ n) ++ [(((a * 2 ^ n + b) % 2 ^ n : Nat) : Int)] = _
  have e1 : (a * 2 ^ n + b) / 2 ^ n = a := by rw [Nat.mul_comm, Nat.mul_add_div hB, Nat.div_eq_of_lt hb]; rfl
  have e2 : (a * 2 ^ n + b) % 2 ^ n = b := by rw [Nat.mul_comm, Nat.mul_add_mod, Nat.mod_eq_of_lt hb]
  rw [e1, e2]
/-- What comes behind each list. -/
def more (n : Nat) (p : List Int) : List (List Int) := (List.range (2 ^ n)).map fun x => p ++ [((x : Nat) : Int)]
theorem plans_succ (n k : Nat) : plans n (k + 1) = (plans n k).flatMap (more n) := by
  unfold plans
  rw [pow_succ', range_mul, List.flatMap_map]
  congr 1
  funext a
  unfold more
  apply List.map_congr_left
  intro b hb
  exact digits_snoc n k a b (by simpa using hb)
theorem plans_zero (n : Nat) : plans n 0 = [[]] := by simp [plans, digits]
theorem plans_len (n k : Nat) : (plans n k).length = 2 ^ (n * k) := by simp [plans]
theorem plans_row (n k : Nat) (p : List Int) (h : p ∈ plans n k) : p.length = k := by
  unfold plans at h
  rw [List.mem_map] at h
  obtain ⟨x, _, rfl⟩ := h
  exact dg_len n k x
def gath (n : Nat) (O : List (List Int)) (j : Nat) : List (List Int) := (O.take j).flatMap (more n)
theorem gath_succ (n : Nat) (O : List (List Int)) {j : Nat} (h : j < O.length) : gath n O (j + 1) = gath n O j ++ more n O[j] := by
  unfold gath
  rw [List.take_succ_eq_append_getElem h, List.flatMap_append]; simp
theorem gath_all (n k : Nat) : gath n (plans n k) (plans n k).length = plans n (k + 1) := by
  unfold gath; rw [List.take_length, plans_succ]
theorem more_len (n : Nat) (p : List Int) : (more n p).length = 2 ^ n := by simp [more]
theorem gath_len (n : Nat) (O : List (List Int)) (j : Nat) (h : j ≤ O.length) : (gath n O j).length = j * 2 ^ n := by
  induction j with
  | zero => simp [gath]
  | succ j ih => rw [gath_succ n O (by omega), List.length_append, ih (by omega), more_len, Nat.succ_mul]
end Go.Proofs.Ythffoglpekpmdaa.R
