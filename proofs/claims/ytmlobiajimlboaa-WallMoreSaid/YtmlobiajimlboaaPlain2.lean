import Derived.Test.YtmlobiajimlboaaPlain
namespace Go.Proofs.Ytmlobiajimlboaa.W
set_option linter.unusedVariables false
set_option linter.unusedSimpArgs false

structure Choice where
  houses : Int
  cost : Int
  plan : List Int
  deriving DecidableEq, Inhabited

def better (a b : Choice) : Bool := decide (b.houses < a.houses) || ((a.houses == b.houses) && decide (a.cost < b.cost))
def hasHouse (c : Cell) : Bool := c.fl != -1
def houses : List Cell → Int
  | [] => 0
  | c :: cs => (if hasHouse c then 1 else 0) + houses cs
def spared (c : Cell) (l : Int) : Int := if hasHouse c && decide (l - c.g ≤ c.fl) then 1 else 0

def cand (ws : List Work) (rest : Int → Int → Choice) (c : Cell) (cs : List Cell) (l m p : Int) : Option Choice :=
  if m < (work ws p).cost then none
  else if l - c.dl - (work ws p).calm ≤ c.g + (work ws p).rise then some ⟨houses (c :: cs), (work ws p).cost, p :: List.replicate cs.length (-1)⟩
  else some ⟨(rest (l - c.dl - (work ws p).calm) (m - (work ws p).cost)).houses + spared c (l - c.dl - (work ws p).calm), (rest (l - c.dl - (work ws p).calm) (m - (work ws p).cost)).cost + (work ws p).cost, p :: (rest (l - c.dl - (work ws p).calm) (m - (work ws p).cost)).plan⟩
def options (n : Nat) : List Int := (-1) :: (List.range n).map Int.ofNat
def pick1 (o x : Choice) : Choice := if better x o then x else o
def pick : List Choice → Choice
  | [] => ⟨0, 0, []⟩
  | x :: xs => xs.foldl pick1 x
def search (ws : List Work) : List Cell → Int → Int → Choice
  | [], _, _ => ⟨0, 0, []⟩
  | c :: cs, l, m => pick ((options ws.length).filterMap (cand ws (search ws cs) c cs l m))

/-- How many houses stay dry behind a plan, if the water comes with this level. -/
def dryHouses (ws : List Work) : Int → List Cell → List Int → Int
  | l, c :: cs, p :: ps =>
    if l - c.dl - (work ws p).calm ≤ c.g + (work ws p).rise then houses (c :: cs)
    else spared c (l - c.dl - (work ws p).calm) + dryHouses ws (l - c.dl - (work ws p).calm) cs ps
  | _, _, _ => 0
def costs (ws : List Work) : List Int → Int
  | [] => 0
  | p :: ps => (work ws p).cost + costs ws ps
def lexlt : List Int → List Int → Bool
  | a :: as, b :: bs => if a = b then lexlt as bs else decide (a < b)
  | _, _ => false
/-- A plan for so many cells, over so many works. -/
def Plan (n k : Nat) (q : List Int) : Prop := q.length = k ∧ ∀ p ∈ q, -1 ≤ p ∧ p < n

theorem work_cost (ws : List Work) (hw : ∀ w ∈ ws, 0 ≤ w.cost) (p : Int) : 0 ≤ (work ws p).cost := by
  unfold work
  split
  · cases h : ws[p.toNat]? with
    | none => exact Int.le_refl _
    | some w => exact hw w (List.mem_of_getElem? h)
  · exact Int.le_refl _
theorem work_none (ws : List Work) : work ws (-1) = noWork := rfl
theorem costs_nn (ws : List Work) (hw : ∀ w ∈ ws, 0 ≤ w.cost) : ∀ q, 0 ≤ costs ws q
  | [] => Int.le_refl _
  | p :: q => Int.add_nonneg (work_cost ws hw p) (costs_nn ws hw q)
theorem costs_none (ws : List Work) : ∀ n, costs ws (List.replicate n (-1)) = 0
  | 0 => rfl
  | n + 1 => by rw [List.replicate_succ]; simp only [costs, work_none, costs_none ws n]; rfl
theorem lexlt_irrefl : ∀ q, lexlt q q = false
  | [] => rfl
  | a :: q => by simp [lexlt, lexlt_irrefl q]
theorem lexlt_none (n : Nat) : ∀ (k : Nat) (q : List Int), Plan n k q → lexlt q (List.replicate k (-1)) = false
  | 0, [], _ => rfl
  | k + 1, [], h => by cases h.1
  | 0, _ :: _, h => by cases h.1
  | k + 1, p :: q, h => by
    have h1 : q.length = k := by have := h.1; simpa using this
    have hp := h.2 p (by simp)
    have ih := lexlt_none n k q ⟨h1, fun x hx => h.2 x (by simp [hx])⟩
    rw [List.replicate_succ, lexlt]
    split
    · exact ih
    · simp; omega
theorem mem_options {n : Nat} {p : Int} : p ∈ options n ↔ -1 ≤ p ∧ p < n := by
  simp only [options, List.mem_cons, List.mem_map, List.mem_range]
  constructor
  · rintro (rfl | ⟨a, ha, rfl⟩)
    · exact ⟨Int.le_refl _, by omega⟩
    · simp only [Int.ofNat_eq_natCast]; omega
  · rintro ⟨h1, h2⟩
    by_cases h : p = -1
    · exact .inl h
    · exact .inr ⟨p.toNat, by omega, by simp only [Int.ofNat_eq_natCast]; omega⟩

/-! ### The first of the best -/
def key2 (h c h' c' : Int) : Prop := h < h' ∨ (h = h' ∧ c' ≤ c)
theorem better_iff (a b : Choice) : better a b = true ↔ b.houses < a.houses ∨ (a.houses = b.houses ∧ a.cost < b.cost) := by
  simp [better]
/-- 'pick' over a list: it is one of them, nothing of the list is better, and it is better than all before it. -/
theorem pick_spec : ∀ (xs : List Choice) (pre : List Choice) (o : Choice) (mid : List Choice),
    (∀ y ∈ pre, better o y = true) → (∀ y ∈ mid, better y o = false) →
    ∃ a b r, pre ++ o :: mid ++ xs = a ++ r :: b ∧ xs.foldl pick1 o = r ∧ (∀ y ∈ a, better r y = true) ∧ (∀ y ∈ b, better y r = false)
  | [], pre, o, mid, h1, h2 => ⟨pre, mid, o, by simp, rfl, h1, h2⟩
  | x :: xs, pre, o, mid, h1, h2 => by
    simp only [List.foldl_cons]
    by_cases hb : better x o = true
    · have e : pick1 o x = x := by simp [pick1, hb]
      rw [e]
      have := pick_spec xs (pre ++ o :: mid) x [] (by
        intro y hy
        rw [better_iff] at hb ⊢
        simp only [List.mem_append, List.mem_cons] at hy
        rcases hy with hy | rfl | hy
        · have := h1 y hy; rw [better_iff] at this; omega
        · omega
        · have := h2 y hy
          have h3 : ¬ (better y o = true) := by simp [this]
          rw [better_iff] at h3; omega) (by simp)
      simpa using this
    · have e : pick1 o x = o := by simp [pick1, hb]
      rw [e]
      have := pick_spec xs pre o (mid ++ [x]) h1 (by
        intro y hy
        simp only [List.mem_append, List.mem_singleton] at hy
        rcases hy with hy | rfl
        · exact h2 y hy
        · simpa using hb)
      simpa using this
theorem pick_split (x : Choice) (xs : List Choice) : ∃ a b r, x :: xs = a ++ r :: b ∧ pick (x :: xs) = r ∧ (∀ y ∈ a, better r y = true) ∧ (∀ y ∈ b, better y r = false) := by
  simpa [pick] using pick_spec xs [] x [] (by simp) (by simp)

/-- What the search promises. -/
structure Best (ws : List Work) (cs : List Cell) (l m : Int) (r : Choice) : Prop where
  plan : Plan ws.length cs.length r.plan
  houses : r.houses = dryHouses ws l cs r.plan
  cost : r.cost = costs ws r.plan
  pays : r.cost ≤ m
  most : ∀ q, Plan ws.length cs.length q → costs ws q ≤ m →
    dryHouses ws l cs q < r.houses ∨ (dryHouses ws l cs q = r.houses ∧ (r.cost < costs ws q ∨ (r.cost = costs ws q ∧ lexlt q r.plan = false)))

theorem filterMap_split {α β : Type} (f : α → Option β) : ∀ (l : List α) (a : List β) (r : β) (b : List β), l.filterMap f = a ++ r :: b →
    ∃ l1 x l2, l = l1 ++ x :: l2 ∧ l1.filterMap f = a ∧ f x = some r ∧ l2.filterMap f = b
  | [], a, r, b, h => by simp at h
  | x :: l, a, r, b, h => by
    cases hx : f x with
    | none =>
      rw [List.filterMap_cons_none hx] at h
      obtain ⟨l1, y, l2, rfl, h1, h2, h3⟩ := filterMap_split f l a r b h
      exact ⟨x :: l1, y, l2, rfl, by rw [List.filterMap_cons_none hx]; exact h1, h2, h3⟩
    | some v =>
      rw [List.filterMap_cons_some hx] at h
      cases a with
      | nil =>
        simp only [List.nil_append, List.cons.injEq] at h
        exact ⟨[], x, l, rfl, rfl, by rw [hx, h.1], h.2⟩
      | cons y a =>
        simp only [List.cons_append, List.cons.injEq] at h
        obtain ⟨l1, z, l2, rfl, h1, h2, h3⟩ := filterMap_split f l a r b h.2
        exact ⟨x :: l1, z, l2, rfl, by rw [List.filterMap_cons_some hx, h1, h.1], h2, h3⟩

theorem options_sorted (n : Nat) : (options n).Pairwise (· < ·) := by
  rw [options, List.pairwise_cons]
  constructor
  · intro a ha
    simp only [List.mem_map, List.mem_range] at ha
    obtain ⟨k, _, rfl⟩ := ha
    simp only [Int.ofNat_eq_natCast]; omega
  · rw [List.pairwise_map]
    exact List.pairwise_lt_range.imp fun h => by simp only [Int.ofNat_eq_natCast]; omega

/-- A candidate is what its first work makes of it: it is a plan, and no other plan that begins so is better. -/
theorem cand_best {ws : List Work} (hw : ∀ w ∈ ws, 0 ≤ w.cost) {c : Cell} {cs : List Cell} {l m p : Int} (hp : -1 ≤ p ∧ p < ws.length)
    (ih : ∀ l m, 0 ≤ m → Best ws cs l m (search ws cs l m)) {x : Choice} (hx : cand ws (search ws cs) c cs l m p = some x) :
    (∃ q, x.plan = p :: q) ∧ Plan ws.length (c :: cs).length x.plan ∧ x.houses = dryHouses ws l (c :: cs) x.plan ∧ x.cost = costs ws x.plan ∧ x.cost ≤ m ∧
    ∀ q, Plan ws.length cs.length q → costs ws (p :: q) ≤ m →
      dryHouses ws l (c :: cs) (p :: q) < x.houses ∨ (dryHouses ws l (c :: cs) (p :: q) = x.houses ∧ (x.cost < costs ws (p :: q) ∨ (x.cost = costs ws (p :: q) ∧ lexlt (p :: q) x.plan = false))) := by
  unfold cand at hx
  split at hx
  · cases hx
  rename_i hm
  split at hx
  · rename_i hs
    obtain rfl := Option.some.inj hx
    refine ⟨⟨_, rfl⟩, ⟨by simp, ?_⟩, ?_, ?_, by dsimp only; omega, ?_⟩
    · intro z hz
      simp only [List.mem_cons, List.mem_replicate] at hz
      rcases hz with rfl | ⟨_, rfl⟩
      · exact hp
      · omega
    · simp only [dryHouses]; rw [if_pos hs]
    · simp only [costs, costs_none]; omega
    · intro q hq _
      have := costs_nn ws hw q
      have h2 : lexlt (p :: q) (p :: List.replicate cs.length (-1)) = false := by rw [lexlt, if_pos rfl]; exact lexlt_none _ _ q hq
      refine .inr ⟨by simp only [dryHouses, if_pos hs], ?_⟩
      show (work ws p).cost < (work ws p).cost + costs ws q ∨ ((work ws p).cost = (work ws p).cost + costs ws q ∧ _)
      by_cases h0 : costs ws q = 0
      · exact .inr ⟨by omega, h2⟩
      · exact .inl (by omega)
  · rename_i hs
    obtain rfl := Option.some.inj hx
    have B := ih (l - c.dl - (work ws p).calm) (m - (work ws p).cost) (by omega)
    refine ⟨⟨_, rfl⟩, ⟨by simp [B.plan.1], ?_⟩, ?_, ?_, ?_, ?_⟩
    · intro z hz
      simp only [List.mem_cons] at hz
      rcases hz with rfl | hz
      · exact hp
      · exact B.plan.2 z hz
    · simp only [dryHouses]; rw [if_neg hs, ← B.houses]; omega
    · simp only [costs]; rw [← B.cost]; omega
    · have := B.pays; dsimp only; omega
    · intro q hq hc
      simp only [costs] at hc
      have e1 : dryHouses ws l (c :: cs) (p :: q) = spared c (l - c.dl - (work ws p).calm) + dryHouses ws (l - c.dl - (work ws p).calm) cs q := by simp only [dryHouses, if_neg hs]
      have e2 : costs ws (p :: q) = (work ws p).cost + costs ws q := rfl
      rw [e1, e2]
      dsimp only
      rcases B.most q hq (by omega) with h | ⟨h, h | ⟨h, h'⟩⟩
      · exact .inl (by omega)
      · exact .inr ⟨by omega, .inl (by omega)⟩
      · exact .inr ⟨by omega, .inr ⟨by omega, by rw [lexlt, if_pos rfl]; exact h'⟩⟩

theorem search_best {ws : List Work} (hw : ∀ w ∈ ws, 0 ≤ w.cost) : ∀ (cs : List Cell) (l m : Int), 0 ≤ m → Best ws cs l m (search ws cs l m)
  | [], l, m, hm => by
    refine ⟨⟨rfl, fun _ h => by cases h⟩, rfl, rfl, hm, ?_⟩
    rintro q ⟨hq, _⟩ _
    obtain rfl : q = [] := by cases q with | nil => rfl | cons _ _ => cases hq
    exact .inr ⟨rfl, .inr ⟨rfl, rfl⟩⟩
  | c :: cs, l, m, hm => by
    have ih := search_best hw cs
    simp only [search]
    obtain ⟨x0, xs, hxs⟩ : ∃ x0 xs, (options ws.length).filterMap (cand ws (search ws cs) c cs l m) = x0 :: xs := by
      have : ∃ y, cand ws (search ws cs) c cs l m (-1) = some y := by
        unfold cand
        rw [work_none, if_neg (by show ¬ m < 0; omega)]
        split <;> exact ⟨_, rfl⟩
      obtain ⟨y, hy⟩ := this
      exact ⟨y, _, by rw [options, List.filterMap_cons_some hy]⟩
    rw [hxs]
    obtain ⟨a, b, r, hab, hr, ha, hb⟩ := pick_split x0 xs
    rw [hr]
    rw [hab] at hxs
    obtain ⟨l1, p0, l2, ho, h1, h2, h3⟩ := filterMap_split _ _ _ _ _ hxs
    have hp0 : -1 ≤ p0 ∧ p0 < ws.length := mem_options.1 (by rw [ho]; simp)
    obtain ⟨⟨q0, hq0⟩, g1, g2, g3, g4, g5⟩ := cand_best hw hp0 ih h2
    refine ⟨g1, g2, g3, g4, ?_⟩
    rintro q ⟨hq, hq'⟩ hc
    match q, hq, hq', hc with
    | p :: q, hq, hq', hc =>
      have hpl : Plan ws.length cs.length q := ⟨by simpa using hq, fun z hz => hq' z (by simp [hz])⟩
      have hp := hq' p (by simp)
      have hmem : p ∈ l1 ++ p0 :: l2 := by rw [← ho]; exact mem_options.2 hp
      have hcost := hc
      simp only [costs] at hcost
      have := costs_nn ws hw q
      obtain ⟨x, hx⟩ : ∃ x, cand ws (search ws cs) c cs l m p = some x := by
        unfold cand
        rw [if_neg (by omega)]
        split <;> exact ⟨_, rfl⟩
      obtain ⟨_, k1, k2, k3, k4, k5⟩ := cand_best hw hp ih hx
      have k := k5 q hpl hc
      simp only [List.mem_append, List.mem_cons] at hmem
      rcases hmem with hm1 | rfl | hm2
      · have hxa : x ∈ a := by rw [← h1]; exact List.mem_filterMap.2 ⟨p, hm1, hx⟩
        have := ha x hxa
        rw [better_iff] at this
        omega
      · exact g5 q hpl hc
      · have hxb : x ∈ b := by rw [← h3]; exact List.mem_filterMap.2 ⟨p, hm2, hx⟩
        have h4 := hb x hxb
        have h5 : ¬ (better x r = true) := by simp [h4]
        rw [better_iff] at h5
        have hlt : p0 < p := by
          have := options_sorted ws.length
          rw [ho, List.pairwise_append, List.pairwise_cons] at this
          exact this.2.1.1 p hm2
        have hl : lexlt (p :: q) r.plan = false := by
          rw [hq0, lexlt, if_neg (by omega)]; simp; omega
        have hg : dryHouses ws l (c :: cs) (p :: q) < r.houses ∨ (dryHouses ws l (c :: cs) (p :: q) = r.houses ∧ r.cost ≤ costs ws (p :: q)) := by omega
        rcases hg with hg | ⟨hg, hg'⟩
        · exact .inl hg
        · refine .inr ⟨hg, ?_⟩
          rcases Int.lt_or_eq_of_le hg' with hg' | hg'
          · exact .inl hg'
          · exact .inr ⟨hg', hl⟩

end Go.Proofs.Ytmlobiajimlboaa.W
