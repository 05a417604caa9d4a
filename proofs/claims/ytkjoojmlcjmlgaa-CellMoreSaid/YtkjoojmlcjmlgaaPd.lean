/- The order of weathers, what is known, faults: plain mathematics. -/
import Derived.Test.YtkjoojmlcjmlgaaH11
namespace Go.Proofs.Ytkjoojmlcjmlgaa
set_option linter.unusedVariables false
set_option linter.unusedSimpArgs false
theorem tx_len : ∀ (n x : Nat), (C.textOf n x).length = n
  | 0, _ => rfl
  | n + 1, x => by unfold C.textOf; rw [List.length_append, tx_len n]; rfl
theorem tx_letters : ∀ (n x : Nat), ∀ y ∈ C.textOf n x, y = 115 ∨ y = 99
  | 0, _, y, h => by cases h
  | n + 1, x, y, h => by
    unfold C.textOf at h
    rw [List.mem_append] at h
    rcases h with h | h
    · exact tx_letters n _ y h
    · split at h <;> simp at h <;> simp [h]
theorem before_append : ∀ (a b c d : List UInt8), a.length = b.length → beforeB a b = true → beforeB (a ++ c) (b ++ d) = true
  | [], [], _, _, _, h => by simp [beforeB] at h
  | x :: xs, y :: ys, c, d, hl, h => by
    rw [List.cons_append, List.cons_append]
    rw [before_cons] at h ⊢
    split
    · rename_i hxy
      rw [if_pos hxy] at h
      exact before_append xs ys c d (by simpa using hl) h
    · rename_i hxy
      rw [if_neg hxy] at h
      exact h
  | [], _ :: _, _, _, hl, _ => by cases hl
  | _ :: _, [], _, _, hl, _ => by cases hl
theorem before_tail : ∀ (a c d : List UInt8), beforeB (a ++ c) (a ++ d) = beforeB c d
  | [], _, _ => rfl
  | x :: xs, c, d => by rw [List.cons_append, List.cons_append, before_cons, if_pos rfl, before_tail xs]
theorem before_irrefl : ∀ (a : List UInt8), beforeB a a = false
  | [] => rfl
  | x :: xs => by rw [before_cons, if_pos rfl, before_irrefl xs]
theorem before_asymm : ∀ (a b : List UInt8), (∀ y ∈ b, y = 115 ∨ y = 99) → (∀ y ∈ a, y = 115 ∨ y = 99) → beforeB a b = true → beforeB b a = false
  | [], _, _, _, h => by simp [beforeB] at h
  | _ :: _, [], _, _, h => by simp [beforeB] at h
  | x :: xs, y :: ys, hb, ha, h => by
    rw [before_cons] at h ⊢
    by_cases hxy : x = y
    · rw [if_pos hxy] at h
      rw [if_pos hxy.symm]
      exact before_asymm xs ys (fun z hz => hb z (List.mem_cons_of_mem _ hz)) (fun z hz => ha z (List.mem_cons_of_mem _ hz)) h
    · rw [if_neg hxy] at h
      rw [if_neg (fun e => hxy e.symm)]
      have hx : x = 115 := by simpa using h
      have := hb y (by simp)
      rcases this with e | e
      · exact absurd (hx.trans e.symm) hxy
      · rw [e]; rfl
theorem tx_before : ∀ (n x y : Nat), x < y → y < 2 ^ n → beforeB (C.textOf n x) (C.textOf n y) = true
  | 0, x, y, h1, h2 => by omega
  | n + 1, x, y, h1, h2 => by
    unfold C.textOf
    rw [Nat.pow_succ] at h2
    by_cases h : x / 2 = y / 2
    · rw [h, before_tail, if_neg (by omega), if_pos (by omega)]
      rfl
    · exact before_append _ _ _ _ (by rw [tx_len, tx_len]) (tx_before n _ _ (by omega) (by omega))
theorem texts_pair (n : Nat) : (C.texts n).Pairwise fun a b => beforeB a b = true := by
  unfold C.texts
  rw [List.pairwise_map]
  refine List.Pairwise.imp_of_mem ?_ List.pairwise_lt_range
  intro x y hx hy h
  exact tx_before n x y h (List.mem_range.1 hy)
theorem weathers_pair (c : C.Sys) : (C.weathers c).Pairwise fun a b => beforeB a b = true := List.Pairwise.filter _ (texts_pair _)
/-- Each text of letters stands among the texts. -/
theorem tx_mem : ∀ (n : Nat) (w : List UInt8), w.length = n → (∀ y ∈ w, y = 115 ∨ y = 99) → ∃ x, x < 2 ^ n ∧ C.textOf n x = w
  | 0, w, hl, _ => ⟨0, by simp, by rw [List.length_eq_zero_iff.1 hl]; rfl⟩
  | n + 1, w, hl, hw => by
    have hne : w ≠ [] := by intro h; rw [h] at hl; cases hl
    obtain ⟨x, hx, he⟩ := tx_mem n w.dropLast (by rw [List.length_dropLast]; omega) (fun y hy => hw y (List.dropLast_subset _ hy))
    have hlast := hw _ (List.getLast_mem hne)
    have hcat := List.dropLast_concat_getLast hne
    rw [Nat.pow_succ]
    rcases hlast with e | e
    · refine ⟨2 * x, by omega, ?_⟩
      unfold C.textOf
      rw [show 2 * x / 2 = x by omega, if_neg (by omega), he, ← e, hcat]
    · refine ⟨2 * x + 1, by omega, ?_⟩
      unfold C.textOf
      rw [show (2 * x + 1) / 2 = x by omega, if_pos (by omega), he, ← e, hcat]
theorem letterB_of {y : UInt8} : C.letterB y = true ↔ (y = 115 ∨ y = 99) := by
  unfold C.letterB; simp
theorem weather_mem {c : C.Sys} {w : C.Txt} (h1 : C.weatherB c w = true) (h2 : C.allowed c w = true) : w ∈ C.weathers c := by
  unfold C.weatherB at h1
  rw [Bool.and_eq_true, List.all_eq_true, decide_eq_true_eq] at h1
  unfold C.weathers
  rw [List.mem_filter]
  refine ⟨?_, h2⟩
  unfold C.texts
  obtain ⟨x, hx, he⟩ := tx_mem c.days.toNat w (by omega) (fun y hy => letterB_of.1 (h1.1 y hy))
  exact List.mem_map.2 ⟨x, List.mem_range.2 hx, he⟩
theorem weather_of {c : C.Sys} {w : C.Txt} (h0 : 0 ≤ c.days) (h : w ∈ C.weathers c) : C.weatherB c w = true ∧ C.allowed c w = true ∧ w.length = c.days.toNat := by
  unfold C.weathers at h
  rw [List.mem_filter] at h
  obtain ⟨h1, h2⟩ := h
  unfold C.texts at h1
  obtain ⟨x, hx, rfl⟩ := List.mem_map.1 h1
  refine ⟨?_, h2, tx_len _ _⟩
  unfold C.weatherB
  rw [Bool.and_eq_true, List.all_eq_true, decide_eq_true_eq, tx_len]
  exact ⟨fun y hy => letterB_of.2 (tx_letters _ _ y hy), by omega⟩
/-- The sky's text of letters alone. -/
theorem agrees_cons (x y : UInt8) (xs ys : List UInt8) : C.agrees (x :: xs) (y :: ys) = ((y == 63 || y == x) && C.agrees xs ys) := rfl
theorem agrees_letters : ∀ (s t : C.Txt), s.length = t.length → (∀ y ∈ t, y = 115 ∨ y = 99) → C.agrees s t = decide (s = t)
  | [], [], _, _ => rfl
  | x :: xs, y :: ys, hl, h => by
    rw [agrees_cons, agrees_letters xs ys (by simpa using hl) (fun z hz => h z (List.mem_cons_of_mem _ hz))]
    have h63 : (y == 63) = false := by
      rcases h y (by simp) with rfl | rfl <;> rfl
    rw [h63, Bool.false_or]
    by_cases e : x = y
    · subst e; simp
    · have : (y == x) = false := by simpa using fun h => e h.symm
      rw [this]; simp [e]
  | [], _ :: _, hl, _ => by cases hl
  | _ :: _, [], hl, _ => by cases hl
theorem filter_one {l : List C.Txt} {w : C.Txt} (hm : w ∈ l) (hp : l.Pairwise fun a b => beforeB a b = true) : l.filter (fun t => decide (t = w)) = [w] := by
  obtain ⟨A, B, rfl⟩ := List.append_of_mem hm
  rw [List.pairwise_append, List.pairwise_cons] at hp
  obtain ⟨_, ⟨h1, _⟩, h2⟩ := hp
  rw [List.filter_append, List.filter_cons, if_pos (by simp)]
  have e1 : A.filter (fun t => decide (t = w)) = [] := by
    rw [List.filter_eq_nil_iff]
    intro t ht
    have := h2 t ht w (by simp)
    simp only [decide_eq_true_eq]
    rintro rfl
    rw [before_irrefl] at this; cases this
  have e2 : B.filter (fun t => decide (t = w)) = [] := by
    rw [List.filter_eq_nil_iff]
    intro t ht
    have := h1 t ht
    simp only [decide_eq_true_eq]
    rintro rfl
    rw [before_irrefl] at this; cases this
  rw [e1, e2]; rfl
theorem agreeing_one {c : C.Sys} {w : C.Txt} (h0 : 0 ≤ c.days) (h1 : C.weatherB c w = true) (h2 : C.allowed c w = true) : C.agreeing c w = [w] := by
  have hm := weather_mem h1 h2
  have hw := weather_of h0 hm
  rw [← filter_one hm (weathers_pair c)]
  unfold C.agreeing
  refine List.filter_congr fun t ht => ?_
  have ht' := weather_of h0 ht
  unfold C.weatherB at h1
  rw [Bool.and_eq_true, List.all_eq_true] at h1
  exact agrees_letters t w (by rw [ht'.2.2, hw.2.2]) (fun y hy => letterB_of.1 (h1.1 y hy))
/-- What Fault tells. -/
theorem fault_none {c : C.Sys} {p b off : Int} (h : C.fault c p b off = none) {w : C.Txt} (hw : w ∈ C.weathers c) : C.firstDown c (C.run c p b off w) = none := by
  unfold C.fault at h
  have := List.findSome?_eq_none_iff.1 h w hw
  simpa using this
theorem firstDown_none {c : C.Sys} {l : List C.Day} (h : C.firstDown c l = none) {d : Nat} (hd : d < l.length) : C.down c (C.dat l d) = none := by
  unfold C.firstDown at h
  have := List.findSome?_eq_none_iff.1 h d (List.mem_range.2 hd)
  simpa using this
theorem range_split {n d : Nat} {A B : List Nat} (h : List.range n = A ++ d :: B) : A = List.range d ∧ d < n := by
  have hl : n = A.length + (B.length + 1) := by have := congrArg List.length h; simpa using this
  have hd : d = A.length := by
    have := congrArg (fun l => l[A.length]?) h
    simp at this
    rw [List.getElem?_range (by omega)] at this
    exact (Option.some.inj this).symm
  refine ⟨?_, by omega⟩
  have := congrArg (List.take A.length) h
  rw [List.take_append_of_le_length (Nat.le_refl _), List.take_length, List.take_range, Nat.min_eq_left (by omega)] at this
  rw [hd, this]
theorem firstDown_some {c : C.Sys} {l : List C.Day} {d i : Nat} (h : C.firstDown c l = some (d, i)) : d < l.length ∧ C.down c (C.dat l d) = some i ∧ ∀ k, k < d → C.down c (C.dat l k) = none := by
  unfold C.firstDown at h
  obtain ⟨A, x, B, hAB, hx, hA⟩ := List.findSome?_eq_some_iff.1 h
  cases hz : C.down c (C.dat l x) with
  | none => rw [hz] at hx; cases hx
  | some j =>
    rw [hz] at hx
    have e : x = d ∧ j = i := by simpa using hx
    obtain ⟨rfl, rfl⟩ := e
    obtain ⟨h1, h2⟩ := range_split hAB
    subst h1
    refine ⟨h2, hz, fun k hk => ?_⟩
    have := hA k (List.mem_range.2 hk)
    simpa using this
theorem fault_some {c : C.Sys} {p b off : Int} {w' : C.Txt} {d i : Nat} (h0 : 0 ≤ c.days) (h : C.fault c p b off = some (w', d, i)) :
    w' ∈ C.weathers c ∧ C.firstDown c (C.run c p b off w') = some (d, i) ∧ ∀ w ∈ C.weathers c, beforeB w w' = true → C.firstDown c (C.run c p b off w) = none := by
  unfold C.fault at h
  obtain ⟨A, x, B, hAB, hx, hA⟩ := List.findSome?_eq_some_iff.1 h
  cases hz : C.firstDown c (C.run c p b off x) with
  | none => rw [hz] at hx; cases hx
  | some j =>
    rw [hz] at hx
    have e : x = w' ∧ j = (d, i) := by
      simp at hx; exact ⟨hx.1, by rw [Prod.ext_iff]; exact hx.2⟩
    obtain ⟨rfl, rfl⟩ := e
    have hpw := weathers_pair c
    rw [hAB] at hpw
    refine ⟨by rw [hAB]; simp, hz, fun w hw hb => ?_⟩
    have hw' := hw
    rw [hAB, List.mem_append, List.mem_cons] at hw
    rcases hw with hw | rfl | hw
    · have := hA w hw
      simpa using this
    · rw [before_irrefl] at hb; cases hb
    · have h3 := (List.pairwise_cons.1 (List.pairwise_append.1 hpw).2.1).1 w hw
      have L1 := weather_of h0 hw'
      have L2 := weather_of (c := c) (w := x) h0 (by rw [hAB]; simp)
      have hl : ∀ t, C.weatherB c t = true → ∀ y ∈ t, y = 115 ∨ y = 99 := fun t ht y hy => by
        unfold C.weatherB at ht
        rw [Bool.and_eq_true, List.all_eq_true] at ht
        exact letterB_of.1 (ht.1 y hy)
      have := before_asymm x w (hl w L1.1) (hl x L2.1) h3
      rw [hb] at this; cases this
end Go.Proofs.Ytkjoojmlcjmlgaa
namespace Go.Proofs.Ytkjoojmlcjmlgaa
set_option linter.unusedVariables false
set_option linter.unusedSimpArgs false
theorem imin_fold : ∀ (l : List Int) (a : Int), (l.foldl C.imin a ≤ a ∧ ∀ x ∈ l, l.foldl C.imin a ≤ x) ∧ (l.foldl C.imin a = a ∨ l.foldl C.imin a ∈ l)
  | [], a => ⟨⟨Int.le_refl _, fun _ h => by cases h⟩, .inl rfl⟩
  | y :: l, a => by
    obtain ⟨⟨h1, h2⟩, h3⟩ := imin_fold l (C.imin a y)
    have hm : C.imin a y ≤ a ∧ C.imin a y ≤ y ∧ (C.imin a y = a ∨ C.imin a y = y) := by unfold C.imin; split <;> omega
    rw [List.foldl_cons]
    refine ⟨⟨by omega, fun x hx => ?_⟩, ?_⟩
    · rcases List.mem_cons.1 hx with rfl | hx
      · omega
      · exact h2 x hx
    · rcases h3 with h3 | h3
      · rcases hm.2.2 with e | e
        · exact .inl (h3.trans e)
        · exact .inr (by rw [h3, e]; exact List.mem_cons_self)
      · exact .inr (List.mem_cons_of_mem _ h3)
theorem imax_fold : ∀ (l : List Int) (a : Int), (a ≤ l.foldl C.imax a ∧ ∀ x ∈ l, x ≤ l.foldl C.imax a) ∧ (l.foldl C.imax a = a ∨ l.foldl C.imax a ∈ l)
  | [], a => ⟨⟨Int.le_refl _, fun _ h => by cases h⟩, .inl rfl⟩
  | y :: l, a => by
    obtain ⟨⟨h1, h2⟩, h3⟩ := imax_fold l (C.imax a y)
    have hm : a ≤ C.imax a y ∧ y ≤ C.imax a y ∧ (C.imax a y = a ∨ C.imax a y = y) := by unfold C.imax; split <;> omega
    rw [List.foldl_cons]
    refine ⟨⟨by omega, fun x hx => ?_⟩, ?_⟩
    · rcases List.mem_cons.1 hx with rfl | hx
      · omega
      · exact h2 x hx
    · rcases h3 with h3 | h3
      · rcases hm.2.2 with e | e
        · exact .inl (h3.trans e)
        · exact .inr (by rw [h3, e]; exact List.mem_cons_self)
      · exact .inr (List.mem_cons_of_mem _ h3)
theorem getD_zero_mem {α : Type} {l : List α} {a : α} (h : l ≠ []) : l.getD 0 a ∈ l := by
  cases l with
  | nil => exact absurd rfl h
  | cons x xs => exact List.mem_cons_self
theorem low_le {rs : List (List C.Day)} {r : List C.Day} (h : r ∈ rs) (d : Nat) : C.lowOf rs d ≤ (C.dat r d).battery :=
  (imin_fold _ _).1.2 _ (List.mem_map.2 ⟨r, h, rfl⟩)
theorem le_high {rs : List (List C.Day)} {r : List C.Day} (h : r ∈ rs) (d : Nat) : (C.dat r d).battery ≤ C.highOf rs d :=
  (imax_fold _ _).1.2 _ (List.mem_map.2 ⟨r, h, rfl⟩)
theorem low_mem {rs : List (List C.Day)} (h : rs ≠ []) (d : Nat) : ∃ r ∈ rs, C.lowOf rs d = (C.dat r d).battery := by
  rcases (imin_fold (rs.map fun l => (C.dat l d).battery) (C.dat (rs.getD 0 []) d).battery).2 with e | e
  · exact ⟨_, getD_zero_mem h, e⟩
  · obtain ⟨r, hr, hb⟩ := List.mem_map.1 e
    exact ⟨r, hr, hb.symm⟩
theorem high_mem {rs : List (List C.Day)} (h : rs ≠ []) (d : Nat) : ∃ r ∈ rs, C.highOf rs d = (C.dat r d).battery := by
  rcases (imax_fold (rs.map fun l => (C.dat l d).battery) (C.dat (rs.getD 0 []) d).battery).2 with e | e
  · exact ⟨_, getD_zero_mem h, e⟩
  · obtain ⟨r, hr, hb⟩ := List.mem_map.1 e
    exact ⟨r, hr, hb.symm⟩
theorem low_sub {rs rs' : List (List C.Day)} (h : rs' ≠ []) (hs : ∀ r ∈ rs', r ∈ rs) (d : Nat) : C.lowOf rs d ≤ C.lowOf rs' d := by
  obtain ⟨r, hr, e⟩ := low_mem h d
  rw [e]; exact low_le (hs r hr) d
theorem high_sub {rs rs' : List (List C.Day)} (h : rs' ≠ []) (hs : ∀ r ∈ rs', r ∈ rs) (d : Nat) : C.highOf rs' d ≤ C.highOf rs d := by
  obtain ⟨r, hr, e⟩ := high_mem h d
  rw [e]; exact le_high (hs r hr) d
theorem many_none {rs : List (List C.Day)} {d i : Nat} : C.many rs d i = 0 ↔ ∀ r ∈ rs, C.has (C.dat r d).carried i = false := by
  unfold C.many; rw [List.countP_eq_zero]; simp
theorem many_all {rs : List (List C.Day)} {d i : Nat} : C.many rs d i = rs.length ↔ ∀ r ∈ rs, C.has (C.dat r d).carried i = true := by
  unfold C.many; rw [List.countP_eq_length]
theorem word_never {n a : Nat} : C.word n a = 1 ↔ n = 0 := by
  unfold C.word; split <;> (try split) <;> omega
theorem word_sure {n a : Nat} : C.word n a = 3 ↔ n ≠ 0 ∧ n = a := by
  unfold C.word; split <;> (try split) <;> omega
theorem word_three (n a : Nat) : C.word n a = 1 ∨ C.word n a = 2 ∨ C.word n a = 3 := by
  unfold C.word; split
  · simp
  · split <;> simp
theorem word_sub {rs rs' : List (List C.Day)} (h : rs' ≠ []) (hs : ∀ r ∈ rs', r ∈ rs) (d i : Nat) (h2 : C.word (C.many rs d i) rs.length ≠ 2) : C.word (C.many rs' d i) rs'.length = C.word (C.many rs d i) rs.length := by
  rcases word_three (C.many rs d i) rs.length with e | e | e
  · rw [e]
    rw [word_never, many_none] at e
    rw [word_never, many_none]
    exact fun r hr => e r (hs r hr)
  · exact absurd e h2
  · rw [e]
    rw [word_sure, many_all] at e
    rw [word_sure, many_all]
    refine ⟨fun h0 => ?_, fun r hr => e.2 r (hs r hr)⟩
    rw [many_none] at h0
    obtain ⟨r, hr⟩ := List.exists_mem_of_ne_nil _ h
    have h3 := h0 r hr
    rw [e.2 r (hs r hr)] at h3; cases h3
theorem has_word {rs : List (List C.Day)} {r : List C.Day} (hr : r ∈ rs) (d i : Nat) : (C.has (C.dat r d).carried i = true → C.word (C.many rs d i) rs.length ≠ 1) ∧ (C.has (C.dat r d).carried i = false → C.word (C.many rs d i) rs.length ≠ 3) := by
  refine ⟨fun h e => ?_, fun h e => ?_⟩
  · rw [word_never, many_none] at e
    rw [e r hr] at h; cases h
  · rw [word_sure, many_all] at e
    rw [e.2 r hr] at h; cases h
theorem low_one (r : List C.Day) (d : Nat) : C.lowOf [r] d = (C.dat r d).battery := by
  show C.imin (C.dat r d).battery (C.dat r d).battery = _
  unfold C.imin; split <;> rfl
theorem high_one (r : List C.Day) (d : Nat) : C.highOf [r] d = (C.dat r d).battery := by
  show C.imax (C.dat r d).battery (C.dat r d).battery = _
  unfold C.imax; split <;> rfl
theorem word_one (r : List C.Day) (d i : Nat) : C.word (C.many [r] d i) 1 = if C.has (C.dat r d).carried i then 3 else 1 := by
  unfold C.many
  rw [List.countP_cons]
  cases h : C.has (C.dat r d).carried i <;> simp [C.word]
theorem dat_run {c : C.Sys} {p b off : Int} {w : C.Txt} {d : Nat} (h : d < w.length) : C.dat (C.run c p b off w) d = C.dayAt c p b off w d := by
  unfold C.dat C.run
  rw [List.getD_eq_getElem?_getD, List.getElem?_map, List.getElem?_range h]; rfl
theorem run_len (c : C.Sys) (p b off : Int) (w : C.Txt) : (C.run c p b off w).length = w.length := by unfold C.run; simp
/-- A sky that is known better. -/
theorem agrees_better (x : UInt8) : ∀ (w A B : C.Txt), C.agrees w (A ++ x :: B) = true → C.agrees w (A ++ 63 :: B) = true
  | [], A, B, _ => by unfold C.agrees; rfl
  | y :: ys, [], B, h => by
    rw [List.nil_append, agrees_cons] at h ⊢
    rw [Bool.and_eq_true] at h
    rw [h.2]; rfl
  | y :: ys, z :: A, B, h => by
    rw [List.cons_append, agrees_cons] at h ⊢
    rw [Bool.and_eq_true] at h
    rw [h.1, agrees_better x ys A B h.2]; rfl
theorem agreeing_better {c : C.Sys} {A B : C.Txt} {x : UInt8} : ∀ w ∈ C.agreeing c (A ++ x :: B), w ∈ C.agreeing c (A ++ 63 :: B) := by
  intro w hw
  unfold C.agreeing at hw ⊢
  rw [List.mem_filter] at hw ⊢
  exact ⟨hw.1, agrees_better x w A B hw.2⟩
theorem runs_sub {c : C.Sys} {p b : Int} {s t : C.Txt} (h : ∀ w ∈ C.agreeing c s, w ∈ C.agreeing c t) : ∀ r ∈ C.runs c p b s, r ∈ C.runs c p b t := by
  intro r hr
  unfold C.runs at hr ⊢
  obtain ⟨w, hw, rfl⟩ := List.mem_map.1 hr
  exact List.mem_map.2 ⟨w, h w hw, rfl⟩
/-- One load alone. -/
theorem has_zero (i : Nat) : C.has 0 i = false := by unfold C.has; simp
theorem fade_mono {c : C.Sys} (h0 : 0 ≤ c.fade) (h1 : c.fade ≤ 1000) {e e' : Int} (h : e ≤ e') : e - C.fades c e ≤ e' - C.fades c e' := by
  unfold C.fades
  have h2 : (e' - e) * c.fade ≤ (e' - e) * 1000 := Int.mul_le_mul_of_nonneg_left h1 (by omega)
  have h3 : e' * c.fade = e * c.fade + (e' - e) * c.fade := by rw [← Int.add_mul]; congr 1; omega
  omega
theorem full_mono {c : C.Sys} (h0 : 0 ≤ c.size) {b b' n n' : Int} (hb : b ≤ b') (h : n ≤ n') : C.full c b n ≤ C.full c b' n' := by
  have : C.hold c b ≤ C.hold c b' := Int.mul_le_mul_of_nonneg_left hb h0
  unfold C.full; split <;> split <;> omega
theorem gives_mono {c : C.Sys} (h0 : 0 ≤ c.cloudy) (h1 : c.cloudy ≤ c.sunny) {p p' : Int} (hp0 : 0 ≤ p) (hp : p ≤ p') {x x' : UInt8} (hx : x' = x ∨ x' = 115) : C.gives c p x ≤ C.gives c p' x' := by
  unfold C.gives
  obtain ⟨a, ha⟩ : ∃ a, (if x = 99 then c.cloudy else c.sunny) = a := ⟨_, rfl⟩
  obtain ⟨a', ha'⟩ : ∃ a', (if x' = 99 then c.cloudy else c.sunny) = a' := ⟨_, rfl⟩
  rw [ha, ha']
  have hle : a ≤ a' ∧ 0 ≤ a' := by
    rcases hx with rfl | rfl
    · rw [← ha, ← ha']; split <;> omega
    · have e : a' = c.sunny := by rw [← ha']; rfl
      rw [← ha, e]; split <;> omega
  exact Int.le_trans (Int.mul_le_mul_of_nonneg_right hle.1 hp0) (Int.mul_le_mul_of_nonneg_left hp hle.2)
def oneSys (c : C.Sys) : C.Sys := { c with loads := c.loads.take 1 }
theorem loads_one {c : C.Sys} {l : C.Load} (h : c.loads = [l]) (s : C.St) : C.loadsSt c 0 s = if l.need + l.keep ≤ s.e then { s with e := s.e - l.need, carried := 1, used := s.used + l.need } else { s with carried := 0 } := by
  unfold C.loadsSt
  rw [h]
  have e : C.loadsTo 0 [l] ⟨s.e, 0, s.used⟩ [l].length = if l.need + l.keep ≤ s.e then ⟨s.e - l.need, 1, s.used + l.need⟩ else ⟨s.e, 0, s.used⟩ := by
    show C.loadStep 0 [l] ⟨s.e, 0, s.used⟩ 0 = _
    unfold C.loadStep
    rw [has_zero]
    simp only [true_and]
    show (if l.need + l.keep ≤ s.e then (⟨s.e - l.need, 0 + 2 ^ 0, s.used + l.need⟩ : C.LS) else _) = _
    rfl
  rw [e]
  by_cases hle : l.need + l.keep ≤ s.e
  · simp only [if_pos hle]
  · simp only [if_neg hle]
theorem day_mono {c : C.Sys} {l : C.Load} (hl : c.loads = [l]) (h0 : 0 ≤ c.cloudy) (h1 : c.cloudy ≤ c.sunny) (h2 : 0 ≤ c.size) (f0 : 0 ≤ c.fade) (f1 : c.fade ≤ 1000) {p p' b b' : Int} (hp0 : 0 ≤ p) (hp : p ≤ p') (hb : b ≤ b') {x x' : UInt8} (hx : x' = x ∨ x' = 115) {s s' : C.St} (hs : s.e ≤ s'.e)
    (hc : (C.daySt c p b 0 x s).carried = 1) : (C.daySt c p' b' 0 x' s').carried = 1 ∧ (C.daySt c p b 0 x s).e ≤ (C.daySt c p' b' 0 x' s').e := by
  unfold C.daySt at hc ⊢
  rw [loads_one hl] at hc ⊢
  rw [loads_one hl]
  have hg := gives_mono h0 h1 hp0 hp hx
  have hm : (C.sunSt c p b x s).e ≤ (C.sunSt c p' b' x' s').e := full_mono h2 hb (by omega)
  by_cases hle : l.need + l.keep ≤ (C.sunSt c p b x s).e
  · rw [if_pos hle, if_pos (by omega)]
    exact ⟨rfl, fade_mono f0 f1 (by show (C.sunSt c p b x s).e - l.need ≤ (C.sunSt c p' b' x' s').e - l.need; omega)⟩
  · rw [if_neg hle] at hc
    exact absurd hc (by show ¬ (0 : Int) = 1; decide)
theorem run_mono {c : C.Sys} {l : C.Load} (hl : c.loads = [l]) (h0 : 0 ≤ c.cloudy) (h1 : c.cloudy ≤ c.sunny) (h2 : 0 ≤ c.size) (f0 : 0 ≤ c.fade) (f1 : c.fade ≤ 1000) (t0 : 0 ≤ c.start) {p p' b b' : Int} (hp0 : 0 ≤ p) (hp : p ≤ p') (hb : b ≤ b') {w w' : C.Txt} {n : Nat}
    (hx : ∀ d, d < n → w'.getD d 0 = w.getD d 0 ∨ w'.getD d 0 = 115) (hc : ∀ d, d < n → (C.stateAt c p b 0 w (d + 1)).carried = 1) :
    ∀ d, d ≤ n → (C.stateAt c p b 0 w d).e ≤ (C.stateAt c p' b' 0 w' d).e ∧ ∀ k, k < d → (C.stateAt c p' b' 0 w' (k + 1)).carried = 1
  | 0, _ => by
    refine ⟨?_, fun k hk => by omega⟩
    show C.start c b ≤ C.start c b'
    unfold C.start
    have h3 : C.hold c b ≤ C.hold c b' := Int.mul_le_mul_of_nonneg_left hb h2
    have h4 := Int.mul_le_mul_of_nonneg_right h3 t0
    omega
  | d + 1, hd => by
    obtain ⟨h3, h4⟩ := run_mono hl h0 h1 h2 f0 f1 t0 hp0 hp hb hx hc d (by omega)
    have h5 := day_mono hl h0 h1 h2 f0 f1 hp0 hp hb (hx d (by omega)) h3 (hc d (by omega))
    refine ⟨h5.2, fun k hk => ?_⟩
    by_cases hkd : k = d
    · subst hkd; exact h5.1
    · exact h4 k (by omega)
end Go.Proofs.Ytkjoojmlcjmlgaa
