/- Merging two sorted lists by rotation, and what it keeps: lists only. The parts that are exchanged, by their lengths. -/
import Derived.WalkKit
namespace Go.Proofs.Ytkjoojmlcjmlgaa.S
set_option linter.unusedVariables false
set_option linter.unusedSimpArgs false
variable {α : Type}
/-- Sorted by R. -/
abbrev Srt (R : α → α → Prop) (l : List α) : Prop := l.Pairwise R
/-- Each of one list before each of another. -/
def Bef (R : α → α → Prop) (X Y : List α) : Prop := ∀ x ∈ X, ∀ y ∈ Y, R x y
theorem srt_append {R : α → α → Prop} {X Y : List α} : Srt R (X ++ Y) ↔ Srt R X ∧ Srt R Y ∧ Bef R X Y := List.pairwise_append
theorem swap_set (A B C : List α) (x y : α) (p q : Nat) (hp : p = A.length) (hq : q = A.length + 1 + B.length) :
    ((A ++ x :: (B ++ y :: C)).set p y).set q x = A ++ y :: (B ++ x :: C) := by
  subst hp hq
  rw [List.set_append_right _ _ (Nat.le_refl _), Nat.sub_self, List.set_cons_zero, List.set_append_right _ _ (by omega)]
  have e : A.length + 1 + B.length - A.length = B.length + 1 := by omega
  rw [e, List.set_cons_succ, List.set_append_right _ _ (Nat.le_refl _), Nat.sub_self, List.set_cons_zero]
theorem get_mid (A C : List α) (x : α) (p : Nat) (hp : p = A.length) : (A ++ x :: C)[p]? = some x := by
  subst hp; simp
theorem split_at (X : List α) {i : Nat} (h : i < X.length) : ∃ A x B, X = A ++ x :: B ∧ A.length = i :=
  ⟨X.take i, X[i], X.drop (i + 1), by rw [List.getElem_cons_drop]; simp, by simp; omega⟩
theorem last_of (X : List α) (h : X ≠ []) : ∃ A x, X = A ++ [x] := ⟨X.dropLast, X.getLast h, (List.dropLast_concat_getLast h).symm⟩
/-- A new one behind those that are sorted. -/
theorem srt_insert {R : α → α → Prop} {A B : List α} {x : α} (h : Srt R (A ++ B)) (hA : ∀ y ∈ A, R y x) (hB : ∀ y ∈ B, R x y) : Srt R (A ++ x :: B) := by
  obtain ⟨h1, h2, h3⟩ := srt_append.1 h
  refine srt_append.2 ⟨h1, List.pairwise_cons.2 ⟨hB, h2⟩, fun a ha b hb => ?_⟩
  rcases List.mem_cons.1 hb with rfl | hb
  · exact hA a ha
  · exact h3 a ha b hb
theorem before_last {R : α → α → Prop} (T : ∀ a b c, R a b → R b c → R a c) {A : List α} {y x : α} (h : Srt R (A ++ [y])) (hy : R y x) : ∀ z ∈ A ++ [y], R z x := fun z hz => by
  obtain ⟨_, _, h3⟩ := srt_append.1 h
  rcases List.mem_append.1 hz with hz | hz
  · exact T _ _ _ (h3 z hz y (by simp)) hy
  · rw [List.mem_singleton.1 hz]; exact hy
theorem behind_head {R : α → α → Prop} (T : ∀ a b c, R a b → R b c → R a c) {A : List α} {y x : α} (h : Srt R (y :: A)) (hy : R x y) : ∀ z ∈ y :: A, R x z := fun z hz => by
  rcases List.mem_cons.1 hz with rfl | hz
  · exact hy
  · exact T _ _ _ hy ((List.pairwise_cons.1 h).1 z hz)
/-- The parts that are exchanged when two sorted lists are merged: X = X1 ++ X2, Y = Y1 ++ Y2, Y1 and X2 change places. -/
structure Cut (R : α → α → Prop) (X1 X2 Y1 Y2 : List α) : Prop where
  a : Bef R X1 Y2
  b : Bef R Y1 X2
theorem Cut.of {R : α → α → Prop} (T : ∀ a b c, R a b → R b c → R a c) {X1 X2 Y1 Y2 : List α} (hX : Srt R (X1 ++ X2)) (hY : Srt R (Y1 ++ Y2))
    (h1 : ∀ x y A B, X1 = A ++ [x] → Y2 = y :: B → R x y) (h2 : ∀ x y A B, Y1 = A ++ [y] → X2 = x :: B → R y x) : Cut R X1 X2 Y1 Y2 := by
  obtain ⟨a1, a2, a3⟩ := srt_append.1 hX
  obtain ⟨b1, b2, b3⟩ := srt_append.1 hY
  constructor
  · intro x hx y hy
    obtain ⟨A, u, rfl⟩ := last_of X1 (List.ne_nil_of_mem hx)
    cases Y2 with
    | nil => cases hy
    | cons v B => exact behind_head T b2 (before_last T a1 (h1 u v A B rfl rfl) x hx) y hy
  · intro y hy x hx
    obtain ⟨A, u, rfl⟩ := last_of Y1 (List.ne_nil_of_mem hy)
    cases X2 with
    | nil => cases hx
    | cons v B => exact behind_head T a2 (before_last T b1 (h2 v u A B rfl rfl) y hy) x hx
theorem merged {R : α → α → Prop} {X1 X2 Y1 Y2 Z1 Z2 : List α} (hX : Srt R (X1 ++ X2)) (hY : Srt R (Y1 ++ Y2)) (C : Cut R X1 X2 Y1 Y2) (p1 : Z1.Perm (X1 ++ Y1)) (p2 : Z2.Perm (X2 ++ Y2)) (s1 : Srt R Z1) (s2 : Srt R Z2) :
    Srt R (Z1 ++ Z2) ∧ (Z1 ++ Z2).Perm ((X1 ++ X2) ++ (Y1 ++ Y2)) := by
  obtain ⟨_, _, a3⟩ := srt_append.1 hX
  obtain ⟨_, _, b3⟩ := srt_append.1 hY
  constructor
  · refine srt_append.2 ⟨s1, s2, fun z hz v hv => ?_⟩
    rcases List.mem_append.1 (p1.subset hz) with h1 | h1 <;> rcases List.mem_append.1 (p2.subset hv) with h2 | h2
    · exact a3 z h1 v h2
    · exact C.a z h1 v h2
    · exact C.b z h1 v h2
    · exact b3 z h1 v h2
  · refine (p1.append p2).trans ?_
    rw [List.append_assoc, List.append_assoc]
    refine List.Perm.append_left _ ?_
    rw [← List.append_assoc, ← List.append_assoc]
    exact List.Perm.append_right _ List.perm_append_comm
/-- The order by which the sort goes: by key, and where keys are the same by rank. -/
def Ord (key : α → Int) (rank : α → Nat) (x y : α) : Prop := key x < key y ∨ (key x = key y ∧ rank x < rank y)
theorem ord_trans (key : α → Int) (rank : α → Nat) : ∀ a b c, Ord key rank a b → Ord key rank b c → Ord key rank a c := by
  intro a b c h1 h2
  unfold Ord at *
  omega
theorem ord_lt {key : α → Int} {rank : α → Nat} {x y : α} (h : rank x < rank y) : Ord key rank x y ↔ ¬ key y < key x := by
  unfold Ord; omega
theorem ord_gt {key : α → Int} {rank : α → Nat} {x y : α} (h : rank x < rank y) : Ord key rank y x ↔ key y < key x := by
  unfold Ord; omega
theorem low_all {R : α → α → Prop} (T : ∀ a b c, R a b → R b c → R a c) {Y : List α} {x : α} (h : Srt R Y) {t : Nat} (ht : t < Y.length) (hx : R Y[t] x) : ∀ q (hq : q < Y.length), q < t + 1 → R Y[q] x := fun q hq hl => by
  rcases Nat.lt_or_eq_of_le (Nat.le_of_lt_succ hl) with e | e
  · exact T _ _ _ (List.pairwise_iff_getElem.1 h q t hq ht e) hx
  · subst e; exact hx
theorem high_all {R : α → α → Prop} (T : ∀ a b c, R a b → R b c → R a c) {Y : List α} {x : α} (h : Srt R Y) {t : Nat} (ht : t < Y.length) (hx : R x Y[t]) : ∀ q (hq : q < Y.length), t ≤ q → R x Y[q] := fun q hq hl => by
  rcases Nat.lt_or_eq_of_le hl with e | e
  · exact T _ _ _ hx (List.pairwise_iff_getElem.1 h t q ht hq e)
  · subst e; exact hx
theorem cross {R : α → α → Prop} (T : ∀ a b c, R a b → R b c → R a c) {X Y : List α} (hX : Srt R X) (hY : Srt R Y) {i j : Nat} (hi : i < X.length) (hj : j < Y.length) (h : R X[i] Y[j]) (i' j' : Nat) (hi' : i' < X.length) (hj' : j' < Y.length) (h1 : i' ≤ i) (h2 : j ≤ j') : R X[i'] Y[j'] :=
  low_all T hX hi (high_all T hY hj h j' hj' h2) i' hi' (by omega)
theorem take_all {P : α → Prop} {Y : List α} {u : Nat} (h : ∀ t (ht : t < Y.length), t < u → P Y[t]) : ∀ z ∈ Y.take u, P z := fun z hz => by
  obtain ⟨i, hi, rfl⟩ := List.getElem_of_mem hz
  have h1 : i < u ∧ i < Y.length := by rw [List.length_take] at hi; omega
  rw [List.getElem_take]
  exact h i h1.2 h1.1
theorem drop_all {P : α → Prop} {Y : List α} {u : Nat} (h : ∀ t (ht : t < Y.length), u ≤ t → P Y[t]) : ∀ z ∈ Y.drop u, P z := fun z hz => by
  obtain ⟨i, hi, rfl⟩ := List.getElem_of_mem hz
  have h1 : u + i < Y.length := by rw [List.length_drop] at hi; omega
  rw [List.getElem_drop]
  exact h _ h1 (by omega)
/-- Blocks of k elements, each sorted, each with what it had at first; the last one may be shorter. -/
inductive Bl (R : α → α → Prop) (k : Nat) : List α → List α → Prop
  | last {X Z : List α} : X.length ≤ k → Z.Perm X → Srt R Z → Bl R k X Z
  | cons {X1 Z1 X Z : List α} : X1.length = k → Z1.Perm X1 → Srt R Z1 → Bl R k X Z → Bl R k (X1 ++ X) (Z1 ++ Z)
theorem Bl.perm {R : α → α → Prop} {k : Nat} {X Z : List α} (h : Bl R k X Z) : Z.Perm X := by
  induction h with
  | last _ h2 _ => exact h2
  | cons _ h2 _ _ ih => exact h2.append ih
/-- No more than one block. -/
theorem Bl.one {R : α → α → Prop} {k : Nat} {X Z : List α} (h : Bl R k X Z) (hk : X.length ≤ k) : Z.Perm X ∧ Srt R Z := by
  cases h with
  | last _ h2 h3 => exact ⟨h2, h3⟩
  | @cons X1 Z1 X Z h1 h2 h3 h4 =>
    have e : X.length = 0 := by rw [List.length_append] at hk; omega
    have eX : X = [] := List.eq_nil_of_length_eq_zero e
    have eZ : Z = [] := List.eq_nil_of_length_eq_zero (by rw [h4.perm.length_eq]; exact e)
    subst eX eZ
    simpa using ⟨h2, h3⟩
/-- Two whole blocks ahead of the others. -/
theorem Bl.two {R : α → α → Prop} {k : Nat} {X Z : List α} (h : Bl R k X Z) (hk : 2 * k ≤ X.length) (h0 : 0 < k) :
    ∃ X1 X2 X' Z1 Z2 Z', X = X1 ++ (X2 ++ X') ∧ Z = Z1 ++ (Z2 ++ Z') ∧ X1.length = k ∧ X2.length = k ∧ Z1.Perm X1 ∧ Z2.Perm X2 ∧ Srt R Z1 ∧ Srt R Z2 ∧ Bl R k X' Z' := by
  cases h with
  | last h1 _ _ => omega
  | @cons X1 Z1 X Z h1 h2 h3 h4 =>
    rw [List.length_append] at hk
    cases h4 with
    | last a1 a2 a3 =>
      exact ⟨X1, X, [], Z1, Z, [], by simp, by simp, h1, by omega, h2, a2, h3, a3, .last (by simp) (by simp) (by simp)⟩
    | @cons X2 Z2 X' Z' a1 a2 a3 a4 => exact ⟨X1, X2, X', Z1, Z2, Z', rfl, rfl, h1, a1, h2, a2, h3, a3, a4⟩
/-- One whole block and a shorter one. -/
theorem Bl.rest {R : α → α → Prop} {k : Nat} {X Z : List α} (h : Bl R k X Z) (hk : k < X.length) (hk2 : X.length < 2 * k) :
    ∃ X1 X2 Z1 Z2, X = X1 ++ X2 ∧ Z = Z1 ++ Z2 ∧ X1.length = k ∧ Z1.Perm X1 ∧ Z2.Perm X2 ∧ Srt R Z1 ∧ Srt R Z2 := by
  cases h with
  | last h1 _ _ => omega
  | @cons X1 Z1 X Z h1 h2 h3 h4 =>
    rw [List.length_append] at hk2
    obtain ⟨a2, a3⟩ := h4.one (by omega)
    exact ⟨X1, X, Z1, Z, rfl, rfl, h1, h2, a2, h3, a3⟩
theorem bef_perm {R : α → α → Prop} {X1 X2 Z1 Z2 : List α} (h : Bef R X1 X2) (p1 : Z1.Perm X1) (p2 : Z2.Perm X2) : Bef R Z1 Z2 := fun x hx y hy => h x (p1.subset hx) y (p2.subset hy)
/-- Of lists sorted by one order with the same elements there is one. -/
theorem srt_unique {R : α → α → Prop} (irr : ∀ a b, R a b → ¬ R b a) : ∀ {X Y : List α}, Srt R X → Srt R Y → X.Perm Y → X = Y
  | [], Y, _, _, h => (List.perm_nil.1 h.symm).symm
  | x :: X, [], _, _, h => by simpa using h.length_eq
  | x :: X, y :: Y, hX, hY, h => by
    obtain ⟨a1, a2⟩ := List.pairwise_cons.1 hX
    obtain ⟨b1, b2⟩ := List.pairwise_cons.1 hY
    have hxy : x = y := by
      have h1 : x ∈ y :: Y := h.subset (by simp)
      have h2 : y ∈ x :: X := h.symm.subset (by simp)
      rcases List.mem_cons.1 h1 with e | h1
      · exact e
      · rcases List.mem_cons.1 h2 with e | h2
        · exact e.symm
        · exact absurd (a1 y h2) (irr _ _ (b1 x h1))
    subst hxy
    rw [srt_unique irr a2 b2 (List.Perm.cons_inv h)]
end Go.Proofs.Ytkjoojmlcjmlgaa.S
namespace Go.Proofs.Ytkjoojmlcjmlgaa.S
set_option linter.unusedVariables false
set_option linter.unusedSimpArgs false
variable {α : Type}
theorem cut_of {R : α → α → Prop} (T : ∀ a b c, R a b → R b c → R a c) {X Y : List α} (hX : Srt R X) (hY : Srt R Y) {u v : Nat} (hu : u ≤ X.length) (hv : v ≤ Y.length)
    (h1 : ∀ i j (hi : i < X.length) (hj : j < Y.length), i + 1 = u → j = v → R X[i] Y[j]) (h2 : ∀ i j (hi : i < X.length) (hj : j < Y.length), i = u → j + 1 = v → R Y[j] X[i]) : Cut R (X.take u) (X.drop u) (Y.take v) (Y.drop v) := by
  have hd : ∀ (L : List α) (k : Nat) (z : α) (B : List α), L.drop k = z :: B → ∃ h : k < L.length, L[k] = z := fun L k z B e => by
    have h := congrArg (fun l => l[0]?) e
    simp only [List.getElem?_drop, Nat.add_zero, List.getElem?_cons_zero] at h
    exact List.getElem?_eq_some_iff.1 h
  have ht : ∀ (L : List α) (k : Nat) (z : α) (A : List α), k ≤ L.length → L.take k = A ++ [z] → A.length + 1 = k ∧ ∃ h : A.length < L.length, L[A.length] = z := fun L k z A hk e => by
    have hl := congrArg List.length e
    simp only [List.length_take, List.length_append, List.length_singleton] at hl
    have hl2 : A.length + 1 = k := by omega
    have h := congrArg (fun l => l[A.length]?) e
    simp only [List.getElem?_take, List.getElem?_append_right (Nat.le_refl _), Nat.sub_self, List.getElem?_cons_zero] at h
    rw [if_pos (by omega)] at h
    exact ⟨hl2, List.getElem?_eq_some_iff.1 h⟩
  refine Cut.of T (by rw [List.take_append_drop]; exact hX) (by rw [List.take_append_drop]; exact hY) (fun x y A B e1 e2 => ?_) (fun x y A B e1 e2 => ?_)
  · obtain ⟨l1, hi, rfl⟩ := ht X u x A hu e1
    obtain ⟨hj, rfl⟩ := hd Y v y B e2
    exact h1 _ _ hi hj l1 rfl
  · obtain ⟨l1, hi, rfl⟩ := ht Y v y A hv e1
    obtain ⟨hj, rfl⟩ := hd X u x B e2
    exact h2 _ _ hj hi rfl l1
end Go.Proofs.Ytkjoojmlcjmlgaa.S
