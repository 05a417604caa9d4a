/- A statement whose order Go leaves open, and which stores: what is read of the boxes that are stored to comes before the first store t; what is read of others may come late. Each such read may be taken first. As Late, with two stores that are looked at: what is read of the second one's box comes before the second one, though it may come behind the first one. -/
import Derived.Test.YtkjoojmlcjmlgaaDraw
import Derived.OrdersHeld
namespace Go.Proofs.Ytkjoojmlcjmlgaa
set_option linter.unusedVariables false
set_option linter.unusedSimpArgs false
open Go.RowKit

section
variable {P : Program} {ops : Array Oper} {Q : Exit → Act → World → Prop} {S : Bool → World → Prop} {t : Nat}
/-- Whatever comes up next; behind it S holds, which may say less once t has come up. -/
def wpAnyL (P : Program) (ops : Array Oper) (Q : Exit → Act → World → Prop) (t : Nat) (S : Bool → World → Prop) : Nat → Array Bool → Act → World → Prop
  | 0, L, a, w => Region.ready .any ops L = [] ∧ Q .normal a w
  | f + 1, L, a, w => (Region.ready .any ops L = [] → Q .normal a w) ∧
      ∀ i ∈ Region.ready .any ops L, wpOp P ops Q i (fun a' w' => S ((L.setIfInBounds i true).getD t false) w' ∧ wpAnyL P ops Q t S f (L.setIfInBounds i true) a' w') a w
theorem any_of_late : ∀ (f : Nat) (L : Array Bool) (a : Act) (w : World), wpAnyL P ops Q t S f L a w → wpAny P .any ops Q f L a w
  | 0, _, _, _, h => h
  | f + 1, _, _, _, h => ⟨h.1, fun i hi => wpOp_mono (fun a' w' h' => any_of_late f _ a' w' h'.2) (h.2 i hi)⟩
/-- What has come up holds all that it waited for. -/
def Shutb (ops : Array Oper) (L : Array Bool) : Prop := ∀ j o, ops[j]? = some o → L.getD j false = true → ∀ e ∈ o.after, Region.binds .any e = true → L.getD e.on false = true
theorem shut_new (n : Nat) : Shutb ops (Array.replicate n false) := fun j o _ hl => by rw [getD_replicate_false] at hl; cases hl
theorem shut_set {L : Array Bool} {i : Nat} (h : Shutb ops L) (hi : i ∈ Region.ready .any ops L) : Shutb ops (L.setIfInBounds i true) := by
  intro j oj hoj hlj e he hb
  obtain ⟨hun, o, ho, hall⟩ := mem_ready.1 hi
  by_cases hij : i = j
  · subst hij
    have : oj = o := Option.some.inj (hoj.symm.trans ho)
    subst this
    exact getD_set_true (hall e he hb)
  · rw [getD_set_ne false hij] at hlj
    exact getD_set_true (h j oj hoj hlj e he hb)
theorem shut_chain {L : Array Bool} (h : Shutb ops L) : ∀ f j i, L.getD j false = true → waits ops f j i = true → L.getD i false = true := by
  intro f
  induction f with
  | zero => intro j i _ hw; simp [waits] at hw
  | succ f ih =>
    intro j i hj hw
    unfold waits at hw
    cases ho : ops[j]? with
    | none => rw [ho] at hw; cases hw
    | some o =>
      rw [ho] at hw
      simp only [Bool.or_eq_true, Array.any_eq_true', Bool.and_eq_true, beq_iff_eq] at hw
      rcases hw with ⟨e, he, hb, hon⟩ | ⟨e, he, hb, hon⟩
      · rw [← hon]; exact h j o ho hj e he hb
      · exact ih e.on i (h j o ho hj e he hb) hon
theorem getD_un {L : Array Bool} {i : Nat} (h : L.getD i true = false) : L.getD i false = false := by
  rcases Nat.lt_or_ge i L.size with h' | h'
  · simpa [h'] using h
  · simp [Array.getElem?_eq_none h'] at h
theorem late_first {i : Nat} {oi : Oper} {v : Value} {Si : World → Prop} (hi : ops[i]? = some oi) (hsel : ∀ (j : Nat) (o : Oper) cs b, ops[j]? = some o → o.op ≠ .select cs b)
    (hQ : ∀ c a w, Q (.panic c) (a.put oi.dst v) w → Q (.panic c) a w) (hit : i ≠ t)
    (hSi : ∀ L w, Shutb ops L → L.getD i true = false → S (L.getD t false) w → Si w) :
    ∀ (f : Nat) (L : Array Bool) (a : Act) (w : World),
      (∀ j oj, ops[j]? = some oj → j ≠ i → L.getD j true = false → (∀ e ∈ oj.after, Region.binds .any e = true → e.on ≠ i) → oi.apart ops oj = true) →
      i ∈ Region.ready .any ops L → Shutb ops L → YieldsIf P ops Si oi v a → S (L.getD t false) w →
      wpAnyL P ops Q t S f (L.setIfInBounds i true) (a.put oi.dst v) w → wpAnyL P ops Q t S (f + 1) L a w := by
  intro f
  induction f with
  | zero =>
    intro L a w _ hr hL hy hS H
    refine ⟨fun h => (by rw [h] at hr; cases hr), fun j hj => ?_⟩
    by_cases hji : j = i
    · subst hji
      exact hy.wpOp hi (hSi L w hL (mem_ready.1 hr).1 hS) ⟨by rw [getD_set_ne false hit]; exact hS, H⟩
    · have := ready_mono hj hji
      rw [H.1] at this
      cases this
  | succ f ih =>
    intro L a w hfree hr hL hy hS H
    refine ⟨fun h => (by rw [h] at hr; cases hr), fun j hj => ?_⟩
    by_cases hji : j = i
    · subst hji
      exact hy.wpOp hi (hSi L w hL (mem_ready.1 hr).1 hS) ⟨by rw [getD_set_ne false hit]; exact hS, H⟩
    · have h1 := H.2 j (ready_mono hj hji)
      obtain ⟨hjun, oj, hoj, hall⟩ := mem_ready.1 hj
      have hnot : ∀ e ∈ oj.after, Region.binds .any e = true → e.on ≠ i := fun e he hb heq => by
        have h1 := hall e he hb
        have h0 := getD_un (mem_ready.1 hr).1
        rw [heq, h0] at h1
        cases h1
      have h2 := wpOp_putIf hoj (hfree j oj hoj hji hjun hnot) (fun cs b => hsel i oi cs b hi) (fun cs b => hsel j oj cs b hoj) hQ hy h1
      have hfree' : ∀ k ok, ops[k]? = some ok → k ≠ i → (L.setIfInBounds j true).getD k true = false →
          (∀ e ∈ ok.after, Region.binds .any e = true → e.on ≠ i) → oi.apart ops ok = true := fun k ok hk hki hun hno => by
        refine hfree k ok hk hki ?_ hno
        by_cases hjk : j = k
        · subst hjk; exact hjun
        · rw [getD_set_ne true hjk] at hun; exact hun
      have hflag : ((L.setIfInBounds i true).setIfInBounds j true).getD t false = (L.setIfInBounds j true).getD t false := by
        rw [Array.setIfInBounds_comm _ _ (Ne.symm hji), getD_set_ne false hit]
      refine wpOp_mono (fun a' w' h3 => ⟨by rw [← hflag]; exact h3.2.1, ih (L.setIfInBounds j true) a' w' hfree' (ready_mono hr (Ne.symm hji)) (shut_set hL hj) h3.1 (by rw [← hflag]; exact h3.2.1) ?_⟩) h2
      rw [Array.setIfInBounds_comm _ _ hji]
      exact h3.2.2
/-- What t waits for may be taken first, if it yields where S false holds. -/
theorem late_early {i : Nat} {oi : Oper} {v : Value} {f : Nat} {L : Array Bool} {a : Act} {w : World} (hi : ops[i]? = some oi)
    (hs : Region.noSelect ops = true) (hf : Region.free .any ops L i = true) (hr : (Region.ready .any ops L).contains i = true) (hit : i ≠ t) (hwt : waits ops ops.size t i = true)
    (hQ : ∀ c a w, Q (.panic c) (a.put oi.dst v) w → Q (.panic c) a w) (hL : Shutb ops L) (hy : YieldsIf P ops (S false) oi v a) (hS : S (L.getD t false) w)
    (h : Shutb ops (L.setIfInBounds i true) → wpAnyL P ops Q t S f (L.setIfInBounds i true) (a.put oi.dst v) w) : wpAnyL P ops Q t S (f + 1) L a w := by
  have hr' : i ∈ Region.ready .any ops L := by simpa using hr
  refine late_first (Si := S false) hi (Region.noSelect_spec hs) hQ hit (fun L w hL hun hS => ?_) f L a w (Region.free_spec hi hf) hr' hL hy hS (h (shut_set hL hr'))
  cases hb : L.getD t false with
  | false => rw [hb] at hS; exact hS
  | true =>
    have := shut_chain hL _ _ _ hb hwt
    rw [getD_un hun] at this
    cases this
/-- What yields where S true holds may be taken first. -/
theorem late_late {i : Nat} {oi : Oper} {v : Value} {f : Nat} {L : Array Bool} {a : Act} {w : World} (hi : ops[i]? = some oi)
    (hs : Region.noSelect ops = true) (hf : Region.free .any ops L i = true) (hr : (Region.ready .any ops L).contains i = true) (hit : i ≠ t) (hm : ∀ w, S false w → S true w)
    (hQ : ∀ c a w, Q (.panic c) (a.put oi.dst v) w → Q (.panic c) a w) (hL : Shutb ops L) (hy : YieldsIf P ops (S true) oi v a) (hS : S (L.getD t false) w)
    (h : Shutb ops (L.setIfInBounds i true) → wpAnyL P ops Q t S f (L.setIfInBounds i true) (a.put oi.dst v) w) : wpAnyL P ops Q t S (f + 1) L a w := by
  have hr' : i ∈ Region.ready .any ops L := by simpa using hr
  refine late_first (Si := S true) hi (Region.noSelect_spec hs) hQ hit (fun L w hL hun hS => ?_) f L a w (Region.free_spec hi hf) hr' hL hy hS (h (shut_set hL hr'))
  cases hb : L.getD t false with
  | false => rw [hb] at hS; exact hm _ hS
  | true => rw [hb] at hS; exact hS
theorem late_one {L : Array Bool} {a : Act} {w : World} {f i : Nat} (hr : Region.ready .any ops L = [i]) (hL : Shutb ops L)
    (h : Shutb ops (L.setIfInBounds i true) → wpOp P ops Q i (fun a' w' => S ((L.setIfInBounds i true).getD t false) w' ∧ wpAnyL P ops Q t S f (L.setIfInBounds i true) a' w') a w) : wpAnyL P ops Q t S (f + 1) L a w := by
  have hi : i ∈ Region.ready .any ops L := by rw [hr]; simp
  refine ⟨fun e => ?_, fun j hj => ?_⟩
  · rw [hr] at e; cases e
  · rw [hr] at hj; simp at hj; subst hj; exact h (shut_set hL hi)
theorem late_done {L : Array Bool} {a : Act} {w : World} {f : Nat} (hr : Region.ready .any ops L = []) (h : Q .normal a w) : wpAnyL P ops Q t S f L a w := by
  cases f with
  | zero => exact ⟨hr, h⟩
  | succ f => exact ⟨fun _ => h, by rw [hr]; simp⟩
theorem wp_region_late {id : Nat} {a : Act} {w : World} (t : Nat) (S : Bool → World → Prop) (hm : P.follows .mixedOrders = true)
    (h : Shutb ops (Array.replicate ops.size false) → wpAnyL P ops Q t S ops.size (Array.replicate ops.size false) a w.drew) : (Code.region id ops true).wp P Q a w :=
  wp_region_any hm (any_of_late _ _ _ _ (h (shut_new _)))
end
end Go.Proofs.Ytkjoojmlcjmlgaa
namespace Go.Proofs.Ytkjoojmlcjmlgaa
set_option linter.unusedVariables false
set_option linter.unusedSimpArgs false
open Go.RowKit

section
variable {P : Program} {ops : Array Oper} {Q : Exit → Act → World → Prop} {S : Bool → Bool → World → Prop} {t t2 : Nat}
/-- Whatever comes up next; behind it S holds, which may say less once t has come up. -/
def wpAnyL2 (P : Program) (ops : Array Oper) (Q : Exit → Act → World → Prop) (t t2 : Nat) (S : Bool → Bool → World → Prop) : Nat → Array Bool → Act → World → Prop
  | 0, L, a, w => Region.ready .any ops L = [] ∧ Q .normal a w
  | f + 1, L, a, w => (Region.ready .any ops L = [] → Q .normal a w) ∧
      ∀ i ∈ Region.ready .any ops L, wpOp P ops Q i (fun a' w' => S ((L.setIfInBounds i true).getD t false) ((L.setIfInBounds i true).getD t2 false) w' ∧ wpAnyL2 P ops Q t t2 S f (L.setIfInBounds i true) a' w') a w
theorem any_of_late2 : ∀ (f : Nat) (L : Array Bool) (a : Act) (w : World), wpAnyL2 P ops Q t t2 S f L a w → wpAny P .any ops Q f L a w
  | 0, _, _, _, h => h
  | f + 1, _, _, _, h => ⟨h.1, fun i hi => wpOp_mono (fun a' w' h' => any_of_late2 f _ a' w' h'.2) (h.2 i hi)⟩
theorem late_first2 {i : Nat} {oi : Oper} {v : Value} {Si : World → Prop} (hi : ops[i]? = some oi) (hsel : ∀ (j : Nat) (o : Oper) cs b, ops[j]? = some o → o.op ≠ .select cs b)
    (hQ : ∀ c a w, Q (.panic c) (a.put oi.dst v) w → Q (.panic c) a w) (hit : i ≠ t) (hit2 : i ≠ t2)
    (hSi : ∀ L w, Shutb ops L → L.getD i true = false → S (L.getD t false) (L.getD t2 false) w → Si w) :
    ∀ (f : Nat) (L : Array Bool) (a : Act) (w : World),
      (∀ j oj, ops[j]? = some oj → j ≠ i → L.getD j true = false → (∀ e ∈ oj.after, Region.binds .any e = true → e.on ≠ i) → oi.apart ops oj = true) →
      i ∈ Region.ready .any ops L → Shutb ops L → YieldsIf P ops Si oi v a → S (L.getD t false) (L.getD t2 false) w →
      wpAnyL2 P ops Q t t2 S f (L.setIfInBounds i true) (a.put oi.dst v) w → wpAnyL2 P ops Q t t2 S (f + 1) L a w := by
  intro f
  induction f with
  | zero =>
    intro L a w _ hr hL hy hS H
    refine ⟨fun h => (by rw [h] at hr; cases hr), fun j hj => ?_⟩
    by_cases hji : j = i
    · subst hji
      exact hy.wpOp hi (hSi L w hL (mem_ready.1 hr).1 hS) ⟨by rw [getD_set_ne false hit, getD_set_ne false hit2]; exact hS, H⟩
    · have := ready_mono hj hji
      rw [H.1] at this
      cases this
  | succ f ih =>
    intro L a w hfree hr hL hy hS H
    refine ⟨fun h => (by rw [h] at hr; cases hr), fun j hj => ?_⟩
    by_cases hji : j = i
    · subst hji
      exact hy.wpOp hi (hSi L w hL (mem_ready.1 hr).1 hS) ⟨by rw [getD_set_ne false hit, getD_set_ne false hit2]; exact hS, H⟩
    · have h1 := H.2 j (ready_mono hj hji)
      obtain ⟨hjun, oj, hoj, hall⟩ := mem_ready.1 hj
      have hnot : ∀ e ∈ oj.after, Region.binds .any e = true → e.on ≠ i := fun e he hb heq => by
        have h1 := hall e he hb
        have h0 := getD_un (mem_ready.1 hr).1
        rw [heq, h0] at h1
        cases h1
      have h2 := wpOp_putIf hoj (hfree j oj hoj hji hjun hnot) (fun cs b => hsel i oi cs b hi) (fun cs b => hsel j oj cs b hoj) hQ hy h1
      have hfree' : ∀ k ok, ops[k]? = some ok → k ≠ i → (L.setIfInBounds j true).getD k true = false →
          (∀ e ∈ ok.after, Region.binds .any e = true → e.on ≠ i) → oi.apart ops ok = true := fun k ok hk hki hun hno => by
        refine hfree k ok hk hki ?_ hno
        by_cases hjk : j = k
        · subst hjk; exact hjun
        · rw [getD_set_ne true hjk] at hun; exact hun
      have hflag : ((L.setIfInBounds i true).setIfInBounds j true).getD t false = (L.setIfInBounds j true).getD t false := by
        rw [Array.setIfInBounds_comm _ _ (Ne.symm hji), getD_set_ne false hit]
      have hflag2 : ((L.setIfInBounds i true).setIfInBounds j true).getD t2 false = (L.setIfInBounds j true).getD t2 false := by
        rw [Array.setIfInBounds_comm _ _ (Ne.symm hji), getD_set_ne false hit2]
      refine wpOp_mono (fun a' w' h3 => ⟨by rw [← hflag, ← hflag2]; exact h3.2.1, ih (L.setIfInBounds j true) a' w' hfree' (ready_mono hr (Ne.symm hji)) (shut_set hL hj) h3.1 (by rw [← hflag, ← hflag2]; exact h3.2.1) ?_⟩) h2
      rw [Array.setIfInBounds_comm _ _ hji]
      exact h3.2.2
/-- j waits for i, as it says itself. -/
def direct (ops : Array Oper) (j i : Nat) : Bool := match ops[j]? with
  | some o => o.after.toList.any fun e => e.on == i && Region.binds .any e
  | none => false
theorem waits_direct {j i : Nat} (h : direct ops j i = true) : waits ops ops.size j i = true := by
  unfold direct at h
  cases ho : ops[j]? with
  | none => rw [ho] at h; cases h
  | some o =>
    rw [ho] at h
    have hs : 0 < ops.size := Nat.lt_of_le_of_lt (Nat.zero_le _) (Array.getElem?_eq_some_iff.1 ho).1
    obtain ⟨f, hf⟩ : ∃ f, ops.size = f + 1 := ⟨ops.size - 1, by omega⟩
    rw [hf]
    unfold waits
    rw [ho]
    simp only [List.any_eq_true, Bool.and_eq_true] at h
    obtain ⟨e, he, h1, h2⟩ := h
    simp only [Bool.or_eq_true, Array.any_eq_true', Bool.and_eq_true]
    exact .inl ⟨e, by simpa using he, h2, h1⟩
theorem unset_of {L : Array Bool} {i t : Nat} (hL : Shutb ops L) (hw : waits ops ops.size t i = true) (hun : L.getD i true = false) : L.getD t false = false := by
  cases hb : L.getD t false with
  | false => rfl
  | true =>
    have := shut_chain hL _ _ _ hb hw
    rw [getD_un hun] at this
    cases this
/-- What both wait for may be taken first, if it yields ahead of both. -/
theorem late_early2 {i : Nat} {oi : Oper} {v : Value} {f : Nat} {L : Array Bool} {a : Act} {w : World} (hi : ops[i]? = some oi)
    (hs : Region.noSelect ops = true) (hf : Region.free .any ops L i = true) (hr : (Region.ready .any ops L).contains i = true) (hit : i ≠ t) (hit2 : i ≠ t2) (hwt' : direct ops t i = true) (hwt2' : direct ops t2 i = true)
    (hQ : ∀ c a w, Q (.panic c) (a.put oi.dst v) w → Q (.panic c) a w) (hL : Shutb ops L) (hy : YieldsIf P ops (S false false) oi v a) (hS : S (L.getD t false) (L.getD t2 false) w)
    (h : Shutb ops (L.setIfInBounds i true) → wpAnyL2 P ops Q t t2 S f (L.setIfInBounds i true) (a.put oi.dst v) w) : wpAnyL2 P ops Q t t2 S (f + 1) L a w := by
  have hwt := waits_direct hwt'
  have hwt2 := waits_direct hwt2'
  have hr' : i ∈ Region.ready .any ops L := by simpa using hr
  refine late_first2 (Si := S false false) hi (Region.noSelect_spec hs) hQ hit hit2 (fun L w hL hun hS => ?_) f L a w (Region.free_spec hi hf) hr' hL hy hS (h (shut_set hL hr'))
  rw [unset_of hL hwt hun, unset_of hL hwt2 hun] at hS
  exact hS
/-- What the second one waits for may be taken first, if it yields behind the first one, too. -/
theorem late_mid2 {i : Nat} {oi : Oper} {v : Value} {f : Nat} {L : Array Bool} {a : Act} {w : World} (hi : ops[i]? = some oi)
    (hs : Region.noSelect ops = true) (hf : Region.free .any ops L i = true) (hr : (Region.ready .any ops L).contains i = true) (hit : i ≠ t) (hit2 : i ≠ t2) (hwt2' : direct ops t2 i = true) (hm : ∀ w, S false false w → S true false w)
    (hQ : ∀ c a w, Q (.panic c) (a.put oi.dst v) w → Q (.panic c) a w) (hL : Shutb ops L) (hy : YieldsIf P ops (S true false) oi v a) (hS : S (L.getD t false) (L.getD t2 false) w)
    (h : Shutb ops (L.setIfInBounds i true) → wpAnyL2 P ops Q t t2 S f (L.setIfInBounds i true) (a.put oi.dst v) w) : wpAnyL2 P ops Q t t2 S (f + 1) L a w := by
  have hwt2 := waits_direct hwt2'
  have hr' : i ∈ Region.ready .any ops L := by simpa using hr
  refine late_first2 (Si := S true false) hi (Region.noSelect_spec hs) hQ hit hit2 (fun L w hL hun hS => ?_) f L a w (Region.free_spec hi hf) hr' hL hy hS (h (shut_set hL hr'))
  rw [unset_of hL hwt2 hun] at hS
  cases hb : L.getD t false with
  | false => rw [hb] at hS; exact hm _ hS
  | true => rw [hb] at hS; exact hS
theorem late_one2 {L : Array Bool} {a : Act} {w : World} {f i : Nat} (hr : Region.ready .any ops L = [i]) (hL : Shutb ops L)
    (h : Shutb ops (L.setIfInBounds i true) → wpOp P ops Q i (fun a' w' => S ((L.setIfInBounds i true).getD t false) ((L.setIfInBounds i true).getD t2 false) w' ∧ wpAnyL2 P ops Q t t2 S f (L.setIfInBounds i true) a' w') a w) : wpAnyL2 P ops Q t t2 S (f + 1) L a w := by
  have hi : i ∈ Region.ready .any ops L := by rw [hr]; simp
  refine ⟨fun e => ?_, fun j hj => ?_⟩
  · rw [hr] at e; cases e
  · rw [hr] at hj; simp at hj; subst hj; exact h (shut_set hL hi)
theorem late_done2 {L : Array Bool} {a : Act} {w : World} {f : Nat} (hr : Region.ready .any ops L = []) (h : Q .normal a w) : wpAnyL2 P ops Q t t2 S f L a w := by
  cases f with
  | zero => exact ⟨hr, h⟩
  | succ f => exact ⟨fun _ => h, by rw [hr]; simp⟩
theorem wp_region_late2 {id : Nat} {a : Act} {w : World} (t t2 : Nat) (S : Bool → Bool → World → Prop) (hm : P.follows .mixedOrders = true)
    (h : Shutb ops (Array.replicate ops.size false) → wpAnyL2 P ops Q t t2 S ops.size (Array.replicate ops.size false) a w.drew) : (Code.region id ops true).wp P Q a w :=
  wp_region_any hm (any_of_late2 _ _ _ _ (h (shut_new _)))
end
end Go.Proofs.Ytkjoojmlcjmlgaa
