/- Draw's law for a region inside a round of a range over a function. A region outside rounds whose operations read, and whose last ones call a yield: the reads in the order of the text, then the rest. -/
import Derived.Test.YtkjoojmlcjmlgaaDraw
import Derived.OrdersIn
import Derived.RangeFuncCalls
import Derived.TacticsIn
namespace Go.Proofs.Ytkjoojmlcjmlgaa
set_option linter.unusedVariables false
set_option linter.unusedSimpArgs false
open Go.RowKit
section
variable {P : Program} {k n : Nat} {Q : Exit → Act → World → Prop}
def noDefer (ops : Array Oper) : Bool := ops.all fun o => match o.op with | .defer _ => false | _ => true
theorem oper_bridge {o : Oper} {a : Act} {w : World} {K : Act → World → Prop} (hd : ∀ c, o.op ≠ .defer c) (h : o.wp P a w K Q) : o.wpIn (Fence.wide.inRound k) n P a w K Q := by
  refine ⟨fun _ _ => trivial, ?_⟩
  unfold Oper.wp at h
  rw [Fence.inRound_round, Oper.semAt_some _ _ _ hd]
  generalize (execOp a.eval o).run P w = r at h
  cases r with
  | ok x w' =>
    cases x
    case enter f args => exact ⟨fun h => by simp [Fence.wide, Fence.inRound] at h, CallsIn.inRound k (callsIn_wide.2 h)⟩
    case row row args =>
      refine ⟨fun h => by simp [Fence.wide, Fence.inRound] at h, fun c cs _ => ?_⟩
      obtain ⟨v, w'', hr, hs⟩ := h c cs
      exact ⟨v, w'', hr, stepsIn_wide.2 hs⟩
    case round => exact h.elim
    all_goals exact h
  | halt x w' => cases x <;> exact h
theorem any_bridge {ops : Array Oper} (hd : noDefer ops = true) (hno : ¬ LetsOut Q) : ∀ (f : Nat) (L : Array Bool) (a : Act) (w : World), wpAny P .any ops Q f L a w → wpAnyIn (Fence.wide.inRound k) n P .any ops Q f L a w
  | 0, _, _, _, h => h
  | f + 1, L, a, w, h => by
    refine ⟨h.1, fun i hi => ?_⟩
    have h1 := h.2 i hi
    unfold wpOp at h1
    unfold wpOpIn
    cases ho : ops[i]? with
    | none =>
      rw [ho] at h1
      exact any_bridge hd hno f _ a w h1
    | some o =>
      rw [ho] at h1
      dsimp only at h1 ⊢
      have hd' : ∀ c, o.op ≠ .defer c := by
        intro c e
        unfold noDefer at hd
        rw [Array.all_eq_true] at hd
        obtain ⟨hlt, he⟩ := Array.getElem?_eq_some_iff.1 ho
        have := hd i hlt
        rw [he, e] at this
        cases this
      split
      · rename_i hw
        rw [if_pos hw] at h1
        rcases h1 with h1 | h1
        · exact Oper.wpIn_mono (fun a w h => any_bridge hd hno f _ a w h) (oper_bridge hd' h1)
        · exact absurd h1.2 hno
      · rename_i hw
        rw [if_neg hw] at h1
        exact ⟨fun _ _ => trivial, any_bridge hd hno f _ _ w h1⟩
/-- Draw's wp_region_ext in a round. -/
theorem wpIn_region_ext {l : List Oper} {id : Nat} {a : Act} {w : World} (m : Nat) (hQ : ∀ c a d v w, Q (.panic c) (a.put d v) w → Q (.panic c) a w) (hno : ¬ LetsOut Q) (hd : noDefer l.toArray = true) (hm : P.follows .mixedOrders = true) (hB1 : Region.lexB .any (l.take m).toArray = true) (hB2 : headB l.toArray m = true) (hB3 : Region.seqB .any l.toArray (l.toArray.size - m) m (restB l.toArray m) = true)
    (h : wpQuiet P (l.take m).toArray (fun w' => ∃ x, w' = plus w x) (fun a' => ∀ w', Ext w w' → wpList P l.toArray Q (l.drop m) a' w') (l.take m) a) : (Code.region id l.toArray true).wpIn (Fence.wide.inRound k) n P Q a w := by
  have h := wpQuiet_mono (Q' := fun a' => ∀ w', Ext w w' → wpAny P .any l.toArray Q (l.toArray.size - m) (restB l.toArray m) a' w') (fun a' hq w' hw' => by
    have := wpAny_of_seq (md := .any) (Q' := Q) (l.drop m) m (restB l.toArray m) a' w' (fun j => by simp [List.getElem?_drop]) (by simpa using hB3) (hq w' hw')
    simpa using this) _ _ h
  have hB2' := hB2
  simp only [headB, Bool.and_eq_true, decide_eq_true_eq] at hB2'
  obtain ⟨⟨⟨hn, _⟩, _⟩, _⟩ := hB2'
  simp only [Region.lexB, Bool.and_eq_true] at hB1
  have hlen : (l.take m).length = m := by simp at hn ⊢; omega
  have H := wpAnyQ_lex (C := fun w' => ∃ x, w' = plus w x) (md := .any) hB1.1 (l.take m) 0 (Array.replicate m false) a (by simp) (by simpa [hlen] using hB1.2) h
  refine wpIn_region_any hm (any_bridge hd hno _ _ _ _ ?_)
  have := any_head (C := fun w' => ∃ x, w' = plus w x) (Q := Q) hQ hB2 (fun a' w' hw' hq => by
    obtain ⟨x, rfl⟩ := hw'
    exact hq _ (ext_plus w x)) (l.take m).length (Array.replicate m false) a { w with drawn := w.drawn + 1 } (by simp) (by simp [hlen]) ⟨⟨#[], w.drawn + 1⟩, by simp [plus]⟩ H
    (fun j o _ hl => by rw [getD_replicate_false] at hl; cases hl)
  have e1 : (Array.replicate m false ++ Array.replicate (l.toArray.size - m) false : Array Bool) = Array.replicate l.toArray.size false := by
    rw [Array.replicate_append_replicate]; congr 1; omega
  rw [e1, hlen] at this
  have e2 : m + (l.toArray.size - m) = l.toArray.size := by omega
  rw [e2] at this
  exact this
end
end Go.Proofs.Ytkjoojmlcjmlgaa
namespace Go.Proofs.Ytkjoojmlcjmlgaa
set_option linter.unusedVariables false
set_option linter.unusedSimpArgs false
open Go.RowKit
section
variable {P : Program} {l : List Oper} {n mm : Nat} {C : World → Prop} {Q : Exit → Act → World → Prop} {Qh : Act → Prop}
theorem oper_bridgeW {o : Oper} {a : Act} {w : World} {K : Act → World → Prop} (hd : ∀ c, o.op ≠ .defer c) (h : o.wp P a w K Q) : o.wpIn Fence.wide n P a w K Q := by
  refine ⟨fun _ _ => trivial, ?_⟩
  unfold Oper.wp at h
  rw [show (Fence.wide).round = none from rfl, Oper.semAt_none]
  generalize (execOp a.eval o).run P w = r at h
  cases r with
  | ok x w' =>
    cases x
    case enter f args => exact ⟨fun h => by simp [Fence.wide] at h, callsIn_wide.2 h⟩
    case row row args =>
      refine ⟨fun h => by simp [Fence.wide] at h, fun c cs _ => ?_⟩
      obtain ⟨v, w'', hr, hs⟩ := h c cs
      exact ⟨v, w'', hr, stepsIn_wide.2 hs⟩
    case round => exact h.elim
    all_goals exact h
  | halt x w' => cases x <;> exact h
/-- Each of the first n operations waits for earlier ones alone; each later one comes behind all of them. -/
def headY (ops : Array Oper) (n : Nat) : Bool :=
  decide (n ≤ ops.size) &&
  ((List.range n).all fun i => match ops[i]? with
    | some o => o.after.all (fun e => !Region.binds .any e || decide (e.on < i)) && (match o.guard with | some (j, _) => decide (j < n) | none => true)
    | none => true) &&
  ((List.range ops.size).all fun t => decide (t < n) || (List.range n).all fun i => waits ops ops.size t i)
theorem any_headY (hd : noDefer l.toArray = true) (h0 : headY l.toArray n = true)
    (hC : ∀ a w, C w → Qh a → wpAnyIn Fence.wide mm P .any l.toArray Q (l.toArray.size - n) (Array.replicate n true ++ Array.replicate (l.toArray.size - n) false) a w) :
    ∀ (f : Nat) (L : Array Bool) (a : Act) (w : World), L.size = n → L.toList.count false = f → C w → wpAnyQ P .any (l.take n).toArray C Qh f L a →
      (∀ j o, l.toArray[j]? = some o → L.getD j false = true → ∀ e ∈ o.after, Region.binds .any e = true → L.getD e.on false = true) →
      wpAnyIn Fence.wide mm P .any l.toArray Q (f + (l.toArray.size - n)) (L ++ Array.replicate (l.toArray.size - n) false) a w := by
  simp only [headY, Bool.and_eq_true, decide_eq_true_eq, List.all_eq_true, List.mem_range, Bool.or_eq_true] at h0
  obtain ⟨⟨hn, hh⟩, ht⟩ := h0
  have chain : ∀ (L : Array Bool), (∀ j o, l.toArray[j]? = some o → L.getD j false = true → ∀ e ∈ o.after, Region.binds .any e = true → L.getD e.on false = true) →
      ∀ f j i, L.getD j false = true → waits l.toArray f j i = true → L.getD i false = true := by
    intro L hcl f
    induction f with
    | zero => intro j i _ hw; simp [waits] at hw
    | succ f ih =>
      intro j i hj hw
      unfold waits at hw
      cases ho : l.toArray[j]? with
      | none => rw [ho] at hw; cases hw
      | some o =>
        rw [ho] at hw
        simp only [Bool.or_eq_true, Array.any_eq_true', Bool.and_eq_true, beq_iff_eq] at hw
        rcases hw with ⟨e, he, hb, hon⟩ | ⟨e, he, hb, hon⟩
        · rw [← hon]; exact hcl j o ho hj e he hb
        · exact ih e.on i (hcl j o ho hj e he hb) hon
  have ndf : ∀ (i : Nat) (o : Oper), l.toArray[i]? = some o → ∀ c, o.op ≠ .defer c := by
    intro i o ho c e
    unfold noDefer at hd
    rw [Array.all_eq_true] at hd
    obtain ⟨hlt, he⟩ := Array.getElem?_eq_some_iff.1 ho
    have := hd i hlt
    rw [he, e] at this
    cases this
  intro f
  induction f with
  | zero =>
    intro L a w hL hc hw h _
    have e : L = Array.replicate n true := by
      apply Array.ext
      · simp [hL]
      · intro i hi hi'
        rw [Array.getElem_replicate]
        have hz : false ∉ L.toList := List.count_eq_zero.1 hc
        cases hb : L[i] with
        | true => rfl
        | false => exact absurd (by rw [← hb]; exact Array.getElem_mem_toList hi) hz
    rw [e, Nat.zero_add]
    exact hC a w hw h.2
  | succ f ih =>
    intro L a w hL hc hw h hcl
    -- an operation that has not come up
    have hex0 : ∃ i, i < n ∧ L.getD i true = false := by
      have hm : false ∈ L.toList := List.count_pos_iff.1 (by omega)
      obtain ⟨i, hi, hb⟩ := List.getElem_of_mem hm
      have hi' : i < L.size := by simpa using hi
      exact ⟨i, by omega, by simp [hi']; simpa using hb⟩
    -- the least that has not come up
    have key : ∀ i, i < n → L.getD i true = false → ∃ j, j < n ∧ L.getD j true = false ∧ ∀ k, k < j → L.getD k true = true := by
      intro i
      induction i using Nat.strongRecOn with
      | _ i ihi =>
        intro hi hf
        by_cases hk : ∃ k, k < i ∧ L.getD k true = false
        · obtain ⟨k, hk, hkf⟩ := hk
          exact ihi k hk (by omega) hkf
        · exact ⟨i, hi, hf, fun k hk' => by
            cases hb : L.getD k true with
            | true => rfl
            | false => exact absurd ⟨k, hk', hb⟩ hk⟩
    obtain ⟨j, hj, hjf, hmin⟩ : ∃ j, j < n ∧ L.getD j true = false ∧ ∀ k, k < j → L.getD k true = true := by
      obtain ⟨i0, hi0, hf0⟩ := hex0
      exact key i0 hi0 hf0
    have getL : ∀ i d, i < n → (L ++ Array.replicate (l.toArray.size - n) false).getD i d = L.getD i d := fun i d hi => by
      have : i < L.size := by omega
      simp [Array.getElem?_append_left this]
    have edges : ∀ i o, i < n → l.toArray[i]? = some o → (∀ e ∈ o.after, Region.binds .any e = true → e.on < i) := by
      intro i o hi ho e he hb
      have h2 := hh i hi
      rw [ho] at h2
      simp only [Bool.and_eq_true, Array.all_eq_true_iff_forall_mem, Bool.or_eq_true, Bool.not_eq_true', decide_eq_true_eq] at h2
      exact (h2.1 e he).resolve_left (by rw [hb]; simp)
    have toHead : ∀ i, i < n → i ∈ Region.ready .any l.toArray (L ++ Array.replicate (l.toArray.size - n) false) → i ∈ Region.ready .any (l.take n).toArray L := by
      intro i hin hi
      obtain ⟨h1, o, ho, hall⟩ := mem_ready.1 hi
      refine mem_ready.2 ⟨by rw [← getL i true hin]; exact h1, o, by rw [head_get hin]; exact ho, fun e he hb => ?_⟩
      have h3 := edges i o hin ho e he hb
      rw [← getL e.on false (by omega)]
      exact hall e he hb
    have hjs : j < l.toArray.size := by omega
    obtain ⟨oj, hoj⟩ : ∃ o, l.toArray[j]? = some o := ⟨_, Array.getElem?_eq_getElem hjs⟩
    have jready : j ∈ Region.ready .any l.toArray (L ++ Array.replicate (l.toArray.size - n) false) := by
      refine mem_ready.2 ⟨by rw [getL j true hj]; exact hjf, oj, hoj, fun e he hb => ?_⟩
      have h3 := edges j oj hj hoj e he hb
      rw [getL e.on false (by omega)]
      have h4 := hmin e.on h3
      have h5 : e.on < L.size := by omega
      simp [h5] at h4 ⊢
      exact h4
    have next : ∀ i, i < n → i ∈ Region.ready .any (l.take n).toArray L → ∀ a' w', C w' → wpAnyQ P .any (l.take n).toArray C Qh f (L.setIfInBounds i true) a' →
        wpAnyIn Fence.wide mm P .any l.toArray Q (f + (l.toArray.size - n)) ((L ++ Array.replicate (l.toArray.size - n) false).setIfInBounds i true) a' w' := by
      intro i hin hir a' w' hw' h'
      obtain ⟨hun, o, ho, hall⟩ := mem_ready.1 hir
      have his : i < L.size := by omega
      have hcl' : ∀ j o, l.toArray[j]? = some o → (L.setIfInBounds i true).getD j false = true → ∀ e ∈ o.after, Region.binds .any e = true → (L.setIfInBounds i true).getD e.on false = true := by
        intro j oj hoj hlj e he hb
        by_cases hij : i = j
        · subst hij
          rw [head_get hin] at ho
          have : oj = o := Option.some.inj (hoj.symm.trans ho)
          subst this
          exact getD_set_true (hall e he hb)
        · rw [getD_set_ne false hij] at hlj
          exact getD_set_true (hcl j oj hoj hlj e he hb)
      have hset : (L ++ Array.replicate (l.toArray.size - n) false).setIfInBounds i true = L.setIfInBounds i true ++ Array.replicate (l.toArray.size - n) false := by
        rw [Array.setIfInBounds_append_left his]
      have hcount : (L.setIfInBounds i true).toList.count false = f := by
        have hb : L[i] = false := by simpa [his] using hun
        have : (L.setIfInBounds i true).toList = L.toList.set i true := by simp
        rw [this, List.count_set (by simpa using his)]
        simp [hb]
        simp at hc; omega
      rw [hset]
      exact ih _ a' w' (by simp [hL]) hcount hw' h' hcl'
    have guards : ∀ i o, i < n → l.toArray[i]? = some o → ∀ j b, o.guard = some (j, b) → j < n := fun i o hin ho j b hgd => by
      have h2 := hh i hin
      rw [ho] at h2
      simp only [Bool.and_eq_true, hgd, decide_eq_true_eq] at h2
      exact h2.2
    rw [show f + 1 + (l.toArray.size - n) = (f + (l.toArray.size - n)) + 1 by omega]
    have hready : ∀ i, i ∈ Region.ready .any l.toArray (L ++ Array.replicate (l.toArray.size - n) false) → i < n := by
      intro i hi
      obtain ⟨h1, o, ho, hall⟩ := mem_ready.1 hi
      have hlt : i < l.toArray.size := (Array.getElem?_eq_some_iff.1 ho).1
      rcases Nat.lt_or_ge i n with h2 | h2
      · exact h2
      · have := (ht i hlt).resolve_left (by omega) j hj
        cases hsz : l.toArray.size with
        | zero => omega
        | succ m =>
          rw [hsz] at this
          unfold waits at this
          rw [ho] at this
          simp only [Bool.or_eq_true, Array.any_eq_true', Bool.and_eq_true, beq_iff_eq] at this
          have inL : ∀ x, (L ++ Array.replicate (l.toArray.size - n) false).getD x false = true → L.getD x false = true := fun x hx => by
            rcases Nat.lt_or_ge x n with h7 | h7
            · rw [← getL x false h7]; exact hx
            · exfalso
              have h8 : L.size ≤ x := by omega
              rw [Array.getD_eq_getD_getElem?, Array.getElem?_append_right h8, Array.getElem?_replicate] at hx
              split at hx <;> simp at hx
          have h3 : L.getD j false = true := by
            rcases this with ⟨e, he, hb, hon⟩ | ⟨e, he, hb, hon⟩
            · rw [← hon]; exact inL _ (hall e he hb)
            · exact chain L hcl m e.on j (inL _ (hall e he hb)) hon
          have : j < L.size := by omega
          simp [this] at hjf h3
          rw [hjf] at h3; cases h3
    refine ⟨fun h6 => (by rw [h6] at jready; cases jready), fun i hi => ?_⟩
    have hin := hready i hi
    have hir := toHead i hin hi
    have hq := h.2 i hir
    obtain ⟨_, o, ho, _⟩ := mem_ready.1 hi
    unfold qOp at hq
    unfold wpOpIn
    rw [head_get hin] at hq
    simp only [ho] at hq ⊢
    rw [wanted_head (guards i o hin ho)] at hq
    split
    · rename_i hwd
      rw [if_pos hwd] at hq
      exact oper_bridgeW (ndf i o ho) (Oper.wp_of_quiet hw (next i hin hir) hq)
    · rename_i hwd
      rw [if_neg hwd] at hq
      exact ⟨fun _ _ => trivial, next i hin hir _ _ hw hq⟩

/-- The first n operations in the order of the text; then the rest, in the order in which they may come. -/
theorem wpIn_region_headY {id : Nat} {a : Act} {w : World} (n : Nat) (hm : P.follows .mixedOrders = true) (hd : noDefer l.toArray = true) (hB1 : Region.lexB .any (l.take n).toArray = true) (hB2 : headY l.toArray n = true)
    (h : wpQuiet P (l.take n).toArray (fun w' => ∃ x, w' = plus w x) (fun a' => ∀ w', Ext w w' → wpAnyIn Fence.wide mm P .any l.toArray Q (l.toArray.size - n) (restB l.toArray n) a' w') (l.take n) a) : (Code.region id l.toArray true).wpIn Fence.wide mm P Q a w := by
  have hB2' := hB2
  simp only [headY, Bool.and_eq_true, decide_eq_true_eq] at hB2'
  obtain ⟨⟨hn, _⟩, _⟩ := hB2'
  simp only [Region.lexB, Bool.and_eq_true] at hB1
  have hlen : (l.take n).length = n := by simp at hn ⊢; omega
  have H := wpAnyQ_lex (C := fun w' => ∃ x, w' = plus w x) (md := .any) hB1.1 (l.take n) 0 (Array.replicate n false) a (by simp) (by simpa [hlen] using hB1.2) h
  refine wpIn_region_any hm ?_
  have := any_headY (C := fun w' => ∃ x, w' = plus w x) (Q := Q) (mm := mm) hd hB2 (fun a' w' hw' hq => by
    obtain ⟨x, rfl⟩ := hw'
    exact hq _ (ext_plus w x)) (l.take n).length (Array.replicate n false) a { w with drawn := w.drawn + 1 } (by simp) (by simp [hlen]) ⟨⟨#[], w.drawn + 1⟩, by simp [plus]⟩ H
    (fun j o _ hl => by rw [getD_replicate_false] at hl; cases hl)
  have e1 : (Array.replicate n false ++ Array.replicate (l.toArray.size - n) false : Array Bool) = Array.replicate l.toArray.size false := by
    rw [Array.replicate_append_replicate]; congr 1; omega
  rw [e1, hlen] at this
  have e2 : n + (l.toArray.size - n) = l.toArray.size := by omega
  rw [e2] at this
  exact this
theorem anyIn_seq {ops : Array Oper} {Q' : Exit → Act → World → Prop} : ∀ (l : List Oper) (k : Nat) (listed : Array Bool) (a : Act) (w : World), (∀ j, l[j]? = ops[k + j]?) →
    Region.seqB .any ops l.length k listed = true → wpListIn Fence.wide mm P ops Q' l a w → wpAnyIn Fence.wide mm P .any ops Q' l.length listed a w
  | [], _, _, _, _, _, hB, h => ⟨by simpa [Region.seqB] using hB, h⟩
  | o :: l, k, listed, a, w, hl, hB, h => by
    have h0 : ops[k]? = some o := by simpa using (hl 0).symm
    simp only [List.length_cons, Region.seqB, Bool.and_eq_true, decide_eq_true_eq] at hB
    refine ⟨fun h1 => (by rw [hB.1] at h1; cases h1), fun i hi => ?_⟩
    rw [hB.1] at hi
    have hik : i = k := by simpa using hi
    subst hik
    have hw : wpOpIn Fence.wide mm P ops Q' i (wpListIn Fence.wide mm P ops Q' l) a w := by unfold wpOpIn; simp only [h0]; exact h
    exact wpOpIn_mono (fun a' w' h' => anyIn_seq l (i + 1) _ a' w' (fun j => by have := hl (j + 1); simpa [Nat.add_assoc, Nat.add_comm 1 j] using this) hB.2 h') hw
/-- The first n operations in the order of the text; then the rest, which come in one order. -/
theorem wpIn_region_extY {id : Nat} {a : Act} {w : World} (n : Nat) (hm : P.follows .mixedOrders = true) (hd : noDefer l.toArray = true) (hB1 : Region.lexB .any (l.take n).toArray = true) (hB2 : headY l.toArray n = true) (hB3 : Region.seqB .any l.toArray (l.toArray.size - n) n (restB l.toArray n) = true)
    (h : wpQuiet P (l.take n).toArray (fun w' => ∃ x, w' = plus w x) (fun a' => ∀ w', Ext w w' → wpListIn Fence.wide mm P l.toArray Q (l.drop n) a' w') (l.take n) a) : (Code.region id l.toArray true).wpIn Fence.wide mm P Q a w := by
  refine wpIn_region_headY n hm hd hB1 hB2 (wpQuiet_mono ?_ _ _ h)
  intro a' hq w' hw'
  have := anyIn_seq (P := P) (mm := mm) (Q' := Q) (l.drop n) n (restB l.toArray n) a' w' (fun j => by simp [List.getElem?_drop]) (by simpa using hB3) (hq w' hw')
  simpa using this
/-- wp_region_ext, for whatever follows: the region itself does not panic. -/
theorem wp_region_extN {id : Nat} {a : Act} {w : World} (n : Nat) (hm : P.follows .mixedOrders = true) (hB1 : Region.lexB .any (l.take n).toArray = true) (hB2 : headB l.toArray n = true) (hB3 : Region.seqB .any l.toArray (l.toArray.size - n) n (restB l.toArray n) = true)
    (h : wpQuiet P (l.take n).toArray (fun w' => ∃ x, w' = plus w x) (fun a' => ∀ w', Ext w w' → wpList P l.toArray (Exit.then (fun a w => Q .normal a w) (fun _ _ _ => False)) (l.drop n) a' w') (l.take n) a) : (Code.region id l.toArray true).wp P Q a w := by
  refine Code.wp_mono ?_ (wp_region_ext (Q := Exit.then (fun a w => Q .normal a w) (fun _ _ _ => False)) n (fun _ _ d _ _ h => by cases d <;> exact h) hm hB1 hB2 hB3 h)
  intro e a w hq
  cases e <;> first | exact hq | exact hq.elim
end
end Go.Proofs.Ytkjoojmlcjmlgaa
