/- A statement whose order Go leaves open, whose operations read, or call functions that leave all that lay as it lay (new blocks may come), and hand back one value whatever the order; behind them, in one order, a tail (a store): one walk in the order of the text serves every order. -/
import Derived.Test.YtkjoojmlcjmlgaaBase
import Derived.BigQuiet
import Derived.Deep.QuietTactic
import Derived.StillTail
namespace Go.Proofs.Ytkjoojmlcjmlgaa
set_option linter.unusedVariables false
set_option linter.unusedSimpArgs false
open Go.RowKit

structure More where
  X : Array Obj
  d : Nat
  deriving Inhabited
/-- w, with more blocks, and some draws. -/
def plus (w : World) (x : More) : World := { w with heap := w.heap ++ x.X, drawn := x.d }
theorem plus_cell (w : World) (x : More) (b o : Nat) (h : b < w.heap.size) : (plus w x).cell? ⟨b, o, none⟩ = w.cell? ⟨b, o, none⟩ := by
  simp [plus, World.cell?, Array.getElem?_append_left h]
theorem plus_frozen (w : World) (x : More) (b o : Nat) (h : b < w.heap.size) : (plus w x).frozen? ⟨b, o, none⟩ = w.frozen? ⟨b, o, none⟩ := by
  simp [plus, World.frozen?, Array.getElem?_append_left h]
theorem ext_plus (w : World) (x : More) : Ext w (plus w x) :=
  ⟨rfl, rfl, rfl, by simp [plus], fun k hk => by simp [plus, Array.getElem?_append_left hk]⟩
theorem plus_of_ext {w w' : World} (h : Ext w w') : ∃ x, w' = plus w x := by
  refine ⟨⟨w'.heap.extract w.heap.size w'.heap.size, w'.drawn⟩, ?_⟩
  obtain ⟨h1, h2, h3, h4, h5⟩ := h
  have e : w'.heap = w.heap ++ w'.heap.extract w.heap.size w'.heap.size := by
    apply Array.ext
    · simp; omega
    · intro i hi hi'
      rw [Array.getElem_append]
      split
      · rename_i hlt
        have := h5 i hlt
        rw [Array.getElem?_eq_getElem hi, Array.getElem?_eq_getElem hlt] at this
        exact Option.some.inj this
      · rename_i hlt
        simp only [Array.getElem_extract]
        congr 1; omega
  cases w' with
  | mk heap tape drawn os output =>
    simp only [plus] at *
    simp only [World.mk.injEq]
    exact ⟨e, h2, trivial, h1, h3⟩
theorem ext_quiet {P : Program} {f : FuncId} {args : Array Value} {w : World} {x : More} {v : Value}
    (h : Calls P f args (plus w x) fun e w' => e = .returned v ∧ Ext (plus w x) w') : Calls P f args (plus w x) fun e w'' => e = .returned v ∧ ∃ x', w'' = plus w x' :=
  h.mono fun _ _ ⟨he, hx⟩ => ⟨he, plus_of_ext ((ext_plus w x).trans hx)⟩
theorem same_quiet {P : Program} {f : FuncId} {args : Array Value} {w : World} {x : More} {v : Value}
    (h : Calls P f args (plus w x) fun e w' => e = .returned v ∧ plus w x = w') : Calls P f args (plus w x) fun e w'' => e = .returned v ∧ ∃ x', w'' = plus w x' :=
  h.mono fun _ _ ⟨he, hx⟩ => ⟨he, x, hx.symm⟩

/-- Operation j comes behind operation i whatever order is taken. -/
def waits (ops : Array Oper) : Nat → Nat → Nat → Bool
  | 0, _, _ => false
  | f + 1, j, i =>
    match ops[j]? with
    | some o => (o.after.any fun e => Region.binds .any e && e.on == i) || (o.after.any fun e => Region.binds .any e && waits ops f e.on i)
    | none => false
/-- An operation that looks at no memory and cannot fail in some worlds alone. -/
def pureOp : Op → Bool
  | .move _ | .assign _ | .pick .. | .unOp .not .. => true
  | _ => false
def pureAt (ops : Array Oper) (i : Nat) : Bool :=
  match ops[i]? with
  | some o => pureOp o.op && (List.range ops.size).all fun k => decide (k ≤ i) || (match ops[k]? with
    | some p => (p.after.any fun e => Region.binds .any e && e.on == i) || o.apart ops p
    | none => true)
  | none => false
/-- Each of the first n operations waits for earlier ones alone; each later one comes behind all of them that are not pure. -/
def headB (ops : Array Oper) (n : Nat) : Bool :=
  decide (n ≤ ops.size) &&
  ((List.range n).all fun i => match ops[i]? with
    | some o => o.after.all (fun e => !Region.binds .any e || decide (e.on < i)) && (match o.guard with | some (j, _) => decide (j < n) | none => true)
    | none => true) &&
  ((List.range ops.size).all fun t => decide (t < n) || (List.range n).all fun i => pureAt ops i || waits ops ops.size t i) &&
  Region.noSelect ops
def restB (ops : Array Oper) (n : Nat) : Array Bool := Array.replicate n true ++ Array.replicate (ops.size - n) false

section
variable {P : Program} {l : List Oper} {n : Nat} {C : World → Prop} {Q : Exit → Act → World → Prop} {Qh : Act → Prop}
theorem head_get {i : Nat} (h : i < n) : ((l.take n).toArray)[i]? = l.toArray[i]? := by simp [List.getElem?_take, h]
theorem head_none {i : Nat} (h : ¬ i < n) : ((l.take n).toArray)[i]? = none := by simp [List.getElem?_take, h]
theorem wanted_head {o : Oper} {t : Array Value} (hg : ∀ j b, o.guard = some (j, b) → j < n) :
    Region.wanted o (yielded (l.take n).toArray t) = Region.wanted o (yielded l.toArray t) := by
  unfold Region.wanted
  cases h : o.guard with
  | none => rfl
  | some x =>
    obtain ⟨j, b⟩ := x
    simp only [yielded, head_get (l := l) (hg j b h)]
theorem wpQuiet_mono {ops : Array Oper} {Q Q' : Act → Prop} (hq : ∀ a, Q a → Q' a) : ∀ (l : List Oper) (a : Act), wpQuiet P ops C Q l a → wpQuiet P ops C Q' l a
  | [], a, h => hq a h
  | o :: l, a, h => by
    unfold wpQuiet at h ⊢
    split
    · rename_i hw
      rw [if_pos hw] at h
      exact Oper.quiet_mono (wpQuiet_mono hq l) h
    · rename_i hw
      rw [if_neg hw] at h
      exact wpQuiet_mono hq l _ h
theorem pure_yields {o : Oper} (hp : pureOp o.op = true) {a : Act} {w : World} {v : Value} (h : o.quietAt P a C w v) : ∀ w', (execOp a.eval o).run P w' = .ok (.value v) w' := by
  intro w'
  unfold Oper.quietAt at h
  obtain ⟨dst, op, type, pos, after, guard⟩ := o
  cases op <;> simp [pureOp] at hp
  case move x => simp [execOp, Sem.run, pure, Oper.quietUpon] at h ⊢; exact h
  case assign x => simp [execOp, Sem.run, pure, Oper.quietUpon] at h ⊢; exact h
  case pick c x y =>
    simp only [execOp] at h ⊢
    cases hc : a.eval c <;> simp [hc, asBool, stuck, Sem.run_bind, Sem.run, pure, bind, Sem.bind, Oper.quietUpon, Result.andThen] at h ⊢
    exact h
  case unOp u t x =>
    cases u <;> simp at hp
    simp only [execOp] at h ⊢
    cases hc : a.eval x <;> simp [hc, Op.unary, stuck, Sem.run_bind, Sem.run, pure, bind, Sem.bind, Oper.quietUpon, Result.andThen] at h ⊢
    exact h
theorem any_head (hQ : ∀ c a d v w, Q (.panic c) (a.put d v) w → Q (.panic c) a w) (h0 : headB l.toArray n = true)
    (hC : ∀ a w, C w → Qh a → wpAny P .any l.toArray Q (l.toArray.size - n) (Array.replicate n true ++ Array.replicate (l.toArray.size - n) false) a w) :
    ∀ (f : Nat) (L : Array Bool) (a : Act) (w : World), L.size = n → L.toList.count false = f → C w → wpAnyQ P .any (l.take n).toArray C Qh f L a →
      (∀ j o, l.toArray[j]? = some o → L.getD j false = true → ∀ e ∈ o.after, Region.binds .any e = true → L.getD e.on false = true) →
      wpAny P .any l.toArray Q (f + (l.toArray.size - n)) (L ++ Array.replicate (l.toArray.size - n) false) a w := by
  simp only [headB, Bool.and_eq_true, decide_eq_true_eq, List.all_eq_true, List.mem_range, Bool.or_eq_true] at h0
  obtain ⟨⟨⟨hn, hh⟩, ht⟩, hsel⟩ := h0
  have chain : ∀ (L : Array Bool), (∀ j o, l.toArray[j]? = some o → L.getD j false = true → ∀ e ∈ o.after, Region.binds .any e = true → L.getD e.on false = true) →
      ∀ f j i, L.getD j false = true → waits l.toArray f j i = true → L.getD i false = true := by
    intro L hcl f
    induction f with
    | zero => intro j i _ hw; simp [waits] at hw
    | succ f ih =>
      intro j i hj hw
      unfold waits at hw
      cases ho : l.toArray[j]? with
      | none => rw [ho] at hw; cases hw
      | some o =>
        rw [ho] at hw
        simp only [Bool.or_eq_true, Array.any_eq_true', Bool.and_eq_true, beq_iff_eq] at hw
        rcases hw with ⟨e, he, hb, hon⟩ | ⟨e, he, hb, hon⟩
        · rw [← hon]; exact hcl j o ho hj e he hb
        · exact ih e.on i (hcl j o ho hj e he hb) hon
  intro f
  induction f with
  | zero =>
    intro L a w hL hc hw h _
    have e : L = Array.replicate n true := by
      apply Array.ext
      · simp [hL]
      · intro i hi hi'
        rw [Array.getElem_replicate]
        have hz : false ∉ L.toList := List.count_eq_zero.1 hc
        cases hb : L[i] with
        | true => rfl
        | false => exact absurd (by rw [← hb]; exact Array.getElem_mem_toList hi) hz
    rw [e, Nat.zero_add]
    exact hC a w hw h.2
  | succ f ih =>
    intro L a w hL hc hw h hcl
    -- an operation that has not come up
    have hex0 : ∃ i, i < n ∧ L.getD i true = false := by
      have hm : false ∈ L.toList := List.count_pos_iff.1 (by omega)
      obtain ⟨i, hi, hb⟩ := List.getElem_of_mem hm
      have hi' : i < L.size := by simpa using hi
      exact ⟨i, by omega, by simp [hi']; simpa using hb⟩
    -- the least that has not come up
    have key : ∀ i, i < n → L.getD i true = false → ∃ j, j < n ∧ L.getD j true = false ∧ ∀ k, k < j → L.getD k true = true := by
      intro i
      induction i using Nat.strongRecOn with
      | _ i ihi =>
        intro hi hf
        by_cases hk : ∃ k, k < i ∧ L.getD k true = false
        · obtain ⟨k, hk, hkf⟩ := hk
          exact ihi k hk (by omega) hkf
        · exact ⟨i, hi, hf, fun k hk' => by
            cases hb : L.getD k true with
            | true => rfl
            | false => exact absurd ⟨k, hk', hb⟩ hk⟩
    obtain ⟨j, hj, hjf, hmin⟩ : ∃ j, j < n ∧ L.getD j true = false ∧ ∀ k, k < j → L.getD k true = true := by
      obtain ⟨i0, hi0, hf0⟩ := hex0
      exact key i0 hi0 hf0
    have getL : ∀ i d, i < n → (L ++ Array.replicate (l.toArray.size - n) false).getD i d = L.getD i d := fun i d hi => by
      have : i < L.size := by omega
      simp [Array.getElem?_append_left this]
    have edges : ∀ i o, i < n → l.toArray[i]? = some o → (∀ e ∈ o.after, Region.binds .any e = true → e.on < i) := by
      intro i o hi ho e he hb
      have h2 := hh i hi
      rw [ho] at h2
      simp only [Bool.and_eq_true, Array.all_eq_true_iff_forall_mem, Bool.or_eq_true, Bool.not_eq_true', decide_eq_true_eq] at h2
      exact (h2.1 e he).resolve_left (by rw [hb]; simp)
    have toHead : ∀ i, i < n → i ∈ Region.ready .any l.toArray (L ++ Array.replicate (l.toArray.size - n) false) → i ∈ Region.ready .any (l.take n).toArray L := by
      intro i hin hi
      obtain ⟨h1, o, ho, hall⟩ := mem_ready.1 hi
      refine mem_ready.2 ⟨by rw [← getL i true hin]; exact h1, o, by rw [head_get hin]; exact ho, fun e he hb => ?_⟩
      have h3 := edges i o hin ho e he hb
      rw [← getL e.on false (by omega)]
      exact hall e he hb
    have hjs : j < l.toArray.size := by omega
    obtain ⟨oj, hoj⟩ : ∃ o, l.toArray[j]? = some o := ⟨_, Array.getElem?_eq_getElem hjs⟩
    have jready : j ∈ Region.ready .any l.toArray (L ++ Array.replicate (l.toArray.size - n) false) := by
      refine mem_ready.2 ⟨by rw [getL j true hj]; exact hjf, oj, hoj, fun e he hb => ?_⟩
      have h3 := edges j oj hj hoj e he hb
      rw [getL e.on false (by omega)]
      have h4 := hmin e.on h3
      have h5 : e.on < L.size := by omega
      simp [h5] at h4 ⊢
      exact h4
    have next : ∀ i, i < n → i ∈ Region.ready .any (l.take n).toArray L → ∀ a' w', C w' → wpAnyQ P .any (l.take n).toArray C Qh f (L.setIfInBounds i true) a' →
        wpAny P .any l.toArray Q (f + (l.toArray.size - n)) ((L ++ Array.replicate (l.toArray.size - n) false).setIfInBounds i true) a' w' := by
      intro i hin hir a' w' hw' h'
      obtain ⟨hun, o, ho, hall⟩ := mem_ready.1 hir
      have his : i < L.size := by omega
      have hcl' : ∀ j o, l.toArray[j]? = some o → (L.setIfInBounds i true).getD j false = true → ∀ e ∈ o.after, Region.binds .any e = true → (L.setIfInBounds i true).getD e.on false = true := by
        intro j oj hoj hlj e he hb
        by_cases hij : i = j
        · subst hij
          rw [head_get hin] at ho
          have : oj = o := Option.some.inj (hoj.symm.trans ho)
          subst this
          exact getD_set_true (hall e he hb)
        · rw [getD_set_ne false hij] at hlj
          exact getD_set_true (hcl j oj hoj hlj e he hb)
      have hset : (L ++ Array.replicate (l.toArray.size - n) false).setIfInBounds i true = L.setIfInBounds i true ++ Array.replicate (l.toArray.size - n) false := by
        rw [Array.setIfInBounds_append_left his]
      have hcount : (L.setIfInBounds i true).toList.count false = f := by
        have hb : L[i] = false := by simpa [his] using hun
        have : (L.setIfInBounds i true).toList = L.toList.set i true := by simp
        rw [this, List.count_set (by simpa using his)]
        simp [hb]
        simp at hc; omega
      rw [hset]
      exact ih _ a' w' (by simp [hL]) hcount hw' h' hcl'
    have guards : ∀ i o, i < n → l.toArray[i]? = some o → ∀ j b, o.guard = some (j, b) → j < n := fun i o hin ho j b hgd => by
      have h2 := hh i hin
      rw [ho] at h2
      simp only [Bool.and_eq_true, hgd, decide_eq_true_eq] at h2
      exact h2.2
    rw [show f + 1 + (l.toArray.size - n) = (f + (l.toArray.size - n)) + 1 by omega]
    by_cases hpu : pureAt l.toArray j = true
    · -- it is pure: it may be taken first
      unfold pureAt at hpu
      rw [hoj] at hpu
      simp only [Bool.and_eq_true, List.all_eq_true, List.mem_range, Bool.or_eq_true, decide_eq_true_eq] at hpu
      obtain ⟨hpu, hap⟩ := hpu
      have hjr := toHead j hj jready
      have hq := h.2 j hjr
      unfold qOp at hq
      rw [head_get hj, hoj] at hq
      dsimp only at hq
      rw [wanted_head (guards j oj hj hoj)] at hq
      obtain ⟨v, hy, hK⟩ : ∃ v, Yields P l.toArray oj v a ∧ wpAnyQ P .any (l.take n).toArray C Qh f (L.setIfInBounds j true) (a.put oj.dst v) := by
        split at hq
        · rename_i hwd
          obtain ⟨v, h1, h2⟩ := hq
          exact ⟨v, .inl ⟨hwd, pure_yields hpu (h1 w hw)⟩, h2⟩
        · rename_i hwd
          exact ⟨undef, .inr ⟨by simpa using hwd, rfl⟩, hq⟩
      refine wpAny_first hoj (Region.noSelect_spec hsel) (fun c a w hp => hQ c a oj.dst v w hp) _ _ a w ?_ jready hy (next j hj hjr _ w hw hK)
      intro k ok hk hkj hun hno
      have hks : k < l.toArray.size := (Array.getElem?_eq_some_iff.1 hk).1
      have hgt : ¬ k ≤ j := by
        intro hle
        have hlt : k < j := by omega
        rw [getL k true (by omega), hmin k hlt] at hun
        cases hun
      have h3 := (hap k hks).resolve_left hgt
      rw [hk] at h3
      simp only [Bool.or_eq_true, Array.any_eq_true', Bool.and_eq_true, beq_iff_eq] at h3
      rcases h3 with ⟨e, he, hb, hon⟩ | h3
      · exact absurd hon (hno e he hb)
      · exact h3
    · have hready : ∀ i, i ∈ Region.ready .any l.toArray (L ++ Array.replicate (l.toArray.size - n) false) → i < n := by
        intro i hi
        obtain ⟨h1, o, ho, hall⟩ := mem_ready.1 hi
        have hlt : i < l.toArray.size := (Array.getElem?_eq_some_iff.1 ho).1
        rcases Nat.lt_or_ge i n with h2 | h2
        · exact h2
        · have := ((ht i hlt).resolve_left (by omega) j hj).resolve_left hpu
          cases hsz : l.toArray.size with
          | zero => omega
          | succ m =>
            rw [hsz] at this
            unfold waits at this
            rw [ho] at this
            simp only [Bool.or_eq_true, Array.any_eq_true', Bool.and_eq_true, beq_iff_eq] at this
            have inL : ∀ x, (L ++ Array.replicate (l.toArray.size - n) false).getD x false = true → L.getD x false = true := fun x hx => by
              rcases Nat.lt_or_ge x n with h7 | h7
              · rw [← getL x false h7]; exact hx
              · exfalso
                have h8 : L.size ≤ x := by omega
                rw [Array.getD_eq_getD_getElem?, Array.getElem?_append_right h8, Array.getElem?_replicate] at hx
                split at hx <;> simp at hx
            have h3 : L.getD j false = true := by
              rcases this with ⟨e, he, hb, hon⟩ | ⟨e, he, hb, hon⟩
              · rw [← hon]; exact inL _ (hall e he hb)
              · exact chain L hcl m e.on j (inL _ (hall e he hb)) hon
            have : j < L.size := by omega
            simp [this] at hjf h3
            rw [hjf] at h3; cases h3
      refine ⟨fun h6 => (by rw [h6] at jready; cases jready), fun i hi => ?_⟩
      have hin := hready i hi
      have hir := toHead i hin hi
      have hq := h.2 i hir
      obtain ⟨_, o, ho, _⟩ := mem_ready.1 hi
      unfold qOp at hq
      unfold wpOp
      rw [head_get hin] at hq
      simp only [ho] at hq ⊢
      rw [wanted_head (guards i o hin ho)] at hq
      split
      · rename_i hwd
        rw [if_pos hwd] at hq
        exact .inl (Oper.wp_of_quiet hw (next i hin hir) hq)
      · rename_i hwd
        rw [if_neg hwd] at hq
        exact next i hin hir _ _ hw hq

/-- The first n operations in the order of the text; then the rest, in whatever order. -/
theorem wp_region_head {id : Nat} {a : Act} {w : World} (n : Nat) (hQ : ∀ c a d v w, Q (.panic c) (a.put d v) w → Q (.panic c) a w) (hm : P.follows .mixedOrders = true) (hB1 : Region.lexB .any (l.take n).toArray = true) (hB2 : headB l.toArray n = true)
    (h : wpQuiet P (l.take n).toArray (fun w' => ∃ x, w' = plus w x) (fun a' => ∀ w', Ext w w' → wpAny P .any l.toArray Q (l.toArray.size - n) (restB l.toArray n) a' w') (l.take n) a) : (Code.region id l.toArray true).wp P Q a w := by
  have hB2' := hB2
  simp only [headB, Bool.and_eq_true, decide_eq_true_eq] at hB2'
  obtain ⟨⟨⟨hn, _⟩, _⟩, _⟩ := hB2'
  simp only [Region.lexB, Bool.and_eq_true] at hB1
  have hlen : (l.take n).length = n := by simp at hn ⊢; omega
  have H := wpAnyQ_lex (C := fun w' => ∃ x, w' = plus w x) (md := .any) hB1.1 (l.take n) 0 (Array.replicate n false) a (by simp) (by simpa [hlen] using hB1.2) h
  refine wp_region_any hm ?_
  have := any_head (C := fun w' => ∃ x, w' = plus w x) (Q := Q) hQ hB2 (fun a' w' hw' hq => by
    obtain ⟨x, rfl⟩ := hw'
    exact hq _ (ext_plus w x)) (l.take n).length (Array.replicate n false) a { w with drawn := w.drawn + 1 } (by simp) (by simp [hlen]) ⟨⟨#[], w.drawn + 1⟩, by simp [plus]⟩ H
    (fun j o _ hl => by rw [getD_replicate_false] at hl; cases hl)
  have e1 : (Array.replicate n false ++ Array.replicate (l.toArray.size - n) false : Array Bool) = Array.replicate l.toArray.size false := by
    rw [Array.replicate_append_replicate]; congr 1; omega
  rw [e1, hlen] at this
  have e2 : n + (l.toArray.size - n) = l.toArray.size := by omega
  rw [e2] at this
  exact this
/-- The first n operations in the order of the text; the rest, which come in one order. -/
theorem wp_region_ext {id : Nat} {a : Act} {w : World} (n : Nat) (hQ : ∀ c a d v w, Q (.panic c) (a.put d v) w → Q (.panic c) a w) (hm : P.follows .mixedOrders = true) (hB1 : Region.lexB .any (l.take n).toArray = true) (hB2 : headB l.toArray n = true) (hB3 : Region.seqB .any l.toArray (l.toArray.size - n) n (restB l.toArray n) = true)
    (h : wpQuiet P (l.take n).toArray (fun w' => ∃ x, w' = plus w x) (fun a' => ∀ w', Ext w w' → wpList P l.toArray Q (l.drop n) a' w') (l.take n) a) : (Code.region id l.toArray true).wp P Q a w := by
  refine wp_region_head n hQ hm hB1 hB2 (wpQuiet_mono ?_ _ _ h)
  intro a' hq w' hw'
  have := wpAny_of_seq (md := .any) (Q' := Q) (l.drop n) n (restB l.toArray n) a' w' (fun j => by simp [List.getElem?_drop]) (by simpa using hB3) (hq w' hw')
  simpa using this
/-- Of the rest: what comes next. -/
theorem any_one {ops : Array Oper} {listed : Array Bool} {a : Act} {w : World} {f i : Nat} (hr : Region.ready .any ops listed = [i]) (h : wpOp P ops Q i (wpAny P .any ops Q f (listed.setIfInBounds i true)) a w) : wpAny P .any ops Q (f + 1) listed a w :=
  by
  refine ⟨fun e => ?_, fun j hj => ?_⟩
  · rw [hr] at e; cases e
  · rw [hr] at hj; simp at hj; subst hj; exact h
theorem any_two {ops : Array Oper} {listed : Array Bool} {a : Act} {w : World} {f i j : Nat} (hr : Region.ready .any ops listed = [i, j]) (h : wpOp P ops Q i (wpAny P .any ops Q f (listed.setIfInBounds i true)) a w)
    (h' : wpOp P ops Q j (wpAny P .any ops Q f (listed.setIfInBounds j true)) a w) : wpAny P .any ops Q (f + 1) listed a w :=
  by
  refine ⟨fun e => ?_, fun k hk => ?_⟩
  · rw [hr] at e; cases e
  · rw [hr] at hk; simp at hk; rcases hk with rfl | rfl
    · exact h
    · exact h'
theorem any_done {ops : Array Oper} {listed : Array Bool} {a : Act} {w : World} (hr : Region.ready .any ops listed = []) (h : Q .normal a w) : wpAny P .any ops Q 0 listed a w := ⟨hr, h⟩
theorem op_of {ops : Array Oper} {o : Oper} {a : Act} {w : World} {i : Nat} {K : Act → World → Prop} (ho : ops[i]? = some o) (h : wpList P ops (fun e a w => match e with | .normal => K a w | e => Q e a w) [o] a w) : wpOp P ops Q i K a w := by
  unfold wpOp
  rw [ho]
  dsimp only
  unfold wpList at h
  split
  · rename_i hw
    rw [if_pos hw] at h
    refine h.imp (fun h => ?_) (fun h => ⟨h.1, h.2⟩)
    unfold Oper.wp at h ⊢
    generalize (execOp a.eval o).run P w = r at h ⊢
    cases r with
    | ok n w' =>
      cases n <;> first
        | exact h
        | exact Calls.mono h (fun e w'' he => by cases e <;> exact he)
    | halt x w' => cases x <;> exact h
  · rename_i hw
    rw [if_neg hw] at h
    exact h
end
end Go.Proofs.Ytkjoojmlcjmlgaa
