/- Draw's law for a region inside a round of a range over a function. -/
import Derived.Test.YthffoglpekpmdaaDraw
import Derived.OrdersIn
import Derived.RangeFuncCalls
import Derived.TacticsIn
namespace Go.Proofs.Ythffoglpekpmdaa
set_option linter.unusedVariables false
set_option linter.unusedSimpArgs false
open Go.RowKit
section
variable {P : Program} {k n : Nat} {Q : Exit → Act → World → Prop}
def noDefer (ops : Array Oper) : Bool := ops.all fun o => match o.op with | .defer _ => false | _ => true
theorem oper_bridge {o : Oper} {a : Act} {w : World} {K : Act → World → Prop} (hd : ∀ c, o.op ≠ .defer c) (h : o.wp P a w K Q) : o.wpIn (Fence.wide.inRound k) n P a w K Q := by
  refine ⟨fun _ _ => trivial, ?_⟩
  unfold Oper.wp at h
  rw [Fence.inRound_round, Oper.semAt_some _ _ _ hd]
  generalize (execOp a.eval o).run P w = r at h
  cases r with
  | ok x w' =>
    cases x
    case enter f args => exact ⟨fun h => by simp [Fence.wide, Fence.inRound] at h, CallsIn.inRound k (callsIn_wide.2 h)⟩
    case row row args =>
      refine ⟨fun h => by simp [Fence.wide, Fence.inRound] at h, fun c cs _ => ?_⟩
      obtain ⟨v, w'', hr, hs⟩ := h c cs
      exact ⟨v, w'', hr, stepsIn_wide.2 hs⟩
    case round => exact h.elim
    all_goals exact h
  | halt x w' => cases x <;> exact h
theorem any_bridge {ops : Array Oper} (hd : noDefer ops = true) (hno : ¬ LetsOut Q) : ∀ (f : Nat) (L : Array Bool) (a : Act) (w : World), wpAny P .any ops Q f L a w → wpAnyIn (Fence.wide.inRound k) n P .any ops Q f L a w
  | 0, _, _, _, h => h
  | f + 1, L, a, w, h => by
    refine ⟨h.1, fun i hi => ?_⟩
    have h1 := h.2 i hi
    unfold wpOp at h1
    unfold wpOpIn
    cases ho : ops[i]? with
    | none =>
      rw [ho] at h1
      exact any_bridge hd hno f _ a w h1
    | some o =>
      rw [ho] at h1
      dsimp only at h1 ⊢
      have hd' : ∀ c, o.op ≠ .defer c := by
        intro c e
        unfold noDefer at hd
        rw [Array.all_eq_true] at hd
        obtain ⟨hlt, he⟩ := Array.getElem?_eq_some_iff.1 ho
        have := hd i hlt
        rw [he, e] at this
        cases this
      split
      · rename_i hw
        rw [if_pos hw] at h1
        rcases h1 with h1 | h1
        · exact Oper.wpIn_mono (fun a w h => any_bridge hd hno f _ a w h) (oper_bridge hd' h1)
        · exact absurd h1.2 hno
      · rename_i hw
        rw [if_neg hw] at h1
        exact ⟨fun _ _ => trivial, any_bridge hd hno f _ _ w h1⟩
/-- Draw's wp_region_ext in a round. -/
theorem wpIn_region_ext {l : List Oper} {id : Nat} {a : Act} {w : World} (m : Nat) (hQ : ∀ c a d v w, Q (.panic c) (a.put d v) w → Q (.panic c) a w) (hno : ¬ LetsOut Q) (hd : noDefer l.toArray = true) (hm : P.follows .mixedOrders = true) (hB1 : Region.lexB .any (l.take m).toArray = true) (hB2 : headB l.toArray m = true) (hB3 : Region.seqB .any l.toArray (l.toArray.size - m) m (restB l.toArray m) = true)
    (h : wpQuiet P (l.take m).toArray (fun w' => ∃ x, w' = plus w x) (fun a' => ∀ w', Ext w w' → wpList P l.toArray Q (l.drop m) a' w') (l.take m) a) : (Code.region id l.toArray true).wpIn (Fence.wide.inRound k) n P Q a w := by
  have h := wpQuiet_mono (Q' := fun a' => ∀ w', Ext w w' → wpAny P .any l.toArray Q (l.toArray.size - m) (restB l.toArray m) a' w') (fun a' hq w' hw' => by
    have := wpAny_of_seq (md := .any) (Q' := Q) (l.drop m) m (restB l.toArray m) a' w' (fun j => by simp [List.getElem?_drop]) (by simpa using hB3) (hq w' hw')
    simpa using this) _ _ h
  have hB2' := hB2
  simp only [headB, Bool.and_eq_true, decide_eq_true_eq] at hB2'
  obtain ⟨⟨⟨hn, _⟩, _⟩, _⟩ := hB2'
  simp only [Region.lexB, Bool.and_eq_true] at hB1
  have hlen : (l.take m).length = m := by simp at hn ⊢; omega
  have H := wpAnyQ_lex (C := fun w' => ∃ x, w' = plus w x) (md := .any) hB1.1 (l.take m) 0 (Array.replicate m false) a (by simp) (by simpa [hlen] using hB1.2) h
  refine wpIn_region_any hm (any_bridge hd hno _ _ _ _ ?_)
  have := any_head (C := fun w' => ∃ x, w' = plus w x) (Q := Q) hQ hB2 (fun a' w' hw' hq => by
    obtain ⟨x, rfl⟩ := hw'
    exact hq _ (ext_plus w x)) (l.take m).length (Array.replicate m false) a { w with drawn := w.drawn + 1 } (by simp) (by simp [hlen]) ⟨⟨#[], w.drawn + 1⟩, by simp [plus]⟩ H
    (fun j o _ hl => by rw [getD_replicate_false] at hl; cases hl)
  have e1 : (Array.replicate m false ++ Array.replicate (l.toArray.size - m) false : Array Bool) = Array.replicate l.toArray.size false := by
    rw [Array.replicate_append_replicate]; congr 1; omega
  rw [e1, hlen] at this
  have e2 : m + (l.toArray.size - m) = l.toArray.size := by omega
  rw [e2] at this
  exact this
end
end Go.Proofs.Ythffoglpekpmdaa
