/- Stocks, as it is asked; the least number for which something holds. -/
import Derived.Test.YthffoglpekpmdaaG4
namespace Go.Proofs.Ythffoglpekpmdaa
set_option linter.unusedVariables false
set_option linter.unusedSimpArgs false
open Go.RowKit
set_option maxRecDepth 100000 in
set_option maxHeartbeats 8000000 in
theorem stocksQ_any (r : R.Reef) (plan : List Int) (vp vl : Value) (w : World) (hP : Places w vp r.places) (hL : Ints w vl plan) (hn : r.places.length ≤ 1000000) (hm : plan.length ≤ 1000000) :
    Calls Try.prog 41 #[.agg (reefV r vp), vl] w fun x w' => ∃ v, x = .returned (.tuple #[v, .int .i64 (codeOf (rightB r plan))]) ∧ SpanRows w' v (if rightB r plan then R.stocks r plan else []) ∧ Ext w w' := by
  have hP' := hP
  have hL' := hL
  obtain ⟨a1, c1, rfl, _⟩ := hP'
  obtain ⟨a2, c2, rfl, _⟩ := hL'
  have hri := fun w' (hx : Ext w w') => right_any r plan _ _ w' (hP.ext hx) (hL.ext hx) hn hm
  obtain ⟨B, hB⟩ : ∃ B, rightB r plan = B := ⟨_, rfl⟩
  simp only [hB] at hri
  rw [hB]
  have HRI := Lib.hid hri
  clear hri
  have hbx := fun (w' : World) (hb : Ext ((w.alloc (.cells (reefV r (.slice a1 r.places.length c1)) 24)).alloc (.cells (planV r (.slice a1 r.places.length c1) (.slice a2 plan.length c2)) 82)) w') => Blk.ext (Blk.new' (w := w.alloc (.cells (reefV r (.slice a1 r.places.length c1)) 24)) (b := w.heap.size + 1) (by simp) (planV r (.slice a1 r.places.length c1) (.slice a2 plan.length c2)) 82) hb
  have HBX := Lib.hid hbx
  clear hbx
  cases B with
  | false =>
    clear hB
    go_enter Try.func41, Try.ntmps41
    go_wp2_with (first | (go_at_call 50; refine (HRI.out _ (by (with_reducible (repeat (first | exact Ext.refl _ | assumption | apply Ext.alloc | apply Ext.drew | exact ext_plus _ _ | (apply Ext.setCell; rotate_left; (simp <;> omega)) | (apply Ext.trans; rotate_left; exact ext_plus _ _) | (apply Ext.trans; rotate_left; assumption)))))).mono ?_; rintro e w2 ⟨rfl, hb⟩))
    exact bodyPost_ret (v := .tuple #[.slice none 0 0, .int .i64 2]) (by simp [results, Try.results41, go_sem]) rfl ⟨_, rfl, Sls.nil _, by (with_reducible (repeat (first | exact Ext.refl _ | assumption | apply Ext.alloc | apply Ext.drew | exact ext_plus _ _ | (apply Ext.setCell; rotate_left; (simp <;> omega)) | (apply Ext.trans; rotate_left; exact ext_plus _ _) | (apply Ext.trans; rotate_left; assumption))))⟩
  | true =>
    have hR := hB
    unfold rightB at hR
    rw [Bool.and_eq_true] at hR
    have hst := fun w' (hx : Ext w w') => stocks_any r plan _ _ w' (hP.ext hx) (hL.ext hx) (R.okR_of hR.1) (R.okL_iff.1 hR.2)
    have HST := Lib.hid hst
    clear hR hst hB
    go_enter Try.func41, Try.ntmps41
    go_wp2_with (first | (go_at_call 50; refine (HRI.out _ (by (with_reducible (repeat (first | exact Ext.refl _ | assumption | apply Ext.alloc | apply Ext.drew | exact ext_plus _ _ | (apply Ext.setCell; rotate_left; (simp <;> omega)) | (apply Ext.trans; rotate_left; exact ext_plus _ _) | (apply Ext.trans; rotate_left; assumption)))))).mono ?_; rintro e w2 ⟨rfl, hb⟩; have d0 := (HBX.out _ hb).cell; have d1 := (HBX.out _ hb).lt) | (go_at_call 68; refine (HST.out _ (by (with_reducible (repeat (first | exact Ext.refl _ | assumption | apply Ext.alloc | apply Ext.drew | exact ext_plus _ _ | (apply Ext.setCell; rotate_left; (simp <;> omega)) | (apply Ext.trans; rotate_left; exact ext_plus _ _) | (apply Ext.trans; rotate_left; assumption)))))).mono ?_; rintro e w3 ⟨v3, rfl, hv3, hb3⟩))
    exact bodyPost_ret (v := .tuple #[v3, .int .i64 0]) (by simp [results, Try.results41, go_sem]) rfl ⟨_, rfl, hv3, by (with_reducible (repeat (first | exact Ext.refl _ | assumption | apply Ext.alloc | apply Ext.drew | exact ext_plus _ _ | (apply Ext.setCell; rotate_left; (simp <;> omega)) | (apply Ext.trans; rotate_left; exact ext_plus _ _) | (apply Ext.trans; rotate_left; assumption))))⟩
/-- A post of a body that ends by 'return' alone. -/
def OnRet (R : Act → World → Prop) : Exit → Act → World → Prop
  | .ret, a, w => R a w
  | _, _, _ => False
theorem wp_scope_ret {P : Program} {c : Code} {Q : Exit → Act → World → Prop} {a : Act} {w : World} (h : ∀ R : Act → World → Prop, (∀ a w, Q .ret a w → R a w) → c.wp P (OnRet R) a w) : (Code.scope c).wp P Q a w := by
  refine wp_scope_straight (Code.wp_mono ?_ (h (fun a w => Q .ret a w) fun _ _ q => q))
  intro e a w hq
  cases e <;> first | exact hq | exact hq.elim
/-- One halving. -/
theorem R.least_step (h : Int → Bool) (f : Nat) (low high : Int) (hne : low ≠ high) : R.least h (f + 1) low high = if h (low + (high - low) / 2) then R.least h f low (low + (high - low) / 2) else R.least h f (low + (high - low) / 2 + 1) high := by
  show (if low = high then low else _) = _
  rw [if_neg hne]
theorem R.least_end (h : Int → Bool) (f : Nat) (low : Int) : R.least h f low low = low := by
  cases f with
  | zero => rfl
  | succ f => show (if low = low then low else _) = low; rw [if_pos rfl]
theorem half_bd {d : Int} {f : Nat} (h0 : 0 < d) (h : d < 2 ^ (f + 1)) : d / 2 < 2 ^ f ∧ d - d / 2 - 1 < 2 ^ f := by
  rw [Int.pow_succ] at h
  omega
/-- Whether divers who count c fish can have been where there are n. -/
def countB (r : R.Reef) (n : Int) (c : Int) : Bool := decide (n ≤ R.most r c)
theorem count_any (r : R.Reef) (x y c : Int) (vp : Value) (hvp : ∃ a n k, vp = .slice a n k) (br bs : Nat) (w : World) (hr : Blk w br (reefV r vp) 24) (hs : Blk w bs #[.int .i64 x, .int .i64 y] 44) (h0 : 0 ≤ c) (h1 : c ≤ 1000000000) (h2 : 0 ≤ r.miss) (h3 : r.miss ≤ 2000) :
    Calls Try.prog 69 #[.int .i64 c, .pointer (some ⟨br, 0, none⟩), .pointer (some ⟨bs, 0, none⟩)] w fun e w' => e = .returned (.bool (countB r x c)) ∧ w = w' := by
  obtain ⟨a, n, k, rfl⟩ := hvp
  have hm : 0 ≤ c * r.miss ∧ c * r.miss ≤ 2000000000000 := ⟨Int.mul_nonneg h0 h2, by have := Int.mul_le_mul h1 h3 h2 (by omega); omega⟩
  have hw : IntKind.wrap .i64 (c * r.miss) = c * r.miss := IntWalk.i64_in _ (by omega)
  have hc : countB r x c = decide (x ≤ c + c * r.miss / 1000) := rfl
  rw [hc]
  obtain ⟨M, hM⟩ : ∃ M, c * r.miss = M := ⟨_, rfl⟩
  rw [hM] at hm hw ⊢
  have c0 := hr.cell
  have c1 := hr.lt
  have c2 := hs.cell
  have c3 := hs.lt
  go_enter Try.func69, Try.ntmps69
  go_wp2
  go_ret
  exact ⟨rfl, rfl⟩
set_option maxRecDepth 100000 in
set_option maxHeartbeats 8000000 in
theorem least_count (r : R.Reef) (x y : Int) (vp : Value) (hvp : ∃ a n k, vp = .slice a n k) (br bs : Nat) (w : World) (hr : Blk w br (reefV r vp) 24) (hs : Blk w bs #[.int .i64 x, .int .i64 y] 44) (h2 : 0 ≤ r.miss) (h3 : r.miss ≤ 2000) (hx : 0 ≤ x) (hx2 : x ≤ 1000000000) :
    Calls Try.prog 65 #[.int .i64 0, .int .i64 x, .func (.func 69) #[] #[.pointer (some ⟨br, 0, none⟩), .pointer (some ⟨bs, 0, none⟩)]] w fun e w' => e = .returned (.int .i64 (R.least (countB r x) 40 0 (x + 1))) ∧ w = w' := by
  obtain ⟨V, hV⟩ : ∃ V, R.least (countB r x) 40 0 (x + 1) = V := ⟨_, rfl⟩
  rw [hV]
  have HV := Lib.hid hV
  clear hV
  go_enter Try.func65, Try.ntmps65
  go_wp2
  refine wp_scope_ret fun RR hR' => ?_
  go_wp2
  go_step3
  go_wp2
  go_loop [7, 8, 9] (fun lo hi _ => ∃ (f : Nat) (low high : Int), lo = .int .i64 low ∧ hi = .int .i64 high ∧ 0 ≤ low ∧ low ≤ high ∧ high ≤ x + 1 ∧ high - low < 2 ^ f ∧ R.least (countB r x) f low high = V) (fun lo hi _ => ((intOf hi) - (intOf lo)).toNat)
  case atStart => exact ⟨40, 0, x + 1, rfl, rfl, by omega, by omega, by omega, (by rw [show (2 : Int) ^ 40 = 1099511627776 by decide]; omega), HV.out⟩
  case round =>
    obtain ⟨f, low, high, rfl, rfl, hl0, hlh, hh, hf, hV⟩ := hrel
    by_cases he : low = high
    · subst he
      rw [R.least_end] at hV
      have HV2 := Lib.hid hV
      clear hV
      go_wp2
      refine hR' _ _ ?_
      go_ret
      exact ⟨ret_int HV2.out, rfl⟩
    · have hd : 0 < high - low := by omega
      cases f with
      | zero => simp at hf; omega
      | succ f =>
        have hb := half_bd hd hf
        rw [R.least_step _ _ _ _ he] at hV
        have hd0 : 0 ≤ high - low := by omega
        obtain ⟨D, hD⟩ : ∃ D, (high - low) / 2 = D := ⟨_, rfl⟩
        rw [hD] at hb hV
        have hD2 : 0 ≤ D ∧ D < high - low := by omega
        have HV2 := Lib.hid hV
        have HB := Lib.hid hb
        clear hV hb hf
        go_wp2_with fail
        refine (count_any r x y (low + D) vp hvp br bs w hr hs (by omega) (by omega) h2 h3).mono ?_
        rintro e w' ⟨rfl, rfl⟩
        have hV3 := HV2.out
        obtain ⟨B, hB⟩ : ∃ B, countB r x (low + D) = B := ⟨_, rfl⟩
        rw [hB] at hV3 ⊢
        have HB2 := HB.out
        cases B with
        | true =>
          have HV3 := Lib.hid hV3
          clear hV3
          go_wp2
          go_round
          case rel => exact ⟨f, low, low + D, rfl, rfl, by omega, by omega, by omega, by omega, by simpa using HV3.out⟩
          case measure => simp [intOf]; omega
        | false =>
          have HV3 := Lib.hid hV3
          clear hV3
          go_wp2
          go_round
          case rel => exact ⟨f, low + D + 1, high, rfl, rfl, by omega, by omega, by omega, by omega, by simpa using HV3.out⟩
          case measure => simp [intOf]; omega
end Go.Proofs.Ythffoglpekpmdaa
