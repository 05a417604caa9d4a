/- The chapter's examples hold. -/
import Derived.Test.YthffoglpekpmdaaD7
import Derived.Test.YthffoglpekpmdaaG1
import Derived.Test.YthffoglpekpmdaaH1
import Derived.Test.YthffoglpekpmdaaH3
import Derived.Test.YthffoglpekpmdaaH5
import Derived.Deep.CutRange
namespace Go.Proofs.Ythffoglpekpmdaa
set_option linter.unusedVariables false
set_option linter.unusedSimpArgs false
open Go.RowKit
def exT : R.Truth := ⟨[1100, 550], [[250, 150], [200, 100]], [[250, 150], [200, 100]]⟩
theorem ex_playOk : playOk exR [0, 0] exT = true := by decide +kernel
theorem ex_fish : R.fishOf exR exT = [[988, 619], [867, 698]] := by decide +kernel
theorem ex_ledger : R.ledger exR exT = ⟨1650, 615, 700, 0, 1565⟩ := by decide +kernel
theorem ex_right : rightB exR [0, 0] = true := by decide +kernel
theorem ex_stocks : R.stocks exR [0, 0] = [[(780, 1204), (470, 776)], [(543, 1209), (410, 856)]] := by decide +kernel
theorem ex_short : shortOf exR [1, 1] = (1, 10) := by decide +kernel
theorem ex_shortc : shortCode exR [1, 1] = 0 := by decide +kernel
theorem ex_best : bestOf exR = ([1, 3], 26, 0) := by decide +kernel
theorem ex_quota : quotaOf exR [1, 1] 1 = 195 := by decide +kernel
theorem ex_quotac : quotaCode exR [1, 1] 1 = 0 := by decide +kernel
theorem ints2 (w : World) (b : Nat) (hb : b = w.heap.size) (x y : Int) : Ints (w.alloc (.cells #[.int .i64 x, .int .i64 y] 3)) (.slice (some ⟨b, 0, none⟩) 2 2) [x, y] := by subst hb; exact two_sum w x y
theorem lists2 (w : World) (b : Nat) (hb : b = w.heap.size) (v1 v2 : Value) (x y : List Int) (h1 : Ints w v1 x) (h2 : Ints w v2 y) (t1 : Tight v1) (t2 : Tight v2) : Lists (w.alloc (.cells #[v1, v2] 25)) (.slice (some ⟨b, 0, none⟩) 2 2) [x, y] := by
  subst hb
  have k := (Blk.new w #[v1, v2] 25).cell
  have hE : Ext w (w.alloc (.cells #[v1, v2] 25)) := (Ext.refl _).alloc _
  refine ⟨_, _, rfl, fun i hi => ⟨_, 0, rfl, by simp, ?_⟩⟩
  match i, hi with
  | 0, _ => exact ⟨v1, (k 0).trans rfl, h1.ext hE, t1⟩
  | 1, _ => exact ⟨v2, (k 1).trans rfl, h2.ext hE, t2⟩
theorem RowB.of_flat {α : Type} {f : α → List Value} {k : Nat} (hf : ∀ x, (f x).length = k) {e : TypeId} {w : World} {g : Nat} {xs : List α} (h : Blk w g (xs.flatMap f).toArray e) : RowB f k e w g xs :=
  ⟨_, h, fun i hi j u hu => by
    have hj : j < k := by have := (List.getElem?_eq_some_iff.1 hu).1; rw [hf] at this; exact this
    rw [List.getElem?_toArray, flat_get f k hf _ i hi j hj]; exact hu⟩
theorem spans2 (w : World) (b : Nat) (hb : b = w.heap.size) (x y u v : Int) : Spans (w.alloc (.cells #[.int .i64 x, .int .i64 y, .int .i64 u, .int .i64 v] 44)) (.slice (some ⟨b, 0, none⟩) 2 2) [(x, y), (u, v)] := by
  subst hb
  have hB : Blk (w.alloc (.cells #[.int .i64 x, .int .i64 y, .int .i64 u, .int .i64 v] 44)) w.heap.size ([(x, y), (u, v)].flatMap spanC).toArray 44 := Blk.new w _ _
  exact (RowB.of_flat spanC_len hB).sls 2
theorem spanRows2 (w : World) (b : Nat) (hb : b = w.heap.size) (v1 v2 : Value) (x y : List (Int × Int)) (h1 : Spans w v1 x) (h2 : Spans w v2 y) : SpanRows (w.alloc (.cells #[v1, v2] 70)) (.slice (some ⟨b, 0, none⟩) 2 2) [x, y] := by
  subst hb
  have k := (Blk.new w #[v1, v2] 70).cell
  have hE : Ext w (w.alloc (.cells #[v1, v2] 70)) := (Ext.refl _).alloc _
  refine ⟨_, _, rfl, fun i hi => ⟨_, 0, rfl, by simp, ?_⟩⟩
  match i, hi with
  | 0, _ => exact ⟨v1, (k 0).trans rfl, h1.ext hE⟩
  | 1, _ => exact ⟨v2, (k 1).trans rfl, h2.ext hE⟩
theorem exPlay_any (vp vl vs vg vt : Value) (w : World) (hP : Places w vp exR.places) (hL : Ints w vl [0, 0]) (hS : Ints w vs [1100, 550]) (hG : Lists w vg [[250, 150], [200, 100]]) (hT : Lists w vt [[250, 150], [200, 100]]) :
    Calls Try.prog 18 #[.agg (reefV exR vp), vl, .agg (truthV vs vg vt)] w fun x w' => ∃ v, x = .returned (.tuple #[v, .agg #[.int .i64 1650, .int .i64 615, .int .i64 700, .int .i64 0, .int .i64 1565], .int .i64 0]) ∧ Lists w' v [[988, 619], [867, 698]] ∧ Ext w w' := by
  have h := play_any exR [0, 0] exT vp vl vs vg vt w hP hL hS hG hT (by decide) (by decide) (by decide) (by decide) (by decide) (by decide) (by decide)
  rw [ex_playOk, ex_ledger, ex_fish] at h
  exact h.mono fun _ _ ⟨v, h1, h2, h3⟩ => ⟨v, h1, h2.lists, h3⟩
theorem exStocks_any (vp vl : Value) (w : World) (hP : Places w vp exR.places) (hL : Ints w vl [0, 0]) :
    Calls Try.prog 41 #[.agg (reefV exR vp), vl] w fun x w' => ∃ v, x = .returned (.tuple #[v, .int .i64 0]) ∧ SpanRows w' v [[(780, 1204), (470, 776)], [(543, 1209), (410, 856)]] ∧ Ext w w' := by
  have h := stocksQ_any exR [0, 0] vp vl w hP hL (by decide) (by decide)
  rw [ex_right, ex_stocks] at h
  exact h
theorem exShort_any (vp vl : Value) (w : World) (hP : Places w vp exR.places) (hL : Ints w vl [1, 1]) :
    Calls Try.prog 25 #[.agg (reefV exR vp), vl] w fun x w' => x = .returned (.tuple #[.int .i64 1, .int .i64 10, .int .i64 0]) ∧ Ext w w' := by
  have h := shortQ_any exR [1, 1] vp vl w hP hL (by decide) (by decide)
  rw [ex_short, ex_shortc] at h
  exact h
theorem exBest_any (vp : Value) (w : World) (hP : Places w vp exR.places) :
    Calls Try.prog 29 #[.agg (reefV exR vp)] w fun x w' => ∃ v, x = .returned (.tuple #[v, .int .i64 26, .int .i64 0]) ∧ Ints w' v [1, 3] ∧ Ext w w' := by
  have h := bestQ_any exR vp w hP (by decide)
  rw [ex_best] at h
  exact h
theorem exQuota_any (vp vl : Value) (w : World) (hP : Places w vp exR.places) (hL : Ints w vl [1, 1]) :
    Calls Try.prog 35 #[.agg (reefV exR vp), vl, .int .i64 1] w fun x w' => x = .returned (.tuple #[.int .i64 195, .int .i64 0]) ∧ Ext w w' := by
  have h := quotaQ_any exR [1, 1] 1 vp vl w hP hL (by decide) (by decide)
  rw [ex_quota, ex_quotac] at h
  exact h
theorem same_true (xs : List Int) (va vb : Value) (w : World) (hA : Ints w va xs) (hB : Ints w vb xs) (hn : xs.length ≤ 1000000) : Calls Try.prog 31 #[va, vb] w fun e w' => e = .returned (.bool true) ∧ Ext w w' := by
  have := dsame_any xs xs va vb w hA hB hn hn
  simpa using this
theorem rows_true (xs : List (List Int)) (va vb : Value) (w : World) (hA : Lists w va xs) (hB : Lists w vb xs) (hn : xs.length ≤ 1000000) (hn2 : ∀ l ∈ xs, l.length ≤ 1000000) : Calls Try.prog 22 #[va, vb] w fun e w' => e = .returned (.bool true) ∧ Ext w w' := by
  have := dsameRows_any xs xs va vb w hA hB hn hn hn2 hn2
  simpa using this
theorem spanRows_true (xs : List (List (Int × Int))) (va vb : Value) (w : World) (hA : SpanRows w va xs) (hB : SpanRows w vb xs) (hn : xs.length ≤ 1000000) (hn2 : ∀ l ∈ xs, l.length ≤ 1000000) : Calls Try.prog 47 #[va, vb] w fun e w' => e = .returned (.bool true) ∧ Ext w w' := by
  have := dsameSpans_any xs xs va vb w hA hB hn hn hn2 hn2
  simpa using this
theorem five_eq (a b c d e a' b' c' d' e' : Int) (w : World) : (Op.equalIn 10000 33 (.agg #[.int .i64 a, .int .i64 b, .int .i64 c, .int .i64 d, .int .i64 e]) (.agg #[.int .i64 a', .int .i64 b', .int .i64 c', .int .i64 d', .int .i64 e'])).run Try.prog w = .ok (decide (a = a' ∧ b = b' ∧ c = c' ∧ d = d' ∧ e = e')) w := by
  rw [run_equalIn_agg w 9999 _ _ _ (by kernel_rfl) (by kernel_rfl)]
  have hu := Try.underlying33
  have hi := Try.underlying3
  have hp0 : ∀ (x0 x1 x2 x3 x4 : Value) (w : World), (part 3 #[x0, x1, x2, x3, x4] 0).run Try.prog w = .ok x0 w := fun _ _ _ _ _ _ => by kernel_rfl
  have hp1 : ∀ (x0 x1 x2 x3 x4 : Value) (w : World), (part 3 #[x0, x1, x2, x3, x4] 1).run Try.prog w = .ok x1 w := fun _ _ _ _ _ _ => by kernel_rfl
  have hp2 : ∀ (x0 x1 x2 x3 x4 : Value) (w : World), (part 3 #[x0, x1, x2, x3, x4] 2).run Try.prog w = .ok x2 w := fun _ _ _ _ _ _ => by kernel_rfl
  have hp3 : ∀ (x0 x1 x2 x3 x4 : Value) (w : World), (part 3 #[x0, x1, x2, x3, x4] 3).run Try.prog w = .ok x3 w := fun _ _ _ _ _ _ => by kernel_rfl
  have hp4 : ∀ (x0 x1 x2 x3 x4 : Value) (w : World), (part 3 #[x0, x1, x2, x3, x4] 4).run Try.prog w = .ok x4 w := fun _ _ _ _ _ _ => by kernel_rfl
  have he : ∀ (x y : Int) (w : World), (Op.equalIn 9999 3 (.int .i64 x) (.int .i64 y)).run Try.prog w = .ok (x == y) w := fun x y w => run_equalIn_int w 9998 _ _ _ _ _ hi
  simp only [Program.fieldsOf, hu, Op.eqFields]
  by_cases h1 : a = a'
  · by_cases h2 : b = b'
    · by_cases h3 : c = c'
      · by_cases h4 : d = d'
        · by_cases h5 : e = e' <;> simp [hp0, hp1, hp2, hp3, hp4, he, h1, h2, h3, h4, h5, Op.eqFields, Result.andThen]
        · simp [hp0, hp1, hp2, hp3, hp4, he, h1, h2, h3, h4, Op.eqFields, Result.andThen]
      · simp [hp0, hp1, hp2, hp3, hp4, he, h1, h2, h3, Op.eqFields, Result.andThen]
    · simp [hp0, hp1, hp2, hp3, hp4, he, h1, h2, Op.eqFields, Result.andThen]
  · simp [hp0, hp1, hp2, hp3, hp4, he, h1, Op.eqFields, Result.andThen]
theorem ledger_eql (l m : R.Ledger) (w : World) : (binOp .eql 33 (.agg (ledgerV l)) (.agg (ledgerV m))).run Try.prog w = .ok (.bool (decide (l = m))) w := by
  rw [run_eql_struct, five_eq]
  obtain ⟨a, b, c, d, e⟩ := l
  obtain ⟨a', b', c', d', e'⟩ := m
  simp [Result.andThen]
theorem ledger_neq (l m : R.Ledger) (w : World) : (binOp .neq 33 (.agg (ledgerV l)) (.agg (ledgerV m))).run Try.prog w = .ok (.bool (!decide (l = m))) w := by
  rw [run_neq_struct, five_eq]
  obtain ⟨a, b, c, d, e⟩ := l
  obtain ⟨a', b', c', d', e'⟩ := m
  simp [Result.andThen]
theorem ledger_guard : Try.prog.eqGuardType Try.prog.depth 33 = false := by kernel_rfl
end Go.Proofs.Ythffoglpekpmdaa
