/- The document's Least, Counts and Counted. -/
import Derived.Test.YthffoglpekpmdaaD1
import Derived.Test.YthffoglpekpmdaaH3
import Derived.Test.YthffoglpekpmdaaPl5
namespace Go.Proofs.Ythffoglpekpmdaa
set_option linter.unusedVariables false
set_option linter.unusedSimpArgs false
open Go.RowKit
theorem count_mono {r : R.Reef} (O : R.OkR r) (x : Int) : R.Mono (countB r x) := fun a b _ hab h => by
  unfold countB at *
  simp only [decide_eq_true_eq] at *
  have := R.most_mono O hab
  omega
set_option maxRecDepth 100000 in
set_option maxHeartbeats 8000000 in
theorem dleast_any (r : R.Reef) (x : Int) (vp : Value) (hvp : ∃ a n k, vp = .slice a n k) (w : World) (h2 : 0 ≤ r.miss) (h3 : r.miss ≤ 2000) (hx : 0 ≤ x) (hx2 : x ≤ 1000000000) :
    Calls Try.prog 70 #[.agg (reefV r vp), .int .i64 x] w fun e w' => e = .returned (.int .i64 (R.least (countB r x) 40 0 x)) ∧ Ext w w' := by
  obtain ⟨V, hV⟩ : ∃ V, R.least (countB r x) 40 0 x = V := ⟨_, rfl⟩
  rw [hV]
  have HV := Lib.hid hV
  have hmo := fun c w' (h0 : 0 ≤ c) (h1 : c ≤ 1000000000) => dmost_any r c vp hvp w' h0 h1 h2 h3
  have HMO := Lib.hid hmo
  have hcb : ∀ c, decide (x ≤ R.most r c) = countB r x c := fun _ => rfl
  have HCB := Lib.hid hcb
  clear hV hmo hcb
  go_enter Try.func70, Try.ntmps70
  go_wp2
  obtain ⟨w1, hw1⟩ : ∃ w1, w.alloc (.cells (reefV r vp) 24) = w1 := ⟨_, rfl⟩
  have hb0 : Blk w1 w.heap.size (reefV r vp) 24 := by rw [← hw1]; exact Blk.new' rfl _ _
  have hE1 : Ext w w1 := by rw [← hw1]; (with_reducible (repeat (first | exact Ext.refl _ | assumption | apply Ext.alloc | apply Ext.drew | exact ext_plus _ _ | (apply Ext.setCell; rotate_left; (simp <;> omega)) | (apply Ext.trans; rotate_left; exact ext_plus _ _) | (apply Ext.trans; rotate_left; assumption))))
  rw [hw1]
  clear hw1
  go_loopw [5, 6, 7] (fun lo hi _ wr => ∃ (f : Nat) (low high : Int), lo = .int .i64 low ∧ hi = .int .i64 high ∧ 0 ≤ low ∧ low ≤ high ∧ high ≤ x ∧ high - low < 2 ^ f ∧ R.least (countB r x) f low high = V ∧ Ext w1 wr) (fun lo hi _ _ => ((intOf hi) - (intOf lo)).toNat)
  case atStart => exact ⟨40, 0, x, rfl, rfl, by omega, by omega, by omega, (by rw [show (2 : Int) ^ 40 = 1099511627776 by decide]; omega), HV.out, Ext.refl _⟩
  case round =>
    obtain ⟨f, low, high, rfl, rfl, hl0, hlh, hh, hf, hV, hEr⟩ := hrel
    have k0 := (hb0.ext hEr).cell
    have k1 := (hb0.ext hEr).lt
    by_cases he : low = high
    · subst he
      rw [R.least_nil] at hV
      have HV2 := Lib.hid hV
      clear hV
      go_wp2
      go_ret
      exact ⟨ret_int HV2.out, hE1.trans hEr⟩
    · have hd : 0 < high - low := by omega
      cases f with
      | zero => simp at hf; omega
      | succ f =>
        have hb := half_bd hd hf
        rw [R.least_cons _ _ _ _ he] at hV
        have hd0 : 0 ≤ high - low := by omega
        have hlt : low < high := by omega
        obtain ⟨D, hD⟩ : ∃ D, (high - low) / 2 = D := ⟨_, rfl⟩
        rw [hD] at hb hV
        have hD2 : 0 ≤ D ∧ D < high - low := by omega
        have HV2 := Lib.hid hV
        have HB := Lib.hid hb
        clear hV hb hf
        obtain ⟨y, hy⟩ : ∃ y, R.most r (low + D) = y := ⟨_, rfl⟩
        have hcy := HCB.out (low + D)
        rw [hy] at hcy
        have hmy := HMO.out (low + D)
        rw [hy] at hmy
        have HMY := Lib.hid hmy
        have HCY := Lib.hid hcy
        clear hy hmy hcy
        by_cases hB : x ≤ y
        · have hV3 := HV2.out
          rw [← HCY.out, decide_eq_true hB, if_pos rfl] at hV3
          have HV3 := Lib.hid hV3
          clear hV3
          go_wp2_with (first | (go_at_call 54; refine (HMY.out _ (by omega) (by omega)).mono ?_; rintro e w2 ⟨rfl, hb2⟩))
          go_roundw
          case rel => exact ⟨f, low, low + D, rfl, by go_num, by omega, by omega, by omega, by have := HB.out; omega, HV3.out, hEr.trans hb2⟩
          case measure => simp [intOf]; omega
        · have hV3 := HV2.out
          rw [← HCY.out, decide_eq_false hB, if_neg (by decide)] at hV3
          have HV3 := Lib.hid hV3
          clear hV3
          go_wp2_with (first | (go_at_call 54; refine (HMY.out _ (by omega) (by omega)).mono ?_; rintro e w2 ⟨rfl, hb2⟩))
          go_roundw
          case rel => exact ⟨f, low + D + 1, high, by go_num, rfl, by omega, by omega, by omega, by have := HB.out; omega, HV3.out, hEr.trans hb2⟩
          case measure => simp [intOf]; omega
/-- Whether divers can count c where there are n. -/
def countsB (r : R.Reef) (c n : Int) : Bool := decide (c ≤ n) && decide (n ≤ R.most r c)
theorem dcounts_any (r : R.Reef) (c n : Int) (vp : Value) (hvp : ∃ a n k, vp = .slice a n k) (w : World) (h0 : 0 ≤ c) (h1 : c ≤ 1000000000) (h2 : 0 ≤ r.miss) (h3 : r.miss ≤ 2000) :
    Calls Try.prog 44 #[.agg (reefV r vp), .int .i64 c, .int .i64 n] w fun e w' => e = .returned (.bool (countsB r c n)) ∧ Ext w w' := by
  have hmo := fun w' => dmost_any r c vp hvp w' h0 h1 h2 h3
  obtain ⟨y, hy⟩ : ∃ y, R.most r c = y := ⟨_, rfl⟩
  have hb : countsB r c n = (decide (c ≤ n) && decide (n ≤ y)) := by unfold countsB; rw [hy]
  rw [hb]
  simp only [hy] at hmo
  have HMO := Lib.hid hmo
  clear hmo hy hb
  go_enter Try.func44, Try.ntmps44
  go_wp2_with (first | (go_at_call 54; refine (HMO.out _).mono ?_; rintro e w2 ⟨rfl, hb2⟩))
  all_goals (go_ret; refine ⟨ret_bool (by rw [Bool.eq_iff_iff]; simp <;> omega), by (with_reducible (repeat (first | exact Ext.refl _ | assumption | apply Ext.alloc | apply Ext.drew | exact ext_plus _ _ | (apply Ext.setCell; rotate_left; (simp <;> omega)) | (apply Ext.trans; rotate_left; exact ext_plus _ _) | (apply Ext.trans; rotate_left; assumption))))⟩)
/-- The count of a place whose stock is known. -/
def countedD (r : R.Reef) (x : Int × Int) : Int × Int := (R.least (countB r x.1) 40 0 x.1, x.2)
theorem dcounted_any (r : R.Reef) (x : Int × Int) (vp : Value) (hvp : ∃ a n k, vp = .slice a n k) (w : World) (h2 : 0 ≤ r.miss) (h3 : r.miss ≤ 2000) (hx : 0 ≤ x.1) (hx2 : x.1 ≤ 1000000000) :
    Calls Try.prog 48 #[.agg (reefV r vp), .agg #[.int .i64 x.1, .int .i64 x.2]] w fun e w' => e = .returned (.agg #[.int .i64 (countedD r x).1, .int .i64 (countedD r x).2]) ∧ Ext w w' := by
  have hle := fun w' => dleast_any r x.1 vp hvp w' h2 h3 hx hx2
  obtain ⟨a, b⟩ := x
  obtain ⟨y, hy⟩ : ∃ y, R.least (countB r a) 40 0 a = y := ⟨_, rfl⟩
  have hb : countedD r (a, b) = (y, b) := by unfold countedD; rw [hy]
  rw [hb]
  simp only [hy] at hle
  have HLE := Lib.hid hle
  go_enter Try.func48, Try.ntmps48
  go_upto_region 1 with (fail)
  obtain ⟨w2, hw2⟩ : ∃ w2, (((w.alloc (.cells (reefV r vp) 24)).alloc (.cells #[.int .i64 a, .int .i64 b] 44)).alloc (.cells #[.int .i64 0, .int .i64 0] 44)) = w2 := ⟨_, rfl⟩
  have hb0 : Blk w2 w.heap.size (reefV r vp) 24 := by rw [← hw2]; exact ((Blk.new' rfl _ _).alloc _).alloc _
  have hb1 : Blk w2 (w.heap.size + 1) #[.int .i64 a, .int .i64 b] 44 := by rw [← hw2]; exact (Blk.new' (by simp) _ _).alloc _
  have hb2 : Blk w2 (w.heap.size + 1 + 1) #[.int .i64 0, .int .i64 0] 44 := by rw [← hw2]; exact Blk.new' (by simp) _ _
  have hE2 : Ext w w2 := by rw [← hw2]; (with_reducible (repeat (first | exact Ext.refl _ | assumption | apply Ext.alloc | apply Ext.drew | exact ext_plus _ _ | (apply Ext.setCell; rotate_left; (simp <;> omega)) | (apply Ext.trans; rotate_left; exact ext_plus _ _) | (apply Ext.trans; rotate_left; assumption))))
  rw [hw2]
  clear hw2
  have hB0 := hb0.drew
  have hB1 := hb1.drew
  refine wp_region_late 7 (fun c y => c = false → (∀ o, y.cell? ⟨w.heap.size, o, none⟩ = (reefV r vp : Array Value)[o]?) ∧ (∀ o, y.cell? ⟨w.heap.size + 1, o, none⟩ = (#[.int .i64 a, .int .i64 b] : Array Value)[o]?)) (by kernel_rfl) (fun hL => ?_)
  refine late_early (i := 0) (v := ?_) rfl (by kernel_rfl) (by kernel_rfl) (by kernel_rfl) (by decide) (by kernel_rfl) (fun _ _ _ h => h) hL (Or.inl ⟨by rfl, ?_⟩) (fun _ => ⟨hB0.cell, hB1.cell⟩) (fun hL' => ?_)
  rotate_left
  · intro y hy; have hz := hy rfl; clear hy; obtain ⟨g1, g2⟩ := hz; go_simp; (try with_reducible rfl)
  clear hL; rename Shutb _ _ => hL
  (try simp only [Act.put, List.setIfInBounds_toArray, List.set_cons_zero, List.set_cons_succ])
  refine late_early (i := 1) (v := ?_) rfl (by kernel_rfl) (by kernel_rfl) (by kernel_rfl) (by decide) (by kernel_rfl) (fun _ _ _ h => h) hL (Or.inl ⟨by rfl, ?_⟩) (fun _ => ⟨hB0.cell, hB1.cell⟩) (fun hL' => ?_)
  rotate_left
  · intro y hy; have hz := hy rfl; clear hy; obtain ⟨g1, g2⟩ := hz; go_simp; (try with_reducible rfl)
  clear hL; rename Shutb _ _ => hL
  (try simp only [Act.put, List.setIfInBounds_toArray, List.set_cons_zero, List.set_cons_succ])
  refine late_early (i := 2) (v := ?_) rfl (by kernel_rfl) (by kernel_rfl) (by kernel_rfl) (by decide) (by kernel_rfl) (fun _ _ _ h => h) hL (Or.inl ⟨by rfl, ?_⟩) (fun _ => ⟨hB0.cell, hB1.cell⟩) (fun hL' => ?_)
  rotate_left
  · intro y hy; have hz := hy rfl; clear hy; obtain ⟨g1, g2⟩ := hz; go_simp; (try with_reducible rfl)
  clear hL; rename Shutb _ _ => hL
  (try simp only [Act.put, List.setIfInBounds_toArray, List.set_cons_zero, List.set_cons_succ])
  refine late_early (i := 4) (v := ?_) rfl (by kernel_rfl) (by kernel_rfl) (by kernel_rfl) (by decide) (by kernel_rfl) (fun _ _ _ h => h) hL (Or.inl ⟨by rfl, ?_⟩) (fun _ => ⟨hB0.cell, hB1.cell⟩) (fun hL' => ?_)
  rotate_left
  · intro y hy; have hz := hy rfl; clear hy; obtain ⟨g1, g2⟩ := hz; go_simp; (try with_reducible rfl)
  clear hL; rename Shutb _ _ => hL
  (try simp only [Act.put, List.setIfInBounds_toArray, List.set_cons_zero, List.set_cons_succ])
  refine late_early (i := 5) (v := ?_) rfl (by kernel_rfl) (by kernel_rfl) (by kernel_rfl) (by decide) (by kernel_rfl) (fun _ _ _ h => h) hL (Or.inl ⟨by rfl, ?_⟩) (fun _ => ⟨hB0.cell, hB1.cell⟩) (fun hL' => ?_)
  rotate_left
  · intro y hy; have hz := hy rfl; clear hy; obtain ⟨g1, g2⟩ := hz; go_simp; (try with_reducible rfl)
  clear hL; rename Shutb _ _ => hL
  (try simp only [Act.put, List.setIfInBounds_toArray, List.set_cons_zero, List.set_cons_succ])
  refine late_one (i := 3) (by kernel_rfl) hL (fun hL' => ?_)
  refine wpOp_step rfl (fun K hK0 => ?_)
  have hK : Shut _ := hK0
  clear hK0
  go_simp
  go_wp2_with (first | (go_at_call 70; refine (HLE.out _).mono ?_; rintro e w3 ⟨rfl, hE3⟩))
  have hC0 := hB0.ext hE3
  have hC1 := hB1.ext hE3
  have hC2 := (hb2.drew).ext hE3
  refine hK.out _ _ ⟨fun _ => ⟨hC0.cell, hC1.cell⟩, ?_⟩
  clear hK K; clear hL; rename Shutb _ _ => hL
  (try simp only [Act.put, List.setIfInBounds_toArray, List.set_cons_zero, List.set_cons_succ])
  refine late_one (i := 6) (by kernel_rfl) hL (fun hL' => ?_)
  refine wpOp_step rfl (fun K hK0 => ?_)
  have hK : Shut _ := hK0
  clear hK0
  go_simp
  refine hK.out _ _ ⟨fun _ => ⟨hC0.cell, hC1.cell⟩, ?_⟩
  clear hK K; clear hL; rename Shutb _ _ => hL
  (try simp only [Act.put, List.setIfInBounds_toArray, List.set_cons_zero, List.set_cons_succ])
  have f0 := hC2.cell
  have f1 := hC2.free
  have f2 := hC2.lt
  refine late_one (i := 7) (by kernel_rfl) hL (fun hL' => ?_)
  refine wpOp_step rfl (fun K hK0 => ?_)
  have hK : Shut _ := hK0
  clear hK0
  go_simp
  refine hK.out _ _ ⟨fun e => absurd (e : true = false) (by decide), ?_⟩
  clear hK K; clear hL; rename Shutb _ _ => hL
  (try simp only [Act.put, List.setIfInBounds_toArray, List.set_cons_zero, List.set_cons_succ])
  refine late_done (by kernel_rfl) ?_
  (try dsimp only [Exit.then])
  have hD2 := (hC2.set 0 (.int .i64 y)).set 1 (.int .i64 b)
  have f3 := hD2.cell
  go_wp2
  exact bodyPost_ret (v := .agg #[.int .i64 y, .int .i64 b]) (by simp [results, Try.results48, go_sem, f3]) rfl ⟨rfl, (((hE2.trans (Ext.refl _).drew).trans hE3).setCell (by simp <;> omega) _).setCell (by simp <;> omega) _⟩
theorem R.stocks_len (r : R.Reef) (plan : List Int) : (R.stocks r plan).length = r.seasons.toNat := by simp [R.stocks]
theorem R.stocks_at (r : R.Reef) (plan : List Int) {s : Nat} (h : s < (R.stocks r plan).length) : (R.stocks r plan)[s].length = r.places.length ∧ ∀ i (hi : i < (R.stocks r plan)[s].length), (R.stocks r plan)[s][i] = (R.iat (R.lat (R.fishOf r (R.endT r plan false)) s) i, R.iat (R.lat (R.fishOf r (R.endT r plan true)) s) i) := by
  simp [R.stocks]
theorem R.stocks_bd {r : R.Reef} (O : R.OkR r) (plan : List Int) {s : Nat} (h : s < (R.stocks r plan).length) (i : Nat) (hi : i < (R.stocks r plan)[s].length) : 0 ≤ (R.stocks r plan)[s][i].1 ∧ (R.stocks r plan)[s][i].1 ≤ 28000000 ∧ 0 ≤ (R.stocks r plan)[s][i].2 ∧ (R.stocks r plan)[s][i].2 ≤ 28000000 := by
  rw [(R.stocks_at r plan h).2 i hi]
  have hs : s < r.seasons.toNat := by rw [R.stocks_len] at h; exact h
  have h1 := R.fishOf_bd O (R.okT_end (plan := plan) O false) hs i
  have h2 := R.fishOf_bd O (R.okT_end (plan := plan) O true) hs i
  exact ⟨h1.1, h1.2, h2.1, h2.2⟩
theorem counted_eq {r : R.Reef} (O : R.OkR r) (x : Int × Int) (h0 : 0 ≤ x.1) (h1 : x.1 ≤ 1000000000) : countedS r x = countedD r x := by
  unfold countedS countedD
  rw [R.least_eq (count_mono O x.1) (f := 40) (g := 40) (low := 0) (high := x.1) (high' := x.1 + 1) (Int.le_refl _) h0 (by rw [show (2 : Int) ^ 40 = 1099511627776 by decide]; omega) (by omega) (by rw [show (2 : Int) ^ 40 = 1099511627776 by decide]; omega) (by unfold countB; exact decide_eq_true (R.most_ge O h0)) (by omega)]
theorem counts_len (r : R.Reef) (plan : List Int) : (counts r plan).length = (R.stocks r plan).length := by simp [counts]
theorem counts_at {r : R.Reef} (O : R.OkR r) (plan : List Int) {s : Nat} (h : s < (R.stocks r plan).length) (h' : s < (counts r plan).length) : (counts r plan)[s].length = (R.stocks r plan)[s].length ∧ ∀ i (hi : i < (R.stocks r plan)[s].length) (hi' : i < (counts r plan)[s].length), (counts r plan)[s][i] = countedD r (R.stocks r plan)[s][i] := by
  have e : (counts r plan)[s] = (R.stocks r plan)[s].map (countedS r) := by simp [counts]
  refine ⟨by rw [e, List.length_map], fun i hi hi' => ?_⟩
  have hb := R.stocks_bd O plan h i hi
  have e2 : (counts r plan)[s][i] = countedS r (R.stocks r plan)[s][i] := by simp [e]
  rw [e2, counted_eq O _ hb.1 (by omega)]
/-- The least number that divers can count where there are n. -/
theorem counted_least {r : R.Reef} (O : R.OkR r) {n : Int} (h0 : 0 ≤ n) (h1 : n ≤ 1000000000) : 0 ≤ R.least (countB r n) 40 0 n ∧ R.least (countB r n) 40 0 n ≤ n ∧ n ≤ R.most r (R.least (countB r n) 40 0 n) ∧ ∀ c, 0 ≤ c → c < R.least (countB r n) 40 0 n → R.most r c < n := by
  obtain ⟨a1, a2, a3, a4⟩ := R.least_spec (count_mono O n) 40 0 n (Int.le_refl _) h0 (by rw [show (2 : Int) ^ 40 = 1099511627776 by decide]; omega)
  refine ⟨a1, a2, ?_, fun c c0 c1 => ?_⟩
  · rcases Int.lt_or_le (R.least (countB r n) 40 0 n) n with h | h
    · have := a3 h
      unfold countB at this
      exact of_decide_eq_true this
    · have := R.most_ge O a1
      omega
  · have := a4 c c0 c1
    unfold countB at this
    have := of_decide_eq_false this
    omega
end Go.Proofs.Ythffoglpekpmdaa
