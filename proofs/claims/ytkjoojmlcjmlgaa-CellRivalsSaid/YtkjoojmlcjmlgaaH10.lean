/- The loads that must be switched off, as the document tries them. -/
import Derived.Test.YtkjoojmlcjmlgaaH9
import Derived.Test.YtkjoojmlcjmlgaaH11
namespace Go.Proofs.Ytkjoojmlcjmlgaa
set_option linter.unusedVariables false
set_option linter.unusedSimpArgs false
open Go.RowKit
theorem has_over {s : Int} {n i : Nat} (h0 : 0 ≤ s) (h1 : s < 2 ^ n) (hi : n ≤ i) : C.has s i = false := by
  have hle : (2 : Int) ^ n ≤ 2 ^ i := by
    have := Nat.pow_le_pow_right (n := 2) (by decide) hi
    have e1 : ((2 ^ n : Nat) : Int) = 2 ^ n := by rw [Int.natCast_pow]; rfl
    have e2 : ((2 ^ i : Nat) : Int) = 2 ^ i := by rw [Int.natCast_pow]; rfl
    omega
  have : s / 2 ^ i = 0 := Int.ediv_eq_zero_of_lt h0 (by omega)
  unfold C.has; rw [this]; decide
theorem ones_over {s : Int} {n : Nat} (h0 : 0 ≤ s) (h1 : s < 2 ^ n) : ∀ k, n ≤ k → ones s k = ones s n
  | 0, hk => by obtain rfl : n = 0 := by omega
                rfl
  | k + 1, hk => by
    rcases Nat.lt_or_ge n (k + 1) with h | h
    · rw [ones_step, ones_over h0 h1 k (by omega), has_over h0 h1 (by omega)]; rfl
    · obtain rfl : n = k + 1 := by omega
      rfl
/-- Of the first k sets: the one that helps, has the fewest loads, and is least. -/
def FewN (c : C.Sys) (p b : Int) (k : Nat) (o : Option Int) : Prop :=
  match o with
  | none => ∀ s : Int, 0 ≤ s → s < k → freeB c s = true → C.suffice c p b s = false
  | some t => (0 ≤ t ∧ t < k) ∧ freeB c t = true ∧ C.suffice c p b t = true ∧ ∀ s : Int, 0 ≤ s → s < k → freeB c s = true → C.suffice c p b s = true → ones t c.loads.length < ones s c.loads.length ∨ (ones t c.loads.length = ones s c.loads.length ∧ t ≤ s)
def fewer (c : C.Sys) (o : Option Int) (s : Int) : Bool := match o with | none => true | some t => decide (ones s c.loads.length < ones t c.loads.length)
theorem fewN_step {c : C.Sys} {p b : Int} {k : Nat} {o : Option Int} (h : FewN c p b k o) : FewN c p b (k + 1) (if freeB c k && fewer c o k && C.suffice c p b k then some (k : Int) else o) := by
  by_cases hc : (freeB c k && fewer c o k && C.suffice c p b k) = true
  · rw [if_pos hc]
    simp only [Bool.and_eq_true] at hc
    refine ⟨by omega, hc.1.1, hc.2, fun s h0 h1 hf hs => ?_⟩
    by_cases hsk : s = k
    · subst hsk; exact .inr ⟨rfl, Int.le_refl _⟩
    · cases o with
      | none => have := h s h0 (by omega) hf; rw [hs] at this; cases this
      | some t =>
        have h2 : ones k c.loads.length < ones t c.loads.length := by simpa [fewer] using hc.1.2
        rcases h.2.2.2 s h0 (by omega) hf hs with h3 | ⟨h3, _⟩
        · exact .inl (by omega)
        · exact .inl (by omega)
  · rw [if_neg hc]
    cases o with
    | none =>
      intro s h0 h1 hf
      by_cases hsk : s = k
      · subst hsk
        cases hq : C.suffice c p b k with
        | false => rfl
        | true => exact absurd (by rw [hf, hq]; rfl) hc
      · exact h s h0 (by omega) hf
    | some t =>
      refine ⟨by have := h.1; omega, h.2.1, h.2.2.1, fun s h0 h1 hf hs => ?_⟩
      by_cases hsk : s = k
      · subst hsk
        have h1 : ¬ ones k c.loads.length < ones t c.loads.length := by
          intro h1; apply hc; rw [hf, hs]; simp [fewer, h1]
        have h2 := h.1
        by_cases h3 : ones t c.loads.length < ones k c.loads.length
        · exact .inl h3
        · exact .inr ⟨by omega, by omega⟩
      · exact h.2.2.2 s h0 (by omega) hf hs
theorem fewN_all {c : C.Sys} {p b : Int} {o : Option Int} {Q : Nat} (hn : c.loads.length ≤ 5) (hQ : (2 : Int) ^ c.loads.length = Q) (h : FewN c p b Q o) : OffIs c p b o := by
  cases o with
  | none => exact fun s h0 h1 => h s h0 (by omega)
  | some t =>
    refine ⟨by rw [hQ]; exact h.1, h.2.1, h.2.2.1, fun s h0 h1 hf hs => ?_⟩
    rw [ones_over h.1.1 (by rw [hQ]; exact h.1.2) 5 hn, ones_over h0 h1 5 hn]
    exact h.2.2.2 s h0 (by omega) hf hs
def fewI : Option Int → Int
  | none => -1
  | some t => t
set_option maxRecDepth 100000 in
set_option maxHeartbeats 16000000 in
theorem dfewest_any (c : C.Sys) (p b : Int) (vl : Value) (w : World) (hL0 : Loads w vl c.loads) (O : C.Ok c) (hp0 : 0 ≤ p) (hp1 : p ≤ 12) (hb0 : 0 ≤ b) (hb1 : b ≤ 8) :
    Calls Try.prog 42 #[.agg (sysV c vl), .int .i64 p, .int .i64 b] w fun e w' => ∃ o, OffIs c p b o ∧ e = .returned (.int .i64 (fewI o)) ∧ Ext w w' := by
  have hL0' := hL0
  obtain ⟨a, cap, rfl, _⟩ := hL0'
  have hn5 := O.n5
  obtain ⟨Q, hQ⟩ : ∃ Q : Nat, 2 ^ c.loads.length = Q := ⟨_, rfl⟩
  have hQ32 : Q ≤ 32 := by rw [← hQ]; exact Nat.pow_le_pow_right (n := 2) (by decide) hn5
  have hQI : (2 : Int) ^ c.loads.length = (Q : Int) := by rw [← hQ, Int.natCast_pow]; rfl
  have hse := fun w' (hx : Ext w w') => dsets_any c _ w' (hL0.ext hx) (by omega)
  have hsq : C.sets c = Q := hQI
  simp only [hsq] at hse
  have hma := fun x w' (hx : Ext w w') (h0 : 0 ≤ x) (h1 : x ≤ 1000000) => dmany_any c x _ w' (hL0.ext hx) (by omega) h0 h1
  have hfr := fun x w' (hx : Ext w w') (h0 : 0 ≤ x) (h1 : x ≤ 1000000) => dfree_any c x _ w' (hL0.ext hx) (by omega) h0 h1
  have hsu := fun s w' (hx : Ext w w') (h0 : 0 ≤ s) (h1 : s < 2 ^ c.loads.length) => dsuffice_any c p b s _ w' (hL0.ext hx) O hp0 hp1 hb0 hb1 h0 h1
  have HSE := Lib.hid hse
  have HMA := Lib.hid hma
  have HFRA := Lib.hid hfr
  have HSU := Lib.hid hsu
  have HQI := Lib.hid hQI
  have HN5 := Lib.hid hn5
  have hpc := plus_cell
  clear hse hma hfr hsu hQ hQI hsq hL0 O
  go_enter Try.func42, Try.ntmps42
  go_upto_region 1 with (fail)
  obtain ⟨w1, hw1⟩ : ∃ w1, w.alloc (.cells (sysV c (.slice a c.loads.length cap)) 24) = w1 := ⟨_, rfl⟩
  have hbx : Blk w1 w.heap.size (sysV c (.slice a c.loads.length cap)) 24 := by rw [← hw1]; exact Blk.new w _ _
  have hE1 : Ext w w1 := by rw [← hw1]; (with_reducible (repeat (first | exact Ext.refl _ | assumption | apply Ext.alloc | apply Ext.drew | exact ext_plus _ _ | (apply Ext.setCell; rotate_left; (simp <;> omega)) | (apply Ext.trans; rotate_left; exact ext_plus _ _) | (apply Ext.trans; rotate_left; assumption))))
  rw [hw1]
  clear hw1
  go_wp2
  go_loopw [7, 8] (fun vb vs wr => ∃ (k : Nat) (o : Option Int), k ≤ Q ∧ vs = .int .i64 k ∧ FewN c p b k o ∧ vb = .int .i64 (fewI o) ∧ Ext w1 wr) (fun _ vs _ => Q - (intOf vs).toNat)
  case atStart => exact ⟨0, none, by omega, rfl, (fun s h0 h1 => by omega), rfl, Ext.refl _⟩
  case round =>
    rename World => wr
    obtain ⟨k, o, hk, rfl, hB, rfl, hE⟩ := hrel
    have hbxr := hbx.ext hE
    have k0 := hbxr.cell
    have k1 := hbxr.lt
    have hEw := hE1.trans hE
    by_cases hlt : k < Q
    · have hst := fewN_step hB
      have hsf := fun w' hx => HSU.out (k : Int) w' hx (by omega) (by rw [HQI.out]; omega)
      have hfr := fun w' hx => HFRA.out (k : Int) w' hx (by omega) (by omega)
      obtain ⟨B, hBB⟩ : ∃ B, C.suffice c p b (k : Int) = B := ⟨_, rfl⟩
      obtain ⟨F, hFF⟩ : ∃ F, freeB c (k : Int) = F := ⟨_, rfl⟩
      rw [hBB, hFF] at hst
      simp only [hBB] at hsf
      simp only [hFF] at hfr
      have HSF := Lib.hid hsf
      have HFR := Lib.hid hfr
      clear hsf hfr hBB hFF
      go_upto_region 5 with (first | (go_at_call 23; refine (HSE.out _ (by (with_reducible (repeat (first | exact Ext.refl _ | assumption | apply Ext.alloc | apply Ext.drew | exact ext_plus _ _ | (apply Ext.setCell; rotate_left; (simp <;> omega)) | (apply Ext.trans; rotate_left; exact ext_plus _ _) | (apply Ext.trans; rotate_left; assumption)))))).mono ?_; rintro e w4 ⟨rfl, hE5⟩))
      have hE4 := hE.trans hE5
      have hEw4 := hEw.trans hE5
      have hbx4 := hbxr.ext hE5
      clear k0 k1
      have k0 := hbx4.cell
      have k1 := hbx4.lt
      cases F with
      | false =>
        have HST : Hid (FewN c p b (k + 1) o) := hst
        clear hst hB
        go_upto_region 5 with (fail)
        refine wp_region_ext 23 (fun _ _ d _ _ h => by cases d <;> exact h) (by kernel_rfl) (by kernel_rfl) (by kernel_rfl) (by kernel_rfl) ?_
        (try simp only [List.append_eq, List.cons_append, List.nil_append])
        simp only [List.take_succ_cons, List.take_zero, List.drop_succ_cons, List.drop_zero]
        repeat (any_goals (first | go_big_quiet_step (first | (go_at_call 44; exact ext_quiet (HMA.out _ _ (by (with_reducible (repeat (first | exact Ext.refl _ | assumption | apply Ext.alloc | apply Ext.drew | exact ext_plus _ _ | (apply Ext.setCell; rotate_left; (simp <;> omega)) | (apply Ext.trans; rotate_left; exact ext_plus _ _) | (apply Ext.trans; rotate_left; assumption))))) (by omega) (by omega))) | (go_at_call 43; exact ext_quiet (HFR.out _ (by (with_reducible (repeat (first | exact Ext.refl _ | assumption | apply Ext.alloc | apply Ext.drew | exact ext_plus _ _ | (apply Ext.setCell; rotate_left; (simp <;> omega)) | (apply Ext.trans; rotate_left; exact ext_plus _ _) | (apply Ext.trans; rotate_left; assumption))))))) | (go_at_call 63; exact ext_quiet (HSF.out _ (by (with_reducible (repeat (first | exact Ext.refl _ | assumption | apply Ext.alloc | apply Ext.drew | exact ext_plus _ _ | (apply Ext.setCell; rotate_left; (simp <;> omega)) | (apply Ext.trans; rotate_left; exact ext_plus _ _) | (apply Ext.trans; rotate_left; assumption)))))))) | quiet_step (first | (go_at_call 44; exact ext_quiet (HMA.out _ _ (by (with_reducible (repeat (first | exact Ext.refl _ | assumption | apply Ext.alloc | apply Ext.drew | exact ext_plus _ _ | (apply Ext.setCell; rotate_left; (simp <;> omega)) | (apply Ext.trans; rotate_left; exact ext_plus _ _) | (apply Ext.trans; rotate_left; assumption))))) (by omega) (by omega))) | (go_at_call 43; exact ext_quiet (HFR.out _ (by (with_reducible (repeat (first | exact Ext.refl _ | assumption | apply Ext.alloc | apply Ext.drew | exact ext_plus _ _ | (apply Ext.setCell; rotate_left; (simp <;> omega)) | (apply Ext.trans; rotate_left; exact ext_plus _ _) | (apply Ext.trans; rotate_left; assumption))))))) | (go_at_call 63; exact ext_quiet (HSF.out _ (by (with_reducible (repeat (first | exact Ext.refl _ | assumption | apply Ext.alloc | apply Ext.drew | exact ext_plus _ _ | (apply Ext.setCell; rotate_left; (simp <;> omega)) | (apply Ext.trans; rotate_left; exact ext_plus _ _) | (apply Ext.trans; rotate_left; assumption))))))))))
        all_goals (refine wpQuiet_nil ?_; intro w3 hEw3)
        go_wp2
        go_roundw
        case rel => exact ⟨k + 1, o, by omega, by go_num, HST.out, rfl, hE4.trans hEw3⟩
        case measure => simp [intOf]; omega
      | true =>
        cases o with
        | none =>
          dsimp only [fewI]
          cases B with
          | false =>
            have HST : Hid (FewN c p b (k + 1) (none)) := hst
            clear hst hB
            go_upto_region 5 with (fail)
            refine wp_region_ext 23 (fun _ _ d _ _ h => by cases d <;> exact h) (by kernel_rfl) (by kernel_rfl) (by kernel_rfl) (by kernel_rfl) ?_
            (try simp only [List.append_eq, List.cons_append, List.nil_append])
            simp only [List.take_succ_cons, List.take_zero, List.drop_succ_cons, List.drop_zero]
            repeat (any_goals (first | go_big_quiet_step (first | (go_at_call 44; exact ext_quiet (HMA.out _ _ (by (with_reducible (repeat (first | exact Ext.refl _ | assumption | apply Ext.alloc | apply Ext.drew | exact ext_plus _ _ | (apply Ext.setCell; rotate_left; (simp <;> omega)) | (apply Ext.trans; rotate_left; exact ext_plus _ _) | (apply Ext.trans; rotate_left; assumption))))) (by omega) (by omega))) | (go_at_call 43; exact ext_quiet (HFR.out _ (by (with_reducible (repeat (first | exact Ext.refl _ | assumption | apply Ext.alloc | apply Ext.drew | exact ext_plus _ _ | (apply Ext.setCell; rotate_left; (simp <;> omega)) | (apply Ext.trans; rotate_left; exact ext_plus _ _) | (apply Ext.trans; rotate_left; assumption))))))) | (go_at_call 63; exact ext_quiet (HSF.out _ (by (with_reducible (repeat (first | exact Ext.refl _ | assumption | apply Ext.alloc | apply Ext.drew | exact ext_plus _ _ | (apply Ext.setCell; rotate_left; (simp <;> omega)) | (apply Ext.trans; rotate_left; exact ext_plus _ _) | (apply Ext.trans; rotate_left; assumption)))))))) | quiet_step (first | (go_at_call 44; exact ext_quiet (HMA.out _ _ (by (with_reducible (repeat (first | exact Ext.refl _ | assumption | apply Ext.alloc | apply Ext.drew | exact ext_plus _ _ | (apply Ext.setCell; rotate_left; (simp <;> omega)) | (apply Ext.trans; rotate_left; exact ext_plus _ _) | (apply Ext.trans; rotate_left; assumption))))) (by omega) (by omega))) | (go_at_call 43; exact ext_quiet (HFR.out _ (by (with_reducible (repeat (first | exact Ext.refl _ | assumption | apply Ext.alloc | apply Ext.drew | exact ext_plus _ _ | (apply Ext.setCell; rotate_left; (simp <;> omega)) | (apply Ext.trans; rotate_left; exact ext_plus _ _) | (apply Ext.trans; rotate_left; assumption))))))) | (go_at_call 63; exact ext_quiet (HSF.out _ (by (with_reducible (repeat (first | exact Ext.refl _ | assumption | apply Ext.alloc | apply Ext.drew | exact ext_plus _ _ | (apply Ext.setCell; rotate_left; (simp <;> omega)) | (apply Ext.trans; rotate_left; exact ext_plus _ _) | (apply Ext.trans; rotate_left; assumption))))))))))
            all_goals (refine wpQuiet_nil ?_; intro w3 hEw3)
            go_wp2
            go_roundw
            case rel => exact ⟨k + 1, none, by omega, by go_num, HST.out, rfl, hE4.trans hEw3⟩
            case measure => simp [intOf]; omega
          | true =>
            have HST : Hid (FewN c p b (k + 1) (some (k : Int))) := hst
            clear hst hB
            go_upto_region 5 with (fail)
            refine wp_region_ext 23 (fun _ _ d _ _ h => by cases d <;> exact h) (by kernel_rfl) (by kernel_rfl) (by kernel_rfl) (by kernel_rfl) ?_
            (try simp only [List.append_eq, List.cons_append, List.nil_append])
            simp only [List.take_succ_cons, List.take_zero, List.drop_succ_cons, List.drop_zero]
            repeat (any_goals (first | go_big_quiet_step (first | (go_at_call 44; exact ext_quiet (HMA.out _ _ (by (with_reducible (repeat (first | exact Ext.refl _ | assumption | apply Ext.alloc | apply Ext.drew | exact ext_plus _ _ | (apply Ext.setCell; rotate_left; (simp <;> omega)) | (apply Ext.trans; rotate_left; exact ext_plus _ _) | (apply Ext.trans; rotate_left; assumption))))) (by omega) (by omega))) | (go_at_call 43; exact ext_quiet (HFR.out _ (by (with_reducible (repeat (first | exact Ext.refl _ | assumption | apply Ext.alloc | apply Ext.drew | exact ext_plus _ _ | (apply Ext.setCell; rotate_left; (simp <;> omega)) | (apply Ext.trans; rotate_left; exact ext_plus _ _) | (apply Ext.trans; rotate_left; assumption))))))) | (go_at_call 63; exact ext_quiet (HSF.out _ (by (with_reducible (repeat (first | exact Ext.refl _ | assumption | apply Ext.alloc | apply Ext.drew | exact ext_plus _ _ | (apply Ext.setCell; rotate_left; (simp <;> omega)) | (apply Ext.trans; rotate_left; exact ext_plus _ _) | (apply Ext.trans; rotate_left; assumption)))))))) | quiet_step (first | (go_at_call 44; exact ext_quiet (HMA.out _ _ (by (with_reducible (repeat (first | exact Ext.refl _ | assumption | apply Ext.alloc | apply Ext.drew | exact ext_plus _ _ | (apply Ext.setCell; rotate_left; (simp <;> omega)) | (apply Ext.trans; rotate_left; exact ext_plus _ _) | (apply Ext.trans; rotate_left; assumption))))) (by omega) (by omega))) | (go_at_call 43; exact ext_quiet (HFR.out _ (by (with_reducible (repeat (first | exact Ext.refl _ | assumption | apply Ext.alloc | apply Ext.drew | exact ext_plus _ _ | (apply Ext.setCell; rotate_left; (simp <;> omega)) | (apply Ext.trans; rotate_left; exact ext_plus _ _) | (apply Ext.trans; rotate_left; assumption))))))) | (go_at_call 63; exact ext_quiet (HSF.out _ (by (with_reducible (repeat (first | exact Ext.refl _ | assumption | apply Ext.alloc | apply Ext.drew | exact ext_plus _ _ | (apply Ext.setCell; rotate_left; (simp <;> omega)) | (apply Ext.trans; rotate_left; exact ext_plus _ _) | (apply Ext.trans; rotate_left; assumption))))))))))
            all_goals (refine wpQuiet_nil ?_; intro w3 hEw3)
            go_wp2
            go_roundw
            case rel => exact ⟨k + 1, some (k : Int), by omega, by go_num, HST.out, rfl, hE4.trans hEw3⟩
            case measure => simp [intOf]; omega
        | some t =>
          have hti := (hB : _ ∧ _).1
          dsimp only [fewI]
          obtain ⟨A, hA⟩ : ∃ A, decide (ones (k : Int) c.loads.length < ones t c.loads.length) = A := ⟨_, rfl⟩
          have hch : fewer c (some t) (k : Int) = A := hA
          rw [hch] at hst
          have ht0 : decide (t < 0) = false := by simp; omega
          clear hch hB
          cases A with
          | false =>
            have HST : Hid (FewN c p b (k + 1) (some t)) := by cases B <;> exact hst
            clear hst
            go_upto_region 5 with (fail)
            refine wp_region_ext 23 (fun _ _ d _ _ h => by cases d <;> exact h) (by kernel_rfl) (by kernel_rfl) (by kernel_rfl) (by kernel_rfl) ?_
            (try simp only [List.append_eq, List.cons_append, List.nil_append])
            simp only [List.take_succ_cons, List.take_zero, List.drop_succ_cons, List.drop_zero]
            repeat (any_goals (first | go_big_quiet_step (first | (go_at_call 44; exact ext_quiet (HMA.out _ _ (by (with_reducible (repeat (first | exact Ext.refl _ | assumption | apply Ext.alloc | apply Ext.drew | exact ext_plus _ _ | (apply Ext.setCell; rotate_left; (simp <;> omega)) | (apply Ext.trans; rotate_left; exact ext_plus _ _) | (apply Ext.trans; rotate_left; assumption))))) (by omega) (by omega))) | (go_at_call 43; exact ext_quiet (HFR.out _ (by (with_reducible (repeat (first | exact Ext.refl _ | assumption | apply Ext.alloc | apply Ext.drew | exact ext_plus _ _ | (apply Ext.setCell; rotate_left; (simp <;> omega)) | (apply Ext.trans; rotate_left; exact ext_plus _ _) | (apply Ext.trans; rotate_left; assumption))))))) | (go_at_call 63; exact ext_quiet (HSF.out _ (by (with_reducible (repeat (first | exact Ext.refl _ | assumption | apply Ext.alloc | apply Ext.drew | exact ext_plus _ _ | (apply Ext.setCell; rotate_left; (simp <;> omega)) | (apply Ext.trans; rotate_left; exact ext_plus _ _) | (apply Ext.trans; rotate_left; assumption)))))))) | quiet_step (first | (go_at_call 44; exact ext_quiet (HMA.out _ _ (by (with_reducible (repeat (first | exact Ext.refl _ | assumption | apply Ext.alloc | apply Ext.drew | exact ext_plus _ _ | (apply Ext.setCell; rotate_left; (simp <;> omega)) | (apply Ext.trans; rotate_left; exact ext_plus _ _) | (apply Ext.trans; rotate_left; assumption))))) (by omega) (by omega))) | (go_at_call 43; exact ext_quiet (HFR.out _ (by (with_reducible (repeat (first | exact Ext.refl _ | assumption | apply Ext.alloc | apply Ext.drew | exact ext_plus _ _ | (apply Ext.setCell; rotate_left; (simp <;> omega)) | (apply Ext.trans; rotate_left; exact ext_plus _ _) | (apply Ext.trans; rotate_left; assumption))))))) | (go_at_call 63; exact ext_quiet (HSF.out _ (by (with_reducible (repeat (first | exact Ext.refl _ | assumption | apply Ext.alloc | apply Ext.drew | exact ext_plus _ _ | (apply Ext.setCell; rotate_left; (simp <;> omega)) | (apply Ext.trans; rotate_left; exact ext_plus _ _) | (apply Ext.trans; rotate_left; assumption))))))))))
            all_goals (refine wpQuiet_nil ?_; intro w3 hEw3)
            go_wp2
            go_roundw
            case rel => exact ⟨k + 1, some t, by omega, by go_num, HST.out, rfl, hE4.trans hEw3⟩
            case measure => simp [intOf]; omega
          | true =>
            cases B with
            | false =>
              have HST : Hid (FewN c p b (k + 1) (some t)) := hst
              clear hst
              go_upto_region 5 with (fail)
              refine wp_region_ext 23 (fun _ _ d _ _ h => by cases d <;> exact h) (by kernel_rfl) (by kernel_rfl) (by kernel_rfl) (by kernel_rfl) ?_
              (try simp only [List.append_eq, List.cons_append, List.nil_append])
              simp only [List.take_succ_cons, List.take_zero, List.drop_succ_cons, List.drop_zero]
              repeat (any_goals (first | go_big_quiet_step (first | (go_at_call 44; exact ext_quiet (HMA.out _ _ (by (with_reducible (repeat (first | exact Ext.refl _ | assumption | apply Ext.alloc | apply Ext.drew | exact ext_plus _ _ | (apply Ext.setCell; rotate_left; (simp <;> omega)) | (apply Ext.trans; rotate_left; exact ext_plus _ _) | (apply Ext.trans; rotate_left; assumption))))) (by omega) (by omega))) | (go_at_call 43; exact ext_quiet (HFR.out _ (by (with_reducible (repeat (first | exact Ext.refl _ | assumption | apply Ext.alloc | apply Ext.drew | exact ext_plus _ _ | (apply Ext.setCell; rotate_left; (simp <;> omega)) | (apply Ext.trans; rotate_left; exact ext_plus _ _) | (apply Ext.trans; rotate_left; assumption))))))) | (go_at_call 63; exact ext_quiet (HSF.out _ (by (with_reducible (repeat (first | exact Ext.refl _ | assumption | apply Ext.alloc | apply Ext.drew | exact ext_plus _ _ | (apply Ext.setCell; rotate_left; (simp <;> omega)) | (apply Ext.trans; rotate_left; exact ext_plus _ _) | (apply Ext.trans; rotate_left; assumption)))))))) | quiet_step (first | (go_at_call 44; exact ext_quiet (HMA.out _ _ (by (with_reducible (repeat (first | exact Ext.refl _ | assumption | apply Ext.alloc | apply Ext.drew | exact ext_plus _ _ | (apply Ext.setCell; rotate_left; (simp <;> omega)) | (apply Ext.trans; rotate_left; exact ext_plus _ _) | (apply Ext.trans; rotate_left; assumption))))) (by omega) (by omega))) | (go_at_call 43; exact ext_quiet (HFR.out _ (by (with_reducible (repeat (first | exact Ext.refl _ | assumption | apply Ext.alloc | apply Ext.drew | exact ext_plus _ _ | (apply Ext.setCell; rotate_left; (simp <;> omega)) | (apply Ext.trans; rotate_left; exact ext_plus _ _) | (apply Ext.trans; rotate_left; assumption))))))) | (go_at_call 63; exact ext_quiet (HSF.out _ (by (with_reducible (repeat (first | exact Ext.refl _ | assumption | apply Ext.alloc | apply Ext.drew | exact ext_plus _ _ | (apply Ext.setCell; rotate_left; (simp <;> omega)) | (apply Ext.trans; rotate_left; exact ext_plus _ _) | (apply Ext.trans; rotate_left; assumption))))))))))
              all_goals (refine wpQuiet_nil ?_; intro w3 hEw3)
              go_wp2
              go_roundw
              case rel => exact ⟨k + 1, some t, by omega, by go_num, HST.out, rfl, hE4.trans hEw3⟩
              case measure => simp [intOf]; omega
            | true =>
              have HST : Hid (FewN c p b (k + 1) (some (k : Int))) := hst
              clear hst
              go_upto_region 5 with (fail)
              refine wp_region_ext 23 (fun _ _ d _ _ h => by cases d <;> exact h) (by kernel_rfl) (by kernel_rfl) (by kernel_rfl) (by kernel_rfl) ?_
              (try simp only [List.append_eq, List.cons_append, List.nil_append])
              simp only [List.take_succ_cons, List.take_zero, List.drop_succ_cons, List.drop_zero]
              repeat (any_goals (first | go_big_quiet_step (first | (go_at_call 44; exact ext_quiet (HMA.out _ _ (by (with_reducible (repeat (first | exact Ext.refl _ | assumption | apply Ext.alloc | apply Ext.drew | exact ext_plus _ _ | (apply Ext.setCell; rotate_left; (simp <;> omega)) | (apply Ext.trans; rotate_left; exact ext_plus _ _) | (apply Ext.trans; rotate_left; assumption))))) (by omega) (by omega))) | (go_at_call 43; exact ext_quiet (HFR.out _ (by (with_reducible (repeat (first | exact Ext.refl _ | assumption | apply Ext.alloc | apply Ext.drew | exact ext_plus _ _ | (apply Ext.setCell; rotate_left; (simp <;> omega)) | (apply Ext.trans; rotate_left; exact ext_plus _ _) | (apply Ext.trans; rotate_left; assumption))))))) | (go_at_call 63; exact ext_quiet (HSF.out _ (by (with_reducible (repeat (first | exact Ext.refl _ | assumption | apply Ext.alloc | apply Ext.drew | exact ext_plus _ _ | (apply Ext.setCell; rotate_left; (simp <;> omega)) | (apply Ext.trans; rotate_left; exact ext_plus _ _) | (apply Ext.trans; rotate_left; assumption)))))))) | quiet_step (first | (go_at_call 44; exact ext_quiet (HMA.out _ _ (by (with_reducible (repeat (first | exact Ext.refl _ | assumption | apply Ext.alloc | apply Ext.drew | exact ext_plus _ _ | (apply Ext.setCell; rotate_left; (simp <;> omega)) | (apply Ext.trans; rotate_left; exact ext_plus _ _) | (apply Ext.trans; rotate_left; assumption))))) (by omega) (by omega))) | (go_at_call 43; exact ext_quiet (HFR.out _ (by (with_reducible (repeat (first | exact Ext.refl _ | assumption | apply Ext.alloc | apply Ext.drew | exact ext_plus _ _ | (apply Ext.setCell; rotate_left; (simp <;> omega)) | (apply Ext.trans; rotate_left; exact ext_plus _ _) | (apply Ext.trans; rotate_left; assumption))))))) | (go_at_call 63; exact ext_quiet (HSF.out _ (by (with_reducible (repeat (first | exact Ext.refl _ | assumption | apply Ext.alloc | apply Ext.drew | exact ext_plus _ _ | (apply Ext.setCell; rotate_left; (simp <;> omega)) | (apply Ext.trans; rotate_left; exact ext_plus _ _) | (apply Ext.trans; rotate_left; assumption))))))))))
              all_goals (refine wpQuiet_nil ?_; intro w3 hEw3)
              go_wp2
              go_roundw
              case rel => exact ⟨k + 1, some (k : Int), by omega, by go_num, HST.out, rfl, hE4.trans hEw3⟩
              case measure => simp [intOf]; omega
    · obtain rfl : k = Q := by omega
      have HBA := Lib.hid (fewN_all HN5.out HQI.out hB)
      clear hB
      go_wp2_with (first | (go_at_call 23; refine (HSE.out _ (by (with_reducible (repeat (first | exact Ext.refl _ | assumption | apply Ext.alloc | apply Ext.drew | exact ext_plus _ _ | (apply Ext.setCell; rotate_left; (simp <;> omega)) | (apply Ext.trans; rotate_left; exact ext_plus _ _) | (apply Ext.trans; rotate_left; assumption)))))).mono ?_; rintro e w4 ⟨rfl, hE5⟩))
      go_ret
      exact ⟨o, HBA.out, rfl, hEw.trans hE5⟩
end Go.Proofs.Ytkjoojmlcjmlgaa
