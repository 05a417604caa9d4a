/- The best panels and batteries, as the document tries them. -/
import Derived.Test.YtkjoojmlcjmlgaaH7
import Derived.Test.YtkjoojmlcjmlgaaH11
namespace Go.Proofs.Ytkjoojmlcjmlgaa
set_option linter.unusedVariables false
set_option linter.unusedSimpArgs false
open Go.RowKit
/-- Of the first n choices: those that suffice and come first by cost. -/
def BestN (c : C.Sys) (n : Nat) (o : Option (Int × Int)) : Prop :=
  match o with
  | none => ∀ s ∈ stores n, suffS c s = false
  | some t => t ∈ stores n ∧ suffS c t = true ∧ ∀ s ∈ stores n, suffS c s = true → C.cost c t.1 t.2 < C.cost c s.1 s.2 ∨ (C.cost c t.1 t.2 = C.cost c s.1 s.2 ∧ rankS t ≤ rankS s)
/-- Whether a choice is cheaper than what was found. -/
def cheaper (c : C.Sys) (o : Option (Int × Int)) (s : Int × Int) : Bool := match o with | none => true | some t => decide (C.cost c s.1 s.2 < C.cost c t.1 t.2)
theorem stores_in {n : Nat} (hn : n ≤ 117) {t1 t2 : Int} (h : (t1, t2) ∈ stores n) : 0 ≤ t1 ∧ t1 ≤ 12 ∧ 0 ≤ t2 ∧ t2 ≤ 8 := by
  unfold stores at h
  obtain ⟨i, hi, he⟩ := List.mem_map.1 h
  have := List.mem_range.1 hi
  rw [Prod.mk.injEq] at he
  omega
theorem rank_last {n : Nat} {t : Int × Int} (h : t ∈ stores n) : rankS t ≤ rankS (((n / 9 : Nat) : Int), ((n % 9 : Nat) : Int)) := by
  unfold stores at h
  obtain ⟨i, hi, rfl⟩ := List.mem_map.1 h
  have := List.mem_range.1 hi
  unfold rankS
  dsimp only
  omega
theorem bestN_step {c : C.Sys} {n : Nat} {o : Option (Int × Int)} (h : BestN c n o) (s : Int × Int) (hs : s = (((n / 9 : Nat) : Int), ((n % 9 : Nat) : Int))) : BestN c (n + 1) (if cheaper c o s && suffS c s then some s else o) := by
  have hm : ∀ x, x ∈ stores (n + 1) ↔ x ∈ stores n ∨ x = s := fun x => by rw [stores_succ, List.mem_append, List.mem_singleton, hs]
  by_cases hc : (cheaper c o s && suffS c s) = true
  · rw [if_pos hc]
    rw [Bool.and_eq_true] at hc
    refine ⟨(hm s).2 (.inr rfl), hc.2, fun x hx hsx => ?_⟩
    rcases (hm x).1 hx with hx | rfl
    · cases o with
      | none => have := h x hx; rw [hsx] at this; cases this
      | some t =>
        have h1 : C.cost c s.1 s.2 < C.cost c t.1 t.2 := by simpa [cheaper] using hc.1
        rcases h.2.2 x hx hsx with h2 | ⟨h2, _⟩
        · exact .inl (by omega)
        · exact .inl (by omega)
    · exact .inr ⟨rfl, Nat.le_refl _⟩
  · rw [if_neg hc]
    cases o with
    | none =>
      intro x hx
      rcases (hm x).1 hx with hx | rfl
      · exact h x hx
      · simpa [cheaper] using hc
    | some t =>
      refine ⟨(hm t).2 (.inl h.1), h.2.1, fun x hx hsx => ?_⟩
      rcases (hm x).1 hx with hx | rfl
      · exact h.2.2 x hx hsx
      · have h1 : ¬ C.cost c x.1 x.2 < C.cost c t.1 t.2 := by
          intro h1; apply hc; rw [hsx]; simp [cheaper, h1]
        by_cases h2 : C.cost c t.1 t.2 < C.cost c x.1 x.2
        · exact .inl h2
        · exact .inr ⟨by omega, by rw [hs]; exact rank_last h.1⟩
theorem bestN_all {c : C.Sys} {o : Option (Int × Int)} (h : BestN c 117 o) : BestIs c o := by
  cases o with
  | none => exact fun s hs => h s (stores_mem hs)
  | some t => exact ⟨stores_range h.1, h.2.1, fun s hs => h.2.2 s (stores_mem hs)⟩
set_option maxRecDepth 100000 in
set_option maxHeartbeats 16000000 in
theorem dbest_any (c : C.Sys) (vl : Value) (w : World) (hL0 : Loads w vl c.loads) (O : C.Ok c) :
    Calls Try.prog 38 #[.agg (sysV c vl)] w fun e w' => ∃ o, BestIs c o ∧ e = .returned (.tuple #[.int .i64 (storeO o).1, .int .i64 (storeO o).2, .bool o.isSome]) ∧ Ext w w' := by
  have hL0' := hL0
  obtain ⟨a, cap, rfl, _⟩ := hL0'
  have hco := fun p b w' (hp : 0 ≤ p ∧ p ≤ 12) (hb : 0 ≤ b ∧ b ≤ 8) => dcost_any c p b (.slice a c.loads.length cap) ⟨_, _, _, rfl⟩ w' hp hb ⟨O.p0, O.p1⟩ ⟨O.b0, O.b1⟩
  have hsu := fun p b w' (hx : Ext w w') (hp : 0 ≤ p ∧ p ≤ 12) (hb : 0 ≤ b ∧ b ≤ 8) => dsuffice_any c p b 0 _ w' (hL0.ext hx) O hp.1 hp.2 hb.1 hb.2 (Int.le_refl _) (Int.pow_pos (by decide))
  have hcl := fun s (hs : inRange s) => cost_le O hs
  have HCO := Lib.hid hco
  have HSU := Lib.hid hsu
  have HCL := Lib.hid hcl
  have hpc := plus_cell
  clear hco hsu hcl hL0 O
  go_enter Try.func38, Try.ntmps38
  go_upto_region 2 with (fail)
  obtain ⟨w1, hw1⟩ : ∃ w1, w.alloc (.cells (sysV c (.slice a c.loads.length cap)) 24) = w1 := ⟨_, rfl⟩
  have hbx : Blk w1 w.heap.size (sysV c (.slice a c.loads.length cap)) 24 := by rw [← hw1]; exact Blk.new w _ _
  have hE1 : Ext w w1 := by rw [← hw1]; (with_reducible (repeat (first | exact Ext.refl _ | assumption | apply Ext.alloc | apply Ext.drew | exact ext_plus _ _ | (apply Ext.setCell; rotate_left; (simp <;> omega)) | (apply Ext.trans; rotate_left; exact ext_plus _ _) | (apply Ext.trans; rotate_left; assumption))))
  rw [hw1]
  clear hw1
  go_wp2
  go_loopw [5, 6, 7, 8, 9] (fun vp vb vf vx _ wr => ∃ (k : Nat) (o : Option (Int × Int)), k ≤ 13 ∧ vx = .int .i64 k ∧ BestN c (k * 9) o ∧ vp = .int .i64 (storeO o).1 ∧ vb = .int .i64 (storeO o).2 ∧ vf = .bool o.isSome ∧ Ext w1 wr) (fun _ _ _ vx _ _ => 13 - (intOf vx).toNat)
  case atStart => exact ⟨0, none, by omega, rfl, (fun s hs => by cases hs), rfl, rfl, rfl, Ext.refl _⟩
  case round =>
    rename World => wr
    obtain ⟨k, o, hk, rfl, hB, rfl, rfl, rfl, hE⟩ := hrel
    by_cases hlt : k < 13
    · have hd13 : decide ((k : Int) ≤ 12) = true := by simp; omega
      go_wp2
      clear hd13
      go_loopw [5, 6, 7, 9] (fun vp vb vf vy wx => ∃ (j : Nat) (o : Option (Int × Int)), j ≤ 9 ∧ vy = .int .i64 j ∧ BestN c (k * 9 + j) o ∧ vp = .int .i64 (storeO o).1 ∧ vb = .int .i64 (storeO o).2 ∧ vf = .bool o.isSome ∧ Ext wr wx) (fun _ _ _ vy _ => 9 - (intOf vy).toNat)
      case atStart => exact ⟨0, o, by omega, rfl, hB, rfl, rfl, rfl, Ext.refl _⟩
      case round =>
        rename World => wx
        clear hB
        obtain ⟨j, o, hj, rfl, hB, rfl, rfl, rfl, hEx⟩ := hrel
        by_cases hlj : j < 9
        · have hst := bestN_step hB (((k : Nat) : Int), ((j : Nat) : Int)) (by rw [show (k * 9 + j) / 9 = k by omega, show (k * 9 + j) % 9 = j by omega])
          have hsf := fun w' hx => HSU.out (k : Int) (j : Int) w' hx (by omega) (by omega)
          have hse : suffS c (((k : Nat) : Int), ((j : Nat) : Int)) = C.suffice c (k : Int) (j : Int) 0 := rfl
          obtain ⟨B, hBB⟩ : ∃ B, C.suffice c (k : Int) (j : Int) 0 = B := ⟨_, rfl⟩
          rw [hse, hBB] at hst
          simp only [hBB] at hsf
          have HSF := Lib.hid hsf
          clear hsf hse hBB
          have hbxx := hbx.ext (hE.trans hEx)
          have hEwx : Ext w wx := hE1.trans (hE.trans hEx)
          have k0 := hbxx.cell
          have k1 := hbxx.lt
          have hj8 : decide ((j : Int) ≤ 8) = true := by simp; omega
          cases o with
          | none =>
            dsimp only [storeO]
            cases B with
            | false =>
              have HST : Hid (BestN c (k * 9 + j + 1) (none)) := hst
              clear hst hB
              go_upto_region 8 with (fail)
              refine wp_region_ext 19 (fun _ _ d _ _ h => by cases d <;> exact h) (by kernel_rfl) (by kernel_rfl) (by kernel_rfl) (by kernel_rfl) ?_
              (try simp only [List.append_eq, List.cons_append, List.nil_append])
              simp only [List.take_succ_cons, List.take_zero, List.drop_succ_cons, List.drop_zero]
              repeat (any_goals (first | go_big_quiet_step (first | (go_at_call 39; exact ext_quiet (HCO.out _ _ _ (by omega) (by omega))) | (go_at_call 63; exact ext_quiet (HSF.out _ (by (with_reducible (repeat (first | exact Ext.refl _ | assumption | apply Ext.alloc | apply Ext.drew | exact ext_plus _ _ | (apply Ext.setCell; rotate_left; (simp <;> omega)) | (apply Ext.trans; rotate_left; exact ext_plus _ _) | (apply Ext.trans; rotate_left; assumption)))))))) | quiet_step (first | (go_at_call 39; exact ext_quiet (HCO.out _ _ _ (by omega) (by omega))) | (go_at_call 63; exact ext_quiet (HSF.out _ (by (with_reducible (repeat (first | exact Ext.refl _ | assumption | apply Ext.alloc | apply Ext.drew | exact ext_plus _ _ | (apply Ext.setCell; rotate_left; (simp <;> omega)) | (apply Ext.trans; rotate_left; exact ext_plus _ _) | (apply Ext.trans; rotate_left; assumption))))))))))
              all_goals (refine wpQuiet_nil ?_; intro w3 hEw3)
              go_wp2
              go_roundw
              case rel => exact ⟨j + 1, none, by omega, by go_num, HST.out, rfl, rfl, rfl, hEx.trans hEw3⟩
              case measure => simp [intOf]; omega
            | true =>
              have HST : Hid (BestN c (k * 9 + j + 1) (some (((k : Nat) : Int), ((j : Nat) : Int)))) := hst
              clear hst hB
              go_upto_region 8 with (fail)
              refine wp_region_ext 19 (fun _ _ d _ _ h => by cases d <;> exact h) (by kernel_rfl) (by kernel_rfl) (by kernel_rfl) (by kernel_rfl) ?_
              (try simp only [List.append_eq, List.cons_append, List.nil_append])
              simp only [List.take_succ_cons, List.take_zero, List.drop_succ_cons, List.drop_zero]
              repeat (any_goals (first | go_big_quiet_step (first | (go_at_call 39; exact ext_quiet (HCO.out _ _ _ (by omega) (by omega))) | (go_at_call 63; exact ext_quiet (HSF.out _ (by (with_reducible (repeat (first | exact Ext.refl _ | assumption | apply Ext.alloc | apply Ext.drew | exact ext_plus _ _ | (apply Ext.setCell; rotate_left; (simp <;> omega)) | (apply Ext.trans; rotate_left; exact ext_plus _ _) | (apply Ext.trans; rotate_left; assumption)))))))) | quiet_step (first | (go_at_call 39; exact ext_quiet (HCO.out _ _ _ (by omega) (by omega))) | (go_at_call 63; exact ext_quiet (HSF.out _ (by (with_reducible (repeat (first | exact Ext.refl _ | assumption | apply Ext.alloc | apply Ext.drew | exact ext_plus _ _ | (apply Ext.setCell; rotate_left; (simp <;> omega)) | (apply Ext.trans; rotate_left; exact ext_plus _ _) | (apply Ext.trans; rotate_left; assumption))))))))))
              all_goals (refine wpQuiet_nil ?_; intro w3 hEw3)
              go_wp2
              go_roundw
              case rel => exact ⟨j + 1, some (((k : Nat) : Int), ((j : Nat) : Int)), by omega, by go_num, HST.out, rfl, rfl, rfl, hEx.trans hEw3⟩
              case measure => simp [intOf]; omega
          | some t =>
            have htr := HCL.out
            have htin := (hB : _ ∧ _).1
            obtain ⟨t1, t2⟩ := t
            have hti : 0 ≤ t1 ∧ t1 ≤ 12 ∧ 0 ≤ t2 ∧ t2 ≤ 8 := stores_in (by omega) htin
            dsimp only [storeO]
            obtain ⟨A, hA⟩ : ∃ A, decide (C.cost c (k : Int) (j : Int) < C.cost c t1 t2) = A := ⟨_, rfl⟩
            have hch : cheaper c (some (t1, t2)) (((k : Nat) : Int), ((j : Nat) : Int)) = A := hA
            rw [hch] at hst
            clear hch htr htin hB
            cases A with
            | false =>
              have HST : Hid (BestN c (k * 9 + j + 1) (some (t1, t2))) := by cases B <;> exact hst
              clear hst
              go_upto_region 8 with (fail)
              refine wp_region_ext 19 (fun _ _ d _ _ h => by cases d <;> exact h) (by kernel_rfl) (by kernel_rfl) (by kernel_rfl) (by kernel_rfl) ?_
              (try simp only [List.append_eq, List.cons_append, List.nil_append])
              simp only [List.take_succ_cons, List.take_zero, List.drop_succ_cons, List.drop_zero]
              repeat (any_goals (first | go_big_quiet_step (first | (go_at_call 39; exact ext_quiet (HCO.out _ _ _ (by omega) (by omega))) | (go_at_call 63; exact ext_quiet (HSF.out _ (by (with_reducible (repeat (first | exact Ext.refl _ | assumption | apply Ext.alloc | apply Ext.drew | exact ext_plus _ _ | (apply Ext.setCell; rotate_left; (simp <;> omega)) | (apply Ext.trans; rotate_left; exact ext_plus _ _) | (apply Ext.trans; rotate_left; assumption)))))))) | quiet_step (first | (go_at_call 39; exact ext_quiet (HCO.out _ _ _ (by omega) (by omega))) | (go_at_call 63; exact ext_quiet (HSF.out _ (by (with_reducible (repeat (first | exact Ext.refl _ | assumption | apply Ext.alloc | apply Ext.drew | exact ext_plus _ _ | (apply Ext.setCell; rotate_left; (simp <;> omega)) | (apply Ext.trans; rotate_left; exact ext_plus _ _) | (apply Ext.trans; rotate_left; assumption))))))))))
              all_goals (refine wpQuiet_nil ?_; intro w3 hEw3)
              go_wp2
              go_roundw
              case rel => exact ⟨j + 1, some (t1, t2), by omega, by go_num, HST.out, rfl, rfl, rfl, hEx.trans hEw3⟩
              case measure => simp [intOf]; omega
            | true =>
              cases B with
              | false =>
                have HST : Hid (BestN c (k * 9 + j + 1) (some (t1, t2))) := hst
                clear hst
                go_upto_region 8 with (fail)
                refine wp_region_ext 19 (fun _ _ d _ _ h => by cases d <;> exact h) (by kernel_rfl) (by kernel_rfl) (by kernel_rfl) (by kernel_rfl) ?_
                (try simp only [List.append_eq, List.cons_append, List.nil_append])
                simp only [List.take_succ_cons, List.take_zero, List.drop_succ_cons, List.drop_zero]
                repeat (any_goals (first | go_big_quiet_step (first | (go_at_call 39; exact ext_quiet (HCO.out _ _ _ (by omega) (by omega))) | (go_at_call 63; exact ext_quiet (HSF.out _ (by (with_reducible (repeat (first | exact Ext.refl _ | assumption | apply Ext.alloc | apply Ext.drew | exact ext_plus _ _ | (apply Ext.setCell; rotate_left; (simp <;> omega)) | (apply Ext.trans; rotate_left; exact ext_plus _ _) | (apply Ext.trans; rotate_left; assumption)))))))) | quiet_step (first | (go_at_call 39; exact ext_quiet (HCO.out _ _ _ (by omega) (by omega))) | (go_at_call 63; exact ext_quiet (HSF.out _ (by (with_reducible (repeat (first | exact Ext.refl _ | assumption | apply Ext.alloc | apply Ext.drew | exact ext_plus _ _ | (apply Ext.setCell; rotate_left; (simp <;> omega)) | (apply Ext.trans; rotate_left; exact ext_plus _ _) | (apply Ext.trans; rotate_left; assumption))))))))))
                all_goals (refine wpQuiet_nil ?_; intro w3 hEw3)
                go_wp2
                go_roundw
                case rel => exact ⟨j + 1, some (t1, t2), by omega, by go_num, HST.out, rfl, rfl, rfl, hEx.trans hEw3⟩
                case measure => simp [intOf]; omega
              | true =>
                have HST : Hid (BestN c (k * 9 + j + 1) (some (((k : Nat) : Int), ((j : Nat) : Int)))) := hst
                clear hst
                go_upto_region 8 with (fail)
                refine wp_region_ext 19 (fun _ _ d _ _ h => by cases d <;> exact h) (by kernel_rfl) (by kernel_rfl) (by kernel_rfl) (by kernel_rfl) ?_
                (try simp only [List.append_eq, List.cons_append, List.nil_append])
                simp only [List.take_succ_cons, List.take_zero, List.drop_succ_cons, List.drop_zero]
                repeat (any_goals (first | go_big_quiet_step (first | (go_at_call 39; exact ext_quiet (HCO.out _ _ _ (by omega) (by omega))) | (go_at_call 63; exact ext_quiet (HSF.out _ (by (with_reducible (repeat (first | exact Ext.refl _ | assumption | apply Ext.alloc | apply Ext.drew | exact ext_plus _ _ | (apply Ext.setCell; rotate_left; (simp <;> omega)) | (apply Ext.trans; rotate_left; exact ext_plus _ _) | (apply Ext.trans; rotate_left; assumption)))))))) | quiet_step (first | (go_at_call 39; exact ext_quiet (HCO.out _ _ _ (by omega) (by omega))) | (go_at_call 63; exact ext_quiet (HSF.out _ (by (with_reducible (repeat (first | exact Ext.refl _ | assumption | apply Ext.alloc | apply Ext.drew | exact ext_plus _ _ | (apply Ext.setCell; rotate_left; (simp <;> omega)) | (apply Ext.trans; rotate_left; exact ext_plus _ _) | (apply Ext.trans; rotate_left; assumption))))))))))
                all_goals (refine wpQuiet_nil ?_; intro w3 hEw3)
                go_wp2
                go_roundw
                case rel => exact ⟨j + 1, some (((k : Nat) : Int), ((j : Nat) : Int)), by omega, by go_num, HST.out, rfl, rfl, rfl, hEx.trans hEw3⟩
                case measure => simp [intOf]; omega
        · obtain rfl : j = 9 := by omega
          go_wp2
          go_roundw
          case rel => exact ⟨k + 1, o, by omega, by go_num, by rw [Nat.succ_mul]; exact hB, rfl, rfl, rfl, hE.trans hEx⟩
          case measure => simp [intOf]; omega
    · obtain rfl : k = 13 := by omega
      have HBA := Lib.hid (bestN_all hB)
      clear hB
      go_wp2
      exact bodyPost_ret (v := .tuple #[.int .i64 (storeO o).1, .int .i64 (storeO o).2, .bool o.isSome]) (by simp [results, Try.results38, go_sem]) rfl ⟨o, HBA.out, rfl, hE1.trans hE⟩
end Go.Proofs.Ytkjoojmlcjmlgaa
