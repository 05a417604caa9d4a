/- The document's Has, Before, Houses and Cost. -/
import Derived.Test.YtmlobiajimlboaaR2
import Derived.Test.YtmlobiajimlboaaDraw
import Derived.Test.YtmlobiajimlboaaD10
namespace Go.Proofs.Ytmlobiajimlboaa
set_option linter.unusedVariables false
set_option linter.unusedSimpArgs false
open Go.RowKit
theorem has_drop {l : List Int} {k : Nat} (n : Int) (h : k < l.length) : (l.drop k).contains n = (decide (l[k] = n) || (l.drop (k + 1)).contains n) := by
  rw [List.drop_eq_getElem_cons h, List.contains_cons]
  congr 1
  show decide (n = l[k]) = _
  exact decide_eq_decide.mpr ⟨Eq.symm, Eq.symm⟩
set_option maxRecDepth 100000 in
set_option maxHeartbeats 2000000 in
theorem has_any (L : List Int) (n : Int) (vl : Value) (w : World) (hL : Ints w vl L) (hn : L.length ≤ 1000000) :
    Calls Try.prog 48 #[vl, .int .i64 n] w fun e w' => e = .returned (.bool (L.contains n)) ∧ Ext w w' := by
  obtain ⟨a1, c1, rfl, hx1⟩ := hL
  have HX1 := Lib.hid hx1
  obtain ⟨B, hB⟩ : ∃ B, L.contains n = B := ⟨_, rfl⟩
  rw [hB]
  have HB := Lib.hid hB
  clear hx1 hB
  go_enter Try.func48, Try.ntmps48
  go_wp2
  go_loopw [5] (fun i wr => ∃ k : Nat, k ≤ L.length ∧ i = .int .i64 k ∧ (L.drop k).contains n = B ∧ Ext w wr)
    (fun i _ => L.length - (intOf i).toNat)
  case atStart => exact ⟨0, Nat.zero_le _, rfl, by simpa using HB.out, Ext.refl _⟩
  case round =>
    obtain ⟨k, hk, rfl, hfz, hEk⟩ := hrel
    have HFZ := Lib.hid hfz
    clear hfz
    have hcy := hEk.cells.1
    have hsz := hEk.size
    by_cases hlt : k < L.length
    · obtain ⟨g4, o4, rfl, hg4, h04⟩ := HX1.out k hlt
      have q1 : g4 < wr.heap.size := by omega
      have HD := Lib.hid (has_drop n hlt)
      obtain ⟨z, hz⟩ : ∃ z, L[k] = z := ⟨_, rfl⟩
      rw [hz] at h04 HD
      clear hz
      by_cases hz : z = n
      · have hR : B = true := by rw [← HFZ.out, HD.out, decide_eq_true hz]; rfl
        subst hz
        have HR := Lib.hid hR
        clear hR HFZ HB HD
        go_wp2
        go_ret
        exact ⟨ret_bool HR.out.symm, hEk⟩
      · have HR := Lib.hid (show (L.drop (k + 1)).contains n = B by rw [← HFZ.out, HD.out, decide_eq_false hz]; rfl)
        clear HD HFZ
        go_wp2
        go_roundw
        case rel => exact ⟨k + 1, by omega, by go_num, HR.out, hEk⟩
        case measure => simp [intOf]; omega
    · have e : k = L.length := by omega
      have hR : B = false := by rw [← HFZ.out, e, List.drop_length]; rfl
      have HR := Lib.hid hR
      clear hR HFZ HB e
      go_wp2
      go_ret
      exact ⟨ret_bool HR.out.symm, hEk⟩
theorem lexlt_drop {a b : List Int} {k : Nat} (ha : k < a.length) (hb : k < b.length) : W.lexlt (a.drop k) (b.drop k) = if a[k] = b[k] then W.lexlt (a.drop (k + 1)) (b.drop (k + 1)) else decide (a[k] < b[k]) := by
  rw [List.drop_eq_getElem_cons ha, List.drop_eq_getElem_cons hb, W.lexlt]
theorem lexlt_nil (a b : List Int) (k : Nat) (h : ¬(k < a.length ∧ k < b.length)) : W.lexlt (a.drop k) (b.drop k) = false := by
  rcases Nat.lt_or_ge k a.length with h1 | h1
  · rcases Nat.lt_or_ge k b.length with h2 | h2
    · exact absurd ⟨h1, h2⟩ h
    · rw [List.drop_eq_nil_of_le h2]
      cases a.drop k <;> rfl
  · rw [List.drop_eq_nil_of_le h1]; rfl
set_option maxRecDepth 100000 in
set_option maxHeartbeats 2000000 in
theorem before_any (L M : List Int) (vl vm : Value) (w : World) (hL : Ints w vl L) (hM : Ints w vm M) (hn : L.length ≤ 1000000) (hm : M.length ≤ 1000000) :
    Calls Try.prog 47 #[vl, vm] w fun e w' => e = .returned (.bool (W.lexlt L M)) ∧ Ext w w' := by
  obtain ⟨a1, c1, rfl, hx1⟩ := hL
  obtain ⟨a2, c2, rfl, hx2⟩ := hM
  have HX1 := Lib.hid hx1
  have HX2 := Lib.hid hx2
  obtain ⟨B, hB⟩ : ∃ B, W.lexlt L M = B := ⟨_, rfl⟩
  rw [hB]
  have HB := Lib.hid hB
  clear hx1 hx2 hB
  have hpc := plus_cell
  go_enter Try.func47, Try.ntmps47
  go_wp2
  go_loopw [5] (fun i wr => ∃ k : Nat, k ≤ L.length ∧ i = .int .i64 k ∧ W.lexlt (L.drop k) (M.drop k) = B ∧ Ext w wr)
    (fun i _ => L.length - (intOf i).toNat)
  case atStart => exact ⟨0, Nat.zero_le _, rfl, by simpa using HB.out, Ext.refl _⟩
  case round =>
    obtain ⟨k, hk, rfl, hfz, hEk⟩ := hrel
    have HFZ := Lib.hid hfz
    clear hfz
    have hcy := hEk.cells.1
    have hsz := hEk.size
    by_cases hlt : k < L.length
    · by_cases hlt2 : k < M.length
      · obtain ⟨g4, o4, rfl, hg4, h04⟩ := HX1.out k hlt
        have q1 : g4 < wr.heap.size := by omega
        obtain ⟨g5, o5, rfl, hg5, h05⟩ := HX2.out k hlt2
        have q2 : g5 < wr.heap.size := by omega
        have HD := Lib.hid (lexlt_drop hlt hlt2)
        obtain ⟨z, hz⟩ : ∃ z, L[k] = z := ⟨_, rfl⟩
        obtain ⟨y, hy⟩ : ∃ y, M[k] = y := ⟨_, rfl⟩
        rw [hz] at h04 HD
        rw [hy] at h05 HD
        clear hz hy
        by_cases hz : z = y
        · subst hz
          have HR := Lib.hid (show W.lexlt (L.drop (k + 1)) (M.drop (k + 1)) = B by rw [← HFZ.out, HD.out, if_pos rfl])
          clear HD HFZ
          go_wp2
          refine wp_region_ext 9 (fun _ _ d _ _ h => by cases d <;> exact h) (by kernel_rfl) (by kernel_rfl) (by kernel_rfl) (by kernel_rfl) ?_
          simp only [List.take_succ_cons, List.take_zero, List.drop_succ_cons, List.drop_zero]
          repeat (any_goals (first | go_big_quiet_step (fail) | quiet_step (fail)))
          all_goals (refine wpQuiet_nil ?_; intro w2 hE2)
          unfold wpList
          go_wp2
          go_roundw
          case rel => exact ⟨k + 1, by omega, by go_num, HR.out, hEk.trans hE2⟩
          case measure => simp [intOf]; omega
        · have hR : B = decide (z < y) := by rw [← HFZ.out, HD.out, if_neg hz]
          have HR := Lib.hid hR
          clear hR HFZ HB HD
          go_wp2
          refine wp_region_ext 9 (fun _ _ d _ _ h => by cases d <;> exact h) (by kernel_rfl) (by kernel_rfl) (by kernel_rfl) (by kernel_rfl) ?_
          simp only [List.take_succ_cons, List.take_zero, List.drop_succ_cons, List.drop_zero]
          repeat (any_goals (first | go_big_quiet_step (fail) | quiet_step (fail)))
          all_goals (refine wpQuiet_nil ?_; intro w2 hE2)
          unfold wpList
          have hE2c := hE2.cells.1
          have hE2s := hE2.size
          have q3 : g4 < w2.heap.size := by omega
          have q4 : g5 < w2.heap.size := by omega
          go_wp2
          refine wp_region_ext 10 (fun _ _ d _ _ h => by cases d <;> exact h) (by kernel_rfl) (by kernel_rfl) (by kernel_rfl) (by kernel_rfl) ?_
          simp only [List.take_succ_cons, List.take_zero, List.drop_succ_cons, List.drop_zero]
          repeat (any_goals (first | go_big_quiet_step (fail) | quiet_step (fail)))
          all_goals (refine wpQuiet_nil ?_; intro w3 hE3)
          unfold wpList
          go_wp2
          go_ret
          exact ⟨ret_bool HR.out.symm, (hEk.trans hE2).trans hE3⟩
      · have hR : B = false := by rw [← HFZ.out]; exact lexlt_nil _ _ _ (fun h => hlt2 h.2)
        have HR := Lib.hid hR
        clear hR HFZ HB
        go_wp2
        go_ret
        exact ⟨ret_bool HR.out.symm, hEk⟩
    · have hR : B = false := by rw [← HFZ.out]; exact lexlt_nil _ _ _ (fun h => hlt h.1)
      have HR := Lib.hid hR
      clear hR HFZ HB
      go_wp2
      go_ret
      exact ⟨ret_bool HR.out.symm, hEk⟩
theorem house_step {c : W.Cell} (h : -1 ≤ c.fl) : (if c.fl = -1 then (0 : Int) else 1) = if 0 ≤ c.fl then 1 else 0 := by
  by_cases e : c.fl = -1
  · rw [if_pos e, if_neg (by omega)]
  · rw [if_neg e, if_pos (by omega)]
set_option maxRecDepth 100000 in
set_option maxHeartbeats 2000000 in
theorem rhouses_any (s : W.Shore) (vc vw : Value) (w : World) (hC : Cells w vc s.cells) (hn : s.cells.length ≤ 1000000) (hfl : ∀ x ∈ s.cells, -1 ≤ x.fl) :
    Calls Try.prog 45 #[shoreA s vc vw] w fun e w' => e = .returned (.int .i64 (W.houses s.cells)) ∧ Ext w w' := by
  obtain ⟨a1, c1, rfl, hx1⟩ := hC
  have HX1 := Lib.hid hx1
  have HFL := Lib.hid hfl
  clear hx1 hfl
  go_enter Try.func45, Try.ntmps45
  go_wp2
  obtain ⟨w1, hw1⟩ : ∃ w1, w.alloc (.cells #[.slice a1 s.cells.length c1, vw, .int .i64 s.reef, .int .i64 s.ll, .int .i64 s.lh] 27) = w1 := ⟨_, rfl⟩
  have hb8 : Blk w1 w.heap.size #[.slice a1 s.cells.length c1, vw, .int .i64 s.reef, .int .i64 s.ll, .int .i64 s.lh] 27 := by rw [← hw1]; exact Blk.new' rfl _ _
  have hE1 : Ext w w1 := by rw [← hw1]; (with_reducible (repeat (first | exact Ext.refl _ | assumption | apply Ext.alloc | apply Ext.drew | exact ext_plus _ _ | (apply Ext.setCell; rotate_left; (simp <;> omega)) | (apply Ext.trans; rotate_left; exact ext_plus _ _) | (apply Ext.trans; rotate_left; assumption))))
  rw [hw1]
  clear hw1
  go_loopw [3, 4] (fun v i wr => ∃ (k : Nat) (q : Int), k ≤ s.cells.length ∧ i = .int .i64 k ∧ v = .int .i64 q ∧ 0 ≤ q ∧ q ≤ k ∧ q + W.houses (s.cells.drop k) = W.houses s.cells ∧ Ext w1 wr)
    (fun _ i _ => s.cells.length - (intOf i).toNat)
  case atStart => exact ⟨0, 0, Nat.zero_le _, rfl, rfl, Int.le_refl _, by simp, by simp, Ext.refl _⟩
  case round =>
    obtain ⟨k, q, hk, rfl, rfl, hq0, hqk, hsum, hEk⟩ := hrel
    have HSUM := Lib.hid hsum
    clear hsum
    have hcy := (hE1.trans hEk).cells.1
    have hsz := (hE1.trans hEk).size
    have hcs := (hb8.ext hEk).cell
    have hls := (hb8.ext hEk).lt
    by_cases hlt : k < s.cells.length
    · obtain ⟨g4, o4, rfl, hg4, h0, h1, h2, h3⟩ := HX1.out k hlt
      have q1 : g4 < wr.heap.size := by omega
      have hflk := HFL.out _ (List.getElem_mem hlt)
      have HD := Lib.hid ((houses_drop hlt).trans (by rw [house_step hflk]))
      clear h0 h1 h2
      obtain ⟨f, hf⟩ : ∃ f, s.cells[k].fl = f := ⟨_, rfl⟩
      rw [hf] at h3 HD
      clear hf hflk
      by_cases hz : 0 ≤ f
      · have HR := Lib.hid (show (q + 1) + W.houses (s.cells.drop (k + 1)) = W.houses s.cells by rw [← HSUM.out, HD.out, if_pos hz]; omega)
        clear HD HSUM
        go_wp2
        go_roundw
        case rel => exact ⟨k + 1, q + 1, by omega, by go_num, by go_num, by omega, by omega, HR.out, hEk⟩
        case measure => simp [intOf]; omega
      · have HR := Lib.hid (show q + W.houses (s.cells.drop (k + 1)) = W.houses s.cells by rw [← HSUM.out, HD.out, if_neg hz]; omega)
        clear HD HSUM
        go_wp2
        go_roundw
        case rel => exact ⟨k + 1, q, by omega, by go_num, rfl, by omega, by omega, HR.out, hEk⟩
        case measure => simp [intOf]; omega
    · have e : k = s.cells.length := by omega
      have hR : W.houses s.cells = q := by rw [← HSUM.out, e, List.drop_length]; simp [W.houses]
      have HR := Lib.hid hR
      clear hR HSUM e
      go_wp2
      go_ret
      exact ⟨ret_int HR.out.symm, hE1.trans hEk⟩
theorem costs_drop (ws : List W.Work) {p : List Int} {k : Nat} (h : k < p.length) : W.costs ws (p.drop k) = (W.work ws p[k]).cost + W.costs ws (p.drop (k + 1)) := by
  rw [List.drop_eq_getElem_cons h, W.costs]
theorem work_at {ws : List W.Work} {p : Int} (h0 : 0 ≤ p) (h : p.toNat < ws.length) : W.work ws p = ws[p.toNat] := by
  unfold W.work
  rw [if_pos h0, List.getElem?_eq_getElem h]; rfl
theorem work_neg {ws : List W.Work} {p : Int} (h0 : ¬ 0 ≤ p) : W.work ws p = W.noWork := by
  unfold W.work
  rw [if_neg h0]
set_option maxRecDepth 100000 in
set_option maxHeartbeats 2000000 in
theorem rcost_any (s : W.Shore) (plan : List Int) (vc vw vp : Value) (w : World) (hW : Works w vw s.works) (hP : Ints w vp plan) (hn : plan.length ≤ 12) (hm : s.works.length ≤ 1000000) (hp : ∀ p ∈ plan, p < s.works.length) (hwc : ∀ x ∈ s.works, 0 ≤ x.cost ∧ x.cost ≤ 1000000) :
    Calls Try.prog 30 #[shoreA s vc vw, vp] w fun e w' => e = .returned (.int .i64 (W.costs s.works plan)) ∧ Ext w w' := by
  obtain ⟨a1, c1, rfl, hx1⟩ := hW
  obtain ⟨a2, c2, rfl, hx2⟩ := hP
  have HX1 := Lib.hid hx1
  have HX2 := Lib.hid hx2
  have HP := Lib.hid hp
  have HWC := Lib.hid hwc
  clear hx1 hx2 hp hwc
  have hpc := plus_cell
  go_enter Try.func30, Try.ntmps30
  go_wp2
  obtain ⟨w1, hw1⟩ : ∃ w1, w.alloc (.cells #[vc, .slice a1 s.works.length c1, .int .i64 s.reef, .int .i64 s.ll, .int .i64 s.lh] 27) = w1 := ⟨_, rfl⟩
  have hb8 : Blk w1 w.heap.size #[vc, .slice a1 s.works.length c1, .int .i64 s.reef, .int .i64 s.ll, .int .i64 s.lh] 27 := by rw [← hw1]; exact Blk.new' rfl _ _
  have hE1 : Ext w w1 := by rw [← hw1]; (with_reducible (repeat (first | exact Ext.refl _ | assumption | apply Ext.alloc | apply Ext.drew | exact ext_plus _ _ | (apply Ext.setCell; rotate_left; (simp <;> omega)) | (apply Ext.trans; rotate_left; exact ext_plus _ _) | (apply Ext.trans; rotate_left; assumption))))
  rw [hw1]
  clear hw1
  go_loopw [5, 6] (fun v i wr => ∃ (k : Nat) (q : Int), k ≤ plan.length ∧ i = .int .i64 k ∧ v = .int .i64 q ∧ 0 ≤ q ∧ q ≤ k * 1000000 ∧ q + W.costs s.works (plan.drop k) = W.costs s.works plan ∧ Ext w1 wr)
    (fun _ i _ => plan.length - (intOf i).toNat)
  case atStart => exact ⟨0, 0, Nat.zero_le _, rfl, rfl, Int.le_refl _, by simp, by simp, Ext.refl _⟩
  case round =>
    obtain ⟨k, q, hk, rfl, rfl, hq0, hqk, hsum, hEk⟩ := hrel
    have HSUM := Lib.hid hsum
    clear hsum
    have hcy := (hE1.trans hEk).cells.1
    have hsz := (hE1.trans hEk).size
    have hcs := (hb8.ext hEk).cell
    have hls := (hb8.ext hEk).lt
    by_cases hlt : k < plan.length
    · obtain ⟨g4, o4, rfl, hg4, h0⟩ := HX2.out k hlt
      have q1 : g4 < wr.heap.size := by omega
      have hpk := HP.out _ (List.getElem_mem hlt)
      have HD := Lib.hid (costs_drop s.works hlt)
      obtain ⟨p, hp⟩ : ∃ p, plan[k] = p := ⟨_, rfl⟩
      rw [hp] at h0 HD hpk
      clear hp
      by_cases hz : 0 ≤ p
      · obtain ⟨j, rfl⟩ := Int.eq_ofNat_of_zero_le hz
        have hj : j < s.works.length := by omega
        obtain ⟨g5, o5, rfl, hg5, r0, r1, r2⟩ := HX1.out j hj
        have q2 : g5 < wr.heap.size := by omega
        have ew : W.work s.works (j : Int) = s.works[j] := work_at hz (by simpa using hj)
        rw [ew] at HD
        clear ew r0 r1
        have hco := HWC.out _ (List.getElem_mem hj)
        obtain ⟨x, hx⟩ : ∃ x, s.works[j].cost = x := ⟨_, rfl⟩
        rw [hx] at r2 HD hco
        clear hx hpk
        have HR := Lib.hid (show (q + x) + W.costs s.works (plan.drop (k + 1)) = W.costs s.works plan by rw [← HSUM.out, HD.out]; omega)
        clear HD HSUM
        go_wp2
        refine wp_region_ext 12 (fun _ _ d _ _ h => by cases d <;> exact h) (by kernel_rfl) (by kernel_rfl) (by kernel_rfl) (by kernel_rfl) ?_
        simp only [List.take_succ_cons, List.take_zero, List.drop_succ_cons, List.drop_zero]
        repeat (any_goals (first | go_big_quiet_step (fail) | quiet_step (fail)))
        all_goals (refine wpQuiet_nil ?_; intro w2 hE2)
        unfold wpList
        go_wp2
        go_roundw
        case rel => exact ⟨k + 1, q + x, by omega, by go_num, by go_num, by omega, by omega, HR.out, hEk.trans hE2⟩
        case measure => simp [intOf]; omega
      · have HR := Lib.hid (show q + W.costs s.works (plan.drop (k + 1)) = W.costs s.works plan by rw [← HSUM.out, HD.out, work_neg hz]; simp [W.noWork])
        clear HD HSUM hpk
        go_wp2
        go_roundw
        case rel => exact ⟨k + 1, q, by omega, by go_num, rfl, by omega, by omega, HR.out, hEk⟩
        case measure => simp [intOf]; omega
    · have e : k = plan.length := by omega
      have hR : W.costs s.works plan = q := by rw [← HSUM.out, e, List.drop_length]; simp [W.costs]
      have HR := Lib.hid hR
      clear hR HSUM e
      go_wp2
      go_ret
      exact ⟨ret_int HR.out.symm, hE1.trans hEk⟩
end Go.Proofs.Ytmlobiajimlboaa
