/- A plan of nothing but -1, by the library's Repeat. -/
import Derived.Test.YtmlobiajimlboaaD1
import Derived.Laws.CopyOwn
namespace Go.Proofs.Ytmlobiajimlboaa
set_option linter.unusedVariables false
set_option linter.unusedSimpArgs false
open Go.RowKit
theorem mul64_any (n : Nat) (hn : n ≤ 7) (w : World) : Calls Try.prog 86 #[.int .u64 1, .int .u64 n] w fun e w' => e = .returned (.tuple #[.int .u64 0, .int .u64 n]) ∧ w = w' := by
  rcases (show n = 0 ∨ n = 1 ∨ n = 2 ∨ n = 3 ∨ n = 4 ∨ n = 5 ∨ n = 6 ∨ n = 7 by omega) with rfl | rfl | rfl | rfl | rfl | rfl | rfl | rfl
  all_goals (go_enter Try.func86, Try.ntmps86)
  all_goals go_wp2
  · exact bodyPost_ret (v := .tuple #[.int .u64 0, .int .u64 0]) (by kernel_rfl) rfl ⟨rfl, rfl⟩
  · exact bodyPost_ret (v := .tuple #[.int .u64 0, .int .u64 1]) (by kernel_rfl) rfl ⟨rfl, rfl⟩
  · exact bodyPost_ret (v := .tuple #[.int .u64 0, .int .u64 2]) (by kernel_rfl) rfl ⟨rfl, rfl⟩
  · exact bodyPost_ret (v := .tuple #[.int .u64 0, .int .u64 3]) (by kernel_rfl) rfl ⟨rfl, rfl⟩
  · exact bodyPost_ret (v := .tuple #[.int .u64 0, .int .u64 4]) (by kernel_rfl) rfl ⟨rfl, rfl⟩
  · exact bodyPost_ret (v := .tuple #[.int .u64 0, .int .u64 5]) (by kernel_rfl) rfl ⟨rfl, rfl⟩
  · exact bodyPost_ret (v := .tuple #[.int .u64 0, .int .u64 6]) (by kernel_rfl) rfl ⟨rfl, rfl⟩
  · exact bodyPost_ret (v := .tuple #[.int .u64 0, .int .u64 7]) (by kernel_rfl) rfl ⟨rfl, rfl⟩
theorem mul_any (n : Nat) (hn : n ≤ 7) (w : World) : Calls Try.prog 84 #[.int .u64 1, .int .u64 n] w fun e w' => e = .returned (.tuple #[.int .u64 0, .int .u64 n]) ∧ w = w' := by
  go_enter Try.func84, Try.ntmps84
  go_wp2_with (first | (go_at_call 86; refine (mul64_any n hn _).mono ?_; rintro e w' ⟨rfl, rfl⟩))
  exact bodyPost_ret (v := .tuple #[_, _]) (by simp [results, Try.results84, go_sem]) rfl ⟨rfl, rfl⟩
/-- The first m of n are -1 already. -/
def half (n m : Nat) : List Int := List.replicate m (-1) ++ List.replicate (n - m) 0
theorem half_zero (n : Nat) : half n 0 = List.replicate n 0 := by simp [half]
theorem half_all (n : Nat) : half n n = List.replicate n (-1) := by simp [half]
theorem half_len {n m : Nat} (h : m ≤ n) : (half n m).length = n := by simp [half]; omega
theorem half_step {n m k : Nat} (h : m + k ≤ n) : (half n m).take m ++ (List.replicate k (-1) ++ (half n m).drop (m + k)) = half n (m + k) := by
  unfold half
  rw [List.take_left' (by simp), List.drop_append]
  simp only [List.length_replicate, List.drop_replicate]
  rw [show m - (m + k) = 0 by omega, show m + k - m = k by omega, ← List.append_assoc, ← List.append_assoc, show n - m - k = n - (m + k) by omega]
  simp
theorem half_get {n m i : Nat} (h : i < m) : (half n m)[i]? = some (-1) := by
  unfold half
  rw [List.getElem?_append_left (by simpa using h)]
  simp [h]
theorem nmin {a b k : Nat} (h : k = Nat.min a b) : k ≤ a ∧ k ≤ b ∧ (k = a ∨ k = b) := by
  subst h
  refine ⟨Nat.min_le_left _ _, Nat.min_le_right _ _, ?_⟩
  show min a b = a ∨ min a b = b
  omega
theorem copy_half (y : World) (g m dLen dCap : Nat) (a : Addr) (sLen sCap k n : Nat) (hk : k = Nat.min sLen dLen) (hB : Blk y g (ints (half n m)) 3) (hmk : m + k ≤ n) (hsrc : ∀ j, j < k → y.cell? (a.add j) = some (.int .i64 (-1))) :
    (Builtin.copy_ #[30, 30] 3 #[.slice (some ⟨g, m, none⟩) dLen dCap, .slice (some a) sLen sCap]).run Try.prog y = .ok (.int .i64 (k : Int)) (y.setRow g (ints (half n (m + k)))) := by
  have hl : (half n m).length = n := half_len (by omega)
  have h := run_copy_row (P := Try.prog) y 30 30 3 3 g m dLen dCap a sLen sCap (ints (half n m)) 3 (List.replicate k (Value.int .i64 (-1))) Try.underlying30 (by kernel_rfl) hB (by simpa using hk)
    (fun j v hj => by
      have hjk : j < k := by
        have := (List.getElem?_eq_some_iff.1 hj).1
        simpa using this
      rw [hsrc j hjk]
      rw [List.getElem?_replicate, if_pos hjk] at hj
      exact hj)
    (by simp [ints, hl]; exact hmk) (fun v hv => by rw [List.eq_of_mem_replicate hv]; rfl)
  rw [h]
  have e : ((ints (half n m)).toList.take m ++ List.replicate k (Value.int .i64 (-1)) ++ (ints (half n m)).toList.drop (m + (List.replicate k (Value.int .i64 (-1))).length)).toArray = ints (half n (m + k)) := by
    rw [← half_step hmk]
    simp [ints, List.map_take, List.map_drop]
  rw [e]
  simp [goInt]
set_option maxRecDepth 100000 in
set_option maxHeartbeats 2000000 in
theorem repeat_any (n : Nat) (h1 : 1 ≤ n) (hn : n ≤ 7) (b cap : Nat) (w : World) (hb : Blk w b #[.int .i64 (-1)] 3) :
    Calls Try.prog 83 #[.slice (some ⟨b, 0, none⟩) 1 cap, .int .i64 n] w fun e w' => ∃ g, e = .returned (.slice (some ⟨g, 0, none⟩) n n) ∧ Blk w' g (ints (List.replicate n (-1))) 3 ∧ w.heap.size ≤ g ∧ Ext w w' := by
  have hmk := make_ints n (by omega) w
  have hbl := hb.lt
  obtain ⟨w1, hw1⟩ : ∃ w1, w.alloc (.cells (ints (List.replicate n 0)) 3) = w1 := ⟨_, rfl⟩
  have hg1 : Blk w1 w.heap.size (ints (half n 0)) 3 := by rw [half_zero, ← hw1]; exact Blk.new' rfl _ _
  have hE1 : Ext w w1 := by rw [← hw1]; (with_reducible (repeat (first | exact Ext.refl _ | assumption | apply Ext.alloc | apply Ext.drew | exact ext_plus _ _ | (apply Ext.setCell; rotate_left; (simp <;> omega)) | (apply Ext.trans; rotate_left; exact ext_plus _ _) | (apply Ext.trans; rotate_left; assumption))))
  have hb1 : Blk w1 b #[.int .i64 (-1)] 3 := hb.ext hE1
  rw [hw1] at hmk
  have hcp := copy_half w1 w.heap.size 0 n n ⟨b, 0, none⟩ 1 cap 1 n (by show 1 = min 1 n; omega) hg1 (by omega) (fun j hj => by
    obtain rfl : j = 0 := by omega
    exact hb1.cell 0)
  have hg2 : Blk (w1.setRow w.heap.size (ints (half n 1))) w.heap.size (ints (half n 1)) 3 := setRow_heap w1 _ _ _ _ _ hg1
  have hE2 : Ext w (w1.setRow w.heap.size (ints (half n 1))) := below_setRow hE1 (Nat.le_refl _) _
  have d1 : decide ((n : Int) < 0) = false := by simp
  have d2 : decide (9223372036854775807 < (n : Int)) = false := by simp; omega
  obtain ⟨w2, hw2⟩ : ∃ w2, w1.setRow w.heap.size (ints (half n 1)) = w2 := ⟨_, rfl⟩
  rw [hw2] at hg2 hE2
  simp only [Nat.zero_add] at hcp
  rw [hw2] at hcp
  clear hw1 hw2 hE1 hg1 hb1
  go_enter Try.func83, Try.ntmps83
  go_wp2_with (first | (go_at_call 84; refine (mul_any n hn _).mono ?_; rintro e w' ⟨rfl, rfl⟩))
  go_loopw [8] (fun i wr => ∃ m : Nat, 1 ≤ m ∧ m ≤ n ∧ i = .int .i64 m ∧ Blk wr w.heap.size (ints (half n m)) 3 ∧ Ext w wr)
    (fun i _ => n - (intOf i).toNat)
  case atStart => exact ⟨1, by omega, h1, rfl, hg2, hE2⟩
  case round =>
    obtain ⟨m, hm1, hmn, rfl, hg, hE⟩ := hrel
    by_cases hlt : m < n
    · obtain ⟨k, hk⟩ : ∃ k, k = Nat.min m (n - m) := ⟨_, rfl⟩
      have hk2 := nmin hk
      have hk1 : 1 ≤ k ∧ m + k ≤ n := by omega
      have hpc := plus_cell
      go_wp2
      refine wp_region_ext 7 (fun _ _ d _ _ h => by cases d <;> exact h) (by kernel_rfl) (by kernel_rfl) (by kernel_rfl) (by kernel_rfl) ?_
      simp only [List.take_succ_cons, List.take_zero, List.drop_succ_cons, List.drop_zero]
      repeat (any_goals (first | quiet_step (fail) | (refine wpQuiet_step (fun K hK => ?_); go_simp; split <;> (refine hK _ ?_; clear hK K))))
      all_goals (refine wpQuiet_nil ?_; intro y2 hE2)
      have hg3 := hg.ext hE2
      have hcp2 := copy_half y2 w.heap.size m (n - m) (n - m) ⟨w.heap.size, 0, none⟩ m n k n hk hg3 hk1.2 (fun j hj => by
        have hadd : (⟨w.heap.size, 0, none⟩ : Addr).add j = ⟨w.heap.size, j, none⟩ := by unfold Addr.add; split <;> simp_all
        rw [hadd, hg3.cell]
        have := half_get (n := n) (m := m) (i := j) (by omega)
        simp [ints, this])
      have hg4 : Blk (y2.setRow w.heap.size (ints (half n (m + k)))) w.heap.size (ints (half n (m + k))) 3 := setRow_heap y2 _ _ _ _ _ hg3
      have hE4 : Ext w (y2.setRow w.heap.size (ints (half n (m + k)))) := below_setRow (hE.trans hE2) (Nat.le_refl _) _
      clear hk
      go_wp2
      go_roundw
      case rel => exact ⟨m + k, by omega, by omega, by go_num, hg4, hE4⟩
      case measure => simp [intOf]; omega
    · obtain rfl : m = n := by omega
      rw [half_all] at hg
      go_wp2
      go_ret
      exact ⟨_, rfl, hg, Nat.le_refl _, hE⟩
end Go.Proofs.Ytmlobiajimlboaa
