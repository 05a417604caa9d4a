/- The document's question whether a weather may come. The laws' small helpers: short, asked, few. The document's cost. How many loads lie in a set, as the document counts them. -/
import Derived.Test.YtkjoojmlcjmlgaaD1
namespace Go.Proofs.Ytkjoojmlcjmlgaa
set_option linter.unusedVariables false
set_option linter.unusedSimpArgs false
open Go.RowKit
theorem cloudy_step {s : List UInt8} {f j : Nat} {x : UInt8} (h : s[f + j]? = some x) : C.cloudy s f (j + 1) = C.cloudy s f j + if (x == UInt8.ofNat 99) then 1 else 0 := by
  obtain ⟨hk, rfl⟩ := List.getElem?_eq_some_iff.1 h
  unfold C.cloudy
  rw [List.take_succ_eq_append_getElem (by simp; omega), List.count_append, List.count_singleton]
  simp
theorem cloudy_le {s : List UInt8} {f j : Nat} : C.cloudy s f j ≤ j := by
  unfold C.cloudy
  refine Nat.le_trans List.count_le_length ?_
  simp; omega
theorem range_step {p : Nat → Bool} {k : Nat} (h : (List.range k).all p = true) : (List.range (k + 1)).all p = p k := by
  rw [List.range_succ, List.all_append, h]; simp
theorem range_false {p : Nat → Bool} {k n : Nat} (hk : k < n) (h : p k = false) : (List.range n).all p = false := by
  rw [List.all_eq_false]
  exact ⟨k, List.mem_range.2 hk, by rw [h]; decide⟩
set_option maxRecDepth 100000 in
set_option maxHeartbeats 4000000 in
theorem dallowed_any (c : C.Sys) (s : ByteArray) (vl : Value) (hvl : ∃ a n k, vl = .slice a n k) (w : World) (hs : s.size ≤ 1000000) (hw0 : 0 ≤ c.window) (hw1 : c.window ≤ 1000000) :
    Calls Try.prog 26 #[.agg (sysV c vl), .string s] w fun e w' => e = .returned (.bool (C.allowed c s.data.toList)) ∧ Ext w w' := by
  obtain ⟨al, nl, kl, rfl⟩ := hvl
  have hlen : s.data.toList.length = s.size := by simp
  obtain ⟨T, hT⟩ : ∃ T, s.data.toList = T := ⟨_, rfl⟩
  have HIX := Lib.hid (fun i x (h : T[i]? = some x) => str_at s i x (by rw [hT]; exact h))
  rw [hT] at hlen ⊢
  have HLEN := Lib.hid hlen
  clear hlen hT
  obtain ⟨W, hW⟩ : ∃ W : Nat, c.window = W := ⟨c.window.toNat, by omega⟩
  obtain ⟨p, hp⟩ : ∃ p : Nat → Bool, p = fun f => decide ((C.cloudy T f W : Int) ≤ c.most) := ⟨_, rfl⟩
  have hres : C.allowed c T = (List.range (s.size + 1 - W)).all p := by
    unfold C.allowed
    rw [HLEN.out, hW, hp]; rfl
  rw [hres]
  have HP := Lib.hid hp
  clear hres hp
  go_enter Try.func26, Try.ntmps26
  go_wp2
  obtain ⟨w1, hw1⟩ : ∃ w1, w.alloc (.cells (sysV c (.slice al nl kl)) 24) = w1 := ⟨_, rfl⟩
  have hb : Blk w1 w.heap.size (sysV c (.slice al nl kl)) 24 := by rw [← hw1]; exact Blk.new' rfl _ _
  have hE : Ext w w1 := by rw [← hw1]; (with_reducible (repeat (first | exact Ext.refl _ | assumption | apply Ext.alloc | apply Ext.drew | exact ext_plus _ _ | (apply Ext.setCell; rotate_left; (simp <;> omega)) | (apply Ext.trans; rotate_left; exact ext_plus _ _) | (apply Ext.trans; rotate_left; assumption))))
  rw [hw1]
  clear hw1
  have hc := hb.cell
  have hl := hb.lt
  unfold sysV at hc
  rw [hW] at hc hw0 hw1
  go_loop [6, 7, 5] (fun _ _ i => ∃ k : Nat, k ≤ s.size + 1 - W ∧ i = .int .i64 k ∧ (List.range k).all p = true) (fun _ _ i => s.size + 1 - (intOf i).toNat)
  case atStart => exact ⟨0, Nat.zero_le _, rfl, by simp⟩
  case round =>
    obtain ⟨k, hk, rfl, hall⟩ := hrel
    have HALL := Lib.hid hall
    clear hall
    by_cases hlt : k + W ≤ s.size
    · go_wp2
      go_loop [6, 7] (fun n i => ∃ j : Nat, j ≤ W ∧ i = .int .i64 (k + j : Nat) ∧ n = .int .i64 (C.cloudy T k j : Nat)) (fun _ i => k + W - (intOf i).toNat)
      case atStart => exact ⟨0, Nat.zero_le _, by go_num, by simp [C.cloudy]⟩
      case round =>
        obtain ⟨j, hj, rfl, rfl⟩ := hrel
        have hcl := cloudy_le (s := T) (f := k) (j := j)
        by_cases hjl : j < W
        · obtain ⟨x, hx⟩ : ∃ x, T[k + j]? = some x := ⟨_, List.getElem?_eq_getElem (by rw [HLEN.out]; omega)⟩
          have hi := HIX.out _ x hx
          have HST := Lib.hid (cloudy_step hx)
          have h1 := u8_eq x 99 (by decide)
          obtain ⟨q, hq⟩ : ∃ q, (x == UInt8.ofNat 99) = q := ⟨_, rfl⟩
          rw [hq] at h1 HST
          obtain ⟨Y, hY⟩ : ∃ Y, C.cloudy T k j = Y := ⟨_, rfl⟩
          rw [hY] at hcl HST ⊢
          obtain ⟨J, hJ⟩ : ∃ J, k + j = J := ⟨_, rfl⟩
          rw [hJ] at hi ⊢
          have HJ := Lib.hid hJ
          have hJ1 : J ≤ 1000000 := by omega
          have hJ2 : J < k + W := by omega
          clear hx hq hY hJ
          cases q with
          | true =>
            go_wp2
            go_round
            case rel => exact ⟨j + 1, by omega, by have := HJ.out; go_num, by rw [HST.out]; go_num⟩
            case measure => simp [intOf]; omega
          | false =>
            go_wp2
            go_round
            case rel => exact ⟨j + 1, by omega, by have := HJ.out; go_num, by rw [HST.out]; go_num⟩
            case measure => simp [intOf]; omega
        · obtain rfl : W = j := by omega
          have HS := Lib.hid (range_step HALL.out)
          have HF := Lib.hid (fun (hk : k < s.size + 1 - W) h => range_false (p := p) hk h)
          have hpk : p k = decide ((C.cloudy T k W : Int) ≤ c.most) := by rw [HP.out]
          rw [hpk] at HS HF
          clear hpk
          obtain ⟨Y, hY⟩ : ∃ Y, C.cloudy T k W = Y := ⟨_, rfl⟩
          rw [hY] at hcl HS HF ⊢
          clear hY
          by_cases hm : (Y : Int) ≤ c.most
          · go_wp2
            go_round
            case rel => exact ⟨k + 1, by omega, by go_num, by rw [HS.out]; simpa using hm⟩
            case measure => simp [intOf]; omega
          · go_wp2
            go_ret
            exact ⟨ret_bool (by rw [HF.out (by omega) (by simpa using hm)]), hE⟩
    · obtain rfl : k = s.size + 1 - W := by omega
      go_wp2
      go_ret
      exact ⟨ret_bool (by rw [HALL.out]), hE⟩
end Go.Proofs.Ytkjoojmlcjmlgaa
namespace Go.Proofs.Ytkjoojmlcjmlgaa
set_option linter.unusedVariables false
set_option linter.unusedSimpArgs false
open Go.RowKit
theorem short_any (c : C.Sys) (vl : Value) (w : World) (hL : Loads w vl c.loads) (hn : c.loads.length ≤ 1000000) :
    Calls Try.prog 15 #[.agg (sysV c vl)] w fun e w' => e = .returned (.bool (decide (c.loads.length ≤ 10))) ∧ Ext w w' := by
  obtain ⟨a, cap, rfl, _⟩ := hL
  go_enter Try.func15, Try.ntmps15
  go_wp2
  all_goals (go_ret; refine ⟨ret_bool ?_, by (with_reducible (repeat (first | exact Ext.refl _ | assumption | apply Ext.alloc | apply Ext.drew | exact ext_plus _ _ | (apply Ext.setCell; rotate_left; (simp <;> omega)) | (apply Ext.trans; rotate_left; exact ext_plus _ _) | (apply Ext.trans; rotate_left; assumption))))⟩; rw [Bool.eq_iff_iff]; simp <;> omega)
set_option maxHeartbeats 2000000 in
theorem asked_any (c : C.Sys) (p b : Int) (vl : Value) (w : World) (hL : Loads w vl c.loads) (hn : c.loads.length ≤ 1000000) :
    Calls Try.prog 18 #[.agg (sysV c vl), .int .i64 p, .int .i64 b] w fun e w' => e = .returned (.bool (C.sysB c && C.partsB p b)) ∧ Ext w w' := by
  have hL' := hL
  obtain ⟨a, cap, rfl, _⟩ := hL'
  have HS := Lib.hid (fun w' (hx : Ext w w') => dsystem_any c _ w' (hL.ext hx) hn)
  go_enter Try.func18, Try.ntmps18
  go_wp2_with (first | (go_at_call 37; refine (HS.out _ (by (with_reducible (repeat (first | exact Ext.refl _ | assumption | apply Ext.alloc | apply Ext.drew | exact ext_plus _ _ | (apply Ext.setCell; rotate_left; (simp <;> omega)) | (apply Ext.trans; rotate_left; exact ext_plus _ _) | (apply Ext.trans; rotate_left; assumption)))))).mono ?_; rintro e w' ⟨rfl, hb⟩) | (go_at_call 40; refine (dparts_any _ _ _).mono ?_; rintro e w' ⟨rfl, rfl⟩))
  all_goals (go_ret; refine ⟨ret_bool ?_, by (with_reducible (repeat (first | exact Ext.refl _ | assumption | apply Ext.alloc | apply Ext.drew | exact ext_plus _ _ | (apply Ext.setCell; rotate_left; (simp <;> omega)) | (apply Ext.trans; rotate_left; exact ext_plus _ _) | (apply Ext.trans; rotate_left; assumption))))⟩; simp_all)
set_option maxHeartbeats 2000000 in
theorem few_any (c : C.Sys) (n : Int) (vl : Value) (w : World) (hL : Loads w vl c.loads) (hn : c.loads.length ≤ 1000000) :
    Calls Try.prog 30 #[.agg (sysV c vl), .int .i64 n] w fun e w' => e = .returned (.bool (decide (c.loads.length ≤ 10) && (!C.sysB c || decide (c.days ≤ n)))) ∧ Ext w w' := by
  have hL' := hL
  obtain ⟨a, cap, rfl, _⟩ := hL'
  have HS := Lib.hid (fun w' (hx : Ext w w') => dsystem_any c _ w' (hL.ext hx) hn)
  have HT := Lib.hid (fun w' (hx : Ext w w') => short_any c _ w' (hL.ext hx) hn)
  obtain ⟨B, hB⟩ : ∃ B, C.sysB c = B := ⟨_, rfl⟩
  obtain ⟨L, hLL⟩ : ∃ L, decide (c.loads.length ≤ 10) = L := ⟨_, rfl⟩
  rw [hB, hLL]
  simp only [hB] at HS
  simp only [hLL] at HT
  clear hB hLL
  go_enter Try.func30, Try.ntmps30
  go_wp2_with (first | (go_at_call 37; refine (HS.out _ (by (with_reducible (repeat (first | exact Ext.refl _ | assumption | apply Ext.alloc | apply Ext.drew | exact ext_plus _ _ | (apply Ext.setCell; rotate_left; (simp <;> omega)) | (apply Ext.trans; rotate_left; exact ext_plus _ _) | (apply Ext.trans; rotate_left; assumption)))))).mono ?_; rintro e w' ⟨rfl, hb⟩; have hbx := Blk.ext (Blk.new w (sysV c (.slice a c.loads.length cap)) 24) (by (with_reducible (repeat (first | exact Ext.refl _ | assumption | apply Ext.alloc | apply Ext.drew | exact ext_plus _ _ | (apply Ext.setCell; rotate_left; (simp <;> omega)) | (apply Ext.trans; rotate_left; exact ext_plus _ _) | (apply Ext.trans; rotate_left; assumption)))) : Ext _ w'); have k1 := hbx.cell; have l1 := hbx.lt) | (go_at_call 15; refine (HT.out _ (by (with_reducible (repeat (first | exact Ext.refl _ | assumption | apply Ext.alloc | apply Ext.drew | exact ext_plus _ _ | (apply Ext.setCell; rotate_left; (simp <;> omega)) | (apply Ext.trans; rotate_left; exact ext_plus _ _) | (apply Ext.trans; rotate_left; assumption)))))).mono ?_; rintro e w' ⟨rfl, ha⟩; have hbx := Blk.ext (Blk.new w (sysV c (.slice a c.loads.length cap)) 24) (by (with_reducible (repeat (first | exact Ext.refl _ | assumption | apply Ext.alloc | apply Ext.drew | exact ext_plus _ _ | (apply Ext.setCell; rotate_left; (simp <;> omega)) | (apply Ext.trans; rotate_left; exact ext_plus _ _) | (apply Ext.trans; rotate_left; assumption)))) : Ext _ w'); have k0 := hbx.cell; have l0 := hbx.lt))
  all_goals (go_ret; refine ⟨ret_bool ?_, by (with_reducible (repeat (first | exact Ext.refl _ | assumption | apply Ext.alloc | apply Ext.drew | exact ext_plus _ _ | (apply Ext.setCell; rotate_left; (simp <;> omega)) | (apply Ext.trans; rotate_left; exact ext_plus _ _) | (apply Ext.trans; rotate_left; assumption))))⟩; simp_all)
end Go.Proofs.Ytkjoojmlcjmlgaa
namespace Go.Proofs.Ytkjoojmlcjmlgaa
set_option linter.unusedVariables false
set_option linter.unusedSimpArgs false
open Go.RowKit
theorem dcost_any (c : C.Sys) (p b : Int) (vl : Value) (hvl : ∃ a n k, vl = .slice a n k) (w : World) (hp : 0 ≤ p ∧ p ≤ 12) (hb : 0 ≤ b ∧ b ≤ 8) (h1 : 0 ≤ c.panel ∧ c.panel ≤ 1000000) (h2 : 0 ≤ c.battery ∧ c.battery ≤ 1000000) :
    Calls Try.prog 39 #[.agg (sysV c vl), .int .i64 p, .int .i64 b] w fun e w' => e = .returned (.int .i64 (C.cost c p b)) ∧ Ext w w' := by
  obtain ⟨al, nl, kl, rfl⟩ := hvl
  obtain ⟨x, hx⟩ : ∃ x, p * c.panel = x := ⟨_, rfl⟩
  obtain ⟨y, hy⟩ : ∃ y, b * c.battery = y := ⟨_, rfl⟩
  have x0 : 0 ≤ x := by rw [← hx]; exact Int.mul_nonneg hp.1 h1.1
  have y0 : 0 ≤ y := by rw [← hy]; exact Int.mul_nonneg hb.1 h2.1
  have x1 : x ≤ 12000000 := by rw [← hx]; exact Int.le_trans (Int.mul_le_mul hp.2 h1.2 h1.1 (by decide)) (by decide)
  have y1 : y ≤ 8000000 := by rw [← hy]; exact Int.le_trans (Int.mul_le_mul hb.2 h2.2 h2.1 (by decide)) (by decide)
  have hc : C.cost c p b = x + y := by unfold C.cost; rw [hx, hy]
  rw [hc]
  clear hc
  go_enter Try.func39, Try.ntmps39
  go_wp2
  go_ret
  exact ⟨rfl, by (with_reducible (repeat (first | exact Ext.refl _ | assumption | apply Ext.alloc | apply Ext.drew | exact ext_plus _ _ | (apply Ext.setCell; rotate_left; (simp <;> omega)) | (apply Ext.trans; rotate_left; exact ext_plus _ _) | (apply Ext.trans; rotate_left; assumption))))⟩
end Go.Proofs.Ytkjoojmlcjmlgaa
namespace Go.Proofs.Ytkjoojmlcjmlgaa
set_option linter.unusedVariables false
set_option linter.unusedSimpArgs false
open Go.RowKit
/-- How many of the first n loads lie in a set. -/
def ones (x : Int) (n : Nat) : Nat := (List.range n).countP fun i => C.has x i
theorem ones_le (x : Int) (n : Nat) : ones x n ≤ n := by
  have h := List.countP_le_length (l := List.range n) (p := fun i => C.has x i)
  rw [List.length_range] at h
  exact h
theorem ones_step (x : Int) (n : Nat) : ones x (n + 1) = ones x n + if C.has x n then 1 else 0 := by
  unfold ones
  rw [List.range_succ, List.countP_append, List.countP_singleton]
set_option maxHeartbeats 2000000 in
theorem dmany_any (c : C.Sys) (x : Int) (vl : Value) (w : World) (hP : Loads w vl c.loads) (hn : c.loads.length ≤ 10) (h0 : 0 ≤ x) (h1 : x ≤ 1000000) :
    Calls Try.prog 44 #[.agg (sysV c vl), .int .i64 x] w fun e w' => e = .returned (.int .i64 (ones x c.loads.length)) ∧ Ext w w' := by
  obtain ⟨a1, c1, rfl, _⟩ := hP
  obtain ⟨n, hnn⟩ : ∃ n, c.loads.length = n := ⟨_, rfl⟩
  rw [hnn] at hn ⊢
  clear hnn
  go_enter Try.func44, Try.ntmps44
  go_wp2
  obtain ⟨w1, hw1⟩ : ∃ w1, w.alloc (.cells (sysV c (.slice a1 n c1)) 24) = w1 := ⟨_, rfl⟩
  have hb : Blk w1 w.heap.size (sysV c (.slice a1 n c1)) 24 := by rw [← hw1]; exact Blk.new' rfl _ _
  have hE : Ext w w1 := by rw [← hw1]; (with_reducible (repeat (first | exact Ext.refl _ | assumption | apply Ext.alloc | apply Ext.drew | exact ext_plus _ _ | (apply Ext.setCell; rotate_left; (simp <;> omega)) | (apply Ext.trans; rotate_left; exact ext_plus _ _) | (apply Ext.trans; rotate_left; assumption))))
  rw [hw1]
  clear hw1
  have hc := hb.cell
  have hl := hb.lt
  go_loop [5, 6] (fun v i => ∃ k : Nat, k ≤ n ∧ i = .int .i64 k ∧ v = .int .i64 (ones x k : Nat)) (fun _ i => n - (intOf i).toNat)
  case atStart => exact ⟨0, Nat.zero_le _, rfl, rfl⟩
  case round =>
    obtain ⟨k, hk, rfl, rfl⟩ := hrel
    have hle := ones_le x k
    have HST := Lib.hid (ones_step x k)
    have HH := Lib.hid (fun w' => dhas_any x k w' h0 h1 (by omega))
    obtain ⟨B, hB⟩ : ∃ B, C.has x k = B := ⟨_, rfl⟩
    rw [hB] at HST
    simp only [hB] at HH
    obtain ⟨Y, hY⟩ : ∃ Y, ones x k = Y := ⟨_, rfl⟩
    rw [hY] at hle HST ⊢
    have HY := Lib.hid hY
    clear hB hY
    by_cases hlt : k < n
    · cases B with
      | true =>
        go_wp2_with (first | (go_at_call 24; refine (HH.out _).mono ?_; rintro e w' ⟨rfl, rfl⟩))
        go_round
        case rel => exact ⟨k + 1, by omega, by go_num, by rw [HST.out]; go_num⟩
        case measure => simp [intOf]; omega
      | false =>
        go_wp2_with (first | (go_at_call 24; refine (HH.out _).mono ?_; rintro e w' ⟨rfl, rfl⟩))
        go_round
        case rel => exact ⟨k + 1, by omega, by go_num, by rw [HST.out]; go_num⟩
        case measure => simp [intOf]; omega
    · obtain rfl : n = k := by omega
      go_wp2
      go_ret
      exact ⟨ret_int (by rw [HY.out]), hE⟩
end Go.Proofs.Ytkjoojmlcjmlgaa
