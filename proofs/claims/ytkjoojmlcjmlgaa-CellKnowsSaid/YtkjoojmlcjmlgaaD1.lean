/- The document's small functions. The document's weathers, letter by letter. The document's skies, letter by letter. Which systems are as defined, as the document asks it. The document's question whether a weather agrees with a sky. -/
import Derived.Test.YtkjoojmlcjmlgaaC1
import Derived.Test.YtkjoojmlcjmlgaaC5
namespace Go.Proofs.Ytkjoojmlcjmlgaa
set_option linter.unusedVariables false
set_option linter.unusedSimpArgs false
open Go.RowKit
theorem half_pow (x : Int) (k : Nat) : x / 2 ^ k / 2 = x / 2 ^ (k + 1) := by
  rw [Int.pow_succ, Int.ediv_ediv_of_nonneg (Int.le_of_lt (Int.pow_pos (by decide)))]
theorem pow_bd {n : Nat} (hn : n ≤ 10) : 1 ≤ (2 : Int) ^ n ∧ (2 : Int) ^ n ≤ 1024 := by
  have : n = 0 ∨ n = 1 ∨ n = 2 ∨ n = 3 ∨ n = 4 ∨ n = 5 ∨ n = 6 ∨ n = 7 ∨ n = 8 ∨ n = 9 ∨ n = 10 := by omega
  rcases this with rfl | rfl | rfl | rfl | rfl | rfl | rfl | rfl | rfl | rfl | rfl <;> decide
theorem dhas_any (x : Int) (k : Nat) (w : World) (h0 : 0 ≤ x) (h1 : x ≤ 1000000) (hk : k ≤ 1000) :
    Calls Try.prog 24 #[.int .i64 x, .int .i64 k] w fun e w' => e = .returned (.bool (C.has x k)) ∧ w = w' := by
  obtain ⟨B, hB⟩ : ∃ B, C.has x k = B := ⟨_, rfl⟩
  rw [hB]
  have HB := Lib.hid hB
  clear hB
  go_enter Try.func24, Try.ntmps24
  go_wp2
  go_loop [0, 5] (fun s i => ∃ j : Nat, j ≤ k ∧ i = .int .i64 j ∧ s = .int .i64 (x / 2 ^ j)) (fun _ i => k - (intOf i).toNat)
  case atStart => exact ⟨0, Nat.zero_le _, rfl, by simp⟩
  case round =>
    obtain ⟨j, hj, rfl, rfl⟩ := hrel
    have hd : 0 ≤ x / 2 ^ j := Int.ediv_nonneg h0 (Int.le_of_lt (Int.pow_pos (by decide)))
    have hd2 : x / 2 ^ j ≤ x := Int.ediv_le_self _ h0
    have hp := half_pow x j
    by_cases hlt : j < k
    · obtain ⟨D, hD⟩ : ∃ D, x / 2 ^ j = D := ⟨_, rfl⟩
      rw [hD] at hd hd2 hp ⊢
      have HP := Lib.hid hp
      clear hp hD
      go_wp2
      go_round
      case rel => exact ⟨j + 1, by omega, by go_num, by rw [HP.out]⟩
      case measure => simp [intOf]; omega
    · obtain rfl : j = k := by omega
      have hh : B = decide (x / 2 ^ j % 2 = 1) := HB.out.symm
      obtain ⟨D, hD⟩ : ∃ D, x / 2 ^ j = D := ⟨_, rfl⟩
      rw [hD] at hd hd2 hh ⊢
      have HH := Lib.hid hh
      clear hp hD hh
      go_wp2
      go_ret
      exact ⟨ret_bool (by rw [HH.out]; first | rfl | (rw [Bool.eq_iff_iff]; simp <;> omega)), rfl⟩
theorem dsets_any (c : C.Sys) (vl : Value) (w : World) (hP : Loads w vl c.loads) (hn : c.loads.length ≤ 10) :
    Calls Try.prog 23 #[.agg (sysV c vl)] w fun e w' => e = .returned (.int .i64 (C.sets c)) ∧ Ext w w' := by
  obtain ⟨a1, c1, rfl, _⟩ := hP
  obtain ⟨n, hnn⟩ : ∃ n, c.loads.length = n := ⟨_, rfl⟩
  have hs : C.sets c = 2 ^ n := by unfold C.sets; rw [hnn]
  rw [hs]
  have hrv : sysV c (.slice a1 c.loads.length c1) = sysV c (.slice a1 n c1) := by rw [hnn]
  rw [hnn] at hn
  rw [hrv]
  clear hs hrv hnn
  go_enter Try.func23, Try.ntmps23
  go_wp2
  obtain ⟨w1, hw1⟩ : ∃ w1, w.alloc (.cells (sysV c (.slice a1 n c1)) 24) = w1 := ⟨_, rfl⟩
  have hb : Blk w1 w.heap.size (sysV c (.slice a1 n c1)) 24 := by rw [← hw1]; exact Blk.new' rfl _ _
  have hE : Ext w w1 := by rw [← hw1]; (with_reducible (repeat (first | exact Ext.refl _ | assumption | apply Ext.alloc | apply Ext.drew | exact ext_plus _ _ | (apply Ext.setCell; rotate_left; (simp <;> omega)) | (apply Ext.trans; rotate_left; exact ext_plus _ _) | (apply Ext.trans; rotate_left; assumption))))
  rw [hw1]
  clear hw1
  have hc := hb.cell
  have hl := hb.lt
  go_loop [3, 4] (fun v i => ∃ k : Nat, k ≤ n ∧ i = .int .i64 k ∧ v = .int .i64 (2 ^ k)) (fun _ i => n - (intOf i).toNat)
  case atStart => exact ⟨0, Nat.zero_le _, rfl, rfl⟩
  case round =>
    obtain ⟨k, hk, rfl, rfl⟩ := hrel
    have hp := pow_bd (n := k) (by omega)
    have hps : (2 : Int) ^ (k + 1) = 2 * 2 ^ k := by rw [Int.pow_succ, Int.mul_comm]
    obtain ⟨X, hX⟩ : ∃ X, (2 : Int) ^ k = X := ⟨_, rfl⟩
    rw [hX] at hp hps ⊢
    have HPS := Lib.hid hps
    have HX := Lib.hid hX
    clear hps hX
    by_cases hlt : k < n
    · go_wp2
      go_round
      case rel => exact ⟨k + 1, by omega, by go_num, by rw [HPS.out]⟩
      case measure => simp [intOf]; omega
    · obtain rfl : n = k := by omega
      go_wp2
      go_ret
      exact ⟨ret_int HX.out.symm, hE⟩
theorem doff_any (c : C.Sys) (off : Int) (vl : Value) (w : World) (hP : Loads w vl c.loads) (hn : c.loads.length ≤ 10) :
    Calls Try.prog 19 #[.agg (sysV c vl), .int .i64 off] w fun e w' => e = .returned (.bool (C.offB c off)) ∧ Ext w w' := by
  have hP' := hP
  obtain ⟨a1, c1, rfl, _⟩ := hP'
  have HS := Lib.hid (fun w' (hx : Ext w w') => dsets_any c _ w' (hP.ext hx) hn)
  have hp := pow_bd (n := c.loads.length) (by omega)
  have hse : C.sets c = 2 ^ c.loads.length := rfl
  rw [← hse] at hp
  clear hse
  go_enter Try.func19, Try.ntmps19
  go_wp2_with (first | (go_at_call 23; refine (HS.out _ (by (with_reducible (repeat (first | exact Ext.refl _ | assumption | apply Ext.alloc | apply Ext.drew | exact ext_plus _ _ | (apply Ext.setCell; rotate_left; (simp <;> omega)) | (apply Ext.trans; rotate_left; exact ext_plus _ _) | (apply Ext.trans; rotate_left; assumption)))))).mono ?_; rintro e w' ⟨rfl, hb⟩) | (go_at_call 53; refine (din_any _ _ _ _).mono ?_; rintro e w' ⟨rfl, rfl⟩))
  all_goals (go_ret; exact ⟨rfl, by (with_reducible (repeat (first | exact Ext.refl _ | assumption | apply Ext.alloc | apply Ext.drew | exact ext_plus _ _ | (apply Ext.setCell; rotate_left; (simp <;> omega)) | (apply Ext.trans; rotate_left; exact ext_plus _ _) | (apply Ext.trans; rotate_left; assumption))))⟩)
theorem dparts_any (p b : Int) (w : World) :
    Calls Try.prog 40 #[.int .i64 p, .int .i64 b] w fun e w' => e = .returned (.bool (C.partsB p b)) ∧ w = w' := by
  go_enter Try.func40, Try.ntmps40
  go_wp2_with (first | (go_at_call 53; refine (din_any _ _ _ _).mono ?_; rintro e w' ⟨rfl, rfl⟩))
  all_goals (go_ret; exact ⟨ret_bool (by unfold C.partsB; simp_all), rfl⟩)
end Go.Proofs.Ytkjoojmlcjmlgaa
namespace Go.Proofs.Ytkjoojmlcjmlgaa
set_option linter.unusedVariables false
set_option linter.unusedSimpArgs false
open Go.RowKit
theorem u8_eq (x : UInt8) (n : Nat) (hn : n < 256) : ((x.toNat : Int) == (n : Int)) = (x == UInt8.ofNat n) := by
  rw [Bool.eq_iff_iff]
  simp only [beq_iff_eq]
  constructor
  · intro h
    have h1 : x.toNat = n := by omega
    rw [← h1]; simp
  · rintro rfl
    simp [Nat.mod_eq_of_lt hn]
theorem all_step {p : UInt8 → Bool} {l : List UInt8} {k : Nat} {x : UInt8} (h : l[k]? = some x) (hp : (l.take k).all p = true) : (l.take (k + 1)).all p = p x := by
  obtain ⟨hk, rfl⟩ := List.getElem?_eq_some_iff.1 h
  rw [List.take_succ_eq_append_getElem hk, List.all_append, hp]; simp
theorem all_false {p : UInt8 → Bool} {l : List UInt8} {k : Nat} {x : UInt8} (h : l[k]? = some x) (hp : p x = false) : l.all p = false := by
  obtain ⟨hk, rfl⟩ := List.getElem?_eq_some_iff.1 h
  rw [List.all_eq_false]
  exact ⟨_, List.getElem_mem hk, by rw [hp]; decide⟩
set_option maxRecDepth 100000 in
set_option maxHeartbeats 4000000 in
theorem dweather_any (c : C.Sys) (s : ByteArray) (vl : Value) (hvl : ∃ a n k, vl = .slice a n k) (w : World) (hs : s.size ≤ 1000000) :
    Calls Try.prog 20 #[.agg (sysV c vl), .string s] w fun e w' => e = .returned (.bool (C.weatherB c s.data.toList)) ∧ Ext w w' := by
  obtain ⟨al, nl, kl, rfl⟩ := hvl
  have hlen : s.data.toList.length = s.size := by simp
  obtain ⟨T, hT⟩ : ∃ T, s.data.toList = T := ⟨_, rfl⟩
  have hix := fun i x (h : T[i]? = some x) => str_at s i x (by rw [hT]; exact h)
  rw [hT] at hlen ⊢
  have HIX := Lib.hid hix
  have HLEN := Lib.hid hlen
  clear hix hlen hT
  go_enter Try.func20, Try.ntmps20
  go_wp2
  obtain ⟨w1, hw1⟩ : ∃ w1, w.alloc (.cells (sysV c (.slice al nl kl)) 24) = w1 := ⟨_, rfl⟩
  have hb : Blk w1 w.heap.size (sysV c (.slice al nl kl)) 24 := by rw [← hw1]; exact Blk.new' rfl _ _
  have hE : Ext w w1 := by rw [← hw1]; (with_reducible (repeat (first | exact Ext.refl _ | assumption | apply Ext.alloc | apply Ext.drew | exact ext_plus _ _ | (apply Ext.setCell; rotate_left; (simp <;> omega)) | (apply Ext.trans; rotate_left; exact ext_plus _ _) | (apply Ext.trans; rotate_left; assumption))))
  rw [hw1]
  clear hw1
  have hc := hb.cell
  have hl := hb.lt
  go_loop [5] (fun i => ∃ k : Nat, k ≤ s.size ∧ i = .int .i64 k ∧ (T.take k).all C.letterB = true) (fun i => s.size - (intOf i).toNat)
  case atStart => exact ⟨0, Nat.zero_le _, rfl, by simp⟩
  case round =>
    obtain ⟨k, hk, rfl, hall⟩ := hrel
    have HALL := Lib.hid hall
    clear hall
    by_cases hlt : k < s.size
    · obtain ⟨x, hx⟩ : ∃ x, T[k]? = some x := ⟨_, List.getElem?_eq_getElem (by rw [HLEN.out]; exact hlt)⟩
      have hi := HIX.out k x hx
      have HX := Lib.hid hx
      have h1 := u8_eq x 115 (by decide)
      have h2 := u8_eq x 99 (by decide)
      obtain ⟨p, hp⟩ : ∃ p, (x == UInt8.ofNat 115) = p := ⟨_, rfl⟩
      obtain ⟨q, hq⟩ : ∃ q, (x == UInt8.ofNat 99) = q := ⟨_, rfl⟩
      rw [hp] at h1
      rw [hq] at h2
      have HL : Hid (C.letterB x = (p || q)) := (show C.letterB x = (p || q) by rw [← hp, ← hq]; rfl)
      have h1' : ((x.toNat : Int) != 115) = !p := by rw [bne, ← h1]; rfl
      have h2' : ((x.toNat : Int) != 99) = !q := by rw [bne, ← h2]; rfl
      clear hx hp hq h1 h2
      cases p with
      | true =>
        go_wp2
        go_round
        case rel => exact ⟨k + 1, by omega, by go_num, by rw [all_step HX.out HALL.out, HL.out]; rfl⟩
        case measure => simp [intOf]; omega
      | false =>
        cases q with
        | true =>
          go_wp2
          go_round
          case rel => exact ⟨k + 1, by omega, by go_num, by rw [all_step HX.out HALL.out, HL.out]; rfl⟩
          case measure => simp [intOf]; omega
        | false =>
          go_wp2
          go_ret
          exact ⟨ret_bool (by unfold C.weatherB; rw [all_false HX.out (by rw [HL.out]; rfl)]; rfl), hE⟩
    · obtain rfl : k = s.size := by omega
      have hres : C.weatherB c T = decide ((s.size : Int) = c.days) := by
        have h := HALL.out
        rw [List.take_of_length_le (by rw [HLEN.out]; exact Nat.le_refl _)] at h
        unfold C.weatherB
        rw [h, HLEN.out]; rfl
      have HR := Lib.hid hres
      clear hres
      go_wp2
      go_ret
      exact ⟨ret_bool (by rw [HR.out]; first | rfl | (rw [Bool.eq_iff_iff]; simp)), hE⟩
end Go.Proofs.Ytkjoojmlcjmlgaa
namespace Go.Proofs.Ytkjoojmlcjmlgaa
set_option linter.unusedVariables false
set_option linter.unusedSimpArgs false
open Go.RowKit
set_option maxRecDepth 100000 in
set_option maxHeartbeats 4000000 in
theorem dsky_any (c : C.Sys) (s : ByteArray) (vl : Value) (hvl : ∃ a n k, vl = .slice a n k) (w : World) (hs : s.size ≤ 1000000) :
    Calls Try.prog 25 #[.agg (sysV c vl), .string s] w fun e w' => e = .returned (.bool (C.skyB c s.data.toList)) ∧ Ext w w' := by
  obtain ⟨al, nl, kl, rfl⟩ := hvl
  have hlen : s.data.toList.length = s.size := by simp
  obtain ⟨T, hT⟩ : ∃ T, s.data.toList = T := ⟨_, rfl⟩
  have hix := fun i x (h : T[i]? = some x) => str_at s i x (by rw [hT]; exact h)
  rw [hT] at hlen ⊢
  have HIX := Lib.hid hix
  have HLEN := Lib.hid hlen
  clear hix hlen hT
  go_enter Try.func25, Try.ntmps25
  go_wp2
  obtain ⟨w1, hw1⟩ : ∃ w1, w.alloc (.cells (sysV c (.slice al nl kl)) 24) = w1 := ⟨_, rfl⟩
  have hb : Blk w1 w.heap.size (sysV c (.slice al nl kl)) 24 := by rw [← hw1]; exact Blk.new' rfl _ _
  have hE : Ext w w1 := by rw [← hw1]; (with_reducible (repeat (first | exact Ext.refl _ | assumption | apply Ext.alloc | apply Ext.drew | exact ext_plus _ _ | (apply Ext.setCell; rotate_left; (simp <;> omega)) | (apply Ext.trans; rotate_left; exact ext_plus _ _) | (apply Ext.trans; rotate_left; assumption))))
  rw [hw1]
  clear hw1
  have hc := hb.cell
  have hl := hb.lt
  go_loop [5] (fun i => ∃ k : Nat, k ≤ s.size ∧ i = .int .i64 k ∧ (T.take k).all C.skyLetterB = true) (fun i => s.size - (intOf i).toNat)
  case atStart => exact ⟨0, Nat.zero_le _, rfl, by simp⟩
  case round =>
    obtain ⟨k, hk, rfl, hall⟩ := hrel
    have HALL := Lib.hid hall
    clear hall
    by_cases hlt : k < s.size
    · obtain ⟨x, hx⟩ : ∃ x, T[k]? = some x := ⟨_, List.getElem?_eq_getElem (by rw [HLEN.out]; exact hlt)⟩
      have hi := HIX.out k x hx
      have HX := Lib.hid hx
      have h1 := u8_eq x 115 (by decide)
      have h2 := u8_eq x 99 (by decide)
      have h3 := u8_eq x 63 (by decide)
      obtain ⟨p, hp⟩ : ∃ p, (x == UInt8.ofNat 115) = p := ⟨_, rfl⟩
      obtain ⟨q, hq⟩ : ∃ q, (x == UInt8.ofNat 99) = q := ⟨_, rfl⟩
      obtain ⟨r, hr⟩ : ∃ r, (x == UInt8.ofNat 63) = r := ⟨_, rfl⟩
      rw [hp] at h1
      rw [hq] at h2
      rw [hr] at h3
      have HL : Hid (C.skyLetterB x = (p || q || r)) := (show C.skyLetterB x = (p || q || r) by rw [← hp, ← hq, ← hr]; rfl)
      have h1' : ((x.toNat : Int) != 115) = !p := by rw [bne, ← h1]; rfl
      have h2' : ((x.toNat : Int) != 99) = !q := by rw [bne, ← h2]; rfl
      have h3' : ((x.toNat : Int) != 63) = !r := by rw [bne, ← h3]; rfl
      clear hx hp hq hr h1 h2 h3
      cases p with
      | true =>
        go_wp2
        go_round
        case rel => exact ⟨k + 1, by omega, by go_num, by rw [all_step HX.out HALL.out, HL.out]; rfl⟩
        case measure => simp [intOf]; omega
      | false =>
        cases q with
        | true =>
          go_wp2
          go_round
          case rel => exact ⟨k + 1, by omega, by go_num, by rw [all_step HX.out HALL.out, HL.out]; rfl⟩
          case measure => simp [intOf]; omega
        | false =>
          cases r with
          | true =>
            go_wp2
            go_round
            case rel => exact ⟨k + 1, by omega, by go_num, by rw [all_step HX.out HALL.out, HL.out]; rfl⟩
            case measure => simp [intOf]; omega
          | false =>
            go_wp2
            go_ret
            exact ⟨ret_bool (by unfold C.skyB; rw [all_false HX.out (by rw [HL.out]; rfl)]; rfl), hE⟩
    · obtain rfl : k = s.size := by omega
      have hres : C.skyB c T = decide ((s.size : Int) = c.days) := by
        have h := HALL.out
        rw [List.take_of_length_le (by rw [HLEN.out]; exact Nat.le_refl _)] at h
        unfold C.skyB
        rw [h, HLEN.out]; rfl
      have HR := Lib.hid hres
      clear hres
      go_wp2
      go_ret
      exact ⟨ret_bool (by rw [HR.out]; first | rfl | (rw [Bool.eq_iff_iff]; simp)), hE⟩
end Go.Proofs.Ytkjoojmlcjmlgaa
namespace Go.Proofs.Ytkjoojmlcjmlgaa
set_option linter.unusedVariables false
set_option linter.unusedSimpArgs false
open Go.RowKit
theorem loads_step {l : List C.Load} {k : Nat} (hk : k < l.length) (h : (l.take k).all C.loadB = true) : (l.take (k + 1)).all C.loadB = C.loadB l[k] := by
  rw [List.take_succ_eq_append_getElem hk, List.all_append, h]; simp
theorem loads_false {l : List C.Load} {k : Nat} (hk : k < l.length) (h : C.loadB l[k] = false) : l.all C.loadB = false := by
  rw [List.all_eq_false]
  exact ⟨_, List.getElem_mem hk, by rw [h]; decide⟩
set_option maxRecDepth 100000 in
set_option maxHeartbeats 8000000 in
theorem dsystem_any (c : C.Sys) (vl : Value) (w : World) (hL : Loads w vl c.loads) (hn : c.loads.length ≤ 1000000) :
    Calls Try.prog 37 #[.agg (sysV c vl)] w fun e w' => e = .returned (.bool (C.sysB c)) ∧ Ext w w' := by
  obtain ⟨a, cap, rfl, hx⟩ := hL
  have HX := Lib.hid hx
  clear hx
  go_enter Try.func37, Try.ntmps37
  go_wp2
  obtain ⟨w1, hw1⟩ : ∃ w1, w.alloc (.cells (sysV c (.slice a c.loads.length cap)) 24) = w1 := ⟨_, rfl⟩
  have hb : Blk w1 w.heap.size (sysV c (.slice a c.loads.length cap)) 24 := by rw [← hw1]; exact Blk.new' rfl _ _
  have hE : Ext w w1 := by rw [← hw1]; (with_reducible (repeat (first | exact Ext.refl _ | assumption | apply Ext.alloc | apply Ext.drew | exact ext_plus _ _ | (apply Ext.setCell; rotate_left; (simp <;> omega)) | (apply Ext.trans; rotate_left; exact ext_plus _ _) | (apply Ext.trans; rotate_left; assumption))))
  rw [hw1]
  clear hw1
  have hc := hb.cell
  have hl := hb.lt
  go_loop [3] (fun i => ∃ k : Nat, k ≤ c.loads.length ∧ i = .int .i64 k ∧ (c.loads.take k).all C.loadB = true) (fun i => c.loads.length - (intOf i).toNat)
  case atStart => exact ⟨0, Nat.zero_le _, rfl, by simp⟩
  case round =>
    obtain ⟨k, hk, rfl, hall⟩ := hrel
    have HALL := Lib.hid hall
    clear hall
    by_cases hlt : k < c.loads.length
    · obtain ⟨b, off, rfl, hbl, hAt⟩ := HX.out k hlt
      obtain ⟨h0, h1, h2⟩ := load_cells (ate_stays _ _ _ _ _ _ hE hbl hAt)
      have hbz := Nat.lt_of_lt_of_le hbl hE.size
      have HS := Lib.hid (loads_step hlt HALL.out)
      have HF := Lib.hid (fun h => loads_false hlt h)
      obtain ⟨l, hl'⟩ : ∃ l, c.loads[k] = l := ⟨_, rfl⟩
      rw [hl'] at h0 h1 h2 HS HF
      clear hAt hl'
      go_wp2_with (first | (go_at_call 53; refine (din_any _ _ _ _).mono ?_; rintro e w' ⟨rfl, rfl⟩))
      all_goals first
        | (refine ⟨⟨k + 1, by omega, by go_num, ?_⟩, by simp [intOf]; omega⟩; rw [HS.out]; unfold C.loadB; simp_all; done)
        | (go_ret; refine ⟨ret_bool ?_, hE⟩; have h := HF.out (by unfold C.loadB; simp_all); unfold C.sysB; rw [h]; simp; done)
        | skip
    · obtain rfl : k = c.loads.length := by omega
      have h := HALL.out
      rw [List.take_length] at h
      have HA := Lib.hid h
      clear h
      go_wp2_with (first | (go_at_call 53; refine (din_any _ _ _ _).mono ?_; rintro e w' ⟨rfl, rfl⟩))
      all_goals (go_ret; refine ⟨ret_bool ?_, hE⟩; unfold C.sysB C.headB C.restB; rw [HA.out]; simp_all)
end Go.Proofs.Ytkjoojmlcjmlgaa
namespace Go.Proofs.Ytkjoojmlcjmlgaa
set_option linter.unusedVariables false
set_option linter.unusedSimpArgs false
open Go.RowKit
theorem agrees_step {s t : List UInt8} {k : Nat} {x y : UInt8} (hx : s[k]? = some x) (hy : t[k]? = some y) (hp : C.agrees (s.take k) (t.take k) = true) :
    C.agrees (s.take (k + 1)) (t.take (k + 1)) = (y == 63 || y == x) := by
  obtain ⟨h1, rfl⟩ := List.getElem?_eq_some_iff.1 hx
  obtain ⟨h2, rfl⟩ := List.getElem?_eq_some_iff.1 hy
  unfold C.agrees at hp ⊢
  rw [List.take_succ_eq_append_getElem h1, List.take_succ_eq_append_getElem h2, List.zip_append (by simp; omega), List.all_append, hp]; simp
theorem agrees_false {s t : List UInt8} {k : Nat} {x y : UInt8} (hx : s[k]? = some x) (hy : t[k]? = some y) (hp : (y == 63 || y == x) = false) : C.agrees s t = false := by
  obtain ⟨h1, rfl⟩ := List.getElem?_eq_some_iff.1 hx
  obtain ⟨h2, rfl⟩ := List.getElem?_eq_some_iff.1 hy
  unfold C.agrees
  rw [List.all_eq_false]
  refine ⟨(s[k], t[k]), List.mem_iff_getElem.2 ⟨k, by simp; omega, by simp⟩, ?_⟩
  rw [show ((s[k], t[k]).2 == 63 || (s[k], t[k]).2 == (s[k], t[k]).1) = false from hp]; decide
theorem agrees_take {s t : List UInt8} {k : Nat} (hk : k = min s.length t.length) : C.agrees (s.take k) (t.take k) = C.agrees s t := by
  have h : (s.take k).zip (t.take k) = s.zip t := by
    apply List.ext_getElem
    · simp; omega
    · intro i h1 h2; simp
  unfold C.agrees
  rw [h]
theorem agrees_mul {s t : List UInt8} : C.agrees (s.take 0) (t.take 0) = true := rfl
set_option maxRecDepth 100000 in
set_option maxHeartbeats 4000000 in
theorem dagrees_any (s t : ByteArray) (w : World) (hs : s.size ≤ 1000000) (ht : t.size ≤ 1000000) :
    Calls Try.prog 27 #[.string s, .string t] w fun e w' => e = .returned (.bool (C.agrees s.data.toList t.data.toList && decide (s.size = t.size))) ∧ Ext w w' := by
  have hlS : s.data.toList.length = s.size := by simp
  have hlT : t.data.toList.length = t.size := by simp
  obtain ⟨S, hS⟩ : ∃ S, s.data.toList = S := ⟨_, rfl⟩
  obtain ⟨T, hT⟩ : ∃ T, t.data.toList = T := ⟨_, rfl⟩
  have HIS := Lib.hid (fun i x (h : S[i]? = some x) => str_at s i x (by rw [hS]; exact h))
  have HIT := Lib.hid (fun i x (h : T[i]? = some x) => str_at t i x (by rw [hT]; exact h))
  rw [hS] at hlS ⊢
  rw [hT] at hlT ⊢
  have HLS := Lib.hid hlS
  have HLT := Lib.hid hlT
  clear hS hT hlS hlT
  go_enter Try.func27, Try.ntmps27
  go_wp2
  go_loopw [5] (fun i wr => ∃ k : Nat, k ≤ s.size ∧ k ≤ t.size ∧ i = .int .i64 k ∧ C.agrees (S.take k) (T.take k) = true ∧ Ext w wr) (fun i _ => s.size - (intOf i).toNat)
  case atStart => exact ⟨0, Nat.zero_le _, Nat.zero_le _, rfl, agrees_mul, by (with_reducible (repeat (first | exact Ext.refl _ | assumption | apply Ext.alloc | apply Ext.drew | exact ext_plus _ _ | (apply Ext.setCell; rotate_left; (simp <;> omega)) | (apply Ext.trans; rotate_left; exact ext_plus _ _) | (apply Ext.trans; rotate_left; assumption))))⟩
  case round =>
    rename World => wr
    obtain ⟨k, hk, hk2, rfl, hall, hE⟩ := hrel
    have HALL := Lib.hid hall
    clear hall
    by_cases hlt : k < s.size
    · by_cases hlu : k < t.size
      · obtain ⟨x, hx⟩ : ∃ x, S[k]? = some x := ⟨_, List.getElem?_eq_getElem (by rw [HLS.out]; exact hlt)⟩
        obtain ⟨y, hy⟩ : ∃ y, T[k]? = some y := ⟨_, List.getElem?_eq_getElem (by rw [HLT.out]; exact hlu)⟩
        have hi := HIS.out k x hx
        have hj := HIT.out k y hy
        have HST := Lib.hid (agrees_step hx hy HALL.out)
        have HFA := Lib.hid (agrees_false hx hy)
        have h1 := u8_eq y 63 (by decide)
        have h2 : ((y.toNat : Int) == (x.toNat : Int)) = (y == x) := by
          rw [Bool.eq_iff_iff]; simp only [beq_iff_eq]
          exact ⟨fun h => UInt8.toNat_inj.1 (by omega), fun h => by rw [h]⟩
        have e63 : (y == 63) = (y == UInt8.ofNat 63) := rfl
        rw [e63] at HST HFA
        obtain ⟨p, hp⟩ : ∃ p, (y == UInt8.ofNat 63) = p := ⟨_, rfl⟩
        obtain ⟨q, hq⟩ : ∃ q, (y == x) = q := ⟨_, rfl⟩
        rw [hp] at h1 HST HFA
        rw [hq] at h2 HST HFA
        have h1' : ((y.toNat : Int) != 63) = !p := by rw [bne, ← h1]; rfl
        have h2' : ((y.toNat : Int) != (x.toNat : Int)) = !q := by rw [bne, h2]
        clear hx hy hp hq h1 h2 e63
        cases p with
        | true =>
          go_upto_region 4 with (fail)
          refine wp_region_ext 13 (fun _ _ d _ _ h => by cases d <;> exact h) (by kernel_rfl) (by kernel_rfl) (by kernel_rfl) (by kernel_rfl) ?_
          simp only [List.take_succ_cons, List.take_zero, List.drop_succ_cons, List.drop_zero]
          repeat (any_goals (first | go_big_quiet_step (fail) | quiet_step (fail)))
          all_goals (refine wpQuiet_nil ?_; intro w2 hE2)
          replace hE := hE.trans hE2
          go_wp2
          go_roundw
          case rel => exact ⟨k + 1, by omega, by omega, by go_num, by rw [HST.out]; rfl, by (with_reducible (repeat (first | exact Ext.refl _ | assumption | apply Ext.alloc | apply Ext.drew | exact ext_plus _ _ | (apply Ext.setCell; rotate_left; (simp <;> omega)) | (apply Ext.trans; rotate_left; exact ext_plus _ _) | (apply Ext.trans; rotate_left; assumption))))⟩
          case measure => simp [intOf]; omega
        | false =>
          cases q with
          | true =>
            go_upto_region 4 with (fail)
            refine wp_region_ext 13 (fun _ _ d _ _ h => by cases d <;> exact h) (by kernel_rfl) (by kernel_rfl) (by kernel_rfl) (by kernel_rfl) ?_
            simp only [List.take_succ_cons, List.take_zero, List.drop_succ_cons, List.drop_zero]
            repeat (any_goals (first | go_big_quiet_step (fail) | quiet_step (fail)))
            all_goals (refine wpQuiet_nil ?_; intro w2 hE2)
            replace hE := hE.trans hE2
            go_wp2
            go_roundw
            case rel => exact ⟨k + 1, by omega, by omega, by go_num, by rw [HST.out]; rfl, by (with_reducible (repeat (first | exact Ext.refl _ | assumption | apply Ext.alloc | apply Ext.drew | exact ext_plus _ _ | (apply Ext.setCell; rotate_left; (simp <;> omega)) | (apply Ext.trans; rotate_left; exact ext_plus _ _) | (apply Ext.trans; rotate_left; assumption))))⟩
            case measure => simp [intOf]; omega
          | false =>
            go_upto_region 4 with (fail)
            refine wp_region_ext 13 (fun _ _ d _ _ h => by cases d <;> exact h) (by kernel_rfl) (by kernel_rfl) (by kernel_rfl) (by kernel_rfl) ?_
            simp only [List.take_succ_cons, List.take_zero, List.drop_succ_cons, List.drop_zero]
            repeat (any_goals (first | go_big_quiet_step (fail) | quiet_step (fail)))
            all_goals (refine wpQuiet_nil ?_; intro w2 hE2)
            replace hE := hE.trans hE2
            go_wp2
            go_ret
            exact ⟨ret_bool (by rw [HFA.out rfl]; rfl), by (with_reducible (repeat (first | exact Ext.refl _ | assumption | apply Ext.alloc | apply Ext.drew | exact ext_plus _ _ | (apply Ext.setCell; rotate_left; (simp <;> omega)) | (apply Ext.trans; rotate_left; exact ext_plus _ _) | (apply Ext.trans; rotate_left; assumption))))⟩
      · have hr := agrees_take (s := S) (t := T) (k := k) (by rw [HLS.out, HLT.out]; omega)
        rw [HALL.out] at hr
        have HR := Lib.hid hr
        clear hr
        go_wp2
        go_ret
        exact ⟨ret_bool (by rw [← HR.out]; rw [Bool.eq_iff_iff]; simp; try omega), by (with_reducible (repeat (first | exact Ext.refl _ | assumption | apply Ext.alloc | apply Ext.drew | exact ext_plus _ _ | (apply Ext.setCell; rotate_left; (simp <;> omega)) | (apply Ext.trans; rotate_left; exact ext_plus _ _) | (apply Ext.trans; rotate_left; assumption))))⟩
    · have hr := agrees_take (s := S) (t := T) (k := k) (by rw [HLS.out, HLT.out]; omega)
      rw [HALL.out] at hr
      have HR := Lib.hid hr
      clear hr
      go_wp2
      go_ret
      exact ⟨ret_bool (by rw [← HR.out]; rw [Bool.eq_iff_iff]; simp; try omega), by (with_reducible (repeat (first | exact Ext.refl _ | assumption | apply Ext.alloc | apply Ext.drew | exact ext_plus _ _ | (apply Ext.setCell; rotate_left; (simp <;> omega)) | (apply Ext.trans; rotate_left; exact ext_plus _ _) | (apply Ext.trans; rotate_left; assumption))))⟩
end Go.Proofs.Ytkjoojmlcjmlgaa
