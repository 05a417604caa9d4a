/- A day: the loads. Bounds of all states of a system that runs. -/
import Derived.Test.YtkjoojmlcjmlgaaC5
namespace Go.Proofs.Ytkjoojmlcjmlgaa
set_option linter.unusedVariables false
set_option linter.unusedSimpArgs false
open Go.RowKit
theorem C.lat_at {l : List C.Load} {i : Nat} (h : i < l.length) : C.lat l i = l[i] := by
  unfold C.lat; rw [List.getD_eq_getElem?_getD, List.getElem?_eq_getElem h]; rfl
theorem and_one : ∀ y : Fin 32, bits BinOp.and IntKind.i64 (y.val : Int) 1 = (y.val : Int) % 2 := by decide +kernel
theorem or_table : ∀ k : Fin 5, ∀ y : Fin 16, y.val < 2 ^ k.val → bits BinOp.or IntKind.i64 (y.val : Int) (2 ^ k.val) = (y.val : Int) + 2 ^ k.val := by decide +kernel
theorem or_pow {k y : Nat} (hk : k < 5) (h : (y : Int) < 2 ^ k) : bits BinOp.or IntKind.i64 (y : Int) (2 ^ k) = (y : Int) + 2 ^ k := by
  have h1 : y < 2 ^ k := by
    have : ((y : Nat) : Int) < ((2 ^ k : Nat) : Int) := by rw [Int.natCast_pow]; exact h
    omega
  have h2 : 2 ^ k ≤ 2 ^ 4 := Nat.pow_le_pow_right (by decide) (by omega)
  exact or_table ⟨k, hk⟩ ⟨y, by omega⟩ h1
/-- The state behind the first k loads. -/
def C.ldSt (c : C.Sys) (off : Int) (s : C.St) (k : Nat) : C.St :=
  { s with e := (C.loadsTo off c.loads ⟨s.e, 0, s.used⟩ k).e, carried := (C.loadsTo off c.loads ⟨s.e, 0, s.used⟩ k).carried, used := (C.loadsTo off c.loads ⟨s.e, 0, s.used⟩ k).used }
theorem C.ldSt_zero (c : C.Sys) (off : Int) (s : C.St) : C.ldSt c off s 0 = { s with carried := 0 } := rfl
theorem C.ldSt_all (c : C.Sys) (off : Int) (s : C.St) : C.ldSt c off s c.loads.length = C.loadsSt c off s := rfl
theorem C.ldSt_succ (c : C.Sys) (off : Int) (s : C.St) {k : Nat} (h : k < c.loads.length) : C.ldSt c off s (k + 1) =
    if C.has off k = false ∧ c.loads[k].need + c.loads[k].keep ≤ (C.ldSt c off s k).e then { C.ldSt c off s k with e := (C.ldSt c off s k).e - c.loads[k].need, carried := (C.ldSt c off s k).carried + 2 ^ k, used := (C.ldSt c off s k).used + c.loads[k].need } else C.ldSt c off s k := by
  unfold C.ldSt
  rw [C.loadsTo_succ]
  unfold C.loadStep
  rw [C.lat_at h]
  dsimp only
  split <;> rfl
theorem C.ldSt_bd {c : C.Sys} (O : C.Ok c) (off : Int) {s : C.St} (B : C.Bd s) : ∀ k, k ≤ c.loads.length → 0 ≤ (C.ldSt c off s k).e ∧ (C.ldSt c off s k).e ≤ s.e ∧ 0 ≤ (C.ldSt c off s k).carried ∧ (C.ldSt c off s k).carried < 2 ^ k ∧ s.used ≤ (C.ldSt c off s k).used ∧ (C.ldSt c off s k).used + (C.ldSt c off s k).e = s.used + s.e
  | 0, _ => by
    have := B.e0
    rw [C.ldSt_zero]
    exact ⟨this, Int.le_refl _, Int.le_refl _, (show (0 : Int) < 2 ^ 0 by decide), Int.le_refl _, rfl⟩
  | k + 1, hk => by
    obtain ⟨h1, h2, h3, h4, h5, h6⟩ := C.ldSt_bd O off B k (by omega)
    have hl := O.load _ (List.getElem_mem (show k < c.loads.length by omega))
    have hp : (2 : Int) ^ (k + 1) = 2 ^ k * 2 := Int.pow_succ _ _
    have hq : (0 : Int) < 2 ^ k := Int.pow_pos (by decide)
    rw [C.ldSt_succ c off s (by omega)]
    split
    · rename_i hc
      dsimp only
      omega
    · omega
set_option maxRecDepth 100000 in
set_option maxHeartbeats 8000000 in
theorem loads_any (c : C.Sys) (vl : Value) (p b off : Int) (wt : ByteArray) (d : Int) (s : C.St) (st left : Int) (br : Nat) (w0 w : World) (hE0 : Ext w0 w) (hbr0 : w0.heap.size ≤ br) (hLs : Loads w0 vl c.loads) (O : C.Ok c) (B : C.Bd s) (ho0 : 0 ≤ off) (ho1 : off < 2 ^ c.loads.length)
    (hb : Blk w br (runV c vl p b off wt d s st left) 93) :
    Calls Try.prog 72 #[.pointer (some ⟨br, 0, none⟩)] w fun e w' => e = .returned (.tuple #[]) ∧ Blk w' br (runV c vl p b off wt d (C.loadsSt c off s) st left) 93 ∧ Off br w w' := by
  obtain ⟨al, cl, rfl, hx⟩ := hLs
  have HX := Lib.hid hx
  have hn5 := O.n5
  have HBD := Lib.hid (fun k hk => C.ldSt_bd O off B k hk)
  have e0 := B.e0; have e1 := B.e1; have q0 := B.u0; have q1 := B.u1
  have hpc := plus_cell
  have HLD := Lib.hid O.load
  have HSU := Lib.hid (fun (k : Nat) (h : k < c.loads.length) => C.ldSt_succ c off s h)
  rw [← C.ldSt_all]
  have k0 := hb.cell
  have k1 := hb.lt
  have k2 := hb.free
  clear hx
  go_enter Try.func72, Try.ntmps72
  go_upto_region 1 with (fail)
  have hb1 : Blk (w.setCell ⟨br, 17, none⟩ (.int .i64 0)) br (runV c (.slice al c.loads.length cl) p b off wt d (C.ldSt c off s 0) st left) 93 := by rw [C.ldSt_zero]; simpa using hb.set 17 (.int .i64 0)
  have hO1 : Off br w (w.setCell ⟨br, 17, none⟩ (.int .i64 0)) := (Off.refl br w).set (a := ⟨br, 17, none⟩) (.inl rfl) (.int .i64 0)
  obtain ⟨w1, hw1⟩ : ∃ w1, w.setCell ⟨br, 17, none⟩ (.int .i64 0) = w1 := ⟨_, rfl⟩
  rw [hw1] at hb1 hO1 ⊢
  clear hw1 k0 k1 k2
  have k0 := hb1.cell
  have k1 := hb1.lt
  go_wp2
  go_loopw [2, 3, 13] (fun _ _ vi wr => ∃ k : Nat, k ≤ c.loads.length ∧ vi = .int .i64 k ∧ Blk wr br (runV c (.slice al c.loads.length cl) p b off wt d (C.ldSt c off s k) st left) 93 ∧ Off br w wr) (fun _ _ vi _ => c.loads.length - (intOf vi).toNat)
  case atStart => exact ⟨0, Nat.zero_le _, rfl, hb1, hO1⟩
  case round =>
    rename World => wr
    clear k0 k1 hb1 hO1
    obtain ⟨k, hk, rfl, hbk, hO⟩ := hrel
    have hE : Ext w0 wr := hO.ext0 hE0 hbr0
    by_cases hlt : k < c.loads.length
    · obtain ⟨bl, ol, rfl, hbl, hAt⟩ := HX.out k hlt
      obtain ⟨l0, l1, l2⟩ := load_cells (ate_stays _ _ _ _ _ _ hE hbl hAt)
      have hbll := Nat.lt_of_lt_of_le hbl hE.size
      have hld := HLD.out _ (List.getElem_mem hlt)
      have hsu := HSU.out k hlt
      have hbd := HBD.out k hk
      obtain ⟨l, hl⟩ : ∃ l, c.loads[k] = l := ⟨_, rfl⟩
      rw [hl] at l0 l1 l2 hld hsu
      obtain ⟨s1, hs1⟩ : ∃ s1, C.ldSt c off s k = s1 := ⟨_, rfl⟩
      rw [hs1] at hsu hbd hbk
      have HSU2 := Lib.hid hsu
      have hbne : bl < br := Nat.lt_of_lt_of_le hbl hbr0
      have hO1' := Lib.hid ho1
      clear hAt hl hs1 hsu ho1
      have k0 := hbk.cell
      have k1 := hbk.lt
      have k2 := hbk.free
      go_upto_region 4 with (fail)
      obtain ⟨w2, hw2⟩ : ∃ w2, wr.alloc (.cells (loadV l) 45) = w2 := ⟨_, rfl⟩
      have hbL : Blk w2 wr.heap.size (loadV l) 45 := by rw [← hw2]; exact Blk.new' rfl _ _
      have hE2 : Ext wr w2 := by rw [← hw2]; (with_reducible (repeat (first | exact Ext.refl _ | assumption | apply Ext.alloc | apply Ext.drew | exact ext_plus _ _ | (apply Ext.setCell; rotate_left; (simp <;> omega)) | (apply Ext.trans; rotate_left; exact ext_plus _ _) | (apply Ext.trans; rotate_left; assumption))))
      rw [hw2]
      clear hw2 k0 k1 k2 l0 l1 l2
      obtain ⟨bL, hbLe⟩ : ∃ bL, wr.heap.size = bL := ⟨_, rfl⟩
      have hblt := hbk.lt
      rw [hbLe] at hbL hblt ⊢
      have hb2 := hbk.ext hE2
      have k0 := hb2.cell
      have k1 := hb2.lt
      have l0 := hbL.cell
      have l1 := hbL.lt
      refine wp_region_ext 20 (fun _ _ d _ _ h => by cases d <;> exact h) (by kernel_rfl) (by kernel_rfl) (by kernel_rfl) (by kernel_rfl) ?_
      simp only [List.take_succ_cons, List.take_zero, List.drop_succ_cons, List.drop_zero]
      have hk4 : k < 5 := by omega
      have hoff : 0 ≤ off / 2 ^ k ∧ off / 2 ^ k < 32 := by
        have h1 : (2 : Int) ^ c.loads.length ≤ 32 := by
          have h2 : c.loads.length ≤ 5 := hn5
          have h3 : (2 ^ c.loads.length : Nat) ≤ 2 ^ 5 := Nat.pow_le_pow_right (by decide) h2
          have h4 : ((2 ^ c.loads.length : Nat) : Int) = 2 ^ c.loads.length := by rw [Int.natCast_pow]; rfl
          omega
        have h2 := hO1'.out
        have hq : (0 : Int) < 2 ^ k := Int.pow_pos (by decide)
        exact ⟨Int.ediv_nonneg ho0 (by omega), Int.lt_of_le_of_lt (Int.ediv_le_self _ ho0) (by omega)⟩
      have hbit : (bits BinOp.and IntKind.i64 (off / 2 ^ k) 1 == 1) = C.has off k := by
        obtain ⟨y, hy⟩ := Int.eq_ofNat_of_zero_le hoff.1
        have h1 := and_one ⟨y, by omega⟩
        dsimp only at h1
        unfold C.has
        rw [hy, h1]
        rfl
      have hor0 : bits BinOp.or IntKind.i64 s1.carried (2 ^ k) = s1.carried + 2 ^ k := by
        obtain ⟨y, hy⟩ := Int.eq_ofNat_of_zero_le hbd.2.2.1
        have h4 := hbd.2.2.2.1
        rw [hy] at h4 ⊢
        exact or_pow hk4 h4
      have hwk : wrap64 (2 ^ k) = 2 ^ k := by
        have h2 : (2 ^ k : Nat) ≤ 2 ^ 4 := Nat.pow_le_pow_right (by decide) (by omega)
        have h4 : ((2 ^ k : Nat) : Int) = 2 ^ k := by rw [Int.natCast_pow]; rfl
        have hq : (0 : Int) < 2 ^ k := Int.pow_pos (by decide)
        obtain ⟨z, hz⟩ : ∃ z : Int, (2 : Int) ^ k = z := ⟨_, rfl⟩
        rw [hz] at h4 hq ⊢
        have h5 := IntWalk.i64_in z (by omega)
        first
          | exact h5
          | simpa [IntKind.wrap] using h5
          | (simp only [IntKind.wrap] at h5; exact h5)
          | (unfold wrap64; omega)
      have HOR := Lib.hid (And.intro hwk hor0)
      clear hwk
      obtain ⟨x0, x1, x2, x3, x4, x5⟩ := hbd
      clear hor0 x3
      cases hh : C.has off k with
      | true =>
        have HSU3 : Hid (C.ldSt c off s (k + 1) = s1) := by have h := HSU2.out; rw [hh] at h; exact (show C.ldSt c off s (k + 1) = s1 by simpa using h)
        rw [hh] at hbit
        repeat (any_goals (first | go_big_quiet_step (fail) | quiet_step (fail)))
        all_goals (refine wpQuiet_nil ?_; intro w3 hEw3)
        unfold wpList
        clear k0 k1 l0 l1
        go_wp2
        go_roundw
        case rel => exact ⟨k + 1, by omega, by go_num, by rw [HSU3.out]; exact hb2.ext hEw3, (hO.ext hE2).ext hEw3⟩
        case measure => simp [intOf]; omega
      | false =>
        rw [hh] at hbit
        by_cases hen : l.need + l.keep ≤ s1.e
        · have HSU3 : Hid (C.ldSt c off s (k + 1) = { s1 with e := s1.e - l.need, carried := s1.carried + 2 ^ k, used := s1.used + l.need }) := by have h := HSU2.out; rw [hh, if_pos ⟨rfl, hen⟩] at h; exact h
          have hen2 : ¬ s1.e < l.need + l.keep := by omega
          repeat (any_goals (first | go_big_quiet_step (fail) | quiet_step (fail)))
          all_goals (refine wpQuiet_nil ?_; intro w3 hEw3)
          unfold wpList
          have hb3 := hb2.ext hEw3
          have hL3 := hbL.ext hEw3
          clear k0 k1 l0 l1
          have k0 := hb3.cell
          have k1 := hb3.lt
          have k2 := hb3.free
          have l0 := hL3.cell
          have l1 := hL3.lt
          go_upto_region 5 with (fail)
          refine wp_region_ext 9 (fun _ _ d _ _ h => by cases d <;> exact h) (by kernel_rfl) (by kernel_rfl) (by kernel_rfl) (by kernel_rfl) ?_
          simp only [List.take_succ_cons, List.take_zero, List.drop_succ_cons, List.drop_zero]
          repeat (any_goals (first | go_big_quiet_step (fail) | quiet_step (fail)))
          all_goals (refine wpQuiet_nil ?_; intro w4 hEw4)
          have hb4 := hb3.ext hEw4
          have hL4 := hL3.ext hEw4
          clear k0 k1 k2 l0 l1
          have k0 := hb4.cell
          have k1 := hb4.lt
          have k2 := hb4.free
          go_upto_region 6 with (fail)
          have hb5 : Blk (w4.setCell ⟨br, 16, none⟩ (.int .i64 (s1.e - l.need))) br (runV c (.slice (some ⟨bl, ol, none⟩) c.loads.length cl) p b off wt d { s1 with e := s1.e - l.need } st left) 93 := by simpa using hb4.set 16 (.int .i64 (s1.e - l.need))
          have hL5 := hL4.other (a := ⟨br, 16, none⟩) (by simp; omega) (.int .i64 (s1.e - l.need))
          have hO5 := (((hO.ext hE2).ext hEw3).ext hEw4).set (a := ⟨br, 16, none⟩) (.inl rfl) (.int .i64 (s1.e - l.need))
          obtain ⟨w5, hw5⟩ : ∃ w5, w4.setCell ⟨br, 16, none⟩ (.int .i64 (s1.e - l.need)) = w5 := ⟨_, rfl⟩
          rw [hw5] at hb5 hL5 hO5 ⊢
          clear hw5 k0 k1 k2
          have k0 := hb5.cell
          have k1 := hb5.lt
          refine wp_region_ext 9 (fun _ _ d _ _ h => by cases d <;> exact h) (by kernel_rfl) (by kernel_rfl) (by kernel_rfl) (by kernel_rfl) ?_
          simp only [List.take_succ_cons, List.take_zero, List.drop_succ_cons, List.drop_zero]
          repeat (any_goals (first | go_big_quiet_step (fail) | quiet_step (fail)))
          all_goals (refine wpQuiet_nil ?_; intro w6 hEw6)
          have hb6 := hb5.ext hEw6
          have hL6 := hL5.ext hEw6
          clear k0 k1
          have k0 := hb6.cell
          have k1 := hb6.lt
          have k2 := hb6.free
          obtain ⟨hwk, hor⟩ := HOR.out
          go_upto_region 7 with (fail)
          (try rw [hwk])
          (try rw [hor])
          clear hor hwk
          have hb7 : Blk (w6.setCell ⟨br, 17, none⟩ (.int .i64 (s1.carried + 2 ^ k))) br (runV c (.slice (some ⟨bl, ol, none⟩) c.loads.length cl) p b off wt d { s1 with e := s1.e - l.need, carried := s1.carried + 2 ^ k } st left) 93 := by simpa using hb6.set 17 (.int .i64 (s1.carried + 2 ^ k))
          have hL7 := hL6.other (a := ⟨br, 17, none⟩) (by simp; omega) (.int .i64 (s1.carried + 2 ^ k))
          have hO7 := (hO5.ext hEw6).set (a := ⟨br, 17, none⟩) (.inl rfl) (.int .i64 (s1.carried + 2 ^ k))
          obtain ⟨w7, hw7⟩ : ∃ w7, w6.setCell ⟨br, 17, none⟩ (.int .i64 (s1.carried + 2 ^ k)) = w7 := ⟨_, rfl⟩
          rw [hw7] at hb7 hL7 hO7 ⊢
          clear hw7 k0 k1 k2
          have hbd := hb7.drew
          have hLd := hL7.drew
          refine wp_region_late 13 (fun cc y => cc = false → ((∀ o, y.cell? ⟨br, o, none⟩ = (runV c (.slice (some ⟨bl, ol, none⟩) c.loads.length cl) p b off wt d { s1 with e := s1.e - l.need, carried := s1.carried + 2 ^ k } st left : Array Value)[o]?) ∧ (∀ o, y.cell? ⟨bL, o, none⟩ = (loadV l : Array Value)[o]?))) (by kernel_rfl) (fun hL => ?_)
          refine late_early (i := 0) (v := ?_) rfl (by kernel_rfl) (by kernel_rfl) (by kernel_rfl) (by decide) (by kernel_rfl) (fun _ _ _ h => h) hL (Or.inl ⟨by rfl, ?_⟩) (fun _ => ⟨hbd.cell, hLd.cell⟩) (fun hL' => ?_)
          rotate_left
          · intro y hy; clear hy; go_simp; (try with_reducible rfl)
          clear hL; rename Shutb _ _ => hL
          (try simp only [Act.put, List.getElem_toArray, List.getElem_cons_zero, List.getElem_cons_succ, List.setIfInBounds_toArray, List.set_cons_zero, List.set_cons_succ])
          refine late_early (i := 1) (v := ?_) rfl (by kernel_rfl) (by kernel_rfl) (by kernel_rfl) (by decide) (by kernel_rfl) (fun _ _ _ h => h) hL (Or.inl ⟨by rfl, ?_⟩) (fun _ => ⟨hbd.cell, hLd.cell⟩) (fun hL' => ?_)
          rotate_left
          · intro y hy; clear hy; go_simp; (try with_reducible rfl)
          clear hL; rename Shutb _ _ => hL
          (try simp only [Act.put, List.getElem_toArray, List.getElem_cons_zero, List.getElem_cons_succ, List.setIfInBounds_toArray, List.set_cons_zero, List.set_cons_succ])
          refine late_early (i := 2) (v := ?_) rfl (by kernel_rfl) (by kernel_rfl) (by kernel_rfl) (by decide) (by kernel_rfl) (fun _ _ _ h => h) hL (Or.inl ⟨by rfl, ?_⟩) (fun _ => ⟨hbd.cell, hLd.cell⟩) (fun hL' => ?_)
          rotate_left
          · intro y hy; clear hy; go_simp; (try with_reducible rfl)
          clear hL; rename Shutb _ _ => hL
          (try simp only [Act.put, List.getElem_toArray, List.getElem_cons_zero, List.getElem_cons_succ, List.setIfInBounds_toArray, List.set_cons_zero, List.set_cons_succ])
          refine late_early (i := 3) (v := ?_) rfl (by kernel_rfl) (by kernel_rfl) (by kernel_rfl) (by decide) (by kernel_rfl) (fun _ _ _ h => h) hL (Or.inl ⟨by rfl, ?_⟩) (fun _ => ⟨hbd.cell, hLd.cell⟩) (fun hL' => ?_)
          rotate_left
          · intro y hy; clear hy; go_simp; (try with_reducible rfl)
          clear hL; rename Shutb _ _ => hL
          (try simp only [Act.put, List.getElem_toArray, List.getElem_cons_zero, List.getElem_cons_succ, List.setIfInBounds_toArray, List.set_cons_zero, List.set_cons_succ])
          refine late_early (i := 4) (v := ?_) rfl (by kernel_rfl) (by kernel_rfl) (by kernel_rfl) (by decide) (by kernel_rfl) (fun _ _ _ h => h) hL (Or.inl ⟨by rfl, ?_⟩) (fun _ => ⟨hbd.cell, hLd.cell⟩) (fun hL' => ?_)
          rotate_left
          · intro y hy; clear hy; go_simp; (try with_reducible rfl)
          clear hL; rename Shutb _ _ => hL
          (try simp only [Act.put, List.getElem_toArray, List.getElem_cons_zero, List.getElem_cons_succ, List.setIfInBounds_toArray, List.set_cons_zero, List.set_cons_succ])
          refine late_early (i := 5) (v := ?_) rfl (by kernel_rfl) (by kernel_rfl) (by kernel_rfl) (by decide) (by kernel_rfl) (fun _ _ _ h => h) hL (Or.inl ⟨by rfl, ?_⟩) (fun _ => ⟨hbd.cell, hLd.cell⟩) (fun hL' => ?_)
          rotate_left
          · intro y hy; have hz := hy rfl; clear hy; obtain ⟨g1, g2⟩ := hz; go_simp; (try with_reducible rfl)
          clear hL; rename Shutb _ _ => hL
          (try simp only [Act.put, List.getElem_toArray, List.getElem_cons_zero, List.getElem_cons_succ, List.setIfInBounds_toArray, List.set_cons_zero, List.set_cons_succ])
          refine late_early (i := 6) (v := ?_) rfl (by kernel_rfl) (by kernel_rfl) (by kernel_rfl) (by decide) (by kernel_rfl) (fun _ _ _ h => h) hL (Or.inl ⟨by rfl, ?_⟩) (fun _ => ⟨hbd.cell, hLd.cell⟩) (fun hL' => ?_)
          rotate_left
          · intro y hy; clear hy; go_simp; (try with_reducible rfl)
          clear hL; rename Shutb _ _ => hL
          (try simp only [Act.put, List.getElem_toArray, List.getElem_cons_zero, List.getElem_cons_succ, List.setIfInBounds_toArray, List.set_cons_zero, List.set_cons_succ])
          refine late_early (i := 7) (v := ?_) rfl (by kernel_rfl) (by kernel_rfl) (by kernel_rfl) (by decide) (by kernel_rfl) (fun _ _ _ h => h) hL (Or.inl ⟨by rfl, ?_⟩) (fun _ => ⟨hbd.cell, hLd.cell⟩) (fun hL' => ?_)
          rotate_left
          · intro y hy; have hz := hy rfl; clear hy; obtain ⟨g1, g2⟩ := hz; go_simp; (try with_reducible rfl)
          clear hL; rename Shutb _ _ => hL
          (try simp only [Act.put, List.getElem_toArray, List.getElem_cons_zero, List.getElem_cons_succ, List.setIfInBounds_toArray, List.set_cons_zero, List.set_cons_succ])
          refine late_one (i := 8) (by kernel_rfl) hL (fun hL' => ?_)
          refine wpOp_step rfl (fun K hK0 => ?_)
          have hK : Shut _ := hK0
          clear hK0
          go_simp
          refine hK.out _ _ ⟨fun _ => ⟨(hbd.alloc _).cell, (hLd.alloc _).cell⟩, ?_⟩
          clear hK K; clear hL; rename Shutb _ _ => hL
          (try simp only [Act.put, List.getElem_toArray, List.getElem_cons_zero, List.getElem_cons_succ, List.setIfInBounds_toArray, List.set_cons_zero, List.set_cons_succ])
          have hb8 : Blk (w7.alloc (.cells #[.int .i64 s1.used, .int .i64 l.need] 3)).drew br (runV c (.slice (some ⟨bl, ol, none⟩) c.loads.length cl) p b off wt d { s1 with e := s1.e - l.need, carried := s1.carried + 2 ^ k } st left) 93 := (hb7.alloc _).drew
          have hL8 : Blk (w7.alloc (.cells #[.int .i64 s1.used, .int .i64 l.need] 3)).drew bL (loadV l) 45 := (hL7.alloc _).drew
          have hI8 : Ints (w7.alloc (.cells #[.int .i64 s1.used, .int .i64 l.need] 3)).drew (.slice (some ⟨w7.heap.size, 0, none⟩) 2 2) [s1.used, l.need] := (two_sum w7 s1.used l.need).ext ((Ext.refl _).drew)
          have hO8 : Off br w (w7.alloc (.cells #[.int .i64 s1.used, .int .i64 l.need] 3)).drew := hO7.ext (((Ext.refl w7).alloc _).drew)
          obtain ⟨w8, hw8⟩ : ∃ w8, (w7.alloc (.cells #[.int .i64 s1.used, .int .i64 l.need] 3)).drew = w8 := ⟨_, rfl⟩
          rw [hw8] at hb8 hL8 hI8 hO8 ⊢
          clear hw8
          have hS8 : Calls Try.prog 83 #[.slice (some ⟨w7.heap.size, 0, none⟩) 2 2] w8 fun e w' => e = .returned (.int .i64 (s1.used + l.need)) ∧ w8 = w' := (sum_any _ [s1.used, l.need] w8 hI8 (by simp) (two_bd _ _ (by omega) (by omega) (by omega) (by omega))).mono fun _ _ ⟨h1, h2⟩ => ⟨by rw [h1]; simp, h2⟩
          refine late_one (i := 9) (by kernel_rfl) hL (fun hL' => ?_)
          refine wpOp_step rfl (fun K hK0 => ?_)
          have hK : Shut _ := hK0
          clear hK0
          go_simp
          go_wp2_with (first | (go_at_call 83; refine hS8.mono ?_; rintro e w' ⟨rfl, rfl⟩))
          refine hK.out _ _ ⟨fun _ => ⟨hb8.cell, hL8.cell⟩, ?_⟩
          clear hK K; clear hL; rename Shutb _ _ => hL
          (try simp only [Act.put, List.getElem_toArray, List.getElem_cons_zero, List.getElem_cons_succ, List.setIfInBounds_toArray, List.set_cons_zero, List.set_cons_succ])
          have m0 := hb8.cell
          have m1 := hb8.lt
          have m2 := hb8.free
          refine late_one (i := 10) (by kernel_rfl) hL (fun hL' => ?_)
          refine wpOp_step rfl (fun K hK0 => ?_)
          have hK : Shut _ := hK0
          clear hK0
          go_simp
          refine hK.out _ _ ⟨fun _ => ⟨hb8.cell, hL8.cell⟩, ?_⟩
          clear hK K; clear hL; rename Shutb _ _ => hL
          (try simp only [Act.put, List.getElem_toArray, List.getElem_cons_zero, List.getElem_cons_succ, List.setIfInBounds_toArray, List.set_cons_zero, List.set_cons_succ])
          refine late_one (i := 11) (by kernel_rfl) hL (fun hL' => ?_)
          refine wpOp_step rfl (fun K hK0 => ?_)
          have hK : Shut _ := hK0
          clear hK0
          go_simp
          refine hK.out _ _ ⟨fun _ => ⟨hb8.cell, hL8.cell⟩, ?_⟩
          clear hK K; clear hL; rename Shutb _ _ => hL
          (try simp only [Act.put, List.getElem_toArray, List.getElem_cons_zero, List.getElem_cons_succ, List.setIfInBounds_toArray, List.set_cons_zero, List.set_cons_succ])
          refine late_one (i := 12) (by kernel_rfl) hL (fun hL' => ?_)
          refine wpOp_step rfl (fun K hK0 => ?_)
          have hK : Shut _ := hK0
          clear hK0
          go_simp
          refine hK.out _ _ ⟨fun _ => ⟨hb8.cell, hL8.cell⟩, ?_⟩
          clear hK K; clear hL; rename Shutb _ _ => hL
          (try simp only [Act.put, List.getElem_toArray, List.getElem_cons_zero, List.getElem_cons_succ, List.setIfInBounds_toArray, List.set_cons_zero, List.set_cons_succ])
          refine late_one (i := 13) (by kernel_rfl) hL (fun hL' => ?_)
          refine wpOp_step rfl (fun K hK0 => ?_)
          have hK : Shut _ := hK0
          clear hK0
          go_simp
          refine hK.out _ _ ⟨fun e => absurd (e : true = false) (by decide), ?_⟩
          clear hK K; clear hL; rename Shutb _ _ => hL
          (try simp only [Act.put, List.getElem_toArray, List.getElem_cons_zero, List.getElem_cons_succ, List.setIfInBounds_toArray, List.set_cons_zero, List.set_cons_succ])
          refine late_done (by kernel_rfl) ?_
          (try dsimp only [Exit.then])
          have hb9 : Blk (w8.setCell ⟨br, 20, none⟩ (.int .i64 (s1.used + l.need))) br (runV c (.slice (some ⟨bl, ol, none⟩) c.loads.length cl) p b off wt d { s1 with e := s1.e - l.need, carried := s1.carried + 2 ^ k, used := s1.used + l.need } st left) 93 := by simpa using hb8.set 20 (.int .i64 (s1.used + l.need))
          have hO9 := hO8.set (a := ⟨br, 20, none⟩) (.inl rfl) (.int .i64 (s1.used + l.need))
          clear m0 m1 m2 hS8
          go_wp2
          go_roundw
          case rel => exact ⟨k + 1, by omega, by go_num, by rw [HSU3.out]; exact hb9, hO9⟩
          case measure => simp [intOf]; omega
        · have HSU3 : Hid (C.ldSt c off s (k + 1) = s1) := by have h := HSU2.out; rw [if_neg (fun e => hen e.2)] at h; exact h
          have hen2 : s1.e < l.need + l.keep := by omega
          repeat (any_goals (first | go_big_quiet_step (fail) | quiet_step (fail)))
          all_goals (refine wpQuiet_nil ?_; intro w3 hEw3)
          unfold wpList
          clear k0 k1 l0 l1
          go_wp2
          go_roundw
          case rel => exact ⟨k + 1, by omega, by go_num, by rw [HSU3.out]; exact hb2.ext hEw3, (hO.ext hE2).ext hEw3⟩
          case measure => simp [intOf]; omega
    · obtain rfl : k = c.loads.length := by omega
      go_wp2
      go_end0
      exact ⟨rfl, hbk, hO⟩
end Go.Proofs.Ytkjoojmlcjmlgaa
namespace Go.Proofs.Ytkjoojmlcjmlgaa
set_option linter.unusedVariables false
set_option linter.unusedSimpArgs false
open Go.RowKit
/-- Bounds of a state behind k days. -/
structure C.Bk (c : C.Sys) (b : Int) (k : Nat) (s : C.St) : Prop where
  e0 : 0 ≤ s.e
  e1 : s.e ≤ C.hold c b
  s0 : 0 ≤ s.sun
  s1 : s.sun ≤ 12000000 * k
  u0 : 0 ≤ s.used
  u1 : s.used ≤ 8000000 * k
  l0 : 0 ≤ s.lost
  l1 : s.lost ≤ 20000000 * k
  f0 : 0 ≤ s.faded
  f1 : s.faded ≤ 8000000 * k
theorem C.gives_bd {c : C.Sys} (O : C.Ok c) {p : Int} (hp0 : 0 ≤ p) (hp1 : p ≤ 12) (x : UInt8) : 0 ≤ C.gives c p x ∧ C.gives c p x ≤ 12000000 := by
  have h0 := O.s0; have h1 := O.s1; have h2 := O.s2
  unfold C.gives
  obtain ⟨each, heach⟩ : ∃ each, (if x = 99 then c.cloudy else c.sunny) = each := ⟨_, rfl⟩
  have hea : 0 ≤ each ∧ each ≤ 1000000 := by rw [← heach]; split <;> omega
  rw [heach]
  exact ⟨Int.mul_nonneg hea.1 hp0, by have := Int.mul_le_mul hea.2 hp1 hp0 (by omega); omega⟩
theorem C.full_bd {c : C.Sys} {b : Int} (hh : 0 ≤ C.hold c b) {n : Int} (h : 0 ≤ n) : 0 ≤ C.full c b n ∧ C.full c b n ≤ C.hold c b ∧ C.full c b n ≤ n := by
  unfold C.full; split <;> omega
theorem C.fades_bd {c : C.Sys} (O : C.Ok c) {e : Int} (h : 0 ≤ e) : 0 ≤ C.fades c e ∧ C.fades c e ≤ e := by
  have h1 : 0 ≤ e * c.fade := Int.mul_nonneg h O.f0
  have h2 : e * c.fade ≤ e * 1000 := Int.mul_le_mul_of_nonneg_left O.f1 h
  unfold C.fades
  omega
theorem C.day_bd {c : C.Sys} (O : C.Ok c) {p b : Int} (hp0 : 0 ≤ p) (hp1 : p ≤ 12) (hb0 : 0 ≤ b) (hb1 : b ≤ 8) (off : Int) {k : Nat} (hk : k ≤ 20) (x : UInt8) {s : C.St} (B : C.Bk c b k s) :
    C.Bd (C.sunSt c p b x s) ∧ C.Bd (C.loadsSt c off (C.sunSt c p b x s)) ∧ C.Bk c b (k + 1) (C.daySt c p b off x s) ∧ 0 ≤ (C.daySt c p b off x s).carried ∧ (C.daySt c p b off x s).carried < 2 ^ c.loads.length := by
  have hh := C.hold_bd O hb0 hb1
  have hg := C.gives_bd O hp0 hp1 x
  obtain ⟨e0, e1, s0, s1, u0, u1, l0, l1, f0, f1⟩ := B
  have hf := C.full_bd (c := c) (b := b) hh.1 (n := s.e + C.gives c p x) (by omega)
  have B1 : C.Bd (C.sunSt c p b x s) := by
    unfold C.sunSt
    constructor <;> dsimp only <;> omega
  have hl := C.ldSt_bd O off B1 c.loads.length (Nat.le_refl _)
  rw [C.ldSt_all] at hl
  have e2 : (C.loadsSt c off (C.sunSt c p b x s)).sun = s.sun + C.gives c p x := rfl
  have e3 : (C.loadsSt c off (C.sunSt c p b x s)).lost = s.lost + (s.e + C.gives c p x) - C.full c b (s.e + C.gives c p x) := rfl
  have e4 : (C.loadsSt c off (C.sunSt c p b x s)).faded = s.faded := rfl
  have e5 : (C.sunSt c p b x s).e = C.full c b (s.e + C.gives c p x) := rfl
  have e6 : (C.sunSt c p b x s).used = s.used := rfl
  rw [e5, e6] at hl
  obtain ⟨y, hy⟩ : ∃ y, C.loadsSt c off (C.sunSt c p b x s) = y := ⟨_, rfl⟩
  have hd : C.daySt c p b off x s = C.fadeSt c y := by unfold C.daySt; rw [hy]
  rw [hd, hy]
  rw [hy] at hl e2 e3 e4
  obtain ⟨h1, h2, h3, h4, h5, h6⟩ := hl
  have hz := C.fades_bd O h1
  refine ⟨B1, ?_, ?_, ?_, ?_⟩
  · constructor <;> omega
  · unfold C.fadeSt
    constructor <;> dsimp only <;> omega
  · exact h3
  · exact h4
theorem C.state_bd {c : C.Sys} (O : C.Ok c) {p b : Int} (hp0 : 0 ≤ p) (hp1 : p ≤ 12) (hb0 : 0 ≤ b) (hb1 : b ≤ 8) (off : Int) (w : C.Txt) : ∀ k, k ≤ 21 → C.Bk c b k (C.stateAt c p b off w k)
  | 0, _ => by
    have hh := C.start_bd O hb0 hb1
    unfold C.stateAt
    constructor <;> dsimp only <;> omega
  | k + 1, hk => (C.day_bd O hp0 hp1 hb0 hb1 off (by omega) _ (C.state_bd O hp0 hp1 hb0 hb1 off w k (by omega))).2.2.1
theorem C.Bk.bd {c : C.Sys} (O : C.Ok c) {b : Int} (hb0 : 0 ≤ b) (hb1 : b ≤ 8) {k : Nat} (hk : k ≤ 21) {s : C.St} (B : C.Bk c b k s) : C.Bd s := by
  have hh := C.hold_bd O hb0 hb1
  obtain ⟨e0, e1, s0, s1, u0, u1, l0, l1, f0, f1⟩ := B
  constructor <;> omega
theorem C.carried_bd {c : C.Sys} (O : C.Ok c) {p b : Int} (hp0 : 0 ≤ p) (hp1 : p ≤ 12) (hb0 : 0 ≤ b) (hb1 : b ≤ 8) (off : Int) (w : C.Txt) (k : Nat) (hk : k ≤ 20) : 0 ≤ (C.stateAt c p b off w (k + 1)).carried ∧ (C.stateAt c p b off w (k + 1)).carried < 2 ^ c.loads.length :=
  (C.day_bd O hp0 hp1 hb0 hb1 off hk _ (C.state_bd O hp0 hp1 hb0 hb1 off w k (by omega))).2.2.2
end Go.Proofs.Ytkjoojmlcjmlgaa
