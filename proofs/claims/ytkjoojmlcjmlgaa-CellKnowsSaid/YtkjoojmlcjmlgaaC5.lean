/- A day: the sun. A day: what fades. -/
import Derived.Test.YtkjoojmlcjmlgaaC1
namespace Go.Proofs.Ytkjoojmlcjmlgaa
set_option linter.unusedVariables false
set_option linter.unusedSimpArgs false
open Go.RowKit
theorem two_sum (w : World) (x y : Int) : Ints (w.alloc (.cells #[.int .i64 x, .int .i64 y] 3)) (.slice (some ⟨w.heap.size, 0, none⟩) 2 2) [x, y] := by
  have hB := (Blk.new w #[.int .i64 x, .int .i64 y] 3)
  refine ⟨_, _, rfl, fun i hi => ⟨w.heap.size, 0, rfl, hB.lt, ?_⟩⟩
  rw [hB.cell, Nat.zero_add]
  have hi2 : i < 2 := hi
  match i, hi2 with
  | 0, _ => rfl
  | 1, _ => rfl
theorem two_bd (x y : Int) (h1 : 0 ≤ x) (h2 : x ≤ 100000000000) (h3 : 0 ≤ y) (h4 : y ≤ 100000000000) : ∀ k, k ≤ [x, y].length → -1000000000000000 ≤ ([x, y].take k).sum ∧ ([x, y].take k).sum ≤ 1000000000000000 := by
  intro k hk
  match k, hk with
  | 0, _ => simp
  | 1, _ => simp; omega
  | 2, _ => simp; omega
theorem three_sum (w : World) (x y z : Int) : Ints (w.alloc (.cells #[.int .i64 x, .int .i64 y, .int .i64 z] 3)) (.slice (some ⟨w.heap.size, 0, none⟩) 3 3) [x, y, z] := by
  have hB := (Blk.new w #[.int .i64 x, .int .i64 y, .int .i64 z] 3)
  refine ⟨_, _, rfl, fun i hi => ⟨w.heap.size, 0, rfl, hB.lt, ?_⟩⟩
  rw [hB.cell, Nat.zero_add]
  have hi2 : i < 3 := hi
  match i, hi2 with
  | 0, _ => rfl
  | 1, _ => rfl
  | 2, _ => rfl
theorem three_bd (x y z : Int) (h1 : 0 ≤ x) (h2 : x ≤ 100000000000) (h3 : 0 ≤ y) (h4 : y ≤ 100000000000) (h5 : -100000000000 ≤ z) (h6 : z ≤ 0) : ∀ k, k ≤ [x, y, z].length → -1000000000000000 ≤ ([x, y, z].take k).sum ∧ ([x, y, z].take k).sum ≤ 1000000000000000 := by
  intro k hk
  match k, hk with
  | 0, _ => simp
  | 1, _ => simp; omega
  | 2, _ => simp; omega
  | 3, _ => simp; omega
theorem str_at (s : ByteArray) (i : Nat) (x : UInt8) (h : s.data.toList[i]? = some x) (w : World) : (Instr.index 9 (.string s) (.int .i64 (i : Int))).run Try.prog w = .ok (.int .u8 (x.toNat : Int)) w := by
  obtain ⟨hi, hx⟩ := List.getElem?_eq_some_iff.1 h
  have hs : i < s.size := by simpa using hi
  rw [run_index_string w _ _ _ _ Try.underlying9, dif_pos ⟨by omega, by omega⟩]
  have e : s[(i : Int).toNat]'(by omega) = x := by
    rw [← hx]
    simp only [Int.toNat_natCast]
    simp [ByteArray.getElem_eq_getElem_data]
  rw [e]
theorem sum2 (x y : Int) (w : World) (h1 : 0 ≤ x) (h2 : x ≤ 100000000000) (h3 : 0 ≤ y) (h4 : y ≤ 100000000000) :
    Calls Try.prog 83 #[.slice (some ⟨w.heap.size, 0, none⟩) 2 2] (w.alloc (.cells #[.int .i64 x, .int .i64 y] 3)) fun e w' => e = .returned (.int .i64 (x + y)) ∧ w.alloc (.cells #[.int .i64 x, .int .i64 y] 3) = w' :=
  (sum_any _ [x, y] _ (two_sum _ _ _) (by simp) (two_bd _ _ h1 h2 h3 h4)).mono fun _ _ ⟨h1, h2⟩ => ⟨by rw [h1]; simp, h2⟩
theorem sum3 (x y z : Int) (w : World) (h1 : 0 ≤ x) (h2 : x ≤ 100000000000) (h3 : 0 ≤ y) (h4 : y ≤ 100000000000) (h5 : -100000000000 ≤ z) (h6 : z ≤ 0) :
    Calls Try.prog 83 #[.slice (some ⟨w.heap.size, 0, none⟩) 3 3] (w.alloc (.cells #[.int .i64 x, .int .i64 y, .int .i64 z] 3)) fun e w' => e = .returned (.int .i64 (x + y + z)) ∧ w.alloc (.cells #[.int .i64 x, .int .i64 y, .int .i64 z] 3) = w' :=
  (sum_any _ [x, y, z] _ (three_sum _ _ _ _) (by simp) (three_bd _ _ _ h1 h2 h3 h4 h5 h6)).mono fun _ _ ⟨h1, h2⟩ => ⟨by rw [h1]; simp [Int.add_assoc], h2⟩
theorem min_if (a b : Int) : min a b = if a < b then a else b := by split <;> omega
/-- Bounds of a state. -/
structure C.Bd (s : C.St) : Prop where
  e0 : 0 ≤ s.e
  e1 : s.e ≤ 8000000
  s0 : 0 ≤ s.sun
  s1 : s.sun ≤ 10000000000
  u0 : 0 ≤ s.used
  u1 : s.used ≤ 10000000000
  l0 : 0 ≤ s.lost
  l1 : s.lost ≤ 10000000000
  f0 : 0 ≤ s.faded
  f1 : s.faded ≤ 10000000000
set_option maxRecDepth 100000 in
set_option maxHeartbeats 8000000 in
theorem sun_any (c : C.Sys) (vl : Value) (p b off : Int) (wt : ByteArray) (d : Nat) (s : C.St) (st left : Int) (br : Nat) (w : World) (O : C.Ok c) (hp0 : 0 ≤ p) (hp1 : p ≤ 12) (h2 : 0 ≤ b) (h3 : b ≤ 8) (B : C.Bd s)
    (x : UInt8) (hd : wt.data.toList[d]? = some x) (hd6 : d ≤ 1000) (hb : Blk w br (runV c vl p b off wt d s st left) 93) :
    Calls Try.prog 71 #[.pointer (some ⟨br, 0, none⟩)] w fun e w' => e = .returned (.tuple #[]) ∧ Blk w' br (runV c vl p b off wt d (C.sunSt c p b x s) st left) 93 ∧ Off br w w' := by
  have hH := fun s' st' w' hb => hold_any c vl p b off wt d s' st' left br w' O.z0 O.z1 h2 h3 hb
  have hhb := C.hold_bd O h2 h3
  have hc0 := O.s0; have hc1 := O.s1; have hc2 := O.s2
  have hpc := plus_cell
  have hix := str_at wt d x hd
  obtain ⟨each, heach⟩ : ∃ each, (if x = 99 then c.cloudy else c.sunny) = each := ⟨_, rfl⟩
  have hea : 0 ≤ each ∧ each ≤ 1000000 := by rw [← heach]; split <;> omega
  have hgp : 0 ≤ each * p ∧ each * p ≤ 12000000 := ⟨Int.mul_nonneg hea.1 hp0, by have := Int.mul_le_mul hea.2 hp1 hp0 (by omega); omega⟩
  have hG : C.gives c p x = each * p := by unfold C.gives; rw [heach]
  obtain ⟨G, hGG⟩ : ∃ G, each * p = G := ⟨_, rfl⟩
  have hwG : IntKind.wrap .i64 (each * p) = each * p := IntWalk.i64_in _ (by omega)
  rw [hGG] at hG hgp hwG
  have e0 := B.e0; have e1 := B.e1; have q0 := B.s0; have q1 := B.s1; have q2 := B.l0; have q3 := B.l1
  obtain ⟨F, hF⟩ : ∃ F, C.full c b (s.e + G) = F := ⟨_, rfl⟩
  have hFd : F = if s.e + G < C.hold c b then s.e + G else C.hold c b := hF.symm
  have hF0 : 0 ≤ F ∧ F ≤ 8000000 := by rw [hFd]; split <;> omega
  have hres : C.sunSt c p b x s = { s with e := F, sun := s.sun + G, lost := s.lost + (s.e + G) + -F } := by unfold C.sunSt; rw [hG, hF]; simp only [Int.sub_eq_add_neg]
  rw [hres]
  obtain ⟨Hh, hHh⟩ : ∃ Hh, C.hold c b = Hh := ⟨_, rfl⟩
  simp only [hHh] at hH
  rw [hHh] at hFd hhb
  have HH := Lib.hid hH
  have HFD := Lib.hid hFd
  have HEA := Lib.hid heach
  have HGG := Lib.hid hGG
  clear hH hF hFd hres hHh hG heach B
  have k0 := hb.cell
  have k1 := hb.lt
  have k2 := hb.free
  have main : ∀ (v : Bool), ((x.toNat : Int) == 99) = v → (if v then c.cloudy else c.sunny) = each → Calls Try.prog 71 #[.pointer (some ⟨br, 0, none⟩)] w fun e w' => e = .returned (.tuple #[]) ∧ Blk w' br (runV c vl p b off wt d { s with e := F, sun := s.sun + G, lost := s.lost + (s.e + G) + -F } st left) 93 ∧ Off br w w' := by
    intro v hv hev
    have HEV := Lib.hid hev
    clear hev
    go_enter Try.func71, Try.ntmps71
    go_upto_region 1 with (fail)
    refine wp_region_ext 10 (fun _ _ d _ _ h => by cases d <;> exact h) (by kernel_rfl) (by kernel_rfl) (by kernel_rfl) (by kernel_rfl) ?_
    simp only [List.take_succ_cons, List.take_zero, List.drop_succ_cons, List.drop_zero]
    repeat (any_goals (first | go_big_quiet_step (fail) | quiet_step (fail)))
    refine wpQuiet_nil ?_
    intro w2 hE2
    unfold wpList
    have hb2 := hb.ext hE2
    clear k0 k1 k2
    have k0 := hb2.cell
    have k1 := hb2.lt
    have k2 := hb2.free
    go_upto_if 19 with (fail)
    go_cut [2] from 20 to 24 (fun s2 wc => s2 = .int .i64 each ∧ wc = w2)
    case first =>
      cases v with
      | true =>
        have hcl : c.cloudy = each := HEV.out
        go_wp2
        go_meet
        exact ⟨by first | rfl | rw [hcl], rfl⟩
      | false =>
        have hcl : c.sunny = each := HEV.out
        go_wp2
        go_meet
        exact ⟨by first | rfl | rw [hcl], rfl⟩
    case rest =>
    obtain ⟨rfl, rfl⟩ := hcut
    rename World => w2
    have hgg := HGG.out
    go_upto_region 4 with (fail)
    clear hgg hwG
    go_upto_region 5 with (first | (go_at_call 83; refine (sum2 _ _ _ (by omega) (by omega) (by omega) (by omega)).mono ?_; rintro e w' ⟨rfl, rfl⟩))
    obtain ⟨w3, hw3⟩ : ∃ w3, w2.alloc (.cells #[.int .i64 s.e, .int .i64 G] 3) = w3 := ⟨_, rfl⟩
    have hE3 : Ext w2 w3 := by rw [← hw3]; (with_reducible (repeat (first | exact Ext.refl _ | assumption | apply Ext.alloc | apply Ext.drew | exact ext_plus _ _ | (apply Ext.setCell; rotate_left; (simp <;> omega)) | (apply Ext.trans; rotate_left; exact ext_plus _ _) | (apply Ext.trans; rotate_left; assumption))))
    rw [hw3]
    clear hw3 k0 k1 k2
    have hb3 := hb2.ext hE3
    go_upto_region 6 with (first | (go_at_call 70; refine (HH.out _ _ _ hb3).mono ?_; rintro e w4 ⟨rfl, hE4⟩; have hb4 := hb3.ext hE4; have m0 := hb4.cell; have m1 := hb4.lt; have m2 := hb4.free))
    have hmn : (if Hh < s.e + G then Hh else s.e + G) = F := by rw [HFD.out]; split <;> split <;> omega
    rw [hmn]
    clear hmn
    have hb5 : Blk (w4.setCell ⟨br, 16, none⟩ (.int .i64 F)) br (runV c vl p b off wt d { s with e := F } st left) 93 := by simpa using hb4.set 16 (.int .i64 F)
    have hO5 : Off br w (w4.setCell ⟨br, 16, none⟩ (.int .i64 F)) := (((hE2.trans hE3).trans hE4).off br).set (a := ⟨br, 16, none⟩) (.inl rfl) (.int .i64 F)
    obtain ⟨w5, hw5⟩ : ∃ w5, w4.setCell ⟨br, 16, none⟩ (.int .i64 F) = w5 := ⟨_, rfl⟩
    rw [hw5] at hb5 hO5 ⊢
    clear hw5 m0 m1 m2 hE2 hE3 hE4
    have m0 := hb5.cell
    have m1 := hb5.lt
    have m2 := hb5.free
    go_upto_region 7 with (first | (go_at_call 83; refine (sum2 _ _ _ (by omega) (by omega) (by omega) (by omega)).mono ?_; rintro e w' ⟨rfl, rfl⟩))
    have hb6 : Blk ((w5.setCell ⟨br, 19, none⟩ (.int .i64 (s.sun + G))).alloc (.cells #[.int .i64 s.sun, .int .i64 G] 3)) br (runV c vl p b off wt d { s with e := F, sun := s.sun + G } st left) 93 := by have h := hb5.set 19 (.int .i64 (s.sun + G)); exact Blk.alloc (by simpa using h) _
    have hO6 := (hO5.set (a := ⟨br, 19, none⟩) (.inl rfl) (.int .i64 (s.sun + G))).ext ((Ext.refl _).alloc (.cells #[.int .i64 s.sun, .int .i64 G] 3))
    obtain ⟨w6, hw6⟩ : ∃ w6, (w5.setCell ⟨br, 19, none⟩ (.int .i64 (s.sun + G))).alloc (.cells #[.int .i64 s.sun, .int .i64 G] 3) = w6 := ⟨_, rfl⟩
    rw [hw6] at hb6 hO6 ⊢
    clear hw6 m0 m1 m2 hO5
    have hbd := hb6.drew
    have hwn : IntKind.wrap .i64 (-F) = -F := IntWalk.i64_in _ (by omega)
    refine wp_region_late 17 (fun cc y => cc = false → ∀ o, y.cell? ⟨br, o, none⟩ = (runV c vl p b off wt d { s with e := F, sun := s.sun + G } st left : Array Value)[o]?) (by kernel_rfl) (fun hL => ?_)
    refine late_early (i := 0) (v := ?_) rfl (by kernel_rfl) (by kernel_rfl) (by kernel_rfl) (by decide) (by kernel_rfl) (fun _ _ _ h => h) hL (Or.inl ⟨by rfl, ?_⟩) (fun _ => hbd.cell) (fun hL' => ?_)
    rotate_left
    · intro y hy; clear hy; go_simp; (try with_reducible rfl)
    clear hL; rename Shutb _ _ => hL
    (try simp only [Act.put, List.getElem_toArray, List.getElem_cons_zero, List.getElem_cons_succ, List.setIfInBounds_toArray, List.set_cons_zero, List.set_cons_succ])
    refine late_early (i := 1) (v := ?_) rfl (by kernel_rfl) (by kernel_rfl) (by kernel_rfl) (by decide) (by kernel_rfl) (fun _ _ _ h => h) hL (Or.inl ⟨by rfl, ?_⟩) (fun _ => hbd.cell) (fun hL' => ?_)
    rotate_left
    · intro y hy; clear hy; go_simp; (try with_reducible rfl)
    clear hL; rename Shutb _ _ => hL
    (try simp only [Act.put, List.getElem_toArray, List.getElem_cons_zero, List.getElem_cons_succ, List.setIfInBounds_toArray, List.set_cons_zero, List.set_cons_succ])
    refine late_early (i := 2) (v := ?_) rfl (by kernel_rfl) (by kernel_rfl) (by kernel_rfl) (by decide) (by kernel_rfl) (fun _ _ _ h => h) hL (Or.inl ⟨by rfl, ?_⟩) (fun _ => hbd.cell) (fun hL' => ?_)
    rotate_left
    · intro y hy; clear hy; go_simp; (try with_reducible rfl)
    clear hL; rename Shutb _ _ => hL
    (try simp only [Act.put, List.getElem_toArray, List.getElem_cons_zero, List.getElem_cons_succ, List.setIfInBounds_toArray, List.set_cons_zero, List.set_cons_succ])
    refine late_early (i := 3) (v := ?_) rfl (by kernel_rfl) (by kernel_rfl) (by kernel_rfl) (by decide) (by kernel_rfl) (fun _ _ _ h => h) hL (Or.inl ⟨by rfl, ?_⟩) (fun _ => hbd.cell) (fun hL' => ?_)
    rotate_left
    · intro y hy; clear hy; go_simp; (try with_reducible rfl)
    clear hL; rename Shutb _ _ => hL
    (try simp only [Act.put, List.getElem_toArray, List.getElem_cons_zero, List.getElem_cons_succ, List.setIfInBounds_toArray, List.set_cons_zero, List.set_cons_succ])
    refine late_early (i := 4) (v := ?_) rfl (by kernel_rfl) (by kernel_rfl) (by kernel_rfl) (by decide) (by kernel_rfl) (fun _ _ _ h => h) hL (Or.inl ⟨by rfl, ?_⟩) (fun _ => hbd.cell) (fun hL' => ?_)
    rotate_left
    · intro y hy; clear hy; go_simp; (try with_reducible rfl)
    clear hL; rename Shutb _ _ => hL
    (try simp only [Act.put, List.getElem_toArray, List.getElem_cons_zero, List.getElem_cons_succ, List.setIfInBounds_toArray, List.set_cons_zero, List.set_cons_succ])
    refine late_early (i := 5) (v := ?_) rfl (by kernel_rfl) (by kernel_rfl) (by kernel_rfl) (by decide) (by kernel_rfl) (fun _ _ _ h => h) hL (Or.inl ⟨by rfl, ?_⟩) (fun _ => hbd.cell) (fun hL' => ?_)
    rotate_left
    · intro y hy; have g1 := hy rfl; go_simp; (try with_reducible rfl)
    clear hL; rename Shutb _ _ => hL
    (try simp only [Act.put, List.getElem_toArray, List.getElem_cons_zero, List.getElem_cons_succ, List.setIfInBounds_toArray, List.set_cons_zero, List.set_cons_succ])
    refine late_early (i := 6) (v := ?_) rfl (by kernel_rfl) (by kernel_rfl) (by kernel_rfl) (by decide) (by kernel_rfl) (fun _ _ _ h => h) hL (Or.inl ⟨by rfl, ?_⟩) (fun _ => hbd.cell) (fun hL' => ?_)
    rotate_left
    · intro y hy; clear hy; go_simp; (try with_reducible rfl)
    clear hL; rename Shutb _ _ => hL
    (try simp only [Act.put, List.getElem_toArray, List.getElem_cons_zero, List.getElem_cons_succ, List.setIfInBounds_toArray, List.set_cons_zero, List.set_cons_succ])
    refine late_early (i := 7) (v := ?_) rfl (by kernel_rfl) (by kernel_rfl) (by kernel_rfl) (by decide) (by kernel_rfl) (fun _ _ _ h => h) hL (Or.inl ⟨by rfl, ?_⟩) (fun _ => hbd.cell) (fun hL' => ?_)
    rotate_left
    · intro y hy; clear hy; go_simp; (try with_reducible rfl)
    clear hL; rename Shutb _ _ => hL
    (try simp only [Act.put, List.getElem_toArray, List.getElem_cons_zero, List.getElem_cons_succ, List.setIfInBounds_toArray, List.set_cons_zero, List.set_cons_succ])
    refine late_early (i := 8) (v := ?_) rfl (by kernel_rfl) (by kernel_rfl) (by kernel_rfl) (by decide) (by kernel_rfl) (fun _ _ _ h => h) hL (Or.inl ⟨by rfl, ?_⟩) (fun _ => hbd.cell) (fun hL' => ?_)
    rotate_left
    · intro y hy; clear hy; go_simp; (try with_reducible rfl)
    clear hL; rename Shutb _ _ => hL
    (try simp only [Act.put, List.getElem_toArray, List.getElem_cons_zero, List.getElem_cons_succ, List.setIfInBounds_toArray, List.set_cons_zero, List.set_cons_succ])
    refine late_early (i := 9) (v := ?_) rfl (by kernel_rfl) (by kernel_rfl) (by kernel_rfl) (by decide) (by kernel_rfl) (fun _ _ _ h => h) hL (Or.inl ⟨by rfl, ?_⟩) (fun _ => hbd.cell) (fun hL' => ?_)
    rotate_left
    · intro y hy; clear hy; go_simp; (try with_reducible rfl)
    clear hL; rename Shutb _ _ => hL
    (try simp only [Act.put, List.getElem_toArray, List.getElem_cons_zero, List.getElem_cons_succ, List.setIfInBounds_toArray, List.set_cons_zero, List.set_cons_succ])
    refine late_early (i := 10) (v := ?_) rfl (by kernel_rfl) (by kernel_rfl) (by kernel_rfl) (by decide) (by kernel_rfl) (fun _ _ _ h => h) hL (Or.inl ⟨by rfl, ?_⟩) (fun _ => hbd.cell) (fun hL' => ?_)
    rotate_left
    · intro y hy; have g1 := hy rfl; go_simp; (try with_reducible rfl)
    clear hL; rename Shutb _ _ => hL
    (try simp only [Act.put, List.getElem_toArray, List.getElem_cons_zero, List.getElem_cons_succ, List.setIfInBounds_toArray, List.set_cons_zero, List.set_cons_succ])
    refine late_early (i := 11) (v := ?_) rfl (by kernel_rfl) (by kernel_rfl) (by kernel_rfl) (by decide) (by kernel_rfl) (fun _ _ _ h => h) hL (Or.inl ⟨by rfl, ?_⟩) (fun _ => hbd.cell) (fun hL' => ?_)
    rotate_left
    · intro y hy; clear hy; go_simp; (try with_reducible rfl)
    clear hL; rename Shutb _ _ => hL
    (try simp only [Act.put, List.getElem_toArray, List.getElem_cons_zero, List.getElem_cons_succ, List.setIfInBounds_toArray, List.set_cons_zero, List.set_cons_succ])
    refine late_one (i := 12) (by kernel_rfl) hL (fun hL' => ?_)
    refine wpOp_step rfl (fun K hK0 => ?_)
    have hK : Shut _ := hK0
    clear hK0
    go_simp
    refine hK.out _ _ ⟨fun _ => (hbd.alloc _).cell, ?_⟩
    clear hK K; clear hL; rename Shutb _ _ => hL
    (try simp only [Act.put, List.getElem_toArray, List.getElem_cons_zero, List.getElem_cons_succ, List.setIfInBounds_toArray, List.set_cons_zero, List.set_cons_succ])
    have hb7 : Blk (w6.alloc (.cells #[.int .i64 s.lost, .int .i64 (s.e + G), .int .i64 (-F)] 3)).drew br (runV c vl p b off wt d { s with e := F, sun := s.sun + G } st left) 93 := (hb6.alloc _).drew
    have hI7 : Ints (w6.alloc (.cells #[.int .i64 s.lost, .int .i64 (s.e + G), .int .i64 (-F)] 3)).drew (.slice (some ⟨w6.heap.size, 0, none⟩) 3 3) [s.lost, s.e + G, -F] := (three_sum w6 s.lost (s.e + G) (-F)).ext ((Ext.refl _).drew)
    have hO7 : Off br w (w6.alloc (.cells #[.int .i64 s.lost, .int .i64 (s.e + G), .int .i64 (-F)] 3)).drew := hO6.ext (((Ext.refl w6).alloc _).drew)
    obtain ⟨w7, hw7⟩ : ∃ w7, (w6.alloc (.cells #[.int .i64 s.lost, .int .i64 (s.e + G), .int .i64 (-F)] 3)).drew = w7 := ⟨_, rfl⟩
    rw [hw7] at hb7 hI7 hO7 ⊢
    clear hw7
    have hS7 : Calls Try.prog 83 #[.slice (some ⟨w6.heap.size, 0, none⟩) 3 3] w7 fun e w' => e = .returned (.int .i64 (s.lost + (s.e + G) + -F)) ∧ w7 = w' := (sum_any _ [s.lost, s.e + G, -F] w7 hI7 (by simp) (three_bd _ _ _ (by omega) (by omega) (by omega) (by omega) (by omega) (by omega))).mono fun _ _ ⟨h1, h2⟩ => ⟨by rw [h1]; simp [Int.add_assoc], h2⟩
    refine late_one (i := 13) (by kernel_rfl) hL (fun hL' => ?_)
    refine wpOp_step rfl (fun K hK0 => ?_)
    have hK : Shut _ := hK0
    clear hK0
    go_simp
    go_wp2_with (first | (go_at_call 83; refine hS7.mono ?_; rintro e w' ⟨rfl, rfl⟩))
    refine hK.out _ _ ⟨fun _ => hb7.cell, ?_⟩
    clear hK K; clear hL; rename Shutb _ _ => hL
    (try simp only [Act.put, List.getElem_toArray, List.getElem_cons_zero, List.getElem_cons_succ, List.setIfInBounds_toArray, List.set_cons_zero, List.set_cons_succ])
    have m0 := hb7.cell
    have m1 := hb7.lt
    have m2 := hb7.free
    refine late_one (i := 14) (by kernel_rfl) hL (fun hL' => ?_)
    refine wpOp_step rfl (fun K hK0 => ?_)
    have hK : Shut _ := hK0
    clear hK0
    go_simp
    refine hK.out _ _ ⟨fun _ => hb7.cell, ?_⟩
    clear hK K; clear hL; rename Shutb _ _ => hL
    (try simp only [Act.put, List.getElem_toArray, List.getElem_cons_zero, List.getElem_cons_succ, List.setIfInBounds_toArray, List.set_cons_zero, List.set_cons_succ])
    refine late_one (i := 15) (by kernel_rfl) hL (fun hL' => ?_)
    refine wpOp_step rfl (fun K hK0 => ?_)
    have hK : Shut _ := hK0
    clear hK0
    go_simp
    refine hK.out _ _ ⟨fun _ => hb7.cell, ?_⟩
    clear hK K; clear hL; rename Shutb _ _ => hL
    (try simp only [Act.put, List.getElem_toArray, List.getElem_cons_zero, List.getElem_cons_succ, List.setIfInBounds_toArray, List.set_cons_zero, List.set_cons_succ])
    refine late_one (i := 16) (by kernel_rfl) hL (fun hL' => ?_)
    refine wpOp_step rfl (fun K hK0 => ?_)
    have hK : Shut _ := hK0
    clear hK0
    go_simp
    refine hK.out _ _ ⟨fun _ => hb7.cell, ?_⟩
    clear hK K; clear hL; rename Shutb _ _ => hL
    (try simp only [Act.put, List.getElem_toArray, List.getElem_cons_zero, List.getElem_cons_succ, List.setIfInBounds_toArray, List.set_cons_zero, List.set_cons_succ])
    refine late_one (i := 17) (by kernel_rfl) hL (fun hL' => ?_)
    refine wpOp_step rfl (fun K hK0 => ?_)
    have hK : Shut _ := hK0
    clear hK0
    go_simp
    refine hK.out _ _ ⟨fun e => absurd (e : true = false) (by decide), ?_⟩
    clear hK K; clear hL; rename Shutb _ _ => hL
    (try simp only [Act.put, List.getElem_toArray, List.getElem_cons_zero, List.getElem_cons_succ, List.setIfInBounds_toArray, List.set_cons_zero, List.set_cons_succ])
    refine late_done (by kernel_rfl) ?_
    (try dsimp only [Exit.then])
    have hb8 : Blk (w7.setCell ⟨br, 21, none⟩ (.int .i64 (s.lost + (s.e + G) + -F))) br (runV c vl p b off wt d { s with e := F, sun := s.sun + G, lost := s.lost + (s.e + G) + -F } st left) 93 := by simpa using hb7.set 21 (.int .i64 (s.lost + (s.e + G) + -F))
    have hO8 := hO7.set (a := ⟨br, 21, none⟩) (.inl rfl) (.int .i64 (s.lost + (s.e + G) + -F))
    clear m0 m1 m2 hS7
    go_wp2
    go_end0
    exact ⟨rfl, hb8, hO8⟩
  rcases (Decidable.em (x = 99)) with hx | hx
  · refine main true ?_ ?_
    · subst hx; decide
    · have := HEA.out; rw [if_pos hx] at this; simpa using this
  · refine main false ?_ ?_
    · have hne : x.toNat ≠ 99 := fun h => hx (UInt8.toNat_inj.1 (by simpa using h))
      simp; omega
    · have := HEA.out; rw [if_neg hx] at this; simpa using this
end Go.Proofs.Ytkjoojmlcjmlgaa
namespace Go.Proofs.Ytkjoojmlcjmlgaa
set_option linter.unusedVariables false
set_option linter.unusedSimpArgs false
open Go.RowKit
set_option maxRecDepth 100000 in
set_option maxHeartbeats 8000000 in
theorem fades_any (c : C.Sys) (vl : Value) (p b off : Int) (wt : ByteArray) (d : Int) (s : C.St) (st left : Int) (br : Nat) (w : World) (O : C.Ok c) (B : C.Bd s)
    (hb : Blk w br (runV c vl p b off wt d s st left) 93) :
    Calls Try.prog 73 #[.pointer (some ⟨br, 0, none⟩)] w fun e w' => e = .returned (.tuple #[]) ∧ Blk w' br (runV c vl p b off wt d (C.fadeSt c s) st left) 93 ∧ Off br w w' := by
  have hf0 := O.f0; have hf1 := O.f1
  have hpc := plus_cell
  have e0 := B.e0; have e1 := B.e1; have q0 := B.f0; have q1 := B.f1
  have hm : 0 ≤ s.e * c.fade ∧ s.e * c.fade ≤ 8000000000 := ⟨Int.mul_nonneg e0 hf0, by have := Int.mul_le_mul e1 hf1 hf0 (by omega); omega⟩
  have hmb : s.e * c.fade ≤ s.e * 1000 := Int.mul_le_mul_of_nonneg_left hf1 e0
  have hwm : IntKind.wrap .i64 (s.e * c.fade) = s.e * c.fade := IntWalk.i64_in _ (by omega)
  have hF : C.fades c s.e = s.e * c.fade / 1000 := rfl
  obtain ⟨M, hM⟩ : ∃ M, s.e * c.fade = M := ⟨_, rfl⟩
  rw [hM] at hm hmb hwm hF
  obtain ⟨F, hFF⟩ : ∃ F, C.fades c s.e = F := ⟨_, rfl⟩
  have hres : C.fadeSt c s = { s with e := s.e - F, faded := s.faded + F } := by unfold C.fadeSt; rw [hFF]
  rw [hres]
  rw [hFF] at hF
  have hF0 : 0 ≤ F ∧ F ≤ s.e := by omega
  have HF := Lib.hid hF
  clear hres hFF hF B
  have k0 := hb.cell
  have k1 := hb.lt
  have k2 := hb.free
  go_enter Try.func73, Try.ntmps73
  go_upto_region 0 with (fail)
  refine wp_region_ext 11 (fun _ _ d _ _ h => by cases d <;> exact h) (by kernel_rfl) (by kernel_rfl) (by kernel_rfl) (by kernel_rfl) ?_
  simp only [List.take_succ_cons, List.take_zero, List.drop_succ_cons, List.drop_zero]
  repeat (any_goals (first | go_big_quiet_step (fail) | quiet_step (fail)))
  all_goals (refine wpQuiet_nil ?_; intro w2 hE2)
  have hb2 := hb.ext hE2
  clear k0 k1 k2
  have k0 := hb2.cell
  have k1 := hb2.lt
  have k2 := hb2.free
  rw [← HF.out]
  go_upto_region 2 with (fail)
  have hb3 : Blk (w2.setCell ⟨br, 16, none⟩ (.int .i64 (s.e - F))) br (runV c vl p b off wt d { s with e := s.e - F } st left) 93 := by simpa using hb2.set 16 (.int .i64 (s.e - F))
  have hO3 := (hE2.off br).set (a := ⟨br, 16, none⟩) (.inl rfl) (.int .i64 (s.e - F))
  obtain ⟨w3, hw3⟩ : ∃ w3, w2.setCell ⟨br, 16, none⟩ (.int .i64 (s.e - F)) = w3 := ⟨_, rfl⟩
  rw [hw3] at hb3 hO3 ⊢
  clear hw3 k0 k1 k2
  have k0 := hb3.cell
  have k1 := hb3.lt
  have k2 := hb3.free
  go_wp2_with (first | (go_at_call 83; refine (sum2 _ _ _ (by omega) (by omega) (by omega) (by omega)).mono ?_; rintro e w' ⟨rfl, rfl⟩))
  go_end0
  have hb4 : Blk ((w3.setCell ⟨br, 22, none⟩ (.int .i64 (s.faded + F))).alloc (.cells #[.int .i64 s.faded, .int .i64 F] 3)) br (runV c vl p b off wt d { s with e := s.e - F, faded := s.faded + F } st left) 93 := by
    have h := hb3.set 22 (.int .i64 (s.faded + F))
    exact Blk.alloc (by simpa using h) _
  exact ⟨rfl, hb4, (hO3.set (a := ⟨br, 22, none⟩) (.inl rfl) (.int .i64 (s.faded + F))).ext ((Ext.refl _).alloc _)⟩
end Go.Proofs.Ytkjoojmlcjmlgaa
