/- The example: known() returns true. -/
import Derived.Test.YtkjoojmlcjmlgaaK1
namespace Go.Proofs.Ytkjoojmlcjmlgaa
set_option linter.unusedVariables false
set_option linter.unusedSimpArgs false
open Go.RowKit
theorem led_same (w : World) : (binOp .neq 29 (.agg #[.int .i64 400, .int .i64 480, .int .i64 540, .int .i64 200, .int .i64 4, .int .i64 136]) (.agg #[.int .i64 400, .int .i64 480, .int .i64 540, .int .i64 200, .int .i64 4, .int .i64 136])).run Try.prog w = .ok (.bool false) w := by
  kernel_rfl
theorem fault_same (w : World) : (binOp .eql 62 (.agg #[.string ⟨#[115, 115, 99, 99]⟩, .int .i64 3, .int .i64 0]) (.agg #[.string ⟨#[115, 115, 99, 99]⟩, .int .i64 3, .int .i64 0])).run Try.prog w = .ok (.bool true) w := by
  kernel_rfl
theorem days_four {w : World} {b : Nat} {e : TypeId} {a1 a2 a3 a4 a5 a6 a7 a8 : Int} (h : Blk w b #[.int .i64 a1, .int .i64 a2, .int .i64 a3, .int .i64 a4, .int .i64 a5, .int .i64 a6, .int .i64 a7, .int .i64 a8] e) : Days w (.slice (some ⟨b, 0, none⟩) 4 4) [⟨a1, a2⟩, ⟨a3, a4⟩, ⟨a5, a6⟩, ⟨a7, a8⟩] := by
  refine ⟨_, 4, rfl, fun i hi => ⟨b, 0, rfl, h.lt, fun j u hu => ?_⟩⟩
  rw [h.cell]
  have hi4 : i < 4 := hi
  match i, hi4 with
  | 0, _ => match j with
    | 0 => exact hu
    | 1 => exact hu
    | j + 2 => simp [dayC] at hu
  | 1, _ => match j with
    | 0 => exact hu
    | 1 => exact hu
    | j + 2 => simp [dayC] at hu
  | 2, _ => match j with
    | 0 => exact hu
    | 1 => exact hu
    | j + 2 => simp [dayC] at hu
  | 3, _ => match j with
    | 0 => exact hu
    | 1 => exact hu
    | j + 2 => simp [dayC] at hu
theorem ints_two {w : World} {b : Nat} {e : TypeId} {x y : Int} (h : Blk w b #[.int .i64 x, .int .i64 y] e) : Ints w (.slice (some ⟨b, 0, none⟩) 2 2) [x, y] := by
  refine ⟨_, 2, rfl, fun i hi => ⟨b, 0, rfl, h.lt, ?_⟩⟩
  rw [h.cell, Nat.zero_add]
  have hi2 : i < 2 := hi
  match i, hi2 with
  | 0, _ => rfl
  | 1, _ => rfl
theorem seens_four {w : World} {b : Nat} {e : TypeId} {s1 s2 : Value} {l1 l2 : List Int} {a1 a2 a3 a4 a5 a6 a7 a8 : Int} (h : Blk w b #[.int .i64 a1, .int .i64 a2, s1, .int .i64 a3, .int .i64 a4, s1, .int .i64 a5, .int .i64 a6, s1, .int .i64 a7, .int .i64 a8, s2] e) (h1 : Ints w s1 l1) (h2 : Ints w s2 l2) :
    Seens w (.slice (some ⟨b, 0, none⟩) 4 4) [⟨a1, a2, l1⟩, ⟨a3, a4, l1⟩, ⟨a5, a6, l1⟩, ⟨a7, a8, l2⟩] := by
  refine ⟨_, 4, rfl, fun i hi => ?_⟩
  have hi4 : i < 4 := hi
  match i, hi4 with
  | 0, _ => exact ⟨b, 0, s1, rfl, h.lt, by rw [h.cell]; rfl, by rw [h.cell]; rfl, by rw [h.cell]; rfl, h1⟩
  | 1, _ => exact ⟨b, 0, s1, rfl, h.lt, by rw [h.cell]; rfl, by rw [h.cell]; rfl, by rw [h.cell]; rfl, h1⟩
  | 2, _ => exact ⟨b, 0, s1, rfl, h.lt, by rw [h.cell]; rfl, by rw [h.cell]; rfl, by rw [h.cell]; rfl, h1⟩
  | 3, _ => exact ⟨b, 0, s2, rfl, h.lt, by rw [h.cell]; rfl, by rw [h.cell]; rfl, by rw [h.cell]; rfl, h2⟩
set_option maxRecDepth 100000 in
set_option maxHeartbeats 16000000 in
theorem known_any (w : World) : Calls Try.prog 16 #[] w fun e w' => e = .returned (.bool true) ∧ Ext w w' := by
  have HC := Lib.hid (fun w' => exC_any w')
  have HP := Lib.hid (fun vl w' hL => k_play vl w' hL)
  have HK := Lib.hid (fun vl w' hL => k_known vl w' hL)
  have HF := Lib.hid (fun vl w' hL => k_fault vl w' hL)
  have HB := Lib.hid (fun vl w' hL => k_best vl w' hL)
  have HO := Lib.hid (fun vl w' hL => k_off vl w' hL)
  have hpc := plus_cell
  go_enter Try.func16, Try.ntmps16
  go_upto_region 2 with (first | (go_at_call 48; refine (HC.out _).mono ?_; rintro e w1 ⟨vl1, rfl, hL1, hE1⟩) | (go_at_call 17; refine (HP.out vl1 _ hL1).mono ?_; rintro e w2 ⟨v2, rfl, hD2, hE2⟩))
  have hB3 := Blk.new w2 #[.int .i64 400, .int .i64 480, .int .i64 540, .int .i64 200, .int .i64 4, .int .i64 136] 29
  have hE3 : Ext w2 (w2.alloc (.cells #[.int .i64 400, .int .i64 480, .int .i64 540, .int .i64 200, .int .i64 4, .int .i64 136] 29)) := (Ext.refl w2).alloc _
  obtain ⟨w3, hw3⟩ : ∃ w3, w2.alloc (.cells #[.int .i64 400, .int .i64 480, .int .i64 540, .int .i64 200, .int .i64 4, .int .i64 136] 29) = w3 := ⟨_, rfl⟩
  rw [hw3] at hB3 hE3 ⊢
  obtain ⟨bl, hbl⟩ : ∃ bl, w2.heap.size = bl := ⟨_, rfl⟩
  rw [hbl] at hB3 ⊢
  clear hw3 hbl
  have hD3 := hD2.ext hE3
  go_upto_region 3 with (first | (go_at_call 48; refine (HC.out _).mono ?_; rintro e w4 ⟨vl4, rfl, hL4, hE4⟩) | (go_at_call 28; refine (HK.out vl4 _ hL4).mono ?_; rintro e w5 ⟨v5, rfl, hS5, hE5⟩))
  have hE35 := hE4.trans hE5
  go_upto_region 4 with (first | (go_at_call 48; refine (HC.out _).mono ?_; rintro e w6 ⟨vl6, rfl, hL6, hE6⟩) | (go_at_call 31; refine (HF.out vl6 _ hL6).mono ?_; rintro e w7 ⟨rfl, hE7⟩))
  have hB8 := Blk.new w7 #[.string ⟨#[115, 115, 99, 99]⟩, .int .i64 3, .int .i64 0] 62
  have hE8 : Ext w7 (w7.alloc (.cells #[.string ⟨#[115, 115, 99, 99]⟩, .int .i64 3, .int .i64 0] 62)) := (Ext.refl w7).alloc _
  obtain ⟨w8, hw8⟩ : ∃ w8, w7.alloc (.cells #[.string ⟨#[115, 115, 99, 99]⟩, .int .i64 3, .int .i64 0] 62) = w8 := ⟨_, rfl⟩
  rw [hw8] at hB8 hE8 ⊢
  obtain ⟨bf, hbf⟩ : ∃ bf, w7.heap.size = bf := ⟨_, rfl⟩
  rw [hbf] at hB8 ⊢
  clear hw8 hbf
  have hE58 := (hE6.trans hE7).trans hE8
  go_upto_region 5 with (first | (go_at_call 48; refine (HC.out _).mono ?_; rintro e w9 ⟨vl9, rfl, hL9, hE9⟩) | (go_at_call 36; refine (HB.out vl9 _ hL9).mono ?_; rintro e w10 ⟨rfl, hE10⟩))
  go_upto_region 6 with (first | (go_at_call 48; refine (HC.out _).mono ?_; rintro e w11 ⟨vl11, rfl, hL11, hE11⟩) | (go_at_call 41; refine (HO.out vl11 _ hL11).mono ?_; rintro e w12 ⟨rfl, hE12⟩))
  have hE812 := ((hE9.trans hE10).trans hE11).trans hE12
  have hE512 := hE58.trans hE812
  have hE312 := hE35.trans hE512
  have hEw : Ext w w12 := ((hE1.trans hE2).trans hE3).trans hE312
  have hB12 := hB3.ext hE312
  have hF12 := hB8.ext hE812
  have hD12 := hD3.ext hE312
  have hS12 : Seens w12 v5 _ := hS5.ext hE512
  clear HC HP HK HF HB HO hE1 hE2 hE3 hE4 hE5 hE6 hE7 hE8 hE9 hE10 hE11 hE12 hE35 hE58 hE512 hE312 hE812 hB3 hB8 hD3 hD2 hS5 hL1 hL4 hL6 hL9 hL11
  go_upto_region 8 with (fail)
  have hsd := fun w' (hx : Ext w12 w') vb hb => dsameDays_any [⟨218, 3⟩, ⟨137, 1⟩, ⟨57, 1⟩, ⟨136, 1⟩] [⟨218, 3⟩, ⟨137, 1⟩, ⟨57, 1⟩, ⟨136, 1⟩] v2 vb w' (hD12.ext hx) hb (by decide) (by decide)
  have hss := fun w' (hx : Ext w12 w') vb hb => dsameSeen_any [⟨80, 80, [3, 1]⟩, ⟨80, 80, [3, 1]⟩, ⟨0, 80, [3, 1]⟩, ⟨0, 80, [2, 1]⟩] [⟨80, 80, [3, 1]⟩, ⟨80, 80, [3, 1]⟩, ⟨0, 80, [3, 1]⟩, ⟨0, 80, [2, 1]⟩] v5 vb w' (hS12.ext hx) hb (by decide) (by decide) (by decide) (by decide)
  have HSD := Lib.hid hsd
  have HSS := Lib.hid hss
  have hls := led_same
  have hfs := fault_same
  clear hsd hss
  go_upto_region 10 with (first | (go_at_call 22; refine (HSD.out _ ((Ext.refl w12).alloc _) _ (days_four (Blk.new w12 #[.int .i64 218, .int .i64 3, .int .i64 137, .int .i64 1, .int .i64 57, .int .i64 1, .int .i64 136, .int .i64 1] 41))).mono ?_; rintro e w14 ⟨rfl, hE14⟩; have hx14 : Ext w12 w14 := ((Ext.refl w12).alloc _).trans hE14; have k0 := (hB12.ext hx14).cell; have k1 := (hB12.ext hx14).lt))
  clear k0 k1
  go_cut [14, 15] from 75 to 76 (fun s14 s15 wc => Ints wc s14 [3, 1] ∧ Ints wc s15 [2, 1] ∧ Ext w14 wc)
  case first =>
    clear hls hfs HSS HSD
    go_wp2
    go_meet
    exact ⟨(ints_two (Blk.new w14 #[.int .i64 3, .int .i64 1] 55)).ext ((Ext.refl _).alloc _), ints_two (Blk.new' (by simp) #[.int .i64 2, .int .i64 1] 55), by (with_reducible (repeat (first | exact Ext.refl _ | assumption | apply Ext.alloc | apply Ext.drew | exact ext_plus _ _ | (apply Ext.setCell; rotate_left; (simp <;> omega)) | (apply Ext.trans; rotate_left; exact ext_plus _ _) | (apply Ext.trans; rotate_left; assumption))))⟩
  case rest =>
  rename World => w15
  obtain ⟨hI1, hI2, hE15⟩ := hcut
  have hI1' := hI1
  have hI2' := hI2
  obtain ⟨a14, c14, rfl, _⟩ := hI1'
  obtain ⟨a15, c15, rfl, _⟩ := hI2'
  have hx15 := hx14.trans hE15
  have hE16 : Ext w15 (w15.alloc (.cells #[.int .i64 80, .int .i64 80, .slice a14 2 c14, .int .i64 80, .int .i64 80, .slice a14 2 c14, .int .i64 0, .int .i64 80, .slice a14 2 c14, .int .i64 0, .int .i64 80, .slice a15 2 c15] 54)) := (Ext.refl _).alloc _
  have hSN := Lib.hid (seens_four (Blk.new w15 #[.int .i64 80, .int .i64 80, .slice a14 2 c14, .int .i64 80, .int .i64 80, .slice a14 2 c14, .int .i64 0, .int .i64 80, .slice a14 2 c14, .int .i64 0, .int .i64 80, .slice a15 2 c15] 54) (hI1.ext hE16) (hI2.ext hE16))
  clear hI1 hI2
  have hBF := hF12
  go_upto_region 13 with (first | (go_at_call 47; refine (HSS.out _ (hx15.trans hE16) _ hSN.out).mono ?_; rintro e w17 ⟨rfl, hE17⟩; have hx17 : Ext w12 w17 := (hx15.trans hE16).trans hE17; have m0 := (hBF.ext hx17).cell; have m1 := (hBF.ext hx17).lt))
  clear HSS HSD hSN
  go_wp2
  all_goals
    go_ret
    exact ⟨rfl, hEw.trans hx17⟩
end Go.Proofs.Ytkjoojmlcjmlgaa
