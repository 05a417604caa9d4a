/- The lens: the play of a truth: its error. -/
import Derived.Test.YtgloajbgphcloaaGreatSk2
namespace Go.Proofs.YtgloajbgphcloaaGreat.Ln
set_option linter.unusedVariables false
set_option linter.unusedSimpArgs false
open Go.RowKit Go.Shelf
attribute [local go_sem] Oper.semAt_some
theorem monAt_own {w0 w5 : World} {i : Islet} {vw vm : Value} {t : Truth} {vd vr vn : Value} {H : Int} {br : Nat} (h5 : w0.heap.size ≤ w5.heap.size) : OwnFrom w5.heap.size (MonAt w0 i vw vm t vd vr vn H br) := by
  refine OwnFrom.and (fun k A B row h hg hr => ?_) (ownFrom_below (Nat.le_refl _) h5)
  obtain ⟨l, h⟩ := h
  exact ⟨l, h.kept hg fun r e => (hr r e).2⟩
/-- The box of a month's end in a round. -/
def AxS (n : Nat) (i : Islet) (H : Int) (t : Truth) (TM : Nat → Nat → Array Value) (k : Nat) (a' : Act) (Y : World) : Prop :=
  ∃ bx, Blk Y bx #[.int .i64 (stateAt i H t (k + 1)).tanks, .int .i64 (stateAt i H t (k + 1)).lens, .int .i64 (stateAt i H t (k + 1)).lack] 172 ∧ n ≤ bx ∧ a' = { tmps := TM k bx, defers := [] }
theorem AxS.own (n B' : Nat) (i : Islet) (H : Int) (t : Truth) (TM : Nat → Nat → Array Value) (k : Nat) : OwnFrom B' (AxS n i H t TM k) := by
  rintro a' A Y row ⟨bx, h1, h2, h3⟩ hg hr
  exact ⟨bx, h1.kept hg (fun r e => (hr r e).2), h2, h3⟩
theorem seen_info : (Tryz.prog.info? 172).map (fun i => (i.zero, i.size, i.bytes)) = some (some (.agg #[.int .i64 0, .int .i64 0, .int .i64 0]), 3, 24) := by kernel_rfl
theorem cell_three (w : World) (x y z : Value) (e : TypeId) {b : Nat} (hb : b = w.heap.size) : ∀ j u, ([x, y, z] : List Value)[j]? = some u → (w.alloc (.cells #[x, y, z] e)).cell? ((⟨b, 0, none⟩ : Addr).add j) = some u := by
  intro j u hj
  subst hb
  have hadd : (⟨w.heap.size, 0, none⟩ : Addr).add j = ⟨w.heap.size, j, none⟩ := by unfold Addr.add; split <;> simp_all
  rw [hadd, (Blk.new w #[x, y, z] e).cell]
  simpa using hj
theorem three_ints (a b c : Int) : ∀ u ∈ [Value.int .i64 a, Value.int .i64 b, Value.int .i64 c], u.oneCell' = true := by
  intro u hu; simp at hu; rcases hu with rfl | rfl | rfl <;> rfl
set_option maxRecDepth 100000 in
set_option maxHeartbeats 16000000 in
theorem play_any (i : Islet) (t : Truth) (vw vm vd vr vn : Value) (w : World) (hok : islB i = true) (hW : Ints w vw i.wells) (hM : Months w vm i.months) (hD : Bools w vd t.dry) (hR : Ints w vr t.rains) (hN : Ints w vn t.needs)
    (h1 : t.dry.length = i.months.length) (h2 : t.rains.length = i.months.length) (h3 : t.needs.length = i.months.length)
    (hgood : ∀ k, k < i.months.length → monthT i t k = true) (hs : within t.start i.sl i.sh = true) (hk : within t.soak i.kl i.kh = true) (hl : within t.leak i.ll i.lh = true) :
    Calls Tryz.prog 21 #[.agg (islV i vw vm), .int .i64 0, .agg (trV t vd vr vn)] w fun e w' => ∃ (v : Value) (la lb lc ld le lf : Int), e = .returned (.tuple #[v, .agg #[.int .i64 la, .int .i64 lb, .int .i64 lc, .int .i64 ld, .int .i64 le, .int .i64 lf], .int .i64 (if possible i t.dry then 0 else 2)]) ∧ Ext w w' := by
  have O := ok_of hok
  have hwl : i.wells.length ≤ 1000000 := by have := O.wells; omega
  have hml : i.months.length ≤ 1000000 := by have := O.n; omega
  have HTA := Lib.hid (fun W hE => tanked_zero i vw vm W (hW.ext hE) (hM.ext hE) hwl hml hok)
  obtain ⟨aw, cw, rfl, _⟩ := hW
  have hit := fun W hE => isTruth_any i t aw i.wells.length cw vm vd vr vn W (hM.ext hE) (hD.ext hE) (hR.ext hE) (hN.ext hE) hml h1 h2 h3 hgood hs hk hl
  have hMM := hM
  obtain ⟨am, cm, rfl, _⟩ := hMM
  have hDD := hD
  obtain ⟨ad, cd, rfl, _⟩ := hDD
  have hRR := hR
  obtain ⟨ar, cr, rfl, _⟩ := hRR
  have hNN := hN
  obtain ⟨an, cn, rfl, _⟩ := hNN
  obtain ⟨B, hB⟩ : ∃ B, possible i t.dry = B := ⟨_, rfl⟩
  simp only [hB] at hit ⊢
  have HIT := Lib.hid hit
  clear hit
  have hpc := plus_cell
  obtain ⟨n0, hn0⟩ : ∃ n, w.heap.size = n := ⟨_, rfl⟩
  obtain ⟨w1, hw1⟩ : ∃ y, (((w.alloc (.cells (islV i (.slice aw i.wells.length cw) (.slice am i.months.length cm)) 52)).alloc (.cells (trV t (.slice ad t.dry.length cd) (.slice ar t.rains.length cr) (.slice an t.needs.length cn)) 58)).alloc (.cells #[.int .i64 0, .int .i64 0, .int .i64 0, .int .i64 0, .int .i64 0, .int .i64 0] 67)) = y := ⟨_, rfl⟩
  have hV1 : Blk w1 n0 (islV i (.slice aw i.wells.length cw) (.slice am i.months.length cm)) 52 := by rw [← hw1]; exact ((Blk.new' hn0.symm _ _).alloc _).alloc _
  have hT1 : Blk w1 (n0 + 1) (trV t (.slice ad t.dry.length cd) (.slice ar t.rains.length cr) (.slice an t.needs.length cn)) 58 := by rw [← hw1]; exact (Blk.new' (by simp [hn0]) _ _).alloc _
  have hL1 : Blk w1 (n0 + 1 + 1) #[.int .i64 0, .int .i64 0, .int .i64 0, .int .i64 0, .int .i64 0, .int .i64 0] 67 := by rw [← hw1]; exact Blk.new' (by simp [hn0]) _ _
  have hE1 : Ext w w1 := by rw [← hw1]; (with_reducible (repeat (first | exact Ext.refl _ | assumption | apply Ext.alloc | apply Ext.drew | exact ext_plus _ _ | (apply Ext.setCell; rotate_left; (simp <;> omega)) | (apply Ext.trans; rotate_left; exact ext_plus _ _) | (apply Ext.trans; rotate_left; assumption))))
  have HN0 := Lib.hid hn0
  have HW1 := Lib.hid hw1
  clear hn0 hw1
  cases B with
  | false =>
    clear hgood hs hk hl h1 h2 h3 hwl hml hR hN hD hM hok O
    go_enter Tryz.func21, Tryz.ntmps21
    go_upto_region 1 with (fail)
    simp only [HN0.out]
    rw [HW1.out]
    have k0 := hV1.cell
    have k1 := hV1.lt
    have k2 := hT1.cell
    have k3 := hT1.lt
    go_wp2_with (first | (go_at_call 72; refine (HTA.out _ (by (with_reducible (repeat (first | exact Ext.refl _ | assumption | apply Ext.alloc | apply Ext.drew | exact ext_plus _ _ | (apply Ext.setCell; rotate_left; (simp <;> omega)) | (apply Ext.trans; rotate_left; exact ext_plus _ _) | (apply Ext.trans; rotate_left; assumption)))))).mono ?_; rintro e w2 ⟨rfl, hE2⟩; (try clear k0 k1 k2 k3); have k0 := (hV1.ext (show Ext w1 w2 by (with_reducible show Ext _ _; (with_reducible (repeat (first | exact Ext.refl _ | assumption | apply Ext.alloc | apply Ext.drew | exact ext_plus _ _ | (apply Ext.setCell; rotate_left; (simp <;> omega)) | (apply Ext.trans; rotate_left; exact ext_plus _ _) | (apply Ext.trans; rotate_left; assumption)))); done))).cell; have k1 := (hV1.ext (show Ext w1 w2 by (with_reducible show Ext _ _; (with_reducible (repeat (first | exact Ext.refl _ | assumption | apply Ext.alloc | apply Ext.drew | exact ext_plus _ _ | (apply Ext.setCell; rotate_left; (simp <;> omega)) | (apply Ext.trans; rotate_left; exact ext_plus _ _) | (apply Ext.trans; rotate_left; assumption)))); done))).lt; have k2 := (hT1.ext (show Ext w1 w2 by (with_reducible show Ext _ _; (with_reducible (repeat (first | exact Ext.refl _ | assumption | apply Ext.alloc | apply Ext.drew | exact ext_plus _ _ | (apply Ext.setCell; rotate_left; (simp <;> omega)) | (apply Ext.trans; rotate_left; exact ext_plus _ _) | (apply Ext.trans; rotate_left; assumption)))); done))).cell; have k3 := (hT1.ext (show Ext w1 w2 by (with_reducible show Ext _ _; (with_reducible (repeat (first | exact Ext.refl _ | assumption | apply Ext.alloc | apply Ext.drew | exact ext_plus _ _ | (apply Ext.setCell; rotate_left; (simp <;> omega)) | (apply Ext.trans; rotate_left; exact ext_plus _ _) | (apply Ext.trans; rotate_left; assumption)))); done))).lt) | (go_at_call 73; refine (HIT.out _ (by (with_reducible (repeat (first | exact Ext.refl _ | assumption | apply Ext.alloc | apply Ext.drew | exact ext_plus _ _ | (apply Ext.setCell; rotate_left; (simp <;> omega)) | (apply Ext.trans; rotate_left; exact ext_plus _ _) | (apply Ext.trans; rotate_left; assumption)))))).mono ?_; rintro e w3 ⟨rfl, hE3⟩; (try clear k0 k1 k2 k3); have k0 := (hV1.ext (show Ext w1 w3 by (with_reducible show Ext _ _; (with_reducible (repeat (first | exact Ext.refl _ | assumption | apply Ext.alloc | apply Ext.drew | exact ext_plus _ _ | (apply Ext.setCell; rotate_left; (simp <;> omega)) | (apply Ext.trans; rotate_left; exact ext_plus _ _) | (apply Ext.trans; rotate_left; assumption)))); done))).cell; have k1 := (hV1.ext (show Ext w1 w3 by (with_reducible show Ext _ _; (with_reducible (repeat (first | exact Ext.refl _ | assumption | apply Ext.alloc | apply Ext.drew | exact ext_plus _ _ | (apply Ext.setCell; rotate_left; (simp <;> omega)) | (apply Ext.trans; rotate_left; exact ext_plus _ _) | (apply Ext.trans; rotate_left; assumption)))); done))).lt; have k2 := (hT1.ext (show Ext w1 w3 by (with_reducible show Ext _ _; (with_reducible (repeat (first | exact Ext.refl _ | assumption | apply Ext.alloc | apply Ext.drew | exact ext_plus _ _ | (apply Ext.setCell; rotate_left; (simp <;> omega)) | (apply Ext.trans; rotate_left; exact ext_plus _ _) | (apply Ext.trans; rotate_left; assumption)))); done))).cell; have k3 := (hT1.ext (show Ext w1 w3 by (with_reducible show Ext _ _; (with_reducible (repeat (first | exact Ext.refl _ | assumption | apply Ext.alloc | apply Ext.drew | exact ext_plus _ _ | (apply Ext.setCell; rotate_left; (simp <;> omega)) | (apply Ext.trans; rotate_left; exact ext_plus _ _) | (apply Ext.trans; rotate_left; assumption)))); done))).lt; have g0 := (hL1.ext (show Ext w1 w3 by (with_reducible show Ext _ _; (with_reducible (repeat (first | exact Ext.refl _ | assumption | apply Ext.alloc | apply Ext.drew | exact ext_plus _ _ | (apply Ext.setCell; rotate_left; (simp <;> omega)) | (apply Ext.trans; rotate_left; exact ext_plus _ _) | (apply Ext.trans; rotate_left; assumption)))); done))).cell; have g1 := (hL1.ext (show Ext w1 w3 by (with_reducible show Ext _ _; (with_reducible (repeat (first | exact Ext.refl _ | assumption | apply Ext.alloc | apply Ext.drew | exact ext_plus _ _ | (apply Ext.setCell; rotate_left; (simp <;> omega)) | (apply Ext.trans; rotate_left; exact ext_plus _ _) | (apply Ext.trans; rotate_left; assumption)))); done))).lt; have g2 := (hL1.ext (show Ext w1 w3 by (with_reducible show Ext _ _; (with_reducible (repeat (first | exact Ext.refl _ | assumption | apply Ext.alloc | apply Ext.drew | exact ext_plus _ _ | (apply Ext.setCell; rotate_left; (simp <;> omega)) | (apply Ext.trans; rotate_left; exact ext_plus _ _) | (apply Ext.trans; rotate_left; assumption)))); done))).free))
    obtain ⟨w5, hw5⟩ : ∃ y, ((((((w3.setCell ⟨n0 + 1 + 1, 0, none⟩ (.int .i64 0)).setCell ⟨n0 + 1 + 1, 1, none⟩ (.int .i64 0)).setCell ⟨n0 + 1 + 1, 2, none⟩ (.int .i64 0)).setCell ⟨n0 + 1 + 1, 3, none⟩ (.int .i64 0)).setCell ⟨n0 + 1 + 1, 4, none⟩ (.int .i64 0)).setCell ⟨n0 + 1 + 1, 5, none⟩ (.int .i64 0)) = y := ⟨_, rfl⟩
    have hL3 := hL1.ext (show Ext w1 w3 by (with_reducible show Ext _ _; (with_reducible (repeat (first | exact Ext.refl _ | assumption | apply Ext.alloc | apply Ext.drew | exact ext_plus _ _ | (apply Ext.setCell; rotate_left; (simp <;> omega)) | (apply Ext.trans; rotate_left; exact ext_plus _ _) | (apply Ext.trans; rotate_left; assumption)))); done))
    have hL5 : Blk w5 (n0 + 1 + 1) #[.int .i64 0, .int .i64 0, .int .i64 0, .int .i64 0, .int .i64 0, .int .i64 0] 67 := by rw [← hw5]; simpa using (((((hL3.set 0 (.int .i64 0)).set 1 (.int .i64 0)).set 2 (.int .i64 0)).set 3 (.int .i64 0)).set 4 (.int .i64 0)).set 5 (.int .i64 0)
    have hE5 : Ext w w5 := by rw [← hw5]; have hx : Ext w w3 := (by (with_reducible (repeat (first | exact Ext.refl _ | assumption | apply Ext.alloc | apply Ext.drew | exact ext_plus _ _ | (apply Ext.setCell; rotate_left; (simp <;> omega)) | (apply Ext.trans; rotate_left; exact ext_plus _ _) | (apply Ext.trans; rotate_left; assumption))))); exact (((((hx.setCell (p := ⟨n0 + 1 + 1, 0, none⟩) (by rw [HN0.out]; simp; omega) _).setCell (p := ⟨n0 + 1 + 1, 1, none⟩) (by rw [HN0.out]; simp; omega) _).setCell (p := ⟨n0 + 1 + 1, 2, none⟩) (by rw [HN0.out]; simp; omega) _).setCell (p := ⟨n0 + 1 + 1, 3, none⟩) (by rw [HN0.out]; simp; omega) _).setCell (p := ⟨n0 + 1 + 1, 4, none⟩) (by rw [HN0.out]; simp; omega) _).setCell (p := ⟨n0 + 1 + 1, 5, none⟩) (by rw [HN0.out]; simp; omega) _
    rw [hw5]
    have z0 := hL5.cell
    have z1 := hL5.lt
    exact bodyPost_ret (v := .tuple #[.slice none 0 0, .agg #[.int .i64 0, .int .i64 0, .int .i64 0, .int .i64 0, .int .i64 0, .int .i64 0], .int .i64 2]) (by simp [results, Tryz.results21, go_sem, z0, z1]) rfl ⟨⟨_, 0, 0, 0, 0, 0, 0, rfl⟩, hE5⟩
  | true =>
    have T := trOk_of O (t := t) (by
      unfold truthB
      rw [hB, hs, hk, hl]
      simp only [Bool.and_eq_true, decide_eq_true_eq, List.all_eq_true, List.mem_range]
      exact ⟨⟨⟨⟨h1, h2⟩, h3⟩, trivial⟩, hgood, ⟨trivial, trivial⟩, trivial⟩)
    have HFO := Lib.hid (fun W => follow_any i (.slice aw i.wells.length cw) (.slice am i.months.length cm) 0 t (.slice ad t.dry.length cd) (.slice ar t.rains.length cr) (.slice an t.needs.length cn) W O (by omega) (by omega) ⟨_, _, _, rfl⟩ ⟨_, _, _, rfl⟩ ⟨_, _, _, rfl⟩ ⟨_, _, _, rfl⟩ ⟨_, _, _, rfl⟩)
    have HSQ := Lib.hid (fun br w9 hbr0 => months_own i (.slice aw i.wells.length cw) am cm t (.slice ad t.dry.length cd) (.slice ar t.rains.length cr) (.slice an t.needs.length cn) 0 br w w9 O T (by omega) (by omega) hbr0 hR hN)
    obtain ⟨i0, hi, hz0, hz1, hz2⟩ := info_parts seen_info
    have hN8 := O.n
    clear hgood hs hk hl h1 h2 h3 hwl hml hR hN hD hM hok O T
    refine (callsIn_wide (n := 5)).1 ?_
    refine callsIn_of_wp_marks Tryz.func21 rfl trivial ?_ rfl
    simp only [Tryz.ntmps21, List.size_toArray, List.length_cons, List.length_nil, Nat.reduceAdd, Nat.reduceSub, Array.replicate_succ, Array.replicate_zero, List.push_toArray, List.append_toArray, List.nil_append, List.cons_append]
    refine wpIn_wide.2 ?_
    go_upto_region 1 with (fail)
    simp only [HN0.out]
    rw [HW1.out]
    have k0 := hV1.cell
    have k1 := hV1.lt
    have k2 := hT1.cell
    have k3 := hT1.lt
    go_wp2_with (first | (go_at_call 72; refine (HTA.out _ (by (with_reducible (repeat (first | exact Ext.refl _ | assumption | apply Ext.alloc | apply Ext.drew | exact ext_plus _ _ | (apply Ext.setCell; rotate_left; (simp <;> omega)) | (apply Ext.trans; rotate_left; exact ext_plus _ _) | (apply Ext.trans; rotate_left; assumption)))))).mono ?_; rintro e w2 ⟨rfl, hE2⟩; (try clear k0 k1 k2 k3); have k0 := (hV1.ext (show Ext w1 w2 by (with_reducible show Ext _ _; (with_reducible (repeat (first | exact Ext.refl _ | assumption | apply Ext.alloc | apply Ext.drew | exact ext_plus _ _ | (apply Ext.setCell; rotate_left; (simp <;> omega)) | (apply Ext.trans; rotate_left; exact ext_plus _ _) | (apply Ext.trans; rotate_left; assumption)))); done))).cell; have k1 := (hV1.ext (show Ext w1 w2 by (with_reducible show Ext _ _; (with_reducible (repeat (first | exact Ext.refl _ | assumption | apply Ext.alloc | apply Ext.drew | exact ext_plus _ _ | (apply Ext.setCell; rotate_left; (simp <;> omega)) | (apply Ext.trans; rotate_left; exact ext_plus _ _) | (apply Ext.trans; rotate_left; assumption)))); done))).lt; have k2 := (hT1.ext (show Ext w1 w2 by (with_reducible show Ext _ _; (with_reducible (repeat (first | exact Ext.refl _ | assumption | apply Ext.alloc | apply Ext.drew | exact ext_plus _ _ | (apply Ext.setCell; rotate_left; (simp <;> omega)) | (apply Ext.trans; rotate_left; exact ext_plus _ _) | (apply Ext.trans; rotate_left; assumption)))); done))).cell; have k3 := (hT1.ext (show Ext w1 w2 by (with_reducible show Ext _ _; (with_reducible (repeat (first | exact Ext.refl _ | assumption | apply Ext.alloc | apply Ext.drew | exact ext_plus _ _ | (apply Ext.setCell; rotate_left; (simp <;> omega)) | (apply Ext.trans; rotate_left; exact ext_plus _ _) | (apply Ext.trans; rotate_left; assumption)))); done))).lt) | (go_at_call 73; refine (HIT.out _ (by (with_reducible (repeat (first | exact Ext.refl _ | assumption | apply Ext.alloc | apply Ext.drew | exact ext_plus _ _ | (apply Ext.setCell; rotate_left; (simp <;> omega)) | (apply Ext.trans; rotate_left; exact ext_plus _ _) | (apply Ext.trans; rotate_left; assumption)))))).mono ?_; rintro e w3 ⟨rfl, hE3⟩; (try clear k0 k1 k2 k3); have k0 := (hV1.ext (show Ext w1 w3 by (with_reducible show Ext _ _; (with_reducible (repeat (first | exact Ext.refl _ | assumption | apply Ext.alloc | apply Ext.drew | exact ext_plus _ _ | (apply Ext.setCell; rotate_left; (simp <;> omega)) | (apply Ext.trans; rotate_left; exact ext_plus _ _) | (apply Ext.trans; rotate_left; assumption)))); done))).cell; have k1 := (hV1.ext (show Ext w1 w3 by (with_reducible show Ext _ _; (with_reducible (repeat (first | exact Ext.refl _ | assumption | apply Ext.alloc | apply Ext.drew | exact ext_plus _ _ | (apply Ext.setCell; rotate_left; (simp <;> omega)) | (apply Ext.trans; rotate_left; exact ext_plus _ _) | (apply Ext.trans; rotate_left; assumption)))); done))).lt; have k2 := (hT1.ext (show Ext w1 w3 by (with_reducible show Ext _ _; (with_reducible (repeat (first | exact Ext.refl _ | assumption | apply Ext.alloc | apply Ext.drew | exact ext_plus _ _ | (apply Ext.setCell; rotate_left; (simp <;> omega)) | (apply Ext.trans; rotate_left; exact ext_plus _ _) | (apply Ext.trans; rotate_left; assumption)))); done))).cell; have k3 := (hT1.ext (show Ext w1 w3 by (with_reducible show Ext _ _; (with_reducible (repeat (first | exact Ext.refl _ | assumption | apply Ext.alloc | apply Ext.drew | exact ext_plus _ _ | (apply Ext.setCell; rotate_left; (simp <;> omega)) | (apply Ext.trans; rotate_left; exact ext_plus _ _) | (apply Ext.trans; rotate_left; assumption)))); done))).lt; have g0 := (hL1.ext (show Ext w1 w3 by (with_reducible show Ext _ _; (with_reducible (repeat (first | exact Ext.refl _ | assumption | apply Ext.alloc | apply Ext.drew | exact ext_plus _ _ | (apply Ext.setCell; rotate_left; (simp <;> omega)) | (apply Ext.trans; rotate_left; exact ext_plus _ _) | (apply Ext.trans; rotate_left; assumption)))); done))).cell; have g1 := (hL1.ext (show Ext w1 w3 by (with_reducible show Ext _ _; (with_reducible (repeat (first | exact Ext.refl _ | assumption | apply Ext.alloc | apply Ext.drew | exact ext_plus _ _ | (apply Ext.setCell; rotate_left; (simp <;> omega)) | (apply Ext.trans; rotate_left; exact ext_plus _ _) | (apply Ext.trans; rotate_left; assumption)))); done))).lt; have g2 := (hL1.ext (show Ext w1 w3 by (with_reducible show Ext _ _; (with_reducible (repeat (first | exact Ext.refl _ | assumption | apply Ext.alloc | apply Ext.drew | exact ext_plus _ _ | (apply Ext.setCell; rotate_left; (simp <;> omega)) | (apply Ext.trans; rotate_left; exact ext_plus _ _) | (apply Ext.trans; rotate_left; assumption)))); done))).free) | (go_at_call 74; refine (HFO.out _).mono ?_; rintro e w4 ⟨br, rfl, hbr, hF4, hE4⟩))
    have hE14 : Ext w1 w4 := (by (with_reducible (repeat (first | exact Ext.refl _ | assumption | apply Ext.alloc | apply Ext.drew | exact ext_plus _ _ | (apply Ext.setCell; rotate_left; (simp <;> omega)) | (apply Ext.trans; rotate_left; exact ext_plus _ _) | (apply Ext.trans; rotate_left; assumption)))))
    have hE4w : Ext w w4 := hE1.trans hE14
    have hL4 := hL1.ext hE14
    have hbr0 : w.heap.size ≤ br := Nat.le_trans (hE1.trans (show Ext w1 w3 by (with_reducible show Ext _ _; (with_reducible (repeat (first | exact Ext.refl _ | assumption | apply Ext.alloc | apply Ext.drew | exact ext_plus _ _ | (apply Ext.setCell; rotate_left; (simp <;> omega)) | (apply Ext.trans; rotate_left; exact ext_plus _ _) | (apply Ext.trans; rotate_left; assumption)))); done))).size hbr
    have hlbr : n0 + 1 + 1 < br := Nat.lt_of_lt_of_le (hL1.ext (show Ext w1 w3 by (with_reducible show Ext _ _; (with_reducible (repeat (first | exact Ext.refl _ | assumption | apply Ext.alloc | apply Ext.drew | exact ext_plus _ _ | (apply Ext.setCell; rotate_left; (simp <;> omega)) | (apply Ext.trans; rotate_left; exact ext_plus _ _) | (apply Ext.trans; rotate_left; assumption)))); done))).lt hbr
    have hbrl : br < w4.heap.size := by obtain ⟨_, h⟩ := hF4; exact h.lt
    obtain ⟨bo, hbo⟩ : ∃ bo, w4.heap.size = bo := ⟨_, rfl⟩
    obtain ⟨w5, hw5⟩ : ∃ w5, w4.alloc (.cells #[.slice none 0 0] 65) = w5 := ⟨_, rfl⟩
    have hE45 : Ext w4 w5 := by rw [← hw5]; (with_reducible (repeat (first | exact Ext.refl _ | assumption | apply Ext.alloc | apply Ext.drew | exact ext_plus _ _ | (apply Ext.setCell; rotate_left; (simp <;> omega)) | (apply Ext.trans; rotate_left; exact ext_plus _ _) | (apply Ext.trans; rotate_left; assumption))))
    have ho5 : Blk w5 bo #[.slice none 0 0] 65 := by rw [← hw5]; exact Blk.new' hbo.symm _ _
    have hz5 : bo < w5.heap.size := ho5.lt
    have hL5 := hL4.ext hE45
    have hE5 := hE4w.trans hE45
    have hF5 : FolAt w5 br i (.slice aw i.wells.length cw) (.slice am i.months.length cm) t (.slice ad t.dry.length cd) (.slice ar t.rains.length cr) (.slice an t.needs.length cn) 0 ((0 - 1 : Nat) : Int) (stateAt i 0 t 0) := by
      have := hF4.ext hE45
      rw [Int.zero_mul] at this
      exact this
    have hz5b : w5.heap.size = bo + 1 := by rw [← hw5, ← hbo]; simp
    rw [hbo] at hbrl
    simp only [hbo, hw5]
    have hseq := HSQ.out br w5 hbr0
    have HZ := Lib.hid hz5b
    clear k0 k1 k2 k3 g0 g1 g2 hw5 hbo hz5b hE2 hE3 hE4 hE14 hE4w hL4 hF4 hbr hE45 HTA HIT HFO HSQ hV1 hT1 hL1 HW1
    obtain ⟨N, hNm⟩ : ∃ N, i.months.length = N := ⟨_, rfl⟩
    rw [hNm] at hN8 hseq hF5
    have HNM := Lib.hid hNm
    clear hNm
    refine (wpIn_wide (n := 5)).1 ?_
    refine' wpIn_range_own rfl (by omega) (gf := 75) (fst := #[.pointer (some ⟨br, 0, none⟩)]) rfl trivial (enters_of Tryz.func75 (by kernel_rfl) rfl)
      hseq (fun _ => rfl) (off_rec (by omega)) (monAt_own hE5.size) ⟨hF5, hE5⟩
      (fun k Y => ∃ v L, Y.ownsRow w5.heap.size 172 3 v k L ∧ Blk Y bo #[v] 65 ∧ Blk Y (n0 + 1 + 1) #[.int .i64 0, .int .i64 0, .int .i64 0, .int .i64 0, .int .i64 0, .int .i64 0] 67)
      (fun _ _ => False)
      ?own (fun _ _ _ _ hs _ _ => hs) ?rel ⟨_, _, World.ownsRow_nil _ _ _ _, ho5, hL5⟩
      (AxS w5.heap.size i 0 t _) ?axo ?assign ?body ?done ?stop
    case own =>
      rintro k A B row ⟨v, L, h1, h2, h3⟩ hg hr
      exact ⟨v, L, own_kept h1 hg fun r e => (hr r e).2, h2.kept hg fun r e => (hr r e).2, h3.kept hg fun r e => (hr r e).2⟩
    case rel =>
      rintro k A B ⟨v, L, h1, h2, h3⟩ ho
      exact ⟨v, L, own_off h1 ho (by omega), h2.off ho (by omega), h3.off ho (by omega)⟩
    case axo => exact AxS.own _ _ _ _ _ _
    case assign =>
      rintro l k Y K hk ⟨v, L, h1, h2, h3⟩ hA hK
      have hY5 : w5.heap.size ≤ Y.heap.size := by
        have := h2.lt
        have := HZ.out
        omega
      simp only [monE]
      gi_wp2
      obtain ⟨bx, hbx⟩ : ∃ bx, Y.heap.size = bx := ⟨_, rfl⟩
      have hEa : Ext Y (Y.alloc (.cells #[.int .i64 (stateAt i 0 t (k + 1)).tanks, .int .i64 (stateAt i 0 t (k + 1)).lens, .int .i64 (stateAt i 0 t (k + 1)).lack] 172)) := (Ext.refl _).alloc _
      rw [hbx]
      refine hK _ _ (KeepsFrom.of_grownBy (ext_grown hEa) (fun j e => by cases e)) ⟨v, L, own_ext h1 hEa, h2.ext hEa, h3.ext hEa⟩ ⟨hA.1.ext hEa, hA.2.trans hEa⟩ ⟨bx, Blk.new' hbx.symm _ _, by omega, ?_⟩
      refine (Act.mk.injEq _ _ _ _).mpr ⟨?_, rfl⟩
      exact rfl
    case body =>
      rintro l k a' Y hl hrec hk ⟨v, L, h1, h2, h3⟩ hA ⟨bx, hbx, hbxge, rfl⟩
      obtain ⟨a9, c9, rfl⟩ := own_slice h1
      have c0 := h2.cell
      have c1 := h2.free
      have c2 := h2.lt
      have d0 := hbx.cell
      have d1 := hbx.lt
      have hzz := HZ.out
      have HZ2 := Lib.hid hzz
      have hYs : w5.heap.size ≤ Y.heap.size := by omega
      obtain ⟨x, hx⟩ : ∃ x, stateAt i 0 t (k + 1) = x := ⟨_, rfl⟩
      obtain ⟨hAf, hAe⟩ := hA
      simp only [hx] at hbx d0 hAf ⊢
      obtain ⟨lg, hAf⟩ := hAf
      have HAF := Lib.hid hAf
      have HX := Lib.hid hx
      clear hx hzz hAf
      gi_wp2_with (gi_at_builtin; refine wpListIn_append_own _ rfl _ _ 65 rfl (w5.heap.size) 172 i0 (.agg #[.int .i64 0, .int .i64 0, .int .i64 0]) 3 24 Tryz.underlying65 hi hz0 hz1 hz2 rfl (by decide) _ _ _ rfl (own_ext h1 ((Ext.refl _).alloc _)) ⟨Y.heap.size, 0, none⟩ 1 1 [.int .i64 x.tanks, .int .i64 x.lens, .int .i64 x.lack] rfl rfl (cell_three _ _ _ _ _ (by simp)) (three_ints _ _ _) (by unfold maxLen; omega) (by omega) (by simp; omega) ?_; intro v' w6 hown' hgrow _; obtain ⟨g', cap', rfl⟩ := own_succ hown'; have hB6 := Blk.grown (h2.alloc _) hgrow (own_base h1) hz5; have hL6 := Blk.grown (h3.alloc _) hgrow (own_base h1) (by omega); have hR6 := Blk.grown (HAF.out.alloc _) hgrow (own_base h1) (by omega); have hE6 := Ext.grown (hAe.alloc _) hgrow (fun r e => Nat.le_trans hE5.size (own_base h1 r e)); have e0 := hB6.cell; have e1 := hB6.free; have e2 := hB6.lt)
      have hE1' : Ext Y (Y.alloc (.cells #[.int .i64 x.tanks, .int .i64 x.lens, .int .i64 x.lack] 172)) := (Ext.refl _).alloc _
      have hbo0 : w.heap.size ≤ bo := by omega
      refine ⟨((KeepsOthers.alloc _ _).trans ((KeepsOthers.of_grownBy hgrow (own_cells (own_ext h1 hE1'))).trans (KeepsOthers.setCell _ _ _))).from _, ⟨⟨lg, by rw [HX.out]; exact hR6.other (a := ⟨bo, 0, none⟩) (show bo ≠ br by omega) _⟩, hE6.setCell (p := ⟨bo, 0, none⟩) (by simpa using hbo0) _⟩, ⟨_, L ++ [.int .i64 x.tanks, .int .i64 x.lens, .int .i64 x.lack], ?_, hB6.set 0 _, hL6.other (a := ⟨bo, 0, none⟩) (show bo ≠ n0 + 1 + 1 by omega) _⟩⟩
      exact own_move hown' fun g cur hg _ => Below.heap_setCell _ _ _ _ (by simp; omega)
    case done =>
      rintro D Y hD ⟨v, L, h1, h2, h3⟩ ⟨hAf, hEY⟩ hK
      obtain ⟨a9, c9, rfl⟩ := own_slice h1
      obtain ⟨x, hx⟩ : ∃ x, stateAt i 0 t N = x := ⟨_, rfl⟩
      rw [hx] at hAf
      clear hx
      obtain ⟨lg, hbr⟩ := hAf
      have k0 := hbr.cell
      have k1 := hbr.lt
      have k2 := hbr.free
      have c0 := h2.cell
      have c2 := h2.lt
      have hpc := plus_cell
      go_upto_region 8 with (fail)
      refine wp_region_extN 12 (by kernel_rfl) (by kernel_rfl) (by kernel_rfl) (by kernel_rfl) ?_
      simp only [List.take_succ_cons, List.take_zero, List.drop_succ_cons, List.drop_zero]
      repeat (any_goals (first | go_big_quiet_step (fail) | quiet_step (fail)))
      all_goals (refine wpQuiet_nil ?_; intro Y3 hE3)
      have hb3 := hbr.ext hE3
      have g2 := h2.ext hE3
      have g3 := h3.ext hE3
      have g1 := own_ext h1 hE3
      have gK := (hE3.block D (Array.getElem?_eq_some_iff.1 hK).1).trans hK
      have gE := hEY.trans hE3
      clear k0 k1 k2 c0 c2 hbr h2 h3 h1 hK hEY hE3
      have k0 := hb3.cell
      have k1 := hb3.lt
      have k2 := hb3.free
      go_upto_region 9 with (fail)
      obtain ⟨z, hz⟩ : ∃ z, wrap64 (x.tanks + x.lens) = z := ⟨_, rfl⟩
      obtain ⟨Y4, hY4⟩ : ∃ y, Y3.setCell ⟨br, 32, none⟩ (.int .i64 z) = y := ⟨_, rfl⟩
      have hb4 : Blk Y4 br (folV i (.slice aw i.wells.length cw) (.slice am N cm) t (.slice ad t.dry.length cd) (.slice ar t.rains.length cr) (.slice an t.needs.length cn) 0 ((N - 1 : Nat) : Int) x ⟨lg.a, lg.b, lg.c, lg.d, lg.e, z⟩) 174 := by rw [← hY4]; simpa using hb3.set 32 (.int .i64 z)
      have f2 : Blk Y4 bo #[.slice a9 N c9] 65 := by rw [← hY4]; exact g2.other (a := ⟨br, 32, none⟩) (show br ≠ bo by omega) _
      have f3 : Blk Y4 (n0 + 1 + 1) #[.int .i64 0, .int .i64 0, .int .i64 0, .int .i64 0, .int .i64 0, .int .i64 0] 67 := by rw [← hY4]; exact g3.other (a := ⟨br, 32, none⟩) (show br ≠ n0 + 1 + 1 by omega) _
      have fK : Y4.heap[D]? = some (.deferred (some [])) := by rw [← hY4]; exact (Below.heap_setCell _ _ _ _ (by simp; have := HZ.out; omega)).trans gK
      have fE : Ext w Y4 := by rw [← hY4]; exact gE.setCell (p := ⟨br, 32, none⟩) hbr0 _
      simp only [hz, hY4]
      clear hz hY4 k0 k1 k2 hb3 g2 g3 gK gE g1
      have k0 := hb4.cell
      have k1 := hb4.lt
      have c0 := f2.cell
      have c2 := f2.lt
      refine wp_region_extN 6 (by kernel_rfl) (by kernel_rfl) (by kernel_rfl) (by kernel_rfl) ?_
      simp only [List.take_succ_cons, List.take_zero, List.drop_succ_cons, List.drop_zero]
      repeat (any_goals (first | go_big_quiet_step (fail) | quiet_step (fail)))
      all_goals (refine wpQuiet_nil ?_; intro Y5 hE5')
      have h5 := f3.ext hE5'
      have hK5 := (hE5'.block D (Array.getElem?_eq_some_iff.1 fK).1).trans fK
      have hE55 := fE.trans hE5'
      clear k0 k1 c0 c2 hb4 f2 f3 fK fE hE5'
      have d0 := h5.cell
      have d1 := h5.lt
      have d2 := h5.free
      go_wp2
      obtain ⟨Y6, hY6⟩ : ∃ y, ((((((Y5.setCell ⟨n0 + 1 + 1, 0, none⟩ (.int .i64 lg.a)).setCell ⟨n0 + 1 + 1, 1, none⟩ (.int .i64 lg.b)).setCell ⟨n0 + 1 + 1, 2, none⟩ (.int .i64 lg.c)).setCell ⟨n0 + 1 + 1, 3, none⟩ (.int .i64 lg.d)).setCell ⟨n0 + 1 + 1, 4, none⟩ (.int .i64 lg.e)).setCell ⟨n0 + 1 + 1, 5, none⟩ (.int .i64 z)) = y := ⟨_, rfl⟩
      have hB6 : Blk Y6 (n0 + 1 + 1) #[.int .i64 lg.a, .int .i64 lg.b, .int .i64 lg.c, .int .i64 lg.d, .int .i64 lg.e, .int .i64 z] 67 := by rw [← hY6]; simpa using (((((h5.set 0 (.int .i64 lg.a)).set 1 (.int .i64 lg.b)).set 2 (.int .i64 lg.c)).set 3 (.int .i64 lg.d)).set 4 (.int .i64 lg.e)).set 5 (.int .i64 z)
      have hE6 : Ext w Y6 := by rw [← hY6]; exact (((((hE55.setCell (p := ⟨n0 + 1 + 1, 0, none⟩) (by rw [HN0.out]; simp; omega) _).setCell (p := ⟨n0 + 1 + 1, 1, none⟩) (by rw [HN0.out]; simp; omega) _).setCell (p := ⟨n0 + 1 + 1, 2, none⟩) (by rw [HN0.out]; simp; omega) _).setCell (p := ⟨n0 + 1 + 1, 3, none⟩) (by rw [HN0.out]; simp; omega) _).setCell (p := ⟨n0 + 1 + 1, 4, none⟩) (by rw [HN0.out]; simp; omega) _).setCell (p := ⟨n0 + 1 + 1, 5, none⟩) (by rw [HN0.out]; simp; omega) _
      have hnD : D ≠ n0 + 1 + 1 := by have := HZ.out; omega
      have hK6 : Y6.heap[D]? = some (.deferred (some [])) := by
        rw [← hY6]
        repeat rw [Below.heap_setCell _ _ _ _ (by simpa using hnD)]
        exact hK5
      rw [hY6]
      clear hY6 d0 d1 d2
      have hB7 : Blk (Y6.putObj D (.deferred none)) (n0 + 1 + 1) #[.int .i64 lg.a, .int .i64 lg.b, .int .i64 lg.c, .int .i64 lg.d, .int .i64 lg.e, .int .i64 z] 67 := ((grownBy_putObj' Y6 D _).block _ hB6.lt (by simpa using Ne.symm hnD)).trans hB6
      have q0 := hB7.cell
      have q1 := hB7.lt
      refine ⟨by simp, .inl ⟨_, _, rfl, run_takeDeferred hK6, ?_⟩⟩
      refine ⟨.tuple #[.slice a9 N c9, .agg #[.int .i64 lg.a, .int .i64 lg.b, .int .i64 lg.c, .int .i64 lg.d, .int .i64 lg.e, .int .i64 z], .int .i64 0], by simp [results, Tryz.results21, go_sem, q0, q1], ?_⟩
      have hxx : Ext w (Y6.putObj D (.deferred none)) := Below.trans hE6 (belowK_b (w := w) (Nat.le_refl _) Y6 D _ _ (by have := hE5.size; omega) hK6 rfl rfl)
      exact ⟨⟨_, lg.a, lg.b, lg.c, lg.d, lg.e, z, rfl⟩, hxx⟩
    case stop =>
      rintro D cd Y _ h _
      exact h.elim
end Go.Proofs.YtgloajbgphcloaaGreat.Ln
