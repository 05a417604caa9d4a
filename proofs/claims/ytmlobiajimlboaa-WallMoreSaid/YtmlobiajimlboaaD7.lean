/- The public Inward. -/
import Derived.Test.YtmlobiajimlboaaD6
namespace Go.Proofs.Ytmlobiajimlboaa
set_option linter.unusedVariables false
set_option linter.unusedSimpArgs false
open Go.RowKit
def firstZero : List Int → Nat → Option Nat
  | [], _ => none
  | x :: xs, k => if x = 0 then some k else firstZero xs (k + 1)
def inwardR : Option Nat → Int × Int
  | some i => (i, 0)
  | none => (0, 5)
def inwardOf (s : W.Shore) (c : W.Storm) (plan : List Int) (cell : Int) : Int × Int :=
  if (W.okB s c && W.planB s plan) && W.within cell 0 (s.cells.length - 1) then inwardR (firstZero ((W.play s plan (W.worst s c)).drop cell.toNat) cell.toNat) else (0, 2)
theorem inwardOf_ok {s : W.Shore} {c : W.Storm} {plan : List Int} {cell : Int} (h : (W.okB s c && W.planB s plan) = true) (h2 : W.within cell 0 (s.cells.length - 1) = true) :
    inwardOf s c plan cell = inwardR (firstZero ((W.play s plan (W.worst s c)).drop cell.toNat) cell.toNat) := by unfold inwardOf; rw [h, h2]; rfl
theorem inwardOf_bad {s : W.Shore} {c : W.Storm} {plan : List Int} {cell : Int} (h : (W.okB s c && W.planB s plan) = false ∨ W.within cell 0 (s.cells.length - 1) = false) : inwardOf s c plan cell = (0, 2) := by
  unfold inwardOf
  rcases h with h | h <;> rw [h] <;> simp
theorem firstZero_drop {Z : List Int} {k : Nat} (h : k < Z.length) : firstZero (Z.drop k) k = if Z[k] = 0 then some k else firstZero (Z.drop (k + 1)) (k + 1) := by
  rw [List.drop_eq_getElem_cons h]; rfl
set_option maxRecDepth 100000 in
set_option maxHeartbeats 2000000 in
theorem inwardQ_any (s : W.Shore) (c : W.Storm) (plan : List Int) (cell : Int) (vc vw vp : Value) (w : World) (hC : Cells w vc s.cells) (hW : Works w vw s.works) (hP : Ints w vp plan) (hn : s.cells.length ≤ 1000000) (hm : s.works.length ≤ 1000000) (hp : plan.length ≤ 1000000) :
    Calls Try.prog 42 #[shoreA s vc vw, stormA c, vp, .int .i64 cell] w fun e w' => e = .returned (.tuple #[.int .i64 (inwardOf s c plan cell).1, .int .i64 (inwardOf s c plan cell).2]) ∧ Ext w w' := by
  have hC' := hC
  have hW' := hW
  have hP' := hP
  obtain ⟨a1, c1, rfl, _⟩ := hC'
  obtain ⟨a2, c2, rfl, _⟩ := hW'
  obtain ⟨a3, c3, rfl, _⟩ := hP'
  obtain ⟨ok, hok⟩ : ∃ ok, (W.okB s c && W.planB s plan) = ok := ⟨_, rfl⟩
  have HG := Lib.hid (fun w' hx => given_any s c plan _ _ _ w' (hC.ext hx) (hW.ext hx) (hP.ext hx) hn hm hp)
  rw [hok] at HG
  have hGA := fun w' hx => HG.out w' hx
  clear HG
  have HG := Lib.hid hGA
  clear hGA
  cases ok with
  | false =>
    rw [inwardOf_bad (.inl hok)]
    clear hok
    go_enter Try.func42, Try.ntmps42
    go_wp2_with (first | (go_at_call 52; refine (HG.out _ (by (with_reducible (repeat (first | exact Ext.refl _ | assumption | apply Ext.alloc | apply Ext.drew | exact ext_plus _ _ | (apply Ext.setCell; rotate_left; (simp <;> omega)) | (apply Ext.trans; rotate_left; exact ext_plus _ _) | (apply Ext.trans; rotate_left; assumption)))))).mono ?_; rintro e w' ⟨rfl, hb⟩; have hc := hb.cells.1; have hz := hb.size; (try simp only [World.size_alloc, size_drew, size_drewN, size_setCell] at hz); have hs0 : w.heap.size < w'.heap.size := (by omega); have hs1 : w.heap.size + 1 < w'.heap.size := (by omega)))
    refine bodyPost_ret (v := .tuple #[.int .i64 0, .int .i64 2]) (by simp [results, Try.results42, go_sem]) rfl ⟨rfl, ?_⟩
    (with_reducible show Ext _ _; (with_reducible (repeat (first | exact Ext.refl _ | assumption | apply Ext.alloc | apply Ext.drew | exact ext_plus _ _ | (apply Ext.setCell; rotate_left; (simp <;> omega)) | (apply Ext.trans; rotate_left; exact ext_plus _ _) | (apply Ext.trans; rotate_left; assumption)))); done)
  | true =>
    obtain ⟨wi, hwi⟩ : ∃ wi, W.within cell 0 (s.cells.length - 1) = wi := ⟨_, rfl⟩
    have hin := in_any cell 0 (s.cells.length - 1)
    rw [hwi] at hin
    have HIN := Lib.hid hin
    clear hin
    cases wi with
    | false =>
      rw [inwardOf_bad (.inr hwi)]
      clear hok hwi
      go_enter Try.func42, Try.ntmps42
      go_wp2_with (first | (go_at_call 52; refine (HG.out _ (by (with_reducible (repeat (first | exact Ext.refl _ | assumption | apply Ext.alloc | apply Ext.drew | exact ext_plus _ _ | (apply Ext.setCell; rotate_left; (simp <;> omega)) | (apply Ext.trans; rotate_left; exact ext_plus _ _) | (apply Ext.trans; rotate_left; assumption)))))).mono ?_; rintro e w' ⟨rfl, hb⟩; have hc := hb.cells.1; have hz := hb.size; (try simp only [World.size_alloc, size_drew, size_drewN, size_setCell] at hz); have hs0 : w.heap.size < w'.heap.size := (by omega); have hs1 : w.heap.size + 1 < w'.heap.size := (by omega); have hbs : Blk w' w.heap.size #[.slice a1 s.cells.length c1, .slice a2 s.works.length c2, .int .i64 s.reef, .int .i64 s.ll, .int .i64 s.lh] 27 := Blk.ext ((Blk.new' rfl _ _).alloc _) hb; have hcs := hbs.cell) | (go_at_call 53; refine (HIN.out _).mono ?_; rintro e w2 ⟨rfl, rfl⟩))
      refine bodyPost_ret (v := .tuple #[.int .i64 0, .int .i64 2]) (by simp [results, Try.results42, go_sem]) rfl ⟨rfl, ?_⟩
      (with_reducible show Ext _ _; (with_reducible (repeat (first | exact Ext.refl _ | assumption | apply Ext.alloc | apply Ext.drew | exact ext_plus _ _ | (apply Ext.setCell; rotate_left; (simp <;> omega)) | (apply Ext.trans; rotate_left; exact ext_plus _ _) | (apply Ext.trans; rotate_left; assumption)))); done)
    | true =>
      rw [inwardOf_ok hok hwi]
      have HSW := Lib.hid (sound_worst hok)
      have hci := W.within_iff.1 hwi
      obtain ⟨k0, rfl⟩ := Int.eq_ofNat_of_zero_le hci.1
      have hk0 : k0 < s.cells.length := by omega
      clear hok hwi hci
      simp only [Int.ofNat_eq_natCast, Int.toNat_natCast] at HIN ⊢
      have HW := Lib.hid (fun w' hx => worst_any s c _ (.slice a2 s.works.length c2) (.slice a3 plan.length c3) w' (hC.ext hx) hn)
      have HDW := Lib.hid (fun w' hx vd hd => depths_any s c plan (W.worst s c) _ _ _ vd w' HSW.out (hC.ext hx) (hW.ext hx) (hP.ext hx) hd)
      go_enter Try.func42, Try.ntmps42
      go_wp2_with (first | (go_at_call 52; refine (HG.out _ (by (with_reducible (repeat (first | exact Ext.refl _ | assumption | apply Ext.alloc | apply Ext.drew | exact ext_plus _ _ | (apply Ext.setCell; rotate_left; (simp <;> omega)) | (apply Ext.trans; rotate_left; exact ext_plus _ _) | (apply Ext.trans; rotate_left; assumption)))))).mono ?_; rintro e w' ⟨rfl, hb⟩; have hc := hb.cells.1; have hz := hb.size; (try simp only [World.size_alloc, size_drew, size_drewN, size_setCell] at hz); have hs0 : w.heap.size < w'.heap.size := (by omega); have hs1 : w.heap.size + 1 < w'.heap.size := (by omega); have hbs : Blk w' w.heap.size #[.slice a1 s.cells.length c1, .slice a2 s.works.length c2, .int .i64 s.reef, .int .i64 s.ll, .int .i64 s.lh] 27 := Blk.ext ((Blk.new' rfl _ _).alloc _) hb; have hcs := hbs.cell) | (go_at_call 53; refine (HIN.out _).mono ?_; rintro e w2 ⟨rfl, rfl⟩))
      have hE0 : Ext w w' := by (with_reducible (repeat (first | exact Ext.refl _ | assumption | apply Ext.alloc | apply Ext.drew | exact ext_plus _ _ | (apply Ext.setCell; rotate_left; (simp <;> omega)) | (apply Ext.trans; rotate_left; exact ext_plus _ _) | (apply Ext.trans; rotate_left; assumption))))
      obtain ⟨w1, hw1⟩ : ∃ w1, w'.alloc (.cells #[.slice a1 s.cells.length c1, .slice a2 s.works.length c2, .int .i64 s.reef, .int .i64 s.ll, .int .i64 s.lh, .int .i64 c.wl, .int .i64 c.wh, .int .i64 c.fl, .int .i64 c.fh, .int .i64 c.tl, .int .i64 c.th, .slice a3 plan.length c3] 91) = w1 := ⟨_, rfl⟩
      have hb8 : Blk w1 w'.heap.size #[.slice a1 s.cells.length c1, .slice a2 s.works.length c2, .int .i64 s.reef, .int .i64 s.ll, .int .i64 s.lh, .int .i64 c.wl, .int .i64 c.wh, .int .i64 c.fl, .int .i64 c.fh, .int .i64 c.tl, .int .i64 c.th, .slice a3 plan.length c3] 91 := by rw [← hw1]; exact Blk.new' rfl _ _
      have hE1 : Ext w w1 := by rw [← hw1]; exact hE0.alloc _
      rw [hw1]
      go_region_held3 (fun y => (∀ o, y.cell? ⟨w'.heap.size, o, none⟩ = (#[.slice a1 s.cells.length c1, .slice a2 s.works.length c2, .int .i64 s.reef, .int .i64 s.ll, .int .i64 s.lh, .int .i64 c.wl, .int .i64 c.wh, .int .i64 c.fl, .int .i64 c.fh, .int .i64 c.tl, .int .i64 c.th, .slice a3 plan.length c3] : Array Value)[o]?) ∧ Ext w1 y)
        (first | exact ⟨blk_of hb8 (by (with_reducible (repeat (first | exact Ext.refl _ | assumption | apply Ext.alloc | apply Ext.drew | exact ext_plus _ _ | (apply Ext.setCell; rotate_left; (simp <;> omega)) | (apply Ext.trans; rotate_left; exact ext_plus _ _) | (apply Ext.trans; rotate_left; assumption))))), by (with_reducible (repeat (first | exact Ext.refl _ | assumption | apply Ext.alloc | apply Ext.drew | exact ext_plus _ _ | (apply Ext.setCell; rotate_left; (simp <;> omega)) | (apply Ext.trans; rotate_left; exact ext_plus _ _) | (apply Ext.trans; rotate_left; assumption))))⟩)
        (first | (go_at_call 57; refine (HW.out _ (by (with_reducible (repeat (first | exact Ext.refl _ | assumption | apply Ext.alloc | apply Ext.drew | exact ext_plus _ _ | (apply Ext.setCell; rotate_left; (simp <;> omega)) | (apply Ext.trans; rotate_left; exact ext_plus _ _) | (apply Ext.trans; rotate_left; assumption)))))).mono ?_; rintro e y2 ⟨vd2, rfl, hv2, hy2, _⟩) | (go_at_call 54; refine (HDW.out _ (by (with_reducible (repeat (first | exact Ext.refl _ | assumption | apply Ext.alloc | apply Ext.drew | exact ext_plus _ _ | (apply Ext.setCell; rotate_left; (simp <;> omega)) | (apply Ext.trans; rotate_left; exact ext_plus _ _) | (apply Ext.trans; rotate_left; assumption))))) _ hv2).mono ?_; rintro e y4 ⟨v4, rfl, hv4, hy4⟩; obtain ⟨b4, k4, rfl, hx4⟩ := hv4))
      have hE14 : Ext w1 y4 := by rename_i hh; exact hh.2
      clear HG HW HDW hb8 hw1 hc hbs hcs hv2
      have hEy : Ext w y4 := hE1.trans hE14
      obtain ⟨Z, hZ⟩ : ∃ Z, W.play s plan (W.worst s c) = Z := ⟨_, rfl⟩
      have hlZ : Z.length = s.cells.length := by rw [← hZ]; exact W.depths_len _ _ _ _ _
      have HZ := Lib.hid hZ
      have HLZ := Lib.hid hlZ
      rw [hZ] at hx4 ⊢
      have hnZ : Z.length ≤ 1000000 := by omega
      clear hlZ hZ
      have HX4 := Lib.hid hx4
      clear hx4
      dsimp only [Exit.then]
      go_wp2
      go_loopw [13] (fun i wr => ∃ k : Nat, k ≤ Z.length ∧ i = .int .i64 k ∧ firstZero (Z.drop k0) k0 = firstZero (Z.drop k) k ∧ Ext y4 wr)
        (fun i _ => Z.length - (intOf i).toNat)
      case atStart => exact ⟨k0, by have := HLZ.out; omega, rfl, rfl, Ext.refl _⟩
      case round =>
        obtain ⟨k, hk, rfl, hfz, hEk⟩ := hrel
        have HFZ := Lib.hid hfz
        clear hfz
        have hcy := hEk.cells.1
        have hsz := hEk.size
        by_cases hlt : k < Z.length
        · obtain ⟨g4, o4, rfl, hg4, h04⟩ := HX4.out k hlt
          have q1 : g4 < wr.heap.size := by omega
          have HD := Lib.hid (firstZero_drop hlt)
          by_cases hz : Z[k] = 0
          · have hR : firstZero (Z.drop k0) k0 = some k := by rw [HFZ.out, HD.out, if_pos hz]
            have HR := Lib.hid hR
            clear hR
            rw [hz] at h04
            have HZZ := Lib.hid hz
            clear hz
            go_wp2
            refine bodyPost_ret (v := .tuple #[.int .i64 k, .int .i64 0]) (by simp [results, Try.results42, go_sem]) rfl ⟨?_, hEy.trans hEk⟩
            rw [HZ.out, HR.out]; rfl
          · have HR := Lib.hid (HFZ.out.trans (HD.out.trans (if_neg hz)))
            go_wp2
            go_roundw
            case rel => exact ⟨k + 1, by omega, by go_num, HR.out, hEk⟩
            case measure => simp [intOf]; omega
        · go_wp2
          have e : k = Z.length := by omega
          refine bodyPost_ret (v := .tuple #[.int .i64 0, .int .i64 5]) (by simp [results, Try.results42, go_sem]) rfl ⟨?_, hEy.trans hEk⟩
          rw [HZ.out, HFZ.out, e, List.drop_length]; rfl
end Go.Proofs.Ytmlobiajimlboaa
