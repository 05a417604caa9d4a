/- Play. -/
import Derived.Test.YtmlobiajimlboaaD2
namespace Go.Proofs.Ytmlobiajimlboaa
set_option linter.unusedVariables false
set_option linter.unusedSimpArgs false
open Go.RowKit
abbrev shoreA (s : W.Shore) (vc vw : Value) : Value := .agg #[vc, vw, .int .i64 s.reef, .int .i64 s.ll, .int .i64 s.lh]
abbrev stormA (c : W.Storm) : Value := .agg #[.int .i64 c.wl, .int .i64 c.wh, .int .i64 c.fl, .int .i64 c.fh, .int .i64 c.tl, .int .i64 c.th]
theorem drags_bad {s : W.Shore} {c : W.Storm} {plan : List Int} {t : W.Truth} (h : ∃ (k : Nat) (h1 : k < s.cells.length) (h2 : k < t.drags.length), W.within t.drags[k] s.cells[k].dl s.cells[k].dh = false) : W.playB s c plan t = false := by
  obtain ⟨k, h1, h2, h3⟩ := h
  cases e : W.dragsB s.cells t.drags with
  | true => rw [W.dragsB_at e k h1 h2] at h3; cases h3
  | false => simp [W.playB, W.truthB, e]
theorem play_bad {s : W.Shore} {c : W.Storm} {plan : List Int} {t : W.Truth} {ok : Bool} (hok : (W.okB s c && W.planB s plan) = ok)
    (h : ¬ ok = true ∨ ¬ W.within t.wind c.wl c.wh = true ∨ ¬ W.within t.fetch c.fl c.fh = true ∨ ¬ W.within t.tide c.tl c.th = true ∨ ¬ W.within t.loss s.ll s.lh = true ∨ ((t.drags.length : Int) != (s.cells.length : Int)) = true) : W.playB s c plan t = false := by
  cases e : W.playB s c plan t with
  | false => rfl
  | true =>
    exfalso
    unfold W.playB W.truthB at e
    rw [hok] at e
    simp only [Bool.and_eq_true] at e
    have hl := W.dragsB_len e.2.1.1.1.1
    simp [e.1, e.2.2, e.2.1.2, e.2.1.1.2, e.2.1.1.1.2, hl] at h
set_option maxRecDepth 100000 in
set_option maxHeartbeats 2000000 in
theorem play_any (s : W.Shore) (c : W.Storm) (plan : List Int) (t : W.Truth) (vc vw vp vd : Value) (w : World) (hC : Cells w vc s.cells) (hW : Works w vw s.works) (hP : Ints w vp plan) (hD : Ints w vd t.drags) (hn : s.cells.length ≤ 1000000) (hm : s.works.length ≤ 1000000) (hp : plan.length ≤ 1000000) (hd : t.drags.length ≤ 1000000) :
    Calls Try.prog 16 #[shoreA s vc vw, stormA c, vp, truthV t vd] w fun e w' => ∃ v, e = .returned (.tuple #[v, .int .i64 (codeOf (W.playB s c plan t))]) ∧ Ints w' v (playOf s c plan t) ∧ Ext w w' := by
  have hC' := hC
  have hW' := hW
  have hP' := hP
  have hD' := hD
  obtain ⟨a1, c1, rfl, hx1⟩ := hC'
  obtain ⟨a2, c2, rfl, _⟩ := hW'
  obtain ⟨a3, c3, rfl, _⟩ := hP'
  obtain ⟨a4, c4, rfl, hx4⟩ := hD'
  have HX1 := Lib.hid hx1
  have HX4 := Lib.hid hx4
  clear hx1 hx4
  obtain ⟨ok, hok⟩ : ∃ ok, (W.okB s c && W.planB s plan) = ok := ⟨_, rfl⟩
  have HG := Lib.hid (fun w' hx => given_any s c plan _ _ _ w' (hC.ext hx) (hW.ext hx) (hP.ext hx) hn hm hp)
  rw [hok] at HG
  have HOK := Lib.hid hok
  clear hok
  go_enter Try.func16, Try.ntmps16
  go_wp2_with (first | (go_at_call 52; refine (HG.out _ (by (with_reducible (repeat (first | exact Ext.refl _ | assumption | apply Ext.alloc | apply Ext.drew | exact ext_plus _ _ | (apply Ext.setCell; rotate_left; (simp <;> omega)) | (apply Ext.trans; rotate_left; exact ext_plus _ _) | (apply Ext.trans; rotate_left; assumption)))))).mono ?_; rintro e w' ⟨rfl, hb⟩; have hc := hb.cells.1; have hz := hb.size; (try simp only [World.size_alloc, size_drew, size_drewN, size_setCell] at hz); have hs0 : w.heap.size < w'.heap.size := (by omega); have hs1 : w.heap.size + 1 < w'.heap.size := (by omega); have hs2 : w.heap.size + 2 < w'.heap.size := (by omega)) | (go_at_call 53; refine (in_any _ _ _ _).mono ?_; rintro e w' ⟨rfl, rfl⟩))
  all_goals first
    | (have hpb := play_bad (t := t) HOK.out (by first | exact .inl (by assumption) | exact .inr (.inl (by assumption)) | exact .inr (.inr (.inl (by assumption))) | exact .inr (.inr (.inr (.inl (by assumption)))) | exact .inr (.inr (.inr (.inr (.inl (by assumption))))) | exact .inr (.inr (.inr (.inr (.inr (by assumption))))))
       rw [playOf, hpb]
       refine bodyPost_ret (v := .tuple #[.slice none 0 0, .int .i64 2]) (by simp [results, Try.results16, go_sem]) rfl ⟨_, rfl, Ints.nil _, ?_⟩
       (with_reducible show Ext _ _; (with_reducible (repeat (first | exact Ext.refl _ | assumption | apply Ext.alloc | apply Ext.drew | exact ext_plus _ _ | (apply Ext.setCell; rotate_left; (simp <;> omega)) | (apply Ext.trans; rotate_left; exact ext_plus _ _) | (apply Ext.trans; rotate_left; assumption)))); done))
    | skip
  have hbx0 : Blk w' w.heap.size #[.slice a1 s.cells.length c1, .slice a2 s.works.length c2, .int .i64 s.reef, .int .i64 s.ll, .int .i64 s.lh] 27 := Blk.ext (((Blk.new' rfl _ _).alloc _).alloc _) hb
  have hbx2 : Blk w' (w.heap.size + 1 + 1) #[.int .i64 t.wind, .int .i64 t.fetch, .int .i64 t.tide, .int .i64 t.loss, .slice a4 t.drags.length c4] 32 := Blk.ext (Blk.new' (by simp) _ _) hb
  have hEw : Ext w w' := by (with_reducible (repeat (first | exact Ext.refl _ | assumption | apply Ext.alloc | apply Ext.drew | exact ext_plus _ _ | (apply Ext.setCell; rotate_left; (simp <;> omega)) | (apply Ext.trans; rotate_left; exact ext_plus _ _) | (apply Ext.trans; rotate_left; assumption))))
  have e1 : ok = true := by assumption
  have e2 : W.within t.wind c.wl c.wh = true := by assumption
  have e3 : W.within t.fetch c.fl c.fh = true := by assumption
  have e4 : W.within t.tide c.tl c.th = true := by assumption
  have e5 : W.within t.loss s.ll s.lh = true := by assumption
  have e6 : ((t.drags.length : Int) != (s.cells.length : Int)) = false := by assumption
  simp only [e1, e2, e3, e4, e5, e6]
  have HLEN : Hid (t.drags.length = s.cells.length) := by
    have h1 : ((t.drags.length : Int) != (s.cells.length : Int)) = false := by assumption
    simp at h1
    show t.drags.length = s.cells.length
    omega
  have HW1 : Hid (W.playB s c plan t = W.dragsB s.cells t.drags) := by
    show W.playB s c plan t = _
    unfold W.playB W.truthB
    rw [HOK.out, e1, e2, e3, e4, e5]
    simp
  go_loopw [84] (fun i wr => ∃ k : Nat, k ≤ t.drags.length ∧ i = .int .i64 k ∧ (∀ (j : Nat) (h1 : j < s.cells.length) (h2 : j < t.drags.length), j < k → W.within t.drags[j] s.cells[j].dl s.cells[j].dh = true) ∧
      Blk wr w'.heap.size #[.slice a1 s.cells.length c1, .slice a2 s.works.length c2, .int .i64 s.reef, .int .i64 s.ll, .int .i64 s.lh, .int .i64 c.wl, .int .i64 c.wh, .int .i64 c.fl, .int .i64 c.fh, .int .i64 c.tl, .int .i64 c.th, .slice a3 plan.length c3] 91 ∧ Ext w' wr)
    (fun i _ => t.drags.length - (intOf i).toNat)
  case atStart => exact ⟨0, Nat.zero_le _, rfl, (fun j _ _ h => by omega), Blk.new' rfl _ _, by (with_reducible (repeat (first | exact Ext.refl _ | assumption | apply Ext.alloc | apply Ext.drew | exact ext_plus _ _ | (apply Ext.setCell; rotate_left; (simp <;> omega)) | (apply Ext.trans; rotate_left; exact ext_plus _ _) | (apply Ext.trans; rotate_left; assumption))))⟩
  case round =>
    obtain ⟨k, hk, rfl, hall, hbk, hEk⟩ := hrel
    have HALL := Lib.hid hall
    clear hall
    have hc0 := (Blk.ext hbx0 hEk).cell
    have hc2 := (Blk.ext hbx2 hEk).cell
    have hl0 := (Blk.ext hbx0 hEk).lt
    have hl2 := (Blk.ext hbx2 hEk).lt
    have hcb := hbk.cell
    have hlb := hbk.lt
    by_cases hlt : k < t.drags.length
    · have hkc : k < s.cells.length := by have := HLEN.out; omega
      obtain ⟨b, off, rfl, hb1, h0', h1', h2', h3'⟩ := HX1.out k hkc
      obtain ⟨b4, off4, rfl, hb4, h04⟩ := HX4.out k hlt
      have hcw := (hEw.trans hEk).cells.1
      have hsw := (hEw.trans hEk).size
      have k0 : b < wr.heap.size := by omega
      have k1 : b4 < wr.heap.size := by omega
      go_wp2_with (first | (go_at_call 53; refine (in_any _ _ _ _).mono ?_; rintro e w' ⟨rfl, rfl⟩))
      · have hpb := drags_bad (c := c) (plan := plan) ⟨k, hkc, hlt, by have h1 : (!W.within t.drags[k] s.cells[k].dl s.cells[k].dh) = true := (by assumption); simpa using h1⟩
        rw [playOf, hpb]
        refine bodyPost_ret (v := .tuple #[.slice none 0 0, .int .i64 2]) (by simp [results, Try.results16, go_sem]) rfl ⟨_, rfl, Ints.nil _, ?_⟩
        exact Ext.trans hEw (by (with_reducible (repeat (first | exact Ext.refl _ | assumption | apply Ext.alloc | apply Ext.drew | exact ext_plus _ _ | (apply Ext.setCell; rotate_left; (simp <;> omega)) | (apply Ext.trans; rotate_left; exact ext_plus _ _) | (apply Ext.trans; rotate_left; assumption)))))
      · have hgood : W.within t.drags[k] s.cells[k].dl s.cells[k].dh = true := by
          have h1 : (!W.within t.drags[k] s.cells[k].dl s.cells[k].dh) = false := (by assumption)
          simpa using h1
        go_roundw
        case rel =>
          refine ⟨k + 1, by omega, by go_num, fun j h1 h2 h3 => ?_, hbk.alloc _, hEk.alloc _⟩
          rcases Nat.lt_or_ge j k with h4 | h4
          · exact HALL.out j h1 h2 h4
          · obtain rfl : j = k := by omega
            exact hgood
        case measure => simp [intOf]; omega
    · have hPB : W.playB s c plan t = true := by
        rw [HW1.out]
        exact W.dragsB_of HLEN.out (fun j h1 h2 => HALL.out j h1 h2 (by omega))
      have hS : Sound s plan t := by
        unfold W.playB at hPB
        simp only [Bool.and_eq_true] at hPB
        exact sound_of hPB.1.1 hPB.1.2 hPB.2
      have hEq := hEw.trans hEk
      have HPB := Lib.hid hPB
      clear hPB
      go_wp2_with (first | (go_at_call 54; refine (depths_any s c plan t _ _ _ _ _ hS (hC.ext (by (with_reducible (repeat (first | exact Ext.refl _ | assumption | apply Ext.alloc | apply Ext.drew | exact ext_plus _ _ | (apply Ext.setCell; rotate_left; (simp <;> omega)) | (apply Ext.trans; rotate_left; exact ext_plus _ _) | (apply Ext.trans; rotate_left; assumption)))))) (hW.ext (by (with_reducible (repeat (first | exact Ext.refl _ | assumption | apply Ext.alloc | apply Ext.drew | exact ext_plus _ _ | (apply Ext.setCell; rotate_left; (simp <;> omega)) | (apply Ext.trans; rotate_left; exact ext_plus _ _) | (apply Ext.trans; rotate_left; assumption)))))) (hP.ext (by (with_reducible (repeat (first | exact Ext.refl _ | assumption | apply Ext.alloc | apply Ext.drew | exact ext_plus _ _ | (apply Ext.setCell; rotate_left; (simp <;> omega)) | (apply Ext.trans; rotate_left; exact ext_plus _ _) | (apply Ext.trans; rotate_left; assumption)))))) (hD.ext (by (with_reducible (repeat (first | exact Ext.refl _ | assumption | apply Ext.alloc | apply Ext.drew | exact ext_plus _ _ | (apply Ext.setCell; rotate_left; (simp <;> omega)) | (apply Ext.trans; rotate_left; exact ext_plus _ _) | (apply Ext.trans; rotate_left; assumption))))))).mono ?_; rintro e w' ⟨v, rfl, hv, hb2⟩))
      refine bodyPost_ret (v := .tuple #[v, .int .i64 0]) (by simp [results, Try.results16, go_sem]) rfl ⟨v, by rw [HPB.out]; rfl, by rw [playOf, if_pos HPB.out]; exact hv, ?_⟩
      exact Ext.trans hEq hb2
end Go.Proofs.Ytmlobiajimlboaa
