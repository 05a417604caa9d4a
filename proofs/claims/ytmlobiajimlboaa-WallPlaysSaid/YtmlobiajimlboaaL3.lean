/- The law WallPlays. -/
import Derived.Test.YtmlobiajimlboaaE1
namespace Go.Proofs.Ytmlobiajimlboaa
set_option linter.unusedVariables false
set_option linter.unusedSimpArgs false
open Go.RowKit
theorem play_len (s : W.Shore) (plan : List Int) (t : W.Truth) : (W.play s plan t).length = s.cells.length := W.depths_len _ _ _ _ _
set_option maxRecDepth 100000 in
set_option maxHeartbeats 4000000 in
theorem wallPlays_law (s : W.Shore) (c : W.Storm) (plan : List Int) (t : W.Truth) (vc vw vp vd : Value) (w : World) (hC : Cells w vc s.cells) (hW : Works w vw s.works) (hP : Ints w vp plan) (hD : Ints w vd t.drags) :
    Calls Try.prog 3 #[shoreA s vc vw, stormA c, vp, truthV t vd] w fun e w' => e = .returned (.bool true) ∧ Ext w w' := by
  have hC' := hC
  have hW' := hW
  have hP' := hP
  have hD' := hD
  obtain ⟨a1, c1, rfl, _⟩ := hC'
  obtain ⟨a2, c2, rfl, _⟩ := hW'
  obtain ⟨a3, c3, rfl, _⟩ := hP'
  obtain ⟨a4, c4, rfl, _⟩ := hD'
  have hs := fun w' (hx : Ext w w') => short_any s _ _ w' (hC.ext hx) (hW.ext hx)
  by_cases hsh : shortB s = true ∧ plan.length ≤ 12 ∧ t.drags.length ≤ 12
  · obtain ⟨h1, h2, h3⟩ := hsh
    rw [h1] at hs
    have HS := Lib.hid hs
    have hn : s.cells.length ≤ 1000000 ∧ s.works.length ≤ 1000000 ∧ s.cells.length ≤ 12 := by simp [shortB] at h1; omega
    obtain ⟨hn, hm, hn12⟩ := hn
    obtain ⟨B, hB⟩ : ∃ B, (W.okB s c && W.planB s plan) = B := ⟨_, rfl⟩
    obtain ⟨T, hT⟩ : ∃ T, W.truthB s c t = T := ⟨_, rfl⟩
    have hpb : W.playB s c plan t = (B && T) := by unfold W.playB; rw [hB, hT]
    have hpl := fun w' (hx : Ext w w') => play_any s c plan t _ _ _ _ w' (hC.ext hx) (hW.ext hx) (hP.ext hx) (hD.ext hx) hn hm (by omega) (by omega)
    have hbu := fun w' (hx : Ext w w') => built_any s c plan _ _ _ w' (hC.ext hx) (hW.ext hx) (hP.ext hx) hn hm (by omega)
    have htr := fun w' (hx : Ext w w') => rtruth_any s c t _ (.slice a2 s.works.length c2) _ w' (hC.ext hx) (hD.ext hx) hn (by omega)
    have hpo : playOf s c plan t = if B && T then W.play s plan t else [] := by unfold playOf; rw [hpb]
    rw [hpb, hpo] at hpl
    rw [hB] at hbu
    rw [hT] at htr
    have HBU := Lib.hid hbu
    have HTR := Lib.hid htr
    have k2 : codeOf false = 2 := rfl
    have k0 : codeOf true = 0 := rfl
    clear hs h1 hpb hpo hbu htr
    cases B with
    | false =>
      simp only [Bool.false_and, Bool.false_eq_true, if_false, k2] at hpl
      have HPL := Lib.hid hpl
      clear hpl k2 k0 hB hT
      go_enter Try.func3, Try.ntmps3
      go_wp2_with (first | (go_at_call 14; refine (HS.out _ (by (with_reducible (repeat (first | exact Ext.refl _ | assumption | apply Ext.alloc | apply Ext.drew | exact ext_plus _ _ | (apply Ext.setCell; rotate_left; (simp <;> omega)) | (apply Ext.trans; rotate_left; exact ext_plus _ _) | (apply Ext.trans; rotate_left; assumption)))))).mono ?_; rintro e w1 ⟨rfl, hb1⟩; have hc1 := hb1.cells.1; have hz1 := hb1.size; (try simp only [World.size_alloc] at hz1); have p10 : w.heap.size < w1.heap.size := (by omega); have p11 : w.heap.size + 1 < w1.heap.size := (by omega); have p12 : w.heap.size + 1 + 1 < w1.heap.size := (by omega)) | (go_at_call 15; refine (known_any _).mono ?_; rintro e wk ⟨rfl, hbk⟩) | (go_at_call 16; refine (HPL.out _ (by (with_reducible (repeat (first | exact Ext.refl _ | assumption | apply Ext.alloc | apply Ext.drew | exact ext_plus _ _ | (apply Ext.setCell; rotate_left; (simp <;> omega)) | (apply Ext.trans; rotate_left; exact ext_plus _ _) | (apply Ext.trans; rotate_left; assumption)))))).mono ?_; rintro e w2 ⟨vl, rfl, hvl, hb2⟩; obtain ⟨al, cl, rfl, _⟩ := hvl; have hc2 := hb2.cells.1; have hz2 := hb2.size; (try simp only [World.size_alloc] at hz2); have p20 : w.heap.size < w2.heap.size := (by omega); have p21 : w.heap.size + 1 < w2.heap.size := (by omega); have p22 : w.heap.size + 1 + 1 < w2.heap.size := (by omega)) | (go_at_call 17; refine (HBU.out _ (by (with_reducible (repeat (first | exact Ext.refl _ | assumption | apply Ext.alloc | apply Ext.drew | exact ext_plus _ _ | (apply Ext.setCell; rotate_left; (simp <;> omega)) | (apply Ext.trans; rotate_left; exact ext_plus _ _) | (apply Ext.trans; rotate_left; assumption)))))).mono ?_; rintro e w3 ⟨rfl, hb3⟩; have hc3 := hb3.cells.1; have hz3 := hb3.size; (try simp only [World.size_alloc] at hz3); have p30 : w.heap.size < w3.heap.size := (by omega); have p31 : w.heap.size + 1 < w3.heap.size := (by omega); have p32 : w.heap.size + 1 + 1 < w3.heap.size := (by omega)) | (go_at_call 18; refine (HTR.out _ (by (with_reducible (repeat (first | exact Ext.refl _ | assumption | apply Ext.alloc | apply Ext.drew | exact ext_plus _ _ | (apply Ext.setCell; rotate_left; (simp <;> omega)) | (apply Ext.trans; rotate_left; exact ext_plus _ _) | (apply Ext.trans; rotate_left; assumption)))))).mono ?_; rintro e w4 ⟨rfl, hb4⟩; have hc4 := hb4.cells.1; have hz4 := hb4.size; (try simp only [World.size_alloc] at hz4); have p40 : w.heap.size < w4.heap.size := (by omega); have p41 : w.heap.size + 1 < w4.heap.size := (by omega); have p42 : w.heap.size + 1 + 1 < w4.heap.size := (by omega)))
      all_goals
        go_ret
        exact ⟨rfl, by (with_reducible (repeat (first | exact Ext.refl _ | assumption | apply Ext.alloc | apply Ext.drew | exact ext_plus _ _ | (apply Ext.setCell; rotate_left; (simp <;> omega)) | (apply Ext.trans; rotate_left; exact ext_plus _ _) | (apply Ext.trans; rotate_left; assumption))))⟩
    | true =>
      cases T with
      | false =>
        simp only [Bool.and_false, Bool.false_eq_true, if_false, k2] at hpl
        have HPL := Lib.hid hpl
        clear hpl k2 k0 hB hT
        go_enter Try.func3, Try.ntmps3
        go_wp2_with (first | (go_at_call 14; refine (HS.out _ (by (with_reducible (repeat (first | exact Ext.refl _ | assumption | apply Ext.alloc | apply Ext.drew | exact ext_plus _ _ | (apply Ext.setCell; rotate_left; (simp <;> omega)) | (apply Ext.trans; rotate_left; exact ext_plus _ _) | (apply Ext.trans; rotate_left; assumption)))))).mono ?_; rintro e w1 ⟨rfl, hb1⟩; have hc1 := hb1.cells.1; have hz1 := hb1.size; (try simp only [World.size_alloc] at hz1); have p10 : w.heap.size < w1.heap.size := (by omega); have p11 : w.heap.size + 1 < w1.heap.size := (by omega); have p12 : w.heap.size + 1 + 1 < w1.heap.size := (by omega)) | (go_at_call 15; refine (known_any _).mono ?_; rintro e wk ⟨rfl, hbk⟩) | (go_at_call 16; refine (HPL.out _ (by (with_reducible (repeat (first | exact Ext.refl _ | assumption | apply Ext.alloc | apply Ext.drew | exact ext_plus _ _ | (apply Ext.setCell; rotate_left; (simp <;> omega)) | (apply Ext.trans; rotate_left; exact ext_plus _ _) | (apply Ext.trans; rotate_left; assumption)))))).mono ?_; rintro e w2 ⟨vl, rfl, hvl, hb2⟩; obtain ⟨al, cl, rfl, _⟩ := hvl; have hc2 := hb2.cells.1; have hz2 := hb2.size; (try simp only [World.size_alloc] at hz2); have p20 : w.heap.size < w2.heap.size := (by omega); have p21 : w.heap.size + 1 < w2.heap.size := (by omega); have p22 : w.heap.size + 1 + 1 < w2.heap.size := (by omega)) | (go_at_call 17; refine (HBU.out _ (by (with_reducible (repeat (first | exact Ext.refl _ | assumption | apply Ext.alloc | apply Ext.drew | exact ext_plus _ _ | (apply Ext.setCell; rotate_left; (simp <;> omega)) | (apply Ext.trans; rotate_left; exact ext_plus _ _) | (apply Ext.trans; rotate_left; assumption)))))).mono ?_; rintro e w3 ⟨rfl, hb3⟩; have hc3 := hb3.cells.1; have hz3 := hb3.size; (try simp only [World.size_alloc] at hz3); have p30 : w.heap.size < w3.heap.size := (by omega); have p31 : w.heap.size + 1 < w3.heap.size := (by omega); have p32 : w.heap.size + 1 + 1 < w3.heap.size := (by omega)) | (go_at_call 18; refine (HTR.out _ (by (with_reducible (repeat (first | exact Ext.refl _ | assumption | apply Ext.alloc | apply Ext.drew | exact ext_plus _ _ | (apply Ext.setCell; rotate_left; (simp <;> omega)) | (apply Ext.trans; rotate_left; exact ext_plus _ _) | (apply Ext.trans; rotate_left; assumption)))))).mono ?_; rintro e w4 ⟨rfl, hb4⟩; have hc4 := hb4.cells.1; have hz4 := hb4.size; (try simp only [World.size_alloc] at hz4); have p40 : w.heap.size < w4.heap.size := (by omega); have p41 : w.heap.size + 1 < w4.heap.size := (by omega); have p42 : w.heap.size + 1 + 1 < w4.heap.size := (by omega)))
        all_goals
          go_ret
          exact ⟨rfl, by (with_reducible (repeat (first | exact Ext.refl _ | assumption | apply Ext.alloc | apply Ext.drew | exact ext_plus _ _ | (apply Ext.setCell; rotate_left; (simp <;> omega)) | (apply Ext.trans; rotate_left; exact ext_plus _ _) | (apply Ext.trans; rotate_left; assumption))))⟩
      | true =>
        simp only [Bool.and_true, if_true, k0] at hpl
        have HPL := Lib.hid hpl
        have hok := hB
        simp only [Bool.and_eq_true] at hok
        have S := sound_of hok.1 hok.2 hT
        have HRP := Lib.hid (fun w' (hx : Ext w w') => rplay_any s plan t _ _ _ _ w' S (hC.ext hx) (hW.ext hx) (hP.ext hx) (hD.ext hx))
        have hln := play_len s plan t
        obtain ⟨X, hX⟩ : ∃ X, W.play s plan t = X := ⟨_, rfl⟩
        rw [hX] at HPL HRP hln
        have HLN := Lib.hid (show X.length ≤ 1000000 by omega)
        clear hpl k2 k0 hB hT hok S hX hln
        go_enter Try.func3, Try.ntmps3
        go_wp2_with (first | (go_at_call 14; refine (HS.out _ (by (with_reducible (repeat (first | exact Ext.refl _ | assumption | apply Ext.alloc | apply Ext.drew | exact ext_plus _ _ | (apply Ext.setCell; rotate_left; (simp <;> omega)) | (apply Ext.trans; rotate_left; exact ext_plus _ _) | (apply Ext.trans; rotate_left; assumption)))))).mono ?_; rintro e w1 ⟨rfl, hb1⟩; have hc1 := hb1.cells.1; have hz1 := hb1.size; (try simp only [World.size_alloc] at hz1); have p10 : w.heap.size < w1.heap.size := (by omega); have p11 : w.heap.size + 1 < w1.heap.size := (by omega); have p12 : w.heap.size + 1 + 1 < w1.heap.size := (by omega)) | (go_at_call 15; refine (known_any _).mono ?_; rintro e wk ⟨rfl, hbk⟩) | (go_at_call 16; refine (HPL.out _ (by (with_reducible (repeat (first | exact Ext.refl _ | assumption | apply Ext.alloc | apply Ext.drew | exact ext_plus _ _ | (apply Ext.setCell; rotate_left; (simp <;> omega)) | (apply Ext.trans; rotate_left; exact ext_plus _ _) | (apply Ext.trans; rotate_left; assumption)))))).mono ?_; rintro e w2 ⟨vl, rfl, hvl, hb2⟩; have hvl2 := hvl; obtain ⟨al, cl, rfl, _⟩ := hvl2; have HVL := Lib.hid hvl; clear hvl; have hc2 := hb2.cells.1; have hz2 := hb2.size; (try simp only [World.size_alloc] at hz2); have p20 : w.heap.size < w2.heap.size := (by omega); have p21 : w.heap.size + 1 < w2.heap.size := (by omega); have p22 : w.heap.size + 1 + 1 < w2.heap.size := (by omega)) | (go_at_call 17; refine (HBU.out _ (by (with_reducible (repeat (first | exact Ext.refl _ | assumption | apply Ext.alloc | apply Ext.drew | exact ext_plus _ _ | (apply Ext.setCell; rotate_left; (simp <;> omega)) | (apply Ext.trans; rotate_left; exact ext_plus _ _) | (apply Ext.trans; rotate_left; assumption)))))).mono ?_; rintro e w3 ⟨rfl, hb3⟩; have hc3 := hb3.cells.1; have hz3 := hb3.size; (try simp only [World.size_alloc] at hz3); have p30 : w.heap.size < w3.heap.size := (by omega); have p31 : w.heap.size + 1 < w3.heap.size := (by omega); have p32 : w.heap.size + 1 + 1 < w3.heap.size := (by omega)) | (go_at_call 18; refine (HTR.out _ (by (with_reducible (repeat (first | exact Ext.refl _ | assumption | apply Ext.alloc | apply Ext.drew | exact ext_plus _ _ | (apply Ext.setCell; rotate_left; (simp <;> omega)) | (apply Ext.trans; rotate_left; exact ext_plus _ _) | (apply Ext.trans; rotate_left; assumption)))))).mono ?_; rintro e w4 ⟨rfl, hb4⟩; have hc4 := hb4.cells.1; have hz4 := hb4.size; (try simp only [World.size_alloc] at hz4); have p40 : w.heap.size < w4.heap.size := (by omega); have p41 : w.heap.size + 1 < w4.heap.size := (by omega); have p42 : w.heap.size + 1 + 1 < w4.heap.size := (by omega)) | (go_at_call 20; refine (HRP.out _ (by (with_reducible (repeat (first | exact Ext.refl _ | assumption | apply Ext.alloc | apply Ext.drew | exact ext_plus _ _ | (apply Ext.setCell; rotate_left; (simp <;> omega)) | (apply Ext.trans; rotate_left; exact ext_plus _ _) | (apply Ext.trans; rotate_left; assumption)))))).mono ?_; rintro e w5 ⟨vm, rfl, hvm, hb5, am, nm, cm, rfl⟩) | (go_at_call 19; refine (same_true _ _ _ _ (HVL.out.ext (by (with_reducible (repeat (first | exact Ext.refl _ | assumption | apply Ext.alloc | apply Ext.drew | exact ext_plus _ _ | (apply Ext.setCell; rotate_left; (simp <;> omega)) | (apply Ext.trans; rotate_left; exact ext_plus _ _) | (apply Ext.trans; rotate_left; assumption)))))) hvm HLN.out).mono ?_; rintro e w6 ⟨rfl, hb6⟩))
        all_goals
          go_ret
          exact ⟨rfl, by (with_reducible (repeat (first | exact Ext.refl _ | assumption | apply Ext.alloc | apply Ext.drew | exact ext_plus _ _ | (apply Ext.setCell; rotate_left; (simp <;> omega)) | (apply Ext.trans; rotate_left; exact ext_plus _ _) | (apply Ext.trans; rotate_left; assumption))))⟩
  · have hcs : shortB s = false ∨ (shortB s = true ∧ 12 < plan.length) ∨ (shortB s = true ∧ plan.length ≤ 12 ∧ 12 < t.drags.length) := by
      cases e : shortB s with
      | false => exact .inl rfl
      | true =>
        rcases Nat.lt_or_ge 12 plan.length with h | h
        · exact .inr (.inl ⟨rfl, h⟩)
        · rcases Nat.lt_or_ge 12 t.drags.length with h' | h'
          · exact .inr (.inr ⟨rfl, h, h'⟩)
          · exact absurd ⟨e, h, h'⟩ hsh
    clear hsh
    rcases hcs with h1 | ⟨h1, h2⟩ | ⟨h1, h2, h3⟩
    all_goals
      rw [h1] at hs
      have HS := Lib.hid hs
      clear hs h1
      go_enter Try.func3, Try.ntmps3
      go_wp2_with (first | (go_at_call 14; refine (HS.out _ (by (with_reducible (repeat (first | exact Ext.refl _ | assumption | apply Ext.alloc | apply Ext.drew | exact ext_plus _ _ | (apply Ext.setCell; rotate_left; (simp <;> omega)) | (apply Ext.trans; rotate_left; exact ext_plus _ _) | (apply Ext.trans; rotate_left; assumption)))))).mono ?_; rintro e w1 ⟨rfl, hb1⟩; have hc1 := hb1.cells.1; have hz1 := hb1.size; (try simp only [World.size_alloc] at hz1); have p10 : w.heap.size < w1.heap.size := (by omega); have p11 : w.heap.size + 1 < w1.heap.size := (by omega); have p12 : w.heap.size + 1 + 1 < w1.heap.size := (by omega)) | (go_at_call 15; refine (known_any _).mono ?_; rintro e wk ⟨rfl, hbk⟩))
      all_goals
        go_ret
        exact ⟨rfl, by (with_reducible (repeat (first | exact Ext.refl _ | assumption | apply Ext.alloc | apply Ext.drew | exact ext_plus _ _ | (apply Ext.setCell; rotate_left; (simp <;> omega)) | (apply Ext.trans; rotate_left; exact ext_plus _ _) | (apply Ext.trans; rotate_left; assumption))))⟩
end Go.Proofs.Ytmlobiajimlboaa
