/- How many houses stay dry, as the program tells it. -/
import Derived.Test.YtmlobiajimlboaaK2
namespace Go.Proofs.Ytmlobiajimlboaa
set_option linter.unusedVariables false
set_option linter.unusedSimpArgs false
open Go.RowKit
def dryN (s : W.Shore) (c : W.Storm) (plan : List Int) : Int := if W.okB s c && W.planB s plan then ((dryQ s c plan).length : Int) else -1
set_option maxRecDepth 100000 in
set_option maxHeartbeats 2000000 in
theorem dryN_any (s : W.Shore) (c : W.Storm) (plan : List Int) (vc vw vp : Value) (w : World) (hC : Cells w vc s.cells) (hW : Works w vw s.works) (hP : Ints w vp plan) (hn : s.cells.length ≤ 1000000) (hm : s.works.length ≤ 1000000) (hp : plan.length ≤ 1000000) :
    Calls Try.prog 44 #[shoreA s vc vw, stormA c, vp] w fun e w' => e = .returned (.int .i64 (dryN s c plan)) ∧ Ext w w' := by
  have hC' := hC
  have hW' := hW
  have hP' := hP
  obtain ⟨a1, c1, rfl, _⟩ := hC'
  obtain ⟨a2, c2, rfl, _⟩ := hW'
  obtain ⟨a3, c3, rfl, _⟩ := hP'
  have hdr := fun w' (hx : Ext w w') => dryQ_any s c plan _ _ _ w' (hC.ext hx) (hW.ext hx) (hP.ext hx) hn hm hp
  obtain ⟨B, hB⟩ : ∃ B, (W.okB s c && W.planB s plan) = B := ⟨_, rfl⟩
  have hdo : dryOf s c plan = if B then dryQ s c plan else [] := by unfold dryOf; rw [hB]
  have hdn : dryN s c plan = if B then ((dryQ s c plan).length : Int) else -1 := by unfold dryN; rw [hB]
  rw [hB, hdo] at hdr
  rw [hdn]
  clear hdn hdo hB
  have k2 : codeOf false = 2 := rfl
  have k0 : codeOf true = 0 := rfl
  cases B with
  | false =>
    simp only [Bool.false_eq_true, if_false, k2] at hdr ⊢
    have HDR := Lib.hid hdr
    clear hdr k0 k2
    go_enter Try.func44, Try.ntmps44
    go_wp2_with (first | (go_at_call 41; refine (HDR.out _ (by (with_reducible (repeat (first | exact Ext.refl _ | assumption | apply Ext.alloc | apply Ext.drew | exact ext_plus _ _ | (apply Ext.setCell; rotate_left; (simp <;> omega)) | (apply Ext.trans; rotate_left; exact ext_plus _ _) | (apply Ext.trans; rotate_left; assumption)))))).mono ?_; rintro e w1 ⟨vl, rfl, hvl, hb1⟩; obtain ⟨al, cl, rfl, _⟩ := hvl))
    go_ret
    exact ⟨rfl, by (with_reducible (repeat (first | exact Ext.refl _ | assumption | apply Ext.alloc | apply Ext.drew | exact ext_plus _ _ | (apply Ext.setCell; rotate_left; (simp <;> omega)) | (apply Ext.trans; rotate_left; exact ext_plus _ _) | (apply Ext.trans; rotate_left; assumption))))⟩
  | true =>
    simp only [if_true, k0] at hdr ⊢
    have HDR := Lib.hid hdr
    clear hdr k0 k2
    obtain ⟨D, hD⟩ : ∃ D, dryQ s c plan = D := ⟨_, rfl⟩
    rw [hD] at HDR
    rw [hD]
    clear hD
    go_enter Try.func44, Try.ntmps44
    go_wp2_with (first | (go_at_call 41; refine (HDR.out _ (by (with_reducible (repeat (first | exact Ext.refl _ | assumption | apply Ext.alloc | apply Ext.drew | exact ext_plus _ _ | (apply Ext.setCell; rotate_left; (simp <;> omega)) | (apply Ext.trans; rotate_left; exact ext_plus _ _) | (apply Ext.trans; rotate_left; assumption)))))).mono ?_; rintro e w1 ⟨vl, rfl, hvl, hb1⟩; obtain ⟨al, cl, rfl, _⟩ := hvl))
    go_ret
    exact ⟨rfl, by (with_reducible (repeat (first | exact Ext.refl _ | assumption | apply Ext.alloc | apply Ext.drew | exact ext_plus _ _ | (apply Ext.setCell; rotate_left; (simp <;> omega)) | (apply Ext.trans; rotate_left; exact ext_plus _ _) | (apply Ext.trans; rotate_left; assumption))))⟩
end Go.Proofs.Ytmlobiajimlboaa
