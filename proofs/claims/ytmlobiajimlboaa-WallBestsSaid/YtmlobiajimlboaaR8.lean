/- The document's definition: equal truths; numbers in lists; which list comes before. -/
import Derived.Test.YtmlobiajimlboaaK2
namespace Go.Proofs.Ytmlobiajimlboaa
set_option linter.unusedVariables false
set_option linter.unusedSimpArgs false
open Go.RowKit
theorem sameTruth_true (t : W.Truth) (va vb : Value) (w : World) (hA : Ints w va t.drags) (hB : Ints w vb t.drags) (hn : t.drags.length ≤ 1000000) :
    Calls Try.prog 39 #[truthV t va, truthV t vb] w fun e w' => e = .returned (.bool true) ∧ Ext w w' := by
  have hA' := hA
  have hB' := hB
  obtain ⟨a1, c1, rfl, _⟩ := hA'
  obtain ⟨a2, c2, rfl, _⟩ := hB'
  have HS := Lib.hid (fun w' (hx : Ext w w') => same_true t.drags _ _ w' (hA.ext hx) (hB.ext hx) hn)
  go_enter Try.func39, Try.ntmps39
  go_wp2_with (first | (go_at_call 19; refine (HS.out _ (by (with_reducible (repeat (first | exact Ext.refl _ | assumption | apply Ext.alloc | apply Ext.drew | exact ext_plus _ _ | (apply Ext.setCell; rotate_left; (simp <;> omega)) | (apply Ext.trans; rotate_left; exact ext_plus _ _) | (apply Ext.trans; rotate_left; assumption)))))).mono ?_; rintro e w1 ⟨rfl, hb1⟩))
  go_ret
  exact ⟨rfl, by (with_reducible (repeat (first | exact Ext.refl _ | assumption | apply Ext.alloc | apply Ext.drew | exact ext_plus _ _ | (apply Ext.setCell; rotate_left; (simp <;> omega)) | (apply Ext.trans; rotate_left; exact ext_plus _ _) | (apply Ext.trans; rotate_left; assumption))))⟩
end Go.Proofs.Ytmlobiajimlboaa
