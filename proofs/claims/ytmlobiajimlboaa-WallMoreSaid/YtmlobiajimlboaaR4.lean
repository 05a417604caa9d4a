/- The document's definition: the level. -/
import Derived.Test.YtmlobiajimlboaaR3
namespace Go.Proofs.Ytmlobiajimlboaa
set_option linter.unusedVariables false
set_option linter.unusedSimpArgs false
open Go.RowKit
theorem rlevel_any (s : W.Shore) (t : W.Truth) (vc vw vd : Value) (w : World) (h0 : 0 ≤ t.wind) (h1 : t.wind ≤ 1000) (h2 : 0 ≤ t.fetch) (h3 : t.fetch ≤ 10000) (h4 : 0 ≤ t.loss) (h5 : t.loss ≤ 1000) (h6 : 0 ≤ s.reef) (h7 : s.reef ≤ 1000) (h8 : -5000 ≤ t.tide) (h9 : t.tide ≤ 5000) :
    Calls Try.prog 40 #[shoreA s vc vw, truthV t vd] w fun e w' => e = .returned (.int .i64 (W.level s t)) ∧ Ext w w' := by
  obtain ⟨r, hr⟩ := Int.eq_ofNat_of_zero_le h6
  have hr' : W.level s t = t.tide + W.reefN r t.loss (t.wind * t.fetch / 1000) := by unfold W.level W.wave; rw [hr]; rfl
  have hr7 : r ≤ 1000 := by omega
  rw [hr']
  show Calls Try.prog 40 #[.agg #[vc, vw, .int .i64 s.reef, .int .i64 s.ll, .int .i64 s.lh], truthV t vd] w _
  rw [hr]
  clear hr hr' h6 h7
  have hm := W.mul_bd h0 h1 h2 h3
  have hq : 0 ≤ t.wind * t.fetch / 1000 ∧ t.wind * t.fetch / 1000 ≤ 10000 := by omega
  have HB := Lib.hid (fun k => W.reefN_bd h4 h5 k hq.1)
  go_enter Try.func40, Try.ntmps40
  go_wp2
  go_loop [5, 6] (fun n i => ∃ k : Nat, k ≤ r ∧ i = .int .i64 k ∧ n = .int .i64 (W.reefN k t.loss (t.wind * t.fetch / 1000))) (fun _ i => r - (intOf i).toNat)
  case atStart => exact ⟨0, Nat.zero_le _, rfl, rfl⟩
  case round =>
    obtain ⟨k, hk, rfl, rfl⟩ := hrel
    have hb := HB.out k
    have hs := Lib.hid (W.reefN_succ t.loss k (t.wind * t.fetch / 1000))
    generalize hnk : W.reefN k t.loss (t.wind * t.fetch / 1000) = nk at hb hs ⊢
    have HNK := Lib.hid hnk
    clear hnk
    have hp := W.mul_bd hb.1 (show nk ≤ 10000 by omega) h4 h5
    have hd : 0 ≤ nk * t.loss / 1000 ∧ nk * t.loss / 1000 ≤ 10000 := by omega
    by_cases hlt : k < r
    · go_wp2
      go_round
      case rel => exact ⟨k + 1, by omega, by go_num, by rw [hs.out]; rfl⟩
      case measure => simp [intOf]; omega
    · go_wp2
      go_ret
      have e : k = r := by omega
      subst e
      refine ⟨ret_int ?_, ?_⟩
      · rw [HNK.out]
      · (with_reducible (repeat (first | exact Ext.refl _ | assumption | apply Ext.alloc | apply Ext.drew | exact ext_plus _ _ | (apply Ext.setCell; rotate_left; (simp <;> omega)) | (apply Ext.trans; rotate_left; exact ext_plus _ _) | (apply Ext.trans; rotate_left; assumption))))
end Go.Proofs.Ytmlobiajimlboaa
