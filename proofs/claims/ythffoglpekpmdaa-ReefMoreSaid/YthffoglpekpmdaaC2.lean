/- Which reefs and plans are as defined. -/
import Derived.Test.YthffoglpekpmdaaC1
import Derived.Test.YthffoglpekpmdaaDraw
namespace Go.Proofs.Ythffoglpekpmdaa
set_option linter.unusedVariables false
set_option linter.unusedSimpArgs false
open Go.RowKit
set_option maxRecDepth 100000 in
set_option maxHeartbeats 4000000 in
theorem valid_any (r : R.Reef) (vp : Value) (w : World) (hP : Places w vp r.places) (hn : r.places.length ≤ 1000000) :
    Calls Try.prog 59 #[.agg (reefV r vp)] w fun e w' => e = .returned (.bool (R.reefB r)) ∧ Ext w w' := by
  obtain ⟨a, cap, rfl, hx⟩ := hP
  have hx' := Lib.hid hx
  clear hx
  go_enter Try.func59, Try.ntmps59
  go_wp2
  have hb0 : Blk (w.alloc (.cells #[.slice a r.places.length cap, .int .i64 r.miss, .int .i64 r.seasons] 24)) w.heap.size #[.slice a r.places.length cap, .int .i64 r.miss, .int .i64 r.seasons] 24 := Blk.new' rfl _ _
  have hE0 : Ext w (w.alloc (.cells #[.slice a r.places.length cap, .int .i64 r.miss, .int .i64 r.seasons] 24)) := (Ext.refl _).alloc _
  obtain ⟨w1, hw1⟩ : ∃ w1, w.alloc (.cells #[.slice a r.places.length cap, .int .i64 r.miss, .int .i64 r.seasons] 24) = w1 := ⟨_, rfl⟩
  rw [hw1] at hb0 hE0 ⊢
  clear hw1
  go_loopw [3, 4, 8] (fun _ _ i wr => ∃ k : Nat, k ≤ r.places.length ∧ i = .int .i64 k ∧ R.goodTo r.places k = true ∧ Ext w1 wr) (fun _ _ i _ => r.places.length - (intOf i).toNat)
  case atStart => exact ⟨0, Nat.zero_le _, rfl, rfl, Ext.refl _⟩
  case round =>
    rename World => wr
    obtain ⟨k, hk, rfl, hgood, hE⟩ := hrel
    have HG := Lib.hid hgood
    clear hgood
    have hbr := hb0.ext hE
    have hbc := hbr.cell
    have hbl := hbr.lt
    by_cases hlt : k < r.places.length
    · obtain ⟨b, off, rfl, hb, hAt⟩ := hx'.out k hlt
      have hAt2 := ate_stays _ _ _ _ _ _ (hE0.trans hE) hb hAt
      obtain ⟨h0, h1, h2, h3, h4, h5, h6, h7, h8, h9, h10, h11⟩ := place_cells hAt2
      have hpat : R.pat r.places k = r.places[k] := by simp [R.pat, hlt]
      have HPA := Lib.hid hpat
      clear hAt hAt2 hpat
      obtain ⟨p, hp⟩ : ∃ p, r.places[k] = p := ⟨_, rfl⟩
      rw [hp] at h0 h1 h2 h3 h4 h5 h6 h7 h8 h9 h10 h11 HPA
      clear hp
      have hpl := fun w' => place_any p (k : Int) (r.places.length : Int) (by omega) (by omega) w'
      have e : R.goodTo r.places (k + 1) = placeB' p k r.places.length := by
        rw [R.goodTo_succ, HG.out, HPA.out, placeB'_eq _ _ _ (by omega) (by omega)]; rfl
      have HE := Lib.hid e
      clear e
      obtain ⟨B, hB⟩ : ∃ B, placeB' p k r.places.length = B := ⟨_, rfl⟩
      rw [hB] at HE
      simp only [hB] at hpl
      have HPL := Lib.hid hpl
      clear hpl hB
      cases B with
      | true =>
        go_wp2_with (first | (go_at_call 82; refine (HPL.out _).mono ?_; rintro e w' ⟨rfl, hE'⟩))
        go_roundw
        case rel => exact ⟨k + 1, by omega, by go_num, HE.out, by (with_reducible (repeat (first | exact Ext.refl _ | assumption | apply Ext.alloc | apply Ext.drew | exact ext_plus _ _ | (apply Ext.setCell; rotate_left; (simp <;> omega)) | (apply Ext.trans; rotate_left; exact ext_plus _ _) | (apply Ext.trans; rotate_left; assumption))))⟩
        case measure => simp [intOf]; omega
      | false =>
        go_wp2_with (first | (go_at_call 82; refine (HPL.out _).mono ?_; rintro e w' ⟨rfl, hE'⟩))
        go_ret
        refine ⟨ret_bool ?_, by (with_reducible (repeat (first | exact Ext.refl _ | assumption | apply Ext.alloc | apply Ext.drew | exact ext_plus _ _ | (apply Ext.setCell; rotate_left; (simp <;> omega)) | (apply Ext.trans; rotate_left; exact ext_plus _ _) | (apply Ext.trans; rotate_left; assumption))))⟩
        have h := HE.out
        have hle : k + 1 ≤ r.places.length := hlt
        unfold R.reefB
        have : R.goodTo r.places r.places.length = false := by
          rw [Bool.eq_false_iff]
          intro hh
          unfold R.goodTo at h hh
          rw [List.all_eq_true] at hh
          rw [Bool.eq_false_iff] at h
          exact h (List.all_eq_true.2 fun i hi => hh i (by simp at hi ⊢; omega))
        rw [this]; rfl
    · obtain rfl : k = r.places.length := by omega
      go_wp2_with (first | (go_at_call 64; refine (in_any _ _ _ _).mono ?_; rintro e w' ⟨rfl, rfl⟩))
      all_goals (go_ret; refine ⟨ret_bool ?_, by (with_reducible (repeat (first | exact Ext.refl _ | assumption | apply Ext.alloc | apply Ext.drew | exact ext_plus _ _ | (apply Ext.setCell; rotate_left; (simp <;> omega)) | (apply Ext.trans; rotate_left; exact ext_plus _ _) | (apply Ext.trans; rotate_left; assumption))))⟩; unfold R.reefB; rw [HG.out]; simp [*])
theorem check_any (r : R.Reef) (vp : Value) (w : World) (hP : Places w vp r.places) (hn : r.places.length ≤ 1000000) :
    Calls Try.prog 45 #[.agg (reefV r vp)] w fun e w' => e = .returned (.int .i64 (if R.reefB r then 0 else 2)) ∧ Ext w w' := by
  have hP' := hP
  obtain ⟨a, cap, rfl, _⟩ := hP'
  go_enter Try.func45, Try.ntmps45
  go_wp2_with (first | (go_at_call 59; refine (valid_any r _ _ (hP.ext (by (with_reducible (repeat (first | exact Ext.refl _ | assumption | apply Ext.alloc | apply Ext.drew | exact ext_plus _ _ | (apply Ext.setCell; rotate_left; (simp <;> omega)) | (apply Ext.trans; rotate_left; exact ext_plus _ _) | (apply Ext.trans; rotate_left; assumption)))))) hn).mono ?_; rintro e w' ⟨rfl, hb⟩))
  all_goals (go_ret; refine ⟨ret_int (by cases h : R.reefB r <;> simp_all), ?_⟩)
  all_goals (with_reducible (repeat (first | exact Ext.refl _ | assumption | apply Ext.alloc | apply Ext.drew | exact ext_plus _ _ | (apply Ext.setCell; rotate_left; (simp <;> omega)) | (apply Ext.trans; rotate_left; exact ext_plus _ _) | (apply Ext.trans; rotate_left; assumption))))
end Go.Proofs.Ythffoglpekpmdaa
