/- Which reefs and plans are as defined, as the document asks it. -/
import Derived.Test.YthffoglpekpmdaaD1
namespace Go.Proofs.Ythffoglpekpmdaa
set_option linter.unusedVariables false
set_option linter.unusedSimpArgs false
open Go.RowKit
set_option maxRecDepth 100000 in
set_option maxHeartbeats 16000000 in
theorem dreef_any (r : R.Reef) (vp : Value) (w : World) (hP : Places w vp r.places) (hn : r.places.length ≤ 1000000) :
    Calls Try.prog 28 #[.agg (reefV r vp)] w fun e w' => e = .returned (.bool (R.reefB r)) ∧ Ext w w' := by
  obtain ⟨a, cap, rfl, hx⟩ := hP
  have hx' := Lib.hid hx
  clear hx
  go_enter Try.func28, Try.ntmps28
  go_wp2
  have hb0 : Blk (w.alloc (.cells #[.slice a r.places.length cap, .int .i64 r.miss, .int .i64 r.seasons] 24)) w.heap.size #[.slice a r.places.length cap, .int .i64 r.miss, .int .i64 r.seasons] 24 := Blk.new' rfl _ _
  have hE0 : Ext w (w.alloc (.cells #[.slice a r.places.length cap, .int .i64 r.miss, .int .i64 r.seasons] 24)) := (Ext.refl _).alloc _
  obtain ⟨w1, hw1⟩ : ∃ w1, w.alloc (.cells #[.slice a r.places.length cap, .int .i64 r.miss, .int .i64 r.seasons] 24) = w1 := ⟨_, rfl⟩
  rw [hw1] at hb0 hE0 ⊢
  clear hw1
  obtain ⟨br, hbr0⟩ : ∃ br, w.heap.size = br := ⟨_, rfl⟩
  rw [hbr0] at hb0 ⊢
  clear hbr0
  go_loopw [3, 4] (fun i _ wr => ∃ k : Nat, k ≤ r.places.length ∧ i = .int .i64 k ∧ R.goodTo r.places k = true ∧ Ext w1 wr) (fun i _ _ => r.places.length - (intOf i).toNat)
  case atStart => exact ⟨0, Nat.zero_le _, rfl, rfl, Ext.refl _⟩
  case round =>
    rename World => wr
    obtain ⟨k, hk, rfl, hgood, hE⟩ := hrel
    have HG := Lib.hid hgood
    clear hgood
    have hbr := hb0.ext hE
    have hbc := hbr.cell
    have hbl := hbr.lt
    by_cases hlt : k < r.places.length
    · obtain ⟨b, off, rfl, hb, hAt⟩ := hx'.out k hlt
      have hAt2 := ate_stays _ _ _ _ _ _ (hE0.trans hE) hb hAt
      obtain ⟨h0, h1, h2, h3, h4, h5, h6, h7, h8, h9, h10, h11⟩ := place_cells hAt2
      have hpat : R.pat r.places k = r.places[k] := by simp [R.pat, hlt]
      have e : R.goodTo r.places (k + 1) = R.placeB r.places[k] k r.places.length := by rw [R.goodTo_succ, HG.out, hpat]; rfl
      have HE := Lib.hid e
      clear hAt hAt2 hpat e
      obtain ⟨p, hp⟩ : ∃ p, r.places[k] = p := ⟨_, rfl⟩
      rw [hp] at h0 h1 h2 h3 h4 h5 h6 h7 h8 h9 h10 h11 HE
      clear hp
      have hbad : R.placeB p k r.places.length = false → R.reefB r = false := fun h => by
        unfold R.reefB
        have : R.goodTo r.places r.places.length = false := by
          rw [Bool.eq_false_iff]
          intro hh
          have h2 := HE.out
          rw [h] at h2
          unfold R.goodTo at h2 hh
          rw [List.all_eq_true] at hh
          rw [Bool.eq_false_iff] at h2
          exact h2 (List.all_eq_true.2 fun i hi => hh i (by simp at hi ⊢; omega))
        rw [this]; rfl
      have HBAD := Lib.hid hbad
      clear hbad
      go_upto_region 5 with (fail)
      obtain ⟨wp, hwp⟩ : ∃ wp, wr.alloc (.cells #[.int .i64 p.count, .int .i64 p.room, .int .i64 p.gl, .int .i64 p.gh, .int .i64 p.drift, .int .i64 p.into, .int .i64 p.ol, .int .i64 p.oh, .int .i64 p.sl, .int .i64 p.sh, .int .i64 p.goal, .int .i64 p.worth] 46) = wp := ⟨_, rfl⟩
      have hpb : Blk wp wr.heap.size #[.int .i64 p.count, .int .i64 p.room, .int .i64 p.gl, .int .i64 p.gh, .int .i64 p.drift, .int .i64 p.into, .int .i64 p.ol, .int .i64 p.oh, .int .i64 p.sl, .int .i64 p.sh, .int .i64 p.goal, .int .i64 p.worth] 46 := by rw [← hwp]; exact Blk.new' rfl _ _
      have hEp : Ext wr wp := by rw [← hwp]; (with_reducible (repeat (first | exact Ext.refl _ | assumption | apply Ext.alloc | apply Ext.drew | exact ext_plus _ _ | (apply Ext.setCell; rotate_left; (simp <;> omega)) | (apply Ext.trans; rotate_left; exact ext_plus _ _) | (apply Ext.trans; rotate_left; assumption))))
      have hbrp := hbr.ext hEp
      rw [hwp]
      clear hwp hbr
      obtain ⟨bp, hbp⟩ : ∃ bp, wr.heap.size = bp := ⟨_, rfl⟩
      rw [hbp] at hpb ⊢
      have hHP := fun y (hy : Ext wp y) => (⟨(hpb.ext hy).cell, (hbrp.ext hy).cell⟩ : (∀ o, y.cell? ⟨bp, o, none⟩ = _) ∧ (∀ o, y.cell? ⟨br, o, none⟩ = _))
      have HHP := Lib.hid hHP
      have HEP := Lib.hid hEp
      have hE1p := hE.trans hEp
      have hEwp := hE0.trans hE1p
      obtain ⟨kp, kr⟩ := HHP.out wp (Ext.refl _)
      obtain ⟨n, hnn⟩ : ∃ n, r.places.length = n := ⟨_, rfl⟩
      rw [hnn] at kr hlt hn HE HBAD HHP
      have HNN := Lib.hid hnn
      clear hHP hEp hbp hpb hbrp hbc hbl hb0 h0 h1 h2 h3 h4 h5 h6 h7 h8 h9 h10 h11 hnn
      simp only [List.append_eq, List.cons_append, List.nil_append]
      go_wp2_with (first | (go_at_call 53; refine (din_any _ _ _ _).mono ?_; rintro e y ⟨rfl, rfl⟩) | (go_at_call 58; refine (dspan_any _ _ _ _).mono ?_; rintro e y ⟨rfl, hy⟩; clear kp kr; obtain ⟨kp, kr⟩ := HHP.out y (by (with_reducible (repeat (first | exact Ext.refl _ | assumption | apply Ext.alloc | apply Ext.drew | exact ext_plus _ _ | (apply Ext.setCell; rotate_left; (simp <;> omega)) | (apply Ext.trans; rotate_left; exact ext_plus _ _) | (apply Ext.trans; rotate_left; assumption)))))))
      all_goals first
        | (refine ⟨⟨k + 1, by have := HNN.out; omega, by go_num, ?_, by (with_reducible (repeat (first | exact Ext.refl _ | assumption | apply Ext.alloc | apply Ext.drew | exact ext_plus _ _ | (apply Ext.setCell; rotate_left; (simp <;> omega)) | (apply Ext.trans; rotate_left; exact ext_plus _ _) | (apply Ext.trans; rotate_left; assumption))))⟩, by have := HNN.out; simp [intOf]; omega⟩; rw [HE.out]; first | (simp [R.placeB, *]; done) | (simp [R.placeB, *]; omega) | (simp_all [R.placeB]; done) | (simp_all [R.placeB]; omega) | (rename_i hd; trace_state; sorry))
        | (go_ret; refine ⟨ret_bool (HBAD.out ?_).symm, by (with_reducible (repeat (first | exact Ext.refl _ | assumption | apply Ext.alloc | apply Ext.drew | exact ext_plus _ _ | (apply Ext.setCell; rotate_left; (simp <;> omega)) | (apply Ext.trans; rotate_left; exact ext_plus _ _) | (apply Ext.trans; rotate_left; assumption))))⟩; first | (simp [R.placeB, *]; done) | (simp [R.placeB, *]; (try intros); omega) | (simp_all [R.placeB]; done) | (simp_all [R.placeB]; omega) | (rename_i hd; rcases hd with ((hd | hd) | hd) | hd <;> (try simp at hd) <;> first | (simp [R.placeB, hd]; done) | (simp [R.placeB]; intros; omega)))
    · have e : k = r.places.length := by omega
      subst e
      go_wp2_with (first | (go_at_call 53; refine (din_any _ _ _ _).mono ?_; rintro e w' ⟨rfl, rfl⟩))
      all_goals (go_ret; refine ⟨ret_bool ?_, by (with_reducible (repeat (first | exact Ext.refl _ | assumption | apply Ext.alloc | apply Ext.drew | exact ext_plus _ _ | (apply Ext.setCell; rotate_left; (simp <;> omega)) | (apply Ext.trans; rotate_left; exact ext_plus _ _) | (apply Ext.trans; rotate_left; assumption))))⟩; unfold R.reefB; rw [HG.out]; simp [*])
end Go.Proofs.Ythffoglpekpmdaa
