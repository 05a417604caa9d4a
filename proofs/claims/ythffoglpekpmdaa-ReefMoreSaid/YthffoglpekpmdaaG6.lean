/- Whether a place can be short: must gives up by a panic, recovers catches it. -/
import Derived.Test.YthffoglpekpmdaaG5
import Derived.Defers
import Derived.Recover
namespace Go.Proofs.Ythffoglpekpmdaa
set_option linter.unusedVariables false
set_option linter.unusedSimpArgs false
open Go.RowKit
/-- What must gives up with. -/
abbrev shortV (i d : Int) : Value := .iface 89 (.agg #[.int .i64 i, .int .i64 d])
def mustE : Option (Nat × Int) → Ending
  | none => .returned (.tuple #[])
  | some x => .panicked [{ v := shortV x.1 x.2, recovered := false }]
theorem short_drop (ps : List R.Place) (f : List Int) (k : Nat) (h1 : k < ps.length) (h2 : k < f.length) : R.shortFrom (ps.drop k) (f.drop k) k = if f[k] < ps[k].goal then some (k, ps[k].goal - f[k]) else R.shortFrom (ps.drop (k + 1)) (f.drop (k + 1)) (k + 1) := by
  rw [List.drop_eq_getElem_cons h1, List.drop_eq_getElem_cons h2]; rfl
set_option maxRecDepth 100000 in
set_option maxHeartbeats 16000000 in
theorem must_any (r : R.Reef) (plan : List Int) (vp vl : Value) (w : World) (hP : Places w vp r.places) (hPl : Ints w vl plan) (O : R.OkR r) (OL : R.OkL r plan) :
    Calls Try.prog 81 #[.agg (planV r vp vl)] w fun x w' => x = mustE (R.short r plan) ∧ Ext w w' := by
  have hP' := hP
  have hL' := hPl
  obtain ⟨a1, c1, rfl, hx1⟩ := hP'
  obtain ⟨a2, c2, rfl, _⟩ := hL'
  have hn1 : 0 < r.places.length := O.n1
  have hn4 := O.n4
  obtain ⟨mm, hmm⟩ := Int.eq_ofNat_of_zero_le (show 0 ≤ r.seasons by have := O.s1; omega)
  have hm4 : mm ≤ 4 := by have := O.s4; omega
  have hm1 : 1 ≤ mm := by have := O.s1; omega
  have hms : r.seasons.toNat = mm := by omega
  have T := R.okT_end (plan := plan) O false
  have HTR := Lib.hid (fun w' (hx : Ext w w') => truth_any r plan false _ _ w' (hP.ext hx) (hPl.ext hx) O OL)
  have HFO := Lib.hid (fun w' vs vg vt (hx : Ext w w') hs hg ht => follow_any' r plan (R.endT r plan false) _ _ vs vg vt w' (hP.ext hx) (hPl.ext hx) hs hg ht O T)
  have hlen := (R.fishOf_len r (R.endT r plan false)).trans hms
  have hrow := R.fishOf_row O T (s := mm - 1) (by omega)
  have hbd := fun i => R.fishOf_bd O T (s := mm - 1) (by omega) i
  have hend : (R.endOf r (R.endT r plan false)).fish = R.lat (R.fishOf r (R.endT r plan false)) (mm - 1) := by
    rw [R.fishOf_at _ _ (by omega)]; unfold R.endOf; rw [hms, Nat.sub_add_cancel hm1]
  have hsh : R.short r plan = R.shortFrom (r.places.drop 0) ((R.lat (R.fishOf r (R.endT r plan false)) (mm - 1)).drop 0) 0 := by
    unfold R.short; rw [hend]; rfl
  obtain ⟨X, hX⟩ : ∃ X, R.fishOf r (R.endT r plan false) = X := ⟨_, rfl⟩
  rw [hX] at hlen hrow hsh
  simp only [hX] at hbd
  have hmx : mm - 1 < X.length := by omega
  rw [lat_of hmx] at hrow hsh
  simp only [lat_of hmx] at hbd
  obtain ⟨S, hS⟩ : ∃ S, R.short r plan = S := ⟨_, rfl⟩
  rw [hS] at hsh ⊢
  have HX := Lib.hid hX
  have HX1 := Lib.hid hx1
  have HO := Lib.hid O
  have HSH := Lib.hid hsh
  have HBD := Lib.hid hbd
  have HROW := Lib.hid hrow
  have HLEN := Lib.hid hlen
  clear hX hS hsh hend hbd hrow hms hmm O OL T hx1 hlen
  go_enter Try.func81, Try.ntmps81
  go_upto_region 1 with (fail)
  obtain ⟨w1, hw1⟩ : ∃ w1, w.alloc (.cells (planV r (.slice a1 r.places.length c1) (.slice a2 plan.length c2)) 82) = w1 := ⟨_, rfl⟩
  have hbx : Blk w1 w.heap.size (planV r (.slice a1 r.places.length c1) (.slice a2 plan.length c2)) 82 := by rw [← hw1]; exact Blk.new' rfl _ _
  have hE1 : Ext w w1 := by rw [← hw1]; (with_reducible (repeat (first | exact Ext.refl _ | assumption | apply Ext.alloc | apply Ext.drew | exact ext_plus _ _ | (apply Ext.setCell; rotate_left; (simp <;> omega)) | (apply Ext.trans; rotate_left; exact ext_plus _ _) | (apply Ext.trans; rotate_left; assumption))))
  rw [hw1]
  clear hw1
  go_cut [2] from 7 to 42 (fun s3 wc => Lists wc s3 X ∧ Ext w1 wc)
  case first =>
    go_region_held3 (fun y => (∀ o, y.cell? ⟨w.heap.size, o, none⟩ = (planV r (.slice a1 r.places.length c1) (.slice a2 plan.length c2))[o]?) ∧ Ext w1 y)
      (first | exact ⟨blk_of hbx (by (with_reducible (repeat (first | exact Ext.refl _ | assumption | apply Ext.alloc | apply Ext.drew | exact ext_plus _ _ | (apply Ext.setCell; rotate_left; (simp <;> omega)) | (apply Ext.trans; rotate_left; exact ext_plus _ _) | (apply Ext.trans; rotate_left; assumption))))), by (with_reducible (repeat (first | exact Ext.refl _ | assumption | apply Ext.alloc | apply Ext.drew | exact ext_plus _ _ | (apply Ext.setCell; rotate_left; (simp <;> omega)) | (apply Ext.trans; rotate_left; exact ext_plus _ _) | (apply Ext.trans; rotate_left; assumption))))⟩)
      (first | (go_at_call 85; refine (HTR.out _ (hE1.trans (by (with_reducible (repeat (first | exact Ext.refl _ | assumption | apply Ext.alloc | apply Ext.drew | exact ext_plus _ _ | (apply Ext.setCell; rotate_left; (simp <;> omega)) | (apply Ext.trans; rotate_left; exact ext_plus _ _) | (apply Ext.trans; rotate_left; assumption))))))).mono ?_; rintro e y1 ⟨vs, vg, vt, rfl, h1s, h1g, h1t, hy1⟩; have k1 := hy1.cells.1; have k2 := hy1.cells.2; have k3 := hy1.size; (try simp only [size_drew, World.size_alloc] at k1 k2 k3); (try have k7 : w1.heap.size < y1.heap.size := (by omega))) | (go_at_call 52; refine (HFO.out _ _ _ _ (hE1.trans (by (with_reducible (repeat (first | exact Ext.refl _ | assumption | apply Ext.alloc | apply Ext.drew | exact ext_plus _ _ | (apply Ext.setCell; rotate_left; (simp <;> omega)) | (apply Ext.trans; rotate_left; exact ext_plus _ _) | (apply Ext.trans; rotate_left; assumption)))))) (h1s.ext (by (with_reducible show Ext _ _; (with_reducible (repeat (first | exact Ext.refl _ | assumption | apply Ext.alloc | apply Ext.drew | exact ext_plus _ _ | (apply Ext.setCell; rotate_left; (simp <;> omega)) | (apply Ext.trans; rotate_left; exact ext_plus _ _) | (apply Ext.trans; rotate_left; assumption)))); done))) (h1g.ext (by (with_reducible show Ext _ _; (with_reducible (repeat (first | exact Ext.refl _ | assumption | apply Ext.alloc | apply Ext.drew | exact ext_plus _ _ | (apply Ext.setCell; rotate_left; (simp <;> omega)) | (apply Ext.trans; rotate_left; exact ext_plus _ _) | (apply Ext.trans; rotate_left; assumption)))); done))) (h1t.ext (by (with_reducible show Ext _ _; (with_reducible (repeat (first | exact Ext.refl _ | assumption | apply Ext.alloc | apply Ext.drew | exact ext_plus _ _ | (apply Ext.setCell; rotate_left; (simp <;> omega)) | (apply Ext.trans; rotate_left; exact ext_plus _ _) | (apply Ext.trans; rotate_left; assumption)))); done)))).mono ?_; rintro e y2 ⟨v2, q1, q2, q3, q4, q5, rfl, h2, hy2⟩; have k4 := hy2.cells.1; have k5 := hy2.cells.2; have k6 := hy2.size; (try simp only [size_drew, World.size_alloc] at k4 k5 k6)))
    all_goals (dsimp only [Exit.then]; go_wp2; go_meet)
    all_goals rw [HX.out] at h2
    all_goals refine ⟨?_, ?_⟩
    all_goals first
      | (with_reducible refine ListsF.five h2 ?_ _ _ _ _ _; (try simp only [size_drew, World.size_alloc]); omega)
      | (with_reducible exact h2.lists.ext ((Ext.refl _).alloc _))
      | (with_reducible refine Ext.five ?_ ?_ _ _ _ _ _ <;> first | omega | (with_reducible show Ext _ _; (with_reducible (repeat (first | exact Ext.refl _ | assumption | apply Ext.alloc | apply Ext.drew | exact ext_plus _ _ | (apply Ext.setCell; rotate_left; (simp <;> omega)) | (apply Ext.trans; rotate_left; exact ext_plus _ _) | (apply Ext.trans; rotate_left; assumption)))); done))
      | (with_reducible show Ext _ _; (with_reducible (repeat (first | exact Ext.refl _ | assumption | apply Ext.alloc | apply Ext.drew | exact ext_plus _ _ | (apply Ext.setCell; rotate_left; (simp <;> omega)) | (apply Ext.trans; rotate_left; exact ext_plus _ _) | (apply Ext.trans; rotate_left; assumption)))); done)
  case rest =>
    obtain ⟨hLX, hE2⟩ := hcut
    rename World => w2
    have hEw2 := hE1.trans hE2
    have hbx2 := hbx.ext hE2
    clear HTR HFO hbx hE1
    obtain ⟨a3, c3, rfl, hx3⟩ := hLX
    obtain ⟨b3, off3, rfl, hb3, v3, h03, hv3, _⟩ := hx3 (mm - 1) hmx
    simp only [Nat.mul_one] at h03
    have hf := HROW.out
    have hbd := HBD.out
    have hsh := HSH.out
    have HLEN2 := Lib.hid HLEN.out
    obtain ⟨f, hff⟩ : ∃ f, X[mm - 1] = f := ⟨_, rfl⟩
    rw [hff] at hv3 hf hsh
    simp only [hff] at hbd
    clear hx3 HROW HBD HSH
    obtain ⟨a4, c4, rfl, hx4⟩ := hv3
    have HX4 := Lib.hid hx4
    rw [hf] at h03
    have HF := Lib.hid hf
    have HB := Lib.hid hbd
    have HS := Lib.hid hsh
    have hidx : IntKind.wrap .i64 ((X.length : Int) - 1) = ((mm - 1 : Nat) : Int) := by rw [IntWalk.i64_in _ (by have := HLEN.out; omega)]; have := HLEN.out; omega
    have hXl : (X.length : Int) - 1 = ((mm - 1 : Nat) : Int) := by have := HLEN.out; omega
    clear hx4 hff hbd hsh hf
    have d0 := hbx2.cell
    have d1 := hbx2.lt
    obtain ⟨m1, hm1'⟩ : ∃ m1, mm - 1 = m1 := ⟨_, rfl⟩
    rw [hm1'] at h03 hmx hidx hXl
    have hm1b : m1 ≤ 4 := by omega
    clear hm1' hidx
    go_wp2
    go_loopw [4, 5, 6, 21] (fun _ _ _ i wr => ∃ k : Nat, k ≤ r.places.length ∧ i = .int .i64 k ∧ S = R.shortFrom (r.places.drop k) (f.drop k) k ∧ w2 = wr) (fun _ _ _ i _ => r.places.length - (intOf i).toNat)
    case atStart => exact ⟨0, Nat.zero_le _, rfl, HS.out, rfl⟩
    case round =>
      obtain ⟨k, hk, rfl, hs, rfl⟩ := hrel
      by_cases hlt : k < r.places.length
      · obtain ⟨b, off, rfl, hb, hAt⟩ := HX1.out k hlt
        have hkf : k < f.length := by have := HF.out; omega
        obtain ⟨b4, off4, rfl, hb4, h04⟩ := HX4.out k hkf
        obtain ⟨p0, p1, p2, p3, p4, p5, p6, p7, p8, p9, p10, p11⟩ := place_cells (ate_stays _ _ _ _ _ _ hEw2 hb hAt)
        have hgo := HO.out.place k hlt
        have hfb := HB.out k
        rw [short_drop _ _ _ hlt hkf] at hs
        rw [pat_of hlt] at hgo
        rw [iat_of hkf] at hfb
        clear hAt
        obtain ⟨p, hp⟩ : ∃ p, r.places[k] = p := ⟨_, rfl⟩
        obtain ⟨F, hF⟩ : ∃ F, f[k] = F := ⟨_, rfl⟩
        rw [hp] at p0 p1 p2 p3 p4 p5 p6 p7 p8 p9 p10 p11 hs hgo
        rw [hF] at h04 hs hfb
        have l0 := hgo.l0
        have l1 := hgo.l1
        clear hp hF hgo
        by_cases hsh : F < p.goal
        · rw [if_pos hsh] at hs
          subst hs
          go_wp2
          exact ⟨rfl, rfl, hEw2⟩
        · rw [if_neg hsh] at hs
          have HS2 := Lib.hid hs
          clear hs
          go_wp2
          go_roundw
          case rel => exact ⟨k + 1, by omega, by go_num, HS2.out, by first | rfl | trivial⟩
          case measure => simp [intOf]; omega
      · obtain rfl : k = r.places.length := by omega
        rw [List.drop_length] at hs
        have hs2 : S = none := by rw [hs]; cases f.drop r.places.length with | nil => rfl | cons => rfl
        subst hs2
        go_wp2
        go_end0
        exact ⟨rfl, hEw2⟩
end Go.Proofs.Ythffoglpekpmdaa
