/- The quota of a place. -/
import Derived.Test.YthffoglpekpmdaaG8
namespace Go.Proofs.Ythffoglpekpmdaa
set_option linter.unusedVariables false
set_option linter.unusedSimpArgs false
open Go.RowKit
theorem Ext.two {b : Nat} {w1 w : World} (h : Ext w1 w) (hb : w1.heap.size ≤ b) (u0 u1 : Value) : Ext w1 ((w.setCell ⟨b, 0, none⟩ u0).setCell ⟨b, 1, none⟩ u1) := (h.setCell (p := ⟨b, 0, none⟩) hb u0).setCell (p := ⟨b, 1, none⟩) hb u1
/-- Whether some place can be short if no more than m fish are taken of place k. -/
def quotaB (r : R.Reef) (plan : List Int) (k : Nat) (m : Int) : Bool := !(R.short (R.limited r k m) plan).isNone
set_option maxRecDepth 100000 in
set_option maxHeartbeats 8000000 in
theorem quota_any (r : R.Reef) (plan : List Int) (k : Nat) (m : Int) (vp vl : Value) (w0 w : World) (h0 : Ext w0 w) (hP : Places w0 vp r.places) (hL : Ints w0 vl plan) (O : R.OkR r) (OL : R.OkL r plan) (hk : k < r.places.length) (hm : 0 ≤ m)
    (br ba bl : Nat) (hr : Blk w br (reefV r vp) 24) (ha : Blk w ba #[.int .i64 k] 3) (hl : Blk w bl #[vl] 25) :
    Calls Try.prog 66 #[.int .i64 m, .pointer (some ⟨br, 0, none⟩), .pointer (some ⟨ba, 0, none⟩), .pointer (some ⟨bl, 0, none⟩)] w fun e w' => e = .returned (.bool (quotaB r plan k m)) ∧ Ext w w' := by
  have hP' := hP
  have hL' := hL
  obtain ⟨a1, c1, rfl, _⟩ := hP'
  obtain ⟨a2, c2, rfl, _⟩ := hL'
  have hli := fun w' (hx : Ext w w') => limited_any r k m _ w' (hP.ext (h0.trans hx)) (by have := O.n4; omega) hk
  have hre := fun w' v (hx : Ext w w') hv => recovers_any (R.limited r k m) plan v (.slice a2 plan.length c2) w' hv (hL.ext (h0.trans hx)) (R.okR_limited O k m hk hm) (R.okL_limited OL k m)
  have hB : quotaB r plan k m = !(R.short (R.limited r k m) plan).isNone := rfl
  rw [hB]
  have hll : (R.limited r k m).places.length = r.places.length := by simp [R.limited]
  obtain ⟨S, hS⟩ : ∃ S, R.short (R.limited r k m) plan = S := ⟨_, rfl⟩
  simp only [hS] at hre
  rw [hS]
  have HLI := Lib.hid hli
  have HRE := Lib.hid hre
  have HLL := Lib.hid hll
  clear hB hS hli hre hll O OL
  go_enter Try.func66, Try.ntmps66
  go_upto_region 1 with (fail)
  have d0 := hr.cell
  have d1 := ha.cell
  have d2 := hl.cell
  have e0 := hr.lt
  have e1 := ha.lt
  have e2 := hl.lt
  go_cut [7] from 8 to 17 (fun s7 wc => s7 = .bool S.isNone ∧ Ext w wc)
  case first =>
    go_region_held3 (fun y => (∀ o, y.cell? ⟨br, o, none⟩ = (reefV r (.slice a1 r.places.length c1))[o]?) ∧ (∀ o, y.cell? ⟨ba, o, none⟩ = (#[.int .i64 k] : Array Value)[o]?) ∧ (∀ o, y.cell? ⟨bl, o, none⟩ = (#[.slice a2 plan.length c2] : Array Value)[o]?) ∧ Ext w y)
      (first | exact ⟨blk_of hr (by (with_reducible (repeat (first | exact Ext.refl _ | assumption | apply Ext.alloc | apply Ext.drew | exact ext_plus _ _ | (apply Ext.setCell; rotate_left; (simp <;> omega)) | (apply Ext.trans; rotate_left; exact ext_plus _ _) | (apply Ext.trans; rotate_left; assumption))))), blk_of ha (by (with_reducible (repeat (first | exact Ext.refl _ | assumption | apply Ext.alloc | apply Ext.drew | exact ext_plus _ _ | (apply Ext.setCell; rotate_left; (simp <;> omega)) | (apply Ext.trans; rotate_left; exact ext_plus _ _) | (apply Ext.trans; rotate_left; assumption))))), blk_of hl (by (with_reducible (repeat (first | exact Ext.refl _ | assumption | apply Ext.alloc | apply Ext.drew | exact ext_plus _ _ | (apply Ext.setCell; rotate_left; (simp <;> omega)) | (apply Ext.trans; rotate_left; exact ext_plus _ _) | (apply Ext.trans; rotate_left; assumption))))), by (with_reducible (repeat (first | exact Ext.refl _ | assumption | apply Ext.alloc | apply Ext.drew | exact ext_plus _ _ | (apply Ext.setCell; rotate_left; (simp <;> omega)) | (apply Ext.trans; rotate_left; exact ext_plus _ _) | (apply Ext.trans; rotate_left; assumption))))⟩)
      (first | (go_at_call 67; refine (HLI.out _ (by (with_reducible show Ext _ _; (with_reducible (repeat (first | exact Ext.refl _ | assumption | apply Ext.alloc | apply Ext.drew | exact ext_plus _ _ | (apply Ext.setCell; rotate_left; (simp <;> omega)) | (apply Ext.trans; rotate_left; exact ext_plus _ _) | (apply Ext.trans; rotate_left; assumption)))); done))).mono ?_; rintro e y1 ⟨v1, rfl, hv1, hy1⟩; have hv1' := hv1; obtain ⟨a9, c9, rfl, _⟩ := hv1'; rw [HLL.out] at *; have k1 := hy1.cells.1; have k2 := hy1.cells.2; have k3 := hy1.size; (try simp only [size_drew, World.size_alloc] at k1 k2 k3); (try have k7 : w.heap.size < y1.heap.size := (by omega))) | (go_at_call 57; refine (HRE.out _ _ (by (with_reducible show Ext _ _; (with_reducible (repeat (first | exact Ext.refl _ | assumption | apply Ext.alloc | apply Ext.drew | exact ext_plus _ _ | (apply Ext.setCell; rotate_left; (simp <;> omega)) | (apply Ext.trans; rotate_left; exact ext_plus _ _) | (apply Ext.trans; rotate_left; assumption)))); done)) (hv1.ext (by (with_reducible show Ext _ _; (with_reducible (repeat (first | exact Ext.refl _ | assumption | apply Ext.alloc | apply Ext.drew | exact ext_plus _ _ | (apply Ext.setCell; rotate_left; (simp <;> omega)) | (apply Ext.trans; rotate_left; exact ext_plus _ _) | (apply Ext.trans; rotate_left; assumption)))); done)))).mono ?_; rintro e y2 ⟨rfl, hy2⟩; have k4 := hy2.cells.1; have k5 := hy2.cells.2; have k6 := hy2.size; (try simp only [size_drew, World.size_alloc] at k4 k5 k6)))
    all_goals (dsimp only [Exit.then]; go_wp2; go_meet)
    all_goals refine ⟨rfl, ?_⟩
    all_goals first
      | (with_reducible refine Ext.two ?_ ?_ _ _ <;> first | omega | (with_reducible show Ext _ _; (with_reducible (repeat (first | exact Ext.refl _ | assumption | apply Ext.alloc | apply Ext.drew | exact ext_plus _ _ | (apply Ext.setCell; rotate_left; (simp <;> omega)) | (apply Ext.trans; rotate_left; exact ext_plus _ _) | (apply Ext.trans; rotate_left; assumption)))); done))
      | (with_reducible show Ext _ _; (with_reducible (repeat (first | exact Ext.refl _ | assumption | apply Ext.alloc | apply Ext.drew | exact ext_plus _ _ | (apply Ext.setCell; rotate_left; (simp <;> omega)) | (apply Ext.trans; rotate_left; exact ext_plus _ _) | (apply Ext.trans; rotate_left; assumption)))); done)
  case rest =>
    obtain ⟨rfl, hE⟩ := hcut
    go_wp2
    go_ret
    exact ⟨ret_bool (by cases S <;> rfl), hE⟩
set_option maxRecDepth 100000 in
set_option maxHeartbeats 8000000 in
theorem least_quota (r : R.Reef) (plan : List Int) (k : Nat) (vp vl : Value) (w0 w : World) (h0 : Ext w0 w) (hP : Places w0 vp r.places) (hL : Ints w0 vl plan) (O : R.OkR r) (OL : R.OkL r plan) (hk : k < r.places.length)
    (br ba bl : Nat) (hr : Blk w br (reefV r vp) 24) (ha : Blk w ba #[.int .i64 k] 3) (hl : Blk w bl #[vl] 25) :
    Calls Try.prog 65 #[.int .i64 0, .int .i64 1000000, .func (.func 66) #[] #[.pointer (some ⟨br, 0, none⟩), .pointer (some ⟨ba, 0, none⟩), .pointer (some ⟨bl, 0, none⟩)]] w fun e w' => e = .returned (.int .i64 (R.least (quotaB r plan k) 40 0 1000001)) ∧ Ext w w' := by
  obtain ⟨V, hV⟩ : ∃ V, R.least (quotaB r plan k) 40 0 1000001 = V := ⟨_, rfl⟩
  rw [hV]
  have HV := Lib.hid hV
  have HQ := Lib.hid (fun w' (hx : Ext w w') m (hm : 0 ≤ m) => quota_any r plan k m vp vl w0 w' (h0.trans hx) hP hL O OL hk hm br ba bl (hr.ext hx) (ha.ext hx) (hl.ext hx))
  clear hV O OL
  go_enter Try.func65, Try.ntmps65
  go_wp2
  refine wp_scope_ret fun RR hR' => ?_
  go_wp2
  go_step3
  go_wp2
  go_loopw [7, 8, 9] (fun lo hi _ wr => ∃ (f : Nat) (low high : Int), lo = .int .i64 low ∧ hi = .int .i64 high ∧ 0 ≤ low ∧ low ≤ high ∧ high ≤ 1000001 ∧ high - low < 2 ^ f ∧ R.least (quotaB r plan k) f low high = V ∧ Ext w wr) (fun lo hi _ _ => ((intOf hi) - (intOf lo)).toNat)
  case atStart => exact ⟨40, 0, 1000001, rfl, rfl, by omega, by omega, by omega, (by rw [show (2 : Int) ^ 40 = 1099511627776 by decide]; omega), HV.out, Ext.refl _⟩
  case round =>
    rename World => wr
    obtain ⟨f, low, high, rfl, rfl, hl0, hlh, hh, hf, hV, hE⟩ := hrel
    by_cases he : low = high
    · subst he
      rw [R.least_end] at hV
      have HV2 := Lib.hid hV
      clear hV
      go_wp2
      refine hR' _ _ ?_
      go_ret
      exact ⟨ret_int HV2.out, hE⟩
    · have hd : 0 < high - low := by omega
      cases f with
      | zero => simp at hf; omega
      | succ f =>
        have hb := half_bd hd hf
        rw [R.least_step _ _ _ _ he] at hV
        have hd0 : 0 ≤ high - low := by omega
        obtain ⟨D, hD⟩ : ∃ D, (high - low) / 2 = D := ⟨_, rfl⟩
        rw [hD] at hb hV
        have hD2 : 0 ≤ D ∧ D < high - low := by omega
        have HV2 := Lib.hid hV
        have HB := Lib.hid hb
        clear hV hb hf
        go_wp2_with fail
        refine (HQ.out _ hE (low + D) (by omega)).mono ?_
        rintro e w' ⟨rfl, hE'⟩
        have hV3 := HV2.out
        obtain ⟨B, hB⟩ : ∃ B, quotaB r plan k (low + D) = B := ⟨_, rfl⟩
        rw [hB] at hV3 ⊢
        have HB2 := HB.out
        cases B with
        | true =>
          have HV3 := Lib.hid hV3
          clear hV3
          go_wp2
          go_roundw
          case rel => exact ⟨f, low, low + D, rfl, rfl, by omega, by omega, by omega, by omega, by simpa using HV3.out, hE.trans hE'⟩
          case measure => simp [intOf]; omega
        | false =>
          have HV3 := Lib.hid hV3
          clear hV3
          go_wp2
          go_roundw
          case rel => exact ⟨f, low + D + 1, high, rfl, rfl, by omega, by omega, by omega, by omega, by simpa using HV3.out, hE.trans hE'⟩
          case measure => simp [intOf]; omega
end Go.Proofs.Ythffoglpekpmdaa
