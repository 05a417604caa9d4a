/- A reef of which no more is taken at a place. -/
import Derived.Test.YthffoglpekpmdaaG7
namespace Go.Proofs.Ythffoglpekpmdaa
set_option linter.unusedVariables false
set_option linter.unusedSimpArgs false
open Go.RowKit
def withOpen (p : R.Place) (a b : Int) : R.Place := { p with ol := a, oh := b }
/-- A row of places, the takes of an open one stored anew. -/
theorem RowB.set_open {w : World} {g : Nat} {xs : List R.Place} (h : RowB placeC 12 46 w g xs) (i : Nat) (hi : i < xs.length) (a b : Int) :
    RowB placeC 12 46 ((w.setCell ⟨g, i * 12 + 6, none⟩ (.int .i64 a)).setCell ⟨g, i * 12 + 6 + 1, none⟩ (.int .i64 b)) g (xs.set i (withOpen xs[i] a b)) := by
  obtain ⟨cs, hB, hc⟩ := h
  refine ⟨_, (hB.set _ _).set _ _, fun k hk j u hu => ?_⟩
  have hk' : k < xs.length := by simpa using hk
  have hj : j < 12 := (List.getElem?_eq_some_iff.1 hu).1
  rw [List.getElem_set] at hu
  have h6 := hc k hk' 6 _ rfl
  have h7 := hc k hk' 7 _ rfl
  obtain ⟨z6, _⟩ := Array.getElem?_eq_some_iff.1 h6
  obtain ⟨z7, _⟩ := Array.getElem?_eq_some_iff.1 h7
  by_cases e : i = k
  · subst e
    rw [if_pos rfl] at hu
    have hcj := fun v hv => hc i hk' j v hv
    have h01 : j = 0 ∨ j = 1 ∨ j = 2 ∨ j = 3 ∨ j = 4 ∨ j = 5 ∨ j = 6 ∨ j = 7 ∨ j = 8 ∨ j = 9 ∨ j = 10 ∨ j = 11 := by omega
    rcases h01 with rfl | rfl | rfl | rfl | rfl | rfl | rfl | rfl | rfl | rfl | rfl | rfl
    case inr.inr.inr.inr.inr.inr.inl => simp [placeC, withOpen] at hu; simp [Array.getElem?_setIfInBounds, z6, hu]
    case inr.inr.inr.inr.inr.inr.inr.inl => simp [placeC, withOpen] at hu; simp [Array.getElem?_setIfInBounds, z7, hu]
    all_goals
      rw [Array.getElem?_setIfInBounds, if_neg (by omega), Array.getElem?_setIfInBounds, if_neg (by omega)]
      exact hcj u hu
  · rw [if_neg e] at hu
    rw [Array.getElem?_setIfInBounds, if_neg (by omega), Array.getElem?_setIfInBounds, if_neg (by omega)]
    exact hc k hk' j u hu
theorem min_if (a b : Int) : min a b = if a < b then a else b := by split <;> omega
set_option maxRecDepth 100000 in
set_option maxHeartbeats 8000000 in
theorem limited_any (r : R.Reef) (k : Nat) (m : Int) (vp : Value) (w : World) (hP : Places w vp r.places) (hn : r.places.length ≤ 1000000) (hk : k < r.places.length) :
    Calls Try.prog 67 #[.agg (reefV r vp), .int .i64 k, .int .i64 m] w fun e w' => ∃ v, e = .returned (.agg (reefV r v)) ∧ Places w' v (R.limited r k m).places ∧ Ext w w' := by
  have hP' := hP
  obtain ⟨a1, c1, rfl, _⟩ := hP'
  have hcl := fun w' hx => clone_places _ r.places w' (hP.ext hx) hn
  have HCL := Lib.hid hcl
  have hlim : (R.limited r k m).places = r.places.set k (withOpen r.places[k] (if r.places[k].ol < m then r.places[k].ol else m) (if r.places[k].oh < m then r.places[k].oh else m)) := by
    unfold R.limited; rw [pat_of hk]; rfl
  have HLIM := Lib.hid hlim
  clear hcl hlim
  go_enter Try.func67, Try.ntmps67
  go_upto_region 2 with (first | (go_at_call 84; refine (HCL.out _ (by (with_reducible (repeat (first | exact Ext.refl _ | assumption | apply Ext.alloc | apply Ext.drew | exact ext_plus _ _ | (apply Ext.setCell; rotate_left; (simp <;> omega)) | (apply Ext.trans; rotate_left; exact ext_plus _ _) | (apply Ext.trans; rotate_left; assumption)))))).mono ?_; rintro e w2 ⟨v2, rfl, hown, hE2⟩; obtain ⟨g, cap, rfl, hg0, hg1⟩ := own_pos hown (by omega); have hbx := Blk.ext ((Blk.new' (w := w) rfl (reefV r (.slice a1 r.places.length c1)) 24).alloc (.cells #[.slice none 0 0, .int .i64 0, .int .i64 0] 24)) hE2; have d0 := hbx.cell; have d1 := hbx.free; have d2 := hbx.lt))
  simp only [World.size_alloc] at hg0
  have hbr := Blk.ext (Blk.new' (w := w.alloc (.cells (reefV r (.slice a1 r.places.length c1)) 24)) (b := w.heap.size + 1) (by simp) #[.slice none 0 0, .int .i64 0, .int .i64 0] 24) hE2
  have hEw2 : Ext w w2 := (((Ext.refl w).alloc _).alloc _).trans hE2
  have hrow : RowB placeC 12 46 w2 g r.places := RowB.of_own (f := placeC) placeC_len hown
  have hbx3 := hbx.set 0 (.slice (some ⟨g, 0, none⟩) r.places.length cap)
  have hbr3 := hbr.other (a := ⟨w.heap.size, 0, none⟩) (by simp) (.slice (some ⟨g, 0, none⟩) r.places.length cap)
  have hrow3 := hrow.other (a := ⟨w.heap.size, 0, none⟩) (by simp; omega) (.slice (some ⟨g, 0, none⟩) r.places.length cap)
  have hEw3 := hEw2.setCell (p := ⟨w.heap.size, 0, none⟩) (Nat.le_refl _) (.slice (some ⟨g, 0, none⟩) r.places.length cap)
  obtain ⟨w3, hw3⟩ : ∃ w3, w2.setCell ⟨w.heap.size, 0, none⟩ (.slice (some ⟨g, 0, none⟩) r.places.length cap) = w3 := ⟨_, rfl⟩
  rw [hw3] at hbx3 hbr3 hrow3 hEw3 ⊢
  clear hw3 d0 d1 d2 hown hrow hbx hbr hE2 hg1
  have hcell := fun j u hu => hrow3.cell k hk j u hu
  have x6 := hcell 6 _ rfl
  have x7 := hcell 7 _ rfl
  have hset := fun a b => hrow3.set_open k hk a b
  have HSET := Lib.hid hset
  obtain ⟨p, hp⟩ : ∃ p, r.places[k] = p := ⟨_, rfl⟩
  rw [hp] at x6 x7
  have HP := Lib.hid hp
  clear hp hcell hset
  have d0 := hbx3.cell
  have d1 := hbx3.lt
  have g1 := hrow3.lt
  go_upto_region 3 with (fail)
  have hpc := plus_cell
  refine wp_region_ext 18 (fun _ _ d _ _ h => by cases d <;> exact h) (by kernel_rfl) (by kernel_rfl) (by kernel_rfl) (by kernel_rfl) ?_
  simp only [List.take_succ_cons, List.take_zero, List.drop_succ_cons, List.drop_zero]
  repeat (any_goals (first | go_big_quiet_step (fail) | quiet_step (fail)))
  all_goals (refine wpQuiet_nil ?_; intro w4 hE4)
  have e6 := (hE4.cells.1 _ (k * 12 + 6) g1).trans x6
  have e7 := (hE4.cells.1 _ (k * 12 + 7) g1).trans x7
  have f6 := (hrow3.ext hE4).free
  go_upto_region 4 with (fail)
  rw [min_if p.ol m, min_if p.oh m]
  have hlim := HLIM.out
  rw [HP.out] at hlim
  obtain ⟨A, hA⟩ : ∃ A, (if p.ol < m then p.ol else m) = A := ⟨_, rfl⟩
  obtain ⟨B, hB⟩ : ∃ B, (if p.oh < m then p.oh else m) = B := ⟨_, rfl⟩
  rw [hA, hB] at hlim ⊢
  have hs5 := (hrow3.ext hE4).set_open k hk A B
  have hbx5 := ((hbx3.ext hE4).other (a := ⟨g, k * 12 + 6, none⟩) (by simp; omega) (.int .i64 A)).other (a := ⟨g, k * 12 + 6 + 1, none⟩) (by simp; omega) (.int .i64 B)
  have hbr5 := ((hbr3.ext hE4).other (a := ⟨g, k * 12 + 6, none⟩) (by simp; omega) (.int .i64 A)).other (a := ⟨g, k * 12 + 6 + 1, none⟩) (by simp; omega) (.int .i64 B)
  have hE5 := ((hEw3.trans hE4).setCell (p := ⟨g, k * 12 + 6, none⟩) (by simp; omega) (.int .i64 A)).setCell (p := ⟨g, k * 12 + 6 + 1, none⟩) (by simp; omega) (.int .i64 B)
  obtain ⟨w5, hw5⟩ : ∃ w5, (w4.setCell ⟨g, k * 12 + 6, none⟩ (.int .i64 A)).setCell ⟨g, k * 12 + 6 + 1, none⟩ (.int .i64 B) = w5 := ⟨_, rfl⟩
  rw [hw5] at hs5 hbx5 hbr5 hE5 ⊢
  rw [HP.out] at hs5
  rw [← hlim] at hs5
  have HS5 := Lib.hid hs5
  clear hw5 hs5 hlim hA hB d0 d1 e6 e7 f6 x6 x7 g1
  have d0 := hbx5.cell
  have d1 := hbx5.lt
  have f0 := hbr5.cell
  have f1 := hbr5.free
  have f2 := hbr5.lt
  go_wp2
  have hbr9 := ((hbr5.set 0 (.slice (some ⟨g, 0, none⟩) r.places.length cap)).set 1 (.int .i64 r.miss)).set 2 (.int .i64 r.seasons)
  have hO9 := (((Off.refl (w.heap.size + 1) (w.heap.size + 1) w5).set (a := ⟨w.heap.size + 1, 0, none⟩) (.inl rfl) (.slice (some ⟨g, 0, none⟩) r.places.length cap)).set (a := ⟨w.heap.size + 1, 1, none⟩) (.inl rfl) (.int .i64 r.miss)).set (a := ⟨w.heap.size + 1, 2, none⟩) (.inl rfl) (.int .i64 r.seasons)
  obtain ⟨w9, hw9⟩ : ∃ w9, ((w5.setCell ⟨w.heap.size + 1, 0, none⟩ (.slice (some ⟨g, 0, none⟩) r.places.length cap)).setCell ⟨w.heap.size + 1, 1, none⟩ (.int .i64 r.miss)).setCell ⟨w.heap.size + 1, 2, none⟩ (.int .i64 r.seasons) = w9 := ⟨_, rfl⟩
  rw [hw9] at hbr9 hO9 ⊢
  have hs9 := HS5.out.off hO9 (by omega) (by omega)
  have hpl := hs9.sls cap
  have hll : (R.limited r k m).places.length = r.places.length := by rw [HLIM.out, List.length_set]
  rw [hll] at hpl
  have q0 := hbr9.cell
  clear f0 f1 d0 hw9
  exact bodyPost_ret (v := .agg #[.slice (some ⟨g, 0, none⟩) r.places.length cap, .int .i64 r.miss, .int .i64 r.seasons]) (by simp [results, Try.results67, go_sem, q0]) rfl ⟨_, rfl, hpl, hO9.ext0 hE5 (by omega) (by omega)⟩
end Go.Proofs.Ythffoglpekpmdaa
