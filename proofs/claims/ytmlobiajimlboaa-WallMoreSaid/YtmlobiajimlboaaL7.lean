/- The law WallMore. -/
import Derived.Test.YtmlobiajimlboaaPlain7
import Derived.Test.YtmlobiajimlboaaE1
import Derived.Test.YtmlobiajimlboaaK2
import Derived.Test.YtmlobiajimlboaaR6
import Derived.Test.YtmlobiajimlboaaT2
import Derived.Test.YtmlobiajimlboaaZ2
import Derived.Test.YtmlobiajimlboaaS1
import Derived.Test.YtmlobiajimlboaaR10
import Derived.Test.YtmlobiajimlboaaLate
/- Plain: a shore with one work more, with a wider reef, under a weaker storm. -/
namespace Go.Proofs.Ytmlobiajimlboaa.W
set_option linter.unusedVariables false
set_option linter.unusedSimpArgs false
def bigger (s : Shore) (up : Work) : Shore := ⟨s.cells, s.works ++ [up], s.reef, s.ll, s.lh⟩
def wider (s : Shore) (R : Int) : Shore := ⟨s.cells, s.works, R, s.ll, s.lh⟩
def weaker (c : Storm) (a0 a1 b0 b1 : Int) : Storm := ⟨a0, a1, c.fl, c.fh, b0, b1⟩
theorem better_plan {s : Shore} {plan : List Int} {k : Nat} (up : Work) (h : planB s plan = true) : planB (bigger s up) (plan.set k s.works.length) = true := by
  simp only [planB, Bool.and_eq_true, List.all_eq_true, within_iff, decide_eq_true_eq, bigger, List.length_append, List.length_set, List.length_cons, List.length_nil] at h ⊢
  refine ⟨fun p hp => ?_, h.2⟩
  rcases List.mem_or_eq_of_mem_set hp with hp | rfl
  · have := h.1 p hp; omega
  · omega
theorem wider_ok {s : Shore} {c : Storm} {R : Int} (h : okB s c = true) (h0 : 0 ≤ R) (h1 : R ≤ 20) : okB (wider s R) c = true := by
  simp only [okB, shoreB, Bool.and_eq_true, decide_eq_true_eq, within_iff, wider] at h ⊢
  obtain ⟨⟨⟨⟨⟨⟨a1, a2⟩, a3⟩, a4⟩, a5⟩, a6⟩, b⟩ := h
  exact ⟨⟨⟨⟨⟨⟨a1, a2⟩, a3⟩, decide_eq_true a4⟩, by simp [h0, h1]⟩, a6⟩, b⟩
theorem weaker_ok {s : Shore} {c : Storm} {a0 a1 b0 b1 : Int} (h : okB s c = true) (h1 : 0 ≤ a0) (h2 : a0 ≤ a1) (h3 : a1 ≤ 1000) (h4 : -5000 ≤ b0) (h5 : b0 ≤ b1) (h6 : b1 ≤ 5000) : okB s (weaker c a0 a1 b0 b1) = true := by
  simp only [okB, stormB, Bool.and_eq_true, weaker] at h ⊢
  obtain ⟨a, ⟨b, d⟩, e⟩ := h
  refine ⟨a, ⟨?_, d⟩, ?_⟩ <;> simp only [spanB, Bool.and_eq_true, decide_eq_true_eq] <;> omega
theorem bigger_works {s : Shore} {up : Work} {plan : List Int} {k : Nat} (hp : ∀ p ∈ plan, p < s.works.length) (hr : (work s.works (nth plan k)).rise ≤ up.rise) (hc : (work s.works (nth plan k)).calm ≤ up.calm) (i : Nat) (hi : i < plan.length) :
    (work s.works (nth plan i)).rise ≤ (work (bigger s up).works (nth (plan.set k s.works.length) i)).rise ∧ (work s.works (nth plan i)).calm ≤ (work (bigger s up).works (nth (plan.set k s.works.length) i)).calm := by
  rw [nth_set _ _ _ _ hi]
  by_cases e : k = i
  · subst e
    rw [if_pos rfl, bigger, work_last]
    exact ⟨hr, hc⟩
  · rw [if_neg e, bigger, work_left (by rw [nth_get hi]; exact hp _ (List.getElem_mem hi))]
    exact ⟨Int.le_refl _, Int.le_refl _⟩
section
variable {s : Shore} {c : Storm} {plan : List Int}
theorem len_play (s : Shore) (plan : List Int) (t : Truth) : (play s plan t).length = s.cells.length := depths_len _ _ _ _ _
theorem lower_bigger {up : Work} {k : Nat} (O : Ok s c) (hpl : plan.length = s.cells.length) (hp : ∀ p ∈ plan, p < s.works.length) (hr : (work s.works (nth plan k)).rise ≤ up.rise) (hc : (work s.works (nth plan k)).calm ≤ up.calm) :
    Lower ((play (bigger s up) (plan.set k s.works.length) (best (bigger s up) c)).zip (play (bigger s up) (plan.set k s.works.length) (worst (bigger s up) c))) ((play s plan (best s c)).zip (play s plan (worst s c))) := by
  have d1 := (true_iff (best_true O)).drag0 O
  have d2 := (true_iff (worst_true O)).drag0 O
  refine lower_zip (len_play _ _ _) (len_play _ _ _) (len_play _ _ _) (len_play _ _ _) ?_ ?_
  · exact play_less O.fine rfl (Int.le_refl _) d1 rfl hpl (by simpa using hpl) (by simp [best]) fun i hi => bigger_works hp hr hc i (by omega)
  · exact play_less O.fine rfl (Int.le_refl _) d2 rfl hpl (by simpa using hpl) (by simp [worst]) fun i hi => bigger_works hp hr hc i (by omega)
theorem lower_wider {R : Int} (O : Ok s c) (hpl : plan.length = s.cells.length) (hR : s.reef ≤ R) :
    Lower ((play (wider s R) plan (best (wider s R) c)).zip (play (wider s R) plan (worst (wider s R) c))) ((play s plan (best s c)).zip (play s plan (worst s c))) := by
  have d1 := (true_iff (best_true O)).drag0 O
  have d2 := (true_iff (worst_true O)).drag0 O
  have w := O.wind
  have f := O.fetch
  have l := O.loss
  have r := O.reef
  obtain ⟨j, hj⟩ := Int.eq_ofNat_of_zero_le (show 0 ≤ R - s.reef by omega)
  refine lower_zip (len_play _ _ _) (len_play _ _ _) (len_play _ _ _) (len_play _ _ _) ?_ ?_
  · exact play_less (t := best s c) (t' := best (wider s R) c) O.fine rfl (wave_more (t := best s c) (j := j) r.1 (show R = s.reef + j by omega) (by simp only [best]; omega) (by simp only [best]; omega) (by simp only [best]; omega) (by simp only [best]; omega)) d1 rfl hpl hpl (by simp [best]) fun i hi => ⟨Int.le_refl _, Int.le_refl _⟩
  · exact play_less (t := worst s c) (t' := worst (wider s R) c) O.fine rfl (wave_more (t := worst s c) (j := j) r.1 (show R = s.reef + j by omega) (by simp only [worst]; omega) (by simp only [worst]; omega) (by simp only [worst]; omega) (by simp only [worst]; omega)) d2 rfl hpl hpl (by simp [worst]) fun i hi => ⟨Int.le_refl _, Int.le_refl _⟩
theorem lower_weaker {a0 a1 b0 b1 : Int} (O : Ok s c) (hpl : plan.length = s.cells.length) (h0 : 0 ≤ a0) (h1 : a0 ≤ c.wl) (h2 : 0 ≤ a1) (h3 : a1 ≤ c.wh) (h4 : b0 ≤ c.tl) (h5 : b1 ≤ c.th) :
    Lower ((play s plan (best s (weaker c a0 a1 b0 b1))).zip (play s plan (worst s (weaker c a0 a1 b0 b1)))) ((play s plan (best s c)).zip (play s plan (worst s c))) := by
  have d1 := (true_iff (best_true O)).drag0 O
  have d2 := (true_iff (worst_true O)).drag0 O
  have w := O.wind
  have f := O.fetch
  have l := O.loss
  refine lower_zip (len_play _ _ _) (len_play _ _ _) (len_play _ _ _) (len_play _ _ _) ?_ ?_
  · exact play_less (t := best s c) (t' := best s (weaker c a0 a1 b0 b1)) O.fine rfl (level_mono (by simp only [best, weaker]; omega) (by simp only [best, weaker]; omega) (by simp only [best, weaker]; omega) (by simp only [best, weaker]; omega) (by simp only [best]; omega) (by simp only [best]; omega) (by simp only [best]; omega) (by simp only [best, weaker]; omega)) d1 rfl hpl hpl (by simp [best]) fun i hi => ⟨Int.le_refl _, Int.le_refl _⟩
  · exact play_less (t := worst s c) (t' := worst s (weaker c a0 a1 b0 b1)) O.fine rfl (level_mono (by simp only [worst, weaker]; omega) (by simp only [worst, weaker]; omega) (by simp only [worst, weaker]; omega) (by simp only [worst, weaker]; omega) (by simp only [worst]; omega) (by simp only [worst]; omega) (by simp only [worst]; omega) (by simp only [worst, weaker]; omega)) d2 rfl hpl hpl (by simp [worst]) fun i hi => ⟨Int.le_refl _, Int.le_refl _⟩
end
end Go.Proofs.Ytmlobiajimlboaa.W
/- The law's own helper lower. -/
namespace Go.Proofs.Ytmlobiajimlboaa
open Go.RowKit
set_option maxRecDepth 100000 in
set_option maxHeartbeats 4000000 in
theorem lower_true (xs ys : List (Int × Int)) (va vb : Value) (w : World) (h : W.Lower xs ys) (hA : Spans w va xs) (hB : Spans w vb ys) (hn : xs.length ≤ 1000000) :
    Calls Try.prog 35 #[va, vb] w fun e w' => e = .returned (.bool true) ∧ Ext w w' := by
  obtain ⟨a1, c1, rfl, hx1⟩ := hA
  obtain ⟨a2, c2, rfl, hx2⟩ := hB
  have HX1 := Lib.hid hx1
  have HX2 := Lib.hid hx2
  obtain ⟨hl, hle⟩ := h
  have HLE := Lib.hid hle
  obtain ⟨n, hn1⟩ : ∃ n, xs.length = n := ⟨_, rfl⟩
  have hn2 : ys.length = n := by omega
  have HN1 := Lib.hid hn1
  have HN2 := Lib.hid hn2
  rw [hn1] at hn ⊢
  rw [hn2]
  clear hx1 hx2 hl hle hn1 hn2
  have hpc := plus_cell
  go_enter Try.func35, Try.ntmps35
  go_wp2
  go_loopw [5] (fun i wr => ∃ k : Nat, k ≤ n ∧ i = .int .i64 k ∧ Ext w wr)
    (fun i _ => n - (intOf i).toNat)
  case atStart => exact ⟨0, Nat.zero_le _, rfl, Ext.refl _⟩
  case round =>
    obtain ⟨k, hk, rfl, hEk⟩ := hrel
    by_cases hlt : k < n
    · have k1 : k < xs.length := by have := HN1.out; omega
      have k2 : k < ys.length := by have := HN2.out; omega
      obtain ⟨g1, o1, rfl, hg1, h01, h11⟩ := HX1.out k k1
      obtain ⟨g2, o2, rfl, hg2, h02, h12⟩ := HX2.out k k2
      have hle := HLE.out k k1 k2
      obtain ⟨x, hx⟩ : ∃ x, xs[k] = x := ⟨_, rfl⟩
      obtain ⟨y, hy⟩ : ∃ y, ys[k] = y := ⟨_, rfl⟩
      rw [hx] at hle h01 h11
      rw [hy] at hle h02 h12
      obtain ⟨x1, x2⟩ := x
      obtain ⟨y1, y2⟩ := y
      dsimp only at hle h01 h11 h02 h12
      have hz := hEk.size
      have hc := hEk.cells.1
      have e01 := (hc _ _ hg1).trans h01
      have e11 := (hc _ _ hg1).trans h11
      have e02 := (hc _ _ hg2).trans h02
      have e12 := (hc _ _ hg2).trans h12
      have q1 : g1 < wr.heap.size := by omega
      have q2 : g2 < wr.heap.size := by omega
      clear hc h01 h11 h02 h12 hx hy
      go_wp2
      refine wp_region_ext 24 (fun _ _ d _ _ h => by cases d <;> exact h) (by kernel_rfl) (by kernel_rfl) (by kernel_rfl) (by kernel_rfl) ?_
      simp only [List.take_succ_cons, List.take_zero, List.drop_succ_cons, List.drop_zero]
      have m0 : ¬ y1 < x1 := by omega
      have m1 : ¬ y2 < x2 := by omega
      repeat (any_goals (first | go_big_quiet_step (fail) | quiet_step (fail)))
      all_goals (refine wpQuiet_nil ?_; intro w' hE')
      unfold wpList
      go_wp2
      go_roundw
      case rel => exact ⟨k + 1, by omega, by go_num, hEk.trans hE'⟩
      case measure => simp [intOf]; omega
    · go_wp2
      go_ret
      exact ⟨rfl, hEk⟩
end Go.Proofs.Ytmlobiajimlboaa
/- An argument that is a work. -/
namespace Go.Proofs.Ytmlobiajimlboaa
open Go.RowKit Go.ChangeShapes Go.WideShapes Go.ChangeAt
set_option maxRecDepth 100000 in
theorem work_arg {H : Type} {enc : TypeId × Value → H} {w : World} {spare : Nat → Bool} {v : Value} {d : DataW H} {ps : List MemPlace} {r : Reach} {b0 : Nat} (hv : Value.okWide Try.prog w r b0 65 v) (h : DataW.Trod enc Try.prog w 0 spare true 65 v d ps) :
    ∃ x : W.Work, v = .agg #[.int .i64 x.rise, .int .i64 x.calm, .int .i64 x.cost] := by
  obtain ⟨fuel, h⟩ := h
  obtain ⟨x, hx⟩ := work_of h
  exact ⟨x, agg_of Try.underlying65 hv hx⟩
end Go.Proofs.Ytmlobiajimlboaa
namespace Go.Proofs.Ytmlobiajimlboaa
set_option linter.unusedVariables false
set_option linter.unusedSimpArgs false
open Go.RowKit
theorem depths_ok (s : W.Shore) (c : W.Storm) (plan : List Int) (vc vw vp : Value) (w : World) (hok : W.okB s c = true) (hpl : W.planB s plan = true) (hC : Cells w vc s.cells) (hW : Works w vw s.works) (hP : Ints w vp plan) :
    Calls Try.prog 21 #[shoreA s vc vw, stormA c, vp] w fun e w' => ∃ v, e = .returned (.tuple #[v, .int .i64 0]) ∧ Spans w' v ((W.play s plan (W.best s c)).zip (W.play s plan (W.worst s c))) ∧ Ext w w' := by
  have O := W.ok_iff hok
  have h := depthsQ_any s c plan vc vw vp w hC hW hP (by have := O.n7; omega) (by have := O.m3; omega) (by have := W.planB_len hpl; have := O.n7; omega)
  have hB : (W.okB s c && W.planB s plan) = true := by rw [hok, hpl]; rfl
  have edp : depths2Of s c plan = (W.play s plan (W.best s c)).zip (W.play s plan (W.worst s c)) := by unfold depths2Of; rw [hB]; rfl
  have k0 : codeOf true = 0 := rfl
  rw [edp, hB, k0] at h
  exact h
theorem own_pos {w : World} {base : Nat} {e : TypeId} {s : Nat} {v : Value} {n : Nat} {xs : List Value} (h : w.ownsRow base e s v n xs) (hn : 0 < n) : ∃ g cap, v = .slice (some ⟨g, 0, none⟩) n cap := by
  cases n with
  | zero => omega
  | succ n => exact own_succ h
theorem but_self (w : World) (b o : Nat) (v : Value) : But b w (w.setCell ⟨b, o, none⟩ v) :=
  ⟨rfl, rfl, rfl, by simp [World.setCell], fun k _ hk => Below.heap_setCell _ _ _ _ (fun e => hk (by rw [e]))⟩
set_option maxRecDepth 100000 in
set_option maxHeartbeats 40000000 in
theorem wallMore_law (s : W.Shore) (c : W.Storm) (plan : List Int) (cell : Int) (wk : W.Work) (steps less : Int) (hwfcell : (Lit.int .i64 cell).wf = true) (hwfsteps : (Lit.int .i64 steps).wf = true) (hwfless : (Lit.int .i64 less).wf = true) (vc vw vp : Value) (w : World) (hC : Cells w vc s.cells) (hW : Works w vw s.works) (hP : Ints w vp plan) :
    Calls Try.prog 7 #[shoreA s vc vw, stormA c, vp, .int .i64 cell, .agg #[.int .i64 wk.rise, .int .i64 wk.calm, .int .i64 wk.cost], .int .i64 steps, .int .i64 less] w fun e w' => e = .returned (.bool true) ∧ Ext w w' := by
  have hC' := hC
  have hW' := hW
  have hP' := hP
  obtain ⟨a1, c1, rfl, _⟩ := hC'
  obtain ⟨a2, c2, rfl, hx2⟩ := hW'
  obtain ⟨a3, c3, rfl, hx3⟩ := hP'
  have HX2 := Lib.hid hx2
  have HX3 := Lib.hid hx3
  clear hx2 hx3 hwfcell hwfsteps hwfless
  have hs := fun w' (hx : Ext w w') => short_any s _ _ w' (hC.ext hx) (hW.ext hx)
  by_cases hsh : shortB s = true ∧ plan.length ≤ 12
  · obtain ⟨h1, h2⟩ := hsh
    rw [h1] at hs
    have HS := Lib.hid hs
    have hn : s.cells.length ≤ 1000000 ∧ s.works.length ≤ 1000000 ∧ s.cells.length ≤ 12 := by simp [shortB] at h1; omega
    obtain ⟨hn, hm, hn12⟩ := hn
    obtain ⟨B, hB⟩ : ∃ B, (W.okB s c && W.planB s plan) = B := ⟨_, rfl⟩
    obtain ⟨V, hV⟩ : ∃ V, W.within cell 0 (s.cells.length - 1) = V := ⟨_, rfl⟩
    have hbu := fun w' (hx : Ext w w') => built_any s c plan _ _ _ w' (hC.ext hx) (hW.ext hx) (hP.ext hx) hn hm (by omega)
    rw [hB] at hbu
    have HBU := Lib.hid hbu
    have hce := fun w' (hx : Ext w w') => rcell_any s _ (.slice a2 s.works.length c2) cell w' (hC.ext hx) hn
    rw [hV] at hce
    have HCE := Lib.hid hce
    clear hs h1 hbu hce
    cases B with
    | false =>
      clear hB hV
      go_enter Try.func7, Try.ntmps7
      go_wp2_with (first | (go_at_call 14; refine (HS.out _ (by (with_reducible (repeat (first | exact Ext.refl _ | assumption | apply Ext.alloc | apply Ext.drew | exact ext_plus _ _ | (apply Ext.setCell; rotate_left; (simp <;> omega)) | (apply Ext.trans; rotate_left; exact ext_plus _ _) | (apply Ext.trans; rotate_left; assumption)))))).mono ?_; rintro e w1 ⟨rfl, hb1⟩; have hc1 := hb1.cells.1; have hz1 := hb1.size; (try simp only [World.size_alloc] at hz1); have p10 : w.heap.size < w1.heap.size := (by omega); have p11 : w.heap.size + 1 < w1.heap.size := (by omega); have p12 : w.heap.size + 1 + 1 < w1.heap.size := (by omega)) | (go_at_call 15; refine (known_any _).mono ?_; rintro e wk ⟨rfl, hbk⟩) | (go_at_call 17; refine (HBU.out _ (by (with_reducible (repeat (first | exact Ext.refl _ | assumption | apply Ext.alloc | apply Ext.drew | exact ext_plus _ _ | (apply Ext.setCell; rotate_left; (simp <;> omega)) | (apply Ext.trans; rotate_left; exact ext_plus _ _) | (apply Ext.trans; rotate_left; assumption)))))).mono ?_; rintro e w2 ⟨rfl, hb2⟩; have hc2 := hb2.cells.1; have hz2 := hb2.size; (try simp only [World.size_alloc] at hz2); have p20 : w.heap.size < w2.heap.size := (by omega); have p21 : w.heap.size + 1 < w2.heap.size := (by omega); have p22 : w.heap.size + 1 + 1 < w2.heap.size := (by omega)))
      all_goals
        go_ret
        exact ⟨rfl, by (with_reducible (repeat (first | exact Ext.refl _ | assumption | apply Ext.alloc | apply Ext.drew | exact ext_plus _ _ | (apply Ext.setCell; rotate_left; (simp <;> omega)) | (apply Ext.trans; rotate_left; exact ext_plus _ _) | (apply Ext.trans; rotate_left; assumption))))⟩
    | true =>
      cases V with
      | false =>
        clear hB hV
        go_enter Try.func7, Try.ntmps7
        go_wp2_with (first | (go_at_call 14; refine (HS.out _ (by (with_reducible (repeat (first | exact Ext.refl _ | assumption | apply Ext.alloc | apply Ext.drew | exact ext_plus _ _ | (apply Ext.setCell; rotate_left; (simp <;> omega)) | (apply Ext.trans; rotate_left; exact ext_plus _ _) | (apply Ext.trans; rotate_left; assumption)))))).mono ?_; rintro e w1 ⟨rfl, hb1⟩; have hc1 := hb1.cells.1; have hz1 := hb1.size; (try simp only [World.size_alloc] at hz1); have p10 : w.heap.size < w1.heap.size := (by omega); have p11 : w.heap.size + 1 < w1.heap.size := (by omega); have p12 : w.heap.size + 1 + 1 < w1.heap.size := (by omega)) | (go_at_call 15; refine (known_any _).mono ?_; rintro e wk ⟨rfl, hbk⟩) | (go_at_call 17; refine (HBU.out _ (by (with_reducible (repeat (first | exact Ext.refl _ | assumption | apply Ext.alloc | apply Ext.drew | exact ext_plus _ _ | (apply Ext.setCell; rotate_left; (simp <;> omega)) | (apply Ext.trans; rotate_left; exact ext_plus _ _) | (apply Ext.trans; rotate_left; assumption)))))).mono ?_; rintro e w2 ⟨rfl, hb2⟩; have hc2 := hb2.cells.1; have hz2 := hb2.size; (try simp only [World.size_alloc] at hz2); have p20 : w.heap.size < w2.heap.size := (by omega); have p21 : w.heap.size + 1 < w2.heap.size := (by omega); have p22 : w.heap.size + 1 + 1 < w2.heap.size := (by omega)) | (go_at_call 34; refine (HCE.out _ (by (with_reducible (repeat (first | exact Ext.refl _ | assumption | apply Ext.alloc | apply Ext.drew | exact ext_plus _ _ | (apply Ext.setCell; rotate_left; (simp <;> omega)) | (apply Ext.trans; rotate_left; exact ext_plus _ _) | (apply Ext.trans; rotate_left; assumption)))))).mono ?_; rintro e w3 ⟨rfl, hb3⟩; have hc3 := hb3.cells.1; have hz3 := hb3.size; (try simp only [World.size_alloc] at hz3); have p30 : w.heap.size < w3.heap.size := (by omega); have p31 : w.heap.size + 1 < w3.heap.size := (by omega); have p32 : w.heap.size + 1 + 1 < w3.heap.size := (by omega)))
        all_goals
          go_ret
          exact ⟨rfl, by (with_reducible (repeat (first | exact Ext.refl _ | assumption | apply Ext.alloc | apply Ext.drew | exact ext_plus _ _ | (apply Ext.setCell; rotate_left; (simp <;> omega)) | (apply Ext.trans; rotate_left; exact ext_plus _ _) | (apply Ext.trans; rotate_left; assumption))))⟩
      | true =>
        by_cases hw3 : 3 ≤ s.works.length
        · clear hB hV
          go_enter Try.func7, Try.ntmps7
          go_wp2_with (first | (go_at_call 14; refine (HS.out _ (by (with_reducible (repeat (first | exact Ext.refl _ | assumption | apply Ext.alloc | apply Ext.drew | exact ext_plus _ _ | (apply Ext.setCell; rotate_left; (simp <;> omega)) | (apply Ext.trans; rotate_left; exact ext_plus _ _) | (apply Ext.trans; rotate_left; assumption)))))).mono ?_; rintro e w1 ⟨rfl, hb1⟩; have hc1 := hb1.cells.1; have hz1 := hb1.size; (try simp only [World.size_alloc] at hz1); have p10 : w.heap.size < w1.heap.size := (by omega); have p11 : w.heap.size + 1 < w1.heap.size := (by omega); have p12 : w.heap.size + 1 + 1 < w1.heap.size := (by omega)) | (go_at_call 15; refine (known_any _).mono ?_; rintro e wk ⟨rfl, hbk⟩) | (go_at_call 17; refine (HBU.out _ (by (with_reducible (repeat (first | exact Ext.refl _ | assumption | apply Ext.alloc | apply Ext.drew | exact ext_plus _ _ | (apply Ext.setCell; rotate_left; (simp <;> omega)) | (apply Ext.trans; rotate_left; exact ext_plus _ _) | (apply Ext.trans; rotate_left; assumption)))))).mono ?_; rintro e w2 ⟨rfl, hb2⟩; have hc2 := hb2.cells.1; have hz2 := hb2.size; (try simp only [World.size_alloc] at hz2); have p20 : w.heap.size < w2.heap.size := (by omega); have p21 : w.heap.size + 1 < w2.heap.size := (by omega); have p22 : w.heap.size + 1 + 1 < w2.heap.size := (by omega)) | (go_at_call 34; refine (HCE.out _ (by (with_reducible (repeat (first | exact Ext.refl _ | assumption | apply Ext.alloc | apply Ext.drew | exact ext_plus _ _ | (apply Ext.setCell; rotate_left; (simp <;> omega)) | (apply Ext.trans; rotate_left; exact ext_plus _ _) | (apply Ext.trans; rotate_left; assumption)))))).mono ?_; rintro e w3 ⟨rfl, hb3⟩; have hc3 := hb3.cells.1; have hz3 := hb3.size; (try simp only [World.size_alloc] at hz3); have p30 : w.heap.size < w3.heap.size := (by omega); have p31 : w.heap.size + 1 < w3.heap.size := (by omega); have p32 : w.heap.size + 1 + 1 < w3.heap.size := (by omega)))
          all_goals
            go_ret
            exact ⟨rfl, by (with_reducible (repeat (first | exact Ext.refl _ | assumption | apply Ext.alloc | apply Ext.drew | exact ext_plus _ _ | (apply Ext.setCell; rotate_left; (simp <;> omega)) | (apply Ext.trans; rotate_left; exact ext_plus _ _) | (apply Ext.trans; rotate_left; assumption))))⟩
        · by_cases hst : steps < 0
          · clear hB hV
            go_enter Try.func7, Try.ntmps7
            go_wp2_with (first | (go_at_call 14; refine (HS.out _ (by (with_reducible (repeat (first | exact Ext.refl _ | assumption | apply Ext.alloc | apply Ext.drew | exact ext_plus _ _ | (apply Ext.setCell; rotate_left; (simp <;> omega)) | (apply Ext.trans; rotate_left; exact ext_plus _ _) | (apply Ext.trans; rotate_left; assumption)))))).mono ?_; rintro e w1 ⟨rfl, hb1⟩; have hc1 := hb1.cells.1; have hz1 := hb1.size; (try simp only [World.size_alloc] at hz1); have p10 : w.heap.size < w1.heap.size := (by omega); have p11 : w.heap.size + 1 < w1.heap.size := (by omega); have p12 : w.heap.size + 1 + 1 < w1.heap.size := (by omega)) | (go_at_call 15; refine (known_any _).mono ?_; rintro e wk ⟨rfl, hbk⟩) | (go_at_call 17; refine (HBU.out _ (by (with_reducible (repeat (first | exact Ext.refl _ | assumption | apply Ext.alloc | apply Ext.drew | exact ext_plus _ _ | (apply Ext.setCell; rotate_left; (simp <;> omega)) | (apply Ext.trans; rotate_left; exact ext_plus _ _) | (apply Ext.trans; rotate_left; assumption)))))).mono ?_; rintro e w2 ⟨rfl, hb2⟩; have hc2 := hb2.cells.1; have hz2 := hb2.size; (try simp only [World.size_alloc] at hz2); have p20 : w.heap.size < w2.heap.size := (by omega); have p21 : w.heap.size + 1 < w2.heap.size := (by omega); have p22 : w.heap.size + 1 + 1 < w2.heap.size := (by omega)) | (go_at_call 34; refine (HCE.out _ (by (with_reducible (repeat (first | exact Ext.refl _ | assumption | apply Ext.alloc | apply Ext.drew | exact ext_plus _ _ | (apply Ext.setCell; rotate_left; (simp <;> omega)) | (apply Ext.trans; rotate_left; exact ext_plus _ _) | (apply Ext.trans; rotate_left; assumption)))))).mono ?_; rintro e w3 ⟨rfl, hb3⟩; have hc3 := hb3.cells.1; have hz3 := hb3.size; (try simp only [World.size_alloc] at hz3); have p30 : w.heap.size < w3.heap.size := (by omega); have p31 : w.heap.size + 1 < w3.heap.size := (by omega); have p32 : w.heap.size + 1 + 1 < w3.heap.size := (by omega)))
            all_goals
              go_ret
              exact ⟨rfl, by (with_reducible (repeat (first | exact Ext.refl _ | assumption | apply Ext.alloc | apply Ext.drew | exact ext_plus _ _ | (apply Ext.setCell; rotate_left; (simp <;> omega)) | (apply Ext.trans; rotate_left; exact ext_plus _ _) | (apply Ext.trans; rotate_left; assumption))))⟩
          · by_cases hst2 : 20 < steps
            · clear hB hV
              go_enter Try.func7, Try.ntmps7
              go_wp2_with (first | (go_at_call 14; refine (HS.out _ (by (with_reducible (repeat (first | exact Ext.refl _ | assumption | apply Ext.alloc | apply Ext.drew | exact ext_plus _ _ | (apply Ext.setCell; rotate_left; (simp <;> omega)) | (apply Ext.trans; rotate_left; exact ext_plus _ _) | (apply Ext.trans; rotate_left; assumption)))))).mono ?_; rintro e w1 ⟨rfl, hb1⟩; have hc1 := hb1.cells.1; have hz1 := hb1.size; (try simp only [World.size_alloc] at hz1); have p10 : w.heap.size < w1.heap.size := (by omega); have p11 : w.heap.size + 1 < w1.heap.size := (by omega); have p12 : w.heap.size + 1 + 1 < w1.heap.size := (by omega)) | (go_at_call 15; refine (known_any _).mono ?_; rintro e wk ⟨rfl, hbk⟩) | (go_at_call 17; refine (HBU.out _ (by (with_reducible (repeat (first | exact Ext.refl _ | assumption | apply Ext.alloc | apply Ext.drew | exact ext_plus _ _ | (apply Ext.setCell; rotate_left; (simp <;> omega)) | (apply Ext.trans; rotate_left; exact ext_plus _ _) | (apply Ext.trans; rotate_left; assumption)))))).mono ?_; rintro e w2 ⟨rfl, hb2⟩; have hc2 := hb2.cells.1; have hz2 := hb2.size; (try simp only [World.size_alloc] at hz2); have p20 : w.heap.size < w2.heap.size := (by omega); have p21 : w.heap.size + 1 < w2.heap.size := (by omega); have p22 : w.heap.size + 1 + 1 < w2.heap.size := (by omega)) | (go_at_call 34; refine (HCE.out _ (by (with_reducible (repeat (first | exact Ext.refl _ | assumption | apply Ext.alloc | apply Ext.drew | exact ext_plus _ _ | (apply Ext.setCell; rotate_left; (simp <;> omega)) | (apply Ext.trans; rotate_left; exact ext_plus _ _) | (apply Ext.trans; rotate_left; assumption)))))).mono ?_; rintro e w3 ⟨rfl, hb3⟩; have hc3 := hb3.cells.1; have hz3 := hb3.size; (try simp only [World.size_alloc] at hz3); have p30 : w.heap.size < w3.heap.size := (by omega); have p31 : w.heap.size + 1 < w3.heap.size := (by omega); have p32 : w.heap.size + 1 + 1 < w3.heap.size := (by omega)))
              all_goals
                go_ret
                exact ⟨rfl, by (with_reducible (repeat (first | exact Ext.refl _ | assumption | apply Ext.alloc | apply Ext.drew | exact ext_plus _ _ | (apply Ext.setCell; rotate_left; (simp <;> omega)) | (apply Ext.trans; rotate_left; exact ext_plus _ _) | (apply Ext.trans; rotate_left; assumption))))⟩
            · by_cases hle : less < 0
              · clear hB hV
                go_enter Try.func7, Try.ntmps7
                go_wp2_with (first | (go_at_call 14; refine (HS.out _ (by (with_reducible (repeat (first | exact Ext.refl _ | assumption | apply Ext.alloc | apply Ext.drew | exact ext_plus _ _ | (apply Ext.setCell; rotate_left; (simp <;> omega)) | (apply Ext.trans; rotate_left; exact ext_plus _ _) | (apply Ext.trans; rotate_left; assumption)))))).mono ?_; rintro e w1 ⟨rfl, hb1⟩; have hc1 := hb1.cells.1; have hz1 := hb1.size; (try simp only [World.size_alloc] at hz1); have p10 : w.heap.size < w1.heap.size := (by omega); have p11 : w.heap.size + 1 < w1.heap.size := (by omega); have p12 : w.heap.size + 1 + 1 < w1.heap.size := (by omega)) | (go_at_call 15; refine (known_any _).mono ?_; rintro e wk ⟨rfl, hbk⟩) | (go_at_call 17; refine (HBU.out _ (by (with_reducible (repeat (first | exact Ext.refl _ | assumption | apply Ext.alloc | apply Ext.drew | exact ext_plus _ _ | (apply Ext.setCell; rotate_left; (simp <;> omega)) | (apply Ext.trans; rotate_left; exact ext_plus _ _) | (apply Ext.trans; rotate_left; assumption)))))).mono ?_; rintro e w2 ⟨rfl, hb2⟩; have hc2 := hb2.cells.1; have hz2 := hb2.size; (try simp only [World.size_alloc] at hz2); have p20 : w.heap.size < w2.heap.size := (by omega); have p21 : w.heap.size + 1 < w2.heap.size := (by omega); have p22 : w.heap.size + 1 + 1 < w2.heap.size := (by omega)) | (go_at_call 34; refine (HCE.out _ (by (with_reducible (repeat (first | exact Ext.refl _ | assumption | apply Ext.alloc | apply Ext.drew | exact ext_plus _ _ | (apply Ext.setCell; rotate_left; (simp <;> omega)) | (apply Ext.trans; rotate_left; exact ext_plus _ _) | (apply Ext.trans; rotate_left; assumption)))))).mono ?_; rintro e w3 ⟨rfl, hb3⟩; have hc3 := hb3.cells.1; have hz3 := hb3.size; (try simp only [World.size_alloc] at hz3); have p30 : w.heap.size < w3.heap.size := (by omega); have p31 : w.heap.size + 1 < w3.heap.size := (by omega); have p32 : w.heap.size + 1 + 1 < w3.heap.size := (by omega)))
                all_goals
                  go_ret
                  exact ⟨rfl, by (with_reducible (repeat (first | exact Ext.refl _ | assumption | apply Ext.alloc | apply Ext.drew | exact ext_plus _ _ | (apply Ext.setCell; rotate_left; (simp <;> omega)) | (apply Ext.trans; rotate_left; exact ext_plus _ _) | (apply Ext.trans; rotate_left; assumption))))⟩
              · by_cases hle2 : 5000 < less
                · clear hB hV
                  go_enter Try.func7, Try.ntmps7
                  go_wp2_with (first | (go_at_call 14; refine (HS.out _ (by (with_reducible (repeat (first | exact Ext.refl _ | assumption | apply Ext.alloc | apply Ext.drew | exact ext_plus _ _ | (apply Ext.setCell; rotate_left; (simp <;> omega)) | (apply Ext.trans; rotate_left; exact ext_plus _ _) | (apply Ext.trans; rotate_left; assumption)))))).mono ?_; rintro e w1 ⟨rfl, hb1⟩; have hc1 := hb1.cells.1; have hz1 := hb1.size; (try simp only [World.size_alloc] at hz1); have p10 : w.heap.size < w1.heap.size := (by omega); have p11 : w.heap.size + 1 < w1.heap.size := (by omega); have p12 : w.heap.size + 1 + 1 < w1.heap.size := (by omega)) | (go_at_call 15; refine (known_any _).mono ?_; rintro e wk ⟨rfl, hbk⟩) | (go_at_call 17; refine (HBU.out _ (by (with_reducible (repeat (first | exact Ext.refl _ | assumption | apply Ext.alloc | apply Ext.drew | exact ext_plus _ _ | (apply Ext.setCell; rotate_left; (simp <;> omega)) | (apply Ext.trans; rotate_left; exact ext_plus _ _) | (apply Ext.trans; rotate_left; assumption)))))).mono ?_; rintro e w2 ⟨rfl, hb2⟩; have hc2 := hb2.cells.1; have hz2 := hb2.size; (try simp only [World.size_alloc] at hz2); have p20 : w.heap.size < w2.heap.size := (by omega); have p21 : w.heap.size + 1 < w2.heap.size := (by omega); have p22 : w.heap.size + 1 + 1 < w2.heap.size := (by omega)) | (go_at_call 34; refine (HCE.out _ (by (with_reducible (repeat (first | exact Ext.refl _ | assumption | apply Ext.alloc | apply Ext.drew | exact ext_plus _ _ | (apply Ext.setCell; rotate_left; (simp <;> omega)) | (apply Ext.trans; rotate_left; exact ext_plus _ _) | (apply Ext.trans; rotate_left; assumption)))))).mono ?_; rintro e w3 ⟨rfl, hb3⟩; have hc3 := hb3.cells.1; have hz3 := hb3.size; (try simp only [World.size_alloc] at hz3); have p30 : w.heap.size < w3.heap.size := (by omega); have p31 : w.heap.size + 1 < w3.heap.size := (by omega); have p32 : w.heap.size + 1 + 1 < w3.heap.size := (by omega)))
                  all_goals
                    go_ret
                    exact ⟨rfl, by (with_reducible (repeat (first | exact Ext.refl _ | assumption | apply Ext.alloc | apply Ext.drew | exact ext_plus _ _ | (apply Ext.setCell; rotate_left; (simp <;> omega)) | (apply Ext.trans; rotate_left; exact ext_plus _ _) | (apply Ext.trans; rotate_left; assumption))))⟩
                · have hok := hB
                  simp only [Bool.and_eq_true] at hok
                  have O := W.ok_iff hok.1
                  have hpl := W.planB_len hok.2
                  have hpw := fun p hp => (planB_plan hok.2).2 p hp
                  have hww := W.within_iff.1 hV
                  obtain ⟨k, rfl⟩ := Int.eq_ofNat_of_zero_le hww.1
                  have hk : k < plan.length := by omega
                  obtain ⟨g3, o3, rfl, hg3, h03⟩ := HX3.out k hk
                  have hpk := hpw _ (List.getElem_mem hk)
                  obtain ⟨p, hp⟩ : ∃ p, plan[k] = p := ⟨_, rfl⟩
                  rw [hp] at h03 hpk
                  have HPP := Lib.hid hp
                  have HOK := Lib.hid hok
                  have HBB := Lib.hid hB
                  have HO := Lib.hid O
                  have HPL := Lib.hid hpl
                  have HPW := Lib.hid hpw
                  clear hp hok hB O hpw hV hww hpl
                  go_enter Try.func7, Try.ntmps7
                  go_upto_region 4 with (first | (go_at_call 14; refine (HS.out _ (by (with_reducible (repeat (first | exact Ext.refl _ | assumption | apply Ext.alloc | apply Ext.drew | exact ext_plus _ _ | (apply Ext.setCell; rotate_left; (simp <;> omega)) | (apply Ext.trans; rotate_left; exact ext_plus _ _) | (apply Ext.trans; rotate_left; assumption)))))).mono ?_; rintro e w1 ⟨rfl, hb1⟩; have hc1 := hb1.cells.1; have hz1 := hb1.size; (try simp only [World.size_alloc] at hz1); have p10 : w.heap.size < w1.heap.size := (by omega); have p11 : w.heap.size + 1 < w1.heap.size := (by omega); have p12 : w.heap.size + 1 + 1 < w1.heap.size := (by omega)) | (go_at_call 17; refine (HBU.out _ (by (with_reducible (repeat (first | exact Ext.refl _ | assumption | apply Ext.alloc | apply Ext.drew | exact ext_plus _ _ | (apply Ext.setCell; rotate_left; (simp <;> omega)) | (apply Ext.trans; rotate_left; exact ext_plus _ _) | (apply Ext.trans; rotate_left; assumption)))))).mono ?_; rintro e w2 ⟨rfl, hb2⟩; have hc2 := hb2.cells.1; have hz2 := hb2.size; (try simp only [World.size_alloc] at hz2); have p20 : w.heap.size < w2.heap.size := (by omega); have p21 : w.heap.size + 1 < w2.heap.size := (by omega); have p22 : w.heap.size + 1 + 1 < w2.heap.size := (by omega)) | (go_at_call 34; refine (HCE.out _ (by (with_reducible (repeat (first | exact Ext.refl _ | assumption | apply Ext.alloc | apply Ext.drew | exact ext_plus _ _ | (apply Ext.setCell; rotate_left; (simp <;> omega)) | (apply Ext.trans; rotate_left; exact ext_plus _ _) | (apply Ext.trans; rotate_left; assumption)))))).mono ?_; rintro e w3 ⟨rfl, hb3⟩; have hc3 := hb3.cells.1; have hz3 := hb3.size; (try simp only [World.size_alloc] at hz3); have p30 : w.heap.size < w3.heap.size := (by omega); have p31 : w.heap.size + 1 < w3.heap.size := (by omega); have p32 : w.heap.size + 1 + 1 < w3.heap.size := (by omega)))
                  have hb37 : Blk w3 w.heap.size #[.slice a1 s.cells.length c1, .slice a2 s.works.length c2, .int .i64 s.reef, .int .i64 s.ll, .int .i64 s.lh] 27 := by
                    refine Blk.ext (w := ((w.alloc (.cells #[.slice a1 s.cells.length c1, .slice a2 s.works.length c2, .int .i64 s.reef, .int .i64 s.ll, .int .i64 s.lh] 27)).alloc (.cells #[.int .i64 c.wl, .int .i64 c.wh, .int .i64 c.fl, .int .i64 c.fh, .int .i64 c.tl, .int .i64 c.th] 29)).alloc (.cells #[.int .i64 wk.rise, .int .i64 wk.calm, .int .i64 wk.cost] 65)) (((Blk.new' rfl _ _).alloc _).alloc _) ?_
                    (with_reducible (repeat (first | exact Ext.refl _ | assumption | apply Ext.alloc | apply Ext.drew | exact ext_plus _ _ | (apply Ext.setCell; rotate_left; (simp <;> omega)) | (apply Ext.trans; rotate_left; exact ext_plus _ _) | (apply Ext.trans; rotate_left; assumption))))
                  have hb38 : Blk w3 (w.heap.size + 1) #[.int .i64 c.wl, .int .i64 c.wh, .int .i64 c.fl, .int .i64 c.fh, .int .i64 c.tl, .int .i64 c.th] 29 := by
                    refine Blk.ext (w := ((w.alloc (.cells #[.slice a1 s.cells.length c1, .slice a2 s.works.length c2, .int .i64 s.reef, .int .i64 s.ll, .int .i64 s.lh] 27)).alloc (.cells #[.int .i64 c.wl, .int .i64 c.wh, .int .i64 c.fl, .int .i64 c.fh, .int .i64 c.tl, .int .i64 c.th] 29)).alloc (.cells #[.int .i64 wk.rise, .int .i64 wk.calm, .int .i64 wk.cost] 65)) ((Blk.new' (by simp) _ _).alloc _) ?_
                    (with_reducible (repeat (first | exact Ext.refl _ | assumption | apply Ext.alloc | apply Ext.drew | exact ext_plus _ _ | (apply Ext.setCell; rotate_left; (simp <;> omega)) | (apply Ext.trans; rotate_left; exact ext_plus _ _) | (apply Ext.trans; rotate_left; assumption))))
                  have hb31 : Blk w3 (w.heap.size + 1 + 1) #[.int .i64 wk.rise, .int .i64 wk.calm, .int .i64 wk.cost] 65 := by
                    refine Blk.ext (w := ((w.alloc (.cells #[.slice a1 s.cells.length c1, .slice a2 s.works.length c2, .int .i64 s.reef, .int .i64 s.ll, .int .i64 s.lh] 27)).alloc (.cells #[.int .i64 c.wl, .int .i64 c.wh, .int .i64 c.fl, .int .i64 c.fh, .int .i64 c.tl, .int .i64 c.th] 29)).alloc (.cells #[.int .i64 wk.rise, .int .i64 wk.calm, .int .i64 wk.cost] 65)) (Blk.new' (by simp) _ _) ?_
                    (with_reducible (repeat (first | exact Ext.refl _ | assumption | apply Ext.alloc | apply Ext.drew | exact ext_plus _ _ | (apply Ext.setCell; rotate_left; (simp <;> omega)) | (apply Ext.trans; rotate_left; exact ext_plus _ _) | (apply Ext.trans; rotate_left; assumption))))
                  have hE3 : Ext w w3 := by (with_reducible (repeat (first | exact Ext.refl _ | assumption | apply Ext.alloc | apply Ext.drew | exact ext_plus _ _ | (apply Ext.setCell; rotate_left; (simp <;> omega)) | (apply Ext.trans; rotate_left; exact ext_plus _ _) | (apply Ext.trans; rotate_left; assumption))))
                  have hz30 : w.heap.size + 1 + 1 < w3.heap.size := p32
                  obtain ⟨wA, hwA⟩ : ∃ wA, w3.alloc (.cells #[.slice a1 s.cells.length c1, .slice a2 s.works.length c2, .int .i64 s.reef, .int .i64 s.ll, .int .i64 s.lh] 27) = wA := ⟨_, rfl⟩
                  have hbA7 : Blk wA w.heap.size #[.slice a1 s.cells.length c1, .slice a2 s.works.length c2, .int .i64 s.reef, .int .i64 s.ll, .int .i64 s.lh] 27 := by rw [← hwA]; exact hb37.alloc _
                  have hbA8 : Blk wA (w.heap.size + 1) #[.int .i64 c.wl, .int .i64 c.wh, .int .i64 c.fl, .int .i64 c.fh, .int .i64 c.tl, .int .i64 c.th] 29 := by rw [← hwA]; exact hb38.alloc _
                  have hbA1 : Blk wA (w.heap.size + 1 + 1) #[.int .i64 wk.rise, .int .i64 wk.calm, .int .i64 wk.cost] 65 := by rw [← hwA]; exact hb31.alloc _
                  have hbA5 : Blk wA w3.heap.size #[.slice a1 s.cells.length c1, .slice a2 s.works.length c2, .int .i64 s.reef, .int .i64 s.ll, .int .i64 s.lh] 27 := by rw [← hwA]; exact Blk.new _ _ _
                  have hE3A : Ext w3 wA := by rw [← hwA]; exact (Ext.refl _).alloc _
                  have hEA : Ext w wA := hE3.trans hE3A
                  have hzA := hbA5.lt
                  rw [hwA]
                  obtain ⟨n3, hn3⟩ : ∃ n3, w3.heap.size = n3 := ⟨_, rfl⟩
                  rw [hn3] at hbA5 hzA hz30 ⊢
                  have h03A : wA.cell? ⟨g3, o3 + k, none⟩ = some (.int .i64 p) := (hEA.cells.1 _ _ hg3).trans h03
                  have hzw := hEA.size
                  have q3 : g3 < wA.heap.size := by omega
                  clear hwA hn3 hc1 hc2 hc3 hz1 hz2 hz3 hb1 hb2 hb3 p10 p11 p12 p20 p21 p22 p30 p31 p32 hb37 hb38 hb31 hE3 hE3A HS HBU HCE
                  obtain ⟨up, hup⟩ : ∃ up : W.Work, (if 0 ≤ p then ⟨if wk.rise < (W.work s.works p).rise then (W.work s.works p).rise else wk.rise, if wk.calm < (W.work s.works p).calm then (W.work s.works p).calm else wk.calm, wk.cost⟩ else wk) = up := ⟨_, rfl⟩
                  have HUP := Lib.hid hup
                  clear hup
                  have hcA := hbA7.cell
                  have hlA := hbA7.lt
                  go_upto_if 77 with (fail)
                  go_cut [16] from 28 to 211 (fun s16 wc => Blk wc w.heap.size #[.slice a1 s.cells.length c1, .slice a2 s.works.length c2, .int .i64 s.reef, .int .i64 s.ll, .int .i64 s.lh] 27 ∧ Blk wc (w.heap.size + 1) #[.int .i64 c.wl, .int .i64 c.wh, .int .i64 c.fl, .int .i64 c.fh, .int .i64 c.tl, .int .i64 c.th] 29 ∧ Blk wc (w.heap.size + 1 + 1) #[.int .i64 up.rise, .int .i64 up.calm, .int .i64 up.cost] 65 ∧ Blk wc n3 #[.slice a1 s.cells.length c1, .slice a2 s.works.length c2, .int .i64 s.reef, .int .i64 s.ll, .int .i64 s.lh] 27 ∧ Ext w wc ∧ wA.heap.size ≤ wc.heap.size)
                  case first =>
                    by_cases hp0 : 0 ≤ p
                    · obtain ⟨j, rfl⟩ := Int.eq_ofNat_of_zero_le hp0
                      have hj : j < s.works.length := by omega
                      obtain ⟨g2, o2, rfl, hg2, r0, r1, r2⟩ := HX2.out j hj
                      have ew : W.work s.works (j : Int) = s.works[j] := work_at hp0 (by simpa using hj)
                      have hup2 := HUP.out
                      rw [if_pos hp0, ew] at hup2
                      obtain ⟨old, hold⟩ : ∃ old, s.works[j] = old := ⟨_, rfl⟩
                      rw [hold] at hup2 r0 r1 r2
                      have hcw := hEA.cells.1
                      have e0 := (hcw _ _ hg2).trans r0
                      have e1 := (hcw _ _ hg2).trans r1
                      have e2 := (hcw _ _ hg2).trans r2
                      have q2 : g2 < wA.heap.size := by omega
                      have HUP2 := Lib.hid hup2
                      clear hcw r0 r1 r2 hold ew hup2
                      go_upto_region 5 with (fail)
                      go_region_held3 (fun y => (∀ o, y.cell? ⟨w.heap.size, o, none⟩ = (#[.slice a1 s.cells.length c1, .slice (some ⟨g2, o2, none⟩) s.works.length c2, .int .i64 s.reef, .int .i64 s.ll, .int .i64 s.lh] : Array Value)[o]?) ∧ y.cell? ⟨g3, o3 + k, none⟩ = some (.int .i64 (j : Int)) ∧ y.cell? ⟨g2, o2 + j * 3, none⟩ = some (.int .i64 old.rise) ∧ y.cell? ⟨g2, o2 + j * 3 + 1, none⟩ = some (.int .i64 old.calm) ∧ y.cell? ⟨g2, o2 + j * 3 + 2, none⟩ = some (.int .i64 old.cost) ∧ Ext wA y)
                        (first | exact ⟨blk_of hbA7 (by (with_reducible (repeat (first | exact Ext.refl _ | assumption | apply Ext.alloc | apply Ext.drew | exact ext_plus _ _ | (apply Ext.setCell; rotate_left; (simp <;> omega)) | (apply Ext.trans; rotate_left; exact ext_plus _ _) | (apply Ext.trans; rotate_left; assumption))))), (Ext.cells (by (with_reducible (repeat (first | exact Ext.refl _ | assumption | apply Ext.alloc | apply Ext.drew | exact ext_plus _ _ | (apply Ext.setCell; rotate_left; (simp <;> omega)) | (apply Ext.trans; rotate_left; exact ext_plus _ _) | (apply Ext.trans; rotate_left; assumption)))))).1 _ _ q3 |>.trans h03A, (Ext.cells (by (with_reducible (repeat (first | exact Ext.refl _ | assumption | apply Ext.alloc | apply Ext.drew | exact ext_plus _ _ | (apply Ext.setCell; rotate_left; (simp <;> omega)) | (apply Ext.trans; rotate_left; exact ext_plus _ _) | (apply Ext.trans; rotate_left; assumption)))))).1 _ _ q2 |>.trans e0, (Ext.cells (by (with_reducible (repeat (first | exact Ext.refl _ | assumption | apply Ext.alloc | apply Ext.drew | exact ext_plus _ _ | (apply Ext.setCell; rotate_left; (simp <;> omega)) | (apply Ext.trans; rotate_left; exact ext_plus _ _) | (apply Ext.trans; rotate_left; assumption)))))).1 _ _ q2 |>.trans e1, (Ext.cells (by (with_reducible (repeat (first | exact Ext.refl _ | assumption | apply Ext.alloc | apply Ext.drew | exact ext_plus _ _ | (apply Ext.setCell; rotate_left; (simp <;> omega)) | (apply Ext.trans; rotate_left; exact ext_plus _ _) | (apply Ext.trans; rotate_left; assumption)))))).1 _ _ q2 |>.trans e2, by (with_reducible (repeat (first | exact Ext.refl _ | assumption | apply Ext.alloc | apply Ext.drew | exact ext_plus _ _ | (apply Ext.setCell; rotate_left; (simp <;> omega)) | (apply Ext.trans; rotate_left; exact ext_plus _ _) | (apply Ext.trans; rotate_left; assumption))))⟩)
                        (first | (fail))
                      obtain ⟨wB, hwB⟩ : ∃ wB, (wA.alloc (.cells #[.int .i64 old.rise, .int .i64 old.calm, .int .i64 old.cost] 65)).drew = wB := ⟨_, rfl⟩
                      rw [hwB]
                      have hB7 : Blk wB w.heap.size #[.slice a1 s.cells.length c1, .slice (some ⟨g2, o2, none⟩) s.works.length c2, .int .i64 s.reef, .int .i64 s.ll, .int .i64 s.lh] 27 := by rw [← hwB]; exact (hbA7.alloc _).drew
                      have hB8 : Blk wB (w.heap.size + 1) #[.int .i64 c.wl, .int .i64 c.wh, .int .i64 c.fl, .int .i64 c.fh, .int .i64 c.tl, .int .i64 c.th] 29 := by rw [← hwB]; exact (hbA8.alloc _).drew
                      have hB1 : Blk wB (w.heap.size + 1 + 1) #[.int .i64 wk.rise, .int .i64 wk.calm, .int .i64 wk.cost] 65 := by rw [← hwB]; exact (hbA1.alloc _).drew
                      have hB5 : Blk wB n3 #[.slice a1 s.cells.length c1, .slice (some ⟨g2, o2, none⟩) s.works.length c2, .int .i64 s.reef, .int .i64 s.ll, .int .i64 s.lh] 27 := by rw [← hwB]; exact (hbA5.alloc _).drew
                      have hB6 : Blk wB wA.heap.size #[.int .i64 old.rise, .int .i64 old.calm, .int .i64 old.cost] 65 := by rw [← hwB]; exact (Blk.new _ _ _).drew
                      have hEB : Ext w wB := by rw [← hwB]; exact (hEA.alloc _).drew
                      have hzB : wA.heap.size ≤ wB.heap.size := by rw [← hwB]; simp [size_drew]
                      clear hwB
                      have hpc := plus_cell
                      have k1 := hB1.cell
                      have k2 := hB1.lt
                      have k3 := hB6.cell
                      have k4 := hB6.lt
                      have k5 := hB1.free
                      dsimp only [Exit.then]
                      go_upto_region 6 with (fail)
                      clear e0 e1 e2 h03A q2 q3 hcA hlA hbA7 hbA8 hbA1 hbA5 hEA hg2 hg3 h03 hC hW hP hpk hk HX2 HX3 HPP HOK HBB HO HPL HPW h2 hn hm hn12 hw3 hj hp0 hzw hpc
                      have hB6d := hB6.drew
                      have hB1d := hB1.drew
                      have h16 := hB6d.cell
                      have h11 := hB1d.cell
                      clear k1 k3 k5
                      rcases Int.lt_or_le wk.rise old.rise with hr | hr
                      · rcases Int.lt_or_le wk.calm old.calm with hcl | hcl
                        · have hup3 := HUP2.out
                          rw [if_pos hr] at hup3
                          rw [if_pos hcl] at hup3
                          have HUP3 := Lib.hid hup3
                          clear hup3 HUP2 HUP
                          refine wp_region_late 11 (fun b y => (∀ o, y.cell? ⟨wA.heap.size, o, none⟩ = (#[.int .i64 old.rise, .int .i64 old.calm, .int .i64 old.cost] : Array Value)[o]?) ∧ (b = false → ∀ o, y.cell? ⟨w.heap.size + 1 + 1, o, none⟩ = (#[.int .i64 wk.rise, .int .i64 wk.calm, .int .i64 wk.cost] : Array Value)[o]?)) (by kernel_rfl) (fun hL => ?_)
                          refine late_early (i := 0) (v := ?_) rfl (by kernel_rfl) (by kernel_rfl) (by kernel_rfl) (by decide) (by kernel_rfl) (fun _ _ _ h => h) hL (Or.inl ⟨by rfl, ?_⟩) ⟨h16, fun _ => h11⟩ (fun hL' => ?_)
                          rotate_left
                          · intro y hy; obtain ⟨g16, g11⟩ := hy; (try have g11 := g11 rfl); go_simp; (try with_reducible rfl)
                          clear hL; rename Shutb _ _ => hL
                          (try simp only [Act.put, List.setIfInBounds_toArray, List.set_cons_zero, List.set_cons_succ])
                          refine late_early (i := 1) (v := ?_) rfl (by kernel_rfl) (by kernel_rfl) (by kernel_rfl) (by decide) (by kernel_rfl) (fun _ _ _ h => h) hL (Or.inl ⟨by rfl, ?_⟩) ⟨h16, fun _ => h11⟩ (fun hL' => ?_)
                          rotate_left
                          · intro y hy; obtain ⟨g16, g11⟩ := hy; (try have g11 := g11 rfl); go_simp; (try with_reducible rfl)
                          clear hL; rename Shutb _ _ => hL
                          (try simp only [Act.put, List.setIfInBounds_toArray, List.set_cons_zero, List.set_cons_succ])
                          refine late_early (i := 2) (v := ?_) rfl (by kernel_rfl) (by kernel_rfl) (by kernel_rfl) (by decide) (by kernel_rfl) (fun _ _ _ h => h) hL (Or.inl ⟨by rfl, ?_⟩) ⟨h16, fun _ => h11⟩ (fun hL' => ?_)
                          rotate_left
                          · intro y hy; obtain ⟨g16, g11⟩ := hy; (try have g11 := g11 rfl); go_simp; (try with_reducible rfl)
                          clear hL; rename Shutb _ _ => hL
                          (try simp only [Act.put, List.setIfInBounds_toArray, List.set_cons_zero, List.set_cons_succ])
                          refine late_early (i := 3) (v := ?_) rfl (by kernel_rfl) (by kernel_rfl) (by kernel_rfl) (by decide) (by kernel_rfl) (fun _ _ _ h => h) hL (Or.inl ⟨by rfl, ?_⟩) ⟨h16, fun _ => h11⟩ (fun hL' => ?_)
                          rotate_left
                          · intro y hy; obtain ⟨g16, g11⟩ := hy; (try have g11 := g11 rfl); go_simp; (try with_reducible rfl)
                          clear hL; rename Shutb _ _ => hL
                          (try simp only [Act.put, List.setIfInBounds_toArray, List.set_cons_zero, List.set_cons_succ])
                          refine late_early (i := 4) (v := ?_) rfl (by kernel_rfl) (by kernel_rfl) (by kernel_rfl) (by decide) (by kernel_rfl) (fun _ _ _ h => h) hL (Or.inl ⟨by rfl, ?_⟩) ⟨h16, fun _ => h11⟩ (fun hL' => ?_)
                          rotate_left
                          · intro y hy; obtain ⟨g16, g11⟩ := hy; (try have g11 := g11 rfl); go_simp; (try with_reducible rfl)
                          clear hL; rename Shutb _ _ => hL
                          (try simp only [Act.put, List.setIfInBounds_toArray, List.set_cons_zero, List.set_cons_succ])
                          refine late_early (i := 5) (v := ?_) rfl (by kernel_rfl) (by kernel_rfl) (by kernel_rfl) (by decide) (by kernel_rfl) (fun _ _ _ h => h) hL (Or.inl ⟨by rfl, ?_⟩) ⟨h16, fun _ => h11⟩ (fun hL' => ?_)
                          rotate_left
                          · intro y hy; obtain ⟨g16, g11⟩ := hy; (try have g11 := g11 rfl); go_simp; (try with_reducible rfl)
                          clear hL; rename Shutb _ _ => hL
                          (try simp only [Act.put, List.setIfInBounds_toArray, List.set_cons_zero, List.set_cons_succ])
                          refine late_early (i := 6) (v := ?_) rfl (by kernel_rfl) (by kernel_rfl) (by kernel_rfl) (by decide) (by kernel_rfl) (fun _ _ _ h => h) hL (Or.inl ⟨by rfl, ?_⟩) ⟨h16, fun _ => h11⟩ (fun hL' => ?_)
                          rotate_left
                          · intro y hy; obtain ⟨g16, g11⟩ := hy; (try have g11 := g11 rfl); go_simp; (try with_reducible rfl)
                          clear hL; rename Shutb _ _ => hL
                          (try simp only [Act.put, List.setIfInBounds_toArray, List.set_cons_zero, List.set_cons_succ])
                          refine late_late (i := 7) (v := ?_) rfl (by kernel_rfl) (by kernel_rfl) (by kernel_rfl) (by decide) (fun _ h => ⟨h.1, fun e => by cases e⟩) (fun _ _ _ h => h) hL (Or.inl ⟨by rfl, ?_⟩) ⟨h16, fun _ => h11⟩ (fun hL' => ?_)
                          rotate_left
                          · intro y hy; obtain ⟨g16, g11⟩ := hy; (try have g11 := g11 rfl); go_simp; (try with_reducible rfl)
                          clear hL; rename Shutb _ _ => hL
                          (try simp only [Act.put, List.setIfInBounds_toArray, List.set_cons_zero, List.set_cons_succ])
                          refine late_late (i := 8) (v := ?_) rfl (by kernel_rfl) (by kernel_rfl) (by kernel_rfl) (by decide) (fun _ h => ⟨h.1, fun e => by cases e⟩) (fun _ _ _ h => h) hL (Or.inl ⟨by rfl, ?_⟩) ⟨h16, fun _ => h11⟩ (fun hL' => ?_)
                          rotate_left
                          · intro y hy; obtain ⟨g16, g11⟩ := hy; (try have g11 := g11 rfl); go_simp; (try with_reducible rfl)
                          clear hL; rename Shutb _ _ => hL
                          (try simp only [Act.put, List.setIfInBounds_toArray, List.set_cons_zero, List.set_cons_succ])
                          refine late_late (i := 9) (v := ?_) rfl (by kernel_rfl) (by kernel_rfl) (by kernel_rfl) (by decide) (fun _ h => ⟨h.1, fun e => by cases e⟩) (fun _ _ _ h => h) hL (Or.inl ⟨by rfl, ?_⟩) ⟨h16, fun _ => h11⟩ (fun hL' => ?_)
                          rotate_left
                          · intro y hy; obtain ⟨g16, g11⟩ := hy; (try have g11 := g11 rfl); go_simp; (try with_reducible rfl)
                          clear hL; rename Shutb _ _ => hL
                          (try simp only [Act.put, List.setIfInBounds_toArray, List.set_cons_zero, List.set_cons_succ])
                          refine late_late (i := 10) (v := ?_) rfl (by kernel_rfl) (by kernel_rfl) (by kernel_rfl) (by decide) (fun _ h => ⟨h.1, fun e => by cases e⟩) (fun _ _ _ h => h) hL (Or.inl ⟨by rfl, ?_⟩) ⟨h16, fun _ => h11⟩ (fun hL' => ?_)
                          rotate_left
                          · intro y hy; obtain ⟨g16, g11⟩ := hy; (try have g11 := g11 rfl); go_simp; (try with_reducible rfl)
                          clear hL; rename Shutb _ _ => hL
                          (try simp only [Act.put, List.setIfInBounds_toArray, List.set_cons_zero, List.set_cons_succ])
                          have f11 := hB1d.free
                          refine late_one (i := 11) (by kernel_rfl) hL (fun hL2 => ?_)
                          refine wpOp_step rfl (fun K hK => ?_)
                          go_simp
                          have hB6e := hB6d.other (a := ⟨w.heap.size + 1 + 1, 0, none⟩) (by simp <;> omega) (.int .i64 old.rise)
                          have hB1e : Blk _ (w.heap.size + 1 + 1) #[.int .i64 old.rise, .int .i64 wk.calm, .int .i64 wk.cost] 65 := hB1d.set 0 (.int .i64 old.rise)
                          refine hK _ _ ⟨⟨hB6e.cell, fun e => absurd (e : true = false) (by decide)⟩, ?_⟩
                          clear hK K h16 h11 f11
                          (try simp only [Act.put, List.setIfInBounds_toArray, List.set_cons_zero, List.set_cons_succ])
                          have h16 := hB6e.cell
                          have h11 := hB1e.cell
                          clear hL; rename Shutb _ _ => hL
                          refine late_late (i := 12) (v := ?_) rfl (by kernel_rfl) (by kernel_rfl) (by kernel_rfl) (by decide) (fun _ h => ⟨h.1, fun e => by cases e⟩) (fun _ _ _ h => h) hL (Or.inl ⟨by rfl, ?_⟩) ⟨h16, fun e => absurd (e : true = false) (by decide)⟩ (fun hL' => ?_)
                          rotate_left
                          · intro y hy; obtain ⟨g16, g11⟩ := hy; (try have g11 := g11 rfl); go_simp; (try with_reducible rfl)
                          clear hL; rename Shutb _ _ => hL
                          (try simp only [Act.put, List.setIfInBounds_toArray, List.set_cons_zero, List.set_cons_succ])
                          have k1 := hB1.cell
                          have k5 := hB1.free
                          clear h11
                          refine late_one (i := 13) (by kernel_rfl) hL (fun _ => ?_)
                          refine wpOp_step rfl (fun K hK => ?_)
                          go_simp
                          have hB6f := hB6e.other (a := ⟨w.heap.size + 1 + 1, 1, none⟩) (by simp <;> omega) (.int .i64 old.calm)
                          refine hK _ _ ⟨⟨hB6f.cell, fun e => absurd (e : true = false) (by decide)⟩, ?_⟩
                          clear hK K
                          (try simp only [Act.put, List.setIfInBounds_toArray, List.set_cons_zero, List.set_cons_succ])
                          refine late_done (by kernel_rfl) ?_
                          dsimp only [Exit.then]
                          go_wp2
                          go_meet
                          have hB1' := hB1e.set 1 (.int .i64 old.calm)
                          rw [← HUP3.out]
                          exact ⟨(hB7.drew.other (by simp <;> omega) _).other (by simp <;> omega) _, (hB8.drew.other (by simp <;> omega) _).other (by simp <;> omega) _, hB1', (hB5.drew.other (by simp <;> omega) _).other (by simp <;> omega) _, (hEB.drew.setCell (by simp <;> omega) _).setCell (by simp <;> omega) _, by simp [size_setCell, size_drew] <;> omega⟩
                        · have hup3 := HUP2.out
                          rw [if_pos hr] at hup3
                          rw [if_neg (Int.not_lt.2 hcl)] at hup3
                          have HUP3 := Lib.hid hup3
                          clear hup3 HUP2 HUP
                          have hcl := Int.not_lt.2 hcl
                          refine wp_region_late 11 (fun b y => (∀ o, y.cell? ⟨wA.heap.size, o, none⟩ = (#[.int .i64 old.rise, .int .i64 old.calm, .int .i64 old.cost] : Array Value)[o]?) ∧ (b = false → ∀ o, y.cell? ⟨w.heap.size + 1 + 1, o, none⟩ = (#[.int .i64 wk.rise, .int .i64 wk.calm, .int .i64 wk.cost] : Array Value)[o]?)) (by kernel_rfl) (fun hL => ?_)
                          refine late_early (i := 0) (v := ?_) rfl (by kernel_rfl) (by kernel_rfl) (by kernel_rfl) (by decide) (by kernel_rfl) (fun _ _ _ h => h) hL (Or.inl ⟨by rfl, ?_⟩) ⟨h16, fun _ => h11⟩ (fun hL' => ?_)
                          rotate_left
                          · intro y hy; obtain ⟨g16, g11⟩ := hy; (try have g11 := g11 rfl); go_simp; (try with_reducible rfl)
                          clear hL; rename Shutb _ _ => hL
                          (try simp only [Act.put, List.setIfInBounds_toArray, List.set_cons_zero, List.set_cons_succ])
                          refine late_early (i := 1) (v := ?_) rfl (by kernel_rfl) (by kernel_rfl) (by kernel_rfl) (by decide) (by kernel_rfl) (fun _ _ _ h => h) hL (Or.inl ⟨by rfl, ?_⟩) ⟨h16, fun _ => h11⟩ (fun hL' => ?_)
                          rotate_left
                          · intro y hy; obtain ⟨g16, g11⟩ := hy; (try have g11 := g11 rfl); go_simp; (try with_reducible rfl)
                          clear hL; rename Shutb _ _ => hL
                          (try simp only [Act.put, List.setIfInBounds_toArray, List.set_cons_zero, List.set_cons_succ])
                          refine late_early (i := 2) (v := ?_) rfl (by kernel_rfl) (by kernel_rfl) (by kernel_rfl) (by decide) (by kernel_rfl) (fun _ _ _ h => h) hL (Or.inl ⟨by rfl, ?_⟩) ⟨h16, fun _ => h11⟩ (fun hL' => ?_)
                          rotate_left
                          · intro y hy; obtain ⟨g16, g11⟩ := hy; (try have g11 := g11 rfl); go_simp; (try with_reducible rfl)
                          clear hL; rename Shutb _ _ => hL
                          (try simp only [Act.put, List.setIfInBounds_toArray, List.set_cons_zero, List.set_cons_succ])
                          refine late_early (i := 3) (v := ?_) rfl (by kernel_rfl) (by kernel_rfl) (by kernel_rfl) (by decide) (by kernel_rfl) (fun _ _ _ h => h) hL (Or.inl ⟨by rfl, ?_⟩) ⟨h16, fun _ => h11⟩ (fun hL' => ?_)
                          rotate_left
                          · intro y hy; obtain ⟨g16, g11⟩ := hy; (try have g11 := g11 rfl); go_simp; (try with_reducible rfl)
                          clear hL; rename Shutb _ _ => hL
                          (try simp only [Act.put, List.setIfInBounds_toArray, List.set_cons_zero, List.set_cons_succ])
                          refine late_early (i := 4) (v := ?_) rfl (by kernel_rfl) (by kernel_rfl) (by kernel_rfl) (by decide) (by kernel_rfl) (fun _ _ _ h => h) hL (Or.inl ⟨by rfl, ?_⟩) ⟨h16, fun _ => h11⟩ (fun hL' => ?_)
                          rotate_left
                          · intro y hy; obtain ⟨g16, g11⟩ := hy; (try have g11 := g11 rfl); go_simp; (try with_reducible rfl)
                          clear hL; rename Shutb _ _ => hL
                          (try simp only [Act.put, List.setIfInBounds_toArray, List.set_cons_zero, List.set_cons_succ])
                          refine late_early (i := 5) (v := ?_) rfl (by kernel_rfl) (by kernel_rfl) (by kernel_rfl) (by decide) (by kernel_rfl) (fun _ _ _ h => h) hL (Or.inl ⟨by rfl, ?_⟩) ⟨h16, fun _ => h11⟩ (fun hL' => ?_)
                          rotate_left
                          · intro y hy; obtain ⟨g16, g11⟩ := hy; (try have g11 := g11 rfl); go_simp; (try with_reducible rfl)
                          clear hL; rename Shutb _ _ => hL
                          (try simp only [Act.put, List.setIfInBounds_toArray, List.set_cons_zero, List.set_cons_succ])
                          refine late_early (i := 6) (v := ?_) rfl (by kernel_rfl) (by kernel_rfl) (by kernel_rfl) (by decide) (by kernel_rfl) (fun _ _ _ h => h) hL (Or.inl ⟨by rfl, ?_⟩) ⟨h16, fun _ => h11⟩ (fun hL' => ?_)
                          rotate_left
                          · intro y hy; obtain ⟨g16, g11⟩ := hy; (try have g11 := g11 rfl); go_simp; (try with_reducible rfl)
                          clear hL; rename Shutb _ _ => hL
                          (try simp only [Act.put, List.setIfInBounds_toArray, List.set_cons_zero, List.set_cons_succ])
                          refine late_late (i := 7) (v := ?_) rfl (by kernel_rfl) (by kernel_rfl) (by kernel_rfl) (by decide) (fun _ h => ⟨h.1, fun e => by cases e⟩) (fun _ _ _ h => h) hL (Or.inl ⟨by rfl, ?_⟩) ⟨h16, fun _ => h11⟩ (fun hL' => ?_)
                          rotate_left
                          · intro y hy; obtain ⟨g16, g11⟩ := hy; (try have g11 := g11 rfl); go_simp; (try with_reducible rfl)
                          clear hL; rename Shutb _ _ => hL
                          (try simp only [Act.put, List.setIfInBounds_toArray, List.set_cons_zero, List.set_cons_succ])
                          refine late_late (i := 8) (v := ?_) rfl (by kernel_rfl) (by kernel_rfl) (by kernel_rfl) (by decide) (fun _ h => ⟨h.1, fun e => by cases e⟩) (fun _ _ _ h => h) hL (Or.inl ⟨by rfl, ?_⟩) ⟨h16, fun _ => h11⟩ (fun hL' => ?_)
                          rotate_left
                          · intro y hy; obtain ⟨g16, g11⟩ := hy; (try have g11 := g11 rfl); go_simp; (try with_reducible rfl)
                          clear hL; rename Shutb _ _ => hL
                          (try simp only [Act.put, List.setIfInBounds_toArray, List.set_cons_zero, List.set_cons_succ])
                          refine late_late (i := 9) (v := ?_) rfl (by kernel_rfl) (by kernel_rfl) (by kernel_rfl) (by decide) (fun _ h => ⟨h.1, fun e => by cases e⟩) (fun _ _ _ h => h) hL (Or.inl ⟨by rfl, ?_⟩) ⟨h16, fun _ => h11⟩ (fun hL' => ?_)
                          rotate_left
                          · intro y hy; obtain ⟨g16, g11⟩ := hy; (try have g11 := g11 rfl); go_simp; (try with_reducible rfl)
                          clear hL; rename Shutb _ _ => hL
                          (try simp only [Act.put, List.setIfInBounds_toArray, List.set_cons_zero, List.set_cons_succ])
                          refine late_late (i := 10) (v := ?_) rfl (by kernel_rfl) (by kernel_rfl) (by kernel_rfl) (by decide) (fun _ h => ⟨h.1, fun e => by cases e⟩) (fun _ _ _ h => h) hL (Or.inl ⟨by rfl, ?_⟩) ⟨h16, fun _ => h11⟩ (fun hL' => ?_)
                          rotate_left
                          · intro y hy; obtain ⟨g16, g11⟩ := hy; (try have g11 := g11 rfl); go_simp; (try with_reducible rfl)
                          clear hL; rename Shutb _ _ => hL
                          (try simp only [Act.put, List.setIfInBounds_toArray, List.set_cons_zero, List.set_cons_succ])
                          have f11 := hB1d.free
                          refine late_one (i := 11) (by kernel_rfl) hL (fun hL2 => ?_)
                          refine wpOp_step rfl (fun K hK => ?_)
                          go_simp
                          have hB6e := hB6d.other (a := ⟨w.heap.size + 1 + 1, 0, none⟩) (by simp <;> omega) (.int .i64 old.rise)
                          have hB1e : Blk _ (w.heap.size + 1 + 1) #[.int .i64 old.rise, .int .i64 wk.calm, .int .i64 wk.cost] 65 := hB1d.set 0 (.int .i64 old.rise)
                          refine hK _ _ ⟨⟨hB6e.cell, fun e => absurd (e : true = false) (by decide)⟩, ?_⟩
                          clear hK K h16 h11 f11
                          (try simp only [Act.put, List.setIfInBounds_toArray, List.set_cons_zero, List.set_cons_succ])
                          have h16 := hB6e.cell
                          have h11 := hB1e.cell
                          clear hL; rename Shutb _ _ => hL
                          refine late_late (i := 12) (v := ?_) rfl (by kernel_rfl) (by kernel_rfl) (by kernel_rfl) (by decide) (fun _ h => ⟨h.1, fun e => by cases e⟩) (fun _ _ _ h => h) hL (Or.inl ⟨by rfl, ?_⟩) ⟨h16, fun e => absurd (e : true = false) (by decide)⟩ (fun hL' => ?_)
                          rotate_left
                          · intro y hy; obtain ⟨g16, g11⟩ := hy; (try have g11 := g11 rfl); go_simp; (try with_reducible rfl)
                          clear hL; rename Shutb _ _ => hL
                          (try simp only [Act.put, List.setIfInBounds_toArray, List.set_cons_zero, List.set_cons_succ])
                          have k1 := hB1.cell
                          have k5 := hB1.free
                          clear h11
                          refine late_one (i := 13) (by kernel_rfl) hL (fun _ => ?_)
                          refine wpOp_step rfl (fun K hK => ?_)
                          go_simp
                          have hB6f := hB6e.other (a := ⟨w.heap.size + 1 + 1, 1, none⟩) (by simp <;> omega) (.int .i64 wk.calm)
                          refine hK _ _ ⟨⟨hB6f.cell, fun e => absurd (e : true = false) (by decide)⟩, ?_⟩
                          clear hK K
                          (try simp only [Act.put, List.setIfInBounds_toArray, List.set_cons_zero, List.set_cons_succ])
                          refine late_done (by kernel_rfl) ?_
                          dsimp only [Exit.then]
                          go_wp2
                          go_meet
                          have hB1' := hB1e.set 1 (.int .i64 wk.calm)
                          rw [← HUP3.out]
                          exact ⟨(hB7.drew.other (by simp <;> omega) _).other (by simp <;> omega) _, (hB8.drew.other (by simp <;> omega) _).other (by simp <;> omega) _, hB1', (hB5.drew.other (by simp <;> omega) _).other (by simp <;> omega) _, (hEB.drew.setCell (by simp <;> omega) _).setCell (by simp <;> omega) _, by simp [size_setCell, size_drew] <;> omega⟩
                      · rcases Int.lt_or_le wk.calm old.calm with hcl | hcl
                        · have hup3 := HUP2.out
                          rw [if_neg (Int.not_lt.2 hr)] at hup3
                          rw [if_pos hcl] at hup3
                          have HUP3 := Lib.hid hup3
                          clear hup3 HUP2 HUP
                          have hr := Int.not_lt.2 hr
                          refine wp_region_late 11 (fun b y => (∀ o, y.cell? ⟨wA.heap.size, o, none⟩ = (#[.int .i64 old.rise, .int .i64 old.calm, .int .i64 old.cost] : Array Value)[o]?) ∧ (b = false → ∀ o, y.cell? ⟨w.heap.size + 1 + 1, o, none⟩ = (#[.int .i64 wk.rise, .int .i64 wk.calm, .int .i64 wk.cost] : Array Value)[o]?)) (by kernel_rfl) (fun hL => ?_)
                          refine late_early (i := 0) (v := ?_) rfl (by kernel_rfl) (by kernel_rfl) (by kernel_rfl) (by decide) (by kernel_rfl) (fun _ _ _ h => h) hL (Or.inl ⟨by rfl, ?_⟩) ⟨h16, fun _ => h11⟩ (fun hL' => ?_)
                          rotate_left
                          · intro y hy; obtain ⟨g16, g11⟩ := hy; (try have g11 := g11 rfl); go_simp; (try with_reducible rfl)
                          clear hL; rename Shutb _ _ => hL
                          (try simp only [Act.put, List.setIfInBounds_toArray, List.set_cons_zero, List.set_cons_succ])
                          refine late_early (i := 1) (v := ?_) rfl (by kernel_rfl) (by kernel_rfl) (by kernel_rfl) (by decide) (by kernel_rfl) (fun _ _ _ h => h) hL (Or.inl ⟨by rfl, ?_⟩) ⟨h16, fun _ => h11⟩ (fun hL' => ?_)
                          rotate_left
                          · intro y hy; obtain ⟨g16, g11⟩ := hy; (try have g11 := g11 rfl); go_simp; (try with_reducible rfl)
                          clear hL; rename Shutb _ _ => hL
                          (try simp only [Act.put, List.setIfInBounds_toArray, List.set_cons_zero, List.set_cons_succ])
                          refine late_early (i := 2) (v := ?_) rfl (by kernel_rfl) (by kernel_rfl) (by kernel_rfl) (by decide) (by kernel_rfl) (fun _ _ _ h => h) hL (Or.inl ⟨by rfl, ?_⟩) ⟨h16, fun _ => h11⟩ (fun hL' => ?_)
                          rotate_left
                          · intro y hy; obtain ⟨g16, g11⟩ := hy; (try have g11 := g11 rfl); go_simp; (try with_reducible rfl)
                          clear hL; rename Shutb _ _ => hL
                          (try simp only [Act.put, List.setIfInBounds_toArray, List.set_cons_zero, List.set_cons_succ])
                          refine late_early (i := 3) (v := ?_) rfl (by kernel_rfl) (by kernel_rfl) (by kernel_rfl) (by decide) (by kernel_rfl) (fun _ _ _ h => h) hL (Or.inl ⟨by rfl, ?_⟩) ⟨h16, fun _ => h11⟩ (fun hL' => ?_)
                          rotate_left
                          · intro y hy; obtain ⟨g16, g11⟩ := hy; (try have g11 := g11 rfl); go_simp; (try with_reducible rfl)
                          clear hL; rename Shutb _ _ => hL
                          (try simp only [Act.put, List.setIfInBounds_toArray, List.set_cons_zero, List.set_cons_succ])
                          refine late_early (i := 4) (v := ?_) rfl (by kernel_rfl) (by kernel_rfl) (by kernel_rfl) (by decide) (by kernel_rfl) (fun _ _ _ h => h) hL (Or.inl ⟨by rfl, ?_⟩) ⟨h16, fun _ => h11⟩ (fun hL' => ?_)
                          rotate_left
                          · intro y hy; obtain ⟨g16, g11⟩ := hy; (try have g11 := g11 rfl); go_simp; (try with_reducible rfl)
                          clear hL; rename Shutb _ _ => hL
                          (try simp only [Act.put, List.setIfInBounds_toArray, List.set_cons_zero, List.set_cons_succ])
                          refine late_early (i := 5) (v := ?_) rfl (by kernel_rfl) (by kernel_rfl) (by kernel_rfl) (by decide) (by kernel_rfl) (fun _ _ _ h => h) hL (Or.inl ⟨by rfl, ?_⟩) ⟨h16, fun _ => h11⟩ (fun hL' => ?_)
                          rotate_left
                          · intro y hy; obtain ⟨g16, g11⟩ := hy; (try have g11 := g11 rfl); go_simp; (try with_reducible rfl)
                          clear hL; rename Shutb _ _ => hL
                          (try simp only [Act.put, List.setIfInBounds_toArray, List.set_cons_zero, List.set_cons_succ])
                          refine late_early (i := 6) (v := ?_) rfl (by kernel_rfl) (by kernel_rfl) (by kernel_rfl) (by decide) (by kernel_rfl) (fun _ _ _ h => h) hL (Or.inl ⟨by rfl, ?_⟩) ⟨h16, fun _ => h11⟩ (fun hL' => ?_)
                          rotate_left
                          · intro y hy; obtain ⟨g16, g11⟩ := hy; (try have g11 := g11 rfl); go_simp; (try with_reducible rfl)
                          clear hL; rename Shutb _ _ => hL
                          (try simp only [Act.put, List.setIfInBounds_toArray, List.set_cons_zero, List.set_cons_succ])
                          refine late_late (i := 7) (v := ?_) rfl (by kernel_rfl) (by kernel_rfl) (by kernel_rfl) (by decide) (fun _ h => ⟨h.1, fun e => by cases e⟩) (fun _ _ _ h => h) hL (Or.inl ⟨by rfl, ?_⟩) ⟨h16, fun _ => h11⟩ (fun hL' => ?_)
                          rotate_left
                          · intro y hy; obtain ⟨g16, g11⟩ := hy; (try have g11 := g11 rfl); go_simp; (try with_reducible rfl)
                          clear hL; rename Shutb _ _ => hL
                          (try simp only [Act.put, List.setIfInBounds_toArray, List.set_cons_zero, List.set_cons_succ])
                          refine late_late (i := 8) (v := ?_) rfl (by kernel_rfl) (by kernel_rfl) (by kernel_rfl) (by decide) (fun _ h => ⟨h.1, fun e => by cases e⟩) (fun _ _ _ h => h) hL (Or.inl ⟨by rfl, ?_⟩) ⟨h16, fun _ => h11⟩ (fun hL' => ?_)
                          rotate_left
                          · intro y hy; obtain ⟨g16, g11⟩ := hy; (try have g11 := g11 rfl); go_simp; (try with_reducible rfl)
                          clear hL; rename Shutb _ _ => hL
                          (try simp only [Act.put, List.setIfInBounds_toArray, List.set_cons_zero, List.set_cons_succ])
                          refine late_late (i := 9) (v := ?_) rfl (by kernel_rfl) (by kernel_rfl) (by kernel_rfl) (by decide) (fun _ h => ⟨h.1, fun e => by cases e⟩) (fun _ _ _ h => h) hL (Or.inl ⟨by rfl, ?_⟩) ⟨h16, fun _ => h11⟩ (fun hL' => ?_)
                          rotate_left
                          · intro y hy; obtain ⟨g16, g11⟩ := hy; (try have g11 := g11 rfl); go_simp; (try with_reducible rfl)
                          clear hL; rename Shutb _ _ => hL
                          (try simp only [Act.put, List.setIfInBounds_toArray, List.set_cons_zero, List.set_cons_succ])
                          refine late_late (i := 10) (v := ?_) rfl (by kernel_rfl) (by kernel_rfl) (by kernel_rfl) (by decide) (fun _ h => ⟨h.1, fun e => by cases e⟩) (fun _ _ _ h => h) hL (Or.inl ⟨by rfl, ?_⟩) ⟨h16, fun _ => h11⟩ (fun hL' => ?_)
                          rotate_left
                          · intro y hy; obtain ⟨g16, g11⟩ := hy; (try have g11 := g11 rfl); go_simp; (try with_reducible rfl)
                          clear hL; rename Shutb _ _ => hL
                          (try simp only [Act.put, List.setIfInBounds_toArray, List.set_cons_zero, List.set_cons_succ])
                          have f11 := hB1d.free
                          refine late_one (i := 11) (by kernel_rfl) hL (fun hL2 => ?_)
                          refine wpOp_step rfl (fun K hK => ?_)
                          go_simp
                          have hB6e := hB6d.other (a := ⟨w.heap.size + 1 + 1, 0, none⟩) (by simp <;> omega) (.int .i64 wk.rise)
                          have hB1e : Blk _ (w.heap.size + 1 + 1) #[.int .i64 wk.rise, .int .i64 wk.calm, .int .i64 wk.cost] 65 := hB1d.set 0 (.int .i64 wk.rise)
                          refine hK _ _ ⟨⟨hB6e.cell, fun e => absurd (e : true = false) (by decide)⟩, ?_⟩
                          clear hK K h16 h11 f11
                          (try simp only [Act.put, List.setIfInBounds_toArray, List.set_cons_zero, List.set_cons_succ])
                          have h16 := hB6e.cell
                          have h11 := hB1e.cell
                          clear hL; rename Shutb _ _ => hL
                          refine late_late (i := 12) (v := ?_) rfl (by kernel_rfl) (by kernel_rfl) (by kernel_rfl) (by decide) (fun _ h => ⟨h.1, fun e => by cases e⟩) (fun _ _ _ h => h) hL (Or.inl ⟨by rfl, ?_⟩) ⟨h16, fun e => absurd (e : true = false) (by decide)⟩ (fun hL' => ?_)
                          rotate_left
                          · intro y hy; obtain ⟨g16, g11⟩ := hy; (try have g11 := g11 rfl); go_simp; (try with_reducible rfl)
                          clear hL; rename Shutb _ _ => hL
                          (try simp only [Act.put, List.setIfInBounds_toArray, List.set_cons_zero, List.set_cons_succ])
                          have k1 := hB1.cell
                          have k5 := hB1.free
                          clear h11
                          refine late_one (i := 13) (by kernel_rfl) hL (fun _ => ?_)
                          refine wpOp_step rfl (fun K hK => ?_)
                          go_simp
                          have hB6f := hB6e.other (a := ⟨w.heap.size + 1 + 1, 1, none⟩) (by simp <;> omega) (.int .i64 old.calm)
                          refine hK _ _ ⟨⟨hB6f.cell, fun e => absurd (e : true = false) (by decide)⟩, ?_⟩
                          clear hK K
                          (try simp only [Act.put, List.setIfInBounds_toArray, List.set_cons_zero, List.set_cons_succ])
                          refine late_done (by kernel_rfl) ?_
                          dsimp only [Exit.then]
                          go_wp2
                          go_meet
                          have hB1' := hB1e.set 1 (.int .i64 old.calm)
                          rw [← HUP3.out]
                          exact ⟨(hB7.drew.other (by simp <;> omega) _).other (by simp <;> omega) _, (hB8.drew.other (by simp <;> omega) _).other (by simp <;> omega) _, hB1', (hB5.drew.other (by simp <;> omega) _).other (by simp <;> omega) _, (hEB.drew.setCell (by simp <;> omega) _).setCell (by simp <;> omega) _, by simp [size_setCell, size_drew] <;> omega⟩
                        · have hup3 := HUP2.out
                          rw [if_neg (Int.not_lt.2 hr)] at hup3
                          rw [if_neg (Int.not_lt.2 hcl)] at hup3
                          have HUP3 := Lib.hid hup3
                          clear hup3 HUP2 HUP
                          have hr := Int.not_lt.2 hr
                          have hcl := Int.not_lt.2 hcl
                          refine wp_region_late 11 (fun b y => (∀ o, y.cell? ⟨wA.heap.size, o, none⟩ = (#[.int .i64 old.rise, .int .i64 old.calm, .int .i64 old.cost] : Array Value)[o]?) ∧ (b = false → ∀ o, y.cell? ⟨w.heap.size + 1 + 1, o, none⟩ = (#[.int .i64 wk.rise, .int .i64 wk.calm, .int .i64 wk.cost] : Array Value)[o]?)) (by kernel_rfl) (fun hL => ?_)
                          refine late_early (i := 0) (v := ?_) rfl (by kernel_rfl) (by kernel_rfl) (by kernel_rfl) (by decide) (by kernel_rfl) (fun _ _ _ h => h) hL (Or.inl ⟨by rfl, ?_⟩) ⟨h16, fun _ => h11⟩ (fun hL' => ?_)
                          rotate_left
                          · intro y hy; obtain ⟨g16, g11⟩ := hy; (try have g11 := g11 rfl); go_simp; (try with_reducible rfl)
                          clear hL; rename Shutb _ _ => hL
                          (try simp only [Act.put, List.setIfInBounds_toArray, List.set_cons_zero, List.set_cons_succ])
                          refine late_early (i := 1) (v := ?_) rfl (by kernel_rfl) (by kernel_rfl) (by kernel_rfl) (by decide) (by kernel_rfl) (fun _ _ _ h => h) hL (Or.inl ⟨by rfl, ?_⟩) ⟨h16, fun _ => h11⟩ (fun hL' => ?_)
                          rotate_left
                          · intro y hy; obtain ⟨g16, g11⟩ := hy; (try have g11 := g11 rfl); go_simp; (try with_reducible rfl)
                          clear hL; rename Shutb _ _ => hL
                          (try simp only [Act.put, List.setIfInBounds_toArray, List.set_cons_zero, List.set_cons_succ])
                          refine late_early (i := 2) (v := ?_) rfl (by kernel_rfl) (by kernel_rfl) (by kernel_rfl) (by decide) (by kernel_rfl) (fun _ _ _ h => h) hL (Or.inl ⟨by rfl, ?_⟩) ⟨h16, fun _ => h11⟩ (fun hL' => ?_)
                          rotate_left
                          · intro y hy; obtain ⟨g16, g11⟩ := hy; (try have g11 := g11 rfl); go_simp; (try with_reducible rfl)
                          clear hL; rename Shutb _ _ => hL
                          (try simp only [Act.put, List.setIfInBounds_toArray, List.set_cons_zero, List.set_cons_succ])
                          refine late_early (i := 3) (v := ?_) rfl (by kernel_rfl) (by kernel_rfl) (by kernel_rfl) (by decide) (by kernel_rfl) (fun _ _ _ h => h) hL (Or.inl ⟨by rfl, ?_⟩) ⟨h16, fun _ => h11⟩ (fun hL' => ?_)
                          rotate_left
                          · intro y hy; obtain ⟨g16, g11⟩ := hy; (try have g11 := g11 rfl); go_simp; (try with_reducible rfl)
                          clear hL; rename Shutb _ _ => hL
                          (try simp only [Act.put, List.setIfInBounds_toArray, List.set_cons_zero, List.set_cons_succ])
                          refine late_early (i := 4) (v := ?_) rfl (by kernel_rfl) (by kernel_rfl) (by kernel_rfl) (by decide) (by kernel_rfl) (fun _ _ _ h => h) hL (Or.inl ⟨by rfl, ?_⟩) ⟨h16, fun _ => h11⟩ (fun hL' => ?_)
                          rotate_left
                          · intro y hy; obtain ⟨g16, g11⟩ := hy; (try have g11 := g11 rfl); go_simp; (try with_reducible rfl)
                          clear hL; rename Shutb _ _ => hL
                          (try simp only [Act.put, List.setIfInBounds_toArray, List.set_cons_zero, List.set_cons_succ])
                          refine late_early (i := 5) (v := ?_) rfl (by kernel_rfl) (by kernel_rfl) (by kernel_rfl) (by decide) (by kernel_rfl) (fun _ _ _ h => h) hL (Or.inl ⟨by rfl, ?_⟩) ⟨h16, fun _ => h11⟩ (fun hL' => ?_)
                          rotate_left
                          · intro y hy; obtain ⟨g16, g11⟩ := hy; (try have g11 := g11 rfl); go_simp; (try with_reducible rfl)
                          clear hL; rename Shutb _ _ => hL
                          (try simp only [Act.put, List.setIfInBounds_toArray, List.set_cons_zero, List.set_cons_succ])
                          refine late_early (i := 6) (v := ?_) rfl (by kernel_rfl) (by kernel_rfl) (by kernel_rfl) (by decide) (by kernel_rfl) (fun _ _ _ h => h) hL (Or.inl ⟨by rfl, ?_⟩) ⟨h16, fun _ => h11⟩ (fun hL' => ?_)
                          rotate_left
                          · intro y hy; obtain ⟨g16, g11⟩ := hy; (try have g11 := g11 rfl); go_simp; (try with_reducible rfl)
                          clear hL; rename Shutb _ _ => hL
                          (try simp only [Act.put, List.setIfInBounds_toArray, List.set_cons_zero, List.set_cons_succ])
                          refine late_late (i := 7) (v := ?_) rfl (by kernel_rfl) (by kernel_rfl) (by kernel_rfl) (by decide) (fun _ h => ⟨h.1, fun e => by cases e⟩) (fun _ _ _ h => h) hL (Or.inl ⟨by rfl, ?_⟩) ⟨h16, fun _ => h11⟩ (fun hL' => ?_)
                          rotate_left
                          · intro y hy; obtain ⟨g16, g11⟩ := hy; (try have g11 := g11 rfl); go_simp; (try with_reducible rfl)
                          clear hL; rename Shutb _ _ => hL
                          (try simp only [Act.put, List.setIfInBounds_toArray, List.set_cons_zero, List.set_cons_succ])
                          refine late_late (i := 8) (v := ?_) rfl (by kernel_rfl) (by kernel_rfl) (by kernel_rfl) (by decide) (fun _ h => ⟨h.1, fun e => by cases e⟩) (fun _ _ _ h => h) hL (Or.inl ⟨by rfl, ?_⟩) ⟨h16, fun _ => h11⟩ (fun hL' => ?_)
                          rotate_left
                          · intro y hy; obtain ⟨g16, g11⟩ := hy; (try have g11 := g11 rfl); go_simp; (try with_reducible rfl)
                          clear hL; rename Shutb _ _ => hL
                          (try simp only [Act.put, List.setIfInBounds_toArray, List.set_cons_zero, List.set_cons_succ])
                          refine late_late (i := 9) (v := ?_) rfl (by kernel_rfl) (by kernel_rfl) (by kernel_rfl) (by decide) (fun _ h => ⟨h.1, fun e => by cases e⟩) (fun _ _ _ h => h) hL (Or.inl ⟨by rfl, ?_⟩) ⟨h16, fun _ => h11⟩ (fun hL' => ?_)
                          rotate_left
                          · intro y hy; obtain ⟨g16, g11⟩ := hy; (try have g11 := g11 rfl); go_simp; (try with_reducible rfl)
                          clear hL; rename Shutb _ _ => hL
                          (try simp only [Act.put, List.setIfInBounds_toArray, List.set_cons_zero, List.set_cons_succ])
                          refine late_late (i := 10) (v := ?_) rfl (by kernel_rfl) (by kernel_rfl) (by kernel_rfl) (by decide) (fun _ h => ⟨h.1, fun e => by cases e⟩) (fun _ _ _ h => h) hL (Or.inl ⟨by rfl, ?_⟩) ⟨h16, fun _ => h11⟩ (fun hL' => ?_)
                          rotate_left
                          · intro y hy; obtain ⟨g16, g11⟩ := hy; (try have g11 := g11 rfl); go_simp; (try with_reducible rfl)
                          clear hL; rename Shutb _ _ => hL
                          (try simp only [Act.put, List.setIfInBounds_toArray, List.set_cons_zero, List.set_cons_succ])
                          have f11 := hB1d.free
                          refine late_one (i := 11) (by kernel_rfl) hL (fun hL2 => ?_)
                          refine wpOp_step rfl (fun K hK => ?_)
                          go_simp
                          have hB6e := hB6d.other (a := ⟨w.heap.size + 1 + 1, 0, none⟩) (by simp <;> omega) (.int .i64 wk.rise)
                          have hB1e : Blk _ (w.heap.size + 1 + 1) #[.int .i64 wk.rise, .int .i64 wk.calm, .int .i64 wk.cost] 65 := hB1d.set 0 (.int .i64 wk.rise)
                          refine hK _ _ ⟨⟨hB6e.cell, fun e => absurd (e : true = false) (by decide)⟩, ?_⟩
                          clear hK K h16 h11 f11
                          (try simp only [Act.put, List.setIfInBounds_toArray, List.set_cons_zero, List.set_cons_succ])
                          have h16 := hB6e.cell
                          have h11 := hB1e.cell
                          clear hL; rename Shutb _ _ => hL
                          refine late_late (i := 12) (v := ?_) rfl (by kernel_rfl) (by kernel_rfl) (by kernel_rfl) (by decide) (fun _ h => ⟨h.1, fun e => by cases e⟩) (fun _ _ _ h => h) hL (Or.inl ⟨by rfl, ?_⟩) ⟨h16, fun e => absurd (e : true = false) (by decide)⟩ (fun hL' => ?_)
                          rotate_left
                          · intro y hy; obtain ⟨g16, g11⟩ := hy; (try have g11 := g11 rfl); go_simp; (try with_reducible rfl)
                          clear hL; rename Shutb _ _ => hL
                          (try simp only [Act.put, List.setIfInBounds_toArray, List.set_cons_zero, List.set_cons_succ])
                          have k1 := hB1.cell
                          have k5 := hB1.free
                          clear h11
                          refine late_one (i := 13) (by kernel_rfl) hL (fun _ => ?_)
                          refine wpOp_step rfl (fun K hK => ?_)
                          go_simp
                          have hB6f := hB6e.other (a := ⟨w.heap.size + 1 + 1, 1, none⟩) (by simp <;> omega) (.int .i64 wk.calm)
                          refine hK _ _ ⟨⟨hB6f.cell, fun e => absurd (e : true = false) (by decide)⟩, ?_⟩
                          clear hK K
                          (try simp only [Act.put, List.setIfInBounds_toArray, List.set_cons_zero, List.set_cons_succ])
                          refine late_done (by kernel_rfl) ?_
                          dsimp only [Exit.then]
                          go_wp2
                          go_meet
                          have hB1' := hB1e.set 1 (.int .i64 wk.calm)
                          rw [← HUP3.out]
                          exact ⟨(hB7.drew.other (by simp <;> omega) _).other (by simp <;> omega) _, (hB8.drew.other (by simp <;> omega) _).other (by simp <;> omega) _, hB1', (hB5.drew.other (by simp <;> omega) _).other (by simp <;> omega) _, (hEB.drew.setCell (by simp <;> omega) _).setCell (by simp <;> omega) _, by simp [size_setCell, size_drew] <;> omega⟩
                    · have hup2 := HUP.out
                      rw [if_neg hp0] at hup2
                      have HUP2 := Lib.hid hup2
                      clear hup2
                      go_wp2
                      go_meet
                      rw [← HUP2.out]
                      exact ⟨hbA7, hbA8, hbA1, hbA5, hEA, Nat.le_refl _⟩
                  case rest =>
                    obtain ⟨hbB7, hbB8, hbB1, hbB5, hEB, hzB⟩ := hcut
                    clear hcA hlA hbA7 hbA8 hbA1 hbA5 hEA h03A hzw q3
                    have h5l := hbB5.lt
                    have hpc := plus_cell
                    go_upto_region 7 with (fail)
                    go_cut [] from 28 to 211 (fun we => Blk we w.heap.size #[.slice a1 s.cells.length c1, .slice a2 s.works.length c2, .int .i64 s.reef, .int .i64 s.ll, .int .i64 s.lh] 27 ∧ Blk we (w.heap.size + 1) #[.int .i64 c.wl, .int .i64 c.wh, .int .i64 c.fl, .int .i64 c.fh, .int .i64 c.tl, .int .i64 c.th] 29 ∧ (∃ av cv, Blk we n3 #[.slice a1 s.cells.length c1, .slice av (s.works.length + 1) cv, .int .i64 s.reef, .int .i64 s.ll, .int .i64 s.lh] 27 ∧ Works we (.slice av (s.works.length + 1) cv) (s.works ++ [up])) ∧ Ext w we ∧ wA.heap.size ≤ we.heap.size)
                    case first =>
                      go_upto_region 7 with (fail)
                      go_region_held3 (fun y => (∀ o, y.cell? ⟨w.heap.size, o, none⟩ = (#[.slice a1 s.cells.length c1, .slice a2 s.works.length c2, .int .i64 s.reef, .int .i64 s.ll, .int .i64 s.lh] : Array Value)[o]?) ∧ (∀ o, y.cell? ⟨w.heap.size + 1 + 1, o, none⟩ = (#[.int .i64 up.rise, .int .i64 up.calm, .int .i64 up.cost] : Array Value)[o]?) ∧ Ext w y)
                        (first | exact ⟨((hbB7.ext hE12).other (by simp <;> omega) _).cell, ((hbB1.ext hE12).other (by simp <;> omega) _).cell, (hEB.trans hE12).setCell (by simp <;> omega) _⟩ | exact ⟨(Blk.drew ((hbB7.ext hE12).other (by simp <;> omega) _)).cell, (Blk.drew ((hbB1.ext hE12).other (by simp <;> omega) _)).cell, ((hEB.trans hE12).setCell (by simp <;> omega) _).drew⟩ | exact ⟨blk_of hbB7 hE12.drew, blk_of hbB1 hE12.drew, (hEB.trans hE12).drew⟩ | exact ⟨blk_of hbB7 hE12, blk_of hbB1 hE12, hEB.trans hE12⟩ | exact ⟨blk_of hbB7 (by (with_reducible (repeat (first | exact Ext.refl _ | assumption | apply Ext.alloc | apply Ext.drew | exact ext_plus _ _ | (apply Ext.setCell; rotate_left; (simp <;> omega)) | (apply Ext.trans; rotate_left; exact ext_plus _ _) | (apply Ext.trans; rotate_left; assumption))))), blk_of hbB1 (by (with_reducible (repeat (first | exact Ext.refl _ | assumption | apply Ext.alloc | apply Ext.drew | exact ext_plus _ _ | (apply Ext.setCell; rotate_left; (simp <;> omega)) | (apply Ext.trans; rotate_left; exact ext_plus _ _) | (apply Ext.trans; rotate_left; assumption))))), by (with_reducible (repeat (first | exact Ext.refl _ | assumption | apply Ext.alloc | apply Ext.drew | exact ext_plus _ _ | (apply Ext.setCell; rotate_left; (simp <;> omega)) | (apply Ext.trans; rotate_left; exact ext_plus _ _) | (apply Ext.trans; rotate_left; assumption))))⟩)
                        (first | (refine step_append_copyW _ rfl _ _ rfl _ s.works rfl rfl (hW.ext (by (with_reducible (repeat (first | exact Ext.refl _ | assumption | apply Ext.alloc | apply Ext.drew | exact ext_plus _ _ | (apply Ext.setCell; rotate_left; (simp <;> omega)) | (apply Ext.trans; rotate_left; exact ext_plus _ _) | (apply Ext.trans; rotate_left; assumption)))))) hm ?_; intro v1 y1 hown1 hy1; have hy1c := hy1.cells.1; have hy1s := hy1.size; (try simp only [size_drew, size_drewN, World.size_alloc] at hy1s hy1c)) | (refine step_append_snocW _ rfl _ _ rfl _ v1 s.works up _ rfl rfl (by first | exact own_ext hown1 (by (with_reducible show Ext _ _; (with_reducible (repeat (first | exact Ext.refl _ | assumption | apply Ext.alloc | apply Ext.drew | exact ext_plus _ _ | (apply Ext.setCell; rotate_left; (simp <;> omega)) | (apply Ext.trans; rotate_left; exact ext_plus _ _) | (apply Ext.trans; rotate_left; assumption)))); done)) | exact hown1) (by first | exact Blk.drew (Blk.new' rfl _ _) | exact Blk.new' rfl _ _ | exact (Blk.new' rfl _ _).ext hy1 | exact (Blk.drew (Blk.new' rfl _ _)).ext hy1 | exact Blk.drew ((Blk.new' rfl _ _).ext hy1) | exact Blk.drew ((Blk.drew (Blk.new' rfl _ _)).ext hy1)) hm (by simp <;> omega) ?_; intro v2 y2 hown2 hg2; have hE12 : Ext wc y2 := Ext.grown (by (with_reducible show Ext _ _; (with_reducible (repeat (first | exact Ext.refl _ | assumption | apply Ext.alloc | apply Ext.drew | exact ext_plus _ _ | (apply Ext.setCell; rotate_left; (simp <;> omega)) | (apply Ext.trans; rotate_left; exact ext_plus _ _) | (apply Ext.trans; rotate_left; assumption)))); done)) hg2 (fun k e => by have := own_base hown1 k e; simp at this; omega); have u1 := (hbB5.ext hE12).cell; have u2 := (hbB5.ext hE12).free; have u3 := (hbB5.ext hE12).lt; obtain ⟨av2, cv2, rfl⟩ := own_slice hown2))
                      all_goals (dsimp only [Exit.then]; go_wp2; go_meet)
                      all_goals
                        have hown3 := own_but hown2 (but_self y2 n3 1 (.slice av2 (s.works.length + 1) cv2)) (by simp <;> omega)
                        have hWx := Works.of_own (xs := s.works ++ [up]) (by simpa using hown3)
                        have hbS := (hbB5.ext hE12).set 1 (.slice av2 (s.works.length + 1) cv2)
                        exact ⟨(hbB7.ext hE12).other (by simp <;> omega) _, (hbB8.ext hE12).other (by simp <;> omega) _, ⟨av2, cv2, hbS, by simpa using hWx⟩, (hEB.trans hE12).setCell (by simp <;> omega) _, by have := hE12.size; simp [size_setCell] <;> omega⟩
                    case rest =>
                      obtain ⟨hbE7, hbE8, ⟨av, cv, hbE5, hWx⟩, hEE, hzE⟩ := hcut
                      clear hbB7 hbB8 hbB1 hbB5 hEB hzB
                      have hsx := fun w' (hx : Ext wc w') => rshore_any ⟨s.cells, s.works ++ [up], s.reef, s.ll, s.lh⟩ (.slice a1 s.cells.length c1) (.slice av (s.works.length + 1) cv) w' (hC.ext (hEE.trans hx)) (hWx.ext hx) hn (by simp; omega)
                      obtain ⟨X, hX⟩ : ∃ X, W.shoreB ⟨s.cells, s.works ++ [up], s.reef, s.ll, s.lh⟩ = X := ⟨_, rfl⟩
                      rw [hX] at hsx
                      have HSX := Lib.hid hsx
                      clear hsx
                      have t1 := hbE5.cell
                      have t2 := hbE5.lt
                      cases X with
                      | false =>
                        go_wp2_with (first | (go_at_call 25; refine (HSX.out _ (by exact Ext.refl _)).mono ?_; rintro e wf ⟨rfl, hbf⟩) | (go_at_call 15; refine (known_any _).mono ?_; rintro e wk ⟨rfl, hbk⟩))
                        go_ret
                        exact ⟨rfl, (hEE.trans hbf).trans hbk⟩
                      | true =>
                        go_upto_region 10 with (first | (go_at_call 25; refine (HSX.out _ (by exact Ext.refl _)).mono ?_; rintro e wf ⟨rfl, hbf⟩) | (go_at_call 15; refine (known_any _).mono ?_; rintro e wk ⟨rfl, hbk⟩))
                        have hEf : Ext w wf := hEE.trans hbf
                        have hbF7 := hbE7.ext hbf
                        have hcF := hbF7.cell
                        have hlF := hbF7.lt
                        have hk0 : 0 < plan.length := by omega
                        go_upto_region 11 with (first | (at_builtin; refine wpList_append_copy rfl _ _ rfl _ plan rfl rfl (hP.ext hEf) (Tight.some _ _ _) (by omega) ?_; intro v17 y17 hown17 hE17; obtain ⟨g17, c17, rfl⟩ := own_pos hown17 hk0))
                        obtain ⟨hI17, hs1, hs2, hs3, hs4⟩ := own_store hown17 k hk (s.works.length : Int)
                        have hbG7 := hbF7.ext hE17
                        have hcG := hbG7.cell
                        have hlG := hbG7.lt
                        go_upto_region 12 with (fail)
                        obtain ⟨wG, hwG⟩ : ∃ wG, y17.setCell ⟨g17, k, none⟩ (.int .i64 (s.works.length : Int)) = wG := ⟨_, rfl⟩
                        have hEfG : Ext wf wG := by rw [← hwG]; exact hE17.setCell hs3 _
                        rw [hwG] at hI17 ⊢
                        have hEG : Ext w wG := hEf.trans hEfG
                        have hbH7 := hbF7.ext hEfG
                        have hbH8 := (hbE8.ext hbf).ext hEfG
                        have hbH5 := (hbE5.ext hbf).ext hEfG
                        have hWG := hWx.ext (hbf.trans hEfG)
                        have HIB := Lib.hid hI17
                        clear hwG hI17 hs1 hs2 hcG hlG hbG7 hcF hlF t1 t2 hown17
                        go_cut [18, 19] from 28 to 211 (fun s18 s19 wH => ∃ b18 b19, s18 = .pointer (some ⟨b18, 0, none⟩) ∧ s19 = .pointer (some ⟨b19, 0, none⟩) ∧ b18 ≠ b19 ∧ Blk wH b18 #[.slice a1 s.cells.length c1, .slice a2 s.works.length c2, .int .i64 s.reef, .int .i64 s.ll, .int .i64 s.lh] 27 ∧ Blk wH b19 #[.int .i64 c.wl, .int .i64 c.wh, .int .i64 c.fl, .int .i64 c.fh, .int .i64 c.tl, .int .i64 c.th] 29 ∧ Ext wG wH ∧ wG.heap.size ≤ b18 ∧ wG.heap.size ≤ b19)
                        case first =>
                          go_region_held3 (fun y => (∀ o, y.cell? ⟨w.heap.size, o, none⟩ = (#[.slice a1 s.cells.length c1, .slice a2 s.works.length c2, .int .i64 s.reef, .int .i64 s.ll, .int .i64 s.lh] : Array Value)[o]?) ∧ (∀ o, y.cell? ⟨w.heap.size + 1, o, none⟩ = (#[.int .i64 c.wl, .int .i64 c.wh, .int .i64 c.fl, .int .i64 c.fh, .int .i64 c.tl, .int .i64 c.th] : Array Value)[o]?) ∧ Ext wG y)
                            (first | exact ⟨blk_of hbH7 (by (with_reducible (repeat (first | exact Ext.refl _ | assumption | apply Ext.alloc | apply Ext.drew | exact ext_plus _ _ | (apply Ext.setCell; rotate_left; (simp <;> omega)) | (apply Ext.trans; rotate_left; exact ext_plus _ _) | (apply Ext.trans; rotate_left; assumption))))), blk_of hbH8 (by (with_reducible (repeat (first | exact Ext.refl _ | assumption | apply Ext.alloc | apply Ext.drew | exact ext_plus _ _ | (apply Ext.setCell; rotate_left; (simp <;> omega)) | (apply Ext.trans; rotate_left; exact ext_plus _ _) | (apply Ext.trans; rotate_left; assumption))))), by (with_reducible (repeat (first | exact Ext.refl _ | assumption | apply Ext.alloc | apply Ext.drew | exact ext_plus _ _ | (apply Ext.setCell; rotate_left; (simp <;> omega)) | (apply Ext.trans; rotate_left; exact ext_plus _ _) | (apply Ext.trans; rotate_left; assumption))))⟩)
                            (first | (fail))
                          all_goals (dsimp only [Exit.then]; go_wp2; go_meet)
                          all_goals first
                            | exact ⟨_, _, rfl, rfl, by omega, Blk.drew ((Blk.new' rfl _ _).alloc _), Blk.drew (Blk.new' (by simp) _ _), (((Ext.refl _).alloc _).alloc _).drew, by omega, by omega⟩
                            | exact ⟨_, _, rfl, rfl, by omega, Blk.drew (Blk.new' (by simp) _ _), Blk.drew ((Blk.new' rfl _ _).alloc _), (((Ext.refl _).alloc _).alloc _).drew, by omega, by omega⟩
                        case rest =>
                          obtain ⟨b18, b19, rfl, rfl, hne, hb18, hb19, hEH, hl18, hl19⟩ := hcut
                          have hbI7 := hbH7.ext hEH
                          have hbI8 := hbH8.ext hEH
                          have i1 := hbI7.cell
                          have i2 := hbI7.lt
                          have i3 := hb18.cell
                          have i4 := hb18.free
                          have i5 := hb18.lt
                          have hre := HO.out.reef
                          have hwr : IntKind.wrap .i64 (s.reef + steps) = s.reef + steps := IntWalk.i64_in _ (by omega)
                          go_upto_region 14 with (fail)
                          obtain ⟨R, hRR⟩ : ∃ R : Int, (if s.reef + steps < 20 then s.reef + steps else 20) = R := ⟨_, rfl⟩
                          rw [hRR]
                          obtain ⟨wJ, hwJ⟩ : ∃ wJ, wc.setCell ⟨b18, 2, none⟩ (.int .i64 R) = wJ := ⟨_, rfl⟩
                          have hEJ : Ext wG wJ := by rw [← hwJ]; exact hEH.setCell hl18 _
                          have hbJ18 : Blk wJ b18 #[.slice a1 s.cells.length c1, .slice a2 s.works.length c2, .int .i64 R, .int .i64 s.ll, .int .i64 s.lh] 27 := by rw [← hwJ]; exact hb18.set 2 _
                          have hbJ19 : Blk wJ b19 #[.int .i64 c.wl, .int .i64 c.wh, .int .i64 c.fl, .int .i64 c.fh, .int .i64 c.tl, .int .i64 c.th] 29 := by rw [← hwJ]; exact hb19.other (fun e => hne e) _
                          rw [hwJ]
                          clear hwJ i1 i2 i3 i4 i5 hwr
                          have hwi := HO.out.wind
                          have hti := HO.out.tide
                          have g1 : IntKind.wrap .i64 (c.wl - less) = c.wl - less := IntWalk.i64_in _ (by omega)
                          have g2' : IntKind.wrap .i64 (c.wh - less) = c.wh - less := IntWalk.i64_in _ (by omega)
                          have g3' : IntKind.wrap .i64 (c.tl - less) = c.tl - less := IntWalk.i64_in _ (by omega)
                          have g4' : IntKind.wrap .i64 (c.th - less) = c.th - less := IntWalk.i64_in _ (by omega)
                          have i1 := (hbH8.ext hEJ).cell
                          have i2 := (hbH8.ext hEJ).lt
                          have i3 := hbJ19.cell
                          have i4 := hbJ19.free
                          have i5 := hbJ19.lt
                          go_upto_region 15 with (fail)
                          obtain ⟨A0, hA0⟩ : ∃ A0 : Int, (if less < c.wl then c.wl - less else 0) = A0 := ⟨_, rfl⟩
                          obtain ⟨A1, hA1⟩ : ∃ A1 : Int, (if less < c.wh then c.wh - less else 0) = A1 := ⟨_, rfl⟩
                          rw [hA0, hA1]
                          obtain ⟨wL, hwL⟩ : ∃ wL, (wJ.setCell ⟨b19, 0, none⟩ (.int .i64 A0)).setCell ⟨b19, 1, none⟩ (.int .i64 A1) = wL := ⟨_, rfl⟩
                          have hEL : Ext wG wL := by rw [← hwL]; exact (hEJ.setCell hl19 _).setCell hl19 _
                          have hbL18 : Blk wL b18 #[.slice a1 s.cells.length c1, .slice a2 s.works.length c2, .int .i64 R, .int .i64 s.ll, .int .i64 s.lh] 27 := by rw [← hwL]; exact (hbJ18.other (fun e => hne e.symm) _).other (fun e => hne e.symm) _
                          have hbL19 : Blk wL b19 #[.int .i64 A0, .int .i64 A1, .int .i64 c.fl, .int .i64 c.fh, .int .i64 c.tl, .int .i64 c.th] 29 := by rw [← hwL]; exact (hbJ19.set 0 _).set 1 _
                          rw [hwL]
                          clear hwL i1 i2 i3 i4 i5
                          have i1 := (hbH8.ext hEL).cell
                          have i2 := (hbH8.ext hEL).lt
                          have i3 := hbL19.cell
                          have i4 := hbL19.free
                          have i5 := hbL19.lt
                          go_upto_region 16 with (fail)
                          obtain ⟨B0, hB0⟩ : ∃ B0 : Int, (if -5000 < c.tl - less then c.tl - less else -5000) = B0 := ⟨_, rfl⟩
                          obtain ⟨B1, hB1⟩ : ∃ B1 : Int, (if -5000 < c.th - less then c.th - less else -5000) = B1 := ⟨_, rfl⟩
                          rw [hB0, hB1]
                          obtain ⟨wM, hwM⟩ : ∃ wM, (wL.setCell ⟨b19, 4, none⟩ (.int .i64 B0)).setCell ⟨b19, 5, none⟩ (.int .i64 B1) = wM := ⟨_, rfl⟩
                          have hEM : Ext wG wM := by rw [← hwM]; exact (hEL.setCell hl19 _).setCell hl19 _
                          have hbM18 : Blk wM b18 #[.slice a1 s.cells.length c1, .slice a2 s.works.length c2, .int .i64 R, .int .i64 s.ll, .int .i64 s.lh] 27 := by rw [← hwM]; exact (hbL18.other (fun e => hne e.symm) _).other (fun e => hne e.symm) _
                          have hbM19 : Blk wM b19 #[.int .i64 A0, .int .i64 A1, .int .i64 c.fl, .int .i64 c.fh, .int .i64 B0, .int .i64 B1] 29 := by rw [← hwM]; exact (hbL19.set 4 _).set 5 _
                          rw [hwM]
                          clear hwM i1 i2 i3 i4 i5
                          have hbM7 := hbH7.ext hEM
                          have hbM8 := hbH8.ext hEM
                          have hbM5 := hbH5.ext hEM
                          have hEW : Ext w wM := hEG.trans hEM
                          have hWM := hWG.ext hEM
                          have hIM := HIB.out.ext hEM
                          have hokS := HOK.out.1
                          have hplS := HOK.out.2
                          have O := HO.out
                          have hR1 : s.reef ≤ R ∧ 0 ≤ R ∧ R ≤ 20 := by rw [← hRR]; split <;> omega
                          have hAA : 0 ≤ A0 ∧ A0 ≤ c.wl ∧ A0 ≤ A1 ∧ A1 ≤ c.wh ∧ A1 ≤ 1000 ∧ 0 ≤ A1 := by rw [← hA0, ← hA1]; split <;> split <;> omega
                          have hBB : -5000 ≤ B0 ∧ B0 ≤ c.tl ∧ B0 ≤ B1 ∧ B1 ≤ c.th ∧ B1 ≤ 5000 := by rw [← hB0, ← hB1]; split <;> split <;> omega
                          have hokX : W.okB (W.bigger s up) c = true := by
                            have h0 := hokS
                            simp only [W.okB, Bool.and_eq_true] at h0 ⊢
                            exact ⟨hX, h0.2⟩
                          have hpp : ∀ q ∈ plan, q < s.works.length := fun q hq => (HPW.out q hq).2
                          have hnk : W.nth plan k = p := by rw [W.nth_get hk]; exact HPP.out
                          have hww0 : W.workB up = true := by
                            have h0 := hX
                            simp only [W.shoreB, Bool.and_eq_true, List.all_eq_true] at h0
                            exact h0.1.1.1.1.2 up (by simp)
                          have hup0 : 0 ≤ up.rise ∧ 0 ≤ up.calm := by
                            simp only [W.workB, Bool.and_eq_true, W.within_iff] at hww0
                            omega
                          have hupr : (W.work s.works (W.nth plan k)).rise ≤ up.rise ∧ (W.work s.works (W.nth plan k)).calm ≤ up.calm := by
                            rw [hnk]
                            by_cases hp0 : 0 ≤ p
                            · have := HUP.out
                              rw [if_pos hp0] at this
                              rw [← this]
                              constructor <;> dsimp only <;> split <;> omega
                            · rw [work_neg hp0]; exact hup0
                          have l1 := W.lower_bigger (c := c) O HPL.out hpp hupr.1 hupr.2
                          have l2 := W.lower_wider (plan := plan) O HPL.out hR1.1
                          have l3 := W.lower_weaker (plan := plan) (a0 := A0) (a1 := A1) (b0 := B0) (b1 := B1) O HPL.out hAA.1 hAA.2.1 hAA.2.2.2.2.2 hAA.2.2.2.1 hBB.2.1 hBB.2.2.2.1
                          have hd1 := fun w' (hx : Ext wM w') => depths_ok s c plan _ _ _ w' hokS hplS (hC.ext (hEW.trans hx)) (hW.ext (hEW.trans hx)) (hP.ext (hEW.trans hx))
                          have hd2 := fun w' (hx : Ext wM w') => depths_ok (W.bigger s up) c (plan.set k s.works.length) (.slice a1 s.cells.length c1) (.slice av (s.works.length + 1) cv) _ w' hokX (W.better_plan up hplS) (hC.ext (hEW.trans hx)) (hWM.ext hx) (hIM.ext hx)
                          have hd3 := fun w' (hx : Ext wM w') => depths_ok (W.wider s R) c plan (.slice a1 s.cells.length c1) (.slice a2 s.works.length c2) _ w' (W.wider_ok hokS hR1.2.1 hR1.2.2) hplS (hC.ext (hEW.trans hx)) (hW.ext (hEW.trans hx)) (hP.ext (hEW.trans hx))
                          have hd4 := fun w' (hx : Ext wM w') => depths_ok s (W.weaker c A0 A1 B0 B1) plan _ _ _ w' (W.weaker_ok hokS hAA.1 hAA.2.2.1 hAA.2.2.2.2.1 hBB.1 hBB.2.2.1 hBB.2.2.2.2) hplS (hC.ext (hEW.trans hx)) (hW.ext (hEW.trans hx)) (hP.ext (hEW.trans hx))
                          have hz0 : ((W.play s plan (W.best s c)).zip (W.play s plan (W.worst s c))).length ≤ 1000000 := by simp [W.len_play]; omega
                          obtain ⟨Z0, hZ0⟩ : ∃ Z0, (W.play s plan (W.best s c)).zip (W.play s plan (W.worst s c)) = Z0 := ⟨_, rfl⟩
                          obtain ⟨Z1, hZ1⟩ : ∃ Z1, (W.play (W.bigger s up) (plan.set k s.works.length) (W.best (W.bigger s up) c)).zip (W.play (W.bigger s up) (plan.set k s.works.length) (W.worst (W.bigger s up) c)) = Z1 := ⟨_, rfl⟩
                          obtain ⟨Z2, hZ2⟩ : ∃ Z2, (W.play (W.wider s R) plan (W.best (W.wider s R) c)).zip (W.play (W.wider s R) plan (W.worst (W.wider s R) c)) = Z2 := ⟨_, rfl⟩
                          obtain ⟨Z3, hZ3⟩ : ∃ Z3, (W.play s plan (W.best s (W.weaker c A0 A1 B0 B1))).zip (W.play s plan (W.worst s (W.weaker c A0 A1 B0 B1))) = Z3 := ⟨_, rfl⟩
                          rw [hZ0] at hd1 l1 l2 l3 hz0
                          rw [hZ1] at hd2 l1
                          rw [hZ2] at hd3 l2
                          rw [hZ3] at hd4 l3
                          have HD1 := Lib.hid hd1
                          have HD2 := Lib.hid hd2
                          have HD3 := Lib.hid hd3
                          have HD4 := Lib.hid hd4
                          have L1 := Lib.hid l1
                          have L2 := Lib.hid l2
                          have L3 := Lib.hid l3
                          have HZ1 := Lib.hid (show Z1.length ≤ 1000000 by have := l1.1; omega)
                          have HZ2 := Lib.hid (show Z2.length ≤ 1000000 by have := l2.1; omega)
                          have HZ3 := Lib.hid (show Z3.length ≤ 1000000 by have := l3.1; omega)
                          have i1 := hbM7.cell
                          have i2 := hbM7.lt
                          have i3 := hbM8.cell
                          have i4 := hbM8.lt
                          have i5 := hbM5.cell
                          have i6 := hbM5.lt
                          have i7 := hbM18.cell
                          have i8 := hbM18.lt
                          have i9 := hbM19.cell
                          have i10 := hbM19.lt
                          clear hd1 hd2 hd3 hd4 l1 l2 l3 hZ0 hZ1 hZ2 hZ3 hz0 hokS hplS O hR1 hAA hBB hokX hpp hnk hww0 hup0 hupr hRR hA0 hA1 hB0 hB1 hwi hti hre g1 g2' g3' g4'
                          go_wp2_with (first | (go_at_call 21; refine (HD1.out _ (by (with_reducible (repeat (first | exact Ext.refl _ | assumption | apply Ext.alloc | apply Ext.drew | exact ext_plus _ _ | (apply Ext.setCell; rotate_left; (simp <;> omega)) | (apply Ext.trans; rotate_left; exact ext_plus _ _) | (apply Ext.trans; rotate_left; assumption)))))).mono ?_; rintro e r1 ⟨v1, rfl, hv1, hr1⟩; clear HD1; have hvv1 := hv1; obtain ⟨x1, y1, rfl, _⟩ := hvv1; have HV1 := Lib.hid hv1; clear hv1; have hrc1 := hr1.cells.1; have hrz1 := hr1.size; have s11 : w.heap.size < r1.heap.size := (by omega); have s12 : w.heap.size + 1 < r1.heap.size := (by omega); have s13 : n3 < r1.heap.size := (by omega); have s14 : b18 < r1.heap.size := (by omega); have s15 : b19 < r1.heap.size := (by omega)) | (go_at_call 21; refine (HD2.out _ (by (with_reducible (repeat (first | exact Ext.refl _ | assumption | apply Ext.alloc | apply Ext.drew | exact ext_plus _ _ | (apply Ext.setCell; rotate_left; (simp <;> omega)) | (apply Ext.trans; rotate_left; exact ext_plus _ _) | (apply Ext.trans; rotate_left; assumption)))))).mono ?_; rintro e r2 ⟨v2, rfl, hv2, hr2⟩; clear HD2; have hvv2 := hv2; obtain ⟨x2, y2, rfl, _⟩ := hvv2; have HV2 := Lib.hid hv2; clear hv2; have hrc2 := hr2.cells.1; have hrz2 := hr2.size; have s21 : w.heap.size < r2.heap.size := (by omega); have s22 : w.heap.size + 1 < r2.heap.size := (by omega); have s23 : n3 < r2.heap.size := (by omega); have s24 : b18 < r2.heap.size := (by omega); have s25 : b19 < r2.heap.size := (by omega)) | (go_at_call 21; refine (HD3.out _ (by (with_reducible (repeat (first | exact Ext.refl _ | assumption | apply Ext.alloc | apply Ext.drew | exact ext_plus _ _ | (apply Ext.setCell; rotate_left; (simp <;> omega)) | (apply Ext.trans; rotate_left; exact ext_plus _ _) | (apply Ext.trans; rotate_left; assumption)))))).mono ?_; rintro e r3 ⟨v3, rfl, hv3, hr3⟩; clear HD3; have hvv3 := hv3; obtain ⟨x3, y3, rfl, _⟩ := hvv3; have HV3 := Lib.hid hv3; clear hv3; have hrc3 := hr3.cells.1; have hrz3 := hr3.size; have s31 : w.heap.size < r3.heap.size := (by omega); have s32 : w.heap.size + 1 < r3.heap.size := (by omega); have s33 : n3 < r3.heap.size := (by omega); have s34 : b18 < r3.heap.size := (by omega); have s35 : b19 < r3.heap.size := (by omega)) | (go_at_call 21; refine (HD4.out _ (by (with_reducible (repeat (first | exact Ext.refl _ | assumption | apply Ext.alloc | apply Ext.drew | exact ext_plus _ _ | (apply Ext.setCell; rotate_left; (simp <;> omega)) | (apply Ext.trans; rotate_left; exact ext_plus _ _) | (apply Ext.trans; rotate_left; assumption)))))).mono ?_; rintro e r4 ⟨v4, rfl, hv4, hr4⟩; clear HD4; have hvv4 := hv4; obtain ⟨x4, y4, rfl, _⟩ := hvv4; have HV4 := Lib.hid hv4; clear hv4; have hrc4 := hr4.cells.1; have hrz4 := hr4.size; have s41 : w.heap.size < r4.heap.size := (by omega); have s42 : w.heap.size + 1 < r4.heap.size := (by omega); have s43 : n3 < r4.heap.size := (by omega); have s44 : b18 < r4.heap.size := (by omega); have s45 : b19 < r4.heap.size := (by omega)) | (go_at_call 35; refine (lower_true Z1 Z0 _ _ _ L1.out (HV2.out.ext (by (with_reducible (repeat (first | exact Ext.refl _ | assumption | apply Ext.alloc | apply Ext.drew | exact ext_plus _ _ | (apply Ext.setCell; rotate_left; (simp <;> omega)) | (apply Ext.trans; rotate_left; exact ext_plus _ _) | (apply Ext.trans; rotate_left; assumption)))))) (HV1.out.ext (by (with_reducible (repeat (first | exact Ext.refl _ | assumption | apply Ext.alloc | apply Ext.drew | exact ext_plus _ _ | (apply Ext.setCell; rotate_left; (simp <;> omega)) | (apply Ext.trans; rotate_left; exact ext_plus _ _) | (apply Ext.trans; rotate_left; assumption)))))) HZ1.out).mono ?_; rintro e q1 ⟨rfl, hq1⟩; clear L1) | (go_at_call 35; refine (lower_true Z2 Z0 _ _ _ L2.out (HV3.out.ext (by (with_reducible (repeat (first | exact Ext.refl _ | assumption | apply Ext.alloc | apply Ext.drew | exact ext_plus _ _ | (apply Ext.setCell; rotate_left; (simp <;> omega)) | (apply Ext.trans; rotate_left; exact ext_plus _ _) | (apply Ext.trans; rotate_left; assumption)))))) (HV1.out.ext (by (with_reducible (repeat (first | exact Ext.refl _ | assumption | apply Ext.alloc | apply Ext.drew | exact ext_plus _ _ | (apply Ext.setCell; rotate_left; (simp <;> omega)) | (apply Ext.trans; rotate_left; exact ext_plus _ _) | (apply Ext.trans; rotate_left; assumption)))))) HZ2.out).mono ?_; rintro e q2 ⟨rfl, hq2⟩; clear L2) | (go_at_call 35; refine (lower_true Z3 Z0 _ _ _ L3.out (HV4.out.ext (by (with_reducible (repeat (first | exact Ext.refl _ | assumption | apply Ext.alloc | apply Ext.drew | exact ext_plus _ _ | (apply Ext.setCell; rotate_left; (simp <;> omega)) | (apply Ext.trans; rotate_left; exact ext_plus _ _) | (apply Ext.trans; rotate_left; assumption)))))) (HV1.out.ext (by (with_reducible (repeat (first | exact Ext.refl _ | assumption | apply Ext.alloc | apply Ext.drew | exact ext_plus _ _ | (apply Ext.setCell; rotate_left; (simp <;> omega)) | (apply Ext.trans; rotate_left; exact ext_plus _ _) | (apply Ext.trans; rotate_left; assumption)))))) HZ3.out).mono ?_; rintro e q3 ⟨rfl, hq3⟩; clear L3) | (go_at_call 15; refine (known_any _).mono ?_; rintro e wk ⟨rfl, hbk⟩))
                          go_ret
                          exact ⟨rfl, by (with_reducible (repeat (first | exact Ext.refl _ | assumption | apply Ext.alloc | apply Ext.drew | exact ext_plus _ _ | (apply Ext.setCell; rotate_left; (simp <;> omega)) | (apply Ext.trans; rotate_left; exact ext_plus _ _) | (apply Ext.trans; rotate_left; assumption))))⟩
  · have hcs : shortB s = false ∨ (shortB s = true ∧ 12 < plan.length) := by
      cases e : shortB s with
      | false => exact .inl rfl
      | true =>
        rcases Nat.lt_or_ge 12 plan.length with h | h
        · exact .inr ⟨rfl, h⟩
        · exact absurd ⟨e, h⟩ hsh
    clear hsh
    rcases hcs with h1 | ⟨h1, h2⟩
    all_goals
      rw [h1] at hs
      have HS := Lib.hid hs
      clear hs h1
      go_enter Try.func7, Try.ntmps7
      go_wp2_with (first | (go_at_call 14; refine (HS.out _ (by (with_reducible (repeat (first | exact Ext.refl _ | assumption | apply Ext.alloc | apply Ext.drew | exact ext_plus _ _ | (apply Ext.setCell; rotate_left; (simp <;> omega)) | (apply Ext.trans; rotate_left; exact ext_plus _ _) | (apply Ext.trans; rotate_left; assumption)))))).mono ?_; rintro e w1 ⟨rfl, hb1⟩; have hc1 := hb1.cells.1; have hz1 := hb1.size; (try simp only [World.size_alloc] at hz1); have p10 : w.heap.size < w1.heap.size := (by omega); have p11 : w.heap.size + 1 < w1.heap.size := (by omega); have p12 : w.heap.size + 1 + 1 < w1.heap.size := (by omega)) | (go_at_call 15; refine (known_any _).mono ?_; rintro e wk ⟨rfl, hbk⟩))
      all_goals
        go_ret
        exact ⟨rfl, by (with_reducible (repeat (first | exact Ext.refl _ | assumption | apply Ext.alloc | apply Ext.drew | exact ext_plus _ _ | (apply Ext.setCell; rotate_left; (simp <;> omega)) | (apply Ext.trans; rotate_left; exact ext_plus _ _) | (apply Ext.trans; rotate_left; assumption))))⟩
end Go.Proofs.Ytmlobiajimlboaa
