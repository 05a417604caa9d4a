/- The best choice for some money. -/
import Derived.Test.YtmlobiajimlboaaM3
import Derived.Test.YtmlobiajimlboaaD8
import Derived.Laws.EntriesVeiled
namespace Go.Proofs.Ytmlobiajimlboaa
set_option linter.unusedVariables false
set_option linter.unusedSimpArgs false
open Go.RowKit Go.Maps
theorem calls_le {k : Nat} (h : k ≤ 7) : 0 + calls k ≤ 100000 := by
  have : ∀ j : Fin 8, 0 + calls j.1 ≤ 100000 := by decide
  exact this ⟨k, by omega⟩
set_option maxRecDepth 100000 in
set_option maxHeartbeats 2000000 in
theorem spare_any (s : W.Shore) (c : W.Storm) (O : W.Ok s c) (vc vw : Value) (hR : Room vc) (m : Int) (hm0 : 0 ≤ m) (hm1 : m ≤ 7000000) (w : World) (hC : Cells w vc s.cells) (hW : Works w vw s.works) :
    Calls Try.prog 61 #[shoreV s c vc vw (.slice none 0 0), .int .i64 m] w fun e w' =>
      ∃ v, e = .returned (choiceA (W.search s.works s.cells (W.level s (W.worst s c)) m) v) ∧ Ints w' v (W.search s.works s.cells (W.level s (W.worst s c)) m).plan ∧ Ext w w' := by
  have hmf : ∀ (fn : Fn) (first cap : Array Value) (w : World), (Instr.makeFunc fn first cap).run Try.prog w = .ok (.func fn first cap) w := fun _ _ _ _ => rfl
  have hmm : ∀ w : World, (Instr.makeMap 114 none).run Try.prog w = .ok (.map (some w.heap.size)) (w.alloc (.map #[] 0)) := fun _ => rfl
  have HC := Lib.hid hC
  have HW := Lib.hid hW
  have HR := Lib.hid hR
  obtain ⟨a1, c1, rfl, _⟩ := hC
  obtain ⟨a2, c2, rfl, _⟩ := hW
  have n7 := O.n7
  clear hR
  obtain ⟨T, hT⟩ : ∃ T, W.worst s c = T := ⟨_, rfl⟩
  have hTs : T.wind = c.wh ∧ T.fetch = c.fh ∧ T.tide = c.th ∧ T.loss = s.ll ∧ T.drags = s.cells.map (·.dl) := by rw [← hT]; exact ⟨rfl, rfl, rfl, rfl, rfl⟩
  rw [hT]
  have hbd : 0 ≤ T.wind ∧ T.wind ≤ 1000 ∧ 0 ≤ T.fetch ∧ T.fetch ≤ 10000 ∧ -5000 ≤ T.tide ∧ T.tide ≤ 5000 ∧ 0 ≤ T.loss ∧ T.loss ≤ 1000 ∧ 0 ≤ s.reef ∧ s.reef ≤ 1000 := by
    have h1 := O.wind; have h2 := O.fetch; have h3 := O.tide; have h4 := O.loss; have h5 := O.reef
    rw [hTs.1, hTs.2.1, hTs.2.2.1, hTs.2.2.2.1]; omega
  have hlv := level_bd2 (s := s) (t := T) (by omega) (by omega) (by omega) (by omega)
  obtain ⟨l, hl⟩ : ∃ l, W.level s T = l := ⟨_, rfl⟩
  have hwl : IntKind.wrap .i64 (T.tide + W.wave s T) = l := by
    have e : T.tide + W.wave s T = l := by rw [← hl]; rfl
    rw [e]; exact IntWalk.i64_in _ (by omega)
  rw [hl] at hlv ⊢
  have hwo := fun w' (hx : Ext w w') => worst_any s c (.slice a1 s.cells.length c1) (.slice a2 s.works.length c2) (.slice none 0 0) w' (HC.out.ext hx) (by omega)
  rw [hT] at hwo
  have HWO := Lib.hid hwo
  clear hwo
  have HTs := Lib.hid hTs
  have HLV := Lib.hid hlv
  clear hTs hT hl hlv
  go_enter Try.func61, Try.ntmps61
  go_wp2_with (first | (go_at_call 57; refine (HWO.out _ (by (with_reducible (repeat (first | exact Ext.refl _ | assumption | apply Ext.alloc | apply Ext.drew | exact ext_plus _ _ | (apply Ext.setCell; rotate_left; (simp <;> omega)) | (apply Ext.trans; rotate_left; exact ext_plus _ _) | (apply Ext.trans; rotate_left; assumption)))))).mono ?_; rintro e w2 ⟨vd, rfl, hvd, hE2, _⟩; have hvd' := hvd; obtain ⟨a4, c4, rfl, _⟩ := hvd'; have HVD := Lib.hid hvd; clear hvd))
  have hbs2 : Blk w2 w.heap.size #[.slice a1 s.cells.length c1, .slice a2 s.works.length c2, .int .i64 s.reef, .int .i64 s.ll, .int .i64 s.lh, .int .i64 c.wl, .int .i64 c.wh, .int .i64 c.fl, .int .i64 c.fh, .int .i64 c.tl, .int .i64 c.th, .slice none 0 0] 91 := ((Blk.new' rfl _ _).alloc _).ext hE2
  have hres2 : Blk w2 (w.heap.size + 1) #[.int .i64 0, .int .i64 0, .slice none 0 0] 102 := (Blk.new' (by simp) _ _).ext hE2
  have hE02 : Ext w w2 := ((Ext.refl w).alloc _).alloc _ |>.trans hE2
  obtain ⟨w5, hw5⟩ : ∃ w5, (((w2.alloc (.cells #[.int .i64 T.wind, .int .i64 T.fetch, .int .i64 T.tide, .int .i64 T.loss, .slice a4 T.drags.length c4] 32)).alloc (.map #[] 0)).alloc (.cells #[.map (some (w2.heap.size + 1))] 114)).alloc (.cells #[.func (.func 72) #[] #[.pointer (some ⟨w.heap.size, 0, none⟩), .pointer (some ⟨w2.heap.size + 1 + 1, 0, none⟩), .pointer (some ⟨w2.heap.size, 0, none⟩), .pointer (some ⟨w2.heap.size + 1 + 1 + 1, 0, none⟩)]] 115) = w5 := ⟨_, rfl⟩
  have hE25 : Ext w2 w5 := by rw [← hw5]; (with_reducible (repeat (first | exact Ext.refl _ | assumption | apply Ext.alloc | apply Ext.drew | exact ext_plus _ _ | (apply Ext.setCell; rotate_left; (simp <;> omega)) | (apply Ext.trans; rotate_left; exact ext_plus _ _) | (apply Ext.trans; rotate_left; assumption))))
  have hz5 : w5.heap.size = w2.heap.size + 1 + 1 + 1 + 1 := by rw [← hw5]; simp
  have hM5 : Memo s.works s.cells w5 (w2.heap.size + 1) 0 := by
    rw [← hw5]
    have := Memo.made s.works s.cells (w2.alloc (.cells #[.int .i64 T.wind, .int .i64 T.fetch, .int .i64 T.tide, .int .i64 T.loss, .slice a4 T.drags.length c4] 32))
    simp only [World.size_alloc] at this
    exact this.ext (((Ext.refl _).alloc _).alloc _)
  have hbt5 : Blk w5 w2.heap.size #[.int .i64 T.wind, .int .i64 T.fetch, .int .i64 T.tide, .int .i64 T.loss, .slice a4 T.drags.length c4] 32 := by rw [← hw5]; exact (((Blk.new' rfl _ _).alloc _).alloc _).alloc _
  have hbm5 : Blk w5 (w2.heap.size + 1 + 1) #[.map (some (w2.heap.size + 1))] 114 := by rw [← hw5]; exact (Blk.new' (by simp) _ _).alloc _
  have hbf5 : Blk w5 (w2.heap.size + 1 + 1 + 1) #[.func (.func 72) #[] #[.pointer (some ⟨w.heap.size, 0, none⟩), .pointer (some ⟨w2.heap.size + 1 + 1, 0, none⟩), .pointer (some ⟨w2.heap.size, 0, none⟩), .pointer (some ⟨w2.heap.size + 1 + 1 + 1, 0, none⟩)]] 115 := by rw [← hw5]; exact Blk.new' (by simp) _ _
  have E5 : Env s c (.slice a1 s.cells.length c1) (.slice a2 s.works.length c2) (.slice a4 T.drags.length c4) w.heap.size (w2.heap.size + 1 + 1) w2.heap.size (w2.heap.size + 1 + 1 + 1) (w2.heap.size + 1) w5 := by
    refine ⟨HC.out.ext (hE02.trans hE25), HW.out.ext (hE02.trans hE25), ?_, hbs2.ext hE25, hbm5, ?_, hbf5⟩
    · have := HVD.out.ext hE25; rw [← HTs.out.2.2.2.2]; exact this
    · have := hbt5; rw [HTs.out.1, HTs.out.2.1, HTs.out.2.2.1, HTs.out.2.2.2.1] at this; exact this
  have HSP := Lib.hid (fun w6 E6 M6 => spare1_any s c O (.slice a1 s.cells.length c1) (.slice a2 s.works.length c2) (.slice a4 T.drags.length c4) HR.out w.heap.size (w2.heap.size + 1 + 1) w2.heap.size (w2.heap.size + 1 + 1 + 1) (w2.heap.size + 1) s.cells.length 0 (by omega) l m 0 w6 HLV.out.1 HLV.out.2 hm0 hm1 (calls_le n7) E6 M6)
  simp only [List.drop_zero] at HSP
  have hc0 := hbs2.ext hE25 |>.cell
  have hc1 := hbt5.cell
  have hc2 := hbf5.cell
  have hs02 := hE02.size
  have k0 : w.heap.size < w5.heap.size := by have := hbs2.lt; omega
  have k1 : w2.heap.size < w5.heap.size := by omega
  have k2 : w2.heap.size + 1 + 1 + 1 < w5.heap.size := by omega
  have hpc := plus_cell
  have hmap5 := hM5.mapAt
  have hr1 := hres2.lt
  rw [hw5]
  clear hw5 hz5 hs02
  refine wp_region_ext 9 (fun _ _ d _ _ h => by cases d <;> exact h) (by kernel_rfl) (by kernel_rfl) (by kernel_rfl) (by kernel_rfl) ?_
  simp only [List.take_succ_cons, List.take_zero, List.drop_succ_cons, List.drop_zero]
  repeat (any_goals (first | quiet_step (first | (go_at_call 59; exact ext_quiet (wave_any s T _ _ _ _ _ _ _ _ _ _ _ _ _ hbd.1 hbd.2.1 hbd.2.2.1 hbd.2.2.2.1 hbd.2.2.2.2.2.2.1 hbd.2.2.2.2.2.2.2.1 hbd.2.2.2.2.2.2.2.2.1 hbd.2.2.2.2.2.2.2.2.2))) | (refine wpQuiet_step (fun K hK => ?_); go_simp; split <;> (refine hK _ ?_; clear hK K))))
  all_goals (refine wpQuiet_nil ?_; intro w' hE'; have hc' := hE'.cells.1; have hf' := hE'.cells.2)
  go_wp2_with (first | (go_at_call 72; refine (HSP.out _ (E5.but (hE'.but _) hmap5) (hM5.ext hE')).mono ?_; rintro e w6 ⟨v6, rfl, hv6, _, hB6⟩; have hres6 := ((hres2.ext hE25).ext hE').but hB6 (hmap5.ext hE'); have hq0 := hres6.cell; have hq1 := hres6.free; have hq2 := hres6.lt; have hv7 := hv6; obtain ⟨⟨a7, c7, rfl, _⟩, _⟩ := hv7))
  obtain ⟨S, hS⟩ : ∃ S, W.search s.works s.cells l m = S := ⟨_, rfl⟩
  rw [hS] at hv6 ⊢
  have hE06 : Ext w w6 := by
    refine Ext.grown ((hE02.trans hE25).trans hE') hB6 (fun k e => ?_)
    have := hE02.size
    cases e; omega
  refine bodyPost_ret (v := choiceA S (.slice a7 S.plan.length c7)) (by simp [results, Try.results61, go_sem, *]) rfl ⟨_, rfl, ?_, ?_⟩
  · exact (((hv6.set hres6 (by decide) _).set (hres6.set 0 _) (by decide) _).set ((hres6.set 0 _).set 1 _) (by decide) _).1
  · exact ((hE06.setCell (by simp) _).setCell (by simp) _).setCell (by simp) _
end Go.Proofs.Ytmlobiajimlboaa
