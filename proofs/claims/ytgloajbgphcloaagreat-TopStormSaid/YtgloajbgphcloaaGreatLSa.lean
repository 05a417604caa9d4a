/- The law TopStorm: what it says of levels; the tails of its code. -/
import Derived.Test.YtgloajbgphcloaaGreatKn
import Derived.Test.YtgloajbgphcloaaGreatSh
import Derived.Test.YtgloajbgphcloaaGreatWl
import Derived.Test.YtgloajbgphcloaaGreatTl
namespace Go.Proofs.YtgloajbgphcloaaGreat
set_option linter.unusedVariables false
set_option linter.unusedSimpArgs false
open Go.RowKit
theorem span_info : (Tryz.prog.info? 25).map (fun i => (i.zero, i.size, i.bytes)) = some (some (.agg #[.int .i64 0, .int .i64 0]), 2, 16) := by kernel_rfl
theorem none_own (w : World) (e : TypeId) (k : Nat) : w.ownsRow w.heap.size e k (.slice none 0 0) 0 [] := ⟨by simp, .inl ⟨rfl, rfl⟩⟩
theorem sp_one (xs : List (Int × Int)) : ∀ u ∈ xs.flatMap Sh.spC, u.oneCell' = true := by
  intro u hu
  obtain ⟨x, _, hx⟩ := List.mem_flatMap.1 hu
  simp only [Sh.spC, List.mem_cons, List.not_mem_nil, or_false] at hx
  rcases hx with rfl | rfl <;> rfl
theorem spans_set {e : TypeId} {w : World} {g : Nat} {xs : List (Int × Int)} (h : RowB Sh.spC 2 e w g xs) {i : Nat} (hi : i < xs.length) (a b : Int) : RowB Sh.spC 2 e ((w.setCell ⟨g, i * 2, none⟩ (.int .i64 a)).setCell ⟨g, i * 2 + 1, none⟩ (.int .i64 b)) g (xs.set i (a, b)) := by
  obtain ⟨cs, hB, hc⟩ := h
  refine ⟨_, (hB.set (i * 2) _).set (i * 2 + 1) _, fun k hk j u hu => ?_⟩
  have hk' : k < xs.length := by simpa using hk
  have h0 := hc i hi 0 _ rfl
  have h1 := hc i hi 1 _ rfl
  have hs1 := (Array.getElem?_eq_some_iff.1 h1).1
  have hj : j < 2 := (List.getElem?_eq_some_iff.1 hu).1
  rw [List.getElem_set] at hu
  by_cases e : i = k
  · subst e
    rw [if_pos rfl] at hu
    match j, hj with
    | 0, _ =>
      have e1 : Value.int .i64 a = u := by simpa [Sh.spC] using hu
      subst e1
      rw [Array.getElem?_setIfInBounds_ne (by omega), Array.getElem?_setIfInBounds]
      simp; omega
    | 1, _ =>
      have e1 : Value.int .i64 b = u := by simpa [Sh.spC] using hu
      subst e1
      rw [Array.getElem?_setIfInBounds]
      simp; omega
  · rw [if_neg e] at hu
    rw [Array.getElem?_setIfInBounds_ne (by omega), Array.getElem?_setIfInBounds_ne (by omega)]
    exact hc k hk' j u hu
theorem storm_levels {s : Wl.W.Shore} {c : Wl.W.Storm} {wind fetch loss : Int} (hS : Wl.W.shoreB s = true) (hC : Wl.W.stormB c = true) (h1 : c.wl ≤ wind ∧ wind ≤ c.wh) (h2 : c.fl ≤ fetch ∧ fetch ≤ c.fh) (h3 : s.ll ≤ loss ∧ loss ≤ s.lh) :
    ∃ lo hi V, Wl.levelOf s ⟨c.wl, c.wh, c.fl, c.fh, 0, 0⟩ = (lo, hi) ∧ Wl.levelOf ⟨s.cells, s.works, s.reef, loss, loss⟩ ⟨wind, wind, fetch, fetch, 0, 0⟩ = (V, V) ∧ lo ≤ V ∧ V ≤ hi ∧
      Wl.W.okB s ⟨c.wl, c.wh, c.fl, c.fh, 0, 0⟩ = true ∧ Wl.W.okB ⟨s.cells, s.works, s.reef, loss, loss⟩ ⟨wind, wind, fetch, fetch, 0, 0⟩ = true ∧ s.cells.length ≤ 1000000 ∧ s.works.length ≤ 1000000 := by
  have O := Wl.W.ok_iff (s := s) (c := c) (by unfold Wl.W.okB; rw [hS, hC]; rfl)
  have o1 := O.wind
  have o2 := O.fetch
  have o3 := O.loss
  have e1 : Wl.W.okB s ⟨c.wl, c.wh, c.fl, c.fh, 0, 0⟩ = true := by
    unfold Wl.W.okB; rw [hS]
    simp [Wl.W.stormB, Wl.W.spanB] <;> omega
  have e2 : Wl.W.okB ⟨s.cells, s.works, s.reef, loss, loss⟩ ⟨wind, wind, fetch, fetch, 0, 0⟩ = true := by
    have h := hS
    unfold Wl.W.okB
    unfold Wl.W.shoreB at h ⊢
    simp only [Bool.and_eq_true] at h ⊢
    refine ⟨⟨h.1, ?_⟩, ?_⟩
    · simp [Wl.W.spanB] <;> omega
    · simp [Wl.W.stormB, Wl.W.spanB] <;> omega
  refine ⟨_, _, Wl.W.level s ⟨wind, fetch, 0, loss, []⟩, by unfold Wl.levelOf; rw [e1]; (try rfl), by unfold Wl.levelOf; rw [e2]; (try rfl), ?_, ?_, e1, e2, by have := O.n7; omega, by have := O.m3; omega⟩
  · exact Wl.W.level_mono (s := s) o1.1 h1.1 o2.1 h2.1 (by simp only; omega) h3.2 (by show s.lh ≤ 1000; omega) (Int.le_refl _)
  · exact Wl.W.level_mono (s := s) (t := ⟨wind, fetch, 0, loss, []⟩) (by simp only; omega) h1.2 (by simp only; omega) h2.2 (by show 0 ≤ s.ll; omega) h3.1 (by simp only; omega) (Int.le_refl _)
noncomputable def stoT (n : Nat) : Code := codeTail n (Tryz.f3.body.getD .skip)
set_option maxRecDepth 1000000 in
set_option maxHeartbeats 64000000 in
theorem sto_tail9 {u0 u1 u2 u3 u4 u5 u6 u7 u8 u11 u12 u13 u15 u17 u18 u19 u21 u22 u23 u24 u25 u26 u27 u28 u29 u30 u31 u32 u33 u34 u35 u36 u37 u38 u39 u40 u41 u42 u43 u44 u45 u46 u47 u48 u49 u50 u51 u52 u53 u54 u55 u56 u57 u58 u59 u60 u61 u62 u63 u64 u65 u66 u67 u68 u69 u70 u71 u72 u73 u74 u75 u76 u77 u78 u79 u80 u81 u82 u83 u84 u85 u86 u87 u88 u89 u90 u91 u92 u93 u94 u95 u96 u97 u98 u99 u100 u101 u102 u103 u104 u105 u106 u107 u108 u109 u110 u111 u112 u113 u114 u115 u116 u117 u118 u119 u120 u121 u122 u123 u124 u125 u126 u127 u128 u129 u130 u131 u132 u133 u134 u135 u136 u137 u138 u139 u140 u141 u142 u143 u144 u145 u146 u147 u148 u149 u150 u151 u152 u153 u154 u155 u156 u157 u158 u159 u160 u161 u162 u163 u164 u165 u166 u167 u168 u169 u170 u171 u172 u173 u174 u175 u176 u177 u178 u179 u180 u181 u182 u183 u184 u185 u186 u187 u188 u189 u190 u191 u192 u193 u194 u195 u196 u197 u198 u199 u200 u201 u202 u203 u204 u205 u206 u207 u208 u209 u210 u211 u212 u213 u214 u215 u216 u217 u218 u219 u220 u221 u222 u223 u224 u225 u226 u227 u228 u229 u230 u231 u232 u233 u234 u235 u236 u237 : Value} {c4 : Nat} {a4 : Option Addr} {s : Wl.W.Shore} {c : Wl.W.Storm} {p : Sh.Pass} {d h lo hi V : Int} {w w1 : World} {n0 c1 c2 c3 bl bv : Nat} {a1 a2 a3 : Option Addr} (wz : World) (HT : Hid (∀ W, Ext w W → Ints W (.slice a3 p.tides.length c3) p.tides)) (HS : Hid (∀ W, Ext w W → Sh.Spans W (.slice a4 p.swell.length c4) p.swell)) (HBX : Hid (∀ y, Ext w1 y → Blk y n0 #[.slice a1 s.cells.length c1, .slice a2 s.works.length c2, .int .i64 s.reef, .int .i64 s.ll, .int .i64 s.lh] 27 ∧ Blk y (n0 + 1) #[.int .i64 c.wl, .int .i64 c.wh, .int .i64 c.fl, .int .i64 c.fh, .int .i64 c.tl, .int .i64 c.th] 29 ∧ Blk y (n0 + 1 + 1) #[.slice a3 p.tides.length c3, .int .i64 p.depth, .int .i64 p.draft, .slice a4 p.swell.length c4, .int .i64 p.ll, .int .i64 p.lh] 33 ∧ Blk y (n0 + 1 + 1 + 1) #[.int .i64 d, .int .i64 h] 35)) (hE1 : Ext w1 wz) (hE : Ext w wz) (hL : Blk wz bl #[.int .i64 lo, .int .i64 hi] 25) (hV : Blk wz bv #[.int .i64 V, .int .i64 V] 25) (hlv : lo ≤ V) (hvh : V ≤ hi) (hp : Sh.passB p = true) (hd : Sh.callB p d h = true) (hn : w.heap.size ≤ n0) :
    Code.wp Tryz.prog (stoT 9) (bodyPost Tryz.prog Tryz.f3 (fun e w' => e = .returned (.bool true) ∧ Ext w w')) ⟨List.toArray (u0 :: u1 :: u2 :: u3 :: u4 :: u5 :: u6 :: u7 :: u8 :: .pointer (some ⟨n0 + 1 + 1, 0, none⟩) :: .pointer (some ⟨n0 + 1 + 1 + 1, 0, none⟩) :: u11 :: u12 :: u13 :: .bool false :: u15 :: .pointer (some ⟨bl, 0, none⟩) :: u17 :: u18 :: u19 :: .pointer (some ⟨bv, 0, none⟩) :: u21 :: u22 :: u23 :: u24 :: u25 :: u26 :: u27 :: u28 :: u29 :: u30 :: u31 :: u32 :: u33 :: u34 :: u35 :: u36 :: u37 :: u38 :: u39 :: u40 :: u41 :: u42 :: u43 :: u44 :: u45 :: u46 :: u47 :: u48 :: u49 :: u50 :: u51 :: u52 :: u53 :: u54 :: u55 :: u56 :: u57 :: u58 :: u59 :: u60 :: u61 :: u62 :: u63 :: u64 :: u65 :: u66 :: u67 :: u68 :: u69 :: u70 :: u71 :: u72 :: u73 :: u74 :: u75 :: u76 :: u77 :: u78 :: u79 :: u80 :: u81 :: u82 :: u83 :: u84 :: u85 :: u86 :: u87 :: u88 :: u89 :: u90 :: u91 :: u92 :: u93 :: u94 :: u95 :: u96 :: u97 :: u98 :: u99 :: u100 :: u101 :: u102 :: u103 :: u104 :: u105 :: u106 :: u107 :: u108 :: u109 :: u110 :: u111 :: u112 :: u113 :: u114 :: u115 :: u116 :: u117 :: u118 :: u119 :: u120 :: u121 :: u122 :: u123 :: u124 :: u125 :: u126 :: u127 :: u128 :: u129 :: u130 :: u131 :: u132 :: u133 :: u134 :: u135 :: u136 :: u137 :: u138 :: u139 :: u140 :: u141 :: u142 :: u143 :: u144 :: u145 :: u146 :: u147 :: u148 :: u149 :: u150 :: u151 :: u152 :: u153 :: u154 :: u155 :: u156 :: u157 :: u158 :: u159 :: u160 :: u161 :: u162 :: u163 :: u164 :: u165 :: u166 :: u167 :: u168 :: u169 :: u170 :: u171 :: u172 :: u173 :: u174 :: u175 :: u176 :: u177 :: u178 :: u179 :: u180 :: u181 :: u182 :: u183 :: u184 :: u185 :: u186 :: u187 :: u188 :: u189 :: u190 :: u191 :: u192 :: u193 :: u194 :: u195 :: u196 :: u197 :: u198 :: u199 :: u200 :: u201 :: u202 :: u203 :: u204 :: u205 :: u206 :: u207 :: u208 :: u209 :: u210 :: u211 :: u212 :: u213 :: u214 :: u215 :: u216 :: u217 :: u218 :: u219 :: u220 :: u221 :: u222 :: u223 :: u224 :: u225 :: u226 :: u227 :: u228 :: u229 :: u230 :: u231 :: u232 :: u233 :: u234 :: u235 :: u236 :: u237 :: []), []⟩ wz := by
  unfold stoT
  conv => arg 2; whnf
  obtain ⟨⟨hd0, hd1⟩, hh0, hh1⟩ := Sh.call_iff.1 hd
  obtain ⟨dn, rfl⟩ := Int.eq_ofNat_of_zero_le hd0
  have hdn : dn < p.swell.length := by omega
  have O := Sh.ok_of hp
  have hsn := O.swellN
  have HP0 := Lib.hid hp
  clear hd hd0 hd1 hp O
  obtain ⟨i0, hi0, hz0, hz1, hz2⟩ := info_parts span_info
  obtain ⟨sb, so, rfl⟩ : ∃ b o, a4 = some ⟨b, o, none⟩ := by obtain ⟨_, _, e, hx⟩ := HS.out wz hE; cases e; obtain ⟨b, o, e, _⟩ := hx 0 (by omega); exact ⟨b, o, e⟩
  have k0 := (HBX.out wz hE1).2.2.1.cell
  have k1 := (HBX.out wz hE1).2.2.1.lt
  go_upto_region 12 with (fail)
  obtain ⟨bq, hbq⟩ : ∃ n, wz.heap.size = n := ⟨_, rfl⟩
  obtain ⟨w13, hw13⟩ : ∃ y, wz.alloc (.cells #[.slice a3 p.tides.length c3, .int .i64 p.depth, .int .i64 p.draft, .slice (some ⟨sb, so, none⟩) p.swell.length c4, .int .i64 p.ll, .int .i64 p.lh] 33) = y := ⟨_, rfl⟩
  have hEz : Ext wz w13 := by rw [← hw13]; (with_reducible (repeat (first | exact Ext.refl _ | assumption | apply Ext.alloc | apply Ext.drew | exact ext_plus _ _ | (apply Ext.setCell; rotate_left; (simp <;> omega)) | (apply Ext.trans; rotate_left; exact ext_plus _ _) | (apply Ext.trans; rotate_left; assumption))))
  have hQ13 : Blk w13 bq #[.slice a3 p.tides.length c3, .int .i64 p.depth, .int .i64 p.draft, .slice (some ⟨sb, so, none⟩) p.swell.length c4, .int .i64 p.ll, .int .i64 p.lh] 33 := by rw [← hw13]; exact Blk.new' hbq.symm _ _
  have hnq : w1.heap.size ≤ bq := by rw [← hbq]; exact hE1.size
  simp only [hbq, hw13]
  have hE113 := hE1.trans hEz
  have hE13 := hE.trans hEz
  have hL13 := hL.ext hEz
  have hV13 := hV.ext hEz
  have hlq : bl < bq := by rw [← hbq]; exact hL.lt
  have hvq : bv < bq := by rw [← hbq]; exact hV.lt
  clear hbq hw13 k0 k1 hEz hL hV
  have k0 := (HBX.out w13 hE113).2.2.1.cell
  have k1 := (HBX.out w13 hE113).2.2.1.lt
  go_upto_region 13 with (first | (at_builtin; refine wpList_append_own _ rfl _ _ 31 rfl w13.heap.size 25 i0 (.agg #[.int .i64 0, .int .i64 0]) 2 16 Tryz.underlying31 hi0 hz0 hz1 hz2 rfl (by decide) _ _ _ rfl (none_own w13 _ 2) ⟨sb, so, none⟩ p.swell.length _ (p.swell.flatMap Sh.spC) rfl (flat_len Sh.spC 2 (fun _ => rfl) p.swell) (sls_news (f := Sh.spC) (k := 2) (fun _ => rfl) (by decide) (HS.out w13 hE13)) (sp_one _) (by unfold maxLen; omega) (by omega) (Nat.le_refl _) ?_; intro v' w14 hown' hgrow _; rw [Nat.zero_add, List.nil_append] at hown'; obtain ⟨g, cg, rfl, hgb, hgl⟩ := own_pos hown' (by omega); have hE14 : Ext w13 w14 := (Ext.refl _).grown hgrow (fun k e => by cases e); clear hgrow; have hQ14 := hQ13.ext hE14; have k2 := hQ14.cell; have k3 := hQ14.lt; have k4 := hQ14.free))
  obtain ⟨w15, hw15⟩ : ∃ y, w14.setCell ⟨bq, 3, none⟩ (.slice (some ⟨g, 0, none⟩) p.swell.length cg) = y := ⟨_, rfl⟩
  have hqg : bq ≠ g := by have := hQ13.lt; omega
  have hqg2 : bq < g := by have := hQ13.lt; omega
  have hR14 : RowB Sh.spC 2 25 w14 g p.swell := RowB.of_own (f := Sh.spC) (fun _ => rfl) hown'
  have hQ15 : Blk w15 bq #[.slice a3 p.tides.length c3, .int .i64 p.depth, .int .i64 p.draft, .slice (some ⟨g, 0, none⟩) p.swell.length cg, .int .i64 p.ll, .int .i64 p.lh] 33 := by rw [← hw15]; simpa using hQ14.set 3 (.slice (some ⟨g, 0, none⟩) p.swell.length cg)
  have hR15 : RowB Sh.spC 2 25 w15 g p.swell := by rw [← hw15]; exact hR14.other hqg _
  have hE115 : Ext w1 w15 := by rw [← hw15]; exact (hE113.trans hE14).setCell (p := ⟨bq, 3, none⟩) hnq _
  have hE15 : Ext w w15 := by rw [← hw15]; exact (hE13.trans hE14).setCell (p := ⟨bq, 3, none⟩) (by have := (HBX.out w1 (Ext.refl _)).1.lt; show w.heap.size ≤ bq; omega) _
  have hL15 := (hL13.ext hE14).other (a := ⟨bq, 3, none⟩) (by simp; omega) (.slice (some ⟨g, 0, none⟩) p.swell.length cg)
  have hV15 := (hV13.ext hE14).other (a := ⟨bq, 3, none⟩) (by simp; omega) (.slice (some ⟨g, 0, none⟩) p.swell.length cg)
  rw [hw15] at hL15 hV15 ⊢
  clear hw15 k0 k1 k2 k3 k4 hown' hgb hgl hE14 hQ14 hQ13 hR14 hE113 hE13 hL13 hV13
  have k0 := hQ15.cell
  have k1 := hQ15.lt
  have k2 := hL15.cell
  have k3 := hL15.lt
  have k4 := (HBX.out w15 hE115).2.2.2.cell
  have k5 := (HBX.out w15 hE115).2.2.2.lt
  have k6 := hR15.cell dn hdn 0 _ rfl
  have k7 := hR15.cell dn hdn 1 _ rfl
  have k8 := hR15.lt
  have k9 := hR15.free
  simp only [Nat.add_zero] at k6
  go_upto_region 14 with (fail)
  obtain ⟨w16, hw16⟩ : ∃ y, (w15.setCell ⟨g, dn * 2, none⟩ (.int .i64 lo)).setCell ⟨g, dn * 2 + 1, none⟩ (.int .i64 hi)  = y := ⟨_, rfl⟩
  have hR16 : RowB Sh.spC 2 25 w16 g (p.swell.set dn (lo, hi)) := by rw [← hw16]; exact spans_set hR15 hdn lo hi
  have hQ16 : Blk w16 bq #[.slice a3 p.tides.length c3, .int .i64 p.depth, .int .i64 p.draft, .slice (some ⟨g, 0, none⟩) p.swell.length cg, .int .i64 p.ll, .int .i64 p.lh] 33 := by rw [← hw16]; exact (hQ15.other (a := ⟨g, dn * 2, none⟩) (Ne.symm hqg) _).other (a := ⟨g, dn * 2 + 1, none⟩) (Ne.symm hqg) _
  have hV16 : Blk w16 bv #[.int .i64 V, .int .i64 V] 25 := by rw [← hw16]; exact (hV15.other (a := ⟨g, dn * 2, none⟩) (by simp; omega) _).other (a := ⟨g, dn * 2 + 1, none⟩) (by simp; omega) _
  have hE116 : Ext w1 w16 := by rw [← hw16]; exact (hE115.setCell (p := ⟨g, dn * 2, none⟩) (by show w1.heap.size ≤ g; omega) _).setCell (p := ⟨g, dn * 2 + 1, none⟩) (by show w1.heap.size ≤ g; omega) _
  have hE16 : Ext w w16 := by rw [← hw16]; have hx := (HBX.out w1 (Ext.refl _)).1.lt; exact (hE15.setCell (p := ⟨g, dn * 2, none⟩) (by show w.heap.size ≤ g; omega) _).setCell (p := ⟨g, dn * 2 + 1, none⟩) (by show w.heap.size ≤ g; omega) _
  rw [hw16]
  clear hw16 k0 k1 k2 k3 k4 k5 k6 k7 k8 k9 hR15 hQ15 hV15 hL15 hE115 hE15
  obtain ⟨q, hq⟩ : ∃ q : Sh.Pass, (⟨p.tides, p.depth, p.draft, p.swell.set dn (lo, hi), p.ll, p.lh⟩ : Sh.Pass) = q := ⟨_, rfl⟩
  have hql : q.swell.length = p.swell.length := by rw [← hq]; simp
  have hqs : ∀ W, Ext w16 W → Sh.Spans W (.slice (some ⟨g, 0, none⟩) p.swell.length cg) q.swell := fun W hE => by have h9 := hR16.sls cg; rw [List.length_set] at h9; rw [← hq]; exact Sh.Spans.ext h9 hE
  have hqt : ∀ W, Ext w16 W → Ints W (.slice a3 p.tides.length c3) q.tides := fun W hE => by rw [← hq]; exact HT.out W (hE16.trans hE)
  have hqv : Sh.passV q (.slice a3 p.tides.length c3) (.slice (some ⟨g, 0, none⟩) p.swell.length cg) = #[.slice a3 p.tides.length c3, .int .i64 p.depth, .int .i64 p.draft, .slice (some ⟨g, 0, none⟩) p.swell.length cg, .int .i64 p.ll, .int .i64 p.lh] := by rw [← hq]
  have hsw : Sh.swAt q dn = (lo, hi) := by rw [Sh.sw_at (by omega)]; simp [← hq]
  have hpq := fun W hE => Sh.pass_any q _ _ W (hqt W hE) (hqs W hE) (by rw [← hq]; exact Nat.le_trans (Sh.ok_of HP0.out).tidesN.2 (by omega)) (by omega)
  simp only [hqv] at hpq
  obtain ⟨B, hB⟩ : ∃ B, Sh.passB q = B := ⟨_, rfl⟩
  simp only [hB] at hpq
  have HPQ := Lib.hid hpq
  have k0 := hQ16.cell
  have k1 := hQ16.lt
  cases B with
  | false =>
    clear hqs hqt hqv hsw hpq hq
    go_wp2_with (first | (go_at_call 10; refine (HPQ.out w16 (Ext.refl _)).mono ?_; rintro e w17 ⟨rfl, hE17⟩; (try clear k0 k1 k2 k3 k4 k5); have k0 := (hQ16.ext (show Ext w16 w17 by (with_reducible show Ext _ _; (with_reducible (repeat (first | exact Ext.refl _ | assumption | apply Ext.alloc | apply Ext.drew | exact ext_plus _ _ | (apply Ext.setCell; rotate_left; (simp <;> omega)) | (apply Ext.trans; rotate_left; exact ext_plus _ _) | (apply Ext.trans; rotate_left; assumption)))); done))).cell; have k1 := (hQ16.ext (show Ext w16 w17 by (with_reducible show Ext _ _; (with_reducible (repeat (first | exact Ext.refl _ | assumption | apply Ext.alloc | apply Ext.drew | exact ext_plus _ _ | (apply Ext.setCell; rotate_left; (simp <;> omega)) | (apply Ext.trans; rotate_left; exact ext_plus _ _) | (apply Ext.trans; rotate_left; assumption)))); done))).lt; have k2 := (hV16.ext (show Ext w16 w17 by (with_reducible show Ext _ _; (with_reducible (repeat (first | exact Ext.refl _ | assumption | apply Ext.alloc | apply Ext.drew | exact ext_plus _ _ | (apply Ext.setCell; rotate_left; (simp <;> omega)) | (apply Ext.trans; rotate_left; exact ext_plus _ _) | (apply Ext.trans; rotate_left; assumption)))); done))).cell; have k3 := (hV16.ext (show Ext w16 w17 by (with_reducible show Ext _ _; (with_reducible (repeat (first | exact Ext.refl _ | assumption | apply Ext.alloc | apply Ext.drew | exact ext_plus _ _ | (apply Ext.setCell; rotate_left; (simp <;> omega)) | (apply Ext.trans; rotate_left; exact ext_plus _ _) | (apply Ext.trans; rotate_left; assumption)))); done))).lt; have k4 := (HBX.out w17 (hE116.trans (by (with_reducible show Ext _ _; (with_reducible (repeat (first | exact Ext.refl _ | assumption | apply Ext.alloc | apply Ext.drew | exact ext_plus _ _ | (apply Ext.setCell; rotate_left; (simp <;> omega)) | (apply Ext.trans; rotate_left; exact ext_plus _ _) | (apply Ext.trans; rotate_left; assumption)))); done)))).2.2.2.cell; have k5 := (HBX.out w17 (hE116.trans (by (with_reducible show Ext _ _; (with_reducible (repeat (first | exact Ext.refl _ | assumption | apply Ext.alloc | apply Ext.drew | exact ext_plus _ _ | (apply Ext.setCell; rotate_left; (simp <;> omega)) | (apply Ext.trans; rotate_left; exact ext_plus _ _) | (apply Ext.trans; rotate_left; assumption)))); done)))).2.2.2.lt) | (go_at_call 12; refine (known11_any _).mono ?_; rintro e wk ⟨rfl, hbk⟩))
    go_ret
    exact ⟨rfl, by (with_reducible (repeat (first | exact Ext.refl _ | assumption | apply Ext.alloc | apply Ext.drew | exact ext_plus _ _ | (apply Ext.setCell; rotate_left; (simp <;> omega)) | (apply Ext.trans; rotate_left; exact ext_plus _ _) | (apply Ext.trans; rotate_left; assumption))))⟩
  | true =>
    have Oq := Sh.ok_of hB
    have hho := fun W hE => Sh.hours_any q _ _ dn W Oq (by omega) (hqt W hE) (hqs W hE)
    have hgo := fun W hE => Sh.goes_any q _ _ dn h V W Oq (by omega) ⟨hh0, hh1⟩ (by rw [hsw]; exact ⟨hlv, hvh⟩) (hqt W hE) (hqs W hE)
    simp only [hqv, hsw] at hho hgo
    have hm1 := Sh.hours_mem (p := q) (d := (dn : Int)) (s := hi) hh0 hh1
    have hm2 := Sh.hours_mem (p := q) (d := (dn : Int)) (s := lo) hh0 hh1
    have hx1 := fun h9 => Sh.goes_mono (p := q) (d := (dn : Int)) (h := h) hvh h9
    have hx2 := fun h9 => Sh.goes_mono (p := q) (d := (dn : Int)) (h := h) hlv h9
    have hl1 := Sh.hoursTo_len q (dn : Int) hi 24
    have hl2 := Sh.hoursTo_len q (dn : Int) lo 24
    rw [Sh.hoursTo_all] at hl1 hl2
    obtain ⟨La, hLa⟩ : ∃ L, Sh.hoursL q (dn : Int) hi = L := ⟨_, rfl⟩
    obtain ⟨Lb, hLb⟩ : ∃ L, Sh.hoursL q (dn : Int) lo = L := ⟨_, rfl⟩
    simp only [hLa, hLb] at hho hm1 hm2 hl1 hl2
    obtain ⟨G, hG⟩ : ∃ G, Sh.goesB q (dn : Int) h V = G := ⟨_, rfl⟩
    simp only [hG] at hgo hx1 hx2
    have hn1 : ¬ (24 : Int) < (La.length : Int) := by omega
    have hn2 : ¬ (24 : Int) < (Lb.length : Int) := by omega
    have HHO := Lib.hid hho
    have HGO := Lib.hid hgo
    cases G with
    | true =>
      have hin : decide (h ∈ Lb) = true := by rw [decide_eq_true_eq, hm2]; exact hx2 rfl
      have HIN := Lib.hid hin
      clear hqs hqt hqv hsw hpq hq hho hgo hm1 hm2 hx1 hx2 hLa hLb hG hB Oq hin
      go_wp2_with (first | (go_at_call 10; refine (HPQ.out w16 (Ext.refl _)).mono ?_; rintro e w17 ⟨rfl, hE17⟩; (try clear k0 k1 k2 k3 k4 k5); have k0 := (hQ16.ext (show Ext w16 w17 by (with_reducible show Ext _ _; (with_reducible (repeat (first | exact Ext.refl _ | assumption | apply Ext.alloc | apply Ext.drew | exact ext_plus _ _ | (apply Ext.setCell; rotate_left; (simp <;> omega)) | (apply Ext.trans; rotate_left; exact ext_plus _ _) | (apply Ext.trans; rotate_left; assumption)))); done))).cell; have k1 := (hQ16.ext (show Ext w16 w17 by (with_reducible show Ext _ _; (with_reducible (repeat (first | exact Ext.refl _ | assumption | apply Ext.alloc | apply Ext.drew | exact ext_plus _ _ | (apply Ext.setCell; rotate_left; (simp <;> omega)) | (apply Ext.trans; rotate_left; exact ext_plus _ _) | (apply Ext.trans; rotate_left; assumption)))); done))).lt; have k2 := (hV16.ext (show Ext w16 w17 by (with_reducible show Ext _ _; (with_reducible (repeat (first | exact Ext.refl _ | assumption | apply Ext.alloc | apply Ext.drew | exact ext_plus _ _ | (apply Ext.setCell; rotate_left; (simp <;> omega)) | (apply Ext.trans; rotate_left; exact ext_plus _ _) | (apply Ext.trans; rotate_left; assumption)))); done))).cell; have k3 := (hV16.ext (show Ext w16 w17 by (with_reducible show Ext _ _; (with_reducible (repeat (first | exact Ext.refl _ | assumption | apply Ext.alloc | apply Ext.drew | exact ext_plus _ _ | (apply Ext.setCell; rotate_left; (simp <;> omega)) | (apply Ext.trans; rotate_left; exact ext_plus _ _) | (apply Ext.trans; rotate_left; assumption)))); done))).lt; have k4 := (HBX.out w17 (hE116.trans (by (with_reducible show Ext _ _; (with_reducible (repeat (first | exact Ext.refl _ | assumption | apply Ext.alloc | apply Ext.drew | exact ext_plus _ _ | (apply Ext.setCell; rotate_left; (simp <;> omega)) | (apply Ext.trans; rotate_left; exact ext_plus _ _) | (apply Ext.trans; rotate_left; assumption)))); done)))).2.2.2.cell; have k5 := (HBX.out w17 (hE116.trans (by (with_reducible show Ext _ _; (with_reducible (repeat (first | exact Ext.refl _ | assumption | apply Ext.alloc | apply Ext.drew | exact ext_plus _ _ | (apply Ext.setCell; rotate_left; (simp <;> omega)) | (apply Ext.trans; rotate_left; exact ext_plus _ _) | (apply Ext.trans; rotate_left; assumption)))); done)))).2.2.2.lt) | (go_at_call 14; refine (HHO.out _ (by (with_reducible (repeat (first | exact Ext.refl _ | assumption | apply Ext.alloc | apply Ext.drew | exact ext_plus _ _ | (apply Ext.setCell; rotate_left; (simp <;> omega)) | (apply Ext.trans; rotate_left; exact ext_plus _ _) | (apply Ext.trans; rotate_left; assumption)))))).mono ?_; rintro e w18 ⟨v1, v2, rfl, i1, i2, hE18⟩; have HI1 := Lib.hid i1; have HI2 := Lib.hid i2; obtain ⟨a5, c5, rfl, _⟩ := i1; obtain ⟨a6, c6, rfl, _⟩ := i2; (try clear k0 k1 k2 k3 k4 k5); have k0 := (hQ16.ext (show Ext w16 w18 by (with_reducible show Ext _ _; (with_reducible (repeat (first | exact Ext.refl _ | assumption | apply Ext.alloc | apply Ext.drew | exact ext_plus _ _ | (apply Ext.setCell; rotate_left; (simp <;> omega)) | (apply Ext.trans; rotate_left; exact ext_plus _ _) | (apply Ext.trans; rotate_left; assumption)))); done))).cell; have k1 := (hQ16.ext (show Ext w16 w18 by (with_reducible show Ext _ _; (with_reducible (repeat (first | exact Ext.refl _ | assumption | apply Ext.alloc | apply Ext.drew | exact ext_plus _ _ | (apply Ext.setCell; rotate_left; (simp <;> omega)) | (apply Ext.trans; rotate_left; exact ext_plus _ _) | (apply Ext.trans; rotate_left; assumption)))); done))).lt; have k2 := (hV16.ext (show Ext w16 w18 by (with_reducible show Ext _ _; (with_reducible (repeat (first | exact Ext.refl _ | assumption | apply Ext.alloc | apply Ext.drew | exact ext_plus _ _ | (apply Ext.setCell; rotate_left; (simp <;> omega)) | (apply Ext.trans; rotate_left; exact ext_plus _ _) | (apply Ext.trans; rotate_left; assumption)))); done))).cell; have k3 := (hV16.ext (show Ext w16 w18 by (with_reducible show Ext _ _; (with_reducible (repeat (first | exact Ext.refl _ | assumption | apply Ext.alloc | apply Ext.drew | exact ext_plus _ _ | (apply Ext.setCell; rotate_left; (simp <;> omega)) | (apply Ext.trans; rotate_left; exact ext_plus _ _) | (apply Ext.trans; rotate_left; assumption)))); done))).lt; have k4 := (HBX.out w18 (hE116.trans (by (with_reducible show Ext _ _; (with_reducible (repeat (first | exact Ext.refl _ | assumption | apply Ext.alloc | apply Ext.drew | exact ext_plus _ _ | (apply Ext.setCell; rotate_left; (simp <;> omega)) | (apply Ext.trans; rotate_left; exact ext_plus _ _) | (apply Ext.trans; rotate_left; assumption)))); done)))).2.2.2.cell; have k5 := (HBX.out w18 (hE116.trans (by (with_reducible show Ext _ _; (with_reducible (repeat (first | exact Ext.refl _ | assumption | apply Ext.alloc | apply Ext.drew | exact ext_plus _ _ | (apply Ext.setCell; rotate_left; (simp <;> omega)) | (apply Ext.trans; rotate_left; exact ext_plus _ _) | (apply Ext.trans; rotate_left; assumption)))); done)))).2.2.2.lt) | (go_at_call 15; refine (HGO.out _ (by (with_reducible (repeat (first | exact Ext.refl _ | assumption | apply Ext.alloc | apply Ext.drew | exact ext_plus _ _ | (apply Ext.setCell; rotate_left; (simp <;> omega)) | (apply Ext.trans; rotate_left; exact ext_plus _ _) | (apply Ext.trans; rotate_left; assumption)))))).mono ?_; rintro e w19 ⟨rfl, hE19⟩; (try clear k0 k1 k2 k3 k4 k5); have k0 := (hQ16.ext (show Ext w16 w19 by (with_reducible show Ext _ _; (with_reducible (repeat (first | exact Ext.refl _ | assumption | apply Ext.alloc | apply Ext.drew | exact ext_plus _ _ | (apply Ext.setCell; rotate_left; (simp <;> omega)) | (apply Ext.trans; rotate_left; exact ext_plus _ _) | (apply Ext.trans; rotate_left; assumption)))); done))).cell; have k1 := (hQ16.ext (show Ext w16 w19 by (with_reducible show Ext _ _; (with_reducible (repeat (first | exact Ext.refl _ | assumption | apply Ext.alloc | apply Ext.drew | exact ext_plus _ _ | (apply Ext.setCell; rotate_left; (simp <;> omega)) | (apply Ext.trans; rotate_left; exact ext_plus _ _) | (apply Ext.trans; rotate_left; assumption)))); done))).lt; have k2 := (hV16.ext (show Ext w16 w19 by (with_reducible show Ext _ _; (with_reducible (repeat (first | exact Ext.refl _ | assumption | apply Ext.alloc | apply Ext.drew | exact ext_plus _ _ | (apply Ext.setCell; rotate_left; (simp <;> omega)) | (apply Ext.trans; rotate_left; exact ext_plus _ _) | (apply Ext.trans; rotate_left; assumption)))); done))).cell; have k3 := (hV16.ext (show Ext w16 w19 by (with_reducible show Ext _ _; (with_reducible (repeat (first | exact Ext.refl _ | assumption | apply Ext.alloc | apply Ext.drew | exact ext_plus _ _ | (apply Ext.setCell; rotate_left; (simp <;> omega)) | (apply Ext.trans; rotate_left; exact ext_plus _ _) | (apply Ext.trans; rotate_left; assumption)))); done))).lt; have k4 := (HBX.out w19 (hE116.trans (by (with_reducible show Ext _ _; (with_reducible (repeat (first | exact Ext.refl _ | assumption | apply Ext.alloc | apply Ext.drew | exact ext_plus _ _ | (apply Ext.setCell; rotate_left; (simp <;> omega)) | (apply Ext.trans; rotate_left; exact ext_plus _ _) | (apply Ext.trans; rotate_left; assumption)))); done)))).2.2.2.cell; have k5 := (HBX.out w19 (hE116.trans (by (with_reducible show Ext _ _; (with_reducible (repeat (first | exact Ext.refl _ | assumption | apply Ext.alloc | apply Ext.drew | exact ext_plus _ _ | (apply Ext.setCell; rotate_left; (simp <;> omega)) | (apply Ext.trans; rotate_left; exact ext_plus _ _) | (apply Ext.trans; rotate_left; assumption)))); done)))).2.2.2.lt) | (go_at_call 16; refine (Sh.has_any Lb _ _ _ (HI2.out.ext (by (with_reducible (repeat (first | exact Ext.refl _ | assumption | apply Ext.alloc | apply Ext.drew | exact ext_plus _ _ | (apply Ext.setCell; rotate_left; (simp <;> omega)) | (apply Ext.trans; rotate_left; exact ext_plus _ _) | (apply Ext.trans; rotate_left; assumption)))))) (by omega)).mono ?_; rintro e w20 ⟨rfl, hE20⟩; have hin := HIN.out; (try clear k0 k1 k2 k3 k4 k5); have k0 := (hQ16.ext (show Ext w16 w20 by (with_reducible show Ext _ _; (with_reducible (repeat (first | exact Ext.refl _ | assumption | apply Ext.alloc | apply Ext.drew | exact ext_plus _ _ | (apply Ext.setCell; rotate_left; (simp <;> omega)) | (apply Ext.trans; rotate_left; exact ext_plus _ _) | (apply Ext.trans; rotate_left; assumption)))); done))).cell; have k1 := (hQ16.ext (show Ext w16 w20 by (with_reducible show Ext _ _; (with_reducible (repeat (first | exact Ext.refl _ | assumption | apply Ext.alloc | apply Ext.drew | exact ext_plus _ _ | (apply Ext.setCell; rotate_left; (simp <;> omega)) | (apply Ext.trans; rotate_left; exact ext_plus _ _) | (apply Ext.trans; rotate_left; assumption)))); done))).lt; have k2 := (hV16.ext (show Ext w16 w20 by (with_reducible show Ext _ _; (with_reducible (repeat (first | exact Ext.refl _ | assumption | apply Ext.alloc | apply Ext.drew | exact ext_plus _ _ | (apply Ext.setCell; rotate_left; (simp <;> omega)) | (apply Ext.trans; rotate_left; exact ext_plus _ _) | (apply Ext.trans; rotate_left; assumption)))); done))).cell; have k3 := (hV16.ext (show Ext w16 w20 by (with_reducible show Ext _ _; (with_reducible (repeat (first | exact Ext.refl _ | assumption | apply Ext.alloc | apply Ext.drew | exact ext_plus _ _ | (apply Ext.setCell; rotate_left; (simp <;> omega)) | (apply Ext.trans; rotate_left; exact ext_plus _ _) | (apply Ext.trans; rotate_left; assumption)))); done))).lt; have k4 := (HBX.out w20 (hE116.trans (by (with_reducible show Ext _ _; (with_reducible (repeat (first | exact Ext.refl _ | assumption | apply Ext.alloc | apply Ext.drew | exact ext_plus _ _ | (apply Ext.setCell; rotate_left; (simp <;> omega)) | (apply Ext.trans; rotate_left; exact ext_plus _ _) | (apply Ext.trans; rotate_left; assumption)))); done)))).2.2.2.cell; have k5 := (HBX.out w20 (hE116.trans (by (with_reducible show Ext _ _; (with_reducible (repeat (first | exact Ext.refl _ | assumption | apply Ext.alloc | apply Ext.drew | exact ext_plus _ _ | (apply Ext.setCell; rotate_left; (simp <;> omega)) | (apply Ext.trans; rotate_left; exact ext_plus _ _) | (apply Ext.trans; rotate_left; assumption)))); done)))).2.2.2.lt) | (go_at_call 12; refine (known11_any _).mono ?_; rintro e wk ⟨rfl, hbk⟩))
      go_ret
      exact ⟨rfl, by (with_reducible (repeat (first | exact Ext.refl _ | assumption | apply Ext.alloc | apply Ext.drew | exact ext_plus _ _ | (apply Ext.setCell; rotate_left; (simp <;> omega)) | (apply Ext.trans; rotate_left; exact ext_plus _ _) | (apply Ext.trans; rotate_left; assumption))))⟩
    | false =>
      have hin : decide (h ∈ La) = false := by rw [decide_eq_false_iff_not, hm1]; intro h9; cases hx1 h9
      have HIN := Lib.hid hin
      clear hqs hqt hqv hsw hpq hq hho hgo hm1 hm2 hx1 hx2 hLa hLb hG hB Oq hin
      go_wp2_with (first | (go_at_call 10; refine (HPQ.out w16 (Ext.refl _)).mono ?_; rintro e w17 ⟨rfl, hE17⟩; (try clear k0 k1 k2 k3 k4 k5); have k0 := (hQ16.ext (show Ext w16 w17 by (with_reducible show Ext _ _; (with_reducible (repeat (first | exact Ext.refl _ | assumption | apply Ext.alloc | apply Ext.drew | exact ext_plus _ _ | (apply Ext.setCell; rotate_left; (simp <;> omega)) | (apply Ext.trans; rotate_left; exact ext_plus _ _) | (apply Ext.trans; rotate_left; assumption)))); done))).cell; have k1 := (hQ16.ext (show Ext w16 w17 by (with_reducible show Ext _ _; (with_reducible (repeat (first | exact Ext.refl _ | assumption | apply Ext.alloc | apply Ext.drew | exact ext_plus _ _ | (apply Ext.setCell; rotate_left; (simp <;> omega)) | (apply Ext.trans; rotate_left; exact ext_plus _ _) | (apply Ext.trans; rotate_left; assumption)))); done))).lt; have k2 := (hV16.ext (show Ext w16 w17 by (with_reducible show Ext _ _; (with_reducible (repeat (first | exact Ext.refl _ | assumption | apply Ext.alloc | apply Ext.drew | exact ext_plus _ _ | (apply Ext.setCell; rotate_left; (simp <;> omega)) | (apply Ext.trans; rotate_left; exact ext_plus _ _) | (apply Ext.trans; rotate_left; assumption)))); done))).cell; have k3 := (hV16.ext (show Ext w16 w17 by (with_reducible show Ext _ _; (with_reducible (repeat (first | exact Ext.refl _ | assumption | apply Ext.alloc | apply Ext.drew | exact ext_plus _ _ | (apply Ext.setCell; rotate_left; (simp <;> omega)) | (apply Ext.trans; rotate_left; exact ext_plus _ _) | (apply Ext.trans; rotate_left; assumption)))); done))).lt; have k4 := (HBX.out w17 (hE116.trans (by (with_reducible show Ext _ _; (with_reducible (repeat (first | exact Ext.refl _ | assumption | apply Ext.alloc | apply Ext.drew | exact ext_plus _ _ | (apply Ext.setCell; rotate_left; (simp <;> omega)) | (apply Ext.trans; rotate_left; exact ext_plus _ _) | (apply Ext.trans; rotate_left; assumption)))); done)))).2.2.2.cell; have k5 := (HBX.out w17 (hE116.trans (by (with_reducible show Ext _ _; (with_reducible (repeat (first | exact Ext.refl _ | assumption | apply Ext.alloc | apply Ext.drew | exact ext_plus _ _ | (apply Ext.setCell; rotate_left; (simp <;> omega)) | (apply Ext.trans; rotate_left; exact ext_plus _ _) | (apply Ext.trans; rotate_left; assumption)))); done)))).2.2.2.lt) | (go_at_call 14; refine (HHO.out _ (by (with_reducible (repeat (first | exact Ext.refl _ | assumption | apply Ext.alloc | apply Ext.drew | exact ext_plus _ _ | (apply Ext.setCell; rotate_left; (simp <;> omega)) | (apply Ext.trans; rotate_left; exact ext_plus _ _) | (apply Ext.trans; rotate_left; assumption)))))).mono ?_; rintro e w18 ⟨v1, v2, rfl, i1, i2, hE18⟩; have HI1 := Lib.hid i1; have HI2 := Lib.hid i2; obtain ⟨a5, c5, rfl, _⟩ := i1; obtain ⟨a6, c6, rfl, _⟩ := i2; (try clear k0 k1 k2 k3 k4 k5); have k0 := (hQ16.ext (show Ext w16 w18 by (with_reducible show Ext _ _; (with_reducible (repeat (first | exact Ext.refl _ | assumption | apply Ext.alloc | apply Ext.drew | exact ext_plus _ _ | (apply Ext.setCell; rotate_left; (simp <;> omega)) | (apply Ext.trans; rotate_left; exact ext_plus _ _) | (apply Ext.trans; rotate_left; assumption)))); done))).cell; have k1 := (hQ16.ext (show Ext w16 w18 by (with_reducible show Ext _ _; (with_reducible (repeat (first | exact Ext.refl _ | assumption | apply Ext.alloc | apply Ext.drew | exact ext_plus _ _ | (apply Ext.setCell; rotate_left; (simp <;> omega)) | (apply Ext.trans; rotate_left; exact ext_plus _ _) | (apply Ext.trans; rotate_left; assumption)))); done))).lt; have k2 := (hV16.ext (show Ext w16 w18 by (with_reducible show Ext _ _; (with_reducible (repeat (first | exact Ext.refl _ | assumption | apply Ext.alloc | apply Ext.drew | exact ext_plus _ _ | (apply Ext.setCell; rotate_left; (simp <;> omega)) | (apply Ext.trans; rotate_left; exact ext_plus _ _) | (apply Ext.trans; rotate_left; assumption)))); done))).cell; have k3 := (hV16.ext (show Ext w16 w18 by (with_reducible show Ext _ _; (with_reducible (repeat (first | exact Ext.refl _ | assumption | apply Ext.alloc | apply Ext.drew | exact ext_plus _ _ | (apply Ext.setCell; rotate_left; (simp <;> omega)) | (apply Ext.trans; rotate_left; exact ext_plus _ _) | (apply Ext.trans; rotate_left; assumption)))); done))).lt; have k4 := (HBX.out w18 (hE116.trans (by (with_reducible show Ext _ _; (with_reducible (repeat (first | exact Ext.refl _ | assumption | apply Ext.alloc | apply Ext.drew | exact ext_plus _ _ | (apply Ext.setCell; rotate_left; (simp <;> omega)) | (apply Ext.trans; rotate_left; exact ext_plus _ _) | (apply Ext.trans; rotate_left; assumption)))); done)))).2.2.2.cell; have k5 := (HBX.out w18 (hE116.trans (by (with_reducible show Ext _ _; (with_reducible (repeat (first | exact Ext.refl _ | assumption | apply Ext.alloc | apply Ext.drew | exact ext_plus _ _ | (apply Ext.setCell; rotate_left; (simp <;> omega)) | (apply Ext.trans; rotate_left; exact ext_plus _ _) | (apply Ext.trans; rotate_left; assumption)))); done)))).2.2.2.lt) | (go_at_call 15; refine (HGO.out _ (by (with_reducible (repeat (first | exact Ext.refl _ | assumption | apply Ext.alloc | apply Ext.drew | exact ext_plus _ _ | (apply Ext.setCell; rotate_left; (simp <;> omega)) | (apply Ext.trans; rotate_left; exact ext_plus _ _) | (apply Ext.trans; rotate_left; assumption)))))).mono ?_; rintro e w19 ⟨rfl, hE19⟩; (try clear k0 k1 k2 k3 k4 k5); have k0 := (hQ16.ext (show Ext w16 w19 by (with_reducible show Ext _ _; (with_reducible (repeat (first | exact Ext.refl _ | assumption | apply Ext.alloc | apply Ext.drew | exact ext_plus _ _ | (apply Ext.setCell; rotate_left; (simp <;> omega)) | (apply Ext.trans; rotate_left; exact ext_plus _ _) | (apply Ext.trans; rotate_left; assumption)))); done))).cell; have k1 := (hQ16.ext (show Ext w16 w19 by (with_reducible show Ext _ _; (with_reducible (repeat (first | exact Ext.refl _ | assumption | apply Ext.alloc | apply Ext.drew | exact ext_plus _ _ | (apply Ext.setCell; rotate_left; (simp <;> omega)) | (apply Ext.trans; rotate_left; exact ext_plus _ _) | (apply Ext.trans; rotate_left; assumption)))); done))).lt; have k2 := (hV16.ext (show Ext w16 w19 by (with_reducible show Ext _ _; (with_reducible (repeat (first | exact Ext.refl _ | assumption | apply Ext.alloc | apply Ext.drew | exact ext_plus _ _ | (apply Ext.setCell; rotate_left; (simp <;> omega)) | (apply Ext.trans; rotate_left; exact ext_plus _ _) | (apply Ext.trans; rotate_left; assumption)))); done))).cell; have k3 := (hV16.ext (show Ext w16 w19 by (with_reducible show Ext _ _; (with_reducible (repeat (first | exact Ext.refl _ | assumption | apply Ext.alloc | apply Ext.drew | exact ext_plus _ _ | (apply Ext.setCell; rotate_left; (simp <;> omega)) | (apply Ext.trans; rotate_left; exact ext_plus _ _) | (apply Ext.trans; rotate_left; assumption)))); done))).lt; have k4 := (HBX.out w19 (hE116.trans (by (with_reducible show Ext _ _; (with_reducible (repeat (first | exact Ext.refl _ | assumption | apply Ext.alloc | apply Ext.drew | exact ext_plus _ _ | (apply Ext.setCell; rotate_left; (simp <;> omega)) | (apply Ext.trans; rotate_left; exact ext_plus _ _) | (apply Ext.trans; rotate_left; assumption)))); done)))).2.2.2.cell; have k5 := (HBX.out w19 (hE116.trans (by (with_reducible show Ext _ _; (with_reducible (repeat (first | exact Ext.refl _ | assumption | apply Ext.alloc | apply Ext.drew | exact ext_plus _ _ | (apply Ext.setCell; rotate_left; (simp <;> omega)) | (apply Ext.trans; rotate_left; exact ext_plus _ _) | (apply Ext.trans; rotate_left; assumption)))); done)))).2.2.2.lt) | (go_at_call 16; refine (Sh.has_any La _ _ _ (HI1.out.ext (by (with_reducible (repeat (first | exact Ext.refl _ | assumption | apply Ext.alloc | apply Ext.drew | exact ext_plus _ _ | (apply Ext.setCell; rotate_left; (simp <;> omega)) | (apply Ext.trans; rotate_left; exact ext_plus _ _) | (apply Ext.trans; rotate_left; assumption)))))) (by omega)).mono ?_; rintro e w20 ⟨rfl, hE20⟩; have hin := HIN.out; (try clear k0 k1 k2 k3 k4 k5); have k0 := (hQ16.ext (show Ext w16 w20 by (with_reducible show Ext _ _; (with_reducible (repeat (first | exact Ext.refl _ | assumption | apply Ext.alloc | apply Ext.drew | exact ext_plus _ _ | (apply Ext.setCell; rotate_left; (simp <;> omega)) | (apply Ext.trans; rotate_left; exact ext_plus _ _) | (apply Ext.trans; rotate_left; assumption)))); done))).cell; have k1 := (hQ16.ext (show Ext w16 w20 by (with_reducible show Ext _ _; (with_reducible (repeat (first | exact Ext.refl _ | assumption | apply Ext.alloc | apply Ext.drew | exact ext_plus _ _ | (apply Ext.setCell; rotate_left; (simp <;> omega)) | (apply Ext.trans; rotate_left; exact ext_plus _ _) | (apply Ext.trans; rotate_left; assumption)))); done))).lt; have k2 := (hV16.ext (show Ext w16 w20 by (with_reducible show Ext _ _; (with_reducible (repeat (first | exact Ext.refl _ | assumption | apply Ext.alloc | apply Ext.drew | exact ext_plus _ _ | (apply Ext.setCell; rotate_left; (simp <;> omega)) | (apply Ext.trans; rotate_left; exact ext_plus _ _) | (apply Ext.trans; rotate_left; assumption)))); done))).cell; have k3 := (hV16.ext (show Ext w16 w20 by (with_reducible show Ext _ _; (with_reducible (repeat (first | exact Ext.refl _ | assumption | apply Ext.alloc | apply Ext.drew | exact ext_plus _ _ | (apply Ext.setCell; rotate_left; (simp <;> omega)) | (apply Ext.trans; rotate_left; exact ext_plus _ _) | (apply Ext.trans; rotate_left; assumption)))); done))).lt; have k4 := (HBX.out w20 (hE116.trans (by (with_reducible show Ext _ _; (with_reducible (repeat (first | exact Ext.refl _ | assumption | apply Ext.alloc | apply Ext.drew | exact ext_plus _ _ | (apply Ext.setCell; rotate_left; (simp <;> omega)) | (apply Ext.trans; rotate_left; exact ext_plus _ _) | (apply Ext.trans; rotate_left; assumption)))); done)))).2.2.2.cell; have k5 := (HBX.out w20 (hE116.trans (by (with_reducible show Ext _ _; (with_reducible (repeat (first | exact Ext.refl _ | assumption | apply Ext.alloc | apply Ext.drew | exact ext_plus _ _ | (apply Ext.setCell; rotate_left; (simp <;> omega)) | (apply Ext.trans; rotate_left; exact ext_plus _ _) | (apply Ext.trans; rotate_left; assumption)))); done)))).2.2.2.lt) | (go_at_call 12; refine (known11_any _).mono ?_; rintro e wk ⟨rfl, hbk⟩))
      go_ret
      exact ⟨rfl, by (with_reducible (repeat (first | exact Ext.refl _ | assumption | apply Ext.alloc | apply Ext.drew | exact ext_plus _ _ | (apply Ext.setCell; rotate_left; (simp <;> omega)) | (apply Ext.trans; rotate_left; exact ext_plus _ _) | (apply Ext.trans; rotate_left; assumption))))⟩
set_option maxRecDepth 1000000 in
set_option maxHeartbeats 64000000 in
theorem sto_tail2 {u11 u12 u13 u15 u16 u17 u18 u19 u20 u21 u22 u23 u24 u25 u26 u27 u28 u29 u30 u31 u32 u33 u34 u35 u36 u37 u38 u39 u40 u41 u42 u43 u44 u45 u46 u47 u48 u49 u50 u51 u52 u53 u54 u55 u56 u57 u58 u59 u60 u61 u62 u63 u64 u65 u66 u67 u68 u69 u70 u71 u72 u73 u74 u75 u76 u77 u78 u79 u80 u81 u82 u83 u84 u85 u86 u87 u88 u89 u90 u91 u92 u93 u94 u95 u96 u97 u98 u99 u100 u101 u102 u103 u104 u105 u106 u107 u108 u109 u110 u111 u112 u113 u114 u115 u116 u117 u118 u119 u120 u121 u122 u123 u124 u125 u126 u127 u128 u129 u130 u131 u132 u133 u134 u135 u136 u137 u138 u139 u140 u141 u142 u143 u144 u145 u146 u147 u148 u149 u150 u151 u152 u153 u154 u155 u156 u157 u158 u159 u160 u161 u162 u163 u164 u165 u166 u167 u168 u169 u170 u171 u172 u173 u174 u175 u176 u177 u178 u179 u180 u181 u182 u183 u184 u185 u186 u187 u188 u189 u190 u191 u192 u193 u194 u195 u196 u197 u198 u199 u200 u201 u202 u203 u204 u205 u206 u207 u208 u209 u210 u211 u212 u213 u214 u215 u216 u217 u218 u219 u220 u221 u222 u223 u224 u225 u226 u227 u228 u229 u230 u231 u232 u233 u234 u235 u236 u237 : Value} {s : Wl.W.Shore} {c : Wl.W.Storm} {p : Sh.Pass} {d h wind fetch loss : Int} {w w1 : World} {n0 c1 c2 c3 c4 : Nat} {a1 a2 a3 a4 : Option Addr} (w5 : World) (HC : Hid (∀ W, Ext w W → Wl.Cells W (.slice a1 s.cells.length c1) s.cells)) (HW : Hid (∀ W, Ext w W → Wl.Works W (.slice a2 s.works.length c2) s.works)) (HT : Hid (∀ W, Ext w W → Ints W (.slice a3 p.tides.length c3) p.tides)) (HS : Hid (∀ W, Ext w W → Sh.Spans W (.slice a4 p.swell.length c4) p.swell)) (HBX : Hid (∀ y, Ext w1 y → Blk y n0 #[.slice a1 s.cells.length c1, .slice a2 s.works.length c2, .int .i64 s.reef, .int .i64 s.ll, .int .i64 s.lh] 27 ∧ Blk y (n0 + 1) #[.int .i64 c.wl, .int .i64 c.wh, .int .i64 c.fl, .int .i64 c.fh, .int .i64 c.tl, .int .i64 c.th] 29 ∧ Blk y (n0 + 1 + 1) #[.slice a3 p.tides.length c3, .int .i64 p.depth, .int .i64 p.draft, .slice a4 p.swell.length c4, .int .i64 p.ll, .int .i64 p.lh] 33 ∧ Blk y (n0 + 1 + 1 + 1) #[.int .i64 d, .int .i64 h] 35)) (hE1 : Ext w1 w5) (hE : Ext w w5) (hs : Wl.W.shoreB s = true) (hc : Wl.W.stormB c = true) (hp : Sh.passB p = true) (hd : Sh.callB p d h = true) (hw : c.wl ≤ wind ∧ wind ≤ c.wh) (hf : c.fl ≤ fetch ∧ fetch ≤ c.fh) (hl : s.ll ≤ loss ∧ loss ≤ s.lh) (hn : w.heap.size ≤ n0) :
    Code.wp Tryz.prog (stoT 2) (bodyPost Tryz.prog Tryz.f3 (fun e w' => e = .returned (.bool true) ∧ Ext w w')) ⟨List.toArray (.agg #[.slice a1 s.cells.length c1, .slice a2 s.works.length c2, .int .i64 s.reef, .int .i64 s.ll, .int .i64 s.lh] :: .agg #[.int .i64 c.wl, .int .i64 c.wh, .int .i64 c.fl, .int .i64 c.fh, .int .i64 c.tl, .int .i64 c.th] :: .agg #[.slice a3 p.tides.length c3, .int .i64 p.depth, .int .i64 p.draft, .slice a4 p.swell.length c4, .int .i64 p.ll, .int .i64 p.lh] :: .agg #[.int .i64 d, .int .i64 h] :: .int .i64 wind :: .int .i64 fetch :: .int .i64 loss :: .pointer (some ⟨n0, 0, none⟩) :: .pointer (some ⟨n0 + 1, 0, none⟩) :: .pointer (some ⟨n0 + 1 + 1, 0, none⟩) :: .pointer (some ⟨n0 + 1 + 1 + 1, 0, none⟩) :: u11 :: u12 :: u13 :: .bool false :: u15 :: u16 :: u17 :: u18 :: u19 :: u20 :: u21 :: u22 :: u23 :: u24 :: u25 :: u26 :: u27 :: u28 :: u29 :: u30 :: u31 :: u32 :: u33 :: u34 :: u35 :: u36 :: u37 :: u38 :: u39 :: u40 :: u41 :: u42 :: u43 :: u44 :: u45 :: u46 :: u47 :: u48 :: u49 :: u50 :: u51 :: u52 :: u53 :: u54 :: u55 :: u56 :: u57 :: u58 :: u59 :: u60 :: u61 :: u62 :: u63 :: u64 :: u65 :: u66 :: u67 :: u68 :: u69 :: u70 :: u71 :: u72 :: u73 :: u74 :: u75 :: u76 :: u77 :: u78 :: u79 :: u80 :: u81 :: u82 :: u83 :: u84 :: u85 :: u86 :: u87 :: u88 :: u89 :: u90 :: u91 :: u92 :: u93 :: u94 :: u95 :: u96 :: u97 :: u98 :: u99 :: u100 :: u101 :: u102 :: u103 :: u104 :: u105 :: u106 :: u107 :: u108 :: u109 :: u110 :: u111 :: u112 :: u113 :: u114 :: u115 :: u116 :: u117 :: u118 :: u119 :: u120 :: u121 :: u122 :: u123 :: u124 :: u125 :: u126 :: u127 :: u128 :: u129 :: u130 :: u131 :: u132 :: u133 :: u134 :: u135 :: u136 :: u137 :: u138 :: u139 :: u140 :: u141 :: u142 :: u143 :: u144 :: u145 :: u146 :: u147 :: u148 :: u149 :: u150 :: u151 :: u152 :: u153 :: u154 :: u155 :: u156 :: u157 :: u158 :: u159 :: u160 :: u161 :: u162 :: u163 :: u164 :: u165 :: u166 :: u167 :: u168 :: u169 :: u170 :: u171 :: u172 :: u173 :: u174 :: u175 :: u176 :: u177 :: u178 :: u179 :: u180 :: u181 :: u182 :: u183 :: u184 :: u185 :: u186 :: u187 :: u188 :: u189 :: u190 :: u191 :: u192 :: u193 :: u194 :: u195 :: u196 :: u197 :: u198 :: u199 :: u200 :: u201 :: u202 :: u203 :: u204 :: u205 :: u206 :: u207 :: u208 :: u209 :: u210 :: u211 :: u212 :: u213 :: u214 :: u215 :: u216 :: u217 :: u218 :: u219 :: u220 :: u221 :: u222 :: u223 :: u224 :: u225 :: u226 :: u227 :: u228 :: u229 :: u230 :: u231 :: u232 :: u233 :: u234 :: u235 :: u236 :: u237 :: []), []⟩ w5 := by
  unfold stoT
  conv => arg 2; whnf
  obtain ⟨lo, hi, V, hl1, hl2, hlv, hvh, ho1, ho2, hn1, hn2⟩ := storm_levels hs hc hw hf hl
  have hlv1 := fun W hE => Wl.levelQ_any s ⟨c.wl, c.wh, c.fl, c.fh, 0, 0⟩ (.slice a1 s.cells.length c1) (.slice a2 s.works.length c2) W (HC.out W hE) (HW.out W hE) hn1 hn2
  have hlv2 := fun W hE => Wl.levelQ_any ⟨s.cells, s.works, s.reef, loss, loss⟩ ⟨wind, wind, fetch, fetch, 0, 0⟩ (.slice a1 s.cells.length c1) (.slice a2 s.works.length c2) W (HC.out W hE) (HW.out W hE) hn1 hn2
  simp only [hl1, ho1] at hlv1
  simp only [hl2, ho2] at hlv2
  have HL1 := Lib.hid (show ∀ W, Ext w W → Calls Tryz.prog 13 #[.agg #[.slice a1 s.cells.length c1, .slice a2 s.works.length c2, .int .i64 s.reef, .int .i64 s.ll, .int .i64 s.lh], .agg #[.int .i64 c.wl, .int .i64 c.wh, .int .i64 c.fl, .int .i64 c.fh, .int .i64 0, .int .i64 0]] W fun e w' => e = .returned (.tuple #[.agg #[.int .i64 lo, .int .i64 hi], .int .i64 0]) ∧ Ext W w' from hlv1)
  have HL2 := Lib.hid (show ∀ W, Ext w W → Calls Tryz.prog 13 #[.agg #[.slice a1 s.cells.length c1, .slice a2 s.works.length c2, .int .i64 s.reef, .int .i64 loss, .int .i64 loss], .agg #[.int .i64 wind, .int .i64 wind, .int .i64 fetch, .int .i64 fetch, .int .i64 0, .int .i64 0]] W fun e w' => e = .returned (.tuple #[.agg #[.int .i64 V, .int .i64 V], .int .i64 0]) ∧ Ext W w' from hlv2)
  have HLV := Lib.hid hlv
  have HVH := Lib.hid hvh
  clear hl1 hl2 hlv hvh ho1 ho2 hn1 hn2 hlv1 hlv2 hs hc hw hf hl
  obtain ⟨k0, k2, k4, k6⟩ := HBX.out w5 hE1
  have k1 := k0.lt
  have k3 := k2.lt
  replace k0 := k0.cell
  replace k2 := k2.cell
  clear k4 k6
  go_upto_region 5 with (fail)
  obtain ⟨bs, hbs⟩ : ∃ n, w5.heap.size = n := ⟨_, rfl⟩
  obtain ⟨w6, hw6⟩ : ∃ y, w5.alloc (.cells #[.int .i64 c.wl, .int .i64 c.wh, .int .i64 c.fl, .int .i64 c.fh, .int .i64 0, .int .i64 0] 29) = y := ⟨_, rfl⟩
  have hE56 : Ext w5 w6 := by rw [← hw6]; (with_reducible (repeat (first | exact Ext.refl _ | assumption | apply Ext.alloc | apply Ext.drew | exact ext_plus _ _ | (apply Ext.setCell; rotate_left; (simp <;> omega)) | (apply Ext.trans; rotate_left; exact ext_plus _ _) | (apply Ext.trans; rotate_left; assumption))))
  have hD6 : Blk w6 bs #[.int .i64 c.wl, .int .i64 c.wh, .int .i64 c.fl, .int .i64 c.fh, .int .i64 0, .int .i64 0] 29 := by rw [← hw6]; exact Blk.new' hbs.symm _ _
  have hnb : n0 < bs := by omega
  simp only [hbs, hw6]
  clear hbs hw6 k0 k1 k2 k3
  have hE16 := hE1.trans hE56
  have hE6 := hE.trans hE56
  have b6 := (HBX.out w6 hE16).1
  have k0 := b6.cell
  have k1 := b6.lt
  have k2 := hD6.cell
  have k3 := hD6.lt
  go_upto_region 6 with (first | (go_at_call 13; refine (HL1.out _ hE6).mono ?_; rintro e w7 ⟨rfl, hE7⟩))
  obtain ⟨bl, hbl⟩ : ∃ n, w7.heap.size = n := ⟨_, rfl⟩
  obtain ⟨w8, hw8⟩ : ∃ y, w7.alloc (.cells #[.int .i64 lo, .int .i64 hi] 25) = y := ⟨_, rfl⟩
  have hE68 : Ext w6 w8 := by rw [← hw8]; (with_reducible (repeat (first | exact Ext.refl _ | assumption | apply Ext.alloc | apply Ext.drew | exact ext_plus _ _ | (apply Ext.setCell; rotate_left; (simp <;> omega)) | (apply Ext.trans; rotate_left; exact ext_plus _ _) | (apply Ext.trans; rotate_left; assumption))))
  have hL8 : Blk w8 bl #[.int .i64 lo, .int .i64 hi] 25 := by rw [← hw8]; exact Blk.new' hbl.symm _ _
  have hnl : n0 < bl := by have := hE7.size; omega
  simp only [hbl, hw8]
  have b8 := b6.ext hE68
  have hD8 := hD6.ext hE68
  have hE18 := hE16.trans hE68
  have hE8 := hE6.trans hE68
  clear hbl hw8 k0 k1 k2 k3 hE7 hE68 b6 hD6 HL1
  go_cut [18, 19] from 123 to 124 (fun s18 s19 wc => ∃ bx bz, s18 = .pointer (some ⟨bx, 0, none⟩) ∧ s19 = .pointer (some ⟨bz, 0, none⟩) ∧ bx ≠ bz ∧ w8.heap.size ≤ bx ∧ w8.heap.size ≤ bz ∧ Blk wc bx #[.slice a1 s.cells.length c1, .slice a2 s.works.length c2, .int .i64 s.reef, .int .i64 s.ll, .int .i64 s.lh] 27 ∧ Blk wc bz #[.int .i64 c.wl, .int .i64 c.wh, .int .i64 c.fl, .int .i64 c.fh, .int .i64 0, .int .i64 0] 29 ∧ Ext w8 wc)
  case first =>
    go_region_held3 (fun y => (∀ o, y.cell? ⟨n0, o, none⟩ = (#[.slice a1 s.cells.length c1, .slice a2 s.works.length c2, .int .i64 s.reef, .int .i64 s.ll, .int .i64 s.lh] : Array Value)[o]?) ∧ (∀ o, y.cell? ⟨bs, o, none⟩ = (#[.int .i64 c.wl, .int .i64 c.wh, .int .i64 c.fl, .int .i64 c.fh, .int .i64 0, .int .i64 0] : Array Value)[o]?) ∧ Ext w8 y)
      (first | (refine ⟨(b8.ext ?_).cell, (hD8.ext ?_).cell, ?_⟩ <;> (with_reducible show Ext _ _; (with_reducible (repeat (first | exact Ext.refl _ | assumption | apply Ext.alloc | apply Ext.drew | exact ext_plus _ _ | (apply Ext.setCell; rotate_left; (simp <;> omega)) | (apply Ext.trans; rotate_left; exact ext_plus _ _) | (apply Ext.trans; rotate_left; assumption)))); done)))
      (fail)
    all_goals (dsimp only [Exit.then]; go_wp2; go_meet)
    · exact ⟨_, _, rfl, rfl, by omega, by omega, by omega, (Blk.new' rfl _ _).alloc _, Blk.new' (by simp) _ _, by (with_reducible (repeat (first | exact Ext.refl _ | assumption | apply Ext.alloc | apply Ext.drew | exact ext_plus _ _ | (apply Ext.setCell; rotate_left; (simp <;> omega)) | (apply Ext.trans; rotate_left; exact ext_plus _ _) | (apply Ext.trans; rotate_left; assumption))))⟩
    · exact ⟨_, _, rfl, rfl, by omega, by omega, by omega, Blk.new' (by simp) _ _, (Blk.new' rfl _ _).alloc _, by (with_reducible (repeat (first | exact Ext.refl _ | assumption | apply Ext.alloc | apply Ext.drew | exact ext_plus _ _ | (apply Ext.setCell; rotate_left; (simp <;> omega)) | (apply Ext.trans; rotate_left; exact ext_plus _ _) | (apply Ext.trans; rotate_left; assumption))))⟩
  case rest =>
    obtain ⟨bx, bz, rfl, rfl, hxz, hbx, hbz, hX, hZ, hEc⟩ := hcut
    rename World => w9
    have hL9 := hL8.ext hEc
    have hE19 := hE18.trans hEc
    have hE9 := hE8.trans hEc
    have hnx : n0 < bx := by have := b8.lt; omega
    have hnz : n0 < bz := by have := b8.lt; omega
    have hlx : bl ≠ bx := by have := hL8.lt; omega
    have hlz : bl ≠ bz := by have := hL8.lt; omega
    have hlb1 := hL8.lt
    have x1 : w1.heap.size ≤ bx := Nat.le_trans hE18.size hbx
    have x2 : w1.heap.size ≤ bz := Nat.le_trans hE18.size hbz
    clear hbx hbz b8 hD8 hL8 hEc hE18 hE8
    have k0 := hX.cell
    have k1 := hX.lt
    have k2 := hX.free
    have k3 := hZ.cell
    have k4 := hZ.lt
    have k5 := hZ.free
    have x3 : ¬ bz = bx := fun e => hxz e.symm
    go_upto_region 8 with (fail)
    obtain ⟨w10, hw10⟩ : ∃ y, ((((((w9.setCell ⟨bx, 3, none⟩ (.int .i64 loss)).setCell ⟨bx, 4, none⟩ (.int .i64 loss)).setCell ⟨bz, 0, none⟩ (.int .i64 wind)).setCell ⟨bz, 1, none⟩ (.int .i64 wind)).setCell ⟨bz, 2, none⟩ (.int .i64 fetch)).setCell ⟨bz, 3, none⟩ (.int .i64 fetch)) = y := ⟨_, rfl⟩
    have hX10 : Blk w10 bx #[.slice a1 s.cells.length c1, .slice a2 s.works.length c2, .int .i64 s.reef, .int .i64 loss, .int .i64 loss] 27 := by rw [← hw10]; have := (((((hX.set 3 (.int .i64 loss)).set 4 (.int .i64 loss)).other (a := ⟨bz, 0, none⟩) x3 (.int .i64 wind)).other (a := ⟨bz, 1, none⟩) x3 (.int .i64 wind)).other (a := ⟨bz, 2, none⟩) x3 (.int .i64 fetch)).other (a := ⟨bz, 3, none⟩) x3 (.int .i64 fetch); simpa using this
    have hZ10 : Blk w10 bz #[.int .i64 wind, .int .i64 wind, .int .i64 fetch, .int .i64 fetch, .int .i64 0, .int .i64 0] 29 := by rw [← hw10]; have := (((((hZ.other (a := ⟨bx, 3, none⟩) hxz (.int .i64 loss)).other (a := ⟨bx, 4, none⟩) hxz (.int .i64 loss)).set 0 (.int .i64 wind)).set 1 (.int .i64 wind)).set 2 (.int .i64 fetch)).set 3 (.int .i64 fetch); simpa using this
    have six : ∀ {W : World}, Ext W w9 → W.heap.size ≤ bx → W.heap.size ≤ bz → Ext W w10 := fun {W} hh h1 h2 => by rw [← hw10]; exact (((((hh.setCell (p := ⟨bx, 3, none⟩) h1 _).setCell (p := ⟨bx, 4, none⟩) h1 _).setCell (p := ⟨bz, 0, none⟩) h2 _).setCell (p := ⟨bz, 1, none⟩) h2 _).setCell (p := ⟨bz, 2, none⟩) h2 _).setCell (p := ⟨bz, 3, none⟩) h2 _
    have hE110 : Ext w1 w10 := six hE19 x1 x2
    have hE10 : Ext w w10 := six hE9 (by omega) (by omega)
    have hL10 : Blk w10 bl #[.int .i64 lo, .int .i64 hi] 25 := by rw [← hw10]; exact (((((hL9.other (a := ⟨bx, 3, none⟩) (Ne.symm hlx) _).other (a := ⟨bx, 4, none⟩) (Ne.symm hlx) _).other (a := ⟨bz, 0, none⟩) (Ne.symm hlz) _).other (a := ⟨bz, 1, none⟩) (Ne.symm hlz) _).other (a := ⟨bz, 2, none⟩) (Ne.symm hlz) _).other (a := ⟨bz, 3, none⟩) (Ne.symm hlz) _
    rw [hw10]
    clear hw10 six k0 k1 k2 k3 k4 k5 hX hZ hL9 hE19 hE9
    have k0 := hX10.cell
    have k1 := hX10.lt
    have k2 := hZ10.cell
    have k3 := hZ10.lt
    go_upto_region 9 with (first | (go_at_call 13; refine (HL2.out _ hE10).mono ?_; rintro e w11 ⟨rfl, hE11⟩))
    obtain ⟨bv, hbv⟩ : ∃ n, w11.heap.size = n := ⟨_, rfl⟩
    obtain ⟨w12, hw12⟩ : ∃ y, w11.alloc (.cells #[.int .i64 V, .int .i64 V] 25) = y := ⟨_, rfl⟩
    have hEb : Ext w10 w12 := by rw [← hw12]; (with_reducible (repeat (first | exact Ext.refl _ | assumption | apply Ext.alloc | apply Ext.drew | exact ext_plus _ _ | (apply Ext.setCell; rotate_left; (simp <;> omega)) | (apply Ext.trans; rotate_left; exact ext_plus _ _) | (apply Ext.trans; rotate_left; assumption))))
    have hV12 : Blk w12 bv #[.int .i64 V, .int .i64 V] 25 := by rw [← hw12]; exact Blk.new' hbv.symm _ _
    simp only [hbv, hw12]
    have hL12 := hL10.ext hEb
    have hE112 := hE110.trans hEb
    have hE12 := hE10.trans hEb
    clear hbv hw12 k0 k1 k2 k3 hX10 hZ10 hE11 hEb hL10 hE110 hE10 HL2
    have k0 := hL12.cell
    have k1 := hL12.lt
    have k2 := hV12.cell
    have k3 := hV12.lt
    have g1 : ¬ V < lo := by have := HLV.out; omega
    have g2 : ¬ hi < V := by have := HVH.out; omega
    go_upto_if 169 with (fail)
    rename Act → World → Prop => KK
    rename ∀ _ _, _ → KK _ _ => hKK
    have HKK := Lib.hid hKK
    clear hKK
    go_wp2
    exact HKK.out _ _ (sto_tail9 w12 HT HS HBX hE112 hE12 hL12 hV12 HLV.out HVH.out hp hd hn)
end Go.Proofs.YtgloajbgphcloaaGreat
