/- ReefMore: the loop over the places and the copies. -/
import Derived.Test.YthffoglpekpmdaaL11b
namespace Go.Proofs.Ythffoglpekpmdaa
set_option linter.unusedVariables false
set_option linter.unusedSimpArgs false
open Go.RowKit

set_option maxRecDepth 1000000 in
set_option maxHeartbeats 32000000 in
theorem moreTail6 {u8 u9 u10 u11 u12 u13 u16 u17 u20 u21 u22 u23 u24 u25 u26 u27 u28 u29 u30 u31 u32 u33 u34 u35 u36 u37 u38 u39 u40 u41 u42 u43 u44 u45 u46 u47 u48 u49 u50 u51 u52 u53 u54 u55 u56 u57 u58 u59 u60 u61 u62 u63 u64 u65 u66 u67 u68 u69 u70 u71 u72 u73 u74 u75 u76 u77 u78 u79 u80 u81 u82 u83 u84 u85 u86 u87 u88 u89 u90 u91 u92 u93 u94 u95 u96 u97 u98 u99 u100 u101 u102 u103 u104 u105 u106 u107 u108 u109 u110 u111 u112 u113 u114 u115 u116 u117 u118 u119 u120 u121 u122 u123 u124 u125 u126 u127 u128 u129 u130 u131 u132 u133 u134 u135 u136 u137 u138 u139 u140 u141 u142 u143 u144 u145 u146 u147 u148 u149 u150 u151 u152 u153 u154 u155 u156 u157 u158 u159 u160 u161 u162 u163 u164 u165 u166 u167 u168 u169 u170 u171 u172 u173 u174 u175 u176 u177 u178 u179 u180 u181 u182 u183 u184 u185 u186 u187 u188 u189 u190 u191 u192 u193 u194 u195 u196 u197 u198 u199 u200 u201 u202 u203 u204 u205 u206 u207 u208 u209 u210 u211 u212 u213 u214 u215 u216 u217 u218 u219 u220 u221 u222 u223 u224 u225 u226 u227 u228 u229 u230 u231 u232 u233 u234 u235 u236 u237 u238 u239 u240 u241 u242 u243 u244 u245 u246 u247 u248 u249 u250 u251 u252 u253 u254 u255 u256 u257 u258 u259 u260 u261 u262 u263 u264 u265 u266 u267 u268 u269 u270 u271 u272 u273 u274 u275 u276 u277 u278 u279 u280 u281 u282 u283 u284 u285 u286 u287 u288 u289 u290 u291 u292 u293 u294 u295 u296 u297 u298 u299 u300 u301 u302 u303 u304 u305 u306 u307 u308 u309 u310 u311 u312 u313 u314 u315 u316 u317 u318 u319 u320 u321 u322 u323 u324 u325 u326 u327 u328 u329 u330 u331 u332 u333 u334 u335 u336 u337 u338 u339 u340 u341 u342 u343 u344 u345 u346 u347 u348 u349 u350 u351 u352 u353 u354 u355 u356 u357 u358 u359 u360 u361 u362 u363 u364 u365 u366 u367 u368 u369 u370 u371 u372 u373 u374 u375 : Value} (r : R.Reef) (plan M : List Int) (w w1 : World) (a1 a2 : Option Addr) (c1 c2 cap g s k : Nat) (low high faster : Int) (hP : Places w (.slice a1 r.places.length c1) r.places) (hL : Ints w (.slice a2 plan.length c2) plan)
    (hA : rightB r plan = true) (hAM : rightB r M = true) (hE1 : Ext w w1) (hb0 : Blk w1 w.heap.size (reefV r (.slice a1 r.places.length c1)) 24) (hs : s < plan.length) (hk : k < r.places.length) (hl0 : 0 ≤ low) (hl1 : low ≤ high) (hl2 : high ≤ 100) (hf0 : 0 ≤ faster) (hf1 : faster ≤ 2000) (hMM : M = R.moreL plan s k) (w7 : World) (A B gA gB cA cB : Nat) (hE17 : Ext w1 w7) (hM : IRow w7 g M) (hBA : Blk w7 A (reefV r (.slice (some ⟨gA, 0, none⟩) r.places.length cA)) 24) (hBB : Blk w7 B (reefV r (.slice (some ⟨gB, 0, none⟩) r.places.length cB)) 24) (hrA : RowB placeC 12 46 w7 gA r.places) (hrB : RowB placeC 12 46 w7 gB r.places) (hn1 : w1.heap.size ≤ g) (hn2 : w1.heap.size ≤ A) (hn3 : w1.heap.size ≤ B) (hn4 : w1.heap.size ≤ gA) (hn5 : w1.heap.size ≤ gB) (hd1 : g ≠ gA) (hd2 : g ≠ gB) (hd3 : A ≠ gA) (hd4 : A ≠ gB) (hd5 : B ≠ gA) (hd6 : B ≠ gB) (hd7 : gA ≠ gB) :
    Code.wp Try.prog (moreTail 6) (bodyPost Try.prog Try.f11 (fun e w' => e = .returned (.bool true) ∧ Ext w w')) ⟨List.toArray (.agg (reefV r (.slice a1 r.places.length c1)) :: .slice a2 plan.length c2 :: .int .i64 s :: .int .i64 k :: .int .i64 low :: .int .i64 high :: .int .i64 faster :: .pointer (some ⟨w.heap.size, 0, none⟩) :: u8 :: u9 :: u10 :: u11 :: u12 :: u13 :: .bool false :: .slice (some ⟨g, 0, none⟩) plan.length cap :: u16 :: u17 :: .pointer (some ⟨A, 0, none⟩) :: .pointer (some ⟨B, 0, none⟩) :: u20 :: u21 :: u22 :: u23 :: u24 :: u25 :: u26 :: u27 :: u28 :: u29 :: u30 :: u31 :: u32 :: u33 :: u34 :: u35 :: u36 :: u37 :: u38 :: u39 :: u40 :: u41 :: u42 :: u43 :: u44 :: u45 :: u46 :: u47 :: u48 :: u49 :: u50 :: u51 :: u52 :: u53 :: u54 :: u55 :: u56 :: u57 :: u58 :: u59 :: u60 :: u61 :: u62 :: u63 :: u64 :: u65 :: u66 :: u67 :: u68 :: u69 :: u70 :: u71 :: u72 :: u73 :: u74 :: u75 :: u76 :: u77 :: u78 :: u79 :: u80 :: u81 :: u82 :: u83 :: u84 :: u85 :: u86 :: u87 :: u88 :: u89 :: u90 :: u91 :: u92 :: u93 :: u94 :: u95 :: u96 :: u97 :: u98 :: u99 :: u100 :: u101 :: u102 :: u103 :: u104 :: u105 :: u106 :: u107 :: u108 :: u109 :: u110 :: u111 :: u112 :: u113 :: u114 :: u115 :: u116 :: u117 :: u118 :: u119 :: u120 :: u121 :: u122 :: u123 :: u124 :: u125 :: u126 :: u127 :: u128 :: u129 :: u130 :: u131 :: u132 :: u133 :: u134 :: u135 :: u136 :: u137 :: u138 :: u139 :: u140 :: u141 :: u142 :: u143 :: u144 :: u145 :: u146 :: u147 :: u148 :: u149 :: u150 :: u151 :: u152 :: u153 :: u154 :: u155 :: u156 :: u157 :: u158 :: u159 :: u160 :: u161 :: u162 :: u163 :: u164 :: u165 :: u166 :: u167 :: u168 :: u169 :: u170 :: u171 :: u172 :: u173 :: u174 :: u175 :: u176 :: u177 :: u178 :: u179 :: u180 :: u181 :: u182 :: u183 :: u184 :: u185 :: u186 :: u187 :: u188 :: u189 :: u190 :: u191 :: u192 :: u193 :: u194 :: u195 :: u196 :: u197 :: u198 :: u199 :: u200 :: u201 :: u202 :: u203 :: u204 :: u205 :: u206 :: u207 :: u208 :: u209 :: u210 :: u211 :: u212 :: u213 :: u214 :: u215 :: u216 :: u217 :: u218 :: u219 :: u220 :: u221 :: u222 :: u223 :: u224 :: u225 :: u226 :: u227 :: u228 :: u229 :: u230 :: u231 :: u232 :: u233 :: u234 :: u235 :: u236 :: u237 :: u238 :: u239 :: u240 :: u241 :: u242 :: u243 :: u244 :: u245 :: u246 :: u247 :: u248 :: u249 :: u250 :: u251 :: u252 :: u253 :: u254 :: u255 :: u256 :: u257 :: u258 :: u259 :: u260 :: u261 :: u262 :: u263 :: u264 :: u265 :: u266 :: u267 :: u268 :: u269 :: u270 :: u271 :: u272 :: u273 :: u274 :: u275 :: u276 :: u277 :: u278 :: u279 :: u280 :: u281 :: u282 :: u283 :: u284 :: u285 :: u286 :: u287 :: u288 :: u289 :: u290 :: u291 :: u292 :: u293 :: u294 :: u295 :: u296 :: u297 :: u298 :: u299 :: u300 :: u301 :: u302 :: u303 :: u304 :: u305 :: u306 :: u307 :: u308 :: u309 :: u310 :: u311 :: u312 :: u313 :: u314 :: u315 :: u316 :: u317 :: u318 :: u319 :: u320 :: u321 :: u322 :: u323 :: u324 :: u325 :: u326 :: u327 :: u328 :: u329 :: u330 :: u331 :: u332 :: u333 :: u334 :: u335 :: u336 :: u337 :: u338 :: u339 :: u340 :: u341 :: u342 :: u343 :: u344 :: u345 :: u346 :: u347 :: u348 :: u349 :: u350 :: u351 :: u352 :: u353 :: u354 :: u355 :: u356 :: u357 :: u358 :: u359 :: u360 :: u361 :: u362 :: u363 :: u364 :: u365 :: u366 :: u367 :: u368 :: u369 :: u370 :: u371 :: u372 :: u373 :: u374 :: u375 :: []), []⟩ w7 := by
  unfold moreTail
  conv => arg 2; whnf
  have hR := hA
  unfold rightB at hR
  rw [Bool.and_eq_true] at hR
  have O := R.okR_of hR.1
  have hn4' := O.n4
  obtain ⟨aa, cc, e0, hxP⟩ := id hP
  cases e0
  have HXP := Lib.hid hxP
  have HO := Lib.hid O
  clear hxP hR O
  have hbx := hb0.ext hE17
  have hE07 := hE1.trans hE17
  have hlt1 := hb0.lt
  have hpc := plus_cell
  have hlM := RowB.lt hM
  have hlA := hBA.lt
  have hlB := hBB.lt
  go_step
  go_step
  rename Act → World → Prop => KK
  rename ∀ _ _, _ → KK _ _ => hKK
  go_cut [20, 21] from 125 to 375 (fun _ _ wc => RowB placeC 12 46 wc gA (R.regrow (R.narrowF low high) r).places ∧ RowB placeC 12 46 wc gB (R.regrow (R.fasterF faster) r).places ∧ Off gA gB w7 wc)
  case rest =>
    obtain ⟨hrA', hrB', hOf⟩ := hcut
    exact hKK _ _ (moreTail7 r plan M w w1 a1 a2 c1 c2 cap g s k low high faster hP hL hA hAM hE1 hb0 hs hk hl0 hl1 hl2 hf0 hf1 hMM wc A B gA gB cA cB (hOf.ext0 hE17 (by omega) (by omega)) (RowB.off hM hOf hd1 hd2) (hBA.off hOf hd3 hd4) (hBB.off hOf hd5 hd6) hrA' hrB')
  case first =>
    go_wp2
    go_loopw [20, 21] (fun i _ wr => ∃ k1 : Nat, k1 ≤ r.places.length ∧ i = .int .i64 k1 ∧ RowB placeC 12 46 wr gA (regTo (R.narrowF low high) r.places k1) ∧ RowB placeC 12 46 wr gB (regTo (R.fasterF faster) r.places k1) ∧ Off gA gB w7 wr) (fun i _ _ => r.places.length - (intOf i).toNat)
    case atStart => exact ⟨0, Nat.zero_le _, rfl, by rw [regTo_zero]; exact hrA, by rw [regTo_zero]; exact hrB, Off.refl _ _ _⟩
    case round =>
      rename World => wr
      obtain ⟨k1, hk1, rfl, hra, hrb, hOf⟩ := hrel
      have hE0r := hOf.ext0 hE07 (by omega) (by omega)
      have hE1r := hOf.ext0 hE17 (by omega) (by omega)
      have hbr := hb0.ext hE1r
      have hAr := hBA.off hOf hd3 hd4
      have hBr := hBB.off hOf hd5 hd6
      have x0 := hbr.cell
      have x1 := hbr.lt
      by_cases hlt : k1 < r.places.length
      · obtain ⟨bP, oP, rfl, hbP, hAt⟩ := HXP.out k1 hlt
        have hAt2 := ate_stays _ _ _ _ _ _ hE0r hbP hAt
        obtain ⟨h0, h1, h2, h3, h4, h5, h6, h7, h8, h9, h10, h11⟩ := place_cells hAt2
        have hbl := Nat.lt_of_lt_of_le hbP hE0r.size
        have hO := HO.out.place k1 hlt
        rw [R.pat_at hlt] at hO
        have g0 := hO.g0
        have g1 := hO.g1
        have g2 := hO.g2
        have hsa := regTo_set (R.narrowF low high) r.places hlt
        have hsb := regTo_set (R.fasterF faster) r.places hlt
        have hka : k1 < (regTo (R.narrowF low high) r.places k1).length := by rw [regTo_len _ _ _ hk1]; exact hlt
        have hkb : k1 < (regTo (R.fasterF faster) r.places k1).length := by rw [regTo_len _ _ _ hk1]; exact hlt
        have hga := fun x y w2 (h : RowB placeC 12 46 w2 gA (regTo (R.narrowF low high) r.places k1)) => RowB.set_grow h k1 hka x y
        have hgb := fun x y w2 (h : RowB placeC 12 46 w2 gB (regTo (R.fasterF faster) r.places k1)) => RowB.set_grow h k1 hkb x y
        simp only [regTo_at _ _ hlt] at hga hgb
        obtain ⟨p, hp⟩ : ∃ p, r.places[k1] = p := ⟨_, rfl⟩
        rw [hp] at h2 h3 hsa hsb g0 g1 g2
        simp only [hp] at hga hgb
        have e1 : (R.narrowF low high p).1 = p.gl + (p.gh - p.gl) * low / 100 := rfl
        have e2 : (R.narrowF low high p).2 = p.gl + (p.gh - p.gl) * high / 100 := rfl
        have e3 : (R.fasterF faster p).1 = if 2000 < p.gl + faster then 2000 else p.gl + faster := rfl
        have e4 : (R.fasterF faster p).2 = if 2000 < p.gh + faster then 2000 else p.gh + faster := rfl
        have hln := fun w' => lnarrow_any p.gl p.gh low high w' g0 g1 g2 hl0 hl1 hl2
        simp only [← e1, ← e2] at hln
        obtain ⟨nl, hnl⟩ : ∃ nl, (R.narrowF low high p).1 = nl := ⟨_, rfl⟩
        obtain ⟨nh, hnh⟩ : ∃ nh, (R.narrowF low high p).2 = nh := ⟨_, rfl⟩
        obtain ⟨fl, hfl⟩ : ∃ fl, (R.fasterF faster p).1 = fl := ⟨_, rfl⟩
        obtain ⟨fh, hfh⟩ : ∃ fh, (R.fasterF faster p).2 = fh := ⟨_, rfl⟩
        simp only [hnl, hnh] at hln hsa
        simp only [hfl, hfh] at hsb
        rw [hfl] at e3
        rw [hfh] at e4
        have HLN := Lib.hid hln
        have HSA := Lib.hid hsa
        have HSB := Lib.hid hsb
        have HGA := Lib.hid hga
        have HGB := Lib.hid hgb
        have HE3 := Lib.hid e3
        have HE4 := Lib.hid e4
        clear hln hsa hsb hga hgb e1 e2 e3 e4 hnl hnh hfl hfh hAt hAt2 hO hp h0 h1 h4 h5 h6 h7 h8 h9 h10 h11
        go_upto_region 17 with (fail)
        obtain ⟨w8, hw8⟩ : ∃ w8, wr.alloc (.cells #[.int .i64 p.gl, .int .i64 p.gh] 44) = w8 := ⟨_, rfl⟩
        have hsp : Blk w8 wr.heap.size #[.int .i64 p.gl, .int .i64 p.gh] 44 := by rw [← hw8]; exact Blk.new' rfl _ _
        have hEr8 : Ext wr w8 := by rw [← hw8]; (with_reducible (repeat (first | exact Ext.refl _ | assumption | apply Ext.alloc | apply Ext.drew | exact ext_plus _ _ | (apply Ext.setCell; rotate_left; (simp <;> omega)) | (apply Ext.trans; rotate_left; exact ext_plus _ _) | (apply Ext.trans; rotate_left; assumption))))
        rw [hw8]
        clear hw8 x0 x1
        obtain ⟨bS, hbS⟩ : ∃ bS, wr.heap.size = bS := ⟨_, rfl⟩
        rw [hbS] at hsp ⊢
        have hA8 := hAr.ext hEr8
        have hB8 := hBr.ext hEr8
        have hra8 := RowB.ext hra hEr8
        have hrb8 := RowB.ext hrb hEr8
        have hb8 := hbr.ext hEr8
        have y0 := hA8.cell
        have y1 := hA8.lt
        have y2 := hsp.cell
        have y3 := hsp.lt
        have hag := hAr.lt
        have hgg := RowB.lt hra
        have hgh := RowB.lt hrb
        have hBg := hBr.lt
        refine wp_region_ext 9 (fun _ _ d _ _ h => by cases d <;> exact h) (by kernel_rfl) (by kernel_rfl) (by kernel_rfl) (by kernel_rfl) ?_
        simp only [List.take_succ_cons, List.take_zero, List.drop_succ_cons, List.drop_zero]
        repeat (any_goals (first | go_big_quiet_step ((go_at_call 40; exact ext_quiet (HLN.out _))) | quiet_step ((go_at_call 40; exact ext_quiet (HLN.out _)))))
        all_goals (refine wpQuiet_nil ?_; intro w9 hEw9)
        have hra9 := RowB.ext hra8 hEw9
        have hrb9 := RowB.ext hrb8 hEw9
        have f0 := hra9.free
        have f1 := hra9.lt
        have h2' := hra9.cell k1 (by rw [regTo_len _ _ _ hk1]; exact hlt) 2 _ rfl
        have h3' := hra9.cell k1 (by rw [regTo_len _ _ _ hk1]; exact hlt) 3 _ rfl
        clear y0 y1 y2 y3
        go_upto_region 18 with (fail)
        have hra10 := HGA.out nl nh _ hra9
        rw [HSA.out] at hra10
        have hrb10 := ((hrb9.other (a := ⟨gA, k1 * 12 + 2, none⟩) (by simp; omega) (.int .i64 nl)).other (a := ⟨gA, k1 * 12 + 2 + 1, none⟩) (by simp; omega) (.int .i64 nh))
        have hA10 := (((hA8.ext hEw9).other (a := ⟨gA, k1 * 12 + 2, none⟩) (by simp; omega) (.int .i64 nl)).other (a := ⟨gA, k1 * 12 + 2 + 1, none⟩) (by simp; omega) (.int .i64 nh))
        have hB10 := (((hB8.ext hEw9).other (a := ⟨gA, k1 * 12 + 2, none⟩) (by simp; omega) (.int .i64 nl)).other (a := ⟨gA, k1 * 12 + 2 + 1, none⟩) (by simp; omega) (.int .i64 nh))
        have hs10 := (((hsp.ext hEw9).other (a := ⟨gA, k1 * 12 + 2, none⟩) (by simp; omega) (.int .i64 nl)).other (a := ⟨gA, k1 * 12 + 2 + 1, none⟩) (by simp; omega) (.int .i64 nh))
        have hO10 := (((hOf.ext hEr8).ext hEw9).set (a := ⟨gA, k1 * 12 + 2, none⟩) (.inl rfl) (.int .i64 nl)).set (a := ⟨gA, k1 * 12 + 2 + 1, none⟩) (.inl rfl) (.int .i64 nh)
        obtain ⟨w10, hw10⟩ : ∃ w10, (w9.setCell ⟨gA, k1 * 12 + 2, none⟩ (.int .i64 nl)).setCell ⟨gA, k1 * 12 + 2 + 1, none⟩ (.int .i64 nh) = w10 := ⟨_, rfl⟩
        rw [hw10] at hra10 hrb10 hA10 hB10 hs10 hO10 ⊢
        clear hw10 f0 f1 h2' h3'
        have y0 := hB10.cell
        have y1 := hB10.lt
        have y2 := hs10.cell
        have y3 := hs10.lt
        refine wp_region_ext 16 (fun _ _ d _ _ h => by cases d <;> exact h) (by kernel_rfl) (by kernel_rfl) (by kernel_rfl) (by kernel_rfl) ?_
        simp only [List.take_succ_cons, List.take_zero, List.drop_succ_cons, List.drop_zero]
        repeat (any_goals (first | go_big_quiet_step ((go_at_call 38; exact ext_quiet (lspan_any _ _ _))) | quiet_step ((go_at_call 38; exact ext_quiet (lspan_any _ _ _)))))
        all_goals (refine wpQuiet_nil ?_; intro w11 hEw11)
        have hra11 := RowB.ext hra10 hEw11
        have hrb11 := RowB.ext hrb10 hEw11
        have f0 := hrb11.free
        have f1 := hrb11.lt
        have h2' := hrb11.cell k1 (by rw [regTo_len _ _ _ hk1]; exact hlt) 2 _ rfl
        have h3' := hrb11.cell k1 (by rw [regTo_len _ _ _ hk1]; exact hlt) 3 _ rfl
        clear y0 y1 y2 y3
        go_wp2
        rw [min_if 2000 (p.gl + faster), min_if 2000 (p.gh + faster), ← HE3.out, ← HE4.out]
        have hrb12 := HGB.out fl fh _ hrb11
        rw [HSB.out] at hrb12
        have hra12 := ((hra11.other (a := ⟨gB, k1 * 12 + 2, none⟩) (by simp; omega) (.int .i64 fl)).other (a := ⟨gB, k1 * 12 + 2 + 1, none⟩) (by simp; omega) (.int .i64 fh))
        have hO12 := ((hO10.ext hEw11).set (a := ⟨gB, k1 * 12 + 2, none⟩) (.inr (.inl rfl)) (.int .i64 fl)).set (a := ⟨gB, k1 * 12 + 2 + 1, none⟩) (.inr (.inl rfl)) (.int .i64 fh)
        exact ⟨⟨k1 + 1, by omega, by go_num, hra12, hrb12, hO12⟩, by simp [intOf]; omega⟩
      · obtain rfl : k1 = r.places.length := by omega
        rw [regTo_all] at hra hrb
        go_wp2
        go_meet
        exact ⟨hra, hrb, hOf⟩
set_option maxRecDepth 1000000 in
set_option maxHeartbeats 32000000 in
theorem moreTail5 {u8 u9 u10 u11 u12 u13 u16 u17 u20 u21 u22 u23 u24 u25 u26 u27 u28 u29 u30 u31 u32 u33 u34 u35 u36 u37 u38 u39 u40 u41 u42 u43 u44 u45 u46 u47 u48 u49 u50 u51 u52 u53 u54 u55 u56 u57 u58 u59 u60 u61 u62 u63 u64 u65 u66 u67 u68 u69 u70 u71 u72 u73 u74 u75 u76 u77 u78 u79 u80 u81 u82 u83 u84 u85 u86 u87 u88 u89 u90 u91 u92 u93 u94 u95 u96 u97 u98 u99 u100 u101 u102 u103 u104 u105 u106 u107 u108 u109 u110 u111 u112 u113 u114 u115 u116 u117 u118 u119 u120 u121 u122 u123 u124 u125 u126 u127 u128 u129 u130 u131 u132 u133 u134 u135 u136 u137 u138 u139 u140 u141 u142 u143 u144 u145 u146 u147 u148 u149 u150 u151 u152 u153 u154 u155 u156 u157 u158 u159 u160 u161 u162 u163 u164 u165 u166 u167 u168 u169 u170 u171 u172 u173 u174 u175 u176 u177 u178 u179 u180 u181 u182 u183 u184 u185 u186 u187 u188 u189 u190 u191 u192 u193 u194 u195 u196 u197 u198 u199 u200 u201 u202 u203 u204 u205 u206 u207 u208 u209 u210 u211 u212 u213 u214 u215 u216 u217 u218 u219 u220 u221 u222 u223 u224 u225 u226 u227 u228 u229 u230 u231 u232 u233 u234 u235 u236 u237 u238 u239 u240 u241 u242 u243 u244 u245 u246 u247 u248 u249 u250 u251 u252 u253 u254 u255 u256 u257 u258 u259 u260 u261 u262 u263 u264 u265 u266 u267 u268 u269 u270 u271 u272 u273 u274 u275 u276 u277 u278 u279 u280 u281 u282 u283 u284 u285 u286 u287 u288 u289 u290 u291 u292 u293 u294 u295 u296 u297 u298 u299 u300 u301 u302 u303 u304 u305 u306 u307 u308 u309 u310 u311 u312 u313 u314 u315 u316 u317 u318 u319 u320 u321 u322 u323 u324 u325 u326 u327 u328 u329 u330 u331 u332 u333 u334 u335 u336 u337 u338 u339 u340 u341 u342 u343 u344 u345 u346 u347 u348 u349 u350 u351 u352 u353 u354 u355 u356 u357 u358 u359 u360 u361 u362 u363 u364 u365 u366 u367 u368 u369 u370 u371 u372 u373 u374 u375 : Value} (r : R.Reef) (plan M : List Int) (w w1 : World) (a1 a2 : Option Addr) (c1 c2 cap g s k : Nat) (low high faster : Int) (hP : Places w (.slice a1 r.places.length c1) r.places) (hL : Ints w (.slice a2 plan.length c2) plan)
    (hA : rightB r plan = true) (hAM : rightB r M = true) (hE1 : Ext w w1) (hb0 : Blk w1 w.heap.size (reefV r (.slice a1 r.places.length c1)) 24) (hs : s < plan.length) (hk : k < r.places.length) (hl0 : 0 ≤ low) (hl1 : low ≤ high) (hl2 : high ≤ 100) (hf0 : 0 ≤ faster) (hf1 : faster ≤ 2000) (hMM : M = R.moreL plan s k) (w6 : World) (A B : Nat) (hM : IRow w6 g M) (hE16 : Ext w1 w6) (hgw : w1.heap.size ≤ g) (hBA : Blk w6 A (reefV r (.slice a1 r.places.length c1)) 24) (hBB : Blk w6 B (reefV r (.slice a1 r.places.length c1)) 24) (hAB : A ≠ B) (hA1 : w1.heap.size ≤ A) (hB1 : w1.heap.size ≤ B) (hgA : g ≠ A) (hgB : g ≠ B) :
    Code.wp Try.prog (moreTail 5) (bodyPost Try.prog Try.f11 (fun e w' => e = .returned (.bool true) ∧ Ext w w')) ⟨List.toArray (.agg (reefV r (.slice a1 r.places.length c1)) :: .slice a2 plan.length c2 :: .int .i64 s :: .int .i64 k :: .int .i64 low :: .int .i64 high :: .int .i64 faster :: .pointer (some ⟨w.heap.size, 0, none⟩) :: u8 :: u9 :: u10 :: u11 :: u12 :: u13 :: .bool false :: .slice (some ⟨g, 0, none⟩) plan.length cap :: u16 :: u17 :: .pointer (some ⟨A, 0, none⟩) :: .pointer (some ⟨B, 0, none⟩) :: u20 :: u21 :: u22 :: u23 :: u24 :: u25 :: u26 :: u27 :: u28 :: u29 :: u30 :: u31 :: u32 :: u33 :: u34 :: u35 :: u36 :: u37 :: u38 :: u39 :: u40 :: u41 :: u42 :: u43 :: u44 :: u45 :: u46 :: u47 :: u48 :: u49 :: u50 :: u51 :: u52 :: u53 :: u54 :: u55 :: u56 :: u57 :: u58 :: u59 :: u60 :: u61 :: u62 :: u63 :: u64 :: u65 :: u66 :: u67 :: u68 :: u69 :: u70 :: u71 :: u72 :: u73 :: u74 :: u75 :: u76 :: u77 :: u78 :: u79 :: u80 :: u81 :: u82 :: u83 :: u84 :: u85 :: u86 :: u87 :: u88 :: u89 :: u90 :: u91 :: u92 :: u93 :: u94 :: u95 :: u96 :: u97 :: u98 :: u99 :: u100 :: u101 :: u102 :: u103 :: u104 :: u105 :: u106 :: u107 :: u108 :: u109 :: u110 :: u111 :: u112 :: u113 :: u114 :: u115 :: u116 :: u117 :: u118 :: u119 :: u120 :: u121 :: u122 :: u123 :: u124 :: u125 :: u126 :: u127 :: u128 :: u129 :: u130 :: u131 :: u132 :: u133 :: u134 :: u135 :: u136 :: u137 :: u138 :: u139 :: u140 :: u141 :: u142 :: u143 :: u144 :: u145 :: u146 :: u147 :: u148 :: u149 :: u150 :: u151 :: u152 :: u153 :: u154 :: u155 :: u156 :: u157 :: u158 :: u159 :: u160 :: u161 :: u162 :: u163 :: u164 :: u165 :: u166 :: u167 :: u168 :: u169 :: u170 :: u171 :: u172 :: u173 :: u174 :: u175 :: u176 :: u177 :: u178 :: u179 :: u180 :: u181 :: u182 :: u183 :: u184 :: u185 :: u186 :: u187 :: u188 :: u189 :: u190 :: u191 :: u192 :: u193 :: u194 :: u195 :: u196 :: u197 :: u198 :: u199 :: u200 :: u201 :: u202 :: u203 :: u204 :: u205 :: u206 :: u207 :: u208 :: u209 :: u210 :: u211 :: u212 :: u213 :: u214 :: u215 :: u216 :: u217 :: u218 :: u219 :: u220 :: u221 :: u222 :: u223 :: u224 :: u225 :: u226 :: u227 :: u228 :: u229 :: u230 :: u231 :: u232 :: u233 :: u234 :: u235 :: u236 :: u237 :: u238 :: u239 :: u240 :: u241 :: u242 :: u243 :: u244 :: u245 :: u246 :: u247 :: u248 :: u249 :: u250 :: u251 :: u252 :: u253 :: u254 :: u255 :: u256 :: u257 :: u258 :: u259 :: u260 :: u261 :: u262 :: u263 :: u264 :: u265 :: u266 :: u267 :: u268 :: u269 :: u270 :: u271 :: u272 :: u273 :: u274 :: u275 :: u276 :: u277 :: u278 :: u279 :: u280 :: u281 :: u282 :: u283 :: u284 :: u285 :: u286 :: u287 :: u288 :: u289 :: u290 :: u291 :: u292 :: u293 :: u294 :: u295 :: u296 :: u297 :: u298 :: u299 :: u300 :: u301 :: u302 :: u303 :: u304 :: u305 :: u306 :: u307 :: u308 :: u309 :: u310 :: u311 :: u312 :: u313 :: u314 :: u315 :: u316 :: u317 :: u318 :: u319 :: u320 :: u321 :: u322 :: u323 :: u324 :: u325 :: u326 :: u327 :: u328 :: u329 :: u330 :: u331 :: u332 :: u333 :: u334 :: u335 :: u336 :: u337 :: u338 :: u339 :: u340 :: u341 :: u342 :: u343 :: u344 :: u345 :: u346 :: u347 :: u348 :: u349 :: u350 :: u351 :: u352 :: u353 :: u354 :: u355 :: u356 :: u357 :: u358 :: u359 :: u360 :: u361 :: u362 :: u363 :: u364 :: u365 :: u366 :: u367 :: u368 :: u369 :: u370 :: u371 :: u372 :: u373 :: u374 :: u375 :: []), []⟩ w6 := by
  unfold moreTail
  conv => arg 2; whnf
  have hLP := hL
  have hn4 : 0 < r.places.length := by omega
  have hR := hA
  unfold rightB at hR
  rw [Bool.and_eq_true] at hR
  have hn8 := (R.okR_of hR.1).n4
  obtain ⟨i0, hi, hz0, hz1, hz2⟩ := info_parts place_info
  have hP0 := hP
  obtain ⟨aa, cc, e0, hxP⟩ := hP0
  cases e0
  obtain ⟨bP, oP, eP, hbP, _⟩ := hxP 0 hn4
  subst eP
  clear hxP
  have hbx := hb0.ext hE16
  have hbd := hbx.drew
  have hlt1 := hb0.lt
  have hE06 := hE1.trans hE16
  have hzE := hE1.size
  have hz16 := hE16.size
  go_upto_region 12 with (fail)
  rename Act → World → Prop => KK
  rename ∀ _ _, _ → KK _ _ => hKK
  refine wp_region_late 9 (fun c y => c = false → (∀ o, y.cell? ⟨w.heap.size, o, none⟩ = (reefV r (.slice (some ⟨bP, oP, none⟩) r.places.length c1) : Array Value)[o]?)) (by kernel_rfl) (fun hL => ?_)
  refine late_early (i := 0) (v := ?_) rfl (by kernel_rfl) (by kernel_rfl) (by kernel_rfl) (by decide) (by kernel_rfl) (fun _ _ _ h => h) hL (Or.inl ⟨by rfl, ?_⟩) (fun _ => hbd.cell) (fun hL' => ?_)
  rotate_left
  · intro y hy; have g1 := hy rfl; go_simp; (try with_reducible rfl)
  clear hL; rename Shutb _ _ => hL
  (try simp only [Act.put, List.setIfInBounds_toArray, List.set_cons_zero, List.set_cons_succ])
  refine late_early (i := 1) (v := ?_) rfl (by kernel_rfl) (by kernel_rfl) (by kernel_rfl) (by decide) (by kernel_rfl) (fun _ _ _ h => h) hL (Or.inl ⟨by rfl, ?_⟩) (fun _ => hbd.cell) (fun hL' => ?_)
  rotate_left
  · intro y hy; have g1 := hy rfl; go_simp; (try with_reducible rfl)
  clear hL; rename Shutb _ _ => hL
  (try simp only [Act.put, List.setIfInBounds_toArray, List.set_cons_zero, List.set_cons_succ])
  refine late_early (i := 3) (v := ?_) rfl (by kernel_rfl) (by kernel_rfl) (by kernel_rfl) (by decide) (by kernel_rfl) (fun _ _ _ h => h) hL (Or.inl ⟨by rfl, ?_⟩) (fun _ => hbd.cell) (fun hL' => ?_)
  rotate_left
  · intro y hy; have g1 := hy rfl; go_simp; (try with_reducible rfl)
  clear hL; rename Shutb _ _ => hL
  (try simp only [Act.put, List.setIfInBounds_toArray, List.set_cons_zero, List.set_cons_succ])
  refine late_early (i := 4) (v := ?_) rfl (by kernel_rfl) (by kernel_rfl) (by kernel_rfl) (by decide) (by kernel_rfl) (fun _ _ _ h => h) hL (Or.inl ⟨by rfl, ?_⟩) (fun _ => hbd.cell) (fun hL' => ?_)
  rotate_left
  · intro y hy; have g1 := hy rfl; go_simp; (try with_reducible rfl)
  clear hL; rename Shutb _ _ => hL
  (try simp only [Act.put, List.setIfInBounds_toArray, List.set_cons_zero, List.set_cons_succ])
  refine late_one (i := 2) (by kernel_rfl) hL (fun hL' => ?_)
  refine wpOp_step rfl (fun K hK0 => ?_)
  have hK : Shut _ := hK0
  clear hK0
  refine step_append_places _ rfl _ _ rfl r.places bP oP c1 rfl rfl (hP.ext hE06.drew) (by omega) ?_
  intro v2 y2 hown2 hE2'
  obtain ⟨gA, cA, rfl, hgA0, hgA1⟩ := own_pos hown2 hn4
  have hE2 : Ext w6 y2 := ((Ext.refl w6).drew).trans hE2'
  have hb2 := hbx.ext hE2
  have hz2' := hE2.size
  refine hK.out _ _ ⟨fun _ => hb2.cell, ?_⟩
  clear hK K; clear hL; rename Shutb _ _ => hL
  (try simp only [Act.put, List.setIfInBounds_toArray, List.set_cons_zero, List.set_cons_succ])
  refine late_early (i := 6) (v := ?_) rfl (by kernel_rfl) (by kernel_rfl) (by kernel_rfl) (by decide) (by kernel_rfl) (fun _ _ _ h => h) hL (Or.inl ⟨by rfl, ?_⟩) (fun _ => hb2.cell) (fun hL' => ?_)
  rotate_left
  · intro y hy; have g1 := hy rfl; go_simp; (try with_reducible rfl)
  clear hL; rename Shutb _ _ => hL
  (try simp only [Act.put, List.setIfInBounds_toArray, List.set_cons_zero, List.set_cons_succ])
  refine late_one (i := 5) (by kernel_rfl) hL (fun hL' => ?_)
  refine wpOp_step rfl (fun K hK0 => ?_)
  have hK : Shut _ := hK0
  clear hK0
  refine step_append_places _ rfl _ _ rfl r.places bP oP c1 rfl rfl (hP.ext (hE06.trans hE2)) (by omega) ?_
  intro v3 y3 hown3 hE3
  obtain ⟨gB, cB, rfl, hgB0, hgB1⟩ := own_pos hown3 hn4
  have hb3 := hb2.ext hE3
  have hz3' := hE3.size
  have hA3 := (hBA.ext hE2).ext hE3
  have hB3 := (hBB.ext hE2).ext hE3
  have d0 := hA3.cell
  have d1 := hA3.free
  have d2 := hA3.lt
  refine hK.out _ _ ⟨fun _ => hb3.cell, ?_⟩
  clear hK K; clear hL; rename Shutb _ _ => hL
  (try simp only [Act.put, List.setIfInBounds_toArray, List.set_cons_zero, List.set_cons_succ])
  refine late_one (i := 7) (by kernel_rfl) hL (fun hL' => ?_)
  refine wpOp_step rfl (fun K hK0 => ?_)
  have hK : Shut _ := hK0
  clear hK0
  go_simp
  clear d0 d1 d2
  have hA4 := hA3.set 0 (.slice (some ⟨gA, 0, none⟩) r.places.length cA)
  have hB4 := hB3.other (a := ⟨A, 0, none⟩) hAB (.slice (some ⟨gA, 0, none⟩) r.places.length cA)
  have hb4 := hb3.other (a := ⟨A, 0, none⟩) (by simp; omega) (.slice (some ⟨gA, 0, none⟩) r.places.length cA)
  have d0 := hB4.cell
  have d1 := hB4.free
  have d2 := hB4.lt
  refine hK.out _ _ ⟨fun _ => hb4.cell, ?_⟩
  clear hK K; clear hL; rename Shutb _ _ => hL
  (try simp only [Act.put, List.setIfInBounds_toArray, List.set_cons_zero, List.set_cons_succ])
  refine late_one (i := 8) (by kernel_rfl) hL (fun hL' => ?_)
  refine wpOp_step rfl (fun K hK0 => ?_)
  have hK : Shut _ := hK0
  clear hK0
  go_simp
  refine hK.out _ _ ⟨fun _ => hb4.cell, ?_⟩
  clear hK K; clear hL; rename Shutb _ _ => hL
  (try simp only [Act.put, List.setIfInBounds_toArray, List.set_cons_zero, List.set_cons_succ])
  refine late_one (i := 9) (by kernel_rfl) hL (fun hL' => ?_)
  refine wpOp_step rfl (fun K hK0 => ?_)
  have hK : Shut _ := hK0
  clear hK0
  go_simp
  refine hK.out _ _ ⟨fun e => absurd (e : true = false) (by decide), ?_⟩
  clear hK K; clear hL; rename Shutb _ _ => hL
  (try simp only [Act.put, List.setIfInBounds_toArray, List.set_cons_zero, List.set_cons_succ])
  refine late_done (by kernel_rfl) ?_
  (try dsimp only [Exit.then])
  clear d0 d1 d2
  have hrA : RowB placeC 12 46 y3 gA r.places := RowB.ext (RowB.of_own (f := placeC) placeC_len hown2) hE3
  have hrB : RowB placeC 12 46 y3 gB r.places := RowB.of_own (f := placeC) placeC_len hown3
  have hM3 : IRow y3 g M := RowB.ext (RowB.ext hM hE2) hE3
  have hEy : Ext w1 y3 := hE16.trans (hE2.trans hE3)
  have hgA0' : w6.heap.size ≤ gA := hgA0
  have hgl := RowB.lt hM
  have hAl := hBA.lt
  have hBl := hBB.lt
  have hA9 := hA4.other (a := ⟨B, 0, none⟩) (Ne.symm hAB) (.slice (some ⟨gB, 0, none⟩) r.places.length cB)
  have hB9 := hB4.set 0 (.slice (some ⟨gB, 0, none⟩) r.places.length cB)
  have hM9 : IRow _ g M := RowB.other (RowB.other hM3 (a := ⟨A, 0, none⟩) (by simp; omega) (.slice (some ⟨gA, 0, none⟩) r.places.length cA)) (a := ⟨B, 0, none⟩) (by simp; omega) (.slice (some ⟨gB, 0, none⟩) r.places.length cB)
  have hrA9 := (hrA.other (a := ⟨A, 0, none⟩) (by simp; omega) (.slice (some ⟨gA, 0, none⟩) r.places.length cA)).other (a := ⟨B, 0, none⟩) (by simp; omega) (.slice (some ⟨gB, 0, none⟩) r.places.length cB)
  have hrB9 := (hrB.other (a := ⟨A, 0, none⟩) (by simp; omega) (.slice (some ⟨gA, 0, none⟩) r.places.length cA)).other (a := ⟨B, 0, none⟩) (by simp; omega) (.slice (some ⟨gB, 0, none⟩) r.places.length cB)
  have hE9 := (hEy.setCell (p := ⟨A, 0, none⟩) hA1 (.slice (some ⟨gA, 0, none⟩) r.places.length cA)).setCell (p := ⟨B, 0, none⟩) hB1 (.slice (some ⟨gB, 0, none⟩) r.places.length cB)
  obtain ⟨w7, hw7⟩ : ∃ w7, (y3.setCell ⟨A, 0, none⟩ (.slice (some ⟨gA, 0, none⟩) r.places.length cA)).setCell ⟨B, 0, none⟩ (.slice (some ⟨gB, 0, none⟩) r.places.length cB) = w7 := ⟨_, rfl⟩
  rw [hw7] at hA9 hB9 hM9 hrA9 hrB9 hE9 ⊢
  have hA9' : Blk w7 A (reefV r (.slice (some ⟨gA, 0, none⟩) r.places.length cA)) 24 := by simpa using hA9
  have hB9' : Blk w7 B (reefV r (.slice (some ⟨gB, 0, none⟩) r.places.length cB)) 24 := by simpa using hB9
  exact hKK _ _ (moreTail6 r plan M w w1 (some ⟨bP, oP, none⟩) a2 c1 c2 cap g s k low high faster hP hLP hA hAM hE1 hb0 hs hk hl0 hl1 hl2 hf0 hf1 hMM w7 A B gA gB cA cB hE9 hM9 hA9' hB9' hrA9 hrB9 hgw hA1 hB1 (by omega) (by omega) (by omega) (by omega) (by omega) (by omega) (by omega) (by omega) (by omega))
set_option maxRecDepth 1000000 in
set_option maxHeartbeats 32000000 in
theorem moreTail4 {u8 u9 u10 u11 u12 u13 u16 u17 u18 u19 u20 u21 u22 u23 u24 u25 u26 u27 u28 u29 u30 u31 u32 u33 u34 u35 u36 u37 u38 u39 u40 u41 u42 u43 u44 u45 u46 u47 u48 u49 u50 u51 u52 u53 u54 u55 u56 u57 u58 u59 u60 u61 u62 u63 u64 u65 u66 u67 u68 u69 u70 u71 u72 u73 u74 u75 u76 u77 u78 u79 u80 u81 u82 u83 u84 u85 u86 u87 u88 u89 u90 u91 u92 u93 u94 u95 u96 u97 u98 u99 u100 u101 u102 u103 u104 u105 u106 u107 u108 u109 u110 u111 u112 u113 u114 u115 u116 u117 u118 u119 u120 u121 u122 u123 u124 u125 u126 u127 u128 u129 u130 u131 u132 u133 u134 u135 u136 u137 u138 u139 u140 u141 u142 u143 u144 u145 u146 u147 u148 u149 u150 u151 u152 u153 u154 u155 u156 u157 u158 u159 u160 u161 u162 u163 u164 u165 u166 u167 u168 u169 u170 u171 u172 u173 u174 u175 u176 u177 u178 u179 u180 u181 u182 u183 u184 u185 u186 u187 u188 u189 u190 u191 u192 u193 u194 u195 u196 u197 u198 u199 u200 u201 u202 u203 u204 u205 u206 u207 u208 u209 u210 u211 u212 u213 u214 u215 u216 u217 u218 u219 u220 u221 u222 u223 u224 u225 u226 u227 u228 u229 u230 u231 u232 u233 u234 u235 u236 u237 u238 u239 u240 u241 u242 u243 u244 u245 u246 u247 u248 u249 u250 u251 u252 u253 u254 u255 u256 u257 u258 u259 u260 u261 u262 u263 u264 u265 u266 u267 u268 u269 u270 u271 u272 u273 u274 u275 u276 u277 u278 u279 u280 u281 u282 u283 u284 u285 u286 u287 u288 u289 u290 u291 u292 u293 u294 u295 u296 u297 u298 u299 u300 u301 u302 u303 u304 u305 u306 u307 u308 u309 u310 u311 u312 u313 u314 u315 u316 u317 u318 u319 u320 u321 u322 u323 u324 u325 u326 u327 u328 u329 u330 u331 u332 u333 u334 u335 u336 u337 u338 u339 u340 u341 u342 u343 u344 u345 u346 u347 u348 u349 u350 u351 u352 u353 u354 u355 u356 u357 u358 u359 u360 u361 u362 u363 u364 u365 u366 u367 u368 u369 u370 u371 u372 u373 u374 u375 : Value} (r : R.Reef) (plan M : List Int) (w w1 : World) (a1 a2 : Option Addr) (c1 c2 cap g s k : Nat) (low high faster : Int) (hP : Places w (.slice a1 r.places.length c1) r.places) (hL : Ints w (.slice a2 plan.length c2) plan)
    (hA : rightB r plan = true) (hAM : rightB r M = true) (hE1 : Ext w w1) (hb0 : Blk w1 w.heap.size (reefV r (.slice a1 r.places.length c1)) 24) (hs : s < plan.length) (hk : k < r.places.length) (hl0 : 0 ≤ low) (hl1 : low ≤ high) (hl2 : high ≤ 100) (hf0 : 0 ≤ faster) (hf1 : faster ≤ 2000) (hMM : M = R.moreL plan s k) (w5 : World) (hM : IRow w5 g M) (hE15 : Ext w1 w5) (hgw : w1.heap.size ≤ g) :
    Code.wp Try.prog (moreTail 4) (bodyPost Try.prog Try.f11 (fun e w' => e = .returned (.bool true) ∧ Ext w w')) ⟨List.toArray (.agg (reefV r (.slice a1 r.places.length c1)) :: .slice a2 plan.length c2 :: .int .i64 s :: .int .i64 k :: .int .i64 low :: .int .i64 high :: .int .i64 faster :: .pointer (some ⟨w.heap.size, 0, none⟩) :: u8 :: u9 :: u10 :: u11 :: u12 :: u13 :: .bool false :: .slice (some ⟨g, 0, none⟩) plan.length cap :: u16 :: u17 :: u18 :: u19 :: u20 :: u21 :: u22 :: u23 :: u24 :: u25 :: u26 :: u27 :: u28 :: u29 :: u30 :: u31 :: u32 :: u33 :: u34 :: u35 :: u36 :: u37 :: u38 :: u39 :: u40 :: u41 :: u42 :: u43 :: u44 :: u45 :: u46 :: u47 :: u48 :: u49 :: u50 :: u51 :: u52 :: u53 :: u54 :: u55 :: u56 :: u57 :: u58 :: u59 :: u60 :: u61 :: u62 :: u63 :: u64 :: u65 :: u66 :: u67 :: u68 :: u69 :: u70 :: u71 :: u72 :: u73 :: u74 :: u75 :: u76 :: u77 :: u78 :: u79 :: u80 :: u81 :: u82 :: u83 :: u84 :: u85 :: u86 :: u87 :: u88 :: u89 :: u90 :: u91 :: u92 :: u93 :: u94 :: u95 :: u96 :: u97 :: u98 :: u99 :: u100 :: u101 :: u102 :: u103 :: u104 :: u105 :: u106 :: u107 :: u108 :: u109 :: u110 :: u111 :: u112 :: u113 :: u114 :: u115 :: u116 :: u117 :: u118 :: u119 :: u120 :: u121 :: u122 :: u123 :: u124 :: u125 :: u126 :: u127 :: u128 :: u129 :: u130 :: u131 :: u132 :: u133 :: u134 :: u135 :: u136 :: u137 :: u138 :: u139 :: u140 :: u141 :: u142 :: u143 :: u144 :: u145 :: u146 :: u147 :: u148 :: u149 :: u150 :: u151 :: u152 :: u153 :: u154 :: u155 :: u156 :: u157 :: u158 :: u159 :: u160 :: u161 :: u162 :: u163 :: u164 :: u165 :: u166 :: u167 :: u168 :: u169 :: u170 :: u171 :: u172 :: u173 :: u174 :: u175 :: u176 :: u177 :: u178 :: u179 :: u180 :: u181 :: u182 :: u183 :: u184 :: u185 :: u186 :: u187 :: u188 :: u189 :: u190 :: u191 :: u192 :: u193 :: u194 :: u195 :: u196 :: u197 :: u198 :: u199 :: u200 :: u201 :: u202 :: u203 :: u204 :: u205 :: u206 :: u207 :: u208 :: u209 :: u210 :: u211 :: u212 :: u213 :: u214 :: u215 :: u216 :: u217 :: u218 :: u219 :: u220 :: u221 :: u222 :: u223 :: u224 :: u225 :: u226 :: u227 :: u228 :: u229 :: u230 :: u231 :: u232 :: u233 :: u234 :: u235 :: u236 :: u237 :: u238 :: u239 :: u240 :: u241 :: u242 :: u243 :: u244 :: u245 :: u246 :: u247 :: u248 :: u249 :: u250 :: u251 :: u252 :: u253 :: u254 :: u255 :: u256 :: u257 :: u258 :: u259 :: u260 :: u261 :: u262 :: u263 :: u264 :: u265 :: u266 :: u267 :: u268 :: u269 :: u270 :: u271 :: u272 :: u273 :: u274 :: u275 :: u276 :: u277 :: u278 :: u279 :: u280 :: u281 :: u282 :: u283 :: u284 :: u285 :: u286 :: u287 :: u288 :: u289 :: u290 :: u291 :: u292 :: u293 :: u294 :: u295 :: u296 :: u297 :: u298 :: u299 :: u300 :: u301 :: u302 :: u303 :: u304 :: u305 :: u306 :: u307 :: u308 :: u309 :: u310 :: u311 :: u312 :: u313 :: u314 :: u315 :: u316 :: u317 :: u318 :: u319 :: u320 :: u321 :: u322 :: u323 :: u324 :: u325 :: u326 :: u327 :: u328 :: u329 :: u330 :: u331 :: u332 :: u333 :: u334 :: u335 :: u336 :: u337 :: u338 :: u339 :: u340 :: u341 :: u342 :: u343 :: u344 :: u345 :: u346 :: u347 :: u348 :: u349 :: u350 :: u351 :: u352 :: u353 :: u354 :: u355 :: u356 :: u357 :: u358 :: u359 :: u360 :: u361 :: u362 :: u363 :: u364 :: u365 :: u366 :: u367 :: u368 :: u369 :: u370 :: u371 :: u372 :: u373 :: u374 :: u375 :: []), []⟩ w5 := by
  unfold moreTail
  conv => arg 2; whnf
  have hg5 := RowB.lt hM
  have hbx := hb0.ext hE15
  have hbd := hbx.drew
  have hlt5 := hbx.lt
  go_upto_region 11 with (fail)
  go_cut [18, 19] from 89 to 375 (fun s18 s19 wc => ∃ A B, s18 = .pointer (some ⟨A, 0, none⟩) ∧ s19 = .pointer (some ⟨B, 0, none⟩) ∧ Blk wc A (reefV r (.slice a1 r.places.length c1)) 24 ∧ Blk wc B (reefV r (.slice a1 r.places.length c1)) 24 ∧ A ≠ B ∧ w5.heap.size ≤ A ∧ w5.heap.size ≤ B ∧ Ext w5 wc)
  case first =>
    refine wp_region_late 5 (fun c y => c = false → (∀ o, y.cell? ⟨w.heap.size, o, none⟩ = (reefV r (.slice a1 r.places.length c1) : Array Value)[o]?)) (by kernel_rfl) (fun hL => ?_)
    refine late_early (i := 0) (v := ?_) rfl (by kernel_rfl) (by kernel_rfl) (by kernel_rfl) (by decide) (by kernel_rfl) (fun _ _ _ h => h) hL (Or.inl ⟨by rfl, ?_⟩) (fun _ => hbd.cell) (fun hL' => ?_)
    rotate_left
    · intro y hy; have g1 := hy rfl; go_simp; (try with_reducible rfl)
    clear hL; rename Shutb _ _ => hL
    (try simp only [Act.put, List.setIfInBounds_toArray, List.set_cons_zero, List.set_cons_succ])
    refine late_early (i := 1) (v := ?_) rfl (by kernel_rfl) (by kernel_rfl) (by kernel_rfl) (by decide) (by kernel_rfl) (fun _ _ _ h => h) hL (Or.inl ⟨by rfl, ?_⟩) (fun _ => hbd.cell) (fun hL' => ?_)
    rotate_left
    · intro y hy; have g1 := hy rfl; go_simp; (try with_reducible rfl)
    clear hL; rename Shutb _ _ => hL
    (try simp only [Act.put, List.setIfInBounds_toArray, List.set_cons_zero, List.set_cons_succ])
    refine late_two (i := 2) (j := 3) (by kernel_rfl) hL (fun hL' => ?_) (fun hL' => ?_)
    · refine wpOp_step rfl (fun K hK0 => ?_)
      have hK : Shut _ := hK0
      clear hK0
      go_simp
      refine hK.out _ _ ⟨(fun _ => Blk.cell (e := 24) (by with_reducible repeat (first | exact hbx | apply Blk.drew | apply Blk.alloc))), ?_⟩
      clear hK K; clear hL; rename Shutb _ _ => hL
      (try simp only [Act.put, List.setIfInBounds_toArray, List.set_cons_zero, List.set_cons_succ])
      refine late_one (i := 3) (by kernel_rfl) hL (fun hL' => ?_)
      refine wpOp_step rfl (fun K hK0 => ?_)
      have hK : Shut _ := hK0
      clear hK0
      go_simp
      refine hK.out _ _ ⟨(fun _ => Blk.cell (e := 24) (by with_reducible repeat (first | exact hbx | apply Blk.drew | apply Blk.alloc))), ?_⟩
      clear hK K; clear hL; rename Shutb _ _ => hL
      (try simp only [Act.put, List.setIfInBounds_toArray, List.set_cons_zero, List.set_cons_succ])
      refine late_one (i := 4) (by kernel_rfl) hL (fun hL' => ?_)
      refine wpOp_step rfl (fun K hK0 => ?_)
      have hK : Shut _ := hK0
      clear hK0
      go_simp
      refine hK.out _ _ ⟨(fun _ => Blk.cell (e := 24) (by with_reducible repeat (first | exact hbx | apply Blk.drew | apply Blk.alloc))), ?_⟩
      clear hK K; clear hL; rename Shutb _ _ => hL
      (try simp only [Act.put, List.setIfInBounds_toArray, List.set_cons_zero, List.set_cons_succ])
      refine late_one (i := 5) (by kernel_rfl) hL (fun hL' => ?_)
      refine wpOp_step rfl (fun K hK0 => ?_)
      have hK : Shut _ := hK0
      clear hK0
      go_simp
      refine hK.out _ _ ⟨fun e => absurd (e : true = false) (by decide), ?_⟩
      clear hK K; clear hL; rename Shutb _ _ => hL
      (try simp only [Act.put, List.setIfInBounds_toArray, List.set_cons_zero, List.set_cons_succ])
      refine late_done (by kernel_rfl) ?_
      (try dsimp only [Exit.then])
      go_wp2
      go_meet
      exact ⟨w5.heap.size, (w5.heap.size + 1), rfl, rfl, (by with_reducible exact (Blk.alloc (Blk.new' rfl _ _) _).drew), (by with_reducible exact (Blk.new' (by simp) _ _).drew), by omega, by omega, by omega, (by with_reducible repeat (first | exact Ext.refl _ | apply Ext.drew | apply Ext.alloc))⟩
    · refine wpOp_step rfl (fun K hK0 => ?_)
      have hK : Shut _ := hK0
      clear hK0
      go_simp
      refine hK.out _ _ ⟨(fun _ => Blk.cell (e := 24) (by with_reducible repeat (first | exact hbx | apply Blk.drew | apply Blk.alloc))), ?_⟩
      clear hK K; clear hL; rename Shutb _ _ => hL
      (try simp only [Act.put, List.setIfInBounds_toArray, List.set_cons_zero, List.set_cons_succ])
      refine late_one (i := 2) (by kernel_rfl) hL (fun hL' => ?_)
      refine wpOp_step rfl (fun K hK0 => ?_)
      have hK : Shut _ := hK0
      clear hK0
      go_simp
      refine hK.out _ _ ⟨(fun _ => Blk.cell (e := 24) (by with_reducible repeat (first | exact hbx | apply Blk.drew | apply Blk.alloc))), ?_⟩
      clear hK K; clear hL; rename Shutb _ _ => hL
      (try simp only [Act.put, List.setIfInBounds_toArray, List.set_cons_zero, List.set_cons_succ])
      refine late_one (i := 4) (by kernel_rfl) hL (fun hL' => ?_)
      refine wpOp_step rfl (fun K hK0 => ?_)
      have hK : Shut _ := hK0
      clear hK0
      go_simp
      refine hK.out _ _ ⟨(fun _ => Blk.cell (e := 24) (by with_reducible repeat (first | exact hbx | apply Blk.drew | apply Blk.alloc))), ?_⟩
      clear hK K; clear hL; rename Shutb _ _ => hL
      (try simp only [Act.put, List.setIfInBounds_toArray, List.set_cons_zero, List.set_cons_succ])
      refine late_one (i := 5) (by kernel_rfl) hL (fun hL' => ?_)
      refine wpOp_step rfl (fun K hK0 => ?_)
      have hK : Shut _ := hK0
      clear hK0
      go_simp
      refine hK.out _ _ ⟨fun e => absurd (e : true = false) (by decide), ?_⟩
      clear hK K; clear hL; rename Shutb _ _ => hL
      (try simp only [Act.put, List.setIfInBounds_toArray, List.set_cons_zero, List.set_cons_succ])
      refine late_done (by kernel_rfl) ?_
      (try dsimp only [Exit.then])
      go_wp2
      go_meet
      exact ⟨(w5.heap.size + 1), w5.heap.size, rfl, rfl, (by with_reducible exact (Blk.new' (by simp) _ _).drew), (by with_reducible exact (Blk.alloc (Blk.new' rfl _ _) _).drew), by omega, by omega, by omega, (by with_reducible repeat (first | exact Ext.refl _ | apply Ext.drew | apply Ext.alloc))⟩
  case rest =>
    obtain ⟨A, B, rfl, rfl, hBA, hBB, hAB, hA5, hB5, hE56⟩ := hcut
    rename World => w6
    rename Act → World → Prop => KK
    rename ∀ _ _, _ → KK _ _ => hKK
    have hz5 := hE15.size
    exact hKK _ _ (moreTail5 r plan M w w1 a1 a2 c1 c2 cap g s k low high faster hP hL hA hAM hE1 hb0 hs hk hl0 hl1 hl2 hf0 hf1 hMM w6 A B (RowB.ext hM hE56) (hE15.trans hE56) hgw hBA hBB hAB (by omega) (by omega) (by omega) (by omega))
end Go.Proofs.Ythffoglpekpmdaa
