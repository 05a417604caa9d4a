/- ReefMore: the comparison. -/
import Derived.Test.YthffoglpekpmdaaL11r
namespace Go.Proofs.Ythffoglpekpmdaa
set_option linter.unusedVariables false
set_option linter.unusedSimpArgs false
open Go.RowKit

set_option maxRecDepth 1000000 in
set_option maxHeartbeats 32000000 in
theorem moreTail11 {u1 u2 u3 u4 u5 u6 u8 u9 u10 u11 u12 u13 u15 u16 u17 u18 u19 u20 u21 u30 u31 u32 u33 u34 u35 u36 u37 u38 u39 u40 u41 u42 u43 u44 u45 u46 u47 u48 u49 u50 u51 u52 u53 u54 u55 u56 u57 u58 u59 u60 u61 u62 u63 u64 u65 u66 u67 u68 u69 u70 u71 u72 u73 u74 u75 u76 u77 u78 u79 u80 u81 u82 u83 u84 u85 u86 u87 u88 u89 u90 u91 u92 u93 u94 u95 u96 u97 u98 u99 u100 u101 u102 u103 u104 u105 u106 u107 u108 u109 u110 u111 u112 u113 u114 u115 u116 u117 u118 u119 u120 u121 u122 u123 u124 u125 u126 u127 u128 u129 u130 u131 u132 u133 u134 u135 u136 u137 u138 u139 u140 u141 u142 u143 u144 u145 u146 u147 u148 u149 u150 u151 u152 u153 u154 u155 u156 u157 u158 u159 u160 u161 u162 u163 u164 u165 u166 u167 u168 u169 u170 u171 u172 u173 u174 u175 u176 u177 u178 u179 u180 u181 u182 u183 u184 u185 u186 u187 u188 u189 u190 u191 u192 u193 u194 u195 u196 u197 u198 u199 u200 u201 u202 u203 u204 u205 u206 u207 u208 u209 u210 u211 u212 u213 u214 u215 u216 u217 u218 u219 u220 u221 u222 u223 u224 u225 u226 u227 u228 u229 u230 u231 u232 u233 u234 u235 u236 u237 u238 u239 u240 u241 u242 u243 u244 u245 u246 u247 u248 u249 u250 u251 u252 u253 u254 u255 u256 u257 u258 u259 u260 u261 u262 u263 u264 u265 u266 u267 u268 u269 u270 u271 u272 u273 u274 u275 u276 u277 u278 u279 u280 u281 u282 u283 u284 u285 u286 u287 u288 u289 u290 u291 u292 u293 u294 u295 u296 u297 u298 u299 u300 u301 u302 u303 u304 u305 u306 u307 u308 u309 u310 u311 u312 u313 u314 u315 u316 u317 u318 u319 u320 u321 u322 u323 u324 u325 u326 u327 u328 u329 u330 u331 u332 u333 u334 u335 u336 u337 u338 u339 u340 u341 u342 u343 u344 u345 u346 u347 u348 u349 u350 u351 u352 u353 u354 u355 u356 u357 u358 u359 u360 u361 u362 u363 u364 u365 u366 u367 u368 u369 u370 u371 u372 u373 u374 u375 : Value} (r : R.Reef) (w w1 w2 : World) (a1 aA aB aC aD : Option Addr) (c1 cA cB cC cD : Nat) (SA SB SC SD : List (List (Int × Int))) (hE1 : Ext w w1) (hb0 : Blk w1 w.heap.size (reefV r (.slice a1 r.places.length c1)) 24) (hE12 : Ext w1 w2)
    (hvA : SpanRows w2 (.slice aA SA.length cA) SA) (hvB : SpanRows w2 (.slice aB SB.length cB) SB) (hvC : SpanRows w2 (.slice aC SC.length cC) SC) (hvD : SpanRows w2 (.slice aD SD.length cD) SD) (hf : Fits r.seasons.toNat r.places.length SA SB SC SD) (hns : 1 ≤ r.seasons) (hs4 : r.seasons ≤ 4) (hn4 : r.places.length ≤ 4) :
    Code.wp Try.prog (moreTail 11) (bodyPost Try.prog Try.f11 (fun e w' => e = .returned (.bool true) ∧ Ext w w')) ⟨List.toArray (.agg (reefV r (.slice a1 r.places.length c1)) :: u1 :: u2 :: u3 :: u4 :: u5 :: u6 :: .pointer (some ⟨w.heap.size, 0, none⟩) :: u8 :: u9 :: u10 :: u11 :: u12 :: u13 :: .bool false :: u15 :: u16 :: u17 :: u18 :: u19 :: u20 :: u21 :: .slice aA SA.length cA :: .int .i64 0 :: .slice aB SB.length cB :: .int .i64 0 :: .slice aC SC.length cC :: .int .i64 0 :: .slice aD SD.length cD :: .int .i64 0 :: u30 :: u31 :: u32 :: u33 :: u34 :: u35 :: u36 :: u37 :: u38 :: u39 :: u40 :: u41 :: u42 :: u43 :: u44 :: u45 :: u46 :: u47 :: u48 :: u49 :: u50 :: u51 :: u52 :: u53 :: u54 :: u55 :: u56 :: u57 :: u58 :: u59 :: u60 :: u61 :: u62 :: u63 :: u64 :: u65 :: u66 :: u67 :: u68 :: u69 :: u70 :: u71 :: u72 :: u73 :: u74 :: u75 :: u76 :: u77 :: u78 :: u79 :: u80 :: u81 :: u82 :: u83 :: u84 :: u85 :: u86 :: u87 :: u88 :: u89 :: u90 :: u91 :: u92 :: u93 :: u94 :: u95 :: u96 :: u97 :: u98 :: u99 :: u100 :: u101 :: u102 :: u103 :: u104 :: u105 :: u106 :: u107 :: u108 :: u109 :: u110 :: u111 :: u112 :: u113 :: u114 :: u115 :: u116 :: u117 :: u118 :: u119 :: u120 :: u121 :: u122 :: u123 :: u124 :: u125 :: u126 :: u127 :: u128 :: u129 :: u130 :: u131 :: u132 :: u133 :: u134 :: u135 :: u136 :: u137 :: u138 :: u139 :: u140 :: u141 :: u142 :: u143 :: u144 :: u145 :: u146 :: u147 :: u148 :: u149 :: u150 :: u151 :: u152 :: u153 :: u154 :: u155 :: u156 :: u157 :: u158 :: u159 :: u160 :: u161 :: u162 :: u163 :: u164 :: u165 :: u166 :: u167 :: u168 :: u169 :: u170 :: u171 :: u172 :: u173 :: u174 :: u175 :: u176 :: u177 :: u178 :: u179 :: u180 :: u181 :: u182 :: u183 :: u184 :: u185 :: u186 :: u187 :: u188 :: u189 :: u190 :: u191 :: u192 :: u193 :: u194 :: u195 :: u196 :: u197 :: u198 :: u199 :: u200 :: u201 :: u202 :: u203 :: u204 :: u205 :: u206 :: u207 :: u208 :: u209 :: u210 :: u211 :: u212 :: u213 :: u214 :: u215 :: u216 :: u217 :: u218 :: u219 :: u220 :: u221 :: u222 :: u223 :: u224 :: u225 :: u226 :: u227 :: u228 :: u229 :: u230 :: u231 :: u232 :: u233 :: u234 :: u235 :: u236 :: u237 :: u238 :: u239 :: u240 :: u241 :: u242 :: u243 :: u244 :: u245 :: u246 :: u247 :: u248 :: u249 :: u250 :: u251 :: u252 :: u253 :: u254 :: u255 :: u256 :: u257 :: u258 :: u259 :: u260 :: u261 :: u262 :: u263 :: u264 :: u265 :: u266 :: u267 :: u268 :: u269 :: u270 :: u271 :: u272 :: u273 :: u274 :: u275 :: u276 :: u277 :: u278 :: u279 :: u280 :: u281 :: u282 :: u283 :: u284 :: u285 :: u286 :: u287 :: u288 :: u289 :: u290 :: u291 :: u292 :: u293 :: u294 :: u295 :: u296 :: u297 :: u298 :: u299 :: u300 :: u301 :: u302 :: u303 :: u304 :: u305 :: u306 :: u307 :: u308 :: u309 :: u310 :: u311 :: u312 :: u313 :: u314 :: u315 :: u316 :: u317 :: u318 :: u319 :: u320 :: u321 :: u322 :: u323 :: u324 :: u325 :: u326 :: u327 :: u328 :: u329 :: u330 :: u331 :: u332 :: u333 :: u334 :: u335 :: u336 :: u337 :: u338 :: u339 :: u340 :: u341 :: u342 :: u343 :: u344 :: u345 :: u346 :: u347 :: u348 :: u349 :: u350 :: u351 :: u352 :: u353 :: u354 :: u355 :: u356 :: u357 :: u358 :: u359 :: u360 :: u361 :: u362 :: u363 :: u364 :: u365 :: u366 :: u367 :: u368 :: u369 :: u370 :: u371 :: u372 :: u373 :: u374 :: u375 :: []), []⟩ w2 := by
  unfold moreTail
  conv => arg 2; whnf
  have hE02 := hE1.trans hE12
  have hbx := hb0.ext hE12
  obtain ⟨m, hm⟩ : ∃ m, r.seasons.toNat = m := ⟨_, rfl⟩
  rw [hm] at hf
  have hla := hf.la
  have hlb := hf.lb
  have hlc := hf.lc
  have hld := hf.ld
  have hm4 : m ≤ 4 := by omega
  rw [hla, hlb, hlc, hld]
  obtain ⟨_, _, e0, hxA⟩ := hvA
  cases e0
  obtain ⟨_, _, e0, hxB⟩ := hvB
  cases e0
  obtain ⟨_, _, e0, hxC⟩ := hvC
  cases e0
  obtain ⟨_, _, e0, hxD⟩ := hvD
  cases e0
  have HXA := Lib.hid hxA
  have HXB := Lib.hid hxB
  have HXC := Lib.hid hxC
  have HXD := Lib.hid hxD
  have HF := Lib.hid hf
  have hms : (m : Int) = r.seasons := by omega
  have HMS := Lib.hid hms
  have HM := Lib.hid hm
  clear hxA hxB hxC hxD hf hla hlb hlc hld hms hm
  obtain ⟨n, hn⟩ : ∃ n, r.places.length = n := ⟨_, rfl⟩
  have HN := Lib.hid hn
  rw [hn] at HF hn4 ⊢
  have hbn : ∀ y, Ext w2 y → (∀ o, y.cell? ⟨w.heap.size, o, none⟩ = (#[.slice a1 n c1, .int .i64 r.miss, .int .i64 r.seasons] : Array Value)[o]?) ∧ w.heap.size < y.heap.size := fun y hy => ⟨by rw [← hn]; exact (hbx.ext hy).cell, (hbx.ext hy).lt⟩
  have HBN := Lib.hid hbn
  clear hbn hbx hb0 hn
  go_upto_region 23 with (fail)
  refine moreReg23 w.heap.size m n cA cB cC cD c1 a1 aA aB aC aD r.miss r.seasons w2 _ (fun _ _ d _ _ h => by cases d <;> exact h) (HBN.out w2 (Ext.refl _)) HMS.out ?_
  intro _ _ _ _ _ _ _ _ _ _ _ _ _ _ _ _ _ _ _ _ _ _ _ _ _ _ _ _ _ _ _ _ _ _ _ _ _ _ _ _ _ w3 hE23
  go_upto_region 25 with (fail)
  go_wp2
  go_loopw [30, 31, 32] (fun i _ _ wr => ∃ s : Nat, s ≤ m ∧ i = .int .i64 s ∧ Ext w2 wr) (fun i _ _ _ => m - (intOf i).toNat)
  case atStart => exact ⟨0, Nat.zero_le _, rfl, hE23⟩
  case round =>
    rename World => wr
    obtain ⟨s, hs, rfl, hEr⟩ := hrel
    by_cases hlt : s < m
    · obtain ⟨bA, oA, eA, hbA, xA, hcA, hrA⟩ := HXA.out s (by have := HF.out.la; omega)
      cases eA
      simp only [Nat.mul_one] at hcA
      obtain ⟨gA, kA, eA, hyA⟩ := hrA
      subst eA
      rw [HF.out.ra s (by have := HF.out.la; omega)] at hcA
      have HYA := Lib.hid hyA
      clear hyA
      have z1 := (hEr.cells.1 _ _ hbA).trans hcA
      have z1l := Nat.lt_of_lt_of_le hbA hEr.size
      clear hcA
      obtain ⟨bB, oB, eB, hbB, xB, hcB, hrB⟩ := HXB.out s (by have := HF.out.lb; omega)
      cases eB
      simp only [Nat.mul_one] at hcB
      obtain ⟨gB, kB, eB, hyB⟩ := hrB
      subst eB
      rw [HF.out.rb s (by have := HF.out.lb; omega)] at hcB
      have HYB := Lib.hid hyB
      clear hyB
      have z2 := (hEr.cells.1 _ _ hbB).trans hcB
      have z2l := Nat.lt_of_lt_of_le hbB hEr.size
      clear hcB
      obtain ⟨bC, oC, eC, hbC, xC, hcC, hrC⟩ := HXC.out s (by have := HF.out.lc; omega)
      cases eC
      simp only [Nat.mul_one] at hcC
      obtain ⟨gC, kC, eC, hyC⟩ := hrC
      subst eC
      rw [HF.out.rc s (by have := HF.out.lc; omega)] at hcC
      have HYC := Lib.hid hyC
      clear hyC
      have z3 := (hEr.cells.1 _ _ hbC).trans hcC
      have z3l := Nat.lt_of_lt_of_le hbC hEr.size
      clear hcC
      obtain ⟨bD, oD, eD, hbD, xD, hcD, hrD⟩ := HXD.out s (by have := HF.out.ld; omega)
      cases eD
      simp only [Nat.mul_one] at hcD
      obtain ⟨gD, kD, eD, hyD⟩ := hrD
      subst eD
      rw [HF.out.rd s (by have := HF.out.ld; omega)] at hcD
      have HYD := Lib.hid hyD
      clear hyD
      have z4 := (hEr.cells.1 _ _ hbD).trans hcD
      have z4l := Nat.lt_of_lt_of_le hbD hEr.size
      clear hcD
      go_upto_region 28 with (fail)
      refine moreReg28 w.heap.size s m n cA cB cC cD c1 bA bB bC bD oA oB oC oD kA kB kC kD a1 gA gB gC gD r.miss r.seasons wr _ (fun _ _ d _ _ h => by cases d <;> exact h) (HBN.out wr hEr) z1 z1l z2 z2l z3 z3l z4 z4l hlt ?_
      intro _ _ _ _ _ _ _ _ _ _ _ _ _ _ _ _ _ _ _ _ _ _ _ _ _ _ _ _ _ _ _ _ _ _ _ _ _ _ _ _ _ _ _ _ _ _ _ wq hEwq
      have z1' := (hEwq.cells.1 _ _ z1l).trans z1
      have z1m := Nat.lt_of_lt_of_le z1l hEwq.size
      have z2' := (hEwq.cells.1 _ _ z2l).trans z2
      have z2m := Nat.lt_of_lt_of_le z2l hEwq.size
      have z3' := (hEwq.cells.1 _ _ z3l).trans z3
      have z3m := Nat.lt_of_lt_of_le z3l hEwq.size
      have z4' := (hEwq.cells.1 _ _ z4l).trans z4
      have z4m := Nat.lt_of_lt_of_le z4l hEwq.size
      clear z1 z2 z3 z4
      go_wp2
      go_loopw [31, 32] (fun i _ wx => ∃ j : Nat, j ≤ n ∧ i = .int .i64 j ∧ Ext wq wx) (fun i _ _ => n - (intOf i).toNat)
      case atStart => exact ⟨0, Nat.zero_le _, rfl, Ext.refl _⟩
      case round =>
        rename World => wx
        obtain ⟨j, hj, rfl, hEx⟩ := hrel
        have hE2x : Ext w2 wx := (hEr.trans hEwq).trans hEx
        have z1 := (hEx.cells.1 _ _ z1m).trans z1'
        have z1k := Nat.lt_of_lt_of_le z1m hEx.size
        have z2 := (hEx.cells.1 _ _ z2m).trans z2'
        have z2k := Nat.lt_of_lt_of_le z2m hEx.size
        have z3 := (hEx.cells.1 _ _ z3m).trans z3'
        have z3k := Nat.lt_of_lt_of_le z3m hEx.size
        have z4 := (hEx.cells.1 _ _ z4m).trans z4'
        have z4k := Nat.lt_of_lt_of_le z4m hEx.size
        by_cases hlj : j < n
        · have iA : s < SA.length := by have := HF.out.la; omega
          have jA : j < SA[s].length := by rw [HF.out.ra s iA]; exact hlj
          obtain ⟨pA, qA, eA, hpA, hAtA⟩ := HYA.out j jA
          cases eA
          obtain ⟨loA, hiA⟩ := span_cells (ate_stays _ _ _ _ _ _ hE2x hpA hAtA)
          have lsA := Nat.lt_of_lt_of_le hpA hE2x.size
          clear hAtA
          have iB : s < SB.length := by have := HF.out.lb; omega
          have jB : j < SB[s].length := by rw [HF.out.rb s iB]; exact hlj
          obtain ⟨pB, qB, eB, hpB, hAtB⟩ := HYB.out j jB
          cases eB
          obtain ⟨loB, hiB⟩ := span_cells (ate_stays _ _ _ _ _ _ hE2x hpB hAtB)
          have lsB := Nat.lt_of_lt_of_le hpB hE2x.size
          clear hAtB
          have iC : s < SC.length := by have := HF.out.lc; omega
          have jC : j < SC[s].length := by rw [HF.out.rc s iC]; exact hlj
          obtain ⟨pC, qC, eC, hpC, hAtC⟩ := HYC.out j jC
          cases eC
          obtain ⟨loC, hiC⟩ := span_cells (ate_stays _ _ _ _ _ _ hE2x hpC hAtC)
          have lsC := Nat.lt_of_lt_of_le hpC hE2x.size
          clear hAtC
          have iD : s < SD.length := by have := HF.out.ld; omega
          have jD : j < SD[s].length := by rw [HF.out.rd s iD]; exact hlj
          obtain ⟨pD, qD, eD, hpD, hAtD⟩ := HYD.out j jD
          cases eD
          obtain ⟨loD, hiD⟩ := span_cells (ate_stays _ _ _ _ _ _ hE2x hpD hAtD)
          have lsD := Nat.lt_of_lt_of_le hpD hE2x.size
          clear hAtD
          obtain ⟨c1', c2', c3', c4', c5', c6'⟩ := HF.out.le s iA iB iC iD j jA jB jC jD
          obtain ⟨xA, hxA⟩ : ∃ x, SA[s][j] = x := ⟨_, rfl⟩
          rw [hxA] at loA hiA
          obtain ⟨xB, hxB⟩ : ∃ x, SB[s][j] = x := ⟨_, rfl⟩
          rw [hxB] at loB hiB
          obtain ⟨xC, hxC⟩ : ∃ x, SC[s][j] = x := ⟨_, rfl⟩
          rw [hxC] at loC hiC
          obtain ⟨xD, hxD⟩ : ∃ x, SD[s][j] = x := ⟨_, rfl⟩
          rw [hxD] at loD hiD
          rw [hxA, hxB] at c1' c2'
          rw [hxA, hxD] at c3' c4'
          rw [hxA, hxC] at c5' c6'
          clear hxA hxB hxC hxD
          go_upto_region 34 with (fail)
          obtain ⟨wk, hwk⟩ : ∃ wk, wx.alloc (.cells #[.int .i64 xA.1, .int .i64 xA.2] 44) = wk := ⟨_, rfl⟩
          have hsp : Blk wk wx.heap.size #[.int .i64 xA.1, .int .i64 xA.2] 44 := by rw [← hwk]; exact Blk.new' rfl _ _
          have hExk : Ext wx wk := by rw [← hwk]; (with_reducible (repeat (first | exact Ext.refl _ | assumption | apply Ext.alloc | apply Ext.drew | exact ext_plus _ _ | (apply Ext.setCell; rotate_left; (simp <;> omega)) | (apply Ext.trans; rotate_left; exact ext_plus _ _) | (apply Ext.trans; rotate_left; assumption))))
          rw [hwk]
          clear hwk
          obtain ⟨bS, hbS⟩ : ∃ bS, wx.heap.size = bS := ⟨_, rfl⟩
          rw [hbS] at hsp z1k z2k z3k z4k lsA lsB lsC lsD ⊢
          have y1 := hsp.lt
          have z2n := (hExk.cells.1 _ _ (by rw [hbS]; exact z2k)).trans z2
          have loB' := (hExk.cells.1 _ _ (by rw [hbS]; exact lsB)).trans loB
          have hiB' := (hExk.cells.1 _ _ (by rw [hbS]; exact lsB)).trans hiB
          have z3n := (hExk.cells.1 _ _ (by rw [hbS]; exact z3k)).trans z3
          have loC' := (hExk.cells.1 _ _ (by rw [hbS]; exact lsC)).trans loC
          have hiC' := (hExk.cells.1 _ _ (by rw [hbS]; exact lsC)).trans hiC
          have z4n := (hExk.cells.1 _ _ (by rw [hbS]; exact z4k)).trans z4
          have loD' := (hExk.cells.1 _ _ (by rw [hbS]; exact lsD)).trans loD
          have hiD' := (hExk.cells.1 _ _ (by rw [hbS]; exact lsD)).trans hiD
          refine moreReg34 bS s j m n cB cC cD bB bC bD oB oC oD kB kC kD pB pC pD qB qC qD xA xB xC xD wk _ (fun _ _ d _ _ h => by cases d <;> exact h) hsp.cell y1 z2n (by omega) loB' hiB' (by omega) z3n (by omega) loC' hiC' (by omega) z4n (by omega) loD' hiD' (by omega) hlt hlj (by omega) (by omega) (by omega) (by omega) (by omega) (by omega) ?_
          intro _ _ _ _ _ _ _ _ _ _ _ _ _ _ _ _ _ _ _ _ _ _ _ _ _ _ _ _ _ _ _ _ _ _ _ _ _ _ _ _ _ _ _ _ _ _ _ _ _ _ _ _ _ _ _ _ _ _ _ _ _ _ _ _ _ _ _ _ _ _ _ _ _ _ _ wz hEwz
          clear z1 z2 z3 z4 z1' z2' z3' z4' loA loB loC loD hiA hiB hiC hiD z2n z3n z4n loB' loC' loD' hiB' hiC' hiD' c1' c2' c3' c4' c5' c6'
          go_wp2
          go_roundw
          case rel => exact ⟨j + 1, by omega, by go_num, (hEx.trans hExk).trans hEwz⟩
          case measure => simp [intOf]; omega
        · obtain rfl : j = n := by omega
          go_wp2
          go_roundw
          case rel => exact ⟨s + 1, by omega, by go_num, (hEr.trans hEwq).trans hEx⟩
          case measure => simp [intOf]; omega
    · obtain rfl : s = m := by omega
      go_wp2_with (first | (go_at_call 17; refine (known_any _).mono ?_; rintro e wk ⟨rfl, hbk⟩))
      go_ret
      exact ⟨rfl, (hE02.trans hEr).trans hbk⟩
set_option maxRecDepth 1000000 in
set_option maxHeartbeats 32000000 in
theorem moreTail7 {u8 u9 u10 u11 u12 u13 u16 u17 u20 u21 u22 u23 u24 u25 u26 u27 u28 u29 u30 u31 u32 u33 u34 u35 u36 u37 u38 u39 u40 u41 u42 u43 u44 u45 u46 u47 u48 u49 u50 u51 u52 u53 u54 u55 u56 u57 u58 u59 u60 u61 u62 u63 u64 u65 u66 u67 u68 u69 u70 u71 u72 u73 u74 u75 u76 u77 u78 u79 u80 u81 u82 u83 u84 u85 u86 u87 u88 u89 u90 u91 u92 u93 u94 u95 u96 u97 u98 u99 u100 u101 u102 u103 u104 u105 u106 u107 u108 u109 u110 u111 u112 u113 u114 u115 u116 u117 u118 u119 u120 u121 u122 u123 u124 u125 u126 u127 u128 u129 u130 u131 u132 u133 u134 u135 u136 u137 u138 u139 u140 u141 u142 u143 u144 u145 u146 u147 u148 u149 u150 u151 u152 u153 u154 u155 u156 u157 u158 u159 u160 u161 u162 u163 u164 u165 u166 u167 u168 u169 u170 u171 u172 u173 u174 u175 u176 u177 u178 u179 u180 u181 u182 u183 u184 u185 u186 u187 u188 u189 u190 u191 u192 u193 u194 u195 u196 u197 u198 u199 u200 u201 u202 u203 u204 u205 u206 u207 u208 u209 u210 u211 u212 u213 u214 u215 u216 u217 u218 u219 u220 u221 u222 u223 u224 u225 u226 u227 u228 u229 u230 u231 u232 u233 u234 u235 u236 u237 u238 u239 u240 u241 u242 u243 u244 u245 u246 u247 u248 u249 u250 u251 u252 u253 u254 u255 u256 u257 u258 u259 u260 u261 u262 u263 u264 u265 u266 u267 u268 u269 u270 u271 u272 u273 u274 u275 u276 u277 u278 u279 u280 u281 u282 u283 u284 u285 u286 u287 u288 u289 u290 u291 u292 u293 u294 u295 u296 u297 u298 u299 u300 u301 u302 u303 u304 u305 u306 u307 u308 u309 u310 u311 u312 u313 u314 u315 u316 u317 u318 u319 u320 u321 u322 u323 u324 u325 u326 u327 u328 u329 u330 u331 u332 u333 u334 u335 u336 u337 u338 u339 u340 u341 u342 u343 u344 u345 u346 u347 u348 u349 u350 u351 u352 u353 u354 u355 u356 u357 u358 u359 u360 u361 u362 u363 u364 u365 u366 u367 u368 u369 u370 u371 u372 u373 u374 u375 : Value} (r : R.Reef) (plan M : List Int) (w w1 : World) (a1 a2 : Option Addr) (c1 c2 cap g s k : Nat) (low high faster : Int) (hP : Places w (.slice a1 r.places.length c1) r.places) (hL : Ints w (.slice a2 plan.length c2) plan)
    (hA : rightB r plan = true) (hAM : rightB r M = true) (hE1 : Ext w w1) (hb0 : Blk w1 w.heap.size (reefV r (.slice a1 r.places.length c1)) 24) (hs : s < plan.length) (hk : k < r.places.length) (hl0 : 0 ≤ low) (hl1 : low ≤ high) (hl2 : high ≤ 100) (hf0 : 0 ≤ faster) (hf1 : faster ≤ 2000) (hMM : M = R.moreL plan s k) (w7 : World) (A B gA gB cA cB : Nat) (hE17 : Ext w1 w7) (hM : IRow w7 g M) (hBA : Blk w7 A (reefV r (.slice (some ⟨gA, 0, none⟩) r.places.length cA)) 24) (hBB : Blk w7 B (reefV r (.slice (some ⟨gB, 0, none⟩) r.places.length cB)) 24) (hrA : RowB placeC 12 46 w7 gA (R.regrow (R.narrowF low high) r).places) (hrB : RowB placeC 12 46 w7 gB (R.regrow (R.fasterF faster) r).places) :
    Code.wp Try.prog (moreTail 7) (bodyPost Try.prog Try.f11 (fun e w' => e = .returned (.bool true) ∧ Ext w w')) ⟨List.toArray (.agg (reefV r (.slice a1 r.places.length c1)) :: .slice a2 plan.length c2 :: .int .i64 s :: .int .i64 k :: .int .i64 low :: .int .i64 high :: .int .i64 faster :: .pointer (some ⟨w.heap.size, 0, none⟩) :: u8 :: u9 :: u10 :: u11 :: u12 :: u13 :: .bool false :: .slice (some ⟨g, 0, none⟩) plan.length cap :: u16 :: u17 :: .pointer (some ⟨A, 0, none⟩) :: .pointer (some ⟨B, 0, none⟩) :: u20 :: u21 :: u22 :: u23 :: u24 :: u25 :: u26 :: u27 :: u28 :: u29 :: u30 :: u31 :: u32 :: u33 :: u34 :: u35 :: u36 :: u37 :: u38 :: u39 :: u40 :: u41 :: u42 :: u43 :: u44 :: u45 :: u46 :: u47 :: u48 :: u49 :: u50 :: u51 :: u52 :: u53 :: u54 :: u55 :: u56 :: u57 :: u58 :: u59 :: u60 :: u61 :: u62 :: u63 :: u64 :: u65 :: u66 :: u67 :: u68 :: u69 :: u70 :: u71 :: u72 :: u73 :: u74 :: u75 :: u76 :: u77 :: u78 :: u79 :: u80 :: u81 :: u82 :: u83 :: u84 :: u85 :: u86 :: u87 :: u88 :: u89 :: u90 :: u91 :: u92 :: u93 :: u94 :: u95 :: u96 :: u97 :: u98 :: u99 :: u100 :: u101 :: u102 :: u103 :: u104 :: u105 :: u106 :: u107 :: u108 :: u109 :: u110 :: u111 :: u112 :: u113 :: u114 :: u115 :: u116 :: u117 :: u118 :: u119 :: u120 :: u121 :: u122 :: u123 :: u124 :: u125 :: u126 :: u127 :: u128 :: u129 :: u130 :: u131 :: u132 :: u133 :: u134 :: u135 :: u136 :: u137 :: u138 :: u139 :: u140 :: u141 :: u142 :: u143 :: u144 :: u145 :: u146 :: u147 :: u148 :: u149 :: u150 :: u151 :: u152 :: u153 :: u154 :: u155 :: u156 :: u157 :: u158 :: u159 :: u160 :: u161 :: u162 :: u163 :: u164 :: u165 :: u166 :: u167 :: u168 :: u169 :: u170 :: u171 :: u172 :: u173 :: u174 :: u175 :: u176 :: u177 :: u178 :: u179 :: u180 :: u181 :: u182 :: u183 :: u184 :: u185 :: u186 :: u187 :: u188 :: u189 :: u190 :: u191 :: u192 :: u193 :: u194 :: u195 :: u196 :: u197 :: u198 :: u199 :: u200 :: u201 :: u202 :: u203 :: u204 :: u205 :: u206 :: u207 :: u208 :: u209 :: u210 :: u211 :: u212 :: u213 :: u214 :: u215 :: u216 :: u217 :: u218 :: u219 :: u220 :: u221 :: u222 :: u223 :: u224 :: u225 :: u226 :: u227 :: u228 :: u229 :: u230 :: u231 :: u232 :: u233 :: u234 :: u235 :: u236 :: u237 :: u238 :: u239 :: u240 :: u241 :: u242 :: u243 :: u244 :: u245 :: u246 :: u247 :: u248 :: u249 :: u250 :: u251 :: u252 :: u253 :: u254 :: u255 :: u256 :: u257 :: u258 :: u259 :: u260 :: u261 :: u262 :: u263 :: u264 :: u265 :: u266 :: u267 :: u268 :: u269 :: u270 :: u271 :: u272 :: u273 :: u274 :: u275 :: u276 :: u277 :: u278 :: u279 :: u280 :: u281 :: u282 :: u283 :: u284 :: u285 :: u286 :: u287 :: u288 :: u289 :: u290 :: u291 :: u292 :: u293 :: u294 :: u295 :: u296 :: u297 :: u298 :: u299 :: u300 :: u301 :: u302 :: u303 :: u304 :: u305 :: u306 :: u307 :: u308 :: u309 :: u310 :: u311 :: u312 :: u313 :: u314 :: u315 :: u316 :: u317 :: u318 :: u319 :: u320 :: u321 :: u322 :: u323 :: u324 :: u325 :: u326 :: u327 :: u328 :: u329 :: u330 :: u331 :: u332 :: u333 :: u334 :: u335 :: u336 :: u337 :: u338 :: u339 :: u340 :: u341 :: u342 :: u343 :: u344 :: u345 :: u346 :: u347 :: u348 :: u349 :: u350 :: u351 :: u352 :: u353 :: u354 :: u355 :: u356 :: u357 :: u358 :: u359 :: u360 :: u361 :: u362 :: u363 :: u364 :: u365 :: u366 :: u367 :: u368 :: u369 :: u370 :: u371 :: u372 :: u373 :: u374 :: u375 :: []), []⟩ w7 := by
  unfold moreTail
  conv => arg 2; whnf
  have hns : 1 ≤ r.seasons := by have hR := hA; unfold rightB at hR; rw [Bool.and_eq_true] at hR; exact (R.okR_of hR.1).s1
  have hs4 : r.seasons ≤ 4 := by have hR := hA; unfold rightB at hR; rw [Bool.and_eq_true] at hR; exact (R.okR_of hR.1).s4
  have hR := hA
  unfold rightB at hR
  rw [Bool.and_eq_true] at hR
  have O := R.okR_of hR.1
  have OL := R.okL_iff.1 hR.2
  have hn4' := O.n4
  have hbx := hb0.ext hE17
  have hE07 := hE1.trans hE17
  have hRM := hAM
  unfold rightB at hRM
  rw [Bool.and_eq_true] at hRM
  have OM := R.okL_iff.1 hRM.2
  have hlm : plan.length ≤ 1000000 := by have := OL.len; have := O.s4; omega
  have hlM : M.length ≤ 1000000 := by have := OM.len; have := O.s4; omega
  have hfit := fits_all hA hs hk hl0 hl1 hl2 hf0
  have hAC := right_regrow hA (R.narrowF low high) (fun i hi => by have h := O.place i hi; have := R.narrow_bd hl0 hl1 hl2 h.g1; have := h.g0; have := h.g2; omega)
  have hAD := right_regrow hA (R.fasterF faster) (fun i hi => by have h := O.place i hi; have := h.g0; have := h.g1; have := h.g2; unfold R.fasterF; dsimp only; split <;> split <;> omega)
  have hml : M.length = plan.length := by rw [hMM, R.moreL_len]
  have h1 := fun w' (hx : Ext w w') => stocksR r plan _ _ w' (hP.ext hx) (hL.ext hx) (by omega) hlm hA
  have hPC := RowB.sls hrA cA
  have hPD := RowB.sls hrB cB
  rw [R.regrow_len] at hPC hPD
  have h2 := fun w' (hx : Ext w7 w') => stocksR r M _ _ w' (hP.ext (hE07.trans hx)) ((IRow.ints hM hml.symm cap).ext hx) (by omega) hlM hAM
  have h3 := fun w' (hx : Ext w7 w') => stocksR (R.regrow (R.narrowF low high) r) plan _ _ w' (Places.ext hPC hx) (hL.ext (hE07.trans hx)) (by rw [R.regrow_len]; omega) hlm hAC
  have h4 := fun w' (hx : Ext w7 w') => stocksR (R.regrow (R.fasterF faster) r) plan _ _ w' (Places.ext hPD hx) (hL.ext (hE07.trans hx)) (by rw [R.regrow_len]; omega) hlm hAD
  subst hMM
  obtain ⟨SA, hSA⟩ : ∃ SA, R.stocks r plan = SA := ⟨_, rfl⟩
  obtain ⟨SB, hSB⟩ : ∃ SB, R.stocks r (R.moreL plan s k) = SB := ⟨_, rfl⟩
  obtain ⟨SC, hSC⟩ : ∃ SC, R.stocks (R.regrow (R.narrowF low high) r) plan = SC := ⟨_, rfl⟩
  obtain ⟨SD, hSD⟩ : ∃ SD, R.stocks (R.regrow (R.fasterF faster) r) plan = SD := ⟨_, rfl⟩
  rw [hSA, hSB, hSC, hSD] at hfit
  simp only [hSA] at h1
  simp only [hSB] at h2
  simp only [hSC] at h3
  simp only [hSD] at h4
  have HF := Lib.hid hfit
  have H1 := Lib.hid h1
  have H2 := Lib.hid h2
  have H3 := Lib.hid h3
  have H4 := Lib.hid h4
  clear hfit h1 h2 h3 h4 O OL hR hRM OM hAC hAD hPC hPD hSA hSB hSC hSD hrA hrB hM
  have k0 := hbx.cell
  have k1 := hbx.lt
  go_upto_region 20 with (first | (go_at_call 41; refine (H1.out _ hE07).mono ?_; rintro e y1 ⟨vA, rfl, hvA, hE71⟩))
  obtain ⟨aA, cA', rfl, _⟩ := id hvA
  clear k0 k1
  have k0 := (hbx.ext hE71).cell
  have k1 := (hbx.ext hE71).lt
  go_upto_region 21 with (first | (go_at_call 41; refine (H2.out _ hE71).mono ?_; rintro e y2 ⟨vB, rfl, hvB, hE12⟩))
  have hE72 := hE71.trans hE12
  obtain ⟨aB, cB', rfl, _⟩ := id hvB
  clear k0 k1
  have hA2 := hBA.ext hE72
  have k0 := hA2.cell
  have k1 := hA2.lt
  go_upto_region 22 with (first | (go_at_call 41; refine (H3.out _ hE72).mono ?_; rintro e y3 ⟨vC, rfl, hvC, hE23⟩))
  rename Act → World → Prop => KK
  rename ∀ _ _, _ → KK _ _ => hKK
  have HKK := Lib.hid hKK
  clear hKK
  have hE73 := hE72.trans hE23
  obtain ⟨aC, cC', rfl, _⟩ := id hvC
  clear k0 k1
  have hB3 := hBB.ext hE73
  have k0 := hB3.cell
  have k1 := hB3.lt
  go_wp2_with (first | (go_at_call 41; refine (H4.out _ hE73).mono ?_; rintro e y4 ⟨vD, rfl, hvD, hE34⟩))
  obtain ⟨aD, cD', rfl, _⟩ := id hvD
  have hE74 := hE73.trans hE34
  exact HKK.out _ _ (moreTail11 r w w1 y4 a1 aA aB aC aD c1 cA' cB' cC' cD' SA SB SC SD hE1 hb0 (hE17.trans hE74) (hvA.ext (hE12.trans (hE23.trans hE34))) (hvB.ext (hE23.trans hE34)) (hvC.ext hE34) hvD HF.out hns hs4 hn4')
end Go.Proofs.Ythffoglpekpmdaa
