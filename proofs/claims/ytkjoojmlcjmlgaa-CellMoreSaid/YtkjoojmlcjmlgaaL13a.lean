/- The law CellMore: the tails. -/
import Derived.Test.YtkjoojmlcjmlgaaL13b
namespace Go.Proofs.Ytkjoojmlcjmlgaa
set_option linter.unusedVariables false
set_option linter.unusedSimpArgs false
open Go.RowKit
attribute [local go_sem] Oper.semAt_some
set_option maxRecDepth 1000000 in
set_option maxHeartbeats 64000000 in
theorem mor_tail18 {u0 u1 u2 u3 u4 u5 u6 u7 u9 u10 u11 u12 u13 u14 u15 u16 u17 u18 u19 u20 u21 u22 u23 u24 u25 u26 u27 u29 u31 u32 u33 u34 u35 u36 u37 u38 u39 u40 u41 u42 u43 u44 u45 u46 u47 u48 u49 u50 u51 u52 u53 u54 u55 u56 u57 u58 u59 u60 u61 u62 u63 u64 u65 u66 u67 u68 u69 u70 u71 u72 u73 u74 u75 u76 u77 u78 u79 u80 u81 u82 u83 u84 u85 u86 u87 u88 u89 u90 u91 u92 u93 u94 u95 u96 u97 u98 u99 u100 u101 u102 u103 u104 u105 u106 u107 u108 u109 u110 u111 u112 u113 u114 u115 u116 u117 u118 u119 u120 u121 u122 u123 u124 u125 u126 u127 u128 u129 u130 u131 u132 u133 u134 u135 u136 u137 u138 u139 u140 u141 u142 u143 u144 u145 u146 u147 u148 u149 u150 u151 u152 u153 u154 u155 u156 u157 u158 u159 u160 u161 u162 u163 u164 u165 u166 u167 u168 u169 u170 u171 u172 u173 u174 u175 u176 u177 u178 u179 u180 u181 u182 u183 u184 u185 u186 u187 u188 u189 u190 u191 u192 u193 u194 u195 u196 u197 u198 u199 u200 u201 u202 u203 u204 u205 u206 u207 u208 u209 u210 u211 u212 u213 u214 u215 u216 u217 u218 u219 u220 u221 u222 u223 u224 u225 u226 u227 u228 u229 u230 u231 u232 u233 u234 u235 u236 u237 u238 u239 u240 u241 u242 u243 u244 u245 u246 u247 u248 u249 u250 u251 u252 u253 u254 u255 u256 u257 u258 u259 u260 u261 u262 u263 u264 u265 u266 u267 u268 u269 u270 u271 u272 u273 u274 u275 u276 u277 u278 u279 u280 u281 u282 u283 u284 u285 u286 u287 u288 u289 u290 u291 u292 u293 u294 u295 u296 u297 u298 u299 u300 u301 u302 u303 u304 u305 u306 u307 u308 u309 u310 u311 u312 u313 u314 u315 u316 u317 u318 u319 u320 u321 u322 u323 u324 u325 u326 u327 u328 u329 u330 u331 u332 u333 u334 u335 u336 u337 u338 u339 u340 u341 u342 u343 u344 u345 u346 u347 u348 u349 u350 u351 u352 : Value} (c : C.Sys) (N : Nat) (A B : List C.Seen) (w w1 : World) (a1 aA aB : Option Addr) (c1 cA cB : Nat) (wv : World) (hM : Mor c.loads.length N A B) (hA : Seens wv (.slice aA A.length cA) A) (hB : Seens wv (.slice aB B.length cB) B) (hn5 : c.loads.length ≤ 5) (hN14 : N ≤ 14) (HBX : Hid (∀ y, Ext w1 y → (∀ o, y.cell? ⟨w.heap.size, o, none⟩ = (sysV c (.slice a1 c.loads.length c1) : Array Value)[o]?) ∧ w.heap.size < y.heap.size)) (hEwv : Ext w wv) (hE1v : Ext w1 wv) :
    Code.wp Try.prog (morT 18) (bodyPost Try.prog Try.f13 (fun e w' => e = .returned (.bool true) ∧ Ext w w')) ⟨List.toArray (u0 :: u1 :: u2 :: u3 :: u4 :: u5 :: u6 :: u7 :: .pointer (some ⟨w.heap.size, 0, none⟩) :: u9 :: u10 :: u11 :: u12 :: u13 :: u14 :: u15 :: u16 :: u17 :: u18 :: u19 :: u20 :: u21 :: u22 :: u23 :: u24 :: u25 :: u26 :: u27 :: .slice aA A.length cA :: u29 :: .slice aB B.length cB :: u31 :: u32 :: u33 :: u34 :: u35 :: u36 :: u37 :: u38 :: u39 :: u40 :: u41 :: u42 :: u43 :: u44 :: u45 :: u46 :: u47 :: u48 :: u49 :: u50 :: u51 :: u52 :: u53 :: u54 :: u55 :: u56 :: u57 :: u58 :: u59 :: u60 :: u61 :: u62 :: u63 :: u64 :: u65 :: u66 :: u67 :: u68 :: u69 :: u70 :: u71 :: u72 :: u73 :: u74 :: u75 :: u76 :: u77 :: u78 :: u79 :: u80 :: u81 :: u82 :: u83 :: u84 :: u85 :: u86 :: u87 :: u88 :: u89 :: u90 :: u91 :: u92 :: u93 :: u94 :: u95 :: u96 :: u97 :: u98 :: u99 :: u100 :: u101 :: u102 :: u103 :: u104 :: u105 :: u106 :: u107 :: u108 :: u109 :: u110 :: u111 :: u112 :: u113 :: u114 :: u115 :: u116 :: u117 :: u118 :: u119 :: u120 :: u121 :: u122 :: u123 :: u124 :: u125 :: u126 :: u127 :: u128 :: u129 :: u130 :: u131 :: u132 :: u133 :: u134 :: u135 :: u136 :: u137 :: u138 :: u139 :: u140 :: u141 :: u142 :: u143 :: u144 :: u145 :: u146 :: u147 :: u148 :: u149 :: u150 :: u151 :: u152 :: u153 :: u154 :: u155 :: u156 :: u157 :: u158 :: u159 :: u160 :: u161 :: u162 :: u163 :: u164 :: u165 :: u166 :: u167 :: u168 :: u169 :: u170 :: u171 :: u172 :: u173 :: u174 :: u175 :: u176 :: u177 :: u178 :: u179 :: u180 :: u181 :: u182 :: u183 :: u184 :: u185 :: u186 :: u187 :: u188 :: u189 :: u190 :: u191 :: u192 :: u193 :: u194 :: u195 :: u196 :: u197 :: u198 :: u199 :: u200 :: u201 :: u202 :: u203 :: u204 :: u205 :: u206 :: u207 :: u208 :: u209 :: u210 :: u211 :: u212 :: u213 :: u214 :: u215 :: u216 :: u217 :: u218 :: u219 :: u220 :: u221 :: u222 :: u223 :: u224 :: u225 :: u226 :: u227 :: u228 :: u229 :: u230 :: u231 :: u232 :: u233 :: u234 :: u235 :: u236 :: u237 :: u238 :: u239 :: u240 :: u241 :: u242 :: u243 :: u244 :: u245 :: u246 :: u247 :: u248 :: u249 :: u250 :: u251 :: u252 :: u253 :: u254 :: u255 :: u256 :: u257 :: u258 :: u259 :: u260 :: u261 :: u262 :: u263 :: u264 :: u265 :: u266 :: u267 :: u268 :: u269 :: u270 :: u271 :: u272 :: u273 :: u274 :: u275 :: u276 :: u277 :: u278 :: u279 :: u280 :: u281 :: u282 :: u283 :: u284 :: u285 :: u286 :: u287 :: u288 :: u289 :: u290 :: u291 :: u292 :: u293 :: u294 :: u295 :: u296 :: u297 :: u298 :: u299 :: u300 :: u301 :: u302 :: u303 :: u304 :: u305 :: u306 :: u307 :: u308 :: u309 :: u310 :: u311 :: u312 :: u313 :: u314 :: u315 :: u316 :: u317 :: u318 :: u319 :: u320 :: u321 :: u322 :: u323 :: u324 :: u325 :: u326 :: u327 :: u328 :: u329 :: u330 :: u331 :: u332 :: u333 :: u334 :: u335 :: u336 :: u337 :: u338 :: u339 :: u340 :: u341 :: u342 :: u343 :: u344 :: u345 :: u346 :: u347 :: u348 :: u349 :: u350 :: u351 :: u352 :: []), []⟩ wv := by
  unfold morT
  conv => arg 2; whnf
  obtain ⟨_, _, e0, hxa⟩ := hA
  cases e0
  obtain ⟨_, _, e0, hxb⟩ := hB
  cases e0
  have HXA := Lib.hid hxa
  have HXB := Lib.hid hxb
  have HM := Lib.hid hM
  clear hxa hxb hM
  go_wp2
  go_loopw [32] (fun s wx => ∃ d : Nat, d ≤ N ∧ s = .int .i64 d ∧ Ext wv wx) (fun s _ => N - (intOf s).toNat)
  case atStart => exact ⟨0, Nat.zero_le _, rfl, Ext.refl _⟩
  case round =>
    rename World => wx
    obtain ⟨d, hd, rfl, hEx⟩ := hrel
    have hEwx := hEwv.trans hEx
    have hE1x := hE1v.trans hEx
    obtain ⟨k0, l0⟩ := HBX.out wx hE1x
    by_cases hdN : d < N
    · have hda : d < A.length := by have := HM.out.la; omega
      have hdb : d < B.length := by have := HM.out.lb; omega
      have HDN := Lib.hid hdN
      obtain ⟨ba, oa, va, rfl, hba, x1, x2, x3, hia⟩ := HXA.out d hda
      obtain ⟨bb, ob, vb, rfl, hbb, y1, y2, y3, hib⟩ := HXB.out d hdb
      obtain ⟨al, ah, la, bl, bh, lb, hAd, hBd, f1, f2, f5, f6, f8⟩ := HM.out.el d hda hdb
      rw [hAd] at x1 x2 hia
      rw [hBd] at y1 y2 hib
      dsimp only at x1 x2 hia y1 y2 hib
      obtain ⟨aa, ca2, rfl, hia2⟩ := hia
      obtain ⟨ab, cb2, rfl, hib2⟩ := hib
      rw [f5] at x3
      rw [f6] at y3
      have HIA := Lib.hid hia2
      have HIB := Lib.hid hib2
      have HF8 := Lib.hid f8
      have HF5 := Lib.hid f5
      have HF6 := Lib.hid f6
      have x1' := (hEx.cells.1 _ _ hba).trans x1
      have x2' := (hEx.cells.1 _ _ hba).trans x2
      have x3' := (hEx.cells.1 _ _ hba).trans x3
      have xb := Nat.lt_of_lt_of_le hba hEx.size
      have y1' := (hEx.cells.1 _ _ hbb).trans y1
      have y2' := (hEx.cells.1 _ _ hbb).trans y2
      have y3' := (hEx.cells.1 _ _ hbb).trans y3
      have yb := Nat.lt_of_lt_of_le hbb hEx.size
      clear hia2 hib2 f8 f5 f6 hAd hBd
      go_upto_region 32 with (fail)
      refine mor_reg32 _ _ (fun _ _ d _ _ h => by cases d <;> exact h) ⟨k0, l0⟩ x1' x2' x3' xb y1' y2' y3' yb f1 f2 hda hdb ?_
      intro _ _ _ _ _ _ _ _ _ _ _ _ _ _ _ _ _ _ _ _ _ _ _ _ _ _ _ _ _ _ _ _ _ _ _ _ _ _ _ _ _ _ _ _ _ _ _ _ _ _ _ w9 hEw9
      clear k0 l0 x1' x2' x3' xb y1' y2' y3' yb x1 x2 y1 y2 f1 f2
      go_wp2
      go_loopw [33] (fun s wy => ∃ i : Nat, i ≤ c.loads.length ∧ s = .int .i64 i ∧ Ext w9 wy) (fun s _ => c.loads.length - (intOf s).toNat)
      case atStart => exact ⟨0, Nat.zero_le _, rfl, Ext.refl _⟩
      case round =>
        rename World => wy
        obtain ⟨i, hi, rfl, hEy⟩ := hrel
        have hE9y := hEw9.trans hEy
        have hEvy := hEx.trans hE9y
        have hE1y := hE1x.trans hE9y
        obtain ⟨k0, l0⟩ := HBX.out wy hE1y
        by_cases hin : i < c.loads.length
        · have HIN := Lib.hid hin
          have hila : i < la.length := by have := HF5.out; omega
          have hilb : i < lb.length := by have := HF6.out; omega
          obtain ⟨pa, qa, rfl, hpa, z1⟩ := HIA.out i hila
          obtain ⟨pb, qb, rfl, hpb, z2⟩ := HIB.out i hilb
          have g8 := HF8.out i hila hilb
          obtain ⟨wa, hwa⟩ : ∃ wa, la[i] = wa := ⟨_, rfl⟩
          obtain ⟨wb, hwb⟩ : ∃ wb, lb[i] = wb := ⟨_, rfl⟩
          rw [hwa] at z1 g8
          rw [hwb] at z2 g8
          have z1' := (hEvy.cells.1 _ _ hpa).trans z1
          have z2' := (hEvy.cells.1 _ _ hpb).trans z2
          have zb1 := Nat.lt_of_lt_of_le hpa hEvy.size
          have zb2 := Nat.lt_of_lt_of_le hpb hEvy.size
          have x3' := (hEvy.cells.1 _ _ hba).trans x3
          have xb := Nat.lt_of_lt_of_le hba hEvy.size
          have y3' := (hEvy.cells.1 _ _ hbb).trans y3
          have yb := Nat.lt_of_lt_of_le hbb hEvy.size
          have G8 := Lib.hid g8
          clear g8 hwa hwb z1 z2
          go_upto_region 37 with (fail)
          refine mor_reg37 _ _ (fun _ _ d _ _ h => by cases d <;> exact h) x3' xb y3' yb z1' zb1 z2' zb2 hin hda hdb G8.out ?_
          intro _ _ _ _ _ _ _ _ _ _ _ _ _ _ _ _ _ _ _ _ _ _ _ _ _ _ _ w10 hEw10
          go_wp2
          go_roundw
          case rel => exact ⟨i + 1, HIN.out, by go_num, hEy.trans hEw10⟩
          case measure => have := HIN.out; simp [intOf]; omega
        · have hin2 : i = c.loads.length := by omega
          go_wp2
          go_roundw
          case rel => exact ⟨d + 1, HDN.out, by go_num, hEx.trans hE9y⟩
          case measure => have := HDN.out; simp [intOf]; omega
    · have hda : ¬ d < A.length := by have := HM.out.la; omega
      go_wp2_with (first | (go_at_call 16; refine (known_any _).mono ?_; rintro e wk ⟨rfl, hbk⟩))
      go_ret
      exact ⟨rfl, by (with_reducible (repeat (first | exact Ext.refl _ | assumption | apply Ext.alloc | apply Ext.drew | exact ext_plus _ _ | (apply Ext.setCell; rotate_left; (simp <;> omega)) | (apply Ext.trans; rotate_left; exact ext_plus _ _) | (apply Ext.trans; rotate_left; assumption))))⟩
set_option maxRecDepth 1000000 in
set_option maxHeartbeats 64000000 in
theorem mor_tail12 {u3 u4 u5 u6 u9 u10 u11 u12 u13 u14 u15 u16 u17 u18 u19 u20 u21 u22 u23 u24 u25 u26 u28 u29 u30 u31 u32 u33 u34 u35 u36 u37 u38 u39 u40 u41 u42 u43 u44 u45 u46 u47 u48 u49 u50 u51 u52 u53 u54 u55 u56 u57 u58 u59 u60 u61 u62 u63 u64 u65 u66 u67 u68 u69 u70 u71 u72 u73 u74 u75 u76 u77 u78 u79 u80 u81 u82 u83 u84 u85 u86 u87 u88 u89 u90 u91 u92 u93 u94 u95 u96 u97 u98 u99 u100 u101 u102 u103 u104 u105 u106 u107 u108 u109 u110 u111 u112 u113 u114 u115 u116 u117 u118 u119 u120 u121 u122 u123 u124 u125 u126 u127 u128 u129 u130 u131 u132 u133 u134 u135 u136 u137 u138 u139 u140 u141 u142 u143 u144 u145 u146 u147 u148 u149 u150 u151 u152 u153 u154 u155 u156 u157 u158 u159 u160 u161 u162 u163 u164 u165 u166 u167 u168 u169 u170 u171 u172 u173 u174 u175 u176 u177 u178 u179 u180 u181 u182 u183 u184 u185 u186 u187 u188 u189 u190 u191 u192 u193 u194 u195 u196 u197 u198 u199 u200 u201 u202 u203 u204 u205 u206 u207 u208 u209 u210 u211 u212 u213 u214 u215 u216 u217 u218 u219 u220 u221 u222 u223 u224 u225 u226 u227 u228 u229 u230 u231 u232 u233 u234 u235 u236 u237 u238 u239 u240 u241 u242 u243 u244 u245 u246 u247 u248 u249 u250 u251 u252 u253 u254 u255 u256 u257 u258 u259 u260 u261 u262 u263 u264 u265 u266 u267 u268 u269 u270 u271 u272 u273 u274 u275 u276 u277 u278 u279 u280 u281 u282 u283 u284 u285 u286 u287 u288 u289 u290 u291 u292 u293 u294 u295 u296 u297 u298 u299 u300 u301 u302 u303 u304 u305 u306 u307 u308 u309 u310 u311 u312 u313 u314 u315 u316 u317 u318 u319 u320 u321 u322 u323 u324 u325 u326 u327 u328 u329 u330 u331 u332 u333 u334 u335 u336 u337 u338 u339 u340 u341 u342 u343 u344 u345 u346 u347 u348 u349 u350 u351 u352 : Value} (c : C.Sys) (p b more extra : Int) (wt sky skyF : ByteArray) (day N : Nat) (A B : List C.Seen) (r1 r2 : Int) (w w1 : World) (a1 : Option Addr) (c1 : Nat) (wv : World) (HK1 : Hid (∀ w', Ext w w' → Calls Try.prog 28 #[.agg (sysV c (.slice a1 c.loads.length c1)), .int .i64 p, .int .i64 b, .string sky] w' fun e w2 => ∃ v, e = .returned (.tuple #[v, .int .i64 r1]) ∧ Seens w2 v A ∧ Ext w' w2)) (HK2 : Hid (∀ w', Ext w w' → Calls Try.prog 28 #[.agg (sysV c (.slice a1 c.loads.length c1)), .int .i64 p, .int .i64 b, .string skyF] w' fun e w2 => ∃ v, e = .returned (.tuple #[v, .int .i64 r2]) ∧ Seens w2 v B ∧ Ext w' w2)) (HC : Hid ((r1 = 5 ∧ r2 = 5) ∨ (r1 = 0 ∧ A.length = N ∧ (r2 = 5 ∨ (r2 = 0 ∧ Mor c.loads.length N A B))))) (HDZ : Hid (c.days = (N : Int))) (hn5 : c.loads.length ≤ 5) (hN14 : N ≤ 14) (HBX : Hid (∀ y, Ext w1 y → (∀ o, y.cell? ⟨w.heap.size, o, none⟩ = (sysV c (.slice a1 c.loads.length c1) : Array Value)[o]?) ∧ w.heap.size < y.heap.size)) (hEwv : Ext w wv) (hE1v : Ext w1 wv) :
    Code.wp Try.prog (morT 12) (bodyPost Try.prog Try.f13 (fun e w' => e = .returned (.bool true) ∧ Ext w w')) ⟨List.toArray (.agg (sysV c (.slice a1 c.loads.length c1)) :: .int .i64 p :: .int .i64 b :: u3 :: u4 :: u5 :: u6 :: .string sky :: .pointer (some ⟨w.heap.size, 0, none⟩) :: u9 :: u10 :: u11 :: u12 :: u13 :: u14 :: u15 :: u16 :: u17 :: u18 :: u19 :: u20 :: u21 :: u22 :: u23 :: u24 :: u25 :: u26 :: .string skyF :: u28 :: u29 :: u30 :: u31 :: u32 :: u33 :: u34 :: u35 :: u36 :: u37 :: u38 :: u39 :: u40 :: u41 :: u42 :: u43 :: u44 :: u45 :: u46 :: u47 :: u48 :: u49 :: u50 :: u51 :: u52 :: u53 :: u54 :: u55 :: u56 :: u57 :: u58 :: u59 :: u60 :: u61 :: u62 :: u63 :: u64 :: u65 :: u66 :: u67 :: u68 :: u69 :: u70 :: u71 :: u72 :: u73 :: u74 :: u75 :: u76 :: u77 :: u78 :: u79 :: u80 :: u81 :: u82 :: u83 :: u84 :: u85 :: u86 :: u87 :: u88 :: u89 :: u90 :: u91 :: u92 :: u93 :: u94 :: u95 :: u96 :: u97 :: u98 :: u99 :: u100 :: u101 :: u102 :: u103 :: u104 :: u105 :: u106 :: u107 :: u108 :: u109 :: u110 :: u111 :: u112 :: u113 :: u114 :: u115 :: u116 :: u117 :: u118 :: u119 :: u120 :: u121 :: u122 :: u123 :: u124 :: u125 :: u126 :: u127 :: u128 :: u129 :: u130 :: u131 :: u132 :: u133 :: u134 :: u135 :: u136 :: u137 :: u138 :: u139 :: u140 :: u141 :: u142 :: u143 :: u144 :: u145 :: u146 :: u147 :: u148 :: u149 :: u150 :: u151 :: u152 :: u153 :: u154 :: u155 :: u156 :: u157 :: u158 :: u159 :: u160 :: u161 :: u162 :: u163 :: u164 :: u165 :: u166 :: u167 :: u168 :: u169 :: u170 :: u171 :: u172 :: u173 :: u174 :: u175 :: u176 :: u177 :: u178 :: u179 :: u180 :: u181 :: u182 :: u183 :: u184 :: u185 :: u186 :: u187 :: u188 :: u189 :: u190 :: u191 :: u192 :: u193 :: u194 :: u195 :: u196 :: u197 :: u198 :: u199 :: u200 :: u201 :: u202 :: u203 :: u204 :: u205 :: u206 :: u207 :: u208 :: u209 :: u210 :: u211 :: u212 :: u213 :: u214 :: u215 :: u216 :: u217 :: u218 :: u219 :: u220 :: u221 :: u222 :: u223 :: u224 :: u225 :: u226 :: u227 :: u228 :: u229 :: u230 :: u231 :: u232 :: u233 :: u234 :: u235 :: u236 :: u237 :: u238 :: u239 :: u240 :: u241 :: u242 :: u243 :: u244 :: u245 :: u246 :: u247 :: u248 :: u249 :: u250 :: u251 :: u252 :: u253 :: u254 :: u255 :: u256 :: u257 :: u258 :: u259 :: u260 :: u261 :: u262 :: u263 :: u264 :: u265 :: u266 :: u267 :: u268 :: u269 :: u270 :: u271 :: u272 :: u273 :: u274 :: u275 :: u276 :: u277 :: u278 :: u279 :: u280 :: u281 :: u282 :: u283 :: u284 :: u285 :: u286 :: u287 :: u288 :: u289 :: u290 :: u291 :: u292 :: u293 :: u294 :: u295 :: u296 :: u297 :: u298 :: u299 :: u300 :: u301 :: u302 :: u303 :: u304 :: u305 :: u306 :: u307 :: u308 :: u309 :: u310 :: u311 :: u312 :: u313 :: u314 :: u315 :: u316 :: u317 :: u318 :: u319 :: u320 :: u321 :: u322 :: u323 :: u324 :: u325 :: u326 :: u327 :: u328 :: u329 :: u330 :: u331 :: u332 :: u333 :: u334 :: u335 :: u336 :: u337 :: u338 :: u339 :: u340 :: u341 :: u342 :: u343 :: u344 :: u345 :: u346 :: u347 :: u348 :: u349 :: u350 :: u351 :: u352 :: []), []⟩ wv := by
  unfold morT
  conv => arg 2; whnf
  obtain ⟨k0, l0⟩ := HBX.out wv hE1v
  go_upto_region 20 with (first | (go_at_call 28; refine (HK1.out _ (by (with_reducible (repeat (first | exact Ext.refl _ | assumption | apply Ext.alloc | apply Ext.drew | exact ext_plus _ _ | (apply Ext.setCell; rotate_left; (simp <;> omega)) | (apply Ext.trans; rotate_left; exact ext_plus _ _) | (apply Ext.trans; rotate_left; assumption)))))).mono ?_; rintro e wa ⟨vk, rfl, hvk, hbwa⟩; obtain ⟨avk, cvk, rfl, _⟩ := id hvk; have Hvk := Lib.hid hvk; clear hvk; (try clear k0 l0); obtain ⟨k0, l0⟩ := HBX.out wa (by (with_reducible (repeat (first | exact Ext.refl _ | assumption | apply Ext.alloc | apply Ext.drew | exact ext_plus _ _ | (apply Ext.setCell; rotate_left; (simp <;> omega)) | (apply Ext.trans; rotate_left; exact ext_plus _ _) | (apply Ext.trans; rotate_left; assumption)))))))
  have hEab0 := hbwa
  go_upto_region 21 with (first | (go_at_call 28; refine (HK2.out _ (by (with_reducible (repeat (first | exact Ext.refl _ | assumption | apply Ext.alloc | apply Ext.drew | exact ext_plus _ _ | (apply Ext.setCell; rotate_left; (simp <;> omega)) | (apply Ext.trans; rotate_left; exact ext_plus _ _) | (apply Ext.trans; rotate_left; assumption)))))).mono ?_; rintro e wb ⟨vo, rfl, hvo, hbwb⟩; obtain ⟨avo, cvo, rfl, _⟩ := id hvo; have Hvo := Lib.hid hvo; clear hvo; (try clear k0 l0); obtain ⟨k0, l0⟩ := HBX.out wb (by (with_reducible (repeat (first | exact Ext.refl _ | assumption | apply Ext.alloc | apply Ext.drew | exact ext_plus _ _ | (apply Ext.setCell; rotate_left; (simp <;> omega)) | (apply Ext.trans; rotate_left; exact ext_plus _ _) | (apply Ext.trans; rotate_left; assumption)))))))
  have hE1b : Ext w1 wb := (hE1v.trans hbwa).trans hbwb
  have hEwb : Ext w wb := (hEwv.trans hbwa).trans hbwb
  clear k0 l0
  obtain ⟨k0, l0⟩ := HBX.out wb hE1b
  obtain ⟨rfl, rfl⟩ | ⟨rfl, hla, rfl | ⟨rfl, hM⟩⟩ := HC.out
  · go_wp2_with (first | (go_at_call 16; refine (known_any _).mono ?_; rintro e wk ⟨rfl, hbk⟩))
    go_ret
    exact ⟨rfl, by (with_reducible (repeat (first | exact Ext.refl _ | assumption | apply Ext.alloc | apply Ext.drew | exact ext_plus _ _ | (apply Ext.setCell; rotate_left; (simp <;> omega)) | (apply Ext.trans; rotate_left; exact ext_plus _ _) | (apply Ext.trans; rotate_left; assumption))))⟩
  · have hl1 : ((A.length : Int) != c.days) = false := by rw [hla, HDZ.out]; simp
    clear hla
    go_wp2_with (first | (go_at_call 16; refine (known_any _).mono ?_; rintro e wk ⟨rfl, hbk⟩))
    go_ret
    exact ⟨rfl, by (with_reducible (repeat (first | exact Ext.refl _ | assumption | apply Ext.alloc | apply Ext.drew | exact ext_plus _ _ | (apply Ext.setCell; rotate_left; (simp <;> omega)) | (apply Ext.trans; rotate_left; exact ext_plus _ _) | (apply Ext.trans; rotate_left; assumption))))⟩
  · have hl1 : ((A.length : Int) != c.days) = false := by rw [hM.la, HDZ.out]; simp
    have hl2 : ((B.length : Int) != c.days) = false := by rw [hM.lb, HDZ.out]; simp
    have HM := Lib.hid hM
    clear hla hM
    go_upto_if 258 with (fail)
    rename Act → World → Prop => KK
    rename ∀ _ _, _ → KK _ _ => hKK
    have HKK := Lib.hid hKK
    clear hKK
    go_wp2
    exact HKK.out _ _ (mor_tail18 c N A B w w1 a1 avk avo c1 cvk cvo wb HM.out (Hvk.out.ext hbwb) Hvo.out hn5 hN14 HBX hEwb hE1b)
set_option maxRecDepth 1000000 in
set_option maxHeartbeats 64000000 in
theorem mor_tail10 {u4 u5 u9 u10 u11 u12 u13 u14 u15 u16 u17 u18 u19 u20 u21 u22 u23 u24 u25 u26 u27 u28 u29 u30 u31 u32 u33 u34 u35 u36 u37 u38 u39 u40 u41 u42 u43 u44 u45 u46 u47 u48 u49 u50 u51 u52 u53 u54 u55 u56 u57 u58 u59 u60 u61 u62 u63 u64 u65 u66 u67 u68 u69 u70 u71 u72 u73 u74 u75 u76 u77 u78 u79 u80 u81 u82 u83 u84 u85 u86 u87 u88 u89 u90 u91 u92 u93 u94 u95 u96 u97 u98 u99 u100 u101 u102 u103 u104 u105 u106 u107 u108 u109 u110 u111 u112 u113 u114 u115 u116 u117 u118 u119 u120 u121 u122 u123 u124 u125 u126 u127 u128 u129 u130 u131 u132 u133 u134 u135 u136 u137 u138 u139 u140 u141 u142 u143 u144 u145 u146 u147 u148 u149 u150 u151 u152 u153 u154 u155 u156 u157 u158 u159 u160 u161 u162 u163 u164 u165 u166 u167 u168 u169 u170 u171 u172 u173 u174 u175 u176 u177 u178 u179 u180 u181 u182 u183 u184 u185 u186 u187 u188 u189 u190 u191 u192 u193 u194 u195 u196 u197 u198 u199 u200 u201 u202 u203 u204 u205 u206 u207 u208 u209 u210 u211 u212 u213 u214 u215 u216 u217 u218 u219 u220 u221 u222 u223 u224 u225 u226 u227 u228 u229 u230 u231 u232 u233 u234 u235 u236 u237 u238 u239 u240 u241 u242 u243 u244 u245 u246 u247 u248 u249 u250 u251 u252 u253 u254 u255 u256 u257 u258 u259 u260 u261 u262 u263 u264 u265 u266 u267 u268 u269 u270 u271 u272 u273 u274 u275 u276 u277 u278 u279 u280 u281 u282 u283 u284 u285 u286 u287 u288 u289 u290 u291 u292 u293 u294 u295 u296 u297 u298 u299 u300 u301 u302 u303 u304 u305 u306 u307 u308 u309 u310 u311 u312 u313 u314 u315 u316 u317 u318 u319 u320 u321 u322 u323 u324 u325 u326 u327 u328 u329 u330 u331 u332 u333 u334 u335 u336 u337 u338 u339 u340 u341 u342 u343 u344 u345 u346 u347 u348 u349 u350 u351 u352 : Value} (c : C.Sys) (p b more extra : Int) (wt sky skyF : ByteArray) (day N : Nat) (A B : List C.Seen) (r1 r2 : Int) (w w1 : World) (a1 : Option Addr) (c1 : Nat) (wv : World) (H16 : Hid (∃ (sA sX sB sC sky2 : ByteArray) (xv : Int), (∀ w, (Instr.slice 9 (.string sky) none (some (.int .i64 (day : Int))) none).run Try.prog w = .ok (.string sA) w) ∧ (∀ w, (Instr.slice 9 (.string wt) (some (.int .i64 (day : Int))) (some (.int .i64 ((day : Int) + 1))) none).run Try.prog w = .ok (.string sX) w) ∧ (∀ w, (Instr.slice 9 (.string sky) (some (.int .i64 ((day : Int) + 1))) none none).run Try.prog w = .ok (.string sC) w) ∧ (¬ 9223372036854775807 < sA.size + sX.size) ∧ sA ++ sX = sB ∧ (¬ 9223372036854775807 < sB.size + sC.size) ∧ sB ++ sC = sky2 ∧ (∀ w, (Instr.index 9 (.string sky) (.int .i64 (day : Int))).run Try.prog w = .ok (.int .u8 xv) w) ∧ (xv = 63 → skyF = sky2) ∧ (xv ≠ 63 → skyF = sky))) (hdd : day ≤ 14) (HK1 : Hid (∀ w', Ext w w' → Calls Try.prog 28 #[.agg (sysV c (.slice a1 c.loads.length c1)), .int .i64 p, .int .i64 b, .string sky] w' fun e w2 => ∃ v, e = .returned (.tuple #[v, .int .i64 r1]) ∧ Seens w2 v A ∧ Ext w' w2)) (HK2 : Hid (∀ w', Ext w w' → Calls Try.prog 28 #[.agg (sysV c (.slice a1 c.loads.length c1)), .int .i64 p, .int .i64 b, .string skyF] w' fun e w2 => ∃ v, e = .returned (.tuple #[v, .int .i64 r2]) ∧ Seens w2 v B ∧ Ext w' w2)) (HC : Hid ((r1 = 5 ∧ r2 = 5) ∨ (r1 = 0 ∧ A.length = N ∧ (r2 = 5 ∨ (r2 = 0 ∧ Mor c.loads.length N A B))))) (HDZ : Hid (c.days = (N : Int))) (hn5 : c.loads.length ≤ 5) (hN14 : N ≤ 14) (HBX : Hid (∀ y, Ext w1 y → (∀ o, y.cell? ⟨w.heap.size, o, none⟩ = (sysV c (.slice a1 c.loads.length c1) : Array Value)[o]?) ∧ w.heap.size < y.heap.size)) (hEwv : Ext w wv) (hE1v : Ext w1 wv) :
    Code.wp Try.prog (morT 10) (bodyPost Try.prog Try.f13 (fun e w' => e = .returned (.bool true) ∧ Ext w w')) ⟨List.toArray (.agg (sysV c (.slice a1 c.loads.length c1)) :: .int .i64 p :: .int .i64 b :: .string wt :: u4 :: u5 :: .int .i64 (day : Int) :: .string sky :: .pointer (some ⟨w.heap.size, 0, none⟩) :: u9 :: u10 :: u11 :: u12 :: u13 :: u14 :: u15 :: u16 :: u17 :: u18 :: u19 :: u20 :: u21 :: u22 :: u23 :: u24 :: u25 :: u26 :: u27 :: u28 :: u29 :: u30 :: u31 :: u32 :: u33 :: u34 :: u35 :: u36 :: u37 :: u38 :: u39 :: u40 :: u41 :: u42 :: u43 :: u44 :: u45 :: u46 :: u47 :: u48 :: u49 :: u50 :: u51 :: u52 :: u53 :: u54 :: u55 :: u56 :: u57 :: u58 :: u59 :: u60 :: u61 :: u62 :: u63 :: u64 :: u65 :: u66 :: u67 :: u68 :: u69 :: u70 :: u71 :: u72 :: u73 :: u74 :: u75 :: u76 :: u77 :: u78 :: u79 :: u80 :: u81 :: u82 :: u83 :: u84 :: u85 :: u86 :: u87 :: u88 :: u89 :: u90 :: u91 :: u92 :: u93 :: u94 :: u95 :: u96 :: u97 :: u98 :: u99 :: u100 :: u101 :: u102 :: u103 :: u104 :: u105 :: u106 :: u107 :: u108 :: u109 :: u110 :: u111 :: u112 :: u113 :: u114 :: u115 :: u116 :: u117 :: u118 :: u119 :: u120 :: u121 :: u122 :: u123 :: u124 :: u125 :: u126 :: u127 :: u128 :: u129 :: u130 :: u131 :: u132 :: u133 :: u134 :: u135 :: u136 :: u137 :: u138 :: u139 :: u140 :: u141 :: u142 :: u143 :: u144 :: u145 :: u146 :: u147 :: u148 :: u149 :: u150 :: u151 :: u152 :: u153 :: u154 :: u155 :: u156 :: u157 :: u158 :: u159 :: u160 :: u161 :: u162 :: u163 :: u164 :: u165 :: u166 :: u167 :: u168 :: u169 :: u170 :: u171 :: u172 :: u173 :: u174 :: u175 :: u176 :: u177 :: u178 :: u179 :: u180 :: u181 :: u182 :: u183 :: u184 :: u185 :: u186 :: u187 :: u188 :: u189 :: u190 :: u191 :: u192 :: u193 :: u194 :: u195 :: u196 :: u197 :: u198 :: u199 :: u200 :: u201 :: u202 :: u203 :: u204 :: u205 :: u206 :: u207 :: u208 :: u209 :: u210 :: u211 :: u212 :: u213 :: u214 :: u215 :: u216 :: u217 :: u218 :: u219 :: u220 :: u221 :: u222 :: u223 :: u224 :: u225 :: u226 :: u227 :: u228 :: u229 :: u230 :: u231 :: u232 :: u233 :: u234 :: u235 :: u236 :: u237 :: u238 :: u239 :: u240 :: u241 :: u242 :: u243 :: u244 :: u245 :: u246 :: u247 :: u248 :: u249 :: u250 :: u251 :: u252 :: u253 :: u254 :: u255 :: u256 :: u257 :: u258 :: u259 :: u260 :: u261 :: u262 :: u263 :: u264 :: u265 :: u266 :: u267 :: u268 :: u269 :: u270 :: u271 :: u272 :: u273 :: u274 :: u275 :: u276 :: u277 :: u278 :: u279 :: u280 :: u281 :: u282 :: u283 :: u284 :: u285 :: u286 :: u287 :: u288 :: u289 :: u290 :: u291 :: u292 :: u293 :: u294 :: u295 :: u296 :: u297 :: u298 :: u299 :: u300 :: u301 :: u302 :: u303 :: u304 :: u305 :: u306 :: u307 :: u308 :: u309 :: u310 :: u311 :: u312 :: u313 :: u314 :: u315 :: u316 :: u317 :: u318 :: u319 :: u320 :: u321 :: u322 :: u323 :: u324 :: u325 :: u326 :: u327 :: u328 :: u329 :: u330 :: u331 :: u332 :: u333 :: u334 :: u335 :: u336 :: u337 :: u338 :: u339 :: u340 :: u341 :: u342 :: u343 :: u344 :: u345 :: u346 :: u347 :: u348 :: u349 :: u350 :: u351 :: u352 :: []), []⟩ wv := by
  unfold morT
  conv => arg 2; whnf
  obtain ⟨sA, sX, sB, sC, sky2, xv, h1, h2, h3, h4, h5, h6, h7, h8, h9, h10⟩ := H16.out
  go_upto_region 16 with (fail)
  refine mor_reg16 _ _ (fun _ _ d _ _ h => by cases d <;> exact h) h1 h2 h3 h4 h5 h6 h7 hdd ?_
  intro _ _ _ _ _ _ _ _ _ _ _ _ _ _ w9 hEw9
  have hE19 := hE1v.trans hEw9
  have hEww9 := hEwv.trans hEw9
  clear h1 h2 h3 h4 h5 h6 h7
  have H9 := Lib.hid h9
  have H10' := Lib.hid h10
  clear h9 h10
  by_cases hx : xv = 63
  · have hsk := H9.out hx
    have hneq : (xv != 63) = false := by rw [hx]; rfl
    have HX := Lib.hid hx
    clear hx
    go_upto_if 209 with (fail)
    rename Act → World → Prop => KK
    rename ∀ _ _, _ → KK _ _ => hKK
    have HKK := Lib.hid hKK
    clear hKK
    go_wp2
    rw [← hsk]
    exact HKK.out _ _ (mor_tail12 c p b more extra wt sky skyF day N A B r1 r2 w w1 a1 c1 w9 HK1 HK2 HC HDZ hn5 hN14 HBX hEww9 hE19)
  · have hsk := H10'.out hx
    have hneq : (xv != 63) = true := by simpa using hx
    have HX := Lib.hid hx
    clear hx
    go_upto_if 209 with (fail)
    rename Act → World → Prop => KK
    rename ∀ _ _, _ → KK _ _ => hKK
    have HKK := Lib.hid hKK
    clear hKK
    go_wp2
    subst hsk
    exact HKK.out _ _ (mor_tail12 c p b more extra wt skyF skyF day N A B r1 r2 w w1 a1 c1 w9 HK1 HK2 HC HDZ hn5 hN14 HBX hEww9 hE19)
set_option maxRecDepth 1000000 in
set_option maxHeartbeats 64000000 in
theorem mor_tail9 {u4 u5 u9 u10 u11 u12 u13 u14 u15 u16 u17 u18 u19 u20 u21 u22 u23 u26 u27 u28 u29 u30 u31 u32 u33 u34 u35 u36 u37 u38 u39 u40 u41 u42 u43 u44 u45 u46 u47 u48 u49 u50 u51 u52 u53 u54 u55 u56 u57 u58 u59 u60 u61 u62 u63 u64 u65 u66 u67 u68 u69 u70 u71 u72 u73 u74 u75 u76 u77 u78 u79 u80 u81 u82 u83 u84 u85 u86 u87 u88 u89 u90 u91 u92 u93 u94 u95 u96 u97 u98 u99 u100 u101 u102 u103 u104 u105 u106 u107 u108 u109 u110 u111 u112 u113 u114 u115 u116 u117 u118 u119 u120 u121 u122 u123 u124 u125 u126 u127 u128 u129 u130 u131 u132 u133 u134 u135 u136 u137 u138 u139 u140 u141 u142 u143 u144 u145 u146 u147 u148 u149 u150 u151 u152 u153 u154 u155 u156 u157 u158 u159 u160 u161 u162 u163 u164 u165 u166 u167 u168 u169 u170 u171 u172 u173 u174 u175 u176 u177 u178 u179 u180 u181 u182 u183 u184 u185 u186 u187 u188 u189 u190 u191 u192 u193 u194 u195 u196 u197 u198 u199 u200 u201 u202 u203 u204 u205 u206 u207 u208 u209 u210 u211 u212 u213 u214 u215 u216 u217 u218 u219 u220 u221 u222 u223 u224 u225 u226 u227 u228 u229 u230 u231 u232 u233 u234 u235 u236 u237 u238 u239 u240 u241 u242 u243 u244 u245 u246 u247 u248 u249 u250 u251 u252 u253 u254 u255 u256 u257 u258 u259 u260 u261 u262 u263 u264 u265 u266 u267 u268 u269 u270 u271 u272 u273 u274 u275 u276 u277 u278 u279 u280 u281 u282 u283 u284 u285 u286 u287 u288 u289 u290 u291 u292 u293 u294 u295 u296 u297 u298 u299 u300 u301 u302 u303 u304 u305 u306 u307 u308 u309 u310 u311 u312 u313 u314 u315 u316 u317 u318 u319 u320 u321 u322 u323 u324 u325 u326 u327 u328 u329 u330 u331 u332 u333 u334 u335 u336 u337 u338 u339 u340 u341 u342 u343 u344 u345 u346 u347 u348 u349 u350 u351 u352 : Value} (c : C.Sys) (p b more extra : Int) (wt sky skyF : ByteArray) (day N : Nat) (A B : List C.Seen) (r1 r2 : Int) (w w1 : World) (a1 : Option Addr) (c1 : Nat) (al st : Bool) (wv : World) (H16 : Hid (∃ (sA sX sB sC sky2 : ByteArray) (xv : Int), (∀ w, (Instr.slice 9 (.string sky) none (some (.int .i64 (day : Int))) none).run Try.prog w = .ok (.string sA) w) ∧ (∀ w, (Instr.slice 9 (.string wt) (some (.int .i64 (day : Int))) (some (.int .i64 ((day : Int) + 1))) none).run Try.prog w = .ok (.string sX) w) ∧ (∀ w, (Instr.slice 9 (.string sky) (some (.int .i64 ((day : Int) + 1))) none none).run Try.prog w = .ok (.string sC) w) ∧ (¬ 9223372036854775807 < sA.size + sX.size) ∧ sA ++ sX = sB ∧ (¬ 9223372036854775807 < sB.size + sC.size) ∧ sB ++ sC = sky2 ∧ (∀ w, (Instr.index 9 (.string sky) (.int .i64 (day : Int))).run Try.prog w = .ok (.int .u8 xv) w) ∧ (xv = 63 → skyF = sky2) ∧ (xv ≠ 63 → skyF = sky))) (hdd : day ≤ 14) (HK1 : Hid (∀ w', Ext w w' → Calls Try.prog 28 #[.agg (sysV c (.slice a1 c.loads.length c1)), .int .i64 p, .int .i64 b, .string sky] w' fun e w2 => ∃ v, e = .returned (.tuple #[v, .int .i64 r1]) ∧ Seens w2 v A ∧ Ext w' w2)) (HK2 : Hid (∀ w', Ext w w' → Calls Try.prog 28 #[.agg (sysV c (.slice a1 c.loads.length c1)), .int .i64 p, .int .i64 b, .string skyF] w' fun e w2 => ∃ v, e = .returned (.tuple #[v, .int .i64 r2]) ∧ Seens w2 v B ∧ Ext w' w2)) (HC : Hid ((r1 = 5 ∧ r2 = 5) ∨ (r1 = 0 ∧ A.length = N ∧ (r2 = 5 ∨ (r2 = 0 ∧ Mor c.loads.length N A B))))) (HDZ : Hid (c.days = (N : Int))) (hn5 : c.loads.length ≤ 5) (hN14 : N ≤ 14) (HBX : Hid (∀ y, Ext w1 y → (∀ o, y.cell? ⟨w.heap.size, o, none⟩ = (sysV c (.slice a1 c.loads.length c1) : Array Value)[o]?) ∧ w.heap.size < y.heap.size)) (hst : al = true → st = true) (hEwv : Ext w wv) (hE1v : Ext w1 wv) :
    Code.wp Try.prog (morT 9) (bodyPost Try.prog Try.f13 (fun e w' => e = .returned (.bool true) ∧ Ext w w')) ⟨List.toArray (.agg (sysV c (.slice a1 c.loads.length c1)) :: .int .i64 p :: .int .i64 b :: .string wt :: u4 :: u5 :: .int .i64 (day : Int) :: .string sky :: .pointer (some ⟨w.heap.size, 0, none⟩) :: u9 :: u10 :: u11 :: u12 :: u13 :: u14 :: u15 :: u16 :: u17 :: u18 :: u19 :: u20 :: u21 :: u22 :: u23 :: .bool al :: .bool st :: u26 :: u27 :: u28 :: u29 :: u30 :: u31 :: u32 :: u33 :: u34 :: u35 :: u36 :: u37 :: u38 :: u39 :: u40 :: u41 :: u42 :: u43 :: u44 :: u45 :: u46 :: u47 :: u48 :: u49 :: u50 :: u51 :: u52 :: u53 :: u54 :: u55 :: u56 :: u57 :: u58 :: u59 :: u60 :: u61 :: u62 :: u63 :: u64 :: u65 :: u66 :: u67 :: u68 :: u69 :: u70 :: u71 :: u72 :: u73 :: u74 :: u75 :: u76 :: u77 :: u78 :: u79 :: u80 :: u81 :: u82 :: u83 :: u84 :: u85 :: u86 :: u87 :: u88 :: u89 :: u90 :: u91 :: u92 :: u93 :: u94 :: u95 :: u96 :: u97 :: u98 :: u99 :: u100 :: u101 :: u102 :: u103 :: u104 :: u105 :: u106 :: u107 :: u108 :: u109 :: u110 :: u111 :: u112 :: u113 :: u114 :: u115 :: u116 :: u117 :: u118 :: u119 :: u120 :: u121 :: u122 :: u123 :: u124 :: u125 :: u126 :: u127 :: u128 :: u129 :: u130 :: u131 :: u132 :: u133 :: u134 :: u135 :: u136 :: u137 :: u138 :: u139 :: u140 :: u141 :: u142 :: u143 :: u144 :: u145 :: u146 :: u147 :: u148 :: u149 :: u150 :: u151 :: u152 :: u153 :: u154 :: u155 :: u156 :: u157 :: u158 :: u159 :: u160 :: u161 :: u162 :: u163 :: u164 :: u165 :: u166 :: u167 :: u168 :: u169 :: u170 :: u171 :: u172 :: u173 :: u174 :: u175 :: u176 :: u177 :: u178 :: u179 :: u180 :: u181 :: u182 :: u183 :: u184 :: u185 :: u186 :: u187 :: u188 :: u189 :: u190 :: u191 :: u192 :: u193 :: u194 :: u195 :: u196 :: u197 :: u198 :: u199 :: u200 :: u201 :: u202 :: u203 :: u204 :: u205 :: u206 :: u207 :: u208 :: u209 :: u210 :: u211 :: u212 :: u213 :: u214 :: u215 :: u216 :: u217 :: u218 :: u219 :: u220 :: u221 :: u222 :: u223 :: u224 :: u225 :: u226 :: u227 :: u228 :: u229 :: u230 :: u231 :: u232 :: u233 :: u234 :: u235 :: u236 :: u237 :: u238 :: u239 :: u240 :: u241 :: u242 :: u243 :: u244 :: u245 :: u246 :: u247 :: u248 :: u249 :: u250 :: u251 :: u252 :: u253 :: u254 :: u255 :: u256 :: u257 :: u258 :: u259 :: u260 :: u261 :: u262 :: u263 :: u264 :: u265 :: u266 :: u267 :: u268 :: u269 :: u270 :: u271 :: u272 :: u273 :: u274 :: u275 :: u276 :: u277 :: u278 :: u279 :: u280 :: u281 :: u282 :: u283 :: u284 :: u285 :: u286 :: u287 :: u288 :: u289 :: u290 :: u291 :: u292 :: u293 :: u294 :: u295 :: u296 :: u297 :: u298 :: u299 :: u300 :: u301 :: u302 :: u303 :: u304 :: u305 :: u306 :: u307 :: u308 :: u309 :: u310 :: u311 :: u312 :: u313 :: u314 :: u315 :: u316 :: u317 :: u318 :: u319 :: u320 :: u321 :: u322 :: u323 :: u324 :: u325 :: u326 :: u327 :: u328 :: u329 :: u330 :: u331 :: u332 :: u333 :: u334 :: u335 :: u336 :: u337 :: u338 :: u339 :: u340 :: u341 :: u342 :: u343 :: u344 :: u345 :: u346 :: u347 :: u348 :: u349 :: u350 :: u351 :: u352 :: []), []⟩ wv := by
  unfold morT
  conv => arg 2; whnf
  go_step
  go_step
  rename Act → World → Prop => KK
  rename ∀ _ _, _ → KK _ _ => hKK
  have HKK := Lib.hid hKK
  clear hKK
  cases al with
  | false =>
    go_wp2
    exact HKK.out _ _ (mor_tail10 c p b more extra wt sky skyF day N A B r1 r2 w w1 a1 c1 wv H16 hdd HK1 HK2 HC HDZ hn5 hN14 HBX hEwv hE1v)
  | true =>
    have hs := hst rfl
    subst hs
    go_wp2
    exact HKK.out _ _ (mor_tail10 c p b more extra wt sky skyF day N A B r1 r2 w w1 a1 c1 wv H16 hdd HK1 HK2 HC HDZ hn5 hN14 HBX hEwv hE1v)
set_option maxRecDepth 1000000 in
set_option maxHeartbeats 64000000 in
theorem mor_tail8 {u4 u5 u9 u10 u11 u12 u13 u14 u15 u16 u17 u19 u20 u22 u23 u26 u27 u28 u29 u30 u31 u32 u33 u34 u35 u36 u37 u38 u39 u40 u41 u42 u43 u44 u45 u46 u47 u48 u49 u50 u51 u52 u53 u54 u55 u56 u57 u58 u59 u60 u61 u62 u63 u64 u65 u66 u67 u68 u69 u70 u71 u72 u73 u74 u75 u76 u77 u78 u79 u80 u81 u82 u83 u84 u85 u86 u87 u88 u89 u90 u91 u92 u93 u94 u95 u96 u97 u98 u99 u100 u101 u102 u103 u104 u105 u106 u107 u108 u109 u110 u111 u112 u113 u114 u115 u116 u117 u118 u119 u120 u121 u122 u123 u124 u125 u126 u127 u128 u129 u130 u131 u132 u133 u134 u135 u136 u137 u138 u139 u140 u141 u142 u143 u144 u145 u146 u147 u148 u149 u150 u151 u152 u153 u154 u155 u156 u157 u158 u159 u160 u161 u162 u163 u164 u165 u166 u167 u168 u169 u170 u171 u172 u173 u174 u175 u176 u177 u178 u179 u180 u181 u182 u183 u184 u185 u186 u187 u188 u189 u190 u191 u192 u193 u194 u195 u196 u197 u198 u199 u200 u201 u202 u203 u204 u205 u206 u207 u208 u209 u210 u211 u212 u213 u214 u215 u216 u217 u218 u219 u220 u221 u222 u223 u224 u225 u226 u227 u228 u229 u230 u231 u232 u233 u234 u235 u236 u237 u238 u239 u240 u241 u242 u243 u244 u245 u246 u247 u248 u249 u250 u251 u252 u253 u254 u255 u256 u257 u258 u259 u260 u261 u262 u263 u264 u265 u266 u267 u268 u269 u270 u271 u272 u273 u274 u275 u276 u277 u278 u279 u280 u281 u282 u283 u284 u285 u286 u287 u288 u289 u290 u291 u292 u293 u294 u295 u296 u297 u298 u299 u300 u301 u302 u303 u304 u305 u306 u307 u308 u309 u310 u311 u312 u313 u314 u315 u316 u317 u318 u319 u320 u321 u322 u323 u324 u325 u326 u327 u328 u329 u330 u331 u332 u333 u334 u335 u336 u337 u338 u339 u340 u341 u342 u343 u344 u345 u346 u347 u348 u349 u350 u351 u352 : Value} (c : C.Sys) (p b more extra : Int) (wt sky skyF : ByteArray) (day N : Nat) (A B : List C.Seen) (r1 r2 : Int) (w w1 : World) (a1 : Option Addr) (c1 : Nat) (l k : List C.Day) (aL aK : Option Addr) (cL cK : Nat) (wv : World) (H16 : Hid (∃ (sA sX sB sC sky2 : ByteArray) (xv : Int), (∀ w, (Instr.slice 9 (.string sky) none (some (.int .i64 (day : Int))) none).run Try.prog w = .ok (.string sA) w) ∧ (∀ w, (Instr.slice 9 (.string wt) (some (.int .i64 (day : Int))) (some (.int .i64 ((day : Int) + 1))) none).run Try.prog w = .ok (.string sX) w) ∧ (∀ w, (Instr.slice 9 (.string sky) (some (.int .i64 ((day : Int) + 1))) none none).run Try.prog w = .ok (.string sC) w) ∧ (¬ 9223372036854775807 < sA.size + sX.size) ∧ sA ++ sX = sB ∧ (¬ 9223372036854775807 < sB.size + sC.size) ∧ sB ++ sC = sky2 ∧ (∀ w, (Instr.index 9 (.string sky) (.int .i64 (day : Int))).run Try.prog w = .ok (.int .u8 xv) w) ∧ (xv = 63 → skyF = sky2) ∧ (xv ≠ 63 → skyF = sky))) (hdd : day ≤ 14) (HK1 : Hid (∀ w', Ext w w' → Calls Try.prog 28 #[.agg (sysV c (.slice a1 c.loads.length c1)), .int .i64 p, .int .i64 b, .string sky] w' fun e w2 => ∃ v, e = .returned (.tuple #[v, .int .i64 r1]) ∧ Seens w2 v A ∧ Ext w' w2)) (HK2 : Hid (∀ w', Ext w w' → Calls Try.prog 28 #[.agg (sysV c (.slice a1 c.loads.length c1)), .int .i64 p, .int .i64 b, .string skyF] w' fun e w2 => ∃ v, e = .returned (.tuple #[v, .int .i64 r2]) ∧ Seens w2 v B ∧ Ext w' w2)) (HC : Hid ((r1 = 5 ∧ r2 = 5) ∨ (r1 = 0 ∧ A.length = N ∧ (r2 = 5 ∨ (r2 = 0 ∧ Mor c.loads.length N A B))))) (HDZ : Hid (c.days = (N : Int))) (hn5 : c.loads.length ≤ 5) (hN14 : N ≤ 14) (HBX : Hid (∀ y, Ext w1 y → (∀ o, y.cell? ⟨w.heap.size, o, none⟩ = (sysV c (.slice a1 c.loads.length c1) : Array Value)[o]?) ∧ w.heap.size < y.heap.size)) (hL : Days wv (.slice aL l.length cL) l) (hK : Days wv (.slice aK k.length cK) k) (hll : l.length = N) (hlk : k.length = N) (hfin : alB l N = true → stB l k N = true) (hEwv : Ext w wv) (hE1v : Ext w1 wv) :
    Code.wp Try.prog (morT 8) (bodyPost Try.prog Try.f13 (fun e w' => e = .returned (.bool true) ∧ Ext w w')) ⟨List.toArray (.agg (sysV c (.slice a1 c.loads.length c1)) :: .int .i64 p :: .int .i64 b :: .string wt :: u4 :: u5 :: .int .i64 (day : Int) :: .string sky :: .pointer (some ⟨w.heap.size, 0, none⟩) :: u9 :: u10 :: u11 :: u12 :: u13 :: u14 :: u15 :: u16 :: u17 :: .slice aL l.length cL :: u19 :: u20 :: .slice aK k.length cK :: u22 :: u23 :: .bool true :: .bool true :: u26 :: u27 :: u28 :: u29 :: u30 :: u31 :: u32 :: u33 :: u34 :: u35 :: u36 :: u37 :: u38 :: u39 :: u40 :: u41 :: u42 :: u43 :: u44 :: u45 :: u46 :: u47 :: u48 :: u49 :: u50 :: u51 :: u52 :: u53 :: u54 :: u55 :: u56 :: u57 :: u58 :: u59 :: u60 :: u61 :: u62 :: u63 :: u64 :: u65 :: u66 :: u67 :: u68 :: u69 :: u70 :: u71 :: u72 :: u73 :: u74 :: u75 :: u76 :: u77 :: u78 :: u79 :: u80 :: u81 :: u82 :: u83 :: u84 :: u85 :: u86 :: u87 :: u88 :: u89 :: u90 :: u91 :: u92 :: u93 :: u94 :: u95 :: u96 :: u97 :: u98 :: u99 :: u100 :: u101 :: u102 :: u103 :: u104 :: u105 :: u106 :: u107 :: u108 :: u109 :: u110 :: u111 :: u112 :: u113 :: u114 :: u115 :: u116 :: u117 :: u118 :: u119 :: u120 :: u121 :: u122 :: u123 :: u124 :: u125 :: u126 :: u127 :: u128 :: u129 :: u130 :: u131 :: u132 :: u133 :: u134 :: u135 :: u136 :: u137 :: u138 :: u139 :: u140 :: u141 :: u142 :: u143 :: u144 :: u145 :: u146 :: u147 :: u148 :: u149 :: u150 :: u151 :: u152 :: u153 :: u154 :: u155 :: u156 :: u157 :: u158 :: u159 :: u160 :: u161 :: u162 :: u163 :: u164 :: u165 :: u166 :: u167 :: u168 :: u169 :: u170 :: u171 :: u172 :: u173 :: u174 :: u175 :: u176 :: u177 :: u178 :: u179 :: u180 :: u181 :: u182 :: u183 :: u184 :: u185 :: u186 :: u187 :: u188 :: u189 :: u190 :: u191 :: u192 :: u193 :: u194 :: u195 :: u196 :: u197 :: u198 :: u199 :: u200 :: u201 :: u202 :: u203 :: u204 :: u205 :: u206 :: u207 :: u208 :: u209 :: u210 :: u211 :: u212 :: u213 :: u214 :: u215 :: u216 :: u217 :: u218 :: u219 :: u220 :: u221 :: u222 :: u223 :: u224 :: u225 :: u226 :: u227 :: u228 :: u229 :: u230 :: u231 :: u232 :: u233 :: u234 :: u235 :: u236 :: u237 :: u238 :: u239 :: u240 :: u241 :: u242 :: u243 :: u244 :: u245 :: u246 :: u247 :: u248 :: u249 :: u250 :: u251 :: u252 :: u253 :: u254 :: u255 :: u256 :: u257 :: u258 :: u259 :: u260 :: u261 :: u262 :: u263 :: u264 :: u265 :: u266 :: u267 :: u268 :: u269 :: u270 :: u271 :: u272 :: u273 :: u274 :: u275 :: u276 :: u277 :: u278 :: u279 :: u280 :: u281 :: u282 :: u283 :: u284 :: u285 :: u286 :: u287 :: u288 :: u289 :: u290 :: u291 :: u292 :: u293 :: u294 :: u295 :: u296 :: u297 :: u298 :: u299 :: u300 :: u301 :: u302 :: u303 :: u304 :: u305 :: u306 :: u307 :: u308 :: u309 :: u310 :: u311 :: u312 :: u313 :: u314 :: u315 :: u316 :: u317 :: u318 :: u319 :: u320 :: u321 :: u322 :: u323 :: u324 :: u325 :: u326 :: u327 :: u328 :: u329 :: u330 :: u331 :: u332 :: u333 :: u334 :: u335 :: u336 :: u337 :: u338 :: u339 :: u340 :: u341 :: u342 :: u343 :: u344 :: u345 :: u346 :: u347 :: u348 :: u349 :: u350 :: u351 :: u352 :: []), []⟩ wv := by
  unfold morT
  conv => arg 2; whnf
  obtain ⟨_, _, e0, hxl⟩ := hL
  cases e0
  obtain ⟨_, _, e0, hxk⟩ := hK
  cases e0
  have HXL := Lib.hid hxl
  have HXK := Lib.hid hxk
  have HLL := Lib.hid hll
  have HLK := Lib.hid hlk
  clear hxl hxk hll hlk
  go_step
  go_step
  rename Act → World → Prop => KK
  rename ∀ _ _, _ → KK _ _ => hKK
  have HKK := Lib.hid hKK
  clear hKK
  go_wp2
  go_loopw [24, 25, 26] (fun s24 s25 s26 wx => ∃ d : Nat, d ≤ N ∧ s24 = .bool (alB l d) ∧ s25 = .bool (stB l k d) ∧ s26 = .int .i64 d ∧ Ext wv wx) (fun _ _ s _ => N - (intOf s).toNat)
  case atStart => exact ⟨0, Nat.zero_le _, by simp [alB], by simp [stB], rfl, Ext.refl _⟩
  case round =>
    rename World => wx
    obtain ⟨d, hd, rfl, rfl, rfl, hEx⟩ := hrel
    have hEwx := hEwv.trans hEx
    have hE1x := hE1v.trans hEx
    by_cases hdN : d < N
    · have hdl : d < l.length := by have := HLL.out; omega
      have hdk : d < k.length := by have := HLK.out; omega
      have HDN := Lib.hid hdN
      have ha := alB_succ hdl
      have hs := stB_succ hdl hdk
      obtain ⟨b6, o6, rfl, hb6, hAt6⟩ := HXL.out d hdl
      obtain ⟨b7, o7, rfl, hb7, hAt7⟩ := HXK.out d hdk
      obtain ⟨xl, hxl⟩ : ∃ xl, l[d] = xl := ⟨_, rfl⟩
      obtain ⟨xk, hxk⟩ : ∃ xk, k[d] = xk := ⟨_, rfl⟩
      rw [hxl] at hAt6 ha hs
      rw [hxk] at hAt7 hs
      obtain ⟨lb, lc⟩ := xl
      obtain ⟨kb, kc⟩ := xk
      dsimp only at ha hs
      obtain ⟨q0, q1⟩ := day_cells (ate_stays _ _ _ _ _ _ hEx hb6 hAt6)
      obtain ⟨r0, r1⟩ := day_cells (ate_stays _ _ _ _ _ _ hEx hb7 hAt7)
      dsimp only at q0 q1 r0 r1
      have qb := Nat.lt_of_lt_of_le hb6 hEx.size
      have rb := Nat.lt_of_lt_of_le hb7 hEx.size
      obtain ⟨e1, he1⟩ : ∃ e1, (lc == 1) = e1 := ⟨_, rfl⟩
      obtain ⟨e2, he2⟩ : ∃ e2, (kc == 1) = e2 := ⟨_, rfl⟩
      obtain ⟨e3, he3⟩ : ∃ e3, decide (kb ≥ lb) = e3 := ⟨_, rfl⟩
      rw [he1] at ha
      rw [he2, he3] at hs
      have HA := Lib.hid ha
      have HS := Lib.hid hs
      have E1 := Lib.hid he1
      have E2 := Lib.hid he2
      have E3 := Lib.hid he3
      obtain ⟨al, hal⟩ : ∃ al, alB l d = al := ⟨_, rfl⟩
      obtain ⟨st, hst⟩ : ∃ st, stB l k d = st := ⟨_, rfl⟩
      rw [hal, hst]
      rw [hal] at HA
      rw [hst] at HS
      clear ha hs hxl hxk hAt6 hAt7 he1 he2 he3 hal hst
      go_upto_region 13 with (fail)
      refine mor_reg13 _ _ (fun _ _ d _ _ h => by cases d <;> exact h) q0 q1 qb r0 r1 rb hdl hdk E1.out E2.out E3.out ?_
      intro _ _ _ _ _ _ _ _ _ _ _ _ _ _ _ _ _ _ _ _ _ _ _ _ _ _ _ _ _ _ _ w9 hE9
      go_wp2
      go_roundw
      case rel => exact ⟨d + 1, HDN.out, by rw [HA.out], by rw [HS.out], by go_num, hEx.trans hE9⟩
      case measure => have := HDN.out; simp [intOf]; omega
    · have hdl : ¬ d < l.length := by have := HLL.out; omega
      have hdd2 : d = N := by omega
      subst hdd2
      go_wp2
      exact HKK.out _ _ (mor_tail9 c p b more extra wt sky skyF day _ A B r1 r2 w w1 a1 c1 _ _ wx H16 hdd HK1 HK2 HC HDZ hn5 hN14 HBX hfin hEwx hE1x)
end Go.Proofs.Ytkjoojmlcjmlgaa
