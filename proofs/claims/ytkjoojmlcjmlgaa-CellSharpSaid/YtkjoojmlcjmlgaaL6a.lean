/- The law CellSharp: the loops. -/
import Derived.Test.YtkjoojmlcjmlgaaL6b
namespace Go.Proofs.Ytkjoojmlcjmlgaa
set_option linter.unusedVariables false
set_option linter.unusedSimpArgs false
open Go.RowKit
attribute [local go_sem] Oper.semAt_some
set_option maxRecDepth 1000000 in
set_option maxHeartbeats 64000000 in
theorem shp_tail7 {u6 u7 u8 u9 u10 u13 u19 u20 u21 u22 u23 u24 u25 u26 u27 u28 u29 u30 u31 u32 u33 u34 u35 u36 u37 u38 u39 u40 u41 u42 u43 u44 u45 u46 u47 u48 u49 u50 u51 u52 u53 u54 u55 u56 u57 u58 u59 u60 u61 u62 u63 u64 u65 u66 u67 u68 u69 u70 u71 u72 u73 u74 u75 u76 u77 u78 u79 u80 u81 u82 u83 u84 u85 u86 u87 u88 u89 u90 u91 u92 u93 u94 u95 u96 u97 u98 u99 u100 u101 u102 u103 u104 u105 u106 u107 u108 u109 u110 u111 u112 u113 u114 u115 u116 u117 u118 u119 u120 u121 u122 u123 u124 u125 u126 u127 u128 u129 u130 u131 u132 u133 u134 u135 u136 u137 u138 u139 u140 u141 u142 u143 u144 u145 u146 u147 u148 u149 u150 u151 u152 u153 u154 u155 u156 u157 u158 u159 u160 u161 u162 u163 u164 u165 u166 u167 u168 u169 u170 u171 u172 u173 u174 u175 u176 u177 u178 u179 u180 u181 u182 u183 u184 u185 u186 u187 u188 u189 u190 u191 u192 u193 u194 u195 u196 u197 u198 u199 u200 u201 u202 u203 u204 u205 u206 u207 u208 u209 u210 u211 u212 u213 u214 u215 u216 u217 u218 u219 u220 u221 u222 u223 u224 u225 u226 u227 u228 u229 u230 u231 u232 u233 u234 u235 u236 u237 u238 u239 u240 u241 u242 u243 u244 u245 u246 u247 u248 u249 u250 u251 u252 u253 u254 u255 u256 u257 u258 u259 u260 u261 u262 u263 u264 u265 u266 u267 u268 u269 u270 u271 u272 u273 u274 u275 u276 u277 u278 u279 u280 u281 : Value} (c : C.Sys) (p b : Int) (sky : ByteArray) (day : Nat) (K : List C.Seen) (kl kh : Int) (lk : List Int) (fy fz : Nat → Bool) (w w1 : World) (a1 aK : Option Addr) (c1 cK gy gn : Nat) (wv : World) (hK : Seens wv (.slice aK K.length cK) K) (hdk : day < K.length) (hKd : K[day] = ⟨kl, kh, lk⟩) (hln : lk.length = c.loads.length) (hwd : ∀ i (h : i < lk.length), lk[i] = if fy i then (if fz i then 2 else 3) else 1) (hy : Bools c.loads.length wv gy fy) (hz : Bools c.loads.length wv gn fz) (hn5 : c.loads.length ≤ 5) (hEwv : Ext w wv) (hE1v : Ext w1 wv) (HBX : Hid (∀ y, Ext w1 y → (∀ o, y.cell? ⟨w.heap.size, o, none⟩ = (sysV c (.slice a1 c.loads.length c1) : Array Value)[o]?) ∧ w.heap.size < y.heap.size)) :
    Code.wp Try.prog (shpT 7) (bodyPost Try.prog Try.f6 (fun e w' => e = .returned (.bool true) ∧ Ext w w')) ⟨List.toArray (.agg (sysV c (.slice a1 c.loads.length c1)) :: .int .i64 p :: .int .i64 b :: .string sky :: .int .i64 (day : Int) :: .pointer (some ⟨w.heap.size, 0, none⟩) :: u6 :: u7 :: u8 :: u9 :: u10 :: .slice aK K.length cK :: .int .i64 0 :: u13 :: .bool true :: .bool true :: .bool true :: .slice (some ⟨gy, 0, none⟩) c.loads.length c.loads.length :: .slice (some ⟨gn, 0, none⟩) c.loads.length c.loads.length :: u19 :: u20 :: u21 :: u22 :: u23 :: u24 :: u25 :: u26 :: u27 :: u28 :: u29 :: u30 :: u31 :: u32 :: u33 :: u34 :: u35 :: u36 :: u37 :: u38 :: u39 :: u40 :: u41 :: u42 :: u43 :: u44 :: u45 :: u46 :: u47 :: u48 :: u49 :: u50 :: u51 :: u52 :: u53 :: u54 :: u55 :: u56 :: u57 :: u58 :: u59 :: u60 :: u61 :: u62 :: u63 :: u64 :: u65 :: u66 :: u67 :: u68 :: u69 :: u70 :: u71 :: u72 :: u73 :: u74 :: u75 :: u76 :: u77 :: u78 :: u79 :: u80 :: u81 :: u82 :: u83 :: u84 :: u85 :: u86 :: u87 :: u88 :: u89 :: u90 :: u91 :: u92 :: u93 :: u94 :: u95 :: u96 :: u97 :: u98 :: u99 :: u100 :: u101 :: u102 :: u103 :: u104 :: u105 :: u106 :: u107 :: u108 :: u109 :: u110 :: u111 :: u112 :: u113 :: u114 :: u115 :: u116 :: u117 :: u118 :: u119 :: u120 :: u121 :: u122 :: u123 :: u124 :: u125 :: u126 :: u127 :: u128 :: u129 :: u130 :: u131 :: u132 :: u133 :: u134 :: u135 :: u136 :: u137 :: u138 :: u139 :: u140 :: u141 :: u142 :: u143 :: u144 :: u145 :: u146 :: u147 :: u148 :: u149 :: u150 :: u151 :: u152 :: u153 :: u154 :: u155 :: u156 :: u157 :: u158 :: u159 :: u160 :: u161 :: u162 :: u163 :: u164 :: u165 :: u166 :: u167 :: u168 :: u169 :: u170 :: u171 :: u172 :: u173 :: u174 :: u175 :: u176 :: u177 :: u178 :: u179 :: u180 :: u181 :: u182 :: u183 :: u184 :: u185 :: u186 :: u187 :: u188 :: u189 :: u190 :: u191 :: u192 :: u193 :: u194 :: u195 :: u196 :: u197 :: u198 :: u199 :: u200 :: u201 :: u202 :: u203 :: u204 :: u205 :: u206 :: u207 :: u208 :: u209 :: u210 :: u211 :: u212 :: u213 :: u214 :: u215 :: u216 :: u217 :: u218 :: u219 :: u220 :: u221 :: u222 :: u223 :: u224 :: u225 :: u226 :: u227 :: u228 :: u229 :: u230 :: u231 :: u232 :: u233 :: u234 :: u235 :: u236 :: u237 :: u238 :: u239 :: u240 :: u241 :: u242 :: u243 :: u244 :: u245 :: u246 :: u247 :: u248 :: u249 :: u250 :: u251 :: u252 :: u253 :: u254 :: u255 :: u256 :: u257 :: u258 :: u259 :: u260 :: u261 :: u262 :: u263 :: u264 :: u265 :: u266 :: u267 :: u268 :: u269 :: u270 :: u271 :: u272 :: u273 :: u274 :: u275 :: u276 :: u277 :: u278 :: u279 :: u280 :: u281 :: []), []⟩ wv := by
  unfold shpT
  conv => arg 2; whnf
  obtain ⟨_, _, e0, hxk⟩ := hK
  cases e0
  obtain ⟨bk, ok, vk, rfl, hbk, _, _, x3, hik⟩ := hxk day hdk
  rw [hKd] at hik
  dsimp only at hik
  obtain ⟨ak, ck2, rfl, hik2⟩ := hik
  rw [hln] at x3
  have X3 := Lib.hid x3
  have hn5' := hn5
  have HIK := Lib.hid hik2
  have HWD := Lib.hid hwd
  have HLN := Lib.hid hln
  clear hxk hik2 hwd hln
  obtain ⟨k0, l0⟩ := HBX.out wv hE1v
  go_upto_region 23 with (fail)
  refine shp_reg23 _ _ (fun _ _ d _ _ h => by cases d <;> exact h) ⟨k0, l0⟩ x3 hbk hdk ?_
  intro _ _ _ _ _ _ _ _ _ _ _ _ _ _ _ _ _ w9 hEw9
  clear k0 l0 x3
  go_wp2
  go_loopw [24] (fun s wx => ∃ j : Nat, j ≤ c.loads.length ∧ s = .int .i64 j ∧ Ext w9 wx) (fun s _ => c.loads.length - (intOf s).toNat)
  case atStart => exact ⟨0, Nat.zero_le _, rfl, Ext.refl _⟩
  case round =>
    rename World => wx
    obtain ⟨j, hj, rfl, hEx⟩ := hrel
    have hEvx := hEw9.trans hEx
    have hE1x := hE1v.trans hEvx
    have hEwx := hEwv.trans hEvx
    obtain ⟨k0, l0⟩ := HBX.out wx hE1x
    by_cases hjn : j < c.loads.length
    · have HJN := Lib.hid hjn
      have hil : j < lk.length := by have := HLN.out; omega
      obtain ⟨pk, qk, rfl, hpk, z1⟩ := HIK.out j hil
      have hw := HWD.out j hil
      obtain ⟨wd, hwdd⟩ : ∃ wd, lk[j] = wd := ⟨_, rfl⟩
      rw [hwdd] at z1 hw
      have HW := Lib.hid hw
      clear hw hwdd
      have z1' := (hEvx.cells.1 _ _ hpk).trans z1
      have z1' := (hEvx.cells.1 _ _ hpk).trans z1
      have x3' := (hEvx.cells.1 _ _ hbk).trans X3.out
      have xb := Nat.lt_of_lt_of_le hbk hEvx.size
      have zb := Nat.lt_of_lt_of_le hpk hEvx.size
      clear z1
      go_upto_region 29 with (fail)
      have y1 := (hy.ext hEvx).cell j hjn
      have y2 := (hz.ext hEvx).cell j hjn
      have yl := (hy.ext hEvx).lt
      have zl := (hz.ext hEvx).lt
      refine shp_reg29 _ _ (fun _ _ d _ _ h => by cases d <;> exact h) y1 yl y2 zl hjn HW.out ?_
      intro _ _ _ _ _ _ _ _ _ _ _ _ _ _ _ _ _ _ _ _ _ _ _ _ _ _ _ _ _ _ _ _ _ _ _ _ _ _ _ _ _ w10 hEw10
      go_wp2
      go_roundw
      case rel => exact ⟨j + 1, HJN.out, by go_num, hEx.trans hEw10⟩
      case measure => have := HJN.out; simp [intOf]; omega
    · go_wp2_with (first | (go_at_call 16; refine (known_any _).mono ?_; rintro e wk ⟨rfl, hbk⟩))
      go_ret
      exact ⟨rfl, by (with_reducible (repeat (first | exact Ext.refl _ | assumption | apply Ext.alloc | apply Ext.drew | exact ext_plus _ _ | (apply Ext.setCell; rotate_left; (simp <;> omega)) | (apply Ext.trans; rotate_left; exact ext_plus _ _) | (apply Ext.trans; rotate_left; assumption))))⟩
set_option maxRecDepth 1000000 in
set_option maxHeartbeats 64000000 in
theorem shp_tail6 {u6 u7 u8 u9 u19 u20 u21 u22 u23 u24 u25 u26 u27 u28 u29 u30 u31 u32 u33 u34 u35 u36 u37 u38 u39 u40 u41 u42 u43 u44 u45 u46 u47 u48 u49 u50 u51 u52 u53 u54 u55 u56 u57 u58 u59 u60 u61 u62 u63 u64 u65 u66 u67 u68 u69 u70 u71 u72 u73 u74 u75 u76 u77 u78 u79 u80 u81 u82 u83 u84 u85 u86 u87 u88 u89 u90 u91 u92 u93 u94 u95 u96 u97 u98 u99 u100 u101 u102 u103 u104 u105 u106 u107 u108 u109 u110 u111 u112 u113 u114 u115 u116 u117 u118 u119 u120 u121 u122 u123 u124 u125 u126 u127 u128 u129 u130 u131 u132 u133 u134 u135 u136 u137 u138 u139 u140 u141 u142 u143 u144 u145 u146 u147 u148 u149 u150 u151 u152 u153 u154 u155 u156 u157 u158 u159 u160 u161 u162 u163 u164 u165 u166 u167 u168 u169 u170 u171 u172 u173 u174 u175 u176 u177 u178 u179 u180 u181 u182 u183 u184 u185 u186 u187 u188 u189 u190 u191 u192 u193 u194 u195 u196 u197 u198 u199 u200 u201 u202 u203 u204 u205 u206 u207 u208 u209 u210 u211 u212 u213 u214 u215 u216 u217 u218 u219 u220 u221 u222 u223 u224 u225 u226 u227 u228 u229 u230 u231 u232 u233 u234 u235 u236 u237 u238 u239 u240 u241 u242 u243 u244 u245 u246 u247 u248 u249 u250 u251 u252 u253 u254 u255 u256 u257 u258 u259 u260 u261 u262 u263 u264 u265 u266 u267 u268 u269 u270 u271 u272 u273 u274 u275 u276 u277 u278 u279 u280 u281 : Value} (c : C.Sys) (p b : Int) (sky : ByteArray) (T : List C.Txt) (F : Nat → List (List C.Day)) (day N : Nat) (K : List C.Seen) (kl kh : Int) (lk : List Int) (Q : Int) (w w1 w5 : World) (a1 aK aT : Option Addr) (c1 cK cT gy gn : Nat) (wv : World) (hS : Shp c p b sky.data.toList T F day N kl kh lk Q) (hP : Loads w (.slice a1 c.loads.length c1) c.loads) (hK : Seens w5 (.slice aK K.length cK) K) (hdk : day < K.length) (hKd : K[day] = ⟨kl, kh, lk⟩) (hT : Texts w5 (.slice aT T.length cT) T) (hgiv : givenB c p b 0 = true) (hdz : c.days = (N : Int)) (hskz : sky.size = N) (hl1 : ((K.length : Int) != c.days) = false) (hy : Bools c.loads.length wv gy (fun _ => false)) (hz : Bools c.loads.length wv gn (fun _ => false)) (hgne : gy ≠ gn) (hgy5 : w5.heap.size ≤ gy) (hgn5 : w5.heap.size ≤ gn) (hE5v : Ext w5 wv) (hEw5 : Ext w w5) (hE15 : Ext w1 w5) (HSE : Hid (∀ w', Ext w w' → Calls Try.prog 23 #[.agg (sysV c (.slice a1 c.loads.length c1))] w' fun e w2 => e = .returned (.int .i64 Q) ∧ Ext w' w2)) (HBX : Hid (∀ y, Ext w1 y → (∀ o, y.cell? ⟨w.heap.size, o, none⟩ = (sysV c (.slice a1 c.loads.length c1) : Array Value)[o]?) ∧ w.heap.size < y.heap.size)) :
    Code.wp Try.prog (shpT 6) (bodyPost Try.prog Try.f6 (fun e w' => e = .returned (.bool true) ∧ Ext w w')) ⟨List.toArray (.agg (sysV c (.slice a1 c.loads.length c1)) :: .int .i64 p :: .int .i64 b :: .string sky :: .int .i64 (day : Int) :: .pointer (some ⟨w.heap.size, 0, none⟩) :: u6 :: u7 :: u8 :: u9 :: .bool false :: .slice aK K.length cK :: .int .i64 0 :: .slice aT T.length cT :: .bool false :: .bool false :: .bool false :: .slice (some ⟨gy, 0, none⟩) c.loads.length c.loads.length :: .slice (some ⟨gn, 0, none⟩) c.loads.length c.loads.length :: u19 :: u20 :: u21 :: u22 :: u23 :: u24 :: u25 :: u26 :: u27 :: u28 :: u29 :: u30 :: u31 :: u32 :: u33 :: u34 :: u35 :: u36 :: u37 :: u38 :: u39 :: u40 :: u41 :: u42 :: u43 :: u44 :: u45 :: u46 :: u47 :: u48 :: u49 :: u50 :: u51 :: u52 :: u53 :: u54 :: u55 :: u56 :: u57 :: u58 :: u59 :: u60 :: u61 :: u62 :: u63 :: u64 :: u65 :: u66 :: u67 :: u68 :: u69 :: u70 :: u71 :: u72 :: u73 :: u74 :: u75 :: u76 :: u77 :: u78 :: u79 :: u80 :: u81 :: u82 :: u83 :: u84 :: u85 :: u86 :: u87 :: u88 :: u89 :: u90 :: u91 :: u92 :: u93 :: u94 :: u95 :: u96 :: u97 :: u98 :: u99 :: u100 :: u101 :: u102 :: u103 :: u104 :: u105 :: u106 :: u107 :: u108 :: u109 :: u110 :: u111 :: u112 :: u113 :: u114 :: u115 :: u116 :: u117 :: u118 :: u119 :: u120 :: u121 :: u122 :: u123 :: u124 :: u125 :: u126 :: u127 :: u128 :: u129 :: u130 :: u131 :: u132 :: u133 :: u134 :: u135 :: u136 :: u137 :: u138 :: u139 :: u140 :: u141 :: u142 :: u143 :: u144 :: u145 :: u146 :: u147 :: u148 :: u149 :: u150 :: u151 :: u152 :: u153 :: u154 :: u155 :: u156 :: u157 :: u158 :: u159 :: u160 :: u161 :: u162 :: u163 :: u164 :: u165 :: u166 :: u167 :: u168 :: u169 :: u170 :: u171 :: u172 :: u173 :: u174 :: u175 :: u176 :: u177 :: u178 :: u179 :: u180 :: u181 :: u182 :: u183 :: u184 :: u185 :: u186 :: u187 :: u188 :: u189 :: u190 :: u191 :: u192 :: u193 :: u194 :: u195 :: u196 :: u197 :: u198 :: u199 :: u200 :: u201 :: u202 :: u203 :: u204 :: u205 :: u206 :: u207 :: u208 :: u209 :: u210 :: u211 :: u212 :: u213 :: u214 :: u215 :: u216 :: u217 :: u218 :: u219 :: u220 :: u221 :: u222 :: u223 :: u224 :: u225 :: u226 :: u227 :: u228 :: u229 :: u230 :: u231 :: u232 :: u233 :: u234 :: u235 :: u236 :: u237 :: u238 :: u239 :: u240 :: u241 :: u242 :: u243 :: u244 :: u245 :: u246 :: u247 :: u248 :: u249 :: u250 :: u251 :: u252 :: u253 :: u254 :: u255 :: u256 :: u257 :: u258 :: u259 :: u260 :: u261 :: u262 :: u263 :: u264 :: u265 :: u266 :: u267 :: u268 :: u269 :: u270 :: u271 :: u272 :: u273 :: u274 :: u275 :: u276 :: u277 :: u278 :: u279 :: u280 :: u281 :: []), []⟩ wv := by
  unfold shpT
  conv => arg 2; whnf
  obtain ⟨_, _, e0, hxk⟩ := id hK
  cases e0
  obtain ⟨bk, ok, vk, rfl, hbk, x1, x2, x3, hik⟩ := hxk day hdk
  rw [hKd] at x1 x2 hik
  dsimp only at x1 x2 hik
  have HK := Lib.hid hK
  obtain ⟨_, _, e1, hxt⟩ := hT
  cases e1
  have HXT := Lib.hid hxt
  have HS := Lib.hid hS
  clear hxk hxt hK hS
  have X1 := Lib.hid x1
  have X2 := Lib.hid x2
  clear x1 x2 x3 hik
  have hn5 := HS.out.n5
  have hN14 := HS.out.N14
  have hqb := HS.out.qb
  have hdN := HS.out.dN
  have hMM := HS.out.M
  have hgy5' : w5.heap.size ≤ gy := hgy5
  have hgn5' : w5.heap.size ≤ gn := hgn5
  go_step
  go_step
  rename Act → World → Prop => KK
  rename ∀ _ _, _ → KK _ _ => hKK
  have HKK := Lib.hid hKK
  clear hKK
  go_wp2
  go_loopw [14, 15, 16, 19] (fun s14 s15 s16 s19 wx => ∃ k : Nat, k ≤ T.length ∧ s14 = .bool ((F k).any fun r => bat day r == kl) ∧ s15 = .bool ((F k).any fun r => bat day r == kh) ∧ s16 = .bool (!(F k).isEmpty) ∧ s19 = .int .i64 k ∧ Ext w5 wx ∧ Bools c.loads.length wx gy (fun i => ((F k).any fun r => C.has (car day r) i)) ∧ Bools c.loads.length wx gn (fun i => ((F k).any fun r => !C.has (car day r) i))) (fun _ _ _ s _ => T.length - (intOf s).toNat)
  case atStart => exact ⟨0, Nat.zero_le _, by rw [HS.out.f0]; rfl, by rw [HS.out.f0]; rfl, by rw [HS.out.f0]; rfl, rfl, hE5v, hy.congr (fun j _ => by rw [HS.out.f0]; rfl), hz.congr (fun j _ => by rw [HS.out.f0]; rfl)⟩
  case round =>
    rename World => wx
    obtain ⟨k, hk, rfl, rfl, rfl, rfl, hE5x, hyx, hzx⟩ := hrel
    have hE1x := hE15.trans hE5x
    have hEwx := hEw5.trans hE5x
    obtain ⟨k0, l0⟩ := HBX.out wx hE1x
    by_cases hkM : k < T.length
    · have HKM := Lib.hid hkM
      obtain ⟨bt, ot, rfl, hbt, hAt⟩ := HXT.out k hkM
      have n0 : wx.cell? ⟨bt, ot + k, none⟩ = some (.string (bs T[k])) := by have h := hAt 0 (.string (bs T[k])) rfl; simp only [Nat.mul_one, Nat.add_zero] at h; exact (hE5x.cells.1 _ _ hbt).trans h
      have mb := Nat.lt_of_lt_of_le hbt hE5x.size
      obtain ⟨t, ht⟩ : ∃ t : C.Txt, T[k] = t := ⟨_, rfl⟩
      have htl : t.length = N := by subst ht; exact HS.out.tl k hkM
      have htw : C.weatherB c t = true := by subst ht; exact HS.out.tw k hkM
      have htr : ∃ nb xc, C.dat (C.run c p b 0 t) day = ⟨nb, xc⟩ ∧ 0 ≤ xc ∧ xc < Q ∧ (C.run c p b 0 t).length = N := by subst ht; exact HS.out.tr k hkM
      have hfy : C.agrees t sky.data.toList = true → F (k + 1) = F k ++ [C.run c p b 0 t] := by subst ht; exact HS.out.fy k hkM
      have hfn : C.agrees t sky.data.toList = false → F (k + 1) = F k := by subst ht; exact HS.out.fn k hkM
      rw [ht] at n0
      clear hAt ht
      obtain ⟨tx, htx⟩ : ∃ tx, bs t = tx := ⟨_, rfl⟩
      have htd : t = tx.data.toList := by rw [← htx, bs_list]
      rw [htx] at n0
      have htz : tx.size = N := by rw [← htx, bs_size]; exact htl
      have hag := fun w' => dagrees_any tx sky w' (by omega) (by omega)
      have hss : decide (tx.size = sky.size) = true := by simp; omega
      simp only [hss, Bool.and_true, ← htd] at hag
      cases hA : C.agrees t sky.data.toList with
      | false =>
        have hF := hfn hA
        simp only [hA] at hag
        have HAG := Lib.hid hag
        have HF := Lib.hid hF
        have HYX := Lib.hid hyx
        have HZX := Lib.hid hzx
        clear hag hF hfy hfn htr htw htd hyx hzx htx hss htl
        go_wp2_with (first | (go_at_call 27; refine (HAG.out _).mono ?_; rintro e w10 ⟨rfl, hb10⟩; (try clear k0 l0); obtain ⟨k0, l0⟩ := HBX.out w10 (hE1x.trans hb10)))
        go_roundw
        case rel => exact ⟨k + 1, HKM.out, by rw [HF.out], by rw [HF.out], by rw [HF.out], by go_num, hE5x.trans hb10, (HYX.out.ext hb10).congr (fun j _ => by rw [HF.out]), (HZX.out.ext hb10).congr (fun j _ => by rw [HF.out])⟩
        case measure => have := HKM.out; simp [intOf]; omega
      | true =>
        have hF := hfy hA
        simp only [hA] at hag
        have HAG := Lib.hid hag
        obtain ⟨nb, xc, hdat, hx0, hx1, hrl⟩ := htr
        have hbat : bat day (C.run c p b 0 t) = nb := by unfold bat; rw [hdat]
        have hcar : car day (C.run c p b 0 t) = xc := by unfold car; rw [hdat]
        obtain ⟨e1, he1⟩ : ∃ e1, (nb == kl) = e1 := ⟨_, rfl⟩
        obtain ⟨e2, he2⟩ : ∃ e2, (nb == kh) = e2 := ⟨_, rfl⟩
        have hlo : ((F (k + 1)).any fun r => bat day r == kl) = (((F k).any fun r => bat day r == kl) || e1) := by rw [hF, List.any_append]; simp [hbat, he1]
        have hhi : ((F (k + 1)).any fun r => bat day r == kh) = (((F k).any fun r => bat day r == kh) || e2) := by rw [hF, List.any_append]; simp [hbat, he2]
        have hso : (!(F (k + 1)).isEmpty) = true := by rw [hF]; simp
        obtain ⟨Y1, hY1⟩ : ∃ Y1 : Nat → Bool, (fun i => ((F k).any fun r => C.has (car day r) i)) = Y1 := ⟨_, rfl⟩
        obtain ⟨N1, hN1⟩ : ∃ N1 : Nat → Bool, (fun i => ((F k).any fun r => !C.has (car day r) i)) = N1 := ⟨_, rfl⟩
        obtain ⟨Y2, hY2⟩ : ∃ Y2 : Nat → Bool, (fun i => ((F (k + 1)).any fun r => C.has (car day r) i)) = Y2 := ⟨_, rfl⟩
        obtain ⟨N2, hN2⟩ : ∃ N2 : Nat → Bool, (fun i => ((F (k + 1)).any fun r => !C.has (car day r) i)) = N2 := ⟨_, rfl⟩
        have hyi : ∀ i, i < c.loads.length → Y2 i = (Y1 i || C.has xc i) := fun i _ => by rw [← hY1, ← hY2]; simp only [hF, List.any_append]; simp [hcar]
        have hni : ∀ i, i < c.loads.length → N2 i = (N1 i || !C.has xc i) := fun i _ => by rw [← hN1, ← hN2]; simp only [hF, List.any_append]; simp [hcar]
        have hyf : ∀ i, Y2 i = ((F (k + 1)).any fun r => C.has (car day r) i) := fun i => by rw [← hY2]
        have hnf : ∀ i, N2 i = ((F (k + 1)).any fun r => !C.has (car day r) i) := fun i => by rw [← hN2]
        rw [hY1] at hyx
        rw [hN1] at hzx
        obtain ⟨lo, hlo2⟩ : ∃ lo, ((F k).any fun r => bat day r == kl) = lo := ⟨_, rfl⟩
        obtain ⟨hi, hhi2⟩ : ∃ hi, ((F k).any fun r => bat day r == kh) = hi := ⟨_, rfl⟩
        rw [hlo2] at hlo
        rw [hhi2] at hhi
        rw [hlo2, hhi2]
        have hpo : playB c p b 0 tx.data.toList = true := by unfold playB; rw [← htd, htw]; have h := hgiv; unfold givenB at h; rw [h]; rfl
        obtain ⟨days, hdays⟩ : ∃ days, C.run c p b 0 t = days := ⟨_, rfl⟩
        rw [hdays] at hrl hdat
        have hpl : ∀ w', Ext w w' → Calls Try.prog 17 #[.agg (sysV c (.slice a1 c.loads.length c1)), .int .i64 p, .int .i64 b, .int .i64 0, .string tx] w' fun e w2 => ∃ v l1 l2 l3 l4 l5 l6, e = .returned (.tuple #[v, .agg #[.int .i64 l1, .int .i64 l2, .int .i64 l3, .int .i64 l4, .int .i64 l5, .int .i64 l6], .int .i64 0]) ∧ Days w2 v days ∧ Ext w' w2 ∧ ∀ j, v.ownBlock = some j → w'.heap.size ≤ j := fun w' hx => (play_own c p b 0 tx _ w' (hP.ext hx) (by omega) (by omega) hpo).mono fun e w2 ⟨v, h1, h2, h3, h4⟩ => ⟨v, _, _, _, _, _, _, h1, by rw [← htd, hdays] at h2; exact h2, h3, h4⟩
        have HPL := Lib.hid hpl
        have HLO := Lib.hid hlo
        have HHI := Lib.hid hhi
        have HSO := Lib.hid hso
        have HY2 := Lib.hid hyi
        have HN2 := Lib.hid hni
        have HYF := Lib.hid hyf
        have HNF := Lib.hid hnf
        have HDT := Lib.hid hdat
        have HE1 := Lib.hid he1
        have HE2 := Lib.hid he2
        have HRL := Lib.hid hrl
        have HYX := Lib.hid hyx
        have HZX := Lib.hid hzx
        have hdl : day < days.length := by omega
        have hlz : ((days.length : Int) != c.days) = false := by rw [hrl, hdz]; simp
        clear hag hF hfy hfn htw htd hpo hpl hlo hhi hso hY1 hN1 hY2 hN2 hyi hni hyf hnf hlo2 hhi2 hdat hbat hcar hdays he1 he2 hyx hzx htx hss htl hrl
        have HLZ := Lib.hid hlz
        clear hlz
        go_upto_region 11 with (first | (go_at_call 27; refine (HAG.out _).mono ?_; rintro e w10 ⟨rfl, hb10⟩; (try clear k0 l0); obtain ⟨k0, l0⟩ := HBX.out w10 (hE1x.trans hb10)))
        have n0' := (hb10.cells.1 _ _ mb).trans n0
        have mb' := Nat.lt_of_lt_of_le mb hb10.size
        have hEw10 := hEwx.trans hb10
        refine shp_reg11 _ _ (fun _ _ d _ _ h => by cases d <;> exact h) ⟨k0, l0⟩ n0' mb' hkM HPL hEw10 ?_
        intro _ _ _ _ _ _ _ _ _ _ _ _ _ ad cd w11 hE11 hD11 hO11
        obtain ⟨_, _, e6, hx11⟩ := hD11
        cases e6
        obtain ⟨b6, o6, rfl, hb6, hAt6⟩ := hx11 day hdl
        have hdd : days[day] = ⟨nb, xc⟩ := by have h := HDT.out; unfold C.dat at h; rw [List.getD_eq_getElem?_getD, List.getElem?_eq_getElem hdl] at h; exact h
        rw [hdd] at hAt6
        obtain ⟨q0, q1⟩ := day_cells hAt6
        dsimp only at q0 q1
        have hb6x : wx.heap.size ≤ b6 := by have h1 := hO11 b6 rfl; have h2 := hb10.size; omega
        have hE1x11 := (hE1x.trans hb10).trans hE11
        have hEw11 := hEw10.trans hE11
        have hE511 := (hE5x.trans hb10).trans hE11
        clear hx11 hAt6 hdd k0 l0 n0 n0' mb mb'
        obtain ⟨k0, l0⟩ := HBX.out w11 hE1x11
        go_upto_region 12 with (fail)
        refine shp_reg12 _ _ (fun _ _ d _ _ h => by cases d <;> exact h) ⟨k0, l0⟩ hl1 HLZ.out q1 hb6 hx0 hx1 HSE hdl hEw11 ?_
        intro _ _ _ _ _ _ _ _ _ _ _ _ _ _ _ _ _ _ _ _ _ _ _ _ _ _ _ _ _ _ _ _ _ _ _ _ _ w12 hE12
        have hE512 := hE511.trans hE12
        go_upto_region 14 with (fail)
        have x1' := (hE512.cells.1 _ _ hbk).trans X1.out
        have x2' := (hE512.cells.1 _ _ hbk).trans X2.out
        have xb := Nat.lt_of_lt_of_le hbk hE512.size
        have q0' := (hE12.cells.1 _ _ hb6).trans q0
        have q1' := (hE12.cells.1 _ _ hb6).trans q1
        have qb' := Nat.lt_of_lt_of_le hb6 hE12.size
        refine shp_reg14 _ _ (fun _ _ d _ _ h => by cases d <;> exact h) x1' x2' xb q0' qb' hdk hdl HE1.out HE2.out ?_
        intro _ _ _ _ _ _ _ _ _ _ _ _ _ _ _ _ _ _ _ _ _ _ _ _ _ _ _ _ _ _ w14 hE14
        have hE5q := hE512.trans hE14
        have q1q := (hE14.cells.1 _ _ qb').trans q1'
        have qbq := Nat.lt_of_lt_of_le qb' hE14.size
        have hxq : Ext wx w14 := ((hb10.trans hE11).trans hE12).trans hE14
        have hyq := HYX.out.ext hxq
        have hzq := HZX.out.ext hxq
        have hgyx := HYX.out.lt
        have hgnx := HZX.out.lt
        have hb6y : b6 ≠ gy := by omega
        have hb6n : b6 ≠ gn := by omega
        clear k0 l0 q0 q1 q0' q1' x1' x2' xb qb'
        go_wp2
        go_loopw [23] (fun s wy => ∃ i : Nat, i ≤ c.loads.length ∧ s = .int .i64 i ∧ Ext w5 wy ∧ Bools c.loads.length wy gy (fun j => if j < i then Y2 j else Y1 j) ∧ Bools c.loads.length wy gn (fun j => if j < i then N2 j else N1 j) ∧ wy.cell? ⟨b6, o6 + day * 2 + 1, none⟩ = some (.int .i64 xc) ∧ b6 < wy.heap.size) (fun s _ => c.loads.length - (intOf s).toNat)
        case atStart => exact ⟨0, Nat.zero_le _, rfl, hE5q, hyq.congr (fun j _ => by simp), hzq.congr (fun j _ => by simp), q1q, qbq⟩
        case round =>
          rename World => wy
          obtain ⟨i, hi, rfl, hE5y, hyy, hzy, q1, qb⟩ := hrel
          have hE1y := hE15.trans hE5y
          obtain ⟨k0, l0⟩ := HBX.out wy hE1y
          by_cases hin : i < c.loads.length
          · have HIN := Lib.hid hin
            cases H : C.has xc i with
            | true =>
              have hyi : Y2 i = true := by rw [HY2.out i hin, H]; simp
              have hni : N2 i = N1 i := by rw [HN2.out i hin, H]; simp
              have f0 := hyy.free
              have f1 := hyy.lt
              have f2 := hyy.cell i hin
              have HYY := Lib.hid hyy
              have HZY := Lib.hid hzy
              have Q1 := Lib.hid q1
              have HYI := Lib.hid hyi
              have HNI := Lib.hid hni
              clear hyy hzy hyi hni
              go_wp2_with (first | (go_at_call 24; refine (dhas_any _ _ _ (by omega) (by omega) (by omega)).mono ?_; rintro e w6 ⟨rfl, rfl⟩))
              go_roundw
              case rel => exact ⟨i + 1, HIN.out, by go_num, hE5y.setCell (p := ⟨gy, i, none⟩) hgy5 _, (HYY.out.set i HIN.out true).congr (fun j _ => upto_set HYI.out j), (HZY.out.other (a := ⟨gy, i, none⟩) hgne _).congr (fun j _ => upto_same HNI.out j), (cell_other _ _ (Ne.symm hb6y)).trans Q1.out, by simpa [World.setCell] using qb⟩
              case measure => have := HIN.out; simp [intOf]; omega
            | false =>
              have hyi : Y2 i = Y1 i := by rw [HY2.out i hin, H]; simp
              have hni : N2 i = true := by rw [HN2.out i hin, H]; simp
              have f0 := hzy.free
              have f1 := hzy.lt
              have f2 := hzy.cell i hin
              have HYY := Lib.hid hyy
              have HZY := Lib.hid hzy
              have Q1 := Lib.hid q1
              have HYI := Lib.hid hyi
              have HNI := Lib.hid hni
              clear hyy hzy hyi hni
              go_wp2_with (first | (go_at_call 24; refine (dhas_any _ _ _ (by omega) (by omega) (by omega)).mono ?_; rintro e w6 ⟨rfl, rfl⟩))
              go_roundw
              case rel => exact ⟨i + 1, HIN.out, by go_num, hE5y.setCell (p := ⟨gn, i, none⟩) hgn5 _, (HYY.out.other (a := ⟨gn, i, none⟩) (Ne.symm hgne) _).congr (fun j _ => upto_same HYI.out j), (HZY.out.set i HIN.out true).congr (fun j _ => upto_set HNI.out j), (cell_other _ _ (Ne.symm hb6n)).trans Q1.out, by simpa [World.setCell] using qb⟩
              case measure => have := HIN.out; simp [intOf]; omega
          · have hin2 : i = c.loads.length := by omega
            have hyz := hyy.congr (f' := Y2) (fun j hj => by rw [if_pos (by omega)])
            have hzz := hzy.congr (f' := N2) (fun j hj => by rw [if_pos (by omega)])
            have HYZ := Lib.hid hyz
            have HZZ := Lib.hid hzz
            clear hyy hzy hyz hzz
            go_wp2
            go_roundw
            case rel => exact ⟨k + 1, HKM.out, by rw [HLO.out], by rw [HHI.out], by rw [HSO.out], by go_num, hE5y, HYZ.out.congr (fun j hj => HYF.out j), HZZ.out.congr (fun j hj => HNF.out j)⟩
            case measure => have := HKM.out; simp [intOf]; omega
    · have hkk : k = T.length := by omega
      subst hkk
      have hlo := HS.out.lo
      have hhi := HS.out.hi
      have hne := HS.out.ne
      rw [hlo, hhi, hne, Bool.not_false]
      have HYX := Lib.hid hyx
      have HZX := Lib.hid hzx
      clear hlo hhi hne hyx hzx
      go_wp2
      exact HKK.out _ _ (shp_tail7 c p b sky day K kl kh lk _ _ w w1 (a1 := a1) (aK := some ⟨bk, ok, none⟩) c1 cK gy gn wx ((Seens.ext HK.out hE5x)) hdk hKd HS.out.ln HS.out.wd HYX.out HZX.out hn5 hEwx hE1x HBX)
end Go.Proofs.Ytkjoojmlcjmlgaa
