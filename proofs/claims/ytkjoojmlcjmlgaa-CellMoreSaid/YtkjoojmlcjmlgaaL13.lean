/- The law CellMore. -/
import Derived.Test.YtkjoojmlcjmlgaaL13a
namespace Go.Proofs.Ytkjoojmlcjmlgaa
set_option linter.unusedVariables false
set_option linter.unusedSimpArgs false
open Go.RowKit
attribute [local go_sem] Oper.semAt_some
set_option maxRecDepth 1000000 in
set_option maxHeartbeats 64000000 in
theorem mor_tail7 {u4 u5 u9 u10 u11 u12 u13 u14 u15 u16 u17 u19 u20 u22 u23 u24 u25 u26 u27 u28 u29 u30 u31 u32 u33 u34 u35 u36 u37 u38 u39 u40 u41 u42 u43 u44 u45 u46 u47 u48 u49 u50 u51 u52 u53 u54 u55 u56 u57 u58 u59 u60 u61 u62 u63 u64 u65 u66 u67 u68 u69 u70 u71 u72 u73 u74 u75 u76 u77 u78 u79 u80 u81 u82 u83 u84 u85 u86 u87 u88 u89 u90 u91 u92 u93 u94 u95 u96 u97 u98 u99 u100 u101 u102 u103 u104 u105 u106 u107 u108 u109 u110 u111 u112 u113 u114 u115 u116 u117 u118 u119 u120 u121 u122 u123 u124 u125 u126 u127 u128 u129 u130 u131 u132 u133 u134 u135 u136 u137 u138 u139 u140 u141 u142 u143 u144 u145 u146 u147 u148 u149 u150 u151 u152 u153 u154 u155 u156 u157 u158 u159 u160 u161 u162 u163 u164 u165 u166 u167 u168 u169 u170 u171 u172 u173 u174 u175 u176 u177 u178 u179 u180 u181 u182 u183 u184 u185 u186 u187 u188 u189 u190 u191 u192 u193 u194 u195 u196 u197 u198 u199 u200 u201 u202 u203 u204 u205 u206 u207 u208 u209 u210 u211 u212 u213 u214 u215 u216 u217 u218 u219 u220 u221 u222 u223 u224 u225 u226 u227 u228 u229 u230 u231 u232 u233 u234 u235 u236 u237 u238 u239 u240 u241 u242 u243 u244 u245 u246 u247 u248 u249 u250 u251 u252 u253 u254 u255 u256 u257 u258 u259 u260 u261 u262 u263 u264 u265 u266 u267 u268 u269 u270 u271 u272 u273 u274 u275 u276 u277 u278 u279 u280 u281 u282 u283 u284 u285 u286 u287 u288 u289 u290 u291 u292 u293 u294 u295 u296 u297 u298 u299 u300 u301 u302 u303 u304 u305 u306 u307 u308 u309 u310 u311 u312 u313 u314 u315 u316 u317 u318 u319 u320 u321 u322 u323 u324 u325 u326 u327 u328 u329 u330 u331 u332 u333 u334 u335 u336 u337 u338 u339 u340 u341 u342 u343 u344 u345 u346 u347 u348 u349 u350 u351 u352 : Value} (c : C.Sys) (p b more extra : Int) (wt sky skyF : ByteArray) (day N : Nat) (A B : List C.Seen) (r1 r2 : Int) (w w1 : World) (a1 : Option Addr) (c1 : Nat) (l k : List C.Day) (aL aK : Option Addr) (cL cK : Nat) (wv : World) (H16 : Hid (∃ (sA sX sB sC sky2 : ByteArray) (xv : Int), (∀ w, (Instr.slice 9 (.string sky) none (some (.int .i64 (day : Int))) none).run Try.prog w = .ok (.string sA) w) ∧ (∀ w, (Instr.slice 9 (.string wt) (some (.int .i64 (day : Int))) (some (.int .i64 ((day : Int) + 1))) none).run Try.prog w = .ok (.string sX) w) ∧ (∀ w, (Instr.slice 9 (.string sky) (some (.int .i64 ((day : Int) + 1))) none none).run Try.prog w = .ok (.string sC) w) ∧ (¬ 9223372036854775807 < sA.size + sX.size) ∧ sA ++ sX = sB ∧ (¬ 9223372036854775807 < sB.size + sC.size) ∧ sB ++ sC = sky2 ∧ (∀ w, (Instr.index 9 (.string sky) (.int .i64 (day : Int))).run Try.prog w = .ok (.int .u8 xv) w) ∧ (xv = 63 → skyF = sky2) ∧ (xv ≠ 63 → skyF = sky))) (hdd : day ≤ 14) (HK1 : Hid (∀ w', Ext w w' → Calls Try.prog 28 #[.agg (sysV c (.slice a1 c.loads.length c1)), .int .i64 p, .int .i64 b, .string sky] w' fun e w2 => ∃ v, e = .returned (.tuple #[v, .int .i64 r1]) ∧ Seens w2 v A ∧ Ext w' w2)) (HK2 : Hid (∀ w', Ext w w' → Calls Try.prog 28 #[.agg (sysV c (.slice a1 c.loads.length c1)), .int .i64 p, .int .i64 b, .string skyF] w' fun e w2 => ∃ v, e = .returned (.tuple #[v, .int .i64 r2]) ∧ Seens w2 v B ∧ Ext w' w2)) (HC : Hid ((r1 = 5 ∧ r2 = 5) ∨ (r1 = 0 ∧ A.length = N ∧ (r2 = 5 ∨ (r2 = 0 ∧ Mor c.loads.length N A B))))) (HDZ : Hid (c.days = (N : Int))) (hn5 : c.loads.length ≤ 5) (hN14 : N ≤ 14) (HBX : Hid (∀ y, Ext w1 y → (∀ o, y.cell? ⟨w.heap.size, o, none⟩ = (sysV c (.slice a1 c.loads.length c1) : Array Value)[o]?) ∧ w.heap.size < y.heap.size)) (hL : Days wv (.slice aL l.length cL) l) (hK : Days wv (.slice aK k.length cK) k) (hll : l.length = N) (hlk : k.length = N) (hfin : alB l N = true → stB l k N = true) (hEwv : Ext w wv) (hE1v : Ext w1 wv) :
    Code.wp Try.prog (morT 7) (bodyPost Try.prog Try.f13 (fun e w' => e = .returned (.bool true) ∧ Ext w w')) ⟨List.toArray (.agg (sysV c (.slice a1 c.loads.length c1)) :: .int .i64 p :: .int .i64 b :: .string wt :: u4 :: u5 :: .int .i64 (day : Int) :: .string sky :: .pointer (some ⟨w.heap.size, 0, none⟩) :: u9 :: u10 :: u11 :: u12 :: u13 :: u14 :: u15 :: u16 :: u17 :: .slice aL l.length cL :: u19 :: u20 :: .slice aK k.length cK :: u22 :: u23 :: u24 :: u25 :: u26 :: u27 :: u28 :: u29 :: u30 :: u31 :: u32 :: u33 :: u34 :: u35 :: u36 :: u37 :: u38 :: u39 :: u40 :: u41 :: u42 :: u43 :: u44 :: u45 :: u46 :: u47 :: u48 :: u49 :: u50 :: u51 :: u52 :: u53 :: u54 :: u55 :: u56 :: u57 :: u58 :: u59 :: u60 :: u61 :: u62 :: u63 :: u64 :: u65 :: u66 :: u67 :: u68 :: u69 :: u70 :: u71 :: u72 :: u73 :: u74 :: u75 :: u76 :: u77 :: u78 :: u79 :: u80 :: u81 :: u82 :: u83 :: u84 :: u85 :: u86 :: u87 :: u88 :: u89 :: u90 :: u91 :: u92 :: u93 :: u94 :: u95 :: u96 :: u97 :: u98 :: u99 :: u100 :: u101 :: u102 :: u103 :: u104 :: u105 :: u106 :: u107 :: u108 :: u109 :: u110 :: u111 :: u112 :: u113 :: u114 :: u115 :: u116 :: u117 :: u118 :: u119 :: u120 :: u121 :: u122 :: u123 :: u124 :: u125 :: u126 :: u127 :: u128 :: u129 :: u130 :: u131 :: u132 :: u133 :: u134 :: u135 :: u136 :: u137 :: u138 :: u139 :: u140 :: u141 :: u142 :: u143 :: u144 :: u145 :: u146 :: u147 :: u148 :: u149 :: u150 :: u151 :: u152 :: u153 :: u154 :: u155 :: u156 :: u157 :: u158 :: u159 :: u160 :: u161 :: u162 :: u163 :: u164 :: u165 :: u166 :: u167 :: u168 :: u169 :: u170 :: u171 :: u172 :: u173 :: u174 :: u175 :: u176 :: u177 :: u178 :: u179 :: u180 :: u181 :: u182 :: u183 :: u184 :: u185 :: u186 :: u187 :: u188 :: u189 :: u190 :: u191 :: u192 :: u193 :: u194 :: u195 :: u196 :: u197 :: u198 :: u199 :: u200 :: u201 :: u202 :: u203 :: u204 :: u205 :: u206 :: u207 :: u208 :: u209 :: u210 :: u211 :: u212 :: u213 :: u214 :: u215 :: u216 :: u217 :: u218 :: u219 :: u220 :: u221 :: u222 :: u223 :: u224 :: u225 :: u226 :: u227 :: u228 :: u229 :: u230 :: u231 :: u232 :: u233 :: u234 :: u235 :: u236 :: u237 :: u238 :: u239 :: u240 :: u241 :: u242 :: u243 :: u244 :: u245 :: u246 :: u247 :: u248 :: u249 :: u250 :: u251 :: u252 :: u253 :: u254 :: u255 :: u256 :: u257 :: u258 :: u259 :: u260 :: u261 :: u262 :: u263 :: u264 :: u265 :: u266 :: u267 :: u268 :: u269 :: u270 :: u271 :: u272 :: u273 :: u274 :: u275 :: u276 :: u277 :: u278 :: u279 :: u280 :: u281 :: u282 :: u283 :: u284 :: u285 :: u286 :: u287 :: u288 :: u289 :: u290 :: u291 :: u292 :: u293 :: u294 :: u295 :: u296 :: u297 :: u298 :: u299 :: u300 :: u301 :: u302 :: u303 :: u304 :: u305 :: u306 :: u307 :: u308 :: u309 :: u310 :: u311 :: u312 :: u313 :: u314 :: u315 :: u316 :: u317 :: u318 :: u319 :: u320 :: u321 :: u322 :: u323 :: u324 :: u325 :: u326 :: u327 :: u328 :: u329 :: u330 :: u331 :: u332 :: u333 :: u334 :: u335 :: u336 :: u337 :: u338 :: u339 :: u340 :: u341 :: u342 :: u343 :: u344 :: u345 :: u346 :: u347 :: u348 :: u349 :: u350 :: u351 :: u352 :: []), []⟩ wv := by
  unfold morT
  conv => arg 2; whnf
  go_step
  go_step
  rename Act → World → Prop => KK
  rename ∀ _ _, _ → KK _ _ => hKK
  have HKK := Lib.hid hKK
  clear hKK
  go_wp2
  exact HKK.out _ _ (mor_tail8 c p b more extra wt sky skyF day N A B r1 r2 w w1 a1 c1 l k aL aK cL cK wv H16 hdd HK1 HK2 HC HDZ hn5 hN14 HBX hL hK hll hlk hfin hEwv hE1v)
set_option maxRecDepth 1000000 in
set_option maxHeartbeats 64000000 in
theorem cellMore_law (c : C.Sys) (vl : Value) (p : Int) (hwfp : (Lit.int .i64 p).wf = true) (b : Int) (hwfb : (Lit.int .i64 b).wf = true) (wt : ByteArray) (more : Int) (hwfmore : (Lit.int .i64 more).wf = true) (extra : Int) (hwfextra : (Lit.int .i64 extra).wf = true) (dayI : Int) (hwfdayI : (Lit.int .i64 dayI).wf = true) (sky : ByteArray) (w : World) (hP : Loads w vl c.loads) (hTi : ∀ a n k, vl = .slice a n k → n ≤ k) :
    Calls Try.prog 13 #[.agg (sysV c vl), .int .i64 p, .int .i64 b, .string wt, .int .i64 more, .int .i64 extra, .int .i64 dayI, .string sky] w fun e w' => e = .returned (.bool true) ∧ Ext w w' := by
  have hP' := hP
  obtain ⟨a1, c1, rfl, hPx⟩ := hP'
  have HPX := Lib.hid hPx
  clear hPx
  obtain ⟨w1, hw1⟩ : ∃ w1, w.alloc (.cells (sysV c (.slice a1 c.loads.length c1)) 24) = w1 := ⟨_, rfl⟩
  have hE1 : Ext w w1 := by rw [← hw1]; (with_reducible (repeat (first | exact Ext.refl _ | assumption | apply Ext.alloc | apply Ext.drew | exact ext_plus _ _ | (apply Ext.setCell; rotate_left; (simp <;> omega)) | (apply Ext.trans; rotate_left; exact ext_plus _ _) | (apply Ext.trans; rotate_left; assumption))))
  have hb0 : Blk w1 w.heap.size (sysV c (.slice a1 c.loads.length c1)) 24 := by rw [← hw1]; exact Blk.new' rfl _ _
  have hbx := fun y (hy : Ext w1 y) => (⟨(hb0.ext hy).cell, (hb0.ext hy).lt⟩ : (∀ o, y.cell? ⟨w.heap.size, o, none⟩ = _) ∧ w.heap.size < y.heap.size)
  have HBX := Lib.hid hbx
  have HW1 := Lib.hid hw1
  clear hw1 hb0 hbx
  have hsh := fun w' (hx : Ext w w') => short_all c _ w' (hP.ext hx)
  obtain ⟨B, hB⟩ : ∃ B, decide (c.loads.length ≤ 10) = B := ⟨_, rfl⟩
  simp only [hB] at hsh
  have HSH := Lib.hid hsh
  clear hsh
  cases B with
  | false =>
    clear hB
    go_enter Try.func13, Try.ntmps13
    go_upto_region 1 with (fail)
    rw [HW1.out]
    obtain ⟨k0, l0⟩ := HBX.out w1 (Ext.refl _)
    go_wp2_with (first | (go_at_call 15; refine (HSH.out _ (by (with_reducible (repeat (first | exact Ext.refl _ | assumption | apply Ext.alloc | apply Ext.drew | exact ext_plus _ _ | (apply Ext.setCell; rotate_left; (simp <;> omega)) | (apply Ext.trans; rotate_left; exact ext_plus _ _) | (apply Ext.trans; rotate_left; assumption)))))).mono ?_; rintro e w2 ⟨rfl, hb2⟩; (try clear k0 l0); obtain ⟨k0, l0⟩ := HBX.out w2 (by (with_reducible (repeat (first | exact Ext.refl _ | assumption | apply Ext.alloc | apply Ext.drew | exact ext_plus _ _ | (apply Ext.setCell; rotate_left; (simp <;> omega)) | (apply Ext.trans; rotate_left; exact ext_plus _ _) | (apply Ext.trans; rotate_left; assumption)))))) | (go_at_call 16; refine (known_any _).mono ?_; rintro e wk ⟨rfl, hbk⟩))
    all_goals
      go_ret
      exact ⟨rfl, by (with_reducible (repeat (first | exact Ext.refl _ | assumption | apply Ext.alloc | apply Ext.drew | exact ext_plus _ _ | (apply Ext.setCell; rotate_left; (simp <;> omega)) | (apply Ext.trans; rotate_left; exact ext_plus _ _) | (apply Ext.trans; rotate_left; assumption))))⟩
  | true =>
  have hn : c.loads.length ≤ 10 := by simpa using hB
  clear hB
  by_cases hwz : wt.size ≤ 14
  case neg =>
    have hwzi : (14 : Int) < (wt.size : Int) := by omega
    clear hwz
    go_enter Try.func13, Try.ntmps13
    go_upto_region 1 with (fail)
    rw [HW1.out]
    obtain ⟨k0, l0⟩ := HBX.out w1 (Ext.refl _)
    go_wp2_with (first | (go_at_call 15; refine (HSH.out _ (by (with_reducible (repeat (first | exact Ext.refl _ | assumption | apply Ext.alloc | apply Ext.drew | exact ext_plus _ _ | (apply Ext.setCell; rotate_left; (simp <;> omega)) | (apply Ext.trans; rotate_left; exact ext_plus _ _) | (apply Ext.trans; rotate_left; assumption)))))).mono ?_; rintro e w2 ⟨rfl, hb2⟩; (try clear k0 l0); obtain ⟨k0, l0⟩ := HBX.out w2 (by (with_reducible (repeat (first | exact Ext.refl _ | assumption | apply Ext.alloc | apply Ext.drew | exact ext_plus _ _ | (apply Ext.setCell; rotate_left; (simp <;> omega)) | (apply Ext.trans; rotate_left; exact ext_plus _ _) | (apply Ext.trans; rotate_left; assumption)))))) | (go_at_call 16; refine (known_any _).mono ?_; rintro e wk ⟨rfl, hbk⟩))
    all_goals
      go_ret
      exact ⟨rfl, by (with_reducible (repeat (first | exact Ext.refl _ | assumption | apply Ext.alloc | apply Ext.drew | exact ext_plus _ _ | (apply Ext.setCell; rotate_left; (simp <;> omega)) | (apply Ext.trans; rotate_left; exact ext_plus _ _) | (apply Ext.trans; rotate_left; assumption))))⟩
  case pos =>
  have hwzi : ¬ (14 : Int) < (wt.size : Int) := by omega
  by_cases hsz : sky.size ≤ 14
  case neg =>
    have hszi : (14 : Int) < (sky.size : Int) := by omega
    clear hsz
    go_enter Try.func13, Try.ntmps13
    go_upto_region 1 with (fail)
    rw [HW1.out]
    obtain ⟨k0, l0⟩ := HBX.out w1 (Ext.refl _)
    go_wp2_with (first | (go_at_call 15; refine (HSH.out _ (by (with_reducible (repeat (first | exact Ext.refl _ | assumption | apply Ext.alloc | apply Ext.drew | exact ext_plus _ _ | (apply Ext.setCell; rotate_left; (simp <;> omega)) | (apply Ext.trans; rotate_left; exact ext_plus _ _) | (apply Ext.trans; rotate_left; assumption)))))).mono ?_; rintro e w2 ⟨rfl, hb2⟩; (try clear k0 l0); obtain ⟨k0, l0⟩ := HBX.out w2 (by (with_reducible (repeat (first | exact Ext.refl _ | assumption | apply Ext.alloc | apply Ext.drew | exact ext_plus _ _ | (apply Ext.setCell; rotate_left; (simp <;> omega)) | (apply Ext.trans; rotate_left; exact ext_plus _ _) | (apply Ext.trans; rotate_left; assumption)))))) | (go_at_call 16; refine (known_any _).mono ?_; rintro e wk ⟨rfl, hbk⟩))
    all_goals
      go_ret
      exact ⟨rfl, by (with_reducible (repeat (first | exact Ext.refl _ | assumption | apply Ext.alloc | apply Ext.drew | exact ext_plus _ _ | (apply Ext.setCell; rotate_left; (simp <;> omega)) | (apply Ext.trans; rotate_left; exact ext_plus _ _) | (apply Ext.trans; rotate_left; assumption))))⟩
  case pos =>
  have hszi : ¬ (14 : Int) < (sky.size : Int) := by omega
  have hask := fun w' (hx : Ext w w') => asked_any c p b _ w' (hP.ext hx) (by omega)
  have hsk := fun w' (_ : Ext w w') => dsky_any c sky (.slice a1 c.loads.length c1) ⟨_, _, _, rfl⟩ w' (by omega)
  have hwe := fun w' (_ : Ext w w') => dweather_any c wt (.slice a1 c.loads.length c1) ⟨_, _, _, rfl⟩ w' (by omega)
  cases hA : (C.sysB c && C.partsB p b) with
  | false =>
    simp only [hA] at hask
    have HA := Lib.hid hask
    clear hask hsk hwe hA
    go_enter Try.func13, Try.ntmps13
    go_upto_region 1 with (fail)
    rw [HW1.out]
    obtain ⟨k0, l0⟩ := HBX.out w1 (Ext.refl _)
    go_wp2_with (first | (go_at_call 15; refine (HSH.out _ (by (with_reducible (repeat (first | exact Ext.refl _ | assumption | apply Ext.alloc | apply Ext.drew | exact ext_plus _ _ | (apply Ext.setCell; rotate_left; (simp <;> omega)) | (apply Ext.trans; rotate_left; exact ext_plus _ _) | (apply Ext.trans; rotate_left; assumption)))))).mono ?_; rintro e w2 ⟨rfl, hb2⟩; (try clear k0 l0); obtain ⟨k0, l0⟩ := HBX.out w2 (by (with_reducible (repeat (first | exact Ext.refl _ | assumption | apply Ext.alloc | apply Ext.drew | exact ext_plus _ _ | (apply Ext.setCell; rotate_left; (simp <;> omega)) | (apply Ext.trans; rotate_left; exact ext_plus _ _) | (apply Ext.trans; rotate_left; assumption)))))) | (go_at_call 18; refine (HA.out _ (by (with_reducible (repeat (first | exact Ext.refl _ | assumption | apply Ext.alloc | apply Ext.drew | exact ext_plus _ _ | (apply Ext.setCell; rotate_left; (simp <;> omega)) | (apply Ext.trans; rotate_left; exact ext_plus _ _) | (apply Ext.trans; rotate_left; assumption)))))).mono ?_; rintro e w4 ⟨rfl, hb4⟩; (try clear k0 l0); obtain ⟨k0, l0⟩ := HBX.out w4 (by (with_reducible (repeat (first | exact Ext.refl _ | assumption | apply Ext.alloc | apply Ext.drew | exact ext_plus _ _ | (apply Ext.setCell; rotate_left; (simp <;> omega)) | (apply Ext.trans; rotate_left; exact ext_plus _ _) | (apply Ext.trans; rotate_left; assumption)))))) | (go_at_call 16; refine (known_any _).mono ?_; rintro e wk ⟨rfl, hbk⟩))
    all_goals
      go_ret
      exact ⟨rfl, by (with_reducible (repeat (first | exact Ext.refl _ | assumption | apply Ext.alloc | apply Ext.drew | exact ext_plus _ _ | (apply Ext.setCell; rotate_left; (simp <;> omega)) | (apply Ext.trans; rotate_left; exact ext_plus _ _) | (apply Ext.trans; rotate_left; assumption))))⟩
  | true =>
  have hg : givenB c p b 0 = true := by have h := hA; rw [Bool.and_eq_true] at h; unfold givenB; rw [h.1, h.2, off_zero13 (C.ok_of h.1)]; rfl
  simp only [hA] at hask
  have HA := Lib.hid hask
  rw [Bool.and_eq_true] at hA
  have O := C.ok_of hA.1
  obtain ⟨h0p, h1p, h2, h3⟩ := C.parts_of hA.2
  cases hW : C.weatherB c wt.data.toList with
  | false =>
    simp only [hW] at hwe
    have HWE := Lib.hid hwe
    clear hask hsk hwe hg O hW
    go_enter Try.func13, Try.ntmps13
    go_upto_region 1 with (fail)
    rw [HW1.out]
    obtain ⟨k0, l0⟩ := HBX.out w1 (Ext.refl _)
    go_wp2_with (first | (go_at_call 15; refine (HSH.out _ (by (with_reducible (repeat (first | exact Ext.refl _ | assumption | apply Ext.alloc | apply Ext.drew | exact ext_plus _ _ | (apply Ext.setCell; rotate_left; (simp <;> omega)) | (apply Ext.trans; rotate_left; exact ext_plus _ _) | (apply Ext.trans; rotate_left; assumption)))))).mono ?_; rintro e w2 ⟨rfl, hb2⟩; (try clear k0 l0); obtain ⟨k0, l0⟩ := HBX.out w2 (by (with_reducible (repeat (first | exact Ext.refl _ | assumption | apply Ext.alloc | apply Ext.drew | exact ext_plus _ _ | (apply Ext.setCell; rotate_left; (simp <;> omega)) | (apply Ext.trans; rotate_left; exact ext_plus _ _) | (apply Ext.trans; rotate_left; assumption)))))) | (go_at_call 18; refine (HA.out _ (by (with_reducible (repeat (first | exact Ext.refl _ | assumption | apply Ext.alloc | apply Ext.drew | exact ext_plus _ _ | (apply Ext.setCell; rotate_left; (simp <;> omega)) | (apply Ext.trans; rotate_left; exact ext_plus _ _) | (apply Ext.trans; rotate_left; assumption)))))).mono ?_; rintro e w4 ⟨rfl, hb4⟩; (try clear k0 l0); obtain ⟨k0, l0⟩ := HBX.out w4 (by (with_reducible (repeat (first | exact Ext.refl _ | assumption | apply Ext.alloc | apply Ext.drew | exact ext_plus _ _ | (apply Ext.setCell; rotate_left; (simp <;> omega)) | (apply Ext.trans; rotate_left; exact ext_plus _ _) | (apply Ext.trans; rotate_left; assumption)))))) | (go_at_call 20; refine (HWE.out _ (by (with_reducible (repeat (first | exact Ext.refl _ | assumption | apply Ext.alloc | apply Ext.drew | exact ext_plus _ _ | (apply Ext.setCell; rotate_left; (simp <;> omega)) | (apply Ext.trans; rotate_left; exact ext_plus _ _) | (apply Ext.trans; rotate_left; assumption)))))).mono ?_; rintro e w8 ⟨rfl, hb8⟩; (try clear k0 l0); obtain ⟨k0, l0⟩ := HBX.out w8 (by (with_reducible (repeat (first | exact Ext.refl _ | assumption | apply Ext.alloc | apply Ext.drew | exact ext_plus _ _ | (apply Ext.setCell; rotate_left; (simp <;> omega)) | (apply Ext.trans; rotate_left; exact ext_plus _ _) | (apply Ext.trans; rotate_left; assumption)))))) | (go_at_call 16; refine (known_any _).mono ?_; rintro e wk ⟨rfl, hbk⟩))
    all_goals
      go_ret
      exact ⟨rfl, by (with_reducible (repeat (first | exact Ext.refl _ | assumption | apply Ext.alloc | apply Ext.drew | exact ext_plus _ _ | (apply Ext.setCell; rotate_left; (simp <;> omega)) | (apply Ext.trans; rotate_left; exact ext_plus _ _) | (apply Ext.trans; rotate_left; assumption))))⟩
  | true =>
  simp only [hW] at hwe
  have HWE := Lib.hid hwe
  clear hask hwe
  by_cases cd0 : more < 0
  case pos =>
    clear hg O hsk hW
    go_enter Try.func13, Try.ntmps13
    go_upto_region 1 with (fail)
    rw [HW1.out]
    obtain ⟨k0, l0⟩ := HBX.out w1 (Ext.refl _)
    go_wp2_with (first | (go_at_call 15; refine (HSH.out _ (by (with_reducible (repeat (first | exact Ext.refl _ | assumption | apply Ext.alloc | apply Ext.drew | exact ext_plus _ _ | (apply Ext.setCell; rotate_left; (simp <;> omega)) | (apply Ext.trans; rotate_left; exact ext_plus _ _) | (apply Ext.trans; rotate_left; assumption)))))).mono ?_; rintro e w2 ⟨rfl, hb2⟩; (try clear k0 l0); obtain ⟨k0, l0⟩ := HBX.out w2 (by (with_reducible (repeat (first | exact Ext.refl _ | assumption | apply Ext.alloc | apply Ext.drew | exact ext_plus _ _ | (apply Ext.setCell; rotate_left; (simp <;> omega)) | (apply Ext.trans; rotate_left; exact ext_plus _ _) | (apply Ext.trans; rotate_left; assumption)))))) | (go_at_call 18; refine (HA.out _ (by (with_reducible (repeat (first | exact Ext.refl _ | assumption | apply Ext.alloc | apply Ext.drew | exact ext_plus _ _ | (apply Ext.setCell; rotate_left; (simp <;> omega)) | (apply Ext.trans; rotate_left; exact ext_plus _ _) | (apply Ext.trans; rotate_left; assumption)))))).mono ?_; rintro e w4 ⟨rfl, hb4⟩; (try clear k0 l0); obtain ⟨k0, l0⟩ := HBX.out w4 (by (with_reducible (repeat (first | exact Ext.refl _ | assumption | apply Ext.alloc | apply Ext.drew | exact ext_plus _ _ | (apply Ext.setCell; rotate_left; (simp <;> omega)) | (apply Ext.trans; rotate_left; exact ext_plus _ _) | (apply Ext.trans; rotate_left; assumption)))))) | (go_at_call 20; refine (HWE.out _ (by (with_reducible (repeat (first | exact Ext.refl _ | assumption | apply Ext.alloc | apply Ext.drew | exact ext_plus _ _ | (apply Ext.setCell; rotate_left; (simp <;> omega)) | (apply Ext.trans; rotate_left; exact ext_plus _ _) | (apply Ext.trans; rotate_left; assumption)))))).mono ?_; rintro e w8 ⟨rfl, hb8⟩; (try clear k0 l0); obtain ⟨k0, l0⟩ := HBX.out w8 (by (with_reducible (repeat (first | exact Ext.refl _ | assumption | apply Ext.alloc | apply Ext.drew | exact ext_plus _ _ | (apply Ext.setCell; rotate_left; (simp <;> omega)) | (apply Ext.trans; rotate_left; exact ext_plus _ _) | (apply Ext.trans; rotate_left; assumption)))))) | (go_at_call 16; refine (known_any _).mono ?_; rintro e wk ⟨rfl, hbk⟩))
    all_goals
      go_ret
      exact ⟨rfl, by (with_reducible (repeat (first | exact Ext.refl _ | assumption | apply Ext.alloc | apply Ext.drew | exact ext_plus _ _ | (apply Ext.setCell; rotate_left; (simp <;> omega)) | (apply Ext.trans; rotate_left; exact ext_plus _ _) | (apply Ext.trans; rotate_left; assumption))))⟩
  case neg =>
  by_cases cd1 : (12 : Int) < more
  case pos =>
    clear hg O hsk hW
    go_enter Try.func13, Try.ntmps13
    go_upto_region 1 with (fail)
    rw [HW1.out]
    obtain ⟨k0, l0⟩ := HBX.out w1 (Ext.refl _)
    go_wp2_with (first | (go_at_call 15; refine (HSH.out _ (by (with_reducible (repeat (first | exact Ext.refl _ | assumption | apply Ext.alloc | apply Ext.drew | exact ext_plus _ _ | (apply Ext.setCell; rotate_left; (simp <;> omega)) | (apply Ext.trans; rotate_left; exact ext_plus _ _) | (apply Ext.trans; rotate_left; assumption)))))).mono ?_; rintro e w2 ⟨rfl, hb2⟩; (try clear k0 l0); obtain ⟨k0, l0⟩ := HBX.out w2 (by (with_reducible (repeat (first | exact Ext.refl _ | assumption | apply Ext.alloc | apply Ext.drew | exact ext_plus _ _ | (apply Ext.setCell; rotate_left; (simp <;> omega)) | (apply Ext.trans; rotate_left; exact ext_plus _ _) | (apply Ext.trans; rotate_left; assumption)))))) | (go_at_call 18; refine (HA.out _ (by (with_reducible (repeat (first | exact Ext.refl _ | assumption | apply Ext.alloc | apply Ext.drew | exact ext_plus _ _ | (apply Ext.setCell; rotate_left; (simp <;> omega)) | (apply Ext.trans; rotate_left; exact ext_plus _ _) | (apply Ext.trans; rotate_left; assumption)))))).mono ?_; rintro e w4 ⟨rfl, hb4⟩; (try clear k0 l0); obtain ⟨k0, l0⟩ := HBX.out w4 (by (with_reducible (repeat (first | exact Ext.refl _ | assumption | apply Ext.alloc | apply Ext.drew | exact ext_plus _ _ | (apply Ext.setCell; rotate_left; (simp <;> omega)) | (apply Ext.trans; rotate_left; exact ext_plus _ _) | (apply Ext.trans; rotate_left; assumption)))))) | (go_at_call 20; refine (HWE.out _ (by (with_reducible (repeat (first | exact Ext.refl _ | assumption | apply Ext.alloc | apply Ext.drew | exact ext_plus _ _ | (apply Ext.setCell; rotate_left; (simp <;> omega)) | (apply Ext.trans; rotate_left; exact ext_plus _ _) | (apply Ext.trans; rotate_left; assumption)))))).mono ?_; rintro e w8 ⟨rfl, hb8⟩; (try clear k0 l0); obtain ⟨k0, l0⟩ := HBX.out w8 (by (with_reducible (repeat (first | exact Ext.refl _ | assumption | apply Ext.alloc | apply Ext.drew | exact ext_plus _ _ | (apply Ext.setCell; rotate_left; (simp <;> omega)) | (apply Ext.trans; rotate_left; exact ext_plus _ _) | (apply Ext.trans; rotate_left; assumption)))))) | (go_at_call 16; refine (known_any _).mono ?_; rintro e wk ⟨rfl, hbk⟩))
    all_goals
      go_ret
      exact ⟨rfl, by (with_reducible (repeat (first | exact Ext.refl _ | assumption | apply Ext.alloc | apply Ext.drew | exact ext_plus _ _ | (apply Ext.setCell; rotate_left; (simp <;> omega)) | (apply Ext.trans; rotate_left; exact ext_plus _ _) | (apply Ext.trans; rotate_left; assumption))))⟩
  case neg =>
  by_cases cd2 : extra < 0
  case pos =>
    clear hg O hsk hW
    go_enter Try.func13, Try.ntmps13
    go_upto_region 1 with (fail)
    rw [HW1.out]
    obtain ⟨k0, l0⟩ := HBX.out w1 (Ext.refl _)
    go_wp2_with (first | (go_at_call 15; refine (HSH.out _ (by (with_reducible (repeat (first | exact Ext.refl _ | assumption | apply Ext.alloc | apply Ext.drew | exact ext_plus _ _ | (apply Ext.setCell; rotate_left; (simp <;> omega)) | (apply Ext.trans; rotate_left; exact ext_plus _ _) | (apply Ext.trans; rotate_left; assumption)))))).mono ?_; rintro e w2 ⟨rfl, hb2⟩; (try clear k0 l0); obtain ⟨k0, l0⟩ := HBX.out w2 (by (with_reducible (repeat (first | exact Ext.refl _ | assumption | apply Ext.alloc | apply Ext.drew | exact ext_plus _ _ | (apply Ext.setCell; rotate_left; (simp <;> omega)) | (apply Ext.trans; rotate_left; exact ext_plus _ _) | (apply Ext.trans; rotate_left; assumption)))))) | (go_at_call 18; refine (HA.out _ (by (with_reducible (repeat (first | exact Ext.refl _ | assumption | apply Ext.alloc | apply Ext.drew | exact ext_plus _ _ | (apply Ext.setCell; rotate_left; (simp <;> omega)) | (apply Ext.trans; rotate_left; exact ext_plus _ _) | (apply Ext.trans; rotate_left; assumption)))))).mono ?_; rintro e w4 ⟨rfl, hb4⟩; (try clear k0 l0); obtain ⟨k0, l0⟩ := HBX.out w4 (by (with_reducible (repeat (first | exact Ext.refl _ | assumption | apply Ext.alloc | apply Ext.drew | exact ext_plus _ _ | (apply Ext.setCell; rotate_left; (simp <;> omega)) | (apply Ext.trans; rotate_left; exact ext_plus _ _) | (apply Ext.trans; rotate_left; assumption)))))) | (go_at_call 20; refine (HWE.out _ (by (with_reducible (repeat (first | exact Ext.refl _ | assumption | apply Ext.alloc | apply Ext.drew | exact ext_plus _ _ | (apply Ext.setCell; rotate_left; (simp <;> omega)) | (apply Ext.trans; rotate_left; exact ext_plus _ _) | (apply Ext.trans; rotate_left; assumption)))))).mono ?_; rintro e w8 ⟨rfl, hb8⟩; (try clear k0 l0); obtain ⟨k0, l0⟩ := HBX.out w8 (by (with_reducible (repeat (first | exact Ext.refl _ | assumption | apply Ext.alloc | apply Ext.drew | exact ext_plus _ _ | (apply Ext.setCell; rotate_left; (simp <;> omega)) | (apply Ext.trans; rotate_left; exact ext_plus _ _) | (apply Ext.trans; rotate_left; assumption)))))) | (go_at_call 16; refine (known_any _).mono ?_; rintro e wk ⟨rfl, hbk⟩))
    all_goals
      go_ret
      exact ⟨rfl, by (with_reducible (repeat (first | exact Ext.refl _ | assumption | apply Ext.alloc | apply Ext.drew | exact ext_plus _ _ | (apply Ext.setCell; rotate_left; (simp <;> omega)) | (apply Ext.trans; rotate_left; exact ext_plus _ _) | (apply Ext.trans; rotate_left; assumption))))⟩
  case neg =>
  by_cases cd3 : (8 : Int) < extra
  case pos =>
    clear hg O hsk hW
    go_enter Try.func13, Try.ntmps13
    go_upto_region 1 with (fail)
    rw [HW1.out]
    obtain ⟨k0, l0⟩ := HBX.out w1 (Ext.refl _)
    go_wp2_with (first | (go_at_call 15; refine (HSH.out _ (by (with_reducible (repeat (first | exact Ext.refl _ | assumption | apply Ext.alloc | apply Ext.drew | exact ext_plus _ _ | (apply Ext.setCell; rotate_left; (simp <;> omega)) | (apply Ext.trans; rotate_left; exact ext_plus _ _) | (apply Ext.trans; rotate_left; assumption)))))).mono ?_; rintro e w2 ⟨rfl, hb2⟩; (try clear k0 l0); obtain ⟨k0, l0⟩ := HBX.out w2 (by (with_reducible (repeat (first | exact Ext.refl _ | assumption | apply Ext.alloc | apply Ext.drew | exact ext_plus _ _ | (apply Ext.setCell; rotate_left; (simp <;> omega)) | (apply Ext.trans; rotate_left; exact ext_plus _ _) | (apply Ext.trans; rotate_left; assumption)))))) | (go_at_call 18; refine (HA.out _ (by (with_reducible (repeat (first | exact Ext.refl _ | assumption | apply Ext.alloc | apply Ext.drew | exact ext_plus _ _ | (apply Ext.setCell; rotate_left; (simp <;> omega)) | (apply Ext.trans; rotate_left; exact ext_plus _ _) | (apply Ext.trans; rotate_left; assumption)))))).mono ?_; rintro e w4 ⟨rfl, hb4⟩; (try clear k0 l0); obtain ⟨k0, l0⟩ := HBX.out w4 (by (with_reducible (repeat (first | exact Ext.refl _ | assumption | apply Ext.alloc | apply Ext.drew | exact ext_plus _ _ | (apply Ext.setCell; rotate_left; (simp <;> omega)) | (apply Ext.trans; rotate_left; exact ext_plus _ _) | (apply Ext.trans; rotate_left; assumption)))))) | (go_at_call 20; refine (HWE.out _ (by (with_reducible (repeat (first | exact Ext.refl _ | assumption | apply Ext.alloc | apply Ext.drew | exact ext_plus _ _ | (apply Ext.setCell; rotate_left; (simp <;> omega)) | (apply Ext.trans; rotate_left; exact ext_plus _ _) | (apply Ext.trans; rotate_left; assumption)))))).mono ?_; rintro e w8 ⟨rfl, hb8⟩; (try clear k0 l0); obtain ⟨k0, l0⟩ := HBX.out w8 (by (with_reducible (repeat (first | exact Ext.refl _ | assumption | apply Ext.alloc | apply Ext.drew | exact ext_plus _ _ | (apply Ext.setCell; rotate_left; (simp <;> omega)) | (apply Ext.trans; rotate_left; exact ext_plus _ _) | (apply Ext.trans; rotate_left; assumption)))))) | (go_at_call 16; refine (known_any _).mono ?_; rintro e wk ⟨rfl, hbk⟩))
    all_goals
      go_ret
      exact ⟨rfl, by (with_reducible (repeat (first | exact Ext.refl _ | assumption | apply Ext.alloc | apply Ext.drew | exact ext_plus _ _ | (apply Ext.setCell; rotate_left; (simp <;> omega)) | (apply Ext.trans; rotate_left; exact ext_plus _ _) | (apply Ext.trans; rotate_left; assumption))))⟩
  case neg =>
  by_cases cd4 : dayI < 0
  case pos =>
    clear hg O hsk hW
    go_enter Try.func13, Try.ntmps13
    go_upto_region 1 with (fail)
    rw [HW1.out]
    obtain ⟨k0, l0⟩ := HBX.out w1 (Ext.refl _)
    go_wp2_with (first | (go_at_call 15; refine (HSH.out _ (by (with_reducible (repeat (first | exact Ext.refl _ | assumption | apply Ext.alloc | apply Ext.drew | exact ext_plus _ _ | (apply Ext.setCell; rotate_left; (simp <;> omega)) | (apply Ext.trans; rotate_left; exact ext_plus _ _) | (apply Ext.trans; rotate_left; assumption)))))).mono ?_; rintro e w2 ⟨rfl, hb2⟩; (try clear k0 l0); obtain ⟨k0, l0⟩ := HBX.out w2 (by (with_reducible (repeat (first | exact Ext.refl _ | assumption | apply Ext.alloc | apply Ext.drew | exact ext_plus _ _ | (apply Ext.setCell; rotate_left; (simp <;> omega)) | (apply Ext.trans; rotate_left; exact ext_plus _ _) | (apply Ext.trans; rotate_left; assumption)))))) | (go_at_call 18; refine (HA.out _ (by (with_reducible (repeat (first | exact Ext.refl _ | assumption | apply Ext.alloc | apply Ext.drew | exact ext_plus _ _ | (apply Ext.setCell; rotate_left; (simp <;> omega)) | (apply Ext.trans; rotate_left; exact ext_plus _ _) | (apply Ext.trans; rotate_left; assumption)))))).mono ?_; rintro e w4 ⟨rfl, hb4⟩; (try clear k0 l0); obtain ⟨k0, l0⟩ := HBX.out w4 (by (with_reducible (repeat (first | exact Ext.refl _ | assumption | apply Ext.alloc | apply Ext.drew | exact ext_plus _ _ | (apply Ext.setCell; rotate_left; (simp <;> omega)) | (apply Ext.trans; rotate_left; exact ext_plus _ _) | (apply Ext.trans; rotate_left; assumption)))))) | (go_at_call 20; refine (HWE.out _ (by (with_reducible (repeat (first | exact Ext.refl _ | assumption | apply Ext.alloc | apply Ext.drew | exact ext_plus _ _ | (apply Ext.setCell; rotate_left; (simp <;> omega)) | (apply Ext.trans; rotate_left; exact ext_plus _ _) | (apply Ext.trans; rotate_left; assumption)))))).mono ?_; rintro e w8 ⟨rfl, hb8⟩; (try clear k0 l0); obtain ⟨k0, l0⟩ := HBX.out w8 (by (with_reducible (repeat (first | exact Ext.refl _ | assumption | apply Ext.alloc | apply Ext.drew | exact ext_plus _ _ | (apply Ext.setCell; rotate_left; (simp <;> omega)) | (apply Ext.trans; rotate_left; exact ext_plus _ _) | (apply Ext.trans; rotate_left; assumption)))))) | (go_at_call 16; refine (known_any _).mono ?_; rintro e wk ⟨rfl, hbk⟩))
    all_goals
      go_ret
      exact ⟨rfl, by (with_reducible (repeat (first | exact Ext.refl _ | assumption | apply Ext.alloc | apply Ext.drew | exact ext_plus _ _ | (apply Ext.setCell; rotate_left; (simp <;> omega)) | (apply Ext.trans; rotate_left; exact ext_plus _ _) | (apply Ext.trans; rotate_left; assumption))))⟩
  case neg =>
  by_cases cd5 : c.days ≤ dayI
  case pos =>
    clear hg O hsk hW
    go_enter Try.func13, Try.ntmps13
    go_upto_region 1 with (fail)
    rw [HW1.out]
    obtain ⟨k0, l0⟩ := HBX.out w1 (Ext.refl _)
    go_wp2_with (first | (go_at_call 15; refine (HSH.out _ (by (with_reducible (repeat (first | exact Ext.refl _ | assumption | apply Ext.alloc | apply Ext.drew | exact ext_plus _ _ | (apply Ext.setCell; rotate_left; (simp <;> omega)) | (apply Ext.trans; rotate_left; exact ext_plus _ _) | (apply Ext.trans; rotate_left; assumption)))))).mono ?_; rintro e w2 ⟨rfl, hb2⟩; (try clear k0 l0); obtain ⟨k0, l0⟩ := HBX.out w2 (by (with_reducible (repeat (first | exact Ext.refl _ | assumption | apply Ext.alloc | apply Ext.drew | exact ext_plus _ _ | (apply Ext.setCell; rotate_left; (simp <;> omega)) | (apply Ext.trans; rotate_left; exact ext_plus _ _) | (apply Ext.trans; rotate_left; assumption)))))) | (go_at_call 18; refine (HA.out _ (by (with_reducible (repeat (first | exact Ext.refl _ | assumption | apply Ext.alloc | apply Ext.drew | exact ext_plus _ _ | (apply Ext.setCell; rotate_left; (simp <;> omega)) | (apply Ext.trans; rotate_left; exact ext_plus _ _) | (apply Ext.trans; rotate_left; assumption)))))).mono ?_; rintro e w4 ⟨rfl, hb4⟩; (try clear k0 l0); obtain ⟨k0, l0⟩ := HBX.out w4 (by (with_reducible (repeat (first | exact Ext.refl _ | assumption | apply Ext.alloc | apply Ext.drew | exact ext_plus _ _ | (apply Ext.setCell; rotate_left; (simp <;> omega)) | (apply Ext.trans; rotate_left; exact ext_plus _ _) | (apply Ext.trans; rotate_left; assumption)))))) | (go_at_call 20; refine (HWE.out _ (by (with_reducible (repeat (first | exact Ext.refl _ | assumption | apply Ext.alloc | apply Ext.drew | exact ext_plus _ _ | (apply Ext.setCell; rotate_left; (simp <;> omega)) | (apply Ext.trans; rotate_left; exact ext_plus _ _) | (apply Ext.trans; rotate_left; assumption)))))).mono ?_; rintro e w8 ⟨rfl, hb8⟩; (try clear k0 l0); obtain ⟨k0, l0⟩ := HBX.out w8 (by (with_reducible (repeat (first | exact Ext.refl _ | assumption | apply Ext.alloc | apply Ext.drew | exact ext_plus _ _ | (apply Ext.setCell; rotate_left; (simp <;> omega)) | (apply Ext.trans; rotate_left; exact ext_plus _ _) | (apply Ext.trans; rotate_left; assumption)))))) | (go_at_call 16; refine (known_any _).mono ?_; rintro e wk ⟨rfl, hbk⟩))
    all_goals
      go_ret
      exact ⟨rfl, by (with_reducible (repeat (first | exact Ext.refl _ | assumption | apply Ext.alloc | apply Ext.drew | exact ext_plus _ _ | (apply Ext.setCell; rotate_left; (simp <;> omega)) | (apply Ext.trans; rotate_left; exact ext_plus _ _) | (apply Ext.trans; rotate_left; assumption))))⟩
  case neg =>
  cases hSk : C.skyB c sky.data.toList with
  | false =>
    simp only [hSk] at hsk
    have HSK := Lib.hid hsk
    clear hsk hg O hSk hW
    go_enter Try.func13, Try.ntmps13
    go_upto_region 1 with (fail)
    rw [HW1.out]
    obtain ⟨k0, l0⟩ := HBX.out w1 (Ext.refl _)
    go_wp2_with (first | (go_at_call 15; refine (HSH.out _ (by (with_reducible (repeat (first | exact Ext.refl _ | assumption | apply Ext.alloc | apply Ext.drew | exact ext_plus _ _ | (apply Ext.setCell; rotate_left; (simp <;> omega)) | (apply Ext.trans; rotate_left; exact ext_plus _ _) | (apply Ext.trans; rotate_left; assumption)))))).mono ?_; rintro e w2 ⟨rfl, hb2⟩; (try clear k0 l0); obtain ⟨k0, l0⟩ := HBX.out w2 (by (with_reducible (repeat (first | exact Ext.refl _ | assumption | apply Ext.alloc | apply Ext.drew | exact ext_plus _ _ | (apply Ext.setCell; rotate_left; (simp <;> omega)) | (apply Ext.trans; rotate_left; exact ext_plus _ _) | (apply Ext.trans; rotate_left; assumption)))))) | (go_at_call 18; refine (HA.out _ (by (with_reducible (repeat (first | exact Ext.refl _ | assumption | apply Ext.alloc | apply Ext.drew | exact ext_plus _ _ | (apply Ext.setCell; rotate_left; (simp <;> omega)) | (apply Ext.trans; rotate_left; exact ext_plus _ _) | (apply Ext.trans; rotate_left; assumption)))))).mono ?_; rintro e w4 ⟨rfl, hb4⟩; (try clear k0 l0); obtain ⟨k0, l0⟩ := HBX.out w4 (by (with_reducible (repeat (first | exact Ext.refl _ | assumption | apply Ext.alloc | apply Ext.drew | exact ext_plus _ _ | (apply Ext.setCell; rotate_left; (simp <;> omega)) | (apply Ext.trans; rotate_left; exact ext_plus _ _) | (apply Ext.trans; rotate_left; assumption)))))) | (go_at_call 20; refine (HWE.out _ (by (with_reducible (repeat (first | exact Ext.refl _ | assumption | apply Ext.alloc | apply Ext.drew | exact ext_plus _ _ | (apply Ext.setCell; rotate_left; (simp <;> omega)) | (apply Ext.trans; rotate_left; exact ext_plus _ _) | (apply Ext.trans; rotate_left; assumption)))))).mono ?_; rintro e w8 ⟨rfl, hb8⟩; (try clear k0 l0); obtain ⟨k0, l0⟩ := HBX.out w8 (by (with_reducible (repeat (first | exact Ext.refl _ | assumption | apply Ext.alloc | apply Ext.drew | exact ext_plus _ _ | (apply Ext.setCell; rotate_left; (simp <;> omega)) | (apply Ext.trans; rotate_left; exact ext_plus _ _) | (apply Ext.trans; rotate_left; assumption)))))) | (go_at_call 25; refine (HSK.out _ (by (with_reducible (repeat (first | exact Ext.refl _ | assumption | apply Ext.alloc | apply Ext.drew | exact ext_plus _ _ | (apply Ext.setCell; rotate_left; (simp <;> omega)) | (apply Ext.trans; rotate_left; exact ext_plus _ _) | (apply Ext.trans; rotate_left; assumption)))))).mono ?_; rintro e w5 ⟨rfl, hb5⟩; (try clear k0 l0); obtain ⟨k0, l0⟩ := HBX.out w5 (by (with_reducible (repeat (first | exact Ext.refl _ | assumption | apply Ext.alloc | apply Ext.drew | exact ext_plus _ _ | (apply Ext.setCell; rotate_left; (simp <;> omega)) | (apply Ext.trans; rotate_left; exact ext_plus _ _) | (apply Ext.trans; rotate_left; assumption)))))) | (go_at_call 16; refine (known_any _).mono ?_; rintro e wk ⟨rfl, hbk⟩))
    all_goals
      go_ret
      exact ⟨rfl, by (with_reducible (repeat (first | exact Ext.refl _ | assumption | apply Ext.alloc | apply Ext.drew | exact ext_plus _ _ | (apply Ext.setCell; rotate_left; (simp <;> omega)) | (apply Ext.trans; rotate_left; exact ext_plus _ _) | (apply Ext.trans; rotate_left; assumption))))⟩
  | true =>
  simp only [hSk] at hsk
  have HSK := Lib.hid hsk
  clear hsk
  obtain ⟨day, rfl⟩ := Int.eq_ofNat_of_zero_le (show 0 ≤ dayI by omega)
  have hWD : ((wt.data.toList.length : Nat) : Int) = c.days := by have h := hW; unfold C.weatherB at h; rw [Bool.and_eq_true, decide_eq_true_eq] at h; exact h.2
  have hSD : ((sky.data.toList.length : Nat) : Int) = c.days := by have h := hSk; unfold C.skyB at h; rw [Bool.and_eq_true, decide_eq_true_eq] at h; exact h.2
  obtain ⟨N, hN⟩ : ∃ N, wt.data.toList.length = N := ⟨_, rfl⟩
  have hwz2 : wt.size = N := by rw [← hN]; simp
  have hsz2 : sky.size = N := by
    have h : sky.data.toList.length = sky.size := by simp
    omega
  have hdz : c.days = (N : Int) := by omega
  have hN14 : N ≤ 14 := by omega
  have hdN : day < N := by omega
  have hdd : day ≤ 14 := by omega
  have hdt : day < wt.data.toList.length := by omega
  have hds : day < sky.data.toList.length := by omega
  obtain ⟨hone, l0, hl0⟩ := one_sys hA.1
  have O1 := C.ok_of hone
  have hlo := fun c3 w' (hx : Ext w w') => loads_take (n := 1) (c2 := c3) (hP.ext hx) O.n1
  obtain ⟨sA, hsA⟩ : ∃ sA, wt.extract 0 day = sA := ⟨_, rfl⟩
  obtain ⟨sC, hsC⟩ : ∃ sC, wt.extract (day + 1) wt.size = sC := ⟨_, rfl⟩
  obtain ⟨sB, hsBB⟩ : ∃ sB, sA ++ ⟨#[115]⟩ = sB := ⟨_, rfl⟩
  obtain ⟨w2, hww2⟩ : ∃ w2, sB ++ sC = w2 := ⟨_, rfl⟩
  have hw2l : w2.data.toList = sunT wt.data.toList day := by
    rw [← hww2, ← hsBB, ← hsA, ← hsC, app_list, app_list, ext_list, ext_list]
    unfold sunT
    have e1 : (wt.data.toList.drop (day + 1)).take (wt.size - (day + 1)) = wt.data.toList.drop (day + 1) := List.take_of_length_le (by rw [List.length_drop]; omega)
    rw [e1]; simp
  have hzA : sA.size = day := by rw [← hsA, ByteArray.size_extract]; omega
  have hzC : sC.size = N - (day + 1) := by rw [← hsC, ByteArray.size_extract]; omega
  have hzB : sB.size = day + 1 := by rw [← hsBB, ByteArray.size_append, hzA]; rfl
  have hs1 : ∀ w, (Instr.slice 9 (.string wt) none (some (.int .i64 (day : Int))) none).run Try.prog w = .ok (.string sA) w := fun w => by rw [run_slice_string_h (ht := Try.underlying9) (h0 := by omega) (h2 := by omega), Int.toNat_natCast, hsA]
  have hs2 : ∀ w, (Instr.slice 9 (.string wt) (some (.int .i64 ((day : Int) + 1))) none none).run Try.prog w = .ok (.string sC) w := fun w => by rw [run_slice_string_l (ht := Try.underlying9) (h0 := by omega) (h1 := by omega), show ((day : Int) + 1).toNat = day + 1 by omega, hsC]
  have hwe2 : C.weatherB c w2.data.toList = true := by rw [hw2l]; exact sunT_weather hdt hW
  have hzw2 : w2.size = N := by
    have h : w2.data.toList.length = w2.size := by simp
    have h2 := sunT_len hdt
    rw [hw2l] at h; omega
  obtain ⟨p2, hmn1⟩ : ∃ p2, min 12 (p + more) = p2 := ⟨_, rfl⟩
  obtain ⟨b2, hmn2⟩ : ∃ b2, min 8 (b + extra) = b2 := ⟨_, rfl⟩
  have hpp : p ≤ p2 ∧ 0 ≤ p2 ∧ p2 ≤ 12 := by omega
  have hbb2 : b ≤ b2 ∧ 0 ≤ b2 ∧ b2 ≤ 8 := by omega
  have hpo1 : playB (oneSys c) p b 0 wt.data.toList = true := by
    have e1 : C.partsB p b = true := hA.2
    have e2 : C.weatherB (oneSys c) wt.data.toList = true := hW
    unfold playB; rw [hone, e1, one_off hl0, e2]; rfl
  have hpo2 : playB (oneSys c) p2 b2 0 w2.data.toList = true := by
    have e1 : C.partsB p2 b2 = true := by unfold C.partsB C.within; simp; omega
    have e2 : C.weatherB (oneSys c) w2.data.toList = true := hwe2
    unfold playB; rw [hone, e1, one_off hl0, e2]; rfl
  have hfin := still_all hl0 O1 (p := p) (p' := p2) (b := b) (b' := b2) (t := wt.data.toList) (t' := sunT wt.data.toList day) h0p hpp.1 hbb2.1 (sunT_len hdt) (fun d _ => sunT_get hdt d)
  have hll : (C.run (oneSys c) p b 0 wt.data.toList).length = N := by rw [run_len, hN]
  have hlk : (C.run (oneSys c) p2 b2 0 (sunT wt.data.toList day)).length = N := by rw [run_len, sunT_len hdt, hN]
  have hpl1 := fun w' (hx : Ext w w') => play_own (oneSys c) p b 0 wt (.slice a1 1 c1) w' (hlo c1 w' hx) (by rw [hl0]; simp) (by omega) hpo1
  have hpl2 := fun w' (hx : Ext w w') => play_own (oneSys c) p2 b2 0 w2 (.slice a1 1 c1) w' (hlo c1 w' hx) (by rw [hl0]; simp) (by omega) hpo2
  simp only [hw2l] at hpl2
  rw [hN] at hfin
  generalize C.run (oneSys c) p b 0 wt.data.toList = days1 at hfin hll hpl1
  generalize C.run (oneSys c) p2 b2 0 (sunT wt.data.toList day) = days2 at hfin hlk hpl2
  have hpl1' : ∀ w', Ext w w' → Calls Try.prog 17 #[.agg (sysV (oneSys c) (.slice a1 1 c1)), .int .i64 p, .int .i64 b, .int .i64 0, .string wt] w' fun e w2 => ∃ v l1 l2 l3 l4 l5 l6, e = .returned (.tuple #[v, .agg #[.int .i64 l1, .int .i64 l2, .int .i64 l3, .int .i64 l4, .int .i64 l5, .int .i64 l6], .int .i64 0]) ∧ Days w2 v days1 ∧ Ext w' w2 ∧ ∀ j, v.ownBlock = some j → w'.heap.size ≤ j := fun w' hx => (hpl1 w' hx).mono fun e w2 ⟨v, h1, h2, h3, h4⟩ => ⟨v, _, _, _, _, _, _, h1, h2, h3, h4⟩
  have hpl2' : ∀ w', Ext w w' → Calls Try.prog 17 #[.agg (sysV (oneSys c) (.slice a1 1 c1)), .int .i64 p2, .int .i64 b2, .int .i64 0, .string w2] w' fun e w2 => ∃ v l1 l2 l3 l4 l5 l6, e = .returned (.tuple #[v, .agg #[.int .i64 l1, .int .i64 l2, .int .i64 l3, .int .i64 l4, .int .i64 l5, .int .i64 l6], .int .i64 0]) ∧ Days w2 v days2 ∧ Ext w' w2 ∧ ∀ j, v.ownBlock = some j → w'.heap.size ≤ j := fun w' hx => (hpl2 w' hx).mono fun e w2 ⟨v, h1, h2, h3, h4⟩ => ⟨v, _, _, _, _, _, _, h1, h2, h3, h4⟩
  have HPL1 := Lib.hid hpl1'
  have HPL2 := Lib.hid hpl2'
  obtain ⟨tA, htA⟩ : ∃ tA, sky.extract 0 day = tA := ⟨_, rfl⟩
  obtain ⟨tX, htX⟩ : ∃ tX, wt.extract day (day + 1) = tX := ⟨_, rfl⟩
  obtain ⟨tC, htC⟩ : ∃ tC, sky.extract (day + 1) sky.size = tC := ⟨_, rfl⟩
  have hbl : ((tA ++ tX) ++ tC).data.toList = bettT sky.data.toList wt.data.toList day := by
    rw [← htA, ← htX, ← htC, app_list, app_list, ext_list, ext_list, ext_list]
    unfold bettT
    have e1 : (sky.data.toList.drop (day + 1)).take (sky.size - (day + 1)) = sky.data.toList.drop (day + 1) := List.take_of_length_le (by rw [List.length_drop]; omega)
    have e2 : day + 1 - day = 1 := by omega
    rw [e1, e2]; simp
  have hyA : tA.size = day := by rw [← htA, ByteArray.size_extract]; omega
  have hyX : tX.size = 1 := by rw [← htX, ByteArray.size_extract]; omega
  have hyC : tC.size = N - (day + 1) := by rw [← htC, ByteArray.size_extract]; omega
  obtain ⟨skyF, hskF⟩ : ∃ skyF, (if sky.data.toList[day] = 63 then (tA ++ tX) ++ tC else sky) = skyF := ⟨_, rfl⟩
  have hFsub : ∀ w ∈ C.agreeing c skyF.data.toList, w ∈ C.agreeing c sky.data.toList := by
    rw [← hskF]; split
    · rename_i h63; rw [hbl]; exact bettT_sub hdt hds h63
    · exact fun w h => h
  have hFsky : C.skyB c skyF.data.toList = true := by
    rw [← hskF]; split
    · rw [hbl]; exact bettT_sky hdt hds hSk hW
    · exact hSk
  have hFsz : skyF.size ≤ 14 := by
    have h1 := hFsky
    unfold C.skyB at h1
    rw [Bool.and_eq_true, decide_eq_true_eq] at h1
    have h2 : skyF.data.toList.length = skyF.size := by simp
    omega
  have h16 : ∃ (sA sX sB sC sky2 : ByteArray) (xv : Int), (∀ w, (Instr.slice 9 (.string sky) none (some (.int .i64 (day : Int))) none).run Try.prog w = .ok (.string sA) w) ∧ (∀ w, (Instr.slice 9 (.string wt) (some (.int .i64 (day : Int))) (some (.int .i64 ((day : Int) + 1))) none).run Try.prog w = .ok (.string sX) w) ∧ (∀ w, (Instr.slice 9 (.string sky) (some (.int .i64 ((day : Int) + 1))) none none).run Try.prog w = .ok (.string sC) w) ∧ (¬ 9223372036854775807 < sA.size + sX.size) ∧ sA ++ sX = sB ∧ (¬ 9223372036854775807 < sB.size + sC.size) ∧ sB ++ sC = sky2 ∧ (∀ w, (Instr.index 9 (.string sky) (.int .i64 (day : Int))).run Try.prog w = .ok (.int .u8 xv) w) ∧ (xv = 63 → skyF = sky2) ∧ (xv ≠ 63 → skyF = sky) := by
    refine ⟨tA, tX, tA ++ tX, tC, (tA ++ tX) ++ tC, (sky.data.toList[day].toNat : Int), fun w => ?_, fun w => ?_, fun w => ?_, by omega, rfl, by rw [ByteArray.size_append]; omega, rfl, fun w => str_at sky day _ (List.getElem?_eq_getElem hds) w, fun hx => ?_, fun hx => ?_⟩
    · rw [run_slice_string_h (ht := Try.underlying9) (h0 := by omega) (h2 := by omega), Int.toNat_natCast, htA]
    · rw [run_slice_string (h := Try.underlying9) (h0 := by omega) (h1 := by omega) (h2 := by omega), Int.toNat_natCast, show ((day : Int) + 1).toNat = day + 1 by omega, htX]
    · rw [run_slice_string_l (ht := Try.underlying9) (h0 := by omega) (h1 := by omega), show ((day : Int) + 1).toNat = day + 1 by omega, htC]
    · have h63 : sky.data.toList[day] = 63 := UInt8.toNat_inj.1 (by have h : ((63 : UInt8).toNat) = 63 := rfl; omega)
      rw [← hskF, if_pos h63]
    · have h63 : ¬ sky.data.toList[day] = 63 := fun h => hx (by rw [h]; rfl)
      rw [← hskF, if_neg h63]
  have H16 := Lib.hid h16
  have hk1 : knownB c p b sky.data.toList = true := by unfold knownB; rw [hg, hSk]; rfl
  have hk2 : knownB c p b skyF.data.toList = true := by unfold knownB; rw [hg, hFsky]; rfl
  have kn1 := fun w' (hx : Ext w w') => known_good c p b sky _ w' (hP.ext hx) (by omega) (by omega) hk1
  have kn2 := fun w' (hx : Ext w w') => known_good c p b skyF _ w' (hP.ext hx) (by omega) (by omega) hk2
  have hRs := runs_sub (p := p) (b := b) hFsub
  generalize C.runs c p b sky.data.toList = R at kn1 hRs
  generalize C.runs c p b skyF.data.toList = R2 at kn2 hRs
  have hc : (((if R = [] then 5 else 0 : Int) = 5 ∧ (if R2 = [] then 5 else 0 : Int) = 5) ∨ ((if R = [] then 5 else 0 : Int) = 0 ∧ (if R = [] then [] else C.seen c R).length = N ∧ ((if R2 = [] then 5 else 0 : Int) = 5 ∨ ((if R2 = [] then 5 else 0 : Int) = 0 ∧ Mor c.loads.length N (if R = [] then [] else C.seen c R) (if R2 = [] then [] else C.seen c R2))))) := by
    have hNn : c.days.toNat = N := by omega
    by_cases hR : R = []
    · have hR2 : R2 = [] := by
        cases R2 with
        | nil => rfl
        | cons x xs => have := hRs x (by simp); rw [hR] at this; cases this
      rw [if_pos hR, if_pos hR2]; exact .inl ⟨rfl, rfl⟩
    · rw [if_neg hR, if_neg hR]
      refine .inr ⟨rfl, by rw [seen_len13, hNn], ?_⟩
      by_cases hR2 : R2 = []
      · rw [if_pos hR2]; exact .inl rfl
      · rw [if_neg hR2, if_neg hR2, ← hNn]; exact .inr ⟨rfl, mor_of hR2 hRs⟩
  generalize hA' : (if R = [] then [] else C.seen c R) = A at hc kn1
  generalize hB' : (if R2 = [] then [] else C.seen c R2) = B at hc kn2
  generalize hr1 : (if R = [] then 5 else 0 : Int) = r1 at hc kn1
  generalize hr2 : (if R2 = [] then 5 else 0 : Int) = r2 at hc kn2
  have HK1 := Lib.hid kn1
  have HK2 := Lib.hid kn2
  have HC := Lib.hid hc
  have HDZ := Lib.hid hdz
  have hn5 := O.n5
  have hl1 : ((days1.length : Int) != c.days) = false := by rw [hll, hdz]; simp
  have hl2 : ((days2.length : Int) != c.days) = false := by rw [hlk, hdz]; simp
  have h1c1 : 1 ≤ c1 := by have h := hTi _ _ _ rfl; have := O.n1; omega
  have hn1 := O.n1
  obtain ⟨ba, oa, ea, hba, hbx0⟩ := HPX.out 0 (Nat.lt_of_lt_of_le Nat.zero_lt_one hn1)
  clear hbx0
  cases ea
  have HS1 := Lib.hid hs1
  have HS2 := Lib.hid hs2
  have HZ := Lib.hid (show (¬ 9223372036854775807 < sA.size + 1) ∧ (¬ 9223372036854775807 < sB.size + sC.size) from ⟨by omega, by omega⟩)
  have HFIN := Lib.hid hfin
  have HLL := Lib.hid hll
  have HLK := Lib.hid hlk
  have hcd5 : ¬ c.days ≤ (day : Int) := cd5
  clear hpl1 hpl2 hpl1' hpl2' hfin hll hlk h16 hk1 hk2 kn1 kn2 hRs hc hdz hs1 hs2 hA' hB' hr1 hr2 hWD hSD hN hone hl0 O1 hlo hsA hsC hw2l hzA hzC hzB hwe2 hzw2 hpo1 hpo2 htA htX htC hbl hyA hyX hyC hskF hFsub hFsky hFsz hg O hA hP hTi hdt hds hwz2 hsz2
  go_enter Try.func13, Try.ntmps13
  go_upto_region 1 with (fail)
  rw [HW1.out]
  obtain ⟨k0, l0⟩ := HBX.out w1 (Ext.refl _)
  go_upto_region 4 with (first | (go_at_call 15; refine (HSH.out _ (by (with_reducible (repeat (first | exact Ext.refl _ | assumption | apply Ext.alloc | apply Ext.drew | exact ext_plus _ _ | (apply Ext.setCell; rotate_left; (simp <;> omega)) | (apply Ext.trans; rotate_left; exact ext_plus _ _) | (apply Ext.trans; rotate_left; assumption)))))).mono ?_; rintro e w2 ⟨rfl, hb2⟩; (try clear k0 l0); obtain ⟨k0, l0⟩ := HBX.out w2 (by (with_reducible (repeat (first | exact Ext.refl _ | assumption | apply Ext.alloc | apply Ext.drew | exact ext_plus _ _ | (apply Ext.setCell; rotate_left; (simp <;> omega)) | (apply Ext.trans; rotate_left; exact ext_plus _ _) | (apply Ext.trans; rotate_left; assumption)))))) | (go_at_call 18; refine (HA.out _ (by (with_reducible (repeat (first | exact Ext.refl _ | assumption | apply Ext.alloc | apply Ext.drew | exact ext_plus _ _ | (apply Ext.setCell; rotate_left; (simp <;> omega)) | (apply Ext.trans; rotate_left; exact ext_plus _ _) | (apply Ext.trans; rotate_left; assumption)))))).mono ?_; rintro e w4 ⟨rfl, hb4⟩; (try clear k0 l0); obtain ⟨k0, l0⟩ := HBX.out w4 (by (with_reducible (repeat (first | exact Ext.refl _ | assumption | apply Ext.alloc | apply Ext.drew | exact ext_plus _ _ | (apply Ext.setCell; rotate_left; (simp <;> omega)) | (apply Ext.trans; rotate_left; exact ext_plus _ _) | (apply Ext.trans; rotate_left; assumption)))))) | (go_at_call 20; refine (HWE.out _ (by (with_reducible (repeat (first | exact Ext.refl _ | assumption | apply Ext.alloc | apply Ext.drew | exact ext_plus _ _ | (apply Ext.setCell; rotate_left; (simp <;> omega)) | (apply Ext.trans; rotate_left; exact ext_plus _ _) | (apply Ext.trans; rotate_left; assumption)))))).mono ?_; rintro e w8 ⟨rfl, hb8⟩; (try clear k0 l0); obtain ⟨k0, l0⟩ := HBX.out w8 (by (with_reducible (repeat (first | exact Ext.refl _ | assumption | apply Ext.alloc | apply Ext.drew | exact ext_plus _ _ | (apply Ext.setCell; rotate_left; (simp <;> omega)) | (apply Ext.trans; rotate_left; exact ext_plus _ _) | (apply Ext.trans; rotate_left; assumption)))))) | (go_at_call 25; refine (HSK.out _ (by (with_reducible (repeat (first | exact Ext.refl _ | assumption | apply Ext.alloc | apply Ext.drew | exact ext_plus _ _ | (apply Ext.setCell; rotate_left; (simp <;> omega)) | (apply Ext.trans; rotate_left; exact ext_plus _ _) | (apply Ext.trans; rotate_left; assumption)))))).mono ?_; rintro e w5 ⟨rfl, hb5⟩; (try clear k0 l0); obtain ⟨k0, l0⟩ := HBX.out w5 (by (with_reducible (repeat (first | exact Ext.refl _ | assumption | apply Ext.alloc | apply Ext.drew | exact ext_plus _ _ | (apply Ext.setCell; rotate_left; (simp <;> omega)) | (apply Ext.trans; rotate_left; exact ext_plus _ _) | (apply Ext.trans; rotate_left; assumption)))))))
  have hE15 : Ext w1 w5 := by (with_reducible (repeat (first | exact Ext.refl _ | assumption | apply Ext.alloc | apply Ext.drew | exact ext_plus _ _ | (apply Ext.setCell; rotate_left; (simp <;> omega)) | (apply Ext.trans; rotate_left; exact ext_plus _ _) | (apply Ext.trans; rotate_left; assumption))))
  have hE05 : Ext w w5 := hE1.trans hE15
  have hbo := Blk.new w5 (sysV c (.slice (some ⟨ba, oa, none⟩) c.loads.length c1)) 24
  have hEo : Ext w5 (w5.alloc (.cells (sysV c (.slice (some ⟨ba, oa, none⟩) c.loads.length c1)) 24)) := (Ext.refl _).alloc _
  obtain ⟨wo, hwo⟩ : ∃ wo, w5.alloc (.cells (sysV c (.slice (some ⟨ba, oa, none⟩) c.loads.length c1)) 24) = wo := ⟨_, rfl⟩
  rw [hwo] at hbo hEo ⊢
  obtain ⟨bo, hbob⟩ : ∃ bo, w5.heap.size = bo := ⟨_, rfl⟩
  rw [hbob] at hbo ⊢
  clear hwo k0 l0
  have hE1o := hE15.trans hEo
  obtain ⟨k0, l0⟩ := HBX.out wo hE1o
  have d0 := hbo.cell
  have d1 := hbo.lt
  have d2 := hbo.free
  go_upto_region 5 with (fail)
  clear d0 d1 d2 k0 l0
  have hbs := hbo.set 5 (.slice (some ⟨ba, oa, none⟩) 1 c1)
  have hEs : Ext w5 (wo.setCell ⟨bo, 5, none⟩ (.slice (some ⟨ba, oa, none⟩) 1 c1)) := hEo.setCell (p := ⟨bo, 5, none⟩) (by simp; omega) _
  obtain ⟨ws, hws⟩ : ∃ ws, wo.setCell ⟨bo, 5, none⟩ (.slice (some ⟨ba, oa, none⟩) 1 c1) = ws := ⟨_, rfl⟩
  rw [hws] at hbs hEs ⊢
  clear hws
  have hbn : Blk ws bo (sysV (oneSys c) (.slice (some ⟨ba, oa, none⟩) 1 c1)) 24 := by simpa [oneSys] using hbs
  have hE1s := hE15.trans hEs
  have hE0s := hE05.trans hEs
  clear hbs
  obtain ⟨k0, l0⟩ := HBX.out ws hE1s
  have d0 := hbn.cell
  have d1 := hbn.lt
  go_upto_region 6 with (first | (go_at_call 17; refine (HPL1.out _ (by (with_reducible (repeat (first | exact Ext.refl _ | assumption | apply Ext.alloc | apply Ext.drew | exact ext_plus _ _ | (apply Ext.setCell; rotate_left; (simp <;> omega)) | (apply Ext.trans; rotate_left; exact ext_plus _ _) | (apply Ext.trans; rotate_left; assumption)))))).mono ?_; rintro e wc ⟨v1, l1, l2, l3, l4, l5, l6, rfl, hv1, hbC, _⟩; obtain ⟨aL, cL, rfl, _⟩ := id hv1; have HV1 := Lib.hid hv1; clear hv1; (try clear k0 l0); obtain ⟨k0, l0⟩ := HBX.out wc (by (with_reducible (repeat (first | exact Ext.refl _ | assumption | apply Ext.alloc | apply Ext.drew | exact ext_plus _ _ | (apply Ext.setCell; rotate_left; (simp <;> omega)) | (apply Ext.trans; rotate_left; exact ext_plus _ _) | (apply Ext.trans; rotate_left; assumption)))))))
  have hEl : Ext wc (wc.alloc (.cells #[.int .i64 l1, .int .i64 l2, .int .i64 l3, .int .i64 l4, .int .i64 l5, .int .i64 l6] 29)) := (Ext.refl _).alloc _
  obtain ⟨wd, hwd⟩ : ∃ wd, wc.alloc (.cells #[.int .i64 l1, .int .i64 l2, .int .i64 l3, .int .i64 l4, .int .i64 l5, .int .i64 l6] 29) = wd := ⟨_, rfl⟩
  rw [hwd] at hEl ⊢
  clear hwd k0 l0 d0 d1
  have hEsd := hbC.trans hEl
  have hE1d := hE1s.trans hEsd
  have hE0d := hE0s.trans hEsd
  have hbd := hbn.ext hEsd
  refine mor_reg6 _ _ (fun _ _ d _ _ h => by cases d <;> exact h) ⟨hbd.cell, hbd.lt⟩ ⟨h0p, h1p⟩ ⟨by omega, by omega⟩ ⟨h2, h3⟩ ⟨by omega, by omega⟩ hdd hmn1 hmn2 HS1.out HS2.out HZ.out.1 hsBB HZ.out.2 hww2 HPL2 hE0d ?_
  intro _ _ _ _ _ _ _ _ _ _ _ _ _ _ _ _ _ _ _ _ _ _ _ _ aK cK w9 hE9 hD9
  have hE19 := hE1d.trans hE9
  have hE09 := hE0d.trans hE9
  obtain ⟨k0, l0⟩ := HBX.out w9 hE19
  go_upto_if 149 with (fail)
  rename Act → World → Prop => KK
  rename ∀ _ _, _ → KK _ _ => hKK
  have HKK := Lib.hid hKK
  clear hKK
  go_wp2
  exact HKK.out _ _ (mor_tail7 c p b more extra wt sky skyF day N A B r1 r2 w w1 (some ⟨ba, oa, none⟩) c1 days1 days2 aL aK cL cK w9 H16 hdd HK1 HK2 HC HDZ hn5 hN14 HBX (HV1.out.ext (hEl.trans hE9)) hD9 HLL.out HLK.out HFIN.out hE09 hE19)
end Go.Proofs.Ytkjoojmlcjmlgaa
