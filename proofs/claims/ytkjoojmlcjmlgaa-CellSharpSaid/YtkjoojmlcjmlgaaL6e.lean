/- The law CellSharp: no weather agrees. -/
import Derived.Test.YtkjoojmlcjmlgaaL6b
namespace Go.Proofs.Ytkjoojmlcjmlgaa
set_option linter.unusedVariables false
set_option linter.unusedSimpArgs false
open Go.RowKit
attribute [local go_sem] Oper.semAt_some
set_option maxRecDepth 1000000 in
set_option maxHeartbeats 64000000 in
theorem shp_tail6e {u6 u7 u8 u9 u14 u15 u17 u18 u19 u20 u21 u22 u23 u24 u25 u26 u27 u28 u29 u30 u31 u32 u33 u34 u35 u36 u37 u38 u39 u40 u41 u42 u43 u44 u45 u46 u47 u48 u49 u50 u51 u52 u53 u54 u55 u56 u57 u58 u59 u60 u61 u62 u63 u64 u65 u66 u67 u68 u69 u70 u71 u72 u73 u74 u75 u76 u77 u78 u79 u80 u81 u82 u83 u84 u85 u86 u87 u88 u89 u90 u91 u92 u93 u94 u95 u96 u97 u98 u99 u100 u101 u102 u103 u104 u105 u106 u107 u108 u109 u110 u111 u112 u113 u114 u115 u116 u117 u118 u119 u120 u121 u122 u123 u124 u125 u126 u127 u128 u129 u130 u131 u132 u133 u134 u135 u136 u137 u138 u139 u140 u141 u142 u143 u144 u145 u146 u147 u148 u149 u150 u151 u152 u153 u154 u155 u156 u157 u158 u159 u160 u161 u162 u163 u164 u165 u166 u167 u168 u169 u170 u171 u172 u173 u174 u175 u176 u177 u178 u179 u180 u181 u182 u183 u184 u185 u186 u187 u188 u189 u190 u191 u192 u193 u194 u195 u196 u197 u198 u199 u200 u201 u202 u203 u204 u205 u206 u207 u208 u209 u210 u211 u212 u213 u214 u215 u216 u217 u218 u219 u220 u221 u222 u223 u224 u225 u226 u227 u228 u229 u230 u231 u232 u233 u234 u235 u236 u237 u238 u239 u240 u241 u242 u243 u244 u245 u246 u247 u248 u249 u250 u251 u252 u253 u254 u255 u256 u257 u258 u259 u260 u261 u262 u263 u264 u265 u266 u267 u268 u269 u270 u271 u272 u273 u274 u275 u276 u277 u278 u279 u280 u281 : Value} (c : C.Sys) (p b : Int) (sky : ByteArray) (T : List C.Txt) (day N : Nat) (w w1 w5 : World) (a1 aK aT : Option Addr) (c1 cK cT : Nat) (wv : World) (hno : ∀ k (h : k < T.length), C.agrees T[k] sky.data.toList = false) (htl : ∀ k (h : k < T.length), T[k].length = N) (hT : Texts w5 (.slice aT T.length cT) T) (hMM : T.length ≤ 1000000) (hN14 : N ≤ 14) (hskz : sky.size = N) (hE5v : Ext w5 wv) (hEw5 : Ext w w5) (hE15 : Ext w1 w5) (HBX : Hid (∀ y, Ext w1 y → (∀ o, y.cell? ⟨w.heap.size, o, none⟩ = (sysV c (.slice a1 c.loads.length c1) : Array Value)[o]?) ∧ w.heap.size < y.heap.size)) :
    Code.wp Try.prog (shpT 6) (bodyPost Try.prog Try.f6 (fun e w' => e = .returned (.bool true) ∧ Ext w w')) ⟨List.toArray (.agg (sysV c (.slice a1 c.loads.length c1)) :: .int .i64 p :: .int .i64 b :: .string sky :: .int .i64 (day : Int) :: .pointer (some ⟨w.heap.size, 0, none⟩) :: u6 :: u7 :: u8 :: u9 :: .bool false :: .slice aK 0 cK :: .int .i64 5 :: .slice aT T.length cT :: u14 :: u15 :: .bool false :: u17 :: u18 :: u19 :: u20 :: u21 :: u22 :: u23 :: u24 :: u25 :: u26 :: u27 :: u28 :: u29 :: u30 :: u31 :: u32 :: u33 :: u34 :: u35 :: u36 :: u37 :: u38 :: u39 :: u40 :: u41 :: u42 :: u43 :: u44 :: u45 :: u46 :: u47 :: u48 :: u49 :: u50 :: u51 :: u52 :: u53 :: u54 :: u55 :: u56 :: u57 :: u58 :: u59 :: u60 :: u61 :: u62 :: u63 :: u64 :: u65 :: u66 :: u67 :: u68 :: u69 :: u70 :: u71 :: u72 :: u73 :: u74 :: u75 :: u76 :: u77 :: u78 :: u79 :: u80 :: u81 :: u82 :: u83 :: u84 :: u85 :: u86 :: u87 :: u88 :: u89 :: u90 :: u91 :: u92 :: u93 :: u94 :: u95 :: u96 :: u97 :: u98 :: u99 :: u100 :: u101 :: u102 :: u103 :: u104 :: u105 :: u106 :: u107 :: u108 :: u109 :: u110 :: u111 :: u112 :: u113 :: u114 :: u115 :: u116 :: u117 :: u118 :: u119 :: u120 :: u121 :: u122 :: u123 :: u124 :: u125 :: u126 :: u127 :: u128 :: u129 :: u130 :: u131 :: u132 :: u133 :: u134 :: u135 :: u136 :: u137 :: u138 :: u139 :: u140 :: u141 :: u142 :: u143 :: u144 :: u145 :: u146 :: u147 :: u148 :: u149 :: u150 :: u151 :: u152 :: u153 :: u154 :: u155 :: u156 :: u157 :: u158 :: u159 :: u160 :: u161 :: u162 :: u163 :: u164 :: u165 :: u166 :: u167 :: u168 :: u169 :: u170 :: u171 :: u172 :: u173 :: u174 :: u175 :: u176 :: u177 :: u178 :: u179 :: u180 :: u181 :: u182 :: u183 :: u184 :: u185 :: u186 :: u187 :: u188 :: u189 :: u190 :: u191 :: u192 :: u193 :: u194 :: u195 :: u196 :: u197 :: u198 :: u199 :: u200 :: u201 :: u202 :: u203 :: u204 :: u205 :: u206 :: u207 :: u208 :: u209 :: u210 :: u211 :: u212 :: u213 :: u214 :: u215 :: u216 :: u217 :: u218 :: u219 :: u220 :: u221 :: u222 :: u223 :: u224 :: u225 :: u226 :: u227 :: u228 :: u229 :: u230 :: u231 :: u232 :: u233 :: u234 :: u235 :: u236 :: u237 :: u238 :: u239 :: u240 :: u241 :: u242 :: u243 :: u244 :: u245 :: u246 :: u247 :: u248 :: u249 :: u250 :: u251 :: u252 :: u253 :: u254 :: u255 :: u256 :: u257 :: u258 :: u259 :: u260 :: u261 :: u262 :: u263 :: u264 :: u265 :: u266 :: u267 :: u268 :: u269 :: u270 :: u271 :: u272 :: u273 :: u274 :: u275 :: u276 :: u277 :: u278 :: u279 :: u280 :: u281 :: []), []⟩ wv := by
  unfold shpT
  conv => arg 2; whnf
  obtain ⟨_, _, e1, hxt⟩ := hT
  cases e1
  have HXT := Lib.hid hxt
  have HNO := Lib.hid hno
  have HTL := Lib.hid htl
  clear hxt hno htl
  go_wp2
  go_loopw [16, 19] (fun s16 s19 wx => ∃ k : Nat, k ≤ T.length ∧ s16 = .bool false ∧ s19 = .int .i64 k ∧ Ext w5 wx) (fun _ s _ => T.length - (intOf s).toNat)
  case atStart => exact ⟨0, Nat.zero_le _, rfl, rfl, hE5v⟩
  case round =>
    rename World => wx
    obtain ⟨k, hk, rfl, rfl, hE5x⟩ := hrel
    have hE1x := hE15.trans hE5x
    have hEwx := hEw5.trans hE5x
    obtain ⟨k0, l0⟩ := HBX.out wx hE1x
    by_cases hkM : k < T.length
    · have HKM := Lib.hid hkM
      obtain ⟨bt, ot, rfl, hbt, hAt⟩ := HXT.out k hkM
      have n0 : wx.cell? ⟨bt, ot + k, none⟩ = some (.string (bs T[k])) := by have h := hAt 0 (.string (bs T[k])) rfl; simp only [Nat.mul_one, Nat.add_zero] at h; exact (hE5x.cells.1 _ _ hbt).trans h
      have mb := Nat.lt_of_lt_of_le hbt hE5x.size
      obtain ⟨t, ht⟩ : ∃ t : C.Txt, T[k] = t := ⟨_, rfl⟩
      have htl : t.length = N := by subst ht; exact HTL.out k hkM
      have hA : C.agrees t sky.data.toList = false := by subst ht; exact HNO.out k hkM
      rw [ht] at n0
      clear hAt ht
      obtain ⟨tx, htx⟩ : ∃ tx, bs t = tx := ⟨_, rfl⟩
      have htd : t = tx.data.toList := by rw [← htx, bs_list]
      rw [htx] at n0
      have htz : tx.size = N := by rw [← htx, bs_size]; exact htl
      have hag := fun w' => dagrees_any tx sky w' (by omega) (by omega)
      have hss : decide (tx.size = sky.size) = true := by simp; omega
      simp only [hss, Bool.and_true, ← htd, hA] at hag
      have HAG := Lib.hid hag
      clear hag htd htx hss htl hA
      go_wp2_with (first | (go_at_call 27; refine (HAG.out _).mono ?_; rintro e w10 ⟨rfl, hb10⟩; (try clear k0 l0); obtain ⟨k0, l0⟩ := HBX.out w10 (hE1x.trans hb10)))
      go_roundw
      case rel => exact ⟨k + 1, HKM.out, rfl, by go_num, hE5x.trans hb10⟩
      case measure => have := HKM.out; simp [intOf]; omega
    · go_wp2_with (first | (go_at_call 16; refine (known_any _).mono ?_; rintro e wk ⟨rfl, hbk⟩))
      go_ret
      exact ⟨rfl, by (with_reducible (repeat (first | exact Ext.refl _ | assumption | apply Ext.alloc | apply Ext.drew | exact ext_plus _ _ | (apply Ext.setCell; rotate_left; (simp <;> omega)) | (apply Ext.trans; rotate_left; exact ext_plus _ _) | (apply Ext.trans; rotate_left; assumption))))⟩
end Go.Proofs.Ytkjoojmlcjmlgaa
