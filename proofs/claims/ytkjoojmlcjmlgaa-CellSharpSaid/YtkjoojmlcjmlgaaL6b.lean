/- The law CellSharp: rows of Booleans, the weathers one by one, single regions. -/
import Derived.Test.YtkjoojmlcjmlgaaK3
import Derived.Test.YtkjoojmlcjmlgaaPd
import Derived.Test.YtkjoojmlcjmlgaaLa
import Derived.Test.YtkjoojmlcjmlgaaTl
import Derived.Test.YtkjoojmlcjmlgaaH7
import Derived.Test.YtkjoojmlcjmlgaaGp
namespace Go.Proofs.Ytkjoojmlcjmlgaa
set_option linter.unusedVariables false
set_option linter.unusedSimpArgs false
open Go.RowKit
attribute [local go_sem] Oper.semAt_some
theorem cell_other {w : World} {a : Addr} {b : Nat} (o : Nat) (v : Value) (hne : a.block ≠ b) : (w.setCell a v).cell? ⟨b, o, none⟩ = w.cell? ⟨b, o, none⟩ := by
  simp only [World.cell?, Below.heap_setCell _ _ _ _ (fun e => hne e.symm)]
/-- A row of Booleans in a block. -/
def Bools (n : Nat) (w : World) (g : Nat) (f : Nat → Bool) : Prop := ∃ cs, Blk w g cs 4 ∧ ∀ i, i < n → cs[i]? = some (.bool (f i))
theorem Bools.lt {n : Nat} {w : World} {g : Nat} {f : Nat → Bool} (h : Bools n w g f) : g < w.heap.size := by obtain ⟨cs, hB, _⟩ := h; exact hB.lt
theorem Bools.free {n : Nat} {w : World} {g : Nat} {f : Nat → Bool} (h : Bools n w g f) (o : Nat) : w.frozen? ⟨g, o, none⟩ = false := by obtain ⟨cs, hB, _⟩ := h; exact hB.free o
theorem Bools.cell {n : Nat} {w : World} {g : Nat} {f : Nat → Bool} (h : Bools n w g f) (i : Nat) (hi : i < n) : w.cell? ⟨g, i, none⟩ = some (.bool (f i)) := by
  obtain ⟨cs, hB, hc⟩ := h
  rw [hB.cell]; exact hc i hi
theorem Bools.ext {n : Nat} {w w' : World} {g : Nat} {f : Nat → Bool} (h : Bools n w g f) (he : Ext w w') : Bools n w' g f := by
  obtain ⟨cs, hB, hc⟩ := h; exact ⟨cs, hB.ext he, hc⟩
theorem Bools.other {n : Nat} {w : World} {g : Nat} {f : Nat → Bool} (h : Bools n w g f) {a : Addr} (hne : a.block ≠ g) (v : Value) : Bools n (w.setCell a v) g f := by
  obtain ⟨cs, hB, hc⟩ := h; exact ⟨cs, hB.other hne v, hc⟩
theorem Bools.set {n : Nat} {w : World} {g : Nat} {f : Nat → Bool} (h : Bools n w g f) (i : Nat) (hi : i < n) (v : Bool) : Bools n (w.setCell ⟨g, i, none⟩ (.bool v)) g (fun j => if j = i then v else f j) := by
  obtain ⟨cs, hB, hc⟩ := h
  refine ⟨_, hB.set i _, fun j hj => ?_⟩
  have hlt : i < cs.size := (Array.getElem?_eq_some_iff.1 (hc i hi)).1
  by_cases he : j = i
  · subst he
    rw [Array.getElem?_setIfInBounds, if_pos rfl, if_pos hlt]
    simp
  · rw [Array.getElem?_setIfInBounds, if_neg (by omega)]
    simp only [if_neg he]
    exact hc j hj
theorem Bools.congr {n : Nat} {w : World} {g : Nat} {f f' : Nat → Bool} (h : Bools n w g f) (he : ∀ j, j < n → f j = f' j) : Bools n w g f' := by
  obtain ⟨cs, hB, hc⟩ := h
  exact ⟨cs, hB, fun j hj => by rw [← he j hj]; exact hc j hj⟩
theorem bool_info : (Try.prog.info? 4).map (fun i => (i.zero, i.size, i.bytes)) = some (some (.bool false), 1, 1) := by kernel_rfl
theorem make_bools (n : Nat) (hn : n ≤ 1000000) : ∃ cs : Array Value, (∀ w, (Instr.makeSlice 59 (.int .i64 (n : Int)) (.int .i64 (n : Int))).run Try.prog w = .ok (.slice (some ⟨w.heap.size, 0, none⟩) n n) (w.alloc (.cells cs 4))) ∧ ∀ i, i < n → cs[i]? = some (.bool false) := by
  obtain ⟨i0, hi, hz0, hz1, hz2⟩ := info_parts bool_info
  have h := fun w => run_make (P := Try.prog) w 59 4 i0 (.bool false) Try.underlying59 hi hz0 .i64 .i64 n n (by omega) (Int.le_refl _) (by rw [hz2]; omega) (by omega)
  simp only [hz1, Int.toNat_natCast] at h
  refine ⟨_, h, fun i hi => ?_⟩
  unfold madeCells
  simp only [Array.getElem?_map]
  rw [Array.getElem?_range, if_pos (by omega)]
  simp [Value.cells, Nat.mod_one]
/-- What the agreeing ones of the first k weathers do. -/
def rsTo (c : C.Sys) (p b : Int) (sky : C.Txt) (T : List C.Txt) (k : Nat) : List (List C.Day) := ((T.take k).filter fun w => C.agrees w sky).map (C.run c p b 0)
theorem rsTo_yes {c : C.Sys} {p b : Int} {sky : C.Txt} {T : List C.Txt} {k : Nat} (h : k < T.length) (ha : C.agrees T[k] sky = true) : rsTo c p b sky T (k + 1) = rsTo c p b sky T k ++ [C.run c p b 0 T[k]] := by
  unfold rsTo
  rw [List.take_succ_eq_append_getElem h, List.filter_append, List.map_append, List.filter_cons, if_pos ha]; rfl
theorem rsTo_no {c : C.Sys} {p b : Int} {sky : C.Txt} {T : List C.Txt} {k : Nat} (h : k < T.length) (ha : C.agrees T[k] sky = false) : rsTo c p b sky T (k + 1) = rsTo c p b sky T k := by
  unfold rsTo
  rw [List.take_succ_eq_append_getElem h, List.filter_append, List.map_append, List.filter_cons, if_neg (by rw [ha]; decide)]; simp
theorem rsTo_all (c : C.Sys) (p b : Int) (sky : C.Txt) : rsTo c p b sky (C.weathers c) (C.weathers c).length = C.runs c p b sky := by
  unfold rsTo; rw [List.take_length]; rfl
def bat (day : Nat) (r : List C.Day) : Int := (C.dat r day).battery
def car (day : Nat) (r : List C.Day) : Int := (C.dat r day).carried
theorem upto_set {Y1 Y2 : Nat → Bool} {i : Nat} (h : Y2 i = true) (j : Nat) : (if j = i then true else if j < i then Y2 j else Y1 j) = if j < i + 1 then Y2 j else Y1 j := by
  by_cases e : j = i
  · subst e; rw [if_pos rfl, if_pos (Nat.lt_succ_self _), h]
  · rw [if_neg e]
    by_cases e2 : j < i
    · rw [if_pos e2, if_pos (by omega)]
    · rw [if_neg e2, if_neg (by omega)]
theorem upto_same {Y1 Y2 : Nat → Bool} {i : Nat} (h : Y2 i = Y1 i) (j : Nat) : (if j < i then Y2 j else Y1 j) = if j < i + 1 then Y2 j else Y1 j := by
  by_cases e : j = i
  · subst e; rw [if_neg (Nat.lt_irrefl _), if_pos (Nat.lt_succ_self _), h]
  · by_cases e2 : j < i
    · rw [if_pos e2, if_pos (by omega)]
    · rw [if_neg e2, if_neg (by omega)]
/-- What stands behind all days' bounds, and the weathers one by one. -/
structure Shp (c : C.Sys) (p b : Int) (sky : C.Txt) (T : List C.Txt) (F : Nat → List (List C.Day)) (day N : Nat) (kl kh : Int) (lk : List Int) (Q : Int) : Prop where
  f0 : F 0 = []
  fy : ∀ k (h : k < T.length), C.agrees T[k] sky = true → F (k + 1) = F k ++ [C.run c p b 0 T[k]]
  fn : ∀ k (h : k < T.length), C.agrees T[k] sky = false → F (k + 1) = F k
  tl : ∀ k (h : k < T.length), T[k].length = N
  tw : ∀ k (h : k < T.length), C.weatherB c T[k] = true
  tr : ∀ k (h : k < T.length), ∃ nb xc, C.dat (C.run c p b 0 T[k]) day = ⟨nb, xc⟩ ∧ 0 ≤ xc ∧ xc < Q ∧ (C.run c p b 0 T[k]).length = N
  lo : (F T.length).any (fun r => bat day r == kl) = true
  hi : (F T.length).any (fun r => bat day r == kh) = true
  ne : (F T.length).isEmpty = false
  ln : lk.length = c.loads.length
  wd : ∀ i (h : i < lk.length), lk[i] = if (F T.length).any (fun r => C.has (car day r) i) then (if (F T.length).any (fun r => !C.has (car day r) i) then 2 else 3) else 1
  N14 : N ≤ 14
  dN : day < N
  n5 : c.loads.length ≤ 5
  qb : Q ≤ 1024
  M : T.length ≤ 1000000
theorem weathers_le (c : C.Sys) (O : C.Ok c) : (C.weathers c).length ≤ 1024 := by
  have h1 : (C.weathers c).length ≤ (C.texts c.days.toNat).length := List.length_filter_le _ _
  rw [texts_len] at h1
  have h2 : 2 ^ c.days.toNat ≤ 2 ^ 10 := Nat.pow_le_pow_right (by decide) (by have := O.d10; omega)
  omega
theorem word_if (rs : List (List C.Day)) (day i : Nat) (hne : rs ≠ []) : C.word (C.many rs day i) rs.length = if rs.any (fun r => C.has (C.dat r day).carried i) then (if rs.any (fun r => !C.has (C.dat r day).carried i) then 2 else 3) else 1 := by
  by_cases h1 : rs.any (fun r => C.has (C.dat r day).carried i) = true
  · rw [if_pos h1]
    rw [List.any_eq_true] at h1
    obtain ⟨r, hr, hh⟩ := h1
    have n1 : C.word (C.many rs day i) rs.length ≠ 1 := fun e => by
      rw [word_never, many_none] at e; rw [e r hr] at hh; cases hh
    by_cases h2 : rs.any (fun r => !C.has (C.dat r day).carried i) = true
    · rw [if_pos h2]
      rw [List.any_eq_true] at h2
      obtain ⟨s, hs, hh2⟩ := h2
      have n3 : C.word (C.many rs day i) rs.length ≠ 3 := fun e => by
        rw [word_sure, many_all] at e; rw [e.2 s hs] at hh2; cases hh2
      rcases word_three (C.many rs day i) rs.length with e | e | e
      · exact absurd e n1
      · exact e
      · exact absurd e n3
    · rw [if_neg h2, word_sure]
      refine ⟨fun e => n1 (by rw [word_never]; exact e), many_all.2 fun s hs => ?_⟩
      cases h3 : C.has (C.dat s day).carried i with
      | true => rfl
      | false => exact absurd (List.any_eq_true.2 ⟨s, hs, by rw [h3]; rfl⟩) h2
  · rw [if_neg h1, word_never, many_none]
    intro s hs
    cases h3 : C.has (C.dat s day).carried i with
    | false => rfl
    | true => exact absurd (List.any_eq_true.2 ⟨s, hs, h3⟩) h1
theorem shp_of {c : C.Sys} {p b : Int} {sky : C.Txt} (O : C.Ok c) (hp0 : 0 ≤ p) (hp1 : p ≤ 12) (h2 : 0 ≤ b) (h3 : b ≤ 8) (hn : c.loads.length ≤ 10) {day : Nat} (hd : (day : Int) < c.days) (hne : C.runs c p b sky ≠ []) :
    ∃ kl kh lk, C.seenAt c (C.runs c p b sky) day = ⟨kl, kh, lk⟩ ∧ Shp c p b sky (C.weathers c) (rsTo c p b sky (C.weathers c)) day c.days.toNat kl kh lk (C.sets c) := by
  have hd0 : 0 ≤ c.days := by have := O.d1; omega
  have hw := fun k (h : k < (C.weathers c).length) => weather_of hd0 (List.getElem_mem h)
  refine ⟨_, _, _, rfl, ?_⟩
  have hall := rsTo_all c p b sky
  refine ⟨rfl, fun k h ha => rsTo_yes h ha, fun k h ha => rsTo_no h ha, fun k h => (hw k h).2.2, fun k h => (hw k h).1, fun k h => ?_, ?_, ?_, ?_, ?_, ?_, by have := O.d10; omega, by omega, O.n5, (pow_bd hn).2, by have := weathers_le c O; omega⟩
  · have hl : (C.run c p b 0 (C.weathers c)[k]).length = c.days.toNat := by rw [run_len, (hw k h).2.2]
    refine ⟨(C.dat (C.run c p b 0 (C.weathers c)[k]) day).battery, (C.dat (C.run c p b 0 (C.weathers c)[k]) day).carried, rfl, ?_, ?_, hl⟩
    · rw [dat_run (by rw [(hw k h).2.2]; omega)]; exact (C.carried_bd O hp0 hp1 h2 h3 0 _ day (by have := O.d10; omega)).1
    · rw [dat_run (by rw [(hw k h).2.2]; omega)]; exact (C.carried_bd O hp0 hp1 h2 h3 0 _ day (by have := O.d10; omega)).2
  · rw [hall, List.any_eq_true]
    obtain ⟨r, hr, e⟩ := low_mem hne day
    exact ⟨r, hr, by unfold bat; rw [← e]; simp⟩
  · rw [hall, List.any_eq_true]
    obtain ⟨r, hr, e⟩ := high_mem hne day
    exact ⟨r, hr, by unfold bat; rw [← e]; simp⟩
  · rw [hall]
    cases h : C.runs c p b sky with
    | nil => exact absurd h hne
    | cons _ _ => rfl
  · simp
  · intro i h
    rw [hall]
    simp only [List.getElem_map, List.getElem_range]
    exact word_if _ day i hne
noncomputable def shpT (n : Nat) : Code := codeTail n (Try.f6.body.getD .skip)
noncomputable def shpR (n : Nat) : Code := (findRegion n (Try.f6.body.getD .skip)).getD .skip
set_option maxRecDepth 1000000 in
set_option maxHeartbeats 64000000 in
theorem shp_reg12 {u0 u1 u2 u3 u6 u7 u8 u9 u10 u13 u14 u15 u16 u17 u18 u19 u21 u23 u24 u25 u26 u27 u28 u29 u30 u31 u32 u33 u34 u35 u36 u37 u38 u39 u40 u41 u42 u43 u44 u45 u46 u47 u48 u49 u50 u51 u52 u53 u54 u55 u56 u57 u58 u59 u60 u61 u62 u63 u64 u65 u66 u67 u68 u69 u70 u71 u72 u73 u74 u75 u76 u77 u78 u79 u80 u81 u82 u83 u84 u85 u86 u87 u88 u89 u90 u91 u92 u93 u94 u95 u96 u97 u98 u99 u100 u101 u102 u103 u104 u105 u106 u107 u108 u109 u110 u111 u112 u113 u114 u115 u116 u117 u118 u119 u120 u121 u122 u123 u124 u125 u126 u127 u128 u129 u130 u131 u132 u133 u134 u135 u136 u137 u138 u139 u140 u141 u142 u143 u144 u145 u146 u147 u148 u149 u150 u151 u152 u153 u154 u155 u156 u157 u158 u159 u160 u161 u162 u163 u164 u165 u166 u167 u168 u169 u170 u171 u172 u173 u174 u175 u176 u177 u178 u179 u180 u181 u182 u183 u184 u185 u186 u187 u188 u189 u190 u191 u192 u193 u194 u195 u196 u197 u198 u199 u200 u201 u202 u203 u204 u205 u206 u207 u208 u209 u210 u211 u212 u213 u214 u215 u216 u217 u218 u219 u220 u221 u222 u223 u224 u225 u226 u227 u228 u229 u230 u231 u232 u233 u234 u235 u236 u237 u238 u239 u240 u241 u242 u243 u244 u245 u246 u247 u248 u249 u250 u251 u252 u253 u254 u255 u256 u257 u258 u259 u260 u261 u262 u263 u264 u265 u266 u267 u268 u269 u270 u271 u272 u273 u274 u275 u276 u277 u278 u279 u280 u281 : Value} {c : C.Sys} {a1 : Option Addr} {c1 bw : Nat} {w : World} {mk ck b6 o6 md cd day : Nat} {aK : Option Addr} {xc Q : Int} (wx : World) (QX : Exit → Act → World → Prop) (hQ : ∀ c a d v w, QX (.panic c) (a.put d v) w → QX (.panic c) a w) (hb : (∀ o, wx.cell? ⟨bw, o, none⟩ = (sysV c (.slice a1 c.loads.length c1) : Array Value)[o]?) ∧ bw < wx.heap.size) (hl1 : ((mk : Int) != c.days) = false) (hl3 : ((md : Int) != c.days) = false) (q1 : wx.cell? ⟨b6, o6 + day * 2 + 1, none⟩ = some (.int .i64 xc)) (qb : b6 < wx.heap.size) (f1 : 0 ≤ xc) (f2 : xc < Q) (HSE : Hid (∀ w', Ext w w' → Calls Try.prog 23 #[.agg (sysV c (.slice a1 c.loads.length c1))] w' fun e w2 => e = .returned (.int .i64 Q) ∧ Ext w' w2)) (hdl : day < md) (hEwx : Ext w wx)
    (h : ∀ (v106 v107 v108 v109 v110 v111 v112 v113 v114 v115 v116 v117 v118 v119 v120 v121 v122 v123 v124 v125 v126 v127 v128 v129 v130 v131 v132 v133 v134 v135 v136 v137 v138 v139 v140 v141 v142 : Value)  (w9 : World), Ext wx w9 →  QX .normal ⟨List.toArray (u0 :: u1 :: u2 :: u3 :: .int .i64 (day : Int) :: .pointer (some ⟨bw, 0, none⟩) :: u6 :: u7 :: u8 :: u9 :: u10 :: .slice aK mk ck :: .int .i64 0 :: u13 :: u14 :: u15 :: u16 :: u17 :: u18 :: u19 :: .slice (some ⟨b6, o6, none⟩) md cd :: u21 :: .int .i64 0 :: u23 :: u24 :: u25 :: u26 :: u27 :: u28 :: u29 :: u30 :: u31 :: u32 :: u33 :: u34 :: u35 :: u36 :: u37 :: u38 :: u39 :: u40 :: u41 :: u42 :: u43 :: u44 :: u45 :: u46 :: u47 :: u48 :: u49 :: u50 :: u51 :: u52 :: u53 :: u54 :: u55 :: u56 :: u57 :: u58 :: u59 :: u60 :: u61 :: u62 :: u63 :: u64 :: u65 :: u66 :: u67 :: u68 :: u69 :: u70 :: u71 :: u72 :: u73 :: u74 :: u75 :: u76 :: u77 :: u78 :: u79 :: u80 :: u81 :: u82 :: u83 :: u84 :: u85 :: u86 :: u87 :: u88 :: u89 :: u90 :: u91 :: u92 :: u93 :: u94 :: u95 :: u96 :: u97 :: u98 :: u99 :: u100 :: u101 :: u102 :: u103 :: u104 :: u105 :: v106 :: v107 :: v108 :: v109 :: v110 :: v111 :: v112 :: v113 :: v114 :: v115 :: v116 :: v117 :: v118 :: v119 :: v120 :: v121 :: v122 :: v123 :: v124 :: v125 :: v126 :: v127 :: v128 :: v129 :: v130 :: v131 :: v132 :: v133 :: v134 :: v135 :: v136 :: v137 :: v138 :: v139 :: v140 :: v141 :: v142 :: .bool false :: u144 :: u145 :: u146 :: u147 :: u148 :: u149 :: u150 :: u151 :: u152 :: u153 :: u154 :: u155 :: u156 :: u157 :: u158 :: u159 :: u160 :: u161 :: u162 :: u163 :: u164 :: u165 :: u166 :: u167 :: u168 :: u169 :: u170 :: u171 :: u172 :: u173 :: u174 :: u175 :: u176 :: u177 :: u178 :: u179 :: u180 :: u181 :: u182 :: u183 :: u184 :: u185 :: u186 :: u187 :: u188 :: u189 :: u190 :: u191 :: u192 :: u193 :: u194 :: u195 :: u196 :: u197 :: u198 :: u199 :: u200 :: u201 :: u202 :: u203 :: u204 :: u205 :: u206 :: u207 :: u208 :: u209 :: u210 :: u211 :: u212 :: u213 :: u214 :: u215 :: u216 :: u217 :: u218 :: u219 :: u220 :: u221 :: u222 :: u223 :: u224 :: u225 :: u226 :: u227 :: u228 :: u229 :: u230 :: u231 :: u232 :: u233 :: u234 :: u235 :: u236 :: u237 :: u238 :: u239 :: u240 :: u241 :: u242 :: u243 :: u244 :: u245 :: u246 :: u247 :: u248 :: u249 :: u250 :: u251 :: u252 :: u253 :: u254 :: u255 :: u256 :: u257 :: u258 :: u259 :: u260 :: u261 :: u262 :: u263 :: u264 :: u265 :: u266 :: u267 :: u268 :: u269 :: u270 :: u271 :: u272 :: u273 :: u274 :: u275 :: u276 :: u277 :: u278 :: u279 :: u280 :: u281 :: []), []⟩ w9) :
    Code.wp Try.prog (shpR 12) QX ⟨List.toArray (u0 :: u1 :: u2 :: u3 :: .int .i64 (day : Int) :: .pointer (some ⟨bw, 0, none⟩) :: u6 :: u7 :: u8 :: u9 :: u10 :: .slice aK mk ck :: .int .i64 0 :: u13 :: u14 :: u15 :: u16 :: u17 :: u18 :: u19 :: .slice (some ⟨b6, o6, none⟩) md cd :: u21 :: .int .i64 0 :: u23 :: u24 :: u25 :: u26 :: u27 :: u28 :: u29 :: u30 :: u31 :: u32 :: u33 :: u34 :: u35 :: u36 :: u37 :: u38 :: u39 :: u40 :: u41 :: u42 :: u43 :: u44 :: u45 :: u46 :: u47 :: u48 :: u49 :: u50 :: u51 :: u52 :: u53 :: u54 :: u55 :: u56 :: u57 :: u58 :: u59 :: u60 :: u61 :: u62 :: u63 :: u64 :: u65 :: u66 :: u67 :: u68 :: u69 :: u70 :: u71 :: u72 :: u73 :: u74 :: u75 :: u76 :: u77 :: u78 :: u79 :: u80 :: u81 :: u82 :: u83 :: u84 :: u85 :: u86 :: u87 :: u88 :: u89 :: u90 :: u91 :: u92 :: u93 :: u94 :: u95 :: u96 :: u97 :: u98 :: u99 :: u100 :: u101 :: u102 :: u103 :: u104 :: u105 :: u106 :: u107 :: u108 :: u109 :: u110 :: u111 :: u112 :: u113 :: u114 :: u115 :: u116 :: u117 :: u118 :: u119 :: u120 :: u121 :: u122 :: u123 :: u124 :: u125 :: u126 :: u127 :: u128 :: u129 :: u130 :: u131 :: u132 :: u133 :: u134 :: u135 :: u136 :: u137 :: u138 :: u139 :: u140 :: u141 :: u142 :: u143 :: u144 :: u145 :: u146 :: u147 :: u148 :: u149 :: u150 :: u151 :: u152 :: u153 :: u154 :: u155 :: u156 :: u157 :: u158 :: u159 :: u160 :: u161 :: u162 :: u163 :: u164 :: u165 :: u166 :: u167 :: u168 :: u169 :: u170 :: u171 :: u172 :: u173 :: u174 :: u175 :: u176 :: u177 :: u178 :: u179 :: u180 :: u181 :: u182 :: u183 :: u184 :: u185 :: u186 :: u187 :: u188 :: u189 :: u190 :: u191 :: u192 :: u193 :: u194 :: u195 :: u196 :: u197 :: u198 :: u199 :: u200 :: u201 :: u202 :: u203 :: u204 :: u205 :: u206 :: u207 :: u208 :: u209 :: u210 :: u211 :: u212 :: u213 :: u214 :: u215 :: u216 :: u217 :: u218 :: u219 :: u220 :: u221 :: u222 :: u223 :: u224 :: u225 :: u226 :: u227 :: u228 :: u229 :: u230 :: u231 :: u232 :: u233 :: u234 :: u235 :: u236 :: u237 :: u238 :: u239 :: u240 :: u241 :: u242 :: u243 :: u244 :: u245 :: u246 :: u247 :: u248 :: u249 :: u250 :: u251 :: u252 :: u253 :: u254 :: u255 :: u256 :: u257 :: u258 :: u259 :: u260 :: u261 :: u262 :: u263 :: u264 :: u265 :: u266 :: u267 :: u268 :: u269 :: u270 :: u271 :: u272 :: u273 :: u274 :: u275 :: u276 :: u277 :: u278 :: u279 :: u280 :: u281 :: []), []⟩ wx := by
  have HH := Lib.hid h
  clear h
  unfold shpR
  conv => arg 2; whnf
  obtain ⟨k0, l0⟩ := hb
  have hpc := plus_cell
  have e1 : decide (xc < 0) = false := by simp; omega
  have e2 : decide (xc ≥ Q) = false := by simp; omega
  refine wp_region_ext 38 hQ (by kernel_rfl) (by kernel_rfl) (by kernel_rfl) (by kernel_rfl) ?_
  (try simp only [List.append_eq, List.cons_append, List.nil_append])
  simp only [List.take_succ_cons, List.take_zero, List.drop_succ_cons, List.drop_zero]
  repeat (any_goals (first | go_big_quiet_step ((go_at_call 23; exact ext_quiet (HSE.out _ (by (with_reducible (repeat (first | exact Ext.refl _ | assumption | apply Ext.alloc | apply Ext.drew | exact ext_plus _ _ | (apply Ext.setCell; rotate_left; (simp <;> omega)) | (apply Ext.trans; rotate_left; exact ext_plus _ _) | (apply Ext.trans; rotate_left; assumption)))))))) | quiet_step ((go_at_call 23; exact ext_quiet (HSE.out _ (by (with_reducible (repeat (first | exact Ext.refl _ | assumption | apply Ext.alloc | apply Ext.drew | exact ext_plus _ _ | (apply Ext.setCell; rotate_left; (simp <;> omega)) | (apply Ext.trans; rotate_left; exact ext_plus _ _) | (apply Ext.trans; rotate_left; assumption))))))))))
  all_goals (refine wpQuiet_nil ?_; intro w9 hEw9)
  unfold wpList
  exact HH.out _ _ _ _ _ _ _ _ _ _ _ _ _ _ _ _ _ _ _ _ _ _ _ _ _ _ _ _ _ _ _ _ _ _ _ _ _ w9 hEw9
set_option maxRecDepth 1000000 in
set_option maxHeartbeats 64000000 in
theorem shp_reg14 {u0 u1 u2 u3 u5 u6 u7 u8 u9 u10 u12 u13 u16 u17 u18 u19 u21 u22 u23 u24 u25 u26 u27 u28 u29 u30 u31 u32 u33 u34 u35 u36 u37 u38 u39 u40 u41 u42 u43 u44 u45 u46 u47 u48 u49 u50 u51 u52 u53 u54 u55 u56 u57 u58 u59 u60 u61 u62 u63 u64 u65 u66 u67 u68 u69 u70 u71 u72 u73 u74 u75 u76 u77 u78 u79 u80 u81 u82 u83 u84 u85 u86 u87 u88 u89 u90 u91 u92 u93 u94 u95 u96 u97 u98 u99 u100 u101 u102 u103 u104 u105 u106 u107 u108 u109 u110 u111 u112 u113 u114 u115 u116 u117 u118 u119 u120 u121 u122 u123 u124 u125 u126 u127 u128 u129 u130 u131 u132 u133 u134 u135 u136 u137 u138 u139 u140 u141 u142 u143 u144 u145 u146 u147 u148 u149 u150 u151 u152 u153 u154 u155 u156 u157 u158 u159 u160 u161 u162 u163 u164 u165 u166 u167 u168 u169 u170 u171 u172 u173 u174 u175 u176 u177 u178 u179 u180 u181 u182 u183 u184 u185 u186 u187 u188 u189 u190 u191 u192 u193 u194 u195 u196 u197 u198 u199 u200 u201 u202 u203 u204 u205 u206 u207 u208 u209 u210 u211 u212 u213 u214 u215 u216 u217 u218 u219 u220 u221 u222 u223 u224 u225 u226 u227 u228 u229 u230 u231 u232 u233 u234 u235 u236 u237 u238 u239 u240 u241 u242 u243 u244 u245 u246 u247 u248 u249 u250 u251 u252 u253 u254 u255 u256 u257 u258 u259 u260 u261 u262 u263 u264 u265 u266 u267 u268 u269 u270 u271 u272 u273 u274 u275 u276 u277 u278 u279 u280 u281 : Value} {bk ok mk ck b6 o6 md cd day : Nat} {nb kl kh : Int} {lo hi e1 e2 : Bool} (wx : World) (QX : Exit → Act → World → Prop) (hQ : ∀ c a d v w, QX (.panic c) (a.put d v) w → QX (.panic c) a w) (x1 : wx.cell? ⟨bk, ok + day * 3, none⟩ = some (.int .i64 kl)) (x2 : wx.cell? ⟨bk, ok + day * 3 + 1, none⟩ = some (.int .i64 kh)) (xb : bk < wx.heap.size) (q0 : wx.cell? ⟨b6, o6 + day * 2, none⟩ = some (.int .i64 nb)) (qb : b6 < wx.heap.size) (hdk : day < mk) (hdl : day < md) (he1 : (nb == kl) = e1) (he2 : (nb == kh) = e2)
    (h : ∀ (v144 v145 v146 v147 v148 v149 v150 v151 v152 v153 v154 v155 v156 v157 v158 v159 v160 v161 v162 v163 v164 v165 v166 v167 v168 v169 v170 v171 v172 v173 : Value) (w9 : World), Ext wx w9 → QX .normal ⟨List.toArray (u0 :: u1 :: u2 :: u3 :: .int .i64 (day : Int) :: u5 :: u6 :: u7 :: u8 :: u9 :: u10 :: .slice (some ⟨bk, ok, none⟩) mk ck :: u12 :: u13 :: .bool (lo || e1) :: .bool (hi || e2) :: .bool true :: u17 :: u18 :: u19 :: .slice (some ⟨b6, o6, none⟩) md cd :: u21 :: u22 :: u23 :: u24 :: u25 :: u26 :: u27 :: u28 :: u29 :: u30 :: u31 :: u32 :: u33 :: u34 :: u35 :: u36 :: u37 :: u38 :: u39 :: u40 :: u41 :: u42 :: u43 :: u44 :: u45 :: u46 :: u47 :: u48 :: u49 :: u50 :: u51 :: u52 :: u53 :: u54 :: u55 :: u56 :: u57 :: u58 :: u59 :: u60 :: u61 :: u62 :: u63 :: u64 :: u65 :: u66 :: u67 :: u68 :: u69 :: u70 :: u71 :: u72 :: u73 :: u74 :: u75 :: u76 :: u77 :: u78 :: u79 :: u80 :: u81 :: u82 :: u83 :: u84 :: u85 :: u86 :: u87 :: u88 :: u89 :: u90 :: u91 :: u92 :: u93 :: u94 :: u95 :: u96 :: u97 :: u98 :: u99 :: u100 :: u101 :: u102 :: u103 :: u104 :: u105 :: u106 :: u107 :: u108 :: u109 :: u110 :: u111 :: u112 :: u113 :: u114 :: u115 :: u116 :: u117 :: u118 :: u119 :: u120 :: u121 :: u122 :: u123 :: u124 :: u125 :: u126 :: u127 :: u128 :: u129 :: u130 :: u131 :: u132 :: u133 :: u134 :: u135 :: u136 :: u137 :: u138 :: u139 :: u140 :: u141 :: u142 :: u143 :: v144 :: v145 :: v146 :: v147 :: v148 :: v149 :: v150 :: v151 :: v152 :: v153 :: v154 :: v155 :: v156 :: v157 :: v158 :: v159 :: v160 :: v161 :: v162 :: v163 :: v164 :: v165 :: v166 :: v167 :: v168 :: v169 :: v170 :: v171 :: v172 :: v173 :: u174 :: u175 :: u176 :: u177 :: u178 :: u179 :: u180 :: u181 :: u182 :: u183 :: u184 :: u185 :: u186 :: u187 :: u188 :: u189 :: u190 :: u191 :: u192 :: u193 :: u194 :: u195 :: u196 :: u197 :: u198 :: u199 :: u200 :: u201 :: u202 :: u203 :: u204 :: u205 :: u206 :: u207 :: u208 :: u209 :: u210 :: u211 :: u212 :: u213 :: u214 :: u215 :: u216 :: u217 :: u218 :: u219 :: u220 :: u221 :: u222 :: u223 :: u224 :: u225 :: u226 :: u227 :: u228 :: u229 :: u230 :: u231 :: u232 :: u233 :: u234 :: u235 :: u236 :: u237 :: u238 :: u239 :: u240 :: u241 :: u242 :: u243 :: u244 :: u245 :: u246 :: u247 :: u248 :: u249 :: u250 :: u251 :: u252 :: u253 :: u254 :: u255 :: u256 :: u257 :: u258 :: u259 :: u260 :: u261 :: u262 :: u263 :: u264 :: u265 :: u266 :: u267 :: u268 :: u269 :: u270 :: u271 :: u272 :: u273 :: u274 :: u275 :: u276 :: u277 :: u278 :: u279 :: u280 :: u281 :: []), []⟩ w9) :
    Code.wp Try.prog (shpR 14) QX ⟨List.toArray (u0 :: u1 :: u2 :: u3 :: .int .i64 (day : Int) :: u5 :: u6 :: u7 :: u8 :: u9 :: u10 :: .slice (some ⟨bk, ok, none⟩) mk ck :: u12 :: u13 :: .bool lo :: .bool hi :: u16 :: u17 :: u18 :: u19 :: .slice (some ⟨b6, o6, none⟩) md cd :: u21 :: u22 :: u23 :: u24 :: u25 :: u26 :: u27 :: u28 :: u29 :: u30 :: u31 :: u32 :: u33 :: u34 :: u35 :: u36 :: u37 :: u38 :: u39 :: u40 :: u41 :: u42 :: u43 :: u44 :: u45 :: u46 :: u47 :: u48 :: u49 :: u50 :: u51 :: u52 :: u53 :: u54 :: u55 :: u56 :: u57 :: u58 :: u59 :: u60 :: u61 :: u62 :: u63 :: u64 :: u65 :: u66 :: u67 :: u68 :: u69 :: u70 :: u71 :: u72 :: u73 :: u74 :: u75 :: u76 :: u77 :: u78 :: u79 :: u80 :: u81 :: u82 :: u83 :: u84 :: u85 :: u86 :: u87 :: u88 :: u89 :: u90 :: u91 :: u92 :: u93 :: u94 :: u95 :: u96 :: u97 :: u98 :: u99 :: u100 :: u101 :: u102 :: u103 :: u104 :: u105 :: u106 :: u107 :: u108 :: u109 :: u110 :: u111 :: u112 :: u113 :: u114 :: u115 :: u116 :: u117 :: u118 :: u119 :: u120 :: u121 :: u122 :: u123 :: u124 :: u125 :: u126 :: u127 :: u128 :: u129 :: u130 :: u131 :: u132 :: u133 :: u134 :: u135 :: u136 :: u137 :: u138 :: u139 :: u140 :: u141 :: u142 :: u143 :: u144 :: u145 :: u146 :: u147 :: u148 :: u149 :: u150 :: u151 :: u152 :: u153 :: u154 :: u155 :: u156 :: u157 :: u158 :: u159 :: u160 :: u161 :: u162 :: u163 :: u164 :: u165 :: u166 :: u167 :: u168 :: u169 :: u170 :: u171 :: u172 :: u173 :: u174 :: u175 :: u176 :: u177 :: u178 :: u179 :: u180 :: u181 :: u182 :: u183 :: u184 :: u185 :: u186 :: u187 :: u188 :: u189 :: u190 :: u191 :: u192 :: u193 :: u194 :: u195 :: u196 :: u197 :: u198 :: u199 :: u200 :: u201 :: u202 :: u203 :: u204 :: u205 :: u206 :: u207 :: u208 :: u209 :: u210 :: u211 :: u212 :: u213 :: u214 :: u215 :: u216 :: u217 :: u218 :: u219 :: u220 :: u221 :: u222 :: u223 :: u224 :: u225 :: u226 :: u227 :: u228 :: u229 :: u230 :: u231 :: u232 :: u233 :: u234 :: u235 :: u236 :: u237 :: u238 :: u239 :: u240 :: u241 :: u242 :: u243 :: u244 :: u245 :: u246 :: u247 :: u248 :: u249 :: u250 :: u251 :: u252 :: u253 :: u254 :: u255 :: u256 :: u257 :: u258 :: u259 :: u260 :: u261 :: u262 :: u263 :: u264 :: u265 :: u266 :: u267 :: u268 :: u269 :: u270 :: u271 :: u272 :: u273 :: u274 :: u275 :: u276 :: u277 :: u278 :: u279 :: u280 :: u281 :: []), []⟩ wx := by
  have HH := Lib.hid h
  clear h
  unfold shpR
  conv => arg 2; whnf
  have hpc := plus_cell
  cases lo with
  | false =>
    cases hi with
    | false =>
      refine wp_region_ext 33 hQ (by kernel_rfl) (by kernel_rfl) (by kernel_rfl) (by kernel_rfl) ?_
      (try simp only [List.append_eq, List.cons_append, List.nil_append])
      simp only [List.take_succ_cons, List.take_zero, List.drop_succ_cons, List.drop_zero]
      repeat (any_goals (first | go_big_quiet_step (fail) | quiet_step (fail)))
      all_goals (refine wpQuiet_nil ?_; intro w9 hEw9)
      unfold wpList
      exact HH.out _ _ _ _ _ _ _ _ _ _ _ _ _ _ _ _ _ _ _ _ _ _ _ _ _ _ _ _ _ _ w9 hEw9
    | true =>
      refine wp_region_ext 33 hQ (by kernel_rfl) (by kernel_rfl) (by kernel_rfl) (by kernel_rfl) ?_
      (try simp only [List.append_eq, List.cons_append, List.nil_append])
      simp only [List.take_succ_cons, List.take_zero, List.drop_succ_cons, List.drop_zero]
      repeat (any_goals (first | go_big_quiet_step (fail) | quiet_step (fail)))
      all_goals (refine wpQuiet_nil ?_; intro w9 hEw9)
      unfold wpList
      exact HH.out _ _ _ _ _ _ _ _ _ _ _ _ _ _ _ _ _ _ _ _ _ _ _ _ _ _ _ _ _ _ w9 hEw9
  | true =>
    cases hi with
    | false =>
      refine wp_region_ext 33 hQ (by kernel_rfl) (by kernel_rfl) (by kernel_rfl) (by kernel_rfl) ?_
      (try simp only [List.append_eq, List.cons_append, List.nil_append])
      simp only [List.take_succ_cons, List.take_zero, List.drop_succ_cons, List.drop_zero]
      repeat (any_goals (first | go_big_quiet_step (fail) | quiet_step (fail)))
      all_goals (refine wpQuiet_nil ?_; intro w9 hEw9)
      unfold wpList
      exact HH.out _ _ _ _ _ _ _ _ _ _ _ _ _ _ _ _ _ _ _ _ _ _ _ _ _ _ _ _ _ _ w9 hEw9
    | true =>
      refine wp_region_ext 33 hQ (by kernel_rfl) (by kernel_rfl) (by kernel_rfl) (by kernel_rfl) ?_
      (try simp only [List.append_eq, List.cons_append, List.nil_append])
      simp only [List.take_succ_cons, List.take_zero, List.drop_succ_cons, List.drop_zero]
      repeat (any_goals (first | go_big_quiet_step (fail) | quiet_step (fail)))
      all_goals (refine wpQuiet_nil ?_; intro w9 hEw9)
      unfold wpList
      exact HH.out _ _ _ _ _ _ _ _ _ _ _ _ _ _ _ _ _ _ _ _ _ _ _ _ _ _ _ _ _ _ w9 hEw9
set_option maxRecDepth 1000000 in
set_option maxHeartbeats 64000000 in
theorem shp_reg23 {u0 u1 u2 u3 u6 u7 u8 u9 u10 u12 u13 u16 u17 u18 u19 u20 u21 u22 u23 u24 u25 u26 u27 u28 u29 u30 u31 u32 u33 u34 u35 u36 u37 u38 u39 u40 u41 u42 u43 u44 u45 u46 u47 u48 u49 u50 u51 u52 u53 u54 u55 u56 u57 u58 u59 u60 u61 u62 u63 u64 u65 u66 u67 u68 u69 u70 u71 u72 u73 u74 u75 u76 u77 u78 u79 u80 u81 u82 u83 u84 u85 u86 u87 u88 u89 u90 u91 u92 u93 u94 u95 u96 u97 u98 u99 u100 u101 u102 u103 u104 u105 u106 u107 u108 u109 u110 u111 u112 u113 u114 u115 u116 u117 u118 u119 u120 u121 u122 u123 u124 u125 u126 u127 u128 u129 u130 u131 u132 u133 u134 u135 u136 u137 u138 u139 u140 u141 u142 u143 u144 u145 u146 u147 u148 u149 u150 u151 u152 u153 u154 u155 u156 u157 u158 u159 u160 u161 u162 u163 u164 u165 u166 u167 u168 u169 u170 u171 u172 u173 u174 u175 u176 u177 u178 u179 u180 u181 u182 u183 u184 u185 u186 u187 u188 u189 u190 u191 u192 u193 u194 u195 u196 u197 u198 u199 u200 u201 u202 u203 u204 u205 u206 u207 u208 u209 u210 u211 u212 u213 u214 u215 u216 u217 u218 u219 u220 u221 u222 u223 u224 u225 u226 u227 u228 u229 u230 u231 u232 u233 u234 u235 u236 u237 u238 u239 u240 u241 u242 u243 u244 u245 u246 u247 u248 u249 u250 u251 u252 u253 u254 u255 u256 u257 u258 u259 u260 u261 u262 u263 u264 u265 u266 u267 u268 u269 u270 u271 u272 u273 u274 u275 u276 u277 u278 u279 u280 u281 : Value} {c : C.Sys} {a1 ak : Option Addr} {c1 bw bk ok mk ck ck2 day : Nat} (wx : World) (QX : Exit → Act → World → Prop) (hQ : ∀ c a d v w, QX (.panic c) (a.put d v) w → QX (.panic c) a w) (hb : (∀ o, wx.cell? ⟨bw, o, none⟩ = (sysV c (.slice a1 c.loads.length c1) : Array Value)[o]?) ∧ bw < wx.heap.size) (x3 : wx.cell? ⟨bk, ok + day * 3 + 2, none⟩ = some (.slice ak c.loads.length ck2)) (xb : bk < wx.heap.size) (hdk : day < mk)
    (h : ∀ (v206 v207 v208 v209 v210 v211 v212 v213 v214 v215 v216 v217 v218 v219 v220 v221 v222 : Value)  (w9 : World), Ext wx w9 →  QX .normal ⟨List.toArray (u0 :: u1 :: u2 :: u3 :: .int .i64 (day : Int) :: .pointer (some ⟨bw, 0, none⟩) :: u6 :: u7 :: u8 :: u9 :: u10 :: .slice (some ⟨bk, ok, none⟩) mk ck :: u12 :: u13 :: .bool true :: .bool true :: u16 :: u17 :: u18 :: u19 :: u20 :: u21 :: u22 :: u23 :: u24 :: u25 :: u26 :: u27 :: u28 :: u29 :: u30 :: u31 :: u32 :: u33 :: u34 :: u35 :: u36 :: u37 :: u38 :: u39 :: u40 :: u41 :: u42 :: u43 :: u44 :: u45 :: u46 :: u47 :: u48 :: u49 :: u50 :: u51 :: u52 :: u53 :: u54 :: u55 :: u56 :: u57 :: u58 :: u59 :: u60 :: u61 :: u62 :: u63 :: u64 :: u65 :: u66 :: u67 :: u68 :: u69 :: u70 :: u71 :: u72 :: u73 :: u74 :: u75 :: u76 :: u77 :: u78 :: u79 :: u80 :: u81 :: u82 :: u83 :: u84 :: u85 :: u86 :: u87 :: u88 :: u89 :: u90 :: u91 :: u92 :: u93 :: u94 :: u95 :: u96 :: u97 :: u98 :: u99 :: u100 :: u101 :: u102 :: u103 :: u104 :: u105 :: u106 :: u107 :: u108 :: u109 :: u110 :: u111 :: u112 :: u113 :: u114 :: u115 :: u116 :: u117 :: u118 :: u119 :: u120 :: u121 :: u122 :: u123 :: u124 :: u125 :: u126 :: u127 :: u128 :: u129 :: u130 :: u131 :: u132 :: u133 :: u134 :: u135 :: u136 :: u137 :: u138 :: u139 :: u140 :: u141 :: u142 :: u143 :: u144 :: u145 :: u146 :: u147 :: u148 :: u149 :: u150 :: u151 :: u152 :: u153 :: u154 :: u155 :: u156 :: u157 :: u158 :: u159 :: u160 :: u161 :: u162 :: u163 :: u164 :: u165 :: u166 :: u167 :: u168 :: u169 :: u170 :: u171 :: u172 :: u173 :: u174 :: u175 :: u176 :: u177 :: u178 :: u179 :: u180 :: u181 :: u182 :: u183 :: u184 :: u185 :: u186 :: u187 :: u188 :: u189 :: u190 :: u191 :: u192 :: u193 :: u194 :: u195 :: u196 :: u197 :: u198 :: u199 :: u200 :: u201 :: u202 :: u203 :: u204 :: u205 :: v206 :: v207 :: v208 :: v209 :: v210 :: v211 :: v212 :: v213 :: v214 :: v215 :: v216 :: v217 :: v218 :: v219 :: v220 :: v221 :: v222 :: .bool false :: u224 :: u225 :: u226 :: u227 :: u228 :: u229 :: u230 :: u231 :: u232 :: u233 :: u234 :: u235 :: u236 :: u237 :: u238 :: u239 :: u240 :: u241 :: u242 :: u243 :: u244 :: u245 :: u246 :: u247 :: u248 :: u249 :: u250 :: u251 :: u252 :: u253 :: u254 :: u255 :: u256 :: u257 :: u258 :: u259 :: u260 :: u261 :: u262 :: u263 :: u264 :: u265 :: u266 :: u267 :: u268 :: u269 :: u270 :: u271 :: u272 :: u273 :: u274 :: u275 :: u276 :: u277 :: u278 :: u279 :: u280 :: u281 :: []), []⟩ w9) :
    Code.wp Try.prog (shpR 23) QX ⟨List.toArray (u0 :: u1 :: u2 :: u3 :: .int .i64 (day : Int) :: .pointer (some ⟨bw, 0, none⟩) :: u6 :: u7 :: u8 :: u9 :: u10 :: .slice (some ⟨bk, ok, none⟩) mk ck :: u12 :: u13 :: .bool true :: .bool true :: u16 :: u17 :: u18 :: u19 :: u20 :: u21 :: u22 :: u23 :: u24 :: u25 :: u26 :: u27 :: u28 :: u29 :: u30 :: u31 :: u32 :: u33 :: u34 :: u35 :: u36 :: u37 :: u38 :: u39 :: u40 :: u41 :: u42 :: u43 :: u44 :: u45 :: u46 :: u47 :: u48 :: u49 :: u50 :: u51 :: u52 :: u53 :: u54 :: u55 :: u56 :: u57 :: u58 :: u59 :: u60 :: u61 :: u62 :: u63 :: u64 :: u65 :: u66 :: u67 :: u68 :: u69 :: u70 :: u71 :: u72 :: u73 :: u74 :: u75 :: u76 :: u77 :: u78 :: u79 :: u80 :: u81 :: u82 :: u83 :: u84 :: u85 :: u86 :: u87 :: u88 :: u89 :: u90 :: u91 :: u92 :: u93 :: u94 :: u95 :: u96 :: u97 :: u98 :: u99 :: u100 :: u101 :: u102 :: u103 :: u104 :: u105 :: u106 :: u107 :: u108 :: u109 :: u110 :: u111 :: u112 :: u113 :: u114 :: u115 :: u116 :: u117 :: u118 :: u119 :: u120 :: u121 :: u122 :: u123 :: u124 :: u125 :: u126 :: u127 :: u128 :: u129 :: u130 :: u131 :: u132 :: u133 :: u134 :: u135 :: u136 :: u137 :: u138 :: u139 :: u140 :: u141 :: u142 :: u143 :: u144 :: u145 :: u146 :: u147 :: u148 :: u149 :: u150 :: u151 :: u152 :: u153 :: u154 :: u155 :: u156 :: u157 :: u158 :: u159 :: u160 :: u161 :: u162 :: u163 :: u164 :: u165 :: u166 :: u167 :: u168 :: u169 :: u170 :: u171 :: u172 :: u173 :: u174 :: u175 :: u176 :: u177 :: u178 :: u179 :: u180 :: u181 :: u182 :: u183 :: u184 :: u185 :: u186 :: u187 :: u188 :: u189 :: u190 :: u191 :: u192 :: u193 :: u194 :: u195 :: u196 :: u197 :: u198 :: u199 :: u200 :: u201 :: u202 :: u203 :: u204 :: u205 :: u206 :: u207 :: u208 :: u209 :: u210 :: u211 :: u212 :: u213 :: u214 :: u215 :: u216 :: u217 :: u218 :: u219 :: u220 :: u221 :: u222 :: u223 :: u224 :: u225 :: u226 :: u227 :: u228 :: u229 :: u230 :: u231 :: u232 :: u233 :: u234 :: u235 :: u236 :: u237 :: u238 :: u239 :: u240 :: u241 :: u242 :: u243 :: u244 :: u245 :: u246 :: u247 :: u248 :: u249 :: u250 :: u251 :: u252 :: u253 :: u254 :: u255 :: u256 :: u257 :: u258 :: u259 :: u260 :: u261 :: u262 :: u263 :: u264 :: u265 :: u266 :: u267 :: u268 :: u269 :: u270 :: u271 :: u272 :: u273 :: u274 :: u275 :: u276 :: u277 :: u278 :: u279 :: u280 :: u281 :: []), []⟩ wx := by
  have HH := Lib.hid h
  clear h
  unfold shpR
  conv => arg 2; whnf
  obtain ⟨k0, l0⟩ := hb
  have hpc := plus_cell
  have hne : ((c.loads.length : Int) != (c.loads.length : Int)) = false := by simp
  refine wp_region_ext 18 hQ (by kernel_rfl) (by kernel_rfl) (by kernel_rfl) (by kernel_rfl) ?_
  (try simp only [List.append_eq, List.cons_append, List.nil_append])
  simp only [List.take_succ_cons, List.take_zero, List.drop_succ_cons, List.drop_zero]
  repeat (any_goals (first | go_big_quiet_step (fail) | quiet_step (fail)))
  all_goals (refine wpQuiet_nil ?_; intro w9 hEw9)
  unfold wpList
  exact HH.out _ _ _ _ _ _ _ _ _ _ _ _ _ _ _ _ _ w9 hEw9
set_option maxRecDepth 1000000 in
set_option maxHeartbeats 64000000 in
theorem shp_reg29 {u0 u1 u2 u3 u4 u5 u6 u7 u8 u9 u10 u11 u12 u13 u14 u15 u16 u19 u20 u21 u22 u23 u26 u27 u28 u29 u30 u31 u32 u33 u34 u35 u36 u37 u38 u39 u40 u41 u42 u43 u44 u45 u46 u47 u48 u49 u50 u51 u52 u53 u54 u55 u56 u57 u58 u59 u60 u61 u62 u63 u64 u65 u66 u67 u68 u69 u70 u71 u72 u73 u74 u75 u76 u77 u78 u79 u80 u81 u82 u83 u84 u85 u86 u87 u88 u89 u90 u91 u92 u93 u94 u95 u96 u97 u98 u99 u100 u101 u102 u103 u104 u105 u106 u107 u108 u109 u110 u111 u112 u113 u114 u115 u116 u117 u118 u119 u120 u121 u122 u123 u124 u125 u126 u127 u128 u129 u130 u131 u132 u133 u134 u135 u136 u137 u138 u139 u140 u141 u142 u143 u144 u145 u146 u147 u148 u149 u150 u151 u152 u153 u154 u155 u156 u157 u158 u159 u160 u161 u162 u163 u164 u165 u166 u167 u168 u169 u170 u171 u172 u173 u174 u175 u176 u177 u178 u179 u180 u181 u182 u183 u184 u185 u186 u187 u188 u189 u190 u191 u192 u193 u194 u195 u196 u197 u198 u199 u200 u201 u202 u203 u204 u205 u206 u207 u208 u209 u210 u211 u212 u213 u214 u215 u216 u217 u218 u219 u220 u221 u222 u223 u224 u225 u226 u227 u228 u229 u230 u231 u232 u233 u234 u235 u236 u237 u238 u239 u240 u241 u242 u243 u244 u245 u246 u247 u248 u249 u250 u251 u252 u253 u254 u255 u256 u257 u258 u259 u260 u261 u262 u263 u264 u265 u266 u267 u268 u269 u270 u271 u272 u273 u274 u275 u276 u277 u278 u279 u280 u281 : Value} {gy gn n j : Nat} {wd : Int} {y z : Bool} (wx : World) (QX : Exit → Act → World → Prop) (hQ : ∀ c a d v w, QX (.panic c) (a.put d v) w → QX (.panic c) a w) (y1 : wx.cell? ⟨gy, j, none⟩ = some (.bool y)) (yb : gy < wx.heap.size) (z1 : wx.cell? ⟨gn, j, none⟩ = some (.bool z)) (zb : gn < wx.heap.size) (hj : j < n) (h3 : wd = if y then (if z then 2 else 3) else 1)
    (h : ∀ (v239 v240 v241 v242 v243 v244 v245 v246 v247 v248 v249 v250 v251 v252 v253 v254 v255 v256 v257 v258 v259 v260 v261 v262 v263 v264 v265 v266 v267 v268 v269 v270 v271 v272 v273 v274 v275 v276 v277 v278 v279 : Value)  (w9 : World), Ext wx w9 →  QX .normal ⟨List.toArray (u0 :: u1 :: u2 :: u3 :: u4 :: u5 :: u6 :: u7 :: u8 :: u9 :: u10 :: u11 :: u12 :: u13 :: u14 :: u15 :: u16 :: .slice (some ⟨gy, 0, none⟩) n n :: .slice (some ⟨gn, 0, none⟩) n n :: u19 :: u20 :: u21 :: u22 :: u23 :: .int .i64 (j : Int) :: .int .i64 wd :: u26 :: u27 :: u28 :: u29 :: u30 :: u31 :: u32 :: u33 :: u34 :: u35 :: u36 :: u37 :: u38 :: u39 :: u40 :: u41 :: u42 :: u43 :: u44 :: u45 :: u46 :: u47 :: u48 :: u49 :: u50 :: u51 :: u52 :: u53 :: u54 :: u55 :: u56 :: u57 :: u58 :: u59 :: u60 :: u61 :: u62 :: u63 :: u64 :: u65 :: u66 :: u67 :: u68 :: u69 :: u70 :: u71 :: u72 :: u73 :: u74 :: u75 :: u76 :: u77 :: u78 :: u79 :: u80 :: u81 :: u82 :: u83 :: u84 :: u85 :: u86 :: u87 :: u88 :: u89 :: u90 :: u91 :: u92 :: u93 :: u94 :: u95 :: u96 :: u97 :: u98 :: u99 :: u100 :: u101 :: u102 :: u103 :: u104 :: u105 :: u106 :: u107 :: u108 :: u109 :: u110 :: u111 :: u112 :: u113 :: u114 :: u115 :: u116 :: u117 :: u118 :: u119 :: u120 :: u121 :: u122 :: u123 :: u124 :: u125 :: u126 :: u127 :: u128 :: u129 :: u130 :: u131 :: u132 :: u133 :: u134 :: u135 :: u136 :: u137 :: u138 :: u139 :: u140 :: u141 :: u142 :: u143 :: u144 :: u145 :: u146 :: u147 :: u148 :: u149 :: u150 :: u151 :: u152 :: u153 :: u154 :: u155 :: u156 :: u157 :: u158 :: u159 :: u160 :: u161 :: u162 :: u163 :: u164 :: u165 :: u166 :: u167 :: u168 :: u169 :: u170 :: u171 :: u172 :: u173 :: u174 :: u175 :: u176 :: u177 :: u178 :: u179 :: u180 :: u181 :: u182 :: u183 :: u184 :: u185 :: u186 :: u187 :: u188 :: u189 :: u190 :: u191 :: u192 :: u193 :: u194 :: u195 :: u196 :: u197 :: u198 :: u199 :: u200 :: u201 :: u202 :: u203 :: u204 :: u205 :: u206 :: u207 :: u208 :: u209 :: u210 :: u211 :: u212 :: u213 :: u214 :: u215 :: u216 :: u217 :: u218 :: u219 :: u220 :: u221 :: u222 :: u223 :: u224 :: u225 :: u226 :: u227 :: u228 :: u229 :: u230 :: u231 :: u232 :: u233 :: u234 :: u235 :: u236 :: u237 :: u238 :: v239 :: v240 :: v241 :: v242 :: v243 :: v244 :: v245 :: v246 :: v247 :: v248 :: v249 :: v250 :: v251 :: v252 :: v253 :: v254 :: v255 :: v256 :: v257 :: v258 :: v259 :: v260 :: v261 :: v262 :: v263 :: v264 :: v265 :: v266 :: v267 :: v268 :: v269 :: v270 :: v271 :: v272 :: v273 :: v274 :: v275 :: v276 :: v277 :: v278 :: v279 :: .bool false :: u281 :: []), []⟩ w9) :
    Code.wp Try.prog (shpR 29) QX ⟨List.toArray (u0 :: u1 :: u2 :: u3 :: u4 :: u5 :: u6 :: u7 :: u8 :: u9 :: u10 :: u11 :: u12 :: u13 :: u14 :: u15 :: u16 :: .slice (some ⟨gy, 0, none⟩) n n :: .slice (some ⟨gn, 0, none⟩) n n :: u19 :: u20 :: u21 :: u22 :: u23 :: .int .i64 (j : Int) :: .int .i64 wd :: u26 :: u27 :: u28 :: u29 :: u30 :: u31 :: u32 :: u33 :: u34 :: u35 :: u36 :: u37 :: u38 :: u39 :: u40 :: u41 :: u42 :: u43 :: u44 :: u45 :: u46 :: u47 :: u48 :: u49 :: u50 :: u51 :: u52 :: u53 :: u54 :: u55 :: u56 :: u57 :: u58 :: u59 :: u60 :: u61 :: u62 :: u63 :: u64 :: u65 :: u66 :: u67 :: u68 :: u69 :: u70 :: u71 :: u72 :: u73 :: u74 :: u75 :: u76 :: u77 :: u78 :: u79 :: u80 :: u81 :: u82 :: u83 :: u84 :: u85 :: u86 :: u87 :: u88 :: u89 :: u90 :: u91 :: u92 :: u93 :: u94 :: u95 :: u96 :: u97 :: u98 :: u99 :: u100 :: u101 :: u102 :: u103 :: u104 :: u105 :: u106 :: u107 :: u108 :: u109 :: u110 :: u111 :: u112 :: u113 :: u114 :: u115 :: u116 :: u117 :: u118 :: u119 :: u120 :: u121 :: u122 :: u123 :: u124 :: u125 :: u126 :: u127 :: u128 :: u129 :: u130 :: u131 :: u132 :: u133 :: u134 :: u135 :: u136 :: u137 :: u138 :: u139 :: u140 :: u141 :: u142 :: u143 :: u144 :: u145 :: u146 :: u147 :: u148 :: u149 :: u150 :: u151 :: u152 :: u153 :: u154 :: u155 :: u156 :: u157 :: u158 :: u159 :: u160 :: u161 :: u162 :: u163 :: u164 :: u165 :: u166 :: u167 :: u168 :: u169 :: u170 :: u171 :: u172 :: u173 :: u174 :: u175 :: u176 :: u177 :: u178 :: u179 :: u180 :: u181 :: u182 :: u183 :: u184 :: u185 :: u186 :: u187 :: u188 :: u189 :: u190 :: u191 :: u192 :: u193 :: u194 :: u195 :: u196 :: u197 :: u198 :: u199 :: u200 :: u201 :: u202 :: u203 :: u204 :: u205 :: u206 :: u207 :: u208 :: u209 :: u210 :: u211 :: u212 :: u213 :: u214 :: u215 :: u216 :: u217 :: u218 :: u219 :: u220 :: u221 :: u222 :: u223 :: u224 :: u225 :: u226 :: u227 :: u228 :: u229 :: u230 :: u231 :: u232 :: u233 :: u234 :: u235 :: u236 :: u237 :: u238 :: u239 :: u240 :: u241 :: u242 :: u243 :: u244 :: u245 :: u246 :: u247 :: u248 :: u249 :: u250 :: u251 :: u252 :: u253 :: u254 :: u255 :: u256 :: u257 :: u258 :: u259 :: u260 :: u261 :: u262 :: u263 :: u264 :: u265 :: u266 :: u267 :: u268 :: u269 :: u270 :: u271 :: u272 :: u273 :: u274 :: u275 :: u276 :: u277 :: u278 :: u279 :: u280 :: u281 :: []), []⟩ wx := by
  have HH := Lib.hid h
  clear h
  unfold shpR
  conv => arg 2; whnf
  cases y with
  | false =>
    cases z with
    | false =>
      obtain rfl : wd = 1 := h3
      clear hQ
      go_wp2
      exact HH.out _ _ _ _ _ _ _ _ _ _ _ _ _ _ _ _ _ _ _ _ _ _ _ _ _ _ _ _ _ _ _ _ _ _ _ _ _ _ _ _ _ wx (Ext.refl _)
    | true =>
      obtain rfl : wd = 1 := h3
      clear hQ
      go_wp2
      exact HH.out _ _ _ _ _ _ _ _ _ _ _ _ _ _ _ _ _ _ _ _ _ _ _ _ _ _ _ _ _ _ _ _ _ _ _ _ _ _ _ _ _ wx (Ext.refl _)
  | true =>
    cases z with
    | false =>
      obtain rfl : wd = 3 := h3
      clear hQ
      go_wp2
      exact HH.out _ _ _ _ _ _ _ _ _ _ _ _ _ _ _ _ _ _ _ _ _ _ _ _ _ _ _ _ _ _ _ _ _ _ _ _ _ _ _ _ _ wx (Ext.refl _)
    | true =>
      obtain rfl : wd = 2 := h3
      clear hQ
      go_wp2
      exact HH.out _ _ _ _ _ _ _ _ _ _ _ _ _ _ _ _ _ _ _ _ _ _ _ _ _ _ _ _ _ _ _ _ _ _ _ _ _ _ _ _ _ wx (Ext.refl _)
set_option maxRecDepth 1000000 in
set_option maxHeartbeats 64000000 in
theorem shp_reg11 {u0 u3 u4 u6 u7 u8 u9 u10 u11 u12 u14 u15 u16 u17 u18 u20 u21 u22 u23 u24 u25 u26 u27 u28 u29 u30 u31 u32 u33 u34 u35 u36 u37 u38 u39 u40 u41 u42 u43 u44 u45 u46 u47 u48 u49 u50 u51 u52 u53 u54 u55 u56 u57 u58 u59 u60 u61 u62 u63 u64 u65 u66 u67 u68 u69 u70 u71 u72 u73 u74 u75 u76 u77 u78 u79 u80 u81 u82 u83 u84 u85 u86 u87 u88 u89 u90 u91 u92 u93 u94 u95 u96 u97 u98 u99 u100 u101 u102 u103 u104 u105 u106 u107 u108 u109 u110 u111 u112 u113 u114 u115 u116 u117 u118 u119 u120 u121 u122 u123 u124 u125 u126 u127 u128 u129 u130 u131 u132 u133 u134 u135 u136 u137 u138 u139 u140 u141 u142 u143 u144 u145 u146 u147 u148 u149 u150 u151 u152 u153 u154 u155 u156 u157 u158 u159 u160 u161 u162 u163 u164 u165 u166 u167 u168 u169 u170 u171 u172 u173 u174 u175 u176 u177 u178 u179 u180 u181 u182 u183 u184 u185 u186 u187 u188 u189 u190 u191 u192 u193 u194 u195 u196 u197 u198 u199 u200 u201 u202 u203 u204 u205 u206 u207 u208 u209 u210 u211 u212 u213 u214 u215 u216 u217 u218 u219 u220 u221 u222 u223 u224 u225 u226 u227 u228 u229 u230 u231 u232 u233 u234 u235 u236 u237 u238 u239 u240 u241 u242 u243 u244 u245 u246 u247 u248 u249 u250 u251 u252 u253 u254 u255 u256 u257 u258 u259 u260 u261 u262 u263 u264 u265 u266 u267 u268 u269 u270 u271 u272 u273 u274 u275 u276 u277 u278 u279 u280 u281 : Value} {c : C.Sys} {a1 : Option Addr} {c1 bw : Nat} {w : World} {p b : Int} {bt ot M ct k : Nat} {tx : ByteArray} {days : List C.Day} (wx : World) (QX : Exit → Act → World → Prop) (hQ : ∀ c a d v w, QX (.panic c) (a.put d v) w → QX (.panic c) a w) (hb : (∀ o, wx.cell? ⟨bw, o, none⟩ = (sysV c (.slice a1 c.loads.length c1) : Array Value)[o]?) ∧ bw < wx.heap.size) (n0 : wx.cell? ⟨bt, ot + k, none⟩ = some (.string tx)) (mb : bt < wx.heap.size) (hkM : k < M) (HPL : Hid (∀ w', Ext w w' → Calls Try.prog 17 #[.agg (sysV c (.slice a1 c.loads.length c1)), .int .i64 p, .int .i64 b, .int .i64 0, .string tx] w' fun e w2 => ∃ v l1 l2 l3 l4 l5 l6, e = .returned (.tuple #[v, .agg #[.int .i64 l1, .int .i64 l2, .int .i64 l3, .int .i64 l4, .int .i64 l5, .int .i64 l6], .int .i64 0]) ∧ Days w2 v days ∧ Ext w' w2 ∧ ∀ j, v.ownBlock = some j → w'.heap.size ≤ j)) (hEwx : Ext w wx)
    (h : ∀ (v21 v94 v95 v96 v97 v98 v99 v100 v101 v102 v103 v104 v105 : Value) (ad : Option Addr) (cd : Nat) (w9 : World), Ext wx w9 → Days w9 (.slice ad days.length cd) days → (∀ j, (Value.slice ad days.length cd).ownBlock = some j → wx.heap.size ≤ j) → QX .normal ⟨List.toArray (u0 :: .int .i64 p :: .int .i64 b :: u3 :: u4 :: .pointer (some ⟨bw, 0, none⟩) :: u6 :: u7 :: u8 :: u9 :: u10 :: u11 :: u12 :: .slice (some ⟨bt, ot, none⟩) M ct :: u14 :: u15 :: u16 :: u17 :: u18 :: .int .i64 (k : Int) :: .slice ad days.length cd :: v21 :: .int .i64 0 :: u23 :: u24 :: u25 :: u26 :: u27 :: u28 :: u29 :: u30 :: u31 :: u32 :: u33 :: u34 :: u35 :: u36 :: u37 :: u38 :: u39 :: u40 :: u41 :: u42 :: u43 :: u44 :: u45 :: u46 :: u47 :: u48 :: u49 :: u50 :: u51 :: u52 :: u53 :: u54 :: u55 :: u56 :: u57 :: u58 :: u59 :: u60 :: u61 :: u62 :: u63 :: u64 :: u65 :: u66 :: u67 :: u68 :: u69 :: u70 :: u71 :: u72 :: u73 :: u74 :: u75 :: u76 :: u77 :: u78 :: u79 :: u80 :: u81 :: u82 :: u83 :: u84 :: u85 :: u86 :: u87 :: u88 :: u89 :: u90 :: u91 :: u92 :: u93 :: v94 :: v95 :: v96 :: v97 :: v98 :: v99 :: v100 :: v101 :: v102 :: v103 :: v104 :: v105 :: u106 :: u107 :: u108 :: u109 :: u110 :: u111 :: u112 :: u113 :: u114 :: u115 :: u116 :: u117 :: u118 :: u119 :: u120 :: u121 :: u122 :: u123 :: u124 :: u125 :: u126 :: u127 :: u128 :: u129 :: u130 :: u131 :: u132 :: u133 :: u134 :: u135 :: u136 :: u137 :: u138 :: u139 :: u140 :: u141 :: u142 :: u143 :: u144 :: u145 :: u146 :: u147 :: u148 :: u149 :: u150 :: u151 :: u152 :: u153 :: u154 :: u155 :: u156 :: u157 :: u158 :: u159 :: u160 :: u161 :: u162 :: u163 :: u164 :: u165 :: u166 :: u167 :: u168 :: u169 :: u170 :: u171 :: u172 :: u173 :: u174 :: u175 :: u176 :: u177 :: u178 :: u179 :: u180 :: u181 :: u182 :: u183 :: u184 :: u185 :: u186 :: u187 :: u188 :: u189 :: u190 :: u191 :: u192 :: u193 :: u194 :: u195 :: u196 :: u197 :: u198 :: u199 :: u200 :: u201 :: u202 :: u203 :: u204 :: u205 :: u206 :: u207 :: u208 :: u209 :: u210 :: u211 :: u212 :: u213 :: u214 :: u215 :: u216 :: u217 :: u218 :: u219 :: u220 :: u221 :: u222 :: u223 :: u224 :: u225 :: u226 :: u227 :: u228 :: u229 :: u230 :: u231 :: u232 :: u233 :: u234 :: u235 :: u236 :: u237 :: u238 :: u239 :: u240 :: u241 :: u242 :: u243 :: u244 :: u245 :: u246 :: u247 :: u248 :: u249 :: u250 :: u251 :: u252 :: u253 :: u254 :: u255 :: u256 :: u257 :: u258 :: u259 :: u260 :: u261 :: u262 :: u263 :: u264 :: u265 :: u266 :: u267 :: u268 :: u269 :: u270 :: u271 :: u272 :: u273 :: u274 :: u275 :: u276 :: u277 :: u278 :: u279 :: u280 :: u281 :: []), []⟩ w9) :
    Code.wp Try.prog (shpR 11) QX ⟨List.toArray (u0 :: .int .i64 p :: .int .i64 b :: u3 :: u4 :: .pointer (some ⟨bw, 0, none⟩) :: u6 :: u7 :: u8 :: u9 :: u10 :: u11 :: u12 :: .slice (some ⟨bt, ot, none⟩) M ct :: u14 :: u15 :: u16 :: u17 :: u18 :: .int .i64 (k : Int) :: u20 :: u21 :: u22 :: u23 :: u24 :: u25 :: u26 :: u27 :: u28 :: u29 :: u30 :: u31 :: u32 :: u33 :: u34 :: u35 :: u36 :: u37 :: u38 :: u39 :: u40 :: u41 :: u42 :: u43 :: u44 :: u45 :: u46 :: u47 :: u48 :: u49 :: u50 :: u51 :: u52 :: u53 :: u54 :: u55 :: u56 :: u57 :: u58 :: u59 :: u60 :: u61 :: u62 :: u63 :: u64 :: u65 :: u66 :: u67 :: u68 :: u69 :: u70 :: u71 :: u72 :: u73 :: u74 :: u75 :: u76 :: u77 :: u78 :: u79 :: u80 :: u81 :: u82 :: u83 :: u84 :: u85 :: u86 :: u87 :: u88 :: u89 :: u90 :: u91 :: u92 :: u93 :: u94 :: u95 :: u96 :: u97 :: u98 :: u99 :: u100 :: u101 :: u102 :: u103 :: u104 :: u105 :: u106 :: u107 :: u108 :: u109 :: u110 :: u111 :: u112 :: u113 :: u114 :: u115 :: u116 :: u117 :: u118 :: u119 :: u120 :: u121 :: u122 :: u123 :: u124 :: u125 :: u126 :: u127 :: u128 :: u129 :: u130 :: u131 :: u132 :: u133 :: u134 :: u135 :: u136 :: u137 :: u138 :: u139 :: u140 :: u141 :: u142 :: u143 :: u144 :: u145 :: u146 :: u147 :: u148 :: u149 :: u150 :: u151 :: u152 :: u153 :: u154 :: u155 :: u156 :: u157 :: u158 :: u159 :: u160 :: u161 :: u162 :: u163 :: u164 :: u165 :: u166 :: u167 :: u168 :: u169 :: u170 :: u171 :: u172 :: u173 :: u174 :: u175 :: u176 :: u177 :: u178 :: u179 :: u180 :: u181 :: u182 :: u183 :: u184 :: u185 :: u186 :: u187 :: u188 :: u189 :: u190 :: u191 :: u192 :: u193 :: u194 :: u195 :: u196 :: u197 :: u198 :: u199 :: u200 :: u201 :: u202 :: u203 :: u204 :: u205 :: u206 :: u207 :: u208 :: u209 :: u210 :: u211 :: u212 :: u213 :: u214 :: u215 :: u216 :: u217 :: u218 :: u219 :: u220 :: u221 :: u222 :: u223 :: u224 :: u225 :: u226 :: u227 :: u228 :: u229 :: u230 :: u231 :: u232 :: u233 :: u234 :: u235 :: u236 :: u237 :: u238 :: u239 :: u240 :: u241 :: u242 :: u243 :: u244 :: u245 :: u246 :: u247 :: u248 :: u249 :: u250 :: u251 :: u252 :: u253 :: u254 :: u255 :: u256 :: u257 :: u258 :: u259 :: u260 :: u261 :: u262 :: u263 :: u264 :: u265 :: u266 :: u267 :: u268 :: u269 :: u270 :: u271 :: u272 :: u273 :: u274 :: u275 :: u276 :: u277 :: u278 :: u279 :: u280 :: u281 :: []), []⟩ wx := by
  have HH := Lib.hid h
  clear h
  unfold shpR
  conv => arg 2; whnf
  have hpc := plus_cell
  obtain ⟨k0, l0⟩ := hb
  refine wp_region_late 7 (fun cc y => cc = false → (∀ o, y.cell? ⟨bw, o, none⟩ = (sysV c (.slice a1 c.loads.length c1) : Array Value)[o]?) ∧ y.cell? ⟨bt, ot + k, none⟩ = some (.string tx) ∧ bw < y.heap.size ∧ bt < y.heap.size) (by kernel_rfl) (fun hL => ?_)
  refine late_early (i := 0) (v := ?_) rfl (by kernel_rfl) (by kernel_rfl) (by kernel_rfl) (by decide) (by kernel_rfl) (fun _ _ _ h => hQ _ _ _ _ _ h) hL (Or.inl ⟨by rfl, ?_⟩) (fun _ => ⟨k0, n0, l0, mb⟩) (fun hL' => ?_)
  rotate_left
  · intro y hy; have hz := hy rfl; clear hy; obtain ⟨g1, g2, g3, g4⟩ := hz; go_simp; (try with_reducible rfl)
  clear hL; rename Shutb _ _ => hL
  (try simp only [Act.put, List.getElem_toArray, List.getElem_cons_zero, List.getElem_cons_succ, List.setIfInBounds_toArray, List.set_cons_zero, List.set_cons_succ])
  refine late_early (i := 1) (v := ?_) rfl (by kernel_rfl) (by kernel_rfl) (by kernel_rfl) (by decide) (by kernel_rfl) (fun _ _ _ h => hQ _ _ _ _ _ h) hL (Or.inl ⟨by rfl, ?_⟩) (fun _ => ⟨k0, n0, l0, mb⟩) (fun hL' => ?_)
  rotate_left
  · intro y hy; have hz := hy rfl; clear hy; obtain ⟨g1, g2, g3, g4⟩ := hz; go_simp; (try with_reducible rfl)
  clear hL; rename Shutb _ _ => hL
  (try simp only [Act.put, List.getElem_toArray, List.getElem_cons_zero, List.getElem_cons_succ, List.setIfInBounds_toArray, List.set_cons_zero, List.set_cons_succ])
  refine late_early (i := 2) (v := ?_) rfl (by kernel_rfl) (by kernel_rfl) (by kernel_rfl) (by decide) (by kernel_rfl) (fun _ _ _ h => hQ _ _ _ _ _ h) hL (Or.inl ⟨by rfl, ?_⟩) (fun _ => ⟨k0, n0, l0, mb⟩) (fun hL' => ?_)
  rotate_left
  · intro y hy; have hz := hy rfl; clear hy; obtain ⟨g1, g2, g3, g4⟩ := hz; go_simp; (try with_reducible rfl)
  clear hL; rename Shutb _ _ => hL
  (try simp only [Act.put, List.getElem_toArray, List.getElem_cons_zero, List.getElem_cons_succ, List.setIfInBounds_toArray, List.set_cons_zero, List.set_cons_succ])
  refine late_early (i := 3) (v := ?_) rfl (by kernel_rfl) (by kernel_rfl) (by kernel_rfl) (by decide) (by kernel_rfl) (fun _ _ _ h => hQ _ _ _ _ _ h) hL (Or.inl ⟨by rfl, ?_⟩) (fun _ => ⟨k0, n0, l0, mb⟩) (fun hL' => ?_)
  rotate_left
  · intro y hy; have hz := hy rfl; clear hy; obtain ⟨g1, g2, g3, g4⟩ := hz; go_simp; (try with_reducible rfl)
  clear hL; rename Shutb _ _ => hL
  (try simp only [Act.put, List.getElem_toArray, List.getElem_cons_zero, List.getElem_cons_succ, List.setIfInBounds_toArray, List.set_cons_zero, List.set_cons_succ])
  refine late_early (i := 4) (v := ?_) rfl (by kernel_rfl) (by kernel_rfl) (by kernel_rfl) (by decide) (by kernel_rfl) (fun _ _ _ h => hQ _ _ _ _ _ h) hL (Or.inl ⟨by rfl, ?_⟩) (fun _ => ⟨k0, n0, l0, mb⟩) (fun hL' => ?_)
  rotate_left
  · intro y hy; have hz := hy rfl; clear hy; obtain ⟨g1, g2, g3, g4⟩ := hz; go_simp; (try with_reducible rfl)
  clear hL; rename Shutb _ _ => hL
  (try simp only [Act.put, List.getElem_toArray, List.getElem_cons_zero, List.getElem_cons_succ, List.setIfInBounds_toArray, List.set_cons_zero, List.set_cons_succ])
  refine late_early (i := 5) (v := ?_) rfl (by kernel_rfl) (by kernel_rfl) (by kernel_rfl) (by decide) (by kernel_rfl) (fun _ _ _ h => hQ _ _ _ _ _ h) hL (Or.inl ⟨by rfl, ?_⟩) (fun _ => ⟨k0, n0, l0, mb⟩) (fun hL' => ?_)
  rotate_left
  · intro y hy; have hz := hy rfl; clear hy; obtain ⟨g1, g2, g3, g4⟩ := hz; go_simp; (try with_reducible rfl)
  clear hL; rename Shutb _ _ => hL
  (try simp only [Act.put, List.getElem_toArray, List.getElem_cons_zero, List.getElem_cons_succ, List.setIfInBounds_toArray, List.set_cons_zero, List.set_cons_succ])
  refine late_early (i := 6) (v := ?_) rfl (by kernel_rfl) (by kernel_rfl) (by kernel_rfl) (by decide) (by kernel_rfl) (fun _ _ _ h => hQ _ _ _ _ _ h) hL (Or.inl ⟨by rfl, ?_⟩) (fun _ => ⟨k0, n0, l0, mb⟩) (fun hL' => ?_)
  rotate_left
  · intro y hy; have hz := hy rfl; clear hy; obtain ⟨g1, g2, g3, g4⟩ := hz; go_simp; (try with_reducible rfl)
  clear hL; rename Shutb _ _ => hL
  (try simp only [Act.put, List.getElem_toArray, List.getElem_cons_zero, List.getElem_cons_succ, List.setIfInBounds_toArray, List.set_cons_zero, List.set_cons_succ])
  refine late_two (i := 7) (j := 12) (by kernel_rfl) hL (fun hL' => ?_) (fun hL' => ?_)
  · refine wpOp_step rfl (fun K hK0 => ?_)
    have hK : Shut _ := hK0
    clear hK0
    go_simp
    go_wp2_with (first | (go_at_call 17; refine (HPL.out _ (by (with_reducible (repeat (first | exact Ext.refl _ | assumption | apply Ext.alloc | apply Ext.drew | exact ext_plus _ _ | (apply Ext.setCell; rotate_left; (simp <;> omega)) | (apply Ext.trans; rotate_left; exact ext_plus _ _) | (apply Ext.trans; rotate_left; assumption)))))).mono ?_; rintro e wq ⟨v9, g0, g1, g2, g3, g4, g5, rfl, hDv, hER, hOB⟩))
    refine hK.out _ _ ⟨fun e => absurd (e : true = false) (by decide), ?_⟩
    clear hK K; clear hL; rename Shutb _ _ => hL
    (try simp only [Act.put, List.getElem_toArray, List.getElem_cons_zero, List.getElem_cons_succ, List.setIfInBounds_toArray, List.set_cons_zero, List.set_cons_succ])
    refine late_late (i := 8) (v := ?_) rfl (by kernel_rfl) (by kernel_rfl) (by kernel_rfl) (by decide) (fun _ _ => fun e => absurd (e : true = false) (by decide)) (fun _ _ _ h => hQ _ _ _ _ _ h) hL (Or.inl ⟨by rfl, ?_⟩) (fun e => absurd (e : true = false) (by decide)) (fun hL' => ?_)
    rotate_left
    · intro y hy; clear hy; go_simp; (try with_reducible rfl)
    clear hL; rename Shutb _ _ => hL
    (try simp only [Act.put, List.getElem_toArray, List.getElem_cons_zero, List.getElem_cons_succ, List.setIfInBounds_toArray, List.set_cons_zero, List.set_cons_succ])
    refine late_late (i := 9) (v := ?_) rfl (by kernel_rfl) (by kernel_rfl) (by kernel_rfl) (by decide) (fun _ _ => fun e => absurd (e : true = false) (by decide)) (fun _ _ _ h => hQ _ _ _ _ _ h) hL (Or.inl ⟨by rfl, ?_⟩) (fun e => absurd (e : true = false) (by decide)) (fun hL' => ?_)
    rotate_left
    · intro y hy; clear hy; go_simp; (try with_reducible rfl)
    clear hL; rename Shutb _ _ => hL
    (try simp only [Act.put, List.getElem_toArray, List.getElem_cons_zero, List.getElem_cons_succ, List.setIfInBounds_toArray, List.set_cons_zero, List.set_cons_succ])
    refine late_late (i := 10) (v := ?_) rfl (by kernel_rfl) (by kernel_rfl) (by kernel_rfl) (by decide) (fun _ _ => fun e => absurd (e : true = false) (by decide)) (fun _ _ _ h => hQ _ _ _ _ _ h) hL (Or.inl ⟨by rfl, ?_⟩) (fun e => absurd (e : true = false) (by decide)) (fun hL' => ?_)
    rotate_left
    · intro y hy; clear hy; go_simp; (try with_reducible rfl)
    clear hL; rename Shutb _ _ => hL
    (try simp only [Act.put, List.getElem_toArray, List.getElem_cons_zero, List.getElem_cons_succ, List.setIfInBounds_toArray, List.set_cons_zero, List.set_cons_succ])
    refine late_late (i := 11) (v := ?_) rfl (by kernel_rfl) (by kernel_rfl) (by kernel_rfl) (by decide) (fun _ _ => fun e => absurd (e : true = false) (by decide)) (fun _ _ _ h => hQ _ _ _ _ _ h) hL (Or.inl ⟨by rfl, ?_⟩) (fun e => absurd (e : true = false) (by decide)) (fun hL' => ?_)
    rotate_left
    · intro y hy; clear hy; go_simp; (try with_reducible rfl)
    clear hL; rename Shutb _ _ => hL
    (try simp only [Act.put, List.getElem_toArray, List.getElem_cons_zero, List.getElem_cons_succ, List.setIfInBounds_toArray, List.set_cons_zero, List.set_cons_succ])
    refine late_one (i := 12) (by kernel_rfl) hL (fun hL' => ?_)
    refine wpOp_step rfl (fun K hK0 => ?_)
    have hK : Shut _ := hK0
    clear hK0
    go_simp
    obtain ⟨wz, hwz⟩ : ∃ wz, wq.alloc (.cells #[.int .i64 0, .int .i64 0, .int .i64 0, .int .i64 0, .int .i64 0, .int .i64 0] 29) = wz := ⟨_, rfl⟩
    have hZ : Blk wz wq.heap.size #[.int .i64 0, .int .i64 0, .int .i64 0, .int .i64 0, .int .i64 0, .int .i64 0] 29 := by rw [← hwz]; exact Blk.new wq _ _
    have hEz : Ext wq wz := by rw [← hwz]; exact (Ext.refl _).alloc _
    rw [hwz]
    clear hwz
    refine hK.out _ _ ⟨fun e => absurd (e : true = false) (by decide), ?_⟩
    clear hK K; clear hL; rename Shutb _ _ => hL
    (try simp only [Act.put, List.getElem_toArray, List.getElem_cons_zero, List.getElem_cons_succ, List.setIfInBounds_toArray, List.set_cons_zero, List.set_cons_succ])
    refine late_one (i := 13) (by kernel_rfl) hL (fun hL' => ?_)
    refine wpOp_step rfl (fun K hK0 => ?_)
    have hK : Shut _ := hK0
    clear hK0
    go_simp
    refine hK.out _ _ ⟨fun e => absurd (e : true = false) (by decide), ?_⟩
    clear hK K; clear hL; rename Shutb _ _ => hL
    (try simp only [Act.put, List.getElem_toArray, List.getElem_cons_zero, List.getElem_cons_succ, List.setIfInBounds_toArray, List.set_cons_zero, List.set_cons_succ])
    refine late_one (i := 14) (by kernel_rfl) hL (fun hL' => ?_)
    refine wpOp_step rfl (fun K hK0 => ?_)
    have hK : Shut _ := hK0
    clear hK0
    refine wp_store_mid 29 _ _ rfl (wq.heap.size) 0 #[.int .i64 g0, .int .i64 g1, .int .i64 g2, .int .i64 g3, .int .i64 g4, .int .i64 g5] rfl rfl (there_of hZ (by simp)) (by kernel_rfl) (by first | rfl | (simp; done) | (simp; exact ⟨rfl, rfl, rfl, rfl, rfl, rfl⟩) | simp [Value.oneCell']) ?_
    refine hK.out _ _ ⟨fun e => absurd (e : true = false) (by decide), ?_⟩
    clear hK K; clear hL; rename Shutb _ _ => hL
    (try simp only [Act.put, List.getElem_toArray, List.getElem_cons_zero, List.getElem_cons_succ, List.setIfInBounds_toArray, List.set_cons_zero, List.set_cons_succ])
    refine late_one (i := 15) (by kernel_rfl) hL (fun hL' => ?_)
    refine wpOp_step rfl (fun K hK0 => ?_)
    have hK : Shut _ := hK0
    clear hK0
    go_simp
    refine hK.out _ _ ⟨fun e => absurd (e : true = false) (by decide), ?_⟩
    clear hK K; clear hL; rename Shutb _ _ => hL
    (try simp only [Act.put, List.getElem_toArray, List.getElem_cons_zero, List.getElem_cons_succ, List.setIfInBounds_toArray, List.set_cons_zero, List.set_cons_succ])
    refine late_done (by kernel_rfl) ?_
    (try dsimp only [Exit.then])
    obtain ⟨ad, cd, rfl, _⟩ := id hDv
    have hE19 : Ext wx (wz.setCells wq.heap.size 0 [.int .i64 g0, .int .i64 g1, .int .i64 g2, .int .i64 g3, .int .i64 g4, .int .i64 g5]) := ext_setCells (by have := hER.size; simpa using this) _ _ (((Ext.refl wx).drew.trans hER).trans hEz)
    have hD9 : Days (wz.setCells wq.heap.size 0 [.int .i64 g0, .int .i64 g1, .int .i64 g2, .int .i64 g3, .int .i64 g4, .int .i64 g5]) (.slice ad days.length cd) days := hDv.ext (ext_setCells (Nat.le_refl _) _ _ hEz)
    exact HH.out _ _ _ _ _ _ _ _ _ _ _ _ _ ad cd _ hE19 hD9 (fun j hj => by have := hOB j hj; simpa using this)
  · refine wpOp_step rfl (fun K hK0 => ?_)
    have hK : Shut _ := hK0
    clear hK0
    go_simp
    obtain ⟨wz, hwz⟩ : ∃ wz, (wx.alloc (.cells #[.int .i64 0, .int .i64 0, .int .i64 0, .int .i64 0, .int .i64 0, .int .i64 0] 29)).drew = wz := ⟨_, rfl⟩
    have hZ0 : Blk wz wx.heap.size #[.int .i64 0, .int .i64 0, .int .i64 0, .int .i64 0, .int .i64 0, .int .i64 0] 29 := by rw [← hwz]; exact (Blk.new wx _ _).drew
    have hEz : Ext wx wz := by rw [← hwz]; exact ((Ext.refl wx).alloc _).drew
    have hzs : wz.heap.size = wx.heap.size + 1 := by rw [← hwz, size_drew]; simp
    rw [hwz]
    clear hwz
    refine hK.out _ _ ⟨fun _ => ⟨(fun o => (hEz.cells.1 _ _ l0).trans (k0 o)), (hEz.cells.1 _ _ mb).trans n0, Nat.lt_of_lt_of_le l0 hEz.size, Nat.lt_of_lt_of_le mb hEz.size⟩, ?_⟩
    clear hK K; clear hL; rename Shutb _ _ => hL
    (try simp only [Act.put, List.getElem_toArray, List.getElem_cons_zero, List.getElem_cons_succ, List.setIfInBounds_toArray, List.set_cons_zero, List.set_cons_succ])
    refine late_one (i := 7) (by kernel_rfl) hL (fun hL' => ?_)
    refine wpOp_step rfl (fun K hK0 => ?_)
    have hK : Shut _ := hK0
    clear hK0
    go_simp
    go_wp2_with (first | (go_at_call 17; refine (HPL.out _ (by (with_reducible (repeat (first | exact Ext.refl _ | assumption | apply Ext.alloc | apply Ext.drew | exact ext_plus _ _ | (apply Ext.setCell; rotate_left; (simp <;> omega)) | (apply Ext.trans; rotate_left; exact ext_plus _ _) | (apply Ext.trans; rotate_left; assumption)))))).mono ?_; rintro e wq ⟨v9, g0, g1, g2, g3, g4, g5, rfl, hDv, hER, hOB⟩))
    refine hK.out _ _ ⟨fun e => absurd (e : true = false) (by decide), ?_⟩
    clear hK K; clear hL; rename Shutb _ _ => hL
    (try simp only [Act.put, List.getElem_toArray, List.getElem_cons_zero, List.getElem_cons_succ, List.setIfInBounds_toArray, List.set_cons_zero, List.set_cons_succ])
    refine late_late (i := 8) (v := ?_) rfl (by kernel_rfl) (by kernel_rfl) (by kernel_rfl) (by decide) (fun _ _ => fun e => absurd (e : true = false) (by decide)) (fun _ _ _ h => hQ _ _ _ _ _ h) hL (Or.inl ⟨by rfl, ?_⟩) (fun e => absurd (e : true = false) (by decide)) (fun hL' => ?_)
    rotate_left
    · intro y hy; clear hy; go_simp; (try with_reducible rfl)
    clear hL; rename Shutb _ _ => hL
    (try simp only [Act.put, List.getElem_toArray, List.getElem_cons_zero, List.getElem_cons_succ, List.setIfInBounds_toArray, List.set_cons_zero, List.set_cons_succ])
    refine late_late (i := 9) (v := ?_) rfl (by kernel_rfl) (by kernel_rfl) (by kernel_rfl) (by decide) (fun _ _ => fun e => absurd (e : true = false) (by decide)) (fun _ _ _ h => hQ _ _ _ _ _ h) hL (Or.inl ⟨by rfl, ?_⟩) (fun e => absurd (e : true = false) (by decide)) (fun hL' => ?_)
    rotate_left
    · intro y hy; clear hy; go_simp; (try with_reducible rfl)
    clear hL; rename Shutb _ _ => hL
    (try simp only [Act.put, List.getElem_toArray, List.getElem_cons_zero, List.getElem_cons_succ, List.setIfInBounds_toArray, List.set_cons_zero, List.set_cons_succ])
    refine late_late (i := 10) (v := ?_) rfl (by kernel_rfl) (by kernel_rfl) (by kernel_rfl) (by decide) (fun _ _ => fun e => absurd (e : true = false) (by decide)) (fun _ _ _ h => hQ _ _ _ _ _ h) hL (Or.inl ⟨by rfl, ?_⟩) (fun e => absurd (e : true = false) (by decide)) (fun hL' => ?_)
    rotate_left
    · intro y hy; clear hy; go_simp; (try with_reducible rfl)
    clear hL; rename Shutb _ _ => hL
    (try simp only [Act.put, List.getElem_toArray, List.getElem_cons_zero, List.getElem_cons_succ, List.setIfInBounds_toArray, List.set_cons_zero, List.set_cons_succ])
    refine late_late (i := 11) (v := ?_) rfl (by kernel_rfl) (by kernel_rfl) (by kernel_rfl) (by decide) (fun _ _ => fun e => absurd (e : true = false) (by decide)) (fun _ _ _ h => hQ _ _ _ _ _ h) hL (Or.inl ⟨by rfl, ?_⟩) (fun e => absurd (e : true = false) (by decide)) (fun hL' => ?_)
    rotate_left
    · intro y hy; clear hy; go_simp; (try with_reducible rfl)
    clear hL; rename Shutb _ _ => hL
    (try simp only [Act.put, List.getElem_toArray, List.getElem_cons_zero, List.getElem_cons_succ, List.setIfInBounds_toArray, List.set_cons_zero, List.set_cons_succ])
    have hZ := hZ0.ext hER
    refine late_one (i := 13) (by kernel_rfl) hL (fun hL' => ?_)
    refine wpOp_step rfl (fun K hK0 => ?_)
    have hK : Shut _ := hK0
    clear hK0
    go_simp
    refine hK.out _ _ ⟨fun e => absurd (e : true = false) (by decide), ?_⟩
    clear hK K; clear hL; rename Shutb _ _ => hL
    (try simp only [Act.put, List.getElem_toArray, List.getElem_cons_zero, List.getElem_cons_succ, List.setIfInBounds_toArray, List.set_cons_zero, List.set_cons_succ])
    refine late_one (i := 14) (by kernel_rfl) hL (fun hL' => ?_)
    refine wpOp_step rfl (fun K hK0 => ?_)
    have hK : Shut _ := hK0
    clear hK0
    refine wp_store_mid 29 _ _ rfl (wx.heap.size) 0 #[.int .i64 g0, .int .i64 g1, .int .i64 g2, .int .i64 g3, .int .i64 g4, .int .i64 g5] rfl rfl (there_of hZ (by simp)) (by kernel_rfl) (by first | rfl | (simp; done) | (simp; exact ⟨rfl, rfl, rfl, rfl, rfl, rfl⟩) | simp [Value.oneCell']) ?_
    refine hK.out _ _ ⟨fun e => absurd (e : true = false) (by decide), ?_⟩
    clear hK K; clear hL; rename Shutb _ _ => hL
    (try simp only [Act.put, List.getElem_toArray, List.getElem_cons_zero, List.getElem_cons_succ, List.setIfInBounds_toArray, List.set_cons_zero, List.set_cons_succ])
    refine late_one (i := 15) (by kernel_rfl) hL (fun hL' => ?_)
    refine wpOp_step rfl (fun K hK0 => ?_)
    have hK : Shut _ := hK0
    clear hK0
    go_simp
    refine hK.out _ _ ⟨fun e => absurd (e : true = false) (by decide), ?_⟩
    clear hK K; clear hL; rename Shutb _ _ => hL
    (try simp only [Act.put, List.getElem_toArray, List.getElem_cons_zero, List.getElem_cons_succ, List.setIfInBounds_toArray, List.set_cons_zero, List.set_cons_succ])
    refine late_done (by kernel_rfl) ?_
    (try dsimp only [Exit.then])
    obtain ⟨ad, cd, rfl, _⟩ := id hDv
    have hE19 : Ext wx (wq.setCells wx.heap.size 0 [.int .i64 g0, .int .i64 g1, .int .i64 g2, .int .i64 g3, .int .i64 g4, .int .i64 g5]) := ext_setCells (Nat.le_refl _) _ _ (hEz.trans hER)
    have hD9 : Days (wq.setCells wx.heap.size 0 [.int .i64 g0, .int .i64 g1, .int .i64 g2, .int .i64 g3, .int .i64 g4, .int .i64 g5]) (.slice ad days.length cd) days := days_setCells (n := wz.heap.size) hDv hOB (by omega)
    exact HH.out _ _ _ _ _ _ _ _ _ _ _ _ _ ad cd _ hE19 hD9 (fun j hj => by have := hOB j hj; omega)
end Go.Proofs.Ytkjoojmlcjmlgaa
