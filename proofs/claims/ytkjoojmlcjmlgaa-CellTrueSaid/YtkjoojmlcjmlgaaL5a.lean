/- The law CellTrue: what is known and what becomes, the loop over the days. -/
import Derived.Test.YtkjoojmlcjmlgaaK3
import Derived.Test.YtkjoojmlcjmlgaaPd
import Derived.Test.YtkjoojmlcjmlgaaLa
import Derived.Test.YtkjoojmlcjmlgaaTl
namespace Go.Proofs.Ytkjoojmlcjmlgaa
set_option linter.unusedVariables false
set_option linter.unusedSimpArgs false
open Go.RowKit
attribute [local go_sem] Oper.semAt_some
theorem off_zero5 {c : C.Sys} (O : C.Ok c) : C.offB c 0 = true := by
  have h := (pow_bd (n := c.loads.length) (by have := O.n5; omega)).1
  unfold C.offB C.within C.sets
  simp only [Bool.and_eq_true, decide_eq_true_eq]
  omega
/-- What is known of the days of a weather, and what becomes of them. -/
structure Tru (n N : Nat) (K O : List C.Seen) (days : List C.Day) (Q : Int) : Prop where
  lk : K.length = N
  lo : O.length = N
  ld : days.length = N
  low : ∀ d (h : d < K.length) (h' : d < days.length), K[d].low ≤ days[d].battery
  high : ∀ d (h : d < K.length) (h' : d < days.length), days[d].battery ≤ K[d].high
  olow : ∀ d (h : d < O.length) (h' : d < days.length), O[d].low = days[d].battery
  ohigh : ∀ d (h : d < O.length) (h' : d < days.length), O[d].high = days[d].battery
  kl : ∀ d (h : d < K.length), K[d].loads.length = n
  ol : ∀ d (h : d < O.length), O[d].loads.length = n
  cb : ∀ d (h : d < days.length), 0 ≤ days[d].carried ∧ days[d].carried < Q
  k1 : ∀ d (h : d < K.length) (h' : d < days.length) i (hi : i < K[d].loads.length), C.has days[d].carried i = true → K[d].loads[i] ≠ 1
  k3 : ∀ d (h : d < K.length) (h' : d < days.length) i (hi : i < K[d].loads.length), C.has days[d].carried i = false → K[d].loads[i] ≠ 3
  ow : ∀ d (h : d < O.length) (h' : d < days.length) i (hi : i < O[d].loads.length), O[d].loads[i] = if C.has days[d].carried i then 3 else 1
  N14 : N ≤ 14
  n5 : n ≤ 5
  qb : Q ≤ 1024
theorem tru_day {n N : Nat} {K O : List C.Seen} {days : List C.Day} {Q : Int} (T : Tru n N K O days Q) {d : Nat} (hk : d < K.length) (ho : d < O.length) (hd : d < days.length) :
    ∃ nb xc kl kh lk lo, K[d] = ⟨kl, kh, lk⟩ ∧ O[d] = ⟨nb, nb, lo⟩ ∧ days[d] = ⟨nb, xc⟩ ∧ kl ≤ nb ∧ nb ≤ kh ∧ lk.length = n ∧ lo.length = n ∧ 0 ≤ xc ∧ xc < Q ∧ (∀ i (h : i < lk.length), (C.has xc i = true → lk[i] ≠ 1) ∧ (C.has xc i = false → lk[i] ≠ 3)) ∧ ∀ i (h : i < lo.length), lo[i] = if C.has xc i then 3 else 1 := by
  refine ⟨days[d].battery, days[d].carried, K[d].low, K[d].high, K[d].loads, O[d].loads, rfl, ?_, rfl, T.low d hk hd, T.high d hk hd, T.kl d hk, T.ol d ho, (T.cb d hd).1, (T.cb d hd).2, fun i h => ⟨T.k1 d hk hd i h, T.k3 d hk hd i h⟩, T.ow d ho hd⟩
  have h1 := T.olow d ho hd
  have h2 := T.ohigh d ho hd
  obtain ⟨x, hx⟩ : ∃ x, O[d] = x := ⟨_, rfl⟩
  rw [hx] at h1 h2 ⊢
  obtain ⟨a, b, l⟩ := x
  dsimp only at h1 h2
  rw [← h1] at h2 ⊢
  subst h2
  rfl
theorem seen_at {c : C.Sys} {rs : List (List C.Day)} {d : Nat} (h : d < (C.seen c rs).length) : (C.seen c rs)[d] = C.seenAt c rs d := by
  simp only [C.seen, List.getElem_map, List.getElem_range]
theorem seen_len (c : C.Sys) (rs : List (List C.Day)) : (C.seen c rs).length = c.days.toNat := by unfold C.seen; simp
theorem weather_sky {c : C.Sys} {t : C.Txt} (h : C.weatherB c t = true) : C.skyB c t = true := by
  unfold C.weatherB at h
  unfold C.skyB
  rw [Bool.and_eq_true, List.all_eq_true] at h ⊢
  refine ⟨fun y hy => ?_, h.2⟩
  rcases letterB_of.1 (h.1 y hy) with rfl | rfl <;> rfl
theorem run_bd {c : C.Sys} (O : C.Ok c) {p b : Int} (hp0 : 0 ≤ p) (hp1 : p ≤ 12) (hb0 : 0 ≤ b) (hb1 : b ≤ 8) (off : Int) (T : C.Txt) (hT : T.length ≤ 20) {d : Nat} (h : d < (C.run c p b off T).length) : 0 ≤ (C.run c p b off T)[d].carried ∧ (C.run c p b off T)[d].carried < 2 ^ c.loads.length := by
  have h0 : d < T.length := by rw [run_len] at h; exact h
  have h1 := dat_run (c := c) (p := p) (b := b) (off := off) (w := T) (d := d) h0
  have e : C.dat (C.run c p b off T) d = (C.run c p b off T)[d] := by unfold C.dat; rw [List.getD_eq_getElem?_getD, List.getElem?_eq_getElem h]; rfl
  rw [← e, h1]
  exact C.carried_bd O hp0 hp1 hb0 hb1 off T d (by omega)
theorem tru_of {c : C.Sys} {p b : Int} {sky w : C.Txt} (O : C.Ok c) (hp0 : 0 ≤ p) (hp1 : p ≤ 12) (h2 : 0 ≤ b) (h3 : b ≤ 8) (hn : c.loads.length ≤ 10) (hW : C.weatherB c w = true) (hA : C.allowed c w = true) (hS : C.agrees w sky = true) (hl : w.length ≤ 14) :
    C.runs c p b sky ≠ [] ∧ C.runs c p b w = [C.run c p b 0 w] ∧ Tru c.loads.length w.length (C.seen c (C.runs c p b sky)) (C.seen c (C.runs c p b w)) (C.run c p b 0 w) (C.sets c) := by
  have hd0 : 0 ≤ c.days := by have := O.d1; omega
  have hm := weather_mem hW hA
  have hag : w ∈ C.agreeing c sky := by unfold C.agreeing; rw [List.mem_filter]; exact ⟨hm, hS⟩
  have hr : C.run c p b 0 w ∈ C.runs c p b sky := by unfold C.runs; exact List.mem_map.2 ⟨w, hag, rfl⟩
  have hone : C.runs c p b w = [C.run c p b 0 w] := by unfold C.runs; rw [agreeing_one hd0 hW hA]; rfl
  have hwl : c.days.toNat = w.length := (weather_of hd0 hm).2.2.symm
  obtain ⟨r, hrr⟩ : ∃ r, C.run c p b 0 w = r := ⟨_, rfl⟩
  have hrl : r.length = w.length := by rw [← hrr, run_len]
  have hcb : ∀ d (h : d < r.length), 0 ≤ r[d].carried ∧ r[d].carried < C.sets c := by subst hrr; exact fun d h => run_bd O hp0 hp1 h2 h3 0 w (by omega) h
  rw [hrr] at hr hone
  have hda : ∀ d (h : d < r.length), C.dat r d = r[d] := fun d h => by unfold C.dat; rw [List.getD_eq_getElem?_getD, List.getElem?_eq_getElem h]; rfl
  refine ⟨fun e => (by rw [e] at hr; cases hr), (by rw [hone, hrr]), ?_⟩
  rw [hone, hrr]
  refine ⟨by rw [seen_len, hwl], by rw [seen_len, hwl], hrl, ?_, ?_, ?_, ?_, ?_, ?_, hcb, ?_, ?_, ?_, hl, O.n5, (pow_bd hn).2⟩
  · intro d h h'; rw [seen_at h, ← hda d h']; exact low_le hr d
  · intro d h h'; rw [seen_at h, ← hda d h']; exact le_high hr d
  · intro d h h'; rw [seen_at h, ← hda d h']; exact low_one r d
  · intro d h h'; rw [seen_at h, ← hda d h']; exact high_one r d
  · intro d h; rw [seen_at h]; unfold C.seenAt; simp
  · intro d h; rw [seen_at h]; unfold C.seenAt; simp
  · intro d h h' i hi hh
    rw [← hda d h'] at hh
    simp only [seen_at h, C.seenAt, List.getElem_map, List.getElem_range]
    exact (has_word hr d i).1 hh
  · intro d h h' i hi hh
    rw [← hda d h'] at hh
    simp only [seen_at h, C.seenAt, List.getElem_map, List.getElem_range]
    exact (has_word hr d i).2 hh
  · intro d h h' i hi
    rw [← hda d h']
    simp only [seen_at h, C.seenAt, List.getElem_map, List.getElem_range]
    exact word_one r d i
noncomputable def truT (n : Nat) : Code := codeTail n (Try.f5.body.getD .skip)
noncomputable def truR (n : Nat) : Code := (findRegion n (Try.f5.body.getD .skip)).getD .skip
set_option maxRecDepth 1000000 in
set_option maxHeartbeats 64000000 in
theorem tru_reg12 {u0 u1 u2 u3 u4 u6 u7 u8 u9 u10 u12 u14 u16 u17 u20 u21 u22 u23 u24 u25 u26 u27 u28 u29 u30 u31 u32 u33 u34 u35 u36 u37 u38 u39 u40 u41 u42 u43 u44 u45 u46 u47 u48 u49 u50 u51 u52 u53 u54 u55 u56 u57 u58 u59 u60 u61 u62 u63 u64 u65 u66 u67 u68 u69 u70 u71 u72 u73 u74 u75 u76 u77 u78 u79 u80 u81 u82 u83 u84 u85 u86 u87 u88 u89 u90 u91 u92 u93 u94 u95 u96 u97 u98 u99 u100 u101 u102 u103 u104 u105 u106 u107 u108 u109 u110 u111 u112 u113 u114 u115 u116 u117 u118 u119 u120 u121 u122 u123 u124 u125 u126 u127 u128 u129 u130 u131 u132 u133 u134 u135 u136 u137 u138 u139 u140 u141 u142 u143 u144 u145 u146 u147 u148 u149 u150 u151 u152 u153 u154 u155 u156 u157 u158 u159 u160 u161 u162 u163 u164 u165 u166 u167 u168 u169 u170 u171 u172 u173 u174 u175 u176 u177 u178 u179 u180 u181 u182 u183 u184 u185 u186 u187 u188 u189 u190 u191 u192 u193 u194 u195 u196 u197 u198 u199 u200 u201 u202 u203 u204 u205 u206 u207 u208 u209 u210 u211 u212 u213 u214 u215 u216 u217 u218 u219 u220 u221 u222 u223 u224 u225 u226 u227 u228 u229 u230 u231 u232 u233 u234 u235 u236 u237 u238 u239 u240 u241 u242 u243 u244 u245 u246 u247 u248 u249 u250 u251 u252 u253 u254 u255 u256 u257 u258 u259 u260 u261 u262 u263 u264 u265 u266 u267 u268 u269 u270 u271 u272 : Value} {c : C.Sys} {a1 : Option Addr} {c1 bw : Nat} {w : World} {bk ok mk ck bo oo mo co b6 o6 md cd d ck2 co2 : Nat} {ak ao : Option Addr} {nb xc kl kh Q : Int} (wx : World) (QX : Exit → Act → World → Prop) (hQ : ∀ c a d v w, QX (.panic c) (a.put d v) w → QX (.panic c) a w) (hb : (∀ o, wx.cell? ⟨bw, o, none⟩ = (sysV c (.slice a1 c.loads.length c1) : Array Value)[o]?) ∧ bw < wx.heap.size) (x1 : wx.cell? ⟨bk, ok + d * 3, none⟩ = some (.int .i64 kl)) (x2 : wx.cell? ⟨bk, ok + d * 3 + 1, none⟩ = some (.int .i64 kh)) (x3 : wx.cell? ⟨bk, ok + d * 3 + 2, none⟩ = some (.slice ak c.loads.length ck2)) (x4 : bk < wx.heap.size) (y1 : wx.cell? ⟨bo, oo + d * 3, none⟩ = some (.int .i64 nb)) (y2 : wx.cell? ⟨bo, oo + d * 3 + 1, none⟩ = some (.int .i64 nb)) (y3 : wx.cell? ⟨bo, oo + d * 3 + 2, none⟩ = some (.slice ao c.loads.length co2)) (y4 : bo < wx.heap.size) (q1 : wx.cell? ⟨b6, o6 + d * 2 + 1, none⟩ = some (.int .i64 xc)) (qb : b6 < wx.heap.size) (h1 : kl ≤ nb) (h2 : nb ≤ kh) (h3 : 0 ≤ xc) (h4 : xc < Q) (HSE : Hid (∀ w', Ext w w' → Calls Try.prog 23 #[.agg (sysV c (.slice a1 c.loads.length c1))] w' fun e w2 => e = .returned (.int .i64 Q) ∧ Ext w' w2)) (hdk : d < mk) (hdo : d < mo) (hdl : d < md) (hEwx : Ext w wx)
    (h : ∀ (v134 v135 v136 v137 v138 v139 v140 v141 v142 v143 v144 v145 v146 v147 v148 v149 v150 v151 v152 v153 v154 v155 v156 v157 v158 v159 v160 v161 v162 v163 v164 v165 v166 v167 v168 v169 v170 v171 v172 v173 v174 v175 v176 v177 v178 v179 v180 v181 v182 v183 v184 v185 v186 v187 v188 v189 v190 v191 v192 v193 v194 v195 v196 v197 v198 v199 v200 v201 v202 v203 : Value) (w9 : World), Ext wx w9 → QX .normal ⟨List.toArray (u0 :: u1 :: u2 :: u3 :: u4 :: .pointer (some ⟨bw, 0, none⟩) :: u6 :: u7 :: u8 :: u9 :: u10 :: .slice (some ⟨bk, ok, none⟩) mk ck :: u12 :: .slice (some ⟨bo, oo, none⟩) mo co :: u14 :: .slice (some ⟨b6, o6, none⟩) md cd :: u16 :: u17 :: .int .i64 (d : Int) :: .int .i64 nb :: u20 :: u21 :: u22 :: u23 :: u24 :: u25 :: u26 :: u27 :: u28 :: u29 :: u30 :: u31 :: u32 :: u33 :: u34 :: u35 :: u36 :: u37 :: u38 :: u39 :: u40 :: u41 :: u42 :: u43 :: u44 :: u45 :: u46 :: u47 :: u48 :: u49 :: u50 :: u51 :: u52 :: u53 :: u54 :: u55 :: u56 :: u57 :: u58 :: u59 :: u60 :: u61 :: u62 :: u63 :: u64 :: u65 :: u66 :: u67 :: u68 :: u69 :: u70 :: u71 :: u72 :: u73 :: u74 :: u75 :: u76 :: u77 :: u78 :: u79 :: u80 :: u81 :: u82 :: u83 :: u84 :: u85 :: u86 :: u87 :: u88 :: u89 :: u90 :: u91 :: u92 :: u93 :: u94 :: u95 :: u96 :: u97 :: u98 :: u99 :: u100 :: u101 :: u102 :: u103 :: u104 :: u105 :: u106 :: u107 :: u108 :: u109 :: u110 :: u111 :: u112 :: u113 :: u114 :: u115 :: u116 :: u117 :: u118 :: u119 :: u120 :: u121 :: u122 :: u123 :: u124 :: u125 :: u126 :: u127 :: u128 :: u129 :: u130 :: u131 :: u132 :: u133 :: v134 :: v135 :: v136 :: v137 :: v138 :: v139 :: v140 :: v141 :: v142 :: v143 :: v144 :: v145 :: v146 :: v147 :: v148 :: v149 :: v150 :: v151 :: v152 :: v153 :: v154 :: v155 :: v156 :: v157 :: v158 :: v159 :: v160 :: v161 :: v162 :: v163 :: v164 :: v165 :: v166 :: v167 :: v168 :: v169 :: v170 :: v171 :: v172 :: v173 :: v174 :: v175 :: v176 :: v177 :: v178 :: v179 :: v180 :: v181 :: v182 :: v183 :: v184 :: v185 :: v186 :: v187 :: v188 :: v189 :: v190 :: v191 :: v192 :: v193 :: v194 :: v195 :: v196 :: v197 :: v198 :: v199 :: v200 :: v201 :: v202 :: v203 :: .bool false :: u205 :: u206 :: u207 :: u208 :: u209 :: u210 :: u211 :: u212 :: u213 :: u214 :: u215 :: u216 :: u217 :: u218 :: u219 :: u220 :: u221 :: u222 :: u223 :: u224 :: u225 :: u226 :: u227 :: u228 :: u229 :: u230 :: u231 :: u232 :: u233 :: u234 :: u235 :: u236 :: u237 :: u238 :: u239 :: u240 :: u241 :: u242 :: u243 :: u244 :: u245 :: u246 :: u247 :: u248 :: u249 :: u250 :: u251 :: u252 :: u253 :: u254 :: u255 :: u256 :: u257 :: u258 :: u259 :: u260 :: u261 :: u262 :: u263 :: u264 :: u265 :: u266 :: u267 :: u268 :: u269 :: u270 :: u271 :: u272 :: []), []⟩ w9) :
    Code.wp Try.prog (truR 12) QX ⟨List.toArray (u0 :: u1 :: u2 :: u3 :: u4 :: .pointer (some ⟨bw, 0, none⟩) :: u6 :: u7 :: u8 :: u9 :: u10 :: .slice (some ⟨bk, ok, none⟩) mk ck :: u12 :: .slice (some ⟨bo, oo, none⟩) mo co :: u14 :: .slice (some ⟨b6, o6, none⟩) md cd :: u16 :: u17 :: .int .i64 (d : Int) :: .int .i64 nb :: u20 :: u21 :: u22 :: u23 :: u24 :: u25 :: u26 :: u27 :: u28 :: u29 :: u30 :: u31 :: u32 :: u33 :: u34 :: u35 :: u36 :: u37 :: u38 :: u39 :: u40 :: u41 :: u42 :: u43 :: u44 :: u45 :: u46 :: u47 :: u48 :: u49 :: u50 :: u51 :: u52 :: u53 :: u54 :: u55 :: u56 :: u57 :: u58 :: u59 :: u60 :: u61 :: u62 :: u63 :: u64 :: u65 :: u66 :: u67 :: u68 :: u69 :: u70 :: u71 :: u72 :: u73 :: u74 :: u75 :: u76 :: u77 :: u78 :: u79 :: u80 :: u81 :: u82 :: u83 :: u84 :: u85 :: u86 :: u87 :: u88 :: u89 :: u90 :: u91 :: u92 :: u93 :: u94 :: u95 :: u96 :: u97 :: u98 :: u99 :: u100 :: u101 :: u102 :: u103 :: u104 :: u105 :: u106 :: u107 :: u108 :: u109 :: u110 :: u111 :: u112 :: u113 :: u114 :: u115 :: u116 :: u117 :: u118 :: u119 :: u120 :: u121 :: u122 :: u123 :: u124 :: u125 :: u126 :: u127 :: u128 :: u129 :: u130 :: u131 :: u132 :: u133 :: u134 :: u135 :: u136 :: u137 :: u138 :: u139 :: u140 :: u141 :: u142 :: u143 :: u144 :: u145 :: u146 :: u147 :: u148 :: u149 :: u150 :: u151 :: u152 :: u153 :: u154 :: u155 :: u156 :: u157 :: u158 :: u159 :: u160 :: u161 :: u162 :: u163 :: u164 :: u165 :: u166 :: u167 :: u168 :: u169 :: u170 :: u171 :: u172 :: u173 :: u174 :: u175 :: u176 :: u177 :: u178 :: u179 :: u180 :: u181 :: u182 :: u183 :: u184 :: u185 :: u186 :: u187 :: u188 :: u189 :: u190 :: u191 :: u192 :: u193 :: u194 :: u195 :: u196 :: u197 :: u198 :: u199 :: u200 :: u201 :: u202 :: u203 :: u204 :: u205 :: u206 :: u207 :: u208 :: u209 :: u210 :: u211 :: u212 :: u213 :: u214 :: u215 :: u216 :: u217 :: u218 :: u219 :: u220 :: u221 :: u222 :: u223 :: u224 :: u225 :: u226 :: u227 :: u228 :: u229 :: u230 :: u231 :: u232 :: u233 :: u234 :: u235 :: u236 :: u237 :: u238 :: u239 :: u240 :: u241 :: u242 :: u243 :: u244 :: u245 :: u246 :: u247 :: u248 :: u249 :: u250 :: u251 :: u252 :: u253 :: u254 :: u255 :: u256 :: u257 :: u258 :: u259 :: u260 :: u261 :: u262 :: u263 :: u264 :: u265 :: u266 :: u267 :: u268 :: u269 :: u270 :: u271 :: u272 :: []), []⟩ wx := by
  have HH := Lib.hid h
  clear h
  unfold truR
  conv => arg 2; whnf
  obtain ⟨k0, l0⟩ := hb
  have hpc := plus_cell
  have hgd := span_guard
  have hcmp : ∀ w, (binOp .neq 51 (.agg #[.int .i64 nb, .int .i64 nb]) (.agg #[.int .i64 nb, .int .i64 nb])).run Try.prog w = .ok (.bool false) w := fun w => by have h := span_neq (nb, nb) (nb, nb) w; simpa using h
  have hne : ((c.loads.length : Int) != (c.loads.length : Int)) = false := by simp
  have e1 : decide (nb < kl) = false := by simp; omega
  have e2 : decide (nb > kh) = false := by simp; omega
  have e3 : decide (xc < 0) = false := by simp; omega
  have e4 : decide (xc ≥ Q) = false := by simp; omega
  refine wp_region_ext 71 hQ (by kernel_rfl) (by kernel_rfl) (by kernel_rfl) (by kernel_rfl) ?_
  (try simp only [List.append_eq, List.cons_append, List.nil_append])
  simp only [List.take_succ_cons, List.take_zero, List.drop_succ_cons, List.drop_zero]
  repeat (any_goals (first | go_big_quiet_step ((go_at_call 23; exact ext_quiet (HSE.out _ (by (with_reducible (repeat (first | exact Ext.refl _ | assumption | apply Ext.alloc | apply Ext.drew | exact ext_plus _ _ | (apply Ext.setCell; rotate_left; (simp <;> omega)) | (apply Ext.trans; rotate_left; exact ext_plus _ _) | (apply Ext.trans; rotate_left; assumption)))))))) | quiet_step ((go_at_call 23; exact ext_quiet (HSE.out _ (by (with_reducible (repeat (first | exact Ext.refl _ | assumption | apply Ext.alloc | apply Ext.drew | exact ext_plus _ _ | (apply Ext.setCell; rotate_left; (simp <;> omega)) | (apply Ext.trans; rotate_left; exact ext_plus _ _) | (apply Ext.trans; rotate_left; assumption))))))))))
  all_goals (refine wpQuiet_nil ?_; intro w9 hEw9)
  unfold wpList
  exact HH.out _ _ _ _ _ _ _ _ _ _ _ _ _ _ _ _ _ _ _ _ _ _ _ _ _ _ _ _ _ _ _ _ _ _ _ _ _ _ _ _ _ _ _ _ _ _ _ _ _ _ _ _ _ _ _ _ _ _ _ _ _ _ _ _ _ _ _ _ _ _ w9 hEw9
set_option maxRecDepth 1000000 in
set_option maxHeartbeats 64000000 in
theorem tru_reg18 {u0 u1 u2 u3 u4 u5 u6 u7 u8 u9 u10 u12 u14 u15 u16 u17 u19 u22 u23 u24 u25 u26 u27 u28 u29 u30 u31 u32 u33 u34 u35 u36 u37 u38 u39 u40 u41 u42 u43 u44 u45 u46 u47 u48 u49 u50 u51 u52 u53 u54 u55 u56 u57 u58 u59 u60 u61 u62 u63 u64 u65 u66 u67 u68 u69 u70 u71 u72 u73 u74 u75 u76 u77 u78 u79 u80 u81 u82 u83 u84 u85 u86 u87 u88 u89 u90 u91 u92 u93 u94 u95 u96 u97 u98 u99 u100 u101 u102 u103 u104 u105 u106 u107 u108 u109 u110 u111 u112 u113 u114 u115 u116 u117 u118 u119 u120 u121 u122 u123 u124 u125 u126 u127 u128 u129 u130 u131 u132 u133 u134 u135 u136 u137 u138 u139 u140 u141 u142 u143 u144 u145 u146 u147 u148 u149 u150 u151 u152 u153 u154 u155 u156 u157 u158 u159 u160 u161 u162 u163 u164 u165 u166 u167 u168 u169 u170 u171 u172 u173 u174 u175 u176 u177 u178 u179 u180 u181 u182 u183 u184 u185 u186 u187 u188 u189 u190 u191 u192 u193 u194 u195 u196 u197 u198 u199 u200 u201 u202 u203 u204 u205 u206 u207 u208 u209 u210 u211 u212 u213 u214 u215 u216 u217 u218 u219 u220 u221 u222 u223 u224 u225 u226 u227 u228 u229 u230 u231 u232 u233 u234 u235 u236 u237 u238 u239 u240 u241 u242 u243 u244 u245 u246 u247 u248 u249 u250 u251 u252 u253 u254 u255 u256 u257 u258 u259 u260 u261 u262 u263 u264 u265 u266 u267 u268 u269 u270 u271 u272 : Value} {bk ok mk ck bo oo mo co d i n pk qk ck2 po qo co2 : Nat} {wk wo : Int} {is : Bool} (wx : World) (QX : Exit → Act → World → Prop) (hQ : ∀ c a d v w, QX (.panic c) (a.put d v) w → QX (.panic c) a w) (x3 : wx.cell? ⟨bk, ok + d * 3 + 2, none⟩ = some (.slice (some ⟨pk, qk, none⟩) n ck2)) (x4 : bk < wx.heap.size) (y3 : wx.cell? ⟨bo, oo + d * 3 + 2, none⟩ = some (.slice (some ⟨po, qo, none⟩) n co2)) (y4 : bo < wx.heap.size) (x5 : wx.cell? ⟨pk, qk + i, none⟩ = some (.int .i64 wk)) (y5 : wx.cell? ⟨po, qo + i, none⟩ = some (.int .i64 wo)) (hi : i < n) (hdk : d < mk) (hdo : d < mo) (h1 : is = true → wk ≠ 1) (h2 : is = false → wk ≠ 3) (h3 : wo = if is then 3 else 1)
    (h : ∀ (v219 v220 v221 v222 v223 v224 v225 v226 v227 v228 v229 v230 v231 v232 v233 v234 v235 v236 v237 v238 v239 v240 v241 v242 v243 v244 v245 v246 v247 v248 v249 v250 v251 v252 v253 v254 v255 v256 v257 v258 v259 v260 v261 v262 v263 v264 v265 v266 v267 v268 v269 v270 : Value) (w9 : World), Ext wx w9 → QX .normal ⟨List.toArray (u0 :: u1 :: u2 :: u3 :: u4 :: u5 :: u6 :: u7 :: u8 :: u9 :: u10 :: .slice (some ⟨bk, ok, none⟩) mk ck :: u12 :: .slice (some ⟨bo, oo, none⟩) mo co :: u14 :: u15 :: u16 :: u17 :: .int .i64 (d : Int) :: u19 :: .int .i64 (i : Int) :: .bool is :: u22 :: u23 :: u24 :: u25 :: u26 :: u27 :: u28 :: u29 :: u30 :: u31 :: u32 :: u33 :: u34 :: u35 :: u36 :: u37 :: u38 :: u39 :: u40 :: u41 :: u42 :: u43 :: u44 :: u45 :: u46 :: u47 :: u48 :: u49 :: u50 :: u51 :: u52 :: u53 :: u54 :: u55 :: u56 :: u57 :: u58 :: u59 :: u60 :: u61 :: u62 :: u63 :: u64 :: u65 :: u66 :: u67 :: u68 :: u69 :: u70 :: u71 :: u72 :: u73 :: u74 :: u75 :: u76 :: u77 :: u78 :: u79 :: u80 :: u81 :: u82 :: u83 :: u84 :: u85 :: u86 :: u87 :: u88 :: u89 :: u90 :: u91 :: u92 :: u93 :: u94 :: u95 :: u96 :: u97 :: u98 :: u99 :: u100 :: u101 :: u102 :: u103 :: u104 :: u105 :: u106 :: u107 :: u108 :: u109 :: u110 :: u111 :: u112 :: u113 :: u114 :: u115 :: u116 :: u117 :: u118 :: u119 :: u120 :: u121 :: u122 :: u123 :: u124 :: u125 :: u126 :: u127 :: u128 :: u129 :: u130 :: u131 :: u132 :: u133 :: u134 :: u135 :: u136 :: u137 :: u138 :: u139 :: u140 :: u141 :: u142 :: u143 :: u144 :: u145 :: u146 :: u147 :: u148 :: u149 :: u150 :: u151 :: u152 :: u153 :: u154 :: u155 :: u156 :: u157 :: u158 :: u159 :: u160 :: u161 :: u162 :: u163 :: u164 :: u165 :: u166 :: u167 :: u168 :: u169 :: u170 :: u171 :: u172 :: u173 :: u174 :: u175 :: u176 :: u177 :: u178 :: u179 :: u180 :: u181 :: u182 :: u183 :: u184 :: u185 :: u186 :: u187 :: u188 :: u189 :: u190 :: u191 :: u192 :: u193 :: u194 :: u195 :: u196 :: u197 :: u198 :: u199 :: u200 :: u201 :: u202 :: u203 :: u204 :: u205 :: u206 :: u207 :: u208 :: u209 :: u210 :: u211 :: u212 :: u213 :: u214 :: u215 :: u216 :: u217 :: u218 :: v219 :: v220 :: v221 :: v222 :: v223 :: v224 :: v225 :: v226 :: v227 :: v228 :: v229 :: v230 :: v231 :: v232 :: v233 :: v234 :: v235 :: v236 :: v237 :: v238 :: v239 :: v240 :: v241 :: v242 :: v243 :: v244 :: v245 :: v246 :: v247 :: v248 :: v249 :: v250 :: v251 :: v252 :: v253 :: v254 :: v255 :: v256 :: v257 :: v258 :: v259 :: v260 :: v261 :: v262 :: v263 :: v264 :: v265 :: v266 :: v267 :: v268 :: v269 :: v270 :: .bool false :: u272 :: []), []⟩ w9) :
    Code.wp Try.prog (truR 18) QX ⟨List.toArray (u0 :: u1 :: u2 :: u3 :: u4 :: u5 :: u6 :: u7 :: u8 :: u9 :: u10 :: .slice (some ⟨bk, ok, none⟩) mk ck :: u12 :: .slice (some ⟨bo, oo, none⟩) mo co :: u14 :: u15 :: u16 :: u17 :: .int .i64 (d : Int) :: u19 :: .int .i64 (i : Int) :: .bool is :: u22 :: u23 :: u24 :: u25 :: u26 :: u27 :: u28 :: u29 :: u30 :: u31 :: u32 :: u33 :: u34 :: u35 :: u36 :: u37 :: u38 :: u39 :: u40 :: u41 :: u42 :: u43 :: u44 :: u45 :: u46 :: u47 :: u48 :: u49 :: u50 :: u51 :: u52 :: u53 :: u54 :: u55 :: u56 :: u57 :: u58 :: u59 :: u60 :: u61 :: u62 :: u63 :: u64 :: u65 :: u66 :: u67 :: u68 :: u69 :: u70 :: u71 :: u72 :: u73 :: u74 :: u75 :: u76 :: u77 :: u78 :: u79 :: u80 :: u81 :: u82 :: u83 :: u84 :: u85 :: u86 :: u87 :: u88 :: u89 :: u90 :: u91 :: u92 :: u93 :: u94 :: u95 :: u96 :: u97 :: u98 :: u99 :: u100 :: u101 :: u102 :: u103 :: u104 :: u105 :: u106 :: u107 :: u108 :: u109 :: u110 :: u111 :: u112 :: u113 :: u114 :: u115 :: u116 :: u117 :: u118 :: u119 :: u120 :: u121 :: u122 :: u123 :: u124 :: u125 :: u126 :: u127 :: u128 :: u129 :: u130 :: u131 :: u132 :: u133 :: u134 :: u135 :: u136 :: u137 :: u138 :: u139 :: u140 :: u141 :: u142 :: u143 :: u144 :: u145 :: u146 :: u147 :: u148 :: u149 :: u150 :: u151 :: u152 :: u153 :: u154 :: u155 :: u156 :: u157 :: u158 :: u159 :: u160 :: u161 :: u162 :: u163 :: u164 :: u165 :: u166 :: u167 :: u168 :: u169 :: u170 :: u171 :: u172 :: u173 :: u174 :: u175 :: u176 :: u177 :: u178 :: u179 :: u180 :: u181 :: u182 :: u183 :: u184 :: u185 :: u186 :: u187 :: u188 :: u189 :: u190 :: u191 :: u192 :: u193 :: u194 :: u195 :: u196 :: u197 :: u198 :: u199 :: u200 :: u201 :: u202 :: u203 :: u204 :: u205 :: u206 :: u207 :: u208 :: u209 :: u210 :: u211 :: u212 :: u213 :: u214 :: u215 :: u216 :: u217 :: u218 :: u219 :: u220 :: u221 :: u222 :: u223 :: u224 :: u225 :: u226 :: u227 :: u228 :: u229 :: u230 :: u231 :: u232 :: u233 :: u234 :: u235 :: u236 :: u237 :: u238 :: u239 :: u240 :: u241 :: u242 :: u243 :: u244 :: u245 :: u246 :: u247 :: u248 :: u249 :: u250 :: u251 :: u252 :: u253 :: u254 :: u255 :: u256 :: u257 :: u258 :: u259 :: u260 :: u261 :: u262 :: u263 :: u264 :: u265 :: u266 :: u267 :: u268 :: u269 :: u270 :: u271 :: u272 :: []), []⟩ wx := by
  have HH := Lib.hid h
  clear h
  unfold truR
  conv => arg 2; whnf
  cases is with
  | true =>
    obtain rfl : wo = 3 := h3
    have e1 : (wk == 1) = false := by simpa using h1 rfl
    clear h1 h2 hQ
    go_wp2
    exact HH.out _ _ _ _ _ _ _ _ _ _ _ _ _ _ _ _ _ _ _ _ _ _ _ _ _ _ _ _ _ _ _ _ _ _ _ _ _ _ _ _ _ _ _ _ _ _ _ _ _ _ _ _ wx (Ext.refl _)
  | false =>
    obtain rfl : wo = 1 := h3
    have e1 : (wk == 3) = false := by simpa using h2 rfl
    clear h1 h2 hQ
    go_wp2
    exact HH.out _ _ _ _ _ _ _ _ _ _ _ _ _ _ _ _ _ _ _ _ _ _ _ _ _ _ _ _ _ _ _ _ _ _ _ _ _ _ _ _ _ _ _ _ _ _ _ _ _ _ _ _ wx (Ext.refl _)
set_option maxRecDepth 1000000 in
set_option maxHeartbeats 64000000 in
theorem tru_tail6 {u6 u7 u8 u9 u12 u14 u16 u17 u18 u19 u20 u21 u22 u23 u24 u25 u26 u27 u28 u29 u30 u31 u32 u33 u34 u35 u36 u37 u38 u39 u40 u41 u42 u43 u44 u45 u46 u47 u48 u49 u50 u51 u52 u53 u54 u55 u56 u57 u58 u59 u60 u61 u62 u63 u64 u65 u66 u67 u68 u69 u70 u71 u72 u73 u74 u75 u76 u77 u78 u79 u80 u81 u82 u83 u84 u85 u86 u87 u88 u89 u90 u91 u92 u93 u94 u95 u96 u97 u98 u99 u100 u101 u102 u103 u104 u105 u106 u107 u108 u109 u110 u111 u112 u113 u114 u115 u116 u117 u118 u119 u120 u121 u122 u123 u124 u125 u126 u127 u128 u129 u130 u131 u132 u133 u134 u135 u136 u137 u138 u139 u140 u141 u142 u143 u144 u145 u146 u147 u148 u149 u150 u151 u152 u153 u154 u155 u156 u157 u158 u159 u160 u161 u162 u163 u164 u165 u166 u167 u168 u169 u170 u171 u172 u173 u174 u175 u176 u177 u178 u179 u180 u181 u182 u183 u184 u185 u186 u187 u188 u189 u190 u191 u192 u193 u194 u195 u196 u197 u198 u199 u200 u201 u202 u203 u204 u205 u206 u207 u208 u209 u210 u211 u212 u213 u214 u215 u216 u217 u218 u219 u220 u221 u222 u223 u224 u225 u226 u227 u228 u229 u230 u231 u232 u233 u234 u235 u236 u237 u238 u239 u240 u241 u242 u243 u244 u245 u246 u247 u248 u249 u250 u251 u252 u253 u254 u255 u256 u257 u258 u259 u260 u261 u262 u263 u264 u265 u266 u267 u268 u269 u270 u271 u272 : Value} (c : C.Sys) (p b : Int) (sky wt : ByteArray) (N : Nat) (K O : List C.Seen) (days : List C.Day) (Q : Int) (w w1 : World) (a1 aK aO aD : Option Addr) (c1 cK cO cD : Nat) (wv : World) (hT : Tru c.loads.length N K O days Q) (hK : Seens wv (.slice aK K.length cK) K) (hO : Seens wv (.slice aO O.length cO) O) (hD : Days wv (.slice aD days.length cD) days) (hEwv : Ext w wv) (hE1v : Ext w1 wv) (HSE : Hid (∀ w', Ext w w' → Calls Try.prog 23 #[.agg (sysV c (.slice a1 c.loads.length c1))] w' fun e w2 => e = .returned (.int .i64 Q) ∧ Ext w' w2)) (HBX : Hid (∀ y, Ext w1 y → (∀ o, y.cell? ⟨w.heap.size, o, none⟩ = (sysV c (.slice a1 c.loads.length c1) : Array Value)[o]?) ∧ w.heap.size < y.heap.size)) :
    Code.wp Try.prog (truT 6) (bodyPost Try.prog Try.f5 (fun e w' => e = .returned (.bool true) ∧ Ext w w')) ⟨List.toArray (.agg (sysV c (.slice a1 c.loads.length c1)) :: .int .i64 p :: .int .i64 b :: .string sky :: .string wt :: .pointer (some ⟨w.heap.size, 0, none⟩) :: u6 :: u7 :: u8 :: u9 :: .bool false :: .slice aK K.length cK :: u12 :: .slice aO O.length cO :: u14 :: .slice aD days.length cD :: u16 :: u17 :: u18 :: u19 :: u20 :: u21 :: u22 :: u23 :: u24 :: u25 :: u26 :: u27 :: u28 :: u29 :: u30 :: u31 :: u32 :: u33 :: u34 :: u35 :: u36 :: u37 :: u38 :: u39 :: u40 :: u41 :: u42 :: u43 :: u44 :: u45 :: u46 :: u47 :: u48 :: u49 :: u50 :: u51 :: u52 :: u53 :: u54 :: u55 :: u56 :: u57 :: u58 :: u59 :: u60 :: u61 :: u62 :: u63 :: u64 :: u65 :: u66 :: u67 :: u68 :: u69 :: u70 :: u71 :: u72 :: u73 :: u74 :: u75 :: u76 :: u77 :: u78 :: u79 :: u80 :: u81 :: u82 :: u83 :: u84 :: u85 :: u86 :: u87 :: u88 :: u89 :: u90 :: u91 :: u92 :: u93 :: u94 :: u95 :: u96 :: u97 :: u98 :: u99 :: u100 :: u101 :: u102 :: u103 :: u104 :: u105 :: u106 :: u107 :: u108 :: u109 :: u110 :: u111 :: u112 :: u113 :: u114 :: u115 :: u116 :: u117 :: u118 :: u119 :: u120 :: u121 :: u122 :: u123 :: u124 :: u125 :: u126 :: u127 :: u128 :: u129 :: u130 :: u131 :: u132 :: u133 :: u134 :: u135 :: u136 :: u137 :: u138 :: u139 :: u140 :: u141 :: u142 :: u143 :: u144 :: u145 :: u146 :: u147 :: u148 :: u149 :: u150 :: u151 :: u152 :: u153 :: u154 :: u155 :: u156 :: u157 :: u158 :: u159 :: u160 :: u161 :: u162 :: u163 :: u164 :: u165 :: u166 :: u167 :: u168 :: u169 :: u170 :: u171 :: u172 :: u173 :: u174 :: u175 :: u176 :: u177 :: u178 :: u179 :: u180 :: u181 :: u182 :: u183 :: u184 :: u185 :: u186 :: u187 :: u188 :: u189 :: u190 :: u191 :: u192 :: u193 :: u194 :: u195 :: u196 :: u197 :: u198 :: u199 :: u200 :: u201 :: u202 :: u203 :: u204 :: u205 :: u206 :: u207 :: u208 :: u209 :: u210 :: u211 :: u212 :: u213 :: u214 :: u215 :: u216 :: u217 :: u218 :: u219 :: u220 :: u221 :: u222 :: u223 :: u224 :: u225 :: u226 :: u227 :: u228 :: u229 :: u230 :: u231 :: u232 :: u233 :: u234 :: u235 :: u236 :: u237 :: u238 :: u239 :: u240 :: u241 :: u242 :: u243 :: u244 :: u245 :: u246 :: u247 :: u248 :: u249 :: u250 :: u251 :: u252 :: u253 :: u254 :: u255 :: u256 :: u257 :: u258 :: u259 :: u260 :: u261 :: u262 :: u263 :: u264 :: u265 :: u266 :: u267 :: u268 :: u269 :: u270 :: u271 :: u272 :: []), []⟩ wv := by
  unfold truT
  conv => arg 2; whnf
  obtain ⟨_, _, e0, hxk⟩ := hK
  cases e0
  obtain ⟨_, _, e0, hxo⟩ := hO
  cases e0
  obtain ⟨_, _, e0, hxd⟩ := hD
  cases e0
  have HXK := Lib.hid hxk
  have HXO := Lib.hid hxo
  have HXD := Lib.hid hxd
  have HT := Lib.hid hT
  clear hxk hxo hxd hT
  have hN14 := HT.out.N14
  have hn5 := HT.out.n5
  go_wp2
  go_loopw [18] (fun s wx => ∃ d : Nat, d ≤ N ∧ s = .int .i64 d ∧ Ext wv wx) (fun s _ => N - (intOf s).toNat)
  case atStart => exact ⟨0, Nat.zero_le _, rfl, Ext.refl _⟩
  case round =>
    rename World => wx
    obtain ⟨d, hd, rfl, hEx⟩ := hrel
    have hEwx := hEwv.trans hEx
    have hE1x := hE1v.trans hEx
    obtain ⟨k0, l0⟩ := HBX.out wx hE1x
    by_cases hdN : d < N
    · have hdl : d < days.length := by have := HT.out.ld; omega
      have hdk : d < K.length := by have := HT.out.lk; omega
      have hdo : d < O.length := by have := HT.out.lo; omega
      have HDN := Lib.hid hdN
      obtain ⟨b6, o6, rfl, hb6, hAt6⟩ := HXD.out d hdl
      obtain ⟨bk, ok, vk, rfl, hbk, x1, x2, x3, hik⟩ := HXK.out d hdk
      obtain ⟨bo, oo, vo, rfl, hbo, y1, y2, y3, hio⟩ := HXO.out d hdo
      obtain ⟨nb, xc, kl, kh, lk, lo, hKd, hOd, hdd, f1, f2, f5, f6, f7, f7', f8, f10⟩ := tru_day HT.out hdk hdo hdl
      have hqb := HT.out.qb
      rw [hdd] at hAt6
      rw [hKd] at x1 x2 hik
      rw [hOd] at y1 y2 hio
      dsimp only at x1 x2 hik y1 y2 hio
      obtain ⟨ak, ck2, rfl, hik2⟩ := hik
      obtain ⟨ao, co2, rfl, hio2⟩ := hio
      rw [f5] at x3
      rw [f6] at y3
      have HIK := Lib.hid hik2
      have HIO := Lib.hid hio2
      have HF8 := Lib.hid f8
      have HF10 := Lib.hid f10
      have HF5 := Lib.hid f5
      have HF6 := Lib.hid f6
      obtain ⟨q0, q1⟩ := day_cells (ate_stays _ _ _ _ _ _ hEx hb6 hAt6)
      dsimp only at q0 q1
      have qb := Nat.lt_of_lt_of_le hb6 hEx.size
      have x1' := (hEx.cells.1 _ _ hbk).trans x1
      have x2' := (hEx.cells.1 _ _ hbk).trans x2
      have x3' := (hEx.cells.1 _ _ hbk).trans x3
      have xb := Nat.lt_of_lt_of_le hbk hEx.size
      have y1' := (hEx.cells.1 _ _ hbo).trans y1
      have y2' := (hEx.cells.1 _ _ hbo).trans y2
      have y3' := (hEx.cells.1 _ _ hbo).trans y3
      have yb := Nat.lt_of_lt_of_le hbo hEx.size
      clear hik2 hio2 f8 f10 f5 f6 hKd hOd hdd
      have HAT := Lib.hid hAt6
      clear hAt6
      go_upto_region 12 with (fail)
      refine tru_reg12 _ _ (fun _ _ d _ _ h => by cases d <;> exact h) ⟨k0, l0⟩ x1' x2' x3' xb y1' y2' y3' yb q1 qb f1 f2 f7 f7' HSE hdk hdo hdl hEwx ?_
      intro _ _ _ _ _ _ _ _ _ _ _ _ _ _ _ _ _ _ _ _ _ _ _ _ _ _ _ _ _ _ _ _ _ _ _ _ _ _ _ _ _ _ _ _ _ _ _ _ _ _ _ _ _ _ _ _ _ _ _ _ _ _ _ _ _ _ _ _ _ _ w9 hEw9
      clear q0 q1 qb k0 l0 x1' x2' x3' xb y1' y2' y3' yb x1 x2 y1 y2
      go_wp2
      go_loopw [20] (fun s wy => ∃ i : Nat, i ≤ c.loads.length ∧ s = .int .i64 i ∧ Ext w9 wy) (fun s _ => c.loads.length - (intOf s).toNat)
      case atStart => exact ⟨0, Nat.zero_le _, rfl, Ext.refl _⟩
      case round =>
        rename World => wy
        obtain ⟨i, hi, rfl, hEy⟩ := hrel
        have hE9y := hEw9.trans hEy
        have hEvy := hEx.trans hE9y
        have hE1y := hE1x.trans hE9y
        have hEwy := hEwx.trans hE9y
        obtain ⟨k0, l0⟩ := HBX.out wy hE1y
        by_cases hin : i < c.loads.length
        · have HIN := Lib.hid hin
          obtain ⟨q0, q1⟩ := day_cells (ate_stays _ _ _ _ _ _ hEvy hb6 HAT.out)
          dsimp only at q0 q1
          have qb := Nat.lt_of_lt_of_le hb6 hEvy.size
          have hilk : i < lk.length := by have := HF5.out; omega
          have hilo : i < lo.length := by have := HF6.out; omega
          obtain ⟨pk, qk, rfl, hpk, z1⟩ := HIK.out i hilk
          obtain ⟨po, qo, rfl, hpo, z2⟩ := HIO.out i hilo
          obtain ⟨g8, g9⟩ := HF8.out i hilk
          have g10 := HF10.out i hilo
          obtain ⟨wk, hwk⟩ : ∃ wk, lk[i] = wk := ⟨_, rfl⟩
          obtain ⟨wo, hwo⟩ : ∃ wo, lo[i] = wo := ⟨_, rfl⟩
          rw [hwk] at z1 g8 g9
          rw [hwo] at z2 g10
          have z1' := (hEvy.cells.1 _ _ hpk).trans z1
          have z2' := (hEvy.cells.1 _ _ hpo).trans z2
          have x3' := (hEvy.cells.1 _ _ hbk).trans x3
          have xb := Nat.lt_of_lt_of_le hbk hEvy.size
          have y3' := (hEvy.cells.1 _ _ hbo).trans y3
          have yb := Nat.lt_of_lt_of_le hbo hEvy.size
          have G8 := Lib.hid g8
          have G9 := Lib.hid g9
          have G10 := Lib.hid g10
          clear g8 g9 g10 hwk hwo z1 z2
          go_upto_region 18 with (first | (go_at_call 24; refine (dhas_any _ _ _ (by omega) (by omega) (by omega)).mono ?_; rintro e w6 ⟨rfl, rfl⟩))
          refine tru_reg18 _ _ (fun _ _ d _ _ h => by cases d <;> exact h) x3' xb y3' yb z1' z2' hin hdk hdo G8.out G9.out G10.out ?_
          intro _ _ _ _ _ _ _ _ _ _ _ _ _ _ _ _ _ _ _ _ _ _ _ _ _ _ _ _ _ _ _ _ _ _ _ _ _ _ _ _ _ _ _ _ _ _ _ _ _ _ _ _ w10 hEw10
          go_wp2
          go_roundw
          case rel => exact ⟨i + 1, HIN.out, by go_num, hEy.trans hEw10⟩
          case measure => have := HIN.out; simp [intOf]; omega
        · have hin2 : i = c.loads.length := by omega
          go_wp2
          go_roundw
          case rel => exact ⟨d + 1, HDN.out, by go_num, hEx.trans hE9y⟩
          case measure => have := HDN.out; simp [intOf]; omega
    · have hdl : ¬ d < days.length := by have := HT.out.ld; omega
      go_wp2_with (first | (go_at_call 16; refine (known_any _).mono ?_; rintro e wk ⟨rfl, hbk⟩))
      go_ret
      exact ⟨rfl, by (with_reducible (repeat (first | exact Ext.refl _ | assumption | apply Ext.alloc | apply Ext.drew | exact ext_plus _ _ | (apply Ext.setCell; rotate_left; (simp <;> omega)) | (apply Ext.trans; rotate_left; exact ext_plus _ _) | (apply Ext.trans; rotate_left; assumption))))⟩
end Go.Proofs.Ytkjoojmlcjmlgaa
