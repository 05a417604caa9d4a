/- The law CellLedgers: the energy day by day, the loop over the days. -/
import Derived.Test.YtkjoojmlcjmlgaaK3
import Derived.Test.YtkjoojmlcjmlgaaPd
import Derived.Test.YtkjoojmlcjmlgaaPf
import Derived.Test.YtkjoojmlcjmlgaaLa
import Derived.Test.YtkjoojmlcjmlgaaTl
namespace Go.Proofs.Ytkjoojmlcjmlgaa
set_option linter.unusedVariables false
set_option linter.unusedSimpArgs false
open Go.RowKit
attribute [local go_sem] Oper.semAt_some
theorem dat_at4 {l : List C.Day} {i : Nat} (h : i < l.length) : C.dat l i = l[i] := by
  unfold C.dat; rw [List.getD_eq_getElem?_getD, List.getElem?_eq_getElem h]; rfl
/-- What becomes of the energy in a weather, day by day. -/
structure Led (c : C.Sys) (p b off : Int) (wt : ByteArray) (N : Nat) (F : Nat → C.St) (days : List C.Day) (st S U L D E gs gc hh hs Q : Int) : Prop where
  len : days.length = N
  el : ∀ d (h : d < days.length), days[d] = ⟨(F (d + 1)).e, (F (d + 1)).carried⟩
  xi : ∀ d, d < N → ∃ x, wt.data.toList[d]? = some x ∧ (x = 115 ∨ x = 99)
  su : ∀ k x, wt.data.toList[k]? = some x → (F (k + 1)).sun = (F k).sun + C.gives c p x
  us : ∀ k, (F (k + 1)).used = (F k).used + needs c.loads (F (k + 1)).carried c.loads.length
  of_ : ∀ k j, j < c.loads.length → C.has (F (k + 1)).carried j = true → C.has off j = false
  cb : ∀ k, k ≤ 20 → 0 ≤ (F (k + 1)).carried ∧ (F (k + 1)).carried < Q
  bk : ∀ k, k ≤ 21 → 0 ≤ (F k).e ∧ (F k).e ≤ hh ∧ 0 ≤ (F k).sun ∧ (F k).sun ≤ 12000000 * k ∧ 0 ≤ (F k).used ∧ (F k).used ≤ 8000000 * k ∧ 0 ≤ (F k).lost ∧ (F k).lost ≤ 20000000 * k ∧ 0 ≤ (F k).faded ∧ (F k).faded ≤ 8000000 * k
  f0 : (F 0).sun = 0
  f1 : (F 0).used = 0
  g1 : C.gives c p 115 = gs
  g2 : C.gives c p 99 = gc
  gb1 : 0 ≤ gs ∧ gs ≤ 12000000
  gb2 : 0 ≤ gc ∧ gc ≤ 12000000
  mgs : p * c.sunny = gs
  mgc : p * c.cloudy = gc
  mhh : b * c.size = hh
  mhs : hh * c.start = hs
  mst : hs / 1000 = st
  hhb : 0 ≤ hh ∧ hh ≤ 8000000
  hsb : 0 ≤ hs ∧ hs ≤ 8000000000
  stb : 0 ≤ st ∧ st ≤ 8000000
  bal : E + U + L + D = st + S
  eS : (F N).sun = S
  eU : (F N).used = U
  eE : (F N).e = E
  pos : 0 ≤ S ∧ 0 ≤ U ∧ 0 ≤ L ∧ 0 ≤ D ∧ 0 ≤ E ∧ S ≤ 240000000
  ld : ∀ l ∈ c.loads, 0 ≤ l.need ∧ l.need ≤ 1000000
  n5 : c.loads.length ≤ 5
  N1 : 1 ≤ N
  N14 : N ≤ 14
  qb : Q ≤ 1024
theorem led_of {c : C.Sys} {p b off : Int} {wt : ByteArray} (O : C.Ok c) (hp0 : 0 ≤ p) (hp1 : p ≤ 12) (h2 : 0 ≤ b) (h3 : b ≤ 8) (hn : c.loads.length ≤ 10) (hW : C.weatherB c wt.data.toList = true) (hsz : wt.size ≤ 14) :
    ∃ N F days st S U L D E gs gc hh hs Q, Led c p b off wt N F days st S U L D E gs gc hh hs Q ∧ C.run c p b off wt.data.toList = days ∧ C.ledger c p b off wt.data.toList = ⟨st, S, U, L, D, E⟩ ∧ C.sets c = Q ∧ c.days = (N : Int) := by
  have hWL : ∀ y ∈ wt.data.toList, C.letterB y = true := by
    have h := hW
    unfold C.weatherB at h
    rw [Bool.and_eq_true, List.all_eq_true] at h
    exact h.1
  have hWD : ((wt.data.toList.length : Nat) : Int) = c.days := by
    have h := hW
    unfold C.weatherB at h
    rw [Bool.and_eq_true, decide_eq_true_eq] at h
    exact h.2
  obtain ⟨N, hN⟩ : ∃ N, wt.size = N := ⟨_, rfl⟩
  have hN2 : wt.data.toList.length = N := by rw [← hN]; simp
  have hxi : ∀ d, d < N → ∃ x, wt.data.toList[d]? = some x ∧ (x = 115 ∨ x = 99) := fun d h => ⟨wt.data.toList[d]'(by omega), List.getElem?_eq_getElem _, letterB_of.1 (hWL _ (List.getElem_mem _))⟩
  have hdat := fun d (h : d < N) => dat_run (c := c) (p := p) (b := b) (off := off) (w := wt.data.toList) (d := d) (by omega)
  obtain ⟨F, hF⟩ : ∃ F, C.stateAt c p b off wt.data.toList = F := ⟨_, rfl⟩
  obtain ⟨days, hdays⟩ : ∃ days, C.run c p b off wt.data.toList = days := ⟨_, rfl⟩
  have hlen : days.length = N := by rw [← hdays, run_len, hN2]
  have hel : ∀ d (h : d < days.length), days[d] = ⟨(F (d + 1)).e, (F (d + 1)).carried⟩ := fun d h => by
    have h1 := hdat d (by omega)
    rw [hdays, dat_at4 h] at h1
    rw [h1]; unfold C.dayAt; rw [hF]
  have hled : C.ledger c p b off wt.data.toList = ⟨C.start c b, (F N).sun, (F N).used, (F N).lost, (F N).faded, (F N).e⟩ := by
    unfold C.ledger; rw [hF, hN2]
  have hbal := balance c p b off wt.data.toList N
  rw [hF] at hbal
  have hbk := fun k (h : k ≤ 21) => C.state_bd O hp0 hp1 h2 h3 off wt.data.toList k h
  have hcb := fun k (h : k ≤ 20) => C.carried_bd O hp0 hp1 h2 h3 off wt.data.toList k h
  have hus := used_step c p b off wt.data.toList
  have hof := off_step c p b off wt.data.toList
  have hsu : ∀ k x, wt.data.toList[k]? = some x → (C.stateAt c p b off wt.data.toList (k + 1)).sun = (C.stateAt c p b off wt.data.toList k).sun + C.gives c p x := fun k x h => by
    rw [sun_step, List.getD_eq_getElem?_getD, h]; rfl
  have hf0 : (F 0).sun = 0 ∧ (F 0).used = 0 := by rw [← hF]; exact ⟨rfl, rfl⟩
  rw [hF] at hus hof
  simp only [hF] at hbk hcb hsu
  have hg1 : C.gives c p 115 = p * c.sunny := by rw [Int.mul_comm]; rfl
  have hg2 : C.gives c p 99 = p * c.cloudy := by rw [Int.mul_comm]; rfl
  have hgb1 := C.gives_bd O hp0 hp1 115
  have hgb2 := C.gives_bd O hp0 hp1 99
  rw [hg1] at hgb1
  rw [hg2] at hgb2
  have hho : C.hold c b = b * c.size := Int.mul_comm _ _
  have hhb := C.hold_bd O h2 h3
  have hsb := C.start_bd O h2 h3
  rw [hho] at hhb hsb
  have hst : C.start c b = b * c.size * c.start / 1000 := by unfold C.start; rw [hho]
  have hbk2 : ∀ k, k ≤ 21 → 0 ≤ (F k).e ∧ (F k).e ≤ b * c.size ∧ 0 ≤ (F k).sun ∧ (F k).sun ≤ 12000000 * k ∧ 0 ≤ (F k).used ∧ (F k).used ≤ 8000000 * k ∧ 0 ≤ (F k).lost ∧ (F k).lost ≤ 20000000 * k ∧ 0 ≤ (F k).faded ∧ (F k).faded ≤ 8000000 * k := fun k h =>
    ⟨(hbk k h).e0, by rw [← hho]; exact (hbk k h).e1, (hbk k h).s0, (hbk k h).s1, (hbk k h).u0, (hbk k h).u1, (hbk k h).l0, (hbk k h).l1, (hbk k h).f0, (hbk k h).f1⟩
  obtain ⟨fe0, fe1, fs0, fs1, fu0, fu1, fl0, fl1, ff0, ff1⟩ := hbk2 N (by omega)
  have hQb := (pow_bd hn).2
  refine ⟨N, F, days, C.start c b, (F N).sun, (F N).used, (F N).lost, (F N).faded, (F N).e, p * c.sunny, p * c.cloudy, b * c.size, b * c.size * c.start, C.sets c, ?_, hdays, hled, rfl, by omega⟩
  exact ⟨hlen, hel, hxi, hsu, hus, hof, hcb, hbk2, hf0.1, hf0.2, hg1, hg2, hgb1, hgb2, rfl, rfl, rfl, rfl, hst.symm, hhb, ⟨hsb.2.2.1, hsb.2.2.2⟩, ⟨hsb.1, by omega⟩, by omega, rfl, rfl, rfl, ⟨fs0, fu0, fl0, ff0, fe0, by omega⟩, fun l hl => ⟨(O.load l hl).1, (O.load l hl).2.1⟩, O.n5, by have := O.d1; omega, by omega, hQb⟩
noncomputable def ledT (n : Nat) : Code := codeTail n (Try.f4.body.getD .skip)
noncomputable def ledR (n : Nat) : Code := (findRegion n (Try.f4.body.getD .skip)).getD .skip
set_option maxRecDepth 1000000 in
set_option maxHeartbeats 64000000 in
theorem led_reg13 {u0 u1 u3 u4 u6 u7 u8 u9 u10 u12 u13 u14 u15 u17 u18 u19 u20 u21 u22 u23 u24 u25 u26 u27 u28 u29 u30 u31 u32 u33 u34 u35 u36 u37 u38 u39 u40 u41 u42 u43 u44 u45 u46 u47 u48 u49 u50 u51 u52 u53 u54 u55 u56 u57 u58 u59 u60 u61 u62 u63 u64 u65 u66 u67 u68 u69 u70 u71 u72 u73 u74 u75 u76 u77 u78 u79 u80 u81 u82 u83 u84 u85 u86 u87 u88 u89 u90 u91 u92 u93 u94 u95 u96 u97 u98 u99 u100 u101 u102 u103 u104 u105 u106 u107 u108 u109 u110 u111 u112 u113 u114 u115 u116 u117 u118 u119 u120 u121 u122 u123 u124 u125 u126 u127 u128 u129 u130 u131 u132 u133 u134 u135 u136 u137 u138 u139 u140 u141 u142 u143 u144 u145 u146 u147 u148 u149 u150 u151 u152 u153 u154 u155 u156 u157 u158 u159 u160 u161 u162 u163 u164 u165 u166 u167 u168 u169 u170 u171 u172 u173 u174 u175 u176 u177 u178 u179 u180 u181 u182 u183 u184 u185 u186 u187 u188 u189 u190 u191 u192 u193 u194 u195 u196 u197 u198 u199 u200 u201 u202 u203 u204 u205 u206 u207 u208 u209 u210 u211 u212 u213 u214 u215 u216 u217 u218 u219 u220 u221 u222 u223 u224 u225 u226 : Value} {c : C.Sys} {a1 : Option Addr} {c1 bw : Nat} {w : World} {b : Int} {b6 o6 m cl d : Nat} {xb xc hh Q : Int} (wx : World) (QX : Exit → Act → World → Prop) (hQ : ∀ c a d v w, QX (.panic c) (a.put d v) w → QX (.panic c) a w) (hb : (∀ o, wx.cell? ⟨bw, o, none⟩ = (sysV c (.slice a1 c.loads.length c1) : Array Value)[o]?) ∧ bw < wx.heap.size) (q0 : wx.cell? ⟨b6, o6 + d * 2, none⟩ = some (.int .i64 xb)) (q1 : wx.cell? ⟨b6, o6 + d * 2 + 1, none⟩ = some (.int .i64 xc)) (qb : b6 < wx.heap.size) (hmul : b * c.size = hh) (hhb : 0 ≤ hh ∧ hh ≤ 8000000) (f1 : 0 ≤ xc) (f2 : xc < Q) (f3 : 0 ≤ xb) (f4 : xb ≤ hh) (HSE : Hid (∀ w', Ext w w' → Calls Try.prog 23 #[.agg (sysV c (.slice a1 c.loads.length c1))] w' fun e w2 => e = .returned (.int .i64 Q) ∧ Ext w' w2)) (hdl : d < m) (hEwx : Ext w wx)
    (h : ∀ (v88 v89 v90 v91 v92 v93 v94 v95 v96 v97 v98 v99 v100 v101 v102 v103 v104 v105 v106 v107 v108 v109 v110 v111 v112 v113 v114 v115 v116 v117 v118 v119 v120 v121 v122 : Value) (w9 : World), Ext wx w9 → QX .normal ⟨List.toArray (u0 :: u1 :: .int .i64 b :: u3 :: u4 :: .pointer (some ⟨bw, 0, none⟩) :: u6 :: u7 :: u8 :: u9 :: u10 :: .slice (some ⟨b6, o6, none⟩) m cl :: u12 :: u13 :: u14 :: u15 :: .int .i64 (d : Int) :: u17 :: u18 :: u19 :: u20 :: u21 :: u22 :: u23 :: u24 :: u25 :: u26 :: u27 :: u28 :: u29 :: u30 :: u31 :: u32 :: u33 :: u34 :: u35 :: u36 :: u37 :: u38 :: u39 :: u40 :: u41 :: u42 :: u43 :: u44 :: u45 :: u46 :: u47 :: u48 :: u49 :: u50 :: u51 :: u52 :: u53 :: u54 :: u55 :: u56 :: u57 :: u58 :: u59 :: u60 :: u61 :: u62 :: u63 :: u64 :: u65 :: u66 :: u67 :: u68 :: u69 :: u70 :: u71 :: u72 :: u73 :: u74 :: u75 :: u76 :: u77 :: u78 :: u79 :: u80 :: u81 :: u82 :: u83 :: u84 :: u85 :: u86 :: u87 :: v88 :: v89 :: v90 :: v91 :: v92 :: v93 :: v94 :: v95 :: v96 :: v97 :: v98 :: v99 :: v100 :: v101 :: v102 :: v103 :: v104 :: v105 :: v106 :: v107 :: v108 :: v109 :: v110 :: v111 :: v112 :: v113 :: v114 :: v115 :: v116 :: v117 :: v118 :: v119 :: v120 :: v121 :: v122 :: .bool false :: u124 :: u125 :: u126 :: u127 :: u128 :: u129 :: u130 :: u131 :: u132 :: u133 :: u134 :: u135 :: u136 :: u137 :: u138 :: u139 :: u140 :: u141 :: u142 :: u143 :: u144 :: u145 :: u146 :: u147 :: u148 :: u149 :: u150 :: u151 :: u152 :: u153 :: u154 :: u155 :: u156 :: u157 :: u158 :: u159 :: u160 :: u161 :: u162 :: u163 :: u164 :: u165 :: u166 :: u167 :: u168 :: u169 :: u170 :: u171 :: u172 :: u173 :: u174 :: u175 :: u176 :: u177 :: u178 :: u179 :: u180 :: u181 :: u182 :: u183 :: u184 :: u185 :: u186 :: u187 :: u188 :: u189 :: u190 :: u191 :: u192 :: u193 :: u194 :: u195 :: u196 :: u197 :: u198 :: u199 :: u200 :: u201 :: u202 :: u203 :: u204 :: u205 :: u206 :: u207 :: u208 :: u209 :: u210 :: u211 :: u212 :: u213 :: u214 :: u215 :: u216 :: u217 :: u218 :: u219 :: u220 :: u221 :: u222 :: u223 :: u224 :: u225 :: u226 :: []), []⟩ w9) :
    Code.wp Try.prog (ledR 13) QX ⟨List.toArray (u0 :: u1 :: .int .i64 b :: u3 :: u4 :: .pointer (some ⟨bw, 0, none⟩) :: u6 :: u7 :: u8 :: u9 :: u10 :: .slice (some ⟨b6, o6, none⟩) m cl :: u12 :: u13 :: u14 :: u15 :: .int .i64 (d : Int) :: u17 :: u18 :: u19 :: u20 :: u21 :: u22 :: u23 :: u24 :: u25 :: u26 :: u27 :: u28 :: u29 :: u30 :: u31 :: u32 :: u33 :: u34 :: u35 :: u36 :: u37 :: u38 :: u39 :: u40 :: u41 :: u42 :: u43 :: u44 :: u45 :: u46 :: u47 :: u48 :: u49 :: u50 :: u51 :: u52 :: u53 :: u54 :: u55 :: u56 :: u57 :: u58 :: u59 :: u60 :: u61 :: u62 :: u63 :: u64 :: u65 :: u66 :: u67 :: u68 :: u69 :: u70 :: u71 :: u72 :: u73 :: u74 :: u75 :: u76 :: u77 :: u78 :: u79 :: u80 :: u81 :: u82 :: u83 :: u84 :: u85 :: u86 :: u87 :: u88 :: u89 :: u90 :: u91 :: u92 :: u93 :: u94 :: u95 :: u96 :: u97 :: u98 :: u99 :: u100 :: u101 :: u102 :: u103 :: u104 :: u105 :: u106 :: u107 :: u108 :: u109 :: u110 :: u111 :: u112 :: u113 :: u114 :: u115 :: u116 :: u117 :: u118 :: u119 :: u120 :: u121 :: u122 :: u123 :: u124 :: u125 :: u126 :: u127 :: u128 :: u129 :: u130 :: u131 :: u132 :: u133 :: u134 :: u135 :: u136 :: u137 :: u138 :: u139 :: u140 :: u141 :: u142 :: u143 :: u144 :: u145 :: u146 :: u147 :: u148 :: u149 :: u150 :: u151 :: u152 :: u153 :: u154 :: u155 :: u156 :: u157 :: u158 :: u159 :: u160 :: u161 :: u162 :: u163 :: u164 :: u165 :: u166 :: u167 :: u168 :: u169 :: u170 :: u171 :: u172 :: u173 :: u174 :: u175 :: u176 :: u177 :: u178 :: u179 :: u180 :: u181 :: u182 :: u183 :: u184 :: u185 :: u186 :: u187 :: u188 :: u189 :: u190 :: u191 :: u192 :: u193 :: u194 :: u195 :: u196 :: u197 :: u198 :: u199 :: u200 :: u201 :: u202 :: u203 :: u204 :: u205 :: u206 :: u207 :: u208 :: u209 :: u210 :: u211 :: u212 :: u213 :: u214 :: u215 :: u216 :: u217 :: u218 :: u219 :: u220 :: u221 :: u222 :: u223 :: u224 :: u225 :: u226 :: []), []⟩ wx := by
  have HH := Lib.hid h
  clear h
  unfold ledR
  conv => arg 2; whnf
  obtain ⟨k0, l0⟩ := hb
  have hpc := plus_cell
  have e1 : decide (xc < 0) = false := by simp; omega
  have e2 : decide (xc ≥ Q) = false := by simp; omega
  have e3 : decide (xb < 0) = false := by simp; omega
  have e4 : decide (xb > hh) = false := by simp; omega
  refine wp_region_ext 36 hQ (by kernel_rfl) (by kernel_rfl) (by kernel_rfl) (by kernel_rfl) ?_
  (try simp only [List.append_eq, List.cons_append, List.nil_append])
  simp only [List.take_succ_cons, List.take_zero, List.drop_succ_cons, List.drop_zero]
  repeat (any_goals (first | go_big_quiet_step ((go_at_call 23; exact ext_quiet (HSE.out _ (by (with_reducible (repeat (first | exact Ext.refl _ | assumption | apply Ext.alloc | apply Ext.drew | exact ext_plus _ _ | (apply Ext.setCell; rotate_left; (simp <;> omega)) | (apply Ext.trans; rotate_left; exact ext_plus _ _) | (apply Ext.trans; rotate_left; assumption)))))))) | quiet_step ((go_at_call 23; exact ext_quiet (HSE.out _ (by (with_reducible (repeat (first | exact Ext.refl _ | assumption | apply Ext.alloc | apply Ext.drew | exact ext_plus _ _ | (apply Ext.setCell; rotate_left; (simp <;> omega)) | (apply Ext.trans; rotate_left; exact ext_plus _ _) | (apply Ext.trans; rotate_left; assumption))))))))))
  all_goals (refine wpQuiet_nil ?_; intro w9 hEw9)
  unfold wpList
  exact HH.out _ _ _ _ _ _ _ _ _ _ _ _ _ _ _ _ _ _ _ _ _ _ _ _ _ _ _ _ _ _ _ _ _ _ _ w9 hEw9
set_option maxRecDepth 1000000 in
set_option maxHeartbeats 64000000 in
theorem led_reg23 {u0 u1 u2 u3 u4 u5 u6 u7 u8 u9 u10 u13 u16 u17 u19 u20 u21 u22 u23 u24 u25 u26 u27 u28 u29 u30 u31 u32 u33 u34 u35 u36 u37 u38 u39 u40 u41 u42 u43 u44 u45 u46 u47 u48 u49 u50 u51 u52 u53 u54 u55 u56 u57 u58 u59 u60 u61 u62 u63 u64 u65 u66 u67 u68 u69 u70 u71 u72 u73 u74 u75 u76 u77 u78 u79 u80 u81 u82 u83 u84 u85 u86 u87 u88 u89 u90 u91 u92 u93 u94 u95 u96 u97 u98 u99 u100 u101 u102 u103 u104 u105 u106 u107 u108 u109 u110 u111 u112 u113 u114 u115 u116 u117 u118 u119 u120 u121 u122 u123 u124 u125 u126 u127 u128 u129 u130 u131 u132 u133 u134 u135 u136 u137 u138 u139 u140 u141 u142 u143 u144 u145 u146 u147 u148 u149 u150 u151 u152 u153 u154 u155 u156 u157 u158 u159 u160 u161 u162 u163 u164 u165 u166 u167 u168 u169 u170 u171 u172 u173 u174 u175 u176 u177 u178 u179 u180 u181 u182 u183 u184 u185 u186 u187 u188 u189 u190 u191 u192 u193 u194 u195 u196 u197 u198 u199 u200 u201 u202 u203 u204 u205 u206 u207 u208 u209 u210 u211 u212 u213 u214 u215 u216 u217 u218 u219 u220 u221 u222 u223 u224 u225 u226 : Value} {b6 o6 m cl M nb : Nat} {st S U L D E Av : Int} (wx : World) (QX : Exit → Act → World → Prop) (hQ : ∀ c a d v w, QX (.panic c) (a.put d v) w → QX (.panic c) a w) (m0 : ∀ o, wx.cell? ⟨nb, o, none⟩ = (#[.int .i64 st, .int .i64 S, .int .i64 U, .int .i64 L, .int .i64 D, .int .i64 E] : Array Value)[o]?) (m1 : nb < wx.heap.size) (q0 : wx.cell? ⟨b6, o6 + M * 2, none⟩ = some (.int .i64 E)) (qb : b6 < wx.heap.size) (hlm : ((m : Nat) : Int) - 1 = (M : Int)) (hml : M < m) (hm : m ≤ 1000) (hAS : Av - S = st) (hst : 0 ≤ st ∧ st ≤ 8000000) (h1 : 0 ≤ L) (h2 : L ≤ Av) (h3 : 0 ≤ D) (h4 : D ≤ Av)
    (h : ∀ (v159 v160 v161 v162 v163 v164 v165 v166 v167 v168 v169 v170 v171 v172 v173 v174 v175 v176 v177 v178 v179 v180 v181 v182 v183 v184 v185 v186 v187 v188 v189 v190 v191 v192 v193 v194 v195 v196 v197 v198 v199 v200 v201 v202 v203 v204 v205 v206 v207 v208 v209 : Value) (w9 : World), Ext wx w9 → QX .normal ⟨List.toArray (u0 :: u1 :: u2 :: u3 :: u4 :: u5 :: u6 :: u7 :: u8 :: u9 :: u10 :: .slice (some ⟨b6, o6, none⟩) m cl :: .pointer (some ⟨nb, 0, none⟩) :: u13 :: .int .i64 S :: .int .i64 U :: u16 :: u17 :: .int .i64 Av :: u19 :: u20 :: u21 :: u22 :: u23 :: u24 :: u25 :: u26 :: u27 :: u28 :: u29 :: u30 :: u31 :: u32 :: u33 :: u34 :: u35 :: u36 :: u37 :: u38 :: u39 :: u40 :: u41 :: u42 :: u43 :: u44 :: u45 :: u46 :: u47 :: u48 :: u49 :: u50 :: u51 :: u52 :: u53 :: u54 :: u55 :: u56 :: u57 :: u58 :: u59 :: u60 :: u61 :: u62 :: u63 :: u64 :: u65 :: u66 :: u67 :: u68 :: u69 :: u70 :: u71 :: u72 :: u73 :: u74 :: u75 :: u76 :: u77 :: u78 :: u79 :: u80 :: u81 :: u82 :: u83 :: u84 :: u85 :: u86 :: u87 :: u88 :: u89 :: u90 :: u91 :: u92 :: u93 :: u94 :: u95 :: u96 :: u97 :: u98 :: u99 :: u100 :: u101 :: u102 :: u103 :: u104 :: u105 :: u106 :: u107 :: u108 :: u109 :: u110 :: u111 :: u112 :: u113 :: u114 :: u115 :: u116 :: u117 :: u118 :: u119 :: u120 :: u121 :: u122 :: u123 :: u124 :: u125 :: u126 :: u127 :: u128 :: u129 :: u130 :: u131 :: u132 :: u133 :: u134 :: u135 :: u136 :: u137 :: u138 :: u139 :: u140 :: u141 :: u142 :: u143 :: u144 :: u145 :: u146 :: u147 :: u148 :: u149 :: u150 :: u151 :: u152 :: u153 :: u154 :: u155 :: u156 :: u157 :: u158 :: v159 :: v160 :: v161 :: v162 :: v163 :: v164 :: v165 :: v166 :: v167 :: v168 :: v169 :: v170 :: v171 :: v172 :: v173 :: v174 :: v175 :: v176 :: v177 :: v178 :: v179 :: v180 :: v181 :: v182 :: v183 :: v184 :: v185 :: v186 :: v187 :: v188 :: v189 :: v190 :: v191 :: v192 :: v193 :: v194 :: v195 :: v196 :: v197 :: v198 :: v199 :: v200 :: v201 :: v202 :: v203 :: v204 :: v205 :: v206 :: v207 :: v208 :: v209 :: .bool false :: u211 :: u212 :: u213 :: u214 :: u215 :: u216 :: u217 :: u218 :: u219 :: u220 :: u221 :: u222 :: u223 :: u224 :: u225 :: u226 :: []), []⟩ w9) :
    Code.wp Try.prog (ledR 23) QX ⟨List.toArray (u0 :: u1 :: u2 :: u3 :: u4 :: u5 :: u6 :: u7 :: u8 :: u9 :: u10 :: .slice (some ⟨b6, o6, none⟩) m cl :: .pointer (some ⟨nb, 0, none⟩) :: u13 :: .int .i64 S :: .int .i64 U :: u16 :: u17 :: .int .i64 Av :: u19 :: u20 :: u21 :: u22 :: u23 :: u24 :: u25 :: u26 :: u27 :: u28 :: u29 :: u30 :: u31 :: u32 :: u33 :: u34 :: u35 :: u36 :: u37 :: u38 :: u39 :: u40 :: u41 :: u42 :: u43 :: u44 :: u45 :: u46 :: u47 :: u48 :: u49 :: u50 :: u51 :: u52 :: u53 :: u54 :: u55 :: u56 :: u57 :: u58 :: u59 :: u60 :: u61 :: u62 :: u63 :: u64 :: u65 :: u66 :: u67 :: u68 :: u69 :: u70 :: u71 :: u72 :: u73 :: u74 :: u75 :: u76 :: u77 :: u78 :: u79 :: u80 :: u81 :: u82 :: u83 :: u84 :: u85 :: u86 :: u87 :: u88 :: u89 :: u90 :: u91 :: u92 :: u93 :: u94 :: u95 :: u96 :: u97 :: u98 :: u99 :: u100 :: u101 :: u102 :: u103 :: u104 :: u105 :: u106 :: u107 :: u108 :: u109 :: u110 :: u111 :: u112 :: u113 :: u114 :: u115 :: u116 :: u117 :: u118 :: u119 :: u120 :: u121 :: u122 :: u123 :: u124 :: u125 :: u126 :: u127 :: u128 :: u129 :: u130 :: u131 :: u132 :: u133 :: u134 :: u135 :: u136 :: u137 :: u138 :: u139 :: u140 :: u141 :: u142 :: u143 :: u144 :: u145 :: u146 :: u147 :: u148 :: u149 :: u150 :: u151 :: u152 :: u153 :: u154 :: u155 :: u156 :: u157 :: u158 :: u159 :: u160 :: u161 :: u162 :: u163 :: u164 :: u165 :: u166 :: u167 :: u168 :: u169 :: u170 :: u171 :: u172 :: u173 :: u174 :: u175 :: u176 :: u177 :: u178 :: u179 :: u180 :: u181 :: u182 :: u183 :: u184 :: u185 :: u186 :: u187 :: u188 :: u189 :: u190 :: u191 :: u192 :: u193 :: u194 :: u195 :: u196 :: u197 :: u198 :: u199 :: u200 :: u201 :: u202 :: u203 :: u204 :: u205 :: u206 :: u207 :: u208 :: u209 :: u210 :: u211 :: u212 :: u213 :: u214 :: u215 :: u216 :: u217 :: u218 :: u219 :: u220 :: u221 :: u222 :: u223 :: u224 :: u225 :: u226 :: []), []⟩ wx := by
  have HH := Lib.hid h
  clear h
  unfold ledR
  conv => arg 2; whnf
  have hpc := plus_cell
  have e1 : decide (L < 0) = false := by simp; omega
  have e2 : decide (L > Av) = false := by simp; omega
  have e3 : decide (D < 0) = false := by simp; omega
  have e4 : decide (D > Av) = false := by simp; omega
  refine wp_region_ext 52 hQ (by kernel_rfl) (by kernel_rfl) (by kernel_rfl) (by kernel_rfl) ?_
  (try simp only [List.append_eq, List.cons_append, List.nil_append])
  simp only [List.take_succ_cons, List.take_zero, List.drop_succ_cons, List.drop_zero]
  repeat (any_goals (first | go_big_quiet_step (fail) | quiet_step (fail)))
  all_goals (refine wpQuiet_nil ?_; intro w9 hEw9)
  unfold wpList
  exact HH.out _ _ _ _ _ _ _ _ _ _ _ _ _ _ _ _ _ _ _ _ _ _ _ _ _ _ _ _ _ _ _ _ _ _ _ _ _ _ _ _ _ _ _ _ _ _ _ _ _ _ _ w9 hEw9
set_option maxRecDepth 1000000 in
set_option maxHeartbeats 64000000 in
theorem led_tail4 {u6 u7 u8 u9 u14 u15 u16 u17 u18 u19 u20 u21 u22 u23 u24 u25 u26 u27 u28 u29 u30 u31 u32 u33 u34 u35 u36 u37 u38 u39 u40 u41 u42 u43 u44 u45 u46 u47 u48 u49 u50 u51 u52 u53 u54 u55 u56 u57 u58 u59 u60 u61 u62 u63 u64 u65 u66 u67 u68 u69 u70 u71 u72 u73 u74 u75 u76 u77 u78 u79 u80 u81 u82 u83 u84 u85 u86 u87 u88 u89 u90 u91 u92 u93 u94 u95 u96 u97 u98 u99 u100 u101 u102 u103 u104 u105 u106 u107 u108 u109 u110 u111 u112 u113 u114 u115 u116 u117 u118 u119 u120 u121 u122 u123 u124 u125 u126 u127 u128 u129 u130 u131 u132 u133 u134 u135 u136 u137 u138 u139 u140 u141 u142 u143 u144 u145 u146 u147 u148 u149 u150 u151 u152 u153 u154 u155 u156 u157 u158 u159 u160 u161 u162 u163 u164 u165 u166 u167 u168 u169 u170 u171 u172 u173 u174 u175 u176 u177 u178 u179 u180 u181 u182 u183 u184 u185 u186 u187 u188 u189 u190 u191 u192 u193 u194 u195 u196 u197 u198 u199 u200 u201 u202 u203 u204 u205 u206 u207 u208 u209 u210 u211 u212 u213 u214 u215 u216 u217 u218 u219 u220 u221 u222 u223 u224 u225 u226 : Value} (c : C.Sys) (p b off : Int) (wt : ByteArray) (N : Nat) (F : Nat → C.St) (days : List C.Day) (st S U L D E gs gc hh hs Q : Int) (w w1 w3 : World) (a1 al : Option Addr) (c1 cl nb : Nat) (wv : World) (hL : Led c p b off wt N F days st S U L D E gs gc hh hs Q) (hP : Loads w (.slice a1 c.loads.length c1) c.loads) (hD3 : Days w3 (.slice al days.length cl) days) (hEv : Ext w3 wv) (hEwv : Ext w wv) (hE1v : Ext w1 wv) (hox : 0 ≤ off ∧ off ≤ 1000000) (HSE : Hid (∀ w', Ext w w' → Calls Try.prog 23 #[.agg (sysV c (.slice a1 c.loads.length c1))] w' fun e w2 => e = .returned (.int .i64 Q) ∧ Ext w' w2)) (HBX : Hid (∀ y, Ext w1 y → (∀ o, y.cell? ⟨w.heap.size, o, none⟩ = (sysV c (.slice a1 c.loads.length c1) : Array Value)[o]?) ∧ w.heap.size < y.heap.size)) (HLB : Hid (∀ y, Ext wv y → (∀ o, y.cell? ⟨nb, o, none⟩ = (#[.int .i64 st, .int .i64 S, .int .i64 U, .int .i64 L, .int .i64 D, .int .i64 E] : Array Value)[o]?) ∧ nb < y.heap.size)) :
    Code.wp Try.prog (ledT 4) (bodyPost Try.prog Try.f4 (fun e w' => e = .returned (.bool true) ∧ Ext w w')) ⟨List.toArray (.agg (sysV c (.slice a1 c.loads.length c1)) :: .int .i64 p :: .int .i64 b :: .int .i64 off :: .string wt :: .pointer (some ⟨w.heap.size, 0, none⟩) :: u6 :: u7 :: u8 :: u9 :: .bool false :: .slice al days.length cl :: .pointer (some ⟨nb, 0, none⟩) :: .int .i64 0 :: u14 :: u15 :: u16 :: u17 :: u18 :: u19 :: u20 :: u21 :: u22 :: u23 :: u24 :: u25 :: u26 :: u27 :: u28 :: u29 :: u30 :: u31 :: u32 :: u33 :: u34 :: u35 :: u36 :: u37 :: u38 :: u39 :: u40 :: u41 :: u42 :: u43 :: u44 :: u45 :: u46 :: u47 :: u48 :: u49 :: u50 :: u51 :: u52 :: u53 :: u54 :: u55 :: u56 :: u57 :: u58 :: u59 :: u60 :: u61 :: u62 :: u63 :: u64 :: u65 :: u66 :: u67 :: u68 :: u69 :: u70 :: u71 :: u72 :: u73 :: u74 :: u75 :: u76 :: u77 :: u78 :: u79 :: u80 :: u81 :: u82 :: u83 :: u84 :: u85 :: u86 :: u87 :: u88 :: u89 :: u90 :: u91 :: u92 :: u93 :: u94 :: u95 :: u96 :: u97 :: u98 :: u99 :: u100 :: u101 :: u102 :: u103 :: u104 :: u105 :: u106 :: u107 :: u108 :: u109 :: u110 :: u111 :: u112 :: u113 :: u114 :: u115 :: u116 :: u117 :: u118 :: u119 :: u120 :: u121 :: u122 :: u123 :: u124 :: u125 :: u126 :: u127 :: u128 :: u129 :: u130 :: u131 :: u132 :: u133 :: u134 :: u135 :: u136 :: u137 :: u138 :: u139 :: u140 :: u141 :: u142 :: u143 :: u144 :: u145 :: u146 :: u147 :: u148 :: u149 :: u150 :: u151 :: u152 :: u153 :: u154 :: u155 :: u156 :: u157 :: u158 :: u159 :: u160 :: u161 :: u162 :: u163 :: u164 :: u165 :: u166 :: u167 :: u168 :: u169 :: u170 :: u171 :: u172 :: u173 :: u174 :: u175 :: u176 :: u177 :: u178 :: u179 :: u180 :: u181 :: u182 :: u183 :: u184 :: u185 :: u186 :: u187 :: u188 :: u189 :: u190 :: u191 :: u192 :: u193 :: u194 :: u195 :: u196 :: u197 :: u198 :: u199 :: u200 :: u201 :: u202 :: u203 :: u204 :: u205 :: u206 :: u207 :: u208 :: u209 :: u210 :: u211 :: u212 :: u213 :: u214 :: u215 :: u216 :: u217 :: u218 :: u219 :: u220 :: u221 :: u222 :: u223 :: u224 :: u225 :: u226 :: []), []⟩ wv := by
  unfold ledT
  conv => arg 2; whnf
  obtain ⟨_, _, e0, hx3⟩ := hD3
  cases e0
  have HX3 := Lib.hid hx3
  obtain ⟨_, _, e1, hpx⟩ := hP
  cases e1
  have HPX := Lib.hid hpx
  have HL := Lib.hid hL
  clear hx3 hpx hL
  have hN14 := HL.out.N14
  have hN1 := HL.out.N1
  obtain ⟨k0, l0⟩ := HBX.out wv hE1v
  go_wp2
  (try clear k0 l0)
  go_loopw [14, 15, 16] (fun s14 s15 s16 wx => ∃ d : Nat, d ≤ N ∧ s14 = .int .i64 (F d).sun ∧ s15 = .int .i64 (F d).used ∧ s16 = .int .i64 d ∧ Ext wv wx) (fun _ _ s16 _ => N - (intOf s16).toNat)
  case atStart => exact ⟨0, Nat.zero_le _, by rw [HL.out.f0], by rw [HL.out.f1], rfl, Ext.refl _⟩
  case round =>
    rename World => wx
    obtain ⟨d, hd, rfl, rfl, rfl, hEx⟩ := hrel
    have hE3x := hEv.trans hEx
    have hEwx := hEwv.trans hEx
    have hE1x := hE1v.trans hEx
    obtain ⟨k0, l0⟩ := HBX.out wx hE1x
    by_cases hdN : d < N
    · obtain ⟨x, hx1, hx2⟩ := HL.out.xi d hdN
      have hsun := HL.out.su d x hx1
      rcases hx2 with rfl | rfl
      · have hidx : ∀ w, (Instr.index 9 (.string wt) (.int .i64 (d : Int))).run Try.prog w = .ok (.int .u8 115) w := fun w => str_at wt d _ hx1 w
        rw [HL.out.g1] at hsun
        have hlenD := HL.out.len
        have hdl : d < days.length := by omega
        clear hlenD
        obtain ⟨b6, o6, rfl, hb6, hAt6⟩ := HX3.out d hdl
        rw [HL.out.el d hdl] at hAt6
        have hbkd := HL.out.bk d (by omega)
        have hbkd1 := HL.out.bk (d + 1) (by omega)
        have hcbd := HL.out.cb d (by omega)
        have hused := HL.out.us d
        have hoffd := HL.out.of_ d
        obtain ⟨xb, hxb⟩ : ∃ xb, (F (d + 1)).e = xb := ⟨_, rfl⟩
        obtain ⟨xc, hxc⟩ : ∃ xc, (F (d + 1)).carried = xc := ⟨_, rfl⟩
        rw [hxb, hxc] at hAt6
        rw [hxc] at hcbd hused hoffd
        rw [hxb] at hbkd1
        obtain ⟨sd, hsd⟩ : ∃ sd, (F d).sun = sd := ⟨_, rfl⟩
        obtain ⟨ud, hud⟩ : ∃ ud, (F d).used = ud := ⟨_, rfl⟩
        rw [hsd, hud]
        rw [hsd] at hsun hbkd
        rw [hud] at hused hbkd
        obtain ⟨be1, be2, be3, be4, be5, be6, _⟩ := hbkd
        obtain ⟨bf1, bf2, _⟩ := hbkd1
        have HSUN := Lib.hid hsun
        have HUSD := Lib.hid hused
        have HOFD := Lib.hid hoffd
        have HAT := Lib.hid hAt6
        obtain ⟨q0, q1⟩ := day_cells (ate_stays _ _ _ _ _ _ hE3x hb6 hAt6)
        dsimp only at q0 q1
        have qb := Nat.lt_of_lt_of_le hb6 hE3x.size
        have hmul := HL.out.mgs
        have hmb := HL.out.gb1
        clear hsun hused hoffd hAt6 hxb hxc hsd hud hx1
        go_upto_region 13 with (fail)
        clear hmul hidx hmb
        refine led_reg13 _ _ (fun _ _ d _ _ h => by cases d <;> exact h) ⟨k0, l0⟩ q0 q1 qb HL.out.mhh HL.out.hhb (by omega) (by omega) (by omega) (by omega) HSE hdl hEwx ?_
        intro _ _ _ _ _ _ _ _ _ _ _ _ _ _ _ _ _ _ _ _ _ _ _ _ _ _ _ _ _ _ _ _ _ _ _ w9 hEw9
        clear q0 q1 qb k0 l0
        have hqb := HL.out.qb
        go_wp2
        go_loopw [15, 17] (fun s15 s17 wy => ∃ i : Nat, i ≤ c.loads.length ∧ s15 = .int .i64 (ud + needs c.loads xc i) ∧ s17 = .int .i64 i ∧ Ext w9 wy) (fun _ s17 _ => c.loads.length - (intOf s17).toNat)
        case atStart => exact ⟨0, Nat.zero_le _, by rw [show needs c.loads xc 0 = 0 from rfl, Int.add_zero], rfl, Ext.refl _⟩
        case round =>
          rename World => wy
          obtain ⟨i, hi, rfl, rfl, hEy⟩ := hrel
          have hE9y := hEw9.trans hEy
          have hE3y := hE3x.trans hE9y
          have hE1y := hE1x.trans hE9y
          have hEwy := hEwx.trans hE9y
          obtain ⟨k0, l0⟩ := HBX.out wy hE1y
          obtain ⟨q0, q1⟩ := day_cells (ate_stays _ _ _ _ _ _ hE3y hb6 HAT.out)
          have qb := Nat.lt_of_lt_of_le hb6 hE3y.size
          have hnbi := needs_bd HL.out.ld xc i hi
          have hn5 := HL.out.n5
          by_cases hin : i < c.loads.length
          · have hnbj := needs_bd HL.out.ld xc (i + 1) hin
            obtain ⟨b7, o7, rfl, hb7, hAt7⟩ := HPX.out i hin
            obtain ⟨m0, m1, m2⟩ := load_cells (ate_stays _ _ _ _ _ _ hEwy hb7 hAt7)
            have mb := Nat.lt_of_lt_of_le hb7 hEwy.size
            have hldi := HL.out.ld _ (List.getElem_mem hin)
            have hst : needs c.loads xc (i + 1) = needs c.loads xc i + if C.has xc i then c.loads[i].need else 0 := by rw [needs, C.lat_at hin]
            obtain ⟨li, hli⟩ : ∃ li, c.loads[i] = li := ⟨_, rfl⟩
            rw [hli] at hst m0 m1 m2 hldi
            clear hli hAt7
            cases H : C.has xc i with
            | true =>
              have hoi := HOFD.out i hin H
              rw [H, if_pos rfl] at hst
              have HST := Lib.hid hst
              have hbd : 0 ≤ ud + needs c.loads xc i + li.need ∧ ud + needs c.loads xc i + li.need ≤ 1000000000 := by omega
              clear hst
              go_wp2_with (first | (go_at_call 24; refine (dhas_any _ _ _ (by omega) (by omega) (by omega)).mono ?_; rintro e w6 ⟨rfl, rfl⟩))
              go_roundw
              case rel => exact ⟨i + 1, by omega, by rw [HST.out, Int.add_assoc], by go_num, hEy⟩
              case measure => simp [intOf]; omega
            | false =>
              rw [H, if_neg (by decide), Int.add_zero] at hst
              have HST := Lib.hid hst
              clear hst
              go_wp2_with (first | (go_at_call 24; refine (dhas_any _ _ _ (by omega) (by omega) (by omega)).mono ?_; rintro e w6 ⟨rfl, rfl⟩))
              go_roundw
              case rel => exact ⟨i + 1, by omega, by rw [HST.out], by go_num, hEy⟩
              case measure => simp [intOf]; omega
          · obtain rfl : i = c.loads.length := by omega
            go_wp2
            go_roundw
            case rel => exact ⟨d + 1, by omega, by rw [HSUN.out], by rw [HUSD.out], by go_num, hEx.trans hE9y⟩
            case measure => simp [intOf]; omega
      · have hidx : ∀ w, (Instr.index 9 (.string wt) (.int .i64 (d : Int))).run Try.prog w = .ok (.int .u8 99) w := fun w => str_at wt d _ hx1 w
        rw [HL.out.g2] at hsun
        have hlenD := HL.out.len
        have hdl : d < days.length := by omega
        clear hlenD
        obtain ⟨b6, o6, rfl, hb6, hAt6⟩ := HX3.out d hdl
        rw [HL.out.el d hdl] at hAt6
        have hbkd := HL.out.bk d (by omega)
        have hbkd1 := HL.out.bk (d + 1) (by omega)
        have hcbd := HL.out.cb d (by omega)
        have hused := HL.out.us d
        have hoffd := HL.out.of_ d
        obtain ⟨xb, hxb⟩ : ∃ xb, (F (d + 1)).e = xb := ⟨_, rfl⟩
        obtain ⟨xc, hxc⟩ : ∃ xc, (F (d + 1)).carried = xc := ⟨_, rfl⟩
        rw [hxb, hxc] at hAt6
        rw [hxc] at hcbd hused hoffd
        rw [hxb] at hbkd1
        obtain ⟨sd, hsd⟩ : ∃ sd, (F d).sun = sd := ⟨_, rfl⟩
        obtain ⟨ud, hud⟩ : ∃ ud, (F d).used = ud := ⟨_, rfl⟩
        rw [hsd, hud]
        rw [hsd] at hsun hbkd
        rw [hud] at hused hbkd
        obtain ⟨be1, be2, be3, be4, be5, be6, _⟩ := hbkd
        obtain ⟨bf1, bf2, _⟩ := hbkd1
        have HSUN := Lib.hid hsun
        have HUSD := Lib.hid hused
        have HOFD := Lib.hid hoffd
        have HAT := Lib.hid hAt6
        obtain ⟨q0, q1⟩ := day_cells (ate_stays _ _ _ _ _ _ hE3x hb6 hAt6)
        dsimp only at q0 q1
        have qb := Nat.lt_of_lt_of_le hb6 hE3x.size
        have hmul := HL.out.mgc
        have hmb := HL.out.gb2
        clear hsun hused hoffd hAt6 hxb hxc hsd hud hx1
        go_upto_region 13 with (fail)
        clear hmul hidx hmb
        refine led_reg13 _ _ (fun _ _ d _ _ h => by cases d <;> exact h) ⟨k0, l0⟩ q0 q1 qb HL.out.mhh HL.out.hhb (by omega) (by omega) (by omega) (by omega) HSE hdl hEwx ?_
        intro _ _ _ _ _ _ _ _ _ _ _ _ _ _ _ _ _ _ _ _ _ _ _ _ _ _ _ _ _ _ _ _ _ _ _ w9 hEw9
        clear q0 q1 qb k0 l0
        have hqb := HL.out.qb
        go_wp2
        go_loopw [15, 17] (fun s15 s17 wy => ∃ i : Nat, i ≤ c.loads.length ∧ s15 = .int .i64 (ud + needs c.loads xc i) ∧ s17 = .int .i64 i ∧ Ext w9 wy) (fun _ s17 _ => c.loads.length - (intOf s17).toNat)
        case atStart => exact ⟨0, Nat.zero_le _, by rw [show needs c.loads xc 0 = 0 from rfl, Int.add_zero], rfl, Ext.refl _⟩
        case round =>
          rename World => wy
          obtain ⟨i, hi, rfl, rfl, hEy⟩ := hrel
          have hE9y := hEw9.trans hEy
          have hE3y := hE3x.trans hE9y
          have hE1y := hE1x.trans hE9y
          have hEwy := hEwx.trans hE9y
          obtain ⟨k0, l0⟩ := HBX.out wy hE1y
          obtain ⟨q0, q1⟩ := day_cells (ate_stays _ _ _ _ _ _ hE3y hb6 HAT.out)
          have qb := Nat.lt_of_lt_of_le hb6 hE3y.size
          have hnbi := needs_bd HL.out.ld xc i hi
          have hn5 := HL.out.n5
          by_cases hin : i < c.loads.length
          · have hnbj := needs_bd HL.out.ld xc (i + 1) hin
            obtain ⟨b7, o7, rfl, hb7, hAt7⟩ := HPX.out i hin
            obtain ⟨m0, m1, m2⟩ := load_cells (ate_stays _ _ _ _ _ _ hEwy hb7 hAt7)
            have mb := Nat.lt_of_lt_of_le hb7 hEwy.size
            have hldi := HL.out.ld _ (List.getElem_mem hin)
            have hst : needs c.loads xc (i + 1) = needs c.loads xc i + if C.has xc i then c.loads[i].need else 0 := by rw [needs, C.lat_at hin]
            obtain ⟨li, hli⟩ : ∃ li, c.loads[i] = li := ⟨_, rfl⟩
            rw [hli] at hst m0 m1 m2 hldi
            clear hli hAt7
            cases H : C.has xc i with
            | true =>
              have hoi := HOFD.out i hin H
              rw [H, if_pos rfl] at hst
              have HST := Lib.hid hst
              have hbd : 0 ≤ ud + needs c.loads xc i + li.need ∧ ud + needs c.loads xc i + li.need ≤ 1000000000 := by omega
              clear hst
              go_wp2_with (first | (go_at_call 24; refine (dhas_any _ _ _ (by omega) (by omega) (by omega)).mono ?_; rintro e w6 ⟨rfl, rfl⟩))
              go_roundw
              case rel => exact ⟨i + 1, by omega, by rw [HST.out, Int.add_assoc], by go_num, hEy⟩
              case measure => simp [intOf]; omega
            | false =>
              rw [H, if_neg (by decide), Int.add_zero] at hst
              have HST := Lib.hid hst
              clear hst
              go_wp2_with (first | (go_at_call 24; refine (dhas_any _ _ _ (by omega) (by omega) (by omega)).mono ?_; rintro e w6 ⟨rfl, rfl⟩))
              go_roundw
              case rel => exact ⟨i + 1, by omega, by rw [HST.out], by go_num, hEy⟩
              case measure => simp [intOf]; omega
          · obtain rfl : i = c.loads.length := by omega
            go_wp2
            go_roundw
            case rel => exact ⟨d + 1, by omega, by rw [HSUN.out], by rw [HUSD.out], by go_num, hEx.trans hE9y⟩
            case measure => simp [intOf]; omega
    · obtain rfl : d = N := by omega
      rw [HL.out.eS, HL.out.eU]
      obtain ⟨M, hM⟩ : ∃ M, d = M + 1 := ⟨d - 1, by omega⟩
      have hlenD := HL.out.len
      have hdl : ¬ d < days.length := by omega
      have hlm : ((days.length : Nat) : Int) - 1 = (M : Int) := by omega
      have hml : M < days.length := by omega
      obtain ⟨b6, o6, rfl, hb6, hAt6⟩ := HX3.out M hml
      rw [HL.out.el M hml] at hAt6
      have hEE : (F (M + 1)).e = E := by rw [← hM]; exact HL.out.eE
      rw [hEE] at hAt6
      obtain ⟨q0, q1⟩ := day_cells (ate_stays _ _ _ _ _ _ hE3x hb6 hAt6)
      have qb := Nat.lt_of_lt_of_le hb6 hE3x.size
      obtain ⟨Av, hAv⟩ : ∃ Av, st + S = Av := ⟨_, rfl⟩
      have hbal0 := HL.out.bal
      obtain ⟨p1, p2, p3, p4, p5, p6⟩ := HL.out.pos
      have hstb := HL.out.stb
      have hbal : U + L + D + E = Av := by omega
      have hAS : Av - S = st := by omega
      obtain ⟨m0, m1⟩ := HLB.out wx hEx
      have g4 := HL.out.hhb
      have g5 := HL.out.hsb
      clear hAt6 hEE hlenD hM hdN hbal0
      have g1 := HL.out.mhh
      have g2 := HL.out.mhs
      have g3 := HL.out.mst
      go_upto_region 23 with (fail)
      clear g1 g2 g3 g4 g5
      refine led_reg23 _ _ (fun _ _ d _ _ h => by cases d <;> exact h) m0 m1 q0 qb hlm hml (by omega) hAS hstb (by omega) (by omega) (by omega) (by omega) ?_
      intro _ _ _ _ _ _ _ _ _ _ _ _ _ _ _ _ _ _ _ _ _ _ _ _ _ _ _ _ _ _ _ _ _ _ _ _ _ _ _ _ _ _ _ _ _ _ _ _ _ _ _ w9 hEw9
      clear m0 m1 q0 q1
      obtain ⟨m0, m1⟩ := HLB.out w9 (hEx.trans hEw9)
      have hEww9 := hEwx.trans hEw9
      go_wp2_with (first | (go_at_call 16; refine (known_any _).mono ?_; rintro e wk ⟨rfl, hbk⟩))
      go_ret
      exact ⟨rfl, by (with_reducible (repeat (first | exact Ext.refl _ | assumption | apply Ext.alloc | apply Ext.drew | exact ext_plus _ _ | (apply Ext.setCell; rotate_left; (simp <;> omega)) | (apply Ext.trans; rotate_left; exact ext_plus _ _) | (apply Ext.trans; rotate_left; assumption))))⟩
end Go.Proofs.Ytkjoojmlcjmlgaa
