/- The document's Known: the loop over the weathers. -/
import Derived.Test.YtkjoojmlcjmlgaaH14b
import Derived.Test.YtkjoojmlcjmlgaaH14c
import Derived.Maps.AppendAt
namespace Go.Proofs.Ytkjoojmlcjmlgaa
set_option linter.unusedVariables false
set_option linter.unusedSimpArgs false
open Go.RowKit
attribute [local go_sem] Oper.semAt_some
theorem days_row_info : (Try.prog.info? 27).map (fun i => (i.zero, i.size, i.bytes)) = some (some (.slice none 0 0), 1, 24) := by kernel_rfl
/-- What the agreeing ones of the first k weathers do. -/
def rsK (c : C.Sys) (p b : Int) (sky : C.Txt) (T : List C.Txt) (k : Nat) : List (List C.Day) := ((T.take k).filter fun w => C.agrees w sky).map (C.run c p b 0)
theorem rsK_yes {c : C.Sys} {p b : Int} {sky : C.Txt} {T : List C.Txt} {k : Nat} (h : k < T.length) (ha : C.agrees T[k] sky = true) : rsK c p b sky T (k + 1) = rsK c p b sky T k ++ [C.run c p b 0 T[k]] := by
  unfold rsK
  rw [List.take_succ_eq_append_getElem h, List.filter_append, List.map_append, List.filter_cons, if_pos ha]; rfl
theorem rsK_no {c : C.Sys} {p b : Int} {sky : C.Txt} {T : List C.Txt} {k : Nat} (h : k < T.length) (ha : C.agrees T[k] sky = false) : rsK c p b sky T (k + 1) = rsK c p b sky T k := by
  unfold rsK
  rw [List.take_succ_eq_append_getElem h, List.filter_append, List.map_append, List.filter_cons, if_neg (by rw [ha]; decide)]; simp
theorem rsK_all (c : C.Sys) (p b : Int) (sky : C.Txt) : rsK c p b sky (C.weathers c) (C.weathers c).length = C.runs c p b sky := by
  unfold rsK; rw [List.take_length]; rfl
/-- Values, each of which reads as one of the runs; none lies in the row s. -/
def RV (w : World) (s : Value) (vals : List Value) (rs : List (List C.Day)) : Prop := vals.length = rs.length ∧ ∀ j (h : j < vals.length) (h' : j < rs.length), Days w vals[j] rs[j] ∧ (rs[j] ≠ [] → ∀ g, s.ownBlock = some g → vals[j].ownBlock ≠ some g)
theorem RV.ext {w w' : World} {s : Value} {vals : List Value} {rs : List (List C.Day)} (h : RV w s vals rs) (he : Ext w w') : RV w' s vals rs := ⟨h.1, fun j h1 h2 => ⟨(h.2 j h1 h2).1.ext he, (h.2 j h1 h2).2⟩⟩
theorem days_but {w w' : World} {v : Value} {xs : List C.Day} {row : Option Nat} (h : Days w v xs) (hn : xs ≠ [] → ∀ g, row = some g → v.ownBlock ≠ some g) (hg : w.grownBy w' row) : Days w' v xs := by
  obtain ⟨a, cap, rfl, hx⟩ := h
  refine ⟨a, cap, rfl, fun i hi => ?_⟩
  obtain ⟨b', off, rfl, hl, hAt⟩ := hx i hi
  have h1 := hn (by intro e; subst e; simp at hi)
  have hb := hg.block b' hl (fun e => h1 b' e.symm rfl)
  refine ⟨b', off, rfl, Nat.lt_of_lt_of_le hl hg.size, fun j u hu => ?_⟩
  rw [World.cell?_of_block (w := w) (w' := w') (by exact hb)]
  exact hAt j u hu
theorem days_block {w : World} {v : Value} {xs : List C.Day} (h : Days w v xs) (hne : xs ≠ []) : v.ownBlock ≠ some w.heap.size := by
  obtain ⟨a, cap, rfl, hx⟩ := h
  obtain ⟨b', off, rfl, hl, _⟩ := hx 0 (List.length_pos_iff.2 hne)
  intro e
  have e2 : b' = w.heap.size := by simpa [Value.ownBlock] using e
  omega
theorem RV.push {w w' : World} {s s' : Value} {vals : List Value} {rs : List (List C.Day)} {v : Value} {r : List C.Day} (h : RV w s vals rs) (hv : Days w v r) (hvs : ∀ g, s.ownBlock = some g → v.ownBlock ≠ some g) (hg : w.grownBy w' s.ownBlock) (hat : s'.ownBlock = s.ownBlock ∨ s'.ownBlock = some w.heap.size) : RV w' s' (vals ++ [v]) (rs ++ [r]) := by
  have key : ∀ (x : Value) (y : List C.Day), Days w x y → (y ≠ [] → ∀ g, s.ownBlock = some g → x.ownBlock ≠ some g) → Days w' x y ∧ (y ≠ [] → ∀ g, s'.ownBlock = some g → x.ownBlock ≠ some g) := by
    intro x y hxy hn
    refine ⟨days_but hxy hn hg, fun hy g hgs => ?_⟩
    rcases hat with e | e
    · exact hn hy g (e.symm.trans hgs)
    · have e2 : g = w.heap.size := by rw [e] at hgs; simpa using hgs.symm
      subst e2; exact days_block hxy hy
  refine ⟨by simp [h.1], fun j h1 h2 => ?_⟩
  by_cases hj : j < vals.length
  · have h3 := h.2 j hj (by have := h.1; omega)
    rw [List.getElem_append_left hj, List.getElem_append_left (by have := h.1; omega)]
    exact key _ _ h3.1 h3.2
  · have e1 : j = vals.length := by simp at h1; omega
    subst e1
    rw [List.getElem_append_right (Nat.le_refl _), List.getElem_append_right (by have := h.1; omega)]
    have h4 := key v r hv (fun _ => hvs)
    simpa [h.1] using h4
theorem rowsD_of {w : World} {s : Value} {base g cap : Nat} {vals : List Value} {rs : List (List C.Day)} (h : w.ownsRow base 27 1 (.slice (some ⟨g, 0, none⟩) vals.length cap) vals.length vals) (hv : RV w s vals rs) : RowsD w (.slice (some ⟨g, 0, none⟩) rs.length cap) rs := by
  refine ⟨_, cap, rfl, fun i hi => ?_⟩
  have hi' : i < vals.length := by have := hv.1; omega
  have hg : g < w.heap.size := by
    obtain ⟨g', c', e, _, h2⟩ := own_pos h (by omega)
    cases e; exact h2
  refine ⟨g, 0, vals[i], rfl, hg, ?_, (hv.2 i hi' hi).1⟩
  rw [Nat.zero_add]
  exact own_cell h i _ (by simp [hi'])
set_option maxRecDepth 1000000 in
set_option maxHeartbeats 64000000 in
theorem knw_tail3 {u0 u5 u6 u7 u8 u9 u12 u13 u14 u15 u16 u17 u18 u19 u20 u21 u22 u23 u24 u25 u26 u27 u28 u29 u30 u31 u32 u33 u34 u35 u36 u37 u38 u39 u40 u41 u42 u43 u44 u45 u46 u47 u48 u49 u50 u51 u52 u53 u54 u55 u56 u57 u58 u59 u60 u61 u62 u63 u64 u65 u66 u67 u68 u69 u70 u71 u72 u73 u74 u75 u76 u77 u78 u79 u80 u81 u82 u83 u84 u85 u86 u87 u88 u89 u90 u91 u92 u93 u94 u95 u96 u97 u98 u99 u100 u101 u102 u103 u104 u105 u106 u107 u108 u109 u110 u111 u112 u113 u114 u115 u116 u117 u118 u119 u120 u121 u122 u123 u124 u125 u126 u127 u128 u129 u130 u131 u132 u133 u134 u135 u136 u137 u138 u139 u140 u141 u142 u143 u144 u145 u146 u147 u148 u149 u150 : Value} (c : C.Sys) (p b : Int) (sk : ByteArray) (T : List C.Txt) (F : Nat → List (List C.Day)) (N : Nat) (w wv : World) (a1 aT : Option Addr) (c1 cT bw : Nat) (hP : Loads w (.slice a1 c.loads.length c1) c.loads) (O : C.Ok c) (hp0 : 0 ≤ p) (hp1 : p ≤ 12) (hb0 : 0 ≤ b) (hb1 : b ≤ 8) (hT : Texts wv (.slice aT T.length cT) T) (htw : ∀ k (h : k < T.length), List.length (T[k] : C.Txt) = N) (hMM : T.length ≤ 1024) (hN : N ≤ 10) (hsz : sk.size = N) (hF0 : F 0 = []) (HLN : Hid (∀ r ∈ F T.length, r.length = N)) (HCR : Hid (∀ r ∈ F T.length, ∀ x ∈ r, 0 ≤ x.carried ∧ x.carried ≤ 1024)) (hdz : c.days = (N : Int)) (hn5 : c.loads.length ≤ 5) (HFY : Hid (∀ k (h : k < T.length), C.agrees T[k] sk.data.toList = true → F (k + 1) = F k ++ [C.run c p b 0 T[k]])) (HFN : Hid (∀ k (h : k < T.length), C.agrees T[k] sk.data.toList = false → F (k + 1) = F k)) (hEwv : Ext w wv) (HBX : Hid (∀ y, Ext wv y → (∀ o, y.cell? ⟨bw, o, none⟩ = (sysV c (.slice a1 c.loads.length c1) : Array Value)[o]?) ∧ bw < y.heap.size)) :
    Code.wp Try.prog (knwT 3) (bodyPost Try.prog Try.f46 (KP c (F T.length) w)) ⟨List.toArray (u0 :: .int .i64 p :: .int .i64 b :: .string sk :: .pointer (some ⟨bw, 0, none⟩) :: u5 :: u6 :: u7 :: u8 :: u9 :: .slice aT T.length cT :: .slice none 0 0 :: u12 :: u13 :: u14 :: u15 :: u16 :: u17 :: u18 :: u19 :: u20 :: u21 :: u22 :: u23 :: u24 :: u25 :: u26 :: u27 :: u28 :: u29 :: u30 :: u31 :: u32 :: u33 :: u34 :: u35 :: u36 :: u37 :: u38 :: u39 :: u40 :: u41 :: u42 :: u43 :: u44 :: u45 :: u46 :: u47 :: u48 :: u49 :: u50 :: u51 :: u52 :: u53 :: u54 :: u55 :: u56 :: u57 :: u58 :: u59 :: u60 :: u61 :: u62 :: u63 :: u64 :: u65 :: u66 :: u67 :: u68 :: u69 :: u70 :: u71 :: u72 :: u73 :: u74 :: u75 :: u76 :: u77 :: u78 :: u79 :: u80 :: u81 :: u82 :: u83 :: u84 :: u85 :: u86 :: u87 :: u88 :: u89 :: u90 :: u91 :: u92 :: u93 :: u94 :: u95 :: u96 :: u97 :: u98 :: u99 :: u100 :: u101 :: u102 :: u103 :: u104 :: u105 :: u106 :: u107 :: u108 :: u109 :: u110 :: u111 :: u112 :: u113 :: u114 :: u115 :: u116 :: u117 :: u118 :: u119 :: u120 :: u121 :: u122 :: u123 :: u124 :: u125 :: u126 :: u127 :: u128 :: u129 :: u130 :: u131 :: u132 :: u133 :: u134 :: u135 :: u136 :: u137 :: u138 :: u139 :: u140 :: u141 :: u142 :: u143 :: u144 :: u145 :: u146 :: u147 :: u148 :: u149 :: u150 :: []), []⟩ wv := by
  unfold knwT
  conv => arg 2; whnf
  obtain ⟨_, _, e0, hxt⟩ := hT
  cases e0
  have HXT := Lib.hid hxt
  have HTW := Lib.hid htw
  have HP := Lib.hid hP
  have HO := Lib.hid O
  clear hxt htw hP O
  obtain ⟨j0, hj0, hy0, hy1, hy2⟩ := info_parts days_row_info
  go_step
  rename Act → World → Prop => KK
  rename ∀ _ _, _ → KK _ _ => hKK
  have HKK := Lib.hid hKK
  clear hKK
  go_wp2
  go_loopw [11, 12] (fun s11 s12 wx => ∃ (k : Nat) (vals : List Value), k ≤ T.length ∧ s12 = .int .i64 k ∧ wx.ownsRow wv.heap.size 27 1 s11 vals.length vals ∧ RV wx s11 vals (F k) ∧ vals.length ≤ k ∧ Ext wv wx) (fun _ s _ => T.length - (intOf s).toNat)
  case atStart => exact ⟨0, [], Nat.zero_le _, rfl, World.ownsRow_nil _ _ _ _, ⟨by rw [hF0]; rfl, fun j h => by cases h⟩, Nat.le_refl _, Ext.refl _⟩
  case round =>
    rename World => wx
    obtain ⟨k, vals, hk, rfl, hown, hrv, hvk, hEvx⟩ := hrel
    have hEwx := hEwv.trans hEvx
    obtain ⟨k0, l0⟩ := HBX.out wx hEvx
    by_cases hkM : k < T.length
    · have hfy := HFY.out k hkM
      have hfn := HFN.out k hkM
      have htw := HTW.out k hkM
      have HKM := Lib.hid hkM
      obtain ⟨bt, ot, rfl, hbt, hAt⟩ := HXT.out k hkM
      have n0 : wx.cell? ⟨bt, ot + k, none⟩ = some (.string (bs T[k])) := by have h := hAt 0 (.string (bs T[k])) rfl; simp only [Nat.mul_one, Nat.add_zero] at h; exact (hEvx.cells.1 _ _ hbt).trans h
      have mb := Nat.lt_of_lt_of_le hbt hEvx.size
      generalize ht : (T[k]'hkM : C.Txt) = t at n0 htw hfy hfn
      clear hAt ht
      obtain ⟨tx, htx⟩ : ∃ tx, bs t = tx := ⟨_, rfl⟩
      have htd : t = tx.data.toList := by rw [← htx, bs_list]
      rw [htx] at n0
      have htz : tx.size = N := by rw [← htx, bs_size]; exact htw
      have hag := fun w' => dagrees_any tx sk w' (by omega) (by omega)
      have hss : decide (tx.size = sk.size) = true := by simp; omega
      simp only [hss, Bool.and_true, ← htd] at hag
      obtain ⟨asl, csl, rfl⟩ := own_slice hown
      have HOW := Lib.hid hown
      have HRV := Lib.hid hrv
      clear hown hrv
      cases hA : C.agrees t sk.data.toList with
      | false =>
        have hF := hfn hA
        simp only [hA] at hag
        have HAG := Lib.hid hag
        have HF := Lib.hid hF
        clear hag hF hfy hfn htd htx hss htw
        go_wp2_with (first | (go_at_call 27; refine (HAG.out _).mono ?_; rintro e w10 ⟨rfl, hb10⟩; (try clear k0 l0); obtain ⟨k0, l0⟩ := HBX.out w10 (hEvx.trans hb10)))
        go_roundw
        case rel => exact ⟨k + 1, vals, HKM.out, by go_num, own_ext HOW.out hb10, by rw [HF.out]; exact HRV.out.ext hb10, by omega, hEvx.trans hb10⟩
        case measure => have := HKM.out; simp [intOf]; omega
      | true =>
        have hF := hfy hA
        simp only [hA] at hag
        have HAG := Lib.hid hag
        have hru := fun w' (hx : Ext w w') => drun_any c p b 0 tx _ w' (HP.out.ext hx) HO.out hp0 hp1 hb0 hb1 (Int.le_refl _) (Int.pow_pos (by decide)) (by omega)
        simp only [← htd] at hru
        generalize C.run c p b 0 t = days at hF hru
        have hru2 : ∀ w', Ext w w' → Calls Try.prog 21 #[.agg (sysV c (.slice a1 c.loads.length c1)), .int .i64 p, .int .i64 b, .int .i64 0, .string tx] w' fun e w2 => ∃ v g0 g1 g2 g3 g4 g5, e = .returned (.tuple #[v, .agg #[.int .i64 g0, .int .i64 g1, .int .i64 g2, .int .i64 g3, .int .i64 g4, .int .i64 g5]]) ∧ Days w2 v days ∧ Ext w' w2 ∧ ∀ j, v.ownBlock = some j → w'.heap.size ≤ j := fun w' hx => (hru w' hx).mono fun e w2 ⟨v, h1, h2, h3, h4⟩ => ⟨v, _, _, _, _, _, _, h1, h2, h3, h4⟩
        have HRUN := Lib.hid hru2
        have HF := Lib.hid hF
        clear hru hru2 hF hag hfy hfn htd htx hss htw
        go_upto_region 7 with (first | (go_at_call 27; refine (HAG.out _).mono ?_; rintro e w10 ⟨rfl, hb10⟩; (try clear k0 l0); obtain ⟨k0, l0⟩ := HBX.out w10 (hEvx.trans hb10)))
        have n0' := (hb10.cells.1 _ _ mb).trans n0
        have mb' := Nat.lt_of_lt_of_le mb hb10.size
        have hEw10 := hEwx.trans hb10
        refine knw_reg7 _ _ (fun _ _ d _ _ h => by cases d <;> exact h) ⟨k0, l0⟩ n0' mb' hkM HRUN hEw10 ?_
        intro _ _ _ _ _ _ _ _ _ _ _ _ ad cd w11 hE11 hD11 hO11
        have hEx11 := hb10.trans hE11
        have hvs : ∀ g, Value.ownBlock (.slice asl vals.length csl) = some g → Value.ownBlock (.slice ad days.length cd) ≠ some g := fun g h1 h2 => by have h3 := (HOW.out.lt g h1).2; have h4 := hO11 g h2; have h5 := hb10.size; omega
        have hos := own_ext HOW.out hEx11
        have HOS := Lib.hid hos
        clear hos
        have hzv := (hEvx.trans hEx11).size
        have hvlen : vals.length ≤ 1000000 := by omega
        clear k0 l0 n0 n0' mb mb'
        go_wp2_with (first | (at_builtin; refine wpList_append_own_at _ rfl _ _ 119 rfl (wv.heap.size) 27 j0 (.slice none 0 0) 1 24 Try.underlying119 hj0 hy0 hy1 hy2 rfl (by decide) _ _ _ rfl (own_ext HOS.out ((Ext.refl _).alloc _)) ⟨w11.heap.size, 0, none⟩ 1 1 [.slice ad days.length cd] rfl rfl (cell_one _ _ _ (by simp)) (by intro u hu; simp at hu; subst hu; rfl) (by unfold maxLen; omega) (by omega) (by simp; omega) ?_; intro v' w12 hown' hgrow _ hat'))
        have hEa : Ext w11 (w11.alloc (.cells #[.slice ad days.length cd] 27)) := (Ext.refl _).alloc _
        have hE12 : Ext wv w12 := Ext.grown ((hEvx.trans hEx11).trans hEa) hgrow (own_base HOS.out)
        go_roundw
        case rel => exact ⟨k + 1, vals ++ [.slice ad days.length cd], HKM.out, by go_num, by simpa using hown', by rw [HF.out]; exact RV.push (HRV.out.ext (hEx11.trans hEa)) (hD11.ext hEa) hvs hgrow hat', by simp; omega, hE12⟩
        case measure => have := HKM.out; simp [intOf]; omega
    · have hkk : k = T.length := by omega
      subst hkk
      by_cases hz : F T.length = []
      · have hv0 : vals.length = 0 := by rw [hrv.1, hz]; rfl
        have hlz : (((vals.length : Nat) : Int) == 0) = true := by simp [hv0]
        obtain ⟨asl, csl, rfl⟩ := own_slice hown
        go_wp2
        refine HKK.out _ _ ?_
        go_wp2
        all_goals exact (bodyPost_ret (v := .tuple #[.slice none 0 0, .bool false]) (by simp [results, Try.results46, go_sem]) rfl ⟨.inl ⟨rfl, hz⟩, hEwx⟩)
      · have hvp : 0 < vals.length := by rw [hrv.1]; exact List.length_pos_iff.2 hz
        obtain ⟨g, cg, rfl, hgb, hgl⟩ := own_pos hown hvp
        have hvl : vals.length = (F T.length).length := hrv.1
        have hRD := rowsD_of hown hrv
        rw [hvl]
        go_wp2
        exact HKK.out _ _ (knw_tail4 c (F T.length) N w wx a1 c1 bw g 0 cg hRD HLN.out HCR.out (by omega) hN hdz hn5 hz hEwx (Lib.hid fun y hy => HBX.out y (hEvx.trans hy)))
end Go.Proofs.Ytkjoojmlcjmlgaa
