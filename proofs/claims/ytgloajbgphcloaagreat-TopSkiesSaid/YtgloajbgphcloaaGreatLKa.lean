/- The law TopSkies: the tails of its code. -/
import Derived.Test.YtgloajbgphcloaaGreatKn
import Derived.Test.YtgloajbgphcloaaGreatSkM
import Derived.Test.YtgloajbgphcloaaGreatSk1
import Derived.Test.YtgloajbgphcloaaGreatSk3
import Derived.Test.YtgloajbgphcloaaGreatTl
namespace Go.Proofs.YtgloajbgphcloaaGreat
set_option linter.unusedVariables false
set_option linter.unusedSimpArgs false
open Go.RowKit
theorem app_list (a b : ByteArray) : (a ++ b).data.toList = a.data.toList ++ b.data.toList := by simp
theorem sky_pos (i : Ln.Islet) (c : Cl.C.Sys) (t : Ln.Truth) (row : Int) (q7 : t.dry.length = i.months.length) (q3 : i.months.length ≤ 7) (q5 : 0 ≤ row) (q6 : row < (i.months.length : Int)) :
    Ln.possible (⟨i.cap, i.sl, i.sh, i.roof, i.sand, i.kl, i.kh, i.ll, i.lh, i.pump, i.keep, i.size, i.wells, i.months, (i.months.length : Int), row⟩ : Ln.Islet) t.dry = Cl.C.allowed (⟨c.sunny, c.cloudy, c.size, c.fade, c.start, c.loads, (i.months.length : Int), row + 1, row, c.panel, c.battery⟩ : Cl.C.Sys) (txtOf t.dry) := by
  obtain ⟨r, rfl⟩ := Int.eq_ofNat_of_zero_le q5
  rw [alw_eq]
  have h := pos_allowed t.dry r (by omega) (by omega)
  rw [q7] at h
  exact h
theorem sky_known {c : Cl.C.Sys} {d : List Bool} (hs : Cl.C.sysB c = true) {n : Nat} (hd : d.length = n) (hn : c.days = (n : Int) := by rfl) : Cl.knownB c 1 1 (txtOf d) = true := by
  unfold Cl.knownB Cl.givenB Cl.C.skyB
  rw [hs, txt_sky, txt_len, hd, hn]
  have h1 : Cl.C.offB c 0 = true := by
    unfold Cl.C.offB Cl.C.within Cl.C.sets
    have : (0 : Int) < 2 ^ c.loads.length := Int.pow_pos (by decide)
    simp; omega
  rw [h1]
  simp [Cl.C.partsB, Cl.C.within]
noncomputable def skyT (n : Nat) : Code := codeTail n (Tryz.f4.body.getD .skip)
set_option maxRecDepth 1000000 in
set_option maxHeartbeats 64000000 in
theorem sky_tail7 {u0 u1 u2 u3 u4 u5 u7 u12 u13 u14 u15 u16 u17 u18 u19 u20 u21 u22 u23 u24 u25 u26 u27 u28 u29 u30 u31 u32 u33 u34 u35 u36 u37 u38 u39 u40 u41 u42 u43 u44 u45 u46 u47 u48 u49 u50 u51 u52 u53 u54 u55 u56 u57 u58 u59 u60 u61 u62 u63 u64 u65 u66 u67 u68 u69 u70 u71 u72 u73 u74 u75 u76 u77 u78 u79 u80 u81 u82 u83 u84 u85 u86 u87 u88 u89 u90 u91 u92 u93 u94 u95 u96 u97 u98 u99 u100 u101 u102 u103 u104 u105 u106 u107 u108 u109 u110 u111 u112 u113 u114 u115 u116 u117 u118 u119 u120 u121 u122 u123 u124 u125 u126 u127 u128 u129 u130 u131 u132 u133 u134 u135 u136 u137 u138 u139 u140 u141 u142 u143 u144 u145 u146 u147 u148 u149 u150 u151 u152 u153 u154 u155 u156 u157 u158 u159 u160 u161 u162 u163 u164 u165 u166 u167 u168 u169 u170 u171 u172 u173 u174 u175 u176 u177 u178 u179 u180 u181 u182 u183 u184 u185 u186 u187 u188 u189 u190 u191 u192 u193 u194 u195 u196 u197 u198 u199 u200 u201 u202 u203 : Value} {bx bz : Nat} {i : Ln.Islet} {c : Cl.C.Sys} {t : Ln.Truth} {row : Int} {w w1 : World} {n0 c1 c2 c3 c4 c5 c6 : Nat} {a1 a2 a3 a4 a5 a6 : Option Addr} (wz : World) (HWE : Hid (∀ W, Ext w W → Ints W (.slice a1 i.wells.length c1) i.wells)) (HMO : Hid (∀ W, Ext w W → Ln.Months W (.slice a2 i.months.length c2) i.months)) (HLO : Hid (∀ W, Ext w W → Cl.Loads W (.slice a3 c.loads.length c3) c.loads)) (HDR : Hid (∀ W, Ext w W → Ln.Bools W (.slice a4 t.dry.length c4) t.dry)) (HRA : Hid (∀ W, Ext w W → Ints W (.slice a5 t.rains.length c5) t.rains)) (HNE : Hid (∀ W, Ext w W → Ints W (.slice a6 t.needs.length c6) t.needs)) (HBX : Hid (∀ y, Ext w1 y → Blk y n0 #[.int .i64 i.cap, .int .i64 i.sl, .int .i64 i.sh, .int .i64 i.roof, .int .i64 i.sand, .int .i64 i.kl, .int .i64 i.kh, .int .i64 i.ll, .int .i64 i.lh, .int .i64 i.pump, .int .i64 i.keep, .int .i64 i.size, .slice a1 i.wells.length c1, .slice a2 i.months.length c2, .int .i64 i.most, .int .i64 i.row] 52 ∧ Blk y (n0 + 1) #[.int .i64 c.sunny, .int .i64 c.cloudy, .int .i64 c.size, .int .i64 c.fade, .int .i64 c.start, .slice a3 c.loads.length c3, .int .i64 c.days, .int .i64 c.window, .int .i64 c.most, .int .i64 c.panel, .int .i64 c.battery] 55 ∧ Blk y (n0 + 1 + 1) #[.int .i64 t.start, .int .i64 t.soak, .int .i64 t.leak, .slice a4 t.dry.length c4, .slice a5 t.rains.length c5, .slice a6 t.needs.length c6] 58)) (hE1 : Ext w1 wz) (hE : Ext w wz) (q1 : i.wells.length ≤ 10) (q2 : 2 ≤ i.months.length) (q3 : i.months.length ≤ 7) (q4 : c.loads.length ≤ 10) (q5 : 0 ≤ row) (q6 : row < (i.months.length : Int)) (q7 : t.dry.length = i.months.length) (q8 : t.rains.length = i.months.length) (q9 : t.needs.length = i.months.length) (hn : w.heap.size ≤ n0) (hX : Blk wz bx #[.int .i64 i.cap, .int .i64 i.sl, .int .i64 i.sh, .int .i64 i.roof, .int .i64 i.sand, .int .i64 i.kl, .int .i64 i.kh, .int .i64 i.ll, .int .i64 i.lh, .int .i64 i.pump, .int .i64 i.keep, .int .i64 i.size, .slice a1 i.wells.length c1, .slice a2 i.months.length c2, .int .i64 (i.months.length : Int), .int .i64 row] 52) (hY : Blk wz bz #[.int .i64 c.sunny, .int .i64 c.cloudy, .int .i64 c.size, .int .i64 c.fade, .int .i64 c.start, .slice a3 c.loads.length c3, .int .i64 (i.months.length : Int), .int .i64 (row + 1), .int .i64 row, .int .i64 c.panel, .int .i64 c.battery] 55) (hi : Ln.islB (⟨i.cap, i.sl, i.sh, i.roof, i.sand, i.kl, i.kh, i.ll, i.lh, i.pump, i.keep, i.size, i.wells, i.months, (i.months.length : Int), row⟩ : Ln.Islet) = true) (hsy : Cl.C.sysB (⟨c.sunny, c.cloudy, c.size, c.fade, c.start, c.loads, (i.months.length : Int), row + 1, row, c.panel, c.battery⟩ : Cl.C.Sys) = true) :
    Code.wp Tryz.prog (skyT 7) (bodyPost Tryz.prog Tryz.f4 (fun e w' => e = .returned (.bool true) ∧ Ext w w')) ⟨List.toArray (u0 :: u1 :: u2 :: u3 :: u4 :: u5 :: .pointer (some ⟨n0 + 1 + 1, 0, none⟩) :: u7 :: .bool false :: .int .i64 (i.months.length : Int) :: .pointer (some ⟨bx, 0, none⟩) :: .pointer (some ⟨bz, 0, none⟩) :: u12 :: u13 :: u14 :: u15 :: u16 :: u17 :: u18 :: u19 :: u20 :: u21 :: u22 :: u23 :: u24 :: u25 :: u26 :: u27 :: u28 :: u29 :: u30 :: u31 :: u32 :: u33 :: u34 :: u35 :: u36 :: u37 :: u38 :: u39 :: u40 :: u41 :: u42 :: u43 :: u44 :: u45 :: u46 :: u47 :: u48 :: u49 :: u50 :: u51 :: u52 :: u53 :: u54 :: u55 :: u56 :: u57 :: u58 :: u59 :: u60 :: u61 :: u62 :: u63 :: u64 :: u65 :: u66 :: u67 :: u68 :: u69 :: u70 :: u71 :: u72 :: u73 :: u74 :: u75 :: u76 :: u77 :: u78 :: u79 :: u80 :: u81 :: u82 :: u83 :: u84 :: u85 :: u86 :: u87 :: u88 :: u89 :: u90 :: u91 :: u92 :: u93 :: u94 :: u95 :: u96 :: u97 :: u98 :: u99 :: u100 :: u101 :: u102 :: u103 :: u104 :: u105 :: u106 :: u107 :: u108 :: u109 :: u110 :: u111 :: u112 :: u113 :: u114 :: u115 :: u116 :: u117 :: u118 :: u119 :: u120 :: u121 :: u122 :: u123 :: u124 :: u125 :: u126 :: u127 :: u128 :: u129 :: u130 :: u131 :: u132 :: u133 :: u134 :: u135 :: u136 :: u137 :: u138 :: u139 :: u140 :: u141 :: u142 :: u143 :: u144 :: u145 :: u146 :: u147 :: u148 :: u149 :: u150 :: u151 :: u152 :: u153 :: u154 :: u155 :: u156 :: u157 :: u158 :: u159 :: u160 :: u161 :: u162 :: u163 :: u164 :: u165 :: u166 :: u167 :: u168 :: u169 :: u170 :: u171 :: u172 :: u173 :: u174 :: u175 :: u176 :: u177 :: u178 :: u179 :: u180 :: u181 :: u182 :: u183 :: u184 :: u185 :: u186 :: u187 :: u188 :: u189 :: u190 :: u191 :: u192 :: u193 :: u194 :: u195 :: u196 :: u197 :: u198 :: u199 :: u200 :: u201 :: u202 :: u203 :: []), []⟩ wz := by
  unfold skyT
  conv => arg 2; whnf
  have Q7 := Lib.hid q7
  have Q8 := Lib.hid q8
  have Q9 := Lib.hid q9
  have HI := Lib.hid hi
  have HSY := Lib.hid hsy
  clear q7 q8 q9 hi hsy
  have hpc := plus_cell
  go_wp2
  go_loopw [13, 12] (fun s13 s12 wr => ∃ (k : Nat) (s : ByteArray), k ≤ i.months.length ∧ s13 = .int .i64 k ∧ s12 = .string s ∧ s.data.toList = txtOf (t.dry.take k) ∧ (∀ j, j < k → Ln.monthT (⟨i.cap, i.sl, i.sh, i.roof, i.sand, i.kl, i.kh, i.ll, i.lh, i.pump, i.keep, i.size, i.wells, i.months, (i.months.length : Int), row⟩ : Ln.Islet) t j = true) ∧ Ext wz wr) (fun s13 _ _ => i.months.length - (intOf s13).toNat)
  case atStart => exact ⟨0, ⟨#[]⟩, Nat.zero_le _, rfl, rfl, by simp [txtOf], fun j h => by omega, Ext.refl _⟩
  case round =>
    rename World => wr
    obtain ⟨k, s, hk, rfl, rfl, hts, hgo, hEr⟩ := hrel
    have HT := Lib.hid hts
    have HGO := Lib.hid hgo
    have hsz : s.size = k := by have h9 := congrArg List.length hts; rw [txt_len, List.length_take, Q7.out] at h9; simp at h9; omega
    have hcat : ¬ 9223372036854775807 < s.size + 1 := by omega
    have HCAT := Lib.hid hsz
    clear hts hgo hsz
    have hXr := hX.ext hEr
    have hTr := (HBX.out _ (hE1.trans hEr)).2.2
    have k0 := hXr.cell
    have k1 := hXr.lt
    have k2 := hTr.cell
    have k3 := hTr.lt
    by_cases hlt : k < i.months.length
    · have hkD : k < t.dry.length := by rw [Q7.out]; exact hlt
      have hkR : k < t.rains.length := by rw [Q8.out]; exact hlt
      have hkN : k < t.needs.length := by rw [Q9.out]; exact hlt
      have HKD := Lib.hid hkD
      have hEw := hE.trans hEr
      obtain ⟨_, _, ea1, hm1⟩ := HMO.out wr hEw
      cases ea1
      obtain ⟨b1, o1, rfl, hb1, g1⟩ := hm1 k hlt
      obtain ⟨_, _, ea2, hm2⟩ := HDR.out wr hEw
      cases ea2
      obtain ⟨b2, o2, rfl, hb2, g2⟩ := hm2 k hkD
      obtain ⟨_, _, ea3, hm3⟩ := HRA.out wr hEw
      cases ea3
      obtain ⟨b3, o3, rfl, hb3, g3⟩ := hm3 k hkR
      obtain ⟨_, _, ea4, hm4⟩ := HNE.out wr hEw
      cases ea4
      obtain ⟨b4, o4, rfl, hb4, g4⟩ := hm4 k hkN
      have f2 := g2 0 _ rfl
      simp only [Nat.mul_one, Nat.add_zero] at f2
      have hmt : Ln.within (t.needs[k]) (i.months[k]).nl (i.months[k]).nh = true → Ln.within (t.rains[k]) (Ln.rainLo (i.months[k]) (t.dry[k])) (Ln.rainHi (i.months[k]) (t.dry[k])) = true → Ln.monthT (⟨i.cap, i.sl, i.sh, i.roof, i.sand, i.kl, i.kh, i.ll, i.lh, i.pump, i.keep, i.size, i.wells, i.months, (i.months.length : Int), row⟩ : Ln.Islet) t k = true := fun h1 h2 => by unfold Ln.monthT; rw [Ln.iat_get hkR, Ln.iat_get hkN, Ln.mat_get (l := i.months) hlt, Ln.bat_get hkD, Bool.and_eq_true]; exact ⟨h2, h1⟩
      have hdx : t.dry[k] = t.dry[k] := rfl
      obtain ⟨m, hm⟩ : ∃ m, i.months[k] = m := ⟨_, rfl⟩
      obtain ⟨x, hx⟩ : ∃ x, t.dry[k] = x := ⟨_, rfl⟩
      obtain ⟨r, hr⟩ : ∃ r, t.rains[k] = r := ⟨_, rfl⟩
      obtain ⟨nn, hn9⟩ : ∃ r, t.needs[k] = r := ⟨_, rfl⟩
      have HDX := Lib.hid hx
      rw [hm, hx, hr, hn9] at hmt
      replace g1 : AtE Ln.monthC wr b1 (o1 + k * 6) m := by rw [← hm]; exact g1
      replace f2 : wr.cell? ⟨b2, o2 + k, none⟩ = some (.bool x) := by rw [← hx]; exact f2
      replace g3 : wr.cell? ⟨b3, o3 + k, none⟩ = some (.int .i64 r) := by rw [← hr]; exact g3
      replace g4 : wr.cell? ⟨b4, o4 + k, none⟩ = some (.int .i64 nn) := by rw [← hn9]; exact g4
      obtain ⟨c0, c1', c2', c3', c4', c5'⟩ := Ln.month_cells g1
      obtain ⟨B1, hB1⟩ : ∃ B, Ln.within nn m.nl m.nh = B := ⟨_, rfl⟩
      obtain ⟨B2, hB2⟩ : ∃ B, Ln.within r (Ln.rainLo m x) (Ln.rainHi m x) = B := ⟨_, rfl⟩
      rw [hB1, hB2] at hmt
      have HMT := Lib.hid hmt
      have HI1 := Lib.hid (fun W => (hB1 ▸ Ln.rinside_any nn m.nl m.nh W : Calls Tryz.prog 19 #[.int .i64 nn, .agg #[.int .i64 m.nl, .int .i64 m.nh]] W fun e w' => e = .returned (.bool B1) ∧ Ext W w'))
      have HI2 := Lib.hid (fun W => (hB2 ▸ Ln.rinside_any r (Ln.rainLo m x) (Ln.rainHi m x) W : Calls Tryz.prog 19 #[.int .i64 r, .agg #[.int .i64 (Ln.rainLo m x), .int .i64 (Ln.rainHi m x)]] W fun e w' => e = .returned (.bool B2) ∧ Ext W w'))
      have hrn := fun W => Ln.rrain_any m x W
      obtain ⟨rl, hrl⟩ : ∃ z, Ln.rainLo m x = z := ⟨_, rfl⟩
      obtain ⟨rh, hrh⟩ : ∃ z, Ln.rainHi m x = z := ⟨_, rfl⟩
      simp only [hrl, hrh] at hrn HI2
      have HRN := Lib.hid hrn
      clear hmt hB1 hB2 hm hx hr hn9 g1 g2 hm1 hm2 hm3 hm4 hdx hrn hrl hrh
      cases x with
      | false =>
        cases B1 with
        | false =>
          go_upto_region 17 with (fail)
          refine wp_region_ext 33 (fun _ _ d _ _ h => by cases d <;> exact h) (by kernel_rfl) (by kernel_rfl) (by kernel_rfl) (by kernel_rfl) ?_
          (try simp only [List.append_eq, List.cons_append, List.nil_append])
          simp only [List.take_succ_cons, List.take_zero, List.drop_succ_cons, List.drop_zero]
          repeat (any_goals (first | go_big_quiet_step ((first | (go_at_call 19; with_reducible exact ext_quiet (HI1.out _)) | (go_at_call 20; exact ext_quiet (HRN.out _)) | (go_at_call 19; with_reducible exact ext_quiet (HI2.out _)))) | quiet_step ((first | (go_at_call 19; with_reducible exact ext_quiet (HI1.out _)) | (go_at_call 20; exact ext_quiet (HRN.out _)) | (go_at_call 19; with_reducible exact ext_quiet (HI2.out _))))))
          all_goals (refine wpQuiet_nil ?_; intro w3 hEw3)
          go_wp2_with (first | (go_at_call 12; refine (known11_any _).mono ?_; rintro e wk ⟨rfl, hbk⟩))
          go_ret
          exact ⟨rfl, by (with_reducible (repeat (first | exact Ext.refl _ | assumption | apply Ext.alloc | apply Ext.drew | exact ext_plus _ _ | (apply Ext.setCell; rotate_left; (simp <;> omega)) | (apply Ext.trans; rotate_left; exact ext_plus _ _) | (apply Ext.trans; rotate_left; assumption))))⟩
        | true =>
          cases B2 with
          | false =>
            go_upto_region 17 with (fail)
            refine wp_region_ext 33 (fun _ _ d _ _ h => by cases d <;> exact h) (by kernel_rfl) (by kernel_rfl) (by kernel_rfl) (by kernel_rfl) ?_
            (try simp only [List.append_eq, List.cons_append, List.nil_append])
            simp only [List.take_succ_cons, List.take_zero, List.drop_succ_cons, List.drop_zero]
            repeat (any_goals (first | go_big_quiet_step ((first | (go_at_call 19; with_reducible exact ext_quiet (HI1.out _)) | (go_at_call 20; exact ext_quiet (HRN.out _)) | (go_at_call 19; with_reducible exact ext_quiet (HI2.out _)))) | quiet_step ((first | (go_at_call 19; with_reducible exact ext_quiet (HI1.out _)) | (go_at_call 20; exact ext_quiet (HRN.out _)) | (go_at_call 19; with_reducible exact ext_quiet (HI2.out _))))))
            all_goals (refine wpQuiet_nil ?_; intro w3 hEw3)
            go_wp2_with (first | (go_at_call 12; refine (known11_any _).mono ?_; rintro e wk ⟨rfl, hbk⟩))
            go_ret
            exact ⟨rfl, by (with_reducible (repeat (first | exact Ext.refl _ | assumption | apply Ext.alloc | apply Ext.drew | exact ext_plus _ _ | (apply Ext.setCell; rotate_left; (simp <;> omega)) | (apply Ext.trans; rotate_left; exact ext_plus _ _) | (apply Ext.trans; rotate_left; assumption))))⟩
          | true =>
            go_upto_region 17 with (fail)
            refine wp_region_ext 33 (fun _ _ d _ _ h => by cases d <;> exact h) (by kernel_rfl) (by kernel_rfl) (by kernel_rfl) (by kernel_rfl) ?_
            (try simp only [List.append_eq, List.cons_append, List.nil_append])
            simp only [List.take_succ_cons, List.take_zero, List.drop_succ_cons, List.drop_zero]
            repeat (any_goals (first | go_big_quiet_step ((first | (go_at_call 19; with_reducible exact ext_quiet (HI1.out _)) | (go_at_call 20; exact ext_quiet (HRN.out _)) | (go_at_call 19; with_reducible exact ext_quiet (HI2.out _)))) | quiet_step ((first | (go_at_call 19; with_reducible exact ext_quiet (HI1.out _)) | (go_at_call 20; exact ext_quiet (HRN.out _)) | (go_at_call 19; with_reducible exact ext_quiet (HI2.out _))))))
            all_goals (refine wpQuiet_nil ?_; intro w3 hEw3)
            clear k0 k1 k2 k3
            go_wp2
            go_roundw
            case rel => exact ⟨k + 1, s ++ ⟨#[115]⟩, by omega, by go_num, rfl, by rw [app_list, HT.out, txt_take t.dry HKD.out]; exact congrArg (fun b : Bool => txtOf (t.dry.take k) ++ [if b then 99 else 115]) HDX.out.symm, fun j hj => ((Nat.lt_succ_iff_lt_or_eq.1 hj).elim (HGO.out j) (fun e => by rw [e]; exact HMT.out rfl rfl)), hEr.trans hEw3⟩
            case measure => simp [intOf]; omega
      | true =>
        cases B1 with
        | false =>
          go_upto_region 17 with (fail)
          refine wp_region_ext 33 (fun _ _ d _ _ h => by cases d <;> exact h) (by kernel_rfl) (by kernel_rfl) (by kernel_rfl) (by kernel_rfl) ?_
          (try simp only [List.append_eq, List.cons_append, List.nil_append])
          simp only [List.take_succ_cons, List.take_zero, List.drop_succ_cons, List.drop_zero]
          repeat (any_goals (first | go_big_quiet_step ((first | (go_at_call 19; with_reducible exact ext_quiet (HI1.out _)) | (go_at_call 20; exact ext_quiet (HRN.out _)) | (go_at_call 19; with_reducible exact ext_quiet (HI2.out _)))) | quiet_step ((first | (go_at_call 19; with_reducible exact ext_quiet (HI1.out _)) | (go_at_call 20; exact ext_quiet (HRN.out _)) | (go_at_call 19; with_reducible exact ext_quiet (HI2.out _))))))
          all_goals (refine wpQuiet_nil ?_; intro w3 hEw3)
          go_wp2_with (first | (go_at_call 12; refine (known11_any _).mono ?_; rintro e wk ⟨rfl, hbk⟩))
          go_ret
          exact ⟨rfl, by (with_reducible (repeat (first | exact Ext.refl _ | assumption | apply Ext.alloc | apply Ext.drew | exact ext_plus _ _ | (apply Ext.setCell; rotate_left; (simp <;> omega)) | (apply Ext.trans; rotate_left; exact ext_plus _ _) | (apply Ext.trans; rotate_left; assumption))))⟩
        | true =>
          cases B2 with
          | false =>
            go_upto_region 17 with (fail)
            refine wp_region_ext 33 (fun _ _ d _ _ h => by cases d <;> exact h) (by kernel_rfl) (by kernel_rfl) (by kernel_rfl) (by kernel_rfl) ?_
            (try simp only [List.append_eq, List.cons_append, List.nil_append])
            simp only [List.take_succ_cons, List.take_zero, List.drop_succ_cons, List.drop_zero]
            repeat (any_goals (first | go_big_quiet_step ((first | (go_at_call 19; with_reducible exact ext_quiet (HI1.out _)) | (go_at_call 20; exact ext_quiet (HRN.out _)) | (go_at_call 19; with_reducible exact ext_quiet (HI2.out _)))) | quiet_step ((first | (go_at_call 19; with_reducible exact ext_quiet (HI1.out _)) | (go_at_call 20; exact ext_quiet (HRN.out _)) | (go_at_call 19; with_reducible exact ext_quiet (HI2.out _))))))
            all_goals (refine wpQuiet_nil ?_; intro w3 hEw3)
            go_wp2_with (first | (go_at_call 12; refine (known11_any _).mono ?_; rintro e wk ⟨rfl, hbk⟩))
            go_ret
            exact ⟨rfl, by (with_reducible (repeat (first | exact Ext.refl _ | assumption | apply Ext.alloc | apply Ext.drew | exact ext_plus _ _ | (apply Ext.setCell; rotate_left; (simp <;> omega)) | (apply Ext.trans; rotate_left; exact ext_plus _ _) | (apply Ext.trans; rotate_left; assumption))))⟩
          | true =>
            go_upto_region 17 with (fail)
            refine wp_region_ext 33 (fun _ _ d _ _ h => by cases d <;> exact h) (by kernel_rfl) (by kernel_rfl) (by kernel_rfl) (by kernel_rfl) ?_
            (try simp only [List.append_eq, List.cons_append, List.nil_append])
            simp only [List.take_succ_cons, List.take_zero, List.drop_succ_cons, List.drop_zero]
            repeat (any_goals (first | go_big_quiet_step ((first | (go_at_call 19; with_reducible exact ext_quiet (HI1.out _)) | (go_at_call 20; exact ext_quiet (HRN.out _)) | (go_at_call 19; with_reducible exact ext_quiet (HI2.out _)))) | quiet_step ((first | (go_at_call 19; with_reducible exact ext_quiet (HI1.out _)) | (go_at_call 20; exact ext_quiet (HRN.out _)) | (go_at_call 19; with_reducible exact ext_quiet (HI2.out _))))))
            all_goals (refine wpQuiet_nil ?_; intro w3 hEw3)
            clear k0 k1 k2 k3
            go_wp2
            go_roundw
            case rel => exact ⟨k + 1, s ++ ⟨#[99]⟩, by omega, by go_num, rfl, by rw [app_list, HT.out, txt_take t.dry HKD.out]; exact congrArg (fun b : Bool => txtOf (t.dry.take k) ++ [if b then 99 else 115]) HDX.out.symm, fun j hj => ((Nat.lt_succ_iff_lt_or_eq.1 hj).elim (HGO.out j) (fun e => by rw [e]; exact HMT.out rfl rfl)), hEr.trans hEw3⟩
            case measure => simp [intOf]; omega
    · obtain rfl : k = i.months.length := by omega
      have htt : s.data.toList = txtOf t.dry := by rw [HT.out, ← Q7.out, List.take_length]
      have HTT := Lib.hid htt
      clear htt
      have hEw := hE.trans hEr
      obtain ⟨S1, hS1⟩ : ∃ B, Ln.within t.start i.sl i.sh = B := ⟨_, rfl⟩
      obtain ⟨S2, hS2⟩ : ∃ B, Ln.within t.soak i.kl i.kh = B := ⟨_, rfl⟩
      obtain ⟨S3, hS3⟩ : ∃ B, Ln.within t.leak i.ll i.lh = B := ⟨_, rfl⟩
      have HIA := Lib.hid (fun W => (hS1 ▸ Ln.rinside_any t.start i.sl i.sh W : Calls Tryz.prog 19 #[.int .i64 t.start, .agg #[.int .i64 i.sl, .int .i64 i.sh]] W fun e w' => e = .returned (.bool S1) ∧ Ext W w'))
      have HIB := Lib.hid (fun W => (hS2 ▸ Ln.rinside_any t.soak i.kl i.kh W : Calls Tryz.prog 19 #[.int .i64 t.soak, .agg #[.int .i64 i.kl, .int .i64 i.kh]] W fun e w' => e = .returned (.bool S2) ∧ Ext W w'))
      have HIC := Lib.hid (fun W => (hS3 ▸ Ln.rinside_any t.leak i.ll i.lh W : Calls Tryz.prog 19 #[.int .i64 t.leak, .agg #[.int .i64 i.ll, .int .i64 i.lh]] W fun e w' => e = .returned (.bool S3) ∧ Ext W w'))
      have HS1 := Lib.hid hS1
      have HS2 := Lib.hid hS2
      have HS3 := Lib.hid hS3
      clear hS1 hS2 hS3
      have hla : ∀ y, Ext wr y → (∀ o, y.cell? ⟨bx, o, none⟩ = (#[.int .i64 i.cap, .int .i64 i.sl, .int .i64 i.sh, .int .i64 i.roof, .int .i64 i.sand, .int .i64 i.kl, .int .i64 i.kh, .int .i64 i.ll, .int .i64 i.lh, .int .i64 i.pump, .int .i64 i.keep, .int .i64 i.size, .slice a1 i.wells.length c1, .slice a2 i.months.length c2, .int .i64 (i.months.length : Int), .int .i64 row] : Array Value)[o]?) ∧ bx < y.heap.size ∧ (∀ o, y.cell? ⟨n0 + 1 + 1, o, none⟩ = (#[.int .i64 t.start, .int .i64 t.soak, .int .i64 t.leak, .slice a4 t.dry.length c4, .slice a5 t.rains.length c5, .slice a6 t.needs.length c6] : Array Value)[o]?) ∧ n0 + 1 + 1 < y.heap.size := fun y hy => ⟨(hXr.ext hy).cell, (hXr.ext hy).lt, (hTr.ext hy).cell, (hTr.ext hy).lt⟩
      have HLA := Lib.hid hla
      clear hla
      cases S1 with
      | false =>
        go_wp2_with (first | (go_at_call 19; with_reducible refine (HIA.out _).mono ?_; rintro e w13 ⟨rfl, hE13⟩; (clear k0 k1 k2 k3); obtain ⟨k0, k1, k2, k3⟩ := HLA.out w13 (by (with_reducible (repeat (first | exact Ext.refl _ | assumption | apply Ext.alloc | apply Ext.drew | exact ext_plus _ _ | (apply Ext.setCell; rotate_left; (simp <;> omega)) | (apply Ext.trans; rotate_left; exact ext_plus _ _) | (apply Ext.trans; rotate_left; assumption)))))) | (go_at_call 19; with_reducible refine (HIB.out _).mono ?_; rintro e w14 ⟨rfl, hE14⟩; (clear k0 k1 k2 k3); obtain ⟨k0, k1, k2, k3⟩ := HLA.out w14 (by (with_reducible (repeat (first | exact Ext.refl _ | assumption | apply Ext.alloc | apply Ext.drew | exact ext_plus _ _ | (apply Ext.setCell; rotate_left; (simp <;> omega)) | (apply Ext.trans; rotate_left; exact ext_plus _ _) | (apply Ext.trans; rotate_left; assumption)))))) | (go_at_call 19; with_reducible refine (HIC.out _).mono ?_; rintro e w15 ⟨rfl, hE15⟩; (clear k0 k1 k2 k3); obtain ⟨k0, k1, k2, k3⟩ := HLA.out w15 (by (with_reducible (repeat (first | exact Ext.refl _ | assumption | apply Ext.alloc | apply Ext.drew | exact ext_plus _ _ | (apply Ext.setCell; rotate_left; (simp <;> omega)) | (apply Ext.trans; rotate_left; exact ext_plus _ _) | (apply Ext.trans; rotate_left; assumption)))))) | (go_at_call 12; refine (known11_any _).mono ?_; rintro e wk ⟨rfl, hbk⟩))
        go_ret
        exact ⟨rfl, by (with_reducible (repeat (first | exact Ext.refl _ | assumption | apply Ext.alloc | apply Ext.drew | exact ext_plus _ _ | (apply Ext.setCell; rotate_left; (simp <;> omega)) | (apply Ext.trans; rotate_left; exact ext_plus _ _) | (apply Ext.trans; rotate_left; assumption))))⟩
      | true =>
        cases S2 with
        | false =>
          go_wp2_with (first | (go_at_call 19; with_reducible refine (HIA.out _).mono ?_; rintro e w13 ⟨rfl, hE13⟩; (clear k0 k1 k2 k3); obtain ⟨k0, k1, k2, k3⟩ := HLA.out w13 (by (with_reducible (repeat (first | exact Ext.refl _ | assumption | apply Ext.alloc | apply Ext.drew | exact ext_plus _ _ | (apply Ext.setCell; rotate_left; (simp <;> omega)) | (apply Ext.trans; rotate_left; exact ext_plus _ _) | (apply Ext.trans; rotate_left; assumption)))))) | (go_at_call 19; with_reducible refine (HIB.out _).mono ?_; rintro e w14 ⟨rfl, hE14⟩; (clear k0 k1 k2 k3); obtain ⟨k0, k1, k2, k3⟩ := HLA.out w14 (by (with_reducible (repeat (first | exact Ext.refl _ | assumption | apply Ext.alloc | apply Ext.drew | exact ext_plus _ _ | (apply Ext.setCell; rotate_left; (simp <;> omega)) | (apply Ext.trans; rotate_left; exact ext_plus _ _) | (apply Ext.trans; rotate_left; assumption)))))) | (go_at_call 19; with_reducible refine (HIC.out _).mono ?_; rintro e w15 ⟨rfl, hE15⟩; (clear k0 k1 k2 k3); obtain ⟨k0, k1, k2, k3⟩ := HLA.out w15 (by (with_reducible (repeat (first | exact Ext.refl _ | assumption | apply Ext.alloc | apply Ext.drew | exact ext_plus _ _ | (apply Ext.setCell; rotate_left; (simp <;> omega)) | (apply Ext.trans; rotate_left; exact ext_plus _ _) | (apply Ext.trans; rotate_left; assumption)))))) | (go_at_call 12; refine (known11_any _).mono ?_; rintro e wk ⟨rfl, hbk⟩))
          go_ret
          exact ⟨rfl, by (with_reducible (repeat (first | exact Ext.refl _ | assumption | apply Ext.alloc | apply Ext.drew | exact ext_plus _ _ | (apply Ext.setCell; rotate_left; (simp <;> omega)) | (apply Ext.trans; rotate_left; exact ext_plus _ _) | (apply Ext.trans; rotate_left; assumption))))⟩
        | true =>
          cases S3 with
          | false =>
            go_wp2_with (first | (go_at_call 19; with_reducible refine (HIA.out _).mono ?_; rintro e w13 ⟨rfl, hE13⟩; (clear k0 k1 k2 k3); obtain ⟨k0, k1, k2, k3⟩ := HLA.out w13 (by (with_reducible (repeat (first | exact Ext.refl _ | assumption | apply Ext.alloc | apply Ext.drew | exact ext_plus _ _ | (apply Ext.setCell; rotate_left; (simp <;> omega)) | (apply Ext.trans; rotate_left; exact ext_plus _ _) | (apply Ext.trans; rotate_left; assumption)))))) | (go_at_call 19; with_reducible refine (HIB.out _).mono ?_; rintro e w14 ⟨rfl, hE14⟩; (clear k0 k1 k2 k3); obtain ⟨k0, k1, k2, k3⟩ := HLA.out w14 (by (with_reducible (repeat (first | exact Ext.refl _ | assumption | apply Ext.alloc | apply Ext.drew | exact ext_plus _ _ | (apply Ext.setCell; rotate_left; (simp <;> omega)) | (apply Ext.trans; rotate_left; exact ext_plus _ _) | (apply Ext.trans; rotate_left; assumption)))))) | (go_at_call 19; with_reducible refine (HIC.out _).mono ?_; rintro e w15 ⟨rfl, hE15⟩; (clear k0 k1 k2 k3); obtain ⟨k0, k1, k2, k3⟩ := HLA.out w15 (by (with_reducible (repeat (first | exact Ext.refl _ | assumption | apply Ext.alloc | apply Ext.drew | exact ext_plus _ _ | (apply Ext.setCell; rotate_left; (simp <;> omega)) | (apply Ext.trans; rotate_left; exact ext_plus _ _) | (apply Ext.trans; rotate_left; assumption)))))) | (go_at_call 12; refine (known11_any _).mono ?_; rintro e wk ⟨rfl, hbk⟩))
            go_ret
            exact ⟨rfl, by (with_reducible (repeat (first | exact Ext.refl _ | assumption | apply Ext.alloc | apply Ext.drew | exact ext_plus _ _ | (apply Ext.setCell; rotate_left; (simp <;> omega)) | (apply Ext.trans; rotate_left; exact ext_plus _ _) | (apply Ext.trans; rotate_left; assumption))))⟩
          | true =>
            have hpl := fun W hE => Ln.play_any (⟨i.cap, i.sl, i.sh, i.roof, i.sand, i.kl, i.kh, i.ll, i.lh, i.pump, i.keep, i.size, i.wells, i.months, (i.months.length : Int), row⟩ : Ln.Islet) t (.slice a1 i.wells.length c1) (.slice a2 i.months.length c2) (.slice a4 t.dry.length c4) (.slice a5 t.rains.length c5) (.slice a6 t.needs.length c6) W HI.out (HWE.out W hE) (HMO.out W hE) (HDR.out W hE) (HRA.out W hE) (HNE.out W hE) Q7.out Q8.out Q9.out HGO.out HS1.out HS2.out HS3.out
            have hck := fun W hE => Cl.known_good (⟨c.sunny, c.cloudy, c.size, c.fade, c.start, c.loads, (i.months.length : Int), row + 1, row, c.panel, c.battery⟩ : Cl.C.Sys) 1 1 s (.slice a3 c.loads.length c3) W (HLO.out W hE) (by show c.loads.length ≤ 1000000; omega) (by have := HCAT.out; omega) (by rw [HTT.out]; exact sky_known HSY.out Q7.out)
            have hrn := runs_nil (⟨c.sunny, c.cloudy, c.size, c.fade, c.start, c.loads, (i.months.length : Int), row + 1, row, c.panel, c.battery⟩ : Cl.C.Sys) 1 1 t.dry (by rw [Q7.out]; omega) (by rw [Q7.out])
            rw [← HTT.out] at hrn
            have hpp := sky_pos i c t row Q7.out q3 q5 q6
            rw [← HTT.out] at hpp
            obtain ⟨P, hP⟩ : ∃ P, Ln.possible (⟨i.cap, i.sl, i.sh, i.roof, i.sand, i.kl, i.kh, i.ll, i.lh, i.pump, i.keep, i.size, i.wells, i.months, (i.months.length : Int), row⟩ : Ln.Islet) t.dry = P := ⟨_, rfl⟩
            rw [hP] at hpp
            simp only [hP] at hpl
            rw [← hpp] at hrn
            cases P with
            | false =>
              have hr0 := hrn.2 rfl
              simp only [if_pos hr0] at hck
              have HPL := Lib.hid (show ∀ W, Ext w W → Calls Tryz.prog 21 #[.agg #[.int .i64 i.cap, .int .i64 i.sl, .int .i64 i.sh, .int .i64 i.roof, .int .i64 i.sand, .int .i64 i.kl, .int .i64 i.kh, .int .i64 i.ll, .int .i64 i.lh, .int .i64 i.pump, .int .i64 i.keep, .int .i64 i.size, .slice a1 i.wells.length c1, .slice a2 i.months.length c2, .int .i64 (i.months.length : Int), .int .i64 row], .int .i64 0, .agg #[.int .i64 t.start, .int .i64 t.soak, .int .i64 t.leak, .slice a4 t.dry.length c4, .slice a5 t.rains.length c5, .slice a6 t.needs.length c6]] W fun e w' => ∃ (v : Value) (la lb lc ld le lf : Int), e = .returned (.tuple #[v, .agg #[.int .i64 la, .int .i64 lb, .int .i64 lc, .int .i64 ld, .int .i64 le, .int .i64 lf], .int .i64 2]) ∧ Ext W w' from hpl)
              have HCK := Lib.hid (show ∀ W, Ext w W → Calls Tryz.prog 22 #[.agg #[.int .i64 c.sunny, .int .i64 c.cloudy, .int .i64 c.size, .int .i64 c.fade, .int .i64 c.start, .slice a3 c.loads.length c3, .int .i64 (i.months.length : Int), .int .i64 (row + 1), .int .i64 row, .int .i64 c.panel, .int .i64 c.battery], .int .i64 1, .int .i64 1, .string s] W fun e w' => ∃ v, e = .returned (.tuple #[v, .int .i64 5]) ∧ Cl.Seens w' v [] ∧ Ext W w' from hck)
              clear hpl hck hrn hpp hP hr0
              go_wp2_with (first | (go_at_call 19; with_reducible refine (HIA.out _).mono ?_; rintro e w13 ⟨rfl, hE13⟩; (clear k0 k1 k2 k3); obtain ⟨k0, k1, k2, k3⟩ := HLA.out w13 (by (with_reducible (repeat (first | exact Ext.refl _ | assumption | apply Ext.alloc | apply Ext.drew | exact ext_plus _ _ | (apply Ext.setCell; rotate_left; (simp <;> omega)) | (apply Ext.trans; rotate_left; exact ext_plus _ _) | (apply Ext.trans; rotate_left; assumption)))))) | (go_at_call 19; with_reducible refine (HIB.out _).mono ?_; rintro e w14 ⟨rfl, hE14⟩; (clear k0 k1 k2 k3); obtain ⟨k0, k1, k2, k3⟩ := HLA.out w14 (by (with_reducible (repeat (first | exact Ext.refl _ | assumption | apply Ext.alloc | apply Ext.drew | exact ext_plus _ _ | (apply Ext.setCell; rotate_left; (simp <;> omega)) | (apply Ext.trans; rotate_left; exact ext_plus _ _) | (apply Ext.trans; rotate_left; assumption)))))) | (go_at_call 19; with_reducible refine (HIC.out _).mono ?_; rintro e w15 ⟨rfl, hE15⟩; (clear k0 k1 k2 k3); obtain ⟨k0, k1, k2, k3⟩ := HLA.out w15 (by (with_reducible (repeat (first | exact Ext.refl _ | assumption | apply Ext.alloc | apply Ext.drew | exact ext_plus _ _ | (apply Ext.setCell; rotate_left; (simp <;> omega)) | (apply Ext.trans; rotate_left; exact ext_plus _ _) | (apply Ext.trans; rotate_left; assumption)))))) | (go_at_call 21; refine (HPL.out _ (hEw.trans (by (with_reducible (repeat (first | exact Ext.refl _ | assumption | apply Ext.alloc | apply Ext.drew | exact ext_plus _ _ | (apply Ext.setCell; rotate_left; (simp <;> omega)) | (apply Ext.trans; rotate_left; exact ext_plus _ _) | (apply Ext.trans; rotate_left; assumption))))))).mono ?_; rintro e w21 ⟨v21, la, lb, lc, ld, le, lf, rfl, hE21⟩; have k4 := (hY.ext (hEr.trans (show Ext wr w21 by (with_reducible show Ext _ _; (with_reducible (repeat (first | exact Ext.refl _ | assumption | apply Ext.alloc | apply Ext.drew | exact ext_plus _ _ | (apply Ext.setCell; rotate_left; (simp <;> omega)) | (apply Ext.trans; rotate_left; exact ext_plus _ _) | (apply Ext.trans; rotate_left; assumption)))); done)))).cell; have k5 := (hY.ext (hEr.trans (show Ext wr w21 by (with_reducible show Ext _ _; (with_reducible (repeat (first | exact Ext.refl _ | assumption | apply Ext.alloc | apply Ext.drew | exact ext_plus _ _ | (apply Ext.setCell; rotate_left; (simp <;> omega)) | (apply Ext.trans; rotate_left; exact ext_plus _ _) | (apply Ext.trans; rotate_left; assumption)))); done)))).lt) | (go_at_call 22; refine (HCK.out _ (hEw.trans (by (with_reducible (repeat (first | exact Ext.refl _ | assumption | apply Ext.alloc | apply Ext.drew | exact ext_plus _ _ | (apply Ext.setCell; rotate_left; (simp <;> omega)) | (apply Ext.trans; rotate_left; exact ext_plus _ _) | (apply Ext.trans; rotate_left; assumption))))))).mono ?_; rintro e w22 ⟨v22, rfl, hv22, hE22⟩; obtain ⟨a9, c9, rfl, _⟩ := hv22) | (go_at_call 12; refine (known11_any _).mono ?_; rintro e wk ⟨rfl, hbk⟩))
              go_ret
              exact ⟨rfl, by (with_reducible (repeat (first | exact Ext.refl _ | assumption | apply Ext.alloc | apply Ext.drew | exact ext_plus _ _ | (apply Ext.setCell; rotate_left; (simp <;> omega)) | (apply Ext.trans; rotate_left; exact ext_plus _ _) | (apply Ext.trans; rotate_left; assumption))))⟩
            | true =>
              have hr0 : ¬ _ = _ := fun e => absurd (hrn.1 e) (by decide)
              simp only [if_neg hr0] at hck
              obtain ⟨SN, hSN⟩ : ∃ S, Cl.C.seen (⟨c.sunny, c.cloudy, c.size, c.fade, c.start, c.loads, (i.months.length : Int), row + 1, row, c.panel, c.battery⟩ : Cl.C.Sys) (Cl.C.runs (⟨c.sunny, c.cloudy, c.size, c.fade, c.start, c.loads, (i.months.length : Int), row + 1, row, c.panel, c.battery⟩ : Cl.C.Sys) 1 1 s.data.toList) = S := ⟨_, rfl⟩
              have hsl : (SN.length : Int) = (i.months.length : Int) := by rw [← hSN]; simp [Cl.C.seen]
              simp only [hSN] at hck
              have HPL := Lib.hid (show ∀ W, Ext w W → Calls Tryz.prog 21 #[.agg #[.int .i64 i.cap, .int .i64 i.sl, .int .i64 i.sh, .int .i64 i.roof, .int .i64 i.sand, .int .i64 i.kl, .int .i64 i.kh, .int .i64 i.ll, .int .i64 i.lh, .int .i64 i.pump, .int .i64 i.keep, .int .i64 i.size, .slice a1 i.wells.length c1, .slice a2 i.months.length c2, .int .i64 (i.months.length : Int), .int .i64 row], .int .i64 0, .agg #[.int .i64 t.start, .int .i64 t.soak, .int .i64 t.leak, .slice a4 t.dry.length c4, .slice a5 t.rains.length c5, .slice a6 t.needs.length c6]] W fun e w' => ∃ (v : Value) (la lb lc ld le lf : Int), e = .returned (.tuple #[v, .agg #[.int .i64 la, .int .i64 lb, .int .i64 lc, .int .i64 ld, .int .i64 le, .int .i64 lf], .int .i64 0]) ∧ Ext W w' from hpl)
              have HCK := Lib.hid (show ∀ W, Ext w W → Calls Tryz.prog 22 #[.agg #[.int .i64 c.sunny, .int .i64 c.cloudy, .int .i64 c.size, .int .i64 c.fade, .int .i64 c.start, .slice a3 c.loads.length c3, .int .i64 (i.months.length : Int), .int .i64 (row + 1), .int .i64 row, .int .i64 c.panel, .int .i64 c.battery], .int .i64 1, .int .i64 1, .string s] W fun e w' => ∃ v, e = .returned (.tuple #[v, .int .i64 0]) ∧ Cl.Seens w' v SN ∧ Ext W w' from hck)
              clear hpl hck hrn hpp hP hr0 hSN
              go_wp2_with (first | (go_at_call 19; with_reducible refine (HIA.out _).mono ?_; rintro e w13 ⟨rfl, hE13⟩; (clear k0 k1 k2 k3); obtain ⟨k0, k1, k2, k3⟩ := HLA.out w13 (by (with_reducible (repeat (first | exact Ext.refl _ | assumption | apply Ext.alloc | apply Ext.drew | exact ext_plus _ _ | (apply Ext.setCell; rotate_left; (simp <;> omega)) | (apply Ext.trans; rotate_left; exact ext_plus _ _) | (apply Ext.trans; rotate_left; assumption)))))) | (go_at_call 19; with_reducible refine (HIB.out _).mono ?_; rintro e w14 ⟨rfl, hE14⟩; (clear k0 k1 k2 k3); obtain ⟨k0, k1, k2, k3⟩ := HLA.out w14 (by (with_reducible (repeat (first | exact Ext.refl _ | assumption | apply Ext.alloc | apply Ext.drew | exact ext_plus _ _ | (apply Ext.setCell; rotate_left; (simp <;> omega)) | (apply Ext.trans; rotate_left; exact ext_plus _ _) | (apply Ext.trans; rotate_left; assumption)))))) | (go_at_call 19; with_reducible refine (HIC.out _).mono ?_; rintro e w15 ⟨rfl, hE15⟩; (clear k0 k1 k2 k3); obtain ⟨k0, k1, k2, k3⟩ := HLA.out w15 (by (with_reducible (repeat (first | exact Ext.refl _ | assumption | apply Ext.alloc | apply Ext.drew | exact ext_plus _ _ | (apply Ext.setCell; rotate_left; (simp <;> omega)) | (apply Ext.trans; rotate_left; exact ext_plus _ _) | (apply Ext.trans; rotate_left; assumption)))))) | (go_at_call 21; refine (HPL.out _ (hEw.trans (by (with_reducible (repeat (first | exact Ext.refl _ | assumption | apply Ext.alloc | apply Ext.drew | exact ext_plus _ _ | (apply Ext.setCell; rotate_left; (simp <;> omega)) | (apply Ext.trans; rotate_left; exact ext_plus _ _) | (apply Ext.trans; rotate_left; assumption))))))).mono ?_; rintro e w21 ⟨v21, la, lb, lc, ld, le, lf, rfl, hE21⟩; have k4 := (hY.ext (hEr.trans (show Ext wr w21 by (with_reducible show Ext _ _; (with_reducible (repeat (first | exact Ext.refl _ | assumption | apply Ext.alloc | apply Ext.drew | exact ext_plus _ _ | (apply Ext.setCell; rotate_left; (simp <;> omega)) | (apply Ext.trans; rotate_left; exact ext_plus _ _) | (apply Ext.trans; rotate_left; assumption)))); done)))).cell; have k5 := (hY.ext (hEr.trans (show Ext wr w21 by (with_reducible show Ext _ _; (with_reducible (repeat (first | exact Ext.refl _ | assumption | apply Ext.alloc | apply Ext.drew | exact ext_plus _ _ | (apply Ext.setCell; rotate_left; (simp <;> omega)) | (apply Ext.trans; rotate_left; exact ext_plus _ _) | (apply Ext.trans; rotate_left; assumption)))); done)))).lt) | (go_at_call 22; refine (HCK.out _ (hEw.trans (by (with_reducible (repeat (first | exact Ext.refl _ | assumption | apply Ext.alloc | apply Ext.drew | exact ext_plus _ _ | (apply Ext.setCell; rotate_left; (simp <;> omega)) | (apply Ext.trans; rotate_left; exact ext_plus _ _) | (apply Ext.trans; rotate_left; assumption))))))).mono ?_; rintro e w22 ⟨v22, rfl, hv22, hE22⟩; obtain ⟨a9, c9, rfl, _⟩ := hv22) | (go_at_call 12; refine (known11_any _).mono ?_; rintro e wk ⟨rfl, hbk⟩))
              go_ret
              exact ⟨rfl, by (with_reducible (repeat (first | exact Ext.refl _ | assumption | apply Ext.alloc | apply Ext.drew | exact ext_plus _ _ | (apply Ext.setCell; rotate_left; (simp <;> omega)) | (apply Ext.trans; rotate_left; exact ext_plus _ _) | (apply Ext.trans; rotate_left; assumption))))⟩
set_option maxRecDepth 1000000 in
set_option maxHeartbeats 64000000 in
theorem sky_tail3 {u7 u10 u11 u12 u13 u14 u15 u16 u17 u18 u19 u20 u21 u22 u23 u24 u25 u26 u27 u28 u29 u30 u31 u32 u33 u34 u35 u36 u37 u38 u39 u40 u41 u42 u43 u44 u45 u46 u47 u48 u49 u50 u51 u52 u53 u54 u55 u56 u57 u58 u59 u60 u61 u62 u63 u64 u65 u66 u67 u68 u69 u70 u71 u72 u73 u74 u75 u76 u77 u78 u79 u80 u81 u82 u83 u84 u85 u86 u87 u88 u89 u90 u91 u92 u93 u94 u95 u96 u97 u98 u99 u100 u101 u102 u103 u104 u105 u106 u107 u108 u109 u110 u111 u112 u113 u114 u115 u116 u117 u118 u119 u120 u121 u122 u123 u124 u125 u126 u127 u128 u129 u130 u131 u132 u133 u134 u135 u136 u137 u138 u139 u140 u141 u142 u143 u144 u145 u146 u147 u148 u149 u150 u151 u152 u153 u154 u155 u156 u157 u158 u159 u160 u161 u162 u163 u164 u165 u166 u167 u168 u169 u170 u171 u172 u173 u174 u175 u176 u177 u178 u179 u180 u181 u182 u183 u184 u185 u186 u187 u188 u189 u190 u191 u192 u193 u194 u195 u196 u197 u198 u199 u200 u201 u202 u203 : Value} {i : Ln.Islet} {c : Cl.C.Sys} {t : Ln.Truth} {row : Int} {w w1 : World} {n0 c1 c2 c3 c4 c5 c6 : Nat} {a1 a2 a3 a4 a5 a6 : Option Addr} (wz : World) (HWE : Hid (∀ W, Ext w W → Ints W (.slice a1 i.wells.length c1) i.wells)) (HMO : Hid (∀ W, Ext w W → Ln.Months W (.slice a2 i.months.length c2) i.months)) (HLO : Hid (∀ W, Ext w W → Cl.Loads W (.slice a3 c.loads.length c3) c.loads)) (HDR : Hid (∀ W, Ext w W → Ln.Bools W (.slice a4 t.dry.length c4) t.dry)) (HRA : Hid (∀ W, Ext w W → Ints W (.slice a5 t.rains.length c5) t.rains)) (HNE : Hid (∀ W, Ext w W → Ints W (.slice a6 t.needs.length c6) t.needs)) (HBX : Hid (∀ y, Ext w1 y → Blk y n0 #[.int .i64 i.cap, .int .i64 i.sl, .int .i64 i.sh, .int .i64 i.roof, .int .i64 i.sand, .int .i64 i.kl, .int .i64 i.kh, .int .i64 i.ll, .int .i64 i.lh, .int .i64 i.pump, .int .i64 i.keep, .int .i64 i.size, .slice a1 i.wells.length c1, .slice a2 i.months.length c2, .int .i64 i.most, .int .i64 i.row] 52 ∧ Blk y (n0 + 1) #[.int .i64 c.sunny, .int .i64 c.cloudy, .int .i64 c.size, .int .i64 c.fade, .int .i64 c.start, .slice a3 c.loads.length c3, .int .i64 c.days, .int .i64 c.window, .int .i64 c.most, .int .i64 c.panel, .int .i64 c.battery] 55 ∧ Blk y (n0 + 1 + 1) #[.int .i64 t.start, .int .i64 t.soak, .int .i64 t.leak, .slice a4 t.dry.length c4, .slice a5 t.rains.length c5, .slice a6 t.needs.length c6] 58)) (hE1 : Ext w1 wz) (hE : Ext w wz) (q1 : i.wells.length ≤ 10) (q2 : 2 ≤ i.months.length) (q3 : i.months.length ≤ 7) (q4 : c.loads.length ≤ 10) (q5 : 0 ≤ row) (q6 : row < (i.months.length : Int)) (q7 : t.dry.length = i.months.length) (q8 : t.rains.length = i.months.length) (q9 : t.needs.length = i.months.length) (hn : w.heap.size ≤ n0) :
    Code.wp Tryz.prog (skyT 3) (bodyPost Tryz.prog Tryz.f4 (fun e w' => e = .returned (.bool true) ∧ Ext w w')) ⟨List.toArray (.agg #[.int .i64 i.cap, .int .i64 i.sl, .int .i64 i.sh, .int .i64 i.roof, .int .i64 i.sand, .int .i64 i.kl, .int .i64 i.kh, .int .i64 i.ll, .int .i64 i.lh, .int .i64 i.pump, .int .i64 i.keep, .int .i64 i.size, .slice a1 i.wells.length c1, .slice a2 i.months.length c2, .int .i64 i.most, .int .i64 i.row] :: .agg #[.int .i64 c.sunny, .int .i64 c.cloudy, .int .i64 c.size, .int .i64 c.fade, .int .i64 c.start, .slice a3 c.loads.length c3, .int .i64 c.days, .int .i64 c.window, .int .i64 c.most, .int .i64 c.panel, .int .i64 c.battery] :: .agg #[.int .i64 t.start, .int .i64 t.soak, .int .i64 t.leak, .slice a4 t.dry.length c4, .slice a5 t.rains.length c5, .slice a6 t.needs.length c6] :: .int .i64 row :: .pointer (some ⟨n0, 0, none⟩) :: .pointer (some ⟨n0 + 1, 0, none⟩) :: .pointer (some ⟨n0 + 1 + 1, 0, none⟩) :: u7 :: .bool false :: .int .i64 (i.months.length : Int) :: u10 :: u11 :: u12 :: u13 :: u14 :: u15 :: u16 :: u17 :: u18 :: u19 :: u20 :: u21 :: u22 :: u23 :: u24 :: u25 :: u26 :: u27 :: u28 :: u29 :: u30 :: u31 :: u32 :: u33 :: u34 :: u35 :: u36 :: u37 :: u38 :: u39 :: u40 :: u41 :: u42 :: u43 :: u44 :: u45 :: u46 :: u47 :: u48 :: u49 :: u50 :: u51 :: u52 :: u53 :: u54 :: u55 :: u56 :: u57 :: u58 :: u59 :: u60 :: u61 :: u62 :: u63 :: u64 :: u65 :: u66 :: u67 :: u68 :: u69 :: u70 :: u71 :: u72 :: u73 :: u74 :: u75 :: u76 :: u77 :: u78 :: u79 :: u80 :: u81 :: u82 :: u83 :: u84 :: u85 :: u86 :: u87 :: u88 :: u89 :: u90 :: u91 :: u92 :: u93 :: u94 :: u95 :: u96 :: u97 :: u98 :: u99 :: u100 :: u101 :: u102 :: u103 :: u104 :: u105 :: u106 :: u107 :: u108 :: u109 :: u110 :: u111 :: u112 :: u113 :: u114 :: u115 :: u116 :: u117 :: u118 :: u119 :: u120 :: u121 :: u122 :: u123 :: u124 :: u125 :: u126 :: u127 :: u128 :: u129 :: u130 :: u131 :: u132 :: u133 :: u134 :: u135 :: u136 :: u137 :: u138 :: u139 :: u140 :: u141 :: u142 :: u143 :: u144 :: u145 :: u146 :: u147 :: u148 :: u149 :: u150 :: u151 :: u152 :: u153 :: u154 :: u155 :: u156 :: u157 :: u158 :: u159 :: u160 :: u161 :: u162 :: u163 :: u164 :: u165 :: u166 :: u167 :: u168 :: u169 :: u170 :: u171 :: u172 :: u173 :: u174 :: u175 :: u176 :: u177 :: u178 :: u179 :: u180 :: u181 :: u182 :: u183 :: u184 :: u185 :: u186 :: u187 :: u188 :: u189 :: u190 :: u191 :: u192 :: u193 :: u194 :: u195 :: u196 :: u197 :: u198 :: u199 :: u200 :: u201 :: u202 :: u203 :: []), []⟩ wz := by
  unfold skyT
  conv => arg 2; whnf
  have Q7 := Lib.hid q7
  have Q8 := Lib.hid q8
  have Q9 := Lib.hid q9
  clear q7 q8 q9
  have b8 := (HBX.out wz hE1).1
  have b9 := (HBX.out wz hE1).2.1
  go_upto_region 4 with (fail)
  go_cut [10, 11] from 72 to 73 (fun s10 s11 wc => ∃ bx bz, s10 = .pointer (some ⟨bx, 0, none⟩) ∧ s11 = .pointer (some ⟨bz, 0, none⟩) ∧ bx ≠ bz ∧ wz.heap.size ≤ bx ∧ wz.heap.size ≤ bz ∧ Blk wc bx #[.int .i64 i.cap, .int .i64 i.sl, .int .i64 i.sh, .int .i64 i.roof, .int .i64 i.sand, .int .i64 i.kl, .int .i64 i.kh, .int .i64 i.ll, .int .i64 i.lh, .int .i64 i.pump, .int .i64 i.keep, .int .i64 i.size, .slice a1 i.wells.length c1, .slice a2 i.months.length c2, .int .i64 i.most, .int .i64 i.row] 52 ∧ Blk wc bz #[.int .i64 c.sunny, .int .i64 c.cloudy, .int .i64 c.size, .int .i64 c.fade, .int .i64 c.start, .slice a3 c.loads.length c3, .int .i64 c.days, .int .i64 c.window, .int .i64 c.most, .int .i64 c.panel, .int .i64 c.battery] 55 ∧ Ext wz wc)
  case first =>
    go_region_held3 (fun y => (∀ o, y.cell? ⟨n0, o, none⟩ = (#[.int .i64 i.cap, .int .i64 i.sl, .int .i64 i.sh, .int .i64 i.roof, .int .i64 i.sand, .int .i64 i.kl, .int .i64 i.kh, .int .i64 i.ll, .int .i64 i.lh, .int .i64 i.pump, .int .i64 i.keep, .int .i64 i.size, .slice a1 i.wells.length c1, .slice a2 i.months.length c2, .int .i64 i.most, .int .i64 i.row] : Array Value)[o]?) ∧ (∀ o, y.cell? ⟨n0 + 1, o, none⟩ = (#[.int .i64 c.sunny, .int .i64 c.cloudy, .int .i64 c.size, .int .i64 c.fade, .int .i64 c.start, .slice a3 c.loads.length c3, .int .i64 c.days, .int .i64 c.window, .int .i64 c.most, .int .i64 c.panel, .int .i64 c.battery] : Array Value)[o]?) ∧ Ext wz y)
      (first | (refine ⟨(b8.ext ?_).cell, (b9.ext ?_).cell, ?_⟩ <;> (with_reducible show Ext _ _; (with_reducible (repeat (first | exact Ext.refl _ | assumption | apply Ext.alloc | apply Ext.drew | exact ext_plus _ _ | (apply Ext.setCell; rotate_left; (simp <;> omega)) | (apply Ext.trans; rotate_left; exact ext_plus _ _) | (apply Ext.trans; rotate_left; assumption)))); done)))
      (fail)
    all_goals (dsimp only [Exit.then]; go_wp2; go_meet)
    · exact ⟨_, _, rfl, rfl, by omega, by omega, by omega, (Blk.new' rfl _ _).alloc _, Blk.new' (by simp) _ _, by (with_reducible (repeat (first | exact Ext.refl _ | assumption | apply Ext.alloc | apply Ext.drew | exact ext_plus _ _ | (apply Ext.setCell; rotate_left; (simp <;> omega)) | (apply Ext.trans; rotate_left; exact ext_plus _ _) | (apply Ext.trans; rotate_left; assumption))))⟩
    · exact ⟨_, _, rfl, rfl, by omega, by omega, by omega, Blk.new' (by simp) _ _, (Blk.new' rfl _ _).alloc _, by (with_reducible (repeat (first | exact Ext.refl _ | assumption | apply Ext.alloc | apply Ext.drew | exact ext_plus _ _ | (apply Ext.setCell; rotate_left; (simp <;> omega)) | (apply Ext.trans; rotate_left; exact ext_plus _ _) | (apply Ext.trans; rotate_left; assumption))))⟩
  case rest =>
    obtain ⟨bx, bz, rfl, rfl, hxz, hbx, hbz, hX, hZ, hEc⟩ := hcut
    rename World => w9
    have hE19 := hE1.trans hEc
    have hE9 := hE.trans hEc
    have hnx : n0 < bx := by have := b8.lt; omega
    have hnz : n0 < bz := by have := b8.lt; omega
    have x1 : w1.heap.size ≤ bx := Nat.le_trans hE1.size hbx
    have x2 : w1.heap.size ≤ bz := Nat.le_trans hE1.size hbz
    clear hbx hbz b8 b9 hEc
    have k0 := hX.cell
    have k1 := hX.lt
    have k2 := hX.free
    have k3 := hZ.cell
    have k4 := hZ.lt
    have k5 := hZ.free
    have x3 : ¬ bz = bx := fun e => hxz e.symm
    go_upto_region 7 with (fail)
    obtain ⟨w10, hw10⟩ : ∃ y, (((((w9.setCell ⟨bx, 14, none⟩ (.int .i64 (i.months.length : Int))).setCell ⟨bx, 15, none⟩ (.int .i64 row)).setCell ⟨bz, 6, none⟩ (.int .i64 (i.months.length : Int))).setCell ⟨bz, 7, none⟩ (.int .i64 (row + 1))).setCell ⟨bz, 8, none⟩ (.int .i64 row)) = y := ⟨_, rfl⟩
    have hX10 : Blk w10 bx #[.int .i64 i.cap, .int .i64 i.sl, .int .i64 i.sh, .int .i64 i.roof, .int .i64 i.sand, .int .i64 i.kl, .int .i64 i.kh, .int .i64 i.ll, .int .i64 i.lh, .int .i64 i.pump, .int .i64 i.keep, .int .i64 i.size, .slice a1 i.wells.length c1, .slice a2 i.months.length c2, .int .i64 (i.months.length : Int), .int .i64 row] 52 := by rw [← hw10]; have := ((((hX.set 14 (.int .i64 (i.months.length : Int))).set 15 (.int .i64 row)).other (a := ⟨bz, 6, none⟩) x3 (.int .i64 (i.months.length : Int))).other (a := ⟨bz, 7, none⟩) x3 (.int .i64 (row + 1))).other (a := ⟨bz, 8, none⟩) x3 (.int .i64 row); simpa using this
    have hY10 : Blk w10 bz #[.int .i64 c.sunny, .int .i64 c.cloudy, .int .i64 c.size, .int .i64 c.fade, .int .i64 c.start, .slice a3 c.loads.length c3, .int .i64 (i.months.length : Int), .int .i64 (row + 1), .int .i64 row, .int .i64 c.panel, .int .i64 c.battery] 55 := by rw [← hw10]; have := ((((hZ.other (a := ⟨bx, 14, none⟩) hxz (.int .i64 (i.months.length : Int))).other (a := ⟨bx, 15, none⟩) hxz (.int .i64 row)).set 6 (.int .i64 (i.months.length : Int))).set 7 (.int .i64 (row + 1))).set 8 (.int .i64 row); simpa using this
    have six : ∀ {W : World}, Ext W w9 → W.heap.size ≤ bx → W.heap.size ≤ bz → Ext W w10 := fun {W} hh h1 h2 => by rw [← hw10]; exact ((((hh.setCell (p := ⟨bx, 14, none⟩) h1 _).setCell (p := ⟨bx, 15, none⟩) h1 _).setCell (p := ⟨bz, 6, none⟩) h2 _).setCell (p := ⟨bz, 7, none⟩) h2 _).setCell (p := ⟨bz, 8, none⟩) h2 _
    have hE110 : Ext w1 w10 := six hE19 x1 x2
    have hE10 : Ext w w10 := six hE9 (by omega) (by omega)
    rw [hw10]
    clear hw10 six k0 k1 k2 k3 k4 k5 hX hZ hE19 hE9
    have k0 := hX10.cell
    have k1 := hX10.lt
    have k2 := hY10.cell
    have k3 := hY10.lt
    have his := fun W hE => Ln.rislet_any (⟨i.cap, i.sl, i.sh, i.roof, i.sand, i.kl, i.kh, i.ll, i.lh, i.pump, i.keep, i.size, i.wells, i.months, (i.months.length : Int), row⟩ : Ln.Islet) (.slice a1 i.wells.length c1) (.slice a2 i.months.length c2) W (HWE.out W hE) (HMO.out W hE) (by show i.wells.length ≤ 1000000; omega) (by show i.months.length ≤ 1000000; omega)
    have hsy := fun W hE => Cl.dsystem_any (⟨c.sunny, c.cloudy, c.size, c.fade, c.start, c.loads, (i.months.length : Int), row + 1, row, c.panel, c.battery⟩ : Cl.C.Sys) (.slice a3 c.loads.length c3) W (HLO.out W hE) (by show c.loads.length ≤ 1000000; omega)
    obtain ⟨B1, hB1⟩ : ∃ B, Ln.islB (⟨i.cap, i.sl, i.sh, i.roof, i.sand, i.kl, i.kh, i.ll, i.lh, i.pump, i.keep, i.size, i.wells, i.months, (i.months.length : Int), row⟩ : Ln.Islet) = B := ⟨_, rfl⟩
    obtain ⟨B2, hB2⟩ : ∃ B, Cl.C.sysB (⟨c.sunny, c.cloudy, c.size, c.fade, c.start, c.loads, (i.months.length : Int), row + 1, row, c.panel, c.battery⟩ : Cl.C.Sys) = B := ⟨_, rfl⟩
    simp only [hB1] at his
    simp only [hB2] at hsy
    have HIS := Lib.hid (show ∀ W, Ext w W → Calls Tryz.prog 17 #[.agg #[.int .i64 i.cap, .int .i64 i.sl, .int .i64 i.sh, .int .i64 i.roof, .int .i64 i.sand, .int .i64 i.kl, .int .i64 i.kh, .int .i64 i.ll, .int .i64 i.lh, .int .i64 i.pump, .int .i64 i.keep, .int .i64 i.size, .slice a1 i.wells.length c1, .slice a2 i.months.length c2, .int .i64 (i.months.length : Int), .int .i64 row]] W fun e w' => e = .returned (.bool B1) ∧ Ext W w' from his)
    have HSY := Lib.hid (show ∀ W, Ext w W → Calls Tryz.prog 18 #[.agg #[.int .i64 c.sunny, .int .i64 c.cloudy, .int .i64 c.size, .int .i64 c.fade, .int .i64 c.start, .slice a3 c.loads.length c3, .int .i64 (i.months.length : Int), .int .i64 (row + 1), .int .i64 row, .int .i64 c.panel, .int .i64 c.battery]] W fun e w' => e = .returned (.bool B2) ∧ Ext W w' from hsy)
    clear his hsy
    have HB1 := Lib.hid hB1
    have HB2 := Lib.hid hB2
    clear hB1 hB2
    cases B1 with
    | false =>
      go_wp2_with (first | (go_at_call 17; refine (HIS.out _ (by (with_reducible (repeat (first | exact Ext.refl _ | assumption | apply Ext.alloc | apply Ext.drew | exact ext_plus _ _ | (apply Ext.setCell; rotate_left; (simp <;> omega)) | (apply Ext.trans; rotate_left; exact ext_plus _ _) | (apply Ext.trans; rotate_left; assumption)))))).mono ?_; rintro e w11 ⟨rfl, hE11⟩; (clear k0 k1 k2 k3); have k2 := (hY10.ext hE11).cell; have k3 := (hY10.ext hE11).lt) | (go_at_call 18; refine (HSY.out _ (by (with_reducible (repeat (first | exact Ext.refl _ | assumption | apply Ext.alloc | apply Ext.drew | exact ext_plus _ _ | (apply Ext.setCell; rotate_left; (simp <;> omega)) | (apply Ext.trans; rotate_left; exact ext_plus _ _) | (apply Ext.trans; rotate_left; assumption)))))).mono ?_; rintro e w12 ⟨rfl, hE12⟩) | (go_at_call 12; refine (known11_any _).mono ?_; rintro e wk ⟨rfl, hbk⟩))
      go_ret
      exact ⟨rfl, by (with_reducible (repeat (first | exact Ext.refl _ | assumption | apply Ext.alloc | apply Ext.drew | exact ext_plus _ _ | (apply Ext.setCell; rotate_left; (simp <;> omega)) | (apply Ext.trans; rotate_left; exact ext_plus _ _) | (apply Ext.trans; rotate_left; assumption))))⟩
    | true =>
      cases B2 with
      | false =>
        go_wp2_with (first | (go_at_call 17; refine (HIS.out _ (by (with_reducible (repeat (first | exact Ext.refl _ | assumption | apply Ext.alloc | apply Ext.drew | exact ext_plus _ _ | (apply Ext.setCell; rotate_left; (simp <;> omega)) | (apply Ext.trans; rotate_left; exact ext_plus _ _) | (apply Ext.trans; rotate_left; assumption)))))).mono ?_; rintro e w11 ⟨rfl, hE11⟩; (clear k0 k1 k2 k3); have k2 := (hY10.ext hE11).cell; have k3 := (hY10.ext hE11).lt) | (go_at_call 18; refine (HSY.out _ (by (with_reducible (repeat (first | exact Ext.refl _ | assumption | apply Ext.alloc | apply Ext.drew | exact ext_plus _ _ | (apply Ext.setCell; rotate_left; (simp <;> omega)) | (apply Ext.trans; rotate_left; exact ext_plus _ _) | (apply Ext.trans; rotate_left; assumption)))))).mono ?_; rintro e w12 ⟨rfl, hE12⟩) | (go_at_call 12; refine (known11_any _).mono ?_; rintro e wk ⟨rfl, hbk⟩))
        go_ret
        exact ⟨rfl, by (with_reducible (repeat (first | exact Ext.refl _ | assumption | apply Ext.alloc | apply Ext.drew | exact ext_plus _ _ | (apply Ext.setCell; rotate_left; (simp <;> omega)) | (apply Ext.trans; rotate_left; exact ext_plus _ _) | (apply Ext.trans; rotate_left; assumption))))⟩
      | true =>
        go_upto_if 92 with (first | (go_at_call 17; refine (HIS.out _ (by (with_reducible (repeat (first | exact Ext.refl _ | assumption | apply Ext.alloc | apply Ext.drew | exact ext_plus _ _ | (apply Ext.setCell; rotate_left; (simp <;> omega)) | (apply Ext.trans; rotate_left; exact ext_plus _ _) | (apply Ext.trans; rotate_left; assumption)))))).mono ?_; rintro e w11 ⟨rfl, hE11⟩; (clear k0 k1 k2 k3); have k2 := (hY10.ext hE11).cell; have k3 := (hY10.ext hE11).lt) | (go_at_call 18; refine (HSY.out _ (by (with_reducible (repeat (first | exact Ext.refl _ | assumption | apply Ext.alloc | apply Ext.drew | exact ext_plus _ _ | (apply Ext.setCell; rotate_left; (simp <;> omega)) | (apply Ext.trans; rotate_left; exact ext_plus _ _) | (apply Ext.trans; rotate_left; assumption)))))).mono ?_; rintro e w12 ⟨rfl, hE12⟩))
        rename Act → World → Prop => KK
        rename ∀ _ _, _ → KK _ _ => hKK
        have HKK := Lib.hid hKK
        clear hKK
        go_wp2
        have hE1012 := hE11.trans hE12
        exact HKK.out _ _ (sky_tail7 w12 HWE HMO HLO HDR HRA HNE HBX (hE110.trans hE1012) (hE10.trans hE1012) q1 q2 q3 q4 q5 q6 Q7.out Q8.out Q9.out hn (hX10.ext hE1012) (hY10.ext hE1012) HB1.out HB2.out)
end Go.Proofs.YtgloajbgphcloaaGreat
