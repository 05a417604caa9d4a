/- The document's Known: the loop over the days. -/
import Derived.Test.YtkjoojmlcjmlgaaH14a
namespace Go.Proofs.Ytkjoojmlcjmlgaa
set_option linter.unusedVariables false
set_option linter.unusedSimpArgs false
open Go.RowKit
attribute [local go_sem] Oper.semAt_some
def lowP (R : List (List C.Day)) (d j : Nat) : Int := ((R.take j).map fun l => (C.dat l d).battery).foldl C.imin (C.dat (R.getD 0 []) d).battery
def highP (R : List (List C.Day)) (d j : Nat) : Int := ((R.take j).map fun l => (C.dat l d).battery).foldl C.imax (C.dat (R.getD 0 []) d).battery
theorem lowP_succ {R : List (List C.Day)} {d j : Nat} (h : j < R.length) : lowP R d (j + 1) = C.imin (lowP R d j) (C.dat R[j] d).battery := by
  unfold lowP; rw [List.take_succ_eq_append_getElem h, List.map_append, List.foldl_append]; rfl
theorem highP_succ {R : List (List C.Day)} {d j : Nat} (h : j < R.length) : highP R d (j + 1) = C.imax (highP R d j) (C.dat R[j] d).battery := by
  unfold highP; rw [List.take_succ_eq_append_getElem h, List.map_append, List.foldl_append]; rfl
theorem lowP_all (R : List (List C.Day)) (d : Nat) : lowP R d R.length = C.lowOf R d := by unfold lowP C.lowOf; rw [List.take_length]
theorem highP_all (R : List (List C.Day)) (d : Nat) : highP R d R.length = C.highOf R d := by unfold highP C.highOf; rw [List.take_length]
theorem many_succ {R : List (List C.Day)} {d i j : Nat} (h : j < R.length) : C.many (R.take (j + 1)) d i = C.many (R.take j) d i + if C.has (C.dat R[j] d).carried i then 1 else 0 := by
  rw [List.take_succ_eq_append_getElem h]; exact many_snoc _ _ _ _
/-- What the document's Known tells. -/
def KP (c : C.Sys) (R : List (List C.Day)) (w : World) (e : Ending) (w' : World) : Prop :=
  ((e = .returned (.tuple #[.slice none 0 0, .bool false]) ∧ R = []) ∨ ∃ v, e = .returned (.tuple #[v, .bool true]) ∧ R ≠ [] ∧ Seens w' v (C.seen c R)) ∧ Ext w w'
theorem dat_h {l : List C.Day} {i : Nat} (h : i < l.length) : C.dat l i = l[i] := by unfold C.dat; rw [List.getD_eq_getElem?_getD, List.getElem?_eq_getElem h]; rfl
theorem car_at {N d j : Nat} {R : List (List C.Day)} (hl : ∀ r ∈ R, r.length = N) (hc : ∀ r ∈ R, ∀ x ∈ r, 0 ≤ x.carried ∧ x.carried ≤ 1024) (hj : j < R.length) (hd : d < N) : 0 ≤ (C.dat R[j] d).carried ∧ (C.dat R[j] d).carried ≤ 1024 := by
  have h1 := hl _ (List.getElem_mem hj)
  rw [dat_h (by omega)]
  exact hc _ (List.getElem_mem hj) _ (List.getElem_mem _)
/-- The day d of the run j, in memory. -/
theorem rowsD_at {w : World} {a : Option Addr} {cap N d j : Nat} {R : List (List C.Day)} (h : RowsD w (.slice a R.length cap) R) (hl : ∀ r ∈ R, r.length = N) (hj : j < R.length) (hd : d < N) :
    ∃ br ob b6 o6 c6, a = some ⟨br, ob, none⟩ ∧ br < w.heap.size ∧ b6 < w.heap.size ∧ w.cell? ⟨br, ob + j, none⟩ = some (.slice (some ⟨b6, o6, none⟩) N c6) ∧ w.cell? ⟨b6, o6 + d * 2, none⟩ = some (.int .i64 (C.dat R[j] d).battery) ∧ w.cell? ⟨b6, o6 + d * 2 + 1, none⟩ = some (.int .i64 (C.dat R[j] d).carried) := by
  obtain ⟨a', c', e, hx⟩ := h
  cases e
  obtain ⟨br, ob, vr, rfl, hb, h1, a6, c6, rfl, hx6⟩ := hx j hj
  have hlj := hl _ (List.getElem_mem hj)
  obtain ⟨b6, o6, rfl, hb6, hA⟩ := hx6 d (by omega)
  rw [hlj] at h1
  obtain ⟨q0, q1⟩ := day_cells hA
  exact ⟨br, ob, b6, o6, c6, rfl, hb, hb6, h1, by rw [dat_h (by omega)]; exact q0, by rw [dat_h (by omega)]; exact q1⟩
set_option maxRecDepth 1000000 in
set_option maxHeartbeats 64000000 in
theorem knw_tail4 {u0 u1 u2 u3 u5 u6 u7 u8 u9 u10 u12 u13 u14 u15 u16 u17 u18 u19 u20 u21 u22 u23 u24 u25 u26 u27 u28 u29 u30 u31 u32 u33 u34 u35 u36 u37 u38 u39 u40 u41 u42 u43 u44 u45 u46 u47 u48 u49 u50 u51 u52 u53 u54 u55 u56 u57 u58 u59 u60 u61 u62 u63 u64 u65 u66 u67 u68 u69 u70 u71 u72 u73 u74 u75 u76 u77 u78 u79 u80 u81 u82 u83 u84 u85 u86 u87 u88 u89 u90 u91 u92 u93 u94 u95 u96 u97 u98 u99 u100 u101 u102 u103 u104 u105 u106 u107 u108 u109 u110 u111 u112 u113 u114 u115 u116 u117 u118 u119 u120 u121 u122 u123 u124 u125 u126 u127 u128 u129 u130 u131 u132 u133 u134 u135 u136 u137 u138 u139 u140 u141 u142 u143 u144 u145 u146 u147 u148 u149 u150 : Value} (c : C.Sys) (R : List (List C.Day)) (N : Nat) (w wv : World) (a1 : Option Addr) (c1 bw br ob cR : Nat) (hR : RowsD wv (.slice (some ⟨br, ob, none⟩) R.length cR) R) (hlen : ∀ r ∈ R, r.length = N) (hcar : ∀ r ∈ R, ∀ x ∈ r, 0 ≤ x.carried ∧ x.carried ≤ 1024) (hM : R.length ≤ 1024) (hN : N ≤ 10) (hdz : c.days = (N : Int)) (hn5 : c.loads.length ≤ 5) (hne : R ≠ []) (hEwv : Ext w wv) (HBX : Hid (∀ y, Ext wv y → (∀ o, y.cell? ⟨bw, o, none⟩ = (sysV c (.slice a1 c.loads.length c1) : Array Value)[o]?) ∧ bw < y.heap.size)) :
    Code.wp Try.prog (knwT 4) (bodyPost Try.prog Try.f46 (KP c R w)) ⟨List.toArray (u0 :: u1 :: u2 :: u3 :: .pointer (some ⟨bw, 0, none⟩) :: u5 :: u6 :: u7 :: u8 :: u9 :: u10 :: .slice (some ⟨br, ob, none⟩) R.length cR :: u12 :: u13 :: u14 :: u15 :: u16 :: u17 :: u18 :: u19 :: u20 :: u21 :: u22 :: u23 :: u24 :: u25 :: u26 :: u27 :: u28 :: u29 :: u30 :: u31 :: u32 :: u33 :: u34 :: u35 :: u36 :: u37 :: u38 :: u39 :: u40 :: u41 :: u42 :: u43 :: u44 :: u45 :: u46 :: u47 :: u48 :: u49 :: u50 :: u51 :: u52 :: u53 :: u54 :: u55 :: u56 :: u57 :: u58 :: u59 :: u60 :: u61 :: u62 :: u63 :: u64 :: u65 :: u66 :: u67 :: u68 :: u69 :: u70 :: u71 :: u72 :: u73 :: u74 :: u75 :: u76 :: u77 :: u78 :: u79 :: u80 :: u81 :: u82 :: u83 :: u84 :: u85 :: u86 :: u87 :: u88 :: u89 :: u90 :: u91 :: u92 :: u93 :: u94 :: u95 :: u96 :: u97 :: u98 :: u99 :: u100 :: u101 :: u102 :: u103 :: u104 :: u105 :: u106 :: u107 :: u108 :: u109 :: u110 :: u111 :: u112 :: u113 :: u114 :: u115 :: u116 :: u117 :: u118 :: u119 :: u120 :: u121 :: u122 :: u123 :: u124 :: u125 :: u126 :: u127 :: u128 :: u129 :: u130 :: u131 :: u132 :: u133 :: u134 :: u135 :: u136 :: u137 :: u138 :: u139 :: u140 :: u141 :: u142 :: u143 :: u144 :: u145 :: u146 :: u147 :: u148 :: u149 :: u150 :: []), []⟩ wv := by
  unfold knwT
  conv => arg 2; whnf
  have hl0 : (((R.length : Nat) : Int) == 0) = false := by simp; exact hne
  have hM1 : 0 < R.length := List.length_pos_iff.2 hne
  have HR := Lib.hid hR
  have HLEN := Lib.hid hlen
  have HCAR := Lib.hid hcar
  have HDZ := Lib.hid hdz
  clear hR hlen hcar hdz
  obtain ⟨i0, hi, hz0, hz1, hz2⟩ := info_parts word_info
  obtain ⟨j0, hj0, hy0, hy1, hy2⟩ := info_parts seen_info
  have hbx := HBX.out wv (Ext.refl _)
  obtain ⟨k0, l0⟩ := hbx
  go_wp2
  (try clear k0 l0)
  go_loopw [15, 16] (fun s15 s16 wx => ∃ (k : Nat) (ss : List (C.Seen × Value)), k ≤ N ∧ s16 = .int .i64 k ∧ ss.map Prod.fst = (List.range k).map (C.seenAt c R) ∧ wx.ownsRow wv.heap.size 54 3 s15 k (ss.flatMap seenC) ∧ (∀ s ∈ ss, wx.ownsRow wv.heap.size 55 1 s.2 s.1.loads.length (s.1.loads.map (Value.int .i64))) ∧ Ext wv wx) (fun _ s _ => N - (intOf s).toNat)
  case atStart => exact ⟨0, [], Nat.zero_le _, rfl, rfl, World.ownsRow_nil _ _ _ _, fun _ h => (by cases h), Ext.refl _⟩
  case round =>
    rename World => wx
    obtain ⟨k, ss, hk, rfl, hss, hown, hws, hEx⟩ := hrel
    have HSS := Lib.hid hss
    have HWS := Lib.hid hws
    have HOW := Lib.hid hown
    clear hss hws
    obtain ⟨a9, c9, rfl⟩ := own_slice hown
    clear hown
    obtain ⟨k0, l0⟩ := HBX.out wx hEx
    by_cases hkN : k < N
    · have HKN := Lib.hid hkN
      have hkd : (k : Int) < c.days := by have := HDZ.out; omega
      obtain ⟨br', ob', b6, o6, c6, e0, hbr, hb6, r0, q0, q1⟩ := rowsD_at (RowsD.ext HR.out hEx) HLEN.out hM1 hkN
      cases e0
      simp only [Nat.add_zero] at r0
      have hb0 : (C.dat R[0] k).battery = lowP R k 0 := by unfold lowP; cases R with | nil => exact absurd rfl hne | cons x xs => rfl
      have hb1 : lowP R k 0 = highP R k 0 := rfl
      rw [hb0] at q0
      go_upto_region 15 with (fail)
      refine knw_reg15 _ _ (fun _ _ d _ _ h => by cases d <;> exact h) r0 q0 hbr hb6 hM1 hkN ?_
      intro _ _ _ _ _ _ _ _ _ _ _ _ _ _ _ _ w9 hE9 hB9
      clear r0 q0 q1 k0 l0 hb0
      obtain ⟨bs, hbs⟩ : ∃ bs, wx.heap.size = bs := ⟨_, rfl⟩
      rw [hbs] at hB9 ⊢
      have HBS := Lib.hid hbs
      go_wp2
      go_loopw [18] (fun s wy => ∃ j : Nat, j ≤ R.length ∧ s = .int .i64 j ∧ Ext wx wy ∧ Blk wy bs #[.int .i64 (lowP R k j), .int .i64 (highP R k j), .slice none 0 0] 54) (fun s _ => R.length - (intOf s).toNat)
      case atStart => exact ⟨0, Nat.zero_le _, rfl, hE9, hB9⟩
      case round =>
        rename World => wy
        obtain ⟨j, hj, rfl, hEy, hB⟩ := hrel
        have hEvy := hEx.trans hEy
        by_cases hjM : j < R.length
        · have HJM := Lib.hid hjM
          obtain ⟨br', ob', b6, o6, c6, e0, hbr, hb6, r0, q0, q1⟩ := rowsD_at (RowsD.ext HR.out hEvy) HLEN.out hjM hkN
          cases e0
          go_upto_region 19 with (fail)
          refine knw_reg19 wx _ _ (fun _ _ d _ _ h => by cases d <;> exact h) r0 q0 hbr hb6 hjM hkN hB hEy (by have := HBS.out; omega) ?_
          intro _ _ _ _ _ _ _ _ _ _ _ _ _ _ _ _ _ _ _ _ _ _ _ _ _ _ w10 hE10 hB10
          rw [imin_min, imax_max, ← lowP_succ hjM, ← highP_succ hjM] at hB10
          clear r0 q0 q1
          go_wp2
          go_roundw
          case rel => exact ⟨j + 1, HJM.out, by go_num, hE10, hB10⟩
          case measure => have := HJM.out; simp [intOf]; omega
        · have hjj : j = R.length := by omega
          subst hjj
          rw [lowP_all, highP_all] at hB
          obtain ⟨LO, hLO⟩ : ∃ LO, C.lowOf R k = LO := ⟨_, rfl⟩
          obtain ⟨HI, hHI⟩ : ∃ HI, C.highOf R k = HI := ⟨_, rfl⟩
          rw [hLO, hHI] at hB
          have HLO := Lib.hid hLO
          have HHI := Lib.hid hHI
          clear hLO hHI
          go_wp2
          go_loopw [19] (fun s wz => ∃ (i : Nat) (vw : Value), i ≤ c.loads.length ∧ s = .int .i64 i ∧ Ext wx wz ∧ Blk wz bs #[.int .i64 LO, .int .i64 HI, vw] 54 ∧ wz.ownsRow (bs + 1) 55 1 vw i ((wordsTo R k i).map (Value.int .i64))) (fun s _ => c.loads.length - (intOf s).toNat)
          case atStart => exact ⟨0, .slice none 0 0, Nat.zero_le _, rfl, hEy, hB, World.ownsRow_nil _ _ _ _⟩
          case round =>
            rename World => wz
            obtain ⟨i, vw, hil, rfl, hEz, hBz, hvw⟩ := hrel
            have hEvz := hEx.trans hEz
            obtain ⟨k0, l0⟩ := HBX.out wz hEvz
            obtain ⟨aw, cw, rfl⟩ := own_slice hvw
            by_cases hin : i < c.loads.length
            · have HIN := Lib.hid hin
              go_wp2
              go_loopw [20, 21] (fun s20 s21 wu => ∃ j : Nat, j ≤ R.length ∧ s20 = .int .i64 (C.many (R.take j) k i : Nat) ∧ s21 = .int .i64 j ∧ Ext wz wu) (fun _ s _ => R.length - (intOf s).toNat)
              case atStart => exact ⟨0, Nat.zero_le _, rfl, rfl, Ext.refl _⟩
              case round =>
                rename World => wu
                obtain ⟨j, hj, rfl, rfl, hEu⟩ := hrel
                have hEvu := hEvz.trans hEu
                have hml := many_le (R.take j) k i
                rw [List.length_take, Nat.min_eq_left hj] at hml
                by_cases hjM : j < R.length
                · have HJM := Lib.hid hjM
                  obtain ⟨br', ob', b6, o6, c6, e0, hbr, hb6, r0, q0, q1⟩ := rowsD_at (RowsD.ext HR.out hEvu) HLEN.out hjM hkN
                  cases e0
                  have hms := many_succ (d := k) (i := i) hjM
                  have hcx := car_at HLEN.out HCAR.out hjM hkN
                  obtain ⟨xc, hxc⟩ : ∃ xc, (C.dat (R[j]'hjM) k).carried = xc := ⟨_, rfl⟩
                  rw [hxc] at q1 hms hcx
                  generalize hm : C.many (R.take j) k i = m at hms hml ⊢
                  cases H : C.has xc i with
                  | true =>
                    rw [H, if_pos rfl] at hms
                    have HMS := Lib.hid hms
                    clear hms hxc hm q0
                    go_wp2_with (first | (go_at_call 24; refine (dhas_any _ _ _ (by omega) (by omega) (by omega)).mono ?_; rintro e w6 ⟨rfl, rfl⟩))
                    go_roundw
                    case rel => exact ⟨j + 1, HJM.out, by rw [HMS.out]; go_num, by go_num, hEu⟩
                    case measure => have := HJM.out; simp [intOf]; omega
                  | false =>
                    rw [H, if_neg (by decide), Nat.add_zero] at hms
                    have HMS := Lib.hid hms
                    clear hms hxc hm q0
                    go_wp2_with (first | (go_at_call 24; refine (dhas_any _ _ _ (by omega) (by omega) (by omega)).mono ?_; rintro e w6 ⟨rfl, rfl⟩))
                    go_roundw
                    case rel => exact ⟨j + 1, HJM.out, by rw [HMS.out]; rfl, by go_num, hEu⟩
                    case measure => have := HJM.out; simp [intOf]; omega
                · have hjj : j = R.length := by omega
                  subst hjj
                  rw [List.take_length] at hml ⊢
                  have hwt := wordsTo_succ R k i
                  have hBu := hBz.ext hEu
                  have hvu := own_ext hvw hEu
                  have HVU := Lib.hid hvu
                  have hxu : Ext wx wu := hEz.trans hEu
                  generalize hm : C.many R k i = m at hml hwt ⊢
                  have d0 := hBu.cell
                  have d1 := hBu.lt
                  have HWT := Lib.hid hwt
                  clear hwt hvw hvu hBz
                  by_cases hm0 : m = 0
                  · skip
                    have hW : C.word m R.length = 1 := by unfold C.word; rw [if_pos hm0]
                    have HW := Lib.hid hW
                    clear hW
                    have hsz := HBS.out
                    have hszu := hxu.size
                    have HM := Lib.hid hm
                    clear hm
                    have hmi : ((m : Nat) : Int) = 0 := by omega
                    skip
                    have e1 : (((m : Nat) : Int) == 0) = true := by simpa using hmi
                    skip
                    clear hmi
                    go_upto_region 34 with (fail)
                    go_wp2_with (first | ((at_builtin; refine wpList_append_own _ rfl _ _ 52 rfl (bs + 1) 55 i0 (.int .i64 0) 1 8 Try.underlying52 hi hz0 hz1 hz2 rfl (by decide) _ _ _ rfl ((own_ext HVU.out ((Ext.refl wu).alloc _))) ⟨wu.heap.size, 0, none⟩ 1 1 [.int .i64 1] rfl rfl (cell_one _ _ _ (by simp)) (one_int _) (by unfold maxLen; omega) (by omega) (by simp <;> omega) ?_; intro v' w1 hown' hgrow _; obtain ⟨g', cap', rfl⟩ := own_succ hown'); have hBn := Blk.grown (hBu.alloc _) hgrow (base := bs + 1) (own_base HVU.out) (Nat.lt_succ_self _); clear d0 d1; have d0 := hBn.cell; have d1 := hBn.lt; have d2 := hBn.free))
                    go_roundw
                    case rel => exact ⟨i + 1, _, HIN.out, by go_num, (Ext.grown (hxu.alloc _) hgrow (fun q hq => by have := own_base HVU.out q hq; have := HBS.out; omega)).setCell (p := ⟨bs, 2, none⟩) (by have := HBS.out; simp; omega) _, by simpa using hBn.set 2 _, by rw [HWT.out, HW.out, List.map_append]; exact own_move hown' fun g cur hg _ => Below.heap_setCell _ _ _ _ (by simp; omega)⟩
                    case measure => have := HIN.out; simp [intOf]; omega
                  · by_cases hmM : m = R.length
                    · skip
                      have hW : C.word m R.length = 3 := by unfold C.word; rw [if_neg hm0, if_pos hmM]
                      have HW := Lib.hid hW
                      clear hW
                      have hsz := HBS.out
                      have hszu := hxu.size
                      have HM := Lib.hid hm
                      clear hm
                      have hmi : ¬ ((m : Nat) : Int) = 0 := by omega
                      have hmj : ((m : Nat) : Int) = (R.length : Int) := by omega
                      have e1 : (((m : Nat) : Int) == 0) = false := by simpa using hmi
                      have e2 : (((m : Nat) : Int) == (R.length : Int)) = true := by simpa using hmj
                      clear hmi hmj
                      go_upto_region 34 with (fail)
                      go_wp2_with (first | ((at_builtin; refine wpList_append_own _ rfl _ _ 52 rfl (bs + 1) 55 i0 (.int .i64 0) 1 8 Try.underlying52 hi hz0 hz1 hz2 rfl (by decide) _ _ _ rfl ((own_ext HVU.out ((Ext.refl wu).alloc _))) ⟨wu.heap.size, 0, none⟩ 1 1 [.int .i64 3] rfl rfl (cell_one _ _ _ (by simp)) (one_int _) (by unfold maxLen; omega) (by omega) (by simp <;> omega) ?_; intro v' w1 hown' hgrow _; obtain ⟨g', cap', rfl⟩ := own_succ hown'); have hBn := Blk.grown (hBu.alloc _) hgrow (base := bs + 1) (own_base HVU.out) (Nat.lt_succ_self _); clear d0 d1; have d0 := hBn.cell; have d1 := hBn.lt; have d2 := hBn.free))
                      go_roundw
                      case rel => exact ⟨i + 1, _, HIN.out, by go_num, (Ext.grown (hxu.alloc _) hgrow (fun q hq => by have := own_base HVU.out q hq; have := HBS.out; omega)).setCell (p := ⟨bs, 2, none⟩) (by have := HBS.out; simp; omega) _, by simpa using hBn.set 2 _, by rw [HWT.out, HW.out, List.map_append]; exact own_move hown' fun g cur hg _ => Below.heap_setCell _ _ _ _ (by simp; omega)⟩
                      case measure => have := HIN.out; simp [intOf]; omega
                    · skip
                      have hW : C.word m R.length = 2 := by unfold C.word; rw [if_neg hm0, if_neg hmM]
                      have HW := Lib.hid hW
                      clear hW
                      have hsz := HBS.out
                      have hszu := hxu.size
                      have HM := Lib.hid hm
                      clear hm
                      have hmi : ¬ ((m : Nat) : Int) = 0 := by omega
                      have hmj : ¬ ((m : Nat) : Int) = (R.length : Int) := by omega
                      have e1 : (((m : Nat) : Int) == 0) = false := by simpa using hmi
                      have e2 : (((m : Nat) : Int) == (R.length : Int)) = false := by simpa using hmj
                      clear hmi hmj
                      go_upto_region 34 with (fail)
                      go_wp2_with (first | ((at_builtin; refine wpList_append_own _ rfl _ _ 52 rfl (bs + 1) 55 i0 (.int .i64 0) 1 8 Try.underlying52 hi hz0 hz1 hz2 rfl (by decide) _ _ _ rfl ((own_ext HVU.out ((Ext.refl wu).alloc _))) ⟨wu.heap.size, 0, none⟩ 1 1 [.int .i64 2] rfl rfl (cell_one _ _ _ (by simp)) (one_int _) (by unfold maxLen; omega) (by omega) (by simp <;> omega) ?_; intro v' w1 hown' hgrow _; obtain ⟨g', cap', rfl⟩ := own_succ hown'); have hBn := Blk.grown (hBu.alloc _) hgrow (base := bs + 1) (own_base HVU.out) (Nat.lt_succ_self _); clear d0 d1; have d0 := hBn.cell; have d1 := hBn.lt; have d2 := hBn.free))
                      go_roundw
                      case rel => exact ⟨i + 1, _, HIN.out, by go_num, (Ext.grown (hxu.alloc _) hgrow (fun q hq => by have := own_base HVU.out q hq; have := HBS.out; omega)).setCell (p := ⟨bs, 2, none⟩) (by have := HBS.out; simp; omega) _, by simpa using hBn.set 2 _, by rw [HWT.out, HW.out, List.map_append]; exact own_move hown' fun g cur hg _ => Below.heap_setCell _ _ _ _ (by simp; omega)⟩
                      case measure => have := HIN.out; simp [intOf]; omega
            · have hii : i = c.loads.length := by omega
              have hoS := own_ext HOW.out hEz
              have hzv := hEvz.size
              have d0 := hBz.cell
              have d1 := hBz.lt
              have HVW := Lib.hid hvw
              have HII := Lib.hid hii
              clear hvw hii
              have hii2 : ¬ i < c.loads.length := hin
              go_wp2_with (first | (at_builtin; refine wpList_append_own _ rfl _ _ 47 rfl (wv.heap.size) 54 j0 (.agg #[.int .i64 0, .int .i64 0, .slice none 0 0]) 3 40 Try.underlying47 hj0 hy0 hy1 hy2 rfl (by decide) _ _ _ rfl (own_ext hoS ((Ext.refl _).alloc _)) ⟨wz.heap.size, 0, none⟩ 1 1 [.int .i64 LO, .int .i64 HI, .slice aw i cw] rfl rfl (cell_three _ _ _ _ _ (by simp)) (by intro u hu; simp at hu; rcases hu with rfl | rfl | rfl <;> rfl) (by unfold maxLen; omega) (by omega) (by simp; omega) ?_; intro v' w8 hown' hgrow _))
              have hEza : Ext wz (wz.alloc (.cells #[.int .i64 LO, .int .i64 HI, .slice aw i cw] 54)) := (Ext.refl _).alloc _
              have hE8 : Ext wv w8 := Ext.grown (hEvz.trans hEza) hgrow (own_base hoS)
              go_roundw
              case rel =>
                refine ⟨k + 1, ss ++ [(C.seenAt c R k, .slice aw i cw)], HKN.out, by go_num, ?_, ?_, ?_, hE8⟩
                · rw [List.map_append, HSS.out, List.range_succ, List.map_append]; rfl
                · rw [List.flatMap_append]
                  have e9 : [(C.seenAt c R k, Value.slice aw i cw)].flatMap seenC = [.int .i64 LO, .int .i64 HI, .slice aw i cw] := by rw [← HLO.out, ← HHI.out]; rfl
                  rw [e9]; exact hown'
                · intro s hs'
                  rw [List.mem_append] at hs'
                  rcases hs' with hs' | hs'
                  · exact own_apart (own_ext (own_ext (HWS.out s hs') hEz) hEza) (own_ext hoS hEza) (by decide) hgrow
                  · rw [List.mem_singleton] at hs'
                    subst hs'
                    have h9 := own_apart (own_ext HVW.out hEza) (own_ext hoS hEza) (by decide) hgrow
                    rw [seenAt_eq]
                    dsimp only
                    rw [wordsTo_len, ← HII.out]
                    exact own_mono h9 (by have := HBS.out; have := hEx.size; omega)
              case measure => have := HKN.out; simp [intOf]; omega
    · have hkk : k = N := by omega
      have hkd : ¬ (k : Int) < c.days := by have := HDZ.out; omega
      have hsl : ss.length = k := by have := congrArg List.length HSS.out; simpa using this
      have hown2 := HOW.out
      rw [← hsl] at hown2
      have hse := seens_of hown2 HWS.out
      rw [HSS.out] at hse
      have hsn : (List.range k).map (C.seenAt c R) = C.seen c R := by unfold C.seen; rw [hkk]; congr 2; have := HDZ.out; omega
      rw [hsn, hsl] at hse
      have HSE := Lib.hid hse
      clear hse hsn hown2 hsl hkk
      go_wp2
      exact bodyPost_ret (v := .tuple #[.slice a9 k c9, .bool true]) (by simp [results, Try.results46, go_sem]) rfl ⟨.inr ⟨_, rfl, hne, HSE.out⟩, hEwv.trans hEx⟩
end Go.Proofs.Ytkjoojmlcjmlgaa
