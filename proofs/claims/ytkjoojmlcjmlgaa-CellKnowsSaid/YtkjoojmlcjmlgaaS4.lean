/- The merge of two sorted neighbours, one of which is a single element. -/
import Derived.Test.YtkjoojmlcjmlgaaS3
namespace Go.Proofs.Ytkjoojmlcjmlgaa
set_option linter.unusedVariables false
set_option linter.unusedSimpArgs false
open Go.RowKit
set_option maxRecDepth 100000 in
set_option maxHeartbeats 16000000 in
theorem symXSt (g : Nat) (bc : Nat) (key : Int × Int → Int) (rank : Int × Int → Nat) (D : Int × Int → Prop) (K : World → Prop) (hK : ∀ w w', K w → Off g w w' → K w') (hD : ∀ x, D x → -1000000000 ≤ key x ∧ key x ≤ 1000000000)
    (HC : ∀ w' x y, K w' → D x → D y → Calls Try.prog 60 #[.agg #[.int .i64 x.1, .int .i64 x.2], .agg #[.int .i64 y.1, .int .i64 y.2], .pointer (some ⟨bc, 0, none⟩)] w' fun e w2 => e = .returned (.int .i64 (key x - key y)) ∧ Ext w' w2)
    (A X Y B : List (Int × Int)) (cap a m b N : Nat) (w : World) (hKw : K w) (hDX : ∀ x ∈ X, D x) (hDY : ∀ y ∈ Y, D y) (hSX : S.Srt (S.Ord key rank) X) (hSY : S.Srt (S.Ord key rank) Y) (hrk : ∀ x ∈ X, ∀ y ∈ Y, rank x < rank y)
    (ha : a = A.length) (hm : m = A.length + X.length) (hb : b = A.length + X.length + Y.length) (hX1 : X.length = 1) (hY0 : 0 < Y.length)
    (hN : N = (A ++ (X ++ (Y ++ B))).length) (hsz : N ≤ 1000000) (h : RowB storeC 2 86 w g (A ++ (X ++ (Y ++ B)))) :
    Calls Try.prog 88 #[.slice (some ⟨g, 0, none⟩) N cap, .int .i64 a, .int .i64 m, .int .i64 b, .func (.func 60) #[] #[.pointer (some ⟨bc, 0, none⟩)]] w fun e w' => e = .returned (.tuple #[]) ∧ ∃ Z, Z.Perm (X ++ Y) ∧ S.Srt (S.Ord key rank) Z ∧ RowB storeC 2 86 w' g (A ++ (Z ++ B)) ∧ Off g w w' := by
  obtain ⟨x, rfl⟩ : ∃ x, X = [x] := by
    match X, hX1 with
    | [x], _ => exact ⟨x, rfl⟩
  have hNl : N = A.length + 1 + Y.length + B.length := by rw [hN]; simp; omega
  have hm' : m = a + 1 := by simp at hm; omega
  have hb' : b = a + 1 + Y.length := by simp at hb; omega
  have hma : (m : Int) - (a : Int) = 1 := by omega
  have hbN : b ≤ N := by omega
  have hmN : m < N := by omega
  have haN : a < N := by omega
  have hDx := hDX x (by simp)
  have hrx : ∀ y ∈ Y, rank x < rank y := fun y hy => hrk x (by simp) y hy
  have HCM := Lib.hid HC
  have HF := Lib.hid (And.intro ha (And.intro hm' (And.intro hb' hNl)))
  have H := Lib.hid h
  have HDY := Lib.hid hDY
  have HSY := Lib.hid hSY
  have HRK := Lib.hid hrx
  have hpc := plus_cell
  clear HC hDX hDY hSX hSY hrk hrx ha hm hb hN hNl h hm' hb' hX1
  go_enter Try.func88, Try.ntmps88
  go_wp2
  go_loopw [10, 11, 12] (fun vi vj _ wr => ∃ u v i j : Nat, u ≤ v ∧ v ≤ Y.length ∧ vi = .int .i64 i ∧ vj = .int .i64 j ∧ i = m + u ∧ j = m + v ∧ (∀ t (ht : t < Y.length), t < u → S.Ord key rank Y[t] x) ∧ (∀ t (ht : t < Y.length), v ≤ t → S.Ord key rank x Y[t]) ∧ Ext w wr) (fun vi vj _ _ => (intOf vj).toNat - (intOf vi).toNat)
  case atStart => exact ⟨0, Y.length, m, b, Nat.zero_le _, Nat.le_refl _, rfl, rfl, rfl, by have := HF.out; omega, fun t ht h => by omega, fun t ht h => by omega, Ext.refl _⟩
  case round =>
    rename World => wr
    obtain ⟨u, v, i, j, huv, hv, rfl, rfl, hi, hj, hlo, hhi, hEr⟩ := hrel
    have HLO := Lib.hid hlo
    have HHI := Lib.hid hhi
    by_cases hlt : u < v
    · obtain ⟨t, ht⟩ : ∃ t, (u + v) / 2 = t := ⟨_, rfl⟩
      obtain ⟨q, hq⟩ : ∃ q, m + t = q := ⟨_, rfl⟩
      have htu : u ≤ t ∧ t < v := by omega
      have htY : t < Y.length := by omega
      obtain ⟨ha, hm, hb, hNl⟩ := HF.out
      have hqN : q < N := by omega
      have hij : i + j = 2 * q ∨ i + j = 2 * q + 1 := by omega
      have hijl : i < j := by omega
      have hi6 : i ≤ 1000000 := by omega
      have hj6 : j ≤ 1000000 := by omega
      have HIJ := Lib.hid (And.intro hi hj)
      clear hi hj ht ha hm hb hNl hlo hhi
      have hqi : ((i : Int) + (j : Int)) / 2 = (q : Int) := by omega
      have hqN' : (q : Int) < (N : Int) := by omega
      have hwq : IntKind.wrap .i64 (q : Int) = q := IntWalk.i64_in _ (by omega)
      have haN' : (a : Int) < (N : Int) := by omega
      have hDy := HDY.out _ (List.getElem_mem htY)
      have hry := HRK.out _ (List.getElem_mem htY)
      have hs : Y = Y.take t ++ Y[t] :: Y.drop (t + 1) := by rw [← List.drop_eq_getElem_cons htY, List.take_append_drop]
      have hla := S.low_all (S.ord_trans key rank) HSY.out htY (x := x)
      have hha := S.high_all (S.ord_trans key rank) HSY.out htY (x := x)
      obtain ⟨y, hy⟩ : ∃ y, Y[t] = y := ⟨_, rfl⟩
      rw [hy] at hDy hry hs hla hha
      have hrow := RowB.ext H.out hEr
      have hrow2 : RowB storeC 2 86 wr g ((A ++ ([x] ++ Y.take t)) ++ y :: (Y.drop (t + 1) ++ B)) := by
        have e : (A ++ ([x] ++ Y.take t)) ++ y :: (Y.drop (t + 1) ++ B) = A ++ ([x] ++ ((Y.take t ++ y :: Y.drop (t + 1)) ++ B)) := by simp
        rw [e, ← hs]; exact hrow
      have hql : q = (A ++ ([x] ++ Y.take t)).length := by simp; have := HF.out.1; have := HF.out.2.1; omega
      have hgl := RowB.lt hrow
      obtain ⟨d1, d2⟩ := atSt hrow2 hql
      obtain ⟨e1, e2⟩ := atSt (Z := Y ++ B) (by simpa using hrow) HF.out.1
      have hcc := fun w' (hk : K w') => HCM.out w' y x hk hDy hDx
      obtain ⟨c, hc⟩ : ∃ c, key y - key x = c := ⟨_, rfl⟩
      simp only [hc] at hcc
      have HCC := Lib.hid hcc
      have HCD := Lib.hid (show c < 0 ↔ key y < key x by omega)
      have HLA := Lib.hid hla
      have HHA := Lib.hid hha
      have HRY := Lib.hid hry
      have HIT := Lib.hid (And.intro hq htu)
      clear hcc hc hla hha hry hs hrow hrow2 hql hDy hy hq htY
      by_cases hneg : c < 0
      · have HO : Hid (S.Ord key rank y x) := .inl (HCD.out.1 hneg)
        have HNEG := Lib.hid hneg
        clear hneg
        go_upto_region 5 with (fail)
        refine wp_region_ext 11 (fun _ _ d _ _ h => by cases d <;> exact h) (by kernel_rfl) (by kernel_rfl) (by kernel_rfl) (by kernel_rfl) ?_
        simp only [List.take_succ_cons, List.take_zero, List.drop_succ_cons, List.drop_zero]
        have hneg := HNEG.out
        repeat (any_goals (first | go_big_quiet_step ((go_at_call 60; exact ext_quiet (HCC.out _ (hK _ _ hKw (Ext.off (hEr.trans (by (with_reducible (repeat (first | exact Ext.refl _ | assumption | apply Ext.alloc | apply Ext.drew | exact ext_plus _ _ | (apply Ext.setCell; rotate_left; (simp <;> omega)) | (apply Ext.trans; rotate_left; exact ext_plus _ _) | (apply Ext.trans; rotate_left; assumption)))))) g))))) | quiet_step ((go_at_call 60; exact ext_quiet (HCC.out _ (hK _ _ hKw (Ext.off (hEr.trans (by (with_reducible (repeat (first | exact Ext.refl _ | assumption | apply Ext.alloc | apply Ext.drew | exact ext_plus _ _ | (apply Ext.setCell; rotate_left; (simp <;> omega)) | (apply Ext.trans; rotate_left; exact ext_plus _ _) | (apply Ext.trans; rotate_left; assumption)))))) g)))))))
        all_goals (refine wpQuiet_nil ?_; intro wq hEq)
        unfold wpList
        clear d1 e1 d2 e2
        go_wp2
        go_roundw
        case rel => exact ⟨t + 1, v, q + 1, j, by have := HIT.out.2; omega, hv, by go_num, rfl, by have := HIT.out.1; omega, HIJ.out.2, HLA.out HO.out, HHI.out, hEr.trans hEq⟩
        case measure => simp [intOf]; omega
      · have HO : Hid (S.Ord key rank x y) := (S.ord_lt HRY.out).2 (fun h => hneg (HCD.out.2 h))
        have HNEG := Lib.hid hneg
        clear hneg
        go_upto_region 5 with (fail)
        refine wp_region_ext 11 (fun _ _ d _ _ h => by cases d <;> exact h) (by kernel_rfl) (by kernel_rfl) (by kernel_rfl) (by kernel_rfl) ?_
        simp only [List.take_succ_cons, List.take_zero, List.drop_succ_cons, List.drop_zero]
        have hneg := HNEG.out
        repeat (any_goals (first | go_big_quiet_step ((go_at_call 60; exact ext_quiet (HCC.out _ (hK _ _ hKw (Ext.off (hEr.trans (by (with_reducible (repeat (first | exact Ext.refl _ | assumption | apply Ext.alloc | apply Ext.drew | exact ext_plus _ _ | (apply Ext.setCell; rotate_left; (simp <;> omega)) | (apply Ext.trans; rotate_left; exact ext_plus _ _) | (apply Ext.trans; rotate_left; assumption)))))) g))))) | quiet_step ((go_at_call 60; exact ext_quiet (HCC.out _ (hK _ _ hKw (Ext.off (hEr.trans (by (with_reducible (repeat (first | exact Ext.refl _ | assumption | apply Ext.alloc | apply Ext.drew | exact ext_plus _ _ | (apply Ext.setCell; rotate_left; (simp <;> omega)) | (apply Ext.trans; rotate_left; exact ext_plus _ _) | (apply Ext.trans; rotate_left; assumption)))))) g)))))))
        all_goals (refine wpQuiet_nil ?_; intro wq hEq)
        unfold wpList
        clear d1 e1 d2 e2
        have hdc : decide (c < 0) = false := decide_eq_false (by omega)
        have hge : 0 ≤ c := by omega
        go_wp2
        go_roundw
        case rel => exact ⟨u, t, i, q, HIT.out.2.1, by have := HIT.out.2; omega, rfl, by go_num, HIJ.out.1, HIT.out.1.symm, HLO.out, HHA.out HO.out, hEr.trans hEq⟩
        case measure => simp [intOf]; omega
    · obtain rfl : u = v := by omega
      have hji : j = i := by omega
      subst hji
      obtain ⟨e, he⟩ : ∃ e, a + u = e := ⟨_, rfl⟩
      have hie : (j : Int) - 1 = (e : Int) := by have := HF.out.2.1; omega
      have heN : e < N := by have := HF.out; omega
      have hrow : RowB storeC 2 86 wr g (A ++ (Y.take 0 ++ x :: (Y.drop 0 ++ B))) := by simpa using RowB.ext H.out hEr
      have HIJ := Lib.hid (And.intro hi he)
      clear hi hj hlo hhi he
      go_wp2
      go_loopw [13] (fun vk wz => ∃ t p : Nat, t ≤ u ∧ vk = .int .i64 p ∧ p = a + t ∧ RowB storeC 2 86 wz g (A ++ (Y.take t ++ x :: (Y.drop t ++ B))) ∧ Off g w wz) (fun vk _ => e - (intOf vk).toNat)
      case atStart => exact ⟨0, a, Nat.zero_le _, rfl, rfl, hrow, hEr.off g⟩
      case round =>
        rename World => wz
        clear hrow
        obtain ⟨t, p, htu, rfl, hpt, hrow, hO⟩ := hrel
        by_cases hlt2 : t < u
        · have htY : t < Y.length := by omega
          obtain ⟨q, hq⟩ : ∃ q, p + 1 = q := ⟨_, rfl⟩
          have hpe : p < e := by have := HIJ.out.2; omega
          have hpe' : (p : Int) < (e : Int) := by omega
          obtain ⟨y, hy⟩ : ∃ y, Y[t] = y := ⟨_, rfl⟩
          have hd := List.drop_eq_getElem_cons htY
          have htk := List.take_succ_eq_append_getElem htY
          rw [hy] at hd htk
          obtain ⟨P, hP⟩ : ∃ P, A ++ Y.take t = P := ⟨_, rfl⟩
          obtain ⟨Q, hQ⟩ : ∃ Q : List (Int × Int), [] = Q := ⟨_, rfl⟩
          obtain ⟨Z, hZ⟩ : ∃ Z, Y.drop (t + 1) ++ B = Z := ⟨_, rfl⟩
          have e1 : A ++ (Y.take t ++ x :: (Y.drop t ++ B)) = P ++ x :: (Q ++ y :: Z) := by rw [hd, ← hP, ← hQ, ← hZ]; simp
          have e2 : P ++ y :: (Q ++ x :: Z) = A ++ (Y.take (t + 1) ++ x :: (Y.drop (t + 1) ++ B)) := by rw [htk, ← hP, ← hQ, ← hZ]; simp
          rw [e1] at hrow
          have hPl : p = P.length := by rw [← hP]; simp; have := HF.out.1; omega
          have hQl : Q.length = 0 := by rw [← hQ]; rfl
          have HE2 := Lib.hid e2
          have HPQ := Lib.hid (And.intro hPl (And.intro (show q = (P ++ x :: Q).length by simp; omega) (show q = P.length + 1 + Q.length by omega)))
          have hqi : (p : Int) + 1 = (q : Int) := by omega
          have hqN : q < N := by have := HF.out; have := HIJ.out; omega
          have hpN : p < N := by omega
          have hwp : IntKind.wrap .i64 (p : Int) = p := IntWalk.i64_in _ (by omega)
          have hwq : IntKind.wrap .i64 (q : Int) = q := IntWalk.i64_in _ (by omega)
          have hpN' : (p : Int) < (N : Int) := by omega
          have hqN' : (q : Int) < (N : Int) := by omega
          have HPT := Lib.hid (And.intro hpt hq)
          clear hpt hd htk hy hP hQ hZ e1 e2 hPl hQl hq htY
          go_upto_region 11 with (fail)
          have hrd : RowB storeC 2 86 wz.drew g (P ++ x :: (Q ++ y :: Z)) := RowB.move hrow rfl
          have hSM : ∀ z, (fun c z => c = false → RowB storeC 2 86 z g (P ++ x :: (Q ++ y :: Z))) false z → (fun c z => c = false → RowB storeC 2 86 z g (P ++ x :: (Q ++ y :: Z))) true z := fun z _ e => absurd (e : true = false) (by decide)
          refine wp_region_late 15 (fun c z => c = false → RowB storeC 2 86 z g (P ++ x :: (Q ++ y :: Z))) (by kernel_rfl) (fun hL => ?_)
          refine late_early (i := 0) (v := ?_) rfl (by kernel_rfl) (by kernel_rfl) (by kernel_rfl) (by decide) (by kernel_rfl) (fun _ _ _ h => h) hL (Or.inl ⟨by rfl, ?_⟩) (fun _ => hrd) (fun hL' => ?_)
          rotate_left
          · intro y hy; clear hy; go_simp; (try with_reducible rfl)
          clear hL; rename Shutb _ _ => hL
          (try simp only [Act.put, List.getElem_toArray, List.getElem_cons_zero, List.getElem_cons_succ, List.setIfInBounds_toArray, List.set_cons_zero, List.set_cons_succ])
          refine late_early (i := 1) (v := ?_) rfl (by kernel_rfl) (by kernel_rfl) (by kernel_rfl) (by decide) (by kernel_rfl) (fun _ _ _ h => h) hL (Or.inl ⟨by rfl, ?_⟩) (fun _ => hrd) (fun hL' => ?_)
          rotate_left
          · intro y hy; clear hy; go_simp; (try with_reducible rfl)
          clear hL; rename Shutb _ _ => hL
          (try simp only [Act.put, List.getElem_toArray, List.getElem_cons_zero, List.getElem_cons_succ, List.setIfInBounds_toArray, List.set_cons_zero, List.set_cons_succ])
          refine late_early (i := 5) (v := ?_) rfl (by kernel_rfl) (by kernel_rfl) (by kernel_rfl) (by decide) (by kernel_rfl) (fun _ _ _ h => h) hL (Or.inl ⟨by rfl, ?_⟩) (fun _ => hrd) (fun hL' => ?_)
          rotate_left
          · intro y hy; clear hy; go_simp; (try with_reducible rfl)
          clear hL; rename Shutb _ _ => hL
          (try simp only [Act.put, List.getElem_toArray, List.getElem_cons_zero, List.getElem_cons_succ, List.setIfInBounds_toArray, List.set_cons_zero, List.set_cons_succ])
          refine late_early (i := 6) (v := ?_) rfl (by kernel_rfl) (by kernel_rfl) (by kernel_rfl) (by decide) (by kernel_rfl) (fun _ _ _ h => h) hL (Or.inl ⟨by rfl, ?_⟩) (fun _ => hrd) (fun hL' => ?_)
          rotate_left
          · intro y hy; clear hy; go_simp; (try with_reducible rfl)
          clear hL; rename Shutb _ _ => hL
          (try simp only [Act.put, List.getElem_toArray, List.getElem_cons_zero, List.getElem_cons_succ, List.setIfInBounds_toArray, List.set_cons_zero, List.set_cons_succ])
          refine late_early (i := 7) (v := ?_) rfl (by kernel_rfl) (by kernel_rfl) (by kernel_rfl) (by decide) (by kernel_rfl) (fun _ _ _ h => h) hL (Or.inl ⟨by rfl, ?_⟩) (fun _ => hrd) (fun hL' => ?_)
          rotate_left
          · intro y hy; clear hy; go_simp; (try with_reducible rfl)
          clear hL; rename Shutb _ _ => hL
          (try simp only [Act.put, List.getElem_toArray, List.getElem_cons_zero, List.getElem_cons_succ, List.setIfInBounds_toArray, List.set_cons_zero, List.set_cons_succ])
          refine late_early (i := 8) (v := ?_) rfl (by kernel_rfl) (by kernel_rfl) (by kernel_rfl) (by decide) (by kernel_rfl) (fun _ _ _ h => h) hL (Or.inl ⟨by rfl, ?_⟩) (fun _ => hrd) (fun hL' => ?_)
          rotate_left
          · intro y hy; clear hy; go_simp; (try with_reducible rfl)
          clear hL; rename Shutb _ _ => hL
          (try simp only [Act.put, List.getElem_toArray, List.getElem_cons_zero, List.getElem_cons_succ, List.setIfInBounds_toArray, List.set_cons_zero, List.set_cons_succ])
          refine late_early (i := 9) (v := ?_) rfl (by kernel_rfl) (by kernel_rfl) (by kernel_rfl) (by decide) (by kernel_rfl) (fun _ _ _ h => h) hL (Or.inl ⟨by rfl, ?_⟩) (fun _ => hrd) (fun hL' => ?_)
          rotate_left
          · intro y hy; have hz := hy rfl; clear hy; obtain ⟨g1, g2⟩ := atSt (P := P ++ x :: Q) (by simpa using hz) HPQ.out.2.1; have g3 := RowB.lt hz; go_simp; (try with_reducible rfl)
          clear hL; rename Shutb _ _ => hL
          (try simp only [Act.put, List.getElem_toArray, List.getElem_cons_zero, List.getElem_cons_succ, List.setIfInBounds_toArray, List.set_cons_zero, List.set_cons_succ])
          refine late_early (i := 10) (v := ?_) rfl (by kernel_rfl) (by kernel_rfl) (by kernel_rfl) (by decide) (by kernel_rfl) (fun _ _ _ h => h) hL (Or.inl ⟨by rfl, ?_⟩) (fun _ => hrd) (fun hL' => ?_)
          rotate_left
          · intro y hy; clear hy; go_simp; (try with_reducible rfl)
          clear hL; rename Shutb _ _ => hL
          (try simp only [Act.put, List.getElem_toArray, List.getElem_cons_zero, List.getElem_cons_succ, List.setIfInBounds_toArray, List.set_cons_zero, List.set_cons_succ])
          refine late_early (i := 11) (v := ?_) rfl (by kernel_rfl) (by kernel_rfl) (by kernel_rfl) (by decide) (by kernel_rfl) (fun _ _ _ h => h) hL (Or.inl ⟨by rfl, ?_⟩) (fun _ => hrd) (fun hL' => ?_)
          rotate_left
          · intro y hy; clear hy; go_simp; (try with_reducible rfl)
          clear hL; rename Shutb _ _ => hL
          (try simp only [Act.put, List.getElem_toArray, List.getElem_cons_zero, List.getElem_cons_succ, List.setIfInBounds_toArray, List.set_cons_zero, List.set_cons_succ])
          refine late_early (i := 12) (v := ?_) rfl (by kernel_rfl) (by kernel_rfl) (by kernel_rfl) (by decide) (by kernel_rfl) (fun _ _ _ h => h) hL (Or.inl ⟨by rfl, ?_⟩) (fun _ => hrd) (fun hL' => ?_)
          rotate_left
          · intro y hy; clear hy; go_simp; (try with_reducible rfl)
          clear hL; rename Shutb _ _ => hL
          (try simp only [Act.put, List.getElem_toArray, List.getElem_cons_zero, List.getElem_cons_succ, List.setIfInBounds_toArray, List.set_cons_zero, List.set_cons_succ])
          refine late_early (i := 13) (v := ?_) rfl (by kernel_rfl) (by kernel_rfl) (by kernel_rfl) (by decide) (by kernel_rfl) (fun _ _ _ h => h) hL (Or.inl ⟨by rfl, ?_⟩) (fun _ => hrd) (fun hL' => ?_)
          rotate_left
          · intro y hy; have hz := hy rfl; clear hy; obtain ⟨g1, g2⟩ := atSt hz HPQ.out.1; have g3 := RowB.lt hz; go_simp; (try with_reducible rfl)
          clear hL; rename Shutb _ _ => hL
          (try simp only [Act.put, List.getElem_toArray, List.getElem_cons_zero, List.getElem_cons_succ, List.setIfInBounds_toArray, List.set_cons_zero, List.set_cons_succ])
          refine late_late (i := 2) (v := ?_) rfl (by kernel_rfl) (by kernel_rfl) (by kernel_rfl) (by decide) hSM (fun _ _ _ h => h) hL (Or.inl ⟨by rfl, ?_⟩) (fun _ => hrd) (fun hL' => ?_)
          rotate_left
          · intro y hy; clear hy; go_simp; (try with_reducible rfl)
          clear hL; rename Shutb _ _ => hL
          (try simp only [Act.put, List.getElem_toArray, List.getElem_cons_zero, List.getElem_cons_succ, List.setIfInBounds_toArray, List.set_cons_zero, List.set_cons_succ])
          refine late_late (i := 3) (v := ?_) rfl (by kernel_rfl) (by kernel_rfl) (by kernel_rfl) (by decide) hSM (fun _ _ _ h => h) hL (Or.inl ⟨by rfl, ?_⟩) (fun _ => hrd) (fun hL' => ?_)
          rotate_left
          · intro y hy; clear hy; go_simp; (try with_reducible rfl)
          clear hL; rename Shutb _ _ => hL
          (try simp only [Act.put, List.getElem_toArray, List.getElem_cons_zero, List.getElem_cons_succ, List.setIfInBounds_toArray, List.set_cons_zero, List.set_cons_succ])
          refine late_late (i := 4) (v := ?_) rfl (by kernel_rfl) (by kernel_rfl) (by kernel_rfl) (by decide) hSM (fun _ _ _ h => h) hL (Or.inl ⟨by rfl, ?_⟩) (fun _ => hrd) (fun hL' => ?_)
          rotate_left
          · intro y hy; clear hy; go_simp; (try with_reducible rfl)
          clear hL; rename Shutb _ _ => hL
          (try simp only [Act.put, List.getElem_toArray, List.getElem_cons_zero, List.getElem_cons_succ, List.setIfInBounds_toArray, List.set_cons_zero, List.set_cons_succ])
          refine late_one (i := 14) (by kernel_rfl) hL (fun hL' => ?_)
          refine wpOp_step rfl (fun K hK0 => ?_)
          have hK : Shut _ := hK0
          clear hK0
          go_simp
          refine hK.out _ _ ⟨fun _ => hrd, ?_⟩
          clear hK K; clear hL; rename Shutb _ _ => hL
          (try simp only [Act.put, List.getElem_toArray, List.getElem_cons_zero, List.getElem_cons_succ, List.setIfInBounds_toArray, List.set_cons_zero, List.set_cons_succ])
          have hpl := (show p < (P ++ x :: (Q ++ y :: Z)).length by have := HPQ.out.1; simp; omega)
          have hql := (show q < (P ++ x :: (Q ++ y :: Z)).length by have := HPQ.out.2.2; simp; omega)
          obtain ⟨d1, d2⟩ := atSt hrow HPQ.out.1
          have d3 := RowB.free hrow
          have d4 := RowB.lt hrow
          refine late_one (i := 15) (by kernel_rfl) hL (fun hL' => ?_)
          refine wpOp_step rfl (fun K hK0 => ?_)
          have hK : Shut _ := hK0
          clear hK0
          go_simp
          refine hK.out _ _ ⟨fun e => absurd (e : true = false) (by decide), ?_⟩
          clear hK K; clear hL; rename Shutb _ _ => hL
          (try simp only [Act.put, List.getElem_toArray, List.getElem_cons_zero, List.getElem_cons_succ, List.setIfInBounds_toArray, List.set_cons_zero, List.set_cons_succ])
          clear d1 d3 d4 d2
          have hO1 := hO.set (a := ⟨g, p * 2, none⟩) (.inl rfl) (.int .i64 y.1) |>.set (a := ⟨g, p * 2 + 1, none⟩) (.inl rfl) (.int .i64 y.2)
          have hr1 := RowB.set_two hrow p hpl y
          obtain ⟨wm, hwm⟩ : ∃ wm, ((wz.setCell ⟨g, p * 2, none⟩ (.int .i64 y.1)).setCell ⟨g, p * 2 + 1, none⟩ (.int .i64 y.2)) = wm := ⟨_, rfl⟩
          rw [hwm] at hr1 hO1 ⊢
          clear hwm
          have hr1' := hr1
          rw [set_at P (Q ++ y :: Z) x y HPQ.out.1, show P ++ y :: (Q ++ y :: Z) = (P ++ y :: Q) ++ y :: Z by simp] at hr1'
          obtain ⟨d1, d2⟩ := atSt hr1' (p := q) (by simpa using HPQ.out.2.1)
          have d3 := RowB.free hr1
          have d4 := RowB.lt hr1
          refine late_one (i := 16) (by kernel_rfl) hL (fun hL' => ?_)
          refine wpOp_step rfl (fun K hK0 => ?_)
          have hK : Shut _ := hK0
          clear hK0
          go_simp
          refine hK.out _ _ ⟨fun e => absurd (e : true = false) (by decide), ?_⟩
          clear hK K; clear hL; rename Shutb _ _ => hL
          (try simp only [Act.put, List.getElem_toArray, List.getElem_cons_zero, List.getElem_cons_succ, List.setIfInBounds_toArray, List.set_cons_zero, List.set_cons_succ])
          refine late_one (i := 17) (by kernel_rfl) hL (fun hL' => ?_)
          refine wpOp_step rfl (fun K hK0 => ?_)
          have hK : Shut _ := hK0
          clear hK0
          go_simp
          refine hK.out _ _ ⟨fun e => absurd (e : true = false) (by decide), ?_⟩
          clear hK K; clear hL; rename Shutb _ _ => hL
          (try simp only [Act.put, List.getElem_toArray, List.getElem_cons_zero, List.getElem_cons_succ, List.setIfInBounds_toArray, List.set_cons_zero, List.set_cons_succ])
          refine late_done (by kernel_rfl) ?_
          (try dsimp only [Exit.then])
          clear d1 d3 d4 d2 hr1'
          have hr2 := RowB.set_two hr1 q (by simpa using hql) x
          rw [S.swap_set P Q Z x y p q HPQ.out.1 HPQ.out.2.2] at hr2
          have hO2 := hO1.set (a := ⟨g, q * 2, none⟩) (.inl rfl) (.int .i64 x.1) |>.set (a := ⟨g, q * 2 + 1, none⟩) (.inl rfl) (.int .i64 x.2)
          go_wp2
          go_roundw
          case rel => exact ⟨t + 1, p + 1, by omega, by go_num, by have := HPT.out.1; omega, by rw [HE2.out] at hr2; exact RowB.move hr2 rfl, hO2.ext ((Ext.refl _).drew)⟩
          case measure => simp [intOf]; omega
        · obtain rfl : t = u := by omega
          have hnp : ¬ (p : Int) < (e : Int) := by have := HIJ.out.2; omega
          have hnp2 : ¬ p < e := by omega
          have HH := Lib.hid hrow
          clear hpt hrow
          go_wp2
          refine bodyPost_ret (results_none rfl _ _ _) rfl ?_
          refine ⟨rfl, Y.take t ++ x :: Y.drop t, ?_, ?_, by simpa using HH.out, hO⟩
          · refine List.perm_middle.trans ?_
            rw [List.take_append_drop]
            try exact List.Perm.refl _
          · exact S.srt_insert (by rw [List.take_append_drop]; exact HSY.out) (S.take_all HLO.out) (S.drop_all HHI.out)

set_option maxRecDepth 100000 in
set_option maxHeartbeats 16000000 in
theorem symYSt (g : Nat) (bc : Nat) (key : Int × Int → Int) (rank : Int × Int → Nat) (D : Int × Int → Prop) (K : World → Prop) (hK : ∀ w w', K w → Off g w w' → K w') (hD : ∀ x, D x → -1000000000 ≤ key x ∧ key x ≤ 1000000000)
    (HC : ∀ w' x y, K w' → D x → D y → Calls Try.prog 60 #[.agg #[.int .i64 x.1, .int .i64 x.2], .agg #[.int .i64 y.1, .int .i64 y.2], .pointer (some ⟨bc, 0, none⟩)] w' fun e w2 => e = .returned (.int .i64 (key x - key y)) ∧ Ext w' w2)
    (A X Y B : List (Int × Int)) (cap a m b N : Nat) (w : World) (hKw : K w) (hDX : ∀ x ∈ X, D x) (hDY : ∀ y ∈ Y, D y) (hSX : S.Srt (S.Ord key rank) X) (hSY : S.Srt (S.Ord key rank) Y) (hrk : ∀ x ∈ X, ∀ y ∈ Y, rank x < rank y)
    (ha : a = A.length) (hm : m = A.length + X.length) (hb : b = A.length + X.length + Y.length) (hX1 : 1 < X.length) (hY1 : Y.length = 1)
    (hN : N = (A ++ (X ++ (Y ++ B))).length) (hsz : N ≤ 1000000) (h : RowB storeC 2 86 w g (A ++ (X ++ (Y ++ B)))) :
    Calls Try.prog 88 #[.slice (some ⟨g, 0, none⟩) N cap, .int .i64 a, .int .i64 m, .int .i64 b, .func (.func 60) #[] #[.pointer (some ⟨bc, 0, none⟩)]] w fun e w' => e = .returned (.tuple #[]) ∧ ∃ Z, Z.Perm (X ++ Y) ∧ S.Srt (S.Ord key rank) Z ∧ RowB storeC 2 86 w' g (A ++ (Z ++ B)) ∧ Off g w w' := by
  obtain ⟨y, rfl⟩ : ∃ y, Y = [y] := by
    match Y, hY1 with
    | [y], _ => exact ⟨y, rfl⟩
  have hNl : N = A.length + X.length + 1 + B.length := by rw [hN]; simp; omega
  have hm' : m = a + X.length := by omega
  have hb' : b = m + 1 := by simp at hb; omega
  obtain ⟨lx, hlx⟩ : ∃ lx, X.length = lx := ⟨_, rfl⟩
  have hma : (m : Int) - (a : Int) = (lx : Int) := by omega
  have hlx1 : ((lx : Int) == 1) = false := by simp; omega
  have hlx2 : ¬ (lx : Int) = 1 := by omega
  have hlx3 : ¬ lx = 1 := by omega
  have hbm : (b : Int) - (m : Int) = 1 := by omega
  have hbN : b ≤ N := by omega
  have hmN : m < N := by omega
  have haN : a < N := by omega
  have hDy := hDY y (by simp)
  have hry : ∀ x ∈ X, rank x < rank y := fun x hx => hrk x hx y (by simp)
  have HCM := Lib.hid HC
  have HF := Lib.hid (And.intro ha (And.intro hm' (And.intro hb' (And.intro hNl hlx))))
  have H := Lib.hid h
  have HDX := Lib.hid hDX
  have HSX := Lib.hid hSX
  have HRK := Lib.hid hry
  have hpc := plus_cell
  have hlxN : lx ≤ N := by omega
  clear HC hDX hDY hSX hSY hrk hry ha hm hb hN hNl h hm' hb' hX1 hlx
  go_enter Try.func88, Try.ntmps88
  go_wp2
  go_loopw [14, 15, 16] (fun vi vj _ wr => ∃ u v i j : Nat, u ≤ v ∧ v ≤ lx ∧ vi = .int .i64 i ∧ vj = .int .i64 j ∧ i = a + u ∧ j = a + v ∧ (∀ t (ht : t < X.length), t < u → S.Ord key rank X[t] y) ∧ (∀ t (ht : t < X.length), v ≤ t → S.Ord key rank y X[t]) ∧ Ext w wr) (fun vi vj _ _ => (intOf vj).toNat - (intOf vi).toNat)
  case atStart => exact ⟨0, lx, a, m, Nat.zero_le _, Nat.le_refl _, rfl, rfl, rfl, by have := HF.out; omega, fun t ht h => by omega, fun t ht h => by have := HF.out.2.2.2.2; omega, Ext.refl _⟩
  case round =>
    rename World => wr
    obtain ⟨u, v, i, j, huv, hv, rfl, rfl, hi, hj, hlo, hhi, hEr⟩ := hrel
    have HLO := Lib.hid hlo
    have HHI := Lib.hid hhi
    by_cases hlt : u < v
    · obtain ⟨t, ht⟩ : ∃ t, (u + v) / 2 = t := ⟨_, rfl⟩
      obtain ⟨q, hq⟩ : ∃ q, a + t = q := ⟨_, rfl⟩
      have htu : u ≤ t ∧ t < v := by omega
      have htX : t < X.length := by have := HF.out.2.2.2.2; omega
      obtain ⟨ha, hm, hb, hNl, hlx⟩ := HF.out
      have hqN : q < N := by omega
      have hij : i + j = 2 * q ∨ i + j = 2 * q + 1 := by omega
      have hijl : i < j := by omega
      have hi6 : i ≤ 1000000 := by omega
      have hj6 : j ≤ 1000000 := by omega
      have HIJ := Lib.hid (And.intro hi hj)
      clear hi hj ht ha hm hb hNl hlx hlo hhi
      have hqi : ((i : Int) + (j : Int)) / 2 = (q : Int) := by omega
      have hqN' : (q : Int) < (N : Int) := by omega
      have hwq : IntKind.wrap .i64 (q : Int) = q := IntWalk.i64_in _ (by omega)
      have hmN' : (m : Int) < (N : Int) := by omega
      have hDx := HDX.out _ (List.getElem_mem htX)
      have hrx := HRK.out _ (List.getElem_mem htX)
      have hs : X = X.take t ++ X[t] :: X.drop (t + 1) := by rw [← List.drop_eq_getElem_cons htX, List.take_append_drop]
      have hla := S.low_all (S.ord_trans key rank) HSX.out htX (x := y)
      have hha := S.high_all (S.ord_trans key rank) HSX.out htX (x := y)
      obtain ⟨x, hx⟩ : ∃ x, X[t] = x := ⟨_, rfl⟩
      rw [hx] at hDx hrx hs hla hha
      have hrow := RowB.ext H.out hEr
      have hrow2 : RowB storeC 2 86 wr g ((A ++ X.take t) ++ x :: (X.drop (t + 1) ++ ([y] ++ B))) := by
        have e : (A ++ X.take t) ++ x :: (X.drop (t + 1) ++ ([y] ++ B)) = A ++ ((X.take t ++ x :: X.drop (t + 1)) ++ ([y] ++ B)) := by simp
        rw [e, ← hs]; exact hrow
      have hql : q = (A ++ X.take t).length := by simp; have := HF.out.1; omega
      have hgl := RowB.lt hrow
      obtain ⟨d1, d2⟩ := atSt hrow2 hql
      obtain ⟨e1, e2⟩ := atSt (P := A ++ X) (Z := B) (by simpa using hrow) (p := m) (by simp; have := HF.out; omega)
      have hcc := fun w' (hk : K w') => HCM.out w' y x hk hDy hDx
      obtain ⟨c, hc⟩ : ∃ c, key y - key x = c := ⟨_, rfl⟩
      simp only [hc] at hcc
      have HCC := Lib.hid hcc
      have HCD := Lib.hid (show c < 0 ↔ key y < key x by omega)
      have HLA := Lib.hid hla
      have HHA := Lib.hid hha
      have HRY := Lib.hid hrx
      have HIT := Lib.hid (And.intro hq htu)
      clear hcc hc hla hha hrx hs hrow hrow2 hql hDx hx hq htX
      by_cases hneg : c < 0
      · have HO : Hid (S.Ord key rank y x) := .inl (HCD.out.1 hneg)
        have HNEG := Lib.hid hneg
        clear hneg
        go_upto_region 17 with (fail)
        refine wp_region_ext 12 (fun _ _ d _ _ h => by cases d <;> exact h) (by kernel_rfl) (by kernel_rfl) (by kernel_rfl) (by kernel_rfl) ?_
        simp only [List.take_succ_cons, List.take_zero, List.drop_succ_cons, List.drop_zero]
        have hneg := HNEG.out
        have hdc : decide (c < 0) = true := decide_eq_true hneg
        repeat (any_goals (first | go_big_quiet_step ((go_at_call 60; exact ext_quiet (HCC.out _ (hK _ _ hKw (Ext.off (hEr.trans (by (with_reducible (repeat (first | exact Ext.refl _ | assumption | apply Ext.alloc | apply Ext.drew | exact ext_plus _ _ | (apply Ext.setCell; rotate_left; (simp <;> omega)) | (apply Ext.trans; rotate_left; exact ext_plus _ _) | (apply Ext.trans; rotate_left; assumption)))))) g))))) | quiet_step ((go_at_call 60; exact ext_quiet (HCC.out _ (hK _ _ hKw (Ext.off (hEr.trans (by (with_reducible (repeat (first | exact Ext.refl _ | assumption | apply Ext.alloc | apply Ext.drew | exact ext_plus _ _ | (apply Ext.setCell; rotate_left; (simp <;> omega)) | (apply Ext.trans; rotate_left; exact ext_plus _ _) | (apply Ext.trans; rotate_left; assumption)))))) g)))))))
        all_goals (refine wpQuiet_nil ?_; intro wq hEq)
        unfold wpList
        clear d1 e1 d2 e2
        go_wp2
        go_roundw
        case rel => exact ⟨u, t, i, q, HIT.out.2.1, by have := HIT.out.2; omega, rfl, by go_num, HIJ.out.1, HIT.out.1.symm, HLO.out, HHA.out HO.out, hEr.trans hEq⟩
        case measure => simp [intOf]; omega
      · have HO : Hid (S.Ord key rank x y) := (S.ord_lt HRY.out).2 (fun h => hneg (HCD.out.2 h))
        have HNEG := Lib.hid hneg
        clear hneg
        go_upto_region 17 with (fail)
        refine wp_region_ext 12 (fun _ _ d _ _ h => by cases d <;> exact h) (by kernel_rfl) (by kernel_rfl) (by kernel_rfl) (by kernel_rfl) ?_
        simp only [List.take_succ_cons, List.take_zero, List.drop_succ_cons, List.drop_zero]
        have hneg := HNEG.out
        have hdc : decide (c < 0) = false := decide_eq_false hneg
        repeat (any_goals (first | go_big_quiet_step ((go_at_call 60; exact ext_quiet (HCC.out _ (hK _ _ hKw (Ext.off (hEr.trans (by (with_reducible (repeat (first | exact Ext.refl _ | assumption | apply Ext.alloc | apply Ext.drew | exact ext_plus _ _ | (apply Ext.setCell; rotate_left; (simp <;> omega)) | (apply Ext.trans; rotate_left; exact ext_plus _ _) | (apply Ext.trans; rotate_left; assumption)))))) g))))) | quiet_step ((go_at_call 60; exact ext_quiet (HCC.out _ (hK _ _ hKw (Ext.off (hEr.trans (by (with_reducible (repeat (first | exact Ext.refl _ | assumption | apply Ext.alloc | apply Ext.drew | exact ext_plus _ _ | (apply Ext.setCell; rotate_left; (simp <;> omega)) | (apply Ext.trans; rotate_left; exact ext_plus _ _) | (apply Ext.trans; rotate_left; assumption)))))) g)))))))
        all_goals (refine wpQuiet_nil ?_; intro wq hEq)
        unfold wpList
        clear d1 e1 d2 e2
        have hdc2 : decide (c < 0) = false := decide_eq_false (by omega)
        have hge : 0 ≤ c := by omega
        go_wp2
        go_roundw
        case rel => exact ⟨t + 1, v, q + 1, j, by have := HIT.out.2; omega, hv, by go_num, rfl, by have := HIT.out.1; omega, HIJ.out.2, HLA.out HO.out, HHI.out, hEr.trans hEq⟩
        case measure => simp [intOf]; omega
    · obtain rfl : u = v := by omega
      have hji : j = i := by omega
      subst hji
      have hrow : RowB storeC 2 86 wr g (A ++ (X.take lx ++ y :: (X.drop lx ++ B))) := by
        rw [List.take_of_length_le (by have := HF.out.2.2.2.2; omega), List.drop_eq_nil_of_le (by have := HF.out.2.2.2.2; omega)]
        simpa using RowB.ext H.out hEr
      have hjN : j ≤ N := by have := HF.out; omega
      have HIJ := Lib.hid hi
      clear hi hj hlo hhi
      go_wp2
      go_loopw [17] (fun vk wz => ∃ t p : Nat, u ≤ t ∧ t ≤ lx ∧ vk = .int .i64 p ∧ p = a + t ∧ RowB storeC 2 86 wz g (A ++ (X.take t ++ y :: (X.drop t ++ B))) ∧ Off g w wz) (fun vk _ => (intOf vk).toNat)
      case atStart => exact ⟨lx, m, hv, Nat.le_refl _, rfl, by have := HF.out; omega, hrow, hEr.off g⟩
      case round =>
        rename World => wz
        clear hrow
        obtain ⟨t0, q, htu, htl, rfl, hpt, hrow, hO⟩ := hrel
        by_cases hlt2 : u < t0
        · obtain ⟨t, rfl⟩ : ∃ t, t0 = t + 1 := ⟨t0 - 1, by omega⟩
          have htX : t < X.length := by have := HF.out.2.2.2.2; omega
          obtain ⟨p, hp⟩ : ∃ p, a + t = p := ⟨_, rfl⟩
          have hqp : q = p + 1 := by omega
          have hjq : j < q := by have := HIJ.out; omega
          have hjq' : (j : Int) < (q : Int) := by omega
          obtain ⟨x, hx⟩ : ∃ x, X[t] = x := ⟨_, rfl⟩
          have hd := List.drop_eq_getElem_cons htX
          have htk := List.take_succ_eq_append_getElem htX
          rw [hx] at hd htk
          obtain ⟨P, hP⟩ : ∃ P, A ++ X.take t = P := ⟨_, rfl⟩
          obtain ⟨Q, hQ⟩ : ∃ Q : List (Int × Int), [] = Q := ⟨_, rfl⟩
          obtain ⟨Z, hZ⟩ : ∃ Z, X.drop (t + 1) ++ B = Z := ⟨_, rfl⟩
          have e1 : A ++ (X.take (t + 1) ++ y :: (X.drop (t + 1) ++ B)) = P ++ x :: (Q ++ y :: Z) := by rw [htk, ← hP, ← hQ, ← hZ]; simp
          have e2 : P ++ y :: (Q ++ x :: Z) = A ++ (X.take t ++ y :: (X.drop t ++ B)) := by rw [hd, ← hP, ← hQ, ← hZ]; simp
          rw [e1] at hrow
          have hPl : p = P.length := by rw [← hP]; simp; have := HF.out.1; omega
          have hQl : Q.length = 0 := by rw [← hQ]; rfl
          have HE2 := Lib.hid e2
          have HPQ := Lib.hid (And.intro hPl (And.intro (show q = (P ++ x :: Q).length by simp; omega) (show q = P.length + 1 + Q.length by omega)))
          have hpi : (q : Int) - 1 = (p : Int) := by omega
          have hqN : q < N := by have := HF.out; have := HIJ.out; omega
          have hpN : p < N := by omega
          have hwp : IntKind.wrap .i64 (p : Int) = p := IntWalk.i64_in _ (by omega)
          have hwq : IntKind.wrap .i64 (q : Int) = q := IntWalk.i64_in _ (by omega)
          have hpN' : (p : Int) < (N : Int) := by omega
          have hqN' : (q : Int) < (N : Int) := by omega
          have HPT := Lib.hid (And.intro hpt hp)
          have HQP := Lib.hid hqp
          clear hpt hd htk hx hP hQ hZ e1 e2 hPl hQl hp htX hqp
          go_upto_region 23 with (fail)
          have hrd : RowB storeC 2 86 wz.drew g (P ++ x :: (Q ++ y :: Z)) := RowB.move hrow rfl
          have hSM : ∀ z, (fun c z => c = false → RowB storeC 2 86 z g (P ++ x :: (Q ++ y :: Z))) false z → (fun c z => c = false → RowB storeC 2 86 z g (P ++ x :: (Q ++ y :: Z))) true z := fun z _ e => absurd (e : true = false) (by decide)
          refine wp_region_late 15 (fun c z => c = false → RowB storeC 2 86 z g (P ++ x :: (Q ++ y :: Z))) (by kernel_rfl) (fun hL => ?_)
          refine late_early (i := 0) (v := ?_) rfl (by kernel_rfl) (by kernel_rfl) (by kernel_rfl) (by decide) (by kernel_rfl) (fun _ _ _ h => h) hL (Or.inl ⟨by rfl, ?_⟩) (fun _ => hrd) (fun hL' => ?_)
          rotate_left
          · intro y hy; clear hy; go_simp; (try with_reducible rfl)
          clear hL; rename Shutb _ _ => hL
          (try simp only [Act.put, List.getElem_toArray, List.getElem_cons_zero, List.getElem_cons_succ, List.setIfInBounds_toArray, List.set_cons_zero, List.set_cons_succ])
          refine late_early (i := 1) (v := ?_) rfl (by kernel_rfl) (by kernel_rfl) (by kernel_rfl) (by decide) (by kernel_rfl) (fun _ _ _ h => h) hL (Or.inl ⟨by rfl, ?_⟩) (fun _ => hrd) (fun hL' => ?_)
          rotate_left
          · intro y hy; clear hy; go_simp; (try with_reducible rfl)
          clear hL; rename Shutb _ _ => hL
          (try simp only [Act.put, List.getElem_toArray, List.getElem_cons_zero, List.getElem_cons_succ, List.setIfInBounds_toArray, List.set_cons_zero, List.set_cons_succ])
          refine late_early (i := 5) (v := ?_) rfl (by kernel_rfl) (by kernel_rfl) (by kernel_rfl) (by decide) (by kernel_rfl) (fun _ _ _ h => h) hL (Or.inl ⟨by rfl, ?_⟩) (fun _ => hrd) (fun hL' => ?_)
          rotate_left
          · intro y hy; clear hy; go_simp; (try with_reducible rfl)
          clear hL; rename Shutb _ _ => hL
          (try simp only [Act.put, List.getElem_toArray, List.getElem_cons_zero, List.getElem_cons_succ, List.setIfInBounds_toArray, List.set_cons_zero, List.set_cons_succ])
          refine late_early (i := 6) (v := ?_) rfl (by kernel_rfl) (by kernel_rfl) (by kernel_rfl) (by decide) (by kernel_rfl) (fun _ _ _ h => h) hL (Or.inl ⟨by rfl, ?_⟩) (fun _ => hrd) (fun hL' => ?_)
          rotate_left
          · intro y hy; clear hy; go_simp; (try with_reducible rfl)
          clear hL; rename Shutb _ _ => hL
          (try simp only [Act.put, List.getElem_toArray, List.getElem_cons_zero, List.getElem_cons_succ, List.setIfInBounds_toArray, List.set_cons_zero, List.set_cons_succ])
          refine late_early (i := 7) (v := ?_) rfl (by kernel_rfl) (by kernel_rfl) (by kernel_rfl) (by decide) (by kernel_rfl) (fun _ _ _ h => h) hL (Or.inl ⟨by rfl, ?_⟩) (fun _ => hrd) (fun hL' => ?_)
          rotate_left
          · intro y hy; clear hy; go_simp; (try with_reducible rfl)
          clear hL; rename Shutb _ _ => hL
          (try simp only [Act.put, List.getElem_toArray, List.getElem_cons_zero, List.getElem_cons_succ, List.setIfInBounds_toArray, List.set_cons_zero, List.set_cons_succ])
          refine late_early (i := 8) (v := ?_) rfl (by kernel_rfl) (by kernel_rfl) (by kernel_rfl) (by decide) (by kernel_rfl) (fun _ _ _ h => h) hL (Or.inl ⟨by rfl, ?_⟩) (fun _ => hrd) (fun hL' => ?_)
          rotate_left
          · intro y hy; clear hy; go_simp; (try with_reducible rfl)
          clear hL; rename Shutb _ _ => hL
          (try simp only [Act.put, List.getElem_toArray, List.getElem_cons_zero, List.getElem_cons_succ, List.setIfInBounds_toArray, List.set_cons_zero, List.set_cons_succ])
          refine late_early (i := 9) (v := ?_) rfl (by kernel_rfl) (by kernel_rfl) (by kernel_rfl) (by decide) (by kernel_rfl) (fun _ _ _ h => h) hL (Or.inl ⟨by rfl, ?_⟩) (fun _ => hrd) (fun hL' => ?_)
          rotate_left
          · intro y hy; have hz := hy rfl; clear hy; obtain ⟨g1, g2⟩ := atSt hz HPQ.out.1; have g3 := RowB.lt hz; go_simp; (try with_reducible rfl)
          clear hL; rename Shutb _ _ => hL
          (try simp only [Act.put, List.getElem_toArray, List.getElem_cons_zero, List.getElem_cons_succ, List.setIfInBounds_toArray, List.set_cons_zero, List.set_cons_succ])
          refine late_early (i := 10) (v := ?_) rfl (by kernel_rfl) (by kernel_rfl) (by kernel_rfl) (by decide) (by kernel_rfl) (fun _ _ _ h => h) hL (Or.inl ⟨by rfl, ?_⟩) (fun _ => hrd) (fun hL' => ?_)
          rotate_left
          · intro y hy; clear hy; go_simp; (try with_reducible rfl)
          clear hL; rename Shutb _ _ => hL
          (try simp only [Act.put, List.getElem_toArray, List.getElem_cons_zero, List.getElem_cons_succ, List.setIfInBounds_toArray, List.set_cons_zero, List.set_cons_succ])
          refine late_early (i := 11) (v := ?_) rfl (by kernel_rfl) (by kernel_rfl) (by kernel_rfl) (by decide) (by kernel_rfl) (fun _ _ _ h => h) hL (Or.inl ⟨by rfl, ?_⟩) (fun _ => hrd) (fun hL' => ?_)
          rotate_left
          · intro y hy; clear hy; go_simp; (try with_reducible rfl)
          clear hL; rename Shutb _ _ => hL
          (try simp only [Act.put, List.getElem_toArray, List.getElem_cons_zero, List.getElem_cons_succ, List.setIfInBounds_toArray, List.set_cons_zero, List.set_cons_succ])
          refine late_early (i := 12) (v := ?_) rfl (by kernel_rfl) (by kernel_rfl) (by kernel_rfl) (by decide) (by kernel_rfl) (fun _ _ _ h => h) hL (Or.inl ⟨by rfl, ?_⟩) (fun _ => hrd) (fun hL' => ?_)
          rotate_left
          · intro y hy; clear hy; go_simp; (try with_reducible rfl)
          clear hL; rename Shutb _ _ => hL
          (try simp only [Act.put, List.getElem_toArray, List.getElem_cons_zero, List.getElem_cons_succ, List.setIfInBounds_toArray, List.set_cons_zero, List.set_cons_succ])
          refine late_early (i := 13) (v := ?_) rfl (by kernel_rfl) (by kernel_rfl) (by kernel_rfl) (by decide) (by kernel_rfl) (fun _ _ _ h => h) hL (Or.inl ⟨by rfl, ?_⟩) (fun _ => hrd) (fun hL' => ?_)
          rotate_left
          · intro y hy; have hz := hy rfl; clear hy; obtain ⟨g1, g2⟩ := atSt (P := P ++ x :: Q) (by simpa using hz) HPQ.out.2.1; have g3 := RowB.lt hz; go_simp; (try with_reducible rfl)
          clear hL; rename Shutb _ _ => hL
          (try simp only [Act.put, List.getElem_toArray, List.getElem_cons_zero, List.getElem_cons_succ, List.setIfInBounds_toArray, List.set_cons_zero, List.set_cons_succ])
          refine late_late (i := 2) (v := ?_) rfl (by kernel_rfl) (by kernel_rfl) (by kernel_rfl) (by decide) hSM (fun _ _ _ h => h) hL (Or.inl ⟨by rfl, ?_⟩) (fun _ => hrd) (fun hL' => ?_)
          rotate_left
          · intro y hy; clear hy; go_simp; (try with_reducible rfl)
          clear hL; rename Shutb _ _ => hL
          (try simp only [Act.put, List.getElem_toArray, List.getElem_cons_zero, List.getElem_cons_succ, List.setIfInBounds_toArray, List.set_cons_zero, List.set_cons_succ])
          refine late_late (i := 3) (v := ?_) rfl (by kernel_rfl) (by kernel_rfl) (by kernel_rfl) (by decide) hSM (fun _ _ _ h => h) hL (Or.inl ⟨by rfl, ?_⟩) (fun _ => hrd) (fun hL' => ?_)
          rotate_left
          · intro y hy; clear hy; go_simp; (try with_reducible rfl)
          clear hL; rename Shutb _ _ => hL
          (try simp only [Act.put, List.getElem_toArray, List.getElem_cons_zero, List.getElem_cons_succ, List.setIfInBounds_toArray, List.set_cons_zero, List.set_cons_succ])
          refine late_late (i := 4) (v := ?_) rfl (by kernel_rfl) (by kernel_rfl) (by kernel_rfl) (by decide) hSM (fun _ _ _ h => h) hL (Or.inl ⟨by rfl, ?_⟩) (fun _ => hrd) (fun hL' => ?_)
          rotate_left
          · intro y hy; clear hy; go_simp; (try with_reducible rfl)
          clear hL; rename Shutb _ _ => hL
          (try simp only [Act.put, List.getElem_toArray, List.getElem_cons_zero, List.getElem_cons_succ, List.setIfInBounds_toArray, List.set_cons_zero, List.set_cons_succ])
          refine late_one (i := 14) (by kernel_rfl) hL (fun hL' => ?_)
          refine wpOp_step rfl (fun K hK0 => ?_)
          have hK : Shut _ := hK0
          clear hK0
          go_simp
          refine hK.out _ _ ⟨fun _ => hrd, ?_⟩
          clear hK K; clear hL; rename Shutb _ _ => hL
          (try simp only [Act.put, List.getElem_toArray, List.getElem_cons_zero, List.getElem_cons_succ, List.setIfInBounds_toArray, List.set_cons_zero, List.set_cons_succ])
          have hpl := (show p < (P ++ x :: (Q ++ y :: Z)).length by have := HPQ.out.1; simp; omega)
          have hql := (show q < (P ++ x :: (Q ++ y :: Z)).length by have := HPQ.out.2.2; simp; omega)
          obtain ⟨d1, d2⟩ := atSt (P := P ++ x :: Q) (by simpa using hrow) HPQ.out.2.1
          have d3 := RowB.free hrow
          have d4 := RowB.lt hrow
          refine late_one (i := 15) (by kernel_rfl) hL (fun hL' => ?_)
          refine wpOp_step rfl (fun K hK0 => ?_)
          have hK : Shut _ := hK0
          clear hK0
          go_simp
          refine hK.out _ _ ⟨fun e => absurd (e : true = false) (by decide), ?_⟩
          clear hK K; clear hL; rename Shutb _ _ => hL
          (try simp only [Act.put, List.getElem_toArray, List.getElem_cons_zero, List.getElem_cons_succ, List.setIfInBounds_toArray, List.set_cons_zero, List.set_cons_succ])
          clear d1 d3 d4 d2
          have hO1 := hO.set (a := ⟨g, q * 2, none⟩) (.inl rfl) (.int .i64 x.1) |>.set (a := ⟨g, q * 2 + 1, none⟩) (.inl rfl) (.int .i64 x.2)
          have hr1 := RowB.set_two hrow q hql x
          obtain ⟨wm, hwm⟩ : ∃ wm, ((wz.setCell ⟨g, q * 2, none⟩ (.int .i64 x.1)).setCell ⟨g, q * 2 + 1, none⟩ (.int .i64 x.2)) = wm := ⟨_, rfl⟩
          rw [hwm] at hr1 hO1 ⊢
          clear hwm
          have hr1' := hr1
          rw [show P ++ x :: (Q ++ y :: Z) = (P ++ x :: Q) ++ y :: Z by simp, set_at (P ++ x :: Q) Z y x HPQ.out.2.1, show (P ++ x :: Q) ++ x :: Z = P ++ x :: (Q ++ x :: Z) by simp] at hr1'
          obtain ⟨d1, d2⟩ := atSt hr1' HPQ.out.1
          have d3 := RowB.free hr1
          have d4 := RowB.lt hr1
          refine late_one (i := 16) (by kernel_rfl) hL (fun hL' => ?_)
          refine wpOp_step rfl (fun K hK0 => ?_)
          have hK : Shut _ := hK0
          clear hK0
          go_simp
          refine hK.out _ _ ⟨fun e => absurd (e : true = false) (by decide), ?_⟩
          clear hK K; clear hL; rename Shutb _ _ => hL
          (try simp only [Act.put, List.getElem_toArray, List.getElem_cons_zero, List.getElem_cons_succ, List.setIfInBounds_toArray, List.set_cons_zero, List.set_cons_succ])
          refine late_one (i := 17) (by kernel_rfl) hL (fun hL' => ?_)
          refine wpOp_step rfl (fun K hK0 => ?_)
          have hK : Shut _ := hK0
          clear hK0
          go_simp
          refine hK.out _ _ ⟨fun e => absurd (e : true = false) (by decide), ?_⟩
          clear hK K; clear hL; rename Shutb _ _ => hL
          (try simp only [Act.put, List.getElem_toArray, List.getElem_cons_zero, List.getElem_cons_succ, List.setIfInBounds_toArray, List.set_cons_zero, List.set_cons_succ])
          refine late_done (by kernel_rfl) ?_
          (try dsimp only [Exit.then])
          clear d1 d3 d4 d2 hr1'
          have hr2 := RowB.set_two hr1 p (by simpa using hpl) y
          rw [List.set_comm _ _ (by have := HPQ.out.1; have := HPQ.out.2.2; omega), S.swap_set P Q Z x y p q HPQ.out.1 HPQ.out.2.2] at hr2
          have hO2 := hO1.set (a := ⟨g, p * 2, none⟩) (.inl rfl) (.int .i64 y.1) |>.set (a := ⟨g, p * 2 + 1, none⟩) (.inl rfl) (.int .i64 y.2)
          go_wp2
          go_roundw
          case rel => exact ⟨t, p, by omega, by omega, by go_num, HPT.out.2.symm, by rw [HE2.out] at hr2; exact RowB.move hr2 rfl, hO2.ext ((Ext.refl _).drew)⟩
          case measure => simp [intOf]; have := HQP.out; omega
        · obtain rfl : t0 = u := by omega
          have hnp : ¬ (j : Int) < (q : Int) := by have := HIJ.out; omega
          have hnp2 : ¬ j < q := by omega
          have HH := Lib.hid hrow
          clear hpt hrow
          go_wp2
          refine bodyPost_ret (results_none rfl _ _ _) rfl ?_
          refine ⟨rfl, X.take t0 ++ y :: X.drop t0, ?_, ?_, by simpa using HH.out, hO⟩
          · refine List.perm_middle.trans ?_
            rw [List.take_append_drop]
            exact (List.perm_append_singleton y X).symm
          · exact S.srt_insert (by rw [List.take_append_drop]; exact HSX.out) (S.take_all HLO.out) (S.drop_all HHI.out)

set_option maxRecDepth 100000 in
set_option maxHeartbeats 16000000 in
theorem symXIn (g : Nat) (key : Int → Int) (rank : Int → Nat) (D : Int → Prop) (K : World → Prop) (hK : ∀ w w', K w → Off g w w' → K w') (hD : ∀ x, D x → -1000000000 ≤ key x ∧ key x ≤ 1000000000)
    (HC : ∀ w' x y, K w' → D x → D y → Calls Try.prog 65 #[.int .i64 x, .int .i64 y] w' fun e w2 => e = .returned (.int .i64 (key x - key y)) ∧ Ext w' w2)
    (A X Y B : List (Int)) (cap a m b N : Nat) (w : World) (hKw : K w) (hDX : ∀ x ∈ X, D x) (hDY : ∀ y ∈ Y, D y) (hSX : S.Srt (S.Ord key rank) X) (hSY : S.Srt (S.Ord key rank) Y) (hrk : ∀ x ∈ X, ∀ y ∈ Y, rank x < rank y)
    (ha : a = A.length) (hm : m = A.length + X.length) (hb : b = A.length + X.length + Y.length) (hX1 : X.length = 1) (hY0 : 0 < Y.length)
    (hN : N = (A ++ (X ++ (Y ++ B))).length) (hsz : N ≤ 1000000) (h : RowB intC 1 3 w g (A ++ (X ++ (Y ++ B)))) :
    Calls Try.prog 90 #[.slice (some ⟨g, 0, none⟩) N cap, .int .i64 a, .int .i64 m, .int .i64 b, .func (.func 65) #[] #[]] w fun e w' => e = .returned (.tuple #[]) ∧ ∃ Z, Z.Perm (X ++ Y) ∧ S.Srt (S.Ord key rank) Z ∧ RowB intC 1 3 w' g (A ++ (Z ++ B)) ∧ Off g w w' := by
  obtain ⟨x, rfl⟩ : ∃ x, X = [x] := by
    match X, hX1 with
    | [x], _ => exact ⟨x, rfl⟩
  have hNl : N = A.length + 1 + Y.length + B.length := by rw [hN]; simp; omega
  have hm' : m = a + 1 := by simp at hm; omega
  have hb' : b = a + 1 + Y.length := by simp at hb; omega
  have hma : (m : Int) - (a : Int) = 1 := by omega
  have hbN : b ≤ N := by omega
  have hmN : m < N := by omega
  have haN : a < N := by omega
  have hDx := hDX x (by simp)
  have hrx : ∀ y ∈ Y, rank x < rank y := fun y hy => hrk x (by simp) y hy
  have HCM := Lib.hid HC
  have HF := Lib.hid (And.intro ha (And.intro hm' (And.intro hb' hNl)))
  have H := Lib.hid h
  have HDY := Lib.hid hDY
  have HSY := Lib.hid hSY
  have HRK := Lib.hid hrx
  have hpc := plus_cell
  clear HC hDX hDY hSX hSY hrk hrx ha hm hb hN hNl h hm' hb' hX1
  go_enter Try.func90, Try.ntmps90
  go_wp2
  go_loopw [10, 11, 12] (fun vi vj _ wr => ∃ u v i j : Nat, u ≤ v ∧ v ≤ Y.length ∧ vi = .int .i64 i ∧ vj = .int .i64 j ∧ i = m + u ∧ j = m + v ∧ (∀ t (ht : t < Y.length), t < u → S.Ord key rank Y[t] x) ∧ (∀ t (ht : t < Y.length), v ≤ t → S.Ord key rank x Y[t]) ∧ Ext w wr) (fun vi vj _ _ => (intOf vj).toNat - (intOf vi).toNat)
  case atStart => exact ⟨0, Y.length, m, b, Nat.zero_le _, Nat.le_refl _, rfl, rfl, rfl, by have := HF.out; omega, fun t ht h => by omega, fun t ht h => by omega, Ext.refl _⟩
  case round =>
    rename World => wr
    obtain ⟨u, v, i, j, huv, hv, rfl, rfl, hi, hj, hlo, hhi, hEr⟩ := hrel
    have HLO := Lib.hid hlo
    have HHI := Lib.hid hhi
    by_cases hlt : u < v
    · obtain ⟨t, ht⟩ : ∃ t, (u + v) / 2 = t := ⟨_, rfl⟩
      obtain ⟨q, hq⟩ : ∃ q, m + t = q := ⟨_, rfl⟩
      have htu : u ≤ t ∧ t < v := by omega
      have htY : t < Y.length := by omega
      obtain ⟨ha, hm, hb, hNl⟩ := HF.out
      have hqN : q < N := by omega
      have hij : i + j = 2 * q ∨ i + j = 2 * q + 1 := by omega
      have hijl : i < j := by omega
      have hi6 : i ≤ 1000000 := by omega
      have hj6 : j ≤ 1000000 := by omega
      have HIJ := Lib.hid (And.intro hi hj)
      clear hi hj ht ha hm hb hNl hlo hhi
      have hqi : ((i : Int) + (j : Int)) / 2 = (q : Int) := by omega
      have hqN' : (q : Int) < (N : Int) := by omega
      have hwq : IntKind.wrap .i64 (q : Int) = q := IntWalk.i64_in _ (by omega)
      have haN' : (a : Int) < (N : Int) := by omega
      have hDy := HDY.out _ (List.getElem_mem htY)
      have hry := HRK.out _ (List.getElem_mem htY)
      have hs : Y = Y.take t ++ Y[t] :: Y.drop (t + 1) := by rw [← List.drop_eq_getElem_cons htY, List.take_append_drop]
      have hla := S.low_all (S.ord_trans key rank) HSY.out htY (x := x)
      have hha := S.high_all (S.ord_trans key rank) HSY.out htY (x := x)
      obtain ⟨y, hy⟩ : ∃ y, Y[t] = y := ⟨_, rfl⟩
      rw [hy] at hDy hry hs hla hha
      have hrow := RowB.ext H.out hEr
      have hrow2 : RowB intC 1 3 wr g ((A ++ ([x] ++ Y.take t)) ++ y :: (Y.drop (t + 1) ++ B)) := by
        have e : (A ++ ([x] ++ Y.take t)) ++ y :: (Y.drop (t + 1) ++ B) = A ++ ([x] ++ ((Y.take t ++ y :: Y.drop (t + 1)) ++ B)) := by simp
        rw [e, ← hs]; exact hrow
      have hql : q = (A ++ ([x] ++ Y.take t)).length := by simp; have := HF.out.1; have := HF.out.2.1; omega
      have hgl := RowB.lt hrow
      have d1 := atIn hrow2 hql
      have e1 := atIn (Z := Y ++ B) (by simpa using hrow) HF.out.1
      have hcc := fun w' (hk : K w') => HCM.out w' y x hk hDy hDx
      obtain ⟨c, hc⟩ : ∃ c, key y - key x = c := ⟨_, rfl⟩
      simp only [hc] at hcc
      have HCC := Lib.hid hcc
      have HCD := Lib.hid (show c < 0 ↔ key y < key x by omega)
      have HLA := Lib.hid hla
      have HHA := Lib.hid hha
      have HRY := Lib.hid hry
      have HIT := Lib.hid (And.intro hq htu)
      clear hcc hc hla hha hry hs hrow hrow2 hql hDy hy hq htY
      by_cases hneg : c < 0
      · have HO : Hid (S.Ord key rank y x) := .inl (HCD.out.1 hneg)
        have HNEG := Lib.hid hneg
        clear hneg
        go_upto_region 5 with (fail)
        refine wp_region_ext 11 (fun _ _ d _ _ h => by cases d <;> exact h) (by kernel_rfl) (by kernel_rfl) (by kernel_rfl) (by kernel_rfl) ?_
        simp only [List.take_succ_cons, List.take_zero, List.drop_succ_cons, List.drop_zero]
        have hneg := HNEG.out
        repeat (any_goals (first | go_big_quiet_step ((go_at_call 65; exact ext_quiet (HCC.out _ (hK _ _ hKw (Ext.off (hEr.trans (by (with_reducible (repeat (first | exact Ext.refl _ | assumption | apply Ext.alloc | apply Ext.drew | exact ext_plus _ _ | (apply Ext.setCell; rotate_left; (simp <;> omega)) | (apply Ext.trans; rotate_left; exact ext_plus _ _) | (apply Ext.trans; rotate_left; assumption)))))) g))))) | quiet_step ((go_at_call 65; exact ext_quiet (HCC.out _ (hK _ _ hKw (Ext.off (hEr.trans (by (with_reducible (repeat (first | exact Ext.refl _ | assumption | apply Ext.alloc | apply Ext.drew | exact ext_plus _ _ | (apply Ext.setCell; rotate_left; (simp <;> omega)) | (apply Ext.trans; rotate_left; exact ext_plus _ _) | (apply Ext.trans; rotate_left; assumption)))))) g)))))))
        all_goals (refine wpQuiet_nil ?_; intro wq hEq)
        unfold wpList
        clear d1 e1 
        go_wp2
        go_roundw
        case rel => exact ⟨t + 1, v, q + 1, j, by have := HIT.out.2; omega, hv, by go_num, rfl, by have := HIT.out.1; omega, HIJ.out.2, HLA.out HO.out, HHI.out, hEr.trans hEq⟩
        case measure => simp [intOf]; omega
      · have HO : Hid (S.Ord key rank x y) := (S.ord_lt HRY.out).2 (fun h => hneg (HCD.out.2 h))
        have HNEG := Lib.hid hneg
        clear hneg
        go_upto_region 5 with (fail)
        refine wp_region_ext 11 (fun _ _ d _ _ h => by cases d <;> exact h) (by kernel_rfl) (by kernel_rfl) (by kernel_rfl) (by kernel_rfl) ?_
        simp only [List.take_succ_cons, List.take_zero, List.drop_succ_cons, List.drop_zero]
        have hneg := HNEG.out
        repeat (any_goals (first | go_big_quiet_step ((go_at_call 65; exact ext_quiet (HCC.out _ (hK _ _ hKw (Ext.off (hEr.trans (by (with_reducible (repeat (first | exact Ext.refl _ | assumption | apply Ext.alloc | apply Ext.drew | exact ext_plus _ _ | (apply Ext.setCell; rotate_left; (simp <;> omega)) | (apply Ext.trans; rotate_left; exact ext_plus _ _) | (apply Ext.trans; rotate_left; assumption)))))) g))))) | quiet_step ((go_at_call 65; exact ext_quiet (HCC.out _ (hK _ _ hKw (Ext.off (hEr.trans (by (with_reducible (repeat (first | exact Ext.refl _ | assumption | apply Ext.alloc | apply Ext.drew | exact ext_plus _ _ | (apply Ext.setCell; rotate_left; (simp <;> omega)) | (apply Ext.trans; rotate_left; exact ext_plus _ _) | (apply Ext.trans; rotate_left; assumption)))))) g)))))))
        all_goals (refine wpQuiet_nil ?_; intro wq hEq)
        unfold wpList
        clear d1 e1 
        have hdc : decide (c < 0) = false := decide_eq_false (by omega)
        have hge : 0 ≤ c := by omega
        go_wp2
        go_roundw
        case rel => exact ⟨u, t, i, q, HIT.out.2.1, by have := HIT.out.2; omega, rfl, by go_num, HIJ.out.1, HIT.out.1.symm, HLO.out, HHA.out HO.out, hEr.trans hEq⟩
        case measure => simp [intOf]; omega
    · obtain rfl : u = v := by omega
      have hji : j = i := by omega
      subst hji
      obtain ⟨e, he⟩ : ∃ e, a + u = e := ⟨_, rfl⟩
      have hie : (j : Int) - 1 = (e : Int) := by have := HF.out.2.1; omega
      have heN : e < N := by have := HF.out; omega
      have hrow : RowB intC 1 3 wr g (A ++ (Y.take 0 ++ x :: (Y.drop 0 ++ B))) := by simpa using RowB.ext H.out hEr
      have HIJ := Lib.hid (And.intro hi he)
      clear hi hj hlo hhi he
      go_wp2
      go_loopw [13] (fun vk wz => ∃ t p : Nat, t ≤ u ∧ vk = .int .i64 p ∧ p = a + t ∧ RowB intC 1 3 wz g (A ++ (Y.take t ++ x :: (Y.drop t ++ B))) ∧ Off g w wz) (fun vk _ => e - (intOf vk).toNat)
      case atStart => exact ⟨0, a, Nat.zero_le _, rfl, rfl, hrow, hEr.off g⟩
      case round =>
        rename World => wz
        clear hrow
        obtain ⟨t, p, htu, rfl, hpt, hrow, hO⟩ := hrel
        by_cases hlt2 : t < u
        · have htY : t < Y.length := by omega
          obtain ⟨q, hq⟩ : ∃ q, p + 1 = q := ⟨_, rfl⟩
          have hpe : p < e := by have := HIJ.out.2; omega
          have hpe' : (p : Int) < (e : Int) := by omega
          obtain ⟨y, hy⟩ : ∃ y, Y[t] = y := ⟨_, rfl⟩
          have hd := List.drop_eq_getElem_cons htY
          have htk := List.take_succ_eq_append_getElem htY
          rw [hy] at hd htk
          obtain ⟨P, hP⟩ : ∃ P, A ++ Y.take t = P := ⟨_, rfl⟩
          obtain ⟨Q, hQ⟩ : ∃ Q : List (Int), [] = Q := ⟨_, rfl⟩
          obtain ⟨Z, hZ⟩ : ∃ Z, Y.drop (t + 1) ++ B = Z := ⟨_, rfl⟩
          have e1 : A ++ (Y.take t ++ x :: (Y.drop t ++ B)) = P ++ x :: (Q ++ y :: Z) := by rw [hd, ← hP, ← hQ, ← hZ]; simp
          have e2 : P ++ y :: (Q ++ x :: Z) = A ++ (Y.take (t + 1) ++ x :: (Y.drop (t + 1) ++ B)) := by rw [htk, ← hP, ← hQ, ← hZ]; simp
          rw [e1] at hrow
          have hPl : p = P.length := by rw [← hP]; simp; have := HF.out.1; omega
          have hQl : Q.length = 0 := by rw [← hQ]; rfl
          have HE2 := Lib.hid e2
          have HPQ := Lib.hid (And.intro hPl (And.intro (show q = (P ++ x :: Q).length by simp; omega) (show q = P.length + 1 + Q.length by omega)))
          have hqi : (p : Int) + 1 = (q : Int) := by omega
          have hqN : q < N := by have := HF.out; have := HIJ.out; omega
          have hpN : p < N := by omega
          have hwp : IntKind.wrap .i64 (p : Int) = p := IntWalk.i64_in _ (by omega)
          have hwq : IntKind.wrap .i64 (q : Int) = q := IntWalk.i64_in _ (by omega)
          have hpN' : (p : Int) < (N : Int) := by omega
          have hqN' : (q : Int) < (N : Int) := by omega
          have HPT := Lib.hid (And.intro hpt hq)
          clear hpt hd htk hy hP hQ hZ e1 e2 hPl hQl hq htY
          go_upto_region 11 with (fail)
          have hrd : RowB intC 1 3 wz.drew g (P ++ x :: (Q ++ y :: Z)) := RowB.move hrow rfl
          have hSM : ∀ z, (fun c z => c = false → RowB intC 1 3 z g (P ++ x :: (Q ++ y :: Z))) false z → (fun c z => c = false → RowB intC 1 3 z g (P ++ x :: (Q ++ y :: Z))) true z := fun z _ e => absurd (e : true = false) (by decide)
          refine wp_region_late 15 (fun c z => c = false → RowB intC 1 3 z g (P ++ x :: (Q ++ y :: Z))) (by kernel_rfl) (fun hL => ?_)
          refine late_early (i := 0) (v := ?_) rfl (by kernel_rfl) (by kernel_rfl) (by kernel_rfl) (by decide) (by kernel_rfl) (fun _ _ _ h => h) hL (Or.inl ⟨by rfl, ?_⟩) (fun _ => hrd) (fun hL' => ?_)
          rotate_left
          · intro y hy; clear hy; go_simp; (try with_reducible rfl)
          clear hL; rename Shutb _ _ => hL
          (try simp only [Act.put, List.getElem_toArray, List.getElem_cons_zero, List.getElem_cons_succ, List.setIfInBounds_toArray, List.set_cons_zero, List.set_cons_succ])
          refine late_early (i := 1) (v := ?_) rfl (by kernel_rfl) (by kernel_rfl) (by kernel_rfl) (by decide) (by kernel_rfl) (fun _ _ _ h => h) hL (Or.inl ⟨by rfl, ?_⟩) (fun _ => hrd) (fun hL' => ?_)
          rotate_left
          · intro y hy; clear hy; go_simp; (try with_reducible rfl)
          clear hL; rename Shutb _ _ => hL
          (try simp only [Act.put, List.getElem_toArray, List.getElem_cons_zero, List.getElem_cons_succ, List.setIfInBounds_toArray, List.set_cons_zero, List.set_cons_succ])
          refine late_early (i := 5) (v := ?_) rfl (by kernel_rfl) (by kernel_rfl) (by kernel_rfl) (by decide) (by kernel_rfl) (fun _ _ _ h => h) hL (Or.inl ⟨by rfl, ?_⟩) (fun _ => hrd) (fun hL' => ?_)
          rotate_left
          · intro y hy; clear hy; go_simp; (try with_reducible rfl)
          clear hL; rename Shutb _ _ => hL
          (try simp only [Act.put, List.getElem_toArray, List.getElem_cons_zero, List.getElem_cons_succ, List.setIfInBounds_toArray, List.set_cons_zero, List.set_cons_succ])
          refine late_early (i := 6) (v := ?_) rfl (by kernel_rfl) (by kernel_rfl) (by kernel_rfl) (by decide) (by kernel_rfl) (fun _ _ _ h => h) hL (Or.inl ⟨by rfl, ?_⟩) (fun _ => hrd) (fun hL' => ?_)
          rotate_left
          · intro y hy; clear hy; go_simp; (try with_reducible rfl)
          clear hL; rename Shutb _ _ => hL
          (try simp only [Act.put, List.getElem_toArray, List.getElem_cons_zero, List.getElem_cons_succ, List.setIfInBounds_toArray, List.set_cons_zero, List.set_cons_succ])
          refine late_early (i := 7) (v := ?_) rfl (by kernel_rfl) (by kernel_rfl) (by kernel_rfl) (by decide) (by kernel_rfl) (fun _ _ _ h => h) hL (Or.inl ⟨by rfl, ?_⟩) (fun _ => hrd) (fun hL' => ?_)
          rotate_left
          · intro y hy; clear hy; go_simp; (try with_reducible rfl)
          clear hL; rename Shutb _ _ => hL
          (try simp only [Act.put, List.getElem_toArray, List.getElem_cons_zero, List.getElem_cons_succ, List.setIfInBounds_toArray, List.set_cons_zero, List.set_cons_succ])
          refine late_early (i := 8) (v := ?_) rfl (by kernel_rfl) (by kernel_rfl) (by kernel_rfl) (by decide) (by kernel_rfl) (fun _ _ _ h => h) hL (Or.inl ⟨by rfl, ?_⟩) (fun _ => hrd) (fun hL' => ?_)
          rotate_left
          · intro y hy; clear hy; go_simp; (try with_reducible rfl)
          clear hL; rename Shutb _ _ => hL
          (try simp only [Act.put, List.getElem_toArray, List.getElem_cons_zero, List.getElem_cons_succ, List.setIfInBounds_toArray, List.set_cons_zero, List.set_cons_succ])
          refine late_early (i := 9) (v := ?_) rfl (by kernel_rfl) (by kernel_rfl) (by kernel_rfl) (by decide) (by kernel_rfl) (fun _ _ _ h => h) hL (Or.inl ⟨by rfl, ?_⟩) (fun _ => hrd) (fun hL' => ?_)
          rotate_left
          · intro y hy; have hz := hy rfl; clear hy; have g1 := atIn (P := P ++ x :: Q) (by simpa using hz) HPQ.out.2.1; have g3 := RowB.lt hz; go_simp; (try with_reducible rfl)
          clear hL; rename Shutb _ _ => hL
          (try simp only [Act.put, List.getElem_toArray, List.getElem_cons_zero, List.getElem_cons_succ, List.setIfInBounds_toArray, List.set_cons_zero, List.set_cons_succ])
          refine late_early (i := 10) (v := ?_) rfl (by kernel_rfl) (by kernel_rfl) (by kernel_rfl) (by decide) (by kernel_rfl) (fun _ _ _ h => h) hL (Or.inl ⟨by rfl, ?_⟩) (fun _ => hrd) (fun hL' => ?_)
          rotate_left
          · intro y hy; clear hy; go_simp; (try with_reducible rfl)
          clear hL; rename Shutb _ _ => hL
          (try simp only [Act.put, List.getElem_toArray, List.getElem_cons_zero, List.getElem_cons_succ, List.setIfInBounds_toArray, List.set_cons_zero, List.set_cons_succ])
          refine late_early (i := 11) (v := ?_) rfl (by kernel_rfl) (by kernel_rfl) (by kernel_rfl) (by decide) (by kernel_rfl) (fun _ _ _ h => h) hL (Or.inl ⟨by rfl, ?_⟩) (fun _ => hrd) (fun hL' => ?_)
          rotate_left
          · intro y hy; clear hy; go_simp; (try with_reducible rfl)
          clear hL; rename Shutb _ _ => hL
          (try simp only [Act.put, List.getElem_toArray, List.getElem_cons_zero, List.getElem_cons_succ, List.setIfInBounds_toArray, List.set_cons_zero, List.set_cons_succ])
          refine late_early (i := 12) (v := ?_) rfl (by kernel_rfl) (by kernel_rfl) (by kernel_rfl) (by decide) (by kernel_rfl) (fun _ _ _ h => h) hL (Or.inl ⟨by rfl, ?_⟩) (fun _ => hrd) (fun hL' => ?_)
          rotate_left
          · intro y hy; clear hy; go_simp; (try with_reducible rfl)
          clear hL; rename Shutb _ _ => hL
          (try simp only [Act.put, List.getElem_toArray, List.getElem_cons_zero, List.getElem_cons_succ, List.setIfInBounds_toArray, List.set_cons_zero, List.set_cons_succ])
          refine late_early (i := 13) (v := ?_) rfl (by kernel_rfl) (by kernel_rfl) (by kernel_rfl) (by decide) (by kernel_rfl) (fun _ _ _ h => h) hL (Or.inl ⟨by rfl, ?_⟩) (fun _ => hrd) (fun hL' => ?_)
          rotate_left
          · intro y hy; have hz := hy rfl; clear hy; have g1 := atIn hz HPQ.out.1; have g3 := RowB.lt hz; go_simp; (try with_reducible rfl)
          clear hL; rename Shutb _ _ => hL
          (try simp only [Act.put, List.getElem_toArray, List.getElem_cons_zero, List.getElem_cons_succ, List.setIfInBounds_toArray, List.set_cons_zero, List.set_cons_succ])
          refine late_late (i := 2) (v := ?_) rfl (by kernel_rfl) (by kernel_rfl) (by kernel_rfl) (by decide) hSM (fun _ _ _ h => h) hL (Or.inl ⟨by rfl, ?_⟩) (fun _ => hrd) (fun hL' => ?_)
          rotate_left
          · intro y hy; clear hy; go_simp; (try with_reducible rfl)
          clear hL; rename Shutb _ _ => hL
          (try simp only [Act.put, List.getElem_toArray, List.getElem_cons_zero, List.getElem_cons_succ, List.setIfInBounds_toArray, List.set_cons_zero, List.set_cons_succ])
          refine late_late (i := 3) (v := ?_) rfl (by kernel_rfl) (by kernel_rfl) (by kernel_rfl) (by decide) hSM (fun _ _ _ h => h) hL (Or.inl ⟨by rfl, ?_⟩) (fun _ => hrd) (fun hL' => ?_)
          rotate_left
          · intro y hy; clear hy; go_simp; (try with_reducible rfl)
          clear hL; rename Shutb _ _ => hL
          (try simp only [Act.put, List.getElem_toArray, List.getElem_cons_zero, List.getElem_cons_succ, List.setIfInBounds_toArray, List.set_cons_zero, List.set_cons_succ])
          refine late_late (i := 4) (v := ?_) rfl (by kernel_rfl) (by kernel_rfl) (by kernel_rfl) (by decide) hSM (fun _ _ _ h => h) hL (Or.inl ⟨by rfl, ?_⟩) (fun _ => hrd) (fun hL' => ?_)
          rotate_left
          · intro y hy; clear hy; go_simp; (try with_reducible rfl)
          clear hL; rename Shutb _ _ => hL
          (try simp only [Act.put, List.getElem_toArray, List.getElem_cons_zero, List.getElem_cons_succ, List.setIfInBounds_toArray, List.set_cons_zero, List.set_cons_succ])
          refine late_one (i := 14) (by kernel_rfl) hL (fun hL' => ?_)
          refine wpOp_step rfl (fun K hK0 => ?_)
          have hK : Shut _ := hK0
          clear hK0
          go_simp
          refine hK.out _ _ ⟨fun _ => hrd, ?_⟩
          clear hK K; clear hL; rename Shutb _ _ => hL
          (try simp only [Act.put, List.getElem_toArray, List.getElem_cons_zero, List.getElem_cons_succ, List.setIfInBounds_toArray, List.set_cons_zero, List.set_cons_succ])
          have hpl := (show p < (P ++ x :: (Q ++ y :: Z)).length by have := HPQ.out.1; simp; omega)
          have hql := (show q < (P ++ x :: (Q ++ y :: Z)).length by have := HPQ.out.2.2; simp; omega)
          have d1 := atIn hrow HPQ.out.1
          have d3 := RowB.free hrow
          have d4 := RowB.lt hrow
          refine late_one (i := 15) (by kernel_rfl) hL (fun hL' => ?_)
          refine wpOp_step rfl (fun K hK0 => ?_)
          have hK : Shut _ := hK0
          clear hK0
          go_simp
          refine hK.out _ _ ⟨fun e => absurd (e : true = false) (by decide), ?_⟩
          clear hK K; clear hL; rename Shutb _ _ => hL
          (try simp only [Act.put, List.getElem_toArray, List.getElem_cons_zero, List.getElem_cons_succ, List.setIfInBounds_toArray, List.set_cons_zero, List.set_cons_succ])
          clear d1 d3 d4
          have hO1 := hO.set (a := ⟨g, p, none⟩) (.inl rfl) (.int .i64 y)
          have hr1 := IRow.set hrow p hpl y
          obtain ⟨wm, hwm⟩ : ∃ wm, (wz.setCell ⟨g, p, none⟩ (.int .i64 y)) = wm := ⟨_, rfl⟩
          rw [hwm] at hr1 hO1 ⊢
          clear hwm
          have hr1' := hr1
          rw [set_at P (Q ++ y :: Z) x y HPQ.out.1, show P ++ y :: (Q ++ y :: Z) = (P ++ y :: Q) ++ y :: Z by simp] at hr1'
          have d1 := atIn hr1' (p := q) (by simpa using HPQ.out.2.1)
          have d3 := RowB.free hr1
          have d4 := RowB.lt hr1
          refine late_one (i := 16) (by kernel_rfl) hL (fun hL' => ?_)
          refine wpOp_step rfl (fun K hK0 => ?_)
          have hK : Shut _ := hK0
          clear hK0
          go_simp
          refine hK.out _ _ ⟨fun e => absurd (e : true = false) (by decide), ?_⟩
          clear hK K; clear hL; rename Shutb _ _ => hL
          (try simp only [Act.put, List.getElem_toArray, List.getElem_cons_zero, List.getElem_cons_succ, List.setIfInBounds_toArray, List.set_cons_zero, List.set_cons_succ])
          refine late_one (i := 17) (by kernel_rfl) hL (fun hL' => ?_)
          refine wpOp_step rfl (fun K hK0 => ?_)
          have hK : Shut _ := hK0
          clear hK0
          go_simp
          refine hK.out _ _ ⟨fun e => absurd (e : true = false) (by decide), ?_⟩
          clear hK K; clear hL; rename Shutb _ _ => hL
          (try simp only [Act.put, List.getElem_toArray, List.getElem_cons_zero, List.getElem_cons_succ, List.setIfInBounds_toArray, List.set_cons_zero, List.set_cons_succ])
          refine late_done (by kernel_rfl) ?_
          (try dsimp only [Exit.then])
          clear d1 d3 d4 hr1'
          have hr2 := IRow.set hr1 q (by simpa using hql) x
          rw [S.swap_set P Q Z x y p q HPQ.out.1 HPQ.out.2.2] at hr2
          have hO2 := hO1.set (a := ⟨g, q, none⟩) (.inl rfl) (.int .i64 x)
          go_wp2
          go_roundw
          case rel => exact ⟨t + 1, p + 1, by omega, by go_num, by have := HPT.out.1; omega, by rw [HE2.out] at hr2; exact RowB.move hr2 rfl, hO2.ext ((Ext.refl _).drew)⟩
          case measure => simp [intOf]; omega
        · obtain rfl : t = u := by omega
          have hnp : ¬ (p : Int) < (e : Int) := by have := HIJ.out.2; omega
          have hnp2 : ¬ p < e := by omega
          have HH := Lib.hid hrow
          clear hpt hrow
          go_wp2
          refine bodyPost_ret (results_none rfl _ _ _) rfl ?_
          refine ⟨rfl, Y.take t ++ x :: Y.drop t, ?_, ?_, by simpa using HH.out, hO⟩
          · refine List.perm_middle.trans ?_
            rw [List.take_append_drop]
            try exact List.Perm.refl _
          · exact S.srt_insert (by rw [List.take_append_drop]; exact HSY.out) (S.take_all HLO.out) (S.drop_all HHI.out)

set_option maxRecDepth 100000 in
set_option maxHeartbeats 16000000 in
theorem symYIn (g : Nat) (key : Int → Int) (rank : Int → Nat) (D : Int → Prop) (K : World → Prop) (hK : ∀ w w', K w → Off g w w' → K w') (hD : ∀ x, D x → -1000000000 ≤ key x ∧ key x ≤ 1000000000)
    (HC : ∀ w' x y, K w' → D x → D y → Calls Try.prog 65 #[.int .i64 x, .int .i64 y] w' fun e w2 => e = .returned (.int .i64 (key x - key y)) ∧ Ext w' w2)
    (A X Y B : List (Int)) (cap a m b N : Nat) (w : World) (hKw : K w) (hDX : ∀ x ∈ X, D x) (hDY : ∀ y ∈ Y, D y) (hSX : S.Srt (S.Ord key rank) X) (hSY : S.Srt (S.Ord key rank) Y) (hrk : ∀ x ∈ X, ∀ y ∈ Y, rank x < rank y)
    (ha : a = A.length) (hm : m = A.length + X.length) (hb : b = A.length + X.length + Y.length) (hX1 : 1 < X.length) (hY1 : Y.length = 1)
    (hN : N = (A ++ (X ++ (Y ++ B))).length) (hsz : N ≤ 1000000) (h : RowB intC 1 3 w g (A ++ (X ++ (Y ++ B)))) :
    Calls Try.prog 90 #[.slice (some ⟨g, 0, none⟩) N cap, .int .i64 a, .int .i64 m, .int .i64 b, .func (.func 65) #[] #[]] w fun e w' => e = .returned (.tuple #[]) ∧ ∃ Z, Z.Perm (X ++ Y) ∧ S.Srt (S.Ord key rank) Z ∧ RowB intC 1 3 w' g (A ++ (Z ++ B)) ∧ Off g w w' := by
  obtain ⟨y, rfl⟩ : ∃ y, Y = [y] := by
    match Y, hY1 with
    | [y], _ => exact ⟨y, rfl⟩
  have hNl : N = A.length + X.length + 1 + B.length := by rw [hN]; simp; omega
  have hm' : m = a + X.length := by omega
  have hb' : b = m + 1 := by simp at hb; omega
  obtain ⟨lx, hlx⟩ : ∃ lx, X.length = lx := ⟨_, rfl⟩
  have hma : (m : Int) - (a : Int) = (lx : Int) := by omega
  have hlx1 : ((lx : Int) == 1) = false := by simp; omega
  have hlx2 : ¬ (lx : Int) = 1 := by omega
  have hlx3 : ¬ lx = 1 := by omega
  have hbm : (b : Int) - (m : Int) = 1 := by omega
  have hbN : b ≤ N := by omega
  have hmN : m < N := by omega
  have haN : a < N := by omega
  have hDy := hDY y (by simp)
  have hry : ∀ x ∈ X, rank x < rank y := fun x hx => hrk x hx y (by simp)
  have HCM := Lib.hid HC
  have HF := Lib.hid (And.intro ha (And.intro hm' (And.intro hb' (And.intro hNl hlx))))
  have H := Lib.hid h
  have HDX := Lib.hid hDX
  have HSX := Lib.hid hSX
  have HRK := Lib.hid hry
  have hpc := plus_cell
  have hlxN : lx ≤ N := by omega
  clear HC hDX hDY hSX hSY hrk hry ha hm hb hN hNl h hm' hb' hX1 hlx
  go_enter Try.func90, Try.ntmps90
  go_wp2
  go_loopw [14, 15, 16] (fun vi vj _ wr => ∃ u v i j : Nat, u ≤ v ∧ v ≤ lx ∧ vi = .int .i64 i ∧ vj = .int .i64 j ∧ i = a + u ∧ j = a + v ∧ (∀ t (ht : t < X.length), t < u → S.Ord key rank X[t] y) ∧ (∀ t (ht : t < X.length), v ≤ t → S.Ord key rank y X[t]) ∧ Ext w wr) (fun vi vj _ _ => (intOf vj).toNat - (intOf vi).toNat)
  case atStart => exact ⟨0, lx, a, m, Nat.zero_le _, Nat.le_refl _, rfl, rfl, rfl, by have := HF.out; omega, fun t ht h => by omega, fun t ht h => by have := HF.out.2.2.2.2; omega, Ext.refl _⟩
  case round =>
    rename World => wr
    obtain ⟨u, v, i, j, huv, hv, rfl, rfl, hi, hj, hlo, hhi, hEr⟩ := hrel
    have HLO := Lib.hid hlo
    have HHI := Lib.hid hhi
    by_cases hlt : u < v
    · obtain ⟨t, ht⟩ : ∃ t, (u + v) / 2 = t := ⟨_, rfl⟩
      obtain ⟨q, hq⟩ : ∃ q, a + t = q := ⟨_, rfl⟩
      have htu : u ≤ t ∧ t < v := by omega
      have htX : t < X.length := by have := HF.out.2.2.2.2; omega
      obtain ⟨ha, hm, hb, hNl, hlx⟩ := HF.out
      have hqN : q < N := by omega
      have hij : i + j = 2 * q ∨ i + j = 2 * q + 1 := by omega
      have hijl : i < j := by omega
      have hi6 : i ≤ 1000000 := by omega
      have hj6 : j ≤ 1000000 := by omega
      have HIJ := Lib.hid (And.intro hi hj)
      clear hi hj ht ha hm hb hNl hlx hlo hhi
      have hqi : ((i : Int) + (j : Int)) / 2 = (q : Int) := by omega
      have hqN' : (q : Int) < (N : Int) := by omega
      have hwq : IntKind.wrap .i64 (q : Int) = q := IntWalk.i64_in _ (by omega)
      have hmN' : (m : Int) < (N : Int) := by omega
      have hDx := HDX.out _ (List.getElem_mem htX)
      have hrx := HRK.out _ (List.getElem_mem htX)
      have hs : X = X.take t ++ X[t] :: X.drop (t + 1) := by rw [← List.drop_eq_getElem_cons htX, List.take_append_drop]
      have hla := S.low_all (S.ord_trans key rank) HSX.out htX (x := y)
      have hha := S.high_all (S.ord_trans key rank) HSX.out htX (x := y)
      obtain ⟨x, hx⟩ : ∃ x, X[t] = x := ⟨_, rfl⟩
      rw [hx] at hDx hrx hs hla hha
      have hrow := RowB.ext H.out hEr
      have hrow2 : RowB intC 1 3 wr g ((A ++ X.take t) ++ x :: (X.drop (t + 1) ++ ([y] ++ B))) := by
        have e : (A ++ X.take t) ++ x :: (X.drop (t + 1) ++ ([y] ++ B)) = A ++ ((X.take t ++ x :: X.drop (t + 1)) ++ ([y] ++ B)) := by simp
        rw [e, ← hs]; exact hrow
      have hql : q = (A ++ X.take t).length := by simp; have := HF.out.1; omega
      have hgl := RowB.lt hrow
      have d1 := atIn hrow2 hql
      have e1 := atIn (P := A ++ X) (Z := B) (by simpa using hrow) (p := m) (by simp; have := HF.out; omega)
      have hcc := fun w' (hk : K w') => HCM.out w' y x hk hDy hDx
      obtain ⟨c, hc⟩ : ∃ c, key y - key x = c := ⟨_, rfl⟩
      simp only [hc] at hcc
      have HCC := Lib.hid hcc
      have HCD := Lib.hid (show c < 0 ↔ key y < key x by omega)
      have HLA := Lib.hid hla
      have HHA := Lib.hid hha
      have HRY := Lib.hid hrx
      have HIT := Lib.hid (And.intro hq htu)
      clear hcc hc hla hha hrx hs hrow hrow2 hql hDx hx hq htX
      by_cases hneg : c < 0
      · have HO : Hid (S.Ord key rank y x) := .inl (HCD.out.1 hneg)
        have HNEG := Lib.hid hneg
        clear hneg
        go_upto_region 17 with (fail)
        refine wp_region_ext 12 (fun _ _ d _ _ h => by cases d <;> exact h) (by kernel_rfl) (by kernel_rfl) (by kernel_rfl) (by kernel_rfl) ?_
        simp only [List.take_succ_cons, List.take_zero, List.drop_succ_cons, List.drop_zero]
        have hneg := HNEG.out
        have hdc : decide (c < 0) = true := decide_eq_true hneg
        repeat (any_goals (first | go_big_quiet_step ((go_at_call 65; exact ext_quiet (HCC.out _ (hK _ _ hKw (Ext.off (hEr.trans (by (with_reducible (repeat (first | exact Ext.refl _ | assumption | apply Ext.alloc | apply Ext.drew | exact ext_plus _ _ | (apply Ext.setCell; rotate_left; (simp <;> omega)) | (apply Ext.trans; rotate_left; exact ext_plus _ _) | (apply Ext.trans; rotate_left; assumption)))))) g))))) | quiet_step ((go_at_call 65; exact ext_quiet (HCC.out _ (hK _ _ hKw (Ext.off (hEr.trans (by (with_reducible (repeat (first | exact Ext.refl _ | assumption | apply Ext.alloc | apply Ext.drew | exact ext_plus _ _ | (apply Ext.setCell; rotate_left; (simp <;> omega)) | (apply Ext.trans; rotate_left; exact ext_plus _ _) | (apply Ext.trans; rotate_left; assumption)))))) g)))))))
        all_goals (refine wpQuiet_nil ?_; intro wq hEq)
        unfold wpList
        clear d1 e1 
        go_wp2
        go_roundw
        case rel => exact ⟨u, t, i, q, HIT.out.2.1, by have := HIT.out.2; omega, rfl, by go_num, HIJ.out.1, HIT.out.1.symm, HLO.out, HHA.out HO.out, hEr.trans hEq⟩
        case measure => simp [intOf]; omega
      · have HO : Hid (S.Ord key rank x y) := (S.ord_lt HRY.out).2 (fun h => hneg (HCD.out.2 h))
        have HNEG := Lib.hid hneg
        clear hneg
        go_upto_region 17 with (fail)
        refine wp_region_ext 12 (fun _ _ d _ _ h => by cases d <;> exact h) (by kernel_rfl) (by kernel_rfl) (by kernel_rfl) (by kernel_rfl) ?_
        simp only [List.take_succ_cons, List.take_zero, List.drop_succ_cons, List.drop_zero]
        have hneg := HNEG.out
        have hdc : decide (c < 0) = false := decide_eq_false hneg
        repeat (any_goals (first | go_big_quiet_step ((go_at_call 65; exact ext_quiet (HCC.out _ (hK _ _ hKw (Ext.off (hEr.trans (by (with_reducible (repeat (first | exact Ext.refl _ | assumption | apply Ext.alloc | apply Ext.drew | exact ext_plus _ _ | (apply Ext.setCell; rotate_left; (simp <;> omega)) | (apply Ext.trans; rotate_left; exact ext_plus _ _) | (apply Ext.trans; rotate_left; assumption)))))) g))))) | quiet_step ((go_at_call 65; exact ext_quiet (HCC.out _ (hK _ _ hKw (Ext.off (hEr.trans (by (with_reducible (repeat (first | exact Ext.refl _ | assumption | apply Ext.alloc | apply Ext.drew | exact ext_plus _ _ | (apply Ext.setCell; rotate_left; (simp <;> omega)) | (apply Ext.trans; rotate_left; exact ext_plus _ _) | (apply Ext.trans; rotate_left; assumption)))))) g)))))))
        all_goals (refine wpQuiet_nil ?_; intro wq hEq)
        unfold wpList
        clear d1 e1 
        have hdc2 : decide (c < 0) = false := decide_eq_false (by omega)
        have hge : 0 ≤ c := by omega
        go_wp2
        go_roundw
        case rel => exact ⟨t + 1, v, q + 1, j, by have := HIT.out.2; omega, hv, by go_num, rfl, by have := HIT.out.1; omega, HIJ.out.2, HLA.out HO.out, HHI.out, hEr.trans hEq⟩
        case measure => simp [intOf]; omega
    · obtain rfl : u = v := by omega
      have hji : j = i := by omega
      subst hji
      have hrow : RowB intC 1 3 wr g (A ++ (X.take lx ++ y :: (X.drop lx ++ B))) := by
        rw [List.take_of_length_le (by have := HF.out.2.2.2.2; omega), List.drop_eq_nil_of_le (by have := HF.out.2.2.2.2; omega)]
        simpa using RowB.ext H.out hEr
      have hjN : j ≤ N := by have := HF.out; omega
      have HIJ := Lib.hid hi
      clear hi hj hlo hhi
      go_wp2
      go_loopw [17] (fun vk wz => ∃ t p : Nat, u ≤ t ∧ t ≤ lx ∧ vk = .int .i64 p ∧ p = a + t ∧ RowB intC 1 3 wz g (A ++ (X.take t ++ y :: (X.drop t ++ B))) ∧ Off g w wz) (fun vk _ => (intOf vk).toNat)
      case atStart => exact ⟨lx, m, hv, Nat.le_refl _, rfl, by have := HF.out; omega, hrow, hEr.off g⟩
      case round =>
        rename World => wz
        clear hrow
        obtain ⟨t0, q, htu, htl, rfl, hpt, hrow, hO⟩ := hrel
        by_cases hlt2 : u < t0
        · obtain ⟨t, rfl⟩ : ∃ t, t0 = t + 1 := ⟨t0 - 1, by omega⟩
          have htX : t < X.length := by have := HF.out.2.2.2.2; omega
          obtain ⟨p, hp⟩ : ∃ p, a + t = p := ⟨_, rfl⟩
          have hqp : q = p + 1 := by omega
          have hjq : j < q := by have := HIJ.out; omega
          have hjq' : (j : Int) < (q : Int) := by omega
          obtain ⟨x, hx⟩ : ∃ x, X[t] = x := ⟨_, rfl⟩
          have hd := List.drop_eq_getElem_cons htX
          have htk := List.take_succ_eq_append_getElem htX
          rw [hx] at hd htk
          obtain ⟨P, hP⟩ : ∃ P, A ++ X.take t = P := ⟨_, rfl⟩
          obtain ⟨Q, hQ⟩ : ∃ Q : List (Int), [] = Q := ⟨_, rfl⟩
          obtain ⟨Z, hZ⟩ : ∃ Z, X.drop (t + 1) ++ B = Z := ⟨_, rfl⟩
          have e1 : A ++ (X.take (t + 1) ++ y :: (X.drop (t + 1) ++ B)) = P ++ x :: (Q ++ y :: Z) := by rw [htk, ← hP, ← hQ, ← hZ]; simp
          have e2 : P ++ y :: (Q ++ x :: Z) = A ++ (X.take t ++ y :: (X.drop t ++ B)) := by rw [hd, ← hP, ← hQ, ← hZ]; simp
          rw [e1] at hrow
          have hPl : p = P.length := by rw [← hP]; simp; have := HF.out.1; omega
          have hQl : Q.length = 0 := by rw [← hQ]; rfl
          have HE2 := Lib.hid e2
          have HPQ := Lib.hid (And.intro hPl (And.intro (show q = (P ++ x :: Q).length by simp; omega) (show q = P.length + 1 + Q.length by omega)))
          have hpi : (q : Int) - 1 = (p : Int) := by omega
          have hqN : q < N := by have := HF.out; have := HIJ.out; omega
          have hpN : p < N := by omega
          have hwp : IntKind.wrap .i64 (p : Int) = p := IntWalk.i64_in _ (by omega)
          have hwq : IntKind.wrap .i64 (q : Int) = q := IntWalk.i64_in _ (by omega)
          have hpN' : (p : Int) < (N : Int) := by omega
          have hqN' : (q : Int) < (N : Int) := by omega
          have HPT := Lib.hid (And.intro hpt hp)
          have HQP := Lib.hid hqp
          clear hpt hd htk hx hP hQ hZ e1 e2 hPl hQl hp htX hqp
          go_upto_region 23 with (fail)
          have hrd : RowB intC 1 3 wz.drew g (P ++ x :: (Q ++ y :: Z)) := RowB.move hrow rfl
          have hSM : ∀ z, (fun c z => c = false → RowB intC 1 3 z g (P ++ x :: (Q ++ y :: Z))) false z → (fun c z => c = false → RowB intC 1 3 z g (P ++ x :: (Q ++ y :: Z))) true z := fun z _ e => absurd (e : true = false) (by decide)
          refine wp_region_late 15 (fun c z => c = false → RowB intC 1 3 z g (P ++ x :: (Q ++ y :: Z))) (by kernel_rfl) (fun hL => ?_)
          refine late_early (i := 0) (v := ?_) rfl (by kernel_rfl) (by kernel_rfl) (by kernel_rfl) (by decide) (by kernel_rfl) (fun _ _ _ h => h) hL (Or.inl ⟨by rfl, ?_⟩) (fun _ => hrd) (fun hL' => ?_)
          rotate_left
          · intro y hy; clear hy; go_simp; (try with_reducible rfl)
          clear hL; rename Shutb _ _ => hL
          (try simp only [Act.put, List.getElem_toArray, List.getElem_cons_zero, List.getElem_cons_succ, List.setIfInBounds_toArray, List.set_cons_zero, List.set_cons_succ])
          refine late_early (i := 1) (v := ?_) rfl (by kernel_rfl) (by kernel_rfl) (by kernel_rfl) (by decide) (by kernel_rfl) (fun _ _ _ h => h) hL (Or.inl ⟨by rfl, ?_⟩) (fun _ => hrd) (fun hL' => ?_)
          rotate_left
          · intro y hy; clear hy; go_simp; (try with_reducible rfl)
          clear hL; rename Shutb _ _ => hL
          (try simp only [Act.put, List.getElem_toArray, List.getElem_cons_zero, List.getElem_cons_succ, List.setIfInBounds_toArray, List.set_cons_zero, List.set_cons_succ])
          refine late_early (i := 5) (v := ?_) rfl (by kernel_rfl) (by kernel_rfl) (by kernel_rfl) (by decide) (by kernel_rfl) (fun _ _ _ h => h) hL (Or.inl ⟨by rfl, ?_⟩) (fun _ => hrd) (fun hL' => ?_)
          rotate_left
          · intro y hy; clear hy; go_simp; (try with_reducible rfl)
          clear hL; rename Shutb _ _ => hL
          (try simp only [Act.put, List.getElem_toArray, List.getElem_cons_zero, List.getElem_cons_succ, List.setIfInBounds_toArray, List.set_cons_zero, List.set_cons_succ])
          refine late_early (i := 6) (v := ?_) rfl (by kernel_rfl) (by kernel_rfl) (by kernel_rfl) (by decide) (by kernel_rfl) (fun _ _ _ h => h) hL (Or.inl ⟨by rfl, ?_⟩) (fun _ => hrd) (fun hL' => ?_)
          rotate_left
          · intro y hy; clear hy; go_simp; (try with_reducible rfl)
          clear hL; rename Shutb _ _ => hL
          (try simp only [Act.put, List.getElem_toArray, List.getElem_cons_zero, List.getElem_cons_succ, List.setIfInBounds_toArray, List.set_cons_zero, List.set_cons_succ])
          refine late_early (i := 7) (v := ?_) rfl (by kernel_rfl) (by kernel_rfl) (by kernel_rfl) (by decide) (by kernel_rfl) (fun _ _ _ h => h) hL (Or.inl ⟨by rfl, ?_⟩) (fun _ => hrd) (fun hL' => ?_)
          rotate_left
          · intro y hy; clear hy; go_simp; (try with_reducible rfl)
          clear hL; rename Shutb _ _ => hL
          (try simp only [Act.put, List.getElem_toArray, List.getElem_cons_zero, List.getElem_cons_succ, List.setIfInBounds_toArray, List.set_cons_zero, List.set_cons_succ])
          refine late_early (i := 8) (v := ?_) rfl (by kernel_rfl) (by kernel_rfl) (by kernel_rfl) (by decide) (by kernel_rfl) (fun _ _ _ h => h) hL (Or.inl ⟨by rfl, ?_⟩) (fun _ => hrd) (fun hL' => ?_)
          rotate_left
          · intro y hy; clear hy; go_simp; (try with_reducible rfl)
          clear hL; rename Shutb _ _ => hL
          (try simp only [Act.put, List.getElem_toArray, List.getElem_cons_zero, List.getElem_cons_succ, List.setIfInBounds_toArray, List.set_cons_zero, List.set_cons_succ])
          refine late_early (i := 9) (v := ?_) rfl (by kernel_rfl) (by kernel_rfl) (by kernel_rfl) (by decide) (by kernel_rfl) (fun _ _ _ h => h) hL (Or.inl ⟨by rfl, ?_⟩) (fun _ => hrd) (fun hL' => ?_)
          rotate_left
          · intro y hy; have hz := hy rfl; clear hy; have g1 := atIn hz HPQ.out.1; have g3 := RowB.lt hz; go_simp; (try with_reducible rfl)
          clear hL; rename Shutb _ _ => hL
          (try simp only [Act.put, List.getElem_toArray, List.getElem_cons_zero, List.getElem_cons_succ, List.setIfInBounds_toArray, List.set_cons_zero, List.set_cons_succ])
          refine late_early (i := 10) (v := ?_) rfl (by kernel_rfl) (by kernel_rfl) (by kernel_rfl) (by decide) (by kernel_rfl) (fun _ _ _ h => h) hL (Or.inl ⟨by rfl, ?_⟩) (fun _ => hrd) (fun hL' => ?_)
          rotate_left
          · intro y hy; clear hy; go_simp; (try with_reducible rfl)
          clear hL; rename Shutb _ _ => hL
          (try simp only [Act.put, List.getElem_toArray, List.getElem_cons_zero, List.getElem_cons_succ, List.setIfInBounds_toArray, List.set_cons_zero, List.set_cons_succ])
          refine late_early (i := 11) (v := ?_) rfl (by kernel_rfl) (by kernel_rfl) (by kernel_rfl) (by decide) (by kernel_rfl) (fun _ _ _ h => h) hL (Or.inl ⟨by rfl, ?_⟩) (fun _ => hrd) (fun hL' => ?_)
          rotate_left
          · intro y hy; clear hy; go_simp; (try with_reducible rfl)
          clear hL; rename Shutb _ _ => hL
          (try simp only [Act.put, List.getElem_toArray, List.getElem_cons_zero, List.getElem_cons_succ, List.setIfInBounds_toArray, List.set_cons_zero, List.set_cons_succ])
          refine late_early (i := 12) (v := ?_) rfl (by kernel_rfl) (by kernel_rfl) (by kernel_rfl) (by decide) (by kernel_rfl) (fun _ _ _ h => h) hL (Or.inl ⟨by rfl, ?_⟩) (fun _ => hrd) (fun hL' => ?_)
          rotate_left
          · intro y hy; clear hy; go_simp; (try with_reducible rfl)
          clear hL; rename Shutb _ _ => hL
          (try simp only [Act.put, List.getElem_toArray, List.getElem_cons_zero, List.getElem_cons_succ, List.setIfInBounds_toArray, List.set_cons_zero, List.set_cons_succ])
          refine late_early (i := 13) (v := ?_) rfl (by kernel_rfl) (by kernel_rfl) (by kernel_rfl) (by decide) (by kernel_rfl) (fun _ _ _ h => h) hL (Or.inl ⟨by rfl, ?_⟩) (fun _ => hrd) (fun hL' => ?_)
          rotate_left
          · intro y hy; have hz := hy rfl; clear hy; have g1 := atIn (P := P ++ x :: Q) (by simpa using hz) HPQ.out.2.1; have g3 := RowB.lt hz; go_simp; (try with_reducible rfl)
          clear hL; rename Shutb _ _ => hL
          (try simp only [Act.put, List.getElem_toArray, List.getElem_cons_zero, List.getElem_cons_succ, List.setIfInBounds_toArray, List.set_cons_zero, List.set_cons_succ])
          refine late_late (i := 2) (v := ?_) rfl (by kernel_rfl) (by kernel_rfl) (by kernel_rfl) (by decide) hSM (fun _ _ _ h => h) hL (Or.inl ⟨by rfl, ?_⟩) (fun _ => hrd) (fun hL' => ?_)
          rotate_left
          · intro y hy; clear hy; go_simp; (try with_reducible rfl)
          clear hL; rename Shutb _ _ => hL
          (try simp only [Act.put, List.getElem_toArray, List.getElem_cons_zero, List.getElem_cons_succ, List.setIfInBounds_toArray, List.set_cons_zero, List.set_cons_succ])
          refine late_late (i := 3) (v := ?_) rfl (by kernel_rfl) (by kernel_rfl) (by kernel_rfl) (by decide) hSM (fun _ _ _ h => h) hL (Or.inl ⟨by rfl, ?_⟩) (fun _ => hrd) (fun hL' => ?_)
          rotate_left
          · intro y hy; clear hy; go_simp; (try with_reducible rfl)
          clear hL; rename Shutb _ _ => hL
          (try simp only [Act.put, List.getElem_toArray, List.getElem_cons_zero, List.getElem_cons_succ, List.setIfInBounds_toArray, List.set_cons_zero, List.set_cons_succ])
          refine late_late (i := 4) (v := ?_) rfl (by kernel_rfl) (by kernel_rfl) (by kernel_rfl) (by decide) hSM (fun _ _ _ h => h) hL (Or.inl ⟨by rfl, ?_⟩) (fun _ => hrd) (fun hL' => ?_)
          rotate_left
          · intro y hy; clear hy; go_simp; (try with_reducible rfl)
          clear hL; rename Shutb _ _ => hL
          (try simp only [Act.put, List.getElem_toArray, List.getElem_cons_zero, List.getElem_cons_succ, List.setIfInBounds_toArray, List.set_cons_zero, List.set_cons_succ])
          refine late_one (i := 14) (by kernel_rfl) hL (fun hL' => ?_)
          refine wpOp_step rfl (fun K hK0 => ?_)
          have hK : Shut _ := hK0
          clear hK0
          go_simp
          refine hK.out _ _ ⟨fun _ => hrd, ?_⟩
          clear hK K; clear hL; rename Shutb _ _ => hL
          (try simp only [Act.put, List.getElem_toArray, List.getElem_cons_zero, List.getElem_cons_succ, List.setIfInBounds_toArray, List.set_cons_zero, List.set_cons_succ])
          have hpl := (show p < (P ++ x :: (Q ++ y :: Z)).length by have := HPQ.out.1; simp; omega)
          have hql := (show q < (P ++ x :: (Q ++ y :: Z)).length by have := HPQ.out.2.2; simp; omega)
          have d1 := atIn (P := P ++ x :: Q) (by simpa using hrow) HPQ.out.2.1
          have d3 := RowB.free hrow
          have d4 := RowB.lt hrow
          refine late_one (i := 15) (by kernel_rfl) hL (fun hL' => ?_)
          refine wpOp_step rfl (fun K hK0 => ?_)
          have hK : Shut _ := hK0
          clear hK0
          go_simp
          refine hK.out _ _ ⟨fun e => absurd (e : true = false) (by decide), ?_⟩
          clear hK K; clear hL; rename Shutb _ _ => hL
          (try simp only [Act.put, List.getElem_toArray, List.getElem_cons_zero, List.getElem_cons_succ, List.setIfInBounds_toArray, List.set_cons_zero, List.set_cons_succ])
          clear d1 d3 d4
          have hO1 := hO.set (a := ⟨g, q, none⟩) (.inl rfl) (.int .i64 x)
          have hr1 := IRow.set hrow q hql x
          obtain ⟨wm, hwm⟩ : ∃ wm, (wz.setCell ⟨g, q, none⟩ (.int .i64 x)) = wm := ⟨_, rfl⟩
          rw [hwm] at hr1 hO1 ⊢
          clear hwm
          have hr1' := hr1
          rw [show P ++ x :: (Q ++ y :: Z) = (P ++ x :: Q) ++ y :: Z by simp, set_at (P ++ x :: Q) Z y x HPQ.out.2.1, show (P ++ x :: Q) ++ x :: Z = P ++ x :: (Q ++ x :: Z) by simp] at hr1'
          have d1 := atIn hr1' HPQ.out.1
          have d3 := RowB.free hr1
          have d4 := RowB.lt hr1
          refine late_one (i := 16) (by kernel_rfl) hL (fun hL' => ?_)
          refine wpOp_step rfl (fun K hK0 => ?_)
          have hK : Shut _ := hK0
          clear hK0
          go_simp
          refine hK.out _ _ ⟨fun e => absurd (e : true = false) (by decide), ?_⟩
          clear hK K; clear hL; rename Shutb _ _ => hL
          (try simp only [Act.put, List.getElem_toArray, List.getElem_cons_zero, List.getElem_cons_succ, List.setIfInBounds_toArray, List.set_cons_zero, List.set_cons_succ])
          refine late_one (i := 17) (by kernel_rfl) hL (fun hL' => ?_)
          refine wpOp_step rfl (fun K hK0 => ?_)
          have hK : Shut _ := hK0
          clear hK0
          go_simp
          refine hK.out _ _ ⟨fun e => absurd (e : true = false) (by decide), ?_⟩
          clear hK K; clear hL; rename Shutb _ _ => hL
          (try simp only [Act.put, List.getElem_toArray, List.getElem_cons_zero, List.getElem_cons_succ, List.setIfInBounds_toArray, List.set_cons_zero, List.set_cons_succ])
          refine late_done (by kernel_rfl) ?_
          (try dsimp only [Exit.then])
          clear d1 d3 d4 hr1'
          have hr2 := IRow.set hr1 p (by simpa using hpl) y
          rw [List.set_comm _ _ (by have := HPQ.out.1; have := HPQ.out.2.2; omega), S.swap_set P Q Z x y p q HPQ.out.1 HPQ.out.2.2] at hr2
          have hO2 := hO1.set (a := ⟨g, p, none⟩) (.inl rfl) (.int .i64 y)
          go_wp2
          go_roundw
          case rel => exact ⟨t, p, by omega, by omega, by go_num, HPT.out.2.symm, by rw [HE2.out] at hr2; exact RowB.move hr2 rfl, hO2.ext ((Ext.refl _).drew)⟩
          case measure => simp [intOf]; have := HQP.out; omega
        · obtain rfl : t0 = u := by omega
          have hnp : ¬ (j : Int) < (q : Int) := by have := HIJ.out; omega
          have hnp2 : ¬ j < q := by omega
          have HH := Lib.hid hrow
          clear hpt hrow
          go_wp2
          refine bodyPost_ret (results_none rfl _ _ _) rfl ?_
          refine ⟨rfl, X.take t0 ++ y :: X.drop t0, ?_, ?_, by simpa using HH.out, hO⟩
          · refine List.perm_middle.trans ?_
            rw [List.take_append_drop]
            exact (List.perm_append_singleton y X).symm
          · exact S.srt_insert (by rw [List.take_append_drop]; exact HSX.out) (S.take_all HLO.out) (S.drop_all HHI.out)

end Go.Proofs.Ytkjoojmlcjmlgaa
