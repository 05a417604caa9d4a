/- The merge of two sorted neighbours. -/
import Derived.Test.YtkjoojmlcjmlgaaS4
import Derived.Test.YtkjoojmlcjmlgaaPs
import Derived.Deep.CutRange
namespace Go.Proofs.Ytkjoojmlcjmlgaa
set_option linter.unusedVariables false
set_option linter.unusedSimpArgs false
open Go.RowKit
set_option maxRecDepth 100000 in
set_option maxHeartbeats 16000000 in
theorem symGenSt (g : Nat) (bc : Nat) (key : Int × Int → Int) (rank : Int × Int → Nat) (D : Int × Int → Prop) (K : World → Prop) (hK : ∀ w w', K w → Off g w w' → K w') (hD : ∀ x, D x → -1000000000 ≤ key x ∧ key x ≤ 1000000000)
    (HC : ∀ w' x y, K w' → D x → D y → Calls Try.prog 60 #[.agg #[.int .i64 x.1, .int .i64 x.2], .agg #[.int .i64 y.1, .int .i64 y.2], .pointer (some ⟨bc, 0, none⟩)] w' fun e w2 => e = .returned (.int .i64 (key x - key y)) ∧ Ext w' w2)
    (A X Y B : List (Int × Int)) (cap a m b N : Nat) (w : World) (hKw : K w) (hDX : ∀ x ∈ X, D x) (hDY : ∀ y ∈ Y, D y) (hSX : S.Srt (S.Ord key rank) X) (hSY : S.Srt (S.Ord key rank) Y) (hrk : ∀ x ∈ X, ∀ y ∈ Y, rank x < rank y)
    (ha : a = A.length) (hm : m = A.length + X.length) (hb : b = A.length + X.length + Y.length) (hX1 : 1 < X.length) (hY1 : 1 < Y.length) (d : Nat) (hd : X.length + Y.length ≤ d + 1) (IH : ∀ (A X Y B : List (Int × Int)) (a m b : Nat) (w : World), X.length + Y.length ≤ d → K w → (∀ x ∈ X, D x) → (∀ y ∈ Y, D y) → S.Srt (S.Ord key rank) X → S.Srt (S.Ord key rank) Y → (∀ x ∈ X, ∀ y ∈ Y, rank x < rank y) → 0 < X.length → 0 < Y.length →
      a = A.length → m = A.length + X.length → b = A.length + X.length + Y.length → N = (A ++ (X ++ (Y ++ B))).length → RowB storeC 2 86 w g (A ++ (X ++ (Y ++ B))) →
      Calls Try.prog 88 #[.slice (some ⟨g, 0, none⟩) N cap, .int .i64 a, .int .i64 m, .int .i64 b, .func (.func 60) #[] #[.pointer (some ⟨bc, 0, none⟩)]] w fun e w' => e = .returned (.tuple #[]) ∧ ∃ Z, Z.Perm (X ++ Y) ∧ S.Srt (S.Ord key rank) Z ∧ RowB storeC 2 86 w' g (A ++ (Z ++ B)) ∧ Off g w w')
    (hN : N = (A ++ (X ++ (Y ++ B))).length) (hsz : N ≤ 1000000) (h : RowB storeC 2 86 w g (A ++ (X ++ (Y ++ B)))) :
    Calls Try.prog 88 #[.slice (some ⟨g, 0, none⟩) N cap, .int .i64 a, .int .i64 m, .int .i64 b, .func (.func 60) #[] #[.pointer (some ⟨bc, 0, none⟩)]] w fun e w' => e = .returned (.tuple #[]) ∧ ∃ Z, Z.Perm (X ++ Y) ∧ S.Srt (S.Ord key rank) Z ∧ RowB storeC 2 86 w' g (A ++ (Z ++ B)) ∧ Off g w w' := by
  have hNl : N = A.length + X.length + Y.length + B.length := by rw [hN]; simp; omega
  obtain ⟨lx, hlx⟩ : ∃ lx, X.length = lx := ⟨_, rfl⟩
  obtain ⟨ly, hly⟩ : ∃ ly, Y.length = ly := ⟨_, rfl⟩
  obtain ⟨mid, hmid⟩ : ∃ mid, (a + b) / 2 = mid := ⟨_, rfl⟩
  obtain ⟨nn, hnn⟩ : ∃ nn, mid + m = nn := ⟨_, rfl⟩
  obtain ⟨pp, hpp⟩ : ∃ pp, nn = pp + 1 := ⟨nn - 1, by omega⟩
  have hma : (m : Int) - (a : Int) = (lx : Int) := by omega
  have hlx1 : ((lx : Int) == 1) = false := by simp; omega
  have hlx2 : ¬ (lx : Int) = 1 := by omega
  have hlx3 : ¬ lx = 1 := by omega
  have hbm : (b : Int) - (m : Int) = (ly : Int) := by omega
  have hly1 : ((ly : Int) == 1) = false := by simp; omega
  have hly2 : ¬ (ly : Int) = 1 := by omega
  have hly3 : ¬ ly = 1 := by omega
  have hmi : ((a : Int) + (b : Int)) / 2 = (mid : Int) := by omega
  have hni : (mid : Int) + (m : Int) = (nn : Int) := by omega
  have hpi : (nn : Int) - 1 = (pp : Int) := by omega
  have ham : a < m := by omega
  have hmb : m < b := by omega
  have hbN : b ≤ N := by omega
  have hmidb : mid ≤ N := by omega
  have hnnN : nn ≤ N + N := by omega
  have hppN : pp ≤ N + N := by omega
  have hlxN : lx ≤ N := by omega
  have hlyN : ly ≤ N := by omega
  have HCM := Lib.hid HC
  have HF := Lib.hid (And.intro ha (And.intro hm (And.intro hb (And.intro hNl (And.intro hlx (And.intro hly (And.intro hmid (And.intro hnn hpp))))))))
  have H := Lib.hid h
  have HDX := Lib.hid hDX
  have HDY := Lib.hid hDY
  have HSX := Lib.hid hSX
  have HSY := Lib.hid hSY
  have HRK := Lib.hid hrk
  have HIH := Lib.hid IH
  have HD := Lib.hid hd
  have hpc := plus_cell
  clear HC hDX hDY hSX hSY hrk ha hm hb hN hNl h hX1 hY1 hlx hly hmid hnn hpp IH hd
  go_enter Try.func88, Try.ntmps88
  go_upto_region 26 with (fail)
  rename Act → World → Prop => KK
  rename ∀ _ _, _ → KK _ _ => hKK
  have HKK := Lib.hid hKK
  clear hKK
  go_wp2
  refine HKK.out _ _ ?_
  clear HKK
  go_step
  go_cut [20, 21] from 141 to 219 (fun s20 s21 wc => ∃ s0 r0 : Nat, s20 = .int .i64 s0 ∧ s21 = .int .i64 r0 ∧ a ≤ s0 ∧ s0 ≤ r0 ∧ r0 ≤ m ∧ (∀ c, s0 ≤ c → c < r0 → c < m ∧ m + c < nn ∧ nn ≤ b + c) ∧ (s0 = a ∨ s0 + b = nn) ∧ (r0 = m ∨ r0 + m = nn) ∧ (m + r0 ≤ nn ∧ nn ≤ b + s0) ∧ wc = w)
  case first =>
    by_cases hmm : mid < m
    · obtain ⟨s0, hs0⟩ : ∃ s0, s0 + b = nn := ⟨nn - b, by have := HF.out; omega⟩
      have hsi : (nn : Int) - (b : Int) = (s0 : Int) := by omega
      have hs0N : s0 ≤ N := by have := HF.out; omega
      have HS0 := Lib.hid hs0
      clear hs0
      go_wp2
      go_meet
      exact ⟨s0, mid, rfl, rfl, by have := HF.out; have := HS0.out; omega, by have := HF.out; have := HS0.out; omega, by omega, fun c h1 h2 => by have := HF.out; have := HS0.out; omega, .inr HS0.out, .inr (by have := HF.out; omega), by have := HF.out; have := HS0.out; omega, rfl⟩
    · have hmm2 : m ≤ mid := by omega
      go_wp2
      go_meet
      exact ⟨a, m, rfl, rfl, Nat.le_refl _, by omega, Nat.le_refl _, fun c h1 h2 => by have := HF.out; omega, .inl rfl, .inl rfl, by have := HF.out; omega, rfl⟩
  case rest =>
  obtain ⟨s0, r0, rfl, rfl, has, hsr, hrm, hin, hs0, hr0, hbd, rfl⟩ := hcut
  have HIN := Lib.hid hin
  have HE0 := Lib.hid (And.intro hs0 (And.intro hr0 hbd))
  clear hin hs0 hr0 hbd
  go_wp2
  go_loopw [20, 21, 23] (fun vs vr _ wr => ∃ s r : Nat, vs = .int .i64 s ∧ vr = .int .i64 r ∧ s0 ≤ s ∧ s ≤ r ∧ r ≤ r0 ∧ (∀ c, s0 ≤ c → c < s → ∀ i j (hi : i < X.length) (hj : j < Y.length), a + i = c → m + j + c = pp → S.Ord key rank X[i] Y[j]) ∧ (∀ c, r ≤ c → c < r0 → ∀ i j (hi : i < X.length) (hj : j < Y.length), a + i = c → m + j + c = pp → S.Ord key rank Y[j] X[i]) ∧ Ext wc wr) (fun vs vr _ _ => (intOf vr).toNat - (intOf vs).toNat)
  case atStart => exact ⟨s0, r0, rfl, rfl, Nat.le_refl _, hsr, Nat.le_refl _, fun c h1 h2 => by omega, fun c h1 h2 => by omega, Ext.refl _⟩
  case round =>
    rename World => wr
    obtain ⟨s, r, rfl, rfl, hss, hsr2, hrr, hlo, hhi, hEr⟩ := hrel
    have HLO := Lib.hid hlo
    have HHI := Lib.hid hhi
    clear hlo hhi
    by_cases hlt : s < r
    · obtain ⟨t, ht⟩ : ∃ t, (s + r) / 2 = t := ⟨_, rfl⟩
      have htr : s ≤ t ∧ t < r := by omega
      obtain ⟨hin1, hin2, hin3⟩ := HIN.out t (by omega) (by omega)
      obtain ⟨q, hq⟩ : ∃ q, q + t = pp := ⟨pp - t, by have := HF.out; omega⟩
      obtain ⟨i, hi⟩ : ∃ i, a + i = t := ⟨t - a, by omega⟩
      obtain ⟨j, hj⟩ : ∃ j, m + j = q := ⟨q - m, by have := HF.out; omega⟩
      have hiX : i < X.length := by have := HF.out; omega
      have hjY : j < Y.length := by have := HF.out; omega
      have hti : ((s : Int) + (r : Int)) / 2 = (t : Int) := by omega
      have hqi : (pp : Int) - (t : Int) = (q : Int) := by omega
      have htN : t < N := by omega
      have hqN : q < N := by have := HF.out; omega
      have hs6 : s ≤ 1000000 := by omega
      have hr6 : r ≤ 1000000 := by omega
      have hqN' : (q : Int) < (N : Int) := by omega
      have htN' : (t : Int) < (N : Int) := by omega
      have hwq : IntKind.wrap .i64 (q : Int) = q := IntWalk.i64_in _ (by omega)
      have hwt : IntKind.wrap .i64 (t : Int) = t := IntWalk.i64_in _ (by omega)
      have hDx := HDX.out _ (List.getElem_mem hiX)
      have hDy := HDY.out _ (List.getElem_mem hjY)
      have hrx := HRK.out _ (List.getElem_mem hiX) _ (List.getElem_mem hjY)
      have hsX : X = X.take i ++ X[i] :: X.drop (i + 1) := by rw [← List.drop_eq_getElem_cons hiX, List.take_append_drop]
      have hsY : Y = Y.take j ++ Y[j] :: Y.drop (j + 1) := by rw [← List.drop_eq_getElem_cons hjY, List.take_append_drop]
      have hla := S.cross (S.ord_trans key rank) HSX.out HSY.out hiX hjY
      have hha := S.cross (S.ord_trans key rank) HSY.out HSX.out hjY hiX
      obtain ⟨x, hx⟩ : ∃ x, X[i] = x := ⟨_, rfl⟩
      obtain ⟨y, hy⟩ : ∃ y, Y[j] = y := ⟨_, rfl⟩
      rw [hx] at hDx hrx hsX hla hha
      rw [hy] at hDy hrx hsY hla hha
      have hrow := RowB.ext H.out hEr
      have hrow2 : RowB storeC 2 86 wr g ((A ++ X.take i) ++ x :: (X.drop (i + 1) ++ (Y ++ B))) := by
        have e : (A ++ X.take i) ++ x :: (X.drop (i + 1) ++ (Y ++ B)) = A ++ ((X.take i ++ x :: X.drop (i + 1)) ++ (Y ++ B)) := by simp
        rw [e, ← hsX]; exact hrow
      have hrow3 : RowB storeC 2 86 wr g ((A ++ (X ++ Y.take j)) ++ y :: (Y.drop (j + 1) ++ B)) := by
        have e : (A ++ (X ++ Y.take j)) ++ y :: (Y.drop (j + 1) ++ B) = A ++ (X ++ ((Y.take j ++ y :: Y.drop (j + 1)) ++ B)) := by simp
        rw [e, ← hsY]; exact hrow
      have hgl := RowB.lt hrow
      obtain ⟨d1, d2⟩ := atSt hrow2 (p := t) (by simp; have := HF.out; omega)
      obtain ⟨e1, e2⟩ := atSt hrow3 (p := q) (by simp; have := HF.out; omega)
      have hcc := fun w' (hk : K w') => HCM.out w' y x hk hDy hDx
      obtain ⟨c, hc⟩ : ∃ c, key y - key x = c := ⟨_, rfl⟩
      simp only [hc] at hcc
      have HCC := Lib.hid hcc
      have HCD := Lib.hid (show c < 0 ↔ key y < key x by omega)
      have HLA := Lib.hid hla
      have HHA := Lib.hid hha
      have HRY := Lib.hid hrx
      have HIT := Lib.hid (And.intro hq (And.intro hi (And.intro hj htr)))
      clear hcc hc hla hha hrx hsX hsY hrow hrow2 hrow3 hDx hDy hx hy hq hi hj ht hin1 hin2 hin3 hiX hjY
      by_cases hneg : c < 0
      · have HO : Hid (S.Ord key rank y x) := .inl (HCD.out.1 hneg)
        have HNEG := Lib.hid hneg
        have HDC := Lib.hid (And.intro (decide_eq_true hneg) (show True from trivial))
        clear hneg
        go_upto_region 35 with (fail)
        refine wp_region_ext 14 (fun _ _ d _ _ h => by cases d <;> exact h) (by kernel_rfl) (by kernel_rfl) (by kernel_rfl) (by kernel_rfl) ?_
        simp only [List.take_succ_cons, List.take_zero, List.drop_succ_cons, List.drop_zero]
        have hneg := HNEG.out
        obtain ⟨hdc, hdc2⟩ := HDC.out
        repeat (any_goals (first | go_big_quiet_step ((go_at_call 60; exact ext_quiet (HCC.out _ (hK _ _ hKw (Ext.off (hEr.trans (by (with_reducible (repeat (first | exact Ext.refl _ | assumption | apply Ext.alloc | apply Ext.drew | exact ext_plus _ _ | (apply Ext.setCell; rotate_left; (simp <;> omega)) | (apply Ext.trans; rotate_left; exact ext_plus _ _) | (apply Ext.trans; rotate_left; assumption)))))) g))))) | quiet_step ((go_at_call 60; exact ext_quiet (HCC.out _ (hK _ _ hKw (Ext.off (hEr.trans (by (with_reducible (repeat (first | exact Ext.refl _ | assumption | apply Ext.alloc | apply Ext.drew | exact ext_plus _ _ | (apply Ext.setCell; rotate_left; (simp <;> omega)) | (apply Ext.trans; rotate_left; exact ext_plus _ _) | (apply Ext.trans; rotate_left; assumption)))))) g)))))))
        all_goals (refine wpQuiet_nil ?_; intro wq hEq)
        unfold wpList
        clear d1 e1 d2 e2
        go_wp2
        go_roundw
        case rel => exact ⟨s, t, rfl, by go_num, hss, by have := HIT.out; omega, by have := HIT.out; omega, HLO.out, fun c' h1 h2 i' j' hi' hj' e1 e2 => HHA.out HO.out j' i' hj' hi' (by have := HIT.out; omega) (by have := HIT.out; omega), hEr.trans hEq⟩
        case measure => simp [intOf]; have := HIT.out; omega
      · have HO : Hid (S.Ord key rank x y) := (S.ord_lt HRY.out).2 (fun h => hneg (HCD.out.2 h))
        have HNEG := Lib.hid hneg
        have HDC := Lib.hid (And.intro (decide_eq_false hneg) (show True from trivial))
        clear hneg
        go_upto_region 35 with (fail)
        refine wp_region_ext 14 (fun _ _ d _ _ h => by cases d <;> exact h) (by kernel_rfl) (by kernel_rfl) (by kernel_rfl) (by kernel_rfl) ?_
        simp only [List.take_succ_cons, List.take_zero, List.drop_succ_cons, List.drop_zero]
        have hneg := HNEG.out
        obtain ⟨hdc, hdc2⟩ := HDC.out
        repeat (any_goals (first | go_big_quiet_step ((go_at_call 60; exact ext_quiet (HCC.out _ (hK _ _ hKw (Ext.off (hEr.trans (by (with_reducible (repeat (first | exact Ext.refl _ | assumption | apply Ext.alloc | apply Ext.drew | exact ext_plus _ _ | (apply Ext.setCell; rotate_left; (simp <;> omega)) | (apply Ext.trans; rotate_left; exact ext_plus _ _) | (apply Ext.trans; rotate_left; assumption)))))) g))))) | quiet_step ((go_at_call 60; exact ext_quiet (HCC.out _ (hK _ _ hKw (Ext.off (hEr.trans (by (with_reducible (repeat (first | exact Ext.refl _ | assumption | apply Ext.alloc | apply Ext.drew | exact ext_plus _ _ | (apply Ext.setCell; rotate_left; (simp <;> omega)) | (apply Ext.trans; rotate_left; exact ext_plus _ _) | (apply Ext.trans; rotate_left; assumption)))))) g)))))))
        all_goals (refine wpQuiet_nil ?_; intro wq hEq)
        unfold wpList
        clear d1 e1 d2 e2
        have hdc3 : decide (c < 0) = false := decide_eq_false (by omega)
        have hge : 0 ≤ c := by omega
        go_wp2
        go_roundw
        case rel => exact ⟨t + 1, r, by go_num, rfl, by have := HIT.out; omega, by have := HIT.out; omega, hrr, fun c' h1 h2 i' j' hi' hj' e1 e2 => HLA.out HO.out i' j' hi' hj' (by have := HIT.out; omega) (by have := HIT.out; omega), HHI.out, hEr.trans hEq⟩
        case measure => simp [intOf]; have := HIT.out; omega
    · obtain rfl : s = r := by omega
      obtain ⟨e, he⟩ : ∃ e, e + s = nn := ⟨nn - s, by have := HE0.out; omega⟩
      have hei : (nn : Int) - (s : Int) = (e : Int) := by omega
      have hsm : s ≤ m := by omega
      have hme : m ≤ e := by have := HE0.out; omega
      have heb : e ≤ b := by have := HE0.out; omega
      have has2 : a ≤ s := by omega
      have hcutS : S.Cut (S.Ord key rank) (X.take (s - a)) (X.drop (s - a)) (Y.take (e - m)) (Y.drop (e - m)) := by
        have hF := HF.out
        have hE0 := HE0.out
        refine S.cut_of (S.ord_trans key rank) HSX.out HSY.out (by omega) (by omega) (fun i j hi hj e1 e2 => ?_) (fun i j hi hj e1 e2 => ?_)
        · exact HLO.out (s - 1) (by omega) (by omega) i j hi hj (by omega) (by omega)
        · exact HHI.out s (Nat.le_refl _) (by omega) i j hi hj (by omega) (by omega)
      have hX12 := (List.take_append_drop (s - a) X).symm
      have hY12 := (List.take_append_drop (e - m) Y).symm
      have lX1 : (X.take (s - a)).length = s - a := by rw [List.length_take]; have := HF.out; omega
      have lX2 : (X.drop (s - a)).length = m - s := by rw [List.length_drop]; have := HF.out; omega
      have lY1 : (Y.take (e - m)).length = e - m := by rw [List.length_take]; have := HF.out; omega
      have lY2 : (Y.drop (e - m)).length = b - e := by rw [List.length_drop]; have := HF.out; omega
      obtain ⟨X1, hX1⟩ : ∃ X1, X.take (s - a) = X1 := ⟨_, rfl⟩
      obtain ⟨X2, hX2⟩ : ∃ X2, X.drop (s - a) = X2 := ⟨_, rfl⟩
      obtain ⟨Y1, hY1⟩ : ∃ Y1, Y.take (e - m) = Y1 := ⟨_, rfl⟩
      obtain ⟨Y2, hY2⟩ : ∃ Y2, Y.drop (e - m) = Y2 := ⟨_, rfl⟩
      rw [hX1, hX2] at hX12
      rw [hY1, hY2] at hY12
      rw [hX1, hX2, hY1, hY2] at hcutS
      rw [hX1] at lX1
      rw [hX2] at lX2
      rw [hY1] at lY1
      rw [hY2] at lY2
      have HCUT := Lib.hid hcutS
      have hlen : s = a + X1.length ∧ m = a + X1.length + X2.length ∧ e = m + Y1.length ∧ b = m + Y1.length + Y2.length ∧ mid = a + X1.length + Y1.length ∧ a = A.length ∧ N = a + X1.length + X2.length + Y1.length + Y2.length + B.length ∧ mid < b ∧ a < mid := by
        have := HF.out; omega
      have hd := HD.out
      clear HLO HHI HF HE0 HIN hcutS hX1 hX2 hY1 hY2 lX1 lX2 lY1 lY2 hss hrr hsr2 he hsr hrm has
      subst hX12
      subst hY12
      have HN := Lib.hid hlen
      have HD2 := Lib.hid (show X1.length + X2.length + (Y1.length + Y2.length) ≤ d + 1 by simpa using hd)
      have hrow0 : RowB storeC 2 86 wr g ((A ++ X1) ++ (X2 ++ (Y1 ++ (Y2 ++ B)))) := by simpa using RowB.ext H.out hEr
      have HR0 := Lib.hid hrow0
      have hSX1 := (List.pairwise_append.1 HSX.out).1
      have hSX2 := (List.pairwise_append.1 HSX.out).2.1
      have hSY1 := (List.pairwise_append.1 HSY.out).1
      have hSY2 := (List.pairwise_append.1 HSY.out).2.1
      have HSS := Lib.hid (And.intro hSX1 (And.intro hSX2 (And.intro hSY1 hSY2)))
      have hO0 : Off g wc wr := hEr.off g
      have heN : e ≤ N := by omega
      have hsN : s ≤ N := by omega
      clear hlen hd hrow0 hSX1 hSX2 hSY1 hSY2 H
      go_upto_region 38 with (fail)
      rename Act → World → Prop => KK
      rename ∀ _ _, _ → KK _ _ => hKK
      have HKK := Lib.hid hKK
      clear hKK
      go_wp2
      refine HKK.out _ _ ?_
      clear HKK
      go_step
      go_cut [] from 178 to 219 (fun w1 => RowB storeC 2 86 w1 g (A ++ ((X1 ++ Y1) ++ ((X2 ++ Y2) ++ B))) ∧ Off g wc w1)
      case first =>
        by_cases hs1 : s < m
        · by_cases hm1 : m < e
          · go_wp2_with (first | (go_at_call 91; refine (rotateSt (A ++ X1) X2 Y1 (Y2 ++ B) g cap s m e N _ _ (by simp; have := HN.out; omega) (by simp; have := HN.out; omega) (by simp; have := HN.out; omega) (by have := HN.out; omega) (by have := HN.out; omega) (by simp; have := HN.out; omega) (by omega) HR0.out).mono ?_; rintro e' w' ⟨rfl, hr', hO'⟩))
            go_meet
            exact ⟨by simpa using hr', hO0.trans hO'⟩
          · have hY0 : Y1 = [] := List.eq_nil_of_length_eq_zero (by have := HN.out; omega)
            have hr := HR0.out
            rw [hY0] at hr
            have hr' : RowB storeC 2 86 wr g (A ++ ((X1 ++ Y1) ++ ((X2 ++ Y2) ++ B))) := by rw [hY0]; simpa using hr
            have hm2 : ¬ (m : Int) < (e : Int) := by omega
            clear hY0 hr
            go_wp2
            go_meet
            exact ⟨hr', hO0⟩
        · have hX0 : X2 = [] := List.eq_nil_of_length_eq_zero (by have := HN.out; omega)
          have hr := HR0.out
          rw [hX0] at hr
          have hr' : RowB storeC 2 86 wr g (A ++ ((X1 ++ Y1) ++ ((X2 ++ Y2) ++ B))) := by rw [hX0]; simpa using hr
          have hs2 : ¬ (s : Int) < (m : Int) := by omega
          clear hX0 hr
          go_wp2
          go_meet
          exact ⟨hr', hO0⟩
      case rest =>
      obtain ⟨hrow1, hO1⟩ := hcut
      rename World => w1
      have HR1 := Lib.hid hrow1
      clear hrow1 HR0
      rename Act → World → Prop => KK1
      rename ∀ _ _, _ → KK1 _ _ => hKK1
      refine hKK1 _ _ ?_
      clear hKK1
      go_step
      go_cut [] from 192 to 219 (fun w2 => ∃ Z1, Z1.Perm (X1 ++ Y1) ∧ S.Srt (S.Ord key rank) Z1 ∧ RowB storeC 2 86 w2 g (A ++ (Z1 ++ ((X2 ++ Y2) ++ B))) ∧ Off g wc w2)
      case first =>
        by_cases hs1 : a < s
        · by_cases hm1 : s < mid
          · go_wp2_with (first | (go_at_call 88; refine (HIH.out A X1 Y1 ((X2 ++ Y2) ++ B) a s mid _ (by have := HN.out; have := HD2.out; omega) (hK _ _ hKw hO1) (fun x hx => HDX.out x (by simp [hx])) (fun x hx => HDY.out x (by simp [hx])) HSS.out.1 HSS.out.2.2.1 (fun x hx y hy => HRK.out x (by simp [hx]) y (by simp [hy])) (by have := HN.out; omega) (by have := HN.out; omega) (by have := HN.out; omega) (by have := HN.out; omega) (by have := HN.out; omega) (by simp; have := HN.out; omega) (by simpa using HR1.out)).mono ?_; rintro e' w' ⟨rfl, Z1, hp1, hs3, hr', hO'⟩))
            go_meet
            exact ⟨Z1, hp1, hs3, hr', hO1.trans hO'⟩
          · have hY0 : Y1 = [] := List.eq_nil_of_length_eq_zero (by have := HN.out; omega)
            have hm2 : ¬ (s : Int) < (mid : Int) := by omega
            have hsr : S.Srt (S.Ord key rank) (X1 ++ Y1) := by rw [hY0, List.append_nil]; exact HSS.out.1
            clear hY0
            go_wp2
            go_meet
            exact ⟨X1 ++ Y1, List.Perm.refl _, hsr, HR1.out, hO1⟩
        · have hX0 : X1 = [] := List.eq_nil_of_length_eq_zero (by have := HN.out; omega)
          have hs2 : ¬ (a : Int) < (s : Int) := by omega
          have hsr : S.Srt (S.Ord key rank) (X1 ++ Y1) := by rw [hX0, List.nil_append]; exact HSS.out.2.2.1
          clear hX0
          go_wp2
          go_meet
          exact ⟨X1 ++ Y1, List.Perm.refl _, hsr, HR1.out, hO1⟩
      case rest =>
      obtain ⟨Z1, hp1, hs1, hrow2, hO2⟩ := hcut
      rename World => w2
      have HR2 := Lib.hid hrow2
      have hZl := hp1.length_eq
      have HZL := Lib.hid hZl
      have HP1 := Lib.hid (And.intro hp1 hs1)
      clear hrow2 HR1 hp1 hs1 hZl
      have hfin : ∀ (Z2 : List (Int × Int)) (w' : World), Z2.Perm (X2 ++ Y2) → S.Srt (S.Ord key rank) Z2 → RowB storeC 2 86 w' g ((A ++ Z1) ++ (Z2 ++ B)) → Off g wc w' → ∃ Z, Z.Perm (X1 ++ (X2 ++ (Y1 ++ Y2))) ∧ S.Srt (S.Ord key rank) Z ∧ RowB storeC 2 86 w' g (A ++ (Z ++ B)) ∧ Off g wc w' := fun Z2 w' h1 h2 h3 h4 => by
        obtain ⟨m1, m2⟩ := S.merged HSX.out HSY.out HCUT.out HP1.out.1 h1 HP1.out.2 h2
        exact ⟨Z1 ++ Z2, by simpa using m2, m1, by simpa using h3, h4⟩
      have HFIN := Lib.hid hfin
      clear hfin
      by_cases hs1 : mid < e
      · by_cases hm1 : e < b
        · go_wp2_with (first | (go_at_call 88; refine (HIH.out (A ++ Z1) X2 Y2 B mid e b _ (by have := HN.out; have := HD2.out; omega) (hK _ _ hKw hO2) (fun x hx => HDX.out x (by simp [hx])) (fun x hx => HDY.out x (by simp [hx])) HSS.out.2.1 HSS.out.2.2.2 (fun x hx y hy => HRK.out x (by simp [hx]) y (by simp [hy])) (by have := HN.out; omega) (by have := HN.out; omega) (by simp; have h1 := HZL.out; have := HN.out; simp at h1; omega) (by simp; have h1 := HZL.out; have := HN.out; simp at h1; omega) (by simp; have h1 := HZL.out; have := HN.out; simp at h1; omega) (by simp; have h1 := HZL.out; have := HN.out; simp at h1; omega) (by simpa using HR2.out)).mono ?_; rintro e' w' ⟨rfl, Z2, hp2, hs3, hr', hO'⟩))
          go_end0
          have hf := HFIN.out Z2 _ hp2 hs3 hr' (hO2.trans hO')
          exact ⟨rfl, by first | exact hf | simpa using hf⟩
        · have hY0 : Y2 = [] := List.eq_nil_of_length_eq_zero (by have := HN.out; omega)
          have hm2 : ¬ (e : Int) < (b : Int) := by omega
          have hsr : S.Srt (S.Ord key rank) (X2 ++ Y2) := by rw [hY0, List.append_nil]; exact HSS.out.2.1
          clear hY0
          go_wp2
          go_end0
          exact ⟨rfl, HFIN.out _ _ (List.Perm.refl _) hsr (by simpa using HR2.out) hO2⟩
      · have hX0 : X2 = [] := List.eq_nil_of_length_eq_zero (by have := HN.out; omega)
        have hs2 : ¬ (mid : Int) < (e : Int) := by omega
        have hsr : S.Srt (S.Ord key rank) (X2 ++ Y2) := by rw [hX0, List.nil_append]; exact HSS.out.2.2.2
        clear hX0
        go_wp2
        go_end0
        exact ⟨rfl, HFIN.out _ _ (List.Perm.refl _) hsr (by simpa using HR2.out) hO2⟩

set_option maxRecDepth 100000 in
set_option maxHeartbeats 16000000 in
theorem symGenIn (g : Nat) (key : Int → Int) (rank : Int → Nat) (D : Int → Prop) (K : World → Prop) (hK : ∀ w w', K w → Off g w w' → K w') (hD : ∀ x, D x → -1000000000 ≤ key x ∧ key x ≤ 1000000000)
    (HC : ∀ w' x y, K w' → D x → D y → Calls Try.prog 65 #[.int .i64 x, .int .i64 y] w' fun e w2 => e = .returned (.int .i64 (key x - key y)) ∧ Ext w' w2)
    (A X Y B : List (Int)) (cap a m b N : Nat) (w : World) (hKw : K w) (hDX : ∀ x ∈ X, D x) (hDY : ∀ y ∈ Y, D y) (hSX : S.Srt (S.Ord key rank) X) (hSY : S.Srt (S.Ord key rank) Y) (hrk : ∀ x ∈ X, ∀ y ∈ Y, rank x < rank y)
    (ha : a = A.length) (hm : m = A.length + X.length) (hb : b = A.length + X.length + Y.length) (hX1 : 1 < X.length) (hY1 : 1 < Y.length) (d : Nat) (hd : X.length + Y.length ≤ d + 1) (IH : ∀ (A X Y B : List (Int)) (a m b : Nat) (w : World), X.length + Y.length ≤ d → K w → (∀ x ∈ X, D x) → (∀ y ∈ Y, D y) → S.Srt (S.Ord key rank) X → S.Srt (S.Ord key rank) Y → (∀ x ∈ X, ∀ y ∈ Y, rank x < rank y) → 0 < X.length → 0 < Y.length →
      a = A.length → m = A.length + X.length → b = A.length + X.length + Y.length → N = (A ++ (X ++ (Y ++ B))).length → RowB intC 1 3 w g (A ++ (X ++ (Y ++ B))) →
      Calls Try.prog 90 #[.slice (some ⟨g, 0, none⟩) N cap, .int .i64 a, .int .i64 m, .int .i64 b, .func (.func 65) #[] #[]] w fun e w' => e = .returned (.tuple #[]) ∧ ∃ Z, Z.Perm (X ++ Y) ∧ S.Srt (S.Ord key rank) Z ∧ RowB intC 1 3 w' g (A ++ (Z ++ B)) ∧ Off g w w')
    (hN : N = (A ++ (X ++ (Y ++ B))).length) (hsz : N ≤ 1000000) (h : RowB intC 1 3 w g (A ++ (X ++ (Y ++ B)))) :
    Calls Try.prog 90 #[.slice (some ⟨g, 0, none⟩) N cap, .int .i64 a, .int .i64 m, .int .i64 b, .func (.func 65) #[] #[]] w fun e w' => e = .returned (.tuple #[]) ∧ ∃ Z, Z.Perm (X ++ Y) ∧ S.Srt (S.Ord key rank) Z ∧ RowB intC 1 3 w' g (A ++ (Z ++ B)) ∧ Off g w w' := by
  have hNl : N = A.length + X.length + Y.length + B.length := by rw [hN]; simp; omega
  obtain ⟨lx, hlx⟩ : ∃ lx, X.length = lx := ⟨_, rfl⟩
  obtain ⟨ly, hly⟩ : ∃ ly, Y.length = ly := ⟨_, rfl⟩
  obtain ⟨mid, hmid⟩ : ∃ mid, (a + b) / 2 = mid := ⟨_, rfl⟩
  obtain ⟨nn, hnn⟩ : ∃ nn, mid + m = nn := ⟨_, rfl⟩
  obtain ⟨pp, hpp⟩ : ∃ pp, nn = pp + 1 := ⟨nn - 1, by omega⟩
  have hma : (m : Int) - (a : Int) = (lx : Int) := by omega
  have hlx1 : ((lx : Int) == 1) = false := by simp; omega
  have hlx2 : ¬ (lx : Int) = 1 := by omega
  have hlx3 : ¬ lx = 1 := by omega
  have hbm : (b : Int) - (m : Int) = (ly : Int) := by omega
  have hly1 : ((ly : Int) == 1) = false := by simp; omega
  have hly2 : ¬ (ly : Int) = 1 := by omega
  have hly3 : ¬ ly = 1 := by omega
  have hmi : ((a : Int) + (b : Int)) / 2 = (mid : Int) := by omega
  have hni : (mid : Int) + (m : Int) = (nn : Int) := by omega
  have hpi : (nn : Int) - 1 = (pp : Int) := by omega
  have ham : a < m := by omega
  have hmb : m < b := by omega
  have hbN : b ≤ N := by omega
  have hmidb : mid ≤ N := by omega
  have hnnN : nn ≤ N + N := by omega
  have hppN : pp ≤ N + N := by omega
  have hlxN : lx ≤ N := by omega
  have hlyN : ly ≤ N := by omega
  have HCM := Lib.hid HC
  have HF := Lib.hid (And.intro ha (And.intro hm (And.intro hb (And.intro hNl (And.intro hlx (And.intro hly (And.intro hmid (And.intro hnn hpp))))))))
  have H := Lib.hid h
  have HDX := Lib.hid hDX
  have HDY := Lib.hid hDY
  have HSX := Lib.hid hSX
  have HSY := Lib.hid hSY
  have HRK := Lib.hid hrk
  have HIH := Lib.hid IH
  have HD := Lib.hid hd
  have hpc := plus_cell
  clear HC hDX hDY hSX hSY hrk ha hm hb hN hNl h hX1 hY1 hlx hly hmid hnn hpp IH hd
  go_enter Try.func90, Try.ntmps90
  go_upto_region 26 with (fail)
  rename Act → World → Prop => KK
  rename ∀ _ _, _ → KK _ _ => hKK
  have HKK := Lib.hid hKK
  clear hKK
  go_wp2
  refine HKK.out _ _ ?_
  clear HKK
  go_step
  go_cut [20, 21] from 141 to 219 (fun s20 s21 wc => ∃ s0 r0 : Nat, s20 = .int .i64 s0 ∧ s21 = .int .i64 r0 ∧ a ≤ s0 ∧ s0 ≤ r0 ∧ r0 ≤ m ∧ (∀ c, s0 ≤ c → c < r0 → c < m ∧ m + c < nn ∧ nn ≤ b + c) ∧ (s0 = a ∨ s0 + b = nn) ∧ (r0 = m ∨ r0 + m = nn) ∧ (m + r0 ≤ nn ∧ nn ≤ b + s0) ∧ wc = w)
  case first =>
    by_cases hmm : mid < m
    · obtain ⟨s0, hs0⟩ : ∃ s0, s0 + b = nn := ⟨nn - b, by have := HF.out; omega⟩
      have hsi : (nn : Int) - (b : Int) = (s0 : Int) := by omega
      have hs0N : s0 ≤ N := by have := HF.out; omega
      have HS0 := Lib.hid hs0
      clear hs0
      go_wp2
      go_meet
      exact ⟨s0, mid, rfl, rfl, by have := HF.out; have := HS0.out; omega, by have := HF.out; have := HS0.out; omega, by omega, fun c h1 h2 => by have := HF.out; have := HS0.out; omega, .inr HS0.out, .inr (by have := HF.out; omega), by have := HF.out; have := HS0.out; omega, rfl⟩
    · have hmm2 : m ≤ mid := by omega
      go_wp2
      go_meet
      exact ⟨a, m, rfl, rfl, Nat.le_refl _, by omega, Nat.le_refl _, fun c h1 h2 => by have := HF.out; omega, .inl rfl, .inl rfl, by have := HF.out; omega, rfl⟩
  case rest =>
  obtain ⟨s0, r0, rfl, rfl, has, hsr, hrm, hin, hs0, hr0, hbd, rfl⟩ := hcut
  have HIN := Lib.hid hin
  have HE0 := Lib.hid (And.intro hs0 (And.intro hr0 hbd))
  clear hin hs0 hr0 hbd
  go_wp2
  go_loopw [20, 21, 23] (fun vs vr _ wr => ∃ s r : Nat, vs = .int .i64 s ∧ vr = .int .i64 r ∧ s0 ≤ s ∧ s ≤ r ∧ r ≤ r0 ∧ (∀ c, s0 ≤ c → c < s → ∀ i j (hi : i < X.length) (hj : j < Y.length), a + i = c → m + j + c = pp → S.Ord key rank X[i] Y[j]) ∧ (∀ c, r ≤ c → c < r0 → ∀ i j (hi : i < X.length) (hj : j < Y.length), a + i = c → m + j + c = pp → S.Ord key rank Y[j] X[i]) ∧ Ext wc wr) (fun vs vr _ _ => (intOf vr).toNat - (intOf vs).toNat)
  case atStart => exact ⟨s0, r0, rfl, rfl, Nat.le_refl _, hsr, Nat.le_refl _, fun c h1 h2 => by omega, fun c h1 h2 => by omega, Ext.refl _⟩
  case round =>
    rename World => wr
    obtain ⟨s, r, rfl, rfl, hss, hsr2, hrr, hlo, hhi, hEr⟩ := hrel
    have HLO := Lib.hid hlo
    have HHI := Lib.hid hhi
    clear hlo hhi
    by_cases hlt : s < r
    · obtain ⟨t, ht⟩ : ∃ t, (s + r) / 2 = t := ⟨_, rfl⟩
      have htr : s ≤ t ∧ t < r := by omega
      obtain ⟨hin1, hin2, hin3⟩ := HIN.out t (by omega) (by omega)
      obtain ⟨q, hq⟩ : ∃ q, q + t = pp := ⟨pp - t, by have := HF.out; omega⟩
      obtain ⟨i, hi⟩ : ∃ i, a + i = t := ⟨t - a, by omega⟩
      obtain ⟨j, hj⟩ : ∃ j, m + j = q := ⟨q - m, by have := HF.out; omega⟩
      have hiX : i < X.length := by have := HF.out; omega
      have hjY : j < Y.length := by have := HF.out; omega
      have hti : ((s : Int) + (r : Int)) / 2 = (t : Int) := by omega
      have hqi : (pp : Int) - (t : Int) = (q : Int) := by omega
      have htN : t < N := by omega
      have hqN : q < N := by have := HF.out; omega
      have hs6 : s ≤ 1000000 := by omega
      have hr6 : r ≤ 1000000 := by omega
      have hqN' : (q : Int) < (N : Int) := by omega
      have htN' : (t : Int) < (N : Int) := by omega
      have hwq : IntKind.wrap .i64 (q : Int) = q := IntWalk.i64_in _ (by omega)
      have hwt : IntKind.wrap .i64 (t : Int) = t := IntWalk.i64_in _ (by omega)
      have hDx := HDX.out _ (List.getElem_mem hiX)
      have hDy := HDY.out _ (List.getElem_mem hjY)
      have hrx := HRK.out _ (List.getElem_mem hiX) _ (List.getElem_mem hjY)
      have hsX : X = X.take i ++ X[i] :: X.drop (i + 1) := by rw [← List.drop_eq_getElem_cons hiX, List.take_append_drop]
      have hsY : Y = Y.take j ++ Y[j] :: Y.drop (j + 1) := by rw [← List.drop_eq_getElem_cons hjY, List.take_append_drop]
      have hla := S.cross (S.ord_trans key rank) HSX.out HSY.out hiX hjY
      have hha := S.cross (S.ord_trans key rank) HSY.out HSX.out hjY hiX
      obtain ⟨x, hx⟩ : ∃ x, X[i] = x := ⟨_, rfl⟩
      obtain ⟨y, hy⟩ : ∃ y, Y[j] = y := ⟨_, rfl⟩
      rw [hx] at hDx hrx hsX hla hha
      rw [hy] at hDy hrx hsY hla hha
      have hrow := RowB.ext H.out hEr
      have hrow2 : RowB intC 1 3 wr g ((A ++ X.take i) ++ x :: (X.drop (i + 1) ++ (Y ++ B))) := by
        have e : (A ++ X.take i) ++ x :: (X.drop (i + 1) ++ (Y ++ B)) = A ++ ((X.take i ++ x :: X.drop (i + 1)) ++ (Y ++ B)) := by simp
        rw [e, ← hsX]; exact hrow
      have hrow3 : RowB intC 1 3 wr g ((A ++ (X ++ Y.take j)) ++ y :: (Y.drop (j + 1) ++ B)) := by
        have e : (A ++ (X ++ Y.take j)) ++ y :: (Y.drop (j + 1) ++ B) = A ++ (X ++ ((Y.take j ++ y :: Y.drop (j + 1)) ++ B)) := by simp
        rw [e, ← hsY]; exact hrow
      have hgl := RowB.lt hrow
      have d1 := atIn hrow2 (p := t) (by simp; have := HF.out; omega)
      have e1 := atIn hrow3 (p := q) (by simp; have := HF.out; omega)
      have hcc := fun w' (hk : K w') => HCM.out w' y x hk hDy hDx
      obtain ⟨c, hc⟩ : ∃ c, key y - key x = c := ⟨_, rfl⟩
      simp only [hc] at hcc
      have HCC := Lib.hid hcc
      have HCD := Lib.hid (show c < 0 ↔ key y < key x by omega)
      have HLA := Lib.hid hla
      have HHA := Lib.hid hha
      have HRY := Lib.hid hrx
      have HIT := Lib.hid (And.intro hq (And.intro hi (And.intro hj htr)))
      clear hcc hc hla hha hrx hsX hsY hrow hrow2 hrow3 hDx hDy hx hy hq hi hj ht hin1 hin2 hin3 hiX hjY
      by_cases hneg : c < 0
      · have HO : Hid (S.Ord key rank y x) := .inl (HCD.out.1 hneg)
        have HNEG := Lib.hid hneg
        have HDC := Lib.hid (And.intro (decide_eq_true hneg) (show True from trivial))
        clear hneg
        go_upto_region 35 with (fail)
        refine wp_region_ext 14 (fun _ _ d _ _ h => by cases d <;> exact h) (by kernel_rfl) (by kernel_rfl) (by kernel_rfl) (by kernel_rfl) ?_
        simp only [List.take_succ_cons, List.take_zero, List.drop_succ_cons, List.drop_zero]
        have hneg := HNEG.out
        obtain ⟨hdc, hdc2⟩ := HDC.out
        repeat (any_goals (first | go_big_quiet_step ((go_at_call 65; exact ext_quiet (HCC.out _ (hK _ _ hKw (Ext.off (hEr.trans (by (with_reducible (repeat (first | exact Ext.refl _ | assumption | apply Ext.alloc | apply Ext.drew | exact ext_plus _ _ | (apply Ext.setCell; rotate_left; (simp <;> omega)) | (apply Ext.trans; rotate_left; exact ext_plus _ _) | (apply Ext.trans; rotate_left; assumption)))))) g))))) | quiet_step ((go_at_call 65; exact ext_quiet (HCC.out _ (hK _ _ hKw (Ext.off (hEr.trans (by (with_reducible (repeat (first | exact Ext.refl _ | assumption | apply Ext.alloc | apply Ext.drew | exact ext_plus _ _ | (apply Ext.setCell; rotate_left; (simp <;> omega)) | (apply Ext.trans; rotate_left; exact ext_plus _ _) | (apply Ext.trans; rotate_left; assumption)))))) g)))))))
        all_goals (refine wpQuiet_nil ?_; intro wq hEq)
        unfold wpList
        clear d1 e1 
        go_wp2
        go_roundw
        case rel => exact ⟨s, t, rfl, by go_num, hss, by have := HIT.out; omega, by have := HIT.out; omega, HLO.out, fun c' h1 h2 i' j' hi' hj' e1 e2 => HHA.out HO.out j' i' hj' hi' (by have := HIT.out; omega) (by have := HIT.out; omega), hEr.trans hEq⟩
        case measure => simp [intOf]; have := HIT.out; omega
      · have HO : Hid (S.Ord key rank x y) := (S.ord_lt HRY.out).2 (fun h => hneg (HCD.out.2 h))
        have HNEG := Lib.hid hneg
        have HDC := Lib.hid (And.intro (decide_eq_false hneg) (show True from trivial))
        clear hneg
        go_upto_region 35 with (fail)
        refine wp_region_ext 14 (fun _ _ d _ _ h => by cases d <;> exact h) (by kernel_rfl) (by kernel_rfl) (by kernel_rfl) (by kernel_rfl) ?_
        simp only [List.take_succ_cons, List.take_zero, List.drop_succ_cons, List.drop_zero]
        have hneg := HNEG.out
        obtain ⟨hdc, hdc2⟩ := HDC.out
        repeat (any_goals (first | go_big_quiet_step ((go_at_call 65; exact ext_quiet (HCC.out _ (hK _ _ hKw (Ext.off (hEr.trans (by (with_reducible (repeat (first | exact Ext.refl _ | assumption | apply Ext.alloc | apply Ext.drew | exact ext_plus _ _ | (apply Ext.setCell; rotate_left; (simp <;> omega)) | (apply Ext.trans; rotate_left; exact ext_plus _ _) | (apply Ext.trans; rotate_left; assumption)))))) g))))) | quiet_step ((go_at_call 65; exact ext_quiet (HCC.out _ (hK _ _ hKw (Ext.off (hEr.trans (by (with_reducible (repeat (first | exact Ext.refl _ | assumption | apply Ext.alloc | apply Ext.drew | exact ext_plus _ _ | (apply Ext.setCell; rotate_left; (simp <;> omega)) | (apply Ext.trans; rotate_left; exact ext_plus _ _) | (apply Ext.trans; rotate_left; assumption)))))) g)))))))
        all_goals (refine wpQuiet_nil ?_; intro wq hEq)
        unfold wpList
        clear d1 e1 
        have hdc3 : decide (c < 0) = false := decide_eq_false (by omega)
        have hge : 0 ≤ c := by omega
        go_wp2
        go_roundw
        case rel => exact ⟨t + 1, r, by go_num, rfl, by have := HIT.out; omega, by have := HIT.out; omega, hrr, fun c' h1 h2 i' j' hi' hj' e1 e2 => HLA.out HO.out i' j' hi' hj' (by have := HIT.out; omega) (by have := HIT.out; omega), HHI.out, hEr.trans hEq⟩
        case measure => simp [intOf]; have := HIT.out; omega
    · obtain rfl : s = r := by omega
      obtain ⟨e, he⟩ : ∃ e, e + s = nn := ⟨nn - s, by have := HE0.out; omega⟩
      have hei : (nn : Int) - (s : Int) = (e : Int) := by omega
      have hsm : s ≤ m := by omega
      have hme : m ≤ e := by have := HE0.out; omega
      have heb : e ≤ b := by have := HE0.out; omega
      have has2 : a ≤ s := by omega
      have hcutS : S.Cut (S.Ord key rank) (X.take (s - a)) (X.drop (s - a)) (Y.take (e - m)) (Y.drop (e - m)) := by
        have hF := HF.out
        have hE0 := HE0.out
        refine S.cut_of (S.ord_trans key rank) HSX.out HSY.out (by omega) (by omega) (fun i j hi hj e1 e2 => ?_) (fun i j hi hj e1 e2 => ?_)
        · exact HLO.out (s - 1) (by omega) (by omega) i j hi hj (by omega) (by omega)
        · exact HHI.out s (Nat.le_refl _) (by omega) i j hi hj (by omega) (by omega)
      have hX12 := (List.take_append_drop (s - a) X).symm
      have hY12 := (List.take_append_drop (e - m) Y).symm
      have lX1 : (X.take (s - a)).length = s - a := by rw [List.length_take]; have := HF.out; omega
      have lX2 : (X.drop (s - a)).length = m - s := by rw [List.length_drop]; have := HF.out; omega
      have lY1 : (Y.take (e - m)).length = e - m := by rw [List.length_take]; have := HF.out; omega
      have lY2 : (Y.drop (e - m)).length = b - e := by rw [List.length_drop]; have := HF.out; omega
      obtain ⟨X1, hX1⟩ : ∃ X1, X.take (s - a) = X1 := ⟨_, rfl⟩
      obtain ⟨X2, hX2⟩ : ∃ X2, X.drop (s - a) = X2 := ⟨_, rfl⟩
      obtain ⟨Y1, hY1⟩ : ∃ Y1, Y.take (e - m) = Y1 := ⟨_, rfl⟩
      obtain ⟨Y2, hY2⟩ : ∃ Y2, Y.drop (e - m) = Y2 := ⟨_, rfl⟩
      rw [hX1, hX2] at hX12
      rw [hY1, hY2] at hY12
      rw [hX1, hX2, hY1, hY2] at hcutS
      rw [hX1] at lX1
      rw [hX2] at lX2
      rw [hY1] at lY1
      rw [hY2] at lY2
      have HCUT := Lib.hid hcutS
      have hlen : s = a + X1.length ∧ m = a + X1.length + X2.length ∧ e = m + Y1.length ∧ b = m + Y1.length + Y2.length ∧ mid = a + X1.length + Y1.length ∧ a = A.length ∧ N = a + X1.length + X2.length + Y1.length + Y2.length + B.length ∧ mid < b ∧ a < mid := by
        have := HF.out; omega
      have hd := HD.out
      clear HLO HHI HF HE0 HIN hcutS hX1 hX2 hY1 hY2 lX1 lX2 lY1 lY2 hss hrr hsr2 he hsr hrm has
      subst hX12
      subst hY12
      have HN := Lib.hid hlen
      have HD2 := Lib.hid (show X1.length + X2.length + (Y1.length + Y2.length) ≤ d + 1 by simpa using hd)
      have hrow0 : RowB intC 1 3 wr g ((A ++ X1) ++ (X2 ++ (Y1 ++ (Y2 ++ B)))) := by simpa using RowB.ext H.out hEr
      have HR0 := Lib.hid hrow0
      have hSX1 := (List.pairwise_append.1 HSX.out).1
      have hSX2 := (List.pairwise_append.1 HSX.out).2.1
      have hSY1 := (List.pairwise_append.1 HSY.out).1
      have hSY2 := (List.pairwise_append.1 HSY.out).2.1
      have HSS := Lib.hid (And.intro hSX1 (And.intro hSX2 (And.intro hSY1 hSY2)))
      have hO0 : Off g wc wr := hEr.off g
      have heN : e ≤ N := by omega
      have hsN : s ≤ N := by omega
      clear hlen hd hrow0 hSX1 hSX2 hSY1 hSY2 H
      go_upto_region 38 with (fail)
      rename Act → World → Prop => KK
      rename ∀ _ _, _ → KK _ _ => hKK
      have HKK := Lib.hid hKK
      clear hKK
      go_wp2
      refine HKK.out _ _ ?_
      clear HKK
      go_step
      go_cut [] from 178 to 219 (fun w1 => RowB intC 1 3 w1 g (A ++ ((X1 ++ Y1) ++ ((X2 ++ Y2) ++ B))) ∧ Off g wc w1)
      case first =>
        by_cases hs1 : s < m
        · by_cases hm1 : m < e
          · go_wp2_with (first | (go_at_call 92; refine (rotateIn (A ++ X1) X2 Y1 (Y2 ++ B) g cap s m e N _ _ (by simp; have := HN.out; omega) (by simp; have := HN.out; omega) (by simp; have := HN.out; omega) (by have := HN.out; omega) (by have := HN.out; omega) (by simp; have := HN.out; omega) (by omega) HR0.out).mono ?_; rintro e' w' ⟨rfl, hr', hO'⟩))
            go_meet
            exact ⟨by simpa using hr', hO0.trans hO'⟩
          · have hY0 : Y1 = [] := List.eq_nil_of_length_eq_zero (by have := HN.out; omega)
            have hr := HR0.out
            rw [hY0] at hr
            have hr' : RowB intC 1 3 wr g (A ++ ((X1 ++ Y1) ++ ((X2 ++ Y2) ++ B))) := by rw [hY0]; simpa using hr
            have hm2 : ¬ (m : Int) < (e : Int) := by omega
            clear hY0 hr
            go_wp2
            go_meet
            exact ⟨hr', hO0⟩
        · have hX0 : X2 = [] := List.eq_nil_of_length_eq_zero (by have := HN.out; omega)
          have hr := HR0.out
          rw [hX0] at hr
          have hr' : RowB intC 1 3 wr g (A ++ ((X1 ++ Y1) ++ ((X2 ++ Y2) ++ B))) := by rw [hX0]; simpa using hr
          have hs2 : ¬ (s : Int) < (m : Int) := by omega
          clear hX0 hr
          go_wp2
          go_meet
          exact ⟨hr', hO0⟩
      case rest =>
      obtain ⟨hrow1, hO1⟩ := hcut
      rename World => w1
      have HR1 := Lib.hid hrow1
      clear hrow1 HR0
      rename Act → World → Prop => KK1
      rename ∀ _ _, _ → KK1 _ _ => hKK1
      refine hKK1 _ _ ?_
      clear hKK1
      go_step
      go_cut [] from 192 to 219 (fun w2 => ∃ Z1, Z1.Perm (X1 ++ Y1) ∧ S.Srt (S.Ord key rank) Z1 ∧ RowB intC 1 3 w2 g (A ++ (Z1 ++ ((X2 ++ Y2) ++ B))) ∧ Off g wc w2)
      case first =>
        by_cases hs1 : a < s
        · by_cases hm1 : s < mid
          · go_wp2_with (first | (go_at_call 90; refine (HIH.out A X1 Y1 ((X2 ++ Y2) ++ B) a s mid _ (by have := HN.out; have := HD2.out; omega) (hK _ _ hKw hO1) (fun x hx => HDX.out x (by simp [hx])) (fun x hx => HDY.out x (by simp [hx])) HSS.out.1 HSS.out.2.2.1 (fun x hx y hy => HRK.out x (by simp [hx]) y (by simp [hy])) (by have := HN.out; omega) (by have := HN.out; omega) (by have := HN.out; omega) (by have := HN.out; omega) (by have := HN.out; omega) (by simp; have := HN.out; omega) (by simpa using HR1.out)).mono ?_; rintro e' w' ⟨rfl, Z1, hp1, hs3, hr', hO'⟩))
            go_meet
            exact ⟨Z1, hp1, hs3, hr', hO1.trans hO'⟩
          · have hY0 : Y1 = [] := List.eq_nil_of_length_eq_zero (by have := HN.out; omega)
            have hm2 : ¬ (s : Int) < (mid : Int) := by omega
            have hsr : S.Srt (S.Ord key rank) (X1 ++ Y1) := by rw [hY0, List.append_nil]; exact HSS.out.1
            clear hY0
            go_wp2
            go_meet
            exact ⟨X1 ++ Y1, List.Perm.refl _, hsr, HR1.out, hO1⟩
        · have hX0 : X1 = [] := List.eq_nil_of_length_eq_zero (by have := HN.out; omega)
          have hs2 : ¬ (a : Int) < (s : Int) := by omega
          have hsr : S.Srt (S.Ord key rank) (X1 ++ Y1) := by rw [hX0, List.nil_append]; exact HSS.out.2.2.1
          clear hX0
          go_wp2
          go_meet
          exact ⟨X1 ++ Y1, List.Perm.refl _, hsr, HR1.out, hO1⟩
      case rest =>
      obtain ⟨Z1, hp1, hs1, hrow2, hO2⟩ := hcut
      rename World => w2
      have HR2 := Lib.hid hrow2
      have hZl := hp1.length_eq
      have HZL := Lib.hid hZl
      have HP1 := Lib.hid (And.intro hp1 hs1)
      clear hrow2 HR1 hp1 hs1 hZl
      have hfin : ∀ (Z2 : List (Int)) (w' : World), Z2.Perm (X2 ++ Y2) → S.Srt (S.Ord key rank) Z2 → RowB intC 1 3 w' g ((A ++ Z1) ++ (Z2 ++ B)) → Off g wc w' → ∃ Z, Z.Perm (X1 ++ (X2 ++ (Y1 ++ Y2))) ∧ S.Srt (S.Ord key rank) Z ∧ RowB intC 1 3 w' g (A ++ (Z ++ B)) ∧ Off g wc w' := fun Z2 w' h1 h2 h3 h4 => by
        obtain ⟨m1, m2⟩ := S.merged HSX.out HSY.out HCUT.out HP1.out.1 h1 HP1.out.2 h2
        exact ⟨Z1 ++ Z2, by simpa using m2, m1, by simpa using h3, h4⟩
      have HFIN := Lib.hid hfin
      clear hfin
      by_cases hs1 : mid < e
      · by_cases hm1 : e < b
        · go_wp2_with (first | (go_at_call 90; refine (HIH.out (A ++ Z1) X2 Y2 B mid e b _ (by have := HN.out; have := HD2.out; omega) (hK _ _ hKw hO2) (fun x hx => HDX.out x (by simp [hx])) (fun x hx => HDY.out x (by simp [hx])) HSS.out.2.1 HSS.out.2.2.2 (fun x hx y hy => HRK.out x (by simp [hx]) y (by simp [hy])) (by have := HN.out; omega) (by have := HN.out; omega) (by simp; have h1 := HZL.out; have := HN.out; simp at h1; omega) (by simp; have h1 := HZL.out; have := HN.out; simp at h1; omega) (by simp; have h1 := HZL.out; have := HN.out; simp at h1; omega) (by simp; have h1 := HZL.out; have := HN.out; simp at h1; omega) (by simpa using HR2.out)).mono ?_; rintro e' w' ⟨rfl, Z2, hp2, hs3, hr', hO'⟩))
          go_end0
          have hf := HFIN.out Z2 _ hp2 hs3 hr' (hO2.trans hO')
          exact ⟨rfl, by first | exact hf | simpa using hf⟩
        · have hY0 : Y2 = [] := List.eq_nil_of_length_eq_zero (by have := HN.out; omega)
          have hm2 : ¬ (e : Int) < (b : Int) := by omega
          have hsr : S.Srt (S.Ord key rank) (X2 ++ Y2) := by rw [hY0, List.append_nil]; exact HSS.out.2.1
          clear hY0
          go_wp2
          go_end0
          exact ⟨rfl, HFIN.out _ _ (List.Perm.refl _) hsr (by simpa using HR2.out) hO2⟩
      · have hX0 : X2 = [] := List.eq_nil_of_length_eq_zero (by have := HN.out; omega)
        have hs2 : ¬ (mid : Int) < (e : Int) := by omega
        have hsr : S.Srt (S.Ord key rank) (X2 ++ Y2) := by rw [hX0, List.nil_append]; exact HSS.out.2.2.2
        clear hX0
        go_wp2
        go_end0
        exact ⟨rfl, HFIN.out _ _ (List.Perm.refl _) hsr (by simpa using HR2.out) hO2⟩

end Go.Proofs.Ytkjoojmlcjmlgaa
