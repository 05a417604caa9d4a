/- The insertion sort of a range. -/
import Derived.Test.YtkjoojmlcjmlgaaS2
namespace Go.Proofs.Ytkjoojmlcjmlgaa
set_option linter.unusedVariables false
set_option linter.unusedSimpArgs false
open Go.RowKit
set_option maxRecDepth 100000 in
set_option maxHeartbeats 8000000 in
theorem insSortSt (g : Nat) (bc : Nat) (key : Int × Int → Int) (rank : Int × Int → Nat) (D : Int × Int → Prop) (K : World → Prop) (hK : ∀ w w', K w → Off g w w' → K w') (hD : ∀ x, D x → -1000000000 ≤ key x ∧ key x ≤ 1000000000)
    (HC : ∀ w' x y, K w' → D x → D y → Calls Try.prog 60 #[.agg #[.int .i64 x.1, .int .i64 x.2], .agg #[.int .i64 y.1, .int .i64 y.2], .pointer (some ⟨bc, 0, none⟩)] w' fun e w2 => e = .returned (.int .i64 (key x - key y)) ∧ Ext w' w2)
    (A X B : List (Int × Int)) (cap a b N : Nat) (w : World) (hKw : K w) (hDX : ∀ x ∈ X, D x) (hX : X.Pairwise fun x y => rank x < rank y) (ha : a = A.length) (hb : b = A.length + X.length)
    (hN : N = (A ++ (X ++ B)).length) (hsz : N ≤ 1000000) (h : RowB storeC 2 86 w g (A ++ (X ++ B))) :
    Calls Try.prog 87 #[.slice (some ⟨g, 0, none⟩) N cap, .int .i64 a, .int .i64 b, .func (.func 60) #[] #[.pointer (some ⟨bc, 0, none⟩)]] w fun e w' => e = .returned (.tuple #[]) ∧ ∃ Z, Z.Perm X ∧ S.Srt (S.Ord key rank) Z ∧ RowB storeC 2 86 w' g (A ++ (Z ++ B)) ∧ Off g w w' := by
  have hNl : N = A.length + X.length + B.length := by rw [hN]; simp; omega
  have hbN : b ≤ N := by omega
  have hab : a ≤ b := by omega
  have HCM := Lib.hid HC
  have HMX := Lib.hid hDX
  have HRX := Lib.hid hX
  have HF := Lib.hid (And.intro ha (And.intro hb hNl))
  have H := Lib.hid h
  have hpc := plus_cell
  clear HC hD hDX hX ha hb hN hNl h
  go_enter Try.func87, Try.ntmps87
  go_wp2
  go_loopw [8, 9] (fun vi _ wr => ∃ (k : Nat) (V : List (Int × Int)) (i : Nat), 1 ≤ k ∧ k ≤ X.length + 1 ∧ vi = .int .i64 i ∧ i = a + k ∧ V.Perm (X.take k) ∧ S.Srt (S.Ord key rank) V ∧ RowB storeC 2 86 wr g (A ++ (V ++ (X.drop k ++ B))) ∧ Off g w wr) (fun vi _ _ => b + 1 - (intOf vi).toNat)
  case atStart =>
    refine ⟨1, X.take 1, a + 1, Nat.le_refl _, by omega, by go_num, rfl, List.Perm.refl _, ?_, ?_, Off.refl _ _⟩
    · cases X <;> simp
    · have hh := H.out
      rw [← List.take_append_drop 1 X] at hh
      simpa using hh
  case round =>
    rename World => wr
    obtain ⟨k, V, i, hk1, hk, rfl, hik, hpm, hsr, hrow, hO⟩ := hrel
    obtain ⟨ha, hb, hNl⟩ := HF.out
    by_cases hlt : k < X.length
    · have hib : i < b := by omega
      have hDR := List.drop_eq_getElem_cons hlt
      have hTK := List.take_succ_eq_append_getElem hlt
      have hDy := HMX.out _ (List.getElem_mem hlt)
      have hzl : V.length = k := by rw [hpm.length_eq]; simp; omega
      have hrk : ∀ x ∈ V, rank x < rank X[k] := fun x hx => by
        have h1 : X.Pairwise (fun x y => rank x < rank y) := HRX.out
        have h2 : (X.take k ++ X.drop k).Pairwise (fun x y => rank x < rank y) := by rw [List.take_append_drop]; exact h1
        exact (List.pairwise_append.1 h2).2.2 x (hpm.subset hx) _ (by rw [hDR]; exact List.mem_cons_self)
      have hDZ : ∀ x ∈ V, D x := fun x hx => HMX.out x (List.mem_of_mem_take (hpm.subset hx))
      obtain ⟨y, hy0⟩ : ∃ y, X[k] = y := ⟨_, rfl⟩
      rw [hy0] at hDR hTK hDy
      simp only [hy0] at hrk
      rw [hDR] at hrow
      obtain ⟨R, hR⟩ : ∃ R, X.drop (k + 1) ++ B = R := ⟨_, rfl⟩
      have hrow' : RowB storeC 2 86 wr g (A ++ (V ++ y :: ([] ++ R))) := by rw [← hR]; simpa using hrow
      have HRR := Lib.hid hR
      have HTK := Lib.hid hTK
      have HPM := Lib.hid hpm
      have HSR := Lib.hid hsr
      have HRK := Lib.hid hrk
      have HDZ := Lib.hid hDZ
      have HA := Lib.hid ha
      have HDY := Lib.hid hDy
      have HZL := Lib.hid hzl
      have hlR : A.length + k + 1 + R.length = N := by rw [← hR]; simp; omega
      have HLR := Lib.hid hlR
      have HIK := Lib.hid hik
      have hiN : i ≤ N := by omega
      have hib' : (i : Int) < (b : Int) := by omega
      clear hik hDR hTK hpm hsr hrk hDZ hy0 hR hrow ha hb hNl hDy hlR
      go_wp2
      go_loopw [9] (fun vj wx => ∃ (Z1 Z2 : List (Int × Int)) (q : Nat), Z1 ++ Z2 = V ∧ q = a + Z1.length ∧ vj = .int .i64 q ∧ RowB storeC 2 86 wx g (A ++ (Z1 ++ y :: (Z2 ++ R))) ∧ (∀ u ∈ Z2, S.Ord key rank y u) ∧ Off g w wx) (fun vj _ => (intOf vj).toNat)
      case atStart => exact ⟨V, [], i, by simp, by have := HIK.out; have := HZL.out; omega, rfl, hrow', by simp, hO⟩
      case round =>
        rename World => wx
        clear hO hrow'
        obtain ⟨Z1, Z2, q, hz, hq, rfl, hrow, hB2, hO⟩ := hrel
        have HZ := Lib.hid hz
        have HB2 := Lib.hid hB2
        have hql : Z1.length ≤ k := by have h1 := congrArg List.length hz; rw [List.length_append, HZL.out] at h1; omega
        have hlk : q ≤ i := by have := HIK.out; omega
        have HROW := Lib.hid hrow
        rcases List.eq_nil_or_concat Z1 with e | ⟨Z0, x, e⟩
        · subst e
          have hqa : (q : Int) = a := by simp at hq; omega
          have hqn : ¬ (a : Int) < (q : Int) := by omega
          have HQA := Lib.hid hqa
          have hqn2 : ¬ a < q := by omega
          have HQN := Lib.hid (And.intro hqn hqn2)
          clear hqn2 hz hB2 hrow hq hqa hqn hql HA HZL HLR
          go_wp2
          refine wp_region_ext 17 (fun _ _ d _ _ h => by cases d <;> exact h) (by kernel_rfl) (by kernel_rfl) (by kernel_rfl) (by kernel_rfl) ?_
          simp only [List.take_succ_cons, List.take_zero, List.drop_succ_cons, List.drop_zero]
          obtain ⟨hqn, hqn2⟩ := HQN.out
          repeat (any_goals (first | go_big_quiet_step (fail) | quiet_step (fail)))
          all_goals (refine wpQuiet_nil ?_; intro wq hEq)
          unfold wpList
          go_wp2
          go_roundw
          case rel =>
            have hz := HZ.out
            refine ⟨k + 1, [] ++ y :: Z2, i + 1, by omega, by omega, by go_num, by have := HIK.out; omega, ?_, S.srt_insert (by rw [hz]; exact HSR.out) (by simp) HB2.out, ?_, hO.ext hEq⟩
            · rw [HTK.out]
              refine List.perm_middle.trans ?_
              rw [hz]
              exact ((HPM.out.cons y).trans (List.perm_append_singleton y _).symm)
            · have hr := RowB.ext HROW.out hEq
              rw [HRR.out]
              simpa using hr
          case measure => simp [intOf]; omega
        · rw [List.concat_eq_append] at e
          subst e
          have hxZ : x ∈ V := by rw [← hz]; simp
          have hDx := HDZ.out x hxZ
          have hrx := HRK.out x hxZ
          have hcc := fun w' (hk : K w') => HCM.out w' y x hk HDY.out hDx
          obtain ⟨c, hc⟩ : ∃ c, key y - key x = c := ⟨_, rfl⟩
          simp only [hc] at hcc
          have HCC := Lib.hid hcc
          obtain ⟨P, hP⟩ : ∃ P, A ++ Z0 = P := ⟨_, rfl⟩
          obtain ⟨p, hp⟩ : ∃ p, a + Z0.length = p := ⟨_, rfl⟩
          have hPl : p = P.length := by rw [← hP, ← hp, HA.out]; simp
          have hqp : q = p + 1 := by rw [hq, ← hp]; simp; omega
          obtain ⟨Q, hQ⟩ : ∃ Q : List (Int × Int), [] = Q := ⟨_, rfl⟩
          obtain ⟨Z, hZ⟩ : ∃ Z, Z2 ++ R = Z := ⟨_, rfl⟩
          have hrw : A ++ ((Z0 ++ [x]) ++ y :: (Z2 ++ R)) = P ++ x :: (Q ++ y :: Z) := by rw [← hP, ← hQ, ← hZ]; simp
          rw [hrw] at hrow
          have hQl : Q.length = 0 := by rw [← hQ]; rfl
          have HQQ := Lib.hid hQ
          have HZZ := Lib.hid hZ
          have hNq : q < N := by have h1 := HLR.out; have h2 := HA.out; have h3 := hlt; omega
          have HPQ := Lib.hid (And.intro hPl (And.intro (show q = (P ++ x :: Q).length by simp; omega) (show q = P.length + 1 + Q.length by omega)))
          have hpi : (q : Int) - 1 = (p : Int) := by omega
          have hpN : p < N := by omega
          have hwp : IntKind.wrap .i64 (p : Int) = p := IntWalk.i64_in _ (by omega)
          have hwq : IntKind.wrap .i64 (q : Int) = q := IntWalk.i64_in _ (by omega)
          have hpN' : (p : Int) < (N : Int) := by omega
          have hqN' : (q : Int) < (N : Int) := by omega
          have hqa : (a : Int) < (q : Int) := by omega
          have hqa2 : a < q := by omega
          have HQA := Lib.hid (And.intro hqa hqa2)
          have HP0 := Lib.hid hp
          have HPP := Lib.hid hP
          have hcd : c < 0 ↔ key y < key x := by omega
          have HCD := Lib.hid hcd
          have HRX2 := Lib.hid hrx
          have HQ1 := Lib.hid hqp
          have hgl := RowB.lt hrow
          obtain ⟨d1, d2⟩ := atSt hrow HPQ.out.1
          obtain ⟨e1, e2⟩ := atSt (P := P ++ x :: Q) (by simpa using hrow) HPQ.out.2.1
          have HRW := Lib.hid hrow
          clear hz hB2 hrow hq hqp hQl hQ hZ hrw hcc hc hcd hP hp hPl hxZ hDx hrx hql hqa hqa2 HA HZL HLR
          by_cases hneg : c < 0
          · have HOXY : Hid (S.Ord key rank y x) := .inl (HCD.out.1 hneg)
            have HNEG := Lib.hid hneg
            clear hneg
            go_wp2
            refine wp_region_ext 17 (fun _ _ d _ _ h => by cases d <;> exact h) (by kernel_rfl) (by kernel_rfl) (by kernel_rfl) (by kernel_rfl) ?_
            simp only [List.take_succ_cons, List.take_zero, List.drop_succ_cons, List.drop_zero]
            obtain ⟨hqa, hqa2⟩ := HQA.out
            have hneg := HNEG.out
            repeat (any_goals (first | go_big_quiet_step ((go_at_call 60; exact ext_quiet (HCC.out _ (hK _ _ hKw (hO.ext (by (with_reducible (repeat (first | exact Ext.refl _ | assumption | apply Ext.alloc | apply Ext.drew | exact ext_plus _ _ | (apply Ext.setCell; rotate_left; (simp <;> omega)) | (apply Ext.trans; rotate_left; exact ext_plus _ _) | (apply Ext.trans; rotate_left; assumption)))))))))) | quiet_step ((go_at_call 60; exact ext_quiet (HCC.out _ (hK _ _ hKw (hO.ext (by (with_reducible (repeat (first | exact Ext.refl _ | assumption | apply Ext.alloc | apply Ext.drew | exact ext_plus _ _ | (apply Ext.setCell; rotate_left; (simp <;> omega)) | (apply Ext.trans; rotate_left; exact ext_plus _ _) | (apply Ext.trans; rotate_left; assumption))))))))))))
            all_goals (refine wpQuiet_nil ?_; intro wq hEq)
            unfold wpList
            clear d1 e1 d2 e2 hqa hqa2 hneg
            have hrow := RowB.ext HRW.out hEq
            have hO' := hO.ext hEq
            clear hO
            have hO := hO'
            clear hO'
            go_upto_region 6 with (fail)
            have hrd : RowB storeC 2 86 wq.drew g (P ++ x :: (Q ++ y :: Z)) := RowB.move hrow rfl
            have hSM : ∀ z, (fun c z => c = false → RowB storeC 2 86 z g (P ++ x :: (Q ++ y :: Z))) false z → (fun c z => c = false → RowB storeC 2 86 z g (P ++ x :: (Q ++ y :: Z))) true z := fun z _ e => absurd (e : true = false) (by decide)
            refine wp_region_late 15 (fun c z => c = false → RowB storeC 2 86 z g (P ++ x :: (Q ++ y :: Z))) (by kernel_rfl) (fun hL => ?_)
            refine late_early (i := 0) (v := ?_) rfl (by kernel_rfl) (by kernel_rfl) (by kernel_rfl) (by decide) (by kernel_rfl) (fun _ _ _ h => h) hL (Or.inl ⟨by rfl, ?_⟩) (fun _ => hrd) (fun hL' => ?_)
            rotate_left
            · intro y hy; clear hy; go_simp; (try with_reducible rfl)
            clear hL; rename Shutb _ _ => hL
            (try simp only [Act.put, List.getElem_toArray, List.getElem_cons_zero, List.getElem_cons_succ, List.setIfInBounds_toArray, List.set_cons_zero, List.set_cons_succ])
            refine late_early (i := 1) (v := ?_) rfl (by kernel_rfl) (by kernel_rfl) (by kernel_rfl) (by decide) (by kernel_rfl) (fun _ _ _ h => h) hL (Or.inl ⟨by rfl, ?_⟩) (fun _ => hrd) (fun hL' => ?_)
            rotate_left
            · intro y hy; clear hy; go_simp; (try with_reducible rfl)
            clear hL; rename Shutb _ _ => hL
            (try simp only [Act.put, List.getElem_toArray, List.getElem_cons_zero, List.getElem_cons_succ, List.setIfInBounds_toArray, List.set_cons_zero, List.set_cons_succ])
            refine late_early (i := 5) (v := ?_) rfl (by kernel_rfl) (by kernel_rfl) (by kernel_rfl) (by decide) (by kernel_rfl) (fun _ _ _ h => h) hL (Or.inl ⟨by rfl, ?_⟩) (fun _ => hrd) (fun hL' => ?_)
            rotate_left
            · intro y hy; clear hy; go_simp; (try with_reducible rfl)
            clear hL; rename Shutb _ _ => hL
            (try simp only [Act.put, List.getElem_toArray, List.getElem_cons_zero, List.getElem_cons_succ, List.setIfInBounds_toArray, List.set_cons_zero, List.set_cons_succ])
            refine late_early (i := 6) (v := ?_) rfl (by kernel_rfl) (by kernel_rfl) (by kernel_rfl) (by decide) (by kernel_rfl) (fun _ _ _ h => h) hL (Or.inl ⟨by rfl, ?_⟩) (fun _ => hrd) (fun hL' => ?_)
            rotate_left
            · intro y hy; clear hy; go_simp; (try with_reducible rfl)
            clear hL; rename Shutb _ _ => hL
            (try simp only [Act.put, List.getElem_toArray, List.getElem_cons_zero, List.getElem_cons_succ, List.setIfInBounds_toArray, List.set_cons_zero, List.set_cons_succ])
            refine late_early (i := 7) (v := ?_) rfl (by kernel_rfl) (by kernel_rfl) (by kernel_rfl) (by decide) (by kernel_rfl) (fun _ _ _ h => h) hL (Or.inl ⟨by rfl, ?_⟩) (fun _ => hrd) (fun hL' => ?_)
            rotate_left
            · intro y hy; clear hy; go_simp; (try with_reducible rfl)
            clear hL; rename Shutb _ _ => hL
            (try simp only [Act.put, List.getElem_toArray, List.getElem_cons_zero, List.getElem_cons_succ, List.setIfInBounds_toArray, List.set_cons_zero, List.set_cons_succ])
            refine late_early (i := 8) (v := ?_) rfl (by kernel_rfl) (by kernel_rfl) (by kernel_rfl) (by decide) (by kernel_rfl) (fun _ _ _ h => h) hL (Or.inl ⟨by rfl, ?_⟩) (fun _ => hrd) (fun hL' => ?_)
            rotate_left
            · intro y hy; clear hy; go_simp; (try with_reducible rfl)
            clear hL; rename Shutb _ _ => hL
            (try simp only [Act.put, List.getElem_toArray, List.getElem_cons_zero, List.getElem_cons_succ, List.setIfInBounds_toArray, List.set_cons_zero, List.set_cons_succ])
            refine late_early (i := 9) (v := ?_) rfl (by kernel_rfl) (by kernel_rfl) (by kernel_rfl) (by decide) (by kernel_rfl) (fun _ _ _ h => h) hL (Or.inl ⟨by rfl, ?_⟩) (fun _ => hrd) (fun hL' => ?_)
            rotate_left
            · intro y hy; have hz := hy rfl; clear hy; obtain ⟨g1, g2⟩ := atSt hz HPQ.out.1; have g3 := RowB.lt hz; go_simp; (try with_reducible rfl)
            clear hL; rename Shutb _ _ => hL
            (try simp only [Act.put, List.getElem_toArray, List.getElem_cons_zero, List.getElem_cons_succ, List.setIfInBounds_toArray, List.set_cons_zero, List.set_cons_succ])
            refine late_early (i := 10) (v := ?_) rfl (by kernel_rfl) (by kernel_rfl) (by kernel_rfl) (by decide) (by kernel_rfl) (fun _ _ _ h => h) hL (Or.inl ⟨by rfl, ?_⟩) (fun _ => hrd) (fun hL' => ?_)
            rotate_left
            · intro y hy; clear hy; go_simp; (try with_reducible rfl)
            clear hL; rename Shutb _ _ => hL
            (try simp only [Act.put, List.getElem_toArray, List.getElem_cons_zero, List.getElem_cons_succ, List.setIfInBounds_toArray, List.set_cons_zero, List.set_cons_succ])
            refine late_early (i := 11) (v := ?_) rfl (by kernel_rfl) (by kernel_rfl) (by kernel_rfl) (by decide) (by kernel_rfl) (fun _ _ _ h => h) hL (Or.inl ⟨by rfl, ?_⟩) (fun _ => hrd) (fun hL' => ?_)
            rotate_left
            · intro y hy; clear hy; go_simp; (try with_reducible rfl)
            clear hL; rename Shutb _ _ => hL
            (try simp only [Act.put, List.getElem_toArray, List.getElem_cons_zero, List.getElem_cons_succ, List.setIfInBounds_toArray, List.set_cons_zero, List.set_cons_succ])
            refine late_early (i := 12) (v := ?_) rfl (by kernel_rfl) (by kernel_rfl) (by kernel_rfl) (by decide) (by kernel_rfl) (fun _ _ _ h => h) hL (Or.inl ⟨by rfl, ?_⟩) (fun _ => hrd) (fun hL' => ?_)
            rotate_left
            · intro y hy; clear hy; go_simp; (try with_reducible rfl)
            clear hL; rename Shutb _ _ => hL
            (try simp only [Act.put, List.getElem_toArray, List.getElem_cons_zero, List.getElem_cons_succ, List.setIfInBounds_toArray, List.set_cons_zero, List.set_cons_succ])
            refine late_early (i := 13) (v := ?_) rfl (by kernel_rfl) (by kernel_rfl) (by kernel_rfl) (by decide) (by kernel_rfl) (fun _ _ _ h => h) hL (Or.inl ⟨by rfl, ?_⟩) (fun _ => hrd) (fun hL' => ?_)
            rotate_left
            · intro y hy; have hz := hy rfl; clear hy; obtain ⟨g1, g2⟩ := atSt (P := P ++ x :: Q) (by simpa using hz) HPQ.out.2.1; have g3 := RowB.lt hz; go_simp; (try with_reducible rfl)
            clear hL; rename Shutb _ _ => hL
            (try simp only [Act.put, List.getElem_toArray, List.getElem_cons_zero, List.getElem_cons_succ, List.setIfInBounds_toArray, List.set_cons_zero, List.set_cons_succ])
            refine late_late (i := 2) (v := ?_) rfl (by kernel_rfl) (by kernel_rfl) (by kernel_rfl) (by decide) hSM (fun _ _ _ h => h) hL (Or.inl ⟨by rfl, ?_⟩) (fun _ => hrd) (fun hL' => ?_)
            rotate_left
            · intro y hy; clear hy; go_simp; (try with_reducible rfl)
            clear hL; rename Shutb _ _ => hL
            (try simp only [Act.put, List.getElem_toArray, List.getElem_cons_zero, List.getElem_cons_succ, List.setIfInBounds_toArray, List.set_cons_zero, List.set_cons_succ])
            refine late_late (i := 3) (v := ?_) rfl (by kernel_rfl) (by kernel_rfl) (by kernel_rfl) (by decide) hSM (fun _ _ _ h => h) hL (Or.inl ⟨by rfl, ?_⟩) (fun _ => hrd) (fun hL' => ?_)
            rotate_left
            · intro y hy; clear hy; go_simp; (try with_reducible rfl)
            clear hL; rename Shutb _ _ => hL
            (try simp only [Act.put, List.getElem_toArray, List.getElem_cons_zero, List.getElem_cons_succ, List.setIfInBounds_toArray, List.set_cons_zero, List.set_cons_succ])
            refine late_late (i := 4) (v := ?_) rfl (by kernel_rfl) (by kernel_rfl) (by kernel_rfl) (by decide) hSM (fun _ _ _ h => h) hL (Or.inl ⟨by rfl, ?_⟩) (fun _ => hrd) (fun hL' => ?_)
            rotate_left
            · intro y hy; clear hy; go_simp; (try with_reducible rfl)
            clear hL; rename Shutb _ _ => hL
            (try simp only [Act.put, List.getElem_toArray, List.getElem_cons_zero, List.getElem_cons_succ, List.setIfInBounds_toArray, List.set_cons_zero, List.set_cons_succ])
            refine late_one (i := 14) (by kernel_rfl) hL (fun hL' => ?_)
            refine wpOp_step rfl (fun K hK0 => ?_)
            have hK : Shut _ := hK0
            clear hK0
            go_simp
            refine hK.out _ _ ⟨fun _ => hrd, ?_⟩
            clear hK K; clear hL; rename Shutb _ _ => hL
            (try simp only [Act.put, List.getElem_toArray, List.getElem_cons_zero, List.getElem_cons_succ, List.setIfInBounds_toArray, List.set_cons_zero, List.set_cons_succ])
            have hpl := (show p < (P ++ x :: (Q ++ y :: Z)).length by have := HPQ.out.1; simp; omega)
            have hql := (show q < (P ++ x :: (Q ++ y :: Z)).length by have := HPQ.out.2.2; simp; omega)
            obtain ⟨d1, d2⟩ := atSt (P := P ++ x :: Q) (by simpa using hrow) HPQ.out.2.1
            have d3 := RowB.free hrow
            have d4 := RowB.lt hrow
            refine late_one (i := 15) (by kernel_rfl) hL (fun hL' => ?_)
            refine wpOp_step rfl (fun K hK0 => ?_)
            have hK : Shut _ := hK0
            clear hK0
            go_simp
            refine hK.out _ _ ⟨fun e => absurd (e : true = false) (by decide), ?_⟩
            clear hK K; clear hL; rename Shutb _ _ => hL
            (try simp only [Act.put, List.getElem_toArray, List.getElem_cons_zero, List.getElem_cons_succ, List.setIfInBounds_toArray, List.set_cons_zero, List.set_cons_succ])
            clear d1 d3 d4 d2
            have hO1 := hO.set (a := ⟨g, q * 2, none⟩) (.inl rfl) (.int .i64 x.1) |>.set (a := ⟨g, q * 2 + 1, none⟩) (.inl rfl) (.int .i64 x.2)
            have hr1 := RowB.set_two hrow q hql x
            obtain ⟨wm, hwm⟩ : ∃ wm, ((wq.setCell ⟨g, q * 2, none⟩ (.int .i64 x.1)).setCell ⟨g, q * 2 + 1, none⟩ (.int .i64 x.2)) = wm := ⟨_, rfl⟩
            rw [hwm] at hr1 hO1 ⊢
            clear hwm
            have hr1' := hr1
            rw [show P ++ x :: (Q ++ y :: Z) = (P ++ x :: Q) ++ y :: Z by simp, set_at (P ++ x :: Q) Z y x HPQ.out.2.1, show (P ++ x :: Q) ++ x :: Z = P ++ x :: (Q ++ x :: Z) by simp] at hr1'
            obtain ⟨d1, d2⟩ := atSt hr1' HPQ.out.1
            have d3 := RowB.free hr1
            have d4 := RowB.lt hr1
            refine late_one (i := 16) (by kernel_rfl) hL (fun hL' => ?_)
            refine wpOp_step rfl (fun K hK0 => ?_)
            have hK : Shut _ := hK0
            clear hK0
            go_simp
            refine hK.out _ _ ⟨fun e => absurd (e : true = false) (by decide), ?_⟩
            clear hK K; clear hL; rename Shutb _ _ => hL
            (try simp only [Act.put, List.getElem_toArray, List.getElem_cons_zero, List.getElem_cons_succ, List.setIfInBounds_toArray, List.set_cons_zero, List.set_cons_succ])
            refine late_one (i := 17) (by kernel_rfl) hL (fun hL' => ?_)
            refine wpOp_step rfl (fun K hK0 => ?_)
            have hK : Shut _ := hK0
            clear hK0
            go_simp
            refine hK.out _ _ ⟨fun e => absurd (e : true = false) (by decide), ?_⟩
            clear hK K; clear hL; rename Shutb _ _ => hL
            (try simp only [Act.put, List.getElem_toArray, List.getElem_cons_zero, List.getElem_cons_succ, List.setIfInBounds_toArray, List.set_cons_zero, List.set_cons_succ])
            refine late_done (by kernel_rfl) ?_
            (try dsimp only [Exit.then])
            clear d1 d3 d4 d2 hr1'
            have hr2 := RowB.set_two hr1 p (by simpa using hpl) y
            rw [List.set_comm _ _ (by have := HPQ.out.1; have := HPQ.out.2.2; omega), S.swap_set P Q Z x y p q HPQ.out.1 HPQ.out.2.2] at hr2
            have hO2 := hO1.set (a := ⟨g, p * 2, none⟩) (.inl rfl) (.int .i64 y.1) |>.set (a := ⟨g, p * 2 + 1, none⟩) (.inl rfl) (.int .i64 y.2)
            go_wp2
            go_roundw
            case rel => exact ⟨Z0, x :: Z2, p, by rw [← HZ.out]; simp, by have := HP0.out; omega, by go_num, by rw [← HPP.out, ← HQQ.out, ← HZZ.out, List.append_assoc] at hr2; exact RowB.move hr2 rfl, fun u hu => by (rcases List.mem_cons.1 hu with rfl | hu; exact HOXY.out; exact HB2.out u hu), hO2.ext ((Ext.refl _).drew)⟩
            case measure => simp [intOf]; omega
          · have HOXY : Hid (S.Ord key rank x y) := (S.ord_lt HRX2.out).2 (fun h => hneg (HCD.out.2 h))
            have HNEG := Lib.hid hneg
            clear hneg
            go_wp2
            refine wp_region_ext 17 (fun _ _ d _ _ h => by cases d <;> exact h) (by kernel_rfl) (by kernel_rfl) (by kernel_rfl) (by kernel_rfl) ?_
            simp only [List.take_succ_cons, List.take_zero, List.drop_succ_cons, List.drop_zero]
            obtain ⟨hqa, hqa2⟩ := HQA.out
            have hneg := HNEG.out
            repeat (any_goals (first | go_big_quiet_step ((go_at_call 60; exact ext_quiet (HCC.out _ (hK _ _ hKw (hO.ext (by (with_reducible (repeat (first | exact Ext.refl _ | assumption | apply Ext.alloc | apply Ext.drew | exact ext_plus _ _ | (apply Ext.setCell; rotate_left; (simp <;> omega)) | (apply Ext.trans; rotate_left; exact ext_plus _ _) | (apply Ext.trans; rotate_left; assumption)))))))))) | quiet_step ((go_at_call 60; exact ext_quiet (HCC.out _ (hK _ _ hKw (hO.ext (by (with_reducible (repeat (first | exact Ext.refl _ | assumption | apply Ext.alloc | apply Ext.drew | exact ext_plus _ _ | (apply Ext.setCell; rotate_left; (simp <;> omega)) | (apply Ext.trans; rotate_left; exact ext_plus _ _) | (apply Ext.trans; rotate_left; assumption))))))))))))
            all_goals (refine wpQuiet_nil ?_; intro wq hEq)
            unfold wpList
            clear d1 e1 d2 e2 hqa hqa2
            have hdc : decide (c < 0) = false := decide_eq_false (by omega)
            have hge : 0 ≤ c := by omega
            go_wp2
            go_roundw
            case rel =>
              have hz := HZ.out
              refine ⟨k + 1, (Z0 ++ [x]) ++ y :: Z2, i + 1, by omega, by omega, by go_num, by have := HIK.out; omega, ?_, S.srt_insert (by rw [hz]; exact HSR.out) (S.before_last (S.ord_trans key rank) (by have h := HSR.out; rw [← hz] at h; exact (List.pairwise_append.1 h).1) HOXY.out) HB2.out, ?_, hO.ext hEq⟩
              · rw [HTK.out]
                refine List.perm_middle.trans ?_
                rw [hz]
                exact ((HPM.out.cons y).trans (List.perm_append_singleton y _).symm)
              · have hr := RowB.ext HROW.out hEq
                rw [HRR.out]
                simpa using hr
            case measure => simp [intOf]; omega
    · have hkX : k = X.length ∨ k = X.length + 1 := by omega
      have hT : X.take k = X := List.take_of_length_le (by omega)
      have hDD : X.drop k = [] := List.drop_eq_nil_of_le (by omega)
      rw [hT] at hpm
      rw [hDD] at hrow
      have hnb : ¬ i < b := by omega
      have HPM := Lib.hid hpm
      clear ha hb hNl hkX hik hk hk1 hlt
      go_wp2
      go_end0
      exact ⟨rfl, V, HPM.out, hsr, by simpa using hrow, hO⟩

set_option maxRecDepth 100000 in
set_option maxHeartbeats 8000000 in
theorem insSortIn (g : Nat) (key : Int → Int) (rank : Int → Nat) (D : Int → Prop) (K : World → Prop) (hK : ∀ w w', K w → Off g w w' → K w') (hD : ∀ x, D x → -1000000000 ≤ key x ∧ key x ≤ 1000000000)
    (HC : ∀ w' x y, K w' → D x → D y → Calls Try.prog 65 #[.int .i64 x, .int .i64 y] w' fun e w2 => e = .returned (.int .i64 (key x - key y)) ∧ Ext w' w2)
    (A X B : List (Int)) (cap a b N : Nat) (w : World) (hKw : K w) (hDX : ∀ x ∈ X, D x) (hX : X.Pairwise fun x y => rank x < rank y) (ha : a = A.length) (hb : b = A.length + X.length)
    (hN : N = (A ++ (X ++ B)).length) (hsz : N ≤ 1000000) (h : RowB intC 1 3 w g (A ++ (X ++ B))) :
    Calls Try.prog 89 #[.slice (some ⟨g, 0, none⟩) N cap, .int .i64 a, .int .i64 b, .func (.func 65) #[] #[]] w fun e w' => e = .returned (.tuple #[]) ∧ ∃ Z, Z.Perm X ∧ S.Srt (S.Ord key rank) Z ∧ RowB intC 1 3 w' g (A ++ (Z ++ B)) ∧ Off g w w' := by
  have hNl : N = A.length + X.length + B.length := by rw [hN]; simp; omega
  have hbN : b ≤ N := by omega
  have hab : a ≤ b := by omega
  have HCM := Lib.hid HC
  have HMX := Lib.hid hDX
  have HRX := Lib.hid hX
  have HF := Lib.hid (And.intro ha (And.intro hb hNl))
  have H := Lib.hid h
  have hpc := plus_cell
  clear HC hD hDX hX ha hb hN hNl h
  go_enter Try.func89, Try.ntmps89
  go_wp2
  go_loopw [8, 9] (fun vi _ wr => ∃ (k : Nat) (V : List (Int)) (i : Nat), 1 ≤ k ∧ k ≤ X.length + 1 ∧ vi = .int .i64 i ∧ i = a + k ∧ V.Perm (X.take k) ∧ S.Srt (S.Ord key rank) V ∧ RowB intC 1 3 wr g (A ++ (V ++ (X.drop k ++ B))) ∧ Off g w wr) (fun vi _ _ => b + 1 - (intOf vi).toNat)
  case atStart =>
    refine ⟨1, X.take 1, a + 1, Nat.le_refl _, by omega, by go_num, rfl, List.Perm.refl _, ?_, ?_, Off.refl _ _⟩
    · cases X <;> simp
    · have hh := H.out
      rw [← List.take_append_drop 1 X] at hh
      simpa using hh
  case round =>
    rename World => wr
    obtain ⟨k, V, i, hk1, hk, rfl, hik, hpm, hsr, hrow, hO⟩ := hrel
    obtain ⟨ha, hb, hNl⟩ := HF.out
    by_cases hlt : k < X.length
    · have hib : i < b := by omega
      have hDR := List.drop_eq_getElem_cons hlt
      have hTK := List.take_succ_eq_append_getElem hlt
      have hDy := HMX.out _ (List.getElem_mem hlt)
      have hzl : V.length = k := by rw [hpm.length_eq]; simp; omega
      have hrk : ∀ x ∈ V, rank x < rank X[k] := fun x hx => by
        have h1 : X.Pairwise (fun x y => rank x < rank y) := HRX.out
        have h2 : (X.take k ++ X.drop k).Pairwise (fun x y => rank x < rank y) := by rw [List.take_append_drop]; exact h1
        exact (List.pairwise_append.1 h2).2.2 x (hpm.subset hx) _ (by rw [hDR]; exact List.mem_cons_self)
      have hDZ : ∀ x ∈ V, D x := fun x hx => HMX.out x (List.mem_of_mem_take (hpm.subset hx))
      obtain ⟨y, hy0⟩ : ∃ y, X[k] = y := ⟨_, rfl⟩
      rw [hy0] at hDR hTK hDy
      simp only [hy0] at hrk
      rw [hDR] at hrow
      obtain ⟨R, hR⟩ : ∃ R, X.drop (k + 1) ++ B = R := ⟨_, rfl⟩
      have hrow' : RowB intC 1 3 wr g (A ++ (V ++ y :: ([] ++ R))) := by rw [← hR]; simpa using hrow
      have HRR := Lib.hid hR
      have HTK := Lib.hid hTK
      have HPM := Lib.hid hpm
      have HSR := Lib.hid hsr
      have HRK := Lib.hid hrk
      have HDZ := Lib.hid hDZ
      have HA := Lib.hid ha
      have HDY := Lib.hid hDy
      have HZL := Lib.hid hzl
      have hlR : A.length + k + 1 + R.length = N := by rw [← hR]; simp; omega
      have HLR := Lib.hid hlR
      have HIK := Lib.hid hik
      have hiN : i ≤ N := by omega
      have hib' : (i : Int) < (b : Int) := by omega
      clear hik hDR hTK hpm hsr hrk hDZ hy0 hR hrow ha hb hNl hDy hlR
      go_wp2
      go_loopw [9] (fun vj wx => ∃ (Z1 Z2 : List (Int)) (q : Nat), Z1 ++ Z2 = V ∧ q = a + Z1.length ∧ vj = .int .i64 q ∧ RowB intC 1 3 wx g (A ++ (Z1 ++ y :: (Z2 ++ R))) ∧ (∀ u ∈ Z2, S.Ord key rank y u) ∧ Off g w wx) (fun vj _ => (intOf vj).toNat)
      case atStart => exact ⟨V, [], i, by simp, by have := HIK.out; have := HZL.out; omega, rfl, hrow', by simp, hO⟩
      case round =>
        rename World => wx
        clear hO hrow'
        obtain ⟨Z1, Z2, q, hz, hq, rfl, hrow, hB2, hO⟩ := hrel
        have HZ := Lib.hid hz
        have HB2 := Lib.hid hB2
        have hql : Z1.length ≤ k := by have h1 := congrArg List.length hz; rw [List.length_append, HZL.out] at h1; omega
        have hlk : q ≤ i := by have := HIK.out; omega
        have HROW := Lib.hid hrow
        rcases List.eq_nil_or_concat Z1 with e | ⟨Z0, x, e⟩
        · subst e
          have hqa : (q : Int) = a := by simp at hq; omega
          have hqn : ¬ (a : Int) < (q : Int) := by omega
          have HQA := Lib.hid hqa
          have hqn2 : ¬ a < q := by omega
          have HQN := Lib.hid (And.intro hqn hqn2)
          clear hqn2 hz hB2 hrow hq hqa hqn hql HA HZL HLR
          go_wp2
          refine wp_region_ext 17 (fun _ _ d _ _ h => by cases d <;> exact h) (by kernel_rfl) (by kernel_rfl) (by kernel_rfl) (by kernel_rfl) ?_
          simp only [List.take_succ_cons, List.take_zero, List.drop_succ_cons, List.drop_zero]
          obtain ⟨hqn, hqn2⟩ := HQN.out
          repeat (any_goals (first | go_big_quiet_step (fail) | quiet_step (fail)))
          all_goals (refine wpQuiet_nil ?_; intro wq hEq)
          unfold wpList
          go_wp2
          go_roundw
          case rel =>
            have hz := HZ.out
            refine ⟨k + 1, [] ++ y :: Z2, i + 1, by omega, by omega, by go_num, by have := HIK.out; omega, ?_, S.srt_insert (by rw [hz]; exact HSR.out) (by simp) HB2.out, ?_, hO.ext hEq⟩
            · rw [HTK.out]
              refine List.perm_middle.trans ?_
              rw [hz]
              exact ((HPM.out.cons y).trans (List.perm_append_singleton y _).symm)
            · have hr := RowB.ext HROW.out hEq
              rw [HRR.out]
              simpa using hr
          case measure => simp [intOf]; omega
        · rw [List.concat_eq_append] at e
          subst e
          have hxZ : x ∈ V := by rw [← hz]; simp
          have hDx := HDZ.out x hxZ
          have hrx := HRK.out x hxZ
          have hcc := fun w' (hk : K w') => HCM.out w' y x hk HDY.out hDx
          obtain ⟨c, hc⟩ : ∃ c, key y - key x = c := ⟨_, rfl⟩
          simp only [hc] at hcc
          have HCC := Lib.hid hcc
          obtain ⟨P, hP⟩ : ∃ P, A ++ Z0 = P := ⟨_, rfl⟩
          obtain ⟨p, hp⟩ : ∃ p, a + Z0.length = p := ⟨_, rfl⟩
          have hPl : p = P.length := by rw [← hP, ← hp, HA.out]; simp
          have hqp : q = p + 1 := by rw [hq, ← hp]; simp; omega
          obtain ⟨Q, hQ⟩ : ∃ Q : List (Int), [] = Q := ⟨_, rfl⟩
          obtain ⟨Z, hZ⟩ : ∃ Z, Z2 ++ R = Z := ⟨_, rfl⟩
          have hrw : A ++ ((Z0 ++ [x]) ++ y :: (Z2 ++ R)) = P ++ x :: (Q ++ y :: Z) := by rw [← hP, ← hQ, ← hZ]; simp
          rw [hrw] at hrow
          have hQl : Q.length = 0 := by rw [← hQ]; rfl
          have HQQ := Lib.hid hQ
          have HZZ := Lib.hid hZ
          have hNq : q < N := by have h1 := HLR.out; have h2 := HA.out; have h3 := hlt; omega
          have HPQ := Lib.hid (And.intro hPl (And.intro (show q = (P ++ x :: Q).length by simp; omega) (show q = P.length + 1 + Q.length by omega)))
          have hpi : (q : Int) - 1 = (p : Int) := by omega
          have hpN : p < N := by omega
          have hwp : IntKind.wrap .i64 (p : Int) = p := IntWalk.i64_in _ (by omega)
          have hwq : IntKind.wrap .i64 (q : Int) = q := IntWalk.i64_in _ (by omega)
          have hpN' : (p : Int) < (N : Int) := by omega
          have hqN' : (q : Int) < (N : Int) := by omega
          have hqa : (a : Int) < (q : Int) := by omega
          have hqa2 : a < q := by omega
          have HQA := Lib.hid (And.intro hqa hqa2)
          have HP0 := Lib.hid hp
          have HPP := Lib.hid hP
          have hcd : c < 0 ↔ key y < key x := by omega
          have HCD := Lib.hid hcd
          have HRX2 := Lib.hid hrx
          have HQ1 := Lib.hid hqp
          have hgl := RowB.lt hrow
          have d1 := atIn hrow HPQ.out.1
          have e1 := atIn (P := P ++ x :: Q) (by simpa using hrow) HPQ.out.2.1
          have HRW := Lib.hid hrow
          clear hz hB2 hrow hq hqp hQl hQ hZ hrw hcc hc hcd hP hp hPl hxZ hDx hrx hql hqa hqa2 HA HZL HLR
          by_cases hneg : c < 0
          · have HOXY : Hid (S.Ord key rank y x) := .inl (HCD.out.1 hneg)
            have HNEG := Lib.hid hneg
            clear hneg
            go_wp2
            refine wp_region_ext 17 (fun _ _ d _ _ h => by cases d <;> exact h) (by kernel_rfl) (by kernel_rfl) (by kernel_rfl) (by kernel_rfl) ?_
            simp only [List.take_succ_cons, List.take_zero, List.drop_succ_cons, List.drop_zero]
            obtain ⟨hqa, hqa2⟩ := HQA.out
            have hneg := HNEG.out
            repeat (any_goals (first | go_big_quiet_step ((go_at_call 65; exact ext_quiet (HCC.out _ (hK _ _ hKw (hO.ext (by (with_reducible (repeat (first | exact Ext.refl _ | assumption | apply Ext.alloc | apply Ext.drew | exact ext_plus _ _ | (apply Ext.setCell; rotate_left; (simp <;> omega)) | (apply Ext.trans; rotate_left; exact ext_plus _ _) | (apply Ext.trans; rotate_left; assumption)))))))))) | quiet_step ((go_at_call 65; exact ext_quiet (HCC.out _ (hK _ _ hKw (hO.ext (by (with_reducible (repeat (first | exact Ext.refl _ | assumption | apply Ext.alloc | apply Ext.drew | exact ext_plus _ _ | (apply Ext.setCell; rotate_left; (simp <;> omega)) | (apply Ext.trans; rotate_left; exact ext_plus _ _) | (apply Ext.trans; rotate_left; assumption))))))))))))
            all_goals (refine wpQuiet_nil ?_; intro wq hEq)
            unfold wpList
            clear d1 e1  hqa hqa2 hneg
            have hrow := RowB.ext HRW.out hEq
            have hO' := hO.ext hEq
            clear hO
            have hO := hO'
            clear hO'
            go_upto_region 6 with (fail)
            have hrd : RowB intC 1 3 wq.drew g (P ++ x :: (Q ++ y :: Z)) := RowB.move hrow rfl
            have hSM : ∀ z, (fun c z => c = false → RowB intC 1 3 z g (P ++ x :: (Q ++ y :: Z))) false z → (fun c z => c = false → RowB intC 1 3 z g (P ++ x :: (Q ++ y :: Z))) true z := fun z _ e => absurd (e : true = false) (by decide)
            refine wp_region_late 15 (fun c z => c = false → RowB intC 1 3 z g (P ++ x :: (Q ++ y :: Z))) (by kernel_rfl) (fun hL => ?_)
            refine late_early (i := 0) (v := ?_) rfl (by kernel_rfl) (by kernel_rfl) (by kernel_rfl) (by decide) (by kernel_rfl) (fun _ _ _ h => h) hL (Or.inl ⟨by rfl, ?_⟩) (fun _ => hrd) (fun hL' => ?_)
            rotate_left
            · intro y hy; clear hy; go_simp; (try with_reducible rfl)
            clear hL; rename Shutb _ _ => hL
            (try simp only [Act.put, List.getElem_toArray, List.getElem_cons_zero, List.getElem_cons_succ, List.setIfInBounds_toArray, List.set_cons_zero, List.set_cons_succ])
            refine late_early (i := 1) (v := ?_) rfl (by kernel_rfl) (by kernel_rfl) (by kernel_rfl) (by decide) (by kernel_rfl) (fun _ _ _ h => h) hL (Or.inl ⟨by rfl, ?_⟩) (fun _ => hrd) (fun hL' => ?_)
            rotate_left
            · intro y hy; clear hy; go_simp; (try with_reducible rfl)
            clear hL; rename Shutb _ _ => hL
            (try simp only [Act.put, List.getElem_toArray, List.getElem_cons_zero, List.getElem_cons_succ, List.setIfInBounds_toArray, List.set_cons_zero, List.set_cons_succ])
            refine late_early (i := 5) (v := ?_) rfl (by kernel_rfl) (by kernel_rfl) (by kernel_rfl) (by decide) (by kernel_rfl) (fun _ _ _ h => h) hL (Or.inl ⟨by rfl, ?_⟩) (fun _ => hrd) (fun hL' => ?_)
            rotate_left
            · intro y hy; clear hy; go_simp; (try with_reducible rfl)
            clear hL; rename Shutb _ _ => hL
            (try simp only [Act.put, List.getElem_toArray, List.getElem_cons_zero, List.getElem_cons_succ, List.setIfInBounds_toArray, List.set_cons_zero, List.set_cons_succ])
            refine late_early (i := 6) (v := ?_) rfl (by kernel_rfl) (by kernel_rfl) (by kernel_rfl) (by decide) (by kernel_rfl) (fun _ _ _ h => h) hL (Or.inl ⟨by rfl, ?_⟩) (fun _ => hrd) (fun hL' => ?_)
            rotate_left
            · intro y hy; clear hy; go_simp; (try with_reducible rfl)
            clear hL; rename Shutb _ _ => hL
            (try simp only [Act.put, List.getElem_toArray, List.getElem_cons_zero, List.getElem_cons_succ, List.setIfInBounds_toArray, List.set_cons_zero, List.set_cons_succ])
            refine late_early (i := 7) (v := ?_) rfl (by kernel_rfl) (by kernel_rfl) (by kernel_rfl) (by decide) (by kernel_rfl) (fun _ _ _ h => h) hL (Or.inl ⟨by rfl, ?_⟩) (fun _ => hrd) (fun hL' => ?_)
            rotate_left
            · intro y hy; clear hy; go_simp; (try with_reducible rfl)
            clear hL; rename Shutb _ _ => hL
            (try simp only [Act.put, List.getElem_toArray, List.getElem_cons_zero, List.getElem_cons_succ, List.setIfInBounds_toArray, List.set_cons_zero, List.set_cons_succ])
            refine late_early (i := 8) (v := ?_) rfl (by kernel_rfl) (by kernel_rfl) (by kernel_rfl) (by decide) (by kernel_rfl) (fun _ _ _ h => h) hL (Or.inl ⟨by rfl, ?_⟩) (fun _ => hrd) (fun hL' => ?_)
            rotate_left
            · intro y hy; clear hy; go_simp; (try with_reducible rfl)
            clear hL; rename Shutb _ _ => hL
            (try simp only [Act.put, List.getElem_toArray, List.getElem_cons_zero, List.getElem_cons_succ, List.setIfInBounds_toArray, List.set_cons_zero, List.set_cons_succ])
            refine late_early (i := 9) (v := ?_) rfl (by kernel_rfl) (by kernel_rfl) (by kernel_rfl) (by decide) (by kernel_rfl) (fun _ _ _ h => h) hL (Or.inl ⟨by rfl, ?_⟩) (fun _ => hrd) (fun hL' => ?_)
            rotate_left
            · intro y hy; have hz := hy rfl; clear hy; have g1 := atIn hz HPQ.out.1; have g3 := RowB.lt hz; go_simp; (try with_reducible rfl)
            clear hL; rename Shutb _ _ => hL
            (try simp only [Act.put, List.getElem_toArray, List.getElem_cons_zero, List.getElem_cons_succ, List.setIfInBounds_toArray, List.set_cons_zero, List.set_cons_succ])
            refine late_early (i := 10) (v := ?_) rfl (by kernel_rfl) (by kernel_rfl) (by kernel_rfl) (by decide) (by kernel_rfl) (fun _ _ _ h => h) hL (Or.inl ⟨by rfl, ?_⟩) (fun _ => hrd) (fun hL' => ?_)
            rotate_left
            · intro y hy; clear hy; go_simp; (try with_reducible rfl)
            clear hL; rename Shutb _ _ => hL
            (try simp only [Act.put, List.getElem_toArray, List.getElem_cons_zero, List.getElem_cons_succ, List.setIfInBounds_toArray, List.set_cons_zero, List.set_cons_succ])
            refine late_early (i := 11) (v := ?_) rfl (by kernel_rfl) (by kernel_rfl) (by kernel_rfl) (by decide) (by kernel_rfl) (fun _ _ _ h => h) hL (Or.inl ⟨by rfl, ?_⟩) (fun _ => hrd) (fun hL' => ?_)
            rotate_left
            · intro y hy; clear hy; go_simp; (try with_reducible rfl)
            clear hL; rename Shutb _ _ => hL
            (try simp only [Act.put, List.getElem_toArray, List.getElem_cons_zero, List.getElem_cons_succ, List.setIfInBounds_toArray, List.set_cons_zero, List.set_cons_succ])
            refine late_early (i := 12) (v := ?_) rfl (by kernel_rfl) (by kernel_rfl) (by kernel_rfl) (by decide) (by kernel_rfl) (fun _ _ _ h => h) hL (Or.inl ⟨by rfl, ?_⟩) (fun _ => hrd) (fun hL' => ?_)
            rotate_left
            · intro y hy; clear hy; go_simp; (try with_reducible rfl)
            clear hL; rename Shutb _ _ => hL
            (try simp only [Act.put, List.getElem_toArray, List.getElem_cons_zero, List.getElem_cons_succ, List.setIfInBounds_toArray, List.set_cons_zero, List.set_cons_succ])
            refine late_early (i := 13) (v := ?_) rfl (by kernel_rfl) (by kernel_rfl) (by kernel_rfl) (by decide) (by kernel_rfl) (fun _ _ _ h => h) hL (Or.inl ⟨by rfl, ?_⟩) (fun _ => hrd) (fun hL' => ?_)
            rotate_left
            · intro y hy; have hz := hy rfl; clear hy; have g1 := atIn (P := P ++ x :: Q) (by simpa using hz) HPQ.out.2.1; have g3 := RowB.lt hz; go_simp; (try with_reducible rfl)
            clear hL; rename Shutb _ _ => hL
            (try simp only [Act.put, List.getElem_toArray, List.getElem_cons_zero, List.getElem_cons_succ, List.setIfInBounds_toArray, List.set_cons_zero, List.set_cons_succ])
            refine late_late (i := 2) (v := ?_) rfl (by kernel_rfl) (by kernel_rfl) (by kernel_rfl) (by decide) hSM (fun _ _ _ h => h) hL (Or.inl ⟨by rfl, ?_⟩) (fun _ => hrd) (fun hL' => ?_)
            rotate_left
            · intro y hy; clear hy; go_simp; (try with_reducible rfl)
            clear hL; rename Shutb _ _ => hL
            (try simp only [Act.put, List.getElem_toArray, List.getElem_cons_zero, List.getElem_cons_succ, List.setIfInBounds_toArray, List.set_cons_zero, List.set_cons_succ])
            refine late_late (i := 3) (v := ?_) rfl (by kernel_rfl) (by kernel_rfl) (by kernel_rfl) (by decide) hSM (fun _ _ _ h => h) hL (Or.inl ⟨by rfl, ?_⟩) (fun _ => hrd) (fun hL' => ?_)
            rotate_left
            · intro y hy; clear hy; go_simp; (try with_reducible rfl)
            clear hL; rename Shutb _ _ => hL
            (try simp only [Act.put, List.getElem_toArray, List.getElem_cons_zero, List.getElem_cons_succ, List.setIfInBounds_toArray, List.set_cons_zero, List.set_cons_succ])
            refine late_late (i := 4) (v := ?_) rfl (by kernel_rfl) (by kernel_rfl) (by kernel_rfl) (by decide) hSM (fun _ _ _ h => h) hL (Or.inl ⟨by rfl, ?_⟩) (fun _ => hrd) (fun hL' => ?_)
            rotate_left
            · intro y hy; clear hy; go_simp; (try with_reducible rfl)
            clear hL; rename Shutb _ _ => hL
            (try simp only [Act.put, List.getElem_toArray, List.getElem_cons_zero, List.getElem_cons_succ, List.setIfInBounds_toArray, List.set_cons_zero, List.set_cons_succ])
            refine late_one (i := 14) (by kernel_rfl) hL (fun hL' => ?_)
            refine wpOp_step rfl (fun K hK0 => ?_)
            have hK : Shut _ := hK0
            clear hK0
            go_simp
            refine hK.out _ _ ⟨fun _ => hrd, ?_⟩
            clear hK K; clear hL; rename Shutb _ _ => hL
            (try simp only [Act.put, List.getElem_toArray, List.getElem_cons_zero, List.getElem_cons_succ, List.setIfInBounds_toArray, List.set_cons_zero, List.set_cons_succ])
            have hpl := (show p < (P ++ x :: (Q ++ y :: Z)).length by have := HPQ.out.1; simp; omega)
            have hql := (show q < (P ++ x :: (Q ++ y :: Z)).length by have := HPQ.out.2.2; simp; omega)
            have d1 := atIn (P := P ++ x :: Q) (by simpa using hrow) HPQ.out.2.1
            have d3 := RowB.free hrow
            have d4 := RowB.lt hrow
            refine late_one (i := 15) (by kernel_rfl) hL (fun hL' => ?_)
            refine wpOp_step rfl (fun K hK0 => ?_)
            have hK : Shut _ := hK0
            clear hK0
            go_simp
            refine hK.out _ _ ⟨fun e => absurd (e : true = false) (by decide), ?_⟩
            clear hK K; clear hL; rename Shutb _ _ => hL
            (try simp only [Act.put, List.getElem_toArray, List.getElem_cons_zero, List.getElem_cons_succ, List.setIfInBounds_toArray, List.set_cons_zero, List.set_cons_succ])
            clear d1 d3 d4
            have hO1 := hO.set (a := ⟨g, q, none⟩) (.inl rfl) (.int .i64 x)
            have hr1 := IRow.set hrow q hql x
            obtain ⟨wm, hwm⟩ : ∃ wm, (wq.setCell ⟨g, q, none⟩ (.int .i64 x)) = wm := ⟨_, rfl⟩
            rw [hwm] at hr1 hO1 ⊢
            clear hwm
            have hr1' := hr1
            rw [show P ++ x :: (Q ++ y :: Z) = (P ++ x :: Q) ++ y :: Z by simp, set_at (P ++ x :: Q) Z y x HPQ.out.2.1, show (P ++ x :: Q) ++ x :: Z = P ++ x :: (Q ++ x :: Z) by simp] at hr1'
            have d1 := atIn hr1' HPQ.out.1
            have d3 := RowB.free hr1
            have d4 := RowB.lt hr1
            refine late_one (i := 16) (by kernel_rfl) hL (fun hL' => ?_)
            refine wpOp_step rfl (fun K hK0 => ?_)
            have hK : Shut _ := hK0
            clear hK0
            go_simp
            refine hK.out _ _ ⟨fun e => absurd (e : true = false) (by decide), ?_⟩
            clear hK K; clear hL; rename Shutb _ _ => hL
            (try simp only [Act.put, List.getElem_toArray, List.getElem_cons_zero, List.getElem_cons_succ, List.setIfInBounds_toArray, List.set_cons_zero, List.set_cons_succ])
            refine late_one (i := 17) (by kernel_rfl) hL (fun hL' => ?_)
            refine wpOp_step rfl (fun K hK0 => ?_)
            have hK : Shut _ := hK0
            clear hK0
            go_simp
            refine hK.out _ _ ⟨fun e => absurd (e : true = false) (by decide), ?_⟩
            clear hK K; clear hL; rename Shutb _ _ => hL
            (try simp only [Act.put, List.getElem_toArray, List.getElem_cons_zero, List.getElem_cons_succ, List.setIfInBounds_toArray, List.set_cons_zero, List.set_cons_succ])
            refine late_done (by kernel_rfl) ?_
            (try dsimp only [Exit.then])
            clear d1 d3 d4 hr1'
            have hr2 := IRow.set hr1 p (by simpa using hpl) y
            rw [List.set_comm _ _ (by have := HPQ.out.1; have := HPQ.out.2.2; omega), S.swap_set P Q Z x y p q HPQ.out.1 HPQ.out.2.2] at hr2
            have hO2 := hO1.set (a := ⟨g, p, none⟩) (.inl rfl) (.int .i64 y)
            go_wp2
            go_roundw
            case rel => exact ⟨Z0, x :: Z2, p, by rw [← HZ.out]; simp, by have := HP0.out; omega, by go_num, by rw [← HPP.out, ← HQQ.out, ← HZZ.out, List.append_assoc] at hr2; exact RowB.move hr2 rfl, fun u hu => by (rcases List.mem_cons.1 hu with rfl | hu; exact HOXY.out; exact HB2.out u hu), hO2.ext ((Ext.refl _).drew)⟩
            case measure => simp [intOf]; omega
          · have HOXY : Hid (S.Ord key rank x y) := (S.ord_lt HRX2.out).2 (fun h => hneg (HCD.out.2 h))
            have HNEG := Lib.hid hneg
            clear hneg
            go_wp2
            refine wp_region_ext 17 (fun _ _ d _ _ h => by cases d <;> exact h) (by kernel_rfl) (by kernel_rfl) (by kernel_rfl) (by kernel_rfl) ?_
            simp only [List.take_succ_cons, List.take_zero, List.drop_succ_cons, List.drop_zero]
            obtain ⟨hqa, hqa2⟩ := HQA.out
            have hneg := HNEG.out
            repeat (any_goals (first | go_big_quiet_step ((go_at_call 65; exact ext_quiet (HCC.out _ (hK _ _ hKw (hO.ext (by (with_reducible (repeat (first | exact Ext.refl _ | assumption | apply Ext.alloc | apply Ext.drew | exact ext_plus _ _ | (apply Ext.setCell; rotate_left; (simp <;> omega)) | (apply Ext.trans; rotate_left; exact ext_plus _ _) | (apply Ext.trans; rotate_left; assumption)))))))))) | quiet_step ((go_at_call 65; exact ext_quiet (HCC.out _ (hK _ _ hKw (hO.ext (by (with_reducible (repeat (first | exact Ext.refl _ | assumption | apply Ext.alloc | apply Ext.drew | exact ext_plus _ _ | (apply Ext.setCell; rotate_left; (simp <;> omega)) | (apply Ext.trans; rotate_left; exact ext_plus _ _) | (apply Ext.trans; rotate_left; assumption))))))))))))
            all_goals (refine wpQuiet_nil ?_; intro wq hEq)
            unfold wpList
            clear d1 e1  hqa hqa2
            have hdc : decide (c < 0) = false := decide_eq_false (by omega)
            have hge : 0 ≤ c := by omega
            go_wp2
            go_roundw
            case rel =>
              have hz := HZ.out
              refine ⟨k + 1, (Z0 ++ [x]) ++ y :: Z2, i + 1, by omega, by omega, by go_num, by have := HIK.out; omega, ?_, S.srt_insert (by rw [hz]; exact HSR.out) (S.before_last (S.ord_trans key rank) (by have h := HSR.out; rw [← hz] at h; exact (List.pairwise_append.1 h).1) HOXY.out) HB2.out, ?_, hO.ext hEq⟩
              · rw [HTK.out]
                refine List.perm_middle.trans ?_
                rw [hz]
                exact ((HPM.out.cons y).trans (List.perm_append_singleton y _).symm)
              · have hr := RowB.ext HROW.out hEq
                rw [HRR.out]
                simpa using hr
            case measure => simp [intOf]; omega
    · have hkX : k = X.length ∨ k = X.length + 1 := by omega
      have hT : X.take k = X := List.take_of_length_le (by omega)
      have hDD : X.drop k = [] := List.drop_eq_nil_of_le (by omega)
      rw [hT] at hpm
      rw [hDD] at hrow
      have hnb : ¬ i < b := by omega
      have HPM := Lib.hid hpm
      clear ha hb hNl hkX hik hk hk1 hlt
      go_wp2
      go_end0
      exact ⟨rfl, V, HPM.out, hsr, by simpa using hrow, hO⟩

end Go.Proofs.Ytkjoojmlcjmlgaa
