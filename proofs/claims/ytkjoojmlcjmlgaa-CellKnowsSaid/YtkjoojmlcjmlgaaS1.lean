/- Two elements of a row change places; ranges that do. -/
import Derived.Test.YtkjoojmlcjmlgaaEnc
import Derived.Test.YtkjoojmlcjmlgaaPs
import Derived.Test.YtkjoojmlcjmlgaaLate
import Derived.Deep.CutRange
import Derived.Deep.RegionHeld3
namespace Go.Proofs.Ytkjoojmlcjmlgaa
set_option linter.unusedVariables false
set_option linter.unusedSimpArgs false
open Go.RowKit
theorem set_at {α : Type} (P Q : List α) (x y : α) {p : Nat} (hp : p = P.length) : (P ++ x :: Q).set p y = P ++ y :: Q := by
  subst hp
  rw [List.set_append_right _ _ (Nat.le_refl _), Nat.sub_self, List.set_cons_zero]
/-- Two elements change places. -/
theorem swapSt {w : World} {g : Nat} {P Q Z : List (Int × Int)} {x y : Int × Int} (h : RowB storeC 2 86 w g (P ++ x :: (Q ++ y :: Z))) {p q : Nat} (hp : p = P.length) (hq : q = P.length + 1 + Q.length) :
    RowB storeC 2 86 ((((w.setCell ⟨g, p * 2, none⟩ (.int .i64 y.1)).setCell ⟨g, p * 2 + 1, none⟩ (.int .i64 y.2)).setCell ⟨g, q * 2, none⟩ (.int .i64 x.1)).setCell ⟨g, q * 2 + 1, none⟩ (.int .i64 x.2)) g (P ++ y :: (Q ++ x :: Z)) := by
  have h1 := RowB.set_two h p (by simp; omega) y
  have h2 := RowB.set_two h1 q (by simp; omega) x
  rw [S.swap_set P Q Z x y p q hp hq] at h2
  exact h2
theorem swapSt' {w : World} {g : Nat} {P Q Z : List (Int × Int)} {x y : Int × Int} (h : RowB storeC 2 86 w g (P ++ x :: (Q ++ y :: Z))) {p q : Nat} (hp : p = P.length) (hq : q = P.length + 1 + Q.length) :
    RowB storeC 2 86 ((((w.setCell ⟨g, q * 2, none⟩ (.int .i64 x.1)).setCell ⟨g, q * 2 + 1, none⟩ (.int .i64 x.2)).setCell ⟨g, p * 2, none⟩ (.int .i64 y.1)).setCell ⟨g, p * 2 + 1, none⟩ (.int .i64 y.2)) g (P ++ y :: (Q ++ x :: Z)) := by
  have h1 := RowB.set_two h q (by simp; omega) x
  have h2 := RowB.set_two h1 p (by simp; omega) y
  rw [List.set_comm _ _ (by omega), S.swap_set P Q Z x y p q hp hq] at h2
  exact h2
/-- What stands at both places. -/
theorem atSt {w : World} {g : Nat} {P Z : List (Int × Int)} {x : Int × Int} (h : RowB storeC 2 86 w g (P ++ x :: Z)) {p : Nat} (hp : p = P.length) : w.cell? ⟨g, p * 2, none⟩ = some (.int .i64 x.1) ∧ w.cell? ⟨g, p * 2 + 1, none⟩ = some (.int .i64 x.2) := by
  have hl : p < (P ++ x :: Z).length := by simp; omega
  have e : (P ++ x :: Z)[p] = x := by subst hp; simp
  have hc := fun j u (hu : (storeC x)[j]? = some u) => RowB.cell h p hl j u (by rw [e]; exact hu)
  exact ⟨hc 0 _ rfl, hc 1 _ rfl⟩

/-- Two elements change places. -/
theorem swapIn {w : World} {g : Nat} {P Q Z : List (Int)} {x y : Int} (h : RowB intC 1 3 w g (P ++ x :: (Q ++ y :: Z))) {p q : Nat} (hp : p = P.length) (hq : q = P.length + 1 + Q.length) :
    RowB intC 1 3 ((w.setCell ⟨g, p, none⟩ (.int .i64 y)).setCell ⟨g, q, none⟩ (.int .i64 x)) g (P ++ y :: (Q ++ x :: Z)) := by
  have h1 := IRow.set h p (by simp; omega) y
  have h2 := IRow.set h1 q (by simp; omega) x
  rw [S.swap_set P Q Z x y p q hp hq] at h2
  exact h2
theorem swapIn' {w : World} {g : Nat} {P Q Z : List (Int)} {x y : Int} (h : RowB intC 1 3 w g (P ++ x :: (Q ++ y :: Z))) {p q : Nat} (hp : p = P.length) (hq : q = P.length + 1 + Q.length) :
    RowB intC 1 3 ((w.setCell ⟨g, q, none⟩ (.int .i64 x)).setCell ⟨g, p, none⟩ (.int .i64 y)) g (P ++ y :: (Q ++ x :: Z)) := by
  have h1 := IRow.set h q (by simp; omega) x
  have h2 := IRow.set h1 p (by simp; omega) y
  rw [List.set_comm _ _ (by omega), S.swap_set P Q Z x y p q hp hq] at h2
  exact h2
/-- What stands at both places. -/
theorem atIn {w : World} {g : Nat} {P Z : List (Int)} {x : Int} (h : RowB intC 1 3 w g (P ++ x :: Z)) {p : Nat} (hp : p = P.length) : w.cell? ⟨g, p, none⟩ = some (.int .i64 x) := by
  have hl : p < (P ++ x :: Z).length := by simp; omega
  have e : (P ++ x :: Z)[p] = x := by subst hp; simp
  have hc := fun j u (hu : (intC x)[j]? = some u) => RowB.cell h p hl j u (by rw [e]; exact hu)
  simpa using hc 0 _ rfl

set_option maxRecDepth 100000 in
set_option maxHeartbeats 4000000 in
theorem swapRangeSt (A X M Y B : List (Int × Int)) (g cap a b n N : Nat) (vc : Value) (w : World) (ha : a = A.length) (hb : b = A.length + X.length + M.length) (hX : X.length = n) (hY : Y.length = n)
    (hN : N = (A ++ (X ++ (M ++ (Y ++ B)))).length) (hsz : N ≤ 1000000) (h : RowB storeC 2 86 w g (A ++ (X ++ (M ++ (Y ++ B))))) :
    Calls Try.prog 93 #[.slice (some ⟨g, 0, none⟩) N cap, .int .i64 a, .int .i64 b, .int .i64 n, vc] w fun e w' => e = .returned (.tuple #[]) ∧ RowB storeC 2 86 w' g (A ++ (Y ++ (M ++ (X ++ B)))) ∧ Off g w w' := by
  have hNl : N = A.length + n + M.length + n + B.length := by rw [hN]; simp; omega
  have H := Lib.hid h
  have HF := Lib.hid (And.intro ha (And.intro hb (And.intro hX (And.intro hY hNl))))
  have hbN : b + n ≤ N := by omega
  have haN : a + n ≤ N := by omega
  clear h hN ha hb hX hY hNl
  go_enter Try.func93, Try.ntmps93
  go_wp2
  go_loopw [10] (fun i wr => ∃ k : Nat, k ≤ n ∧ i = .int .i64 k ∧ RowB storeC 2 86 wr g (A ++ (Y.take k ++ (X.drop k ++ (M ++ (X.take k ++ (Y.drop k ++ B)))))) ∧ Off g w wr) (fun i _ => n - (intOf i).toNat)
  case atStart => exact ⟨0, Nat.zero_le _, rfl, by simpa using H.out, Off.refl _ _⟩
  case round =>
    rename World => wr
    obtain ⟨k, hk, rfl, hrow, hO⟩ := hrel
    by_cases hlt : k < n
    · obtain ⟨ha, hb, hX, hY, hNl⟩ := HF.out
      have hkX : k < X.length := by omega
      have hkY : k < Y.length := by omega
      obtain ⟨x, hx⟩ : ∃ x, X[k] = x := ⟨_, rfl⟩
      obtain ⟨y, hy0⟩ : ∃ y, Y[k] = y := ⟨_, rfl⟩
      have e1 : A ++ (Y.take k ++ (X.drop k ++ (M ++ (X.take k ++ (Y.drop k ++ B))))) = (A ++ Y.take k) ++ x :: ((X.drop (k + 1) ++ (M ++ X.take k)) ++ y :: (Y.drop (k + 1) ++ B)) := by
        rw [List.drop_eq_getElem_cons hkX, List.drop_eq_getElem_cons hkY, hx, hy0]; simp
      have e2 : A ++ (Y.take (k + 1) ++ (X.drop (k + 1) ++ (M ++ (X.take (k + 1) ++ (Y.drop (k + 1) ++ B))))) = (A ++ Y.take k) ++ y :: ((X.drop (k + 1) ++ (M ++ X.take k)) ++ x :: (Y.drop (k + 1) ++ B)) := by
        rw [List.take_succ_eq_append_getElem hkX, List.take_succ_eq_append_getElem hkY, hx, hy0]; simp
      rw [e1] at hrow
      obtain ⟨C2, hC2⟩ : ∃ C2, A ++ (Y.take (k + 1) ++ (X.drop (k + 1) ++ (M ++ (X.take (k + 1) ++ (Y.drop (k + 1) ++ B))))) = C2 := ⟨_, rfl⟩
      rw [hC2] at e2
      have HC2 := Lib.hid hC2
      have E2 := Lib.hid e2
      clear hC2
      obtain ⟨P, hP⟩ : ∃ P, A ++ Y.take k = P := ⟨_, rfl⟩
      obtain ⟨Q, hQ⟩ : ∃ Q, X.drop (k + 1) ++ (M ++ X.take k) = Q := ⟨_, rfl⟩
      obtain ⟨Z, hZ⟩ : ∃ Z, Y.drop (k + 1) ++ B = Z := ⟨_, rfl⟩
      have hlP : P.length = a + k := by rw [← hP, ha]; simp; omega
      have hlQ : Q.length = n - (k + 1) + (M.length + k) := by rw [← hQ]; simp; omega
      have hlZ : Z.length = n - (k + 1) + B.length := by rw [← hZ]; simp; omega
      rw [hP, hQ, hZ] at hrow E2
      obtain ⟨p, hp0⟩ : ∃ p, a + k = p := ⟨_, rfl⟩
      obtain ⟨q, hq0⟩ : ∃ q, b + k = q := ⟨_, rfl⟩
      have hp : p = P.length := by omega
      have hq : q = P.length + 1 + Q.length := by omega
      have hq2 : q = (P ++ x :: Q).length := by simp; omega
      have hpN : p < N := by omega
      have hqN : q < N := by omega
      have hpl : p < (P ++ x :: (Q ++ y :: Z)).length := by simp; omega
      have hql : q < ((P ++ x :: (Q ++ y :: Z)).set p y).length := by simp; omega
      have hpi : (a : Int) + (k : Int) = (p : Int) := by omega
      have hqi : (b : Int) + (k : Int) = (q : Int) := by omega
      have hwp : IntKind.wrap .i64 (p : Int) = p := IntWalk.i64_in _ (by omega)
      have hwq : IntKind.wrap .i64 (q : Int) = q := IntWalk.i64_in _ (by omega)
      have hpN' : (p : Int) < (N : Int) := by omega
      have hqN' : (q : Int) < (N : Int) := by omega
      have hSM : ∀ z, (fun c z => c = false → RowB storeC 2 86 z g (P ++ x :: (Q ++ y :: Z))) false z → (fun c z => c = false → RowB storeC 2 86 z g (P ++ x :: (Q ++ y :: Z))) true z := fun z _ e => absurd (e : true = false) (by decide)
      clear e1 e2 hx hy0 hP hQ hZ
      have hrd : RowB storeC 2 86 wr.drew g (P ++ x :: (Q ++ y :: Z)) := RowB.move hrow rfl
      have HPQ := Lib.hid (And.intro hp (And.intro hq2 (And.intro hpl (And.intro hql hq))))
      clear hlP hlQ hlZ hp0 hq0 hp hq hq2 hpl hql hkX hkY ha hb hX hY hNl
      go_upto_region 3 with (fail)
      refine wp_region_late 21 (fun c z => c = false → RowB storeC 2 86 z g (P ++ x :: (Q ++ y :: Z))) (by kernel_rfl) (fun hL => ?_)
      refine late_early (i := 0) (v := ?_) rfl (by kernel_rfl) (by kernel_rfl) (by kernel_rfl) (by decide) (by kernel_rfl) (fun _ _ _ h => h) hL (Or.inl ⟨by rfl, ?_⟩) (fun _ => hrd) (fun hL' => ?_)
      rotate_left
      · intro y hy; clear hy; go_simp; (try with_reducible rfl)
      clear hL; rename Shutb _ _ => hL
      (try simp only [Act.put, List.getElem_toArray, List.getElem_cons_zero, List.getElem_cons_succ, List.setIfInBounds_toArray, List.set_cons_zero, List.set_cons_succ])
      refine late_early (i := 1) (v := ?_) rfl (by kernel_rfl) (by kernel_rfl) (by kernel_rfl) (by decide) (by kernel_rfl) (fun _ _ _ h => h) hL (Or.inl ⟨by rfl, ?_⟩) (fun _ => hrd) (fun hL' => ?_)
      rotate_left
      · intro y hy; clear hy; go_simp; (try with_reducible rfl)
      clear hL; rename Shutb _ _ => hL
      (try simp only [Act.put, List.getElem_toArray, List.getElem_cons_zero, List.getElem_cons_succ, List.setIfInBounds_toArray, List.set_cons_zero, List.set_cons_succ])
      refine late_early (i := 2) (v := ?_) rfl (by kernel_rfl) (by kernel_rfl) (by kernel_rfl) (by decide) (by kernel_rfl) (fun _ _ _ h => h) hL (Or.inl ⟨by rfl, ?_⟩) (fun _ => hrd) (fun hL' => ?_)
      rotate_left
      · intro y hy; clear hy; go_simp; (try with_reducible rfl)
      clear hL; rename Shutb _ _ => hL
      (try simp only [Act.put, List.getElem_toArray, List.getElem_cons_zero, List.getElem_cons_succ, List.setIfInBounds_toArray, List.set_cons_zero, List.set_cons_succ])
      refine late_early (i := 3) (v := ?_) rfl (by kernel_rfl) (by kernel_rfl) (by kernel_rfl) (by decide) (by kernel_rfl) (fun _ _ _ h => h) hL (Or.inl ⟨by rfl, ?_⟩) (fun _ => hrd) (fun hL' => ?_)
      rotate_left
      · intro y hy; clear hy; go_simp; (try with_reducible rfl)
      clear hL; rename Shutb _ _ => hL
      (try simp only [Act.put, List.getElem_toArray, List.getElem_cons_zero, List.getElem_cons_succ, List.setIfInBounds_toArray, List.set_cons_zero, List.set_cons_succ])
      refine late_early (i := 8) (v := ?_) rfl (by kernel_rfl) (by kernel_rfl) (by kernel_rfl) (by decide) (by kernel_rfl) (fun _ _ _ h => h) hL (Or.inl ⟨by rfl, ?_⟩) (fun _ => hrd) (fun hL' => ?_)
      rotate_left
      · intro y hy; clear hy; go_simp; (try with_reducible rfl)
      clear hL; rename Shutb _ _ => hL
      (try simp only [Act.put, List.getElem_toArray, List.getElem_cons_zero, List.getElem_cons_succ, List.setIfInBounds_toArray, List.set_cons_zero, List.set_cons_succ])
      refine late_early (i := 9) (v := ?_) rfl (by kernel_rfl) (by kernel_rfl) (by kernel_rfl) (by decide) (by kernel_rfl) (fun _ _ _ h => h) hL (Or.inl ⟨by rfl, ?_⟩) (fun _ => hrd) (fun hL' => ?_)
      rotate_left
      · intro y hy; clear hy; go_simp; (try with_reducible rfl)
      clear hL; rename Shutb _ _ => hL
      (try simp only [Act.put, List.getElem_toArray, List.getElem_cons_zero, List.getElem_cons_succ, List.setIfInBounds_toArray, List.set_cons_zero, List.set_cons_succ])
      refine late_early (i := 10) (v := ?_) rfl (by kernel_rfl) (by kernel_rfl) (by kernel_rfl) (by decide) (by kernel_rfl) (fun _ _ _ h => h) hL (Or.inl ⟨by rfl, ?_⟩) (fun _ => hrd) (fun hL' => ?_)
      rotate_left
      · intro y hy; clear hy; go_simp; (try with_reducible rfl)
      clear hL; rename Shutb _ _ => hL
      (try simp only [Act.put, List.getElem_toArray, List.getElem_cons_zero, List.getElem_cons_succ, List.setIfInBounds_toArray, List.set_cons_zero, List.set_cons_succ])
      refine late_early (i := 11) (v := ?_) rfl (by kernel_rfl) (by kernel_rfl) (by kernel_rfl) (by decide) (by kernel_rfl) (fun _ _ _ h => h) hL (Or.inl ⟨by rfl, ?_⟩) (fun _ => hrd) (fun hL' => ?_)
      rotate_left
      · intro y hy; clear hy; go_simp; (try with_reducible rfl)
      clear hL; rename Shutb _ _ => hL
      (try simp only [Act.put, List.getElem_toArray, List.getElem_cons_zero, List.getElem_cons_succ, List.setIfInBounds_toArray, List.set_cons_zero, List.set_cons_succ])
      refine late_early (i := 12) (v := ?_) rfl (by kernel_rfl) (by kernel_rfl) (by kernel_rfl) (by decide) (by kernel_rfl) (fun _ _ _ h => h) hL (Or.inl ⟨by rfl, ?_⟩) (fun _ => hrd) (fun hL' => ?_)
      rotate_left
      · intro y hy; clear hy; go_simp; (try with_reducible rfl)
      clear hL; rename Shutb _ _ => hL
      (try simp only [Act.put, List.getElem_toArray, List.getElem_cons_zero, List.getElem_cons_succ, List.setIfInBounds_toArray, List.set_cons_zero, List.set_cons_succ])
      refine late_early (i := 13) (v := ?_) rfl (by kernel_rfl) (by kernel_rfl) (by kernel_rfl) (by decide) (by kernel_rfl) (fun _ _ _ h => h) hL (Or.inl ⟨by rfl, ?_⟩) (fun _ => hrd) (fun hL' => ?_)
      rotate_left
      · intro y hy; have hz := hy rfl; clear hy; obtain ⟨g1, g2⟩ := atSt (P := P ++ x :: Q) (by simpa using hz) HPQ.out.2.1; have g3 := RowB.lt hz; go_simp; (try with_reducible rfl)
      clear hL; rename Shutb _ _ => hL
      (try simp only [Act.put, List.getElem_toArray, List.getElem_cons_zero, List.getElem_cons_succ, List.setIfInBounds_toArray, List.set_cons_zero, List.set_cons_succ])
      refine late_early (i := 14) (v := ?_) rfl (by kernel_rfl) (by kernel_rfl) (by kernel_rfl) (by decide) (by kernel_rfl) (fun _ _ _ h => h) hL (Or.inl ⟨by rfl, ?_⟩) (fun _ => hrd) (fun hL' => ?_)
      rotate_left
      · intro y hy; clear hy; go_simp; (try with_reducible rfl)
      clear hL; rename Shutb _ _ => hL
      (try simp only [Act.put, List.getElem_toArray, List.getElem_cons_zero, List.getElem_cons_succ, List.setIfInBounds_toArray, List.set_cons_zero, List.set_cons_succ])
      refine late_early (i := 15) (v := ?_) rfl (by kernel_rfl) (by kernel_rfl) (by kernel_rfl) (by decide) (by kernel_rfl) (fun _ _ _ h => h) hL (Or.inl ⟨by rfl, ?_⟩) (fun _ => hrd) (fun hL' => ?_)
      rotate_left
      · intro y hy; clear hy; go_simp; (try with_reducible rfl)
      clear hL; rename Shutb _ _ => hL
      (try simp only [Act.put, List.getElem_toArray, List.getElem_cons_zero, List.getElem_cons_succ, List.setIfInBounds_toArray, List.set_cons_zero, List.set_cons_succ])
      refine late_early (i := 16) (v := ?_) rfl (by kernel_rfl) (by kernel_rfl) (by kernel_rfl) (by decide) (by kernel_rfl) (fun _ _ _ h => h) hL (Or.inl ⟨by rfl, ?_⟩) (fun _ => hrd) (fun hL' => ?_)
      rotate_left
      · intro y hy; clear hy; go_simp; (try with_reducible rfl)
      clear hL; rename Shutb _ _ => hL
      (try simp only [Act.put, List.getElem_toArray, List.getElem_cons_zero, List.getElem_cons_succ, List.setIfInBounds_toArray, List.set_cons_zero, List.set_cons_succ])
      refine late_early (i := 17) (v := ?_) rfl (by kernel_rfl) (by kernel_rfl) (by kernel_rfl) (by decide) (by kernel_rfl) (fun _ _ _ h => h) hL (Or.inl ⟨by rfl, ?_⟩) (fun _ => hrd) (fun hL' => ?_)
      rotate_left
      · intro y hy; clear hy; go_simp; (try with_reducible rfl)
      clear hL; rename Shutb _ _ => hL
      (try simp only [Act.put, List.getElem_toArray, List.getElem_cons_zero, List.getElem_cons_succ, List.setIfInBounds_toArray, List.set_cons_zero, List.set_cons_succ])
      refine late_early (i := 18) (v := ?_) rfl (by kernel_rfl) (by kernel_rfl) (by kernel_rfl) (by decide) (by kernel_rfl) (fun _ _ _ h => h) hL (Or.inl ⟨by rfl, ?_⟩) (fun _ => hrd) (fun hL' => ?_)
      rotate_left
      · intro y hy; clear hy; go_simp; (try with_reducible rfl)
      clear hL; rename Shutb _ _ => hL
      (try simp only [Act.put, List.getElem_toArray, List.getElem_cons_zero, List.getElem_cons_succ, List.setIfInBounds_toArray, List.set_cons_zero, List.set_cons_succ])
      refine late_early (i := 19) (v := ?_) rfl (by kernel_rfl) (by kernel_rfl) (by kernel_rfl) (by decide) (by kernel_rfl) (fun _ _ _ h => h) hL (Or.inl ⟨by rfl, ?_⟩) (fun _ => hrd) (fun hL' => ?_)
      rotate_left
      · intro y hy; have hz := hy rfl; clear hy; obtain ⟨g1, g2⟩ := atSt hz HPQ.out.1; have g3 := RowB.lt hz; go_simp; (try with_reducible rfl)
      clear hL; rename Shutb _ _ => hL
      (try simp only [Act.put, List.getElem_toArray, List.getElem_cons_zero, List.getElem_cons_succ, List.setIfInBounds_toArray, List.set_cons_zero, List.set_cons_succ])
      refine late_late (i := 4) (v := ?_) rfl (by kernel_rfl) (by kernel_rfl) (by kernel_rfl) (by decide) hSM (fun _ _ _ h => h) hL (Or.inl ⟨by rfl, ?_⟩) (fun _ => hrd) (fun hL' => ?_)
      rotate_left
      · intro y hy; clear hy; go_simp; (try with_reducible rfl)
      clear hL; rename Shutb _ _ => hL
      (try simp only [Act.put, List.getElem_toArray, List.getElem_cons_zero, List.getElem_cons_succ, List.setIfInBounds_toArray, List.set_cons_zero, List.set_cons_succ])
      refine late_late (i := 5) (v := ?_) rfl (by kernel_rfl) (by kernel_rfl) (by kernel_rfl) (by decide) hSM (fun _ _ _ h => h) hL (Or.inl ⟨by rfl, ?_⟩) (fun _ => hrd) (fun hL' => ?_)
      rotate_left
      · intro y hy; clear hy; go_simp; (try with_reducible rfl)
      clear hL; rename Shutb _ _ => hL
      (try simp only [Act.put, List.getElem_toArray, List.getElem_cons_zero, List.getElem_cons_succ, List.setIfInBounds_toArray, List.set_cons_zero, List.set_cons_succ])
      refine late_late (i := 6) (v := ?_) rfl (by kernel_rfl) (by kernel_rfl) (by kernel_rfl) (by decide) hSM (fun _ _ _ h => h) hL (Or.inl ⟨by rfl, ?_⟩) (fun _ => hrd) (fun hL' => ?_)
      rotate_left
      · intro y hy; clear hy; go_simp; (try with_reducible rfl)
      clear hL; rename Shutb _ _ => hL
      (try simp only [Act.put, List.getElem_toArray, List.getElem_cons_zero, List.getElem_cons_succ, List.setIfInBounds_toArray, List.set_cons_zero, List.set_cons_succ])
      refine late_late (i := 7) (v := ?_) rfl (by kernel_rfl) (by kernel_rfl) (by kernel_rfl) (by decide) hSM (fun _ _ _ h => h) hL (Or.inl ⟨by rfl, ?_⟩) (fun _ => hrd) (fun hL' => ?_)
      rotate_left
      · intro y hy; clear hy; go_simp; (try with_reducible rfl)
      clear hL; rename Shutb _ _ => hL
      (try simp only [Act.put, List.getElem_toArray, List.getElem_cons_zero, List.getElem_cons_succ, List.setIfInBounds_toArray, List.set_cons_zero, List.set_cons_succ])
      refine late_one (i := 20) (by kernel_rfl) hL (fun hL' => ?_)
      refine wpOp_step rfl (fun K hK0 => ?_)
      have hK : Shut _ := hK0
      clear hK0
      go_simp
      refine hK.out _ _ ⟨fun _ => hrd, ?_⟩
      clear hK K; clear hL; rename Shutb _ _ => hL
      (try simp only [Act.put, List.getElem_toArray, List.getElem_cons_zero, List.getElem_cons_succ, List.setIfInBounds_toArray, List.set_cons_zero, List.set_cons_succ])
      obtain ⟨d1, d2⟩ := atSt hrow HPQ.out.1
      have d3 := RowB.free hrow
      have d4 := RowB.lt hrow
      refine late_one (i := 21) (by kernel_rfl) hL (fun hL' => ?_)
      refine wpOp_step rfl (fun K hK0 => ?_)
      have hK : Shut _ := hK0
      clear hK0
      go_simp
      refine hK.out _ _ ⟨fun e => absurd (e : true = false) (by decide), ?_⟩
      clear hK K; clear hL; rename Shutb _ _ => hL
      (try simp only [Act.put, List.getElem_toArray, List.getElem_cons_zero, List.getElem_cons_succ, List.setIfInBounds_toArray, List.set_cons_zero, List.set_cons_succ])
      clear d1 d3 d4 d2
      have hO1 := hO.set (a := ⟨g, p * 2, none⟩) (.inl rfl) (.int .i64 y.1) |>.set (a := ⟨g, p * 2 + 1, none⟩) (.inl rfl) (.int .i64 y.2)
      have hr1 := RowB.set_two hrow p HPQ.out.2.2.1 y
      obtain ⟨wm, hwm⟩ : ∃ wm, ((wr.setCell ⟨g, p * 2, none⟩ (.int .i64 y.1)).setCell ⟨g, p * 2 + 1, none⟩ (.int .i64 y.2)) = wm := ⟨_, rfl⟩
      rw [hwm] at hr1 hO1 ⊢
      clear hwm
      have hr1' := hr1
      rw [set_at P (Q ++ y :: Z) x y HPQ.out.1, show P ++ y :: (Q ++ y :: Z) = (P ++ y :: Q) ++ y :: Z by simp] at hr1'
      obtain ⟨d1, d2⟩ := atSt hr1' (p := q) (by simpa using HPQ.out.2.1)
      have d3 := RowB.free hr1
      have d4 := RowB.lt hr1
      refine late_one (i := 22) (by kernel_rfl) hL (fun hL' => ?_)
      refine wpOp_step rfl (fun K hK0 => ?_)
      have hK : Shut _ := hK0
      clear hK0
      go_simp
      refine hK.out _ _ ⟨fun e => absurd (e : true = false) (by decide), ?_⟩
      clear hK K; clear hL; rename Shutb _ _ => hL
      (try simp only [Act.put, List.getElem_toArray, List.getElem_cons_zero, List.getElem_cons_succ, List.setIfInBounds_toArray, List.set_cons_zero, List.set_cons_succ])
      refine late_one (i := 23) (by kernel_rfl) hL (fun hL' => ?_)
      refine wpOp_step rfl (fun K hK0 => ?_)
      have hK : Shut _ := hK0
      clear hK0
      go_simp
      refine hK.out _ _ ⟨fun e => absurd (e : true = false) (by decide), ?_⟩
      clear hK K; clear hL; rename Shutb _ _ => hL
      (try simp only [Act.put, List.getElem_toArray, List.getElem_cons_zero, List.getElem_cons_succ, List.setIfInBounds_toArray, List.set_cons_zero, List.set_cons_succ])
      refine late_done (by kernel_rfl) ?_
      (try dsimp only [Exit.then])
      clear d1 d3 d4 hr1' d2
      have hr2 := RowB.set_two hr1 q HPQ.out.2.2.2.1 x
      rw [S.swap_set P Q Z x y p q HPQ.out.1 HPQ.out.2.2.2.2, ← E2.out] at hr2
      have hO2 := hO1.set (a := ⟨g, q * 2, none⟩) (.inl rfl) (.int .i64 x.1) |>.set (a := ⟨g, q * 2 + 1, none⟩) (.inl rfl) (.int .i64 x.2)
      go_wp2
      go_roundw
      case rel => exact ⟨k + 1, by omega, by go_num, by rw [HC2.out]; exact RowB.move hr2 rfl, hO2.ext ((Ext.refl _).drew)⟩
      case measure => simp [intOf]; omega
    · obtain rfl : k = n := by omega
      obtain ⟨ha, hb, hX, hY, hNl⟩ := HF.out
      have hfin : A ++ (Y.take k ++ (X.drop k ++ (M ++ (X.take k ++ (Y.drop k ++ B))))) = A ++ (Y ++ (M ++ (X ++ B))) := by rw [List.take_of_length_le (by omega), List.drop_eq_nil_of_le (by omega : X.length ≤ k), List.take_of_length_le (by omega : X.length ≤ k), List.drop_eq_nil_of_le (by omega)]; simp
      rw [hfin] at hrow
      clear hfin ha hb hX hY hNl
      go_wp2
      go_end0
      exact ⟨rfl, hrow, hO⟩

set_option maxRecDepth 100000 in
set_option maxHeartbeats 4000000 in
theorem swapRangeIn (A X M Y B : List (Int)) (g cap a b n N : Nat) (vc : Value) (w : World) (ha : a = A.length) (hb : b = A.length + X.length + M.length) (hX : X.length = n) (hY : Y.length = n)
    (hN : N = (A ++ (X ++ (M ++ (Y ++ B)))).length) (hsz : N ≤ 1000000) (h : RowB intC 1 3 w g (A ++ (X ++ (M ++ (Y ++ B))))) :
    Calls Try.prog 94 #[.slice (some ⟨g, 0, none⟩) N cap, .int .i64 a, .int .i64 b, .int .i64 n, vc] w fun e w' => e = .returned (.tuple #[]) ∧ RowB intC 1 3 w' g (A ++ (Y ++ (M ++ (X ++ B)))) ∧ Off g w w' := by
  have hNl : N = A.length + n + M.length + n + B.length := by rw [hN]; simp; omega
  have H := Lib.hid h
  have HF := Lib.hid (And.intro ha (And.intro hb (And.intro hX (And.intro hY hNl))))
  have hbN : b + n ≤ N := by omega
  have haN : a + n ≤ N := by omega
  clear h hN ha hb hX hY hNl
  go_enter Try.func94, Try.ntmps94
  go_wp2
  go_loopw [10] (fun i wr => ∃ k : Nat, k ≤ n ∧ i = .int .i64 k ∧ RowB intC 1 3 wr g (A ++ (Y.take k ++ (X.drop k ++ (M ++ (X.take k ++ (Y.drop k ++ B)))))) ∧ Off g w wr) (fun i _ => n - (intOf i).toNat)
  case atStart => exact ⟨0, Nat.zero_le _, rfl, by simpa using H.out, Off.refl _ _⟩
  case round =>
    rename World => wr
    obtain ⟨k, hk, rfl, hrow, hO⟩ := hrel
    by_cases hlt : k < n
    · obtain ⟨ha, hb, hX, hY, hNl⟩ := HF.out
      have hkX : k < X.length := by omega
      have hkY : k < Y.length := by omega
      obtain ⟨x, hx⟩ : ∃ x, X[k] = x := ⟨_, rfl⟩
      obtain ⟨y, hy0⟩ : ∃ y, Y[k] = y := ⟨_, rfl⟩
      have e1 : A ++ (Y.take k ++ (X.drop k ++ (M ++ (X.take k ++ (Y.drop k ++ B))))) = (A ++ Y.take k) ++ x :: ((X.drop (k + 1) ++ (M ++ X.take k)) ++ y :: (Y.drop (k + 1) ++ B)) := by
        rw [List.drop_eq_getElem_cons hkX, List.drop_eq_getElem_cons hkY, hx, hy0]; simp
      have e2 : A ++ (Y.take (k + 1) ++ (X.drop (k + 1) ++ (M ++ (X.take (k + 1) ++ (Y.drop (k + 1) ++ B))))) = (A ++ Y.take k) ++ y :: ((X.drop (k + 1) ++ (M ++ X.take k)) ++ x :: (Y.drop (k + 1) ++ B)) := by
        rw [List.take_succ_eq_append_getElem hkX, List.take_succ_eq_append_getElem hkY, hx, hy0]; simp
      rw [e1] at hrow
      obtain ⟨C2, hC2⟩ : ∃ C2, A ++ (Y.take (k + 1) ++ (X.drop (k + 1) ++ (M ++ (X.take (k + 1) ++ (Y.drop (k + 1) ++ B))))) = C2 := ⟨_, rfl⟩
      rw [hC2] at e2
      have HC2 := Lib.hid hC2
      have E2 := Lib.hid e2
      clear hC2
      obtain ⟨P, hP⟩ : ∃ P, A ++ Y.take k = P := ⟨_, rfl⟩
      obtain ⟨Q, hQ⟩ : ∃ Q, X.drop (k + 1) ++ (M ++ X.take k) = Q := ⟨_, rfl⟩
      obtain ⟨Z, hZ⟩ : ∃ Z, Y.drop (k + 1) ++ B = Z := ⟨_, rfl⟩
      have hlP : P.length = a + k := by rw [← hP, ha]; simp; omega
      have hlQ : Q.length = n - (k + 1) + (M.length + k) := by rw [← hQ]; simp; omega
      have hlZ : Z.length = n - (k + 1) + B.length := by rw [← hZ]; simp; omega
      rw [hP, hQ, hZ] at hrow E2
      obtain ⟨p, hp0⟩ : ∃ p, a + k = p := ⟨_, rfl⟩
      obtain ⟨q, hq0⟩ : ∃ q, b + k = q := ⟨_, rfl⟩
      have hp : p = P.length := by omega
      have hq : q = P.length + 1 + Q.length := by omega
      have hq2 : q = (P ++ x :: Q).length := by simp; omega
      have hpN : p < N := by omega
      have hqN : q < N := by omega
      have hpl : p < (P ++ x :: (Q ++ y :: Z)).length := by simp; omega
      have hql : q < ((P ++ x :: (Q ++ y :: Z)).set p y).length := by simp; omega
      have hpi : (a : Int) + (k : Int) = (p : Int) := by omega
      have hqi : (b : Int) + (k : Int) = (q : Int) := by omega
      have hwp : IntKind.wrap .i64 (p : Int) = p := IntWalk.i64_in _ (by omega)
      have hwq : IntKind.wrap .i64 (q : Int) = q := IntWalk.i64_in _ (by omega)
      have hpN' : (p : Int) < (N : Int) := by omega
      have hqN' : (q : Int) < (N : Int) := by omega
      have hSM : ∀ z, (fun c z => c = false → RowB intC 1 3 z g (P ++ x :: (Q ++ y :: Z))) false z → (fun c z => c = false → RowB intC 1 3 z g (P ++ x :: (Q ++ y :: Z))) true z := fun z _ e => absurd (e : true = false) (by decide)
      clear e1 e2 hx hy0 hP hQ hZ
      have hrd : RowB intC 1 3 wr.drew g (P ++ x :: (Q ++ y :: Z)) := RowB.move hrow rfl
      have HPQ := Lib.hid (And.intro hp (And.intro hq2 (And.intro hpl (And.intro hql hq))))
      clear hlP hlQ hlZ hp0 hq0 hp hq hq2 hpl hql hkX hkY ha hb hX hY hNl
      go_upto_region 3 with (fail)
      refine wp_region_late 21 (fun c z => c = false → RowB intC 1 3 z g (P ++ x :: (Q ++ y :: Z))) (by kernel_rfl) (fun hL => ?_)
      refine late_early (i := 0) (v := ?_) rfl (by kernel_rfl) (by kernel_rfl) (by kernel_rfl) (by decide) (by kernel_rfl) (fun _ _ _ h => h) hL (Or.inl ⟨by rfl, ?_⟩) (fun _ => hrd) (fun hL' => ?_)
      rotate_left
      · intro y hy; clear hy; go_simp; (try with_reducible rfl)
      clear hL; rename Shutb _ _ => hL
      (try simp only [Act.put, List.getElem_toArray, List.getElem_cons_zero, List.getElem_cons_succ, List.setIfInBounds_toArray, List.set_cons_zero, List.set_cons_succ])
      refine late_early (i := 1) (v := ?_) rfl (by kernel_rfl) (by kernel_rfl) (by kernel_rfl) (by decide) (by kernel_rfl) (fun _ _ _ h => h) hL (Or.inl ⟨by rfl, ?_⟩) (fun _ => hrd) (fun hL' => ?_)
      rotate_left
      · intro y hy; clear hy; go_simp; (try with_reducible rfl)
      clear hL; rename Shutb _ _ => hL
      (try simp only [Act.put, List.getElem_toArray, List.getElem_cons_zero, List.getElem_cons_succ, List.setIfInBounds_toArray, List.set_cons_zero, List.set_cons_succ])
      refine late_early (i := 2) (v := ?_) rfl (by kernel_rfl) (by kernel_rfl) (by kernel_rfl) (by decide) (by kernel_rfl) (fun _ _ _ h => h) hL (Or.inl ⟨by rfl, ?_⟩) (fun _ => hrd) (fun hL' => ?_)
      rotate_left
      · intro y hy; clear hy; go_simp; (try with_reducible rfl)
      clear hL; rename Shutb _ _ => hL
      (try simp only [Act.put, List.getElem_toArray, List.getElem_cons_zero, List.getElem_cons_succ, List.setIfInBounds_toArray, List.set_cons_zero, List.set_cons_succ])
      refine late_early (i := 3) (v := ?_) rfl (by kernel_rfl) (by kernel_rfl) (by kernel_rfl) (by decide) (by kernel_rfl) (fun _ _ _ h => h) hL (Or.inl ⟨by rfl, ?_⟩) (fun _ => hrd) (fun hL' => ?_)
      rotate_left
      · intro y hy; clear hy; go_simp; (try with_reducible rfl)
      clear hL; rename Shutb _ _ => hL
      (try simp only [Act.put, List.getElem_toArray, List.getElem_cons_zero, List.getElem_cons_succ, List.setIfInBounds_toArray, List.set_cons_zero, List.set_cons_succ])
      refine late_early (i := 8) (v := ?_) rfl (by kernel_rfl) (by kernel_rfl) (by kernel_rfl) (by decide) (by kernel_rfl) (fun _ _ _ h => h) hL (Or.inl ⟨by rfl, ?_⟩) (fun _ => hrd) (fun hL' => ?_)
      rotate_left
      · intro y hy; clear hy; go_simp; (try with_reducible rfl)
      clear hL; rename Shutb _ _ => hL
      (try simp only [Act.put, List.getElem_toArray, List.getElem_cons_zero, List.getElem_cons_succ, List.setIfInBounds_toArray, List.set_cons_zero, List.set_cons_succ])
      refine late_early (i := 9) (v := ?_) rfl (by kernel_rfl) (by kernel_rfl) (by kernel_rfl) (by decide) (by kernel_rfl) (fun _ _ _ h => h) hL (Or.inl ⟨by rfl, ?_⟩) (fun _ => hrd) (fun hL' => ?_)
      rotate_left
      · intro y hy; clear hy; go_simp; (try with_reducible rfl)
      clear hL; rename Shutb _ _ => hL
      (try simp only [Act.put, List.getElem_toArray, List.getElem_cons_zero, List.getElem_cons_succ, List.setIfInBounds_toArray, List.set_cons_zero, List.set_cons_succ])
      refine late_early (i := 10) (v := ?_) rfl (by kernel_rfl) (by kernel_rfl) (by kernel_rfl) (by decide) (by kernel_rfl) (fun _ _ _ h => h) hL (Or.inl ⟨by rfl, ?_⟩) (fun _ => hrd) (fun hL' => ?_)
      rotate_left
      · intro y hy; clear hy; go_simp; (try with_reducible rfl)
      clear hL; rename Shutb _ _ => hL
      (try simp only [Act.put, List.getElem_toArray, List.getElem_cons_zero, List.getElem_cons_succ, List.setIfInBounds_toArray, List.set_cons_zero, List.set_cons_succ])
      refine late_early (i := 11) (v := ?_) rfl (by kernel_rfl) (by kernel_rfl) (by kernel_rfl) (by decide) (by kernel_rfl) (fun _ _ _ h => h) hL (Or.inl ⟨by rfl, ?_⟩) (fun _ => hrd) (fun hL' => ?_)
      rotate_left
      · intro y hy; clear hy; go_simp; (try with_reducible rfl)
      clear hL; rename Shutb _ _ => hL
      (try simp only [Act.put, List.getElem_toArray, List.getElem_cons_zero, List.getElem_cons_succ, List.setIfInBounds_toArray, List.set_cons_zero, List.set_cons_succ])
      refine late_early (i := 12) (v := ?_) rfl (by kernel_rfl) (by kernel_rfl) (by kernel_rfl) (by decide) (by kernel_rfl) (fun _ _ _ h => h) hL (Or.inl ⟨by rfl, ?_⟩) (fun _ => hrd) (fun hL' => ?_)
      rotate_left
      · intro y hy; clear hy; go_simp; (try with_reducible rfl)
      clear hL; rename Shutb _ _ => hL
      (try simp only [Act.put, List.getElem_toArray, List.getElem_cons_zero, List.getElem_cons_succ, List.setIfInBounds_toArray, List.set_cons_zero, List.set_cons_succ])
      refine late_early (i := 13) (v := ?_) rfl (by kernel_rfl) (by kernel_rfl) (by kernel_rfl) (by decide) (by kernel_rfl) (fun _ _ _ h => h) hL (Or.inl ⟨by rfl, ?_⟩) (fun _ => hrd) (fun hL' => ?_)
      rotate_left
      · intro y hy; have hz := hy rfl; clear hy; have g1 := atIn (P := P ++ x :: Q) (by simpa using hz) HPQ.out.2.1; have g3 := RowB.lt hz; go_simp; (try with_reducible rfl)
      clear hL; rename Shutb _ _ => hL
      (try simp only [Act.put, List.getElem_toArray, List.getElem_cons_zero, List.getElem_cons_succ, List.setIfInBounds_toArray, List.set_cons_zero, List.set_cons_succ])
      refine late_early (i := 14) (v := ?_) rfl (by kernel_rfl) (by kernel_rfl) (by kernel_rfl) (by decide) (by kernel_rfl) (fun _ _ _ h => h) hL (Or.inl ⟨by rfl, ?_⟩) (fun _ => hrd) (fun hL' => ?_)
      rotate_left
      · intro y hy; clear hy; go_simp; (try with_reducible rfl)
      clear hL; rename Shutb _ _ => hL
      (try simp only [Act.put, List.getElem_toArray, List.getElem_cons_zero, List.getElem_cons_succ, List.setIfInBounds_toArray, List.set_cons_zero, List.set_cons_succ])
      refine late_early (i := 15) (v := ?_) rfl (by kernel_rfl) (by kernel_rfl) (by kernel_rfl) (by decide) (by kernel_rfl) (fun _ _ _ h => h) hL (Or.inl ⟨by rfl, ?_⟩) (fun _ => hrd) (fun hL' => ?_)
      rotate_left
      · intro y hy; clear hy; go_simp; (try with_reducible rfl)
      clear hL; rename Shutb _ _ => hL
      (try simp only [Act.put, List.getElem_toArray, List.getElem_cons_zero, List.getElem_cons_succ, List.setIfInBounds_toArray, List.set_cons_zero, List.set_cons_succ])
      refine late_early (i := 16) (v := ?_) rfl (by kernel_rfl) (by kernel_rfl) (by kernel_rfl) (by decide) (by kernel_rfl) (fun _ _ _ h => h) hL (Or.inl ⟨by rfl, ?_⟩) (fun _ => hrd) (fun hL' => ?_)
      rotate_left
      · intro y hy; clear hy; go_simp; (try with_reducible rfl)
      clear hL; rename Shutb _ _ => hL
      (try simp only [Act.put, List.getElem_toArray, List.getElem_cons_zero, List.getElem_cons_succ, List.setIfInBounds_toArray, List.set_cons_zero, List.set_cons_succ])
      refine late_early (i := 17) (v := ?_) rfl (by kernel_rfl) (by kernel_rfl) (by kernel_rfl) (by decide) (by kernel_rfl) (fun _ _ _ h => h) hL (Or.inl ⟨by rfl, ?_⟩) (fun _ => hrd) (fun hL' => ?_)
      rotate_left
      · intro y hy; clear hy; go_simp; (try with_reducible rfl)
      clear hL; rename Shutb _ _ => hL
      (try simp only [Act.put, List.getElem_toArray, List.getElem_cons_zero, List.getElem_cons_succ, List.setIfInBounds_toArray, List.set_cons_zero, List.set_cons_succ])
      refine late_early (i := 18) (v := ?_) rfl (by kernel_rfl) (by kernel_rfl) (by kernel_rfl) (by decide) (by kernel_rfl) (fun _ _ _ h => h) hL (Or.inl ⟨by rfl, ?_⟩) (fun _ => hrd) (fun hL' => ?_)
      rotate_left
      · intro y hy; clear hy; go_simp; (try with_reducible rfl)
      clear hL; rename Shutb _ _ => hL
      (try simp only [Act.put, List.getElem_toArray, List.getElem_cons_zero, List.getElem_cons_succ, List.setIfInBounds_toArray, List.set_cons_zero, List.set_cons_succ])
      refine late_early (i := 19) (v := ?_) rfl (by kernel_rfl) (by kernel_rfl) (by kernel_rfl) (by decide) (by kernel_rfl) (fun _ _ _ h => h) hL (Or.inl ⟨by rfl, ?_⟩) (fun _ => hrd) (fun hL' => ?_)
      rotate_left
      · intro y hy; have hz := hy rfl; clear hy; have g1 := atIn hz HPQ.out.1; have g3 := RowB.lt hz; go_simp; (try with_reducible rfl)
      clear hL; rename Shutb _ _ => hL
      (try simp only [Act.put, List.getElem_toArray, List.getElem_cons_zero, List.getElem_cons_succ, List.setIfInBounds_toArray, List.set_cons_zero, List.set_cons_succ])
      refine late_late (i := 4) (v := ?_) rfl (by kernel_rfl) (by kernel_rfl) (by kernel_rfl) (by decide) hSM (fun _ _ _ h => h) hL (Or.inl ⟨by rfl, ?_⟩) (fun _ => hrd) (fun hL' => ?_)
      rotate_left
      · intro y hy; clear hy; go_simp; (try with_reducible rfl)
      clear hL; rename Shutb _ _ => hL
      (try simp only [Act.put, List.getElem_toArray, List.getElem_cons_zero, List.getElem_cons_succ, List.setIfInBounds_toArray, List.set_cons_zero, List.set_cons_succ])
      refine late_late (i := 5) (v := ?_) rfl (by kernel_rfl) (by kernel_rfl) (by kernel_rfl) (by decide) hSM (fun _ _ _ h => h) hL (Or.inl ⟨by rfl, ?_⟩) (fun _ => hrd) (fun hL' => ?_)
      rotate_left
      · intro y hy; clear hy; go_simp; (try with_reducible rfl)
      clear hL; rename Shutb _ _ => hL
      (try simp only [Act.put, List.getElem_toArray, List.getElem_cons_zero, List.getElem_cons_succ, List.setIfInBounds_toArray, List.set_cons_zero, List.set_cons_succ])
      refine late_late (i := 6) (v := ?_) rfl (by kernel_rfl) (by kernel_rfl) (by kernel_rfl) (by decide) hSM (fun _ _ _ h => h) hL (Or.inl ⟨by rfl, ?_⟩) (fun _ => hrd) (fun hL' => ?_)
      rotate_left
      · intro y hy; clear hy; go_simp; (try with_reducible rfl)
      clear hL; rename Shutb _ _ => hL
      (try simp only [Act.put, List.getElem_toArray, List.getElem_cons_zero, List.getElem_cons_succ, List.setIfInBounds_toArray, List.set_cons_zero, List.set_cons_succ])
      refine late_late (i := 7) (v := ?_) rfl (by kernel_rfl) (by kernel_rfl) (by kernel_rfl) (by decide) hSM (fun _ _ _ h => h) hL (Or.inl ⟨by rfl, ?_⟩) (fun _ => hrd) (fun hL' => ?_)
      rotate_left
      · intro y hy; clear hy; go_simp; (try with_reducible rfl)
      clear hL; rename Shutb _ _ => hL
      (try simp only [Act.put, List.getElem_toArray, List.getElem_cons_zero, List.getElem_cons_succ, List.setIfInBounds_toArray, List.set_cons_zero, List.set_cons_succ])
      refine late_one (i := 20) (by kernel_rfl) hL (fun hL' => ?_)
      refine wpOp_step rfl (fun K hK0 => ?_)
      have hK : Shut _ := hK0
      clear hK0
      go_simp
      refine hK.out _ _ ⟨fun _ => hrd, ?_⟩
      clear hK K; clear hL; rename Shutb _ _ => hL
      (try simp only [Act.put, List.getElem_toArray, List.getElem_cons_zero, List.getElem_cons_succ, List.setIfInBounds_toArray, List.set_cons_zero, List.set_cons_succ])
      have d1 := atIn hrow HPQ.out.1
      have d3 := RowB.free hrow
      have d4 := RowB.lt hrow
      refine late_one (i := 21) (by kernel_rfl) hL (fun hL' => ?_)
      refine wpOp_step rfl (fun K hK0 => ?_)
      have hK : Shut _ := hK0
      clear hK0
      go_simp
      refine hK.out _ _ ⟨fun e => absurd (e : true = false) (by decide), ?_⟩
      clear hK K; clear hL; rename Shutb _ _ => hL
      (try simp only [Act.put, List.getElem_toArray, List.getElem_cons_zero, List.getElem_cons_succ, List.setIfInBounds_toArray, List.set_cons_zero, List.set_cons_succ])
      clear d1 d3 d4
      have hO1 := hO.set (a := ⟨g, p, none⟩) (.inl rfl) (.int .i64 y)
      have hr1 := IRow.set hrow p HPQ.out.2.2.1 y
      obtain ⟨wm, hwm⟩ : ∃ wm, (wr.setCell ⟨g, p, none⟩ (.int .i64 y)) = wm := ⟨_, rfl⟩
      rw [hwm] at hr1 hO1 ⊢
      clear hwm
      have hr1' := hr1
      rw [set_at P (Q ++ y :: Z) x y HPQ.out.1, show P ++ y :: (Q ++ y :: Z) = (P ++ y :: Q) ++ y :: Z by simp] at hr1'
      have d1 := atIn hr1' (p := q) (by simpa using HPQ.out.2.1)
      have d3 := RowB.free hr1
      have d4 := RowB.lt hr1
      refine late_one (i := 22) (by kernel_rfl) hL (fun hL' => ?_)
      refine wpOp_step rfl (fun K hK0 => ?_)
      have hK : Shut _ := hK0
      clear hK0
      go_simp
      refine hK.out _ _ ⟨fun e => absurd (e : true = false) (by decide), ?_⟩
      clear hK K; clear hL; rename Shutb _ _ => hL
      (try simp only [Act.put, List.getElem_toArray, List.getElem_cons_zero, List.getElem_cons_succ, List.setIfInBounds_toArray, List.set_cons_zero, List.set_cons_succ])
      refine late_one (i := 23) (by kernel_rfl) hL (fun hL' => ?_)
      refine wpOp_step rfl (fun K hK0 => ?_)
      have hK : Shut _ := hK0
      clear hK0
      go_simp
      refine hK.out _ _ ⟨fun e => absurd (e : true = false) (by decide), ?_⟩
      clear hK K; clear hL; rename Shutb _ _ => hL
      (try simp only [Act.put, List.getElem_toArray, List.getElem_cons_zero, List.getElem_cons_succ, List.setIfInBounds_toArray, List.set_cons_zero, List.set_cons_succ])
      refine late_done (by kernel_rfl) ?_
      (try dsimp only [Exit.then])
      clear d1 d3 d4 hr1'
      have hr2 := IRow.set hr1 q HPQ.out.2.2.2.1 x
      rw [S.swap_set P Q Z x y p q HPQ.out.1 HPQ.out.2.2.2.2, ← E2.out] at hr2
      have hO2 := hO1.set (a := ⟨g, q, none⟩) (.inl rfl) (.int .i64 x)
      go_wp2
      go_roundw
      case rel => exact ⟨k + 1, by omega, by go_num, by rw [HC2.out]; exact RowB.move hr2 rfl, hO2.ext ((Ext.refl _).drew)⟩
      case measure => simp [intOf]; omega
    · obtain rfl : k = n := by omega
      obtain ⟨ha, hb, hX, hY, hNl⟩ := HF.out
      have hfin : A ++ (Y.take k ++ (X.drop k ++ (M ++ (X.take k ++ (Y.drop k ++ B))))) = A ++ (Y ++ (M ++ (X ++ B))) := by rw [List.take_of_length_le (by omega), List.drop_eq_nil_of_le (by omega : X.length ≤ k), List.take_of_length_le (by omega : X.length ≤ k), List.drop_eq_nil_of_le (by omega)]; simp
      rw [hfin] at hrow
      clear hfin ha hb hX hY hNl
      go_wp2
      go_end0
      exact ⟨rfl, hrow, hO⟩

end Go.Proofs.Ytkjoojmlcjmlgaa
