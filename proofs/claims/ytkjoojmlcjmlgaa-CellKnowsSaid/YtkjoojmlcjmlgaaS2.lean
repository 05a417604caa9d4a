/- Neighbouring ranges of a row change places. -/
import Derived.Test.YtkjoojmlcjmlgaaS1
namespace Go.Proofs.Ytkjoojmlcjmlgaa
set_option linter.unusedVariables false
set_option linter.unusedSimpArgs false
open Go.RowKit
set_option maxRecDepth 100000 in
set_option maxHeartbeats 4000000 in
theorem rotateSt (A X Y B : List (Int × Int)) (g cap a m b N : Nat) (vc : Value) (w : World) (ha : a = A.length) (hm : m = A.length + X.length) (hb : b = A.length + X.length + Y.length) (hX : 0 < X.length) (hY : 0 < Y.length)
    (hN : N = (A ++ (X ++ (Y ++ B))).length) (hsz : N ≤ 1000000) (h : RowB storeC 2 86 w g (A ++ (X ++ (Y ++ B)))) :
    Calls Try.prog 91 #[.slice (some ⟨g, 0, none⟩) N cap, .int .i64 a, .int .i64 m, .int .i64 b, vc] w fun e w' => e = .returned (.tuple #[]) ∧ RowB storeC 2 86 w' g (A ++ (Y ++ (X ++ B))) ∧ Off g w w' := by
  have hNl : N = A.length + X.length + Y.length + B.length := by rw [hN]; simp; omega
  obtain ⟨F, hF⟩ : ∃ F, A ++ (Y ++ (X ++ B)) = F := ⟨_, rfl⟩
  rw [hF]
  obtain ⟨i0, hi0⟩ : ∃ i, X.length = i := ⟨_, rfl⟩
  obtain ⟨j0, hj0⟩ : ∃ j, Y.length = j := ⟨_, rfl⟩
  have hmi : (m : Int) - (a : Int) = (i0 : Int) := by omega
  have hbj : (b : Int) - (m : Int) = (j0 : Int) := by omega
  have hbd : b ≤ N := by omega
  have hmb : m ≤ N := by omega
  have hib : i0 ≤ N := by omega
  have hjb : j0 ≤ N := by omega
  have H0 := Lib.hid (show RowB storeC 2 86 w g (A ++ (X ++ (Y ++ B))) ∧ X.length = i0 ∧ Y.length = j0 ∧ 0 < i0 ∧ 0 < j0 ∧ A.length + i0 = m ∧ A ++ (Y ++ (X ++ B)) = F ∧ A.length + i0 + j0 + B.length = N from ⟨h, hi0, hj0, by omega, by omega, by omega, hF, by omega⟩)
  clear h hN ha hm hb hX hY hNl hF hi0 hj0
  go_enter Try.func91, Try.ntmps91
  go_wp2
  go_loopw [10, 11] (fun vi vj wr => ∃ (i j : Nat) (A X Y B : List (Int × Int)), vi = .int .i64 i ∧ vj = .int .i64 j ∧ X.length = i ∧ Y.length = j ∧ 0 < i ∧ 0 < j ∧ A.length + i = m ∧ RowB storeC 2 86 wr g (A ++ (X ++ (Y ++ B))) ∧ A ++ (Y ++ (X ++ B)) = F ∧ A.length + i + j + B.length = N ∧ Off g w wr) (fun vi vj _ => (intOf vi).toNat + (intOf vj).toNat)
  case atStart =>
    obtain ⟨h1, h2, h3, h4, h5, h6, h7, h8⟩ := H0.out
    exact ⟨i0, j0, A, X, Y, B, rfl, rfl, h2, h3, h4, h5, h6, h1, h7, h8, Off.refl _ _⟩
  case round =>
    rename World => wr
    clear H0 A X Y B
    obtain ⟨i, j, A, X, Y, B, rfl, rfl, hi, hj, hi1, hj1, hAm, hrow, hF, hNl, hO⟩ := hrel
    obtain ⟨p, hp⟩ : ∃ p, A.length = p := ⟨_, rfl⟩
    have hpm : (m : Int) - (i : Int) = (p : Int) := by omega
    have hpN : p ≤ N := by omega
    have hiN : i ≤ N := by omega
    have hjN : j ≤ N := by omega
    have hmj : m + j ≤ N := by omega
    by_cases heq : i = j
    · subst heq
      have HH := Lib.hid (And.intro hi (And.intro hj (And.intro hAm (And.intro hp (And.intro hNl hF)))))
      have HR := Lib.hid hrow
      clear hi hj hAm hp hNl hF hrow
      go_wp2_with (first | (go_at_call 93; refine (swapRangeSt A X [] Y B g cap p m i N vc _ HH.out.2.2.2.1.symm (by have := HH.out.1; have := HH.out.2.2.1; have := HH.out.2.2.2.1; simp; omega) HH.out.1 HH.out.2.1 (by have := HH.out.2.2.2.2.1; have := HH.out.1; have := HH.out.2.1; simp; omega) (by omega) (by simpa using HR.out)).mono ?_; rintro e w' ⟨rfl, hr', hO'⟩))
      go_end0
      refine ⟨rfl, ?_, hO.trans hO'⟩
      rw [← HH.out.2.2.2.2.2]
      simpa using hr'
    · by_cases hlt : j < i
      · have hXs : X = X.take j ++ X.drop j := (List.take_append_drop j X).symm
        obtain ⟨X1, hX1⟩ : ∃ X1, X.take j = X1 := ⟨_, rfl⟩
        obtain ⟨X2, hX2⟩ : ∃ X2, X.drop j = X2 := ⟨_, rfl⟩
        have hl1 : X1.length = j := by rw [← hX1]; simp; omega
        have hl2 : X2.length = i - j := by rw [← hX2]; simp; omega
        rw [hX1, hX2] at hXs
        subst hXs
        have hij : (i : Int) - (j : Int) = ((i - j : Nat) : Int) := by omega
        have HH := Lib.hid (And.intro hl1 (And.intro hl2 (And.intro hj (And.intro hAm (And.intro hp (And.intro hNl hF))))))
        have HR := Lib.hid hrow
        clear hi hj hAm hp hNl hF hrow hl1 hl2 hX1 hX2
        go_wp2_with (first | (go_at_call 93; refine (swapRangeSt A X1 X2 Y B g cap p m j N vc _ HH.out.2.2.2.2.1.symm (by have := HH.out.1; have := HH.out.2.1; have := HH.out.2.2.2.1; have := HH.out.2.2.2.2.1; omega) HH.out.1 HH.out.2.2.1 (by have := HH.out.2.2.2.2.2.1; have := HH.out.1; have := HH.out.2.1; have := HH.out.2.2.1; simp; omega) (by omega) (by simpa using HR.out)).mono ?_; rintro e w' ⟨rfl, hr', hO'⟩))
        go_roundw
        case rel =>
          obtain ⟨h1, h2, h3, h4, h5, h6, h7⟩ := HH.out
          exact ⟨i - j, j, A ++ Y, X2, X1, B, by go_num, rfl, h2, h1, by omega, hj1, by simp; omega, by simpa using hr', by rw [← h7]; simp, by simp; omega, hO.trans hO'⟩
        case measure => simp [intOf]; omega
      · have hYs : Y = Y.take (j - i) ++ Y.drop (j - i) := (List.take_append_drop _ Y).symm
        obtain ⟨Y1, hY1⟩ : ∃ Y1, Y.take (j - i) = Y1 := ⟨_, rfl⟩
        obtain ⟨Y2, hY2⟩ : ∃ Y2, Y.drop (j - i) = Y2 := ⟨_, rfl⟩
        have hl1 : Y1.length = j - i := by rw [← hY1]; simp; omega
        have hl2 : Y2.length = i := by rw [← hY2]; simp; omega
        rw [hY1, hY2] at hYs
        subst hYs
        have hij : (j : Int) - (i : Int) = ((j - i : Nat) : Int) := by omega
        have hq : (m : Int) + (j : Int) - (i : Int) = ((m + j - i : Nat) : Int) := by omega
        have HH := Lib.hid (And.intro hl1 (And.intro hl2 (And.intro hi (And.intro hAm (And.intro hp (And.intro hNl hF))))))
        have HR := Lib.hid hrow
        clear hi hj hAm hp hNl hF hrow hl1 hl2 hY1 hY2
        go_wp2_with (first | (go_at_call 93; refine (swapRangeSt A X Y1 Y2 B g cap p (m + j - i) i N vc _ HH.out.2.2.2.2.1.symm (by have := HH.out.1; have := HH.out.2.2.1; have := HH.out.2.2.2.1; have := HH.out.2.2.2.2.1; omega) HH.out.2.2.1 HH.out.2.1 (by have := HH.out.2.2.2.2.2.1; have := HH.out.1; have := HH.out.2.1; have := HH.out.2.2.1; simp; omega) (by omega) (by simpa using HR.out)).mono ?_; rintro e w' ⟨rfl, hr', hO'⟩))
        go_roundw
        case rel =>
          obtain ⟨h1, h2, h3, h4, h5, h6, h7⟩ := HH.out
          exact ⟨i, j - i, A, Y2, Y1, X ++ B, rfl, by go_num, h2, h1, hi1, by omega, h4, by simpa using hr', by rw [← h7]; simp, by simp; omega, hO.trans hO'⟩
        case measure => simp [intOf]; omega

set_option maxRecDepth 100000 in
set_option maxHeartbeats 4000000 in
theorem rotateIn (A X Y B : List (Int)) (g cap a m b N : Nat) (vc : Value) (w : World) (ha : a = A.length) (hm : m = A.length + X.length) (hb : b = A.length + X.length + Y.length) (hX : 0 < X.length) (hY : 0 < Y.length)
    (hN : N = (A ++ (X ++ (Y ++ B))).length) (hsz : N ≤ 1000000) (h : RowB intC 1 3 w g (A ++ (X ++ (Y ++ B)))) :
    Calls Try.prog 92 #[.slice (some ⟨g, 0, none⟩) N cap, .int .i64 a, .int .i64 m, .int .i64 b, vc] w fun e w' => e = .returned (.tuple #[]) ∧ RowB intC 1 3 w' g (A ++ (Y ++ (X ++ B))) ∧ Off g w w' := by
  have hNl : N = A.length + X.length + Y.length + B.length := by rw [hN]; simp; omega
  obtain ⟨F, hF⟩ : ∃ F, A ++ (Y ++ (X ++ B)) = F := ⟨_, rfl⟩
  rw [hF]
  obtain ⟨i0, hi0⟩ : ∃ i, X.length = i := ⟨_, rfl⟩
  obtain ⟨j0, hj0⟩ : ∃ j, Y.length = j := ⟨_, rfl⟩
  have hmi : (m : Int) - (a : Int) = (i0 : Int) := by omega
  have hbj : (b : Int) - (m : Int) = (j0 : Int) := by omega
  have hbd : b ≤ N := by omega
  have hmb : m ≤ N := by omega
  have hib : i0 ≤ N := by omega
  have hjb : j0 ≤ N := by omega
  have H0 := Lib.hid (show RowB intC 1 3 w g (A ++ (X ++ (Y ++ B))) ∧ X.length = i0 ∧ Y.length = j0 ∧ 0 < i0 ∧ 0 < j0 ∧ A.length + i0 = m ∧ A ++ (Y ++ (X ++ B)) = F ∧ A.length + i0 + j0 + B.length = N from ⟨h, hi0, hj0, by omega, by omega, by omega, hF, by omega⟩)
  clear h hN ha hm hb hX hY hNl hF hi0 hj0
  go_enter Try.func92, Try.ntmps92
  go_wp2
  go_loopw [10, 11] (fun vi vj wr => ∃ (i j : Nat) (A X Y B : List (Int)), vi = .int .i64 i ∧ vj = .int .i64 j ∧ X.length = i ∧ Y.length = j ∧ 0 < i ∧ 0 < j ∧ A.length + i = m ∧ RowB intC 1 3 wr g (A ++ (X ++ (Y ++ B))) ∧ A ++ (Y ++ (X ++ B)) = F ∧ A.length + i + j + B.length = N ∧ Off g w wr) (fun vi vj _ => (intOf vi).toNat + (intOf vj).toNat)
  case atStart =>
    obtain ⟨h1, h2, h3, h4, h5, h6, h7, h8⟩ := H0.out
    exact ⟨i0, j0, A, X, Y, B, rfl, rfl, h2, h3, h4, h5, h6, h1, h7, h8, Off.refl _ _⟩
  case round =>
    rename World => wr
    clear H0 A X Y B
    obtain ⟨i, j, A, X, Y, B, rfl, rfl, hi, hj, hi1, hj1, hAm, hrow, hF, hNl, hO⟩ := hrel
    obtain ⟨p, hp⟩ : ∃ p, A.length = p := ⟨_, rfl⟩
    have hpm : (m : Int) - (i : Int) = (p : Int) := by omega
    have hpN : p ≤ N := by omega
    have hiN : i ≤ N := by omega
    have hjN : j ≤ N := by omega
    have hmj : m + j ≤ N := by omega
    by_cases heq : i = j
    · subst heq
      have HH := Lib.hid (And.intro hi (And.intro hj (And.intro hAm (And.intro hp (And.intro hNl hF)))))
      have HR := Lib.hid hrow
      clear hi hj hAm hp hNl hF hrow
      go_wp2_with (first | (go_at_call 94; refine (swapRangeIn A X [] Y B g cap p m i N vc _ HH.out.2.2.2.1.symm (by have := HH.out.1; have := HH.out.2.2.1; have := HH.out.2.2.2.1; simp; omega) HH.out.1 HH.out.2.1 (by have := HH.out.2.2.2.2.1; have := HH.out.1; have := HH.out.2.1; simp; omega) (by omega) (by simpa using HR.out)).mono ?_; rintro e w' ⟨rfl, hr', hO'⟩))
      go_end0
      refine ⟨rfl, ?_, hO.trans hO'⟩
      rw [← HH.out.2.2.2.2.2]
      simpa using hr'
    · by_cases hlt : j < i
      · have hXs : X = X.take j ++ X.drop j := (List.take_append_drop j X).symm
        obtain ⟨X1, hX1⟩ : ∃ X1, X.take j = X1 := ⟨_, rfl⟩
        obtain ⟨X2, hX2⟩ : ∃ X2, X.drop j = X2 := ⟨_, rfl⟩
        have hl1 : X1.length = j := by rw [← hX1]; simp; omega
        have hl2 : X2.length = i - j := by rw [← hX2]; simp; omega
        rw [hX1, hX2] at hXs
        subst hXs
        have hij : (i : Int) - (j : Int) = ((i - j : Nat) : Int) := by omega
        have HH := Lib.hid (And.intro hl1 (And.intro hl2 (And.intro hj (And.intro hAm (And.intro hp (And.intro hNl hF))))))
        have HR := Lib.hid hrow
        clear hi hj hAm hp hNl hF hrow hl1 hl2 hX1 hX2
        go_wp2_with (first | (go_at_call 94; refine (swapRangeIn A X1 X2 Y B g cap p m j N vc _ HH.out.2.2.2.2.1.symm (by have := HH.out.1; have := HH.out.2.1; have := HH.out.2.2.2.1; have := HH.out.2.2.2.2.1; omega) HH.out.1 HH.out.2.2.1 (by have := HH.out.2.2.2.2.2.1; have := HH.out.1; have := HH.out.2.1; have := HH.out.2.2.1; simp; omega) (by omega) (by simpa using HR.out)).mono ?_; rintro e w' ⟨rfl, hr', hO'⟩))
        go_roundw
        case rel =>
          obtain ⟨h1, h2, h3, h4, h5, h6, h7⟩ := HH.out
          exact ⟨i - j, j, A ++ Y, X2, X1, B, by go_num, rfl, h2, h1, by omega, hj1, by simp; omega, by simpa using hr', by rw [← h7]; simp, by simp; omega, hO.trans hO'⟩
        case measure => simp [intOf]; omega
      · have hYs : Y = Y.take (j - i) ++ Y.drop (j - i) := (List.take_append_drop _ Y).symm
        obtain ⟨Y1, hY1⟩ : ∃ Y1, Y.take (j - i) = Y1 := ⟨_, rfl⟩
        obtain ⟨Y2, hY2⟩ : ∃ Y2, Y.drop (j - i) = Y2 := ⟨_, rfl⟩
        have hl1 : Y1.length = j - i := by rw [← hY1]; simp; omega
        have hl2 : Y2.length = i := by rw [← hY2]; simp; omega
        rw [hY1, hY2] at hYs
        subst hYs
        have hij : (j : Int) - (i : Int) = ((j - i : Nat) : Int) := by omega
        have hq : (m : Int) + (j : Int) - (i : Int) = ((m + j - i : Nat) : Int) := by omega
        have HH := Lib.hid (And.intro hl1 (And.intro hl2 (And.intro hi (And.intro hAm (And.intro hp (And.intro hNl hF))))))
        have HR := Lib.hid hrow
        clear hi hj hAm hp hNl hF hrow hl1 hl2 hY1 hY2
        go_wp2_with (first | (go_at_call 94; refine (swapRangeIn A X Y1 Y2 B g cap p (m + j - i) i N vc _ HH.out.2.2.2.2.1.symm (by have := HH.out.1; have := HH.out.2.2.1; have := HH.out.2.2.2.1; have := HH.out.2.2.2.2.1; omega) HH.out.2.2.1 HH.out.2.1 (by have := HH.out.2.2.2.2.2.1; have := HH.out.1; have := HH.out.2.1; have := HH.out.2.2.1; simp; omega) (by omega) (by simpa using HR.out)).mono ?_; rintro e w' ⟨rfl, hr', hO'⟩))
        go_roundw
        case rel =>
          obtain ⟨h1, h2, h3, h4, h5, h6, h7⟩ := HH.out
          exact ⟨i, j - i, A, Y2, Y1, X ++ B, rfl, by go_num, h2, h1, hi1, by omega, h4, by simpa using hr', by rw [← h7]; simp, by simp; omega, hO.trans hO'⟩
        case measure => simp [intOf]; omega

end Go.Proofs.Ytkjoojmlcjmlgaa
