/- The stable sort. -/
import Derived.Test.YtkjoojmlcjmlgaaS5
namespace Go.Proofs.Ytkjoojmlcjmlgaa
set_option linter.unusedVariables false
set_option linter.unusedSimpArgs false
open Go.RowKit
theorem symMergeSt (g : Nat) (bc : Nat) (key : Int × Int → Int) (rank : Int × Int → Nat) (D : Int × Int → Prop) (K : World → Prop) (hK : ∀ w w', K w → Off g w w' → K w') (hD : ∀ x, D x → -1000000000 ≤ key x ∧ key x ≤ 1000000000)
    (HC : ∀ w' x y, K w' → D x → D y → Calls Try.prog 60 #[.agg #[.int .i64 x.1, .int .i64 x.2], .agg #[.int .i64 y.1, .int .i64 y.2], .pointer (some ⟨bc, 0, none⟩)] w' fun e w2 => e = .returned (.int .i64 (key x - key y)) ∧ Ext w' w2) (cap N : Nat) (hsz : N ≤ 1000000) :
    ∀ (d : Nat) (A X Y B : List (Int × Int)) (a m b : Nat) (w : World), X.length + Y.length ≤ d → K w → (∀ x ∈ X, D x) → (∀ y ∈ Y, D y) → S.Srt (S.Ord key rank) X → S.Srt (S.Ord key rank) Y → (∀ x ∈ X, ∀ y ∈ Y, rank x < rank y) → 0 < X.length → 0 < Y.length →
      a = A.length → m = A.length + X.length → b = A.length + X.length + Y.length → N = (A ++ (X ++ (Y ++ B))).length → RowB storeC 2 86 w g (A ++ (X ++ (Y ++ B))) →
      Calls Try.prog 88 #[.slice (some ⟨g, 0, none⟩) N cap, .int .i64 a, .int .i64 m, .int .i64 b, .func (.func 60) #[] #[.pointer (some ⟨bc, 0, none⟩)]] w fun e w' => e = .returned (.tuple #[]) ∧ ∃ Z, Z.Perm (X ++ Y) ∧ S.Srt (S.Ord key rank) Z ∧ RowB storeC 2 86 w' g (A ++ (Z ++ B)) ∧ Off g w w'
  | 0, A, X, Y, B, a, m, b, w, hd, _, _, _, _, _, _, h1, _, _, _, _, _, _ => by omega
  | d + 1, A, X, Y, B, a, m, b, w, hd, hKw, hDX, hDY, hSX, hSY, hrk, h1, h2, ha, hm, hb, hN, h => by
    by_cases hx : X.length = 1
    · exact symXSt g bc key rank D K hK hD HC A X Y B cap a m b N w hKw hDX hDY hSX hSY hrk ha hm hb hx h2 hN hsz h
    · by_cases hy : Y.length = 1
      · exact symYSt g bc key rank D K hK hD HC A X Y B cap a m b N w hKw hDX hDY hSX hSY hrk ha hm hb (by omega) hy hN hsz h
      · exact symGenSt g bc key rank D K hK hD HC A X Y B cap a m b N w hKw hDX hDY hSX hSY hrk ha hm hb (by omega) (by omega) d hd (symMergeSt g bc key rank D K hK hD HC cap N hsz d) hN hsz h

set_option maxRecDepth 100000 in
set_option maxHeartbeats 16000000 in
theorem stableSt (g : Nat) (bc : Nat) (key : Int × Int → Int) (rank : Int × Int → Nat) (D : Int × Int → Prop) (K : World → Prop) (hK : ∀ w w', K w → Off g w w' → K w') (hD : ∀ x, D x → -1000000000 ≤ key x ∧ key x ≤ 1000000000)
    (HC : ∀ w' x y, K w' → D x → D y → Calls Try.prog 60 #[.agg #[.int .i64 x.1, .int .i64 x.2], .agg #[.int .i64 y.1, .int .i64 y.2], .pointer (some ⟨bc, 0, none⟩)] w' fun e w2 => e = .returned (.int .i64 (key x - key y)) ∧ Ext w' w2)
    (X : List (Int × Int)) (cap N : Nat) (w : World) (hKw : K w) (hDX : ∀ x ∈ X, D x) (hX : X.Pairwise fun x y => rank x < rank y) (hN : N = X.length) (hsz : N ≤ 1000000) (h : RowB storeC 2 86 w g (X)) :
    Calls Try.prog 79 #[.slice (some ⟨g, 0, none⟩) N cap, .int .i64 N, .func (.func 60) #[] #[.pointer (some ⟨bc, 0, none⟩)]] w fun e w' => e = .returned (.tuple #[]) ∧ ∃ Z, Z.Perm X ∧ S.Srt (S.Ord key rank) Z ∧ RowB storeC 2 86 w' g (Z) ∧ Off g w w' := by
  have HIS := Lib.hid (fun (A X B : List (Int × Int)) (a b : Nat) (w : World) (hKw : K w) (hDX : ∀ x ∈ X, D x) (hX : X.Pairwise fun x y => rank x < rank y) (ha : a = A.length) (hb : b = A.length + X.length) (hN : N = (A ++ (X ++ B)).length) (h : RowB storeC 2 86 w g (A ++ (X ++ B))) => insSortSt g bc key rank D K hK hD HC A X B cap a b N w hKw hDX hX ha hb hN hsz h)
  have HSM := Lib.hid (fun (A X Y B : List (Int × Int)) (a m b : Nat) (w : World) (hKw : K w) (hDX : ∀ x ∈ X, D x) (hDY : ∀ y ∈ Y, D y) (hSX : S.Srt (S.Ord key rank) X) (hSY : S.Srt (S.Ord key rank) Y) (hrk : ∀ x ∈ X, ∀ y ∈ Y, rank x < rank y) (h1 : 0 < X.length) (h2 : 0 < Y.length) (ha : a = A.length) (hm : m = A.length + X.length) (hb : b = A.length + X.length + Y.length) (hN : N = (A ++ (X ++ (Y ++ B))).length) (h : RowB storeC 2 86 w g (A ++ (X ++ (Y ++ B)))) =>
    symMergeSt g bc key rank D K hK hD HC cap N hsz (X.length + Y.length) A X Y B a m b w (Nat.le_refl _) hKw hDX hDY hSX hSY hrk h1 h2 ha hm hb hN h)
  have HDX := Lib.hid hDX
  have HRX := Lib.hid hX
  have HN := Lib.hid hN
  clear HC hD hDX hX hN
  go_enter Try.func79, Try.ntmps79
  go_wp2
  go_loopw [7, 8] (fun va vb wr => ∃ (p q : Nat) (Z1 : List (Int × Int)), va = .int .i64 p ∧ vb = .int .i64 q ∧ q = p + 20 ∧ Z1.length = p ∧ p ≤ N ∧ RowB storeC 2 86 wr g (Z1 ++ X.drop p) ∧ (∀ Z2, S.Bl (S.Ord key rank) 20 (X.drop p) Z2 → S.Bl (S.Ord key rank) 20 X (Z1 ++ Z2)) ∧ Off g w wr) (fun va _ _ => N - (intOf va).toNat)
  case atStart => exact ⟨0, 20, [], rfl, rfl, rfl, rfl, Nat.zero_le _, by simpa using h, fun Z2 h2 => by simpa using h2, Off.refl _ _⟩
  case round =>
    rename World => wr
    clear h
    obtain ⟨p, q, Z1, rfl, rfl, hq, hl, hp0, hrow, hbl, hO⟩ := hrel
    have hql : q ≤ N + 20 := by omega
    have HQ := Lib.hid hq
    have HL := Lib.hid hl
    have HBL := Lib.hid hbl
    have HROW := Lib.hid hrow
    by_cases hlt : q ≤ N
    · have hlt' : (q : Int) ≤ (N : Int) := by omega
      have htk : ((X.drop p).take 20).length = 20 := by rw [List.length_take, List.length_drop, ← HN.out]; omega
      have hsplit : X.drop p = (X.drop p).take 20 ++ X.drop q := by rw [hq, ← List.drop_drop, List.take_append_drop]
      obtain ⟨T, hT⟩ : ∃ T, (X.drop p).take 20 = T := ⟨_, rfl⟩
      have hTD : ∀ x ∈ T, D x := fun x hx => HDX.out x (List.mem_of_mem_drop (List.mem_of_mem_take (by rw [hT]; exact hx)))
      have hTR : T.Pairwise fun x y => rank x < rank y := by
        rw [← hT]
        exact (show X.Pairwise (fun x y => rank x < rank y) from HRX.out).sublist ((List.take_sublist _ _).trans (List.drop_sublist _ _))
      rw [hT] at htk hsplit
      have hrow1 : RowB storeC 2 86 wr g (Z1 ++ (T ++ X.drop q)) := by rw [← hsplit]; exact hrow
      have HSP := Lib.hid (And.intro htk (And.intro hsplit (And.intro hTD (And.intro hTR hrow1))))
      have hNl : N = (Z1 ++ (T ++ X.drop q)).length := by simp; have := HN.out; omega
      have HNL := Lib.hid hNl
      clear hq hl hbl hrow htk hsplit hT hTD hTR hrow1 hNl
      go_wp2_with (first | (go_at_call 87; refine (HIS.out (Z1) (T) (X.drop q) p q _ (hK _ _ hKw hO) HSP.out.2.2.1 HSP.out.2.2.2.1 HL.out.symm (by have := HL.out; have := HQ.out; have := HSP.out.1; omega) HNL.out HSP.out.2.2.2.2).mono ?_; rintro e w' ⟨rfl, Zn, hp, hs, hr', hO'⟩))
      go_roundw
      case rel =>
        have hzl := hp.length_eq
        refine ⟨q, q + 20, Z1 ++ Zn, rfl, by go_num, rfl, by rw [List.length_append, hzl, HSP.out.1, HL.out, HQ.out], hlt, by simpa using hr', fun Z2 h2 => ?_, hO.trans hO'⟩
        have h3 := S.Bl.cons HSP.out.1 hp hs h2
        rw [← HSP.out.2.1] at h3
        simpa using HBL.out _ h3
      case measure => simp [intOf]; have := HQ.out; omega
    · have hlt' : ¬ (q : Int) ≤ (N : Int) := by omega
      have hTD : ∀ x ∈ X.drop p, D x := fun x hx => HDX.out x (List.mem_of_mem_drop hx)
      have hTR : (X.drop p).Pairwise fun x y => rank x < rank y := (show X.Pairwise (fun x y => rank x < rank y) from HRX.out).sublist (List.drop_sublist _ _)
      have hrow1 : RowB storeC 2 86 wr g (Z1 ++ (X.drop p ++ [])) := by simpa using hrow
      have HSP := Lib.hid (And.intro hTD (And.intro hTR hrow1))
      have hNl : N = (Z1 ++ (X.drop p ++ [])).length := by simp; have := HN.out; omega
      have HNL := Lib.hid hNl
      clear hq hl hbl hrow hTD hTR hrow1 hNl
      go_wp2_with (first | (go_at_call 87; refine (HIS.out (Z1) (X.drop p) ([]) p N _ (hK _ _ hKw hO) HSP.out.1 HSP.out.2.1 HL.out.symm (by rw [List.length_drop]; have := HL.out; have := HN.out; omega) HNL.out HSP.out.2.2).mono ?_; rintro e w' ⟨rfl, Zn, hp, hs, hr', hO'⟩))
      have hB0 : S.Bl (S.Ord key rank) 20 X (Z1 ++ Zn) := HBL.out Zn (.last (by rw [List.length_drop]; have := HN.out; have := HQ.out; omega) hp hs)
      have hO2 := hO.trans hO'
      have hrow2 : RowB storeC 2 86 w' g (Z1 ++ Zn) := by simpa using hr'
      obtain ⟨V0, hV0⟩ : ∃ V0, Z1 ++ Zn = V0 := ⟨_, rfl⟩
      rw [hV0] at hB0 hrow2
      have HB0 := Lib.hid (And.intro hB0 hrow2)
      clear HSP HNL HROW HBL HL HQ hp hs hr' hB0 hrow2 hV0 hO hO' hlt hlt'
      go_loopw [6, 7, 8, 9] (fun vk _ _ _ wx => ∃ (kk : Nat) (V : List (Int × Int)), vk = .int .i64 kk ∧ 0 < kk ∧ kk ≤ 2 * N + 20 ∧ S.Bl (S.Ord key rank) kk X V ∧ RowB storeC 2 86 wx g (V) ∧ Off g w wx) (fun vk _ _ _ _ => 2 * N + 40 - (intOf vk).toNat)
      case atStart => exact ⟨20, V0, rfl, by omega, by omega, HB0.out.1, HB0.out.2, hO2⟩
      case round =>
        rename World => wx
        clear HB0 hO2
        obtain ⟨kk, V, rfl, hk0, hkN, hB, hrow, hO⟩ := hrel
        have HB := Lib.hid (And.intro hB hrow)
        clear hB hrow
        by_cases hlt : kk < N
        · go_wp2
          go_loopw [7, 8] (fun va vb wy => ∃ (p q : Nat) (V1 Z2 : List (Int × Int)), va = .int .i64 p ∧ vb = .int .i64 q ∧ q = p + 2 * kk ∧ V1.length = p ∧ p ≤ N ∧ S.Bl (S.Ord key rank) kk (X.drop p) Z2 ∧ RowB storeC 2 86 wy g (V1 ++ Z2) ∧ (∀ V2, S.Bl (S.Ord key rank) (2 * kk) (X.drop p) V2 → S.Bl (S.Ord key rank) (2 * kk) X (V1 ++ V2)) ∧ Off g w wy) (fun va _ _ => N - (intOf va).toNat)
          case atStart => exact ⟨0, 2 * kk, [], V, rfl, by go_num, by omega, rfl, Nat.zero_le _, by simpa using HB.out.1, by simpa using HB.out.2, fun V2 h2 => by simpa using h2, hO⟩
          case round =>
            rename World => wy
            clear hO
            obtain ⟨p, q, V1, Z2, rfl, rfl, hq, hl, hp0, hB2, hrow, hbl, hO⟩ := hrel
            have hxl : (X.drop p).length = N - p := by rw [List.length_drop, HN.out]
            have hDp : ∀ x ∈ X.drop p, D x := fun x hx => HDX.out x (List.mem_of_mem_drop hx)
            have hRp : (X.drop p).Pairwise fun x y => rank x < rank y := (show X.Pairwise (fun x y => rank x < rank y) from HRX.out).sublist (List.drop_sublist _ _)
            obtain ⟨mm, hmm⟩ : ∃ mm, p + kk = mm := ⟨_, rfl⟩
            have hmi : (p : Int) + (kk : Int) = (mm : Int) := by omega
            have hmN : mm ≤ N + N := by omega
            have hqN : q ≤ N + N + N := by omega
            by_cases hlt2 : q ≤ N
            · have hlt3 : (q : Int) ≤ (N : Int) := by omega
              obtain ⟨Xa, Xb, X', Za, Zb, Z', e1, e2, la, lb, pa, pb, sa, sb, hB'⟩ := hB2.two (by omega) hk0
              have hX'e : X.drop q = X' := by
                have h1 : X.drop q = (X.drop p).drop (2 * kk) := by rw [List.drop_drop, hq]
                rw [h1, e1, ← List.append_assoc, List.drop_left' (by rw [List.length_append]; omega)]
              subst e2
              have hra : ∀ x ∈ Za, ∀ y ∈ Zb, rank x < rank y := fun x hx y hy => by
                rw [e1] at hRp
                exact (List.pairwise_append.1 hRp).2.2 x (pa.subset hx) y (List.mem_append_left _ (pb.subset hy))
              have hDa : ∀ x ∈ Za, D x := fun x hx => hDp x (by rw [e1]; exact List.mem_append_left _ (pa.subset hx))
              have hDb : ∀ x ∈ Zb, D x := fun x hx => hDp x (by rw [e1]; exact List.mem_append_right _ (List.mem_append_left _ (pb.subset hx)))
              have lza := pa.length_eq
              have lzb := pb.length_eq
              have lz' := hB'.perm.length_eq
              have hNl : N = (V1 ++ (Za ++ (Zb ++ Z'))).length := by
                have h1 : (X.drop p).length = Xa.length + (Xb.length + X'.length) := by rw [e1]; simp
                simp; omega
              have HW := Lib.hid (And.intro hra (And.intro hDa (And.intro hDb (And.intro sa (And.intro sb (And.intro hNl hrow))))))
              have HW2 := Lib.hid (And.intro e1 (And.intro hX'e (And.intro la (And.intro lb (And.intro pa (And.intro pb (And.intro hB' hbl)))))))
              have HL := Lib.hid (And.intro hl (And.intro hq (And.intro hmm (And.intro (show Za.length = kk by omega) (show Zb.length = kk by omega)))))
              clear hra hDa hDb sa sb hNl hrow e1 hX'e la lb pa pb hB' hbl hl hq hmm hxl hDp hRp hB2 lza lzb lz'
              go_wp2_with (first | (go_at_call 88; refine (HSM.out (V1) (Za) (Zb) (Z') p mm q _ (hK _ _ hKw hO) HW.out.2.1 HW.out.2.2.1 HW.out.2.2.2.1 HW.out.2.2.2.2.1 HW.out.1 (by have := HL.out; omega) (by have := HL.out; omega) HL.out.1.symm (by have := HL.out; omega) (by have := HL.out; omega) HW.out.2.2.2.2.2.1 HW.out.2.2.2.2.2.2).mono ?_; rintro e w' ⟨rfl, Zn, hp, hs, hr', hO'⟩))
              go_roundw
              case rel =>
                obtain ⟨e1, hX'e, la, lb, pa, pb, hB', hbl⟩ := HW2.out
                have hzl := hp.length_eq
                rw [List.length_append] at hzl
                refine ⟨q, q + 2 * kk, V1 ++ Zn, Z', rfl, by go_num, rfl, by rw [List.length_append, hzl]; have := HL.out; omega, hlt2, by rw [hX'e]; exact hB', by simpa using hr', fun V2 h2 => ?_, hO.trans hO'⟩
                rw [hX'e] at h2
                have h3 := S.Bl.cons (k := 2 * kk) (X1 := Xa ++ Xb) (by rw [List.length_append]; omega) (hp.trans (pa.append pb)) hs h2
                have h4 := hbl (Zn ++ V2) (by rw [e1]; simpa using h3)
                simpa using h4
              case measure => simp [intOf]; have := HL.out; omega
            · have hlt3 : ¬ (q : Int) ≤ (N : Int) := by omega
              by_cases hm : mm < N
              · obtain ⟨Xa, Xb, Za, Zb, e1, e2, la, pa, pb, sa, sb⟩ := hB2.rest (by omega) (by omega)
                subst e2
                have hra : ∀ x ∈ Za, ∀ y ∈ Zb, rank x < rank y := fun x hx y hy => by
                  rw [e1] at hRp
                  exact (List.pairwise_append.1 hRp).2.2 x (pa.subset hx) y (pb.subset hy)
                have hDa : ∀ x ∈ Za, D x := fun x hx => hDp x (by rw [e1]; exact List.mem_append_left _ (pa.subset hx))
                have hDb : ∀ x ∈ Zb, D x := fun x hx => hDp x (by rw [e1]; exact List.mem_append_right _ (pb.subset hx))
                have lza := pa.length_eq
                have lzb := pb.length_eq
                have hxs : (X.drop p).length = Xa.length + Xb.length := by rw [e1]; simp
                have hNl : N = (V1 ++ (Za ++ (Zb ++ []))).length := by simp; omega
                have hrow' : RowB storeC 2 86 wy g (V1 ++ (Za ++ (Zb ++ []))) := by simpa using hrow
                have HW := Lib.hid (And.intro hra (And.intro hDa (And.intro hDb (And.intro sa (And.intro sb (And.intro hNl hrow'))))))
                have HW2 := Lib.hid (And.intro e1 (And.intro la (And.intro pa (And.intro pb hbl))))
                have HL := Lib.hid (And.intro hl (And.intro hq (And.intro hmm (And.intro (show Za.length = kk by omega) (And.intro (show Zb.length = N - mm by omega) hxl)))))
                clear hra hDa hDb sa sb hNl hrow hrow' e1 la pa pb hbl hl hq hmm hxl hDp hRp hB2 lza lzb hxs
                go_wp2_with (first | (go_at_call 88; refine (HSM.out (V1) (Za) (Zb) ([]) p mm N _ (hK _ _ hKw hO) HW.out.2.1 HW.out.2.2.1 HW.out.2.2.2.1 HW.out.2.2.2.2.1 HW.out.1 (by have := HL.out; omega) (by have := HL.out; omega) HL.out.1.symm (by have := HL.out; omega) (by have := HL.out; omega) HW.out.2.2.2.2.2.1 HW.out.2.2.2.2.2.2).mono ?_; rintro e w' ⟨rfl, Zn, hp, hs, hr', hO'⟩))
                go_roundw
                case rel =>
                  obtain ⟨e1, la, pa, pb, hbl⟩ := HW2.out
                  exact ⟨2 * kk, V1 ++ Zn, by go_num, by omega, by omega, hbl Zn (.last (by have := HL.out; omega) (by rw [e1]; exact hp.trans (pa.append pb)) hs), by simpa using hr', hO.trans hO'⟩
                case measure => simp [intOf]; omega
              · have hm2 : ¬ (mm : Int) < (N : Int) := by omega
                obtain ⟨h1, h2⟩ := hB2.one (by omega)
                have hres : S.Bl (S.Ord key rank) (2 * kk) X (V1 ++ Z2) := hbl Z2 (.last (by omega) h1 h2)
                have HRES := Lib.hid (And.intro hres hrow)
                clear hbl hl hq hmm hxl hDp hRp hB2 h1 h2 hres hrow
                go_wp2
                go_roundw
                case rel => exact ⟨2 * kk, V1 ++ Z2, by go_num, by omega, by omega, HRES.out.1, HRES.out.2, hO⟩
                case measure => simp [intOf]; omega
        · have hlt' : ¬ (kk : Int) < (N : Int) := by omega
          obtain ⟨h1, h2⟩ := HB.out.1.one (by have := HN.out; omega)
          have HP := Lib.hid h1
          clear h1
          go_wp2
          go_end0
          exact ⟨rfl, V, HP.out, h2, HB.out.2, hO⟩
theorem sortStableSt (g : Nat) (bc : Nat) (key : Int × Int → Int) (rank : Int × Int → Nat) (D : Int × Int → Prop) (K : World → Prop) (hK : ∀ w w', K w → Off g w w' → K w') (hD : ∀ x, D x → -1000000000 ≤ key x ∧ key x ≤ 1000000000)
    (HC : ∀ w' x y, K w' → D x → D y → Calls Try.prog 60 #[.agg #[.int .i64 x.1, .int .i64 x.2], .agg #[.int .i64 y.1, .int .i64 y.2], .pointer (some ⟨bc, 0, none⟩)] w' fun e w2 => e = .returned (.int .i64 (key x - key y)) ∧ Ext w' w2)
    (X : List (Int × Int)) (cap N : Nat) (w : World) (hKw : K w) (hDX : ∀ x ∈ X, D x) (hX : X.Pairwise fun x y => rank x < rank y) (hN : N = X.length) (hsz : N ≤ 1000000) (h : RowB storeC 2 86 w g (X)) :
    Calls Try.prog 59 #[.slice (some ⟨g, 0, none⟩) N cap, .func (.func 60) #[] #[.pointer (some ⟨bc, 0, none⟩)]] w fun e w' => e = .returned (.tuple #[]) ∧ ∃ Z, Z.Perm X ∧ S.Srt (S.Ord key rank) Z ∧ RowB storeC 2 86 w' g (Z) ∧ Off g w w' := by
  have HS := Lib.hid (stableSt g bc key rank D K hK hD HC X cap N w hKw hDX hX hN hsz h)
  clear HC hD hDX hX hN h
  go_enter Try.func59, Try.ntmps59
  go_wp2_with (first | (go_at_call 79; refine HS.out.mono ?_; rintro e w' ⟨rfl, Z, h1, h2, h3, h4⟩))
  go_end0
  exact ⟨rfl, Z, h1, h2, h3, h4⟩

theorem symMergeIn (g : Nat) (key : Int → Int) (rank : Int → Nat) (D : Int → Prop) (K : World → Prop) (hK : ∀ w w', K w → Off g w w' → K w') (hD : ∀ x, D x → -1000000000 ≤ key x ∧ key x ≤ 1000000000)
    (HC : ∀ w' x y, K w' → D x → D y → Calls Try.prog 65 #[.int .i64 x, .int .i64 y] w' fun e w2 => e = .returned (.int .i64 (key x - key y)) ∧ Ext w' w2) (cap N : Nat) (hsz : N ≤ 1000000) :
    ∀ (d : Nat) (A X Y B : List (Int)) (a m b : Nat) (w : World), X.length + Y.length ≤ d → K w → (∀ x ∈ X, D x) → (∀ y ∈ Y, D y) → S.Srt (S.Ord key rank) X → S.Srt (S.Ord key rank) Y → (∀ x ∈ X, ∀ y ∈ Y, rank x < rank y) → 0 < X.length → 0 < Y.length →
      a = A.length → m = A.length + X.length → b = A.length + X.length + Y.length → N = (A ++ (X ++ (Y ++ B))).length → RowB intC 1 3 w g (A ++ (X ++ (Y ++ B))) →
      Calls Try.prog 90 #[.slice (some ⟨g, 0, none⟩) N cap, .int .i64 a, .int .i64 m, .int .i64 b, .func (.func 65) #[] #[]] w fun e w' => e = .returned (.tuple #[]) ∧ ∃ Z, Z.Perm (X ++ Y) ∧ S.Srt (S.Ord key rank) Z ∧ RowB intC 1 3 w' g (A ++ (Z ++ B)) ∧ Off g w w'
  | 0, A, X, Y, B, a, m, b, w, hd, _, _, _, _, _, _, h1, _, _, _, _, _, _ => by omega
  | d + 1, A, X, Y, B, a, m, b, w, hd, hKw, hDX, hDY, hSX, hSY, hrk, h1, h2, ha, hm, hb, hN, h => by
    by_cases hx : X.length = 1
    · exact symXIn g key rank D K hK hD HC A X Y B cap a m b N w hKw hDX hDY hSX hSY hrk ha hm hb hx h2 hN hsz h
    · by_cases hy : Y.length = 1
      · exact symYIn g key rank D K hK hD HC A X Y B cap a m b N w hKw hDX hDY hSX hSY hrk ha hm hb (by omega) hy hN hsz h
      · exact symGenIn g key rank D K hK hD HC A X Y B cap a m b N w hKw hDX hDY hSX hSY hrk ha hm hb (by omega) (by omega) d hd (symMergeIn g key rank D K hK hD HC cap N hsz d) hN hsz h

set_option maxRecDepth 100000 in
set_option maxHeartbeats 16000000 in
theorem stableIn (g : Nat) (key : Int → Int) (rank : Int → Nat) (D : Int → Prop) (K : World → Prop) (hK : ∀ w w', K w → Off g w w' → K w') (hD : ∀ x, D x → -1000000000 ≤ key x ∧ key x ≤ 1000000000)
    (HC : ∀ w' x y, K w' → D x → D y → Calls Try.prog 65 #[.int .i64 x, .int .i64 y] w' fun e w2 => e = .returned (.int .i64 (key x - key y)) ∧ Ext w' w2)
    (X : List (Int)) (cap N : Nat) (w : World) (hKw : K w) (hDX : ∀ x ∈ X, D x) (hX : X.Pairwise fun x y => rank x < rank y) (hN : N = X.length) (hsz : N ≤ 1000000) (h : RowB intC 1 3 w g (X)) :
    Calls Try.prog 80 #[.slice (some ⟨g, 0, none⟩) N cap, .int .i64 N, .func (.func 65) #[] #[]] w fun e w' => e = .returned (.tuple #[]) ∧ ∃ Z, Z.Perm X ∧ S.Srt (S.Ord key rank) Z ∧ RowB intC 1 3 w' g (Z) ∧ Off g w w' := by
  have HIS := Lib.hid (fun (A X B : List (Int)) (a b : Nat) (w : World) (hKw : K w) (hDX : ∀ x ∈ X, D x) (hX : X.Pairwise fun x y => rank x < rank y) (ha : a = A.length) (hb : b = A.length + X.length) (hN : N = (A ++ (X ++ B)).length) (h : RowB intC 1 3 w g (A ++ (X ++ B))) => insSortIn g key rank D K hK hD HC A X B cap a b N w hKw hDX hX ha hb hN hsz h)
  have HSM := Lib.hid (fun (A X Y B : List (Int)) (a m b : Nat) (w : World) (hKw : K w) (hDX : ∀ x ∈ X, D x) (hDY : ∀ y ∈ Y, D y) (hSX : S.Srt (S.Ord key rank) X) (hSY : S.Srt (S.Ord key rank) Y) (hrk : ∀ x ∈ X, ∀ y ∈ Y, rank x < rank y) (h1 : 0 < X.length) (h2 : 0 < Y.length) (ha : a = A.length) (hm : m = A.length + X.length) (hb : b = A.length + X.length + Y.length) (hN : N = (A ++ (X ++ (Y ++ B))).length) (h : RowB intC 1 3 w g (A ++ (X ++ (Y ++ B)))) =>
    symMergeIn g key rank D K hK hD HC cap N hsz (X.length + Y.length) A X Y B a m b w (Nat.le_refl _) hKw hDX hDY hSX hSY hrk h1 h2 ha hm hb hN h)
  have HDX := Lib.hid hDX
  have HRX := Lib.hid hX
  have HN := Lib.hid hN
  clear HC hD hDX hX hN
  go_enter Try.func80, Try.ntmps80
  go_wp2
  go_loopw [7, 8] (fun va vb wr => ∃ (p q : Nat) (Z1 : List (Int)), va = .int .i64 p ∧ vb = .int .i64 q ∧ q = p + 20 ∧ Z1.length = p ∧ p ≤ N ∧ RowB intC 1 3 wr g (Z1 ++ X.drop p) ∧ (∀ Z2, S.Bl (S.Ord key rank) 20 (X.drop p) Z2 → S.Bl (S.Ord key rank) 20 X (Z1 ++ Z2)) ∧ Off g w wr) (fun va _ _ => N - (intOf va).toNat)
  case atStart => exact ⟨0, 20, [], rfl, rfl, rfl, rfl, Nat.zero_le _, by simpa using h, fun Z2 h2 => by simpa using h2, Off.refl _ _⟩
  case round =>
    rename World => wr
    clear h
    obtain ⟨p, q, Z1, rfl, rfl, hq, hl, hp0, hrow, hbl, hO⟩ := hrel
    have hql : q ≤ N + 20 := by omega
    have HQ := Lib.hid hq
    have HL := Lib.hid hl
    have HBL := Lib.hid hbl
    have HROW := Lib.hid hrow
    by_cases hlt : q ≤ N
    · have hlt' : (q : Int) ≤ (N : Int) := by omega
      have htk : ((X.drop p).take 20).length = 20 := by rw [List.length_take, List.length_drop, ← HN.out]; omega
      have hsplit : X.drop p = (X.drop p).take 20 ++ X.drop q := by rw [hq, ← List.drop_drop, List.take_append_drop]
      obtain ⟨T, hT⟩ : ∃ T, (X.drop p).take 20 = T := ⟨_, rfl⟩
      have hTD : ∀ x ∈ T, D x := fun x hx => HDX.out x (List.mem_of_mem_drop (List.mem_of_mem_take (by rw [hT]; exact hx)))
      have hTR : T.Pairwise fun x y => rank x < rank y := by
        rw [← hT]
        exact (show X.Pairwise (fun x y => rank x < rank y) from HRX.out).sublist ((List.take_sublist _ _).trans (List.drop_sublist _ _))
      rw [hT] at htk hsplit
      have hrow1 : RowB intC 1 3 wr g (Z1 ++ (T ++ X.drop q)) := by rw [← hsplit]; exact hrow
      have HSP := Lib.hid (And.intro htk (And.intro hsplit (And.intro hTD (And.intro hTR hrow1))))
      have hNl : N = (Z1 ++ (T ++ X.drop q)).length := by simp; have := HN.out; omega
      have HNL := Lib.hid hNl
      clear hq hl hbl hrow htk hsplit hT hTD hTR hrow1 hNl
      go_wp2_with (first | (go_at_call 89; refine (HIS.out (Z1) (T) (X.drop q) p q _ (hK _ _ hKw hO) HSP.out.2.2.1 HSP.out.2.2.2.1 HL.out.symm (by have := HL.out; have := HQ.out; have := HSP.out.1; omega) HNL.out HSP.out.2.2.2.2).mono ?_; rintro e w' ⟨rfl, Zn, hp, hs, hr', hO'⟩))
      go_roundw
      case rel =>
        have hzl := hp.length_eq
        refine ⟨q, q + 20, Z1 ++ Zn, rfl, by go_num, rfl, by rw [List.length_append, hzl, HSP.out.1, HL.out, HQ.out], hlt, by simpa using hr', fun Z2 h2 => ?_, hO.trans hO'⟩
        have h3 := S.Bl.cons HSP.out.1 hp hs h2
        rw [← HSP.out.2.1] at h3
        simpa using HBL.out _ h3
      case measure => simp [intOf]; have := HQ.out; omega
    · have hlt' : ¬ (q : Int) ≤ (N : Int) := by omega
      have hTD : ∀ x ∈ X.drop p, D x := fun x hx => HDX.out x (List.mem_of_mem_drop hx)
      have hTR : (X.drop p).Pairwise fun x y => rank x < rank y := (show X.Pairwise (fun x y => rank x < rank y) from HRX.out).sublist (List.drop_sublist _ _)
      have hrow1 : RowB intC 1 3 wr g (Z1 ++ (X.drop p ++ [])) := by simpa using hrow
      have HSP := Lib.hid (And.intro hTD (And.intro hTR hrow1))
      have hNl : N = (Z1 ++ (X.drop p ++ [])).length := by simp; have := HN.out; omega
      have HNL := Lib.hid hNl
      clear hq hl hbl hrow hTD hTR hrow1 hNl
      go_wp2_with (first | (go_at_call 89; refine (HIS.out (Z1) (X.drop p) ([]) p N _ (hK _ _ hKw hO) HSP.out.1 HSP.out.2.1 HL.out.symm (by rw [List.length_drop]; have := HL.out; have := HN.out; omega) HNL.out HSP.out.2.2).mono ?_; rintro e w' ⟨rfl, Zn, hp, hs, hr', hO'⟩))
      have hB0 : S.Bl (S.Ord key rank) 20 X (Z1 ++ Zn) := HBL.out Zn (.last (by rw [List.length_drop]; have := HN.out; have := HQ.out; omega) hp hs)
      have hO2 := hO.trans hO'
      have hrow2 : RowB intC 1 3 w' g (Z1 ++ Zn) := by simpa using hr'
      obtain ⟨V0, hV0⟩ : ∃ V0, Z1 ++ Zn = V0 := ⟨_, rfl⟩
      rw [hV0] at hB0 hrow2
      have HB0 := Lib.hid (And.intro hB0 hrow2)
      clear HSP HNL HROW HBL HL HQ hp hs hr' hB0 hrow2 hV0 hO hO' hlt hlt'
      go_loopw [6, 7, 8, 9] (fun vk _ _ _ wx => ∃ (kk : Nat) (V : List (Int)), vk = .int .i64 kk ∧ 0 < kk ∧ kk ≤ 2 * N + 20 ∧ S.Bl (S.Ord key rank) kk X V ∧ RowB intC 1 3 wx g (V) ∧ Off g w wx) (fun vk _ _ _ _ => 2 * N + 40 - (intOf vk).toNat)
      case atStart => exact ⟨20, V0, rfl, by omega, by omega, HB0.out.1, HB0.out.2, hO2⟩
      case round =>
        rename World => wx
        clear HB0 hO2
        obtain ⟨kk, V, rfl, hk0, hkN, hB, hrow, hO⟩ := hrel
        have HB := Lib.hid (And.intro hB hrow)
        clear hB hrow
        by_cases hlt : kk < N
        · go_wp2
          go_loopw [7, 8] (fun va vb wy => ∃ (p q : Nat) (V1 Z2 : List (Int)), va = .int .i64 p ∧ vb = .int .i64 q ∧ q = p + 2 * kk ∧ V1.length = p ∧ p ≤ N ∧ S.Bl (S.Ord key rank) kk (X.drop p) Z2 ∧ RowB intC 1 3 wy g (V1 ++ Z2) ∧ (∀ V2, S.Bl (S.Ord key rank) (2 * kk) (X.drop p) V2 → S.Bl (S.Ord key rank) (2 * kk) X (V1 ++ V2)) ∧ Off g w wy) (fun va _ _ => N - (intOf va).toNat)
          case atStart => exact ⟨0, 2 * kk, [], V, rfl, by go_num, by omega, rfl, Nat.zero_le _, by simpa using HB.out.1, by simpa using HB.out.2, fun V2 h2 => by simpa using h2, hO⟩
          case round =>
            rename World => wy
            clear hO
            obtain ⟨p, q, V1, Z2, rfl, rfl, hq, hl, hp0, hB2, hrow, hbl, hO⟩ := hrel
            have hxl : (X.drop p).length = N - p := by rw [List.length_drop, HN.out]
            have hDp : ∀ x ∈ X.drop p, D x := fun x hx => HDX.out x (List.mem_of_mem_drop hx)
            have hRp : (X.drop p).Pairwise fun x y => rank x < rank y := (show X.Pairwise (fun x y => rank x < rank y) from HRX.out).sublist (List.drop_sublist _ _)
            obtain ⟨mm, hmm⟩ : ∃ mm, p + kk = mm := ⟨_, rfl⟩
            have hmi : (p : Int) + (kk : Int) = (mm : Int) := by omega
            have hmN : mm ≤ N + N := by omega
            have hqN : q ≤ N + N + N := by omega
            by_cases hlt2 : q ≤ N
            · have hlt3 : (q : Int) ≤ (N : Int) := by omega
              obtain ⟨Xa, Xb, X', Za, Zb, Z', e1, e2, la, lb, pa, pb, sa, sb, hB'⟩ := hB2.two (by omega) hk0
              have hX'e : X.drop q = X' := by
                have h1 : X.drop q = (X.drop p).drop (2 * kk) := by rw [List.drop_drop, hq]
                rw [h1, e1, ← List.append_assoc, List.drop_left' (by rw [List.length_append]; omega)]
              subst e2
              have hra : ∀ x ∈ Za, ∀ y ∈ Zb, rank x < rank y := fun x hx y hy => by
                rw [e1] at hRp
                exact (List.pairwise_append.1 hRp).2.2 x (pa.subset hx) y (List.mem_append_left _ (pb.subset hy))
              have hDa : ∀ x ∈ Za, D x := fun x hx => hDp x (by rw [e1]; exact List.mem_append_left _ (pa.subset hx))
              have hDb : ∀ x ∈ Zb, D x := fun x hx => hDp x (by rw [e1]; exact List.mem_append_right _ (List.mem_append_left _ (pb.subset hx)))
              have lza := pa.length_eq
              have lzb := pb.length_eq
              have lz' := hB'.perm.length_eq
              have hNl : N = (V1 ++ (Za ++ (Zb ++ Z'))).length := by
                have h1 : (X.drop p).length = Xa.length + (Xb.length + X'.length) := by rw [e1]; simp
                simp; omega
              have HW := Lib.hid (And.intro hra (And.intro hDa (And.intro hDb (And.intro sa (And.intro sb (And.intro hNl hrow))))))
              have HW2 := Lib.hid (And.intro e1 (And.intro hX'e (And.intro la (And.intro lb (And.intro pa (And.intro pb (And.intro hB' hbl)))))))
              have HL := Lib.hid (And.intro hl (And.intro hq (And.intro hmm (And.intro (show Za.length = kk by omega) (show Zb.length = kk by omega)))))
              clear hra hDa hDb sa sb hNl hrow e1 hX'e la lb pa pb hB' hbl hl hq hmm hxl hDp hRp hB2 lza lzb lz'
              go_wp2_with (first | (go_at_call 90; refine (HSM.out (V1) (Za) (Zb) (Z') p mm q _ (hK _ _ hKw hO) HW.out.2.1 HW.out.2.2.1 HW.out.2.2.2.1 HW.out.2.2.2.2.1 HW.out.1 (by have := HL.out; omega) (by have := HL.out; omega) HL.out.1.symm (by have := HL.out; omega) (by have := HL.out; omega) HW.out.2.2.2.2.2.1 HW.out.2.2.2.2.2.2).mono ?_; rintro e w' ⟨rfl, Zn, hp, hs, hr', hO'⟩))
              go_roundw
              case rel =>
                obtain ⟨e1, hX'e, la, lb, pa, pb, hB', hbl⟩ := HW2.out
                have hzl := hp.length_eq
                rw [List.length_append] at hzl
                refine ⟨q, q + 2 * kk, V1 ++ Zn, Z', rfl, by go_num, rfl, by rw [List.length_append, hzl]; have := HL.out; omega, hlt2, by rw [hX'e]; exact hB', by simpa using hr', fun V2 h2 => ?_, hO.trans hO'⟩
                rw [hX'e] at h2
                have h3 := S.Bl.cons (k := 2 * kk) (X1 := Xa ++ Xb) (by rw [List.length_append]; omega) (hp.trans (pa.append pb)) hs h2
                have h4 := hbl (Zn ++ V2) (by rw [e1]; simpa using h3)
                simpa using h4
              case measure => simp [intOf]; have := HL.out; omega
            · have hlt3 : ¬ (q : Int) ≤ (N : Int) := by omega
              by_cases hm : mm < N
              · obtain ⟨Xa, Xb, Za, Zb, e1, e2, la, pa, pb, sa, sb⟩ := hB2.rest (by omega) (by omega)
                subst e2
                have hra : ∀ x ∈ Za, ∀ y ∈ Zb, rank x < rank y := fun x hx y hy => by
                  rw [e1] at hRp
                  exact (List.pairwise_append.1 hRp).2.2 x (pa.subset hx) y (pb.subset hy)
                have hDa : ∀ x ∈ Za, D x := fun x hx => hDp x (by rw [e1]; exact List.mem_append_left _ (pa.subset hx))
                have hDb : ∀ x ∈ Zb, D x := fun x hx => hDp x (by rw [e1]; exact List.mem_append_right _ (pb.subset hx))
                have lza := pa.length_eq
                have lzb := pb.length_eq
                have hxs : (X.drop p).length = Xa.length + Xb.length := by rw [e1]; simp
                have hNl : N = (V1 ++ (Za ++ (Zb ++ []))).length := by simp; omega
                have hrow' : RowB intC 1 3 wy g (V1 ++ (Za ++ (Zb ++ []))) := by simpa using hrow
                have HW := Lib.hid (And.intro hra (And.intro hDa (And.intro hDb (And.intro sa (And.intro sb (And.intro hNl hrow'))))))
                have HW2 := Lib.hid (And.intro e1 (And.intro la (And.intro pa (And.intro pb hbl))))
                have HL := Lib.hid (And.intro hl (And.intro hq (And.intro hmm (And.intro (show Za.length = kk by omega) (And.intro (show Zb.length = N - mm by omega) hxl)))))
                clear hra hDa hDb sa sb hNl hrow hrow' e1 la pa pb hbl hl hq hmm hxl hDp hRp hB2 lza lzb hxs
                go_wp2_with (first | (go_at_call 90; refine (HSM.out (V1) (Za) (Zb) ([]) p mm N _ (hK _ _ hKw hO) HW.out.2.1 HW.out.2.2.1 HW.out.2.2.2.1 HW.out.2.2.2.2.1 HW.out.1 (by have := HL.out; omega) (by have := HL.out; omega) HL.out.1.symm (by have := HL.out; omega) (by have := HL.out; omega) HW.out.2.2.2.2.2.1 HW.out.2.2.2.2.2.2).mono ?_; rintro e w' ⟨rfl, Zn, hp, hs, hr', hO'⟩))
                go_roundw
                case rel =>
                  obtain ⟨e1, la, pa, pb, hbl⟩ := HW2.out
                  exact ⟨2 * kk, V1 ++ Zn, by go_num, by omega, by omega, hbl Zn (.last (by have := HL.out; omega) (by rw [e1]; exact hp.trans (pa.append pb)) hs), by simpa using hr', hO.trans hO'⟩
                case measure => simp [intOf]; omega
              · have hm2 : ¬ (mm : Int) < (N : Int) := by omega
                obtain ⟨h1, h2⟩ := hB2.one (by omega)
                have hres : S.Bl (S.Ord key rank) (2 * kk) X (V1 ++ Z2) := hbl Z2 (.last (by omega) h1 h2)
                have HRES := Lib.hid (And.intro hres hrow)
                clear hbl hl hq hmm hxl hDp hRp hB2 h1 h2 hres hrow
                go_wp2
                go_roundw
                case rel => exact ⟨2 * kk, V1 ++ Z2, by go_num, by omega, by omega, HRES.out.1, HRES.out.2, hO⟩
                case measure => simp [intOf]; omega
        · have hlt' : ¬ (kk : Int) < (N : Int) := by omega
          obtain ⟨h1, h2⟩ := HB.out.1.one (by have := HN.out; omega)
          have HP := Lib.hid h1
          clear h1
          go_wp2
          go_end0
          exact ⟨rfl, V, HP.out, h2, HB.out.2, hO⟩
theorem sortStableIn (g : Nat) (key : Int → Int) (rank : Int → Nat) (D : Int → Prop) (K : World → Prop) (hK : ∀ w w', K w → Off g w w' → K w') (hD : ∀ x, D x → -1000000000 ≤ key x ∧ key x ≤ 1000000000)
    (HC : ∀ w' x y, K w' → D x → D y → Calls Try.prog 65 #[.int .i64 x, .int .i64 y] w' fun e w2 => e = .returned (.int .i64 (key x - key y)) ∧ Ext w' w2)
    (X : List (Int)) (cap N : Nat) (w : World) (hKw : K w) (hDX : ∀ x ∈ X, D x) (hX : X.Pairwise fun x y => rank x < rank y) (hN : N = X.length) (hsz : N ≤ 1000000) (h : RowB intC 1 3 w g (X)) :
    Calls Try.prog 64 #[.slice (some ⟨g, 0, none⟩) N cap, .func (.func 65) #[] #[]] w fun e w' => e = .returned (.tuple #[]) ∧ ∃ Z, Z.Perm X ∧ S.Srt (S.Ord key rank) Z ∧ RowB intC 1 3 w' g (Z) ∧ Off g w w' := by
  have HS := Lib.hid (stableIn g key rank D K hK hD HC X cap N w hKw hDX hX hN hsz h)
  clear HC hD hDX hX hN h
  go_enter Try.func64, Try.ntmps64
  go_wp2_with (first | (go_at_call 80; refine HS.out.mono ?_; rintro e w' ⟨rfl, Z, h1, h2, h3, h4⟩))
  go_end0
  exact ⟨rfl, Z, h1, h2, h3, h4⟩

end Go.Proofs.Ytkjoojmlcjmlgaa
