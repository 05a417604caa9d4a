/- The law's own question whether what was carried can be (it can). The law's own question whether a weather comes before another one. The example's system. -/
import Derived.Test.YtkjoojmlcjmlgaaH1
namespace Go.Proofs.Ytkjoojmlcjmlgaa
set_option linter.unusedVariables false
set_option linter.unusedSimpArgs false
open Go.RowKit
theorem bestIs_one {c : C.Sys} {o o' : Option (Int × Int)} (h : BestIs c o) (h' : BestIs c o') : o = o' := by
  cases o with
  | none =>
    cases o' with
    | none => rfl
    | some t => have := h t h'.1; rw [h'.2.1] at this; cases this
  | some s =>
    cases o' with
    | none => have := h' s h.1; rw [h.2.1] at this; cases this
    | some t =>
      have h1 := h.2.2 t h'.1 h'.2.1
      have h2 := h'.2.2 s h.1 h.2.1
      have hr : rankS s = rankS t := by omega
      have r1 := h.1
      have r2 := h'.1
      unfold inRange at r1 r2
      unfold rankS at hr
      congr 1
      refine Prod.ext ?_ ?_ <;> omega
theorem offIs_one {c : C.Sys} {p b : Int} {o o' : Option Int} (h : OffIs c p b o) (h' : OffIs c p b o') : o = o' := by
  cases o with
  | none =>
    cases o' with
    | none => rfl
    | some t => have := h t h'.1.1 h'.1.2 h'.2.1; rw [h'.2.2.1] at this; cases this
  | some s =>
    cases o' with
    | none => have := h' s h.1.1 h.1.2 h.2.1; rw [h.2.2.1] at this; cases this
    | some t =>
      have h1 := h.2.2.2 t h'.1.1 h'.1.2 h'.2.1 h'.2.2.1
      have h2 := h'.2.2.2 s h.1.1 h.1.2 h.2.1 h.2.2.1
      congr 1
      omega
set_option maxRecDepth 100000 in
set_option maxHeartbeats 4000000 in
theorem sane_any (c : C.Sys) (l : List C.Day) (vl vd : Value) (w : World) (hL : Loads w vl c.loads) (hD : Days w vd l) (hn : c.loads.length ≤ 10) (hm : l.length ≤ 1000000) (hc : ∀ x ∈ l, 0 ≤ x.carried ∧ x.carried < C.sets c) :
    Calls Try.prog 33 #[.agg (sysV c vl), vd] w fun e w' => e = .returned (.bool true) ∧ Ext w w' := by
  have hse := fun w' (hx : Ext w w') => dsets_any c _ w' (hL.ext hx) hn
  have HSE := Lib.hid hse
  obtain ⟨a, cap, rfl, _⟩ := hL
  obtain ⟨aD, cD, rfl, hxD⟩ := hD
  have HXD := Lib.hid hxD
  have HC := Lib.hid hc
  have hpc := plus_cell
  clear hse hxD hc
  go_enter Try.func33, Try.ntmps33
  go_wp2
  obtain ⟨w1, hw1⟩ : ∃ w1, w.alloc (.cells (sysV c (.slice a c.loads.length cap)) 24) = w1 := ⟨_, rfl⟩
  have hbx : Blk w1 w.heap.size (sysV c (.slice a c.loads.length cap)) 24 := by rw [← hw1]; exact Blk.new' rfl _ _
  have hE1 : Ext w w1 := by rw [← hw1]; (with_reducible (repeat (first | exact Ext.refl _ | assumption | apply Ext.alloc | apply Ext.drew | exact ext_plus _ _ | (apply Ext.setCell; rotate_left; (simp <;> omega)) | (apply Ext.trans; rotate_left; exact ext_plus _ _) | (apply Ext.trans; rotate_left; assumption))))
  rw [hw1]
  clear hw1
  go_loopw [5] (fun vd wr => ∃ d : Nat, d ≤ l.length ∧ vd = .int .i64 d ∧ Ext w1 wr) (fun vd _ => l.length - (intOf vd).toNat)
  case atStart => exact ⟨0, Nat.zero_le _, rfl, Ext.refl _⟩
  case round =>
    rename World => wr
    obtain ⟨d, hd, rfl, hE⟩ := hrel
    have hEw := hE1.trans hE
    by_cases hld : d < l.length
    · obtain ⟨b5, o5, rfl, hb5, hAt5⟩ := HXD.out d hld
      obtain ⟨q0, q1⟩ := day_cells (ate_stays _ _ _ _ _ _ hEw hb5 hAt5)
      have qb := Nat.lt_of_lt_of_le hb5 hEw.size
      have hcd := HC.out _ (List.getElem_mem hld)
      obtain ⟨xd, hxd⟩ : ∃ xd, l[d] = xd := ⟨_, rfl⟩
      rw [hxd] at q0 q1 hcd
      obtain ⟨xb, xc⟩ := xd
      dsimp only at q0 q1 hcd
      have hlt0 : decide (xc < 0) = false := by simp; omega
      have hge : decide (xc ≥ C.sets c) = false := by simp; omega
      have hbxr := hbx.ext hE
      have k0 := hbxr.cell
      have k1 := hbxr.lt
      clear hAt5 hxd
      go_upto_region 4 with (fail)
      refine wp_region_ext 16 (fun _ _ d _ _ h => by cases d <;> exact h) (by kernel_rfl) (by kernel_rfl) (by kernel_rfl) (by kernel_rfl) ?_
      simp only [List.take_succ_cons, List.take_zero, List.drop_succ_cons, List.drop_zero]
      repeat (any_goals (first | go_big_quiet_step ((go_at_call 23; exact ext_quiet (HSE.out _ (by (with_reducible (repeat (first | exact Ext.refl _ | assumption | apply Ext.alloc | apply Ext.drew | exact ext_plus _ _ | (apply Ext.setCell; rotate_left; (simp <;> omega)) | (apply Ext.trans; rotate_left; exact ext_plus _ _) | (apply Ext.trans; rotate_left; assumption)))))))) | quiet_step ((go_at_call 23; exact ext_quiet (HSE.out _ (by (with_reducible (repeat (first | exact Ext.refl _ | assumption | apply Ext.alloc | apply Ext.drew | exact ext_plus _ _ | (apply Ext.setCell; rotate_left; (simp <;> omega)) | (apply Ext.trans; rotate_left; exact ext_plus _ _) | (apply Ext.trans; rotate_left; assumption))))))))))
      all_goals (refine wpQuiet_nil ?_; intro w3 hE3)
      go_wp2
      go_roundw
      case rel => exact ⟨d + 1, by omega, by go_num, hE.trans hE3⟩
      case measure => simp [intOf]; omega
    · obtain rfl : d = l.length := by omega
      go_wp2
      go_ret
      exact ⟨rfl, hEw⟩
end Go.Proofs.Ytkjoojmlcjmlgaa
namespace Go.Proofs.Ytkjoojmlcjmlgaa
set_option linter.unusedVariables false
set_option linter.unusedSimpArgs false
open Go.RowKit
def beforeB : List UInt8 → List UInt8 → Bool
  | x :: xs, y :: ys => if x = y then beforeB xs ys else x == 115
  | _, _ => false
theorem before_cons (x y : UInt8) (xs ys : List UInt8) : beforeB (x :: xs) (y :: ys) = if x = y then beforeB xs ys else x == 115 := by rw [beforeB]
theorem before_same {a b : List UInt8} {i : Nat} {x : UInt8} (ha : a[i]? = some x) (hb : b[i]? = some x) : beforeB (a.drop i) (b.drop i) = beforeB (a.drop (i + 1)) (b.drop (i + 1)) := by
  obtain ⟨h1, rfl⟩ := List.getElem?_eq_some_iff.1 ha
  obtain ⟨h2, h3⟩ := List.getElem?_eq_some_iff.1 hb
  rw [List.drop_eq_getElem_cons h1, List.drop_eq_getElem_cons h2]
  rw [before_cons, if_pos h3.symm]
theorem before_other {a b : List UInt8} {i : Nat} {x y : UInt8} (ha : a[i]? = some x) (hb : b[i]? = some y) (hne : x ≠ y) : beforeB (a.drop i) (b.drop i) = (x == 115) := by
  obtain ⟨h1, rfl⟩ := List.getElem?_eq_some_iff.1 ha
  obtain ⟨h2, rfl⟩ := List.getElem?_eq_some_iff.1 hb
  rw [List.drop_eq_getElem_cons h1, List.drop_eq_getElem_cons h2]
  rw [before_cons, if_neg hne]
theorem before_end {a b : List UInt8} {i : Nat} (h : a.length ≤ i ∨ b.length ≤ i) : beforeB (a.drop i) (b.drop i) = false := by
  rcases h with h | h
  · rw [List.drop_eq_nil_of_le h]; unfold beforeB; rfl
  · rw [List.drop_eq_nil_of_le h]; cases a.drop i <;> rfl
set_option maxRecDepth 100000 in
set_option maxHeartbeats 8000000 in
theorem before_any (s r : ByteArray) (w : World) (hs : s.size ≤ 1000000) (hr : r.size ≤ 1000000) :
    Calls Try.prog 35 #[.string s, .string r] w fun e w' => e = .returned (.bool (beforeB s.data.toList r.data.toList)) ∧ Ext w w' := by
  have hl1 : s.data.toList.length = s.size := by simp
  have hl2 : r.data.toList.length = r.size := by simp
  have hi1 := fun i x (h : s.data.toList[i]? = some x) => str_at s i x h
  have hi2 := fun i x (h : r.data.toList[i]? = some x) => str_at r i x h
  obtain ⟨A, hA⟩ : ∃ A, s.data.toList = A := ⟨_, rfl⟩
  obtain ⟨B, hB⟩ : ∃ B, r.data.toList = B := ⟨_, rfl⟩
  rw [hA] at hl1 ⊢
  rw [hB] at hl2 ⊢
  simp only [hA] at hi1
  simp only [hB] at hi2
  have HI1 := Lib.hid hi1
  have HI2 := Lib.hid hi2
  have HL1 := Lib.hid hl1
  have HL2 := Lib.hid hl2
  have hpc := plus_cell
  clear hi1 hi2 hl1 hl2 hA hB
  go_enter Try.func35, Try.ntmps35
  go_wp2
  go_loopw [5] (fun vi wr => ∃ i : Nat, i ≤ s.size ∧ vi = .int .i64 i ∧ beforeB A B = beforeB (A.drop i) (B.drop i) ∧ Ext w wr) (fun vi _ => s.size - (intOf vi).toNat)
  case atStart => exact ⟨0, Nat.zero_le _, rfl, rfl, Ext.refl _⟩
  case round =>
    rename World => wr
    obtain ⟨i, hi, rfl, hbe, hE⟩ := hrel
    have HBE := Lib.hid hbe
    clear hbe
    by_cases h1 : i < s.size
    · by_cases h2 : i < r.size
      · obtain ⟨x, hx⟩ : ∃ x, A[i]? = some x := ⟨_, List.getElem?_eq_getElem (by rw [HL1.out]; exact h1)⟩
        obtain ⟨y, hy⟩ : ∃ y, B[i]? = some y := ⟨_, List.getElem?_eq_getElem (by rw [HL2.out]; exact h2)⟩
        have e1 := HI1.out i x hx
        have e2 := HI2.out i y hy
        have HX := Lib.hid hx
        have HY := Lib.hid hy
        clear hx hy
        by_cases hxy : x = y
        · subst hxy
          have hne : ((x.toNat : Int) != (x.toNat : Int)) = false := by simp
          go_upto_region 4 with (fail)
          refine wp_region_ext 7 (fun _ _ d _ _ h => by cases d <;> exact h) (by kernel_rfl) (by kernel_rfl) (by kernel_rfl) (by kernel_rfl) ?_
          simp only [List.take_succ_cons, List.take_zero, List.drop_succ_cons, List.drop_zero]
          repeat (any_goals (first | go_big_quiet_step (fail) | quiet_step (fail)))
          all_goals (refine wpQuiet_nil ?_; intro w3 hE3)
          go_wp2
          go_roundw
          case rel => exact ⟨i + 1, by omega, by go_num, by rw [HBE.out, before_same HX.out HY.out], hE.trans hE3⟩
          case measure => simp [intOf]; omega
        · have hne : ((x.toNat : Int) != (y.toNat : Int)) = true := by
            simp only [bne_iff_ne, ne_eq]
            intro e
            exact hxy (UInt8.toNat_inj.1 (by omega))
          have hres := before_other HX.out HY.out hxy
          have h115 := u8_eq x 115 (by decide)
          obtain ⟨D, hD⟩ : ∃ D, (x == UInt8.ofNat 115) = D := ⟨_, rfl⟩
          rw [hD] at h115
          have hrd : beforeB (A.drop i) (B.drop i) = D := by rw [hres]; exact hD
          have HRD := Lib.hid hrd
          clear hres hrd hD hxy
          go_upto_region 4 with (fail)
          refine wp_region_ext 7 (fun _ _ d _ _ h => by cases d <;> exact h) (by kernel_rfl) (by kernel_rfl) (by kernel_rfl) (by kernel_rfl) ?_
          simp only [List.take_succ_cons, List.take_zero, List.drop_succ_cons, List.drop_zero]
          repeat (any_goals (first | go_big_quiet_step (fail) | quiet_step (fail)))
          all_goals (refine wpQuiet_nil ?_; intro w3 hE3)
          go_wp2
          go_ret
          exact ⟨ret_bool (by rw [HBE.out, HRD.out]; exact h115), hE.trans hE3⟩
      · have hf := before_end (a := A) (b := B) (i := i) (.inr (by rw [HL2.out]; omega))
        go_wp2
        go_ret
        exact ⟨ret_bool (by rw [HBE.out, hf]), hE⟩
    · have hf := before_end (a := A) (b := B) (i := i) (.inl (by rw [HL1.out]; omega))
      go_wp2
      go_ret
      exact ⟨ret_bool (by rw [HBE.out, hf]), hE⟩
end Go.Proofs.Ytkjoojmlcjmlgaa
namespace Go.Proofs.Ytkjoojmlcjmlgaa
set_option linter.unusedVariables false
set_option linter.unusedSimpArgs false
open Go.RowKit
def exC : C.Sys := ⟨100, 20, 200, 10, 1000, [⟨120, 0, true⟩, ⟨60, 100, false⟩], 4, 3, 2, 50, 80⟩
set_option maxRecDepth 100000 in
set_option maxHeartbeats 4000000 in
theorem exC_any (w : World) : Calls Try.prog 48 #[] w fun e w' => ∃ vl, e = .returned (.agg (sysV exC vl)) ∧ Loads w' vl exC.loads ∧ Ext w w' := by
  have hpc := plus_cell
  go_enter Try.func48, Try.ntmps48
  go_wp2
  obtain ⟨w1, hw1⟩ : ∃ w1, (w.alloc (.cells (sysV exC (.slice (some ⟨w.heap.size + 1, 0, none⟩) 2 2)) 24)).alloc (.cells #[.int .i64 120, .int .i64 0, .bool true, .int .i64 60, .int .i64 100, .bool false] 45) = w1 := ⟨_, rfl⟩
  have hbx : Blk w1 w.heap.size (sysV exC (.slice (some ⟨w.heap.size + 1, 0, none⟩) 2 2)) 24 := by rw [← hw1]; exact (Blk.new w _ _).alloc _
  have hbl : Blk w1 (w.heap.size + 1) #[.int .i64 120, .int .i64 0, .bool true, .int .i64 60, .int .i64 100, .bool false] 45 := by rw [← hw1]; exact Blk.new' (by simp) _ _
  have hE1 : Ext w w1 := by rw [← hw1]; (with_reducible (repeat (first | exact Ext.refl _ | assumption | apply Ext.alloc | apply Ext.drew | exact ext_plus _ _ | (apply Ext.setCell; rotate_left; (simp <;> omega)) | (apply Ext.trans; rotate_left; exact ext_plus _ _) | (apply Ext.trans; rotate_left; assumption))))
  have hL : Loads w1 (.slice (some ⟨w.heap.size + 1, 0, none⟩) 2 2) exC.loads := by
    refine ⟨_, 2, rfl, fun i hi => ⟨w.heap.size + 1, 0, rfl, hbl.lt, fun j u hu => ?_⟩⟩
    rw [hbl.cell]
    have hi2 : i < 2 := hi
    match i, hi2 with
    | 0, _ => match j with
      | 0 => exact hu
      | 1 => exact hu
      | 2 => exact hu
      | j + 3 => simp [loadC] at hu
    | 1, _ => match j with
      | 0 => exact hu
      | 1 => exact hu
      | 2 => exact hu
      | j + 3 => simp [loadC] at hu
  have z0 := hbx.cell
  have z1 := hbx.lt
  have hw2 := hw1
  simp only [sysV, exC] at hw2
  rw [hw2]
  clear hw1 hw2
  dsimp only [sysV, exC] at z0 hL ⊢
  exact bodyPost_ret (v := .agg #[.int .i64 100, .int .i64 20, .int .i64 200, .int .i64 10, .int .i64 1000, .slice (some ⟨w.heap.size + 1, 0, none⟩) 2 2, .int .i64 4, .int .i64 3, .int .i64 2, .int .i64 50, .int .i64 80]) (by simp [results, Try.results48, go_sem, z0]) rfl ⟨_, rfl, hL, hE1⟩
end Go.Proofs.Ytkjoojmlcjmlgaa
