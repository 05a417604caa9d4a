/- All allowed weathers, as the document makes them. -/
import Derived.Test.YtkjoojmlcjmlgaaH5
namespace Go.Proofs.Ytkjoojmlcjmlgaa
set_option linter.unusedVariables false
set_option linter.unusedSimpArgs false
open Go.RowKit
def bs (t : C.Txt) : ByteArray := ⟨t.toArray⟩
theorem bs_snoc (t : C.Txt) (x : UInt8) : bs t ++ ⟨#[x]⟩ = bs (t ++ [x]) := by
  apply ByteArray.ext
  simp [bs]
theorem bs_list (t : C.Txt) : (bs t).data.toList = t := by simp [bs]
theorem bs_size (t : C.Txt) : (bs t).size = t.length := by simp [bs, ByteArray.size]
def strC (t : C.Txt) : List Value := [.string (bs t)]
/-- A list of texts, in memory. -/
def Texts (w : World) (v : Value) (xs : List C.Txt) : Prop := Sls 1 (AtE strC) w v xs
theorem Texts.ext {w w' : World} {v : Value} {xs : List C.Txt} (h : Texts w v xs) (he : Ext w w') : Texts w' v xs := Sls.ext (ate_stays _) h he
theorem str_info : (Try.prog.info? 9).map (fun i => (i.zero, i.size, i.bytes)) = some (some (.string ⟨#[]⟩), 1, 16) := by kernel_rfl
theorem texts_len (n : Nat) : (C.texts n).length = 2 ^ n := by simp [C.texts]
theorem texts_each {n : Nat} {t : C.Txt} (h : t ∈ C.texts n) : t.length = n := by
  unfold C.texts at h
  obtain ⟨x, _, rfl⟩ := List.mem_map.1 h
  exact textOf_len n x
theorem range_pairs {α : Type} (f : Nat → α) : ∀ m, (List.range (2 * m)).map f = (List.range m).flatMap fun i => [f (2 * i), f (2 * i + 1)]
  | 0 => rfl
  | m + 1 => by
    rw [show 2 * (m + 1) = 2 * m + 1 + 1 by omega, List.range_succ, List.range_succ, List.range_succ, List.map_append, List.map_append, range_pairs f m, List.flatMap_append]
    simp
theorem texts_succ (n : Nat) : C.texts (n + 1) = (C.texts n).flatMap fun t => [t ++ [115], t ++ [99]] := by
  unfold C.texts
  rw [show 2 ^ (n + 1) = 2 * 2 ^ n by rw [Nat.pow_succ, Nat.mul_comm], range_pairs, List.flatMap_map]
  congr 1
  funext i
  have h1 : (2 * i) / 2 = i := by omega
  have h2 : (2 * i + 1) / 2 = i := by omega
  have h3 : (2 * i) % 2 = 0 := by omega
  have h4 : (2 * i + 1) % 2 = 1 := by omega
  show [C.textOf (n + 1) (2 * i), C.textOf (n + 1) (2 * i + 1)] = _
  have e : ∀ x, C.textOf (n + 1) x = C.textOf n (x / 2) ++ [if x % 2 = 1 then 99 else 115] := fun _ => rfl
  rw [e, e, h1, h2, h3, h4]
  rfl
theorem texts_one (w : World) (b : Nat) (e : TypeId) (h : Blk w b #[.string ⟨#[]⟩] e) : Texts w (.slice (some ⟨b, 0, none⟩) 1 1) (C.texts 0) := by
  refine ⟨_, 1, rfl, fun i hi => ⟨b, 0, rfl, h.lt, fun j u hu => ?_⟩⟩
  have hi0 : i = 0 := by have : i < 1 := hi; omega
  subst hi0
  rw [h.cell]
  have hj : strC (C.texts 0)[0] = [.string ⟨#[]⟩] := rfl
  rw [hj] at hu
  cases j with
  | zero => exact hu
  | succ j => simp at hu
theorem one_cell (v : Value) (h : v.oneCell' = true) : ∀ u ∈ [v], u.oneCell' = true := by intro u hu; simp at hu; subst hu; exact h
theorem strC_len (t : C.Txt) : (strC t).length = 1 := rfl
theorem cell_str (w : World) (x y : ByteArray) (e : TypeId) {b : Nat} (hb : b = w.heap.size) : ∀ j u, ([.string x, .string y] : List Value)[j]? = some u → (w.alloc (.cells #[.string x, .string y] e)).cell? ((⟨b, 0, none⟩ : Addr).add j) = some u := cell_two w (.string x) (.string y) e hb
theorem two_strs (x y : ByteArray) : ∀ u ∈ [Value.string x, Value.string y], u.oneCell' = true := by intro u hu; simp at hu; rcases hu with rfl | rfl <;> rfl
/-- The next texts of the first i texts. -/
def nexts (X : List C.Txt) (i : Nat) : List C.Txt := (X.take i).flatMap fun t => [t ++ [115], t ++ [99]]
theorem nexts_succ (X : List C.Txt) {i : Nat} (h : i < X.length) : nexts X (i + 1) = nexts X i ++ [X[i] ++ [115], X[i] ++ [99]] := by
  unfold nexts; rw [List.take_succ_eq_append_getElem h, List.flatMap_append]; simp
theorem nexts_len (X : List C.Txt) : ∀ i, i ≤ X.length → (nexts X i).length = 2 * i
  | 0, _ => rfl
  | i + 1, h => by rw [nexts_succ X (by omega), List.length_append, nexts_len X i (by omega)]; simp; omega
theorem filter_step {X : List C.Txt} (p : C.Txt → Bool) {i : Nat} (h : i < X.length) : (X.take (i + 1)).filter p = (X.take i).filter p ++ if p X[i] then [X[i]] else [] := by
  rw [List.take_succ_eq_append_getElem h, List.filter_append]; by_cases hp : p X[i] = true <;> simp [hp]

set_option maxRecDepth 100000 in
set_option maxHeartbeats 16000000 in
theorem dweathers_any (c : C.Sys) (vl : Value) (hvl : ∃ a n k, vl = .slice a n k) (O : C.Ok c) (w : World) :
    Calls Try.prog 29 #[.agg (sysV c vl)] w fun e w' => ∃ v, e = .returned v ∧ Texts w' v (C.weathers c) ∧ Ext w w' := by
  obtain ⟨a, n9, cap, rfl⟩ := hvl
  obtain ⟨N, hN⟩ : ∃ N : Nat, c.days = N := ⟨c.days.toNat, by have := O.d1; omega⟩
  have hN10 : N ≤ 10 := by have := O.d10; omega
  have hwe : C.weathers c = (C.texts N).filter (C.allowed c) := by unfold C.weathers; rw [hN]; rfl
  rw [hwe]
  have HAL := Lib.hid (fun t w' (ht : t.length ≤ 1000000) => dallowed_any c (bs t) (.slice a n9 cap) ⟨_, _, _, rfl⟩ w' (by rw [bs_size]; exact ht) (by have := O.w1; omega) (by have := O.wd; have := O.d10; omega))
  have HN := Lib.hid hN
  clear hN
  obtain ⟨i0, hi, hz0, hz1, hz2⟩ := info_parts str_info
  have hpc := plus_cell
  clear hwe O
  go_enter Try.func29, Try.ntmps29
  go_upto_region 2 with (fail)
  obtain ⟨w1, hw1⟩ : ∃ w1, (w.alloc (.cells (sysV c (.slice a n9 cap)) 24)).alloc (.cells #[.string ⟨#[]⟩] 9) = w1 := ⟨_, rfl⟩
  have hbx : Blk w1 w.heap.size (sysV c (.slice a n9 cap)) 24 := by rw [← hw1]; exact (Blk.new w _ _).alloc _
  have hb1 : Blk w1 (w.heap.size + 1) #[.string ⟨#[]⟩] 9 := by rw [← hw1]; exact Blk.new' (by simp) _ _
  have hE1 : Ext w w1 := by rw [← hw1]; (with_reducible (repeat (first | exact Ext.refl _ | assumption | apply Ext.alloc | apply Ext.drew | exact ext_plus _ _ | (apply Ext.setCell; rotate_left; (simp <;> omega)) | (apply Ext.trans; rotate_left; exact ext_plus _ _) | (apply Ext.trans; rotate_left; assumption))))
  have hT1 := texts_one w1 (w.heap.size + 1) _ hb1
  have hzw1 : w.heap.size < w1.heap.size := hbx.lt
  rw [hw1]
  clear hw1 hb1
  go_wp2
  go_loopw [3, 4, 5, 6] (fun va vd _ _ wr => ∃ k : Nat, k ≤ N ∧ vd = .int .i64 k ∧ Texts wr va (C.texts k) ∧ Ext w1 wr) (fun _ vd _ _ _ => N - (intOf vd).toNat)
  case atStart => exact ⟨0, Nat.zero_le _, rfl, hT1, Ext.refl _⟩
  case round =>
    rename World => wr
    obtain ⟨k, hk, rfl, hT, hEr⟩ := hrel
    have hbxr := hbx.ext hEr
    have hzr := hEr.size
    have hlen := texts_len k
    have hp10 : 2 ^ k ≤ 2 ^ 10 := Nat.pow_le_pow_right (by decide) (by omega)
    by_cases hlt : k < N
    · have hnx := texts_succ k
      have hea := fun t (ht : t ∈ C.texts k) => texts_each ht
      obtain ⟨X, hX⟩ : ∃ X, C.texts k = X := ⟨_, rfl⟩
      rw [hX] at hlen hnx hT hea
      have HEA := Lib.hid hea
      have hXl : X.length ≤ 1024 := by omega
      have hnn : nexts X X.length = C.texts (k + 1) := by unfold nexts; rw [List.take_length]; exact hnx.symm
      have HNN := Lib.hid hnn
      have hT' := hT
      obtain ⟨a3, c3, rfl, hx3⟩ := hT'
      have HX3 := Lib.hid hx3
      have k0 := hbxr.cell
      have k1 := hbxr.lt
      have HD := HN.out
      clear hlen hp10 hnx hX hnn hx3 hea
      go_wp2
      go_loopw [5, 6] (fun l vi wx => ∃ i : Nat, i ≤ X.length ∧ vi = .int .i64 i ∧ wx.ownsRow wr.heap.size 9 1 l (2 * i) ((nexts X i).flatMap strC) ∧ Ext wr wx) (fun _ vi _ => X.length - (intOf vi).toNat)
      case atStart => exact ⟨0, Nat.zero_le _, rfl, World.ownsRow_nil _ _ _ _, Ext.refl _⟩
      case round =>
        rename World => wx
        obtain ⟨i, hi9, rfl, hown, hEx⟩ := hrel
        have hzx := hEx.size
        by_cases hli : i < X.length
        · obtain ⟨b3, o3, rfl, hb3, hAt⟩ := HX3.out i hli
          have hst := nexts_succ X hli
          have hbs := HEA.out _ (List.getElem_mem hli)
          rw [← bs_size] at hbs
          obtain ⟨t, ht⟩ : ∃ t, X[i] = t := ⟨_, rfl⟩
          rw [ht] at hAt hst hbs
          have hcat : ¬ 9223372036854775807 < (bs t).size + 1 := by omega
          clear hbs
          have m0 : wx.cell? ⟨b3, o3 + i * 1, none⟩ = some (.string (bs t)) := (hEx.cells.1 _ _ hb3).trans (hAt 0 _ rfl)
          have mb : b3 < wx.heap.size := Nat.lt_of_lt_of_le hb3 hzx
          have HST := Lib.hid hst
          clear hAt hst ht k0 k1
          simp only [Nat.mul_one] at m0
          go_upto_region 9 with (fail)
          have n0 : wx.drew.cell? ⟨b3, o3 + i, none⟩ = some (.string (bs t)) := m0
          refine wp_region_late 12 (fun cc y => cc = false → y.cell? ⟨b3, o3 + i, none⟩ = some (.string (bs t)) ∧ b3 < y.heap.size) (by kernel_rfl) (fun hL => ?_)

          refine late_early (i := 0) (v := ?_) rfl (by kernel_rfl) (by kernel_rfl) (by kernel_rfl) (by decide) (by kernel_rfl) (fun _ _ _ h => h) hL (Or.inl ⟨by rfl, ?_⟩) (fun _ => ⟨n0, mb⟩) (fun hL' => ?_)
          rotate_left
          · intro y hy; clear hy; go_simp; (try with_reducible rfl)
          clear hL; rename Shutb _ _ => hL
          (try simp only [Act.put, List.getElem_toArray, List.getElem_cons_zero, List.getElem_cons_succ, List.setIfInBounds_toArray, List.set_cons_zero, List.set_cons_succ])
          refine late_early (i := 1) (v := ?_) rfl (by kernel_rfl) (by kernel_rfl) (by kernel_rfl) (by decide) (by kernel_rfl) (fun _ _ _ h => h) hL (Or.inl ⟨by rfl, ?_⟩) (fun _ => ⟨n0, mb⟩) (fun hL' => ?_)
          rotate_left
          · intro y hy; clear hy; go_simp; (try with_reducible rfl)
          clear hL; rename Shutb _ _ => hL
          (try simp only [Act.put, List.getElem_toArray, List.getElem_cons_zero, List.getElem_cons_succ, List.setIfInBounds_toArray, List.set_cons_zero, List.set_cons_succ])
          refine late_early (i := 2) (v := ?_) rfl (by kernel_rfl) (by kernel_rfl) (by kernel_rfl) (by decide) (by kernel_rfl) (fun _ _ _ h => h) hL (Or.inl ⟨by rfl, ?_⟩) (fun _ => ⟨n0, mb⟩) (fun hL' => ?_)
          rotate_left
          · intro y hy; clear hy; go_simp; (try with_reducible rfl)
          clear hL; rename Shutb _ _ => hL
          (try simp only [Act.put, List.getElem_toArray, List.getElem_cons_zero, List.getElem_cons_succ, List.setIfInBounds_toArray, List.set_cons_zero, List.set_cons_succ])
          refine late_early (i := 3) (v := ?_) rfl (by kernel_rfl) (by kernel_rfl) (by kernel_rfl) (by decide) (by kernel_rfl) (fun _ _ _ h => h) hL (Or.inl ⟨by rfl, ?_⟩) (fun _ => ⟨n0, mb⟩) (fun hL' => ?_)
          rotate_left
          · intro y hy; clear hy; go_simp; (try with_reducible rfl)
          clear hL; rename Shutb _ _ => hL
          (try simp only [Act.put, List.getElem_toArray, List.getElem_cons_zero, List.getElem_cons_succ, List.setIfInBounds_toArray, List.set_cons_zero, List.set_cons_succ])
          refine late_early (i := 4) (v := ?_) rfl (by kernel_rfl) (by kernel_rfl) (by kernel_rfl) (by decide) (by kernel_rfl) (fun _ _ _ h => h) hL (Or.inl ⟨by rfl, ?_⟩) (fun _ => ⟨n0, mb⟩) (fun hL' => ?_)
          rotate_left
          · intro y hy; have hz := hy rfl; clear hy; obtain ⟨g1, g2⟩ := hz; go_simp; (try with_reducible rfl)
          clear hL; rename Shutb _ _ => hL
          (try simp only [Act.put, List.getElem_toArray, List.getElem_cons_zero, List.getElem_cons_succ, List.setIfInBounds_toArray, List.set_cons_zero, List.set_cons_succ])
          refine late_early (i := 5) (v := ?_) rfl (by kernel_rfl) (by kernel_rfl) (by kernel_rfl) (by decide) (by kernel_rfl) (fun _ _ _ h => h) hL (Or.inl ⟨by rfl, ?_⟩) (fun _ => ⟨n0, mb⟩) (fun hL' => ?_)
          rotate_left
          · intro y hy; clear hy; go_simp; (try with_reducible rfl)
          clear hL; rename Shutb _ _ => hL
          (try simp only [Act.put, List.getElem_toArray, List.getElem_cons_zero, List.getElem_cons_succ, List.setIfInBounds_toArray, List.set_cons_zero, List.set_cons_succ])
          refine late_early (i := 6) (v := ?_) rfl (by kernel_rfl) (by kernel_rfl) (by kernel_rfl) (by decide) (by kernel_rfl) (fun _ _ _ h => h) hL (Or.inl ⟨by rfl, ?_⟩) (fun _ => ⟨n0, mb⟩) (fun hL' => ?_)
          rotate_left
          · intro y hy; clear hy; go_simp; (try with_reducible rfl)
          clear hL; rename Shutb _ _ => hL
          (try simp only [Act.put, List.getElem_toArray, List.getElem_cons_zero, List.getElem_cons_succ, List.setIfInBounds_toArray, List.set_cons_zero, List.set_cons_succ])
          refine late_early (i := 7) (v := ?_) rfl (by kernel_rfl) (by kernel_rfl) (by kernel_rfl) (by decide) (by kernel_rfl) (fun _ _ _ h => h) hL (Or.inl ⟨by rfl, ?_⟩) (fun _ => ⟨n0, mb⟩) (fun hL' => ?_)
          rotate_left
          · intro y hy; clear hy; go_simp; (try with_reducible rfl)
          clear hL; rename Shutb _ _ => hL
          (try simp only [Act.put, List.getElem_toArray, List.getElem_cons_zero, List.getElem_cons_succ, List.setIfInBounds_toArray, List.set_cons_zero, List.set_cons_succ])
          refine late_early (i := 8) (v := ?_) rfl (by kernel_rfl) (by kernel_rfl) (by kernel_rfl) (by decide) (by kernel_rfl) (fun _ _ _ h => h) hL (Or.inl ⟨by rfl, ?_⟩) (fun _ => ⟨n0, mb⟩) (fun hL' => ?_)
          rotate_left
          · intro y hy; clear hy; go_simp; (try with_reducible rfl)
          clear hL; rename Shutb _ _ => hL
          (try simp only [Act.put, List.getElem_toArray, List.getElem_cons_zero, List.getElem_cons_succ, List.setIfInBounds_toArray, List.set_cons_zero, List.set_cons_succ])
          refine late_early (i := 9) (v := ?_) rfl (by kernel_rfl) (by kernel_rfl) (by kernel_rfl) (by decide) (by kernel_rfl) (fun _ _ _ h => h) hL (Or.inl ⟨by rfl, ?_⟩) (fun _ => ⟨n0, mb⟩) (fun hL' => ?_)
          rotate_left
          · intro y hy; have hz := hy rfl; clear hy; obtain ⟨g1, g2⟩ := hz; go_simp; (try with_reducible rfl)
          clear hL; rename Shutb _ _ => hL
          (try simp only [Act.put, List.getElem_toArray, List.getElem_cons_zero, List.getElem_cons_succ, List.setIfInBounds_toArray, List.set_cons_zero, List.set_cons_succ])
          refine late_early (i := 10) (v := ?_) rfl (by kernel_rfl) (by kernel_rfl) (by kernel_rfl) (by decide) (by kernel_rfl) (fun _ _ _ h => h) hL (Or.inl ⟨by rfl, ?_⟩) (fun _ => ⟨n0, mb⟩) (fun hL' => ?_)
          rotate_left
          · intro y hy; clear hy; go_simp; (try with_reducible rfl)
          clear hL; rename Shutb _ _ => hL
          (try simp only [Act.put, List.getElem_toArray, List.getElem_cons_zero, List.getElem_cons_succ, List.setIfInBounds_toArray, List.set_cons_zero, List.set_cons_succ])
          refine late_one (i := 11) (by kernel_rfl) hL (fun hL' => ?_)
          refine wpOp_step rfl (fun K hK0 => ?_)
          have hK : Shut _ := hK0
          clear hK0
          go_simp
          obtain ⟨wq, hwq⟩ : ∃ wq, (wx.alloc (.cells #[.string (bs t ++ ⟨#[115]⟩), .string (bs t ++ ⟨#[99]⟩)] 9)).drew = wq := ⟨_, rfl⟩
          have hEq : Ext wx wq := by rw [← hwq]; exact ((Ext.refl wx).alloc _).drew
          have hcq : ∀ j u, ([.string (bs t ++ ⟨#[115]⟩), .string (bs t ++ ⟨#[99]⟩)] : List Value)[j]? = some u → wq.cell? ((⟨wx.heap.size, 0, none⟩ : Addr).add j) = some u := by rw [← hwq]; exact cell_str wx _ _ _ rfl
          have hown2 := own_ext hown hEq
          have hzq := hEq.size
          have m2 := (hEq.cells.1 _ _ mb).trans m0
          have mb2 := Nat.lt_of_lt_of_le mb hzq
          rw [hwq]
          clear hwq
          refine hK.out _ _ ⟨fun _ => ⟨m2, mb2⟩, ?_⟩
          clear hK K; clear hL; rename Shutb _ _ => hL
          (try simp only [Act.put, List.getElem_toArray, List.getElem_cons_zero, List.getElem_cons_succ, List.setIfInBounds_toArray, List.set_cons_zero, List.set_cons_succ])
          refine late_one (i := 12) (by kernel_rfl) hL (fun hL' => ?_)
          refine wpOp_step rfl (fun K hK0 => ?_)
          have hK : Shut _ := hK0
          clear hK0
          refine wp_append_own _ _ _ 57 rfl wr.heap.size 9 i0 (.string ⟨#[]⟩) 1 16 Try.underlying57 hi hz0 hz1 hz2 rfl (by decide) _ (2 * i) _ rfl hown2 ⟨wx.heap.size, 0, none⟩ 2 2 [.string (bs t ++ ⟨#[115]⟩), .string (bs t ++ ⟨#[99]⟩)] rfl rfl hcq (two_strs _ _) (by unfold maxLen; omega) (by omega) (by omega) ?_
          intro v' w9 hown' hgrow _
          refine hK.out _ _ ⟨fun e => absurd (e : true = false) (by decide), ?_⟩
          clear hK K; clear hL; rename Shutb _ _ => hL
          (try simp only [Act.put, List.getElem_toArray, List.getElem_cons_zero, List.getElem_cons_succ, List.setIfInBounds_toArray, List.set_cons_zero, List.set_cons_succ])
          refine late_one (i := 13) (by kernel_rfl) hL (fun hL' => ?_)
          refine wpOp_step rfl (fun K hK0 => ?_)
          have hK : Shut _ := hK0
          clear hK0
          go_simp
          refine hK.out _ _ ⟨fun e => absurd (e : true = false) (by decide), ?_⟩
          clear hK K; clear hL; rename Shutb _ _ => hL
          (try simp only [Act.put, List.getElem_toArray, List.getElem_cons_zero, List.getElem_cons_succ, List.setIfInBounds_toArray, List.set_cons_zero, List.set_cons_succ])
          refine late_done (by kernel_rfl) ?_
          (try dsimp only [Exit.then])
          have hE9 : Ext wr w9 := Ext.grown (hEx.trans hEq) hgrow (own_base hown2)
          rw [bs_snoc, bs_snoc] at hown'
          clear n0 m0 m2
          go_wp2
          go_roundw
          case rel => exact ⟨i + 1, by omega, by go_num, by rw [HST.out, List.flatMap_append]; exact hown', hE9⟩
          case measure => simp [intOf]; omega
        · obtain rfl : i = X.length := by omega
          have hTn : Texts wx _ (nexts X X.length) := sls_of_own strC 1 strC_len (by rw [nexts_len X X.length (Nat.le_refl _)]; exact hown)
          rw [HNN.out] at hTn
          obtain ⟨a4, c4, rfl⟩ := own_slice hown
          have hE9 := hEr.trans hEx
          clear k0 k1
          go_wp2
          go_roundw
          case rel => exact ⟨k + 1, by omega, by go_num, hTn, hE9⟩
          case measure => simp [intOf]; omega
    · obtain rfl : N = k := by omega
      have hnlt : ¬ ((N : Int) < c.days) := by rw [HN.out]; omega
      obtain ⟨X, hX⟩ : ∃ X, C.texts N = X := ⟨_, rfl⟩
      have hea := fun t (ht : t ∈ C.texts N) => texts_each ht
      rw [hX] at hlen hT hea
      have HXX := Lib.hid hX
      have HEA := Lib.hid hea
      have hXl : X.length ≤ 1024 := by omega
      have hT' := hT
      obtain ⟨a3, c3, rfl, hx3⟩ := hT'
      have HX3 := Lib.hid hx3
      have k0 := hbxr.cell
      have k1 := hbxr.lt
      have HD := HN.out
      clear hlen hp10 hX hx3 hea
      go_wp2
      clear HD hnlt
      go_loopw [7, 8] (fun l vi wx => ∃ i : Nat, i ≤ X.length ∧ vi = .int .i64 i ∧ wx.ownsRow wr.heap.size 9 1 l ((X.take i).filter (C.allowed c)).length (((X.take i).filter (C.allowed c)).flatMap strC) ∧ Ext wr wx) (fun _ vi _ => X.length - (intOf vi).toNat)
      case atStart => exact ⟨0, Nat.zero_le _, rfl, World.ownsRow_nil _ _ _ _, Ext.refl _⟩
      case round =>
        rename World => wx
        clear k0 k1
        obtain ⟨i, hi9, rfl, hown, hEx⟩ := hrel
        have hzx := hEx.size
        have hbxx := hbxr.ext hEx
        have hfl : ((X.take i).filter (C.allowed c)).length ≤ 1024 := by
          have h1 := List.length_filter_le (C.allowed c) (X.take i)
          have h2 := List.length_take_le i X
          omega
        by_cases hli : i < X.length
        · obtain ⟨b3, o3, rfl, hb3, hAt⟩ := HX3.out i hli
          have hst := filter_step (C.allowed c) hli
          have hbs := HEA.out _ (List.getElem_mem hli)
          obtain ⟨t, ht⟩ : ∃ t, X[i] = t := ⟨_, rfl⟩
          rw [ht] at hAt hst hbs
          have hal := fun w' => HAL.out t w' (by omega)
          rw [bs_list] at hal
          have m0 : wx.cell? ⟨b3, o3 + i * 1, none⟩ = some (.string (bs t)) := (hEx.cells.1 _ _ hb3).trans (hAt 0 _ rfl)
          have mb : b3 < wx.heap.size := Nat.lt_of_lt_of_le hb3 hzx
          simp only [Nat.mul_one] at m0
          obtain ⟨L, hL⟩ : ∃ L, (X.take i).filter (C.allowed c) = L := ⟨_, rfl⟩
          rw [hL] at hst hown hfl
          obtain ⟨A, hA⟩ : ∃ A, C.allowed c t = A := ⟨_, rfl⟩
          rw [hA] at hst
          simp only [hA] at hal
          have HAA := Lib.hid hal
          have HST := Lib.hid hst
          obtain ⟨a5, c5, rfl⟩ := own_slice hown
          obtain ⟨LN, hLN⟩ : ∃ LN, L.length = LN := ⟨_, rfl⟩
          rw [hLN] at hown hfl
          have HLN := Lib.hid hLN
          clear hAt hst ht hbs hal hL hA hLN
          rw [HLN.out]
          have k0 := hbxx.cell
          have k1 := hbxx.lt
          cases A with
          | false =>
            go_upto_region 15 with (fail)

            refine wp_region_ext 6 (fun _ _ d _ _ h => by cases d <;> exact h) (by kernel_rfl) (by kernel_rfl) (by kernel_rfl) (by kernel_rfl) ?_
            (try simp only [List.append_eq, List.cons_append, List.nil_append])
            simp only [List.take_succ_cons, List.take_zero, List.drop_succ_cons, List.drop_zero]
            repeat (any_goals (first | go_big_quiet_step ((go_at_call 26; exact ext_quiet (HAA.out _))) | quiet_step ((go_at_call 26; exact ext_quiet (HAA.out _)))))
            all_goals (refine wpQuiet_nil ?_; intro w3 hEw3)
            go_wp2
            go_roundw
            case rel => exact ⟨i + 1, by omega, by go_num, by rw [HST.out]; simp only [Bool.false_eq_true, if_false, List.append_nil]; rw [HLN.out]; exact own_ext hown hEw3, hEx.trans hEw3⟩
            case measure => simp [intOf]; omega
          | true =>
            go_upto_region 15 with (fail)

            refine wp_region_ext 6 (fun _ _ d _ _ h => by cases d <;> exact h) (by kernel_rfl) (by kernel_rfl) (by kernel_rfl) (by kernel_rfl) ?_
            (try simp only [List.append_eq, List.cons_append, List.nil_append])
            simp only [List.take_succ_cons, List.take_zero, List.drop_succ_cons, List.drop_zero]
            repeat (any_goals (first | go_big_quiet_step ((go_at_call 26; exact ext_quiet (HAA.out _))) | quiet_step ((go_at_call 26; exact ext_quiet (HAA.out _)))))
            all_goals (refine wpQuiet_nil ?_; intro w3 hEw3)
            have m1 := (hEw3.cells.1 _ _ mb).trans m0
            have mb1 := Nat.lt_of_lt_of_le mb hEw3.size
            have hown3 := own_ext hown hEw3
            have hz3 := hEw3.size
            clear k0 k1 m0 mb
            go_wp2_with (at_builtin; refine wpList_append_own _ rfl _ _ 57 rfl wr.heap.size 9 i0 (.string ⟨#[]⟩) 1 16 Try.underlying57 hi hz0 hz1 hz2 rfl (by decide) _ LN _ rfl (own_ext hown3 ((Ext.refl _).alloc _)) ⟨w3.heap.size, 0, none⟩ 1 1 [.string (bs t)] rfl rfl (cell_one _ _ _ (by simp)) (one_cell _ rfl) (by unfold maxLen; omega) (by omega) (by simp; omega) ?_; intro v' w9 hown' hgrow _)
            have hE9 : Ext wr w9 := Ext.grown ((hEx.trans hEw3).alloc _) hgrow (own_base hown3)
            go_roundw
            case rel => exact ⟨i + 1, by omega, by go_num, by rw [HST.out]; simp only [if_true, List.length_append, List.flatMap_append]; rw [HLN.out]; exact hown', hE9⟩
            case measure => simp [intOf]; omega
        · obtain rfl : i = X.length := by omega
          have hTn := sls_of_own strC 1 strC_len hown
          rw [List.take_length, ← HXX.out] at hTn
          have hE9 := hE1.trans (hEr.trans hEx)
          go_wp2
          go_ret
          exact ⟨_, rfl, hTn, hE9⟩
end Go.Proofs.Ytkjoojmlcjmlgaa
