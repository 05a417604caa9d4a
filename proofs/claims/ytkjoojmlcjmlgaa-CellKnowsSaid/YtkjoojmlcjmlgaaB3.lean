/- Best. -/
import Derived.Test.YtkjoojmlcjmlgaaB1
namespace Go.Proofs.Ytkjoojmlcjmlgaa
set_option linter.unusedVariables false
set_option linter.unusedSimpArgs false
open Go.RowKit Go.Maps
/-- What Best tells: those that suffice and come first by cost, then panels, then batteries. -/
def BestIs (c : C.Sys) (o : Option (Int × Int)) : Prop :=
  match o with
  | none => ∀ s, inRange s → suffS c s = false
  | some t => inRange t ∧ suffS c t = true ∧ ∀ s, inRange s → suffS c s = true → C.cost c t.1 t.2 < C.cost c s.1 s.2 ∨ (C.cost c t.1 t.2 = C.cost c s.1 s.2 ∧ rankS t ≤ rankS s)
theorem best_of_sorted {c : C.Sys} {Z : List (Int × Int)} (hp : Z.Perm (stores 117)) (hs : S.Srt (S.Ord (fun s => C.cost c s.1 s.2) rankS) Z) : BestIs c (Z.find? (suffS c)) := by
  have hm : ∀ s, s ∈ Z ↔ inRange s := fun s => by
    rw [hp.mem_iff]; exact ⟨stores_range, stores_mem⟩
  cases h : Z.find? (suffS c) with
  | none =>
    intro s hs'
    have := List.find?_eq_none.1 h s ((hm s).2 hs')
    simpa using this
  | some t =>
    obtain ⟨h1, A, B, rfl, h2⟩ := List.find?_eq_some_iff_append.1 h
    refine ⟨(hm t).1 (by simp), h1, fun s hr hsf => ?_⟩
    have hz := (hm s).2 hr
    rw [List.mem_append, List.mem_cons] at hz
    rcases hz with hz | rfl | hz
    · have := h2 s hz
      rw [hsf] at this
      simp at this
    · exact .inr ⟨rfl, Nat.le_refl _⟩
    · have hpw := (List.pairwise_append.1 hs).2.1
      have := (List.pairwise_cons.1 hpw).1 s hz
      rcases this with h3 | ⟨h3, h4⟩
      · exact .inl h3
      · exact .inr ⟨h3, Nat.le_of_lt h4⟩
def bestR (c : C.Sys) (o : Option (Int × Int)) : Int × Int × Int × Int :=
  if C.sysB c then (match o with | none => (0, 0, 0, 5) | some t => (t.1, t.2, C.cost c t.1 t.2, 0)) else (0, 0, 0, 2)
def BestPost (c : C.Sys) (w : World) (e : Ending) (w' : World) : Prop :=
  ∃ o, (C.sysB c = true → BestIs c o) ∧ e = .returned (.tuple #[.int .i64 (bestR c o).1, .int .i64 (bestR c o).2.1, .int .i64 (bestR c o).2.2.1, .int .i64 (bestR c o).2.2.2]) ∧ Ext w w'
theorem stores_at (k j : Nat) (hj : j < 9) : stores (k * 9 + j + 1) = stores (k * 9 + j) ++ [((k : Int), (j : Int))] := by
  rw [stores_succ, show (k * 9 + j) / 9 = k by omega, show (k * 9 + j) % 9 = j by omega]
theorem stores_not (k j : Nat) (hj : j < 9) : ((k : Int), (j : Int)) ∉ stores (k * 9 + j) := by
  have h := stores_new (k * 9 + j)
  rw [show (k * 9 + j) / 9 = k by omega, show (k * 9 + j) % 9 = j by omega] at h
  exact h
set_option maxRecDepth 100000 in
set_option maxHeartbeats 16000000 in
theorem bestQ_any (c : C.Sys) (vl : Value) (w : World) (hL : Loads w vl c.loads) (hn : c.loads.length ≤ 1000000) :
    Calls Try.prog 36 #[.agg (sysV c vl)] w (BestPost c w) := by
  have hL' := hL
  obtain ⟨a, cap, rfl, _⟩ := hL'
  have hva := fun w' (hx : Ext w w') => valid_any c _ w' (hL.ext hx) hn
  obtain ⟨B, hB⟩ : ∃ B, C.sysB c = B := ⟨_, rfl⟩
  simp only [hB] at hva
  have HB := Lib.hid hB
  have HVA := Lib.hid hva
  clear hva
  cases B with
  | false =>
    clear hB
    go_enter Try.func36, Try.ntmps36
    go_wp2_with (first | (go_at_call 58; refine (HVA.out _ (by (with_reducible (repeat (first | exact Ext.refl _ | assumption | apply Ext.alloc | apply Ext.drew | exact ext_plus _ _ | (apply Ext.setCell; rotate_left; (simp <;> omega)) | (apply Ext.trans; rotate_left; exact ext_plus _ _) | (apply Ext.trans; rotate_left; assumption)))))).mono ?_; rintro e w' ⟨rfl, hb⟩; have hE2 : Ext w w' := (by (with_reducible (repeat (first | exact Ext.refl _ | assumption | apply Ext.alloc | apply Ext.drew | exact ext_plus _ _ | (apply Ext.setCell; rotate_left; (simp <;> omega)) | (apply Ext.trans; rotate_left; exact ext_plus _ _) | (apply Ext.trans; rotate_left; assumption)))))))
    exact bodyPost_ret (v := .tuple #[.int .i64 0, .int .i64 0, .int .i64 0, .int .i64 2]) (by simp [results, Try.results36, go_sem]) rfl ⟨none, (fun h => by rw [HB.out] at h; cases h), by unfold bestR; rw [HB.out]; rfl, hE2⟩
  | true =>
    have O := C.ok_of hB
    have HO := Lib.hid O
    have hmm : ∀ w : World, (Instr.makeMap 104 none).run Try.prog w = .ok (.map (some w.heap.size)) (w.alloc (.map #[] 0)) := fun _ => rfl
    obtain ⟨i0, hi, hz0, hz1, hz2⟩ := info_parts store_info
    clear hB O
    go_enter Try.func36, Try.ntmps36
    go_upto_region 5 with (first | (go_at_call 58; refine (HVA.out _ (by (with_reducible (repeat (first | exact Ext.refl _ | assumption | apply Ext.alloc | apply Ext.drew | exact ext_plus _ _ | (apply Ext.setCell; rotate_left; (simp <;> omega)) | (apply Ext.trans; rotate_left; exact ext_plus _ _) | (apply Ext.trans; rotate_left; assumption)))))).mono ?_; rintro e w1 ⟨rfl, hb⟩; have hE1 : Ext w w1 := (by (with_reducible (repeat (first | exact Ext.refl _ | assumption | apply Ext.alloc | apply Ext.drew | exact ext_plus _ _ | (apply Ext.setCell; rotate_left; (simp <;> omega)) | (apply Ext.trans; rotate_left; exact ext_plus _ _) | (apply Ext.trans; rotate_left; assumption))))); have hsb := Blk.ext (Blk.new w (sysV c (.slice a c.loads.length cap)) 24) hb))
    obtain ⟨bm, hbm⟩ : ∃ bm, w1.heap.size = bm := ⟨_, rfl⟩
    obtain ⟨w2, hw2⟩ : ∃ w2, (w1.alloc (.map #[] 0)).alloc (.cells #[.map (some w1.heap.size)] 104) = w2 := ⟨_, rfl⟩
    have hC2 : Costs c w2 bm 0 (stores 0) := by rw [← hw2, ← hbm]; exact (Costs.made c w1).ext ((Ext.refl _).alloc _)
    have hB2 : Blk w2 (bm + 1) #[.map (some bm)] 104 := by rw [← hw2, ← hbm]; exact Blk.new' (by simp) _ _
    have hE12 : Ext w1 w2 := by rw [← hw2]; exact ((Ext.refl w1).alloc _).alloc _
    have hS2 := hsb.ext hE12
    have hE2 := hE1.trans hE12
    have hz2 : bm + 2 = w2.heap.size := by rw [← hw2, ← hbm]; simp
    rw [hw2, hbm]
    have hsl := hsb.lt
    rw [hbm] at hsl
    have HZ2 := Lib.hid hz2
    have hE1s := hE1.size
    clear hw2 hbm hsb hb hE12 hz2 HVA
    go_wp2
    go_loopw [7, 8, 9, 10, 17, 20] (fun l _ _ _ i _ wr => ∃ k : Nat, k ≤ 13 ∧ i = .int .i64 k ∧ wr.ownsRow (bm + 2) 86 2 l (k * 9) ((stores (k * 9)).flatMap storeC) ∧ Costs c wr bm (k * 9) (stores (k * 9)) ∧ Blk wr (bm + 1) #[.map (some bm)] 104 ∧ Blk wr w.heap.size (sysV c (.slice a c.loads.length cap)) 24 ∧ Ext w wr ∧ bm + 2 ≤ wr.heap.size) (fun _ _ _ _ i _ _ => 13 - (intOf i).toNat)
    case atStart => exact ⟨0, by omega, rfl, World.ownsRow_nil _ _ _ _, hC2, hB2, hS2, hE2, by have := HZ2.out; omega⟩
    case round =>
      rename World => wr
      obtain ⟨k, hk, rfl, hown, hC, hB, hS, hE, hzr⟩ := hrel
      by_cases hlt : k < 13
      · have hd13 : decide ((k : Int) < 13) = true := by simp; omega
        go_wp2
        clear hd13
        go_loopw [7, 9, 10, 20] (fun l _ _ i wy => ∃ j : Nat, j ≤ 9 ∧ i = .int .i64 j ∧ wy.ownsRow (bm + 2) 86 2 l (k * 9 + j) ((stores (k * 9 + j)).flatMap storeC) ∧ Costs c wy bm (k * 9 + j) (stores (k * 9 + j)) ∧ Blk wy (bm + 1) #[.map (some bm)] 104 ∧ Blk wy w.heap.size (sysV c (.slice a c.loads.length cap)) 24 ∧ Ext w wy ∧ bm + 2 ≤ wy.heap.size) (fun _ _ _ i _ => 9 - (intOf i).toNat)
        case atStart => exact ⟨0, by omega, rfl, hown, hC, hB, hS, hE, hzr⟩
        case round =>
          rename World => wy
          obtain ⟨j, hj, rfl, hown, hC, hB, hS, hE, hzr⟩ := hrel
          by_cases hjl : j < 9
          · have hcb := cost_bd HO.out (p := (k : Int)) (b := (j : Int)) (by omega) (by omega) (by omega) (by omega)
            have hce : C.cost c (k : Int) (j : Int) = (k : Int) * c.panel + (j : Int) * c.battery := rfl
            have hst := stores_at k j hjl
            obtain ⟨kl, hkl⟩ := store_key (wf64_of (n := (k : Int)) (by omega) (by omega)) (wf64_of (n := (j : Int)) (by omega) (by omega))
            obtain ⟨X, hX⟩ : ∃ X, (k : Int) * c.panel = X := ⟨_, rfl⟩
            obtain ⟨Y, hY⟩ : ∃ Y, (j : Int) * c.battery = Y := ⟨_, rfl⟩
            rw [hX, hY] at hcb hce
            have HCE := Lib.hid hce
            have HST := Lib.hid hst
            have HKL := Lib.hid hkl
            have HNOT := Lib.hid (stores_not k j hjl)
            have HWF : Hid ((Lit.int .i64 (X + Y)).wf = true) := wf64_of (by omega) (by omega)
            obtain ⟨D, hD, hDa⟩ := hC
            have HDA := Lib.hid hDa
            clear hce hst hkl hDa
            have s0 := hS.cell
            have s1 := hS.lt
            have c0 := hB.cell
            have c1 := hB.lt
            obtain ⟨a9, c9, rfl⟩ := own_slice hown
            have hwX : IntKind.wrap .i64 X = X := IntWalk.i64_in _ (by omega)
            have hwY : IntKind.wrap .i64 Y = Y := IntWalk.i64_in _ (by omega)
            go_upto_region 13 with (first | (at_mapUpdate; refine wpList_mapUpdate_own _ rfl _ _ _ 104 rfl 86 3 key_keyed Try.underlying104 IV bm (k * 9 + j) D rfl (hD.alloc _) (by unfold maxLen; omega) _ _ kl rfl rfl HKL.out (.lit (.int .i64 (X + Y))) [] (plainElem_int Try.underlying3 HWF.out) ?_; intro w8 hown8 hgrow8))
            have hEa : Ext wy (wy.alloc (.cells #[.int .i64 (k : Int), .int .i64 (j : Int)] 86)) := (Ext.refl _).alloc _
            have hx8 : Blk w8 wy.heap.size #[.int .i64 (k : Int), .int .i64 (j : Int)] 86 := Blk.but (Blk.new _ _ _) hgrow8 (by omega)
            have hB8 := (hB.ext hEa).but hgrow8 (by omega)
            have hS8 := (hS.ext hEa).but hgrow8 (by omega)
            have ho8 := own_move (own_ext hown hEa) fun g cur hg hg0 => hgrow8.block g (Array.getElem?_eq_some_iff.1 hg0).1 (fun e => by have := Option.some.inj e; omega)
            have hE8 : Ext w w8 := Ext.grown (hE.trans hEa) hgrow8 (fun r e => by cases e; omega)
            have hC8 : Costs c w8 bm (k * 9 + j + 1) (stores (k * 9 + j) ++ [((k : Int), (j : Int))]) := Costs.put hD.isMap HDA.out HKL.out HNOT.out (by rw [HCE.out]; exact hown8)
            have hz8 := hgrow8.size
            (try simp only [World.size_alloc] at hz8)
            clear s0 s1 c0 c1 hD hown8 hgrow8 hB hS
            have s0 := hx8.cell
            have s1 := hx8.lt
            go_wp2_with (at_builtin; refine wpList_append_own _ rfl _ _ 105 rfl (bm + 2) 86 i0 (.agg #[.int .i64 0, .int .i64 0]) 2 16 Try.underlying105 hi hz0 hz1 hz2 rfl (by decide) _ _ _ rfl (own_ext ho8 ((Ext.refl _).alloc _)) ⟨w8.heap.size, 0, none⟩ 1 1 [.int .i64 (k : Int), .int .i64 (j : Int)] rfl rfl (cell_two _ _ _ _ (by simp)) (two_ints _ _) (by unfold maxLen; omega) (by omega) (by simp; omega) ?_; intro v' w9 hown' hgrow _)
            have hEb : Ext w8 (w8.alloc (.cells #[.int .i64 (k : Int), .int .i64 (j : Int)] 86)) := (Ext.refl _).alloc _
            have hC9 := (hC8.ext hEb).grown hgrow (fun e => by have := own_base ho8 _ e; omega)
            have hB9 := Blk.grown (hB8.ext hEb) hgrow (own_base ho8) (by omega)
            have hS9 := Blk.grown (hS8.ext hEb) hgrow (own_base ho8) (by omega)
            have hE9 : Ext w w9 := Ext.grown (hE8.trans hEb) hgrow (fun r e => by have := own_base ho8 r e; omega)
            have hz9 := hgrow.size
            (try simp only [World.size_alloc] at hz9)
            go_roundw
            case rel =>
              refine ⟨j + 1, by omega, by go_num, ?_, by rw [← Nat.add_assoc, HST.out]; exact hC9, hB9, hS9, hE9, by omega⟩
              rw [← Nat.add_assoc, HST.out, List.flatMap_append]
              exact hown'
            case measure => simp [intOf]; omega
          · obtain rfl : j = 9 := by omega
            go_wp2
            go_roundw
            case rel => exact ⟨k + 1, by omega, by go_num, by rw [Nat.succ_mul]; exact hown, by rw [Nat.succ_mul]; exact hC, hB, hS, hE, hzr⟩
            case measure => simp [intOf]; omega
      · obtain rfl : k = 13 := by omega
        obtain ⟨g, cp, rfl, hgb, hgl⟩ := own_pos hown (by omega)
        have hrow : RowB storeC 2 86 wr g (stores 117) := RowB.of_own (f := storeC) storeC_len (by rw [stores_len]; exact hown)
        have hKey : ∀ w' w'', (Costs c w' bm 117 (stores 117) ∧ Blk w' (bm + 1) #[.map (some bm)] 104) → Off g w' w'' → (Costs c w'' bm 117 (stores 117) ∧ Blk w'' (bm + 1) #[.map (some bm)] 104) := fun w' w'' h ho => ⟨h.1.off ho (by omega), h.2.off ho (by omega)⟩
        have hso := sortStableSt g (bm + 1) (fun s => C.cost c s.1 s.2) rankS (fun s => s ∈ stores 117) (fun w' => Costs c w' bm 117 (stores 117) ∧ Blk w' (bm + 1) #[.map (some bm)] 104) hKey
          (fun x hx => by have := cost_le HO.out (stores_range hx); omega)
          (fun w' x y hk hx hy => cmp_any c HO.out (bm + 1) bm 117 (stores 117) w' x y hk.1 hk.2 hx hy (stores_range hx) (stores_range hy))
          (stores 117) cp 117 wr ⟨hC, hB⟩ (fun x hx => hx) (stores_rank 117) (stores_len 117).symm (by decide) hrow
        have HSO := Lib.hid hso
        have hfi := fun Z (hp : Z.Perm (stores 117)) w' (hx : Ext w w') (hs : Blk w' w.heap.size (sysV c (.slice a c.loads.length cap)) 24) hr => first_any c HO.out (.slice a c.loads.length cap) w.heap.size g cp 117 Z w' (hL.ext hx) hs hr (by rw [hp.length_eq, stores_len]) (by decide) (fun s hs => stores_range (hp.mem_iff.1 hs))
        have HFI := Lib.hid hfi
        have hgw : w.heap.size ≤ g := by omega
        have hgs : g ≠ w.heap.size := by omega
        clear hso hfi hKey
        go_upto_region 18 with (first | (go_at_call 59; refine HSO.out.mono ?_; rintro e w3 ⟨rfl, Z, hZp, hZs, hZr, hZo⟩; have hE3 := hZo.ext0 hE hgw; have hS3 := hS.off hZo (Ne.symm hgs)) | (go_at_call 61; refine (HFI.out Z hZp _ hE3 hS3 hZr).mono ?_; rintro e w4 ⟨rfl, hE34⟩))
        have hbest := best_of_sorted hZp hZs
        have hE4 := hE3.trans hE34
        have hC4 := (hC.off hZo (by omega : g ≠ bm)).ext hE34
        have hB4 := (hB.off hZo (by omega)).ext hE34
        obtain ⟨o, ho⟩ : ∃ o, Z.find? (suffS c) = o := ⟨_, rfl⟩
        rw [ho] at hbest ⊢
        have HBE := Lib.hid hbest
        clear hbest ho hC hB hS hrow hown hZp hZs hZr HSO HFI
        cases o with
        | none =>
          go_wp2
          exact bodyPost_ret (v := .tuple #[.int .i64 0, .int .i64 0, .int .i64 0, .int .i64 5]) (by simp [results, Try.results36, go_sem]) rfl ⟨none, fun _ => HBE.out, by unfold bestR; rw [HB.out]; rfl, by (with_reducible (repeat (first | exact Ext.refl _ | assumption | apply Ext.alloc | apply Ext.drew | exact ext_plus _ _ | (apply Ext.setCell; rotate_left; (simp <;> omega)) | (apply Ext.trans; rotate_left; exact ext_plus _ _) | (apply Ext.trans; rotate_left; assumption))))⟩
        | some t =>
          have hin : t ∈ stores 117 := stores_mem HBE.out.1
          have hlk := fun z (hz : Ext w4 z) => (hC4.ext hz).look hin
          obtain ⟨t1, t2⟩ := t
          dsimp only [storeO] at hlk ⊢
          obtain ⟨ct, hct⟩ : ∃ ct, C.cost c t1 t2 = ct := ⟨_, rfl⟩
          simp only [hct] at hlk
          have HLK := Lib.hid hlk
          have HCT := Lib.hid hct
          clear hlk hct hin
          go_upto_region 20 with (fail)
          obtain ⟨w5, hw5⟩ : ∃ w5, w4.alloc (.cells #[.int .i64 t1, .int .i64 t2] 86) = w5 := ⟨_, rfl⟩
          have hx5 : Blk w5 w4.heap.size #[.int .i64 t1, .int .i64 t2] 86 := by rw [← hw5]; exact Blk.new' rfl _ _
          have hE45 : Ext w4 w5 := by rw [← hw5]; exact (Ext.refl _).alloc _
          have hB5 := hB4.ext hE45
          rw [hw5]
          clear hw5
          have hl1 := fun z => HLK.out (plus w5 z) (hE45.trans (ext_plus w5 z))
          have k0 := hx5.cell
          have k1 := hx5.lt
          have k2 := hB5.cell
          have k3 := hB5.lt
          have hpc := plus_cell
          refine wp_region_ext 11 (fun _ _ d _ _ h => by cases d <;> exact h) (by kernel_rfl) (by kernel_rfl) (by kernel_rfl) (by kernel_rfl) ?_
          simp only [List.take_succ_cons, List.take_zero, List.drop_succ_cons, List.drop_zero]
          repeat (any_goals (first | go_big_quiet_step (fail) | quiet_step (fail)))
          all_goals (refine wpQuiet_nil ?_; intro w6 hE6)
          unfold wpList
          go_wp2
          exact bodyPost_ret (v := .tuple #[.int .i64 t1, .int .i64 t2, .int .i64 ct, .int .i64 0]) (by simp [results, Try.results36, go_sem]) rfl ⟨some (t1, t2), fun _ => HBE.out, by unfold bestR; rw [HB.out]; simp only [if_true]; rw [HCT.out], (hE4.trans hE45).trans hE6⟩
end Go.Proofs.Ytkjoojmlcjmlgaa
