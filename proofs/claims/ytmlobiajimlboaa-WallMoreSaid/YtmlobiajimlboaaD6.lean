/- The public Dry. -/
import Derived.Test.YtmlobiajimlboaaD5
namespace Go.Proofs.Ytmlobiajimlboaa
set_option linter.unusedVariables false
set_option linter.unusedSimpArgs false
open Go.RowKit
/-- Is the house on this cell, if it has one, dry at this depth? -/
def dryB (x : W.Cell) (n : Int) : Bool := (x.fl != -1) && decide (n ≤ x.fl)
def dryTo (cs : List W.Cell) (ns : List Int) (k : Nat) : List Int := List.map (fun (i : Nat) => (i : Int)) ((List.range k).filter fun i => dryB (cs[i]?.getD default) (W.nth ns i))
theorem dryTo_succ (cs : List W.Cell) (ns : List Int) (k : Nat) : dryTo cs ns (k + 1) = dryTo cs ns k ++ if dryB (cs[k]?.getD default) (W.nth ns k) then [(k : Int)] else [] := by
  unfold dryTo
  rw [List.range_succ, List.filter_append, List.map_append]
  congr 1
  simp only [List.filter_cons, List.filter_nil]
  split <;> rfl
theorem dryTo_len (cs : List W.Cell) (ns : List Int) (k : Nat) : (dryTo cs ns k).length ≤ k := by
  unfold dryTo
  rw [List.length_map]
  exact Nat.le_trans (List.length_filter_le _ _) (Nat.le_of_eq List.length_range)
def dryQ (s : W.Shore) (c : W.Storm) (plan : List Int) : List Int := dryTo s.cells (W.play s plan (W.worst s c)) s.cells.length
def dryOf (s : W.Shore) (c : W.Storm) (plan : List Int) : List Int := if W.okB s c && W.planB s plan then dryQ s c plan else []
set_option maxRecDepth 100000 in
set_option maxHeartbeats 2000000 in
theorem dryQ_any (s : W.Shore) (c : W.Storm) (plan : List Int) (vc vw vp : Value) (w : World) (hC : Cells w vc s.cells) (hW : Works w vw s.works) (hP : Ints w vp plan) (hn : s.cells.length ≤ 1000000) (hm : s.works.length ≤ 1000000) (hp : plan.length ≤ 1000000) :
    Calls Try.prog 41 #[shoreA s vc vw, stormA c, vp] w fun e w' => ∃ v, e = .returned (.tuple #[v, .int .i64 (codeOf (W.okB s c && W.planB s plan))]) ∧ Ints w' v (dryOf s c plan) ∧ Ext w w' := by
  have hC' := hC
  have hW' := hW
  have hP' := hP
  obtain ⟨a1, c1, rfl, hx1⟩ := hC'
  obtain ⟨a2, c2, rfl, _⟩ := hW'
  obtain ⟨a3, c3, rfl, _⟩ := hP'
  have HX1 := Lib.hid hx1
  clear hx1
  obtain ⟨ok, hok⟩ : ∃ ok, (W.okB s c && W.planB s plan) = ok := ⟨_, rfl⟩
  have HG := Lib.hid (fun w' hx => given_any s c plan _ _ _ w' (hC.ext hx) (hW.ext hx) (hP.ext hx) hn hm hp)
  have ed : dryOf s c plan = if ok then dryQ s c plan else [] := by unfold dryOf; rw [hok]
  rw [hok] at HG ⊢
  rw [ed]
  clear ed
  cases ok with
  | false =>
    clear hok
    go_enter Try.func41, Try.ntmps41
    go_wp2_with (first | (go_at_call 52; refine (HG.out _ (by (with_reducible (repeat (first | exact Ext.refl _ | assumption | apply Ext.alloc | apply Ext.drew | exact ext_plus _ _ | (apply Ext.setCell; rotate_left; (simp <;> omega)) | (apply Ext.trans; rotate_left; exact ext_plus _ _) | (apply Ext.trans; rotate_left; assumption)))))).mono ?_; rintro e w' ⟨rfl, hb⟩; have hc := hb.cells.1; have hz := hb.size; (try simp only [World.size_alloc, size_drew, size_drewN, size_setCell] at hz); have hs0 : w.heap.size < w'.heap.size := (by omega); have hs1 : w.heap.size + 1 < w'.heap.size := (by omega)))
    refine bodyPost_ret (v := .tuple #[.slice none 0 0, .int .i64 2]) (by simp [results, Try.results41, go_sem]) rfl ⟨_, rfl, Ints.nil _, ?_⟩
    (with_reducible show Ext _ _; (with_reducible (repeat (first | exact Ext.refl _ | assumption | apply Ext.alloc | apply Ext.drew | exact ext_plus _ _ | (apply Ext.setCell; rotate_left; (simp <;> omega)) | (apply Ext.trans; rotate_left; exact ext_plus _ _) | (apply Ext.trans; rotate_left; assumption)))); done)
  | true =>
    have HSW := Lib.hid (sound_worst hok)
    clear hok
    simp only [if_true]
    have HW := Lib.hid (fun w' hx => worst_any s c _ (.slice a2 s.works.length c2) (.slice a3 plan.length c3) w' (hC.ext hx) hn)
    have HDW := Lib.hid (fun w' hx vd hd => depths_any s c plan (W.worst s c) _ _ _ vd w' HSW.out (hC.ext hx) (hW.ext hx) (hP.ext hx) hd)
    go_enter Try.func41, Try.ntmps41
    go_wp2_with (first | (go_at_call 52; refine (HG.out _ (by (with_reducible (repeat (first | exact Ext.refl _ | assumption | apply Ext.alloc | apply Ext.drew | exact ext_plus _ _ | (apply Ext.setCell; rotate_left; (simp <;> omega)) | (apply Ext.trans; rotate_left; exact ext_plus _ _) | (apply Ext.trans; rotate_left; assumption)))))).mono ?_; rintro e w' ⟨rfl, hb⟩; have hc := hb.cells.1; have hz := hb.size; (try simp only [World.size_alloc, size_drew, size_drewN, size_setCell] at hz); have hs0 : w.heap.size < w'.heap.size := (by omega); have hs1 : w.heap.size + 1 < w'.heap.size := (by omega); have hbs : Blk w' w.heap.size #[.slice a1 s.cells.length c1, .slice a2 s.works.length c2, .int .i64 s.reef, .int .i64 s.ll, .int .i64 s.lh] 27 := Blk.ext ((Blk.new' rfl _ _).alloc _) hb))
    have hE0 : Ext w w' := by (with_reducible (repeat (first | exact Ext.refl _ | assumption | apply Ext.alloc | apply Ext.drew | exact ext_plus _ _ | (apply Ext.setCell; rotate_left; (simp <;> omega)) | (apply Ext.trans; rotate_left; exact ext_plus _ _) | (apply Ext.trans; rotate_left; assumption))))
    obtain ⟨w1, hw1⟩ : ∃ w1, w'.alloc (.cells #[.slice a1 s.cells.length c1, .slice a2 s.works.length c2, .int .i64 s.reef, .int .i64 s.ll, .int .i64 s.lh, .int .i64 c.wl, .int .i64 c.wh, .int .i64 c.fl, .int .i64 c.fh, .int .i64 c.tl, .int .i64 c.th, .slice a3 plan.length c3] 91) = w1 := ⟨_, rfl⟩
    have hb8 : Blk w1 w'.heap.size #[.slice a1 s.cells.length c1, .slice a2 s.works.length c2, .int .i64 s.reef, .int .i64 s.ll, .int .i64 s.lh, .int .i64 c.wl, .int .i64 c.wh, .int .i64 c.fl, .int .i64 c.fh, .int .i64 c.tl, .int .i64 c.th, .slice a3 plan.length c3] 91 := by rw [← hw1]; exact Blk.new' rfl _ _
    have hbs1 : Blk w1 w.heap.size #[.slice a1 s.cells.length c1, .slice a2 s.works.length c2, .int .i64 s.reef, .int .i64 s.ll, .int .i64 s.lh] 27 := by rw [← hw1]; exact hbs.alloc _
    have hE1 : Ext w w1 := by rw [← hw1]; exact hE0.alloc _
    rw [hw1]
    go_region_held3 (fun y => (∀ o, y.cell? ⟨w'.heap.size, o, none⟩ = (#[.slice a1 s.cells.length c1, .slice a2 s.works.length c2, .int .i64 s.reef, .int .i64 s.ll, .int .i64 s.lh, .int .i64 c.wl, .int .i64 c.wh, .int .i64 c.fl, .int .i64 c.fh, .int .i64 c.tl, .int .i64 c.th, .slice a3 plan.length c3] : Array Value)[o]?) ∧ Ext w1 y)
      (first | exact ⟨blk_of hb8 (by (with_reducible (repeat (first | exact Ext.refl _ | assumption | apply Ext.alloc | apply Ext.drew | exact ext_plus _ _ | (apply Ext.setCell; rotate_left; (simp <;> omega)) | (apply Ext.trans; rotate_left; exact ext_plus _ _) | (apply Ext.trans; rotate_left; assumption))))), by (with_reducible (repeat (first | exact Ext.refl _ | assumption | apply Ext.alloc | apply Ext.drew | exact ext_plus _ _ | (apply Ext.setCell; rotate_left; (simp <;> omega)) | (apply Ext.trans; rotate_left; exact ext_plus _ _) | (apply Ext.trans; rotate_left; assumption))))⟩)
      (first | (go_at_call 57; refine (HW.out _ (by (with_reducible (repeat (first | exact Ext.refl _ | assumption | apply Ext.alloc | apply Ext.drew | exact ext_plus _ _ | (apply Ext.setCell; rotate_left; (simp <;> omega)) | (apply Ext.trans; rotate_left; exact ext_plus _ _) | (apply Ext.trans; rotate_left; assumption)))))).mono ?_; rintro e y2 ⟨vd2, rfl, hv2, hy2, _⟩) | (go_at_call 54; refine (HDW.out _ (by (with_reducible (repeat (first | exact Ext.refl _ | assumption | apply Ext.alloc | apply Ext.drew | exact ext_plus _ _ | (apply Ext.setCell; rotate_left; (simp <;> omega)) | (apply Ext.trans; rotate_left; exact ext_plus _ _) | (apply Ext.trans; rotate_left; assumption))))) _ hv2).mono ?_; rintro e y4 ⟨v4, rfl, hv4, hy4⟩; obtain ⟨b4, k4, rfl, hx4⟩ := hv4))
    have hE14 : Ext w1 y4 := by rename_i hh; exact hh.2
    clear HG HW HDW hb8 hw1 hc hbs hv2
    have hEy : Ext w y4 := hE1.trans hE14
    obtain ⟨Z, hZ⟩ : ∃ Z, W.play s plan (W.worst s c) = Z := ⟨_, rfl⟩
    have hlZ : Z.length = s.cells.length := by rw [← hZ]; exact W.depths_len _ _ _ _ _
    have HZ := Lib.hid hZ
    have HLZ := Lib.hid hlZ
    rw [hZ] at hx4 ⊢
    have hnZ : Z.length ≤ 1000000 := by omega
    clear hlZ hZ
    have HX4 := Lib.hid hx4
    clear hx4
    have hbs4 := hbs1.ext hE14
    obtain ⟨i0, hi, hz0, hz1, hz2⟩ := info_parts int_info
    dsimp only [Exit.then]
    go_wp2
    go_loopw [10, 28] (fun v i wr => ∃ k : Nat, k ≤ Z.length ∧ i = .int .i64 k ∧ wr.ownsRow y4.heap.size 3 1 v (dryTo s.cells Z k).length ((dryTo s.cells Z k).map (Value.int .i64)) ∧ Ext y4 wr)
      (fun _ i _ => Z.length - (intOf i).toNat)
    case atStart => exact ⟨0, Nat.zero_le _, rfl, World.ownsRow_nil _ _ _ _, Ext.refl _⟩
    case round =>
      obtain ⟨k, hk, rfl, hown, hEk⟩ := hrel
      have hcy := hEk.cells.1
      have hcx := (hEy.trans hEk).cells.1
      have hcs := (hbs4.ext hEk).cell
      have hls := (hbs4.ext hEk).lt
      have hdl := dryTo_len s.cells Z k
      have HSUC := Lib.hid (dryTo_succ s.cells Z k)
      generalize hL : dryTo s.cells Z k = L at hown hdl HSUC
      have HL := Lib.hid hL
      clear hL
      by_cases hlt : k < Z.length
      · have hltc : k < s.cells.length := by have := HLZ.out; omega
        obtain ⟨g3, o3, rfl, hg3, h0', h1', h2', h3'⟩ := HX1.out k hltc
        obtain ⟨g4, o4, rfl, hg4, h04⟩ := HX4.out k hlt
        have hsz := hEk.size
        have hsx := (hEy.trans hEk).size
        have q0 : g3 < wr.heap.size := by omega
        have q1 : g4 < wr.heap.size := by omega
        have ec : (s.cells[k]?.getD default) = s.cells[k] := by simp [hltc]
        have en : W.nth Z k = Z[k] := by simp [W.nth, hlt]
        rw [ec, en] at HSUC
        clear ec en
        obtain ⟨db, hdb⟩ : ∃ db, dryB s.cells[k] Z[k] = db := ⟨_, rfl⟩
        rw [hdb] at HSUC
        by_cases hf : s.cells[k].fl = -1
        · have : db = false := by rw [← hdb]; simp [dryB, hf]
          subst this
          have HF := Lib.hid hf
          rw [hf] at h3'
          clear hdb hf
          go_wp2
          go_roundw
          case rel => exact ⟨k + 1, by omega, by go_num, by rw [HSUC.out]; simpa using hown, hEk⟩
          case measure => simp [intOf]; omega
        · by_cases hle : Z[k] ≤ s.cells[k].fl
          · have : db = true := by rw [← hdb]; simp [dryB, hf, hle]
            subst this
            clear hdb
            go_wp2_with (first | (at_builtin; refine wpList_append_own _ rfl _ _ 30 rfl (y4.heap.size) 3 i0 (.int .i64 0) 1 8 Try.underlying30 hi hz0 hz1 hz2 rfl (by decide) _ _ _ rfl (hown.alloc _) ⟨wr.heap.size, 0, none⟩ 1 1 [.int .i64 ((k : Int))] rfl rfl (cell_one _ _ _ (by simp)) (one_int _) (by unfold maxLen; omega) (by omega) (by simp <;> omega) ?_; intro v' w1 hown' hgrow _; obtain ⟨g', cap', rfl⟩ := own_succ hown'))
            go_roundw
            case rel =>
              refine ⟨k + 1, by omega, by go_num, ?_, (hEk.alloc _).grown hgrow (own_base hown)⟩
              rw [HSUC.out]
              simpa using hown'
            case measure => simp [intOf]; omega
          · have : db = false := by rw [← hdb]; simp [dryB, hle]
            subst this
            clear hdb
            go_wp2
            go_roundw
            case rel => exact ⟨k + 1, by omega, by go_num, by rw [HSUC.out]; simpa using hown, hEk⟩
            case measure => simp [intOf]; omega
      · obtain ⟨av, cv, rfl⟩ := own_slice hown
        go_wp2
        have e : k = s.cells.length := by have := HLZ.out; omega
        refine bodyPost_ret (v := .tuple #[.slice av L.length cv, .int .i64 0]) (by simp [results, Try.results41, go_sem]) rfl ⟨_, rfl, ?_, hEy.trans hEk⟩
        have e2 : dryQ s c plan = L := by unfold dryQ; rw [HZ.out, ← HL.out, e]
        rw [e2]
        exact Ints.of_own hown
end Go.Proofs.Ytmlobiajimlboaa
