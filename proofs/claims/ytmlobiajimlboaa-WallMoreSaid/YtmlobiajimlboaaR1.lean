/- The document's definition: which shores, storms, plans are as defined. -/
import Derived.Test.YtmlobiajimlboaaD3
import Derived.Test.YtmlobiajimlboaaDraw
namespace Go.Proofs.Ytmlobiajimlboaa
set_option linter.unusedVariables false
set_option linter.unusedSimpArgs false
open Go.RowKit
theorem rin_any (x lo hi : Int) (w : World) :
    Calls Try.prog 55 #[.int .i64 x, .int .i64 lo, .int .i64 hi] w fun e w' => e = .returned (.bool (W.within x lo hi)) ∧ w = w' := by
  go_enter Try.func55, Try.ntmps55
  go_wp2
  all_goals (go_ret; exact ⟨ret_bool (by rw [Bool.eq_iff_iff]; simp [W.within]; omega), rfl⟩)
theorem rspan_any (a b lo hi : Int) (w : World) :
    Calls Try.prog 60 #[.agg #[.int .i64 a, .int .i64 b], .int .i64 lo, .int .i64 hi] w fun e w' => e = .returned (.bool (W.spanB a b lo hi)) ∧ Ext w w' := by
  go_enter Try.func60, Try.ntmps60
  go_wp2
  all_goals (go_ret; exact ⟨ret_bool (by rw [Bool.eq_iff_iff]; simp [W.spanB]; omega), (Ext.refl _).alloc _⟩)
theorem rstorm_any (c : W.Storm) (w : World) :
    Calls Try.prog 28 #[stormA c] w fun e w' => e = .returned (.bool (W.stormB c)) ∧ Ext w w' := by
  go_enter Try.func28, Try.ntmps28
  go_wp2_with (first | (go_at_call 60; refine (rspan_any _ _ _ _ _).mono ?_; rintro e w' ⟨rfl, hb⟩; have hc := hb.cells.1; have hz := hb.size; (try simp only [World.size_alloc, size_drew, size_drewN, size_setCell] at hz); have hs0 : w.heap.size < w'.heap.size := (by omega)))
  all_goals (go_ret; refine ⟨ret_bool (by simp [W.stormB, *]), ?_⟩)
  all_goals (with_reducible (repeat (first | exact Ext.refl _ | assumption | apply Ext.alloc | apply Ext.drew | exact ext_plus _ _ | (apply Ext.setCell; rotate_left; (simp <;> omega)) | (apply Ext.trans; rotate_left; exact ext_plus _ _) | (apply Ext.trans; rotate_left; assumption))))
theorem rmoney_any (n : Int) (w : World) :
    Calls Try.prog 31 #[.int .i64 n] w fun e w' => e = .returned (.bool (W.within n 0 7000000)) ∧ w = w' := by
  go_enter Try.func31, Try.ntmps31
  go_wp2_with (first | (go_at_call 55; refine (rin_any _ _ _ _).mono ?_; rintro e w' ⟨rfl, rfl⟩))
  go_ret
  exact ⟨rfl, rfl⟩
theorem rcell_any (s : W.Shore) (vc vw : Value) (n : Int) (w : World) (hC : Cells w vc s.cells) (hn : s.cells.length ≤ 1000000) :
    Calls Try.prog 34 #[shoreA s vc vw, .int .i64 n] w fun e w' => e = .returned (.bool (W.within n 0 (s.cells.length - 1))) ∧ Ext w w' := by
  obtain ⟨a1, c1, rfl, _⟩ := hC
  go_enter Try.func34, Try.ntmps34
  go_wp2_with (first | (go_at_call 55; refine (rin_any _ _ _ _).mono ?_; rintro e w' ⟨rfl, rfl⟩))
  go_ret
  exact ⟨rfl, by (with_reducible (repeat (first | exact Ext.refl _ | assumption | apply Ext.alloc | apply Ext.drew | exact ext_plus _ _ | (apply Ext.setCell; rotate_left; (simp <;> omega)) | (apply Ext.trans; rotate_left; exact ext_plus _ _) | (apply Ext.trans; rotate_left; assumption))))⟩
set_option maxRecDepth 100000 in
set_option maxHeartbeats 2000000 in
theorem rshore_any (s : W.Shore) (vc vw : Value) (w : World) (hC : Cells w vc s.cells) (hW : Works w vw s.works) (hn : s.cells.length ≤ 1000000) (hm : s.works.length ≤ 1000000) :
    Calls Try.prog 25 #[shoreA s vc vw] w fun e w' => e = .returned (.bool (W.shoreB s)) ∧ Ext w w' := by
  obtain ⟨a1, c1, rfl, hx1⟩ := hC
  obtain ⟨a2, c2, rfl, hx2⟩ := hW
  have HX1 := Lib.hid hx1
  have HX2 := Lib.hid hx2
  clear hx1 hx2
  go_enter Try.func25, Try.ntmps25
  go_wp2
  go_loopw [3] (fun i wr => ∃ k : Nat, k ≤ s.cells.length ∧ i = .int .i64 k ∧ (∀ (j : Nat) (h : j < s.cells.length), j < k → W.cellB s.cells[j] = true) ∧ Blk wr w.heap.size #[.slice a1 s.cells.length c1, .slice a2 s.works.length c2, .int .i64 s.reef, .int .i64 s.ll, .int .i64 s.lh] 27 ∧ Ext w wr)
    (fun i _ => s.cells.length - (intOf i).toNat)
  case atStart => exact ⟨0, Nat.zero_le _, rfl, (fun j _ h => by omega), Blk.new' rfl _ _, by (with_reducible (repeat (first | exact Ext.refl _ | assumption | apply Ext.alloc | apply Ext.drew | exact ext_plus _ _ | (apply Ext.setCell; rotate_left; (simp <;> omega)) | (apply Ext.trans; rotate_left; exact ext_plus _ _) | (apply Ext.trans; rotate_left; assumption))))⟩
  case round =>
    obtain ⟨k, hk, rfl, hall, hB, hE⟩ := hrel
    have HALL := Lib.hid hall
    clear hall
    have hb0 := hB.cell
    have hb1 := hB.lt
    by_cases hlt : k < s.cells.length
    · obtain ⟨g, o, rfl, hg, h0, h1, h2, h3⟩ := HX1.out k hlt
      have hc := hE.cells.1
      have hsz := hE.size
      have hgw : g < wr.heap.size := by omega
      by_cases hcell : W.cellB s.cells[k] = true
      · have hc3 := hcell
        simp only [W.cellB, Bool.and_eq_true] at hc3
        obtain ⟨⟨e1, e2⟩, e3⟩ := hc3
        have HCE := Lib.hid hcell
        clear hcell
        go_wp2_with (first | (go_at_call 55; refine (rin_any _ _ _ _).mono ?_; rintro e w' ⟨rfl, rfl⟩) | (go_at_call 60; refine (rspan_any _ _ _ _ _).mono ?_; rintro e w' ⟨rfl, hb⟩; have hcq := hb.cells.1; have hcz := hb.size; (try simp only [World.size_alloc] at hcz); have hcy : wr.heap.size < w'.heap.size := (by omega)))
        go_roundw
        case rel => exact ⟨k + 1, by omega, by go_num, (fun j h hj => by
          by_cases hjk : j = k
          · subst hjk; exact HCE.out
          · exact HALL.out j h (by omega)), hB.ext (by (with_reducible (repeat (first | exact Ext.refl _ | assumption | apply Ext.alloc | apply Ext.drew | exact ext_plus _ _ | (apply Ext.setCell; rotate_left; (simp <;> omega)) | (apply Ext.trans; rotate_left; exact ext_plus _ _) | (apply Ext.trans; rotate_left; assumption))))), hE.trans (by (with_reducible (repeat (first | exact Ext.refl _ | assumption | apply Ext.alloc | apply Ext.drew | exact ext_plus _ _ | (apply Ext.setCell; rotate_left; (simp <;> omega)) | (apply Ext.trans; rotate_left; exact ext_plus _ _) | (apply Ext.trans; rotate_left; assumption)))))⟩
        case measure => simp [intOf]; omega
      · have hbad : W.within s.cells[k].g (-5000) 5000 = false ∨ (W.within s.cells[k].g (-5000) 5000 = true ∧ W.spanB s.cells[k].dl s.cells[k].dh 0 5000 = false) ∨ (W.within s.cells[k].g (-5000) 5000 = true ∧ W.spanB s.cells[k].dl s.cells[k].dh 0 5000 = true ∧ W.within s.cells[k].fl (-1) 5000 = false) := by
          unfold W.cellB at hcell
          cases h1 : W.within s.cells[k].g (-5000) 5000 <;> cases h2 : W.spanB s.cells[k].dl s.cells[k].dh 0 5000 <;> cases h3 : W.within s.cells[k].fl (-1) 5000 <;> simp [h1, h2, h3] at hcell ⊢
        have hsb : W.shoreB s = false := by
          unfold W.shoreB
          have : s.cells.all W.cellB = false := by rw [List.all_eq_false]; exact ⟨_, List.getElem_mem hlt, hcell⟩
          simp [this]
        have HSB := Lib.hid hsb
        clear hcell hsb
        rcases hbad with e1 | ⟨e1, e2⟩ | ⟨e1, e2, e3⟩
        all_goals
          go_wp2_with (first | (go_at_call 55; refine (rin_any _ _ _ _).mono ?_; rintro e w' ⟨rfl, rfl⟩) | (go_at_call 60; refine (rspan_any _ _ _ _ _).mono ?_; rintro e w' ⟨rfl, hb⟩; have hcq := hb.cells.1; have hcz := hb.size; (try simp only [World.size_alloc] at hcz); have hcy : wr.heap.size < w'.heap.size := (by omega)))
          go_ret
          exact ⟨ret_bool (Eq.symm HSB.out), by (with_reducible (repeat (first | exact Ext.refl _ | assumption | apply Ext.alloc | apply Ext.drew | exact ext_plus _ _ | (apply Ext.setCell; rotate_left; (simp <;> omega)) | (apply Ext.trans; rotate_left; exact ext_plus _ _) | (apply Ext.trans; rotate_left; assumption))))⟩
    · have HAC : Hid (s.cells.all W.cellB = true) := by
        show _ = _
        rw [List.all_eq_true]
        intro x hx
        obtain ⟨j, hj, rfl⟩ := List.getElem_of_mem hx
        exact HALL.out j hj (by omega)
      clear HALL HX1
      go_wp2
      go_loopw [5] (fun i wr' => ∃ k : Nat, k ≤ s.works.length ∧ i = .int .i64 k ∧ (∀ (j : Nat) (h : j < s.works.length), j < k → W.workB s.works[j] = true) ∧ Blk wr' w.heap.size #[.slice a1 s.cells.length c1, .slice a2 s.works.length c2, .int .i64 s.reef, .int .i64 s.ll, .int .i64 s.lh] 27 ∧ Ext w wr')
        (fun i _ => s.works.length - (intOf i).toNat)
      case atStart => exact ⟨0, Nat.zero_le _, rfl, (fun j _ h => by omega), hB, hE⟩
      case round =>
        obtain ⟨k', hk', rfl, hall, hB', hE'⟩ := hrel
        have HALL := Lib.hid hall
        clear hall hb0 hb1
        have hb0 := hB'.cell
        have hb1 := hB'.lt
        by_cases hlt' : k' < s.works.length
        · obtain ⟨g, o, rfl, hg, h0, h1, h2⟩ := HX2.out k' hlt'
          have hc := hE'.cells.1
          have hsz := hE'.size
          have hgw : g < wr.heap.size := by omega
          by_cases hwork : W.workB s.works[k'] = true
          · have hc3 := hwork
            simp only [W.workB, Bool.and_eq_true] at hc3
            obtain ⟨⟨e1, e2⟩, e3⟩ := hc3
            have HCE := Lib.hid hwork
            clear hwork
            go_wp2_with (first | (go_at_call 55; refine (rin_any _ _ _ _).mono ?_; rintro e w' ⟨rfl, rfl⟩))
            go_roundw
            case rel => exact ⟨k' + 1, by omega, by go_num, (fun j h hj => by
              by_cases hjk : j = k'
              · subst hjk; exact HCE.out
              · exact HALL.out j h (by omega)), hB'.ext (by (with_reducible (repeat (first | exact Ext.refl _ | assumption | apply Ext.alloc | apply Ext.drew | exact ext_plus _ _ | (apply Ext.setCell; rotate_left; (simp <;> omega)) | (apply Ext.trans; rotate_left; exact ext_plus _ _) | (apply Ext.trans; rotate_left; assumption))))), hE'.trans (by (with_reducible (repeat (first | exact Ext.refl _ | assumption | apply Ext.alloc | apply Ext.drew | exact ext_plus _ _ | (apply Ext.setCell; rotate_left; (simp <;> omega)) | (apply Ext.trans; rotate_left; exact ext_plus _ _) | (apply Ext.trans; rotate_left; assumption)))))⟩
            case measure => simp [intOf]; omega
          · have hbad : W.within s.works[k'].rise 0 5000 = false ∨ (W.within s.works[k'].rise 0 5000 = true ∧ W.within s.works[k'].calm 0 5000 = false) ∨ (W.within s.works[k'].rise 0 5000 = true ∧ W.within s.works[k'].calm 0 5000 = true ∧ W.within s.works[k'].cost 0 1000000 = false) := by
              unfold W.workB at hwork
              cases h1 : W.within s.works[k'].rise 0 5000 <;> cases h2 : W.within s.works[k'].calm 0 5000 <;> cases h3 : W.within s.works[k'].cost 0 1000000 <;> simp [h1, h2, h3] at hwork ⊢
            have hsb : W.shoreB s = false := by
              unfold W.shoreB
              have : s.works.all W.workB = false := by rw [List.all_eq_false]; exact ⟨_, List.getElem_mem hlt', hwork⟩
              simp [this]
            have HSB := Lib.hid hsb
            clear hwork hsb
            rcases hbad with e1 | ⟨e1, e2⟩ | ⟨e1, e2, e3⟩
            all_goals
              go_wp2_with (first | (go_at_call 55; refine (rin_any _ _ _ _).mono ?_; rintro e w' ⟨rfl, rfl⟩))
              go_ret
              exact ⟨ret_bool (Eq.symm HSB.out), by (with_reducible (repeat (first | exact Ext.refl _ | assumption | apply Ext.alloc | apply Ext.drew | exact ext_plus _ _ | (apply Ext.setCell; rotate_left; (simp <;> omega)) | (apply Ext.trans; rotate_left; exact ext_plus _ _) | (apply Ext.trans; rotate_left; assumption))))⟩
        · have HAW : Hid (s.works.all W.workB = true) := by
            show _ = _
            rw [List.all_eq_true]
            intro x hx
            obtain ⟨j, hj, rfl⟩ := List.getElem_of_mem hx
            exact HALL.out j hj (by omega)
          clear HALL HX2
          go_wp2_with (first | (go_at_call 55; refine (rin_any _ _ _ _).mono ?_; rintro e w' ⟨rfl, rfl⟩) | (go_at_call 60; refine (rspan_any _ _ _ _ _).mono ?_; rintro e w' ⟨rfl, hb⟩))
          all_goals
            go_ret
            refine ⟨ret_bool ?_, by (with_reducible (repeat (first | exact Ext.refl _ | assumption | apply Ext.alloc | apply Ext.drew | exact ext_plus _ _ | (apply Ext.setCell; rotate_left; (simp <;> omega)) | (apply Ext.trans; rotate_left; exact ext_plus _ _) | (apply Ext.trans; rotate_left; assumption))))⟩
            have h1 := HAC.out
            have h2 := HAW.out
            clear HAC HAW
            unfold W.shoreB
            rw [h1, h2]
            first | (simp [*]; done) | (simp [*]; intros; omega)
end Go.Proofs.Ytmlobiajimlboaa
