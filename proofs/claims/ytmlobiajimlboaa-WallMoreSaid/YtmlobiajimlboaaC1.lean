/- Which shores, storms and plans are as defined, as the program asks it. -/
import Derived.Test.YtmlobiajimlboaaEnc
namespace Go.Proofs.Ytmlobiajimlboaa
set_option linter.unusedVariables false
set_option linter.unusedSimpArgs false
open Go.RowKit

theorem in_any (x lo hi : Int) (w : World) :
    Calls Try.prog 53 #[.int .i64 x, .int .i64 lo, .int .i64 hi] w fun e w' => e = .returned (.bool (W.within x lo hi)) ∧ w = w' := by
  go_enter Try.func53, Try.ntmps53
  go_wp2
  all_goals (go_ret; exact ⟨ret_bool (by rw [Bool.eq_iff_iff]; simp [W.within]; omega), rfl⟩)
theorem span_any (a b lo hi : Int) (w : World) :
    Calls Try.prog 67 #[.agg #[.int .i64 a, .int .i64 b], .int .i64 lo, .int .i64 hi] w fun e w' => e = .returned (.bool (W.spanB a b lo hi)) ∧ Ext w w' := by
  go_enter Try.func67, Try.ntmps67
  go_wp2
  all_goals (go_ret; exact ⟨ret_bool (by rw [Bool.eq_iff_iff]; simp [W.spanB]; omega), (Ext.refl _).alloc _⟩)
theorem cellbad (c : W.Cell) (w : World) :
    Calls Try.prog 69 #[.agg #[.int .i64 c.g, .int .i64 c.dl, .int .i64 c.dh, .int .i64 c.fl]] w fun e w' => e = .returned (.bool (!W.cellB c)) ∧ Ext w w' := by
  go_enter Try.func69, Try.ntmps69
  go_wp2_with (first | (go_at_call 53; refine (in_any _ _ _ _).mono ?_; rintro e w' ⟨rfl, rfl⟩) | (go_at_call 67; refine (span_any _ _ _ _ _).mono ?_; rintro e w' ⟨rfl, hb⟩; have hc := hb.cells.1))
  all_goals (go_ret; refine ⟨ret_bool (by simp [W.cellB, *]), ?_⟩)
  all_goals (with_reducible (repeat (first | exact Ext.refl _ | assumption | apply Ext.alloc | apply Ext.drew | exact ext_plus _ _ | (apply Ext.setCell; rotate_left; (simp <;> omega)) | (apply Ext.trans; rotate_left; exact ext_plus _ _) | (apply Ext.trans; rotate_left; assumption))))
theorem workbad (c : W.Work) (w : World) :
    Calls Try.prog 71 #[.agg #[.int .i64 c.rise, .int .i64 c.calm, .int .i64 c.cost]] w fun e w' => e = .returned (.bool (!W.workB c)) ∧ Ext w w' := by
  go_enter Try.func71, Try.ntmps71
  go_wp2_with (first | (go_at_call 53; refine (in_any _ _ _ _).mono ?_; rintro e w' ⟨rfl, rfl⟩))
  all_goals (go_ret; refine ⟨ret_bool (by simp [W.workB, *]), ?_⟩)
  all_goals (with_reducible (repeat (first | exact Ext.refl _ | assumption | apply Ext.alloc | apply Ext.drew | exact ext_plus _ _ | (apply Ext.setCell; rotate_left; (simp <;> omega)) | (apply Ext.trans; rotate_left; exact ext_plus _ _) | (apply Ext.trans; rotate_left; assumption))))
theorem idx_cells (xs : List W.Cell) (v : Value) (w : World) (hl : xs.length ≤ 1000000) (hv : Cells w v xs) :
    Calls Try.prog 79 #[v, .func (.func 69) #[] #[]] w fun e w' => ∃ n : Int, e = .returned (.int .i64 n) ∧ decide (0 ≤ n) = xs.any (fun c => !W.cellB c) ∧ Ext w w' := by
  obtain ⟨a, cap, rfl, hx⟩ := hv
  have hx' := Lib.hid hx
  clear hx
  go_enter Try.func79, Try.ntmps79
  go_wp2
  go_loopw [4, 5, 8] (fun _ _ i wr => ∃ k : Nat, k ≤ xs.length ∧ i = .int .i64 k ∧ (xs.take k).any (fun c => !W.cellB c) = false ∧ Ext w wr) (fun _ _ i _ => xs.length - (intOf i).toNat)
  case atStart => exact ⟨0, Nat.zero_le _, rfl, by simp, Ext.refl _⟩
  case round =>
    obtain ⟨k, hk, rfl, hany, hE⟩ := hrel
    by_cases hlt : k < xs.length
    · obtain ⟨b, off, rfl, hb, h0, h1, h2, h3⟩ := hx'.out k hlt
      have hc := hE.cells.1
      go_wp2_with fail
      refine (cellbad _ _).mono ?_
      rintro e w' ⟨rfl, hE'⟩
      by_cases hg : W.cellB xs[k] = true
      · have hg' : (!W.cellB xs[k]) = false := by simp [hg]
        rw [hg']
        go_wp2
        go_roundw
        case rel => exact ⟨k + 1, by omega, by go_num, by rw [List.take_succ_eq_append_getElem hlt, List.any_append, hany]; simp [hg], hE.trans hE'⟩
        case measure => simp [intOf]; omega
      · have hg' : (!W.cellB xs[k]) = true := by simp [hg]
        rw [hg']
        go_wp2
        go_ret
        exact ⟨_, rfl, by rw [eq_comm, List.any_eq_true.2 ⟨xs[k], List.getElem_mem hlt, hg'⟩]; simp, hE.trans hE'⟩
    · go_wp2
      go_ret
      obtain rfl : k = xs.length := by omega
      exact ⟨_, rfl, by rw [List.take_length] at hany; rw [hany]; rfl, hE⟩
theorem idx_works (xs : List W.Work) (v : Value) (w : World) (hl : xs.length ≤ 1000000) (hv : Works w v xs) :
    Calls Try.prog 80 #[v, .func (.func 71) #[] #[]] w fun e w' => ∃ n : Int, e = .returned (.int .i64 n) ∧ decide (0 ≤ n) = xs.any (fun c => !W.workB c) ∧ Ext w w' := by
  obtain ⟨a, cap, rfl, hx⟩ := hv
  have hx' := Lib.hid hx
  clear hx
  go_enter Try.func80, Try.ntmps80
  go_wp2
  go_loopw [4, 5, 8] (fun _ _ i wr => ∃ k : Nat, k ≤ xs.length ∧ i = .int .i64 k ∧ (xs.take k).any (fun c => !W.workB c) = false ∧ Ext w wr) (fun _ _ i _ => xs.length - (intOf i).toNat)
  case atStart => exact ⟨0, Nat.zero_le _, rfl, by simp, Ext.refl _⟩
  case round =>
    obtain ⟨k, hk, rfl, hany, hE⟩ := hrel
    by_cases hlt : k < xs.length
    · obtain ⟨b, off, rfl, hb, h0, h1, h2⟩ := hx'.out k hlt
      have hc := hE.cells.1
      go_wp2_with fail
      refine (workbad _ _).mono ?_
      rintro e w' ⟨rfl, hE'⟩
      by_cases hg : W.workB xs[k] = true
      · have hg' : (!W.workB xs[k]) = false := by simp [hg]
        rw [hg']
        go_wp2
        go_roundw
        case rel => exact ⟨k + 1, by omega, by go_num, by rw [List.take_succ_eq_append_getElem hlt, List.any_append, hany]; simp [hg], hE.trans hE'⟩
        case measure => simp [intOf]; omega
      · have hg' : (!W.workB xs[k]) = true := by simp [hg]
        rw [hg']
        go_wp2
        go_ret
        exact ⟨_, rfl, by rw [eq_comm, List.any_eq_true.2 ⟨xs[k], List.getElem_mem hlt, hg'⟩]; simp, hE.trans hE'⟩
    · go_wp2
      go_ret
      obtain rfl : k = xs.length := by omega
      exact ⟨_, rfl, by rw [List.take_length] at hany; rw [hany]; rfl, hE⟩
def badCells (xs : List W.Cell) : Bool := xs.any (fun c => !W.cellB c)
def badWorks (xs : List W.Work) : Bool := xs.any (fun c => !W.workB c)
theorem has_cells (xs : List W.Cell) (v : Value) (w : World) (hl : xs.length ≤ 1000000) (hv : Cells w v xs) :
    Calls Try.prog 68 #[v, .func (.func 69) #[] #[]] w fun e w' => e = .returned (.bool (badCells xs)) ∧ Ext w w' := by
  go_enter Try.func68, Try.ntmps68
  go_wp2_with fail
  refine (idx_cells xs v w hl hv).mono ?_
  rintro e w' ⟨n, rfl, hn, hE⟩
  have hn' := Lib.hid hn
  clear hn
  go_wp2
  go_ret
  exact ⟨ret_bool hn'.out, hE⟩
theorem has_works (xs : List W.Work) (v : Value) (w : World) (hl : xs.length ≤ 1000000) (hv : Works w v xs) :
    Calls Try.prog 70 #[v, .func (.func 71) #[] #[]] w fun e w' => e = .returned (.bool (badWorks xs)) ∧ Ext w w' := by
  go_enter Try.func70, Try.ntmps70
  go_wp2_with fail
  refine (idx_works xs v w hl hv).mono ?_
  rintro e w' ⟨n, rfl, hn, hE⟩
  have hn' := Lib.hid hn
  clear hn
  go_wp2
  go_ret
  exact ⟨ret_bool hn'.out, hE⟩
/-- As the program asks it. -/
def validB (s : W.Shore) (c : W.Storm) : Bool :=
  W.within s.cells.length 1 7 && decide (s.works.length ≤ 3) && W.within s.reef 0 20 && W.spanB s.ll s.lh 0 1000 && W.spanB c.wl c.wh 0 1000 && W.spanB c.fl c.fh 0 10000 && W.spanB c.tl c.th (-5000) 5000 && !badCells s.cells && !badWorks s.works
theorem validB_eq (s : W.Shore) (c : W.Storm) : validB s c = W.okB s c := by
  have h1 : s.cells.any (fun x => !W.cellB x) = !s.cells.all W.cellB := by rw [List.not_all_eq_any_not]
  have h2 : s.works.any (fun x => !W.workB x) = !s.works.all W.workB := by rw [List.not_all_eq_any_not]
  unfold validB W.okB W.shoreB W.stormB badCells badWorks
  rw [h1, h2, Bool.eq_iff_iff]
  simp only [Bool.and_eq_true, Bool.not_not]
  exact ⟨fun h => by simp only [h, and_self], fun h => by simp only [h, and_self]⟩
theorem valid_any (s : W.Shore) (c : W.Storm) (vc vw : Value) (w : World) (hC : Cells w vc s.cells) (hW : Works w vw s.works) (hn : s.cells.length ≤ 1000000) (hm : s.works.length ≤ 1000000) :
    Calls Try.prog 58 #[.agg #[vc, vw, .int .i64 s.reef, .int .i64 s.ll, .int .i64 s.lh], .agg #[.int .i64 c.wl, .int .i64 c.wh, .int .i64 c.fl, .int .i64 c.fh, .int .i64 c.tl, .int .i64 c.th]] w fun e w' =>
      e = .returned (.bool (W.okB s c)) ∧ Ext w w' := by
  rw [← validB_eq]
  have hC' := hC
  have hW' := hW
  obtain ⟨a1, c1, rfl, _⟩ := hC'
  obtain ⟨a2, c2, rfl, _⟩ := hW'
  go_enter Try.func58, Try.ntmps58
  go_wp2_with (first | (go_at_call 53; refine (in_any _ _ _ _).mono ?_; rintro e w' ⟨rfl, rfl⟩) | (go_at_call 67; refine (span_any _ _ _ _ _).mono ?_; rintro e w' ⟨rfl, hb⟩; have hc := hb.cells.1; have hz := hb.size; (try simp only [World.size_alloc, size_drew, size_drewN, size_setCell] at hz); have hs0 : w.heap.size < w'.heap.size := (by omega); have hs1 : w.heap.size + 1 < w'.heap.size := (by omega)) | (go_at_call 68; refine (has_cells s.cells _ _ hn (hC.ext (by (with_reducible (repeat (first | exact Ext.refl _ | assumption | apply Ext.alloc | apply Ext.drew | exact ext_plus _ _ | (apply Ext.setCell; rotate_left; (simp <;> omega)) | (apply Ext.trans; rotate_left; exact ext_plus _ _) | (apply Ext.trans; rotate_left; assumption))))))).mono ?_; rintro e w' ⟨rfl, hb⟩; have hc := hb.cells.1; have hz := hb.size; (try simp only [World.size_alloc, size_drew, size_drewN, size_setCell] at hz); have hs0 : w.heap.size < w'.heap.size := (by omega); have hs1 : w.heap.size + 1 < w'.heap.size := (by omega)) | (go_at_call 70; refine (has_works s.works _ _ hm (hW.ext (by (with_reducible (repeat (first | exact Ext.refl _ | assumption | apply Ext.alloc | apply Ext.drew | exact ext_plus _ _ | (apply Ext.setCell; rotate_left; (simp <;> omega)) | (apply Ext.trans; rotate_left; exact ext_plus _ _) | (apply Ext.trans; rotate_left; assumption))))))).mono ?_; rintro e w' ⟨rfl, hb⟩; have hc := hb.cells.1; have hz := hb.size; (try simp only [World.size_alloc, size_drew, size_drewN, size_setCell] at hz); have hs0 : w.heap.size < w'.heap.size := (by omega); have hs1 : w.heap.size + 1 < w'.heap.size := (by omega)))
  all_goals (go_ret; refine ⟨ret_bool (by simp [validB, *] <;> (intros; omega)), ?_⟩)
  all_goals (with_reducible (repeat (first | exact Ext.refl _ | assumption | apply Ext.alloc | apply Ext.drew | exact ext_plus _ _ | (apply Ext.setCell; rotate_left; (simp <;> omega)) | (apply Ext.trans; rotate_left; exact ext_plus _ _) | (apply Ext.trans; rotate_left; assumption))))
end Go.Proofs.Ytmlobiajimlboaa
