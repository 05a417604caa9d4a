/- recovers catches what must gives up with; Short. -/
import Derived.Test.YthffoglpekpmdaaG6
namespace Go.Proofs.Ythffoglpekpmdaa
set_option linter.unusedVariables false
set_option linter.unusedSimpArgs false
open Go.RowKit
set_option maxRecDepth 100000 in
theorem catch_stop (b1 b2 : Nat) (p q : Value) (x : Bool) (i d : Int) (older : List PanicEntry) (w : World) (hne : b1 ≠ b2) (h1 : Blk w b1 #[p, q] 89) (h2 : Blk w b2 #[.bool x] 4) :
    CallsD Try.prog 80 #[.pointer (some ⟨b1, 0, none⟩), .pointer (some ⟨b2, 0, none⟩)] (.panicking ({ v := shortV i d, recovered := false } :: older)) w fun e u' w' =>
      e = .returned (.tuple #[]) ∧ u' = .panicking ({ v := shortV i d, recovered := true } :: older) ∧ Blk w' b1 #[.int .i64 i, .int .i64 d] 89 ∧ Blk w' b2 #[.bool false] 4 ∧ Off b1 b2 w w' := by
  have hta : ∀ w, (Instr.typeAssert (shortV i d) 20 89 true).run Try.prog w = .ok (.tuple #[.agg #[.int .i64 i, .int .i64 d], .bool true]) w := fun _ => by kernel_rfl
  have c1 := h1.cell
  have c2 := h1.free
  have c3 := h1.lt
  have d1 := h2.cell
  have d2 := h2.free
  have d3 := h2.lt
  refine callsD_of_wpS Try.func80 rfl fun c₀ cs hu => ?_
  simp only [Try.ntmps80, List.size_toArray, List.length_cons, List.length_nil, Nat.reduceAdd, Nat.reduceSub, Array.replicate_succ, Array.replicate_zero, List.push_toArray, List.append_toArray, List.nil_append, List.cons_append]
  apply wpS_seq
  apply wpS_region
  simp [wpOpsS, go_sem, recoverD, hu, Exit.thenS]
  refine wpS_of_wp ?_
  go_wp2
  have hB1 := (((h1.set 0 (.int .i64 i)).set 1 (.int .i64 d)).other (a := ⟨b2, 0, none⟩) (fun e => hne e.symm) (.bool false)).alloc (.cells #[.int .i64 i, .int .i64 d] 89)
  have hB2 := (((h2.other (a := ⟨b1, 0, none⟩) hne (.int .i64 i)).other (a := ⟨b1, 1, none⟩) hne (.int .i64 d)).set 0 (.bool false)).alloc (.cells #[.int .i64 i, .int .i64 d] 89)
  have hO := ((((Off.refl b1 b2 w).set (a := ⟨b1, 0, none⟩) (.inl rfl) (.int .i64 i)).set (a := ⟨b1, 1, none⟩) (.inl rfl) (.int .i64 d)).set (a := ⟨b2, 0, none⟩) (.inr (.inl rfl)) (.bool false)).alloc (.cells #[.int .i64 i, .int .i64 d] 89)
  obtain ⟨W, hW⟩ : ∃ W, (((w.setCell ⟨b1, 0, none⟩ (.int .i64 i)).setCell ⟨b1, 1, none⟩ (.int .i64 d)).setCell ⟨b2, 0, none⟩ (.bool false)).alloc (.cells #[.int .i64 i, .int .i64 d] 89) = W := ⟨_, rfl⟩
  rw [hW] at hB1 hB2 hO ⊢
  clear hW c1 c2 c3 d1 d2 d3 hta h1 h2
  cases c₀
  simp [bodyPostS, results, Try.results80]
  exact ⟨hB1, hB2, hO⟩
set_option maxRecDepth 100000 in
theorem catch_idle (p q : Addr) (w : World) :
    CallsD Try.prog 80 #[.pointer (some p), .pointer (some q)] .returning w fun e u' w' => e = .returned (.tuple #[]) ∧ u' = .returning ∧ w = w' := by
  refine callsD_of_wpS Try.func80 rfl fun c₀ cs hu => ?_
  simp only [Try.ntmps80, List.size_toArray, List.length_cons, List.length_nil, Nat.reduceAdd, Nat.reduceSub, Array.replicate_succ, Array.replicate_zero, List.push_toArray, List.append_toArray, List.nil_append, List.cons_append]
  apply wpS_seq
  apply wpS_region
  simp [wpOpsS, go_sem, recoverD, hu, Exit.thenS]
  refine wpS_of_wp ?_
  go_wp2
  cases c₀
  simp_all [bodyPostS, results, Try.results80]
/-- What recovers tells: the place and how many fish are too few. -/
def shortP : Option (Nat × Int) → Int × Int
  | none => (0, 0)
  | some x => (x.1, x.2)
set_option maxRecDepth 100000 in
set_option maxHeartbeats 8000000 in
theorem recovers_any (r : R.Reef) (plan : List Int) (vp vl : Value) (w : World) (hP : Places w vp r.places) (hPl : Ints w vl plan) (O : R.OkR r) (OL : R.OkL r plan) :
    Calls Try.prog 57 #[.agg (planV r vp vl)] w fun e w' => e = .returned (.tuple #[.agg #[.int .i64 (shortP (R.short r plan)).1, .int .i64 (shortP (R.short r plan)).2], .bool (R.short r plan).isNone]) ∧ Ext w w' := by
  have hmf : ∀ (fn : Fn) (first cap : Array Value) (w : World), (Instr.makeFunc fn first cap).run Try.prog w = .ok (.func fn first cap) w := fun _ _ _ _ => rfl
  have hI := fun w' hE => must_any r plan vp vl w' (hP.ext hE) (hPl.ext hE) O OL
  obtain ⟨S, hS⟩ : ∃ S, R.short r plan = S := ⟨_, rfl⟩
  rw [hS] at hI ⊢
  have hP' := hP
  have hL' := hPl
  obtain ⟨a1, c1, rfl, _⟩ := hP'
  obtain ⟨a2, c2, rfl, _⟩ := hL'
  have HI := Lib.hid hI
  clear hI hS
  cases S with
  | some x =>
    obtain ⟨i, d⟩ := x
    go_enter_defers Try.func57, Try.ntmps57
    go_wp2_with fail
    refine (HI.out _ (by (with_reducible (repeat (first | exact Ext.refl _ | assumption | apply Ext.alloc | apply Ext.drew | exact ext_plus _ _ | (apply Ext.setCell; rotate_left; (simp <;> omega)) | (apply Ext.trans; rotate_left; exact ext_plus _ _) | (apply Ext.trans; rotate_left; assumption)))))).mono ?_
    rintro e w' ⟨rfl, hb⟩
    dsimp only [mustE]
    have hB1 : Blk w' (w.heap.size + 1) #[.int .i64 0, .int .i64 0] 89 := Blk.ext ((Blk.new' (by simp) _ _).alloc _) hb
    have hB2 : Blk w' (w.heap.size + 1 + 1) #[.bool false] 4 := Blk.ext (Blk.new' (by simp) _ _) hb
    refine leaves_cons (f := 80) (args := #[.pointer (some ⟨w.heap.size + 1, 0, none⟩), .pointer (some ⟨w.heap.size + 1 + 1, 0, none⟩)]) (by simp) (by simp [go_sem]) ?_
    refine (catch_stop (w.heap.size + 1) (w.heap.size + 1 + 1) _ _ false i d [] _ (by omega) hB1 hB2).mono ?_
    rintro e u' w'' ⟨rfl, rfl, k1, k2, hO⟩
    have q1 := k1.cell 0
    have q2 := k1.cell 1
    have q3 := k2.cell 0
    simp at q1 q2 q3
    simp [Leaves, settle, results, Try.results57, go_sem, q1, q2, q3, shortP]
    exact hO.ext0 (Ext.trans (by (with_reducible (repeat (first | exact Ext.refl _ | assumption | apply Ext.alloc | apply Ext.drew | exact ext_plus _ _ | (apply Ext.setCell; rotate_left; (simp <;> omega)) | (apply Ext.trans; rotate_left; exact ext_plus _ _) | (apply Ext.trans; rotate_left; assumption))))) hb) (by omega) (by omega)
  | none =>
    go_enter_defers Try.func57, Try.ntmps57
    go_wp2_with fail
    refine (HI.out _ (by (with_reducible (repeat (first | exact Ext.refl _ | assumption | apply Ext.alloc | apply Ext.drew | exact ext_plus _ _ | (apply Ext.setCell; rotate_left; (simp <;> omega)) | (apply Ext.trans; rotate_left; exact ext_plus _ _) | (apply Ext.trans; rotate_left; assumption)))))).mono ?_
    rintro e w' ⟨rfl, hb⟩
    dsimp only [mustE]
    have hB1 : Blk w' (w.heap.size + 1) #[.int .i64 0, .int .i64 0] 89 := Blk.ext ((Blk.new' (by simp) _ _).alloc _) hb
    have hB2 : Blk w' (w.heap.size + 1 + 1) #[.bool false] 4 := Blk.ext (Blk.new' (by simp) _ _) hb
    have c1 := hB1.cell
    have c2 := hB1.free
    have c3 := hB1.lt
    have d1 := hB2.cell
    have d2 := hB2.free
    have d3 := hB2.lt
    go_wp2
    refine leaves_cons (f := 80) (args := #[.pointer (some ⟨w.heap.size + 1, 0, none⟩), .pointer (some ⟨w.heap.size + 1 + 1, 0, none⟩)]) (by simp) (by simp [go_sem]) ?_
    refine (catch_idle ⟨w.heap.size + 1, 0, none⟩ ⟨w.heap.size + 1 + 1, 0, none⟩ _).mono ?_
    rintro e u' w'' ⟨rfl, rfl, rfl⟩
    have k1 := ((hB1.set 0 (.int .i64 0)).set 1 (.int .i64 0)).other (a := ⟨w.heap.size + 1 + 1, 0, none⟩) (by simp) (.bool true)
    have k2 := ((hB2.other (a := ⟨w.heap.size + 1, 0, none⟩) (by simp) (.int .i64 0)).other (a := ⟨w.heap.size + 1, 1, none⟩) (by simp) (.int .i64 0)).set 0 (.bool true)
    have hE9 := (((Ext.trans (by (with_reducible (repeat (first | exact Ext.refl _ | assumption | apply Ext.alloc | apply Ext.drew | exact ext_plus _ _ | (apply Ext.setCell; rotate_left; (simp <;> omega)) | (apply Ext.trans; rotate_left; exact ext_plus _ _) | (apply Ext.trans; rotate_left; assumption))))) hb : Ext w w').setCell (p := ⟨w.heap.size + 1, 0, none⟩) (by simp) (.int .i64 0)).setCell (p := ⟨w.heap.size + 1, 1, none⟩) (by simp) (.int .i64 0)).setCell (p := ⟨w.heap.size + 1 + 1, 0, none⟩) (by simp <;> omega) (.bool true)
    obtain ⟨W, hW⟩ : ∃ W, ((w'.setCell ⟨w.heap.size + 1, 0, none⟩ (.int .i64 0)).setCell ⟨w.heap.size + 1, 1, none⟩ (.int .i64 0)).setCell ⟨w.heap.size + 1 + 1, 0, none⟩ (.bool true) = W := ⟨_, rfl⟩
    rw [hW] at k1 k2 hE9 ⊢
    have q1 := k1.cell 0
    have q2 := k1.cell 1
    have q3 := k2.cell 0
    simp at q1 q2 q3
    clear c1 c2 d1 d2 hW
    simp [Leaves, settle, results, Try.results57, go_sem, q1, q2, q3, shortP]
    exact hE9
def shortCode (r : R.Reef) (plan : List Int) : Int := if rightB r plan then (if (R.short r plan).isNone then 5 else 0) else 2
def shortOf (r : R.Reef) (plan : List Int) : Int × Int := if rightB r plan then shortP (R.short r plan) else (0, 0)
set_option maxRecDepth 100000 in
set_option maxHeartbeats 8000000 in
theorem shortQ_any (r : R.Reef) (plan : List Int) (vp vl : Value) (w : World) (hP : Places w vp r.places) (hL : Ints w vl plan) (hn : r.places.length ≤ 1000000) (hm : plan.length ≤ 1000000) :
    Calls Try.prog 25 #[.agg (reefV r vp), vl] w fun x w' => x = .returned (.tuple #[.int .i64 (shortOf r plan).1, .int .i64 (shortOf r plan).2, .int .i64 (shortCode r plan)]) ∧ Ext w w' := by
  have hP' := hP
  have hL' := hL
  obtain ⟨a1, c1, rfl, _⟩ := hP'
  obtain ⟨a2, c2, rfl, _⟩ := hL'
  have hri := fun w' (hx : Ext w w') => right_any r plan _ _ w' (hP.ext hx) (hL.ext hx) hn hm
  obtain ⟨B, hB⟩ : ∃ B, rightB r plan = B := ⟨_, rfl⟩
  unfold shortOf shortCode
  simp only [hB] at hri
  rw [hB]
  have HRI := Lib.hid hri
  clear hri
  have hbx := fun (w' : World) (hb : Ext ((w.alloc (.cells (reefV r (.slice a1 r.places.length c1)) 24)).alloc (.cells (planV r (.slice a1 r.places.length c1) (.slice a2 plan.length c2)) 82)) w') => Blk.ext (Blk.new' (w := w.alloc (.cells (reefV r (.slice a1 r.places.length c1)) 24)) (b := w.heap.size + 1) (by simp) (planV r (.slice a1 r.places.length c1) (.slice a2 plan.length c2)) 82) hb
  have HBX := Lib.hid hbx
  clear hbx
  cases B with
  | false =>
    clear hB
    go_enter Try.func25, Try.ntmps25
    go_wp2_with (first | (go_at_call 50; refine (HRI.out _ (by (with_reducible (repeat (first | exact Ext.refl _ | assumption | apply Ext.alloc | apply Ext.drew | exact ext_plus _ _ | (apply Ext.setCell; rotate_left; (simp <;> omega)) | (apply Ext.trans; rotate_left; exact ext_plus _ _) | (apply Ext.trans; rotate_left; assumption)))))).mono ?_; rintro e w2 ⟨rfl, hb⟩))
    exact bodyPost_ret (v := .tuple #[.int .i64 0, .int .i64 0, .int .i64 2]) (by simp [results, Try.results25, go_sem]) rfl ⟨rfl, by (with_reducible (repeat (first | exact Ext.refl _ | assumption | apply Ext.alloc | apply Ext.drew | exact ext_plus _ _ | (apply Ext.setCell; rotate_left; (simp <;> omega)) | (apply Ext.trans; rotate_left; exact ext_plus _ _) | (apply Ext.trans; rotate_left; assumption))))⟩
  | true =>
    have hR := hB
    unfold rightB at hR
    rw [Bool.and_eq_true] at hR
    have hst := fun w' (hx : Ext w w') => recovers_any r plan _ _ w' (hP.ext hx) (hL.ext hx) (R.okR_of hR.1) (R.okL_iff.1 hR.2)
    obtain ⟨S, hS⟩ : ∃ S, R.short r plan = S := ⟨_, rfl⟩
    simp only [hS] at hst
    rw [hS]
    have HST := Lib.hid hst
    clear hR hst hB hS
    have hpc := plus_cell
    cases S with
    | none =>
      go_enter Try.func25, Try.ntmps25
      go_wp2_with (first | (go_at_call 50; refine (HRI.out _ (by (with_reducible (repeat (first | exact Ext.refl _ | assumption | apply Ext.alloc | apply Ext.drew | exact ext_plus _ _ | (apply Ext.setCell; rotate_left; (simp <;> omega)) | (apply Ext.trans; rotate_left; exact ext_plus _ _) | (apply Ext.trans; rotate_left; assumption)))))).mono ?_; rintro e w2 ⟨rfl, hb⟩; have d0 := (HBX.out _ hb).cell; have d1 := (HBX.out _ hb).lt) | (go_at_call 57; refine (HST.out _ (by (with_reducible (repeat (first | exact Ext.refl _ | assumption | apply Ext.alloc | apply Ext.drew | exact ext_plus _ _ | (apply Ext.setCell; rotate_left; (simp <;> omega)) | (apply Ext.trans; rotate_left; exact ext_plus _ _) | (apply Ext.trans; rotate_left; assumption)))))).mono ?_; rintro e w3 ⟨rfl, hb3⟩))
      exact bodyPost_ret (v := .tuple #[.int .i64 0, .int .i64 0, .int .i64 5]) (by simp [results, Try.results25, go_sem]) rfl ⟨rfl, by (with_reducible (repeat (first | exact Ext.refl _ | assumption | apply Ext.alloc | apply Ext.drew | exact ext_plus _ _ | (apply Ext.setCell; rotate_left; (simp <;> omega)) | (apply Ext.trans; rotate_left; exact ext_plus _ _) | (apply Ext.trans; rotate_left; assumption))))⟩
    | some x =>
      obtain ⟨i, d⟩ := x
      go_enter Try.func25, Try.ntmps25
      go_upto_region 7 with (first | (go_at_call 50; refine (HRI.out _ (by (with_reducible (repeat (first | exact Ext.refl _ | assumption | apply Ext.alloc | apply Ext.drew | exact ext_plus _ _ | (apply Ext.setCell; rotate_left; (simp <;> omega)) | (apply Ext.trans; rotate_left; exact ext_plus _ _) | (apply Ext.trans; rotate_left; assumption)))))).mono ?_; rintro e w2 ⟨rfl, hb⟩; have d0 := (HBX.out _ hb).cell; have d1 := (HBX.out _ hb).lt) | (go_at_call 57; refine (HST.out _ (by (with_reducible (repeat (first | exact Ext.refl _ | assumption | apply Ext.alloc | apply Ext.drew | exact ext_plus _ _ | (apply Ext.setCell; rotate_left; (simp <;> omega)) | (apply Ext.trans; rotate_left; exact ext_plus _ _) | (apply Ext.trans; rotate_left; assumption)))))).mono ?_; rintro e w3 ⟨rfl, hb3⟩))
      refine wp_region_ext 7 (fun _ _ d _ _ h => by cases d <;> exact h) (by kernel_rfl) (by kernel_rfl) (by kernel_rfl) (by kernel_rfl) ?_
      simp only [List.take_succ_cons, List.take_zero, List.drop_succ_cons, List.drop_zero]
      repeat (any_goals (first | go_big_quiet_step (fail) | quiet_step (fail)))
      all_goals (refine wpQuiet_nil ?_; intro w4 hE4)
      unfold wpList
      go_wp2
      have hE3 : Ext w w3 := by (with_reducible (repeat (first | exact Ext.refl _ | assumption | apply Ext.alloc | apply Ext.drew | exact ext_plus _ _ | (apply Ext.setCell; rotate_left; (simp <;> omega)) | (apply Ext.trans; rotate_left; exact ext_plus _ _) | (apply Ext.trans; rotate_left; assumption))))
      exact bodyPost_ret (v := .tuple #[.int .i64 i, .int .i64 d, .int .i64 0]) (by simp [results, Try.results25, go_sem, shortP]) rfl ⟨rfl, (hE3.alloc _).trans hE4⟩
end Go.Proofs.Ythffoglpekpmdaa
