/- The level in a cell: into gives up by a panic, goes recovers. -/
import Derived.Test.YtmlobiajimlboaaC2
import Derived.Defers
import Derived.Recover
import Derived.Test.YtmlobiajimlboaaBlk
namespace Go.Proofs.Ytmlobiajimlboaa
set_option linter.unusedVariables false
set_option linter.unusedSimpArgs false
open Go.RowKit
/-- What into gives up with. -/
abbrev stopV (i : Int) : Value := .iface 130 (.agg #[.int .i64 i])
def intoE (stop : Bool) (k l : Int) : Ending := match stop with
  | true => .panicked [{ v := stopV k, recovered := false }]
  | false => .returned (.int .i64 l)
theorem into_any (s : W.Shore) (c : W.Storm) (vc vw vp : Value) (w : World) (hC : Cells w vc s.cells) (hW : Works w vw s.works) (hn : s.cells.length ≤ 1000000) (hm : s.works.length ≤ 1000000)
    (k : Nat) (hk : k < s.cells.length) (p l d : Int) (hp : -1 ≤ p ∧ p < s.works.length) (hl : -1000000000 ≤ l ∧ l ≤ 1000000000) (hd : 0 ≤ d ∧ d ≤ 1000000000)
    (hg : -5000 ≤ s.cells[k].g ∧ s.cells[k].g ≤ 5000) (hr : 0 ≤ (W.work s.works p).rise ∧ (W.work s.works p).rise ≤ 5000) (hq : 0 ≤ (W.work s.works p).calm ∧ (W.work s.works p).calm ≤ 5000) :
    Calls Try.prog 82 #[shoreV s c vc vw vp, .int .i64 k, .int .i64 p, .int .i64 l, .int .i64 d] w fun e w' =>
      e = intoE (decide (l - d - (W.work s.works p).calm ≤ s.cells[k].g + (W.work s.works p).rise)) k (l - d - (W.work s.works p).calm) ∧ Ext w w' := by
  obtain ⟨a1, c1, rfl, hx⟩ := hC
  obtain ⟨a2, c2, rfl, hy⟩ := hW
  obtain ⟨b, off, rfl, hb, h0, h1, h2, h3⟩ := hx k hk
  clear hx
  by_cases hp0 : 0 ≤ p
  · obtain ⟨j, rfl⟩ := Int.eq_ofNat_of_zero_le hp0
    have hj : j < s.works.length := by omega
    obtain ⟨b', off', rfl, hb', k0, k1, k2⟩ := hy j hj
    clear hy
    have ew : W.work s.works j = s.works[j] := by simp [W.work, hj]
    rw [ew] at hr hq ⊢
    clear ew
    by_cases hs : l - d - s.works[j].calm ≤ s.cells[k].g + s.works[j].rise
    · rw [decide_eq_true hs]
      go_enter Try.func82, Try.ntmps82
      go_wp2
      exact ⟨rfl, rfl, by (with_reducible (repeat (first | exact Ext.refl _ | assumption | apply Ext.alloc | apply Ext.drew | exact ext_plus _ _ | (apply Ext.setCell; rotate_left; (simp <;> omega)) | (apply Ext.trans; rotate_left; exact ext_plus _ _) | (apply Ext.trans; rotate_left; assumption))))⟩
    · rw [decide_eq_false hs]
      go_enter Try.func82, Try.ntmps82
      go_wp2
      go_ret
      exact ⟨rfl, by (with_reducible (repeat (first | exact Ext.refl _ | assumption | apply Ext.alloc | apply Ext.drew | exact ext_plus _ _ | (apply Ext.setCell; rotate_left; (simp <;> omega)) | (apply Ext.trans; rotate_left; exact ext_plus _ _) | (apply Ext.trans; rotate_left; assumption))))⟩
  · obtain rfl : p = -1 := by omega
    have ew : W.work s.works (-1) = W.noWork := rfl
    rw [ew] at hr hq ⊢
    clear ew hy
    by_cases hs : l - d ≤ s.cells[k].g
    · rw [decide_eq_true (by simp [W.noWork]; omega)]
      go_enter Try.func82, Try.ntmps82
      go_wp2
      exact ⟨rfl, rfl, by (with_reducible (repeat (first | exact Ext.refl _ | assumption | apply Ext.alloc | apply Ext.drew | exact ext_plus _ _ | (apply Ext.setCell; rotate_left; (simp <;> omega)) | (apply Ext.trans; rotate_left; exact ext_plus _ _) | (apply Ext.trans; rotate_left; assumption))))⟩
    · rw [decide_eq_false (by simp [W.noWork]; omega)]
      go_enter Try.func82, Try.ntmps82
      go_wp2
      go_ret
      exact ⟨ret_int (by simp [W.noWork]), by (with_reducible (repeat (first | exact Ext.refl _ | assumption | apply Ext.alloc | apply Ext.drew | exact ext_plus _ _ | (apply Ext.setCell; rotate_left; (simp <;> omega)) | (apply Ext.trans; rotate_left; exact ext_plus _ _) | (apply Ext.trans; rotate_left; assumption))))⟩
set_option maxRecDepth 100000 in
theorem catch_stop (b : Nat) (x : Bool) (k : Int) (older : List PanicEntry) (w : World) (hc : w.cell? ⟨b, 0, none⟩ = some (.bool x)) (hz : w.frozen? ⟨b, 0, none⟩ = false) (hb : b < w.heap.size) :
    CallsD Try.prog 81 #[.pointer (some ⟨b, 0, none⟩)] (.panicking ({ v := stopV k, recovered := false } :: older)) w fun e u' w' =>
      e = .returned (.tuple #[]) ∧ u' = .panicking ({ v := stopV k, recovered := true } :: older) ∧ w' = (w.setCell ⟨b, 0, none⟩ (.bool false)).alloc (.cells #[.int .i64 k] 130) := by
  have hta : ∀ w, (Instr.typeAssert (stopV k) 20 130 true).run Try.prog w = .ok (.tuple #[.agg #[.int .i64 k], .bool true]) w := fun _ => by kernel_rfl
  refine callsD_of_wpS Try.func81 rfl fun c₀ cs hu => ?_
  simp only [Try.ntmps81, List.size_toArray, List.length_cons, List.length_nil, Nat.reduceAdd, Nat.reduceSub, Array.replicate_succ, Array.replicate_zero, List.push_toArray, List.append_toArray, List.nil_append, List.cons_append]
  apply wpS_seq
  apply wpS_region
  simp [wpOpsS, go_sem, recoverD, hu, Exit.thenS]
  refine wpS_of_wp ?_
  go_wp2
  cases c₀
  simp_all [bodyPostS, results, Try.results81]
set_option maxRecDepth 100000 in
theorem catch_idle (p : Addr) (w : World) :
    CallsD Try.prog 81 #[.pointer (some p)] .returning w fun e u' w' => e = .returned (.tuple #[]) ∧ u' = .returning ∧ w = w' := by
  refine callsD_of_wpS Try.func81 rfl fun c₀ cs hu => ?_
  simp only [Try.ntmps81, List.size_toArray, List.length_cons, List.length_nil, Nat.reduceAdd, Nat.reduceSub, Array.replicate_succ, Array.replicate_zero, List.push_toArray, List.append_toArray, List.nil_append, List.cons_append]
  apply wpS_seq
  apply wpS_region
  simp [wpOpsS, go_sem, recoverD, hu, Exit.thenS]
  refine wpS_of_wp ?_
  go_wp2
  cases c₀
  simp_all [bodyPostS, results, Try.results81]
theorem goes_any (s : W.Shore) (c : W.Storm) (vc vw vp : Value) (w : World) (hC : Cells w vc s.cells) (hW : Works w vw s.works) (hn : s.cells.length ≤ 1000000) (hm : s.works.length ≤ 1000000)
    (k : Nat) (hk : k < s.cells.length) (p l d : Int) (hp : -1 ≤ p ∧ p < s.works.length) (hl : -1000000000 ≤ l ∧ l ≤ 1000000000) (hd : 0 ≤ d ∧ d ≤ 1000000000)
    (hg : -5000 ≤ s.cells[k].g ∧ s.cells[k].g ≤ 5000) (hr : 0 ≤ (W.work s.works p).rise ∧ (W.work s.works p).rise ≤ 5000) (hq : 0 ≤ (W.work s.works p).calm ∧ (W.work s.works p).calm ≤ 5000) (st : Bool)
    (hst : decide (l - d - (W.work s.works p).calm ≤ s.cells[k].g + (W.work s.works p).rise) = st) :
    Calls Try.prog 73 #[shoreV s c vc vw vp, .int .i64 k, .int .i64 p, .int .i64 l, .int .i64 d] w fun e w' =>
      e = .returned (.tuple #[.int .i64 (if st then 0 else l - d - (W.work s.works p).calm), .bool (!st)]) ∧ Ext w w' := by
  have hmf : ∀ (fn : Fn) (first cap : Array Value) (w : World), (Instr.makeFunc fn first cap).run Try.prog w = .ok (.func fn first cap) w := fun _ _ _ _ => rfl
  have hI := fun w' hE => into_any s c vc vw vp w' (hC.ext hE) (hW.ext hE) hn hm k hk p l d hp hl hd hg hr hq
  rw [hst] at hI
  have hC' := hC
  have hW' := hW
  obtain ⟨a1, c1, rfl, _⟩ := hC'
  obtain ⟨a2, c2, rfl, _⟩ := hW'
  have HI := Lib.hid hI
  clear hI hst
  cases st with
  | true =>
    go_enter_defers Try.func73, Try.ntmps73
    go_wp2_with fail
    refine (HI.out _ (by (with_reducible (repeat (first | exact Ext.refl _ | assumption | apply Ext.alloc | apply Ext.drew | exact ext_plus _ _ | (apply Ext.setCell; rotate_left; (simp <;> omega)) | (apply Ext.trans; rotate_left; exact ext_plus _ _) | (apply Ext.trans; rotate_left; assumption)))))).mono ?_
    rintro e w' ⟨rfl, hb⟩
    have hc := hb.cells.1
    have hf := hb.cells.2
    dsimp only [intoE]
    refine leaves_cons (f := 81) (args := #[.pointer (some ⟨w.heap.size + 1, 0, none⟩)]) (by simp) (by simp [go_sem]) ?_
    refine (catch_stop (w.heap.size + 1) false k [] _ ?_ ?_ ?_).mono ?_
    · simp [go_sem, hc]
    · simp [go_sem, hf]
    · have := hb.size; simp at this; omega
    rintro e u' w'' ⟨rfl, rfl, rfl⟩
    have hB : Blk w' (w.heap.size + 1) #[.bool false] 4 := Blk.ext (Blk.new' (by simp) _ _) hb
    have hB1 := ((hB.set 0 (.bool false)).alloc (.cells #[.int .i64 k] 130)).cell 0
    simp [Leaves, settle, results, Try.results73, go_sem, hB1]
    exact ((Ext.trans (by (with_reducible (repeat (first | exact Ext.refl _ | assumption | apply Ext.alloc | apply Ext.drew | exact ext_plus _ _ | (apply Ext.setCell; rotate_left; (simp <;> omega)) | (apply Ext.trans; rotate_left; exact ext_plus _ _) | (apply Ext.trans; rotate_left; assumption))))) hb).setCell (by simp) _).alloc _
  | false =>
    go_enter_defers Try.func73, Try.ntmps73
    go_wp2_with fail
    refine (HI.out _ (by (with_reducible (repeat (first | exact Ext.refl _ | assumption | apply Ext.alloc | apply Ext.drew | exact ext_plus _ _ | (apply Ext.setCell; rotate_left; (simp <;> omega)) | (apply Ext.trans; rotate_left; exact ext_plus _ _) | (apply Ext.trans; rotate_left; assumption)))))).mono ?_
    rintro e w' ⟨rfl, hb⟩
    dsimp only [intoE]
    have hB : Blk w' (w.heap.size + 1) #[.bool false] 4 := Blk.ext (Blk.new' (by simp) _ _) hb
    have hc := hB.cell
    have hf := hB.free
    go_wp2
    refine leaves_cons (f := 81) (args := #[.pointer (some ⟨w.heap.size + 1, 0, none⟩)]) (by simp) (by simp [go_sem]) ?_
    refine (catch_idle ⟨w.heap.size + 1, 0, none⟩ _).mono ?_
    rintro e u' w'' ⟨rfl, rfl, rfl⟩
    have hB1 := (hB.set 0 (.bool true)).cell 0
    simp [Leaves, settle, results, Try.results73, go_sem, hB1]
    exact (Ext.trans (by (with_reducible (repeat (first | exact Ext.refl _ | assumption | apply Ext.alloc | apply Ext.drew | exact ext_plus _ _ | (apply Ext.setCell; rotate_left; (simp <;> omega)) | (apply Ext.trans; rotate_left; exact ext_plus _ _) | (apply Ext.trans; rotate_left; assumption))))) hb).setCell (by simp) _
end Go.Proofs.Ytmlobiajimlboaa
