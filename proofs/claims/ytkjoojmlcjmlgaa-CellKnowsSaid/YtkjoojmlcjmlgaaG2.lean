/- must: gives up at the first load that is let down. fails catches what must gives up with. -/
import Derived.Test.YtkjoojmlcjmlgaaG1
import Derived.Test.YtkjoojmlcjmlgaaRg
import Derived.Defers
import Derived.Recover
namespace Go.Proofs.Ytkjoojmlcjmlgaa
set_option linter.unusedVariables false
set_option linter.unusedSimpArgs false
open Go.RowKit Go.Shelf
attribute [local go_sem] Oper.semAt_some
theorem bit_has (x : Int) (k : Nat) (h0 : 0 ≤ x) (h1 : x ≤ 1000000) : bits .and .i64 (x / 2 ^ k) 1 = if C.has x k then 1 else 0 := by
  have hd : 0 ≤ x / 2 ^ k := Int.ediv_nonneg h0 (Int.le_of_lt (Int.pow_pos (by decide)))
  have hd2 : x / 2 ^ k ≤ x := Int.ediv_le_self _ h0
  have h := mask_i64 1 (by decide) (x / 2 ^ k) hd (by omega)
  have e : ((2 : Int) ^ 1 - 1) = 1 := by decide
  have e2 : ((2 : Int) ^ 1) = 2 := by decide
  rw [e, e2] at h
  rw [h]
  unfold C.has
  by_cases hh : x / 2 ^ k % 2 = 1
  · rw [hh]; rfl
  · rw [decide_eq_false hh, if_neg (by simp)]; omega
/-- What must gives up with. -/
abbrev downV (d i : Nat) : Value := .iface 126 (.agg #[.int .i64 (d : Int), .int .i64 (i : Int)])
def mustE : Option (Nat × Nat) → Ending
  | none => .returned (.tuple #[])
  | some x => .panicked [{ v := downV x.1 x.2, recovered := false }]
theorem find_none {α : Type} {f : Nat → Option α} {k : Nat} (h : (List.range k).findSome? f = none) : (List.range (k + 1)).findSome? f = f k := by
  rw [List.range_succ, List.findSome?_append, h]; simp
theorem find_some {α : Type} {f : Nat → Option α} {k n : Nat} {x : α} (hk : k < n) (h : (List.range k).findSome? f = none) (hx : f k = some x) : (List.range n).findSome? f = some x := by
  have e : List.range n = List.range (k + 1) ++ List.range' (k + 1) (n - (k + 1)) := by
    rw [List.range_eq_range', List.range_eq_range']
    have h2 := List.range'_append_1 (s := 0) (m := k + 1) (n := n - (k + 1))
    rw [Nat.zero_add] at h2
    rw [h2]; congr 1; omega
  rw [e, List.findSome?_append, find_none h, hx]; rfl
theorem find1_none {p : Nat → Bool} {k : Nat} (h : (List.range k).find? p = none) (hp : p k = false) : (List.range (k + 1)).find? p = none := by
  rw [List.range_succ, List.find?_append, h]; simp [hp]
theorem find1_some {p : Nat → Bool} {k n : Nat} (hk : k < n) (h : (List.range k).find? p = none) (hp : p k = true) : (List.range n).find? p = some k := by
  have e : List.range n = List.range k ++ k :: List.range' (k + 1) (n - (k + 1)) := by
    have h2 := List.range'_append_1 (s := 0) (m := k) (n := n - k)
    rw [Nat.zero_add] at h2
    have h3 : List.range' k (n - k) = k :: List.range' (k + 1) (n - (k + 1)) := by
      have : n - k = (n - (k + 1)) + 1 := by omega
      rw [this, List.range'_succ]
    rw [← h3, List.range_eq_range', List.range_eq_range', h2]; congr 1; omega
  rw [e, List.find?_append, h]; simp [hp]
theorem ownFrom_off {br B : Nat} {w0 : World} (hB : w0.heap.size ≤ B) : OwnFrom B (fun (_ : Nat) W => Off br w0 W) := fun _ X Y row h hg hr =>
  ⟨hg.os.trans h.os, hg.tape.trans h.tape, hg.output.trans h.output, Nat.le_trans h.size hg.size, fun k hk hne => (hg.block k (Nat.lt_of_lt_of_le hk h.size) (fun e => by have := (hr k e.symm).1; omega)).trans (h.block k hk hne)⟩
theorem put_off {br : Nat} {w Y : World} (h : Off br w Y) (D : Nat) (o' : Obj) {o : Obj} (hD : Y.heap[D]? = some o) (hw : w.heap.size ≤ D) : Off br w (Y.putObj D o') := by
  have hg := grownBy_putObj' Y D o'
  exact ⟨hg.os.trans h.os, hg.tape.trans h.tape, hg.output.trans h.output, Nat.le_trans h.size hg.size, fun k hk hne => (hg.block k (Nat.lt_of_lt_of_le hk h.size) (by simp; omega)).trans (h.block k hk hne)⟩
/-- Which load is let down on day d, if one is. -/
def downAt (c : C.Sys) (p b off : Int) (T : C.Txt) (d : Nat) : Option (Nat × Nat) := (C.down c (C.dayAt c p b off T d)).map fun i => (d, i)
theorem firstDown_run (c : C.Sys) (p b off : Int) (T : C.Txt) : C.firstDown c (C.run c p b off T) = (List.range T.length).findSome? (downAt c p b off T) := by
  unfold C.firstDown
  have hl : (C.run c p b off T).length = T.length := by simp [C.run]
  rw [hl]
  have : ∀ d ∈ List.range T.length, (fun d => (C.down c (C.dat (C.run c p b off T) d)).map fun i => (d, i)) d = downAt c p b off T d := by
    intro d hd
    have hd' := List.mem_range.1 hd
    unfold downAt
    have : C.dat (C.run c p b off T) d = C.dayAt c p b off T d := by
      unfold C.dat C.run
      rw [List.getD_eq_getElem?_getD]; simp [hd']
    dsimp only
    rw [this]
  generalize List.range T.length = R at this
  induction R with
  | nil => rfl
  | cons x xs ih =>
    have hx := this x (by simp)
    dsimp only at hx
    rw [List.findSome?_cons, List.findSome?_cons, hx, ih (fun d hd => this d (by simp [hd]))]
/-- What the assignment to the loop's variables leaves: the day in a box of its own. -/
def AxM (B : Nat) (c : C.Sys) (p b off : Int) (T : C.Txt) (TM : Nat → Nat → Array Value) (k : Nat) (a' : Act) (Y : World) : Prop := AxD B c p b off T TM k a' Y
set_option maxRecDepth 100000 in
set_option maxHeartbeats 8000000 in
theorem must_any (c : C.Sys) (vl : Value) (p b off : Int) (wt : ByteArray) (br : Nat) (w0 w : World) (O : C.Ok c) (hp0 : 0 ≤ p) (hp1 : p ≤ 12) (h2' : 0 ≤ b) (h3 : b ≤ 8) (ho0 : 0 ≤ off) (ho1 : off < 2 ^ c.loads.length)
    (hlen : wt.data.toList.length = c.days.toNat) (hbr0 : w0.heap.size ≤ br) (hLs : Loads w0 vl c.loads) (hE0 : Ext w0 w)
    (hb : Blk w br (runV c vl p b off wt 0 (C.st0 c b) (C.start c b) 0) 93) :
    Calls Try.prog 85 #[.pointer (some ⟨br, 0, none⟩)] w fun e w' => e = mustE (C.firstDown c (C.run c p b off wt.data.toList)) ∧ Ext w0 w' ∧ Off br w w' := by
  have hLs' := hLs
  obtain ⟨al, cl, rfl, hxl⟩ := hLs'
  have HXL := Lib.hid hxl
  have hd10 := O.d10
  have hn5 := O.n5
  obtain ⟨N, hN⟩ : ∃ N, c.days.toNat = N := ⟨_, rfl⟩
  have hN10 : N ≤ 10 := by omega
  rw [firstDown_run, hlen, hN]
  have HN := Lib.hid hN
  have HLEN := Lib.hid hlen
  have HO := Lib.hid O
  have HO1 := Lib.hid ho1
  clear hxl hN hlen O ho1
  refine calls_of_wpAt (n := 5) Try.func85 rfl ?_
  simp only [Try.ntmps85, List.size_toArray, List.length_cons, List.length_nil, Nat.reduceAdd, Nat.reduceSub, Array.replicate_succ, Array.replicate_zero, List.push_toArray, List.append_toArray, List.nil_append, List.cons_append]
  refine wpAt_seq (n := 5) ?_
  gi_wp2
  refine wpAt_seq (n := 5) ?_
  gi_wp2
  refine wpAt_block ?_
  obtain ⟨bt, hbt⟩ : ∃ bt, w.heap.size = bt := ⟨_, rfl⟩
  obtain ⟨w1, hw1⟩ : ∃ w1, w.alloc (.cells #[.pointer (some ⟨br, 0, none⟩)] 89) = w1 := ⟨_, rfl⟩
  have ht1 : Blk w1 bt #[.pointer (some ⟨br, 0, none⟩)] 89 := by rw [← hw1]; exact Blk.new' hbt.symm _ _
  have hr1 : Blk w1 br (runV c (.slice al c.loads.length cl) p b off wt 0 (C.st0 c b) (C.start c b) 0) 93 := by rw [← hw1]; exact hb.alloc _
  have hE1 : Ext w0 w1 := by rw [← hw1]; exact hE0.alloc _
  have hO1 : Off br w w1 := by rw [← hw1]; exact ((Ext.refl w).alloc _).off br
  have hz1 : w1.heap.size = bt + 1 := by rw [← hw1, ← hbt]; simp
  have hbrl := hb.lt
  have hw0s := hE0.size
  have hwbt : w.heap.size = bt := hbt
  rw [hbt] at hbrl hw0s
  rw [hbt, hw1]
  have HZ1 := Lib.hid hz1
  have hwle : w.heap.size ≤ w1.heap.size := by omega
  have hz1l : bt < w1.heap.size := by omega
  clear hbt hw1 hb hE0 hz1 hwbt
  have hseq := days_own c (.slice al c.loads.length cl) p b off wt br w0 w1 HO.out hp0 hp1 h2' h3 ho0 HO1.out HLEN.out hbr0 hLs
  rw [HN.out] at hseq
  refine' wpAt_range_own (n := 4) (gf := 52) (fst := #[.pointer (some ⟨br, 0, none⟩)]) rfl (enters_of Try.func52 (by kernel_rfl) rfl)
    hseq (fun _ => rfl) (off_rec (by omega)) (daysAt_own hE1.size) ⟨hr1, hE1⟩
    (fun k Y => (List.range k).findSome? (downAt c p b off wt.data.toList) = none ∧ Blk Y bt #[.pointer (some ⟨br, 0, none⟩)] 89 ∧ Off br w Y)
    (fun ch Y => (∃ x, (List.range N).findSome? (downAt c p b off wt.data.toList) = some x ∧ ch = [{ v := downV x.1 x.2, recovered := false }]) ∧ Ext w0 Y ∧ Off br w Y)
    ?own ?rel ⟨rfl, ht1, hO1⟩ (AxD w1.heap.size c p b off wt.data.toList _) (AxD.own _ _ _ _ _ _ _ _) ?assign ?body ?done ?pan
  case own =>
    rintro k A B row ⟨h1, h2, h4⟩ hg hr
    exact ⟨h1, h2.kept hg fun r e => (hr r e).2, ownFrom_off (br := br) (w0 := w) (by omega) k A B row h4 hg hr⟩
  case rel =>
    rintro k A B ⟨h1, h2, h4⟩ ho
    exact ⟨h1, h2.off ho (by omega), h4.trans ho⟩
  case assign =>
    rintro l k Y K hk ⟨h1, h2, h4⟩ hA hK
    have hY1 : w1.heap.size ≤ Y.heap.size := by
      have := h2.lt
      have := HZ1.out
      omega
    simp only [dayE]
    gi_wp2
    obtain ⟨bx, hbx⟩ : ∃ bx, Y.heap.size = bx := ⟨_, rfl⟩
    have hEa : Ext Y (Y.alloc (.cells #[.int .i64 (C.stateAt c p b off wt.data.toList (k + 1)).e, .int .i64 (C.stateAt c p b off wt.data.toList (k + 1)).carried] 41)) := (Ext.refl _).alloc _
    rw [hbx]
    refine hK _ _ (KeepsFrom.of_grownBy hEa.grownBy (fun j e => by cases e)) ⟨h1, h2.ext hEa, h4.ext hEa⟩ ⟨hA.1.ext hEa, hA.2.trans hEa⟩ ⟨bx, Blk.new' hbx.symm _ _, by omega, ?_⟩
    refine (Act.mk.injEq _ _ _ _).mpr ⟨?_, rfl⟩
    exact rfl
  case body =>
    rintro l k a' Y hl hrec hk ⟨h1, h2, h4⟩ hA ⟨bx, hbx, hbxge, rfl⟩
    obtain ⟨hbr, hEY⟩ := hA
    have hbd := C.carried_bd HO.out hp0 hp1 h2' h3 off wt.data.toList k (by omega)
    have hday : C.dayAt c p b off wt.data.toList k = ⟨(C.stateAt c p b off wt.data.toList (k + 1)).e, (C.stateAt c p b off wt.data.toList (k + 1)).carried⟩ := rfl
    have hdn : downAt c p b off wt.data.toList k = (C.down c (C.dayAt c p b off wt.data.toList k)).map fun i => (k, i) := rfl
    rw [hday] at hdn
    have H1 := Lib.hid h1
    have HDN := Lib.hid hdn
    clear h1 hday hdn
    obtain ⟨x, hx⟩ : ∃ x, C.stateAt c p b off wt.data.toList (k + 1) = x := ⟨_, rfl⟩
    rw [hx] at hbx hbr hbd HDN
    simp only [hx]
    have hcb : 0 ≤ x.carried ∧ x.carried ≤ 1000000 := by
      have h1 : (2 : Int) ^ c.loads.length ≤ 1024 := (pow_bd (n := c.loads.length) (by omega)).2
      omega
    have HXX := Lib.hid hx
    clear hx hbd
    have k0 := hbr.cell
    have k1 := hbr.lt
    have t0 := h2.cell
    have t1 := h2.lt
    have d0 := hbx.cell
    have d1 := hbx.lt
    gi_wp2
    have HE1 := Lib.hid hE1
    clear k0 k1 t0 t1 d0 d1
    gi_loopw [4, 5, 16] (fun _ _ i wy => ∃ j : Nat, j ≤ c.loads.length ∧ i = .int .i64 j ∧ (List.range j).find? (C.downs c ⟨x.e, x.carried⟩) = none ∧ Ext Y wy) (fun _ _ i _ => c.loads.length - (intOf i).toNat)
    case atStart => exact ⟨0, Nat.zero_le _, rfl, rfl, Ext.refl _⟩
    case round =>
      rename World => wy
      obtain ⟨j, hj, rfl, hfi, hEy⟩ := hrel
      have HFI := Lib.hid hfi
      clear hfi
      by_cases hjl : j < c.loads.length
      · obtain ⟨bL, oL, rfl, hbL, hAtL⟩ := HXL.out j hjl
        obtain ⟨l0, l1, l2⟩ := load_cells (ate_stays _ _ _ _ _ _ (hEY.trans hEy) hbL hAtL)
        have hbl := Nat.lt_of_lt_of_le hbL (hEY.trans hEy).size
        have hbit := bit_has x.carried j hcb.1 hcb.2
        have hdo : C.downs c ⟨x.e, x.carried⟩ j = (c.loads[j].must && !C.has x.carried j) := by unfold C.downs; rw [C.lat_at hjl]
        have HDO := Lib.hid hdo
        obtain ⟨H, hH⟩ : ∃ H, C.has x.carried j = H := ⟨_, rfl⟩
        rw [hH] at hbit HDO
        obtain ⟨ld, hld⟩ : ∃ ld, c.loads[j] = ld := ⟨_, rfl⟩
        rw [hld] at l0 l1 l2 HDO
        obtain ⟨need, keep, mst⟩ := ld
        have hdy := (hbx.ext hEy).cell
        have hdl := (hbx.ext hEy).lt
        clear hAtL hdo hH hld
        cases mst with
        | false =>
          gi_wp2
          go_roundw
          case rel => exact ⟨j + 1, by omega, by go_num, find1_none HFI.out (by rw [HDO.out]; rfl), hEy.alloc _⟩
          case measure => simp [intOf]; omega
        | true =>
          cases H with
          | true =>
            gi_wp2
            go_roundw
            case rel => exact ⟨j + 1, by omega, by go_num, find1_none HFI.out (by rw [HDO.out]; rfl), hEy.alloc _⟩
            case measure => simp [intOf]; omega
          | false =>
            gi_wp2
            have hEz : Ext Y (wy.alloc (.cells #[.int .i64 need, .int .i64 keep, .bool true] 45)) := hEy.alloc _
            have hdd : downAt c p b off wt.data.toList k = some (k, j) := by rw [HDN.out]; unfold C.down; rw [find1_some hjl HFI.out (by rw [HDO.out]; rfl)]; rfl
            exact ⟨rfl, KeepsFrom.of_grownBy hEz.grownBy (fun j e => by cases e), ⟨k, j, find_some hk H1.out hdd, rfl⟩, hEY.trans hEz, h4.ext hEz⟩
      · obtain rfl : j = c.loads.length := by omega
        gi_wp2
        have hdd : downAt c p b off wt.data.toList k = none := by rw [HDN.out]; unfold C.down; rw [HFI.out]; rfl
        exact ⟨KeepsFrom.of_grownBy hEy.grownBy (fun j e => by cases e), ⟨by rw [HXX.out]; exact hbr.ext hEy, hEY.trans hEy⟩, ⟨by rw [find_none H1.out]; exact hdd, h2.ext hEy, h4.ext hEy⟩⟩
  case done =>
    rintro D Y hD ⟨h1, h2, h4⟩ hA hK
    rw [h1]
    refine ⟨by simp, .inl ⟨_, _, rfl, run_takeDeferred hK, ?_⟩⟩
    refine ⟨.tuple #[], by simp [results, Try.results85, go_sem], rfl, ?_, put_off h4 D _ hK (by omega)⟩
    exact Below.trans hA.2 (belowK_b (w := w1) (by omega) Y D _ _ hD hK rfl rfl)
  case pan =>
    rintro D ch Y hD ⟨⟨x, hx, rfl⟩, hE, h4⟩ hK
    rw [hx]
    refine ⟨by simp, .inl ⟨_, _, rfl, run_takeDeferred hK, ?_⟩⟩
    refine ⟨rfl, ?_, put_off h4 D _ hK (by omega)⟩
    exact Below.trans hE (belowK_b (w := w1) (by omega) Y D _ _ hD hK rfl rfl)
end Go.Proofs.Ytkjoojmlcjmlgaa
namespace Go.Proofs.Ytkjoojmlcjmlgaa
set_option linter.unusedVariables false
set_option linter.unusedSimpArgs false
open Go.RowKit
set_option maxRecDepth 100000 in
theorem catch_stop (b1 b2 : Nat) (p q : Value) (x : Bool) (d i : Nat) (older : List PanicEntry) (w0 w : World) (hE : Ext w0 w) (hne : b1 ≠ b2) (hg1 : w0.heap.size ≤ b1) (hg2 : w0.heap.size ≤ b2) (h1 : Blk w b1 #[p, q] 126) (h2 : Blk w b2 #[.bool x] 4) :
    CallsD Try.prog 84 #[.pointer (some ⟨b1, 0, none⟩), .pointer (some ⟨b2, 0, none⟩)] (.panicking ({ v := downV d i, recovered := false } :: older)) w fun e u' w' =>
      e = .returned (.tuple #[]) ∧ u' = .panicking ({ v := downV d i, recovered := true } :: older) ∧ Blk w' b1 #[.int .i64 (d : Int), .int .i64 (i : Int)] 126 ∧ Blk w' b2 #[.bool true] 4 ∧ Ext w0 w' := by
  have hta : ∀ w, (Instr.typeAssert (downV d i) 20 126 true).run Try.prog w = .ok (.tuple #[.agg #[.int .i64 (d : Int), .int .i64 (i : Int)], .bool true]) w := fun _ => by kernel_rfl
  have c1 := h1.cell
  have c2 := h1.free
  have c3 := h1.lt
  have d1 := h2.cell
  have d2 := h2.free
  have d3 := h2.lt
  refine callsD_of_wpS Try.func84 rfl fun c₀ cs hu => ?_
  simp only [Try.ntmps84, List.size_toArray, List.length_cons, List.length_nil, Nat.reduceAdd, Nat.reduceSub, Array.replicate_succ, Array.replicate_zero, List.push_toArray, List.append_toArray, List.nil_append, List.cons_append]
  apply wpS_seq
  apply wpS_region
  simp [wpOpsS, go_sem, recoverD, hu, Exit.thenS]
  refine wpS_of_wp ?_
  go_wp2
  have hB1 := (((h1.set 0 (.int .i64 (d : Int))).set 1 (.int .i64 (i : Int))).other (a := ⟨b2, 0, none⟩) (fun e => hne e.symm) (.bool true)).alloc (.cells #[.int .i64 (d : Int), .int .i64 (i : Int)] 126)
  have hB2 := (((h2.other (a := ⟨b1, 0, none⟩) hne (.int .i64 (d : Int))).other (a := ⟨b1, 1, none⟩) hne (.int .i64 (i : Int))).set 0 (.bool true)).alloc (.cells #[.int .i64 (d : Int), .int .i64 (i : Int)] 126)
  have hO := (((hE.setCell (p := ⟨b1, 0, none⟩) hg1 (.int .i64 (d : Int))).setCell (p := ⟨b1, 1, none⟩) hg1 (.int .i64 (i : Int))).setCell (p := ⟨b2, 0, none⟩) hg2 (.bool true)).alloc (.cells #[.int .i64 (d : Int), .int .i64 (i : Int)] 126)
  obtain ⟨W, hW⟩ : ∃ W, (((w.setCell ⟨b1, 0, none⟩ (.int .i64 (d : Int))).setCell ⟨b1, 1, none⟩ (.int .i64 (i : Int))).setCell ⟨b2, 0, none⟩ (.bool true)).alloc (.cells #[.int .i64 (d : Int), .int .i64 (i : Int)] 126) = W := ⟨_, rfl⟩
  rw [hW] at hB1 hB2 hO ⊢
  clear hW c1 c2 c3 d1 d2 d3 hta h1 h2
  cases c₀
  simp [bodyPostS, results, Try.results84]
  exact ⟨hB1, hB2, hO⟩
set_option maxRecDepth 100000 in
theorem catch_idle (p q : Addr) (w : World) :
    CallsD Try.prog 84 #[.pointer (some p), .pointer (some q)] .returning w fun e u' w' => e = .returned (.tuple #[]) ∧ u' = .returning ∧ w = w' := by
  refine callsD_of_wpS Try.func84 rfl fun c₀ cs hu => ?_
  simp only [Try.ntmps84, List.size_toArray, List.length_cons, List.length_nil, Nat.reduceAdd, Nat.reduceSub, Array.replicate_succ, Array.replicate_zero, List.push_toArray, List.append_toArray, List.nil_append, List.cons_append]
  apply wpS_seq
  apply wpS_region
  simp [wpOpsS, go_sem, recoverD, hu, Exit.thenS]
  refine wpS_of_wp ?_
  go_wp2
  cases c₀
  simp_all [bodyPostS, results, Try.results84]
/-- What fails tells. -/
def downP : Option (Nat × Nat) → Nat × Nat
  | none => (0, 0)
  | some x => x
set_option maxRecDepth 100000 in
set_option maxHeartbeats 8000000 in
theorem fails_any (c : C.Sys) (vl : Value) (p b off : Int) (wt : ByteArray) (br : Nat) (w0 w : World) (O : C.Ok c) (hp0 : 0 ≤ p) (hp1 : p ≤ 12) (h2 : 0 ≤ b) (h3 : b ≤ 8) (ho0 : 0 ≤ off) (ho1 : off < 2 ^ c.loads.length)
    (hlen : wt.data.toList.length = c.days.toNat) (hbr0 : w0.heap.size ≤ br) (hLs : Loads w0 vl c.loads) (hE0 : Ext w0 w)
    (hb : Blk w br (runV c vl p b off wt 0 (C.st0 c b) (C.start c b) 0) 93) :
    Calls Try.prog 76 #[.pointer (some ⟨br, 0, none⟩)] w fun e w' => e = .returned (.tuple #[.agg #[.int .i64 (downP (C.firstDown c (C.run c p b off wt.data.toList))).1, .int .i64 (downP (C.firstDown c (C.run c p b off wt.data.toList))).2], .bool (C.firstDown c (C.run c p b off wt.data.toList)).isSome]) ∧ Ext w0 w' := by
  have hmf : ∀ (fn : Fn) (first cap : Array Value) (w : World), (Instr.makeFunc fn first cap).run Try.prog w = .ok (.func fn first cap) w := fun _ _ _ _ => rfl
  have hI := fun w' hE hb' => must_any c vl p b off wt br w0 w' O hp0 hp1 h2 h3 ho0 ho1 hlen hbr0 hLs hE hb'
  obtain ⟨S, hS⟩ : ∃ S, C.firstDown c (C.run c p b off wt.data.toList) = S := ⟨_, rfl⟩
  rw [hS]
  simp only [hS] at hI
  have HI := Lib.hid hI
  have hlt := hb.lt
  have hsz := hE0.size
  clear hI hS
  cases S with
  | some x =>
    obtain ⟨d, i⟩ := x
    go_enter_defers Try.func76, Try.ntmps76
    go_wp2_with fail
    refine (HI.out _ (by (with_reducible (repeat (first | exact Ext.refl _ | assumption | apply Ext.alloc | apply Ext.drew | exact ext_plus _ _ | (apply Ext.setCell; rotate_left; (simp <;> omega)) | (apply Ext.trans; rotate_left; exact ext_plus _ _) | (apply Ext.trans; rotate_left; assumption))))) ((hb.alloc _).alloc _)).mono ?_
    rintro e w' ⟨rfl, hEw, hOw⟩
    dsimp only [mustE]
    have hB1 : Blk w' w.heap.size #[.int .i64 0, .int .i64 0] 126 := Blk.off ((Blk.new' (by simp) _ _).alloc _) hOw (by omega)
    have hB2 : Blk w' (w.heap.size + 1) #[.bool false] 4 := Blk.off (Blk.new' (by simp) _ _) hOw (by omega)
    refine leaves_cons (f := 84) (args := #[.pointer (some ⟨w.heap.size, 0, none⟩), .pointer (some ⟨w.heap.size + 1, 0, none⟩)]) (by simp) (by simp [go_sem]) ?_
    refine (catch_stop w.heap.size (w.heap.size + 1) _ _ false d i [] w0 _ hEw (by omega) (by omega) (by omega) hB1 hB2).mono ?_
    rintro e u' w'' ⟨rfl, rfl, k1, k2, hO⟩
    have q1 := k1.cell 0
    have q2 := k1.cell 1
    have q3 := k2.cell 0
    simp at q1 q2 q3
    simp [Leaves, settle, results, Try.results76, go_sem, q1, q2, q3, downP]
    exact hO
  | none =>
    go_enter_defers Try.func76, Try.ntmps76
    go_wp2_with fail
    refine (HI.out _ (by (with_reducible (repeat (first | exact Ext.refl _ | assumption | apply Ext.alloc | apply Ext.drew | exact ext_plus _ _ | (apply Ext.setCell; rotate_left; (simp <;> omega)) | (apply Ext.trans; rotate_left; exact ext_plus _ _) | (apply Ext.trans; rotate_left; assumption))))) ((hb.alloc _).alloc _)).mono ?_
    rintro e w' ⟨rfl, hEw, hOw⟩
    dsimp only [mustE]
    have hB1 : Blk w' w.heap.size #[.int .i64 0, .int .i64 0] 126 := Blk.off ((Blk.new' (by simp) _ _).alloc _) hOw (by omega)
    have hB2 : Blk w' (w.heap.size + 1) #[.bool false] 4 := Blk.off (Blk.new' (by simp) _ _) hOw (by omega)
    have c1 := hB1.cell
    have c2 := hB1.free
    have c3 := hB1.lt
    have d1 := hB2.cell
    have d2 := hB2.free
    have d3 := hB2.lt
    go_wp2
    refine leaves_cons (f := 84) (args := #[.pointer (some ⟨w.heap.size, 0, none⟩), .pointer (some ⟨w.heap.size + 1, 0, none⟩)]) (by simp) (by simp [go_sem]) ?_
    refine (catch_idle ⟨w.heap.size, 0, none⟩ ⟨w.heap.size + 1, 0, none⟩ _).mono ?_
    rintro e u' w'' ⟨rfl, rfl, rfl⟩
    have k1 := ((hB1.set 0 (.int .i64 0)).set 1 (.int .i64 0)).other (a := ⟨w.heap.size + 1, 0, none⟩) (by simp) (.bool false)
    have k2 := ((hB2.other (a := ⟨w.heap.size, 0, none⟩) (by simp) (.int .i64 0)).other (a := ⟨w.heap.size, 1, none⟩) (by simp) (.int .i64 0)).set 0 (.bool false)
    have hE9 := ((hEw.setCell (p := ⟨w.heap.size, 0, none⟩) (by simp; omega) (.int .i64 0)).setCell (p := ⟨w.heap.size, 1, none⟩) (by simp; omega) (.int .i64 0)).setCell (p := ⟨w.heap.size + 1, 0, none⟩) (by simp <;> omega) (.bool false)
    obtain ⟨W, hW⟩ : ∃ W, ((w'.setCell ⟨w.heap.size, 0, none⟩ (.int .i64 0)).setCell ⟨w.heap.size, 1, none⟩ (.int .i64 0)).setCell ⟨w.heap.size + 1, 0, none⟩ (.bool false) = W := ⟨_, rfl⟩
    rw [hW] at k1 k2 hE9 ⊢
    have q1 := k1.cell 0
    have q2 := k1.cell 1
    have q3 := k2.cell 0
    simp at q1 q2 q3
    clear c1 c2 d1 d2 hW
    simp [Leaves, settle, results, Try.results76, go_sem, q1, q2, q3, downP]
    exact hE9
end Go.Proofs.Ytkjoojmlcjmlgaa
