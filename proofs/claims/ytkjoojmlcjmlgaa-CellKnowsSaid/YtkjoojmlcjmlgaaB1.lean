/- Best: the map of costs, the comparer, and the question whether some panels and batteries suffice. Best: the first that suffices; all panels and batteries. -/
import Derived.Test.YtkjoojmlcjmlgaaG4
import Derived.Test.YtkjoojmlcjmlgaaS6
import Derived.Maps.OwnSet
import Derived.Maps.Views
import Derived.Maps.OwnOps
import Derived.DeepKeys4
namespace Go.Proofs.Ytkjoojmlcjmlgaa
set_option linter.unusedVariables false
set_option linter.unusedSimpArgs false
open Go.RowKit Go.Maps
theorem key_row : (86 : TypeId) < Try.prog.types.size := of_decide_eq_true (by kernel_rfl)
theorem key_wide : (match Try.prog.underlying 86 with | some (.array _ _) | some (.struct _) => true | _ => false) = true := by kernel_rfl
set_option maxRecDepth 100000 in
theorem key_keyed : Keyed Try.prog 86 := Keyed.of_law (deep_law_laid (by kernel_rfl) (m := 3) (by omega) key_row (by kernel_rfl) key_wide)
def wf64 (n : Int) : Prop := (Lit.int .i64 n).wf = true
theorem wf64_of {n : Int} (h0 : 0 ≤ n) (h1 : n ≤ 1000000000) : wf64 n := by
  have h2 : IntKind.min .i64 = -9223372036854775808 := by decide
  have h3 : IntKind.max .i64 = 9223372036854775807 := by decide
  show (decide (IntKind.min .i64 ≤ n) && decide (n ≤ IntKind.max .i64)) = true
  rw [h2, h3, Bool.and_eq_true, decide_eq_true_eq, decide_eq_true_eq]
  omega
set_option maxRecDepth 100000 in
theorem store_key {a b : Int} (ha : wf64 a) (hb : wf64 b) : ∃ kl, keyOf Try.prog 86 (.agg #[.int .i64 a, .int .i64 b]) = some kl := by
  unfold wf64 at ha hb
  obtain ⟨k, hk⟩ : ∃ k, Try.prog.types.size + 1 = k + 2 := ⟨Try.prog.types.size - 1, by have h : (decide (0 < Try.prog.types.size)) = true := (by kernel_rfl); have h := of_decide_eq_true h; omega⟩
  have hkt : Try.prog.keyType 86 = true := by kernel_rfl
  have hs : Try.prog.cellsOf 86 = 2 := by kernel_rfl
  have hi1 : Try.prog.cellsOf 3 = 1 := by kernel_rfl
  have hu := Try.underlying86
  have hui := Try.underlying3
  unfold keyOf
  simp only [hu]
  rw [if_pos (by simp [hkt, Value.formed, hu, hs]), hk]
  refine ⟨.string (keyBytes [.int .i64 a, .int .i64 b]), ?_⟩
  unfold Program.keyLits
  simp only [hu, Value.cells]
  rw [if_pos (by refine ⟨by simp [hs], by simp⟩)]
  simp [List.mapM_cons, Program.keyLits, hui, hi1, ha, hb]
noncomputable abbrev IV : Value → Option (DataW Value × List MemPlace) := plainElem (H := Value) Try.prog 3
/-- The map of costs holds the cost of each of L. -/
def Costs (c : C.Sys) (w : World) (b n : Nat) (L : List (Int × Int)) : Prop :=
  ∃ D, w.ownsMap Try.prog 86 IV b n D ∧ ∀ s ∈ L, ∃ kl, keyOf Try.prog 86 (.agg #[.int .i64 s.1, .int .i64 s.2]) = some kl ∧ D.atKey kl (.lit (.int .i64 0)) = .lit (.int .i64 (C.cost c s.1 s.2))
theorem Costs.made (c : C.Sys) (w : World) : Costs c (w.alloc (.map #[] 0)) w.heap.size 0 [] := ⟨.map [], World.ownsMap_made _ _ _ _, fun _ h => by cases h⟩
theorem Costs.ext {c : C.Sys} {w w' : World} {b n : Nat} {L : List (Int × Int)} (h : Costs c w b n L) (he : Ext w w') : Costs c w' b n L := by
  obtain ⟨D, h1, h2⟩ := h
  exact ⟨D, h1.kept (row := none) ⟨he.os, he.tape, he.output, he.size, fun k hk _ => he.block k hk⟩ (by simp), h2⟩
theorem Costs.lt {c : C.Sys} {w : World} {b n : Nat} {L : List (Int × Int)} (h : Costs c w b n L) : b < w.heap.size := by
  obtain ⟨D, h1, h2⟩ := h
  exact h1.lt
theorem Costs.grown {c : C.Sys} {w w' : World} {b n : Nat} {L : List (Int × Int)} {row : Option Nat} (h : Costs c w b n L) (hg : w.grownBy w' row) (hr : row ≠ some b) : Costs c w' b n L := by
  obtain ⟨D, h1, h2⟩ := h
  exact ⟨D, h1.kept hg (Ne.symm hr), h2⟩
theorem Costs.off {c : C.Sys} {w w' : World} {b n g : Nat} {L : List (Int × Int)} (h : Costs c w b n L) (ho : Off g w w') (hne : g ≠ b) : Costs c w' b n L := by
  obtain ⟨D, h1, h2⟩ := h
  exact ⟨D, h1.kept (row := some g) ⟨ho.os, ho.tape, ho.output, ho.size, fun k hk hk2 => ho.block k hk (fun e => hk2 (by rw [e]))⟩ (by simpa using Ne.symm hne), h2⟩
set_option maxRecDepth 100000 in
theorem zero_int (w : World) : (zeroValue 3).run Try.prog w = .ok (.int .i64 0) w := rfl
set_option maxRecDepth 100000 in
theorem Costs.look {c : C.Sys} {w : World} {b n : Nat} {L : List (Int × Int)} (h : Costs c w b n L) {s : Int × Int} (hs : s ∈ L) : (Instr.lookup 104 (.map (some b)) (.agg #[.int .i64 s.1, .int .i64 s.2]) false).run Try.prog w = .ok (.int .i64 (C.cost c s.1 s.2)) w := by
  obtain ⟨D, h1, h2⟩ := h
  obtain ⟨kl, hk, hat⟩ := h2 s hs
  obtain ⟨x, hrun, hc, _⟩ := h1.lookup_int key_keyed Try.underlying104 Try.underlying3 (zero_int w) hk
  rw [hat] at hc
  have : C.cost c s.1 s.2 = x := by simpa using hc
  rw [this]; exact hrun
/-- What is stored beside. -/
theorem Costs.put {c : C.Sys} {w' : World} {b n : Nat} {L : List (Int × Int)} {s : Int × Int} {D : DataW Value} {kl : Lit} (hD : IsMap D) (h2 : ∀ s ∈ L, ∃ kl, keyOf Try.prog 86 (.agg #[.int .i64 s.1, .int .i64 s.2]) = some kl ∧ D.atKey kl (.lit (.int .i64 0)) = .lit (.int .i64 (C.cost c s.1 s.2)))
    (hk : keyOf Try.prog 86 (.agg #[.int .i64 s.1, .int .i64 s.2]) = some kl) (hs : s ∉ L) (h1 : w'.ownsMap Try.prog 86 IV b (n + 1) (D.put kl (.lit (.int .i64 (C.cost c s.1 s.2))))) : Costs c w' b (n + 1) (L ++ [s]) := by
  refine ⟨_, h1, fun t ht => ?_⟩
  rw [List.mem_append, List.mem_singleton] at ht
  rcases ht with ht | rfl
  · obtain ⟨kt, hkt, hat⟩ := h2 t ht
    refine ⟨kt, hkt, ?_⟩
    rw [atKey_put_other ?_]
    · exact hat
    · rintro rfl
      have e := key_keyed.inj hkt hk
      have e1 : t.1 = s.1 ∧ t.2 = s.2 := by simpa using e
      exact hs (by rw [show s = t from Prod.ext e1.1.symm e1.2.symm]; exact ht)
  · exact ⟨kl, hk, atKey_put_same hD (key_keyed.key hk) _ _⟩
theorem Blk.but {w w' : World} {b c : Nat} {cs : Array Value} {e : TypeId} (h : Blk w c cs e) (hg : w.grownBy w' (some b)) (hne : c ≠ b) : Blk w' c cs e :=
  (hg.block c h.lt (fun e => hne (Option.some.inj e))).trans h
theorem cost_bd {c : C.Sys} (O : C.Ok c) {p b : Int} (hp0 : 0 ≤ p) (hp1 : p ≤ 12) (h2 : 0 ≤ b) (h3 : b ≤ 8) : 0 ≤ p * c.panel ∧ p * c.panel ≤ 12000000 ∧ 0 ≤ b * c.battery ∧ b * c.battery ≤ 8000000 :=
  ⟨Int.mul_nonneg hp0 O.p0, Int.le_trans (Int.mul_le_mul hp1 O.p1 O.p0 (by decide)) (by decide), Int.mul_nonneg h2 O.b0, Int.le_trans (Int.mul_le_mul h3 O.b1 O.b0 (by decide)) (by decide)⟩
def inRange (s : Int × Int) : Prop := 0 ≤ s.1 ∧ s.1 ≤ 12 ∧ 0 ≤ s.2 ∧ s.2 ≤ 8
theorem cost_le {c : C.Sys} (O : C.Ok c) {s : Int × Int} (h : inRange s) : 0 ≤ C.cost c s.1 s.2 ∧ C.cost c s.1 s.2 ≤ 20000000 := by
  have := cost_bd O h.1 h.2.1 h.2.2.1 h.2.2.2
  unfold C.cost; omega
set_option maxRecDepth 100000 in
set_option maxHeartbeats 4000000 in
/-- The comparer. -/
theorem cmp_any (c : C.Sys) (O : C.Ok c) (bc bm n : Nat) (L : List (Int × Int)) (w : World) (x y : Int × Int) (hC : Costs c w bm n L) (hB : Blk w bc #[.map (some bm)] 104) (hx : x ∈ L) (hy : y ∈ L) (hrx : inRange x) (hry : inRange y) :
    Calls Try.prog 60 #[.agg #[.int .i64 x.1, .int .i64 x.2], .agg #[.int .i64 y.1, .int .i64 y.2], .pointer (some ⟨bc, 0, none⟩)] w fun e w' => e = .returned (.int .i64 (C.cost c x.1 x.2 - C.cost c y.1 y.2)) ∧ Ext w w' := by
  have hbx := cost_le O hrx
  have hby := cost_le O hry
  obtain ⟨x1, x2⟩ := x
  obtain ⟨y1, y2⟩ := y
  dsimp only at hbx hby ⊢
  have hlx := fun z (he : Ext w z) => (hC.ext he).look hx
  have hly := fun z (he : Ext w z) => (hC.ext he).look hy
  dsimp only at hlx hly
  obtain ⟨cx, hcx⟩ : ∃ cx, C.cost c x1 x2 = cx := ⟨_, rfl⟩
  obtain ⟨cy, hcy⟩ : ∃ cy, C.cost c y1 y2 = cy := ⟨_, rfl⟩
  simp only [hcx] at hlx hbx
  simp only [hcy] at hly hby
  rw [hcx, hcy]
  have HLX := Lib.hid hlx
  have HLY := Lib.hid hly
  clear hlx hly hcx hcy hC
  go_enter Try.func60, Try.ntmps60
  go_upto_region 1 with (fail)
  obtain ⟨w1, hw1⟩ : ∃ w1, (w.alloc (.cells #[.int .i64 x1, .int .i64 x2] 86)).alloc (.cells #[.int .i64 y1, .int .i64 y2] 86) = w1 := ⟨_, rfl⟩
  have hx1 : Blk w1 w.heap.size #[.int .i64 x1, .int .i64 x2] 86 := by rw [← hw1]; exact (Blk.new' rfl _ _).alloc _
  have hy1 : Blk w1 (w.heap.size + 1) #[.int .i64 y1, .int .i64 y2] 86 := by rw [← hw1]; exact Blk.new' (by simp) _ _
  have hE1 : Ext w w1 := by rw [← hw1]; (with_reducible (repeat (first | exact Ext.refl _ | assumption | apply Ext.alloc | apply Ext.drew | exact ext_plus _ _ | (apply Ext.setCell; rotate_left; (simp <;> omega)) | (apply Ext.trans; rotate_left; exact ext_plus _ _) | (apply Ext.trans; rotate_left; assumption))))
  rw [hw1]
  have hb1 := hB.ext hE1
  clear hw1
  have hl1 := fun z => HLX.out (plus w1 z) (hE1.trans (ext_plus w1 z))
  have hl2 := fun z => HLY.out (plus w1 z) (hE1.trans (ext_plus w1 z))
  have k0 := hx1.cell
  have k1 := hx1.lt
  have k2 := hy1.cell
  have k3 := hy1.lt
  have k4 := hb1.cell
  have k5 := hb1.lt
  have hpc := plus_cell
  refine wp_region_ext 7 (fun _ _ d _ _ h => by cases d <;> exact h) (by kernel_rfl) (by kernel_rfl) (by kernel_rfl) (by kernel_rfl) ?_
  simp only [List.take_succ_cons, List.take_zero, List.drop_succ_cons, List.drop_zero]
  repeat (any_goals (first | go_big_quiet_step (fail) | quiet_step (fail)))
  all_goals (refine wpQuiet_nil ?_; intro w2 hE2)
  go_wp2
  go_ret
  exact ⟨rfl, hE1.trans hE2⟩
set_option maxRecDepth 100000 in
set_option maxHeartbeats 4000000 in
/-- Whether panels and batteries suffice. -/
theorem suff_any (c : C.Sys) (O : C.Ok c) (vl : Value) (bs : Nat) (w : World) (hL : Loads w vl c.loads) (hB : Blk w bs (sysV c vl) 24) (s : Int × Int) (hs : inRange s) :
    Calls Try.prog 62 #[.agg #[.int .i64 s.1, .int .i64 s.2], .pointer (some ⟨bs, 0, none⟩)] w fun e w' => e = .returned (.bool (C.suffice c s.1 s.2 0)) ∧ Ext w w' := by
  have hL' := hL
  obtain ⟨a, cap, rfl, _⟩ := hL'
  obtain ⟨s1, s2⟩ := s
  obtain ⟨g1, g2, g3, g4⟩ := hs
  dsimp only at g1 g2 g3 g4 ⊢
  have hp : (0 : Int) < 2 ^ c.loads.length := Int.pow_pos (by decide)
  have hfa := fun w' (hx : Ext w w') => fault_any c (.slice a c.loads.length cap) s1 s2 0 w' O g1 g2 g3 g4 (Int.le_refl 0) hp (hL.ext hx)
  have hsf : C.suffice c s1 s2 0 = (C.fault c s1 s2 0).isNone := rfl
  rw [hsf]
  obtain ⟨S, hS⟩ : ∃ S, C.fault c s1 s2 0 = S := ⟨_, rfl⟩
  simp only [hS] at hfa
  rw [hS]
  have k0 := hB.cell
  have k1 := hB.lt
  have HFA := Lib.hid hfa
  clear hfa hp hsf hS
  cases S with
  | none =>
    dsimp only [faultV] at HFA
    go_enter Try.func62, Try.ntmps62
    go_wp2_with (first | (go_at_call 57; refine (HFA.out _ (by (with_reducible (repeat (first | exact Ext.refl _ | assumption | apply Ext.alloc | apply Ext.drew | exact ext_plus _ _ | (apply Ext.setCell; rotate_left; (simp <;> omega)) | (apply Ext.trans; rotate_left; exact ext_plus _ _) | (apply Ext.trans; rotate_left; assumption)))))).mono ?_; rintro e w3 ⟨rfl, hb3⟩))
    go_ret
    exact ⟨rfl, by (with_reducible (repeat (first | exact Ext.refl _ | assumption | apply Ext.alloc | apply Ext.drew | exact ext_plus _ _ | (apply Ext.setCell; rotate_left; (simp <;> omega)) | (apply Ext.trans; rotate_left; exact ext_plus _ _) | (apply Ext.trans; rotate_left; assumption))))⟩
  | some r =>
    dsimp only [faultV] at HFA
    go_enter Try.func62, Try.ntmps62
    go_wp2_with (first | (go_at_call 57; refine (HFA.out _ (by (with_reducible (repeat (first | exact Ext.refl _ | assumption | apply Ext.alloc | apply Ext.drew | exact ext_plus _ _ | (apply Ext.setCell; rotate_left; (simp <;> omega)) | (apply Ext.trans; rotate_left; exact ext_plus _ _) | (apply Ext.trans; rotate_left; assumption)))))).mono ?_; rintro e w3 ⟨rfl, hb3⟩))
    go_ret
    exact ⟨rfl, by (with_reducible (repeat (first | exact Ext.refl _ | assumption | apply Ext.alloc | apply Ext.drew | exact ext_plus _ _ | (apply Ext.setCell; rotate_left; (simp <;> omega)) | (apply Ext.trans; rotate_left; exact ext_plus _ _) | (apply Ext.trans; rotate_left; assumption))))⟩
end Go.Proofs.Ytkjoojmlcjmlgaa
namespace Go.Proofs.Ytkjoojmlcjmlgaa
set_option linter.unusedVariables false
set_option linter.unusedSimpArgs false
open Go.RowKit Go.Maps
def suffS (c : C.Sys) (s : Int × Int) : Bool := C.suffice c s.1 s.2 0
theorem storeAt {w : World} {g : Nat} {L : List (Int × Int)} (h : RowB storeC 2 86 w g L) (k : Nat) (hk : k < L.length) : w.cell? ⟨g, k * 2, none⟩ = some (.int .i64 L[k].1) ∧ w.cell? ⟨g, k * 2 + 1, none⟩ = some (.int .i64 L[k].2) := by
  have h0 := h.cell k hk 0 (.int .i64 L[k].1) rfl
  have h1 := h.cell k hk 1 (.int .i64 L[k].2) rfl
  exact ⟨by simpa using h0, h1⟩
theorem findL_none {α : Type} {p : α → Bool} {L : List α} {k : Nat} (hk : k < L.length) (h : (L.take k).find? p = none) (hp : p L[k] = false) : (L.take (k + 1)).find? p = none := by
  rw [List.take_succ_eq_append_getElem hk, List.find?_append, h]; simp [hp]
theorem findL_some {α : Type} {p : α → Bool} {L : List α} {k : Nat} (hk : k < L.length) (h : (L.take k).find? p = none) (hp : p L[k] = true) : L.find? p = some L[k] := by
  have e : L = L.take k ++ L[k] :: L.drop (k + 1) := by rw [← List.drop_eq_getElem_cons hk, List.take_append_drop]
  have h2 := congrArg (List.find? p) e
  rw [h2, List.find?_append, h, List.find?_cons, hp]
  rfl
theorem store_info : (Try.prog.info? 86).map (fun i => (i.zero, i.size, i.bytes)) = some (some (.agg #[.int .i64 0, .int .i64 0]), 2, 16) := by kernel_rfl
def storeO : Option (Int × Int) → Int × Int
  | none => (0, 0)
  | some s => s
set_option maxRecDepth 100000 in
set_option maxHeartbeats 8000000 in
theorem first_any (c : C.Sys) (O : C.Ok c) (vl : Value) (bs g cap N : Nat) (L : List (Int × Int)) (w : World) (hLs : Loads w vl c.loads) (hB : Blk w bs (sysV c vl) 24) (hrow : RowB storeC 2 86 w g L) (hN : N = L.length) (hsz : N ≤ 1000000) (hr : ∀ s ∈ L, inRange s) :
    Calls Try.prog 61 #[.slice (some ⟨g, 0, none⟩) N cap, .func (.func 62) #[] #[.pointer (some ⟨bs, 0, none⟩)]] w fun e w' => e = .returned (.tuple #[.agg #[.int .i64 (storeO (L.find? (suffS c))).1, .int .i64 (storeO (L.find? (suffS c))).2], .bool (L.find? (suffS c)).isSome]) ∧ Ext w w' := by
  have HSU := Lib.hid (fun w' (hx : Ext w w') s hs => suff_any c O vl bs w' (hLs.ext hx) (hB.ext hx) s (hr s hs))
  have HROW := Lib.hid hrow
  have HN := Lib.hid hN
  have hNl : N ≤ L.length := by omega
  have hNl2 : L.length ≤ N := by omega
  clear hN hrow hB hLs hr
  go_enter Try.func61, Try.ntmps61
  go_wp2
  go_loopw [11] (fun i wr => ∃ k : Nat, k ≤ N ∧ i = .int .i64 k ∧ (L.take k).find? (suffS c) = none ∧ Blk wr w.heap.size #[.int .i64 0, .int .i64 0] 86 ∧ Ext w wr) (fun i _ => N - (intOf i).toNat)
  case atStart => exact ⟨0, Nat.zero_le _, rfl, rfl, Blk.new' rfl _ _, by (with_reducible (repeat (first | exact Ext.refl _ | assumption | apply Ext.alloc | apply Ext.drew | exact ext_plus _ _ | (apply Ext.setCell; rotate_left; (simp <;> omega)) | (apply Ext.trans; rotate_left; exact ext_plus _ _) | (apply Ext.trans; rotate_left; assumption))))⟩
  case round =>
    rename World => wr
    obtain ⟨k, hk, rfl, hfi, hb, hE⟩ := hrel
    have HFI := Lib.hid hfi
    clear hfi
    by_cases hlt : k < N
    · have hkL : k < L.length := by omega
      have hrw := HROW.out.ext hE
      obtain ⟨m0, m1⟩ := storeAt hrw k hkL
      have ml := hrw.lt
      have mem := List.getElem_mem hkL
      have hsu := fun w' (hx : Ext w w') => HSU.out w' hx _ mem
      have HFN := Lib.hid (fun h => findL_none hkL HFI.out h)
      have HFS := Lib.hid (fun h => findL_some hkL HFI.out h)
      obtain ⟨s, hs⟩ : ∃ s, L[k] = s := ⟨_, rfl⟩
      rw [hs] at m0 m1 HFN HFS
      simp only [hs] at hsu
      obtain ⟨s1, s2⟩ := s
      dsimp only at m0 m1 hsu
      obtain ⟨B, hBB⟩ : ∃ B, C.suffice c s1 s2 0 = B := ⟨_, rfl⟩
      simp only [hBB] at hsu
      have hsf : suffS c (s1, s2) = B := hBB
      rw [hsf] at HFN HFS
      have HS := Lib.hid hsu
      clear hsu hs hBB hsf mem
      cases B with
      | false =>
        go_wp2_with (first | (go_at_call 62; refine (HS.out _ (by (with_reducible (repeat (first | exact Ext.refl _ | assumption | apply Ext.alloc | apply Ext.drew | exact ext_plus _ _ | (apply Ext.setCell; rotate_left; (simp <;> omega)) | (apply Ext.trans; rotate_left; exact ext_plus _ _) | (apply Ext.trans; rotate_left; assumption)))))).mono ?_; rintro e w2 ⟨rfl, hb2⟩))
        go_roundw
        case rel => exact ⟨k + 1, by omega, by go_num, HFN.out (by first | rfl | trivial), (hb.alloc _).ext hb2, by (with_reducible (repeat (first | exact Ext.refl _ | assumption | apply Ext.alloc | apply Ext.drew | exact ext_plus _ _ | (apply Ext.setCell; rotate_left; (simp <;> omega)) | (apply Ext.trans; rotate_left; exact ext_plus _ _) | (apply Ext.trans; rotate_left; assumption))))⟩
        case measure => simp [intOf]; omega
      | true =>
        go_wp2_with (first | (go_at_call 62; refine (HS.out _ (by (with_reducible (repeat (first | exact Ext.refl _ | assumption | apply Ext.alloc | apply Ext.drew | exact ext_plus _ _ | (apply Ext.setCell; rotate_left; (simp <;> omega)) | (apply Ext.trans; rotate_left; exact ext_plus _ _) | (apply Ext.trans; rotate_left; assumption)))))).mono ?_; rintro e w2 ⟨rfl, hb2⟩; have hx1 := Blk.ext (Blk.new wr #[.int .i64 s1, .int .i64 s2] 86) hb2; have k0 := hx1.cell; have k1 := hx1.lt; have hz := (hb.alloc (.cells #[.int .i64 s1, .int .i64 s2] 86)).ext hb2; have k2 := hz.cell; have k3 := hz.lt; have k4 := hz.free))
        have hzz := (hz.set 0 (.int .i64 s1)).set 1 (.int .i64 s2)
        have q0 := hzz.cell 0
        have q1 := hzz.cell 1
        have hE2 : Ext w w2 := by (with_reducible (repeat (first | exact Ext.refl _ | assumption | apply Ext.alloc | apply Ext.drew | exact ext_plus _ _ | (apply Ext.setCell; rotate_left; (simp <;> omega)) | (apply Ext.trans; rotate_left; exact ext_plus _ _) | (apply Ext.trans; rotate_left; assumption))))
        have hE9 : Ext w ((w2.setCell ⟨w.heap.size, 0, none⟩ (.int .i64 s1)).setCell ⟨w.heap.size, 1, none⟩ (.int .i64 s2)) := (hE2.setCell (p := ⟨w.heap.size, 0, none⟩) (Nat.le_refl _) _).setCell (p := ⟨w.heap.size, 1, none⟩) (Nat.le_refl _) _
        refine bodyPost_ret (v := .tuple #[.agg #[.int .i64 s1, .int .i64 s2], .bool true]) (by simp [results, Try.results61, go_sem, *]) rfl ⟨by rw [HFS.out (by first | rfl | trivial)]; rfl, hE9⟩
    · obtain rfl : N = k := by omega
      have hall : (L.take N).find? (suffS c) = L.find? (suffS c) := by rw [List.take_of_length_le (by omega)]
      rw [hall] at HFI
      have k2 := hb.cell
      have k3 := hb.lt
      have k4 := hb.free
      go_wp2
      have hzz := ((hb.alloc (.cells #[.int .i64 0, .int .i64 0] 86)).set 0 (.int .i64 0)).set 1 (.int .i64 0)
      refine bodyPost_ret (v := .tuple #[.agg #[.int .i64 0, .int .i64 0], .bool false]) (by simp [results, Try.results61, go_sem, *]) rfl ⟨by rw [HFI.out]; rfl, ?_⟩
      (with_reducible (repeat (first | exact Ext.refl _ | assumption | apply Ext.alloc | apply Ext.drew | exact ext_plus _ _ | (apply Ext.setCell; rotate_left; (simp <;> omega)) | (apply Ext.trans; rotate_left; exact ext_plus _ _) | (apply Ext.trans; rotate_left; assumption))))
/-- The first n of all panels and batteries. -/
def stores (n : Nat) : List (Int × Int) := (List.range n).map fun i => (((i / 9 : Nat) : Int), ((i % 9 : Nat) : Int))
theorem stores_succ (n : Nat) : stores (n + 1) = stores n ++ [(((n / 9 : Nat) : Int), ((n % 9 : Nat) : Int))] := by
  unfold stores; rw [List.range_succ, List.map_append]; rfl
theorem stores_len (n : Nat) : (stores n).length = n := by simp [stores]
theorem stores_range {s : Int × Int} (h : s ∈ stores 117) : inRange s := by
  unfold stores at h
  obtain ⟨i, hi, rfl⟩ := List.mem_map.1 h
  have := List.mem_range.1 hi
  unfold inRange
  dsimp only
  omega
theorem stores_new (n : Nat) : (((n / 9 : Nat) : Int), ((n % 9 : Nat) : Int)) ∉ stores n := by
  intro h
  unfold stores at h
  obtain ⟨i, hi, he⟩ := List.mem_map.1 h
  have h1 := List.mem_range.1 hi
  have h2 : i / 9 = n / 9 ∧ i % 9 = n % 9 := by simp at he; omega
  omega
theorem stores_mem {s : Int × Int} (h : inRange s) : s ∈ stores 117 := by
  unfold stores
  obtain ⟨s1, s2⟩ := s
  unfold inRange at h
  dsimp only at h
  refine List.mem_map.2 ⟨(s1 * 9 + s2).toNat, List.mem_range.2 (by omega), ?_⟩
  rw [Prod.mk.injEq]
  omega
def rankS (s : Int × Int) : Nat := (s.1 * 9 + s.2).toNat
theorem stores_rank (n : Nat) : (stores n).Pairwise fun x y => rankS x < rankS y := by
  unfold stores
  rw [List.pairwise_map]
  refine List.Pairwise.imp ?_ List.pairwise_lt_range
  intro a b h
  unfold rankS
  dsimp only
  omega
end Go.Proofs.Ytkjoojmlcjmlgaa
