/- fault: the first weather that lets a load down. Fault, as it is asked. -/
import Derived.Test.YtkjoojmlcjmlgaaG2
namespace Go.Proofs.Ytkjoojmlcjmlgaa
set_option linter.unusedVariables false
set_option linter.unusedSimpArgs false
open Go.RowKit Go.Shelf
attribute [local go_sem] Oper.semAt_some
/-- A post of a body that ends by 'return' alone. -/
def OnRet (R : Act → World → Prop) : Exit → Act → World → Prop
  | .ret, a, w => R a w
  | _, _, _ => False
theorem wp_scope_ret {P : Program} {c : Code} {Q : Exit → Act → World → Prop} {a : Act} {w : World} (h : ∀ R : Act → World → Prop, (∀ a w, Q .ret a w → R a w) → c.wp P (OnRet R) a w) : (Code.scope c).wp P Q a w := by
  refine wp_scope_straight (Code.wp_mono ?_ (h (fun a w => Q .ret a w) fun _ _ q => q))
  intro e a w hq
  cases e <;> first | exact hq | exact hq.elim
theorem weathers_len {c : C.Sys} {t : C.Txt} (h : t ∈ C.weathers c) : t.length = c.days.toNat := by
  unfold C.weathers C.texts at h
  obtain ⟨k, _, rfl⟩ := List.mem_map.1 (List.mem_filter.1 h).1
  exact textOf_len _ _
/-- What a weather says: the first load that it lets down. -/
def faultOf (c : C.Sys) (p b off : Int) (t : C.Txt) : Option (C.Txt × Nat × Nat) := (C.firstDown c (C.run c p b off t)).map fun x => (t, x.1, x.2)
theorem fault_eq (c : C.Sys) (p b off : Int) : C.fault c p b off = (C.weathers c).findSome? (faultOf c p b off) := rfl
def faultV : Option (C.Txt × Nat × Nat) → Array Value
  | none => #[.string ⟨#[]⟩, .int .i64 0, .int .i64 0]
  | some x => #[.string ⟨x.1.toArray⟩, .int .i64 (x.2.1 : Int), .int .i64 (x.2.2 : Int)]
theorem findSome_snoc_none {α β : Type} {f : α → Option β} {l : List α} {x : α} (h : l.findSome? f = none) (hx : f x = none) : (l ++ [x]).findSome? f = none := by
  rw [List.findSome?_append, h]; simp [hx]
theorem findSome_pre {α β : Type} {f : α → Option β} {l m : List α} {x : α} {r : β} (h : l.findSome? f = none) (hx : f x = some r) (hp : l ++ [x] <+: m) : m.findSome? f = some r := by
  obtain ⟨t, rfl⟩ := hp
  rw [List.append_assoc, List.findSome?_append, h]
  simp [hx]
theorem str_of {s : ByteArray} : (⟨s.data.toList.toArray⟩ : ByteArray) = s := by cases s; simp
set_option maxRecDepth 100000 in
set_option maxHeartbeats 16000000 in
theorem fault_any (c : C.Sys) (vl : Value) (p b off : Int) (w : World) (O : C.Ok c) (hp0 : 0 ≤ p) (hp1 : p ≤ 12) (h2' : 0 ≤ b) (h3' : b ≤ 8) (ho0 : 0 ≤ off) (ho1 : off < 2 ^ c.loads.length) (hLs : Loads w vl c.loads) :
    Calls Try.prog 57 #[.agg (sysV c vl), .agg #[.int .i64 p, .int .i64 b], .int .i64 off] w fun e w' => e = .returned (.tuple #[.agg (faultV (C.fault c p b off)), .bool (C.fault c p b off).isSome]) ∧ Ext w w' := by
  have hLs' := hLs
  obtain ⟨al, cl, rfl, _⟩ := hLs'
  have hru := fun (x : Wt c) w' => run_any c (.slice al c.loads.length cl) ⟨_, _, _, rfl⟩ p b off x.1 w' O h2' h3'
  have hfa := fun (x : Wt c) br Y w' (hLY : Loads Y (.slice al c.loads.length cl) c.loads) hbr0 hE0 hb => fails_any c (.slice al c.loads.length cl) p b off x.1 br Y w' O hp0 hp1 h2' h3' ho0 ho1 (weathers_len x.2) hbr0 hLY hE0 hb
  have hwe := fun w' => weathers_any c (.slice al c.loads.length cl) ⟨_, _, _, rfl⟩ w'
  have HRU := Lib.hid hru
  have HFA := Lib.hid hfa
  have HWE := Lib.hid hwe
  have HO := Lib.hid O
  clear hru hfa hwe O ho1
  refine (callsIn_wide (n := 5)).1 ?_
  refine callsIn_of_wp_marks Try.func57 rfl trivial ?_ rfl
  simp only [Try.ntmps57, List.size_toArray, List.length_cons, List.length_nil, Nat.reduceAdd, Nat.reduceSub, Array.replicate_succ, Array.replicate_zero, List.push_toArray, List.append_toArray, List.nil_append, List.cons_append]
  refine wpIn_wide.2 ?_
  go_wp2
  refine wp_scope_ret fun RR hR' => ?_
  go_wp2
  go_step3
  go_upto_region 3 with (fail)
  obtain ⟨w1, hw1⟩ : ∃ w1, ((((((w.alloc (.cells (sysV c (.slice al c.loads.length cl)) 24)).alloc (.cells #[.int .i64 p, .int .i64 b] 86)).alloc (.cells #[.int .i64 off] 3)).alloc (.cells #[.string ⟨#[]⟩, .int .i64 0, .int .i64 0] 62)).alloc (.cells #[.string ⟨#[]⟩, .int .i64 0, .int .i64 0] 62)).alloc (.cells #[.bool false] 4)) = w1 := ⟨_, rfl⟩
  have hs0 : Blk w1 (w.heap.size) (sysV c (.slice al c.loads.length cl)) 24 := by rw [← hw1]; exact (((((Blk.new' rfl _ _).alloc _).alloc _).alloc _).alloc _).alloc _
  have hs1 : Blk w1 (w.heap.size + 1) #[.int .i64 p, .int .i64 b] 86 := by rw [← hw1]; exact ((((Blk.new' (by simp) _ _).alloc _).alloc _).alloc _).alloc _
  have hs2 : Blk w1 (w.heap.size + 1 + 1) #[.int .i64 off] 3 := by rw [← hw1]; exact (((Blk.new' (by simp) _ _).alloc _).alloc _).alloc _
  have hs3 : Blk w1 (w.heap.size + 1 + 1 + 1) #[.string ⟨#[]⟩, .int .i64 0, .int .i64 0] 62 := by rw [← hw1]; exact ((Blk.new' (by simp) _ _).alloc _).alloc _
  have hs4 : Blk w1 (w.heap.size + 1 + 1 + 1 + 1) #[.string ⟨#[]⟩, .int .i64 0, .int .i64 0] 62 := by rw [← hw1]; exact (Blk.new' (by simp) _ _).alloc _
  have hs5 : Blk w1 (w.heap.size + 1 + 1 + 1 + 1 + 1) #[.bool false] 4 := by rw [← hw1]; exact Blk.new' (by simp) _ _
  have hE1 : Ext w w1 := by rw [← hw1]; (with_reducible (repeat (first | exact Ext.refl _ | assumption | apply Ext.alloc | apply Ext.drew | exact ext_plus _ _ | (apply Ext.setCell; rotate_left; (simp <;> omega)) | (apply Ext.trans; rotate_left; exact ext_plus _ _) | (apply Ext.trans; rotate_left; assumption))))
  have hz1 : w.heap.size + 6 = w1.heap.size := by rw [← hw1]; simp
  rw [hw1]
  clear hw1
  have s0 := hs0.cell
  have s1 := hs0.lt
  go_wp2_with (first | (go_at_call 54; refine (HWE.out _).mono ?_; rintro e w2 ⟨rfl, hbx, hb⟩))
  have hE2 := hE1.trans hb
  have t0 := hs0.ext hb
  have t1 := hs1.ext hb
  have t2 := hs2.ext hb
  have t3 := hs3.ext hb
  have t4 := hs4.ext hb
  have t5 := hs5.ext hb
  have hz2 := hb.size
  obtain ⟨n0, hn0⟩ : ∃ n0, w.heap.size = n0 := ⟨_, rfl⟩
  obtain ⟨bx, hbxx⟩ : ∃ bx, w1.heap.size = bx := ⟨_, rfl⟩
  rw [hbxx] at hbx hz1 hz2 ⊢
  rw [hn0] at hz1 t0 t1 t2 t3 t4 t5 ⊢
  clear hs0 hs1 hs2 hs3 hs4 hs5 s0 s1 hb hE1 hbxx
  have hbl := hbx.lt
  refine (wpIn_wide (n := 5)).1 ?_
  have hK := (Keep1.rec_ (n := w.heap.size) (b := bx) (w := w2) hE2.size hbl)
  refine' wpIn_rangeFunc_ownF rfl (by omega) (gf := 74) (lb := _) rfl trivial (enters_of Try.func74 (by kernel_rfl) rfl)
    (weathers_stops c (.slice al c.loads.length cl) ⟨_, _, _, rfl⟩ HO.out w w2 hE2 bx 4 (by omega) hbx) Keep1.trans hK (Below.refl _ _) (fun _ => rfl)
    (fun pre Y => ((pre.map Wt.txt).findSome? (faultOf c p b off) = none ∧ Blk Y n0 (sysV c (.slice al c.loads.length cl)) 24 ∧ Blk Y (n0 + 1) #[.int .i64 p, .int .i64 b] 86 ∧ Blk Y (n0 + 1 + 1) #[.int .i64 off] 3 ∧ Blk Y (n0 + 1 + 1 + 1) #[.string ⟨#[]⟩, .int .i64 0, .int .i64 0] 62 ∧ Blk Y (n0 + 1 + 1 + 1 + 1) #[.string ⟨#[]⟩, .int .i64 0, .int .i64 0] 62 ∧ Blk Y (n0 + 1 + 1 + 1 + 1 + 1) #[.bool false] 4 ∧ Blk Y bx (sysV c (.slice al c.loads.length cl)) 24) ∧ Ext w Y)
    (fun cd pre Y => (cd = .exit 0 ∧ ∃ pre' x r, pre = pre' ++ [x] ∧ (pre'.map Wt.txt).findSome? (faultOf c p b off) = none ∧ faultOf c p b off x.txt = some r ∧ Blk Y (n0 + 1 + 1 + 1) #[.string ⟨#[]⟩, .int .i64 0, .int .i64 0] 62 ∧ Blk Y (n0 + 1 + 1 + 1 + 1) (faultV (some r)) 62 ∧ Blk Y (n0 + 1 + 1 + 1 + 1 + 1) #[.bool true] 4) ∧ Ext w Y)
    ?own ?ownx ⟨⟨rfl, t0, t1, t2, t3, t4, t5, hbx⟩, hE2⟩ _ ?assign ?body ?done ?stop
  case own =>
    refine OwnFrom.and (fun pre A B row h hg hr => ?_) (ownFrom_below (Nat.le_refl _) hE2.size)
    obtain ⟨g1, g2, g3, g4, g5, g6, g7, g8⟩ := h
    have hr' := fun r e => (hr r e).2
    exact ⟨g1, g2.kept hg hr', g3.kept hg hr', g4.kept hg hr', g5.kept hg hr', g6.kept hg hr', g7.kept hg hr', g8.kept hg hr'⟩
  case ownx =>
    intro cd
    refine OwnFrom.and (fun pre A B row h hg hr => ?_) (ownFrom_below (Nat.le_refl _) hE2.size)
    obtain ⟨rfl, pre', x, r, g1, g2, g3, g4, g5, g6⟩ := h
    have hr' := fun r e => (hr r e).2
    exact ⟨rfl, pre', x, r, g1, g2, g3, g4.kept hg hr', g5.kept hg hr', g6.kept hg hr'⟩
  case assign =>
    intro l x Y K hK
    simp only [encW]
    gi_wp2
    exact hK
  case body =>
    rintro l pre x Y ⟨⟨g1, g2, g3, g4, g5, g6, g7, g8⟩, hEY⟩ hlen
    have hLY := hLs.ext hEY
    have k0 := g2.cell
    have k1 := g2.lt
    have k2 := g3.cell
    have k3 := g3.lt
    have k4 := g4.cell
    have k5 := g4.lt
    have hbxY : n0 + 6 ≤ Y.heap.size := by have := g7.lt; omega
    have G1 := Lib.hid g1
    clear g1
    obtain ⟨S, hS⟩ : ∃ S, C.firstDown c (C.run c p b off x.1.data.toList) = S := ⟨_, rfl⟩
    have hfx : faultOf c p b off x.txt = S.map fun y => (x.txt, y.1, y.2) := by rw [← hS]; rfl
    have HFX := Lib.hid hfx
    have hfa := HFA.out x
    simp only [hS] at hfa
    have HFA2 := Lib.hid hfa
    clear hfa hfx hS
    cases S with
    | none =>
      gi_wp2_with (first | (refine ⟨trivial, ?_⟩; gi_at_call 51; refine (callsIn_wide.2 (HRU.out x _)).mono ?_; rintro e w4 ⟨br, rfl, hbr, hbrge, hb4⟩) | (refine ⟨trivial, ?_⟩; gi_at_call 76; refine (callsIn_wide.2 (HFA2.out br Y _ hLY hbrge hb4 hbr)).mono ?_; rintro e w5 ⟨rfl, hb5⟩))
      have hEz : Ext Y (w5.alloc (.cells #[.int .i64 (downP none).1, .int .i64 (downP none).2] 126)) := hb5.alloc _
      refine ⟨KeepsOthers.of_grownBy hEz.grownBy (fun j o e => by cases e), ⟨Below.mono hEz hEY.size, hEz.block bx g8.lt⟩, ⟨?_, g2.ext hEz, g3.ext hEz, g4.ext hEz, g5.ext hEz, g6.ext hEz, g7.ext hEz, g8.ext hEz⟩, hEY.trans hEz⟩
      rw [List.map_append]
      exact findSome_snoc_none G1.out HFX.out
    | some r =>
      obtain ⟨d, i⟩ := r
      gi_wp2_with (first | (refine ⟨trivial, ?_⟩; gi_at_call 51; refine (callsIn_wide.2 (HRU.out x _)).mono ?_; rintro e w4 ⟨br, rfl, hbr, hbrge, hb4⟩) | (refine ⟨trivial, ?_⟩; gi_at_call 76; refine (callsIn_wide.2 (HFA2.out br Y _ hLY hbrge hb4 hbr)).mono ?_; rintro e w5 ⟨rfl, hb5⟩; have e0 := (g6.ext hb5).lt; have e1 := (g7.ext hb5).lt; have e2 := (g6.ext hb5).free; have e3 := (g7.ext hb5).free; have e4 := (g6.ext hb5).cell; have e5 := (g7.ext hb5).cell))
      have hE9 : Ext w w5 := hEY.trans hb5
      have h6 : Blk (((((w5.setCell ⟨n0 + 1 + 1 + 1 + 1, 0, none⟩ (.string x.1)).setCell ⟨n0 + 1 + 1 + 1 + 1, 1, none⟩ (.int .i64 (downP (some (d, i))).1)).setCell ⟨n0 + 1 + 1 + 1 + 1, 2, none⟩ (.int .i64 (downP (some (d, i))).2)).setCell ⟨n0 + 1 + 1 + 1 + 1 + 1, 0, none⟩ (.bool true)).alloc (.cells #[.int .i64 (downP (some (d, i))).1, .int .i64 (downP (some (d, i))).2] 126)) (n0 + 1 + 1 + 1 + 1) (faultV (some (x.txt, d, i))) 62 := by
        refine Blk.alloc (Blk.other ?_ (by simp) _) _
        have h := (((g6.ext hb5).set 0 (.string x.1)).set 1 (.int .i64 (downP (some (d, i))).1)).set 2 (.int .i64 (downP (some (d, i))).2)
        have e9 : faultV (some (x.txt, d, i)) = #[.string x.1, .int .i64 (downP (some (d, i))).1, .int .i64 (downP (some (d, i))).2] := by
          show #[Value.string ⟨x.1.data.toList.toArray⟩, _, _] = _
          rw [str_of]; rfl
        rw [e9]
        simpa using h
      have h7 : Blk (((((w5.setCell ⟨n0 + 1 + 1 + 1 + 1, 0, none⟩ (.string x.1)).setCell ⟨n0 + 1 + 1 + 1 + 1, 1, none⟩ (.int .i64 (downP (some (d, i))).1)).setCell ⟨n0 + 1 + 1 + 1 + 1, 2, none⟩ (.int .i64 (downP (some (d, i))).2)).setCell ⟨n0 + 1 + 1 + 1 + 1 + 1, 0, none⟩ (.bool true)).alloc (.cells #[.int .i64 (downP (some (d, i))).1, .int .i64 (downP (some (d, i))).2] 126)) (n0 + 1 + 1 + 1 + 1 + 1) #[.bool true] 4 := by
        refine Blk.alloc ?_ _
        have h := ((((g7.ext hb5).other (a := ⟨n0 + 1 + 1 + 1 + 1, 0, none⟩) (by simp) (.string x.1)).other (a := ⟨n0 + 1 + 1 + 1 + 1, 1, none⟩) (by simp) (.int .i64 (downP (some (d, i))).1)).other (a := ⟨n0 + 1 + 1 + 1 + 1, 2, none⟩) (by simp) (.int .i64 (downP (some (d, i))).2)).set 0 (.bool true)
        simpa using h
      have h5 : Blk (((((w5.setCell ⟨n0 + 1 + 1 + 1 + 1, 0, none⟩ (.string x.1)).setCell ⟨n0 + 1 + 1 + 1 + 1, 1, none⟩ (.int .i64 (downP (some (d, i))).1)).setCell ⟨n0 + 1 + 1 + 1 + 1, 2, none⟩ (.int .i64 (downP (some (d, i))).2)).setCell ⟨n0 + 1 + 1 + 1 + 1 + 1, 0, none⟩ (.bool true)).alloc (.cells #[.int .i64 (downP (some (d, i))).1, .int .i64 (downP (some (d, i))).2] 126)) (n0 + 1 + 1 + 1) #[.string ⟨#[]⟩, .int .i64 0, .int .i64 0] 62 :=
        Blk.alloc (Blk.other (Blk.other (Blk.other (Blk.other (g5.ext hb5) (by simp) _) (by simp) _) (by simp) _) (by simp <;> omega) _) _
      have hE8 : Ext w (((((w5.setCell ⟨n0 + 1 + 1 + 1 + 1, 0, none⟩ (.string x.1)).setCell ⟨n0 + 1 + 1 + 1 + 1, 1, none⟩ (.int .i64 (downP (some (d, i))).1)).setCell ⟨n0 + 1 + 1 + 1 + 1, 2, none⟩ (.int .i64 (downP (some (d, i))).2)).setCell ⟨n0 + 1 + 1 + 1 + 1 + 1, 0, none⟩ (.bool true)).alloc (.cells #[.int .i64 (downP (some (d, i))).1, .int .i64 (downP (some (d, i))).2] 126)) :=
        ((((hE9.setCell (p := ⟨n0 + 1 + 1 + 1 + 1, 0, none⟩) (by simp; omega) _).setCell (p := ⟨n0 + 1 + 1 + 1 + 1, 1, none⟩) (by simp; omega) _).setCell (p := ⟨n0 + 1 + 1 + 1 + 1, 2, none⟩) (by simp; omega) _).setCell (p := ⟨n0 + 1 + 1 + 1 + 1 + 1, 0, none⟩) (by simp; omega) _).alloc _
      refine ⟨(KeepsOthers.of_grownBy hb5.grownBy (fun j o e => by cases e)).trans (((((KeepsOthers.setCell _ _ _).trans (KeepsOthers.setCell _ _ _)).trans (KeepsOthers.setCell _ _ _)).trans (KeepsOthers.setCell _ _ _)).trans (KeepsOthers.alloc _ _)), ⟨rfl, pre, x, (x.txt, d, i), rfl, G1.out, HFX.out, h5, h6, h7⟩, hE8⟩
  case done =>
    rintro D ys Y hD hS ⟨⟨g1, g2, g3, g4, g5, g6, g7, g8⟩, hEY⟩ hK
    have hF : C.fault c p b off = none := by rw [fault_eq, ← hS]; exact g1
    have HF := Lib.hid hF
    have hR2 := Lib.hid hR'
    clear g2 g3 g4 g8 hS g1 hF hR'
    go_upto_region 8 with (fail)
    have hbd := g6.drew
    have hfd := g7.drew
    have hod := g5.drew
    have hSM : ∀ y : World, (fun cc (y : World) => (y.cell? ⟨n0 + 1 + 1 + 1 + 1 + 1, 0, none⟩ = some (.bool false)) ∧ (n0 + 1 + 1 + 1 + 1 + 1 < y.heap.size) ∧ (cc = false → (∀ o, y.cell? ⟨n0 + 1 + 1 + 1 + 1, o, none⟩ = (faultV (none) : Array Value)[o]?) ∧ n0 + 1 + 1 + 1 + 1 < y.heap.size)) false y → (fun cc (y : World) => (y.cell? ⟨n0 + 1 + 1 + 1 + 1 + 1, 0, none⟩ = some (.bool false)) ∧ (n0 + 1 + 1 + 1 + 1 + 1 < y.heap.size) ∧ (cc = false → (∀ o, y.cell? ⟨n0 + 1 + 1 + 1 + 1, o, none⟩ = (faultV (none) : Array Value)[o]?) ∧ n0 + 1 + 1 + 1 + 1 < y.heap.size)) true y := fun y hy => ⟨hy.1, hy.2.1, fun e => by cases e⟩
    refine wp_region_late 2 (fun cc y => (y.cell? ⟨n0 + 1 + 1 + 1 + 1 + 1, 0, none⟩ = some (.bool false)) ∧ (n0 + 1 + 1 + 1 + 1 + 1 < y.heap.size) ∧ (cc = false → (∀ o, y.cell? ⟨n0 + 1 + 1 + 1 + 1, o, none⟩ = (faultV (none) : Array Value)[o]?) ∧ n0 + 1 + 1 + 1 + 1 < y.heap.size)) (by kernel_rfl) (fun hL => ?_)
    refine late_early (i := 0) (v := ?_) rfl (by kernel_rfl) (by kernel_rfl) (by kernel_rfl) (by decide) (by kernel_rfl) (fun _ _ _ h => h) hL (Or.inl ⟨by rfl, ?_⟩) ⟨hfd.cell 0, hfd.lt, fun _ => ⟨hbd.cell, hbd.lt⟩⟩ (fun hL' => ?_)
    rotate_left
    · intro y hy; obtain ⟨_, _, hz⟩ := hy; have hz2 := hz rfl; clear hz; obtain ⟨z1, z2⟩ := hz2; unfold faultV at z1; go_simp; (try with_reducible rfl)
    clear hL; rename Shutb _ _ => hL
    (try simp only [Act.put, List.getElem_toArray, List.getElem_cons_zero, List.getElem_cons_succ, List.setIfInBounds_toArray, List.set_cons_zero, List.set_cons_succ])
    refine late_late (i := 1) (v := ?_) rfl (by kernel_rfl) (by kernel_rfl) (by kernel_rfl) (by decide) hSM (fun _ _ _ h => h) hL (Or.inl ⟨by rfl, ?_⟩) ⟨hfd.cell 0, hfd.lt, fun _ => ⟨hbd.cell, hbd.lt⟩⟩ (fun hL' => ?_)
    rotate_left
    · intro y hy; obtain ⟨z1, z2, _⟩ := hy; go_simp; (try with_reducible rfl)
    clear hL; rename Shutb _ _ => hL
    (try simp only [Act.put, List.getElem_toArray, List.getElem_cons_zero, List.getElem_cons_succ, List.setIfInBounds_toArray, List.set_cons_zero, List.set_cons_succ])
    have o0 := g5.cell
    have o1 := g5.lt
    have o2 := g5.free
    have hfo := (((g7.other (a := ⟨n0 + 1 + 1 + 1, 0, none⟩) (by simp) (.string ⟨#[]⟩)).other (a := ⟨n0 + 1 + 1 + 1, 1, none⟩) (by simp) (.int .i64 0)).other (a := ⟨n0 + 1 + 1 + 1, 2, none⟩) (by simp) (.int .i64 0)).drew
    refine late_one (i := 2) (by kernel_rfl) hL (fun hL' => ?_)
    refine wpOp_step rfl (fun K hK0 => ?_)
    have hKK : Shut _ := hK0
    clear hK0
    go_simp
    refine hKK.out _ _ ⟨⟨hfo.cell 0, hfo.lt, fun e => by cases e⟩, ?_⟩
    clear hKK K; clear hL; rename Shutb _ _ => hL
    (try simp only [Act.put, List.getElem_toArray, List.getElem_cons_zero, List.getElem_cons_succ, List.setIfInBounds_toArray, List.set_cons_zero, List.set_cons_succ])
    refine late_one (i := 3) (by kernel_rfl) hL (fun hL' => ?_)
    refine wpOp_step rfl (fun K hK0 => ?_)
    have hKK : Shut _ := hK0
    clear hK0
    go_simp
    refine hKK.out _ _ ⟨⟨hfo.cell 0, hfo.lt, fun e => by cases e⟩, ?_⟩
    clear hKK K; clear hL; rename Shutb _ _ => hL
    (try simp only [Act.put, List.getElem_toArray, List.getElem_cons_zero, List.getElem_cons_succ, List.setIfInBounds_toArray, List.set_cons_zero, List.set_cons_succ])
    refine late_done (by kernel_rfl) ?_
    (try dsimp only [Exit.then])
    have ho5 : Blk (((Y.setCell ⟨n0 + 1 + 1 + 1, 0, none⟩ (.string ⟨#[]⟩)).setCell ⟨n0 + 1 + 1 + 1, 1, none⟩ (.int .i64 0)).setCell ⟨n0 + 1 + 1 + 1, 2, none⟩ (.int .i64 0)).drew (n0 + 1 + 1 + 1) #[.string ⟨#[]⟩, .int .i64 0, .int .i64 0] 62 := by refine Blk.drew ?_; simpa using (((g5.set 0 (.string ⟨#[]⟩)).set 1 (.int .i64 0)).set 2 (.int .i64 0))
    have hE5 : Ext w (((Y.setCell ⟨n0 + 1 + 1 + 1, 0, none⟩ (.string ⟨#[]⟩)).setCell ⟨n0 + 1 + 1 + 1, 1, none⟩ (.int .i64 0)).setCell ⟨n0 + 1 + 1 + 1, 2, none⟩ (.int .i64 0)).drew := (((hEY.setCell (p := ⟨n0 + 1 + 1 + 1, 0, none⟩) (by simp; omega) _).setCell (p := ⟨n0 + 1 + 1 + 1, 1, none⟩) (by simp; omega) _).setCell (p := ⟨n0 + 1 + 1 + 1, 2, none⟩) (by simp; omega) _).drew
    have hK5 : (((Y.setCell ⟨n0 + 1 + 1 + 1, 0, none⟩ (.string ⟨#[]⟩)).setCell ⟨n0 + 1 + 1 + 1, 1, none⟩ (.int .i64 0)).setCell ⟨n0 + 1 + 1 + 1, 2, none⟩ (.int .i64 0)).drew.heap[D]? = some (.deferred (some [])) := (Below.heap_setCell _ _ _ _ (by simp; omega)).trans ((Below.heap_setCell _ _ _ _ (by simp; omega)).trans ((Below.heap_setCell _ _ _ _ (by simp; omega)).trans hK))
    obtain ⟨Y5, hY5⟩ : ∃ Y5, (((Y.setCell ⟨n0 + 1 + 1 + 1, 0, none⟩ (.string ⟨#[]⟩)).setCell ⟨n0 + 1 + 1 + 1, 1, none⟩ (.int .i64 0)).setCell ⟨n0 + 1 + 1 + 1, 2, none⟩ (.int .i64 0)).drew = Y5 := ⟨_, rfl⟩
    rw [hY5] at ho5 hE5 hK5 ⊢
    clear hY5
    go_wp2
    refine hR2.out _ _ ?_
    have hB5 : Blk (Y5.putObj D (.deferred none)) (n0 + 1 + 1 + 1) #[.string ⟨#[]⟩, .int .i64 0, .int .i64 0] 62 := ((grownBy_putObj' Y5 D _).block _ ho5.lt (by simp; omega)).trans ho5
    have q0 := hB5.cell
    have q1 := hB5.lt
    refine ⟨by simp, .inl ⟨_, _, rfl, run_takeDeferred hK5, ?_⟩⟩
    rw [HF.out]
    refine ⟨.tuple #[.agg #[.string ⟨#[]⟩, .int .i64 0, .int .i64 0], .bool false], by simp [results, Try.results57, go_sem, q0, q1], rfl, ?_⟩
    exact Below.trans hE5 (belowK_b (w := w) (Nat.le_refl _) Y5 D _ _ (by have := hE2.size; omega) hK5 rfl rfl)
  case stop =>
    rintro D cd pre Y hD hSp ⟨⟨rfl, pre', x, r, rfl, g1, g2, g5, g6, g7⟩, hEY⟩ hK
    have hF : C.fault c p b off = some r := by
      rw [fault_eq]
      refine findSome_pre g1 g2 ?_
      rw [List.map_append] at hSp
      exact hSp
    have HF := Lib.hid hF
    refine wpIn_wide.2 ?_
    have hR2 := Lib.hid hR'
    clear hSp g1 g2 hF hR'
    go_upto_region 8 with (fail)
    have hbd := g6.drew
    have hfd := g7.drew
    have hod := g5.drew
    have hSM : ∀ y : World, (fun cc (y : World) => (y.cell? ⟨n0 + 1 + 1 + 1 + 1 + 1, 0, none⟩ = some (.bool true)) ∧ (n0 + 1 + 1 + 1 + 1 + 1 < y.heap.size) ∧ (cc = false → (∀ o, y.cell? ⟨n0 + 1 + 1 + 1 + 1, o, none⟩ = (faultV (some r) : Array Value)[o]?) ∧ n0 + 1 + 1 + 1 + 1 < y.heap.size)) false y → (fun cc (y : World) => (y.cell? ⟨n0 + 1 + 1 + 1 + 1 + 1, 0, none⟩ = some (.bool true)) ∧ (n0 + 1 + 1 + 1 + 1 + 1 < y.heap.size) ∧ (cc = false → (∀ o, y.cell? ⟨n0 + 1 + 1 + 1 + 1, o, none⟩ = (faultV (some r) : Array Value)[o]?) ∧ n0 + 1 + 1 + 1 + 1 < y.heap.size)) true y := fun y hy => ⟨hy.1, hy.2.1, fun e => by cases e⟩
    refine wp_region_late 2 (fun cc y => (y.cell? ⟨n0 + 1 + 1 + 1 + 1 + 1, 0, none⟩ = some (.bool true)) ∧ (n0 + 1 + 1 + 1 + 1 + 1 < y.heap.size) ∧ (cc = false → (∀ o, y.cell? ⟨n0 + 1 + 1 + 1 + 1, o, none⟩ = (faultV (some r) : Array Value)[o]?) ∧ n0 + 1 + 1 + 1 + 1 < y.heap.size)) (by kernel_rfl) (fun hL => ?_)
    refine late_early (i := 0) (v := ?_) rfl (by kernel_rfl) (by kernel_rfl) (by kernel_rfl) (by decide) (by kernel_rfl) (fun _ _ _ h => h) hL (Or.inl ⟨by rfl, ?_⟩) ⟨hfd.cell 0, hfd.lt, fun _ => ⟨hbd.cell, hbd.lt⟩⟩ (fun hL' => ?_)
    rotate_left
    · intro y hy; obtain ⟨_, _, hz⟩ := hy; have hz2 := hz rfl; clear hz; obtain ⟨z1, z2⟩ := hz2; unfold faultV at z1; go_simp; (try with_reducible rfl)
    clear hL; rename Shutb _ _ => hL
    (try simp only [Act.put, List.getElem_toArray, List.getElem_cons_zero, List.getElem_cons_succ, List.setIfInBounds_toArray, List.set_cons_zero, List.set_cons_succ])
    refine late_late (i := 1) (v := ?_) rfl (by kernel_rfl) (by kernel_rfl) (by kernel_rfl) (by decide) hSM (fun _ _ _ h => h) hL (Or.inl ⟨by rfl, ?_⟩) ⟨hfd.cell 0, hfd.lt, fun _ => ⟨hbd.cell, hbd.lt⟩⟩ (fun hL' => ?_)
    rotate_left
    · intro y hy; obtain ⟨z1, z2, _⟩ := hy; go_simp; (try with_reducible rfl)
    clear hL; rename Shutb _ _ => hL
    (try simp only [Act.put, List.getElem_toArray, List.getElem_cons_zero, List.getElem_cons_succ, List.setIfInBounds_toArray, List.set_cons_zero, List.set_cons_succ])
    have o0 := g5.cell
    have o1 := g5.lt
    have o2 := g5.free
    have hfo := (((g7.other (a := ⟨n0 + 1 + 1 + 1, 0, none⟩) (by simp) (.string ⟨r.1.toArray⟩)).other (a := ⟨n0 + 1 + 1 + 1, 1, none⟩) (by simp) (.int .i64 (r.2.1 : Int))).other (a := ⟨n0 + 1 + 1 + 1, 2, none⟩) (by simp) (.int .i64 (r.2.2 : Int))).drew
    refine late_one (i := 2) (by kernel_rfl) hL (fun hL' => ?_)
    refine wpOp_step rfl (fun K hK0 => ?_)
    have hKK : Shut _ := hK0
    clear hK0
    go_simp
    refine hKK.out _ _ ⟨⟨hfo.cell 0, hfo.lt, fun e => by cases e⟩, ?_⟩
    clear hKK K; clear hL; rename Shutb _ _ => hL
    (try simp only [Act.put, List.getElem_toArray, List.getElem_cons_zero, List.getElem_cons_succ, List.setIfInBounds_toArray, List.set_cons_zero, List.set_cons_succ])
    refine late_one (i := 3) (by kernel_rfl) hL (fun hL' => ?_)
    refine wpOp_step rfl (fun K hK0 => ?_)
    have hKK : Shut _ := hK0
    clear hK0
    go_simp
    refine hKK.out _ _ ⟨⟨hfo.cell 0, hfo.lt, fun e => by cases e⟩, ?_⟩
    clear hKK K; clear hL; rename Shutb _ _ => hL
    (try simp only [Act.put, List.getElem_toArray, List.getElem_cons_zero, List.getElem_cons_succ, List.setIfInBounds_toArray, List.set_cons_zero, List.set_cons_succ])
    refine late_done (by kernel_rfl) ?_
    (try dsimp only [Exit.then])
    have ho5 : Blk (((Y.setCell ⟨n0 + 1 + 1 + 1, 0, none⟩ (.string ⟨r.1.toArray⟩)).setCell ⟨n0 + 1 + 1 + 1, 1, none⟩ (.int .i64 (r.2.1 : Int))).setCell ⟨n0 + 1 + 1 + 1, 2, none⟩ (.int .i64 (r.2.2 : Int))).drew (n0 + 1 + 1 + 1) #[.string ⟨r.1.toArray⟩, .int .i64 (r.2.1 : Int), .int .i64 (r.2.2 : Int)] 62 := by refine Blk.drew ?_; simpa using (((g5.set 0 (.string ⟨r.1.toArray⟩)).set 1 (.int .i64 (r.2.1 : Int))).set 2 (.int .i64 (r.2.2 : Int)))
    have hE5 : Ext w (((Y.setCell ⟨n0 + 1 + 1 + 1, 0, none⟩ (.string ⟨r.1.toArray⟩)).setCell ⟨n0 + 1 + 1 + 1, 1, none⟩ (.int .i64 (r.2.1 : Int))).setCell ⟨n0 + 1 + 1 + 1, 2, none⟩ (.int .i64 (r.2.2 : Int))).drew := (((hEY.setCell (p := ⟨n0 + 1 + 1 + 1, 0, none⟩) (by simp; omega) _).setCell (p := ⟨n0 + 1 + 1 + 1, 1, none⟩) (by simp; omega) _).setCell (p := ⟨n0 + 1 + 1 + 1, 2, none⟩) (by simp; omega) _).drew
    have hK5 : (((Y.setCell ⟨n0 + 1 + 1 + 1, 0, none⟩ (.string ⟨r.1.toArray⟩)).setCell ⟨n0 + 1 + 1 + 1, 1, none⟩ (.int .i64 (r.2.1 : Int))).setCell ⟨n0 + 1 + 1 + 1, 2, none⟩ (.int .i64 (r.2.2 : Int))).drew.heap[D]? = some (.deferred (some [])) := (Below.heap_setCell _ _ _ _ (by simp; omega)).trans ((Below.heap_setCell _ _ _ _ (by simp; omega)).trans ((Below.heap_setCell _ _ _ _ (by simp; omega)).trans hK))
    obtain ⟨Y5, hY5⟩ : ∃ Y5, (((Y.setCell ⟨n0 + 1 + 1 + 1, 0, none⟩ (.string ⟨r.1.toArray⟩)).setCell ⟨n0 + 1 + 1 + 1, 1, none⟩ (.int .i64 (r.2.1 : Int))).setCell ⟨n0 + 1 + 1 + 1, 2, none⟩ (.int .i64 (r.2.2 : Int))).drew = Y5 := ⟨_, rfl⟩
    rw [hY5] at ho5 hE5 hK5 ⊢
    clear hY5
    go_wp2
    refine hR2.out _ _ ?_
    have hB5 : Blk (Y5.putObj D (.deferred none)) (n0 + 1 + 1 + 1) #[.string ⟨r.1.toArray⟩, .int .i64 (r.2.1 : Int), .int .i64 (r.2.2 : Int)] 62 := ((grownBy_putObj' Y5 D _).block _ ho5.lt (by simp; omega)).trans ho5
    have q0 := hB5.cell
    have q1 := hB5.lt
    refine ⟨by simp, .inl ⟨_, _, rfl, run_takeDeferred hK5, ?_⟩⟩
    rw [HF.out]
    refine ⟨.tuple #[.agg #[.string ⟨r.1.toArray⟩, .int .i64 (r.2.1 : Int), .int .i64 (r.2.2 : Int)], .bool true], by simp [results, Try.results57, go_sem, q0, q1], rfl, ?_⟩
    exact Below.trans hE5 (belowK_b (w := w) (Nat.le_refl _) Y5 D _ _ (by have := hE2.size; omega) hK5 rfl rfl)
end Go.Proofs.Ytkjoojmlcjmlgaa
namespace Go.Proofs.Ytkjoojmlcjmlgaa
set_option linter.unusedVariables false
set_option linter.unusedSimpArgs false
open Go.RowKit
/-- Whether a question about a system, panels, batteries and a set is as defined. -/
def givenB (c : C.Sys) (p b off : Int) : Bool := C.sysB c && C.partsB p b && C.offB c off
def faultR (c : C.Sys) (p b off : Int) : Option (C.Txt × Nat × Nat) := if givenB c p b off then C.fault c p b off else none
def faultCode (c : C.Sys) (p b off : Int) : Int := if givenB c p b off then (if (C.fault c p b off).isSome then 0 else 5) else 2
set_option maxRecDepth 100000 in
set_option maxHeartbeats 8000000 in
theorem faultQ_any (c : C.Sys) (vl : Value) (p b off : Int) (w : World) (hL : Loads w vl c.loads) (hn : c.loads.length ≤ 1000000) :
    Calls Try.prog 31 #[.agg (sysV c vl), .int .i64 p, .int .i64 b, .int .i64 off] w fun e w' => e = .returned (.tuple #[.agg (faultV (faultR c p b off)), .int .i64 (faultCode c p b off)]) ∧ Ext w w' := by
  have hL' := hL
  obtain ⟨a, cap, rfl, _⟩ := hL'
  have hgi := fun w' (hx : Ext w w') => given_any c p b off _ w' (hL.ext hx) hn
  unfold faultR faultCode
  have hgb : givenB c p b off = (C.sysB c && C.partsB p b && C.offB c off) := rfl
  obtain ⟨B, hB⟩ : ∃ B, (C.sysB c && C.partsB p b && C.offB c off) = B := ⟨_, rfl⟩
  rw [hgb, hB]
  simp only [hB] at hgi
  have HGI := Lib.hid hgi
  clear hgi hgb
  cases B with
  | false =>
    clear hB
    go_enter Try.func31, Try.ntmps31
    go_wp2_with (first | (go_at_call 49; refine (HGI.out _ (by (with_reducible (repeat (first | exact Ext.refl _ | assumption | apply Ext.alloc | apply Ext.drew | exact ext_plus _ _ | (apply Ext.setCell; rotate_left; (simp <;> omega)) | (apply Ext.trans; rotate_left; exact ext_plus _ _) | (apply Ext.trans; rotate_left; assumption)))))).mono ?_; rintro e w2 ⟨rfl, hb⟩; have hE2 : Ext w w2 := (by (with_reducible (repeat (first | exact Ext.refl _ | assumption | apply Ext.alloc | apply Ext.drew | exact ext_plus _ _ | (apply Ext.setCell; rotate_left; (simp <;> omega)) | (apply Ext.trans; rotate_left; exact ext_plus _ _) | (apply Ext.trans; rotate_left; assumption))))); have hbl := Blk.ext ((Blk.new' (w := (w.alloc (.cells (sysV c (.slice a c.loads.length cap)) 24))) (b := w.heap.size + 1) (by simp) #[.string ⟨#[]⟩, .int .i64 0, .int .i64 0] 62).alloc (.cells #[.int .i64 p, .int .i64 b] 86)) hb; have k0 := hbl.cell; have k1 := hbl.lt; have k2 := hbl.free; have hsb := Blk.ext (((Blk.new w (sysV c (.slice a c.loads.length cap)) 24).alloc (.cells #[.string ⟨#[]⟩, .int .i64 0, .int .i64 0] 62)).alloc (.cells #[.int .i64 p, .int .i64 b] 86)) hb; have s0 := hsb.cell; have s1 := hsb.lt; have htb := Blk.ext (Blk.new' (w := (w.alloc (.cells (sysV c (.slice a c.loads.length cap)) 24)).alloc (.cells #[.string ⟨#[]⟩, .int .i64 0, .int .i64 0] 62)) (b := w.heap.size + 1 + 1) (by simp) #[.int .i64 p, .int .i64 b] 86) hb; have t0 := htb.cell; have t1 := htb.lt))
    exact bodyPost_ret (v := .tuple #[.agg #[.string ⟨#[]⟩, .int .i64 0, .int .i64 0], .int .i64 2]) (by simp [results, Try.results31, go_sem, k0, k1]) rfl ⟨rfl, by have := hE2.size; ((with_reducible (repeat (first | exact Ext.refl _ | assumption | apply Ext.alloc | apply Ext.drew | exact ext_plus _ _ | (apply Ext.setCell; rotate_left; (simp <;> omega)) | (apply Ext.trans; rotate_left; exact ext_plus _ _) | (apply Ext.trans; rotate_left; assumption)))))⟩
  | true =>
    simp only [Bool.and_eq_true] at hB
    have O := C.ok_of hB.1.1
    obtain ⟨hp0, hp1, h2, h3⟩ := C.parts_of hB.1.2
    obtain ⟨ho0, ho1⟩ := C.off_of hB.2
    have hfa := fun w' (hx : Ext w w') => fault_any c _ p b off w' O hp0 hp1 h2 h3 ho0 ho1 (hL.ext hx)
    obtain ⟨S, hS⟩ : ∃ S, C.fault c p b off = S := ⟨_, rfl⟩
    simp only [hS] at hfa
    rw [hS]
    have HFA := Lib.hid hfa
    clear hB O hfa hS ho1
    cases S with
    | none =>
      dsimp only [faultV] at HFA
      go_enter Try.func31, Try.ntmps31
      go_wp2_with (first | (go_at_call 49; refine (HGI.out _ (by (with_reducible (repeat (first | exact Ext.refl _ | assumption | apply Ext.alloc | apply Ext.drew | exact ext_plus _ _ | (apply Ext.setCell; rotate_left; (simp <;> omega)) | (apply Ext.trans; rotate_left; exact ext_plus _ _) | (apply Ext.trans; rotate_left; assumption)))))).mono ?_; rintro e w2 ⟨rfl, hb⟩; have hE2 : Ext w w2 := (by (with_reducible (repeat (first | exact Ext.refl _ | assumption | apply Ext.alloc | apply Ext.drew | exact ext_plus _ _ | (apply Ext.setCell; rotate_left; (simp <;> omega)) | (apply Ext.trans; rotate_left; exact ext_plus _ _) | (apply Ext.trans; rotate_left; assumption))))); have hbl := Blk.ext ((Blk.new' (w := (w.alloc (.cells (sysV c (.slice a c.loads.length cap)) 24))) (b := w.heap.size + 1) (by simp) #[.string ⟨#[]⟩, .int .i64 0, .int .i64 0] 62).alloc (.cells #[.int .i64 p, .int .i64 b] 86)) hb; have k0 := hbl.cell; have k1 := hbl.lt; have k2 := hbl.free; have hsb := Blk.ext (((Blk.new w (sysV c (.slice a c.loads.length cap)) 24).alloc (.cells #[.string ⟨#[]⟩, .int .i64 0, .int .i64 0] 62)).alloc (.cells #[.int .i64 p, .int .i64 b] 86)) hb; have s0 := hsb.cell; have s1 := hsb.lt; have htb := Blk.ext (Blk.new' (w := (w.alloc (.cells (sysV c (.slice a c.loads.length cap)) 24)).alloc (.cells #[.string ⟨#[]⟩, .int .i64 0, .int .i64 0] 62)) (b := w.heap.size + 1 + 1) (by simp) #[.int .i64 p, .int .i64 b] 86) hb; have t0 := htb.cell; have t1 := htb.lt) | (go_at_call 57; refine (HFA.out _ hE2).mono ?_; rintro e w3 ⟨rfl, hb3⟩; have hE3 : Ext w w3 := hE2.trans hb3; have hbl3 := hbl.ext hb3; clear k0 k1 k2 s0 s1 t0 t1; have k0 := hbl3.cell; have k1 := hbl3.lt; have k2 := hbl3.free))
      exact bodyPost_ret (v := .tuple #[.agg #[.string ⟨#[]⟩, .int .i64 0, .int .i64 0], .int .i64 5]) (by simp [results, Try.results31, go_sem, k0, k1]) rfl ⟨rfl, by have := hE3.size; ((with_reducible (repeat (first | exact Ext.refl _ | assumption | apply Ext.alloc | apply Ext.drew | exact ext_plus _ _ | (apply Ext.setCell; rotate_left; (simp <;> omega)) | (apply Ext.trans; rotate_left; exact ext_plus _ _) | (apply Ext.trans; rotate_left; assumption)))))⟩
    | some r =>
      dsimp only [faultV] at HFA
      go_enter Try.func31, Try.ntmps31
      go_wp2_with (first | (go_at_call 49; refine (HGI.out _ (by (with_reducible (repeat (first | exact Ext.refl _ | assumption | apply Ext.alloc | apply Ext.drew | exact ext_plus _ _ | (apply Ext.setCell; rotate_left; (simp <;> omega)) | (apply Ext.trans; rotate_left; exact ext_plus _ _) | (apply Ext.trans; rotate_left; assumption)))))).mono ?_; rintro e w2 ⟨rfl, hb⟩; have hE2 : Ext w w2 := (by (with_reducible (repeat (first | exact Ext.refl _ | assumption | apply Ext.alloc | apply Ext.drew | exact ext_plus _ _ | (apply Ext.setCell; rotate_left; (simp <;> omega)) | (apply Ext.trans; rotate_left; exact ext_plus _ _) | (apply Ext.trans; rotate_left; assumption))))); have hbl := Blk.ext ((Blk.new' (w := (w.alloc (.cells (sysV c (.slice a c.loads.length cap)) 24))) (b := w.heap.size + 1) (by simp) #[.string ⟨#[]⟩, .int .i64 0, .int .i64 0] 62).alloc (.cells #[.int .i64 p, .int .i64 b] 86)) hb; have k0 := hbl.cell; have k1 := hbl.lt; have k2 := hbl.free; have hsb := Blk.ext (((Blk.new w (sysV c (.slice a c.loads.length cap)) 24).alloc (.cells #[.string ⟨#[]⟩, .int .i64 0, .int .i64 0] 62)).alloc (.cells #[.int .i64 p, .int .i64 b] 86)) hb; have s0 := hsb.cell; have s1 := hsb.lt; have htb := Blk.ext (Blk.new' (w := (w.alloc (.cells (sysV c (.slice a c.loads.length cap)) 24)).alloc (.cells #[.string ⟨#[]⟩, .int .i64 0, .int .i64 0] 62)) (b := w.heap.size + 1 + 1) (by simp) #[.int .i64 p, .int .i64 b] 86) hb; have t0 := htb.cell; have t1 := htb.lt) | (go_at_call 57; refine (HFA.out _ hE2).mono ?_; rintro e w3 ⟨rfl, hb3⟩; have hE3 : Ext w w3 := hE2.trans hb3; have hbl3 := hbl.ext hb3; clear k0 k1 k2 s0 s1 t0 t1; have k0 := hbl3.cell; have k1 := hbl3.lt; have k2 := hbl3.free))
      exact bodyPost_ret (v := .tuple #[.agg #[.string ⟨r.1.toArray⟩, .int .i64 (r.2.1 : Int), .int .i64 (r.2.2 : Int)], .int .i64 0]) (by simp [results, Try.results31, go_sem, k0, k1]) rfl ⟨rfl, by have := hE3.size; ((with_reducible (repeat (first | exact Ext.refl _ | assumption | apply Ext.alloc | apply Ext.drew | exact ext_plus _ _ | (apply Ext.setCell; rotate_left; (simp <;> omega)) | (apply Ext.trans; rotate_left; exact ext_plus _ _) | (apply Ext.trans; rotate_left; assumption)))))⟩
end Go.Proofs.Ytkjoojmlcjmlgaa
