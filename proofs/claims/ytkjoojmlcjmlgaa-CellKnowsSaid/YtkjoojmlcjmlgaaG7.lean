/- Known: what is known of each day, of a sky that is as defined. -/
import Derived.Test.YtkjoojmlcjmlgaaKm
namespace Go.Proofs.Ytkjoojmlcjmlgaa
set_option linter.unusedVariables false
set_option linter.unusedSimpArgs false
open Go.RowKit Go.Shelf
attribute [local go_sem] Oper.semAt_some
/-- The runs in the weathers that have come and agree with the sky. -/
def rsOf (c : C.Sys) (p b : Int) (sky : C.Txt) (pre : List (Wt c)) : List (List C.Day) := ((pre.map Wt.txt).filter fun t => C.agrees t sky).map (C.run c p b 0)
theorem rsOf_snoc_yes {c : C.Sys} {p b : Int} {sky : C.Txt} {pre : List (Wt c)} {x : Wt c} (h : C.agrees x.txt sky = true) : rsOf c p b sky (pre ++ [x]) = rsOf c p b sky pre ++ [C.run c p b 0 x.txt] := by
  unfold rsOf; rw [List.map_append, List.filter_append, List.map_append]; simp [h]
theorem rsOf_snoc_no {c : C.Sys} {p b : Int} {sky : C.Txt} {pre : List (Wt c)} {x : Wt c} (h : C.agrees x.txt sky = false) : rsOf c p b sky (pre ++ [x]) = rsOf c p b sky pre := by
  unfold rsOf; rw [List.map_append, List.filter_append, List.map_append]; simp [h]
theorem rsOf_len (c : C.Sys) (p b : Int) (sky : C.Txt) (pre : List (Wt c)) : (rsOf c p b sky pre).length ≤ pre.length := by
  unfold rsOf; rw [List.length_map]
  have := List.length_filter_le (fun t => C.agrees t sky) (pre.map Wt.txt)
  rwa [List.length_map] at this
theorem rsOf_all {c : C.Sys} {p b : Int} {sky : C.Txt} {pre : List (Wt c)} (h : pre.map Wt.txt = C.weathers c) : rsOf c p b sky pre = C.runs c p b sky := by
  unfold rsOf C.runs C.agreeing; rw [h]
def AxW {c : C.Sys} (TM : Wt c → Array Value) (x : Wt c) (a' : Act) (_ : World) : Prop := a' = { tmps := TM x, defers := [] }
theorem AxW.own {c : C.Sys} (TM : Wt c → Array Value) (B : Nat) : ∀ x a', OwnFrom B (fun (_ : Unit) W => AxW TM x a' W) := fun _ _ _ _ _ _ h _ _ => h
/-- The boxes of Known. -/
structure KBox (n0 gm bx : Nat) (c : C.Sys) (vl : Value) (p b : Int) (sk : ByteArray) (N : Nat) (m : Int) (Y : World) : Prop where
  sys : Blk Y n0 (sysV c vl) 24
  sky : Blk Y (n0 + 1) #[.string sk] 9
  sto : Blk Y (n0 + 1 + 1) #[.int .i64 p, .int .i64 b] 86
  row : Blk Y (gm + 1) #[.slice (some ⟨gm, 0, none⟩) N N] 95
  mny : Blk Y (gm + 1 + 1) #[.int .i64 m] 3
  box : Blk Y bx (sysV c vl) 24
theorem KBox.ext {n0 gm bx : Nat} {c : C.Sys} {vl : Value} {p b : Int} {sk : ByteArray} {N : Nat} {m : Int} {Y Z : World} (h : KBox n0 gm bx c vl p b sk N m Y) (he : Ext Y Z) : KBox n0 gm bx c vl p b sk N m Z :=
  ⟨h.sys.ext he, h.sky.ext he, h.sto.ext he, h.row.ext he, h.mny.ext he, h.box.ext he⟩
theorem KBox.kept {n0 gm bx : Nat} {c : C.Sys} {vl : Value} {p b : Int} {sk : ByteArray} {N : Nat} {m : Int} {A B : World} {row : Option Nat} (h : KBox n0 gm bx c vl p b sk N m A) (hg : A.grownBy B row) (hr : ∀ r, row = some r → ∃ o : Obj, A.heap[r]? = some o ∧ o.isCells = false) : KBox n0 gm bx c vl p b sk N m B :=
  ⟨h.sys.kept hg hr, h.sky.kept hg hr, h.sto.kept hg hr, h.row.kept hg hr, h.mny.kept hg hr, h.box.kept hg hr⟩
theorem KBox.off {n0 gm bx br : Nat} {c : C.Sys} {vl : Value} {p b : Int} {sk : ByteArray} {N : Nat} {m : Int} {Y Z : World} (h : KBox n0 gm bx c vl p b sk N m Y) (ho : Off br Y Z) (h1 : n0 + 2 < br) (h2 : gm + 2 < br) (h3 : bx < br) : KBox n0 gm bx c vl p b sk N m Z :=
  ⟨h.sys.off ho (by omega), h.sky.off ho (by omega), h.sto.off ho (by omega), h.row.off ho (by omega), h.mny.off ho (by omega), h.box.off ho (by omega)⟩
theorem KBox.other {n0 gm bx : Nat} {c : C.Sys} {vl : Value} {p b : Int} {sk : ByteArray} {N : Nat} {m : Int} {Y : World} (h : KBox n0 gm bx c vl p b sk N m Y) {ad : Addr} (h1 : n0 + 2 < ad.block) (h2 : gm + 2 < ad.block) (h3 : bx < ad.block) (v : Value) : KBox n0 gm bx c vl p b sk N m (Y.setCell ad v) :=
  ⟨h.sys.other (by omega) v, h.sky.other (by omega) v, h.sto.other (by omega) v, h.row.other (by omega) v, h.mny.other (by omega) v, h.box.other (by omega) v⟩
theorem KBox.met {n0 gm bx : Nat} {c : C.Sys} {vl : Value} {p b : Int} {sk : ByteArray} {N : Nat} {m : Int} {Y : World} (h : KBox n0 gm bx c vl p b sk N m Y) (h1 : n0 + 2 < gm) (h3 : gm < bx) (o : Nat) (v : Value) : KBox n0 gm bx c vl p b sk N m (Y.setCell ⟨gm, o, none⟩ v) :=
  ⟨h.sys.other (by simp; omega) v, h.sky.other (by simp; omega) v, h.sto.other (by simp; omega) v, h.row.other (by simp) v, h.mny.other (by simp <;> omega) v, h.box.other (by simp; omega) v⟩
theorem ownFrom_others {β : Type} {B : Nat} {Y : World} (hB : Y.heap.size ≤ B) : OwnFrom B (fun (_ : β) W => KeepsOthers Y W) := fun _ X Z row h hg hr =>
  ⟨Nat.le_trans h.size hg.size, fun k o hk ho => by
    have hX := h.same k o hk ho
    refine (hg.block k (Array.getElem?_eq_some_iff.1 hX).1 (fun e => ?_)).trans hX
    have h1 := (hr k e.symm).1
    have h2 := (Array.getElem?_eq_some_iff.1 hk).1
    omega⟩
theorem others_off {br : Nat} {Y A B : World} (h : KeepsOthers Y A) (ho : Off br A B) (hb : Y.heap.size ≤ br) : KeepsOthers Y B :=
  ⟨Nat.le_trans h.size ho.size, fun k o hk hc => by
    have hX := h.same k o hk hc
    have h2 := (Array.getElem?_eq_some_iff.1 hk).1
    exact (ho.block k (Array.getElem?_eq_some_iff.1 hX).1 (by omega)).trans hX⟩
theorem wp_region_lateN {P : Program} {ops : Array Oper} {Q : Exit → Act → World → Prop} {id : Nat} {a : Act} {w : World} (t : Nat) (S : Bool → World → Prop) (hm : P.follows .mixedOrders = true)
    (h : Shutb ops (Array.replicate ops.size false) → wpAnyL P ops (Exit.then (fun a w => Q .normal a w) (fun _ _ _ => False)) t S ops.size (Array.replicate ops.size false) a w.drew) : (Code.region id ops true).wp P Q a w := by
  refine Code.wp_mono ?_ (wp_region_late (Q := Exit.then (fun a w => Q .normal a w) (fun _ _ _ => False)) t S hm h)
  intro e a w hq
  cases e <;> first | exact hq | exact hq.elim
theorem below_of_ext {w A B : World} (hA : Ext w A) (hB : Ext w B) (hs : A.heap.size ≤ B.heap.size) : Below w.heap.size A B :=
  ⟨hB.os.trans hA.os.symm, hB.tape.trans hA.tape.symm, hB.output.trans hA.output.symm, hs, fun k hk => (hB.block k hk).trans (hA.block k hk).symm⟩
theorem weathers_many (c : C.Sys) {N : Nat} (h : c.days.toNat = N) (hN : N ≤ 10) : (C.weathers c).length ≤ 1024 := by
  unfold C.weathers C.texts
  refine Nat.le_trans (List.length_filter_le _ _) ?_
  rw [List.length_map, List.length_range, h]
  exact Nat.pow_le_pow_right (n := 2) (by decide) hN
def seenC (s : C.Seen × Value) : List Value := [.int .i64 s.1.low, .int .i64 s.1.high, s.2]
theorem own_apart {w w' : World} {b1 b2 : Nat} {e1 e2 : TypeId} {s1 s2 : Nat} {v1 v2 : Value} {n1 n2 : Nat} {x1 x2 : List Value} (h1 : w.ownsRow b1 e1 s1 v1 n1 x1) (h2 : w.ownsRow b2 e2 s2 v2 n2 x2) (he : e1 ≠ e2) (hg : w.grownBy w' v2.ownBlock) : w'.ownsRow b1 e1 s1 v1 n1 x1 :=
  own_move h1 fun g cur _ hg0 => hg.block g (Array.getElem?_eq_some_iff.1 hg0).1 (fun e => by
    rcases h2.2 with ⟨rfl, _⟩ | ⟨g', cap', cur', rfl, _, hg', _⟩
    · cases e
    · have e3 : g' = g := by simpa [Value.ownBlock] using e.symm
      subst e3
      rw [hg0] at hg'
      cases hg'
      exact he rfl)
theorem seens_of {w : World} {base : Nat} {v : Value} {ss : List (C.Seen × Value)} (h : w.ownsRow base 54 3 v ss.length (ss.flatMap seenC)) (hw : ∀ s ∈ ss, w.ownsRow base 55 1 s.2 s.1.loads.length (s.1.loads.map (Value.int .i64))) : Seens w v (ss.map Prod.fst) := by
  obtain ⟨a, cap, rfl, hx⟩ := sls_of_own seenC 3 (fun _ => rfl) h
  refine ⟨a, cap, by rw [List.length_map], fun i hi => ?_⟩
  rw [List.length_map] at hi
  obtain ⟨b, off, rfl, hb, hc⟩ := hx i hi
  have h3 := hw ss[i] (List.getElem_mem hi)
  refine ⟨b, off, ss[i].2, rfl, hb, ?_, ?_, ?_, ?_⟩
  · rw [List.getElem_map]; exact hc 0 _ rfl
  · rw [List.getElem_map]; exact hc 1 _ rfl
  · exact hc 2 _ rfl
  · rw [List.getElem_map]
    obtain ⟨a', cap', hv⟩ := own_slice h3
    rcases h3.2 with ⟨e1, h0⟩ | ⟨g, cap2, cur, hv2, hb2, hg, _⟩
    · have : ss[i].1.loads = [] := by cases h9 : ss[i].1.loads with | nil => rfl | cons _ _ => rw [h9] at h0; simp at h0
      rw [this, e1]
      exact Ints.nil w
    · rw [hv2]
      refine ⟨_, _, rfl, fun j hj => ⟨g, 0, rfl, (Array.getElem?_eq_some_iff.1 hg).1, ?_⟩⟩
      rw [hv2] at h3
      rw [Nat.zero_add]
      exact own_cell h3 j _ (by simp [hj])
theorem step_append_word (w : World) {ops : Array Oper} {o : Oper} {a : Act} {K : Act → World → Prop} {Q : Exit → Act → World → Prop} {E : Prop} (hgd : o.guard = none) (s x : Operand)
    (ho : o.op = .call { callee := .builtin .append, args := #[s, x], argTypes := #[52, 52] }) (base : Nat) (v : Value) (n : Nat) (L : List Value) (u : Int) (g : Nat) (hs : a.eval s = v) (hx : a.eval x = .slice (some ⟨g, 0, none⟩) 1 1)
    (hv : w.ownsRow base 55 1 v n L) (hg : Blk w g #[.int .i64 u] 55) (hn : n ≤ 1000000) (hb : base ≤ w.heap.size)
    (h : ∀ v' w', w'.ownsRow base 55 1 v' (n + 1) (L ++ [.int .i64 u]) → w.grownBy w' v.ownBlock → K (a.put o.dst v') w') :
    if Region.wanted o (yielded ops a.tmps) = true then Oper.wp Try.prog o a w K Q else E := by
  have hw : Region.wanted o (yielded ops a.tmps) = true := by simp [Region.wanted, hgd]
  rw [if_pos hw]
  obtain ⟨i9, hi9, hy0, hy1, hy2⟩ := info_parts word_info
  have hnews : ∀ j u', [.int .i64 u][j]? = some u' → w.cell? ((⟨g, 0, none⟩ : Addr).add j) = some u' := by
    intro j u' hu'
    have hadd : (⟨g, 0, none⟩ : Addr).add j = ⟨g, j, none⟩ := by unfold Addr.add; split <;> simp_all
    rw [hadd, hg.cell]
    simpa using hu'
  obtain ⟨v', w', hr, h2, h3, _⟩ := run_append_own (P := Try.prog) w base 52 o.type 55 i9 (.int .i64 0) 1 8 Try.underlying52 hi9 hy0 hy1 hy2 rfl (by decide) v n L hv ⟨g, 0, none⟩ 1 1 [.int .i64 u] rfl hnews (by intro u hu; simp at hu; subst hu; rfl) (by unfold maxLen; omega) (by omega) hb
  unfold Oper.wp execOp
  simp only [ho, resolve, invoke, builtin, Sem.run_bind, Sem.run_pure, Result.andThen_ok, List.map_toArray, List.map_cons, List.map_nil, hs, hx, hr]
  exact h v' w' h2 h3
theorem cell_three (w : World) (x y z : Value) (e : TypeId) {b : Nat} (hb : b = w.heap.size) : ∀ j u, ([x, y, z] : List Value)[j]? = some u → (w.alloc (.cells #[x, y, z] e)).cell? ((⟨b, 0, none⟩ : Addr).add j) = some u := by
  intro j u hj
  subst hb
  have hadd : (⟨w.heap.size, 0, none⟩ : Addr).add j = ⟨w.heap.size, j, none⟩ := by unfold Addr.add; split <;> simp_all
  rw [hadd, (Blk.new w #[x, y, z] e).cell]
  simpa using hj
theorem met_at (q : Nat → Int) (m : Nat) (h : m < 5) : (#[.int .i64 (q 0), .int .i64 (q 1), .int .i64 (q 2), .int .i64 (q 3), .int .i64 (q 4), .int .i64 (q 5), .int .i64 (q 6)] : Array Value)[2 + m]? = some (.int .i64 (q (m + 2))) := by
  match m, h with
  | 0, _ => rfl
  | 1, _ => rfl
  | 2, _ => rfl
  | 3, _ => rfl
  | 4, _ => rfl
/-- What the first m loads' words are, on day k. -/
def wordsTo (R : List (List C.Day)) (k m : Nat) : List Int := (List.range m).map fun i => C.word (C.many R k i) R.length
theorem wordsTo_succ (R : List (List C.Day)) (k m : Nat) : wordsTo R k (m + 1) = wordsTo R k m ++ [C.word (C.many R k m) R.length] := by
  unfold wordsTo; rw [List.range_succ, List.map_append]; rfl
theorem wordsTo_len (R : List (List C.Day)) (k m : Nat) : (wordsTo R k m).length = m := by simp [wordsTo]
theorem seenAt_eq (c : C.Sys) (R : List (List C.Day)) (k : Nat) : C.seenAt c R k = ⟨C.lowOf R k, C.highOf R k, wordsTo R k c.loads.length⟩ := rfl
set_option maxRecDepth 100000 in
set_option maxHeartbeats 16000000 in
theorem known_good (c : C.Sys) (p b : Int) (sk : ByteArray) (vl : Value) (w : World) (hL : Loads w vl c.loads) (hn : c.loads.length ≤ 1000000) (hs : sk.size ≤ 1000000) (hok : knownB c p b sk.data.toList = true) :
    Calls Try.prog 28 #[.agg (sysV c vl), .int .i64 p, .int .i64 b, .string sk] w fun e w' => ∃ v, e = .returned (.tuple #[v, .int .i64 (if C.runs c p b sk.data.toList = [] then 5 else 0)]) ∧ Seens w' v (if C.runs c p b sk.data.toList = [] then [] else C.seen c (C.runs c p b sk.data.toList)) ∧ Ext w w' := by
  have hL' := hL
  obtain ⟨a, cap, rfl, _⟩ := hL'
  have hgi := fun w' (hx : Ext w w') => given_any c p b 0 _ w' (hL.ext hx) hn
  have hle := fun w' => letters_sky sk c.days w' hs
  unfold knownB C.skyB givenB at hok
  have e0 : sk.data.toList.length = sk.size := by simp
  rw [e0, Bool.and_eq_true] at hok
  obtain ⟨hok1, hok2⟩ := hok
  simp only [hok1] at hgi
  simp only [hok2] at hle
  simp only [Bool.and_eq_true, decide_eq_true_eq] at hok1 hok2
  have O := C.ok_of hok1.1.1
  obtain ⟨hp0, hp1, h2, h3⟩ := C.parts_of hok1.1.2
  obtain ⟨ho0, ho1⟩ := C.off_of hok1.2
  have hlen : sk.data.toList.length = c.days.toNat := by rw [e0]; have := hok2.2; omega
  have hd1 := O.d1
  have hd10 := O.d10
  have hn5 := O.n5
  obtain ⟨N, hN⟩ : ∃ N : Nat, c.days = N := ⟨c.days.toNat, by omega⟩
  have hN10 : N ≤ 10 := by omega
  have hN1 : 1 ≤ N := by omega
  have hNt : c.days.toNat = N := by omega
  rw [hNt] at hlen
  have hwe := fun w' => weathers_any c (.slice a c.loads.length cap) ⟨_, _, _, rfl⟩ w'
  have hru := fun (x : Wt c) w' => run_any c (.slice a c.loads.length cap) ⟨_, _, _, rfl⟩ p b 0 x.1 w' O h2 h3
  have hag := fun (x : Wt c) w' => agreesQ_any x.1 sk w' (by
    have h1 := weathers_len x.2
    have h2 : x.1.data.toList.length = x.1.size := by simp
    rw [e0] at hlen
    omega) hs
  have hseq := fun (x : Wt c) br w' (hbr : w.heap.size ≤ br) => days_own c (.slice a c.loads.length cap) p b 0 x.1 br w w' O hp0 hp1 h2 h3 ho0 ho1 (weathers_len x.2) hbr hL
  have hcb := fun (x : Wt c) k (hk : k ≤ 20) => C.carried_bd O hp0 hp1 h2 h3 0 x.1.data.toList k hk
  have HGI := Lib.hid hgi
  have HLE := Lib.hid hle
  have HWE := Lib.hid hwe
  have HRU := Lib.hid hru
  have HAG := Lib.hid hag
  have HSEQ := Lib.hid hseq
  have HCB := Lib.hid hcb
  have HLEN := Lib.hid hlen
  have HO := Lib.hid O
  have HN := Lib.hid hN
  have HNT := Lib.hid hNt
  obtain ⟨R, hR⟩ : ∃ R, C.runs c p b sk.data.toList = R := ⟨_, rfl⟩
  rw [hR]
  have HR := Lib.hid hR
  clear hgi hle e0 hok1 hok2 hwe hru hag hseq hcb hlen O hN ho1 hR hNt
  obtain ⟨is0, his, hsz0, hsz1, hsz2⟩ := info_parts seen_info
  obtain ⟨iw0, hiw, hwz0, hwz1, hwz2⟩ := info_parts word_info
  refine (callsIn_wide (n := 7)).1 ?_
  refine callsIn_of_wp_marks Try.func28 rfl trivial ?_ rfl
  simp only [Try.ntmps28, List.size_toArray, List.length_cons, List.length_nil, Nat.reduceAdd, Nat.reduceSub, Array.replicate_succ, Array.replicate_zero, List.push_toArray, List.append_toArray, List.nil_append, List.cons_append]
  refine wpIn_wide.2 ?_
  go_upto_region 4 with (first | (go_at_call 49; refine (HGI.out _ (by (with_reducible (repeat (first | exact Ext.refl _ | assumption | apply Ext.alloc | apply Ext.drew | exact ext_plus _ _ | (apply Ext.setCell; rotate_left; (simp <;> omega)) | (apply Ext.trans; rotate_left; exact ext_plus _ _) | (apply Ext.trans; rotate_left; assumption)))))).mono ?_; rintro e w2 ⟨rfl, hb⟩; have hE2 : Ext w w2 := (by (with_reducible (repeat (first | exact Ext.refl _ | assumption | apply Ext.alloc | apply Ext.drew | exact ext_plus _ _ | (apply Ext.setCell; rotate_left; (simp <;> omega)) | (apply Ext.trans; rotate_left; exact ext_plus _ _) | (apply Ext.trans; rotate_left; assumption))))); have hsb := Blk.ext (((Blk.new w (sysV c (.slice a c.loads.length cap)) 24).alloc (.cells #[.string sk] 9)).alloc (.cells #[.int .i64 p, .int .i64 b] 86)) hb; have s0 := hsb.cell; have s1 := hsb.lt; have hkb := Blk.ext ((Blk.new' (w := (w.alloc (.cells (sysV c (.slice a c.loads.length cap)) 24))) (b := w.heap.size + 1) (by simp) #[.string sk] 9).alloc (.cells #[.int .i64 p, .int .i64 b] 86)) hb; have t0 := hkb.cell; have t1 := hkb.lt; have htb := Blk.ext (Blk.new' (w := ((w.alloc (.cells (sysV c (.slice a c.loads.length cap)) 24)).alloc (.cells #[.string sk] 9))) (b := w.heap.size + 1 + 1) (by simp) #[.int .i64 p, .int .i64 b] 86) hb) | (go_at_call 50; refine (HLE.out _).mono ?_; rintro e w3 ⟨rfl, hb3⟩; have hE3 : Ext w w3 := hE2.trans hb3; have hsb3 := hsb.ext hb3; have hkb3 := hkb.ext hb3; have htb3 := htb.ext hb3; clear s0 s1 t0 t1; have s0 := hsb3.cell; have s1 := hsb3.lt; have t0 := hkb3.cell; have t1 := hkb3.lt))
  obtain ⟨cs0, hmk, hmet⟩ := make_mets N (by omega) w3
  unfold sysV at s0
  rw [HN.out] at s0
  have hz3 := hE3.size
  go_upto_region 6 with (fail)
  obtain ⟨w6, hw6⟩ : ∃ w6, ((w3.alloc (.cells cs0 101)).alloc (.cells #[.slice (some ⟨w3.heap.size, 0, none⟩) N N] 95)).alloc (.cells #[.int .i64 0] 3) = w6 := ⟨_, rfl⟩
  have hm6 : MetB N w6 w3.heap.size (fun _ _ => 0) := by rw [← hw6]; exact (hmet.ext ((Ext.refl _).alloc _)).ext ((Ext.refl _).alloc _)
  have hd6 : Blk w6 (w3.heap.size + 1) #[.slice (some ⟨w3.heap.size, 0, none⟩) N N] 95 := by rw [← hw6]; exact (Blk.new' (by simp) _ _).alloc _
  have hy6 : Blk w6 (w3.heap.size + 1 + 1) #[.int .i64 0] 3 := by rw [← hw6]; exact Blk.new' (by simp) _ _
  have hE36 : Ext w3 w6 := by rw [← hw6]; exact (((Ext.refl w3).alloc _).alloc _).alloc _
  have hz6 : w6.heap.size = w3.heap.size + 3 := by rw [← hw6]; simp
  rw [hw6]
  have hsb6 := hsb3.ext hE36
  have hkb6 := hkb3.ext hE36
  have htb6 := htb3.ext hE36
  have hE6 := hE3.trans hE36
  obtain ⟨gm, hgm⟩ : ∃ gm, w3.heap.size = gm := ⟨_, rfl⟩
  obtain ⟨n0, hn0⟩ : ∃ n0, w.heap.size = n0 := ⟨_, rfl⟩
  have hs1 := s1
  have ht1 := htb3.lt
  rw [hgm] at hm6 hd6 hy6 hz6 hz3 ⊢
  rw [hgm] at hs1 ht1
  rw [hn0] at hsb6 hkb6 htb6 hz3 hs1 ht1 ⊢
  have HZ6 := Lib.hid hz6
  clear hw6 hmk hmet s0 s1 t0 t1 hsb hsb3 hkb hkb3 htb htb3 hb hb3 hE2 hE3 hE36 hgm hz6 HGI HLE
  have s0 := hsb6.cell
  have s1 := hsb6.lt
  unfold sysV at s0
  have HWE2 := HWE.out
  unfold sysV at HWE2
  rw [HN.out] at s0
  simp only [HN.out] at HWE2
  go_wp2_with (first | (go_at_call 54; refine (HWE2 _).mono ?_; rintro e w7 ⟨rfl, hbx, hb⟩))
  have hE7 := hE6.trans hb
  have hm7 := hm6.ext hb
  have hK7 : KBox n0 gm w6.heap.size c (.slice a c.loads.length cap) p b sk N 0 w7 := ⟨hsb6.ext hb, hkb6.ext hb, htb6.ext hb, hd6.ext hb, hy6.ext hb, by unfold sysV; rw [HN.out]; exact hbx⟩
  obtain ⟨bx, hbxx⟩ : ∃ bx, w6.heap.size = bx := ⟨_, rfl⟩
  have hz6 := HZ6.out
  rw [hbxx] at hK7 hbx hz6 ⊢
  have hz6a : bx ≤ gm + 3 := by omega
  have hz6b : gm + 3 ≤ bx := by omega
  clear hz6
  have hbx' : Blk w7 bx (sysV c (.slice a c.loads.length cap)) 24 := hK7.box
  have hbl := hbx.lt
  clear hsb6 hkb6 htb6 hd6 hy6 hm6 hb hbx s0 s1 HWE2 HWE HZ6 hbxx hE6
  have hKp := Keep1.rec_ (n := w.heap.size) (b := bx) (w := w7) hE7.size hbl
  refine (wpIn_wide (n := 7)).1 ?_
  refine' wpIn_rangeFunc_ownH rfl (by omega) (gf := 74) (lb := _) rfl trivial (enters_of Try.func74 (by kernel_rfl) rfl)
    (weathers_stops c (.slice a c.loads.length cap) ⟨_, _, _, rfl⟩ HO.out w w7 hE7 bx 6 (by omega) hbx') Keep1.trans hKp (Below.refl _ _) (fun _ => rfl)
    (fun pre Y => (KBox n0 gm bx c (.slice a c.loads.length cap) p b sk N (rsOf c p b sk.data.toList pre).length Y ∧ MetB N Y gm (metF c.loads.length (rsOf c p b sk.data.toList pre))) ∧ Ext w Y)
    (fun _ _ _ => False)
    ?own (fun _ _ _ _ _ h _ _ => h) ⟨⟨hK7, hm7.congr (fun d j _ => (metF_nil _ d j).symm)⟩, hE7⟩ (AxW _) (AxW.own _ _) ?assign ?body ?done ?stop
  case own =>
    refine OwnFrom.and (fun pre A B row h hg hr => ?_) (ownFrom_below (Nat.le_refl _) hE7.size)
    have hr' := fun r e => (hr r e).2
    exact ⟨h.1.kept hg hr', h.2.kept hg hr'⟩
  case assign =>
    rintro l pre x Y K hI hK
    simp only [encW]
    gi_wp2
    refine hK _ _ (KeepsFrom.refl _ _) ⟨Below.refl _ _, rfl⟩ hI ?_
    refine (Act.mk.injEq _ _ _ _).mpr ⟨?_, rfl⟩
    exact rfl
  case body =>
    rintro l pre x a' Y hl hrec ⟨⟨hKB, hMB⟩, hEY⟩ rfl hlen'
    have k0 := hKB.sky.cell
    have k1 := hKB.sky.lt
    have s0 := hKB.sys.cell
    have s1 := hKB.sys.lt
    have t0 := hKB.sto.cell
    have t1 := hKB.sto.lt
    have hbxl := hKB.box.lt
    obtain ⟨B, hB⟩ : ∃ B, C.agrees x.txt sk.data.toList = B := ⟨_, rfl⟩
    have hag := HAG.out x
    rw [show C.agrees x.1.data.toList sk.data.toList = B from hB] at hag
    have HAG2 := Lib.hid hag
    have HB := Lib.hid hB
    obtain ⟨rs, hrs⟩ : ∃ rs, rsOf c p b sk.data.toList pre = rs := ⟨_, rfl⟩
    have HRS := Lib.hid hrs
    rw [hrs] at hKB hMB
    have hrl := rsOf_len c p b sk.data.toList pre
    rw [hrs] at hrl
    clear hag hB hrs
    cases B with
    | false =>
      gi_wp2_with (first | (refine ⟨trivial, ?_⟩; gi_at_call 55; refine (callsIn_wide.2 (HAG2.out _)).mono ?_; rintro e wz ⟨rfl, hEz⟩))
      refine ⟨KeepsFrom.of_grownBy hEz.grownBy (fun j e => by cases e), ⟨Below.mono hEz hEY.size, hEz.block bx hbxl⟩, ⟨?_, ?_⟩, hEY.trans hEz⟩
      · rw [rsOf_snoc_no HB.out, HRS.out]; exact hKB.ext hEz
      · rw [rsOf_snoc_no HB.out, HRS.out]; exact hMB.ext hEz
    | true =>
      gi_wp2_with (first | (refine ⟨trivial, ?_⟩; gi_at_call 55; refine (callsIn_wide.2 (HAG2.out _)).mono ?_; rintro e wz ⟨rfl, hEz⟩; have hKz := hKB.ext hEz; clear k0 k1 s0 s1 t0 t1; have k0 := hKz.sky.cell; have k1 := hKz.sky.lt; have s0 := hKz.sys.cell; have s1 := hKz.sys.lt; have t0 := hKz.sto.cell; have t1 := hKz.sto.lt) | (refine ⟨trivial, ?_⟩; gi_at_call 51; refine (callsIn_wide.2 (HRU.out x _)).mono ?_; rintro e w8 ⟨br, rfl, hbr, hbrge, hb8⟩))
      have hEY8 := hEz.trans hb8
      have hE8 := hEY.trans hEY8
      have hK8 := hKB.ext hEY8
      have hM8 := hMB.ext hEY8
      obtain ⟨r0, hr0⟩ := hrec
      have hr8 : w8.heap[l]? = some (.loop r0) := (hEY8.block l (Array.getElem?_eq_some_iff.1 hr0).1).trans hr0
      have hbrl := hbr.lt
      have hq1 := hKB.box.lt
      have hq2 := hKB.mny.lt
      have hq3 := hKB.sto.lt
      have hY8 := hEz.size
      have hyb : Y.heap.size ≤ br := by omega
      have hwY := hEY.size
      obtain ⟨T, hT⟩ : ∃ T, T = x.1.data.toList := ⟨_, rfl⟩
      have hsq := HSEQ.out x br w8 (by omega)
      have hcb := HCB.out x
      rw [← hT] at hsq hcb
      rw [HNT.out] at hsq
      have HCB2 := Lib.hid hcb
      have hTl : T.length = N := by rw [hT, ← HNT.out]; exact weathers_len x.2
      obtain ⟨r, hr⟩ : ∃ r, r = C.run c p b 0 T := ⟨_, rfl⟩
      have hdat : ∀ k, k < N → C.dat r k = ⟨(C.stateAt c p b 0 T (k + 1)).e, (C.stateAt c p b 0 T (k + 1)).carried⟩ := fun k hk => by
        rw [hr]; unfold C.dat C.run
        rw [List.getD_eq_getElem?_getD]; simp [hTl, hk]; rfl
      have HDAT := Lib.hid hdat
      have HRR := Lib.hid hr
      have HT := Lib.hid hT
      have hsys8 : DaysAt w c (.slice a c.loads.length cap) p b 0 x.1 br 0 w8 := ⟨hbr, hE8⟩
      have hKBx := hKB.box
      clear k0 k1 s0 s1 t0 t1 hcb hr hdat hT hKz hKB hMB hbr hbxl hr0 hb8 hEz HRU
      refine' wpIn_range_ownN (l₀ := l) rfl hr8 (by omega) (gf := 52) (fst := #[.pointer (some ⟨br, 0, none⟩)]) rfl trivial (enters_of Try.func52 (by kernel_rfl) rfl)
        hsq (fun _ => rfl) (off_rec (by omega)) (daysAt_own hE8.size) hsys8
        (fun k Z => (KBox n0 gm bx c (.slice a c.loads.length cap) p b sk N rs.length Z ∧ MetB N Z gm (metK c.loads.length rs r k)) ∧ KeepsOthers Y Z)
        (fun _ _ => False)
        ?iown (fun _ _ _ _ h _ _ => h) ?irel ⟨⟨hK8, by rw [metK_zero]; exact hM8⟩, KeepsOthers.of_grownBy hEY8.grownBy (fun j o e => by cases e)⟩ (AxD Y.heap.size c p b 0 T _) (AxD.own _ _ _ _ _ _ _ _) ?iassign ?ibody ?idone (fun _ _ h => h.elim)
      case iown =>
        refine OwnFrom.and (fun k A B row h hg hr => ?_) (ownFrom_others (by have := hEY8.size; omega))
        have hr' := fun r e => (hr r e).2
        exact ⟨h.1.kept hg hr', h.2.kept hg hr'⟩
      case irel =>
        rintro k A B ⟨⟨g1, g2⟩, g3⟩ ho
        exact ⟨⟨g1.off ho (by omega) (by omega) (by omega), g2.off ho (by omega)⟩, others_off g3 ho hyb⟩
      case iassign =>
        rintro l' k Z K hk ⟨⟨g1, g2⟩, g3⟩ hA hK
        have hZ8 := g3.size
        simp only [dayE]
        gi_wp2
        obtain ⟨bd, hbd⟩ : ∃ bd, Z.heap.size = bd := ⟨_, rfl⟩
        have hEa : Ext Z (Z.alloc (.cells #[.int .i64 (C.stateAt c p b 0 T (k + 1)).e, .int .i64 (C.stateAt c p b 0 T (k + 1)).carried] 41)) := (Ext.refl _).alloc _
        rw [hbd]
        refine hK _ _ (KeepsFrom.of_grownBy hEa.grownBy (fun j e => by cases e)) ⟨⟨g1.ext hEa, g2.ext hEa⟩, g3.trans (KeepsOthers.alloc _ _)⟩ ⟨hA.1.ext hEa, hA.2.trans hEa⟩ ⟨bd, Blk.new' hbd.symm _ _, by omega, ?_⟩
        refine (Act.mk.injEq _ _ _ _).mpr ⟨?_, rfl⟩
        exact rfl
      case ibody =>
        rintro l' k a' Z hl' hrec' hk ⟨⟨g1, g2⟩, g3⟩ hA ⟨bd, hbd, hbdge, rfl⟩
        have hbits := HCB2.out k (by omega)
        have hdt := HDAT.out k hk
        obtain ⟨y, hy⟩ : ∃ y, C.stateAt c p b 0 T (k + 1) = y := ⟨_, rfl⟩
        have HYY := Lib.hid hy
        rw [hy] at hbd hbits hdt
        simp only [hy]
        have hyc : 0 ≤ y.carried ∧ y.carried ≤ 1000000 := by
          have h1 : (2 : Int) ^ c.loads.length ≤ 1024 := (pow_bd (n := c.loads.length) (by omega)).2
          omega
        have hm0 := g2.cell k 0 hk (by decide)
        have hm1 := g2.cell k 1 hk (by decide)
        rw [metK_at] at hm0 hm1
        simp only [Nat.add_zero] at hm0
        rw [metF_low] at hm0
        rw [metF_high] at hm1
        have hmf := g2.free
        have hml := g2.lt
        have r0 := g1.row.cell
        have r1 := g1.row.lt
        have n1 := g1.mny.cell
        have n2 := g1.mny.lt
        have d0 := hbd.cell
        have d1 := hbd.lt
        have hgb : gm ≠ bd := by omega
        have HDT := Lib.hid hdt
        clear hy hbits hdt
        by_cases hrs0 : rs = []
        · skip
          subst hrs0
          gi_wp2
          obtain ⟨Z1, hZ1⟩ : ∃ Z1, (Z.setCell ⟨gm, k * 7, none⟩ (.int .i64 y.e)).setCell ⟨gm, k * 7 + 1, none⟩ (.int .i64 y.e) = Z1 := ⟨_, rfl⟩
          have gM1 : MetB N Z1 gm (upd (upd (metK c.loads.length [] r k) k 0 y.e) k 1 y.e) := by rw [← hZ1]; exact (g2.set k 0 hk (by decide) y.e).set k 1 hk (by decide) y.e
          have gK1 : KBox n0 gm bx c (.slice a c.loads.length cap) p b sk N ([] : List (List C.Day)).length Z1 := by rw [← hZ1]; exact (g1.met (by omega) (by omega) _ _).met (by omega) (by omega) _ _
          have gD1 : Blk Z1 bd #[.int .i64 y.e, .int .i64 y.carried] 41 := by rw [← hZ1]; exact (hbd.other (by simp; omega) _).other (by simp; omega) _
          have gA1 : DaysAt w c (.slice a c.loads.length cap) p b 0 x.1 br (k + 1) Z1 := by
            rw [← hZ1]
            exact ⟨((hA.1).other (by simp; omega) _).other (by simp; omega) _, (hA.2.setCell (p := ⟨gm, k * 7, none⟩) (by simp; omega) _).setCell (p := ⟨gm, k * 7 + 1, none⟩) (by simp; omega) _⟩
          have gO1 : KeepsOthers Z Z1 := by rw [← hZ1]; exact (KeepsOthers.setCell _ _ _).trans (KeepsOthers.setCell _ _ _)
          rw [hZ1]
          clear hZ1 hm0 hm1 hmf hml r0 r1 n1 n2 d0 d1
          have hm0 := gM1.cell k 0 hk (by decide)
          have hm1 := gM1.cell k 1 hk (by decide)
          have hmf := gM1.free
          have hml := gM1.lt
          have d0 := gD1.cell
          have d1 := gD1.lt
          have r0 := gK1.row.cell
          have r1 := gK1.row.lt
          have n1 := gK1.mny.cell
          have n2 := gK1.mny.lt
          rw [show upd (upd (metK c.loads.length [] r k) k 0 y.e) k 1 y.e k 0 = y.e by simp [upd]] at hm0
          rw [show upd (upd (metK c.loads.length [] r k) k 0 y.e) k 1 y.e k 1 = y.e by simp [upd]] at hm1
          simp only [Nat.add_zero] at hm0
          have hpc := plus_cell
          refine wpIn_region_ext 18 (fun _ _ d _ _ h => by cases d <;> exact h) (by rintro ⟨_, _, h⟩; first | exact h | exact h.elim) (by kernel_rfl) (by kernel_rfl) (by kernel_rfl) (by kernel_rfl) (by kernel_rfl) ?_
          simp only [List.take_succ_cons, List.take_zero, List.drop_succ_cons, List.drop_zero]
          repeat (any_goals (first | go_big_quiet_step (fail) | quiet_step (fail)))
          all_goals (refine wpQuiet_nil ?_; intro Z2 hEZ2)
          have gM2 := gM1.ext hEZ2
          have mf2 := gM2.free
          have ml2 := gM2.lt
          have mm0 := gM2.cell k 0 hk (by decide)
          have mm1 := gM2.cell k 1 hk (by decide)
          simp only [Nat.add_zero] at mm0
          clear hm0 hm1 hmf hml r0 r1 n1 n2 d0 d1
          go_wp2
          obtain ⟨Z3, hZ3⟩ : ∃ Z3, (Z2.setCell ⟨gm, k * 7, none⟩ (.int .i64 (y.e))).setCell ⟨gm, k * 7 + 1, none⟩ (.int .i64 (y.e)) = Z3 := ⟨_, rfl⟩
          have gM3 : MetB N Z3 gm (metM c.loads.length [] r k 0) := by
            rw [← hZ3]
            have h := (gM2.set k 0 hk (by decide) (y.e)).set k 1 hk (by decide) (y.e)
            rw [Nat.add_zero] at h
            refine h.congr fun d j _ => ?_
            rw [← metM_zero (n := c.loads.length) (rs := []) (r := r) (k := k) (lo := y.e) (hi := y.e) (by rw [metF_low, List.nil_append, lowOf_one, HDT.out]) (by rw [metF_high, List.nil_append, highOf_one, HDT.out])]
            unfold upd; by_cases h1 : d = k ∧ j = 1 <;> by_cases h0 : d = k ∧ j = 0 <;> simp [h1, h0]
          have gK3 : KBox n0 gm bx c (.slice a c.loads.length cap) p b sk N ([] : List (List C.Day)).length Z3 := by rw [← hZ3]; exact ((gK1.ext hEZ2).met (by omega) (by omega) _ _).met (by omega) (by omega) _ _
          have gD3 : Blk Z3 bd #[.int .i64 y.e, .int .i64 y.carried] 41 := by rw [← hZ3]; exact ((gD1.ext hEZ2).other (by simp; omega) _).other (by simp; omega) _
          have gA3 : DaysAt w c (.slice a c.loads.length cap) p b 0 x.1 br (k + 1) Z3 := by
            rw [← hZ3]
            exact ⟨((gA1.1.ext hEZ2).other (by simp; omega) _).other (by simp; omega) _, ((gA1.2.trans hEZ2).setCell (p := ⟨gm, k * 7, none⟩) (by simp; omega) _).setCell (p := ⟨gm, k * 7 + 1, none⟩) (by simp; omega) _⟩
          have gO3 : KeepsOthers Z Z3 := by rw [← hZ3]; exact gO1.trans ((KeepsOthers.of_grownBy hEZ2.grownBy (fun j o e => by cases e)).trans ((KeepsOthers.setCell _ _ _).trans (KeepsOthers.setCell _ _ _)))
          rw [hZ3]
          clear hZ3 mm0 mm1 mf2 ml2 gM2 gK1 gD1 gA1 gO1 gM1
          have s0 := gK3.sys.cell
          have s1 := gK3.sys.lt
          gi_wp2
          clear s0 s1
          gi_loopw [17, 90] (fun _ i Zy => ∃ m : Nat, m ≤ c.loads.length ∧ i = .int .i64 m ∧ MetB N Zy gm (metM c.loads.length [] r k m) ∧ KBox n0 gm bx c (.slice a c.loads.length cap) p b sk N ([] : List (List C.Day)).length Zy ∧ Blk Zy bd #[.int .i64 y.e, .int .i64 y.carried] 41 ∧ DaysAt w c (.slice a c.loads.length cap) p b 0 x.1 br (k + 1) Zy ∧ KeepsOthers Z Zy) (fun _ i _ => c.loads.length - (intOf i).toNat)
          case atStart => exact ⟨0, Nat.zero_le _, rfl, gM3, gK3, gD3, gA3, gO3⟩
          case round =>
            rename World => Zy
            obtain ⟨m, hm, rfl, yM, yK, yD, yA, yO⟩ := hrel
            by_cases hml : m < c.loads.length
            · have hbit := bit_has y.carried m hyc.1 hyc.2
              have hmm := yM.cell k (m + 2) hk (by omega)
              rw [metM_low, metF_many [] k hml, show k * 7 + (m + 2) = k * 7 + 2 + m by omega] at hmm
              have hmf := yM.free
              have hmlt := yM.lt
              have d0 := yD.cell
              have d1 := yD.lt
              have hle := many_le [] k m
              have hsn := many_snoc [] r k m
              rw [HDT.out] at hsn
              dsimp only at hsn
              obtain ⟨H, hH⟩ : ∃ H, C.has y.carried m = H := ⟨_, rfl⟩
              rw [hH] at hbit hsn
              obtain ⟨cm, hcm⟩ : ∃ cm, C.many [] k m = cm := ⟨_, rfl⟩
              rw [hcm] at hmm hle hsn
              have HSN := Lib.hid hsn
              have hml2 : m < 5 := by omega
              clear hsn hH hcm
              have hpc := plus_cell
              cases H with
              | true =>
                have hbit' : bits .and .i64 (y.carried / 2 ^ m) 1 = 1 := hbit
                clear hbit
                gi_wp2
                refine wpIn_region_ext 14 (fun _ _ d _ _ h => by cases d <;> exact h) (by rintro ⟨_, _, h⟩; first | exact h | exact h.elim) (by kernel_rfl) (by kernel_rfl) (by kernel_rfl) (by kernel_rfl) (by kernel_rfl) ?_
                simp only [List.take_succ_cons, List.take_zero, List.drop_succ_cons, List.drop_zero]
                repeat (any_goals (first | go_big_quiet_step (fail) | quiet_step (fail)))
                all_goals (refine wpQuiet_nil ?_; intro Z5 hEZ5)
                have yM5 := yM.ext hEZ5
                clear hmm hmf hmlt d0 d1
                have hmm5 := yM5.cell k (m + 2) hk (by omega)
                rw [metM_low, metF_many [] k hml, show k * 7 + (m + 2) = k * 7 + 2 + m by omega] at hmm5
                have hmf5 := yM5.free
                have hml5 := yM5.lt
                go_wp2
                gi_wp2
                have hv : metF c.loads.length ([] ++ [r]) k (m + 2) = ((cm : Int) + 1) := by rw [metF_many _ k hml, HSN.out]; push_cast; rfl
                have yS := yM5.set k (m + 2) hk (by omega) ((cm : Int) + 1)
                rw [metM_succ hv, show k * 7 + (m + 2) = k * 7 + 2 + m by omega] at yS
                go_roundw
                case rel => exact ⟨m + 1, by omega, by go_num, yS, (yK.ext hEZ5).met (by omega) (by omega) _ _, (yD.ext hEZ5).other (by simp; omega) _, ⟨(yA.1.ext hEZ5).other (by simp; omega) _, (yA.2.trans hEZ5).setCell (p := ⟨gm, k * 7 + 2 + m, none⟩) (by simp; omega) _⟩, yO.trans ((KeepsOthers.of_grownBy hEZ5.grownBy (fun j o e => by cases e)).trans (KeepsOthers.setCell _ _ _))⟩
                case measure => simp [intOf]; omega
              | false =>
                have hbit' : bits .and .i64 (y.carried / 2 ^ m) 1 = 0 := hbit
                clear hbit
                gi_wp2
                refine wpIn_region_ext 14 (fun _ _ d _ _ h => by cases d <;> exact h) (by rintro ⟨_, _, h⟩; first | exact h | exact h.elim) (by kernel_rfl) (by kernel_rfl) (by kernel_rfl) (by kernel_rfl) (by kernel_rfl) ?_
                simp only [List.take_succ_cons, List.take_zero, List.drop_succ_cons, List.drop_zero]
                repeat (any_goals (first | go_big_quiet_step (fail) | quiet_step (fail)))
                all_goals (refine wpQuiet_nil ?_; intro Z5 hEZ5)
                have yM5 := yM.ext hEZ5
                clear hmm hmf hmlt d0 d1
                have hmm5 := yM5.cell k (m + 2) hk (by omega)
                rw [metM_low, metF_many [] k hml, show k * 7 + (m + 2) = k * 7 + 2 + m by omega] at hmm5
                have hmf5 := yM5.free
                have hml5 := yM5.lt
                go_wp2
                gi_wp2
                have hv : metF c.loads.length ([] ++ [r]) k (m + 2) = ((cm : Int)) := by rw [metF_many _ k hml, HSN.out]; rfl
                have yS := yM5.set k (m + 2) hk (by omega) ((cm : Int))
                rw [metM_succ hv, show k * 7 + (m + 2) = k * 7 + 2 + m by omega] at yS
                go_roundw
                case rel => exact ⟨m + 1, by omega, by go_num, yS, (yK.ext hEZ5).met (by omega) (by omega) _ _, (yD.ext hEZ5).other (by simp; omega) _, ⟨(yA.1.ext hEZ5).other (by simp; omega) _, (yA.2.trans hEZ5).setCell (p := ⟨gm, k * 7 + 2 + m, none⟩) (by simp; omega) _⟩, yO.trans ((KeepsOthers.of_grownBy hEZ5.grownBy (fun j o e => by cases e)).trans (KeepsOthers.setCell _ _ _))⟩
                case measure => simp [intOf]; omega
            · obtain rfl : m = c.loads.length := by omega
              gi_wp2
              exact ⟨yO.from _, yA, ⟨yK, by rw [metM_all] at yM; exact yM⟩, g3.trans yO⟩
        · skip
          have hlen0 : 0 < rs.length := by cases rs with | nil => exact absurd rfl hrs0 | cons => simp
          have hne0 : ((rs.length : Int) == 0) = false := by rw [beq_eq_false_iff_ne]; omega
          gi_wp2
          have gM1 := g2
          have gK1 := g1
          have gD1 := hbd
          have gA1 := hA
          have gO1 := KeepsOthers.refl Z
          have hpc := plus_cell
          refine wpIn_region_ext 18 (fun _ _ d _ _ h => by cases d <;> exact h) (by rintro ⟨_, _, h⟩; first | exact h | exact h.elim) (by kernel_rfl) (by kernel_rfl) (by kernel_rfl) (by kernel_rfl) (by kernel_rfl) ?_
          simp only [List.take_succ_cons, List.take_zero, List.drop_succ_cons, List.drop_zero]
          repeat (any_goals (first | go_big_quiet_step (fail) | quiet_step (fail)))
          all_goals (refine wpQuiet_nil ?_; intro Z2 hEZ2)
          have gM2 := gM1.ext hEZ2
          have mf2 := gM2.free
          have ml2 := gM2.lt
          have mm0 := gM2.cell k 0 hk (by decide)
          have mm1 := gM2.cell k 1 hk (by decide)
          simp only [Nat.add_zero] at mm0
          clear hm0 hm1 hmf hml r0 r1 n1 n2 d0 d1
          go_wp2
          obtain ⟨Z3, hZ3⟩ : ∃ Z3, (Z2.setCell ⟨gm, k * 7, none⟩ (.int .i64 (min (C.lowOf rs k) y.e))).setCell ⟨gm, k * 7 + 1, none⟩ (.int .i64 (max (C.highOf rs k) y.e)) = Z3 := ⟨_, rfl⟩
          have gM3 : MetB N Z3 gm (metM c.loads.length rs r k 0) := by
            rw [← hZ3]
            have h := (gM2.set k 0 hk (by decide) (min (C.lowOf rs k) y.e)).set k 1 hk (by decide) (max (C.highOf rs k) y.e)
            rw [Nat.add_zero] at h
            refine h.congr fun d j _ => ?_
            rw [← metM_zero (n := c.loads.length) (rs := rs) (r := r) (k := k) (lo := min (C.lowOf rs k) y.e) (hi := max (C.highOf rs k) y.e) (by rw [metF_low, lowOf_snoc hrs0, HDT.out, imin_min]) (by rw [metF_high, highOf_snoc hrs0, HDT.out, imax_max])]
            (try rfl)
          have gK3 : KBox n0 gm bx c (.slice a c.loads.length cap) p b sk N rs.length Z3 := by rw [← hZ3]; exact ((gK1.ext hEZ2).met (by omega) (by omega) _ _).met (by omega) (by omega) _ _
          have gD3 : Blk Z3 bd #[.int .i64 y.e, .int .i64 y.carried] 41 := by rw [← hZ3]; exact ((gD1.ext hEZ2).other (by simp; omega) _).other (by simp; omega) _
          have gA3 : DaysAt w c (.slice a c.loads.length cap) p b 0 x.1 br (k + 1) Z3 := by
            rw [← hZ3]
            exact ⟨((gA1.1.ext hEZ2).other (by simp; omega) _).other (by simp; omega) _, ((gA1.2.trans hEZ2).setCell (p := ⟨gm, k * 7, none⟩) (by simp; omega) _).setCell (p := ⟨gm, k * 7 + 1, none⟩) (by simp; omega) _⟩
          have gO3 : KeepsOthers Z Z3 := by rw [← hZ3]; exact gO1.trans ((KeepsOthers.of_grownBy hEZ2.grownBy (fun j o e => by cases e)).trans ((KeepsOthers.setCell _ _ _).trans (KeepsOthers.setCell _ _ _)))
          rw [hZ3]
          clear hZ3 mm0 mm1 mf2 ml2 gM2 gK1 gD1 gA1 gO1 gM1
          have s0 := gK3.sys.cell
          have s1 := gK3.sys.lt
          gi_wp2
          clear s0 s1
          gi_loopw [17, 90] (fun _ i Zy => ∃ m : Nat, m ≤ c.loads.length ∧ i = .int .i64 m ∧ MetB N Zy gm (metM c.loads.length rs r k m) ∧ KBox n0 gm bx c (.slice a c.loads.length cap) p b sk N rs.length Zy ∧ Blk Zy bd #[.int .i64 y.e, .int .i64 y.carried] 41 ∧ DaysAt w c (.slice a c.loads.length cap) p b 0 x.1 br (k + 1) Zy ∧ KeepsOthers Z Zy) (fun _ i _ => c.loads.length - (intOf i).toNat)
          case atStart => exact ⟨0, Nat.zero_le _, rfl, gM3, gK3, gD3, gA3, gO3⟩
          case round =>
            rename World => Zy
            obtain ⟨m, hm, rfl, yM, yK, yD, yA, yO⟩ := hrel
            by_cases hml : m < c.loads.length
            · have hbit := bit_has y.carried m hyc.1 hyc.2
              have hmm := yM.cell k (m + 2) hk (by omega)
              rw [metM_low, metF_many rs k hml, show k * 7 + (m + 2) = k * 7 + 2 + m by omega] at hmm
              have hmf := yM.free
              have hmlt := yM.lt
              have d0 := yD.cell
              have d1 := yD.lt
              have hle := many_le rs k m
              have hsn := many_snoc rs r k m
              rw [HDT.out] at hsn
              dsimp only at hsn
              obtain ⟨H, hH⟩ : ∃ H, C.has y.carried m = H := ⟨_, rfl⟩
              rw [hH] at hbit hsn
              obtain ⟨cm, hcm⟩ : ∃ cm, C.many rs k m = cm := ⟨_, rfl⟩
              rw [hcm] at hmm hle hsn
              have HSN := Lib.hid hsn
              have hml2 : m < 5 := by omega
              clear hsn hH hcm
              have hpc := plus_cell
              cases H with
              | true =>
                have hbit' : bits .and .i64 (y.carried / 2 ^ m) 1 = 1 := hbit
                clear hbit
                gi_wp2
                refine wpIn_region_ext 14 (fun _ _ d _ _ h => by cases d <;> exact h) (by rintro ⟨_, _, h⟩; first | exact h | exact h.elim) (by kernel_rfl) (by kernel_rfl) (by kernel_rfl) (by kernel_rfl) (by kernel_rfl) ?_
                simp only [List.take_succ_cons, List.take_zero, List.drop_succ_cons, List.drop_zero]
                repeat (any_goals (first | go_big_quiet_step (fail) | quiet_step (fail)))
                all_goals (refine wpQuiet_nil ?_; intro Z5 hEZ5)
                have yM5 := yM.ext hEZ5
                clear hmm hmf hmlt d0 d1
                have hmm5 := yM5.cell k (m + 2) hk (by omega)
                rw [metM_low, metF_many rs k hml, show k * 7 + (m + 2) = k * 7 + 2 + m by omega] at hmm5
                have hmf5 := yM5.free
                have hml5 := yM5.lt
                go_wp2
                gi_wp2
                have hv : metF c.loads.length (rs ++ [r]) k (m + 2) = ((cm : Int) + 1) := by rw [metF_many _ k hml, HSN.out]; push_cast; rfl
                have yS := yM5.set k (m + 2) hk (by omega) ((cm : Int) + 1)
                rw [metM_succ hv, show k * 7 + (m + 2) = k * 7 + 2 + m by omega] at yS
                go_roundw
                case rel => exact ⟨m + 1, by omega, by go_num, yS, (yK.ext hEZ5).met (by omega) (by omega) _ _, (yD.ext hEZ5).other (by simp; omega) _, ⟨(yA.1.ext hEZ5).other (by simp; omega) _, (yA.2.trans hEZ5).setCell (p := ⟨gm, k * 7 + 2 + m, none⟩) (by simp; omega) _⟩, yO.trans ((KeepsOthers.of_grownBy hEZ5.grownBy (fun j o e => by cases e)).trans (KeepsOthers.setCell _ _ _))⟩
                case measure => simp [intOf]; omega
              | false =>
                have hbit' : bits .and .i64 (y.carried / 2 ^ m) 1 = 0 := hbit
                clear hbit
                gi_wp2
                refine wpIn_region_ext 14 (fun _ _ d _ _ h => by cases d <;> exact h) (by rintro ⟨_, _, h⟩; first | exact h | exact h.elim) (by kernel_rfl) (by kernel_rfl) (by kernel_rfl) (by kernel_rfl) (by kernel_rfl) ?_
                simp only [List.take_succ_cons, List.take_zero, List.drop_succ_cons, List.drop_zero]
                repeat (any_goals (first | go_big_quiet_step (fail) | quiet_step (fail)))
                all_goals (refine wpQuiet_nil ?_; intro Z5 hEZ5)
                have yM5 := yM.ext hEZ5
                clear hmm hmf hmlt d0 d1
                have hmm5 := yM5.cell k (m + 2) hk (by omega)
                rw [metM_low, metF_many rs k hml, show k * 7 + (m + 2) = k * 7 + 2 + m by omega] at hmm5
                have hmf5 := yM5.free
                have hml5 := yM5.lt
                go_wp2
                gi_wp2
                have hv : metF c.loads.length (rs ++ [r]) k (m + 2) = ((cm : Int)) := by rw [metF_many _ k hml, HSN.out]; rfl
                have yS := yM5.set k (m + 2) hk (by omega) ((cm : Int))
                rw [metM_succ hv, show k * 7 + (m + 2) = k * 7 + 2 + m by omega] at yS
                go_roundw
                case rel => exact ⟨m + 1, by omega, by go_num, yS, (yK.ext hEZ5).met (by omega) (by omega) _ _, (yD.ext hEZ5).other (by simp; omega) _, ⟨(yA.1.ext hEZ5).other (by simp; omega) _, (yA.2.trans hEZ5).setCell (p := ⟨gm, k * 7 + 2 + m, none⟩) (by simp; omega) _⟩, yO.trans ((KeepsOthers.of_grownBy hEZ5.grownBy (fun j o e => by cases e)).trans (KeepsOthers.setCell _ _ _))⟩
                case measure => simp [intOf]; omega
            · obtain rfl : m = c.loads.length := by omega
              gi_wp2
              exact ⟨yO.from _, yA, ⟨yK, by rw [metM_all] at yM; exact yM⟩, g3.trans yO⟩
      case idone =>
        rintro Z ⟨⟨g1, g2⟩, g3⟩ hA
        have n0' := g1.mny.cell
        have n1 := g1.mny.lt
        have n2 := g1.mny.free
        have hrl2 : rs.length ≤ 1023 := by omega
        gi_wp2
        have hZs := g3.size
        have hmn : Blk (Z.setCell ⟨gm + 1 + 1, 0, none⟩ (.int .i64 ((rs.length : Int) + 1))) (gm + 1 + 1) #[.int .i64 ((rs.length : Int) + 1)] 3 := by simpa using g1.mny.set 0 (.int .i64 ((rs.length : Int) + 1))
        have hKf : KBox n0 gm bx c (.slice a c.loads.length cap) p b sk N (rsOf c p b sk.data.toList (pre ++ [x])).length (Z.setCell ⟨gm + 1 + 1, 0, none⟩ (.int .i64 ((rs.length : Int) + 1))) := by
          rw [rsOf_snoc_yes HB.out, HRS.out, List.length_append]
          exact ⟨g1.sys.other (by simp; omega) _, g1.sky.other (by simp; omega) _, g1.sto.other (by simp; omega) _, g1.row.other (by simp) _, by simpa using hmn, g1.box.other (by simp; omega) _⟩
        have hEf : Ext w (Z.setCell ⟨gm + 1 + 1, 0, none⟩ (.int .i64 ((rs.length : Int) + 1))) := hA.2.setCell (p := ⟨gm + 1 + 1, 0, none⟩) (by simp; omega) _
        refine ⟨((g3.trans (KeepsOthers.setCell _ _ _))).from _, ⟨below_of_ext hEY hEf (by rw [size_setCell]; exact hZs), ?_⟩, ⟨hKf, ?_⟩, hEf⟩
        · have h1 : (Z.setCell ⟨gm + 1 + 1, 0, none⟩ (.int .i64 ((rs.length : Int) + 1))).heap[bx]? = _ := hKf.box
          have h2 : Y.heap[bx]? = _ := hKBx
          rw [h1, h2]
        · rw [rsOf_snoc_yes HB.out, HRS.out]
          have h1 := g2.congr (f' := metF c.loads.length (rs ++ [r])) (fun d j hd => metK_all rs r hd)
          rw [HRR.out, HT.out] at h1
          exact h1.other (by simp; omega) _
  case done =>
    rintro D xs Y hD hS ⟨⟨hKB, hMB⟩, hEY⟩ hK
    have hrs : rsOf c p b sk.data.toList xs = R := by rw [rsOf_all hS, HR.out]
    have hlx : R.length ≤ 1024 := by
      rw [← hrs]; refine Nat.le_trans (rsOf_len c p b _ xs) ?_
      rw [← List.length_map (f := Wt.txt), hS]; exact weathers_many c HNT.out hN10
    rw [hrs] at hKB hMB
    have n0' := hKB.mny.cell
    have n1 := hKB.mny.lt
    clear hS hrs
    by_cases hR0 : R = []
    · subst hR0
      go_wp2
      refine ⟨by simp, .inl ⟨_, _, rfl, run_takeDeferred hK, ?_⟩⟩
      refine ⟨.tuple #[.slice none 0 0, .int .i64 5], by simp [results, Try.results28, go_sem], _, rfl, Seens.nil _, ?_⟩
      exact Below.trans hEY (belowK_b (w := w) (Nat.le_refl _) Y D _ _ (by have := hE7.size; omega) hK rfl rfl)
    · skip
      have hlen0 : 0 < R.length := by cases R with | nil => exact absurd rfl hR0 | cons => simp
      have hne0 : ((R.length : Int) == 0) = false := by rw [beq_eq_false_iff_ne]; omega
      have r0 := hKB.row.cell
      have r1 := hKB.row.lt
      go_wp2
      clear n0' n1 r0 r1
      go_loopw [18, 20, 21, 22, 115] (fun out _ _ _ i Yk => ∃ (k : Nat) (ss : List (C.Seen × Value)), k ≤ N ∧ i = .int .i64 k ∧ ss.map Prod.fst = (List.range k).map (C.seenAt c R) ∧ Yk.ownsRow Y.heap.size 54 3 out k (ss.flatMap seenC) ∧ (∀ s ∈ ss, Yk.ownsRow Y.heap.size 55 1 s.2 s.1.loads.length (s.1.loads.map (Value.int .i64))) ∧ Ext Y Yk) (fun _ _ _ _ i _ => N - (intOf i).toNat)
      case atStart => exact ⟨0, [], Nat.zero_le _, rfl, rfl, World.ownsRow_nil _ _ _ _, (fun s h => by cases h), Ext.refl _⟩
      case round =>
        rename World => Yk
        obtain ⟨k, ss, hk, rfl, hss, hown, hws, hEk⟩ := hrel
        have HSS := Lib.hid hss
        have HWS := Lib.hid hws
        clear hss hws
        by_cases hkl : k < N
        · have hMk := hMB.ext hEk
          have m0 := hMk.cell k 0 hkl (by decide)
          have m1 := hMk.cell k 1 hkl (by decide)
          have m2 := hMk.cell k 2 hkl (by decide)
          have m3 := hMk.cell k 3 hkl (by decide)
          have m4 := hMk.cell k 4 hkl (by decide)
          have m5 := hMk.cell k 5 hkl (by decide)
          have m6 := hMk.cell k 6 hkl (by decide)
          have ml := hMk.lt
          have s0 := (hKB.sys.ext hEk).cell
          have s1 := (hKB.sys.ext hEk).lt
          simp only [Nat.add_zero] at m0
          obtain ⟨q, hq⟩ : ∃ q : Nat → Int, q = metF c.loads.length R k := ⟨_, rfl⟩
          rw [← hq] at m0 m1 m2 m3 m4 m5 m6
          have HQ := Lib.hid hq
          clear hq
          go_wp2
          obtain ⟨b0, hb0⟩ : ∃ b0, Yk.heap.size = b0 := ⟨_, rfl⟩
          obtain ⟨Y1, hY1⟩ : ∃ Y1, (Yk.alloc (.cells #[.int .i64 (q 0), .int .i64 (q 1), .int .i64 (q 2), .int .i64 (q 3), .int .i64 (q 4), .int .i64 (q 5), .int .i64 (q 6)] 101)).alloc (.cells #[.int .i64 (q 0), .int .i64 (q 1), .slice none 0 0] 54) = Y1 := ⟨_, rfl⟩
          have hA1 : Blk Y1 b0 #[.int .i64 (q 0), .int .i64 (q 1), .int .i64 (q 2), .int .i64 (q 3), .int .i64 (q 4), .int .i64 (q 5), .int .i64 (q 6)] 101 := by rw [← hY1]; exact (Blk.new' hb0.symm _ _).alloc _
          have hB1 : Blk Y1 (b0 + 1) #[.int .i64 (q 0), .int .i64 (q 1), .slice none 0 0] 54 := by rw [← hY1]; exact Blk.new' (by simp [hb0]) _ _
          have hE1 : Ext Yk Y1 := by rw [← hY1]; exact ((Ext.refl Yk).alloc _).alloc _
          have hz1 : b0 + 2 = Y1.heap.size := by rw [← hY1, ← hb0]; simp
          rw [hb0, hY1]
          have hkz := hEk.size
          rw [hb0] at hkz
          have hmq : gm < b0 := by omega
          have hmy : gm + 1 + 1 < Yk.heap.size := by have := (hKB.mny.ext hEk).lt; omega
          rw [hb0] at hmy
          have HB0 := Lib.hid hb0
          clear hY1 m0 m1 m2 m3 m4 m5 m6 ml s0 s1 hb0
          go_loopw [22, 125] (fun _ i Yi => ∃ (m : Nat) (vw : Value), m ≤ c.loads.length ∧ i = .int .i64 m ∧ Yi.ownsRow (b0 + 2) 55 1 vw m ((wordsTo R k m).map (Value.int .i64)) ∧ Blk Yi b0 #[.int .i64 (q 0), .int .i64 (q 1), .int .i64 (q 2), .int .i64 (q 3), .int .i64 (q 4), .int .i64 (q 5), .int .i64 (q 6)] 101 ∧ Blk Yi (b0 + 1) #[.int .i64 (q 0), .int .i64 (q 1), vw] 54 ∧ Ext Yk Yi ∧ b0 + 2 ≤ Yi.heap.size) (fun _ i _ => c.loads.length - (intOf i).toNat)
          case atStart => exact ⟨0, _, Nat.zero_le _, rfl, World.ownsRow_nil _ _ _ _, hA1, hB1, hE1, by omega⟩
          case round =>
            rename World => Yi
            obtain ⟨m, vw, hm, rfl, hwo, hA2, hB2, hE2, hyi2⟩ := hrel
            have hw' := HWS.out
            obtain ⟨a9, c9, rfl⟩ := own_slice hwo
            by_cases hml : m < c.loads.length
            · have hmn2 := (hKB.mny.ext hEk).ext hE2
              have hqm : q (m + 2) = (C.many R k m : Int) := by rw [HQ.out]; exact metF_many R k hml
              have hc20 : ∀ y : World, (∀ o, y.cell? ⟨b0, o, none⟩ = (#[.int .i64 (q 0), .int .i64 (q 1), .int .i64 (q 2), .int .i64 (q 3), .int .i64 (q 4), .int .i64 (q 5), .int .i64 (q 6)] : Array Value)[o]?) → y.cell? ⟨b0, 2 + m, none⟩ = some (.int .i64 (C.many R k m : Int)) := fun y hy => by rw [hy, ← hqm]; exact met_at q m (by omega)
              have HC20 := Lib.hid hc20
              clear hc20 hqm
              have hle := many_le R k m
              have hwd := fun w' => word_any (C.many R k m) R.length w' (by omega) (by omega)
              have hws := wordsTo_succ R k m
              obtain ⟨cm, hcm⟩ : ∃ cm, C.many R k m = cm := ⟨_, rfl⟩
              rw [hcm] at HC20 hws hle
              simp only [hcm] at hwd
              have HWD := Lib.hid hwd
              have HWSS := Lib.hid hws
              clear hwd hws hcm
              have hml2 : m < 5 := by omega
              have hml3 : (m : Int) < 5 := by omega
              go_upto_region 32 with (fail)
              have hAd := hA2.drew
              have hBd := hB2.drew
              have hNd := hmn2.drew
              refine wp_region_lateN 11 (fun cc (y : World) => cc = false → ((∀ o, y.cell? ⟨b0, o, none⟩ = (#[.int .i64 (q 0), .int .i64 (q 1), .int .i64 (q 2), .int .i64 (q 3), .int .i64 (q 4), .int .i64 (q 5), .int .i64 (q 6)] : Array Value)[o]?) ∧ (∀ o, y.cell? ⟨b0 + 1, o, none⟩ = (#[.int .i64 (q 0), .int .i64 (q 1), .slice a9 m c9] : Array Value)[o]?) ∧ y.cell? ⟨gm + 1 + 1, 0, none⟩ = some (.int .i64 (R.length : Int)))) (by kernel_rfl) (fun hL => ?_)
              refine late_early (i := 0) (v := ?_) rfl (by kernel_rfl) (by kernel_rfl) (by kernel_rfl) (by decide) (by kernel_rfl) (fun _ _ _ h => h) hL (Or.inl ⟨by rfl, ?_⟩) (fun _ => ⟨hAd.cell, hBd.cell, hNd.cell 0⟩) (fun hL' => ?_)
              rotate_left
              · intro y hy; clear hy; go_simp; (try with_reducible rfl)
              clear hL; rename Shutb _ _ => hL
              (try simp only [Act.put, List.getElem_toArray, List.getElem_cons_zero, List.getElem_cons_succ, List.setIfInBounds_toArray, List.set_cons_zero, List.set_cons_succ])
              refine late_early (i := 1) (v := ?_) rfl (by kernel_rfl) (by kernel_rfl) (by kernel_rfl) (by decide) (by kernel_rfl) (fun _ _ _ h => h) hL (Or.inl ⟨by rfl, ?_⟩) (fun _ => ⟨hAd.cell, hBd.cell, hNd.cell 0⟩) (fun hL' => ?_)
              rotate_left
              · intro y hy; have hz := hy rfl; clear hy; obtain ⟨_, z2, _⟩ := hz; go_simp; (try with_reducible rfl)
              clear hL; rename Shutb _ _ => hL
              (try simp only [Act.put, List.getElem_toArray, List.getElem_cons_zero, List.getElem_cons_succ, List.setIfInBounds_toArray, List.set_cons_zero, List.set_cons_succ])
              refine late_early (i := 2) (v := ?_) rfl (by kernel_rfl) (by kernel_rfl) (by kernel_rfl) (by decide) (by kernel_rfl) (fun _ _ _ h => h) hL (Or.inl ⟨by rfl, ?_⟩) (fun _ => ⟨hAd.cell, hBd.cell, hNd.cell 0⟩) (fun hL' => ?_)
              rotate_left
              · intro y hy; clear hy; go_simp; (try with_reducible rfl)
              clear hL; rename Shutb _ _ => hL
              (try simp only [Act.put, List.getElem_toArray, List.getElem_cons_zero, List.getElem_cons_succ, List.setIfInBounds_toArray, List.set_cons_zero, List.set_cons_succ])
              refine late_early (i := 3) (v := ?_) rfl (by kernel_rfl) (by kernel_rfl) (by kernel_rfl) (by decide) (by kernel_rfl) (fun _ _ _ h => h) hL (Or.inl ⟨by rfl, ?_⟩) (fun _ => ⟨hAd.cell, hBd.cell, hNd.cell 0⟩) (fun hL' => ?_)
              rotate_left
              · intro y hy; clear hy; go_simp; (try with_reducible rfl)
              clear hL; rename Shutb _ _ => hL
              (try simp only [Act.put, List.getElem_toArray, List.getElem_cons_zero, List.getElem_cons_succ, List.setIfInBounds_toArray, List.set_cons_zero, List.set_cons_succ])
              refine late_early (i := 4) (v := ?_) rfl (by kernel_rfl) (by kernel_rfl) (by kernel_rfl) (by decide) (by kernel_rfl) (fun _ _ _ h => h) hL (Or.inl ⟨by rfl, ?_⟩) (fun _ => ⟨hAd.cell, hBd.cell, hNd.cell 0⟩) (fun hL' => ?_)
              rotate_left
              · intro y hy; clear hy; go_simp; (try with_reducible rfl)
              clear hL; rename Shutb _ _ => hL
              (try simp only [Act.put, List.getElem_toArray, List.getElem_cons_zero, List.getElem_cons_succ, List.setIfInBounds_toArray, List.set_cons_zero, List.set_cons_succ])
              refine late_early (i := 5) (v := ?_) rfl (by kernel_rfl) (by kernel_rfl) (by kernel_rfl) (by decide) (by kernel_rfl) (fun _ _ _ h => h) hL (Or.inl ⟨by rfl, ?_⟩) (fun _ => ⟨hAd.cell, hBd.cell, hNd.cell 0⟩) (fun hL' => ?_)
              rotate_left
              · intro y hy; have hz := hy rfl; clear hy; obtain ⟨z1, _, _⟩ := hz; have z9 := HC20.out y z1; clear z1; go_simp; (try with_reducible rfl)
              clear hL; rename Shutb _ _ => hL
              (try simp only [Act.put, List.getElem_toArray, List.getElem_cons_zero, List.getElem_cons_succ, List.setIfInBounds_toArray, List.set_cons_zero, List.set_cons_succ])
              refine late_early (i := 6) (v := ?_) rfl (by kernel_rfl) (by kernel_rfl) (by kernel_rfl) (by decide) (by kernel_rfl) (fun _ _ _ h => h) hL (Or.inl ⟨by rfl, ?_⟩) (fun _ => ⟨hAd.cell, hBd.cell, hNd.cell 0⟩) (fun hL' => ?_)
              rotate_left
              · intro y hy; have hz := hy rfl; clear hy; obtain ⟨_, _, z3⟩ := hz; go_simp; (try with_reducible rfl)
              clear hL; rename Shutb _ _ => hL
              (try simp only [Act.put, List.getElem_toArray, List.getElem_cons_zero, List.getElem_cons_succ, List.setIfInBounds_toArray, List.set_cons_zero, List.set_cons_succ])
              refine late_one (i := 7) (by kernel_rfl) hL (fun hL' => ?_)
              refine wpOp_step rfl (fun K hK0 => ?_)
              have hK : Shut _ := hK0
              clear hK0
              go_simp
              go_wp2_with (first | (go_at_call 56; refine (HWD.out _).mono ?_; rintro e w4 ⟨rfl, rfl⟩))
              refine hK.out _ _ ⟨fun _ => ⟨hAd.cell, hBd.cell, hNd.cell 0⟩, ?_⟩
              clear hK K; clear hL; rename Shutb _ _ => hL
              (try simp only [Act.put, List.getElem_toArray, List.getElem_cons_zero, List.getElem_cons_succ, List.setIfInBounds_toArray, List.set_cons_zero, List.set_cons_succ])
              refine late_one (i := 8) (by kernel_rfl) hL (fun hL' => ?_)
              refine wpOp_step rfl (fun K hK0 => ?_)
              have hK : Shut _ := hK0
              clear hK0
              go_simp
              have hW1 : Blk (Yi.alloc (.cells #[.int .i64 (C.word cm R.length)] 55)).drew Yi.heap.size #[.int .i64 (C.word cm R.length)] 55 := Blk.drew (Blk.new _ _ _)
              have hA3 := (hA2.alloc (.cells #[.int .i64 (C.word cm R.length)] 55)).drew
              have hB3 := (hB2.alloc (.cells #[.int .i64 (C.word cm R.length)] 55)).drew
              have hN3 := (hmn2.alloc (.cells #[.int .i64 (C.word cm R.length)] 55)).drew
              have hE3 : Ext Yk (Yi.alloc (.cells #[.int .i64 (C.word cm R.length)] 55)).drew := (hE2.alloc _).drew
              have hO3 := own_ext hwo (((Ext.refl Yi).alloc (.cells #[.int .i64 (C.word cm R.length)] 55)).drew)
              obtain ⟨Yj, hYj⟩ : ∃ Yj, (Yi.alloc (.cells #[.int .i64 (C.word cm R.length)] 55)).drew = Yj := ⟨_, rfl⟩
              have hzj : Yj.heap.size = Yi.heap.size + 1 := by rw [← hYj]; simp [size_drew]
              rw [hYj] at hW1 hA3 hB3 hN3 hE3 hO3 ⊢
              clear hYj
              refine hK.out _ _ ⟨fun _ => ⟨hA3.cell, hB3.cell, hN3.cell 0⟩, ?_⟩
              clear hK K; clear hL; rename Shutb _ _ => hL
              (try simp only [Act.put, List.getElem_toArray, List.getElem_cons_zero, List.getElem_cons_succ, List.setIfInBounds_toArray, List.set_cons_zero, List.set_cons_succ])
              refine late_one (i := 9) (by kernel_rfl) hL (fun hL' => ?_)
              refine wpOp_step rfl (fun K hK0 => ?_)
              have hK : Shut _ := hK0
              clear hK0
              refine step_append_word _ rfl _ _ rfl (b0 + 2) (.slice a9 m c9) m _ (C.word cm R.length) Yi.heap.size rfl rfl hO3 hW1 (by omega) (by omega) ?_
              intro v7 w7' hO4 hg4
              have hA4 := Blk.grown hA3 hg4 (own_base hO3) (by omega)
              have hB4 := Blk.grown hB3 hg4 (own_base hO3) (by omega)
              have hN4 := Blk.grown hN3 hg4 (own_base hO3) (by omega)
              have hE4 : Ext Yk w7' := Ext.grown hE3 hg4 (fun r e => by have := own_base hO3 r e; have := HB0.out; omega)
              have hs4 := hg4.size
              obtain ⟨g7, c7, rfl⟩ := own_succ hO4
              refine hK.out _ _ ⟨fun _ => ⟨hA4.cell, hB4.cell, hN4.cell 0⟩, ?_⟩
              clear hK K; clear hL; rename Shutb _ _ => hL
              (try simp only [Act.put, List.getElem_toArray, List.getElem_cons_zero, List.getElem_cons_succ, List.setIfInBounds_toArray, List.set_cons_zero, List.set_cons_succ])
              refine late_one (i := 10) (by kernel_rfl) hL (fun hL' => ?_)
              refine wpOp_step rfl (fun K hK0 => ?_)
              have hK : Shut _ := hK0
              clear hK0
              go_simp
              refine hK.out _ _ ⟨fun _ => ⟨hA4.cell, hB4.cell, hN4.cell 0⟩, ?_⟩
              clear hK K; clear hL; rename Shutb _ _ => hL
              (try simp only [Act.put, List.getElem_toArray, List.getElem_cons_zero, List.getElem_cons_succ, List.setIfInBounds_toArray, List.set_cons_zero, List.set_cons_succ])
              refine late_one (i := 11) (by kernel_rfl) hL (fun hL' => ?_)
              refine wpOp_step rfl (fun K hK0 => ?_)
              have hK : Shut _ := hK0
              clear hK0
              have e0 := hB4.cell
              have e1 := hB4.lt
              have e2 := hB4.free
              go_simp
              refine hK.out _ _ ⟨fun e => absurd (e : true = false) (by decide), ?_⟩
              clear hK K; clear hL; rename Shutb _ _ => hL
              (try simp only [Act.put, List.getElem_toArray, List.getElem_cons_zero, List.getElem_cons_succ, List.setIfInBounds_toArray, List.set_cons_zero, List.set_cons_succ])
              refine late_done (by kernel_rfl) ?_
              (try dsimp only [Exit.then])
              clear e0 e1 e2
              go_wp2
              go_roundw
              case rel => exact ⟨m + 1, _, by omega, by go_num, by rw [HWSS.out, List.map_append]; exact own_move hO4 fun g cur hg _ => Below.heap_setCell _ _ _ _ (by simp; omega), hA4.other (by simp) _, by simpa using hB4.set 2 (.slice (some ⟨g7, 0, none⟩) (m + 1) c7), hE4.setCell (p := ⟨b0 + 1, 2, none⟩) (by simp; have := HB0.out; omega) _, by rw [size_setCell]; omega⟩
              case measure => simp [intOf]; omega
            · obtain rfl : m = c.loads.length := by omega
              have d0 := hB2.cell
              have d1 := hB2.lt
              have hsn : ss.length = k := by have := congrArg List.length HSS.out; simpa using this
              have hoS := own_ext hown hE2
              have hkz2 := hE2.size
              obtain ⟨a8, c8, rfl⟩ := own_slice hoS
              have hb0k := HB0.out
              have HSN := Lib.hid hsn
              have HB1 := Lib.hid hb0k
              clear hsn hb0k
              have hbY : Y.heap.size ≤ Yi.heap.size := by omega
              go_wp2_with ((at_builtin; refine wpList_append_own _ rfl _ _ 47 rfl (Y.heap.size) 54 is0 (.agg #[.int .i64 0, .int .i64 0, .slice none 0 0]) 3 40 Try.underlying47 his hsz0 hsz1 hsz2 rfl (by decide) _ _ _ rfl (own_ext hoS ((Ext.refl _).alloc _)) ⟨Yi.heap.size, 0, none⟩ 1 1 [.int .i64 (q 0), .int .i64 (q 1), .slice a9 c.loads.length c9] rfl rfl (cell_three _ _ _ _ _ (by simp)) (by intro u hu; simp at hu; rcases hu with rfl | rfl | rfl <;> rfl) (by unfold maxLen; omega) (by omega) (by simp; omega) ?_; intro v' w6 hown' hgrow _))
              have hEz : Ext Yi (Yi.alloc (.cells #[.int .i64 (q 0), .int .i64 (q 1), .slice a9 c.loads.length c9] 54)) := (Ext.refl _).alloc _
              have hE9 : Ext Y w6 := Ext.grown (((hEk.trans hE2)).trans hEz) hgrow (own_base hoS)
              go_roundw
              case rel =>
                refine ⟨k + 1, ss ++ [(C.seenAt c R k, .slice a9 c.loads.length c9)], by omega, by go_num, ?_, ?_, ?_, hE9⟩
                · rw [List.map_append, HSS.out, List.range_succ, List.map_append]; rfl
                · rw [List.flatMap_append]
                  have e9 : [(C.seenAt c R k, Value.slice a9 c.loads.length c9)].flatMap seenC = [.int .i64 (q 0), .int .i64 (q 1), .slice a9 c.loads.length c9] := by rw [HQ.out]; rfl
                  rw [e9]; exact hown'
                · intro s hs'
                  rw [List.mem_append] at hs'
                  rcases hs' with hs' | hs'
                  · exact own_apart (own_ext (own_ext (HWS.out s hs') hE2) hEz) (own_ext hoS hEz) (by decide) hgrow
                  · rw [List.mem_singleton] at hs'
                    subst hs'
                    have h9 := own_apart (own_ext hwo hEz) (own_ext hoS hEz) (by decide) hgrow
                    rw [seenAt_eq]
                    dsimp only
                    rw [wordsTo_len]
                    exact own_mono h9 (by have := HB1.out; omega)
              case measure => simp [intOf]; omega
        · obtain rfl : N = k := by omega
          go_wp2
          have hKk : Yk.heap[D]? = some (.deferred (some [])) := (hEk.block D (Array.getElem?_eq_some_iff.1 hK).1).trans hK
          refine ⟨by simp, .inl ⟨_, _, rfl, run_takeDeferred hKk, ?_⟩⟩
          obtain ⟨a9, c9, rfl⟩ := own_slice hown
          have hlk : ss.length = N := by have := congrArg List.length HSS.out; simpa using this
          have hmv : ∀ (g : Nat) (cur : Array Value) (e : TypeId), Yk.heap[g]? = some (.cells cur e (0, 0)) → (Yk.putObj D (.deferred none)).heap[g]? = Yk.heap[g]? := fun g cur e hg0 => (grownBy_putObj' Yk D _).block g (Array.getElem?_eq_some_iff.1 hg0).1 (by first | exact (dne D g cur hKk hg0).1 | exact (dne D g cur hKk hg0).2.1 | exact (dne D g cur hKk hg0).2.2.1 | exact (dne D g cur hKk hg0).2.2.2)
          have hown' : (Yk.putObj D (.deferred none)).ownsRow Y.heap.size 54 3 (.slice a9 N c9) N (ss.flatMap seenC) := own_move hown fun g cur _ hg0 => hmv g cur _ hg0
          have hws' : ∀ s ∈ ss, (Yk.putObj D (.deferred none)).ownsRow Y.heap.size 55 1 s.2 s.1.loads.length (s.1.loads.map (Value.int .i64)) := fun s hs => own_move (HWS.out s hs) fun g cur _ hg0 => hmv g cur _ hg0
          refine ⟨.tuple #[.slice a9 N c9, .int .i64 0], by simp [results, Try.results28, go_sem], .slice a9 N c9, ?_, ?_, ?_⟩
          · first | rfl | rw [if_neg hR0]
          · (try rw [if_neg hR0])
            have hsn : C.seen c R = ss.map Prod.fst := by rw [HSS.out]; unfold C.seen; rw [HNT.out]
            rw [hsn]
            exact seens_of (by rw [hlk]; exact hown') hws'
          · exact Below.trans (hEY.trans hEk) (belowK_b (w := w) (Nat.le_refl _) Yk D _ _ (by have := hE7.size; omega) hKk rfl rfl)
  case stop =>
    rintro D cd pre Y _ _ h _
    exact h.elim
end Go.Proofs.Ytkjoojmlcjmlgaa
