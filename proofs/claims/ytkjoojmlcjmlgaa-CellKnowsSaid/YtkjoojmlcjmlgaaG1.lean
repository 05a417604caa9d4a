/- Play: the ends of all days, and the ledger. -/
import Derived.Test.YtkjoojmlcjmlgaaIt2
namespace Go.Proofs.Ytkjoojmlcjmlgaa
set_option linter.unusedVariables false
set_option linter.unusedSimpArgs false
open Go.RowKit Go.Shelf
attribute [local go_sem] Oper.semAt_some
theorem day_info : (Try.prog.info? 41).map (fun i => (i.zero, i.size, i.bytes)) = some (some (.agg #[.int .i64 0, .int .i64 0]), 2, 16) := by kernel_rfl
abbrev ledV (l : C.Ledger) : Array Value := #[.int .i64 l.start, .int .i64 l.sun, .int .i64 l.used, .int .i64 l.lost, .int .i64 l.faded, .int .i64 l.left]
def C.noLedger : C.Ledger := ⟨0, 0, 0, 0, 0, 0⟩
/-- Whether a question about a weather is as defined. -/
def playB (c : C.Sys) (p b off : Int) (t : C.Txt) : Bool := (C.sysB c && C.partsB p b && C.offB c off) && C.weatherB c t
def codeOf (B : Bool) : Int := if B then 0 else 2
theorem letters_sc (s : ByteArray) (d : Int) (w : World) (hs : s.size ≤ 1000000) :
    Calls Try.prog 50 #[.string s, .int .i64 d, .string ⟨#[115, 99]⟩] w fun e w' => e = .returned (.bool (s.data.toList.all C.letterB && decide ((s.size : Int) = d))) ∧ Ext w w' := by
  refine (letters_any s ⟨#[115, 99]⟩ d w hs (by decide) (by decide)).mono ?_
  rintro e w' ⟨rfl, h⟩
  refine ⟨?_, h⟩
  have e1 : (fun x => (⟨#[115, 99]⟩ : ByteArray).data.toList.contains x) = C.letterB := by
    funext x; simp [C.letterB, List.contains_eq_any_beq]; rfl
  rw [e1]
/-- What the assignment to the loop's variables leaves: the day in a box of its own. -/
def AxD (B : Nat) (c : C.Sys) (p b off : Int) (T : C.Txt) (TM : Nat → Nat → Array Value) (k : Nat) (a' : Act) (Y : World) : Prop :=
  ∃ bx, Blk Y bx #[.int .i64 (C.stateAt c p b off T (k + 1)).e, .int .i64 (C.stateAt c p b off T (k + 1)).carried] 41 ∧ B ≤ bx ∧ a' = { tmps := TM k bx, defers := [] }
theorem AxD.own (B B' : Nat) (c : C.Sys) (p b off : Int) (T : C.Txt) (TM : Nat → Nat → Array Value) : ∀ k, OwnFrom B' (AxD B c p b off T TM k) := by
  rintro k a' A B row ⟨bx, h1, h2, h3⟩ hg hr
  exact ⟨bx, h1.kept hg fun r e => (hr r e).2, h2, h3⟩
theorem dne {Y : World} (D g : Nat) (cur : Array Value) {e : TypeId} (h : Y.heap[D]? = some (.deferred (some []))) (h2 : Y.heap[g]? = some (.cells cur e (0, 0))) : some D ≠ some g ∧ some g ≠ some D ∧ D ≠ g ∧ g ≠ D := by
  have : D ≠ g := by rintro rfl; rw [h] at h2; cases h2
  refine ⟨by simpa using this, by simpa using this.symm, this, this.symm⟩
theorem C.parts_of {p b : Int} (h : C.partsB p b = true) : 0 ≤ p ∧ p ≤ 12 ∧ 0 ≤ b ∧ b ≤ 8 := by
  unfold C.partsB C.within at h
  simp only [Bool.and_eq_true, decide_eq_true_eq] at h
  omega
theorem C.off_of {c : C.Sys} {off : Int} (h : C.offB c off = true) : 0 ≤ off ∧ off < 2 ^ c.loads.length := by
  unfold C.offB C.within C.sets at h
  simp only [Bool.and_eq_true, decide_eq_true_eq] at h
  omega
set_option maxRecDepth 100000 in
set_option maxHeartbeats 8000000 in
theorem play_bad (c : C.Sys) (p b off : Int) (wt : ByteArray) (vl : Value) (w : World) (hL : Loads w vl c.loads) (hn : c.loads.length ≤ 1000000) (hs : wt.size ≤ 1000000) (hbad : playB c p b off wt.data.toList = false) :
    Calls Try.prog 17 #[.agg (sysV c vl), .int .i64 p, .int .i64 b, .int .i64 off, .string wt] w fun e w' => e = .returned (.tuple #[.slice none 0 0, .agg (ledV C.noLedger), .int .i64 2]) ∧ Ext w w' := by
  have hL' := hL
  obtain ⟨a, cap, rfl, _⟩ := hL'
  have hgi := fun w' (hx : Ext w w') => given_any c p b off _ w' (hL.ext hx) hn
  have hle := fun w' => letters_sc wt c.days w' hs
  unfold playB C.weatherB at hbad
  have e0 : wt.data.toList.length = wt.size := by simp
  rw [e0] at hbad
  obtain ⟨B1, hB1⟩ : ∃ B1, (C.sysB c && C.partsB p b && C.offB c off) = B1 := ⟨_, rfl⟩
  obtain ⟨B2, hB2⟩ : ∃ B2, (wt.data.toList.all C.letterB && decide ((wt.size : Int) = c.days)) = B2 := ⟨_, rfl⟩
  simp only [hB1] at hgi
  simp only [hB2] at hle
  rw [hB1, hB2] at hbad
  have HGI := Lib.hid hgi
  have HLE := Lib.hid hle
  clear hgi hle hB1 hB2 e0
  cases B1 with
  | false =>
    clear hbad
    go_enter Try.func17, Try.ntmps17
    go_wp2_with (first | (go_at_call 49; refine (HGI.out _ (by (with_reducible (repeat (first | exact Ext.refl _ | assumption | apply Ext.alloc | apply Ext.drew | exact ext_plus _ _ | (apply Ext.setCell; rotate_left; (simp <;> omega)) | (apply Ext.trans; rotate_left; exact ext_plus _ _) | (apply Ext.trans; rotate_left; assumption)))))).mono ?_; rintro e w2 ⟨rfl, hb⟩; have hE2 : Ext w w2 := (by (with_reducible (repeat (first | exact Ext.refl _ | assumption | apply Ext.alloc | apply Ext.drew | exact ext_plus _ _ | (apply Ext.setCell; rotate_left; (simp <;> omega)) | (apply Ext.trans; rotate_left; exact ext_plus _ _) | (apply Ext.trans; rotate_left; assumption))))); have hbl := Blk.ext (((Blk.new' (w := w.alloc (.cells (sysV c (.slice a c.loads.length cap)) 24)) (b := w.heap.size + 1) (by simp) (ledV C.noLedger) 29)).alloc (.cells #[.int .i64 p, .int .i64 b] 86)) hb; have k0 := hbl.cell; have k1 := hbl.lt; have k2 := hbl.free; have hsb := Blk.ext (((Blk.new w (sysV c (.slice a c.loads.length cap)) 24).alloc (.cells (ledV C.noLedger) 29)).alloc (.cells #[.int .i64 p, .int .i64 b] 86)) hb; have s0 := hsb.cell; have s1 := hsb.lt; have htb := Blk.ext (Blk.new' (w := (w.alloc (.cells (sysV c (.slice a c.loads.length cap)) 24)).alloc (.cells (ledV C.noLedger) 29)) (b := w.heap.size + 1 + 1) (by simp) #[.int .i64 p, .int .i64 b] 86) hb; have t0 := htb.cell; have t1 := htb.lt))
    exact bodyPost_ret (v := .tuple #[.slice none 0 0, .agg (ledV C.noLedger), .int .i64 2]) (by simp [results, Try.results17, go_sem, k0, k1, C.noLedger]) rfl ⟨rfl, by have := hE2.size; ((with_reducible (repeat (first | exact Ext.refl _ | assumption | apply Ext.alloc | apply Ext.drew | exact ext_plus _ _ | (apply Ext.setCell; rotate_left; (simp <;> omega)) | (apply Ext.trans; rotate_left; exact ext_plus _ _) | (apply Ext.trans; rotate_left; assumption)))))⟩
  | true =>
    cases B2 with
    | true => cases hbad
    | false =>
      clear hbad
      go_enter Try.func17, Try.ntmps17
      go_wp2_with (first | (go_at_call 49; refine (HGI.out _ (by (with_reducible (repeat (first | exact Ext.refl _ | assumption | apply Ext.alloc | apply Ext.drew | exact ext_plus _ _ | (apply Ext.setCell; rotate_left; (simp <;> omega)) | (apply Ext.trans; rotate_left; exact ext_plus _ _) | (apply Ext.trans; rotate_left; assumption)))))).mono ?_; rintro e w2 ⟨rfl, hb⟩; have hE2 : Ext w w2 := (by (with_reducible (repeat (first | exact Ext.refl _ | assumption | apply Ext.alloc | apply Ext.drew | exact ext_plus _ _ | (apply Ext.setCell; rotate_left; (simp <;> omega)) | (apply Ext.trans; rotate_left; exact ext_plus _ _) | (apply Ext.trans; rotate_left; assumption))))); have hbl := Blk.ext (((Blk.new' (w := w.alloc (.cells (sysV c (.slice a c.loads.length cap)) 24)) (b := w.heap.size + 1) (by simp) (ledV C.noLedger) 29)).alloc (.cells #[.int .i64 p, .int .i64 b] 86)) hb; have k0 := hbl.cell; have k1 := hbl.lt; have k2 := hbl.free; have hsb := Blk.ext (((Blk.new w (sysV c (.slice a c.loads.length cap)) 24).alloc (.cells (ledV C.noLedger) 29)).alloc (.cells #[.int .i64 p, .int .i64 b] 86)) hb; have s0 := hsb.cell; have s1 := hsb.lt; have htb := Blk.ext (Blk.new' (w := (w.alloc (.cells (sysV c (.slice a c.loads.length cap)) 24)).alloc (.cells (ledV C.noLedger) 29)) (b := w.heap.size + 1 + 1) (by simp) #[.int .i64 p, .int .i64 b] 86) hb; have t0 := htb.cell; have t1 := htb.lt) | (go_at_call 50; refine (HLE.out _).mono ?_; rintro e w3 ⟨rfl, hb3⟩; have hE3 : Ext w w3 := hE2.trans hb3; have hbl3 := hbl.ext hb3; clear k0 k1 k2; have k0 := hbl3.cell; have k1 := hbl3.lt; have k2 := hbl3.free))
      exact bodyPost_ret (v := .tuple #[.slice none 0 0, .agg (ledV C.noLedger), .int .i64 2]) (by simp [results, Try.results17, go_sem, k0, k1, C.noLedger]) rfl ⟨rfl, by have := hE3.size; ((with_reducible (repeat (first | exact Ext.refl _ | assumption | apply Ext.alloc | apply Ext.drew | exact ext_plus _ _ | (apply Ext.setCell; rotate_left; (simp <;> omega)) | (apply Ext.trans; rotate_left; exact ext_plus _ _) | (apply Ext.trans; rotate_left; assumption)))))⟩
set_option maxRecDepth 100000 in
set_option maxHeartbeats 8000000 in
theorem play_good (c : C.Sys) (p b off : Int) (wt : ByteArray) (vl : Value) (w : World) (hL : Loads w vl c.loads) (hn : c.loads.length ≤ 1000000) (hs : wt.size ≤ 1000000) (hok : playB c p b off wt.data.toList = true) :
    Calls Try.prog 17 #[.agg (sysV c vl), .int .i64 p, .int .i64 b, .int .i64 off, .string wt] w fun e w' => ∃ v, e = .returned (.tuple #[v, .agg (ledV (C.ledger c p b off wt.data.toList)), .int .i64 0]) ∧ Days w' v (C.run c p b off wt.data.toList) ∧ Ext w w' := by
  have hL' := hL
  obtain ⟨a, cap, rfl, _⟩ := hL'
  have hgi := fun w' (hx : Ext w w') => given_any c p b off _ w' (hL.ext hx) hn
  have hle := fun w' => letters_sc wt c.days w' hs
  unfold playB C.weatherB at hok
  have e0 : wt.data.toList.length = wt.size := by simp
  rw [e0] at hok
  rw [Bool.and_eq_true] at hok
  obtain ⟨hok1, hok2⟩ := hok
  simp only [hok1] at hgi
  simp only [hok2] at hle
  simp only [Bool.and_eq_true, decide_eq_true_eq] at hok1 hok2
  have O := C.ok_of hok1.1.1
  obtain ⟨hp0, hp1, h2, h3⟩ := C.parts_of hok1.1.2
  obtain ⟨ho0, ho1⟩ := C.off_of hok1.2
  have hlen : wt.data.toList.length = c.days.toNat := by rw [e0]; have := hok2.2; omega
  have hd10 := O.d10
  have hru := fun w' => run_any c (.slice a c.loads.length cap) ⟨_, _, _, rfl⟩ p b off wt w' O h2 h3
  have HGI := Lib.hid hgi
  have HLE := Lib.hid hle
  have HRU := Lib.hid hru
  have HLEN := Lib.hid hlen
  have HO := Lib.hid O
  have HO1 := Lib.hid ho1
  clear hgi hle e0 hok1 hok2 hru hlen O ho1
  obtain ⟨i0, hi, hz0, hz1, hz2⟩ := info_parts day_info
  refine (callsIn_wide (n := 5)).1 ?_
  refine callsIn_of_wp_marks Try.func17 rfl trivial ?_ rfl
  simp only [Try.ntmps17, List.size_toArray, List.length_cons, List.length_nil, Nat.reduceAdd, Nat.reduceSub, Array.replicate_succ, Array.replicate_zero, List.push_toArray, List.append_toArray, List.nil_append, List.cons_append]
  refine wpIn_wide.2 ?_
  go_wp2_with (first | (go_at_call 49; refine (HGI.out _ (by (with_reducible (repeat (first | exact Ext.refl _ | assumption | apply Ext.alloc | apply Ext.drew | exact ext_plus _ _ | (apply Ext.setCell; rotate_left; (simp <;> omega)) | (apply Ext.trans; rotate_left; exact ext_plus _ _) | (apply Ext.trans; rotate_left; assumption)))))).mono ?_; rintro e w2 ⟨rfl, hb⟩; have hE2 : Ext w w2 := (by (with_reducible (repeat (first | exact Ext.refl _ | assumption | apply Ext.alloc | apply Ext.drew | exact ext_plus _ _ | (apply Ext.setCell; rotate_left; (simp <;> omega)) | (apply Ext.trans; rotate_left; exact ext_plus _ _) | (apply Ext.trans; rotate_left; assumption))))); have hbl := Blk.ext (((Blk.new' (w := w.alloc (.cells (sysV c (.slice a c.loads.length cap)) 24)) (b := w.heap.size + 1) (by simp) (ledV C.noLedger) 29)).alloc (.cells #[.int .i64 p, .int .i64 b] 86)) hb; have hsb := Blk.ext (((Blk.new w (sysV c (.slice a c.loads.length cap)) 24).alloc (.cells (ledV C.noLedger) 29)).alloc (.cells #[.int .i64 p, .int .i64 b] 86)) hb; have s0 := hsb.cell; have s1 := hsb.lt; have htb := Blk.ext (Blk.new' (w := (w.alloc (.cells (sysV c (.slice a c.loads.length cap)) 24)).alloc (.cells (ledV C.noLedger) 29)) (b := w.heap.size + 1 + 1) (by simp) #[.int .i64 p, .int .i64 b] 86) hb; have t0 := htb.cell; have t1 := htb.lt) | (go_at_call 50; refine (HLE.out _).mono ?_; rintro e w3 ⟨rfl, hb3⟩; have hE3 : Ext w w3 := hE2.trans hb3; have hbl3 := hbl.ext hb3; have hsb3 := hsb.ext hb3; have htb3 := htb.ext hb3; clear s0 s1 t0 t1; have s0 := hsb3.cell; have s1 := hsb3.lt; have t0 := htb3.cell; have t1 := htb3.lt) | (go_at_call 51; refine (HRU.out _).mono ?_; rintro e w4 ⟨br, rfl, hbr, hbrge, hb4⟩))
  have hE4 := hE3.trans hb4
  have hbl4 := hbl3.ext hb4
  have hbrl := hbr.lt
  have hsz3 := hE3.size
  obtain ⟨bo, hbo⟩ : ∃ bo, w4.heap.size = bo := ⟨_, rfl⟩
  obtain ⟨w5, hw5⟩ : ∃ w5, w4.alloc (.cells #[.slice none 0 0] 27) = w5 := ⟨_, rfl⟩
  have ho5 : Blk w5 bo #[.slice none 0 0] 27 := by rw [← hw5]; exact Blk.new' hbo.symm _ _
  have hr5 : Blk w5 br (runV c (.slice a c.loads.length cap) p b off wt 0 (C.st0 c b) (C.start c b) 0) 93 := by rw [← hw5]; exact hbr.alloc _
  have hl5 : Blk w5 (w.heap.size + 1) (ledV C.noLedger) 29 := by rw [← hw5]; exact hbl4.alloc _
  have hE5 : Ext w w5 := by rw [← hw5]; exact hE4.alloc _
  have hz5 : w5.heap.size = bo + 1 := by rw [← hw5, ← hbo]; simp
  rw [hbo] at hbrl ⊢
  rw [hw5]
  have hbl3l := hbl3.lt
  have HZ5 := Lib.hid hz5
  have hzl : bo < w5.heap.size := by omega
  have hbrw : w.heap.size ≤ br := by omega
  have hblr : w.heap.size + 1 < br := by omega
  have hbolt : br < bo := hbrl
  clear hw5 hbl hbl3 hbl4 hsb hsb3 htb htb3 s0 s1 t0 t1 hbr hb hb3 hb4 hE2 hE3 hE4 hz5 hbo hbrl hbl3l HGI HLE HRU hsz3
  obtain ⟨N, hN⟩ : ∃ N, c.days.toNat = N := ⟨_, rfl⟩
  have hN10 : N ≤ 10 := by omega
  have hseq := days_own c (.slice a c.loads.length cap) p b off wt br w w5 HO.out hp0 hp1 h2 h3 ho0 HO1.out HLEN.out hbrw hL
  rw [hN] at hseq
  obtain ⟨L, hLL⟩ : ∃ L, L = C.run c p b off wt.data.toList := ⟨_, rfl⟩
  have hLn : L.length = N := by rw [hLL]; unfold C.run; rw [List.length_map, List.length_range, HLEN.out, hN]
  have hLg : ∀ k, (h : k < L.length) → L[k] = C.dayAt c p b off wt.data.toList k := by subst hLL; intro k h; simp [C.run]
  have HLL := Lib.hid hLL
  have HLN := Lib.hid hLn
  have HLG := Lib.hid hLg
  have HN := Lib.hid hN
  clear hLL hLn hLg hN
  refine (wpIn_wide (n := 5)).1 ?_
  refine' wpIn_range_own rfl (by omega) (gf := 52) (fst := #[.pointer (some ⟨br, 0, none⟩)]) rfl trivial (enters_of Try.func52 (by kernel_rfl) rfl)
    hseq (fun _ => rfl) (off_rec (by omega)) (daysAt_own hE5.size) ⟨hr5, hE5⟩
    (fun k Y => ∃ v, Y.ownsRow w5.heap.size 41 2 v k (preS dayC L k) ∧ Blk Y bo #[v] 27 ∧ Blk Y (w.heap.size + 1) (ledV C.noLedger) 29)
    (fun _ _ => False)
    ?own (fun _ _ _ _ hs _ _ => hs) ?rel ⟨_, World.ownsRow_nil _ _ _ _, ho5, hl5⟩
    (AxD w5.heap.size c p b off wt.data.toList _) ?axo ?assign ?body ?done ?stop
  case own =>
    rintro k A B row ⟨v, h1, h2, h3⟩ hg hr
    exact ⟨v, own_kept h1 hg fun r e => (hr r e).2, h2.kept hg fun r e => (hr r e).2, h3.kept hg fun r e => (hr r e).2⟩
  case rel =>
    rintro k A B ⟨v, h1, h2, h3⟩ ho
    exact ⟨v, own_off h1 ho (by omega), h2.off ho (by omega), h3.off ho (by omega)⟩
  case axo => exact AxD.own _ _ _ _ _ _ _ _
  case assign =>
    rintro l k Y K hk ⟨v, h1, h2, h3⟩ hA hK
    have hY5 : w5.heap.size ≤ Y.heap.size := by
      have := h2.lt
      have := HZ5.out
      omega
    simp only [dayE]
    gi_wp2
    obtain ⟨bx, hbx⟩ : ∃ bx, Y.heap.size = bx := ⟨_, rfl⟩
    have hEa : Ext Y (Y.alloc (.cells #[.int .i64 (C.stateAt c p b off wt.data.toList (k + 1)).e, .int .i64 (C.stateAt c p b off wt.data.toList (k + 1)).carried] 41)) := (Ext.refl _).alloc _
    rw [hbx]
    refine hK _ _ (KeepsFrom.of_grownBy hEa.grownBy (fun j e => by cases e)) ⟨v, own_ext h1 hEa, h2.ext hEa, h3.ext hEa⟩ ⟨hA.1.ext hEa, hA.2.trans hEa⟩ ⟨bx, Blk.new' hbx.symm _ _, by omega, ?_⟩
    refine (Act.mk.injEq _ _ _ _).mpr ⟨?_, rfl⟩
    exact rfl
  case body =>
    rintro l k a' Y hl hrec hk ⟨v, h1, h2, h3⟩ hA ⟨bx, hbx, hbxge, rfl⟩
    obtain ⟨a9, c9, rfl⟩ := own_slice h1
    have c0 := h2.cell
    have c1 := h2.free
    have c2 := h2.lt
    have d0 := hbx.cell
    have d1 := hbx.lt
    have hz5 := HZ5.out
    have hkL : k < L.length := by rw [HLN.out]; exact hk
    have hps : preS dayC L (k + 1) = preS dayC L k ++ [.int .i64 (C.stateAt c p b off wt.data.toList (k + 1)).e, .int .i64 (C.stateAt c p b off wt.data.toList (k + 1)).carried] := by
      rw [preS_succ dayC L hkL, HLG.out k hkL]; rfl
    have HPS := Lib.hid hps
    have HZ := Lib.hid hz5
    obtain ⟨x, hx⟩ : ∃ x, C.stateAt c p b off wt.data.toList (k + 1) = x := ⟨_, rfl⟩
    rw [hx] at hbx HPS
    simp only [hx] at d0 ⊢
    have HA := Lib.hid hA
    clear hx hps hz5 hA
    gi_wp2_with (gi_at_builtin; refine wpListIn_append_own _ rfl _ _ 27 rfl (w5.heap.size) 41 i0 (.agg #[.int .i64 0, .int .i64 0]) 2 16 Try.underlying27 hi hz0 hz1 hz2 rfl (by decide) _ _ _ rfl (own_ext h1 ((Ext.refl _).alloc _)) ⟨Y.heap.size, 0, none⟩ 1 1 [.int .i64 x.e, .int .i64 x.carried] rfl rfl (cell_two _ _ _ _ (by simp)) (two_ints _ _) (by unfold maxLen; omega) (by omega) (by simp; omega) ?_; intro v' w6 hown' hgrow _; obtain ⟨g', cap', rfl⟩ := own_succ hown'; have hB6 := Blk.grown (h2.alloc _) hgrow (own_base h1) hzl; have hL6 := Blk.grown (h3.alloc _) hgrow (own_base h1) (by omega); have hR6 := Blk.grown (HA.out.1.alloc _) hgrow (own_base h1) (by omega); have hE6 := Ext.grown (HA.out.2.alloc _) hgrow (fun r e => Nat.le_trans hE5.size (own_base h1 r e)); have e0 := hB6.cell; have e1 := hB6.free; have e2 := hB6.lt)
    have hE1 : Ext Y (Y.alloc (.cells #[.int .i64 x.e, .int .i64 x.carried] 41)) := (Ext.refl _).alloc _
    refine ⟨((KeepsOthers.alloc _ _).trans ((KeepsOthers.of_grownBy hgrow (own_cells (own_ext h1 hE1))).trans (KeepsOthers.setCell _ _ _))).from _, ⟨hR6.other (by simp; omega) _, hE6.setCell (p := ⟨bo, 0, none⟩) (by simp; omega) _⟩, ⟨_, ?_, hB6.set 0 _, hL6.other (by simp; omega) _⟩⟩
    rw [HPS.out]
    exact own_move hown' fun g cur hg _ => Below.heap_setCell _ _ _ _ (by simp; omega)
  case done =>
    rintro D Y hD ⟨v, h1, h2, h3⟩ hA hK
    obtain ⟨a9, c9, rfl⟩ := own_slice h1
    obtain ⟨hbr, hEY⟩ := hA
    have k0 := hbr.cell
    have k1 := hbr.lt
    have k2 := hbr.free
    have c0 := h2.cell
    have c2 := h2.lt
    have d0 := h3.cell
    have d1 := h3.lt
    have d2 := h3.free
    obtain ⟨x, hx⟩ : ∃ x, C.stateAt c p b off wt.data.toList N = x := ⟨_, rfl⟩
    rw [hx] at hbr k0
    have HX := Lib.hid hx
    clear hx
    go_upto_region 10 with (fail)
    have hbr2 : Blk (Y.setCell ⟨br, 23, none⟩ (.int .i64 x.e)) br (runV c (.slice a c.loads.length cap) p b off wt ((N - 1 : Nat) : Int) x (C.start c b) x.e) 93 := by simpa using hbr.set 23 (.int .i64 x.e)
    have h2' := h2.other (a := ⟨br, 23, none⟩) (by simp; omega) (.int .i64 x.e)
    have h3' := h3.other (a := ⟨br, 23, none⟩) (by simp; omega) (.int .i64 x.e)
    have h1' : (Y.setCell ⟨br, 23, none⟩ (.int .i64 x.e)).ownsRow w5.heap.size 41 2 (.slice a9 N c9) N (preS dayC L N) := own_move h1 fun g cur hg _ => Below.heap_setCell _ _ _ _ (by simp; omega)
    have hK' : (Y.setCell ⟨br, 23, none⟩ (.int .i64 x.e)).heap[D]? = some (.deferred (some [])) := (Below.heap_setCell _ _ _ _ (by simp; have := HZ5.out; omega)).trans hK
    have hEY' : Ext w (Y.setCell ⟨br, 23, none⟩ (.int .i64 x.e)) := hEY.setCell (p := ⟨br, 23, none⟩) (by simp; omega) _
    obtain ⟨Y2, hY2⟩ : ∃ Y2, Y.setCell ⟨br, 23, none⟩ (.int .i64 x.e) = Y2 := ⟨_, rfl⟩
    rw [hY2] at hbr2 h2' h3' h1' hK' hEY' ⊢
    clear hY2 k0 k1 k2 c0 c2 d0 d1 d2 hbr h1 h2 h3 hK hEY
    have k0 := hbr2.cell
    have k1 := hbr2.lt
    have c0 := h2'.cell
    have c2 := h2'.lt
    have hpc := plus_cell
    refine wp_region_extN 6 (by kernel_rfl) (by kernel_rfl) (by kernel_rfl) (by kernel_rfl) ?_
    simp only [List.take_succ_cons, List.take_zero, List.drop_succ_cons, List.drop_zero]
    repeat (any_goals (first | go_big_quiet_step (fail) | quiet_step (fail)))
    all_goals (refine wpQuiet_nil ?_; intro Y3 hE3)
    have h3'' := h3'.ext hE3
    clear k0 k1 c0 c2
    have d0 := h3''.cell
    have d1 := h3''.lt
    have d2 := h3''.free
    go_wp2
    obtain ⟨Y4, hY4⟩ : ∃ Y4, ((((((Y3.setCell ⟨w.heap.size + 1, 0, none⟩ (.int .i64 (C.start c b))).setCell ⟨w.heap.size + 1, 1, none⟩ (.int .i64 x.sun)).setCell ⟨w.heap.size + 1, 2, none⟩ (.int .i64 x.used)).setCell ⟨w.heap.size + 1, 3, none⟩ (.int .i64 x.lost)).setCell ⟨w.heap.size + 1, 4, none⟩ (.int .i64 x.faded)).setCell ⟨w.heap.size + 1, 5, none⟩ (.int .i64 x.e)) = Y4 := ⟨_, rfl⟩
    have hB4 : Blk Y4 (w.heap.size + 1) #[.int .i64 (C.start c b), .int .i64 x.sun, .int .i64 x.used, .int .i64 x.lost, .int .i64 x.faded, .int .i64 x.e] 29 := by
      rw [← hY4]
      simpa using (((((h3''.set 0 (.int .i64 (C.start c b))).set 1 (.int .i64 x.sun)).set 2 (.int .i64 x.used)).set 3 (.int .i64 x.lost)).set 4 (.int .i64 x.faded)).set 5 (.int .i64 x.e)
    have hoth : ∀ g, g ≠ w.heap.size + 1 → Y4.heap[g]? = Y3.heap[g]? := fun g hg => by
      rw [← hY4]
      repeat rw [Below.heap_setCell _ _ _ _ (fun h => hg (by simpa using h))]
    have hE4 : Ext w Y4 := by
      rw [← hY4]
      exact ((((((hEY'.trans hE3).setCell (p := ⟨w.heap.size + 1, 0, none⟩) (by simp) _).setCell (p := ⟨w.heap.size + 1, 1, none⟩) (by simp) _).setCell (p := ⟨w.heap.size + 1, 2, none⟩) (by simp) _).setCell (p := ⟨w.heap.size + 1, 3, none⟩) (by simp) _).setCell (p := ⟨w.heap.size + 1, 4, none⟩) (by simp) _).setCell (p := ⟨w.heap.size + 1, 5, none⟩) (by simp) _
    rw [hY4]
    have hD4 : Y4.heap[D]? = some (.deferred (some [])) := (hoth D (by have := HZ5.out; omega)).trans ((hE3.block D (Array.getElem?_eq_some_iff.1 hK').1).trans hK')
    have h14 : Y4.ownsRow w5.heap.size 41 2 (.slice a9 N c9) N (preS dayC L N) := own_move (own_ext h1' hE3) fun g cur hg _ => hoth g (by have := HZ5.out; omega)
    have hB5 : Blk (Y4.putObj D (.deferred none)) (w.heap.size + 1) #[.int .i64 (C.start c b), .int .i64 x.sun, .int .i64 x.used, .int .i64 x.lost, .int .i64 x.faded, .int .i64 x.e] 29 := ((grownBy_putObj' Y4 D _).block _ hB4.lt (by have := HZ5.out; simp; omega)).trans hB4
    have h15 : (Y4.putObj D (.deferred none)).ownsRow w5.heap.size 41 2 (.slice a9 N c9) N (preS dayC L N) := own_move h14 fun g cur _ hg0 => (grownBy_putObj' Y4 D _).block g (Array.getElem?_eq_some_iff.1 hg0).1 (by first | exact (dne D g cur hD4 hg0).1 | exact (dne D g cur hD4 hg0).2.1 | exact (dne D g cur hD4 hg0).2.2.1 | exact (dne D g cur hD4 hg0).2.2.2)
    have q0 := hB5.cell
    have q1 := hB5.lt
    have hled : C.ledger c p b off wt.data.toList = ⟨C.start c b, x.sun, x.used, x.lost, x.faded, x.e⟩ := by
      unfold C.ledger; rw [HLEN.out, HN.out, HX.out]
    clear hY4 hB4 hoth h14 d0 d1 d2
    refine ⟨by simp, .inl ⟨_, _, rfl, run_takeDeferred hD4, ?_⟩⟩
    refine ⟨.tuple #[.slice a9 N c9, .agg #[.int .i64 (C.start c b), .int .i64 x.sun, .int .i64 x.used, .int .i64 x.lost, .int .i64 x.faded, .int .i64 x.e], .int .i64 0], by simp [results, Try.results17, go_sem, q0, q1], _, by rw [hled], ?_, ?_⟩
    · rw [← HLL.out]
      have hln := HLN.out
      have h16 : (Y4.putObj D (.deferred none)).ownsRow w5.heap.size 41 2 (.slice a9 N c9) L.length (L.flatMap dayC) := by
        rw [hln, ← preS_all dayC L, hln]; exact h15
      exact sls_of_own dayC 2 (fun _ => rfl) h16
    · exact Below.trans hE4 (belowK_b (w := w) (Nat.le_refl _) Y4 D _ _ (by have := hE5.size; omega) hD4 rfl rfl)
  case stop =>
    rintro D cd Y _ h _
    exact h.elim
end Go.Proofs.Ytkjoojmlcjmlgaa
