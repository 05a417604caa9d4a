/- The first fault, as the document finds it. Whether panels and batteries suffice, as the document asks it. -/
import Derived.Test.YtkjoojmlcjmlgaaH6
namespace Go.Proofs.Ytkjoojmlcjmlgaa
set_option linter.unusedVariables false
set_option linter.unusedSimpArgs false
open Go.RowKit
theorem late_two {P : Program} {ops : Array Oper} {Q : Exit → Act → World → Prop} {S : Bool → World → Prop} {t : Nat} {L : Array Bool} {a : Act} {w : World} {f i j : Nat} (hr : Region.ready .any ops L = [i, j]) (hL : Shutb ops L)
    (h : Shutb ops (L.setIfInBounds i true) → wpOp P ops Q i (fun a' w' => S ((L.setIfInBounds i true).getD t false) w' ∧ wpAnyL P ops Q t S f (L.setIfInBounds i true) a' w') a w)
    (h2 : Shutb ops (L.setIfInBounds j true) → wpOp P ops Q j (fun a' w' => S ((L.setIfInBounds j true).getD t false) w' ∧ wpAnyL P ops Q t S f (L.setIfInBounds j true) a' w') a w) : wpAnyL P ops Q t S (f + 1) L a w := by
  have hi : i ∈ Region.ready .any ops L := by rw [hr]; simp
  have hj : j ∈ Region.ready .any ops L := by rw [hr]; simp
  refine ⟨fun e => ?_, fun k hk => ?_⟩
  · rw [hr] at e; cases e
  · rw [hr] at hk
    simp only [List.mem_cons, List.not_mem_nil, or_false] at hk
    rcases hk with rfl | rfl
    · exact h (shut_set hL hi)
    · exact h2 (shut_set hL hj)
theorem run_carried {c : C.Sys} (O : C.Ok c) {p b : Int} (hp0 : 0 ≤ p) (hp1 : p ≤ 12) (hb0 : 0 ≤ b) (hb1 : b ≤ 8) (off : Int) (T : C.Txt) (hT : T.length ≤ 20) : ∀ x ∈ C.run c p b off T, 0 ≤ x.carried ∧ x.carried < 2 ^ c.loads.length := by
  intro x hx
  unfold C.run at hx
  obtain ⟨d, hd, rfl⟩ := List.mem_map.1 hx
  have := List.mem_range.1 hd
  exact C.carried_bd O hp0 hp1 hb0 hb1 off T d (by omega)
theorem ext_setCells {w0 : World} {b : Nat} (hb : w0.heap.size ≤ b) : ∀ (vs : List Value) (o : Nat) {y : World}, Ext w0 y → Ext w0 (y.setCells b o vs)
  | [], _, _, h => h
  | v :: r, o, _, h => ext_setCells hb r (o + 1) (h.setCell (p := ⟨b, o, none⟩) hb v)
theorem size_setCells {b : Nat} : ∀ (vs : List Value) (o : Nat) (y : World), (y.setCells b o vs).heap.size = y.heap.size
  | [], _, _ => rfl
  | v :: r, o, y => by
    show ((y.setCell ⟨b, o, none⟩ v).setCells b (o + 1) r).heap.size = _
    rw [size_setCells r (o + 1), size_setCell]
/-- A row beside the cells that are stored to. -/
theorem days_setCells {w : World} {v : Value} {xs : List C.Day} {n b : Nat} (h : Days w v xs) (hn : ∀ j, v.ownBlock = some j → n ≤ j) (hb : b < n) {o : Nat} {vs : List Value} : Days (w.setCells b o vs) v xs := by
  obtain ⟨a, cap, rfl, hx⟩ := h
  refine ⟨a, cap, rfl, fun i hi => ?_⟩
  obtain ⟨b', off, rfl, hl, hAt⟩ := hx i hi
  have h1 := hn b' rfl
  refine ⟨b', off, rfl, by rw [size_setCells]; exact hl, fun j u hu => ?_⟩
  rw [World.cell?_setCells_out b vs o w _ (fun e => by have e2 : b' = b := e; omega)]
  exact hAt j u hu
theorem there_of {w : World} {b : Nat} {cs : Array Value} {e : TypeId} (h : Blk w b cs e) {n : Nat} (hn : n ≤ cs.size) : w.there b 0 n := fun j hj => ⟨by rw [h.cell]; simp; omega, h.free _⟩
theorem dat_at {l : List C.Day} {i : Nat} (h : i < l.length) : C.dat l i = l[i] := by
  unfold C.dat; rw [List.getD_eq_getElem?_getD, List.getElem?_eq_getElem h]; rfl
theorem findSome_succ {α β : Type} {f : α → Option β} {l : List α} {i : Nat} (hi : i < l.length) (h : (l.take i).findSome? f = none) (hx : f l[i] = none) : (l.take (i + 1)).findSome? f = none := by
  rw [List.take_succ_eq_append_getElem hi, List.findSome?_append, h]; simp [hx]
theorem findSome_hit {α β : Type} {f : α → Option β} {l : List α} {i : Nat} {r : β} (hi : i < l.length) (h : (l.take i).findSome? f = none) (hx : f l[i] = some r) : l.findSome? f = some r := by
  have e : l = l.take (i + 1) ++ l.drop (i + 1) := (List.take_append_drop _ _).symm
  rw [e, List.take_succ_eq_append_getElem hi, List.findSome?_append, List.findSome?_append, h]; simp [hx]

set_option maxRecDepth 100000 in
set_option maxHeartbeats 16000000 in
theorem dfault_any (c : C.Sys) (p b off : Int) (vl : Value) (w : World) (hL0 : Loads w vl c.loads) (O : C.Ok c) (hp0 : 0 ≤ p) (hp1 : p ≤ 12) (hb0 : 0 ≤ b) (hb1 : b ≤ 8) (ho0 : 0 ≤ off) (ho1 : off < 2 ^ c.loads.length) :
    Calls Try.prog 32 #[.agg (sysV c vl), .int .i64 p, .int .i64 b, .int .i64 off] w fun e w' => e = .returned (.tuple #[.agg (faultV (C.fault c p b off)), .bool (C.fault c p b off).isSome]) ∧ Ext w w' := by
  have hL0' := hL0
  obtain ⟨a, cap, rfl, _⟩ := hL0'
  have hwl := fun t (ht : t ∈ C.weathers c) => weathers_len ht
  have hd10 := O.d10
  have hwe := fun w' => dweathers_any c (.slice a c.loads.length cap) ⟨_, _, _, rfl⟩ O w'
  have hrun := fun t w' (hx : Ext w w') (ht : t ∈ C.weathers c) => drun_any c p b off (bs t) _ w' (hL0.ext hx) O hp0 hp1 hb0 hb1 ho0 ho1 (by rw [bs_size, hwl t ht]; omega)
  simp only [bs_list] at hrun
  have hcar := fun t (ht : t ∈ C.weathers c) => run_carried O hp0 hp1 hb0 hb1 off t (by rw [hwl t ht]; omega)
  have hrl := fun t (ht : t ∈ C.weathers c) => (by simp [C.run, hwl t ht]; omega : (C.run c p b off t).length ≤ 10)
  have hpow := pow_bd (n := c.loads.length) (by have := O.n5; omega)
  have hdn := fun x w' (hx : Ext w w') h0 h1 => ddown_any c x _ w' (hL0.ext hx) (by have := O.n5; omega) h0 h1
  have hwc : (C.weathers c).length ≤ 1024 := by
    unfold C.weathers
    have h1 := List.length_filter_le (C.allowed c) (C.texts c.days.toNat)
    rw [texts_len] at h1
    have h2 : 2 ^ c.days.toNat ≤ 2 ^ 10 := Nat.pow_le_pow_right (by decide) (by omega)
    omega
  have hff : C.fault c p b off = (C.weathers c).findSome? (faultOf c p b off) := rfl
  rw [hff]
  obtain ⟨L, hLe⟩ : ∃ L, C.weathers c = L := ⟨_, rfl⟩
  rw [hLe] at hwc ⊢
  simp only [hLe] at hwe hrun hcar hrl
  have HWE := Lib.hid hwe
  have HRUN := Lib.hid hrun
  have HCAR := Lib.hid hcar
  have HRL := Lib.hid hrl
  have HDN := Lib.hid hdn
  have hpc := plus_cell
  clear hwl hd10 hwe hrun hcar hrl hdn hff hLe hL0 O
  go_enter Try.func32, Try.ntmps32
  go_upto_region 2 with (first | (go_at_call 29; refine (HWE.out _).mono ?_; rintro e w2 ⟨v, rfl, hT, hE2⟩))
  obtain ⟨w1, hw1⟩ : ∃ w1, (w.alloc (.cells (sysV c (.slice a c.loads.length cap)) 24)).alloc (.cells #[.string ⟨#[]⟩, .int .i64 0, .int .i64 0] 62) = w1 := ⟨_, rfl⟩
  have hbx1 : Blk w1 w.heap.size (sysV c (.slice a c.loads.length cap)) 24 := by rw [← hw1]; exact (Blk.new w _ _).alloc _
  have hbf1 : Blk w1 (w.heap.size + 1) #[.string ⟨#[]⟩, .int .i64 0, .int .i64 0] 62 := by rw [← hw1]; exact Blk.new' (by simp) _ _
  have hE1 : Ext w w1 := by rw [← hw1]; (with_reducible (repeat (first | exact Ext.refl _ | assumption | apply Ext.alloc | apply Ext.drew | exact ext_plus _ _ | (apply Ext.setCell; rotate_left; (simp <;> omega)) | (apply Ext.trans; rotate_left; exact ext_plus _ _) | (apply Ext.trans; rotate_left; assumption))))
  rw [hw1] at hE2
  have hbx := hbx1.ext hE2
  have hbf := hbf1.ext hE2
  have hE02 := hE1.trans hE2
  obtain ⟨aT, cT, rfl, hxT⟩ := hT
  have HXT := Lib.hid hxT
  clear hw1 hbx1 hbf1 hxT hE2
  go_wp2
  go_loopw [11, 12, 13, 14, 15] (fun vi _ _ _ _ wr => ∃ i : Nat, i ≤ L.length ∧ vi = .int .i64 i ∧ (L.take i).findSome? (faultOf c p b off) = none ∧ Ext w2 wr) (fun vi _ _ _ _ _ => L.length - (intOf vi).toNat)
  case atStart => exact ⟨0, Nat.zero_le _, rfl, rfl, Ext.refl _⟩
  case round =>
    rename World => wr
    obtain ⟨i, hi, rfl, hfn, hE⟩ := hrel
    have hbxr := hbx.ext hE
    have hbfr := hbf.ext hE
    have hEr := hE02.trans hE
    have HFN := Lib.hid hfn
    clear hfn
    by_cases hli : i < L.length
    · obtain ⟨b3, o3, rfl, hb3, hAt⟩ := HXT.out i hli
      have hmem := List.getElem_mem hli
      have hrun := fun w' (hx : Ext w w') => HRUN.out _ w' hx hmem
      have hcar := HCAR.out _ hmem
      have hrl := HRL.out _ hmem
      have hfs := fun h => findSome_succ hli HFN.out h
      have hfh := fun r h => findSome_hit (r := r) hli HFN.out h
      obtain ⟨t, ht⟩ : ∃ t, L[i] = t := ⟨_, rfl⟩
      simp only [ht] at hrun hfh
      rw [ht] at hAt hcar hrl hfs
      have hfo : faultOf c p b off t = (C.firstDown c (C.run c p b off t)).map fun x => (t, x.1, x.2) := rfl
      rw [hfo] at hfs
      simp only [hfo] at hfh
      obtain ⟨l, hl⟩ : ∃ l, C.run c p b off t = l := ⟨_, rfl⟩
      simp only [hl] at hrun hcar hrl hfs hfh
      obtain ⟨G, hG⟩ : ∃ G, ledV (C.ledger c p b off t) = G := ⟨_, rfl⟩
      have hG6 : ∃ g0 g1 g2 g3 g4 g5 : Int, G = #[.int .i64 g0, .int .i64 g1, .int .i64 g2, .int .i64 g3, .int .i64 g4, .int .i64 g5] := ⟨_, _, _, _, _, _, hG.symm⟩
      obtain ⟨g0, g1, g2, g3, g4, g5, rfl⟩ := hG6
      simp only [hG] at hrun
      have m0 : wr.cell? ⟨b3, o3 + i * 1, none⟩ = some (.string (bs t)) := (hE.cells.1 _ _ hb3).trans (hAt 0 _ rfl)
      have mb : b3 < wr.heap.size := Nat.lt_of_lt_of_le hb3 hE.size
      have hb3w2 := hb3
      simp only [Nat.mul_one] at m0
      have HR := Lib.hid hrun
      have HC := Lib.hid hcar
      have HFS := Lib.hid hfs
      have HFH := Lib.hid hfh
      clear hAt hrun hcar hfs hfh hfo hl ht hG hmem
      have k0 := hbxr.drew.cell
      have k1 := hbxr.lt
      go_upto_region 5 with (fail)
      have n0 : wr.drew.cell? ⟨b3, o3 + i, none⟩ = some (.string (bs t)) := m0
      refine wp_region_late 8 (fun cc y => cc = false → (∀ o, y.cell? ⟨w.heap.size, o, none⟩ = (sysV c (.slice a c.loads.length cap) : Array Value)[o]?) ∧ y.cell? ⟨b3, o3 + i, none⟩ = some (.string (bs t)) ∧ w.heap.size < y.heap.size ∧ b3 < y.heap.size) (by kernel_rfl) (fun hL => ?_)

      refine late_early (i := 0) (v := ?_) rfl (by kernel_rfl) (by kernel_rfl) (by kernel_rfl) (by decide) (by kernel_rfl) (fun _ _ _ h => h) hL (Or.inl ⟨by rfl, ?_⟩) (fun _ => ⟨k0, n0, k1, mb⟩) (fun hL' => ?_)
      rotate_left
      · intro y hy; have hz := hy rfl; clear hy; obtain ⟨g1, g2, g3, g4⟩ := hz; go_simp; (try with_reducible rfl)
      clear hL; rename Shutb _ _ => hL
      (try simp only [Act.put, List.getElem_toArray, List.getElem_cons_zero, List.getElem_cons_succ, List.setIfInBounds_toArray, List.set_cons_zero, List.set_cons_succ])
      refine late_early (i := 1) (v := ?_) rfl (by kernel_rfl) (by kernel_rfl) (by kernel_rfl) (by decide) (by kernel_rfl) (fun _ _ _ h => h) hL (Or.inl ⟨by rfl, ?_⟩) (fun _ => ⟨k0, n0, k1, mb⟩) (fun hL' => ?_)
      rotate_left
      · intro y hy; have hz := hy rfl; clear hy; obtain ⟨g1, g2, g3, g4⟩ := hz; go_simp; (try with_reducible rfl)
      clear hL; rename Shutb _ _ => hL
      (try simp only [Act.put, List.getElem_toArray, List.getElem_cons_zero, List.getElem_cons_succ, List.setIfInBounds_toArray, List.set_cons_zero, List.set_cons_succ])
      refine late_early (i := 2) (v := ?_) rfl (by kernel_rfl) (by kernel_rfl) (by kernel_rfl) (by decide) (by kernel_rfl) (fun _ _ _ h => h) hL (Or.inl ⟨by rfl, ?_⟩) (fun _ => ⟨k0, n0, k1, mb⟩) (fun hL' => ?_)
      rotate_left
      · intro y hy; have hz := hy rfl; clear hy; obtain ⟨g1, g2, g3, g4⟩ := hz; go_simp; (try with_reducible rfl)
      clear hL; rename Shutb _ _ => hL
      (try simp only [Act.put, List.getElem_toArray, List.getElem_cons_zero, List.getElem_cons_succ, List.setIfInBounds_toArray, List.set_cons_zero, List.set_cons_succ])
      refine late_early (i := 3) (v := ?_) rfl (by kernel_rfl) (by kernel_rfl) (by kernel_rfl) (by decide) (by kernel_rfl) (fun _ _ _ h => h) hL (Or.inl ⟨by rfl, ?_⟩) (fun _ => ⟨k0, n0, k1, mb⟩) (fun hL' => ?_)
      rotate_left
      · intro y hy; have hz := hy rfl; clear hy; obtain ⟨g1, g2, g3, g4⟩ := hz; go_simp; (try with_reducible rfl)
      clear hL; rename Shutb _ _ => hL
      (try simp only [Act.put, List.getElem_toArray, List.getElem_cons_zero, List.getElem_cons_succ, List.setIfInBounds_toArray, List.set_cons_zero, List.set_cons_succ])
      refine late_early (i := 4) (v := ?_) rfl (by kernel_rfl) (by kernel_rfl) (by kernel_rfl) (by decide) (by kernel_rfl) (fun _ _ _ h => h) hL (Or.inl ⟨by rfl, ?_⟩) (fun _ => ⟨k0, n0, k1, mb⟩) (fun hL' => ?_)
      rotate_left
      · intro y hy; have hz := hy rfl; clear hy; obtain ⟨g1, g2, g3, g4⟩ := hz; go_simp; (try with_reducible rfl)
      clear hL; rename Shutb _ _ => hL
      (try simp only [Act.put, List.getElem_toArray, List.getElem_cons_zero, List.getElem_cons_succ, List.setIfInBounds_toArray, List.set_cons_zero, List.set_cons_succ])
      refine late_early (i := 5) (v := ?_) rfl (by kernel_rfl) (by kernel_rfl) (by kernel_rfl) (by decide) (by kernel_rfl) (fun _ _ _ h => h) hL (Or.inl ⟨by rfl, ?_⟩) (fun _ => ⟨k0, n0, k1, mb⟩) (fun hL' => ?_)
      rotate_left
      · intro y hy; have hz := hy rfl; clear hy; obtain ⟨g1, g2, g3, g4⟩ := hz; go_simp; (try with_reducible rfl)
      clear hL; rename Shutb _ _ => hL
      (try simp only [Act.put, List.getElem_toArray, List.getElem_cons_zero, List.getElem_cons_succ, List.setIfInBounds_toArray, List.set_cons_zero, List.set_cons_succ])
      refine late_early (i := 6) (v := ?_) rfl (by kernel_rfl) (by kernel_rfl) (by kernel_rfl) (by decide) (by kernel_rfl) (fun _ _ _ h => h) hL (Or.inl ⟨by rfl, ?_⟩) (fun _ => ⟨k0, n0, k1, mb⟩) (fun hL' => ?_)
      rotate_left
      · intro y hy; have hz := hy rfl; clear hy; obtain ⟨g1, g2, g3, g4⟩ := hz; go_simp; (try with_reducible rfl)
      clear hL; rename Shutb _ _ => hL
      (try simp only [Act.put, List.getElem_toArray, List.getElem_cons_zero, List.getElem_cons_succ, List.setIfInBounds_toArray, List.set_cons_zero, List.set_cons_succ])
      refine late_early (i := 7) (v := ?_) rfl (by kernel_rfl) (by kernel_rfl) (by kernel_rfl) (by decide) (by kernel_rfl) (fun _ _ _ h => h) hL (Or.inl ⟨by rfl, ?_⟩) (fun _ => ⟨k0, n0, k1, mb⟩) (fun hL' => ?_)
      rotate_left
      · intro y hy; have hz := hy rfl; clear hy; obtain ⟨g1, g2, g3, g4⟩ := hz; go_simp; (try with_reducible rfl)
      clear hL; rename Shutb _ _ => hL
      (try simp only [Act.put, List.getElem_toArray, List.getElem_cons_zero, List.getElem_cons_succ, List.setIfInBounds_toArray, List.set_cons_zero, List.set_cons_succ])
      refine late_two (i := 8) (j := 12) (by kernel_rfl) hL (fun hL' => ?_) (fun hL' => ?_)
      · refine wpOp_step rfl (fun K hK0 => ?_)
        have hK : Shut _ := hK0
        clear hK0
        go_simp
        go_wp2_with (first | (go_at_call 21; refine (HR.out _ (hEr.drew)).mono ?_; rintro e wq ⟨v9, rfl, hDv, hER, hOB⟩))
        refine hK.out _ _ ⟨fun e => absurd (e : true = false) (by decide), ?_⟩
        clear hK K; clear hL; rename Shutb _ _ => hL
        (try simp only [Act.put, List.getElem_toArray, List.getElem_cons_zero, List.getElem_cons_succ, List.setIfInBounds_toArray, List.set_cons_zero, List.set_cons_succ])
        refine late_late (i := 9) (v := ?_) rfl (by kernel_rfl) (by kernel_rfl) (by kernel_rfl) (by decide) (fun _ _ => fun e => absurd (e : true = false) (by decide)) (fun _ _ _ h => h) hL (Or.inl ⟨by rfl, ?_⟩) (fun e => absurd (e : true = false) (by decide)) (fun hL' => ?_)
        rotate_left
        · intro y hy; clear hy; go_simp; (try with_reducible rfl)
        clear hL; rename Shutb _ _ => hL
        (try simp only [Act.put, List.getElem_toArray, List.getElem_cons_zero, List.getElem_cons_succ, List.setIfInBounds_toArray, List.set_cons_zero, List.set_cons_succ])
        refine late_late (i := 10) (v := ?_) rfl (by kernel_rfl) (by kernel_rfl) (by kernel_rfl) (by decide) (fun _ _ => fun e => absurd (e : true = false) (by decide)) (fun _ _ _ h => h) hL (Or.inl ⟨by rfl, ?_⟩) (fun e => absurd (e : true = false) (by decide)) (fun hL' => ?_)
        rotate_left
        · intro y hy; clear hy; go_simp; (try with_reducible rfl)
        clear hL; rename Shutb _ _ => hL
        (try simp only [Act.put, List.getElem_toArray, List.getElem_cons_zero, List.getElem_cons_succ, List.setIfInBounds_toArray, List.set_cons_zero, List.set_cons_succ])
        refine late_late (i := 11) (v := ?_) rfl (by kernel_rfl) (by kernel_rfl) (by kernel_rfl) (by decide) (fun _ _ => fun e => absurd (e : true = false) (by decide)) (fun _ _ _ h => h) hL (Or.inl ⟨by rfl, ?_⟩) (fun e => absurd (e : true = false) (by decide)) (fun hL' => ?_)
        rotate_left
        · intro y hy; clear hy; go_simp; (try with_reducible rfl)
        clear hL; rename Shutb _ _ => hL
        (try simp only [Act.put, List.getElem_toArray, List.getElem_cons_zero, List.getElem_cons_succ, List.setIfInBounds_toArray, List.set_cons_zero, List.set_cons_succ])
        refine late_one (i := 12) (by kernel_rfl) hL (fun hL' => ?_)
        refine wpOp_step rfl (fun K hK0 => ?_)
        have hK : Shut _ := hK0
        clear hK0
        go_simp
        obtain ⟨wz, hwz⟩ : ∃ wz, wq.alloc (.cells #[.int .i64 0, .int .i64 0, .int .i64 0, .int .i64 0, .int .i64 0, .int .i64 0] 29) = wz := ⟨_, rfl⟩
        have hZ : Blk wz wq.heap.size #[.int .i64 0, .int .i64 0, .int .i64 0, .int .i64 0, .int .i64 0, .int .i64 0] 29 := by rw [← hwz]; exact Blk.new wq _ _
        have hEz : Ext wq wz := by rw [← hwz]; exact (Ext.refl _).alloc _
        rw [hwz]
        clear hwz
        refine hK.out _ _ ⟨fun e => absurd (e : true = false) (by decide), ?_⟩
        clear hK K; clear hL; rename Shutb _ _ => hL
        (try simp only [Act.put, List.getElem_toArray, List.getElem_cons_zero, List.getElem_cons_succ, List.setIfInBounds_toArray, List.set_cons_zero, List.set_cons_succ])
        refine late_one (i := 13) (by kernel_rfl) hL (fun hL' => ?_)
        refine wpOp_step rfl (fun K hK0 => ?_)
        have hK : Shut _ := hK0
        clear hK0
        go_simp
        refine hK.out _ _ ⟨fun e => absurd (e : true = false) (by decide), ?_⟩
        clear hK K; clear hL; rename Shutb _ _ => hL
        (try simp only [Act.put, List.getElem_toArray, List.getElem_cons_zero, List.getElem_cons_succ, List.setIfInBounds_toArray, List.set_cons_zero, List.set_cons_succ])
        refine late_one (i := 14) (by kernel_rfl) hL (fun hL' => ?_)
        refine wpOp_step rfl (fun K hK0 => ?_)
        have hK : Shut _ := hK0
        clear hK0
        refine wp_store_mid 29 _ _ rfl (wq.heap.size) 0 #[.int .i64 g0, .int .i64 g1, .int .i64 g2, .int .i64 g3, .int .i64 g4, .int .i64 g5] rfl rfl (there_of hZ (by simp)) (by kernel_rfl) (by first | rfl | (simp; done) | (simp; exact ⟨rfl, rfl, rfl, rfl, rfl, rfl⟩) | simp [Value.oneCell']) ?_
        refine hK.out _ _ ⟨fun e => absurd (e : true = false) (by decide), ?_⟩
        clear hK K; clear hL; rename Shutb _ _ => hL
        (try simp only [Act.put, List.getElem_toArray, List.getElem_cons_zero, List.getElem_cons_succ, List.setIfInBounds_toArray, List.set_cons_zero, List.set_cons_succ])
        refine late_done (by kernel_rfl) ?_
        (try dsimp only [Exit.then])
        have hE19 : Ext wr (wz.setCells wq.heap.size 0 [.int .i64 g0, .int .i64 g1, .int .i64 g2, .int .i64 g3, .int .i64 g4, .int .i64 g5]) := ext_setCells (by have := hER.size; simpa using this) _ _ (((Ext.refl wr).drew.trans hER).trans hEz)
        have hD9 : Days (wz.setCells wq.heap.size 0 [.int .i64 g0, .int .i64 g1, .int .i64 g2, .int .i64 g3, .int .i64 g4, .int .i64 g5]) v9 l := hDv.ext (ext_setCells (Nat.le_refl _) _ _ hEz)
        generalize wz.setCells wq.heap.size 0 [.int .i64 g0, .int .i64 g1, .int .i64 g2, .int .i64 g3, .int .i64 g4, .int .i64 g5] = w9 at hE19 hD9 ⊢
        clear hDv hER hOB hZ hEz
        have hbx9 := hbxr.ext hE19
        have hbf9 := hbfr.ext hE19
        have hEw9 := hEr.trans hE19
        have m9 := (hE19.cells.1 _ _ mb).trans m0
        have mb9 := Nat.lt_of_lt_of_le mb hE19.size
        clear k0 k1 n0 m0 mb
        obtain ⟨aD, cD, rfl, hxD⟩ := hD9
        have HXD := Lib.hid hxD
        clear hxD
        go_wp2
        go_loopw [14, 15] (fun vd _ wy => ∃ d : Nat, d ≤ l.length ∧ vd = .int .i64 d ∧ (List.range d).findSome? (fun d => (C.down c (C.dat l d)).map fun i => (d, i)) = none ∧ Ext w9 wy) (fun vd _ _ => l.length - (intOf vd).toNat)
        case atStart => exact ⟨0, Nat.zero_le _, rfl, rfl, Ext.refl _⟩
        case round =>
          rename World => wy
          obtain ⟨d, hd, rfl, hdn, hEy⟩ := hrel
          have hbxy := hbx9.ext hEy
          have hbfy := hbf9.ext hEy
          have hEwy := hEw9.trans hEy
          have HDF := Lib.hid hdn
          clear hdn
          by_cases hld : d < l.length
          · obtain ⟨b5, o5, rfl, hb5, hAt5⟩ := HXD.out d hld
            obtain ⟨q0, q1⟩ := day_cells (ate_stays _ _ _ _ _ _ hEy hb5 hAt5)
            have qb := Nat.lt_of_lt_of_le hb5 hEy.size
            have hcd := HC.out _ (List.getElem_mem hld)
            have hfn : (List.range (d + 1)).findSome? (fun d => (C.down c (C.dat l d)).map fun i => (d, i)) = (C.down c l[d]).map fun i => (d, i) := by rw [find_none HDF.out, dat_at hld]
            have hfh := fun x (h : (C.down c l[d]).map (fun i => (d, i)) = some x) => find_some (n := l.length) (f := fun d => (C.down c (C.dat l d)).map fun i => (d, i)) hld HDF.out (by rw [dat_at hld]; exact h)
            have hdn := fun w' hx => HDN.out l[d] w' hx hcd.1 (by have := hcd.2; omega)
            obtain ⟨xd, hxd⟩ : ∃ xd, l[d] = xd := ⟨_, rfl⟩
            rw [hxd] at q0 q1 hfn
            simp only [hxd] at hfh hdn
            obtain ⟨o, ho⟩ : ∃ o, C.down c xd = o := ⟨_, rfl⟩
            rw [ho] at hfn
            simp only [ho] at hfh hdn
            obtain ⟨xb, xc⟩ := xd
            dsimp only at q0 q1
            have HDD := Lib.hid hdn
            have HFN2 := Lib.hid hfn
            have HFH2 := Lib.hid hfh
            clear hAt5 hcd hfn hfh hdn hxd ho
            have k0 := hbxy.cell
            have k1 := hbxy.lt
            cases o with
            | none =>
              dsimp only [downI] at HDD
              go_upto_region 9 with (fail)
              refine wp_region_ext 6 (fun _ _ d _ _ h => by cases d <;> exact h) (by kernel_rfl) (by kernel_rfl) (by kernel_rfl) (by kernel_rfl) ?_
              (try simp only [List.append_eq, List.cons_append, List.nil_append])
              simp only [List.take_succ_cons, List.take_zero, List.drop_succ_cons, List.drop_zero]
              repeat (any_goals (first | go_big_quiet_step ((go_at_call 34; exact ext_quiet (HDD.out _ (by (with_reducible (repeat (first | exact Ext.refl _ | assumption | apply Ext.alloc | apply Ext.drew | exact ext_plus _ _ | (apply Ext.setCell; rotate_left; (simp <;> omega)) | (apply Ext.trans; rotate_left; exact ext_plus _ _) | (apply Ext.trans; rotate_left; assumption)))))))) | quiet_step ((go_at_call 34; exact ext_quiet (HDD.out _ (by (with_reducible (repeat (first | exact Ext.refl _ | assumption | apply Ext.alloc | apply Ext.drew | exact ext_plus _ _ | (apply Ext.setCell; rotate_left; (simp <;> omega)) | (apply Ext.trans; rotate_left; exact ext_plus _ _) | (apply Ext.trans; rotate_left; assumption))))))))))
              all_goals (refine wpQuiet_nil ?_; intro w6 hEw6)
              go_wp2
              go_roundw
              case rel => exact ⟨d + 1, by omega, by go_num, by rw [HFN2.out]; rfl, hEy.trans hEw6⟩
              case measure => simp [intOf]; omega
            | some i9 =>
              dsimp only [downI] at HDD
              go_upto_region 9 with (fail)
              refine wp_region_ext 6 (fun _ _ d _ _ h => by cases d <;> exact h) (by kernel_rfl) (by kernel_rfl) (by kernel_rfl) (by kernel_rfl) ?_
              (try simp only [List.append_eq, List.cons_append, List.nil_append])
              simp only [List.take_succ_cons, List.take_zero, List.drop_succ_cons, List.drop_zero]
              repeat (any_goals (first | go_big_quiet_step ((go_at_call 34; exact ext_quiet (HDD.out _ (by (with_reducible (repeat (first | exact Ext.refl _ | assumption | apply Ext.alloc | apply Ext.drew | exact ext_plus _ _ | (apply Ext.setCell; rotate_left; (simp <;> omega)) | (apply Ext.trans; rotate_left; exact ext_plus _ _) | (apply Ext.trans; rotate_left; assumption)))))))) | quiet_step ((go_at_call 34; exact ext_quiet (HDD.out _ (by (with_reducible (repeat (first | exact Ext.refl _ | assumption | apply Ext.alloc | apply Ext.drew | exact ext_plus _ _ | (apply Ext.setCell; rotate_left; (simp <;> omega)) | (apply Ext.trans; rotate_left; exact ext_plus _ _) | (apply Ext.trans; rotate_left; assumption))))))))))
              all_goals (refine wpQuiet_nil ?_; intro w6 hEw6)
              have hbf6 := hbfy.ext hEw6
              have hE96 := hEy.trans hEw6
              have m6 := (hE96.cells.1 _ _ mb9).trans m9
              have mb6 := Nat.lt_of_lt_of_le mb9 hE96.size
              have z0 := hbf6.cell
              have z1 := hbf6.lt
              have z2 := hbf6.free
              clear k0 k1 q0 q1 qb
              have hEw6' := hEwy.trans hEw6
              have hi9 : decide ((i9 : Int) ≥ 0) = true := by simp
              go_wp2
              have hfd : C.firstDown c l = some (d, i9) := HFH2.out (d, i9) rfl
              have hfin := HFH.out (t, d, i9) (by rw [hfd]; rfl)
              clear hfd
              have hB9 := ((hbf6.set 0 (.string (bs t))).set 1 (.int .i64 (d : Int))).set 2 (.int .i64 (i9 : Int))
              have hE9 : Ext w (((w6.setCell ⟨w.heap.size + 1, 0, none⟩ (.string (bs t))).setCell ⟨w.heap.size + 1, 1, none⟩ (.int .i64 (d : Int))).setCell ⟨w.heap.size + 1, 2, none⟩ (.int .i64 (i9 : Int))) := ((hEw6'.setCell (p := ⟨w.heap.size + 1, 0, none⟩) (by simp) _).setCell (p := ⟨w.heap.size + 1, 1, none⟩) (by simp) _).setCell (p := ⟨w.heap.size + 1, 2, none⟩) (by simp) _
              obtain ⟨w8, hw8⟩ : ∃ w8, ((w6.setCell ⟨w.heap.size + 1, 0, none⟩ (.string (bs t))).setCell ⟨w.heap.size + 1, 1, none⟩ (.int .i64 (d : Int))).setCell ⟨w.heap.size + 1, 2, none⟩ (.int .i64 (i9 : Int)) = w8 := ⟨_, rfl⟩
              rw [hw8] at hB9 hE9 ⊢
              clear hw8 z0 z1 z2
              have z0 := hB9.cell
              have z1 := hB9.lt
              refine bodyPost_ret (v := .tuple #[.agg #[.string (bs t), .int .i64 (d : Int), .int .i64 (i9 : Int)], .bool true]) (by simp [results, Try.results32, go_sem, z0]) rfl ⟨?_, hE9⟩
              rw [hfin]; rfl
          · obtain rfl : d = l.length := by omega
            have hno : C.firstDown c l = none := HDF.out
            have hfs2 := HFS.out (by rw [hno]; rfl)
            have HF2 := Lib.hid hfs2
            clear hno hfs2
            go_wp2
            go_roundw
            case rel => exact ⟨i + 1, by omega, by go_num, HF2.out, hE.trans (hE19.trans hEy)⟩
            case measure => simp [intOf]; omega
      · refine wpOp_step rfl (fun K hK0 => ?_)
        have hK : Shut _ := hK0
        clear hK0
        go_simp
        obtain ⟨wz, hwz⟩ : ∃ wz, (wr.alloc (.cells #[.int .i64 0, .int .i64 0, .int .i64 0, .int .i64 0, .int .i64 0, .int .i64 0] 29)).drew = wz := ⟨_, rfl⟩
        have hZ : Blk wz wr.heap.size #[.int .i64 0, .int .i64 0, .int .i64 0, .int .i64 0, .int .i64 0, .int .i64 0] 29 := by rw [← hwz]; exact Blk.new wr _ _
        have hEz : Ext wr wz := by rw [← hwz]; exact ((Ext.refl _).alloc _).drew
        rw [hwz]
        clear hwz
        have n1 := (hbxr.ext hEz).cell
        have n2 := (hEz.cells.1 _ _ mb).trans m0
        have n3 := (hbxr.ext hEz).lt
        have n4 := Nat.lt_of_lt_of_le mb hEz.size
        refine hK.out _ _ ⟨fun _ => ⟨n1, n2, n3, n4⟩, ?_⟩
        clear hK K; clear hL; rename Shutb _ _ => hL
        (try simp only [Act.put, List.getElem_toArray, List.getElem_cons_zero, List.getElem_cons_succ, List.setIfInBounds_toArray, List.set_cons_zero, List.set_cons_succ])
        refine late_one (i := 8) (by kernel_rfl) hL (fun hL' => ?_)
        refine wpOp_step rfl (fun K hK0 => ?_)
        have hK : Shut _ := hK0
        clear hK0
        go_simp
        go_wp2_with (first | (go_at_call 21; refine (HR.out _ (hEr.trans hEz)).mono ?_; rintro e wq ⟨v9, rfl, hDv, hER, hOB⟩))
        refine hK.out _ _ ⟨fun e => absurd (e : true = false) (by decide), ?_⟩
        clear hK K; clear hL; rename Shutb _ _ => hL
        (try simp only [Act.put, List.getElem_toArray, List.getElem_cons_zero, List.getElem_cons_succ, List.setIfInBounds_toArray, List.set_cons_zero, List.set_cons_succ])
        refine late_late (i := 9) (v := ?_) rfl (by kernel_rfl) (by kernel_rfl) (by kernel_rfl) (by decide) (fun _ _ => fun e => absurd (e : true = false) (by decide)) (fun _ _ _ h => h) hL (Or.inl ⟨by rfl, ?_⟩) (fun e => absurd (e : true = false) (by decide)) (fun hL' => ?_)
        rotate_left
        · intro y hy; clear hy; go_simp; (try with_reducible rfl)
        clear hL; rename Shutb _ _ => hL
        (try simp only [Act.put, List.getElem_toArray, List.getElem_cons_zero, List.getElem_cons_succ, List.setIfInBounds_toArray, List.set_cons_zero, List.set_cons_succ])
        refine late_late (i := 10) (v := ?_) rfl (by kernel_rfl) (by kernel_rfl) (by kernel_rfl) (by decide) (fun _ _ => fun e => absurd (e : true = false) (by decide)) (fun _ _ _ h => h) hL (Or.inl ⟨by rfl, ?_⟩) (fun e => absurd (e : true = false) (by decide)) (fun hL' => ?_)
        rotate_left
        · intro y hy; clear hy; go_simp; (try with_reducible rfl)
        clear hL; rename Shutb _ _ => hL
        (try simp only [Act.put, List.getElem_toArray, List.getElem_cons_zero, List.getElem_cons_succ, List.setIfInBounds_toArray, List.set_cons_zero, List.set_cons_succ])
        refine late_late (i := 11) (v := ?_) rfl (by kernel_rfl) (by kernel_rfl) (by kernel_rfl) (by decide) (fun _ _ => fun e => absurd (e : true = false) (by decide)) (fun _ _ _ h => h) hL (Or.inl ⟨by rfl, ?_⟩) (fun e => absurd (e : true = false) (by decide)) (fun hL' => ?_)
        rotate_left
        · intro y hy; clear hy; go_simp; (try with_reducible rfl)
        clear hL; rename Shutb _ _ => hL
        (try simp only [Act.put, List.getElem_toArray, List.getElem_cons_zero, List.getElem_cons_succ, List.setIfInBounds_toArray, List.set_cons_zero, List.set_cons_succ])
        refine late_one (i := 13) (by kernel_rfl) hL (fun hL' => ?_)
        refine wpOp_step rfl (fun K hK0 => ?_)
        have hK : Shut _ := hK0
        clear hK0
        go_simp
        refine hK.out _ _ ⟨fun e => absurd (e : true = false) (by decide), ?_⟩
        clear hK K; clear hL; rename Shutb _ _ => hL
        (try simp only [Act.put, List.getElem_toArray, List.getElem_cons_zero, List.getElem_cons_succ, List.setIfInBounds_toArray, List.set_cons_zero, List.set_cons_succ])
        have hZ2 := hZ.ext hER
        refine late_one (i := 14) (by kernel_rfl) hL (fun hL' => ?_)
        refine wpOp_step rfl (fun K hK0 => ?_)
        have hK : Shut _ := hK0
        clear hK0
        refine wp_store_mid 29 _ _ rfl (wr.heap.size) 0 #[.int .i64 g0, .int .i64 g1, .int .i64 g2, .int .i64 g3, .int .i64 g4, .int .i64 g5] rfl rfl (there_of hZ2 (by simp)) (by kernel_rfl) (by first | rfl | (simp; done) | (simp; exact ⟨rfl, rfl, rfl, rfl, rfl, rfl⟩) | simp [Value.oneCell']) ?_
        refine hK.out _ _ ⟨fun e => absurd (e : true = false) (by decide), ?_⟩
        clear hK K; clear hL; rename Shutb _ _ => hL
        (try simp only [Act.put, List.getElem_toArray, List.getElem_cons_zero, List.getElem_cons_succ, List.setIfInBounds_toArray, List.set_cons_zero, List.set_cons_succ])
        refine late_done (by kernel_rfl) ?_
        (try dsimp only [Exit.then])
        have hE19 : Ext wr (wq.setCells wr.heap.size 0 [.int .i64 g0, .int .i64 g1, .int .i64 g2, .int .i64 g3, .int .i64 g4, .int .i64 g5]) := ext_setCells (Nat.le_refl _) _ _ (hEz.trans hER)
        have hD9 : Days (wq.setCells wr.heap.size 0 [.int .i64 g0, .int .i64 g1, .int .i64 g2, .int .i64 g3, .int .i64 g4, .int .i64 g5]) v9 l := days_setCells hDv hOB (by have := (hZ.ext (Ext.refl _)).lt; omega)
        generalize wq.setCells wr.heap.size 0 [.int .i64 g0, .int .i64 g1, .int .i64 g2, .int .i64 g3, .int .i64 g4, .int .i64 g5] = w9 at hE19 hD9 ⊢
        clear hDv hER hOB hZ hEz hZ2 n1 n2 n3 n4
        have hbx9 := hbxr.ext hE19
        have hbf9 := hbfr.ext hE19
        have hEw9 := hEr.trans hE19
        have m9 := (hE19.cells.1 _ _ mb).trans m0
        have mb9 := Nat.lt_of_lt_of_le mb hE19.size
        clear k0 k1 n0 m0 mb
        obtain ⟨aD, cD, rfl, hxD⟩ := hD9
        have HXD := Lib.hid hxD
        clear hxD
        go_wp2
        go_loopw [14, 15] (fun vd _ wy => ∃ d : Nat, d ≤ l.length ∧ vd = .int .i64 d ∧ (List.range d).findSome? (fun d => (C.down c (C.dat l d)).map fun i => (d, i)) = none ∧ Ext w9 wy) (fun vd _ _ => l.length - (intOf vd).toNat)
        case atStart => exact ⟨0, Nat.zero_le _, rfl, rfl, Ext.refl _⟩
        case round =>
          rename World => wy
          obtain ⟨d, hd, rfl, hdn, hEy⟩ := hrel
          have hbxy := hbx9.ext hEy
          have hbfy := hbf9.ext hEy
          have hEwy := hEw9.trans hEy
          have HDF := Lib.hid hdn
          clear hdn
          by_cases hld : d < l.length
          · obtain ⟨b5, o5, rfl, hb5, hAt5⟩ := HXD.out d hld
            obtain ⟨q0, q1⟩ := day_cells (ate_stays _ _ _ _ _ _ hEy hb5 hAt5)
            have qb := Nat.lt_of_lt_of_le hb5 hEy.size
            have hcd := HC.out _ (List.getElem_mem hld)
            have hfn : (List.range (d + 1)).findSome? (fun d => (C.down c (C.dat l d)).map fun i => (d, i)) = (C.down c l[d]).map fun i => (d, i) := by rw [find_none HDF.out, dat_at hld]
            have hfh := fun x (h : (C.down c l[d]).map (fun i => (d, i)) = some x) => find_some (n := l.length) (f := fun d => (C.down c (C.dat l d)).map fun i => (d, i)) hld HDF.out (by rw [dat_at hld]; exact h)
            have hdn := fun w' hx => HDN.out l[d] w' hx hcd.1 (by have := hcd.2; omega)
            obtain ⟨xd, hxd⟩ : ∃ xd, l[d] = xd := ⟨_, rfl⟩
            rw [hxd] at q0 q1 hfn
            simp only [hxd] at hfh hdn
            obtain ⟨o, ho⟩ : ∃ o, C.down c xd = o := ⟨_, rfl⟩
            rw [ho] at hfn
            simp only [ho] at hfh hdn
            obtain ⟨xb, xc⟩ := xd
            dsimp only at q0 q1
            have HDD := Lib.hid hdn
            have HFN2 := Lib.hid hfn
            have HFH2 := Lib.hid hfh
            clear hAt5 hcd hfn hfh hdn hxd ho
            have k0 := hbxy.cell
            have k1 := hbxy.lt
            cases o with
            | none =>
              dsimp only [downI] at HDD
              go_upto_region 9 with (fail)
              refine wp_region_ext 6 (fun _ _ d _ _ h => by cases d <;> exact h) (by kernel_rfl) (by kernel_rfl) (by kernel_rfl) (by kernel_rfl) ?_
              (try simp only [List.append_eq, List.cons_append, List.nil_append])
              simp only [List.take_succ_cons, List.take_zero, List.drop_succ_cons, List.drop_zero]
              repeat (any_goals (first | go_big_quiet_step ((go_at_call 34; exact ext_quiet (HDD.out _ (by (with_reducible (repeat (first | exact Ext.refl _ | assumption | apply Ext.alloc | apply Ext.drew | exact ext_plus _ _ | (apply Ext.setCell; rotate_left; (simp <;> omega)) | (apply Ext.trans; rotate_left; exact ext_plus _ _) | (apply Ext.trans; rotate_left; assumption)))))))) | quiet_step ((go_at_call 34; exact ext_quiet (HDD.out _ (by (with_reducible (repeat (first | exact Ext.refl _ | assumption | apply Ext.alloc | apply Ext.drew | exact ext_plus _ _ | (apply Ext.setCell; rotate_left; (simp <;> omega)) | (apply Ext.trans; rotate_left; exact ext_plus _ _) | (apply Ext.trans; rotate_left; assumption))))))))))
              all_goals (refine wpQuiet_nil ?_; intro w6 hEw6)
              go_wp2
              go_roundw
              case rel => exact ⟨d + 1, by omega, by go_num, by rw [HFN2.out]; rfl, hEy.trans hEw6⟩
              case measure => simp [intOf]; omega
            | some i9 =>
              dsimp only [downI] at HDD
              go_upto_region 9 with (fail)
              refine wp_region_ext 6 (fun _ _ d _ _ h => by cases d <;> exact h) (by kernel_rfl) (by kernel_rfl) (by kernel_rfl) (by kernel_rfl) ?_
              (try simp only [List.append_eq, List.cons_append, List.nil_append])
              simp only [List.take_succ_cons, List.take_zero, List.drop_succ_cons, List.drop_zero]
              repeat (any_goals (first | go_big_quiet_step ((go_at_call 34; exact ext_quiet (HDD.out _ (by (with_reducible (repeat (first | exact Ext.refl _ | assumption | apply Ext.alloc | apply Ext.drew | exact ext_plus _ _ | (apply Ext.setCell; rotate_left; (simp <;> omega)) | (apply Ext.trans; rotate_left; exact ext_plus _ _) | (apply Ext.trans; rotate_left; assumption)))))))) | quiet_step ((go_at_call 34; exact ext_quiet (HDD.out _ (by (with_reducible (repeat (first | exact Ext.refl _ | assumption | apply Ext.alloc | apply Ext.drew | exact ext_plus _ _ | (apply Ext.setCell; rotate_left; (simp <;> omega)) | (apply Ext.trans; rotate_left; exact ext_plus _ _) | (apply Ext.trans; rotate_left; assumption))))))))))
              all_goals (refine wpQuiet_nil ?_; intro w6 hEw6)
              have hbf6 := hbfy.ext hEw6
              have hE96 := hEy.trans hEw6
              have m6 := (hE96.cells.1 _ _ mb9).trans m9
              have mb6 := Nat.lt_of_lt_of_le mb9 hE96.size
              have z0 := hbf6.cell
              have z1 := hbf6.lt
              have z2 := hbf6.free
              clear k0 k1 q0 q1 qb
              have hEw6' := hEwy.trans hEw6
              have hi9 : decide ((i9 : Int) ≥ 0) = true := by simp
              go_wp2
              have hfd : C.firstDown c l = some (d, i9) := HFH2.out (d, i9) rfl
              have hfin := HFH.out (t, d, i9) (by rw [hfd]; rfl)
              clear hfd
              have hB9 := ((hbf6.set 0 (.string (bs t))).set 1 (.int .i64 (d : Int))).set 2 (.int .i64 (i9 : Int))
              have hE9 : Ext w (((w6.setCell ⟨w.heap.size + 1, 0, none⟩ (.string (bs t))).setCell ⟨w.heap.size + 1, 1, none⟩ (.int .i64 (d : Int))).setCell ⟨w.heap.size + 1, 2, none⟩ (.int .i64 (i9 : Int))) := ((hEw6'.setCell (p := ⟨w.heap.size + 1, 0, none⟩) (by simp) _).setCell (p := ⟨w.heap.size + 1, 1, none⟩) (by simp) _).setCell (p := ⟨w.heap.size + 1, 2, none⟩) (by simp) _
              obtain ⟨w8, hw8⟩ : ∃ w8, ((w6.setCell ⟨w.heap.size + 1, 0, none⟩ (.string (bs t))).setCell ⟨w.heap.size + 1, 1, none⟩ (.int .i64 (d : Int))).setCell ⟨w.heap.size + 1, 2, none⟩ (.int .i64 (i9 : Int)) = w8 := ⟨_, rfl⟩
              rw [hw8] at hB9 hE9 ⊢
              clear hw8 z0 z1 z2
              have z0 := hB9.cell
              have z1 := hB9.lt
              refine bodyPost_ret (v := .tuple #[.agg #[.string (bs t), .int .i64 (d : Int), .int .i64 (i9 : Int)], .bool true]) (by simp [results, Try.results32, go_sem, z0]) rfl ⟨?_, hE9⟩
              rw [hfin]; rfl
          · obtain rfl : d = l.length := by omega
            have hno : C.firstDown c l = none := HDF.out
            have hfs2 := HFS.out (by rw [hno]; rfl)
            have HF2 := Lib.hid hfs2
            clear hno hfs2
            go_wp2
            go_roundw
            case rel => exact ⟨i + 1, by omega, by go_num, HF2.out, hE.trans (hE19.trans hEy)⟩
            case measure => simp [intOf]; omega
    · obtain rfl : i = L.length := by omega
      have hnf := HFN.out
      rw [List.take_length] at hnf
      have z0 := hbfr.cell
      have z1 := hbfr.lt
      have z2 := hbfr.free
      go_wp2
      have hB9 := ((hbfr.set 0 (.string ⟨#[]⟩)).set 1 (.int .i64 0)).set 2 (.int .i64 0)
      have hE9 : Ext w (((wr.setCell ⟨w.heap.size + 1, 0, none⟩ (.string ⟨#[]⟩)).setCell ⟨w.heap.size + 1, 1, none⟩ (.int .i64 0)).setCell ⟨w.heap.size + 1, 2, none⟩ (.int .i64 0)) := ((hEr.setCell (p := ⟨w.heap.size + 1, 0, none⟩) (by simp) _).setCell (p := ⟨w.heap.size + 1, 1, none⟩) (by simp) _).setCell (p := ⟨w.heap.size + 1, 2, none⟩) (by simp) _
      obtain ⟨w8, hw8⟩ : ∃ w8, ((wr.setCell ⟨w.heap.size + 1, 0, none⟩ (.string ⟨#[]⟩)).setCell ⟨w.heap.size + 1, 1, none⟩ (.int .i64 0)).setCell ⟨w.heap.size + 1, 2, none⟩ (.int .i64 0) = w8 := ⟨_, rfl⟩
      rw [hw8] at hB9 hE9 ⊢
      clear hw8 z0 z1 z2
      have z0 := hB9.cell
      have z1 := hB9.lt
      refine bodyPost_ret (v := .tuple #[.agg #[.string ⟨#[]⟩, .int .i64 0, .int .i64 0], .bool false]) (by simp [results, Try.results32, go_sem, z0]) rfl ⟨?_, hE9⟩
      rw [hnf]; rfl
end Go.Proofs.Ytkjoojmlcjmlgaa
namespace Go.Proofs.Ytkjoojmlcjmlgaa
set_option linter.unusedVariables false
set_option linter.unusedSimpArgs false
open Go.RowKit
theorem faultV_cells (o : Option (C.Txt × Nat × Nat)) : ∃ s a b, faultV o = #[.string s, .int .i64 a, .int .i64 b] := by
  cases o with
  | none => exact ⟨_, _, _, rfl⟩
  | some x => exact ⟨_, _, _, rfl⟩
set_option maxRecDepth 100000 in
set_option maxHeartbeats 8000000 in
theorem dsuffice_any (c : C.Sys) (p b off : Int) (vl : Value) (w : World) (hL0 : Loads w vl c.loads) (O : C.Ok c) (hp0 : 0 ≤ p) (hp1 : p ≤ 12) (hb0 : 0 ≤ b) (hb1 : b ≤ 8) (ho0 : 0 ≤ off) (ho1 : off < 2 ^ c.loads.length) :
    Calls Try.prog 63 #[.agg (sysV c vl), .int .i64 p, .int .i64 b, .int .i64 off] w fun e w' => e = .returned (.bool (C.suffice c p b off)) ∧ Ext w w' := by
  have hL0' := hL0
  obtain ⟨a, cap, rfl, _⟩ := hL0'
  have hfa := fun w' (hx : Ext w w') => dfault_any c p b off _ w' (hL0.ext hx) O hp0 hp1 hb0 hb1 ho0 ho1
  have hsf : C.suffice c p b off = !(C.fault c p b off).isSome := by unfold C.suffice; cases C.fault c p b off <;> rfl
  rw [hsf]
  obtain ⟨s, x, y, hv⟩ := faultV_cells (C.fault c p b off)
  obtain ⟨B, hB⟩ : ∃ B, (C.fault c p b off).isSome = B := ⟨_, rfl⟩
  simp only [hv, hB] at hfa
  rw [hB]
  have HFA := Lib.hid hfa
  clear hfa hv hB hsf hL0 O
  go_enter Try.func63, Try.ntmps63
  go_wp2_with (first | (go_at_call 32; refine (HFA.out _ (by (with_reducible (repeat (first | exact Ext.refl _ | assumption | apply Ext.alloc | apply Ext.drew | exact ext_plus _ _ | (apply Ext.setCell; rotate_left; (simp <;> omega)) | (apply Ext.trans; rotate_left; exact ext_plus _ _) | (apply Ext.trans; rotate_left; assumption)))))).mono ?_; rintro e w2 ⟨rfl, hE2⟩))
  go_ret
  exact ⟨rfl, by (with_reducible (repeat (first | exact Ext.refl _ | assumption | apply Ext.alloc | apply Ext.drew | exact ext_plus _ _ | (apply Ext.setCell; rotate_left; (simp <;> omega)) | (apply Ext.trans; rotate_left; exact ext_plus _ _) | (apply Ext.trans; rotate_left; assumption))))⟩
end Go.Proofs.Ytkjoojmlcjmlgaa
