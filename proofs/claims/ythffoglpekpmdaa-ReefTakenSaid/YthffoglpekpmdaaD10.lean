/- The document's End: the truth with as few fish as can be, or as many. -/
import Derived.Test.YthffoglpekpmdaaD4
import Derived.Test.YthffoglpekpmdaaG3
namespace Go.Proofs.Ythffoglpekpmdaa
set_option linter.unusedVariables false
set_option linter.unusedSimpArgs false
open Go.RowKit
def sF (r : R.Reef) (m : Bool) (p : R.Place) : Int := if m then R.most r p.count else p.count
def gF (m : Bool) (p : R.Place) : Int := if m then p.gh else p.gl
def kF (r : R.Reef) (plan : List Int) (m : Bool) (s i : Nat) : Int := if m then (R.take (R.pat r.places i) (R.has (R.iat plan s) i)).1 else (R.take (R.pat r.places i) (R.has (R.iat plan s) i)).2
theorem endT_grows_eq (r : R.Reef) (plan : List Int) (m : Bool) : (R.endT r plan m).grows = (List.range r.seasons.toNat).map (fun _ => r.places.map (gF m)) := rfl
theorem endT_takes_eq (r : R.Reef) (plan : List Int) (m : Bool) : (R.endT r plan m).takes = (List.range r.seasons.toNat).map (fun s => (List.range r.places.length).map (kF r plan m s)) := rfl
theorem span_field0 (x y : Value) (w : World) : Sem.run Try.prog (Instr.field 44 (.agg #[x, y]) 0) w = .ok x w := by kernel_rfl
theorem span_field1 (x y : Value) (w : World) : Sem.run Try.prog (Instr.field 44 (.agg #[x, y]) 1) w = .ok y w := by kernel_rfl
theorem late_two {P : Program} {ops : Array Oper} {Q : Exit → Act → World → Prop} {S : Bool → World → Prop} {t : Nat} {L : Array Bool} {a : Act} {w : World} {f i j : Nat} (hr : Region.ready .any ops L = [i, j]) (hL : Shutb ops L)
    (h : Shutb ops (L.setIfInBounds i true) → wpOp P ops Q i (fun a' w' => S ((L.setIfInBounds i true).getD t false) w' ∧ wpAnyL P ops Q t S f (L.setIfInBounds i true) a' w') a w)
    (h2 : Shutb ops (L.setIfInBounds j true) → wpOp P ops Q j (fun a' w' => S ((L.setIfInBounds j true).getD t false) w' ∧ wpAnyL P ops Q t S f (L.setIfInBounds j true) a' w') a w) : wpAnyL P ops Q t S (f + 1) L a w := by
  have hi : i ∈ Region.ready .any ops L := by rw [hr]; simp
  have hj : j ∈ Region.ready .any ops L := by rw [hr]; simp
  refine ⟨fun e => ?_, fun k hk => ?_⟩
  · rw [hr] at e; cases e
  · rw [hr] at hk
    simp only [List.mem_cons, List.not_mem_nil, or_false] at hk
    rcases hk with rfl | rfl
    · exact h (shut_set hL hi)
    · exact h2 (shut_set hL hj)
/-- Two rows that lie apart. -/
theorem apart_ne {va vb : Value} (hd : ∀ q, va.ownBlock = some q → vb.ownBlock ≠ some q) : vb.ownBlock = none ∨ vb.ownBlock ≠ va.ownBlock := by
  cases hq : vb.ownBlock with
  | none => exact .inl rfl
  | some j => exact .inr (fun e => hd j e.symm hq)
theorem apart_ne2 {va vb : Value} (hd : ∀ q, va.ownBlock = some q → vb.ownBlock ≠ some q) : va.ownBlock = none ∨ va.ownBlock ≠ vb.ownBlock := by
  cases hq : va.ownBlock with
  | none => exact .inl rfl
  | some j => exact .inr (fun e => hd j hq e.symm)
theorem apart_new {va vb va' vb' : Value} {m n1 n2 : Nat} (hd : ∀ q, va.ownBlock = some q → vb.ownBlock ≠ some q) (hla : ∀ q, va.ownBlock = some q → q < m) (hlb : ∀ q, vb.ownBlock = some q → q < m) (h1 : va'.ownBlock = va.ownBlock ∨ va'.ownBlock = some n1) (hn1 : m ≤ n1) (h2 : vb'.ownBlock = vb.ownBlock ∨ vb'.ownBlock = some n2) (hn2 : n1 < n2) :
    (∀ q, va'.ownBlock = some q → vb.ownBlock ≠ some q) ∧ (∀ q, va'.ownBlock = some q → vb'.ownBlock ≠ some q) := by
  have ha : ∀ q, va'.ownBlock = some q → vb.ownBlock ≠ some q := by
    intro q hq e
    rcases h1 with h1 | h1
    · exact hd q (h1 ▸ hq) e
    · rw [h1] at hq
      have := hlb q e
      simp only [Option.some.injEq] at hq
      omega
  refine ⟨ha, fun q hq e => ?_⟩
  rcases h2 with h2 | h2
  · exact ha q hq (h2 ▸ e)
  · rw [h2] at e
    simp only [Option.some.injEq] at e
    rcases h1 with h1 | h1
    · have := hla q (h1 ▸ hq); omega
    · rw [h1] at hq
      simp only [Option.some.injEq] at hq
      omega
theorem pair_all {bT n0 : Nat} {wb wi x y z u : World} {L1 L2 : List (List Int × Value)} {v1 v2 v1' v2' sv : Value} {p1 p2 : List Int × Value} {base : Nat} (hB : Blk wi bT #[sv, v1, v2] 28) (hbT : bT < base) (hbase : base ≤ wb.heap.size)
    (ho1 : wi.ownsRow base 25 1 v1 L1.length (L1.map Prod.snd)) (ho2 : wi.ownsRow base 25 1 v2 L2.length (L2.map Prod.snd)) (hd : ∀ j, v1.ownBlock = some j → v2.ownBlock ≠ some j)
    (hA1 : ∀ p ∈ L1, Apart bT bT n0 wi p) (hA2 : ∀ p ∈ L2, Apart bT bT n0 wi p) (hp1 : Apart bT bT n0 wi p1) (hp2 : Apart bT bT n0 wi p2)
    (hx : Ext wi x) (hg1 : x.grownBy y v1.ownBlock) (hn1 : y.ownsRow base 25 1 v1' (L1.length + 1) (L1.map Prod.snd ++ [p1.2])) (hat1 : v1'.ownBlock = v1.ownBlock ∨ v1'.ownBlock = some x.heap.size)
    (hz : Ext y z) (hg2 : z.grownBy u v2.ownBlock) (hn2 : u.ownsRow base 25 1 v2' (L2.length + 1) (L2.map Prod.snd ++ [p2.2])) (hat2 : v2'.ownBlock = v2.ownBlock ∨ v2'.ownBlock = some z.heap.size)
    (hOff : Off bT bT wb wi) (hwb : wb.heap.size ≤ base := by exact Nat.le_refl _) :
    ((u.setCell ⟨bT, 1, none⟩ v1').setCell ⟨bT, 2, none⟩ v2').ownsRow base 25 1 v1' (L1 ++ [p1]).length ((L1 ++ [p1]).map Prod.snd) ∧ ((u.setCell ⟨bT, 1, none⟩ v1').setCell ⟨bT, 2, none⟩ v2').ownsRow base 25 1 v2' (L2 ++ [p2]).length ((L2 ++ [p2]).map Prod.snd) ∧
    (∀ j, v1'.ownBlock = some j → v2'.ownBlock ≠ some j) ∧ (∀ p ∈ L1 ++ [p1], Apart bT bT n0 ((u.setCell ⟨bT, 1, none⟩ v1').setCell ⟨bT, 2, none⟩ v2') p) ∧ (∀ p ∈ L2 ++ [p2], Apart bT bT n0 ((u.setCell ⟨bT, 1, none⟩ v1').setCell ⟨bT, 2, none⟩ v2') p) ∧
    Blk ((u.setCell ⟨bT, 1, none⟩ v1').setCell ⟨bT, 2, none⟩ v2') bT #[sv, v1', v2'] 28 ∧ Off bT bT wb ((u.setCell ⟨bT, 1, none⟩ v1').setCell ⟨bT, 2, none⟩ v2') := by
  have ho1x := own_ext ho1 hx
  have ho2x := own_ext ho2 hx
  have ho2y := ho2x.kept hg1 (apart_ne hd)
  have ho2z := own_ext ho2y hz
  have hlx := hx.size
  have hd1 : ∀ q, v1'.ownBlock = some q → v2.ownBlock ≠ some q := by
    intro q hq e
    rcases hat1 with h1 | h1
    · exact hd q (h1 ▸ hq) e
    · rw [h1] at hq
      simp only [Option.some.injEq] at hq
      have := (ho2x.lt q e).2
      omega
  have hd2 : ∀ q, v1'.ownBlock = some q → v2'.ownBlock ≠ some q := by
    intro q hq e
    rcases hat2 with h2 | h2
    · exact hd1 q hq (h2 ▸ e)
    · rw [h2] at e
      simp only [Option.some.injEq] at e
      have := (hn1.lt q hq).2
      have := hz.size
      omega
  have hn1u := (own_ext hn1 hz).kept hg2 (apart_ne2 hd1)
  have hU : Off bT bT u ((u.setCell ⟨bT, 1, none⟩ v1').setCell ⟨bT, 2, none⟩ v2') := ((Off.refl bT bT u).set (a := ⟨bT, 1, none⟩) (.inl rfl) v1').set (a := ⟨bT, 2, none⟩) (.inl rfl) v2'
  have hAp : ∀ p, Apart bT bT n0 wi p → Apart bT bT n0 ((u.setCell ⟨bT, 1, none⟩ v1').setCell ⟨bT, 2, none⟩ v2') p := fun p hp =>
    ((((hp.ext hx).grown hg1 (own_blk ho1x (by decide))).ext hz).grown hg2 (own_blk ho2z (by decide))).off hU
  have hBu := (((hB.ext hx).grown hg1 (own_base ho1x) hbT).ext hz).grown hg2 (own_base ho2z) hbT
  refine ⟨?_, ?_, hd2, ?_, ?_, (hBu.set 1 v1').set 2 v2', ?_⟩
  · rw [List.length_append, List.map_append]
    exact own_other (own_other hn1u (a := ⟨bT, 1, none⟩) hbT _) (a := ⟨bT, 2, none⟩) hbT _
  · rw [List.length_append, List.map_append]
    exact own_other (own_other hn2 (a := ⟨bT, 1, none⟩) hbT _) (a := ⟨bT, 2, none⟩) hbT _
  · intro p hp
    rw [List.mem_append, List.mem_singleton] at hp
    rcases hp with hp | rfl
    · exact hAp p (hA1 p hp)
    · exact hAp _ hp1
  · intro p hp
    rw [List.mem_append, List.mem_singleton] at hp
    rcases hp with hp | rfl
    · exact hAp p (hA2 p hp)
    · exact hAp _ hp2
  · refine Off.trans ?_ hU
    refine Off.grown ((Off.grown (hOff.ext hx) hg1 (fun k e => ?_)).ext hz) hg2 (fun k e => ?_)
    · have := own_base ho1x k e; omega
    · have := own_base ho2z k e; omega
set_option maxRecDepth 100000 in
set_option maxHeartbeats 16000000 in
theorem dend_any (r : R.Reef) (plan : List Int) (m : Bool) (vp vl : Value) (w : World) (hP : Places w vp r.places) (hPl : Ints w vl plan) (O : R.OkR r) (OL : R.OkL r plan) :
    Calls Try.prog 27 #[.agg (reefV r vp), vl, .bool m] w fun x w' => ∃ vs vg vt, x = .returned (.agg (truthV vs vg vt)) ∧ Ints w' vs (R.endT r plan m).starts ∧ Lists w' vg (R.endT r plan m).grows ∧ Lists w' vt (R.endT r plan m).takes ∧ Ext w w' := by
  obtain ⟨a1, c1, rfl, hx1⟩ := hP
  obtain ⟨a2, c2, rfl, hx2⟩ := hPl
  have HX1 := Lib.hid hx1
  have HX2 := Lib.hid hx2

  have hn1 := O.n1
  have hn4 := O.n4
  have hs1 := O.s1
  have hs4 := O.s4
  have HO := Lib.hid O
  have HOL := Lib.hid OL
  obtain ⟨i0, hi, hz0, hz1, hz2⟩ := info_parts int_info
  obtain ⟨mm, hmm⟩ := Int.eq_ofNat_of_zero_le (show 0 ≤ r.seasons by omega)
  have hm4 : mm ≤ 4 := by omega
  have HM := Lib.hid hmm
  clear hx1 hx2 O OL hmm
  cases m with
  | false =>
    go_enter Try.func27, Try.ntmps27
    go_upto_region 2 with (fail)
    obtain ⟨w1, hw1⟩ : ∃ w1, (((w.alloc (.cells (reefV r (.slice a1 r.places.length c1)) 24)).alloc (.cells #[.slice none 0 0, .slice none 0 0, .slice none 0 0] 28)).alloc (.cells #[.slice none 0 0, .slice none 0 0, .slice none 0 0] 28)) = w1 := ⟨_, rfl⟩
    have hb0 : Blk w1 w.heap.size (reefV r (.slice a1 r.places.length c1)) 24 := by rw [← hw1]; exact ((Blk.new' rfl _ _).alloc _).alloc _
    have hb1 : Blk w1 (w.heap.size + 1) #[.slice none 0 0, .slice none 0 0, .slice none 0 0] 28 := by rw [← hw1]; exact (Blk.new' (by simp) _ _).alloc _
    have hb2 : Blk w1 (w.heap.size + 1 + 1) #[.slice none 0 0, .slice none 0 0, .slice none 0 0] 28 := by rw [← hw1]; exact Blk.new' (by simp) _ _
    have hE1 : Ext w w1 := by rw [← hw1]; (with_reducible (repeat (first | exact Ext.refl _ | assumption | apply Ext.alloc | apply Ext.drew | exact ext_plus _ _ | (apply Ext.setCell; rotate_left; (simp <;> omega)) | (apply Ext.trans; rotate_left; exact ext_plus _ _) | (apply Ext.trans; rotate_left; assumption))))
    rw [hw1]
    clear hw1
    obtain ⟨bT, hbT⟩ : ∃ bT, w.heap.size + 1 + 1 = bT := ⟨_, rfl⟩
    rw [hbT] at hb2 ⊢
    have hbTl : bT < w1.heap.size := hb2.lt
    go_wp2
    go_loopw [8, 9] (fun i _ wr => ∃ (k : Nat) (v : Value), k ≤ r.places.length ∧ i = .int .i64 k ∧ wr.ownsRow w1.heap.size 3 1 v k (pre (sF r false) r.places k) ∧ Blk wr bT #[v, .slice none 0 0, .slice none 0 0] 28 ∧ Off bT bT w1 wr) (fun i _ _ => r.places.length - (intOf i).toNat)
    case atStart => exact ⟨0, _, Nat.zero_le _, rfl, World.ownsRow_nil _ _ _ _, hb2, Off.refl _ _ _⟩
    case round =>
      rename World => wr
      obtain ⟨k, v, hk, rfl, hown, hB2, hOf⟩ := hrel
      have hEr : Ext w wr := hOf.ext0 hE1 (by omega) (by omega)
      have hB0 := hb0.off hOf (by omega) (by omega)
      have hB1 := hb1.off hOf (by omega) (by omega)
      have hszr := hOf.size
      have x0 := hB0.cell
      have x1 := hB0.lt
      obtain ⟨av, cv, rfl⟩ := own_slice hown
      by_cases hlt : k < r.places.length
      · obtain ⟨b, off, rfl, hb, hAt⟩ := HX1.out k hlt
        have hAt2 := ate_stays _ _ _ _ _ _ hEr hb hAt
        obtain ⟨h0, h1, h2, h3, h4, h5, h6, h7, h8, h9, h10, h11⟩ := place_cells hAt2
        have hbl := Nat.lt_of_lt_of_le hb hEr.size
        have hO := HO.out.place k hlt
        rw [R.pat_at hlt] at hO
        have hc0 := hO.c0
        have hc1 := hO.c1
        have hps := pre_succ (sF r false) r.places hlt
        obtain ⟨p, hp⟩ : ∃ p, r.places[k] = p := ⟨_, rfl⟩
        rw [hp] at h0 hc0 hc1 hps
        have HPS := Lib.hid hps
        clear hAt hAt2 hO h1 h2 h3 h4 h5 h6 h7 h8 h9 h10 h11 hps hp
        obtain ⟨w2, hw2⟩ : ∃ w2, wr = w2 := ⟨_, rfl⟩
        have hE2 : Ext wr w2 := hw2 ▸ Ext.refl _
        subst hw2
        go_upto_region 8 with (fail)
        have hT2 := hB2.ext hE2
        have hs2 := hE2.size
        have t0 := hT2.cell
        have t1 := hT2.lt
        have hown2 := own_ext hown hE2
        clear x0 x1
        go_wp2_with (first | (at_builtin; refine wpList_append_own_at _ rfl _ _ 25 rfl (w1.heap.size) 3 i0 (.int .i64 0) 1 8 Try.underlying25 hi hz0 hz1 hz2 rfl (by decide) _ _ _ rfl (hown2.alloc _) ⟨wr.heap.size, 0, none⟩ 1 1 [.int .i64 (p.count)] rfl rfl (cell_one _ _ _ (by simp)) (one_int _) (by unfold maxLen; omega) (by omega) (by simp <;> omega) ?_; intro v3 w3 hown3 hgr3 _ hat0; have hat3 := Lib.hid hat0; clear hat0; obtain ⟨g3, cap3, rfl⟩ := own_succ hown3; have hT3 := (hT2.alloc (.cells #[.int .i64 p.count] 3)).grown hgr3 (own_base hown2) hbTl; have y0 := hT3.cell; have y1 := hT3.free; have y2 := hT3.lt))
        go_roundw
        case rel => exact ⟨k + 1, _, by omega, by go_num, by rw [HPS.out]; exact own_other hown3 (a := ⟨bT, 0, none⟩) hbTl _, hT3.set 0 _, (Off.grown ((hOf.ext hE2).alloc _) hgr3 (own_base hown2)).set (a := ⟨bT, 0, none⟩) (.inl rfl) _⟩
        case measure => simp [intOf]; omega
      · obtain rfl : k = r.places.length := by omega
        rw [pre_all] at hown
        obtain ⟨gS, cS, e0, hgS, hgSl⟩ := own_pos hown HO.out.n1
        obtain rfl : av = some ⟨gS, 0, none⟩ := by cases e0; rfl
        have hRS : IRow wr gS (r.places.map (sF r false)) := IRow.of_own (by rw [List.length_map]; exact hown)
        have hbTr : bT < wr.heap.size := hB2.lt
        go_wp2
        go_loopw [10, 11, 12, 13, 14, 15, 16] (fun i _ _ _ _ _ _ wy => ∃ (k : Nat) (L1 L2 : List (List Int × Value)) (v1 v2 : Value), k ≤ mm ∧ i = .int .i64 k ∧ L1.length = k ∧ L2.length = k ∧ wy.ownsRow wr.heap.size 25 1 v1 L1.length (L1.map Prod.snd) ∧ wy.ownsRow wr.heap.size 25 1 v2 L2.length (L2.map Prod.snd) ∧ (∀ j, v1.ownBlock = some j → v2.ownBlock ≠ some j) ∧ (∀ p ∈ L1, Apart bT bT w.heap.size wy p) ∧ (∀ p ∈ L2, Apart bT bT w.heap.size wy p) ∧ L1.map Prod.fst = (List.range k).map (fun _ => r.places.map (gF false)) ∧ L2.map Prod.fst = (List.range k).map (fun s => (List.range r.places.length).map (kF r plan false s)) ∧ Blk wy bT #[.slice (some ⟨gS, 0, none⟩) r.places.length cv, v1, v2] 28 ∧ Off bT bT wr wy) (fun i _ _ _ _ _ _ _ => mm - (intOf i).toNat)
        case atStart => exact ⟨0, [], [], _, _, Nat.zero_le _, rfl, rfl, rfl, World.ownsRow_nil _ _ _ _, World.ownsRow_nil _ _ _ _, (by intro j h; simp [Value.ownBlock] at h), by simp, by simp, rfl, rfl, hB2, Off.refl _ _ _⟩
        case round =>
          rename World => wy
          obtain ⟨s, L1, L2, v1, v2, hs, rfl, hl1, hl2, ho1, ho2, hdis, hA1, hA2, hf1, hf2, hBy, hOfy⟩ := hrel
          have HA1 := Lib.hid hA1
          have HA2 := Lib.hid hA2
          have HF1 := Lib.hid hf1
          have HF2 := Lib.hid hf2
          have HL1 := Lib.hid hl1
          have HL2 := Lib.hid hl2
          have HDIS := Lib.hid hdis
          have hEy : Ext w wy := hOfy.ext0 hEr (by omega) (by omega)
          have hB0y := hB0.off hOfy (by omega) (by omega)
          have hB1y := hB1.off hOfy (by omega) (by omega)
          have hszy := hOfy.size
          have hnl1 : L1.length ≤ 4 := by omega
          have hnl2 : L2.length ≤ 4 := by omega
          have x0 := hB0y.cell
          have x1 := hB0y.lt
          clear hA1 hA2 hf1 hf2 hl1 hl2 hdis
          obtain ⟨av1, cv1, rfl⟩ := own_slice ho1
          obtain ⟨av2, cv2, rfl⟩ := own_slice ho2
          by_cases hlt : s < mm
          · have hlt' : (s : Int) < r.seasons := by have := HM.out; omega
            have hsp : s < plan.length := by have := HOL.out.len; have := HM.out; omega
            go_wp2
            go_loopw [11, 12, 13, 14, 15, 16] (fun va vb i _ _ _ wx => ∃ j : Nat, j ≤ r.places.length ∧ i = .int .i64 j ∧ wx.ownsRow wy.heap.size 3 1 va j (pre (gF false) r.places j) ∧ wx.ownsRow wy.heap.size 3 1 vb j (((List.range j).map (kF r plan false s)).map (Value.int .i64)) ∧ (∀ j, va.ownBlock = some j → vb.ownBlock ≠ some j) ∧ Ext wy wx) (fun _ _ i _ _ _ _ => r.places.length - (intOf i).toNat)
            case atStart => exact ⟨0, Nat.zero_le _, rfl, World.ownsRow_nil _ _ _ _, World.ownsRow_nil _ _ _ _, (by intro j h; simp [Value.ownBlock] at h), Ext.refl _⟩
            case round =>
              rename World => wx
              obtain ⟨j, hj, rfl, hoa, hob, hdi, hEx⟩ := hrel
              have HDI := Lib.hid hdi
              clear hdi
              have hExw := hEy.trans hEx
              have hB0x := hB0y.ext hEx
              have hszx := hEx.size
              have z0 := hB0x.cell
              have z1 := hB0x.lt
              clear x0 x1
              obtain ⟨aa, ca, rfl⟩ := own_slice hoa
              obtain ⟨ab, cb, rfl⟩ := own_slice hob
              by_cases hlj : j < r.places.length
              · obtain ⟨b, off, rfl, hb, hAt⟩ := HX1.out j hlj
                have hAt2 := ate_stays _ _ _ _ _ _ hExw hb hAt
                obtain ⟨h0, h1, h2, h3, h4, h5, h6, h7, h8, h9, h10, h11⟩ := place_cells hAt2
                have hbl := Nat.lt_of_lt_of_le hb hExw.size
                have hps := pre_succ (gF false) r.places hlj
                have hkk : kF r plan false s j = (R.take (R.pat r.places j) (R.has (R.iat plan s) j)).2 := rfl
                rw [R.pat_at hlj] at hkk
                obtain ⟨p, hp⟩ : ∃ p, r.places[j] = p := ⟨_, rfl⟩
                rw [hp] at h0 h1 h2 h3 h4 h5 h6 h7 h8 h9 h10 h11 hps hkk
                have HPS := Lib.hid hps
                have HKK := Lib.hid hkk
                clear hAt hAt2 hps hkk hp
                go_upto_region 17 with (fail)
                obtain ⟨wp, hwp⟩ : ∃ wp, wx.alloc (.cells #[.int .i64 p.count, .int .i64 p.room, .int .i64 p.gl, .int .i64 p.gh, .int .i64 p.drift, .int .i64 p.into, .int .i64 p.ol, .int .i64 p.oh, .int .i64 p.sl, .int .i64 p.sh, .int .i64 p.goal, .int .i64 p.worth] 46) = wp := ⟨_, rfl⟩
                have hpb : Blk wp wx.heap.size #[.int .i64 p.count, .int .i64 p.room, .int .i64 p.gl, .int .i64 p.gh, .int .i64 p.drift, .int .i64 p.into, .int .i64 p.ol, .int .i64 p.oh, .int .i64 p.sl, .int .i64 p.sh, .int .i64 p.goal, .int .i64 p.worth] 46 := by rw [← hwp]; exact Blk.new' rfl _ _
                have hEp : Ext wx wp := by rw [← hwp]; (with_reducible (repeat (first | exact Ext.refl _ | assumption | apply Ext.alloc | apply Ext.drew | exact ext_plus _ _ | (apply Ext.setCell; rotate_left; (simp <;> omega)) | (apply Ext.trans; rotate_left; exact ext_plus _ _) | (apply Ext.trans; rotate_left; assumption))))
                rw [hwp]
                clear hwp h0 h1 h2 h3 h4 h5 h6 h7 h8 h9 h10 h11 z0 z1
                obtain ⟨b8, o8, rfl, hb8, hc8⟩ := HX2.out s hsp
                have hEwp : Ext w wp := hExw.trans hEp
                have c8 := (hEwp.cells.1 _ _ hb8).trans hc8
                have hb8p := Nat.lt_of_lt_of_le hb8 hEwp.size
                have hbit := HOL.out.bit s hsp
                have hbi : R.iat plan s = plan[s] := R.iat_at hsp
                obtain ⟨y, hy⟩ : ∃ y, plan[s] = y := ⟨_, rfl⟩
                rw [hy] at c8 hbit hbi
                have hk2 := HKK.out
                rw [hbi] at hk2
                have hhas := fun w' => dhas_any y j w' hbit.1 (by have := (R.two_pow _ HO.out.n4).2; omega) (by omega)
                obtain ⟨bs, hbs⟩ : ∃ bs, R.has y j = bs := ⟨_, rfl⟩
                rw [hbs] at hk2
                simp only [hbs] at hhas
                have HHAS := Lib.hid hhas
                have HK2 := Lib.hid hk2
                have hpc := plus_cell
                have hf0 := span_field0
                have hf1 := span_field1
                have kp := hpb.cell
                have kl := hpb.lt
                clear hhas hk2 hbit hbi hc8 hbs hy HKK
                refine wp_region_late 13 (fun c z => c = false → (∀ o, z.cell? ⟨wx.heap.size, o, none⟩ = (#[.int .i64 p.count, .int .i64 p.room, .int .i64 p.gl, .int .i64 p.gh, .int .i64 p.drift, .int .i64 p.into, .int .i64 p.ol, .int .i64 p.oh, .int .i64 p.sl, .int .i64 p.sh, .int .i64 p.goal, .int .i64 p.worth] : Array Value)[o]?) ∧ z.cell? ⟨b8, o8 + s, none⟩ = some (.int .i64 y)) (by kernel_rfl) (fun hL => ?_)
                have hpd := hpb.drew
                have hcd : wp.drew.cell? ⟨b8, o8 + s, none⟩ = some (.int .i64 y) := c8
                refine late_early (i := 0) (v := ?_) rfl (by kernel_rfl) (by kernel_rfl) (by kernel_rfl) (by decide) (by kernel_rfl) (fun _ _ _ h => h) hL (Or.inl ⟨by rfl, ?_⟩) (fun _ => ⟨hpd.cell, hcd⟩) (fun hL' => ?_)
                rotate_left
                · intro y hy; have hz := hy rfl; clear hy; obtain ⟨g1, g2⟩ := hz; go_simp; (try with_reducible rfl)
                clear hL; rename Shutb _ _ => hL
                (try simp only [Act.put, List.setIfInBounds_toArray, List.set_cons_zero, List.set_cons_succ])
                refine late_early (i := 1) (v := ?_) rfl (by kernel_rfl) (by kernel_rfl) (by kernel_rfl) (by decide) (by kernel_rfl) (fun _ _ _ h => h) hL (Or.inl ⟨by rfl, ?_⟩) (fun _ => ⟨hpd.cell, hcd⟩) (fun hL' => ?_)
                rotate_left
                · intro y hy; have hz := hy rfl; clear hy; obtain ⟨g1, g2⟩ := hz; go_simp; (try with_reducible rfl)
                clear hL; rename Shutb _ _ => hL
                (try simp only [Act.put, List.setIfInBounds_toArray, List.set_cons_zero, List.set_cons_succ])
                refine late_early (i := 2) (v := ?_) rfl (by kernel_rfl) (by kernel_rfl) (by kernel_rfl) (by decide) (by kernel_rfl) (fun _ _ _ h => h) hL (Or.inl ⟨by rfl, ?_⟩) (fun _ => ⟨hpd.cell, hcd⟩) (fun hL' => ?_)
                rotate_left
                · intro y hy; have hz := hy rfl; clear hy; obtain ⟨g1, g2⟩ := hz; go_simp; (try with_reducible rfl)
                clear hL; rename Shutb _ _ => hL
                (try simp only [Act.put, List.setIfInBounds_toArray, List.set_cons_zero, List.set_cons_succ])
                refine late_early (i := 3) (v := ?_) rfl (by kernel_rfl) (by kernel_rfl) (by kernel_rfl) (by decide) (by kernel_rfl) (fun _ _ _ h => h) hL (Or.inl ⟨by rfl, ?_⟩) (fun _ => ⟨hpd.cell, hcd⟩) (fun hL' => ?_)
                rotate_left
                · intro y hy; have hz := hy rfl; clear hy; obtain ⟨g1, g2⟩ := hz; go_simp; (try with_reducible rfl)
                clear hL; rename Shutb _ _ => hL
                (try simp only [Act.put, List.setIfInBounds_toArray, List.set_cons_zero, List.set_cons_succ])
                refine late_early (i := 4) (v := ?_) rfl (by kernel_rfl) (by kernel_rfl) (by kernel_rfl) (by decide) (by kernel_rfl) (fun _ _ _ h => h) hL (Or.inl ⟨by rfl, ?_⟩) (fun _ => ⟨hpd.cell, hcd⟩) (fun hL' => ?_)
                rotate_left
                · intro y hy; have hz := hy rfl; clear hy; obtain ⟨g1, g2⟩ := hz; go_simp; (try with_reducible rfl)
                clear hL; rename Shutb _ _ => hL
                (try simp only [Act.put, List.setIfInBounds_toArray, List.set_cons_zero, List.set_cons_succ])
                refine late_early (i := 5) (v := ?_) rfl (by kernel_rfl) (by kernel_rfl) (by kernel_rfl) (by decide) (by kernel_rfl) (fun _ _ _ h => h) hL (Or.inl ⟨by rfl, ?_⟩) (fun _ => ⟨hpd.cell, hcd⟩) (fun hL' => ?_)
                rotate_left
                · intro y hy; have hz := hy rfl; clear hy; obtain ⟨g1, g2⟩ := hz; go_simp; (try with_reducible rfl)
                clear hL; rename Shutb _ _ => hL
                (try simp only [Act.put, List.setIfInBounds_toArray, List.set_cons_zero, List.set_cons_succ])
                refine late_early (i := 6) (v := ?_) rfl (by kernel_rfl) (by kernel_rfl) (by kernel_rfl) (by decide) (by kernel_rfl) (fun _ _ _ h => h) hL (Or.inl ⟨by rfl, ?_⟩) (fun _ => ⟨hpd.cell, hcd⟩) (fun hL' => ?_)
                rotate_left
                · intro y hy; have hz := hy rfl; clear hy; obtain ⟨g1, g2⟩ := hz; go_simp; (try with_reducible rfl)
                clear hL; rename Shutb _ _ => hL
                (try simp only [Act.put, List.setIfInBounds_toArray, List.set_cons_zero, List.set_cons_succ])
                refine late_early (i := 7) (v := ?_) rfl (by kernel_rfl) (by kernel_rfl) (by kernel_rfl) (by decide) (by kernel_rfl) (fun _ _ _ h => h) hL (Or.inl ⟨by rfl, ?_⟩) (fun _ => ⟨hpd.cell, hcd⟩) (fun hL' => ?_)
                rotate_left
                · intro y hy; have hz := hy rfl; clear hy; obtain ⟨g1, g2⟩ := hz; go_simp; (try with_reducible rfl)
                clear hL; rename Shutb _ _ => hL
                (try simp only [Act.put, List.setIfInBounds_toArray, List.set_cons_zero, List.set_cons_succ])
                refine late_early (i := 8) (v := ?_) rfl (by kernel_rfl) (by kernel_rfl) (by kernel_rfl) (by decide) (by kernel_rfl) (fun _ _ _ h => h) hL (Or.inl ⟨by rfl, ?_⟩) (fun _ => ⟨hpd.cell, hcd⟩) (fun hL' => ?_)
                rotate_left
                · intro y hy; have hz := hy rfl; clear hy; obtain ⟨g1, g2⟩ := hz; go_simp; (try with_reducible rfl)
                clear hL; rename Shutb _ _ => hL
                (try simp only [Act.put, List.setIfInBounds_toArray, List.set_cons_zero, List.set_cons_succ])
                refine late_one (i := 9) (by kernel_rfl) hL (fun hL' => ?_)
                refine wpOp_step rfl (fun K hK0 => ?_)
                have hK : Shut _ := hK0
                clear hK0
                go_simp
                go_wp2_with (first | (go_at_call 39; refine (HHAS.out _).mono ?_; rintro e w4 ⟨rfl, rfl⟩))
                refine hK.out _ _ ⟨fun _ => ⟨hpd.cell, hcd⟩, ?_⟩
                clear hK K; clear hL; rename Shutb _ _ => hL
                (try simp only [Act.put, List.setIfInBounds_toArray, List.set_cons_zero, List.set_cons_succ])
                refine late_one (i := 10) (by kernel_rfl) hL (fun hL' => ?_)
                refine wpOp_step rfl (fun K hK0 => ?_)
                have hK : Shut _ := hK0
                clear hK0
                go_simp
                go_wp2_with (first | (go_at_call 55; refine (dtakes_any p bs _).mono ?_; rintro e wA ⟨rfl, hE5⟩))
                have hpd5 := hpd.ext hE5
                have hcd5 := (hE5.cells.1 _ _ hb8p).trans hcd
                refine hK.out _ _ ⟨fun _ => ⟨hpd5.cell, hcd5⟩, ?_⟩
                clear hK K; clear hL; rename Shutb _ _ => hL
                (try simp only [Act.put, List.setIfInBounds_toArray, List.set_cons_zero, List.set_cons_succ])
                refine late_early (i := 11) (v := ?_) rfl (by kernel_rfl) (by kernel_rfl) (by kernel_rfl) (by decide) (by kernel_rfl) (fun _ _ _ h => h) hL (Or.inl ⟨by rfl, ?_⟩) (fun _ => ⟨hpd5.cell, hcd5⟩) (fun hL' => ?_)
                rotate_left
                · intro y hy; have hz := hy rfl; clear hy; obtain ⟨g1, g2⟩ := hz; go_simp; (try with_reducible rfl)
                clear hL; rename Shutb _ _ => hL
                (try simp only [Act.put, List.setIfInBounds_toArray, List.set_cons_zero, List.set_cons_succ])
                refine late_one (i := 12) (by kernel_rfl) hL (fun hL' => ?_)
                refine wpOp_step rfl (fun K hK0 => ?_)
                have hK : Shut _ := hK0
                clear hK0
                go_simp
                refine hK.out _ _ ⟨fun _ => ⟨hpd5.cell, hcd5⟩, ?_⟩
                clear hK K; clear hL; rename Shutb _ _ => hL
                (try simp only [Act.put, List.setIfInBounds_toArray, List.set_cons_zero, List.set_cons_succ])
                refine late_one (i := 13) (by kernel_rfl) hL (fun hL' => ?_)
                refine wpOp_step rfl (fun K hK0 => ?_)
                have hK : Shut _ := hK0
                clear hK0
                go_simp
                refine hK.out _ _ ⟨fun e => absurd (e : true = false) (by decide), ?_⟩
                clear hK K; clear hL; rename Shutb _ _ => hL
                (try simp only [Act.put, List.setIfInBounds_toArray, List.set_cons_zero, List.set_cons_succ])
                refine late_done (by kernel_rfl) ?_
                (try dsimp only [Exit.then])
                have hEA : Ext wp wA := ((Ext.refl wp).drew).trans hE5
                have hE9 : Ext wx wA := hEp.trans hEA
                have hoa9 := own_ext hoa hE9
                have hob9 := own_ext hob hE9
                have hs9 := hE9.size
                have hla := fun q hq => (hoa9.lt q hq).2
                have hlb := fun q hq => (hob9.lt q hq).2
                have HLA := Lib.hid hla
                have HLB := Lib.hid hlb
                clear hla hlb
                go_wp2_with (first
                  | (at_builtin; refine wpList_append_own_at _ rfl _ _ 25 rfl (wy.heap.size) 3 i0 (.int .i64 0) 1 8 Try.underlying25 hi hz0 hz1 hz2 rfl (by decide) _ _ _ rfl ((hob7.alloc _)) ⟨w7.heap.size, 0, none⟩ 1 1 [.int .i64 ((R.take p bs).2)] rfl rfl (cell_one _ _ _ (by simp)) (one_int _) (by unfold maxLen; omega) (by omega) (by simp <;> omega) ?_; intro v8 w8 hown8 hgr8 _ hat0; have hat8 := Lib.hid hat0; clear hat0; obtain ⟨g8, cap8, rfl⟩ := own_succ hown8)
                  | (at_builtin; refine wpList_append_own_at _ rfl _ _ 25 rfl (wy.heap.size) 3 i0 (.int .i64 0) 1 8 Try.underlying25 hi hz0 hz1 hz2 rfl (by decide) _ _ _ rfl (hoa9.alloc _) ⟨wA.heap.size, 0, none⟩ 1 1 [.int .i64 (p.gl)] rfl rfl (cell_one _ _ _ (by simp)) (one_int _) (by unfold maxLen; omega) (by omega) (by simp <;> omega) ?_; intro v7 w7 hown7 hgr7 _ hat0; have hat7 := Lib.hid hat0; clear hat0; obtain ⟨g7, cap7, rfl⟩ := own_succ hown7; have hne := (apart_ne HDI.out); have hob7 := (hob9.alloc (.cells #[.int .i64 p.gl] 3)).kept hgr7 hne; have hs7 := hgr7.size; (try simp only [World.size_alloc] at hs7)))
                have hdj := apart_new HDI.out HLA.out HLB.out hat7.out (by simp) hat8.out (by simp; omega)
                have ho7 := (hown7.alloc (.cells #[.int .i64 (R.take p bs).2] 3)).kept hgr8 (apart_ne2 hdj.1)
                go_roundw
                case rel => exact ⟨j + 1, by omega, by go_num, by rw [HPS.out]; exact ho7, by rw [List.range_succ, List.map_append, List.map_append]; simp only [List.map_cons, List.map_nil]; rw [HK2.out]; exact hown8, hdj.2, ((((hEx.trans hE9).alloc _).grown hgr7 (own_base hoa9)).alloc _).grown hgr8 (own_base hob9)⟩
                case measure => simp [intOf]; omega
              · obtain rfl : j = r.places.length := by omega
                rw [pre_all] at hoa
                obtain ⟨gA, cA, e1, hgA, hgAl⟩ := own_pos hoa HO.out.n1
                obtain rfl : aa = some ⟨gA, 0, none⟩ := by cases e1; rfl
                obtain ⟨gB, cB, e2, hgB, hgBl⟩ := own_pos hob HO.out.n1
                obtain rfl : ab = some ⟨gB, 0, none⟩ := by cases e2; rfl
                have hRA : Apart bT bT w.heap.size wx (r.places.map (gF false), .slice (some ⟨gA, 0, none⟩) r.places.length ca) := ⟨gA, ca, by simp, by omega, by omega, IRow.of_own (by rw [List.length_map]; exact hoa), by omega⟩
                have hRB : Apart bT bT w.heap.size wx ((List.range r.places.length).map (kF r plan false s), .slice (some ⟨gB, 0, none⟩) r.places.length cb) := ⟨gB, cb, by simp, by omega, by omega, IRow.of_own (by rw [List.length_map, List.length_range]; exact hob), by omega⟩
                have ho1x := own_ext ho1 hEx
                have ho2x := own_ext ho2 hEx
                have hTx := hBy.ext hEx
                have hA1x : ∀ p ∈ L1, Apart bT bT w.heap.size wx p := fun p hp => (HA1.out p hp).ext hEx
                have hA2x : ∀ p ∈ L2, Apart bT bT w.heap.size wx p := fun p hp => (HA2.out p hp).ext hEx
                have HA1x := Lib.hid hA1x
                have HA2x := Lib.hid hA2x
                clear hA1x hA2x HDI hoa hob
                have hOfx := hOfy.ext hEx
                go_upto_region 21 with (fail)
                have hT := hTx.drew
                have ho1d : wx.drew.ownsRow wr.heap.size 25 1 (.slice av1 L1.length cv1) L1.length (L1.map Prod.snd) := ho1x
                have ho2d : wx.drew.ownsRow wr.heap.size 25 1 (.slice av2 L2.length cv2) L2.length (L2.map Prod.snd) := ho2x
                refine wp_region_late 11 (fun b y => b = false → (∀ o, y.cell? ⟨bT, o, none⟩ = (#[.slice (some ⟨gS, 0, none⟩) r.places.length cv, .slice av1 L1.length cv1, .slice av2 L2.length cv2] : Array Value)[o]?)) (by kernel_rfl) (fun hL => ?_)
                refine late_early (i := 0) (v := ?_) rfl (by kernel_rfl) (by kernel_rfl) (by kernel_rfl) (by decide) (by kernel_rfl) (fun _ _ _ h => h) hL (Or.inl ⟨by rfl, ?_⟩) (fun _ => hT.cell) (fun hL' => ?_)
                rotate_left
                · intro y hy; have g1 := hy rfl; go_simp; (try with_reducible rfl)
                clear hL; rename Shutb _ _ => hL
                (try simp only [Act.put, List.setIfInBounds_toArray, List.set_cons_zero, List.set_cons_succ])
                refine late_early (i := 1) (v := ?_) rfl (by kernel_rfl) (by kernel_rfl) (by kernel_rfl) (by decide) (by kernel_rfl) (fun _ _ _ h => h) hL (Or.inl ⟨by rfl, ?_⟩) (fun _ => hT.cell) (fun hL' => ?_)
                rotate_left
                · intro y hy; have g1 := hy rfl; go_simp; (try with_reducible rfl)
                clear hL; rename Shutb _ _ => hL
                (try simp only [Act.put, List.setIfInBounds_toArray, List.set_cons_zero, List.set_cons_succ])
                refine late_early (i := 2) (v := ?_) rfl (by kernel_rfl) (by kernel_rfl) (by kernel_rfl) (by decide) (by kernel_rfl) (fun _ _ _ h => h) hL (Or.inl ⟨by rfl, ?_⟩) (fun _ => hT.cell) (fun hL' => ?_)
                rotate_left
                · intro y hy; have g1 := hy rfl; go_simp; (try with_reducible rfl)
                clear hL; rename Shutb _ _ => hL
                (try simp only [Act.put, List.setIfInBounds_toArray, List.set_cons_zero, List.set_cons_succ])
                refine late_early (i := 5) (v := ?_) rfl (by kernel_rfl) (by kernel_rfl) (by kernel_rfl) (by decide) (by kernel_rfl) (fun _ _ _ h => h) hL (Or.inl ⟨by rfl, ?_⟩) (fun _ => hT.cell) (fun hL' => ?_)
                rotate_left
                · intro y hy; have g1 := hy rfl; go_simp; (try with_reducible rfl)
                clear hL; rename Shutb _ _ => hL
                (try simp only [Act.put, List.setIfInBounds_toArray, List.set_cons_zero, List.set_cons_succ])
                refine late_early (i := 6) (v := ?_) rfl (by kernel_rfl) (by kernel_rfl) (by kernel_rfl) (by decide) (by kernel_rfl) (fun _ _ _ h => h) hL (Or.inl ⟨by rfl, ?_⟩) (fun _ => hT.cell) (fun hL' => ?_)
                rotate_left
                · intro y hy; have g1 := hy rfl; go_simp; (try with_reducible rfl)
                clear hL; rename Shutb _ _ => hL
                (try simp only [Act.put, List.setIfInBounds_toArray, List.set_cons_zero, List.set_cons_succ])
                refine late_early (i := 7) (v := ?_) rfl (by kernel_rfl) (by kernel_rfl) (by kernel_rfl) (by decide) (by kernel_rfl) (fun _ _ _ h => h) hL (Or.inl ⟨by rfl, ?_⟩) (fun _ => hT.cell) (fun hL' => ?_)
                rotate_left
                · intro y hy; have g1 := hy rfl; go_simp; (try with_reducible rfl)
                clear hL; rename Shutb _ _ => hL
                (try simp only [Act.put, List.setIfInBounds_toArray, List.set_cons_zero, List.set_cons_succ])
                refine late_two (i := 3) (j := 8) (by kernel_rfl) hL (fun hL' => ?_) (fun hL' => ?_)
                · refine wpOp_step rfl (fun K hK0 => ?_)
                  have hK : Shut _ := hK0
                  clear hK0
                  go_simp
                  have hN1 : Blk ((wx.alloc (.cells #[.slice (some ⟨gA, 0, none⟩) r.places.length ca] 25)).drew) wx.heap.size #[.slice (some ⟨gA, 0, none⟩) r.places.length ca] 25 := Blk.new wx _ _
                  have hX1 : Ext (wx) ((wx.alloc (.cells #[.slice (some ⟨gA, 0, none⟩) r.places.length ca] 25)).drew) := ((Ext.refl wx).alloc (.cells #[.slice (some ⟨gA, 0, none⟩) r.places.length ca] 25)).drew
                  obtain ⟨wq1, hw1⟩ : ∃ y, (wx.alloc (.cells #[.slice (some ⟨gA, 0, none⟩) r.places.length ca] 25)).drew = y := ⟨_, rfl⟩
                  rw [hw1] at hN1 hX1 ⊢
                  have hT1 := hTx.ext hX1
                  have hQ1 := own_ext ho2x hX1
                  have hS1 := hX1.size
                  have hP1 := own_ext ho1x hX1
                  refine hK.out _ _ ⟨fun _ => hT1.cell, ?_⟩
                  clear hK K; clear hL; rename Shutb _ _ => hL
                  (try simp only [Act.put, List.setIfInBounds_toArray, List.set_cons_zero, List.set_cons_succ])
                  refine late_two (i := 4) (j := 8) (by kernel_rfl) hL (fun hL' => ?_) (fun hL' => ?_)
                  · refine wpOp_step rfl (fun K hK0 => ?_)
                    have hK : Shut _ := hK0
                    clear hK0
                    refine step_append_row _ rfl _ _ rfl wr.heap.size (.slice av1 L1.length cv1) L1.length _ (.slice (some ⟨gA, 0, none⟩) r.places.length ca) (wx.heap.size) rfl rfl hP1 hN1 rfl (by omega) (by have := hOfx.size; omega) ?_
                    intro v5 wq2 hn5 hg5 hat5
                    have hT2 := hT1.grown hg5 (own_base hP1) hbTr
                    have hQ2 := hQ1.kept hg5 (apart_ne HDIS.out)
                    have hS2 := hg5.size
                    refine hK.out _ _ ⟨fun _ => hT2.cell, ?_⟩
                    clear hK K; clear hL; rename Shutb _ _ => hL
                    (try simp only [Act.put, List.setIfInBounds_toArray, List.set_cons_zero, List.set_cons_succ])
                    refine late_early (i := 10) (v := ?_) rfl (by kernel_rfl) (by kernel_rfl) (by kernel_rfl) (by decide) (by kernel_rfl) (fun _ _ _ h => h) hL (Or.inl ⟨by rfl, ?_⟩) (fun _ => hT2.cell) (fun hL' => ?_)
                    rotate_left
                    · intro y hy; have g1 := hy rfl; go_simp; (try with_reducible rfl)
                    clear hL; rename Shutb _ _ => hL
                    (try simp only [Act.put, List.setIfInBounds_toArray, List.set_cons_zero, List.set_cons_succ])
                    refine late_one (i := 8) (by kernel_rfl) hL (fun hL' => ?_)
                    refine wpOp_step rfl (fun K hK0 => ?_)
                    have hK : Shut _ := hK0
                    clear hK0
                    go_simp
                    have hN3 : Blk (wq2.alloc (.cells #[.slice (some ⟨gB, 0, none⟩) r.places.length cb] 25)) wq2.heap.size #[.slice (some ⟨gB, 0, none⟩) r.places.length cb] 25 := Blk.new wq2 _ _
                    have hX3 : Ext (wq2) (wq2.alloc (.cells #[.slice (some ⟨gB, 0, none⟩) r.places.length cb] 25)) := ((Ext.refl wq2).alloc (.cells #[.slice (some ⟨gB, 0, none⟩) r.places.length cb] 25))
                    obtain ⟨wq3, hw3⟩ : ∃ y, wq2.alloc (.cells #[.slice (some ⟨gB, 0, none⟩) r.places.length cb] 25) = y := ⟨_, rfl⟩
                    rw [hw3] at hN3 hX3 ⊢
                    have hT3 := hT2.ext hX3
                    have hQ3 := own_ext hQ2 hX3
                    have hS3 := hX3.size
                    refine hK.out _ _ ⟨fun _ => hT3.cell, ?_⟩
                    clear hK K; clear hL; rename Shutb _ _ => hL
                    (try simp only [Act.put, List.setIfInBounds_toArray, List.set_cons_zero, List.set_cons_succ])
                    refine late_one (i := 9) (by kernel_rfl) hL (fun hL' => ?_)
                    refine wpOp_step rfl (fun K hK0 => ?_)
                    have hK : Shut _ := hK0
                    clear hK0
                    refine step_append_row _ rfl _ _ rfl wr.heap.size (.slice av2 L2.length cv2) L2.length _ (.slice (some ⟨gB, 0, none⟩) r.places.length cb) (wq2.heap.size) rfl rfl hQ3 hN3 rfl (by omega) (by have := hOfx.size; omega) ?_
                    intro v6 wq4 hn6 hg6 hat6
                    have hT4 := hT3.grown hg6 (own_base hQ3) hbTr
                    refine hK.out _ _ ⟨fun _ => hT4.cell, ?_⟩
                    clear hK K; clear hL; rename Shutb _ _ => hL
                    (try simp only [Act.put, List.setIfInBounds_toArray, List.set_cons_zero, List.set_cons_succ])
                    have hfin := pair_all hTx hbTr (Nat.le_refl _) ho1x ho2x HDIS.out HA1x.out HA2x.out hRA hRB ((Ext.refl wx).trans hX1) hg5 hn5 hat5 ((Ext.refl _).trans hX3) hg6 hn6 hat6 hOfx
                    have hTu := hT4
                    obtain ⟨gN, capN, rfl⟩ := own_succ hn5
                    obtain ⟨gM, capM, rfl⟩ := own_succ hn6
                    have f1 := hTu.free
                    have f2 := hTu.lt
                    refine late_one (i := 11) (by kernel_rfl) hL (fun hL' => ?_)
                    refine wpOp_step rfl (fun K hK0 => ?_)
                    have hK : Shut _ := hK0
                    clear hK0
                    have f0 := hTu.cell
                    go_simp
                    have hTv := hTu.set 1 (.slice (some ⟨gN, 0, none⟩) (L1.length + 1) capN)
                    refine hK.out _ _ ⟨fun e => absurd (e : true = false) (by decide), ?_⟩
                    clear hK K; clear hL; rename Shutb _ _ => hL
                    (try simp only [Act.put, List.setIfInBounds_toArray, List.set_cons_zero, List.set_cons_succ])
                    clear f1 f2
                    refine late_one (i := 12) (by kernel_rfl) hL (fun hL' => ?_)
                    refine wpOp_step rfl (fun K hK0 => ?_)
                    have hK : Shut _ := hK0
                    clear hK0
                    go_simp
                    refine hK.out _ _ ⟨fun e => absurd (e : true = false) (by decide), ?_⟩
                    clear hK K; clear hL; rename Shutb _ _ => hL
                    (try simp only [Act.put, List.setIfInBounds_toArray, List.set_cons_zero, List.set_cons_succ])
                    have f1 := hTv.free
                    have f2 := hTv.lt
                    refine late_one (i := 13) (by kernel_rfl) hL (fun hL' => ?_)
                    refine wpOp_step rfl (fun K hK0 => ?_)
                    have hK : Shut _ := hK0
                    clear hK0
                    have f0 := hTv.cell
                    go_simp
                    refine hK.out _ _ ⟨fun e => absurd (e : true = false) (by decide), ?_⟩
                    clear hK K; clear hL; rename Shutb _ _ => hL
                    (try simp only [Act.put, List.setIfInBounds_toArray, List.set_cons_zero, List.set_cons_succ])
                    refine late_done (by kernel_rfl) ?_
                    (try dsimp only [Exit.then])
                    clear f1 f2 hTv hTu
                    obtain ⟨r1, r2, r3, r4, r5, r6, r7⟩ := hfin
                    obtain ⟨wz, hwz⟩ : ∃ wz, (wq4.setCell ⟨bT, 1, none⟩ (.slice (some ⟨gN, 0, none⟩) (L1.length + 1) capN)).setCell ⟨bT, 2, none⟩ (.slice (some ⟨gM, 0, none⟩) (L2.length + 1) capM) = wz := ⟨_, rfl⟩
                    rw [hwz] at r1 r2 r4 r5 r6 r7 ⊢
                    have R4 := Lib.hid r4
                    have R5 := Lib.hid r5
                    have R3 := Lib.hid r3
                    clear r3 r4 r5 hwz
                    go_wp2
                    go_roundw
                    case rel => exact ⟨s + 1, _, _, _, _, by omega, by go_num, by simp [HL1.out], by simp [HL2.out], by simpa using r1, by simpa using r2, R3.out, R4.out, R5.out, by rw [List.map_append, HF1.out, List.range_succ, List.map_append]; rfl, by rw [List.map_append, HF2.out, List.range_succ, List.map_append]; rfl, r6, r7⟩
                    case measure => simp [intOf]; omega
                  · refine wpOp_step rfl (fun K hK0 => ?_)
                    have hK : Shut _ := hK0
                    clear hK0
                    go_simp
                    have hN2 : Blk (wq1.alloc (.cells #[.slice (some ⟨gB, 0, none⟩) r.places.length cb] 25)) wq1.heap.size #[.slice (some ⟨gB, 0, none⟩) r.places.length cb] 25 := Blk.new wq1 _ _
                    have hX2 : Ext (wq1) (wq1.alloc (.cells #[.slice (some ⟨gB, 0, none⟩) r.places.length cb] 25)) := ((Ext.refl wq1).alloc (.cells #[.slice (some ⟨gB, 0, none⟩) r.places.length cb] 25))
                    obtain ⟨wq2, hw2⟩ : ∃ y, wq1.alloc (.cells #[.slice (some ⟨gB, 0, none⟩) r.places.length cb] 25) = y := ⟨_, rfl⟩
                    rw [hw2] at hN2 hX2 ⊢
                    have hT2 := hT1.ext hX2
                    have hQ2 := own_ext hQ1 hX2
                    have hS2 := hX2.size
                    have hP2 := own_ext hP1 hX2
                    have hN2A := hN1.ext hX2
                    refine hK.out _ _ ⟨fun _ => hT2.cell, ?_⟩
                    clear hK K; clear hL; rename Shutb _ _ => hL
                    (try simp only [Act.put, List.setIfInBounds_toArray, List.set_cons_zero, List.set_cons_succ])
                    refine late_one (i := 4) (by kernel_rfl) hL (fun hL' => ?_)
                    refine wpOp_step rfl (fun K hK0 => ?_)
                    have hK : Shut _ := hK0
                    clear hK0
                    refine step_append_row _ rfl _ _ rfl wr.heap.size (.slice av1 L1.length cv1) L1.length _ (.slice (some ⟨gA, 0, none⟩) r.places.length ca) (wx.heap.size) rfl rfl hP2 hN2A rfl (by omega) (by have := hOfx.size; omega) ?_
                    intro v5 wq3 hn5 hg5 hat5
                    have hT3 := hT2.grown hg5 (own_base hP2) hbTr
                    have hQ3 := hQ2.kept hg5 (apart_ne HDIS.out)
                    have hS3 := hg5.size
                    have hN3B : Blk wq3 (wq1.heap.size) #[.slice (some ⟨gB, 0, none⟩) r.places.length cb] 25 := (hg5.block _ hN2.lt (fun e => by have := (ho1x.lt _ e.symm).2; omega)).trans hN2
                    refine hK.out _ _ ⟨fun _ => hT3.cell, ?_⟩
                    clear hK K; clear hL; rename Shutb _ _ => hL
                    (try simp only [Act.put, List.setIfInBounds_toArray, List.set_cons_zero, List.set_cons_succ])
                    refine late_early (i := 10) (v := ?_) rfl (by kernel_rfl) (by kernel_rfl) (by kernel_rfl) (by decide) (by kernel_rfl) (fun _ _ _ h => h) hL (Or.inl ⟨by rfl, ?_⟩) (fun _ => hT3.cell) (fun hL' => ?_)
                    rotate_left
                    · intro y hy; have g1 := hy rfl; go_simp; (try with_reducible rfl)
                    clear hL; rename Shutb _ _ => hL
                    (try simp only [Act.put, List.setIfInBounds_toArray, List.set_cons_zero, List.set_cons_succ])
                    refine late_one (i := 9) (by kernel_rfl) hL (fun hL' => ?_)
                    refine wpOp_step rfl (fun K hK0 => ?_)
                    have hK : Shut _ := hK0
                    clear hK0
                    refine step_append_row _ rfl _ _ rfl wr.heap.size (.slice av2 L2.length cv2) L2.length _ (.slice (some ⟨gB, 0, none⟩) r.places.length cb) (wq1.heap.size) rfl rfl hQ3 hN3B rfl (by omega) (by have := hOfx.size; omega) ?_
                    intro v6 wq4 hn6 hg6 hat6
                    have hT4 := hT3.grown hg6 (own_base hQ3) hbTr
                    refine hK.out _ _ ⟨fun _ => hT4.cell, ?_⟩
                    clear hK K; clear hL; rename Shutb _ _ => hL
                    (try simp only [Act.put, List.setIfInBounds_toArray, List.set_cons_zero, List.set_cons_succ])
                    have hfin := pair_all hTx hbTr (Nat.le_refl _) ho1x ho2x HDIS.out HA1x.out HA2x.out hRA hRB (((Ext.refl wx).trans hX1).trans hX2) hg5 hn5 hat5 (Ext.refl _) hg6 hn6 hat6 hOfx
                    have hTu := hT4
                    obtain ⟨gN, capN, rfl⟩ := own_succ hn5
                    obtain ⟨gM, capM, rfl⟩ := own_succ hn6
                    have f1 := hTu.free
                    have f2 := hTu.lt
                    refine late_one (i := 11) (by kernel_rfl) hL (fun hL' => ?_)
                    refine wpOp_step rfl (fun K hK0 => ?_)
                    have hK : Shut _ := hK0
                    clear hK0
                    have f0 := hTu.cell
                    go_simp
                    have hTv := hTu.set 1 (.slice (some ⟨gN, 0, none⟩) (L1.length + 1) capN)
                    refine hK.out _ _ ⟨fun e => absurd (e : true = false) (by decide), ?_⟩
                    clear hK K; clear hL; rename Shutb _ _ => hL
                    (try simp only [Act.put, List.setIfInBounds_toArray, List.set_cons_zero, List.set_cons_succ])
                    clear f1 f2
                    refine late_one (i := 12) (by kernel_rfl) hL (fun hL' => ?_)
                    refine wpOp_step rfl (fun K hK0 => ?_)
                    have hK : Shut _ := hK0
                    clear hK0
                    go_simp
                    refine hK.out _ _ ⟨fun e => absurd (e : true = false) (by decide), ?_⟩
                    clear hK K; clear hL; rename Shutb _ _ => hL
                    (try simp only [Act.put, List.setIfInBounds_toArray, List.set_cons_zero, List.set_cons_succ])
                    have f1 := hTv.free
                    have f2 := hTv.lt
                    refine late_one (i := 13) (by kernel_rfl) hL (fun hL' => ?_)
                    refine wpOp_step rfl (fun K hK0 => ?_)
                    have hK : Shut _ := hK0
                    clear hK0
                    have f0 := hTv.cell
                    go_simp
                    refine hK.out _ _ ⟨fun e => absurd (e : true = false) (by decide), ?_⟩
                    clear hK K; clear hL; rename Shutb _ _ => hL
                    (try simp only [Act.put, List.setIfInBounds_toArray, List.set_cons_zero, List.set_cons_succ])
                    refine late_done (by kernel_rfl) ?_
                    (try dsimp only [Exit.then])
                    clear f1 f2 hTv hTu
                    obtain ⟨r1, r2, r3, r4, r5, r6, r7⟩ := hfin
                    obtain ⟨wz, hwz⟩ : ∃ wz, (wq4.setCell ⟨bT, 1, none⟩ (.slice (some ⟨gN, 0, none⟩) (L1.length + 1) capN)).setCell ⟨bT, 2, none⟩ (.slice (some ⟨gM, 0, none⟩) (L2.length + 1) capM) = wz := ⟨_, rfl⟩
                    rw [hwz] at r1 r2 r4 r5 r6 r7 ⊢
                    have R4 := Lib.hid r4
                    have R5 := Lib.hid r5
                    have R3 := Lib.hid r3
                    clear r3 r4 r5 hwz
                    go_wp2
                    go_roundw
                    case rel => exact ⟨s + 1, _, _, _, _, by omega, by go_num, by simp [HL1.out], by simp [HL2.out], by simpa using r1, by simpa using r2, R3.out, R4.out, R5.out, by rw [List.map_append, HF1.out, List.range_succ, List.map_append]; rfl, by rw [List.map_append, HF2.out, List.range_succ, List.map_append]; rfl, r6, r7⟩
                    case measure => simp [intOf]; omega
                · refine wpOp_step rfl (fun K hK0 => ?_)
                  have hK : Shut _ := hK0
                  clear hK0
                  go_simp
                  have hN1 : Blk ((wx.alloc (.cells #[.slice (some ⟨gB, 0, none⟩) r.places.length cb] 25)).drew) wx.heap.size #[.slice (some ⟨gB, 0, none⟩) r.places.length cb] 25 := Blk.new wx _ _
                  have hX1 : Ext (wx) ((wx.alloc (.cells #[.slice (some ⟨gB, 0, none⟩) r.places.length cb] 25)).drew) := ((Ext.refl wx).alloc (.cells #[.slice (some ⟨gB, 0, none⟩) r.places.length cb] 25)).drew
                  obtain ⟨wq1, hw1⟩ : ∃ y, (wx.alloc (.cells #[.slice (some ⟨gB, 0, none⟩) r.places.length cb] 25)).drew = y := ⟨_, rfl⟩
                  rw [hw1] at hN1 hX1 ⊢
                  have hT1 := hTx.ext hX1
                  have hQ1 := own_ext ho2x hX1
                  have hS1 := hX1.size
                  have hP1 := own_ext ho1x hX1
                  refine hK.out _ _ ⟨fun _ => hT1.cell, ?_⟩
                  clear hK K; clear hL; rename Shutb _ _ => hL
                  (try simp only [Act.put, List.setIfInBounds_toArray, List.set_cons_zero, List.set_cons_succ])
                  refine late_one (i := 3) (by kernel_rfl) hL (fun hL' => ?_)
                  refine wpOp_step rfl (fun K hK0 => ?_)
                  have hK : Shut _ := hK0
                  clear hK0
                  go_simp
                  have hN2 : Blk (wq1.alloc (.cells #[.slice (some ⟨gA, 0, none⟩) r.places.length ca] 25)) wq1.heap.size #[.slice (some ⟨gA, 0, none⟩) r.places.length ca] 25 := Blk.new wq1 _ _
                  have hX2 : Ext (wq1) (wq1.alloc (.cells #[.slice (some ⟨gA, 0, none⟩) r.places.length ca] 25)) := ((Ext.refl wq1).alloc (.cells #[.slice (some ⟨gA, 0, none⟩) r.places.length ca] 25))
                  obtain ⟨wq2, hw2⟩ : ∃ y, wq1.alloc (.cells #[.slice (some ⟨gA, 0, none⟩) r.places.length ca] 25) = y := ⟨_, rfl⟩
                  rw [hw2] at hN2 hX2 ⊢
                  have hT2 := hT1.ext hX2
                  have hQ2 := own_ext hQ1 hX2
                  have hS2 := hX2.size
                  have hP2 := own_ext hP1 hX2
                  have hN2B := hN1.ext hX2
                  refine hK.out _ _ ⟨fun _ => hT2.cell, ?_⟩
                  clear hK K; clear hL; rename Shutb _ _ => hL
                  (try simp only [Act.put, List.setIfInBounds_toArray, List.set_cons_zero, List.set_cons_succ])
                  refine late_one (i := 4) (by kernel_rfl) hL (fun hL' => ?_)
                  refine wpOp_step rfl (fun K hK0 => ?_)
                  have hK : Shut _ := hK0
                  clear hK0
                  refine step_append_row _ rfl _ _ rfl wr.heap.size (.slice av1 L1.length cv1) L1.length _ (.slice (some ⟨gA, 0, none⟩) r.places.length ca) (wq1.heap.size) rfl rfl hP2 hN2 rfl (by omega) (by have := hOfx.size; omega) ?_
                  intro v5 wq3 hn5 hg5 hat5
                  have hT3 := hT2.grown hg5 (own_base hP2) hbTr
                  have hQ3 := hQ2.kept hg5 (apart_ne HDIS.out)
                  have hS3 := hg5.size
                  have hN3B : Blk wq3 (wx.heap.size) #[.slice (some ⟨gB, 0, none⟩) r.places.length cb] 25 := (hg5.block _ hN2B.lt (fun e => by have := (ho1x.lt _ e.symm).2; omega)).trans hN2B
                  refine hK.out _ _ ⟨fun _ => hT3.cell, ?_⟩
                  clear hK K; clear hL; rename Shutb _ _ => hL
                  (try simp only [Act.put, List.setIfInBounds_toArray, List.set_cons_zero, List.set_cons_succ])
                  refine late_early (i := 10) (v := ?_) rfl (by kernel_rfl) (by kernel_rfl) (by kernel_rfl) (by decide) (by kernel_rfl) (fun _ _ _ h => h) hL (Or.inl ⟨by rfl, ?_⟩) (fun _ => hT3.cell) (fun hL' => ?_)
                  rotate_left
                  · intro y hy; have g1 := hy rfl; go_simp; (try with_reducible rfl)
                  clear hL; rename Shutb _ _ => hL
                  (try simp only [Act.put, List.setIfInBounds_toArray, List.set_cons_zero, List.set_cons_succ])
                  refine late_one (i := 9) (by kernel_rfl) hL (fun hL' => ?_)
                  refine wpOp_step rfl (fun K hK0 => ?_)
                  have hK : Shut _ := hK0
                  clear hK0
                  refine step_append_row _ rfl _ _ rfl wr.heap.size (.slice av2 L2.length cv2) L2.length _ (.slice (some ⟨gB, 0, none⟩) r.places.length cb) (wx.heap.size) rfl rfl hQ3 hN3B rfl (by omega) (by have := hOfx.size; omega) ?_
                  intro v6 wq4 hn6 hg6 hat6
                  have hT4 := hT3.grown hg6 (own_base hQ3) hbTr
                  refine hK.out _ _ ⟨fun _ => hT4.cell, ?_⟩
                  clear hK K; clear hL; rename Shutb _ _ => hL
                  (try simp only [Act.put, List.setIfInBounds_toArray, List.set_cons_zero, List.set_cons_succ])
                  have hfin := pair_all hTx hbTr (Nat.le_refl _) ho1x ho2x HDIS.out HA1x.out HA2x.out hRA hRB (((Ext.refl wx).trans hX1).trans hX2) hg5 hn5 hat5 (Ext.refl _) hg6 hn6 hat6 hOfx
                  have hTu := hT4
                  obtain ⟨gN, capN, rfl⟩ := own_succ hn5
                  obtain ⟨gM, capM, rfl⟩ := own_succ hn6
                  have f1 := hTu.free
                  have f2 := hTu.lt
                  refine late_one (i := 11) (by kernel_rfl) hL (fun hL' => ?_)
                  refine wpOp_step rfl (fun K hK0 => ?_)
                  have hK : Shut _ := hK0
                  clear hK0
                  have f0 := hTu.cell
                  go_simp
                  have hTv := hTu.set 1 (.slice (some ⟨gN, 0, none⟩) (L1.length + 1) capN)
                  refine hK.out _ _ ⟨fun e => absurd (e : true = false) (by decide), ?_⟩
                  clear hK K; clear hL; rename Shutb _ _ => hL
                  (try simp only [Act.put, List.setIfInBounds_toArray, List.set_cons_zero, List.set_cons_succ])
                  clear f1 f2
                  refine late_one (i := 12) (by kernel_rfl) hL (fun hL' => ?_)
                  refine wpOp_step rfl (fun K hK0 => ?_)
                  have hK : Shut _ := hK0
                  clear hK0
                  go_simp
                  refine hK.out _ _ ⟨fun e => absurd (e : true = false) (by decide), ?_⟩
                  clear hK K; clear hL; rename Shutb _ _ => hL
                  (try simp only [Act.put, List.setIfInBounds_toArray, List.set_cons_zero, List.set_cons_succ])
                  have f1 := hTv.free
                  have f2 := hTv.lt
                  refine late_one (i := 13) (by kernel_rfl) hL (fun hL' => ?_)
                  refine wpOp_step rfl (fun K hK0 => ?_)
                  have hK : Shut _ := hK0
                  clear hK0
                  have f0 := hTv.cell
                  go_simp
                  refine hK.out _ _ ⟨fun e => absurd (e : true = false) (by decide), ?_⟩
                  clear hK K; clear hL; rename Shutb _ _ => hL
                  (try simp only [Act.put, List.setIfInBounds_toArray, List.set_cons_zero, List.set_cons_succ])
                  refine late_done (by kernel_rfl) ?_
                  (try dsimp only [Exit.then])
                  clear f1 f2 hTv hTu
                  obtain ⟨r1, r2, r3, r4, r5, r6, r7⟩ := hfin
                  obtain ⟨wz, hwz⟩ : ∃ wz, (wq4.setCell ⟨bT, 1, none⟩ (.slice (some ⟨gN, 0, none⟩) (L1.length + 1) capN)).setCell ⟨bT, 2, none⟩ (.slice (some ⟨gM, 0, none⟩) (L2.length + 1) capM) = wz := ⟨_, rfl⟩
                  rw [hwz] at r1 r2 r4 r5 r6 r7 ⊢
                  have R4 := Lib.hid r4
                  have R5 := Lib.hid r5
                  have R3 := Lib.hid r3
                  clear r3 r4 r5 hwz
                  go_wp2
                  go_roundw
                  case rel => exact ⟨s + 1, _, _, _, _, by omega, by go_num, by simp [HL1.out], by simp [HL2.out], by simpa using r1, by simpa using r2, R3.out, R4.out, R5.out, by rw [List.map_append, HF1.out, List.range_succ, List.map_append]; rfl, by rw [List.map_append, HF2.out, List.range_succ, List.map_append]; rfl, r6, r7⟩
                  case measure => simp [intOf]; omega
          · obtain rfl : s = mm := by omega
            have hnlt : ¬ (s : Int) < r.seasons := by have := HM.out; omega
            have t0 := hBy.cell
            have t1 := hBy.lt
            have q0 := hB1y.cell
            have q1 := hB1y.free
            have q2 := hB1y.lt
            go_wp2
            have hBR9 := ((hB1y.set 0 (.slice (some ⟨gS, 0, none⟩) r.places.length cv)).set 1 (.slice av1 L1.length cv1)).set 2 (.slice av2 L2.length cv2)
            have hO9 := (((Off.refl (w.heap.size + 1) (w.heap.size + 1) wy).set (a := ⟨w.heap.size + 1, 0, none⟩) (.inl rfl) (.slice (some ⟨gS, 0, none⟩) r.places.length cv)).set (a := ⟨w.heap.size + 1, 1, none⟩) (.inl rfl) (.slice av1 L1.length cv1)).set (a := ⟨w.heap.size + 1, 2, none⟩) (.inl rfl) (.slice av2 L2.length cv2)
            obtain ⟨w9, hw9⟩ : ∃ w9, ((wy.setCell ⟨w.heap.size + 1, 0, none⟩ (.slice (some ⟨gS, 0, none⟩) r.places.length cv)).setCell ⟨w.heap.size + 1, 1, none⟩ (.slice av1 L1.length cv1)).setCell ⟨w.heap.size + 1, 2, none⟩ (.slice av2 L2.length cv2) = w9 := ⟨_, rfl⟩
            rw [hw9] at hBR9 hO9 ⊢
            have hI9 := IRow.ints ((hRS.off hOfy (by omega) (by omega)).off hO9 (by omega) (by omega)) (n := r.places.length) (by simp) cv
            have hG9 := (Lists.of_own (n := w.heap.size) (by omega) (own_off ho1 hO9 (by omega) (by omega)) (fun p hp => (HA1.out p hp).off2 hB1y (by decide) hO9)).lists
            have hK9 := (Lists.of_own (n := w.heap.size) (by omega) (own_off ho2 hO9 (by omega) (by omega)) (fun p hp => (HA2.out p hp).off2 hB1y (by decide) hO9)).lists
            rw [HF1.out] at hG9
            rw [HF2.out] at hK9
            have hms : r.seasons.toNat = s := by have := HM.out; omega
            have eg : (R.endT r plan false).grows = (List.range s).map (fun _ => r.places.map (gF false)) := by rw [endT_grows_eq, hms]
            have ek : (R.endT r plan false).takes = (List.range s).map (fun s => (List.range r.places.length).map (kF r plan false s)) := by rw [endT_takes_eq, hms]
            have es : (R.endT r plan false).starts = r.places.map (sF r false) := rfl
            have c9 := hBR9.cell
            clear q0 q1 t0 hw9
            exact bodyPost_ret (v := .agg #[.slice (some ⟨gS, 0, none⟩) r.places.length cv, .slice av1 L1.length cv1, .slice av2 L2.length cv2]) (by simp [results, Try.results27, go_sem, c9]) rfl ⟨_, _, _, rfl, by rw [es]; exact hI9, by rw [eg]; exact hG9, by rw [ek]; exact hK9, hO9.ext0 hEy (by omega) (by omega)⟩
  | true =>
    go_enter Try.func27, Try.ntmps27
    go_upto_region 2 with (fail)
    obtain ⟨w1, hw1⟩ : ∃ w1, (((w.alloc (.cells (reefV r (.slice a1 r.places.length c1)) 24)).alloc (.cells #[.slice none 0 0, .slice none 0 0, .slice none 0 0] 28)).alloc (.cells #[.slice none 0 0, .slice none 0 0, .slice none 0 0] 28)) = w1 := ⟨_, rfl⟩
    have hb0 : Blk w1 w.heap.size (reefV r (.slice a1 r.places.length c1)) 24 := by rw [← hw1]; exact ((Blk.new' rfl _ _).alloc _).alloc _
    have hb1 : Blk w1 (w.heap.size + 1) #[.slice none 0 0, .slice none 0 0, .slice none 0 0] 28 := by rw [← hw1]; exact (Blk.new' (by simp) _ _).alloc _
    have hb2 : Blk w1 (w.heap.size + 1 + 1) #[.slice none 0 0, .slice none 0 0, .slice none 0 0] 28 := by rw [← hw1]; exact Blk.new' (by simp) _ _
    have hE1 : Ext w w1 := by rw [← hw1]; (with_reducible (repeat (first | exact Ext.refl _ | assumption | apply Ext.alloc | apply Ext.drew | exact ext_plus _ _ | (apply Ext.setCell; rotate_left; (simp <;> omega)) | (apply Ext.trans; rotate_left; exact ext_plus _ _) | (apply Ext.trans; rotate_left; assumption))))
    rw [hw1]
    clear hw1
    obtain ⟨bT, hbT⟩ : ∃ bT, w.heap.size + 1 + 1 = bT := ⟨_, rfl⟩
    rw [hbT] at hb2 ⊢
    have hbTl : bT < w1.heap.size := hb2.lt
    go_wp2
    go_loopw [8, 9] (fun i _ wr => ∃ (k : Nat) (v : Value), k ≤ r.places.length ∧ i = .int .i64 k ∧ wr.ownsRow w1.heap.size 3 1 v k (pre (sF r true) r.places k) ∧ Blk wr bT #[v, .slice none 0 0, .slice none 0 0] 28 ∧ Off bT bT w1 wr) (fun i _ _ => r.places.length - (intOf i).toNat)
    case atStart => exact ⟨0, _, Nat.zero_le _, rfl, World.ownsRow_nil _ _ _ _, hb2, Off.refl _ _ _⟩
    case round =>
      rename World => wr
      obtain ⟨k, v, hk, rfl, hown, hB2, hOf⟩ := hrel
      have hEr : Ext w wr := hOf.ext0 hE1 (by omega) (by omega)
      have hB0 := hb0.off hOf (by omega) (by omega)
      have hB1 := hb1.off hOf (by omega) (by omega)
      have hszr := hOf.size
      have x0 := hB0.cell
      have x1 := hB0.lt
      obtain ⟨av, cv, rfl⟩ := own_slice hown
      by_cases hlt : k < r.places.length
      · obtain ⟨b, off, rfl, hb, hAt⟩ := HX1.out k hlt
        have hAt2 := ate_stays _ _ _ _ _ _ hEr hb hAt
        obtain ⟨h0, h1, h2, h3, h4, h5, h6, h7, h8, h9, h10, h11⟩ := place_cells hAt2
        have hbl := Nat.lt_of_lt_of_le hb hEr.size
        have hO := HO.out.place k hlt
        rw [R.pat_at hlt] at hO
        have hc0 := hO.c0
        have hc1 := hO.c1
        have hps := pre_succ (sF r true) r.places hlt
        obtain ⟨p, hp⟩ : ∃ p, r.places[k] = p := ⟨_, rfl⟩
        rw [hp] at h0 hc0 hc1 hps
        have HPS := Lib.hid hps
        clear hAt hAt2 hO h1 h2 h3 h4 h5 h6 h7 h8 h9 h10 h11 hps hp
        have hmo := fun w' => dmost_any r p.count (.slice (some ⟨b, off, none⟩) r.places.length c1) ⟨_, _, _, rfl⟩ w' hc0 (by omega) HO.out.m0 HO.out.m1
        have HMO := Lib.hid hmo
        clear hmo
        go_upto_region 6 with (fail)
        go_upto_region 8 with (first | (go_at_call 54; refine (HMO.out _).mono ?_; rintro e w2 ⟨rfl, hE2⟩))
        have hT2 := hB2.ext hE2
        have hs2 := hE2.size
        have t0 := hT2.cell
        have t1 := hT2.lt
        have hown2 := own_ext hown hE2
        clear x0 x1
        go_wp2_with (first | (at_builtin; refine wpList_append_own_at _ rfl _ _ 25 rfl (w1.heap.size) 3 i0 (.int .i64 0) 1 8 Try.underlying25 hi hz0 hz1 hz2 rfl (by decide) _ _ _ rfl (hown2.alloc _) ⟨w2.heap.size, 0, none⟩ 1 1 [.int .i64 ((R.most r p.count))] rfl rfl (cell_one _ _ _ (by simp)) (one_int _) (by unfold maxLen; omega) (by omega) (by simp <;> omega) ?_; intro v3 w3 hown3 hgr3 _ hat0; have hat3 := Lib.hid hat0; clear hat0; obtain ⟨g3, cap3, rfl⟩ := own_succ hown3; have hT3 := (hT2.alloc (.cells #[.int .i64 (R.most r p.count)] 3)).grown hgr3 (own_base hown2) hbTl; have y0 := hT3.cell; have y1 := hT3.free; have y2 := hT3.lt))
        go_roundw
        case rel => exact ⟨k + 1, _, by omega, by go_num, by rw [HPS.out]; exact own_other hown3 (a := ⟨bT, 0, none⟩) hbTl _, hT3.set 0 _, (Off.grown ((hOf.ext hE2).alloc _) hgr3 (own_base hown2)).set (a := ⟨bT, 0, none⟩) (.inl rfl) _⟩
        case measure => simp [intOf]; omega
      · obtain rfl : k = r.places.length := by omega
        rw [pre_all] at hown
        obtain ⟨gS, cS, e0, hgS, hgSl⟩ := own_pos hown HO.out.n1
        obtain rfl : av = some ⟨gS, 0, none⟩ := by cases e0; rfl
        have hRS : IRow wr gS (r.places.map (sF r true)) := IRow.of_own (by rw [List.length_map]; exact hown)
        have hbTr : bT < wr.heap.size := hB2.lt
        go_wp2
        go_loopw [10, 11, 12, 13, 14, 15, 16] (fun i _ _ _ _ _ _ wy => ∃ (k : Nat) (L1 L2 : List (List Int × Value)) (v1 v2 : Value), k ≤ mm ∧ i = .int .i64 k ∧ L1.length = k ∧ L2.length = k ∧ wy.ownsRow wr.heap.size 25 1 v1 L1.length (L1.map Prod.snd) ∧ wy.ownsRow wr.heap.size 25 1 v2 L2.length (L2.map Prod.snd) ∧ (∀ j, v1.ownBlock = some j → v2.ownBlock ≠ some j) ∧ (∀ p ∈ L1, Apart bT bT w.heap.size wy p) ∧ (∀ p ∈ L2, Apart bT bT w.heap.size wy p) ∧ L1.map Prod.fst = (List.range k).map (fun _ => r.places.map (gF true)) ∧ L2.map Prod.fst = (List.range k).map (fun s => (List.range r.places.length).map (kF r plan true s)) ∧ Blk wy bT #[.slice (some ⟨gS, 0, none⟩) r.places.length cv, v1, v2] 28 ∧ Off bT bT wr wy) (fun i _ _ _ _ _ _ _ => mm - (intOf i).toNat)
        case atStart => exact ⟨0, [], [], _, _, Nat.zero_le _, rfl, rfl, rfl, World.ownsRow_nil _ _ _ _, World.ownsRow_nil _ _ _ _, (by intro j h; simp [Value.ownBlock] at h), by simp, by simp, rfl, rfl, hB2, Off.refl _ _ _⟩
        case round =>
          rename World => wy
          obtain ⟨s, L1, L2, v1, v2, hs, rfl, hl1, hl2, ho1, ho2, hdis, hA1, hA2, hf1, hf2, hBy, hOfy⟩ := hrel
          have HA1 := Lib.hid hA1
          have HA2 := Lib.hid hA2
          have HF1 := Lib.hid hf1
          have HF2 := Lib.hid hf2
          have HL1 := Lib.hid hl1
          have HL2 := Lib.hid hl2
          have HDIS := Lib.hid hdis
          have hEy : Ext w wy := hOfy.ext0 hEr (by omega) (by omega)
          have hB0y := hB0.off hOfy (by omega) (by omega)
          have hB1y := hB1.off hOfy (by omega) (by omega)
          have hszy := hOfy.size
          have hnl1 : L1.length ≤ 4 := by omega
          have hnl2 : L2.length ≤ 4 := by omega
          have x0 := hB0y.cell
          have x1 := hB0y.lt
          clear hA1 hA2 hf1 hf2 hl1 hl2 hdis
          obtain ⟨av1, cv1, rfl⟩ := own_slice ho1
          obtain ⟨av2, cv2, rfl⟩ := own_slice ho2
          by_cases hlt : s < mm
          · have hlt' : (s : Int) < r.seasons := by have := HM.out; omega
            have hsp : s < plan.length := by have := HOL.out.len; have := HM.out; omega
            go_wp2
            go_loopw [11, 12, 13, 14, 15, 16] (fun va vb i _ _ _ wx => ∃ j : Nat, j ≤ r.places.length ∧ i = .int .i64 j ∧ wx.ownsRow wy.heap.size 3 1 va j (pre (gF true) r.places j) ∧ wx.ownsRow wy.heap.size 3 1 vb j (((List.range j).map (kF r plan true s)).map (Value.int .i64)) ∧ (∀ j, va.ownBlock = some j → vb.ownBlock ≠ some j) ∧ Ext wy wx) (fun _ _ i _ _ _ _ => r.places.length - (intOf i).toNat)
            case atStart => exact ⟨0, Nat.zero_le _, rfl, World.ownsRow_nil _ _ _ _, World.ownsRow_nil _ _ _ _, (by intro j h; simp [Value.ownBlock] at h), Ext.refl _⟩
            case round =>
              rename World => wx
              obtain ⟨j, hj, rfl, hoa, hob, hdi, hEx⟩ := hrel
              have HDI := Lib.hid hdi
              clear hdi
              have hExw := hEy.trans hEx
              have hB0x := hB0y.ext hEx
              have hszx := hEx.size
              have z0 := hB0x.cell
              have z1 := hB0x.lt
              clear x0 x1
              obtain ⟨aa, ca, rfl⟩ := own_slice hoa
              obtain ⟨ab, cb, rfl⟩ := own_slice hob
              by_cases hlj : j < r.places.length
              · obtain ⟨b, off, rfl, hb, hAt⟩ := HX1.out j hlj
                have hAt2 := ate_stays _ _ _ _ _ _ hExw hb hAt
                obtain ⟨h0, h1, h2, h3, h4, h5, h6, h7, h8, h9, h10, h11⟩ := place_cells hAt2
                have hbl := Nat.lt_of_lt_of_le hb hExw.size
                have hps := pre_succ (gF true) r.places hlj
                have hkk : kF r plan true s j = (R.take (R.pat r.places j) (R.has (R.iat plan s) j)).1 := rfl
                rw [R.pat_at hlj] at hkk
                obtain ⟨p, hp⟩ : ∃ p, r.places[j] = p := ⟨_, rfl⟩
                rw [hp] at h0 h1 h2 h3 h4 h5 h6 h7 h8 h9 h10 h11 hps hkk
                have HPS := Lib.hid hps
                have HKK := Lib.hid hkk
                clear hAt hAt2 hps hkk hp
                go_upto_region 17 with (fail)
                obtain ⟨wp, hwp⟩ : ∃ wp, wx.alloc (.cells #[.int .i64 p.count, .int .i64 p.room, .int .i64 p.gl, .int .i64 p.gh, .int .i64 p.drift, .int .i64 p.into, .int .i64 p.ol, .int .i64 p.oh, .int .i64 p.sl, .int .i64 p.sh, .int .i64 p.goal, .int .i64 p.worth] 46) = wp := ⟨_, rfl⟩
                have hpb : Blk wp wx.heap.size #[.int .i64 p.count, .int .i64 p.room, .int .i64 p.gl, .int .i64 p.gh, .int .i64 p.drift, .int .i64 p.into, .int .i64 p.ol, .int .i64 p.oh, .int .i64 p.sl, .int .i64 p.sh, .int .i64 p.goal, .int .i64 p.worth] 46 := by rw [← hwp]; exact Blk.new' rfl _ _
                have hEp : Ext wx wp := by rw [← hwp]; (with_reducible (repeat (first | exact Ext.refl _ | assumption | apply Ext.alloc | apply Ext.drew | exact ext_plus _ _ | (apply Ext.setCell; rotate_left; (simp <;> omega)) | (apply Ext.trans; rotate_left; exact ext_plus _ _) | (apply Ext.trans; rotate_left; assumption))))
                rw [hwp]
                clear hwp h0 h1 h2 h3 h4 h5 h6 h7 h8 h9 h10 h11 z0 z1
                obtain ⟨b8, o8, rfl, hb8, hc8⟩ := HX2.out s hsp
                have hEwp : Ext w wp := hExw.trans hEp
                have c8 := (hEwp.cells.1 _ _ hb8).trans hc8
                have hb8p := Nat.lt_of_lt_of_le hb8 hEwp.size
                have hbit := HOL.out.bit s hsp
                have hbi : R.iat plan s = plan[s] := R.iat_at hsp
                obtain ⟨y, hy⟩ : ∃ y, plan[s] = y := ⟨_, rfl⟩
                rw [hy] at c8 hbit hbi
                have hk2 := HKK.out
                rw [hbi] at hk2
                have hhas := fun w' => dhas_any y j w' hbit.1 (by have := (R.two_pow _ HO.out.n4).2; omega) (by omega)
                obtain ⟨bs, hbs⟩ : ∃ bs, R.has y j = bs := ⟨_, rfl⟩
                rw [hbs] at hk2
                simp only [hbs] at hhas
                have HHAS := Lib.hid hhas
                have HK2 := Lib.hid hk2
                have hpc := plus_cell
                have hf0 := span_field0
                have hf1 := span_field1
                have kp := hpb.cell
                have kl := hpb.lt
                clear hhas hk2 hbit hbi hc8 hbs hy HKK
                refine wp_region_late 13 (fun c z => c = false → (∀ o, z.cell? ⟨wx.heap.size, o, none⟩ = (#[.int .i64 p.count, .int .i64 p.room, .int .i64 p.gl, .int .i64 p.gh, .int .i64 p.drift, .int .i64 p.into, .int .i64 p.ol, .int .i64 p.oh, .int .i64 p.sl, .int .i64 p.sh, .int .i64 p.goal, .int .i64 p.worth] : Array Value)[o]?) ∧ z.cell? ⟨b8, o8 + s, none⟩ = some (.int .i64 y)) (by kernel_rfl) (fun hL => ?_)
                have hpd := hpb.drew
                have hcd : wp.drew.cell? ⟨b8, o8 + s, none⟩ = some (.int .i64 y) := c8
                refine late_early (i := 0) (v := ?_) rfl (by kernel_rfl) (by kernel_rfl) (by kernel_rfl) (by decide) (by kernel_rfl) (fun _ _ _ h => h) hL (Or.inl ⟨by rfl, ?_⟩) (fun _ => ⟨hpd.cell, hcd⟩) (fun hL' => ?_)
                rotate_left
                · intro y hy; have hz := hy rfl; clear hy; obtain ⟨g1, g2⟩ := hz; go_simp; (try with_reducible rfl)
                clear hL; rename Shutb _ _ => hL
                (try simp only [Act.put, List.setIfInBounds_toArray, List.set_cons_zero, List.set_cons_succ])
                refine late_early (i := 1) (v := ?_) rfl (by kernel_rfl) (by kernel_rfl) (by kernel_rfl) (by decide) (by kernel_rfl) (fun _ _ _ h => h) hL (Or.inl ⟨by rfl, ?_⟩) (fun _ => ⟨hpd.cell, hcd⟩) (fun hL' => ?_)
                rotate_left
                · intro y hy; have hz := hy rfl; clear hy; obtain ⟨g1, g2⟩ := hz; go_simp; (try with_reducible rfl)
                clear hL; rename Shutb _ _ => hL
                (try simp only [Act.put, List.setIfInBounds_toArray, List.set_cons_zero, List.set_cons_succ])
                refine late_early (i := 2) (v := ?_) rfl (by kernel_rfl) (by kernel_rfl) (by kernel_rfl) (by decide) (by kernel_rfl) (fun _ _ _ h => h) hL (Or.inl ⟨by rfl, ?_⟩) (fun _ => ⟨hpd.cell, hcd⟩) (fun hL' => ?_)
                rotate_left
                · intro y hy; have hz := hy rfl; clear hy; obtain ⟨g1, g2⟩ := hz; go_simp; (try with_reducible rfl)
                clear hL; rename Shutb _ _ => hL
                (try simp only [Act.put, List.setIfInBounds_toArray, List.set_cons_zero, List.set_cons_succ])
                refine late_early (i := 3) (v := ?_) rfl (by kernel_rfl) (by kernel_rfl) (by kernel_rfl) (by decide) (by kernel_rfl) (fun _ _ _ h => h) hL (Or.inl ⟨by rfl, ?_⟩) (fun _ => ⟨hpd.cell, hcd⟩) (fun hL' => ?_)
                rotate_left
                · intro y hy; have hz := hy rfl; clear hy; obtain ⟨g1, g2⟩ := hz; go_simp; (try with_reducible rfl)
                clear hL; rename Shutb _ _ => hL
                (try simp only [Act.put, List.setIfInBounds_toArray, List.set_cons_zero, List.set_cons_succ])
                refine late_early (i := 4) (v := ?_) rfl (by kernel_rfl) (by kernel_rfl) (by kernel_rfl) (by decide) (by kernel_rfl) (fun _ _ _ h => h) hL (Or.inl ⟨by rfl, ?_⟩) (fun _ => ⟨hpd.cell, hcd⟩) (fun hL' => ?_)
                rotate_left
                · intro y hy; have hz := hy rfl; clear hy; obtain ⟨g1, g2⟩ := hz; go_simp; (try with_reducible rfl)
                clear hL; rename Shutb _ _ => hL
                (try simp only [Act.put, List.setIfInBounds_toArray, List.set_cons_zero, List.set_cons_succ])
                refine late_early (i := 5) (v := ?_) rfl (by kernel_rfl) (by kernel_rfl) (by kernel_rfl) (by decide) (by kernel_rfl) (fun _ _ _ h => h) hL (Or.inl ⟨by rfl, ?_⟩) (fun _ => ⟨hpd.cell, hcd⟩) (fun hL' => ?_)
                rotate_left
                · intro y hy; have hz := hy rfl; clear hy; obtain ⟨g1, g2⟩ := hz; go_simp; (try with_reducible rfl)
                clear hL; rename Shutb _ _ => hL
                (try simp only [Act.put, List.setIfInBounds_toArray, List.set_cons_zero, List.set_cons_succ])
                refine late_early (i := 6) (v := ?_) rfl (by kernel_rfl) (by kernel_rfl) (by kernel_rfl) (by decide) (by kernel_rfl) (fun _ _ _ h => h) hL (Or.inl ⟨by rfl, ?_⟩) (fun _ => ⟨hpd.cell, hcd⟩) (fun hL' => ?_)
                rotate_left
                · intro y hy; have hz := hy rfl; clear hy; obtain ⟨g1, g2⟩ := hz; go_simp; (try with_reducible rfl)
                clear hL; rename Shutb _ _ => hL
                (try simp only [Act.put, List.setIfInBounds_toArray, List.set_cons_zero, List.set_cons_succ])
                refine late_early (i := 7) (v := ?_) rfl (by kernel_rfl) (by kernel_rfl) (by kernel_rfl) (by decide) (by kernel_rfl) (fun _ _ _ h => h) hL (Or.inl ⟨by rfl, ?_⟩) (fun _ => ⟨hpd.cell, hcd⟩) (fun hL' => ?_)
                rotate_left
                · intro y hy; have hz := hy rfl; clear hy; obtain ⟨g1, g2⟩ := hz; go_simp; (try with_reducible rfl)
                clear hL; rename Shutb _ _ => hL
                (try simp only [Act.put, List.setIfInBounds_toArray, List.set_cons_zero, List.set_cons_succ])
                refine late_early (i := 8) (v := ?_) rfl (by kernel_rfl) (by kernel_rfl) (by kernel_rfl) (by decide) (by kernel_rfl) (fun _ _ _ h => h) hL (Or.inl ⟨by rfl, ?_⟩) (fun _ => ⟨hpd.cell, hcd⟩) (fun hL' => ?_)
                rotate_left
                · intro y hy; have hz := hy rfl; clear hy; obtain ⟨g1, g2⟩ := hz; go_simp; (try with_reducible rfl)
                clear hL; rename Shutb _ _ => hL
                (try simp only [Act.put, List.setIfInBounds_toArray, List.set_cons_zero, List.set_cons_succ])
                refine late_one (i := 9) (by kernel_rfl) hL (fun hL' => ?_)
                refine wpOp_step rfl (fun K hK0 => ?_)
                have hK : Shut _ := hK0
                clear hK0
                go_simp
                go_wp2_with (first | (go_at_call 39; refine (HHAS.out _).mono ?_; rintro e w4 ⟨rfl, rfl⟩))
                refine hK.out _ _ ⟨fun _ => ⟨hpd.cell, hcd⟩, ?_⟩
                clear hK K; clear hL; rename Shutb _ _ => hL
                (try simp only [Act.put, List.setIfInBounds_toArray, List.set_cons_zero, List.set_cons_succ])
                refine late_one (i := 10) (by kernel_rfl) hL (fun hL' => ?_)
                refine wpOp_step rfl (fun K hK0 => ?_)
                have hK : Shut _ := hK0
                clear hK0
                go_simp
                go_wp2_with (first | (go_at_call 55; refine (dtakes_any p bs _).mono ?_; rintro e wA ⟨rfl, hE5⟩))
                have hpd5 := hpd.ext hE5
                have hcd5 := (hE5.cells.1 _ _ hb8p).trans hcd
                refine hK.out _ _ ⟨fun _ => ⟨hpd5.cell, hcd5⟩, ?_⟩
                clear hK K; clear hL; rename Shutb _ _ => hL
                (try simp only [Act.put, List.setIfInBounds_toArray, List.set_cons_zero, List.set_cons_succ])
                refine late_early (i := 11) (v := ?_) rfl (by kernel_rfl) (by kernel_rfl) (by kernel_rfl) (by decide) (by kernel_rfl) (fun _ _ _ h => h) hL (Or.inl ⟨by rfl, ?_⟩) (fun _ => ⟨hpd5.cell, hcd5⟩) (fun hL' => ?_)
                rotate_left
                · intro y hy; have hz := hy rfl; clear hy; obtain ⟨g1, g2⟩ := hz; go_simp; (try with_reducible rfl)
                clear hL; rename Shutb _ _ => hL
                (try simp only [Act.put, List.setIfInBounds_toArray, List.set_cons_zero, List.set_cons_succ])
                refine late_one (i := 12) (by kernel_rfl) hL (fun hL' => ?_)
                refine wpOp_step rfl (fun K hK0 => ?_)
                have hK : Shut _ := hK0
                clear hK0
                go_simp
                refine hK.out _ _ ⟨fun _ => ⟨hpd5.cell, hcd5⟩, ?_⟩
                clear hK K; clear hL; rename Shutb _ _ => hL
                (try simp only [Act.put, List.setIfInBounds_toArray, List.set_cons_zero, List.set_cons_succ])
                refine late_one (i := 13) (by kernel_rfl) hL (fun hL' => ?_)
                refine wpOp_step rfl (fun K hK0 => ?_)
                have hK : Shut _ := hK0
                clear hK0
                go_simp
                refine hK.out _ _ ⟨fun e => absurd (e : true = false) (by decide), ?_⟩
                clear hK K; clear hL; rename Shutb _ _ => hL
                (try simp only [Act.put, List.setIfInBounds_toArray, List.set_cons_zero, List.set_cons_succ])
                refine late_done (by kernel_rfl) ?_
                (try dsimp only [Exit.then])
                have hEA : Ext wp wA := ((Ext.refl wp).drew).trans hE5
                have hpA := hpb.ext hEA
                have kp := hpA.cell
                have kl := hpA.lt
                have c8A := (hEA.cells.1 _ _ hb8p).trans c8
                have hb8A := Nat.lt_of_lt_of_le hb8p hEA.size
                clear hpd hcd hpd5 hcd5 hE5
                go_wp2
                refine wp_region_late 13 (fun c z => c = false → (∀ o, z.cell? ⟨wx.heap.size, o, none⟩ = (#[.int .i64 p.count, .int .i64 p.room, .int .i64 p.gl, .int .i64 p.gh, .int .i64 p.drift, .int .i64 p.into, .int .i64 p.ol, .int .i64 p.oh, .int .i64 p.sl, .int .i64 p.sh, .int .i64 p.goal, .int .i64 p.worth] : Array Value)[o]?) ∧ z.cell? ⟨b8, o8 + s, none⟩ = some (.int .i64 y)) (by kernel_rfl) (fun hL => ?_)
                have hpd := hpA.drew
                have hcd : wA.drew.cell? ⟨b8, o8 + s, none⟩ = some (.int .i64 y) := c8A
                refine late_early (i := 0) (v := ?_) rfl (by kernel_rfl) (by kernel_rfl) (by kernel_rfl) (by decide) (by kernel_rfl) (fun _ _ _ h => h) hL (Or.inl ⟨by rfl, ?_⟩) (fun _ => ⟨hpd.cell, hcd⟩) (fun hL' => ?_)
                rotate_left
                · intro y hy; have hz := hy rfl; clear hy; obtain ⟨g1, g2⟩ := hz; go_simp; (try with_reducible rfl)
                clear hL; rename Shutb _ _ => hL
                (try simp only [Act.put, List.setIfInBounds_toArray, List.set_cons_zero, List.set_cons_succ])
                refine late_early (i := 1) (v := ?_) rfl (by kernel_rfl) (by kernel_rfl) (by kernel_rfl) (by decide) (by kernel_rfl) (fun _ _ _ h => h) hL (Or.inl ⟨by rfl, ?_⟩) (fun _ => ⟨hpd.cell, hcd⟩) (fun hL' => ?_)
                rotate_left
                · intro y hy; have hz := hy rfl; clear hy; obtain ⟨g1, g2⟩ := hz; go_simp; (try with_reducible rfl)
                clear hL; rename Shutb _ _ => hL
                (try simp only [Act.put, List.setIfInBounds_toArray, List.set_cons_zero, List.set_cons_succ])
                refine late_early (i := 2) (v := ?_) rfl (by kernel_rfl) (by kernel_rfl) (by kernel_rfl) (by decide) (by kernel_rfl) (fun _ _ _ h => h) hL (Or.inl ⟨by rfl, ?_⟩) (fun _ => ⟨hpd.cell, hcd⟩) (fun hL' => ?_)
                rotate_left
                · intro y hy; have hz := hy rfl; clear hy; obtain ⟨g1, g2⟩ := hz; go_simp; (try with_reducible rfl)
                clear hL; rename Shutb _ _ => hL
                (try simp only [Act.put, List.setIfInBounds_toArray, List.set_cons_zero, List.set_cons_succ])
                refine late_early (i := 3) (v := ?_) rfl (by kernel_rfl) (by kernel_rfl) (by kernel_rfl) (by decide) (by kernel_rfl) (fun _ _ _ h => h) hL (Or.inl ⟨by rfl, ?_⟩) (fun _ => ⟨hpd.cell, hcd⟩) (fun hL' => ?_)
                rotate_left
                · intro y hy; have hz := hy rfl; clear hy; obtain ⟨g1, g2⟩ := hz; go_simp; (try with_reducible rfl)
                clear hL; rename Shutb _ _ => hL
                (try simp only [Act.put, List.setIfInBounds_toArray, List.set_cons_zero, List.set_cons_succ])
                refine late_early (i := 4) (v := ?_) rfl (by kernel_rfl) (by kernel_rfl) (by kernel_rfl) (by decide) (by kernel_rfl) (fun _ _ _ h => h) hL (Or.inl ⟨by rfl, ?_⟩) (fun _ => ⟨hpd.cell, hcd⟩) (fun hL' => ?_)
                rotate_left
                · intro y hy; have hz := hy rfl; clear hy; obtain ⟨g1, g2⟩ := hz; go_simp; (try with_reducible rfl)
                clear hL; rename Shutb _ _ => hL
                (try simp only [Act.put, List.setIfInBounds_toArray, List.set_cons_zero, List.set_cons_succ])
                refine late_early (i := 5) (v := ?_) rfl (by kernel_rfl) (by kernel_rfl) (by kernel_rfl) (by decide) (by kernel_rfl) (fun _ _ _ h => h) hL (Or.inl ⟨by rfl, ?_⟩) (fun _ => ⟨hpd.cell, hcd⟩) (fun hL' => ?_)
                rotate_left
                · intro y hy; have hz := hy rfl; clear hy; obtain ⟨g1, g2⟩ := hz; go_simp; (try with_reducible rfl)
                clear hL; rename Shutb _ _ => hL
                (try simp only [Act.put, List.setIfInBounds_toArray, List.set_cons_zero, List.set_cons_succ])
                refine late_early (i := 6) (v := ?_) rfl (by kernel_rfl) (by kernel_rfl) (by kernel_rfl) (by decide) (by kernel_rfl) (fun _ _ _ h => h) hL (Or.inl ⟨by rfl, ?_⟩) (fun _ => ⟨hpd.cell, hcd⟩) (fun hL' => ?_)
                rotate_left
                · intro y hy; have hz := hy rfl; clear hy; obtain ⟨g1, g2⟩ := hz; go_simp; (try with_reducible rfl)
                clear hL; rename Shutb _ _ => hL
                (try simp only [Act.put, List.setIfInBounds_toArray, List.set_cons_zero, List.set_cons_succ])
                refine late_early (i := 7) (v := ?_) rfl (by kernel_rfl) (by kernel_rfl) (by kernel_rfl) (by decide) (by kernel_rfl) (fun _ _ _ h => h) hL (Or.inl ⟨by rfl, ?_⟩) (fun _ => ⟨hpd.cell, hcd⟩) (fun hL' => ?_)
                rotate_left
                · intro y hy; have hz := hy rfl; clear hy; obtain ⟨g1, g2⟩ := hz; go_simp; (try with_reducible rfl)
                clear hL; rename Shutb _ _ => hL
                (try simp only [Act.put, List.setIfInBounds_toArray, List.set_cons_zero, List.set_cons_succ])
                refine late_early (i := 8) (v := ?_) rfl (by kernel_rfl) (by kernel_rfl) (by kernel_rfl) (by decide) (by kernel_rfl) (fun _ _ _ h => h) hL (Or.inl ⟨by rfl, ?_⟩) (fun _ => ⟨hpd.cell, hcd⟩) (fun hL' => ?_)
                rotate_left
                · intro y hy; have hz := hy rfl; clear hy; obtain ⟨g1, g2⟩ := hz; go_simp; (try with_reducible rfl)
                clear hL; rename Shutb _ _ => hL
                (try simp only [Act.put, List.setIfInBounds_toArray, List.set_cons_zero, List.set_cons_succ])
                refine late_one (i := 9) (by kernel_rfl) hL (fun hL' => ?_)
                refine wpOp_step rfl (fun K hK0 => ?_)
                have hK : Shut _ := hK0
                clear hK0
                go_simp
                go_wp2_with (first | (go_at_call 39; refine (HHAS.out _).mono ?_; rintro e w4 ⟨rfl, rfl⟩))
                refine hK.out _ _ ⟨fun _ => ⟨hpd.cell, hcd⟩, ?_⟩
                clear hK K; clear hL; rename Shutb _ _ => hL
                (try simp only [Act.put, List.setIfInBounds_toArray, List.set_cons_zero, List.set_cons_succ])
                refine late_one (i := 10) (by kernel_rfl) hL (fun hL' => ?_)
                refine wpOp_step rfl (fun K hK0 => ?_)
                have hK : Shut _ := hK0
                clear hK0
                go_simp
                go_wp2_with (first | (go_at_call 55; refine (dtakes_any p bs _).mono ?_; rintro e wB ⟨rfl, hE5⟩))
                have hpd5 := hpd.ext hE5
                have hcd5 := (hE5.cells.1 _ _ hb8A).trans hcd
                refine hK.out _ _ ⟨fun _ => ⟨hpd5.cell, hcd5⟩, ?_⟩
                clear hK K; clear hL; rename Shutb _ _ => hL
                (try simp only [Act.put, List.setIfInBounds_toArray, List.set_cons_zero, List.set_cons_succ])
                refine late_early (i := 11) (v := ?_) rfl (by kernel_rfl) (by kernel_rfl) (by kernel_rfl) (by decide) (by kernel_rfl) (fun _ _ _ h => h) hL (Or.inl ⟨by rfl, ?_⟩) (fun _ => ⟨hpd5.cell, hcd5⟩) (fun hL' => ?_)
                rotate_left
                · intro y hy; have hz := hy rfl; clear hy; obtain ⟨g1, g2⟩ := hz; go_simp; (try with_reducible rfl)
                clear hL; rename Shutb _ _ => hL
                (try simp only [Act.put, List.setIfInBounds_toArray, List.set_cons_zero, List.set_cons_succ])
                refine late_one (i := 12) (by kernel_rfl) hL (fun hL' => ?_)
                refine wpOp_step rfl (fun K hK0 => ?_)
                have hK : Shut _ := hK0
                clear hK0
                go_simp
                refine hK.out _ _ ⟨fun _ => ⟨hpd5.cell, hcd5⟩, ?_⟩
                clear hK K; clear hL; rename Shutb _ _ => hL
                (try simp only [Act.put, List.setIfInBounds_toArray, List.set_cons_zero, List.set_cons_succ])
                refine late_one (i := 13) (by kernel_rfl) hL (fun hL' => ?_)
                refine wpOp_step rfl (fun K hK0 => ?_)
                have hK : Shut _ := hK0
                clear hK0
                go_simp
                refine hK.out _ _ ⟨fun e => absurd (e : true = false) (by decide), ?_⟩
                clear hK K; clear hL; rename Shutb _ _ => hL
                (try simp only [Act.put, List.setIfInBounds_toArray, List.set_cons_zero, List.set_cons_succ])
                refine late_done (by kernel_rfl) ?_
                (try dsimp only [Exit.then])
                have hEB : Ext wp wB := hEA.trans (((Ext.refl wA).drew).trans hE5)
                have hE9 : Ext wx wB := hEp.trans hEB
                have hoa9 := own_ext hoa hE9
                have hob9 := own_ext hob hE9
                have hs9 := hE9.size
                have hla := fun q hq => (hoa9.lt q hq).2
                have hlb := fun q hq => (hob9.lt q hq).2
                have HLA := Lib.hid hla
                have HLB := Lib.hid hlb
                clear hla hlb
                go_wp2_with (first
                  | (at_builtin; refine wpList_append_own_at _ rfl _ _ 25 rfl (wy.heap.size) 3 i0 (.int .i64 0) 1 8 Try.underlying25 hi hz0 hz1 hz2 rfl (by decide) _ _ _ rfl ((hob7.alloc _)) ⟨w7.heap.size, 0, none⟩ 1 1 [.int .i64 ((R.take p bs).1)] rfl rfl (cell_one _ _ _ (by simp)) (one_int _) (by unfold maxLen; omega) (by omega) (by simp <;> omega) ?_; intro v8 w8 hown8 hgr8 _ hat0; have hat8 := Lib.hid hat0; clear hat0; obtain ⟨g8, cap8, rfl⟩ := own_succ hown8)
                  | (at_builtin; refine wpList_append_own_at _ rfl _ _ 25 rfl (wy.heap.size) 3 i0 (.int .i64 0) 1 8 Try.underlying25 hi hz0 hz1 hz2 rfl (by decide) _ _ _ rfl (hoa9.alloc _) ⟨wB.heap.size, 0, none⟩ 1 1 [.int .i64 (p.gh)] rfl rfl (cell_one _ _ _ (by simp)) (one_int _) (by unfold maxLen; omega) (by omega) (by simp <;> omega) ?_; intro v7 w7 hown7 hgr7 _ hat0; have hat7 := Lib.hid hat0; clear hat0; obtain ⟨g7, cap7, rfl⟩ := own_succ hown7; have hne := (apart_ne HDI.out); have hob7 := (hob9.alloc (.cells #[.int .i64 p.gh] 3)).kept hgr7 hne; have hs7 := hgr7.size; (try simp only [World.size_alloc] at hs7)))
                have hdj := apart_new HDI.out HLA.out HLB.out hat7.out (by simp) hat8.out (by simp; omega)
                have ho7 := (hown7.alloc (.cells #[.int .i64 (R.take p bs).1] 3)).kept hgr8 (apart_ne2 hdj.1)
                go_roundw
                case rel => exact ⟨j + 1, by omega, by go_num, by rw [HPS.out]; exact ho7, by rw [List.range_succ, List.map_append, List.map_append]; simp only [List.map_cons, List.map_nil]; rw [HK2.out]; exact hown8, hdj.2, ((((hEx.trans hE9).alloc _).grown hgr7 (own_base hoa9)).alloc _).grown hgr8 (own_base hob9)⟩
                case measure => simp [intOf]; omega
              · obtain rfl : j = r.places.length := by omega
                rw [pre_all] at hoa
                obtain ⟨gA, cA, e1, hgA, hgAl⟩ := own_pos hoa HO.out.n1
                obtain rfl : aa = some ⟨gA, 0, none⟩ := by cases e1; rfl
                obtain ⟨gB, cB, e2, hgB, hgBl⟩ := own_pos hob HO.out.n1
                obtain rfl : ab = some ⟨gB, 0, none⟩ := by cases e2; rfl
                have hRA : Apart bT bT w.heap.size wx (r.places.map (gF true), .slice (some ⟨gA, 0, none⟩) r.places.length ca) := ⟨gA, ca, by simp, by omega, by omega, IRow.of_own (by rw [List.length_map]; exact hoa), by omega⟩
                have hRB : Apart bT bT w.heap.size wx ((List.range r.places.length).map (kF r plan true s), .slice (some ⟨gB, 0, none⟩) r.places.length cb) := ⟨gB, cb, by simp, by omega, by omega, IRow.of_own (by rw [List.length_map, List.length_range]; exact hob), by omega⟩
                have ho1x := own_ext ho1 hEx
                have ho2x := own_ext ho2 hEx
                have hTx := hBy.ext hEx
                have hA1x : ∀ p ∈ L1, Apart bT bT w.heap.size wx p := fun p hp => (HA1.out p hp).ext hEx
                have hA2x : ∀ p ∈ L2, Apart bT bT w.heap.size wx p := fun p hp => (HA2.out p hp).ext hEx
                have HA1x := Lib.hid hA1x
                have HA2x := Lib.hid hA2x
                clear hA1x hA2x HDI hoa hob
                have hOfx := hOfy.ext hEx
                go_upto_region 21 with (fail)
                have hT := hTx.drew
                have ho1d : wx.drew.ownsRow wr.heap.size 25 1 (.slice av1 L1.length cv1) L1.length (L1.map Prod.snd) := ho1x
                have ho2d : wx.drew.ownsRow wr.heap.size 25 1 (.slice av2 L2.length cv2) L2.length (L2.map Prod.snd) := ho2x
                refine wp_region_late 11 (fun b y => b = false → (∀ o, y.cell? ⟨bT, o, none⟩ = (#[.slice (some ⟨gS, 0, none⟩) r.places.length cv, .slice av1 L1.length cv1, .slice av2 L2.length cv2] : Array Value)[o]?)) (by kernel_rfl) (fun hL => ?_)
                refine late_early (i := 0) (v := ?_) rfl (by kernel_rfl) (by kernel_rfl) (by kernel_rfl) (by decide) (by kernel_rfl) (fun _ _ _ h => h) hL (Or.inl ⟨by rfl, ?_⟩) (fun _ => hT.cell) (fun hL' => ?_)
                rotate_left
                · intro y hy; have g1 := hy rfl; go_simp; (try with_reducible rfl)
                clear hL; rename Shutb _ _ => hL
                (try simp only [Act.put, List.setIfInBounds_toArray, List.set_cons_zero, List.set_cons_succ])
                refine late_early (i := 1) (v := ?_) rfl (by kernel_rfl) (by kernel_rfl) (by kernel_rfl) (by decide) (by kernel_rfl) (fun _ _ _ h => h) hL (Or.inl ⟨by rfl, ?_⟩) (fun _ => hT.cell) (fun hL' => ?_)
                rotate_left
                · intro y hy; have g1 := hy rfl; go_simp; (try with_reducible rfl)
                clear hL; rename Shutb _ _ => hL
                (try simp only [Act.put, List.setIfInBounds_toArray, List.set_cons_zero, List.set_cons_succ])
                refine late_early (i := 2) (v := ?_) rfl (by kernel_rfl) (by kernel_rfl) (by kernel_rfl) (by decide) (by kernel_rfl) (fun _ _ _ h => h) hL (Or.inl ⟨by rfl, ?_⟩) (fun _ => hT.cell) (fun hL' => ?_)
                rotate_left
                · intro y hy; have g1 := hy rfl; go_simp; (try with_reducible rfl)
                clear hL; rename Shutb _ _ => hL
                (try simp only [Act.put, List.setIfInBounds_toArray, List.set_cons_zero, List.set_cons_succ])
                refine late_early (i := 5) (v := ?_) rfl (by kernel_rfl) (by kernel_rfl) (by kernel_rfl) (by decide) (by kernel_rfl) (fun _ _ _ h => h) hL (Or.inl ⟨by rfl, ?_⟩) (fun _ => hT.cell) (fun hL' => ?_)
                rotate_left
                · intro y hy; have g1 := hy rfl; go_simp; (try with_reducible rfl)
                clear hL; rename Shutb _ _ => hL
                (try simp only [Act.put, List.setIfInBounds_toArray, List.set_cons_zero, List.set_cons_succ])
                refine late_early (i := 6) (v := ?_) rfl (by kernel_rfl) (by kernel_rfl) (by kernel_rfl) (by decide) (by kernel_rfl) (fun _ _ _ h => h) hL (Or.inl ⟨by rfl, ?_⟩) (fun _ => hT.cell) (fun hL' => ?_)
                rotate_left
                · intro y hy; have g1 := hy rfl; go_simp; (try with_reducible rfl)
                clear hL; rename Shutb _ _ => hL
                (try simp only [Act.put, List.setIfInBounds_toArray, List.set_cons_zero, List.set_cons_succ])
                refine late_early (i := 7) (v := ?_) rfl (by kernel_rfl) (by kernel_rfl) (by kernel_rfl) (by decide) (by kernel_rfl) (fun _ _ _ h => h) hL (Or.inl ⟨by rfl, ?_⟩) (fun _ => hT.cell) (fun hL' => ?_)
                rotate_left
                · intro y hy; have g1 := hy rfl; go_simp; (try with_reducible rfl)
                clear hL; rename Shutb _ _ => hL
                (try simp only [Act.put, List.setIfInBounds_toArray, List.set_cons_zero, List.set_cons_succ])
                refine late_two (i := 3) (j := 8) (by kernel_rfl) hL (fun hL' => ?_) (fun hL' => ?_)
                · refine wpOp_step rfl (fun K hK0 => ?_)
                  have hK : Shut _ := hK0
                  clear hK0
                  go_simp
                  have hN1 : Blk ((wx.alloc (.cells #[.slice (some ⟨gA, 0, none⟩) r.places.length ca] 25)).drew) wx.heap.size #[.slice (some ⟨gA, 0, none⟩) r.places.length ca] 25 := Blk.new wx _ _
                  have hX1 : Ext (wx) ((wx.alloc (.cells #[.slice (some ⟨gA, 0, none⟩) r.places.length ca] 25)).drew) := ((Ext.refl wx).alloc (.cells #[.slice (some ⟨gA, 0, none⟩) r.places.length ca] 25)).drew
                  obtain ⟨wq1, hw1⟩ : ∃ y, (wx.alloc (.cells #[.slice (some ⟨gA, 0, none⟩) r.places.length ca] 25)).drew = y := ⟨_, rfl⟩
                  rw [hw1] at hN1 hX1 ⊢
                  have hT1 := hTx.ext hX1
                  have hQ1 := own_ext ho2x hX1
                  have hS1 := hX1.size
                  have hP1 := own_ext ho1x hX1
                  refine hK.out _ _ ⟨fun _ => hT1.cell, ?_⟩
                  clear hK K; clear hL; rename Shutb _ _ => hL
                  (try simp only [Act.put, List.setIfInBounds_toArray, List.set_cons_zero, List.set_cons_succ])
                  refine late_two (i := 4) (j := 8) (by kernel_rfl) hL (fun hL' => ?_) (fun hL' => ?_)
                  · refine wpOp_step rfl (fun K hK0 => ?_)
                    have hK : Shut _ := hK0
                    clear hK0
                    refine step_append_row _ rfl _ _ rfl wr.heap.size (.slice av1 L1.length cv1) L1.length _ (.slice (some ⟨gA, 0, none⟩) r.places.length ca) (wx.heap.size) rfl rfl hP1 hN1 rfl (by omega) (by have := hOfx.size; omega) ?_
                    intro v5 wq2 hn5 hg5 hat5
                    have hT2 := hT1.grown hg5 (own_base hP1) hbTr
                    have hQ2 := hQ1.kept hg5 (apart_ne HDIS.out)
                    have hS2 := hg5.size
                    refine hK.out _ _ ⟨fun _ => hT2.cell, ?_⟩
                    clear hK K; clear hL; rename Shutb _ _ => hL
                    (try simp only [Act.put, List.setIfInBounds_toArray, List.set_cons_zero, List.set_cons_succ])
                    refine late_early (i := 10) (v := ?_) rfl (by kernel_rfl) (by kernel_rfl) (by kernel_rfl) (by decide) (by kernel_rfl) (fun _ _ _ h => h) hL (Or.inl ⟨by rfl, ?_⟩) (fun _ => hT2.cell) (fun hL' => ?_)
                    rotate_left
                    · intro y hy; have g1 := hy rfl; go_simp; (try with_reducible rfl)
                    clear hL; rename Shutb _ _ => hL
                    (try simp only [Act.put, List.setIfInBounds_toArray, List.set_cons_zero, List.set_cons_succ])
                    refine late_one (i := 8) (by kernel_rfl) hL (fun hL' => ?_)
                    refine wpOp_step rfl (fun K hK0 => ?_)
                    have hK : Shut _ := hK0
                    clear hK0
                    go_simp
                    have hN3 : Blk (wq2.alloc (.cells #[.slice (some ⟨gB, 0, none⟩) r.places.length cb] 25)) wq2.heap.size #[.slice (some ⟨gB, 0, none⟩) r.places.length cb] 25 := Blk.new wq2 _ _
                    have hX3 : Ext (wq2) (wq2.alloc (.cells #[.slice (some ⟨gB, 0, none⟩) r.places.length cb] 25)) := ((Ext.refl wq2).alloc (.cells #[.slice (some ⟨gB, 0, none⟩) r.places.length cb] 25))
                    obtain ⟨wq3, hw3⟩ : ∃ y, wq2.alloc (.cells #[.slice (some ⟨gB, 0, none⟩) r.places.length cb] 25) = y := ⟨_, rfl⟩
                    rw [hw3] at hN3 hX3 ⊢
                    have hT3 := hT2.ext hX3
                    have hQ3 := own_ext hQ2 hX3
                    have hS3 := hX3.size
                    refine hK.out _ _ ⟨fun _ => hT3.cell, ?_⟩
                    clear hK K; clear hL; rename Shutb _ _ => hL
                    (try simp only [Act.put, List.setIfInBounds_toArray, List.set_cons_zero, List.set_cons_succ])
                    refine late_one (i := 9) (by kernel_rfl) hL (fun hL' => ?_)
                    refine wpOp_step rfl (fun K hK0 => ?_)
                    have hK : Shut _ := hK0
                    clear hK0
                    refine step_append_row _ rfl _ _ rfl wr.heap.size (.slice av2 L2.length cv2) L2.length _ (.slice (some ⟨gB, 0, none⟩) r.places.length cb) (wq2.heap.size) rfl rfl hQ3 hN3 rfl (by omega) (by have := hOfx.size; omega) ?_
                    intro v6 wq4 hn6 hg6 hat6
                    have hT4 := hT3.grown hg6 (own_base hQ3) hbTr
                    refine hK.out _ _ ⟨fun _ => hT4.cell, ?_⟩
                    clear hK K; clear hL; rename Shutb _ _ => hL
                    (try simp only [Act.put, List.setIfInBounds_toArray, List.set_cons_zero, List.set_cons_succ])
                    have hfin := pair_all hTx hbTr (Nat.le_refl _) ho1x ho2x HDIS.out HA1x.out HA2x.out hRA hRB ((Ext.refl wx).trans hX1) hg5 hn5 hat5 ((Ext.refl _).trans hX3) hg6 hn6 hat6 hOfx
                    have hTu := hT4
                    obtain ⟨gN, capN, rfl⟩ := own_succ hn5
                    obtain ⟨gM, capM, rfl⟩ := own_succ hn6
                    have f1 := hTu.free
                    have f2 := hTu.lt
                    refine late_one (i := 11) (by kernel_rfl) hL (fun hL' => ?_)
                    refine wpOp_step rfl (fun K hK0 => ?_)
                    have hK : Shut _ := hK0
                    clear hK0
                    have f0 := hTu.cell
                    go_simp
                    have hTv := hTu.set 1 (.slice (some ⟨gN, 0, none⟩) (L1.length + 1) capN)
                    refine hK.out _ _ ⟨fun e => absurd (e : true = false) (by decide), ?_⟩
                    clear hK K; clear hL; rename Shutb _ _ => hL
                    (try simp only [Act.put, List.setIfInBounds_toArray, List.set_cons_zero, List.set_cons_succ])
                    clear f1 f2
                    refine late_one (i := 12) (by kernel_rfl) hL (fun hL' => ?_)
                    refine wpOp_step rfl (fun K hK0 => ?_)
                    have hK : Shut _ := hK0
                    clear hK0
                    go_simp
                    refine hK.out _ _ ⟨fun e => absurd (e : true = false) (by decide), ?_⟩
                    clear hK K; clear hL; rename Shutb _ _ => hL
                    (try simp only [Act.put, List.setIfInBounds_toArray, List.set_cons_zero, List.set_cons_succ])
                    have f1 := hTv.free
                    have f2 := hTv.lt
                    refine late_one (i := 13) (by kernel_rfl) hL (fun hL' => ?_)
                    refine wpOp_step rfl (fun K hK0 => ?_)
                    have hK : Shut _ := hK0
                    clear hK0
                    have f0 := hTv.cell
                    go_simp
                    refine hK.out _ _ ⟨fun e => absurd (e : true = false) (by decide), ?_⟩
                    clear hK K; clear hL; rename Shutb _ _ => hL
                    (try simp only [Act.put, List.setIfInBounds_toArray, List.set_cons_zero, List.set_cons_succ])
                    refine late_done (by kernel_rfl) ?_
                    (try dsimp only [Exit.then])
                    clear f1 f2 hTv hTu
                    obtain ⟨r1, r2, r3, r4, r5, r6, r7⟩ := hfin
                    obtain ⟨wz, hwz⟩ : ∃ wz, (wq4.setCell ⟨bT, 1, none⟩ (.slice (some ⟨gN, 0, none⟩) (L1.length + 1) capN)).setCell ⟨bT, 2, none⟩ (.slice (some ⟨gM, 0, none⟩) (L2.length + 1) capM) = wz := ⟨_, rfl⟩
                    rw [hwz] at r1 r2 r4 r5 r6 r7 ⊢
                    have R4 := Lib.hid r4
                    have R5 := Lib.hid r5
                    have R3 := Lib.hid r3
                    clear r3 r4 r5 hwz
                    go_wp2
                    go_roundw
                    case rel => exact ⟨s + 1, _, _, _, _, by omega, by go_num, by simp [HL1.out], by simp [HL2.out], by simpa using r1, by simpa using r2, R3.out, R4.out, R5.out, by rw [List.map_append, HF1.out, List.range_succ, List.map_append]; rfl, by rw [List.map_append, HF2.out, List.range_succ, List.map_append]; rfl, r6, r7⟩
                    case measure => simp [intOf]; omega
                  · refine wpOp_step rfl (fun K hK0 => ?_)
                    have hK : Shut _ := hK0
                    clear hK0
                    go_simp
                    have hN2 : Blk (wq1.alloc (.cells #[.slice (some ⟨gB, 0, none⟩) r.places.length cb] 25)) wq1.heap.size #[.slice (some ⟨gB, 0, none⟩) r.places.length cb] 25 := Blk.new wq1 _ _
                    have hX2 : Ext (wq1) (wq1.alloc (.cells #[.slice (some ⟨gB, 0, none⟩) r.places.length cb] 25)) := ((Ext.refl wq1).alloc (.cells #[.slice (some ⟨gB, 0, none⟩) r.places.length cb] 25))
                    obtain ⟨wq2, hw2⟩ : ∃ y, wq1.alloc (.cells #[.slice (some ⟨gB, 0, none⟩) r.places.length cb] 25) = y := ⟨_, rfl⟩
                    rw [hw2] at hN2 hX2 ⊢
                    have hT2 := hT1.ext hX2
                    have hQ2 := own_ext hQ1 hX2
                    have hS2 := hX2.size
                    have hP2 := own_ext hP1 hX2
                    have hN2A := hN1.ext hX2
                    refine hK.out _ _ ⟨fun _ => hT2.cell, ?_⟩
                    clear hK K; clear hL; rename Shutb _ _ => hL
                    (try simp only [Act.put, List.setIfInBounds_toArray, List.set_cons_zero, List.set_cons_succ])
                    refine late_one (i := 4) (by kernel_rfl) hL (fun hL' => ?_)
                    refine wpOp_step rfl (fun K hK0 => ?_)
                    have hK : Shut _ := hK0
                    clear hK0
                    refine step_append_row _ rfl _ _ rfl wr.heap.size (.slice av1 L1.length cv1) L1.length _ (.slice (some ⟨gA, 0, none⟩) r.places.length ca) (wx.heap.size) rfl rfl hP2 hN2A rfl (by omega) (by have := hOfx.size; omega) ?_
                    intro v5 wq3 hn5 hg5 hat5
                    have hT3 := hT2.grown hg5 (own_base hP2) hbTr
                    have hQ3 := hQ2.kept hg5 (apart_ne HDIS.out)
                    have hS3 := hg5.size
                    have hN3B : Blk wq3 (wq1.heap.size) #[.slice (some ⟨gB, 0, none⟩) r.places.length cb] 25 := (hg5.block _ hN2.lt (fun e => by have := (ho1x.lt _ e.symm).2; omega)).trans hN2
                    refine hK.out _ _ ⟨fun _ => hT3.cell, ?_⟩
                    clear hK K; clear hL; rename Shutb _ _ => hL
                    (try simp only [Act.put, List.setIfInBounds_toArray, List.set_cons_zero, List.set_cons_succ])
                    refine late_early (i := 10) (v := ?_) rfl (by kernel_rfl) (by kernel_rfl) (by kernel_rfl) (by decide) (by kernel_rfl) (fun _ _ _ h => h) hL (Or.inl ⟨by rfl, ?_⟩) (fun _ => hT3.cell) (fun hL' => ?_)
                    rotate_left
                    · intro y hy; have g1 := hy rfl; go_simp; (try with_reducible rfl)
                    clear hL; rename Shutb _ _ => hL
                    (try simp only [Act.put, List.setIfInBounds_toArray, List.set_cons_zero, List.set_cons_succ])
                    refine late_one (i := 9) (by kernel_rfl) hL (fun hL' => ?_)
                    refine wpOp_step rfl (fun K hK0 => ?_)
                    have hK : Shut _ := hK0
                    clear hK0
                    refine step_append_row _ rfl _ _ rfl wr.heap.size (.slice av2 L2.length cv2) L2.length _ (.slice (some ⟨gB, 0, none⟩) r.places.length cb) (wq1.heap.size) rfl rfl hQ3 hN3B rfl (by omega) (by have := hOfx.size; omega) ?_
                    intro v6 wq4 hn6 hg6 hat6
                    have hT4 := hT3.grown hg6 (own_base hQ3) hbTr
                    refine hK.out _ _ ⟨fun _ => hT4.cell, ?_⟩
                    clear hK K; clear hL; rename Shutb _ _ => hL
                    (try simp only [Act.put, List.setIfInBounds_toArray, List.set_cons_zero, List.set_cons_succ])
                    have hfin := pair_all hTx hbTr (Nat.le_refl _) ho1x ho2x HDIS.out HA1x.out HA2x.out hRA hRB (((Ext.refl wx).trans hX1).trans hX2) hg5 hn5 hat5 (Ext.refl _) hg6 hn6 hat6 hOfx
                    have hTu := hT4
                    obtain ⟨gN, capN, rfl⟩ := own_succ hn5
                    obtain ⟨gM, capM, rfl⟩ := own_succ hn6
                    have f1 := hTu.free
                    have f2 := hTu.lt
                    refine late_one (i := 11) (by kernel_rfl) hL (fun hL' => ?_)
                    refine wpOp_step rfl (fun K hK0 => ?_)
                    have hK : Shut _ := hK0
                    clear hK0
                    have f0 := hTu.cell
                    go_simp
                    have hTv := hTu.set 1 (.slice (some ⟨gN, 0, none⟩) (L1.length + 1) capN)
                    refine hK.out _ _ ⟨fun e => absurd (e : true = false) (by decide), ?_⟩
                    clear hK K; clear hL; rename Shutb _ _ => hL
                    (try simp only [Act.put, List.setIfInBounds_toArray, List.set_cons_zero, List.set_cons_succ])
                    clear f1 f2
                    refine late_one (i := 12) (by kernel_rfl) hL (fun hL' => ?_)
                    refine wpOp_step rfl (fun K hK0 => ?_)
                    have hK : Shut _ := hK0
                    clear hK0
                    go_simp
                    refine hK.out _ _ ⟨fun e => absurd (e : true = false) (by decide), ?_⟩
                    clear hK K; clear hL; rename Shutb _ _ => hL
                    (try simp only [Act.put, List.setIfInBounds_toArray, List.set_cons_zero, List.set_cons_succ])
                    have f1 := hTv.free
                    have f2 := hTv.lt
                    refine late_one (i := 13) (by kernel_rfl) hL (fun hL' => ?_)
                    refine wpOp_step rfl (fun K hK0 => ?_)
                    have hK : Shut _ := hK0
                    clear hK0
                    have f0 := hTv.cell
                    go_simp
                    refine hK.out _ _ ⟨fun e => absurd (e : true = false) (by decide), ?_⟩
                    clear hK K; clear hL; rename Shutb _ _ => hL
                    (try simp only [Act.put, List.setIfInBounds_toArray, List.set_cons_zero, List.set_cons_succ])
                    refine late_done (by kernel_rfl) ?_
                    (try dsimp only [Exit.then])
                    clear f1 f2 hTv hTu
                    obtain ⟨r1, r2, r3, r4, r5, r6, r7⟩ := hfin
                    obtain ⟨wz, hwz⟩ : ∃ wz, (wq4.setCell ⟨bT, 1, none⟩ (.slice (some ⟨gN, 0, none⟩) (L1.length + 1) capN)).setCell ⟨bT, 2, none⟩ (.slice (some ⟨gM, 0, none⟩) (L2.length + 1) capM) = wz := ⟨_, rfl⟩
                    rw [hwz] at r1 r2 r4 r5 r6 r7 ⊢
                    have R4 := Lib.hid r4
                    have R5 := Lib.hid r5
                    have R3 := Lib.hid r3
                    clear r3 r4 r5 hwz
                    go_wp2
                    go_roundw
                    case rel => exact ⟨s + 1, _, _, _, _, by omega, by go_num, by simp [HL1.out], by simp [HL2.out], by simpa using r1, by simpa using r2, R3.out, R4.out, R5.out, by rw [List.map_append, HF1.out, List.range_succ, List.map_append]; rfl, by rw [List.map_append, HF2.out, List.range_succ, List.map_append]; rfl, r6, r7⟩
                    case measure => simp [intOf]; omega
                · refine wpOp_step rfl (fun K hK0 => ?_)
                  have hK : Shut _ := hK0
                  clear hK0
                  go_simp
                  have hN1 : Blk ((wx.alloc (.cells #[.slice (some ⟨gB, 0, none⟩) r.places.length cb] 25)).drew) wx.heap.size #[.slice (some ⟨gB, 0, none⟩) r.places.length cb] 25 := Blk.new wx _ _
                  have hX1 : Ext (wx) ((wx.alloc (.cells #[.slice (some ⟨gB, 0, none⟩) r.places.length cb] 25)).drew) := ((Ext.refl wx).alloc (.cells #[.slice (some ⟨gB, 0, none⟩) r.places.length cb] 25)).drew
                  obtain ⟨wq1, hw1⟩ : ∃ y, (wx.alloc (.cells #[.slice (some ⟨gB, 0, none⟩) r.places.length cb] 25)).drew = y := ⟨_, rfl⟩
                  rw [hw1] at hN1 hX1 ⊢
                  have hT1 := hTx.ext hX1
                  have hQ1 := own_ext ho2x hX1
                  have hS1 := hX1.size
                  have hP1 := own_ext ho1x hX1
                  refine hK.out _ _ ⟨fun _ => hT1.cell, ?_⟩
                  clear hK K; clear hL; rename Shutb _ _ => hL
                  (try simp only [Act.put, List.setIfInBounds_toArray, List.set_cons_zero, List.set_cons_succ])
                  refine late_one (i := 3) (by kernel_rfl) hL (fun hL' => ?_)
                  refine wpOp_step rfl (fun K hK0 => ?_)
                  have hK : Shut _ := hK0
                  clear hK0
                  go_simp
                  have hN2 : Blk (wq1.alloc (.cells #[.slice (some ⟨gA, 0, none⟩) r.places.length ca] 25)) wq1.heap.size #[.slice (some ⟨gA, 0, none⟩) r.places.length ca] 25 := Blk.new wq1 _ _
                  have hX2 : Ext (wq1) (wq1.alloc (.cells #[.slice (some ⟨gA, 0, none⟩) r.places.length ca] 25)) := ((Ext.refl wq1).alloc (.cells #[.slice (some ⟨gA, 0, none⟩) r.places.length ca] 25))
                  obtain ⟨wq2, hw2⟩ : ∃ y, wq1.alloc (.cells #[.slice (some ⟨gA, 0, none⟩) r.places.length ca] 25) = y := ⟨_, rfl⟩
                  rw [hw2] at hN2 hX2 ⊢
                  have hT2 := hT1.ext hX2
                  have hQ2 := own_ext hQ1 hX2
                  have hS2 := hX2.size
                  have hP2 := own_ext hP1 hX2
                  have hN2B := hN1.ext hX2
                  refine hK.out _ _ ⟨fun _ => hT2.cell, ?_⟩
                  clear hK K; clear hL; rename Shutb _ _ => hL
                  (try simp only [Act.put, List.setIfInBounds_toArray, List.set_cons_zero, List.set_cons_succ])
                  refine late_one (i := 4) (by kernel_rfl) hL (fun hL' => ?_)
                  refine wpOp_step rfl (fun K hK0 => ?_)
                  have hK : Shut _ := hK0
                  clear hK0
                  refine step_append_row _ rfl _ _ rfl wr.heap.size (.slice av1 L1.length cv1) L1.length _ (.slice (some ⟨gA, 0, none⟩) r.places.length ca) (wq1.heap.size) rfl rfl hP2 hN2 rfl (by omega) (by have := hOfx.size; omega) ?_
                  intro v5 wq3 hn5 hg5 hat5
                  have hT3 := hT2.grown hg5 (own_base hP2) hbTr
                  have hQ3 := hQ2.kept hg5 (apart_ne HDIS.out)
                  have hS3 := hg5.size
                  have hN3B : Blk wq3 (wx.heap.size) #[.slice (some ⟨gB, 0, none⟩) r.places.length cb] 25 := (hg5.block _ hN2B.lt (fun e => by have := (ho1x.lt _ e.symm).2; omega)).trans hN2B
                  refine hK.out _ _ ⟨fun _ => hT3.cell, ?_⟩
                  clear hK K; clear hL; rename Shutb _ _ => hL
                  (try simp only [Act.put, List.setIfInBounds_toArray, List.set_cons_zero, List.set_cons_succ])
                  refine late_early (i := 10) (v := ?_) rfl (by kernel_rfl) (by kernel_rfl) (by kernel_rfl) (by decide) (by kernel_rfl) (fun _ _ _ h => h) hL (Or.inl ⟨by rfl, ?_⟩) (fun _ => hT3.cell) (fun hL' => ?_)
                  rotate_left
                  · intro y hy; have g1 := hy rfl; go_simp; (try with_reducible rfl)
                  clear hL; rename Shutb _ _ => hL
                  (try simp only [Act.put, List.setIfInBounds_toArray, List.set_cons_zero, List.set_cons_succ])
                  refine late_one (i := 9) (by kernel_rfl) hL (fun hL' => ?_)
                  refine wpOp_step rfl (fun K hK0 => ?_)
                  have hK : Shut _ := hK0
                  clear hK0
                  refine step_append_row _ rfl _ _ rfl wr.heap.size (.slice av2 L2.length cv2) L2.length _ (.slice (some ⟨gB, 0, none⟩) r.places.length cb) (wx.heap.size) rfl rfl hQ3 hN3B rfl (by omega) (by have := hOfx.size; omega) ?_
                  intro v6 wq4 hn6 hg6 hat6
                  have hT4 := hT3.grown hg6 (own_base hQ3) hbTr
                  refine hK.out _ _ ⟨fun _ => hT4.cell, ?_⟩
                  clear hK K; clear hL; rename Shutb _ _ => hL
                  (try simp only [Act.put, List.setIfInBounds_toArray, List.set_cons_zero, List.set_cons_succ])
                  have hfin := pair_all hTx hbTr (Nat.le_refl _) ho1x ho2x HDIS.out HA1x.out HA2x.out hRA hRB (((Ext.refl wx).trans hX1).trans hX2) hg5 hn5 hat5 (Ext.refl _) hg6 hn6 hat6 hOfx
                  have hTu := hT4
                  obtain ⟨gN, capN, rfl⟩ := own_succ hn5
                  obtain ⟨gM, capM, rfl⟩ := own_succ hn6
                  have f1 := hTu.free
                  have f2 := hTu.lt
                  refine late_one (i := 11) (by kernel_rfl) hL (fun hL' => ?_)
                  refine wpOp_step rfl (fun K hK0 => ?_)
                  have hK : Shut _ := hK0
                  clear hK0
                  have f0 := hTu.cell
                  go_simp
                  have hTv := hTu.set 1 (.slice (some ⟨gN, 0, none⟩) (L1.length + 1) capN)
                  refine hK.out _ _ ⟨fun e => absurd (e : true = false) (by decide), ?_⟩
                  clear hK K; clear hL; rename Shutb _ _ => hL
                  (try simp only [Act.put, List.setIfInBounds_toArray, List.set_cons_zero, List.set_cons_succ])
                  clear f1 f2
                  refine late_one (i := 12) (by kernel_rfl) hL (fun hL' => ?_)
                  refine wpOp_step rfl (fun K hK0 => ?_)
                  have hK : Shut _ := hK0
                  clear hK0
                  go_simp
                  refine hK.out _ _ ⟨fun e => absurd (e : true = false) (by decide), ?_⟩
                  clear hK K; clear hL; rename Shutb _ _ => hL
                  (try simp only [Act.put, List.setIfInBounds_toArray, List.set_cons_zero, List.set_cons_succ])
                  have f1 := hTv.free
                  have f2 := hTv.lt
                  refine late_one (i := 13) (by kernel_rfl) hL (fun hL' => ?_)
                  refine wpOp_step rfl (fun K hK0 => ?_)
                  have hK : Shut _ := hK0
                  clear hK0
                  have f0 := hTv.cell
                  go_simp
                  refine hK.out _ _ ⟨fun e => absurd (e : true = false) (by decide), ?_⟩
                  clear hK K; clear hL; rename Shutb _ _ => hL
                  (try simp only [Act.put, List.setIfInBounds_toArray, List.set_cons_zero, List.set_cons_succ])
                  refine late_done (by kernel_rfl) ?_
                  (try dsimp only [Exit.then])
                  clear f1 f2 hTv hTu
                  obtain ⟨r1, r2, r3, r4, r5, r6, r7⟩ := hfin
                  obtain ⟨wz, hwz⟩ : ∃ wz, (wq4.setCell ⟨bT, 1, none⟩ (.slice (some ⟨gN, 0, none⟩) (L1.length + 1) capN)).setCell ⟨bT, 2, none⟩ (.slice (some ⟨gM, 0, none⟩) (L2.length + 1) capM) = wz := ⟨_, rfl⟩
                  rw [hwz] at r1 r2 r4 r5 r6 r7 ⊢
                  have R4 := Lib.hid r4
                  have R5 := Lib.hid r5
                  have R3 := Lib.hid r3
                  clear r3 r4 r5 hwz
                  go_wp2
                  go_roundw
                  case rel => exact ⟨s + 1, _, _, _, _, by omega, by go_num, by simp [HL1.out], by simp [HL2.out], by simpa using r1, by simpa using r2, R3.out, R4.out, R5.out, by rw [List.map_append, HF1.out, List.range_succ, List.map_append]; rfl, by rw [List.map_append, HF2.out, List.range_succ, List.map_append]; rfl, r6, r7⟩
                  case measure => simp [intOf]; omega
          · obtain rfl : s = mm := by omega
            have hnlt : ¬ (s : Int) < r.seasons := by have := HM.out; omega
            have t0 := hBy.cell
            have t1 := hBy.lt
            have q0 := hB1y.cell
            have q1 := hB1y.free
            have q2 := hB1y.lt
            go_wp2
            have hBR9 := ((hB1y.set 0 (.slice (some ⟨gS, 0, none⟩) r.places.length cv)).set 1 (.slice av1 L1.length cv1)).set 2 (.slice av2 L2.length cv2)
            have hO9 := (((Off.refl (w.heap.size + 1) (w.heap.size + 1) wy).set (a := ⟨w.heap.size + 1, 0, none⟩) (.inl rfl) (.slice (some ⟨gS, 0, none⟩) r.places.length cv)).set (a := ⟨w.heap.size + 1, 1, none⟩) (.inl rfl) (.slice av1 L1.length cv1)).set (a := ⟨w.heap.size + 1, 2, none⟩) (.inl rfl) (.slice av2 L2.length cv2)
            obtain ⟨w9, hw9⟩ : ∃ w9, ((wy.setCell ⟨w.heap.size + 1, 0, none⟩ (.slice (some ⟨gS, 0, none⟩) r.places.length cv)).setCell ⟨w.heap.size + 1, 1, none⟩ (.slice av1 L1.length cv1)).setCell ⟨w.heap.size + 1, 2, none⟩ (.slice av2 L2.length cv2) = w9 := ⟨_, rfl⟩
            rw [hw9] at hBR9 hO9 ⊢
            have hI9 := IRow.ints ((hRS.off hOfy (by omega) (by omega)).off hO9 (by omega) (by omega)) (n := r.places.length) (by simp) cv
            have hG9 := (Lists.of_own (n := w.heap.size) (by omega) (own_off ho1 hO9 (by omega) (by omega)) (fun p hp => (HA1.out p hp).off2 hB1y (by decide) hO9)).lists
            have hK9 := (Lists.of_own (n := w.heap.size) (by omega) (own_off ho2 hO9 (by omega) (by omega)) (fun p hp => (HA2.out p hp).off2 hB1y (by decide) hO9)).lists
            rw [HF1.out] at hG9
            rw [HF2.out] at hK9
            have hms : r.seasons.toNat = s := by have := HM.out; omega
            have eg : (R.endT r plan true).grows = (List.range s).map (fun _ => r.places.map (gF true)) := by rw [endT_grows_eq, hms]
            have ek : (R.endT r plan true).takes = (List.range s).map (fun s => (List.range r.places.length).map (kF r plan true s)) := by rw [endT_takes_eq, hms]
            have es : (R.endT r plan true).starts = r.places.map (sF r true) := rfl
            have c9 := hBR9.cell
            clear q0 q1 t0 hw9
            exact bodyPost_ret (v := .agg #[.slice (some ⟨gS, 0, none⟩) r.places.length cv, .slice av1 L1.length cv1, .slice av2 L2.length cv2]) (by simp [results, Try.results27, go_sem, c9]) rfl ⟨_, _, _, rfl, by rw [es]; exact hI9, by rw [eg]; exact hG9, by rw [ek]; exact hK9, hO9.ext0 hEy (by omega) (by omega)⟩
end Go.Proofs.Ythffoglpekpmdaa
