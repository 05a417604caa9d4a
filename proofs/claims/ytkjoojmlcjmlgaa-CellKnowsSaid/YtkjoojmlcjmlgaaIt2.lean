/- The iterator over all allowed weathers. -/
import Derived.Test.YtkjoojmlcjmlgaaIt
import Derived.Test.YtkjoojmlcjmlgaaLt
import Derived.RangeFuncNested
import Derived.Lib.RabinKarpLaws
import Derived.Laws.IdiomStrings
namespace Go.Proofs.Ytkjoojmlcjmlgaa
set_option linter.unusedVariables false
set_option linter.unusedSimpArgs false
open Go.RowKit Go.Shelf
attribute [local go_sem] Oper.semAt_some
theorem mask_i64 (m : Nat) (hm : m < 63) (x : Int) (h0 : 0 ≤ x) (h1 : x < 9223372036854775808) : bits .and .i64 x (2 ^ m - 1) = x % 2 ^ m :=
  bits_mask .i64 63 (by decide) (fun n h0 h1 => by rw [two63] at h1; rw [IntKind.wrap_i64]; omega) m (by omega) x h0 (by rw [two63]; exact h1)
theorem bit_of (x E : Nat) (h1 : x ≤ 1000000) : bits .and .i64 ((x : Int) / 2 ^ E) 1 = if x / 2 ^ E % 2 = 1 then 1 else 0 := by
  have e0 : ((x : Int) / 2 ^ E) = ((x / 2 ^ E : Nat) : Int) := by rw [Int.natCast_ediv, Int.natCast_pow]; rfl
  have hle : x / 2 ^ E ≤ x := Nat.div_le_self _ _
  have h := mask_i64 1 (by decide) ((x / 2 ^ E : Nat) : Int) (Int.natCast_nonneg _) (by omega)
  have e : ((2 : Int) ^ 1 - 1) = 1 := by decide
  have e2 : ((2 : Int) ^ 1) = 2 := by decide
  rw [e, e2] at h
  rw [e0, h]
  split <;> omega
theorem Ext.grownBy {w w' : World} (h : Ext w w') : w.grownBy w' none := ⟨h.os, h.tape, h.output, h.size, fun k hk _ => h.block k hk⟩
/-- An allowed weather. -/
abbrev Wt (c : C.Sys) := { x : ByteArray // x.data.toList ∈ C.weathers c }
def Wt.txt {c : C.Sys} (x : Wt c) : C.Txt := x.1.data.toList
def encW {c : C.Sys} (x : Wt c) : Array Value := #[.string x.1]
/-- The allowed ones of the first k texts. -/
def textsTo (c : C.Sys) (N k : Nat) : List C.Txt := ((List.range k).map (C.textOf N)).filter (C.allowed c)
theorem textsTo_succ (c : C.Sys) (N k : Nat) : textsTo c N (k + 1) = textsTo c N k ++ if C.allowed c (C.textOf N k) then [C.textOf N k] else [] := by
  unfold textsTo; rw [List.range_succ, List.map_append, List.filter_append]; by_cases h : C.allowed c (C.textOf N k) = true <;> simp [h]
theorem textsTo_all (c : C.Sys) {N : Nat} (h : c.days.toNat = N) : textsTo c N (2 ^ N) = C.weathers c := by
  unfold textsTo C.weathers C.texts; rw [h]
theorem textsTo_pre (c : C.Sys) (N : Nat) {k m : Nat} (h : k ≤ m) : textsTo c N k <+: textsTo c N m := by
  unfold textsTo
  refine List.IsPrefix.filter _ (List.IsPrefix.map _ ?_)
  refine ⟨List.range' k (m - k), ?_⟩
  rw [List.range_eq_range', List.range_eq_range']
  have h2 := List.range'_append_1 (s := 0) (m := k) (n := m - k)
  rw [Nat.zero_add] at h2
  rw [h2]
  congr 1; omega
theorem textOf_len : ∀ (n x : Nat), (C.textOf n x).length = n
  | 0, _ => rfl
  | n + 1, x => by unfold C.textOf; rw [List.length_append, textOf_len n]; rfl
theorem textOf_letters : ∀ (n x : Nat), ∀ y ∈ C.textOf n x, y = 115 ∨ y = 99
  | 0, _, y, h => by cases h
  | n + 1, x, y, h => by
    unfold C.textOf at h
    rw [List.mem_append] at h
    rcases h with h | h
    · exact textOf_letters n _ y h
    · split at h <;> simp at h <;> simp [h]
/-- Bytes as cells. -/
def bytesV (l : List UInt8) : List Value := l.map fun y => .int .u8 (y.toNat : Int)
def Keep1 (n b : Nat) (A B : World) : Prop := Below n A B ∧ B.heap[b]? = A.heap[b]?
theorem Keep1.trans {n b : Nat} {A B C : World} (h : Keep1 n b A B) (k : Keep1 n b B C) : Keep1 n b A C := ⟨h.1.trans k.1, k.2.trans h.2⟩
theorem Keep1.rec_ {n b : Nat} {w : World} (hn : n ≤ w.heap.size) (h1 : b < w.heap.size) (Y : World) (l : Nat) (o o' : Obj) (hl : w.heap.size ≤ l) (h : Y.heap[l]? = some o) (hc : o.isCells = false) (hw : o.isWalk = false) : Keep1 n b Y (Y.putObj l o') := by
  have hs := (Array.getElem?_eq_some_iff.1 h).1
  exact ⟨belowK_b hn Y l o o' hl h hc hw, (grownBy_putObj' Y l o').block b (by omega) (by simp; omega)⟩
theorem byte_info : (Try.prog.info? 5).map (fun i => (i.zero, i.size, i.bytes)) = some (some (.int .u8 0), 1, 1) := by kernel_rfl
set_option maxRecDepth 100000 in
theorem wrap_small (Q : Nat) (h : Q ≤ 1024) : wrap64 (Q : Int) = (Q : Int) := by
  exact IntWalk.wrap64_in (Q : Int) ⟨by omega, by omega⟩
theorem weathers_any (c : C.Sys) (vl : Value) (hvl : ∃ a n k, vl = .slice a n k) (w : World) :
    Calls Try.prog 54 #[.agg (sysV c vl)] w fun e w' => e = .returned (.func (.func 74) #[] #[.pointer (some ⟨w.heap.size, 0, none⟩)]) ∧ Blk w' w.heap.size (sysV c vl) 24 ∧ Ext w w' := by
  obtain ⟨a, n, k, rfl⟩ := hvl
  go_enter Try.func54, Try.ntmps54
  go_wp2
  go_ret
  exact ⟨rfl, Blk.new' (by simp) _ _, by (with_reducible (repeat (first | exact Ext.refl _ | assumption | apply Ext.alloc | apply Ext.drew | exact ext_plus _ _ | (apply Ext.setCell; rotate_left; (simp <;> omega)) | (apply Ext.trans; rotate_left; exact ext_plus _ _) | (apply Ext.trans; rotate_left; assumption))))⟩
set_option maxRecDepth 100000 in
set_option maxHeartbeats 8000000 in
theorem weathers_stops (c : C.Sys) (vl : Value) (hvl : ∃ a n k, vl = .slice a n k) (O : C.Ok c) (w0 w1 : World) (h01 : Ext w0 w1) (bx n : Nat) (hn1 : 1 ≤ n) (hbx : Blk w1 bx (sysV c vl) 24) :
    SeqStopsK Fence.wide n Try.prog 74 #[.pointer (some ⟨bx, 0, none⟩)] encW (Keep1 w0.heap.size bx) (fun xs : List (Wt c) => xs.map Wt.txt = C.weathers c) (fun xs => xs.map Wt.txt <+: C.weathers c) 1024 w1 := fun l J Jx Y hY0 hJ hJx hY h0 => by
  obtain ⟨al, nl, kl, rfl⟩ := hvl
  have hd1 := O.d1
  have hd10 := O.d10
  obtain ⟨N, hN⟩ : ∃ N : Nat, c.days = N := ⟨c.days.toNat, by omega⟩
  have hNt : c.days.toNat = N := by omega
  have hN10 : N ≤ 10 := by omega
  have hN1 : 1 ≤ N := by omega
  have hp : 2 ^ N ≤ 1024 := Nat.pow_le_pow_right (by decide) hN10
  have HN := Lib.hid hN
  have HNT := Lib.hid hNt
  have HO := Lib.hid O
  have hB0 := Blk.ext hbx hY0
  have k0 := hB0.cell
  have k1 := hB0.lt
  clear hN hNt O
  obtain ⟨i0, hi, hz0, hz1, hz2⟩ := info_parts byte_info
  refine callsIn_of_wp Try.func74 rfl trivial ?_ rfl
  simp only [Try.ntmps74, List.size_toArray, List.length_cons, List.length_nil, Nat.reduceAdd, Nat.reduceSub, Array.replicate_succ, Array.replicate_zero, List.push_toArray, List.append_toArray, List.nil_append, List.cons_append]
  unfold sysV at k0
  rw [HN.out] at k0
  gi_wp2
  obtain ⟨Q, hQ⟩ : ∃ Q : Nat, 2 ^ N = Q := ⟨_, rfl⟩
  have hpw : wrap64 ((2 : Int) ^ N) = (Q : Int) := by
    have e : ((2 : Int) ^ N) = ((2 ^ N : Nat) : Int) := by rw [Int.natCast_pow]; rfl
    have hp2 := hp
    rw [hQ] at hp2
    rw [e, hQ]
    exact wrap_small Q hp2
  rw [hpw]
  rw [hQ] at hp
  have HQ := Lib.hid hQ
  clear hpw hQ k0 k1
  have hJ' : ∀ p A B, J p A → Ext A B → J p B := fun p A B hp hAB => hJ p A B none hp hAB.grownBy (fun r e => by cases e)
  have HJ := Lib.hid hJ'
  have HY := Lib.hid hY
  clear hJ' hJ hY
  gi_loopw [4, 5, 6, 7, 11, 16] (fun _ _ _ _ i _ wr => ∃ (k : Nat) (pre : List (Wt c)), k ≤ Q ∧ i = .int .i64 k ∧ pre.map Wt.txt = textsTo c N k ∧ pre.length ≤ k ∧ J pre wr ∧ Ext w0 wr ∧ Blk wr bx (sysV c (.slice al nl kl)) 24) (fun _ _ _ _ i _ _ => Q - (intOf i).toNat)
  case atStart => exact ⟨0, [], Nat.zero_le _, rfl, rfl, Nat.le_refl _, h0, Ext.trans h01 hY0, hB0⟩
  case round =>
    rename World => wr
    obtain ⟨k, pre, hk, rfl, hpre, hlen, hJk, hEk, hBk⟩ := hrel
    have HPRE := Lib.hid hpre
    clear hpre hB0
    by_cases hlt : k < Q
    · have k0 := hBk.cell
      have k1 := hBk.lt
      unfold sysV at k0
      rw [HN.out] at k0
      gi_wp2
      gi_loopw [4, 5, 6, 16] (fun b _ _ i wy => ∃ d : Nat, d ≤ N ∧ i = .int .i64 d ∧ wy.ownsRow wr.heap.size 5 1 b d (bytesV (C.textOf d (k / 2 ^ (N - d)))) ∧ Ext wr wy) (fun _ _ _ i _ => N - (intOf i).toNat)
      case atStart => exact ⟨0, Nat.zero_le _, rfl, World.ownsRow_nil _ _ _ _, Ext.refl _⟩
      case round =>
        rename World => wy
        rename Value => vb
        obtain ⟨d, hd, rfl, hown, hEy⟩ := hrel
        have hky := fun o => (hEy.cells.1 bx o k1).trans (k0 o)
        have hly := Nat.lt_of_lt_of_le k1 hEy.size
        by_cases hdl : d < N
        · obtain ⟨E, hE⟩ : ∃ E : Nat, N - 1 - d = E := ⟨_, rfl⟩
          have hEI : (N : Int) - 1 - (d : Int) = (E : Int) := by omega
          have hE1 : N - d = E + 1 := by omega
          have hE2 : N - (d + 1) = E := by omega
          have hbit := bit_of k E (by omega)
          have hto : C.textOf (d + 1) (k / 2 ^ E) = C.textOf d (k / 2 ^ (E + 1)) ++ [if k / 2 ^ E % 2 = 1 then 99 else 115] := by
            show C.textOf d (k / 2 ^ E / 2) ++ _ = _
            rw [Nat.div_div_eq_div_mul, ← Nat.pow_succ]
          rw [hE1] at hown
          have HTO := Lib.hid hto
          have HE2 := Lib.hid hE2
          clear hto hE hE1 hE2
          by_cases hq : k / 2 ^ E % 2 = 1
          · rw [if_pos hq] at hbit HTO
            clear hq
            gi_wp2_with (gi_at_builtin; refine wpListIn_append_own _ rfl _ _ 124 rfl (wr.heap.size) 5 i0 (.int .u8 0) 1 1 Try.underlying124 hi hz0 hz1 hz2 rfl (by decide) _ _ _ rfl (hown.alloc _) ⟨wy.heap.size, 0, none⟩ 1 1 [.int .u8 99] rfl rfl (cell_one _ _ _ (by simp)) (by intro u hu; simp at hu; subst hu; rfl) (by unfold maxLen; omega) (by omega) (by have := hEy.size; simp; omega) ?_; intro v' w3 hown' hgrow _)
            have hE3 : Ext wr w3 := Ext.grown (hEy.alloc _) hgrow (own_base hown)
            go_roundw
            case rel =>
              refine ⟨d + 1, by omega, by go_num, ?_, hE3⟩
              have e9 : bytesV (C.textOf (d + 1) (k / 2 ^ (N - (d + 1)))) = bytesV (C.textOf d (k / 2 ^ (E + 1))) ++ [.int .u8 99] := by rw [HE2.out, HTO.out]; unfold bytesV; rw [List.map_append]; rfl
              rw [e9]; exact hown'
            case measure => simp [intOf]; omega
          · rw [if_neg hq] at hbit HTO
            clear hq
            gi_wp2_with (gi_at_builtin; refine wpListIn_append_own _ rfl _ _ 124 rfl (wr.heap.size) 5 i0 (.int .u8 0) 1 1 Try.underlying124 hi hz0 hz1 hz2 rfl (by decide) _ _ _ rfl (hown.alloc _) ⟨wy.heap.size, 0, none⟩ 1 1 [.int .u8 115] rfl rfl (cell_one _ _ _ (by simp)) (by intro u hu; simp at hu; subst hu; rfl) (by unfold maxLen; omega) (by omega) (by have := hEy.size; simp; omega) ?_; intro v' w3 hown' hgrow _)
            have hE3 : Ext wr w3 := Ext.grown (hEy.alloc _) hgrow (own_base hown)
            go_roundw
            case rel =>
              refine ⟨d + 1, by omega, by go_num, ?_, hE3⟩
              have e9 : bytesV (C.textOf (d + 1) (k / 2 ^ (N - (d + 1)))) = bytesV (C.textOf d (k / 2 ^ (E + 1))) ++ [.int .u8 115] := by rw [HE2.out, HTO.out]; unfold bytesV; rw [List.map_append]; rfl
              rw [e9]; exact hown'
            case measure => simp [intOf]; omega
        · obtain rfl : N = d := by omega
          obtain ⟨g, cap, rfl, hgb, hgl⟩ := own_pos hown (by omega)
          have hto : C.textOf N (k / 2 ^ (N - N)) = C.textOf N k := by rw [Nat.sub_self, Nat.pow_zero, Nat.div_one]
          rw [hto] at hown
          have hlen9 := textOf_len N k
          have hcells := fun j (hj : j < (C.textOf N k).length) => hown.cells (g := g) rfl j (.int .u8 ((C.textOf N k)[j].toNat : Int)) (by simp [bytesV, hj])
          have hcv := run_convert_bytes_back (P := Try.prog) wy 124 9 5 ⟨g, 0, none⟩ cap (C.textOf N k) Try.underlying124 Try.underlying5 Try.underlying9 hcells
          rw [hlen9] at hcv
          have hE0y := Ext.trans hEk hEy
          clear hcells hown hto
          have hal := allowed_any c ⟨(C.textOf N k).toArray⟩ (.slice al nl kl) ⟨_, _, _, rfl⟩ wy (by rw [HN.out]; show (((C.textOf N k).toArray.size : Nat) : Int) = _; simp [hlen9]) (by rw [HN.out]; omega) HO.out.w1 HO.out.wd (by
            intro y hy
            rcases textOf_letters N k y (by simpa using hy) with rfl | rfl <;> decide)
          have hte : (⟨(C.textOf N k).toArray⟩ : ByteArray).data.toList = C.textOf N k := by simp
          rw [hte] at hal
          unfold sysV at hal
          rw [HN.out] at hal
          have HAL := Lib.hid hal
          have HTE := Lib.hid hte
          clear hal hte hlen9
          obtain ⟨B, hB⟩ : ∃ B, C.allowed c (C.textOf N k) = B := ⟨_, rfl⟩
          have hAL := HAL.out
          rw [hB] at hAL
          have HAL2 := Lib.hid hAL
          have HBB := Lib.hid hB
          clear hAL hB
          have hTS : textsTo c N (k + 1) = textsTo c N k ++ if B then [C.textOf N k] else [] := by rw [textsTo_succ, HBB.out]
          have HTS := Lib.hid hTS
          clear hTS
          have hBy := hBk.ext hEy
          cases B with
          | false =>
            gi_wp2_with (first | (refine ⟨trivial, ?_⟩; gi_at_call 75; refine (callsIn_wide.2 HAL2.out).mono ?_; rintro e wz ⟨rfl, hEz⟩))
            refine ⟨fun _ h => (by cases h), ?_⟩
            gi_wp2
            go_roundw
            case rel => exact ⟨k + 1, pre, by omega, by go_num, by rw [HPRE.out, HTS.out]; simp, by omega, HJ.out _ _ _ hJk (hEy.trans hEz), hE0y.trans hEz, hBy.ext hEz⟩
            case measure => simp [intOf]; omega
          | true =>
            have hmem : C.textOf N k ∈ C.weathers c := by
              rw [← textsTo_all c HNT.out, HQ.out]
              refine (textsTo_pre c N (show k + 1 ≤ Q by omega)).subset ?_
              rw [HTS.out]; simp
            have hxm : (⟨(C.textOf N k).toArray⟩ : ByteArray).data.toList ∈ C.weathers c := by rw [HTE.out]; exact hmem
            have hpx : (pre ++ [(⟨⟨(C.textOf N k).toArray⟩, hxm⟩ : Wt c)]).map Wt.txt = textsTo c N (k + 1) := by
              rw [List.map_append, HPRE.out, HTS.out]
              simp only [List.map_cons, List.map_nil, if_true]
              rw [show Wt.txt (⟨⟨(C.textOf N k).toArray⟩, hxm⟩ : Wt c) = C.textOf N k from HTE.out]
            have HPX := Lib.hid hpx
            have HY2 := Lib.hid (fun W3 hJ3 => HY.out pre ⟨⟨(C.textOf N k).toArray⟩, hxm⟩ W3 hJ3 (by omega))
            clear hmem hpx
            gi_wp2_with (first | (refine ⟨trivial, ?_⟩; gi_at_call 75; refine (callsIn_wide.2 HAL2.out).mono ?_; rintro e wz ⟨rfl, hEz⟩; obtain ⟨fn, tmps, assign, body, hy, hR⟩ := HY2.out wz (HJ.out _ _ _ hJk (hEy.trans hEz)); dsimp only [encW] at hy))
            refine hR.mono ?_
            rintro e W3 (⟨rfl, hJ3, hk3⟩ | ⟨rfl, hJx3⟩)
            · gi_wp2
              go_roundw
              case rel => exact ⟨k + 1, _, by omega, by go_num, HPX.out, by simp; omega, hJ3, Below.trans (hE0y.trans hEz) hk3.1, hk3.2.trans (hBy.ext hEz)⟩
              case measure => simp [intOf]; omega
            · gi_wp2
              refine bodyPost_ret (results_none rfl _ _ _) rfl ?_
              exact ⟨⟨_, rfl⟩, .inr ⟨_, by rw [HPX.out, ← textsTo_all c HNT.out, HQ.out]; exact textsTo_pre c N (by omega), hJx3⟩⟩
    · obtain rfl : k = Q := by omega
      gi_wp2
      go_end0
      exact ⟨⟨_, rfl⟩, .inl ⟨pre, by rw [HPRE.out, ← HQ.out]; exact textsTo_all c HNT.out, hJk⟩⟩
/-! What abides the book-keeping of a loop. -/
theorem Blk.kept {A B : World} {row : Option Nat} {b : Nat} {cs : Array Value} {e : TypeId} (h : Blk A b cs e) (hg : A.grownBy B row) (hr : ∀ r, row = some r → ∃ o : Obj, A.heap[r]? = some o ∧ o.isCells = false) : Blk B b cs e :=
  (hg.block b h.lt (fun e' => by obtain ⟨o, ho, hc⟩ := hr b e'.symm; rw [show A.heap[b]? = _ from h] at ho; cases ho; cases hc)).trans h
theorem own_move {w w' : World} {base : Nat} {e : TypeId} {s : Nat} {v : Value} {n : Nat} {xs : List Value} (h : w.ownsRow base e s v n xs) (hm : ∀ (g : Nat) (cur : Array Value), base ≤ g → w.heap[g]? = some (.cells cur e (0, 0)) → w'.heap[g]? = w.heap[g]?) : w'.ownsRow base e s v n xs := by
  refine ⟨h.1, ?_⟩
  rcases h.2 with h0 | ⟨g, cap, cur, hv, hb, hg, hr⟩
  · exact .inl h0
  · exact .inr ⟨g, cap, cur, hv, hb, (hm g cur hb hg).trans hg, hr⟩
theorem own_kept {A B : World} {row : Option Nat} {base : Nat} {e : TypeId} {s : Nat} {v : Value} {n : Nat} {xs : List Value} (h : A.ownsRow base e s v n xs) (hg : A.grownBy B row) (hr : ∀ r, row = some r → ∃ o : Obj, A.heap[r]? = some o ∧ o.isCells = false) : B.ownsRow base e s v n xs :=
  own_move h fun g cur _ hg0 => hg.block g (Array.getElem?_eq_some_iff.1 hg0).1 (fun e' => by obtain ⟨o, ho, hc⟩ := hr g e'.symm; rw [hg0] at ho; cases ho; cases hc)
theorem own_off {A B : World} {br : Nat} {base : Nat} {e : TypeId} {s : Nat} {v : Value} {n : Nat} {xs : List Value} (h : A.ownsRow base e s v n xs) (ho : Off br A B) (hb : br < base) : B.ownsRow base e s v n xs :=
  own_move h fun g cur hg hg0 => ho.block g (Array.getElem?_eq_some_iff.1 hg0).1 (by omega)
theorem off_rec {br B : Nat} (hb : br < B) : ∀ (A Y : World) d o, Off br A Y → B ≤ d → A.heap[d]? = some o → Y.heap[d]? = some o := fun _ _ d _ ho hd h => (ho.block d (Array.getElem?_eq_some_iff.1 h).1 (by omega)).trans h
theorem daysAt_own {w0 : World} {c : C.Sys} {vl : Value} {p b off : Int} {wt : ByteArray} {br B : Nat} (hB : w0.heap.size ≤ B) : OwnFrom B (DaysAt w0 c vl p b off wt br) :=
  OwnFrom.and (Own.from (fun _ _ _ _ hs hg hr => hs.kept hg hr) _) (ownFrom_below (Nat.le_refl _) hB)
theorem own_cells {w : World} {base : Nat} {e : TypeId} {s : Nat} {v : Value} {n : Nat} {xs : List Value} (h : w.ownsRow base e s v n xs) : ∀ j o, v.ownBlock = some j → w.heap[j]? = some o → o.isCells = true := by
  intro j o hj ho
  rcases h.2 with ⟨rfl, _⟩ | ⟨g, cap, cur, rfl, _, hg, _⟩
  · cases hj
  · have e1 : g = j := by simpa [Value.ownBlock] using hj
    subst e1
    rw [hg] at ho
    cases ho; rfl
end Go.Proofs.Ytkjoojmlcjmlgaa
