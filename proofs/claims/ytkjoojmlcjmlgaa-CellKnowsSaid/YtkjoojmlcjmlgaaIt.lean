/- The iterator over the days of a system that runs. -/
import Derived.Test.YtkjoojmlcjmlgaaC7
import Derived.Test.YtkjoojmlcjmlgaaRg
import Derived.Test.YtkjoojmlcjmlgaaDrawIn
import Derived.RangeFuncBound
import Derived.RangeFuncCalls
import Derived.Shelf.Abstract
import Derived.OwnWalkIn
import Derived.TacticsInMore
import Derived.LoopNIn
import Derived.LoopIn
namespace Go.Proofs.Ytkjoojmlcjmlgaa
set_option linter.unusedVariables false
set_option linter.unusedSimpArgs false
open Go.RowKit Go.Shelf
attribute [local go_sem] Oper.semAt_some
/-- What yield is given. -/
def dayE (c : C.Sys) (p b off : Int) (w : C.Txt) (k : Nat) : Array Value := #[.int .i64 (k : Int), .agg #[.int .i64 (C.stateAt c p b off w (k + 1)).e, .int .i64 (C.stateAt c p b off w (k + 1)).carried]]
/-- How the system lies behind k days. -/
def DaysAt (w0 : World) (c : C.Sys) (vl : Value) (p b off : Int) (wt : ByteArray) (br : Nat) (k : Nat) (W : World) : Prop :=
  Blk W br (runV c vl p b off wt ((k - 1 : Nat) : Int) (C.stateAt c p b off wt.data.toList k) (C.start c b) 0) 93 ∧ Ext w0 W
/-- The state behind j of the three steps of a day. -/
def midD (c : C.Sys) (p b off : Int) (x : UInt8) (s : C.St) : Nat → C.St
  | 0 => s
  | 1 => C.sunSt c p b x s
  | 2 => C.loadsSt c off (C.sunSt c p b x s)
  | _ => C.daySt c p b off x s
set_option maxRecDepth 100000 in
set_option maxHeartbeats 8000000 in
theorem days_own (c : C.Sys) (vl : Value) (p b off : Int) (wt : ByteArray) (br : Nat) (w0 w : World) (O : C.Ok c) (hp0 : 0 ≤ p) (hp1 : p ≤ 12) (h2 : 0 ≤ b) (h3 : b ≤ 8) (ho0 : 0 ≤ off) (ho1 : off < 2 ^ c.loads.length)
    (hlen : wt.data.toList.length = c.days.toNat) (hbr0 : w0.heap.size ≤ br) (hLs : Loads w0 vl c.loads) :
    SeqOwn Fence.wide 4 Try.prog 52 #[.pointer (some ⟨br, 0, none⟩)] (dayE c p b off wt.data.toList) (Off br) (DaysAt w0 c vl p b off wt br) c.days.toNat w := by
  intro l J Jx Jp W hW hJ hY h0 hA
  have hd1 := O.d1
  have hd10 := O.d10
  obtain ⟨N, hN⟩ : ∃ N : Nat, c.days = N := ⟨c.days.toNat, by omega⟩
  have hNt : c.days.toNat = N := by omega
  rw [hNt] at hlen hY ⊢
  have HN := Lib.hid hN
  have hN10 : N ≤ 10 := by omega
  have HLEN := Lib.hid hlen
  have HO := Lib.hid O
  have HY := Lib.hid hY
  clear hN hNt hlen O hY
  obtain ⟨hb0, hE0⟩ := hA
  have k0 := hb0.cell
  have k1 := hb0.lt
  refine callsIn_of_wp Try.func52 rfl trivial ?_ rfl
  simp only [Try.ntmps52, List.size_toArray, List.length_cons, List.length_nil, Nat.reduceAdd, Nat.reduceSub, Array.replicate_succ, Array.replicate_zero, List.push_toArray, List.append_toArray, List.nil_append, List.cons_append]
  gi_wp2
  rw [HN.out]
  gi_loopw [12] (fun i wr => ∃ k : Nat, k ≤ N ∧ i = .int .i64 k ∧ J k wr ∧ DaysAt w0 c vl p b off wt br k wr) (fun i _ => N - (intOf i).toNat)
  case atStart => exact ⟨0, Nat.zero_le _, rfl, h0, hb0, hE0⟩
  case round =>
    rename World => wr
    obtain ⟨k, hk, rfl, hJk, hb, hE⟩ := hrel
    by_cases hlt : k < N
    · obtain ⟨x, hx⟩ : ∃ x, wt.data.toList[k]? = some x := ⟨_, List.getElem?_eq_getElem (by rw [HLEN.out]; exact hlt)⟩
      have hst : C.stateAt c p b off wt.data.toList (k + 1) = C.daySt c p b off x (C.stateAt c p b off wt.data.toList k) := by
        show C.daySt c p b off (wt.data.toList.getD k 0) _ = _
        rw [List.getD_eq_getElem?_getD, hx]; rfl
      have hBk := C.state_bd HO.out hp0 hp1 h2 h3 off wt.data.toList k (by omega)
      obtain ⟨hB1, hB2, _, _⟩ := C.day_bd HO.out hp0 hp1 h2 h3 off (k := k) (by omega) x hBk
      have hB0 := hBk.bd HO.out h2 h3 (by omega)
      have hye : dayE c p b off wt.data.toList k = #[.int .i64 (k : Int), .agg #[.int .i64 (C.daySt c p b off x (C.stateAt c p b off wt.data.toList k)).e, .int .i64 (C.daySt c p b off x (C.stateAt c p b off wt.data.toList k)).carried]] := by unfold dayE; rw [hst]
      have hat : ∀ W, DaysAt w0 c vl p b off wt br (k + 1) W = (Blk W br (runV c vl p b off wt (k : Nat) (C.daySt c p b off x (C.stateAt c p b off wt.data.toList k)) (C.start c b) 0) 93 ∧ Ext w0 W) := by intro W; unfold DaysAt; rw [hst]; rfl
      have hYk := fun W1 (h : J k W1) (hA : Blk W1 br (runV c vl p b off wt (k : Nat) (C.daySt c p b off x (C.stateAt c p b off wt.data.toList k)) (C.start c b) 0) 93 ∧ Ext w0 W1) => HY.out k W1 hlt h (by rw [hat]; exact hA)
      rw [hye] at hYk
      simp only [hat] at hYk
      have HAT := Lib.hid hat
      obtain ⟨s, hs⟩ : ∃ s, C.stateAt c p b off wt.data.toList k = s := ⟨_, rfl⟩
      rw [hs] at hb hB0 hB1 hB2 HAT
      simp only [hs] at hYk
      have HYK := Lib.hid hYk
      have HS := Lib.hid (fun w' hb => sun_any c vl p b off wt k s (C.start c b) 0 br w' HO.out hp0 hp1 h2 h3 hB0 x hx (by omega) hb)
      have HLO := Lib.hid (fun w' hE hb => loads_any c vl p b off wt k (C.sunSt c p b x s) (C.start c b) 0 br w0 w' hE hbr0 hLs HO.out hB1 ho0 ho1 hb)
      have HFA := Lib.hid (fun w' hb => fades_any c vl p b off wt k (C.loadsSt c off (C.sunSt c p b x s)) (C.start c b) 0 br w' HO.out hB2 hb)
      obtain ⟨st, hst0⟩ : ∃ st, C.start c b = st := ⟨_, rfl⟩
      rw [hst0] at hb
      have HST0 := Lib.hid hst0
      clear k0 k1 hye hat hYk hs hst hx hB0 hB1 hB2 hBk hst0
      have k0 := hb.cell
      have k1 := hb.lt
      have k2 := hb.free
      have hb3 : Blk (wr.setCell ⟨br, 15, none⟩ (.int .i64 (k : Int))) br (runV c vl p b off wt (k : Nat) s st 0) 93 := by simpa using hb.set 15 (.int .i64 (k : Int))
      have hO3 : Off br wr (wr.setCell ⟨br, 15, none⟩ (.int .i64 (k : Int))) := (Off.refl br wr).set (a := ⟨br, 15, none⟩) (.inl rfl) _
      rw [← HST0.out] at hb3
      have hix0 : ∀ w, (Instr.index 122 (.agg #[(.func (.func 71) #[.pointer (some ⟨br, 0, none⟩)] #[]), (.func (.func 72) #[.pointer (some ⟨br, 0, none⟩)] #[]), (.func (.func 73) #[.pointer (some ⟨br, 0, none⟩)] #[])]) (.int .i64 0)).run Try.prog w = .ok (.func (.func 71) #[.pointer (some ⟨br, 0, none⟩)] #[]) w := fun _ => by kernel_rfl
      have hix1 : ∀ w, (Instr.index 122 (.agg #[(.func (.func 71) #[.pointer (some ⟨br, 0, none⟩)] #[]), (.func (.func 72) #[.pointer (some ⟨br, 0, none⟩)] #[]), (.func (.func 73) #[.pointer (some ⟨br, 0, none⟩)] #[])]) (.int .i64 1)).run Try.prog w = .ok (.func (.func 72) #[.pointer (some ⟨br, 0, none⟩)] #[]) w := fun _ => by kernel_rfl
      have hix2 : ∀ w, (Instr.index 122 (.agg #[(.func (.func 71) #[.pointer (some ⟨br, 0, none⟩)] #[]), (.func (.func 72) #[.pointer (some ⟨br, 0, none⟩)] #[]), (.func (.func 73) #[.pointer (some ⟨br, 0, none⟩)] #[])]) (.int .i64 2)).run Try.prog w = .ok (.func (.func 73) #[.pointer (some ⟨br, 0, none⟩)] #[]) w := fun _ => by kernel_rfl
      gi_wp2
      clear k0 k1 k2
      obtain ⟨w3, hw3⟩ : ∃ w3, wr.setCell ⟨br, 15, none⟩ (.int .i64 (k : Int)) = w3 := ⟨_, rfl⟩
      rw [hw3] at hb3 hO3 ⊢
      clear hw3
      gi_loopw [6, 26] (fun _ i wy => ∃ j : Nat, j ≤ 3 ∧ i = .int .i64 j ∧ Blk wy br (runV c vl p b off wt (k : Nat) (midD c p b off x s j) (C.start c b) 0) 93 ∧ Ext w0 wy ∧ Off br w3 wy) (fun _ i _ => 3 - (intOf i).toNat)
      case atStart => exact ⟨0, Nat.zero_le _, rfl, hb3, hO3.ext0 hE hbr0, Off.refl _ _⟩
      case round =>
        rename World => wy
        obtain ⟨j, hj, rfl, hBy, hEy, hOy⟩ := hrel
        have hj3 : j = 0 ∨ j = 1 ∨ j = 2 ∨ j = 3 := by omega
        rcases hj3 with rfl | rfl | rfl | rfl
        · gi_wp2_with (first | (refine ⟨trivial, ?_⟩; gi_at_call 71; refine (callsIn_wide.2 (HS.out _ hBy)).mono ?_; rintro e wz ⟨rfl, hBz, hOz⟩))
          go_roundw
          case rel => exact ⟨1, by omega, by go_num, hBz, hOz.ext0 hEy hbr0, hOy.trans hOz⟩
          case measure => simp [intOf]
        · gi_wp2_with (first | (refine ⟨trivial, ?_⟩; gi_at_call 72; refine (callsIn_wide.2 (HLO.out _ hEy hBy)).mono ?_; rintro e wz ⟨rfl, hBz, hOz⟩))
          go_roundw
          case rel => exact ⟨2, by omega, by go_num, hBz, hOz.ext0 hEy hbr0, hOy.trans hOz⟩
          case measure => simp [intOf]
        · gi_wp2_with (first | (refine ⟨trivial, ?_⟩; gi_at_call 73; refine (callsIn_wide.2 (HFA.out _ hBy)).mono ?_; rintro e wz ⟨rfl, hBz, hOz⟩))
          go_roundw
          case rel => exact ⟨3, by omega, by go_num, hBz, hOz.ext0 hEy hbr0, hOy.trans hOz⟩
          case measure => simp [intOf]
        · have hBd : Blk wy br (runV c vl p b off wt (k : Nat) (C.daySt c p b off x s) (C.start c b) 0) 93 := hBy
          have hHy := HYK.out
          clear hBy hix0 hix1 hix2
          obtain ⟨s', hs'⟩ : ∃ s', C.daySt c p b off x s = s' := ⟨_, rfl⟩
          rw [hs'] at hBd
          simp only [hs'] at hHy
          have HS' := Lib.hid hs'
          have HHY := Lib.hid hHy
          clear hs' hHy
          have k0 := hBd.cell
          have k1 := hBd.lt
          have k2 := hBd.free
          have hpc := plus_cell
          gi_wp2
          refine wpIn_region_extY 11 (by kernel_rfl) (by kernel_rfl) (by kernel_rfl) (by kernel_rfl) (by kernel_rfl) ?_
          simp only [List.take_succ_cons, List.take_zero, List.drop_succ_cons, List.drop_zero]
          repeat (any_goals (first | go_big_quiet_step (fail) | quiet_step (fail)))
          all_goals (refine wpQuiet_nil ?_; intro w4 hE4)
          obtain ⟨fn, tmps, assign, body, hy, hR⟩ := HHY.out w4 (hJ _ _ _ hJk ((hO3.trans hOy).ext hE4)) ⟨hBd.ext hE4, hEy.trans hE4⟩
          clear k0 k1 k2
          gi_wp2
          refine hR.mono ?_
          rintro e W3 (⟨rfl, hJ3, hB3, hE3⟩ | ⟨rfl, hJx3⟩ | ⟨ch, rfl, hJp3⟩)
          · gi_wp2
            go_roundw
            case rel => exact ⟨k + 1, by omega, by go_num, hJ3, by rw [HAT.out, HS'.out]; exact ⟨hB3, hE3⟩⟩
            case measure => simp [intOf]; omega
          · gi_wp2
            refine bodyPost_ret (results_none rfl _ _ _) rfl ?_
            exact .inl ⟨⟨_, rfl⟩, .inr hJx3⟩
          · gi_wp2
            exact ⟨rfl, .inr ⟨ch, rfl, hJp3⟩⟩
    · obtain rfl : k = N := by omega
      clear k0 k1
      gi_wp2
      go_end0
      exact .inl ⟨⟨_, rfl⟩, .inl ⟨hJk, hb, hE⟩⟩
end Go.Proofs.Ytkjoojmlcjmlgaa
