/- What a call leaves that writes two blocks of the caller's alone. -/
import Derived.Test.YthffoglpekpmdaaT2
namespace Go.Proofs.Ythffoglpekpmdaa
set_option linter.unusedVariables false
set_option linter.unusedSimpArgs false
open Go.RowKit
structure Off (b g : Nat) (w w' : World) : Prop where
  os : w'.os = w.os
  tape : w'.tape = w.tape
  output : w'.output = w.output
  size : w.heap.size ≤ w'.heap.size
  block : ∀ k, k < w.heap.size → k ≠ b → k ≠ g → w'.heap[k]? = w.heap[k]?
theorem Off.refl (b g : Nat) (w : World) : Off b g w w := ⟨rfl, rfl, rfl, Nat.le_refl _, fun _ _ _ _ => rfl⟩
theorem Off.trans {b g : Nat} {x y z : World} (h : Off b g x y) (k : Off b g y z) : Off b g x z :=
  ⟨k.os.trans h.os, k.tape.trans h.tape, k.output.trans h.output, Nat.le_trans h.size k.size, fun i hi h1 h2 => (k.block i (Nat.lt_of_lt_of_le hi h.size) h1 h2).trans (h.block i hi h1 h2)⟩
theorem Ext.off {w w' : World} (h : Ext w w') (b g : Nat) : Off b g w w' := ⟨h.os, h.tape, h.output, h.size, fun k hk _ _ => h.block k hk⟩
theorem Off.ext {b g : Nat} {x y z : World} (h : Off b g x y) (k : Ext y z) : Off b g x z := h.trans (k.off b g)
theorem Off.alloc {b g : Nat} {x y : World} (h : Off b g x y) (o : Obj) : Off b g x (y.alloc o) := h.ext ((Ext.refl y).alloc o)
theorem Off.drew {b g : Nat} {x y : World} (h : Off b g x y) : Off b g x y.drew := h.ext ((Ext.refl y).drew)
theorem Off.set {b g : Nat} {x y : World} (h : Off b g x y) {a : Addr} (ha : a.block = b ∨ a.block = g ∨ x.heap.size ≤ a.block) (v : Value) : Off b g x (y.setCell a v) := by
  refine ⟨h.os, h.tape, h.output, by rw [size_setCell]; exact h.size, fun i hi h1 h2 => ?_⟩
  rw [Below.heap_setCell _ _ _ _ (by rintro rfl; rcases ha with e | e | e <;> omega)]
  exact h.block i hi h1 h2
/-- What lay before both blocks were made lies as it lay. -/
theorem Off.ext0 {b g : Nat} {w0 w w' : World} (h : Off b g w w') (h0 : Ext w0 w) (hb : w0.heap.size ≤ b) (hg : w0.heap.size ≤ g) : Ext w0 w' :=
  ⟨h.os.trans h0.os, h.tape.trans h0.tape, h.output.trans h0.output, Nat.le_trans h0.size h.size, fun k hk => (h.block k (Nat.lt_of_lt_of_le hk h0.size) (by omega) (by omega)).trans (h0.block k hk)⟩
theorem Blk.off {b g c : Nat} {w w' : World} {cs : Array Value} {e : TypeId} (h : Blk w c cs e) (ho : Off b g w w') (h1 : c ≠ b) (h2 : c ≠ g) : Blk w' c cs e := (ho.block c h.lt h1 h2).trans h
theorem sum_any (v : Value) (xs : List Int) (w : World) (hv : Ints w v xs) (hn : xs.length ≤ 1000000) (hb : ∀ k, k ≤ xs.length → -1000000000000000 ≤ (xs.take k).sum ∧ (xs.take k).sum ≤ 1000000000000000) :
    Calls Try.prog 76 #[v] w fun e w' => e = .returned (.int .i64 xs.sum) ∧ w = w' := by
  obtain ⟨a, cap, rfl, hx⟩ := hv
  have HX := Lib.hid hx
  have HB := Lib.hid hb
  clear hx hb
  go_enter Try.func76, Try.ntmps76
  go_wp2
  go_loop [3, 5, 8] (fun n _ i => ∃ k : Nat, k ≤ xs.length ∧ i = .int .i64 k ∧ n = .int .i64 (xs.take k).sum) (fun _ _ i => xs.length - (intOf i).toNat)
  case atStart => exact ⟨0, Nat.zero_le _, rfl, rfl⟩
  case round =>
    obtain ⟨k, hk, rfl, rfl⟩ := hrel
    by_cases hlt : k < xs.length
    · obtain ⟨b, off, rfl, hb, h0⟩ := HX.out k hlt
      have hs : (xs.take (k + 1)).sum = (xs.take k).sum + xs[k] := by rw [List.take_succ_eq_append_getElem hlt, List.sum_append]; simp
      have hb1 := HB.out (k + 1) hlt
      rw [hs] at hb1
      have HS := Lib.hid hs
      clear hs
      obtain ⟨S, hS⟩ : ∃ S, (xs.take k).sum = S := ⟨_, rfl⟩
      rw [hS] at hb1 HS ⊢
      clear hS
      go_wp2
      go_round
      case rel => exact ⟨k + 1, by omega, by go_num, by rw [HS.out]⟩
      case measure => simp [intOf]; omega
    · obtain rfl : k = xs.length := by omega
      go_wp2
      go_ret
      exact ⟨ret_int (by simp), rfl⟩
end Go.Proofs.Ythffoglpekpmdaa
