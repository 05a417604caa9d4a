/- The houses from a cell on. -/
import Derived.Test.YtmlobiajimlboaaD9
namespace Go.Proofs.Ytmlobiajimlboaa
set_option linter.unusedVariables false
set_option linter.unusedSimpArgs false
open Go.RowKit
set_option maxRecDepth 100000 in
set_option maxHeartbeats 2000000 in
theorem none_any (s : W.Shore) (c : W.Storm) (vc vw vp : Value) (k : Nat) (w : World) (hC : Cells w vc s.cells) (hn : s.cells.length ≤ 7) (hk : k < s.cells.length) :
    Calls Try.prog 74 #[shoreV s c vc vw vp, .int .i64 k] w fun e w' => ∃ g, e = .returned (.slice (some ⟨g, 0, none⟩) (s.cells.length - k) (s.cells.length - k)) ∧ Blk w' g (ints (List.replicate (s.cells.length - k) (-1))) 3 ∧ w.heap.size ≤ g ∧ Ext w w' := by
  obtain ⟨a1, c1, rfl, hx1⟩ := hC
  clear hx1
  obtain ⟨m, hm⟩ : ∃ m, s.cells.length - k = m := ⟨_, rfl⟩
  have em : IntKind.wrap .i64 ((s.cells.length : Int) - (k : Int)) = (m : Int) := by rw [IntWalk.i64_in _ (by omega)]; omega
  have em2 : wrap64 ((s.cells.length : Int) - (k : Int)) = (m : Int) := by rw [← IntWalk.i64_left]; exact em
  have em3 : ((s.cells.length : Int) - (k : Int)) = (m : Int) := by omega
  have hm1 : 1 ≤ m ∧ m ≤ 7 := by omega
  rw [hm]
  clear hm em em2
  go_enter Try.func74, Try.ntmps74
  go_wp2_with (first | (go_at_call 83; refine (repeat_any m hm1.1 hm1.2 _ _ _ (Blk.new' (by simp) _ _)).mono ?_; rintro e w' ⟨g, rfl, hg, hgl, hb⟩))
  go_ret
  exact ⟨_, rfl, hg, by simp at hgl; omega, by (with_reducible (repeat (first | exact Ext.refl _ | assumption | apply Ext.alloc | apply Ext.drew | exact ext_plus _ _ | (apply Ext.setCell; rotate_left; (simp <;> omega)) | (apply Ext.trans; rotate_left; exact ext_plus _ _) | (apply Ext.trans; rotate_left; assumption))))⟩
/-- A slice is no longer than it may grow in place. -/
def Room : Value → Prop
  | .slice _ n cap => n ≤ cap
  | _ => True
theorem houses_bd : ∀ l : List W.Cell, 0 ≤ W.houses l ∧ W.houses l ≤ l.length
  | [] => by simp [W.houses]
  | c :: cs => by have := houses_bd cs; unfold W.houses; split <;> simp <;> omega
theorem houses_drop {l : List W.Cell} {k : Nat} (h : k < l.length) : W.houses (l.drop k) = (if l[k].fl = -1 then 0 else 1) + W.houses (l.drop (k + 1)) := by
  rw [List.drop_eq_getElem_cons h, W.houses]
  simp only [W.hasHouse, bne_iff_ne, ne_eq, ite_not]
set_option maxRecDepth 100000 in
set_option maxHeartbeats 2000000 in
theorem houses_any (s : W.Shore) (c : W.Storm) (vc vw vp : Value) (k : Nat) (w : World) (hC : Cells w vc s.cells) (hR : Room vc) (hn : s.cells.length ≤ 7) (hk : k < s.cells.length) :
    Calls Try.prog 62 #[shoreV s c vc vw vp, .int .i64 k] w fun e w' => e = .returned (.int .i64 (W.houses (s.cells.drop k))) ∧ Ext w w' := by
  obtain ⟨a1, c1, rfl, hx1⟩ := hC
  have hcap : s.cells.length ≤ c1 := hR
  clear hR
  obtain ⟨b, off, rfl, hb, h0, h1, h2, h3⟩ := hx1 k hk
  have HX1 := Lib.hid hx1
  clear hx1 h0 h1 h2 h3
  have hck : c1 ≠ k := by omega
  go_enter Try.func62, Try.ntmps62
  go_wp2
  obtain ⟨w1, hw1⟩ : ∃ w1, w.alloc (.cells #[.slice (some ⟨b, off, none⟩) s.cells.length c1, vw, .int .i64 s.reef, .int .i64 s.ll, .int .i64 s.lh, .int .i64 c.wl, .int .i64 c.wh, .int .i64 c.fl, .int .i64 c.fh, .int .i64 c.tl, .int .i64 c.th, vp] 91) = w1 := ⟨_, rfl⟩
  have hE1 : Ext w w1 := by rw [← hw1]; (with_reducible (repeat (first | exact Ext.refl _ | assumption | apply Ext.alloc | apply Ext.drew | exact ext_plus _ _ | (apply Ext.setCell; rotate_left; (simp <;> omega)) | (apply Ext.trans; rotate_left; exact ext_plus _ _) | (apply Ext.trans; rotate_left; assumption))))
  rw [hw1]
  clear hw1
  obtain ⟨m, hm⟩ : ∃ m, s.cells.length - k = m := ⟨_, rfl⟩
  rw [hm]
  have HM := Lib.hid hm
  have hm7 : m ≤ 7 := by omega
  clear hm
  go_loopw [5, 14] (fun v i wr => ∃ (j : Nat) (q : Int), j ≤ m ∧ i = .int .i64 j ∧ v = .int .i64 q ∧ 0 ≤ q ∧ q ≤ j ∧ W.houses (s.cells.drop k) = q + W.houses (s.cells.drop (k + j)) ∧ Ext w1 wr)
    (fun _ i _ => m - (intOf i).toNat)
  case atStart => exact ⟨0, 0, Nat.zero_le _, rfl, rfl, Int.le_refl _, by simp, by simp, Ext.refl _⟩
  case round =>
    obtain ⟨j, q, hj, rfl, rfl, hq0, hqj, hsum, hE⟩ := hrel
    have HSUM := Lib.hid hsum
    clear hsum
    have hcy := (hE1.trans hE).cells.1
    have hsy := (hE1.trans hE).size
    have hbw : b < wr.heap.size := by omega
    by_cases hlt : j < m
    · have hkj : k + j < s.cells.length := by have := HM.out; omega
      obtain ⟨b', off', heq, hb', h0, h1, h2, h3⟩ := HX1.out (k + j) hkj
      cases heq
      have e : off + (k + j) * 4 = off + k * 4 + j * 4 := by omega
      rw [e] at h0 h1 h2 h3
      clear e
      have HD := Lib.hid (houses_drop hkj)
      by_cases hf : s.cells[k + j].fl = -1
      · have HS : Hid (W.houses (s.cells.drop k) = q + W.houses (s.cells.drop (k + (j + 1)))) := by
          show _ = _
          rw [HSUM.out, HD.out, if_pos hf, ← Nat.add_assoc]; omega
        rw [hf] at h3
        clear hf
        go_wp2
        go_roundw
        case rel => exact ⟨j + 1, q, by omega, by go_num, rfl, by omega, by omega, HS.out, hE.alloc _⟩
        case measure => simp [intOf]; omega
      · have HS : Hid (W.houses (s.cells.drop k) = (q + 1) + W.houses (s.cells.drop (k + (j + 1)))) := by
          show _ = _
          rw [HSUM.out, HD.out, if_neg hf, ← Nat.add_assoc]; omega
        go_wp2
        go_roundw
        case rel => exact ⟨j + 1, q + 1, by omega, by go_num, by go_num, by omega, by omega, HS.out, hE.alloc _⟩
        case measure => simp [intOf]; omega
    · go_wp2
      go_ret
      refine ⟨ret_int ?_, hE1.trans hE⟩
      have e : k + j = s.cells.length := by have := HM.out; omega
      rw [HSUM.out, e, List.drop_length]; simp [W.houses]
end Go.Proofs.Ytmlobiajimlboaa
