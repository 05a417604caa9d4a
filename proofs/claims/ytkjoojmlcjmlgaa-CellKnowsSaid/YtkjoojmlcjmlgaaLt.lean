/- Letters: whether a text has a letter of some for each day. Whether a question is as defined; whether a weather is allowed, and agrees with a sky; words. Whether a weather agrees with a sky; words. -/
import Derived.Test.YtkjoojmlcjmlgaaC1
import Derived.Lib.OthersKept
import Derived.WalkSmall
import Derived.Test.YtkjoojmlcjmlgaaD6
namespace Go.Proofs.Ytkjoojmlcjmlgaa
set_option linter.unusedVariables false
set_option linter.unusedSimpArgs false
open Go.RowKit
theorem u8_nat (x y : UInt8) : (x == y) = ((x.toNat : Int) == (y.toNat : Int)) := by
  rw [Bool.eq_iff_iff]; simp [← UInt8.toNat_inj]; omega
theorem nat_get {s : ByteArray} {pos : Nat} (h : pos < s.size) : s.data.toList[pos]? = some s[pos] := by
  rw [List.getElem?_eq_getElem (by simpa using h)]; rfl
theorem Ext.iterAt {a w : World} (h : Ext a w) {k : Nat} (hk : a.heap.size ≤ k) (s : ByteArray) (pos : Nat) : Ext a (w.iterAt k s pos) := Lib.below_iterAt h hk s pos
theorem Ext.iter {a w : World} (h : Ext a w) (s : ByteArray) (pos : Nat) : Ext a (w.iter s pos) := h.alloc _
/-- What the first letters of o say of a rune r. -/
def isIn (o : List UInt8) (r : Int) : Bool := o.any fun y => r == (y.toNat : Int)
theorem isIn_snoc (o : List UInt8) (y : UInt8) (r : Int) : isIn (o ++ [y]) r = (isIn o r || r == (y.toNat : Int)) := by
  simp [isIn]
theorem isIn_byte (o : List UInt8) (x : UInt8) : isIn o (x.toNat : Int) = o.contains x := by
  unfold isIn
  rw [List.contains_eq_any_beq]
  congr 1
  funext y
  rw [u8_nat]
theorem isIn_high (o : List UInt8) (ho : ∀ y ∈ o, y.toNat < 128) (r : Int) (hr : 128 ≤ r) : isIn o r = false := by
  unfold isIn
  rw [List.any_eq_false]
  intro y hy
  have := ho y hy
  simp; omega
theorem take_snoc_at {T : List UInt8} {k : Nat} {x : UInt8} (h : T[k]? = some x) : T.take (k + 1) = T.take k ++ [x] := by
  obtain ⟨hk, rfl⟩ := List.getElem?_eq_some_iff.1 h
  rw [List.take_succ_eq_append_getElem hk]
set_option maxRecDepth 100000 in
set_option maxHeartbeats 4000000 in
theorem letters_any (s o : ByteArray) (d : Int) (w : World) (hs : s.size ≤ 1000000) (ho : o.size ≤ 1000) (ha : ∀ y ∈ o.data.toList, y.toNat < 128) :
    Calls Try.prog 50 #[.string s, .int .i64 d, .string o] w fun e w' => e = .returned (.bool (s.data.toList.all (fun x => o.data.toList.contains x) && decide ((s.size : Int) = d))) ∧ Ext w w' := by
  have hlen : s.data.toList.length = s.size := by simp
  have hlo : o.data.toList.length = o.size := by simp
  have hgs : ∀ pos, (h : pos < s.size) → s.data.toList[pos]? = some s[pos] := fun pos h => nat_get h
  have hgo : ∀ pos, (h : pos < o.size) → o.data.toList[pos]? = some o[pos] := fun pos h => nat_get h
  obtain ⟨T, hT⟩ : ∃ T, s.data.toList = T := ⟨_, rfl⟩
  obtain ⟨U, hU⟩ : ∃ U, o.data.toList = U := ⟨_, rfl⟩
  rw [hT] at hlen ⊢
  rw [hU] at hlo ha ⊢
  simp only [hT] at hgs
  simp only [hU] at hgo
  have HLEN := Lib.hid hlen
  have HLO := Lib.hid hlo
  have HGS := Lib.hid hgs
  have HGO := Lib.hid hgo
  have HA := Lib.hid ha
  clear hlen hlo hgs hgo ha hT hU
  go_enter Try.func50, Try.ntmps50
  go_wp2
  go_loopw [9] (fun _ wr => ∃ pos : Nat, pos ≤ s.size ∧ wr.heap[w.heap.size]? = some (.stringIter s pos) ∧ (T.take pos).all (fun x => U.contains x) = true ∧ Ext w wr) (fun _ wr => s.size - wr.iterPos w.heap.size)
  case atStart => exact ⟨0, Nat.zero_le _, World.iter_heap w s 0, rfl, Ext.iter (Ext.refl w) s 0⟩
  case round =>
    rename World => wr
    obtain ⟨pos, hpos, hit, hall, hE⟩ := hrel
    have HALL := Lib.hid hall
    have hpos0 := iterPos_of hit
    have hzl := (Array.getElem?_eq_some_iff.1 hit).1
    clear hall
    by_cases hp : pos < s.size
    · have hnx : ∀ ty, (Instr.next (.pointer (some ⟨w.heap.size, 0, none⟩)) true ty).run Try.prog wr = _ := fun ty => Lib.run_next_any_at wr w.heap.size s pos ty hit hp
      have hwd : (Utf8.decode s pos).2 = 1 ∧ ((Utf8.decode s pos).1 : Int) = (s[pos].toNat : Int) ∨ isIn U (Utf8.decode s pos).1 = false ∧ U.contains s[pos] = false := by
        rcases Nat.lt_or_ge s[pos].toNat 128 with h | h
        · left; rw [decode_ascii s pos hp h]; exact ⟨rfl, rfl⟩
        · right
          have := decode_high s pos hp h
          refine ⟨isIn_high U HA.out _ (by omega), ?_⟩
          rw [← isIn_byte]; exact isIn_high U HA.out _ (by omega)
      have hle := decode_le s pos
      have hit2 := Lib.iterAt_heap wr w.heap.size s pos (pos + (Utf8.decode s pos).2) hit
      have hE2 := hE.iterAt (k := w.heap.size) (Nat.le_refl _) s (pos + (Utf8.decode s pos).2)
      obtain ⟨W1, hW1⟩ : ∃ W1, wr.iterAt w.heap.size s (pos + (Utf8.decode s pos).2) = W1 := ⟨_, rfl⟩
      rw [hW1] at hnx hit2 hE2
      obtain ⟨r, hr⟩ : ∃ r, (Utf8.decode s pos).1 = r := ⟨_, rfl⟩
      obtain ⟨wd, hwdd⟩ : ∃ wd, (Utf8.decode s pos).2 = wd := ⟨_, rfl⟩
      rw [hr, hwdd] at hwd
      rw [hr] at hnx hle
      rw [hwdd] at hit2
      have HX := Lib.hid (HGS.out pos hp)
      obtain ⟨x, hx⟩ : ∃ x, s[pos] = x := ⟨_, rfl⟩
      rw [hx] at hwd HX
      have HWD := Lib.hid hwd
      clear hW1 hr hwdd hx hwd hit hE
      have hz1 := (Array.getElem?_eq_some_iff.1 hit2).1
      go_wp2
      have hit3 : (W1.iter o 0).heap[w.heap.size]? = some (.stringIter s (pos + wd)) := (Below.heap_alloc _ _ _ hz1).trans hit2
      have hit4 := World.iter_heap W1 o 0
      have hE3 := hE2.iter o 0
      have hzz : w.heap.size ≠ W1.heap.size := by omega
      obtain ⟨z, hz⟩ : ∃ z, W1.heap.size = z := ⟨_, rfl⟩
      obtain ⟨W2, hW2⟩ : ∃ W2, W1.iter o 0 = W2 := ⟨_, rfl⟩
      rw [hz] at hit4 hz1 hzz ⊢
      rw [hW2] at hit3 hit4 hE3 ⊢
      have hwz : w.heap.size ≤ z := by have := hE2.size; omega
      clear hz hW2 hE2 hit2
      go_loopw [9] (fun v wy => ∃ q : Nat, q ≤ o.size ∧ v = .bool (isIn (U.take q) r) ∧ wy.heap[z]? = some (.stringIter o q) ∧ wy.heap[w.heap.size]? = some (.stringIter s (pos + wd)) ∧ Ext w wy) (fun _ wy => o.size - wy.iterPos z)
      case atStart => exact ⟨0, Nat.zero_le _, rfl, hit4, hit3, hE3⟩
      case round =>
        rename World => wy
        obtain ⟨q, hq, rfl, hitz, hits, hEy⟩ := hrel
        have hq0 := iterPos_of hitz
        have hzz2 := (Array.getElem?_eq_some_iff.1 hitz).1
        by_cases hql : q < o.size
        · have hu := HGO.out q hql
          have hy128 := HA.out _ (List.mem_of_getElem? hu)
          have hny : ∀ ty, (Instr.next (.pointer (some ⟨z, 0, none⟩)) true ty).run Try.prog wy = _ := fun ty => Lib.run_next_ascii_at wy z o q ty hitz hql hy128
          have hitz2 := Lib.iterAt_heap wy z o q (q + 1) hitz
          have hits2 := (Lib.iterAt_other wy z w.heap.size o (q + 1) hzz).trans hits
          have hEy2 := hEy.iterAt hwz o (q + 1)
          have hst : isIn (U.take (q + 1)) r = (isIn (U.take q) r || (r : Int) == (o[q].toNat : Int)) := by rw [take_snoc_at hu, isIn_snoc]
          obtain ⟨y, hyy⟩ : ∃ y, o[q] = y := ⟨_, rfl⟩
          rw [hyy] at hny hst hy128
          obtain ⟨W3, hW3⟩ : ∃ W3, wy.iterAt z o (q + 1) = W3 := ⟨_, rfl⟩
          rw [hW3] at hny hitz2 hits2 hEy2
          have HST := Lib.hid hst
          obtain ⟨Y, hY⟩ : ∃ Y : Nat, y.toNat = Y := ⟨_, rfl⟩
          rw [hY] at hny HST hy128
          obtain ⟨B, hB⟩ : ∃ B, isIn (U.take q) r = B := ⟨_, rfl⟩
          rw [hB] at HST ⊢
          obtain ⟨E, hEE⟩ : ∃ E, ((r : Int) == (Y : Int)) = E := ⟨_, rfl⟩
          rw [hEE] at HST
          clear hW3 hst hyy hitz hits hEy hu hY hB
          cases B with
          | true =>
            clear hEE
            go_wp2
            go_roundw
            case rel => exact ⟨q + 1, by omega, by rw [HST.out]; rfl, hitz2, hits2, hEy2⟩
            case measure => rw [iterPos_of hitz2, hq0]; omega
          | false =>
            go_wp2
            go_roundw
            case rel => exact ⟨q + 1, by omega, by rw [HST.out]; rfl, hitz2, hits2, hEy2⟩
            case measure => rw [iterPos_of hitz2, hq0]; omega
        · obtain rfl : q = o.size := by omega
          have hny : ∀ ty, (Instr.next (.pointer (some ⟨z, 0, none⟩)) true ty).run Try.prog wy = _ := fun ty => Lib.run_next_end_at wy z o o.size ty hitz hql
          have htk : U.take o.size = U := List.take_of_length_le (by rw [HLO.out]; exact Nat.le_refl _)
          rw [htk]
          have hres : isIn U r = U.contains x := by
            rcases HWD.out with ⟨_, h⟩ | ⟨h1, h2⟩
            · rw [h, isIn_byte]
            · rw [h1, h2]
          rw [hres]
          have hwd1 : U.contains x = true → wd = 1 := fun h => by
            rcases HWD.out with ⟨h1, _⟩ | ⟨_, h2⟩
            · exact h1
            · rw [h2] at h; cases h
          have HW1 := Lib.hid hwd1
          obtain ⟨B, hB⟩ : ∃ B, U.contains x = B := ⟨_, rfl⟩
          rw [hB] at HW1 ⊢
          have HB := Lib.hid hB
          clear hres hB hwd1 htk
          cases B with
          | true =>
            have hw1 := HW1.out rfl
            subst hw1
            go_wp2
            go_roundw
            case rel => exact ⟨pos + 1, by omega, hits, by rw [take_snoc_at HX.out, List.all_append, HALL.out]; simpa using HB.out, hEy⟩
            case measure => rw [iterPos_of hits, hpos0]; omega
          | false =>
            go_wp2
            go_ret
            have hf : T.all (fun x => U.contains x) = false := by
              rw [List.all_eq_false]
              exact ⟨x, List.mem_of_getElem? HX.out, by rw [HB.out]; decide⟩
            exact ⟨ret_bool (by rw [hf]; rfl), hEy⟩
    · obtain rfl : pos = s.size := by omega
      have hnx : ∀ ty, (Instr.next (.pointer (some ⟨w.heap.size, 0, none⟩)) true ty).run Try.prog wr = _ := fun ty => Lib.run_next_end_at wr w.heap.size s s.size ty hit hp
      have h := HALL.out
      rw [List.take_of_length_le (by rw [HLEN.out]; exact Nat.le_refl _)] at h
      have HH := Lib.hid h
      clear h
      go_wp2
      go_ret
      exact ⟨ret_bool (by rw [HH.out]; rfl), hE⟩
end Go.Proofs.Ytkjoojmlcjmlgaa
namespace Go.Proofs.Ytkjoojmlcjmlgaa
set_option linter.unusedVariables false
set_option linter.unusedSimpArgs false
open Go.RowKit
set_option maxRecDepth 100000 in
set_option maxHeartbeats 4000000 in
theorem given_any (c : C.Sys) (p b off : Int) (vl : Value) (w : World) (hL : Loads w vl c.loads) (hn : c.loads.length ≤ 1000000) :
    Calls Try.prog 49 #[.agg (sysV c vl), .agg #[.int .i64 p, .int .i64 b], .int .i64 off] w fun e w' => e = .returned (.bool (C.sysB c && C.partsB p b && C.offB c off)) ∧ Ext w w' := by
  have hL' := hL
  obtain ⟨a, cap, rfl, _⟩ := hL'
  have hva := fun w' (hx : Ext w w') => valid_any c _ w' (hL.ext hx) hn
  obtain ⟨B, hB⟩ : ∃ B, C.sysB c = B := ⟨_, rfl⟩
  simp only [hB] at hva
  have HVA := Lib.hid hva
  clear hva
  cases B with
  | false =>
    rw [hB]
    clear hB
    go_enter Try.func49, Try.ntmps49
    go_wp2_with (first | (go_at_call 58; refine (HVA.out _ (by (with_reducible (repeat (first | exact Ext.refl _ | assumption | apply Ext.alloc | apply Ext.drew | exact ext_plus _ _ | (apply Ext.setCell; rotate_left; (simp <;> omega)) | (apply Ext.trans; rotate_left; exact ext_plus _ _) | (apply Ext.trans; rotate_left; assumption)))))).mono ?_; rintro e w' ⟨rfl, hb⟩; have hE2 : Ext w w' := (by (with_reducible (repeat (first | exact Ext.refl _ | assumption | apply Ext.alloc | apply Ext.drew | exact ext_plus _ _ | (apply Ext.setCell; rotate_left; (simp <;> omega)) | (apply Ext.trans; rotate_left; exact ext_plus _ _) | (apply Ext.trans; rotate_left; assumption))))); have hbx := Blk.ext ((Blk.new w (sysV c (.slice a c.loads.length cap)) 24).alloc _) hb; have hby := Blk.ext (Blk.new' (w := (w.alloc (.cells (sysV c (.slice a c.loads.length cap)) 24))) (b := w.heap.size + 1) (by simp) #[.int .i64 p, .int .i64 b] 86) hb; have k0 := hbx.cell; have l0 := hbx.lt; have k1 := hby.cell; have l1 := hby.lt) | (go_at_call 69; refine (in_any _ _ _ _).mono ?_; rintro e w' ⟨rfl, rfl⟩))
    all_goals (go_ret; exact ⟨rfl, hE2⟩)
  | true =>
    have O := C.ok_of hB
    have h1 := O.n1
    have h5 := O.n5
    have hof : C.offB c off = C.within off 0 (2 ^ c.loads.length - 1) := rfl
    rw [hB, hof]
    obtain ⟨n, hnn⟩ : ∃ n, c.loads.length = n := ⟨_, rfl⟩
    rw [hnn] at h1 h5 HVA ⊢
    clear hB O hof hn hnn
    have hn5 : n = 1 ∨ n = 2 ∨ n = 3 ∨ n = 4 ∨ n = 5 := by omega
    clear h1 h5
    have hpt : C.partsB p b = (C.within p 0 12 && C.within b 0 8) := rfl
    rw [hpt]
    clear hpt
    obtain ⟨B1, hB1⟩ : ∃ B1, C.within p 0 12 = B1 := ⟨_, rfl⟩
    obtain ⟨B2, hB2⟩ : ∃ B2, C.within b 0 8 = B2 := ⟨_, rfl⟩
    have HI1 := Lib.hid (fun w' => in_any p 0 12 w')
    have HI2 := Lib.hid (fun w' => in_any b 0 8 w')
    rw [hB1, hB2]
    rw [hB1] at HI1
    rw [hB2] at HI2
    clear hB1 hB2
    rcases hn5 with rfl | rfl | rfl | rfl | rfl
    all_goals
      go_enter Try.func49, Try.ntmps49
      go_wp2_with (first | (go_at_call 58; refine (HVA.out _ (by (with_reducible (repeat (first | exact Ext.refl _ | assumption | apply Ext.alloc | apply Ext.drew | exact ext_plus _ _ | (apply Ext.setCell; rotate_left; (simp <;> omega)) | (apply Ext.trans; rotate_left; exact ext_plus _ _) | (apply Ext.trans; rotate_left; assumption)))))).mono ?_; rintro e w' ⟨rfl, hb⟩; have hE2 : Ext w w' := (by (with_reducible (repeat (first | exact Ext.refl _ | assumption | apply Ext.alloc | apply Ext.drew | exact ext_plus _ _ | (apply Ext.setCell; rotate_left; (simp <;> omega)) | (apply Ext.trans; rotate_left; exact ext_plus _ _) | (apply Ext.trans; rotate_left; assumption))))); have hbx := Blk.ext ((Blk.new w (sysV c (.slice a _ cap)) 24).alloc _) hb; have hby := Blk.ext (Blk.new' (w := (w.alloc (.cells (sysV c (.slice a _ cap)) 24))) (b := w.heap.size + 1) (by simp) #[.int .i64 p, .int .i64 b] 86) hb; have k0 := hbx.cell; have l0 := hbx.lt; have k1 := hby.cell; have l1 := hby.lt) | (go_at_call 69; (with_reducible refine (HI1.out _).mono ?_); rintro e w' ⟨rfl, rfl⟩) | (go_at_call 69; (with_reducible refine (HI2.out _).mono ?_); rintro e w' ⟨rfl, rfl⟩) | (go_at_call 69; refine (in_any _ _ _ _).mono ?_; rintro e w' ⟨rfl, rfl⟩))
      all_goals (go_ret; exact ⟨ret_bool (by simp_all), hE2⟩)
theorem extract_get {s : ByteArray} {k W j : Nat} (hj : j < W) (hk : k + W ≤ s.size) (h : j < (s.extract k (k + W)).size) : (s.extract k (k + W))[j] = s[k + j]'(by omega) := by
  rw [ByteArray.getElem_extract]
theorem extract_size {s : ByteArray} {k W : Nat} (hk : k + W ≤ s.size) : (s.extract k (k + W)).size = W := by
  rw [ByteArray.size_extract]; omega
set_option maxRecDepth 100000 in
set_option maxHeartbeats 4000000 in
theorem allowed_any (c : C.Sys) (s : ByteArray) (vl : Value) (hvl : ∃ a n k, vl = .slice a n k) (w : World) (hs : (s.size : Int) = c.days) (hd : c.days ≤ 1000) (hw1 : 1 ≤ c.window) (hwd : c.window ≤ c.days) (ha : ∀ y ∈ s.data.toList, y.toNat < 128) :
    Calls Try.prog 75 #[.agg (sysV c vl), .string s] w fun e w' => e = .returned (.bool (C.allowed c s.data.toList)) ∧ Ext w w' := by
  obtain ⟨al, nl, kl, rfl⟩ := hvl
  have hlen : s.data.toList.length = s.size := by simp
  have hgs : ∀ pos, (h : pos < s.size) → s.data.toList[pos]? = some s[pos] := fun pos h => nat_get h
  obtain ⟨T, hT⟩ : ∃ T, s.data.toList = T := ⟨_, rfl⟩
  rw [hT] at hlen ha ⊢
  simp only [hT] at hgs
  have HLEN := Lib.hid hlen
  have HGS := Lib.hid hgs
  have HA := Lib.hid ha
  clear hlen hT hgs ha
  obtain ⟨W, hW⟩ : ∃ W : Nat, c.window = W := ⟨c.window.toNat, by omega⟩
  obtain ⟨p, hp⟩ : ∃ p : Nat → Bool, p = fun f => decide ((C.cloudy T f W : Int) ≤ c.most) := ⟨_, rfl⟩
  have hres : C.allowed c T = (List.range (s.size + 1 - W)).all p := by
    unfold C.allowed
    rw [HLEN.out, hW, hp]; rfl
  rw [hres]
  have HP := Lib.hid hp
  clear hres hp
  obtain ⟨S, hS⟩ : ∃ S : Nat, s.size = S := ⟨_, rfl⟩
  have hSd : c.days = S := by omega
  have HSZ := Lib.hid hS
  rw [hS]
  rw [hW] at hw1 hwd
  rw [hSd] at hwd hd
  have HW := Lib.hid hW
  have HSD := Lib.hid hSd
  clear hS hs hW hSd
  go_enter Try.func75, Try.ntmps75
  go_upto_region 1 with (fail)
  obtain ⟨w1, hw1'⟩ : ∃ w1, w.alloc (.cells (sysV c (.slice al nl kl)) 24) = w1 := ⟨_, rfl⟩
  have hb : Blk w1 w.heap.size (sysV c (.slice al nl kl)) 24 := by rw [← hw1']; exact Blk.new' rfl _ _
  have hE : Ext w w1 := by rw [← hw1']; (with_reducible (repeat (first | exact Ext.refl _ | assumption | apply Ext.alloc | apply Ext.drew | exact ext_plus _ _ | (apply Ext.setCell; rotate_left; (simp <;> omega)) | (apply Ext.trans; rotate_left; exact ext_plus _ _) | (apply Ext.trans; rotate_left; assumption))))
  rw [hw1']
  clear hw1'
  have hc := hb.cell
  have hl := hb.lt
  unfold sysV at hc
  rw [HW.out, HSD.out] at hc
  go_wp2
  go_loopw [6, 15] (fun _ i wr => ∃ k : Nat, k ≤ S + 1 - W ∧ i = .int .i64 k ∧ (List.range k).all p = true ∧ Ext w1 wr) (fun _ i _ => S + 1 - (intOf i).toNat)
  case atStart => exact ⟨0, Nat.zero_le _, rfl, rfl, Ext.refl _⟩
  case round =>
    rename World => wr
    obtain ⟨k, hk, rfl, hall, hEr⟩ := hrel
    have HALL := Lib.hid hall
    clear hall
    have hcr := fun o => (hEr.cells.1 w.heap.size o hl).trans (hc o)
    have hlr := Nat.lt_of_lt_of_le hl hEr.size
    by_cases hlt : k + W ≤ S
    · have hsl : ∀ wx, (Instr.slice 9 (.string s) (some (.int .i64 (k : Int))) (some (.int .i64 ((k : Int) + (W : Int)))) none).run Try.prog wx = .ok (.string (s.extract k (k + W))) wx := fun wx => by
        have := run_slice_string (P := Try.prog) wx 9 s .i64 .i64 (k : Int) ((k : Int) + (W : Int)) Try.underlying9 (by omega) (by omega) (by rw [HSZ.out]; omega)
        have e : ((k : Int) + (W : Int)).toNat = k + W := by omega
        rw [e, Int.toNat_natCast] at this
        exact this
      have hz0 := extract_size (s := s) (k := k) (W := W) (by rw [HSZ.out]; exact hlt)
      have hgx : ∀ j, j < W → T[k + j]? = (s.extract k (k + W)).data.toList[j]? := fun j hj => by
        have h1 : j < (s.extract k (k + W)).size := by rw [hz0]; exact hj
        rw [HGS.out (k + j) (by rw [HSZ.out]; omega), nat_get h1, extract_get hj (by rw [HSZ.out]; exact hlt)]
      obtain ⟨e, he⟩ : ∃ e, s.extract k (k + W) = e := ⟨_, rfl⟩
      simp only [he] at hsl hgx
      rw [he] at hz0
      have HGX := Lib.hid hgx
      have HZ0 := Lib.hid hz0
      clear he hgx hz0
      go_wp2
      have hz1 := hEr.size
      have hit4 := World.iter_heap wr e 0
      have hE3 : Ext w1 (wr.iter e 0) := hEr.iter e 0
      obtain ⟨z, hz⟩ : ∃ z, wr.heap.size = z := ⟨_, rfl⟩
      obtain ⟨W2, hW2⟩ : ∃ W2, wr.iter e 0 = W2 := ⟨_, rfl⟩
      rw [hz] at hit4 hz1 hlr ⊢
      rw [hW2] at hit4 hE3 ⊢
      clear hz hW2 hsl hcr
      go_loopw [6] (fun n wy => ∃ j : Nat, j ≤ W ∧ n = .int .i64 (C.cloudy T k j : Nat) ∧ wy.heap[z]? = some (.stringIter e j) ∧ Ext w1 wy) (fun _ wy => W - wy.iterPos z)
      case atStart => exact ⟨0, Nat.zero_le _, by simp [C.cloudy], hit4, hE3⟩
      case round =>
        rename World => wy
        obtain ⟨j, hj, rfl, hitz, hEy⟩ := hrel
        have hq0 := iterPos_of hitz
        have hcl := cloudy_le (s := T) (f := k) (j := j)
        have hcy := fun o => (hEy.cells.1 w.heap.size o hl).trans (hc o)
        have hly := Nat.lt_of_lt_of_le hl hEy.size
        by_cases hjl : j < W
        · have hje : j < e.size := by rw [HZ0.out]; exact hjl
          have hu := HGX.out j hjl
          rw [nat_get hje] at hu
          have hy128 := HA.out _ (List.mem_of_getElem? hu)
          have hny : ∀ ty, (Instr.next (.pointer (some ⟨z, 0, none⟩)) true ty).run Try.prog wy = _ := fun ty => Lib.run_next_ascii_at wy z e j ty hitz hje hy128
          have hitz2 := Lib.iterAt_heap wy z e j (j + 1) hitz
          have hEy2 := hEy.iterAt hz1 e (j + 1)
          have HST := Lib.hid (cloudy_step hu)
          obtain ⟨y, hyy⟩ : ∃ y, e[j] = y := ⟨_, rfl⟩
          rw [hyy] at hny hy128 HST
          have h1 := u8_eq y 99 (by decide)
          obtain ⟨q, hq⟩ : ∃ q, (y == UInt8.ofNat 99) = q := ⟨_, rfl⟩
          rw [hq] at h1 HST
          obtain ⟨Y, hY⟩ : ∃ Y : Nat, y.toNat = Y := ⟨_, rfl⟩
          rw [hY] at hny h1 hy128
          obtain ⟨X, hX⟩ : ∃ X, C.cloudy T k j = X := ⟨_, rfl⟩
          rw [hX] at hcl HST ⊢
          obtain ⟨W3, hW3⟩ : ∃ W3, wy.iterAt z e (j + 1) = W3 := ⟨_, rfl⟩
          rw [hW3] at hny hitz2 hEy2
          clear hcy hyy hq hY hX hW3 hu hitz hEy
          cases q with
          | true =>
            go_wp2
            go_roundw
            case rel => exact ⟨j + 1, by omega, by rw [HST.out]; go_num, hitz2, hEy2⟩
            case measure => rw [iterPos_of hitz2, hq0]; omega
          | false =>
            go_wp2
            go_roundw
            case rel => exact ⟨j + 1, by omega, by rw [HST.out]; go_num, hitz2, hEy2⟩
            case measure => rw [iterPos_of hitz2, hq0]; omega
        · obtain rfl : W = j := by omega
          have hny : ∀ ty, (Instr.next (.pointer (some ⟨z, 0, none⟩)) true ty).run Try.prog wy = _ := fun ty => Lib.run_next_end_at wy z e W ty hitz (by rw [HZ0.out]; omega)
          have HS := Lib.hid (range_step HALL.out)
          have HF := Lib.hid (fun (hk : k < S + 1 - W) h => range_false (p := p) hk h)
          have hpk : p k = decide ((C.cloudy T k W : Int) ≤ c.most) := by rw [HP.out]
          rw [hpk] at HS HF
          clear hpk
          obtain ⟨Y, hY⟩ : ∃ Y, C.cloudy T k W = Y := ⟨_, rfl⟩
          rw [hY] at hcl HS HF ⊢
          clear hY
          by_cases hm : (Y : Int) ≤ c.most
          · go_wp2
            go_roundw
            case rel => exact ⟨k + 1, by omega, by go_num, by rw [HS.out]; simpa using hm, hEy⟩
            case measure => simp [intOf]; omega
          · go_wp2
            go_ret
            exact ⟨ret_bool (by rw [HF.out (by omega) (by simpa using hm)]), hE.trans hEy⟩
    · obtain rfl : k = S + 1 - W := by omega
      go_wp2
      go_ret
      exact ⟨ret_bool (by rw [HALL.out]), hE.trans hEr⟩
end Go.Proofs.Ytkjoojmlcjmlgaa
namespace Go.Proofs.Ytkjoojmlcjmlgaa
set_option linter.unusedVariables false
set_option linter.unusedSimpArgs false
open Go.RowKit
set_option maxRecDepth 100000 in
set_option maxHeartbeats 4000000 in
theorem agreesQ_any (s t : ByteArray) (w : World) (hst : t.size = s.size) (ht : t.size ≤ 1000000) :
    Calls Try.prog 55 #[.string s, .string t] w fun e w' => e = .returned (.bool (C.agrees s.data.toList t.data.toList)) ∧ Ext w w' := by
  have hlS : s.data.toList.length = s.size := by simp
  have hlT : t.data.toList.length = t.size := by simp
  obtain ⟨S, hS⟩ : ∃ S, s.data.toList = S := ⟨_, rfl⟩
  obtain ⟨T, hT⟩ : ∃ T, t.data.toList = T := ⟨_, rfl⟩
  have HIS := Lib.hid (fun i x (h : S[i]? = some x) => str_at s i x (by rw [hS]; exact h))
  have HIT := Lib.hid (fun i x (h : T[i]? = some x) => str_at t i x (by rw [hT]; exact h))
  rw [hS] at hlS ⊢
  rw [hT] at hlT ⊢
  have HLS := Lib.hid hlS
  have HLT := Lib.hid hlT
  have HSTE := Lib.hid hst
  clear hS hT hlS hlT hst
  go_enter Try.func55, Try.ntmps55
  go_wp2
  go_loopw [8] (fun i wr => ∃ k : Nat, k ≤ t.size ∧ i = .int .i64 k ∧ C.agrees (S.take k) (T.take k) = true ∧ Ext w wr) (fun i _ => t.size - (intOf i).toNat)
  case atStart => exact ⟨0, Nat.zero_le _, rfl, agrees_mul, by (with_reducible (repeat (first | exact Ext.refl _ | assumption | apply Ext.alloc | apply Ext.drew | exact ext_plus _ _ | (apply Ext.setCell; rotate_left; (simp <;> omega)) | (apply Ext.trans; rotate_left; exact ext_plus _ _) | (apply Ext.trans; rotate_left; assumption))))⟩
  case round =>
    rename World => wr
    obtain ⟨k, hk, rfl, hall, hE⟩ := hrel
    have HALL := Lib.hid hall
    clear hall
    by_cases hlt : k < t.size
    · obtain ⟨x, hx⟩ : ∃ x, S[k]? = some x := ⟨_, List.getElem?_eq_getElem (by rw [HLS.out, ← HSTE.out]; exact hlt)⟩
      obtain ⟨y, hy⟩ : ∃ y, T[k]? = some y := ⟨_, List.getElem?_eq_getElem (by rw [HLT.out]; exact hlt)⟩
      have hi := HIS.out k x hx
      have hj := HIT.out k y hy
      have HST := Lib.hid (agrees_step hx hy HALL.out)
      have HFA := Lib.hid (agrees_false hx hy)
      have h1 := u8_eq y 63 (by decide)
      have h2 : ((y.toNat : Int) == (x.toNat : Int)) = (y == x) := by
        rw [Bool.eq_iff_iff]; simp only [beq_iff_eq]
        exact ⟨fun h => UInt8.toNat_inj.1 (by omega), fun h => by rw [h]⟩
      have e63 : (y == 63) = (y == UInt8.ofNat 63) := rfl
      rw [e63] at HST HFA
      obtain ⟨p, hp⟩ : ∃ p, (y == UInt8.ofNat 63) = p := ⟨_, rfl⟩
      obtain ⟨q, hq⟩ : ∃ q, (y == x) = q := ⟨_, rfl⟩
      rw [hp] at h1 HST HFA
      rw [hq] at h2 HST HFA
      have h1' : ((y.toNat : Int) != 63) = !p := by rw [bne, ← h1]; rfl
      have h2' : ((y.toNat : Int) != (x.toNat : Int)) = !q := by rw [bne, h2]
      clear hx hy hp hq h1 h2 e63
      cases p with
      | true =>
        go_upto_region 4 with (fail)
        refine wp_region_ext 13 (fun _ _ d _ _ h => by cases d <;> exact h) (by kernel_rfl) (by kernel_rfl) (by kernel_rfl) (by kernel_rfl) ?_
        simp only [List.take_succ_cons, List.take_zero, List.drop_succ_cons, List.drop_zero]
        repeat (any_goals (first | go_big_quiet_step (fail) | quiet_step (fail)))
        all_goals (refine wpQuiet_nil ?_; intro w2 hE2)
        replace hE := hE.trans hE2
        go_wp2
        go_roundw
        case rel => exact ⟨k + 1, by omega, by go_num, by rw [HST.out]; rfl, by (with_reducible (repeat (first | exact Ext.refl _ | assumption | apply Ext.alloc | apply Ext.drew | exact ext_plus _ _ | (apply Ext.setCell; rotate_left; (simp <;> omega)) | (apply Ext.trans; rotate_left; exact ext_plus _ _) | (apply Ext.trans; rotate_left; assumption))))⟩
        case measure => simp [intOf]; omega
      | false =>
        cases q with
        | true =>
          go_upto_region 4 with (fail)
          refine wp_region_ext 13 (fun _ _ d _ _ h => by cases d <;> exact h) (by kernel_rfl) (by kernel_rfl) (by kernel_rfl) (by kernel_rfl) ?_
          simp only [List.take_succ_cons, List.take_zero, List.drop_succ_cons, List.drop_zero]
          repeat (any_goals (first | go_big_quiet_step (fail) | quiet_step (fail)))
          all_goals (refine wpQuiet_nil ?_; intro w2 hE2)
          replace hE := hE.trans hE2
          go_wp2
          go_roundw
          case rel => exact ⟨k + 1, by omega, by go_num, by rw [HST.out]; rfl, by (with_reducible (repeat (first | exact Ext.refl _ | assumption | apply Ext.alloc | apply Ext.drew | exact ext_plus _ _ | (apply Ext.setCell; rotate_left; (simp <;> omega)) | (apply Ext.trans; rotate_left; exact ext_plus _ _) | (apply Ext.trans; rotate_left; assumption))))⟩
          case measure => simp [intOf]; omega
        | false =>
          go_upto_region 4 with (fail)
          refine wp_region_ext 13 (fun _ _ d _ _ h => by cases d <;> exact h) (by kernel_rfl) (by kernel_rfl) (by kernel_rfl) (by kernel_rfl) ?_
          simp only [List.take_succ_cons, List.take_zero, List.drop_succ_cons, List.drop_zero]
          repeat (any_goals (first | go_big_quiet_step (fail) | quiet_step (fail)))
          all_goals (refine wpQuiet_nil ?_; intro w2 hE2)
          replace hE := hE.trans hE2
          go_wp2
          go_ret
          exact ⟨ret_bool (by rw [HFA.out rfl]), by (with_reducible (repeat (first | exact Ext.refl _ | assumption | apply Ext.alloc | apply Ext.drew | exact ext_plus _ _ | (apply Ext.setCell; rotate_left; (simp <;> omega)) | (apply Ext.trans; rotate_left; exact ext_plus _ _) | (apply Ext.trans; rotate_left; assumption))))⟩
    · have hr := agrees_take (s := S) (t := T) (k := k) (by rw [HLS.out, HLT.out, HSTE.out]; have := HSTE.out; omega)
      rw [HALL.out] at hr
      have HR := Lib.hid hr
      clear hr
      go_wp2
      go_ret
      exact ⟨ret_bool (by rw [← HR.out]), by (with_reducible (repeat (first | exact Ext.refl _ | assumption | apply Ext.alloc | apply Ext.drew | exact ext_plus _ _ | (apply Ext.setCell; rotate_left; (simp <;> omega)) | (apply Ext.trans; rotate_left; exact ext_plus _ _) | (apply Ext.trans; rotate_left; assumption))))⟩
theorem word_any (n m : Nat) (w : World) (hn : n ≤ 1000000) (hm : m ≤ 1000000) :
    Calls Try.prog 56 #[.int .i64 (n : Int), .int .i64 (m : Int)] w fun e w' => e = .returned (.int .i64 (C.word n m)) ∧ w = w' := by
  have h1 : C.word n m = if n = 0 then 1 else if n = m then 3 else 2 := rfl
  rw [h1]
  by_cases h0 : n = 0
  · subst h0
    rw [if_pos rfl]
    go_enter Try.func56, Try.ntmps56
    go_wp2
    go_ret
    exact ⟨rfl, rfl⟩
  · rw [if_neg h0]
    have h0' : ((n : Int) == 0) = false := by rw [beq_eq_false_iff_ne]; omega
    by_cases h2 : n = m
    · subst h2
      rw [if_pos rfl]
      go_enter Try.func56, Try.ntmps56
      go_wp2
      go_ret
      exact ⟨rfl, rfl⟩
    · rw [if_neg h2]
      have h2' : ((n : Int) == (m : Int)) = false := by rw [beq_eq_false_iff_ne]; omega
      go_enter Try.func56, Try.ntmps56
      go_wp2
      go_ret
      exact ⟨rfl, rfl⟩
end Go.Proofs.Ytkjoojmlcjmlgaa
