/- What was met of each day: how it grows run by run, and how it lies in memory. Known: what is known of each day. -/
import Derived.Test.YtkjoojmlcjmlgaaG1
import Derived.Test.YtkjoojmlcjmlgaaG4
namespace Go.Proofs.Ytkjoojmlcjmlgaa
set_option linter.unusedVariables false
set_option linter.unusedSimpArgs false
open Go.RowKit
theorem lowOf_one (r : List C.Day) (d : Nat) : C.lowOf [r] d = (C.dat r d).battery := by
  unfold C.lowOf C.imin; simp
theorem highOf_one (r : List C.Day) (d : Nat) : C.highOf [r] d = (C.dat r d).battery := by
  unfold C.highOf C.imax; simp
theorem lowOf_snoc {rs : List (List C.Day)} (h : rs ≠ []) (r : List C.Day) (d : Nat) : C.lowOf (rs ++ [r]) d = C.imin (C.lowOf rs d) (C.dat r d).battery := by
  cases rs with
  | nil => exact absurd rfl h
  | cons x xs => unfold C.lowOf; simp [List.foldl_append]
theorem highOf_snoc {rs : List (List C.Day)} (h : rs ≠ []) (r : List C.Day) (d : Nat) : C.highOf (rs ++ [r]) d = C.imax (C.highOf rs d) (C.dat r d).battery := by
  cases rs with
  | nil => exact absurd rfl h
  | cons x xs => unfold C.highOf; simp [List.foldl_append]
theorem lowOf_nil (d : Nat) : C.lowOf [] d = 0 := rfl
theorem highOf_nil (d : Nat) : C.highOf [] d = 0 := rfl
theorem many_snoc (rs : List (List C.Day)) (r : List C.Day) (d i : Nat) : C.many (rs ++ [r]) d i = C.many rs d i + if C.has (C.dat r d).carried i then 1 else 0 := by
  unfold C.many; rw [List.countP_append, List.countP_singleton]
theorem many_le (rs : List (List C.Day)) (d i : Nat) : C.many rs d i ≤ rs.length := List.countP_le_length
theorem imin_min (a b : Int) : min a b = C.imin a b := by unfold C.imin; split <;> omega
theorem imax_max (a b : Int) : max a b = C.imax a b := by unfold C.imax; split <;> omega
/-- The cells of day d: the bounds, and how often each load was carried. -/
def metF (n : Nat) (rs : List (List C.Day)) (d j : Nat) : Int :=
  if j = 0 then C.lowOf rs d else if j = 1 then C.highOf rs d else if j < n + 2 then (C.many rs d (j - 2) : Int) else 0
theorem metF_nil (n d j : Nat) : metF n [] d j = 0 := by
  unfold metF; rw [lowOf_nil, highOf_nil]
  have : C.many [] d (j - 2) = 0 := rfl
  rw [this]
  split
  · rfl
  · split
    · rfl
    · split <;> rfl
/-- Behind the first k days of run r. -/
def metK (n : Nat) (rs : List (List C.Day)) (r : List C.Day) (k d j : Nat) : Int := if d < k then metF n (rs ++ [r]) d j else metF n rs d j
/-- In the middle of day k: both bounds are set, and the first m loads are counted. -/
def metM (n : Nat) (rs : List (List C.Day)) (r : List C.Day) (k m d j : Nat) : Int :=
  if d < k ∨ (d = k ∧ j < m + 2) then metF n (rs ++ [r]) d j else metF n rs d j
def upd (f : Nat → Nat → Int) (a b : Nat) (v : Int) : Nat → Nat → Int := fun d j => if d = a ∧ j = b then v else f d j
theorem metK_zero (n : Nat) (rs : List (List C.Day)) (r : List C.Day) : metK n rs r 0 = metF n rs := by
  funext d j; unfold metK; simp
theorem metK_all {n N : Nat} (rs : List (List C.Day)) (r : List C.Day) {d j : Nat} (h : d < N) : metK n rs r N d j = metF n (rs ++ [r]) d j := by
  unfold metK; rw [if_pos h]
theorem metM_zero {n : Nat} {rs : List (List C.Day)} {r : List C.Day} {k : Nat} {lo hi : Int} (h0 : metF n (rs ++ [r]) k 0 = lo) (h1 : metF n (rs ++ [r]) k 1 = hi) : upd (upd (metK n rs r k) k 0 lo) k 1 hi = metM n rs r k 0 := by
  funext d j
  unfold upd metM metK
  by_cases hd : d = k
  · subst hd
    by_cases hj : j = 1
    · subst hj; simp [h1]
    · by_cases hj0 : j = 0
      · subst hj0; simp [h0]
      · have e1 : ¬ j < 2 := by omega
        simp [hj, hj0, e1]
  · simp [hd]
theorem metM_succ {n : Nat} {rs : List (List C.Day)} {r : List C.Day} {k m : Nat} {v : Int} (hv : metF n (rs ++ [r]) k (m + 2) = v) : upd (metM n rs r k m) k (m + 2) v = metM n rs r k (m + 1) := by
  funext d j
  unfold upd metM
  by_cases hd : d = k
  · subst hd
    by_cases hj : j = m + 2
    · subst hj; simp [hv]
    · by_cases hlt : j < m + 2
      · have : j < m + 1 + 2 := by omega
        simp [hj, hlt, this]
      · have : ¬ j < m + 1 + 2 := by omega
        simp [hj, hlt, this]
  · simp [hd]
theorem metM_all (n : Nat) (rs : List (List C.Day)) (r : List C.Day) (k : Nat) : metM n rs r k n = metK n rs r (k + 1) := by
  funext d j
  unfold metM metK
  by_cases hd : d < k
  · rw [if_pos (.inl hd), if_pos (by omega)]
  · by_cases he : d = k
    · subst he
      rw [if_pos (show d < d + 1 by omega)]
      by_cases hj : j < n + 2
      · rw [if_pos (.inr ⟨rfl, hj⟩)]
      · rw [if_neg (by omega)]
        unfold metF
        have a : ¬ j = 0 := by omega
        have b : ¬ j = 1 := by omega
        simp [a, b, hj]
    · rw [if_neg (by omega), if_neg (by omega)]
theorem metM_low {n : Nat} (rs : List (List C.Day)) (r : List C.Day) (k m : Nat) : metM n rs r k m k (m + 2) = metF n rs k (m + 2) := by
  unfold metM; rw [if_neg (by omega)]
theorem metK_at (n : Nat) (rs : List (List C.Day)) (r : List C.Day) (k j : Nat) : metK n rs r k k j = metF n rs k j := by
  unfold metK; rw [if_neg (by omega)]
theorem metF_low (n : Nat) (rs : List (List C.Day)) (d : Nat) : metF n rs d 0 = C.lowOf rs d := rfl
theorem metF_high (n : Nat) (rs : List (List C.Day)) (d : Nat) : metF n rs d 1 = C.highOf rs d := rfl
theorem metF_many {n : Nat} (rs : List (List C.Day)) (d : Nat) {i : Nat} (h : i < n) : metF n rs d (i + 2) = (C.many rs d i : Int) := by
  unfold metF
  rw [if_neg (by omega), if_neg (by omega), if_pos (by omega)]
  rfl
/-- Block g holds N days, of seven cells each. -/
def MetB (N : Nat) (w : World) (g : Nat) (f : Nat → Nat → Int) : Prop := ∃ cs, Blk w g cs 101 ∧ ∀ d j, d < N → j < 7 → cs[d * 7 + j]? = some (.int .i64 (f d j))
theorem MetB.lt {N : Nat} {w : World} {g : Nat} {f : Nat → Nat → Int} (h : MetB N w g f) : g < w.heap.size := by obtain ⟨cs, hB, _⟩ := h; exact hB.lt
theorem MetB.free {N : Nat} {w : World} {g : Nat} {f : Nat → Nat → Int} (h : MetB N w g f) (o : Nat) : w.frozen? ⟨g, o, none⟩ = false := by obtain ⟨cs, hB, _⟩ := h; exact hB.free o
theorem MetB.cell {N : Nat} {w : World} {g : Nat} {f : Nat → Nat → Int} (h : MetB N w g f) (d j : Nat) (hd : d < N) (hj : j < 7) : w.cell? ⟨g, d * 7 + j, none⟩ = some (.int .i64 (f d j)) := by
  obtain ⟨cs, hB, hc⟩ := h
  rw [hB.cell]; exact hc d j hd hj
theorem MetB.ext {N : Nat} {w w' : World} {g : Nat} {f : Nat → Nat → Int} (h : MetB N w g f) (he : Ext w w') : MetB N w' g f := by
  obtain ⟨cs, hB, hc⟩ := h; exact ⟨cs, hB.ext he, hc⟩
theorem MetB.off {N : Nat} {w w' : World} {g br : Nat} {f : Nat → Nat → Int} (h : MetB N w g f) (he : Off br w w') (hne : g ≠ br) : MetB N w' g f := by
  obtain ⟨cs, hB, hc⟩ := h; exact ⟨cs, hB.off he hne, hc⟩
theorem MetB.other {N : Nat} {w : World} {g : Nat} {f : Nat → Nat → Int} (h : MetB N w g f) {a : Addr} (hne : a.block ≠ g) (v : Value) : MetB N (w.setCell a v) g f := by
  obtain ⟨cs, hB, hc⟩ := h; exact ⟨cs, hB.other hne v, hc⟩
theorem MetB.kept {N : Nat} {A B : World} {row : Option Nat} {g : Nat} {f : Nat → Nat → Int} (h : MetB N A g f) (hg : A.grownBy B row) (hr : ∀ r, row = some r → ∃ o : Obj, A.heap[r]? = some o ∧ o.isCells = false) : MetB N B g f := by
  obtain ⟨cs, hB, hc⟩ := h; exact ⟨cs, hB.kept hg hr, hc⟩
theorem MetB.set {N : Nat} {w : World} {g : Nat} {f : Nat → Nat → Int} (h : MetB N w g f) (d j : Nat) (hd : d < N) (hj : j < 7) (v : Int) : MetB N (w.setCell ⟨g, d * 7 + j, none⟩ (.int .i64 v)) g (upd f d j v) := by
  obtain ⟨cs, hB, hc⟩ := h
  refine ⟨_, hB.set (d * 7 + j) _, fun a b ha hb => ?_⟩
  have h0 := hc d j hd hj
  have hlt : d * 7 + j < cs.size := (Array.getElem?_eq_some_iff.1 h0).1
  unfold upd
  by_cases he : a = d ∧ b = j
  · obtain ⟨rfl, rfl⟩ := he
    rw [if_pos ⟨rfl, rfl⟩, Array.getElem?_setIfInBounds, if_pos rfl, if_pos hlt]
  · rw [if_neg he, Array.getElem?_setIfInBounds, if_neg (by omega)]
    exact hc a b ha hb
theorem MetB.congr {N : Nat} {w : World} {g : Nat} {f f' : Nat → Nat → Int} (h : MetB N w g f) (he : ∀ d j, d < N → f d j = f' d j) : MetB N w g f' := by
  obtain ⟨cs, hB, hc⟩ := h
  exact ⟨cs, hB, fun d j hd hj => by rw [← he d j hd]; exact hc d j hd hj⟩
theorem met_info : (Try.prog.info? 101).map (fun i => (i.zero, i.size, i.bytes)) = some (some (.agg #[.int .i64 0, .int .i64 0, .int .i64 0, .int .i64 0, .int .i64 0, .int .i64 0, .int .i64 0]), 7, 56) := by kernel_rfl
theorem make_mets (n : Nat) (hn : n ≤ 1000000) (w : World) : ∃ cs, (Instr.makeSlice 95 (.int .i64 (n : Int)) (.int .i64 (n : Int))).run Try.prog w = .ok (.slice (some ⟨w.heap.size, 0, none⟩) n n) (w.alloc (.cells cs 101)) ∧ MetB n (w.alloc (.cells cs 101)) w.heap.size (fun _ _ => 0) := by
  obtain ⟨i0, hi, hz0, hz1, hz2⟩ := info_parts met_info
  have h := run_make (P := Try.prog) w 95 101 i0 (.agg #[.int .i64 0, .int .i64 0, .int .i64 0, .int .i64 0, .int .i64 0, .int .i64 0, .int .i64 0]) Try.underlying95 hi hz0 .i64 .i64 n n (by omega) (Int.le_refl _) (by rw [hz2]; omega) (by omega)
  rw [hz1] at h
  simp only [Int.toNat_natCast] at h
  refine ⟨_, h, _, Blk.new _ _ _, fun d j hd hj => ?_⟩
  have hlt : d * 7 + j < n * 7 := by omega
  have hm : (d * 7 + j) % 7 = j := by omega
  unfold madeCells
  simp only [Array.getElem?_map]
  rw [Array.getElem?_range, if_pos hlt]
  simp only [Option.map_some, Value.cells]
  have hs : (#[.int .i64 0, .int .i64 0, .int .i64 0, .int .i64 0, .int .i64 0, .int .i64 0, .int .i64 0] : Array Value).size = 7 := rfl
  rw [hs, hm]
  match j, hj with
  | 0, _ => rfl
  | 1, _ => rfl
  | 2, _ => rfl
  | 3, _ => rfl
  | 4, _ => rfl
  | 5, _ => rfl
  | 6, _ => rfl
end Go.Proofs.Ytkjoojmlcjmlgaa
namespace Go.Proofs.Ytkjoojmlcjmlgaa
set_option linter.unusedVariables false
set_option linter.unusedSimpArgs false
open Go.RowKit Go.Shelf
attribute [local go_sem] Oper.semAt_some
/-- A list of what is known of days, in memory. -/
def Seens (w : World) (v : Value) (xs : List C.Seen) : Prop :=
  ∃ a cap, v = .slice a xs.length cap ∧ ∀ i (h : i < xs.length), ∃ b off vw, a = some ⟨b, off, none⟩ ∧ b < w.heap.size ∧ w.cell? ⟨b, off + i * 3, none⟩ = some (.int .i64 xs[i].low) ∧ w.cell? ⟨b, off + i * 3 + 1, none⟩ = some (.int .i64 xs[i].high) ∧ w.cell? ⟨b, off + i * 3 + 2, none⟩ = some vw ∧ Ints w vw xs[i].loads
theorem Seens.nil (w : World) : Seens w (.slice none 0 0) [] := ⟨none, 0, rfl, fun i h => by simp at h⟩
theorem letters_sky (s : ByteArray) (d : Int) (w : World) (hs : s.size ≤ 1000000) :
    Calls Try.prog 50 #[.string s, .int .i64 d, .string ⟨#[115, 99, 63]⟩] w fun e w' => e = .returned (.bool (s.data.toList.all C.skyLetterB && decide ((s.size : Int) = d))) ∧ Ext w w' := by
  refine (letters_any s ⟨#[115, 99, 63]⟩ d w hs (by decide) (by decide)).mono ?_
  rintro e w' ⟨rfl, h⟩
  refine ⟨?_, h⟩
  have e1 : (fun x => (⟨#[115, 99, 63]⟩ : ByteArray).data.toList.contains x) = C.skyLetterB := by
    funext x; simp [C.skyLetterB, List.contains_eq_any_beq, Bool.or_assoc]; rfl
  rw [e1]
theorem seen_info : (Try.prog.info? 54).map (fun i => (i.zero, i.size, i.bytes)) = some (some (.agg #[.int .i64 0, .int .i64 0, .slice none 0 0]), 3, 40) := by kernel_rfl
theorem word_info : (Try.prog.info? 55).map (fun i => (i.zero, i.size, i.bytes)) = some (some (.int .i64 0), 1, 8) := by kernel_rfl
def knownB (c : C.Sys) (p b : Int) (sky : C.Txt) : Bool := givenB c p b 0 && C.skyB c sky
set_option maxRecDepth 100000 in
set_option maxHeartbeats 8000000 in
theorem known_bad (c : C.Sys) (p b : Int) (sk : ByteArray) (vl : Value) (w : World) (hL : Loads w vl c.loads) (hn : c.loads.length ≤ 1000000) (hs : sk.size ≤ 1000000) (hbad : knownB c p b sk.data.toList = false) :
    Calls Try.prog 28 #[.agg (sysV c vl), .int .i64 p, .int .i64 b, .string sk] w fun e w' => e = .returned (.tuple #[.slice none 0 0, .int .i64 2]) ∧ Ext w w' := by
  have hL' := hL
  obtain ⟨a, cap, rfl, _⟩ := hL'
  have hgi := fun w' (hx : Ext w w') => given_any c p b 0 _ w' (hL.ext hx) hn
  have hle := fun w' => letters_sky sk c.days w' hs
  unfold knownB C.skyB givenB at hbad
  have e0 : sk.data.toList.length = sk.size := by simp
  rw [e0] at hbad
  obtain ⟨B1, hB1⟩ : ∃ B1, (C.sysB c && C.partsB p b && C.offB c 0) = B1 := ⟨_, rfl⟩
  obtain ⟨B2, hB2⟩ : ∃ B2, (sk.data.toList.all C.skyLetterB && decide ((sk.size : Int) = c.days)) = B2 := ⟨_, rfl⟩
  simp only [hB1] at hgi
  simp only [hB2] at hle
  rw [hB1, hB2] at hbad
  have HGI := Lib.hid hgi
  have HLE := Lib.hid hle
  clear hgi hle hB1 hB2 e0
  cases B1 with
  | false =>
    clear hbad
    go_enter Try.func28, Try.ntmps28
    go_wp2_with (first | (go_at_call 49; refine (HGI.out _ (by (with_reducible (repeat (first | exact Ext.refl _ | assumption | apply Ext.alloc | apply Ext.drew | exact ext_plus _ _ | (apply Ext.setCell; rotate_left; (simp <;> omega)) | (apply Ext.trans; rotate_left; exact ext_plus _ _) | (apply Ext.trans; rotate_left; assumption)))))).mono ?_; rintro e w2 ⟨rfl, hb⟩; have hE2 : Ext w w2 := (by (with_reducible (repeat (first | exact Ext.refl _ | assumption | apply Ext.alloc | apply Ext.drew | exact ext_plus _ _ | (apply Ext.setCell; rotate_left; (simp <;> omega)) | (apply Ext.trans; rotate_left; exact ext_plus _ _) | (apply Ext.trans; rotate_left; assumption))))); have hsb := Blk.ext (((Blk.new w (sysV c (.slice a c.loads.length cap)) 24).alloc (.cells #[.string sk] 9)).alloc (.cells #[.int .i64 p, .int .i64 b] 86)) hb; have s0 := hsb.cell; have s1 := hsb.lt; have hkb := Blk.ext ((Blk.new' (w := (w.alloc (.cells (sysV c (.slice a c.loads.length cap)) 24))) (b := w.heap.size + 1) (by simp) #[.string sk] 9).alloc (.cells #[.int .i64 p, .int .i64 b] 86)) hb; have t0 := hkb.cell; have t1 := hkb.lt; have htb := Blk.ext (Blk.new' (w := ((w.alloc (.cells (sysV c (.slice a c.loads.length cap)) 24)).alloc (.cells #[.string sk] 9))) (b := w.heap.size + 1 + 1) (by simp) #[.int .i64 p, .int .i64 b] 86) hb))
    exact bodyPost_ret (v := .tuple #[.slice none 0 0, .int .i64 2]) (by simp [results, Try.results28, go_sem]) rfl ⟨rfl, hE2⟩
  | true =>
    cases B2 with
    | true => cases hbad
    | false =>
      clear hbad
      go_enter Try.func28, Try.ntmps28
      go_wp2_with (first | (go_at_call 49; refine (HGI.out _ (by (with_reducible (repeat (first | exact Ext.refl _ | assumption | apply Ext.alloc | apply Ext.drew | exact ext_plus _ _ | (apply Ext.setCell; rotate_left; (simp <;> omega)) | (apply Ext.trans; rotate_left; exact ext_plus _ _) | (apply Ext.trans; rotate_left; assumption)))))).mono ?_; rintro e w2 ⟨rfl, hb⟩; have hE2 : Ext w w2 := (by (with_reducible (repeat (first | exact Ext.refl _ | assumption | apply Ext.alloc | apply Ext.drew | exact ext_plus _ _ | (apply Ext.setCell; rotate_left; (simp <;> omega)) | (apply Ext.trans; rotate_left; exact ext_plus _ _) | (apply Ext.trans; rotate_left; assumption))))); have hsb := Blk.ext (((Blk.new w (sysV c (.slice a c.loads.length cap)) 24).alloc (.cells #[.string sk] 9)).alloc (.cells #[.int .i64 p, .int .i64 b] 86)) hb; have s0 := hsb.cell; have s1 := hsb.lt; have hkb := Blk.ext ((Blk.new' (w := (w.alloc (.cells (sysV c (.slice a c.loads.length cap)) 24))) (b := w.heap.size + 1) (by simp) #[.string sk] 9).alloc (.cells #[.int .i64 p, .int .i64 b] 86)) hb; have t0 := hkb.cell; have t1 := hkb.lt; have htb := Blk.ext (Blk.new' (w := ((w.alloc (.cells (sysV c (.slice a c.loads.length cap)) 24)).alloc (.cells #[.string sk] 9))) (b := w.heap.size + 1 + 1) (by simp) #[.int .i64 p, .int .i64 b] 86) hb) | (go_at_call 50; refine (HLE.out _).mono ?_; rintro e w3 ⟨rfl, hb3⟩; have hE3 : Ext w w3 := hE2.trans hb3; have hsb3 := hsb.ext hb3; have hkb3 := hkb.ext hb3; have htb3 := htb.ext hb3; clear s0 s1 t0 t1; have s0 := hsb3.cell; have s1 := hsb3.lt; have t0 := hkb3.cell; have t1 := hkb3.lt))
      exact bodyPost_ret (v := .tuple #[.slice none 0 0, .int .i64 2]) (by simp [results, Try.results28, go_sem]) rfl ⟨rfl, hE3⟩
end Go.Proofs.Ytkjoojmlcjmlgaa
