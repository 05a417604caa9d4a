/- Off: how many loads a set has, as the library counts them; the comparer; the question whether a set suffices. Off: the first set that suffices. Off. -/
import Derived.Test.YtkjoojmlcjmlgaaB3
import Derived.Test.YtkjoojmlcjmlgaaD6
namespace Go.Proofs.Ytkjoojmlcjmlgaa
set_option linter.unusedVariables false
set_option linter.unusedSimpArgs false
open Go.RowKit
set_option maxRecDepth 100000 in
theorem ones64_any (y : Fin 32) (w : World) : Calls Try.prog 82 #[.int .u64 (y.val : Int)] w fun e w' => e = .returned (.int .i64 (ones (y.val : Int) 5)) ∧ w = w' := by
  go_enter Try.func82, Try.ntmps82
  go_wp2
  go_ret
  exact ⟨ret_int (by revert y; decide +kernel), rfl⟩
theorem ones_any (y : Fin 32) (w : World) : Calls Try.prog 66 #[.int .u64 (y.val : Int)] w fun e w' => e = .returned (.int .i64 (ones (y.val : Int) 5)) ∧ w = w' := by
  go_enter Try.func66, Try.ntmps66
  go_wp2_with (first | (go_at_call 82; refine (ones64_any y _).mono ?_; rintro e w' ⟨rfl, rfl⟩))
  go_ret
  exact ⟨rfl, rfl⟩
theorem cmpOff_any (x y : Fin 32) (w : World) : Calls Try.prog 65 #[.int .i64 (x.val : Int), .int .i64 (y.val : Int)] w fun e w' => e = .returned (.int .i64 ((ones (x.val : Int) 5 : Int) - (ones (y.val : Int) 5 : Int))) ∧ Ext w w' := by
  have hx := ones_le (x.val : Int) 5
  have hy := ones_le (y.val : Int) 5
  have hxl := x.isLt
  have hyl := y.isLt
  have HO := Lib.hid (fun (z : Fin 32) w' => ones_any z w')
  go_enter Try.func65, Try.ntmps65
  go_wp2_with (first | (go_at_call 66; (with_reducible refine (HO.out _ _).mono ?_); rintro e w' ⟨rfl, rfl⟩))
  go_ret
  exact ⟨rfl, Ext.refl _⟩
end Go.Proofs.Ytkjoojmlcjmlgaa
namespace Go.Proofs.Ytkjoojmlcjmlgaa
set_option linter.unusedVariables false
set_option linter.unusedSimpArgs false
open Go.RowKit
set_option maxRecDepth 100000 in
set_option maxHeartbeats 4000000 in
/-- Whether a set suffices. -/
theorem suffOff_any (c : C.Sys) (O : C.Ok c) (vl : Value) (p b : Int) (hp0 : 0 ≤ p) (hp1 : p ≤ 12) (h2 : 0 ≤ b) (h3 : b ≤ 8) (bs bt : Nat) (w : World) (hL : Loads w vl c.loads) (hB : Blk w bs (sysV c vl) 24) (hT : Blk w bt #[.int .i64 p, .int .i64 b] 86) (s : Int) (hs0 : 0 ≤ s) (hs1 : s < 2 ^ c.loads.length) :
    Calls Try.prog 68 #[.int .i64 s, .pointer (some ⟨bs, 0, none⟩), .pointer (some ⟨bt, 0, none⟩)] w fun e w' => e = .returned (.bool (C.suffice c p b s)) ∧ Ext w w' := by
  have hL' := hL
  obtain ⟨a, cap, rfl, _⟩ := hL'
  have hfa := fun w' (hx : Ext w w') => fault_any c (.slice a c.loads.length cap) p b s w' O hp0 hp1 h2 h3 hs0 hs1 (hL.ext hx)
  have hsf : C.suffice c p b s = (C.fault c p b s).isNone := rfl
  rw [hsf]
  obtain ⟨S, hS⟩ : ∃ S, C.fault c p b s = S := ⟨_, rfl⟩
  simp only [hS] at hfa
  rw [hS]
  have k0 := hB.cell
  have k1 := hB.lt
  have k2 := hT.cell
  have k3 := hT.lt
  have HFA := Lib.hid hfa
  clear hfa hsf hS hs1
  cases S with
  | none =>
    dsimp only [faultV] at HFA
    go_enter Try.func68, Try.ntmps68
    go_wp2_with (first | (go_at_call 57; refine (HFA.out _ (by (with_reducible (repeat (first | exact Ext.refl _ | assumption | apply Ext.alloc | apply Ext.drew | exact ext_plus _ _ | (apply Ext.setCell; rotate_left; (simp <;> omega)) | (apply Ext.trans; rotate_left; exact ext_plus _ _) | (apply Ext.trans; rotate_left; assumption)))))).mono ?_; rintro e w3 ⟨rfl, hb3⟩))
    go_ret
    exact ⟨rfl, by (with_reducible (repeat (first | exact Ext.refl _ | assumption | apply Ext.alloc | apply Ext.drew | exact ext_plus _ _ | (apply Ext.setCell; rotate_left; (simp <;> omega)) | (apply Ext.trans; rotate_left; exact ext_plus _ _) | (apply Ext.trans; rotate_left; assumption))))⟩
  | some r =>
    dsimp only [faultV] at HFA
    go_enter Try.func68, Try.ntmps68
    go_wp2_with (first | (go_at_call 57; refine (HFA.out _ (by (with_reducible (repeat (first | exact Ext.refl _ | assumption | apply Ext.alloc | apply Ext.drew | exact ext_plus _ _ | (apply Ext.setCell; rotate_left; (simp <;> omega)) | (apply Ext.trans; rotate_left; exact ext_plus _ _) | (apply Ext.trans; rotate_left; assumption)))))).mono ?_; rintro e w3 ⟨rfl, hb3⟩))
    go_ret
    exact ⟨rfl, by (with_reducible (repeat (first | exact Ext.refl _ | assumption | apply Ext.alloc | apply Ext.drew | exact ext_plus _ _ | (apply Ext.setCell; rotate_left; (simp <;> omega)) | (apply Ext.trans; rotate_left; exact ext_plus _ _) | (apply Ext.trans; rotate_left; assumption))))⟩
set_option maxRecDepth 100000 in
set_option maxHeartbeats 8000000 in
theorem firstOff_any (c : C.Sys) (O : C.Ok c) (vl : Value) (p b : Int) (hp0 : 0 ≤ p) (hp1 : p ≤ 12) (h2 : 0 ≤ b) (h3 : b ≤ 8) (bs bt g cap N : Nat) (L : List Int) (w : World) (hLs : Loads w vl c.loads) (hB : Blk w bs (sysV c vl) 24) (hT : Blk w bt #[.int .i64 p, .int .i64 b] 86) (hrow : IRow w g L) (hN : N = L.length) (hsz : N ≤ 1000000) (hr : ∀ s ∈ L, 0 ≤ s ∧ s < 2 ^ c.loads.length) :
    Calls Try.prog 67 #[.slice (some ⟨g, 0, none⟩) N cap, .func (.func 68) #[] #[.pointer (some ⟨bs, 0, none⟩), .pointer (some ⟨bt, 0, none⟩)]] w fun e w' => e = .returned (.tuple #[.int .i64 ((L.find? (C.suffice c p b)).getD 0), .bool (L.find? (C.suffice c p b)).isSome]) ∧ Ext w w' := by
  have HSU := Lib.hid (fun w' (hx : Ext w w') s hs => suffOff_any c O vl p b hp0 hp1 h2 h3 bs bt w' (hLs.ext hx) (hB.ext hx) (hT.ext hx) s (hr s hs).1 (hr s hs).2)
  have HROW := Lib.hid hrow
  have HN := Lib.hid hN
  have hNl : N ≤ L.length := by omega
  have hNl2 : L.length ≤ N := by omega
  clear hN hrow hB hLs hr hT
  go_enter Try.func67, Try.ntmps67
  go_wp2
  go_loopw [7, 11] (fun _ i wr => ∃ k : Nat, k ≤ N ∧ i = .int .i64 k ∧ (L.take k).find? (C.suffice c p b) = none ∧ Ext w wr) (fun _ i _ => N - (intOf i).toNat)
  case atStart => exact ⟨0, Nat.zero_le _, rfl, rfl, Ext.refl _⟩
  case round =>
    rename World => wr
    obtain ⟨k, hk, rfl, hfi, hE⟩ := hrel
    have HFI := Lib.hid hfi
    clear hfi
    by_cases hlt : k < N
    · have hkL : k < L.length := by omega
      have hrw := HROW.out.ext hE
      have m0 := IRow.get hrw k hkL
      have ml := RowB.lt hrw
      have mem := List.getElem_mem hkL
      have hsu := fun w' (hx : Ext w w') => HSU.out w' hx _ mem
      have HFN := Lib.hid (fun h => findL_none hkL HFI.out h)
      have HFS := Lib.hid (fun h => findL_some hkL HFI.out h)
      obtain ⟨s, hs⟩ : ∃ s, L[k] = s := ⟨_, rfl⟩
      rw [hs] at m0 HFN HFS
      simp only [hs] at hsu
      obtain ⟨B, hBB⟩ : ∃ B, C.suffice c p b s = B := ⟨_, rfl⟩
      simp only [hBB] at hsu
      rw [hBB] at HFN HFS
      have HS := Lib.hid hsu
      clear hsu hs hBB mem
      cases B with
      | false =>
        go_wp2_with (first | (go_at_call 68; refine (HS.out _ (by (with_reducible (repeat (first | exact Ext.refl _ | assumption | apply Ext.alloc | apply Ext.drew | exact ext_plus _ _ | (apply Ext.setCell; rotate_left; (simp <;> omega)) | (apply Ext.trans; rotate_left; exact ext_plus _ _) | (apply Ext.trans; rotate_left; assumption)))))).mono ?_; rintro e w2 ⟨rfl, hb2⟩))
        go_roundw
        case rel => exact ⟨k + 1, by omega, by go_num, HFN.out (by first | rfl | trivial), by (with_reducible (repeat (first | exact Ext.refl _ | assumption | apply Ext.alloc | apply Ext.drew | exact ext_plus _ _ | (apply Ext.setCell; rotate_left; (simp <;> omega)) | (apply Ext.trans; rotate_left; exact ext_plus _ _) | (apply Ext.trans; rotate_left; assumption))))⟩
        case measure => simp [intOf]; omega
      | true =>
        go_wp2_with (first | (go_at_call 68; refine (HS.out _ (by (with_reducible (repeat (first | exact Ext.refl _ | assumption | apply Ext.alloc | apply Ext.drew | exact ext_plus _ _ | (apply Ext.setCell; rotate_left; (simp <;> omega)) | (apply Ext.trans; rotate_left; exact ext_plus _ _) | (apply Ext.trans; rotate_left; assumption)))))).mono ?_; rintro e w2 ⟨rfl, hb2⟩))
        exact bodyPost_ret (v := .tuple #[.int .i64 s, .bool true]) (by simp [results, Try.results67, go_sem]) rfl ⟨by rw [HFS.out (by first | rfl | trivial)]; rfl, by (with_reducible (repeat (first | exact Ext.refl _ | assumption | apply Ext.alloc | apply Ext.drew | exact ext_plus _ _ | (apply Ext.setCell; rotate_left; (simp <;> omega)) | (apply Ext.trans; rotate_left; exact ext_plus _ _) | (apply Ext.trans; rotate_left; assumption))))⟩
    · obtain rfl : N = k := by omega
      have hall : (L.take N).find? (C.suffice c p b) = L.find? (C.suffice c p b) := by rw [List.take_of_length_le (by omega)]
      rw [hall] at HFI
      go_wp2
      exact bodyPost_ret (v := .tuple #[.int .i64 0, .bool false]) (by simp [results, Try.results67, go_sem]) rfl ⟨by rw [HFI.out]; rfl, hE⟩
/-- Whether a set has no load that must be carried. -/
def freeB (c : C.Sys) (s : Int) : Bool := (List.range c.loads.length).all fun i => !((C.lat c.loads i).must && C.has s i)
def frees (c : C.Sys) (k : Nat) : List Int := ((List.range k).map fun x => ((x : Nat) : Int)).filter (freeB c)
theorem frees_succ (c : C.Sys) (k : Nat) : frees c (k + 1) = frees c k ++ if freeB c k then [(k : Int)] else [] := by
  unfold frees; rw [List.range_succ, List.map_append, List.filter_append]; by_cases h : freeB c k = true <;> simp [h]
theorem frees_len (c : C.Sys) (k : Nat) : (frees c k).length ≤ k := by
  unfold frees
  have := List.length_filter_le (freeB c) ((List.range k).map fun x => ((x : Nat) : Int))
  simpa using this
theorem frees_mem (c : C.Sys) (k : Nat) (s : Int) : s ∈ frees c k ↔ (0 ≤ s ∧ s < k) ∧ freeB c s = true := by
  unfold frees
  rw [List.mem_filter, List.mem_map]
  constructor
  · rintro ⟨⟨x, hx, rfl⟩, h⟩
    have := List.mem_range.1 hx
    exact ⟨by omega, h⟩
  · rintro ⟨h1, h2⟩
    exact ⟨⟨s.toNat, List.mem_range.2 (by omega), by omega⟩, h2⟩
theorem frees_rank (c : C.Sys) (k : Nat) : (frees c k).Pairwise fun x y => x.toNat < y.toNat := by
  unfold frees
  refine List.Pairwise.filter _ ?_
  rw [List.pairwise_map]
  exact List.Pairwise.imp (fun h => by simpa using h) List.pairwise_lt_range
theorem free_zero (c : C.Sys) : freeB c 0 = true := by
  unfold freeB
  rw [List.all_eq_true]
  intro i _
  have : C.has 0 i = false := by unfold C.has; simp
  rw [this]; simp
theorem frees_pos (c : C.Sys) {k : Nat} (h : 0 < k) : 0 < (frees c k).length := by
  have : (0 : Int) ∈ frees c k := (frees_mem c k 0).2 ⟨by omega, free_zero c⟩
  exact List.length_pos_of_mem this
end Go.Proofs.Ytkjoojmlcjmlgaa
namespace Go.Proofs.Ytkjoojmlcjmlgaa
set_option linter.unusedVariables false
set_option linter.unusedSimpArgs false
open Go.RowKit
/-- What Off tells: of the sets that help, the one with the fewest loads, and least as a number. -/
def OffIs (c : C.Sys) (p b : Int) (o : Option Int) : Prop :=
  match o with
  | none => ∀ s, 0 ≤ s → s < 2 ^ c.loads.length → freeB c s = true → C.suffice c p b s = false
  | some t => (0 ≤ t ∧ t < 2 ^ c.loads.length) ∧ freeB c t = true ∧ C.suffice c p b t = true ∧ ∀ s, 0 ≤ s → s < 2 ^ c.loads.length → freeB c s = true → C.suffice c p b s = true → ones t 5 < ones s 5 ∨ (ones t 5 = ones s 5 ∧ t ≤ s)
theorem off_of_sorted {c : C.Sys} {p b : Int} {Q : Nat} (hQ : (2 : Int) ^ c.loads.length = Q) {Z : List Int} (hp : Z.Perm (frees c Q)) (hs : S.Srt (S.Ord (fun s => (ones s 5 : Int)) Int.toNat) Z) : OffIs c p b (Z.find? (C.suffice c p b)) := by
  have hm : ∀ s, s ∈ Z ↔ (0 ≤ s ∧ s < 2 ^ c.loads.length) ∧ freeB c s = true := fun s => by rw [hp.mem_iff, frees_mem, hQ]
  cases h : Z.find? (C.suffice c p b) with
  | none =>
    intro s h0 h1 hf
    have := List.find?_eq_none.1 h s ((hm s).2 ⟨⟨h0, h1⟩, hf⟩)
    simpa using this
  | some t =>
    obtain ⟨h1, A, B, rfl, h2⟩ := List.find?_eq_some_iff_append.1 h
    have ht := (hm t).1 (by simp)
    refine ⟨ht.1, ht.2, h1, fun s h0 h3 hf hsf => ?_⟩
    have hz := (hm s).2 ⟨⟨h0, h3⟩, hf⟩
    rw [List.mem_append, List.mem_cons] at hz
    rcases hz with hz | rfl | hz
    · have := h2 s hz
      rw [hsf] at this
      simp at this
    · exact .inr ⟨rfl, Int.le_refl _⟩
    · have hpw := (List.pairwise_append.1 hs).2.1
      have := (List.pairwise_cons.1 hpw).1 s hz
      rcases this with h5 | ⟨h5, h4⟩
      · dsimp only at h5; exact .inl (by omega)
      · dsimp only at h5; exact .inr ⟨by omega, by omega⟩
def offR (c : C.Sys) (p b : Int) (o : Option Int) : Int × Int := if givenB c p b 0 then (match o with | none => (0, 5) | some t => (t, 0)) else (0, 2)
def OffPost (c : C.Sys) (p b : Int) (w : World) (e : Ending) (w' : World) : Prop :=
  ∃ o, (givenB c p b 0 = true → OffIs c p b o) ∧ e = .returned (.tuple #[.int .i64 (offR c p b o).1, .int .i64 (offR c p b o).2]) ∧ Ext w w'
set_option maxRecDepth 100000 in
set_option maxHeartbeats 16000000 in
theorem offQ_any (c : C.Sys) (p b : Int) (vl : Value) (w : World) (hL : Loads w vl c.loads) (hn : c.loads.length ≤ 1000000) :
    Calls Try.prog 41 #[.agg (sysV c vl), .int .i64 p, .int .i64 b] w (OffPost c p b w) := by
  have hL' := hL
  obtain ⟨a, cap, rfl, hxl⟩ := hL'
  have HXL := Lib.hid hxl
  have hgi := fun w' (hx : Ext w w') => given_any c p b 0 _ w' (hL.ext hx) hn
  obtain ⟨B, hB⟩ : ∃ B, givenB c p b 0 = B := ⟨_, rfl⟩
  simp only [show (C.sysB c && C.partsB p b && C.offB c 0) = B from hB] at hgi
  have HB := Lib.hid hB
  have HGI := Lib.hid hgi
  clear hgi hxl
  cases B with
  | false =>
    clear hB
    go_enter Try.func41, Try.ntmps41
    go_wp2
    refine wp_scope_ret fun RR hR' => ?_
    go_wp2_with (first | (go_at_call 49; refine (HGI.out _ (by (with_reducible (repeat (first | exact Ext.refl _ | assumption | apply Ext.alloc | apply Ext.drew | exact ext_plus _ _ | (apply Ext.setCell; rotate_left; (simp <;> omega)) | (apply Ext.trans; rotate_left; exact ext_plus _ _) | (apply Ext.trans; rotate_left; assumption)))))).mono ?_; rintro e w2 ⟨rfl, hb⟩; have hE2 : Ext w w2 := (by (with_reducible (repeat (first | exact Ext.refl _ | assumption | apply Ext.alloc | apply Ext.drew | exact ext_plus _ _ | (apply Ext.setCell; rotate_left; (simp <;> omega)) | (apply Ext.trans; rotate_left; exact ext_plus _ _) | (apply Ext.trans; rotate_left; assumption))))); have hsb := Blk.ext ((Blk.new w (sysV c (.slice a c.loads.length cap)) 24).alloc (.cells #[.int .i64 p, .int .i64 b] 86)) hb; have s0 := hsb.cell; have s1 := hsb.lt; have htb := Blk.ext (Blk.new' (w := (w.alloc (.cells (sysV c (.slice a c.loads.length cap)) 24))) (b := w.heap.size + 1) (by simp) #[.int .i64 p, .int .i64 b] 86) hb))
    refine hR' _ _ ?_
    exact bodyPost_ret (v := .tuple #[.int .i64 0, .int .i64 2]) (by simp [results, Try.results41, go_sem]) rfl ⟨none, (fun h => by rw [HB.out] at h; cases h), by unfold offR; rw [HB.out]; rfl, hE2⟩
  | true =>
    have hB2 := hB
    unfold givenB at hB2
    simp only [Bool.and_eq_true] at hB2
    have O := C.ok_of hB2.1.1
    obtain ⟨hp0, hp1, h2, h3⟩ := C.parts_of hB2.1.2
    have HO := Lib.hid O
    have hn1 := O.n1
    have hn5 := O.n5
    obtain ⟨i0, hi, hz0, hz1, hz2⟩ := info_parts int_info
    obtain ⟨Q, hQ⟩ : ∃ Q : Nat, 2 ^ c.loads.length = Q := ⟨_, rfl⟩
    have hQ32 : Q ≤ 32 := by rw [← hQ]; exact Nat.pow_le_pow_right (n := 2) (by decide) hn5
    have hQ0 : 0 < Q := by rw [← hQ]; exact Nat.pow_pos (by decide)
    have hQI : (2 : Int) ^ c.loads.length = (Q : Int) := by rw [← hQ, Int.natCast_pow]; rfl
    have hpw : wrap64 ((2 : Int) ^ c.loads.length) = (Q : Int) := by rw [hQI]; exact wrap_small Q (by omega)
    have HPW := Lib.hid hpw
    have HQI := Lib.hid hQI
    clear hB O hB2 hQ hQI hpw
    go_enter Try.func41, Try.ntmps41
    go_wp2
    refine wp_scope_ret fun RR hR' => ?_
    go_wp2_with (first | (go_at_call 49; refine (HGI.out _ (by (with_reducible (repeat (first | exact Ext.refl _ | assumption | apply Ext.alloc | apply Ext.drew | exact ext_plus _ _ | (apply Ext.setCell; rotate_left; (simp <;> omega)) | (apply Ext.trans; rotate_left; exact ext_plus _ _) | (apply Ext.trans; rotate_left; assumption)))))).mono ?_; rintro e w2 ⟨rfl, hb⟩; have hE2 : Ext w w2 := (by (with_reducible (repeat (first | exact Ext.refl _ | assumption | apply Ext.alloc | apply Ext.drew | exact ext_plus _ _ | (apply Ext.setCell; rotate_left; (simp <;> omega)) | (apply Ext.trans; rotate_left; exact ext_plus _ _) | (apply Ext.trans; rotate_left; assumption))))); have hsb := Blk.ext ((Blk.new w (sysV c (.slice a c.loads.length cap)) 24).alloc (.cells #[.int .i64 p, .int .i64 b] 86)) hb; have s0 := hsb.cell; have s1 := hsb.lt; have htb := Blk.ext (Blk.new' (w := (w.alloc (.cells (sysV c (.slice a c.loads.length cap)) 24))) (b := w.heap.size + 1) (by simp) #[.int .i64 p, .int .i64 b] 86) hb))
    go_step3
    go_wp2
    rw [HPW.out]
    have hR2 := Lib.hid hR'
    have HSB := Lib.hid hsb
    have HTB := Lib.hid htb
    have hbw := hE2.size
    have hsl := htb.lt
    clear s0 s1 hb hsb htb hR'
    go_loopw [9, 10, 11, 12, 26] (fun l _ _ _ i wr => ∃ k : Nat, k ≤ Q ∧ i = .int .i64 k ∧ wr.ownsRow w2.heap.size 3 1 l (frees c k).length ((frees c k).map (Value.int .i64)) ∧ Ext w2 wr) (fun _ _ _ _ i _ => Q - (intOf i).toNat)
    case atStart => exact ⟨0, Nat.zero_le _, rfl, World.ownsRow_nil _ _ _ _, Ext.refl _⟩
    case round =>
      rename World => wr
      obtain ⟨k, hk, rfl, hown, hE⟩ := hrel
      have hfl := frees_len c k
      obtain ⟨a9, c9, rfl⟩ := own_slice hown
      have s0 := (HSB.out.ext hE).cell
      have s1 := (HSB.out.ext hE).lt
      by_cases hlt : k < Q
      · go_wp2
        clear s0 s1
        go_loopw [11, 12, 32] (fun _ _ i wy => ∃ j : Nat, j ≤ c.loads.length ∧ i = .int .i64 j ∧ ((List.range j).all fun i => !((C.lat c.loads i).must && C.has k i)) = true ∧ Ext wr wy) (fun _ _ i _ => c.loads.length - (intOf i).toNat)
        case atStart => exact ⟨0, Nat.zero_le _, rfl, rfl, Ext.refl _⟩
        case round =>
          rename World => wy
          obtain ⟨j, hj, rfl, hall, hEy⟩ := hrel
          have HALL := Lib.hid hall
          clear hall
          by_cases hjl : j < c.loads.length
          · have hE0 : Ext w wy := (hE2.trans hE).trans hEy
            obtain ⟨bL, oL, rfl, hbL, hAtL⟩ := HXL.out j hjl
            obtain ⟨l0, l1, l2⟩ := load_cells (ate_stays _ _ _ _ _ _ hE0 hbL hAtL)
            have hbl := Nat.lt_of_lt_of_le hbL hE0.size
            have hbit := bit_has (k : Int) j (by omega) (by omega)
            have hst := range_step (p := fun i => !((C.lat c.loads i).must && C.has k i)) HALL.out
            have hfa := fun h => range_false (p := fun i => !((C.lat c.loads i).must && C.has k i)) hjl h
            (try dsimp only at hst hfa)
            rw [C.lat_at hjl] at hst hfa
            obtain ⟨H, hH⟩ : ∃ H, C.has k j = H := ⟨_, rfl⟩
            rw [hH] at hbit hst hfa
            obtain ⟨ld, hld⟩ : ∃ ld, c.loads[j] = ld := ⟨_, rfl⟩
            rw [hld] at l0 l1 l2 hst hfa
            obtain ⟨need, keep, mst⟩ := ld
            have HST := Lib.hid hst
            have HFA := Lib.hid hfa
            clear hAtL hst hfa hH hld
            cases mst with
            | false =>
              go_wp2
              go_roundw
              case rel => exact ⟨j + 1, by omega, by go_num, by rw [HST.out]; rfl, hEy.alloc _⟩
              case measure => simp [intOf]; omega
            | true =>
              cases H with
              | false =>
                go_wp2
                go_roundw
                case rel => exact ⟨j + 1, by omega, by go_num, by rw [HST.out]; rfl, hEy.alloc _⟩
                case measure => simp [intOf]; omega
              | true =>
                have hnf : freeB c k = false := HFA.out rfl
                have hfs : frees c (k + 1) = frees c k := by rw [frees_succ, hnf]; simp
                have HFS := Lib.hid hfs
                clear hnf hfs
                have hE3 : Ext wr (wy.alloc (.cells #[.int .i64 need, .int .i64 keep, .bool true] 45)) := hEy.alloc _
                go_wp2
                go_roundw
                case rel => exact ⟨k + 1, by omega, by go_num, by rw [HFS.out]; exact own_ext hown hE3, hE.trans hE3⟩
                case measure => simp [intOf]; omega
          · obtain rfl : j = c.loads.length := by omega
            have hnf : freeB c k = true := HALL.out
            have hfs : frees c (k + 1) = frees c k ++ [(k : Int)] := by rw [frees_succ, hnf]; simp
            have HFS := Lib.hid hfs
            clear hnf hfs
            have hoy := own_ext hown hEy
            have hwy := hE.size
            have hwy2 := hEy.size
            go_wp2_with (at_builtin; refine wpList_append_own _ rfl _ _ 111 rfl (w2.heap.size) 3 i0 (.int .i64 0) 1 8 Try.underlying111 hi hz0 hz1 hz2 rfl (by decide) _ _ _ rfl (own_ext hoy ((Ext.refl _).alloc _)) ⟨wy.heap.size, 0, none⟩ 1 1 [.int .i64 (k : Int)] rfl rfl (cell_one _ _ _ (by simp)) (one_int _) (by unfold maxLen; omega) (by omega) (by simp; omega) ?_; intro v' w9 hown' hgrow _)
            have hE9 : Ext w2 w9 := Ext.grown ((hE.trans hEy).alloc _) hgrow (own_base hoy)
            go_roundw
            case rel => exact ⟨k + 1, by omega, by go_num, by rw [HFS.out, List.length_append, List.map_append]; exact hown', hE9⟩
            case measure => simp [intOf]; omega
      · obtain rfl : k = Q := by omega
        obtain ⟨g, cp, e1, hgb, hgl⟩ := own_pos hown (frees_pos c hQ0)
        injection e1 with e1 _ e3
        subst e1 e3
        have hrow : IRow wr g (frees c k) := IRow.of_own hown
        have hfr : ∀ s ∈ frees c k, 0 ≤ s ∧ s < 2 ^ c.loads.length := fun s hs => by rw [HQI.out]; exact ((frees_mem c k s).1 hs).1
        have hfr32 : ∀ s ∈ frees c k, 0 ≤ s ∧ s < 32 := fun s hs => by have := ((frees_mem c k s).1 hs).1; omega
        have hso := sortStableIn g (fun s => (ones s 5 : Int)) Int.toNat (fun s => 0 ≤ s ∧ s < 32) (fun _ => True) (fun _ _ _ _ => trivial)
          (fun x _ => by have := ones_le x 5; omega)
          (fun w' x y _ hx hy => by
            obtain ⟨x', rfl⟩ := Int.eq_ofNat_of_zero_le hx.1
            obtain ⟨y', rfl⟩ := Int.eq_ofNat_of_zero_le hy.1
            exact cmpOff_any ⟨x', by omega⟩ ⟨y', by omega⟩ w')
          (frees c k) c9 (frees c k).length wr trivial hfr32 (frees_rank c k) rfl (by omega) hrow
        have HSO := Lib.hid hso
        have hgw : w2.heap.size ≤ g := by omega
        have hfi := fun Z (hp : Z.Perm (frees c k)) w' (hx : Ext w2 w') hr => firstOff_any c HO.out (.slice a c.loads.length cap) p b hp0 hp1 h2 h3 w.heap.size (w.heap.size + 1) g c9 (frees c k).length Z w' ((hL.ext hE2).ext hx) (HSB.out.ext hx) (HTB.out.ext hx) hr hp.length_eq.symm (by omega) (fun s hs => hfr s (hp.mem_iff.1 hs))
        have HFI := Lib.hid hfi
        clear hso hfi
        go_wp2_with (first | (go_at_call 64; refine HSO.out.mono ?_; rintro e w3 ⟨rfl, Z, hZp, hZs, hZr, hZo⟩; have hE3 := hZo.ext0 hE hgw) | (go_at_call 67; refine (HFI.out Z hZp _ (by (with_reducible (repeat (first | exact Ext.refl _ | assumption | apply Ext.alloc | apply Ext.drew | exact ext_plus _ _ | (apply Ext.setCell; rotate_left; (simp <;> omega)) | (apply Ext.trans; rotate_left; exact ext_plus _ _) | (apply Ext.trans; rotate_left; assumption))))) hZr).mono ?_; rintro e w4 ⟨rfl, hE34⟩))
        all_goals rename (List.find? (C.suffice c p b) Z).isNone = _ => hnn
        all_goals refine hR2.out _ _ ?_
        all_goals have hoff := off_of_sorted (p := p) (b := b) HQI.out hZp hZs
        all_goals cases hfd : Z.find? (C.suffice c p b) with
          | none =>
            rw [hfd] at hoff hnn
            first | (cases hnn; done) | exact bodyPost_ret (v := .tuple #[.int .i64 0, .int .i64 5]) (by simp [results, Try.results41, go_sem]) rfl ⟨none, fun _ => hoff, by unfold offR; rw [HB.out]; rfl, by (with_reducible (repeat (first | exact Ext.refl _ | assumption | apply Ext.alloc | apply Ext.drew | exact ext_plus _ _ | (apply Ext.setCell; rotate_left; (simp <;> omega)) | (apply Ext.trans; rotate_left; exact ext_plus _ _) | (apply Ext.trans; rotate_left; assumption))))⟩
          | some t =>
            rw [hfd] at hoff hnn
            first | (cases hnn; done) | exact bodyPost_ret (v := .tuple #[.int .i64 t, .int .i64 0]) (by simp [results, Try.results41, go_sem]) rfl ⟨some t, fun _ => hoff, by unfold offR; rw [HB.out]; rfl, by (with_reducible (repeat (first | exact Ext.refl _ | assumption | apply Ext.alloc | apply Ext.drew | exact ext_plus _ _ | (apply Ext.setCell; rotate_left; (simp <;> omega)) | (apply Ext.trans; rotate_left; exact ext_plus _ _) | (apply Ext.trans; rotate_left; assumption))))⟩
end Go.Proofs.Ytkjoojmlcjmlgaa
