/- The counts. -/
import Derived.Test.YthffoglpekpmdaaG5
namespace Go.Proofs.Ythffoglpekpmdaa
set_option linter.unusedVariables false
set_option linter.unusedSimpArgs false
open Go.RowKit
def countedS (r : R.Reef) (x : Int × Int) : Int × Int := (R.least (countB r x.1) 40 0 (x.1 + 1), x.2)
def counts (r : R.Reef) (plan : List Int) : List (List (Int × Int)) := (R.stocks r plan).map fun row => row.map (countedS r)
/-- The first j elements turned. -/
def turnTo {α : Type} (f : α → α) (xs : List α) (j : Nat) : List α := (xs.take j).map f ++ xs.drop j
theorem turnTo_len {α : Type} (f : α → α) (xs : List α) (j : Nat) : (turnTo f xs j).length = xs.length := by
  unfold turnTo; simp; omega
theorem turnTo_zero {α : Type} (f : α → α) (xs : List α) : turnTo f xs 0 = xs := by simp [turnTo]
theorem turnTo_all {α : Type} (f : α → α) (xs : List α) : turnTo f xs xs.length = xs.map f := by simp [turnTo]
theorem turnTo_get {α : Type} (f : α → α) (xs : List α) (j i : Nat) : (turnTo f xs j)[i]? = (xs[i]?).map fun x => if i < j then f x else x := by
  unfold turnTo
  rw [List.getElem?_append]
  simp only [List.length_map, List.length_take, List.getElem?_map, List.getElem?_take, List.getElem?_drop]
  by_cases h : i < min j xs.length
  · have h1 : i < j := by omega
    simp [h, h1]
  · rw [if_neg h]
    by_cases h2 : i < xs.length
    · have h3 : ¬ i < j := by omega
      have e : j + (i - min j xs.length) = i := by omega
      rw [e]; simp [h3]
    · have h3 : xs.length ≤ j + (i - min j xs.length) := by omega
      rw [List.getElem?_eq_none h3, List.getElem?_eq_none (by omega)]; rfl
theorem turnTo_at {α : Type} (f : α → α) (xs : List α) (j : Nat) (h : j < xs.length) (h' : j < (turnTo f xs j).length) : (turnTo f xs j)[j] = xs[j] := by
  have := turnTo_get f xs j j
  rw [List.getElem?_eq_getElem h', List.getElem?_eq_getElem h] at this
  simpa using this
theorem turnTo_step {α : Type} (f : α → α) (xs : List α) (j : Nat) (h : j < xs.length) : (turnTo f xs j).set j (f xs[j]) = turnTo f xs (j + 1) := by
  apply List.ext_getElem?
  intro i
  rw [List.getElem?_set, turnTo_get, turnTo_get, turnTo_len]
  by_cases e : j = i
  · subst e; simp [h]
  · rw [if_neg e]
    congr 1
    funext x
    have : i < j + 1 ↔ i < j := by omega
    simp [this]
/-- Rows in blocks of their own: all but the list's slice. -/
def RowsAt (n g : Nat) (gs cs : Nat → Nat) (el : Array Value) (w : World) (xs : List (List (Int × Int))) : Prop :=
  Blk w g el 70 ∧ (∀ i (h : i < xs.length), el[i]? = some (.slice (some ⟨gs i, 0, none⟩) xs[i].length (cs i)) ∧ n ≤ gs i ∧ RowB spanC 2 44 w (gs i) xs[i]) ∧ (∀ i j, i < xs.length → j < xs.length → i ≠ j → gs i ≠ gs j)
theorem RowsAt.ext {n g : Nat} {gs cs : Nat → Nat} {el : Array Value} {w w' : World} {xs : List (List (Int × Int))} (h : RowsAt n g gs cs el w xs) (he : Ext w w') : RowsAt n g gs cs el w' xs :=
  ⟨h.1.ext he, fun i hi => ⟨(h.2.1 i hi).1, (h.2.1 i hi).2.1, (h.2.1 i hi).2.2.ext he⟩, h.2.2⟩
theorem RowsAt.set {n g : Nat} {gs cs : Nat → Nat} {el : Array Value} {w : World} {xs : List (List (Int × Int))} (h : RowsAt n g gs cs el w xs) (k : Nat) (hk : k < xs.length) (j : Nat) (hj : j < xs[k].length) (m : Int) (x : Int × Int) (hx : xs[k][j] = x) :
    RowsAt n g gs cs el (w.setCell ⟨gs k, j * 2, none⟩ (.int .i64 m)) (xs.set k (xs[k].set j (m, x.2))) := by
  have := OwnRows.set (cap := 0) h.1 h.2.1 h.2.2 k hk j hj m x hx
  exact ⟨this.1, this.2, fun i j h1 h2 => h.2.2 i j (by simpa using h1) (by simpa using h2)⟩
theorem RowsAt.rows {n g cap len : Nat} {gs cs : Nat → Nat} {el : Array Value} {w : World} {xs : List (List (Int × Int))} (h : RowsAt n g gs cs el w xs) (hg : n ≤ g) (hl : len = xs.length) : SpanRows w (.slice (some ⟨g, 0, none⟩) len cap) xs :=
  OwnRows.rows ⟨g, cap, gs, cs, el, by rw [hl], hg, h.1, h.2.1, h.2.2⟩
set_option maxRecDepth 100000 in
set_option maxHeartbeats 16000000 in
theorem counts_any (r : R.Reef) (plan : List Int) (vp vl : Value) (w : World) (hP : Places w vp r.places) (hL : Ints w vl plan) (hn : r.places.length ≤ 1000000) (hm : plan.length ≤ 1000000) :
    Calls Try.prog 42 #[.agg (reefV r vp), vl] w fun x w' => ∃ v, x = .returned (.tuple #[v, .int .i64 (codeOf (rightB r plan))]) ∧ SpanRows w' v (if rightB r plan then counts r plan else []) ∧ Ext w w' := by
  have hP' := hP
  have hL' := hL
  obtain ⟨a1, c1, rfl, _⟩ := hP'
  obtain ⟨a2, c2, rfl, _⟩ := hL'
  have hri := fun w' (hx : Ext w w') => right_any r plan _ _ w' (hP.ext hx) (hL.ext hx) hn hm
  obtain ⟨B, hB⟩ : ∃ B, rightB r plan = B := ⟨_, rfl⟩
  simp only [hB] at hri
  rw [hB]
  have HRI := Lib.hid hri
  clear hri
  obtain ⟨w1, hw1⟩ : ∃ w1, ((w.alloc (.cells (reefV r (.slice a1 r.places.length c1)) 24)).alloc (.cells (planV r (.slice a1 r.places.length c1) (.slice a2 plan.length c2)) 82)) = w1 := ⟨_, rfl⟩
  have hE1 : Ext w w1 := by rw [← hw1]; (with_reducible (repeat (first | exact Ext.refl _ | assumption | apply Ext.alloc | apply Ext.drew | exact ext_plus _ _ | (apply Ext.setCell; rotate_left; (simp <;> omega)) | (apply Ext.trans; rotate_left; exact ext_plus _ _) | (apply Ext.trans; rotate_left; assumption))))
  have hz1 : w1.heap.size = w.heap.size + 2 := by rw [← hw1]; simp
  have hb0 : Blk w1 w.heap.size (reefV r (.slice a1 r.places.length c1)) 24 := by rw [← hw1]; exact (Blk.new' rfl _ _).alloc _
  have hb1 : Blk w1 (w.heap.size + 1) (planV r (.slice a1 r.places.length c1) (.slice a2 plan.length c2)) 82 := by rw [← hw1]; exact Blk.new' (by simp) _ _
  have HW1 := Lib.hid hw1
  clear hw1
  have hpc := plus_cell
  cases B with
  | false =>
    clear hB
    go_enter Try.func42, Try.ntmps42
    go_upto_region 2 with (fail)
    rw [HW1.out]
    have d0 := hb1.cell
    have d1 := hb1.lt
    go_wp2_with (first | (go_at_call 50; refine (HRI.out _ (by (with_reducible (repeat (first | exact Ext.refl _ | assumption | apply Ext.alloc | apply Ext.drew | exact ext_plus _ _ | (apply Ext.setCell; rotate_left; (simp <;> omega)) | (apply Ext.trans; rotate_left; exact ext_plus _ _) | (apply Ext.trans; rotate_left; assumption)))))).mono ?_; rintro e w2 ⟨rfl, hb⟩))
    exact bodyPost_ret (v := .tuple #[.slice none 0 0, .int .i64 2]) (by simp [results, Try.results42, go_sem]) rfl ⟨_, rfl, Sls.nil _, by (with_reducible (repeat (first | exact Ext.refl _ | assumption | apply Ext.alloc | apply Ext.drew | exact ext_plus _ _ | (apply Ext.setCell; rotate_left; (simp <;> omega)) | (apply Ext.trans; rotate_left; exact ext_plus _ _) | (apply Ext.trans; rotate_left; assumption))))⟩
  | true =>
    have hR := hB
    unfold rightB at hR
    rw [Bool.and_eq_true] at hR
    have O := R.okR_of hR.1
    have OL := R.okL_iff.1 hR.2
    have hst := fun w' (hx : Ext w w') => stocks_own r plan _ _ w' (hP.ext hx) (hL.ext hx) O OL
    have hlc := fun (x y : Int) (bs : Nat) w' (hx : Ext w1 w') (hb : Blk w' bs #[.int .i64 x, .int .i64 y] 44) (h0 : 0 ≤ x) (h1 : x ≤ 1000000000) => least_count r x y _ ⟨_, _, _, rfl⟩ w.heap.size bs w' (hb0.ext hx) hb O.m0 O.m1 h0 h1
    have hsl : (R.stocks r plan).length ≤ 4 := by unfold R.stocks; have := O.s4; simp; omega
    have hrl : ∀ s (h : s < (R.stocks r plan).length), (R.stocks r plan)[s].length = r.places.length := fun s h => by unfold R.stocks; simp
    have hbd : ∀ s (h : s < (R.stocks r plan).length) i (h2 : i < (R.stocks r plan)[s].length), 0 ≤ (R.stocks r plan)[s][i].1 ∧ (R.stocks r plan)[s][i].1 ≤ 1000000000 := fun s h i h2 => by
      have hs : s < r.seasons.toNat := by unfold R.stocks at h; simpa using h
      have h1 := R.fishOf_bd O (R.okT_end (plan := plan) O false) hs i
      simp only [R.stocks, List.getElem_map, List.getElem_range]
      omega
    have hcn : counts r plan = (R.stocks r plan).map fun row => row.map (countedS r) := rfl
    have hn4 := O.n4
    rw [hcn]
    generalize R.stocks r plan = S at hst hsl hrl hbd ⊢
    have HST := Lib.hid hst
    have HLC := Lib.hid hlc
    have HRL := Lib.hid hrl
    have HBD := Lib.hid hbd
    clear hR hst hB hlc hrl hbd hcn O OL
    go_enter Try.func42, Try.ntmps42
    go_upto_region 2 with (fail)
    rw [HW1.out]
    have d0 := hb1.cell
    have d1 := hb1.lt
    go_upto_region 5 with (first | (go_at_call 50; refine (HRI.out _ (by (with_reducible (repeat (first | exact Ext.refl _ | assumption | apply Ext.alloc | apply Ext.drew | exact ext_plus _ _ | (apply Ext.setCell; rotate_left; (simp <;> omega)) | (apply Ext.trans; rotate_left; exact ext_plus _ _) | (apply Ext.trans; rotate_left; assumption)))))).mono ?_; rintro e w2 ⟨rfl, hb⟩; have k0 := hb.cells.1; have k1 := hb.size) | (go_at_call 68; refine (HST.out _ (by (with_reducible (repeat (first | exact Ext.refl _ | assumption | apply Ext.alloc | apply Ext.drew | exact ext_plus _ _ | (apply Ext.setCell; rotate_left; (simp <;> omega)) | (apply Ext.trans; rotate_left; exact ext_plus _ _) | (apply Ext.trans; rotate_left; assumption)))))).mono ?_; rintro e w3 ⟨v3, rfl, hv3, hb3⟩))
    obtain ⟨g, cap, gs, cs, el, rfl, hg, hx1, hx2, hx3⟩ := hv3
    have hRA : RowsAt w2.heap.size g gs cs el w3 S := ⟨hx1, hx2, hx3⟩
    have hE13 : Ext w1 w3 := hb.trans hb3
    have hz2 := hb.size
    clear hx1 hx2 hx3 d0 d1 k0 k1 HST HRI hb0 hb1
    go_wp2
    go_loopw [22] (fun i wr => ∃ k : Nat, k ≤ S.length ∧ i = .int .i64 k ∧ RowsAt w2.heap.size g gs cs el wr (turnTo (fun row => row.map (countedS r)) S k) ∧ Ext w1 wr)
      (fun i _ => S.length - (intOf i).toNat)
    case atStart => exact ⟨0, Nat.zero_le _, rfl, by rw [turnTo_zero]; exact hRA, hE13⟩
    case round =>
      rename World => wr
      obtain ⟨k, hk, rfl, hA, hE⟩ := hrel
      by_cases hlt : k < S.length
      · have hkl : k < (turnTo (fun row => row.map (countedS r)) S k).length := by rw [turnTo_len]; exact hlt
        obtain ⟨q1, q2, q3⟩ := hA.2.1 k hkl
        rw [turnTo_at _ _ _ hlt] at q1
        have hrl := HRL.out k hlt
        rw [hrl] at q1
        have hcg := (hA.1.cell k).trans q1
        have hgl := hA.1.lt
        obtain ⟨T, hT⟩ : ∃ T, turnTo (fun row => row.map (countedS r)) S k = T := ⟨_, rfl⟩
        have htl : T.length = S.length := by rw [← hT, turnTo_len]
        have hts : T.set k ((S[k]).map (countedS r)) = turnTo (fun row => row.map (countedS r)) S (k + 1) := by rw [← hT]; exact turnTo_step _ _ _ hlt
        have htk : ∀ h : k < T.length, T[k] = S[k] := fun h => by subst hT; exact turnTo_at _ _ _ hlt _
        rw [hT] at hA
        have hbd := HBD.out k hlt
        generalize S[k] = row at hrl hts htk hbd
        have HTS := Lib.hid hts
        have HTK := Lib.hid htk
        have HTL := Lib.hid htl
        have HB2 := Lib.hid hbd
        have HR := Lib.hid hrl
        clear hT htl hts htk hbd hrl q1 q3 hkl
        go_upto_region 8 with (fail)
        go_wp2
        go_loopw [28] (fun i wx => ∃ j : Nat, j ≤ r.places.length ∧ i = .int .i64 j ∧ RowsAt w2.heap.size g gs cs el wx (T.set k (turnTo (countedS r) row j)) ∧ Ext w1 wx)
          (fun i _ => r.places.length - (intOf i).toNat)
        case atStart => exact ⟨0, Nat.zero_le _, rfl, by rw [turnTo_zero, ← HTK.out (by rw [HTL.out]; exact hlt), List.set_getElem_self]; exact hA, hE⟩
        case round =>
          rename World => wx
          obtain ⟨j, hj, rfl, hAx, hEx⟩ := hrel
          by_cases hlj : j < r.places.length
          · have hjr : j < row.length := by rw [HR.out]; exact hlj
            have hk2 : k < (T.set k (turnTo (countedS r) row j)).length := by rw [List.length_set, HTL.out]; exact hlt
            obtain ⟨p1, p2, p3⟩ := hAx.2.1 k hk2
            have e1 : (T.set k (turnTo (countedS r) row j))[k] = turnTo (countedS r) row j := by simp
            rw [e1] at p3
            have hjt : j < (turnTo (countedS r) row j).length := by rw [turnTo_len]; exact hjr
            have e2 : (turnTo (countedS r) row j)[j] = row[j] := turnTo_at _ _ _ hjr _
            have c0 := p3.cell j hjt 0 _ rfl
            have c1 := p3.cell j hjt 1 _ rfl
            rw [e2] at c0 c1
            simp only [Nat.add_zero] at c0
            have cf := p3.free
            have cl := p3.lt
            have hb2 := HB2.out j hjr
            have hset := fun w' (hx : Ext wx w') m => (hAx.ext hx).set k hk2 j (by rw [e1]; exact hjt) m row[j] (by simp only [e1]; exact e2)
            simp only [e1] at hset
            have hts := turnTo_step (countedS r) row j hjr
            have hcs : countedS r row[j] = (R.least (countB r row[j].1) 40 0 (row[j].1 + 1), row[j].2) := rfl
            rw [hcs] at hts
            generalize row[j] = x at hset hts hb2 c0 c1
            have HSET := Lib.hid hset
            have HTS2 := Lib.hid hts
            clear hset hts hcs e1 e2 p1 p3 hjt
            obtain ⟨x1, x2⟩ := x
            obtain ⟨M, hM⟩ : ∃ M, R.least (countB r x1) 40 0 (x1 + 1) = M := ⟨_, rfl⟩
            have hlc := fun bs w' (hx : Ext w1 w') hb => HLC.out x1 x2 bs w' hx hb hb2.1 hb2.2
            have hts := HTS2.out
            simp only [hM] at hlc hts
            have HLC2 := Lib.hid hlc
            have HTS3 := Lib.hid hts
            clear hlc hts hM HTS2
            have hq : w1.heap.size ≤ gs k := by omega
            have hnew := fun w' (hx : Ext (wx.alloc (.cells #[.int .i64 x1, .int .i64 x2] 44)) w') => (Blk.new' (w := wx) rfl #[.int .i64 x1, .int .i64 x2] 44).ext hx
            have HNEW := Lib.hid hnew
            clear hnew
            dsimp only at c0 c1
            go_wp2_with (first | (go_at_call 65; refine (HLC2.out _ _ (hEx.trans (by (with_reducible (repeat (first | exact Ext.refl _ | assumption | apply Ext.alloc | apply Ext.drew | exact ext_plus _ _ | (apply Ext.setCell; rotate_left; (simp <;> omega)) | (apply Ext.trans; rotate_left; exact ext_plus _ _) | (apply Ext.trans; rotate_left; assumption)))))) (HNEW.out _ (Ext.refl _))).mono ?_; rintro e w' ⟨rfl, rfl⟩))
            go_roundw
            case rel => exact ⟨j + 1, by omega, by go_num, by
              have h := HSET.out _ (Ext.refl _) M
              rw [List.set_set, HTS3.out] at h
              exact h.ext ((Ext.refl _).alloc _), (hEx.setCell (p := ⟨gs k, j * 2, none⟩) hq _).alloc _⟩
            case measure => simp [intOf]; omega
          · obtain rfl : j = r.places.length := by omega
            go_wp2
            go_roundw
            case rel => exact ⟨k + 1, by omega, by go_num, by
              have e : turnTo (countedS r) row r.places.length = row.map (countedS r) := by rw [← HR.out]; exact turnTo_all _ _
              rw [e, HTS.out] at hAx
              exact hAx, hEx⟩
            case measure => simp [intOf]; omega
      · obtain rfl : k = S.length := by omega
        rw [turnTo_all] at hA
        go_wp2
        exact bodyPost_ret (v := .tuple #[.slice (some ⟨g, 0, none⟩) S.length cap, .int .i64 0]) (by simp [results, Try.results42, go_sem]) rfl ⟨_, rfl, hA.rows (by omega) (by simp), hE1.trans hE⟩
end Go.Proofs.Ythffoglpekpmdaa
