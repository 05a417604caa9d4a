/- Which of two choices is better; the first of the best. -/
import Derived.Test.YtmlobiajimlboaaIB
import Derived.Test.YtmlobiajimlboaaPlain2
import Derived.Test.YtmlobiajimlboaaC1
namespace Go.Proofs.Ytmlobiajimlboaa
set_option linter.unusedVariables false
set_option linter.unusedSimpArgs false
open Go.RowKit
abbrev choiceA (x : W.Choice) (v : Value) : Value := .agg #[.int .i64 x.houses, .int .i64 x.cost, v]
theorem better_any (a b : W.Choice) (va vb : Value) (w : World) :
    Calls Try.prog 76 #[choiceA a va, choiceA b vb] w fun e w' => e = .returned (.bool (W.better a b)) ∧ Ext w w' := by
  have e : W.better a b = (if a.houses > b.houses then true else if a.houses = b.houses then decide (a.cost < b.cost) else false) := by
    unfold W.better
    by_cases h1 : b.houses < a.houses
    · simp [h1]
    · by_cases h2 : a.houses = b.houses
      · simp [h2]
      · simp [h1, h2]
  rw [e]
  clear e
  go_enter Try.func76, Try.ntmps76
  go_wp2
  all_goals go_ret
  all_goals exact ⟨rfl, by (with_reducible (repeat (first | exact Ext.refl _ | assumption | apply Ext.alloc | apply Ext.drew | exact ext_plus _ _ | (apply Ext.setCell; rotate_left; (simp <;> omega)) | (apply Ext.trans; rotate_left; exact ext_plus _ _) | (apply Ext.trans; rotate_left; assumption))))⟩
def ChoiceAt (w : World) (b o : Nat) (x : W.Choice) : Prop :=
  w.cell? ⟨b, o, none⟩ = some (.int .i64 x.houses) ∧ w.cell? ⟨b, o + 1, none⟩ = some (.int .i64 x.cost) ∧ ∃ v, w.cell? ⟨b, o + 2, none⟩ = some v ∧ IntsB w v x.plan
theorem choice_stays : Stays ChoiceAt := fun _ _ _ _ _ he hb h => by
  obtain ⟨h0, h1, v, h2, h3⟩ := h
  exact ⟨(he.cells.1 _ _ hb).trans h0, (he.cells.1 _ _ hb).trans h1, v, (he.cells.1 _ _ hb).trans h2, h3.ext he⟩
/-- A slice of choices. -/
def Choices (w : World) (v : Value) (xs : List W.Choice) : Prop := Sls 3 ChoiceAt w v xs
theorem pick_take {L : List W.Choice} {k : Nat} (h : k < L.length) (h0 : 0 < k) : W.pick (L.take (k + 1)) = W.pick1 (W.pick (L.take k)) L[k] := by
  cases L with
  | nil => simp at h
  | cons x xs =>
    obtain ⟨j, rfl⟩ : ∃ j, k = j + 1 := ⟨k - 1, by omega⟩
    have hj : j < xs.length := by simpa using h
    rw [List.take_succ_cons, List.take_succ_cons]
    simp only [W.pick]
    rw [List.take_succ_eq_append_getElem hj, List.foldl_append]
    rfl
theorem pick_one {L : List W.Choice} (h : 0 < L.length) : W.pick (L.take 1) = L[0] := by
  cases L with
  | nil => simp at h
  | cons x xs => rfl
set_option maxRecDepth 100000 in
set_option maxHeartbeats 2000000 in
theorem first_any (L : List W.Choice) (vl : Value) (w : World) (hL : Choices w vl L) (hn : L.length ≤ 1000000) :
    Calls Try.prog 75 #[.func (.func 76) #[] #[], vl] w fun e w' => ∃ v, e = .returned (.tuple #[choiceA (W.pick L) v, .bool (decide (0 < L.length))]) ∧ IntsB w v (W.pick L).plan ∧ Ext w w' := by
  obtain ⟨a1, c1, rfl, hx1⟩ := hL
  have HX1 := Lib.hid hx1
  clear hx1
  go_enter Try.func75, Try.ntmps75
  go_wp2
  go_loopw [7, 12] (fun f i wr => ∃ (k : Nat) (v : Value), k ≤ L.length ∧ i = .int .i64 k ∧ f = .bool (decide (0 < k)) ∧ Blk wr (w.heap.size + 1) #[.int .i64 (W.pick (L.take k)).houses, .int .i64 (W.pick (L.take k)).cost, v] 102 ∧ IntsB w v (W.pick (L.take k)).plan ∧ Blk wr w.heap.size #[.int .i64 0, .int .i64 0, .slice none 0 0] 102 ∧ Ext w wr)
    (fun _ i _ => L.length - (intOf i).toNat)
  case atStart => exact ⟨0, .slice none 0 0, Nat.zero_le _, rfl, rfl, Blk.new' (by simp) _ _, IntsB.nil _, (Blk.new' rfl _ _).alloc _, by (with_reducible (repeat (first | exact Ext.refl _ | assumption | apply Ext.alloc | apply Ext.drew | exact ext_plus _ _ | (apply Ext.setCell; rotate_left; (simp <;> omega)) | (apply Ext.trans; rotate_left; exact ext_plus _ _) | (apply Ext.trans; rotate_left; assumption))))⟩
  case round =>
    obtain ⟨k, v, hk, rfl, rfl, hb1, hv, hb0, hE⟩ := hrel
    obtain ⟨av, nv, cv, rfl⟩ : ∃ av nv cv, v = .slice av nv cv := by obtain ⟨⟨a, c, rfl, _⟩, _⟩ := hv; exact ⟨_, _, _, rfl⟩
    have HV := Lib.hid hv
    clear hv
    have hc1 := hb1.cell
    have hf1 := hb1.free
    have hl1 := hb1.lt
    have hc0 := hb0.cell
    have hf0 := hb0.free
    have hl0 := hb0.lt
    by_cases hlt : k < L.length
    · obtain ⟨b, off, rfl, hb, h0, h1, x, h2, h3⟩ := HX1.out k hlt
      obtain ⟨ax, nx, cx, rfl⟩ : ∃ av nv cv, x = .slice av nv cv := by obtain ⟨⟨a, c, rfl, _⟩, _⟩ := h3; exact ⟨_, _, _, rfl⟩
      have H3 := Lib.hid h3
      clear h3
      have hcw := hE.cells.1
      have hbw : b < wr.heap.size := by have := hE.size; omega
      by_cases hk0 : k = 0
      · have HP : Hid (W.pick (L.take (k + 1)) = L[k]) := by
          show _ = _
          subst hk0; exact pick_one (by omega)
        have hd : decide (0 < k) = false := by simp; omega
        rw [hd]
        obtain ⟨o, ho⟩ : ∃ o, W.pick (L.take k) = o := ⟨_, rfl⟩
        rw [ho] at HV hb1 hc1
        clear hd ho hk0
        go_wp2
        go_roundw
        case rel =>
          refine ⟨k + 1, .slice ax nx cx, by omega, by go_num, by simp, ?_, ?_, ?_, ?_⟩
          rotate_left
          · rw [HP.out]; exact H3.out
          · exact (((hb0.other (a := ⟨w.heap.size + 1, 0, none⟩) (by show w.heap.size + 1 ≠ w.heap.size; omega) _).other (a := ⟨w.heap.size + 1, 1, none⟩) (by show w.heap.size + 1 ≠ w.heap.size; omega) _).other (a := ⟨w.heap.size + 1, 2, none⟩) (by show w.heap.size + 1 ≠ w.heap.size; omega) _).alloc _
          · (with_reducible (repeat (first | exact Ext.refl _ | assumption | apply Ext.alloc | apply Ext.drew | exact ext_plus _ _ | (apply Ext.setCell; rotate_left; (simp <;> omega)) | (apply Ext.trans; rotate_left; exact ext_plus _ _) | (apply Ext.trans; rotate_left; assumption))))
          · rw [HP.out]
            have := (((hb1.set 0 (.int .i64 L[k].houses)).set 1 (.int .i64 L[k].cost)).set 2 (.slice ax nx cx)).alloc (.cells #[.int .i64 L[k].houses, .int .i64 L[k].cost, .slice ax nx cx] 102)
            simpa using this
        case measure => simp [intOf]; omega
      · have HP := Lib.hid (pick_take hlt (by omega))
        have hd : decide (0 < k) = true := by simp; omega
        rw [hd]
        obtain ⟨o, ho⟩ : ∃ o, W.pick (L.take k) = o := ⟨_, rfl⟩
        rw [ho] at HP HV hb1 hc1
        obtain ⟨bt, hbt⟩ : ∃ bt, W.better L[k] o = bt := ⟨_, rfl⟩
        have HB := Lib.hid (fun va vb w => better_any L[k] o va vb w)
        rw [hbt] at HB
        have HBT := Lib.hid hbt
        have HO := Lib.hid ho
        clear hd ho hbt
        cases bt with
        | true =>
          go_wp2_with (first | (go_at_call 76; refine (HB.out _ _ _).mono ?_; rintro e w' ⟨rfl, hb'⟩; have hB1 := (hb1.alloc (.cells #[.int .i64 L[k].houses, .int .i64 L[k].cost, .slice ax nx cx] 102)).ext hb'; have hB0 := (hb0.alloc (.cells #[.int .i64 L[k].houses, .int .i64 L[k].cost, .slice ax nx cx] 102)).ext hb'; have hcc := hb'.cells.1; have hc1' := hB1.cell; have hf1' := hB1.free; have hl1' := hB1.lt; have hsz' := hb'.size; (try simp only [World.size_alloc] at hsz'); have hq' : wr.heap.size < w'.heap.size := (by omega)))
          have HP2 : Hid (W.pick (L.take (k + 1)) = L[k]) := by
            show _ = _
            rw [HP.out, W.pick1, HBT.out]; rfl
          go_roundw
          case rel =>
            refine ⟨k + 1, .slice ax nx cx, by omega, by go_num, by simp, ?_, ?_, ?_, ?_⟩
            rotate_left
            · rw [HP2.out]; exact H3.out
            · exact ((hB0.other (by show w.heap.size + 1 ≠ w.heap.size; omega) _).other (by show w.heap.size + 1 ≠ w.heap.size; omega) _).other (by show w.heap.size + 1 ≠ w.heap.size; omega) _
            · (with_reducible (repeat (first | exact Ext.refl _ | assumption | apply Ext.alloc | apply Ext.drew | exact ext_plus _ _ | (apply Ext.setCell; rotate_left; (simp <;> omega)) | (apply Ext.trans; rotate_left; exact ext_plus _ _) | (apply Ext.trans; rotate_left; assumption))))
            · rw [HP2.out]
              have := ((hB1.set 0 (.int .i64 L[k].houses)).set 1 (.int .i64 L[k].cost)).set 2 (.slice ax nx cx)
              simpa using this
          case measure => simp [intOf]; omega
        | false =>
          go_wp2_with (first | (go_at_call 76; refine (HB.out _ _ _).mono ?_; rintro e w' ⟨rfl, hb'⟩; have hB1 := (hb1.alloc (.cells #[.int .i64 L[k].houses, .int .i64 L[k].cost, .slice ax nx cx] 102)).ext hb'; have hB0 := (hb0.alloc (.cells #[.int .i64 L[k].houses, .int .i64 L[k].cost, .slice ax nx cx] 102)).ext hb'; have hcc := hb'.cells.1; have hc1' := hB1.cell; have hf1' := hB1.free; have hl1' := hB1.lt; have hsz' := hb'.size; (try simp only [World.size_alloc] at hsz'); have hq' : wr.heap.size < w'.heap.size := (by omega)))
          have HP2 : Hid (W.pick (L.take (k + 1)) = o) := by
            show _ = _
            rw [HP.out, W.pick1, HBT.out]; rfl
          go_roundw
          case rel => exact ⟨k + 1, .slice av nv cv, by omega, by go_num, by simp, by rw [HP2.out]; exact hB1, by rw [HP2.out]; exact HV.out, hB0, by (with_reducible (repeat (first | exact Ext.refl _ | assumption | apply Ext.alloc | apply Ext.drew | exact ext_plus _ _ | (apply Ext.setCell; rotate_left; (simp <;> omega)) | (apply Ext.trans; rotate_left; exact ext_plus _ _) | (apply Ext.trans; rotate_left; assumption))))⟩
          case measure => simp [intOf]; omega
    · obtain rfl : k = L.length := by omega
      rw [List.take_length] at hb1 hc1 HV
      go_wp2
      refine bodyPost_ret (v := .tuple #[choiceA (W.pick L) (.slice av nv cv), .bool (decide (0 < L.length))]) (by simp [results, Try.results75, go_sem, *]) rfl ⟨_, rfl, HV.out, ?_⟩
      (with_reducible (repeat (first | exact Ext.refl _ | assumption | apply Ext.alloc | apply Ext.drew | exact ext_plus _ _ | (apply Ext.setCell; rotate_left; (simp <;> omega)) | (apply Ext.trans; rotate_left; exact ext_plus _ _) | (apply Ext.trans; rotate_left; assumption))))
end Go.Proofs.Ytmlobiajimlboaa
