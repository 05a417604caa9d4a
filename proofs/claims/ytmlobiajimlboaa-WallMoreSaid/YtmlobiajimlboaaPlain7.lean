/- Plain: better works, a wider reef, a weaker storm never make a cell deeper. -/
import Derived.Test.YtmlobiajimlboaaPlain6
namespace Go.Proofs.Ytmlobiajimlboaa.W
set_option linter.unusedVariables false
set_option linter.unusedSimpArgs false
/-- Cells the same, works more, the plan's works not less: never deeper, in one truth. -/
theorem play_less {s x : Shore} {plan better : List Int} {t t' : Truth} (hw : ∀ w ∈ s.works, Fine w) (hc : x.cells = s.cells) (hl : level x t' ≤ level s t) (hd0 : ∀ d ∈ t.drags, 0 ≤ d) (hd : t'.drags = t.drags)
    (hp : plan.length = s.cells.length) (hb : better.length = s.cells.length) (ht : t.drags.length = s.cells.length)
    (h : ∀ i, i < s.cells.length → (work s.works (nth plan i)).rise ≤ (work x.works (nth better i)).rise ∧ (work s.works (nth plan i)).calm ≤ (work x.works (nth better i)).calm) (i : Nat) :
    nth (play x better t') i ≤ nth (play s plan t) i := by
  unfold play
  rw [hc, hd]
  exact depths_mono hw s.cells _ _ plan better t.drags t.drags hl hd0 hp hb ht ht (fun j hj => ⟨Int.le_refl _, h j hj⟩) i
theorem work_left {ws : List Work} {w : Work} {p : Int} (h : p < ws.length) : work (ws ++ [w]) p = work ws p := by
  unfold work
  split
  · rw [List.getElem?_append_left (by omega)]
  · rfl
theorem work_last (ws : List Work) (w : Work) : work (ws ++ [w]) (ws.length : Int) = w := by
  unfold work
  rw [if_pos (by omega), Int.toNat_natCast, List.getElem?_append_right (Nat.le_refl _)]
  simp
theorem nth_set (l : List Int) (k : Nat) (v : Int) (i : Nat) (hi : i < l.length) : nth (l.set k v) i = if k = i then v else nth l i := by
  unfold nth
  rw [List.getElem?_set]
  by_cases h : k = i
  · subst h; simp [hi]
  · simp [h]
theorem wave_more {s y : Shore} {t : Truth} {j : Nat} (h0 : 0 ≤ s.reef) (hr : y.reef = s.reef + j) (hw : 0 ≤ t.wind) (hf : 0 ≤ t.fetch) (hl0 : 0 ≤ t.loss) (hl1 : t.loss ≤ 1000) : level y t ≤ level s t := by
  have h1 : 0 ≤ t.wind * t.fetch := Int.mul_nonneg hw hf
  unfold level wave
  have e : y.reef.toNat = s.reef.toNat + j := by omega
  rw [e]
  have := reefN_more hl0 hl1 s.reef.toNat j (n := t.wind * t.fetch / 1000) (by omega)
  omega
/-- Spans of b lie below those of a. -/
def Lower (b a : List (Int × Int)) : Prop := b.length = a.length ∧ ∀ (i : Nat) (h1 : i < b.length) (h2 : i < a.length), b[i].1 ≤ a[i].1 ∧ b[i].2 ≤ a[i].2
theorem lower_zip {A B A' B' : List Int} {n : Nat} (h1 : A.length = n) (h2 : B.length = n) (h3 : A'.length = n) (h4 : B'.length = n) (ha : ∀ i, nth A' i ≤ nth A i) (hb : ∀ i, nth B' i ≤ nth B i) : Lower (A'.zip B') (A.zip B) := by
  refine ⟨by simp [*], fun i g1 g2 => ?_⟩
  have k : i < n := by simpa [*] using g2
  have a := ha i
  have b := hb i
  rw [nth_get (by omega), nth_get (by omega)] at a b
  simpa [List.getElem_zip] using ⟨a, b⟩
end Go.Proofs.Ytmlobiajimlboaa.W
