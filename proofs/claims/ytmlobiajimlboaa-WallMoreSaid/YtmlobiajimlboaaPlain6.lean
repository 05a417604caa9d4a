/- Plain: the level and the depths in a truth lie between those of both ends. -/
import Derived.Test.YtmlobiajimlboaaPlain4
import Derived.Test.YtmlobiajimlboaaPlain5
namespace Go.Proofs.Ytmlobiajimlboaa.W
set_option linter.unusedVariables false
set_option linter.unusedSimpArgs false
theorem Ok.fine {s : Shore} {c : Storm} (O : Ok s c) : ∀ w ∈ s.works, Fine w := fun w hw => by have := O.work w hw; exact ⟨by omega, by omega⟩
/-- What truthB says. -/
structure True (s : Shore) (c : Storm) (t : Truth) : Prop where
  len : t.drags.length = s.cells.length
  drag : ∀ (i : Nat) (h1 : i < s.cells.length) (h2 : i < t.drags.length), s.cells[i].dl ≤ t.drags[i] ∧ t.drags[i] ≤ s.cells[i].dh
  wind : c.wl ≤ t.wind ∧ t.wind ≤ c.wh
  fetch : c.fl ≤ t.fetch ∧ t.fetch ≤ c.fh
  tide : c.tl ≤ t.tide ∧ t.tide ≤ c.th
  loss : s.ll ≤ t.loss ∧ t.loss ≤ s.lh
theorem true_iff {s : Shore} {c : Storm} {t : Truth} (h : truthB s c t = true) : True s c t := by
  simp only [truthB, Bool.and_eq_true, within_iff] at h
  obtain ⟨⟨⟨⟨h1, h2⟩, h3⟩, h4⟩, h5⟩ := h
  exact ⟨dragsB_len h1, fun i a b => within_iff.1 (dragsB_at h1 i a b), h2, h3, h4, h5⟩
theorem wave_mono {s : Shore} {t t' : Truth} (hw0 : 0 ≤ t.wind) (hw : t.wind ≤ t'.wind) (hf0 : 0 ≤ t.fetch) (hf : t.fetch ≤ t'.fetch) (hl0 : 0 ≤ t'.loss) (hl : t'.loss ≤ t.loss) (hl1 : t.loss ≤ 1000) :
    wave s t ≤ wave s t' := by
  have h1 : 0 ≤ t.wind * t.fetch := Int.mul_nonneg hw0 hf0
  have h2 : t.wind * t.fetch ≤ t'.wind * t'.fetch := Int.mul_le_mul hw hf hf0 (by omega)
  exact reefN_mono hl0 hl hl1 _ (by omega) (by omega)
theorem level_mono {s : Shore} {t t' : Truth} (hw0 : 0 ≤ t.wind) (hw : t.wind ≤ t'.wind) (hf0 : 0 ≤ t.fetch) (hf : t.fetch ≤ t'.fetch) (hl0 : 0 ≤ t'.loss) (hl : t'.loss ≤ t.loss) (hl1 : t.loss ≤ 1000) (ht : t.tide ≤ t'.tide) :
    level s t ≤ level s t' := by
  have := wave_mono (s := s) hw0 hw hf0 hf hl0 hl hl1
  unfold level; omega
theorem level_best {s : Shore} {c : Storm} {t : Truth} (O : Ok s c) (T : True s c t) : level s (best s c) ≤ level s t := by
  have := O.wind; have := O.fetch; have := O.loss; have := T.wind; have := T.fetch; have := T.tide; have := T.loss
  apply level_mono <;> (try simp only [best]) <;> omega
theorem level_worst {s : Shore} {c : Storm} {t : Truth} (O : Ok s c) (T : True s c t) : level s t ≤ level s (worst s c) := by
  have := O.wind; have := O.fetch; have := O.loss; have := T.wind; have := T.fetch; have := T.tide; have := T.loss
  apply level_mono <;> (try simp only [worst]) <;> omega
theorem planB_len {s : Shore} {plan : List Int} (h : planB s plan = true) : plan.length = s.cells.length := by
  simp only [planB, Bool.and_eq_true, decide_eq_true_eq] at h
  exact h.2
theorem nth_get {l : List Int} {i : Nat} (h : i < l.length) : nth l i = l[i] := by simp [nth, h]
theorem True.drag0 {s : Shore} {c : Storm} {t : Truth} (O : Ok s c) (T : True s c t) : ∀ d ∈ t.drags, 0 ≤ d := fun d hd => by
  obtain ⟨i, hi, rfl⟩ := List.getElem_of_mem hd
  have h1 : i < s.cells.length := by rw [← T.len]; exact hi
  have := T.drag i h1 hi
  have := O.cell _ (List.getElem_mem h1)
  omega
theorem play_best {s : Shore} {c : Storm} {t : Truth} {plan : List Int} (O : Ok s c) (T : True s c t) (hp : plan.length = s.cells.length) (i : Nat) :
    nth (play s plan (best s c)) i ≤ nth (play s plan t) i := by
  refine depths_mono O.fine s.cells _ _ plan plan t.drags (best s c).drags (level_best O T) (T.drag0 O) hp hp T.len (by simp [best]) (fun j hj => ⟨?_, Int.le_refl _, Int.le_refl _⟩) i
  rw [nth_get (by rw [T.len]; exact hj), nth_get (by simpa [best] using hj)]
  simp only [best, List.getElem_map]
  exact (T.drag j hj (by rw [T.len]; exact hj)).2
theorem play_worst {s : Shore} {c : Storm} {t : Truth} {plan : List Int} (O : Ok s c) (T : True s c t) (hp : plan.length = s.cells.length) (i : Nat) :
    nth (play s plan t) i ≤ nth (play s plan (worst s c)) i := by
  have hd : ∀ d ∈ (worst s c).drags, 0 ≤ d := (true_iff (worst_true O)).drag0 O
  refine depths_mono O.fine s.cells _ _ plan plan (worst s c).drags t.drags (level_worst O T) hd hp hp (by simp [worst]) T.len (fun j hj => ⟨?_, Int.le_refl _, Int.le_refl _⟩) i
  rw [nth_get (l := (worst s c).drags) (by simpa [worst] using hj), nth_get (l := t.drags) (by rw [T.len]; exact hj)]
  simp only [worst, List.getElem_map]
  exact (T.drag j hj (by rw [T.len]; exact hj)).1
theorem play_bd {s : Shore} {c : Storm} {t : Truth} {plan : List Int} (O : Ok s c) (T : True s c t) (i : Nat) (hi : i < s.cells.length) :
    0 ≤ nth (play s plan t) i ∧ (0 < nth (play s plan t) i → nth (play s plan t) i ≤ level s (worst s c) - s.cells[i].g) ∧ (nth (play s plan t) i = 0 → nth (play s plan t) (i + 1) = 0) := by
  have h := depths_bd O.fine s.cells (level s t) plan t.drags (T.drag0 O) i
  have hl := level_worst O T
  refine ⟨h.1, fun h0 => ?_, h.2.2⟩
  have := h.2.1 h0
  rw [List.getElem?_eq_getElem hi] at this
  simp only [Option.map_some, Option.getD_some] at this
  unfold play at h0 ⊢
  omega
end Go.Proofs.Ytmlobiajimlboaa.W
