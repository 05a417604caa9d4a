/- What the public questions of the wall answer. -/
import Derived.Test.YtmlobiajimlboaaPlain4
namespace Go.Proofs.Ytmlobiajimlboaa.W
set_option linter.unusedVariables false
set_option linter.unusedSimpArgs false
def playB (s : Shore) (c : Storm) (plan : List Int) (t : Truth) : Bool := okB s c && planB s plan && truthB s c t
theorem dragsB_len : ∀ {cs : List Cell} {ds : List Int}, dragsB cs ds = true → ds.length = cs.length
  | [], [], _ => rfl
  | [], d :: ds, h => by simp [dragsB] at h
  | c :: cs, [], h => by simp [dragsB] at h
  | c :: cs, d :: ds, h => by
    simp only [dragsB, Bool.and_eq_true] at h
    simp [dragsB_len h.2]
theorem dragsB_at : ∀ {cs : List Cell} {ds : List Int}, dragsB cs ds = true → ∀ (i : Nat) (h1 : i < cs.length) (h2 : i < ds.length), within ds[i] cs[i].dl cs[i].dh = true
  | [], _, _, _, h1, _ => by simp at h1
  | c :: cs, [], _, _, _, h2 => by simp at h2
  | c :: cs, d :: ds, h, 0, _, _ => by simp only [dragsB, Bool.and_eq_true] at h; exact h.1
  | c :: cs, d :: ds, h, i + 1, h1, h2 => by
    simp only [dragsB, Bool.and_eq_true] at h
    exact dragsB_at h.2 i (by simpa using h1) (by simpa using h2)
theorem dragsB_of : ∀ {cs : List Cell} {ds : List Int}, ds.length = cs.length → (∀ (i : Nat) (h1 : i < cs.length) (h2 : i < ds.length), within ds[i] cs[i].dl cs[i].dh = true) → dragsB cs ds = true
  | [], [], _, _ => rfl
  | [], d :: ds, h, _ => by simp at h
  | c :: cs, [], h, _ => by simp at h
  | c :: cs, d :: ds, h, hi => by
    simp only [dragsB, Bool.and_eq_true]
    exact ⟨hi 0 (by simp) (by simp), dragsB_of (by simpa using h) (fun i h1 h2 => hi (i + 1) (by simpa using h1) (by simpa using h2))⟩
theorem dragsB_self (cs : List Cell) (f : Cell → Int) (hf : ∀ c ∈ cs, within (f c) c.dl c.dh = true) : dragsB cs (cs.map f) = true :=
  dragsB_of (by simp) (fun i h1 h2 => by simpa using hf cs[i] (List.getElem_mem h1))
theorem span_le {l h lo hi : Int} (hs : spanB l h lo hi = true) : lo ≤ l ∧ l ≤ h ∧ h ≤ hi := by
  simp only [spanB, Bool.and_eq_true, decide_eq_true_eq] at hs
  exact ⟨hs.1.1, hs.1.2, hs.2⟩
theorem within_iff {x lo hi : Int} : within x lo hi = true ↔ lo ≤ x ∧ x ≤ hi := by simp [within]
/-- What okB says. -/
structure Ok (s : Shore) (c : Storm) : Prop where
  cell : ∀ x ∈ s.cells, -5000 ≤ x.g ∧ x.g ≤ 5000 ∧ 0 ≤ x.dl ∧ x.dl ≤ x.dh ∧ x.dh ≤ 5000 ∧ -1 ≤ x.fl ∧ x.fl ≤ 5000
  work : ∀ x ∈ s.works, 0 ≤ x.rise ∧ x.rise ≤ 5000 ∧ 0 ≤ x.calm ∧ x.calm ≤ 5000 ∧ 0 ≤ x.cost ∧ x.cost ≤ 1000000
  n1 : 1 ≤ s.cells.length
  n7 : s.cells.length ≤ 7
  m3 : s.works.length ≤ 3
  reef : 0 ≤ s.reef ∧ s.reef ≤ 20
  loss : 0 ≤ s.ll ∧ s.ll ≤ s.lh ∧ s.lh ≤ 1000
  wind : 0 ≤ c.wl ∧ c.wl ≤ c.wh ∧ c.wh ≤ 1000
  fetch : 0 ≤ c.fl ∧ c.fl ≤ c.fh ∧ c.fh ≤ 10000
  tide : -5000 ≤ c.tl ∧ c.tl ≤ c.th ∧ c.th ≤ 5000
theorem ok_iff {s : Shore} {c : Storm} (h : okB s c = true) : Ok s c := by
  simp only [okB, shoreB, stormB, Bool.and_eq_true, decide_eq_true_eq, List.all_eq_true, within_iff] at h
  obtain ⟨⟨⟨⟨⟨⟨h1, h2⟩, h3⟩, h4⟩, h5⟩, h6⟩, ⟨h7, h8⟩, h9⟩ := h
  refine ⟨fun x hx => ?_, fun x hx => ?_, by omega, by omega, h4, h5, span_le h6, span_le h7, span_le h8, span_le h9⟩
  · have := h1 x hx
    simp only [cellB, Bool.and_eq_true, within_iff] at this
    have := span_le this.1.2
    omega
  · have := h2 x hx
    simp only [workB, Bool.and_eq_true, within_iff] at this
    omega
theorem worst_true {s : Shore} {c : Storm} (h : Ok s c) : truthB s c (worst s c) = true := by
  simp only [truthB, worst, Bool.and_eq_true, within_iff]
  refine ⟨⟨⟨⟨dragsB_self _ _ fun x hx => ?_, ?_⟩, ?_⟩, ?_⟩, ?_⟩
  · have := h.cell x hx; rw [within_iff]; omega
  all_goals (have := h.wind; have := h.fetch; have := h.tide; have := h.loss; omega)
theorem best_true {s : Shore} {c : Storm} (h : Ok s c) : truthB s c (best s c) = true := by
  simp only [truthB, best, Bool.and_eq_true, within_iff]
  refine ⟨⟨⟨⟨dragsB_self _ _ fun x hx => ?_, ?_⟩, ?_⟩, ?_⟩, ?_⟩
  · have := h.cell x hx; rw [within_iff]; omega
  all_goals (have := h.wind; have := h.fetch; have := h.tide; have := h.loss; omega)
end Go.Proofs.Ytmlobiajimlboaa.W
