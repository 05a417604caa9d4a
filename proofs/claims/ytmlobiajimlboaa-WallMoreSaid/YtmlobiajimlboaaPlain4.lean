import Derived.Test.YtmlobiajimlboaaPlain3
namespace Go.Proofs.Ytmlobiajimlboaa.W
set_option linter.unusedVariables false
set_option linter.unusedSimpArgs false

/-- A number of a list; 0 behind its end. -/
def nth (l : List Int) (i : Nat) : Int := l[i]?.getD 0
theorem nth_nil (i : Nat) : nth [] i = 0 := by simp [nth]
theorem nth_zero (x : Int) (l : List Int) : nth (x :: l) 0 = x := rfl
theorem nth_succ (x : Int) (l : List Int) (i : Nat) : nth (x :: l) (i + 1) = nth l i := by simp [nth]
theorem nth_rep (n i : Nat) : nth (List.replicate n 0) i = 0 := by
  unfold nth; rw [List.getElem?_replicate]; split <;> rfl

theorem depths_len (ws : List Work) : ∀ (cs : List Cell) (l : Int) (ps ds : List Int), (depths ws l cs ps ds).length = cs.length
  | [], l, ps, ds => by unfold depths; simp
  | c :: cs, l, [], ds => by simp [depths]
  | c :: cs, l, p :: ps, [] => by simp [depths]
  | c :: cs, l, p :: ps, d :: ds => by
    rw [depths]; split
    · simp
    · simp [depths_len ws cs]

def Fine (w : Work) : Prop := 0 ≤ w.rise ∧ 0 ≤ w.calm
theorem fine_no : Fine noWork := ⟨Int.le_refl _, Int.le_refl _⟩
theorem fine_work {ws : List Work} (h : ∀ w ∈ ws, Fine w) (p : Int) : Fine (work ws p) := by
  unfold work; split
  · cases e : ws[p.toNat]? with
    | none => exact fine_no
    | some w => exact h w (List.mem_of_getElem? e)
  · exact fine_no
/-- Depths are never negative, not above the level less the ground, and where one is 0 all further ones are. -/
theorem depths_bd {ws : List Work} (hw : ∀ w ∈ ws, Fine w) : ∀ (cs : List Cell) (l : Int) (ps ds : List Int), (∀ d ∈ ds, 0 ≤ d) → ∀ i,
    0 ≤ nth (depths ws l cs ps ds) i ∧ (0 < nth (depths ws l cs ps ds) i → nth (depths ws l cs ps ds) i ≤ l - (cs[i]?.map (·.g)).getD 0) ∧
    (nth (depths ws l cs ps ds) i = 0 → nth (depths ws l cs ps ds) (i + 1) = 0)
  | [], l, ps, ds, _, i => by unfold depths; simp [nth]
  | c :: cs, l, [], ds, _, i => by simp [depths, nth_rep]
  | c :: cs, l, p :: ps, [], _, i => by simp [depths, nth_rep]
  | c :: cs, l, p :: ps, d :: ds, hd, i => by
    rw [depths]; split
    · simp [nth_rep]
    · rename_i hs
      have f := fine_work hw p
      have hd0 := hd d (by simp)
      obtain ⟨f1, f2⟩ := f
      cases i with
      | zero =>
        rw [nth_zero]
        refine ⟨by omega, fun _ => by simp; omega, fun h => by omega⟩
      | succ i =>
        have ih := depths_bd hw cs (l - d - (work ws p).calm) ps ds (fun x hx => hd x (by simp [hx])) i
        rw [nth_succ, nth_succ]
        refine ⟨ih.1, fun h => ?_, ih.2.2⟩
        have := ih.2.1 h
        simp only [List.getElem?_cons_succ]
        omega
/-- Less water before, more rise, more calm, more drag: never deeper. -/
theorem depths_mono {ws ws' : List Work} (hw : ∀ w ∈ ws, Fine w) : ∀ (cs : List Cell) (l l' : Int) (ps ps' ds ds' : List Int),
    l' ≤ l → (∀ d ∈ ds, 0 ≤ d) → ps.length = cs.length → ps'.length = cs.length → ds.length = cs.length → ds'.length = cs.length →
    (∀ i, i < cs.length → nth ds i ≤ nth ds' i ∧ (work ws (nth ps i)).rise ≤ (work ws' (nth ps' i)).rise ∧ (work ws (nth ps i)).calm ≤ (work ws' (nth ps' i)).calm) →
    ∀ i, nth (depths ws' l' cs ps' ds') i ≤ nth (depths ws l cs ps ds) i
  | [], l, l', ps, ps', ds, ds', _, _, _, _, _, _, _, i => by unfold depths; simp [nth]
  | c :: cs, l, l', p :: ps, p' :: ps', d :: ds, d' :: ds', hl, hd, h1, h2, h3, h4, h, i => by
    have h0 := h 0 (by simp)
    simp only [nth_zero] at h0
    have b := depths_bd hw (c :: cs) l (p :: ps) (d :: ds) hd i
    have f := fine_work hw p
    rw [depths]; split
    · rw [nth_rep]; exact b.1
    · rename_i hs
      rw [depths, if_neg (by omega)]
      cases i with
      | zero => rw [nth_zero, nth_zero]; omega
      | succ i =>
        rw [nth_succ, nth_succ]
        exact depths_mono hw cs _ _ ps ps' ds ds' (by omega) (fun x hx => hd x (by simp [hx])) (by simpa using h1) (by simpa using h2) (by simpa using h3) (by simpa using h4)
          (fun j hj => by have := h (j + 1) (by simpa using hj); simpa only [nth_succ] using this) i
end Go.Proofs.Ytmlobiajimlboaa.W
