/- Plain mathematics of layer 8 (wall): what the program and the document's definition compute, as Lean functions on data; no program in sight. -/
namespace Go.Proofs.Ytmlobiajimlboaa.W
set_option linter.unusedVariables false
set_option linter.unusedSimpArgs false

structure Cell where
  g : Int
  dl : Int
  dh : Int
  fl : Int
  deriving DecidableEq, Inhabited
structure Work where
  rise : Int
  calm : Int
  cost : Int
  deriving DecidableEq, Inhabited
structure Shore where
  cells : List Cell
  works : List Work
  reef : Int
  ll : Int
  lh : Int
  deriving DecidableEq
structure Storm where
  wl : Int
  wh : Int
  fl : Int
  fh : Int
  tl : Int
  th : Int
  deriving DecidableEq
structure Truth where
  wind : Int
  fetch : Int
  tide : Int
  loss : Int
  drags : List Int
  deriving DecidableEq

def within (x lo hi : Int) : Bool := decide (lo ≤ x) && decide (x ≤ hi)
def spanB (l h lo hi : Int) : Bool := decide (lo ≤ l) && decide (l ≤ h) && decide (h ≤ hi)
def cellB (c : Cell) : Bool := within c.g (-5000) 5000 && spanB c.dl c.dh 0 5000 && within c.fl (-1) 5000
def workB (w : Work) : Bool := within w.rise 0 5000 && within w.calm 0 5000 && within w.cost 0 1000000
def shoreB (s : Shore) : Bool := s.cells.all cellB && s.works.all workB && within s.cells.length 1 7 && decide (s.works.length ≤ 3) && within s.reef 0 20 && spanB s.ll s.lh 0 1000
def stormB (c : Storm) : Bool := spanB c.wl c.wh 0 1000 && spanB c.fl c.fh 0 10000 && spanB c.tl c.th (-5000) 5000
/-- A shore and a class of storms are as defined. -/
def okB (s : Shore) (c : Storm) : Bool := shoreB s && stormB c
def planB (s : Shore) (plan : List Int) : Bool := plan.all (fun p => within p (-1) (s.works.length - 1)) && decide (plan.length = s.cells.length)
def dragsB : List Cell → List Int → Bool
  | [], [] => true
  | c :: cs, d :: ds => within d c.dl c.dh && dragsB cs ds
  | _, _ => false
def truthB (s : Shore) (c : Storm) (t : Truth) : Bool :=
  dragsB s.cells t.drags && within t.wind c.wl c.wh && within t.fetch c.fl c.fh && within t.tide c.tl c.th && within t.loss s.ll s.lh

def reefStep (loss n : Int) : Int := n - n * loss / 1000
def reefN : Nat → Int → Int → Int
  | 0, _, n => n
  | k + 1, loss, n => reefN k loss (reefStep loss n)
def wave (s : Shore) (t : Truth) : Int := reefN s.reef.toNat t.loss (t.wind * t.fetch / 1000)
def level (s : Shore) (t : Truth) : Int := t.tide + wave s t

def noWork : Work := ⟨0, 0, 0⟩
def work (ws : List Work) (p : Int) : Work := if 0 ≤ p then ws[p.toNat]?.getD noWork else noWork

/-- The depths: where the water stops, all further cells are dry. -/
def depths (ws : List Work) : Int → List Cell → List Int → List Int → List Int
  | l, c :: cs, p :: ps, d :: ds =>
    if l - d - (work ws p).calm ≤ c.g + (work ws p).rise then List.replicate (cs.length + 1) 0
    else (l - d - (work ws p).calm - c.g) :: depths ws (l - d - (work ws p).calm) cs ps ds
  | _, cs, _, _ => List.replicate cs.length 0
def play (s : Shore) (plan : List Int) (t : Truth) : List Int := depths s.works (level s t) s.cells plan t.drags

def worst (s : Shore) (c : Storm) : Truth := ⟨c.wh, c.fh, c.th, s.ll, s.cells.map (·.dl)⟩
def best (s : Shore) (c : Storm) : Truth := ⟨c.wl, c.fl, c.tl, s.lh, s.cells.map (·.dh)⟩

/-! ### Bounds -/
theorem reefStep_bd {loss n : Int} (h0 : 0 ≤ loss) (h1 : loss ≤ 1000) (h2 : 0 ≤ n) : 0 ≤ reefStep loss n ∧ reefStep loss n ≤ n := by
  unfold reefStep
  have a : 0 ≤ n * loss := Int.mul_nonneg h2 h0
  have b : n * loss ≤ n * 1000 := Int.mul_le_mul_of_nonneg_left h1 h2
  omega
theorem reefN_bd {loss : Int} (h0 : 0 ≤ loss) (h1 : loss ≤ 1000) : ∀ (k : Nat) {n : Int}, 0 ≤ n → 0 ≤ reefN k loss n ∧ reefN k loss n ≤ n
  | 0, n, h => ⟨h, Int.le_refl _⟩
  | k + 1, n, h => by
    have a := reefStep_bd h0 h1 h
    have b := reefN_bd h0 h1 k a.1
    exact ⟨b.1, Int.le_trans b.2 a.2⟩
theorem reefN_succ (loss : Int) : ∀ (k : Nat) (n : Int), reefN (k + 1) loss n = reefStep loss (reefN k loss n)
  | 0, _ => rfl
  | k + 1, n => by show reefN (k + 1) loss (reefStep loss n) = _; rw [reefN_succ loss k]; rfl
/-- Less loss, more wave: never less behind a step. -/
theorem reefStep_mono {l l' n n' : Int} (_h0 : 0 ≤ l') (hl : l' ≤ l) (h1 : l ≤ 1000) (hn0 : 0 ≤ n) (hn : n ≤ n') : reefStep l n ≤ reefStep l' n' := by
  unfold reefStep
  have a : n * l' ≤ n * l := Int.mul_le_mul_of_nonneg_left hl hn0
  have b : (n' - n) * l' ≤ (n' - n) * 1000 := Int.mul_le_mul_of_nonneg_left (by omega) (by omega)
  have c : n' * l' = n * l' + (n' - n) * l' := by rw [← Int.add_mul]; congr 1; omega
  omega
theorem reefN_mono {l l' : Int} (h0 : 0 ≤ l') (hl : l' ≤ l) (h1 : l ≤ 1000) : ∀ (k : Nat) {n n' : Int}, 0 ≤ n → n ≤ n' → reefN k l n ≤ reefN k l' n'
  | 0, _, _, _, h => h
  | k + 1, n, n', hn0, hn => reefN_mono h0 hl h1 k (reefStep_bd (by omega) h1 hn0).1 (reefStep_mono h0 hl h1 hn0 hn)
/-- More steps, less wave. -/
theorem reefN_more {l : Int} (h0 : 0 ≤ l) (h1 : l ≤ 1000) : ∀ (k j : Nat) {n : Int}, 0 ≤ n → reefN (k + j) l n ≤ reefN k l n
  | k, 0, n, _ => Int.le_refl _
  | k, j + 1, n, hn => by
    have a := reefN_more h0 h1 k j hn
    have b := reefStep_bd h0 h1 (reefN_bd h0 h1 (k + j) hn).1
    rw [← Nat.add_assoc, reefN_succ]; omega
theorem mul_bd {a b A B : Int} (h0 : 0 ≤ a) (h1 : a ≤ A) (h2 : 0 ≤ b) (h3 : b ≤ B) : 0 ≤ a * b ∧ a * b ≤ A * B :=
  ⟨Int.mul_nonneg h0 h2, Int.mul_le_mul h1 h3 h2 (by omega)⟩

end Go.Proofs.Ytmlobiajimlboaa.W
