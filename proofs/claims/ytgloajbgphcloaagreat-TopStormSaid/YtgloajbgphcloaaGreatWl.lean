/- Plain mathematics of layer 8 (wall): what the program and the document's definition compute, as Lean functions on data; no program in sight. What the public questions of the wall answer. Plain: the level and the depths in a truth lie between those of both ends. How the wall's data lie in memory. Rows of elements of more than one cell that the call itself made. Which shores, storms and plans are as defined, as the program asks it. Plans, waves, the worst truth and the best one, and the level in a cell, as the program has them. The worst truth and the best one. The iterator over the wet cells, as a contract of its rounds; the depths. Play. Play. The public Level. The houses from a cell on. The document's definition: which shores, storms, plans are as defined. -/
import Derived.Test.YtgloajbgphcloaaGreatCo
import Derived.Test.YtgloajbgphcloaaGreatDr
import Derived.Defers
import Derived.Recover
import Derived.RangeFuncNested
import Derived.RangeFuncBound
import Derived.RangeFuncCalls
import Derived.RangeFuncLeaves
import Derived.Shelf.Abstract
import Derived.OwnWalkIn
import Derived.TacticsInMore
import Derived.LoopNIn
import Derived.LoopIn
import Derived.Deep.RegionHeld3
import Derived.Laws.CopyOwn
namespace Go.Proofs.YtgloajbgphcloaaGreat.Wl.W
set_option linter.unusedVariables false
set_option linter.unusedSimpArgs false
structure Cell where
  g : Int
  dl : Int
  dh : Int
  fl : Int
  deriving DecidableEq, Inhabited
structure Work where
  rise : Int
  calm : Int
  cost : Int
  deriving DecidableEq, Inhabited
structure Shore where
  cells : List Cell
  works : List Work
  reef : Int
  ll : Int
  lh : Int
  deriving DecidableEq
structure Storm where
  wl : Int
  wh : Int
  fl : Int
  fh : Int
  tl : Int
  th : Int
  deriving DecidableEq
structure Truth where
  wind : Int
  fetch : Int
  tide : Int
  loss : Int
  drags : List Int
  deriving DecidableEq
def within (x lo hi : Int) : Bool := decide (lo ≤ x) && decide (x ≤ hi)
def spanB (l h lo hi : Int) : Bool := decide (lo ≤ l) && decide (l ≤ h) && decide (h ≤ hi)
def cellB (c : Cell) : Bool := within c.g (-5000) 5000 && spanB c.dl c.dh 0 5000 && within c.fl (-1) 5000
def workB (w : Work) : Bool := within w.rise 0 5000 && within w.calm 0 5000 && within w.cost 0 1000000
def shoreB (s : Shore) : Bool := s.cells.all cellB && s.works.all workB && within s.cells.length 1 7 && decide (s.works.length ≤ 3) && within s.reef 0 20 && spanB s.ll s.lh 0 1000
def stormB (c : Storm) : Bool := spanB c.wl c.wh 0 1000 && spanB c.fl c.fh 0 10000 && spanB c.tl c.th (-5000) 5000
/-- A shore and a class of storms are as defined. -/
def okB (s : Shore) (c : Storm) : Bool := shoreB s && stormB c
def reefStep (loss n : Int) : Int := n - n * loss / 1000
def reefN : Nat → Int → Int → Int
  | 0, _, n => n
  | k + 1, loss, n => reefN k loss (reefStep loss n)
def wave (s : Shore) (t : Truth) : Int := reefN s.reef.toNat t.loss (t.wind * t.fetch / 1000)
def level (s : Shore) (t : Truth) : Int := t.tide + wave s t
def noWork : Work := ⟨0, 0, 0⟩
def work (ws : List Work) (p : Int) : Work := if 0 ≤ p then ws[p.toNat]?.getD noWork else noWork
def worst (s : Shore) (c : Storm) : Truth := ⟨c.wh, c.fh, c.th, s.ll, s.cells.map (·.dl)⟩
def best (s : Shore) (c : Storm) : Truth := ⟨c.wl, c.fl, c.tl, s.lh, s.cells.map (·.dh)⟩
/-! ### Bounds -/
theorem reefStep_bd {loss n : Int} (h0 : 0 ≤ loss) (h1 : loss ≤ 1000) (h2 : 0 ≤ n) : 0 ≤ reefStep loss n ∧ reefStep loss n ≤ n := by
  unfold reefStep
  have a : 0 ≤ n * loss := Int.mul_nonneg h2 h0
  have b : n * loss ≤ n * 1000 := Int.mul_le_mul_of_nonneg_left h1 h2
  omega
theorem reefN_bd {loss : Int} (h0 : 0 ≤ loss) (h1 : loss ≤ 1000) : ∀ (k : Nat) {n : Int}, 0 ≤ n → 0 ≤ reefN k loss n ∧ reefN k loss n ≤ n
  | 0, n, h => ⟨h, Int.le_refl _⟩
  | k + 1, n, h => by
    have a := reefStep_bd h0 h1 h
    have b := reefN_bd h0 h1 k a.1
    exact ⟨b.1, Int.le_trans b.2 a.2⟩
theorem reefN_succ (loss : Int) : ∀ (k : Nat) (n : Int), reefN (k + 1) loss n = reefStep loss (reefN k loss n)
  | 0, _ => rfl
  | k + 1, n => by show reefN (k + 1) loss (reefStep loss n) = _; rw [reefN_succ loss k]; rfl
/-- Less loss, more wave: never less behind a step. -/
theorem reefStep_mono {l l' n n' : Int} (_h0 : 0 ≤ l') (hl : l' ≤ l) (h1 : l ≤ 1000) (hn0 : 0 ≤ n) (hn : n ≤ n') : reefStep l n ≤ reefStep l' n' := by
  unfold reefStep
  have a : n * l' ≤ n * l := Int.mul_le_mul_of_nonneg_left hl hn0
  have b : (n' - n) * l' ≤ (n' - n) * 1000 := Int.mul_le_mul_of_nonneg_left (by omega) (by omega)
  have c : n' * l' = n * l' + (n' - n) * l' := by rw [← Int.add_mul]; congr 1; omega
  omega
theorem reefN_mono {l l' : Int} (h0 : 0 ≤ l') (hl : l' ≤ l) (h1 : l ≤ 1000) : ∀ (k : Nat) {n n' : Int}, 0 ≤ n → n ≤ n' → reefN k l n ≤ reefN k l' n'
  | 0, _, _, _, h => h
  | k + 1, n, n', hn0, hn => reefN_mono h0 hl h1 k (reefStep_bd (by omega) h1 hn0).1 (reefStep_mono h0 hl h1 hn0 hn)
theorem mul_bd {a b A B : Int} (h0 : 0 ≤ a) (h1 : a ≤ A) (h2 : 0 ≤ b) (h3 : b ≤ B) : 0 ≤ a * b ∧ a * b ≤ A * B :=
  ⟨Int.mul_nonneg h0 h2, Int.mul_le_mul h1 h3 h2 (by omega)⟩
end Go.Proofs.YtgloajbgphcloaaGreat.Wl.W
namespace Go.Proofs.YtgloajbgphcloaaGreat.Wl.W
set_option linter.unusedVariables false
set_option linter.unusedSimpArgs false
theorem span_le {l h lo hi : Int} (hs : spanB l h lo hi = true) : lo ≤ l ∧ l ≤ h ∧ h ≤ hi := by
  simp only [spanB, Bool.and_eq_true, decide_eq_true_eq] at hs
  exact ⟨hs.1.1, hs.1.2, hs.2⟩
theorem within_iff {x lo hi : Int} : within x lo hi = true ↔ lo ≤ x ∧ x ≤ hi := by simp [within]
/-- What okB says. -/
structure Ok (s : Shore) (c : Storm) : Prop where
  cell : ∀ x ∈ s.cells, -5000 ≤ x.g ∧ x.g ≤ 5000 ∧ 0 ≤ x.dl ∧ x.dl ≤ x.dh ∧ x.dh ≤ 5000 ∧ -1 ≤ x.fl ∧ x.fl ≤ 5000
  work : ∀ x ∈ s.works, 0 ≤ x.rise ∧ x.rise ≤ 5000 ∧ 0 ≤ x.calm ∧ x.calm ≤ 5000 ∧ 0 ≤ x.cost ∧ x.cost ≤ 1000000
  n1 : 1 ≤ s.cells.length
  n7 : s.cells.length ≤ 7
  m3 : s.works.length ≤ 3
  reef : 0 ≤ s.reef ∧ s.reef ≤ 20
  loss : 0 ≤ s.ll ∧ s.ll ≤ s.lh ∧ s.lh ≤ 1000
  wind : 0 ≤ c.wl ∧ c.wl ≤ c.wh ∧ c.wh ≤ 1000
  fetch : 0 ≤ c.fl ∧ c.fl ≤ c.fh ∧ c.fh ≤ 10000
  tide : -5000 ≤ c.tl ∧ c.tl ≤ c.th ∧ c.th ≤ 5000
theorem ok_iff {s : Shore} {c : Storm} (h : okB s c = true) : Ok s c := by
  simp only [okB, shoreB, stormB, Bool.and_eq_true, decide_eq_true_eq, List.all_eq_true, within_iff] at h
  obtain ⟨⟨⟨⟨⟨⟨h1, h2⟩, h3⟩, h4⟩, h5⟩, h6⟩, ⟨h7, h8⟩, h9⟩ := h
  refine ⟨fun x hx => ?_, fun x hx => ?_, by omega, by omega, h4, h5, span_le h6, span_le h7, span_le h8, span_le h9⟩
  · have := h1 x hx
    simp only [cellB, Bool.and_eq_true, within_iff] at this
    have := span_le this.1.2
    omega
  · have := h2 x hx
    simp only [workB, Bool.and_eq_true, within_iff] at this
    omega
end Go.Proofs.YtgloajbgphcloaaGreat.Wl.W
namespace Go.Proofs.YtgloajbgphcloaaGreat.Wl.W
set_option linter.unusedVariables false
set_option linter.unusedSimpArgs false
/-- What truthB says. -/
structure True (s : Shore) (c : Storm) (t : Truth) : Prop where
  len : t.drags.length = s.cells.length
  drag : ∀ (i : Nat) (h1 : i < s.cells.length) (h2 : i < t.drags.length), s.cells[i].dl ≤ t.drags[i] ∧ t.drags[i] ≤ s.cells[i].dh
  wind : c.wl ≤ t.wind ∧ t.wind ≤ c.wh
  fetch : c.fl ≤ t.fetch ∧ t.fetch ≤ c.fh
  tide : c.tl ≤ t.tide ∧ t.tide ≤ c.th
  loss : s.ll ≤ t.loss ∧ t.loss ≤ s.lh
theorem wave_mono {s : Shore} {t t' : Truth} (hw0 : 0 ≤ t.wind) (hw : t.wind ≤ t'.wind) (hf0 : 0 ≤ t.fetch) (hf : t.fetch ≤ t'.fetch) (hl0 : 0 ≤ t'.loss) (hl : t'.loss ≤ t.loss) (hl1 : t.loss ≤ 1000) :
    wave s t ≤ wave s t' := by
  have h1 : 0 ≤ t.wind * t.fetch := Int.mul_nonneg hw0 hf0
  have h2 : t.wind * t.fetch ≤ t'.wind * t'.fetch := Int.mul_le_mul hw hf hf0 (by omega)
  exact reefN_mono hl0 hl hl1 _ (by omega) (by omega)
theorem level_mono {s : Shore} {t t' : Truth} (hw0 : 0 ≤ t.wind) (hw : t.wind ≤ t'.wind) (hf0 : 0 ≤ t.fetch) (hf : t.fetch ≤ t'.fetch) (hl0 : 0 ≤ t'.loss) (hl : t'.loss ≤ t.loss) (hl1 : t.loss ≤ 1000) (ht : t.tide ≤ t'.tide) :
    level s t ≤ level s t' := by
  have := wave_mono (s := s) hw0 hw hf0 hf hl0 hl hl1
  unfold level; omega
end Go.Proofs.YtgloajbgphcloaaGreat.Wl.W
namespace Go.Proofs.YtgloajbgphcloaaGreat.Wl
set_option linter.unusedVariables false
set_option linter.unusedSimpArgs false
open Go.RowKit
def CellAt (w : World) (b o : Nat) (c : W.Cell) : Prop :=
  w.cell? ⟨b, o, none⟩ = some (.int .i64 c.g) ∧ w.cell? ⟨b, o + 1, none⟩ = some (.int .i64 c.dl) ∧ w.cell? ⟨b, o + 2, none⟩ = some (.int .i64 c.dh) ∧ w.cell? ⟨b, o + 3, none⟩ = some (.int .i64 c.fl)
def WorkAt (w : World) (b o : Nat) (x : W.Work) : Prop :=
  w.cell? ⟨b, o, none⟩ = some (.int .i64 x.rise) ∧ w.cell? ⟨b, o + 1, none⟩ = some (.int .i64 x.calm) ∧ w.cell? ⟨b, o + 2, none⟩ = some (.int .i64 x.cost)
def SpanAt (w : World) (b o : Nat) (x : Int × Int) : Prop :=
  w.cell? ⟨b, o, none⟩ = some (.int .i64 x.1) ∧ w.cell? ⟨b, o + 1, none⟩ = some (.int .i64 x.2)
theorem cell_stays : Stays CellAt := fun _ _ _ _ _ he hb h => ⟨(he.cells.1 _ _ hb).trans h.1, (he.cells.1 _ _ hb).trans h.2.1, (he.cells.1 _ _ hb).trans h.2.2.1, (he.cells.1 _ _ hb).trans h.2.2.2⟩
theorem work_stays : Stays WorkAt := fun _ _ _ _ _ he hb h => ⟨(he.cells.1 _ _ hb).trans h.1, (he.cells.1 _ _ hb).trans h.2.1, (he.cells.1 _ _ hb).trans h.2.2⟩
theorem span_stays : Stays SpanAt := fun _ _ _ _ _ he hb h => ⟨(he.cells.1 _ _ hb).trans h.1, (he.cells.1 _ _ hb).trans h.2⟩
/-- A slice of cells, of works, of spans. -/
def Cells (w : World) (v : Value) (xs : List W.Cell) : Prop := Sls 4 CellAt w v xs
def Works (w : World) (v : Value) (xs : List W.Work) : Prop := Sls 3 WorkAt w v xs
def Spans (w : World) (v : Value) (xs : List (Int × Int)) : Prop := Sls 2 SpanAt w v xs
theorem Cells.ext {w w' : World} {v : Value} {xs : List W.Cell} (h : Cells w v xs) (he : Ext w w') : Cells w' v xs := Sls.ext cell_stays h he
theorem Works.ext {w w' : World} {v : Value} {xs : List W.Work} (h : Works w v xs) (he : Ext w w') : Works w' v xs := Sls.ext work_stays h he
theorem Spans.ext {w w' : World} {v : Value} {xs : List (Int × Int)} (h : Spans w v xs) (he : Ext w w') : Spans w' v xs := Sls.ext span_stays h he
end Go.Proofs.YtgloajbgphcloaaGreat.Wl
namespace Go.Proofs.YtgloajbgphcloaaGreat.Wl
set_option linter.unusedVariables false
set_option linter.unusedSimpArgs false
open Go.RowKit
def spanC (x : Int × Int) : List Value := [.int .i64 x.1, .int .i64 x.2]
theorem Spans.of_own {w : World} {base : Nat} {v : Value} {xs : List (Int × Int)} (h : w.ownsRow base 25 2 v xs.length (xs.flatMap spanC)) : Spans w v xs := by
  obtain ⟨a, cap, rfl⟩ := own_slice h
  refine ⟨a, cap, rfl, fun i hi => ?_⟩
  rcases h.2 with ⟨e, h0⟩ | ⟨g, cap', cur, hv, hb, hg, _⟩
  · rw [h0] at hi; exact absurd hi (by omega)
  · cases hv
    refine ⟨g, 0, rfl, own_lt h, ?_, ?_⟩
    · exact own_cell h _ _ (by rw [Nat.zero_add]; have := flat_get spanC 2 (fun _ => rfl) xs i hi 0 (by omega); rw [Nat.add_zero] at this; rw [this]; rfl)
    · exact own_cell h _ _ (by rw [Nat.zero_add, flat_get spanC 2 (fun _ => rfl) xs i hi 1 (by omega)]; rfl)
end Go.Proofs.YtgloajbgphcloaaGreat.Wl
namespace Go.Proofs.YtgloajbgphcloaaGreat.Wl
set_option linter.unusedVariables false
set_option linter.unusedSimpArgs false
open Go.RowKit
theorem in_any (x lo hi : Int) (w : World) :
    Calls Tryz.prog 131 #[.int .i64 x, .int .i64 lo, .int .i64 hi] w fun e w' => e = .returned (.bool (W.within x lo hi)) ∧ w = w' := by
  go_enter Tryz.func131, Tryz.ntmps131
  go_wp2
  all_goals (go_ret; exact ⟨ret_bool (by rw [Bool.eq_iff_iff]; simp [W.within]; omega), rfl⟩)
theorem span_any (a b lo hi : Int) (w : World) :
    Calls Tryz.prog 132 #[.agg #[.int .i64 a, .int .i64 b], .int .i64 lo, .int .i64 hi] w fun e w' => e = .returned (.bool (W.spanB a b lo hi)) ∧ Ext w w' := by
  go_enter Tryz.func132, Tryz.ntmps132
  go_wp2
  all_goals (go_ret; exact ⟨ret_bool (by rw [Bool.eq_iff_iff]; simp [W.spanB]; omega), (Ext.refl _).alloc _⟩)
theorem cellbad (c : W.Cell) (w : World) :
    Calls Tryz.prog 134 #[.agg #[.int .i64 c.g, .int .i64 c.dl, .int .i64 c.dh, .int .i64 c.fl]] w fun e w' => e = .returned (.bool (!W.cellB c)) ∧ Ext w w' := by
  go_enter Tryz.func134, Tryz.ntmps134
  go_wp2_with (first | (go_at_call 131; refine (in_any _ _ _ _).mono ?_; rintro e w' ⟨rfl, rfl⟩) | (go_at_call 132; refine (span_any _ _ _ _ _).mono ?_; rintro e w' ⟨rfl, hb⟩; have hc := hb.cells.1))
  all_goals (go_ret; refine ⟨ret_bool (by simp [W.cellB, *]), ?_⟩)
  all_goals (with_reducible (repeat (first | exact Ext.refl _ | assumption | apply Ext.alloc | apply Ext.drew | exact ext_plus _ _ | (apply Ext.setCell; rotate_left; (simp <;> omega)) | (apply Ext.trans; rotate_left; exact ext_plus _ _) | (apply Ext.trans; rotate_left; assumption))))
theorem workbad (c : W.Work) (w : World) :
    Calls Tryz.prog 136 #[.agg #[.int .i64 c.rise, .int .i64 c.calm, .int .i64 c.cost]] w fun e w' => e = .returned (.bool (!W.workB c)) ∧ Ext w w' := by
  go_enter Tryz.func136, Tryz.ntmps136
  go_wp2_with (first | (go_at_call 131; refine (in_any _ _ _ _).mono ?_; rintro e w' ⟨rfl, rfl⟩))
  all_goals (go_ret; refine ⟨ret_bool (by simp [W.workB, *]), ?_⟩)
  all_goals (with_reducible (repeat (first | exact Ext.refl _ | assumption | apply Ext.alloc | apply Ext.drew | exact ext_plus _ _ | (apply Ext.setCell; rotate_left; (simp <;> omega)) | (apply Ext.trans; rotate_left; exact ext_plus _ _) | (apply Ext.trans; rotate_left; assumption))))
theorem idx_cells (xs : List W.Cell) (v : Value) (w : World) (hl : xs.length ≤ 1000000) (hv : Cells w v xs) :
    Calls Tryz.prog 201 #[v, .func (.func 134) #[] #[]] w fun e w' => ∃ n : Int, e = .returned (.int .i64 n) ∧ decide (0 ≤ n) = xs.any (fun c => !W.cellB c) ∧ Ext w w' := by
  obtain ⟨a, cap, rfl, hx⟩ := hv
  have hx' := Lib.hid hx
  clear hx
  go_enter Tryz.func201, Tryz.ntmps201
  go_wp2
  go_loopw [4, 5, 8] (fun _ _ i wr => ∃ k : Nat, k ≤ xs.length ∧ i = .int .i64 k ∧ (xs.take k).any (fun c => !W.cellB c) = false ∧ Ext w wr) (fun _ _ i _ => xs.length - (intOf i).toNat)
  case atStart => exact ⟨0, Nat.zero_le _, rfl, by simp, Ext.refl _⟩
  case round =>
    obtain ⟨k, hk, rfl, hany, hE⟩ := hrel
    by_cases hlt : k < xs.length
    · obtain ⟨b, off, rfl, hb, h0, h1, h2, h3⟩ := hx'.out k hlt
      have hc := hE.cells.1
      go_wp2_with fail
      refine (cellbad _ _).mono ?_
      rintro e w' ⟨rfl, hE'⟩
      by_cases hg : W.cellB xs[k] = true
      · have hg' : (!W.cellB xs[k]) = false := by simp [hg]
        rw [hg']
        go_wp2
        go_roundw
        case rel => exact ⟨k + 1, by omega, by go_num, by rw [List.take_succ_eq_append_getElem hlt, List.any_append, hany]; simp [hg], hE.trans hE'⟩
        case measure => simp [intOf]; omega
      · have hg' : (!W.cellB xs[k]) = true := by simp [hg]
        rw [hg']
        go_wp2
        go_ret
        exact ⟨_, rfl, by rw [eq_comm, List.any_eq_true.2 ⟨xs[k], List.getElem_mem hlt, hg'⟩]; simp, hE.trans hE'⟩
    · go_wp2
      go_ret
      obtain rfl : k = xs.length := by omega
      exact ⟨_, rfl, by rw [List.take_length] at hany; rw [hany]; rfl, hE⟩
theorem idx_works (xs : List W.Work) (v : Value) (w : World) (hl : xs.length ≤ 1000000) (hv : Works w v xs) :
    Calls Tryz.prog 202 #[v, .func (.func 136) #[] #[]] w fun e w' => ∃ n : Int, e = .returned (.int .i64 n) ∧ decide (0 ≤ n) = xs.any (fun c => !W.workB c) ∧ Ext w w' := by
  obtain ⟨a, cap, rfl, hx⟩ := hv
  have hx' := Lib.hid hx
  clear hx
  go_enter Tryz.func202, Tryz.ntmps202
  go_wp2
  go_loopw [4, 5, 8] (fun _ _ i wr => ∃ k : Nat, k ≤ xs.length ∧ i = .int .i64 k ∧ (xs.take k).any (fun c => !W.workB c) = false ∧ Ext w wr) (fun _ _ i _ => xs.length - (intOf i).toNat)
  case atStart => exact ⟨0, Nat.zero_le _, rfl, by simp, Ext.refl _⟩
  case round =>
    obtain ⟨k, hk, rfl, hany, hE⟩ := hrel
    by_cases hlt : k < xs.length
    · obtain ⟨b, off, rfl, hb, h0, h1, h2⟩ := hx'.out k hlt
      have hc := hE.cells.1
      go_wp2_with fail
      refine (workbad _ _).mono ?_
      rintro e w' ⟨rfl, hE'⟩
      by_cases hg : W.workB xs[k] = true
      · have hg' : (!W.workB xs[k]) = false := by simp [hg]
        rw [hg']
        go_wp2
        go_roundw
        case rel => exact ⟨k + 1, by omega, by go_num, by rw [List.take_succ_eq_append_getElem hlt, List.any_append, hany]; simp [hg], hE.trans hE'⟩
        case measure => simp [intOf]; omega
      · have hg' : (!W.workB xs[k]) = true := by simp [hg]
        rw [hg']
        go_wp2
        go_ret
        exact ⟨_, rfl, by rw [eq_comm, List.any_eq_true.2 ⟨xs[k], List.getElem_mem hlt, hg'⟩]; simp, hE.trans hE'⟩
    · go_wp2
      go_ret
      obtain rfl : k = xs.length := by omega
      exact ⟨_, rfl, by rw [List.take_length] at hany; rw [hany]; rfl, hE⟩
def badCells (xs : List W.Cell) : Bool := xs.any (fun c => !W.cellB c)
def badWorks (xs : List W.Work) : Bool := xs.any (fun c => !W.workB c)
theorem has_cells (xs : List W.Cell) (v : Value) (w : World) (hl : xs.length ≤ 1000000) (hv : Cells w v xs) :
    Calls Tryz.prog 133 #[v, .func (.func 134) #[] #[]] w fun e w' => e = .returned (.bool (badCells xs)) ∧ Ext w w' := by
  go_enter Tryz.func133, Tryz.ntmps133
  go_wp2_with fail
  refine (idx_cells xs v w hl hv).mono ?_
  rintro e w' ⟨n, rfl, hn, hE⟩
  have hn' := Lib.hid hn
  clear hn
  go_wp2
  go_ret
  exact ⟨ret_bool hn'.out, hE⟩
theorem has_works (xs : List W.Work) (v : Value) (w : World) (hl : xs.length ≤ 1000000) (hv : Works w v xs) :
    Calls Tryz.prog 135 #[v, .func (.func 136) #[] #[]] w fun e w' => e = .returned (.bool (badWorks xs)) ∧ Ext w w' := by
  go_enter Tryz.func135, Tryz.ntmps135
  go_wp2_with fail
  refine (idx_works xs v w hl hv).mono ?_
  rintro e w' ⟨n, rfl, hn, hE⟩
  have hn' := Lib.hid hn
  clear hn
  go_wp2
  go_ret
  exact ⟨ret_bool hn'.out, hE⟩
/-- As the program asks it. -/
def validB (s : W.Shore) (c : W.Storm) : Bool :=
  W.within s.cells.length 1 7 && decide (s.works.length ≤ 3) && W.within s.reef 0 20 && W.spanB s.ll s.lh 0 1000 && W.spanB c.wl c.wh 0 1000 && W.spanB c.fl c.fh 0 10000 && W.spanB c.tl c.th (-5000) 5000 && !badCells s.cells && !badWorks s.works
theorem validB_eq (s : W.Shore) (c : W.Storm) : validB s c = W.okB s c := by
  have h1 : s.cells.any (fun x => !W.cellB x) = !s.cells.all W.cellB := by rw [List.not_all_eq_any_not]
  have h2 : s.works.any (fun x => !W.workB x) = !s.works.all W.workB := by rw [List.not_all_eq_any_not]
  unfold validB W.okB W.shoreB W.stormB badCells badWorks
  rw [h1, h2, Bool.eq_iff_iff]
  simp only [Bool.and_eq_true, Bool.not_not]
  exact ⟨fun h => by simp only [h, and_self], fun h => by simp only [h, and_self]⟩
theorem valid_any (s : W.Shore) (c : W.Storm) (vc vw : Value) (w : World) (hC : Cells w vc s.cells) (hW : Works w vw s.works) (hn : s.cells.length ≤ 1000000) (hm : s.works.length ≤ 1000000) :
    Calls Tryz.prog 60 #[.agg #[vc, vw, .int .i64 s.reef, .int .i64 s.ll, .int .i64 s.lh], .agg #[.int .i64 c.wl, .int .i64 c.wh, .int .i64 c.fl, .int .i64 c.fh, .int .i64 c.tl, .int .i64 c.th]] w fun e w' =>
      e = .returned (.bool (W.okB s c)) ∧ Ext w w' := by
  rw [← validB_eq]
  have hC' := hC
  have hW' := hW
  obtain ⟨a1, c1, rfl, _⟩ := hC'
  obtain ⟨a2, c2, rfl, _⟩ := hW'
  go_enter Tryz.func60, Tryz.ntmps60
  go_wp2_with (first | (go_at_call 131; refine (in_any _ _ _ _).mono ?_; rintro e w' ⟨rfl, rfl⟩) | (go_at_call 132; refine (span_any _ _ _ _ _).mono ?_; rintro e w' ⟨rfl, hb⟩; have hc := hb.cells.1; have hz := hb.size; (try simp only [World.size_alloc, size_drew, size_drewN, size_setCell] at hz); have hs0 : w.heap.size < w'.heap.size := (by omega); have hs1 : w.heap.size + 1 < w'.heap.size := (by omega)) | (go_at_call 133; refine (has_cells s.cells _ _ hn (hC.ext (by (with_reducible (repeat (first | exact Ext.refl _ | assumption | apply Ext.alloc | apply Ext.drew | exact ext_plus _ _ | (apply Ext.setCell; rotate_left; (simp <;> omega)) | (apply Ext.trans; rotate_left; exact ext_plus _ _) | (apply Ext.trans; rotate_left; assumption))))))).mono ?_; rintro e w' ⟨rfl, hb⟩; have hc := hb.cells.1; have hz := hb.size; (try simp only [World.size_alloc, size_drew, size_drewN, size_setCell] at hz); have hs0 : w.heap.size < w'.heap.size := (by omega); have hs1 : w.heap.size + 1 < w'.heap.size := (by omega)) | (go_at_call 135; refine (has_works s.works _ _ hm (hW.ext (by (with_reducible (repeat (first | exact Ext.refl _ | assumption | apply Ext.alloc | apply Ext.drew | exact ext_plus _ _ | (apply Ext.setCell; rotate_left; (simp <;> omega)) | (apply Ext.trans; rotate_left; exact ext_plus _ _) | (apply Ext.trans; rotate_left; assumption))))))).mono ?_; rintro e w' ⟨rfl, hb⟩; have hc := hb.cells.1; have hz := hb.size; (try simp only [World.size_alloc, size_drew, size_drewN, size_setCell] at hz); have hs0 : w.heap.size < w'.heap.size := (by omega); have hs1 : w.heap.size + 1 < w'.heap.size := (by omega)))
  all_goals (go_ret; refine ⟨ret_bool (by simp [validB, *] <;> (intros; omega)), ?_⟩)
  all_goals (with_reducible (repeat (first | exact Ext.refl _ | assumption | apply Ext.alloc | apply Ext.drew | exact ext_plus _ _ | (apply Ext.setCell; rotate_left; (simp <;> omega)) | (apply Ext.trans; rotate_left; exact ext_plus _ _) | (apply Ext.trans; rotate_left; assumption))))
end Go.Proofs.YtgloajbgphcloaaGreat.Wl
namespace Go.Proofs.YtgloajbgphcloaaGreat.Wl
set_option linter.unusedVariables false
set_option linter.unusedSimpArgs false
open Go.RowKit
theorem wave_any (s : W.Shore) (t : W.Truth) (x0 x1 x2 x3 x4 x5 x6 x7 x8 x9 x10 y : Value) (w : World) (h0 : 0 ≤ t.wind) (h1 : t.wind ≤ 1000) (h2 : 0 ≤ t.fetch) (h3 : t.fetch ≤ 10000) (h4 : 0 ≤ t.loss) (h5 : t.loss ≤ 1000) (h6 : 0 ≤ s.reef) (h7 : s.reef ≤ 1000) :
    Calls Tryz.prog 63 #[.agg #[x0, x1, .int .i64 s.reef, x2, x3, x4, x5, x6, x7, x8, x9, x10], .agg #[.int .i64 t.wind, .int .i64 t.fetch, .int .i64 t.tide, .int .i64 t.loss, y]] w fun e w' => e = .returned (.int .i64 (W.wave s t)) ∧ Ext w w' := by
  obtain ⟨r, hr⟩ := Int.eq_ofNat_of_zero_le h6
  have hr' : W.wave s t = W.reefN r t.loss (t.wind * t.fetch / 1000) := by unfold W.wave; rw [hr]; rfl
  have hr7 : r ≤ 1000 := by omega
  rw [hr, hr']
  clear hr hr' h6 h7
  have hm := W.mul_bd h0 h1 h2 h3
  have hq : 0 ≤ t.wind * t.fetch / 1000 ∧ t.wind * t.fetch / 1000 ≤ 10000 := by omega
  have HB := Lib.hid (fun k => W.reefN_bd h4 h5 k hq.1)
  go_enter Tryz.func63, Tryz.ntmps63
  go_wp2
  go_loop [5, 15] (fun n i => ∃ k : Nat, k ≤ r ∧ i = .int .i64 k ∧ n = .int .i64 (W.reefN k t.loss (t.wind * t.fetch / 1000))) (fun _ i => r - (intOf i).toNat)
  case atStart => exact ⟨0, Nat.zero_le _, rfl, rfl⟩
  case round =>
    obtain ⟨k, hk, rfl, rfl⟩ := hrel
    have hb := HB.out k
    have hs := Lib.hid (W.reefN_succ t.loss k (t.wind * t.fetch / 1000))
    generalize hnk : W.reefN k t.loss (t.wind * t.fetch / 1000) = nk at hb hs ⊢
    have HNK := Lib.hid hnk
    clear hnk
    have hp := W.mul_bd hb.1 (show nk ≤ 10000 by omega) h4 h5
    have hd : 0 ≤ nk * t.loss / 1000 ∧ nk * t.loss / 1000 ≤ 10000 := by omega
    by_cases hlt : k < r
    · go_wp2
      go_round
      case rel => exact ⟨k + 1, by omega, by go_num, by rw [hs.out]; rfl⟩
      case measure => simp [intOf]; omega
    · go_wp2
      go_ret
      have e : k = r := by omega
      subst e
      refine ⟨ret_int HNK.out.symm, ?_⟩
      (with_reducible (repeat (first | exact Ext.refl _ | assumption | apply Ext.alloc | apply Ext.drew | exact ext_plus _ _ | (apply Ext.setCell; rotate_left; (simp <;> omega)) | (apply Ext.trans; rotate_left; exact ext_plus _ _) | (apply Ext.trans; rotate_left; assumption))))
/-- A shore in a storm with a plan, as the program holds it. -/
abbrev shoreV (s : W.Shore) (c : W.Storm) (vc vw vp : Value) : Value :=
  .agg #[vc, vw, .int .i64 s.reef, .int .i64 s.ll, .int .i64 s.lh, .int .i64 c.wl, .int .i64 c.wh, .int .i64 c.fl, .int .i64 c.fh, .int .i64 c.tl, .int .i64 c.th, vp]
end Go.Proofs.YtgloajbgphcloaaGreat.Wl
namespace Go.Proofs.YtgloajbgphcloaaGreat.Wl
set_option linter.unusedVariables false
set_option linter.unusedSimpArgs false
open Go.RowKit
/-- A truth, as the program holds it. -/
abbrev truthV (t : W.Truth) (vd : Value) : Value := .agg #[.int .i64 t.wind, .int .i64 t.fetch, .int .i64 t.tide, .int .i64 t.loss, vd]
/-- v's cells came since w. -/
def Fresh (w : World) (v : Value) : Prop := ∀ k, v.ownBlock = some k → w.heap.size ≤ k
def RetTruth (w : World) (t : W.Truth) (e : Ending) (w' : World) : Prop := ∃ vd, e = .returned (truthV t vd) ∧ Ints w' vd t.drags ∧ Ext w w' ∧ Fresh w vd
theorem _root_.Go.Proofs.YtgloajbgphcloaaGreat.Ints.setCell {w : World} {v : Value} {xs : List Int} (h : Ints w v xs) {a : Addr} (ha : v.ownBlock ≠ some a.block) (u : Value) : Ints (w.setCell a u) v xs := by
  obtain ⟨s, cap, rfl, hx⟩ := h
  refine ⟨s, cap, rfl, fun i hi => ?_⟩
  obtain ⟨b, off, rfl, hb, hc⟩ := hx i hi
  refine ⟨b, off, rfl, by simpa [World.setCell] using hb, ?_⟩
  have hne : b ≠ a.block := fun e => ha (by rw [← e]; rfl)
  rw [← hc]
  simp [World.cell?, Below.heap_setCell _ _ _ _ hne]
set_option maxRecDepth 100000 in
set_option maxHeartbeats 1000000 in
theorem worst_any (s : W.Shore) (c : W.Storm) (vc vw vp : Value) (w : World) (hC : Cells w vc s.cells) (hn : s.cells.length ≤ 1000000) :
    Calls Tryz.prog 62 #[shoreV s c vc vw vp] w (RetTruth w (W.worst s c)) := by
  obtain ⟨a1, c1, rfl, hx⟩ := hC
  have hx' := Lib.hid hx
  clear hx
  obtain ⟨i0, hi, hz0, hz1, hz2⟩ := info_parts int_info
  go_enter Tryz.func62, Tryz.ntmps62
  go_wp2
  go_loopw [5, 27] (fun _ i wr => ∃ (k : Nat) (v : Value), k ≤ s.cells.length ∧ i = .int .i64 k ∧ wr.ownsRow (w.heap.size + 3) 3 1 v k (pre (·.dl) s.cells k) ∧
      Blk wr (w.heap.size + 1 + 1) #[.int .i64 c.wh, .int .i64 c.fh, .int .i64 c.th, .int .i64 s.ll, v] 158 ∧ Blk wr (w.heap.size + 1) #[.int .i64 0, .int .i64 0, .int .i64 0, .int .i64 0, .slice none 0 0] 158 ∧ Ext w wr)
    (fun _ i _ => s.cells.length - (intOf i).toNat)
  case atStart => exact ⟨0, _, Nat.zero_le _, rfl, World.ownsRow_nil _ _ _ _, Blk.new' (by simp) _ _, (Blk.new' (by simp) _ _).alloc _, (by (with_reducible (repeat (first | exact Ext.refl _ | assumption | apply Ext.alloc | apply Ext.drew | exact ext_plus _ _ | (apply Ext.setCell; rotate_left; (simp <;> omega)) | (apply Ext.trans; rotate_left; exact ext_plus _ _) | (apply Ext.trans; rotate_left; assumption)))))⟩
  case round =>
    obtain ⟨k, v, hk, rfl, hown, hb2, hb1, hE⟩ := hrel
    have hz := hb2.lt
    have hcb2 := hb2.cell
    have hfb2 := hb2.free
    by_cases hlt : k < s.cells.length
    · obtain ⟨b, off, rfl, hb, h0, h1, h2, h3⟩ := hx'.out k hlt
      have hc := hE.cells.1
      go_wp2_with (first | ((at_builtin; refine wpList_append_own _ rfl _ _ 30 rfl (w.heap.size + 3) 3 i0 (.int .i64 0) 1 8 Tryz.underlying30 hi hz0 hz1 hz2 rfl (by decide) _ _ _ rfl ((hown.alloc _).alloc _) ⟨wr.heap.size + 1, 0, none⟩ 1 1 [.int .i64 (s.cells[k].dl)] rfl rfl (cell_one _ _ _ (by simp)) (one_int _) (by unfold maxLen; omega) (by omega) (by simp <;> omega) ?_; intro v' w1 hown' hgrow _; obtain ⟨g', cap', rfl⟩ := own_succ hown'); have hb2' := ((hb2.alloc _).alloc _).grown hgrow (own_base hown) (by omega); have hb1' := ((hb1.alloc _).alloc _).grown hgrow (own_base hown) (by omega); have hcb3 := hb2'.cell; have hfb3 := hb2'.free))
      go_roundw
      case rel => exact ⟨k + 1, _, by omega, by go_num, by rw [pre_succ _ _ hlt]; exact ownsRow_setCell_below hown' (a := ⟨w.heap.size + 1 + 1, 4, none⟩) (by show w.heap.size + 1 + 1 < w.heap.size + 3; omega) _, hb2'.set 4 _, hb1'.other (by show w.heap.size + 1 + 1 ≠ w.heap.size + 1; omega) _, (((hE.alloc _).alloc _).grown hgrow (fun k e => by have := own_base hown k e; omega)).setCell (by simp <;> omega) _⟩
      case measure => simp [intOf]; omega
    · have hcb1 := hb1.cell
      have hfb1 := hb1.free
      obtain ⟨av, cv, rfl⟩ := own_slice hown
      go_wp2
      have e : k = s.cells.length := by omega
      subst e
      rw [pre_all] at hown
      refine bodyPost_ret (v := truthV (W.worst s c) (.slice av s.cells.length cv)) (by simp [results, Tryz.results62, go_sem, *, W.worst]) rfl ⟨_, rfl, ?_, ?_, fun k e => by have := own_base hown k e; omega⟩
      · show Ints _ _ (s.cells.map (·.dl))
        refine Ints.of_own (base := w.heap.size + 3) ?_
        rw [List.length_map]
        iterate 5 (refine ownsRow_setCell_below ?_ (by show w.heap.size + 1 < w.heap.size + 3; omega) _)
        exact hown
      · (with_reducible (repeat (first | exact Ext.refl _ | assumption | apply Ext.alloc | apply Ext.drew | exact ext_plus _ _ | (apply Ext.setCell; rotate_left; (simp <;> omega)) | (apply Ext.trans; rotate_left; exact ext_plus _ _) | (apply Ext.trans; rotate_left; assumption))))
set_option maxRecDepth 100000 in
set_option maxHeartbeats 1000000 in
theorem best_any (s : W.Shore) (c : W.Storm) (vc vw vp : Value) (w : World) (hC : Cells w vc s.cells) (hn : s.cells.length ≤ 1000000) :
    Calls Tryz.prog 61 #[shoreV s c vc vw vp] w (RetTruth w (W.best s c)) := by
  obtain ⟨a1, c1, rfl, hx⟩ := hC
  have hx' := Lib.hid hx
  clear hx
  obtain ⟨i0, hi, hz0, hz1, hz2⟩ := info_parts int_info
  go_enter Tryz.func61, Tryz.ntmps61
  go_wp2
  go_loopw [5, 27] (fun _ i wr => ∃ (k : Nat) (v : Value), k ≤ s.cells.length ∧ i = .int .i64 k ∧ wr.ownsRow (w.heap.size + 3) 3 1 v k (pre (·.dh) s.cells k) ∧
      Blk wr (w.heap.size + 1 + 1) #[.int .i64 c.wl, .int .i64 c.fl, .int .i64 c.tl, .int .i64 s.lh, v] 158 ∧ Blk wr (w.heap.size + 1) #[.int .i64 0, .int .i64 0, .int .i64 0, .int .i64 0, .slice none 0 0] 158 ∧ Ext w wr)
    (fun _ i _ => s.cells.length - (intOf i).toNat)
  case atStart => exact ⟨0, _, Nat.zero_le _, rfl, World.ownsRow_nil _ _ _ _, Blk.new' (by simp) _ _, (Blk.new' (by simp) _ _).alloc _, (by (with_reducible (repeat (first | exact Ext.refl _ | assumption | apply Ext.alloc | apply Ext.drew | exact ext_plus _ _ | (apply Ext.setCell; rotate_left; (simp <;> omega)) | (apply Ext.trans; rotate_left; exact ext_plus _ _) | (apply Ext.trans; rotate_left; assumption)))))⟩
  case round =>
    obtain ⟨k, v, hk, rfl, hown, hb2, hb1, hE⟩ := hrel
    have hz := hb2.lt
    have hcb2 := hb2.cell
    have hfb2 := hb2.free
    by_cases hlt : k < s.cells.length
    · obtain ⟨b, off, rfl, hb, h0, h1, h2, h3⟩ := hx'.out k hlt
      have hc := hE.cells.1
      go_wp2_with (first | ((at_builtin; refine wpList_append_own _ rfl _ _ 30 rfl (w.heap.size + 3) 3 i0 (.int .i64 0) 1 8 Tryz.underlying30 hi hz0 hz1 hz2 rfl (by decide) _ _ _ rfl ((hown.alloc _).alloc _) ⟨wr.heap.size + 1, 0, none⟩ 1 1 [.int .i64 (s.cells[k].dh)] rfl rfl (cell_one _ _ _ (by simp)) (one_int _) (by unfold maxLen; omega) (by omega) (by simp <;> omega) ?_; intro v' w1 hown' hgrow _; obtain ⟨g', cap', rfl⟩ := own_succ hown'); have hb2' := ((hb2.alloc _).alloc _).grown hgrow (own_base hown) (by omega); have hb1' := ((hb1.alloc _).alloc _).grown hgrow (own_base hown) (by omega); have hcb3 := hb2'.cell; have hfb3 := hb2'.free))
      go_roundw
      case rel => exact ⟨k + 1, _, by omega, by go_num, by rw [pre_succ _ _ hlt]; exact ownsRow_setCell_below hown' (a := ⟨w.heap.size + 1 + 1, 4, none⟩) (by show w.heap.size + 1 + 1 < w.heap.size + 3; omega) _, hb2'.set 4 _, hb1'.other (by show w.heap.size + 1 + 1 ≠ w.heap.size + 1; omega) _, (((hE.alloc _).alloc _).grown hgrow (fun k e => by have := own_base hown k e; omega)).setCell (by simp <;> omega) _⟩
      case measure => simp [intOf]; omega
    · have hcb1 := hb1.cell
      have hfb1 := hb1.free
      obtain ⟨av, cv, rfl⟩ := own_slice hown
      go_wp2
      have e : k = s.cells.length := by omega
      subst e
      rw [pre_all] at hown
      refine bodyPost_ret (v := truthV (W.best s c) (.slice av s.cells.length cv)) (by simp [results, Tryz.results61, go_sem, *, W.best]) rfl ⟨_, rfl, ?_, ?_, fun k e => by have := own_base hown k e; omega⟩
      · show Ints _ _ (s.cells.map (·.dh))
        refine Ints.of_own (base := w.heap.size + 3) ?_
        rw [List.length_map]
        iterate 5 (refine ownsRow_setCell_below ?_ (by show w.heap.size + 1 < w.heap.size + 3; omega) _)
        exact hown
      · (with_reducible (repeat (first | exact Ext.refl _ | assumption | apply Ext.alloc | apply Ext.drew | exact ext_plus _ _ | (apply Ext.setCell; rotate_left; (simp <;> omega)) | (apply Ext.trans; rotate_left; exact ext_plus _ _) | (apply Ext.trans; rotate_left; assumption))))
end Go.Proofs.YtgloajbgphcloaaGreat.Wl
namespace Go.Proofs.YtgloajbgphcloaaGreat.Wl
set_option linter.unusedVariables false
set_option linter.unusedSimpArgs false
open Go.RowKit Go.Shelf
attribute [local go_sem] Oper.semAt_some
/-- What a round leaves as it lay: all below n, and two blocks more. -/
def Keep (n b1 b2 : Nat) (A B : World) : Prop := Below n A B ∧ B.heap[b1]? = A.heap[b1]? ∧ B.heap[b2]? = A.heap[b2]?
theorem Keep.trans {n b1 b2 : Nat} {A B C : World} (h : Keep n b1 b2 A B) (k : Keep n b1 b2 B C) : Keep n b1 b2 A C := ⟨h.1.trans k.1, k.2.1.trans h.2.1, k.2.2.trans h.2.2⟩
end Go.Proofs.YtgloajbgphcloaaGreat.Wl
namespace Go.Proofs.YtgloajbgphcloaaGreat.Wl
set_option linter.unusedVariables false
set_option linter.unusedSimpArgs false
open Go.RowKit
def codeOf (b : Bool) : Int := if b then 0 else 2
end Go.Proofs.YtgloajbgphcloaaGreat.Wl
namespace Go.Proofs.YtgloajbgphcloaaGreat.Wl
set_option linter.unusedVariables false
set_option linter.unusedSimpArgs false
open Go.RowKit
abbrev shoreA (s : W.Shore) (vc vw : Value) : Value := .agg #[vc, vw, .int .i64 s.reef, .int .i64 s.ll, .int .i64 s.lh]
abbrev stormA (c : W.Storm) : Value := .agg #[.int .i64 c.wl, .int .i64 c.wh, .int .i64 c.fl, .int .i64 c.fh, .int .i64 c.tl, .int .i64 c.th]
end Go.Proofs.YtgloajbgphcloaaGreat.Wl
namespace Go.Proofs.YtgloajbgphcloaaGreat.Wl
set_option linter.unusedVariables false
set_option linter.unusedSimpArgs false
open Go.RowKit
def levelOf (s : W.Shore) (c : W.Storm) : Int × Int := if W.okB s c then (W.level s (W.best s c), W.level s (W.worst s c)) else (0, 0)
theorem level_bd2 {s : W.Shore} {t : W.Truth} (hw : 0 ≤ t.wind ∧ t.wind ≤ 1000) (hf : 0 ≤ t.fetch ∧ t.fetch ≤ 10000) (ht : -5000 ≤ t.tide ∧ t.tide ≤ 5000) (hl : 0 ≤ t.loss ∧ t.loss ≤ 1000) : -5000 ≤ W.level s t ∧ W.level s t ≤ 15000 := by
  have a := W.mul_bd hw.1 hw.2 hf.1 hf.2
  have b := W.reefN_bd hl.1 hl.2 s.reef.toNat (n := t.wind * t.fetch / 1000) (by omega)
  unfold W.level W.wave
  omega
namespace W.Ok
variable {s : W.Shore} {c : W.Storm} (h : W.Ok s c)
include h
theorem wind1 : 0 ≤ (W.best s c).wind ∧ (W.best s c).wind ≤ 1000 := by have := h.wind; simp only [W.best]; omega
theorem wind2 : 0 ≤ (W.worst s c).wind ∧ (W.worst s c).wind ≤ 1000 := by have := h.wind; simp only [W.worst]; omega
theorem fetch1 : 0 ≤ (W.best s c).fetch ∧ (W.best s c).fetch ≤ 10000 := by have := h.fetch; simp only [W.best]; omega
theorem fetch2 : 0 ≤ (W.worst s c).fetch ∧ (W.worst s c).fetch ≤ 10000 := by have := h.fetch; simp only [W.worst]; omega
theorem tide1 : -5000 ≤ (W.best s c).tide ∧ (W.best s c).tide ≤ 5000 := by have := h.tide; simp only [W.best]; omega
theorem tide2 : -5000 ≤ (W.worst s c).tide ∧ (W.worst s c).tide ≤ 5000 := by have := h.tide; simp only [W.worst]; omega
theorem loss1 : 0 ≤ (W.best s c).loss ∧ (W.best s c).loss ≤ 1000 := by have := h.loss; simp only [W.best]; omega
theorem loss2 : 0 ≤ (W.worst s c).loss ∧ (W.worst s c).loss ≤ 1000 := by have := h.loss; simp only [W.worst]; omega
end W.Ok
set_option maxRecDepth 100000 in
set_option maxHeartbeats 2000000 in
theorem levelQ_any (s : W.Shore) (c : W.Storm) (vc vw : Value) (w : World) (hC : Cells w vc s.cells) (hW : Works w vw s.works) (hn : s.cells.length ≤ 1000000) (hm : s.works.length ≤ 1000000) :
    Calls Tryz.prog 13 #[shoreA s vc vw, stormA c] w fun e w' => e = .returned (.tuple #[.agg #[.int .i64 (levelOf s c).1, .int .i64 (levelOf s c).2], .int .i64 (codeOf (W.okB s c))]) ∧ Ext w w' := by
  have hC' := hC
  have hW' := hW
  obtain ⟨a1, c1, rfl, _⟩ := hC'
  obtain ⟨a2, c2, rfl, _⟩ := hW'
  obtain ⟨ok, hok⟩ : ∃ ok, W.okB s c = ok := ⟨_, rfl⟩
  have HG := Lib.hid (fun w' hx => valid_any s c _ _ w' (hC.ext hx) (hW.ext hx) hn hm)
  have ew : levelOf s c = if ok then (W.level s (W.best s c), W.level s (W.worst s c)) else (0, 0) := by unfold levelOf; rw [hok]
  rw [hok] at HG
  rw [ew]
  have hcode : codeOf (W.okB s c) = codeOf ok := by rw [hok]
  rw [hcode]
  clear ew hcode
  cases ok with
  | false =>
    clear hok
    go_enter Tryz.func13, Tryz.ntmps13
    go_wp2_with (first | (go_at_call 60; refine (HG.out _ (by (with_reducible (repeat (first | exact Ext.refl _ | assumption | apply Ext.alloc | apply Ext.drew | exact ext_plus _ _ | (apply Ext.setCell; rotate_left; (simp <;> omega)) | (apply Ext.trans; rotate_left; exact ext_plus _ _) | (apply Ext.trans; rotate_left; assumption)))))).mono ?_; rintro e w' ⟨rfl, hb⟩; have hb1 : Blk w' (w.heap.size + 1 + 1) #[.int .i64 0, .int .i64 0] 25 := Blk.ext (Blk.new' (by simp) _ _) hb; have hc := hb.cells.1; have hz := hb.size; (try simp only [World.size_alloc, size_drew, size_drewN, size_setCell] at hz); have hs0 : w.heap.size < w'.heap.size := (by omega); have hs1 : w.heap.size + 1 < w'.heap.size := (by omega); have hs2 : w.heap.size + 2 < w'.heap.size := (by omega); have hfb1 := hb1.free; have hcb1 := hb1.cell))
    refine bodyPost_ret (v := .tuple #[.agg #[.int .i64 0, .int .i64 0], .int .i64 2]) (by simp [results, Tryz.results13, go_sem, *]) rfl ⟨rfl, ?_⟩
    (with_reducible show Ext _ _; (with_reducible (repeat (first | exact Ext.refl _ | assumption | apply Ext.alloc | apply Ext.drew | exact ext_plus _ _ | (apply Ext.setCell; rotate_left; (simp <;> omega)) | (apply Ext.trans; rotate_left; exact ext_plus _ _) | (apply Ext.trans; rotate_left; assumption)))); done)
  | true =>
    have hO := W.ok_iff hok
    clear hok
    go_enter Tryz.func13, Tryz.ntmps13
    go_wp2_with (first | (go_at_call 60; refine (HG.out _ (by (with_reducible (repeat (first | exact Ext.refl _ | assumption | apply Ext.alloc | apply Ext.drew | exact ext_plus _ _ | (apply Ext.setCell; rotate_left; (simp <;> omega)) | (apply Ext.trans; rotate_left; exact ext_plus _ _) | (apply Ext.trans; rotate_left; assumption)))))).mono ?_; rintro e w' ⟨rfl, hb⟩; have hb1 : Blk w' (w.heap.size + 1 + 1) #[.int .i64 0, .int .i64 0] 25 := Blk.ext (Blk.new' (by simp) _ _) hb; have hc := hb.cells.1; have hz := hb.size; (try simp only [World.size_alloc, size_drew, size_drewN, size_setCell] at hz); have hs0 : w.heap.size < w'.heap.size := (by omega); have hs1 : w.heap.size + 1 < w'.heap.size := (by omega); have hs2 : w.heap.size + 2 < w'.heap.size := (by omega); have hfb1 := hb1.free; have hcb1 := hb1.cell))
    have hix0 : ∀ (f g : Fn) (A B : Array Value) (w : World), (Instr.index 156 (.agg #[.func f A #[], .func g B #[]]) (.int .i64 0)).run Tryz.prog w = .ok (.func f A #[]) w := fun _ _ _ _ _ => by kernel_rfl
    have hix1 : ∀ (f g : Fn) (A B : Array Value) (w : World), (Instr.index 156 (.agg #[.func f A #[], .func g B #[]]) (.int .i64 1)).run Tryz.prog w = .ok (.func g B #[]) w := fun _ _ _ _ _ => by kernel_rfl
    have hbB := level_bd2 (s := s) (t := W.best s c) hO.wind1 hO.fetch1 hO.tide1 hO.loss1
    have hbW := level_bd2 (s := s) (t := W.worst s c) hO.wind2 hO.fetch2 hO.tide2 hO.loss2
    have HLVbest : Hid (IntKind.wrap .i64 ((W.best s c).tide + W.wave s (W.best s c)) = W.level s (W.best s c)) := by
      unfold W.level at hbB; exact IntWalk.i64_in _ (by omega)
    have HLVworst : Hid (IntKind.wrap .i64 ((W.worst s c).tide + W.wave s (W.worst s c)) = W.level s (W.worst s c)) := by
      unfold W.level at hbW; exact IntWalk.i64_in _ (by omega)
    have hreef := hO.reef
    have HWVbest := Lib.hid (fun x0 x1 x2 x3 x4 x5 x6 x7 x8 x9 x10 y w => wave_any s (W.best s c) x0 x1 x2 x3 x4 x5 x6 x7 x8 x9 x10 y w hO.wind1.1 hO.wind1.2 hO.fetch1.1 hO.fetch1.2 hO.loss1.1 hO.loss1.2 hreef.1 (by omega))
    have HWVworst := Lib.hid (fun x0 x1 x2 x3 x4 x5 x6 x7 x8 x9 x10 y w => wave_any s (W.worst s c) x0 x1 x2 x3 x4 x5 x6 x7 x8 x9 x10 y w hO.wind2.1 hO.wind2.2 hO.fetch2.1 hO.fetch2.2 hO.loss2.1 hO.loss2.2 hreef.1 (by omega))
    have hpc := plus_cell
    have hE0 : Ext w w' := by (with_reducible (repeat (first | exact Ext.refl _ | assumption | apply Ext.alloc | apply Ext.drew | exact ext_plus _ _ | (apply Ext.setCell; rotate_left; (simp <;> omega)) | (apply Ext.trans; rotate_left; exact ext_plus _ _) | (apply Ext.trans; rotate_left; assumption))))
    have Hbest := Lib.hid (fun y (hx : Ext w' y) => best_any s c _ (.slice a2 s.works.length c2) (.slice none 0 0) y (hC.ext (hE0.trans hx)) hn)
    have Hworst := Lib.hid (fun y (hx : Ext w' y) => worst_any s c _ (.slice a2 s.works.length c2) (.slice none 0 0) y (hC.ext (hE0.trans hx)) hn)
    clear hbB hbW hreef HG
    go_loopw [24] (fun i wr => ∃ k : Nat, k ≤ 2 ∧ i = .int .i64 k ∧ Blk wr w'.heap.size #[.slice a1 s.cells.length c1, .slice a2 s.works.length c2, .int .i64 s.reef, .int .i64 s.ll, .int .i64 s.lh, .int .i64 c.wl, .int .i64 c.wh, .int .i64 c.fl, .int .i64 c.fh, .int .i64 c.tl, .int .i64 c.th, .slice none 0 0] 153 ∧ Blk wr (w'.heap.size + 1) #[.int .i64 (if 1 ≤ k then W.level s (W.best s c) else 0), .int .i64 (if 2 ≤ k then W.level s (W.worst s c) else 0)] 154 ∧ Ext w' wr)
      (fun i _ => 2 - (intOf i).toNat)
    case atStart => exact ⟨0, by omega, rfl, (Blk.new' rfl _ _).alloc _, Blk.new' (by simp) _ _, by (with_reducible (repeat (first | exact Ext.refl _ | assumption | apply Ext.alloc | apply Ext.drew | exact ext_plus _ _ | (apply Ext.setCell; rotate_left; (simp <;> omega)) | (apply Ext.trans; rotate_left; exact ext_plus _ _) | (apply Ext.trans; rotate_left; assumption))))⟩
    case round =>
      obtain ⟨k, hk, rfl, hX6, hXA, hEk⟩ := hrel
      rcases (show k = 0 ∨ k = 1 ∨ k = 2 by omega) with hk0 | hk0 | hk0
      · simp only [hk0, show ¬ (1 ≤ 0) by omega, show ¬ (2 ≤ 0) by omega, if_false] at hXA
        obtain rfl : k = 0 := by omega
        have hcx := hX6.cell
        have hlx := hX6.lt
        have hca := hXA.cell
        have hfa := hXA.free
        have hla := hXA.lt
        have hsz := hEk.size
        go_wp2_with (first | (go_at_call 61; refine (Hbest.out _ (by (with_reducible (repeat (first | exact Ext.refl _ | assumption | apply Ext.alloc | apply Ext.drew | exact ext_plus _ _ | (apply Ext.setCell; rotate_left; (simp <;> omega)) | (apply Ext.trans; rotate_left; exact ext_plus _ _) | (apply Ext.trans; rotate_left; assumption)))))).mono ?_; rintro e y1 ⟨vd1, rfl, hv1, hy1, _⟩; obtain ⟨vs, vk, rfl, _⟩ := hv1; have hX6' := hX6.ext hy1; have hXA' := hXA.ext hy1; have hcx' := hX6'.cell; have hca' := hXA'.cell; have hfa' := hXA'.free; have hlx' := hX6'.lt; have hla' := hXA'.lt; have hsy := hy1.size; have q7 : w'.heap.size < y1.heap.size + 1 := (by omega)))
        refine wp_region_ext 8 (fun _ _ d _ _ h => by cases d <;> exact h) (by kernel_rfl) (by kernel_rfl) (by kernel_rfl) (by kernel_rfl) ?_
        simp only [List.take_succ_cons, List.take_zero, List.drop_succ_cons, List.drop_zero]
        repeat (any_goals (first | quiet_step (first | (go_at_call 63; exact ext_quiet (HWVbest.out _ _ _ _ _ _ _ _ _ _ _ _ _))) | (refine wpQuiet_step (fun K hK => ?_); go_simp; split <;> (refine hK _ ?_; clear hK K))))
        all_goals (refine wpQuiet_nil ?_; intro y2 hE2)
        rw [HLVbest.out]
        have hXA2 := (hXA'.alloc _).ext hE2
        have hX62 := (hX6'.alloc _).ext hE2
        have hca2 := hXA2.cell
        have hfa2 := hXA2.free
        have hla2 := hXA2.lt
        go_wp2
        go_roundw
        case rel => exact ⟨1, by omega, by go_num, hX62.other (by show w'.heap.size + 1 ≠ w'.heap.size; omega) _, by have h9 := hXA2.set 0 (.int .i64 (W.level s (W.best s c))); simpa using h9, (Ext.trans ((hEk.trans hy1).alloc _) hE2).setCell (by show w'.heap.size ≤ w'.heap.size + 1; omega) _⟩
        case measure => simp [intOf]
      · simp only [hk0, show (1 ≤ 1) by omega, show ¬ (2 ≤ 1) by omega, if_false, if_true] at hXA
        obtain rfl : k = 1 := by omega
        have hcx := hX6.cell
        have hlx := hX6.lt
        have hca := hXA.cell
        have hfa := hXA.free
        have hla := hXA.lt
        have hsz := hEk.size
        go_wp2_with (first | (go_at_call 62; refine (Hworst.out _ (by (with_reducible (repeat (first | exact Ext.refl _ | assumption | apply Ext.alloc | apply Ext.drew | exact ext_plus _ _ | (apply Ext.setCell; rotate_left; (simp <;> omega)) | (apply Ext.trans; rotate_left; exact ext_plus _ _) | (apply Ext.trans; rotate_left; assumption)))))).mono ?_; rintro e y1 ⟨vd1, rfl, hv1, hy1, _⟩; obtain ⟨vs, vk, rfl, _⟩ := hv1; have hX6' := hX6.ext hy1; have hXA' := hXA.ext hy1; have hcx' := hX6'.cell; have hca' := hXA'.cell; have hfa' := hXA'.free; have hlx' := hX6'.lt; have hla' := hXA'.lt; have hsy := hy1.size; have q7 : w'.heap.size < y1.heap.size + 1 := (by omega)))
        refine wp_region_ext 8 (fun _ _ d _ _ h => by cases d <;> exact h) (by kernel_rfl) (by kernel_rfl) (by kernel_rfl) (by kernel_rfl) ?_
        simp only [List.take_succ_cons, List.take_zero, List.drop_succ_cons, List.drop_zero]
        repeat (any_goals (first | quiet_step (first | (go_at_call 63; exact ext_quiet (HWVworst.out _ _ _ _ _ _ _ _ _ _ _ _ _))) | (refine wpQuiet_step (fun K hK => ?_); go_simp; split <;> (refine hK _ ?_; clear hK K))))
        all_goals (refine wpQuiet_nil ?_; intro y2 hE2)
        rw [HLVworst.out]
        have hXA2 := (hXA'.alloc _).ext hE2
        have hX62 := (hX6'.alloc _).ext hE2
        have hca2 := hXA2.cell
        have hfa2 := hXA2.free
        have hla2 := hXA2.lt
        go_wp2
        go_roundw
        case rel => exact ⟨2, by omega, by go_num, hX62.other (by show w'.heap.size + 1 ≠ w'.heap.size; omega) _, by have h9 := hXA2.set 1 (.int .i64 (W.level s (W.worst s c))); simpa using h9, (Ext.trans ((hEk.trans hy1).alloc _) hE2).setCell (by show w'.heap.size ≤ w'.heap.size + 1; omega) _⟩
        case measure => simp [intOf]
      · simp only [hk0, show (1 ≤ 2) by omega, show (2 ≤ 2) by omega, if_true] at hXA
        obtain rfl : k = 2 := by omega
        have hca := hXA.cell
        have hla := hXA.lt
        have hb2 := hb1.ext hEk
        have hcr := hb2.cell
        have hfr := hb2.free
        have hlr := hb2.lt
        go_wp2
        refine bodyPost_ret (v := .tuple #[.agg #[.int .i64 (W.level s (W.best s c)), .int .i64 (W.level s (W.worst s c))], .int .i64 0]) (by simp [results, Tryz.results13, go_sem, *]) rfl ⟨rfl, ?_⟩
        exact ((hE0.trans hEk).setCell (by simp <;> omega) _).setCell (by simp <;> omega) _
end Go.Proofs.YtgloajbgphcloaaGreat.Wl
namespace Go.Proofs.YtgloajbgphcloaaGreat.Wl
set_option linter.unusedVariables false
set_option linter.unusedSimpArgs false
open Go.RowKit
/-- A slice is no longer than it may grow in place. -/
def Room : Value → Prop
  | .slice _ n cap => n ≤ cap
  | _ => True
end Go.Proofs.YtgloajbgphcloaaGreat.Wl
namespace Go.Proofs.YtgloajbgphcloaaGreat.Wl
set_option linter.unusedVariables false
set_option linter.unusedSimpArgs false
open Go.RowKit
theorem rin_any (x lo hi : Int) (w : World) :
    Calls Tryz.prog 46 #[.int .i64 x, .int .i64 lo, .int .i64 hi] w fun e w' => e = .returned (.bool (W.within x lo hi)) ∧ w = w' := by
  go_enter Tryz.func46, Tryz.ntmps46
  go_wp2
  all_goals (go_ret; exact ⟨ret_bool (by rw [Bool.eq_iff_iff]; simp [W.within]; omega), rfl⟩)
theorem rspan_any (a b lo hi : Int) (w : World) :
    Calls Tryz.prog 47 #[.agg #[.int .i64 a, .int .i64 b], .int .i64 lo, .int .i64 hi] w fun e w' => e = .returned (.bool (W.spanB a b lo hi)) ∧ Ext w w' := by
  go_enter Tryz.func47, Tryz.ntmps47
  go_wp2
  all_goals (go_ret; exact ⟨ret_bool (by rw [Bool.eq_iff_iff]; simp [W.spanB]; omega), (Ext.refl _).alloc _⟩)
theorem rstorm_any (c : W.Storm) (w : World) :
    Calls Tryz.prog 9 #[stormA c] w fun e w' => e = .returned (.bool (W.stormB c)) ∧ Ext w w' := by
  go_enter Tryz.func9, Tryz.ntmps9
  go_wp2_with (first | (go_at_call 47; refine (rspan_any _ _ _ _ _).mono ?_; rintro e w' ⟨rfl, hb⟩; have hc := hb.cells.1; have hz := hb.size; (try simp only [World.size_alloc, size_drew, size_drewN, size_setCell] at hz); have hs0 : w.heap.size < w'.heap.size := (by omega)))
  all_goals (go_ret; refine ⟨ret_bool (by simp [W.stormB, *]), ?_⟩)
  all_goals (with_reducible (repeat (first | exact Ext.refl _ | assumption | apply Ext.alloc | apply Ext.drew | exact ext_plus _ _ | (apply Ext.setCell; rotate_left; (simp <;> omega)) | (apply Ext.trans; rotate_left; exact ext_plus _ _) | (apply Ext.trans; rotate_left; assumption))))
set_option maxRecDepth 100000 in
set_option maxHeartbeats 2000000 in
theorem rshore_any (s : W.Shore) (vc vw : Value) (w : World) (hC : Cells w vc s.cells) (hW : Works w vw s.works) (hn : s.cells.length ≤ 1000000) (hm : s.works.length ≤ 1000000) :
    Calls Tryz.prog 8 #[shoreA s vc vw] w fun e w' => e = .returned (.bool (W.shoreB s)) ∧ Ext w w' := by
  obtain ⟨a1, c1, rfl, hx1⟩ := hC
  obtain ⟨a2, c2, rfl, hx2⟩ := hW
  have HX1 := Lib.hid hx1
  have HX2 := Lib.hid hx2
  clear hx1 hx2
  go_enter Tryz.func8, Tryz.ntmps8
  go_wp2
  go_loopw [3] (fun i wr => ∃ k : Nat, k ≤ s.cells.length ∧ i = .int .i64 k ∧ (∀ (j : Nat) (h : j < s.cells.length), j < k → W.cellB s.cells[j] = true) ∧ Blk wr w.heap.size #[.slice a1 s.cells.length c1, .slice a2 s.works.length c2, .int .i64 s.reef, .int .i64 s.ll, .int .i64 s.lh] 27 ∧ Ext w wr)
    (fun i _ => s.cells.length - (intOf i).toNat)
  case atStart => exact ⟨0, Nat.zero_le _, rfl, (fun j _ h => by omega), Blk.new' rfl _ _, by (with_reducible (repeat (first | exact Ext.refl _ | assumption | apply Ext.alloc | apply Ext.drew | exact ext_plus _ _ | (apply Ext.setCell; rotate_left; (simp <;> omega)) | (apply Ext.trans; rotate_left; exact ext_plus _ _) | (apply Ext.trans; rotate_left; assumption))))⟩
  case round =>
    obtain ⟨k, hk, rfl, hall, hB, hE⟩ := hrel
    have HALL := Lib.hid hall
    clear hall
    have hb0 := hB.cell
    have hb1 := hB.lt
    by_cases hlt : k < s.cells.length
    · obtain ⟨g, o, rfl, hg, h0, h1, h2, h3⟩ := HX1.out k hlt
      have hc := hE.cells.1
      have hsz := hE.size
      have hgw : g < wr.heap.size := by omega
      by_cases hcell : W.cellB s.cells[k] = true
      · have hc3 := hcell
        simp only [W.cellB, Bool.and_eq_true] at hc3
        obtain ⟨⟨e1, e2⟩, e3⟩ := hc3
        have HCE := Lib.hid hcell
        clear hcell
        go_wp2_with (first | (go_at_call 46; refine (rin_any _ _ _ _).mono ?_; rintro e w' ⟨rfl, rfl⟩) | (go_at_call 47; refine (rspan_any _ _ _ _ _).mono ?_; rintro e w' ⟨rfl, hb⟩; have hcq := hb.cells.1; have hcz := hb.size; (try simp only [World.size_alloc] at hcz); have hcy : wr.heap.size < w'.heap.size := (by omega)))
        go_roundw
        case rel => exact ⟨k + 1, by omega, by go_num, (fun j h hj => by
          by_cases hjk : j = k
          · subst hjk; exact HCE.out
          · exact HALL.out j h (by omega)), hB.ext (by (with_reducible (repeat (first | exact Ext.refl _ | assumption | apply Ext.alloc | apply Ext.drew | exact ext_plus _ _ | (apply Ext.setCell; rotate_left; (simp <;> omega)) | (apply Ext.trans; rotate_left; exact ext_plus _ _) | (apply Ext.trans; rotate_left; assumption))))), hE.trans (by (with_reducible (repeat (first | exact Ext.refl _ | assumption | apply Ext.alloc | apply Ext.drew | exact ext_plus _ _ | (apply Ext.setCell; rotate_left; (simp <;> omega)) | (apply Ext.trans; rotate_left; exact ext_plus _ _) | (apply Ext.trans; rotate_left; assumption)))))⟩
        case measure => simp [intOf]; omega
      · have hbad : W.within s.cells[k].g (-5000) 5000 = false ∨ (W.within s.cells[k].g (-5000) 5000 = true ∧ W.spanB s.cells[k].dl s.cells[k].dh 0 5000 = false) ∨ (W.within s.cells[k].g (-5000) 5000 = true ∧ W.spanB s.cells[k].dl s.cells[k].dh 0 5000 = true ∧ W.within s.cells[k].fl (-1) 5000 = false) := by
          unfold W.cellB at hcell
          cases h1 : W.within s.cells[k].g (-5000) 5000 <;> cases h2 : W.spanB s.cells[k].dl s.cells[k].dh 0 5000 <;> cases h3 : W.within s.cells[k].fl (-1) 5000 <;> simp [h1, h2, h3] at hcell ⊢
        have hsb : W.shoreB s = false := by
          unfold W.shoreB
          have : s.cells.all W.cellB = false := by rw [List.all_eq_false]; exact ⟨_, List.getElem_mem hlt, hcell⟩
          simp [this]
        have HSB := Lib.hid hsb
        clear hcell hsb
        rcases hbad with e1 | ⟨e1, e2⟩ | ⟨e1, e2, e3⟩
        all_goals
          go_wp2_with (first | (go_at_call 46; refine (rin_any _ _ _ _).mono ?_; rintro e w' ⟨rfl, rfl⟩) | (go_at_call 47; refine (rspan_any _ _ _ _ _).mono ?_; rintro e w' ⟨rfl, hb⟩; have hcq := hb.cells.1; have hcz := hb.size; (try simp only [World.size_alloc] at hcz); have hcy : wr.heap.size < w'.heap.size := (by omega)))
          go_ret
          exact ⟨ret_bool (Eq.symm HSB.out), by (with_reducible (repeat (first | exact Ext.refl _ | assumption | apply Ext.alloc | apply Ext.drew | exact ext_plus _ _ | (apply Ext.setCell; rotate_left; (simp <;> omega)) | (apply Ext.trans; rotate_left; exact ext_plus _ _) | (apply Ext.trans; rotate_left; assumption))))⟩
    · have HAC : Hid (s.cells.all W.cellB = true) := by
        show _ = _
        rw [List.all_eq_true]
        intro x hx
        obtain ⟨j, hj, rfl⟩ := List.getElem_of_mem hx
        exact HALL.out j hj (by omega)
      clear HALL HX1
      go_wp2
      go_loopw [5] (fun i wr' => ∃ k : Nat, k ≤ s.works.length ∧ i = .int .i64 k ∧ (∀ (j : Nat) (h : j < s.works.length), j < k → W.workB s.works[j] = true) ∧ Blk wr' w.heap.size #[.slice a1 s.cells.length c1, .slice a2 s.works.length c2, .int .i64 s.reef, .int .i64 s.ll, .int .i64 s.lh] 27 ∧ Ext w wr')
        (fun i _ => s.works.length - (intOf i).toNat)
      case atStart => exact ⟨0, Nat.zero_le _, rfl, (fun j _ h => by omega), hB, hE⟩
      case round =>
        obtain ⟨k', hk', rfl, hall, hB', hE'⟩ := hrel
        have HALL := Lib.hid hall
        clear hall hb0 hb1
        have hb0 := hB'.cell
        have hb1 := hB'.lt
        by_cases hlt' : k' < s.works.length
        · obtain ⟨g, o, rfl, hg, h0, h1, h2⟩ := HX2.out k' hlt'
          have hc := hE'.cells.1
          have hsz := hE'.size
          have hgw : g < wr.heap.size := by omega
          by_cases hwork : W.workB s.works[k'] = true
          · have hc3 := hwork
            simp only [W.workB, Bool.and_eq_true] at hc3
            obtain ⟨⟨e1, e2⟩, e3⟩ := hc3
            have HCE := Lib.hid hwork
            clear hwork
            go_wp2_with (first | (go_at_call 46; refine (rin_any _ _ _ _).mono ?_; rintro e w' ⟨rfl, rfl⟩))
            go_roundw
            case rel => exact ⟨k' + 1, by omega, by go_num, (fun j h hj => by
              by_cases hjk : j = k'
              · subst hjk; exact HCE.out
              · exact HALL.out j h (by omega)), hB'.ext (by (with_reducible (repeat (first | exact Ext.refl _ | assumption | apply Ext.alloc | apply Ext.drew | exact ext_plus _ _ | (apply Ext.setCell; rotate_left; (simp <;> omega)) | (apply Ext.trans; rotate_left; exact ext_plus _ _) | (apply Ext.trans; rotate_left; assumption))))), hE'.trans (by (with_reducible (repeat (first | exact Ext.refl _ | assumption | apply Ext.alloc | apply Ext.drew | exact ext_plus _ _ | (apply Ext.setCell; rotate_left; (simp <;> omega)) | (apply Ext.trans; rotate_left; exact ext_plus _ _) | (apply Ext.trans; rotate_left; assumption)))))⟩
            case measure => simp [intOf]; omega
          · have hbad : W.within s.works[k'].rise 0 5000 = false ∨ (W.within s.works[k'].rise 0 5000 = true ∧ W.within s.works[k'].calm 0 5000 = false) ∨ (W.within s.works[k'].rise 0 5000 = true ∧ W.within s.works[k'].calm 0 5000 = true ∧ W.within s.works[k'].cost 0 1000000 = false) := by
              unfold W.workB at hwork
              cases h1 : W.within s.works[k'].rise 0 5000 <;> cases h2 : W.within s.works[k'].calm 0 5000 <;> cases h3 : W.within s.works[k'].cost 0 1000000 <;> simp [h1, h2, h3] at hwork ⊢
            have hsb : W.shoreB s = false := by
              unfold W.shoreB
              have : s.works.all W.workB = false := by rw [List.all_eq_false]; exact ⟨_, List.getElem_mem hlt', hwork⟩
              simp [this]
            have HSB := Lib.hid hsb
            clear hwork hsb
            rcases hbad with e1 | ⟨e1, e2⟩ | ⟨e1, e2, e3⟩
            all_goals
              go_wp2_with (first | (go_at_call 46; refine (rin_any _ _ _ _).mono ?_; rintro e w' ⟨rfl, rfl⟩))
              go_ret
              exact ⟨ret_bool (Eq.symm HSB.out), by (with_reducible (repeat (first | exact Ext.refl _ | assumption | apply Ext.alloc | apply Ext.drew | exact ext_plus _ _ | (apply Ext.setCell; rotate_left; (simp <;> omega)) | (apply Ext.trans; rotate_left; exact ext_plus _ _) | (apply Ext.trans; rotate_left; assumption))))⟩
        · have HAW : Hid (s.works.all W.workB = true) := by
            show _ = _
            rw [List.all_eq_true]
            intro x hx
            obtain ⟨j, hj, rfl⟩ := List.getElem_of_mem hx
            exact HALL.out j hj (by omega)
          clear HALL HX2
          go_wp2_with (first | (go_at_call 46; refine (rin_any _ _ _ _).mono ?_; rintro e w' ⟨rfl, rfl⟩) | (go_at_call 47; refine (rspan_any _ _ _ _ _).mono ?_; rintro e w' ⟨rfl, hb⟩))
          all_goals
            go_ret
            refine ⟨ret_bool ?_, by (with_reducible (repeat (first | exact Ext.refl _ | assumption | apply Ext.alloc | apply Ext.drew | exact ext_plus _ _ | (apply Ext.setCell; rotate_left; (simp <;> omega)) | (apply Ext.trans; rotate_left; exact ext_plus _ _) | (apply Ext.trans; rotate_left; assumption))))⟩
            have h1 := HAC.out
            have h2 := HAW.out
            clear HAC HAW
            unfold W.shoreB
            rw [h1, h2]
            first | (simp [*]; done) | (simp [*]; intros; omega)
end Go.Proofs.YtgloajbgphcloaaGreat.Wl
