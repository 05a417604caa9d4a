/- The cell, without the program: what is as defined, and what becomes of the energy in a weather. How the cell's data lie in memory. Rows of elements that the call itself made. -/
import Derived.WalkKit
import Derived.Test.YtkjoojmlcjmlgaaBase
import Derived.Laws.AppendOwnNone
import Derived.Deep.Upon
namespace Go.Proofs.Ytkjoojmlcjmlgaa.C
set_option linter.unusedVariables false
set_option linter.unusedSimpArgs false
structure Load where
  need : Int
  keep : Int
  must : Bool
  deriving DecidableEq, Inhabited
structure Sys where
  sunny : Int
  cloudy : Int
  size : Int
  fade : Int
  start : Int
  loads : List Load
  days : Int
  window : Int
  most : Int
  panel : Int
  battery : Int
structure Day where
  battery : Int
  carried : Int
  deriving DecidableEq, Inhabited
structure Ledger where
  start : Int
  sun : Int
  used : Int
  lost : Int
  faded : Int
  left : Int
  deriving DecidableEq
/-- A weather or a sky: its letters. -/
abbrev Txt := List UInt8
def within (x lo hi : Int) : Bool := decide (lo ≤ x) && decide (x ≤ hi)
def loadB (l : Load) : Bool := within l.need 0 1000000 && within l.keep 0 1000000
def restB (c : Sys) : Bool :=
  within c.days 1 10 && within c.window 1 c.days && within c.most 0 c.window && within c.panel 0 1000000 && within c.battery 0 1000000
def headB (c : Sys) : Bool :=
  within c.sunny 0 1000000 && within c.cloudy 0 c.sunny && within c.size 0 1000000 && within c.fade 0 1000 && within c.start 0 1000 && within c.loads.length 1 5
def sysB (c : Sys) : Bool := headB c && c.loads.all loadB && restB c
def partsB (p b : Int) : Bool := within p 0 12 && within b 0 8
def sets (c : Sys) : Int := 2 ^ c.loads.length
def offB (c : Sys) (off : Int) : Bool := within off 0 (sets c - 1)
def has (set : Int) (i : Nat) : Bool := decide (set / 2 ^ i % 2 = 1)
def letterB (x : UInt8) : Bool := x == 115 || x == 99
def skyLetterB (x : UInt8) : Bool := x == 115 || x == 99 || x == 63
def weatherB (c : Sys) (s : Txt) : Bool := s.all letterB && decide ((s.length : Int) = c.days)
def skyB (c : Sys) (s : Txt) : Bool := s.all skyLetterB && decide ((s.length : Int) = c.days)
/-- How many of n days from some day on are cloudy. -/
def cloudy (s : Txt) (f n : Nat) : Nat := ((s.drop f).take n).count 99
def allowed (c : Sys) (s : Txt) : Bool := (List.range (s.length + 1 - c.window.toNat)).all fun f => decide ((cloudy s f c.window.toNat : Int) ≤ c.most)
def agrees (s sky : Txt) : Bool := (s.zip sky).all fun p => p.2 == 63 || p.2 == p.1
/-- All texts of n letters, in order. -/
def textOf : Nat → Nat → Txt
  | 0, _ => []
  | n + 1, x => textOf n (x / 2) ++ [if x % 2 = 1 then 99 else 115]
def texts (n : Nat) : List Txt := (List.range (2 ^ n)).map (textOf n)
def weathers (c : Sys) : List Txt := (texts c.days.toNat).filter (allowed c)
abbrev lat (l : List Load) (i : Nat) : Load := l.getD i default
abbrev dat (l : List Day) (i : Nat) : Day := l.getD i default
def hold (c : Sys) (b : Int) : Int := c.size * b
def gives (c : Sys) (p : Int) (x : UInt8) : Int := (if x = 99 then c.cloudy else c.sunny) * p
structure LS where
  e : Int
  carried : Int
  used : Int
def loadStep (off : Int) (ls : List Load) (s : LS) (i : Nat) : LS :=
  if has off i = false ∧ (lat ls i).need + (lat ls i).keep ≤ s.e then ⟨s.e - (lat ls i).need, s.carried + 2 ^ i, s.used + (lat ls i).need⟩ else s
def loadsTo (off : Int) (ls : List Load) (s : LS) (k : Nat) : LS := (List.range k).foldl (loadStep off ls) s
theorem loadsTo_succ (off : Int) (ls : List Load) (s : LS) (k : Nat) : loadsTo off ls s (k + 1) = loadStep off ls (loadsTo off ls s k) k := by
  unfold loadsTo; rw [List.range_succ, List.foldl_append]; rfl
structure St where
  e : Int
  carried : Int
  sun : Int
  used : Int
  lost : Int
  faded : Int
/-- The energy in the batteries behind the sun of a day. -/
def full (c : Sys) (b : Int) (now : Int) : Int := if now < hold c b then now else hold c b
def fades (c : Sys) (e : Int) : Int := e * c.fade / 1000
def sunSt (c : Sys) (p b : Int) (x : UInt8) (s : St) : St :=
  { s with e := full c b (s.e + gives c p x), sun := s.sun + gives c p x, lost := s.lost + (s.e + gives c p x) - full c b (s.e + gives c p x) }
def loadsSt (c : Sys) (off : Int) (s : St) : St :=
  let l := loadsTo off c.loads ⟨s.e, 0, s.used⟩ c.loads.length
  { s with e := l.e, carried := l.carried, used := l.used }
def fadeSt (c : Sys) (s : St) : St := { s with e := s.e - fades c s.e, faded := s.faded + fades c s.e }
def daySt (c : Sys) (p b off : Int) (x : UInt8) (s : St) : St := fadeSt c (loadsSt c off (sunSt c p b x s))
def start (c : Sys) (b : Int) : Int := hold c b * c.start / 1000
def stateAt (c : Sys) (p b off : Int) (w : Txt) : Nat → St
  | 0 => ⟨start c b, 0, 0, 0, 0, 0⟩
  | k + 1 => daySt c p b off (w.getD k 0) (stateAt c p b off w k)
def dayAt (c : Sys) (p b off : Int) (w : Txt) (d : Nat) : Day := ⟨(stateAt c p b off w (d + 1)).e, (stateAt c p b off w (d + 1)).carried⟩
def run (c : Sys) (p b off : Int) (w : Txt) : List Day := (List.range w.length).map (dayAt c p b off w)
def ledger (c : Sys) (p b off : Int) (w : Txt) : Ledger :=
  let s := stateAt c p b off w w.length
  ⟨start c b, s.sun, s.used, s.lost, s.faded, s.e⟩
/-- What is known. -/
def agreeing (c : Sys) (sky : Txt) : List Txt := (weathers c).filter fun w => agrees w sky
def runs (c : Sys) (p b : Int) (sky : Txt) : List (List Day) := (agreeing c sky).map (run c p b 0)
def imin (a b : Int) : Int := if a < b then a else b
def imax (a b : Int) : Int := if a < b then b else a
structure Seen where
  low : Int
  high : Int
  loads : List Int
  deriving DecidableEq
def many (rs : List (List Day)) (d i : Nat) : Nat := rs.countP fun l => has (dat l d).carried i
def word (n all : Nat) : Int := if n = 0 then 1 else if n = all then 3 else 2
def lowOf (rs : List (List Day)) (d : Nat) : Int := (rs.map fun l => (dat l d).battery).foldl imin (dat (rs.getD 0 []) d).battery
def highOf (rs : List (List Day)) (d : Nat) : Int := (rs.map fun l => (dat l d).battery).foldl imax (dat (rs.getD 0 []) d).battery
def seenAt (c : Sys) (rs : List (List Day)) (d : Nat) : Seen := ⟨lowOf rs d, highOf rs d, (List.range c.loads.length).map fun i => word (many rs d i) rs.length⟩
def seen (c : Sys) (rs : List (List Day)) : List Seen := (List.range c.days.toNat).map (seenAt c rs)
/-- The first load that must be carried and is not. -/
def downs (c : Sys) (x : Day) (i : Nat) : Bool := (lat c.loads i).must && !has x.carried i
def down (c : Sys) (x : Day) : Option Nat := (List.range c.loads.length).find? (downs c x)
def firstDown (c : Sys) (l : List Day) : Option (Nat × Nat) := (List.range l.length).findSome? fun d => (down c (dat l d)).map fun i => (d, i)
def fault (c : Sys) (p b off : Int) : Option (Txt × Nat × Nat) := (weathers c).findSome? fun w => (firstDown c (run c p b off w)).map fun x => (w, x.1, x.2)
def cost (c : Sys) (p b : Int) : Int := p * c.panel + b * c.battery
def suffice (c : Sys) (p b off : Int) : Bool := (fault c p b off).isNone
end Go.Proofs.Ytkjoojmlcjmlgaa.C
namespace Go.Proofs.Ytkjoojmlcjmlgaa
set_option linter.unusedVariables false
set_option linter.unusedSimpArgs false
open Go.RowKit
/-- The element x stands at o of block b, cell by cell. -/
def AtE {α : Type} (f : α → List Value) (w : World) (b o : Nat) (x : α) : Prop := ∀ j u, (f x)[j]? = some u → w.cell? ⟨b, o + j, none⟩ = some u
theorem ate_stays {α : Type} (f : α → List Value) : Stays (AtE f) := fun _ _ _ _ _ he hb h j u hu => (he.cells.1 _ _ hb).trans (h j u hu)
def loadC (l : C.Load) : List Value := [.int .i64 l.need, .int .i64 l.keep, .bool l.must]
def dayC (x : C.Day) : List Value := [.int .i64 x.battery, .int .i64 x.carried]
def Loads (w : World) (v : Value) (xs : List C.Load) : Prop := Sls 3 (AtE loadC) w v xs
def Days (w : World) (v : Value) (xs : List C.Day) : Prop := Sls 2 (AtE dayC) w v xs
theorem Loads.ext {w w' : World} {v : Value} {xs : List C.Load} (h : Loads w v xs) (he : Ext w w') : Loads w' v xs := Sls.ext (ate_stays _) h he
theorem Days.ext {w w' : World} {v : Value} {xs : List C.Day} (h : Days w v xs) (he : Ext w w') : Days w' v xs := Sls.ext (ate_stays _) h he
abbrev loadV (l : C.Load) : Array Value := #[.int .i64 l.need, .int .i64 l.keep, .bool l.must]
abbrev sysV (c : C.Sys) (vl : Value) : Array Value := #[.int .i64 c.sunny, .int .i64 c.cloudy, .int .i64 c.size, .int .i64 c.fade, .int .i64 c.start, vl, .int .i64 c.days, .int .i64 c.window, .int .i64 c.most, .int .i64 c.panel, .int .i64 c.battery]
theorem load_cells {w : World} {b o : Nat} {l : C.Load} (h : AtE loadC w b o l) :
    w.cell? ⟨b, o, none⟩ = some (.int .i64 l.need) ∧ w.cell? ⟨b, o + 1, none⟩ = some (.int .i64 l.keep) ∧ w.cell? ⟨b, o + 2, none⟩ = some (.bool l.must) := ⟨h 0 _ rfl, h 1 _ rfl, h 2 _ rfl⟩
theorem day_cells {w : World} {b o : Nat} {x : C.Day} (h : AtE dayC w b o x) : w.cell? ⟨b, o, none⟩ = some (.int .i64 x.battery) ∧ w.cell? ⟨b, o + 1, none⟩ = some (.int .i64 x.carried) := ⟨h 0 _ rfl, h 1 _ rfl⟩
end Go.Proofs.Ytkjoojmlcjmlgaa
namespace Go.Proofs.Ytkjoojmlcjmlgaa
set_option linter.unusedVariables false
set_option linter.unusedSimpArgs false
open Go.RowKit
theorem flat_get {α : Type} (f : α → List Value) (k : Nat) (hf : ∀ x, (f x).length = k) : ∀ (xs : List α) (i : Nat) (h : i < xs.length) (j : Nat), j < k → (xs.flatMap f)[i * k + j]? = (f xs[i])[j]?
  | x :: xs, 0, _, j, hj => by simp [List.flatMap_cons, List.getElem?_append_left (show j < (f x).length by rw [hf]; exact hj)]
  | x :: xs, i + 1, h, j, hj => by
    rw [List.flatMap_cons, List.getElem?_append_right (by rw [hf, Nat.succ_mul]; omega), hf]
    have e : (i + 1) * k + j - k = i * k + j := by rw [Nat.succ_mul]; omega
    rw [e, flat_get f k hf xs i (by simpa using h) j hj]
    simp
theorem flat_len {α : Type} (f : α → List Value) (k : Nat) (hf : ∀ x, (f x).length = k) (xs : List α) : (xs.flatMap f).length = xs.length * k := by
  induction xs with
  | nil => simp
  | cons x xs ih => rw [List.flatMap_cons, List.length_append, ih, hf, List.length_cons, Nat.succ_mul]; omega
/-- The cells of the first k elements. -/
def preS {α : Type} (f : α → List Value) (xs : List α) (k : Nat) : List Value := (xs.take k).flatMap f
theorem preS_zero {α : Type} (f : α → List Value) (xs : List α) : preS f xs 0 = [] := rfl
theorem preS_succ {α : Type} (f : α → List Value) (xs : List α) {k : Nat} (h : k < xs.length) : preS f xs (k + 1) = preS f xs k ++ f xs[k] := by
  unfold preS; rw [List.take_succ_eq_append_getElem h, List.flatMap_append]; simp
theorem preS_all {α : Type} (f : α → List Value) (xs : List α) : preS f xs xs.length = xs.flatMap f := by
  unfold preS; rw [List.take_length]
theorem own_cell {w : World} {base : Nat} {e : TypeId} {s : Nat} {g len cap n : Nat} {xs : List Value} (h : w.ownsRow base e s (.slice (some ⟨g, 0, none⟩) len cap) n xs) (i : Nat) (u : Value) (hu : xs[i]? = some u) : w.cell? ⟨g, i, none⟩ = some u := by
  have := h.cells (g := g) rfl i u hu
  have hadd : (⟨g, 0, none⟩ : Addr).add i = ⟨g, i, none⟩ := by unfold Addr.add; split <;> simp_all
  rwa [hadd] at this
theorem own_lt {w : World} {base : Nat} {e : TypeId} {s : Nat} {g len cap n : Nat} {xs : List Value} (h : w.ownsRow base e s (.slice (some ⟨g, 0, none⟩) len cap) n xs) : g < w.heap.size := by
  rcases h.2 with ⟨h0, _⟩ | ⟨g', cap', cur, hv, _, hg, _⟩
  · cases h0
  · cases hv; exact (Array.getElem?_eq_some_iff.1 hg).1
theorem own_ext {w w' : World} {base : Nat} {e : TypeId} {s : Nat} {v : Value} {n : Nat} {xs : List Value} (h : w.ownsRow base e s v n xs) (hE : Ext w w') : w'.ownsRow base e s v n xs := by
  refine ⟨h.1, ?_⟩
  rcases h.2 with h0 | ⟨g, cap, cur, hv, hb, hg, hr⟩
  · exact .inl h0
  · exact .inr ⟨g, cap, cur, hv, hb, (hE.block g (Array.getElem?_eq_some_iff.1 hg).1).trans hg, hr⟩
theorem own_mono {w : World} {base base' : Nat} {e : TypeId} {s : Nat} {v : Value} {n : Nat} {xs : List Value} (h : w.ownsRow base e s v n xs) (hb : base' ≤ base) : w.ownsRow base' e s v n xs := by
  refine ⟨h.1, ?_⟩
  rcases h.2 with h0 | ⟨g, cap, cur, hv, hb', hg, hr⟩
  · exact .inl h0
  · exact .inr ⟨g, cap, cur, hv, Nat.le_trans hb hb', hg, hr⟩
theorem cell_two (w : World) (x y : Value) (e : TypeId) {b : Nat} (hb : b = w.heap.size) : ∀ j u, ([x, y] : List Value)[j]? = some u → (w.alloc (.cells #[x, y] e)).cell? ((⟨b, 0, none⟩ : Addr).add j) = some u := by
  intro j u hj
  subst hb
  have hc := (Blk.new w #[x, y] e).cell
  match j, hj with
  | 0, hj =>
    have e1 : x = u := by simpa using hj
    subst e1
    exact hc 0
  | 1, hj =>
    have e1 : y = u := by simpa using hj
    subst e1
    exact hc 1
theorem two_ints (m n : Int) : ∀ u ∈ [Value.int .i64 m, Value.int .i64 n], u.oneCell' = true := by intro u hu; simp at hu; rcases hu with rfl | rfl <;> rfl
/-- A row that the call itself made reads as its elements. -/
theorem sls_of_own {α : Type} (f : α → List Value) (k : Nat) (hf : ∀ x, (f x).length = k) {w : World} {base : Nat} {e : TypeId} {v : Value} {xs : List α} (h : w.ownsRow base e k v xs.length (xs.flatMap f)) : Sls k (AtE f) w v xs := by
  obtain ⟨a, cap, rfl⟩ := own_slice h
  refine ⟨a, cap, rfl, fun i hi => ?_⟩
  rcases h.2 with ⟨e, h0⟩ | ⟨g, cap', cur, hv, hb, hg, _⟩
  · rw [h0] at hi; exact absurd hi (by omega)
  · cases hv
    refine ⟨g, 0, rfl, own_lt h, fun j u hu => own_cell h _ _ ?_⟩
    have hj : j < k := by rw [← hf xs[i]]; exact (List.getElem?_eq_some_iff.1 hu).1
    rw [Nat.zero_add, flat_get f k hf xs i hi j hj]; exact hu
/-- A block whose cells hold the elements xs, one after another. -/
def RowB {α : Type} (f : α → List Value) (k : Nat) (e : TypeId) (w : World) (g : Nat) (xs : List α) : Prop :=
  ∃ cs, Blk w g cs e ∧ ∀ i (h : i < xs.length) j u, (f xs[i])[j]? = some u → cs[i * k + j]? = some u
theorem RowB.of_own {α : Type} {f : α → List Value} {k : Nat} (hf : ∀ x, (f x).length = k) {w : World} {base : Nat} {e : TypeId} {g len cap : Nat} {xs : List α} (h : w.ownsRow base e k (.slice (some ⟨g, 0, none⟩) len cap) xs.length (xs.flatMap f)) : RowB f k e w g xs := by
  have hc := fun i u hu => own_cell h i u hu
  rcases h.2 with ⟨h0, _⟩ | ⟨g', cap', cur, hv, hb, hg, _⟩
  · cases h0
  · cases hv
    have hB : Blk w g _ e := hg
    refine ⟨_, hB, fun i hi j u hu => ?_⟩
    have hj : j < k := by rw [← hf xs[i]]; exact (List.getElem?_eq_some_iff.1 hu).1
    rw [← hB.cell]
    exact hc _ _ (by rw [flat_get f k hf xs i hi j hj]; exact hu)
theorem RowB.lt {α : Type} {f : α → List Value} {k : Nat} {e : TypeId} {w : World} {g : Nat} {xs : List α} (h : RowB f k e w g xs) : g < w.heap.size := by
  obtain ⟨cs, hB, _⟩ := h; exact hB.lt
theorem RowB.free {α : Type} {f : α → List Value} {k : Nat} {e : TypeId} {w : World} {g : Nat} {xs : List α} (h : RowB f k e w g xs) (o : Nat) : w.frozen? ⟨g, o, none⟩ = false := by
  obtain ⟨cs, hB, _⟩ := h; exact hB.free o
theorem RowB.cell {α : Type} {f : α → List Value} {k : Nat} {e : TypeId} {w : World} {g : Nat} {xs : List α} (h : RowB f k e w g xs) (i : Nat) (hi : i < xs.length) (j : Nat) (u : Value) (hu : (f xs[i])[j]? = some u) : w.cell? ⟨g, i * k + j, none⟩ = some u := by
  obtain ⟨cs, hB, hc⟩ := h
  rw [hB.cell]; exact hc i hi j u hu
theorem RowB.move {α : Type} {f : α → List Value} {k : Nat} {e : TypeId} {w w' : World} {g : Nat} {xs : List α} (h : RowB f k e w g xs) (he : w'.heap[g]? = w.heap[g]?) : RowB f k e w' g xs := by
  obtain ⟨cs, hB, hc⟩ := h
  exact ⟨cs, he.trans hB, hc⟩
theorem RowB.ext {α : Type} {f : α → List Value} {k : Nat} {e : TypeId} {w w' : World} {g : Nat} {xs : List α} (h : RowB f k e w g xs) (he : Ext w w') : RowB f k e w' g xs := h.move (he.block g h.lt)
theorem RowB.other {α : Type} {f : α → List Value} {k : Nat} {e : TypeId} {w : World} {g : Nat} {xs : List α} (h : RowB f k e w g xs) {a : Addr} (hne : a.block ≠ g) (v : Value) : RowB f k e (w.setCell a v) g xs := by
  obtain ⟨cs, hB, hc⟩ := h
  exact ⟨cs, hB.other hne v, hc⟩
theorem RowB.sls {α : Type} {f : α → List Value} {k : Nat} {e : TypeId} {w : World} {g : Nat} {xs : List α} (h : RowB f k e w g xs) (cap : Nat) : Sls k (AtE f) w (.slice (some ⟨g, 0, none⟩) xs.length cap) xs :=
  ⟨_, _, rfl, fun i hi => ⟨g, 0, rfl, h.lt, fun j u hu => by rw [Nat.zero_add]; exact h.cell i hi j u hu⟩⟩
def intC (n : Int) : List Value := [.int .i64 n]
/-- A block of ints. -/
abbrev IRow (w : World) (g : Nat) (xs : List Int) : Prop := RowB intC 1 3 w g xs
theorem IRow.get {w : World} {g : Nat} {xs : List Int} (h : IRow w g xs) (i : Nat) (hi : i < xs.length) : w.cell? ⟨g, i, none⟩ = some (.int .i64 xs[i]) := by
  have := RowB.cell h i hi 0 (.int .i64 xs[i]) rfl
  simpa using this
theorem IRow.ints {w : World} {g : Nat} {xs : List Int} (h : IRow w g xs) {n : Nat} (hn : n = xs.length) (cap : Nat) : Ints w (.slice (some ⟨g, 0, none⟩) n cap) xs := by
  subst hn
  exact ⟨_, _, rfl, fun i hi => ⟨g, 0, rfl, h.lt, by rw [Nat.zero_add]; exact h.get i hi⟩⟩
theorem IRow.set {w : World} {g : Nat} {xs : List Int} (h : IRow w g xs) (i : Nat) (hi : i < xs.length) (n : Int) : IRow (w.setCell ⟨g, i, none⟩ (.int .i64 n)) g (xs.set i n) := by
  obtain ⟨cs, hB, hc⟩ := h
  refine ⟨_, hB.set i _, fun k hk j u hu => ?_⟩
  have hk' : k < xs.length := by simpa using hk
  rw [List.getElem_set] at hu
  have h1 := hc k hk' 0 (.int .i64 xs[k]) rfl
  simp only [Nat.mul_one, Nat.add_zero] at h1
  cases j with
  | succ j => simp [intC] at hu
  | zero =>
    rw [Nat.mul_one, Nat.add_zero]
    by_cases e : i = k
    · subst e
      rw [if_pos rfl] at hu
      obtain ⟨hsz, _⟩ := Array.getElem?_eq_some_iff.1 h1
      simp [intC] at hu
      simp [Array.getElem?_setIfInBounds, hsz, hu]
    · rw [if_neg e] at hu
      rw [Array.getElem?_setIfInBounds, if_neg e, h1]
      simpa [intC] using hu
theorem ints_flat (xs : List Int) : xs.flatMap intC = xs.map (Value.int .i64) := by
  induction xs with
  | nil => rfl
  | cons x xs ih => rw [List.flatMap_cons, ih]; rfl
theorem IRow.of_own {w : World} {base : Nat} {g len cap : Nat} {xs : List Int} (h : w.ownsRow base 3 1 (.slice (some ⟨g, 0, none⟩) len cap) xs.length (xs.map (Value.int .i64))) : IRow w g xs :=
  RowB.of_own (f := intC) (fun _ => rfl) (by rw [ints_flat]; exact h)
theorem own_pos {w : World} {base : Nat} {e : TypeId} {s : Nat} {v : Value} {n : Nat} {xs : List Value} (h : w.ownsRow base e s v n xs) (hn : 0 < n) : ∃ g cap, v = .slice (some ⟨g, 0, none⟩) n cap ∧ base ≤ g ∧ g < w.heap.size := by
  cases n with
  | zero => omega
  | succ n =>
    obtain ⟨g, cap, rfl⟩ := own_succ h
    exact ⟨g, cap, rfl, own_base h g rfl, own_lt h⟩
theorem intC_len (x : Int) : (intC x).length = 1 := rfl
theorem sls_news {α : Type} {f : α → List Value} {k : Nat} (hf : ∀ x, (f x).length = k) (hk : 0 < k) {w : World} {a : Addr} {n cap : Nat} {xs : List α} (h : Sls k (AtE f) w (.slice (some a) n cap) xs) :
    ∀ j u, (xs.flatMap f)[j]? = some u → w.cell? (a.add j) = some u := by
  obtain ⟨a', cap', e, hx⟩ := h
  cases e
  intro j u hu
  have hj : j < xs.length * k := by
    have := (List.getElem?_eq_some_iff.1 hu).1
    rwa [flat_len f k hf] at this
  have hi : j / k < xs.length := Nat.div_lt_of_lt_mul (by rw [Nat.mul_comm]; exact hj)
  have hr : j % k < k := Nat.mod_lt _ hk
  have hg := flat_get f k hf xs (j / k) hi (j % k) hr
  have e : j / k * k + j % k = j := Nat.div_add_mod' j k
  rw [e, hu] at hg
  obtain ⟨b, off, e', hb, hc⟩ := hx (j / k) hi
  cases e'
  have hadd : (⟨b, off, none⟩ : Addr).add j = ⟨b, off + j, none⟩ := by unfold Addr.add; split <;> simp_all
  rw [hadd]
  have := hc (j % k) u hg.symm
  rw [Nat.add_assoc, e] at this
  exact this
theorem own_empty (w : World) (e : TypeId) (k : Nat) : (w.alloc (.cells #[] e)).ownsRow w.heap.size e k (.slice (some ⟨w.heap.size, 0, none⟩) 0 0) 0 [] :=
  ⟨by simp, .inr ⟨w.heap.size, 0, #[], rfl, Nat.le_refl _, heap_alloc_new w _, Nat.le_refl _, by unfold maxLen; omega, by simp, by simp⟩⟩
theorem Ints.sls {w : World} {v : Value} {xs : List Int} (h : Ints w v xs) : Sls 1 (AtE intC) w v xs := by
  obtain ⟨a, cap, rfl, hx⟩ := h
  refine ⟨a, cap, rfl, fun i hi => ?_⟩
  obtain ⟨b, off, rfl, hb, hc⟩ := hx i hi
  refine ⟨b, off, rfl, hb, fun j u hu => ?_⟩
  cases j with
  | zero => simp [intC] at hu; subst hu; simpa using hc
  | succ j => simp [intC] at hu
theorem intC_one (xs : List Int) : ∀ u ∈ xs.flatMap intC, u.oneCell' = true := by
  intro u hu
  obtain ⟨x, _, hx⟩ := List.mem_flatMap.1 hu
  simp only [intC, List.mem_cons, List.not_mem_nil, or_false] at hx
  subst hx; rfl
theorem sls_none {α : Type} {k : Nat} {At : World → Nat → Nat → α → Prop} {w : World} {n cap : Nat} {xs : List α} (h : Sls k At w (.slice none n cap) xs) : xs = [] := by
  obtain ⟨a, c, e, hx⟩ := h
  cases e
  cases xs with
  | nil => rfl
  | cons x xs => obtain ⟨b, off, h, _⟩ := hx 0 (by simp); cases h
/-- Panels and batteries. -/
def storeC (x : Int × Int) : List Value := [.int .i64 x.1, .int .i64 x.2]
theorem storeC_len (x : Int × Int) : (storeC x).length = 2 := rfl
theorem storeC_one (xs : List (Int × Int)) : ∀ u ∈ xs.flatMap storeC, u.oneCell' = true := by
  intro u hu
  obtain ⟨x, _, hx⟩ := List.mem_flatMap.1 hu
  simp only [storeC, List.mem_cons, List.not_mem_nil, or_false] at hx
  rcases hx with rfl | rfl <;> rfl
/-- A row of two-cell elements, one stored anew. -/
theorem RowB.set_two {e : TypeId} {w : World} {g : Nat} {xs : List (Int × Int)} (h : RowB storeC 2 e w g xs) (i : Nat) (hi : i < xs.length) (x : Int × Int) :
    RowB storeC 2 e ((w.setCell ⟨g, i * 2, none⟩ (.int .i64 x.1)).setCell ⟨g, i * 2 + 1, none⟩ (.int .i64 x.2)) g (xs.set i x) := by
  obtain ⟨cs, hB, hc⟩ := h
  refine ⟨_, (hB.set _ _).set _ _, fun k hk j u hu => ?_⟩
  have hk' : k < xs.length := by simpa using hk
  have hj : j < 2 := (List.getElem?_eq_some_iff.1 hu).1
  rw [List.getElem_set] at hu
  have h0 := hc i hi 0 _ rfl
  have h1 := hc i hi 1 _ rfl
  obtain ⟨z0, _⟩ := Array.getElem?_eq_some_iff.1 h0
  obtain ⟨z1, _⟩ := Array.getElem?_eq_some_iff.1 h1
  by_cases e : i = k
  · subst e
    rw [if_pos rfl] at hu
    have h01 : j = 0 ∨ j = 1 := by omega
    rcases h01 with rfl | rfl
    · simp [storeC] at hu
      simp only [Nat.add_zero] at z0 ⊢
      rw [Array.getElem?_setIfInBounds, if_neg (by omega), Array.getElem?_setIfInBounds, if_pos rfl, if_pos (by simpa using z0), hu]
    · simp [storeC] at hu
      rw [Array.getElem?_setIfInBounds, if_pos rfl, if_pos (by simpa using z1), hu]
  · rw [if_neg e] at hu
    rw [Array.getElem?_setIfInBounds, if_neg (by omega), Array.getElem?_setIfInBounds, if_neg (by omega)]
    exact hc k hk' j u hu
/-- What is left when one block is written alone. -/
structure Off (g : Nat) (w w' : World) : Prop where
  os : w'.os = w.os
  tape : w'.tape = w.tape
  output : w'.output = w.output
  size : w.heap.size ≤ w'.heap.size
  block : ∀ k, k < w.heap.size → k ≠ g → w'.heap[k]? = w.heap[k]?
theorem Off.refl (g : Nat) (w : World) : Off g w w := ⟨rfl, rfl, rfl, Nat.le_refl _, fun _ _ _ => rfl⟩
theorem Off.trans {g : Nat} {x y z : World} (h : Off g x y) (k : Off g y z) : Off g x z :=
  ⟨k.os.trans h.os, k.tape.trans h.tape, k.output.trans h.output, Nat.le_trans h.size k.size, fun i hi h1 => (k.block i (Nat.lt_of_lt_of_le hi h.size) h1).trans (h.block i hi h1)⟩
theorem Ext.off {w w' : World} (h : Ext w w') (g : Nat) : Off g w w' := ⟨h.os, h.tape, h.output, h.size, fun k hk _ => h.block k hk⟩
theorem Off.ext {g : Nat} {x y z : World} (h : Off g x y) (k : Ext y z) : Off g x z := h.trans (k.off g)
theorem Off.set {g : Nat} {x y : World} (h : Off g x y) {a : Addr} (ha : a.block = g ∨ x.heap.size ≤ a.block) (v : Value) : Off g x (y.setCell a v) := by
  refine ⟨h.os, h.tape, h.output, by rw [size_setCell]; exact h.size, fun i hi h1 => ?_⟩
  rw [Below.heap_setCell _ _ _ _ (by rintro rfl; rcases ha with e | e <;> omega)]
  exact h.block i hi h1
/-- What lay before the block was made lies as it lay. -/
theorem Off.ext0 {g : Nat} {w0 w w' : World} (h : Off g w w') (h0 : Ext w0 w) (hg : w0.heap.size ≤ g) : Ext w0 w' :=
  ⟨h.os.trans h0.os, h.tape.trans h0.tape, h.output.trans h0.output, Nat.le_trans h0.size h.size, fun k hk => (h.block k (Nat.lt_of_lt_of_le hk h0.size) (by omega)).trans (h0.block k hk)⟩
theorem Blk.off {g c : Nat} {w w' : World} {cs : Array Value} {e : TypeId} (h : Blk w c cs e) (ho : Off g w w') (h1 : c ≠ g) : Blk w' c cs e := (ho.block c h.lt h1).trans h
end Go.Proofs.Ytkjoojmlcjmlgaa
