/- The reef, without the program: what is as defined, and what becomes of the fish in truth. -/
namespace Go.Proofs.Ythffoglpekpmdaa.R
set_option linter.unusedVariables false
set_option linter.unusedSimpArgs false
structure Place where
  count : Int
  room : Int
  gl : Int
  gh : Int
  drift : Int
  into : Int
  ol : Int
  oh : Int
  sl : Int
  sh : Int
  goal : Int
  worth : Int
  deriving DecidableEq, Inhabited
structure Reef where
  places : List Place
  miss : Int
  seasons : Int
structure Truth where
  starts : List Int
  grows : List (List Int)
  takes : List (List Int)
structure Ledger where
  start : Int
  grown : Int
  taken : Int
  gone : Int
  left : Int
  deriving DecidableEq
def within (x lo hi : Int) : Bool := decide (lo ≤ x) && decide (x ≤ hi)
def spanB (l h m : Int) : Bool := decide (0 ≤ l) && decide (l ≤ h) && decide (h ≤ m)
def placeB (p : Place) (i n : Int) : Bool :=
  within p.count 0 1000000 && within p.room 0 1000000 && within p.goal 0 1000000 && spanB p.gl p.gh 2000 && within p.drift 0 1000 && within p.into (-1) (n - 1) && !decide (p.into = i) &&
  spanB p.ol p.oh 1000000 && spanB p.sl p.sh 1000000 && decide (p.sl ≤ p.ol) && decide (p.sh ≤ p.oh) && within p.worth 0 1000000
def at_ {α : Type} (d : α) (l : List α) (i : Nat) : α := l.getD i d
abbrev pat (l : List Place) (i : Nat) : Place := l.getD i default
abbrev iat (l : List Int) (i : Nat) : Int := l.getD i 0
abbrev lat (l : List (List Int)) (i : Nat) : List Int := l.getD i []
def goodTo (ps : List Place) (k : Nat) : Bool := (List.range k).all fun i => placeB (pat ps i) i ps.length
theorem goodTo_succ (ps : List Place) (k : Nat) : goodTo ps (k + 1) = (goodTo ps k && placeB (pat ps k) k ps.length) := by
  unfold goodTo; rw [List.range_succ, List.all_append]; simp
def reefB (r : Reef) : Bool := goodTo r.places r.places.length && within r.places.length 1 4 && within r.miss 0 2000 && within r.seasons 1 4
def sets (r : Reef) : Int := 2 ^ r.places.length
def planB (r : Reef) (l : List Int) : Bool := l.all (fun x => within x 0 (sets r - 1)) && decide ((l.length : Int) = r.seasons)
def has (set : Int) (i : Nat) : Bool := decide (set / 2 ^ i % 2 = 1)
def most (r : Reef) (c : Int) : Int := c + c * r.miss / 1000
/-- What people would take of a place: the span. -/
def take (p : Place) (closed : Bool) : Int × Int := if closed then (p.sl, p.sh) else (p.ol, p.oh)
def startsTo (r : Reef) (t : Truth) (k : Nat) : Bool := (List.range k).all fun i => within (iat t.starts i) (pat r.places i).count (most r (pat r.places i).count)
def rowTo (r : Reef) (plan : List Int) (t : Truth) (s k : Nat) : Bool :=
  (List.range k).all fun i => within (iat (lat t.grows s) i) (pat r.places i).gl (pat r.places i).gh && within (iat (lat t.takes s) i) (take (pat r.places i) (has (iat plan s) i)).1 (take (pat r.places i) (has (iat plan s) i)).2
def seasonB (r : Reef) (plan : List Int) (t : Truth) (s : Nat) : Bool :=
  decide ((lat t.grows s).length = r.places.length) && decide ((lat t.takes s).length = r.places.length) && rowTo r plan t s r.places.length
def seasonsTo (r : Reef) (plan : List Int) (t : Truth) (k : Nat) : Bool := (List.range k).all fun s => seasonB r plan t s
def lensB (r : Reef) (t : Truth) : Bool := decide (t.starts.length = r.places.length) && decide ((t.grows.length : Int) = r.seasons) && decide ((t.takes.length : Int) = r.seasons)
def truthB (r : Reef) (plan : List Int) (t : Truth) : Bool := lensB r t && startsTo r t r.places.length && seasonsTo r plan t r.seasons.toNat
theorem startsTo_succ (r : Reef) (t : Truth) (k : Nat) : startsTo r t (k + 1) = (startsTo r t k && within (iat t.starts k) (pat r.places k).count (most r (pat r.places k).count)) := by
  unfold startsTo; rw [List.range_succ, List.all_append]; simp
theorem rowTo_succ (r : Reef) (plan : List Int) (t : Truth) (s k : Nat) : rowTo r plan t s (k + 1) = (rowTo r plan t s k && (within (iat (lat t.grows s) k) (pat r.places k).gl (pat r.places k).gh && within (iat (lat t.takes s) k) (take (pat r.places k) (has (iat plan s) k)).1 (take (pat r.places k) (has (iat plan s) k)).2)) := by
  unfold rowTo; rw [List.range_succ, List.all_append]; simp
theorem seasonsTo_succ (r : Reef) (plan : List Int) (t : Truth) (k : Nat) : seasonsTo r plan t (k + 1) = (seasonsTo r plan t k && seasonB r plan t k) := by
  unfold seasonsTo; rw [List.range_succ, List.all_append]; simp
/-- How many fish come. -/
def grown (p : Place) (f g : Int) : Int := if p.room ≤ f then 0 else if f * g / 1000 < p.room - f then f * g / 1000 else p.room - f
abbrev St := List Int × Int
def growStep (ps : List Place) (gs : List Int) (st : St) (i : Nat) : St :=
  (st.1.set i (iat st.1 i + grown (pat ps i) (iat st.1 i) (iat gs i)), st.2 + grown (pat ps i) (iat st.1 i) (iat gs i))
def growTo (ps : List Place) (gs : List Int) (st : St) (k : Nat) : St := (List.range k).foldl (growStep ps gs) st
def goes (p : Place) (n : Int) : Int := n * p.drift / 1000
def driftStep (ps : List Place) (now : List Int) (st : St) (i : Nat) : St :=
  let n := goes (pat ps i) (iat now i)
  let fish := st.1.set i (iat st.1 i - n)
  if 0 ≤ (pat ps i).into then (fish.set (pat ps i).into.toNat (iat fish (pat ps i).into.toNat + n), st.2) else (fish, st.2 + n)
def driftTo (ps : List Place) (now : List Int) (st : St) (k : Nat) : St := (List.range k).foldl (driftStep ps now) st
def caught (f k : Int) : Int := if f < k then f else k
def takeStep (ks : List Int) (st : St) (i : Nat) : St := (st.1.set i (iat st.1 i - caught (iat st.1 i) (iat ks i)), st.2 + caught (iat st.1 i) (iat ks i))
def takeTo (ks : List Int) (st : St) (k : Nat) : St := (List.range k).foldl (takeStep ks) st
theorem growTo_succ (ps : List Place) (gs : List Int) (st : St) (k : Nat) : growTo ps gs st (k + 1) = growStep ps gs (growTo ps gs st k) k := by
  unfold growTo; rw [List.range_succ, List.foldl_append]; rfl
theorem driftTo_succ (ps : List Place) (now : List Int) (st : St) (k : Nat) : driftTo ps now st (k + 1) = driftStep ps now (driftTo ps now st k) k := by
  unfold driftTo; rw [List.range_succ, List.foldl_append]; rfl
theorem takeTo_succ (ks : List Int) (st : St) (k : Nat) : takeTo ks st (k + 1) = takeStep ks (takeTo ks st k) k := by
  unfold takeTo; rw [List.range_succ, List.foldl_append]; rfl
/-- The fish, and what has grown, gone, been taken. -/
structure State where
  fish : List Int
  grown : Int
  gone : Int
  taken : Int
def season (ps : List Place) (gs ks : List Int) (x : State) : State :=
  let a := growTo ps gs (x.fish, x.grown) ps.length
  let b := driftTo ps a.1 (a.1, x.gone) ps.length
  let c := takeTo ks (b.1, x.taken) ps.length
  ⟨c.1, a.2, b.2, c.2⟩
def stateAt (r : Reef) (t : Truth) : Nat → State
  | 0 => ⟨t.starts, 0, 0, 0⟩
  | k + 1 => season r.places (lat t.grows k) (lat t.takes k) (stateAt r t k)
def sumL (l : List Int) : Int := l.sum
def fishOf (r : Reef) (t : Truth) : List (List Int) := (List.range r.seasons.toNat).map fun s => (stateAt r t (s + 1)).fish
def endOf (r : Reef) (t : Truth) : State := stateAt r t r.seasons.toNat
def ledger (r : Reef) (t : Truth) : Ledger := ⟨sumL t.starts, (endOf r t).grown, (endOf r t).taken, (endOf r t).gone, sumL (endOf r t).fish⟩
/-- The truth with as few fish as can be, or as many. -/
def endT (r : Reef) (plan : List Int) (many : Bool) : Truth :=
  ⟨r.places.map fun p => if many then most r p.count else p.count,
   (List.range r.seasons.toNat).map fun _ => r.places.map fun p => if many then p.gh else p.gl,
   (List.range r.seasons.toNat).map fun s => (List.range r.places.length).map fun i => if many then (take (pat r.places i) (has (iat plan s) i)).1 else (take (pat r.places i) (has (iat plan s) i)).2⟩
def stocks (r : Reef) (plan : List Int) : List (List (Int × Int)) :=
  (List.range r.seasons.toNat).map fun s => (List.range r.places.length).map fun i => (iat (lat (fishOf r (endT r plan false)) s) i, iat (lat (fishOf r (endT r plan true)) s) i)
/-- The first place that is short, from place i on. -/
def shortFrom : List Place → List Int → Nat → Option (Nat × Int)
  | p :: ps, n :: ns, i => if n < p.goal then some (i, p.goal - n) else shortFrom ps ns (i + 1)
  | _, _, _ => none
def short (r : Reef) (plan : List Int) : Option (Nat × Int) := shortFrom r.places (endOf r (endT r plan false)).fish 0
def cost (r : Reef) (plan : List Int) : Int := ((List.range plan.length).map fun s => ((List.range r.places.length).map fun i => if has (iat plan s) i then (pat r.places i).worth else 0).sum).sum
/-- Number x as k sets, the first one first. -/
def digits (n : Nat) : Nat → Nat → List Int
  | 0, _ => []
  | k + 1, x => digits n k (x / 2 ^ n) ++ [((x % 2 ^ n : Nat) : Int)]
def plans (n k : Nat) : List (List Int) := (List.range (2 ^ (n * k))).map (digits n k)
def better (r : Reef) (b : Option (List Int)) (l : List Int) : Option (List Int) :=
  match b with
  | some x => if cost r x ≤ cost r l then b else if (short r l).isNone then some l else b
  | none => if (short r l).isNone then some l else b
def best (r : Reef) : Option (List Int) := (plans r.places.length r.seasons.toNat).foldl (better r) none
def limited (r : Reef) (i : Nat) (m : Int) : Reef :=
  { r with places := r.places.set i { pat r.places i with ol := if (pat r.places i).ol < m then (pat r.places i).ol else m, oh := if (pat r.places i).oh < m then (pat r.places i).oh else m } }
/-- The least number from low on for which h holds, as it is sought in halves; high, if for none. -/
def least (h : Int → Bool) : Nat → Int → Int → Int
  | 0, low, _ => low
  | f + 1, low, high => if low = high then low else
    let mid := low + (high - low) / 2
    if h mid then least h f low mid else least h f (mid + 1) high
end Go.Proofs.Ythffoglpekpmdaa.R
