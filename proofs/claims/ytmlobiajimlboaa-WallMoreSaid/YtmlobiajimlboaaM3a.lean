/- The search with its memo: the frame. -/
import Derived.Test.YtmlobiajimlboaaM2
import Derived.Test.YtmlobiajimlboaaC4
import Derived.Test.YtmlobiajimlboaaD2
import Derived.Deep.RegionHeld3
import Derived.Deep.CutRange
import Derived.Maps.OwnOps
import Derived.WalkMore
namespace Go.Proofs.Ytmlobiajimlboaa
set_option linter.unusedVariables false
set_option linter.unusedSimpArgs false
open Go.RowKit Go.Maps
/-- How many entries a search over so many cells may lay. -/
def calls : Nat → Nat
  | 0 => 0
  | k + 1 => 1 + 4 * calls k
/-- What the search finds in memory. -/
structure Env (s : W.Shore) (c : W.Storm) (vc vw vd : Value) (bs bm bt bf b : Nat) (w : World) : Prop where
  cells : Cells w vc s.cells
  works : Works w vw s.works
  drags : Ints w vd (s.cells.map (·.dl))
  shore : Blk w bs #[vc, vw, .int .i64 s.reef, .int .i64 s.ll, .int .i64 s.lh, .int .i64 c.wl, .int .i64 c.wh, .int .i64 c.fl, .int .i64 c.fh, .int .i64 c.tl, .int .i64 c.th, .slice none 0 0] 91
  map : Blk w bm #[.map (some b)] 114
  truth : Blk w bt #[.int .i64 c.wh, .int .i64 c.fh, .int .i64 c.th, .int .i64 s.ll, vd] 32
  self : Blk w bf #[.func (.func 72) #[] #[.pointer (some ⟨bs, 0, none⟩), .pointer (some ⟨bm, 0, none⟩), .pointer (some ⟨bt, 0, none⟩), .pointer (some ⟨bf, 0, none⟩)]] 115
theorem Env.but {s : W.Shore} {c : W.Storm} {vc vw vd : Value} {bs bm bt bf b : Nat} {w w' : World} (h : Env s c vc vw vd bs bm bt bf b w) (hB : But b w w') (hm : MapAt w b) : Env s c vc vw vd bs bm bt bf b w' :=
  ⟨h.cells.but hB hm, h.works.but hB hm, h.drags.but hB hm, h.shore.but hB hm, h.map.but hB hm, h.truth.but hB hm, h.self.but hB hm⟩
/-- A post of a body that ends by 'return' alone. -/
def OnRet (R : Act → World → Prop) : Exit → Act → World → Prop
  | .ret, a, w => R a w
  | _, _, _ => False
theorem wp_scope_ret {P : Program} {c : Code} {Q : Exit → Act → World → Prop} {a : Act} {w : World} (h : ∀ R : Act → World → Prop, (∀ a w, Q .ret a w → R a w) → c.wp P (OnRet R) a w) : (Code.scope c).wp P Q a w := by
  refine wp_scope_straight (Code.wp_mono ?_ (h (fun a w => Q .ret a w) fun _ _ q => q))
  intro e a w hq
  cases e <;> first | exact hq | exact hq.elim
theorem zero_choice (w : World) : (zeroValue 102).run Try.prog w = .ok (.agg #[.int .i64 0, .int .i64 0, .slice none 0 0]) w := by kernel_rfl
theorem dryHouses_bd (ws : List W.Work) : ∀ (l : Int) (cs : List W.Cell) (ps : List Int), 0 ≤ W.dryHouses ws l cs ps ∧ W.dryHouses ws l cs ps ≤ cs.length
  | l, c :: cs, p :: ps => by
    have ih := dryHouses_bd ws (l - c.dl - (W.work ws p).calm) cs ps
    have h1 := houses_bd (c :: cs)
    unfold W.dryHouses W.spared
    split
    · exact h1
    · split <;> simp <;> omega
  | _, [], _ => by simp [W.dryHouses]
  | _, _ :: _, [] => by simp [W.dryHouses]; omega
theorem choice_info : (Try.prog.info? 102).map (fun i => (i.zero, i.size, i.bytes)) = some (some (.agg #[.int .i64 0, .int .i64 0, .slice none 0 0]), 3, 40) := by kernel_rfl
theorem wf_small {n : Int} (h0 : -1000000000 ≤ n) (h1 : n ≤ 1000000000) : wf64 n := by
  have e1 : IntKind.min .i64 = -9223372036854775808 := by decide
  have e2 : IntKind.max .i64 = 9223372036854775807 := by decide
  show (decide (IntKind.min .i64 ≤ n) && decide (n ≤ IntKind.max .i64)) = true
  rw [e1, e2]; simp; omega
/-- The search stays within small numbers. -/
theorem search_bd {ws : List W.Work} (hw : ∀ x ∈ ws, 0 ≤ x.rise ∧ x.rise ≤ 5000 ∧ 0 ≤ x.calm ∧ x.calm ≤ 5000 ∧ 0 ≤ x.cost ∧ x.cost ≤ 1000000) (cs : List W.Cell) (l m : Int) (hm : 0 ≤ m) :
    0 ≤ (W.search ws cs l m).houses ∧ (W.search ws cs l m).houses ≤ cs.length ∧ 0 ≤ (W.search ws cs l m).cost ∧ (W.search ws cs l m).cost ≤ m ∧ (W.search ws cs l m).plan.length = cs.length := by
  have hc : ∀ x ∈ ws, 0 ≤ x.cost := fun x hx => (hw x hx).2.2.2.2.1
  have B := W.search_best hc cs l m hm
  have h1 := dryHouses_bd ws l cs (W.search ws cs l m).plan
  have h2 := W.costs_nn ws hc (W.search ws cs l m).plan
  rw [← B.houses] at h1
  rw [← B.cost] at h2
  exact ⟨h1.1, h1.2, h2, B.pays, B.plan.1⟩
end Go.Proofs.Ytmlobiajimlboaa
