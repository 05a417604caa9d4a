/- How the wall's data lie in memory. -/
import Derived.Test.YtmlobiajimlboaaBase
import Derived.Test.YtmlobiajimlboaaPlain4
namespace Go.Proofs.Ytmlobiajimlboaa
set_option linter.unusedVariables false
set_option linter.unusedSimpArgs false
open Go.RowKit
def CellAt (w : World) (b o : Nat) (c : W.Cell) : Prop :=
  w.cell? ⟨b, o, none⟩ = some (.int .i64 c.g) ∧ w.cell? ⟨b, o + 1, none⟩ = some (.int .i64 c.dl) ∧ w.cell? ⟨b, o + 2, none⟩ = some (.int .i64 c.dh) ∧ w.cell? ⟨b, o + 3, none⟩ = some (.int .i64 c.fl)
def WorkAt (w : World) (b o : Nat) (x : W.Work) : Prop :=
  w.cell? ⟨b, o, none⟩ = some (.int .i64 x.rise) ∧ w.cell? ⟨b, o + 1, none⟩ = some (.int .i64 x.calm) ∧ w.cell? ⟨b, o + 2, none⟩ = some (.int .i64 x.cost)
def SpanAt (w : World) (b o : Nat) (x : Int × Int) : Prop :=
  w.cell? ⟨b, o, none⟩ = some (.int .i64 x.1) ∧ w.cell? ⟨b, o + 1, none⟩ = some (.int .i64 x.2)
theorem cell_stays : Stays CellAt := fun _ _ _ _ _ he hb h => ⟨(he.cells.1 _ _ hb).trans h.1, (he.cells.1 _ _ hb).trans h.2.1, (he.cells.1 _ _ hb).trans h.2.2.1, (he.cells.1 _ _ hb).trans h.2.2.2⟩
theorem work_stays : Stays WorkAt := fun _ _ _ _ _ he hb h => ⟨(he.cells.1 _ _ hb).trans h.1, (he.cells.1 _ _ hb).trans h.2.1, (he.cells.1 _ _ hb).trans h.2.2⟩
theorem span_stays : Stays SpanAt := fun _ _ _ _ _ he hb h => ⟨(he.cells.1 _ _ hb).trans h.1, (he.cells.1 _ _ hb).trans h.2⟩
/-- A slice of cells, of works, of spans. -/
def Cells (w : World) (v : Value) (xs : List W.Cell) : Prop := Sls 4 CellAt w v xs
def Works (w : World) (v : Value) (xs : List W.Work) : Prop := Sls 3 WorkAt w v xs
def Spans (w : World) (v : Value) (xs : List (Int × Int)) : Prop := Sls 2 SpanAt w v xs
theorem Cells.ext {w w' : World} {v : Value} {xs : List W.Cell} (h : Cells w v xs) (he : Ext w w') : Cells w' v xs := Sls.ext cell_stays h he
theorem Works.ext {w w' : World} {v : Value} {xs : List W.Work} (h : Works w v xs) (he : Ext w w') : Works w' v xs := Sls.ext work_stays h he
theorem Spans.ext {w w' : World} {v : Value} {xs : List (Int × Int)} (h : Spans w v xs) (he : Ext w w') : Spans w' v xs := Sls.ext span_stays h he
end Go.Proofs.Ytmlobiajimlboaa
