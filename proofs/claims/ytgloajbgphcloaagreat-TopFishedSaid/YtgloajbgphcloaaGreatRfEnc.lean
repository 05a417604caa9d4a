/- How the reef's data lie in memory. -/
import Derived.Test.YtgloajbgphcloaaGreatCo
import Derived.Test.YtgloajbgphcloaaGreatRg
import Derived.Test.YtgloajbgphcloaaGreatRfPl
namespace Go.Proofs.YtgloajbgphcloaaGreat.Rf
set_option linter.unusedVariables false
set_option linter.unusedSimpArgs false
open Go.RowKit
def placeC (p:R.Place):List Value:=[.int .i64 p.count,.int .i64 p.room,.int .i64 p.gl,.int .i64 p.gh,.int .i64 p.drift,.int .i64 p.into,.int .i64 p.ol,.int .i64 p.oh,.int .i64 p.sl,.int .i64 p.sh,.int .i64 p.goal,.int .i64 p.worth]
def spanC (x:Int×Int):List Value:=[.int .i64 x.1,.int .i64 x.2]
def Places (w:World) (v:Value) (xs:List R.Place):Prop:=Sls 12 (AtE placeC) w v xs
def Spans (w:World) (v:Value) (xs:List (Int×Int)):Prop:=Sls 2 (AtE spanC) w v xs
theorem Places.ext {w w':World} {v:Value} {xs:List R.Place} (h:Places w v xs) (he:Ext w w'):Places w' v xs:=Sls.ext (ate_stays _) h he
theorem Spans.ext {w w':World} {v:Value} {xs:List (Int×Int)} (h:Spans w v xs) (he:Ext w w'):Spans w' v xs:=Sls.ext (ate_stays _) h he
def Tight (v:Value):Prop:=∀n c,v= .slice none n c→n=0∧c=0
theorem Tight.some (a:Addr) (n c:Nat):Tight (.slice (.some a) n c):=fun _ _ h=>by cases h
theorem Tight.nil:Tight (.slice none 0 0):=fun _ _ h=>by cases h;exact⟨rfl,rfl⟩
theorem Tight.own {w:World} {base:Nat} {e:TypeId} {s:Nat} {v:Value} {n:Nat} {xs:List Value} (h:w.ownsRow base e s v n xs):Tight v:=by
 rcases h.2 with⟨rfl,_⟩|⟨g,cap,cur,rfl,_⟩
 ·exact Tight.nil
 ·exact Tight.some _ _ _
def RowAt (w:World) (b o:Nat) (xs:List Int):Prop:=∃v,w.cell? ⟨b,o,none⟩=some v∧Ints w v xs∧Tight v
theorem row_stays:Stays RowAt:=fun _ _ _ _ _ he hb ⟨v,h1,h2,h3⟩=>⟨v,(he.cells.1 _ _ hb).trans h1,h2.ext he,h3⟩
def Lists (w:World) (v:Value) (xs:List (List Int)):Prop:=Sls 1 RowAt w v xs
theorem Lists.ext {w w':World} {v:Value} {xs:List (List Int)} (h:Lists w v xs) (he:Ext w w'):Lists w' v xs:=Sls.ext row_stays h he
def SpanRowAt (w:World) (b o:Nat) (xs:List (Int×Int)):Prop:=∃v,w.cell? ⟨b,o,none⟩=some v∧Spans w v xs
theorem spanRow_stays:Stays SpanRowAt:=fun _ _ _ _ _ he hb ⟨v,h1,h2⟩=>⟨v,(he.cells.1 _ _ hb).trans h1,h2.ext he⟩
def SpanRows (w:World) (v:Value) (xs:List (List (Int×Int))):Prop:=Sls 1 SpanRowAt w v xs
theorem SpanRows.ext {w w':World} {v:Value} {xs:List (List (Int×Int))} (h:SpanRows w v xs) (he:Ext w w'):SpanRows w' v xs:=Sls.ext spanRow_stays h he
abbrev reefV (r:R.Reef) (vp:Value):Array Value:=#[vp,.int .i64 r.miss,.int .i64 r.seasons]
abbrev planV (r:R.Reef) (vp vl:Value):Array Value:=#[vp,.int .i64 r.miss,.int .i64 r.seasons,vl]
abbrev placeV (p:R.Place):Array Value:=#[.int .i64 p.count,.int .i64 p.room,.int .i64 p.gl,.int .i64 p.gh,.int .i64 p.drift,.int .i64 p.into,.int .i64 p.ol,.int .i64 p.oh,.int .i64 p.sl,.int .i64 p.sh,.int .i64 p.goal,.int .i64 p.worth]
theorem place_cells {w:World} {b o:Nat} {p:R.Place} (h:AtE placeC w b o p) :
  w.cell? ⟨b,o,none⟩=some (.int .i64 p.count)∧w.cell? ⟨b,o+1,none⟩=some (.int .i64 p.room)∧w.cell? ⟨b,o+2,none⟩=some (.int .i64 p.gl)∧w.cell? ⟨b,o+3,none⟩=some (.int .i64 p.gh) ∧
  w.cell? ⟨b,o+4,none⟩=some (.int .i64 p.drift)∧w.cell? ⟨b,o+5,none⟩=some (.int .i64 p.into)∧w.cell? ⟨b,o+6,none⟩=some (.int .i64 p.ol)∧w.cell? ⟨b,o+7,none⟩=some (.int .i64 p.oh) ∧
  w.cell? ⟨b,o+8,none⟩=some (.int .i64 p.sl)∧w.cell? ⟨b,o+9,none⟩=some (.int .i64 p.sh)∧w.cell? ⟨b,o+10,none⟩=some (.int .i64 p.goal)∧w.cell? ⟨b,o+11,none⟩=some (.int .i64 p.worth) :=
 ⟨h 0 _ rfl,h 1 _ rfl,h 2 _ rfl,h 3 _ rfl,h 4 _ rfl,h 5 _ rfl,h 6 _ rfl,h 7 _ rfl,h 8 _ rfl,h 9 _ rfl,h 10 _ rfl,h 11 _ rfl⟩
theorem span_cells {w:World} {b o:Nat} {x:Int×Int} (h:AtE spanC w b o x):w.cell? ⟨b,o,none⟩=some (.int .i64 x.1)∧w.cell? ⟨b,o+1,none⟩=some (.int .i64 x.2):=⟨h 0 _ rfl,h 1 _ rfl⟩
end Go.Proofs.YtgloajbgphcloaaGreat.Rf
