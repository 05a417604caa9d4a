/- The cell, without the program: what is as defined, and what becomes of the energy in a weather. How the cell's data lie in memory. Rows of elements that the call itself made. Merging two sorted lists by rotation, and what it keeps: lists only. The parts that are exchanged, by their lengths. Two elements of a row change places; ranges that do. Neighbouring ranges of a row change places. The insertion sort of a range. The merge of two sorted neighbours, one of which is a single element. The merge of two sorted neighbours. The stable sort. -/
import Derived.Test.YtgloajbgphcloaaGreatCo
import Derived.WalkKit
import Derived.Laws.AppendOwnNone
import Derived.Deep.Upon
import Derived.Test.YtgloajbgphcloaaGreatDr
import Derived.Deep.CutRange
import Derived.Deep.RegionHeld3
namespace Go.Proofs.YtgloajbgphcloaaGreat.Cl.C
set_option linter.unusedVariables false
set_option linter.unusedSimpArgs false
structure Load where
 need:Int
 keep:Int
 must:Bool
 deriving DecidableEq,Inhabited
structure Sys where
 sunny:Int
 cloudy:Int
 size:Int
 fade:Int
 start:Int
 loads:List Load
 days:Int
 window:Int
 most:Int
 panel:Int
 battery:Int
structure Day where
 battery:Int
 carried:Int
 deriving DecidableEq,Inhabited
abbrev Txt:=List UInt8
def within (x lo hi:Int):Bool:=decide (lo≤x)&&decide (x≤hi)
def loadB (l:Load):Bool:=within l.need 0 1000000&&within l.keep 0 1000000
def restB (c:Sys):Bool :=
 within c.days 1 10&&within c.window 1 c.days&&within c.most 0 c.window&&within c.panel 0 1000000&&within c.battery 0 1000000
def headB (c:Sys):Bool :=
 within c.sunny 0 1000000&&within c.cloudy 0 c.sunny&&within c.size 0 1000000&&within c.fade 0 1000&&within c.start 0 1000&&within c.loads.length 1 5
def sysB (c:Sys):Bool:=headB c&&c.loads.all loadB&&restB c
def partsB (p b:Int):Bool:=within p 0 12&&within b 0 8
def sets (c:Sys):Int:=2^c.loads.length
def offB (c:Sys) (off:Int):Bool:=within off 0 (sets c - 1)
def has (set:Int) (i:Nat):Bool:=decide (set/2^i%2=1)
def skyLetterB (x:UInt8):Bool:=x == 115||x == 99||x == 63
def skyB (c:Sys) (s:Txt):Bool:=s.all skyLetterB&&decide ((s.length:Int)=c.days)
def cloudy (s:Txt) (f n:Nat):Nat:=((s.drop f).take n).count 99
def allowed (c:Sys) (s:Txt):Bool:=(List.range (s.length+1 - c.window.toNat)).all fun f=>decide ((cloudy s f c.window.toNat:Int)≤c.most)
def agrees (s sky:Txt):Bool:=(s.zip sky).all fun p=>p.2 == 63||p.2 == p.1
def textOf:Nat→Nat→Txt
 | 0,_=>[]
 | n+1,x=>textOf n (x/2)++[if x%2=1 then 99 else 115]
def texts (n:Nat):List Txt:=(List.range (2^n)).map (textOf n)
def weathers (c:Sys):List Txt:=(texts c.days.toNat).filter (allowed c)
abbrev lat (l:List Load) (i:Nat):Load:=l.getD i default
abbrev dat (l:List Day) (i:Nat):Day:=l.getD i default
def hold (c:Sys) (b:Int):Int:=c.size*b
def gives (c:Sys) (p:Int) (x:UInt8):Int:=(if x=99 then c.cloudy else c.sunny)*p
structure LS where
 e:Int
 carried:Int
 used:Int
def loadStep (off:Int) (ls:List Load) (s:LS) (i:Nat):LS :=
 if has off i=false∧(lat ls i).need+(lat ls i).keep≤s.e then⟨s.e - (lat ls i).need,s.carried+2^i,s.used+(lat ls i).need⟩else s
def loadsTo (off:Int) (ls:List Load) (s:LS) (k:Nat):LS:=(List.range k).foldl (loadStep off ls) s
theorem loadsTo_succ (off:Int) (ls:List Load) (s:LS) (k:Nat):loadsTo off ls s (k+1)=loadStep off ls (loadsTo off ls s k) k:=by
 unfold loadsTo;rw[List.range_succ,List.foldl_append];rfl
structure St where
 e:Int
 carried:Int
 sun:Int
 used:Int
 lost:Int
 faded:Int
def full (c:Sys) (b:Int) (now:Int):Int:=if now<hold c b then now else hold c b
def fades (c:Sys) (e:Int):Int:=e*c.fade/1000
def sunSt (c:Sys) (p b:Int) (x:UInt8) (s:St):St :=
 { s with e:=full c b (s.e+gives c p x),sun:=s.sun+gives c p x,lost:=s.lost+(s.e+gives c p x) - full c b (s.e+gives c p x) }
def loadsSt (c:Sys) (off:Int) (s:St):St :=
 let l:=loadsTo off c.loads ⟨s.e,0,s.used⟩ c.loads.length
 { s with e:=l.e,carried:=l.carried,used:=l.used }
def fadeSt (c:Sys) (s:St):St:= { s with e:=s.e - fades c s.e,faded:=s.faded+fades c s.e }
def daySt (c:Sys) (p b off:Int) (x:UInt8) (s:St):St:=fadeSt c (loadsSt c off (sunSt c p b x s))
def start (c:Sys) (b:Int):Int:=hold c b*c.start/1000
def stateAt (c:Sys) (p b off:Int) (w:Txt):Nat→St
 | 0=>⟨start c b,0,0,0,0,0⟩
 | k+1=>daySt c p b off (w.getD k 0) (stateAt c p b off w k)
def dayAt (c:Sys) (p b off:Int) (w:Txt) (d:Nat):Day:=⟨(stateAt c p b off w (d+1)).e,(stateAt c p b off w (d+1)).carried⟩
def run (c:Sys) (p b off:Int) (w:Txt):List Day:=(List.range w.length).map (dayAt c p b off w)
def agreeing (c:Sys) (sky:Txt):List Txt:=(weathers c).filter fun w=>agrees w sky
def runs (c:Sys) (p b:Int) (sky:Txt):List (List Day):=(agreeing c sky).map (run c p b 0)
def imin (a b:Int):Int:=if a<b then a else b
def imax (a b:Int):Int:=if a<b then b else a
structure Seen where
 low:Int
 high:Int
 loads:List Int
 deriving DecidableEq
def many (rs:List (List Day)) (d i:Nat):Nat:=rs.countP fun l=>has (dat l d).carried i
def word (n all:Nat):Int:=if n=0 then 1 else if n=all then 3 else 2
def lowOf (rs:List (List Day)) (d:Nat):Int:=(rs.map fun l=>(dat l d).battery).foldl imin (dat (rs.getD 0 []) d).battery
def highOf (rs:List (List Day)) (d:Nat):Int:=(rs.map fun l=>(dat l d).battery).foldl imax (dat (rs.getD 0 []) d).battery
def seenAt (c:Sys) (rs:List (List Day)) (d:Nat):Seen:=⟨lowOf rs d,highOf rs d,(List.range c.loads.length).map fun i=>word (many rs d i) rs.length⟩
def seen (c:Sys) (rs:List (List Day)):List Seen:=(List.range c.days.toNat).map (seenAt c rs)
def downs (c:Sys) (x:Day) (i:Nat):Bool:=(lat c.loads i).must&& !has x.carried i
def down (c:Sys) (x:Day):Option Nat:=(List.range c.loads.length).find? (downs c x)
def firstDown (c:Sys) (l:List Day):Option (Nat×Nat):=(List.range l.length).findSome? fun d=>(down c (dat l d)).map fun i=>(d,i)
def fault (c:Sys) (p b off:Int):Option (Txt×Nat×Nat):=(weathers c).findSome? fun w=>(firstDown c (run c p b off w)).map fun x=>(w,x.1,x.2)
def cost (c:Sys) (p b:Int):Int:=p*c.panel+b*c.battery
def suffice (c:Sys) (p b off:Int):Bool:=(fault c p b off).isNone
end Go.Proofs.YtgloajbgphcloaaGreat.Cl.C
namespace Go.Proofs.YtgloajbgphcloaaGreat.Cl
set_option linter.unusedVariables false
set_option linter.unusedSimpArgs false
open Go.RowKit
def loadC (l:C.Load):List Value:=[.int .i64 l.need,.int .i64 l.keep,.bool l.must]
def dayC (x:C.Day):List Value:=[.int .i64 x.battery,.int .i64 x.carried]
def Loads (w:World) (v:Value) (xs:List C.Load):Prop:=Sls 3 (AtE loadC) w v xs
def Days (w:World) (v:Value) (xs:List C.Day):Prop:=Sls 2 (AtE dayC) w v xs
theorem Loads.ext {w w':World} {v:Value} {xs:List C.Load} (h:Loads w v xs) (he:Ext w w'):Loads w' v xs:=Sls.ext (ate_stays _) h he
theorem Days.ext {w w':World} {v:Value} {xs:List C.Day} (h:Days w v xs) (he:Ext w w'):Days w' v xs:=Sls.ext (ate_stays _) h he
abbrev loadV (l:C.Load):Array Value:=#[.int .i64 l.need,.int .i64 l.keep,.bool l.must]
abbrev sysV (c:C.Sys) (vl:Value):Array Value:=#[.int .i64 c.sunny,.int .i64 c.cloudy,.int .i64 c.size,.int .i64 c.fade,.int .i64 c.start,vl,.int .i64 c.days,.int .i64 c.window,.int .i64 c.most,.int .i64 c.panel,.int .i64 c.battery]
theorem load_cells {w:World} {b o:Nat} {l:C.Load} (h:AtE loadC w b o l) :
  w.cell? ⟨b,o,none⟩=some (.int .i64 l.need)∧w.cell? ⟨b,o+1,none⟩=some (.int .i64 l.keep)∧w.cell? ⟨b,o+2,none⟩=some (.bool l.must):=⟨h 0 _ rfl,h 1 _ rfl,h 2 _ rfl⟩
end Go.Proofs.YtgloajbgphcloaaGreat.Cl
namespace Go.Proofs.YtgloajbgphcloaaGreat.Cl
set_option linter.unusedVariables false
set_option linter.unusedSimpArgs false
open Go.RowKit
def storeC (x:Int×Int):List Value:=[.int .i64 x.1,.int .i64 x.2]
theorem storeC_len (x:Int×Int):(storeC x).length=2:=rfl
theorem _root_.Go.Proofs.YtgloajbgphcloaaGreat.RowB.set_two {e:TypeId} {w:World} {g:Nat} {xs:List (Int×Int)} (h:RowB storeC 2 e w g xs) (i:Nat) (hi:i<xs.length) (x:Int×Int) :
  RowB storeC 2 e ((w.setCell ⟨g,i*2,none⟩ (.int .i64 x.1)).setCell ⟨g,i*2+1,none⟩ (.int .i64 x.2)) g (xs.set i x):=by
 obtain⟨cs,hB,hc⟩:=h
 refine⟨_,(hB.set _ _).set _ _,fun k hk j u hu=> ?_⟩
 have hk':k<xs.length:=by simpa using hk
 have hj:j<2:=(List.getElem?_eq_some_iff.1 hu).1
 rw[List.getElem_set]at hu
 have h0:=hc i hi 0 _ rfl
 have h1:=hc i hi 1 _ rfl
 obtain⟨z0,_⟩:=Array.getElem?_eq_some_iff.1 h0
 obtain⟨z1,_⟩:=Array.getElem?_eq_some_iff.1 h1
 by_cases e:i=k
 ·subst e
  rw[if_pos rfl]at hu
  have h01:j=0∨j=1:=by omega
  rcases h01 with rfl|rfl
  ·simp[storeC]at hu
   simp only[Nat.add_zero]at z0 ⊢
   rw[Array.getElem?_setIfInBounds,if_neg (by omega),Array.getElem?_setIfInBounds,if_pos rfl,if_pos (by simpa using z0),hu]
  ·simp[storeC]at hu
   rw[Array.getElem?_setIfInBounds,if_pos rfl,if_pos (by simpa using z1),hu]
 ·rw[if_neg e]at hu
  rw[Array.getElem?_setIfInBounds,if_neg (by omega),Array.getElem?_setIfInBounds,if_neg (by omega)]
  exact hc k hk' j u hu
end Go.Proofs.YtgloajbgphcloaaGreat.Cl
namespace Go.Proofs.YtgloajbgphcloaaGreat.Cl.S
set_option linter.unusedVariables false
set_option linter.unusedSimpArgs false
open List renaming set_cons_zero → Qa
variable {α:Type}
abbrev Srt (R:α→α→Prop) (l:List α):Prop:=l.Pairwise R
def Bef (R:α→α→Prop) (X Y:List α):Prop:=∀x∈X,∀y∈Y,R x y
theorem srt_append {R:α→α→Prop} {X Y:List α} :Srt R (X++Y)↔Srt R X∧Srt R Y∧Bef R X Y:=List.pairwise_append
theorem swap_set (A B C:List α) (x y:α) (p q:Nat) (hp:p=A.length) (hq:q=A.length+1+B.length) :
  ((A++x::(B++y::C)).set p y).set q x=A++y::(B++x::C):=by
 subst hp hq
 rw[List.set_append_right _ _ (Nat.le_refl _),Nat.sub_self,Qa,List.set_append_right _ _ (by omega)]
 have e:A.length+1+B.length - A.length=B.length+1:=by omega
 rw[e,List.set_cons_succ,List.set_append_right _ _ (Nat.le_refl _),Nat.sub_self,Qa]
theorem last_of (X:List α) (h:X≠[]):∃A x,X=A++[x]:=⟨X.dropLast,X.getLast h,(List.dropLast_concat_getLast h).symm⟩
theorem srt_insert {R:α→α→Prop} {A B:List α} {x:α} (h:Srt R (A++B)) (hA:∀y∈A,R y x) (hB:∀y∈B,R x y):Srt R (A++x::B):=by
 obtain⟨h1,h2,h3⟩:=srt_append.1 h
 refine srt_append.2 ⟨h1,List.pairwise_cons.2 ⟨hB,h2⟩,fun a ha b hb=> ?_⟩
 rcases List.mem_cons.1 hb with rfl|hb
 ·exact hA a ha
 ·exact h3 a ha b hb
theorem before_last {R:α→α→Prop} (T:∀a b c,R a b→R b c→R a c) {A:List α} {y x:α} (h:Srt R (A++[y])) (hy:R y x):∀z∈A++[y],R z x:=fun z hz=>by
 obtain⟨_,_,h3⟩:=srt_append.1 h
 rcases List.mem_append.1 hz with hz|hz
 ·exact T _ _ _ (h3 z hz y (by simp)) hy
 ·rw[List.mem_singleton.1 hz];exact hy
theorem behind_head {R:α→α→Prop} (T:∀a b c,R a b→R b c→R a c) {A:List α} {y x:α} (h:Srt R (y::A)) (hy:R x y):∀z∈y::A,R x z:=fun z hz=>by
 rcases List.mem_cons.1 hz with rfl|hz
 ·exact hy
 ·exact T _ _ _ hy ((List.pairwise_cons.1 h).1 z hz)
structure Cut (R:α→α→Prop) (X1 X2 Y1 Y2:List α):Prop where
 a:Bef R X1 Y2
 b:Bef R Y1 X2
theorem Cut.of {R:α→α→Prop} (T:∀a b c,R a b→R b c→R a c) {X1 X2 Y1 Y2:List α} (hX:Srt R (X1++X2)) (hY:Srt R (Y1++Y2))
  (h1:∀x y A B,X1=A++[x]→Y2=y::B→R x y) (h2:∀x y A B,Y1=A++[y]→X2=x::B→R y x):Cut R X1 X2 Y1 Y2:=by
 obtain⟨a1,a2,a3⟩:=srt_append.1 hX
 obtain⟨b1,b2,b3⟩:=srt_append.1 hY
 constructor
 ·intro x hx y hy
  obtain⟨A,u,rfl⟩:=last_of X1 (List.ne_nil_of_mem hx)
  cases Y2 with
  | nil=>cases hy
  | cons v B=>exact behind_head T b2 (before_last T a1 (h1 u v A B rfl rfl) x hx) y hy
 ·intro y hy x hx
  obtain⟨A,u,rfl⟩:=last_of Y1 (List.ne_nil_of_mem hy)
  cases X2 with
  | nil=>cases hx
  | cons v B=>exact behind_head T a2 (before_last T b1 (h2 v u A B rfl rfl) y hy) x hx
theorem merged {R:α→α→Prop} {X1 X2 Y1 Y2 Z1 Z2:List α} (hX:Srt R (X1++X2)) (hY:Srt R (Y1++Y2)) (C:Cut R X1 X2 Y1 Y2) (p1:Z1.Perm (X1++Y1)) (p2:Z2.Perm (X2++Y2)) (s1:Srt R Z1) (s2:Srt R Z2) :
  Srt R (Z1++Z2)∧(Z1++Z2).Perm ((X1++X2)++(Y1++Y2)):=by
 obtain⟨_,_,a3⟩:=srt_append.1 hX
 obtain⟨_,_,b3⟩:=srt_append.1 hY
 constructor
 ·refine srt_append.2 ⟨s1,s2,fun z hz v hv=> ?_⟩
  rcases List.mem_append.1 (p1.subset hz)with h1|h1<;>rcases List.mem_append.1 (p2.subset hv)with h2|h2
  ·exact a3 z h1 v h2
  ·exact C.a z h1 v h2
  ·exact C.b z h1 v h2
  ·exact b3 z h1 v h2
 ·refine(p1.append p2).trans ?_
  rw[List.append_assoc,List.append_assoc]
  refine List.Perm.append_left _ ?_
  rw[← List.append_assoc,←List.append_assoc]
  exact List.Perm.append_right _ List.perm_append_comm
def Ord (key:α→Int) (rank:α→Nat) (x y:α):Prop:=key x<key y∨(key x=key y∧rank x<rank y)
theorem ord_trans (key:α→Int) (rank:α→Nat):∀a b c,Ord key rank a b→Ord key rank b c→Ord key rank a c:=by
 intro a b c h1 h2
 unfold Ord at *
 omega
theorem ord_lt {key:α→Int} {rank:α→Nat} {x y:α} (h:rank x<rank y):Ord key rank x y↔¬key y<key x:=by
 unfold Ord;omega
theorem low_all {R:α→α→Prop} (T:∀a b c,R a b→R b c→R a c) {Y:List α} {x:α} (h:Srt R Y) {t:Nat} (ht:t<Y.length) (hx:R Y[t] x):∀q (hq:q<Y.length),q<t+1→R Y[q] x:=fun q hq hl=>by
 rcases Nat.lt_or_eq_of_le (Nat.le_of_lt_succ hl)with e|e
 ·exact T _ _ _ (List.pairwise_iff_getElem.1 h q t hq ht e) hx
 ·subst e;exact hx
theorem high_all {R:α→α→Prop} (T:∀a b c,R a b→R b c→R a c) {Y:List α} {x:α} (h:Srt R Y) {t:Nat} (ht:t<Y.length) (hx:R x Y[t]):∀q (hq:q<Y.length),t≤q→R x Y[q]:=fun q hq hl=>by
 rcases Nat.lt_or_eq_of_le hl with e|e
 ·exact T _ _ _ hx (List.pairwise_iff_getElem.1 h t q ht hq e)
 ·subst e;exact hx
theorem cross {R:α→α→Prop} (T:∀a b c,R a b→R b c→R a c) {X Y:List α} (hX:Srt R X) (hY:Srt R Y) {i j:Nat} (hi:i<X.length) (hj:j<Y.length) (h:R X[i] Y[j]) (i' j':Nat) (hi':i'<X.length) (hj':j'<Y.length) (h1:i'≤i) (h2:j≤j'):R X[i'] Y[j'] :=
 low_all T hX hi (high_all T hY hj h j' hj' h2) i' hi' (by omega)
theorem take_all {P:α→Prop} {Y:List α} {u:Nat} (h:∀t (ht:t<Y.length),t<u→P Y[t]):∀z∈Y.take u,P z:=fun z hz=>by
 obtain⟨i,hi,rfl⟩:=List.getElem_of_mem hz
 have h1:i<u∧i<Y.length:=by rw[List.length_take]at hi;omega
 rw[List.getElem_take]
 exact h i h1.2 h1.1
theorem drop_all {P:α→Prop} {Y:List α} {u:Nat} (h:∀t (ht:t<Y.length),u≤t→P Y[t]):∀z∈Y.drop u,P z:=fun z hz=>by
 obtain⟨i,hi,rfl⟩:=List.getElem_of_mem hz
 have h1:u+i<Y.length:=by rw[List.length_drop]at hi;omega
 rw[List.getElem_drop]
 exact h _ h1 (by omega)
inductive Bl (R:α→α→Prop) (k:Nat):List α→List α→Prop
 | last {X Z:List α} :X.length≤k→Z.Perm X→Srt R Z→Bl R k X Z
 | cons {X1 Z1 X Z:List α} :X1.length=k→Z1.Perm X1→Srt R Z1→Bl R k X Z→Bl R k (X1++X) (Z1++Z)
theorem Bl.perm {R:α→α→Prop} {k:Nat} {X Z:List α} (h:Bl R k X Z):Z.Perm X:=by
 induction h with
 | last _ h2 _=>exact h2
 | cons _ h2 _ _ ih=>exact h2.append ih
theorem Bl.one {R:α→α→Prop} {k:Nat} {X Z:List α} (h:Bl R k X Z) (hk:X.length≤k):Z.Perm X∧Srt R Z:=by
 cases h with
 | last _ h2 h3=>exact⟨h2,h3⟩
 | @cons X1 Z1 X Z h1 h2 h3 h4 =>
  have e:X.length=0:=by rw[List.length_append]at hk;omega
  have eX:X=[]:=List.eq_nil_of_length_eq_zero e
  have eZ:Z=[]:=List.eq_nil_of_length_eq_zero (by rw[h4.perm.length_eq];exact e)
  subst eX eZ
  simpa using⟨h2,h3⟩
theorem Bl.two {R:α→α→Prop} {k:Nat} {X Z:List α} (h:Bl R k X Z) (hk:2*k≤X.length) (h0:0<k) :
  ∃X1 X2 X' Z1 Z2 Z',X=X1++(X2++X')∧Z=Z1++(Z2++Z')∧X1.length=k∧X2.length=k∧Z1.Perm X1∧Z2.Perm X2∧Srt R Z1∧Srt R Z2∧Bl R k X' Z':=by
 cases h with
 | last h1 _ _=>omega
 | @cons X1 Z1 X Z h1 h2 h3 h4 =>
  rw[List.length_append]at hk
  cases h4 with
  | last a1 a2 a3 =>
   exact⟨X1,X,[],Z1,Z,[],by simp,by simp,h1,by omega,h2,a2,h3,a3,.last (by simp) (by simp) (by simp)⟩
  | @cons X2 Z2 X' Z' a1 a2 a3 a4=>exact⟨X1,X2,X',Z1,Z2,Z',rfl,rfl,h1,a1,h2,a2,h3,a3,a4⟩
theorem Bl.rest {R:α→α→Prop} {k:Nat} {X Z:List α} (h:Bl R k X Z) (hk:k<X.length) (hk2:X.length<2*k) :
  ∃X1 X2 Z1 Z2,X=X1++X2∧Z=Z1++Z2∧X1.length=k∧Z1.Perm X1∧Z2.Perm X2∧Srt R Z1∧Srt R Z2:=by
 cases h with
 | last h1 _ _=>omega
 | @cons X1 Z1 X Z h1 h2 h3 h4 =>
  rw[List.length_append]at hk2
  obtain⟨a2,a3⟩:=h4.one (by omega)
  exact⟨X1,X,Z1,Z,rfl,rfl,h1,h2,a2,h3,a3⟩
end Go.Proofs.YtgloajbgphcloaaGreat.Cl.S
namespace Go.Proofs.YtgloajbgphcloaaGreat.Cl.S
set_option linter.unusedVariables false
set_option linter.unusedSimpArgs false
variable {α:Type}
theorem cut_of {R:α→α→Prop} (T:∀a b c,R a b→R b c→R a c) {X Y:List α} (hX:Srt R X) (hY:Srt R Y) {u v:Nat} (hu:u≤X.length) (hv:v≤Y.length)
  (h1:∀i j (hi:i<X.length) (hj:j<Y.length),i+1=u→j=v→R X[i] Y[j]) (h2:∀i j (hi:i<X.length) (hj:j<Y.length),i=u→j+1=v→R Y[j] X[i]):Cut R (X.take u) (X.drop u) (Y.take v) (Y.drop v):=by
 have hd:∀(L:List α) (k:Nat) (z:α) (B:List α),L.drop k=z::B→∃h:k<L.length,L[k]=z:=fun L k z B e=>by
  have h:=congrArg (fun l=>l[0]?) e
  simp only[List.getElem?_drop,Nat.add_zero,List.getElem?_cons_zero]at h
  exact List.getElem?_eq_some_iff.1 h
 have ht:∀(L:List α) (k:Nat) (z:α) (A:List α),k≤L.length→L.take k=A++[z]→A.length+1=k∧∃h:A.length<L.length,L[A.length]=z:=fun L k z A hk e=>by
  have hl:=congrArg List.length e
  simp only[List.length_take,List.length_append,List.length_singleton]at hl
  have hl2:A.length+1=k:=by omega
  have h:=congrArg (fun l=>l[A.length]?) e
  simp only[List.getElem?_take,List.getElem?_append_right (Nat.le_refl _),Nat.sub_self,List.getElem?_cons_zero]at h
  rw[if_pos (by omega)]at h
  exact⟨hl2,List.getElem?_eq_some_iff.1 h⟩
 refine Cut.of T (by rw[List.take_append_drop];exact hX) (by rw[List.take_append_drop];exact hY) (fun x y A B e1 e2=> ?_) (fun x y A B e1 e2=> ?_)
 ·obtain⟨l1,hi,rfl⟩:=ht X u x A hu e1
  obtain⟨hj,rfl⟩:=hd Y v y B e2
  exact h1 _ _ hi hj l1 rfl
 ·obtain⟨l1,hi,rfl⟩:=ht Y v y A hv e1
  obtain⟨hj,rfl⟩:=hd X u x B e2
  exact h2 _ _ hj hi rfl l1
end Go.Proofs.YtgloajbgphcloaaGreat.Cl.S
namespace Go.Proofs.YtgloajbgphcloaaGreat.Cl
set_option linter.unusedVariables false
set_option linter.unusedSimpArgs false
open Go.RowKit
open Act renaming put → Qd
open Lib renaming hid → Qb
open List renaming getElem_cons_succ → Qg, getElem_cons_zero → Qf, getElem_toArray → Qe, setIfInBounds_toArray → Qh, set_cons_succ → Qi, set_cons_zero → Qa, take_succ_eq_append_getElem → Qc
theorem set_at {α:Type} (P Q:List α) (x y:α) {p:Nat} (hp:p=P.length):(P++x::Q).set p y=P++y::Q:=by
 subst hp
 rw[List.set_append_right _ _ (Nat.le_refl _),Nat.sub_self,Qa]
theorem atSt {w:World} {g:Nat} {P Z:List (Int×Int)} {x:Int×Int} (h:RowB storeC 2 176 w g (P++x::Z)) {p:Nat} (hp:p=P.length):w.cell? ⟨g,p*2,none⟩=some (.int .i64 x.1)∧w.cell? ⟨g,p*2+1,none⟩=some (.int .i64 x.2):=by
 have hl:p<(P++x::Z).length:=by simp;omega
 have e:(P++x::Z)[p]=x:=by subst hp;simp
 have hc:=fun j u (hu:(storeC x)[j]? =some u)=>RowB.cell h p hl j u (by rw[e];exact hu)
 exact⟨hc 0 _ rfl,hc 1 _ rfl⟩
set_option maxRecDepth 100000 in
set_option maxHeartbeats 4000000 in
theorem swapRangeSt (A X M Y B:List (Int×Int)) (g cap a b n N:Nat) (vc:Value) (w:World) (ha:a=A.length) (hb:b=A.length+X.length+M.length) (hX:X.length=n) (hY:Y.length=n)
  (hN:N=(A++(X++(M++(Y++B)))).length) (hsz:N≤1000000) (h:RowB storeC 2 176 w g (A++(X++(M++(Y++B))))) :
  Calls Tryz.prog 260 #[.slice (some ⟨g,0,none⟩) N cap,.int .i64 a,.int .i64 b,.int .i64 n,vc] w fun e w'=>e= .returned (.tuple #[])∧RowB storeC 2 176 w' g (A++(Y++(M++(X++B))))∧Off g w w':=by
 have hNl:N=A.length+n+M.length+n+B.length:=by rw[hN];simp;omega
 have H:=Qb h
 have HF:=Qb (And.intro ha (And.intro hb (And.intro hX (And.intro hY hNl))))
 have hbN:b+n≤N:=by omega
 have haN:a+n≤N:=by omega
 clear h hN ha hb hX hY hNl
 go_enter Tryz.func260,Tryz.ntmps260
 go_wp2
 go_loopw [10] (fun i wr=>∃k:Nat,k≤n∧i= .int .i64 k∧RowB storeC 2 176 wr g (A++(Y.take k++(X.drop k++(M++(X.take k++(Y.drop k++B))))))∧Off g w wr) (fun i _=>n - (intOf i).toNat)
 case atStart=>exact⟨0,Nat.zero_le _,rfl,by simpa using H.out,Off.refl _ _⟩
 case round =>
  rename World=>wr
  obtain⟨k,hk,rfl,hrow,hO⟩:=hrel
  by_cases hlt:k<n
  ·obtain⟨ha,hb,hX,hY,hNl⟩:=HF.out
   have hkX:k<X.length:=by omega
   have hkY:k<Y.length:=by omega
   obtain⟨x,hx⟩:∃x,X[k]=x:=⟨_,rfl⟩
   obtain⟨y,hy0⟩:∃y,Y[k]=y:=⟨_,rfl⟩
   have e1:A++(Y.take k++(X.drop k++(M++(X.take k++(Y.drop k++B)))))=(A++Y.take k)++x::((X.drop (k+1)++(M++X.take k))++y::(Y.drop (k+1)++B)):=by
    rw[List.drop_eq_getElem_cons hkX,List.drop_eq_getElem_cons hkY,hx,hy0];simp
   have e2:A++(Y.take (k+1)++(X.drop (k+1)++(M++(X.take (k+1)++(Y.drop (k+1)++B)))))=(A++Y.take k)++y::((X.drop (k+1)++(M++X.take k))++x::(Y.drop (k+1)++B)):=by
    rw[Qc hkX,Qc hkY,hx,hy0];simp
   rw[e1]at hrow
   obtain⟨C2,hC2⟩:∃C2,A++(Y.take (k+1)++(X.drop (k+1)++(M++(X.take (k+1)++(Y.drop (k+1)++B)))))=C2:=⟨_,rfl⟩
   rw[hC2]at e2
   have HC2:=Qb hC2
   have E2:=Qb e2
   clear hC2
   obtain⟨P,hP⟩:∃P,A++Y.take k=P:=⟨_,rfl⟩
   obtain⟨Q,hQ⟩:∃Q,X.drop (k+1)++(M++X.take k)=Q:=⟨_,rfl⟩
   obtain⟨Z,hZ⟩:∃Z,Y.drop (k+1)++B=Z:=⟨_,rfl⟩
   have hlP:P.length=a+k:=by rw[← hP,ha];simp;omega
   have hlQ:Q.length=n - (k+1)+(M.length+k):=by rw[← hQ];simp;omega
   have hlZ:Z.length=n - (k+1)+B.length:=by rw[← hZ];simp;omega
   rw[hP,hQ,hZ]at hrow E2
   obtain⟨p,hp0⟩:∃p,a+k=p:=⟨_,rfl⟩
   obtain⟨q,hq0⟩:∃q,b+k=q:=⟨_,rfl⟩
   have hp:p=P.length:=by omega
   have hq:q=P.length+1+Q.length:=by omega
   have hq2:q=(P++x::Q).length:=by simp;omega
   have hpN:p<N:=by omega
   have hqN:q<N:=by omega
   have hpl:p<(P++x::(Q++y::Z)).length:=by simp;omega
   have hql:q<((P++x::(Q++y::Z)).set p y).length:=by simp;omega
   have hpi:(a:Int)+(k:Int)=(p:Int):=by omega
   have hqi:(b:Int)+(k:Int)=(q:Int):=by omega
   have hwp:IntKind.wrap .i64 (p:Int)=p:=IntWalk.i64_in _ (by omega)
   have hwq:IntKind.wrap .i64 (q:Int)=q:=IntWalk.i64_in _ (by omega)
   have hpN':(p:Int)<(N:Int):=by omega
   have hqN':(q:Int)<(N:Int):=by omega
   have hSM:∀z,(fun c z=>c=false→RowB storeC 2 176 z g (P++x::(Q++y::Z))) false z→(fun c z=>c=false→RowB storeC 2 176 z g (P++x::(Q++y::Z))) true z:=fun z _ e=>absurd (e:true=false) (by decide)
   clear e1 e2 hx hy0 hP hQ hZ
   have hrd:RowB storeC 2 176 wr.drew g (P++x::(Q++y::Z)):=RowB.move hrow rfl
   have HPQ:=Qb (And.intro hp (And.intro hq2 (And.intro hpl (And.intro hql hq))))
   clear hlP hlQ hlZ hp0 hq0 hp hq hq2 hpl hql hkX hkY ha hb hX hY hNl
   go_upto_region 3 with(fail)
   refine wp_region_late 21 (fun c z=>c=false→RowB storeC 2 176 z g (P++x::(Q++y::Z))) (by kernel_rfl) (fun hL=> ?_)
   refine late_early (i:=0) (v:= ?_) rfl (by kernel_rfl) (by kernel_rfl) (by kernel_rfl) (by decide) (by kernel_rfl) (fun _ _ _ h=>h) hL (Or.inl ⟨by rfl,?_⟩) (fun _=>hrd) (fun hL'=> ?_)
   rotate_left
   ·intro y hy;clear hy;go_simp;(try with_reducible rfl)
   clear hL;rename Shutb _ _=>hL
   (try simp only[Qd,Qe,Qf,Qg,Qh,Qa,Qi])
   refine late_early (i:=1) (v:= ?_) rfl (by kernel_rfl) (by kernel_rfl) (by kernel_rfl) (by decide) (by kernel_rfl) (fun _ _ _ h=>h) hL (Or.inl ⟨by rfl,?_⟩) (fun _=>hrd) (fun hL'=> ?_)
   rotate_left
   ·intro y hy;clear hy;go_simp;(try with_reducible rfl)
   clear hL;rename Shutb _ _=>hL
   (try simp only[Qd,Qe,Qf,Qg,Qh,Qa,Qi])
   refine late_early (i:=2) (v:= ?_) rfl (by kernel_rfl) (by kernel_rfl) (by kernel_rfl) (by decide) (by kernel_rfl) (fun _ _ _ h=>h) hL (Or.inl ⟨by rfl,?_⟩) (fun _=>hrd) (fun hL'=> ?_)
   rotate_left
   ·intro y hy;clear hy;go_simp;(try with_reducible rfl)
   clear hL;rename Shutb _ _=>hL
   (try simp only[Qd,Qe,Qf,Qg,Qh,Qa,Qi])
   refine late_early (i:=3) (v:= ?_) rfl (by kernel_rfl) (by kernel_rfl) (by kernel_rfl) (by decide) (by kernel_rfl) (fun _ _ _ h=>h) hL (Or.inl ⟨by rfl,?_⟩) (fun _=>hrd) (fun hL'=> ?_)
   rotate_left
   ·intro y hy;clear hy;go_simp;(try with_reducible rfl)
   clear hL;rename Shutb _ _=>hL
   (try simp only[Qd,Qe,Qf,Qg,Qh,Qa,Qi])
   refine late_early (i:=8) (v:= ?_) rfl (by kernel_rfl) (by kernel_rfl) (by kernel_rfl) (by decide) (by kernel_rfl) (fun _ _ _ h=>h) hL (Or.inl ⟨by rfl,?_⟩) (fun _=>hrd) (fun hL'=> ?_)
   rotate_left
   ·intro y hy;clear hy;go_simp;(try with_reducible rfl)
   clear hL;rename Shutb _ _=>hL
   (try simp only[Qd,Qe,Qf,Qg,Qh,Qa,Qi])
   refine late_early (i:=9) (v:= ?_) rfl (by kernel_rfl) (by kernel_rfl) (by kernel_rfl) (by decide) (by kernel_rfl) (fun _ _ _ h=>h) hL (Or.inl ⟨by rfl,?_⟩) (fun _=>hrd) (fun hL'=> ?_)
   rotate_left
   ·intro y hy;clear hy;go_simp;(try with_reducible rfl)
   clear hL;rename Shutb _ _=>hL
   (try simp only[Qd,Qe,Qf,Qg,Qh,Qa,Qi])
   refine late_early (i:=10) (v:= ?_) rfl (by kernel_rfl) (by kernel_rfl) (by kernel_rfl) (by decide) (by kernel_rfl) (fun _ _ _ h=>h) hL (Or.inl ⟨by rfl,?_⟩) (fun _=>hrd) (fun hL'=> ?_)
   rotate_left
   ·intro y hy;clear hy;go_simp;(try with_reducible rfl)
   clear hL;rename Shutb _ _=>hL
   (try simp only[Qd,Qe,Qf,Qg,Qh,Qa,Qi])
   refine late_early (i:=11) (v:= ?_) rfl (by kernel_rfl) (by kernel_rfl) (by kernel_rfl) (by decide) (by kernel_rfl) (fun _ _ _ h=>h) hL (Or.inl ⟨by rfl,?_⟩) (fun _=>hrd) (fun hL'=> ?_)
   rotate_left
   ·intro y hy;clear hy;go_simp;(try with_reducible rfl)
   clear hL;rename Shutb _ _=>hL
   (try simp only[Qd,Qe,Qf,Qg,Qh,Qa,Qi])
   refine late_early (i:=12) (v:= ?_) rfl (by kernel_rfl) (by kernel_rfl) (by kernel_rfl) (by decide) (by kernel_rfl) (fun _ _ _ h=>h) hL (Or.inl ⟨by rfl,?_⟩) (fun _=>hrd) (fun hL'=> ?_)
   rotate_left
   ·intro y hy;clear hy;go_simp;(try with_reducible rfl)
   clear hL;rename Shutb _ _=>hL
   (try simp only[Qd,Qe,Qf,Qg,Qh,Qa,Qi])
   refine late_early (i:=13) (v:= ?_) rfl (by kernel_rfl) (by kernel_rfl) (by kernel_rfl) (by decide) (by kernel_rfl) (fun _ _ _ h=>h) hL (Or.inl ⟨by rfl,?_⟩) (fun _=>hrd) (fun hL'=> ?_)
   rotate_left
   ·intro y hy;have hz:=hy rfl;clear hy;obtain⟨g1,g2⟩:=atSt (P:=P++x::Q) (by simpa using hz) HPQ.out.2.1;have g3:=RowB.lt hz;go_simp;(try with_reducible rfl)
   clear hL;rename Shutb _ _=>hL
   (try simp only[Qd,Qe,Qf,Qg,Qh,Qa,Qi])
   refine late_early (i:=14) (v:= ?_) rfl (by kernel_rfl) (by kernel_rfl) (by kernel_rfl) (by decide) (by kernel_rfl) (fun _ _ _ h=>h) hL (Or.inl ⟨by rfl,?_⟩) (fun _=>hrd) (fun hL'=> ?_)
   rotate_left
   ·intro y hy;clear hy;go_simp;(try with_reducible rfl)
   clear hL;rename Shutb _ _=>hL
   (try simp only[Qd,Qe,Qf,Qg,Qh,Qa,Qi])
   refine late_early (i:=15) (v:= ?_) rfl (by kernel_rfl) (by kernel_rfl) (by kernel_rfl) (by decide) (by kernel_rfl) (fun _ _ _ h=>h) hL (Or.inl ⟨by rfl,?_⟩) (fun _=>hrd) (fun hL'=> ?_)
   rotate_left
   ·intro y hy;clear hy;go_simp;(try with_reducible rfl)
   clear hL;rename Shutb _ _=>hL
   (try simp only[Qd,Qe,Qf,Qg,Qh,Qa,Qi])
   refine late_early (i:=16) (v:= ?_) rfl (by kernel_rfl) (by kernel_rfl) (by kernel_rfl) (by decide) (by kernel_rfl) (fun _ _ _ h=>h) hL (Or.inl ⟨by rfl,?_⟩) (fun _=>hrd) (fun hL'=> ?_)
   rotate_left
   ·intro y hy;clear hy;go_simp;(try with_reducible rfl)
   clear hL;rename Shutb _ _=>hL
   (try simp only[Qd,Qe,Qf,Qg,Qh,Qa,Qi])
   refine late_early (i:=17) (v:= ?_) rfl (by kernel_rfl) (by kernel_rfl) (by kernel_rfl) (by decide) (by kernel_rfl) (fun _ _ _ h=>h) hL (Or.inl ⟨by rfl,?_⟩) (fun _=>hrd) (fun hL'=> ?_)
   rotate_left
   ·intro y hy;clear hy;go_simp;(try with_reducible rfl)
   clear hL;rename Shutb _ _=>hL
   (try simp only[Qd,Qe,Qf,Qg,Qh,Qa,Qi])
   refine late_early (i:=18) (v:= ?_) rfl (by kernel_rfl) (by kernel_rfl) (by kernel_rfl) (by decide) (by kernel_rfl) (fun _ _ _ h=>h) hL (Or.inl ⟨by rfl,?_⟩) (fun _=>hrd) (fun hL'=> ?_)
   rotate_left
   ·intro y hy;clear hy;go_simp;(try with_reducible rfl)
   clear hL;rename Shutb _ _=>hL
   (try simp only[Qd,Qe,Qf,Qg,Qh,Qa,Qi])
   refine late_early (i:=19) (v:= ?_) rfl (by kernel_rfl) (by kernel_rfl) (by kernel_rfl) (by decide) (by kernel_rfl) (fun _ _ _ h=>h) hL (Or.inl ⟨by rfl,?_⟩) (fun _=>hrd) (fun hL'=> ?_)
   rotate_left
   ·intro y hy;have hz:=hy rfl;clear hy;obtain⟨g1,g2⟩:=atSt hz HPQ.out.1;have g3:=RowB.lt hz;go_simp;(try with_reducible rfl)
   clear hL;rename Shutb _ _=>hL
   (try simp only[Qd,Qe,Qf,Qg,Qh,Qa,Qi])
   refine late_late (i:=4) (v:= ?_) rfl (by kernel_rfl) (by kernel_rfl) (by kernel_rfl) (by decide) hSM (fun _ _ _ h=>h) hL (Or.inl ⟨by rfl,?_⟩) (fun _=>hrd) (fun hL'=> ?_)
   rotate_left
   ·intro y hy;clear hy;go_simp;(try with_reducible rfl)
   clear hL;rename Shutb _ _=>hL
   (try simp only[Qd,Qe,Qf,Qg,Qh,Qa,Qi])
   refine late_late (i:=5) (v:= ?_) rfl (by kernel_rfl) (by kernel_rfl) (by kernel_rfl) (by decide) hSM (fun _ _ _ h=>h) hL (Or.inl ⟨by rfl,?_⟩) (fun _=>hrd) (fun hL'=> ?_)
   rotate_left
   ·intro y hy;clear hy;go_simp;(try with_reducible rfl)
   clear hL;rename Shutb _ _=>hL
   (try simp only[Qd,Qe,Qf,Qg,Qh,Qa,Qi])
   refine late_late (i:=6) (v:= ?_) rfl (by kernel_rfl) (by kernel_rfl) (by kernel_rfl) (by decide) hSM (fun _ _ _ h=>h) hL (Or.inl ⟨by rfl,?_⟩) (fun _=>hrd) (fun hL'=> ?_)
   rotate_left
   ·intro y hy;clear hy;go_simp;(try with_reducible rfl)
   clear hL;rename Shutb _ _=>hL
   (try simp only[Qd,Qe,Qf,Qg,Qh,Qa,Qi])
   refine late_late (i:=7) (v:= ?_) rfl (by kernel_rfl) (by kernel_rfl) (by kernel_rfl) (by decide) hSM (fun _ _ _ h=>h) hL (Or.inl ⟨by rfl,?_⟩) (fun _=>hrd) (fun hL'=> ?_)
   rotate_left
   ·intro y hy;clear hy;go_simp;(try with_reducible rfl)
   clear hL;rename Shutb _ _=>hL
   (try simp only[Qd,Qe,Qf,Qg,Qh,Qa,Qi])
   refine late_one (i:=20) (by kernel_rfl) hL (fun hL'=> ?_)
   refine wpOp_step rfl (fun K hK0=> ?_)
   have hK:Shut _:=hK0
   clear hK0
   go_simp
   refine hK.out _ _ ⟨fun _=>hrd,?_⟩
   clear hK K;clear hL;rename Shutb _ _=>hL
   (try simp only[Qd,Qe,Qf,Qg,Qh,Qa,Qi])
   obtain⟨d1,d2⟩:=atSt hrow HPQ.out.1
   have d3:=RowB.free hrow
   have d4:=RowB.lt hrow
   refine late_one (i:=21) (by kernel_rfl) hL (fun hL'=> ?_)
   refine wpOp_step rfl (fun K hK0=> ?_)
   have hK:Shut _:=hK0
   clear hK0
   go_simp
   refine hK.out _ _ ⟨fun e=>absurd (e:true=false) (by decide),?_⟩
   clear hK K;clear hL;rename Shutb _ _=>hL
   (try simp only[Qd,Qe,Qf,Qg,Qh,Qa,Qi])
   clear d1 d3 d4 d2
   have hO1:=hO.set (a:=⟨g,p*2,none⟩) (.inl rfl) (.int .i64 y.1) |>.set (a:=⟨g,p*2+1,none⟩) (.inl rfl) (.int .i64 y.2)
   have hr1:=RowB.set_two hrow p HPQ.out.2.2.1 y
   obtain⟨wm,hwm⟩:∃wm,((wr.setCell ⟨g,p*2,none⟩ (.int .i64 y.1)).setCell ⟨g,p*2+1,none⟩ (.int .i64 y.2))=wm:=⟨_,rfl⟩
   rw[hwm]at hr1 hO1 ⊢
   clear hwm
   have hr1':=hr1
   rw[set_at P (Q++y::Z) x y HPQ.out.1,show P++y::(Q++y::Z)=(P++y::Q)++y::Z by simp]at hr1'
   obtain⟨d1,d2⟩:=atSt hr1' (p:=q) (by simpa using HPQ.out.2.1)
   have d3:=RowB.free hr1
   have d4:=RowB.lt hr1
   refine late_one (i:=22) (by kernel_rfl) hL (fun hL'=> ?_)
   refine wpOp_step rfl (fun K hK0=> ?_)
   have hK:Shut _:=hK0
   clear hK0
   go_simp
   refine hK.out _ _ ⟨fun e=>absurd (e:true=false) (by decide),?_⟩
   clear hK K;clear hL;rename Shutb _ _=>hL
   (try simp only[Qd,Qe,Qf,Qg,Qh,Qa,Qi])
   refine late_one (i:=23) (by kernel_rfl) hL (fun hL'=> ?_)
   refine wpOp_step rfl (fun K hK0=> ?_)
   have hK:Shut _:=hK0
   clear hK0
   go_simp
   refine hK.out _ _ ⟨fun e=>absurd (e:true=false) (by decide),?_⟩
   clear hK K;clear hL;rename Shutb _ _=>hL
   (try simp only[Qd,Qe,Qf,Qg,Qh,Qa,Qi])
   refine late_done (by kernel_rfl) ?_
   (try dsimp only[Exit.then])
   clear d1 d3 d4 hr1' d2
   have hr2:=RowB.set_two hr1 q HPQ.out.2.2.2.1 x
   rw[S.swap_set P Q Z x y p q HPQ.out.1 HPQ.out.2.2.2.2,←E2.out]at hr2
   have hO2:=hO1.set (a:=⟨g,q*2,none⟩) (.inl rfl) (.int .i64 x.1) |>.set (a:=⟨g,q*2+1,none⟩) (.inl rfl) (.int .i64 x.2)
   go_wp2
   go_roundw
   case rel=>exact⟨k+1,by omega,by go_num,by rw[HC2.out];exact RowB.move hr2 rfl,hO2.ext ((Ext.refl _).drew)⟩
   case measure=>simp[intOf];omega
  ·obtain rfl:k=n:=by omega
   obtain⟨ha,hb,hX,hY,hNl⟩:=HF.out
   have hfin:A++(Y.take k++(X.drop k++(M++(X.take k++(Y.drop k++B)))))=A++(Y++(M++(X++B))):=by rw[List.take_of_length_le (by omega),List.drop_eq_nil_of_le (by omega:X.length≤k),List.take_of_length_le (by omega:X.length≤k),List.drop_eq_nil_of_le (by omega)];simp
   rw[hfin]at hrow
   clear hfin ha hb hX hY hNl
   go_wp2
   go_end0
   exact⟨rfl,hrow,hO⟩
end Go.Proofs.YtgloajbgphcloaaGreat.Cl
namespace Go.Proofs.YtgloajbgphcloaaGreat.Cl
set_option linter.unusedVariables false
set_option linter.unusedSimpArgs false
open Go.RowKit
open Lib renaming hid → Qb
set_option maxRecDepth 100000 in
set_option maxHeartbeats 4000000 in
theorem rotateSt (A X Y B:List (Int×Int)) (g cap a m b N:Nat) (vc:Value) (w:World) (ha:a=A.length) (hm:m=A.length+X.length) (hb:b=A.length+X.length+Y.length) (hX:0<X.length) (hY:0<Y.length)
  (hN:N=(A++(X++(Y++B))).length) (hsz:N≤1000000) (h:RowB storeC 2 176 w g (A++(X++(Y++B)))) :
  Calls Tryz.prog 257 #[.slice (some ⟨g,0,none⟩) N cap,.int .i64 a,.int .i64 m,.int .i64 b,vc] w fun e w'=>e= .returned (.tuple #[])∧RowB storeC 2 176 w' g (A++(Y++(X++B)))∧Off g w w':=by
 have hNl:N=A.length+X.length+Y.length+B.length:=by rw[hN];simp;omega
 obtain⟨F,hF⟩:∃F,A++(Y++(X++B))=F:=⟨_,rfl⟩
 rw[hF]
 obtain⟨i0,hi0⟩:∃i,X.length=i:=⟨_,rfl⟩
 obtain⟨j0,hj0⟩:∃j,Y.length=j:=⟨_,rfl⟩
 have hmi:(m:Int) - (a:Int)=(i0:Int):=by omega
 have hbj:(b:Int) - (m:Int)=(j0:Int):=by omega
 have hbd:b≤N:=by omega
 have hmb:m≤N:=by omega
 have hib:i0≤N:=by omega
 have hjb:j0≤N:=by omega
 have H0:=Qb (show RowB storeC 2 176 w g (A++(X++(Y++B)))∧X.length=i0∧Y.length=j0∧0<i0∧0<j0∧A.length+i0=m∧A++(Y++(X++B))=F∧A.length+i0+j0+B.length=N from⟨h,hi0,hj0,by omega,by omega,by omega,hF,by omega⟩)
 clear h hN ha hm hb hX hY hNl hF hi0 hj0
 go_enter Tryz.func257,Tryz.ntmps257
 go_wp2
 go_loopw [10,11] (fun vi vj wr=>∃(i j:Nat) (A X Y B:List (Int×Int)),vi= .int .i64 i∧vj= .int .i64 j∧X.length=i∧Y.length=j∧0<i∧0<j∧A.length+i=m∧RowB storeC 2 176 wr g (A++(X++(Y++B)))∧A++(Y++(X++B))=F∧A.length+i+j+B.length=N∧Off g w wr) (fun vi vj _=>(intOf vi).toNat+(intOf vj).toNat)
 case atStart =>
  obtain⟨h1,h2,h3,h4,h5,h6,h7,h8⟩:=H0.out
  exact⟨i0,j0,A,X,Y,B,rfl,rfl,h2,h3,h4,h5,h6,h1,h7,h8,Off.refl _ _⟩
 case round =>
  rename World=>wr
  clear H0 A X Y B
  obtain⟨i,j,A,X,Y,B,rfl,rfl,hi,hj,hi1,hj1,hAm,hrow,hF,hNl,hO⟩:=hrel
  obtain⟨p,hp⟩:∃p,A.length=p:=⟨_,rfl⟩
  have hpm:(m:Int) - (i:Int)=(p:Int):=by omega
  have hpN:p≤N:=by omega
  have hiN:i≤N:=by omega
  have hjN:j≤N:=by omega
  have hmj:m+j≤N:=by omega
  by_cases heq:i=j
  ·subst heq
   have HH:=Qb (And.intro hi (And.intro hj (And.intro hAm (And.intro hp (And.intro hNl hF)))))
   have HR:=Qb hrow
   clear hi hj hAm hp hNl hF hrow
   go_wp2_with (first|(go_at_call 260;refine(swapRangeSt A X [] Y B g cap p m i N vc _ HH.out.2.2.2.1.symm (by have:=HH.out.1;have:=HH.out.2.2.1;have:=HH.out.2.2.2.1;simp;omega) HH.out.1 HH.out.2.1 (by have:=HH.out.2.2.2.2.1;have:=HH.out.1;have:=HH.out.2.1;simp;omega) (by omega) (by simpa using HR.out)).mono ?_;rintro e w' ⟨rfl,hr',hO'⟩))
   go_end0
   refine⟨rfl,?_,hO.trans hO'⟩
   rw[← HH.out.2.2.2.2.2]
   simpa using hr'
  ·by_cases hlt:j<i
   ·have hXs:X=X.take j++X.drop j:=(List.take_append_drop j X).symm
    obtain⟨X1,hX1⟩:∃X1,X.take j=X1:=⟨_,rfl⟩
    obtain⟨X2,hX2⟩:∃X2,X.drop j=X2:=⟨_,rfl⟩
    have hl1:X1.length=j:=by rw[← hX1];simp;omega
    have hl2:X2.length=i - j:=by rw[← hX2];simp;omega
    rw[hX1,hX2]at hXs
    subst hXs
    have hij:(i:Int) - (j:Int)=((i - j:Nat):Int):=by omega
    have HH:=Qb (And.intro hl1 (And.intro hl2 (And.intro hj (And.intro hAm (And.intro hp (And.intro hNl hF))))))
    have HR:=Qb hrow
    clear hi hj hAm hp hNl hF hrow hl1 hl2 hX1 hX2
    go_wp2_with (first|(go_at_call 260;refine(swapRangeSt A X1 X2 Y B g cap p m j N vc _ HH.out.2.2.2.2.1.symm (by have:=HH.out.1;have:=HH.out.2.1;have:=HH.out.2.2.2.1;have:=HH.out.2.2.2.2.1;omega) HH.out.1 HH.out.2.2.1 (by have:=HH.out.2.2.2.2.2.1;have:=HH.out.1;have:=HH.out.2.1;have:=HH.out.2.2.1;simp;omega) (by omega) (by simpa using HR.out)).mono ?_;rintro e w' ⟨rfl,hr',hO'⟩))
    go_roundw
    case rel =>
     obtain⟨h1,h2,h3,h4,h5,h6,h7⟩:=HH.out
     exact⟨i - j,j,A++Y,X2,X1,B,by go_num,rfl,h2,h1,by omega,hj1,by simp;omega,by simpa using hr',by rw[← h7];simp,by simp;omega,hO.trans hO'⟩
    case measure=>simp[intOf];omega
   ·have hYs:Y=Y.take (j - i)++Y.drop (j - i):=(List.take_append_drop _ Y).symm
    obtain⟨Y1,hY1⟩:∃Y1,Y.take (j - i)=Y1:=⟨_,rfl⟩
    obtain⟨Y2,hY2⟩:∃Y2,Y.drop (j - i)=Y2:=⟨_,rfl⟩
    have hl1:Y1.length=j - i:=by rw[← hY1];simp;omega
    have hl2:Y2.length=i:=by rw[← hY2];simp;omega
    rw[hY1,hY2]at hYs
    subst hYs
    have hij:(j:Int) - (i:Int)=((j - i:Nat):Int):=by omega
    have hq:(m:Int)+(j:Int) - (i:Int)=((m+j - i:Nat):Int):=by omega
    have HH:=Qb (And.intro hl1 (And.intro hl2 (And.intro hi (And.intro hAm (And.intro hp (And.intro hNl hF))))))
    have HR:=Qb hrow
    clear hi hj hAm hp hNl hF hrow hl1 hl2 hY1 hY2
    go_wp2_with (first|(go_at_call 260;refine(swapRangeSt A X Y1 Y2 B g cap p (m+j - i) i N vc _ HH.out.2.2.2.2.1.symm (by have:=HH.out.1;have:=HH.out.2.2.1;have:=HH.out.2.2.2.1;have:=HH.out.2.2.2.2.1;omega) HH.out.2.2.1 HH.out.2.1 (by have:=HH.out.2.2.2.2.2.1;have:=HH.out.1;have:=HH.out.2.1;have:=HH.out.2.2.1;simp;omega) (by omega) (by simpa using HR.out)).mono ?_;rintro e w' ⟨rfl,hr',hO'⟩))
    go_roundw
    case rel =>
     obtain⟨h1,h2,h3,h4,h5,h6,h7⟩:=HH.out
     exact⟨i,j - i,A,Y2,Y1,X++B,rfl,by go_num,h2,h1,hi1,by omega,h4,by simpa using hr',by rw[← h7];simp,by simp;omega,hO.trans hO'⟩
    case measure=>simp[intOf];omega
end Go.Proofs.YtgloajbgphcloaaGreat.Cl
namespace Go.Proofs.YtgloajbgphcloaaGreat.Cl
set_option linter.unusedVariables false
set_option linter.unusedSimpArgs false
open Go.RowKit
open Act renaming put → Qd
open Ext renaming alloc → Qo, drew → Qp, refl → Qn, setCell → Qq, trans → Qr
open Lib renaming hid → Qb
open List renaming drop_succ_cons → Ql, drop_zero → Qm, getElem_cons_succ → Qg, getElem_cons_zero → Qf, getElem_toArray → Qe, setIfInBounds_toArray → Qh, set_cons_succ → Qi, set_cons_zero → Qa, take_succ_cons → Qj, take_zero → Qk
set_option maxRecDepth 100000 in
set_option maxHeartbeats 8000000 in
theorem insSortSt (g:Nat) (bc:Nat) (key:Int×Int→Int) (rank:Int×Int→Nat) (D:Int×Int→Prop) (K:World→Prop) (hK:∀w w',K w→Off g w w'→K w') (hD:∀x,D x→ -1000000000≤key x∧key x≤1000000000)
  (HC:∀w' x y,K w'→D x→D y→Calls Tryz.prog 127 #[.agg #[.int .i64 x.1,.int .i64 x.2],.agg #[.int .i64 y.1,.int .i64 y.2],.pointer (some ⟨bc,0,none⟩)] w' fun e w2=>e= .returned (.int .i64 (key x - key y))∧Ext w' w2)
  (A X B:List (Int×Int)) (cap a b N:Nat) (w:World) (hKw:K w) (hDX:∀x∈X,D x) (hX:X.Pairwise fun x y=>rank x<rank y) (ha:a=A.length) (hb:b=A.length+X.length)
  (hN:N=(A++(X++B)).length) (hsz:N≤1000000) (h:RowB storeC 2 176 w g (A++(X++B))) :
  Calls Tryz.prog 232 #[.slice (some ⟨g,0,none⟩) N cap,.int .i64 a,.int .i64 b,.func (.func 127) #[] #[.pointer (some ⟨bc,0,none⟩)]] w fun e w'=>e= .returned (.tuple #[])∧∃Z,Z.Perm X∧S.Srt (S.Ord key rank) Z∧RowB storeC 2 176 w' g (A++(Z++B))∧Off g w w':=by
 have hNl:N=A.length+X.length+B.length:=by rw[hN];simp;omega
 have hbN:b≤N:=by omega
 have hab:a≤b:=by omega
 have HCM:=Qb HC
 have HMX:=Qb hDX
 have HRX:=Qb hX
 have HF:=Qb (And.intro ha (And.intro hb hNl))
 have H:=Qb h
 have hpc:=plus_cell
 clear HC hD hDX hX ha hb hN hNl h
 go_enter Tryz.func232,Tryz.ntmps232
 go_wp2
 go_loopw [8,9] (fun vi _ wr=>∃(k:Nat) (V:List (Int×Int)) (i:Nat),1≤k∧k≤X.length+1∧vi= .int .i64 i∧i=a+k∧V.Perm (X.take k)∧S.Srt (S.Ord key rank) V∧RowB storeC 2 176 wr g (A++(V++(X.drop k++B)))∧Off g w wr) (fun vi _ _=>b+1 - (intOf vi).toNat)
 case atStart =>
  refine⟨1,X.take 1,a+1,Nat.le_refl _,by omega,by go_num,rfl,List.Perm.refl _,?_,?_,Off.refl _ _⟩
  ·cases X<;>simp
  ·have hh:=H.out
   rw[← List.take_append_drop 1 X]at hh
   simpa using hh
 case round =>
  rename World=>wr
  obtain⟨k,V,i,hk1,hk,rfl,hik,hpm,hsr,hrow,hO⟩:=hrel
  obtain⟨ha,hb,hNl⟩:=HF.out
  by_cases hlt:k<X.length
  ·have hib:i<b:=by omega
   have hDR:=List.drop_eq_getElem_cons hlt
   have hTK:=List.take_succ_eq_append_getElem hlt
   have hDy:=HMX.out _ (List.getElem_mem hlt)
   have hzl:V.length=k:=by rw[hpm.length_eq];simp;omega
   have hrk:∀x∈V,rank x<rank X[k]:=fun x hx=>by
    have h1:X.Pairwise (fun x y=>rank x<rank y):=HRX.out
    have h2:(X.take k++X.drop k).Pairwise (fun x y=>rank x<rank y):=by rw[List.take_append_drop];exact h1
    exact(List.pairwise_append.1 h2).2.2 x (hpm.subset hx) _ (by rw[hDR];exact List.mem_cons_self)
   have hDZ:∀x∈V,D x:=fun x hx=>HMX.out x (List.mem_of_mem_take (hpm.subset hx))
   obtain⟨y,hy0⟩:∃y,X[k]=y:=⟨_,rfl⟩
   rw[hy0]at hDR hTK hDy
   simp only[hy0]at hrk
   rw[hDR]at hrow
   obtain⟨R,hR⟩:∃R,X.drop (k+1)++B=R:=⟨_,rfl⟩
   have hrow':RowB storeC 2 176 wr g (A++(V++y::([]++R))):=by rw[← hR];simpa using hrow
   have HRR:=Qb hR
   have HTK:=Qb hTK
   have HPM:=Qb hpm
   have HSR:=Qb hsr
   have HRK:=Qb hrk
   have HDZ:=Qb hDZ
   have HA:=Qb ha
   have HDY:=Qb hDy
   have HZL:=Qb hzl
   have hlR:A.length+k+1+R.length=N:=by rw[← hR];simp;omega
   have HLR:=Qb hlR
   have HIK:=Qb hik
   have hiN:i≤N:=by omega
   have hib':(i:Int)<(b:Int):=by omega
   clear hik hDR hTK hpm hsr hrk hDZ hy0 hR hrow ha hb hNl hDy hlR
   go_wp2
   go_loopw [9] (fun vj wx=>∃(Z1 Z2:List (Int×Int)) (q:Nat),Z1++Z2=V∧q=a+Z1.length∧vj= .int .i64 q∧RowB storeC 2 176 wx g (A++(Z1++y::(Z2++R)))∧(∀ u∈Z2,S.Ord key rank y u)∧Off g w wx) (fun vj _=>(intOf vj).toNat)
   case atStart=>exact⟨V,[],i,by simp,by have:=HIK.out;have:=HZL.out;omega,rfl,hrow',by simp,hO⟩
   case round =>
    rename World=>wx
    clear hO hrow'
    obtain⟨Z1,Z2,q,hz,hq,rfl,hrow,hB2,hO⟩:=hrel
    have HZ:=Qb hz
    have HB2:=Qb hB2
    have hql:Z1.length≤k:=by have h1:=congrArg List.length hz;rw[List.length_append,HZL.out]at h1;omega
    have hlk:q≤i:=by have:=HIK.out;omega
    have HROW:=Qb hrow
    rcases List.eq_nil_or_concat Z1 with e|⟨Z0,x,e⟩
    ·subst e
     have hqa:(q:Int)=a:=by simp at hq;omega
     have hqn:¬(a:Int)<(q:Int):=by omega
     have HQA:=Qb hqa
     have hqn2:¬a<q:=by omega
     have HQN:=Qb (And.intro hqn hqn2)
     clear hqn2 hz hB2 hrow hq hqa hqn hql HA HZL HLR
     go_wp2
     refine wp_region_ext 17 (fun _ _ d _ _ h=>by cases d<;>exact h) (by kernel_rfl) (by kernel_rfl) (by kernel_rfl) (by kernel_rfl) ?_
     simp only[Qj,Qk,Ql,Qm]
     obtain⟨hqn,hqn2⟩:=HQN.out
     repeat(any_goals(first|go_big_quiet_step(fail)|quiet_step(fail)))
     all_goals(refine wpQuiet_nil ?_;intro wq hEq)
     unfold wpList
     go_wp2
     go_roundw
     case rel =>
      have hz:=HZ.out
      refine⟨k+1,[]++y::Z2,i+1,by omega,by omega,by go_num,by have:=HIK.out;omega,?_,S.srt_insert (by rw[hz];exact HSR.out) (by simp) HB2.out,?_,hO.ext hEq⟩
      ·rw[HTK.out]
       refine List.perm_middle.trans ?_
       rw[hz]
       exact((HPM.out.cons y).trans (List.perm_append_singleton y _).symm)
      ·have hr:=RowB.ext HROW.out hEq
       rw[HRR.out]
       simpa using hr
     case measure=>simp[intOf];omega
    ·rw[List.concat_eq_append]at e
     subst e
     have hxZ:x∈V:=by rw[← hz];simp
     have hDx:=HDZ.out x hxZ
     have hrx:=HRK.out x hxZ
     have hcc:=fun w' (hk:K w')=>HCM.out w' y x hk HDY.out hDx
     obtain⟨c,hc⟩:∃c,key y - key x=c:=⟨_,rfl⟩
     simp only[hc]at hcc
     have HCC:=Qb hcc
     obtain⟨P,hP⟩:∃P,A++Z0=P:=⟨_,rfl⟩
     obtain⟨p,hp⟩:∃p,a+Z0.length=p:=⟨_,rfl⟩
     have hPl:p=P.length:=by rw[← hP,←hp,HA.out];simp
     have hqp:q=p+1:=by rw[hq,←hp];simp;omega
     obtain⟨Q,hQ⟩:∃Q:List (Int×Int),[]=Q:=⟨_,rfl⟩
     obtain⟨Z,hZ⟩:∃Z,Z2++R=Z:=⟨_,rfl⟩
     have hrw:A++((Z0++[x])++y::(Z2++R))=P++x::(Q++y::Z):=by rw[← hP,←hQ,←hZ];simp
     rw[hrw]at hrow
     have hQl:Q.length=0:=by rw[← hQ];rfl
     have HQQ:=Qb hQ
     have HZZ:=Qb hZ
     have hNq:q<N:=by have h1:=HLR.out;have h2:=HA.out;have h3:=hlt;omega
     have HPQ:=Qb (And.intro hPl (And.intro (show q=(P++x::Q).length by simp;omega) (show q=P.length+1+Q.length by omega)))
     have hpi:(q:Int) - 1=(p:Int):=by omega
     have hpN:p<N:=by omega
     have hwp:IntKind.wrap .i64 (p:Int)=p:=IntWalk.i64_in _ (by omega)
     have hwq:IntKind.wrap .i64 (q:Int)=q:=IntWalk.i64_in _ (by omega)
     have hpN':(p:Int)<(N:Int):=by omega
     have hqN':(q:Int)<(N:Int):=by omega
     have hqa:(a:Int)<(q:Int):=by omega
     have hqa2:a<q:=by omega
     have HQA:=Qb (And.intro hqa hqa2)
     have HP0:=Qb hp
     have HPP:=Qb hP
     have hcd:c<0↔key y<key x:=by omega
     have HCD:=Qb hcd
     have HRX2:=Qb hrx
     have HQ1:=Qb hqp
     have hgl:=RowB.lt hrow
     obtain⟨d1,d2⟩:=atSt hrow HPQ.out.1
     obtain⟨e1,e2⟩:=atSt (P:=P++x::Q) (by simpa using hrow) HPQ.out.2.1
     have HRW:=Qb hrow
     clear hz hB2 hrow hq hqp hQl hQ hZ hrw hcc hc hcd hP hp hPl hxZ hDx hrx hql hqa hqa2 HA HZL HLR
     by_cases hneg:c<0
     ·have HOXY:Hid (S.Ord key rank y x):= .inl (HCD.out.1 hneg)
      have HNEG:=Qb hneg
      clear hneg
      go_wp2
      refine wp_region_ext 17 (fun _ _ d _ _ h=>by cases d<;>exact h) (by kernel_rfl) (by kernel_rfl) (by kernel_rfl) (by kernel_rfl) ?_
      simp only[Qj,Qk,Ql,Qm]
      obtain⟨hqa,hqa2⟩:=HQA.out
      have hneg:=HNEG.out
      repeat(any_goals(first|go_big_quiet_step((go_at_call 127;exact ext_quiet (HCC.out _ (hK _ _ hKw (hO.ext (by(with_reducible(repeat(first|exact Qn _|assumption|apply Qo|apply Qp|exact ext_plus _ _|(apply Qq;rotate_left;(simp<;>omega))|(apply Qr;rotate_left;exact ext_plus _ _)|(apply Qr;rotate_left;assumption))))))))))|quiet_step((go_at_call 127;exact ext_quiet (HCC.out _ (hK _ _ hKw (hO.ext (by(with_reducible(repeat(first|exact Qn _|assumption|apply Qo|apply Qp|exact ext_plus _ _|(apply Qq;rotate_left;(simp<;>omega))|(apply Qr;rotate_left;exact ext_plus _ _)|(apply Qr;rotate_left;assumption))))))))))))
      all_goals(refine wpQuiet_nil ?_;intro wq hEq)
      unfold wpList
      clear d1 e1 d2 e2 hqa hqa2 hneg
      have hrow:=RowB.ext HRW.out hEq
      have hO':=hO.ext hEq
      clear hO
      have hO:=hO'
      clear hO'
      go_upto_region 6 with(fail)
      have hrd:RowB storeC 2 176 wq.drew g (P++x::(Q++y::Z)):=RowB.move hrow rfl
      have hSM:∀z,(fun c z=>c=false→RowB storeC 2 176 z g (P++x::(Q++y::Z))) false z→(fun c z=>c=false→RowB storeC 2 176 z g (P++x::(Q++y::Z))) true z:=fun z _ e=>absurd (e:true=false) (by decide)
      refine wp_region_late 15 (fun c z=>c=false→RowB storeC 2 176 z g (P++x::(Q++y::Z))) (by kernel_rfl) (fun hL=> ?_)
      refine late_early (i:=0) (v:= ?_) rfl (by kernel_rfl) (by kernel_rfl) (by kernel_rfl) (by decide) (by kernel_rfl) (fun _ _ _ h=>h) hL (Or.inl ⟨by rfl,?_⟩) (fun _=>hrd) (fun hL'=> ?_)
      rotate_left
      ·intro y hy;clear hy;go_simp;(try with_reducible rfl)
      clear hL;rename Shutb _ _=>hL
      (try simp only[Qd,Qe,Qf,Qg,Qh,Qa,Qi])
      refine late_early (i:=1) (v:= ?_) rfl (by kernel_rfl) (by kernel_rfl) (by kernel_rfl) (by decide) (by kernel_rfl) (fun _ _ _ h=>h) hL (Or.inl ⟨by rfl,?_⟩) (fun _=>hrd) (fun hL'=> ?_)
      rotate_left
      ·intro y hy;clear hy;go_simp;(try with_reducible rfl)
      clear hL;rename Shutb _ _=>hL
      (try simp only[Qd,Qe,Qf,Qg,Qh,Qa,Qi])
      refine late_early (i:=5) (v:= ?_) rfl (by kernel_rfl) (by kernel_rfl) (by kernel_rfl) (by decide) (by kernel_rfl) (fun _ _ _ h=>h) hL (Or.inl ⟨by rfl,?_⟩) (fun _=>hrd) (fun hL'=> ?_)
      rotate_left
      ·intro y hy;clear hy;go_simp;(try with_reducible rfl)
      clear hL;rename Shutb _ _=>hL
      (try simp only[Qd,Qe,Qf,Qg,Qh,Qa,Qi])
      refine late_early (i:=6) (v:= ?_) rfl (by kernel_rfl) (by kernel_rfl) (by kernel_rfl) (by decide) (by kernel_rfl) (fun _ _ _ h=>h) hL (Or.inl ⟨by rfl,?_⟩) (fun _=>hrd) (fun hL'=> ?_)
      rotate_left
      ·intro y hy;clear hy;go_simp;(try with_reducible rfl)
      clear hL;rename Shutb _ _=>hL
      (try simp only[Qd,Qe,Qf,Qg,Qh,Qa,Qi])
      refine late_early (i:=7) (v:= ?_) rfl (by kernel_rfl) (by kernel_rfl) (by kernel_rfl) (by decide) (by kernel_rfl) (fun _ _ _ h=>h) hL (Or.inl ⟨by rfl,?_⟩) (fun _=>hrd) (fun hL'=> ?_)
      rotate_left
      ·intro y hy;clear hy;go_simp;(try with_reducible rfl)
      clear hL;rename Shutb _ _=>hL
      (try simp only[Qd,Qe,Qf,Qg,Qh,Qa,Qi])
      refine late_early (i:=8) (v:= ?_) rfl (by kernel_rfl) (by kernel_rfl) (by kernel_rfl) (by decide) (by kernel_rfl) (fun _ _ _ h=>h) hL (Or.inl ⟨by rfl,?_⟩) (fun _=>hrd) (fun hL'=> ?_)
      rotate_left
      ·intro y hy;clear hy;go_simp;(try with_reducible rfl)
      clear hL;rename Shutb _ _=>hL
      (try simp only[Qd,Qe,Qf,Qg,Qh,Qa,Qi])
      refine late_early (i:=9) (v:= ?_) rfl (by kernel_rfl) (by kernel_rfl) (by kernel_rfl) (by decide) (by kernel_rfl) (fun _ _ _ h=>h) hL (Or.inl ⟨by rfl,?_⟩) (fun _=>hrd) (fun hL'=> ?_)
      rotate_left
      ·intro y hy;have hz:=hy rfl;clear hy;obtain⟨g1,g2⟩:=atSt hz HPQ.out.1;have g3:=RowB.lt hz;go_simp;(try with_reducible rfl)
      clear hL;rename Shutb _ _=>hL
      (try simp only[Qd,Qe,Qf,Qg,Qh,Qa,Qi])
      refine late_early (i:=10) (v:= ?_) rfl (by kernel_rfl) (by kernel_rfl) (by kernel_rfl) (by decide) (by kernel_rfl) (fun _ _ _ h=>h) hL (Or.inl ⟨by rfl,?_⟩) (fun _=>hrd) (fun hL'=> ?_)
      rotate_left
      ·intro y hy;clear hy;go_simp;(try with_reducible rfl)
      clear hL;rename Shutb _ _=>hL
      (try simp only[Qd,Qe,Qf,Qg,Qh,Qa,Qi])
      refine late_early (i:=11) (v:= ?_) rfl (by kernel_rfl) (by kernel_rfl) (by kernel_rfl) (by decide) (by kernel_rfl) (fun _ _ _ h=>h) hL (Or.inl ⟨by rfl,?_⟩) (fun _=>hrd) (fun hL'=> ?_)
      rotate_left
      ·intro y hy;clear hy;go_simp;(try with_reducible rfl)
      clear hL;rename Shutb _ _=>hL
      (try simp only[Qd,Qe,Qf,Qg,Qh,Qa,Qi])
      refine late_early (i:=12) (v:= ?_) rfl (by kernel_rfl) (by kernel_rfl) (by kernel_rfl) (by decide) (by kernel_rfl) (fun _ _ _ h=>h) hL (Or.inl ⟨by rfl,?_⟩) (fun _=>hrd) (fun hL'=> ?_)
      rotate_left
      ·intro y hy;clear hy;go_simp;(try with_reducible rfl)
      clear hL;rename Shutb _ _=>hL
      (try simp only[Qd,Qe,Qf,Qg,Qh,Qa,Qi])
      refine late_early (i:=13) (v:= ?_) rfl (by kernel_rfl) (by kernel_rfl) (by kernel_rfl) (by decide) (by kernel_rfl) (fun _ _ _ h=>h) hL (Or.inl ⟨by rfl,?_⟩) (fun _=>hrd) (fun hL'=> ?_)
      rotate_left
      ·intro y hy;have hz:=hy rfl;clear hy;obtain⟨g1,g2⟩:=atSt (P:=P++x::Q) (by simpa using hz) HPQ.out.2.1;have g3:=RowB.lt hz;go_simp;(try with_reducible rfl)
      clear hL;rename Shutb _ _=>hL
      (try simp only[Qd,Qe,Qf,Qg,Qh,Qa,Qi])
      refine late_late (i:=2) (v:= ?_) rfl (by kernel_rfl) (by kernel_rfl) (by kernel_rfl) (by decide) hSM (fun _ _ _ h=>h) hL (Or.inl ⟨by rfl,?_⟩) (fun _=>hrd) (fun hL'=> ?_)
      rotate_left
      ·intro y hy;clear hy;go_simp;(try with_reducible rfl)
      clear hL;rename Shutb _ _=>hL
      (try simp only[Qd,Qe,Qf,Qg,Qh,Qa,Qi])
      refine late_late (i:=3) (v:= ?_) rfl (by kernel_rfl) (by kernel_rfl) (by kernel_rfl) (by decide) hSM (fun _ _ _ h=>h) hL (Or.inl ⟨by rfl,?_⟩) (fun _=>hrd) (fun hL'=> ?_)
      rotate_left
      ·intro y hy;clear hy;go_simp;(try with_reducible rfl)
      clear hL;rename Shutb _ _=>hL
      (try simp only[Qd,Qe,Qf,Qg,Qh,Qa,Qi])
      refine late_late (i:=4) (v:= ?_) rfl (by kernel_rfl) (by kernel_rfl) (by kernel_rfl) (by decide) hSM (fun _ _ _ h=>h) hL (Or.inl ⟨by rfl,?_⟩) (fun _=>hrd) (fun hL'=> ?_)
      rotate_left
      ·intro y hy;clear hy;go_simp;(try with_reducible rfl)
      clear hL;rename Shutb _ _=>hL
      (try simp only[Qd,Qe,Qf,Qg,Qh,Qa,Qi])
      refine late_one (i:=14) (by kernel_rfl) hL (fun hL'=> ?_)
      refine wpOp_step rfl (fun K hK0=> ?_)
      have hK:Shut _:=hK0
      clear hK0
      go_simp
      refine hK.out _ _ ⟨fun _=>hrd,?_⟩
      clear hK K;clear hL;rename Shutb _ _=>hL
      (try simp only[Qd,Qe,Qf,Qg,Qh,Qa,Qi])
      have hpl:=(show p<(P++x::(Q++y::Z)).length by have:=HPQ.out.1;simp;omega)
      have hql:=(show q<(P++x::(Q++y::Z)).length by have:=HPQ.out.2.2;simp;omega)
      obtain⟨d1,d2⟩:=atSt (P:=P++x::Q) (by simpa using hrow) HPQ.out.2.1
      have d3:=RowB.free hrow
      have d4:=RowB.lt hrow
      refine late_one (i:=15) (by kernel_rfl) hL (fun hL'=> ?_)
      refine wpOp_step rfl (fun K hK0=> ?_)
      have hK:Shut _:=hK0
      clear hK0
      go_simp
      refine hK.out _ _ ⟨fun e=>absurd (e:true=false) (by decide),?_⟩
      clear hK K;clear hL;rename Shutb _ _=>hL
      (try simp only[Qd,Qe,Qf,Qg,Qh,Qa,Qi])
      clear d1 d3 d4 d2
      have hO1:=hO.set (a:=⟨g,q*2,none⟩) (.inl rfl) (.int .i64 x.1) |>.set (a:=⟨g,q*2+1,none⟩) (.inl rfl) (.int .i64 x.2)
      have hr1:=RowB.set_two hrow q hql x
      obtain⟨wm,hwm⟩:∃wm,((wq.setCell ⟨g,q*2,none⟩ (.int .i64 x.1)).setCell ⟨g,q*2+1,none⟩ (.int .i64 x.2))=wm:=⟨_,rfl⟩
      rw[hwm]at hr1 hO1 ⊢
      clear hwm
      have hr1':=hr1
      rw[show P++x::(Q++y::Z)=(P++x::Q)++y::Z by simp,set_at (P++x::Q) Z y x HPQ.out.2.1,show(P++x::Q)++x::Z=P++x::(Q++x::Z) by simp]at hr1'
      obtain⟨d1,d2⟩:=atSt hr1' HPQ.out.1
      have d3:=RowB.free hr1
      have d4:=RowB.lt hr1
      refine late_one (i:=16) (by kernel_rfl) hL (fun hL'=> ?_)
      refine wpOp_step rfl (fun K hK0=> ?_)
      have hK:Shut _:=hK0
      clear hK0
      go_simp
      refine hK.out _ _ ⟨fun e=>absurd (e:true=false) (by decide),?_⟩
      clear hK K;clear hL;rename Shutb _ _=>hL
      (try simp only[Qd,Qe,Qf,Qg,Qh,Qa,Qi])
      refine late_one (i:=17) (by kernel_rfl) hL (fun hL'=> ?_)
      refine wpOp_step rfl (fun K hK0=> ?_)
      have hK:Shut _:=hK0
      clear hK0
      go_simp
      refine hK.out _ _ ⟨fun e=>absurd (e:true=false) (by decide),?_⟩
      clear hK K;clear hL;rename Shutb _ _=>hL
      (try simp only[Qd,Qe,Qf,Qg,Qh,Qa,Qi])
      refine late_done (by kernel_rfl) ?_
      (try dsimp only[Exit.then])
      clear d1 d3 d4 d2 hr1'
      have hr2:=RowB.set_two hr1 p (by simpa using hpl) y
      rw[List.set_comm _ _ (by have:=HPQ.out.1;have:=HPQ.out.2.2;omega),S.swap_set P Q Z x y p q HPQ.out.1 HPQ.out.2.2]at hr2
      have hO2:=hO1.set (a:=⟨g,p*2,none⟩) (.inl rfl) (.int .i64 y.1) |>.set (a:=⟨g,p*2+1,none⟩) (.inl rfl) (.int .i64 y.2)
      go_wp2
      go_roundw
      case rel=>exact⟨Z0,x::Z2,p,by rw[← HZ.out];simp,by have:=HP0.out;omega,by go_num,by rw[← HPP.out,←HQQ.out,←HZZ.out,List.append_assoc]at hr2;exact RowB.move hr2 rfl,fun u hu=>by(rcases List.mem_cons.1 hu with rfl|hu;exact HOXY.out;exact HB2.out u hu),hO2.ext ((Qn _).drew)⟩
      case measure=>simp[intOf];omega
     ·have HOXY:Hid (S.Ord key rank x y):=(S.ord_lt HRX2.out).2 (fun h=>hneg (HCD.out.2 h))
      have HNEG:=Qb hneg
      clear hneg
      go_wp2
      refine wp_region_ext 17 (fun _ _ d _ _ h=>by cases d<;>exact h) (by kernel_rfl) (by kernel_rfl) (by kernel_rfl) (by kernel_rfl) ?_
      simp only[Qj,Qk,Ql,Qm]
      obtain⟨hqa,hqa2⟩:=HQA.out
      have hneg:=HNEG.out
      repeat(any_goals(first|go_big_quiet_step((go_at_call 127;exact ext_quiet (HCC.out _ (hK _ _ hKw (hO.ext (by(with_reducible(repeat(first|exact Qn _|assumption|apply Qo|apply Qp|exact ext_plus _ _|(apply Qq;rotate_left;(simp<;>omega))|(apply Qr;rotate_left;exact ext_plus _ _)|(apply Qr;rotate_left;assumption))))))))))|quiet_step((go_at_call 127;exact ext_quiet (HCC.out _ (hK _ _ hKw (hO.ext (by(with_reducible(repeat(first|exact Qn _|assumption|apply Qo|apply Qp|exact ext_plus _ _|(apply Qq;rotate_left;(simp<;>omega))|(apply Qr;rotate_left;exact ext_plus _ _)|(apply Qr;rotate_left;assumption))))))))))))
      all_goals(refine wpQuiet_nil ?_;intro wq hEq)
      unfold wpList
      clear d1 e1 d2 e2 hqa hqa2
      have hdc:decide (c<0)=false:=decide_eq_false (by omega)
      have hge:0≤c:=by omega
      go_wp2
      go_roundw
      case rel =>
       have hz:=HZ.out
       refine⟨k+1,(Z0++[x])++y::Z2,i+1,by omega,by omega,by go_num,by have:=HIK.out;omega,?_,S.srt_insert (by rw[hz];exact HSR.out) (S.before_last (S.ord_trans key rank) (by have h:=HSR.out;rw[← hz]at h;exact(List.pairwise_append.1 h).1) HOXY.out) HB2.out,?_,hO.ext hEq⟩
       ·rw[HTK.out]
        refine List.perm_middle.trans ?_
        rw[hz]
        exact((HPM.out.cons y).trans (List.perm_append_singleton y _).symm)
       ·have hr:=RowB.ext HROW.out hEq
        rw[HRR.out]
        simpa using hr
      case measure=>simp[intOf];omega
  ·have hkX:k=X.length∨k=X.length+1:=by omega
   have hT:X.take k=X:=List.take_of_length_le (by omega)
   have hDD:X.drop k=[]:=List.drop_eq_nil_of_le (by omega)
   rw[hT]at hpm
   rw[hDD]at hrow
   have hnb:¬i<b:=by omega
   have HPM:=Qb hpm
   clear ha hb hNl hkX hik hk hk1 hlt
   go_wp2
   go_end0
   exact⟨rfl,V,HPM.out,hsr,by simpa using hrow,hO⟩
end Go.Proofs.YtgloajbgphcloaaGreat.Cl
namespace Go.Proofs.YtgloajbgphcloaaGreat.Cl
set_option linter.unusedVariables false
set_option linter.unusedSimpArgs false
open Go.RowKit
open Act renaming put → Qd
open Ext renaming alloc → Qo, drew → Qp, refl → Qn, setCell → Qq, trans → Qr
open IntWalk renaming i64_in → Qu
open Lib renaming hid → Qb
open List renaming drop_succ_cons → Ql, drop_zero → Qm, getElem_cons_succ → Qg, getElem_cons_zero → Qf, getElem_mem → Qv, getElem_toArray → Qe, setIfInBounds_toArray → Qh, set_cons_succ → Qi, set_cons_zero → Qa, take_succ_cons → Qj, take_succ_eq_append_getElem → Qc, take_zero → Qk
open Nat renaming le_refl → Qt, zero_le → Qs
set_option maxRecDepth 100000 in
set_option maxHeartbeats 16000000 in
theorem symXSt (g:Nat) (bc:Nat) (key:Int×Int→Int) (rank:Int×Int→Nat) (D:Int×Int→Prop) (K:World→Prop) (hK:∀w w',K w→Off g w w'→K w') (hD:∀x,D x→ -1000000000≤key x∧key x≤1000000000)
  (HC:∀w' x y,K w'→D x→D y→Calls Tryz.prog 127 #[.agg #[.int .i64 x.1,.int .i64 x.2],.agg #[.int .i64 y.1,.int .i64 y.2],.pointer (some ⟨bc,0,none⟩)] w' fun e w2=>e= .returned (.int .i64 (key x - key y))∧Ext w' w2)
  (A X Y B:List (Int×Int)) (cap a m b N:Nat) (w:World) (hKw:K w) (hDX:∀x∈X,D x) (hDY:∀y∈Y,D y) (hSX:S.Srt (S.Ord key rank) X) (hSY:S.Srt (S.Ord key rank) Y) (hrk:∀x∈X,∀y∈Y,rank x<rank y)
  (ha:a=A.length) (hm:m=A.length+X.length) (hb:b=A.length+X.length+Y.length) (hX1:X.length=1) (hY0:0<Y.length)
  (hN:N=(A++(X++(Y++B))).length) (hsz:N≤1000000) (h:RowB storeC 2 176 w g (A++(X++(Y++B)))) :
  Calls Tryz.prog 233 #[.slice (some ⟨g,0,none⟩) N cap,.int .i64 a,.int .i64 m,.int .i64 b,.func (.func 127) #[] #[.pointer (some ⟨bc,0,none⟩)]] w fun e w'=>e= .returned (.tuple #[])∧∃Z,Z.Perm (X++Y)∧S.Srt (S.Ord key rank) Z∧RowB storeC 2 176 w' g (A++(Z++B))∧Off g w w':=by
 obtain⟨x,rfl⟩:∃x,X=[x]:=by
  match X,hX1 with
  | [x],_=>exact⟨x,rfl⟩
 have hNl:N=A.length+1+Y.length+B.length:=by rw[hN];simp;omega
 have hm':m=a+1:=by simp at hm;omega
 have hb':b=a+1+Y.length:=by simp at hb;omega
 have hma:(m:Int) - (a:Int)=1:=by omega
 have hbN:b≤N:=by omega
 have hmN:m<N:=by omega
 have haN:a<N:=by omega
 have hDx:=hDX x (by simp)
 have hrx:∀y∈Y,rank x<rank y:=fun y hy=>hrk x (by simp) y hy
 have HCM:=Qb HC
 have HF:=Qb (And.intro ha (And.intro hm' (And.intro hb' hNl)))
 have H:=Qb h
 have HDY:=Qb hDY
 have HSY:=Qb hSY
 have HRK:=Qb hrx
 have hpc:=plus_cell
 clear HC hDX hDY hSX hSY hrk hrx ha hm hb hN hNl h hm' hb' hX1
 go_enter Tryz.func233,Tryz.ntmps233
 go_wp2
 go_loopw [10,11,12] (fun vi vj _ wr=>∃u v i j:Nat,u≤v∧v≤Y.length∧vi= .int .i64 i∧vj= .int .i64 j∧i=m+u∧j=m+v∧(∀ t (ht:t<Y.length),t<u→S.Ord key rank Y[t] x)∧(∀ t (ht:t<Y.length),v≤t→S.Ord key rank x Y[t])∧Ext w wr) (fun vi vj _ _=>(intOf vj).toNat - (intOf vi).toNat)
 case atStart=>exact⟨0,Y.length,m,b,Qs _,Qt _,rfl,rfl,rfl,by have:=HF.out;omega,fun t ht h=>by omega,fun t ht h=>by omega,Qn _⟩
 case round =>
  rename World=>wr
  obtain⟨u,v,i,j,huv,hv,rfl,rfl,hi,hj,hlo,hhi,hEr⟩:=hrel
  have HLO:=Qb hlo
  have HHI:=Qb hhi
  by_cases hlt:u<v
  ·obtain⟨t,ht⟩:∃t,(u+v)/2=t:=⟨_,rfl⟩
   obtain⟨q,hq⟩:∃q,m+t=q:=⟨_,rfl⟩
   have htu:u≤t∧t<v:=by omega
   have htY:t<Y.length:=by omega
   obtain⟨ha,hm,hb,hNl⟩:=HF.out
   have hqN:q<N:=by omega
   have hij:i+j=2*q∨i+j=2*q+1:=by omega
   have hijl:i<j:=by omega
   have hi6:i≤1000000:=by omega
   have hj6:j≤1000000:=by omega
   have HIJ:=Qb (And.intro hi hj)
   clear hi hj ht ha hm hb hNl hlo hhi
   have hqi:((i:Int)+(j:Int))/2=(q:Int):=by omega
   have hqN':(q:Int)<(N:Int):=by omega
   have hwq:IntKind.wrap .i64 (q:Int)=q:=Qu _ (by omega)
   have haN':(a:Int)<(N:Int):=by omega
   have hDy:=HDY.out _ (Qv htY)
   have hry:=HRK.out _ (Qv htY)
   have hs:Y=Y.take t++Y[t]::Y.drop (t+1):=by rw[← List.drop_eq_getElem_cons htY,List.take_append_drop]
   have hla:=S.low_all (S.ord_trans key rank) HSY.out htY (x:=x)
   have hha:=S.high_all (S.ord_trans key rank) HSY.out htY (x:=x)
   obtain⟨y,hy⟩:∃y,Y[t]=y:=⟨_,rfl⟩
   rw[hy]at hDy hry hs hla hha
   have hrow:=RowB.ext H.out hEr
   have hrow2:RowB storeC 2 176 wr g ((A++([x]++Y.take t))++y::(Y.drop (t+1)++B)):=by
    have e:(A++([x]++Y.take t))++y::(Y.drop (t+1)++B)=A++([x]++((Y.take t++y::Y.drop (t+1))++B)):=by simp
    rw[e,←hs];exact hrow
   have hql:q=(A++([x]++Y.take t)).length:=by simp;have:=HF.out.1;have:=HF.out.2.1;omega
   have hgl:=RowB.lt hrow
   obtain⟨d1,d2⟩:=atSt hrow2 hql
   obtain⟨e1,e2⟩:=atSt (Z:=Y++B) (by simpa using hrow) HF.out.1
   have hcc:=fun w' (hk:K w')=>HCM.out w' y x hk hDy hDx
   obtain⟨c,hc⟩:∃c,key y - key x=c:=⟨_,rfl⟩
   simp only[hc]at hcc
   have HCC:=Qb hcc
   have HCD:=Qb (show c<0↔key y<key x by omega)
   have HLA:=Qb hla
   have HHA:=Qb hha
   have HRY:=Qb hry
   have HIT:=Qb (And.intro hq htu)
   clear hcc hc hla hha hry hs hrow hrow2 hql hDy hy hq htY
   by_cases hneg:c<0
   ·have HO:Hid (S.Ord key rank y x):= .inl (HCD.out.1 hneg)
    have HNEG:=Qb hneg
    clear hneg
    go_upto_region 5 with(fail)
    refine wp_region_ext 11 (fun _ _ d _ _ h=>by cases d<;>exact h) (by kernel_rfl) (by kernel_rfl) (by kernel_rfl) (by kernel_rfl) ?_
    simp only[Qj,Qk,Ql,Qm]
    have hneg:=HNEG.out
    repeat(any_goals(first|go_big_quiet_step((go_at_call 127;exact ext_quiet (HCC.out _ (hK _ _ hKw (Ext.off (hEr.trans (by(with_reducible(repeat(first|exact Qn _|assumption|apply Qo|apply Qp|exact ext_plus _ _|(apply Qq;rotate_left;(simp<;>omega))|(apply Qr;rotate_left;exact ext_plus _ _)|(apply Qr;rotate_left;assumption)))))) g)))))|quiet_step((go_at_call 127;exact ext_quiet (HCC.out _ (hK _ _ hKw (Ext.off (hEr.trans (by(with_reducible(repeat(first|exact Qn _|assumption|apply Qo|apply Qp|exact ext_plus _ _|(apply Qq;rotate_left;(simp<;>omega))|(apply Qr;rotate_left;exact ext_plus _ _)|(apply Qr;rotate_left;assumption)))))) g)))))))
    all_goals(refine wpQuiet_nil ?_;intro wq hEq)
    unfold wpList
    clear d1 e1 d2 e2
    go_wp2
    go_roundw
    case rel=>exact⟨t+1,v,q+1,j,by have:=HIT.out.2;omega,hv,by go_num,rfl,by have:=HIT.out.1;omega,HIJ.out.2,HLA.out HO.out,HHI.out,hEr.trans hEq⟩
    case measure=>simp[intOf];omega
   ·have HO:Hid (S.Ord key rank x y):=(S.ord_lt HRY.out).2 (fun h=>hneg (HCD.out.2 h))
    have HNEG:=Qb hneg
    clear hneg
    go_upto_region 5 with(fail)
    refine wp_region_ext 11 (fun _ _ d _ _ h=>by cases d<;>exact h) (by kernel_rfl) (by kernel_rfl) (by kernel_rfl) (by kernel_rfl) ?_
    simp only[Qj,Qk,Ql,Qm]
    have hneg:=HNEG.out
    repeat(any_goals(first|go_big_quiet_step((go_at_call 127;exact ext_quiet (HCC.out _ (hK _ _ hKw (Ext.off (hEr.trans (by(with_reducible(repeat(first|exact Qn _|assumption|apply Qo|apply Qp|exact ext_plus _ _|(apply Qq;rotate_left;(simp<;>omega))|(apply Qr;rotate_left;exact ext_plus _ _)|(apply Qr;rotate_left;assumption)))))) g)))))|quiet_step((go_at_call 127;exact ext_quiet (HCC.out _ (hK _ _ hKw (Ext.off (hEr.trans (by(with_reducible(repeat(first|exact Qn _|assumption|apply Qo|apply Qp|exact ext_plus _ _|(apply Qq;rotate_left;(simp<;>omega))|(apply Qr;rotate_left;exact ext_plus _ _)|(apply Qr;rotate_left;assumption)))))) g)))))))
    all_goals(refine wpQuiet_nil ?_;intro wq hEq)
    unfold wpList
    clear d1 e1 d2 e2
    have hdc:decide (c<0)=false:=decide_eq_false (by omega)
    have hge:0≤c:=by omega
    go_wp2
    go_roundw
    case rel=>exact⟨u,t,i,q,HIT.out.2.1,by have:=HIT.out.2;omega,rfl,by go_num,HIJ.out.1,HIT.out.1.symm,HLO.out,HHA.out HO.out,hEr.trans hEq⟩
    case measure=>simp[intOf];omega
  ·obtain rfl:u=v:=by omega
   have hji:j=i:=by omega
   subst hji
   obtain⟨e,he⟩:∃e,a+u=e:=⟨_,rfl⟩
   have hie:(j:Int) - 1=(e:Int):=by have:=HF.out.2.1;omega
   have heN:e<N:=by have:=HF.out;omega
   have hrow:RowB storeC 2 176 wr g (A++(Y.take 0++x::(Y.drop 0++B))):=by simpa using RowB.ext H.out hEr
   have HIJ:=Qb (And.intro hi he)
   clear hi hj hlo hhi he
   go_wp2
   go_loopw [13] (fun vk wz=>∃t p:Nat,t≤u∧vk= .int .i64 p∧p=a+t∧RowB storeC 2 176 wz g (A++(Y.take t++x::(Y.drop t++B)))∧Off g w wz) (fun vk _=>e - (intOf vk).toNat)
   case atStart=>exact⟨0,a,Qs _,rfl,rfl,hrow,hEr.off g⟩
   case round =>
    rename World=>wz
    clear hrow
    obtain⟨t,p,htu,rfl,hpt,hrow,hO⟩:=hrel
    by_cases hlt2:t<u
    ·have htY:t<Y.length:=by omega
     obtain⟨q,hq⟩:∃q,p+1=q:=⟨_,rfl⟩
     have hpe:p<e:=by have:=HIJ.out.2;omega
     have hpe':(p:Int)<(e:Int):=by omega
     obtain⟨y,hy⟩:∃y,Y[t]=y:=⟨_,rfl⟩
     have hd:=List.drop_eq_getElem_cons htY
     have htk:=Qc htY
     rw[hy]at hd htk
     obtain⟨P,hP⟩:∃P,A++Y.take t=P:=⟨_,rfl⟩
     obtain⟨Q,hQ⟩:∃Q:List (Int×Int),[]=Q:=⟨_,rfl⟩
     obtain⟨Z,hZ⟩:∃Z,Y.drop (t+1)++B=Z:=⟨_,rfl⟩
     have e1:A++(Y.take t++x::(Y.drop t++B))=P++x::(Q++y::Z):=by rw[hd,←hP,←hQ,←hZ];simp
     have e2:P++y::(Q++x::Z)=A++(Y.take (t+1)++x::(Y.drop (t+1)++B)):=by rw[htk,←hP,←hQ,←hZ];simp
     rw[e1]at hrow
     have hPl:p=P.length:=by rw[← hP];simp;have:=HF.out.1;omega
     have hQl:Q.length=0:=by rw[← hQ];rfl
     have HE2:=Qb e2
     have HPQ:=Qb (And.intro hPl (And.intro (show q=(P++x::Q).length by simp;omega) (show q=P.length+1+Q.length by omega)))
     have hqi:(p:Int)+1=(q:Int):=by omega
     have hqN:q<N:=by have:=HF.out;have:=HIJ.out;omega
     have hpN:p<N:=by omega
     have hwp:IntKind.wrap .i64 (p:Int)=p:=Qu _ (by omega)
     have hwq:IntKind.wrap .i64 (q:Int)=q:=Qu _ (by omega)
     have hpN':(p:Int)<(N:Int):=by omega
     have hqN':(q:Int)<(N:Int):=by omega
     have HPT:=Qb (And.intro hpt hq)
     clear hpt hd htk hy hP hQ hZ e1 e2 hPl hQl hq htY
     go_upto_region 11 with(fail)
     have hrd:RowB storeC 2 176 wz.drew g (P++x::(Q++y::Z)):=RowB.move hrow rfl
     have hSM:∀z,(fun c z=>c=false→RowB storeC 2 176 z g (P++x::(Q++y::Z))) false z→(fun c z=>c=false→RowB storeC 2 176 z g (P++x::(Q++y::Z))) true z:=fun z _ e=>absurd (e:true=false) (by decide)
     refine wp_region_late 15 (fun c z=>c=false→RowB storeC 2 176 z g (P++x::(Q++y::Z))) (by kernel_rfl) (fun hL=> ?_)
     refine late_early (i:=0) (v:= ?_) rfl (by kernel_rfl) (by kernel_rfl) (by kernel_rfl) (by decide) (by kernel_rfl) (fun _ _ _ h=>h) hL (Or.inl ⟨by rfl,?_⟩) (fun _=>hrd) (fun hL'=> ?_)
     rotate_left
     ·intro y hy;clear hy;go_simp;(try with_reducible rfl)
     clear hL;rename Shutb _ _=>hL
     (try simp only[Qd,Qe,Qf,Qg,Qh,Qa,Qi])
     refine late_early (i:=1) (v:= ?_) rfl (by kernel_rfl) (by kernel_rfl) (by kernel_rfl) (by decide) (by kernel_rfl) (fun _ _ _ h=>h) hL (Or.inl ⟨by rfl,?_⟩) (fun _=>hrd) (fun hL'=> ?_)
     rotate_left
     ·intro y hy;clear hy;go_simp;(try with_reducible rfl)
     clear hL;rename Shutb _ _=>hL
     (try simp only[Qd,Qe,Qf,Qg,Qh,Qa,Qi])
     refine late_early (i:=5) (v:= ?_) rfl (by kernel_rfl) (by kernel_rfl) (by kernel_rfl) (by decide) (by kernel_rfl) (fun _ _ _ h=>h) hL (Or.inl ⟨by rfl,?_⟩) (fun _=>hrd) (fun hL'=> ?_)
     rotate_left
     ·intro y hy;clear hy;go_simp;(try with_reducible rfl)
     clear hL;rename Shutb _ _=>hL
     (try simp only[Qd,Qe,Qf,Qg,Qh,Qa,Qi])
     refine late_early (i:=6) (v:= ?_) rfl (by kernel_rfl) (by kernel_rfl) (by kernel_rfl) (by decide) (by kernel_rfl) (fun _ _ _ h=>h) hL (Or.inl ⟨by rfl,?_⟩) (fun _=>hrd) (fun hL'=> ?_)
     rotate_left
     ·intro y hy;clear hy;go_simp;(try with_reducible rfl)
     clear hL;rename Shutb _ _=>hL
     (try simp only[Qd,Qe,Qf,Qg,Qh,Qa,Qi])
     refine late_early (i:=7) (v:= ?_) rfl (by kernel_rfl) (by kernel_rfl) (by kernel_rfl) (by decide) (by kernel_rfl) (fun _ _ _ h=>h) hL (Or.inl ⟨by rfl,?_⟩) (fun _=>hrd) (fun hL'=> ?_)
     rotate_left
     ·intro y hy;clear hy;go_simp;(try with_reducible rfl)
     clear hL;rename Shutb _ _=>hL
     (try simp only[Qd,Qe,Qf,Qg,Qh,Qa,Qi])
     refine late_early (i:=8) (v:= ?_) rfl (by kernel_rfl) (by kernel_rfl) (by kernel_rfl) (by decide) (by kernel_rfl) (fun _ _ _ h=>h) hL (Or.inl ⟨by rfl,?_⟩) (fun _=>hrd) (fun hL'=> ?_)
     rotate_left
     ·intro y hy;clear hy;go_simp;(try with_reducible rfl)
     clear hL;rename Shutb _ _=>hL
     (try simp only[Qd,Qe,Qf,Qg,Qh,Qa,Qi])
     refine late_early (i:=9) (v:= ?_) rfl (by kernel_rfl) (by kernel_rfl) (by kernel_rfl) (by decide) (by kernel_rfl) (fun _ _ _ h=>h) hL (Or.inl ⟨by rfl,?_⟩) (fun _=>hrd) (fun hL'=> ?_)
     rotate_left
     ·intro y hy;have hz:=hy rfl;clear hy;obtain⟨g1,g2⟩:=atSt (P:=P++x::Q) (by simpa using hz) HPQ.out.2.1;have g3:=RowB.lt hz;go_simp;(try with_reducible rfl)
     clear hL;rename Shutb _ _=>hL
     (try simp only[Qd,Qe,Qf,Qg,Qh,Qa,Qi])
     refine late_early (i:=10) (v:= ?_) rfl (by kernel_rfl) (by kernel_rfl) (by kernel_rfl) (by decide) (by kernel_rfl) (fun _ _ _ h=>h) hL (Or.inl ⟨by rfl,?_⟩) (fun _=>hrd) (fun hL'=> ?_)
     rotate_left
     ·intro y hy;clear hy;go_simp;(try with_reducible rfl)
     clear hL;rename Shutb _ _=>hL
     (try simp only[Qd,Qe,Qf,Qg,Qh,Qa,Qi])
     refine late_early (i:=11) (v:= ?_) rfl (by kernel_rfl) (by kernel_rfl) (by kernel_rfl) (by decide) (by kernel_rfl) (fun _ _ _ h=>h) hL (Or.inl ⟨by rfl,?_⟩) (fun _=>hrd) (fun hL'=> ?_)
     rotate_left
     ·intro y hy;clear hy;go_simp;(try with_reducible rfl)
     clear hL;rename Shutb _ _=>hL
     (try simp only[Qd,Qe,Qf,Qg,Qh,Qa,Qi])
     refine late_early (i:=12) (v:= ?_) rfl (by kernel_rfl) (by kernel_rfl) (by kernel_rfl) (by decide) (by kernel_rfl) (fun _ _ _ h=>h) hL (Or.inl ⟨by rfl,?_⟩) (fun _=>hrd) (fun hL'=> ?_)
     rotate_left
     ·intro y hy;clear hy;go_simp;(try with_reducible rfl)
     clear hL;rename Shutb _ _=>hL
     (try simp only[Qd,Qe,Qf,Qg,Qh,Qa,Qi])
     refine late_early (i:=13) (v:= ?_) rfl (by kernel_rfl) (by kernel_rfl) (by kernel_rfl) (by decide) (by kernel_rfl) (fun _ _ _ h=>h) hL (Or.inl ⟨by rfl,?_⟩) (fun _=>hrd) (fun hL'=> ?_)
     rotate_left
     ·intro y hy;have hz:=hy rfl;clear hy;obtain⟨g1,g2⟩:=atSt hz HPQ.out.1;have g3:=RowB.lt hz;go_simp;(try with_reducible rfl)
     clear hL;rename Shutb _ _=>hL
     (try simp only[Qd,Qe,Qf,Qg,Qh,Qa,Qi])
     refine late_late (i:=2) (v:= ?_) rfl (by kernel_rfl) (by kernel_rfl) (by kernel_rfl) (by decide) hSM (fun _ _ _ h=>h) hL (Or.inl ⟨by rfl,?_⟩) (fun _=>hrd) (fun hL'=> ?_)
     rotate_left
     ·intro y hy;clear hy;go_simp;(try with_reducible rfl)
     clear hL;rename Shutb _ _=>hL
     (try simp only[Qd,Qe,Qf,Qg,Qh,Qa,Qi])
     refine late_late (i:=3) (v:= ?_) rfl (by kernel_rfl) (by kernel_rfl) (by kernel_rfl) (by decide) hSM (fun _ _ _ h=>h) hL (Or.inl ⟨by rfl,?_⟩) (fun _=>hrd) (fun hL'=> ?_)
     rotate_left
     ·intro y hy;clear hy;go_simp;(try with_reducible rfl)
     clear hL;rename Shutb _ _=>hL
     (try simp only[Qd,Qe,Qf,Qg,Qh,Qa,Qi])
     refine late_late (i:=4) (v:= ?_) rfl (by kernel_rfl) (by kernel_rfl) (by kernel_rfl) (by decide) hSM (fun _ _ _ h=>h) hL (Or.inl ⟨by rfl,?_⟩) (fun _=>hrd) (fun hL'=> ?_)
     rotate_left
     ·intro y hy;clear hy;go_simp;(try with_reducible rfl)
     clear hL;rename Shutb _ _=>hL
     (try simp only[Qd,Qe,Qf,Qg,Qh,Qa,Qi])
     refine late_one (i:=14) (by kernel_rfl) hL (fun hL'=> ?_)
     refine wpOp_step rfl (fun K hK0=> ?_)
     have hK:Shut _:=hK0
     clear hK0
     go_simp
     refine hK.out _ _ ⟨fun _=>hrd,?_⟩
     clear hK K;clear hL;rename Shutb _ _=>hL
     (try simp only[Qd,Qe,Qf,Qg,Qh,Qa,Qi])
     have hpl:=(show p<(P++x::(Q++y::Z)).length by have:=HPQ.out.1;simp;omega)
     have hql:=(show q<(P++x::(Q++y::Z)).length by have:=HPQ.out.2.2;simp;omega)
     obtain⟨d1,d2⟩:=atSt hrow HPQ.out.1
     have d3:=RowB.free hrow
     have d4:=RowB.lt hrow
     refine late_one (i:=15) (by kernel_rfl) hL (fun hL'=> ?_)
     refine wpOp_step rfl (fun K hK0=> ?_)
     have hK:Shut _:=hK0
     clear hK0
     go_simp
     refine hK.out _ _ ⟨fun e=>absurd (e:true=false) (by decide),?_⟩
     clear hK K;clear hL;rename Shutb _ _=>hL
     (try simp only[Qd,Qe,Qf,Qg,Qh,Qa,Qi])
     clear d1 d3 d4 d2
     have hO1:=hO.set (a:=⟨g,p*2,none⟩) (.inl rfl) (.int .i64 y.1) |>.set (a:=⟨g,p*2+1,none⟩) (.inl rfl) (.int .i64 y.2)
     have hr1:=RowB.set_two hrow p hpl y
     obtain⟨wm,hwm⟩:∃wm,((wz.setCell ⟨g,p*2,none⟩ (.int .i64 y.1)).setCell ⟨g,p*2+1,none⟩ (.int .i64 y.2))=wm:=⟨_,rfl⟩
     rw[hwm]at hr1 hO1 ⊢
     clear hwm
     have hr1':=hr1
     rw[set_at P (Q++y::Z) x y HPQ.out.1,show P++y::(Q++y::Z)=(P++y::Q)++y::Z by simp]at hr1'
     obtain⟨d1,d2⟩:=atSt hr1' (p:=q) (by simpa using HPQ.out.2.1)
     have d3:=RowB.free hr1
     have d4:=RowB.lt hr1
     refine late_one (i:=16) (by kernel_rfl) hL (fun hL'=> ?_)
     refine wpOp_step rfl (fun K hK0=> ?_)
     have hK:Shut _:=hK0
     clear hK0
     go_simp
     refine hK.out _ _ ⟨fun e=>absurd (e:true=false) (by decide),?_⟩
     clear hK K;clear hL;rename Shutb _ _=>hL
     (try simp only[Qd,Qe,Qf,Qg,Qh,Qa,Qi])
     refine late_one (i:=17) (by kernel_rfl) hL (fun hL'=> ?_)
     refine wpOp_step rfl (fun K hK0=> ?_)
     have hK:Shut _:=hK0
     clear hK0
     go_simp
     refine hK.out _ _ ⟨fun e=>absurd (e:true=false) (by decide),?_⟩
     clear hK K;clear hL;rename Shutb _ _=>hL
     (try simp only[Qd,Qe,Qf,Qg,Qh,Qa,Qi])
     refine late_done (by kernel_rfl) ?_
     (try dsimp only[Exit.then])
     clear d1 d3 d4 d2 hr1'
     have hr2:=RowB.set_two hr1 q (by simpa using hql) x
     rw[S.swap_set P Q Z x y p q HPQ.out.1 HPQ.out.2.2]at hr2
     have hO2:=hO1.set (a:=⟨g,q*2,none⟩) (.inl rfl) (.int .i64 x.1) |>.set (a:=⟨g,q*2+1,none⟩) (.inl rfl) (.int .i64 x.2)
     go_wp2
     go_roundw
     case rel=>exact⟨t+1,p+1,by omega,by go_num,by have:=HPT.out.1;omega,by rw[HE2.out]at hr2;exact RowB.move hr2 rfl,hO2.ext ((Qn _).drew)⟩
     case measure=>simp[intOf];omega
    ·obtain rfl:t=u:=by omega
     have hnp:¬(p:Int)<(e:Int):=by have:=HIJ.out.2;omega
     have hnp2:¬p<e:=by omega
     have HH:=Qb hrow
     clear hpt hrow
     go_wp2
     refine bodyPost_ret (results_none rfl _ _ _) rfl ?_
     refine⟨rfl,Y.take t++x::Y.drop t,?_,?_,by simpa using HH.out,hO⟩
     ·refine List.perm_middle.trans ?_
      rw[List.take_append_drop]
      try exact List.Perm.refl _
     ·exact S.srt_insert (by rw[List.take_append_drop];exact HSY.out) (S.take_all HLO.out) (S.drop_all HHI.out)
set_option maxRecDepth 100000 in
set_option maxHeartbeats 16000000 in
theorem symYSt (g:Nat) (bc:Nat) (key:Int×Int→Int) (rank:Int×Int→Nat) (D:Int×Int→Prop) (K:World→Prop) (hK:∀w w',K w→Off g w w'→K w') (hD:∀x,D x→ -1000000000≤key x∧key x≤1000000000)
  (HC:∀w' x y,K w'→D x→D y→Calls Tryz.prog 127 #[.agg #[.int .i64 x.1,.int .i64 x.2],.agg #[.int .i64 y.1,.int .i64 y.2],.pointer (some ⟨bc,0,none⟩)] w' fun e w2=>e= .returned (.int .i64 (key x - key y))∧Ext w' w2)
  (A X Y B:List (Int×Int)) (cap a m b N:Nat) (w:World) (hKw:K w) (hDX:∀x∈X,D x) (hDY:∀y∈Y,D y) (hSX:S.Srt (S.Ord key rank) X) (hSY:S.Srt (S.Ord key rank) Y) (hrk:∀x∈X,∀y∈Y,rank x<rank y)
  (ha:a=A.length) (hm:m=A.length+X.length) (hb:b=A.length+X.length+Y.length) (hX1:1<X.length) (hY1:Y.length=1)
  (hN:N=(A++(X++(Y++B))).length) (hsz:N≤1000000) (h:RowB storeC 2 176 w g (A++(X++(Y++B)))) :
  Calls Tryz.prog 233 #[.slice (some ⟨g,0,none⟩) N cap,.int .i64 a,.int .i64 m,.int .i64 b,.func (.func 127) #[] #[.pointer (some ⟨bc,0,none⟩)]] w fun e w'=>e= .returned (.tuple #[])∧∃Z,Z.Perm (X++Y)∧S.Srt (S.Ord key rank) Z∧RowB storeC 2 176 w' g (A++(Z++B))∧Off g w w':=by
 obtain⟨y,rfl⟩:∃y,Y=[y]:=by
  match Y,hY1 with
  | [y],_=>exact⟨y,rfl⟩
 have hNl:N=A.length+X.length+1+B.length:=by rw[hN];simp;omega
 have hm':m=a+X.length:=by omega
 have hb':b=m+1:=by simp at hb;omega
 obtain⟨lx,hlx⟩:∃lx,X.length=lx:=⟨_,rfl⟩
 have hma:(m:Int) - (a:Int)=(lx:Int):=by omega
 have hlx1:((lx:Int) == 1)=false:=by simp;omega
 have hlx2:¬(lx:Int)=1:=by omega
 have hlx3:¬lx=1:=by omega
 have hbm:(b:Int) - (m:Int)=1:=by omega
 have hbN:b≤N:=by omega
 have hmN:m<N:=by omega
 have haN:a<N:=by omega
 have hDy:=hDY y (by simp)
 have hry:∀x∈X,rank x<rank y:=fun x hx=>hrk x hx y (by simp)
 have HCM:=Qb HC
 have HF:=Qb (And.intro ha (And.intro hm' (And.intro hb' (And.intro hNl hlx))))
 have H:=Qb h
 have HDX:=Qb hDX
 have HSX:=Qb hSX
 have HRK:=Qb hry
 have hpc:=plus_cell
 have hlxN:lx≤N:=by omega
 clear HC hDX hDY hSX hSY hrk hry ha hm hb hN hNl h hm' hb' hX1 hlx
 go_enter Tryz.func233,Tryz.ntmps233
 go_wp2
 go_loopw [14,15,16] (fun vi vj _ wr=>∃u v i j:Nat,u≤v∧v≤lx∧vi= .int .i64 i∧vj= .int .i64 j∧i=a+u∧j=a+v∧(∀ t (ht:t<X.length),t<u→S.Ord key rank X[t] y)∧(∀ t (ht:t<X.length),v≤t→S.Ord key rank y X[t])∧Ext w wr) (fun vi vj _ _=>(intOf vj).toNat - (intOf vi).toNat)
 case atStart=>exact⟨0,lx,a,m,Qs _,Qt _,rfl,rfl,rfl,by have:=HF.out;omega,fun t ht h=>by omega,fun t ht h=>by have:=HF.out.2.2.2.2;omega,Qn _⟩
 case round =>
  rename World=>wr
  obtain⟨u,v,i,j,huv,hv,rfl,rfl,hi,hj,hlo,hhi,hEr⟩:=hrel
  have HLO:=Qb hlo
  have HHI:=Qb hhi
  by_cases hlt:u<v
  ·obtain⟨t,ht⟩:∃t,(u+v)/2=t:=⟨_,rfl⟩
   obtain⟨q,hq⟩:∃q,a+t=q:=⟨_,rfl⟩
   have htu:u≤t∧t<v:=by omega
   have htX:t<X.length:=by have:=HF.out.2.2.2.2;omega
   obtain⟨ha,hm,hb,hNl,hlx⟩:=HF.out
   have hqN:q<N:=by omega
   have hij:i+j=2*q∨i+j=2*q+1:=by omega
   have hijl:i<j:=by omega
   have hi6:i≤1000000:=by omega
   have hj6:j≤1000000:=by omega
   have HIJ:=Qb (And.intro hi hj)
   clear hi hj ht ha hm hb hNl hlx hlo hhi
   have hqi:((i:Int)+(j:Int))/2=(q:Int):=by omega
   have hqN':(q:Int)<(N:Int):=by omega
   have hwq:IntKind.wrap .i64 (q:Int)=q:=Qu _ (by omega)
   have hmN':(m:Int)<(N:Int):=by omega
   have hDx:=HDX.out _ (Qv htX)
   have hrx:=HRK.out _ (Qv htX)
   have hs:X=X.take t++X[t]::X.drop (t+1):=by rw[← List.drop_eq_getElem_cons htX,List.take_append_drop]
   have hla:=S.low_all (S.ord_trans key rank) HSX.out htX (x:=y)
   have hha:=S.high_all (S.ord_trans key rank) HSX.out htX (x:=y)
   obtain⟨x,hx⟩:∃x,X[t]=x:=⟨_,rfl⟩
   rw[hx]at hDx hrx hs hla hha
   have hrow:=RowB.ext H.out hEr
   have hrow2:RowB storeC 2 176 wr g ((A++X.take t)++x::(X.drop (t+1)++([y]++B))):=by
    have e:(A++X.take t)++x::(X.drop (t+1)++([y]++B))=A++((X.take t++x::X.drop (t+1))++([y]++B)):=by simp
    rw[e,←hs];exact hrow
   have hql:q=(A++X.take t).length:=by simp;have:=HF.out.1;omega
   have hgl:=RowB.lt hrow
   obtain⟨d1,d2⟩:=atSt hrow2 hql
   obtain⟨e1,e2⟩:=atSt (P:=A++X) (Z:=B) (by simpa using hrow) (p:=m) (by simp;have:=HF.out;omega)
   have hcc:=fun w' (hk:K w')=>HCM.out w' y x hk hDy hDx
   obtain⟨c,hc⟩:∃c,key y - key x=c:=⟨_,rfl⟩
   simp only[hc]at hcc
   have HCC:=Qb hcc
   have HCD:=Qb (show c<0↔key y<key x by omega)
   have HLA:=Qb hla
   have HHA:=Qb hha
   have HRY:=Qb hrx
   have HIT:=Qb (And.intro hq htu)
   clear hcc hc hla hha hrx hs hrow hrow2 hql hDx hx hq htX
   by_cases hneg:c<0
   ·have HO:Hid (S.Ord key rank y x):= .inl (HCD.out.1 hneg)
    have HNEG:=Qb hneg
    clear hneg
    go_upto_region 17 with(fail)
    refine wp_region_ext 12 (fun _ _ d _ _ h=>by cases d<;>exact h) (by kernel_rfl) (by kernel_rfl) (by kernel_rfl) (by kernel_rfl) ?_
    simp only[Qj,Qk,Ql,Qm]
    have hneg:=HNEG.out
    have hdc:decide (c<0)=true:=decide_eq_true hneg
    repeat(any_goals(first|go_big_quiet_step((go_at_call 127;exact ext_quiet (HCC.out _ (hK _ _ hKw (Ext.off (hEr.trans (by(with_reducible(repeat(first|exact Qn _|assumption|apply Qo|apply Qp|exact ext_plus _ _|(apply Qq;rotate_left;(simp<;>omega))|(apply Qr;rotate_left;exact ext_plus _ _)|(apply Qr;rotate_left;assumption)))))) g)))))|quiet_step((go_at_call 127;exact ext_quiet (HCC.out _ (hK _ _ hKw (Ext.off (hEr.trans (by(with_reducible(repeat(first|exact Qn _|assumption|apply Qo|apply Qp|exact ext_plus _ _|(apply Qq;rotate_left;(simp<;>omega))|(apply Qr;rotate_left;exact ext_plus _ _)|(apply Qr;rotate_left;assumption)))))) g)))))))
    all_goals(refine wpQuiet_nil ?_;intro wq hEq)
    unfold wpList
    clear d1 e1 d2 e2
    go_wp2
    go_roundw
    case rel=>exact⟨u,t,i,q,HIT.out.2.1,by have:=HIT.out.2;omega,rfl,by go_num,HIJ.out.1,HIT.out.1.symm,HLO.out,HHA.out HO.out,hEr.trans hEq⟩
    case measure=>simp[intOf];omega
   ·have HO:Hid (S.Ord key rank x y):=(S.ord_lt HRY.out).2 (fun h=>hneg (HCD.out.2 h))
    have HNEG:=Qb hneg
    clear hneg
    go_upto_region 17 with(fail)
    refine wp_region_ext 12 (fun _ _ d _ _ h=>by cases d<;>exact h) (by kernel_rfl) (by kernel_rfl) (by kernel_rfl) (by kernel_rfl) ?_
    simp only[Qj,Qk,Ql,Qm]
    have hneg:=HNEG.out
    have hdc:decide (c<0)=false:=decide_eq_false hneg
    repeat(any_goals(first|go_big_quiet_step((go_at_call 127;exact ext_quiet (HCC.out _ (hK _ _ hKw (Ext.off (hEr.trans (by(with_reducible(repeat(first|exact Qn _|assumption|apply Qo|apply Qp|exact ext_plus _ _|(apply Qq;rotate_left;(simp<;>omega))|(apply Qr;rotate_left;exact ext_plus _ _)|(apply Qr;rotate_left;assumption)))))) g)))))|quiet_step((go_at_call 127;exact ext_quiet (HCC.out _ (hK _ _ hKw (Ext.off (hEr.trans (by(with_reducible(repeat(first|exact Qn _|assumption|apply Qo|apply Qp|exact ext_plus _ _|(apply Qq;rotate_left;(simp<;>omega))|(apply Qr;rotate_left;exact ext_plus _ _)|(apply Qr;rotate_left;assumption)))))) g)))))))
    all_goals(refine wpQuiet_nil ?_;intro wq hEq)
    unfold wpList
    clear d1 e1 d2 e2
    have hdc2:decide (c<0)=false:=decide_eq_false (by omega)
    have hge:0≤c:=by omega
    go_wp2
    go_roundw
    case rel=>exact⟨t+1,v,q+1,j,by have:=HIT.out.2;omega,hv,by go_num,rfl,by have:=HIT.out.1;omega,HIJ.out.2,HLA.out HO.out,HHI.out,hEr.trans hEq⟩
    case measure=>simp[intOf];omega
  ·obtain rfl:u=v:=by omega
   have hji:j=i:=by omega
   subst hji
   have hrow:RowB storeC 2 176 wr g (A++(X.take lx++y::(X.drop lx++B))):=by
    rw[List.take_of_length_le (by have:=HF.out.2.2.2.2;omega),List.drop_eq_nil_of_le (by have:=HF.out.2.2.2.2;omega)]
    simpa using RowB.ext H.out hEr
   have hjN:j≤N:=by have:=HF.out;omega
   have HIJ:=Qb hi
   clear hi hj hlo hhi
   go_wp2
   go_loopw [17] (fun vk wz=>∃t p:Nat,u≤t∧t≤lx∧vk= .int .i64 p∧p=a+t∧RowB storeC 2 176 wz g (A++(X.take t++y::(X.drop t++B)))∧Off g w wz) (fun vk _=>(intOf vk).toNat)
   case atStart=>exact⟨lx,m,hv,Qt _,rfl,by have:=HF.out;omega,hrow,hEr.off g⟩
   case round =>
    rename World=>wz
    clear hrow
    obtain⟨t0,q,htu,htl,rfl,hpt,hrow,hO⟩:=hrel
    by_cases hlt2:u<t0
    ·obtain⟨t,rfl⟩:∃t,t0=t+1:=⟨t0 - 1,by omega⟩
     have htX:t<X.length:=by have:=HF.out.2.2.2.2;omega
     obtain⟨p,hp⟩:∃p,a+t=p:=⟨_,rfl⟩
     have hqp:q=p+1:=by omega
     have hjq:j<q:=by have:=HIJ.out;omega
     have hjq':(j:Int)<(q:Int):=by omega
     obtain⟨x,hx⟩:∃x,X[t]=x:=⟨_,rfl⟩
     have hd:=List.drop_eq_getElem_cons htX
     have htk:=Qc htX
     rw[hx]at hd htk
     obtain⟨P,hP⟩:∃P,A++X.take t=P:=⟨_,rfl⟩
     obtain⟨Q,hQ⟩:∃Q:List (Int×Int),[]=Q:=⟨_,rfl⟩
     obtain⟨Z,hZ⟩:∃Z,X.drop (t+1)++B=Z:=⟨_,rfl⟩
     have e1:A++(X.take (t+1)++y::(X.drop (t+1)++B))=P++x::(Q++y::Z):=by rw[htk,←hP,←hQ,←hZ];simp
     have e2:P++y::(Q++x::Z)=A++(X.take t++y::(X.drop t++B)):=by rw[hd,←hP,←hQ,←hZ];simp
     rw[e1]at hrow
     have hPl:p=P.length:=by rw[← hP];simp;have:=HF.out.1;omega
     have hQl:Q.length=0:=by rw[← hQ];rfl
     have HE2:=Qb e2
     have HPQ:=Qb (And.intro hPl (And.intro (show q=(P++x::Q).length by simp;omega) (show q=P.length+1+Q.length by omega)))
     have hpi:(q:Int) - 1=(p:Int):=by omega
     have hqN:q<N:=by have:=HF.out;have:=HIJ.out;omega
     have hpN:p<N:=by omega
     have hwp:IntKind.wrap .i64 (p:Int)=p:=Qu _ (by omega)
     have hwq:IntKind.wrap .i64 (q:Int)=q:=Qu _ (by omega)
     have hpN':(p:Int)<(N:Int):=by omega
     have hqN':(q:Int)<(N:Int):=by omega
     have HPT:=Qb (And.intro hpt hp)
     have HQP:=Qb hqp
     clear hpt hd htk hx hP hQ hZ e1 e2 hPl hQl hp htX hqp
     go_upto_region 23 with(fail)
     have hrd:RowB storeC 2 176 wz.drew g (P++x::(Q++y::Z)):=RowB.move hrow rfl
     have hSM:∀z,(fun c z=>c=false→RowB storeC 2 176 z g (P++x::(Q++y::Z))) false z→(fun c z=>c=false→RowB storeC 2 176 z g (P++x::(Q++y::Z))) true z:=fun z _ e=>absurd (e:true=false) (by decide)
     refine wp_region_late 15 (fun c z=>c=false→RowB storeC 2 176 z g (P++x::(Q++y::Z))) (by kernel_rfl) (fun hL=> ?_)
     refine late_early (i:=0) (v:= ?_) rfl (by kernel_rfl) (by kernel_rfl) (by kernel_rfl) (by decide) (by kernel_rfl) (fun _ _ _ h=>h) hL (Or.inl ⟨by rfl,?_⟩) (fun _=>hrd) (fun hL'=> ?_)
     rotate_left
     ·intro y hy;clear hy;go_simp;(try with_reducible rfl)
     clear hL;rename Shutb _ _=>hL
     (try simp only[Qd,Qe,Qf,Qg,Qh,Qa,Qi])
     refine late_early (i:=1) (v:= ?_) rfl (by kernel_rfl) (by kernel_rfl) (by kernel_rfl) (by decide) (by kernel_rfl) (fun _ _ _ h=>h) hL (Or.inl ⟨by rfl,?_⟩) (fun _=>hrd) (fun hL'=> ?_)
     rotate_left
     ·intro y hy;clear hy;go_simp;(try with_reducible rfl)
     clear hL;rename Shutb _ _=>hL
     (try simp only[Qd,Qe,Qf,Qg,Qh,Qa,Qi])
     refine late_early (i:=5) (v:= ?_) rfl (by kernel_rfl) (by kernel_rfl) (by kernel_rfl) (by decide) (by kernel_rfl) (fun _ _ _ h=>h) hL (Or.inl ⟨by rfl,?_⟩) (fun _=>hrd) (fun hL'=> ?_)
     rotate_left
     ·intro y hy;clear hy;go_simp;(try with_reducible rfl)
     clear hL;rename Shutb _ _=>hL
     (try simp only[Qd,Qe,Qf,Qg,Qh,Qa,Qi])
     refine late_early (i:=6) (v:= ?_) rfl (by kernel_rfl) (by kernel_rfl) (by kernel_rfl) (by decide) (by kernel_rfl) (fun _ _ _ h=>h) hL (Or.inl ⟨by rfl,?_⟩) (fun _=>hrd) (fun hL'=> ?_)
     rotate_left
     ·intro y hy;clear hy;go_simp;(try with_reducible rfl)
     clear hL;rename Shutb _ _=>hL
     (try simp only[Qd,Qe,Qf,Qg,Qh,Qa,Qi])
     refine late_early (i:=7) (v:= ?_) rfl (by kernel_rfl) (by kernel_rfl) (by kernel_rfl) (by decide) (by kernel_rfl) (fun _ _ _ h=>h) hL (Or.inl ⟨by rfl,?_⟩) (fun _=>hrd) (fun hL'=> ?_)
     rotate_left
     ·intro y hy;clear hy;go_simp;(try with_reducible rfl)
     clear hL;rename Shutb _ _=>hL
     (try simp only[Qd,Qe,Qf,Qg,Qh,Qa,Qi])
     refine late_early (i:=8) (v:= ?_) rfl (by kernel_rfl) (by kernel_rfl) (by kernel_rfl) (by decide) (by kernel_rfl) (fun _ _ _ h=>h) hL (Or.inl ⟨by rfl,?_⟩) (fun _=>hrd) (fun hL'=> ?_)
     rotate_left
     ·intro y hy;clear hy;go_simp;(try with_reducible rfl)
     clear hL;rename Shutb _ _=>hL
     (try simp only[Qd,Qe,Qf,Qg,Qh,Qa,Qi])
     refine late_early (i:=9) (v:= ?_) rfl (by kernel_rfl) (by kernel_rfl) (by kernel_rfl) (by decide) (by kernel_rfl) (fun _ _ _ h=>h) hL (Or.inl ⟨by rfl,?_⟩) (fun _=>hrd) (fun hL'=> ?_)
     rotate_left
     ·intro y hy;have hz:=hy rfl;clear hy;obtain⟨g1,g2⟩:=atSt hz HPQ.out.1;have g3:=RowB.lt hz;go_simp;(try with_reducible rfl)
     clear hL;rename Shutb _ _=>hL
     (try simp only[Qd,Qe,Qf,Qg,Qh,Qa,Qi])
     refine late_early (i:=10) (v:= ?_) rfl (by kernel_rfl) (by kernel_rfl) (by kernel_rfl) (by decide) (by kernel_rfl) (fun _ _ _ h=>h) hL (Or.inl ⟨by rfl,?_⟩) (fun _=>hrd) (fun hL'=> ?_)
     rotate_left
     ·intro y hy;clear hy;go_simp;(try with_reducible rfl)
     clear hL;rename Shutb _ _=>hL
     (try simp only[Qd,Qe,Qf,Qg,Qh,Qa,Qi])
     refine late_early (i:=11) (v:= ?_) rfl (by kernel_rfl) (by kernel_rfl) (by kernel_rfl) (by decide) (by kernel_rfl) (fun _ _ _ h=>h) hL (Or.inl ⟨by rfl,?_⟩) (fun _=>hrd) (fun hL'=> ?_)
     rotate_left
     ·intro y hy;clear hy;go_simp;(try with_reducible rfl)
     clear hL;rename Shutb _ _=>hL
     (try simp only[Qd,Qe,Qf,Qg,Qh,Qa,Qi])
     refine late_early (i:=12) (v:= ?_) rfl (by kernel_rfl) (by kernel_rfl) (by kernel_rfl) (by decide) (by kernel_rfl) (fun _ _ _ h=>h) hL (Or.inl ⟨by rfl,?_⟩) (fun _=>hrd) (fun hL'=> ?_)
     rotate_left
     ·intro y hy;clear hy;go_simp;(try with_reducible rfl)
     clear hL;rename Shutb _ _=>hL
     (try simp only[Qd,Qe,Qf,Qg,Qh,Qa,Qi])
     refine late_early (i:=13) (v:= ?_) rfl (by kernel_rfl) (by kernel_rfl) (by kernel_rfl) (by decide) (by kernel_rfl) (fun _ _ _ h=>h) hL (Or.inl ⟨by rfl,?_⟩) (fun _=>hrd) (fun hL'=> ?_)
     rotate_left
     ·intro y hy;have hz:=hy rfl;clear hy;obtain⟨g1,g2⟩:=atSt (P:=P++x::Q) (by simpa using hz) HPQ.out.2.1;have g3:=RowB.lt hz;go_simp;(try with_reducible rfl)
     clear hL;rename Shutb _ _=>hL
     (try simp only[Qd,Qe,Qf,Qg,Qh,Qa,Qi])
     refine late_late (i:=2) (v:= ?_) rfl (by kernel_rfl) (by kernel_rfl) (by kernel_rfl) (by decide) hSM (fun _ _ _ h=>h) hL (Or.inl ⟨by rfl,?_⟩) (fun _=>hrd) (fun hL'=> ?_)
     rotate_left
     ·intro y hy;clear hy;go_simp;(try with_reducible rfl)
     clear hL;rename Shutb _ _=>hL
     (try simp only[Qd,Qe,Qf,Qg,Qh,Qa,Qi])
     refine late_late (i:=3) (v:= ?_) rfl (by kernel_rfl) (by kernel_rfl) (by kernel_rfl) (by decide) hSM (fun _ _ _ h=>h) hL (Or.inl ⟨by rfl,?_⟩) (fun _=>hrd) (fun hL'=> ?_)
     rotate_left
     ·intro y hy;clear hy;go_simp;(try with_reducible rfl)
     clear hL;rename Shutb _ _=>hL
     (try simp only[Qd,Qe,Qf,Qg,Qh,Qa,Qi])
     refine late_late (i:=4) (v:= ?_) rfl (by kernel_rfl) (by kernel_rfl) (by kernel_rfl) (by decide) hSM (fun _ _ _ h=>h) hL (Or.inl ⟨by rfl,?_⟩) (fun _=>hrd) (fun hL'=> ?_)
     rotate_left
     ·intro y hy;clear hy;go_simp;(try with_reducible rfl)
     clear hL;rename Shutb _ _=>hL
     (try simp only[Qd,Qe,Qf,Qg,Qh,Qa,Qi])
     refine late_one (i:=14) (by kernel_rfl) hL (fun hL'=> ?_)
     refine wpOp_step rfl (fun K hK0=> ?_)
     have hK:Shut _:=hK0
     clear hK0
     go_simp
     refine hK.out _ _ ⟨fun _=>hrd,?_⟩
     clear hK K;clear hL;rename Shutb _ _=>hL
     (try simp only[Qd,Qe,Qf,Qg,Qh,Qa,Qi])
     have hpl:=(show p<(P++x::(Q++y::Z)).length by have:=HPQ.out.1;simp;omega)
     have hql:=(show q<(P++x::(Q++y::Z)).length by have:=HPQ.out.2.2;simp;omega)
     obtain⟨d1,d2⟩:=atSt (P:=P++x::Q) (by simpa using hrow) HPQ.out.2.1
     have d3:=RowB.free hrow
     have d4:=RowB.lt hrow
     refine late_one (i:=15) (by kernel_rfl) hL (fun hL'=> ?_)
     refine wpOp_step rfl (fun K hK0=> ?_)
     have hK:Shut _:=hK0
     clear hK0
     go_simp
     refine hK.out _ _ ⟨fun e=>absurd (e:true=false) (by decide),?_⟩
     clear hK K;clear hL;rename Shutb _ _=>hL
     (try simp only[Qd,Qe,Qf,Qg,Qh,Qa,Qi])
     clear d1 d3 d4 d2
     have hO1:=hO.set (a:=⟨g,q*2,none⟩) (.inl rfl) (.int .i64 x.1) |>.set (a:=⟨g,q*2+1,none⟩) (.inl rfl) (.int .i64 x.2)
     have hr1:=RowB.set_two hrow q hql x
     obtain⟨wm,hwm⟩:∃wm,((wz.setCell ⟨g,q*2,none⟩ (.int .i64 x.1)).setCell ⟨g,q*2+1,none⟩ (.int .i64 x.2))=wm:=⟨_,rfl⟩
     rw[hwm]at hr1 hO1 ⊢
     clear hwm
     have hr1':=hr1
     rw[show P++x::(Q++y::Z)=(P++x::Q)++y::Z by simp,set_at (P++x::Q) Z y x HPQ.out.2.1,show(P++x::Q)++x::Z=P++x::(Q++x::Z) by simp]at hr1'
     obtain⟨d1,d2⟩:=atSt hr1' HPQ.out.1
     have d3:=RowB.free hr1
     have d4:=RowB.lt hr1
     refine late_one (i:=16) (by kernel_rfl) hL (fun hL'=> ?_)
     refine wpOp_step rfl (fun K hK0=> ?_)
     have hK:Shut _:=hK0
     clear hK0
     go_simp
     refine hK.out _ _ ⟨fun e=>absurd (e:true=false) (by decide),?_⟩
     clear hK K;clear hL;rename Shutb _ _=>hL
     (try simp only[Qd,Qe,Qf,Qg,Qh,Qa,Qi])
     refine late_one (i:=17) (by kernel_rfl) hL (fun hL'=> ?_)
     refine wpOp_step rfl (fun K hK0=> ?_)
     have hK:Shut _:=hK0
     clear hK0
     go_simp
     refine hK.out _ _ ⟨fun e=>absurd (e:true=false) (by decide),?_⟩
     clear hK K;clear hL;rename Shutb _ _=>hL
     (try simp only[Qd,Qe,Qf,Qg,Qh,Qa,Qi])
     refine late_done (by kernel_rfl) ?_
     (try dsimp only[Exit.then])
     clear d1 d3 d4 d2 hr1'
     have hr2:=RowB.set_two hr1 p (by simpa using hpl) y
     rw[List.set_comm _ _ (by have:=HPQ.out.1;have:=HPQ.out.2.2;omega),S.swap_set P Q Z x y p q HPQ.out.1 HPQ.out.2.2]at hr2
     have hO2:=hO1.set (a:=⟨g,p*2,none⟩) (.inl rfl) (.int .i64 y.1) |>.set (a:=⟨g,p*2+1,none⟩) (.inl rfl) (.int .i64 y.2)
     go_wp2
     go_roundw
     case rel=>exact⟨t,p,by omega,by omega,by go_num,HPT.out.2.symm,by rw[HE2.out]at hr2;exact RowB.move hr2 rfl,hO2.ext ((Qn _).drew)⟩
     case measure=>simp[intOf];have:=HQP.out;omega
    ·obtain rfl:t0=u:=by omega
     have hnp:¬(j:Int)<(q:Int):=by have:=HIJ.out;omega
     have hnp2:¬j<q:=by omega
     have HH:=Qb hrow
     clear hpt hrow
     go_wp2
     refine bodyPost_ret (results_none rfl _ _ _) rfl ?_
     refine⟨rfl,X.take t0++y::X.drop t0,?_,?_,by simpa using HH.out,hO⟩
     ·refine List.perm_middle.trans ?_
      rw[List.take_append_drop]
      exact(List.perm_append_singleton y X).symm
     ·exact S.srt_insert (by rw[List.take_append_drop];exact HSX.out) (S.take_all HLO.out) (S.drop_all HHI.out)
end Go.Proofs.YtgloajbgphcloaaGreat.Cl
namespace Go.Proofs.YtgloajbgphcloaaGreat.Cl
set_option linter.unusedVariables false
set_option linter.unusedSimpArgs false
open Go.RowKit
open Ext renaming alloc → Qo, drew → Qp, refl → Qn, setCell → Qq, trans → Qr
open Lib renaming hid → Qb
open List renaming drop_succ_cons → Ql, getElem_mem → Qv, take_succ_cons → Qj
open Nat renaming le_refl → Qt
set_option maxRecDepth 100000 in
set_option maxHeartbeats 16000000 in
theorem symGenSt (g:Nat) (bc:Nat) (key:Int×Int→Int) (rank:Int×Int→Nat) (D:Int×Int→Prop) (K:World→Prop) (hK:∀w w',K w→Off g w w'→K w') (hD:∀x,D x→ -1000000000≤key x∧key x≤1000000000)
  (HC:∀w' x y,K w'→D x→D y→Calls Tryz.prog 127 #[.agg #[.int .i64 x.1,.int .i64 x.2],.agg #[.int .i64 y.1,.int .i64 y.2],.pointer (some ⟨bc,0,none⟩)] w' fun e w2=>e= .returned (.int .i64 (key x - key y))∧Ext w' w2)
  (A X Y B:List (Int×Int)) (cap a m b N:Nat) (w:World) (hKw:K w) (hDX:∀x∈X,D x) (hDY:∀y∈Y,D y) (hSX:S.Srt (S.Ord key rank) X) (hSY:S.Srt (S.Ord key rank) Y) (hrk:∀x∈X,∀y∈Y,rank x<rank y)
  (ha:a=A.length) (hm:m=A.length+X.length) (hb:b=A.length+X.length+Y.length) (hX1:1<X.length) (hY1:1<Y.length) (d:Nat) (hd:X.length+Y.length≤d+1) (IH:∀(A X Y B:List (Int×Int)) (a m b:Nat) (w:World),X.length+Y.length≤d→K w→(∀ x∈X,D x)→(∀ y∈Y,D y)→S.Srt (S.Ord key rank) X→S.Srt (S.Ord key rank) Y→(∀ x∈X,∀y∈Y,rank x<rank y)→0<X.length→0<Y.length →
   a=A.length→m=A.length+X.length→b=A.length+X.length+Y.length→N=(A++(X++(Y++B))).length→RowB storeC 2 176 w g (A++(X++(Y++B))) →
   Calls Tryz.prog 233 #[.slice (some ⟨g,0,none⟩) N cap,.int .i64 a,.int .i64 m,.int .i64 b,.func (.func 127) #[] #[.pointer (some ⟨bc,0,none⟩)]] w fun e w'=>e= .returned (.tuple #[])∧∃Z,Z.Perm (X++Y)∧S.Srt (S.Ord key rank) Z∧RowB storeC 2 176 w' g (A++(Z++B))∧Off g w w')
  (hN:N=(A++(X++(Y++B))).length) (hsz:N≤1000000) (h:RowB storeC 2 176 w g (A++(X++(Y++B)))) :
  Calls Tryz.prog 233 #[.slice (some ⟨g,0,none⟩) N cap,.int .i64 a,.int .i64 m,.int .i64 b,.func (.func 127) #[] #[.pointer (some ⟨bc,0,none⟩)]] w fun e w'=>e= .returned (.tuple #[])∧∃Z,Z.Perm (X++Y)∧S.Srt (S.Ord key rank) Z∧RowB storeC 2 176 w' g (A++(Z++B))∧Off g w w':=by
 have hNl:N=A.length+X.length+Y.length+B.length:=by rw[hN];simp;omega
 obtain⟨lx,hlx⟩:∃lx,X.length=lx:=⟨_,rfl⟩
 obtain⟨ly,hly⟩:∃ly,Y.length=ly:=⟨_,rfl⟩
 obtain⟨mid,hmid⟩:∃mid,(a+b)/2=mid:=⟨_,rfl⟩
 obtain⟨nn,hnn⟩:∃nn,mid+m=nn:=⟨_,rfl⟩
 obtain⟨pp,hpp⟩:∃pp,nn=pp+1:=⟨nn - 1,by omega⟩
 have hma:(m:Int) - (a:Int)=(lx:Int):=by omega
 have hlx1:((lx:Int) == 1)=false:=by simp;omega
 have hlx2:¬(lx:Int)=1:=by omega
 have hlx3:¬lx=1:=by omega
 have hbm:(b:Int) - (m:Int)=(ly:Int):=by omega
 have hly1:((ly:Int) == 1)=false:=by simp;omega
 have hly2:¬(ly:Int)=1:=by omega
 have hly3:¬ly=1:=by omega
 have hmi:((a:Int)+(b:Int))/2=(mid:Int):=by omega
 have hni:(mid:Int)+(m:Int)=(nn:Int):=by omega
 have hpi:(nn:Int) - 1=(pp:Int):=by omega
 have ham:a<m:=by omega
 have hmb:m<b:=by omega
 have hbN:b≤N:=by omega
 have hmidb:mid≤N:=by omega
 have hnnN:nn≤N+N:=by omega
 have hppN:pp≤N+N:=by omega
 have hlxN:lx≤N:=by omega
 have hlyN:ly≤N:=by omega
 have HCM:=Qb HC
 have HF:=Qb (And.intro ha (And.intro hm (And.intro hb (And.intro hNl (And.intro hlx (And.intro hly (And.intro hmid (And.intro hnn hpp))))))))
 have H:=Qb h
 have HDX:=Qb hDX
 have HDY:=Qb hDY
 have HSX:=Qb hSX
 have HSY:=Qb hSY
 have HRK:=Qb hrk
 have HIH:=Qb IH
 have HD:=Qb hd
 have hpc:=plus_cell
 clear HC hDX hDY hSX hSY hrk ha hm hb hN hNl h hX1 hY1 hlx hly hmid hnn hpp IH hd
 go_enter Tryz.func233,Tryz.ntmps233
 go_upto_region 26 with(fail)
 rename Act→World→Prop=>KK
 rename ∀_ _,_→KK _ _=>hKK
 have HKK:=Qb hKK
 clear hKK
 go_wp2
 refine HKK.out _ _ ?_
 clear HKK
 go_step
 go_cut [20,21]from 141 to 219 (fun s20 s21 wc=>∃s0 r0:Nat,s20= .int .i64 s0∧s21= .int .i64 r0∧a≤s0∧s0≤r0∧r0≤m∧(∀ c,s0≤c→c<r0→c<m∧m+c<nn∧nn≤b+c)∧(s0=a∨s0+b=nn)∧(r0=m∨r0+m=nn)∧(m+r0≤nn∧nn≤b+s0)∧wc=w)
 case first =>
  by_cases hmm:mid<m
  ·obtain⟨s0,hs0⟩:∃s0,s0+b=nn:=⟨nn - b,by have:=HF.out;omega⟩
   have hsi:(nn:Int) - (b:Int)=(s0:Int):=by omega
   have hs0N:s0≤N:=by have:=HF.out;omega
   have HS0:=Qb hs0
   clear hs0
   go_wp2
   go_meet
   exact⟨s0,mid,rfl,rfl,by have:=HF.out;have:=HS0.out;omega,by have:=HF.out;have:=HS0.out;omega,by omega,fun c h1 h2=>by have:=HF.out;have:=HS0.out;omega,.inr HS0.out,.inr (by have:=HF.out;omega),by have:=HF.out;have:=HS0.out;omega,rfl⟩
  ·have hmm2:m≤mid:=by omega
   go_wp2
   go_meet
   exact⟨a,m,rfl,rfl,Qt _,by omega,Qt _,fun c h1 h2=>by have:=HF.out;omega,.inl rfl,.inl rfl,by have:=HF.out;omega,rfl⟩
 case rest =>
 obtain⟨s0,r0,rfl,rfl,has,hsr,hrm,hin,hs0,hr0,hbd,rfl⟩:=hcut
 have HIN:=Qb hin
 have HE0:=Qb (And.intro hs0 (And.intro hr0 hbd))
 clear hin hs0 hr0 hbd
 go_wp2
 go_loopw [20,21,23] (fun vs vr _ wr=>∃s r:Nat,vs= .int .i64 s∧vr= .int .i64 r∧s0≤s∧s≤r∧r≤r0∧(∀ c,s0≤c→c<s→∀i j (hi:i<X.length) (hj:j<Y.length),a+i=c→m+j+c=pp→S.Ord key rank X[i] Y[j])∧(∀ c,r≤c→c<r0→∀i j (hi:i<X.length) (hj:j<Y.length),a+i=c→m+j+c=pp→S.Ord key rank Y[j] X[i])∧Ext wc wr) (fun vs vr _ _=>(intOf vr).toNat - (intOf vs).toNat)
 case atStart=>exact⟨s0,r0,rfl,rfl,Qt _,hsr,Qt _,fun c h1 h2=>by omega,fun c h1 h2=>by omega,Qn _⟩
 case round =>
  rename World=>wr
  obtain⟨s,r,rfl,rfl,hss,hsr2,hrr,hlo,hhi,hEr⟩:=hrel
  have HLO:=Qb hlo
  have HHI:=Qb hhi
  clear hlo hhi
  by_cases hlt:s<r
  ·obtain⟨t,ht⟩:∃t,(s+r)/2=t:=⟨_,rfl⟩
   have htr:s≤t∧t<r:=by omega
   obtain⟨hin1,hin2,hin3⟩:=HIN.out t (by omega) (by omega)
   obtain⟨q,hq⟩:∃q,q+t=pp:=⟨pp - t,by have:=HF.out;omega⟩
   obtain⟨i,hi⟩:∃i,a+i=t:=⟨t - a,by omega⟩
   obtain⟨j,hj⟩:∃j,m+j=q:=⟨q - m,by have:=HF.out;omega⟩
   have hiX:i<X.length:=by have:=HF.out;omega
   have hjY:j<Y.length:=by have:=HF.out;omega
   have hti:((s:Int)+(r:Int))/2=(t:Int):=by omega
   have hqi:(pp:Int) - (t:Int)=(q:Int):=by omega
   have htN:t<N:=by omega
   have hqN:q<N:=by have:=HF.out;omega
   have hs6:s≤1000000:=by omega
   have hr6:r≤1000000:=by omega
   have hqN':(q:Int)<(N:Int):=by omega
   have htN':(t:Int)<(N:Int):=by omega
   have hwq:IntKind.wrap .i64 (q:Int)=q:=IntWalk.i64_in _ (by omega)
   have hwt:IntKind.wrap .i64 (t:Int)=t:=IntWalk.i64_in _ (by omega)
   have hDx:=HDX.out _ (Qv hiX)
   have hDy:=HDY.out _ (Qv hjY)
   have hrx:=HRK.out _ (Qv hiX) _ (Qv hjY)
   have hsX:X=X.take i++X[i]::X.drop (i+1):=by rw[← List.drop_eq_getElem_cons hiX,List.take_append_drop]
   have hsY:Y=Y.take j++Y[j]::Y.drop (j+1):=by rw[← List.drop_eq_getElem_cons hjY,List.take_append_drop]
   have hla:=S.cross (S.ord_trans key rank) HSX.out HSY.out hiX hjY
   have hha:=S.cross (S.ord_trans key rank) HSY.out HSX.out hjY hiX
   obtain⟨x,hx⟩:∃x,X[i]=x:=⟨_,rfl⟩
   obtain⟨y,hy⟩:∃y,Y[j]=y:=⟨_,rfl⟩
   rw[hx]at hDx hrx hsX hla hha
   rw[hy]at hDy hrx hsY hla hha
   have hrow:=RowB.ext H.out hEr
   have hrow2:RowB storeC 2 176 wr g ((A++X.take i)++x::(X.drop (i+1)++(Y++B))):=by
    have e:(A++X.take i)++x::(X.drop (i+1)++(Y++B))=A++((X.take i++x::X.drop (i+1))++(Y++B)):=by simp
    rw[e,←hsX];exact hrow
   have hrow3:RowB storeC 2 176 wr g ((A++(X++Y.take j))++y::(Y.drop (j+1)++B)):=by
    have e:(A++(X++Y.take j))++y::(Y.drop (j+1)++B)=A++(X++((Y.take j++y::Y.drop (j+1))++B)):=by simp
    rw[e,←hsY];exact hrow
   have hgl:=RowB.lt hrow
   obtain⟨d1,d2⟩:=atSt hrow2 (p:=t) (by simp;have:=HF.out;omega)
   obtain⟨e1,e2⟩:=atSt hrow3 (p:=q) (by simp;have:=HF.out;omega)
   have hcc:=fun w' (hk:K w')=>HCM.out w' y x hk hDy hDx
   obtain⟨c,hc⟩:∃c,key y - key x=c:=⟨_,rfl⟩
   simp only[hc]at hcc
   have HCC:=Qb hcc
   have HCD:=Qb (show c<0↔key y<key x by omega)
   have HLA:=Qb hla
   have HHA:=Qb hha
   have HRY:=Qb hrx
   have HIT:=Qb (And.intro hq (And.intro hi (And.intro hj htr)))
   clear hcc hc hla hha hrx hsX hsY hrow hrow2 hrow3 hDx hDy hx hy hq hi hj ht hin1 hin2 hin3 hiX hjY
   by_cases hneg:c<0
   ·have HO:Hid (S.Ord key rank y x):= .inl (HCD.out.1 hneg)
    have HNEG:=Qb hneg
    have HDC:=Qb (And.intro (decide_eq_true hneg) (show True from trivial))
    clear hneg
    go_upto_region 35 with(fail)
    refine wp_region_ext 14 (fun _ _ d _ _ h=>by cases d<;>exact h) (by kernel_rfl) (by kernel_rfl) (by kernel_rfl) (by kernel_rfl) ?_
    simp only[Qj,List.take_zero,Ql,List.drop_zero]
    have hneg:=HNEG.out
    obtain⟨hdc,hdc2⟩:=HDC.out
    repeat(any_goals(first|go_big_quiet_step((go_at_call 127;exact ext_quiet (HCC.out _ (hK _ _ hKw (Ext.off (hEr.trans (by(with_reducible(repeat(first|exact Qn _|assumption|apply Qo|apply Qp|exact ext_plus _ _|(apply Qq;rotate_left;(simp<;>omega))|(apply Qr;rotate_left;exact ext_plus _ _)|(apply Qr;rotate_left;assumption)))))) g)))))|quiet_step((go_at_call 127;exact ext_quiet (HCC.out _ (hK _ _ hKw (Ext.off (hEr.trans (by(with_reducible(repeat(first|exact Qn _|assumption|apply Qo|apply Qp|exact ext_plus _ _|(apply Qq;rotate_left;(simp<;>omega))|(apply Qr;rotate_left;exact ext_plus _ _)|(apply Qr;rotate_left;assumption)))))) g)))))))
    all_goals(refine wpQuiet_nil ?_;intro wq hEq)
    unfold wpList
    clear d1 e1 d2 e2
    go_wp2
    go_roundw
    case rel=>exact⟨s,t,rfl,by go_num,hss,by have:=HIT.out;omega,by have:=HIT.out;omega,HLO.out,fun c' h1 h2 i' j' hi' hj' e1 e2=>HHA.out HO.out j' i' hj' hi' (by have:=HIT.out;omega) (by have:=HIT.out;omega),hEr.trans hEq⟩
    case measure=>simp[intOf];have:=HIT.out;omega
   ·have HO:Hid (S.Ord key rank x y):=(S.ord_lt HRY.out).2 (fun h=>hneg (HCD.out.2 h))
    have HNEG:=Qb hneg
    have HDC:=Qb (And.intro (decide_eq_false hneg) (show True from trivial))
    clear hneg
    go_upto_region 35 with(fail)
    refine wp_region_ext 14 (fun _ _ d _ _ h=>by cases d<;>exact h) (by kernel_rfl) (by kernel_rfl) (by kernel_rfl) (by kernel_rfl) ?_
    simp only[Qj,List.take_zero,Ql,List.drop_zero]
    have hneg:=HNEG.out
    obtain⟨hdc,hdc2⟩:=HDC.out
    repeat(any_goals(first|go_big_quiet_step((go_at_call 127;exact ext_quiet (HCC.out _ (hK _ _ hKw (Ext.off (hEr.trans (by(with_reducible(repeat(first|exact Qn _|assumption|apply Qo|apply Qp|exact ext_plus _ _|(apply Qq;rotate_left;(simp<;>omega))|(apply Qr;rotate_left;exact ext_plus _ _)|(apply Qr;rotate_left;assumption)))))) g)))))|quiet_step((go_at_call 127;exact ext_quiet (HCC.out _ (hK _ _ hKw (Ext.off (hEr.trans (by(with_reducible(repeat(first|exact Qn _|assumption|apply Qo|apply Qp|exact ext_plus _ _|(apply Qq;rotate_left;(simp<;>omega))|(apply Qr;rotate_left;exact ext_plus _ _)|(apply Qr;rotate_left;assumption)))))) g)))))))
    all_goals(refine wpQuiet_nil ?_;intro wq hEq)
    unfold wpList
    clear d1 e1 d2 e2
    have hdc3:decide (c<0)=false:=decide_eq_false (by omega)
    have hge:0≤c:=by omega
    go_wp2
    go_roundw
    case rel=>exact⟨t+1,r,by go_num,rfl,by have:=HIT.out;omega,by have:=HIT.out;omega,hrr,fun c' h1 h2 i' j' hi' hj' e1 e2=>HLA.out HO.out i' j' hi' hj' (by have:=HIT.out;omega) (by have:=HIT.out;omega),HHI.out,hEr.trans hEq⟩
    case measure=>simp[intOf];have:=HIT.out;omega
  ·obtain rfl:s=r:=by omega
   obtain⟨e,he⟩:∃e,e+s=nn:=⟨nn - s,by have:=HE0.out;omega⟩
   have hei:(nn:Int) - (s:Int)=(e:Int):=by omega
   have hsm:s≤m:=by omega
   have hme:m≤e:=by have:=HE0.out;omega
   have heb:e≤b:=by have:=HE0.out;omega
   have has2:a≤s:=by omega
   have hcutS:S.Cut (S.Ord key rank) (X.take (s - a)) (X.drop (s - a)) (Y.take (e - m)) (Y.drop (e - m)):=by
    have hF:=HF.out
    have hE0:=HE0.out
    refine S.cut_of (S.ord_trans key rank) HSX.out HSY.out (by omega) (by omega) (fun i j hi hj e1 e2=> ?_) (fun i j hi hj e1 e2=> ?_)
    ·exact HLO.out (s - 1) (by omega) (by omega) i j hi hj (by omega) (by omega)
    ·exact HHI.out s (Qt _) (by omega) i j hi hj (by omega) (by omega)
   have hX12:=(List.take_append_drop (s - a) X).symm
   have hY12:=(List.take_append_drop (e - m) Y).symm
   have lX1:(X.take (s - a)).length=s - a:=by rw[List.length_take];have:=HF.out;omega
   have lX2:(X.drop (s - a)).length=m - s:=by rw[List.length_drop];have:=HF.out;omega
   have lY1:(Y.take (e - m)).length=e - m:=by rw[List.length_take];have:=HF.out;omega
   have lY2:(Y.drop (e - m)).length=b - e:=by rw[List.length_drop];have:=HF.out;omega
   obtain⟨X1,hX1⟩:∃X1,X.take (s - a)=X1:=⟨_,rfl⟩
   obtain⟨X2,hX2⟩:∃X2,X.drop (s - a)=X2:=⟨_,rfl⟩
   obtain⟨Y1,hY1⟩:∃Y1,Y.take (e - m)=Y1:=⟨_,rfl⟩
   obtain⟨Y2,hY2⟩:∃Y2,Y.drop (e - m)=Y2:=⟨_,rfl⟩
   rw[hX1,hX2]at hX12
   rw[hY1,hY2]at hY12
   rw[hX1,hX2,hY1,hY2]at hcutS
   rw[hX1]at lX1
   rw[hX2]at lX2
   rw[hY1]at lY1
   rw[hY2]at lY2
   have HCUT:=Qb hcutS
   have hlen:s=a+X1.length∧m=a+X1.length+X2.length∧e=m+Y1.length∧b=m+Y1.length+Y2.length∧mid=a+X1.length+Y1.length∧a=A.length∧N=a+X1.length+X2.length+Y1.length+Y2.length+B.length∧mid<b∧a<mid:=by
    have:=HF.out;omega
   have hd:=HD.out
   clear HLO HHI HF HE0 HIN hcutS hX1 hX2 hY1 hY2 lX1 lX2 lY1 lY2 hss hrr hsr2 he hsr hrm has
   subst hX12
   subst hY12
   have HN:=Qb hlen
   have HD2:=Qb (show X1.length+X2.length+(Y1.length+Y2.length)≤d+1 by simpa using hd)
   have hrow0:RowB storeC 2 176 wr g ((A++X1)++(X2++(Y1++(Y2++B)))):=by simpa using RowB.ext H.out hEr
   have HR0:=Qb hrow0
   have hSX1:=(List.pairwise_append.1 HSX.out).1
   have hSX2:=(List.pairwise_append.1 HSX.out).2.1
   have hSY1:=(List.pairwise_append.1 HSY.out).1
   have hSY2:=(List.pairwise_append.1 HSY.out).2.1
   have HSS:=Qb (And.intro hSX1 (And.intro hSX2 (And.intro hSY1 hSY2)))
   have hO0:Off g wc wr:=hEr.off g
   have heN:e≤N:=by omega
   have hsN:s≤N:=by omega
   clear hlen hd hrow0 hSX1 hSX2 hSY1 hSY2 H
   go_upto_region 38 with(fail)
   rename Act→World→Prop=>KK
   rename ∀_ _,_→KK _ _=>hKK
   have HKK:=Qb hKK
   clear hKK
   go_wp2
   refine HKK.out _ _ ?_
   clear HKK
   go_step
   go_cut []from 178 to 219 (fun w1=>RowB storeC 2 176 w1 g (A++((X1++Y1)++((X2++Y2)++B)))∧Off g wc w1)
   case first =>
    by_cases hs1:s<m
    ·by_cases hm1:m<e
     ·go_wp2_with (first|(go_at_call 257;refine(rotateSt (A++X1) X2 Y1 (Y2++B) g cap s m e N _ _ (by simp;have:=HN.out;omega) (by simp;have:=HN.out;omega) (by simp;have:=HN.out;omega) (by have:=HN.out;omega) (by have:=HN.out;omega) (by simp;have:=HN.out;omega) (by omega) HR0.out).mono ?_;rintro e' w' ⟨rfl,hr',hO'⟩))
      go_meet
      exact⟨by simpa using hr',hO0.trans hO'⟩
     ·have hY0:Y1=[]:=List.eq_nil_of_length_eq_zero (by have:=HN.out;omega)
      have hr:=HR0.out
      rw[hY0]at hr
      have hr':RowB storeC 2 176 wr g (A++((X1++Y1)++((X2++Y2)++B))):=by rw[hY0];simpa using hr
      have hm2:¬(m:Int)<(e:Int):=by omega
      clear hY0 hr
      go_wp2
      go_meet
      exact⟨hr',hO0⟩
    ·have hX0:X2=[]:=List.eq_nil_of_length_eq_zero (by have:=HN.out;omega)
     have hr:=HR0.out
     rw[hX0]at hr
     have hr':RowB storeC 2 176 wr g (A++((X1++Y1)++((X2++Y2)++B))):=by rw[hX0];simpa using hr
     have hs2:¬(s:Int)<(m:Int):=by omega
     clear hX0 hr
     go_wp2
     go_meet
     exact⟨hr',hO0⟩
   case rest =>
   obtain⟨hrow1,hO1⟩:=hcut
   rename World=>w1
   have HR1:=Qb hrow1
   clear hrow1 HR0
   rename Act→World→Prop=>KK1
   rename ∀_ _,_→KK1 _ _=>hKK1
   refine hKK1 _ _ ?_
   clear hKK1
   go_step
   go_cut []from 192 to 219 (fun w2=>∃Z1,Z1.Perm (X1++Y1)∧S.Srt (S.Ord key rank) Z1∧RowB storeC 2 176 w2 g (A++(Z1++((X2++Y2)++B)))∧Off g wc w2)
   case first =>
    by_cases hs1:a<s
    ·by_cases hm1:s<mid
     ·go_wp2_with (first|(go_at_call 233;refine(HIH.out A X1 Y1 ((X2++Y2)++B) a s mid _ (by have:=HN.out;have:=HD2.out;omega) (hK _ _ hKw hO1) (fun x hx=>HDX.out x (by simp[hx])) (fun x hx=>HDY.out x (by simp[hx])) HSS.out.1 HSS.out.2.2.1 (fun x hx y hy=>HRK.out x (by simp[hx]) y (by simp[hy])) (by have:=HN.out;omega) (by have:=HN.out;omega) (by have:=HN.out;omega) (by have:=HN.out;omega) (by have:=HN.out;omega) (by simp;have:=HN.out;omega) (by simpa using HR1.out)).mono ?_;rintro e' w' ⟨rfl,Z1,hp1,hs3,hr',hO'⟩))
      go_meet
      exact⟨Z1,hp1,hs3,hr',hO1.trans hO'⟩
     ·have hY0:Y1=[]:=List.eq_nil_of_length_eq_zero (by have:=HN.out;omega)
      have hm2:¬(s:Int)<(mid:Int):=by omega
      have hsr:S.Srt (S.Ord key rank) (X1++Y1):=by rw[hY0,List.append_nil];exact HSS.out.1
      clear hY0
      go_wp2
      go_meet
      exact⟨X1++Y1,List.Perm.refl _,hsr,HR1.out,hO1⟩
    ·have hX0:X1=[]:=List.eq_nil_of_length_eq_zero (by have:=HN.out;omega)
     have hs2:¬(a:Int)<(s:Int):=by omega
     have hsr:S.Srt (S.Ord key rank) (X1++Y1):=by rw[hX0,List.nil_append];exact HSS.out.2.2.1
     clear hX0
     go_wp2
     go_meet
     exact⟨X1++Y1,List.Perm.refl _,hsr,HR1.out,hO1⟩
   case rest =>
   obtain⟨Z1,hp1,hs1,hrow2,hO2⟩:=hcut
   rename World=>w2
   have HR2:=Qb hrow2
   have hZl:=hp1.length_eq
   have HZL:=Qb hZl
   have HP1:=Qb (And.intro hp1 hs1)
   clear hrow2 HR1 hp1 hs1 hZl
   have hfin:∀(Z2:List (Int×Int)) (w':World),Z2.Perm (X2++Y2)→S.Srt (S.Ord key rank) Z2→RowB storeC 2 176 w' g ((A++Z1)++(Z2++B))→Off g wc w'→∃Z,Z.Perm (X1++(X2++(Y1++Y2)))∧S.Srt (S.Ord key rank) Z∧RowB storeC 2 176 w' g (A++(Z++B))∧Off g wc w':=fun Z2 w' h1 h2 h3 h4=>by
    obtain⟨m1,m2⟩:=S.merged HSX.out HSY.out HCUT.out HP1.out.1 h1 HP1.out.2 h2
    exact⟨Z1++Z2,by simpa using m2,m1,by simpa using h3,h4⟩
   have HFIN:=Qb hfin
   clear hfin
   by_cases hs1:mid<e
   ·by_cases hm1:e<b
    ·go_wp2_with (first|(go_at_call 233;refine(HIH.out (A++Z1) X2 Y2 B mid e b _ (by have:=HN.out;have:=HD2.out;omega) (hK _ _ hKw hO2) (fun x hx=>HDX.out x (by simp[hx])) (fun x hx=>HDY.out x (by simp[hx])) HSS.out.2.1 HSS.out.2.2.2 (fun x hx y hy=>HRK.out x (by simp[hx]) y (by simp[hy])) (by have:=HN.out;omega) (by have:=HN.out;omega) (by simp;have h1:=HZL.out;have:=HN.out;simp at h1;omega) (by simp;have h1:=HZL.out;have:=HN.out;simp at h1;omega) (by simp;have h1:=HZL.out;have:=HN.out;simp at h1;omega) (by simp;have h1:=HZL.out;have:=HN.out;simp at h1;omega) (by simpa using HR2.out)).mono ?_;rintro e' w' ⟨rfl,Z2,hp2,hs3,hr',hO'⟩))
     go_end0
     have hf:=HFIN.out Z2 _ hp2 hs3 hr' (hO2.trans hO')
     exact⟨rfl,by first|exact hf|simpa using hf⟩
    ·have hY0:Y2=[]:=List.eq_nil_of_length_eq_zero (by have:=HN.out;omega)
     have hm2:¬(e:Int)<(b:Int):=by omega
     have hsr:S.Srt (S.Ord key rank) (X2++Y2):=by rw[hY0,List.append_nil];exact HSS.out.2.1
     clear hY0
     go_wp2
     go_end0
     exact⟨rfl,HFIN.out _ _ (List.Perm.refl _) hsr (by simpa using HR2.out) hO2⟩
   ·have hX0:X2=[]:=List.eq_nil_of_length_eq_zero (by have:=HN.out;omega)
    have hs2:¬(mid:Int)<(e:Int):=by omega
    have hsr:S.Srt (S.Ord key rank) (X2++Y2):=by rw[hX0,List.nil_append];exact HSS.out.2.2.2
    clear hX0
    go_wp2
    go_end0
    exact⟨rfl,HFIN.out _ _ (List.Perm.refl _) hsr (by simpa using HR2.out) hO2⟩
end Go.Proofs.YtgloajbgphcloaaGreat.Cl
namespace Go.Proofs.YtgloajbgphcloaaGreat.Cl
set_option linter.unusedVariables false
set_option linter.unusedSimpArgs false
open Go.RowKit
open Lib renaming hid → Qb
theorem symMergeSt (g:Nat) (bc:Nat) (key:Int×Int→Int) (rank:Int×Int→Nat) (D:Int×Int→Prop) (K:World→Prop) (hK:∀w w',K w→Off g w w'→K w') (hD:∀x,D x→ -1000000000≤key x∧key x≤1000000000)
  (HC:∀w' x y,K w'→D x→D y→Calls Tryz.prog 127 #[.agg #[.int .i64 x.1,.int .i64 x.2],.agg #[.int .i64 y.1,.int .i64 y.2],.pointer (some ⟨bc,0,none⟩)] w' fun e w2=>e= .returned (.int .i64 (key x - key y))∧Ext w' w2) (cap N:Nat) (hsz:N≤1000000) :
  ∀(d:Nat) (A X Y B:List (Int×Int)) (a m b:Nat) (w:World),X.length+Y.length≤d→K w→(∀ x∈X,D x)→(∀ y∈Y,D y)→S.Srt (S.Ord key rank) X→S.Srt (S.Ord key rank) Y→(∀ x∈X,∀y∈Y,rank x<rank y)→0<X.length→0<Y.length →
   a=A.length→m=A.length+X.length→b=A.length+X.length+Y.length→N=(A++(X++(Y++B))).length→RowB storeC 2 176 w g (A++(X++(Y++B))) →
   Calls Tryz.prog 233 #[.slice (some ⟨g,0,none⟩) N cap,.int .i64 a,.int .i64 m,.int .i64 b,.func (.func 127) #[] #[.pointer (some ⟨bc,0,none⟩)]] w fun e w'=>e= .returned (.tuple #[])∧∃Z,Z.Perm (X++Y)∧S.Srt (S.Ord key rank) Z∧RowB storeC 2 176 w' g (A++(Z++B))∧Off g w w'
 | 0,A,X,Y,B,a,m,b,w,hd,_,_,_,_,_,_,h1,_,_,_,_,_,_=>by omega
 | d+1,A,X,Y,B,a,m,b,w,hd,hKw,hDX,hDY,hSX,hSY,hrk,h1,h2,ha,hm,hb,hN,h=>by
  by_cases hx:X.length=1
  ·exact symXSt g bc key rank D K hK hD HC A X Y B cap a m b N w hKw hDX hDY hSX hSY hrk ha hm hb hx h2 hN hsz h
  ·by_cases hy:Y.length=1
   ·exact symYSt g bc key rank D K hK hD HC A X Y B cap a m b N w hKw hDX hDY hSX hSY hrk ha hm hb (by omega) hy hN hsz h
   ·exact symGenSt g bc key rank D K hK hD HC A X Y B cap a m b N w hKw hDX hDY hSX hSY hrk ha hm hb (by omega) (by omega) d hd (symMergeSt g bc key rank D K hK hD HC cap N hsz d) hN hsz h
set_option maxRecDepth 100000 in
set_option maxHeartbeats 16000000 in
theorem stableSt (g:Nat) (bc:Nat) (key:Int×Int→Int) (rank:Int×Int→Nat) (D:Int×Int→Prop) (K:World→Prop) (hK:∀w w',K w→Off g w w'→K w') (hD:∀x,D x→ -1000000000≤key x∧key x≤1000000000)
  (HC:∀w' x y,K w'→D x→D y→Calls Tryz.prog 127 #[.agg #[.int .i64 x.1,.int .i64 x.2],.agg #[.int .i64 y.1,.int .i64 y.2],.pointer (some ⟨bc,0,none⟩)] w' fun e w2=>e= .returned (.int .i64 (key x - key y))∧Ext w' w2)
  (X:List (Int×Int)) (cap N:Nat) (w:World) (hKw:K w) (hDX:∀x∈X,D x) (hX:X.Pairwise fun x y=>rank x<rank y) (hN:N=X.length) (hsz:N≤1000000) (h:RowB storeC 2 176 w g (X)) :
  Calls Tryz.prog 199 #[.slice (some ⟨g,0,none⟩) N cap,.int .i64 N,.func (.func 127) #[] #[.pointer (some ⟨bc,0,none⟩)]] w fun e w'=>e= .returned (.tuple #[])∧∃Z,Z.Perm X∧S.Srt (S.Ord key rank) Z∧RowB storeC 2 176 w' g (Z)∧Off g w w':=by
 have HIS:=Qb (fun(A X B:List (Int×Int)) (a b:Nat) (w:World) (hKw:K w) (hDX:∀x∈X,D x) (hX:X.Pairwise fun x y=>rank x<rank y) (ha:a=A.length) (hb:b=A.length+X.length) (hN:N=(A++(X++B)).length) (h:RowB storeC 2 176 w g (A++(X++B)))=>insSortSt g bc key rank D K hK hD HC A X B cap a b N w hKw hDX hX ha hb hN hsz h)
 have HSM:=Qb (fun(A X Y B:List (Int×Int)) (a m b:Nat) (w:World) (hKw:K w) (hDX:∀x∈X,D x) (hDY:∀y∈Y,D y) (hSX:S.Srt (S.Ord key rank) X) (hSY:S.Srt (S.Ord key rank) Y) (hrk:∀x∈X,∀y∈Y,rank x<rank y) (h1:0<X.length) (h2:0<Y.length) (ha:a=A.length) (hm:m=A.length+X.length) (hb:b=A.length+X.length+Y.length) (hN:N=(A++(X++(Y++B))).length) (h:RowB storeC 2 176 w g (A++(X++(Y++B)))) =>
  symMergeSt g bc key rank D K hK hD HC cap N hsz (X.length+Y.length) A X Y B a m b w (Nat.le_refl _) hKw hDX hDY hSX hSY hrk h1 h2 ha hm hb hN h)
 have HDX:=Qb hDX
 have HRX:=Qb hX
 have HN:=Qb hN
 clear HC hD hDX hX hN
 go_enter Tryz.func199,Tryz.ntmps199
 go_wp2
 go_loopw [7,8] (fun va vb wr=>∃(p q:Nat) (Z1:List (Int×Int)),va= .int .i64 p∧vb= .int .i64 q∧q=p+20∧Z1.length=p∧p≤N∧RowB storeC 2 176 wr g (Z1++X.drop p)∧(∀ Z2,S.Bl (S.Ord key rank) 20 (X.drop p) Z2→S.Bl (S.Ord key rank) 20 X (Z1++Z2))∧Off g w wr) (fun va _ _=>N - (intOf va).toNat)
 case atStart=>exact⟨0,20,[],rfl,rfl,rfl,rfl,Nat.zero_le _,by simpa using h,fun Z2 h2=>by simpa using h2,Off.refl _ _⟩
 case round =>
  rename World=>wr
  clear h
  obtain⟨p,q,Z1,rfl,rfl,hq,hl,hp0,hrow,hbl,hO⟩:=hrel
  have hql:q≤N+20:=by omega
  have HQ:=Qb hq
  have HL:=Qb hl
  have HBL:=Qb hbl
  have HROW:=Qb hrow
  by_cases hlt:q≤N
  ·have hlt':(q:Int)≤(N:Int):=by omega
   have htk:((X.drop p).take 20).length=20:=by rw[List.length_take,List.length_drop,←HN.out];omega
   have hsplit:X.drop p=(X.drop p).take 20++X.drop q:=by rw[hq,←List.drop_drop,List.take_append_drop]
   obtain⟨T,hT⟩:∃T,(X.drop p).take 20=T:=⟨_,rfl⟩
   have hTD:∀x∈T,D x:=fun x hx=>HDX.out x (List.mem_of_mem_drop (List.mem_of_mem_take (by rw[hT];exact hx)))
   have hTR:T.Pairwise fun x y=>rank x<rank y:=by
    rw[← hT]
    exact(show X.Pairwise (fun x y=>rank x<rank y)from HRX.out).sublist ((List.take_sublist _ _).trans (List.drop_sublist _ _))
   rw[hT]at htk hsplit
   have hrow1:RowB storeC 2 176 wr g (Z1++(T++X.drop q)):=by rw[← hsplit];exact hrow
   have HSP:=Qb (And.intro htk (And.intro hsplit (And.intro hTD (And.intro hTR hrow1))))
   have hNl:N=(Z1++(T++X.drop q)).length:=by simp;have:=HN.out;omega
   have HNL:=Qb hNl
   clear hq hl hbl hrow htk hsplit hT hTD hTR hrow1 hNl
   go_wp2_with (first|(go_at_call 232;refine(HIS.out (Z1) (T) (X.drop q) p q _ (hK _ _ hKw hO) HSP.out.2.2.1 HSP.out.2.2.2.1 HL.out.symm (by have:=HL.out;have:=HQ.out;have:=HSP.out.1;omega) HNL.out HSP.out.2.2.2.2).mono ?_;rintro e w' ⟨rfl,Zn,hp,hs,hr',hO'⟩))
   go_roundw
   case rel =>
    have hzl:=hp.length_eq
    refine⟨q,q+20,Z1++Zn,rfl,by go_num,rfl,by rw[List.length_append,hzl,HSP.out.1,HL.out,HQ.out],hlt,by simpa using hr',fun Z2 h2=> ?_,hO.trans hO'⟩
    have h3:=S.Bl.cons HSP.out.1 hp hs h2
    rw[← HSP.out.2.1]at h3
    simpa using HBL.out _ h3
   case measure=>simp[intOf];have:=HQ.out;omega
  ·have hlt':¬(q:Int)≤(N:Int):=by omega
   have hTD:∀x∈X.drop p,D x:=fun x hx=>HDX.out x (List.mem_of_mem_drop hx)
   have hTR:(X.drop p).Pairwise fun x y=>rank x<rank y:=(show X.Pairwise (fun x y=>rank x<rank y)from HRX.out).sublist (List.drop_sublist _ _)
   have hrow1:RowB storeC 2 176 wr g (Z1++(X.drop p++[])):=by simpa using hrow
   have HSP:=Qb (And.intro hTD (And.intro hTR hrow1))
   have hNl:N=(Z1++(X.drop p++[])).length:=by simp;have:=HN.out;omega
   have HNL:=Qb hNl
   clear hq hl hbl hrow hTD hTR hrow1 hNl
   go_wp2_with (first|(go_at_call 232;refine(HIS.out (Z1) (X.drop p) ([]) p N _ (hK _ _ hKw hO) HSP.out.1 HSP.out.2.1 HL.out.symm (by rw[List.length_drop];have:=HL.out;have:=HN.out;omega) HNL.out HSP.out.2.2).mono ?_;rintro e w' ⟨rfl,Zn,hp,hs,hr',hO'⟩))
   have hB0:S.Bl (S.Ord key rank) 20 X (Z1++Zn):=HBL.out Zn (.last (by rw[List.length_drop];have:=HN.out;have:=HQ.out;omega) hp hs)
   have hO2:=hO.trans hO'
   have hrow2:RowB storeC 2 176 w' g (Z1++Zn):=by simpa using hr'
   obtain⟨V0,hV0⟩:∃V0,Z1++Zn=V0:=⟨_,rfl⟩
   rw[hV0]at hB0 hrow2
   have HB0:=Qb (And.intro hB0 hrow2)
   clear HSP HNL HROW HBL HL HQ hp hs hr' hB0 hrow2 hV0 hO hO' hlt hlt'
   go_loopw [6,7,8,9] (fun vk _ _ _ wx=>∃(kk:Nat) (V:List (Int×Int)),vk= .int .i64 kk∧0<kk∧kk≤2*N+20∧S.Bl (S.Ord key rank) kk X V∧RowB storeC 2 176 wx g (V)∧Off g w wx) (fun vk _ _ _ _=>2*N+40 - (intOf vk).toNat)
   case atStart=>exact⟨20,V0,rfl,by omega,by omega,HB0.out.1,HB0.out.2,hO2⟩
   case round =>
    rename World=>wx
    clear HB0 hO2
    obtain⟨kk,V,rfl,hk0,hkN,hB,hrow,hO⟩:=hrel
    have HB:=Qb (And.intro hB hrow)
    clear hB hrow
    by_cases hlt:kk<N
    ·go_wp2
     go_loopw [7,8] (fun va vb wy=>∃(p q:Nat) (V1 Z2:List (Int×Int)),va= .int .i64 p∧vb= .int .i64 q∧q=p+2*kk∧V1.length=p∧p≤N∧S.Bl (S.Ord key rank) kk (X.drop p) Z2∧RowB storeC 2 176 wy g (V1++Z2)∧(∀ V2,S.Bl (S.Ord key rank) (2*kk) (X.drop p) V2→S.Bl (S.Ord key rank) (2*kk) X (V1++V2))∧Off g w wy) (fun va _ _=>N - (intOf va).toNat)
     case atStart=>exact⟨0,2*kk,[],V,rfl,by go_num,by omega,rfl,Nat.zero_le _,by simpa using HB.out.1,by simpa using HB.out.2,fun V2 h2=>by simpa using h2,hO⟩
     case round =>
      rename World=>wy
      clear hO
      obtain⟨p,q,V1,Z2,rfl,rfl,hq,hl,hp0,hB2,hrow,hbl,hO⟩:=hrel
      have hxl:(X.drop p).length=N - p:=by rw[List.length_drop,HN.out]
      have hDp:∀x∈X.drop p,D x:=fun x hx=>HDX.out x (List.mem_of_mem_drop hx)
      have hRp:(X.drop p).Pairwise fun x y=>rank x<rank y:=(show X.Pairwise (fun x y=>rank x<rank y)from HRX.out).sublist (List.drop_sublist _ _)
      obtain⟨mm,hmm⟩:∃mm,p+kk=mm:=⟨_,rfl⟩
      have hmi:(p:Int)+(kk:Int)=(mm:Int):=by omega
      have hmN:mm≤N+N:=by omega
      have hqN:q≤N+N+N:=by omega
      by_cases hlt2:q≤N
      ·have hlt3:(q:Int)≤(N:Int):=by omega
       obtain⟨Xa,Xb,X',Za,Zb,Z',e1,e2,la,lb,pa,pb,sa,sb,hB'⟩:=hB2.two (by omega) hk0
       have hX'e:X.drop q=X':=by
        have h1:X.drop q=(X.drop p).drop (2*kk):=by rw[List.drop_drop,hq]
        rw[h1,e1,←List.append_assoc,List.drop_left' (by rw[List.length_append];omega)]
       subst e2
       have hra:∀x∈Za,∀y∈Zb,rank x<rank y:=fun x hx y hy=>by
        rw[e1]at hRp
        exact(List.pairwise_append.1 hRp).2.2 x (pa.subset hx) y (List.mem_append_left _ (pb.subset hy))
       have hDa:∀x∈Za,D x:=fun x hx=>hDp x (by rw[e1];exact List.mem_append_left _ (pa.subset hx))
       have hDb:∀x∈Zb,D x:=fun x hx=>hDp x (by rw[e1];exact List.mem_append_right _ (List.mem_append_left _ (pb.subset hx)))
       have lza:=pa.length_eq
       have lzb:=pb.length_eq
       have lz':=hB'.perm.length_eq
       have hNl:N=(V1++(Za++(Zb++Z'))).length:=by
        have h1:(X.drop p).length=Xa.length+(Xb.length+X'.length):=by rw[e1];simp
        simp;omega
       have HW:=Qb (And.intro hra (And.intro hDa (And.intro hDb (And.intro sa (And.intro sb (And.intro hNl hrow))))))
       have HW2:=Qb (And.intro e1 (And.intro hX'e (And.intro la (And.intro lb (And.intro pa (And.intro pb (And.intro hB' hbl)))))))
       have HL:=Qb (And.intro hl (And.intro hq (And.intro hmm (And.intro (show Za.length=kk by omega) (show Zb.length=kk by omega)))))
       clear hra hDa hDb sa sb hNl hrow e1 hX'e la lb pa pb hB' hbl hl hq hmm hxl hDp hRp hB2 lza lzb lz'
       go_wp2_with (first|(go_at_call 233;refine(HSM.out (V1) (Za) (Zb) (Z') p mm q _ (hK _ _ hKw hO) HW.out.2.1 HW.out.2.2.1 HW.out.2.2.2.1 HW.out.2.2.2.2.1 HW.out.1 (by have:=HL.out;omega) (by have:=HL.out;omega) HL.out.1.symm (by have:=HL.out;omega) (by have:=HL.out;omega) HW.out.2.2.2.2.2.1 HW.out.2.2.2.2.2.2).mono ?_;rintro e w' ⟨rfl,Zn,hp,hs,hr',hO'⟩))
       go_roundw
       case rel =>
        obtain⟨e1,hX'e,la,lb,pa,pb,hB',hbl⟩:=HW2.out
        have hzl:=hp.length_eq
        rw[List.length_append]at hzl
        refine⟨q,q+2*kk,V1++Zn,Z',rfl,by go_num,rfl,by rw[List.length_append,hzl];have:=HL.out;omega,hlt2,by rw[hX'e];exact hB',by simpa using hr',fun V2 h2=> ?_,hO.trans hO'⟩
        rw[hX'e]at h2
        have h3:=S.Bl.cons (k:=2*kk) (X1:=Xa++Xb) (by rw[List.length_append];omega) (hp.trans (pa.append pb)) hs h2
        have h4:=hbl (Zn++V2) (by rw[e1];simpa using h3)
        simpa using h4
       case measure=>simp[intOf];have:=HL.out;omega
      ·have hlt3:¬(q:Int)≤(N:Int):=by omega
       by_cases hm:mm<N
       ·obtain⟨Xa,Xb,Za,Zb,e1,e2,la,pa,pb,sa,sb⟩:=hB2.rest (by omega) (by omega)
        subst e2
        have hra:∀x∈Za,∀y∈Zb,rank x<rank y:=fun x hx y hy=>by
         rw[e1]at hRp
         exact(List.pairwise_append.1 hRp).2.2 x (pa.subset hx) y (pb.subset hy)
        have hDa:∀x∈Za,D x:=fun x hx=>hDp x (by rw[e1];exact List.mem_append_left _ (pa.subset hx))
        have hDb:∀x∈Zb,D x:=fun x hx=>hDp x (by rw[e1];exact List.mem_append_right _ (pb.subset hx))
        have lza:=pa.length_eq
        have lzb:=pb.length_eq
        have hxs:(X.drop p).length=Xa.length+Xb.length:=by rw[e1];simp
        have hNl:N=(V1++(Za++(Zb++[]))).length:=by simp;omega
        have hrow':RowB storeC 2 176 wy g (V1++(Za++(Zb++[]))):=by simpa using hrow
        have HW:=Qb (And.intro hra (And.intro hDa (And.intro hDb (And.intro sa (And.intro sb (And.intro hNl hrow'))))))
        have HW2:=Qb (And.intro e1 (And.intro la (And.intro pa (And.intro pb hbl))))
        have HL:=Qb (And.intro hl (And.intro hq (And.intro hmm (And.intro (show Za.length=kk by omega) (And.intro (show Zb.length=N - mm by omega) hxl)))))
        clear hra hDa hDb sa sb hNl hrow hrow' e1 la pa pb hbl hl hq hmm hxl hDp hRp hB2 lza lzb hxs
        go_wp2_with (first|(go_at_call 233;refine(HSM.out (V1) (Za) (Zb) ([]) p mm N _ (hK _ _ hKw hO) HW.out.2.1 HW.out.2.2.1 HW.out.2.2.2.1 HW.out.2.2.2.2.1 HW.out.1 (by have:=HL.out;omega) (by have:=HL.out;omega) HL.out.1.symm (by have:=HL.out;omega) (by have:=HL.out;omega) HW.out.2.2.2.2.2.1 HW.out.2.2.2.2.2.2).mono ?_;rintro e w' ⟨rfl,Zn,hp,hs,hr',hO'⟩))
        go_roundw
        case rel =>
         obtain⟨e1,la,pa,pb,hbl⟩:=HW2.out
         exact⟨2*kk,V1++Zn,by go_num,by omega,by omega,hbl Zn (.last (by have:=HL.out;omega) (by rw[e1];exact hp.trans (pa.append pb)) hs),by simpa using hr',hO.trans hO'⟩
        case measure=>simp[intOf];omega
       ·have hm2:¬(mm:Int)<(N:Int):=by omega
        obtain⟨h1,h2⟩:=hB2.one (by omega)
        have hres:S.Bl (S.Ord key rank) (2*kk) X (V1++Z2):=hbl Z2 (.last (by omega) h1 h2)
        have HRES:=Qb (And.intro hres hrow)
        clear hbl hl hq hmm hxl hDp hRp hB2 h1 h2 hres hrow
        go_wp2
        go_roundw
        case rel=>exact⟨2*kk,V1++Z2,by go_num,by omega,by omega,HRES.out.1,HRES.out.2,hO⟩
        case measure=>simp[intOf];omega
    ·have hlt':¬(kk:Int)<(N:Int):=by omega
     obtain⟨h1,h2⟩:=HB.out.1.one (by have:=HN.out;omega)
     have HP:=Qb h1
     clear h1
     go_wp2
     go_end0
     exact⟨rfl,V,HP.out,h2,HB.out.2,hO⟩
theorem sortStableSt (g:Nat) (bc:Nat) (key:Int×Int→Int) (rank:Int×Int→Nat) (D:Int×Int→Prop) (K:World→Prop) (hK:∀w w',K w→Off g w w'→K w') (hD:∀x,D x→ -1000000000≤key x∧key x≤1000000000)
  (HC:∀w' x y,K w'→D x→D y→Calls Tryz.prog 127 #[.agg #[.int .i64 x.1,.int .i64 x.2],.agg #[.int .i64 y.1,.int .i64 y.2],.pointer (some ⟨bc,0,none⟩)] w' fun e w2=>e= .returned (.int .i64 (key x - key y))∧Ext w' w2)
  (X:List (Int×Int)) (cap N:Nat) (w:World) (hKw:K w) (hDX:∀x∈X,D x) (hX:X.Pairwise fun x y=>rank x<rank y) (hN:N=X.length) (hsz:N≤1000000) (h:RowB storeC 2 176 w g (X)) :
  Calls Tryz.prog 126 #[.slice (some ⟨g,0,none⟩) N cap,.func (.func 127) #[] #[.pointer (some ⟨bc,0,none⟩)]] w fun e w'=>e= .returned (.tuple #[])∧∃Z,Z.Perm X∧S.Srt (S.Ord key rank) Z∧RowB storeC 2 176 w' g (Z)∧Off g w w':=by
 have HS:=Qb (stableSt g bc key rank D K hK hD HC X cap N w hKw hDX hX hN hsz h)
 clear HC hD hDX hX hN h
 go_enter Tryz.func126,Tryz.ntmps126
 go_wp2_with (first|(go_at_call 199;refine HS.out.mono ?_;rintro e w' ⟨rfl,Z,h1,h2,h3,h4⟩))
 go_end0
 exact⟨rfl,Z,h1,h2,h3,h4⟩
end Go.Proofs.YtgloajbgphcloaaGreat.Cl
