/- On which day each islet catches beetles first, if a ship goes from islet to islet. -/
import Derived.Test.YtgloajbgphcloaaGreatQs
import Derived.RangeFuncCalls
namespace Go.Proofs.YtgloajbgphcloaaGreat.Bn
set_option linter.unusedVariables false
set_option linter.unusedSimpArgs false
open Go.RowKit Go.Shelf
attribute [local go_sem] Oper.semAt_some
def chainT (D:List Int):List Trip:=(List.range D.length).map fun i=>⟨D.getD i 0,(i:Int),(i:Int)+1,0⟩
theorem chain_len (D:List Int):(chainT D).length=D.length:=by simp[chainT]
theorem chain_get {D:List Int} {k:Nat} (h:k<D.length):(chainT D)[k]? =some ⟨D.getD k 0,(k:Int),(k:Int)+1,0⟩:=by simp[chainT,h]
structure St (m n0 bo bp bq bgv bg B:Nat) (V:Array Value) (fo fg:Nat→Value) (xs:List Int) (Y:World):Prop where
 box:Blk Y n0 V 204
 out:FnB fo (m+1) 3 Y bo
 pq:Blk Y bp #[.pointer (some ⟨bq,0,none⟩)] 283
 q:∃v,Blk Y bq #[v] 285∧QU intC 1 n0 Y v xs∧(∀ k,InB v k→bgv<k)∧(xs=[]→∀k,InB v k→k<B)
 gv:Blk Y bgv #[.slice (some ⟨bg,0,none⟩) m m] 56
 gone:FnB fg m 4 Y bg
 o1:n0<bo
 o2:bo<bq
 o3:bq<bp
 o4:bp<bg
 o5:bg<bgv
theorem St.ext {m n0 bo bp bq bgv bg B:Nat} {V:Array Value} {fo fg:Nat→Value} {xs:List Int} {A Y:World} (h:St m n0 bo bp bq bgv bg B V fo fg xs A) (hE:Ext A Y):St m n0 bo bp bq bgv bg B V fo fg xs Y:=by
 obtain⟨v,h1,h2,h3,h4⟩:=h.q
 exact⟨h.box.ext hE,h.out.ext hE,h.pq.ext hE,⟨v,h1.ext hE,h2.ext hE,h3,h4⟩,h.gv.ext hE,h.gone.ext hE,h.o1,h.o2,h.o3,h.o4,h.o5⟩
theorem St.kept {m n0 bo bp bq bgv bg B:Nat} {V:Array Value} {fo fg:Nat→Value} {xs:List Int} {A Y:World} {row:Option Nat} (h:St m n0 bo bp bq bgv bg B V fo fg xs A) (hg:A.grownBy Y row) (hr:∀r,row=some r→∃o:Obj,A.heap[r]? =some o∧o.isCells=false):St m n0 bo bp bq bgv bg B V fo fg xs Y:=by
 obtain⟨v,h1,h2,h3,h4⟩:=h.q
 exact⟨h.box.kept hg hr,h.out.kept hg hr,h.pq.kept hg hr,⟨v,h1.kept hg hr,h2.kept hg hr,h3,h4⟩,h.gv.kept hg hr,h.gone.kept hg hr,h.o1,h.o2,h.o3,h.o4,h.o5⟩
theorem St.setOut {m n0 bo bp bq bgv bg B:Nat} {V:Array Value} {fo fg:Nat→Value} {xs:List Int} {Y:World} (h:St m n0 bo bp bq bgv bg B V fo fg xs Y) {i:Nat} (hi:i<m+1) (u:Value):St m n0 bo bp bq bgv bg B V (fun k=>if k=i then u else fo k) fg xs (Y.setCell ⟨bo,i,none⟩ u):=by
 obtain⟨v,h1,h2,h3,h4⟩:=h.q
 have a1:=h.o1;have a2:=h.o2;have a3:=h.o3;have a4:=h.o4;have a5:=h.o5
 exact⟨h.box.other (by simp;omega) _,h.out.set hi u,h.pq.other (by simp;omega) _,⟨v,h1.other (by simp;omega) _,h2.mod (S:=fun k=>k=bo) ((Mod.refl (fun k=>k=bo) Y).set (a:=⟨bo,i,none⟩) (.inl rfl) u) (fun k hk e=>by have:=h3 k hk;omega),h3,h4⟩,h.gv.other (by simp;omega) _,h.gone.other (by simp;omega) _,a1,a2,a3,a4,a5⟩
theorem St.setGone {m n0 bo bp bq bgv bg B:Nat} {V:Array Value} {fo fg:Nat→Value} {xs:List Int} {Y:World} (h:St m n0 bo bp bq bgv bg B V fo fg xs Y) {i:Nat} (hi:i<m) (u:Value):St m n0 bo bp bq bgv bg B V fo (fun k=>if k=i then u else fg k) xs (Y.setCell ⟨bg,i,none⟩ u):=by
 obtain⟨v,h1,h2,h3,h4⟩:=h.q
 have a1:=h.o1;have a2:=h.o2;have a3:=h.o3;have a4:=h.o4;have a5:=h.o5
 exact⟨h.box.other (by simp;omega) _,h.out.other (by simp;omega) _,h.pq.other (by simp;omega) _,⟨v,h1.other (by simp;omega) _,h2.mod (S:=fun k=>k=bg) ((Mod.refl (fun k=>k=bg) Y).set (a:=⟨bg,i,none⟩) (.inl rfl) u) (fun k hk e=>by have:=h3 k hk;omega),h3,h4⟩,h.gv.other (by simp;omega) _,h.gone.set hi u,a1,a2,a3,a4,a5⟩
theorem St.congr {m n0 bo bp bq bgv bg B:Nat} {V:Array Value} {fo fg fo' fg':Nat→Value} {xs:List Int} {Y:World} (h:St m n0 bo bp bq bgv bg B V fo fg xs Y) (h1:∀i,i<m+1→fo i=fo' i) (h2:∀i,i<m→fg i=fg' i):St m n0 bo bp bq bgv bg B V fo' fg' xs Y :=
 ⟨h.box,h.out.congr h1,h.pq,h.q,h.gv,h.gone.congr h2,h.o1,h.o2,h.o3,h.o4,h.o5⟩
theorem St.reB {m n0 bo bp bq bgv bg B:Nat} {V:Array Value} {fo fg:Nat→Value} {xs:List Int} {Y:World} (h:St m n0 bo bp bq bgv bg B V fo fg xs Y) {B':Nat} (hB:Y.heap.size≤B'):St m n0 bo bp bq bgv bg B' V fo fg xs Y:=by
 obtain⟨v,h1,h2,h3,h4⟩:=h.q
 exact⟨h.box,h.out,h.pq,⟨v,h1,h2,h3,fun _ k hk=>by have:=(h2.lt hk).2;omega⟩,h.gv,h.gone,h.o1,h.o2,h.o3,h.o4,h.o5⟩
theorem St.put {m n0 bo bp bq bgv bg B:Nat} {V:Array Value} {fo fg:Nat→Value} {Y:World} (h:St m n0 bo bp bq bgv bg B V fo fg [] Y) (x:Int) :
  Calls Tryz.prog 164 #[.pointer (some ⟨bq,0,none⟩),.int .i64 x] Y fun e W=>e= .returned (.tuple #[])∧St m n0 bo bp bq bgv bg B V fo fg [x] W∧Mod (fun k=>n0≤k) Y W∧(bq<B→KeepC B Y W)∧KeepsOthers Y W:=by
 obtain⟨v,h1,h2,h3,h4⟩:=h.q
 have a1:=h.o1;have a2:=h.o2;have a3:=h.o3;have a4:=h.o4;have a5:=h.o5
 have hl:=h.box.lt
 refine(put_any n0 bq v [] x Y h1 h2 (fun e=>by have:=h3 _ e;omega) (by omega) (by simp)).mono ?_
 rintro e W ⟨rfl,v',g1,g2,g3,g4,g5⟩
 have hn:∀k,k≤bgv→k≠bq→¬(k=bq∨InB v k):=fun k hk hne e=>by
  rcases e with e|e
  ·exact hne e
  ·have:=h3 k e;omega
 have hlv:=h.gv.lt
 refine⟨rfl,⟨h.box.mod g3 (hn _ (by omega) (by omega)),h.out.mod g3 (hn _ (by omega) (by omega)),h.pq.mod g3 (hn _ (by omega) (by omega)),⟨v',g1,g2,fun k hk=> ?_,fun e=>by cases e⟩,h.gv.mod g3 (hn _ (by omega) (by omega)),h.gone.mod g3 (hn _ (by omega) (by omega)),a1,a2,a3,a4,a5⟩,g3.mono (fun k _ e=> ?_),fun hB=>g3.keepC (fun k _ e=> ?_),g5⟩
 ·rcases g4 k hk with e|e
  ·exact h3 k e
  ·omega
 ·rcases e with e|e
  ·omega
  ·exact(h2.lt e).1
 ·rcases e with e|e
  ·omega
  ·exact h4 rfl k e
theorem St.take1 {m n0 bo bp bq bgv bg B:Nat} {V:Array Value} {fo fg:Nat→Value} {x:Int} {Y:World} (h:St m n0 bo bp bq bgv bg B V fo fg [x] Y) :
  Calls Tryz.prog 165 #[.pointer (some ⟨bq,0,none⟩)] Y fun e W=>e= .returned (.tuple #[.int .i64 x,.bool true])∧(∀ B',W.heap.size≤B'→St m n0 bo bp bq bgv bg B' V fo fg [] W)∧Mod (fun k=>n0≤k) Y W∧KeepsOthers Y W:=by
 obtain⟨v,h1,h2,h3,h4⟩:=h.q
 have a1:=h.o1;have a2:=h.o2;have a3:=h.o3;have a4:=h.o4;have a5:=h.o5
 refine(take_some n0 bq v [] x Y h1 h2 (fun e=>by have:=h3 _ e;omega) (by simp)).mono ?_
 rintro e W ⟨rfl,v',g1,g2,g3,g4,g5⟩
 refine⟨rfl,fun B' hB'=>⟨h.box.mod g3 (by omega),h.out.mod g3 (by omega),h.pq.mod g3 (by omega),⟨v',g1,g2,fun k hk=>h3 k (g4 k hk),fun _ k hk=>by have:=(g2.lt hk).2;omega⟩,h.gv.mod g3 (by omega),h.gone.mod g3 (by omega),a1,a2,a3,a4,a5⟩,g3.mono (fun k _ e=>by omega),g5⟩
theorem St.take0 {m n0 bo bp bq bgv bg B:Nat} {V:Array Value} {fo fg:Nat→Value} {Y:World} (h:St m n0 bo bp bq bgv bg B V fo fg [] Y) :
  Calls Tryz.prog 165 #[.pointer (some ⟨bq,0,none⟩)] Y fun e W=>e= .returned (.tuple #[.int .i64 0,.bool false])∧Y=W:=by
 obtain⟨v,h1,h2,h3,h4⟩:=h.q
 obtain⟨a,c,hv⟩:=h2.shape
 exact take_none bq Y v a c hv h1
theorem St.shut {m n0 bo bp bq bgv bg B:Nat} {V:Array Value} {fo fg:Nat→Value} {xs:List Int} {C:Nat} {w w':World} (hS:ShutM C w w') (h:St m n0 bo bp bq bgv bg B V fo fg xs w):FnB fo (m+1) 3 w' bo:=FnB.shut hS h.out
end Go.Proofs.YtgloajbgphcloaaGreat.Bn
