/- The ship's search for calls: the contract, and what lies in memory. -/
import Derived.Test.YtgloajbgphcloaaGreatQm
import Derived.Test.YtgloajbgphcloaaGreatQs
namespace Go.Proofs.YtgloajbgphcloaaGreat.Sh
set_option linter.unusedVariables false
set_option linter.unusedSimpArgs false
open Go.RowKit Go.Shelf
open Lib renaming hid → Qb
open Nat renaming le_trans → Qa, lt_of_lt_of_le → Qc
attribute [local go_sem] Oper.semAt_some
def OnRet (R:Act→World→Prop):Exit→Act→World→Prop
 | .ret,a,w=>R a w
 | _,_,_=>False
theorem wpIn_scope_ret {P:Program} {n:Nat} {c:Code} {Q:Exit→Act→World→Prop} {a:Act} {w:World} (h:∀R:Act→World→Prop,(∀ a w,Q .ret a w→R a w)→c.wpIn Fence.wide n P (OnRet R) a w):(Code.scope c).wpIn Fence.wide n P Q a w:=by
 refine wpIn_wide.2 (wp_scope_straight (wpIn_wide.1 (wpIn_mono (h (fun a w=>Q .ret a w) fun _ _ q=>q) ?_)))
 intro e a w hq
 cases e<;>first|exact hq|exact hq.elim
structure KeepsM (bM:Nat) (w w':World):Prop where
 same:∀d o,d≠bM→w.heap[d]? =some o→o.isCells=false→w'.heap[d]? =some o
theorem KeepsM.refl (bM:Nat) (w:World):KeepsM bM w w:=⟨fun _ _ _ h _=>h⟩
theorem KeepsM.trans {bM:Nat} {x y z:World} (h:KeepsM bM x y) (k:KeepsM bM y z):KeepsM bM x z:=⟨fun d o hd h1 h2=>k.same d o hd (h.same d o hd h1 h2) h2⟩
theorem KeepsM.of {bM:Nat} {w w':World} (h:KeepsOthers w w'):KeepsM bM w w':=⟨fun d o _ h1 h2=>h.same d o h1 h2⟩
structure Env (w0:World) (p:Pass) (vt vs:Value) (lo hi:Int) (bd bg bp bo bs bM base:Nat) (w:World):Prop where
 ext:Ext w0 w
 dead:Blk w bd #[.map (some bM)] 197
 gap:Blk w bg #[.int .i64 lo,.int .i64 hi] 25
 pass:Blk w bp (passV p vt vs) 33
 self:Blk w bs #[.func (.func 84) #[] #[.pointer (some ⟨bd,0,none⟩),.pointer (some ⟨bg,0,none⟩),.pointer (some ⟨bp,0,none⟩),.pointer (some ⟨bo,0,none⟩),.pointer (some ⟨bs,0,none⟩)]] 198
 ne:bd≠bo∧bg≠bo∧bp≠bo∧bs≠bo∧bM≠bo∧bd≠bM∧bg≠bM∧bp≠bM∧bs≠bM
 old:w0.heap.size≤bo∧w0.heap.size≤bM∧w0.heap.size≤base
 below:bd<base∧bg<base∧bp<base∧bo<base∧bs<base∧bM<base
 room:base≤w.heap.size
theorem Env.mod {w0:World} {p:Pass} {vt vs:Value} {lo hi:Int} {bd bg bp bo bs bM base:Nat} {w w':World} {S:Nat→Prop} (h:Env w0 p vt vs lo hi bd bg bp bo bs bM base w) (hm:Mod S w w') (hS:∀k,S k→k=bo∨k=bM∨base≤k):Env w0 p vt vs lo hi bd bg bp bo bs bM base w':=by
 obtain⟨n1,n2,n3,n4,n5,n6,n7,n8,n9⟩:=h.ne
 obtain⟨o1,o2,o3⟩:=h.old
 obtain⟨b1,b2,b3,b4,b5,b6⟩:=h.below
 have no:∀k,k<base→k≠bo→k≠bM→¬S k:=fun k h1 h2 h3 e=>by rcases hS k e with e|e|e<;>omega
 exact⟨hm.ext0 h.ext (fun k e=>by rcases hS k e with e|e|e<;>omega),h.dead.mod hm (no _ b1 n1 n6),h.gap.mod hm (no _ b2 n2 n7),h.pass.mod hm (no _ b3 n3 n8),h.self.mod hm (no _ b5 n4 n9),h.ne,h.old,h.below,Qa h.room hm.size⟩
theorem Env.toExt {w0:World} {p:Pass} {vt vs:Value} {lo hi:Int} {bd bg bp bo bs bM base:Nat} {w w':World} (h:Env w0 p vt vs lo hi bd bg bp bo bs bM base w) (he:Ext w w'):Env w0 p vt vs lo hi bd bg bp bo bs bM base w':=h.mod (he.mod (fun _=>False)) (fun _ e=>e.elim)
def cost:Nat→Nat
 | 0=>0
 | k+1=>1+60*cost k
theorem cost_bd {k:Nat} (h:k≤8):cost k≤10^15:=by
 rcases(by omega:k=0∨k=1∨k=2∨k=3∨k=4∨k=5∨k=6∨k=7∨k=8)with rfl|rfl|rfl|rfl|rfl|rfl|rfl|rfl|rfl<;>decide
theorem Good.snoc {p:Pass} {lo hi:Int} {L:List (Int×Int)} (G:Good p lo hi L) {c:Int×Int} (h1:callB p c.1 c.2=true) (h2:goesB p c.1 c.2 (swAt p c.1.toNat).2=true) (h3:lo≤c.1 - before L L.length∧c.1 - before L L.length≤hi):Good p lo hi (L++[c]):=by
 have hb:∀i,i≤L.length→before (L++[c]) i=before L i:=fun i hi=>by
  cases i with
  | zero=>rfl
  | succ i=>simp[before,List.getD_eq_getElem?_getD,List.getElem?_append_left (show i<L.length by omega)]
 refine⟨fun i hi=> ?_,fun i hi=> ?_,fun i hi=> ?_⟩
 ·rcases getElem_snoc hi with⟨e1,e2⟩|⟨e1,e2⟩
  ·rw[e2 e1];exact G.call i e1
  ·rw[e2];exact h1
 ·rcases getElem_snoc hi with⟨e1,e2⟩|⟨e1,e2⟩
  ·rw[e2 e1];exact G.sure i e1
  ·rw[e2];exact h2
 ·rcases getElem_snoc hi with⟨e1,e2⟩|⟨e1,e2⟩
  ·rw[e2 e1,hb i (by omega)];exact G.gap i e1
  ·rw[e2,e1,hb _ (Nat.le_refl _)];exact h3
theorem before_snoc (L:List (Int×Int)) (c:Int×Int):before (L++[c]) (L++[c]).length=c.1:=by simp[before,List.getD_eq_getElem?_getD]
def Found (p:Pass) (lo hi:Int) (bo bM base left n:Nat) (L:List (Int×Int)) (v:Value) (w:World) (e:Ending) (w':World):Prop :=
 ∃(b:Bool) (v':Value) (L':List (Int×Int)),e= .returned (.bool b)∧Blk w' bo #[v'] 76∧QU spC 2 base w' v' (L++L')∧(b=true→L'.length=left∧Good p lo hi (L++L'))∧(b=false→L'=[]) ∧
  Dead w' bM (n+cost left)∧Mod (fun k=>k=bo∨k=bM∨InB v k) w w'∧(∀ k,InB v' k→InB v k∨w.heap.size≤k)∧KeepsM bM w w'
def Search (w0:World) (p:Pass) (vt vs:Value) (lo hi:Int) (bd bg bp bo bs bM base left:Nat):Prop :=
 ∀(L:List (Int×Int)) (d n:Nat) (v:Value) (w:World),L.length+left≤8→(d:Int)=before L L.length→Good p lo hi L→n+cost left≤10^17→Env w0 p vt vs lo hi bd bg bp bo bs bM base w→Blk w bo #[v] 76→QU spC 2 base w v L→Dead w bM n →
  Calls Tryz.prog 84 #[.agg #[.int .i64 (d:Int),.int .i64 (left:Int)],.pointer (some ⟨bd,0,none⟩),.pointer (some ⟨bg,0,none⟩),.pointer (some ⟨bp,0,none⟩),.pointer (some ⟨bo,0,none⟩),.pointer (some ⟨bs,0,none⟩)] w (Found p lo hi bo bM base left n L v w)
set_option maxRecDepth 100000 in
set_option maxHeartbeats 8000000 in
theorem search_zero (w0:World) (p:Pass) (vt vs:Value) (lo hi:Int) (bd bg bp bo bs bM base:Nat):Search w0 p vt vs lo hi bd bg bp bo bs bM base 0:=by
 intro L d n v w hl hd hG hn hE hO hQ hD
 have HG:=Qb hG
 have HQ:=Qb hQ
 clear hG hQ hn hd
 refine(callsIn_wide (n:=5)).1 ?_
 refine callsIn_of_wp_marks Tryz.func84 rfl trivial ?_ rfl
 simp only[Tryz.ntmps84,List.size_toArray,List.length_cons,List.length_nil,Nat.reduceAdd,Nat.reduceSub,Array.replicate_succ,Array.replicate_zero,List.push_toArray,List.append_toArray,List.nil_append,List.cons_append]
 gi_wp2
 obtain⟨n0,hn0⟩:∃k,w.heap.size=k:=⟨_,rfl⟩
 obtain⟨w1,hw1⟩:∃y,(w.alloc (.cells #[.int .i64 (d:Int),.int .i64 0] 200)).alloc (.cells #[.bool false] 4)=y:=⟨_,rfl⟩
 have hS1:Blk w1 n0 #[.int .i64 (d:Int),.int .i64 0] 200:=by rw[← hw1];exact(Blk.new' hn0.symm _ _).alloc _
 have hR1:Blk w1 (n0+1) #[.bool false] 4:=by rw[← hw1];exact Blk.new' (by simp[hn0]) _ _
 have hE1:Ext w w1:=by rw[← hw1];(with_reducible(repeat(first|exact Ext.refl _|assumption|apply Ext.alloc|apply Ext.drew|exact ext_plus _ _|(apply Ext.setCell;rotate_left;(simp<;>omega))|(apply Ext.trans;rotate_left;exact ext_plus _ _)|(apply Ext.trans;rotate_left;assumption))))
 simp only[hw1,hn0]
 have HN0:=Qb hn0
 clear hw1 hn0
 refine wpIn_scope_ret fun RR hR'=> ?_
 have HR:=Qb hR'
 have k0:=hS1.cell
 have k1:=hS1.lt
 have k2:=hR1.cell
 have k3:=hR1.lt
 have k4:=hR1.free
 clear hR'
 gi_wp2
 refine HR.out _ _ ?_
 have hR2:=hR1.set 0 (.bool true)
 have hE2:=hE1.setCell (p:=⟨n0+1,0,none⟩) (by rw[HN0.out];simp) (.bool true)
 refine leaves_marks (Marks.nil n0 _) (fun w' hS=> ?_)
 have q0:=(hS.blk hR2).cell
 have q1:=(hS.blk hR2).lt
 have hE3:Ext w w':=hS.ext hE2 (by rw[HN0.out];exact Nat.le_refl _)
 refine⟨.bool true,by simp[results,Tryz.results84,go_sem,q0,q1],true,v,[],rfl,hO.ext hE3,by rw[List.append_nil];exact HQ.out.ext hE3,fun _=>⟨rfl,by rw[List.append_nil];exact HG.out⟩,fun h=>(by cases h),(hD.ext hE3).mono (by omega),hE3.mod _,fun k hk=> .inl hk,KeepsM.of (ext_others hE3)⟩
structure Rs (w0:World) (p:Pass) (vt vs:Value) (lo hi:Int) (bd bg bp bo bs bM base k n d:Nat) (L:List (Int×Int)) (v:Value) (w:World) (n0 j b y:Nat) (wr:World):Prop where
 day:Blk wr b #[.int .i64 (y:Int)] 3
 ge:(d:Int)+lo≤y
 left:(j:Int)+y=d+hi+1
 spot:Blk wr n0 #[.int .i64 (d:Int),.int .i64 ((k:Int)+1)] 200
 res:Blk wr (n0+1) #[.bool false] 4
 env:Env w0 p vt vs lo hi bd bg bp bo bs bM base wr
 out:∃v',Blk wr bo #[v'] 76∧QU spC 2 base wr v' L∧(∀ q,InB v' q→InB v q∨w.heap.size≤q)∧¬InB v' n0∧¬InB v' (n0+1)∧¬InB v' b
 dead:∃m,Dead wr bM m∧m+j*cost k≤n+60*cost k
 mod:Mod (fun q=>q=bo∨q=bM∨InB v q) w wr
 keeps:KeepsM bM w wr
 far:n0+1<b
theorem Marks.mod {B:Nat} {ds:List Deferred} {w w':World} {S:Nat→Prop} (h:Marks B ds w) (hm:Mod S w w') (hS:∀k,S k→k<B):Marks B ds w':=by
 obtain⟨L,e,hn,hL⟩:=h
 exact⟨L,e,hn,fun D hD=>⟨(hL D hD).1,(hm.block D (Array.getElem?_eq_some_iff.1 (hL D hD).2).1 (fun hs=>by have:=hS D hs;have:=(hL D hD).1;omega)).trans (hL D hD).2⟩⟩
theorem QU.shut {α:Type} {f:α→List Value} {sz base B:Nat} {w w':World} {v:Value} {xs:List α} (h:QU f sz base w v xs) (hS:ShutM B w w'):QU f sz base w' v xs:=by
 rcases h with h|⟨g,off,cap,rfl,hb,hgl,hc,hro,hx⟩
 ·exact .inl h
 ·have hsz:g<w'.heap.size:=by rw[← hS.size];exact hgl
  by_cases hz:∃o,w.cell? ⟨g,o,none⟩≠none
  ·obtain⟨o0,h0⟩:=hz
   obtain⟨u,hu⟩:=Option.ne_none_iff_exists'.1 h0
   have e:w'.heap[g]? =w.heap[g]? :=by
    unfold World.cell? at hu
    cases hg:w.heap[g]? with
    | none=>simp[hg]at hu
    | some o =>
     simp only[hg]at hu
     rw[hS.cells g o hg (by cases o<;>first|rfl|(simp at hu))]
   have ec:∀o,w'.cell? ⟨g,o,none⟩=w.cell? ⟨g,o,none⟩∧w'.frozen? ⟨g,o,none⟩=w.frozen? ⟨g,o,none⟩:=fun o=>by
    unfold World.cell? World.frozen?
    simp only[e,and_self]
   exact .inr ⟨g,off,cap,rfl,hb,hsz,hc,fun j hj=>by rw[(ec _).1,(ec _).2];exact hro j hj,fun i hi j u hu=>by rw[(ec _).1];exact hx i hi j u hu⟩
  ·have hz':∀o,w.cell? ⟨g,o,none⟩=none:=fun o=>Classical.byContradiction fun h=>hz ⟨o,h⟩
   refine .inr ⟨g,off,cap,rfl,hb,hsz,hc,fun j hj=> ?_,fun i hi j u hu=> ?_⟩
   ·have:=(hro j hj).1;rw[hz']at this;cases this
   ·have:=hx i hi j u hu;rw[hz']at this;cases this
theorem none_found {w0:World} {p:Pass} {vt vs:Value} {lo hi:Int} {bd bg bp bo bs bM base k n d:Nat} {L:List (Int×Int)} {v:Value} {w:World} {n0 j b y m:Nat} {wr w3 w':World} (hR:Rs w0 p vt vs lo hi bd bg bp bo bs bM base k n d L v w n0 j b y wr)
  (hD3:Dead w3 bM (m+1)) (hM3:Mod (fun q=>q=bM) wr w3) (hm:m+1≤n+cost (k+1)) (hw:w.heap.size=n0) (hbM:bM<n0) (hbo:bo<n0) (u:Value) (hS:ShutM n0 (w3.setCell ⟨n0+1,0,none⟩ u) w'):Found p lo hi bo bM base (k+1) n L v w (.returned (.bool false)) w':=by
 obtain⟨v',h1,h2,h3,h4,h5,h6⟩:=hR.out
 obtain⟨n1,n2,n3,n4,n5,n6,n7,n8,n9⟩:=hR.env.ne
 obtain⟨b1,b2,b3,b4,b5,b6⟩:=hR.env.below
 have M4:Mod (fun q=>q=n0+1) w3 (w3.setCell ⟨n0+1,0,none⟩ u):=(Mod.refl (fun q=>q=n0+1) w3).set (a:=⟨n0+1,0,none⟩) (.inl rfl) u
 have M5:Mod (fun q=>n0≤q) (w3.setCell ⟨n0+1,0,none⟩ u) w':=⟨hS.os,hS.tape,hS.output,Nat.le_of_eq hS.size,fun q _ h=>hS.below q (by omega)⟩
 have hz:=hR.mod.size
 have hz3:=hM3.size
 have low:∀q,q<n0→q≠bM→w'.heap[q]? =wr.heap[q]? :=fun q hq hne=>(hS.below q hq).trans ((M4.block q (by omega) (by omega)).trans (hM3.block q (by omega) hne))
 refine⟨false,v',[],rfl,hS.blk ((h1.mod hM3 (fun e=>n5 e.symm)).mod M4 (by omega)),?_,fun h=>(by cases h),fun _=>rfl,((hD3.mod M4 (by omega)).mod M5 (by omega)).mono hm,?_,h3,?_⟩
 ·rw[List.append_nil]
  exact QU.shut ((h2.mod hM3 (fun q hq e=>by have:=(h2.lt hq).1;omega)).mod M4 (fun q hq e=>by rw[e]at hq;exact h5 hq)) hS
 ·exact⟨(M5.os.trans M4.os).trans (hM3.os.trans hR.mod.os),(M5.tape.trans M4.tape).trans (hM3.tape.trans hR.mod.tape),(M5.output.trans M4.output).trans (hM3.output.trans hR.mod.output),Qa hz (Qa hz3 (Qa M4.size M5.size)),fun q hq hs=>(low q (by omega) (fun e=>hs (.inr (.inl e)))).trans (hR.mod.block q hq hs)⟩
 ·exact⟨fun q o hq ho hc=>by
   have hlt:q<w.heap.size:=(Array.getElem?_eq_some_iff.1 ho).1
   exact(low q (by omega) hq).trans (hR.keeps.same q o hq ho hc)⟩
theorem Mod.chain {S T:Nat→Prop} {x y z:World} (h:Mod S x y) (k:Mod T y z) (hT:∀q,q<x.heap.size→T q→S q):Mod S x z :=
 ⟨k.os.trans h.os,k.tape.trans h.tape,k.output.trans h.output,Qa h.size k.size,fun q hq hs=>(k.block q (Qc hq h.size) (fun e=>hs (hT q hq e))).trans (h.block q hq hs)⟩
theorem Mod.kept {S:Nat→Prop} {w A B:World} {row:Option Nat} {N:Nat} (h:Mod S w A) (hg:A.grownBy B row) (hr:∀r,row=some r→N≤r) (hN:w.heap.size≤N):Mod S w B :=
 ⟨hg.os.trans h.os,hg.tape.trans h.tape,hg.output.trans h.output,Qa h.size hg.size,fun q hq hs=>(hg.block q (Qc hq h.size) (fun e=>by have:=hr q e.symm;omega)).trans (h.block q hq hs)⟩
theorem KeepsM.kept {bM:Nat} {w A B:World} {row:Option Nat} {N:Nat} (h:KeepsM bM w A) (hg:A.grownBy B row) (hr:∀r,row=some r→N≤r) (hN:w.heap.size≤N):KeepsM bM w B :=
 ⟨fun d o hd ho hc=>by
  have h1:=h.same d o hd ho hc
  refine(hg.block d (Array.getElem?_eq_some_iff.1 h1).1 (fun e=> ?_)).trans h1
  have:=hr d e.symm
  have:=(Array.getElem?_eq_some_iff.1 ho).1
  omega⟩
theorem Dead.kept {A B:World} {b n N:Nat} {row:Option Nat} (h:Dead A b n) (hg:A.grownBy B row) (hr:∀r,row=some r→N≤r) (hN:b<N):Dead B b n :=
 h.mod (S:=fun q=>some q=row) ⟨hg.os,hg.tape,hg.output,hg.size,fun q hq hs=>hg.block q hq hs⟩ (fun e=>by have:=hr b e.symm;omega)
theorem Env.kept {w0:World} {p:Pass} {vt vs:Value} {lo hi:Int} {bd bg bp bo bs bM base:Nat} {A B:World} {row:Option Nat} {N:Nat} (h:Env w0 p vt vs lo hi bd bg bp bo bs bM base A) (hg:A.grownBy B row)
  (hr:∀r,row=some r→N≤r∧∃o:Obj,A.heap[r]? =some o∧o.isCells=false) (hN:base≤N) (h0:w0.heap.size≤N):Env w0 p vt vs lo hi bd bg bp bo bs bM base B :=
 h.mod (S:=fun q=>some q=row) ⟨hg.os,hg.tape,hg.output,hg.size,fun q hq hs=>hg.block q hq hs⟩ (fun k e=>by have:=(hr k e.symm).1;omega)
theorem KeepsM.from {bM:Nat} {w w':World} (h:KeepsM bM w w') (hs:w.heap.size≤w'.heap.size) {B:Nat} (hB:bM<B):KeepsFrom B w w':=⟨hs,fun d o hd ho hc=>h.same d o (by omega) ho hc⟩
theorem QU.snoc_shape {α:Type} {f:α→List Value} {sz base:Nat} {w:World} {v:Value} {xs:List α} {x:α} (h:QU f sz base w v (xs++[x])):∃g off c,v= .slice (some ⟨g,off,none⟩) (xs.length+1) c∧xs.length+1≤c:=by
 rcases h with⟨_,e⟩|⟨g,off,cap,rfl,_,_,hc,_⟩
 ·exact absurd e (by simp)
 ·rw[List.length_append,List.length_singleton]at hc ⊢
  exact⟨g,off,cap,rfl,hc⟩
structure Rm (w0:World) (p:Pass) (vt vs:Value) (lo hi:Int) (bd bg bp bo bs bM base k n d:Nat) (L:List (Int×Int)) (v:Value) (w:World) (n0 j b y:Nat) (wr:World):Prop where
 day:Blk wr b #[.int .i64 (y:Int)] 3
 spot:Blk wr n0 #[.int .i64 (d:Int),.int .i64 ((k:Int)+1)] 200
 res:Blk wr (n0+1) #[.bool false] 4
 env:Env w0 p vt vs lo hi bd bg bp bo bs bM base wr
 out:∃v',Blk wr bo #[v'] 76∧QU spC 2 base wr v' L∧(∀ q,InB v' q→InB v q∨w.heap.size≤q)∧¬InB v' n0∧¬InB v' (n0+1)∧¬InB v' b
 dead:∃m,Dead wr bM m∧m+j*cost k≤n+60*cost k
 mod:Mod (fun q=>q=bo∨q=bM∨InB v q) w wr
 keeps:KeepsM bM w wr
 far:n0+1<b
section
variable {w0:World} {p:Pass} {vt vs:Value} {lo hi:Int} {bd bg bp bo bs bM base k n d:Nat} {L:List (Int×Int)} {v:Value} {w:World} {n0 j b y:Nat} {wr W:World}
theorem Rs.toRm (h:Rs w0 p vt vs lo hi bd bg bp bo bs bM base k n d L v w n0 (j+1) b y wr):Rm w0 p vt vs lo hi bd bg bp bo bs bM base k n d L v w n0 j b y wr:=by
 obtain⟨m,h1,h2⟩:=h.dead
 exact⟨h.day,h.spot,h.res,h.env,h.out,⟨m,h1,by rw[Nat.add_mul]at h2;omega⟩,h.mod,h.keeps,h.far⟩
theorem Rm.ext (h:Rm w0 p vt vs lo hi bd bg bp bo bs bM base k n d L v w n0 j b y wr) (hE:Ext wr W):Rm w0 p vt vs lo hi bd bg bp bo bs bM base k n d L v w n0 j b y W:=by
 obtain⟨m,h1,h2⟩:=h.dead
 obtain⟨v',g1,g2,g3⟩:=h.out
 exact⟨h.day.ext hE,h.spot.ext hE,h.res.ext hE,h.env.toExt hE,⟨v',g1.ext hE,g2.ext hE,g3⟩,⟨m,h1.ext hE,h2⟩,h.mod.ext hE,h.keeps.trans (KeepsM.of (ext_others hE)),h.far⟩
theorem Rm.kept {A B:World} {row:Option Nat} {N:Nat} (h:Rm w0 p vt vs lo hi bd bg bp bo bs bM base k n d L v w n0 j b y A) (hg:A.grownBy B row)
  (hr:∀r,row=some r→N≤r∧∃o:Obj,A.heap[r]? =some o∧o.isCells=false) (hN:base≤N) (hw:w.heap.size≤N) (h0:w0.heap.size≤N):Rm w0 p vt vs lo hi bd bg bp bo bs bM base k n d L v w n0 j b y B:=by
 obtain⟨m,h1,h2⟩:=h.dead
 obtain⟨v',g1,g2,g3⟩:=h.out
 have hr1:=fun r e=>(hr r e).1
 have hr2:=fun r e=>(hr r e).2
 exact⟨h.day.kept hg hr2,h.spot.kept hg hr2,h.res.kept hg hr2,h.env.kept hg hr hN h0,⟨v',g1.kept hg hr2,g2.kept hg hr2,g3⟩,⟨m,h1.kept hg hr1 (by have:=h.env.below;omega),h2⟩,Mod.kept h.mod hg hr1 hw,h.keeps.kept hg hr1 hw,h.far⟩
theorem Rm.next (h:Rm w0 p vt vs lo hi bd bg bp bo bs bM base k n d L v w n0 j b y wr) (hge:(d:Int)+lo≤y) (hle:((j+1:Nat):Int)+y=d+hi+1) :
  Rs w0 p vt vs lo hi bd bg bp bo bs bM base k n d L v w n0 j wr.heap.size (y+1) (wr.alloc (.cells #[.int .i64 ((y:Int)+1)] 3)):=by
 have hE:Ext wr (wr.alloc (.cells #[.int .i64 ((y:Int)+1)] 3)):=(Ext.refl wr).alloc _
 have hx:=h.ext hE
 obtain⟨v',g1,g2,g3,g4,g5,g6⟩:=h.out
 refine⟨?_,by omega,by omega,hx.spot,hx.res,hx.env,⟨v',g1.ext hE,g2.ext hE,g3,g4,g5,fun e=> ?_⟩,hx.dead,hx.mod,hx.keeps,by have:=h.day.lt;have:=h.far;omega⟩
 ·rw[Int.natCast_add];exact Blk.new wr _ _
 ·have:=(g2.lt e).2;omega
theorem Rm.grown (h:Rm w0 p vt vs lo hi bd bg bp bo bs bM base k n d L v w n0 j b y wr) {v' v8:Value} {m8:Nat} (hq:QU spC 2 base wr v' L) (g3:∀q,InB v' q→InB v q∨w.heap.size≤q) (g4:¬InB v' n0) (g5:¬InB v' (n0+1)) (g6:¬InB v' b)
  (hM:Mod (fun q=>q=bo∨q=bM∨InB v' q) wr W) (hK:KeepsM bM wr W) (h8:Blk W bo #[v8] 76) (hq8:QU spC 2 base W v8 L) (hv8:∀q,InB v8 q→InB v' q∨wr.heap.size≤q) (hD:Dead W bM m8) (hm:m8+j*cost k≤n+60*cost k) (hbo:bo<n0) (hbM:bM<n0) (hw:w.heap.size=n0) :
  Rm w0 p vt vs lo hi bd bg bp bo bs bM base k n d L v w n0 j b y W:=by
 have hf:=h.far
 have hn:n0<wr.heap.size∧n0+1<wr.heap.size∧b<wr.heap.size:=⟨h.spot.lt,h.res.lt,h.day.lt⟩
 refine⟨h.day.mod hM ?_,h.spot.mod hM ?_,h.res.mod hM ?_,h.env.mod hM (fun q e=> ?_),⟨v8,h8,hq8,fun q e=> ?_,fun e=> ?_,fun e=> ?_,fun e=> ?_⟩,⟨m8,hD,hm⟩,Mod.chain h.mod hM (fun q hq1 e=> ?_),h.keeps.trans hK,hf⟩
 ·rintro(e|e|e)<;>first|omega|exact g6 e
 ·rintro(e|e|e)<;>first|omega|exact g4 e
 ·rintro(e|e|e)<;>first|omega|exact g5 e
 ·rcases e with e|e|e
  ·exact .inl e
  ·exact .inr (.inl e)
  ·exact .inr (.inr (hq.lt e).1)
 ·rcases hv8 q e with e|e
  ·exact g3 q e
  ·exact .inr (Qa h.mod.size e)
 ·rcases hv8 _ e with e|e
  ·exact g4 e
  ·omega
 ·rcases hv8 _ e with e|e
  ·exact g5 e
  ·omega
 ·rcases hv8 _ e with e|e
  ·exact g6 e
  ·omega
 ·rcases e with e|e|e
  ·exact .inl e
  ·exact .inr (.inl e)
  ·rcases g3 q e with e|e
   ·exact .inr (.inr e)
   ·omega
end
structure Ft (p:Pass) (lo hi:Int) (bo bM base k n:Nat) (L:List (Int×Int)) (v:Value) (w:World) (n0:Nat) (W:World):Prop where
 res:Blk W (n0+1) #[.bool true] 4
 out:∃v' L',Blk W bo #[v'] 76∧QU spC 2 base W v' (L++L')∧L'.length=k+1∧Good p lo hi (L++L')∧(∀ q,InB v' q→InB v q∨w.heap.size≤q)
 dead:Dead W bM (n+cost (k+1))
 mod:Mod (fun q=>q=bo∨q=bM∨InB v q) w W
 keeps:KeepsM bM w W
theorem Ft.kept {p:Pass} {lo hi:Int} {bo bM base k n:Nat} {L:List (Int×Int)} {v:Value} {w:World} {n0:Nat} {A B:World} {row:Option Nat} {N:Nat} (h:Ft p lo hi bo bM base k n L v w n0 A) (hg:A.grownBy B row)
  (hr:∀r,row=some r→N≤r∧∃o:Obj,A.heap[r]? =some o∧o.isCells=false) (hw:w.heap.size≤N) (hbM:bM<N):Ft p lo hi bo bM base k n L v w n0 B:=by
 obtain⟨v',L',g1,g2,g3⟩:=h.out
 have hr1:=fun r e=>(hr r e).1
 have hr2:=fun r e=>(hr r e).2
 exact⟨h.res.kept hg hr2,⟨v',L',g1.kept hg hr2,g2.kept hg hr2,g3⟩,h.dead.kept hg hr1 hbM,Mod.kept h.mod hg hr1 hw,h.keeps.kept hg hr1 hw⟩
theorem Ft.found {p:Pass} {lo hi:Int} {bo bM base k n:Nat} {L:List (Int×Int)} {v:Value} {w:World} {n0:Nat} {W w':World} (h:Ft p lo hi bo bM base k n L v w n0 W) (hw:w.heap.size=n0) (hbM:bM<n0) (hS:ShutM n0 W w'):Found p lo hi bo bM base (k+1) n L v w (.returned (.bool true)) w':=by
 obtain⟨v',L',g1,g2,g3,g4,g5⟩:=h.out
 have M5:Mod (fun q=>n0≤q) W w':=⟨hS.os,hS.tape,hS.output,Nat.le_of_eq hS.size,fun q _ h=>hS.below q (by omega)⟩
 exact⟨true,v',L',rfl,hS.blk g1,QU.shut g2 hS,fun _=>⟨g3,g4⟩,fun h=>(by cases h),h.dead.mod M5 (by omega),Mod.chain h.mod M5 (fun q hq e=>by omega),g5,⟨fun q o hq ho hc=>by
  have hlt:q<w.heap.size:=(Array.getElem?_eq_some_iff.1 ho).1
  exact(hS.below q (by omega)).trans (h.keeps.same q o hq ho hc)⟩⟩
theorem Marks.keepsM {B bM:Nat} {ds:List Deferred} {w w':World} (h:Marks B ds w) (hk:KeepsM bM w w') (hb:bM<B):Marks B ds w':=by
 obtain⟨L,e,hn,hL⟩:=h
 exact⟨L,e,hn,fun D hD=>⟨(hL D hD).1,hk.same D _ (by have:=(hL D hD).1;omega) (hL D hD).2 rfl⟩⟩
theorem round_after {bo bM:Nat} {W Wa w7 w8:World} {v' v2 v3:Value} (M7:Mod (fun q=>q=bo∨InB v' q) W w7) (hK7:KeepsOthers W w7) (hnew:∀q,InB v2 q→InB v' q∨Wa.heap.size≤q) (hWa:W.heap.size≤Wa.heap.size)
  (h86:Mod (fun q=>q=bo∨q=bM∨InB v2 q) w7 w8) (h87:∀q,InB v3 q→InB v2 q∨w7.heap.size≤q) (h88:KeepsM bM w7 w8):Mod (fun q=>q=bo∨q=bM∨InB v' q) W w8∧(∀ q,InB v3 q→InB v' q∨W.heap.size≤q)∧KeepsM bM W w8:=by
 have hs:=M7.size
 refine⟨Mod.chain (M7.mono fun q _ e=>by rcases e with e|e;exact .inl e;exact .inr (.inr e)) h86 (fun q hq e=> ?_),fun q e=> ?_,(KeepsM.of hK7).trans h88⟩
 ·rcases e with e|e|e
  ·exact .inl e
  ·exact .inr (.inl e)
  ·rcases hnew q e with e|e
   ·exact .inr (.inr e)
   ·omega
 ·rcases h87 q e with e|e
  ·rcases hnew q e with e|e
   ·exact .inl e
   ·exact .inr (by omega)
  ·exact .inr (by omega)
def AxS (N:Nat) (TM:Nat→Int→Nat→Array Value) (e:Array Value) (a':Act) (W:World):Prop:=∃(d':Nat) (h':Int) (bb:Nat),e=#[.agg #[.int .i64 (d':Int),.int .i64 h']]∧Blk W bb #[.int .i64 (d':Int),.int .i64 h'] 35∧N≤bb∧a'= { tmps:=TM d' h' bb,defers:=[] }
theorem AxS.own (N B':Nat) (TM:Nat→Int→Nat→Array Value) (e:Array Value):OwnFrom B' (AxS N TM e):=by
 rintro a' A Y row ⟨d',h',bb,h1,h2,h3,h4⟩ hg hr
 exact⟨d',h',bb,h1,h2.kept hg (fun r e=>(hr r e).2),h3,h4⟩
end Go.Proofs.YtgloajbgphcloaaGreat.Sh
