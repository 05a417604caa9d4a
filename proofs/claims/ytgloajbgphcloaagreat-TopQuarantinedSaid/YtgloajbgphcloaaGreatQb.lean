/- All blocks but some lie as they lay; a slice that the call itself made, wherever it begins in its block: appended to, cut in front and behind. -/
import Derived.Test.YtgloajbgphcloaaGreatCo
import Derived.Test.YtgloajbgphcloaaGreatDr
import Derived.Test.YtgloajbgphcloaaGreatRg
import Derived.Deep.AppendSrc
import Derived.Lib.AppendZeros
namespace Go.Proofs.YtgloajbgphcloaaGreat
set_option linter.unusedVariables false
set_option linter.unusedSimpArgs false
open Go.RowKit
open Nat renaming lt_of_lt_of_le → Qa
structure Mod (S:Nat→Prop) (w w':World):Prop where
 os:w'.os=w.os
 tape:w'.tape=w.tape
 output:w'.output=w.output
 size:w.heap.size≤w'.heap.size
 block:∀k,k<w.heap.size→¬S k→w'.heap[k]? =w.heap[k]?
theorem Mod.refl (S:Nat→Prop) (w:World):Mod S w w:=⟨rfl,rfl,rfl,Nat.le_refl _,fun _ _ _=>rfl⟩
theorem Mod.trans {S:Nat→Prop} {x y z:World} (h:Mod S x y) (k:Mod S y z):Mod S x z :=
 ⟨k.os.trans h.os,k.tape.trans h.tape,k.output.trans h.output,Nat.le_trans h.size k.size,fun i hi h1=>(k.block i (Qa hi h.size) h1).trans (h.block i hi h1)⟩
theorem Ext.mod {w w':World} (h:Ext w w') (S:Nat→Prop):Mod S w w':=⟨h.os,h.tape,h.output,h.size,fun k hk _=>h.block k hk⟩
theorem Mod.ext {S:Nat→Prop} {x y z:World} (h:Mod S x y) (k:Ext y z):Mod S x z:=h.trans (k.mod S)
theorem Mod.mono {S T:Nat→Prop} {x y:World} (h:Mod S x y) (hS:∀k,k<x.heap.size→S k→T k):Mod T x y :=
 ⟨h.os,h.tape,h.output,h.size,fun k hk ht=>h.block k hk fun hs=>ht (hS k hk hs)⟩
theorem Mod.set {S:Nat→Prop} {x y:World} (h:Mod S x y) {a:Addr} (ha:S a.block∨x.heap.size≤a.block) (v:Value):Mod S x (y.setCell a v):=by
 refine⟨h.os,h.tape,h.output,by rw[size_setCell];exact h.size,fun i hi h1=> ?_⟩
 rw[Below.heap_setCell _ _ _ _ (by rintro rfl;rcases ha with e|e;exact h1 e;omega)]
 exact h.block i hi h1
theorem Mod.ext0 {S:Nat→Prop} {w0 w w':World} (h:Mod S w w') (h0:Ext w0 w) (hg:∀k,S k→w0.heap.size≤k):Ext w0 w' :=
 ⟨h.os.trans h0.os,h.tape.trans h0.tape,h.output.trans h0.output,Nat.le_trans h0.size h.size,fun k hk=>(h.block k (Qa hk h0.size) (fun e=>by have:=hg k e;omega)).trans (h0.block k hk)⟩
theorem Blk.mod {S:Nat→Prop} {c:Nat} {w w':World} {cs:Array Value} {e:TypeId} (h:Blk w c cs e) (ho:Mod S w w') (h1:¬S c):Blk w' c cs e:=(ho.block c h.lt h1).trans h
theorem Mod.cell {S:Nat→Prop} {w w':World} (h:Mod S w w') {g o:Nat} (hg:g<w.heap.size) (h1:¬S g):w'.cell? ⟨g,o,none⟩=w.cell? ⟨g,o,none⟩∧w'.frozen? ⟨g,o,none⟩=w.frozen? ⟨g,o,none⟩:=by
 have e:=h.block g hg h1
 unfold World.cell? World.frozen?
 simp only[e,and_self]
theorem setCells_size (b:Nat):∀(vs:List Value) (o:Nat) (w:World),(w.setCells b o vs).heap.size=w.heap.size
 | [],_,_=>rfl
 | v::r,o,w=>by rw[World.setCells,setCells_size b r,size_setCell]
theorem setCell_tape (w:World) (a:Addr) (v:Value):(w.setCell a v).tape=w.tape:=((Mod.refl (fun k=>k=a.block) w).set (a:=a) (.inl rfl) v).tape
theorem setCells_tape (b:Nat):∀(vs:List Value) (o:Nat) (w:World),(w.setCells b o vs).tape=w.tape
 | [],_,_=>rfl
 | v::r,o,w=>by rw[World.setCells,setCells_tape b r,setCell_tape]
theorem setCells_others (b:Nat):∀(vs:List Value) (o:Nat) (w:World),KeepsOthers w (w.setCells b o vs)
 | [],_,w=>ext_others (Ext.refl w)
 | v::r,o,w=>by rw[World.setCells];exact(KeepsOthers.setCell w _ v).trans (setCells_others b r (o+1) _)
def InB (v:Value) (k:Nat):Prop:=∃off n c,v= .slice (some ⟨k,off,none⟩) n c
def QU {α:Type} (f:α→List Value) (sz base:Nat) (w:World) (v:Value) (xs:List α):Prop :=
 (v= .slice none 0 0∧xs=[])∨∃g off cap,v= .slice (some ⟨g,off,none⟩) xs.length cap∧base≤g∧g<w.heap.size∧xs.length≤cap ∧
  (∀ j,j<cap*sz→(w.cell? ⟨g,off+j,none⟩).isSome=true∧w.frozen? ⟨g,off+j,none⟩=false)∧∀i (h:i<xs.length) j u,(f xs[i])[j]? =some u→w.cell? ⟨g,off+i*sz+j,none⟩=some u
theorem QU.nil {α:Type} (f:α→List Value) (sz base:Nat) (w:World):QU f sz base w (.slice none 0 0) []:= .inl ⟨rfl,rfl⟩
theorem QU.mod {α:Type} {f:α→List Value} {sz base:Nat} {w w':World} {v:Value} {xs:List α} {S:Nat→Prop} (h:QU f sz base w v xs) (ho:Mod S w w') (h1:∀k,InB v k→¬S k):QU f sz base w' v xs:=by
 rcases h with h|⟨g,off,cap,rfl,hb,hg,hc,hr,hx⟩
 ·exact .inl h
 ·have hs:=h1 g ⟨_,_,_,rfl⟩
  exact .inr ⟨g,off,cap,rfl,hb,Qa hg ho.size,hc,fun j hj=>by rw[(ho.cell hg hs).1,(ho.cell hg hs).2];exact hr j hj,fun i hi j u hu=>by rw[(ho.cell hg hs).1];exact hx i hi j u hu⟩
theorem QU.ext {α:Type} {f:α→List Value} {sz base:Nat} {w w':World} {v:Value} {xs:List α} (h:QU f sz base w v xs) (he:Ext w w'):QU f sz base w' v xs:=h.mod (he.mod (fun _=>False)) (fun _ _ e=>e)
theorem QU.lt {α:Type} {f:α→List Value} {sz base:Nat} {w:World} {v:Value} {xs:List α} (h:QU f sz base w v xs) {k:Nat} (hk:InB v k):base≤k∧k<w.heap.size:=by
 rcases h with⟨rfl,_⟩|⟨g,off,cap,rfl,hb,hg,_⟩
 ·obtain⟨_,_,_,e⟩:=hk;cases e
 ·obtain⟨_,_,_,e⟩:=hk;cases e;exact⟨hb,hg⟩
theorem QU.shape {α:Type} {f:α→List Value} {sz base:Nat} {w:World} {v:Value} {xs:List α} (h:QU f sz base w v xs):∃a c,v= .slice a xs.length c:=by
 rcases h with⟨rfl,rfl⟩|⟨g,off,cap,rfl,_⟩
 ·exact⟨_,_,rfl⟩
 ·exact⟨_,_,rfl⟩
theorem QU.sls {α:Type} {f:α→List Value} {sz base:Nat} {w:World} {v:Value} {xs:List α} (h:QU f sz base w v xs):Sls sz (AtE f) w v xs:=by
 rcases h with⟨rfl,rfl⟩|⟨g,off,cap,rfl,hb,hg,hc,hr,hx⟩
 ·exact Sls.nil w
 ·exact⟨_,cap,rfl,fun i hi=>⟨g,off,rfl,hg,fun j u hu=>hx i hi j u hu⟩⟩
theorem QU.back {α:Type} {f:α→List Value} {sz base:Nat} {w:World} {a:Option Addr} {n c:Nat} {xs:List α} {x:α} (h:QU f sz base w (.slice a (n+1) c) (xs++[x])):QU f sz base w (.slice a n c) xs∧xs.length=n:=by
 rcases h with⟨e,e2⟩|⟨g,off,cap,e,hb,hg,hc,hr,hx⟩
 ·exact absurd e2 (by simp)
 ·simp only[List.length_append,List.length_cons,List.length_nil,Nat.zero_add,Value.slice.injEq]at e hc hx
  obtain⟨rfl,e,rfl⟩:=e
  obtain rfl:n=xs.length:=by omega
  refine⟨.inr ⟨g,off,c,rfl,hb,hg,by omega,hr,fun i hi j u hu=>hx i (by omega) j u ?_⟩,rfl⟩
  rw[List.getElem_append_left hi];exact hu
theorem QU.front {α:Type} {f:α→List Value} {sz base:Nat} {w:World} {g off n c:Nat} {xs:List α} {x:α} (h:QU f sz base w (.slice (some ⟨g,off,none⟩) n c) (x::xs)):QU f sz base w (.slice (some ⟨g,off+sz,none⟩) xs.length (c - 1)) xs:=by
 rcases h with⟨e,e2⟩|⟨g',off',cap,e,hb,hg,hc,hr,hx⟩
 ·cases e2
 ·simp only[List.length_cons,Value.slice.injEq,Option.some.injEq,Addr.mk.injEq,and_true]at e hc hx
  obtain⟨⟨rfl,rfl⟩,rfl,rfl⟩:=e
  obtain⟨c',rfl⟩:∃c',c=c'+1:=⟨c - 1,by omega⟩
  refine .inr ⟨g,off+sz,c',by simp,hb,hg,by omega,fun j hj=> ?_,fun i hi j u hu=> ?_⟩
  ·have:=hr (sz+j) (by rw[Nat.add_mul];omega)
   rw[Nat.add_assoc];exact this
  ·have:=hx (i+1) (by omega) j u (by simpa using hu)
   rw[show off+sz+i*sz+j=off+(i+1)*sz+j by rw[Nat.add_mul];omega];exact this
theorem getElem_snoc {α:Type} {xs:List α} {x:α} {i:Nat} (h:i<(xs++[x]).length):(i<xs.length∧∀h',(xs++[x])[i]=xs[i]'h')∨(i=xs.length∧(xs++[x])[i]=x):=by
 rcases Nat.lt_or_ge i xs.length with h1|h1
 ·exact .inl ⟨h1,fun h'=>List.getElem_append_left h'⟩
 ·have e:i=xs.length:=by simp at h;omega
  subst e
  exact .inr ⟨rfl,by simp⟩
set_option maxHeartbeats 1000000 in
theorem QU.push {α:Type} {f:α→List Value} {sz base:Nat} {w:World} {v:Value} {xs:List α} (h:QU f sz base w v xs) (hsz:∀x,(f x).length=sz) (h1:∀x,∀u∈f x,u.oneCell'=true) (t e ty:TypeId) (i:TypeInfo) (z:Value)
  (ht:Tryz.prog.underlying t=some (.slice e)) (hi:Tryz.prog.info? e=some i) (hz:i.zero=some z) (hs:i.size=sz) (hzc:z.cells.size=sz) (hby:i.bytes≤64) (hbase:base≤w.heap.size) (x:α) (a1:Addr) (hx:∀j u,(f x)[j]? =some u→w.cell? (a1.add j)=some u) (hl:xs.length≤1000) :
  ∃v' w',(Builtin.append_ #[t,t] ty #[v,.slice (some a1) 1 1]).run Tryz.prog w= .ok v' w'∧QU f sz base w' v' (xs++[x])∧Mod (InB v) w w'∧(∀ k,InB v' k→InB v k∨w.heap.size≤k)∧KeepsOthers w w':=by
 have hsrc:Src Tryz.prog i.size t (.slice (some a1) 1 1) 1 (f x) w:=Src.ofSlice w ht a1 1 1 (f x) (by rw[hsz,hs,Nat.one_mul]) hx (h1 x)
 have grow:∀(ao:Option Addr) (cap:Nat) (olds:List Value),olds.length=xs.length*sz→(Builtin.firstCells i.size xs.length (.slice ao xs.length cap)).run Tryz.prog w.drew= .ok olds.toArray w.drew→cap<xs.length+1→(∀ k (hk:k<xs.length) j u,(f xs[k])[j]? =some u→olds[k*sz+j]? =some u) →
   ∃v' w',(Builtin.append_ #[t,t] ty #[.slice ao xs.length cap,.slice (some a1) 1 1]).run Tryz.prog w= .ok v' w'∧QU f sz base w' v' (xs++[x])∧(∀ S,Mod S w w')∧(∀ k,InB v' k→w.heap.size≤k)∧KeepsOthers w w':=by
  intro ao cap olds hol hold hg ho
  have hrun:=run_append_grow_src (P:=Tryz.prog) w t t ty e i z ht hi hz ao xs.length cap olds hold _ 1 (f x) hsrc hg (by omega) (by
   have:=nextslicecap_le hg
   have h2:Builtin.nextslicecap (xs.length+1) cap*i.bytes≤(2*(xs.length+1))*64:=Nat.mul_le_mul this hby
   omega)
  have hge:=grownCap_ge w (xs.length+1) cap e
  obtain⟨gc,hgc⟩:∃c,grownCap w (xs.length+1) cap e=c:=⟨_,rfl⟩
  rw[hgc]at hrun hge
  obtain⟨N,hN⟩:∃N,(olds++f x).toArray++Builtin.zeroCells z.cells (gc - (xs.length+1))=N:=⟨_,rfl⟩
  rw[hN]at hrun
  have hE:Ext w (w.drew.alloc (.cells N e)):=by(with_reducible(repeat(first|exact Ext.refl _|assumption|apply Ext.alloc|apply Ext.drew|exact ext_plus _ _|(apply Ext.setCell;rotate_left;(simp<;>omega))|(apply Ext.trans;rotate_left;exact ext_plus _ _)|(apply Ext.trans;rotate_left;assumption))))
  have hB:Blk (w.drew.alloc (.cells N e)) w.heap.size N e:=Blk.new' (by simp) _ _
  have hNs:N.size=gc*sz:=by
   rw[← hN,Array.size_append,size_zeroCells,hzc]
   simp only[List.size_toArray,List.length_append,hol,hsz]
   rw[show xs.length*sz+sz=(xs.length+1)*sz by rw[Nat.add_mul,Nat.one_mul],←Nat.add_mul,show xs.length+1+(gc - (xs.length+1))=gc by omega]
  have hNc:∀j,j<(xs.length+1)*sz→N[j]? =(olds++f x)[j]? :=fun j hj=>by
   rw[← hN,Array.getElem?_append_left (by simp only[List.size_toArray,List.length_append,hol,hsz];rw[Nat.add_mul,Nat.one_mul]at hj;exact hj)]
   simp
  refine⟨_,_,hrun,.inr ⟨w.heap.size,0,gc,by simp,hbase,by simp,by simpa using hge,fun j hj=>⟨?_,hB.free _⟩,fun k hk j u hu=> ?_⟩,fun S=>hE.mod S,fun k ⟨_,_,_,ek⟩=>by cases ek;exact Nat.le_refl _,ext_others hE⟩
  ·rw[hB.cell,Nat.zero_add,Array.getElem?_eq_getElem (by omega)];rfl
  ·rw[hB.cell,Nat.zero_add]
   have hj:j<sz:=by rw[← hsz ((xs++[x])[k])];exact(List.getElem?_eq_some_iff.1 hu).1
   have hk':k<xs.length+1:=by simpa using hk
   have hkj:k*sz+j<(xs.length+1)*sz:=by
    have:=Nat.mul_le_mul_right sz (show k+1≤xs.length+1 by omega)
    rw[Nat.add_mul,Nat.one_mul]at this
    omega
   rw[hNc _ hkj]
   rcases getElem_snoc hk with⟨h2,h3⟩|⟨h2,h3⟩
   ·rw[h3 h2]at hu
    rw[List.getElem?_append_left (by rw[hol];have:=Nat.mul_le_mul_right sz (show k+1≤xs.length by omega);rw[Nat.add_mul,Nat.one_mul]at this;omega)]
    exact ho k h2 j u hu
   ·rw[h3]at hu
    subst h2
    rw[List.getElem?_append_right (by omega),hol,Nat.add_sub_cancel_left];exact hu
 rcases h with⟨rfl,rfl⟩|⟨g,off,cap,rfl,hb,hg,hc,hr,hxs⟩
 ·obtain⟨v',w',r1,r2,r3,r4,r5⟩:=grow none 0 [] (by simp) (run_firstCells_none w.drew i.size 0 0 0) (by simp) (fun k hk=>absurd hk (by simp))
  exact⟨v',w',r1,r2,r3 _,fun k hk=> .inr (r4 k hk),r5⟩
 ·by_cases hroom:xs.length+1≤cap
  ·have hrc:(xs.length+1)*sz≤cap*sz:=Nat.mul_le_mul_right _ hroom
   rw[Nat.add_mul,Nat.one_mul]at hrc
   have hsome:∀j,j<(f x).length→(w.cell? ⟨g,off+xs.length*i.size+j,none⟩).isSome=true:=fun j hj=>by
    rw[hsz]at hj;rw[hs,Nat.add_assoc];exact(hr _ (by omega)).1
   have hrun:=run_append_room_src (P:=Tryz.prog) w t t ty e i ht hi g off xs.length cap _ 1 (f x) hsrc hroom hsome (fun j hj=>by rw[hsz]at hj;rw[hs,Nat.add_assoc];exact(hr _ (by omega)).2)
   rw[hs]at hrun hsome
   have hM:Mod (InB (.slice (some ⟨g,off,none⟩) xs.length cap)) w (w.setCells g (off+xs.length*sz) (f x)) :=
    ⟨World.os_setCells _ _ _ _,setCells_tape _ _ _ _,World.output_setCells _ _ _ _,Nat.le_of_eq (setCells_size _ _ _ _).symm,fun k hk hs=>World.heap_setCells_other w g _ _ hk (fun ek=>hs (by rw[ek];exact⟨_,_,_,rfl⟩))⟩
   refine⟨_,_,hrun,.inr ⟨g,off,cap,by simp,hb,by rw[setCells_size];exact hg,by simpa using hroom,fun j hj=>⟨?_,by rw[World.frozen?_setCells];exact(hr j hj).2⟩,fun k hk j u hu=> ?_⟩,hM,fun k ⟨_,_,_,ek⟩=> .inl (by cases ek;exact⟨_,_,_,rfl⟩),setCells_others _ _ _ _⟩
   ·by_cases hin:xs.length*sz≤j∧j<xs.length*sz+(f x).length
    ·have:=World.cell?_setCells_in g (f x) (off+xs.length*sz) w hsome (j - xs.length*sz) (by omega)
     rw[show off+xs.length*sz+(j - xs.length*sz)=off+j by omega]at this
     rw[this];rfl
    ·rw[World.cell?_setCells_out g _ _ _ _ (fun _ _=>by show off+j<off+xs.length*sz∨off+xs.length*sz+(f x).length≤off+j;omega)]
     exact(hr j hj).1
   ·have hj:j<sz:=by rw[← hsz ((xs++[x])[k])];exact(List.getElem?_eq_some_iff.1 hu).1
    rcases getElem_snoc hk with⟨h2,h3⟩|⟨h2,h3⟩
    ·rw[h3 h2]at hu
     have hkj:(k+1)*sz≤xs.length*sz:=Nat.mul_le_mul_right _ h2
     rw[Nat.add_mul,Nat.one_mul]at hkj
     rw[World.cell?_setCells_out g _ _ _ _ (fun _ _=> .inl (by show off+k*sz+j<off+xs.length*sz;omega))]
     exact hxs k h2 j u hu
    ·rw[h3]at hu
     subst h2
     obtain⟨hj',hu'⟩:=List.getElem?_eq_some_iff.1 hu
     rw[World.cell?_setCells_in g (f x) (off+xs.length*sz) w hsome j hj',hu']
  ·obtain⟨v',w',r1,r2,r3,r4,r5⟩:=grow (some ⟨g,off,none⟩) cap ((List.range (xs.length*sz)).map fun j=>(w.cell? ⟨g,off+j,none⟩).getD (.bool false)) (by simp) (by
    refine run_firstCells_some w.drew i.size xs.length ⟨g,off,none⟩ xs.length cap _ (by simp[hs]) (fun j u hu=> ?_)
    have hj:j<xs.length*sz:=by have:=(List.getElem?_eq_some_iff.1 hu).1;simpa using this
    rw[List.getElem?_map,List.getElem?_range hj]at hu
    have hs2:=(hr j (by have:=Nat.mul_le_mul_right sz hc;omega)).1
    obtain⟨c,hc2⟩:=Option.isSome_iff_exists.1 hs2
    rw[Addr.add_lit]
    show w.cell? ⟨g,off+j,none⟩=some u
    rw[hc2]
    simp only[Option.map_some]at hu
    rw[hc2]at hu
    simpa using hu) (by omega) (fun k hk j u hu=>by
    have hj:j<sz:=by rw[← hsz xs[k]];exact(List.getElem?_eq_some_iff.1 hu).1
    have hkj:(k+1)*sz≤xs.length*sz:=Nat.mul_le_mul_right _ hk
    rw[Nat.add_mul,Nat.one_mul]at hkj
    rw[List.getElem?_map,List.getElem?_range (by omega),Option.map_some,←Nat.add_assoc,hxs k hk j u hu];rfl)
   exact⟨v',w',r1,r2,r3 _,fun k hk=> .inr (r4 k hk),r5⟩
end Go.Proofs.YtgloajbgphcloaaGreat
