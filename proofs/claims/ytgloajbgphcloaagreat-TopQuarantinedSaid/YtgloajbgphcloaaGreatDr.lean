/- A statement whose order Go leaves open, whose operations read, or call functions that leave all that lay as it lay (new blocks may come), and hand back one value whatever the order; behind them, in one order, a tail (a store): one walk in the order of the text serves every order. Draw's law for a region inside a round of a range over a function. A region outside rounds whose operations read, and whose last ones call a yield: the reads in the order of the text, then the rest. A statement whose order Go leaves open, and which stores: what is read of the boxes that are stored to comes before the first store t; what is read of others may come late. Each such read may be taken first. As Late, with two stores that are looked at: what is read of the second one's box comes before the second one, though it may come behind the first one. An append within a drawn region; two rows that lie apart. slices.IndexFunc and slices.ContainsFunc, for whatever function is asked of each element. -/
import Derived.Test.YtgloajbgphcloaaGreatCo
import Derived.BigQuiet
import Derived.Deep.QuietTactic
import Derived.StillTail
import Derived.OrdersIn
import Derived.RangeFuncCalls
import Derived.TacticsIn
import Derived.OrdersHeld
import Derived.Maps.AppendAt
import Derived.RangeFuncNested
namespace Go.Proofs.YtgloajbgphcloaaGreat
set_option linter.unusedVariables false
set_option linter.unusedSimpArgs false
open Go.RowKit
open Bool renaming and_eq_true → Qa
open Region renaming ready → Qb
structure More where
 X:Array Obj
 d:Nat
 deriving Inhabited
def plus (w:World) (x:More):World:= { w with heap:=w.heap++x.X,drawn:=x.d }
theorem plus_cell (w:World) (x:More) (b o:Nat) (h:b<w.heap.size):(plus w x).cell? ⟨b,o,none⟩=w.cell? ⟨b,o,none⟩:=by
 simp[plus,World.cell?,Array.getElem?_append_left h]
theorem plus_frozen (w:World) (x:More) (b o:Nat) (h:b<w.heap.size):(plus w x).frozen? ⟨b,o,none⟩=w.frozen? ⟨b,o,none⟩:=by
 simp[plus,World.frozen?,Array.getElem?_append_left h]
theorem ext_plus (w:World) (x:More):Ext w (plus w x) :=
 ⟨rfl,rfl,rfl,by simp[plus],fun k hk=>by simp[plus,Array.getElem?_append_left hk]⟩
theorem plus_of_ext {w w':World} (h:Ext w w'):∃x,w'=plus w x:=by
 refine⟨⟨w'.heap.extract w.heap.size w'.heap.size,w'.drawn⟩,?_⟩
 obtain⟨h1,h2,h3,h4,h5⟩:=h
 have e:w'.heap=w.heap++w'.heap.extract w.heap.size w'.heap.size:=by
  apply Array.ext
  ·simp;omega
  ·intro i hi hi'
   rw[Array.getElem_append]
   split
   ·rename_i hlt
    have:=h5 i hlt
    rw[Array.getElem?_eq_getElem hi,Array.getElem?_eq_getElem hlt]at this
    exact Option.some.inj this
   ·rename_i hlt
    simp only[Array.getElem_extract]
    congr 1;omega
 cases w' with
 | mk heap tape drawn os output =>
  simp only[plus]at *
  simp only[World.mk.injEq]
  exact⟨e,h2,trivial,h1,h3⟩
theorem ext_quiet {P:Program} {f:FuncId} {args:Array Value} {w:World} {x:More} {v:Value}
  (h:Calls P f args (plus w x) fun e w'=>e= .returned v∧Ext (plus w x) w'):Calls P f args (plus w x) fun e w''=>e= .returned v∧∃x',w''=plus w x' :=
 h.mono fun _ _ ⟨he,hx⟩=>⟨he,plus_of_ext ((ext_plus w x).trans hx)⟩
theorem same_quiet {P:Program} {f:FuncId} {args:Array Value} {w:World} {x:More} {v:Value}
  (h:Calls P f args (plus w x) fun e w'=>e= .returned v∧plus w x=w'):Calls P f args (plus w x) fun e w''=>e= .returned v∧∃x',w''=plus w x' :=
 h.mono fun _ _ ⟨he,hx⟩=>⟨he,x,hx.symm⟩
def waits (ops:Array Oper):Nat→Nat→Nat→Bool
 | 0,_,_=>false
 | f+1,j,i =>
  match ops[j]? with
  | some o=>(o.after.any fun e=>Region.binds .any e&&e.on == i)||(o.after.any fun e=>Region.binds .any e&&waits ops f e.on i)
  | none=>false
def pureOp:Op→Bool
 | .move _| .assign _| .pick .. | .unOp .not .. =>true
 | _=>false
def pureAt (ops:Array Oper) (i:Nat):Bool :=
 match ops[i]? with
 | some o=>pureOp o.op&&(List.range ops.size).all fun k=>decide (k≤i)||(match ops[k]? with
  | some p=>(p.after.any fun e=>Region.binds .any e&&e.on == i)||o.apart ops p
  | none=>true)
 | none=>false
def headB (ops:Array Oper) (n:Nat):Bool :=
 decide (n≤ops.size) &&
 ((List.range n).all fun i=>match ops[i]? with
  | some o=>o.after.all (fun e=> !Region.binds .any e||decide (e.on<i))&&(match o.guard with|some (j,_)=>decide (j<n)|none=>true)
  | none=>true) &&
 ((List.range ops.size).all fun t=>decide (t<n)||(List.range n).all fun i=>pureAt ops i||waits ops ops.size t i) &&
 Region.noSelect ops
def restB (ops:Array Oper) (n:Nat):Array Bool:=Array.replicate n true++Array.replicate (ops.size - n) false
section
variable {P:Program} {l:List Oper} {n:Nat} {C:World→Prop} {Q:Exit→Act→World→Prop} {Qh:Act→Prop}
theorem head_get {i:Nat} (h:i<n):((l.take n).toArray)[i]? =l.toArray[i]? :=by simp[List.getElem?_take,h]
theorem head_none {i:Nat} (h:¬i<n):((l.take n).toArray)[i]? =none:=by simp[List.getElem?_take,h]
theorem wanted_head {o:Oper} {t:Array Value} (hg:∀j b,o.guard=some (j,b)→j<n) :
  Region.wanted o (yielded (l.take n).toArray t)=Region.wanted o (yielded l.toArray t):=by
 unfold Region.wanted
 cases h:o.guard with
 | none=>rfl
 | some x =>
  obtain⟨j,b⟩:=x
  simp only[yielded,head_get (l:=l) (hg j b h)]
theorem wpQuiet_mono {ops:Array Oper} {Q Q':Act→Prop} (hq:∀a,Q a→Q' a):∀(l:List Oper) (a:Act),wpQuiet P ops C Q l a→wpQuiet P ops C Q' l a
 | [],a,h=>hq a h
 | o::l,a,h=>by
  unfold wpQuiet at h ⊢
  split
  ·rename_i hw
   rw[if_pos hw]at h
   exact Oper.quiet_mono (wpQuiet_mono hq l) h
  ·rename_i hw
   rw[if_neg hw]at h
   exact wpQuiet_mono hq l _ h
theorem pure_yields {o:Oper} (hp:pureOp o.op=true) {a:Act} {w:World} {v:Value} (h:o.quietAt P a C w v):∀w',(execOp a.eval o).run P w'= .ok (.value v) w':=by
 intro w'
 unfold Oper.quietAt at h
 obtain⟨dst,op,type,pos,after,guard⟩:=o
 cases op<;>simp[pureOp]at hp
 case move x=>simp[execOp,Sem.run,pure,Oper.quietUpon]at h ⊢;exact h
 case assign x=>simp[execOp,Sem.run,pure,Oper.quietUpon]at h ⊢;exact h
 case pick c x y =>
  simp only[execOp]at h ⊢
  cases hc:a.eval c<;>simp[hc,asBool,stuck,Sem.run_bind,Sem.run,pure,bind,Sem.bind,Oper.quietUpon,Result.andThen]at h ⊢
  exact h
 case unOp u t x =>
  cases u<;>simp at hp
  simp only[execOp]at h ⊢
  cases hc:a.eval x<;>simp[hc,Op.unary,stuck,Sem.run_bind,Sem.run,pure,bind,Sem.bind,Oper.quietUpon,Result.andThen]at h ⊢
  exact h
theorem any_head (hQ:∀c a d v w,Q (.panic c) (a.put d v) w→Q (.panic c) a w) (h0:headB l.toArray n=true)
  (hC:∀a w,C w→Qh a→wpAny P .any l.toArray Q (l.toArray.size - n) (Array.replicate n true++Array.replicate (l.toArray.size - n) false) a w) :
  ∀(f:Nat) (L:Array Bool) (a:Act) (w:World),L.size=n→L.toList.count false=f→C w→wpAnyQ P .any (l.take n).toArray C Qh f L a →
   (∀ j o,l.toArray[j]? =some o→L.getD j false=true→∀e∈o.after,Region.binds .any e=true→L.getD e.on false=true) →
   wpAny P .any l.toArray Q (f+(l.toArray.size - n)) (L++Array.replicate (l.toArray.size - n) false) a w:=by
 simp only[headB,Qa,decide_eq_true_eq,List.all_eq_true,List.mem_range,Bool.or_eq_true]at h0
 obtain⟨⟨⟨hn,hh⟩,ht⟩,hsel⟩:=h0
 have chain:∀(L:Array Bool),(∀ j o,l.toArray[j]? =some o→L.getD j false=true→∀e∈o.after,Region.binds .any e=true→L.getD e.on false=true) →
   ∀f j i,L.getD j false=true→waits l.toArray f j i=true→L.getD i false=true:=by
  intro L hcl f
  induction f with
  | zero=>intro j i _ hw;simp[waits]at hw
  | succ f ih =>
   intro j i hj hw
   unfold waits at hw
   cases ho:l.toArray[j]? with
   | none=>rw[ho]at hw;cases hw
   | some o =>
    rw[ho]at hw
    simp only[Bool.or_eq_true,Array.any_eq_true',Qa,beq_iff_eq]at hw
    rcases hw with⟨e,he,hb,hon⟩|⟨e,he,hb,hon⟩
    ·rw[← hon];exact hcl j o ho hj e he hb
    ·exact ih e.on i (hcl j o ho hj e he hb) hon
 intro f
 induction f with
 | zero =>
  intro L a w hL hc hw h _
  have e:L=Array.replicate n true:=by
   apply Array.ext
   ·simp[hL]
   ·intro i hi hi'
    rw[Array.getElem_replicate]
    have hz:false ∉ L.toList:=List.count_eq_zero.1 hc
    cases hb:L[i]with
    | true=>rfl
    | false=>exact absurd (by rw[← hb];exact Array.getElem_mem_toList hi) hz
  rw[e,Nat.zero_add]
  exact hC a w hw h.2
 | succ f ih =>
  intro L a w hL hc hw h hcl
  have hex0:∃i,i<n∧L.getD i true=false:=by
   have hm:false∈L.toList:=List.count_pos_iff.1 (by omega)
   obtain⟨i,hi,hb⟩:=List.getElem_of_mem hm
   have hi':i<L.size:=by simpa using hi
   exact⟨i,by omega,by simp[hi'];simpa using hb⟩
  have key:∀i,i<n→L.getD i true=false→∃j,j<n∧L.getD j true=false∧∀k,k<j→L.getD k true=true:=by
   intro i
   induction i using Nat.strongRecOn with
   | _ i ihi =>
    intro hi hf
    by_cases hk:∃k,k<i∧L.getD k true=false
    ·obtain⟨k,hk,hkf⟩:=hk
     exact ihi k hk (by omega) hkf
    ·exact⟨i,hi,hf,fun k hk'=>by
      cases hb:L.getD k true with
      | true=>rfl
      | false=>exact absurd ⟨k,hk',hb⟩ hk⟩
  obtain⟨j,hj,hjf,hmin⟩:∃j,j<n∧L.getD j true=false∧∀k,k<j→L.getD k true=true:=by
   obtain⟨i0,hi0,hf0⟩:=hex0
   exact key i0 hi0 hf0
  have getL:∀i d,i<n→(L++Array.replicate (l.toArray.size - n) false).getD i d=L.getD i d:=fun i d hi=>by
   have:i<L.size:=by omega
   simp[Array.getElem?_append_left this]
  have edges:∀i o,i<n→l.toArray[i]? =some o→(∀ e∈o.after,Region.binds .any e=true→e.on<i):=by
   intro i o hi ho e he hb
   have h2:=hh i hi
   rw[ho]at h2
   simp only[Qa,Array.all_eq_true_iff_forall_mem,Bool.or_eq_true,Bool.not_eq_true',decide_eq_true_eq]at h2
   exact(h2.1 e he).resolve_left (by rw[hb];simp)
  have toHead:∀i,i<n→i∈Qb .any l.toArray (L++Array.replicate (l.toArray.size - n) false)→i∈Qb .any (l.take n).toArray L:=by
   intro i hin hi
   obtain⟨h1,o,ho,hall⟩:=mem_ready.1 hi
   refine mem_ready.2 ⟨by rw[← getL i true hin];exact h1,o,by rw[head_get hin];exact ho,fun e he hb=> ?_⟩
   have h3:=edges i o hin ho e he hb
   rw[← getL e.on false (by omega)]
   exact hall e he hb
  have hjs:j<l.toArray.size:=by omega
  obtain⟨oj,hoj⟩:∃o,l.toArray[j]? =some o:=⟨_,Array.getElem?_eq_getElem hjs⟩
  have jready:j∈Qb .any l.toArray (L++Array.replicate (l.toArray.size - n) false):=by
   refine mem_ready.2 ⟨by rw[getL j true hj];exact hjf,oj,hoj,fun e he hb=> ?_⟩
   have h3:=edges j oj hj hoj e he hb
   rw[getL e.on false (by omega)]
   have h4:=hmin e.on h3
   have h5:e.on<L.size:=by omega
   simp[h5]at h4 ⊢
   exact h4
  have next:∀i,i<n→i∈Qb .any (l.take n).toArray L→∀a' w',C w'→wpAnyQ P .any (l.take n).toArray C Qh f (L.setIfInBounds i true) a' →
    wpAny P .any l.toArray Q (f+(l.toArray.size - n)) ((L++Array.replicate (l.toArray.size - n) false).setIfInBounds i true) a' w':=by
   intro i hin hir a' w' hw' h'
   obtain⟨hun,o,ho,hall⟩:=mem_ready.1 hir
   have his:i<L.size:=by omega
   have hcl':∀j o,l.toArray[j]? =some o→(L.setIfInBounds i true).getD j false=true→∀e∈o.after,Region.binds .any e=true→(L.setIfInBounds i true).getD e.on false=true:=by
    intro j oj hoj hlj e he hb
    by_cases hij:i=j
    ·subst hij
     rw[head_get hin]at ho
     have:oj=o:=Option.some.inj (hoj.symm.trans ho)
     subst this
     exact getD_set_true (hall e he hb)
    ·rw[getD_set_ne false hij]at hlj
     exact getD_set_true (hcl j oj hoj hlj e he hb)
   have hset:(L++Array.replicate (l.toArray.size - n) false).setIfInBounds i true=L.setIfInBounds i true++Array.replicate (l.toArray.size - n) false:=by
    rw[Array.setIfInBounds_append_left his]
   have hcount:(L.setIfInBounds i true).toList.count false=f:=by
    have hb:L[i]=false:=by simpa[his]using hun
    have:(L.setIfInBounds i true).toList=L.toList.set i true:=by simp
    rw[this,List.count_set (by simpa using his)]
    simp[hb]
    simp at hc;omega
   rw[hset]
   exact ih _ a' w' (by simp[hL]) hcount hw' h' hcl'
  have guards:∀i o,i<n→l.toArray[i]? =some o→∀j b,o.guard=some (j,b)→j<n:=fun i o hin ho j b hgd=>by
   have h2:=hh i hin
   rw[ho]at h2
   simp only[Qa,hgd,decide_eq_true_eq]at h2
   exact h2.2
  rw[show f+1+(l.toArray.size - n)=(f+(l.toArray.size - n))+1 by omega]
  by_cases hpu:pureAt l.toArray j=true
  ·
   unfold pureAt at hpu
   rw[hoj]at hpu
   simp only[Qa,List.all_eq_true,List.mem_range,Bool.or_eq_true,decide_eq_true_eq]at hpu
   obtain⟨hpu,hap⟩:=hpu
   have hjr:=toHead j hj jready
   have hq:=h.2 j hjr
   unfold qOp at hq
   rw[head_get hj,hoj]at hq
   dsimp only at hq
   rw[wanted_head (guards j oj hj hoj)]at hq
   obtain⟨v,hy,hK⟩:∃v,Yields P l.toArray oj v a∧wpAnyQ P .any (l.take n).toArray C Qh f (L.setIfInBounds j true) (a.put oj.dst v):=by
    split at hq
    ·rename_i hwd
     obtain⟨v,h1,h2⟩:=hq
     exact⟨v,.inl ⟨hwd,pure_yields hpu (h1 w hw)⟩,h2⟩
    ·rename_i hwd
     exact⟨undef,.inr ⟨by simpa using hwd,rfl⟩,hq⟩
   refine wpAny_first hoj (Region.noSelect_spec hsel) (fun c a w hp=>hQ c a oj.dst v w hp) _ _ a w ?_ jready hy (next j hj hjr _ w hw hK)
   intro k ok hk hkj hun hno
   have hks:k<l.toArray.size:=(Array.getElem?_eq_some_iff.1 hk).1
   have hgt:¬k≤j:=by
    intro hle
    have hlt:k<j:=by omega
    rw[getL k true (by omega),hmin k hlt]at hun
    cases hun
   have h3:=(hap k hks).resolve_left hgt
   rw[hk]at h3
   simp only[Bool.or_eq_true,Array.any_eq_true',Qa,beq_iff_eq]at h3
   rcases h3 with⟨e,he,hb,hon⟩|h3
   ·exact absurd hon (hno e he hb)
   ·exact h3
  ·have hready:∀i,i∈Qb .any l.toArray (L++Array.replicate (l.toArray.size - n) false)→i<n:=by
    intro i hi
    obtain⟨h1,o,ho,hall⟩:=mem_ready.1 hi
    have hlt:i<l.toArray.size:=(Array.getElem?_eq_some_iff.1 ho).1
    rcases Nat.lt_or_ge i n with h2|h2
    ·exact h2
    ·have:=((ht i hlt).resolve_left (by omega) j hj).resolve_left hpu
     cases hsz:l.toArray.size with
     | zero=>omega
     | succ m =>
      rw[hsz]at this
      unfold waits at this
      rw[ho]at this
      simp only[Bool.or_eq_true,Array.any_eq_true',Qa,beq_iff_eq]at this
      have inL:∀x,(L++Array.replicate (l.toArray.size - n) false).getD x false=true→L.getD x false=true:=fun x hx=>by
       rcases Nat.lt_or_ge x n with h7|h7
       ·rw[← getL x false h7];exact hx
       ·exfalso
        have h8:L.size≤x:=by omega
        rw[Array.getD_eq_getD_getElem?,Array.getElem?_append_right h8,Array.getElem?_replicate]at hx
        split at hx<;>simp at hx
      have h3:L.getD j false=true:=by
       rcases this with⟨e,he,hb,hon⟩|⟨e,he,hb,hon⟩
       ·rw[← hon];exact inL _ (hall e he hb)
       ·exact chain L hcl m e.on j (inL _ (hall e he hb)) hon
      have:j<L.size:=by omega
      simp[this]at hjf h3
      rw[hjf]at h3;cases h3
   refine⟨fun h6=>(by rw[h6]at jready;cases jready),fun i hi=> ?_⟩
   have hin:=hready i hi
   have hir:=toHead i hin hi
   have hq:=h.2 i hir
   obtain⟨_,o,ho,_⟩:=mem_ready.1 hi
   unfold qOp at hq
   unfold wpOp
   rw[head_get hin]at hq
   simp only[ho]at hq ⊢
   rw[wanted_head (guards i o hin ho)]at hq
   split
   ·rename_i hwd
    rw[if_pos hwd]at hq
    exact .inl (Oper.wp_of_quiet hw (next i hin hir) hq)
   ·rename_i hwd
    rw[if_neg hwd]at hq
    exact next i hin hir _ _ hw hq
theorem wp_region_head {id:Nat} {a:Act} {w:World} (n:Nat) (hQ:∀c a d v w,Q (.panic c) (a.put d v) w→Q (.panic c) a w) (hm:P.follows .mixedOrders=true) (hB1:Region.lexB .any (l.take n).toArray=true) (hB2:headB l.toArray n=true)
  (h:wpQuiet P (l.take n).toArray (fun w'=>∃x,w'=plus w x) (fun a'=>∀w',Ext w w'→wpAny P .any l.toArray Q (l.toArray.size - n) (restB l.toArray n) a' w') (l.take n) a):(Code.region id l.toArray true).wp P Q a w:=by
 have hB2':=hB2
 simp only[headB,Qa,decide_eq_true_eq]at hB2'
 obtain⟨⟨⟨hn,_⟩,_⟩,_⟩:=hB2'
 simp only[Region.lexB,Qa]at hB1
 have hlen:(l.take n).length=n:=by simp at hn ⊢;omega
 have H:=wpAnyQ_lex (C:=fun w'=>∃x,w'=plus w x) (md:= .any) hB1.1 (l.take n) 0 (Array.replicate n false) a (by simp) (by simpa[hlen]using hB1.2) h
 refine wp_region_any hm ?_
 have:=any_head (C:=fun w'=>∃x,w'=plus w x) (Q:=Q) hQ hB2 (fun a' w' hw' hq=>by
  obtain⟨x,rfl⟩:=hw'
  exact hq _ (ext_plus w x)) (l.take n).length (Array.replicate n false) a { w with drawn:=w.drawn+1 } (by simp) (by simp[hlen]) ⟨⟨#[],w.drawn+1⟩,by simp[plus]⟩ H
  (fun j o _ hl=>by rw[getD_replicate_false]at hl;cases hl)
 have e1:(Array.replicate n false++Array.replicate (l.toArray.size - n) false:Array Bool)=Array.replicate l.toArray.size false:=by
  rw[Array.replicate_append_replicate];congr 1;omega
 rw[e1,hlen]at this
 have e2:n+(l.toArray.size - n)=l.toArray.size:=by omega
 rw[e2]at this
 exact this
theorem wp_region_ext {id:Nat} {a:Act} {w:World} (n:Nat) (hQ:∀c a d v w,Q (.panic c) (a.put d v) w→Q (.panic c) a w) (hm:P.follows .mixedOrders=true) (hB1:Region.lexB .any (l.take n).toArray=true) (hB2:headB l.toArray n=true) (hB3:Region.seqB .any l.toArray (l.toArray.size - n) n (restB l.toArray n)=true)
  (h:wpQuiet P (l.take n).toArray (fun w'=>∃x,w'=plus w x) (fun a'=>∀w',Ext w w'→wpList P l.toArray Q (l.drop n) a' w') (l.take n) a):(Code.region id l.toArray true).wp P Q a w:=by
 refine wp_region_head n hQ hm hB1 hB2 (wpQuiet_mono ?_ _ _ h)
 intro a' hq w' hw'
 have:=wpAny_of_seq (md:= .any) (Q':=Q) (l.drop n) n (restB l.toArray n) a' w' (fun j=>by simp[List.getElem?_drop]) (by simpa using hB3) (hq w' hw')
 simpa using this
theorem any_one {ops:Array Oper} {listed:Array Bool} {a:Act} {w:World} {f i:Nat} (hr:Qb .any ops listed=[i]) (h:wpOp P ops Q i (wpAny P .any ops Q f (listed.setIfInBounds i true)) a w):wpAny P .any ops Q (f+1) listed a w :=
 by
 refine⟨fun e=> ?_,fun j hj=> ?_⟩
 ·rw[hr]at e;cases e
 ·rw[hr]at hj;simp at hj;subst hj;exact h
theorem any_two {ops:Array Oper} {listed:Array Bool} {a:Act} {w:World} {f i j:Nat} (hr:Qb .any ops listed=[i,j]) (h:wpOp P ops Q i (wpAny P .any ops Q f (listed.setIfInBounds i true)) a w)
  (h':wpOp P ops Q j (wpAny P .any ops Q f (listed.setIfInBounds j true)) a w):wpAny P .any ops Q (f+1) listed a w :=
 by
 refine⟨fun e=> ?_,fun k hk=> ?_⟩
 ·rw[hr]at e;cases e
 ·rw[hr]at hk;simp at hk;rcases hk with rfl|rfl
  ·exact h
  ·exact h'
theorem any_done {ops:Array Oper} {listed:Array Bool} {a:Act} {w:World} (hr:Qb .any ops listed=[]) (h:Q .normal a w):wpAny P .any ops Q 0 listed a w:=⟨hr,h⟩
theorem op_of {ops:Array Oper} {o:Oper} {a:Act} {w:World} {i:Nat} {K:Act→World→Prop} (ho:ops[i]? =some o) (h:wpList P ops (fun e a w=>match e with| .normal=>K a w|e=>Q e a w) [o] a w):wpOp P ops Q i K a w:=by
 unfold wpOp
 rw[ho]
 dsimp only
 unfold wpList at h
 split
 ·rename_i hw
  rw[if_pos hw]at h
  refine h.imp (fun h=> ?_) (fun h=>⟨h.1,h.2⟩)
  unfold Oper.wp at h ⊢
  generalize (execOp a.eval o).run P w=r at h ⊢
  cases r with
  | ok n w' =>
   cases n<;>first
    | exact h
    | exact Calls.mono h (fun e w'' he=>by cases e<;>exact he)
  | halt x w'=>cases x<;>exact h
 ·rename_i hw
  rw[if_neg hw]at h
  exact h
end
end Go.Proofs.YtgloajbgphcloaaGreat
namespace Go.Proofs.YtgloajbgphcloaaGreat
set_option linter.unusedVariables false
set_option linter.unusedSimpArgs false
open Go.RowKit
section
variable {P:Program} {k n:Nat} {Q:Exit→Act→World→Prop}
def noDefer (ops:Array Oper):Bool:=ops.all fun o=>match o.op with| .defer _=>false|_=>true
theorem oper_bridge {o:Oper} {a:Act} {w:World} {K:Act→World→Prop} (hd:∀c,o.op≠ .defer c) (h:o.wp P a w K Q):o.wpIn (Fence.wide.inRound k) n P a w K Q:=by
 refine⟨fun _ _=>trivial,?_⟩
 unfold Oper.wp at h
 rw[Fence.inRound_round,Oper.semAt_some _ _ _ hd]
 generalize (execOp a.eval o).run P w=r at h
 cases r with
 | ok x w' =>
  cases x
  case enter f args=>exact⟨fun h=>by simp[Fence.wide,Fence.inRound]at h,CallsIn.inRound k (callsIn_wide.2 h)⟩
  case row row args =>
   refine⟨fun h=>by simp[Fence.wide,Fence.inRound]at h,fun c cs _=> ?_⟩
   obtain⟨v,w'',hr,hs⟩:=h c cs
   exact⟨v,w'',hr,stepsIn_wide.2 hs⟩
  case round=>exact h.elim
  all_goals exact h
 | halt x w'=>cases x<;>exact h
theorem any_bridge {ops:Array Oper} (hd:noDefer ops=true) (hno:¬LetsOut Q):∀(f:Nat) (L:Array Bool) (a:Act) (w:World),wpAny P .any ops Q f L a w→wpAnyIn (Fence.wide.inRound k) n P .any ops Q f L a w
 | 0,_,_,_,h=>h
 | f+1,L,a,w,h=>by
  refine⟨h.1,fun i hi=> ?_⟩
  have h1:=h.2 i hi
  unfold wpOp at h1
  unfold wpOpIn
  cases ho:ops[i]? with
  | none =>
   rw[ho]at h1
   exact any_bridge hd hno f _ a w h1
  | some o =>
   rw[ho]at h1
   dsimp only at h1 ⊢
   have hd':∀c,o.op≠ .defer c:=by
    intro c e
    unfold noDefer at hd
    rw[Array.all_eq_true]at hd
    obtain⟨hlt,he⟩:=Array.getElem?_eq_some_iff.1 ho
    have:=hd i hlt
    rw[he,e]at this
    cases this
   split
   ·rename_i hw
    rw[if_pos hw]at h1
    rcases h1 with h1|h1
    ·exact Oper.wpIn_mono (fun a w h=>any_bridge hd hno f _ a w h) (oper_bridge hd' h1)
    ·exact absurd h1.2 hno
   ·rename_i hw
    rw[if_neg hw]at h1
    exact⟨fun _ _=>trivial,any_bridge hd hno f _ _ w h1⟩
theorem wpIn_region_ext {l:List Oper} {id:Nat} {a:Act} {w:World} (m:Nat) (hQ:∀c a d v w,Q (.panic c) (a.put d v) w→Q (.panic c) a w) (hno:¬LetsOut Q) (hd:noDefer l.toArray=true) (hm:P.follows .mixedOrders=true) (hB1:Region.lexB .any (l.take m).toArray=true) (hB2:headB l.toArray m=true) (hB3:Region.seqB .any l.toArray (l.toArray.size - m) m (restB l.toArray m)=true)
  (h:wpQuiet P (l.take m).toArray (fun w'=>∃x,w'=plus w x) (fun a'=>∀w',Ext w w'→wpList P l.toArray Q (l.drop m) a' w') (l.take m) a):(Code.region id l.toArray true).wpIn (Fence.wide.inRound k) n P Q a w:=by
 have h:=wpQuiet_mono (Q':=fun a'=>∀w',Ext w w'→wpAny P .any l.toArray Q (l.toArray.size - m) (restB l.toArray m) a' w') (fun a' hq w' hw'=>by
  have:=wpAny_of_seq (md:= .any) (Q':=Q) (l.drop m) m (restB l.toArray m) a' w' (fun j=>by simp[List.getElem?_drop]) (by simpa using hB3) (hq w' hw')
  simpa using this) _ _ h
 have hB2':=hB2
 simp only[headB,Bool.and_eq_true,decide_eq_true_eq]at hB2'
 obtain⟨⟨⟨hn,_⟩,_⟩,_⟩:=hB2'
 simp only[Region.lexB,Bool.and_eq_true]at hB1
 have hlen:(l.take m).length=m:=by simp at hn ⊢;omega
 have H:=wpAnyQ_lex (C:=fun w'=>∃x,w'=plus w x) (md:= .any) hB1.1 (l.take m) 0 (Array.replicate m false) a (by simp) (by simpa[hlen]using hB1.2) h
 refine wpIn_region_any hm (any_bridge hd hno _ _ _ _ ?_)
 have:=any_head (C:=fun w'=>∃x,w'=plus w x) (Q:=Q) hQ hB2 (fun a' w' hw' hq=>by
  obtain⟨x,rfl⟩:=hw'
  exact hq _ (ext_plus w x)) (l.take m).length (Array.replicate m false) a { w with drawn:=w.drawn+1 } (by simp) (by simp[hlen]) ⟨⟨#[],w.drawn+1⟩,by simp[plus]⟩ H
  (fun j o _ hl=>by rw[getD_replicate_false]at hl;cases hl)
 have e1:(Array.replicate m false++Array.replicate (l.toArray.size - m) false:Array Bool)=Array.replicate l.toArray.size false:=by
  rw[Array.replicate_append_replicate];congr 1;omega
 rw[e1,hlen]at this
 have e2:m+(l.toArray.size - m)=l.toArray.size:=by omega
 rw[e2]at this
 exact this
end
end Go.Proofs.YtgloajbgphcloaaGreat
namespace Go.Proofs.YtgloajbgphcloaaGreat
set_option linter.unusedVariables false
set_option linter.unusedSimpArgs false
open Go.RowKit
open Bool renaming and_eq_true → Qa
open Region renaming ready → Qb
section
variable {P:Program} {l:List Oper} {n mm:Nat} {C:World→Prop} {Q:Exit→Act→World→Prop} {Qh:Act→Prop}
theorem oper_bridgeW {o:Oper} {a:Act} {w:World} {K:Act→World→Prop} (hd:∀c,o.op≠ .defer c) (h:o.wp P a w K Q):o.wpIn Fence.wide n P a w K Q:=by
 refine⟨fun _ _=>trivial,?_⟩
 unfold Oper.wp at h
 rw[show(Fence.wide).round=none from rfl,Oper.semAt_none]
 generalize (execOp a.eval o).run P w=r at h
 cases r with
 | ok x w' =>
  cases x
  case enter f args=>exact⟨fun h=>by simp[Fence.wide]at h,callsIn_wide.2 h⟩
  case row row args =>
   refine⟨fun h=>by simp[Fence.wide]at h,fun c cs _=> ?_⟩
   obtain⟨v,w'',hr,hs⟩:=h c cs
   exact⟨v,w'',hr,stepsIn_wide.2 hs⟩
  case round=>exact h.elim
  all_goals exact h
 | halt x w'=>cases x<;>exact h
def headY (ops:Array Oper) (n:Nat):Bool :=
 decide (n≤ops.size) &&
 ((List.range n).all fun i=>match ops[i]? with
  | some o=>o.after.all (fun e=> !Region.binds .any e||decide (e.on<i))&&(match o.guard with|some (j,_)=>decide (j<n)|none=>true)
  | none=>true) &&
 ((List.range ops.size).all fun t=>decide (t<n)||(List.range n).all fun i=>waits ops ops.size t i)
theorem any_headY (hd:noDefer l.toArray=true) (h0:headY l.toArray n=true)
  (hC:∀a w,C w→Qh a→wpAnyIn Fence.wide mm P .any l.toArray Q (l.toArray.size - n) (Array.replicate n true++Array.replicate (l.toArray.size - n) false) a w) :
  ∀(f:Nat) (L:Array Bool) (a:Act) (w:World),L.size=n→L.toList.count false=f→C w→wpAnyQ P .any (l.take n).toArray C Qh f L a →
   (∀ j o,l.toArray[j]? =some o→L.getD j false=true→∀e∈o.after,Region.binds .any e=true→L.getD e.on false=true) →
   wpAnyIn Fence.wide mm P .any l.toArray Q (f+(l.toArray.size - n)) (L++Array.replicate (l.toArray.size - n) false) a w:=by
 simp only[headY,Qa,decide_eq_true_eq,List.all_eq_true,List.mem_range,Bool.or_eq_true]at h0
 obtain⟨⟨hn,hh⟩,ht⟩:=h0
 have chain:∀(L:Array Bool),(∀ j o,l.toArray[j]? =some o→L.getD j false=true→∀e∈o.after,Region.binds .any e=true→L.getD e.on false=true) →
   ∀f j i,L.getD j false=true→waits l.toArray f j i=true→L.getD i false=true:=by
  intro L hcl f
  induction f with
  | zero=>intro j i _ hw;simp[waits]at hw
  | succ f ih =>
   intro j i hj hw
   unfold waits at hw
   cases ho:l.toArray[j]? with
   | none=>rw[ho]at hw;cases hw
   | some o =>
    rw[ho]at hw
    simp only[Bool.or_eq_true,Array.any_eq_true',Qa,beq_iff_eq]at hw
    rcases hw with⟨e,he,hb,hon⟩|⟨e,he,hb,hon⟩
    ·rw[← hon];exact hcl j o ho hj e he hb
    ·exact ih e.on i (hcl j o ho hj e he hb) hon
 have ndf:∀(i:Nat) (o:Oper),l.toArray[i]? =some o→∀c,o.op≠ .defer c:=by
  intro i o ho c e
  unfold noDefer at hd
  rw[Array.all_eq_true]at hd
  obtain⟨hlt,he⟩:=Array.getElem?_eq_some_iff.1 ho
  have:=hd i hlt
  rw[he,e]at this
  cases this
 intro f
 induction f with
 | zero =>
  intro L a w hL hc hw h _
  have e:L=Array.replicate n true:=by
   apply Array.ext
   ·simp[hL]
   ·intro i hi hi'
    rw[Array.getElem_replicate]
    have hz:false ∉ L.toList:=List.count_eq_zero.1 hc
    cases hb:L[i]with
    | true=>rfl
    | false=>exact absurd (by rw[← hb];exact Array.getElem_mem_toList hi) hz
  rw[e,Nat.zero_add]
  exact hC a w hw h.2
 | succ f ih =>
  intro L a w hL hc hw h hcl
  have hex0:∃i,i<n∧L.getD i true=false:=by
   have hm:false∈L.toList:=List.count_pos_iff.1 (by omega)
   obtain⟨i,hi,hb⟩:=List.getElem_of_mem hm
   have hi':i<L.size:=by simpa using hi
   exact⟨i,by omega,by simp[hi'];simpa using hb⟩
  have key:∀i,i<n→L.getD i true=false→∃j,j<n∧L.getD j true=false∧∀k,k<j→L.getD k true=true:=by
   intro i
   induction i using Nat.strongRecOn with
   | _ i ihi =>
    intro hi hf
    by_cases hk:∃k,k<i∧L.getD k true=false
    ·obtain⟨k,hk,hkf⟩:=hk
     exact ihi k hk (by omega) hkf
    ·exact⟨i,hi,hf,fun k hk'=>by
      cases hb:L.getD k true with
      | true=>rfl
      | false=>exact absurd ⟨k,hk',hb⟩ hk⟩
  obtain⟨j,hj,hjf,hmin⟩:∃j,j<n∧L.getD j true=false∧∀k,k<j→L.getD k true=true:=by
   obtain⟨i0,hi0,hf0⟩:=hex0
   exact key i0 hi0 hf0
  have getL:∀i d,i<n→(L++Array.replicate (l.toArray.size - n) false).getD i d=L.getD i d:=fun i d hi=>by
   have:i<L.size:=by omega
   simp[Array.getElem?_append_left this]
  have edges:∀i o,i<n→l.toArray[i]? =some o→(∀ e∈o.after,Region.binds .any e=true→e.on<i):=by
   intro i o hi ho e he hb
   have h2:=hh i hi
   rw[ho]at h2
   simp only[Qa,Array.all_eq_true_iff_forall_mem,Bool.or_eq_true,Bool.not_eq_true',decide_eq_true_eq]at h2
   exact(h2.1 e he).resolve_left (by rw[hb];simp)
  have toHead:∀i,i<n→i∈Qb .any l.toArray (L++Array.replicate (l.toArray.size - n) false)→i∈Qb .any (l.take n).toArray L:=by
   intro i hin hi
   obtain⟨h1,o,ho,hall⟩:=mem_ready.1 hi
   refine mem_ready.2 ⟨by rw[← getL i true hin];exact h1,o,by rw[head_get hin];exact ho,fun e he hb=> ?_⟩
   have h3:=edges i o hin ho e he hb
   rw[← getL e.on false (by omega)]
   exact hall e he hb
  have hjs:j<l.toArray.size:=by omega
  obtain⟨oj,hoj⟩:∃o,l.toArray[j]? =some o:=⟨_,Array.getElem?_eq_getElem hjs⟩
  have jready:j∈Qb .any l.toArray (L++Array.replicate (l.toArray.size - n) false):=by
   refine mem_ready.2 ⟨by rw[getL j true hj];exact hjf,oj,hoj,fun e he hb=> ?_⟩
   have h3:=edges j oj hj hoj e he hb
   rw[getL e.on false (by omega)]
   have h4:=hmin e.on h3
   have h5:e.on<L.size:=by omega
   simp[h5]at h4 ⊢
   exact h4
  have next:∀i,i<n→i∈Qb .any (l.take n).toArray L→∀a' w',C w'→wpAnyQ P .any (l.take n).toArray C Qh f (L.setIfInBounds i true) a' →
    wpAnyIn Fence.wide mm P .any l.toArray Q (f+(l.toArray.size - n)) ((L++Array.replicate (l.toArray.size - n) false).setIfInBounds i true) a' w':=by
   intro i hin hir a' w' hw' h'
   obtain⟨hun,o,ho,hall⟩:=mem_ready.1 hir
   have his:i<L.size:=by omega
   have hcl':∀j o,l.toArray[j]? =some o→(L.setIfInBounds i true).getD j false=true→∀e∈o.after,Region.binds .any e=true→(L.setIfInBounds i true).getD e.on false=true:=by
    intro j oj hoj hlj e he hb
    by_cases hij:i=j
    ·subst hij
     rw[head_get hin]at ho
     have:oj=o:=Option.some.inj (hoj.symm.trans ho)
     subst this
     exact getD_set_true (hall e he hb)
    ·rw[getD_set_ne false hij]at hlj
     exact getD_set_true (hcl j oj hoj hlj e he hb)
   have hset:(L++Array.replicate (l.toArray.size - n) false).setIfInBounds i true=L.setIfInBounds i true++Array.replicate (l.toArray.size - n) false:=by
    rw[Array.setIfInBounds_append_left his]
   have hcount:(L.setIfInBounds i true).toList.count false=f:=by
    have hb:L[i]=false:=by simpa[his]using hun
    have:(L.setIfInBounds i true).toList=L.toList.set i true:=by simp
    rw[this,List.count_set (by simpa using his)]
    simp[hb]
    simp at hc;omega
   rw[hset]
   exact ih _ a' w' (by simp[hL]) hcount hw' h' hcl'
  have guards:∀i o,i<n→l.toArray[i]? =some o→∀j b,o.guard=some (j,b)→j<n:=fun i o hin ho j b hgd=>by
   have h2:=hh i hin
   rw[ho]at h2
   simp only[Qa,hgd,decide_eq_true_eq]at h2
   exact h2.2
  rw[show f+1+(l.toArray.size - n)=(f+(l.toArray.size - n))+1 by omega]
  have hready:∀i,i∈Qb .any l.toArray (L++Array.replicate (l.toArray.size - n) false)→i<n:=by
   intro i hi
   obtain⟨h1,o,ho,hall⟩:=mem_ready.1 hi
   have hlt:i<l.toArray.size:=(Array.getElem?_eq_some_iff.1 ho).1
   rcases Nat.lt_or_ge i n with h2|h2
   ·exact h2
   ·have:=(ht i hlt).resolve_left (by omega) j hj
    cases hsz:l.toArray.size with
    | zero=>omega
    | succ m =>
     rw[hsz]at this
     unfold waits at this
     rw[ho]at this
     simp only[Bool.or_eq_true,Array.any_eq_true',Qa,beq_iff_eq]at this
     have inL:∀x,(L++Array.replicate (l.toArray.size - n) false).getD x false=true→L.getD x false=true:=fun x hx=>by
      rcases Nat.lt_or_ge x n with h7|h7
      ·rw[← getL x false h7];exact hx
      ·exfalso
       have h8:L.size≤x:=by omega
       rw[Array.getD_eq_getD_getElem?,Array.getElem?_append_right h8,Array.getElem?_replicate]at hx
       split at hx<;>simp at hx
     have h3:L.getD j false=true:=by
      rcases this with⟨e,he,hb,hon⟩|⟨e,he,hb,hon⟩
      ·rw[← hon];exact inL _ (hall e he hb)
      ·exact chain L hcl m e.on j (inL _ (hall e he hb)) hon
     have:j<L.size:=by omega
     simp[this]at hjf h3
     rw[hjf]at h3;cases h3
  refine⟨fun h6=>(by rw[h6]at jready;cases jready),fun i hi=> ?_⟩
  have hin:=hready i hi
  have hir:=toHead i hin hi
  have hq:=h.2 i hir
  obtain⟨_,o,ho,_⟩:=mem_ready.1 hi
  unfold qOp at hq
  unfold wpOpIn
  rw[head_get hin]at hq
  simp only[ho]at hq ⊢
  rw[wanted_head (guards i o hin ho)]at hq
  split
  ·rename_i hwd
   rw[if_pos hwd]at hq
   exact oper_bridgeW (ndf i o ho) (Oper.wp_of_quiet hw (next i hin hir) hq)
  ·rename_i hwd
   rw[if_neg hwd]at hq
   exact⟨fun _ _=>trivial,next i hin hir _ _ hw hq⟩
theorem wpIn_region_headY {id:Nat} {a:Act} {w:World} (n:Nat) (hm:P.follows .mixedOrders=true) (hd:noDefer l.toArray=true) (hB1:Region.lexB .any (l.take n).toArray=true) (hB2:headY l.toArray n=true)
  (h:wpQuiet P (l.take n).toArray (fun w'=>∃x,w'=plus w x) (fun a'=>∀w',Ext w w'→wpAnyIn Fence.wide mm P .any l.toArray Q (l.toArray.size - n) (restB l.toArray n) a' w') (l.take n) a):(Code.region id l.toArray true).wpIn Fence.wide mm P Q a w:=by
 have hB2':=hB2
 simp only[headY,Qa,decide_eq_true_eq]at hB2'
 obtain⟨⟨hn,_⟩,_⟩:=hB2'
 simp only[Region.lexB,Qa]at hB1
 have hlen:(l.take n).length=n:=by simp at hn ⊢;omega
 have H:=wpAnyQ_lex (C:=fun w'=>∃x,w'=plus w x) (md:= .any) hB1.1 (l.take n) 0 (Array.replicate n false) a (by simp) (by simpa[hlen]using hB1.2) h
 refine wpIn_region_any hm ?_
 have:=any_headY (C:=fun w'=>∃x,w'=plus w x) (Q:=Q) (mm:=mm) hd hB2 (fun a' w' hw' hq=>by
  obtain⟨x,rfl⟩:=hw'
  exact hq _ (ext_plus w x)) (l.take n).length (Array.replicate n false) a { w with drawn:=w.drawn+1 } (by simp) (by simp[hlen]) ⟨⟨#[],w.drawn+1⟩,by simp[plus]⟩ H
  (fun j o _ hl=>by rw[getD_replicate_false]at hl;cases hl)
 have e1:(Array.replicate n false++Array.replicate (l.toArray.size - n) false:Array Bool)=Array.replicate l.toArray.size false:=by
  rw[Array.replicate_append_replicate];congr 1;omega
 rw[e1,hlen]at this
 have e2:n+(l.toArray.size - n)=l.toArray.size:=by omega
 rw[e2]at this
 exact this
theorem anyIn_seq {ops:Array Oper} {Q':Exit→Act→World→Prop} :∀(l:List Oper) (k:Nat) (listed:Array Bool) (a:Act) (w:World),(∀ j,l[j]? =ops[k+j]?) →
  Region.seqB .any ops l.length k listed=true→wpListIn Fence.wide mm P ops Q' l a w→wpAnyIn Fence.wide mm P .any ops Q' l.length listed a w
 | [],_,_,_,_,_,hB,h=>⟨by simpa[Region.seqB]using hB,h⟩
 | o::l,k,listed,a,w,hl,hB,h=>by
  have h0:ops[k]? =some o:=by simpa using(hl 0).symm
  simp only[List.length_cons,Region.seqB,Qa,decide_eq_true_eq]at hB
  refine⟨fun h1=>(by rw[hB.1]at h1;cases h1),fun i hi=> ?_⟩
  rw[hB.1]at hi
  have hik:i=k:=by simpa using hi
  subst hik
  have hw:wpOpIn Fence.wide mm P ops Q' i (wpListIn Fence.wide mm P ops Q' l) a w:=by unfold wpOpIn;simp only[h0];exact h
  exact wpOpIn_mono (fun a' w' h'=>anyIn_seq l (i+1) _ a' w' (fun j=>by have:=hl (j+1);simpa[Nat.add_assoc,Nat.add_comm 1 j]using this) hB.2 h') hw
theorem wpIn_region_extY {id:Nat} {a:Act} {w:World} (n:Nat) (hm:P.follows .mixedOrders=true) (hd:noDefer l.toArray=true) (hB1:Region.lexB .any (l.take n).toArray=true) (hB2:headY l.toArray n=true) (hB3:Region.seqB .any l.toArray (l.toArray.size - n) n (restB l.toArray n)=true)
  (h:wpQuiet P (l.take n).toArray (fun w'=>∃x,w'=plus w x) (fun a'=>∀w',Ext w w'→wpListIn Fence.wide mm P l.toArray Q (l.drop n) a' w') (l.take n) a):(Code.region id l.toArray true).wpIn Fence.wide mm P Q a w:=by
 refine wpIn_region_headY n hm hd hB1 hB2 (wpQuiet_mono ?_ _ _ h)
 intro a' hq w' hw'
 have:=anyIn_seq (P:=P) (mm:=mm) (Q':=Q) (l.drop n) n (restB l.toArray n) a' w' (fun j=>by simp[List.getElem?_drop]) (by simpa using hB3) (hq w' hw')
 simpa using this
theorem wp_region_extN {id:Nat} {a:Act} {w:World} (n:Nat) (hm:P.follows .mixedOrders=true) (hB1:Region.lexB .any (l.take n).toArray=true) (hB2:headB l.toArray n=true) (hB3:Region.seqB .any l.toArray (l.toArray.size - n) n (restB l.toArray n)=true)
  (h:wpQuiet P (l.take n).toArray (fun w'=>∃x,w'=plus w x) (fun a'=>∀w',Ext w w'→wpList P l.toArray (Exit.then (fun a w=>Q .normal a w) (fun _ _ _=>False)) (l.drop n) a' w') (l.take n) a):(Code.region id l.toArray true).wp P Q a w:=by
 refine Code.wp_mono ?_ (wp_region_ext (Q:=Exit.then (fun a w=>Q .normal a w) (fun _ _ _=>False)) n (fun _ _ d _ _ h=>by cases d<;>exact h) hm hB1 hB2 hB3 h)
 intro e a w hq
 cases e<;>first|exact hq|exact hq.elim
end
end Go.Proofs.YtgloajbgphcloaaGreat
namespace Go.Proofs.YtgloajbgphcloaaGreat
set_option linter.unusedVariables false
set_option linter.unusedSimpArgs false
open Go.RowKit
open Region renaming ready → Qb
section
variable {P:Program} {ops:Array Oper} {Q:Exit→Act→World→Prop} {S:Bool→World→Prop} {t:Nat}
def wpAnyL (P:Program) (ops:Array Oper) (Q:Exit→Act→World→Prop) (t:Nat) (S:Bool→World→Prop):Nat→Array Bool→Act→World→Prop
 | 0,L,a,w=>Qb .any ops L=[]∧Q .normal a w
 | f+1,L,a,w=>(Qb .any ops L=[]→Q .normal a w) ∧
   ∀i∈Qb .any ops L,wpOp P ops Q i (fun a' w'=>S ((L.setIfInBounds i true).getD t false) w'∧wpAnyL P ops Q t S f (L.setIfInBounds i true) a' w') a w
theorem any_of_late:∀(f:Nat) (L:Array Bool) (a:Act) (w:World),wpAnyL P ops Q t S f L a w→wpAny P .any ops Q f L a w
 | 0,_,_,_,h=>h
 | f+1,_,_,_,h=>⟨h.1,fun i hi=>wpOp_mono (fun a' w' h'=>any_of_late f _ a' w' h'.2) (h.2 i hi)⟩
def Shutb (ops:Array Oper) (L:Array Bool):Prop:=∀j o,ops[j]? =some o→L.getD j false=true→∀e∈o.after,Region.binds .any e=true→L.getD e.on false=true
theorem shut_new (n:Nat):Shutb ops (Array.replicate n false):=fun j o _ hl=>by rw[getD_replicate_false]at hl;cases hl
theorem shut_set {L:Array Bool} {i:Nat} (h:Shutb ops L) (hi:i∈Qb .any ops L):Shutb ops (L.setIfInBounds i true):=by
 intro j oj hoj hlj e he hb
 obtain⟨hun,o,ho,hall⟩:=mem_ready.1 hi
 by_cases hij:i=j
 ·subst hij
  have:oj=o:=Option.some.inj (hoj.symm.trans ho)
  subst this
  exact getD_set_true (hall e he hb)
 ·rw[getD_set_ne false hij]at hlj
  exact getD_set_true (h j oj hoj hlj e he hb)
theorem shut_chain {L:Array Bool} (h:Shutb ops L):∀f j i,L.getD j false=true→waits ops f j i=true→L.getD i false=true:=by
 intro f
 induction f with
 | zero=>intro j i _ hw;simp[waits]at hw
 | succ f ih =>
  intro j i hj hw
  unfold waits at hw
  cases ho:ops[j]? with
  | none=>rw[ho]at hw;cases hw
  | some o =>
   rw[ho]at hw
   simp only[Bool.or_eq_true,Array.any_eq_true',Bool.and_eq_true,beq_iff_eq]at hw
   rcases hw with⟨e,he,hb,hon⟩|⟨e,he,hb,hon⟩
   ·rw[← hon];exact h j o ho hj e he hb
   ·exact ih e.on i (h j o ho hj e he hb) hon
theorem getD_un {L:Array Bool} {i:Nat} (h:L.getD i true=false):L.getD i false=false:=by
 rcases Nat.lt_or_ge i L.size with h'|h'
 ·simpa[h']using h
 ·simp[Array.getElem?_eq_none h']at h
theorem late_first {i:Nat} {oi:Oper} {v:Value} {Si:World→Prop} (hi:ops[i]? =some oi) (hsel:∀(j:Nat) (o:Oper) cs b,ops[j]? =some o→o.op≠ .select cs b)
  (hQ:∀c a w,Q (.panic c) (a.put oi.dst v) w→Q (.panic c) a w) (hit:i≠t)
  (hSi:∀L w,Shutb ops L→L.getD i true=false→S (L.getD t false) w→Si w) :
  ∀(f:Nat) (L:Array Bool) (a:Act) (w:World),
   (∀ j oj,ops[j]? =some oj→j≠i→L.getD j true=false→(∀ e∈oj.after,Region.binds .any e=true→e.on≠i)→oi.apart ops oj=true) →
   i∈Qb .any ops L→Shutb ops L→YieldsIf P ops Si oi v a→S (L.getD t false) w →
   wpAnyL P ops Q t S f (L.setIfInBounds i true) (a.put oi.dst v) w→wpAnyL P ops Q t S (f+1) L a w:=by
 intro f
 induction f with
 | zero =>
  intro L a w _ hr hL hy hS H
  refine⟨fun h=>(by rw[h]at hr;cases hr),fun j hj=> ?_⟩
  by_cases hji:j=i
  ·subst hji
   exact hy.wpOp hi (hSi L w hL (mem_ready.1 hr).1 hS) ⟨by rw[getD_set_ne false hit];exact hS,H⟩
  ·have:=ready_mono hj hji
   rw[H.1]at this
   cases this
 | succ f ih =>
  intro L a w hfree hr hL hy hS H
  refine⟨fun h=>(by rw[h]at hr;cases hr),fun j hj=> ?_⟩
  by_cases hji:j=i
  ·subst hji
   exact hy.wpOp hi (hSi L w hL (mem_ready.1 hr).1 hS) ⟨by rw[getD_set_ne false hit];exact hS,H⟩
  ·have h1:=H.2 j (ready_mono hj hji)
   obtain⟨hjun,oj,hoj,hall⟩:=mem_ready.1 hj
   have hnot:∀e∈oj.after,Region.binds .any e=true→e.on≠i:=fun e he hb heq=>by
    have h1:=hall e he hb
    have h0:=getD_un (mem_ready.1 hr).1
    rw[heq,h0]at h1
    cases h1
   have h2:=wpOp_putIf hoj (hfree j oj hoj hji hjun hnot) (fun cs b=>hsel i oi cs b hi) (fun cs b=>hsel j oj cs b hoj) hQ hy h1
   have hfree':∀k ok,ops[k]? =some ok→k≠i→(L.setIfInBounds j true).getD k true=false →
     (∀ e∈ok.after,Region.binds .any e=true→e.on≠i)→oi.apart ops ok=true:=fun k ok hk hki hun hno=>by
    refine hfree k ok hk hki ?_ hno
    by_cases hjk:j=k
    ·subst hjk;exact hjun
    ·rw[getD_set_ne true hjk]at hun;exact hun
   have hflag:((L.setIfInBounds i true).setIfInBounds j true).getD t false=(L.setIfInBounds j true).getD t false:=by
    rw[Array.setIfInBounds_comm _ _ (Ne.symm hji),getD_set_ne false hit]
   refine wpOp_mono (fun a' w' h3=>⟨by rw[← hflag];exact h3.2.1,ih (L.setIfInBounds j true) a' w' hfree' (ready_mono hr (Ne.symm hji)) (shut_set hL hj) h3.1 (by rw[← hflag];exact h3.2.1) ?_⟩) h2
   rw[Array.setIfInBounds_comm _ _ hji]
   exact h3.2.2
theorem late_early {i:Nat} {oi:Oper} {v:Value} {f:Nat} {L:Array Bool} {a:Act} {w:World} (hi:ops[i]? =some oi)
  (hs:Region.noSelect ops=true) (hf:Region.free .any ops L i=true) (hr:(Qb .any ops L).contains i=true) (hit:i≠t) (hwt:waits ops ops.size t i=true)
  (hQ:∀c a w,Q (.panic c) (a.put oi.dst v) w→Q (.panic c) a w) (hL:Shutb ops L) (hy:YieldsIf P ops (S false) oi v a) (hS:S (L.getD t false) w)
  (h:Shutb ops (L.setIfInBounds i true)→wpAnyL P ops Q t S f (L.setIfInBounds i true) (a.put oi.dst v) w):wpAnyL P ops Q t S (f+1) L a w:=by
 have hr':i∈Qb .any ops L:=by simpa using hr
 refine late_first (Si:=S false) hi (Region.noSelect_spec hs) hQ hit (fun L w hL hun hS=> ?_) f L a w (Region.free_spec hi hf) hr' hL hy hS (h (shut_set hL hr'))
 cases hb:L.getD t false with
 | false=>rw[hb]at hS;exact hS
 | true =>
  have:=shut_chain hL _ _ _ hb hwt
  rw[getD_un hun]at this
  cases this
theorem late_late {i:Nat} {oi:Oper} {v:Value} {f:Nat} {L:Array Bool} {a:Act} {w:World} (hi:ops[i]? =some oi)
  (hs:Region.noSelect ops=true) (hf:Region.free .any ops L i=true) (hr:(Qb .any ops L).contains i=true) (hit:i≠t) (hm:∀w,S false w→S true w)
  (hQ:∀c a w,Q (.panic c) (a.put oi.dst v) w→Q (.panic c) a w) (hL:Shutb ops L) (hy:YieldsIf P ops (S true) oi v a) (hS:S (L.getD t false) w)
  (h:Shutb ops (L.setIfInBounds i true)→wpAnyL P ops Q t S f (L.setIfInBounds i true) (a.put oi.dst v) w):wpAnyL P ops Q t S (f+1) L a w:=by
 have hr':i∈Qb .any ops L:=by simpa using hr
 refine late_first (Si:=S true) hi (Region.noSelect_spec hs) hQ hit (fun L w hL hun hS=> ?_) f L a w (Region.free_spec hi hf) hr' hL hy hS (h (shut_set hL hr'))
 cases hb:L.getD t false with
 | false=>rw[hb]at hS;exact hm _ hS
 | true=>rw[hb]at hS;exact hS
theorem late_one {L:Array Bool} {a:Act} {w:World} {f i:Nat} (hr:Qb .any ops L=[i]) (hL:Shutb ops L)
  (h:Shutb ops (L.setIfInBounds i true)→wpOp P ops Q i (fun a' w'=>S ((L.setIfInBounds i true).getD t false) w'∧wpAnyL P ops Q t S f (L.setIfInBounds i true) a' w') a w):wpAnyL P ops Q t S (f+1) L a w:=by
 have hi:i∈Qb .any ops L:=by rw[hr];simp
 refine⟨fun e=> ?_,fun j hj=> ?_⟩
 ·rw[hr]at e;cases e
 ·rw[hr]at hj;simp at hj;subst hj;exact h (shut_set hL hi)
theorem late_done {L:Array Bool} {a:Act} {w:World} {f:Nat} (hr:Qb .any ops L=[]) (h:Q .normal a w):wpAnyL P ops Q t S f L a w:=by
 cases f with
 | zero=>exact⟨hr,h⟩
 | succ f=>exact⟨fun _=>h,by rw[hr];simp⟩
theorem wp_region_late {id:Nat} {a:Act} {w:World} (t:Nat) (S:Bool→World→Prop) (hm:P.follows .mixedOrders=true)
  (h:Shutb ops (Array.replicate ops.size false)→wpAnyL P ops Q t S ops.size (Array.replicate ops.size false) a w.drew):(Code.region id ops true).wp P Q a w :=
 wp_region_any hm (any_of_late _ _ _ _ (h (shut_new _)))
end
end Go.Proofs.YtgloajbgphcloaaGreat
namespace Go.Proofs.YtgloajbgphcloaaGreat
set_option linter.unusedVariables false
set_option linter.unusedSimpArgs false
open Go.RowKit
open Region renaming ready → Qb
section
variable {P:Program} {ops:Array Oper} {Q:Exit→Act→World→Prop} {S:Bool→Bool→World→Prop} {t t2:Nat}
def wpAnyL2 (P:Program) (ops:Array Oper) (Q:Exit→Act→World→Prop) (t t2:Nat) (S:Bool→Bool→World→Prop):Nat→Array Bool→Act→World→Prop
 | 0,L,a,w=>Qb .any ops L=[]∧Q .normal a w
 | f+1,L,a,w=>(Qb .any ops L=[]→Q .normal a w) ∧
   ∀i∈Qb .any ops L,wpOp P ops Q i (fun a' w'=>S ((L.setIfInBounds i true).getD t false) ((L.setIfInBounds i true).getD t2 false) w'∧wpAnyL2 P ops Q t t2 S f (L.setIfInBounds i true) a' w') a w
theorem any_of_late2:∀(f:Nat) (L:Array Bool) (a:Act) (w:World),wpAnyL2 P ops Q t t2 S f L a w→wpAny P .any ops Q f L a w
 | 0,_,_,_,h=>h
 | f+1,_,_,_,h=>⟨h.1,fun i hi=>wpOp_mono (fun a' w' h'=>any_of_late2 f _ a' w' h'.2) (h.2 i hi)⟩
theorem late_first2 {i:Nat} {oi:Oper} {v:Value} {Si:World→Prop} (hi:ops[i]? =some oi) (hsel:∀(j:Nat) (o:Oper) cs b,ops[j]? =some o→o.op≠ .select cs b)
  (hQ:∀c a w,Q (.panic c) (a.put oi.dst v) w→Q (.panic c) a w) (hit:i≠t) (hit2:i≠t2)
  (hSi:∀L w,Shutb ops L→L.getD i true=false→S (L.getD t false) (L.getD t2 false) w→Si w) :
  ∀(f:Nat) (L:Array Bool) (a:Act) (w:World),
   (∀ j oj,ops[j]? =some oj→j≠i→L.getD j true=false→(∀ e∈oj.after,Region.binds .any e=true→e.on≠i)→oi.apart ops oj=true) →
   i∈Qb .any ops L→Shutb ops L→YieldsIf P ops Si oi v a→S (L.getD t false) (L.getD t2 false) w →
   wpAnyL2 P ops Q t t2 S f (L.setIfInBounds i true) (a.put oi.dst v) w→wpAnyL2 P ops Q t t2 S (f+1) L a w:=by
 intro f
 induction f with
 | zero =>
  intro L a w _ hr hL hy hS H
  refine⟨fun h=>(by rw[h]at hr;cases hr),fun j hj=> ?_⟩
  by_cases hji:j=i
  ·subst hji
   exact hy.wpOp hi (hSi L w hL (mem_ready.1 hr).1 hS) ⟨by rw[getD_set_ne false hit,getD_set_ne false hit2];exact hS,H⟩
  ·have:=ready_mono hj hji
   rw[H.1]at this
   cases this
 | succ f ih =>
  intro L a w hfree hr hL hy hS H
  refine⟨fun h=>(by rw[h]at hr;cases hr),fun j hj=> ?_⟩
  by_cases hji:j=i
  ·subst hji
   exact hy.wpOp hi (hSi L w hL (mem_ready.1 hr).1 hS) ⟨by rw[getD_set_ne false hit,getD_set_ne false hit2];exact hS,H⟩
  ·have h1:=H.2 j (ready_mono hj hji)
   obtain⟨hjun,oj,hoj,hall⟩:=mem_ready.1 hj
   have hnot:∀e∈oj.after,Region.binds .any e=true→e.on≠i:=fun e he hb heq=>by
    have h1:=hall e he hb
    have h0:=getD_un (mem_ready.1 hr).1
    rw[heq,h0]at h1
    cases h1
   have h2:=wpOp_putIf hoj (hfree j oj hoj hji hjun hnot) (fun cs b=>hsel i oi cs b hi) (fun cs b=>hsel j oj cs b hoj) hQ hy h1
   have hfree':∀k ok,ops[k]? =some ok→k≠i→(L.setIfInBounds j true).getD k true=false →
     (∀ e∈ok.after,Region.binds .any e=true→e.on≠i)→oi.apart ops ok=true:=fun k ok hk hki hun hno=>by
    refine hfree k ok hk hki ?_ hno
    by_cases hjk:j=k
    ·subst hjk;exact hjun
    ·rw[getD_set_ne true hjk]at hun;exact hun
   have hflag:((L.setIfInBounds i true).setIfInBounds j true).getD t false=(L.setIfInBounds j true).getD t false:=by
    rw[Array.setIfInBounds_comm _ _ (Ne.symm hji),getD_set_ne false hit]
   have hflag2:((L.setIfInBounds i true).setIfInBounds j true).getD t2 false=(L.setIfInBounds j true).getD t2 false:=by
    rw[Array.setIfInBounds_comm _ _ (Ne.symm hji),getD_set_ne false hit2]
   refine wpOp_mono (fun a' w' h3=>⟨by rw[← hflag,←hflag2];exact h3.2.1,ih (L.setIfInBounds j true) a' w' hfree' (ready_mono hr (Ne.symm hji)) (shut_set hL hj) h3.1 (by rw[← hflag,←hflag2];exact h3.2.1) ?_⟩) h2
   rw[Array.setIfInBounds_comm _ _ hji]
   exact h3.2.2
def direct (ops:Array Oper) (j i:Nat):Bool:=match ops[j]? with
 | some o=>o.after.toList.any fun e=>e.on == i&&Region.binds .any e
 | none=>false
theorem waits_direct {j i:Nat} (h:direct ops j i=true):waits ops ops.size j i=true:=by
 unfold direct at h
 cases ho:ops[j]? with
 | none=>rw[ho]at h;cases h
 | some o =>
  rw[ho]at h
  have hs:0<ops.size:=Nat.lt_of_le_of_lt (Nat.zero_le _) (Array.getElem?_eq_some_iff.1 ho).1
  obtain⟨f,hf⟩:∃f,ops.size=f+1:=⟨ops.size - 1,by omega⟩
  rw[hf]
  unfold waits
  rw[ho]
  simp only[List.any_eq_true,Bool.and_eq_true]at h
  obtain⟨e,he,h1,h2⟩:=h
  simp only[Bool.or_eq_true,Array.any_eq_true',Bool.and_eq_true]
  exact .inl ⟨e,by simpa using he,h2,h1⟩
theorem unset_of {L:Array Bool} {i t:Nat} (hL:Shutb ops L) (hw:waits ops ops.size t i=true) (hun:L.getD i true=false):L.getD t false=false:=by
 cases hb:L.getD t false with
 | false=>rfl
 | true =>
  have:=shut_chain hL _ _ _ hb hw
  rw[getD_un hun]at this
  cases this
theorem late_early2 {i:Nat} {oi:Oper} {v:Value} {f:Nat} {L:Array Bool} {a:Act} {w:World} (hi:ops[i]? =some oi)
  (hs:Region.noSelect ops=true) (hf:Region.free .any ops L i=true) (hr:(Qb .any ops L).contains i=true) (hit:i≠t) (hit2:i≠t2) (hwt':direct ops t i=true) (hwt2':direct ops t2 i=true)
  (hQ:∀c a w,Q (.panic c) (a.put oi.dst v) w→Q (.panic c) a w) (hL:Shutb ops L) (hy:YieldsIf P ops (S false false) oi v a) (hS:S (L.getD t false) (L.getD t2 false) w)
  (h:Shutb ops (L.setIfInBounds i true)→wpAnyL2 P ops Q t t2 S f (L.setIfInBounds i true) (a.put oi.dst v) w):wpAnyL2 P ops Q t t2 S (f+1) L a w:=by
 have hwt:=waits_direct hwt'
 have hwt2:=waits_direct hwt2'
 have hr':i∈Qb .any ops L:=by simpa using hr
 refine late_first2 (Si:=S false false) hi (Region.noSelect_spec hs) hQ hit hit2 (fun L w hL hun hS=> ?_) f L a w (Region.free_spec hi hf) hr' hL hy hS (h (shut_set hL hr'))
 rw[unset_of hL hwt hun,unset_of hL hwt2 hun]at hS
 exact hS
theorem late_mid2 {i:Nat} {oi:Oper} {v:Value} {f:Nat} {L:Array Bool} {a:Act} {w:World} (hi:ops[i]? =some oi)
  (hs:Region.noSelect ops=true) (hf:Region.free .any ops L i=true) (hr:(Qb .any ops L).contains i=true) (hit:i≠t) (hit2:i≠t2) (hwt2':direct ops t2 i=true) (hm:∀w,S false false w→S true false w)
  (hQ:∀c a w,Q (.panic c) (a.put oi.dst v) w→Q (.panic c) a w) (hL:Shutb ops L) (hy:YieldsIf P ops (S true false) oi v a) (hS:S (L.getD t false) (L.getD t2 false) w)
  (h:Shutb ops (L.setIfInBounds i true)→wpAnyL2 P ops Q t t2 S f (L.setIfInBounds i true) (a.put oi.dst v) w):wpAnyL2 P ops Q t t2 S (f+1) L a w:=by
 have hwt2:=waits_direct hwt2'
 have hr':i∈Qb .any ops L:=by simpa using hr
 refine late_first2 (Si:=S true false) hi (Region.noSelect_spec hs) hQ hit hit2 (fun L w hL hun hS=> ?_) f L a w (Region.free_spec hi hf) hr' hL hy hS (h (shut_set hL hr'))
 rw[unset_of hL hwt2 hun]at hS
 cases hb:L.getD t false with
 | false=>rw[hb]at hS;exact hm _ hS
 | true=>rw[hb]at hS;exact hS
theorem late_one2 {L:Array Bool} {a:Act} {w:World} {f i:Nat} (hr:Qb .any ops L=[i]) (hL:Shutb ops L)
  (h:Shutb ops (L.setIfInBounds i true)→wpOp P ops Q i (fun a' w'=>S ((L.setIfInBounds i true).getD t false) ((L.setIfInBounds i true).getD t2 false) w'∧wpAnyL2 P ops Q t t2 S f (L.setIfInBounds i true) a' w') a w):wpAnyL2 P ops Q t t2 S (f+1) L a w:=by
 have hi:i∈Qb .any ops L:=by rw[hr];simp
 refine⟨fun e=> ?_,fun j hj=> ?_⟩
 ·rw[hr]at e;cases e
 ·rw[hr]at hj;simp at hj;subst hj;exact h (shut_set hL hi)
theorem late_done2 {L:Array Bool} {a:Act} {w:World} {f:Nat} (hr:Qb .any ops L=[]) (h:Q .normal a w):wpAnyL2 P ops Q t t2 S f L a w:=by
 cases f with
 | zero=>exact⟨hr,h⟩
 | succ f=>exact⟨fun _=>h,by rw[hr];simp⟩
theorem wp_region_late2 {id:Nat} {a:Act} {w:World} (t t2:Nat) (S:Bool→Bool→World→Prop) (hm:P.follows .mixedOrders=true)
  (h:Shutb ops (Array.replicate ops.size false)→wpAnyL2 P ops Q t t2 S ops.size (Array.replicate ops.size false) a w.drew):(Code.region id ops true).wp P Q a w :=
 wp_region_any hm (any_of_late2 _ _ _ _ (h (shut_new _)))
end
end Go.Proofs.YtgloajbgphcloaaGreat
namespace Go.Proofs.YtgloajbgphcloaaGreat
set_option linter.unusedVariables false
set_option linter.unusedSimpArgs false
open Go.RowKit
open Region renaming ready → Qb
theorem step_append (w:World) {ops:Array Oper} {o:Oper} {a:Act} {K:Act→World→Prop} {Q:Exit→Act→World→Prop} {E:Prop} (hgd:o.guard=none) (s x:Operand) (t e:TypeId)
  (ho:o.op= .call { callee:= .builtin .append,args:=#[s,x],argTypes:=#[t,t] }) (i:TypeInfo) (z:Value) (size bytes:Nat) (ht:Tryz.prog.underlying t=some (.slice e)) (hi:Tryz.prog.info? e=some i) (hz:i.zero=some z) (hsize:i.size=size) (hby:i.bytes=bytes) (hzs:z.cells.size=size) (hsz:0<size)
  (base:Nat) (v:Value) (n m g c:Nat) (L news:List Value) {e2:TypeId} (hs:a.eval s=v) (hx:a.eval x= .slice (some ⟨g,0,none⟩) m c)
  (hv:w.ownsRow base e size v n L) (hg:Blk w g news.toArray e2) (hl:news.length=m*size) (h1:∀u∈news,u.oneCell'=true) (h63:n+m≤1000000) (hbytes:bytes≤1000) (hb:base≤w.heap.size)
  (h:∀v' w',w'.ownsRow base e size v' (n+m) (L++news)→w.grownBy w' v.ownBlock→(v'.ownBlock=v.ownBlock∨v'.ownBlock=some w.heap.size)→K (a.put o.dst v') w') :
  if Region.wanted o (yielded ops a.tmps)=true then Oper.wp Tryz.prog o a w K Q else E:=by
 have hw:Region.wanted o (yielded ops a.tmps)=true:=by simp[Region.wanted,hgd]
 rw[if_pos hw]
 have hnews:∀j u',news[j]? =some u'→w.cell? ((⟨g,0,none⟩:Addr).add j)=some u':=by
  intro j u' hu'
  have hadd:(⟨g,0,none⟩:Addr).add j=⟨g,j,none⟩:=by unfold Addr.add;split<;>simp_all
  rw[hadd,hg.cell]
  simpa using hu'
 have hmb:(n+m)*bytes≤1000000*1000:=Nat.mul_le_mul h63 hbytes
 obtain⟨v',w',hr,h2,h3,_,h5⟩:=run_append_own_at (P:=Tryz.prog) w base t o.type e i z size bytes ht hi hz hsize hby hzs hsz v n L hv ⟨g,0,none⟩ m c news hl hnews h1 (by unfold maxLen;omega) (by omega) hb
 unfold Oper.wp execOp
 simp only[ho,resolve,invoke,builtin,Sem.run_bind,Sem.run_pure,Result.andThen_ok,List.map_toArray,List.map_cons,List.map_nil,hs,hx,hr]
 exact h v' w' h2 h3 h5
theorem late_two {P:Program} {ops:Array Oper} {Q:Exit→Act→World→Prop} {S:Bool→World→Prop} {t:Nat} {L:Array Bool} {a:Act} {w:World} {f i j:Nat} (hr:Qb .any ops L=[i,j]) (hL:Shutb ops L)
  (h:Shutb ops (L.setIfInBounds i true)→wpOp P ops Q i (fun a' w'=>S ((L.setIfInBounds i true).getD t false) w'∧wpAnyL P ops Q t S f (L.setIfInBounds i true) a' w') a w)
  (h2:Shutb ops (L.setIfInBounds j true)→wpOp P ops Q j (fun a' w'=>S ((L.setIfInBounds j true).getD t false) w'∧wpAnyL P ops Q t S f (L.setIfInBounds j true) a' w') a w):wpAnyL P ops Q t S (f+1) L a w:=by
 have hi:i∈Qb .any ops L:=by rw[hr];simp
 have hj:j∈Qb .any ops L:=by rw[hr];simp
 refine⟨fun e=> ?_,fun k hk=> ?_⟩
 ·rw[hr]at e;cases e
 ·rw[hr]at hk
  simp only[List.mem_cons,List.not_mem_nil,or_false]at hk
  rcases hk with rfl|rfl
  ·exact h (shut_set hL hi)
  ·exact h2 (shut_set hL hj)
theorem wpIn_region_lateN {k n:Nat} {P:Program} {ops:Array Oper} {Q:Exit→Act→World→Prop} {id:Nat} {a:Act} {w:World} (t:Nat) (S:Bool→World→Prop) (hd:noDefer ops=true) (hm:P.follows .mixedOrders=true)
  (h:Shutb ops (Array.replicate ops.size false)→wpAnyL P ops (Exit.then (fun a w=>Q .normal a w) (fun _ _ _=>False)) t S ops.size (Array.replicate ops.size false) a w.drew):(Code.region id ops true).wpIn (Fence.wide.inRound k) n P Q a w:=by
 refine wpIn_mono (Q:=Exit.then (fun a w=>Q .normal a w) (fun _ _ _=>False)) (wpIn_region_any hm (any_bridge hd (by rintro⟨_,_,h⟩;exact h) _ _ _ _ (any_of_late _ _ _ _ (h (shut_new _))))) ?_
 intro e a w hq
 cases e<;>first|exact hq|exact hq.elim
theorem apart_ne {va vb:Value} (hd:∀q,va.ownBlock=some q→vb.ownBlock≠some q):vb.ownBlock=none∨vb.ownBlock≠va.ownBlock:=by
 cases hq:vb.ownBlock with
 | none=>exact .inl rfl
 | some j=>exact .inr (fun e=>hd j e.symm hq)
theorem apart_ne2 {va vb:Value} (hd:∀q,va.ownBlock=some q→vb.ownBlock≠some q):va.ownBlock=none∨va.ownBlock≠vb.ownBlock:=by
 cases hq:va.ownBlock with
 | none=>exact .inl rfl
 | some j=>exact .inr (fun e=>hd j hq e.symm)
theorem apart_l {va vb va':Value} {m n1:Nat} (hd:∀q,va.ownBlock=some q→vb.ownBlock≠some q) (hlb:∀q,vb.ownBlock=some q→q<m) (h1:va'.ownBlock=va.ownBlock∨va'.ownBlock=some n1) (hn1:m≤n1):∀q,va'.ownBlock=some q→vb.ownBlock≠some q:=by
 intro q hq e
 rcases h1 with h1|h1
 ·exact hd q (h1▸hq) e
 ·rw[h1]at hq
  have:=hlb q e
  simp only[Option.some.injEq]at hq
  omega
theorem apart_r {va vb vb':Value} {m n1:Nat} (hd:∀q,va.ownBlock=some q→vb.ownBlock≠some q) (hla:∀q,va.ownBlock=some q→q<m) (h1:vb'.ownBlock=vb.ownBlock∨vb'.ownBlock=some n1) (hn1:m≤n1):∀q,va.ownBlock=some q→vb'.ownBlock≠some q:=by
 intro q hq e
 rcases h1 with h1|h1
 ·exact hd q hq (h1▸e)
 ·rw[h1]at e
  have:=hla q hq
  simp only[Option.some.injEq]at e
  omega
end Go.Proofs.YtgloajbgphcloaaGreat
namespace Go.Proofs.YtgloajbgphcloaaGreat
set_option linter.unusedVariables false
set_option linter.unusedSimpArgs false
open Go.RowKit
open Lib renaming hid → Qc
set_option maxRecDepth 100000 in
set_option maxHeartbeats 4000000 in
theorem indexInts (fid:Nat) (caps:Array Value) (p:Int→Bool) (v:Value) (xs:List (Int)) (w:World) (hv:Ints w v xs) (hn:xs.length≤1000000)
  (eg:∀args w,(callFunc fid args).run Tryz.prog w= .ok (.enter fid args) w)
  (hf:∀x w',Ext w w'→Calls Tryz.prog fid (#[.int .i64 x]++caps) w' fun e w''=>e= .returned (.bool (p x))∧Ext w' w'') :
  Calls Tryz.prog 203 #[v,.func (.func fid) #[] caps] w fun e w'=>∃k:Int,e= .returned (.int .i64 k)∧decide (0≤k)=xs.any p∧Ext w w':=by
 obtain⟨a,cap,rfl,hx⟩:=hv
 have HX:=Qc hx
 have HF:=Qc hf
 have HEG:=Qc eg
 clear hx hf eg
 go_enter Tryz.func203,Tryz.ntmps203
 go_wp2
 go_loopw [5,8] (fun _ i wr=>∃k:Nat,k≤xs.length∧i= .int .i64 k∧(xs.take k).any p=false∧Ext w wr) (fun _ i _=>xs.length - (intOf i).toNat)
 case atStart=>exact⟨0,Nat.zero_le _,rfl,rfl,Ext.refl _⟩
 case round =>
  rename World=>wr
  obtain⟨k,hk,rfl,hgood,hE⟩:=hrel
  have HG:=Qc hgood
  clear hgood
  by_cases hlt:k<xs.length
  ·obtain⟨b,off,rfl,hb,h0⟩:=HX.out k hlt
   have h0':=(hE.cells.1 _ _ hb).trans h0
   have hbl:=Nat.lt_of_lt_of_le hb hE.size
   have hs:(xs.take (k+1)).any p=p xs[k]:=by rw[List.take_succ_eq_append_getElem hlt,List.any_append,HG.out];simp
   have hm:xs[k]∈xs:=List.getElem_mem hlt
   have hba:=HF.out xs[k] wr hE
   obtain⟨x,hxx⟩:∃x,xs[k]=x:=⟨_,rfl⟩
   rw[hxx]at hs hm hba h0'
   obtain⟨B,hB⟩:∃B,p x=B:=⟨_,rfl⟩
   rw[hB]at hs hba
   have HBA:=Qc hba
   have HS:=Qc hs
   have HM:=Qc hm
   have HBB:=Qc hB
   clear h0 hxx hba hs hm hB
   have heg:=HEG.out
   cases B with
   | true =>
    go_wp2
    refine HBA.out.mono ?_
    rintro e w' ⟨rfl,hE'⟩
    go_wp2
    go_ret
    have ha:xs.any p=true:=by rw[List.any_eq_true];exact⟨x,HM.out,HBB.out⟩
    exact⟨_,rfl,by rw[ha];simp,hE.trans hE'⟩
   | false =>
    go_wp2
    refine HBA.out.mono ?_
    rintro e w' ⟨rfl,hE'⟩
    go_wp2
    go_roundw
    case rel=>exact⟨k+1,by omega,by go_num,HS.out,hE.trans hE'⟩
    case measure=>simp[intOf];omega
  ·obtain rfl:k=xs.length:=by omega
   go_wp2
   go_ret
   have h:=HG.out
   rw[List.take_length]at h
   exact⟨_,rfl,by rw[h];decide,hE⟩
theorem containsInts (fid:Nat) (caps:Array Value) (p:Int→Bool) (v:Value) (xs:List (Int)) (w:World) (hv:Ints w v xs) (hn:xs.length≤1000000)
  (eg:∀args w,(callFunc fid args).run Tryz.prog w= .ok (.enter fid args) w)
  (hf:∀x w',Ext w w'→Calls Tryz.prog fid (#[.int .i64 x]++caps) w' fun e w''=>e= .returned (.bool (p x))∧Ext w' w'') :
  Calls Tryz.prog 137 #[v,.func (.func fid) #[] caps] w fun e w'=>e= .returned (.bool (xs.any p))∧Ext w w':=by
 have hv':=hv
 obtain⟨a,cap,rfl,_⟩:=hv'
 have HB:=Qc (indexInts fid caps p _ xs w hv hn eg hf)
 clear eg hf
 go_enter Tryz.func137,Tryz.ntmps137
 go_wp2_with (first|(go_at_call 203;refine HB.out.mono ?_;rintro e w' ⟨k,rfl,hk,hE'⟩))
 all_goals(go_ret;exact⟨rfl,hE'⟩)
end Go.Proofs.YtgloajbgphcloaaGreat
