/- A range over a function that has blocks of its own, its first arguments bound; the trips that are not shut, one after another. -/
import Derived.Test.YtgloajbgphcloaaGreatQt
import Derived.Test.YtgloajbgphcloaaGreatRg
namespace Go.Proofs.YtgloajbgphcloaaGreat
set_option linter.unusedVariables false
set_option linter.unusedSimpArgs false
open Go.RowKit
open Nat renaming le_refl → Qa
def KeepC (B:Nat) (W W':World):Prop:=∀d o,B≤d→W.heap[d]? =some o→o.isCells=true→W'.heap[d]? =some o
theorem KeepC.refl (B:Nat) (W:World):KeepC B W W:=fun _ _ _ h _=>h
theorem KeepC.trans {B:Nat} {x y z:World} (h:KeepC B x y) (k:KeepC B y z):KeepC B x z:=fun d o hd ho hc=>k d o hd (h d o hd ho hc) hc
theorem Ext.keepC {w w':World} (h:Ext w w') (B:Nat):KeepC B w w':=fun d _ _ ho _=>(h.block d (Array.getElem?_eq_some_iff.1 ho).1).trans ho
theorem Mod.keepC {S:Nat→Prop} {w w':World} {B:Nat} (h:Mod S w w') (hS:∀k,k<w.heap.size→S k→k<B):KeepC B w w':=fun d _ hd ho _=>(h.block d (Array.getElem?_eq_some_iff.1 ho).1 (fun hs=>by have:=hS d (Array.getElem?_eq_some_iff.1 ho).1 hs;omega)).trans ho
theorem KeepC.mono {B B':Nat} {x y:World} (h:KeepC B x y) (hB:B≤B'):KeepC B' x y:=fun d o hd ho hc=>h d o (Nat.le_trans hB hd) ho hc
theorem KeepC.set {B:Nat} {w:World} {a:Addr} (h:a.block<B) (v:Value):KeepC B w (w.setCell a v):=((Mod.refl (fun k=>k=a.block) w).set (a:=a) (.inl rfl) v).keepC (fun k _ e=>by rw[e];exact h)
theorem KeepC.grown {B:Nat} {A X Y:World} {row:Option Nat} (h:KeepC B A X) (hg:X.grownBy Y row) (hr:∀r,row=some r→∃o:Obj,X.heap[r]? =some o∧o.isCells=false):KeepC B A Y:=fun d o hd hA hc =>
 (hg.block d (Array.getElem?_eq_some_iff.1 (h d o hd hA hc)).1 (fun e=>by obtain⟨o',h1,h2⟩:=hr d e.symm;rw[h d o hd hA hc]at h1;cases h1;rw[hc]at h2;cases h2)).trans (h d o hd hA hc)
theorem Blk.keepC {B c:Nat} {w w':World} {cs:Array Value} {e:TypeId} (h:Blk w c cs e) (hk:KeepC B w w') (hc:B≤c):Blk w' c cs e:=hk c _ hc h rfl
section
variable {F:Fence} {n:Nat} {P:Program}
def SeqArgC (F:Fence) (n:Nat) (P:Program) (gf:Nat) (fi lb:Array Value) (Inv:World→Prop) (At:Nat→Array Value→World→Prop) (N:Nat) (w:World):Prop :=
 ∀(l:Nat) (J:Nat→World→Prop) (Jx:World→Prop) (W:World),Ext w W→(∀ k W,J k W→Inv W)→(∀ k A B,J k A→Ext A B→J k B) →
  (∀ k e W1,k<N→J k W1→At k e W1→YieldAt F (n - 1) P l e W1 fun e' W'=>(e'= .returned (.bool true)∧J (k+1) W'∧KeepC w.heap.size W1 W')∨(e'= .returned (.bool false)∧Jx W')) →
  J 0 W →
  CallsIn F n P gf (fi++#[.func (.yield l) #[] #[]]++lb) W fun e W'=>(∃ v,e= .returned v)∧(J N W'∨Jx W')
def argPostC (B k:Nat) (I:Nat→World→Prop) (Ix:Code→World→Prop) (W:World):Exit→Act→World→Prop
 | .normal,_,W'=>KeepsFrom B W W'∧KeepC B W W'∧I (k+1) W'
 | .ret,_,W'=>KeepsFrom B W W'∧Ix .ret W'
 | .exit id,_,W'=>KeepsFrom B W W'∧Ix (.exit id) W'
 | .goto t,_,W'=>KeepsFrom B W W'∧Ix (.goto t) W'
 | .panic _,_,_=>False
 | .outgrown,_,_=>False
theorem wpIn_range_argC {g:Operand} {ps:Array Tmp} {assign body:Code} {Q:Exit→Act→World→Prop} {a:Act} {w:World}
  (hro:F.round=none) (h1:1≤n) {gf:Nat} {fi lb:Array Value} (hg:a.eval g= .func (.func gf) fi lb) (hFg:F.fn gf) (eg:∀args w,(callFunc gf args).run P w= .ok (.enter gf args) w)
  {Inv:World→Prop} {At:Nat→Array Value→World→Prop} {N:Nat} (hseq:SeqArgC F (n - 1) P gf fi lb Inv At N w) (hps:∀k e W,At k e W→e.size=ps.size) (hAt:∀k e,OwnFrom w.heap.size (fun(_:Unit) W=>At k e W))
  (I:Nat→World→Prop) (Ix:Code→World→Prop) (hI:OwnFrom w.heap.size I) (hIx:OwnFrom w.heap.size Ix) (hIE:∀k A B,I k A→Ext A B→I k B) (hInv:∀k W,I k W→Inv W) (h0:I 0 w)
  (Ax:Nat→Array Value→Act→World→Prop) (hAx:∀k e,OwnFrom w.heap.size (Ax k e))
  (hassign:∀(l k:Nat) (e:Array Value) (W:World) (K:Act→World→Prop),k<N→I k W→At k e W→(∀ a' W',KeepsFrom w.heap.size W W'→KeepC w.heap.size W W'→I k W'→At k e W'→Ax k e a' W'→K a' W') →
   assign.wpIn (F.inRound l) (n - 1 - 1) P (Exit.then K (fun _ _ _=>False)) { tmps:=(ps.zip e).foldl (fun t (p,v)=>t.setIfInBounds p v) a.tmps,defers:=[] } W)
  (hbody:∀(l k:Nat) (e:Array Value) (a':Act) (W:World),w.heap.size≤l→(∃ r,W.heap[l]? =some (.loop r))→k<N→I k W→At k e W→Ax k e a' W→body.wpIn (F.inRound l) (n - 1 - 1) P (argPostC w.heap.size k I Ix W) a' W)
  (hdone:∀(D:Nat) (W:World),w.heap.size≤D→I N W→W.heap[D]? =some (.deferred (some []))→Q .normal (marked a D) W)
  (hstop:∀(D:Nat) (c:Code) (W:World),w.heap.size≤D→Ix c W→W.heap[D]? =some (.deferred (some []))→c.wpIn F n P Q (marked a D) W) :
  (Code.rangeFunc g ps assign body).wpIn F n P Q a w:=by
 refine wpIn_rangeFunc ?_
 intro fn hfn
 rw[hro]
 obtain⟨rec,hrec⟩:∃rec:LoopState→Option Code→Loop,rec=fun st pe=> { state:=st,pending:=pe,fn,tmps:=a.tmps,params:=ps,assign,body,defers:=w.heap.size } :=⟨_,rfl⟩
 obtain⟨W1,hW1⟩:∃W1,(w.alloc (.deferred (some []))).alloc (.loop (rec .ready none))=W1:=⟨_,rfl⟩
 have hL1:W1.heap[w.heap.size+1]? =some (.loop (rec .ready none)):=by
  rw[← hW1];have:=World.alloc_heap_new (w.alloc (.deferred (some []))) (.loop (rec .ready none));rwa[World.size_alloc]at this
 have hK1:W1.heap[w.heap.size]? =some (.deferred (some [])):=by
  rw[← hW1];exact(Below.heap_alloc _ _ _ (by simp)).trans (World.alloc_heap_new w _)
 have hI1:I 0 W1:=by rw[← hW1];exact hI.alloc _ (hI.alloc _ h0)
 have hE1:Ext w W1:=by rw[← hW1];exact((Ext.refl w).alloc _).alloc _
 refine⟨w.heap.size+1,[{ target:= .collected w.heap.size,args:=#[] }],W1,{ target:= .fn (.func gf) lb,args:=fi++#[.func (.yield (w.heap.size+1)) #[] #[]] },W1,gf,
  fi++#[.func (.yield (w.heap.size+1)) #[] #[]]++lb,W1,?_,?_,?_,?_,fun _=>h1,?_⟩
 ·rw[← hW1,hrec];exact run_enterLoop_outer _ _ _ _ _
 ·simp only[resolve,hg]
  simp[go_sem]
 ·intro f' hf';simp[Target.leads]at hf';subst hf';exact hFg
 ·simp[invoke,go_sem,eg]
 ·refine(hseq (w.heap.size+1)
   (fun k W=>I k W∧W.heap[w.heap.size+1]? =some (.loop (rec .ready none))∧W.heap[w.heap.size]? =some (.deferred (some [])))
   (fun W=>∃c,Ix c W∧W.heap[w.heap.size+1]? =some (.loop (rec .done (some c)))∧W.heap[w.heap.size]? =some (.deferred (some [])))
   W1 hE1 (fun k W h=>hInv k W h.1)
   (fun k A B hs hE=>⟨hIE k A B hs.1 hE,(hE.block _ (Array.getElem?_eq_some_iff.1 hs.2.1).1).trans hs.2.1,(hE.block _ (Array.getElem?_eq_some_iff.1 hs.2.2).1).trans hs.2.2⟩) ?_ ⟨hI1,hL1,hK1⟩).mono ?_
  ·rintro k e W hk ⟨hi,hl,hd⟩ hat
   have hOI:OwnFrom w.heap.size (fun(j:Nat) X=>(j=k∧I k X∧At k e X∧KeepC w.heap.size W X)∨(j=k+1∧I (k+1) X∧KeepC w.heap.size W X)):=by
    rintro j A B row (⟨rfl,h2,h3,h4⟩|⟨rfl,h2,h4⟩) hg hr
    ·exact .inl ⟨rfl,hI _ _ _ _ h2 hg hr,hAt _ _ () _ _ _ h3 hg hr,h4.grown hg (fun r e=>(hr r e).2)⟩
    ·exact .inr ⟨rfl,hI _ _ _ _ h2 hg hr,h4.grown hg (fun r e=>(hr r e).2)⟩
   have hr:=own_round (F:=F) (n:=n - 1 - 1) (P:=P) (B:=w.heap.size) hfn (by omega:w.heap.size≤w.heap.size+1) (fun j X=>(j=k∧I k X∧At k e X∧KeepC w.heap.size W X)∨(j=k+1∧I (k+1) X∧KeepC w.heap.size W X)) (fun _ _=>True) Ix (fun _ _=>False) hOI (fun _ _ _ _ _ _ _=>trivial) hIx (.inr fun _ _ h=>h) (Ax k e) (hAx k e) k W e (hps k e W hat) (.inl ⟨rfl,hi,hat,KeepC.refl _ _⟩) trivial (by rw[hrec]at hl;exact hl)
    (fun K hK=>hassign _ k e W K hk hi hat fun a' W' h1 hc h2 h3 h4=>hK a' W' h1 (.inl ⟨rfl,h2,h3,hc⟩) trivial h4)
    (fun a' W' hrc hi' _ hx'=>by
     rcases hi' with⟨_,h2,h3,hkc⟩|⟨h2,_⟩
     ·refine wpIn_mono (hbody _ k e a' W' (by omega) hrc hk h2 h3 hx') ?_
      rintro ex a2 W2 hp
      cases ex with
      | normal=>exact⟨hp.1,trivial,.inr ⟨rfl,hp.2.2,hkc.trans hp.2.1⟩⟩
      | ret=>exact hp
      | exit id=>exact hp
      | goto t=>exact hp
      | panic ch=>exact hp.elim
      | outgrown=>exact hp.elim
     ·omega)
   obtain⟨f0,t0,as0,b0,hy,hR⟩:=hr
   refine⟨f0,t0,as0,b0,hy,hR.mono ?_⟩
   rintro e' W' (⟨rfl,h1,h2,h3,h4⟩|⟨rfl,c,h1,h2,h3⟩|⟨ch,rfl,h1,_⟩)
   ·rcases h1 with⟨h2,_⟩|⟨_,h2,hkc⟩
    ·omega
    ·exact .inl ⟨rfl,⟨h2,by rw[hrec];exact h3,h4 _ _ (Qa _) (by omega) hd rfl⟩,hkc⟩
   ·exact .inr ⟨rfl,c,h1,by rw[hrec];exact h2,h3 _ _ (Qa _) (by omega) hd rfl⟩
   ·exact h1.elim
  ·rintro e W2 ⟨⟨v,rfl⟩,(⟨hi,hl,hk⟩|⟨c,hi,hl,hk⟩)⟩
   ·exact⟨none,_,by have:=run_endLoop (P:=P) hl (by rw[hrec];simp);rw[hrec]at this;exact this,hdone _ _ (Qa _) (hI.putObj _ hi (by omega) hl rfl) ((World.putObj_heap_other (by omega)).trans hk)⟩
   ·exact⟨some c,_,by have:=run_endLoop (P:=P) hl (by rw[hrec];simp);rw[hrec]at this;exact this,hstop _ c _ (Qa _) (hIx.putObj _ hi (by omega) hl rfl) ((World.putObj_heap_other (by omega)).trans hk)⟩
end
end Go.Proofs.YtgloajbgphcloaaGreat
namespace Go.Proofs.YtgloajbgphcloaaGreat.Bn
set_option linter.unusedVariables false
set_option linter.unusedSimpArgs false
open Go.RowKit Go.Shelf
open Ext renaming trans → Qc
open Lib renaming hid → Qb
attribute [local go_sem] Oper.semAt_some
abbrev lookV (n wait:Int) (vi vt:Value):Array Value:=#[.int .i64 n,vi,.slice none 0 0,vt,.int .i64 wait,.int .i64 0]
set_option maxRecDepth 100000 in
set_option maxHeartbeats 8000000 in
theorem open_arg (m wait:Int) (vi vt:Value) (ts:List Trip) (hl:ts.length≤60) (w1:World) (n:Nat) (hn1:1≤n) :
  SeqArgC Fence.wide n Tryz.prog 162 #[.agg (lookV m wait vi vt)] #[] (fun W=>Trips W vt ts) (fun k e _=>∃t,ts[k]? =some t∧e=#[.int .i64 (k:Int),.agg (tripV t)]) ts.length w1:=by
 intro l0 J Jx W hW hInv hJ hY h0
 have hL0:=hInv 0 W h0
 obtain⟨al,cl,hvl,_⟩:=hL0
 subst hvl
 have HY:=Qb hY
 have HINV:=Qb hInv
 have HJ:=Qb hJ
 have hsz:=hW.size
 clear hY hInv hJ
 refine callsIn_of_wp Tryz.func162 rfl trivial ?_ rfl
 simp only[Tryz.ntmps162,List.size_toArray,List.length_cons,List.length_nil,Nat.reduceAdd,Nat.reduceSub,Array.replicate_succ,Array.replicate_zero,List.push_toArray,List.append_toArray,List.nil_append,List.cons_append]
 gi_wp2
 obtain⟨n0,hn0⟩:∃n,W.heap.size=n:=⟨_,rfl⟩
 obtain⟨W1,hW1⟩:∃y,W.alloc (.cells (lookV m wait vi (.slice al ts.length cl)) 204)=y:=⟨_,rfl⟩
 have hV:Blk W1 n0 (lookV m wait vi (.slice al ts.length cl)) 204:=by rw[← hW1];exact Blk.new' hn0.symm _ _
 have hE1:Ext W W1:=by rw[← hW1];(with_reducible(repeat(first|exact Ext.refl _|assumption|apply Ext.alloc|apply Ext.drew|exact ext_plus _ _|(apply Ext.setCell;rotate_left;(simp<;>omega))|(apply Qc;rotate_left;exact ext_plus _ _)|(apply Qc;rotate_left;assumption))))
 have hJ1:J 0 W1:=HJ.out _ _ _ h0 hE1
 have hB0:w1.heap.size≤n0:=by omega
 simp only[hW1,hn0]
 clear hW1 hn0 h0
 gi_loopw [4,5,10] (fun _ _ i' wr=>∃k:Nat,k≤ts.length∧i'= .int .i64 k∧J k wr∧Blk wr n0 (lookV m wait vi (.slice al ts.length cl)) 204) (fun _ _ i' _=>ts.length - (intOf i').toNat)
 case atStart=>exact⟨0,Nat.zero_le _,rfl,hJ1,hV⟩
 case round =>
  rename World=>wr
  obtain⟨k,hk,rfl,hJk,hVr⟩:=hrel
  have hT:=HINV.out _ _ hJk
  have k0:=hVr.cell
  have k1:=hVr.lt
  by_cases hlt:k<ts.length
  ·obtain⟨al',cl',hv,hx⟩:=hT
   cases hv
   obtain⟨bb,off,rfl,hbb,hAt⟩:=hx k hlt
   obtain⟨q0,q1,q2,q3⟩:=trip_cells hAt
   have hget:ts[k]? =some ts[k]:=List.getElem?_eq_getElem hlt
   obtain⟨x,hxx⟩:∃x,ts[k]=x:=⟨_,rfl⟩
   rw[hxx]at q0 q1 q2 q3 hget
   have hh':bits .and .i64 0 1=0:=by decide
   have HGET:=Qb hget
   clear hx hAt hxx hget
   have hEt:Ext wr (wr.alloc (.cells (tripV x) 84)):=by(with_reducible(repeat(first|exact Ext.refl _|assumption|apply Ext.alloc|apply Ext.drew|exact ext_plus _ _|(apply Ext.setCell;rotate_left;(simp<;>omega))|(apply Qc;rotate_left;exact ext_plus _ _)|(apply Qc;rotate_left;assumption))))
   obtain⟨fn,tmps,assign,body,hy,hR⟩:=HY.out k #[.int .i64 (k:Int),.agg (tripV x)] (wr.alloc (.cells (tripV x) 84)) hlt (HJ.out _ _ _ hJk hEt) ⟨x,HGET.out,rfl⟩
   have hV2:=hVr.ext hEt
   gi_wp2
   refine hR.mono ?_
   rintro e W3 (⟨rfl,hJ3,hK3⟩|⟨rfl,hJx3⟩)
   ·gi_wp2
    go_roundw
    case rel=>exact⟨k+1,by omega,by go_num,hJ3,hV2.keepC hK3 hB0⟩
    case measure=>simp[intOf];omega
   ·gi_wp2
    refine bodyPost_ret (results_none rfl _ _ _) rfl ?_
    exact⟨⟨_,rfl⟩,.inr hJx3⟩
  ·obtain rfl:k=ts.length:=by omega
   gi_wp2
   go_end0
   exact⟨⟨_,rfl⟩,.inl hJk⟩
end Go.Proofs.YtgloajbgphcloaaGreat.Bn
