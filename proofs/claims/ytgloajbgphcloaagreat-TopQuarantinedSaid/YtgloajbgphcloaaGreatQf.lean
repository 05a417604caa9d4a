/- A range over a function that is left in its first round; the calls in which a ship surely can go through. -/
import Derived.Test.YtgloajbgphcloaaGreatQd
import Derived.Test.YtgloajbgphcloaaGreatRg
import Derived.Deep.RegionHeld3
import Derived.Deep.CutRange
import Derived.WalkMore
namespace Go.Proofs.YtgloajbgphcloaaGreat
set_option linter.unusedVariables false
set_option linter.unusedSimpArgs false
open Go.RowKit
open Nat renaming le_refl → Qa
section
variable {F:Fence} {n:Nat} {P:Program}
def SeqFst (F:Fence) (n:Nat) (P:Program) (gf:Nat) (lb:Array Value) (At:Array Value→Prop) (w:World):Prop :=
 ∀(l:Nat) (Jx:World→Prop) (W:World),Ext w W →
  (∀ e W1,Ext W W1→At e→YieldAt F (n - 1) P l e W1 fun e' W'=>e'= .returned (.bool false)∧Jx W') →
  CallsIn F n P gf (#[.func (.yield l) #[] #[]]++lb) W fun e W'=>(∃ v,e= .returned v)∧(Ext W W'∨Jx W')
def fstPost (B:Nat) (Ix:Code→World→Prop) (W:World):Exit→Act→World→Prop
 | .normal,_,_=>False
 | .ret,_,W'=>KeepsFrom B W W'∧Ix .ret W'
 | .exit id,_,W'=>KeepsFrom B W W'∧Ix (.exit id) W'
 | .goto t,_,W'=>KeepsFrom B W W'∧Ix (.goto t) W'
 | .panic _,_,_=>False
 | .outgrown,_,_=>False
theorem wpIn_range_fst {g:Operand} {ps:Array Tmp} {assign body:Code} {Q:Exit→Act→World→Prop} {a:Act} {w:World}
  (hro:F.round=none) (h1:1≤n) {gf:Nat} {lb:Array Value} (hg:a.eval g= .func (.func gf) #[] lb) (hFg:F.fn gf) (eg:∀args w,(callFunc gf args).run P w= .ok (.enter gf args) w)
  {At:Array Value→Prop} (hseq:SeqFst F (n - 1) P gf lb At w) (hps:∀e,At e→e.size=ps.size)
  (Ix:Code→World→Prop) (hIx:OwnFrom w.heap.size Ix) (Ax:Array Value→Act→World→Prop) (hAx:∀e,OwnFrom w.heap.size (Ax e))
  (hassign:∀(l:Nat) (e:Array Value) (W:World) (K:Act→World→Prop),Ext w W→At e→(∀ a' W',KeepsFrom w.heap.size W W'→Ext w W'→Ax e a' W'→K a' W') →
   assign.wpIn (F.inRound l) (n - 1 - 1) P (Exit.then K (fun _ _ _=>False)) { tmps:=(ps.zip e).foldl (fun t (p,v)=>t.setIfInBounds p v) a.tmps,defers:=[] } W)
  (hbody:∀(l:Nat) (e:Array Value) (a':Act) (W:World),w.heap.size≤l→(∃ r,W.heap[l]? =some (.loop r))→Ext w W→At e→Ax e a' W→body.wpIn (F.inRound l) (n - 1 - 1) P (fstPost w.heap.size Ix W) a' W)
  (hdone:∀(D:Nat) (W:World),w.heap.size≤D→Ext w W→W.heap[D]? =some (.deferred (some []))→Q .normal (marked a D) W)
  (hstop:∀(D:Nat) (c:Code) (W:World),w.heap.size≤D→Ix c W→W.heap[D]? =some (.deferred (some []))→c.wpIn F n P Q (marked a D) W) :
  (Code.rangeFunc g ps assign body).wpIn F n P Q a w:=by
 refine wpIn_rangeFunc ?_
 intro fn hfn
 rw[hro]
 obtain⟨rec,hrec⟩:∃rec:LoopState→Option Code→Loop,rec=fun st pe=> { state:=st,pending:=pe,fn,tmps:=a.tmps,params:=ps,assign,body,defers:=w.heap.size } :=⟨_,rfl⟩
 obtain⟨W1,hW1⟩:∃W1,(w.alloc (.deferred (some []))).alloc (.loop (rec .ready none))=W1:=⟨_,rfl⟩
 have hL1:W1.heap[w.heap.size+1]? =some (.loop (rec .ready none)):=by
  rw[← hW1];have:=World.alloc_heap_new (w.alloc (.deferred (some []))) (.loop (rec .ready none));rwa[World.size_alloc]at this
 have hK1:W1.heap[w.heap.size]? =some (.deferred (some [])):=by
  rw[← hW1];exact(Below.heap_alloc _ _ _ (by simp)).trans (World.alloc_heap_new w _)
 have hE1:Ext w W1:=by rw[← hW1];exact((Ext.refl w).alloc _).alloc _
 have hIE:OwnFrom w.heap.size (fun(_:Unit) Y=>Ext w Y):=ownFrom_below (Qa _) (Qa _)
 refine⟨w.heap.size+1,[{ target:= .collected w.heap.size,args:=#[] }],W1,{ target:= .fn (.func gf) lb,args:=#[.func (.yield (w.heap.size+1)) #[] #[]] },W1,gf,
  #[.func (.yield (w.heap.size+1)) #[] #[]]++lb,W1,?_,?_,?_,?_,fun _=>h1,?_⟩
 ·rw[← hW1,hrec];exact run_enterLoop_outer _ _ _ _ _
 ·simp only[resolve,hg]
  simp[go_sem]
 ·intro f' hf';simp[Target.leads]at hf';subst hf';exact hFg
 ·simp[invoke,go_sem,eg]
 ·refine(hseq (w.heap.size+1)
   (fun W=>∃c,Ix c W∧W.heap[w.heap.size+1]? =some (.loop (rec .done (some c)))∧W.heap[w.heap.size]? =some (.deferred (some [])))
   W1 hE1 ?_).mono ?_
  ·intro e W hEW hat
   have hl:W.heap[w.heap.size+1]? =some (.loop (rec .ready none)):=(hEW.block _ (Array.getElem?_eq_some_iff.1 hL1).1).trans hL1
   have hd:W.heap[w.heap.size]? =some (.deferred (some [])):=(hEW.block _ (Array.getElem?_eq_some_iff.1 hK1).1).trans hK1
   have hi:Ext w W:=hE1.trans hEW
   have hOI:OwnFrom w.heap.size (fun(j:Nat) X=>j=0∧Ext w X):=by
    rintro j A B row ⟨rfl,h2⟩ hg hr
    exact⟨rfl,hIE () _ _ _ h2 hg hr⟩
   have hr:=own_round (F:=F) (n:=n - 1 - 1) (P:=P) (B:=w.heap.size) hfn (by omega:w.heap.size≤w.heap.size+1) (fun j X=>j=0∧Ext w X) (fun _ _=>True) Ix (fun _ _=>False) hOI (fun _ _ _ _ _ _ _=>trivial) hIx (.inr fun _ _ h=>h) (Ax e) (hAx e) 0 W e (hps e hat) ⟨rfl,hi⟩ trivial (by rw[hrec]at hl;exact hl)
    (fun K hK=>hassign _ e W K hi hat fun a' W' h1 h2 h4=>hK a' W' h1 ⟨rfl,h2⟩ trivial h4)
    (fun a' W' hrc hi' _ hx'=>by
     refine wpIn_mono (hbody _ e a' W' (by omega) hrc hi'.2 hat hx') ?_
     rintro ex a2 W2 hp
     cases ex with
     | normal=>exact hp.elim
     | ret=>exact hp
     | exit id=>exact hp
     | goto t=>exact hp
     | panic ch=>exact hp.elim
     | outgrown=>exact hp.elim)
   obtain⟨f0,t0,as0,b0,hy,hR⟩:=hr
   refine⟨f0,t0,as0,b0,hy,hR.mono ?_⟩
   rintro e' W' (⟨rfl,h1,h2,h3,h4⟩|⟨rfl,c,h1,h2,h3⟩|⟨ch,rfl,h1,_⟩)
   ·exact absurd h1.1 (by omega)
   ·exact⟨rfl,c,h1,by rw[hrec];exact h2,h3 _ _ (Qa _) (by omega) hd rfl⟩
   ·exact h1.elim
  ·rintro e W2 ⟨⟨v,rfl⟩,(hEW|⟨c,hi,hl,hk⟩)⟩
   ·have hl:W2.heap[w.heap.size+1]? =some (.loop (rec .ready none)):=(hEW.block _ (Array.getElem?_eq_some_iff.1 hL1).1).trans hL1
    have hk:W2.heap[w.heap.size]? =some (.deferred (some [])):=(hEW.block _ (Array.getElem?_eq_some_iff.1 hK1).1).trans hK1
    exact⟨none,_,by have:=run_endLoop (P:=P) hl (by rw[hrec];simp);rw[hrec]at this;exact this,hdone _ _ (Qa _) (hIE.putObj (s:=()) _ (hE1.trans hEW) (by omega) hl rfl) ((World.putObj_heap_other (by omega)).trans hk)⟩
   ·exact⟨some c,_,by have:=run_endLoop (P:=P) hl (by rw[hrec];simp);rw[hrec]at this;exact this,hstop _ c _ (Qa _) (hIx.putObj _ hi (by omega) hl rfl) ((World.putObj_heap_other (by omega)).trans hk)⟩
end
end Go.Proofs.YtgloajbgphcloaaGreat
namespace Go.Proofs.YtgloajbgphcloaaGreat.Sh
set_option linter.unusedVariables false
set_option linter.unusedSimpArgs false
open Go.RowKit Go.Shelf
open Blk renaming new' → Qb
open Ext renaming trans → Qc
open Lib renaming hid → Qd
attribute [local go_sem] Oper.semAt_some
structure SureAt (p:Pass) (d0:Int) (d:Nat) (h:Int):Prop where
 day:d0≤(d:Int)
 lt:d<p.swell.length
 hour:0≤h∧h≤23
 goes:goesB p d h (swAt p d).2=true
theorem calls_any (p:Pass) (vt vs:Value) (d h:Int) (w:World) :
  Calls Tryz.prog 85 #[.agg (passV p vt vs),.agg #[.int .i64 d,.int .i64 h]] w fun e w'=>e= .returned (.func (.func 157) #[] #[.pointer (some ⟨w.heap.size+1,0,none⟩),.pointer (some ⟨w.heap.size,0,none⟩)])∧Blk w' w.heap.size (passV p vt vs) 33∧Blk w' (w.heap.size+1) #[.int .i64 d,.int .i64 h] 35∧Ext w w':=by
 go_enter Tryz.func85,Tryz.ntmps85
 go_wp2
 go_ret
 exact⟨rfl,(Qb rfl _ _).alloc _,Qb (by simp) _ _,by(with_reducible(repeat(first|exact Ext.refl _|assumption|apply Ext.alloc|apply Ext.drew|exact ext_plus _ _|(apply Ext.setCell;rotate_left;(simp<;>omega))|(apply Qc;rotate_left;exact ext_plus _ _)|(apply Qc;rotate_left;assumption))))⟩
def hoursLeft (N:Nat) (v:Value) (w:World):Nat:=match v with
 | .pointer (some a)=>(match w.cell? ⟨a.block,0,none⟩,w.cell? ⟨a.block,1,none⟩with
  | some (.int _ d),some (.int _ h)=>(N - d.toNat)*24+(24 - h.toNat)
  | _,_=>0)
 | _=>0
theorem hoursLeft_eq {N b d h:Nat} {w:World} (hb:Blk w b #[.int .i64 (d:Int),.int .i64 (h:Int)] 35):hoursLeft N (.pointer (some ⟨b,0,none⟩)) w=(N - d)*24+(24 - h):=by
 have c:=hb.cell
 have c0:w.cell? ⟨b,0,none⟩=some (.int .i64 (d:Int)):=by rw[c];rfl
 have c1:w.cell? ⟨b,1,none⟩=some (.int .i64 (h:Int)):=by rw[c];rfl
 unfold hoursLeft
 simp[c0,c1]
set_option maxRecDepth 100000 in
set_option maxHeartbeats 16000000 in
theorem calls_fst (p:Pass) (vt vs:Value) (d0:Nat) (w1:World) (bp bf n:Nat) (hn1:1≤n) (O:Ok p) (hT:Ints w1 vt p.tides) (hS:Spans w1 vs p.swell) (hp:Blk w1 bp (passV p vt vs) 33) (hf:Blk w1 bf #[.int .i64 (d0:Int),.int .i64 0] 35) :
  SeqFst Fence.wide n Tryz.prog 157 #[.pointer (some ⟨bf,0,none⟩),.pointer (some ⟨bp,0,none⟩)] (fun e=>∃d h,SureAt p d0 d h∧e=#[.agg #[.int .i64 (d:Int),.int .i64 h]]) w1:=by
 intro l0 Jx W hW hY
 have HY:=Qd hY
 have HSU:=Qd (fun W (hE:Ext w1 W) (d:Nat) h hd hh=>sure_any p vt vs d h W O hd hh (hT.ext hE) (hS.ext hE))
 have HBP:=Qd (fun W (hE:Ext w1 W)=>hp.ext hE)
 have hfW:=hf.ext hW
 have hsn:=O.swellN
 obtain⟨ta,ct,rfl,_⟩:=hT
 obtain⟨sa,cs,rfl,_⟩:=hS
 have k0:=hfW.cell
 have k1:=hfW.lt
 clear hY hf hp
 refine callsIn_of_wp Tryz.func157 rfl trivial ?_ rfl
 simp only[Tryz.ntmps157,List.size_toArray,List.length_cons,List.length_nil,Nat.reduceAdd,Nat.reduceSub,Array.replicate_succ,Array.replicate_zero,List.push_toArray,List.append_toArray,List.nil_append,List.cons_append]
 gi_wp2
 obtain⟨n0,hn0⟩:∃n,W.heap.size=n:=⟨_,rfl⟩
 obtain⟨W1,hW1⟩:∃y,W.alloc (.cells #[.int .i64 (d0:Int),.int .i64 0] 35)=y:=⟨_,rfl⟩
 have hC:Blk W1 n0 #[.int .i64 (d0:Int),.int .i64 0] 35:=by rw[← hW1];exact Qb hn0.symm _ _
 have hE1:Ext W W1:=by rw[← hW1];(with_reducible(repeat(first|exact Ext.refl _|assumption|apply Ext.alloc|apply Ext.drew|exact ext_plus _ _|(apply Ext.setCell;rotate_left;(simp<;>omega))|(apply Qc;rotate_left;exact ext_plus _ _)|(apply Qc;rotate_left;assumption))))
 simp only[hW1,hn0]
 have HN0:=Qd hn0
 clear hW1 hn0 k0 k1 hfW
 gi_loopw [4] (fun v wr=>∃(b d h:Nat),v= .pointer (some ⟨b,0,none⟩)∧n0≤b∧d0≤d∧d≤d0+p.swell.length∧h≤23∧Blk wr b #[.int .i64 (d:Int),.int .i64 (h:Int)] 35∧Ext W wr) (fun v wr=>hoursLeft p.swell.length v wr)
 case atStart=>exact⟨n0,d0,0,rfl,Nat.le_refl _,Nat.le_refl _,by omega,by omega,hC,hE1⟩
 case round =>
  rename World=>wr
  obtain⟨b,d,h,rfl,hb,hd,hd2,hh,hC,hE⟩:=hrel
  have hEW:=hW.trans hE
  have hPB:=HBP.out wr hEW
  have k0:=hC.cell
  have k1:=hC.lt
  have k2:=hPB.cell
  have k3:=hPB.lt
  by_cases hlt:d<p.swell.length
  ·have hsr:=HSU.out wr hEW d (h:Int) hlt (by omega)
   obtain⟨B,hB⟩:∃B,goesB p d h (swAt p d).2=B:=⟨_,rfl⟩
   rw[hB]at hsr
   have HSR:=Qd hsr
   clear hsr
   cases B with
   | false =>
    clear hB
    by_cases hh3:h=23
    ·subst hh3
     gi_wp2_with (first|(refine⟨trivial,?_⟩;gi_at_call 66;refine(callsIn_wide.2 HSR.out).mono ?_;rintro e wz ⟨rfl,hEz⟩;have hCz:=hC.ext hEz;(clear k0 k1);have k0:=hCz.cell;have k1:=hCz.lt;have k6:=hCz.free))
     refine⟨fun _ h=>(by cases h),?_⟩
     gi_wp2
     obtain⟨wF,hwF⟩:∃y,(((wz.setCell ⟨b,1,none⟩ (.int .i64 24)).setCell ⟨b,0,none⟩ (.int .i64 ((d:Int)+1))).setCell ⟨b,1,none⟩ (.int .i64 0)).alloc (.cells #[.int .i64 ((d:Int)+1),.int .i64 0] 35)=y:=⟨_,rfl⟩
     have hN:Blk wF wz.heap.size #[.int .i64 ((d+1:Nat):Int),.int .i64 ((0:Nat):Int)] 35:=by rw[← hwF];exact Qb (by simp) _ _
     have hEF:Ext W wF:=by rw[← hwF];exact((((hE.trans hEz).setCell (p:=⟨b,1,none⟩) (by have:=HN0.out;show _≤b;omega) _).setCell (p:=⟨b,0,none⟩) (by have:=HN0.out;show _≤b;omega) _).setCell (p:=⟨b,1,none⟩) (by have:=HN0.out;show _≤b;omega) _).alloc _
     have hzb:n0≤wz.heap.size:=by have:=hC.lt;have:=hEz.size;omega
     rw[hwF]
     clear hwF
     go_roundw
     case rel=>exact⟨wz.heap.size,d+1,0,rfl,hzb,by omega,by omega,by omega,hN,hEF⟩
     case measure =>
      show hoursLeft _ (.pointer (some ⟨wz.heap.size,0,none⟩)) _<hoursLeft _ (.pointer (some ⟨b,0,none⟩)) wr
      rw[hoursLeft_eq hN,hoursLeft_eq hC]
      omega
    ·have hne:¬(h:Int)+1=24:=by omega
     gi_wp2_with (first|(refine⟨trivial,?_⟩;gi_at_call 66;refine(callsIn_wide.2 HSR.out).mono ?_;rintro e wz ⟨rfl,hEz⟩;have hCz:=hC.ext hEz;(clear k0 k1);have k0:=hCz.cell;have k1:=hCz.lt;have k6:=hCz.free))
     refine⟨fun _ h=>(by cases h),?_⟩
     gi_wp2
     obtain⟨wF,hwF⟩:∃y,(wz.setCell ⟨b,1,none⟩ (.int .i64 ((h:Int)+1))).alloc (.cells #[.int .i64 (d:Int),.int .i64 ((h:Int)+1)] 35)=y:=⟨_,rfl⟩
     have hN:Blk wF wz.heap.size #[.int .i64 ((d:Nat):Int),.int .i64 ((h+1:Nat):Int)] 35:=by rw[← hwF];exact Qb (by simp) _ _
     have hEF:Ext W wF:=by rw[← hwF];exact((hE.trans hEz).setCell (p:=⟨b,1,none⟩) (by have:=HN0.out;show _≤b;omega) _).alloc _
     have hzb:n0≤wz.heap.size:=by have:=hC.lt;have:=hEz.size;omega
     rw[hwF]
     clear hwF
     go_roundw
     case rel=>exact⟨wz.heap.size,d,h+1,rfl,hzb,by omega,by omega,by omega,hN,hEF⟩
     case measure =>
      show hoursLeft _ (.pointer (some ⟨wz.heap.size,0,none⟩)) _<hoursLeft _ (.pointer (some ⟨b,0,none⟩)) wr
      rw[hoursLeft_eq hN,hoursLeft_eq hC]
      omega
   | true =>
    have HAT:=Qd (⟨d,(h:Int),⟨by omega,hlt,by omega,hB⟩,rfl⟩:∃d' h',SureAt p d0 d' h'∧(#[.agg #[.int .i64 (d:Int),.int .i64 (h:Int)]]:Array Value)=#[.agg #[.int .i64 (d':Int),.int .i64 h']])
    clear hB
    gi_wp2_with (first|(refine⟨trivial,?_⟩;gi_at_call 66;refine(callsIn_wide.2 HSR.out).mono ?_;rintro e wz ⟨rfl,hEz⟩;have hCz:=hC.ext hEz;(clear k0 k1);have k0:=hCz.cell;have k1:=hCz.lt;have k6:=hCz.free;obtain⟨fn,tmps,assign,body,hy,hR⟩:=HY.out _ wz (hE.trans hEz) HAT.out))
    refine hR.mono ?_
    rintro e W3 ⟨rfl,hJ3⟩
    gi_wp2
    refine bodyPost_ret (results_none rfl _ _ _) rfl ?_
    exact⟨⟨_,rfl⟩,.inr hJ3⟩
  ·gi_wp2
   go_end0
   exact⟨⟨_,rfl⟩,.inl hE⟩
end Go.Proofs.YtgloajbgphcloaaGreat.Sh
