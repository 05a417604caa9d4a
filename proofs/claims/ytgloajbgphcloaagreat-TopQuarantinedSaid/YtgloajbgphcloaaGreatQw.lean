/- On which day each islet catches beetles first, if a ship goes from islet to islet: the walk. -/
import Derived.Test.YtgloajbgphcloaaGreatQn
import Derived.Deep.RegionHeld3
import Derived.Deep.CutRange
import Derived.WalkMore
namespace Go.Proofs.YtgloajbgphcloaaGreat.Bn
set_option linter.unusedVariables false
set_option linter.unusedSimpArgs false
open Go.RowKit Go.Shelf
open Blk renaming new' → Qb
open Ext renaming refl → Qc, setCell → Qd, trans → Qe
open KeepsOthers renaming setCell → Qh
open Lib renaming hid → Qa
open List renaming setIfInBounds_toArray → Qi, set_cons_succ → Qk, set_cons_zero → Qj
open Nat renaming le_refl → Qg, zero_le → Qf
attribute [local go_sem] Oper.semAt_some
def goOn (D:List Int) (wait:Int) (k:Nat):Prop:=k+1<D.length∧D.getD k 0+wait≤D.getD (k+1) 0
def outF (D:List Int) (r:Nat) (j:Nat):Value:= .int .i64 (if 1≤j∧j≤r then D.getD (j - 1) 0 else -1)
def goneF (r:Nat) (k:Nat):Value:= .bool (decide (k<r))
def AxT (D:List Int) (n:Nat) (TM:Nat→Nat→Array Value) (k:Nat) (_:Array Value) (a':Act) (W:World):Prop :=
 ∃bb,Blk W bb (tripV ⟨D.getD k 0,(k:Int),(k:Int)+1,0⟩) 84∧n<bb∧a'= { tmps:=TM k bb,defers:=[] }
theorem AxT.own (D:List Int) (n B':Nat) (TM:Nat→Nat→Array Value) (k:Nat) (e:Array Value):OwnFrom B' (AxT D n TM k e):=by
 rintro a' A Y row ⟨bb,h2,h3,h4⟩ hg hr
 exact⟨bb,h2.kept hg (fun r e=>(hr r e).2),h3,h4⟩
structure Rn (D:List Int) (wait:Int) (m n0 bo bp bq bgv bg:Nat) (V:Array Value) (j:Nat) (b:Bool) (i:Int) (wr:World):Prop where
 good:∃r,r<m∧(∀ k,k<r→goOn D wait k)∧(b=true→i=(r:Int)∧j=m - r)∧(b=false→¬goOn D wait r)∧St m n0 bo bp bq bgv bg wr.heap.size V (outF D (if b=true then r else r+1)) (goneF (r+1)) [] wr
theorem out_step (D:List Int) (r i:Nat):(if i=r+1 then .int .i64 (D.getD r 0)else outF D r i)=outF D (r+1) i:=by
 unfold outF
 by_cases h:i=r+1
 ·subst h;rw[if_pos rfl,if_pos (by omega)];simp
 ·rw[if_neg h]
  by_cases h2:1≤i∧i≤r
  ·rw[if_pos h2,if_pos (by omega)]
  ·rw[if_neg h2,if_neg (by omega)]
theorem gone_step (r i:Nat):(if i=r then Value.bool true else goneF r i)=goneF (r+1) i:=by
 unfold goneF
 by_cases h:i=r
 ·subst h;rw[if_pos rfl];simp
 ·rw[if_neg h];congr 1;rw[decide_eq_decide];omega
set_option maxRecDepth 100000 in
set_option maxHeartbeats 16000000 in
theorem days_any (D:List Int) (wait:Int) (vi vt:Value) (w:World) (hI:Ints w vi [0]) (hT:Trips w vt (chainT D)) (h1:1≤D.length) (h7:D.length≤7) (hD:∀k,0≤D.getD k 0∧D.getD k 0≤400) (hw:0≤wait∧wait≤40) :
  Calls Tryz.prog 88 #[.agg (lookV ((D.length:Int)+1) wait vi vt)] w fun e w'=>∃bo r,r<D.length∧(∀ k,k<r→goOn D wait k)∧¬goOn D wait r ∧
   e= .returned (.slice (some ⟨bo,0,none⟩) (D.length+1) (D.length+1))∧FnB (fun j=>if j=0 then .int .i64 0 else outF D (r+1) j) (D.length+1) 3 w' bo∧Ext w w':=by
 have HI:=Qa (fun W hE=>hI.ext (w':=W) hE)
 have HT:=Qa (fun W hE=>hT.ext (w':=W) hE)
 have hlen:=chain_len D
 have HG:=Qa (fun k (h:k<D.length)=>chain_get h)
 have HSEQ:=Qa (fun w1=>open_arg ((D.length:Int)+1) wait vi vt (chainT D) (by rw[hlen];omega) w1 4 (by omega))
 obtain⟨ai,ci,rfl,hxi⟩:=hI
 obtain⟨at',ct,rfl,_⟩:=hT
 obtain⟨bi,oi,rfl,hbi,hci⟩:=hxi 0 (by simp)
 simp only[List.getElem_cons_zero,Nat.add_zero]at hci
 rw[hlen]at HT HSEQ ⊢
 simp only[List.length_singleton]at HI HSEQ ⊢
 obtain⟨m,hm⟩:∃m,D.length=m:=⟨_,rfl⟩
 rw[hm]at HT HSEQ HG h1 h7 ⊢
 have HM:=Qa hm
 have HD:=Qa hD
 obtain⟨cs,hcs1,hmk,hcs2⟩:=make_ints (m+1) (by omega)
 obtain⟨cb,hcb1,hmb,hcb2⟩:=make_flags m (by omega)
 have HMB:=Qa hmb
 clear hmb
 clear hxi hm hlen hD
 refine(callsIn_wide (n:=5)).1 ?_
 refine callsIn_of_wp_marks Tryz.func88 rfl trivial ?_ rfl
 simp only[Tryz.ntmps88,List.size_toArray,List.length_cons,List.length_nil,Nat.reduceAdd,Nat.reduceSub,Array.replicate_succ,Array.replicate_zero,List.push_toArray,List.append_toArray,List.nil_append,List.cons_append]
 have k9:((m:Int)+1)=((m+1:Nat):Int):=by omega
 simp only[← k9]at hmk
 clear k9
 gi_wp2
 obtain⟨n0,hn0⟩:∃n,w.heap.size=n:=⟨_,rfl⟩
 obtain⟨w1,hw1⟩:∃y,(w.alloc (.cells (lookV ((m:Int)+1) wait (.slice (some ⟨bi,oi,none⟩) 1 ci) (.slice at' m ct)) 204)).alloc (.cells cs 3)=y:=⟨_,rfl⟩
 have hb1:Blk w1 n0 (lookV ((m:Int)+1) wait (.slice (some ⟨bi,oi,none⟩) 1 ci) (.slice at' m ct)) 204:=by rw[← hw1];exact(Qb hn0.symm _ _).alloc _
 have ho1:FnB (fun _=> .int .i64 0) (m+1) 3 w1 (n0+1):=by rw[← hw1];exact FnB.new (by simp[hn0]) hcs1 hcs2
 have hE1:Ext w w1:=by rw[← hw1];(with_reducible(repeat(first|exact Qc _|assumption|apply Ext.alloc|apply Ext.drew|exact ext_plus _ _|(apply Qd;rotate_left;(simp<;>omega))|(apply Qe;rotate_left;exact ext_plus _ _)|(apply Qe;rotate_left;assumption))))
 simp only[hw1,hn0]
 have HN0:=Qa hn0
 clear hw1 hn0 hmk hcs1 hcs2
 gi_loopw [4,22] (fun _ i' wr=>∃k:Nat,k≤m+1∧i'= .int .i64 k∧FnB (fun j=>if j<k then .int .i64 (-1)else .int .i64 0) (m+1) 3 wr (n0+1)∧Blk wr n0 (lookV ((m:Int)+1) wait (.slice (some ⟨bi,oi,none⟩) 1 ci) (.slice at' m ct)) 204∧Ext w wr) (fun _ i' _=>m+1 - (intOf i').toNat)
 case atStart=>exact⟨0,Qf _,rfl,ho1.congr (fun i _=>by simp),hb1,hE1⟩
 case round =>
  rename World=>wr
  obtain⟨k,hk,rfl,ho,hb,hE⟩:=hrel
  clear hb1 ho1 hE1
  by_cases hlt:k<m+1
  ·have hki:(k:Int)<(m:Int)+1:=by omega
   have c0:=ho.cell hlt
   have c1:=ho.lt
   have c2:=ho.free
   gi_wp2
   go_roundw
   case rel=>exact⟨k+1,by omega,by go_num,(ho.set hlt (.int .i64 (-1))).congr (fun i _=>by by_cases h:i=k<;>by_cases h2:i<k<;>simp[h,h2]<;>omega),hb.other (by simp) _,hE.setCell (p:=⟨n0+1,k,none⟩) (by rw[HN0.out];simp) _⟩
   case measure=>simp[intOf];omega
  ·obtain rfl:k=m+1:=by omega
   have hki:¬((m+1:Nat):Int)<(m:Int)+1:=by omega
   have ho2:=ho.congr (f':=outF D 0) (fun i hi=>by unfold outF;rw[if_pos hi,if_neg (by omega)])
   have hmb:=HMB.out
   have c0:=hb.cell
   have c1:=hb.lt
   have c2:n0<wr.heap.size+1:=by omega
   have c3:n0<wr.heap.size+1+1:=by omega
   have c4:n0<wr.heap.size+1+1+1:=by omega
   clear ho
   gi_wp2
   obtain⟨bq,hbq⟩:∃n,wr.heap.size=n:=⟨_,rfl⟩
   obtain⟨wA,hwA⟩:∃y,((((wr.alloc (.cells #[.slice none 0 0] 285)).alloc (.cells #[.pointer (some ⟨wr.heap.size,0,none⟩)] 283)).alloc (.cells cb 4)).alloc (.cells #[.slice (some ⟨wr.heap.size+1+1,0,none⟩) m m] 56))=y:=⟨_,rfl⟩
   obtain⟨bo,hbo⟩:∃n,n0+1=n:=⟨_,rfl⟩
   have hlo:=ho2.lt
   rw[hbo]at ho2 hlo
   have hEA:Ext wr wA:=by rw[← hwA];(with_reducible(repeat(first|exact Qc _|assumption|apply Ext.alloc|apply Ext.drew|exact ext_plus _ _|(apply Qd;rotate_left;(simp<;>omega))|(apply Qe;rotate_left;exact ext_plus _ _)|(apply Qe;rotate_left;assumption))))
   have hzA:wA.heap.size=bq+1+1+1+1:=by rw[← hwA];simp[hbq]
   have hS:St m n0 bo (bq+1) bq (bq+1+1+1) (bq+1+1) wA.heap.size (lookV ((m:Int)+1) wait (.slice (some ⟨bi,oi,none⟩) 1 ci) (.slice at' m ct)) (outF D 0) (goneF 0) [] wA:=by
    refine⟨hb.ext hEA,ho2.ext hEA,?_,⟨.slice none 0 0,?_,QU.nil _ _ _ _,fun k ⟨_,_,_,e⟩=>(by cases e),fun _ k ⟨_,_,_,e⟩=>(by cases e)⟩,?_,?_,by omega,by omega,by omega,by omega,by omega⟩
    ·rw[← hwA,hbq];exact((Qb (by simp[hbq]) _ _).alloc _).alloc _
    ·rw[← hwA,hbq];exact(((Qb hbq.symm _ _).alloc _).alloc _).alloc _
    ·rw[← hwA,hbq];exact Qb (by simp[hbq]) _ _
    ·rw[← hwA];exact(FnB.ext (FnB.new (by simp[hbq]) hcb1 (fun i hi=>by rw[hcb2 i hi];simp[goneF])) ((Qc _).alloc _))
   have hEw:=hE.trans hEA
   simp only[hwA]
   simp only[hbq,hbo]
   have HBO:=Qa hbo
   have HZA:=Qa hzA
   have HCI:=Qa (fun W (hx:Ext w W) (q:Int)=>has_any [0] (.slice (some ⟨bi,oi,none⟩) 1 ci) q W (HI.out W hx) (by simp))
   clear hwA hbq hbo hzA hmb hb ho2 hE c0 c1 c2 c3 c4 hcb1 hcb2 hlo hEA
   refine' wpIn_range_argC (At:=fun k e _=>∃t,(chainT D)[k]? =some t∧e=#[.int .i64 (k:Int),.agg (tripV t)]) (Inv:=fun W=>Trips W (.slice at' m ct) (chainT D)) (N:=m) rfl (by omega) (gf:=162) rfl trivial (enters_of Tryz.func162 (by kernel_rfl) rfl)
    (HSEQ.out wA) (by rintro q e W ⟨b,_,rfl⟩;rfl) (fun _ _ _ _ _ _ h _ _=>h)
    (fun q Y=>St m n0 bo (bq+1) bq (bq+1+1+1) (bq+1+1) wA.heap.size (lookV ((m:Int)+1) wait (.slice (some ⟨bi,oi,none⟩) 1 ci) (.slice at' m ct)) (outF D 0) (goneF (if q=0 then 0 else 1)) (if q=0 then []else [0]) Y∧Ext w Y)
    (fun _ _=>False) ?own (fun _ _ _ _ h _ _=>h) (fun q A Y h hx=>⟨h.1.ext hx,h.2.trans hx⟩) (fun _ _ h=>HT.out _ h.2) ⟨hS,hEw⟩
    (AxT D (bq+1+1+1) _) (fun k e=>AxT.own _ _ _ _ _ _) ?assign ?body ?done (fun _ _ _ _ h _=>h.elim)
   case own=>exact OwnFrom.and (fun k A B row h hg hr=>h.kept hg (fun r e=>(hr r e).2)) (ownFrom_below (Qg _) hEw.size)
   case assign =>
    rintro l' q e W K hq ⟨hS,hE⟩ ⟨t,ht,rfl⟩ hK
    rw[HG.out q hq]at ht
    cases ht
    have hgv:=hS.gv.lt
    gi_wp2
    obtain⟨bb,hbb⟩:∃n,W.heap.size=n:=⟨_,rfl⟩
    have hEa:Ext W (W.alloc (.cells (tripV ⟨D.getD q 0,(q:Int),(q:Int)+1,0⟩) 84)):=(Qc _).alloc _
    have hN:=Qb (w:=W) hbb.symm (tripV ⟨D.getD q 0,(q:Int),(q:Int)+1,0⟩) 84
    rw[hbb]at hgv ⊢
    refine hK _ _ (KeepsFrom.of_grownBy (ext_grown hEa) (fun j e=>by cases e)) (hEa.keepC _) ⟨hS.ext hEa,hE.trans hEa⟩ ⟨_,HG.out q hq,rfl⟩ ⟨bb,hN,hgv,?_⟩
    refine(Act.mk.injEq _ _ _ _).mpr ⟨?_,rfl⟩
    exact rfl
   case body =>
    rintro l' q e a' W hl' hrec hq ⟨hS,hE⟩ _ ⟨bb,hb,hbn,rfl⟩
    have k0:=hb.cell
    have k1:=hb.lt
    have k2:=hS.box.cell
    have k3:=hS.box.lt
    have hco:=HCI.out W hE (q:Int)
    by_cases hq0:q=0
    ·subst hq0
     have e9:([0]:List Int).any (fun x=>decide (((0:Nat):Int)=x))=true:=by decide
     rw[e9]at hco
     have HCO:=Qa hco
     clear hco e9
     gi_wp2_with (first|(refine⟨trivial,?_⟩;gi_at_call 163;refine(callsIn_wide.2 HCO.out).mono ?_;rintro e wz ⟨rfl,hEz⟩;have hS2:=hS.ext hEz;have k4:=hS2.gv.cell;have k5:=hS2.gv.lt;have k6:=hS2.gone.cell (i:=0) (by omega);have k7:=hS2.gone.lt;have k8:=hS2.gone.free;have hS3:=hS2.setGone (i:=0) (by omega) (.bool true);have m0:=hS3.pq.cell;have m1:=hS3.pq.lt)|(refine⟨trivial,?_⟩;gi_at_call 164;refine(callsIn_wide.2 (hS3.put _)).mono ?_;rintro e wp ⟨rfl,hS4,hM4,hK4,hO4⟩))
     have hn0:=HN0.out
     have h5:=hS3.o1;have h6:=hS3.o2;have h7':=hS3.o3;have h8:=hS3.o4
     have hz:=HZA.out
     refine⟨(((ext_others hEz).trans (Qh _ _ _)).trans hO4).from _,((hEz.keepC _).trans (KeepC.set (a:=⟨bq+1+1,0,none⟩) (by show bq+1+1<_;omega) _)).trans (hK4 (by omega)),?_,hM4.ext0 ((hE.trans hEz).setCell (p:=⟨bq+1+1,0,none⟩) (by show _≤bq+1+1;omega) _) (fun k hk=>by omega)⟩
     rw[if_neg (by omega:¬0+1=0),if_neg (by omega:¬0+1=0)]
     exact hS4.congr (fun _ _=>rfl) (fun i _=>by unfold goneF;by_cases h:i=0<;>simp[h])
    ·have e9:([0]:List Int).any (fun x=>decide ((q:Int)=x))=false:=by simp[hq0]
     rw[e9]at hco
     have HCO:=Qa hco
     clear hco e9
     gi_wp2_with (first|(refine⟨trivial,?_⟩;gi_at_call 163;refine(callsIn_wide.2 HCO.out).mono ?_;rintro e wz ⟨rfl,hEz⟩))
     refine⟨(ext_others hEz).from _,hEz.keepC _,?_,hE.trans hEz⟩
     rw[if_neg hq0,if_neg hq0]at hS
     rw[if_neg (by omega:¬q+1=0),if_neg (by omega:¬q+1=0)]
     exact hS.ext hEz
   case done =>
    rintro D' Y hD' ⟨hS,hE⟩ hK
    rw[if_neg (by omega),if_neg (by omega)]at hS
    have hn0:=HN0.out
    have hM:Marks n0 ({ target:= .collected D',args:=#[] } ::[]) Y:=(Marks.nil n0 wA).push (Marks.nil n0 Y) hD' (by have:=HZA.out;have:=hS.o1;have:=hS.o2;omega) hK
    have k0:=hS.pq.cell
    have k1:=hS.pq.lt
    clear hEw
    gi_wp2_with (first|(refine⟨trivial,?_⟩;gi_at_call 165;refine(callsIn_wide.2 hS.take1).mono ?_;rintro e wt ⟨rfl,hS5,hM5,hO5⟩))
    have hMt:Marks n0 ({ target:= .collected D',args:=#[] } ::[]) wt:=hM.keeps hO5
    have hEt:Ext w wt:=hM5.ext0 hE (fun k hk=>by omega)
    have hSt:=hS5 _ (Qg _)
    clear hS hE hK hM hS5 hM5 hO5 k0 k1 hD'
    refine wpIn_loop_marks n0 [9,10,11,57,58,59,60,61,62,63,64,65,66,67,68,69,70,71,72,73,74,75,76,77,78,79,80,81,82,83,84,85,86,87,88,89,90,91,92] [.int .i64 0,.bool true,undef,undef,undef,undef,undef,undef,undef,undef,undef,undef,undef,undef,undef,undef,undef,undef,undef,undef,undef,undef,undef,undef,undef,undef,undef,undef,undef,undef,undef,undef,undef,undef,undef,undef,undef,undef,undef]
     (fun j vs wr=>∃(i:Int) (b:Bool) (u11 u57 u58 u59 u60 u61 u62 u63 u64 u65 u66 u67 u68 u69 u70 u71 u72 u73 u74 u75 u76 u77 u78 u79 u80 u81 u82 u83 u84 u85 u86 u87 u88 u89 u90 u91 u92:Value),vs=[.int .i64 i,.bool b,u11,u57,u58,u59,u60,u61,u62,u63,u64,u65,u66,u67,u68,u69,u70,u71,u72,u73,u74,u75,u76,u77,u78,u79,u80,u81,u82,u83,u84,u85,u86,u87,u88,u89,u90,u91,u92]∧Rn D wait m n0 bo (bq+1) bq (bq+1+1+1) (bq+1+1) (lookV ((m:Int)+1) wait (.slice (some ⟨bi,oi,none⟩) 1 ci) (.slice at' m ct)) j b i wr∧Ext w wr)
     m hMt (by simp only[setAll,Qi,Qj,Qk]) ⟨0,true,undef,undef,undef,undef,undef,undef,undef,undef,undef,undef,undef,undef,undef,undef,undef,undef,undef,undef,undef,undef,undef,undef,undef,undef,undef,undef,undef,undef,undef,undef,undef,undef,undef,undef,undef,undef,undef,rfl,⟨⟨0,by omega,fun k hk=>absurd hk (by omega),fun _=>⟨rfl,rfl⟩,fun h=>(by cases h),hSt⟩⟩,hEt⟩ ?_
    clear hMt hEt hSt
    rintro j ds vs wr hM ⟨i,b,u11,u57,u58,u59,u60,u61,u62,u63,u64,u65,u66,u67,u68,u69,u70,u71,u72,u73,u74,u75,u76,u77,u78,u79,u80,u81,u82,u83,u84,u85,u86,u87,u88,u89,u90,u91,u92,rfl,⟨r,hr,hgo,hbt,hbf,hS⟩,hE⟩
    simp only[setAll,Qi,Qj,Qk]
    have HGO:=Qa hgo
    clear hgo
    cases b with
    | false =>
     rw[if_neg (by decide)]at hS
     have hnot:=hbf rfl
     have HNOT:=Qa hnot
     clear hbt hbf hnot
     have k0:=hS.box.cell
     have k1:=hS.box.lt
     have c0:=(hE.cells.1 _ _ hbi).trans hci
     have c1:=Nat.lt_of_lt_of_le hbi hE.size
     have hMx:=Qa hM
     clear hM
     gi_wp2
     gi_loopw [15,128] (fun _ i' wy=>(i'= .int .i64 0∧wy=wr)∨(i'= .int .i64 1∧FnB (fun j=>if j=0 then .int .i64 0 else outF D (r+1) j) (m+1) 3 wy bo∧Ext w wy∧Marks n0 ds wy)) (fun _ i' _=>1 - (intOf i').toNat)
     case atStart=>exact .inl ⟨rfl,rfl⟩
     case round =>
      rename World=>wy
      rcases hrel with⟨rfl,rfl⟩|⟨rfl,hF,hEy,hMy⟩
      ·have c2:=hS.out.cell (i:=0) (by omega)
       have c3:=hS.out.lt
       have c4:=hS.out.free
       gi_wp2
       go_roundw
       case rel=>exact .inr ⟨rfl,(hS.out.set (i:=0) (by omega) (.int .i64 0)).congr (fun i _=>by by_cases h:i=0<;>simp[h]),hE.setCell (p:=⟨bo,0,none⟩) (by have:=HN0.out;have:=hS.o1;show _≤bo;omega) _,hMx.out.set _ _⟩
       case measure=>simp[intOf]
      ·have HF:=Qa hF
       have HMY:=Qa hMy
       clear k0 k1 c0 c1 hF hMy
       gi_wp2
       refine leaves_marks HMY.out (fun w' hSh=>⟨.slice (some ⟨bo,0,none⟩) (m+1) (m+1),by simp[results,Tryz.results88,go_sem],bo,r,hr,HGO.out,HNOT.out,rfl,FnB.shut hSh HF.out,hSh.ext hEy (by rw[HN0.out];exact Qg _)⟩)
    | true =>
     obtain⟨rfl,rfl⟩:=hbt rfl
     clear hbt hbf
     simp only[if_true]at hS
     have hMx:=Qa hM
     have hr2:r<(chainT D).length:=by rw[chain_len,HM.out];exact hr
     obtain⟨ax,cx,ee,hxt⟩:=HT.out wr hE
     injection ee with e1 e2 e3
     subst e1
     clear e2 e3
     obtain⟨b3,o3,hat,hb3,hA3⟩:=hxt r hr2
     have hge:(chainT D)[r]=⟨D.getD r 0,(r:Int),(r:Int)+1,0⟩:=by have:=HG.out r hr;rw[List.getElem?_eq_getElem hr2]at this;exact Option.some.inj this
     rw[hge]at hA3
     obtain⟨f0,f1,f2,f3⟩:=trip_cells hA3
     subst hat
     have k0:=hS.box.cell
     have k1:=hS.box.lt
     have hdr:=HD.out r
     obtain⟨dr,hdr2⟩:∃d,D.getD r 0=d:=⟨_,rfl⟩
     dsimp only at f0 f1 f2 f3
     rw[hdr2]at f0 hdr
     have HDR:=Qa hdr2
     clear hxt hA3 hge hr2 hdr2 hM
     gi_wp2
     obtain⟨bt,hbt⟩:∃n,wr.heap.size=n:=⟨_,rfl⟩
     obtain⟨wB,hwB⟩:∃y,wr.alloc (.cells #[.int .i64 dr,.int .i64 (r:Int),.int .i64 ((r:Int)+1),.int .i64 0] 84)=y:=⟨_,rfl⟩
     have hEB:Ext wr wB:=by rw[← hwB];(with_reducible(repeat(first|exact Qc _|assumption|apply Ext.alloc|apply Ext.drew|exact ext_plus _ _|(apply Qd;rotate_left;(simp<;>omega))|(apply Qe;rotate_left;exact ext_plus _ _)|(apply Qe;rotate_left;assumption))))
     have hTB:Blk wB bt #[.int .i64 dr,.int .i64 (r:Int),.int .i64 ((r:Int)+1),.int .i64 0] 84:=by rw[← hwB];exact Qb hbt.symm _ _
     have hlg:=hS.gv.lt
     rw[hbt]at hlg
     simp only[hwB,hbt]
     rw[hbt]at hS
     have hSB:=hS.ext hEB
     have hEwB:=hE.trans hEB
     have hMB:=hMx.out.ext hEB
     clear hwB hbt hS hE hMx f0 f1 f2 f3 k0 k1 hEB hb3
     have c0:=hSB.out.cell (i:=r+1) (by omega)
     rw[show outF D r (r+1)= .int .i64 (-1) by unfold outF;rw[if_neg (by omega)]]at c0
     have c1:=hSB.out.lt
     have c2:=hTB.cell
     have c3:=hTB.lt
     have hpc:=plus_cell
     refine wpIn_region_extY 16 (by kernel_rfl) (by kernel_rfl) (by kernel_rfl) (by kernel_rfl) (by kernel_rfl) ?_
     simp only[List.take_succ_cons,List.take_zero,List.drop_succ_cons,List.drop_zero]
     repeat(any_goals(first|go_big_quiet_step(fail)|quiet_step(fail)))
     all_goals(refine wpQuiet_nil ?_;intro w3 hE3)
     have hS3:=hSB.ext hE3
     have hT3:=hTB.ext hE3
     clear c0 c1 c2 c3
     have c0:=hS3.out.cell (i:=r+1) (by omega)
     rw[show outF D r (r+1)= .int .i64 (-1) by unfold outF;rw[if_neg (by omega)]]at c0
     have c1:=hS3.out.lt
     have c2:=hT3.cell
     have c3:=hT3.lt
     have c4:=hS3.out.free
     have hSC:=(hS3.setOut (i:=r+1) (by omega) (.int .i64 dr)).congr (fo':=outF D (r+1)) (fun i _=>by rw[← HDR.out];exact out_step D r i) (fun _ _=>rfl)
     have hbo1:=hS3.o1;have hbo2:=hS3.o2;have hbo3:=hS3.o3;have hbo4:=hS3.o4;have hbo5:=hS3.o5
     have hTC:=hT3.other (a:=⟨bo,r+1,none⟩) (by show bo≠bt;omega) (.int .i64 dr)
     have k0:=hSC.box.cell
     have k1:=hSC.box.lt
     have hEC:=(hEwB.trans hE3).setCell (p:=⟨bo,r+1,none⟩) (by have:=HN0.out;show _≤bo;omega) (.int .i64 dr)
     have hMC:=(hMB.ext hE3).set ⟨bo,r+1,none⟩ (.int .i64 dr)
     gi_wp2
     obtain⟨wC,hwC⟩:∃y,w3.setCell ⟨bo,r+1,none⟩ (.int .i64 dr)=y:=⟨_,rfl⟩
     rw[hwC]at hSC hTC hEC hMC ⊢
     obtain⟨G,X,hGX⟩:∃(G:Nat) (X:List Int),(goOn D wait r∧G=r+1+1∧X=[(r:Int)+1])∨(¬ goOn D wait r∧G=r+1∧X=[]):=by
      by_cases hok:goOn D wait r
      ·exact⟨_,_,.inl ⟨hok,rfl,rfl⟩⟩
      ·exact⟨_,_,.inr ⟨hok,rfl,rfl⟩⟩
     clear hwC k0 k1 c0 c1 c2 c3 c4 hS3 hT3 hSB hTB hMB hEwB hE3
     have hCsz:=hTC.lt
     have HGX:=Qa hGX
     clear hGX
     refine' wpIn_range_argC (At:=fun k e _=>∃t,(chainT D)[k]? =some t∧e=#[.int .i64 (k:Int),.agg (tripV t)]) (Inv:=fun W=>Trips W (.slice (some ⟨b3,o3,none⟩) m ct) (chainT D)) (N:=m) rfl (by omega) (gf:=162) rfl trivial (enters_of Tryz.func162 (by kernel_rfl) rfl)
      (HSEQ.out wC) (by rintro q e W ⟨b,_,rfl⟩;rfl) (fun _ _ _ _ _ _ h _ _=>h)
      (fun q Y=>((St m n0 bo (bq+1) bq (bq+1+1+1) (bq+1+1) bt (lookV ((m:Int)+1) wait (.slice (some ⟨bi,oi,none⟩) 1 ci) (.slice (some ⟨b3,o3,none⟩) m ct)) (outF D (r+1)) (goneF (if q≤r+1 then r+1 else G)) (if q≤r+1 then []else X) Y∧Blk Y bt #[.int .i64 dr,.int .i64 (r:Int),.int .i64 ((r:Int)+1),.int .i64 0] 84)∧Marks n0 ds Y)∧Ext w Y)
      (fun _ _=>False) ?own2 (fun _ _ _ _ h _ _=>h) (fun q A Y h hx=>⟨⟨⟨h.1.1.1.ext hx,h.1.1.2.ext hx⟩,h.1.2.ext hx⟩,h.2.trans hx⟩) (fun _ _ h=>HT.out _ h.2) ⟨⟨⟨by rw[if_pos (Qf _),if_pos (Qf _)];exact hSC,hTC⟩,hMC⟩,hEC⟩
      (AxT D (bq+1+1+1) _) (fun k e=>AxT.own _ _ _ _ _ _) ?assign2 ?body2 ?done2 (fun _ _ _ _ h _=>h.elim)
     case own2=>exact OwnFrom.and (OwnFrom.and (fun k A B row h hg hr=>⟨h.1.kept hg (fun r e=>(hr r e).2),h.2.kept hg (fun r e=>(hr r e).2)⟩) (ownFrom_marks hMC)) (ownFrom_below (Qg _) hEC.size)
     case assign2 =>
      rintro l' q e W K hq ⟨⟨⟨hS,hT⟩,hMW⟩,hE⟩ ⟨t,ht,rfl⟩ hK
      rw[HG.out q hq]at ht
      cases ht
      have hgv:=hS.gv.lt
      gi_wp2
      obtain⟨bb,hbb⟩:∃n,W.heap.size=n:=⟨_,rfl⟩
      have hEa:Ext W (W.alloc (.cells (tripV ⟨D.getD q 0,(q:Int),(q:Int)+1,0⟩) 84)):=(Qc _).alloc _
      have hN:=Qb (w:=W) hbb.symm (tripV ⟨D.getD q 0,(q:Int),(q:Int)+1,0⟩) 84
      rw[hbb]at hgv ⊢
      refine hK _ _ (KeepsFrom.of_grownBy (ext_grown hEa) (fun j e=>by cases e)) (hEa.keepC _) ⟨⟨⟨hS.ext hEa,hT.ext hEa⟩,hMW.ext hEa⟩,hE.trans hEa⟩ ⟨_,HG.out q hq,rfl⟩ ⟨bb,hN,hgv,?_⟩
      refine(Act.mk.injEq _ _ _ _).mpr ⟨?_,rfl⟩
      exact rfl
     case body2 =>
      rintro l' q e a' W hl' hrec hq ⟨⟨⟨hS,hT⟩,hMW⟩,hE⟩ _ ⟨bb,hb,hbn,rfl⟩
      have hdq:=HD.out q
      obtain⟨dq,hdq2⟩:∃d,D.getD q 0=d:=⟨_,rfl⟩
      rw[hdq2]at hb hdq
      have HDQ:=Qa hdq2
      clear hdq2
      have k0:=hb.cell
      have k1:=hb.lt
      have k2:=hT.cell
      have k3:=hT.lt
      have k4:=hS.gv.cell
      have k5:=hS.gv.lt
      have k6:=hS.gone.cell (i:=q) hq
      have k7:=hS.gone.lt
      have k8:=hS.gone.free
      have k9:=hS.box.cell
      have k10:=hS.box.lt
      rcases Nat.lt_trichotomy q (r+1)with hqr|hqr|hqr
      ·rw[if_pos (by omega),if_pos (by omega)]at hS
       rw[if_pos (by omega),show goneF (r+1) q= .bool true by unfold goneF;simp;omega]at k6
       have HSS:=Qa hS
       gi_wp2
       refine⟨KeepsFrom.refl _ _,KeepC.refl _ _,⟨⟨?_,hT⟩,hMW⟩,hE⟩
       rw[if_pos (by omega),if_pos (by omega)]
       exact HSS.out
      ·subst hqr
       rw[if_pos (by omega),if_pos (by omega)]at hS
       rw[if_pos (by omega),show goneF (r+1) (r+1)= .bool false by unfold goneF;simp]at k6
       have HSS:=Qa hS
       rcases HGX.out with⟨hok,rfl,rfl⟩|⟨hok,rfl,rfl⟩
       ·have hday:dr+wait≤dq:=by have h:=hok.2;rw[HDR.out,HDQ.out]at h;exact h
        have HOK:=Qa hok
        have hS3:=HSS.out.setGone (i:=r+1) hq (.bool true)
        have m0:=hS3.pq.cell
        have m1:=hS3.pq.lt
        clear hok
        gi_wp2_with (first|(refine⟨trivial,?_⟩;gi_at_call 164;refine(callsIn_wide.2 (hS3.put _)).mono ?_;rintro e wp ⟨rfl,hS4,hM4,hK4,hO4⟩))
        have hn0:=HN0.out
        refine⟨((Qh _ _ _).trans hO4).from _,(KeepC.set (a:=⟨bq+1+1,r+1,none⟩) (by show bq+1+1<_;omega) _).trans ((hK4 (by omega)).mono (by omega)),⟨⟨?_,(hT.other (a:=⟨bq+1+1,r+1,none⟩) (by show bq+1+1≠bt;omega) _).keepC (hK4 (by omega)) (Qg _)⟩,(hMW.set _ _).keeps hO4⟩,hM4.ext0 (hE.setCell (p:=⟨bq+1+1,r+1,none⟩) (by show _≤bq+1+1;omega) _) (fun k hk=>by omega)⟩
        rw[if_neg (by omega),if_neg (by omega)]
        exact hS4.congr (fun _ _=>rfl) (fun i _=>gone_step (r+1) i)
       ·have hday:¬dr+wait≤dq:=fun h=>hok ⟨by rw[HM.out];exact hq,by rw[HDR.out,HDQ.out];exact h⟩
        clear hok
        gi_wp2
        refine⟨KeepsFrom.refl _ _,KeepC.refl _ _,⟨⟨?_,hT⟩,hMW⟩,hE⟩
        first|exact HSS.out|(rw[if_neg (by omega),if_neg (by omega)];exact HSS.out)|(simp only[ite_self];exact HSS.out)
      ·rw[if_neg (by omega),if_neg (by omega)]at hS
       have hG:G≤q:=by rcases HGX.out with⟨_,rfl,_⟩|⟨_,rfl,_⟩<;>omega
       rw[if_neg (by omega),show goneF G q= .bool false by unfold goneF;simp;omega]at k6
       have hne:¬(q:Int)=(r:Int)+1:=by omega
       have HSS:=Qa hS
       gi_wp2
       refine⟨KeepsFrom.refl _ _,KeepC.refl _ _,⟨⟨?_,hT⟩,hMW⟩,hE⟩
       rw[if_neg (by omega),if_neg (by omega)]
       exact HSS.out
     case done2 =>
      rintro D2 Y hD2 ⟨⟨⟨hS,hT⟩,hMY⟩,hE⟩ hK
      have hSG:St m n0 bo (bq+1) bq (bq+1+1+1) (bq+1+1) bt (lookV ((m:Int)+1) wait (.slice (some ⟨bi,oi,none⟩) 1 ci) (.slice (some ⟨b3,o3,none⟩) m ct)) (outF D (r+1)) (goneF G) X Y:=by
       by_cases hmr:m≤r+1
       ·rw[if_pos hmr,if_pos hmr]at hS
        rcases HGX.out with⟨hok,rfl,rfl⟩|⟨_,rfl,rfl⟩
        ·have h:=hok.1;rw[HM.out]at h;omega
        ·exact hS
       ·rw[if_neg hmr,if_neg hmr]at hS;exact hS
      have hM7:=hMC.push hMY hD2 (by omega) hK
      have k0:=hSG.pq.cell
      have k1:=hSG.pq.lt
      have hn0:=HN0.out
      clear hS hT hMY hK hMC hSC hTC hEC
      rcases HGX.out with⟨hok,rfl,rfl⟩|⟨hok,rfl,rfl⟩
      ·have HOK:=Qa hok
       have hrm:r+1<m:=by have h:=hok.1;rw[HM.out]at h;exact h
       clear hok
       gi_wp2_with (first|(refine⟨trivial,?_⟩;gi_at_call 165;refine(callsIn_wide.2 hSG.take1).mono ?_;rintro e wt ⟨rfl,hS5,hM5,hO5⟩))
       refine⟨m - (r+1),[.int .i64 ((r:Int)+1),.bool true,?a11,?a57,?a58,?a59,?a60,?a61,?a62,?a63,?a64,?a65,?a66,?a67,?a68,?a69,?a70,?a71,?a72,?a73,?a74,?a75,?a76,?a77,?a78,?a79,?a80,?a81,?a82,?a83,?a84,?a85,?a86,?a87,?a88,?a89,?a90,?a91,?a92],by omega,?fra,hM7.keeps hO5,(r:Int)+1,true,_,_,_,_,_,_,_,_,_,_,_,_,_,_,_,_,_,_,_,_,_,_,_,_,_,_,_,_,_,_,_,_,_,_,_,_,_,rfl,⟨⟨r+1,hrm,fun k hk=> ?goa,fun _=>⟨by omega,rfl⟩,fun h=>(by cases h),by rw[if_pos rfl];exact hS5 _ (Qg _)⟩⟩,hM5.ext0 hE (fun k hk=>by omega)⟩
       case fra =>
        simp only[setAll,Qi,Qj,Qk]
        try exact rfl
       case goa =>
        rcases Nat.lt_succ_iff_lt_or_eq.1 hk with h|h
        ·exact HGO.out k h
        ·subst h;exact HOK.out
      ·have HOK:=Qa hok
       clear hok
       gi_wp2_with (first|(refine⟨trivial,?_⟩;gi_at_call 165;refine(callsIn_wide.2 hSG.take0).mono ?_;rintro e wt ⟨rfl,rfl⟩))
       refine⟨0,[.int .i64 0,.bool false,?b11,?b57,?b58,?b59,?b60,?b61,?b62,?b63,?b64,?b65,?b66,?b67,?b68,?b69,?b70,?b71,?b72,?b73,?b74,?b75,?b76,?b77,?b78,?b79,?b80,?b81,?b82,?b83,?b84,?b85,?b86,?b87,?b88,?b89,?b90,?b91,?b92],by omega,?frb,hM7,0,false,_,_,_,_,_,_,_,_,_,_,_,_,_,_,_,_,_,_,_,_,_,_,_,_,_,_,_,_,_,_,_,_,_,_,_,_,_,rfl,⟨⟨r,hr,HGO.out,fun h=>(by cases h),fun _=>HOK.out,by rw[if_neg (by decide)];exact hSG.reB (Qg _)⟩⟩,hE⟩
       case frb =>
        simp only[setAll,Qi,Qj,Qk]
        try exact rfl
end Go.Proofs.YtgloajbgphcloaaGreat.Bn
