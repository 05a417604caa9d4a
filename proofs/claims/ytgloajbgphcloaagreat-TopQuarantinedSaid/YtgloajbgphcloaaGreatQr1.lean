/- The ship's search for calls: one more call. -/
import Derived.Test.YtgloajbgphcloaaGreatQr
import Derived.OwnWalkIn
namespace Go.Proofs.YtgloajbgphcloaaGreat.Sh
set_option linter.unusedVariables false
set_option linter.unusedSimpArgs false
open Go.RowKit Go.Shelf
open Blk renaming new' → Qb
open Ext renaming refl → Qc, trans → Qd
open KeepsOthers renaming setCell → Qh
open Lib renaming hid → Qa
open List renaming setIfInBounds_toArray → Qe, set_cons_succ → Qg, set_cons_zero → Qf
attribute [local go_sem] Oper.semAt_some
theorem wpListIn_append_run {F:Fence} {n:Nat} {P:Program} (w:World) {ops:Array Oper} {rest:List Oper} {o:Oper} {a:Act} {Q:Exit→Act→World→Prop} (hgd:o.guard=none) (s x:Operand) (t tn:TypeId)
  (ho:o.op= .call { callee:= .builtin .append,args:=#[s,x],argTypes:=#[t,tn] }) (vs vx:Value) (hs:a.eval s=vs) (hx:a.eval x=vx)
  (v':Value) (w':World) (hr:(Builtin.append_ #[t,tn] o.type #[vs,vx]).run P w= .ok v' w') (h:wpListIn F n P ops Q rest (a.put o.dst v') w'):wpListIn F n P ops Q (o::rest) a w:=by
 refine wpListIn_plain hgd fun K hK=> ?_
 unfold Oper.wpIn
 refine⟨?_,?_⟩
 ·simp[Oper.about,ho,resolve,Target.leads,Sem.run_pure]
 ·rw[Oper.semAt_plain F _ _ (by rw[ho];intro c hc';cases hc')]
  simp[execOp,ho,resolve,invoke,builtin,hs,hx,hr,Result.andThen]
  exact hK _ _ h
set_option maxRecDepth 100000 in
set_option maxHeartbeats 16000000 in
theorem search_succ (w0:World) (p:Pass) (vt vs:Value) (lo hi:Int) (bd bg bp bo bs bM base k:Nat) (O:Ok p) (hlo:1≤lo) (hhi:hi≤60) (hlh:lo≤hi) (hT:Ints w0 vt p.tides) (hS:Spans w0 vs p.swell) (ih:Search w0 p vt vs lo hi bd bg bp bo bs bM base k):Search w0 p vt vs lo hi bd bg bp bo bs bM base (k+1):=by
 intro L d n v w hl hd hG hn hE hO hQ hD
 have hbb:=before_bd hG (Nat.le_refl _)
 have hsn:=O.swellN
 rw[← hd]at hbb
 have HT:=Qa (fun W (hE:Ext w0 W)=>hT.ext hE)
 have HS:=Qa (fun W (hE:Ext w0 W)=>hS.ext hE)
 obtain⟨ta,ct,rfl,_⟩:=hT
 obtain⟨sa,cs,rfl,_⟩:=hS
 have HG:=Qa hG
 have HQ:=Qa hQ
 have HD:=Qa hD
 have HIH:=Qa ih
 have HDD:=Qa hd
 have HNN:=Qa hn
 have hne:¬(k:Int)+1=0:=by omega
 clear hG hQ hn hd hD ih
 refine(callsIn_wide (n:=5)).1 ?_
 refine callsIn_of_wp_marks Tryz.func84 rfl trivial ?_ rfl
 simp only[Tryz.ntmps84,List.size_toArray,List.length_cons,List.length_nil,Nat.reduceAdd,Nat.reduceSub,Array.replicate_succ,Array.replicate_zero,List.push_toArray,List.append_toArray,List.nil_append,List.cons_append]
 gi_wp2
 obtain⟨n0,hn0⟩:∃k,w.heap.size=k:=⟨_,rfl⟩
 obtain⟨w1,hw1⟩:∃y,(w.alloc (.cells #[.int .i64 (d:Int),.int .i64 ((k:Int)+1)] 200)).alloc (.cells #[.bool false] 4)=y:=⟨_,rfl⟩
 have hS1:Blk w1 n0 #[.int .i64 (d:Int),.int .i64 ((k:Int)+1)] 200:=by rw[← hw1];exact(Qb hn0.symm _ _).alloc _
 have hR1:Blk w1 (n0+1) #[.bool false] 4:=by rw[← hw1];exact Qb (by simp[hn0]) _ _
 have hE1:Ext w w1:=by rw[← hw1];(with_reducible(repeat(first|exact Qc _|assumption|apply Ext.alloc|apply Ext.drew|exact ext_plus _ _|(apply Ext.setCell;rotate_left;(simp<;>omega))|(apply Qd;rotate_left;exact ext_plus _ _)|(apply Qd;rotate_left;assumption))))
 have HZ1:=Qa (show w1.heap.size=n0+1+1 by rw[← hw1];simp[hn0])
 simp only[hw1,hn0]
 have HN0:=Qa hn0
 clear hw1 hn0
 refine wpIn_scope_ret fun RR hR'=> ?_
 have HR:=Qa hR'
 have k0:=hS1.cell
 have k1:=hS1.lt
 have k2:=hR1.cell
 have k3:=hR1.lt
 have k4:=hR1.free
 have E1:=hE.toExt hE1
 have k5:=E1.dead.cell
 have k6:=E1.dead.lt
 have k7:=E1.gap.cell
 have k8:=E1.gap.lt
 obtain⟨x,hlk⟩:=(HD.out.ext hE1).look (a:=(d:Int)) (c:=(k:Int)+1) (by omega) (by omega) (by omega) (by omega)
 clear hR'
 cases x with
 | true =>
  gi_wp2
  refine HR.out _ _ ?_
  have hR2:=hR1.set 0 (.bool false)
  have hE2:=hE1.setCell (p:=⟨n0+1,0,none⟩) (by rw[HN0.out];simp) (.bool false)
  refine leaves_marks (Marks.nil n0 _) (fun w' hS=> ?_)
  have q0:=(hS.blk hR2).cell
  have q1:=(hS.blk hR2).lt
  have hE3:Ext w w':=hS.ext hE2 (by rw[HN0.out];exact Nat.le_refl _)
  refine⟨.bool false,by simp[results,Tryz.results84,go_sem,q0,q1],false,v,[],rfl,hO.ext hE3,by rw[List.append_nil];exact HQ.out.ext hE3,fun h=>(by cases h),fun _=>rfl,(HD.out.ext hE3).mono (by omega),hE3.mod _,fun k hk=> .inl hk,KeepsM.of (ext_others hE3)⟩
 | false =>
  gi_wp2
  refine wpIn_label ?_
  gi_wp2
  have hz1:w1.heap.size=n0+1+1:=HZ1.out
  obtain⟨w2,hw2⟩:∃y,w1.alloc (.cells #[.int .i64 ((d:Int)+lo)] 3)=y:=⟨_,rfl⟩
  have hE2:Ext w1 w2:=by rw[← hw2];(with_reducible(repeat(first|exact Qc _|assumption|apply Ext.alloc|apply Ext.drew|exact ext_plus _ _|(apply Ext.setCell;rotate_left;(simp<;>omega))|(apply Qd;rotate_left;exact ext_plus _ _)|(apply Qd;rotate_left;assumption))))
  have hY:Blk w2 (n0+1+1) #[.int .i64 ((d:Int)+lo)] 3:=by rw[← hw2];exact Qb hz1.symm _ _
  obtain⟨y0,hy0⟩:=Int.eq_ofNat_of_zero_le (show 0≤(d:Int)+lo by omega)
  obtain⟨j0,hj0⟩:=Int.eq_ofNat_of_zero_le (show 0≤hi - lo+1 by omega)
  rw[hy0]at hY
  have hE12:=hE1.trans hE2
  have hsz:=hO.lt
  have hno:∀q,n0≤q→¬InB v q:=fun q hq e=>by have:=(HQ.out.lt e).2;have:=HN0.out;omega
  have hRs:Rs w0 p (.slice ta p.tides.length ct) (.slice sa p.swell.length cs) lo hi bd bg bp bo bs bM base k n d L v w n0 j0 (n0+1+1) y0 w2 :=
   ⟨hY,by omega,by omega,hS1.ext hE2,hR1.ext hE2,E1.toExt hE2,⟨v,hO.ext hE12,HQ.out.ext hE12,fun q hq=> .inl hq,hno _ (by omega),hno _ (by omega),hno _ (by omega)⟩,⟨n,HD.out.ext hE12,Nat.add_le_add_left (Nat.mul_le_mul_right _ (by omega)) n⟩,hE12.mod _,KeepsM.of (ext_others hE12),by omega⟩
  have HRS:=Qa hRs
  simp only[hw2]
  simp only[hz1,hy0]
  clear hw2 hY hRs hy0 hj0 hno hsz hE2 k0 k1 k2 k3 k4 k5 k6 k7 k8 hlk hS1 hR1 E1 hE1
  refine wpIn_loop_marks n0 [8,21,22,23,24,25,26,27,28,29,30,31,32,33,34,35,36,37,38,60] [.pointer (some ⟨n0+1+1,0,none⟩),undef,undef,undef,undef,undef,undef,undef,undef,undef,undef,undef,undef,undef,undef,undef,undef,undef,undef,undef]
   (fun j us wr=>∃(b y:Nat) (u21 u22 u23 u24 u25 u26 u27 u28 u29 u30 u31 u32 u33 u34 u35 u36 u37 u38 u60:Value),us=[.pointer (some ⟨b,0,none⟩),u21,u22,u23,u24,u25,u26,u27,u28,u29,u30,u31,u32,u33,u34,u35,u36,u37,u38,u60]∧Rs w0 p (.slice ta p.tides.length ct) (.slice sa p.swell.length cs) lo hi bd bg bp bo bs bM base k n d L v w n0 j b y wr)
   j0 (Marks.nil _ _) (by simp only[setAll,Qe,Qf,Qg]) ⟨n0+1+1,y0,undef,undef,undef,undef,undef,undef,undef,undef,undef,undef,undef,undef,undef,undef,undef,undef,undef,undef,undef,rfl,HRS.out⟩ ?_
  clear HRS hE12
  rintro j ds us wr hM ⟨b,y,u21,u22,u23,u24,u25,u26,u27,u28,u29,u30,u31,u32,u33,u34,u35,u36,u37,u38,u60,rfl,hR⟩
  simp only[setAll,Qe,Qf,Qg]
  have hMx:=Qa hM
  have HRS:=Qa hR
  have k0:=hR.day.cell
  have k1:=hR.day.lt
  have k2:=hR.spot.cell
  have k3:=hR.spot.lt
  have k4:=hR.env.gap.cell
  have k5:=hR.env.gap.lt
  have k6:=hR.env.pass.cell
  have k7:=hR.env.pass.lt
  have hge:=hR.ge
  have hlf:=hR.left
  clear hM hR
  have fail:∀W,Ext wr W→KeepsOthers wr W→True:=fun _ _ _=>trivial
  clear fail
  by_cases hy:(y:Int)≤d+hi
  ·by_cases hys:y<p.swell.length
   ·have hys':¬(p.swell.length:Int)≤(y:Int):=by omega
    gi_wp2_with (first|(refine⟨trivial,?_⟩;gi_at_call 85;refine(callsIn_wide.2 (calls_any _ _ _ _ _ _)).mono ?_;rintro e w5 ⟨rfl,hP5,hF5,hE5⟩))
    obtain⟨b5,hb5⟩:∃n,wr.heap.size=n:=⟨_,rfl⟩
    rw[hb5]at hP5 hF5
    simp only[hb5]
    obtain⟨j1,rfl⟩:∃j1,j=j1+1:=⟨j - 1,by omega⟩
    have HRM:=Qa (HRS.out.toRm.ext hE5)
    have hM5:=hMx.out.ext hE5
    have HM5:=Qa hM5
    have HSQ:=Qa (calls_fst p (.slice ta p.tides.length ct) (.slice sa p.swell.length cs) y w5 b5 (b5+1) 4 (by omega) O (HT.out _ (HRM.out.env.ext)) (HS.out _ (HRM.out.env.ext)) hP5 hF5)
    have hz5:=HRM.out.mod.size
    have hbM:bM<n0:=by have:=HD.out.lt;have:=HN0.out;omega
    have hbo:bo<n0:=by have:=hO.lt;have:=HN0.out;omega
    have hbs:base≤w5.heap.size:=HRM.out.env.room
    have hw0:w0.heap.size≤w5.heap.size:=HRM.out.env.ext.size
    have hk6:=HRS.out.day.lt
    have hk7:=hE5.size
    have HZ5:=Qa (⟨hz5,hbs,hw0,(by omega:b<w5.heap.size)⟩:w.heap.size≤w5.heap.size∧base≤w5.heap.size∧w0.heap.size≤w5.heap.size∧b<w5.heap.size)
    have HB:=Qa (⟨hbM,hbo⟩:bM<n0∧bo<n0)
    clear hP5 hF5 hM5 hz5 hbM hbo hbs hw0 hk6 hk7 k0 k1 k2 k3 k4 k5 k6 k7
    refine' wpIn_range_fst rfl (by omega) (gf:=157) rfl trivial (enters_of Tryz.func157 (by kernel_rfl) rfl) HSQ.out (by rintro e ⟨d',h',_,rfl⟩;rfl)
     (fun c W=>Marks n0 ds W∧((c= .exit 1∧Rm w0 p (.slice ta p.tides.length ct) (.slice sa p.swell.length cs) lo hi bd bg bp bo bs bM base k n d L v w n0 j1 b y W)∨(c= .ret∧Ft p lo hi bo bM base k n L v w n0 W)))
     ?own (AxS w5.heap.size _) (fun e=>AxS.own _ _ _ _) ?assign ?body ?done ?stop
    case own =>
     obtain⟨z1,z2,z3,z4⟩:=HZ5.out
     rintro c A B row ⟨h1,h2⟩ hg hr
     refine⟨ownFrom_marks (β:=Unit) HM5.out () A B row h1 hg hr,?_⟩
     rcases h2 with⟨rfl,h2⟩|⟨rfl,h2⟩
     ·exact .inl ⟨rfl,h2.kept hg hr z2 z1 z3⟩
     ·exact .inr ⟨rfl,h2.kept hg hr z1 (by have:=HB.out.1;have:=HN0.out;omega)⟩
    case assign =>
     rintro l' e W K hE ⟨d',h',hs,rfl⟩ hK
     gi_wp2
     obtain⟨bb,hbb⟩:∃n,W.heap.size=n:=⟨_,rfl⟩
     have hEa:Ext W (W.alloc (.cells #[.int .i64 (d':Int),.int .i64 h'] 35)):=(Qc _).alloc _
     have hN:=Qb (w:=W) hbb.symm #[.int .i64 (d':Int),.int .i64 h'] 35
     have hzW:=hE.size
     rw[hbb]at hzW ⊢
     refine hK _ _ (KeepsFrom.of_grownBy (ext_grown hEa) (fun j e=>by cases e)) (hE.trans hEa) ⟨d',h',bb,rfl,hN,hzW,?_⟩
     refine(Act.mk.injEq _ _ _ _).mpr ⟨?_,rfl⟩
     exact rfl
    case body =>
     rintro l' e a' W hl' hrec hE ⟨d',h',hsu,rfl⟩ ⟨d2,h2,bb,hee,hB2,hbb,rfl⟩
     cases hee
     have hRm:=HRM.out.ext hE
     have hMW:=HM5.out.ext hE
     have k0:=hB2.cell
     have k1:=hB2.lt
     have k2:=hRm.day.cell
     have k3:=hRm.day.lt
     by_cases hdy:(d':Int)=(y:Int)
     ·obtain rfl:d'=y:=by omega
      obtain⟨v',g1,g2,g3,g4,g5,g6⟩:=hRm.out
      obtain⟨m,hD1,hm1⟩:=HRS.out.dead
      have hD2:=(hD1.ext hE5).ext hE
      have hpy:=hsu.hour
      have hcall:callB p (d':Int) h'=true:=call_iff.2 ⟨⟨by omega,by have:=hsu.lt;omega⟩,hpy⟩
      have hgood:=HG.out.snoc (c:=((d':Int),h')) hcall hsu.goes (by have:=HDD.out;dsimp only;omega)
      have hll:L.length≤1000:=by omega
      have hEa:Ext W (W.alloc (.cells #[.int .i64 (d':Int),.int .i64 h'] 35)):=(Qc _).alloc _
      obtain⟨i0,z0,hi0,hz0,hz1,hz2,hz3⟩:∃i z,Tryz.prog.info? 35=some i∧i.zero=some z∧i.size=2∧i.bytes≤64∧z.cells.size=2:=⟨_,_,rfl,rfl,rfl,by decide,rfl⟩
      obtain⟨v2,w6,hrun,hq2,hM2,hnew,hko⟩:=(g2.ext hEa).push (fun _=>rfl) (fun x u hu=>by(simp only[spC,List.mem_cons,List.not_mem_nil,or_false]at hu);rcases hu with rfl|rfl<;>rfl) 76 35 76 i0 z0 Tryz.underlying76 hi0 hz0 hz1 hz3 hz2 (Nat.le_trans hRm.env.room hEa.size) ((d':Int),h') ⟨W.heap.size,0,none⟩ (by
       intro j u hj
       have hc:=(Blk.new W #[.int .i64 (d':Int),.int .i64 h'] 35).cell
       rw[show(Addr.add ⟨W.heap.size,0,none⟩ j:Addr)=⟨W.heap.size,j,none⟩ by rw[Addr.add_lit,Nat.zero_add],hc]
       rw[← hj];simp[spC]) hll
      have nb:∀q,InB v' q→base≤q:=fun q e=>(g2.lt e).1
      obtain⟨b1,b2,b3,b4,b5',b6⟩:=hRm.env.below
      have nbo:¬InB v' bo:=fun e=>by have:=nb _ e;omega
      have M7:Mod (fun q=>q=bo∨InB v' q) W (w6.setCell ⟨bo,0,none⟩ v2):=((hEa.mod _).trans (hM2.mono (fun _ _ h=> .inr h))).set (a:=⟨bo,0,none⟩) (.inl (.inl rfl)) v2
      have hB6:Blk w6 bo #[v'] 76:=(g1.ext hEa).mod hM2 nbo
      have hB7:Blk (w6.setCell ⟨bo,0,none⟩ v2) bo #[v2] 76:=hB6.set 0 v2
      have nbo2:¬InB v2 bo:=fun e=>by
       rcases hnew _ e with h|h
       ·exact nbo h
       ·have:=hRm.env.room;have:=hEa.size;omega
      have hQ7:QU spC 2 base (w6.setCell ⟨bo,0,none⟩ v2) v2 (L++[((d':Int),h')]):=hq2.mod (S:=fun q=>q=bo) ((Mod.refl (fun q=>q=bo) w6).set (a:=⟨bo,0,none⟩) (.inl rfl) v2) (fun q hq e=>nbo2 (e▸hq))
      have hK7:KeepsOthers W (w6.setCell ⟨bo,0,none⟩ v2):=((ext_others hEa).trans hko).trans (Qh w6 ⟨bo,0,none⟩ v2)
      have E7:=hRm.env.mod M7 (fun q e=>by rcases e with e|e;exact .inl e;exact .inr (.inr (nb q e)))
      have D7:=hD2.mod M7 (by rintro(e|e);exact hRm.env.ne.2.2.2.2.1 e;have:=nb _ e;omega)
      have hms:m+cost k≤10^17:=by have:=HNN.out;unfold cost at this;rw[Nat.add_mul]at hm1;omega
      have HCALL:=Qa (HIH.out (L++[((d':Int),h')]) d' m v2 _ (by simp;omega) (before_snoc L ((d':Int),h')).symm hgood hms E7 hB7 hQ7 D7)
      have day7:=hRm.day.mod M7 (by rintro(e|e);(have:=HRS.out.far;have:=HB.out;omega);exact g6 e)
      have spot7:=hRm.spot.mod M7 (by rintro(e|e);(have:=HB.out;omega);exact g4 e)
      have res7:=hRm.res.mod M7 (by rintro(e|e);(have:=HB.out;omega);exact g5 e)
      have self7:=E7.self
      have HG7:=Qa (⟨M7,hK7,hnew,res7⟩:Mod (fun q=>q=bo∨InB v' q) W (w6.setCell ⟨bo,0,none⟩ v2)∧KeepsOthers W (w6.setCell ⟨bo,0,none⟩ v2)∧(∀ q,InB v2 q→InB v' q∨(W.alloc (.cells #[.int .i64 (d':Int),.int .i64 h'] 35)).heap.size≤q)∧Blk (w6.setCell ⟨bo,0,none⟩ v2) (n0+1) #[.bool false] 4)
      have HV:=Qa (⟨g2,g3,g4,g5,g6⟩:QU spC 2 base W v' L∧(∀ q,InB v' q→InB v q∨w.heap.size≤q)∧¬InB v' n0∧¬InB v' (n0+1)∧¬InB v' b)
      have HNI:=Qa (⟨by
       rintro(e|e|e)
       ·have:=HB.out;omega
       ·have:=HB.out;omega
       ·rcases hnew _ e with h|h
        ·exact g5 h
        ·have:=hRm.res.lt;have:=hEa.size;omega,trivial⟩:¬(n0+1=bo∨n0+1=bM∨InB v2 (n0+1))∧True)
      have HRM2:=Qa hRm
      have HMW:=Qa hMW
      have HM1:=Qa hm1
      have HGD:=Qa hgood
      obtain⟨a9,c9,hv2⟩:=hq2.shape
      obtain⟨a8,c8,hv'⟩:=g2.shape
      have k4:=g1.cell
      have k5:=g1.lt
      have k6:=hB6.cell
      have k7:=hB6.lt
      have k8:=hB6.free
      have k9:=day7.cell
      have k10:=day7.lt
      have k11:=spot7.cell
      have k12:=spot7.lt
      have k13:=self7.cell
      have k14:=self7.lt
      clear g2 g3 g4 g5 g6 hD1 hD2 hsu hcall hgood M7 hB7 hQ7 hK7 E7 D7 hms day7 spot7 res7 self7 nb nbo nbo2 hnew hq2 hM2 hRm hMW g1 hB6 hm1 b1 b2 b3 b4 b5' b6 hpy hll hEa hko
      subst hv2 hv'
      rw[List.length_append,List.length_singleton]at *
      gi_wp2_with (first|(gi_at_builtin;refine wpListIn_append_run _ rfl _ _ _ _ rfl _ _ rfl rfl _ _ hrun ?_)|(refine⟨trivial,?_⟩;gi_at_call 84;refine(callsIn_wide.2 HCALL.out).mono ?_;rintro e w8 ⟨b8,v3,L3,rfl,h81,h82,h83,h84,h85,h86,h87,h88⟩;have res8:=HG7.out.2.2.2.mod h86 (fun e9=>HNI.out.1 e9);have m0:=res8.cell;have m1:=res8.lt;have m2:=res8.free;have HD8:=Qa h85;have H8:=Qa (⟨h82,h83,h86,h87,h88⟩:QU spC 2 base w8 v3 ((L++[((d':Int),h')])++L3)∧(b8=true→L3.length=k∧Good p lo hi ((L++[((d':Int),h')])++L3))∧Mod (fun q=>q=bo∨q=bM∨InB (.slice a9 (L.length+1) c9) q) (w6.setCell ⟨bo,0,none⟩ (.slice a9 (L.length+1) c9)) w8∧(∀ q,InB v3 q→InB (.slice a9 (L.length+1) c9) q∨(w6.setCell ⟨bo,0,none⟩ (.slice a9 (L.length+1) c9)).heap.size≤q)∧KeepsM bM (w6.setCell ⟨bo,0,none⟩ (.slice a9 (L.length+1) c9)) w8);(clear h82 h83 h85 h86 h87 h88 res8 k4 k5 k6 k7 k8 k9 k10 k11 k12 k13 k14);cases b8;obtain rfl:=h84 rfl;obtain⟨g3,o3,c3,hv3,hc3⟩:=QU.snoc_shape (by have:=H8.out.1;rwa[List.append_nil]at this:QU spC 2 base w8 v3 (L++[((d':Int),h')]));subst hv3;have m3:=h81.cell;have m4:=h81.lt;have m5:=h81.free))
      ·obtain⟨a1,a2,a3,a4,a5⟩:=H8.out
       obtain⟨r1,r2,r3,r4⟩:=HG7.out
       obtain⟨M9,V9,K9⟩:=round_after r1 r2 r3 (by simp) a3 a4 a5
       obtain⟨s1,s2,s3,s4,s5⟩:=HV.out
       rw[List.append_nil]at a1
       have nbo3:¬InB (.slice (some ⟨g3,o3,none⟩) (L.length+1) c3) bo:=fun e=>by
        have:=(a1.lt e).1;have:=HRM2.out.env.below;omega
       have hq8:=a1.back.1.mod (S:=fun q=>q=bo) ((Mod.refl (fun q=>q=bo) w8).set (a:=⟨bo,0,none⟩) (.inl rfl) (.slice (some ⟨g3,o3,none⟩) L.length c3)) (fun q hq e=>nbo3 (by rw[← e];obtain⟨_,_,_,e2⟩:=hq;cases e2;exact⟨_,_,_,rfl⟩))
       have K10:=K9.trans (KeepsM.of (Qh w8 ⟨bo,0,none⟩ (.slice (some ⟨g3,o3,none⟩) L.length c3)))
       have M10:=M9.set (a:=⟨bo,0,none⟩) (.inl (.inl rfl)) (.slice (some ⟨g3,o3,none⟩) L.length c3)
       have hb:=HB.out
       have hn:=HN0.out
       have hz:=HZ5.out
       refine⟨K10.from M10.size (by omega),Marks.keepsM HMW.out K10 hb.1,.inl ⟨rfl,?_⟩⟩
       refine HRM2.out.grown s1 s2 s3 s4 s5 M10 K10 (h81.set 0 _) hq8 (fun q hq=>V9 q (by obtain⟨_,_,_,e2⟩:=hq;cases e2;exact⟨_,_,_,rfl⟩)) (HD8.out.mod ((Mod.refl (fun q=>q=bo) w8).set (a:=⟨bo,0,none⟩) (.inl rfl) _) (HRM2.out.env.ne.2.2.2.2.1)) ?_ hb.2 hb.1 hn
       have:=HM1.out
       rw[Nat.add_mul]at this
       omega
      ·obtain⟨a1,a2,a3,a4,a5⟩:=H8.out
       obtain⟨r1,r2,r3,r4⟩:=HG7.out
       obtain⟨M9,V9,K9⟩:=round_after r1 r2 r3 (by simp) a3 a4 a5
       obtain⟨s1,s2,s3,s4,s5⟩:=HV.out
       have hb:=HB.out
       have hn:=HN0.out
       have hz:=HZ5.out
       have hrs:=HRM2.out.res.lt
       have K10:=K9.trans (KeepsM.of (Qh w8 ⟨n0+1,0,none⟩ (.bool true)))
       have SM:Mod (fun q=>q=n0+1) w8 (w8.setCell ⟨n0+1,0,none⟩ (.bool true)):=(Mod.refl (fun q=>q=n0+1) w8).set (a:=⟨n0+1,0,none⟩) (.inl rfl) _
       have hwW:=HRM2.out.mod.size
       have nr3:¬InB v3 (n0+1):=fun e=>by
        rcases V9 _ e with e|e
        ·exact s4 e
        ·omega
       refine⟨K10.from (Nat.le_trans M9.size SM.size) (by omega),Marks.keepsM HMW.out K10 hb.1,.inr ⟨rfl,(r4.mod a3 HNI.out.1).set 0 _,⟨v3,[((d':Int),h')]++L3,h81.mod SM (by omega),?_,?_,?_,fun q e=> ?_⟩,?_,?_,HRM2.out.keeps.trans K10⟩⟩
       ·rw[← List.append_assoc]
        exact a1.mod SM (fun q hq e=>nr3 (by rw[← e];exact hq))
       ·rw[List.length_append,List.length_singleton,(a2 trivial).1];omega
       ·rw[← List.append_assoc];exact(a2 trivial).2
       ·rcases V9 q e with e|e
        ·exact s2 q e
        ·exact .inr (by omega)
       ·refine(HD8.out.mod SM (by omega)).mono ?_
        have:=HM1.out
        show m+cost k≤n+(1+60*cost k)
        rw[Nat.add_mul]at this
        omega
       ·refine Mod.chain (Mod.chain HRM2.out.mod M9 (fun q hq e=> ?_)) SM (fun q hq e=>by omega)
        rcases e with e|e|e
        ·exact .inl e
        ·exact .inr (.inl e)
        ·rcases s2 q e with e|e
         ·exact .inr (.inr e)
         ·omega
     ·have hdyb:((d':Int) != (y:Int))=true:=by simpa using hdy
      gi_wp2
      exact⟨KeepsFrom.refl _ _,hMW,.inl ⟨rfl,hRm⟩⟩
    case done =>
     rintro D' Y hD' hE hK
     have hRm:=HRM.out.ext hE
     have hM7:=HM5.out.push (HM5.out.ext hE) hD' (by have:=HZ5.out;have:=HN0.out;omega) hK
     have hnx:=hRm.next (by omega) (by omega)
     have k2:=hRm.day.cell
     have k3:=hRm.day.lt
     gi_wp2
     refine⟨j1,[.pointer (some ⟨Y.heap.size,0,none⟩),?a21,?a22,?a23,?a24,?a25,?a26,?a27,?a28,?a29,?a30,?a31,?a32,?a33,?a34,?a35,?a36,?a37,?a38,?a60],?lt,?fr,?mk,?rel⟩
     case fr =>
      simp only[setAll,Qe,Qf,Qg]
      all_goals exact rfl
     case lt=>omega
     case mk=>exact hM7.ext ((Qc Y).alloc _)
     case rel=>exact⟨Y.heap.size,y+1,_,_,_,_,_,_,_,_,_,_,_,_,_,_,_,_,_,_,_,rfl,hnx⟩
    case stop =>
     rintro D' c Y hD' ⟨hMY,hc⟩ hK
     have hM7:=HM5.out.push hMY hD' (by have:=HZ5.out;have:=HN0.out;omega) hK
     rcases hc with⟨rfl,hRm⟩|⟨rfl,hFt⟩
     ·have hnx:=hRm.next (by omega) (by omega)
      have k2:=hRm.day.cell
      have k3:=hRm.day.lt
      gi_wp2
      refine⟨j1,[.pointer (some ⟨Y.heap.size,0,none⟩),?a21,?a22,?a23,?a24,?a25,?a26,?a27,?a28,?a29,?a30,?a31,?a32,?a33,?a34,?a35,?a36,?a37,?a38,?a60],?lt,?fr,?mk,?rel⟩
      case fr =>
       simp only[setAll,Qe,Qf,Qg]
       all_goals exact rfl
      case lt=>omega
      case mk=>exact hM7.ext ((Qc Y).alloc _)
      case rel=>exact⟨Y.heap.size,y+1,_,_,_,_,_,_,_,_,_,_,_,_,_,_,_,_,_,_,_,rfl,hnx⟩
     ·gi_wp2
      refine HR.out _ _ ?_
      refine leaves_marks hM7 (fun w' hSh=> ?_)
      have q0:=(hSh.blk hFt.res).cell
      have q1:=(hSh.blk hFt.res).lt
      exact⟨.bool true,by simp[results,Tryz.results84,go_sem,q0,q1],hFt.found HN0.out HB.out.1 hSh⟩
   ·have hys':(p.swell.length:Int)≤(y:Int):=by omega
    obtain⟨m,hD2,hm⟩:=HRS.out.dead
    obtain⟨w3,hup,hD3,hM3⟩:=hD2.put (a:=(d:Int)) (c:=(k:Int)+1) (by have:=HNN.out;unfold maxLen;unfold cost at this;omega) (by omega) (by omega) (by omega) (by omega)
    have k8:=HRS.out.env.dead.cell
    have k9:=HRS.out.env.dead.lt
    have hbM:bM<n0:=by have:=HD.out.lt;have:=HN0.out;omega
    have hR3:=HRS.out.res.mod hM3 (by omega)
    have k10:=hR3.cell
    have k11:=hR3.lt
    have k12:=hR3.free
    gi_wp2
    refine HR.out _ _ ?_
    have hM4:Marks n0 ds (w3.setCell ⟨n0+1,0,none⟩ (.bool false)):=(Marks.mod hMx.out hM3 (fun q e=>by omega)).set _ _
    have hR4:=hR3.set 0 (.bool false)
    refine leaves_marks hM4 (fun w' hS=> ?_)
    have q0:=(hS.blk hR4).cell
    have q1:=(hS.blk hR4).lt
    refine⟨.bool false,by simp[results,Tryz.results84,go_sem,q0,q1],none_found HRS.out hD3 hM3 (by unfold cost;omega) HN0.out hbM (by have:=hO.lt;have:=HN0.out;omega) _ hS⟩
  ·have hy':(d:Int)+hi<(y:Int):=by omega
   obtain⟨m,hD2,hm⟩:=HRS.out.dead
   obtain⟨w3,hup,hD3,hM3⟩:=hD2.put (a:=(d:Int)) (c:=(k:Int)+1) (by have:=HNN.out;unfold maxLen;unfold cost at this;omega) (by omega) (by omega) (by omega) (by omega)
   have k8:=HRS.out.env.dead.cell
   have k9:=HRS.out.env.dead.lt
   have hbM:bM<n0:=by have:=HD.out.lt;have:=HN0.out;omega
   have hR3:=HRS.out.res.mod hM3 (by omega)
   have k10:=hR3.cell
   have k11:=hR3.lt
   have k12:=hR3.free
   gi_wp2
   refine HR.out _ _ ?_
   have hM4:Marks n0 ds (w3.setCell ⟨n0+1,0,none⟩ (.bool false)):=(Marks.mod hMx.out hM3 (fun q e=>by omega)).set _ _
   have hR4:=hR3.set 0 (.bool false)
   refine leaves_marks hM4 (fun w' hS=> ?_)
   have q0:=(hS.blk hR4).cell
   have q1:=(hS.blk hR4).lt
   refine⟨.bool false,by simp[results,Tryz.results84,go_sem,q0,q1],none_found HRS.out hD3 hM3 (by unfold cost;omega) HN0.out hbM (by have:=hO.lt;have:=HN0.out;omega) _ hS⟩
end Go.Proofs.YtgloajbgphcloaaGreat.Sh
