/- The fleet: the iterator over the bids of a sale. The fleet: whether a zone is oversold on a day. The fleet: the best sale. -/
import Derived.Test.YtgloajbgphcloaaGreatFlA
import Derived.Test.YtgloajbgphcloaaGreatRg
import Derived.Test.YtgloajbgphcloaaGreatDr
import Derived.RangeFuncBound
import Derived.RangeFuncCalls
import Derived.RangeFuncNested
import Derived.RangeFuncLeaves
import Derived.Shelf.Abstract
import Derived.OwnWalkIn
import Derived.TacticsInMore
import Derived.LoopNIn
import Derived.LoopIn
import Derived.Laws.EntriesVeiled
namespace Go.Proofs.YtgloajbgphcloaaGreat.Fl
set_option linter.unusedVariables false
set_option linter.unusedSimpArgs false
open Go.RowKit Go.Shelf
open Ext renaming setCell → Qa, trans → Qb
open Lib renaming hid → Qc
attribute [local go_sem] Oper.semAt_some
theorem sold_any (s:Sea) (vr vz vb vl:Value) (sale:Int) (w:World) :
  Calls Tryz.prog 112 #[.agg (mktV s vr vz vb vl),.int .i64 sale] w fun e w'=>e= .returned (.func (.func 183) #[] #[.pointer (some ⟨w.heap.size,0,none⟩),.pointer (some ⟨w.heap.size+1,0,none⟩)])∧Blk w' w.heap.size (mktV s vr vz vb vl) 234∧Blk w' (w.heap.size+1) #[.int .i64 sale] 3∧Ext w w':=by
 go_enter Tryz.func112,Tryz.ntmps112
 go_wp2
 go_ret
 exact⟨rfl,(Blk.new' rfl _ _).alloc _,Blk.new' (by simp) _ _,by(with_reducible(repeat(first|exact Ext.refl _|assumption|apply Ext.alloc|apply Ext.drew|exact ext_plus _ _|(apply Qa;rotate_left;(simp<;>omega))|(apply Qb;rotate_left;exact ext_plus _ _)|(apply Qb;rotate_left;assumption))))⟩
def soldTo (l:List Bid) (sale k:Nat):List Bid:=(cellsTo sale k).map fun i=>l.getD i default
theorem soldTo_succ (l:List Bid) (sale k:Nat):soldTo l sale (k+1)=soldTo l sale k++if sale.testBit k then [l.getD k default]else []:=by
 unfold soldTo;rw[cellsTo_succ,List.map_append];by_cases h:sale.testBit k=true<;>simp[h]
theorem soldTo_all (l:List Bid) (sale:Nat):soldTo l sale l.length=soldL l sale:=rfl
theorem soldTo_pre (l:List Bid) (sale:Nat) {k:Nat} (h:k≤l.length):soldTo l sale k <+: soldL l sale:=by
 unfold soldL soldTo
 refine List.IsPrefix.map _ ?_
 unfold cellsTo
 refine List.IsPrefix.filter _ ⟨List.range' k (l.length - k),?_⟩
 rw[List.range_eq_range',List.range_eq_range']
 have h2:=List.range'_append_1 (s:=0) (m:=k) (n:=l.length - k)
 rw[Nat.zero_add]at h2
 rw[h2]
 congr 1;omega
theorem bid_cells {w:World} {b o:Nat} {x:Bid} (h:AtE bidC w b o x):w.cell? ⟨b,o,none⟩=some (.int .i64 x.fleet)∧w.cell? ⟨b,o+1,none⟩=some (.int .i64 x.zone)∧w.cell? ⟨b,o+2,none⟩=some (.int .i64 x.start)∧w.cell? ⟨b,o+3,none⟩=some (.int .i64 x.days)∧w.cell? ⟨b,o+4,none⟩=some (.int .i64 x.price):=⟨h 0 _ rfl,h 1 _ rfl,h 2 _ rfl,h 3 _ rfl,h 4 _ rfl⟩
set_option maxRecDepth 100000 in
set_option maxHeartbeats 8000000 in
theorem sold_arg (s:Sea) (l:List Bid) (vr vz vb vl:Value) (sale:Nat) (hs:sale<2^62) (hl:l.length≤60) (w1:World) (bm bs n:Nat) (hn1:1≤n) :
  SeqArg Fence.wide n Tryz.prog 183 #[.pointer (some ⟨bm,0,none⟩),.pointer (some ⟨bs,0,none⟩)] (fun W=>Blk W bm (mktV s vr vz vb vl) 234∧Blk W bs #[.int .i64 (sale:Int)] 3∧Bids W vl l) (fun k e _=>∃b,(soldL l sale)[k]? =some b∧e=#[.agg (bidV b)]) (soldL l sale).length w1:=by
 intro l0 J Jx W hW hInv hJ hY h0
 obtain⟨hB0,_,hL0⟩:=hInv 0 W h0
 obtain⟨al,cl,hvl,_⟩:=hL0
 subst hvl
 have HY:=Qc hY
 have HINV:=Qc hInv
 have HJ:=Qc hJ
 have HS:=Qc (fun c=>has_nat (s:=sale) hs c)
 have HALL:=Qc (soldTo_all l sale)
 clear hY hInv hJ hs
 have k0:=hB0.cell
 have k1:=hB0.lt
 refine callsIn_of_wp Tryz.func183 rfl trivial ?_ rfl
 simp only[Tryz.ntmps183,List.size_toArray,List.length_cons,List.length_nil,Nat.reduceAdd,Nat.reduceSub,Array.replicate_succ,Array.replicate_zero,List.push_toArray,List.append_toArray,List.nil_append,List.cons_append]
 gi_wp2
 clear k0 k1 hB0
 gi_loopw [9] (fun i' wr=>∃k:Nat,k≤l.length∧i'= .int .i64 k∧J (soldTo l sale k).length wr) (fun i' _=>l.length - (intOf i').toNat)
 case atStart=>exact⟨0,Nat.zero_le _,rfl,h0⟩
 case round =>
  rename World=>wr
  obtain⟨k,hk,rfl,hJk⟩:=hrel
  obtain⟨_,hB,hL⟩:=HINV.out _ _ hJk
  have k0:=hB.cell
  have k1:=hB.lt
  by_cases hlt:k<l.length
  ·obtain⟨al',cl',hv,hx⟩:=hL
   cases hv
   obtain⟨bb,off,rfl,hbb,hAt⟩:=hx k hlt
   obtain⟨q0,q1,q2,q3,q4⟩:=bid_cells hAt
   have hsu:=soldTo_succ l sale k
   have hd:l.getD k default=l[k]:=by simp[List.getD_eq_getElem?_getD,hlt]
   rw[hd]at hsu
   have hh:=HS.out k
   obtain⟨x,hxx⟩:∃x,l[k]=x:=⟨_,rfl⟩
   rw[hxx]at hsu q0 q1 q2 q3 q4
   obtain⟨B,hBB⟩:∃B,sale.testBit k=B:=⟨_,rfl⟩
   rw[hBB]at hsu hh
   have HSU:=Qc hsu
   clear hsu hBB hx hAt hd hxx
   cases B with
   | false =>
    have hh':bits .and .i64 ((sale:Int)/2^k) 1=0:=hh
    clear hh
    gi_wp2
    refine⟨fun _ h=>(by cases h),?_⟩
    gi_wp2
    go_roundw
    case rel=>exact⟨k+1,by omega,by go_num,by rw[HSU.out];simpa using HJ.out _ _ _ hJk (by(with_reducible(repeat(first|exact Ext.refl _|assumption|apply Ext.alloc|apply Ext.drew|exact ext_plus _ _|(apply Qa;rotate_left;(simp<;>omega))|(apply Qb;rotate_left;exact ext_plus _ _)|(apply Qb;rotate_left;assumption)))))⟩
    case measure=>simp[intOf];omega
   | true =>
    have hh':bits .and .i64 ((sale:Int)/2^k) 1=1:=hh
    clear hh
    have hpre:=soldTo_pre l sale (k:=k+1) (by omega)
    have hlen:(soldTo l sale k).length<(soldL l sale).length:=by
     have h1:=hpre.length_le
     rw[HSU.out]at h1
     simp at h1;omega
    have hget:(soldL l sale)[(soldTo l sale k).length]? =some x:=by
     obtain⟨r,hr⟩:=hpre
     rw[← hr,HSU.out]
     simp
    have HGET:=Qc hget
    have HLEN:=Qc hlen
    clear hpre hlen hget
    obtain⟨fn,tmps,assign,body,hy,hR⟩:=HY.out (soldTo l sale k).length #[.agg #[.int .i64 x.fleet,.int .i64 x.zone,.int .i64 x.start,.int .i64 x.days,.int .i64 x.price]] (wr.alloc (.cells #[.int .i64 x.fleet,.int .i64 x.zone,.int .i64 x.start,.int .i64 x.days,.int .i64 x.price] 225)) HLEN.out (HJ.out _ _ _ hJk (by(with_reducible(repeat(first|exact Ext.refl _|assumption|apply Ext.alloc|apply Ext.drew|exact ext_plus _ _|(apply Qa;rotate_left;(simp<;>omega))|(apply Qb;rotate_left;exact ext_plus _ _)|(apply Qb;rotate_left;assumption)))))) ⟨x,HGET.out,rfl⟩
    gi_wp2
    refine hR.mono ?_
    rintro e W3 (⟨rfl,hJ3⟩|⟨rfl,hJx3⟩)
    ·gi_wp2
     go_roundw
     case rel=>exact⟨k+1,by omega,by go_num,by rw[HSU.out];simpa using hJ3⟩
     case measure=>simp[intOf];omega
    ·gi_wp2
     refine bodyPost_ret (results_none rfl _ _ _) rfl ?_
     exact⟨⟨_,rfl⟩,.inr hJx3⟩
  ·obtain rfl:k=l.length:=by omega
   gi_wp2
   go_end0
   rw[HALL.out]at hJk
   exact⟨⟨_,rfl⟩,.inl hJk⟩
end Go.Proofs.YtgloajbgphcloaaGreat.Fl
namespace Go.Proofs.YtgloajbgphcloaaGreat.Fl
set_option linter.unusedVariables false
set_option linter.unusedSimpArgs false
open Go.RowKit Go.Shelf
open Blk renaming new' → Qd
open Ext renaming refl → Qe, trans → Qb
open Lib renaming hid → Qc
open List renaming setIfInBounds_toArray → Qf, set_cons_succ → Qh, set_cons_zero → Qg
open Nat renaming le_refl → Qi
attribute [local go_sem] Oper.semAt_some
theorem any_range_succ (p:Nat→Bool) (k:Nat):(List.range (k+1)).any p=((List.range k).any p||p k):=by
 rw[List.range_succ,List.any_append];simp
structure NoneTo (p:Nat→Bool) (k:Nat):Prop where
 out:(List.range k).any p=false
theorem any_range_hit {p:Nat→Bool} {k n:Nat} (hk:k<n) (h:p k=true):(List.range n).any p=true:=by
 rw[List.any_eq_true];exact⟨k,List.mem_range.2 hk,h⟩
theorem count_step {α:Type} (p:α→Bool) (l:List α) {k:Nat} {x:α} (h:l[k]? =some x):(l.take (k+1)).countP p=(l.take k).countP p+if p x=true then 1 else 0:=by
 obtain⟨hk,rfl⟩:=List.getElem?_eq_some_iff.1 h
 rw[List.take_succ_eq_append_getElem hk,List.countP_append,List.countP_singleton]
theorem count_le {α:Type} (p:α→Bool) (l:List α) (k:Nat):(l.take k).countP p≤l.length:=Nat.le_trans List.countP_le_length (by rw[List.length_take];omega)
theorem soldL_len (l:List Bid) (sale:Nat):(soldL l sale).length≤l.length:=by
 unfold soldL;rw[List.length_map];exact cellsTo_len _ _
theorem soldL_mem {l:List Bid} {sale k:Nat} {b:Bid} (h:(soldL l sale)[k]? =some b):b∈l:=by
 have h:=List.mem_of_getElem? h
 unfold soldL at h
 obtain⟨i,hi,rfl⟩:=List.mem_map.1 h
 have hl:=(mem_cellsTo.1 hi).1
 simp[List.getD_eq_getElem?_getD,hl]
theorem sold_le (l:List Bid) (sale:Nat) (z d:Int):sold l sale z d≤l.length:=Nat.le_trans List.countP_le_length (soldL_len l sale)
def AxB (l:List Bid) (sale m:Nat) (TM:Bid→Nat→Array Value) (k:Nat) (_:Array Value) (a':Act) (W:World):Prop :=
 ∃b bb,(soldL l sale)[k]? =some b∧Blk W bb (bidV b) 225∧m<bb∧a'= { tmps:=TM b bb,defers:=[] }
theorem AxB.own (l:List Bid) (sale m B':Nat) (TM:Bid→Nat→Array Value) (k:Nat) (e:Array Value):OwnFrom B' (AxB l sale m TM k e):=by
 rintro a' A Y row ⟨b,bb,h1,h2,h3,h4⟩ hg hr
 exact⟨b,bb,h1,h2.kept hg (fun r e=>(hr r e).2),h3,h4⟩
set_option maxRecDepth 100000 in
set_option maxHeartbeats 8000000 in
theorem oversold_any (s:Sea) (l:List Bid) (vr vz vb vl:Value) (sale:Nat) (w:World) (O:Ok s) (hs:sale<2^62) (hl:l.length≤10) (hBO:∀b∈l,BidOk s b) (hB:Ints w vb s.berths) (hL:Bids w vl l) :
  Calls Tryz.prog 113 #[.agg (mktV s vr vz vb vl),.int .i64 (sale:Int)] w fun e w'=>∃p q:Int,e= .returned (.tuple #[.agg #[.int .i64 p,.int .i64 q],.bool (over s l sale)])∧Ext w w':=by
 have HL:=Qc (fun W hE=>hL.ext (w':=W) hE)
 have HSOLD:=Qc (fun W=>sold_any s vr vz vb vl (sale:Int) W)
 obtain⟨ab,cb,rfl,hxb⟩:=hB
 have HXB:=Qc hxb
 have HO:=Qc O
 have HBO:=Qc hBO
 have HS:=Qc hs
 have hbn:s.berths.length≤3:=by have:=O.berthsN;have:=O.zonesN;omega
 have hdy:=O.days
 have hdn:(s.days.toNat:Int)=s.days:=by omega
 have hov:over s l sale=(List.range s.berths.length).any (zoneOver s l sale):=rfl
 have HOV:=Qc hov
 have HSA:=Qc (fun w1 bm bs=>sold_arg s l vr vz (.slice ab s.berths.length cb) vl sale hs (by omega) w1 bm bs 4 (by omega))
 clear hxb hL O hBO hs hov
 refine(callsIn_wide (n:=5)).1 ?_
 refine callsIn_of_wp_marks Tryz.func113 rfl trivial ?_ rfl
 simp only[Tryz.ntmps113,List.size_toArray,List.length_cons,List.length_nil,Nat.reduceAdd,Nat.reduceSub,Array.replicate_succ,Array.replicate_zero,List.push_toArray,List.append_toArray,List.nil_append,List.cons_append]
 gi_wp2
 obtain⟨n0,hn0⟩:∃n,w.heap.size=n:=⟨_,rfl⟩
 obtain⟨w1,hw1⟩:∃y,(w.alloc (.cells (mktV s vr vz (.slice ab s.berths.length cb) vl) 234)).alloc (.cells #[.int .i64 0,.int .i64 0] 239)=y:=⟨_,rfl⟩
 have hV:Blk w1 n0 (mktV s vr vz (.slice ab s.berths.length cb) vl) 234:=by rw[← hw1];exact(Qd hn0.symm _ _).alloc _
 have hP:Blk w1 (n0+1) #[.int .i64 0,.int .i64 0] 239:=by rw[← hw1];exact Qd (by simp[hn0]) _ _
 have hE1:Ext w w1:=by rw[← hw1];(with_reducible(repeat(first|exact Qe _|assumption|apply Ext.alloc|apply Ext.drew|exact ext_plus _ _|(apply Ext.setCell;rotate_left;(simp<;>omega))|(apply Qb;rotate_left;exact ext_plus _ _)|(apply Qb;rotate_left;assumption))))
 simp only[hw1,hn0]
 have HN0:=Qc hn0
 clear hw1 hn0
 refine wpIn_loop_marks n0 [15,6,7,8,9,10,16,17,18,19,20,21,22,23,24,25,26,27,28,29,30,31,32,33,34,35,36,37,38,39,40,41,42,43] [.int .i64 0,undef,undef,undef,undef,undef,undef,undef,undef,undef,undef,undef,undef,undef,undef,undef,undef,undef,undef,undef,undef,undef,undef,undef,undef,undef,undef,undef,undef,undef,undef,undef,undef,undef]
  (fun j vs wr=>∃(k:Nat) (u6 u7 u8 u9 u10 u16 u17 u18 u19 u20 u21 u22 u23 u24 u25 u26 u27 u28 u29 u30 u31 u32 u33 u34 u35 u36 u37 u38 u39 u40 u41 u42 u43:Value),vs=[.int .i64 (k:Int),u6,u7,u8,u9,u10,u16,u17,u18,u19,u20,u21,u22,u23,u24,u25,u26,u27,u28,u29,u30,u31,u32,u33,u34,u35,u36,u37,u38,u39,u40,u41,u42,u43]∧j+k=s.berths.length∧NoneTo (zoneOver s l sale) k∧Blk wr n0 (mktV s vr vz (.slice ab s.berths.length cb) vl) 234∧Blk wr (n0+1) #[.int .i64 0,.int .i64 0] 239∧Ext w wr)
  s.berths.length (Marks.nil _ _) (by simp only[setAll,Qf,Qg,Qh]) ⟨0,undef,undef,undef,undef,undef,undef,undef,undef,undef,undef,undef,undef,undef,undef,undef,undef,undef,undef,undef,undef,undef,undef,undef,undef,undef,undef,undef,undef,undef,undef,undef,undef,undef,rfl,rfl,⟨rfl⟩,hV,hP,hE1⟩ ?_
 clear hV hP hE1
 rintro j ds vs wr hM ⟨k,u6,u7,u8,u9,u10,u16,u17,u18,u19,u20,u21,u22,u23,u24,u25,u26,u27,u28,u29,u30,u31,u32,u33,u34,u35,u36,u37,u38,u39,u40,u41,u42,u43,rfl,hjk,hg,hV,hP,hE⟩
 simp only[setAll,Qf,Qg,Qh]
 have HG:=Qc hg.out
 have hMx:=Qc hM
 clear hg
 have k0:=hV.cell
 have k1:=hV.lt
 by_cases hlt:k<s.berths.length
 ·obtain⟨b8,off,rfl,hb8,hc8⟩:=HXB.out k hlt
  have hc8':=(hE.cells.1 _ _ hb8).trans hc8
  have hbl:=Nat.lt_of_lt_of_le hb8 hE.size
  have hib:iat s.berths k=s.berths[k]:=by simp[iat,List.getD_eq_getElem?_getD,hlt]
  have hbd:=HO.out.berths _ (List.getElem_mem hlt)
  rw[← hib]at hc8' hbd
  obtain⟨BE,hBE⟩:∃BE,iat s.berths k=BE:=⟨_,rfl⟩
  rw[hBE]at hc8' hbd
  have HBE:=Qc hBE
  clear hc8 hib hBE
  gi_wp2
  obtain⟨bz,hbz⟩:∃n,wr.heap.size=n:=⟨_,rfl⟩
  obtain⟨w2,hw2⟩:∃y,wr.alloc (.cells #[.int .i64 (k:Int)] 3)=y:=⟨_,rfl⟩
  have hE2:Ext wr w2:=by rw[← hw2];(with_reducible(repeat(first|exact Qe _|assumption|apply Ext.alloc|apply Ext.drew|exact ext_plus _ _|(apply Ext.setCell;rotate_left;(simp<;>omega))|(apply Qb;rotate_left;exact ext_plus _ _)|(apply Qb;rotate_left;assumption))))
  have hZ2:Blk w2 bz #[.int .i64 (k:Int)] 3:=by rw[← hw2];exact Qd hbz.symm _ _
  have hV2:=hV.ext hE2
  have hP2:=hP.ext hE2
  have hM2:=hM.ext hE2
  have hEw2:=hE.trans hE2
  have hbzn:n0+1<bz:=by rw[← hbz];exact hP.lt
  simp only[hw2,hbz]
  clear hw2 hbz k0 k1 hV hP hM hMx hE hE2 hc8' hbl
  refine wpIn_loop_marks n0 [23,8,9,10,24,25,26,27,28,29,30,31,32,33,34,35,36,37,38,39,40,41,42] [.int .i64 0,u8,u9,u10,u24,u25,u26,u27,u28,u29,u30,u31,u32,u33,u34,u35,u36,u37,u38,u39,u40,u41,u42]
   (fun j2 vs wy=>∃(d:Nat) (y8 y9 y10 y24 y25 y26 y27 y28 y29 y30 y31 y32 y33 y34 y35 y36 y37 y38 y39 y40 y41 y42:Value),vs=[.int .i64 (d:Int),y8,y9,y10,y24,y25,y26,y27,y28,y29,y30,y31,y32,y33,y34,y35,y36,y37,y38,y39,y40,y41,y42]∧j2+d=s.days.toNat∧NoneTo (dayOver s l sale k) d∧Blk wy n0 (mktV s vr vz (.slice (some ⟨b8,off,none⟩) s.berths.length cb) vl) 234∧Blk wy (n0+1) #[.int .i64 0,.int .i64 0] 239∧Blk wy bz #[.int .i64 (k:Int)] 3∧Ext w wy)
   s.days.toNat hM2 (by simp only[setAll,Qf,Qg,Qh]) ⟨0,u8,u9,u10,u24,u25,u26,u27,u28,u29,u30,u31,u32,u33,u34,u35,u36,u37,u38,u39,u40,u41,u42,rfl,by omega,⟨rfl⟩,hV2,hP2,hZ2,hEw2⟩ ?_
  clear hV2 hP2 hZ2 hEw2 hM2 ds
  rintro j2 ds vs wy hM ⟨d,y8,y9,y10,y24,y25,y26,y27,y28,y29,y30,y31,y32,y33,y34,y35,y36,y37,y38,y39,y40,y41,y42,rfl,hjd,hg,hV,hP,hZ,hE⟩
  simp only[setAll,Qf,Qg,Qh]
  have HGD:=Qc hg.out
  clear hg
  have k0:=hV.cell
  have k1:=hV.lt
  have HJD:=Qc hjd
  by_cases hld:d<s.days.toNat
  ·have hdi:(d:Int)<s.days:=by omega
   gi_wp2_with (first|(refine⟨trivial,?_⟩;gi_at_call 112;refine(callsIn_wide.2 (HSOLD.out _)).mono ?_;rintro e w5 ⟨rfl,hX5,hS5,hE5⟩))
   obtain⟨bx,hbx⟩:∃n,((wy.alloc (.cells #[.int .i64 (d:Int)] 3)).alloc (.cells #[.int .i64 0] 3)).heap.size=n:=⟨_,rfl⟩
   obtain⟨bd,hbd'⟩:∃n,wy.heap.size=n:=⟨_,rfl⟩
   have hbd2:bx=bd+1+1:=by rw[← hbx,←hbd'];simp
   have hD5:Blk w5 bd #[.int .i64 (d:Int)] 3:=((Qd hbd'.symm _ _).alloc _).ext hE5
   have hC5:Blk w5 (bd+1) #[.int .i64 0] 3:=(Qd (by simp[hbd']) _ _).ext hE5
   have hEa:Ext wy w5:=((((Qe wy).alloc _).alloc _)).trans hE5
   rw[hbx]at hX5 hS5
   have hV5:=hV.ext hEa
   have hP5:=hP.ext hEa
   have hZ5:=hZ.ext hEa
   have hM5:=hM.ext hEa
   have hE5w:=hE.trans hEa
   have hnx:bz<bd:=by rw[← hbd'];exact hZ.lt
   have hz5:=hS5.lt
   simp only[World.size_alloc,hbd']
   rw[← hbd2]
   obtain⟨p,hp⟩:∃p:Bid→Bool,(fun b=>covers b (k:Int) (d:Int))=p:=⟨_,rfl⟩
   have hpp:∀b,covers b (k:Int) (d:Int)=p b:=fun b=>by rw[← hp]
   have hsd:((soldL l sale).countP p:Nat)=sold l sale k d:=by rw[← hp];rfl
   have HSD:=Qc hsd
   have HPP:=Qc hpp
   have HCP:=Qc (fun j=>count_le p (soldL l sale) j)
   have HSL:=Qc (soldL_len l sale)
   have HSM:=Qc (fun(j:Nat) (b:Bid) (h:(soldL l sale)[j]? =some b)=>soldL_mem h)
   clear k0 k1 hV hP hZ hM hE hE5 hEa hbx hbd' hp hpp hsd
   refine' wpIn_range_arg rfl (by omega) (gf:=183) rfl trivial (enters_of Tryz.func183 (by kernel_rfl) rfl)
    (HSA.out w5 bx (bx+1)) (by rintro q e W ⟨b,_,rfl⟩;rfl) (fun _ _ _ _ _ _ h _ _=>h)
    (fun q Y=>((Blk Y n0 (mktV s vr vz (.slice (some ⟨b8,off,none⟩) s.berths.length cb) vl) 234∧Blk Y (n0+1) #[.int .i64 0,.int .i64 0] 239∧Blk Y bz #[.int .i64 (k:Int)] 3∧Blk Y bd #[.int .i64 (d:Int)] 3∧Blk Y (bd+1) #[.int .i64 (((soldL l sale).take q).countP p:Nat)] 3∧Blk Y bx (mktV s vr vz (.slice (some ⟨b8,off,none⟩) s.berths.length cb) vl) 234∧Blk Y (bx+1) #[.int .i64 (sale:Int)] 3)∧Marks n0 ds Y)∧Ext w Y)
    (fun _ _=>False) ?own (fun _ _ _ _ h _ _=>h) ?ext (fun _ _ h=>⟨h.1.1.2.2.2.2.2.1,h.1.1.2.2.2.2.2.2,HL.out _ h.2⟩) ⟨⟨⟨hV5,hP5,hZ5,hD5,by rw[List.take_zero];exact hC5,hX5,hS5⟩,hM5⟩,hE5w⟩
    (AxB l sale (bx+1) _) (fun k e=>AxB.own _ _ _ _ _ _ _) ?assign ?body ?done (fun _ _ _ _ h _=>h.elim)
   case own =>
    refine OwnFrom.and (OwnFrom.and (fun k A B row h hg hr=> ?_) (ownFrom_marks hM5)) (ownFrom_below (Qi _) hE5w.size)
    have hr':=fun r e=>(hr r e).2
    exact⟨h.1.kept hg hr',h.2.1.kept hg hr',h.2.2.1.kept hg hr',h.2.2.2.1.kept hg hr',h.2.2.2.2.1.kept hg hr',h.2.2.2.2.2.1.kept hg hr',h.2.2.2.2.2.2.kept hg hr'⟩
   case ext =>
    rintro q A B ⟨⟨⟨h1,h2,h3,h4,h5,h6,h7⟩,h8⟩,h9⟩ hE
    exact⟨⟨⟨h1.ext hE,h2.ext hE,h3.ext hE,h4.ext hE,h5.ext hE,h6.ext hE,h7.ext hE⟩,h8.ext hE⟩,h9.trans hE⟩
   case assign =>
    rintro l' q e W K hq ⟨⟨⟨h1,h2,h3,h4,h5,h6,h7⟩,h8⟩,h9⟩ ⟨b,hb,rfl⟩ hK
    have hzW:=h7.lt
    gi_wp2
    obtain⟨bb,hbb⟩:∃n,W.heap.size=n:=⟨_,rfl⟩
    have hEa:Ext W (W.alloc (.cells (bidV b) 225)):=(Qe _).alloc _
    have hN:=Qd (w:=W) hbb.symm (bidV b) 225
    rw[hbb]at hzW ⊢
    refine hK _ _ (KeepsFrom.of_grownBy (ext_grown hEa) (fun j e=>by cases e)) ⟨⟨⟨h1.ext hEa,h2.ext hEa,h3.ext hEa,h4.ext hEa,h5.ext hEa,h6.ext hEa,h7.ext hEa⟩,h8.ext hEa⟩,h9.trans hEa⟩ ⟨b,hb,rfl⟩ ⟨b,bb,hb,hN,hzW,?_⟩
    refine(Act.mk.injEq _ _ _ _).mpr ⟨?_,rfl⟩
    exact rfl
   case body =>
    rintro l' q e a' W hl' hrec hq ⟨⟨⟨h1,h2,h3,h4,h5,h6,h7⟩,h8⟩,h9⟩ _ ⟨b,bb,hb,hbb,hbbn,rfl⟩
    have hcs:=count_step p (soldL l sale) hb
    have hcl:=HCP.out q
    have hsl:=HSL.out
    have hco:=covers_any s b (k:Int) (d:Int) W (HBO.out _ (HSM.out _ _ hb)) HO.out
    rw[HPP.out]at hco
    obtain⟨C0,hC0⟩:∃C,((soldL l sale).take q).countP p=C:=⟨_,rfl⟩
    rw[hC0]at hcs hcl h5
    obtain⟨B,hB⟩:∃B,p b=B:=⟨_,rfl⟩
    rw[hB]at hcs hco
    have HCS:=Qc hcs
    have HCO:=Qc hco
    clear hcs hco hC0 hB
    have k0:=hbb.cell
    have k1:=hbb.lt
    have k2:=h3.cell
    have k3:=h3.lt
    have k4:=h4.cell
    have k5:=h4.lt
    cases B with
    | false =>
     gi_wp2_with (first|(refine⟨trivial,?_⟩;gi_at_call 184;refine(callsIn_wide.2 HCO.out).mono ?_;rintro e wz ⟨rfl,hEz⟩))
     refine⟨(ext_others hEz).from _,⟨⟨h1.ext hEz,h2.ext hEz,h3.ext hEz,h4.ext hEz,?_,h6.ext hEz,h7.ext hEz⟩,h8.ext hEz⟩,h9.trans hEz⟩
     rw[HCS.out]
     exact h5.ext hEz
    | true =>
     gi_wp2_with (first|(refine⟨trivial,?_⟩;gi_at_call 184;refine(callsIn_wide.2 HCO.out).mono ?_;rintro e wz ⟨rfl,hEz⟩;have g5:=h5.ext hEz;have k6:=g5.cell;have k7:=g5.lt;have k8:=g5.free))
     have hE2:Ext w wz:=h9.trans hEz
     have hnb:n0+1<bd:=by omega
     refine⟨((ext_others hEz).trans (KeepsOthers.setCell _ _ _)).from _,⟨⟨(h1.ext hEz).other (by simp;omega) _,(h2.ext hEz).other (by simp;omega) _,(h3.ext hEz).other (by simp;omega) _,(h4.ext hEz).other (by simp) _,?_,(h6.ext hEz).other (by simp;omega) _,(h7.ext hEz).other (by simp;omega) _⟩,(h8.ext hEz).set _ _⟩,hE2.setCell (p:=⟨bd+1,0,none⟩) (by rw[HN0.out];simp;omega) _⟩
     rw[HCS.out]
     simpa using g5.set 0 (.int .i64 ((C0+1:Nat):Int))
   case done =>
    rintro D Y hD ⟨⟨⟨h1,h2,h3,h4,h5,h6,h7⟩,h8⟩,hE⟩ hK
    rw[List.take_length,HSD.out]at h5
    have hM7:=hM5.push h8 hD (by omega) hK
    have hsl:=sold_le l sale k d
    have hdo:dayOver s l sale k d=decide (BE<(sold l sale k d:Nat)):=by unfold dayOver;rw[HBE.out]
    have HDO:=Qc hdo
    obtain⟨C0,hC0⟩:∃C,sold l sale k d=C:=⟨_,rfl⟩
    rw[hC0]at h5 hsl HDO
    clear hdo hC0
    have k0:=h5.cell
    have k1:=h5.lt
    by_cases hov:BE<(C0:Int)
    ·have k2:=h3.cell
     have k3:=h3.lt
     have k4:=h4.cell
     have k5:=h4.lt
     have k6:=h2.cell
     have k7:=h2.lt
     have k8:=h2.free
     gi_wp2
     obtain⟨w9,hw9⟩:∃y,((Y.setCell ⟨n0+1,0,none⟩ (.int .i64 (k:Int))).setCell ⟨n0+1,1,none⟩ (.int .i64 (d:Int)))=y:=⟨_,rfl⟩
     have hM9:Marks n0 ({ target:= .collected D,args:=#[] } ::ds) w9:=by rw[← hw9];exact(hM7.set _ _).set _ _
     have hP9:Blk w9 (n0+1) #[.int .i64 (k:Int),.int .i64 (d:Int)] 239:=by rw[← hw9];simpa using(h2.set 0 (.int .i64 (k:Int))).set 1 (.int .i64 (d:Int))
     have hE9:Ext w w9:=by rw[← hw9];exact(hE.setCell (p:=⟨n0+1,0,none⟩) (by rw[HN0.out];simp) _).setCell (p:=⟨n0+1,1,none⟩) (by rw[HN0.out];simp) _
     try rw[hw9]
     refine leaves_marks hM9 (fun w' hS=> ?_)
     have q0:=(hS.blk hP9).cell
     have q1:=(hS.blk hP9).lt
     refine⟨.tuple #[.agg #[.int .i64 (k:Int),.int .i64 (d:Int)],.bool true],by simp[results,Tryz.results113,go_sem,q0,q1],(k:Int),(d:Int),?_,hS.ext hE9 (by rw[HN0.out];exact Qi _)⟩
     rw[HOV.out,any_range_hit hlt (any_range_hit hld (by rw[HDO.out];exact decide_eq_true hov))]
    ·have HDF:=Qc (show dayOver s l sale k d=false by rw[HDO.out];exact decide_eq_false hov)
     gi_wp2
     refine⟨j2 - 1,?ltI,[.int .i64 ((d+1:Nat):Int),?ih8,?ih9,?ih10,?ih24,?ih25,?ih26,?ih27,?ih28,?ih29,?ih30,?ih31,?ih32,?ih33,?ih34,?ih35,?ih36,?ih37,?ih38,?ih39,?ih40,?ih41,?ih42],?frI,?relI⟩
     case frI =>
      simp only[setAll,Qf,Qg,Qh]
      try rw[show((d+1:Nat):Int)=(d:Int)+1 by omega]
      try exact rfl
     case ltI=>omega
     case relI=>exact⟨d+1,⟨_,_,_,_,_,_,_,_,_,_,_,_,_,_,_,_,_,_,_,_,_,_,rfl⟩,by omega,⟨by rw[any_range_succ,HGD.out,HDF.out];rfl⟩⟩
  ·obtain rfl:d=s.days.toNat:=by omega
   have hdi:¬((s.days.toNat:Int)<s.days):=by omega
   have hzo:zoneOver s l sale k=false:=HGD.out
   have HZO:=Qc hzo
   clear hzo
   gi_wp2
   refine⟨j - 1,?lt,[.int .i64 ((k+1:Nat):Int),?oh6,?oh7,?oh8,?oh9,?oh10,?oh16,?oh17,?oh18,?oh19,?oh20,?oh21,?oh22,?oh23,?oh24,?oh25,?oh26,?oh27,?oh28,?oh29,?oh30,?oh31,?oh32,?oh33,?oh34,?oh35,?oh36,?oh37,?oh38,?oh39,?oh40,?oh41,?oh42,?oh43],?fr,?rel⟩
   case fr =>
    simp only[setAll,Qf,Qg,Qh]
    try rw[show((k+1:Nat):Int)=(k:Int)+1 by omega]
    try exact rfl
   case lt=>omega
   case rel=>exact⟨k+1,⟨_,_,_,_,_,_,_,_,_,_,_,_,_,_,_,_,_,_,_,_,_,_,_,_,_,_,_,_,_,_,_,_,_,rfl⟩,by omega,⟨by rw[any_range_succ,HG.out,HZO.out];rfl⟩⟩
 ·obtain rfl:k=s.berths.length:=by omega
  have k2:=hP.cell
  have k3:=hP.lt
  have k4:=hP.free
  gi_wp2
  obtain⟨w9,hw9⟩:∃y,((wr.setCell ⟨n0+1,0,none⟩ (.int .i64 0)).setCell ⟨n0+1,1,none⟩ (.int .i64 0))=y:=⟨_,rfl⟩
  have hM9:Marks n0 ds w9:=by rw[← hw9];exact(hM.set _ _).set _ _
  have hP9:Blk w9 (n0+1) #[.int .i64 0,.int .i64 0] 239:=by rw[← hw9];simpa using(hP.set 0 (.int .i64 0)).set 1 (.int .i64 0)
  have hE9:Ext w w9:=by rw[← hw9];exact(hE.setCell (p:=⟨n0+1,0,none⟩) (by rw[HN0.out];simp) _).setCell (p:=⟨n0+1,1,none⟩) (by rw[HN0.out];simp) _
  try rw[hw9]
  refine leaves_marks hM9 (fun w' hS=> ?_)
  have q0:=(hS.blk hP9).cell
  have q1:=(hS.blk hP9).lt
  refine⟨.tuple #[.agg #[.int .i64 0,.int .i64 0],.bool false],by simp[results,Tryz.results113,go_sem,q0,q1],0,0,?_,hS.ext hE9 (by rw[HN0.out];exact Qi _)⟩
  rw[HOV.out,HG.out]
end Go.Proofs.YtgloajbgphcloaaGreat.Fl
namespace Go.Proofs.YtgloajbgphcloaaGreat.Fl
set_option linter.unusedVariables false
set_option linter.unusedSimpArgs false
open Go.RowKit Go.Shelf
open Ext renaming alloc → Qj, drew → Qk, refl → Qe, setCell → Qa, trans → Qb
open Lib renaming hid → Qc
open List renaming setIfInBounds_toArray → Qf, set_cons_succ → Qh, set_cons_zero → Qg
attribute [local go_sem] Oper.semAt_some
def revTo (l:List Bid) (sale q:Nat):Int:=(((soldL l sale).take q).map fun b=>b.price).sum
theorem revTo_zero (l:List Bid) (sale:Nat):revTo l sale 0=0:=rfl
theorem revTo_step (l:List Bid) (sale:Nat) {q:Nat} {b:Bid} (h:(soldL l sale)[q]? =some b):revTo l sale (q+1)=revTo l sale q+b.price:=by
 obtain⟨hk,rfl⟩:=List.getElem?_eq_some_iff.1 h
 unfold revTo
 rw[List.take_succ_eq_append_getElem hk,List.map_append,List.sum_append]
 simp
theorem revTo_all (l:List Bid) (sale:Nat):revTo l sale (soldL l sale).length=revenue l sale:=by unfold revTo revenue;rw[List.take_length]
theorem rev_bd:∀(L:List Bid),(∀ b∈L,0≤b.price∧b.price≤1000000)→0≤(L.map fun b=>b.price).sum∧(L.map fun b=>b.price).sum≤1000000*L.length
 | [],_=>by simp
 | a::L,h=>by
  have h1:=h a (by simp)
  have h2:=rev_bd L (fun b hb=>h b (by simp[hb]))
  simp only[List.map_cons,List.sum_cons,List.length_cons]
  omega
theorem revTo_bd {s:Sea} {l:List Bid} {sale q:Nat} (hl:l.length≤10) (h:∀b∈l,BidOk s b):0≤revTo l sale q∧revTo l sale q≤10000000:=by
 have h1:=rev_bd ((soldL l sale).take q) (fun b hb=>by
  obtain⟨j,hj⟩:=List.mem_iff_getElem?.1 (List.mem_of_mem_take hb)
  exact(h b (soldL_mem hj)).price)
 have h2:((soldL l sale).take q).length≤10:=by
  have:=soldL_len l sale
  rw[List.length_take];omega
 unfold revTo
 omega
structure BestTo (s:Sea) (l:List Bid) (k:Nat) (b m:Int):Prop where
 sale:b=((bestTo s l k).1:Nat)
 most:m=(bestTo s l k).2
theorem BestTo.skip {s:Sea} {l:List Bid} {k:Nat} {b m:Int} (h:BestTo s l k b m) (hr:revenue l k≤m∨over s l k=true):BestTo s l (k+1) b m:=by
 have e:bestTo s l (k+1)=bestTo s l k:=by
  rw[h.most]at hr
  show(if _ then _ else _)=_
  rw[if_pos hr]
 exact⟨by rw[e];exact h.sale,by rw[e];exact h.most⟩
theorem BestTo.take {s:Sea} {l:List Bid} {k:Nat} {b m:Int} (h:BestTo s l k b m) (h1:¬revenue l k≤m) (h2:over s l k=false):BestTo s l (k+1) (k:Int) (revenue l k):=by
 have e:bestTo s l (k+1)=(k,revenue l k):=by
  show(if _ then _ else _)=_
  rw[if_neg]
  rw[h.most]at h1
  rintro(h3|h3)
  ·exact h1 h3
  ·rw[h2]at h3;cases h3
 exact⟨by rw[e],by rw[e]⟩
def sellR (s:Sea) (l:List Bid):Int×Int×Int:=if codeOf s l=0 then((((best s l).1:Nat):Int),(best s l).2,(0:Int))else(0,0,codeOf s l)
set_option maxRecDepth 100000 in
set_option maxHeartbeats 8000000 in
theorem sell_any (s:Sea) (l:List Bid) (vr vz vb vl:Value) (w:World) (hR:Ints w vr s.roads) (hZ:Ints w vz s.zones) (hB:Ints w vb s.berths) (hL:Bids w vl l)
  (hr1:s.roads.length≤1000000) (hz1:s.zones.length≤1000000) (hb1:s.berths.length≤1000000) (hl1:l.length≤1000000) :
  Calls Tryz.prog 39 #[.agg (seaV s vr vz vb),vl] w fun e w'=>e= .returned (.tuple #[.int .i64 (sellR s l).1,.int .i64 (sellR s l).2.1,.int .i64 (sellR s l).2.2])∧Ext w w':=by
 have HGI:=Qc (fun W hE=>given_any s l vr vz vb vl W (hR.ext hE) (hZ.ext hE) (hB.ext hE) (hL.ext hE) hr1 hz1 hb1 hl1)
 have HL:=Qc (fun W hE=>hL.ext (w':=W) hE)
 have HB:=Qc (fun W hE=>hB.ext (w':=W) hE)
 obtain⟨ar,cr,rfl,_⟩:=hR
 obtain⟨az,cz,rfl,_⟩:=hZ
 obtain⟨ab,cb,rfl,_⟩:=hB
 obtain⟨al,cl,rfl,_⟩:=hL
 obtain⟨nr,hnr⟩:∃n,s.roads.length=n:=⟨_,rfl⟩
 obtain⟨nz,hnz⟩:∃n,s.zones.length=n:=⟨_,rfl⟩
 obtain⟨nb,hnb⟩:∃n,s.berths.length=n:=⟨_,rfl⟩
 simp only[hnr,hnz,hnb]at HGI HB ⊢
 clear hnr hnz hnb hr1 hz1 hb1
 by_cases hz:codeOf s l=0
 ·have hsr:sellR s l=((((best s l).1:Nat):Int),(best s l).2,(0:Int)):=by unfold sellR;rw[if_pos hz]
  obtain⟨hsea,hl10,hBO⟩:=code_zero hz
  have O:=ok_of hsea
  simp only[hz]at HGI
  rw[hsr]
  have HBE:=Qc (show best s l=bestTo s l (2^l.length)from rfl)
  have HSOLD:=Qc (fun(sale:Nat) W=>sold_any s (.slice ar nr cr) (.slice az nz cz) (.slice ab nb cb) (.slice al l.length cl) (sale:Int) W)
  have hq2:2^l.length≤2^10:=Nat.pow_le_pow_right (by decide) hl10
  obtain⟨Q,hQ⟩:∃Q:Nat,2^l.length=Q:=⟨_,rfl⟩
  rw[hQ]at hq2 HBE
  have hpw:wrap64 ((2:Int)^l.length)=(Q:Int):=by
   have e:((2:Int)^l.length)=((2^l.length:Nat):Int):=pow_nat l.length
   rw[e,hQ]
   exact IntWalk.wrap64_in (Q:Int) ⟨by omega,by omega⟩
  have HSA:=Qc (fun(sale:Nat) (hs:sale<Q) w1 bm bs=>sold_arg s l (.slice ar nr cr) (.slice az nz cz) (.slice ab nb cb) (.slice al l.length cl) sale (by omega) (by omega) w1 bm bs 4 (by omega))
  have HOV:=Qc (fun(sale:Nat) (hs:sale<Q) W hE=>oversold_any s l (.slice ar nr cr) (.slice az nz cz) (.slice ab nb cb) (.slice al l.length cl) sale W O (by omega) hl10 hBO (HB.out W hE) (HL.out W hE))
  have HRB:=Qc (fun(sale q:Nat)=>revTo_bd (sale:=sale) (q:=q) hl10 hBO)
  have HPR:=Qc (fun(sale q:Nat) (b:Bid) (h:(soldL l sale)[q]? =some b)=>(hBO b (soldL_mem h)).price)
  have HPW:=Qc hpw
  clear hz hsr hsea hBO O HB hQ hpw
  refine(callsIn_wide (n:=5)).1 ?_
  refine callsIn_of_wp_marks Tryz.func39 rfl trivial ?_ rfl
  simp only[Tryz.ntmps39,List.size_toArray,List.length_cons,List.length_nil,Nat.reduceAdd,Nat.reduceSub,Array.replicate_succ,Array.replicate_zero,List.push_toArray,List.append_toArray,List.nil_append,List.cons_append]
  gi_wp2_with (first|(refine⟨trivial,?_⟩;gi_at_call 111;refine(callsIn_wide.2 (HGI.out _ (by(with_reducible(repeat(first|exact Qe _|assumption|apply Qj|apply Qk|exact ext_plus _ _|(apply Qa;rotate_left;(simp<;>omega))|(apply Qb;rotate_left;exact ext_plus _ _)|(apply Qb;rotate_left;assumption))))))).mono ?_;rintro e w1 ⟨rfl,hE1⟩;have HPW2:=HPW.out))
  obtain⟨n0,hn0⟩:∃n,w.heap.size=n:=⟨_,rfl⟩
  have hV:Blk w1 (n0+1) (mktV s (.slice ar nr cr) (.slice az nz cz) (.slice ab nb cb) (.slice al l.length cl)) 234:=(Blk.new' (by simp[hn0]) _ _).ext hE1
  have hE:Ext w w1:=(((Qe w).alloc _).alloc _).trans hE1
  simp only[hn0,HPW2]
  have HN0:=Qc hn0
  clear hn0 hE1 HPW2 HPW
  refine wpIn_loop_marks n0 [27,9,10,11,12,13,14,15,28,29,30,31,32,33,34,35,36,37,38,39,40,41,42,43,44,45,46,47,48,49,50,51] [.int .i64 0,.int .i64 0,.int .i64 0,undef,undef,undef,undef,undef,undef,undef,undef,undef,undef,undef,undef,undef,undef,undef,undef,undef,undef,undef,undef,undef,undef,undef,undef,undef,undef,undef,undef,undef]
   (fun j vs wr=>∃(k:Nat) (b m:Int) (u11 u12 u13 u14 u15 u28 u29 u30 u31 u32 u33 u34 u35 u36 u37 u38 u39 u40 u41 u42 u43 u44 u45 u46 u47 u48 u49 u50 u51:Value),vs=[.int .i64 (k:Int),.int .i64 b,.int .i64 m,u11,u12,u13,u14,u15,u28,u29,u30,u31,u32,u33,u34,u35,u36,u37,u38,u39,u40,u41,u42,u43,u44,u45,u46,u47,u48,u49,u50,u51]∧j+k=Q∧BestTo s l k b m∧Blk wr (n0+1) (mktV s (.slice ar nr cr) (.slice az nz cz) (.slice ab nb cb) (.slice al l.length cl)) 234∧Ext w wr)
   Q (Marks.nil _ _) (by simp only[setAll,Qf,Qg,Qh]) ⟨0,0,0,undef,undef,undef,undef,undef,undef,undef,undef,undef,undef,undef,undef,undef,undef,undef,undef,undef,undef,undef,undef,undef,undef,undef,undef,undef,undef,undef,undef,undef,rfl,rfl,⟨rfl,rfl⟩,hV,hE⟩ ?_
  clear hV hE
  rintro j ds vs wr hM ⟨k,b,m,u11,u12,u13,u14,u15,u28,u29,u30,u31,u32,u33,u34,u35,u36,u37,u38,u39,u40,u41,u42,u43,u44,u45,u46,u47,u48,u49,u50,u51,rfl,hjk,hg,hV,hE⟩
  simp only[setAll,Qf,Qg,Qh]
  have HG:=Qc hg
  clear hg
  have k0:=hV.cell
  have k1:=hV.lt
  by_cases hlt:k<Q
  ·gi_wp2_with (first|(refine⟨trivial,?_⟩;gi_at_call 112;refine(callsIn_wide.2 (HSOLD.out k _)).mono ?_;rintro e w5 ⟨rfl,hX5,hS5,hE5⟩))
   obtain⟨bd,hbd⟩:∃n,wr.heap.size=n:=⟨_,rfl⟩
   have hD5:Blk w5 bd #[.int .i64 0] 3:=(Blk.new' hbd.symm _ _).ext hE5
   have hEa:Ext wr w5:=((Qe wr).alloc _).trans hE5
   simp only[World.size_alloc,hbd]at hX5 hS5 ⊢
   have hV5:=hV.ext hEa
   have hM5:=hM.ext hEa
   have hE5w:=hE.trans hEa
   have hnb:n0+1<bd:=by rw[← hbd];exact hV.lt
   have hz5:=hS5.lt
   have HALL:=Qc (revTo_all l k)
   have HRK:=Qc (fun q=>HRB.out k q)
   have HST:=Qc (fun(q:Nat) (b:Bid) (h:(soldL l k)[q]? =some b)=>revTo_step l k h)
   have HPK:=Qc (fun(q:Nat) (b:Bid) (h:(soldL l k)[q]? =some b)=>HPR.out k q b h)
   clear k0 k1 hV hM hE hE5 hEa hbd
   refine' wpIn_range_arg rfl (by omega) (gf:=183) rfl trivial (enters_of Tryz.func183 (by kernel_rfl) rfl)
    (HSA.out k hlt w5 (bd+1) (bd+1+1)) (by rintro q e W ⟨b,_,rfl⟩;rfl) (fun _ _ _ _ _ _ h _ _=>h)
    (fun q Y=>((Blk Y (n0+1) (mktV s (.slice ar nr cr) (.slice az nz cz) (.slice ab nb cb) (.slice al l.length cl)) 234∧Blk Y bd #[.int .i64 (revTo l k q)] 3∧Blk Y (bd+1) (mktV s (.slice ar nr cr) (.slice az nz cz) (.slice ab nb cb) (.slice al l.length cl)) 234∧Blk Y (bd+1+1) #[.int .i64 (k:Int)] 3)∧Marks n0 ds Y)∧Ext w Y)
    (fun _ _=>False) ?own (fun _ _ _ _ h _ _=>h) ?ext (fun _ _ h=>⟨h.1.1.2.2.1,h.1.1.2.2.2,HL.out _ h.2⟩) ⟨⟨⟨hV5,hD5,hX5,hS5⟩,hM5⟩,hE5w⟩
    (AxB l k (bd+1+1) _) (fun k e=>AxB.own _ _ _ _ _ _ _) ?assign ?body ?done (fun _ _ _ _ h _=>h.elim)
   case own =>
    refine OwnFrom.and (OwnFrom.and (fun k A B row h hg hr=> ?_) (ownFrom_marks hM5)) (ownFrom_below (Nat.le_refl _) hE5w.size)
    have hr':=fun r e=>(hr r e).2
    exact⟨h.1.kept hg hr',h.2.1.kept hg hr',h.2.2.1.kept hg hr',h.2.2.2.kept hg hr'⟩
   case ext =>
    rintro q A B ⟨⟨⟨h1,h2,h3,h4⟩,h8⟩,h9⟩ hE
    exact⟨⟨⟨h1.ext hE,h2.ext hE,h3.ext hE,h4.ext hE⟩,h8.ext hE⟩,h9.trans hE⟩
   case assign =>
    rintro l' q e W K hq ⟨⟨⟨h1,h2,h3,h4⟩,h8⟩,h9⟩ ⟨x,hx,rfl⟩ hK
    have hzW:=h4.lt
    gi_wp2
    obtain⟨bb,hbb⟩:∃n,W.heap.size=n:=⟨_,rfl⟩
    have hEa:Ext W (W.alloc (.cells (bidV x) 225)):=(Qe _).alloc _
    have hN:=Blk.new' (w:=W) hbb.symm (bidV x) 225
    rw[hbb]at hzW ⊢
    refine hK _ _ (KeepsFrom.of_grownBy (ext_grown hEa) (fun j e=>by cases e)) ⟨⟨⟨h1.ext hEa,h2.ext hEa,h3.ext hEa,h4.ext hEa⟩,h8.ext hEa⟩,h9.trans hEa⟩ ⟨x,hx,rfl⟩ ⟨x,bb,hx,hN,hzW,?_⟩
    refine(Act.mk.injEq _ _ _ _).mpr ⟨?_,rfl⟩
    exact rfl
   case body =>
    rintro l' q e a' W hl' hrec hq ⟨⟨⟨h1,h2,h3,h4⟩,h8⟩,h9⟩ _ ⟨x,bb,hx,hbb,hbbn,rfl⟩
    have hst:=HST.out q x hx
    have hpr:=HPK.out q x hx
    have hrb:=HRK.out q
    obtain⟨R0,hR0⟩:∃R,revTo l k q=R:=⟨_,rfl⟩
    rw[hR0]at hst hrb h2
    have HST2:=Qc hst
    clear hst hR0
    have k0:=hbb.cell
    have k1:=hbb.lt
    have k2:=h2.cell
    have k3:=h2.lt
    have k4:=h2.free
    gi_wp2
    refine⟨(KeepsOthers.setCell _ _ _).from _,⟨⟨h1.other (by simp;omega) _,?_,h3.other (by simp) _,h4.other (by simp;omega) _⟩,h8.set _ _⟩,h9.setCell (p:=⟨bd,0,none⟩) (by rw[HN0.out];simp;omega) _⟩
    rw[HST2.out]
    simpa using h2.set 0 (.int .i64 (R0+x.price))
   case done =>
    rintro D Y hD ⟨⟨⟨h1,h2,h3,h4⟩,h8⟩,hE⟩ hK
    have hrb:=HRK.out (soldL l k).length
    rw[HALL.out]at h2 hrb
    have hM7:=hM5.push h8 hD (by omega) hK
    obtain⟨R0,hR0⟩:∃R,revenue l k=R:=⟨_,rfl⟩
    rw[hR0]at h2 hrb
    have HR0:=Qc hR0
    clear hR0
    have k0:=h2.cell
    have k1:=h2.lt
    by_cases hle:R0≤m
    ·have HSK:=Qc (BestTo.skip HG.out (.inl (by rw[HR0.out];exact hle)))
     gi_wp2
     refine⟨j - 1,[.int .i64 ((k+1:Nat):Int),.int .i64 b,.int .i64 m,?h3_11,?h3_12,?h3_13,?h3_14,?h3_15,?h3_28,?h3_29,?h3_30,?h3_31,?h3_32,?h3_33,?h3_34,?h3_35,?h3_36,?h3_37,?h3_38,?h3_39,?h3_40,?h3_41,?h3_42,?h3_43,?h3_44,?h3_45,?h3_46,?h3_47,?h3_48,?h3_49,?h3_50,?h3_51],?lt,?fr,?mk,?rel⟩
     case fr =>
      simp only[setAll,Qf,Qg,Qh]
      try rw[show((k+1:Nat):Int)=(k:Int)+1 by omega]
      try exact rfl
     case lt=>omega
     case mk=>exact hM7
     case rel=>exact⟨k+1,b,m,_,_,_,_,_,_,_,_,_,_,_,_,_,_,_,_,_,_,_,_,_,_,_,_,_,_,_,_,_,rfl,by omega,HSK.out,h1,hE⟩
    ·have k2:=h1.cell
     have k3:=h1.lt
     obtain⟨B,hB⟩:∃B,over s l k=B:=⟨_,rfl⟩
     have hov:=HOV.out k hlt Y hE
     rw[hB]at hov
     have HOVK:=Qc hov
     have HB:=Qc hB
     clear hov hB
     cases B with
     | true =>
      gi_wp2_with (first|(refine⟨trivial,?_⟩;gi_at_call 113;refine(callsIn_wide.2 HOVK.out).mono ?_;rintro e w7 ⟨p,q,rfl,hE7⟩))
      refine⟨j - 1,[.int .i64 ((k+1:Nat):Int),.int .i64 b,.int .i64 m,?h2_11,?h2_12,?h2_13,?h2_14,?h2_15,?h2_28,?h2_29,?h2_30,?h2_31,?h2_32,?h2_33,?h2_34,?h2_35,?h2_36,?h2_37,?h2_38,?h2_39,?h2_40,?h2_41,?h2_42,?h2_43,?h2_44,?h2_45,?h2_46,?h2_47,?h2_48,?h2_49,?h2_50,?h2_51],?lt,?fr,?mk,?rel⟩
      case fr =>
       simp only[setAll,Qf,Qg,Qh]
       try rw[show((k+1:Nat):Int)=(k:Int)+1 by omega]
       try exact rfl
      case lt=>omega
      case mk=>exact hM7.ext (hE7.trans ((Qe _).alloc _))
      case rel=>exact⟨k+1,b,m,_,_,_,_,_,_,_,_,_,_,_,_,_,_,_,_,_,_,_,_,_,_,_,_,_,_,_,_,_,rfl,by omega,BestTo.skip HG.out (.inr HB.out),(h1.ext hE7).alloc _,(hE.trans hE7).alloc _⟩
     | false =>
      gi_wp2_with (first|(refine⟨trivial,?_⟩;gi_at_call 113;refine(callsIn_wide.2 HOVK.out).mono ?_;rintro e w7 ⟨p,q,rfl,hE7⟩))
      obtain⟨wv,hwv⟩:∃y,w7.alloc (.cells #[.int .i64 p,.int .i64 q] 239)=y:=⟨_,rfl⟩
      have hEv:Ext w7 wv:=by rw[← hwv];(with_reducible(repeat(first|exact Qe _|assumption|apply Qj|apply Qk|exact ext_plus _ _|(apply Qa;rotate_left;(simp<;>omega))|(apply Qb;rotate_left;exact ext_plus _ _)|(apply Qb;rotate_left;assumption))))
      have h2':=(h2.ext hE7).ext hEv
      rw[hwv]
      clear k0 k1 k2 k3
      have k4:=h2'.cell
      have k5:=h2'.lt
      have hpc:=plus_cell
      refine wpIn_region_extY 3 (by kernel_rfl) (by kernel_rfl) (by kernel_rfl) (by kernel_rfl) (by kernel_rfl) ?_
      simp only[List.take_succ_cons,List.take_zero,List.drop_succ_cons,List.drop_zero]
      repeat(any_goals(first|go_big_quiet_step(fail)|quiet_step(fail)))
      all_goals(refine wpQuiet_nil ?_;intro w8 hE8)
      gi_wp2
      have HTK:=Qc (BestTo.take HG.out (by rw[HR0.out];omega) HB.out)
      rw[HR0.out]at HTK
      refine⟨j - 1,[.int .i64 ((k+1:Nat):Int),.int .i64 (k:Int),.int .i64 R0,?h1_11,?h1_12,?h1_13,?h1_14,?h1_15,?h1_28,?h1_29,?h1_30,?h1_31,?h1_32,?h1_33,?h1_34,?h1_35,?h1_36,?h1_37,?h1_38,?h1_39,?h1_40,?h1_41,?h1_42,?h1_43,?h1_44,?h1_45,?h1_46,?h1_47,?h1_48,?h1_49,?h1_50,?h1_51],?lt,?fr,?mk,?rel⟩
      case fr =>
       simp only[setAll,Qf,Qg,Qh]
       try rw[show((k+1:Nat):Int)=(k:Int)+1 by omega]
       try exact rfl
      case lt=>omega
      case mk=>exact((hM7.ext hE7).ext hEv).ext hE8
      case rel=>exact⟨k+1,(k:Int),R0,_,_,_,_,_,_,_,_,_,_,_,_,_,_,_,_,_,_,_,_,_,_,_,_,_,_,_,_,_,rfl,by omega,HTK.out,((h1.ext hE7).ext hEv).ext hE8,((hE.trans hE7).trans hEv).trans hE8⟩
  ·obtain rfl:k=Q:=by omega
   gi_wp2
   refine leaves_marks hM (fun w' hS=>⟨.tuple #[.int .i64 b,.int .i64 m,.int .i64 0],by simp[results,Tryz.results39,go_sem],?_,hS.ext hE (by rw[HN0.out];exact Nat.le_refl _)⟩)
   rw[HBE.out,HG.out.sale,HG.out.most]
 ·have hsr:sellR s l=(0,0,codeOf s l):=by unfold sellR;rw[if_neg hz]
  rw[hsr]
  obtain⟨cd,hcd⟩:∃c,codeOf s l=c:=⟨_,rfl⟩
  simp only[hcd]at HGI ⊢
  rw[hcd]at hz
  have hcb:(cd == 0)=false:=by simpa using hz
  clear hcd hsr
  go_enter Tryz.func39,Tryz.ntmps39
  go_wp2_with (first|(go_at_call 111;refine(HGI.out _ (by(with_reducible(repeat(first|exact Qe _|assumption|apply Qj|apply Qk|exact ext_plus _ _|(apply Qa;rotate_left;(simp<;>omega))|(apply Qb;rotate_left;exact ext_plus _ _)|(apply Qb;rotate_left;assumption)))))).mono ?_;rintro e w1 ⟨rfl,hE1⟩))
  go_ret3
  exact⟨rfl,by(with_reducible(repeat(first|exact Qe _|assumption|apply Qj|apply Qk|exact ext_plus _ _|(apply Qa;rotate_left;(simp<;>omega))|(apply Qb;rotate_left;exact ext_plus _ _)|(apply Qb;rotate_left;assumption))))⟩
end Go.Proofs.YtgloajbgphcloaaGreat.Fl
