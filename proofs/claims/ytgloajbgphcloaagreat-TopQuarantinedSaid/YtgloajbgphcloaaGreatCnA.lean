/- The canoe, without the program: what is as defined, the sets after each hour, and with hindsight. The canoe: how its data lie in memory; the iterator over the cells of a set; where a course leads. The canoe: where a course leads from a set. The canoe: the sets after each hour. The canoe: the sets with hindsight. The canoe: what is as defined: the functions that are asked of each number. -/
import Derived.Test.YtgloajbgphcloaaGreatBtM
import Derived.Test.YtgloajbgphcloaaGreatRg
import Derived.Test.YtgloajbgphcloaaGreatDr
import Derived.RangeFuncBound
import Derived.RangeFuncCalls
import Derived.RangeFuncNested
import Derived.RangeFuncLeaves
import Derived.Shelf.Abstract
import Derived.OwnWalkIn
import Derived.TacticsInMore
import Derived.LoopNIn
import Derived.LoopIn
import Derived.Maps.AppendAt
namespace Go.Proofs.YtgloajbgphcloaaGreat.Cn
set_option linter.unusedVariables false
set_option linter.unusedSimpArgs false
open Go.RowKit
structure Sea where
 cells:Int
 start:Int
 courses:List (List Int)
 stars:List Int
 boats:List Int
 roads:List Int
structure Hour where
 course:Int
 star:Int
 deriving DecidableEq,Inhabited
def within (x lo hi:Int):Bool:=decide (lo≤x)&&decide (x≤hi)
def clip (n:Int):Nat:=(min (max n 0) 10).toNat
def allOf (n:Int):Int:=2^clip n - 1
def fullB (s:Sea) (n:Int):Bool:=within n 1 (allOf s.cells)
def courseB (s:Sea) (c:List Int):Bool:=decide ((c.length:Int)=s.cells)&&c.all (fullB s)
def seaB (s:Sea):Bool :=
 s.courses.all (courseB s) &&
 (within s.cells 1 10&&fullB s s.start&&within s.courses.length 1 4&&decide (s.stars.length≤6)&&s.stars.all (fullB s)&&decide (s.boats.length≤2)&&s.boats.all (fun c=>within c 0 (s.cells - 1))&&decide ((s.roads.length:Int)=s.cells)&&s.roads.all (fun n=>within n 0 (allOf s.cells)))
def hourB (s:Sea) (h:Hour):Bool:=within h.course 0 (s.courses.length - 1)&&within h.star (-1) (s.stars.length - 1)
def codeOf (s:Sea) (log:List Hour):Int:=if 12<log.length then 3 else if seaB s&&log.all (hourB s)then 0 else 2
abbrev iat (l:List Int) (k:Nat):Int:=l.getD k 0
abbrev rat (l:List (List Int)) (k:Nat):List Int:=l.getD k []
abbrev hat (l:List Hour) (k:Nat):Hour:=l.getD k default
def crs (s:Sea) (x:Hour) (c:Nat):Nat:=(iat (rat s.courses x.course.toNat) c).toNat
def leads (s:Sea) (x:Hour) (set:Nat):Nat:=joins (crs s x) (cellsTo set 10)
def nextS (s:Sea) (x:Hour) (set:Nat):Nat:=if 0≤x.star then leads s x set &&& (iat s.stars x.star.toNat).toNat else leads s x set
def setAt (s:Sea) (log:List Hour):Nat→Nat
 | 0=>s.start.toNat
 | h+1=>nextS s (hat log h) (setAt s log h)
def backS (s:Sea) (x:Hour) (set nxt:Nat):Nat:=drops (fun c=>(crs s x c &&& nxt) == 0) set (cellsTo set 10)
def hind (s:Sea) (log:List Hour) (n:Nat):Nat→Nat
 | 0=>setAt s log n
 | d+1=>backS s (hat log (n - (d+1))) (setAt s log (n - (d+1))) (hind s log n d)
def setsL (s:Sea) (log:List Hour):List Int:=(List.range (log.length+1)).map fun h=>(setAt s log h:Int)
def hindL (s:Sea) (log:List Hour):List Int:=(List.range (log.length+1)).map fun h=>(hind s log log.length (log.length - h):Int)
structure Ok (s:Sea):Prop where
 cells:1≤s.cells∧s.cells≤10
 start:1≤s.start∧s.start<2^s.cells.toNat
 courses:1≤s.courses.length∧s.courses.length≤4
 course:∀c∈s.courses,(c.length:Int)=s.cells∧∀n∈c,1≤n∧n<2^s.cells.toNat
 stars:s.stars.length≤6∧∀n∈s.stars,1≤n∧n<2^s.cells.toNat
theorem within_iff {x lo hi:Int} :within x lo hi=true↔lo≤x∧x≤hi:=by simp[within]
theorem ok_of {s:Sea} (h:seaB s=true):Ok s:=by
 unfold seaB courseB fullB allOf clip at h
 simp only[Bool.and_eq_true,within_iff,decide_eq_true_eq,List.all_eq_true]at h
 obtain⟨h0,⟨⟨⟨⟨⟨⟨⟨h1,h2⟩,h3⟩,h4⟩,h5⟩,_⟩,_⟩,_⟩,_⟩:=h
 have e:(min (max s.cells 0) 10).toNat=s.cells.toNat:=by omega
 rw[e]at h0 h2 h5
 refine⟨h1,by omega,by omega,fun c hc=>⟨(h0 c hc).1,fun n hn=> ?_⟩,h4,fun n hn=> ?_⟩
 ·have:=(h0 c hc).2 n hn;omega
 ·have:=h5 n hn;omega
structure LogOk (s:Sea) (log:List Hour):Prop where
 len:log.length≤12
 hour:∀x∈log,0≤x.course∧x.course<s.courses.length∧ -1≤x.star∧x.star<s.stars.length
theorem code_zero {s:Sea} {log:List Hour} (h:codeOf s log=0):seaB s=true∧LogOk s log:=by
 unfold codeOf at h
 split at h
 ·cases h
 ·split at h
  ·rename_i h1 h2
   simp only[Bool.and_eq_true,List.all_eq_true,hourB,within_iff]at h2
   exact⟨h2.1,by omega,fun x hx=>by have:=h2.2 x hx;omega⟩
  ·cases h
theorem toNat_lt {n:Int} {k:Nat} (h0:0≤n) (h:n<2^k):n.toNat<2^k:=by
 have:((n.toNat:Nat):Int)<((2^k:Nat):Int):=by rw[Int.toNat_of_nonneg h0,Int.natCast_pow];exact h
 exact_mod_cast this
theorem cells_pow {s:Sea} (O:Ok s):2^s.cells.toNat≤2^10:=Nat.pow_le_pow_right (by decide) (by have:=O.cells;omega)
theorem crs_lt {s:Sea} (O:Ok s) {log:List Hour} (L:LogOk s log) {x:Hour} (hx:x∈log) (c:Nat):crs s x c<2^s.cells.toNat:=by
 have h:=L.hour x hx
 unfold crs
 have hc:x.course.toNat<s.courses.length:=by omega
 have e:rat s.courses x.course.toNat=s.courses[x.course.toNat]:=by simp[rat,List.getD_eq_getElem?_getD,hc]
 rw[e]
 have hm:=O.course _ (List.getElem_mem hc)
 by_cases hk:c<s.courses[x.course.toNat].length
 ·have e2:iat s.courses[x.course.toNat] c=s.courses[x.course.toNat][c]:=by simp[iat,List.getD_eq_getElem?_getD,hk]
  rw[e2]
  have:=hm.2 _ (List.getElem_mem hk)
  exact toNat_lt (by omega) this.2
 ·have e2:iat s.courses[x.course.toNat] c=0:=by simp[iat,List.getD_eq_getElem?_getD,hk]
  rw[e2];exact Nat.two_pow_pos _
theorem next_lt {s:Sea} (O:Ok s) {log:List Hour} (L:LogOk s log) {x:Hour} (hx:x∈log) (set:Nat):nextS s x set<2^s.cells.toNat:=by
 have h:=joins_lt (f:=crs s x) (n:=s.cells.toNat) (l:=cellsTo set 10) (fun c _=>crs_lt O L hx c)
 unfold nextS leads
 split
 ·exact Nat.lt_of_le_of_lt Nat.and_le_left h
 ·exact h
theorem hat_mem {log:List Hour} {k:Nat} (h:k<log.length):hat log k∈log:=by
 simp[hat,List.getD_eq_getElem?_getD,h]
theorem set_lt {s:Sea} (O:Ok s) {log:List Hour} (L:LogOk s log):∀h,h≤log.length→setAt s log h<2^s.cells.toNat
 | 0,_=>toNat_lt (by have:=O.start;omega) O.start.2
 | h+1,hh=>next_lt O L (hat_mem (by omega)) _
theorem hind_lt {s:Sea} (O:Ok s) {log:List Hour} (L:LogOk s log) (n:Nat) (hn:n≤log.length):∀d,d≤n→hind s log n d<2^s.cells.toNat
 | 0,_=>set_lt O L n hn
 | d+1,hd=>drops_lt (set_lt O L _ (by omega)) _
def exS (boats:List Int):Sea:=⟨5,6,[[3,6,12,24,16],[1,1,2,4,8]],[7,12],boats,[2,5,10,20,8]⟩
def exL:List Hour:=[⟨0,-1⟩,⟨0,1⟩]
theorem ex_code:codeOf (exS [0]) exL=0:=by decide +kernel
theorem ex_hind:hindL (exS [0]) exL=[6,14,12]:=by decide +kernel
theorem ex_end:setAt (exS [0]) exL 2≠0:=by decide +kernel
end Go.Proofs.YtgloajbgphcloaaGreat.Cn
namespace Go.Proofs.YtgloajbgphcloaaGreat.Cn
set_option linter.unusedVariables false
set_option linter.unusedSimpArgs false
open Go.RowKit Go.Shelf
open Lib renaming hid → Qa
attribute [local go_sem] Oper.semAt_some
def IntsAt (w:World) (b o:Nat) (x:List Int):Prop:=∃v,w.cell? ⟨b,o,none⟩=some v∧Ints w v x
theorem intsAt_stays:Stays IntsAt:=fun _ _ _ _ _ he hb ⟨v,h1,h2⟩=>⟨v,(he.cells.1 _ _ hb).trans h1,h2.ext he⟩
def Lists (w:World) (v:Value) (xs:List (List Int)):Prop:=Sls 1 IntsAt w v xs
theorem Lists.ext {w w':World} {v:Value} {xs:List (List Int)} (h:Lists w v xs) (he:Ext w w'):Lists w' v xs:=Sls.ext intsAt_stays h he
def hourC (x:Hour):List Value:=[.int .i64 x.course,.int .i64 x.star]
def Hours (w:World) (v:Value) (xs:List Hour):Prop:=Sls 2 (AtE hourC) w v xs
theorem Hours.ext {w w':World} {v:Value} {xs:List Hour} (h:Hours w v xs) (he:Ext w w'):Hours w' v xs:=Sls.ext (ate_stays _) h he
abbrev seaV (s:Sea) (vc vs vb vr:Value):Array Value:=#[.int .i64 s.cells,.int .i64 s.start,vc,vs,vb,vr]
abbrev voyV (s:Sea) (vc vs vb vr vl:Value):Array Value:=#[.int .i64 s.cells,.int .i64 s.start,vc,vs,vb,vr,vl]
theorem in_any (x lo hi:Int) (w:World) :
  Calls Tryz.prog 213 #[.int .i64 x,.int .i64 lo,.int .i64 hi] w fun e w'=>e= .returned (.bool (within x lo hi))∧w=w':=by
 go_enter Tryz.func213,Tryz.ntmps213
 go_wp2
 all_goals(go_ret;exact⟨ret_bool (by rw[Bool.eq_iff_iff];simp[within];omega),rfl⟩)
theorem has_any (s c:Nat) (hs:s<2^62) (hc:c≤60) (w:World) :
  Calls Tryz.prog 245 #[.int .i64 (s:Int),.int .i64 (c:Int)] w fun e w'=>e= .returned (.bool (s.testBit c))∧w=w':=by
 have h:=has_nat hs c
 cases hb:s.testBit c with
 | true =>
  rw[hb]at h
  have h':bits .and .i64 ((s:Int)/2^c) 1=1:=h
  clear h
  go_enter Tryz.func245,Tryz.ntmps245
  go_wp2
  go_ret
  exact⟨rfl,rfl⟩
 | false =>
  rw[hb]at h
  have h':bits .and .i64 ((s:Int)/2^c) 1=0:=h
  clear h
  go_enter Tryz.func245,Tryz.ntmps245
  go_wp2
  go_ret
  exact⟨rfl,rfl⟩
theorem cells_any (s:Int) (w:World) :
  Calls Tryz.prog 215 #[.int .i64 s] w fun e w'=>e= .returned (.func (.func 244) #[] #[.pointer (some ⟨w.heap.size,0,none⟩)])∧Blk w' w.heap.size #[.int .i64 s] 3∧Ext w w':=by
 go_enter Tryz.func215,Tryz.ntmps215
 go_wp2
 go_ret
 exact⟨rfl,Blk.new' (by simp) _ _,by(with_reducible(repeat(first|exact Ext.refl _|assumption|apply Ext.alloc|apply Ext.drew|exact ext_plus _ _|(apply Ext.setCell;rotate_left;(simp<;>omega))|(apply Ext.trans;rotate_left;exact ext_plus _ _)|(apply Ext.trans;rotate_left;assumption))))⟩
set_option maxRecDepth 100000 in
set_option maxHeartbeats 8000000 in
theorem cells_arg (s:Nat) (hs:s<2^10) (w1:World) (bx n:Nat) (hn1:1≤n) :
  SeqArg Fence.wide n Tryz.prog 244 #[.pointer (some ⟨bx,0,none⟩)] (fun W=>Blk W bx #[.int .i64 (s:Int)] 3) (fun k e _=>∃c,(cellsTo s 10)[k]? =some c∧e=#[.int .i64 (c:Int)]) (cellsTo s 10).length w1:=by
 intro l J Jx W hW hInv hJ hY h0
 have HY:=Qa hY
 have HINV:=Qa hInv
 have HJ:=Qa hJ
 have hs62:s<2^62:=Nat.lt_trans hs (by decide)
 have HH:=Qa (fun c (hc:c≤60) w=>has_any s c hs62 hc w)
 clear hY hInv hJ hs hs62
 refine callsIn_of_wp Tryz.func244 rfl trivial ?_ rfl
 simp only[Tryz.ntmps244,List.size_toArray,List.length_cons,List.length_nil,Nat.reduceAdd,Nat.reduceSub,Array.replicate_succ,Array.replicate_zero,List.push_toArray,List.append_toArray,List.nil_append,List.cons_append]
 gi_wp2
 gi_loopw [4] (fun i' wr=>∃k:Nat,k≤10∧i'= .int .i64 k∧J (cellsTo s k).length wr) (fun i' _=>10 - (intOf i').toNat)
 case atStart=>exact⟨0,Nat.zero_le _,rfl,h0⟩
 case round =>
  rename World=>wr
  obtain⟨k,hk,rfl,hJk⟩:=hrel
  have hB:=HINV.out _ _ hJk
  have k0:=hB.cell
  have k1:=hB.lt
  by_cases hlt:k<10
  ·have hsu:=cellsTo_succ s k
   have hh:=HH.out k (by omega) wr
   obtain⟨B,hBB⟩:∃B,s.testBit k=B:=⟨_,rfl⟩
   rw[hBB]at hsu hh
   have HSU:=Qa hsu
   have HHK:=Qa hh
   have HBB:=Qa hBB
   clear hsu hh hBB
   cases B with
   | false =>
    gi_wp2_with (first|(refine⟨trivial,?_⟩;gi_at_call 245;refine(callsIn_wide.2 HHK.out).mono ?_;rintro e wz ⟨rfl,rfl⟩))
    refine⟨fun _ h=>(by cases h),?_⟩
    gi_wp2
    go_roundw
    case rel=>exact⟨k+1,by omega,by go_num,by rw[HSU.out];simpa using hJk⟩
    case measure=>simp[intOf];omega
   | true =>
    have hpre:cellsTo s (k+1) <+: cellsTo s 10:=by
     unfold cellsTo
     refine List.IsPrefix.filter _ ⟨List.range' (k+1) (10 - (k+1)),?_⟩
     rw[List.range_eq_range',List.range_eq_range']
     have h2:=List.range'_append_1 (s:=0) (m:=k+1) (n:=10 - (k+1))
     rw[Nat.zero_add]at h2
     rw[h2]
     congr 1;omega
    have hlen:(cellsTo s k).length<(cellsTo s 10).length:=by
     have h1:=hpre.length_le
     rw[HSU.out]at h1
     simp at h1;omega
    have hget:(cellsTo s 10)[(cellsTo s k).length]? =some k:=by
     obtain⟨r,hr⟩:=hpre
     rw[← hr,HSU.out]
     simp
    have HGET:=Qa hget
    have HLEN:=Qa hlen
    clear hpre hlen hget
    obtain⟨fn,tmps,assign,body,hy,hR⟩:=HY.out (cellsTo s k).length #[.int .i64 (k:Int)] wr HLEN.out hJk ⟨k,HGET.out,rfl⟩
    gi_wp2_with (first|(refine⟨trivial,?_⟩;gi_at_call 245;refine(callsIn_wide.2 HHK.out).mono ?_;rintro e wz ⟨rfl,rfl⟩))
    refine hR.mono ?_
    rintro e W3 (⟨rfl,hJ3⟩|⟨rfl,hJx3⟩)
    ·gi_wp2
     go_roundw
     case rel=>exact⟨k+1,by omega,by go_num,by rw[HSU.out];simpa using hJ3⟩
     case measure=>simp[intOf];omega
    ·gi_wp2
     refine bodyPost_ret (results_none rfl _ _ _) rfl ?_
     exact⟨⟨_,rfl⟩,.inr hJx3⟩
  ·obtain rfl:k=10:=by omega
   gi_wp2
   go_end0
   exact⟨⟨_,rfl⟩,.inl hJk⟩
end Go.Proofs.YtgloajbgphcloaaGreat.Cn
namespace Go.Proofs.YtgloajbgphcloaaGreat.Cn
set_option linter.unusedVariables false
set_option linter.unusedSimpArgs false
open Go.RowKit Go.Shelf
open Lib renaming hid → Qa
open Nat renaming lt_of_lt_of_le → Qb
attribute [local go_sem] Oper.semAt_some
def IsSlice (v:Value):Prop:=∃a n k,v= .slice a n k
theorem take_get {l:List Nat} {k c:Nat} (h:l[k]? =some c):l.take (k+1)=l.take k++[c]:=by
 obtain⟨hk,rfl⟩:=List.getElem?_eq_some_iff.1 h
 exact List.take_succ_eq_append_getElem hk
def AxC (set:Nat) (TM:Nat→Array Value) (k:Nat) (a':Act) (_:World):Prop:=∃c,(cellsTo set 10)[k]? =some c∧a'= { tmps:=TM c,defers:=[] }
theorem row_get {s:Sea} (O:Ok s) {log:List Hour} (L:LogOk s log) {x:Hour} (hx:x∈log) {w:World} {vc:Value} (hC:Lists w vc s.courses) {c:Nat} (hc:(c:Int)<s.cells) :
  ∃a n k b off k2,vc= .slice (some ⟨a,n,none⟩) s.courses.length k∧a<w.heap.size∧x.course.toNat<s.courses.length∧w.cell? ⟨a,n+x.course.toNat,none⟩=some (.slice (some ⟨b,off,none⟩) s.cells.toNat k2)∧b<w.heap.size∧w.cell? ⟨b,off+c,none⟩=some (.int .i64 (crs s x c:Nat)):=by
 have h:=L.hour x hx
 have hcn:x.course.toNat<s.courses.length:=by omega
 obtain⟨a,cap,rfl,hx1⟩:=hC
 obtain⟨b,off,rfl,hb,v,h1,h2⟩:=hx1 _ hcn
 have hm:=O.course _ (List.getElem_mem hcn)
 have hlen:c<(s.courses[x.course.toNat]).length:=by omega
 obtain⟨a2,cap2,rfl,hx2⟩:=h2
 obtain⟨b2,off2,rfl,hb2,h3⟩:=hx2 c hlen
 have hl2:(s.courses[x.course.toNat]).length=s.cells.toNat:=by omega
 have hv:((crs s x c:Nat):Int)=(s.courses[x.course.toNat])[c]:=by
  unfold crs
  have e1:rat s.courses x.course.toNat=s.courses[x.course.toNat]:=by simp[rat,List.getD_eq_getElem?_getD,hcn]
  rw[e1]
  have e2:iat s.courses[x.course.toNat] c=(s.courses[x.course.toNat])[c]:=by simp[iat,List.getD_eq_getElem?_getD,hlen]
  rw[e2]
  have:=hm.2 _ (List.getElem_mem hlen)
  omega
 refine⟨b,off,cap,b2,off2,cap2,rfl,hb,hcn,?_,hb2,by rw[h3,hv]⟩
 rw[Nat.mul_one]at h1
 rw[h1,hl2]
set_option maxRecDepth 100000 in
set_option maxHeartbeats 8000000 in
theorem leads_any (s:Sea) (vc vs vb vr vl:Value) (log:List Hour) (x:Hour) (set:Nat) (w:World) (O:Ok s) (L:LogOk s log) (hx:x∈log) (hC:Lists w vc s.courses) (hvs:IsSlice vs) (hvb:IsSlice vb) (hvr:IsSlice vr) (hvl:IsSlice vl) (hset:set<2^s.cells.toNat) :
  Calls Tryz.prog 214 #[.agg (voyV s vc vs vb vr vl),.int .i64 x.course,.int .i64 (set:Int)] w fun e w'=>e= .returned (.int .i64 (leads s x set:Nat))∧Ext w w':=by
 obtain⟨sa,ns,ks,rfl⟩:=hvs
 obtain⟨ab,nb,kb,rfl⟩:=hvb
 obtain⟨ar,nr,kr,rfl⟩:=hvr
 obtain⟨al,nl,kl,rfl⟩:=hvl
 have h10:=cells_pow O
 have hs10:set<2^10:=Qb hset h10
 have hC':=hC
 obtain⟨ac,cc,rfl,_⟩:=hC'
 have hxh:=L.hour x hx
 have HGET:=Qa (fun(W:World) (hE:Ext w W) (c:Nat) (hc:(c:Int)<s.cells)=>row_get O L hx (hC.ext hE) hc)
 have hbit:∀(c k:Nat),(cellsTo set 10)[k]? =some c→(c:Int)<s.cells:=fun c k h=>by
  have:=bit_lt hset (mem_cellsTo.1 (List.mem_of_getElem? h)).2
  have:=O.cells;omega
 have HBIT:=Qa hbit
 have hjl:∀k,joins (crs s x) ((cellsTo set 10).take k)<2^s.cells.toNat:=fun k=>joins_lt (fun c _=>crs_lt O L hx c)
 have hcl:∀c,crs s x c<2^s.cells.toNat:=fun c=>crs_lt O L hx c
 have h62:2^s.cells.toNat≤2^62:=Nat.le_trans h10 (by decide)
 have HJL:=Qa hjl
 have HCL:=Qa hcl
 have H62:=Qa h62
 clear hbit hjl hcl h62 h10 L hx
 refine(callsIn_wide (n:=5)).1 ?_
 refine callsIn_of_wp_marks Tryz.func214 rfl trivial ?_ rfl
 simp only[Tryz.ntmps214,List.size_toArray,List.length_cons,List.length_nil,Nat.reduceAdd,Nat.reduceSub,Array.replicate_succ,Array.replicate_zero,List.push_toArray,List.append_toArray,List.nil_append,List.cons_append]
 refine wpIn_wide.2 ?_
 go_wp2_with (first|(go_at_call 215;refine(cells_any _ _).mono ?_;rintro e w2 ⟨rfl,hbx,hb⟩))
 obtain⟨n0,hn0⟩:∃n,w.heap.size=n:=⟨_,rfl⟩
 have t0:Blk w2 n0 (voyV s (.slice ac s.courses.length cc) (.slice sa ns ks) (.slice ab nb kb) (.slice ar nr kr) (.slice al nl kl)) 291:=Blk.ext (((Blk.new' hn0.symm _ _).alloc _).alloc _) hb
 have t1:Blk w2 (n0+1) #[.int .i64 x.course] 3:=Blk.ext ((Blk.new' (by simp[hn0]) _ _).alloc _) hb
 have t2:Blk w2 (n0+1+1) #[.int .i64 0] 3:=Blk.ext (Blk.new' (by simp[hn0]) _ _) hb
 have hE2:Ext w w2:=by(with_reducible(repeat(first|exact Ext.refl _|assumption|apply Ext.alloc|apply Ext.drew|exact ext_plus _ _|(apply Ext.setCell;rotate_left;(simp<;>omega))|(apply Ext.trans;rotate_left;exact ext_plus _ _)|(apply Ext.trans;rotate_left;assumption))))
 simp only[World.size_alloc,hn0]at hbx ⊢
 obtain⟨bx,hbxx⟩:∃b,n0+1+1+1=b:=⟨_,rfl⟩
 rw[hbxx]at hbx ⊢
 have hz2:=hbx.lt
 clear hb
 refine(wpIn_wide (n:=5)).1 ?_
 refine' wpIn_range_arg rfl (by omega) (gf:=244) rfl trivial (enters_of Tryz.func244 (by kernel_rfl) rfl)
  (cells_arg set hs10 w2 bx 4 (by omega)) (by rintro k e W ⟨c,_,rfl⟩;rfl) (fun _ _ _ _ _ _ h _ _=>h)
  (fun k Y=>(Blk Y (n0+1+1) #[.int .i64 (joins (crs s x) ((cellsTo set 10).take k):Nat)] 3∧Blk Y n0 (voyV s (.slice ac s.courses.length cc) (.slice sa ns ks) (.slice ab nb kb) (.slice ar nr kr) (.slice al nl kl)) 291∧Blk Y (n0+1) #[.int .i64 x.course] 3∧Blk Y bx #[.int .i64 (set:Int)] 3)∧Ext w Y)
  (fun _ _=>False) ?own (fun _ _ _ _ h _ _=>h) ?ext (fun _ _ h=>h.1.2.2.2) ⟨⟨t2,t0,t1,hbx⟩,hE2⟩
  (fun k e a' W=>AxC set _ k a' W) (fun _ _ _ _ _ _ h _ _=>h) ?assign ?body ?done (fun _ _ _ _ h _=>h.elim)
 case own =>
  refine OwnFrom.and (fun k A B row h hg hr=> ?_) (ownFrom_below (Nat.le_refl _) hE2.size)
  have hr':=fun r e=>(hr r e).2
  exact⟨h.1.kept hg hr',h.2.1.kept hg hr',h.2.2.1.kept hg hr',h.2.2.2.kept hg hr'⟩
 case ext =>
  rintro k A B ⟨⟨h1,h2,h3,h4⟩,h5⟩ hE
  exact⟨⟨h1.ext hE,h2.ext hE,h3.ext hE,h4.ext hE⟩,h5.trans hE⟩
 case assign =>
  rintro l k e W K hk hI ⟨c,hc,rfl⟩ hK
  gi_wp2
  refine hK _ _ (KeepsFrom.refl _ _) hI ⟨c,hc,rfl⟩ ⟨c,hc,?_⟩
  refine(Act.mk.injEq _ _ _ _).mpr ⟨?_,rfl⟩
  exact rfl
 case body =>
  rintro l k e a' W hl hrec hk ⟨⟨h1,h2,h3,h4⟩,hE⟩ _ ⟨c,hc,rfl⟩
  obtain⟨a9,n9,k9,b,off,k2,hv,ha9,hci,hq1,hb,hq2⟩:=HGET.out W hE c (HBIT.out c k hc)
  cases hv
  have hor:=or_nat (a:=joins (crs s x) ((cellsTo set 10).take k)) (b:=crs s x c) (Qb (HJL.out k) H62.out) (Qb (HCL.out c) H62.out)
  have hcc:=HBIT.out c k hc
  have hst:=joins_snoc (crs s x) ((cellsTo set 10).take k) c
  rw[← take_get hc]at hst
  obtain⟨J0,hJ0⟩:∃J,joins (crs s x) ((cellsTo set 10).take k)=J:=⟨_,rfl⟩
  obtain⟨C0,hC0⟩:∃C,crs s x c=C:=⟨_,rfl⟩
  rw[hJ0]at h1 hor hst
  rw[hC0]at hq2 hor hst
  obtain⟨J1,hJ1⟩:∃J,J0 ||| C0=J:=⟨_,rfl⟩
  rw[hJ1]at hor hst
  have HST:=Qa hst
  clear hst hJ0 hC0 hJ1 hc
  have k0:=h1.cell
  have k1:=h1.lt
  have k2:=h2.cell
  have k3:=h2.lt
  have k4:=h3.cell
  have k5:=h3.lt
  have hpc:=plus_cell
  gi_wp2
  refine wpIn_region_ext 11 (fun _ _ d _ _ h=>by cases d<;>exact h) (by rintro⟨_,_,h⟩;first|exact h|exact h.elim) (by kernel_rfl) (by kernel_rfl) (by kernel_rfl) (by kernel_rfl) (by kernel_rfl) ?_
  simp only[List.take_succ_cons,List.take_zero,List.drop_succ_cons,List.drop_zero]
  repeat(any_goals(first|go_big_quiet_step(fail)|quiet_step(fail)))
  all_goals(refine wpQuiet_nil ?_;intro W2 hE3)
  have g1:=h1.ext hE3
  clear k0 k1 k2 k3 k4 k5
  have k0:=g1.cell
  have k1:=g1.lt
  have k2:=g1.free
  go_wp2
  refine⟨((ext_others hE3).trans (KeepsOthers.setCell _ _ _)).from _,⟨by rw[HST.out];exact g1.set 0 _,(h2.ext hE3).other (by simp;omega) _,(h3.ext hE3).other (by simp) _,(h4.ext hE3).other (by simp;omega) _⟩,(hE.trans hE3).setCell (p:=⟨n0+1+1,0,none⟩) (by simp;omega) _⟩
 case done =>
  rintro D Y hD ⟨⟨h1,h2,h3,h4⟩,hE⟩ hK
  have k0:=h1.cell
  have k1:=h1.lt
  rw[List.take_length]at k0
  have hfin:joins (crs s x) (cellsTo set 10)=leads s x set:=rfl
  rw[hfin]at k0
  go_wp2
  refine⟨by simp,.inl ⟨_,_,rfl,run_takeDeferred hK,?_⟩⟩
  refine⟨_,results_tmp rfl _ _ _,rfl,?_⟩
  exact Below.trans hE (belowK_b (w:=w) (Nat.le_refl _) Y D _ _ (by have:=hE2.size;omega) hK rfl rfl)
end Go.Proofs.YtgloajbgphcloaaGreat.Cn
namespace Go.Proofs.YtgloajbgphcloaaGreat.Cn
set_option linter.unusedVariables false
set_option linter.unusedSimpArgs false
open Go.RowKit Go.Shelf
open Ext renaming alloc → Qe, drew → Qf, refl → Qd, setCell → Qg, trans → Qh
open Lib renaming hid → Qa
open Nat renaming le_trans → Qc, lt_of_lt_of_le → Qb
attribute [local go_sem] Oper.semAt_some
theorem own_new (w:World) (x:Value) (hx:x.oneCell'=true) (e:TypeId):(w.alloc (.cells #[x] e)).ownsRow w.heap.size e 1 (.slice (some ⟨w.heap.size,0,none⟩) 1 1) 1 [x]:=by
 refine⟨by simp,.inr ⟨w.heap.size,1,#[x],rfl,Nat.le_refl _,heap_alloc_new w _,?_⟩⟩
 refine⟨by simp,by unfold maxLen;omega,by simp,by simp⟩
def setsTo (s:Sea) (log:List Hour) (m:Nat):List Int:=(List.range m).map fun h=>(setAt s log h:Int)
theorem setsTo_succ (s:Sea) (log:List Hour) (m:Nat):setsTo s log (m+1)=setsTo s log m++[(setAt s log m:Int)]:=by unfold setsTo;rw[List.range_succ,List.map_append];rfl
theorem setsTo_len (s:Sea) (log:List Hour) (m:Nat):(setsTo s log m).length=m:=by simp[setsTo]
theorem setsTo_get (s:Sea) (log:List Hour) {m h:Nat} (hh:h<m):(setsTo s log m)[h]? =some (setAt s log h:Int):=by simp[setsTo,hh]
theorem hour_cells {w:World} {b o:Nat} {x:Hour} (h:AtE hourC w b o x):w.cell? ⟨b,o,none⟩=some (.int .i64 x.course)∧w.cell? ⟨b,o+1,none⟩=some (.int .i64 x.star):=⟨h 0 _ rfl,h 1 _ rfl⟩
theorem star_get {s:Sea} (O:Ok s) {log:List Hour} (L:LogOk s log) {x:Hour} (hx:x∈log) {w:World} {vs:Value} (hS:Ints w vs s.stars) {st:Nat} (hst:x.star=st) :
  ∃a n k,vs= .slice (some ⟨a,n,none⟩) s.stars.length k∧a<w.heap.size∧st<s.stars.length∧w.cell? ⟨a,n+st,none⟩=some (.int .i64 ((iat s.stars st).toNat:Nat))∧(iat s.stars st).toNat<2^s.cells.toNat:=by
 have h:=L.hour x hx
 have hl:st<s.stars.length:=by omega
 obtain⟨a,cap,rfl,hx1⟩:=hS
 obtain⟨b,off,rfl,hb,h1⟩:=hx1 st hl
 have e:iat s.stars st=s.stars[st]:=by simp[iat,List.getD_eq_getElem?_getD,hl]
 have hm:=O.stars.2 _ (List.getElem_mem hl)
 refine⟨b,off,cap,rfl,hb,hl,?_,?_⟩
 ·rw[h1,e];congr 2;omega
 ·rw[e];exact toNat_lt (by omega) hm.2
set_option maxRecDepth 100000 in
set_option maxHeartbeats 8000000 in
theorem sets_any (s:Sea) (vc vs vb vr vl:Value) (log:List Hour) (w:World) (O:Ok s) (L:LogOk s log) (hC:Lists w vc s.courses) (hS:Ints w vs s.stars) (hvb:IsSlice vb) (hvr:IsSlice vr) (hH:Hours w vl log) :
  Calls Tryz.prog 167 #[.agg (voyV s vc vs vb vr vl)] w fun e w'=>∃g cap,e= .returned (.slice (some ⟨g,0,none⟩) (log.length+1) cap)∧w.heap.size≤g∧IRow w' g (setsTo s log (log.length+1))∧Ext w w':=by
 obtain⟨ab,nb,kb,rfl⟩:=hvb
 obtain⟨ar,nr,kr,rfl⟩:=hvr
 have hC':=hC
 obtain⟨ac,cc,rfl,_⟩:=hC'
 have hS':=hS
 obtain⟨sa,cs,rfl,_⟩:=hS'
 obtain⟨al,cl,rfl,hxl⟩:=hH
 have HXL:=Qa hxl
 have h10:=cells_pow O
 have h62:2^s.cells.toNat≤2^62:=Qc h10 (by decide)
 have hL12:=L.len
 have hst0:s.start=(setAt s log 0:Nat):=by unfold setAt;have:=O.start;omega
 have HST0:=Qa hst0
 have HO:=Qa O
 have HLO:=Qa L
 have HC:=Qa hC
 have HS:=Qa hS
 have H62:=Qa h62
 clear hxl h10 h62 O L hC hS hst0
 obtain⟨i0,hi,hz0,hz1,hz2⟩:=info_parts int_info
 have hpc:=plus_cell
 go_enter Tryz.func167,Tryz.ntmps167
 go_wp2
 obtain⟨n0,hn0⟩:∃n,w.heap.size=n:=⟨_,rfl⟩
 obtain⟨w1,hw1⟩:∃y,(w.alloc (.cells (voyV s (.slice ac s.courses.length cc) (.slice sa s.stars.length cs) (.slice ab nb kb) (.slice ar nr kr) (.slice al log.length cl)) 291)).alloc (.cells #[.int .i64 s.start] 3)=y:=⟨_,rfl⟩
 have hV:Blk w1 n0 (voyV s (.slice ac s.courses.length cc) (.slice sa s.stars.length cs) (.slice ab nb kb) (.slice ar nr kr) (.slice al log.length cl)) 291:=by rw[← hw1];exact(Blk.new' hn0.symm _ _).alloc _
 have hE1:Ext w w1:=by rw[← hw1];(with_reducible(repeat(first|exact Qd _|assumption|apply Qe|apply Qf|exact ext_plus _ _|(apply Qg;rotate_left;(simp<;>omega))|(apply Qh;rotate_left;exact ext_plus _ _)|(apply Qh;rotate_left;assumption))))
 have hown:w1.ownsRow (n0+1) 3 1 (.slice (some ⟨n0+1,0,none⟩) 1 1) 1 ((setsTo s log 1).map (Value.int .i64)):=by
  have h:=own_new (w.alloc (.cells (voyV s (.slice ac s.courses.length cc) (.slice sa s.stars.length cs) (.slice ab nb kb) (.slice ar nr kr) (.slice al log.length cl)) 291)) (.int .i64 s.start) rfl 3
  rw[hw1]at h
  have e:w.heap.size+1=n0+1:=by rw[hn0]
  simp only[World.size_alloc,e]at h
  rw[HST0.out]at h
  exact h
 have hz1w:n0+1≤w1.heap.size:=by rw[← hw1];simp[hn0]
 simp only[hw1,hn0]
 have HN0:=Qa hn0
 clear hw1 hn0
 go_loopw [3,14] (fun v i wr=>∃k:Nat,k≤log.length∧i= .int .i64 k∧wr.ownsRow (n0+1) 3 1 v (k+1) ((setsTo s log (k+1)).map (Value.int .i64))∧Blk wr n0 (voyV s (.slice ac s.courses.length cc) (.slice sa s.stars.length cs) (.slice ab nb kb) (.slice ar nr kr) (.slice al log.length cl)) 291∧Ext w wr∧n0+1≤wr.heap.size) (fun _ i _=>log.length - (intOf i).toNat)
 case atStart=>exact⟨0,Nat.zero_le _,rfl,hown,hV,hE1,hz1w⟩
 case round =>
  rename World=>wr
  obtain⟨k,hk,rfl,hown,hV,hE,hz⟩:=hrel
  obtain⟨g,cap,rfl,hgb,hgl⟩:=own_pos hown (by omega)
  by_cases hlt:k<log.length
  ·obtain⟨bh,off,rfl,hb2,hAt⟩:=HXL.out k hlt
   have hx:=List.getElem_mem hlt
   have hsn:setAt s log (k+1)=nextS s log[k] (setAt s log k):=by simp[setAt,hat,List.getD_eq_getElem?_getD,hlt]
   have hcw:=hour_cells (ate_stays _ _ _ _ _ _ hE hb2 hAt)
   have hbl:=Qb hb2 hE.size
   obtain⟨x,hxx⟩:∃x,log[k]=x:=⟨_,rfl⟩
   rw[hxx]at hx hsn hcw
   have hset:=set_lt HO.out HLO.out k (by omega)
   have hgk:=own_cell hown k (.int .i64 (setAt s log k:Nat)) (by rw[List.getElem?_map,setsTo_get s log (by omega)];rfl)
   have hvl:IsSlice (.slice (some ⟨bh,off,none⟩) log.length cl):=⟨_,_,_,rfl⟩
   obtain⟨S0,hS0⟩:∃S,setAt s log k=S:=⟨_,rfl⟩
   rw[hS0]at hset hgk hsn
   have hj:=joins_lt (f:=crs s x) (n:=s.cells.toNat) (l:=cellsTo S0 10) (fun c _=>crs_lt HO.out HLO.out hx c)
   have HL:=Qa (fun W hEW=>leads_any s (.slice ac s.courses.length cc) (.slice sa s.stars.length cs) (.slice ab nb kb) (.slice ar nr kr) (.slice (some ⟨bh,off,none⟩) log.length cl) log x S0 W HO.out HLO.out hx (HC.out.ext hEW) ⟨_,_,_,rfl⟩ ⟨_,_,_,rfl⟩ ⟨_,_,_,rfl⟩ hvl hset)
   have HG:=Qa (fun(W:World) (hEW:Ext w W) (st:Nat) (hst:x.star=st)=>star_get HO.out HLO.out hx (HS.out.ext hEW) hst)
   have HX:=Qa hx
   have hjr:leads s x S0=joins (crs s x) (cellsTo S0 10):=rfl
   rw[← hjr]at hj
   obtain⟨J,hJ⟩:∃J,leads s x S0=J:=⟨_,rfl⟩
   have hns:nextS s x S0=if 0≤x.star then J &&& (iat s.stars x.star.toNat).toNat else J:=by unfold nextS;rw[hJ]
   rw[hJ]at hj
   have HL':=Qa (fun W hEW=>(hJ▸HL.out W hEW:Calls Tryz.prog 214 #[.agg (voyV s (.slice ac s.courses.length cc) (.slice sa s.stars.length cs) (.slice ab nb kb) (.slice ar nr kr) (.slice (some ⟨bh,off,none⟩) log.length cl)),.int .i64 x.course,.int .i64 (S0:Int)] W fun e w'=>e= .returned (.int .i64 (J:Nat))∧Ext W w'))
   have HSN:=Qa (hsn.trans hns)
   have HJ:=Qa hj
   have HHR:=Qa (HLO.out.hour x hx)
   clear HL hsn hns hj hjr hJ hS0 hset hxx hAt hx hvl
   obtain⟨h0,h1⟩:=hcw
   go_wp2
   obtain⟨w4,hw4⟩:∃y,wr.alloc (.cells #[.int .i64 x.course,.int .i64 x.star] 100)=y:=⟨_,rfl⟩
   obtain⟨n4,hn4⟩:∃y,wr.heap.size=y:=⟨_,rfl⟩
   have hE4:Ext wr w4:=by rw[← hw4];(with_reducible(repeat(first|exact Qd _|assumption|apply Qe|apply Qf|exact ext_plus _ _|(apply Qg;rotate_left;(simp<;>omega))|(apply Qh;rotate_left;exact ext_plus _ _)|(apply Qh;rotate_left;assumption))))
   have hB4:Blk w4 n4 #[.int .i64 x.course,.int .i64 x.star] 100:=by rw[← hw4];exact Blk.new' hn4.symm _ _
   have hV4:=hV.ext hE4
   have hown4:=own_ext hown hE4
   have hgk4:=hE4.cells.1 _ _ hgl |>.trans hgk
   have hgl4:=Qb hgl hE4.size
   have hz4:=Qc hz hE4.size
   have hEw4:=hE.trans hE4
   simp only[hw4,hn4]
   clear hw4 h0 h1 hgk hown hV
   have k0:=hB4.cell
   have k1:=hB4.lt
   have k2:=hV4.cell
   have k3:=hV4.lt
   refine wp_region_ext 8 (fun _ _ d _ _ h=>by cases d<;>exact h) (by kernel_rfl) (by kernel_rfl) (by kernel_rfl) (by kernel_rfl) ?_
   simp only[List.take_succ_cons,List.take_zero,List.drop_succ_cons,List.drop_zero]
   repeat(any_goals(first|go_big_quiet_step((go_at_call 214;exact ext_quiet (HL'.out _ (hEw4.trans (by(with_reducible(repeat(first|exact Qd _|assumption|apply Qe|apply Qf|exact ext_plus _ _|(apply Qg;rotate_left;(simp<;>omega))|(apply Qh;rotate_left;exact ext_plus _ _)|(apply Qh;rotate_left;assumption)))))))))|quiet_step((go_at_call 214;exact ext_quiet (HL'.out _ (hEw4.trans (by(with_reducible(repeat(first|exact Qd _|assumption|apply Qe|apply Qf|exact ext_plus _ _|(apply Qg;rotate_left;(simp<;>omega))|(apply Qh;rotate_left;exact ext_plus _ _)|(apply Qh;rotate_left;assumption)))))))))))
   all_goals(refine wpQuiet_nil ?_;intro w5 hE5)
   have hB5:=hB4.ext hE5
   have hV5:=hV4.ext hE5
   have hown5:=own_ext hown4 hE5
   have hgl5:=Qb hgl4 hE5.size
   have hz5:=Qc hz4 hE5.size
   have hEw5:=hEw4.trans hE5
   clear k0 k1 k2 k3 hgk4 hgl4 hz4 hown4 hE4
   have k0:=hB5.cell
   have k1:=hB5.lt
   have k2:=hV5.cell
   have k3:=hV5.lt
   by_cases hs:0≤x.star
   ·obtain⟨st,hst⟩:=Int.eq_ofNat_of_zero_le hs
    obtain⟨a9,n9,k9,hv9,ha9,hl9,hc9,hb9⟩:=HG.out _ hEw5 st hst
    cases hv9
    have hnx:setAt s log (k+1)=J &&& (iat s.stars st).toNat:=by rw[HSN.out,if_pos hs,hst];rfl
    have hand:=and_nat (a:=J) (b:=(iat s.stars st).toNat) (Qb HJ.out H62.out) (Qb hb9 H62.out)
    obtain⟨T,hT⟩:∃T,(iat s.stars st).toNat=T:=⟨_,rfl⟩
    rw[hT]at hc9 hand hnx
    obtain⟨Z,hZ⟩:∃Z,J &&& T=Z:=⟨_,rfl⟩
    rw[hZ]at hand hnx
    rw[hst]at k0
    have HNX:=Qa hnx
    clear hT hZ hnx hb9 hst hs
    have hs2:(0:Int)≤(st:Int):=by omega
    go_wp2_with (first|((at_builtin;refine wpList_append_own _ rfl _ _ 30 rfl (n0+1) 3 i0 (.int .i64 0) 1 8 Tryz.underlying30 hi hz0 hz1 hz2 rfl (by decide) _ _ _ rfl (hown5.alloc _) ⟨w5.heap.size,0,none⟩ 1 1 [.int .i64 ((Z:Int))] rfl rfl (cell_one _ _ _ (by simp)) (one_int _) (by unfold maxLen;omega) (by omega) (by simp<;>omega) ?_;intro v' w1 hown' hgrow _;obtain⟨g',cap',rfl⟩:=own_succ hown')))
    go_roundw
    case rel =>
     have hV6:=(hV5.alloc _).grown hgrow (own_base hown5) (by omega)
     have hE6:=(hEw5.alloc _).grown hgrow (fun k e=>by have:=own_base hown5 k e;rw[HN0.out];omega)
     refine⟨k+1,by omega,by go_num,?_,hV6,hE6,hV6.lt⟩
     rw[setsTo_succ,List.map_append,HNX.out]
     exact hown'
    case measure=>simp[intOf];omega
   ·have hnx:setAt s log (k+1)=J:=by rw[HSN.out,if_neg hs]
    have HNX:=Qa hnx
    clear hnx
    go_wp2_with (first|((at_builtin;refine wpList_append_own _ rfl _ _ 30 rfl (n0+1) 3 i0 (.int .i64 0) 1 8 Tryz.underlying30 hi hz0 hz1 hz2 rfl (by decide) _ _ _ rfl (hown5.alloc _) ⟨w5.heap.size,0,none⟩ 1 1 [.int .i64 ((J:Int))] rfl rfl (cell_one _ _ _ (by simp)) (one_int _) (by unfold maxLen;omega) (by omega) (by simp<;>omega) ?_;intro v' w1 hown' hgrow _;obtain⟨g',cap',rfl⟩:=own_succ hown')))
    go_roundw
    case rel =>
     have hV6:=(hV5.alloc _).grown hgrow (own_base hown5) (by omega)
     have hE6:=(hEw5.alloc _).grown hgrow (fun k e=>by have:=own_base hown5 k e;rw[HN0.out];omega)
     refine⟨k+1,by omega,by go_num,?_,hV6,hE6,hV6.lt⟩
     rw[setsTo_succ,List.map_append,HNX.out]
     exact hown'
    case measure=>simp[intOf];omega
  ·obtain rfl:k=log.length:=by omega
   go_wp2
   go_ret
   exact⟨g,cap,rfl,by rw[HN0.out];omega,IRow.of_own (by rw[setsTo_len];exact hown),hE⟩
end Go.Proofs.YtgloajbgphcloaaGreat.Cn
namespace Go.Proofs.YtgloajbgphcloaaGreat.Cn
set_option linter.unusedVariables false
set_option linter.unusedSimpArgs false
open Go.RowKit Go.Shelf
open Blk renaming new' → Qi
open Ext renaming refl → Qd, trans → Qh
open Lib renaming hid → Qa
open List renaming drop_succ_cons → Qp, setIfInBounds_toArray → Qj, set_cons_succ → Ql, set_cons_zero → Qk, take_succ_cons → Qo, take_zero → Qn
open Nat renaming le_refl → Qm, lt_of_lt_of_le → Qb
attribute [local go_sem] Oper.semAt_some
def mixL (s:Sea) (log:List Hour) (j:Nat):List Int:=(List.range (log.length+1)).map fun p=>if p<j then(setAt s log p:Int)else(hind s log log.length (log.length - p):Int)
theorem mixL_len (s:Sea) (log:List Hour) (j:Nat):(mixL s log j).length=log.length+1:=by simp[mixL]
theorem mixL_start (s:Sea) (log:List Hour):mixL s log log.length=setsTo s log (log.length+1):=by
 refine List.map_congr_left fun p hp=> ?_
 have:=List.mem_range.1 hp
 by_cases h:p<log.length
 ·rw[if_pos h]
 ·obtain rfl:p=log.length:=by omega
  rw[if_neg h,Nat.sub_self];rfl
theorem mixL_end (s:Sea) (log:List Hour):mixL s log 0=hindL s log:=by
 refine List.map_congr_left fun p _=> ?_
 rw[if_neg (by omega)]
theorem mixL_get (s:Sea) (log:List Hour) (j p:Nat) (h:p<log.length+1):(mixL s log j)[p]'(by rw[mixL_len];exact h)=if p<j then(setAt s log p:Int)else(hind s log log.length (log.length - p):Int):=by
 simp[mixL]
theorem mixL_step (s:Sea) (log:List Hour) {h:Nat} (hh:h<log.length):(mixL s log (h+1)).set h (hind s log log.length (log.length - h):Int)=mixL s log h:=by
 refine List.ext_getElem (by simp[mixL_len]) fun p h1 h2=> ?_
 rw[List.getElem_set]
 have hp:p<log.length+1:=by simpa[mixL_len]using h2
 rw[mixL_get _ _ _ _ hp,mixL_get _ _ _ _ hp]
 by_cases e:h=p
 ·subst e;rw[if_pos rfl,if_neg (by omega)]
 ·rw[if_neg e]
  by_cases hlt:p<h
  ·rw[if_pos hlt,if_pos (by omega)]
  ·rw[if_neg hlt,if_neg (by omega)]
theorem hind_step (s:Sea) (log:List Hour) {h:Nat} (hh:h<log.length):hind s log log.length (log.length - h)=backS s (hat log h) (setAt s log h) (hind s log log.length (log.length - (h+1))):=by
 obtain⟨d,hd⟩:∃d,log.length - h=d+1:=⟨log.length - (h+1),by omega⟩
 rw[hd,hind,show log.length - (d+1)=h by omega,show log.length - (h+1)=d by omega]
set_option maxRecDepth 100000 in
set_option maxHeartbeats 8000000 in
theorem hindsight_any (s:Sea) (vc vs vb vr vl:Value) (log:List Hour) (w:World) (O:Ok s) (L:LogOk s log) (hC:Lists w vc s.courses) (hS:Ints w vs s.stars) (hvb:IsSlice vb) (hvr:IsSlice vr) (hH:Hours w vl log) :
  Calls Tryz.prog 168 #[.agg (voyV s vc vs vb vr vl)] w fun e w'=>∃g cap,e= .returned (.slice (some ⟨g,0,none⟩) (log.length+1) cap)∧w.heap.size≤g∧IRow w' g (hindL s log)∧Ext w w':=by
 have HSA:=Qa (fun W hE=>sets_any s vc vs vb vr vl log W O L (hC.ext hE) (hS.ext hE) hvb hvr (hH.ext hE))
 obtain⟨ab,nb,kb,rfl⟩:=hvb
 obtain⟨ar,nr,kr,rfl⟩:=hvr
 have hC':=hC
 obtain⟨ac,cc,rfl,_⟩:=hC'
 have hS':=hS
 obtain⟨sa,cs,rfl,_⟩:=hS'
 obtain⟨al,cl,rfl,hxl⟩:=hH
 have HXL:=Qa hxl
 have h10:=cells_pow O
 have h62:2^s.cells.toNat≤2^62:=Nat.le_trans h10 (by decide)
 have hL12:=L.len
 have HO:=Qa O
 have HLO:=Qa L
 have HC:=Qa hC
 have H62:=Qa h62
 clear hxl h10 h62 O L hC hS
 refine(callsIn_wide (n:=5)).1 ?_
 refine callsIn_of_wp_marks Tryz.func168 rfl trivial ?_ rfl
 simp only[Tryz.ntmps168,List.size_toArray,List.length_cons,List.length_nil,Nat.reduceAdd,Nat.reduceSub,Array.replicate_succ,Array.replicate_zero,List.push_toArray,List.append_toArray,List.nil_append,List.cons_append]
 gi_wp2_with (first|(refine⟨trivial,?_⟩;gi_at_call 167;refine(callsIn_wide.2 (HSA.out _ (by(with_reducible(repeat(first|exact Qd _|assumption|apply Ext.alloc|apply Ext.drew|exact ext_plus _ _|(apply Ext.setCell;rotate_left;(simp<;>omega))|(apply Qh;rotate_left;exact ext_plus _ _)|(apply Qh;rotate_left;assumption))))))).mono ?_;rintro e w2 ⟨g,cap,rfl,hgb,hrow,hE2⟩;have hb2:=(Qi rfl (voyV s (.slice ac s.courses.length cc) (.slice sa s.stars.length cs) (.slice ab nb kb) (.slice ar nr kr) (.slice al log.length cl)) 291:Blk (w.alloc _) w.heap.size _ _).ext hE2;have k0:=hb2.cell;have k1:=hb2.lt))
 obtain⟨n0,hn0⟩:∃n,w.heap.size=n:=⟨_,rfl⟩
 obtain⟨b3,hb3⟩:∃n,w2.heap.size=n:=⟨_,rfl⟩
 obtain⟨w3,hw3⟩:∃y,(w2.alloc (.cells #[.slice (some ⟨g,0,none⟩) (log.length+1) cap] 30)).alloc (.cells #[.int .i64 ((log.length:Int) - 1)] 3)=y:=⟨_,rfl⟩
 have hE23:Ext w2 w3:=by rw[← hw3];(with_reducible(repeat(first|exact Qd _|assumption|apply Ext.alloc|apply Ext.drew|exact ext_plus _ _|(apply Ext.setCell;rotate_left;(simp<;>omega))|(apply Qh;rotate_left;exact ext_plus _ _)|(apply Qh;rotate_left;assumption))))
 have hB3:Blk w3 b3 #[.slice (some ⟨g,0,none⟩) (log.length+1) cap] 30:=by rw[← hw3];exact(Qi hb3.symm _ _).alloc _
 have hB4:Blk w3 (b3+1) #[.int .i64 ((log.length:Int) - 1)] 3:=by rw[← hw3];exact Qi (by simp[hb3]) _ _
 have hV:Blk w3 n0 (voyV s (.slice ac s.courses.length cc) (.slice sa s.stars.length cs) (.slice ab nb kb) (.slice ar nr kr) (.slice al log.length cl)) 291:=by rw[← hn0];exact hb2.ext hE23
 have hgl:g<b3:=by rw[← hb3];exact hrow.lt
 have hgn:n0<g:=by rw[World.size_alloc,hn0]at hgb;omega
 have hE3:Ext w w3:=((Qd w).alloc _).trans hE2 |>.trans hE23
 have hrow3:IRow w3 g (mixL s log log.length):=by rw[mixL_start];exact hrow.ext hE23
 simp only[hw3,hb3,hn0]
 have HN0:=Qa hn0
 clear k0 k1 hb2 hE2 hrow hw3 hn0 hb3 hE23 hgb
 obtain⟨vv,hvv⟩:∃vv,voyV s (.slice ac s.courses.length cc) (.slice sa s.stars.length cs) (.slice ab nb kb) (.slice ar nr kr) (.slice al log.length cl)=vv:=⟨_,rfl⟩
 refine wpIn_loop_marks n0 [4,5,12,13,14,15,16,17,18,19,20,21,22,23,24,25,26,27,28,29,30,31,32,33,34,35,36,37,38,39,40,41,42,43,44,45,46,47,48,49,50,51] [.pointer (some ⟨b3+1,0,none⟩),undef,undef,undef,undef,undef,undef,undef,undef,undef,undef,undef,undef,undef,undef,undef,undef,undef,undef,undef,undef,undef,undef,undef,undef,undef,undef,undef,undef,undef,undef,undef,undef,undef,undef,undef,undef,undef,undef,undef,undef,undef]
  (fun j vs wr=>∃(b4:Nat) (u5 u12 u13 u14 u15 u16 u17 u18 u19 u20 u21 u22 u23 u24 u25 u26 u27 u28 u29 u30 u31 u32 u33 u34 u35 u36 u37 u38 u39 u40 u41 u42 u43 u44 u45 u46 u47 u48 u49 u50 u51:Value),vs=[.pointer (some ⟨b4,0,none⟩),u5,u12,u13,u14,u15,u16,u17,u18,u19,u20,u21,u22,u23,u24,u25,u26,u27,u28,u29,u30,u31,u32,u33,u34,u35,u36,u37,u38,u39,u40,u41,u42,u43,u44,u45,u46,u47,u48,u49,u50,u51]∧j≤log.length∧b3<b4∧Blk wr b4 #[.int .i64 ((j:Int) - 1)] 3∧Blk wr b3 #[.slice (some ⟨g,0,none⟩) (log.length+1) cap] 30∧Blk wr n0 (voyV s (.slice ac s.courses.length cc) (.slice sa s.stars.length cs) (.slice ab nb kb) (.slice ar nr kr) (.slice al log.length cl)) 291∧IRow wr g (mixL s log j)∧Ext w wr)
  log.length (Marks.nil _ _) (by simp only[setAll,Qj,Qk,Ql]) ⟨b3+1,undef,undef,undef,undef,undef,undef,undef,undef,undef,undef,undef,undef,undef,undef,undef,undef,undef,undef,undef,undef,undef,undef,undef,undef,undef,undef,undef,undef,undef,undef,undef,undef,undef,undef,undef,undef,undef,undef,undef,undef,undef,rfl,Qm _,by omega,hB4,hB3,hV,hrow3,hE3⟩ ?_
 clear hB4 hB3 hV hrow3 hE3 hvv
 rintro j ds vs wr hM ⟨b4,u5,u12,u13,u14,u15,u16,u17,u18,u19,u20,u21,u22,u23,u24,u25,u26,u27,u28,u29,u30,u31,u32,u33,u34,u35,u36,u37,u38,u39,u40,u41,u42,u43,u44,u45,u46,u47,u48,u49,u50,u51,rfl,hj,hb4,hB4,hB3,hV,hrow,hE⟩
 simp only[setAll,Qj,Qk,Ql]
 have hMx:=Qa hM
 have k0:=hB4.cell
 have k1:=hB4.lt
 have k2:=hB3.cell
 have k3:=hB3.lt
 cases j with
 | zero =>
  gi_wp2
  refine leaves_marks hMx.out (fun w' hS=>⟨_,results_tmp rfl _ _ _,g,cap,rfl,by rw[HN0.out];omega,?_,hS.ext hE (by rw[HN0.out];exact Qm _)⟩)
  rw[← mixL_end]
  exact hS.row hrow
 | succ h =>
  have hlt:h<log.length:=by omega
  obtain⟨bh,off,rfl,hb2,hAt⟩:=HXL.out h hlt
  have hx:=List.getElem_mem hlt
  have hhat:hat log h=log[h]:=by simp[hat,List.getD_eq_getElem?_getD,hlt]
  have hcw:=hour_cells (ate_stays _ _ _ _ _ _ hE hb2 hAt)
  have hst:=hind_step s log hlt
  obtain⟨x,hxx⟩:∃x,log[h]=x:=⟨_,rfl⟩
  rw[hxx]at hx hhat hcw
  rw[hhat]at hst
  have hset:=set_lt HO.out HLO.out h (by omega)
  have hset10:setAt s log h<2^10:=Qb hset (cells_pow HO.out)
  have hnxt:=hind_lt HO.out HLO.out log.length (Qm _) (log.length - (h+1)) (by omega)
  have hg0:=hrow.get h (by rw[mixL_len];omega)
  rw[mixL_get _ _ _ _ (by omega),if_pos (by omega)]at hg0
  have hsub:((h+1:Nat):Int) - 1=(h:Nat):=by omega
  rw[hsub]at hB4 k0
  clear hsub
  have hgl2:=hrow.lt
  gi_wp2_with (first|(refine⟨trivial,?_⟩;gi_at_call 215;refine(callsIn_wide.2 (cells_any _ _)).mono ?_;rintro e w5 ⟨rfl,hbx,hE5⟩))
  have hE5w:=hE.trans hE5
  have hM5:=hM.ext hE5
  have hcnt:∀(c k:Nat),(cellsTo (setAt s log h) 10)[k]? =some c→(c:Int)<s.cells:=fun c k h'=>by
   have:=bit_lt hset (mem_cellsTo.1 (List.mem_of_getElem? h')).2
   have:=HO.out.cells;omega
  have HBIT:=Qa hcnt
  have hrow5:=hrow.ext hE5
  have hV5:=hV.ext hE5
  have hB35:=hB3.ext hE5
  have hB45:=hB4.ext hE5
  have hnext:(mixL s log (h+1))[h+1]? =some ((hind s log log.length (log.length - (h+1)):Nat):Int):=by rw[List.getElem?_eq_getElem (by rw[mixL_len];omega),mixL_get _ _ _ _ (by omega),if_neg (by omega)]
  have hfin:=mixL_step s log hlt
  rw[hst]at hfin
  have hself:(mixL s log (h+1)).set h (setAt s log h:Int)=mixL s log (h+1):=by
   refine List.ext_getElem (by simp) fun p h1 h2=> ?_
   rw[List.getElem_set]
   by_cases e:h=p
   ·subst e;rw[if_pos rfl,mixL_get _ _ _ _ (by omega),if_pos (by omega)]
   ·rw[if_neg e]
  obtain⟨M0,hM0⟩:∃M0,mixL s log (h+1)=M0:=⟨_,rfl⟩
  have hMl:M0.length=log.length+1:=by rw[← hM0,mixL_len]
  rw[hM0]at hfin hself hrow5 hnext
  obtain⟨S0,hS0⟩:∃S0,setAt s log h=S0:=⟨_,rfl⟩
  obtain⟨X0,hX0⟩:∃X0,hind s log log.length (log.length - (h+1))=X0:=⟨_,rfl⟩
  rw[hS0]at hfin hself hbx hset10
  rw[hX0]at hfin hnext hnxt
  rw[hS0]at HBIT
  obtain⟨bx,hbxx⟩:∃b,wr.heap.size=b:=⟨_,rfl⟩
  simp only[hbxx,hS0]at hbx ⊢
  rw[hbxx]at hgl2 k1
  obtain⟨PC,hPC⟩:∃PC:Nat→Bool,(fun c=>(crs s x c &&& X0) == 0)=PC:=⟨_,rfl⟩
  have hpcc:∀c,PC c=((crs s x c &&& X0) == 0):=fun c=>by rw[← hPC]
  have hfin':M0.set h (drops PC S0 (cellsTo S0 10):Int)=mixL s log h:=by rw[← hPC];exact hfin
  have hz5:=hbx.lt
  have HHX:=Qa hx
  clear k0 k1 k2 k3 hcnt hrow hV hB3 hB4 hst hM0 hS0 hX0 hfin hset hM hcw hPC hg0 hhat
  refine' wpIn_range_arg rfl (by omega) (gf:=244) rfl trivial (enters_of Tryz.func244 (by kernel_rfl) rfl)
   (cells_arg S0 hset10 w5 bx 4 (by omega)) (by rintro k e W ⟨c,_,rfl⟩;rfl) (fun _ _ _ _ _ _ h _ _=>h)
   (fun k Y=>((Blk Y n0 (voyV s (.slice ac s.courses.length cc) (.slice sa s.stars.length cs) (.slice ab nb kb) (.slice ar nr kr) (.slice (some ⟨bh,off,none⟩) log.length cl)) 291∧Blk Y b3 #[.slice (some ⟨g,0,none⟩) (log.length+1) cap] 30∧Blk Y b4 #[.int .i64 (h:Int)] 3∧Blk Y bx #[.int .i64 (S0:Int)] 3∧IRow Y g (M0.set h (drops PC S0 ((cellsTo S0 10).take k):Nat)))∧Marks n0 ds Y)∧Ext w Y)
   (fun _ _=>False) ?own (fun _ _ _ _ h _ _=>h) ?ext (fun _ _ h=>h.1.1.2.2.2.1) ⟨⟨⟨hV5,hB35,hB45,hbx,by rw[Qn];show IRow w5 g (M0.set h (S0:Int));rw[hself];exact hrow5⟩,hM5⟩,hE5w⟩
   (fun k e a' W=>AxC S0 _ k a' W) (fun _ _ _ _ _ _ h _ _=>h) ?assign ?body ?done (fun _ _ _ _ h _=>h.elim)
  case own =>
   refine OwnFrom.and (OwnFrom.and (fun k A B row h hg hr=> ?_) (ownFrom_marks hM5)) (ownFrom_below (Qm _) hE5w.size)
   have hr':=fun r e=>(hr r e).2
   exact⟨h.1.kept hg hr',h.2.1.kept hg hr',h.2.2.1.kept hg hr',h.2.2.2.1.kept hg hr',h.2.2.2.2.kept hg hr'⟩
  case ext =>
   rintro k A B ⟨⟨⟨h1,h2,h3,h4,h5⟩,h6⟩,h7⟩ hE
   exact⟨⟨⟨h1.ext hE,h2.ext hE,h3.ext hE,h4.ext hE,h5.ext hE⟩,h6.ext hE⟩,h7.trans hE⟩
  case assign =>
   rintro l k e W K hk hI ⟨c,hc,rfl⟩ hK
   gi_wp2
   refine hK _ _ (KeepsFrom.refl _ _) hI ⟨c,hc,rfl⟩ ⟨c,hc,?_⟩
   refine(Act.mk.injEq _ _ _ _).mpr ⟨?_,rfl⟩
   exact rfl
  case body =>
   rintro l k e a' W hl hrec hk ⟨⟨⟨h1,h2,h3,h4,h5⟩,h6⟩,hE⟩ _ ⟨c,hc,rfl⟩
   have hcc:=HBIT.out c k hc
   obtain⟨a9,n9,k9,b,off2,k2,hv,ha9,hci,hq1,hb,hq2⟩:=row_get HO.out HLO.out HHX.out (HC.out.ext hE) hcc
   cases hv
   have hxh:=HLO.out.hour x HHX.out
   have hcl:=crs_lt HO.out HLO.out HHX.out c
   have hlogc:=hour_cells (ate_stays _ _ _ _ _ _ hE hb2 hAt)
   rw[hxx]at hlogc
   obtain⟨h0c,_⟩:=hlogc
   have hbl:=Qb hb2 hE.size
   have hst:=drops_snoc PC S0 ((cellsTo S0 10).take k) c
   rw[← take_get hc,hpcc c]at hst
   have hDl:=drops_lt (p:=PC) hset10 ((cellsTo S0 10).take k)
   have hD:=h5.get h (by simp;omega)
   have hX:=h5.get (h+1) (by simp;omega)
   have hx1:(M0.set h (drops PC S0 ((cellsTo S0 10).take k):Nat))[h+1]'(by simp;omega)=((X0:Nat):Int):=by
    rw[List.getElem_set_ne (by omega)]
    have:=List.getElem?_eq_some_iff.1 hnext
    exact this.2
   rw[hx1]at hX
   rw[List.getElem_set_self]at hD
   have hand:=and_nat (a:=crs s x c) (b:=X0) (Qb hcl H62.out) (Qb hnxt H62.out)
   have hc10:c<10:=by have:=(mem_cellsTo.1 (List.mem_of_getElem? hc)).1;omega
   obtain⟨D0,hD0⟩:∃D,drops PC S0 ((cellsTo S0 10).take k)=D:=⟨_,rfl⟩
   rw[hD0]at h5 hst hDl hD
   obtain⟨C0,hC0⟩:∃C,crs s x c=C:=⟨_,rfl⟩
   rw[hC0]at hq2 hand hst
   obtain⟨Z0,hZ0⟩:∃Z,C0 &&& X0=Z:=⟨_,rfl⟩
   rw[hZ0]at hand hst
   have hless:=less_nat (a:=D0) (b:=2^c) (Nat.lt_trans hDl (by decide)) (Nat.lt_of_le_of_lt (Nat.pow_le_pow_right (by decide) (show c≤9 by omega)) (by decide))
   have HST:=Qa hst
   have HLESS:=Qa hless
   have HPOW:=Qa (pow_nat c)
   clear hst hD0 hC0 hZ0 hx1 hcl hDl hless hpcc
   have k0:=h1.cell
   have k1:=h1.lt
   have k4:=h2.cell
   have k5:=h2.lt
   have k6:=h3.cell
   have k7:=h3.lt
   have k8:=h5.lt
   have hpc:=plus_cell
   gi_wp2
   refine wpIn_region_ext 20 (fun _ _ d _ _ h=>by cases d<;>exact h) (by rintro⟨_,_,h⟩;first|exact h|exact h.elim) (by kernel_rfl) (by kernel_rfl) (by kernel_rfl) (by kernel_rfl) (by kernel_rfl) ?_
   simp only[Qo,Qn,Qp,List.drop_zero]
   repeat(any_goals(first|go_big_quiet_step(fail)|quiet_step(fail)))
   all_goals(refine wpQuiet_nil ?_;intro W2 hE2)
   have hDD:=hE2.cells.1 _ _ k8 |>.trans hD
   have g1:=h1.ext hE2
   have g2:=h2.ext hE2
   have g3:=h3.ext hE2
   have g4:=h4.ext hE2
   have g5:=h5.ext hE2
   have g6:=h6
   have g7:=hE.trans hE2
   clear k0 k1 k4 k5 k6 k7 k8 h1 h2 h3 h4 h5 h6 hE hD hX hq1 hq2 h0c
   have k4:=g2.cell
   have k5:=g2.lt
   have k6:=g3.cell
   have k7:=g3.lt
   have k8:=g5.lt
   have k9:=g5.free h
   by_cases hz0:Z0=0
   ·subst hz0
    have hst:drops PC S0 ((cellsTo S0 10).take (k+1))=less D0 (2^c):=HST.out
    have HST2:=Qa hst
    clear hst
    go_wp2
    gi_wp2
    refine wpIn_region_ext 8 (fun _ _ d _ _ h=>by cases d<;>exact h) (by rintro⟨_,_,h⟩;first|exact h|exact h.elim) (by kernel_rfl) (by kernel_rfl) (by kernel_rfl) (by kernel_rfl) (by kernel_rfl) ?_
    simp only[Qo,Qn,Qp,List.drop_zero]
    repeat(any_goals(first|go_big_quiet_step(fail)|quiet_step(fail)))
    all_goals(refine wpQuiet_nil ?_;intro W4 hE4)
    have j2:=g2.ext hE4
    have j5:=g5.ext hE4
    have k10:=(hE4.cells.1 g h k8).trans hDD
    have hw2:wrap64 ((2:Int)^c)=((2^c:Nat):Int):=by
     rw[HPOW.out]
     have h':2^c<2^10:=Nat.pow_lt_pow_right (by decide) hc10
     generalize 2^c=q at h' ⊢
     unfold wrap64;omega
    have hnew:bits .andNot .i64 (D0:Int) (wrap64 ((2:Int)^c))=((less D0 (2^c):Nat):Int):=by rw[hw2];exact HLESS.out
    obtain⟨D1,hD1⟩:∃D1,less D0 (2^c)=D1:=⟨_,rfl⟩
    rw[hD1]at hnew HST2
    clear k4 k5 k6 k7 k8 k9 hDD g5 hw2 hD1
    have k8:=j5.lt
    have k9:=j5.free h
    go_wp2
    have hnb:n0<g:=hgn
    refine⟨(((ext_others hE2).trans (ext_others hE4)).trans (KeepsOthers.setCell _ _ _)).from _,⟨⟨(g1.ext hE4).other (by simp;omega) _,j2.other (by simp;omega) _,(g3.ext hE4).other (by simp;omega) _,(g4.ext hE4).other (by simp;omega) _,?_⟩,((g6.ext hE2).ext hE4).set _ _⟩,(g7.trans hE4).setCell (p:=⟨g,h,none⟩) (by simp;rw[HN0.out];omega) _⟩
    rw[HST2.out]
    have:=IRow.set j5 h (by simp;omega) (D1:Int)
    rw[List.set_set]at this
    exact this
   ·have hst:drops PC S0 ((cellsTo S0 10).take (k+1))=D0:=by rw[HST.out,if_neg (by simpa using hz0)]
    have HST2:=Qa hst
    have hzi:¬((Z0:Int)=0):=by omega
    have hzb:((Z0:Int) == 0)=false:=by simpa using hzi
    clear hst hz0 hzi
    go_wp2
    gi_wp2
    refine⟨(ext_others hE2).from _,⟨⟨g1,g2,g3,g4,?_⟩,g6.ext hE2⟩,g7⟩
    rw[HST2.out]
    exact g5
  case done =>
   rintro D Y hD ⟨⟨⟨h1,h2,h3,h4,h5⟩,h6⟩,hE⟩ hK
   rw[List.take_length,hfin']at h5
   have hM7:=hM5.push h6 hD (by have:=hbx.lt;omega) hK
   have k0:=h3.cell
   have k1:=h3.lt
   gi_wp2
   refine⟨h,[.pointer (some ⟨Y.heap.size,0,none⟩),?a5,?a12,?a13,?a14,?a15,?a16,?a17,?a18,?a19,?a20,?a21,?a22,?a23,?a24,?a25,?a26,?a27,?a28,?a29,?a30,?a31,?a32,?a33,?a34,?a35,?a36,?a37,?a38,?a39,?a40,?a41,?a42,?a43,?a44,?a45,?a46,?a47,?a48,?a49,?a50,?a51],?lt,?fr,?mk,?rel⟩
   case fr =>
    simp only[setAll,Qj,Qk,Ql]
    exact rfl
   case lt=>omega
   case mk=>exact hM7.ext ((Qd Y).alloc _)
   case rel=>exact⟨Y.heap.size,_,_,_,_,_,_,_,_,_,_,_,_,_,_,_,_,_,_,_,_,_,_,_,_,_,_,_,_,_,_,_,_,_,_,_,_,_,_,_,_,_,rfl,by omega,h2.lt,Qi rfl _ _,h2.alloc _,h1.alloc _,h5.ext ((Qd Y).alloc _),hE.alloc _⟩
end Go.Proofs.YtgloajbgphcloaaGreat.Cn
namespace Go.Proofs.YtgloajbgphcloaaGreat.Cn
set_option linter.unusedVariables false
set_option linter.unusedSimpArgs false
open Go.RowKit
abbrev fnV (f b:Nat):Array Value:=#[.func (.func f) #[] #[.pointer (some ⟨b,0,none⟩)]]
theorem valid1_any (n a:Int) (b:Nat) (w:World) (hb:Blk w b #[.int .i64 a] 3) :
  Calls Tryz.prog 237 #[.int .i64 n,.pointer (some ⟨b,0,none⟩)] w fun e w'=>e= .returned (.bool (within n 0 a))∧w=w':=by
 have k0:=hb.cell
 have k1:=hb.lt
 go_enter Tryz.func237,Tryz.ntmps237
 go_wp2_with (first|(go_at_call 213;refine(in_any _ _ _ _).mono ?_;rintro e w' ⟨rfl,rfl⟩))
 go_ret
 exact⟨rfl,by trivial⟩
theorem valid2_any (n a:Int) (b:Nat) (w:World) (hb:Blk w b #[.int .i64 a] 3) :
  Calls Tryz.prog 238 #[.int .i64 n,.pointer (some ⟨b,0,none⟩)] w fun e w'=>e= .returned (.bool (within n 1 a))∧w=w':=by
 have k0:=hb.cell
 have k1:=hb.lt
 go_enter Tryz.func238,Tryz.ntmps238
 go_wp2_with (first|(go_at_call 213;refine(in_any _ _ _ _).mono ?_;rintro e w' ⟨rfl,rfl⟩))
 go_ret
 exact⟨rfl,by trivial⟩
theorem valid3_any (n a:Int) (c b:Nat) (w:World) (hc:Blk w c (fnV 238 b) 75) (hb:Blk w b #[.int .i64 a] 3) :
  Calls Tryz.prog 239 #[.int .i64 n,.pointer (some ⟨c,0,none⟩)] w fun e w'=>e= .returned (.bool (!within n 1 a))∧w=w':=by
 have k0:=hc.cell
 have k1:=hc.lt
 go_enter Tryz.func239,Tryz.ntmps239
 go_wp2_with (first|(go_at_call 238;refine(valid2_any n a b _ hb).mono ?_;rintro e w' ⟨rfl,rfl⟩))
 go_ret
 exact⟨rfl,by trivial⟩
theorem valid4_any (n a:Int) (c b:Nat) (w:World) (hc:Blk w c (fnV 238 b) 75) (hb:Blk w b #[.int .i64 a] 3) :
  Calls Tryz.prog 240 #[.int .i64 n,.pointer (some ⟨c,0,none⟩)] w fun e w'=>e= .returned (.bool (!within n 1 a))∧w=w':=by
 have k0:=hc.cell
 have k1:=hc.lt
 go_enter Tryz.func240,Tryz.ntmps240
 go_wp2_with (first|(go_at_call 238;refine(valid2_any n a b _ hb).mono ?_;rintro e w' ⟨rfl,rfl⟩))
 go_ret
 exact⟨rfl,by trivial⟩
theorem valid6_any (n a:Int) (c b:Nat) (w:World) (hc:Blk w c (fnV 237 b) 75) (hb:Blk w b #[.int .i64 a] 3) :
  Calls Tryz.prog 242 #[.int .i64 n,.pointer (some ⟨c,0,none⟩)] w fun e w'=>e= .returned (.bool (!within n 0 a))∧w=w':=by
 have k0:=hc.cell
 have k1:=hc.lt
 go_enter Tryz.func242,Tryz.ntmps242
 go_wp2_with (first|(go_at_call 237;refine(valid1_any n a b _ hb).mono ?_;rintro e w' ⟨rfl,rfl⟩))
 go_ret
 exact⟨rfl,by trivial⟩
theorem valid5_any (c:Int) (s:Sea) (vc vs vb vr:Value) (b:Nat) (w:World) (h0:1≤s.cells) (h1:s.cells≤10) (hb:Blk w b (seaV s vc vs vb vr) 96) :
  Calls Tryz.prog 241 #[.int .i64 c,.pointer (some ⟨b,0,none⟩)] w fun e w'=>e= .returned (.bool (!within c 0 (s.cells - 1)))∧w=w':=by
 have k0:=hb.cell
 have k1:=hb.lt
 go_enter Tryz.func241,Tryz.ntmps241
 go_wp2_with (first|(go_at_call 213;refine(in_any _ _ _ _).mono ?_;rintro e w' ⟨rfl,rfl⟩))
 go_ret
 exact⟨rfl,by trivial⟩
end Go.Proofs.YtgloajbgphcloaaGreat.Cn
