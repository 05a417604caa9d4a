/- The iterator over the closed places, as a contract of its rounds. -/
import Derived.Test.YtgloajbgphcloaaGreatCo
import Derived.Test.YtgloajbgphcloaaGreatRg
import Derived.Test.YtgloajbgphcloaaGreatRfC1
import Derived.RangeFuncNested
import Derived.RangeFuncBound
import Derived.RangeFuncCalls
import Derived.RangeFuncLeaves
import Derived.Shelf.Abstract
import Derived.OwnWalkIn
import Derived.TacticsInMore
import Derived.LoopNIn
import Derived.LoopIn
import Derived.Lib.RabinKarpLaws
namespace Go.Proofs.YtgloajbgphcloaaGreat.Rf
set_option linter.unusedVariables false
set_option linter.unusedSimpArgs false
open Go.RowKit Go.Shelf
attribute [local go_sem] Oper.semAt_some
theorem mask_i64 (m:Nat) (hm:m<63) (x:Int) (h0:0≤x) (h1:x<9223372036854775808):bits .and .i64 x (2^m - 1)=x%2^m :=
 bits_mask .i64 63 (by decide) (fun n h0 h1=>by rw[two63]at h1;rw[IntKind.wrap_i64];omega) m (by omega) x h0 (by rw[two63];exact h1)
theorem bit_has (x:Int) (k:Nat) (h0:0≤x) (h1:x≤1000000):bits .and .i64 (x/2^k) 1=if R.has x k then 1 else 0:=by
 have hd:0≤x/2^k:=Int.ediv_nonneg h0 (Int.le_of_lt (Int.pow_pos (by decide)))
 have hd2:x/2^k≤x:=Int.ediv_le_self _ h0
 have h:=mask_i64 1 (by decide) (x/2^k) hd (by omega)
 have e:((2:Int)^1 - 1)=1:=by decide
 have e2:((2:Int)^1)=2:=by decide
 rw[e,e2]at h
 rw[h]
 unfold R.has
 by_cases hh:x/2^k%2=1
 ·rw[hh];rfl
 ·rw[decide_eq_false hh,if_neg (by simp)];omega
theorem _root_.Go.Proofs.YtgloajbgphcloaaGreat.Ext.grownBy {w w':World} (h:Ext w w'):w.grownBy w' none:=⟨h.os,h.tape,h.output,h.size,fun k hk _=>h.block k hk⟩
theorem closed_any (r:R.Reef) (vp vl:Value) (s:Int) (w:World) :
  Calls Tryz.prog 227 #[.agg (planV r vp vl),.int .i64 s] w fun e w'=>e= .returned (.func (.func 256) #[] #[.pointer (some ⟨w.heap.size,0,none⟩),.pointer (some ⟨w.heap.size+1,0,none⟩)]) ∧
   Blk w' w.heap.size (planV r vp vl) 227∧Blk w' (w.heap.size+1) #[.int .i64 s] 3∧Ext w w':=by
 go_enter Tryz.func227,Tryz.ntmps227
 go_wp2
 go_ret
 exact⟨rfl,(Blk.new' (by simp) _ _).alloc _,Blk.new' (by simp) _ _,by(with_reducible(repeat(first|exact Ext.refl _|assumption|apply Ext.alloc|apply Ext.drew|exact ext_plus _ _|(apply Ext.setCell;rotate_left;(simp<;>omega))|(apply Ext.trans;rotate_left;exact ext_plus _ _)|(apply Ext.trans;rotate_left;assumption))))⟩
abbrev Num (n:Nat):= { i:Nat // i<n }
def encN {n:Nat} (x:Num n):Array Value:=#[.int .i64 x.1]
def closedTo (set:Int) (k:Nat):List Nat:=(List.range k).filter fun i=>R.has set i
theorem closedTo_succ (set:Int) (k:Nat):closedTo set (k+1)=closedTo set k++if R.has set k then [k]else []:=by
 unfold closedTo;rw[List.range_succ,List.filter_append];by_cases h:R.has set k=true<;>simp[h]
theorem closedTo_len (set:Int) (k:Nat):(closedTo set k).length≤k:=by
 unfold closedTo;have:=List.length_filter_le (fun i=>R.has set i) (List.range k);simpa using this
def Keep (n b1 b2:Nat) (A B:World):Prop:=Below n A B∧B.heap[b1]? =A.heap[b1]? ∧B.heap[b2]? =A.heap[b2]?
theorem Keep.trans {n b1 b2:Nat} {A B C:World} (h:Keep n b1 b2 A B) (k:Keep n b1 b2 B C):Keep n b1 b2 A C:=⟨h.1.trans k.1,k.2.1.trans h.2.1,k.2.2.trans h.2.2⟩
theorem Keep.rec_ {n b1 b2:Nat} {w:World} (hn:n≤w.heap.size) (h1:b1<w.heap.size) (h2:b2<w.heap.size) (Y:World) (l:Nat) (o o':Obj) (hl:w.heap.size≤l) (h:Y.heap[l]? =some o) (hc:o.isCells=false) (hw:o.isWalk=false):Keep n b1 b2 Y (Y.putObj l o'):=by
 have hs:=(Array.getElem?_eq_some_iff.1 h).1
 exact⟨belowK_b hn Y l o o' hl h hc hw,(grownBy_putObj' Y l o').block b1 (by omega) (by simp;omega),(grownBy_putObj' Y l o').block b2 (by omega) (by simp;omega)⟩
set_option maxRecDepth 100000 in
set_option maxHeartbeats 2000000 in
theorem closed_stops (r:R.Reef) (plan:List Int) (s:Nat) (hs:s<plan.length) (hpl:0≤plan[s]) (hpl2:plan[s]≤1000000) (hn:r.places.length≤60) (vp vl:Value) (w0 w1:World) (h01:Ext w0 w1) (hP:Places w0 vp r.places) (hL:Ints w0 vl plan) (bx bs n:Nat) (hn1:1≤n)
  (hbx:Blk w1 bx (planV r vp vl) 227) (hbs:Blk w1 bs #[.int .i64 s] 3) :
  SeqStopsK Fence.wide n Tryz.prog 256 #[.pointer (some ⟨bx,0,none⟩),.pointer (some ⟨bs,0,none⟩)] encN (Keep w0.heap.size bx bs) (fun xs:List (Num r.places.length)=>xs.map Subtype.val=closedTo plan[s] r.places.length) (fun _=>True) r.places.length w1:=fun l J Jx Y hY0 hJ hJx hY h0=>by
 have hP':=hP
 have hL':=hL
 obtain⟨a1,c1,rfl,_⟩:=hP'
 obtain⟨a3,c3,rfl,hx3⟩:=hL'
 obtain⟨b3,off3,rfl,hb3,h03⟩:=hx3 s hs
 clear hx3
 have hbsY:=(Blk.ext hbs hY0).cell
 have hbxY:=(Blk.ext hbx hY0).cell
 have hs0:=(Blk.ext hbs hY0).lt
 have hx0:=(Blk.ext hbx hY0).lt
 refine callsIn_of_wp Tryz.func256 rfl trivial ?_ rfl
 simp only[Tryz.ntmps256,List.size_toArray,List.length_cons,List.length_nil,Nat.reduceAdd,Nat.reduceSub,Array.replicate_succ,Array.replicate_zero,List.push_toArray,List.append_toArray,List.nil_append,List.cons_append]
 gi_wp2
 have hJ':∀p A B,J p A→Ext A B→J p B:=fun p A B hp hAB=>hJ p A B none hp hAB.grownBy (fun r e=>by cases e)
 gi_loopw [4,9] (fun _ i wr=>∃(k:Nat) (pre:List (Num r.places.length)),k≤r.places.length∧i= .int .i64 k∧pre.map Subtype.val=closedTo plan[s] k∧J pre wr∧Ext w0 wr∧Blk wr bx (planV r (.slice a1 r.places.length c1) (.slice (some ⟨b3,off3,none⟩) plan.length c3)) 227∧Blk wr bs #[.int .i64 s] 3)
  (fun _ i _=>r.places.length - (intOf i).toNat)
 case atStart=>exact⟨0,[],Nat.zero_le _,rfl,rfl,h0,Ext.trans h01 hY0,Blk.ext hbx hY0,Blk.ext hbs hY0⟩
 case round =>
  obtain⟨k,pre,hk,rfl,hpre,hJk,hEk,hBx,hBs⟩:=hrel
  have HPRE:=Lib.hid hpre
  clear hpre
  have hbk:=hBx.cell
  have hsk:=hBs.cell
  have hbl:=hBx.lt
  have hsl:=hBs.lt
  have hc3:=(hEk.cells.1 _ _ hb3).trans h03
  by_cases hlt:k<r.places.length
  ·have hbit:=bit_has plan[s] k hpl hpl2
   cases hh:R.has plan[s] k with
   | false =>
    rw[hh]at hbit
    have hbit':bits .and .i64 (plan[s]/2^k) 1=0:=hbit
    clear hbit
    gi_wp2
    refine⟨fun _ h=>(by cases h),?_⟩
    gi_wp2
    go_roundw
    case rel=>exact⟨k+1,pre,by omega,by go_num,by rw[HPRE.out,closedTo_succ,hh];simp,hJk,hEk,hBx,hBs⟩
    case measure=>simp[intOf];omega
   | true =>
    rw[hh]at hbit
    have hbit':bits .and .i64 (plan[s]/2^k) 1=1:=hbit
    clear hbit
    have hlen:pre.length<r.places.length:=by
     have h1:=congrArg List.length HPRE.out
     rw[List.length_map]at h1
     have h2:=closedTo_len plan[s] k
     omega
    obtain⟨fn,tmps,assign,body,hy,hR⟩:=hY pre ⟨k,hlt⟩ wr hJk hlen
    dsimp only[encN]at hy
    gi_wp2
    refine hR.mono ?_
    rintro e W3 (⟨rfl,hJ3,hk3⟩|⟨rfl,hJx3⟩)
    ·gi_wp2
     go_roundw
     case rel=>exact⟨k+1,pre++[⟨k,hlt⟩],by omega,by go_num,by rw[List.map_append,HPRE.out,closedTo_succ,hh];simp,hJ3,Below.trans hEk hk3.1,hk3.2.1.trans hBx,hk3.2.2.trans hBs⟩
     case measure=>simp[intOf];omega
    ·gi_wp2
     refine bodyPost_ret (results_none rfl _ _ _) rfl ?_
     exact⟨⟨_,rfl⟩,.inr ⟨_,trivial,hJx3⟩⟩
  ·gi_wp2
   go_end0
   obtain rfl:k=r.places.length:=by omega
   exact⟨⟨_,rfl⟩,.inl ⟨pre,HPRE.out,hJk⟩⟩
end Go.Proofs.YtgloajbgphcloaaGreat.Rf
