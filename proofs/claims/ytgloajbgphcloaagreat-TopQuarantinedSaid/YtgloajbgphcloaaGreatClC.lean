/- The iterator over all allowed weathers. Play: the ends of all days, and the ledger. must: gives up at the first load that is let down. fails catches what must gives up with. fault: the first weather that lets a load down. Fault, as it is asked. Best: the map of costs, the comparer, and the question whether some panels and batteries suffice. Best: the first that suffices; all panels and batteries. Best. All allowed weathers, as the document makes them. The law's own question whether what was carried can be (it can). The law's own question whether a weather comes before another one. The example's system. What was met of each day: how it grows run by run, and how it lies in memory. Known: what is known of each day. Known: what is known of each day, of a sky that is as defined. The example: what the mathematics says. The example: known() returns true. -/
import Derived.Test.YtgloajbgphcloaaGreatCo
import Derived.Test.YtgloajbgphcloaaGreatClB
import Derived.RangeFuncNested
import Derived.Lib.RabinKarpLaws
import Derived.Laws.IdiomStrings
import Derived.Test.YtgloajbgphcloaaGreatRg
import Derived.Defers
import Derived.Recover
import Derived.Test.YtgloajbgphcloaaGreatClA
import Derived.Maps.OwnSet
import Derived.Maps.Views
import Derived.Maps.OwnOps
import Derived.DeepKeys4
import Derived.Laws.StructEq
namespace Go.Proofs.YtgloajbgphcloaaGreat.Cl
set_option linter.unusedVariables false
set_option linter.unusedSimpArgs false
open Go.RowKit Go.Shelf
open Ext renaming trans → Qa
open Lib renaming hid → Qb
attribute [local go_sem] Oper.semAt_some
theorem mask_i64 (m:Nat) (hm:m<63) (x:Int) (h0:0≤x) (h1:x<9223372036854775808):bits .and .i64 x (2^m - 1)=x%2^m :=
 bits_mask .i64 63 (by decide) (fun n h0 h1=>by rw[two63]at h1;rw[IntKind.wrap_i64];omega) m (by omega) x h0 (by rw[two63];exact h1)
theorem bit_of (x E:Nat) (h1:x≤1000000):bits .and .i64 ((x:Int)/2^E) 1=if x/2^E%2=1 then 1 else 0:=by
 have e0:((x:Int)/2^E)=((x/2^E:Nat):Int):=by rw[Int.natCast_ediv,Int.natCast_pow];rfl
 have hle:x/2^E≤x:=Nat.div_le_self _ _
 have h:=mask_i64 1 (by decide) ((x/2^E:Nat):Int) (Int.natCast_nonneg _) (by omega)
 have e:((2:Int)^1 - 1)=1:=by decide
 have e2:((2:Int)^1)=2:=by decide
 rw[e,e2]at h
 rw[e0,h]
 split<;>omega
theorem _root_.Go.Proofs.YtgloajbgphcloaaGreat.Ext.grownBy {w w':World} (h:Ext w w'):w.grownBy w' none:=⟨h.os,h.tape,h.output,h.size,fun k hk _=>h.block k hk⟩
abbrev Wt (c:C.Sys):= { x:ByteArray // x.data.toList∈C.weathers c }
def Wt.txt {c:C.Sys} (x:Wt c):C.Txt:=x.1.data.toList
def encW {c:C.Sys} (x:Wt c):Array Value:=#[.string x.1]
def textsTo (c:C.Sys) (N k:Nat):List C.Txt:=((List.range k).map (C.textOf N)).filter (C.allowed c)
theorem textsTo_succ (c:C.Sys) (N k:Nat):textsTo c N (k+1)=textsTo c N k++if C.allowed c (C.textOf N k)then [C.textOf N k]else []:=by
 unfold textsTo;rw[List.range_succ,List.map_append,List.filter_append];by_cases h:C.allowed c (C.textOf N k)=true<;>simp[h]
theorem textsTo_all (c:C.Sys) {N:Nat} (h:c.days.toNat=N):textsTo c N (2^N)=C.weathers c:=by
 unfold textsTo C.weathers C.texts;rw[h]
theorem textsTo_pre (c:C.Sys) (N:Nat) {k m:Nat} (h:k≤m):textsTo c N k <+: textsTo c N m:=by
 unfold textsTo
 refine List.IsPrefix.filter _ (List.IsPrefix.map _ ?_)
 refine⟨List.range' k (m - k),?_⟩
 rw[List.range_eq_range',List.range_eq_range']
 have h2:=List.range'_append_1 (s:=0) (m:=k) (n:=m - k)
 rw[Nat.zero_add]at h2
 rw[h2]
 congr 1;omega
theorem textOf_len:∀(n x:Nat),(C.textOf n x).length=n
 | 0,_=>rfl
 | n+1,x=>by unfold C.textOf;rw[List.length_append,textOf_len n];rfl
theorem textOf_letters:∀(n x:Nat),∀y∈C.textOf n x,y=115∨y=99
 | 0,_,y,h=>by cases h
 | n+1,x,y,h=>by
  unfold C.textOf at h
  rw[List.mem_append]at h
  rcases h with h|h
  ·exact textOf_letters n _ y h
  ·split at h<;>simp at h<;>simp[h]
def bytesV (l:List UInt8):List Value:=l.map fun y=> .int .u8 (y.toNat:Int)
def Keep1 (n b:Nat) (A B:World):Prop:=Below n A B∧B.heap[b]? =A.heap[b]?
theorem Keep1.trans {n b:Nat} {A B C:World} (h:Keep1 n b A B) (k:Keep1 n b B C):Keep1 n b A C:=⟨h.1.trans k.1,k.2.trans h.2⟩
theorem Keep1.rec_ {n b:Nat} {w:World} (hn:n≤w.heap.size) (h1:b<w.heap.size) (Y:World) (l:Nat) (o o':Obj) (hl:w.heap.size≤l) (h:Y.heap[l]? =some o) (hc:o.isCells=false) (hw:o.isWalk=false):Keep1 n b Y (Y.putObj l o'):=by
 have hs:=(Array.getElem?_eq_some_iff.1 h).1
 exact⟨belowK_b hn Y l o o' hl h hc hw,(grownBy_putObj' Y l o').block b (by omega) (by simp;omega)⟩
theorem byte_info:(Tryz.prog.info? 5).map (fun i=>(i.zero,i.size,i.bytes))=some (some (.int .u8 0),1,1):=by kernel_rfl
set_option maxRecDepth 100000 in
theorem wrap_small (Q:Nat) (h:Q≤1024):wrap64 (Q:Int)=(Q:Int):=by
 exact IntWalk.wrap64_in (Q:Int) ⟨by omega,by omega⟩
theorem weathers_any (c:C.Sys) (vl:Value) (hvl:∃a n k,vl= .slice a n k) (w:World) :
  Calls Tryz.prog 78 #[.agg (sysV c vl)] w fun e w'=>e= .returned (.func (.func 151) #[] #[.pointer (some ⟨w.heap.size,0,none⟩)])∧Blk w' w.heap.size (sysV c vl) 55∧Ext w w':=by
 obtain⟨a,n,k,rfl⟩:=hvl
 go_enter Tryz.func78,Tryz.ntmps78
 go_wp2
 go_ret
 exact⟨rfl,Blk.new' (by simp) _ _,by(with_reducible(repeat(first|exact Ext.refl _|assumption|apply Ext.alloc|apply Ext.drew|exact ext_plus _ _|(apply Ext.setCell;rotate_left;(simp<;>omega))|(apply Qa;rotate_left;exact ext_plus _ _)|(apply Qa;rotate_left;assumption))))⟩
set_option maxRecDepth 100000 in
set_option maxHeartbeats 8000000 in
theorem weathers_stops (c:C.Sys) (vl:Value) (hvl:∃a n k,vl= .slice a n k) (O:C.Ok c) (w0 w1:World) (h01:Ext w0 w1) (bx n:Nat) (hn1:1≤n) (hbx:Blk w1 bx (sysV c vl) 55) :
  SeqStopsK Fence.wide n Tryz.prog 151 #[.pointer (some ⟨bx,0,none⟩)] encW (Keep1 w0.heap.size bx) (fun xs:List (Wt c)=>xs.map Wt.txt=C.weathers c) (fun xs=>xs.map Wt.txt <+: C.weathers c) 1024 w1:=fun l J Jx Y hY0 hJ hJx hY h0=>by
 obtain⟨al,nl,kl,rfl⟩:=hvl
 have hd1:=O.d1
 have hd10:=O.d10
 obtain⟨N,hN⟩:∃N:Nat,c.days=N:=⟨c.days.toNat,by omega⟩
 have hNt:c.days.toNat=N:=by omega
 have hN10:N≤10:=by omega
 have hN1:1≤N:=by omega
 have hp:2^N≤1024:=Nat.pow_le_pow_right (by decide) hN10
 have HN:=Qb hN
 have HNT:=Qb hNt
 have HO:=Qb O
 have hB0:=Blk.ext hbx hY0
 have k0:=hB0.cell
 have k1:=hB0.lt
 clear hN hNt O
 obtain⟨i0,hi,hz0,hz1,hz2⟩:=info_parts byte_info
 refine callsIn_of_wp Tryz.func151 rfl trivial ?_ rfl
 simp only[Tryz.ntmps151,List.size_toArray,List.length_cons,List.length_nil,Nat.reduceAdd,Nat.reduceSub,Array.replicate_succ,Array.replicate_zero,List.push_toArray,List.append_toArray,List.nil_append,List.cons_append]
 unfold sysV at k0
 rw[HN.out]at k0
 gi_wp2
 obtain⟨Q,hQ⟩:∃Q:Nat,2^N=Q:=⟨_,rfl⟩
 have hpw:wrap64 ((2:Int)^N)=(Q:Int):=by
  have e:((2:Int)^N)=((2^N:Nat):Int):=by rw[Int.natCast_pow];rfl
  have hp2:=hp
  rw[hQ]at hp2
  rw[e,hQ]
  exact wrap_small Q hp2
 rw[hpw]
 rw[hQ]at hp
 have HQ:=Qb hQ
 clear hpw hQ k0 k1
 have hJ':∀p A B,J p A→Ext A B→J p B:=fun p A B hp hAB=>hJ p A B none hp hAB.grownBy (fun r e=>by cases e)
 have HJ:=Qb hJ'
 have HY:=Qb hY
 clear hJ' hJ hY
 gi_loopw [4,5,6,7,11,16] (fun _ _ _ _ i _ wr=>∃(k:Nat) (pre:List (Wt c)),k≤Q∧i= .int .i64 k∧pre.map Wt.txt=textsTo c N k∧pre.length≤k∧J pre wr∧Ext w0 wr∧Blk wr bx (sysV c (.slice al nl kl)) 55) (fun _ _ _ _ i _ _=>Q - (intOf i).toNat)
 case atStart=>exact⟨0,[],Nat.zero_le _,rfl,rfl,Nat.le_refl _,h0,Qa h01 hY0,hB0⟩
 case round =>
  rename World=>wr
  obtain⟨k,pre,hk,rfl,hpre,hlen,hJk,hEk,hBk⟩:=hrel
  have HPRE:=Qb hpre
  clear hpre hB0
  by_cases hlt:k<Q
  ·have k0:=hBk.cell
   have k1:=hBk.lt
   unfold sysV at k0
   rw[HN.out]at k0
   gi_wp2
   gi_loopw [4,5,6,16] (fun b _ _ i wy=>∃d:Nat,d≤N∧i= .int .i64 d∧wy.ownsRow wr.heap.size 5 1 b d (bytesV (C.textOf d (k/2^(N - d))))∧Ext wr wy) (fun _ _ _ i _=>N - (intOf i).toNat)
   case atStart=>exact⟨0,Nat.zero_le _,rfl,World.ownsRow_nil _ _ _ _,Ext.refl _⟩
   case round =>
    rename World=>wy
    rename Value=>vb
    obtain⟨d,hd,rfl,hown,hEy⟩:=hrel
    have hky:=fun o=>(hEy.cells.1 bx o k1).trans (k0 o)
    have hly:=Nat.lt_of_lt_of_le k1 hEy.size
    by_cases hdl:d<N
    ·obtain⟨E,hE⟩:∃E:Nat,N - 1 - d=E:=⟨_,rfl⟩
     have hEI:(N:Int) - 1 - (d:Int)=(E:Int):=by omega
     have hE1:N - d=E+1:=by omega
     have hE2:N - (d+1)=E:=by omega
     have hbit:=bit_of k E (by omega)
     have hto:C.textOf (d+1) (k/2^E)=C.textOf d (k/2^(E+1))++[if k/2^E%2=1 then 99 else 115]:=by
      show C.textOf d (k/2^E/2)++_=_
      rw[Nat.div_div_eq_div_mul,←Nat.pow_succ]
     rw[hE1]at hown
     have HTO:=Qb hto
     have HE2:=Qb hE2
     clear hto hE hE1 hE2
     by_cases hq:k/2^E%2=1
     ·rw[if_pos hq]at hbit HTO
      clear hq
      gi_wp2_with (gi_at_builtin;refine wpListIn_append_own _ rfl _ _ 274 rfl (wr.heap.size) 5 i0 (.int .u8 0) 1 1 Tryz.underlying274 hi hz0 hz1 hz2 rfl (by decide) _ _ _ rfl (hown.alloc _) ⟨wy.heap.size,0,none⟩ 1 1 [.int .u8 99] rfl rfl (cell_one _ _ _ (by simp)) (by intro u hu;simp at hu;subst hu;rfl) (by unfold maxLen;omega) (by omega) (by have:=hEy.size;simp;omega) ?_;intro v' w3 hown' hgrow _)
      have hE3:Ext wr w3:=Ext.grown (hEy.alloc _) hgrow (own_base hown)
      go_roundw
      case rel =>
       refine⟨d+1,by omega,by go_num,?_,hE3⟩
       have e9:bytesV (C.textOf (d+1) (k/2^(N - (d+1))))=bytesV (C.textOf d (k/2^(E+1)))++[.int .u8 99]:=by rw[HE2.out,HTO.out];unfold bytesV;rw[List.map_append];rfl
       rw[e9];exact hown'
      case measure=>simp[intOf];omega
     ·rw[if_neg hq]at hbit HTO
      clear hq
      gi_wp2_with (gi_at_builtin;refine wpListIn_append_own _ rfl _ _ 274 rfl (wr.heap.size) 5 i0 (.int .u8 0) 1 1 Tryz.underlying274 hi hz0 hz1 hz2 rfl (by decide) _ _ _ rfl (hown.alloc _) ⟨wy.heap.size,0,none⟩ 1 1 [.int .u8 115] rfl rfl (cell_one _ _ _ (by simp)) (by intro u hu;simp at hu;subst hu;rfl) (by unfold maxLen;omega) (by omega) (by have:=hEy.size;simp;omega) ?_;intro v' w3 hown' hgrow _)
      have hE3:Ext wr w3:=Ext.grown (hEy.alloc _) hgrow (own_base hown)
      go_roundw
      case rel =>
       refine⟨d+1,by omega,by go_num,?_,hE3⟩
       have e9:bytesV (C.textOf (d+1) (k/2^(N - (d+1))))=bytesV (C.textOf d (k/2^(E+1)))++[.int .u8 115]:=by rw[HE2.out,HTO.out];unfold bytesV;rw[List.map_append];rfl
       rw[e9];exact hown'
      case measure=>simp[intOf];omega
    ·obtain rfl:N=d:=by omega
     obtain⟨g,cap,rfl,hgb,hgl⟩:=own_pos hown (by omega)
     have hto:C.textOf N (k/2^(N - N))=C.textOf N k:=by rw[Nat.sub_self,Nat.pow_zero,Nat.div_one]
     rw[hto]at hown
     have hlen9:=textOf_len N k
     have hcells:=fun j (hj:j<(C.textOf N k).length)=>hown.cells (g:=g) rfl j (.int .u8 ((C.textOf N k)[j].toNat:Int)) (by simp[bytesV,hj])
     have hcv:=run_convert_bytes_back (P:=Tryz.prog) wy 274 9 5 ⟨g,0,none⟩ cap (C.textOf N k) Tryz.underlying274 Tryz.underlying5 Tryz.underlying9 hcells
     rw[hlen9]at hcv
     have hE0y:=Qa hEk hEy
     clear hcells hown hto
     have hal:=allowed_any c ⟨(C.textOf N k).toArray⟩ (.slice al nl kl) ⟨_,_,_,rfl⟩ wy (by rw[HN.out];show(((C.textOf N k).toArray.size:Nat):Int)=_;simp[hlen9]) (by rw[HN.out];omega) HO.out.w1 HO.out.wd (by
      intro y hy
      rcases textOf_letters N k y (by simpa using hy)with rfl|rfl<;>decide)
     have hte:(⟨(C.textOf N k).toArray⟩:ByteArray).data.toList=C.textOf N k:=by simp
     rw[hte]at hal
     unfold sysV at hal
     rw[HN.out]at hal
     have HAL:=Qb hal
     have HTE:=Qb hte
     clear hal hte hlen9
     obtain⟨B,hB⟩:∃B,C.allowed c (C.textOf N k)=B:=⟨_,rfl⟩
     have hAL:=HAL.out
     rw[hB]at hAL
     have HAL2:=Qb hAL
     have HBB:=Qb hB
     clear hAL hB
     have hTS:textsTo c N (k+1)=textsTo c N k++if B then [C.textOf N k]else []:=by rw[textsTo_succ,HBB.out]
     have HTS:=Qb hTS
     clear hTS
     have hBy:=hBk.ext hEy
     cases B with
     | false =>
      gi_wp2_with (first|(refine⟨trivial,?_⟩;gi_at_call 152;refine(callsIn_wide.2 HAL2.out).mono ?_;rintro e wz ⟨rfl,hEz⟩))
      refine⟨fun _ h=>(by cases h),?_⟩
      gi_wp2
      go_roundw
      case rel=>exact⟨k+1,pre,by omega,by go_num,by rw[HPRE.out,HTS.out];simp,by omega,HJ.out _ _ _ hJk (hEy.trans hEz),hE0y.trans hEz,hBy.ext hEz⟩
      case measure=>simp[intOf];omega
     | true =>
      have hmem:C.textOf N k∈C.weathers c:=by
       rw[← textsTo_all c HNT.out,HQ.out]
       refine(textsTo_pre c N (show k+1≤Q by omega)).subset ?_
       rw[HTS.out];simp
      have hxm:(⟨(C.textOf N k).toArray⟩:ByteArray).data.toList∈C.weathers c:=by rw[HTE.out];exact hmem
      have hpx:(pre++[(⟨⟨(C.textOf N k).toArray⟩,hxm⟩:Wt c)]).map Wt.txt=textsTo c N (k+1):=by
       rw[List.map_append,HPRE.out,HTS.out]
       simp only[List.map_cons,List.map_nil,if_true]
       rw[show Wt.txt (⟨⟨(C.textOf N k).toArray⟩,hxm⟩:Wt c)=C.textOf N k from HTE.out]
      have HPX:=Qb hpx
      have HY2:=Qb (fun W3 hJ3=>HY.out pre ⟨⟨(C.textOf N k).toArray⟩,hxm⟩ W3 hJ3 (by omega))
      clear hmem hpx
      gi_wp2_with (first|(refine⟨trivial,?_⟩;gi_at_call 152;refine(callsIn_wide.2 HAL2.out).mono ?_;rintro e wz ⟨rfl,hEz⟩;obtain⟨fn,tmps,assign,body,hy,hR⟩:=HY2.out wz (HJ.out _ _ _ hJk (hEy.trans hEz));dsimp only[encW]at hy))
      refine hR.mono ?_
      rintro e W3 (⟨rfl,hJ3,hk3⟩|⟨rfl,hJx3⟩)
      ·gi_wp2
       go_roundw
       case rel=>exact⟨k+1,_,by omega,by go_num,HPX.out,by simp;omega,hJ3,Below.trans (hE0y.trans hEz) hk3.1,hk3.2.trans (hBy.ext hEz)⟩
       case measure=>simp[intOf];omega
      ·gi_wp2
       refine bodyPost_ret (results_none rfl _ _ _) rfl ?_
       exact⟨⟨_,rfl⟩,.inr ⟨_,by rw[HPX.out,←textsTo_all c HNT.out,HQ.out];exact textsTo_pre c N (by omega),hJx3⟩⟩
  ·obtain rfl:k=Q:=by omega
   gi_wp2
   go_end0
   exact⟨⟨_,rfl⟩,.inl ⟨pre,by rw[HPRE.out,←HQ.out];exact textsTo_all c HNT.out,hJk⟩⟩
theorem daysAt_own {w0:World} {c:C.Sys} {vl:Value} {p b off:Int} {wt:ByteArray} {br B:Nat} (hB:w0.heap.size≤B):OwnFrom B (DaysAt w0 c vl p b off wt br) :=
 OwnFrom.and (Own.from (fun _ _ _ _ hs hg hr=>hs.kept hg hr) _) (ownFrom_below (Nat.le_refl _) hB)
end Go.Proofs.YtgloajbgphcloaaGreat.Cl
namespace Go.Proofs.YtgloajbgphcloaaGreat.Cl
set_option linter.unusedVariables false
set_option linter.unusedSimpArgs false
open Go.RowKit Go.Shelf
attribute [local go_sem] Oper.semAt_some
def AxD (B:Nat) (c:C.Sys) (p b off:Int) (T:C.Txt) (TM:Nat→Nat→Array Value) (k:Nat) (a':Act) (Y:World):Prop :=
 ∃bx,Blk Y bx #[.int .i64 (C.stateAt c p b off T (k+1)).e,.int .i64 (C.stateAt c p b off T (k+1)).carried] 187∧B≤bx∧a'= { tmps:=TM k bx,defers:=[] }
theorem AxD.own (B B':Nat) (c:C.Sys) (p b off:Int) (T:C.Txt) (TM:Nat→Nat→Array Value):∀k,OwnFrom B' (AxD B c p b off T TM k):=by
 rintro k a' A B row ⟨bx,h1,h2,h3⟩ hg hr
 exact⟨bx,h1.kept hg fun r e=>(hr r e).2,h2,h3⟩
theorem dne {Y:World} (D g:Nat) (cur:Array Value) {e:TypeId} (h:Y.heap[D]? =some (.deferred (some []))) (h2:Y.heap[g]? =some (.cells cur e (0,0))):some D≠some g∧some g≠some D∧D≠g∧g≠D:=by
 have:D≠g:=by rintro rfl;rw[h]at h2;cases h2
 refine⟨by simpa using this,by simpa using this.symm,this,this.symm⟩
theorem C.parts_of {p b:Int} (h:C.partsB p b=true):0≤p∧p≤12∧0≤b∧b≤8:=by
 unfold C.partsB C.within at h
 simp only[Bool.and_eq_true,decide_eq_true_eq]at h
 omega
theorem C.off_of {c:C.Sys} {off:Int} (h:C.offB c off=true):0≤off∧off<2^c.loads.length:=by
 unfold C.offB C.within C.sets at h
 simp only[Bool.and_eq_true,decide_eq_true_eq]at h
 omega
end Go.Proofs.YtgloajbgphcloaaGreat.Cl
namespace Go.Proofs.YtgloajbgphcloaaGreat.Cl
set_option linter.unusedVariables false
set_option linter.unusedSimpArgs false
open Go.RowKit Go.Shelf
open Lib renaming hid → Qb
open Nat renaming lt_of_lt_of_le → Qc
attribute [local go_sem] Oper.semAt_some
theorem bit_has (x:Int) (k:Nat) (h0:0≤x) (h1:x≤1000000):bits .and .i64 (x/2^k) 1=if C.has x k then 1 else 0:=by
 have hd:0≤x/2^k:=Int.ediv_nonneg h0 (Int.le_of_lt (Int.pow_pos (by decide)))
 have hd2:x/2^k≤x:=Int.ediv_le_self _ h0
 have h:=mask_i64 1 (by decide) (x/2^k) hd (by omega)
 have e:((2:Int)^1 - 1)=1:=by decide
 have e2:((2:Int)^1)=2:=by decide
 rw[e,e2]at h
 rw[h]
 unfold C.has
 by_cases hh:x/2^k%2=1
 ·rw[hh];rfl
 ·rw[decide_eq_false hh,if_neg (by simp)];omega
abbrev downV (d i:Nat):Value:= .iface 317 (.agg #[.int .i64 (d:Int),.int .i64 (i:Int)])
def mustE:Option (Nat×Nat)→Ending
 | none=> .returned (.tuple #[])
 | some x=> .panicked [{ v:=downV x.1 x.2,recovered:=false }]
theorem find_none {α:Type} {f:Nat→Option α} {k:Nat} (h:(List.range k).findSome? f=none):(List.range (k+1)).findSome? f=f k:=by
 rw[List.range_succ,List.findSome?_append,h];simp
theorem find_some {α:Type} {f:Nat→Option α} {k n:Nat} {x:α} (hk:k<n) (h:(List.range k).findSome? f=none) (hx:f k=some x):(List.range n).findSome? f=some x:=by
 have e:List.range n=List.range (k+1)++List.range' (k+1) (n - (k+1)):=by
  rw[List.range_eq_range',List.range_eq_range']
  have h2:=List.range'_append_1 (s:=0) (m:=k+1) (n:=n - (k+1))
  rw[Nat.zero_add]at h2
  rw[h2];congr 1;omega
 rw[e,List.findSome?_append,find_none h,hx];rfl
theorem find1_none {p:Nat→Bool} {k:Nat} (h:(List.range k).find? p=none) (hp:p k=false):(List.range (k+1)).find? p=none:=by
 rw[List.range_succ,List.find?_append,h];simp[hp]
theorem find1_some {p:Nat→Bool} {k n:Nat} (hk:k<n) (h:(List.range k).find? p=none) (hp:p k=true):(List.range n).find? p=some k:=by
 have e:List.range n=List.range k++k::List.range' (k+1) (n - (k+1)):=by
  have h2:=List.range'_append_1 (s:=0) (m:=k) (n:=n - k)
  rw[Nat.zero_add]at h2
  have h3:List.range' k (n - k)=k::List.range' (k+1) (n - (k+1)):=by
   have:n - k=(n - (k+1))+1:=by omega
   rw[this,List.range'_succ]
  rw[← h3,List.range_eq_range',List.range_eq_range',h2];congr 1;omega
 rw[e,List.find?_append,h];simp[hp]
theorem ownFrom_off {br B:Nat} {w0:World} (hB:w0.heap.size≤B):OwnFrom B (fun(_:Nat) W=>Off br w0 W):=fun _ X Y row h hg hr =>
 ⟨hg.os.trans h.os,hg.tape.trans h.tape,hg.output.trans h.output,Nat.le_trans h.size hg.size,fun k hk hne=>(hg.block k (Qc hk h.size) (fun e=>by have:=(hr k e.symm).1;omega)).trans (h.block k hk hne)⟩
theorem put_off {br:Nat} {w Y:World} (h:Off br w Y) (D:Nat) (o':Obj) {o:Obj} (hD:Y.heap[D]? =some o) (hw:w.heap.size≤D):Off br w (Y.putObj D o'):=by
 have hg:=grownBy_putObj' Y D o'
 exact⟨hg.os.trans h.os,hg.tape.trans h.tape,hg.output.trans h.output,Nat.le_trans h.size hg.size,fun k hk hne=>(hg.block k (Qc hk h.size) (by simp;omega)).trans (h.block k hk hne)⟩
def downAt (c:C.Sys) (p b off:Int) (T:C.Txt) (d:Nat):Option (Nat×Nat):=(C.down c (C.dayAt c p b off T d)).map fun i=>(d,i)
theorem firstDown_run (c:C.Sys) (p b off:Int) (T:C.Txt):C.firstDown c (C.run c p b off T)=(List.range T.length).findSome? (downAt c p b off T):=by
 unfold C.firstDown
 have hl:(C.run c p b off T).length=T.length:=by simp[C.run]
 rw[hl]
 have:∀d∈List.range T.length,(fun d=>(C.down c (C.dat (C.run c p b off T) d)).map fun i=>(d,i)) d=downAt c p b off T d:=by
  intro d hd
  have hd':=List.mem_range.1 hd
  unfold downAt
  have:C.dat (C.run c p b off T) d=C.dayAt c p b off T d:=by
   unfold C.dat C.run
   rw[List.getD_eq_getElem?_getD];simp[hd']
  dsimp only
  rw[this]
 generalize List.range T.length=R at this
 induction R with
 | nil=>rfl
 | cons x xs ih =>
  have hx:=this x (by simp)
  dsimp only at hx
  rw[List.findSome?_cons,List.findSome?_cons,hx,ih (fun d hd=>this d (by simp[hd]))]
set_option maxRecDepth 100000 in
set_option maxHeartbeats 8000000 in
theorem must_any (c:C.Sys) (vl:Value) (p b off:Int) (wt:ByteArray) (br:Nat) (w0 w:World) (O:C.Ok c) (hp0:0≤p) (hp1:p≤12) (h2':0≤b) (h3:b≤8) (ho0:0≤off) (ho1:off<2^c.loads.length)
  (hlen:wt.data.toList.length=c.days.toNat) (hbr0:w0.heap.size≤br) (hLs:Loads w0 vl c.loads) (hE0:Ext w0 w)
  (hb:Blk w br (runV c vl p b off wt 0 (C.st0 c b) (C.start c b) 0) 279) :
  Calls Tryz.prog 235 #[.pointer (some ⟨br,0,none⟩)] w fun e w'=>e=mustE (C.firstDown c (C.run c p b off wt.data.toList))∧Ext w0 w'∧Off br w w':=by
 have hLs':=hLs
 obtain⟨al,cl,rfl,hxl⟩:=hLs'
 have HXL:=Qb hxl
 have hd10:=O.d10
 have hn5:=O.n5
 obtain⟨N,hN⟩:∃N,c.days.toNat=N:=⟨_,rfl⟩
 have hN10:N≤10:=by omega
 rw[firstDown_run,hlen,hN]
 have HN:=Qb hN
 have HLEN:=Qb hlen
 have HO:=Qb O
 have HO1:=Qb ho1
 clear hxl hN hlen O ho1
 refine calls_of_wpAt (n:=5) Tryz.func235 rfl ?_
 simp only[Tryz.ntmps235,List.size_toArray,List.length_cons,List.length_nil,Nat.reduceAdd,Nat.reduceSub,Array.replicate_succ,Array.replicate_zero,List.push_toArray,List.append_toArray,List.nil_append,List.cons_append]
 refine wpAt_seq (n:=5) ?_
 gi_wp2
 refine wpAt_seq (n:=5) ?_
 gi_wp2
 refine wpAt_block ?_
 obtain⟨bt,hbt⟩:∃bt,w.heap.size=bt:=⟨_,rfl⟩
 obtain⟨w1,hw1⟩:∃w1,w.alloc (.cells #[.pointer (some ⟨br,0,none⟩)] 184)=w1:=⟨_,rfl⟩
 have ht1:Blk w1 bt #[.pointer (some ⟨br,0,none⟩)] 184:=by rw[← hw1];exact Blk.new' hbt.symm _ _
 have hr1:Blk w1 br (runV c (.slice al c.loads.length cl) p b off wt 0 (C.st0 c b) (C.start c b) 0) 279:=by rw[← hw1];exact hb.alloc _
 have hE1:Ext w0 w1:=by rw[← hw1];exact hE0.alloc _
 have hO1:Off br w w1:=by rw[← hw1];exact((Ext.refl w).alloc _).off br
 have hz1:w1.heap.size=bt+1:=by rw[← hw1,←hbt];simp
 have hbrl:=hb.lt
 have hw0s:=hE0.size
 have hwbt:w.heap.size=bt:=hbt
 rw[hbt]at hbrl hw0s
 rw[hbt,hw1]
 have HZ1:=Qb hz1
 have hwle:w.heap.size≤w1.heap.size:=by omega
 have hz1l:bt<w1.heap.size:=by omega
 clear hbt hw1 hb hE0 hz1 hwbt
 have hseq:=days_own c (.slice al c.loads.length cl) p b off wt br w0 w1 HO.out hp0 hp1 h2' h3 ho0 HO1.out HLEN.out hbr0 hLs
 rw[HN.out]at hseq
 refine' wpAt_range_own (n:=4) (gf:=81) (fst:=#[.pointer (some ⟨br,0,none⟩)]) rfl (enters_of Tryz.func81 (by kernel_rfl) rfl)
  hseq (fun _=>rfl) (off_rec (by omega)) (daysAt_own hE1.size) ⟨hr1,hE1⟩
  (fun k Y=>(List.range k).findSome? (downAt c p b off wt.data.toList)=none∧Blk Y bt #[.pointer (some ⟨br,0,none⟩)] 184∧Off br w Y)
  (fun ch Y=>(∃ x,(List.range N).findSome? (downAt c p b off wt.data.toList)=some x∧ch=[{ v:=downV x.1 x.2,recovered:=false }])∧Ext w0 Y∧Off br w Y)
  ?own ?rel ⟨rfl,ht1,hO1⟩ (AxD w1.heap.size c p b off wt.data.toList _) (AxD.own _ _ _ _ _ _ _ _) ?assign ?body ?done ?pan
 case own =>
  rintro k A B row ⟨h1,h2,h4⟩ hg hr
  exact⟨h1,h2.kept hg fun r e=>(hr r e).2,ownFrom_off (br:=br) (w0:=w) (by omega) k A B row h4 hg hr⟩
 case rel =>
  rintro k A B ⟨h1,h2,h4⟩ ho
  exact⟨h1,h2.off ho (by omega),h4.trans ho⟩
 case assign =>
  rintro l k Y K hk ⟨h1,h2,h4⟩ hA hK
  have hY1:w1.heap.size≤Y.heap.size:=by
   have:=h2.lt
   have:=HZ1.out
   omega
  simp only[dayE]
  gi_wp2
  obtain⟨bx,hbx⟩:∃bx,Y.heap.size=bx:=⟨_,rfl⟩
  have hEa:Ext Y (Y.alloc (.cells #[.int .i64 (C.stateAt c p b off wt.data.toList (k+1)).e,.int .i64 (C.stateAt c p b off wt.data.toList (k+1)).carried] 187)):=(Ext.refl _).alloc _
  rw[hbx]
  refine hK _ _ (KeepsFrom.of_grownBy hEa.grownBy (fun j e=>by cases e)) ⟨h1,h2.ext hEa,h4.ext hEa⟩ ⟨hA.1.ext hEa,hA.2.trans hEa⟩ ⟨bx,Blk.new' hbx.symm _ _,by omega,?_⟩
  refine(Act.mk.injEq _ _ _ _).mpr ⟨?_,rfl⟩
  exact rfl
 case body =>
  rintro l k a' Y hl hrec hk ⟨h1,h2,h4⟩ hA ⟨bx,hbx,hbxge,rfl⟩
  obtain⟨hbr,hEY⟩:=hA
  have hbd:=C.carried_bd HO.out hp0 hp1 h2' h3 off wt.data.toList k (by omega)
  have hday:C.dayAt c p b off wt.data.toList k=⟨(C.stateAt c p b off wt.data.toList (k+1)).e,(C.stateAt c p b off wt.data.toList (k+1)).carried⟩:=rfl
  have hdn:downAt c p b off wt.data.toList k=(C.down c (C.dayAt c p b off wt.data.toList k)).map fun i=>(k,i):=rfl
  rw[hday]at hdn
  have H1:=Qb h1
  have HDN:=Qb hdn
  clear h1 hday hdn
  obtain⟨x,hx⟩:∃x,C.stateAt c p b off wt.data.toList (k+1)=x:=⟨_,rfl⟩
  rw[hx]at hbx hbr hbd HDN
  simp only[hx]
  have hcb:0≤x.carried∧x.carried≤1000000:=by
   have h1:(2:Int)^c.loads.length≤1024:=(pow_bd (n:=c.loads.length) (by omega)).2
   omega
  have HXX:=Qb hx
  clear hx hbd
  have k0:=hbr.cell
  have k1:=hbr.lt
  have t0:=h2.cell
  have t1:=h2.lt
  have d0:=hbx.cell
  have d1:=hbx.lt
  gi_wp2
  have HE1:=Qb hE1
  clear k0 k1 t0 t1 d0 d1
  gi_loopw [4,5,16] (fun _ _ i wy=>∃j:Nat,j≤c.loads.length∧i= .int .i64 j∧(List.range j).find? (C.downs c ⟨x.e,x.carried⟩)=none∧Ext Y wy) (fun _ _ i _=>c.loads.length - (intOf i).toNat)
  case atStart=>exact⟨0,Nat.zero_le _,rfl,rfl,Ext.refl _⟩
  case round =>
   rename World=>wy
   obtain⟨j,hj,rfl,hfi,hEy⟩:=hrel
   have HFI:=Qb hfi
   clear hfi
   by_cases hjl:j<c.loads.length
   ·obtain⟨bL,oL,rfl,hbL,hAtL⟩:=HXL.out j hjl
    obtain⟨l0,l1,l2⟩:=load_cells (ate_stays _ _ _ _ _ _ (hEY.trans hEy) hbL hAtL)
    have hbl:=Qc hbL (hEY.trans hEy).size
    have hbit:=bit_has x.carried j hcb.1 hcb.2
    have hdo:C.downs c ⟨x.e,x.carried⟩ j=(c.loads[j].must&& !C.has x.carried j):=by unfold C.downs;rw[C.lat_at hjl]
    have HDO:=Qb hdo
    obtain⟨H,hH⟩:∃H,C.has x.carried j=H:=⟨_,rfl⟩
    rw[hH]at hbit HDO
    obtain⟨ld,hld⟩:∃ld,c.loads[j]=ld:=⟨_,rfl⟩
    rw[hld]at l0 l1 l2 HDO
    obtain⟨need,keep,mst⟩:=ld
    have hdy:=(hbx.ext hEy).cell
    have hdl:=(hbx.ext hEy).lt
    clear hAtL hdo hH hld
    cases mst with
    | false =>
     gi_wp2
     go_roundw
     case rel=>exact⟨j+1,by omega,by go_num,find1_none HFI.out (by rw[HDO.out];rfl),hEy.alloc _⟩
     case measure=>simp[intOf];omega
    | true =>
     cases H with
     | true =>
      gi_wp2
      go_roundw
      case rel=>exact⟨j+1,by omega,by go_num,find1_none HFI.out (by rw[HDO.out];rfl),hEy.alloc _⟩
      case measure=>simp[intOf];omega
     | false =>
      gi_wp2
      have hEz:Ext Y (wy.alloc (.cells #[.int .i64 need,.int .i64 keep,.bool true] 165)):=hEy.alloc _
      have hdd:downAt c p b off wt.data.toList k=some (k,j):=by rw[HDN.out];unfold C.down;rw[find1_some hjl HFI.out (by rw[HDO.out];rfl)];rfl
      exact⟨rfl,KeepsFrom.of_grownBy hEz.grownBy (fun j e=>by cases e),⟨k,j,find_some hk H1.out hdd,rfl⟩,hEY.trans hEz,h4.ext hEz⟩
   ·obtain rfl:j=c.loads.length:=by omega
    gi_wp2
    have hdd:downAt c p b off wt.data.toList k=none:=by rw[HDN.out];unfold C.down;rw[HFI.out];rfl
    exact⟨KeepsFrom.of_grownBy hEy.grownBy (fun j e=>by cases e),⟨by rw[HXX.out];exact hbr.ext hEy,hEY.trans hEy⟩,⟨by rw[find_none H1.out];exact hdd,h2.ext hEy,h4.ext hEy⟩⟩
 case done =>
  rintro D Y hD ⟨h1,h2,h4⟩ hA hK
  rw[h1]
  refine⟨by simp,.inl ⟨_,_,rfl,run_takeDeferred hK,?_⟩⟩
  refine⟨.tuple #[],by simp[results,Tryz.results235,go_sem],rfl,?_,put_off h4 D _ hK (by omega)⟩
  exact Below.trans hA.2 (belowK_b (w:=w1) (by omega) Y D _ _ hD hK rfl rfl)
 case pan =>
  rintro D ch Y hD ⟨⟨x,hx,rfl⟩,hE,h4⟩ hK
  rw[hx]
  refine⟨by simp,.inl ⟨_,_,rfl,run_takeDeferred hK,?_⟩⟩
  refine⟨rfl,?_,put_off h4 D _ hK (by omega)⟩
  exact Below.trans hE (belowK_b (w:=w1) (by omega) Y D _ _ hD hK rfl rfl)
end Go.Proofs.YtgloajbgphcloaaGreat.Cl
namespace Go.Proofs.YtgloajbgphcloaaGreat.Cl
set_option linter.unusedVariables false
set_option linter.unusedSimpArgs false
open Go.RowKit
open Blk renaming new' → Qd
open Ext renaming trans → Qa
set_option maxRecDepth 100000 in
theorem catch_stop (b1 b2:Nat) (p q:Value) (x:Bool) (d i:Nat) (older:List PanicEntry) (w0 w:World) (hE:Ext w0 w) (hne:b1≠b2) (hg1:w0.heap.size≤b1) (hg2:w0.heap.size≤b2) (h1:Blk w b1 #[p,q] 317) (h2:Blk w b2 #[.bool x] 4) :
  CallsD Tryz.prog 234 #[.pointer (some ⟨b1,0,none⟩),.pointer (some ⟨b2,0,none⟩)] (.panicking ({ v:=downV d i,recovered:=false } ::older)) w fun e u' w' =>
   e= .returned (.tuple #[])∧u'= .panicking ({ v:=downV d i,recovered:=true } ::older)∧Blk w' b1 #[.int .i64 (d:Int),.int .i64 (i:Int)] 317∧Blk w' b2 #[.bool true] 4∧Ext w0 w':=by
 have hta:∀w,(Instr.typeAssert (downV d i) 20 317 true).run Tryz.prog w= .ok (.tuple #[.agg #[.int .i64 (d:Int),.int .i64 (i:Int)],.bool true]) w:=fun _=>by kernel_rfl
 have c1:=h1.cell
 have c2:=h1.free
 have c3:=h1.lt
 have d1:=h2.cell
 have d2:=h2.free
 have d3:=h2.lt
 refine callsD_of_wpS Tryz.func234 rfl fun c₀ cs hu=> ?_
 simp only[Tryz.ntmps234,List.size_toArray,List.length_cons,List.length_nil,Nat.reduceAdd,Nat.reduceSub,Array.replicate_succ,Array.replicate_zero,List.push_toArray,List.append_toArray,List.nil_append,List.cons_append]
 apply wpS_seq
 apply wpS_region
 simp[wpOpsS,go_sem,recoverD,hu,Exit.thenS]
 refine wpS_of_wp ?_
 go_wp2
 have hB1:=(((h1.set 0 (.int .i64 (d:Int))).set 1 (.int .i64 (i:Int))).other (a:=⟨b2,0,none⟩) (fun e=>hne e.symm) (.bool true)).alloc (.cells #[.int .i64 (d:Int),.int .i64 (i:Int)] 317)
 have hB2:=(((h2.other (a:=⟨b1,0,none⟩) hne (.int .i64 (d:Int))).other (a:=⟨b1,1,none⟩) hne (.int .i64 (i:Int))).set 0 (.bool true)).alloc (.cells #[.int .i64 (d:Int),.int .i64 (i:Int)] 317)
 have hO:=(((hE.setCell (p:=⟨b1,0,none⟩) hg1 (.int .i64 (d:Int))).setCell (p:=⟨b1,1,none⟩) hg1 (.int .i64 (i:Int))).setCell (p:=⟨b2,0,none⟩) hg2 (.bool true)).alloc (.cells #[.int .i64 (d:Int),.int .i64 (i:Int)] 317)
 obtain⟨W,hW⟩:∃W,(((w.setCell ⟨b1,0,none⟩ (.int .i64 (d:Int))).setCell ⟨b1,1,none⟩ (.int .i64 (i:Int))).setCell ⟨b2,0,none⟩ (.bool true)).alloc (.cells #[.int .i64 (d:Int),.int .i64 (i:Int)] 317)=W:=⟨_,rfl⟩
 rw[hW]at hB1 hB2 hO ⊢
 clear hW c1 c2 c3 d1 d2 d3 hta h1 h2
 cases c₀
 simp[bodyPostS,results,Tryz.results234]
 exact⟨hB1,hB2,hO⟩
set_option maxRecDepth 100000 in
theorem catch_idle (p q:Addr) (w:World) :
  CallsD Tryz.prog 234 #[.pointer (some p),.pointer (some q)] .returning w fun e u' w'=>e= .returned (.tuple #[])∧u'= .returning∧w=w':=by
 refine callsD_of_wpS Tryz.func234 rfl fun c₀ cs hu=> ?_
 simp only[Tryz.ntmps234,List.size_toArray,List.length_cons,List.length_nil,Nat.reduceAdd,Nat.reduceSub,Array.replicate_succ,Array.replicate_zero,List.push_toArray,List.append_toArray,List.nil_append,List.cons_append]
 apply wpS_seq
 apply wpS_region
 simp[wpOpsS,go_sem,recoverD,hu,Exit.thenS]
 refine wpS_of_wp ?_
 go_wp2
 cases c₀
 simp_all[bodyPostS,results,Tryz.results234]
def downP:Option (Nat×Nat)→Nat×Nat
 | none=>(0,0)
 | some x=>x
set_option maxRecDepth 100000 in
set_option maxHeartbeats 8000000 in
theorem fails_any (c:C.Sys) (vl:Value) (p b off:Int) (wt:ByteArray) (br:Nat) (w0 w:World) (O:C.Ok c) (hp0:0≤p) (hp1:p≤12) (h2:0≤b) (h3:b≤8) (ho0:0≤off) (ho1:off<2^c.loads.length)
  (hlen:wt.data.toList.length=c.days.toNat) (hbr0:w0.heap.size≤br) (hLs:Loads w0 vl c.loads) (hE0:Ext w0 w)
  (hb:Blk w br (runV c vl p b off wt 0 (C.st0 c b) (C.start c b) 0) 279) :
  Calls Tryz.prog 200 #[.pointer (some ⟨br,0,none⟩)] w fun e w'=>e= .returned (.tuple #[.agg #[.int .i64 (downP (C.firstDown c (C.run c p b off wt.data.toList))).1,.int .i64 (downP (C.firstDown c (C.run c p b off wt.data.toList))).2],.bool (C.firstDown c (C.run c p b off wt.data.toList)).isSome])∧Ext w0 w':=by
 have hmf:∀(fn:Fn) (first cap:Array Value) (w:World),(Instr.makeFunc fn first cap).run Tryz.prog w= .ok (.func fn first cap) w:=fun _ _ _ _=>rfl
 have hI:=fun w' hE hb'=>must_any c vl p b off wt br w0 w' O hp0 hp1 h2 h3 ho0 ho1 hlen hbr0 hLs hE hb'
 obtain⟨S,hS⟩:∃S,C.firstDown c (C.run c p b off wt.data.toList)=S:=⟨_,rfl⟩
 rw[hS]
 simp only[hS]at hI
 have HI:=Lib.hid hI
 have hlt:=hb.lt
 have hsz:=hE0.size
 clear hI hS
 cases S with
 | some x =>
  obtain⟨d,i⟩:=x
  go_enter_defers Tryz.func200,Tryz.ntmps200
  go_wp2_with fail
  refine(HI.out _ (by(with_reducible(repeat(first|exact Ext.refl _|assumption|apply Ext.alloc|apply Ext.drew|exact ext_plus _ _|(apply Ext.setCell;rotate_left;(simp<;>omega))|(apply Qa;rotate_left;exact ext_plus _ _)|(apply Qa;rotate_left;assumption))))) ((hb.alloc _).alloc _)).mono ?_
  rintro e w' ⟨rfl,hEw,hOw⟩
  dsimp only[mustE]
  have hB1:Blk w' w.heap.size #[.int .i64 0,.int .i64 0] 317:=Blk.off ((Qd (by simp) _ _).alloc _) hOw (by omega)
  have hB2:Blk w' (w.heap.size+1) #[.bool false] 4:=Blk.off (Qd (by simp) _ _) hOw (by omega)
  refine leaves_cons (f:=234) (args:=#[.pointer (some ⟨w.heap.size,0,none⟩),.pointer (some ⟨w.heap.size+1,0,none⟩)]) (by simp) (by simp[go_sem]) ?_
  refine(catch_stop w.heap.size (w.heap.size+1) _ _ false d i [] w0 _ hEw (by omega) (by omega) (by omega) hB1 hB2).mono ?_
  rintro e u' w'' ⟨rfl,rfl,k1,k2,hO⟩
  have q1:=k1.cell 0
  have q2:=k1.cell 1
  have q3:=k2.cell 0
  simp at q1 q2 q3
  simp[Leaves,settle,results,Tryz.results200,go_sem,q1,q2,q3,downP]
  exact hO
 | none =>
  go_enter_defers Tryz.func200,Tryz.ntmps200
  go_wp2_with fail
  refine(HI.out _ (by(with_reducible(repeat(first|exact Ext.refl _|assumption|apply Ext.alloc|apply Ext.drew|exact ext_plus _ _|(apply Ext.setCell;rotate_left;(simp<;>omega))|(apply Qa;rotate_left;exact ext_plus _ _)|(apply Qa;rotate_left;assumption))))) ((hb.alloc _).alloc _)).mono ?_
  rintro e w' ⟨rfl,hEw,hOw⟩
  dsimp only[mustE]
  have hB1:Blk w' w.heap.size #[.int .i64 0,.int .i64 0] 317:=Blk.off ((Qd (by simp) _ _).alloc _) hOw (by omega)
  have hB2:Blk w' (w.heap.size+1) #[.bool false] 4:=Blk.off (Qd (by simp) _ _) hOw (by omega)
  have c1:=hB1.cell
  have c2:=hB1.free
  have c3:=hB1.lt
  have d1:=hB2.cell
  have d2:=hB2.free
  have d3:=hB2.lt
  go_wp2
  refine leaves_cons (f:=234) (args:=#[.pointer (some ⟨w.heap.size,0,none⟩),.pointer (some ⟨w.heap.size+1,0,none⟩)]) (by simp) (by simp[go_sem]) ?_
  refine(catch_idle ⟨w.heap.size,0,none⟩ ⟨w.heap.size+1,0,none⟩ _).mono ?_
  rintro e u' w'' ⟨rfl,rfl,rfl⟩
  have k1:=((hB1.set 0 (.int .i64 0)).set 1 (.int .i64 0)).other (a:=⟨w.heap.size+1,0,none⟩) (by simp) (.bool false)
  have k2:=((hB2.other (a:=⟨w.heap.size,0,none⟩) (by simp) (.int .i64 0)).other (a:=⟨w.heap.size,1,none⟩) (by simp) (.int .i64 0)).set 0 (.bool false)
  have hE9:=((hEw.setCell (p:=⟨w.heap.size,0,none⟩) (by simp;omega) (.int .i64 0)).setCell (p:=⟨w.heap.size,1,none⟩) (by simp;omega) (.int .i64 0)).setCell (p:=⟨w.heap.size+1,0,none⟩) (by simp<;>omega) (.bool false)
  obtain⟨W,hW⟩:∃W,((w'.setCell ⟨w.heap.size,0,none⟩ (.int .i64 0)).setCell ⟨w.heap.size,1,none⟩ (.int .i64 0)).setCell ⟨w.heap.size+1,0,none⟩ (.bool false)=W:=⟨_,rfl⟩
  rw[hW]at k1 k2 hE9 ⊢
  have q1:=k1.cell 0
  have q2:=k1.cell 1
  have q3:=k2.cell 0
  simp at q1 q2 q3
  clear c1 c2 d1 d2 hW
  simp[Leaves,settle,results,Tryz.results200,go_sem,q1,q2,q3,downP]
  exact hE9
end Go.Proofs.YtgloajbgphcloaaGreat.Cl
namespace Go.Proofs.YtgloajbgphcloaaGreat.Cl
set_option linter.unusedVariables false
set_option linter.unusedSimpArgs false
open Go.RowKit Go.Shelf
open Act renaming put → Qg
open Blk renaming new' → Qd
open KeepsOthers renaming setCell → Qf
open Lib renaming hid → Qb
open List renaming getElem_cons_succ → Qj, getElem_cons_zero → Qi, getElem_toArray → Qh, setIfInBounds_toArray → Qk, set_cons_succ → Qm, set_cons_zero → Ql
open Nat renaming le_refl → Qe
attribute [local go_sem] Oper.semAt_some
def OnRet (R:Act→World→Prop):Exit→Act→World→Prop
 | .ret,a,w=>R a w
 | _,_,_=>False
theorem wp_scope_ret {P:Program} {c:Code} {Q:Exit→Act→World→Prop} {a:Act} {w:World} (h:∀R:Act→World→Prop,(∀ a w,Q .ret a w→R a w)→c.wp P (OnRet R) a w):(Code.scope c).wp P Q a w:=by
 refine wp_scope_straight (Code.wp_mono ?_ (h (fun a w=>Q .ret a w) fun _ _ q=>q))
 intro e a w hq
 cases e<;>first|exact hq|exact hq.elim
theorem weathers_len {c:C.Sys} {t:C.Txt} (h:t∈C.weathers c):t.length=c.days.toNat:=by
 unfold C.weathers C.texts at h
 obtain⟨k,_,rfl⟩:=List.mem_map.1 (List.mem_filter.1 h).1
 exact textOf_len _ _
def faultOf (c:C.Sys) (p b off:Int) (t:C.Txt):Option (C.Txt×Nat×Nat):=(C.firstDown c (C.run c p b off t)).map fun x=>(t,x.1,x.2)
theorem fault_eq (c:C.Sys) (p b off:Int):C.fault c p b off=(C.weathers c).findSome? (faultOf c p b off):=rfl
def faultV:Option (C.Txt×Nat×Nat)→Array Value
 | none=>#[.string ⟨#[]⟩,.int .i64 0,.int .i64 0]
 | some x=>#[.string ⟨x.1.toArray⟩,.int .i64 (x.2.1:Int),.int .i64 (x.2.2:Int)]
theorem findSome_snoc_none {α β:Type} {f:α→Option β} {l:List α} {x:α} (h:l.findSome? f=none) (hx:f x=none):(l++[x]).findSome? f=none:=by
 rw[List.findSome?_append,h];simp[hx]
theorem findSome_pre {α β:Type} {f:α→Option β} {l m:List α} {x:α} {r:β} (h:l.findSome? f=none) (hx:f x=some r) (hp:l++[x] <+: m):m.findSome? f=some r:=by
 obtain⟨t,rfl⟩:=hp
 rw[List.append_assoc,List.findSome?_append,h]
 simp[hx]
theorem str_of {s:ByteArray} :(⟨s.data.toList.toArray⟩:ByteArray)=s:=by cases s;simp
set_option maxRecDepth 100000 in
set_option maxHeartbeats 16000000 in
theorem fault_any (c:C.Sys) (vl:Value) (p b off:Int) (w:World) (O:C.Ok c) (hp0:0≤p) (hp1:p≤12) (h2':0≤b) (h3':b≤8) (ho0:0≤off) (ho1:off<2^c.loads.length) (hLs:Loads w vl c.loads) :
  Calls Tryz.prog 130 #[.agg (sysV c vl),.agg #[.int .i64 p,.int .i64 b],.int .i64 off] w fun e w'=>e= .returned (.tuple #[.agg (faultV (C.fault c p b off)),.bool (C.fault c p b off).isSome])∧Ext w w':=by
 have hLs':=hLs
 obtain⟨al,cl,rfl,_⟩:=hLs'
 have hru:=fun(x:Wt c) w'=>run_any c (.slice al c.loads.length cl) ⟨_,_,_,rfl⟩ p b off x.1 w' O h2' h3'
 have hfa:=fun(x:Wt c) br Y w' (hLY:Loads Y (.slice al c.loads.length cl) c.loads) hbr0 hE0 hb=>fails_any c (.slice al c.loads.length cl) p b off x.1 br Y w' O hp0 hp1 h2' h3' ho0 ho1 (weathers_len x.2) hbr0 hLY hE0 hb
 have hwe:=fun w'=>weathers_any c (.slice al c.loads.length cl) ⟨_,_,_,rfl⟩ w'
 have HRU:=Qb hru
 have HFA:=Qb hfa
 have HWE:=Qb hwe
 have HO:=Qb O
 clear hru hfa hwe O ho1
 refine(callsIn_wide (n:=5)).1 ?_
 refine callsIn_of_wp_marks Tryz.func130 rfl trivial ?_ rfl
 simp only[Tryz.ntmps130,List.size_toArray,List.length_cons,List.length_nil,Nat.reduceAdd,Nat.reduceSub,Array.replicate_succ,Array.replicate_zero,List.push_toArray,List.append_toArray,List.nil_append,List.cons_append]
 refine wpIn_wide.2 ?_
 go_wp2
 refine wp_scope_ret fun RR hR'=> ?_
 go_wp2
 go_step3
 go_upto_region 3 with(fail)
 obtain⟨w1,hw1⟩:∃w1,((((((w.alloc (.cells (sysV c (.slice al c.loads.length cl)) 55)).alloc (.cells #[.int .i64 p,.int .i64 b] 176)).alloc (.cells #[.int .i64 off] 3)).alloc (.cells #[.string ⟨#[]⟩,.int .i64 0,.int .i64 0] 259)).alloc (.cells #[.string ⟨#[]⟩,.int .i64 0,.int .i64 0] 259)).alloc (.cells #[.bool false] 4))=w1:=⟨_,rfl⟩
 have hs0:Blk w1 (w.heap.size) (sysV c (.slice al c.loads.length cl)) 55:=by rw[← hw1];exact(((((Qd rfl _ _).alloc _).alloc _).alloc _).alloc _).alloc _
 have hs1:Blk w1 (w.heap.size+1) #[.int .i64 p,.int .i64 b] 176:=by rw[← hw1];exact((((Qd (by simp) _ _).alloc _).alloc _).alloc _).alloc _
 have hs2:Blk w1 (w.heap.size+1+1) #[.int .i64 off] 3:=by rw[← hw1];exact(((Qd (by simp) _ _).alloc _).alloc _).alloc _
 have hs3:Blk w1 (w.heap.size+1+1+1) #[.string ⟨#[]⟩,.int .i64 0,.int .i64 0] 259:=by rw[← hw1];exact((Qd (by simp) _ _).alloc _).alloc _
 have hs4:Blk w1 (w.heap.size+1+1+1+1) #[.string ⟨#[]⟩,.int .i64 0,.int .i64 0] 259:=by rw[← hw1];exact(Qd (by simp) _ _).alloc _
 have hs5:Blk w1 (w.heap.size+1+1+1+1+1) #[.bool false] 4:=by rw[← hw1];exact Qd (by simp) _ _
 have hE1:Ext w w1:=by rw[← hw1];(with_reducible(repeat(first|exact Ext.refl _|assumption|apply Ext.alloc|apply Ext.drew|exact ext_plus _ _|(apply Ext.setCell;rotate_left;(simp<;>omega))|(apply Ext.trans;rotate_left;exact ext_plus _ _)|(apply Ext.trans;rotate_left;assumption))))
 have hz1:w.heap.size+6=w1.heap.size:=by rw[← hw1];simp
 rw[hw1]
 clear hw1
 have s0:=hs0.cell
 have s1:=hs0.lt
 go_wp2_with (first|(go_at_call 78;refine(HWE.out _).mono ?_;rintro e w2 ⟨rfl,hbx,hb⟩))
 have hE2:=hE1.trans hb
 have t0:=hs0.ext hb
 have t1:=hs1.ext hb
 have t2:=hs2.ext hb
 have t3:=hs3.ext hb
 have t4:=hs4.ext hb
 have t5:=hs5.ext hb
 have hz2:=hb.size
 obtain⟨n0,hn0⟩:∃n0,w.heap.size=n0:=⟨_,rfl⟩
 obtain⟨bx,hbxx⟩:∃bx,w1.heap.size=bx:=⟨_,rfl⟩
 rw[hbxx]at hbx hz1 hz2 ⊢
 rw[hn0]at hz1 t0 t1 t2 t3 t4 t5 ⊢
 clear hs0 hs1 hs2 hs3 hs4 hs5 s0 s1 hb hE1 hbxx
 have hbl:=hbx.lt
 refine(wpIn_wide (n:=5)).1 ?_
 have hK:=(Keep1.rec_ (n:=w.heap.size) (b:=bx) (w:=w2) hE2.size hbl)
 refine' wpIn_rangeFunc_ownF rfl (by omega) (gf:=151) (lb:=_) rfl trivial (enters_of Tryz.func151 (by kernel_rfl) rfl)
  (weathers_stops c (.slice al c.loads.length cl) ⟨_,_,_,rfl⟩ HO.out w w2 hE2 bx 4 (by omega) hbx) Keep1.trans hK (Below.refl _ _) (fun _=>rfl)
  (fun pre Y=>((pre.map Wt.txt).findSome? (faultOf c p b off)=none∧Blk Y n0 (sysV c (.slice al c.loads.length cl)) 55∧Blk Y (n0+1) #[.int .i64 p,.int .i64 b] 176∧Blk Y (n0+1+1) #[.int .i64 off] 3∧Blk Y (n0+1+1+1) #[.string ⟨#[]⟩,.int .i64 0,.int .i64 0] 259∧Blk Y (n0+1+1+1+1) #[.string ⟨#[]⟩,.int .i64 0,.int .i64 0] 259∧Blk Y (n0+1+1+1+1+1) #[.bool false] 4∧Blk Y bx (sysV c (.slice al c.loads.length cl)) 55)∧Ext w Y)
  (fun cd pre Y=>(cd= .exit 0∧∃pre' x r,pre=pre'++[x]∧(pre'.map Wt.txt).findSome? (faultOf c p b off)=none∧faultOf c p b off x.txt=some r∧Blk Y (n0+1+1+1) #[.string ⟨#[]⟩,.int .i64 0,.int .i64 0] 259∧Blk Y (n0+1+1+1+1) (faultV (some r)) 259∧Blk Y (n0+1+1+1+1+1) #[.bool true] 4)∧Ext w Y)
  ?own ?ownx ⟨⟨rfl,t0,t1,t2,t3,t4,t5,hbx⟩,hE2⟩ _ ?assign ?body ?done ?stop
 case own =>
  refine OwnFrom.and (fun pre A B row h hg hr=> ?_) (ownFrom_below (Qe _) hE2.size)
  obtain⟨g1,g2,g3,g4,g5,g6,g7,g8⟩:=h
  have hr':=fun r e=>(hr r e).2
  exact⟨g1,g2.kept hg hr',g3.kept hg hr',g4.kept hg hr',g5.kept hg hr',g6.kept hg hr',g7.kept hg hr',g8.kept hg hr'⟩
 case ownx =>
  intro cd
  refine OwnFrom.and (fun pre A B row h hg hr=> ?_) (ownFrom_below (Qe _) hE2.size)
  obtain⟨rfl,pre',x,r,g1,g2,g3,g4,g5,g6⟩:=h
  have hr':=fun r e=>(hr r e).2
  exact⟨rfl,pre',x,r,g1,g2,g3,g4.kept hg hr',g5.kept hg hr',g6.kept hg hr'⟩
 case assign =>
  intro l x Y K hK
  simp only[encW]
  gi_wp2
  exact hK
 case body =>
  rintro l pre x Y ⟨⟨g1,g2,g3,g4,g5,g6,g7,g8⟩,hEY⟩ hlen
  have hLY:=hLs.ext hEY
  have k0:=g2.cell
  have k1:=g2.lt
  have k2:=g3.cell
  have k3:=g3.lt
  have k4:=g4.cell
  have k5:=g4.lt
  have hbxY:n0+6≤Y.heap.size:=by have:=g7.lt;omega
  have G1:=Qb g1
  clear g1
  obtain⟨S,hS⟩:∃S,C.firstDown c (C.run c p b off x.1.data.toList)=S:=⟨_,rfl⟩
  have hfx:faultOf c p b off x.txt=S.map fun y=>(x.txt,y.1,y.2):=by rw[← hS];rfl
  have HFX:=Qb hfx
  have hfa:=HFA.out x
  simp only[hS]at hfa
  have HFA2:=Qb hfa
  clear hfa hfx hS
  cases S with
  | none =>
   gi_wp2_with (first|(refine⟨trivial,?_⟩;gi_at_call 80;refine(callsIn_wide.2 (HRU.out x _)).mono ?_;rintro e w4 ⟨br,rfl,hbr,hbrge,hb4⟩)|(refine⟨trivial,?_⟩;gi_at_call 200;refine(callsIn_wide.2 (HFA2.out br Y _ hLY hbrge hb4 hbr)).mono ?_;rintro e w5 ⟨rfl,hb5⟩))
   have hEz:Ext Y (w5.alloc (.cells #[.int .i64 (downP none).1,.int .i64 (downP none).2] 317)):=hb5.alloc _
   refine⟨KeepsOthers.of_grownBy hEz.grownBy (fun j o e=>by cases e),⟨Below.mono hEz hEY.size,hEz.block bx g8.lt⟩,⟨?_,g2.ext hEz,g3.ext hEz,g4.ext hEz,g5.ext hEz,g6.ext hEz,g7.ext hEz,g8.ext hEz⟩,hEY.trans hEz⟩
   rw[List.map_append]
   exact findSome_snoc_none G1.out HFX.out
  | some r =>
   obtain⟨d,i⟩:=r
   gi_wp2_with (first|(refine⟨trivial,?_⟩;gi_at_call 80;refine(callsIn_wide.2 (HRU.out x _)).mono ?_;rintro e w4 ⟨br,rfl,hbr,hbrge,hb4⟩)|(refine⟨trivial,?_⟩;gi_at_call 200;refine(callsIn_wide.2 (HFA2.out br Y _ hLY hbrge hb4 hbr)).mono ?_;rintro e w5 ⟨rfl,hb5⟩;have e0:=(g6.ext hb5).lt;have e1:=(g7.ext hb5).lt;have e2:=(g6.ext hb5).free;have e3:=(g7.ext hb5).free;have e4:=(g6.ext hb5).cell;have e5:=(g7.ext hb5).cell))
   have hE9:Ext w w5:=hEY.trans hb5
   have h6:Blk (((((w5.setCell ⟨n0+1+1+1+1,0,none⟩ (.string x.1)).setCell ⟨n0+1+1+1+1,1,none⟩ (.int .i64 (downP (some (d,i))).1)).setCell ⟨n0+1+1+1+1,2,none⟩ (.int .i64 (downP (some (d,i))).2)).setCell ⟨n0+1+1+1+1+1,0,none⟩ (.bool true)).alloc (.cells #[.int .i64 (downP (some (d,i))).1,.int .i64 (downP (some (d,i))).2] 317)) (n0+1+1+1+1) (faultV (some (x.txt,d,i))) 259:=by
    refine Blk.alloc (Blk.other ?_ (by simp) _) _
    have h:=(((g6.ext hb5).set 0 (.string x.1)).set 1 (.int .i64 (downP (some (d,i))).1)).set 2 (.int .i64 (downP (some (d,i))).2)
    have e9:faultV (some (x.txt,d,i))=#[.string x.1,.int .i64 (downP (some (d,i))).1,.int .i64 (downP (some (d,i))).2]:=by
     show #[Value.string ⟨x.1.data.toList.toArray⟩,_,_]=_
     rw[str_of];rfl
    rw[e9]
    simpa using h
   have h7:Blk (((((w5.setCell ⟨n0+1+1+1+1,0,none⟩ (.string x.1)).setCell ⟨n0+1+1+1+1,1,none⟩ (.int .i64 (downP (some (d,i))).1)).setCell ⟨n0+1+1+1+1,2,none⟩ (.int .i64 (downP (some (d,i))).2)).setCell ⟨n0+1+1+1+1+1,0,none⟩ (.bool true)).alloc (.cells #[.int .i64 (downP (some (d,i))).1,.int .i64 (downP (some (d,i))).2] 317)) (n0+1+1+1+1+1) #[.bool true] 4:=by
    refine Blk.alloc ?_ _
    have h:=((((g7.ext hb5).other (a:=⟨n0+1+1+1+1,0,none⟩) (by simp) (.string x.1)).other (a:=⟨n0+1+1+1+1,1,none⟩) (by simp) (.int .i64 (downP (some (d,i))).1)).other (a:=⟨n0+1+1+1+1,2,none⟩) (by simp) (.int .i64 (downP (some (d,i))).2)).set 0 (.bool true)
    simpa using h
   have h5:Blk (((((w5.setCell ⟨n0+1+1+1+1,0,none⟩ (.string x.1)).setCell ⟨n0+1+1+1+1,1,none⟩ (.int .i64 (downP (some (d,i))).1)).setCell ⟨n0+1+1+1+1,2,none⟩ (.int .i64 (downP (some (d,i))).2)).setCell ⟨n0+1+1+1+1+1,0,none⟩ (.bool true)).alloc (.cells #[.int .i64 (downP (some (d,i))).1,.int .i64 (downP (some (d,i))).2] 317)) (n0+1+1+1) #[.string ⟨#[]⟩,.int .i64 0,.int .i64 0] 259 :=
    Blk.alloc (Blk.other (Blk.other (Blk.other (Blk.other (g5.ext hb5) (by simp) _) (by simp) _) (by simp) _) (by simp<;>omega) _) _
   have hE8:Ext w (((((w5.setCell ⟨n0+1+1+1+1,0,none⟩ (.string x.1)).setCell ⟨n0+1+1+1+1,1,none⟩ (.int .i64 (downP (some (d,i))).1)).setCell ⟨n0+1+1+1+1,2,none⟩ (.int .i64 (downP (some (d,i))).2)).setCell ⟨n0+1+1+1+1+1,0,none⟩ (.bool true)).alloc (.cells #[.int .i64 (downP (some (d,i))).1,.int .i64 (downP (some (d,i))).2] 317)) :=
    ((((hE9.setCell (p:=⟨n0+1+1+1+1,0,none⟩) (by simp;omega) _).setCell (p:=⟨n0+1+1+1+1,1,none⟩) (by simp;omega) _).setCell (p:=⟨n0+1+1+1+1,2,none⟩) (by simp;omega) _).setCell (p:=⟨n0+1+1+1+1+1,0,none⟩) (by simp;omega) _).alloc _
   refine⟨(KeepsOthers.of_grownBy hb5.grownBy (fun j o e=>by cases e)).trans (((((Qf _ _ _).trans (Qf _ _ _)).trans (Qf _ _ _)).trans (Qf _ _ _)).trans (KeepsOthers.alloc _ _)),⟨rfl,pre,x,(x.txt,d,i),rfl,G1.out,HFX.out,h5,h6,h7⟩,hE8⟩
 case done =>
  rintro D ys Y hD hS ⟨⟨g1,g2,g3,g4,g5,g6,g7,g8⟩,hEY⟩ hK
  have hF:C.fault c p b off=none:=by rw[fault_eq,←hS];exact g1
  have HF:=Qb hF
  have hR2:=Qb hR'
  clear g2 g3 g4 g8 hS g1 hF hR'
  go_upto_region 8 with(fail)
  have hbd:=g6.drew
  have hfd:=g7.drew
  have hod:=g5.drew
  have hSM:∀y:World,(fun cc (y:World)=>(y.cell? ⟨n0+1+1+1+1+1,0,none⟩=some (.bool false))∧(n0+1+1+1+1+1<y.heap.size)∧(cc=false→(∀ o,y.cell? ⟨n0+1+1+1+1,o,none⟩=(faultV (none):Array Value)[o]?)∧n0+1+1+1+1<y.heap.size)) false y→(fun cc (y:World)=>(y.cell? ⟨n0+1+1+1+1+1,0,none⟩=some (.bool false))∧(n0+1+1+1+1+1<y.heap.size)∧(cc=false→(∀ o,y.cell? ⟨n0+1+1+1+1,o,none⟩=(faultV (none):Array Value)[o]?)∧n0+1+1+1+1<y.heap.size)) true y:=fun y hy=>⟨hy.1,hy.2.1,fun e=>by cases e⟩
  refine wp_region_late 2 (fun cc y=>(y.cell? ⟨n0+1+1+1+1+1,0,none⟩=some (.bool false))∧(n0+1+1+1+1+1<y.heap.size)∧(cc=false→(∀ o,y.cell? ⟨n0+1+1+1+1,o,none⟩=(faultV (none):Array Value)[o]?)∧n0+1+1+1+1<y.heap.size)) (by kernel_rfl) (fun hL=> ?_)
  refine late_early (i:=0) (v:= ?_) rfl (by kernel_rfl) (by kernel_rfl) (by kernel_rfl) (by decide) (by kernel_rfl) (fun _ _ _ h=>h) hL (Or.inl ⟨by rfl,?_⟩) ⟨hfd.cell 0,hfd.lt,fun _=>⟨hbd.cell,hbd.lt⟩⟩ (fun hL'=> ?_)
  rotate_left
  ·intro y hy;obtain⟨_,_,hz⟩:=hy;have hz2:=hz rfl;clear hz;obtain⟨z1,z2⟩:=hz2;unfold faultV at z1;go_simp;(try with_reducible rfl)
  clear hL;rename Shutb _ _=>hL
  (try simp only[Qg,Qh,Qi,Qj,Qk,Ql,Qm])
  refine late_late (i:=1) (v:= ?_) rfl (by kernel_rfl) (by kernel_rfl) (by kernel_rfl) (by decide) hSM (fun _ _ _ h=>h) hL (Or.inl ⟨by rfl,?_⟩) ⟨hfd.cell 0,hfd.lt,fun _=>⟨hbd.cell,hbd.lt⟩⟩ (fun hL'=> ?_)
  rotate_left
  ·intro y hy;obtain⟨z1,z2,_⟩:=hy;go_simp;(try with_reducible rfl)
  clear hL;rename Shutb _ _=>hL
  (try simp only[Qg,Qh,Qi,Qj,Qk,Ql,Qm])
  have o0:=g5.cell
  have o1:=g5.lt
  have o2:=g5.free
  have hfo:=(((g7.other (a:=⟨n0+1+1+1,0,none⟩) (by simp) (.string ⟨#[]⟩)).other (a:=⟨n0+1+1+1,1,none⟩) (by simp) (.int .i64 0)).other (a:=⟨n0+1+1+1,2,none⟩) (by simp) (.int .i64 0)).drew
  refine late_one (i:=2) (by kernel_rfl) hL (fun hL'=> ?_)
  refine wpOp_step rfl (fun K hK0=> ?_)
  have hKK:Shut _:=hK0
  clear hK0
  go_simp
  refine hKK.out _ _ ⟨⟨hfo.cell 0,hfo.lt,fun e=>by cases e⟩,?_⟩
  clear hKK K;clear hL;rename Shutb _ _=>hL
  (try simp only[Qg,Qh,Qi,Qj,Qk,Ql,Qm])
  refine late_one (i:=3) (by kernel_rfl) hL (fun hL'=> ?_)
  refine wpOp_step rfl (fun K hK0=> ?_)
  have hKK:Shut _:=hK0
  clear hK0
  go_simp
  refine hKK.out _ _ ⟨⟨hfo.cell 0,hfo.lt,fun e=>by cases e⟩,?_⟩
  clear hKK K;clear hL;rename Shutb _ _=>hL
  (try simp only[Qg,Qh,Qi,Qj,Qk,Ql,Qm])
  refine late_done (by kernel_rfl) ?_
  (try dsimp only[Exit.then])
  have ho5:Blk (((Y.setCell ⟨n0+1+1+1,0,none⟩ (.string ⟨#[]⟩)).setCell ⟨n0+1+1+1,1,none⟩ (.int .i64 0)).setCell ⟨n0+1+1+1,2,none⟩ (.int .i64 0)).drew (n0+1+1+1) #[.string ⟨#[]⟩,.int .i64 0,.int .i64 0] 259:=by refine Blk.drew ?_;simpa using(((g5.set 0 (.string ⟨#[]⟩)).set 1 (.int .i64 0)).set 2 (.int .i64 0))
  have hE5:Ext w (((Y.setCell ⟨n0+1+1+1,0,none⟩ (.string ⟨#[]⟩)).setCell ⟨n0+1+1+1,1,none⟩ (.int .i64 0)).setCell ⟨n0+1+1+1,2,none⟩ (.int .i64 0)).drew:=(((hEY.setCell (p:=⟨n0+1+1+1,0,none⟩) (by simp;omega) _).setCell (p:=⟨n0+1+1+1,1,none⟩) (by simp;omega) _).setCell (p:=⟨n0+1+1+1,2,none⟩) (by simp;omega) _).drew
  have hK5:(((Y.setCell ⟨n0+1+1+1,0,none⟩ (.string ⟨#[]⟩)).setCell ⟨n0+1+1+1,1,none⟩ (.int .i64 0)).setCell ⟨n0+1+1+1,2,none⟩ (.int .i64 0)).drew.heap[D]? =some (.deferred (some [])):=(Below.heap_setCell _ _ _ _ (by simp;omega)).trans ((Below.heap_setCell _ _ _ _ (by simp;omega)).trans ((Below.heap_setCell _ _ _ _ (by simp;omega)).trans hK))
  obtain⟨Y5,hY5⟩:∃Y5,(((Y.setCell ⟨n0+1+1+1,0,none⟩ (.string ⟨#[]⟩)).setCell ⟨n0+1+1+1,1,none⟩ (.int .i64 0)).setCell ⟨n0+1+1+1,2,none⟩ (.int .i64 0)).drew=Y5:=⟨_,rfl⟩
  rw[hY5]at ho5 hE5 hK5 ⊢
  clear hY5
  go_wp2
  refine hR2.out _ _ ?_
  have hB5:Blk (Y5.putObj D (.deferred none)) (n0+1+1+1) #[.string ⟨#[]⟩,.int .i64 0,.int .i64 0] 259:=((grownBy_putObj' Y5 D _).block _ ho5.lt (by simp;omega)).trans ho5
  have q0:=hB5.cell
  have q1:=hB5.lt
  refine⟨by simp,.inl ⟨_,_,rfl,run_takeDeferred hK5,?_⟩⟩
  rw[HF.out]
  refine⟨.tuple #[.agg #[.string ⟨#[]⟩,.int .i64 0,.int .i64 0],.bool false],by simp[results,Tryz.results130,go_sem,q0,q1],rfl,?_⟩
  exact Below.trans hE5 (belowK_b (w:=w) (Qe _) Y5 D _ _ (by have:=hE2.size;omega) hK5 rfl rfl)
 case stop =>
  rintro D cd pre Y hD hSp ⟨⟨rfl,pre',x,r,rfl,g1,g2,g5,g6,g7⟩,hEY⟩ hK
  have hF:C.fault c p b off=some r:=by
   rw[fault_eq]
   refine findSome_pre g1 g2 ?_
   rw[List.map_append]at hSp
   exact hSp
  have HF:=Qb hF
  refine wpIn_wide.2 ?_
  have hR2:=Qb hR'
  clear hSp g1 g2 hF hR'
  go_upto_region 8 with(fail)
  have hbd:=g6.drew
  have hfd:=g7.drew
  have hod:=g5.drew
  have hSM:∀y:World,(fun cc (y:World)=>(y.cell? ⟨n0+1+1+1+1+1,0,none⟩=some (.bool true))∧(n0+1+1+1+1+1<y.heap.size)∧(cc=false→(∀ o,y.cell? ⟨n0+1+1+1+1,o,none⟩=(faultV (some r):Array Value)[o]?)∧n0+1+1+1+1<y.heap.size)) false y→(fun cc (y:World)=>(y.cell? ⟨n0+1+1+1+1+1,0,none⟩=some (.bool true))∧(n0+1+1+1+1+1<y.heap.size)∧(cc=false→(∀ o,y.cell? ⟨n0+1+1+1+1,o,none⟩=(faultV (some r):Array Value)[o]?)∧n0+1+1+1+1<y.heap.size)) true y:=fun y hy=>⟨hy.1,hy.2.1,fun e=>by cases e⟩
  refine wp_region_late 2 (fun cc y=>(y.cell? ⟨n0+1+1+1+1+1,0,none⟩=some (.bool true))∧(n0+1+1+1+1+1<y.heap.size)∧(cc=false→(∀ o,y.cell? ⟨n0+1+1+1+1,o,none⟩=(faultV (some r):Array Value)[o]?)∧n0+1+1+1+1<y.heap.size)) (by kernel_rfl) (fun hL=> ?_)
  refine late_early (i:=0) (v:= ?_) rfl (by kernel_rfl) (by kernel_rfl) (by kernel_rfl) (by decide) (by kernel_rfl) (fun _ _ _ h=>h) hL (Or.inl ⟨by rfl,?_⟩) ⟨hfd.cell 0,hfd.lt,fun _=>⟨hbd.cell,hbd.lt⟩⟩ (fun hL'=> ?_)
  rotate_left
  ·intro y hy;obtain⟨_,_,hz⟩:=hy;have hz2:=hz rfl;clear hz;obtain⟨z1,z2⟩:=hz2;unfold faultV at z1;go_simp;(try with_reducible rfl)
  clear hL;rename Shutb _ _=>hL
  (try simp only[Qg,Qh,Qi,Qj,Qk,Ql,Qm])
  refine late_late (i:=1) (v:= ?_) rfl (by kernel_rfl) (by kernel_rfl) (by kernel_rfl) (by decide) hSM (fun _ _ _ h=>h) hL (Or.inl ⟨by rfl,?_⟩) ⟨hfd.cell 0,hfd.lt,fun _=>⟨hbd.cell,hbd.lt⟩⟩ (fun hL'=> ?_)
  rotate_left
  ·intro y hy;obtain⟨z1,z2,_⟩:=hy;go_simp;(try with_reducible rfl)
  clear hL;rename Shutb _ _=>hL
  (try simp only[Qg,Qh,Qi,Qj,Qk,Ql,Qm])
  have o0:=g5.cell
  have o1:=g5.lt
  have o2:=g5.free
  have hfo:=(((g7.other (a:=⟨n0+1+1+1,0,none⟩) (by simp) (.string ⟨r.1.toArray⟩)).other (a:=⟨n0+1+1+1,1,none⟩) (by simp) (.int .i64 (r.2.1:Int))).other (a:=⟨n0+1+1+1,2,none⟩) (by simp) (.int .i64 (r.2.2:Int))).drew
  refine late_one (i:=2) (by kernel_rfl) hL (fun hL'=> ?_)
  refine wpOp_step rfl (fun K hK0=> ?_)
  have hKK:Shut _:=hK0
  clear hK0
  go_simp
  refine hKK.out _ _ ⟨⟨hfo.cell 0,hfo.lt,fun e=>by cases e⟩,?_⟩
  clear hKK K;clear hL;rename Shutb _ _=>hL
  (try simp only[Qg,Qh,Qi,Qj,Qk,Ql,Qm])
  refine late_one (i:=3) (by kernel_rfl) hL (fun hL'=> ?_)
  refine wpOp_step rfl (fun K hK0=> ?_)
  have hKK:Shut _:=hK0
  clear hK0
  go_simp
  refine hKK.out _ _ ⟨⟨hfo.cell 0,hfo.lt,fun e=>by cases e⟩,?_⟩
  clear hKK K;clear hL;rename Shutb _ _=>hL
  (try simp only[Qg,Qh,Qi,Qj,Qk,Ql,Qm])
  refine late_done (by kernel_rfl) ?_
  (try dsimp only[Exit.then])
  have ho5:Blk (((Y.setCell ⟨n0+1+1+1,0,none⟩ (.string ⟨r.1.toArray⟩)).setCell ⟨n0+1+1+1,1,none⟩ (.int .i64 (r.2.1:Int))).setCell ⟨n0+1+1+1,2,none⟩ (.int .i64 (r.2.2:Int))).drew (n0+1+1+1) #[.string ⟨r.1.toArray⟩,.int .i64 (r.2.1:Int),.int .i64 (r.2.2:Int)] 259:=by refine Blk.drew ?_;simpa using(((g5.set 0 (.string ⟨r.1.toArray⟩)).set 1 (.int .i64 (r.2.1:Int))).set 2 (.int .i64 (r.2.2:Int)))
  have hE5:Ext w (((Y.setCell ⟨n0+1+1+1,0,none⟩ (.string ⟨r.1.toArray⟩)).setCell ⟨n0+1+1+1,1,none⟩ (.int .i64 (r.2.1:Int))).setCell ⟨n0+1+1+1,2,none⟩ (.int .i64 (r.2.2:Int))).drew:=(((hEY.setCell (p:=⟨n0+1+1+1,0,none⟩) (by simp;omega) _).setCell (p:=⟨n0+1+1+1,1,none⟩) (by simp;omega) _).setCell (p:=⟨n0+1+1+1,2,none⟩) (by simp;omega) _).drew
  have hK5:(((Y.setCell ⟨n0+1+1+1,0,none⟩ (.string ⟨r.1.toArray⟩)).setCell ⟨n0+1+1+1,1,none⟩ (.int .i64 (r.2.1:Int))).setCell ⟨n0+1+1+1,2,none⟩ (.int .i64 (r.2.2:Int))).drew.heap[D]? =some (.deferred (some [])):=(Below.heap_setCell _ _ _ _ (by simp;omega)).trans ((Below.heap_setCell _ _ _ _ (by simp;omega)).trans ((Below.heap_setCell _ _ _ _ (by simp;omega)).trans hK))
  obtain⟨Y5,hY5⟩:∃Y5,(((Y.setCell ⟨n0+1+1+1,0,none⟩ (.string ⟨r.1.toArray⟩)).setCell ⟨n0+1+1+1,1,none⟩ (.int .i64 (r.2.1:Int))).setCell ⟨n0+1+1+1,2,none⟩ (.int .i64 (r.2.2:Int))).drew=Y5:=⟨_,rfl⟩
  rw[hY5]at ho5 hE5 hK5 ⊢
  clear hY5
  go_wp2
  refine hR2.out _ _ ?_
  have hB5:Blk (Y5.putObj D (.deferred none)) (n0+1+1+1) #[.string ⟨r.1.toArray⟩,.int .i64 (r.2.1:Int),.int .i64 (r.2.2:Int)] 259:=((grownBy_putObj' Y5 D _).block _ ho5.lt (by simp;omega)).trans ho5
  have q0:=hB5.cell
  have q1:=hB5.lt
  refine⟨by simp,.inl ⟨_,_,rfl,run_takeDeferred hK5,?_⟩⟩
  rw[HF.out]
  refine⟨.tuple #[.agg #[.string ⟨r.1.toArray⟩,.int .i64 (r.2.1:Int),.int .i64 (r.2.2:Int)],.bool true],by simp[results,Tryz.results130,go_sem,q0,q1],rfl,?_⟩
  exact Below.trans hE5 (belowK_b (w:=w) (Qe _) Y5 D _ _ (by have:=hE2.size;omega) hK5 rfl rfl)
end Go.Proofs.YtgloajbgphcloaaGreat.Cl
namespace Go.Proofs.YtgloajbgphcloaaGreat.Cl
set_option linter.unusedVariables false
set_option linter.unusedSimpArgs false
open Go.RowKit
def givenB (c:C.Sys) (p b off:Int):Bool:=C.sysB c&&C.partsB p b&&C.offB c off
end Go.Proofs.YtgloajbgphcloaaGreat.Cl
namespace Go.Proofs.YtgloajbgphcloaaGreat.Cl
set_option linter.unusedVariables false
set_option linter.unusedSimpArgs false
open Go.RowKit Go.Maps
open Ext renaming alloc → Qo, drew → Qp, refl → Qn, setCell → Qq, trans → Qa
theorem key_row:(176:TypeId)<Tryz.prog.types.size:=of_decide_eq_true (by kernel_rfl)
theorem key_wide:(match Tryz.prog.underlying 176 with|some (.array _ _)|some (.struct _)=>true|_=>false)=true:=by kernel_rfl
set_option maxRecDepth 100000 in
theorem key_keyed:Keyed Tryz.prog 176:=Keyed.of_law (deep_law_laid (by kernel_rfl) (m:=3) (by omega) key_row (by kernel_rfl) key_wide)
def wf64 (n:Int):Prop:=(Lit.int .i64 n).wf=true
theorem wf64_of {n:Int} (h0:0≤n) (h1:n≤1000000000):wf64 n:=by
 have h2:IntKind.min .i64= -9223372036854775808:=by decide
 have h3:IntKind.max .i64=9223372036854775807:=by decide
 show(decide (IntKind.min .i64≤n)&&decide (n≤IntKind.max .i64))=true
 rw[h2,h3,Bool.and_eq_true,decide_eq_true_eq,decide_eq_true_eq]
 omega
set_option maxRecDepth 100000 in
theorem store_key {a b:Int} (ha:wf64 a) (hb:wf64 b):∃kl,keyOf Tryz.prog 176 (.agg #[.int .i64 a,.int .i64 b])=some kl:=by
 unfold wf64 at ha hb
 obtain⟨k,hk⟩:∃k,Tryz.prog.types.size+1=k+2:=⟨Tryz.prog.types.size - 1,by have h:(decide (0<Tryz.prog.types.size))=true:=(by kernel_rfl);have h:=of_decide_eq_true h;omega⟩
 have hkt:Tryz.prog.keyType 176=true:=by kernel_rfl
 have hs:Tryz.prog.cellsOf 176=2:=by kernel_rfl
 have hi1:Tryz.prog.cellsOf 3=1:=by kernel_rfl
 have hu:=Tryz.underlying176
 have hui:=Tryz.underlying3
 unfold keyOf
 simp only[hu]
 rw[if_pos (by simp[hkt,Value.formed,hu,hs]),hk]
 refine⟨.string (keyBytes [.int .i64 a,.int .i64 b]),?_⟩
 unfold Program.keyLits
 simp only[hu,Value.cells]
 rw[if_pos (by refine⟨by simp[hs],by simp⟩)]
 simp[List.mapM_cons,Program.keyLits,hui,hi1,ha,hb]
noncomputable abbrev IV:Value→Option (DataW Value×List MemPlace):=plainElem (H:=Value) Tryz.prog 3
def Costs (c:C.Sys) (w:World) (b n:Nat) (L:List (Int×Int)):Prop :=
 ∃D,w.ownsMap Tryz.prog 176 IV b n D∧∀s∈L,∃kl,keyOf Tryz.prog 176 (.agg #[.int .i64 s.1,.int .i64 s.2])=some kl∧D.atKey kl (.lit (.int .i64 0))= .lit (.int .i64 (C.cost c s.1 s.2))
theorem Costs.made (c:C.Sys) (w:World):Costs c (w.alloc (.map #[] 0)) w.heap.size 0 []:=⟨.map [],World.ownsMap_made _ _ _ _,fun _ h=>by cases h⟩
theorem Costs.ext {c:C.Sys} {w w':World} {b n:Nat} {L:List (Int×Int)} (h:Costs c w b n L) (he:Ext w w'):Costs c w' b n L:=by
 obtain⟨D,h1,h2⟩:=h
 exact⟨D,h1.kept (row:=none) ⟨he.os,he.tape,he.output,he.size,fun k hk _=>he.block k hk⟩ (by simp),h2⟩
theorem Costs.lt {c:C.Sys} {w:World} {b n:Nat} {L:List (Int×Int)} (h:Costs c w b n L):b<w.heap.size:=by
 obtain⟨D,h1,h2⟩:=h
 exact h1.lt
theorem Costs.grown {c:C.Sys} {w w':World} {b n:Nat} {L:List (Int×Int)} {row:Option Nat} (h:Costs c w b n L) (hg:w.grownBy w' row) (hr:row≠some b):Costs c w' b n L:=by
 obtain⟨D,h1,h2⟩:=h
 exact⟨D,h1.kept hg (Ne.symm hr),h2⟩
theorem Costs.off {c:C.Sys} {w w':World} {b n g:Nat} {L:List (Int×Int)} (h:Costs c w b n L) (ho:Off g w w') (hne:g≠b):Costs c w' b n L:=by
 obtain⟨D,h1,h2⟩:=h
 exact⟨D,h1.kept (row:=some g) ⟨ho.os,ho.tape,ho.output,ho.size,fun k hk hk2=>ho.block k hk (fun e=>hk2 (by rw[e]))⟩ (by simpa using Ne.symm hne),h2⟩
set_option maxRecDepth 100000 in
theorem zero_int (w:World):(zeroValue 3).run Tryz.prog w= .ok (.int .i64 0) w:=rfl
set_option maxRecDepth 100000 in
theorem Costs.look {c:C.Sys} {w:World} {b n:Nat} {L:List (Int×Int)} (h:Costs c w b n L) {s:Int×Int} (hs:s∈L):(Instr.lookup 252 (.map (some b)) (.agg #[.int .i64 s.1,.int .i64 s.2]) false).run Tryz.prog w= .ok (.int .i64 (C.cost c s.1 s.2)) w:=by
 obtain⟨D,h1,h2⟩:=h
 obtain⟨kl,hk,hat⟩:=h2 s hs
 obtain⟨x,hrun,hc,_⟩:=h1.lookup_int key_keyed Tryz.underlying252 Tryz.underlying3 (zero_int w) hk
 rw[hat]at hc
 have:C.cost c s.1 s.2=x:=by simpa using hc
 rw[this];exact hrun
theorem Costs.put {c:C.Sys} {w':World} {b n:Nat} {L:List (Int×Int)} {s:Int×Int} {D:DataW Value} {kl:Lit} (hD:IsMap D) (h2:∀s∈L,∃kl,keyOf Tryz.prog 176 (.agg #[.int .i64 s.1,.int .i64 s.2])=some kl∧D.atKey kl (.lit (.int .i64 0))= .lit (.int .i64 (C.cost c s.1 s.2)))
  (hk:keyOf Tryz.prog 176 (.agg #[.int .i64 s.1,.int .i64 s.2])=some kl) (hs:s ∉ L) (h1:w'.ownsMap Tryz.prog 176 IV b (n+1) (D.put kl (.lit (.int .i64 (C.cost c s.1 s.2))))):Costs c w' b (n+1) (L++[s]):=by
 refine⟨_,h1,fun t ht=> ?_⟩
 rw[List.mem_append,List.mem_singleton]at ht
 rcases ht with ht|rfl
 ·obtain⟨kt,hkt,hat⟩:=h2 t ht
  refine⟨kt,hkt,?_⟩
  rw[atKey_put_other ?_]
  ·exact hat
  ·rintro rfl
   have e:=key_keyed.inj hkt hk
   have e1:t.1=s.1∧t.2=s.2:=by simpa using e
   exact hs (by rw[show s=t from Prod.ext e1.1.symm e1.2.symm];exact ht)
 ·exact⟨kl,hk,atKey_put_same hD (key_keyed.key hk) _ _⟩
theorem _root_.Go.Proofs.YtgloajbgphcloaaGreat.Blk.but {w w':World} {b c:Nat} {cs:Array Value} {e:TypeId} (h:Blk w c cs e) (hg:w.grownBy w' (some b)) (hne:c≠b):Blk w' c cs e :=
 (hg.block c h.lt (fun e=>hne (Option.some.inj e))).trans h
theorem cost_bd {c:C.Sys} (O:C.Ok c) {p b:Int} (hp0:0≤p) (hp1:p≤12) (h2:0≤b) (h3:b≤8):0≤p*c.panel∧p*c.panel≤12000000∧0≤b*c.battery∧b*c.battery≤8000000 :=
 ⟨Int.mul_nonneg hp0 O.p0,Int.le_trans (Int.mul_le_mul hp1 O.p1 O.p0 (by decide)) (by decide),Int.mul_nonneg h2 O.b0,Int.le_trans (Int.mul_le_mul h3 O.b1 O.b0 (by decide)) (by decide)⟩
def inRange (s:Int×Int):Prop:=0≤s.1∧s.1≤12∧0≤s.2∧s.2≤8
theorem cost_le {c:C.Sys} (O:C.Ok c) {s:Int×Int} (h:inRange s):0≤C.cost c s.1 s.2∧C.cost c s.1 s.2≤20000000:=by
 have:=cost_bd O h.1 h.2.1 h.2.2.1 h.2.2.2
 unfold C.cost;omega
set_option maxRecDepth 100000 in
set_option maxHeartbeats 4000000 in
theorem cmp_any (c:C.Sys) (O:C.Ok c) (bc bm n:Nat) (L:List (Int×Int)) (w:World) (x y:Int×Int) (hC:Costs c w bm n L) (hB:Blk w bc #[.map (some bm)] 252) (hx:x∈L) (hy:y∈L) (hrx:inRange x) (hry:inRange y) :
  Calls Tryz.prog 127 #[.agg #[.int .i64 x.1,.int .i64 x.2],.agg #[.int .i64 y.1,.int .i64 y.2],.pointer (some ⟨bc,0,none⟩)] w fun e w'=>e= .returned (.int .i64 (C.cost c x.1 x.2 - C.cost c y.1 y.2))∧Ext w w':=by
 have hbx:=cost_le O hrx
 have hby:=cost_le O hry
 obtain⟨x1,x2⟩:=x
 obtain⟨y1,y2⟩:=y
 dsimp only at hbx hby ⊢
 have hlx:=fun z (he:Ext w z)=>(hC.ext he).look hx
 have hly:=fun z (he:Ext w z)=>(hC.ext he).look hy
 dsimp only at hlx hly
 obtain⟨cx,hcx⟩:∃cx,C.cost c x1 x2=cx:=⟨_,rfl⟩
 obtain⟨cy,hcy⟩:∃cy,C.cost c y1 y2=cy:=⟨_,rfl⟩
 simp only[hcx]at hlx hbx
 simp only[hcy]at hly hby
 rw[hcx,hcy]
 have HLX:=Lib.hid hlx
 have HLY:=Lib.hid hly
 clear hlx hly hcx hcy hC
 go_enter Tryz.func127,Tryz.ntmps127
 go_upto_region 1 with(fail)
 obtain⟨w1,hw1⟩:∃w1,(w.alloc (.cells #[.int .i64 x1,.int .i64 x2] 176)).alloc (.cells #[.int .i64 y1,.int .i64 y2] 176)=w1:=⟨_,rfl⟩
 have hx1:Blk w1 w.heap.size #[.int .i64 x1,.int .i64 x2] 176:=by rw[← hw1];exact(Blk.new' rfl _ _).alloc _
 have hy1:Blk w1 (w.heap.size+1) #[.int .i64 y1,.int .i64 y2] 176:=by rw[← hw1];exact Blk.new' (by simp) _ _
 have hE1:Ext w w1:=by rw[← hw1];(with_reducible(repeat(first|exact Qn _|assumption|apply Qo|apply Qp|exact ext_plus _ _|(apply Qq;rotate_left;(simp<;>omega))|(apply Qa;rotate_left;exact ext_plus _ _)|(apply Qa;rotate_left;assumption))))
 rw[hw1]
 have hb1:=hB.ext hE1
 clear hw1
 have hl1:=fun z=>HLX.out (plus w1 z) (hE1.trans (ext_plus w1 z))
 have hl2:=fun z=>HLY.out (plus w1 z) (hE1.trans (ext_plus w1 z))
 have k0:=hx1.cell
 have k1:=hx1.lt
 have k2:=hy1.cell
 have k3:=hy1.lt
 have k4:=hb1.cell
 have k5:=hb1.lt
 have hpc:=plus_cell
 refine wp_region_ext 7 (fun _ _ d _ _ h=>by cases d<;>exact h) (by kernel_rfl) (by kernel_rfl) (by kernel_rfl) (by kernel_rfl) ?_
 simp only[List.take_succ_cons,List.take_zero,List.drop_succ_cons,List.drop_zero]
 repeat(any_goals(first|go_big_quiet_step(fail)|quiet_step(fail)))
 all_goals(refine wpQuiet_nil ?_;intro w2 hE2)
 go_wp2
 go_ret
 exact⟨rfl,hE1.trans hE2⟩
set_option maxRecDepth 100000 in
set_option maxHeartbeats 4000000 in
theorem suff_any (c:C.Sys) (O:C.Ok c) (vl:Value) (bs:Nat) (w:World) (hL:Loads w vl c.loads) (hB:Blk w bs (sysV c vl) 55) (s:Int×Int) (hs:inRange s) :
  Calls Tryz.prog 129 #[.agg #[.int .i64 s.1,.int .i64 s.2],.pointer (some ⟨bs,0,none⟩)] w fun e w'=>e= .returned (.bool (C.suffice c s.1 s.2 0))∧Ext w w':=by
 have hL':=hL
 obtain⟨a,cap,rfl,_⟩:=hL'
 obtain⟨s1,s2⟩:=s
 obtain⟨g1,g2,g3,g4⟩:=hs
 dsimp only at g1 g2 g3 g4 ⊢
 have hp:(0:Int)<2^c.loads.length:=Int.pow_pos (by decide)
 have hfa:=fun w' (hx:Ext w w')=>fault_any c (.slice a c.loads.length cap) s1 s2 0 w' O g1 g2 g3 g4 (Int.le_refl 0) hp (hL.ext hx)
 have hsf:C.suffice c s1 s2 0=(C.fault c s1 s2 0).isNone:=rfl
 rw[hsf]
 obtain⟨S,hS⟩:∃S,C.fault c s1 s2 0=S:=⟨_,rfl⟩
 simp only[hS]at hfa
 rw[hS]
 have k0:=hB.cell
 have k1:=hB.lt
 have HFA:=Lib.hid hfa
 clear hfa hp hsf hS
 cases S with
 | none =>
  dsimp only[faultV]at HFA
  go_enter Tryz.func129,Tryz.ntmps129
  go_wp2_with (first|(go_at_call 130;refine(HFA.out _ (by(with_reducible(repeat(first|exact Qn _|assumption|apply Qo|apply Qp|exact ext_plus _ _|(apply Qq;rotate_left;(simp<;>omega))|(apply Qa;rotate_left;exact ext_plus _ _)|(apply Qa;rotate_left;assumption)))))).mono ?_;rintro e w3 ⟨rfl,hb3⟩))
  go_ret
  exact⟨rfl,by(with_reducible(repeat(first|exact Qn _|assumption|apply Qo|apply Qp|exact ext_plus _ _|(apply Qq;rotate_left;(simp<;>omega))|(apply Qa;rotate_left;exact ext_plus _ _)|(apply Qa;rotate_left;assumption))))⟩
 | some r =>
  dsimp only[faultV]at HFA
  go_enter Tryz.func129,Tryz.ntmps129
  go_wp2_with (first|(go_at_call 130;refine(HFA.out _ (by(with_reducible(repeat(first|exact Qn _|assumption|apply Qo|apply Qp|exact ext_plus _ _|(apply Qq;rotate_left;(simp<;>omega))|(apply Qa;rotate_left;exact ext_plus _ _)|(apply Qa;rotate_left;assumption)))))).mono ?_;rintro e w3 ⟨rfl,hb3⟩))
  go_ret
  exact⟨rfl,by(with_reducible(repeat(first|exact Qn _|assumption|apply Qo|apply Qp|exact ext_plus _ _|(apply Qq;rotate_left;(simp<;>omega))|(apply Qa;rotate_left;exact ext_plus _ _)|(apply Qa;rotate_left;assumption))))⟩
end Go.Proofs.YtgloajbgphcloaaGreat.Cl
namespace Go.Proofs.YtgloajbgphcloaaGreat.Cl
set_option linter.unusedVariables false
set_option linter.unusedSimpArgs false
open Go.RowKit Go.Maps
open Ext renaming alloc → Qo, drew → Qp, refl → Qn, setCell → Qq, trans → Qa
open Lib renaming hid → Qb
def suffS (c:C.Sys) (s:Int×Int):Bool:=C.suffice c s.1 s.2 0
theorem storeAt {w:World} {g:Nat} {L:List (Int×Int)} (h:RowB storeC 2 176 w g L) (k:Nat) (hk:k<L.length):w.cell? ⟨g,k*2,none⟩=some (.int .i64 L[k].1)∧w.cell? ⟨g,k*2+1,none⟩=some (.int .i64 L[k].2):=by
 have h0:=h.cell k hk 0 (.int .i64 L[k].1) rfl
 have h1:=h.cell k hk 1 (.int .i64 L[k].2) rfl
 exact⟨by simpa using h0,h1⟩
theorem findL_none {α:Type} {p:α→Bool} {L:List α} {k:Nat} (hk:k<L.length) (h:(L.take k).find? p=none) (hp:p L[k]=false):(L.take (k+1)).find? p=none:=by
 rw[List.take_succ_eq_append_getElem hk,List.find?_append,h];simp[hp]
theorem findL_some {α:Type} {p:α→Bool} {L:List α} {k:Nat} (hk:k<L.length) (h:(L.take k).find? p=none) (hp:p L[k]=true):L.find? p=some L[k]:=by
 have e:L=L.take k++L[k]::L.drop (k+1):=by rw[← List.drop_eq_getElem_cons hk,List.take_append_drop]
 have h2:=congrArg (List.find? p) e
 rw[h2,List.find?_append,h,List.find?_cons,hp]
 rfl
theorem store_info:(Tryz.prog.info? 176).map (fun i=>(i.zero,i.size,i.bytes))=some (some (.agg #[.int .i64 0,.int .i64 0]),2,16):=by kernel_rfl
def storeO:Option (Int×Int)→Int×Int
 | none=>(0,0)
 | some s=>s
set_option maxRecDepth 100000 in
set_option maxHeartbeats 8000000 in
theorem first_any (c:C.Sys) (O:C.Ok c) (vl:Value) (bs g cap N:Nat) (L:List (Int×Int)) (w:World) (hLs:Loads w vl c.loads) (hB:Blk w bs (sysV c vl) 55) (hrow:RowB storeC 2 176 w g L) (hN:N=L.length) (hsz:N≤1000000) (hr:∀s∈L,inRange s) :
  Calls Tryz.prog 128 #[.slice (some ⟨g,0,none⟩) N cap,.func (.func 129) #[] #[.pointer (some ⟨bs,0,none⟩)]] w fun e w'=>e= .returned (.tuple #[.agg #[.int .i64 (storeO (L.find? (suffS c))).1,.int .i64 (storeO (L.find? (suffS c))).2],.bool (L.find? (suffS c)).isSome])∧Ext w w':=by
 have HSU:=Qb (fun w' (hx:Ext w w') s hs=>suff_any c O vl bs w' (hLs.ext hx) (hB.ext hx) s (hr s hs))
 have HROW:=Qb hrow
 have HN:=Qb hN
 have hNl:N≤L.length:=by omega
 have hNl2:L.length≤N:=by omega
 clear hN hrow hB hLs hr
 go_enter Tryz.func128,Tryz.ntmps128
 go_wp2
 go_loopw [11] (fun i wr=>∃k:Nat,k≤N∧i= .int .i64 k∧(L.take k).find? (suffS c)=none∧Blk wr w.heap.size #[.int .i64 0,.int .i64 0] 176∧Ext w wr) (fun i _=>N - (intOf i).toNat)
 case atStart=>exact⟨0,Nat.zero_le _,rfl,rfl,Blk.new' rfl _ _,by(with_reducible(repeat(first|exact Qn _|assumption|apply Qo|apply Qp|exact ext_plus _ _|(apply Qq;rotate_left;(simp<;>omega))|(apply Qa;rotate_left;exact ext_plus _ _)|(apply Qa;rotate_left;assumption))))⟩
 case round =>
  rename World=>wr
  obtain⟨k,hk,rfl,hfi,hb,hE⟩:=hrel
  have HFI:=Qb hfi
  clear hfi
  by_cases hlt:k<N
  ·have hkL:k<L.length:=by omega
   have hrw:=HROW.out.ext hE
   obtain⟨m0,m1⟩:=storeAt hrw k hkL
   have ml:=hrw.lt
   have mem:=List.getElem_mem hkL
   have hsu:=fun w' (hx:Ext w w')=>HSU.out w' hx _ mem
   have HFN:=Qb (fun h=>findL_none hkL HFI.out h)
   have HFS:=Qb (fun h=>findL_some hkL HFI.out h)
   obtain⟨s,hs⟩:∃s,L[k]=s:=⟨_,rfl⟩
   rw[hs]at m0 m1 HFN HFS
   simp only[hs]at hsu
   obtain⟨s1,s2⟩:=s
   dsimp only at m0 m1 hsu
   obtain⟨B,hBB⟩:∃B,C.suffice c s1 s2 0=B:=⟨_,rfl⟩
   simp only[hBB]at hsu
   have hsf:suffS c (s1,s2)=B:=hBB
   rw[hsf]at HFN HFS
   have HS:=Qb hsu
   clear hsu hs hBB hsf mem
   cases B with
   | false =>
    go_wp2_with (first|(go_at_call 129;refine(HS.out _ (by(with_reducible(repeat(first|exact Qn _|assumption|apply Qo|apply Qp|exact ext_plus _ _|(apply Qq;rotate_left;(simp<;>omega))|(apply Qa;rotate_left;exact ext_plus _ _)|(apply Qa;rotate_left;assumption)))))).mono ?_;rintro e w2 ⟨rfl,hb2⟩))
    go_roundw
    case rel=>exact⟨k+1,by omega,by go_num,HFN.out (by first|rfl|trivial),(hb.alloc _).ext hb2,by(with_reducible(repeat(first|exact Qn _|assumption|apply Qo|apply Qp|exact ext_plus _ _|(apply Qq;rotate_left;(simp<;>omega))|(apply Qa;rotate_left;exact ext_plus _ _)|(apply Qa;rotate_left;assumption))))⟩
    case measure=>simp[intOf];omega
   | true =>
    go_wp2_with (first|(go_at_call 129;refine(HS.out _ (by(with_reducible(repeat(first|exact Qn _|assumption|apply Qo|apply Qp|exact ext_plus _ _|(apply Qq;rotate_left;(simp<;>omega))|(apply Qa;rotate_left;exact ext_plus _ _)|(apply Qa;rotate_left;assumption)))))).mono ?_;rintro e w2 ⟨rfl,hb2⟩;have hx1:=Blk.ext (Blk.new wr #[.int .i64 s1,.int .i64 s2] 176) hb2;have k0:=hx1.cell;have k1:=hx1.lt;have hz:=(hb.alloc (.cells #[.int .i64 s1,.int .i64 s2] 176)).ext hb2;have k2:=hz.cell;have k3:=hz.lt;have k4:=hz.free))
    have hzz:=(hz.set 0 (.int .i64 s1)).set 1 (.int .i64 s2)
    have q0:=hzz.cell 0
    have q1:=hzz.cell 1
    have hE2:Ext w w2:=by(with_reducible(repeat(first|exact Qn _|assumption|apply Qo|apply Qp|exact ext_plus _ _|(apply Qq;rotate_left;(simp<;>omega))|(apply Qa;rotate_left;exact ext_plus _ _)|(apply Qa;rotate_left;assumption))))
    have hE9:Ext w ((w2.setCell ⟨w.heap.size,0,none⟩ (.int .i64 s1)).setCell ⟨w.heap.size,1,none⟩ (.int .i64 s2)):=(hE2.setCell (p:=⟨w.heap.size,0,none⟩) (Nat.le_refl _) _).setCell (p:=⟨w.heap.size,1,none⟩) (Nat.le_refl _) _
    refine bodyPost_ret (v:= .tuple #[.agg #[.int .i64 s1,.int .i64 s2],.bool true]) (by simp[results,Tryz.results128,go_sem, *]) rfl ⟨by rw[HFS.out (by first|rfl|trivial)];rfl,hE9⟩
  ·obtain rfl:N=k:=by omega
   have hall:(L.take N).find? (suffS c)=L.find? (suffS c):=by rw[List.take_of_length_le (by omega)]
   rw[hall]at HFI
   have k2:=hb.cell
   have k3:=hb.lt
   have k4:=hb.free
   go_wp2
   have hzz:=((hb.alloc (.cells #[.int .i64 0,.int .i64 0] 176)).set 0 (.int .i64 0)).set 1 (.int .i64 0)
   refine bodyPost_ret (v:= .tuple #[.agg #[.int .i64 0,.int .i64 0],.bool false]) (by simp[results,Tryz.results128,go_sem, *]) rfl ⟨by rw[HFI.out];rfl,?_⟩
   (with_reducible(repeat(first|exact Qn _|assumption|apply Qo|apply Qp|exact ext_plus _ _|(apply Qq;rotate_left;(simp<;>omega))|(apply Qa;rotate_left;exact ext_plus _ _)|(apply Qa;rotate_left;assumption))))
def stores (n:Nat):List (Int×Int):=(List.range n).map fun i=>(((i/9:Nat):Int),((i%9:Nat):Int))
theorem stores_succ (n:Nat):stores (n+1)=stores n++[(((n/9:Nat):Int),((n%9:Nat):Int))]:=by
 unfold stores;rw[List.range_succ,List.map_append];rfl
theorem stores_len (n:Nat):(stores n).length=n:=by simp[stores]
theorem stores_range {s:Int×Int} (h:s∈stores 117):inRange s:=by
 unfold stores at h
 obtain⟨i,hi,rfl⟩:=List.mem_map.1 h
 have:=List.mem_range.1 hi
 unfold inRange
 dsimp only
 omega
theorem stores_new (n:Nat):(((n/9:Nat):Int),((n%9:Nat):Int)) ∉ stores n:=by
 intro h
 unfold stores at h
 obtain⟨i,hi,he⟩:=List.mem_map.1 h
 have h1:=List.mem_range.1 hi
 have h2:i/9=n/9∧i%9=n%9:=by simp at he;omega
 omega
theorem stores_mem {s:Int×Int} (h:inRange s):s∈stores 117:=by
 unfold stores
 obtain⟨s1,s2⟩:=s
 unfold inRange at h
 dsimp only at h
 refine List.mem_map.2 ⟨(s1*9+s2).toNat,List.mem_range.2 (by omega),?_⟩
 rw[Prod.mk.injEq]
 omega
def rankS (s:Int×Int):Nat:=(s.1*9+s.2).toNat
theorem stores_rank (n:Nat):(stores n).Pairwise fun x y=>rankS x<rankS y:=by
 unfold stores
 rw[List.pairwise_map]
 refine List.Pairwise.imp ?_ List.pairwise_lt_range
 intro a b h
 unfold rankS
 dsimp only
 omega
end Go.Proofs.YtgloajbgphcloaaGreat.Cl
namespace Go.Proofs.YtgloajbgphcloaaGreat.Cl
set_option linter.unusedVariables false
set_option linter.unusedSimpArgs false
open Go.RowKit Go.Maps
open Ext renaming alloc → Qo, drew → Qp, refl → Qn, setCell → Qq, trans → Qa
open Lib renaming hid → Qb
def BestIs (c:C.Sys) (o:Option (Int×Int)):Prop :=
 match o with
 | none=>∀s,inRange s→suffS c s=false
 | some t=>inRange t∧suffS c t=true∧∀s,inRange s→suffS c s=true→C.cost c t.1 t.2<C.cost c s.1 s.2∨(C.cost c t.1 t.2=C.cost c s.1 s.2∧rankS t≤rankS s)
theorem best_of_sorted {c:C.Sys} {Z:List (Int×Int)} (hp:Z.Perm (stores 117)) (hs:S.Srt (S.Ord (fun s=>C.cost c s.1 s.2) rankS) Z):BestIs c (Z.find? (suffS c)):=by
 have hm:∀s,s∈Z↔inRange s:=fun s=>by
  rw[hp.mem_iff];exact⟨stores_range,stores_mem⟩
 cases h:Z.find? (suffS c)with
 | none =>
  intro s hs'
  have:=List.find?_eq_none.1 h s ((hm s).2 hs')
  simpa using this
 | some t =>
  obtain⟨h1,A,B,rfl,h2⟩:=List.find?_eq_some_iff_append.1 h
  refine⟨(hm t).1 (by simp),h1,fun s hr hsf=> ?_⟩
  have hz:=(hm s).2 hr
  rw[List.mem_append,List.mem_cons]at hz
  rcases hz with hz|rfl|hz
  ·have:=h2 s hz
   rw[hsf]at this
   simp at this
  ·exact .inr ⟨rfl,Nat.le_refl _⟩
  ·have hpw:=(List.pairwise_append.1 hs).2.1
   have:=(List.pairwise_cons.1 hpw).1 s hz
   rcases this with h3|⟨h3,h4⟩
   ·exact .inl h3
   ·exact .inr ⟨h3,Nat.le_of_lt h4⟩
def bestR (c:C.Sys) (o:Option (Int×Int)):Int×Int×Int×Int :=
 if C.sysB c then(match o with|none=>(0,0,0,5)|some t=>(t.1,t.2,C.cost c t.1 t.2,0))else(0,0,0,2)
def BestPost (c:C.Sys) (w:World) (e:Ending) (w':World):Prop :=
 ∃o,(C.sysB c=true→BestIs c o)∧e= .returned (.tuple #[.int .i64 (bestR c o).1,.int .i64 (bestR c o).2.1,.int .i64 (bestR c o).2.2.1,.int .i64 (bestR c o).2.2.2])∧Ext w w'
theorem stores_at (k j:Nat) (hj:j<9):stores (k*9+j+1)=stores (k*9+j)++[((k:Int),(j:Int))]:=by
 rw[stores_succ,show(k*9+j)/9=k by omega,show(k*9+j)%9=j by omega]
theorem stores_not (k j:Nat) (hj:j<9):((k:Int),(j:Int)) ∉ stores (k*9+j):=by
 have h:=stores_new (k*9+j)
 rw[show(k*9+j)/9=k by omega,show(k*9+j)%9=j by omega]at h
 exact h
set_option maxRecDepth 100000 in
set_option maxHeartbeats 16000000 in
theorem bestQ_any (c:C.Sys) (vl:Value) (w:World) (hL:Loads w vl c.loads) (hn:c.loads.length≤1000000) :
  Calls Tryz.prog 55 #[.agg (sysV c vl)] w (BestPost c w):=by
 have hL':=hL
 obtain⟨a,cap,rfl,_⟩:=hL'
 have hva:=fun w' (hx:Ext w w')=>valid_any c _ w' (hL.ext hx) hn
 obtain⟨B,hB⟩:∃B,C.sysB c=B:=⟨_,rfl⟩
 simp only[hB]at hva
 have HB:=Qb hB
 have HVA:=Qb hva
 clear hva
 cases B with
 | false =>
  clear hB
  go_enter Tryz.func55,Tryz.ntmps55
  go_wp2_with (first|(go_at_call 125;refine(HVA.out _ (by(with_reducible(repeat(first|exact Qn _|assumption|apply Qo|apply Qp|exact ext_plus _ _|(apply Qq;rotate_left;(simp<;>omega))|(apply Qa;rotate_left;exact ext_plus _ _)|(apply Qa;rotate_left;assumption)))))).mono ?_;rintro e w' ⟨rfl,hb⟩;have hE2:Ext w w':=(by(with_reducible(repeat(first|exact Qn _|assumption|apply Qo|apply Qp|exact ext_plus _ _|(apply Qq;rotate_left;(simp<;>omega))|(apply Qa;rotate_left;exact ext_plus _ _)|(apply Qa;rotate_left;assumption)))))))
  exact bodyPost_ret (v:= .tuple #[.int .i64 0,.int .i64 0,.int .i64 0,.int .i64 2]) (by simp[results,Tryz.results55,go_sem]) rfl ⟨none,(fun h=>by rw[HB.out]at h;cases h),by unfold bestR;rw[HB.out];rfl,hE2⟩
 | true =>
  have O:=C.ok_of hB
  have HO:=Qb O
  have hmm:∀w:World,(Instr.makeMap 252 none).run Tryz.prog w= .ok (.map (some w.heap.size)) (w.alloc (.map #[] 0)):=fun _=>rfl
  obtain⟨i0,hi,hz0,hz1,hz2⟩:=info_parts store_info
  clear hB O
  go_enter Tryz.func55,Tryz.ntmps55
  go_upto_region 5 with(first|(go_at_call 125;refine(HVA.out _ (by(with_reducible(repeat(first|exact Qn _|assumption|apply Qo|apply Qp|exact ext_plus _ _|(apply Qq;rotate_left;(simp<;>omega))|(apply Qa;rotate_left;exact ext_plus _ _)|(apply Qa;rotate_left;assumption)))))).mono ?_;rintro e w1 ⟨rfl,hb⟩;have hE1:Ext w w1:=(by(with_reducible(repeat(first|exact Qn _|assumption|apply Qo|apply Qp|exact ext_plus _ _|(apply Qq;rotate_left;(simp<;>omega))|(apply Qa;rotate_left;exact ext_plus _ _)|(apply Qa;rotate_left;assumption)))));have hsb:=Blk.ext (Blk.new w (sysV c (.slice a c.loads.length cap)) 55) hb))
  obtain⟨bm,hbm⟩:∃bm,w1.heap.size=bm:=⟨_,rfl⟩
  obtain⟨w2,hw2⟩:∃w2,(w1.alloc (.map #[] 0)).alloc (.cells #[.map (some w1.heap.size)] 252)=w2:=⟨_,rfl⟩
  have hC2:Costs c w2 bm 0 (stores 0):=by rw[← hw2,←hbm];exact(Costs.made c w1).ext ((Qn _).alloc _)
  have hB2:Blk w2 (bm+1) #[.map (some bm)] 252:=by rw[← hw2,←hbm];exact Blk.new' (by simp) _ _
  have hE12:Ext w1 w2:=by rw[← hw2];exact((Qn w1).alloc _).alloc _
  have hS2:=hsb.ext hE12
  have hE2:=hE1.trans hE12
  have hz2:bm+2=w2.heap.size:=by rw[← hw2,←hbm];simp
  rw[hw2,hbm]
  have hsl:=hsb.lt
  rw[hbm]at hsl
  have HZ2:=Qb hz2
  have hE1s:=hE1.size
  clear hw2 hbm hsb hb hE12 hz2 HVA
  go_wp2
  go_loopw [7,8,9,10,17,20] (fun l _ _ _ i _ wr=>∃k:Nat,k≤13∧i= .int .i64 k∧wr.ownsRow (bm+2) 176 2 l (k*9) ((stores (k*9)).flatMap storeC)∧Costs c wr bm (k*9) (stores (k*9))∧Blk wr (bm+1) #[.map (some bm)] 252∧Blk wr w.heap.size (sysV c (.slice a c.loads.length cap)) 55∧Ext w wr∧bm+2≤wr.heap.size) (fun _ _ _ _ i _ _=>13 - (intOf i).toNat)
  case atStart=>exact⟨0,by omega,rfl,World.ownsRow_nil _ _ _ _,hC2,hB2,hS2,hE2,by have:=HZ2.out;omega⟩
  case round =>
   rename World=>wr
   obtain⟨k,hk,rfl,hown,hC,hB,hS,hE,hzr⟩:=hrel
   by_cases hlt:k<13
   ·have hd13:decide ((k:Int)<13)=true:=by simp;omega
    go_wp2
    clear hd13
    go_loopw [7,9,10,20] (fun l _ _ i wy=>∃j:Nat,j≤9∧i= .int .i64 j∧wy.ownsRow (bm+2) 176 2 l (k*9+j) ((stores (k*9+j)).flatMap storeC)∧Costs c wy bm (k*9+j) (stores (k*9+j))∧Blk wy (bm+1) #[.map (some bm)] 252∧Blk wy w.heap.size (sysV c (.slice a c.loads.length cap)) 55∧Ext w wy∧bm+2≤wy.heap.size) (fun _ _ _ i _=>9 - (intOf i).toNat)
    case atStart=>exact⟨0,by omega,rfl,hown,hC,hB,hS,hE,hzr⟩
    case round =>
     rename World=>wy
     obtain⟨j,hj,rfl,hown,hC,hB,hS,hE,hzr⟩:=hrel
     by_cases hjl:j<9
     ·have hcb:=cost_bd HO.out (p:=(k:Int)) (b:=(j:Int)) (by omega) (by omega) (by omega) (by omega)
      have hce:C.cost c (k:Int) (j:Int)=(k:Int)*c.panel+(j:Int)*c.battery:=rfl
      have hst:=stores_at k j hjl
      obtain⟨kl,hkl⟩:=store_key (wf64_of (n:=(k:Int)) (by omega) (by omega)) (wf64_of (n:=(j:Int)) (by omega) (by omega))
      obtain⟨X,hX⟩:∃X,(k:Int)*c.panel=X:=⟨_,rfl⟩
      obtain⟨Y,hY⟩:∃Y,(j:Int)*c.battery=Y:=⟨_,rfl⟩
      rw[hX,hY]at hcb hce
      have HCE:=Qb hce
      have HST:=Qb hst
      have HKL:=Qb hkl
      have HNOT:=Qb (stores_not k j hjl)
      have HWF:Hid ((Lit.int .i64 (X+Y)).wf=true):=wf64_of (by omega) (by omega)
      obtain⟨D,hD,hDa⟩:=hC
      have HDA:=Qb hDa
      clear hce hst hkl hDa
      have s0:=hS.cell
      have s1:=hS.lt
      have c0:=hB.cell
      have c1:=hB.lt
      obtain⟨a9,c9,rfl⟩:=own_slice hown
      have hwX:IntKind.wrap .i64 X=X:=IntWalk.i64_in _ (by omega)
      have hwY:IntKind.wrap .i64 Y=Y:=IntWalk.i64_in _ (by omega)
      go_upto_region 13 with(first|(at_mapUpdate;refine wpList_mapUpdate_own _ rfl _ _ _ 252 rfl 176 3 key_keyed Tryz.underlying252 IV bm (k*9+j) D rfl (hD.alloc _) (by unfold maxLen;omega) _ _ kl rfl rfl HKL.out (.lit (.int .i64 (X+Y))) [] (plainElem_int Tryz.underlying3 HWF.out) ?_;intro w8 hown8 hgrow8))
      have hEa:Ext wy (wy.alloc (.cells #[.int .i64 (k:Int),.int .i64 (j:Int)] 176)):=(Qn _).alloc _
      have hx8:Blk w8 wy.heap.size #[.int .i64 (k:Int),.int .i64 (j:Int)] 176:=Blk.but (Blk.new _ _ _) hgrow8 (by omega)
      have hB8:=(hB.ext hEa).but hgrow8 (by omega)
      have hS8:=(hS.ext hEa).but hgrow8 (by omega)
      have ho8:=own_move (own_ext hown hEa) fun g cur hg hg0=>hgrow8.block g (Array.getElem?_eq_some_iff.1 hg0).1 (fun e=>by have:=Option.some.inj e;omega)
      have hE8:Ext w w8:=Ext.grown (hE.trans hEa) hgrow8 (fun r e=>by cases e;omega)
      have hC8:Costs c w8 bm (k*9+j+1) (stores (k*9+j)++[((k:Int),(j:Int))]):=Costs.put hD.isMap HDA.out HKL.out HNOT.out (by rw[HCE.out];exact hown8)
      have hz8:=hgrow8.size
      (try simp only[World.size_alloc]at hz8)
      clear s0 s1 c0 c1 hD hown8 hgrow8 hB hS
      have s0:=hx8.cell
      have s1:=hx8.lt
      go_wp2_with (at_builtin;refine wpList_append_own _ rfl _ _ 253 rfl (bm+2) 176 i0 (.agg #[.int .i64 0,.int .i64 0]) 2 16 Tryz.underlying253 hi hz0 hz1 hz2 rfl (by decide) _ _ _ rfl (own_ext ho8 ((Qn _).alloc _)) ⟨w8.heap.size,0,none⟩ 1 1 [.int .i64 (k:Int),.int .i64 (j:Int)] rfl rfl (cell_two _ _ _ _ (by simp)) (two_ints _ _) (by unfold maxLen;omega) (by omega) (by simp;omega) ?_;intro v' w9 hown' hgrow _)
      have hEb:Ext w8 (w8.alloc (.cells #[.int .i64 (k:Int),.int .i64 (j:Int)] 176)):=(Qn _).alloc _
      have hC9:=(hC8.ext hEb).grown hgrow (fun e=>by have:=own_base ho8 _ e;omega)
      have hB9:=Blk.grown (hB8.ext hEb) hgrow (own_base ho8) (by omega)
      have hS9:=Blk.grown (hS8.ext hEb) hgrow (own_base ho8) (by omega)
      have hE9:Ext w w9:=Ext.grown (hE8.trans hEb) hgrow (fun r e=>by have:=own_base ho8 r e;omega)
      have hz9:=hgrow.size
      (try simp only[World.size_alloc]at hz9)
      go_roundw
      case rel =>
       refine⟨j+1,by omega,by go_num,?_,by rw[← Nat.add_assoc,HST.out];exact hC9,hB9,hS9,hE9,by omega⟩
       rw[← Nat.add_assoc,HST.out,List.flatMap_append]
       exact hown'
      case measure=>simp[intOf];omega
     ·obtain rfl:j=9:=by omega
      go_wp2
      go_roundw
      case rel=>exact⟨k+1,by omega,by go_num,by rw[Nat.succ_mul];exact hown,by rw[Nat.succ_mul];exact hC,hB,hS,hE,hzr⟩
      case measure=>simp[intOf];omega
   ·obtain rfl:k=13:=by omega
    obtain⟨g,cp,rfl,hgb,hgl⟩:=own_pos hown (by omega)
    have hrow:RowB storeC 2 176 wr g (stores 117):=RowB.of_own (f:=storeC) storeC_len (by rw[stores_len];exact hown)
    have hKey:∀w' w'',(Costs c w' bm 117 (stores 117)∧Blk w' (bm+1) #[.map (some bm)] 252)→Off g w' w''→(Costs c w'' bm 117 (stores 117)∧Blk w'' (bm+1) #[.map (some bm)] 252):=fun w' w'' h ho=>⟨h.1.off ho (by omega),h.2.off ho (by omega)⟩
    have hso:=sortStableSt g (bm+1) (fun s=>C.cost c s.1 s.2) rankS (fun s=>s∈stores 117) (fun w'=>Costs c w' bm 117 (stores 117)∧Blk w' (bm+1) #[.map (some bm)] 252) hKey
     (fun x hx=>by have:=cost_le HO.out (stores_range hx);omega)
     (fun w' x y hk hx hy=>cmp_any c HO.out (bm+1) bm 117 (stores 117) w' x y hk.1 hk.2 hx hy (stores_range hx) (stores_range hy))
     (stores 117) cp 117 wr ⟨hC,hB⟩ (fun x hx=>hx) (stores_rank 117) (stores_len 117).symm (by decide) hrow
    have HSO:=Qb hso
    have hfi:=fun Z (hp:Z.Perm (stores 117)) w' (hx:Ext w w') (hs:Blk w' w.heap.size (sysV c (.slice a c.loads.length cap)) 55) hr=>first_any c HO.out (.slice a c.loads.length cap) w.heap.size g cp 117 Z w' (hL.ext hx) hs hr (by rw[hp.length_eq,stores_len]) (by decide) (fun s hs=>stores_range (hp.mem_iff.1 hs))
    have HFI:=Qb hfi
    have hgw:w.heap.size≤g:=by omega
    have hgs:g≠w.heap.size:=by omega
    clear hso hfi hKey
    go_upto_region 18 with(first|(go_at_call 126;refine HSO.out.mono ?_;rintro e w3 ⟨rfl,Z,hZp,hZs,hZr,hZo⟩;have hE3:=hZo.ext0 hE hgw;have hS3:=hS.off hZo (Ne.symm hgs))|(go_at_call 128;refine(HFI.out Z hZp _ hE3 hS3 hZr).mono ?_;rintro e w4 ⟨rfl,hE34⟩))
    have hbest:=best_of_sorted hZp hZs
    have hE4:=hE3.trans hE34
    have hC4:=(hC.off hZo (by omega:g≠bm)).ext hE34
    have hB4:=(hB.off hZo (by omega)).ext hE34
    obtain⟨o,ho⟩:∃o,Z.find? (suffS c)=o:=⟨_,rfl⟩
    rw[ho]at hbest ⊢
    have HBE:=Qb hbest
    clear hbest ho hC hB hS hrow hown hZp hZs hZr HSO HFI
    cases o with
    | none =>
     go_wp2
     exact bodyPost_ret (v:= .tuple #[.int .i64 0,.int .i64 0,.int .i64 0,.int .i64 5]) (by simp[results,Tryz.results55,go_sem]) rfl ⟨none,fun _=>HBE.out,by unfold bestR;rw[HB.out];rfl,by(with_reducible(repeat(first|exact Qn _|assumption|apply Qo|apply Qp|exact ext_plus _ _|(apply Qq;rotate_left;(simp<;>omega))|(apply Qa;rotate_left;exact ext_plus _ _)|(apply Qa;rotate_left;assumption))))⟩
    | some t =>
     have hin:t∈stores 117:=stores_mem HBE.out.1
     have hlk:=fun z (hz:Ext w4 z)=>(hC4.ext hz).look hin
     obtain⟨t1,t2⟩:=t
     dsimp only[storeO]at hlk ⊢
     obtain⟨ct,hct⟩:∃ct,C.cost c t1 t2=ct:=⟨_,rfl⟩
     simp only[hct]at hlk
     have HLK:=Qb hlk
     have HCT:=Qb hct
     clear hlk hct hin
     go_upto_region 20 with(fail)
     obtain⟨w5,hw5⟩:∃w5,w4.alloc (.cells #[.int .i64 t1,.int .i64 t2] 176)=w5:=⟨_,rfl⟩
     have hx5:Blk w5 w4.heap.size #[.int .i64 t1,.int .i64 t2] 176:=by rw[← hw5];exact Blk.new' rfl _ _
     have hE45:Ext w4 w5:=by rw[← hw5];exact(Qn _).alloc _
     have hB5:=hB4.ext hE45
     rw[hw5]
     clear hw5
     have hl1:=fun z=>HLK.out (plus w5 z) (hE45.trans (ext_plus w5 z))
     have k0:=hx5.cell
     have k1:=hx5.lt
     have k2:=hB5.cell
     have k3:=hB5.lt
     have hpc:=plus_cell
     refine wp_region_ext 11 (fun _ _ d _ _ h=>by cases d<;>exact h) (by kernel_rfl) (by kernel_rfl) (by kernel_rfl) (by kernel_rfl) ?_
     simp only[List.take_succ_cons,List.take_zero,List.drop_succ_cons,List.drop_zero]
     repeat(any_goals(first|go_big_quiet_step(fail)|quiet_step(fail)))
     all_goals(refine wpQuiet_nil ?_;intro w6 hE6)
     unfold wpList
     go_wp2
     exact bodyPost_ret (v:= .tuple #[.int .i64 t1,.int .i64 t2,.int .i64 ct,.int .i64 0]) (by simp[results,Tryz.results55,go_sem]) rfl ⟨some (t1,t2),fun _=>HBE.out,by unfold bestR;rw[HB.out];simp only[if_true];rw[HCT.out],(hE4.trans hE45).trans hE6⟩
end Go.Proofs.YtgloajbgphcloaaGreat.Cl
namespace Go.Proofs.YtgloajbgphcloaaGreat.Cl
set_option linter.unusedVariables false
set_option linter.unusedSimpArgs false
open Go.RowKit
def bs (t:C.Txt):ByteArray:=⟨t.toArray⟩
def strC (t:C.Txt):List Value:=[.string (bs t)]
def Texts (w:World) (v:Value) (xs:List C.Txt):Prop:=Sls 1 (AtE strC) w v xs
theorem Texts.ext {w w':World} {v:Value} {xs:List C.Txt} (h:Texts w v xs) (he:Ext w w'):Texts w' v xs:=Sls.ext (ate_stays _) h he
end Go.Proofs.YtgloajbgphcloaaGreat.Cl
namespace Go.Proofs.YtgloajbgphcloaaGreat.Cl
set_option linter.unusedVariables false
set_option linter.unusedSimpArgs false
open Go.RowKit
theorem bestIs_one {c:C.Sys} {o o':Option (Int×Int)} (h:BestIs c o) (h':BestIs c o'):o=o':=by
 cases o with
 | none =>
  cases o' with
  | none=>rfl
  | some t=>have:=h t h'.1;rw[h'.2.1]at this;cases this
 | some s =>
  cases o' with
  | none=>have:=h' s h.1;rw[h.2.1]at this;cases this
  | some t =>
   have h1:=h.2.2 t h'.1 h'.2.1
   have h2:=h'.2.2 s h.1 h.2.1
   have hr:rankS s=rankS t:=by omega
   have r1:=h.1
   have r2:=h'.1
   unfold inRange at r1 r2
   unfold rankS at hr
   congr 1
   refine Prod.ext ?_ ?_<;>omega
end Go.Proofs.YtgloajbgphcloaaGreat.Cl
namespace Go.Proofs.YtgloajbgphcloaaGreat.Cl
set_option linter.unusedVariables false
set_option linter.unusedSimpArgs false
open Go.RowKit
def exC:C.Sys:=⟨100,20,200,10,1000,[⟨120,0,true⟩,⟨60,100,false⟩],4,3,2,50,80⟩
set_option maxRecDepth 100000 in
set_option maxHeartbeats 4000000 in
theorem exC_any (w:World):Calls Tryz.prog 56 #[] w fun e w'=>∃vl,e= .returned (.agg (sysV exC vl))∧Loads w' vl exC.loads∧Ext w w':=by
 have hpc:=plus_cell
 go_enter Tryz.func56,Tryz.ntmps56
 go_wp2
 obtain⟨w1,hw1⟩:∃w1,(w.alloc (.cells (sysV exC (.slice (some ⟨w.heap.size+1,0,none⟩) 2 2)) 55)).alloc (.cells #[.int .i64 120,.int .i64 0,.bool true,.int .i64 60,.int .i64 100,.bool false] 165)=w1:=⟨_,rfl⟩
 have hbx:Blk w1 w.heap.size (sysV exC (.slice (some ⟨w.heap.size+1,0,none⟩) 2 2)) 55:=by rw[← hw1];exact(Blk.new w _ _).alloc _
 have hbl:Blk w1 (w.heap.size+1) #[.int .i64 120,.int .i64 0,.bool true,.int .i64 60,.int .i64 100,.bool false] 165:=by rw[← hw1];exact Blk.new' (by simp) _ _
 have hE1:Ext w w1:=by rw[← hw1];(with_reducible(repeat(first|exact Ext.refl _|assumption|apply Ext.alloc|apply Ext.drew|exact ext_plus _ _|(apply Ext.setCell;rotate_left;(simp<;>omega))|(apply Ext.trans;rotate_left;exact ext_plus _ _)|(apply Ext.trans;rotate_left;assumption))))
 have hL:Loads w1 (.slice (some ⟨w.heap.size+1,0,none⟩) 2 2) exC.loads:=by
  refine⟨_,2,rfl,fun i hi=>⟨w.heap.size+1,0,rfl,hbl.lt,fun j u hu=> ?_⟩⟩
  rw[hbl.cell]
  have hi2:i<2:=hi
  match i,hi2 with
  | 0,_=>match j with
   | 0=>exact hu
   | 1=>exact hu
   | 2=>exact hu
   | j+3=>simp[loadC]at hu
  | 1,_=>match j with
   | 0=>exact hu
   | 1=>exact hu
   | 2=>exact hu
   | j+3=>simp[loadC]at hu
 have z0:=hbx.cell
 have z1:=hbx.lt
 have hw2:=hw1
 simp only[sysV,exC]at hw2
 rw[hw2]
 clear hw1 hw2
 dsimp only[sysV,exC]at z0 hL ⊢
 exact bodyPost_ret (v:= .agg #[.int .i64 100,.int .i64 20,.int .i64 200,.int .i64 10,.int .i64 1000,.slice (some ⟨w.heap.size+1,0,none⟩) 2 2,.int .i64 4,.int .i64 3,.int .i64 2,.int .i64 50,.int .i64 80]) (by simp[results,Tryz.results56,go_sem,z0]) rfl ⟨_,rfl,hL,hE1⟩
end Go.Proofs.YtgloajbgphcloaaGreat.Cl
namespace Go.Proofs.YtgloajbgphcloaaGreat.Cl
set_option linter.unusedVariables false
set_option linter.unusedSimpArgs false
open Go.RowKit
theorem lowOf_one (r:List C.Day) (d:Nat):C.lowOf [r] d=(C.dat r d).battery:=by
 unfold C.lowOf C.imin;simp
theorem highOf_one (r:List C.Day) (d:Nat):C.highOf [r] d=(C.dat r d).battery:=by
 unfold C.highOf C.imax;simp
theorem lowOf_snoc {rs:List (List C.Day)} (h:rs≠[]) (r:List C.Day) (d:Nat):C.lowOf (rs++[r]) d=C.imin (C.lowOf rs d) (C.dat r d).battery:=by
 cases rs with
 | nil=>exact absurd rfl h
 | cons x xs=>unfold C.lowOf;simp[List.foldl_append]
theorem highOf_snoc {rs:List (List C.Day)} (h:rs≠[]) (r:List C.Day) (d:Nat):C.highOf (rs++[r]) d=C.imax (C.highOf rs d) (C.dat r d).battery:=by
 cases rs with
 | nil=>exact absurd rfl h
 | cons x xs=>unfold C.highOf;simp[List.foldl_append]
theorem lowOf_nil (d:Nat):C.lowOf [] d=0:=rfl
theorem highOf_nil (d:Nat):C.highOf [] d=0:=rfl
theorem many_snoc (rs:List (List C.Day)) (r:List C.Day) (d i:Nat):C.many (rs++[r]) d i=C.many rs d i+if C.has (C.dat r d).carried i then 1 else 0:=by
 unfold C.many;rw[List.countP_append,List.countP_singleton]
theorem many_le (rs:List (List C.Day)) (d i:Nat):C.many rs d i≤rs.length:=List.countP_le_length
theorem imin_min (a b:Int):min a b=C.imin a b:=by unfold C.imin;split<;>omega
theorem imax_max (a b:Int):max a b=C.imax a b:=by unfold C.imax;split<;>omega
def metF (n:Nat) (rs:List (List C.Day)) (d j:Nat):Int :=
 if j=0 then C.lowOf rs d else if j=1 then C.highOf rs d else if j<n+2 then(C.many rs d (j - 2):Int)else 0
theorem metF_nil (n d j:Nat):metF n [] d j=0:=by
 unfold metF;rw[lowOf_nil,highOf_nil]
 have:C.many [] d (j - 2)=0:=rfl
 rw[this]
 split
 ·rfl
 ·split
  ·rfl
  ·split<;>rfl
def metK (n:Nat) (rs:List (List C.Day)) (r:List C.Day) (k d j:Nat):Int:=if d<k then metF n (rs++[r]) d j else metF n rs d j
def metM (n:Nat) (rs:List (List C.Day)) (r:List C.Day) (k m d j:Nat):Int :=
 if d<k∨(d=k∧j<m+2)then metF n (rs++[r]) d j else metF n rs d j
def upd (f:Nat→Nat→Int) (a b:Nat) (v:Int):Nat→Nat→Int:=fun d j=>if d=a∧j=b then v else f d j
theorem metK_zero (n:Nat) (rs:List (List C.Day)) (r:List C.Day):metK n rs r 0=metF n rs:=by
 funext d j;unfold metK;simp
theorem metK_all {n N:Nat} (rs:List (List C.Day)) (r:List C.Day) {d j:Nat} (h:d<N):metK n rs r N d j=metF n (rs++[r]) d j:=by
 unfold metK;rw[if_pos h]
theorem metM_zero {n:Nat} {rs:List (List C.Day)} {r:List C.Day} {k:Nat} {lo hi:Int} (h0:metF n (rs++[r]) k 0=lo) (h1:metF n (rs++[r]) k 1=hi):upd (upd (metK n rs r k) k 0 lo) k 1 hi=metM n rs r k 0:=by
 funext d j
 unfold upd metM metK
 by_cases hd:d=k
 ·subst hd
  by_cases hj:j=1
  ·subst hj;simp[h1]
  ·by_cases hj0:j=0
   ·subst hj0;simp[h0]
   ·have e1:¬j<2:=by omega
    simp[hj,hj0,e1]
 ·simp[hd]
theorem metM_succ {n:Nat} {rs:List (List C.Day)} {r:List C.Day} {k m:Nat} {v:Int} (hv:metF n (rs++[r]) k (m+2)=v):upd (metM n rs r k m) k (m+2) v=metM n rs r k (m+1):=by
 funext d j
 unfold upd metM
 by_cases hd:d=k
 ·subst hd
  by_cases hj:j=m+2
  ·subst hj;simp[hv]
  ·by_cases hlt:j<m+2
   ·have:j<m+1+2:=by omega
    simp[hj,hlt,this]
   ·have:¬j<m+1+2:=by omega
    simp[hj,hlt,this]
 ·simp[hd]
theorem metM_all (n:Nat) (rs:List (List C.Day)) (r:List C.Day) (k:Nat):metM n rs r k n=metK n rs r (k+1):=by
 funext d j
 unfold metM metK
 by_cases hd:d<k
 ·rw[if_pos (.inl hd),if_pos (by omega)]
 ·by_cases he:d=k
  ·subst he
   rw[if_pos (show d<d+1 by omega)]
   by_cases hj:j<n+2
   ·rw[if_pos (.inr ⟨rfl,hj⟩)]
   ·rw[if_neg (by omega)]
    unfold metF
    have a:¬j=0:=by omega
    have b:¬j=1:=by omega
    simp[a,b,hj]
  ·rw[if_neg (by omega),if_neg (by omega)]
theorem metM_low {n:Nat} (rs:List (List C.Day)) (r:List C.Day) (k m:Nat):metM n rs r k m k (m+2)=metF n rs k (m+2):=by
 unfold metM;rw[if_neg (by omega)]
theorem metK_at (n:Nat) (rs:List (List C.Day)) (r:List C.Day) (k j:Nat):metK n rs r k k j=metF n rs k j:=by
 unfold metK;rw[if_neg (by omega)]
theorem metF_low (n:Nat) (rs:List (List C.Day)) (d:Nat):metF n rs d 0=C.lowOf rs d:=rfl
theorem metF_high (n:Nat) (rs:List (List C.Day)) (d:Nat):metF n rs d 1=C.highOf rs d:=rfl
theorem metF_many {n:Nat} (rs:List (List C.Day)) (d:Nat) {i:Nat} (h:i<n):metF n rs d (i+2)=(C.many rs d i:Int):=by
 unfold metF
 rw[if_neg (by omega),if_neg (by omega),if_pos (by omega)]
 rfl
def MetB (N:Nat) (w:World) (g:Nat) (f:Nat→Nat→Int):Prop:=∃cs,Blk w g cs 191∧∀d j,d<N→j<7→cs[d*7+j]? =some (.int .i64 (f d j))
theorem MetB.lt {N:Nat} {w:World} {g:Nat} {f:Nat→Nat→Int} (h:MetB N w g f):g<w.heap.size:=by obtain⟨cs,hB,_⟩:=h;exact hB.lt
theorem MetB.free {N:Nat} {w:World} {g:Nat} {f:Nat→Nat→Int} (h:MetB N w g f) (o:Nat):w.frozen? ⟨g,o,none⟩=false:=by obtain⟨cs,hB,_⟩:=h;exact hB.free o
theorem MetB.cell {N:Nat} {w:World} {g:Nat} {f:Nat→Nat→Int} (h:MetB N w g f) (d j:Nat) (hd:d<N) (hj:j<7):w.cell? ⟨g,d*7+j,none⟩=some (.int .i64 (f d j)):=by
 obtain⟨cs,hB,hc⟩:=h
 rw[hB.cell];exact hc d j hd hj
theorem MetB.ext {N:Nat} {w w':World} {g:Nat} {f:Nat→Nat→Int} (h:MetB N w g f) (he:Ext w w'):MetB N w' g f:=by
 obtain⟨cs,hB,hc⟩:=h;exact⟨cs,hB.ext he,hc⟩
theorem MetB.off {N:Nat} {w w':World} {g br:Nat} {f:Nat→Nat→Int} (h:MetB N w g f) (he:Off br w w') (hne:g≠br):MetB N w' g f:=by
 obtain⟨cs,hB,hc⟩:=h;exact⟨cs,hB.off he hne,hc⟩
theorem MetB.other {N:Nat} {w:World} {g:Nat} {f:Nat→Nat→Int} (h:MetB N w g f) {a:Addr} (hne:a.block≠g) (v:Value):MetB N (w.setCell a v) g f:=by
 obtain⟨cs,hB,hc⟩:=h;exact⟨cs,hB.other hne v,hc⟩
theorem MetB.kept {N:Nat} {A B:World} {row:Option Nat} {g:Nat} {f:Nat→Nat→Int} (h:MetB N A g f) (hg:A.grownBy B row) (hr:∀r,row=some r→∃o:Obj,A.heap[r]? =some o∧o.isCells=false):MetB N B g f:=by
 obtain⟨cs,hB,hc⟩:=h;exact⟨cs,hB.kept hg hr,hc⟩
theorem MetB.set {N:Nat} {w:World} {g:Nat} {f:Nat→Nat→Int} (h:MetB N w g f) (d j:Nat) (hd:d<N) (hj:j<7) (v:Int):MetB N (w.setCell ⟨g,d*7+j,none⟩ (.int .i64 v)) g (upd f d j v):=by
 obtain⟨cs,hB,hc⟩:=h
 refine⟨_,hB.set (d*7+j) _,fun a b ha hb=> ?_⟩
 have h0:=hc d j hd hj
 have hlt:d*7+j<cs.size:=(Array.getElem?_eq_some_iff.1 h0).1
 unfold upd
 by_cases he:a=d∧b=j
 ·obtain⟨rfl,rfl⟩:=he
  rw[if_pos ⟨rfl,rfl⟩,Array.getElem?_setIfInBounds,if_pos rfl,if_pos hlt]
 ·rw[if_neg he,Array.getElem?_setIfInBounds,if_neg (by omega)]
  exact hc a b ha hb
theorem MetB.congr {N:Nat} {w:World} {g:Nat} {f f':Nat→Nat→Int} (h:MetB N w g f) (he:∀d j,d<N→f d j=f' d j):MetB N w g f':=by
 obtain⟨cs,hB,hc⟩:=h
 exact⟨cs,hB,fun d j hd hj=>by rw[← he d j hd];exact hc d j hd hj⟩
theorem met_info:(Tryz.prog.info? 191).map (fun i=>(i.zero,i.size,i.bytes))=some (some (.agg #[.int .i64 0,.int .i64 0,.int .i64 0,.int .i64 0,.int .i64 0,.int .i64 0,.int .i64 0]),7,56):=by kernel_rfl
theorem make_mets (n:Nat) (hn:n≤1000000) (w:World):∃cs,(Instr.makeSlice 179 (.int .i64 (n:Int)) (.int .i64 (n:Int))).run Tryz.prog w= .ok (.slice (some ⟨w.heap.size,0,none⟩) n n) (w.alloc (.cells cs 191))∧MetB n (w.alloc (.cells cs 191)) w.heap.size (fun _ _=>0):=by
 obtain⟨i0,hi,hz0,hz1,hz2⟩:=info_parts met_info
 have h:=run_make (P:=Tryz.prog) w 179 191 i0 (.agg #[.int .i64 0,.int .i64 0,.int .i64 0,.int .i64 0,.int .i64 0,.int .i64 0,.int .i64 0]) Tryz.underlying179 hi hz0 .i64 .i64 n n (by omega) (Int.le_refl _) (by rw[hz2];omega) (by omega)
 rw[hz1]at h
 simp only[Int.toNat_natCast]at h
 refine⟨_,h,_,Blk.new _ _ _,fun d j hd hj=> ?_⟩
 have hlt:d*7+j<n*7:=by omega
 have hm:(d*7+j)%7=j:=by omega
 unfold madeCells
 simp only[Array.getElem?_map]
 rw[Array.getElem?_range,if_pos hlt]
 simp only[Option.map_some,Value.cells]
 have hs:(#[.int .i64 0,.int .i64 0,.int .i64 0,.int .i64 0,.int .i64 0,.int .i64 0,.int .i64 0]:Array Value).size=7:=rfl
 rw[hs,hm]
 match j,hj with
 | 0,_=>rfl
 | 1,_=>rfl
 | 2,_=>rfl
 | 3,_=>rfl
 | 4,_=>rfl
 | 5,_=>rfl
 | 6,_=>rfl
end Go.Proofs.YtgloajbgphcloaaGreat.Cl
namespace Go.Proofs.YtgloajbgphcloaaGreat.Cl
set_option linter.unusedVariables false
set_option linter.unusedSimpArgs false
open Go.RowKit Go.Shelf
open Blk renaming new' → Qd
open Ext renaming alloc → Qo, drew → Qp, refl → Qn, setCell → Qq, trans → Qa
attribute [local go_sem] Oper.semAt_some
def Seens (w:World) (v:Value) (xs:List C.Seen):Prop :=
 ∃a cap,v= .slice a xs.length cap∧∀i (h:i<xs.length),∃b off vw,a=some ⟨b,off,none⟩∧b<w.heap.size∧w.cell? ⟨b,off+i*3,none⟩=some (.int .i64 xs[i].low)∧w.cell? ⟨b,off+i*3+1,none⟩=some (.int .i64 xs[i].high)∧w.cell? ⟨b,off+i*3+2,none⟩=some vw∧Ints w vw xs[i].loads
theorem Seens.nil (w:World):Seens w (.slice none 0 0) []:=⟨none,0,rfl,fun i h=>by simp at h⟩
theorem letters_sky (s:ByteArray) (d:Int) (w:World) (hs:s.size≤1000000) :
  Calls Tryz.prog 77 #[.string s,.int .i64 d,.string ⟨#[115,99,63]⟩] w fun e w'=>e= .returned (.bool (s.data.toList.all C.skyLetterB&&decide ((s.size:Int)=d)))∧Ext w w':=by
 refine(letters_any s ⟨#[115,99,63]⟩ d w hs (by decide) (by decide)).mono ?_
 rintro e w' ⟨rfl,h⟩
 refine⟨?_,h⟩
 have e1:(fun x=>(⟨#[115,99,63]⟩:ByteArray).data.toList.contains x)=C.skyLetterB:=by
  funext x;simp[C.skyLetterB,List.contains_eq_any_beq,Bool.or_assoc];rfl
 rw[e1]
theorem seen_info:(Tryz.prog.info? 194).map (fun i=>(i.zero,i.size,i.bytes))=some (some (.agg #[.int .i64 0,.int .i64 0,.slice none 0 0]),3,40):=by kernel_rfl
theorem word_info:(Tryz.prog.info? 195).map (fun i=>(i.zero,i.size,i.bytes))=some (some (.int .i64 0),1,8):=by kernel_rfl
def knownB (c:C.Sys) (p b:Int) (sky:C.Txt):Bool:=givenB c p b 0&&C.skyB c sky
set_option maxRecDepth 100000 in
set_option maxHeartbeats 8000000 in
theorem known_bad (c:C.Sys) (p b:Int) (sk:ByteArray) (vl:Value) (w:World) (hL:Loads w vl c.loads) (hn:c.loads.length≤1000000) (hs:sk.size≤1000000) (hbad:knownB c p b sk.data.toList=false) :
  Calls Tryz.prog 22 #[.agg (sysV c vl),.int .i64 p,.int .i64 b,.string sk] w fun e w'=>e= .returned (.tuple #[.slice none 0 0,.int .i64 2])∧Ext w w':=by
 have hL':=hL
 obtain⟨a,cap,rfl,_⟩:=hL'
 have hgi:=fun w' (hx:Ext w w')=>given_any c p b 0 _ w' (hL.ext hx) hn
 have hle:=fun w'=>letters_sky sk c.days w' hs
 unfold knownB C.skyB givenB at hbad
 have e0:sk.data.toList.length=sk.size:=by simp
 rw[e0]at hbad
 obtain⟨B1,hB1⟩:∃B1,(C.sysB c&&C.partsB p b&&C.offB c 0)=B1:=⟨_,rfl⟩
 obtain⟨B2,hB2⟩:∃B2,(sk.data.toList.all C.skyLetterB&&decide ((sk.size:Int)=c.days))=B2:=⟨_,rfl⟩
 simp only[hB1]at hgi
 simp only[hB2]at hle
 rw[hB1,hB2]at hbad
 have HGI:=Lib.hid hgi
 have HLE:=Lib.hid hle
 clear hgi hle hB1 hB2 e0
 cases B1 with
 | false =>
  clear hbad
  go_enter Tryz.func22,Tryz.ntmps22
  go_wp2_with (first|(go_at_call 76;refine(HGI.out _ (by(with_reducible(repeat(first|exact Qn _|assumption|apply Qo|apply Qp|exact ext_plus _ _|(apply Qq;rotate_left;(simp<;>omega))|(apply Qa;rotate_left;exact ext_plus _ _)|(apply Qa;rotate_left;assumption)))))).mono ?_;rintro e w2 ⟨rfl,hb⟩;have hE2:Ext w w2:=(by(with_reducible(repeat(first|exact Qn _|assumption|apply Qo|apply Qp|exact ext_plus _ _|(apply Qq;rotate_left;(simp<;>omega))|(apply Qa;rotate_left;exact ext_plus _ _)|(apply Qa;rotate_left;assumption)))));have hsb:=Blk.ext (((Blk.new w (sysV c (.slice a c.loads.length cap)) 55).alloc (.cells #[.string sk] 9)).alloc (.cells #[.int .i64 p,.int .i64 b] 176)) hb;have s0:=hsb.cell;have s1:=hsb.lt;have hkb:=Blk.ext ((Qd (w:=(w.alloc (.cells (sysV c (.slice a c.loads.length cap)) 55))) (b:=w.heap.size+1) (by simp) #[.string sk] 9).alloc (.cells #[.int .i64 p,.int .i64 b] 176)) hb;have t0:=hkb.cell;have t1:=hkb.lt;have htb:=Blk.ext (Qd (w:=((w.alloc (.cells (sysV c (.slice a c.loads.length cap)) 55)).alloc (.cells #[.string sk] 9))) (b:=w.heap.size+1+1) (by simp) #[.int .i64 p,.int .i64 b] 176) hb))
  exact bodyPost_ret (v:= .tuple #[.slice none 0 0,.int .i64 2]) (by simp[results,Tryz.results22,go_sem]) rfl ⟨rfl,hE2⟩
 | true =>
  cases B2 with
  | true=>cases hbad
  | false =>
   clear hbad
   go_enter Tryz.func22,Tryz.ntmps22
   go_wp2_with (first|(go_at_call 76;refine(HGI.out _ (by(with_reducible(repeat(first|exact Qn _|assumption|apply Qo|apply Qp|exact ext_plus _ _|(apply Qq;rotate_left;(simp<;>omega))|(apply Qa;rotate_left;exact ext_plus _ _)|(apply Qa;rotate_left;assumption)))))).mono ?_;rintro e w2 ⟨rfl,hb⟩;have hE2:Ext w w2:=(by(with_reducible(repeat(first|exact Qn _|assumption|apply Qo|apply Qp|exact ext_plus _ _|(apply Qq;rotate_left;(simp<;>omega))|(apply Qa;rotate_left;exact ext_plus _ _)|(apply Qa;rotate_left;assumption)))));have hsb:=Blk.ext (((Blk.new w (sysV c (.slice a c.loads.length cap)) 55).alloc (.cells #[.string sk] 9)).alloc (.cells #[.int .i64 p,.int .i64 b] 176)) hb;have s0:=hsb.cell;have s1:=hsb.lt;have hkb:=Blk.ext ((Qd (w:=(w.alloc (.cells (sysV c (.slice a c.loads.length cap)) 55))) (b:=w.heap.size+1) (by simp) #[.string sk] 9).alloc (.cells #[.int .i64 p,.int .i64 b] 176)) hb;have t0:=hkb.cell;have t1:=hkb.lt;have htb:=Blk.ext (Qd (w:=((w.alloc (.cells (sysV c (.slice a c.loads.length cap)) 55)).alloc (.cells #[.string sk] 9))) (b:=w.heap.size+1+1) (by simp) #[.int .i64 p,.int .i64 b] 176) hb)|(go_at_call 77;refine(HLE.out _).mono ?_;rintro e w3 ⟨rfl,hb3⟩;have hE3:Ext w w3:=hE2.trans hb3;have hsb3:=hsb.ext hb3;have hkb3:=hkb.ext hb3;have htb3:=htb.ext hb3;clear s0 s1 t0 t1;have s0:=hsb3.cell;have s1:=hsb3.lt;have t0:=hkb3.cell;have t1:=hkb3.lt))
   exact bodyPost_ret (v:= .tuple #[.slice none 0 0,.int .i64 2]) (by simp[results,Tryz.results22,go_sem]) rfl ⟨rfl,hE3⟩
end Go.Proofs.YtgloajbgphcloaaGreat.Cl
namespace Go.Proofs.YtgloajbgphcloaaGreat.Cl
set_option linter.unusedVariables false
set_option linter.unusedSimpArgs false
open Go.RowKit Go.Shelf
open Act renaming put → Qg
open Blk renaming new' → Qd
open Ext renaming refl → Qn, trans → Qa
open KeepsOthers renaming setCell → Qf
open Lib renaming hid → Qb
open List renaming drop_succ_cons → Qv, drop_zero → Qw, getElem_cons_succ → Qj, getElem_cons_zero → Qi, getElem_toArray → Qh, nil_append → Qs, setIfInBounds_toArray → Qk, set_cons_succ → Qm, set_cons_zero → Ql, take_succ_cons → Qt, take_zero → Qu
open Nat renaming le_refl → Qe, le_trans → Qr, zero_le → Qx
attribute [local go_sem] Oper.semAt_some
def rsOf (c:C.Sys) (p b:Int) (sky:C.Txt) (pre:List (Wt c)):List (List C.Day):=((pre.map Wt.txt).filter fun t=>C.agrees t sky).map (C.run c p b 0)
theorem rsOf_snoc_yes {c:C.Sys} {p b:Int} {sky:C.Txt} {pre:List (Wt c)} {x:Wt c} (h:C.agrees x.txt sky=true):rsOf c p b sky (pre++[x])=rsOf c p b sky pre++[C.run c p b 0 x.txt]:=by
 unfold rsOf;rw[List.map_append,List.filter_append,List.map_append];simp[h]
theorem rsOf_snoc_no {c:C.Sys} {p b:Int} {sky:C.Txt} {pre:List (Wt c)} {x:Wt c} (h:C.agrees x.txt sky=false):rsOf c p b sky (pre++[x])=rsOf c p b sky pre:=by
 unfold rsOf;rw[List.map_append,List.filter_append,List.map_append];simp[h]
theorem rsOf_len (c:C.Sys) (p b:Int) (sky:C.Txt) (pre:List (Wt c)):(rsOf c p b sky pre).length≤pre.length:=by
 unfold rsOf;rw[List.length_map]
 have:=List.length_filter_le (fun t=>C.agrees t sky) (pre.map Wt.txt)
 rwa[List.length_map]at this
theorem rsOf_all {c:C.Sys} {p b:Int} {sky:C.Txt} {pre:List (Wt c)} (h:pre.map Wt.txt=C.weathers c):rsOf c p b sky pre=C.runs c p b sky:=by
 unfold rsOf C.runs C.agreeing;rw[h]
def AxW {c:C.Sys} (TM:Wt c→Array Value) (x:Wt c) (a':Act) (_:World):Prop:=a'= { tmps:=TM x,defers:=[] }
theorem AxW.own {c:C.Sys} (TM:Wt c→Array Value) (B:Nat):∀x a',OwnFrom B (fun(_:Unit) W=>AxW TM x a' W):=fun _ _ _ _ _ _ h _ _=>h
structure KBox (n0 gm bx:Nat) (c:C.Sys) (vl:Value) (p b:Int) (sk:ByteArray) (N:Nat) (m:Int) (Y:World):Prop where
 sys:Blk Y n0 (sysV c vl) 55
 sky:Blk Y (n0+1) #[.string sk] 9
 sto:Blk Y (n0+1+1) #[.int .i64 p,.int .i64 b] 176
 row:Blk Y (gm+1) #[.slice (some ⟨gm,0,none⟩) N N] 179
 mny:Blk Y (gm+1+1) #[.int .i64 m] 3
 box:Blk Y bx (sysV c vl) 55
theorem KBox.ext {n0 gm bx:Nat} {c:C.Sys} {vl:Value} {p b:Int} {sk:ByteArray} {N:Nat} {m:Int} {Y Z:World} (h:KBox n0 gm bx c vl p b sk N m Y) (he:Ext Y Z):KBox n0 gm bx c vl p b sk N m Z :=
 ⟨h.sys.ext he,h.sky.ext he,h.sto.ext he,h.row.ext he,h.mny.ext he,h.box.ext he⟩
theorem KBox.kept {n0 gm bx:Nat} {c:C.Sys} {vl:Value} {p b:Int} {sk:ByteArray} {N:Nat} {m:Int} {A B:World} {row:Option Nat} (h:KBox n0 gm bx c vl p b sk N m A) (hg:A.grownBy B row) (hr:∀r,row=some r→∃o:Obj,A.heap[r]? =some o∧o.isCells=false):KBox n0 gm bx c vl p b sk N m B :=
 ⟨h.sys.kept hg hr,h.sky.kept hg hr,h.sto.kept hg hr,h.row.kept hg hr,h.mny.kept hg hr,h.box.kept hg hr⟩
theorem KBox.off {n0 gm bx br:Nat} {c:C.Sys} {vl:Value} {p b:Int} {sk:ByteArray} {N:Nat} {m:Int} {Y Z:World} (h:KBox n0 gm bx c vl p b sk N m Y) (ho:Off br Y Z) (h1:n0+2<br) (h2:gm+2<br) (h3:bx<br):KBox n0 gm bx c vl p b sk N m Z :=
 ⟨h.sys.off ho (by omega),h.sky.off ho (by omega),h.sto.off ho (by omega),h.row.off ho (by omega),h.mny.off ho (by omega),h.box.off ho (by omega)⟩
theorem KBox.other {n0 gm bx:Nat} {c:C.Sys} {vl:Value} {p b:Int} {sk:ByteArray} {N:Nat} {m:Int} {Y:World} (h:KBox n0 gm bx c vl p b sk N m Y) {ad:Addr} (h1:n0+2<ad.block) (h2:gm+2<ad.block) (h3:bx<ad.block) (v:Value):KBox n0 gm bx c vl p b sk N m (Y.setCell ad v) :=
 ⟨h.sys.other (by omega) v,h.sky.other (by omega) v,h.sto.other (by omega) v,h.row.other (by omega) v,h.mny.other (by omega) v,h.box.other (by omega) v⟩
theorem KBox.met {n0 gm bx:Nat} {c:C.Sys} {vl:Value} {p b:Int} {sk:ByteArray} {N:Nat} {m:Int} {Y:World} (h:KBox n0 gm bx c vl p b sk N m Y) (h1:n0+2<gm) (h3:gm<bx) (o:Nat) (v:Value):KBox n0 gm bx c vl p b sk N m (Y.setCell ⟨gm,o,none⟩ v) :=
 ⟨h.sys.other (by simp;omega) v,h.sky.other (by simp;omega) v,h.sto.other (by simp;omega) v,h.row.other (by simp) v,h.mny.other (by simp<;>omega) v,h.box.other (by simp;omega) v⟩
theorem ownFrom_others {β:Type} {B:Nat} {Y:World} (hB:Y.heap.size≤B):OwnFrom B (fun(_:β) W=>KeepsOthers Y W):=fun _ X Z row h hg hr =>
 ⟨Qr h.size hg.size,fun k o hk ho=>by
  have hX:=h.same k o hk ho
  refine(hg.block k (Array.getElem?_eq_some_iff.1 hX).1 (fun e=> ?_)).trans hX
  have h1:=(hr k e.symm).1
  have h2:=(Array.getElem?_eq_some_iff.1 hk).1
  omega⟩
theorem others_off {br:Nat} {Y A B:World} (h:KeepsOthers Y A) (ho:Off br A B) (hb:Y.heap.size≤br):KeepsOthers Y B :=
 ⟨Qr h.size ho.size,fun k o hk hc=>by
  have hX:=h.same k o hk hc
  have h2:=(Array.getElem?_eq_some_iff.1 hk).1
  exact(ho.block k (Array.getElem?_eq_some_iff.1 hX).1 (by omega)).trans hX⟩
theorem wp_region_lateN {P:Program} {ops:Array Oper} {Q:Exit→Act→World→Prop} {id:Nat} {a:Act} {w:World} (t:Nat) (S:Bool→World→Prop) (hm:P.follows .mixedOrders=true)
  (h:Shutb ops (Array.replicate ops.size false)→wpAnyL P ops (Exit.then (fun a w=>Q .normal a w) (fun _ _ _=>False)) t S ops.size (Array.replicate ops.size false) a w.drew):(Code.region id ops true).wp P Q a w:=by
 refine Code.wp_mono ?_ (wp_region_late (Q:=Exit.then (fun a w=>Q .normal a w) (fun _ _ _=>False)) t S hm h)
 intro e a w hq
 cases e<;>first|exact hq|exact hq.elim
theorem below_of_ext {w A B:World} (hA:Ext w A) (hB:Ext w B) (hs:A.heap.size≤B.heap.size):Below w.heap.size A B :=
 ⟨hB.os.trans hA.os.symm,hB.tape.trans hA.tape.symm,hB.output.trans hA.output.symm,hs,fun k hk=>(hB.block k hk).trans (hA.block k hk).symm⟩
theorem weathers_many (c:C.Sys) {N:Nat} (h:c.days.toNat=N) (hN:N≤10):(C.weathers c).length≤1024:=by
 unfold C.weathers C.texts
 refine Qr (List.length_filter_le _ _) ?_
 rw[List.length_map,List.length_range,h]
 exact Nat.pow_le_pow_right (n:=2) (by decide) hN
def seenC (s:C.Seen×Value):List Value:=[.int .i64 s.1.low,.int .i64 s.1.high,s.2]
theorem own_apart {w w':World} {b1 b2:Nat} {e1 e2:TypeId} {s1 s2:Nat} {v1 v2:Value} {n1 n2:Nat} {x1 x2:List Value} (h1:w.ownsRow b1 e1 s1 v1 n1 x1) (h2:w.ownsRow b2 e2 s2 v2 n2 x2) (he:e1≠e2) (hg:w.grownBy w' v2.ownBlock):w'.ownsRow b1 e1 s1 v1 n1 x1 :=
 own_move h1 fun g cur _ hg0=>hg.block g (Array.getElem?_eq_some_iff.1 hg0).1 (fun e=>by
  rcases h2.2 with⟨rfl,_⟩|⟨g',cap',cur',rfl,_,hg',_⟩
  ·cases e
  ·have e3:g'=g:=by simpa[Value.ownBlock]using e.symm
   subst e3
   rw[hg0]at hg'
   cases hg'
   exact he rfl)
theorem seens_of {w:World} {base:Nat} {v:Value} {ss:List (C.Seen×Value)} (h:w.ownsRow base 194 3 v ss.length (ss.flatMap seenC)) (hw:∀s∈ss,w.ownsRow base 195 1 s.2 s.1.loads.length (s.1.loads.map (Value.int .i64))):Seens w v (ss.map Prod.fst):=by
 obtain⟨a,cap,rfl,hx⟩:=sls_of_own seenC 3 (fun _=>rfl) h
 refine⟨a,cap,by rw[List.length_map],fun i hi=> ?_⟩
 rw[List.length_map]at hi
 obtain⟨b,off,rfl,hb,hc⟩:=hx i hi
 have h3:=hw ss[i] (List.getElem_mem hi)
 refine⟨b,off,ss[i].2,rfl,hb,?_,?_,?_,?_⟩
 ·rw[List.getElem_map];exact hc 0 _ rfl
 ·rw[List.getElem_map];exact hc 1 _ rfl
 ·exact hc 2 _ rfl
 ·rw[List.getElem_map]
  obtain⟨a',cap',hv⟩:=own_slice h3
  rcases h3.2 with⟨e1,h0⟩|⟨g,cap2,cur,hv2,hb2,hg,_⟩
  ·have:ss[i].1.loads=[]:=by cases h9:ss[i].1.loads with|nil=>rfl|cons _ _=>rw[h9]at h0;simp at h0
   rw[this,e1]
   exact Ints.nil w
  ·rw[hv2]
   refine⟨_,_,rfl,fun j hj=>⟨g,0,rfl,(Array.getElem?_eq_some_iff.1 hg).1,?_⟩⟩
   rw[hv2]at h3
   rw[Nat.zero_add]
   exact own_cell h3 j _ (by simp[hj])
theorem step_append_word (w:World) {ops:Array Oper} {o:Oper} {a:Act} {K:Act→World→Prop} {Q:Exit→Act→World→Prop} {E:Prop} (hgd:o.guard=none) (s x:Operand)
  (ho:o.op= .call { callee:= .builtin .append,args:=#[s,x],argTypes:=#[192,192] }) (base:Nat) (v:Value) (n:Nat) (L:List Value) (u:Int) (g:Nat) (hs:a.eval s=v) (hx:a.eval x= .slice (some ⟨g,0,none⟩) 1 1)
  (hv:w.ownsRow base 195 1 v n L) (hg:Blk w g #[.int .i64 u] 195) (hn:n≤1000000) (hb:base≤w.heap.size)
  (h:∀v' w',w'.ownsRow base 195 1 v' (n+1) (L++[.int .i64 u])→w.grownBy w' v.ownBlock→K (a.put o.dst v') w') :
  if Region.wanted o (yielded ops a.tmps)=true then Oper.wp Tryz.prog o a w K Q else E:=by
 have hw:Region.wanted o (yielded ops a.tmps)=true:=by simp[Region.wanted,hgd]
 rw[if_pos hw]
 obtain⟨i9,hi9,hy0,hy1,hy2⟩:=info_parts word_info
 have hnews:∀j u',[.int .i64 u][j]? =some u'→w.cell? ((⟨g,0,none⟩:Addr).add j)=some u':=by
  intro j u' hu'
  have hadd:(⟨g,0,none⟩:Addr).add j=⟨g,j,none⟩:=by unfold Addr.add;split<;>simp_all
  rw[hadd,hg.cell]
  simpa using hu'
 obtain⟨v',w',hr,h2,h3,_⟩:=run_append_own (P:=Tryz.prog) w base 192 o.type 195 i9 (.int .i64 0) 1 8 Tryz.underlying192 hi9 hy0 hy1 hy2 rfl (by decide) v n L hv ⟨g,0,none⟩ 1 1 [.int .i64 u] rfl hnews (by intro u hu;simp at hu;subst hu;rfl) (by unfold maxLen;omega) (by omega) hb
 unfold Oper.wp execOp
 simp only[ho,resolve,invoke,builtin,Sem.run_bind,Sem.run_pure,Result.andThen_ok,List.map_toArray,List.map_cons,List.map_nil,hs,hx,hr]
 exact h v' w' h2 h3
theorem cell_three (w:World) (x y z:Value) (e:TypeId) {b:Nat} (hb:b=w.heap.size):∀j u,([x,y,z]:List Value)[j]? =some u→(w.alloc (.cells #[x,y,z] e)).cell? ((⟨b,0,none⟩:Addr).add j)=some u:=by
 intro j u hj
 subst hb
 have hadd:(⟨w.heap.size,0,none⟩:Addr).add j=⟨w.heap.size,j,none⟩:=by unfold Addr.add;split<;>simp_all
 rw[hadd,(Blk.new w #[x,y,z] e).cell]
 simpa using hj
theorem met_at (q:Nat→Int) (m:Nat) (h:m<5):(#[.int .i64 (q 0),.int .i64 (q 1),.int .i64 (q 2),.int .i64 (q 3),.int .i64 (q 4),.int .i64 (q 5),.int .i64 (q 6)]:Array Value)[2+m]? =some (.int .i64 (q (m+2))):=by
 match m,h with
 | 0,_=>rfl
 | 1,_=>rfl
 | 2,_=>rfl
 | 3,_=>rfl
 | 4,_=>rfl
def wordsTo (R:List (List C.Day)) (k m:Nat):List Int:=(List.range m).map fun i=>C.word (C.many R k i) R.length
theorem wordsTo_succ (R:List (List C.Day)) (k m:Nat):wordsTo R k (m+1)=wordsTo R k m++[C.word (C.many R k m) R.length]:=by
 unfold wordsTo;rw[List.range_succ,List.map_append];rfl
theorem wordsTo_len (R:List (List C.Day)) (k m:Nat):(wordsTo R k m).length=m:=by simp[wordsTo]
theorem seenAt_eq (c:C.Sys) (R:List (List C.Day)) (k:Nat):C.seenAt c R k=⟨C.lowOf R k,C.highOf R k,wordsTo R k c.loads.length⟩:=rfl
set_option maxRecDepth 100000 in
set_option maxHeartbeats 16000000 in
theorem known_good (c:C.Sys) (p b:Int) (sk:ByteArray) (vl:Value) (w:World) (hL:Loads w vl c.loads) (hn:c.loads.length≤1000000) (hs:sk.size≤1000000) (hok:knownB c p b sk.data.toList=true) :
  Calls Tryz.prog 22 #[.agg (sysV c vl),.int .i64 p,.int .i64 b,.string sk] w fun e w'=>∃v,e= .returned (.tuple #[v,.int .i64 (if C.runs c p b sk.data.toList=[]then 5 else 0)])∧Seens w' v (if C.runs c p b sk.data.toList=[]then []else C.seen c (C.runs c p b sk.data.toList))∧Ext w w':=by
 have hL':=hL
 obtain⟨a,cap,rfl,_⟩:=hL'
 have hgi:=fun w' (hx:Ext w w')=>given_any c p b 0 _ w' (hL.ext hx) hn
 have hle:=fun w'=>letters_sky sk c.days w' hs
 unfold knownB C.skyB givenB at hok
 have e0:sk.data.toList.length=sk.size:=by simp
 rw[e0,Bool.and_eq_true]at hok
 obtain⟨hok1,hok2⟩:=hok
 simp only[hok1]at hgi
 simp only[hok2]at hle
 simp only[Bool.and_eq_true,decide_eq_true_eq]at hok1 hok2
 have O:=C.ok_of hok1.1.1
 obtain⟨hp0,hp1,h2,h3⟩:=C.parts_of hok1.1.2
 obtain⟨ho0,ho1⟩:=C.off_of hok1.2
 have hlen:sk.data.toList.length=c.days.toNat:=by rw[e0];have:=hok2.2;omega
 have hd1:=O.d1
 have hd10:=O.d10
 have hn5:=O.n5
 obtain⟨N,hN⟩:∃N:Nat,c.days=N:=⟨c.days.toNat,by omega⟩
 have hN10:N≤10:=by omega
 have hN1:1≤N:=by omega
 have hNt:c.days.toNat=N:=by omega
 rw[hNt]at hlen
 have hwe:=fun w'=>weathers_any c (.slice a c.loads.length cap) ⟨_,_,_,rfl⟩ w'
 have hru:=fun(x:Wt c) w'=>run_any c (.slice a c.loads.length cap) ⟨_,_,_,rfl⟩ p b 0 x.1 w' O h2 h3
 have hag:=fun(x:Wt c) w'=>agreesQ_any x.1 sk w' (by
  have h1:=weathers_len x.2
  have h2:x.1.data.toList.length=x.1.size:=by simp
  rw[e0]at hlen
  omega) hs
 have hseq:=fun(x:Wt c) br w' (hbr:w.heap.size≤br)=>days_own c (.slice a c.loads.length cap) p b 0 x.1 br w w' O hp0 hp1 h2 h3 ho0 ho1 (weathers_len x.2) hbr hL
 have hcb:=fun(x:Wt c) k (hk:k≤20)=>C.carried_bd O hp0 hp1 h2 h3 0 x.1.data.toList k hk
 have HGI:=Qb hgi
 have HLE:=Qb hle
 have HWE:=Qb hwe
 have HRU:=Qb hru
 have HAG:=Qb hag
 have HSEQ:=Qb hseq
 have HCB:=Qb hcb
 have HLEN:=Qb hlen
 have HO:=Qb O
 have HN:=Qb hN
 have HNT:=Qb hNt
 obtain⟨R,hR⟩:∃R,C.runs c p b sk.data.toList=R:=⟨_,rfl⟩
 rw[hR]
 have HR:=Qb hR
 clear hgi hle e0 hok1 hok2 hwe hru hag hseq hcb hlen O hN ho1 hR hNt
 obtain⟨is0,his,hsz0,hsz1,hsz2⟩:=info_parts seen_info
 obtain⟨iw0,hiw,hwz0,hwz1,hwz2⟩:=info_parts word_info
 refine(callsIn_wide (n:=7)).1 ?_
 refine callsIn_of_wp_marks Tryz.func22 rfl trivial ?_ rfl
 simp only[Tryz.ntmps22,List.size_toArray,List.length_cons,List.length_nil,Nat.reduceAdd,Nat.reduceSub,Array.replicate_succ,Array.replicate_zero,List.push_toArray,List.append_toArray,Qs,List.cons_append]
 refine wpIn_wide.2 ?_
 go_upto_region 4 with(first|(go_at_call 76;refine(HGI.out _ (by(with_reducible(repeat(first|exact Qn _|assumption|apply Ext.alloc|apply Ext.drew|exact ext_plus _ _|(apply Ext.setCell;rotate_left;(simp<;>omega))|(apply Qa;rotate_left;exact ext_plus _ _)|(apply Qa;rotate_left;assumption)))))).mono ?_;rintro e w2 ⟨rfl,hb⟩;have hE2:Ext w w2:=(by(with_reducible(repeat(first|exact Qn _|assumption|apply Ext.alloc|apply Ext.drew|exact ext_plus _ _|(apply Ext.setCell;rotate_left;(simp<;>omega))|(apply Qa;rotate_left;exact ext_plus _ _)|(apply Qa;rotate_left;assumption)))));have hsb:=Blk.ext (((Blk.new w (sysV c (.slice a c.loads.length cap)) 55).alloc (.cells #[.string sk] 9)).alloc (.cells #[.int .i64 p,.int .i64 b] 176)) hb;have s0:=hsb.cell;have s1:=hsb.lt;have hkb:=Blk.ext ((Qd (w:=(w.alloc (.cells (sysV c (.slice a c.loads.length cap)) 55))) (b:=w.heap.size+1) (by simp) #[.string sk] 9).alloc (.cells #[.int .i64 p,.int .i64 b] 176)) hb;have t0:=hkb.cell;have t1:=hkb.lt;have htb:=Blk.ext (Qd (w:=((w.alloc (.cells (sysV c (.slice a c.loads.length cap)) 55)).alloc (.cells #[.string sk] 9))) (b:=w.heap.size+1+1) (by simp) #[.int .i64 p,.int .i64 b] 176) hb)|(go_at_call 77;refine(HLE.out _).mono ?_;rintro e w3 ⟨rfl,hb3⟩;have hE3:Ext w w3:=hE2.trans hb3;have hsb3:=hsb.ext hb3;have hkb3:=hkb.ext hb3;have htb3:=htb.ext hb3;clear s0 s1 t0 t1;have s0:=hsb3.cell;have s1:=hsb3.lt;have t0:=hkb3.cell;have t1:=hkb3.lt))
 obtain⟨cs0,hmk,hmet⟩:=make_mets N (by omega) w3
 unfold sysV at s0
 rw[HN.out]at s0
 have hz3:=hE3.size
 go_upto_region 6 with(fail)
 obtain⟨w6,hw6⟩:∃w6,((w3.alloc (.cells cs0 191)).alloc (.cells #[.slice (some ⟨w3.heap.size,0,none⟩) N N] 179)).alloc (.cells #[.int .i64 0] 3)=w6:=⟨_,rfl⟩
 have hm6:MetB N w6 w3.heap.size (fun _ _=>0):=by rw[← hw6];exact(hmet.ext ((Qn _).alloc _)).ext ((Qn _).alloc _)
 have hd6:Blk w6 (w3.heap.size+1) #[.slice (some ⟨w3.heap.size,0,none⟩) N N] 179:=by rw[← hw6];exact(Qd (by simp) _ _).alloc _
 have hy6:Blk w6 (w3.heap.size+1+1) #[.int .i64 0] 3:=by rw[← hw6];exact Qd (by simp) _ _
 have hE36:Ext w3 w6:=by rw[← hw6];exact(((Qn w3).alloc _).alloc _).alloc _
 have hz6:w6.heap.size=w3.heap.size+3:=by rw[← hw6];simp
 rw[hw6]
 have hsb6:=hsb3.ext hE36
 have hkb6:=hkb3.ext hE36
 have htb6:=htb3.ext hE36
 have hE6:=hE3.trans hE36
 obtain⟨gm,hgm⟩:∃gm,w3.heap.size=gm:=⟨_,rfl⟩
 obtain⟨n0,hn0⟩:∃n0,w.heap.size=n0:=⟨_,rfl⟩
 have hs1:=s1
 have ht1:=htb3.lt
 rw[hgm]at hm6 hd6 hy6 hz6 hz3 ⊢
 rw[hgm]at hs1 ht1
 rw[hn0]at hsb6 hkb6 htb6 hz3 hs1 ht1 ⊢
 have HZ6:=Qb hz6
 clear hw6 hmk hmet s0 s1 t0 t1 hsb hsb3 hkb hkb3 htb htb3 hb hb3 hE2 hE3 hE36 hgm hz6 HGI HLE
 have s0:=hsb6.cell
 have s1:=hsb6.lt
 unfold sysV at s0
 have HWE2:=HWE.out
 unfold sysV at HWE2
 rw[HN.out]at s0
 simp only[HN.out]at HWE2
 go_wp2_with (first|(go_at_call 78;refine(HWE2 _).mono ?_;rintro e w7 ⟨rfl,hbx,hb⟩))
 have hE7:=hE6.trans hb
 have hm7:=hm6.ext hb
 have hK7:KBox n0 gm w6.heap.size c (.slice a c.loads.length cap) p b sk N 0 w7:=⟨hsb6.ext hb,hkb6.ext hb,htb6.ext hb,hd6.ext hb,hy6.ext hb,by unfold sysV;rw[HN.out];exact hbx⟩
 obtain⟨bx,hbxx⟩:∃bx,w6.heap.size=bx:=⟨_,rfl⟩
 have hz6:=HZ6.out
 rw[hbxx]at hK7 hbx hz6 ⊢
 have hz6a:bx≤gm+3:=by omega
 have hz6b:gm+3≤bx:=by omega
 clear hz6
 have hbx':Blk w7 bx (sysV c (.slice a c.loads.length cap)) 55:=hK7.box
 have hbl:=hbx.lt
 clear hsb6 hkb6 htb6 hd6 hy6 hm6 hb hbx s0 s1 HWE2 HWE HZ6 hbxx hE6
 have hKp:=Keep1.rec_ (n:=w.heap.size) (b:=bx) (w:=w7) hE7.size hbl
 refine(wpIn_wide (n:=7)).1 ?_
 refine' wpIn_rangeFunc_ownH rfl (by omega) (gf:=151) (lb:=_) rfl trivial (enters_of Tryz.func151 (by kernel_rfl) rfl)
  (weathers_stops c (.slice a c.loads.length cap) ⟨_,_,_,rfl⟩ HO.out w w7 hE7 bx 6 (by omega) hbx') Keep1.trans hKp (Below.refl _ _) (fun _=>rfl)
  (fun pre Y=>(KBox n0 gm bx c (.slice a c.loads.length cap) p b sk N (rsOf c p b sk.data.toList pre).length Y∧MetB N Y gm (metF c.loads.length (rsOf c p b sk.data.toList pre)))∧Ext w Y)
  (fun _ _ _=>False)
  ?own (fun _ _ _ _ _ h _ _=>h) ⟨⟨hK7,hm7.congr (fun d j _=>(metF_nil _ d j).symm)⟩,hE7⟩ (AxW _) (AxW.own _ _) ?assign ?body ?done ?stop
 case own =>
  refine OwnFrom.and (fun pre A B row h hg hr=> ?_) (ownFrom_below (Qe _) hE7.size)
  have hr':=fun r e=>(hr r e).2
  exact⟨h.1.kept hg hr',h.2.kept hg hr'⟩
 case assign =>
  rintro l pre x Y K hI hK
  simp only[encW]
  gi_wp2
  refine hK _ _ (KeepsFrom.refl _ _) ⟨Below.refl _ _,rfl⟩ hI ?_
  refine(Act.mk.injEq _ _ _ _).mpr ⟨?_,rfl⟩
  exact rfl
 case body =>
  rintro l pre x a' Y hl hrec ⟨⟨hKB,hMB⟩,hEY⟩ rfl hlen'
  have k0:=hKB.sky.cell
  have k1:=hKB.sky.lt
  have s0:=hKB.sys.cell
  have s1:=hKB.sys.lt
  have t0:=hKB.sto.cell
  have t1:=hKB.sto.lt
  have hbxl:=hKB.box.lt
  obtain⟨B,hB⟩:∃B,C.agrees x.txt sk.data.toList=B:=⟨_,rfl⟩
  have hag:=HAG.out x
  rw[show C.agrees x.1.data.toList sk.data.toList=B from hB]at hag
  have HAG2:=Qb hag
  have HB:=Qb hB
  obtain⟨rs,hrs⟩:∃rs,rsOf c p b sk.data.toList pre=rs:=⟨_,rfl⟩
  have HRS:=Qb hrs
  rw[hrs]at hKB hMB
  have hrl:=rsOf_len c p b sk.data.toList pre
  rw[hrs]at hrl
  clear hag hB hrs
  cases B with
  | false =>
   gi_wp2_with (first|(refine⟨trivial,?_⟩;gi_at_call 79;refine(callsIn_wide.2 (HAG2.out _)).mono ?_;rintro e wz ⟨rfl,hEz⟩))
   refine⟨KeepsFrom.of_grownBy hEz.grownBy (fun j e=>by cases e),⟨Below.mono hEz hEY.size,hEz.block bx hbxl⟩,⟨?_,?_⟩,hEY.trans hEz⟩
   ·rw[rsOf_snoc_no HB.out,HRS.out];exact hKB.ext hEz
   ·rw[rsOf_snoc_no HB.out,HRS.out];exact hMB.ext hEz
  | true =>
   gi_wp2_with (first|(refine⟨trivial,?_⟩;gi_at_call 79;refine(callsIn_wide.2 (HAG2.out _)).mono ?_;rintro e wz ⟨rfl,hEz⟩;have hKz:=hKB.ext hEz;clear k0 k1 s0 s1 t0 t1;have k0:=hKz.sky.cell;have k1:=hKz.sky.lt;have s0:=hKz.sys.cell;have s1:=hKz.sys.lt;have t0:=hKz.sto.cell;have t1:=hKz.sto.lt)|(refine⟨trivial,?_⟩;gi_at_call 80;refine(callsIn_wide.2 (HRU.out x _)).mono ?_;rintro e w8 ⟨br,rfl,hbr,hbrge,hb8⟩))
   have hEY8:=hEz.trans hb8
   have hE8:=hEY.trans hEY8
   have hK8:=hKB.ext hEY8
   have hM8:=hMB.ext hEY8
   obtain⟨r0,hr0⟩:=hrec
   have hr8:w8.heap[l]? =some (.loop r0):=(hEY8.block l (Array.getElem?_eq_some_iff.1 hr0).1).trans hr0
   have hbrl:=hbr.lt
   have hq1:=hKB.box.lt
   have hq2:=hKB.mny.lt
   have hq3:=hKB.sto.lt
   have hY8:=hEz.size
   have hyb:Y.heap.size≤br:=by omega
   have hwY:=hEY.size
   obtain⟨T,hT⟩:∃T,T=x.1.data.toList:=⟨_,rfl⟩
   have hsq:=HSEQ.out x br w8 (by omega)
   have hcb:=HCB.out x
   rw[← hT]at hsq hcb
   rw[HNT.out]at hsq
   have HCB2:=Qb hcb
   have hTl:T.length=N:=by rw[hT,←HNT.out];exact weathers_len x.2
   obtain⟨r,hr⟩:∃r,r=C.run c p b 0 T:=⟨_,rfl⟩
   have hdat:∀k,k<N→C.dat r k=⟨(C.stateAt c p b 0 T (k+1)).e,(C.stateAt c p b 0 T (k+1)).carried⟩:=fun k hk=>by
    rw[hr];unfold C.dat C.run
    rw[List.getD_eq_getElem?_getD];simp[hTl,hk];rfl
   have HDAT:=Qb hdat
   have HRR:=Qb hr
   have HT:=Qb hT
   have hsys8:DaysAt w c (.slice a c.loads.length cap) p b 0 x.1 br 0 w8:=⟨hbr,hE8⟩
   have hKBx:=hKB.box
   clear k0 k1 s0 s1 t0 t1 hcb hr hdat hT hKz hKB hMB hbr hbxl hr0 hb8 hEz HRU
   refine' wpIn_range_ownN (l₀:=l) rfl hr8 (by omega) (gf:=81) (fst:=#[.pointer (some ⟨br,0,none⟩)]) rfl trivial (enters_of Tryz.func81 (by kernel_rfl) rfl)
    hsq (fun _=>rfl) (off_rec (by omega)) (daysAt_own hE8.size) hsys8
    (fun k Z=>(KBox n0 gm bx c (.slice a c.loads.length cap) p b sk N rs.length Z∧MetB N Z gm (metK c.loads.length rs r k))∧KeepsOthers Y Z)
    (fun _ _=>False)
    ?iown (fun _ _ _ _ h _ _=>h) ?irel ⟨⟨hK8,by rw[metK_zero];exact hM8⟩,KeepsOthers.of_grownBy hEY8.grownBy (fun j o e=>by cases e)⟩ (AxD Y.heap.size c p b 0 T _) (AxD.own _ _ _ _ _ _ _ _) ?iassign ?ibody ?idone (fun _ _ h=>h.elim)
   case iown =>
    refine OwnFrom.and (fun k A B row h hg hr=> ?_) (ownFrom_others (by have:=hEY8.size;omega))
    have hr':=fun r e=>(hr r e).2
    exact⟨h.1.kept hg hr',h.2.kept hg hr'⟩
   case irel =>
    rintro k A B ⟨⟨g1,g2⟩,g3⟩ ho
    exact⟨⟨g1.off ho (by omega) (by omega) (by omega),g2.off ho (by omega)⟩,others_off g3 ho hyb⟩
   case iassign =>
    rintro l' k Z K hk ⟨⟨g1,g2⟩,g3⟩ hA hK
    have hZ8:=g3.size
    simp only[dayE]
    gi_wp2
    obtain⟨bd,hbd⟩:∃bd,Z.heap.size=bd:=⟨_,rfl⟩
    have hEa:Ext Z (Z.alloc (.cells #[.int .i64 (C.stateAt c p b 0 T (k+1)).e,.int .i64 (C.stateAt c p b 0 T (k+1)).carried] 187)):=(Qn _).alloc _
    rw[hbd]
    refine hK _ _ (KeepsFrom.of_grownBy hEa.grownBy (fun j e=>by cases e)) ⟨⟨g1.ext hEa,g2.ext hEa⟩,g3.trans (KeepsOthers.alloc _ _)⟩ ⟨hA.1.ext hEa,hA.2.trans hEa⟩ ⟨bd,Qd hbd.symm _ _,by omega,?_⟩
    refine(Act.mk.injEq _ _ _ _).mpr ⟨?_,rfl⟩
    exact rfl
   case ibody =>
    rintro l' k a' Z hl' hrec' hk ⟨⟨g1,g2⟩,g3⟩ hA ⟨bd,hbd,hbdge,rfl⟩
    have hbits:=HCB2.out k (by omega)
    have hdt:=HDAT.out k hk
    obtain⟨y,hy⟩:∃y,C.stateAt c p b 0 T (k+1)=y:=⟨_,rfl⟩
    have HYY:=Qb hy
    rw[hy]at hbd hbits hdt
    simp only[hy]
    have hyc:0≤y.carried∧y.carried≤1000000:=by
     have h1:(2:Int)^c.loads.length≤1024:=(pow_bd (n:=c.loads.length) (by omega)).2
     omega
    have hm0:=g2.cell k 0 hk (by decide)
    have hm1:=g2.cell k 1 hk (by decide)
    rw[metK_at]at hm0 hm1
    simp only[Nat.add_zero]at hm0
    rw[metF_low]at hm0
    rw[metF_high]at hm1
    have hmf:=g2.free
    have hml:=g2.lt
    have r0:=g1.row.cell
    have r1:=g1.row.lt
    have n1:=g1.mny.cell
    have n2:=g1.mny.lt
    have d0:=hbd.cell
    have d1:=hbd.lt
    have hgb:gm≠bd:=by omega
    have HDT:=Qb hdt
    clear hy hbits hdt
    by_cases hrs0:rs=[]
    ·skip
     subst hrs0
     gi_wp2
     obtain⟨Z1,hZ1⟩:∃Z1,(Z.setCell ⟨gm,k*7,none⟩ (.int .i64 y.e)).setCell ⟨gm,k*7+1,none⟩ (.int .i64 y.e)=Z1:=⟨_,rfl⟩
     have gM1:MetB N Z1 gm (upd (upd (metK c.loads.length [] r k) k 0 y.e) k 1 y.e):=by rw[← hZ1];exact(g2.set k 0 hk (by decide) y.e).set k 1 hk (by decide) y.e
     have gK1:KBox n0 gm bx c (.slice a c.loads.length cap) p b sk N ([]:List (List C.Day)).length Z1:=by rw[← hZ1];exact(g1.met (by omega) (by omega) _ _).met (by omega) (by omega) _ _
     have gD1:Blk Z1 bd #[.int .i64 y.e,.int .i64 y.carried] 187:=by rw[← hZ1];exact(hbd.other (by simp;omega) _).other (by simp;omega) _
     have gA1:DaysAt w c (.slice a c.loads.length cap) p b 0 x.1 br (k+1) Z1:=by
      rw[← hZ1]
      exact⟨((hA.1).other (by simp;omega) _).other (by simp;omega) _,(hA.2.setCell (p:=⟨gm,k*7,none⟩) (by simp;omega) _).setCell (p:=⟨gm,k*7+1,none⟩) (by simp;omega) _⟩
     have gO1:KeepsOthers Z Z1:=by rw[← hZ1];exact(Qf _ _ _).trans (Qf _ _ _)
     rw[hZ1]
     clear hZ1 hm0 hm1 hmf hml r0 r1 n1 n2 d0 d1
     have hm0:=gM1.cell k 0 hk (by decide)
     have hm1:=gM1.cell k 1 hk (by decide)
     have hmf:=gM1.free
     have hml:=gM1.lt
     have d0:=gD1.cell
     have d1:=gD1.lt
     have r0:=gK1.row.cell
     have r1:=gK1.row.lt
     have n1:=gK1.mny.cell
     have n2:=gK1.mny.lt
     rw[show upd (upd (metK c.loads.length [] r k) k 0 y.e) k 1 y.e k 0=y.e by simp[upd]]at hm0
     rw[show upd (upd (metK c.loads.length [] r k) k 0 y.e) k 1 y.e k 1=y.e by simp[upd]]at hm1
     simp only[Nat.add_zero]at hm0
     have hpc:=plus_cell
     refine wpIn_region_ext 18 (fun _ _ d _ _ h=>by cases d<;>exact h) (by rintro⟨_,_,h⟩;first|exact h|exact h.elim) (by kernel_rfl) (by kernel_rfl) (by kernel_rfl) (by kernel_rfl) (by kernel_rfl) ?_
     simp only[Qt,Qu,Qv,Qw]
     repeat(any_goals(first|go_big_quiet_step(fail)|quiet_step(fail)))
     all_goals(refine wpQuiet_nil ?_;intro Z2 hEZ2)
     have gM2:=gM1.ext hEZ2
     have mf2:=gM2.free
     have ml2:=gM2.lt
     have mm0:=gM2.cell k 0 hk (by decide)
     have mm1:=gM2.cell k 1 hk (by decide)
     simp only[Nat.add_zero]at mm0
     clear hm0 hm1 hmf hml r0 r1 n1 n2 d0 d1
     go_wp2
     obtain⟨Z3,hZ3⟩:∃Z3,(Z2.setCell ⟨gm,k*7,none⟩ (.int .i64 (y.e))).setCell ⟨gm,k*7+1,none⟩ (.int .i64 (y.e))=Z3:=⟨_,rfl⟩
     have gM3:MetB N Z3 gm (metM c.loads.length [] r k 0):=by
      rw[← hZ3]
      have h:=(gM2.set k 0 hk (by decide) (y.e)).set k 1 hk (by decide) (y.e)
      rw[Nat.add_zero]at h
      refine h.congr fun d j _=> ?_
      rw[← metM_zero (n:=c.loads.length) (rs:=[]) (r:=r) (k:=k) (lo:=y.e) (hi:=y.e) (by rw[metF_low,Qs,lowOf_one,HDT.out]) (by rw[metF_high,Qs,highOf_one,HDT.out])]
      unfold upd;by_cases h1:d=k∧j=1<;>by_cases h0:d=k∧j=0<;>simp[h1,h0]
     have gK3:KBox n0 gm bx c (.slice a c.loads.length cap) p b sk N ([]:List (List C.Day)).length Z3:=by rw[← hZ3];exact((gK1.ext hEZ2).met (by omega) (by omega) _ _).met (by omega) (by omega) _ _
     have gD3:Blk Z3 bd #[.int .i64 y.e,.int .i64 y.carried] 187:=by rw[← hZ3];exact((gD1.ext hEZ2).other (by simp;omega) _).other (by simp;omega) _
     have gA3:DaysAt w c (.slice a c.loads.length cap) p b 0 x.1 br (k+1) Z3:=by
      rw[← hZ3]
      exact⟨((gA1.1.ext hEZ2).other (by simp;omega) _).other (by simp;omega) _,((gA1.2.trans hEZ2).setCell (p:=⟨gm,k*7,none⟩) (by simp;omega) _).setCell (p:=⟨gm,k*7+1,none⟩) (by simp;omega) _⟩
     have gO3:KeepsOthers Z Z3:=by rw[← hZ3];exact gO1.trans ((KeepsOthers.of_grownBy hEZ2.grownBy (fun j o e=>by cases e)).trans ((Qf _ _ _).trans (Qf _ _ _)))
     rw[hZ3]
     clear hZ3 mm0 mm1 mf2 ml2 gM2 gK1 gD1 gA1 gO1 gM1
     have s0:=gK3.sys.cell
     have s1:=gK3.sys.lt
     gi_wp2
     clear s0 s1
     gi_loopw [17,90] (fun _ i Zy=>∃m:Nat,m≤c.loads.length∧i= .int .i64 m∧MetB N Zy gm (metM c.loads.length [] r k m)∧KBox n0 gm bx c (.slice a c.loads.length cap) p b sk N ([]:List (List C.Day)).length Zy∧Blk Zy bd #[.int .i64 y.e,.int .i64 y.carried] 187∧DaysAt w c (.slice a c.loads.length cap) p b 0 x.1 br (k+1) Zy∧KeepsOthers Z Zy) (fun _ i _=>c.loads.length - (intOf i).toNat)
     case atStart=>exact⟨0,Qx _,rfl,gM3,gK3,gD3,gA3,gO3⟩
     case round =>
      rename World=>Zy
      obtain⟨m,hm,rfl,yM,yK,yD,yA,yO⟩:=hrel
      by_cases hml:m<c.loads.length
      ·have hbit:=bit_has y.carried m hyc.1 hyc.2
       have hmm:=yM.cell k (m+2) hk (by omega)
       rw[metM_low,metF_many [] k hml,show k*7+(m+2)=k*7+2+m by omega]at hmm
       have hmf:=yM.free
       have hmlt:=yM.lt
       have d0:=yD.cell
       have d1:=yD.lt
       have hle:=many_le [] k m
       have hsn:=many_snoc [] r k m
       rw[HDT.out]at hsn
       dsimp only at hsn
       obtain⟨H,hH⟩:∃H,C.has y.carried m=H:=⟨_,rfl⟩
       rw[hH]at hbit hsn
       obtain⟨cm,hcm⟩:∃cm,C.many [] k m=cm:=⟨_,rfl⟩
       rw[hcm]at hmm hle hsn
       have HSN:=Qb hsn
       have hml2:m<5:=by omega
       clear hsn hH hcm
       have hpc:=plus_cell
       cases H with
       | true =>
        have hbit':bits .and .i64 (y.carried/2^m) 1=1:=hbit
        clear hbit
        gi_wp2
        refine wpIn_region_ext 14 (fun _ _ d _ _ h=>by cases d<;>exact h) (by rintro⟨_,_,h⟩;first|exact h|exact h.elim) (by kernel_rfl) (by kernel_rfl) (by kernel_rfl) (by kernel_rfl) (by kernel_rfl) ?_
        simp only[Qt,Qu,Qv,Qw]
        repeat(any_goals(first|go_big_quiet_step(fail)|quiet_step(fail)))
        all_goals(refine wpQuiet_nil ?_;intro Z5 hEZ5)
        have yM5:=yM.ext hEZ5
        clear hmm hmf hmlt d0 d1
        have hmm5:=yM5.cell k (m+2) hk (by omega)
        rw[metM_low,metF_many [] k hml,show k*7+(m+2)=k*7+2+m by omega]at hmm5
        have hmf5:=yM5.free
        have hml5:=yM5.lt
        go_wp2
        gi_wp2
        have hv:metF c.loads.length ([]++[r]) k (m+2)=((cm:Int)+1):=by rw[metF_many _ k hml,HSN.out];push_cast;rfl
        have yS:=yM5.set k (m+2) hk (by omega) ((cm:Int)+1)
        rw[metM_succ hv,show k*7+(m+2)=k*7+2+m by omega]at yS
        go_roundw
        case rel=>exact⟨m+1,by omega,by go_num,yS,(yK.ext hEZ5).met (by omega) (by omega) _ _,(yD.ext hEZ5).other (by simp;omega) _,⟨(yA.1.ext hEZ5).other (by simp;omega) _,(yA.2.trans hEZ5).setCell (p:=⟨gm,k*7+2+m,none⟩) (by simp;omega) _⟩,yO.trans ((KeepsOthers.of_grownBy hEZ5.grownBy (fun j o e=>by cases e)).trans (Qf _ _ _))⟩
        case measure=>simp[intOf];omega
       | false =>
        have hbit':bits .and .i64 (y.carried/2^m) 1=0:=hbit
        clear hbit
        gi_wp2
        refine wpIn_region_ext 14 (fun _ _ d _ _ h=>by cases d<;>exact h) (by rintro⟨_,_,h⟩;first|exact h|exact h.elim) (by kernel_rfl) (by kernel_rfl) (by kernel_rfl) (by kernel_rfl) (by kernel_rfl) ?_
        simp only[Qt,Qu,Qv,Qw]
        repeat(any_goals(first|go_big_quiet_step(fail)|quiet_step(fail)))
        all_goals(refine wpQuiet_nil ?_;intro Z5 hEZ5)
        have yM5:=yM.ext hEZ5
        clear hmm hmf hmlt d0 d1
        have hmm5:=yM5.cell k (m+2) hk (by omega)
        rw[metM_low,metF_many [] k hml,show k*7+(m+2)=k*7+2+m by omega]at hmm5
        have hmf5:=yM5.free
        have hml5:=yM5.lt
        go_wp2
        gi_wp2
        have hv:metF c.loads.length ([]++[r]) k (m+2)=((cm:Int)):=by rw[metF_many _ k hml,HSN.out];rfl
        have yS:=yM5.set k (m+2) hk (by omega) ((cm:Int))
        rw[metM_succ hv,show k*7+(m+2)=k*7+2+m by omega]at yS
        go_roundw
        case rel=>exact⟨m+1,by omega,by go_num,yS,(yK.ext hEZ5).met (by omega) (by omega) _ _,(yD.ext hEZ5).other (by simp;omega) _,⟨(yA.1.ext hEZ5).other (by simp;omega) _,(yA.2.trans hEZ5).setCell (p:=⟨gm,k*7+2+m,none⟩) (by simp;omega) _⟩,yO.trans ((KeepsOthers.of_grownBy hEZ5.grownBy (fun j o e=>by cases e)).trans (Qf _ _ _))⟩
        case measure=>simp[intOf];omega
      ·obtain rfl:m=c.loads.length:=by omega
       gi_wp2
       exact⟨yO.from _,yA,⟨yK,by rw[metM_all]at yM;exact yM⟩,g3.trans yO⟩
    ·skip
     have hlen0:0<rs.length:=by cases rs with|nil=>exact absurd rfl hrs0|cons=>simp
     have hne0:((rs.length:Int) == 0)=false:=by rw[beq_eq_false_iff_ne];omega
     gi_wp2
     have gM1:=g2
     have gK1:=g1
     have gD1:=hbd
     have gA1:=hA
     have gO1:=KeepsOthers.refl Z
     have hpc:=plus_cell
     refine wpIn_region_ext 18 (fun _ _ d _ _ h=>by cases d<;>exact h) (by rintro⟨_,_,h⟩;first|exact h|exact h.elim) (by kernel_rfl) (by kernel_rfl) (by kernel_rfl) (by kernel_rfl) (by kernel_rfl) ?_
     simp only[Qt,Qu,Qv,Qw]
     repeat(any_goals(first|go_big_quiet_step(fail)|quiet_step(fail)))
     all_goals(refine wpQuiet_nil ?_;intro Z2 hEZ2)
     have gM2:=gM1.ext hEZ2
     have mf2:=gM2.free
     have ml2:=gM2.lt
     have mm0:=gM2.cell k 0 hk (by decide)
     have mm1:=gM2.cell k 1 hk (by decide)
     simp only[Nat.add_zero]at mm0
     clear hm0 hm1 hmf hml r0 r1 n1 n2 d0 d1
     go_wp2
     obtain⟨Z3,hZ3⟩:∃Z3,(Z2.setCell ⟨gm,k*7,none⟩ (.int .i64 (min (C.lowOf rs k) y.e))).setCell ⟨gm,k*7+1,none⟩ (.int .i64 (max (C.highOf rs k) y.e))=Z3:=⟨_,rfl⟩
     have gM3:MetB N Z3 gm (metM c.loads.length rs r k 0):=by
      rw[← hZ3]
      have h:=(gM2.set k 0 hk (by decide) (min (C.lowOf rs k) y.e)).set k 1 hk (by decide) (max (C.highOf rs k) y.e)
      rw[Nat.add_zero]at h
      refine h.congr fun d j _=> ?_
      rw[← metM_zero (n:=c.loads.length) (rs:=rs) (r:=r) (k:=k) (lo:=min (C.lowOf rs k) y.e) (hi:=max (C.highOf rs k) y.e) (by rw[metF_low,lowOf_snoc hrs0,HDT.out,imin_min]) (by rw[metF_high,highOf_snoc hrs0,HDT.out,imax_max])]
      (try rfl)
     have gK3:KBox n0 gm bx c (.slice a c.loads.length cap) p b sk N rs.length Z3:=by rw[← hZ3];exact((gK1.ext hEZ2).met (by omega) (by omega) _ _).met (by omega) (by omega) _ _
     have gD3:Blk Z3 bd #[.int .i64 y.e,.int .i64 y.carried] 187:=by rw[← hZ3];exact((gD1.ext hEZ2).other (by simp;omega) _).other (by simp;omega) _
     have gA3:DaysAt w c (.slice a c.loads.length cap) p b 0 x.1 br (k+1) Z3:=by
      rw[← hZ3]
      exact⟨((gA1.1.ext hEZ2).other (by simp;omega) _).other (by simp;omega) _,((gA1.2.trans hEZ2).setCell (p:=⟨gm,k*7,none⟩) (by simp;omega) _).setCell (p:=⟨gm,k*7+1,none⟩) (by simp;omega) _⟩
     have gO3:KeepsOthers Z Z3:=by rw[← hZ3];exact gO1.trans ((KeepsOthers.of_grownBy hEZ2.grownBy (fun j o e=>by cases e)).trans ((Qf _ _ _).trans (Qf _ _ _)))
     rw[hZ3]
     clear hZ3 mm0 mm1 mf2 ml2 gM2 gK1 gD1 gA1 gO1 gM1
     have s0:=gK3.sys.cell
     have s1:=gK3.sys.lt
     gi_wp2
     clear s0 s1
     gi_loopw [17,90] (fun _ i Zy=>∃m:Nat,m≤c.loads.length∧i= .int .i64 m∧MetB N Zy gm (metM c.loads.length rs r k m)∧KBox n0 gm bx c (.slice a c.loads.length cap) p b sk N rs.length Zy∧Blk Zy bd #[.int .i64 y.e,.int .i64 y.carried] 187∧DaysAt w c (.slice a c.loads.length cap) p b 0 x.1 br (k+1) Zy∧KeepsOthers Z Zy) (fun _ i _=>c.loads.length - (intOf i).toNat)
     case atStart=>exact⟨0,Qx _,rfl,gM3,gK3,gD3,gA3,gO3⟩
     case round =>
      rename World=>Zy
      obtain⟨m,hm,rfl,yM,yK,yD,yA,yO⟩:=hrel
      by_cases hml:m<c.loads.length
      ·have hbit:=bit_has y.carried m hyc.1 hyc.2
       have hmm:=yM.cell k (m+2) hk (by omega)
       rw[metM_low,metF_many rs k hml,show k*7+(m+2)=k*7+2+m by omega]at hmm
       have hmf:=yM.free
       have hmlt:=yM.lt
       have d0:=yD.cell
       have d1:=yD.lt
       have hle:=many_le rs k m
       have hsn:=many_snoc rs r k m
       rw[HDT.out]at hsn
       dsimp only at hsn
       obtain⟨H,hH⟩:∃H,C.has y.carried m=H:=⟨_,rfl⟩
       rw[hH]at hbit hsn
       obtain⟨cm,hcm⟩:∃cm,C.many rs k m=cm:=⟨_,rfl⟩
       rw[hcm]at hmm hle hsn
       have HSN:=Qb hsn
       have hml2:m<5:=by omega
       clear hsn hH hcm
       have hpc:=plus_cell
       cases H with
       | true =>
        have hbit':bits .and .i64 (y.carried/2^m) 1=1:=hbit
        clear hbit
        gi_wp2
        refine wpIn_region_ext 14 (fun _ _ d _ _ h=>by cases d<;>exact h) (by rintro⟨_,_,h⟩;first|exact h|exact h.elim) (by kernel_rfl) (by kernel_rfl) (by kernel_rfl) (by kernel_rfl) (by kernel_rfl) ?_
        simp only[Qt,Qu,Qv,Qw]
        repeat(any_goals(first|go_big_quiet_step(fail)|quiet_step(fail)))
        all_goals(refine wpQuiet_nil ?_;intro Z5 hEZ5)
        have yM5:=yM.ext hEZ5
        clear hmm hmf hmlt d0 d1
        have hmm5:=yM5.cell k (m+2) hk (by omega)
        rw[metM_low,metF_many rs k hml,show k*7+(m+2)=k*7+2+m by omega]at hmm5
        have hmf5:=yM5.free
        have hml5:=yM5.lt
        go_wp2
        gi_wp2
        have hv:metF c.loads.length (rs++[r]) k (m+2)=((cm:Int)+1):=by rw[metF_many _ k hml,HSN.out];push_cast;rfl
        have yS:=yM5.set k (m+2) hk (by omega) ((cm:Int)+1)
        rw[metM_succ hv,show k*7+(m+2)=k*7+2+m by omega]at yS
        go_roundw
        case rel=>exact⟨m+1,by omega,by go_num,yS,(yK.ext hEZ5).met (by omega) (by omega) _ _,(yD.ext hEZ5).other (by simp;omega) _,⟨(yA.1.ext hEZ5).other (by simp;omega) _,(yA.2.trans hEZ5).setCell (p:=⟨gm,k*7+2+m,none⟩) (by simp;omega) _⟩,yO.trans ((KeepsOthers.of_grownBy hEZ5.grownBy (fun j o e=>by cases e)).trans (Qf _ _ _))⟩
        case measure=>simp[intOf];omega
       | false =>
        have hbit':bits .and .i64 (y.carried/2^m) 1=0:=hbit
        clear hbit
        gi_wp2
        refine wpIn_region_ext 14 (fun _ _ d _ _ h=>by cases d<;>exact h) (by rintro⟨_,_,h⟩;first|exact h|exact h.elim) (by kernel_rfl) (by kernel_rfl) (by kernel_rfl) (by kernel_rfl) (by kernel_rfl) ?_
        simp only[Qt,Qu,Qv,Qw]
        repeat(any_goals(first|go_big_quiet_step(fail)|quiet_step(fail)))
        all_goals(refine wpQuiet_nil ?_;intro Z5 hEZ5)
        have yM5:=yM.ext hEZ5
        clear hmm hmf hmlt d0 d1
        have hmm5:=yM5.cell k (m+2) hk (by omega)
        rw[metM_low,metF_many rs k hml,show k*7+(m+2)=k*7+2+m by omega]at hmm5
        have hmf5:=yM5.free
        have hml5:=yM5.lt
        go_wp2
        gi_wp2
        have hv:metF c.loads.length (rs++[r]) k (m+2)=((cm:Int)):=by rw[metF_many _ k hml,HSN.out];rfl
        have yS:=yM5.set k (m+2) hk (by omega) ((cm:Int))
        rw[metM_succ hv,show k*7+(m+2)=k*7+2+m by omega]at yS
        go_roundw
        case rel=>exact⟨m+1,by omega,by go_num,yS,(yK.ext hEZ5).met (by omega) (by omega) _ _,(yD.ext hEZ5).other (by simp;omega) _,⟨(yA.1.ext hEZ5).other (by simp;omega) _,(yA.2.trans hEZ5).setCell (p:=⟨gm,k*7+2+m,none⟩) (by simp;omega) _⟩,yO.trans ((KeepsOthers.of_grownBy hEZ5.grownBy (fun j o e=>by cases e)).trans (Qf _ _ _))⟩
        case measure=>simp[intOf];omega
      ·obtain rfl:m=c.loads.length:=by omega
       gi_wp2
       exact⟨yO.from _,yA,⟨yK,by rw[metM_all]at yM;exact yM⟩,g3.trans yO⟩
   case idone =>
    rintro Z ⟨⟨g1,g2⟩,g3⟩ hA
    have n0':=g1.mny.cell
    have n1:=g1.mny.lt
    have n2:=g1.mny.free
    have hrl2:rs.length≤1023:=by omega
    gi_wp2
    have hZs:=g3.size
    have hmn:Blk (Z.setCell ⟨gm+1+1,0,none⟩ (.int .i64 ((rs.length:Int)+1))) (gm+1+1) #[.int .i64 ((rs.length:Int)+1)] 3:=by simpa using g1.mny.set 0 (.int .i64 ((rs.length:Int)+1))
    have hKf:KBox n0 gm bx c (.slice a c.loads.length cap) p b sk N (rsOf c p b sk.data.toList (pre++[x])).length (Z.setCell ⟨gm+1+1,0,none⟩ (.int .i64 ((rs.length:Int)+1))):=by
     rw[rsOf_snoc_yes HB.out,HRS.out,List.length_append]
     exact⟨g1.sys.other (by simp;omega) _,g1.sky.other (by simp;omega) _,g1.sto.other (by simp;omega) _,g1.row.other (by simp) _,by simpa using hmn,g1.box.other (by simp;omega) _⟩
    have hEf:Ext w (Z.setCell ⟨gm+1+1,0,none⟩ (.int .i64 ((rs.length:Int)+1))):=hA.2.setCell (p:=⟨gm+1+1,0,none⟩) (by simp;omega) _
    refine⟨((g3.trans (Qf _ _ _))).from _,⟨below_of_ext hEY hEf (by rw[size_setCell];exact hZs),?_⟩,⟨hKf,?_⟩,hEf⟩
    ·have h1:(Z.setCell ⟨gm+1+1,0,none⟩ (.int .i64 ((rs.length:Int)+1))).heap[bx]? =_:=hKf.box
     have h2:Y.heap[bx]? =_:=hKBx
     rw[h1,h2]
    ·rw[rsOf_snoc_yes HB.out,HRS.out]
     have h1:=g2.congr (f':=metF c.loads.length (rs++[r])) (fun d j hd=>metK_all rs r hd)
     rw[HRR.out,HT.out]at h1
     exact h1.other (by simp;omega) _
 case done =>
  rintro D xs Y hD hS ⟨⟨hKB,hMB⟩,hEY⟩ hK
  have hrs:rsOf c p b sk.data.toList xs=R:=by rw[rsOf_all hS,HR.out]
  have hlx:R.length≤1024:=by
   rw[← hrs];refine Qr (rsOf_len c p b _ xs) ?_
   rw[← List.length_map (f:=Wt.txt),hS];exact weathers_many c HNT.out hN10
  rw[hrs]at hKB hMB
  have n0':=hKB.mny.cell
  have n1:=hKB.mny.lt
  clear hS hrs
  by_cases hR0:R=[]
  ·subst hR0
   go_wp2
   refine⟨by simp,.inl ⟨_,_,rfl,run_takeDeferred hK,?_⟩⟩
   refine⟨.tuple #[.slice none 0 0,.int .i64 5],by simp[results,Tryz.results22,go_sem],_,rfl,Seens.nil _,?_⟩
   exact Below.trans hEY (belowK_b (w:=w) (Qe _) Y D _ _ (by have:=hE7.size;omega) hK rfl rfl)
  ·skip
   have hlen0:0<R.length:=by cases R with|nil=>exact absurd rfl hR0|cons=>simp
   have hne0:((R.length:Int) == 0)=false:=by rw[beq_eq_false_iff_ne];omega
   have r0:=hKB.row.cell
   have r1:=hKB.row.lt
   go_wp2
   clear n0' n1 r0 r1
   go_loopw [18,20,21,22,115] (fun out _ _ _ i Yk=>∃(k:Nat) (ss:List (C.Seen×Value)),k≤N∧i= .int .i64 k∧ss.map Prod.fst=(List.range k).map (C.seenAt c R)∧Yk.ownsRow Y.heap.size 194 3 out k (ss.flatMap seenC)∧(∀ s∈ss,Yk.ownsRow Y.heap.size 195 1 s.2 s.1.loads.length (s.1.loads.map (Value.int .i64)))∧Ext Y Yk) (fun _ _ _ _ i _=>N - (intOf i).toNat)
   case atStart=>exact⟨0,[],Qx _,rfl,rfl,World.ownsRow_nil _ _ _ _,(fun s h=>by cases h),Qn _⟩
   case round =>
    rename World=>Yk
    obtain⟨k,ss,hk,rfl,hss,hown,hws,hEk⟩:=hrel
    have HSS:=Qb hss
    have HWS:=Qb hws
    clear hss hws
    by_cases hkl:k<N
    ·have hMk:=hMB.ext hEk
     have m0:=hMk.cell k 0 hkl (by decide)
     have m1:=hMk.cell k 1 hkl (by decide)
     have m2:=hMk.cell k 2 hkl (by decide)
     have m3:=hMk.cell k 3 hkl (by decide)
     have m4:=hMk.cell k 4 hkl (by decide)
     have m5:=hMk.cell k 5 hkl (by decide)
     have m6:=hMk.cell k 6 hkl (by decide)
     have ml:=hMk.lt
     have s0:=(hKB.sys.ext hEk).cell
     have s1:=(hKB.sys.ext hEk).lt
     simp only[Nat.add_zero]at m0
     obtain⟨q,hq⟩:∃q:Nat→Int,q=metF c.loads.length R k:=⟨_,rfl⟩
     rw[← hq]at m0 m1 m2 m3 m4 m5 m6
     have HQ:=Qb hq
     clear hq
     go_wp2
     obtain⟨b0,hb0⟩:∃b0,Yk.heap.size=b0:=⟨_,rfl⟩
     obtain⟨Y1,hY1⟩:∃Y1,(Yk.alloc (.cells #[.int .i64 (q 0),.int .i64 (q 1),.int .i64 (q 2),.int .i64 (q 3),.int .i64 (q 4),.int .i64 (q 5),.int .i64 (q 6)] 191)).alloc (.cells #[.int .i64 (q 0),.int .i64 (q 1),.slice none 0 0] 194)=Y1:=⟨_,rfl⟩
     have hA1:Blk Y1 b0 #[.int .i64 (q 0),.int .i64 (q 1),.int .i64 (q 2),.int .i64 (q 3),.int .i64 (q 4),.int .i64 (q 5),.int .i64 (q 6)] 191:=by rw[← hY1];exact(Qd hb0.symm _ _).alloc _
     have hB1:Blk Y1 (b0+1) #[.int .i64 (q 0),.int .i64 (q 1),.slice none 0 0] 194:=by rw[← hY1];exact Qd (by simp[hb0]) _ _
     have hE1:Ext Yk Y1:=by rw[← hY1];exact((Qn Yk).alloc _).alloc _
     have hz1:b0+2=Y1.heap.size:=by rw[← hY1,←hb0];simp
     rw[hb0,hY1]
     have hkz:=hEk.size
     rw[hb0]at hkz
     have hmq:gm<b0:=by omega
     have hmy:gm+1+1<Yk.heap.size:=by have:=(hKB.mny.ext hEk).lt;omega
     rw[hb0]at hmy
     have HB0:=Qb hb0
     clear hY1 m0 m1 m2 m3 m4 m5 m6 ml s0 s1 hb0
     go_loopw [22,125] (fun _ i Yi=>∃(m:Nat) (vw:Value),m≤c.loads.length∧i= .int .i64 m∧Yi.ownsRow (b0+2) 195 1 vw m ((wordsTo R k m).map (Value.int .i64))∧Blk Yi b0 #[.int .i64 (q 0),.int .i64 (q 1),.int .i64 (q 2),.int .i64 (q 3),.int .i64 (q 4),.int .i64 (q 5),.int .i64 (q 6)] 191∧Blk Yi (b0+1) #[.int .i64 (q 0),.int .i64 (q 1),vw] 194∧Ext Yk Yi∧b0+2≤Yi.heap.size) (fun _ i _=>c.loads.length - (intOf i).toNat)
     case atStart=>exact⟨0,_,Qx _,rfl,World.ownsRow_nil _ _ _ _,hA1,hB1,hE1,by omega⟩
     case round =>
      rename World=>Yi
      obtain⟨m,vw,hm,rfl,hwo,hA2,hB2,hE2,hyi2⟩:=hrel
      have hw':=HWS.out
      obtain⟨a9,c9,rfl⟩:=own_slice hwo
      by_cases hml:m<c.loads.length
      ·have hmn2:=(hKB.mny.ext hEk).ext hE2
       have hqm:q (m+2)=(C.many R k m:Int):=by rw[HQ.out];exact metF_many R k hml
       have hc20:∀y:World,(∀ o,y.cell? ⟨b0,o,none⟩=(#[.int .i64 (q 0),.int .i64 (q 1),.int .i64 (q 2),.int .i64 (q 3),.int .i64 (q 4),.int .i64 (q 5),.int .i64 (q 6)]:Array Value)[o]?)→y.cell? ⟨b0,2+m,none⟩=some (.int .i64 (C.many R k m:Int)):=fun y hy=>by rw[hy,←hqm];exact met_at q m (by omega)
       have HC20:=Qb hc20
       clear hc20 hqm
       have hle:=many_le R k m
       have hwd:=fun w'=>word_any (C.many R k m) R.length w' (by omega) (by omega)
       have hws:=wordsTo_succ R k m
       obtain⟨cm,hcm⟩:∃cm,C.many R k m=cm:=⟨_,rfl⟩
       rw[hcm]at HC20 hws hle
       simp only[hcm]at hwd
       have HWD:=Qb hwd
       have HWSS:=Qb hws
       clear hwd hws hcm
       have hml2:m<5:=by omega
       have hml3:(m:Int)<5:=by omega
       go_upto_region 32 with(fail)
       have hAd:=hA2.drew
       have hBd:=hB2.drew
       have hNd:=hmn2.drew
       refine wp_region_lateN 11 (fun cc (y:World)=>cc=false→((∀ o,y.cell? ⟨b0,o,none⟩=(#[.int .i64 (q 0),.int .i64 (q 1),.int .i64 (q 2),.int .i64 (q 3),.int .i64 (q 4),.int .i64 (q 5),.int .i64 (q 6)]:Array Value)[o]?)∧(∀ o,y.cell? ⟨b0+1,o,none⟩=(#[.int .i64 (q 0),.int .i64 (q 1),.slice a9 m c9]:Array Value)[o]?)∧y.cell? ⟨gm+1+1,0,none⟩=some (.int .i64 (R.length:Int)))) (by kernel_rfl) (fun hL=> ?_)
       refine late_early (i:=0) (v:= ?_) rfl (by kernel_rfl) (by kernel_rfl) (by kernel_rfl) (by decide) (by kernel_rfl) (fun _ _ _ h=>h) hL (Or.inl ⟨by rfl,?_⟩) (fun _=>⟨hAd.cell,hBd.cell,hNd.cell 0⟩) (fun hL'=> ?_)
       rotate_left
       ·intro y hy;clear hy;go_simp;(try with_reducible rfl)
       clear hL;rename Shutb _ _=>hL
       (try simp only[Qg,Qh,Qi,Qj,Qk,Ql,Qm])
       refine late_early (i:=1) (v:= ?_) rfl (by kernel_rfl) (by kernel_rfl) (by kernel_rfl) (by decide) (by kernel_rfl) (fun _ _ _ h=>h) hL (Or.inl ⟨by rfl,?_⟩) (fun _=>⟨hAd.cell,hBd.cell,hNd.cell 0⟩) (fun hL'=> ?_)
       rotate_left
       ·intro y hy;have hz:=hy rfl;clear hy;obtain⟨_,z2,_⟩:=hz;go_simp;(try with_reducible rfl)
       clear hL;rename Shutb _ _=>hL
       (try simp only[Qg,Qh,Qi,Qj,Qk,Ql,Qm])
       refine late_early (i:=2) (v:= ?_) rfl (by kernel_rfl) (by kernel_rfl) (by kernel_rfl) (by decide) (by kernel_rfl) (fun _ _ _ h=>h) hL (Or.inl ⟨by rfl,?_⟩) (fun _=>⟨hAd.cell,hBd.cell,hNd.cell 0⟩) (fun hL'=> ?_)
       rotate_left
       ·intro y hy;clear hy;go_simp;(try with_reducible rfl)
       clear hL;rename Shutb _ _=>hL
       (try simp only[Qg,Qh,Qi,Qj,Qk,Ql,Qm])
       refine late_early (i:=3) (v:= ?_) rfl (by kernel_rfl) (by kernel_rfl) (by kernel_rfl) (by decide) (by kernel_rfl) (fun _ _ _ h=>h) hL (Or.inl ⟨by rfl,?_⟩) (fun _=>⟨hAd.cell,hBd.cell,hNd.cell 0⟩) (fun hL'=> ?_)
       rotate_left
       ·intro y hy;clear hy;go_simp;(try with_reducible rfl)
       clear hL;rename Shutb _ _=>hL
       (try simp only[Qg,Qh,Qi,Qj,Qk,Ql,Qm])
       refine late_early (i:=4) (v:= ?_) rfl (by kernel_rfl) (by kernel_rfl) (by kernel_rfl) (by decide) (by kernel_rfl) (fun _ _ _ h=>h) hL (Or.inl ⟨by rfl,?_⟩) (fun _=>⟨hAd.cell,hBd.cell,hNd.cell 0⟩) (fun hL'=> ?_)
       rotate_left
       ·intro y hy;clear hy;go_simp;(try with_reducible rfl)
       clear hL;rename Shutb _ _=>hL
       (try simp only[Qg,Qh,Qi,Qj,Qk,Ql,Qm])
       refine late_early (i:=5) (v:= ?_) rfl (by kernel_rfl) (by kernel_rfl) (by kernel_rfl) (by decide) (by kernel_rfl) (fun _ _ _ h=>h) hL (Or.inl ⟨by rfl,?_⟩) (fun _=>⟨hAd.cell,hBd.cell,hNd.cell 0⟩) (fun hL'=> ?_)
       rotate_left
       ·intro y hy;have hz:=hy rfl;clear hy;obtain⟨z1,_,_⟩:=hz;have z9:=HC20.out y z1;clear z1;go_simp;(try with_reducible rfl)
       clear hL;rename Shutb _ _=>hL
       (try simp only[Qg,Qh,Qi,Qj,Qk,Ql,Qm])
       refine late_early (i:=6) (v:= ?_) rfl (by kernel_rfl) (by kernel_rfl) (by kernel_rfl) (by decide) (by kernel_rfl) (fun _ _ _ h=>h) hL (Or.inl ⟨by rfl,?_⟩) (fun _=>⟨hAd.cell,hBd.cell,hNd.cell 0⟩) (fun hL'=> ?_)
       rotate_left
       ·intro y hy;have hz:=hy rfl;clear hy;obtain⟨_,_,z3⟩:=hz;go_simp;(try with_reducible rfl)
       clear hL;rename Shutb _ _=>hL
       (try simp only[Qg,Qh,Qi,Qj,Qk,Ql,Qm])
       refine late_one (i:=7) (by kernel_rfl) hL (fun hL'=> ?_)
       refine wpOp_step rfl (fun K hK0=> ?_)
       have hK:Shut _:=hK0
       clear hK0
       go_simp
       go_wp2_with (first|(go_at_call 82;refine(HWD.out _).mono ?_;rintro e w4 ⟨rfl,rfl⟩))
       refine hK.out _ _ ⟨fun _=>⟨hAd.cell,hBd.cell,hNd.cell 0⟩,?_⟩
       clear hK K;clear hL;rename Shutb _ _=>hL
       (try simp only[Qg,Qh,Qi,Qj,Qk,Ql,Qm])
       refine late_one (i:=8) (by kernel_rfl) hL (fun hL'=> ?_)
       refine wpOp_step rfl (fun K hK0=> ?_)
       have hK:Shut _:=hK0
       clear hK0
       go_simp
       have hW1:Blk (Yi.alloc (.cells #[.int .i64 (C.word cm R.length)] 195)).drew Yi.heap.size #[.int .i64 (C.word cm R.length)] 195:=Blk.drew (Blk.new _ _ _)
       have hA3:=(hA2.alloc (.cells #[.int .i64 (C.word cm R.length)] 195)).drew
       have hB3:=(hB2.alloc (.cells #[.int .i64 (C.word cm R.length)] 195)).drew
       have hN3:=(hmn2.alloc (.cells #[.int .i64 (C.word cm R.length)] 195)).drew
       have hE3:Ext Yk (Yi.alloc (.cells #[.int .i64 (C.word cm R.length)] 195)).drew:=(hE2.alloc _).drew
       have hO3:=own_ext hwo (((Qn Yi).alloc (.cells #[.int .i64 (C.word cm R.length)] 195)).drew)
       obtain⟨Yj,hYj⟩:∃Yj,(Yi.alloc (.cells #[.int .i64 (C.word cm R.length)] 195)).drew=Yj:=⟨_,rfl⟩
       have hzj:Yj.heap.size=Yi.heap.size+1:=by rw[← hYj];simp[size_drew]
       rw[hYj]at hW1 hA3 hB3 hN3 hE3 hO3 ⊢
       clear hYj
       refine hK.out _ _ ⟨fun _=>⟨hA3.cell,hB3.cell,hN3.cell 0⟩,?_⟩
       clear hK K;clear hL;rename Shutb _ _=>hL
       (try simp only[Qg,Qh,Qi,Qj,Qk,Ql,Qm])
       refine late_one (i:=9) (by kernel_rfl) hL (fun hL'=> ?_)
       refine wpOp_step rfl (fun K hK0=> ?_)
       have hK:Shut _:=hK0
       clear hK0
       refine step_append_word _ rfl _ _ rfl (b0+2) (.slice a9 m c9) m _ (C.word cm R.length) Yi.heap.size rfl rfl hO3 hW1 (by omega) (by omega) ?_
       intro v7 w7' hO4 hg4
       have hA4:=Blk.grown hA3 hg4 (own_base hO3) (by omega)
       have hB4:=Blk.grown hB3 hg4 (own_base hO3) (by omega)
       have hN4:=Blk.grown hN3 hg4 (own_base hO3) (by omega)
       have hE4:Ext Yk w7':=Ext.grown hE3 hg4 (fun r e=>by have:=own_base hO3 r e;have:=HB0.out;omega)
       have hs4:=hg4.size
       obtain⟨g7,c7,rfl⟩:=own_succ hO4
       refine hK.out _ _ ⟨fun _=>⟨hA4.cell,hB4.cell,hN4.cell 0⟩,?_⟩
       clear hK K;clear hL;rename Shutb _ _=>hL
       (try simp only[Qg,Qh,Qi,Qj,Qk,Ql,Qm])
       refine late_one (i:=10) (by kernel_rfl) hL (fun hL'=> ?_)
       refine wpOp_step rfl (fun K hK0=> ?_)
       have hK:Shut _:=hK0
       clear hK0
       go_simp
       refine hK.out _ _ ⟨fun _=>⟨hA4.cell,hB4.cell,hN4.cell 0⟩,?_⟩
       clear hK K;clear hL;rename Shutb _ _=>hL
       (try simp only[Qg,Qh,Qi,Qj,Qk,Ql,Qm])
       refine late_one (i:=11) (by kernel_rfl) hL (fun hL'=> ?_)
       refine wpOp_step rfl (fun K hK0=> ?_)
       have hK:Shut _:=hK0
       clear hK0
       have e0:=hB4.cell
       have e1:=hB4.lt
       have e2:=hB4.free
       go_simp
       refine hK.out _ _ ⟨fun e=>absurd (e:true=false) (by decide),?_⟩
       clear hK K;clear hL;rename Shutb _ _=>hL
       (try simp only[Qg,Qh,Qi,Qj,Qk,Ql,Qm])
       refine late_done (by kernel_rfl) ?_
       (try dsimp only[Exit.then])
       clear e0 e1 e2
       go_wp2
       go_roundw
       case rel=>exact⟨m+1,_,by omega,by go_num,by rw[HWSS.out,List.map_append];exact own_move hO4 fun g cur hg _=>Below.heap_setCell _ _ _ _ (by simp;omega),hA4.other (by simp) _,by simpa using hB4.set 2 (.slice (some ⟨g7,0,none⟩) (m+1) c7),hE4.setCell (p:=⟨b0+1,2,none⟩) (by simp;have:=HB0.out;omega) _,by rw[size_setCell];omega⟩
       case measure=>simp[intOf];omega
      ·obtain rfl:m=c.loads.length:=by omega
       have d0:=hB2.cell
       have d1:=hB2.lt
       have hsn:ss.length=k:=by have:=congrArg List.length HSS.out;simpa using this
       have hoS:=own_ext hown hE2
       have hkz2:=hE2.size
       obtain⟨a8,c8,rfl⟩:=own_slice hoS
       have hb0k:=HB0.out
       have HSN:=Qb hsn
       have HB1:=Qb hb0k
       clear hsn hb0k
       have hbY:Y.heap.size≤Yi.heap.size:=by omega
       go_wp2_with ((at_builtin;refine wpList_append_own _ rfl _ _ 70 rfl (Y.heap.size) 194 is0 (.agg #[.int .i64 0,.int .i64 0,.slice none 0 0]) 3 40 Tryz.underlying70 his hsz0 hsz1 hsz2 rfl (by decide) _ _ _ rfl (own_ext hoS ((Qn _).alloc _)) ⟨Yi.heap.size,0,none⟩ 1 1 [.int .i64 (q 0),.int .i64 (q 1),.slice a9 c.loads.length c9] rfl rfl (cell_three _ _ _ _ _ (by simp)) (by intro u hu;simp at hu;rcases hu with rfl|rfl|rfl<;>rfl) (by unfold maxLen;omega) (by omega) (by simp;omega) ?_;intro v' w6 hown' hgrow _))
       have hEz:Ext Yi (Yi.alloc (.cells #[.int .i64 (q 0),.int .i64 (q 1),.slice a9 c.loads.length c9] 194)):=(Qn _).alloc _
       have hE9:Ext Y w6:=Ext.grown (((hEk.trans hE2)).trans hEz) hgrow (own_base hoS)
       go_roundw
       case rel =>
        refine⟨k+1,ss++[(C.seenAt c R k,.slice a9 c.loads.length c9)],by omega,by go_num,?_,?_,?_,hE9⟩
        ·rw[List.map_append,HSS.out,List.range_succ,List.map_append];rfl
        ·rw[List.flatMap_append]
         have e9:[(C.seenAt c R k,Value.slice a9 c.loads.length c9)].flatMap seenC=[.int .i64 (q 0),.int .i64 (q 1),.slice a9 c.loads.length c9]:=by rw[HQ.out];rfl
         rw[e9];exact hown'
        ·intro s hs'
         rw[List.mem_append]at hs'
         rcases hs' with hs'|hs'
         ·exact own_apart (own_ext (own_ext (HWS.out s hs') hE2) hEz) (own_ext hoS hEz) (by decide) hgrow
         ·rw[List.mem_singleton]at hs'
          subst hs'
          have h9:=own_apart (own_ext hwo hEz) (own_ext hoS hEz) (by decide) hgrow
          rw[seenAt_eq]
          dsimp only
          rw[wordsTo_len]
          exact own_mono h9 (by have:=HB1.out;omega)
       case measure=>simp[intOf];omega
    ·obtain rfl:N=k:=by omega
     go_wp2
     have hKk:Yk.heap[D]? =some (.deferred (some [])):=(hEk.block D (Array.getElem?_eq_some_iff.1 hK).1).trans hK
     refine⟨by simp,.inl ⟨_,_,rfl,run_takeDeferred hKk,?_⟩⟩
     obtain⟨a9,c9,rfl⟩:=own_slice hown
     have hlk:ss.length=N:=by have:=congrArg List.length HSS.out;simpa using this
     have hmv:∀(g:Nat) (cur:Array Value) (e:TypeId),Yk.heap[g]? =some (.cells cur e (0,0))→(Yk.putObj D (.deferred none)).heap[g]? =Yk.heap[g]? :=fun g cur e hg0=>(grownBy_putObj' Yk D _).block g (Array.getElem?_eq_some_iff.1 hg0).1 (by first|exact(dne D g cur hKk hg0).1|exact(dne D g cur hKk hg0).2.1|exact(dne D g cur hKk hg0).2.2.1|exact(dne D g cur hKk hg0).2.2.2)
     have hown':(Yk.putObj D (.deferred none)).ownsRow Y.heap.size 194 3 (.slice a9 N c9) N (ss.flatMap seenC):=own_move hown fun g cur _ hg0=>hmv g cur _ hg0
     have hws':∀s∈ss,(Yk.putObj D (.deferred none)).ownsRow Y.heap.size 195 1 s.2 s.1.loads.length (s.1.loads.map (Value.int .i64)):=fun s hs=>own_move (HWS.out s hs) fun g cur _ hg0=>hmv g cur _ hg0
     refine⟨.tuple #[.slice a9 N c9,.int .i64 0],by simp[results,Tryz.results22,go_sem],.slice a9 N c9,?_,?_,?_⟩
     ·first|rfl|rw[if_neg hR0]
     ·(try rw[if_neg hR0])
      have hsn:C.seen c R=ss.map Prod.fst:=by rw[HSS.out];unfold C.seen;rw[HNT.out]
      rw[hsn]
      exact seens_of (by rw[hlk];exact hown') hws'
     ·exact Below.trans (hEY.trans hEk) (belowK_b (w:=w) (Qe _) Yk D _ _ (by have:=hE7.size;omega) hKk rfl rfl)
 case stop =>
  rintro D cd pre Y _ _ h _
  exact h.elim
end Go.Proofs.YtgloajbgphcloaaGreat.Cl
namespace Go.Proofs.YtgloajbgphcloaaGreat.Cl
set_option linter.unusedVariables false
set_option linter.unusedSimpArgs false
open Go.RowKit
theorem exC_sys:C.sysB exC=true:=by decide +kernel
theorem exC_best0:suffS exC (2,2)=true∧((stores 117).all fun s=> !suffS exC s||decide (C.cost exC 2 2<C.cost exC s.1 s.2)||(decide (C.cost exC 2 2=C.cost exC s.1 s.2)&&decide (rankS (2,2)≤rankS s)))=true:=by decide +kernel
theorem exC_best:BestIs exC (some (2,2)):=by
 refine⟨by unfold inRange;decide,exC_best0.1,fun s hs hf=> ?_⟩
 have h:=List.all_eq_true.1 exC_best0.2 s (stores_mem hs)
 rw[hf]at h
 simp only[Bool.not_true,Bool.false_or,Bool.or_eq_true,Bool.and_eq_true,decide_eq_true_eq]at h
 exact h
end Go.Proofs.YtgloajbgphcloaaGreat.Cl
namespace Go.Proofs.YtgloajbgphcloaaGreat.Cl
set_option linter.unusedVariables false
set_option linter.unusedSimpArgs false
open Go.RowKit
theorem Seens.ext {w w':World} {v:Value} {xs:List C.Seen} (h:Seens w v xs) (he:Ext w w'):Seens w' v xs:=by
 obtain⟨a,cap,rfl,hx⟩:=h
 refine⟨a,cap,rfl,fun i hi=> ?_⟩
 obtain⟨b,off,vw,rfl,hb,h1,h2,h3,h4⟩:=hx i hi
 exact⟨b,off,vw,rfl,Nat.lt_of_lt_of_le hb he.size,(he.cells.1 _ _ hb).trans h1,(he.cells.1 _ _ hb).trans h2,(he.cells.1 _ _ hb).trans h3,h4.ext he⟩
theorem k_best (vl:Value) (w:World) (hL:Loads w vl exC.loads):Calls Tryz.prog 55 #[.agg (sysV exC vl)] w fun e w'=>e= .returned (.tuple #[.int .i64 2,.int .i64 2,.int .i64 260,.int .i64 0])∧Ext w w':=by
 refine(bestQ_any exC vl w hL (by decide)).mono ?_
 rintro e w' ⟨o,h1,rfl,h2⟩
 have e1:=bestIs_one (h1 exC_sys) exC_best
 subst e1
 refine⟨?_,h2⟩
 unfold bestR
 rw[if_pos exC_sys]
 rfl
end Go.Proofs.YtgloajbgphcloaaGreat.Cl
