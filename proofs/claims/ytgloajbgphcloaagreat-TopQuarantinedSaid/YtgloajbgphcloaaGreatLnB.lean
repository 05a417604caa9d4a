/- The lens: what goes wrong in a month; the iterator over all droughts. The lens: the iterator over all droughts. The lens: the first fault with some tanks. The lens: the fewest tanks. -/
import Derived.Test.YtgloajbgphcloaaGreatLnA
import Derived.Test.YtgloajbgphcloaaGreatDr
import Derived.Test.YtgloajbgphcloaaGreatBtM
import Derived.RangeFuncNested
import Derived.RangeFuncLeaves
import Derived.Test.YtgloajbgphcloaaGreatRg
import Derived.Deep.CutRange
import Derived.Maps.OwnSet
import Derived.Maps.Views
import Derived.Maps.OwnOps
import Derived.DeepKeys4
namespace Go.Proofs.YtgloajbgphcloaaGreat.Ln
set_option linter.unusedVariables false
set_option linter.unusedSimpArgs false
open Go.RowKit Go.Shelf
open Ext renaming alloc → Qb, drew → Qc, refl → Qa, setCell → Qd, trans → Qe
attribute [local go_sem] Oper.semAt_some
theorem below_any (s:St) (bs:Nat) (w0 w:World) (hE:Ext w0 w) (hb:Blk w0 bs #[.int .i64 s.tanks,.int .i64 s.lens,.int .i64 s.lack] 172) (x:Int) :
  Calls Tryz.prog 230 (#[.int .i64 x]++#[.pointer (some ⟨bs,0,none⟩)]) w fun e w'=>e= .returned (.bool (decide (s.lens<x)))∧Ext w w':=by
 have hb2:=hb.ext hE
 have k0:=hb2.cell
 have k1:=hb2.lt
 go_enter Tryz.func230,Tryz.ntmps230
 go_wp2
 go_ret
 exact⟨rfl,Qa _⟩
def ruleOf (i:Islet) (s:St):Int:=if 0<s.lack then 0 else if i.wells.any (fun x=>decide (s.lens<x))then 1 else 2
theorem rule_two (i:Islet) (s:St):(ruleOf i s=2)↔wrongB i s=false:=by
 unfold ruleOf wrongB
 by_cases h:0<s.lack
 ·simp[h]
 ·by_cases h2:i.wells.any (fun x=>decide (s.lens<x))=true<;>simp[h,h2]
set_option maxRecDepth 100000 in
set_option maxHeartbeats 4000000 in
theorem wrong_any (i:Islet) (vw vm:Value) (s:St) (w:World) (hW:Ints w vw i.wells) (hvm:IsSlice vm) (hn:i.wells.length≤1000000) :
  Calls Tryz.prog 196 #[.agg (islV i vw vm),.agg #[.int .i64 s.tanks,.int .i64 s.lens,.int .i64 s.lack]] w fun e w'=>∃x:Int,e= .returned (.tuple #[.int .i64 (ruleOf i s),.int .i64 x])∧Ext w w':=by
 obtain⟨am,nm,km,rfl⟩:=hvm
 have hW':=hW
 obtain⟨aw,cw,rfl,_⟩:=hW'
 obtain⟨R,hR⟩:∃R,ruleOf i s=R:=⟨_,rfl⟩
 unfold ruleOf at hR
 have HIX:=Lib.hid (fun(w1:World) (h:Ext w w1) (hb:Blk w1 (w.heap.size+1) #[.int .i64 s.tanks,.int .i64 s.lens,.int .i64 s.lack] 172)=>indexInts 230 #[.pointer (some ⟨w.heap.size+1,0,none⟩)] (fun x=>decide (s.lens<x)) _ i.wells w1 (hW.ext h) hn (enters_of Tryz.func230 (by kernel_rfl) rfl) (fun x w' hE=>below_any s _ w1 w' hE hb x))
 have hR2:ruleOf i s=R:=hR
 rw[hR2]
 clear hR2
 by_cases hl:0<s.lack
 ·rw[if_pos hl]at hR
  subst hR
  go_enter Tryz.func196,Tryz.ntmps196
  go_wp2
  go_ret2
  exact⟨_,rfl,by(with_reducible(repeat(first|exact Qa _|assumption|apply Qb|apply Qc|exact ext_plus _ _|(apply Qd;rotate_left;(simp<;>omega))|(apply Qe;rotate_left;exact ext_plus _ _)|(apply Qe;rotate_left;assumption))))⟩
 ·rw[if_neg hl]at hR
  obtain⟨B,hB⟩:∃B,i.wells.any (fun x=>decide (s.lens<x))=B:=⟨_,rfl⟩
  rw[hB]at hR
  have HR:=Lib.hid hR
  have HBB:=Lib.hid hB
  clear hR hB
  go_enter Tryz.func196,Tryz.ntmps196
  go_wp2_with (first|(go_at_call 203;refine(HIX.out _ (by(with_reducible(repeat(first|exact Qa _|assumption|apply Qb|apply Qc|exact ext_plus _ _|(apply Qd;rotate_left;(simp<;>omega))|(apply Qe;rotate_left;exact ext_plus _ _)|(apply Qe;rotate_left;assumption))))) (Blk.new' (by simp) _ _)).mono ?_;rintro e w' ⟨k,rfl,hk,hE'⟩;rw[HBB.out]at hk))
  all_goals
   go_ret2
   have h:=HR.out
   have hEE:Ext w w':=by(with_reducible(repeat(first|exact Qa _|assumption|apply Qb|apply Qc|exact ext_plus _ _|(apply Qd;rotate_left;(simp<;>omega))|(apply Qe;rotate_left;exact ext_plus _ _)|(apply Qe;rotate_left;assumption))))
   clear HIX HBB HR hE' hk
   first
    | (rename B=true=>h9;rw[if_pos h9]at h;subst h;exact⟨k,rfl,hEE⟩)
    | (rename B=false=>h9;rw[if_neg (by rw[h9];decide)]at h;subst h;exact⟨0,rfl,hEE⟩)
theorem droughts_any (i:Islet) (vw vm:Value) (w:World) (hvw:IsSlice vw) (hvm:IsSlice vm) :
  Calls Tryz.prog 194 #[.agg (islV i vw vm)] w fun e w'=>e= .returned (.func (.func 228) #[] #[.pointer (some ⟨w.heap.size,0,none⟩)])∧Blk w' w.heap.size (islV i vw vm) 52∧Ext w w':=by
 obtain⟨aw,nw,kw,rfl⟩:=hvw
 obtain⟨am,nm,km,rfl⟩:=hvm
 go_enter Tryz.func194,Tryz.ntmps194
 go_wp2
 go_ret
 exact⟨rfl,Blk.new' (by simp) _ _,by(with_reducible(repeat(first|exact Qa _|assumption|apply Qb|apply Qc|exact ext_plus _ _|(apply Qd;rotate_left;(simp<;>omega))|(apply Qe;rotate_left;exact ext_plus _ _)|(apply Qe;rotate_left;assumption))))⟩
structure Dr (i:Islet) where
 b:Nat
 d:List Bool
 h:d∈droughts i
def encD {i:Islet} (x:Dr i):Array Value:=#[.slice (some ⟨x.b,0,none⟩) i.months.length i.months.length]
def drTo (i:Islet) (N k:Nat):List (List Bool):=((List.range k).map (dryOf N)).filter (possible i)
theorem drTo_succ (i:Islet) (N k:Nat):drTo i N (k+1)=drTo i N k++if possible i (dryOf N k)then [dryOf N k]else []:=by
 unfold drTo;rw[List.range_succ,List.map_append,List.filter_append];by_cases h:possible i (dryOf N k)=true<;>simp[h]
theorem drTo_all (i:Islet):drTo i i.months.length (2^i.months.length)=droughts i:=rfl
theorem drTo_pre (i:Islet) (N:Nat) {k m:Nat} (h:k≤m):drTo i N k <+: drTo i N m:=by
 unfold drTo
 refine List.IsPrefix.filter _ (List.IsPrefix.map _ ?_)
 refine⟨List.range' k (m - k),?_⟩
 rw[List.range_eq_range',List.range_eq_range']
 have h2:=List.range'_append_1 (s:=0) (m:=k) (n:=m - k)
 rw[Nat.zero_add]at h2
 rw[h2]
 congr 1;omega
end Go.Proofs.YtgloajbgphcloaaGreat.Ln
namespace Go.Proofs.YtgloajbgphcloaaGreat.Ln
set_option linter.unusedVariables false
set_option linter.unusedSimpArgs false
open Go.RowKit Go.Shelf
open Lib renaming hid → Qf
attribute [local go_sem] Oper.semAt_some
abbrev BRow (w:World) (g:Nat) (xs:List Bool):Prop:=RowB boolC 1 4 w g xs
theorem BRow.set {w:World} {g:Nat} {xs:List Bool} (h:BRow w g xs) (i:Nat) (hi:i<xs.length) (n:Bool):BRow (w.setCell ⟨g,i,none⟩ (.bool n)) g (xs.set i n):=by
 obtain⟨cs,hB,hc⟩:=h
 refine⟨_,hB.set i _,fun k hk j u hu=> ?_⟩
 have hk':k<xs.length:=by simpa using hk
 rw[List.getElem_set]at hu
 have h1:=hc k hk' 0 (.bool xs[k]) rfl
 simp only[Nat.mul_one,Nat.add_zero]at h1
 cases j with
 | succ j=>simp[boolC]at hu
 | zero =>
  rw[Nat.mul_one,Nat.add_zero]
  by_cases e:i=k
  ·subst e
   rw[if_pos rfl]at hu
   obtain⟨hsz,_⟩:=Array.getElem?_eq_some_iff.1 h1
   simp[boolC]at hu
   simp[Array.getElem?_setIfInBounds,hsz,hu]
  ·rw[if_neg e]at hu
   rw[Array.getElem?_setIfInBounds,if_neg e,h1]
   simpa[boolC]using hu
theorem BRow.bools {w:World} {g:Nat} {xs:List Bool} (h:BRow w g xs) {n:Nat} (hn:n=xs.length) (cap:Nat):Bools w (.slice (some ⟨g,0,none⟩) n cap) xs:=by
 subst hn;exact RowB.sls h cap
theorem bool_info:(Tryz.prog.info? 4).map (fun i=>(i.zero,i.size,i.bytes))=some (some (.bool false),1,1):=by kernel_rfl
theorem make_bools (n:Nat) (hn:n≤1000000):∃cs:Array Value,(∀ w,(Instr.makeSlice 56 (.int .i64 (n:Int)) (.int .i64 (n:Int))).run Tryz.prog w= .ok (.slice (some ⟨w.heap.size,0,none⟩) n n) (w.alloc (.cells cs 4)))∧∀i,i<n→cs[i]? =some (.bool false):=by
 obtain⟨i0,hi,hz0,hz1,hz2⟩:=info_parts bool_info
 have h:=fun w=>run_make (P:=Tryz.prog) w 56 4 i0 (.bool false) Tryz.underlying56 hi hz0 .i64 .i64 n n (by omega) (Int.le_refl _) (by rw[hz2];omega) (by omega)
 simp only[hz1,Int.toNat_natCast]at h
 refine⟨_,h,fun i hi=> ?_⟩
 unfold madeCells
 simp only[Array.getElem?_map]
 rw[Array.getElem?_range,if_pos (by omega)]
 simp[Value.cells,Nat.mod_one]
def dryTo (N x m:Nat):List Bool:=(List.range N).map fun j=>decide (j<m)&&x.testBit (N - 1 - j)
theorem dryTo_len (N x m:Nat):(dryTo N x m).length=N:=by simp[dryTo]
theorem dryTo_zero (N x:Nat):dryTo N x 0=List.replicate N false:=by
 apply List.ext_getElem
 ·simp[dryTo]
 ·intro i h1 h2;simp[dryTo]
theorem dryTo_set (N x m:Nat) (hm:m<N):(dryTo N x m).set m (x.testBit (N - 1 - m))=dryTo N x (m+1):=by
 apply List.ext_getElem
 ·simp[dryTo]
 ·intro i h1 h2
  rw[List.getElem_set]
  by_cases e:m=i
  ·subst e;simp[dryTo]
  ·rw[if_neg e]
   simp only[dryTo,List.getElem_map,List.getElem_range]
   congr 1
   by_cases h:i<m
   ·simp[h,show i<m+1 by omega]
   ·simp[h,show ¬i<m+1 by omega]
theorem dryTo_all (N x:Nat):dryTo N x N=dryOf N x:=by
 apply List.ext_getElem
 ·simp[dryTo,dryOf]
 ·intro i h1 h2
  have hi:i<N:=by simpa[dryTo]using h1
  simp[dryTo,dryOf,hi,Nat.testBit_eq_decide_div_mod_eq]
set_option maxRecDepth 100000 in
set_option maxHeartbeats 8000000 in
theorem droughts_arg (i:Islet) (aw:Option Addr) (nw kw:Nat) (am:Option Addr) (cm:Nat) (O:Ok i) (w0 w1:World) (bx n:Nat) (hn1:1≤n) :
  SeqArg Fence.wide n Tryz.prog 228 #[.pointer (some ⟨bx,0,none⟩)] (fun W=>Blk W bx (islV i (.slice aw nw kw) (.slice am i.months.length cm)) 52∧Ext w0 W)
   (fun k e W=>∃b d,(droughts i)[k]? =some d∧e=#[.slice (some ⟨b,0,none⟩) i.months.length i.months.length]∧BRow W b d) (droughts i).length w1:=by
 intro l J Jx W hW hInv hJ hY h0
 obtain⟨N,hNN⟩:∃N:Nat,i.months.length=N:=⟨_,rfl⟩
 have hN8:N≤8:=by have:=O.n;omega
 have hN1:1≤N:=by have:=O.n;omega
 have hall:drTo i N (2^N)=droughts i:=by rw[← hNN];exact drTo_all i
 have HALL:=Qf hall
 have HO:=Qf O
 obtain⟨hB0,_⟩:=hInv 0 W h0
 rw[hNN]at hInv hY hB0
 have hp:2^N≤2^8:=Nat.pow_le_pow_right (by decide) hN8
 have HY:=Qf hY
 have HINV:=Qf hInv
 have HJ:=Qf hJ
 have HNN:=Qf hNN
 have HMK:=Qf (make_bools N (by omega))
 clear hY hInv hJ hNN hall O
 have k0:=hB0.cell
 have k1:=hB0.lt
 refine callsIn_of_wp Tryz.func228 rfl trivial ?_ rfl
 simp only[Tryz.ntmps228,List.size_toArray,List.length_cons,List.length_nil,Nat.reduceAdd,Nat.reduceSub,Array.replicate_succ,Array.replicate_zero,List.push_toArray,List.append_toArray,List.nil_append,List.cons_append]
 gi_wp2
 obtain⟨Q,hQ⟩:∃Q:Nat,2^N=Q:=⟨_,rfl⟩
 have hpw:wrap64 ((2:Int)^N)=(Q:Int):=by
  have e:((2:Int)^N)=((2^N:Nat):Int):=pow_nat N
  rw[e,hQ]
  rw[hQ]at hp
  exact IntWalk.wrap64_in (Q:Int) ⟨by omega,by omega⟩
 rw[hpw]
 rw[hQ]at hp
 have HQ:=Qf hQ
 clear hpw hQ k0 k1
 gi_loopw [12] (fun i' wr=>∃k:Nat,k≤Q∧i'= .int .i64 k∧J (drTo i N k).length wr) (fun i' _=>Q - (intOf i').toNat)
 case atStart=>exact⟨0,Nat.zero_le _,rfl,h0⟩
 case round =>
  rename World=>wr
  obtain⟨k,hk,rfl,hJk⟩:=hrel
  obtain⟨hBk,hEk⟩:=HINV.out _ _ hJk
  by_cases hlt:k<Q
  ·have k0:=hBk.cell
   have k1:=hBk.lt
   obtain⟨cs,hmk,hcs⟩:=HMK.out
   have HCS:=Qf hcs
   clear hcs
   gi_wp2
   obtain⟨b,hbb⟩:∃b,wr.heap.size=b:=⟨_,rfl⟩
   obtain⟨wa,hwa⟩:∃y,wr.alloc (.cells cs 4)=y:=⟨_,rfl⟩
   have hR0:BRow wa b (dryTo N k 0):=by
    rw[dryTo_zero]
    refine⟨cs,by rw[← hwa];exact Blk.new' hbb.symm _ _,fun j hj u v hv=> ?_⟩
    have hj':j<N:=by simpa using hj
    cases u with
    | zero =>
     simp only[boolC,List.getElem_replicate,List.getElem?_cons_zero,Option.some.injEq]at hv
     subst hv
     simpa using HCS.out j hj'
    | succ u=>simp[boolC]at hv
   have hEa:Ext wr wa:=by rw[← hwa];(with_reducible(repeat(first|exact Ext.refl _|assumption|apply Ext.alloc|apply Ext.drew|exact ext_plus _ _|(apply Ext.setCell;rotate_left;(simp<;>omega))|(apply Ext.trans;rotate_left;exact ext_plus _ _)|(apply Ext.trans;rotate_left;assumption))))
   rw[hwa,hbb]
   clear hwa hmk k0 k1
   gi_loopw [18] (fun i' wy=>∃m:Nat,m≤N∧i'= .int .i64 m∧BRow wy b (dryTo N k m)∧Off b wa wy) (fun i' _=>N - (intOf i').toNat)
   case atStart=>exact⟨0,Nat.zero_le _,rfl,hR0,Off.refl _ _⟩
   case round =>
    rename World=>wy
    obtain⟨m,hm,rfl,hR,hO⟩:=hrel
    by_cases hml:m<N
    ·obtain⟨E,hE⟩:∃E:Nat,N - 1 - m=E:=⟨_,rfl⟩
     have hEI:(N:Int) - 1 - (m:Int)=(E:Int):=by omega
     have hbit:=has_nat (s:=k) (by omega) E
     have hst:=dryTo_set N k m hml
     rw[hE]at hst
     have hml2:m<(dryTo N k m).length:=by rw[dryTo_len];exact hml
     have hRs:=hR.set m hml2 (k.testBit E)
     rw[hst]at hRs
     have c0:=hR.cell m hml2 0 _ rfl
     simp only[Nat.mul_one,Nat.add_zero]at c0
     have c1:=hR.free
     have c2:=hR.lt
     clear hst hE
     obtain⟨B,hB⟩:∃B,k.testBit E=B:=⟨_,rfl⟩
     rw[hB]at hbit hRs
     clear hB
     cases B with
     | true =>
      have hbit':bits .and .i64 ((k:Int)/2^E) 1=1:=hbit
      clear hbit
      gi_wp2
      go_roundw
      case rel=>exact⟨m+1,by omega,by go_num,hRs,hO.set (a:=⟨b,m,none⟩) (.inl rfl) _⟩
      case measure=>simp[intOf];omega
     | false =>
      have hbit':bits .and .i64 ((k:Int)/2^E) 1=0:=hbit
      clear hbit
      gi_wp2
      go_roundw
      case rel=>exact⟨m+1,by omega,by go_num,hRs,hO.set (a:=⟨b,m,none⟩) (.inl rfl) _⟩
      case measure=>simp[intOf];omega
    ·obtain rfl:m=N:=by omega
     rw[dryTo_all]at hR
     have hEy:Ext wr wy:=hO.ext0 hEa (by omega)
     have hEy0:=hEk.trans hEy
     have hBy:=hBk.ext hEy
     have k0:=hBy.cell
     have k1:=hBy.lt
     have hD:Bools wy (.slice (some ⟨b,0,none⟩) m m) (dryOf m k):=hR.bools (dryOf_len m k).symm m
     have HPO:=Qf (possible_any i (.slice aw nw kw) (.slice am m cm) (.slice (some ⟨b,0,none⟩) m m) (dryOf m k) wy ⟨_,_,_,rfl⟩ ⟨_,_,_,rfl⟩ hD (by rw[dryOf_len];omega))
     have hsu:=drTo_succ i m k
     have HR:=Qf hR
     have HWB:=Qf hbb
     clear hD hR hbb
     obtain⟨B,hB⟩:∃B,possible i (dryOf m k)=B:=⟨_,rfl⟩
     have hPO:=HPO.out
     rw[hB]at hsu hPO
     have HPO2:=Qf hPO
     have HSU:=Qf hsu
     have HBB:=Qf hB
     clear HPO hPO hsu hB
     cases B with
     | false =>
      gi_wp2_with (first|(refine⟨trivial,?_⟩;gi_at_call 144;refine(callsIn_wide.2 HPO2.out).mono ?_;rintro e wz ⟨rfl,hEz⟩))
      refine⟨fun _ h=>(by cases h),?_⟩
      gi_wp2
      go_roundw
      case rel=>exact⟨k+1,by omega,by go_num,by rw[HSU.out];simpa using HJ.out _ _ _ hJk (hEy.trans hEz)⟩
      case measure=>simp[intOf];omega
     | true =>
      have hpre:drTo i m (k+1) <+: droughts i:=by rw[← HALL.out,HQ.out];exact drTo_pre i m (by omega)
      have hlen:(drTo i m k).length<(droughts i).length:=by
       have h1:=hpre.length_le
       rw[HSU.out]at h1
       simp at h1;omega
      have hget:(droughts i)[(drTo i m k).length]? =some (dryOf m k):=by
       obtain⟨r,hr⟩:=hpre
       rw[← hr,HSU.out]
       simp
      have HGET:=Qf hget
      have HLEN:=Qf hlen
      clear hpre hlen hget
      gi_wp2_with (first|(refine⟨trivial,?_⟩;gi_at_call 144;refine(callsIn_wide.2 HPO2.out).mono ?_;rintro e wz ⟨rfl,hEz⟩;obtain⟨fn,tmps,assign,body,hy,hR⟩:=HY.out (drTo i m k).length #[.slice (some ⟨b,0,none⟩) m m] wz HLEN.out (HJ.out _ _ _ hJk (hEy.trans hEz)) ⟨b,_,HGET.out,rfl,HR.out.ext hEz⟩))
      refine hR.mono ?_
      rintro e W3 (⟨rfl,hJ3⟩|⟨rfl,hJx3⟩)
      ·gi_wp2
       go_roundw
       case rel=>exact⟨k+1,by omega,by go_num,by rw[HSU.out];simpa using hJ3⟩
       case measure=>simp[intOf];omega
      ·gi_wp2
       refine bodyPost_ret (results_none rfl _ _ _) rfl ?_
       exact⟨⟨_,rfl⟩,.inr hJx3⟩
  ·obtain rfl:k=Q:=by omega
   gi_wp2
   go_end0
   have e:drTo i N k=droughts i:=by rw[← HQ.out];exact HALL.out
   rw[e]at hJk
   exact⟨⟨_,rfl⟩,.inl hJk⟩
end Go.Proofs.YtgloajbgphcloaaGreat.Ln
namespace Go.Proofs.YtgloajbgphcloaaGreat.Ln
set_option linter.unusedVariables false
set_option linter.unusedSimpArgs false
open Go.RowKit Go.Shelf
open Act renaming put → Qi
open Blk renaming new' → Qg
open Ext renaming drew → Qc, refl → Qa
open KeepsOthers renaming setCell → Qp
open Lib renaming hid → Qf
open List renaming getElem_cons_succ → Ql, getElem_cons_zero → Qk, getElem_toArray → Qj, setIfInBounds_toArray → Qm, set_cons_succ → Qo, set_cons_zero → Qn
open Nat renaming le_refl → Qh
attribute [local go_sem] Oper.semAt_some
def OnRet (R:Act→World→Prop):Exit→Act→World→Prop
 | .ret,a,w=>R a w
 | _,_,_=>False
theorem wp_scope_ret {P:Program} {c:Code} {Q:Exit→Act→World→Prop} {a:Act} {w:World} (h:∀R:Act→World→Prop,(∀ a w,Q .ret a w→R a w)→c.wp P (OnRet R) a w):(Code.scope c).wp P Q a w:=by
 refine wp_scope_straight (Code.wp_mono ?_ (h (fun a w=>Q .ret a w) fun _ _ q=>q))
 intro e a w hq
 cases e<;>first|exact hq|exact hq.elim
theorem FolAt.kept {A B:World} {row:Option Nat} {br:Nat} {i:Islet} {vw vm:Value} {t:Truth} {vd vr vn:Value} {hold now:Int} {s:St} (h:FolAt A br i vw vm t vd vr vn hold now s) (hg:A.grownBy B row) (hr:∀r,row=some r→∃o:Obj,A.heap[r]? =some o∧o.isCells=false):FolAt B br i vw vm t vd vr vn hold now s:=by
 obtain⟨l,h⟩:=h
 exact⟨l,h.kept hg hr⟩
theorem ownFrom_others {β:Type} {B:Nat} {Y:World} (hB:Y.heap.size≤B):OwnFrom B (fun(_:β) W=>KeepsOthers Y W):=fun _ X Z row h hg hr =>
 ⟨Nat.le_trans h.size hg.size,fun k o hk hc=>by
  have hX:=h.same k o hk hc
  have h2:=(Array.getElem?_eq_some_iff.1 hk).1
  refine(hg.block k (Array.getElem?_eq_some_iff.1 hX).1 (fun e=> ?_)).trans hX
  have:=(hr k e.symm).1
  omega⟩
theorem others_off {br:Nat} {Y A B:World} (h:KeepsOthers Y A) (ho:Off br A B) (hb:Y.heap.size≤br):KeepsOthers Y B :=
 ⟨Nat.le_trans h.size ho.size,fun k o hk hc=>by
  have hX:=h.same k o hk hc
  have h2:=(Array.getElem?_eq_some_iff.1 hk).1
  exact(ho.block k (Array.getElem?_eq_some_iff.1 hX).1 (by omega)).trans hX⟩
theorem fault_set {W:World} {b:Nat} {v0 v1 v2 v3:Value} {e:TypeId} (h:Blk W b #[v0,v1,v2,v3] e) (u0 u1 u2 u3:Value):Blk ((((W.setCell ⟨b,0,none⟩ u0).setCell ⟨b,1,none⟩ u1).setCell ⟨b,2,none⟩ u2).setCell ⟨b,3,none⟩ u3) b #[u0,u1,u2,u3] e:=by
 simpa using(((h.set 0 u0).set 1 u1).set 2 u2).set 3 u3
theorem fineB_eq (i:Islet) (tanks:Int):fineB i tanks=(droughts i).all (dryFine i tanks):=rfl
theorem take_all {α:Type} {p:α→Bool} {l:List α} {k:Nat} {x:α} (h:(l.take k).all p=true) (hx:l[k]? =some x) (hp:p x=true):(l.take (k+1)).all p=true:=by
 obtain⟨hk,rfl⟩:=List.getElem?_eq_some_iff.1 hx
 rw[List.take_succ_eq_append_getElem hk,List.all_append,h];simp[hp]
theorem not_all {α:Type} {p:α→Bool} {l:List α} {k:Nat} {x:α} (hx:l[k]? =some x) (hp:p x=false):l.all p=false:=by
 rw[List.all_eq_false];exact⟨x,List.mem_of_getElem? hx,by rw[hp];decide⟩
theorem range_step {p:Nat→Bool} {k:Nat} (h:(List.range k).all p=true) (hp:p k=true):(List.range (k+1)).all p=true:=by
 rw[List.range_succ,List.all_append,h];simp[hp]
theorem range_bad {p:Nat→Bool} {k n:Nat} (hk:k<n) (h:p k=false):(List.range n).all p=false:=by
 rw[List.all_eq_false];exact⟨k,List.mem_range.2 hk,by rw[h];decide⟩
def AxF (n0 bx:Nat) (i:Islet) (TM:Nat→Nat→Array Value) (k:Nat) (_:Array Value) (a':Act) (W:World):Prop :=
 ∃b d bd,(droughts i)[k]? =some d∧BRow W b d∧Blk W bd #[.slice (some ⟨b,0,none⟩) i.months.length i.months.length] 56∧(bx<bd∧n0+1+1+1<bd)∧a'= { tmps:=TM b bd,defers:=[] }
theorem AxF.own (n0 bx B':Nat) (i:Islet) (TM:Nat→Nat→Array Value) (k:Nat) (e:Array Value):OwnFrom B' (AxF n0 bx i TM k e):=by
 rintro a' A Y row ⟨b,d,bd,h1,h2,h3,h4,h5⟩ hg hr
 have hr':=fun r e=>(hr r e).2
 obtain⟨cs,hB,hc⟩:=h2
 exact⟨b,d,bd,h1,⟨cs,hB.kept hg hr',hc⟩,h3.kept hg hr',h4,h5⟩
structure FBox (n0 bx:Nat) (i:Islet) (vw vm:Value) (tanks:Int) (W:World):Prop where
 a:Blk W n0 (islV i vw vm) 52
 b:Blk W (n0+1) #[.int .i64 tanks] 3
 c:Blk W (n0+1+1) #[.slice none 0 0,.int .i64 0,.int .i64 0,.int .i64 0] 249
 d:Blk W (n0+1+1+1) #[.slice none 0 0,.int .i64 0,.int .i64 1,.int .i64 0] 249
 e:Blk W bx (islV i vw vm) 52
theorem FBox.kept {n0 bx:Nat} {i:Islet} {vw vm:Value} {tanks:Int} {A B:World} {row:Option Nat} (h:FBox n0 bx i vw vm tanks A) (hg:A.grownBy B row) (hr:∀r,row=some r→∃o:Obj,A.heap[r]? =some o∧o.isCells=false):FBox n0 bx i vw vm tanks B :=
 ⟨h.a.kept hg hr,h.b.kept hg hr,h.c.kept hg hr,h.d.kept hg hr,h.e.kept hg hr⟩
theorem FBox.ext {n0 bx:Nat} {i:Islet} {vw vm:Value} {tanks:Int} {A B:World} (h:FBox n0 bx i vw vm tanks A) (hE:Ext A B):FBox n0 bx i vw vm tanks B :=
 ⟨h.a.ext hE,h.b.ext hE,h.c.ext hE,h.d.ext hE,h.e.ext hE⟩
theorem FBox.off {n0 bx:Nat} {i:Islet} {vw vm:Value} {tanks:Int} {A B:World} {br:Nat} (h:FBox n0 bx i vw vm tanks A) (ho:Off br A B) (h1:n0+1+1+1<br) (h2:bx<br):FBox n0 bx i vw vm tanks B :=
 ⟨h.a.off ho (by omega),h.b.off ho (by omega),h.c.off ho (by omega),h.d.off ho (by omega),h.e.off ho (by omega)⟩
def AxM (n0 bx br bd:Nat) (i:Islet) (H:Int) (t:Truth) (TM:Nat→Nat→Array Value) (k:Nat) (a':Act) (W:World):Prop :=
 ∃bs,Blk W bs #[.int .i64 (stateAt i H t (k+1)).tanks,.int .i64 (stateAt i H t (k+1)).lens,.int .i64 (stateAt i H t (k+1)).lack] 172∧(bx<bs∧n0+1+1+1<bs∧br<bs∧bd<bs)∧a'= { tmps:=TM k bs,defers:=[] }
theorem AxM.own (n0 bx br bd:Nat) (i:Islet) (H:Int) (t:Truth) (B':Nat) (TM:Nat→Nat→Array Value):∀k,OwnFrom B' (AxM n0 bx br bd i H t TM k):=by
 rintro k a' A Y row ⟨bs,h1,h2,h3⟩ hg hr
 exact⟨bs,h1.kept hg (fun r e=>(hr r e).2),h2,h3⟩
def FDone (n0:Nat) (i:Islet) (tanks:Int) (W:World):Prop :=
 fineB i tanks=false∧Blk W (n0+1+1) #[.slice none 0 0,.int .i64 0,.int .i64 0,.int .i64 0] 249∧∃a n k m r x,r≠1∧Blk W (n0+1+1+1) #[.slice a n k,.int .i64 m,.int .i64 r,.int .i64 x] 249
set_option maxRecDepth 100000 in
set_option maxHeartbeats 16000000 in
theorem fault_any (i:Islet) (vw vm:Value) (tanks:Int) (w:World) (hW:Ints w vw i.wells) (hM:Months w vm i.months) (O:Ok i) (h0:0≤tanks) (h1:tanks≤40) :
  Calls Tryz.prog 123 #[.agg (islV i vw vm),.int .i64 tanks] w fun e w'=>∃a n k m r x,e= .returned (.agg #[.slice a n k,.int .i64 m,.int .i64 r,.int .i64 x])∧decide (r=1)=fineB i tanks∧Ext w w':=by
 have hW':=hW
 have hM':=hM
 obtain⟨aw,kw,rfl,_⟩:=hW'
 obtain⟨am,cm,rfl,_⟩:=hM'
 have hwn:=O.wells
 have hmn:=O.n
 have HDR:=Qf (fun w'=>droughts_any i (.slice aw i.wells.length kw) (.slice am i.months.length cm) w' ⟨_,_,_,rfl⟩ ⟨_,_,_,rfl⟩)
 have HEN:=Qf (fun(w':World) (b:Nat) (d:List Bool) (hE:Ext w w') (hd:BRow w' b d) (hl:d.length=i.months.length)=>end_any i (.slice aw i.wells.length kw) (.slice am i.months.length cm) (.slice (some ⟨b,0,none⟩) i.months.length i.months.length) d w' ⟨_,_,_,rfl⟩ (hM.ext hE) (hd.bools hl.symm _) (by omega) hl)
 have HFO:=Qf (fun(w':World) (t:Truth) (b:Nat) (vr vn:Value) (hr:IsSlice vr) (hn:IsSlice vn)=>follow_any i (.slice aw i.wells.length kw) (.slice am i.months.length cm) tanks t (.slice (some ⟨b,0,none⟩) i.months.length i.months.length) vr vn w' O h0 h1 ⟨_,_,_,rfl⟩ ⟨_,_,_,rfl⟩ ⟨_,_,_,rfl⟩ hr hn)
 have HWR:=Qf (fun(w':World) (s:St) (hE:Ext w w')=>wrong_any i (.slice aw i.wells.length kw) (.slice am i.months.length cm) s w' (hW.ext hE) ⟨_,_,_,rfl⟩ (by omega))
 have hsz:=mul_bd h0 h1 O.size.1 O.size.2
 have HO:=Qf O
 have HSZ:=Qf hsz
 clear hwn hmn hsz O
 refine(callsIn_wide (n:=7)).1 ?_
 refine callsIn_of_wp_marks Tryz.func123 rfl trivial ?_ rfl
 simp only[Tryz.ntmps123,List.size_toArray,List.length_cons,List.length_nil,Nat.reduceAdd,Nat.reduceSub,Array.replicate_succ,Array.replicate_zero,List.push_toArray,List.append_toArray,List.nil_append,List.cons_append]
 refine wpIn_wide.2 ?_
 go_wp2
 refine wp_scope_ret fun RR hR'=> ?_
 go_wp2
 go_step3
 go_upto_region 2 with(fail)
 obtain⟨n0,hn0⟩:∃n,w.heap.size=n:=⟨_,rfl⟩
 obtain⟨w1,hw1⟩:∃y,(((w.alloc (.cells (islV i (.slice aw i.wells.length kw) (.slice am i.months.length cm)) 52)).alloc (.cells #[.int .i64 tanks] 3)).alloc (.cells #[.slice none 0 0,.int .i64 0,.int .i64 0,.int .i64 0] 249)).alloc (.cells #[.slice none 0 0,.int .i64 0,.int .i64 1,.int .i64 0] 249)=y:=⟨_,rfl⟩
 have s0:Blk w1 n0 (islV i (.slice aw i.wells.length kw) (.slice am i.months.length cm)) 52:=by rw[← hw1];exact(((Qg hn0.symm _ _).alloc _).alloc _).alloc _
 have s1:Blk w1 (n0+1) #[.int .i64 tanks] 3:=by rw[← hw1];exact((Qg (by simp[hn0]) _ _).alloc _).alloc _
 have s2:Blk w1 (n0+1+1) #[.slice none 0 0,.int .i64 0,.int .i64 0,.int .i64 0] 249:=by rw[← hw1];exact(Qg (by simp[hn0]) _ _).alloc _
 have s3:Blk w1 (n0+1+1+1) #[.slice none 0 0,.int .i64 0,.int .i64 1,.int .i64 0] 249:=by rw[← hw1];exact Qg (by simp[hn0]) _ _
 have hE1:Ext w w1:=by rw[← hw1];(with_reducible(repeat(first|exact Qa _|assumption|apply Ext.alloc|apply Qc|exact ext_plus _ _|(apply Ext.setCell;rotate_left;(simp<;>omega))|(apply Ext.trans;rotate_left;exact ext_plus _ _)|(apply Ext.trans;rotate_left;assumption))))
 rw[hw1,hn0]
 clear hw1
 have k0:=s0.cell
 have k1:=s0.lt
 have q1:=s3.lt
 obtain⟨bx,hbx⟩:∃b,w1.heap.size=b:=⟨_,rfl⟩
 go_wp2_with (first|(go_at_call 194;refine(HDR.out _).mono ?_;rintro e w2 ⟨rfl,s4,hb⟩))
 rw[hbx]at s4 q1
 have hF2:FBox n0 bx i (.slice aw i.wells.length kw) (.slice am i.months.length cm) tanks w2:=⟨s0.ext hb,s1.ext hb,s2.ext hb,s3.ext hb,s4⟩
 have hE2:=hE1.trans hb
 have hn0':w.heap.size=n0:=hn0
 have hz2:=s4.lt
 have HN0:=Qf hn0
 clear s0 s1 s2 s3 s4 k0 k1 hb hE1 hbx hn0 hn0'
 refine(wpIn_wide (n:=7)).1 ?_
 refine' wpIn_range_arg rfl (by omega) (gf:=228) rfl trivial (enters_of Tryz.func228 (by kernel_rfl) rfl)
  (droughts_arg i aw i.wells.length kw am cm HO.out w w2 bx 6 (by omega)) (by rintro k e W ⟨b,d,_,rfl,_⟩;rfl)
  (by rintro k e ⟨⟩ A Y row ⟨b,d,h1,h2,h3⟩ hg hr;obtain⟨cs,hB,hc⟩:=h3;exact⟨b,d,h1,h2,cs,hB.kept hg (fun r e=>(hr r e).2),hc⟩)
  (fun k Y=>(((droughts i).take k).all (dryFine i tanks)=true∧FBox n0 bx i (.slice aw i.wells.length kw) (.slice am i.months.length cm) tanks Y)∧Ext w Y)
  (fun cd Y=>(cd= .exit 0∧FDone n0 i tanks Y)∧Ext w Y)
  ?own ?ownx ?ext (fun _ _ h=>⟨h.1.2.e,h.2⟩) ⟨⟨rfl,hF2⟩,hE2⟩
  (AxF n0 bx i _) (fun k e=>AxF.own _ _ _ _ _ _ _) ?assign ?body ?done ?stop
 case own =>
  refine OwnFrom.and (fun k A B row h hg hr=> ?_) (ownFrom_below (Qh _) hE2.size)
  exact⟨h.1,h.2.kept hg (fun r e=>(hr r e).2)⟩
 case ownx =>
  refine OwnFrom.and (fun cd A B row h hg hr=> ?_) (ownFrom_below (Qh _) hE2.size)
  obtain⟨rfl,h1,h2,a,n,k,m,r,x,h3,h4⟩:=h
  have hr':=fun r e=>(hr r e).2
  exact⟨rfl,h1,h2.kept hg hr',a,n,k,m,r,x,h3,h4.kept hg hr'⟩
 case ext =>
  rintro k A B ⟨⟨h1,h2⟩,h3⟩ hE
  exact⟨⟨h1,h2.ext hE⟩,h3.trans hE⟩
 case assign =>
  rintro l k e W K hk ⟨⟨h1,h2⟩,h3⟩ ⟨b,d,h4,rfl,h5⟩ hK
  have hzW:=h2.e.lt
  gi_wp2
  obtain⟨bd,hbd⟩:∃bd,W.heap.size=bd:=⟨_,rfl⟩
  have hEa:Ext W (W.alloc (.cells #[.slice (some ⟨b,0,none⟩) i.months.length i.months.length] 56)):=(Qa _).alloc _
  have hN:=Qg (w:=W) hbd.symm #[.slice (some ⟨b,0,none⟩) i.months.length i.months.length] 56
  rw[hbd]
  refine hK _ _ (KeepsFrom.of_grownBy (ext_grown hEa) (fun j e=>by cases e)) ⟨⟨h1,h2.ext hEa⟩,h3.trans hEa⟩ ⟨b,d,h4,rfl,h5.ext hEa⟩ ⟨b,d,bd,h4,h5.ext hEa,hN,?_,?_⟩
  ·have:=h2.d.lt;omega
  refine(Act.mk.injEq _ _ _ _).mpr ⟨?_,rfl⟩
  exact rfl
 case body =>
  rintro l k e a' W hl hrec hk ⟨⟨h1,h2⟩,h3⟩ _ ⟨b,d,bd,h4,h5,h6,⟨hbd1,hbd2⟩,rfl⟩
  have hdl:=droughts_len (List.mem_of_getElem? h4)
  have h2d:FBox n0 bx i (.slice aw i.wells.length kw) (.slice am i.months.length cm) tanks W.drew:=h2.ext (Qc (Qa _))
  have h6d:=h6.drew
  gi_wp2
  refine wpIn_region_lateN 6 (fun b' y=>b'=false→(∀ o,y.cell? ⟨n0,o,none⟩=(islV i (.slice aw i.wells.length kw) (.slice am i.months.length cm):Array Value)[o]?)∧(∀ o,y.cell? ⟨n0+1,o,none⟩=(#[.int .i64 tanks]:Array Value)[o]?)∧(∀ o,y.cell? ⟨bd,o,none⟩=(#[.slice (some ⟨b,0,none⟩) i.months.length i.months.length]:Array Value)[o]?)) (by kernel_rfl) (by kernel_rfl) (fun hL=> ?_)
  refine late_early (i:=0) (v:= ?_) rfl (by kernel_rfl) (by kernel_rfl) (by kernel_rfl) (by decide) (by kernel_rfl) (fun _ _ _ h=>h) hL (Or.inl ⟨by rfl,?_⟩) (fun _=>⟨h2d.a.cell,h2d.b.cell,h6d.cell⟩) (fun hL'=> ?_)
  rotate_left
  ·intro y hy;have hz:=hy rfl;clear hy;obtain⟨g1,g2,g3⟩:=hz;go_simp;(try with_reducible rfl)
  clear hL;rename Shutb _ _=>hL
  (try simp only[Qi,Qj,Qk,Ql,Qm,Qn,Qo])
  refine late_early (i:=1) (v:= ?_) rfl (by kernel_rfl) (by kernel_rfl) (by kernel_rfl) (by decide) (by kernel_rfl) (fun _ _ _ h=>h) hL (Or.inl ⟨by rfl,?_⟩) (fun _=>⟨h2d.a.cell,h2d.b.cell,h6d.cell⟩) (fun hL'=> ?_)
  rotate_left
  ·intro y hy;have hz:=hy rfl;clear hy;obtain⟨g1,g2,g3⟩:=hz;go_simp;(try with_reducible rfl)
  clear hL;rename Shutb _ _=>hL
  (try simp only[Qi,Qj,Qk,Ql,Qm,Qn,Qo])
  refine late_early (i:=2) (v:= ?_) rfl (by kernel_rfl) (by kernel_rfl) (by kernel_rfl) (by decide) (by kernel_rfl) (fun _ _ _ h=>h) hL (Or.inl ⟨by rfl,?_⟩) (fun _=>⟨h2d.a.cell,h2d.b.cell,h6d.cell⟩) (fun hL'=> ?_)
  rotate_left
  ·intro y hy;have hz:=hy rfl;clear hy;obtain⟨g1,g2,g3⟩:=hz;go_simp;(try with_reducible rfl)
  clear hL;rename Shutb _ _=>hL
  (try simp only[Qi,Qj,Qk,Ql,Qm,Qn,Qo])
  refine late_early (i:=3) (v:= ?_) rfl (by kernel_rfl) (by kernel_rfl) (by kernel_rfl) (by decide) (by kernel_rfl) (fun _ _ _ h=>h) hL (Or.inl ⟨by rfl,?_⟩) (fun _=>⟨h2d.a.cell,h2d.b.cell,h6d.cell⟩) (fun hL'=> ?_)
  rotate_left
  ·intro y hy;have hz:=hy rfl;clear hy;obtain⟨g1,g2,g3⟩:=hz;go_simp;(try with_reducible rfl)
  clear hL;rename Shutb _ _=>hL
  (try simp only[Qi,Qj,Qk,Ql,Qm,Qn,Qo])
  refine late_one (i:=4) (by kernel_rfl) hL (fun hL'=> ?_)
  refine wpOp_step rfl (fun KK hK0=> ?_)
  have hK:Shut _:=hK0
  clear hK0
  go_simp
  go_wp2_with (first|(go_at_call 195;refine(HEN.out _ b d (h3.drew) (h5.ext (Qc (Qa _))) hdl).mono ?_;rintro e w4 ⟨vr,vn,rfl,hvr,hvn,hE4⟩))
  have hE4':Ext W w4:=Ext.trans (Qc (Qa _)) hE4
  have h24:=h2.ext hE4'
  have h64:=h6.ext hE4'
  have hvr':=hvr
  have hvn':=hvn
  obtain⟨a7,k7,rfl,_⟩:=hvr'
  obtain⟨a8,k8,rfl,_⟩:=hvn'
  refine hK.out _ _ ⟨fun _=>⟨h24.a.cell,h24.b.cell,h64.cell⟩,?_⟩
  clear hK KK;clear hL;rename Shutb _ _=>hL
  (try simp only[Qi,Qj,Qk,Ql,Qm,Qn,Qo])
  refine late_one (i:=5) (by kernel_rfl) hL (fun hL'=> ?_)
  refine wpOp_step rfl (fun KK hK0=> ?_)
  have hK:Shut _:=hK0
  clear hK0
  go_simp
  go_wp2_with (first|(go_at_call 74;refine(HFO.out _ (endT i d) b _ _ ⟨_,_,_,rfl⟩ ⟨_,_,_,rfl⟩).mono ?_;rintro e w5 ⟨br,rfl,hbr,hFol,hE5⟩))
  have h25:=h24.ext hE5
  have h65:=h64.ext hE5
  refine hK.out _ _ ⟨fun _=>⟨h25.a.cell,h25.b.cell,h65.cell⟩,?_⟩
  clear hK KK;clear hL;rename Shutb _ _=>hL
  (try simp only[Qi,Qj,Qk,Ql,Qm,Qn,Qo])
  refine late_one (i:=6) (by kernel_rfl) hL (fun hL'=> ?_)
  refine wpOp_step rfl (fun KK hK0=> ?_)
  have hK:Shut _:=hK0
  clear hK0
  go_simp
  refine hK.out _ _ ⟨fun e=>absurd (e:true=false) (by decide),?_⟩
  clear hK KK;clear hL;rename Shutb _ _=>hL
  (try simp only[Qi,Qj,Qk,Ql,Qm,Qn,Qo])
  refine late_done (by kernel_rfl) ?_
  (try dsimp only[Exit.then])
  gi_wp2
  have hEY5:Ext W w5:=hE4'.trans hE5
  have hEw4:Ext w w4:=h3.trans hE4'
  have hEw5:Ext w w5:=hEw4.trans hE5
  obtain⟨r0,hr0⟩:=hrec
  have hr5:w5.heap[l]? =some (.loop r0):=(hEY5.block l (Array.getElem?_eq_some_iff.1 hr0).1).trans hr0
  obtain⟨H,hH⟩:∃H,tanks*i.size=H:=⟨_,rfl⟩
  obtain⟨lf,hFolB⟩:=hFol
  have hbrl:=hFolB.lt
  have hFol:FolAt w5 br i (.slice aw i.wells.length kw) (.slice am i.months.length cm) (endT i d) (.slice (some ⟨b,0,none⟩) i.months.length i.months.length) (.slice a7 (endT i d).rains.length k7) (.slice a8 (endT i d).needs.length k8) H 0 ⟨H,(endT i d).start,0⟩:=⟨lf,by rw[← hH];exact hFolB⟩
  have hszH:=HSZ.out
  rw[hH]at hszH
  have hseq:=months_own i (.slice aw i.wells.length kw) am cm (endT i d) (.slice (some ⟨b,0,none⟩) i.months.length i.months.length) _ _ H br w4 w5 HO.out (trOk_end HO.out d) hszH.1 (by omega) hbr hvr hvn
  have hq1:=h24.e.lt
  have hq2:=h24.d.lt
  have hq3:=h64.lt
  have hWw4:=hE4'.size
  have HH:=Qf hH
  have H1:=Qf h1
  have H4:=Qf h4
  clear hFolB hvr hvn h24 h64 h2d h6d h2 h6 hE4 hr0 h1 h4 hH hszH h5
  refine' wpIn_range_ownN (l₀:=l) rfl hr5 (by omega) (gf:=75) (fst:=#[.pointer (some ⟨br,0,none⟩)]) rfl trivial (enters_of Tryz.func75 (by kernel_rfl) rfl)
   hseq (fun _=>rfl) (off_rec hbrl) ?iat ⟨hFol,hE5⟩
   (fun k Z=>(((List.range k).all (fun m=> !wrongB i (stateAt i H (endT i d) (m+1)))=true∧FBox n0 bx i (.slice aw i.wells.length kw) (.slice am i.months.length cm) tanks Z∧Blk Z bd #[.slice (some ⟨b,0,none⟩) i.months.length i.months.length] 56)∧Ext w Z)∧KeepsOthers W Z)
   (fun cd Z=>((cd= .exit 0∧FDone n0 i tanks Z)∧Ext w Z)∧KeepsOthers W Z)
   ?iown ?iownx ?irel ⟨⟨⟨rfl,h25,h65⟩,hEw5⟩,ext_others hEY5⟩ (AxM n0 bx br bd i H (endT i d) _) (AxM.own _ _ _ _ _ _ _ _ _) ?iassign ?ibody ?idone ?istop
  case iat =>
   exact OwnFrom.and (Own.from (fun _ _ _ _ hs hg hr=>hs.kept hg hr) _) (ownFrom_below (Qh _) hE5.size)
  case iown =>
   refine OwnFrom.and (OwnFrom.and (fun k A B row h hg hr=> ?_) (ownFrom_below (Qh _) hEw5.size)) (ownFrom_others hEY5.size)
   have hr':=fun r e=>(hr r e).2
   exact⟨h.1,h.2.1.kept hg hr',h.2.2.kept hg hr'⟩
  case iownx =>
   refine OwnFrom.and (OwnFrom.and (fun cd A B row h hg hr=> ?_) (ownFrom_below (Qh _) hEw5.size)) (ownFrom_others hEY5.size)
   obtain⟨rfl,g1,g2,a,n,k,m,r,x,g3,g4⟩:=h
   have hr':=fun r e=>(hr r e).2
   exact⟨rfl,g1,g2.kept hg hr',a,n,k,m,r,x,g3,g4.kept hg hr'⟩
  case irel =>
   rintro k A B ⟨⟨⟨g1,g2,g3⟩,g4⟩,g5⟩ ho
   exact⟨⟨⟨g1,g2.off ho (by omega) (by omega),g3.off ho (by omega)⟩,ho.ext0 g4 (by have:=hEw4.size;omega)⟩,others_off g5 ho (by omega)⟩
  case iassign =>
   rintro l' k Z K hk ⟨⟨⟨g1,g2,g3⟩,g4⟩,g5⟩ hA hK
   have hZ1:=g2.e.lt
   have hZ2:=g2.d.lt
   have hZ3:=g3.lt
   have hZ4:br<Z.heap.size:=by obtain⟨_,h⟩:=hA.1;exact h.lt
   simp only[monE]
   gi_wp2
   obtain⟨bs,hbs⟩:∃bs,Z.heap.size=bs:=⟨_,rfl⟩
   have hEa:Ext Z (Z.alloc (.cells #[.int .i64 (stateAt i H (endT i d) (k+1)).tanks,.int .i64 (stateAt i H (endT i d) (k+1)).lens,.int .i64 (stateAt i H (endT i d) (k+1)).lack] 172)):=(Qa _).alloc _
   have hN:=Qg (w:=Z) hbs.symm #[.int .i64 (stateAt i H (endT i d) (k+1)).tanks,.int .i64 (stateAt i H (endT i d) (k+1)).lens,.int .i64 (stateAt i H (endT i d) (k+1)).lack] 172
   rw[hbs]at hZ1 hZ2 hZ3 hZ4 ⊢
   refine hK _ _ (KeepsFrom.of_grownBy (ext_grown hEa) (fun j e=>by cases e)) ⟨⟨⟨g1,g2.ext hEa,g3.ext hEa⟩,g4.trans hEa⟩,g5.trans (ext_others hEa)⟩ ⟨hA.1.ext hEa,hA.2.trans hEa⟩ ⟨bs,hN,⟨hZ1,hZ2,hZ4,hZ3⟩,?_⟩
   refine(Act.mk.injEq _ _ _ _).mpr ⟨?_,rfl⟩
   exact rfl
  case ibody =>
   rintro l' k a' Z hl' hrec' hk ⟨⟨⟨g1,g2,g3⟩,g4⟩,g5⟩ hA ⟨bs,hbs,⟨hb1,hb2,hb3,hb4⟩,rfl⟩
   have G1:=Qf g1
   have hwr:=HWR.out Z (stateAt i H (endT i d) (k+1)) g4
   have hr2:=rule_two i (stateAt i H (endT i d) (k+1))
   obtain⟨s,hs⟩:∃s,stateAt i H (endT i d) (k+1)=s:=⟨_,rfl⟩
   rw[hs]at hbs hwr hr2
   have hrl:ruleOf i s=0∨ruleOf i s=1∨ruleOf i s=2:=by unfold ruleOf;split;exact .inl rfl;split;exact .inr (.inl rfl);exact .inr (.inr rfl)
   obtain⟨R,hR⟩:∃R,ruleOf i s=R:=⟨_,rfl⟩
   rw[hR]at hwr hr2 hrl
   have HWR2:=Qf hwr
   have HR2:=Qf hr2
   have HS:=Qf hs
   clear g1 hwr hr2 hs hR
   have k0:=g2.a.cell
   have k1:=g2.a.lt
   have k2:=hbs.cell
   have k3:=hbs.lt
   have k4:=g3.cell
   have k5:=g3.lt
   rcases hrl with rfl|rfl|rfl
   ·gi_wp2_with (first|(refine⟨trivial,?_⟩;gi_at_call 196;refine(callsIn_wide.2 HWR2.out).mono ?_;rintro e wz ⟨x,rfl,hEz⟩;have f2:=g2.ext hEz;have f3:=g3.ext hEz;have e0:=f2.d.lt;have e1:=f2.d.free;have e2:=f2.d.cell;have e3:=f3.cell;have e4:=f3.lt))
    obtain⟨w9,hw9⟩:∃y,((((wz.setCell ⟨n0+1+1+1,0,none⟩ (.slice (some ⟨b,0,none⟩) i.months.length i.months.length)).setCell ⟨n0+1+1+1,1,none⟩ (.int .i64 (k:Int))).setCell ⟨n0+1+1+1,2,none⟩ (.int .i64 2)).setCell ⟨n0+1+1+1,3,none⟩ (.int .i64 x))=y:=⟨_,rfl⟩
    have hD9:Blk w9 (n0+1+1+1) #[.slice (some ⟨b,0,none⟩) i.months.length i.months.length,.int .i64 (k:Int),.int .i64 2,.int .i64 x] 249:=by rw[← hw9];exact fault_set f2.d _ _ _ _
    have hC9:Blk w9 (n0+1+1) #[.slice none 0 0,.int .i64 0,.int .i64 0,.int .i64 0] 249:=by rw[← hw9];exact(((f2.c.other (by simp) _).other (by simp) _).other (by simp) _).other (by simp) _
    have hE9:Ext w w9:=by rw[← hw9];exact(((((g4.trans hEz).setCell (p:=⟨n0+1+1+1,0,none⟩) (by rw[HN0.out];simp;omega) _).setCell (p:=⟨n0+1+1+1,1,none⟩) (by rw[HN0.out];simp;omega) _).setCell (p:=⟨n0+1+1+1,2,none⟩) (by rw[HN0.out];simp;omega) _).setCell (p:=⟨n0+1+1+1,3,none⟩) (by rw[HN0.out];simp;omega) _)
    have hO9:KeepsOthers Z w9:=by rw[← hw9];exact(ext_others hEz).trans ((((Qp _ _ _).trans (Qp _ _ _)).trans (Qp _ _ _)).trans (Qp _ _ _))
    rw[hw9]
    have hwb:wrongB i s=true:=by
     cases h:wrongB i s with
     | true=>rfl
     | false=>have:=HR2.out.2 h;omega
    have hfb:fineB i tanks=false:=by
     rw[fineB_eq]
     refine not_all H4.out ?_
     unfold dryFine;rw[HH.out]
     refine range_bad hk ?_
     rw[HS.out,hwb];rfl
    exact⟨hO9.from _,⟨⟨rfl,hfb,hC9,_,_,_,_,_,_,by decide,hD9⟩,hE9⟩,g5.trans hO9⟩
   ·gi_wp2_with (first|(refine⟨trivial,?_⟩;gi_at_call 196;refine(callsIn_wide.2 HWR2.out).mono ?_;rintro e wz ⟨x,rfl,hEz⟩;have f2:=g2.ext hEz;have f3:=g3.ext hEz;have e0:=f2.d.lt;have e1:=f2.d.free;have e2:=f2.d.cell;have e3:=f3.cell;have e4:=f3.lt))
    obtain⟨w9,hw9⟩:∃y,((((wz.setCell ⟨n0+1+1+1,0,none⟩ (.slice (some ⟨b,0,none⟩) i.months.length i.months.length)).setCell ⟨n0+1+1+1,1,none⟩ (.int .i64 (k:Int))).setCell ⟨n0+1+1+1,2,none⟩ (.int .i64 3)).setCell ⟨n0+1+1+1,3,none⟩ (.int .i64 x))=y:=⟨_,rfl⟩
    have hD9:Blk w9 (n0+1+1+1) #[.slice (some ⟨b,0,none⟩) i.months.length i.months.length,.int .i64 (k:Int),.int .i64 3,.int .i64 x] 249:=by rw[← hw9];exact fault_set f2.d _ _ _ _
    have hC9:Blk w9 (n0+1+1) #[.slice none 0 0,.int .i64 0,.int .i64 0,.int .i64 0] 249:=by rw[← hw9];exact(((f2.c.other (by simp) _).other (by simp) _).other (by simp) _).other (by simp) _
    have hE9:Ext w w9:=by rw[← hw9];exact(((((g4.trans hEz).setCell (p:=⟨n0+1+1+1,0,none⟩) (by rw[HN0.out];simp;omega) _).setCell (p:=⟨n0+1+1+1,1,none⟩) (by rw[HN0.out];simp;omega) _).setCell (p:=⟨n0+1+1+1,2,none⟩) (by rw[HN0.out];simp;omega) _).setCell (p:=⟨n0+1+1+1,3,none⟩) (by rw[HN0.out];simp;omega) _)
    have hO9:KeepsOthers Z w9:=by rw[← hw9];exact(ext_others hEz).trans ((((Qp _ _ _).trans (Qp _ _ _)).trans (Qp _ _ _)).trans (Qp _ _ _))
    rw[hw9]
    have hwb:wrongB i s=true:=by
     cases h:wrongB i s with
     | true=>rfl
     | false=>have:=HR2.out.2 h;omega
    have hfb:fineB i tanks=false:=by
     rw[fineB_eq]
     refine not_all H4.out ?_
     unfold dryFine;rw[HH.out]
     refine range_bad hk ?_
     rw[HS.out,hwb];rfl
    exact⟨hO9.from _,⟨⟨rfl,hfb,hC9,_,_,_,_,_,_,by decide,hD9⟩,hE9⟩,g5.trans hO9⟩
   ·gi_wp2_with (first|(refine⟨trivial,?_⟩;gi_at_call 196;refine(callsIn_wide.2 HWR2.out).mono ?_;rintro e wz ⟨x,rfl,hEz⟩;have f2:=g2.ext hEz;have f3:=g3.ext hEz;have e0:=f2.d.lt;have e1:=f2.d.free;have e2:=f2.d.cell;have e3:=f3.cell;have e4:=f3.lt))
    have hwb:wrongB i s=false:=HR2.out.1 (by trivial)
    refine⟨(ext_others hEz).from _,⟨hA.1.ext hEz,hA.2.trans hEz⟩,⟨⟨range_step G1.out (by rw[HS.out,hwb];rfl),f2,f3⟩,g4.trans hEz⟩,g5.trans (ext_others hEz)⟩
  case idone =>
   rintro Z ⟨⟨⟨g1,g2,g3⟩,g4⟩,g5⟩ hA
   refine⟨g5.from _,⟨take_all H1.out H4.out ?_,g2⟩,g4⟩
   unfold dryFine;rw[HH.out];exact g1
  case istop =>
   rintro cd Z ⟨⟨⟨rfl,g1⟩,g4⟩,g5⟩
   gi_wp2
   exact⟨g5.from _,⟨rfl,g1⟩,g4⟩
 case done =>
  rintro D Y hD ⟨⟨h1,h2⟩,h3⟩ hK
  have hfb:fineB i tanks=true:=by rw[fineB_eq];rw[List.take_length]at h1;exact h1
  have hn0:=HN0.out
  have hR2:=Qf hR'
  clear hR'
  have k0:=h2.d.cell
  have k1:=h2.d.lt
  have e0:=h2.c.lt
  have e1:=h2.c.free
  have e2:=h2.c.cell
  have hnD:n0+1+1≠D:=by omega
  clear hn0
  go_wp2
  obtain⟨Y9,hY9⟩:∃y,((((Y.setCell ⟨n0+1+1,0,none⟩ (.slice none 0 0)).setCell ⟨n0+1+1,1,none⟩ (.int .i64 0)).setCell ⟨n0+1+1,2,none⟩ (.int .i64 1)).setCell ⟨n0+1+1,3,none⟩ (.int .i64 0))=y:=⟨_,rfl⟩
  have hC9:Blk Y9 (n0+1+1) #[.slice none 0 0,.int .i64 0,.int .i64 1,.int .i64 0] 249:=by rw[← hY9];exact fault_set h2.c _ _ _ _
  have hE9:Ext w Y9:=by rw[← hY9];exact((((h3.setCell (p:=⟨n0+1+1,0,none⟩) (by rw[HN0.out];simp;omega) _).setCell (p:=⟨n0+1+1,1,none⟩) (by rw[HN0.out];simp;omega) _).setCell (p:=⟨n0+1+1,2,none⟩) (by rw[HN0.out];simp;omega) _).setCell (p:=⟨n0+1+1,3,none⟩) (by rw[HN0.out];simp;omega) _)
  have hK9:Y9.heap[D]? =some (.deferred (some [])):=by
   rw[← hY9]
   repeat rw[Below.heap_setCell _ _ _ _ (by simpa using Ne.symm hnD)]
   exact hK
  rw[hY9]
  clear hY9 k0 k1 e0 e1 e2
  refine hR2.out _ _ ?_
  have hB5:Blk (Y9.putObj D (.deferred none)) (n0+1+1) #[.slice none 0 0,.int .i64 0,.int .i64 1,.int .i64 0] 249:=((grownBy_putObj' Y9 D _).block _ hC9.lt (by simpa using hnD)).trans hC9
  have q0:=hB5.cell
  have q1:=hB5.lt
  refine⟨by simp,.inl ⟨_,_,rfl,run_takeDeferred hK9,?_⟩⟩
  refine⟨.agg #[.slice none 0 0,.int .i64 0,.int .i64 1,.int .i64 0],by simp[results,Tryz.results123,go_sem,q0,q1],_,_,_,_,_,_,rfl,?_,?_⟩
  ·rw[hfb];rfl
  ·exact Below.trans hE9 (belowK_b (w:=w) (Qh _) Y9 D _ _ (by have:=hE2.size;omega) hK9 rfl rfl)
 case stop =>
  rintro D cd Y hD ⟨⟨rfl,hf,hC,a,n,k,m,r,x,hr,hB⟩,hE⟩ hK
  have hn0:=HN0.out
  have hR2:=Qf hR'
  clear hR'
  have k0:=hB.cell
  have k1:=hB.lt
  have e0:=hC.lt
  have e1:=hC.free
  have e2:=hC.cell
  have hnD:n0+1+1≠D:=by omega
  clear hn0
  refine wpIn_wide.2 ?_
  go_wp2
  obtain⟨Y9,hY9⟩:∃y,((((Y.setCell ⟨n0+1+1,0,none⟩ (.slice a n k)).setCell ⟨n0+1+1,1,none⟩ (.int .i64 m)).setCell ⟨n0+1+1,2,none⟩ (.int .i64 r)).setCell ⟨n0+1+1,3,none⟩ (.int .i64 x))=y:=⟨_,rfl⟩
  have hC9:Blk Y9 (n0+1+1) #[.slice a n k,.int .i64 m,.int .i64 r,.int .i64 x] 249:=by rw[← hY9];exact fault_set hC _ _ _ _
  have hE9:Ext w Y9:=by rw[← hY9];exact((((hE.setCell (p:=⟨n0+1+1,0,none⟩) (by rw[HN0.out];simp;omega) _).setCell (p:=⟨n0+1+1,1,none⟩) (by rw[HN0.out];simp;omega) _).setCell (p:=⟨n0+1+1,2,none⟩) (by rw[HN0.out];simp;omega) _).setCell (p:=⟨n0+1+1,3,none⟩) (by rw[HN0.out];simp;omega) _)
  have hK9:Y9.heap[D]? =some (.deferred (some [])):=by
   rw[← hY9]
   repeat rw[Below.heap_setCell _ _ _ _ (by simpa using Ne.symm hnD)]
   exact hK
  rw[hY9]
  clear hY9 k0 k1 e0 e1 e2
  refine hR2.out _ _ ?_
  have hB5:Blk (Y9.putObj D (.deferred none)) (n0+1+1) #[.slice a n k,.int .i64 m,.int .i64 r,.int .i64 x] 249:=((grownBy_putObj' Y9 D _).block _ hC9.lt (by simpa using hnD)).trans hC9
  have q0:=hB5.cell
  have q1:=hB5.lt
  refine⟨by simp,.inl ⟨_,_,rfl,run_takeDeferred hK9,?_⟩⟩
  refine⟨.agg #[.slice a n k,.int .i64 m,.int .i64 r,.int .i64 x],by simp[results,Tryz.results123,go_sem,q0,q1],_,_,_,_,_,_,rfl,?_,?_⟩
  ·rw[hf];exact decide_eq_false hr
  ·exact Below.trans hE9 (belowK_b (w:=w) (Qh _) Y9 D _ _ (by have:=hE2.size;omega) hK9 rfl rfl)
end Go.Proofs.YtgloajbgphcloaaGreat.Ln
namespace Go.Proofs.YtgloajbgphcloaaGreat.Ln
set_option linter.unusedVariables false
set_option linter.unusedSimpArgs false
open Go.RowKit Go.Maps
open Ext renaming alloc → Qb, drew → Qc, refl → Qa, setCell → Qd, trans → Qe
open Lib renaming hid → Qf
def RV (v:Value):Option (DataW Value×List MemPlace):=some (.held v,[])
theorem tank_keyed:Keyed Tryz.prog 3:=int_keyed Tryz.underlying3
theorem tank_wf {x:Int} (h0:0≤x) (h1:x≤40):(Lit.int .i64 x).wf=true:=by
 simp only[Lit.wf,IntKind.min,IntKind.max,IntKind.signed,IntKind.bits,Bool.and_eq_true,decide_eq_true_eq,if_true]
 omega
theorem tank_key {x:Int} (h0:0≤x) (h1:x≤40):keyOf Tryz.prog 3 (.int .i64 x)=some (.int .i64 x):=keyOf_int_mk Tryz.underlying3 (tank_wf h0 h1)
def Memo (i:Islet) (w:World) (b n:Nat):Prop :=
 ∃D,w.ownsMap Tryz.prog 3 RV b n D∧IsMap D∧∀x:Int,Maps.has D (.int .i64 x)=true→∀z,D.atKey (.int .i64 x) z= .held (.bool (fineB i x))
theorem Memo.made (i:Islet) (w:World):Memo i (w.alloc (.map #[] 0)) w.heap.size 0:=⟨.map [],World.ownsMap_made _ _ _ _,isMap_empty,fun _ h=>by simp[Maps.has]at h⟩
theorem Memo.ext {i:Islet} {w w':World} {b n:Nat} (h:Memo i w b n) (he:Ext w w'):Memo i w' b n:=by
 obtain⟨D,h1,h2,h3⟩:=h
 exact⟨D,h1.kept (row:=none) (ext_grown he) (by simp),h2,h3⟩
theorem Memo.lt {i:Islet} {w:World} {b n:Nat} (h:Memo i w b n):b<w.heap.size:=by
 obtain⟨D,h1,_⟩:=h
 exact h1.lt
theorem zero_bool (w:World):(zeroValue 4).run Tryz.prog w= .ok (.bool false) w:=by kernel_rfl
theorem Memo.look {i:Islet} {w:World} {b n:Nat} (h:Memo i w b n) {x:Int} (h0:0≤x) (h1:x≤40) :
  ∃v ok,(Instr.lookup 213 (.map (some b)) (.int .i64 x) true).run Tryz.prog w= .ok (.tuple #[.bool v,.bool ok]) w∧(ok=true→v=fineB i x):=by
 obtain⟨D,g1,g2,g3⟩:=h
 obtain⟨v,ps,hrun,hv⟩:=g1.look_ok tank_keyed Tryz.underlying213 (zero_bool w) (zd:= .held (.bool false)) (zp:=[]) rfl (tank_key h0 h1)
 have hve:D.atKey (.int .i64 x) (.held (.bool false))= .held v:=by
  simp only[RV,Option.some.injEq,Prod.mk.injEq]at hv
  exact hv.1.symm
 by_cases hh:Maps.has D (.int .i64 x)=true
 ·have:=g3 x hh (.held (.bool false))
  rw[hve]at this
  cases this
  exact⟨fineB i x,true,by rw[hrun,hh],fun _=>rfl⟩
 ·have hf:Maps.has D (.int .i64 x)=false:=by simpa using hh
  have:=atKey_of_not_has hf (.held (.bool false))
  rw[hve]at this
  cases this
  exact⟨false,false,by rw[hrun,hf],fun h=>by cases h⟩
theorem Memo.put {i:Islet} {w:World} {b n:Nat} (h:Memo i w b n) (hn:n≤1000) {x:Int} (h0:0≤x) (h1:x≤40) :
  ∃w',(Instr.mapUpdate 213 (.map (some b)) (.int .i64 x) (.bool (fineB i x))).run Tryz.prog w= .ok () w'∧Memo i w' b (n+1)∧Off b w w':=by
 obtain⟨D,g1,g2,g3⟩:=h
 obtain⟨w',hrun,g4,hg⟩:=g1.store tank_keyed Tryz.underlying213 (by unfold maxLen;omega) (tank_key h0 h1) (val:= .bool (fineB i x)) (d:= .held (.bool (fineB i x))) (ps:=[]) rfl
 refine⟨w',hrun,⟨_,g4,g2.put _ _,fun y hy z=> ?_⟩,?_⟩
 ·by_cases e:y=x
  ·subst e
   exact atKey_put_same g2 (tank_keyed.key (tank_key h0 h1)) _ _
  ·have hne:(Lit.int .i64 y)≠(Lit.int .i64 x):=fun h=>e (by cases h;rfl)
   rw[has_put_other hne]at hy
   rw[atKey_put_other hne]
   exact g3 y hy z
 ·have:=hg.grown
  exact⟨this.os,this.tape,this.output,this.size,fun k hk hne=>this.block k hk (by simpa using hne)⟩
set_option maxRecDepth 100000 in
set_option maxHeartbeats 4000000 in
theorem fine_any (i:Islet) (vw vm:Value) (x:Int) (bm bi b n:Nat) (w:World) (O:Ok i) (h0:0≤x) (h1:x≤40) (hW:Ints w vw i.wells) (hM:Months w vm i.months)
  (hm:Blk w bm #[.map (some b)] 213) (hb:Blk w bi (islV i vw vm) 52) (hme:Memo i w b n) (hn:n≤1000) :
  Calls Tryz.prog 122 #[.int .i64 x,.pointer (some ⟨bm,0,none⟩),.pointer (some ⟨bi,0,none⟩)] w fun e w'=>e= .returned (.bool (fineB i x))∧Memo i w' b (n+1)∧Off b w w':=by
 have hW':=hW
 have hM':=hM
 obtain⟨aw,kw,rfl,_⟩:=hW'
 obtain⟨am,cm,rfl,_⟩:=hM'
 have hfd:∀(a:Option Addr) (n k:Nat) (m r y:Int) (w:World),(Instr.field 249 (.agg #[.slice a n k,.int .i64 m,.int .i64 r,.int .i64 y]) 2).run Tryz.prog w= .ok (.int .i64 r) w:=fun _ _ _ _ _ _ _=>by kernel_rfl
 have HF:=Qf (fault_any i _ _ x w hW hM O h0 h1)
 obtain⟨v,ok,hlk,hok⟩:=hme.look h0 h1
 have HOK:=Qf hok
 have k0:=hm.cell
 have k1:=hm.lt
 have k2:=hb.cell
 have k3:=hb.lt
 obtain⟨B,hB⟩:∃B,fineB i x=B:=⟨_,rfl⟩
 have HB:=Qf hB
 clear hok hB
 cases ok with
 | true =>
  have hv:v=B:=by rw[HOK.out rfl,HB.out]
  subst hv
  have hmo:Memo i w b (n+1):=by obtain⟨D,g1,g2⟩:=hme;exact⟨D,g1.mono (by omega),g2⟩
  go_enter Tryz.func122,Tryz.ntmps122
  go_wp2
  go_ret
  exact⟨by rw[HB.out];rfl,hmo,Off.refl _ _⟩
 | false =>
  go_enter Tryz.func122,Tryz.ntmps122
  go_wp2_with (first|(go_at_call 123;refine HF.out.mono ?_;rintro e w2 ⟨a,n',k,m,r,y,rfl,hr,hE2⟩;obtain⟨w3,hst,hme3,hO3⟩:=(hme.ext hE2).put hn h0 h1;rw[HB.out]at hr hst;have q0:=(hm.ext hE2).cell;have q1:=(hm.ext hE2).lt;have hr':(r == 1)=B:=hr))
  go_ret
  exact⟨by rw[HB.out];rfl,hme3,(hE2.off _).trans hO3⟩
def FewestQ (i:Islet) (n c:Int):Prop:=(islB i=false→n=0∧c=2)∧(islB i=true→(fewest i=none→n=0∧c=5)∧∀m,fewest i=some m→n=m∧c=0)
set_option maxRecDepth 100000 in
set_option maxHeartbeats 4000000 in
theorem fewest_any (i:Islet) (vw vm:Value) (w:World) (hW:Ints w vw i.wells) (hM:Months w vm i.months) (hwl:i.wells.length≤1000000) (hml:i.months.length≤1000000) :
  Calls Tryz.prog 51 #[.agg (islV i vw vm)] w fun e w' =>
   ∃(n c:Int),e= .returned (.tuple #[.int .i64 n,.int .i64 c])∧Ext w w'∧FewestQ i n c:=by
 have hV:=Qf (valid_any i vw vm w hW hM hwl hml)
 have hW':=hW
 have hM':=hM
 obtain⟨aw,kw,rfl,_⟩:=hW'
 obtain⟨am,cm,rfl,_⟩:=hM'
 have hmm:∀w:World,(Instr.makeMap 213 none).run Tryz.prog w= .ok (.map (some w.heap.size)) (w.alloc (.map #[] 0)):=fun _=>by kernel_rfl
 go_enter Tryz.func51,Tryz.ntmps51
 go_wp2_with (first|(go_at_call 121;refine((valid_any i _ _ _ (hW.ext (by(with_reducible(repeat(first|exact Qa _|assumption|apply Qb|apply Qc|exact ext_plus _ _|(apply Qd;rotate_left;(simp<;>omega))|(apply Qe;rotate_left;exact ext_plus _ _)|(apply Qe;rotate_left;assumption)))))) (hM.ext (by(with_reducible(repeat(first|exact Qa _|assumption|apply Qb|apply Qc|exact ext_plus _ _|(apply Qd;rotate_left;(simp<;>omega))|(apply Qe;rotate_left;exact ext_plus _ _)|(apply Qe;rotate_left;assumption)))))) hwl hml)).mono ?_;rintro e w1 ⟨rfl,hE1⟩))
 ·rename (!islB i)=true=>hv
  have hv:islB i=false:=by simpa using hv
  go_ret2
  exact⟨0,2,rfl,by(with_reducible(repeat(first|exact Qa _|assumption|apply Qb|apply Qc|exact ext_plus _ _|(apply Qd;rotate_left;(simp<;>omega))|(apply Qe;rotate_left;exact ext_plus _ _)|(apply Qe;rotate_left;assumption)))),⟨fun _=>⟨rfl,rfl⟩,fun h=>by rw[hv]at h;cases h⟩⟩
 rename (!islB i)=false=>hv0
 have hv:islB i=true:=by simpa using hv0
 clear hv0
 have O:=ok_of hv
 obtain⟨n0,hn0⟩:∃n,w.heap.size=n:=⟨_,rfl⟩
 obtain⟨b,hb⟩:∃n,w1.heap.size=n:=⟨_,rfl⟩
 obtain⟨w2,hw2⟩:∃y,(w1.alloc (.map #[] 0)).alloc (.cells #[.map (some b)] 213)=y:=⟨_,rfl⟩
 have hE2:Ext w w2:=by rw[← hw2];(with_reducible(repeat(first|exact Qa _|assumption|apply Qb|apply Qc|exact ext_plus _ _|(apply Qd;rotate_left;(simp<;>omega))|(apply Qe;rotate_left;exact ext_plus _ _)|(apply Qe;rotate_left;assumption))))
 have hB1:Blk w2 n0 (islV i (.slice aw i.wells.length kw) (.slice am i.months.length cm)) 52:=by
  have:Ext w1 w2:=by rw[← hw2];(with_reducible(repeat(first|exact Qa _|assumption|apply Qb|apply Qc|exact ext_plus _ _|(apply Qd;rotate_left;(simp<;>omega))|(apply Qe;rotate_left;exact ext_plus _ _)|(apply Qe;rotate_left;assumption))))
  exact((Blk.new' hn0.symm _ _).ext hE1).ext this
 have hB2:Blk w2 (b+1) #[.map (some b)] 213:=by rw[← hw2];exact Blk.new' (by simp[hb]) _ _
 have hMe:Memo i w2 b 0:=by
  rw[← hw2,←hb]
  exact(Memo.made i w1).ext (by(with_reducible(repeat(first|exact Qa _|assumption|apply Qb|apply Qc|exact ext_plus _ _|(apply Qd;rotate_left;(simp<;>omega))|(apply Qe;rotate_left;exact ext_plus _ _)|(apply Qe;rotate_left;assumption)))))
 have hnb:n0<b:=by rw[← hb,←hn0];have:=hE1.size;simp at this;omega
 simp only[hn0,hb,hw2]
 refine(fine_any i _ _ 40 (b+1) n0 b 0 w2 O (by decide) (by decide) (hW.ext hE2) (hM.ext hE2) hB2 hB1 hMe (by omega)).mono ?_
 rintro e w3 ⟨rfl,hMe,hO⟩
 have hE3:Ext w w3:=hO.ext0 hE2 (by omega)
 have hB1:=hB1.off hO (by omega)
 have hB2:=hB2.off hO (by omega)
 have HN0:=Qf hn0
 have HB0:=Qf hb
 have HO:=Qf O
 have HV:=Qf hv
 clear hv
 clear hn0 hb hw2 hO hE2 hE1 hV O hmm
 obtain⟨f,hf⟩:∃f,fineB i 40=f:=⟨_,rfl⟩
 have HF:=Qf hf
 simp only[hf]
 clear hf
 cases f with
 | false =>
  go_wp2
  go_ret2
  refine⟨0,5,rfl,hE3,?_⟩
  refine⟨fun h=>(by rw[HV.out]at h;cases h),fun _=>⟨fun _=>⟨rfl,rfl⟩,fun m h=> ?_⟩⟩
  unfold fewest at h
  rw[HF.out]at h
  cases h
 | true =>
  go_wp2
  go_loopw [6,7,8,17,18,19,20,21,22,23,24,25,26,27,28,29] (fun l h _ _ _ _ _ _ _ _ _ _ _ _ _ _ wr=>∃(lo hi:Int) (m:Nat),l= .int .i64 lo∧h= .int .i64 hi∧0≤lo∧lo≤hi∧hi≤40∧m+(hi - lo).toNat≤50∧bsearch (fineB i) 41 0 40=bsearch (fineB i) 41 lo hi∧Memo i wr b m∧Blk wr n0 (islV i (.slice aw i.wells.length kw) (.slice am i.months.length cm)) 52∧Blk wr (b+1) #[.map (some b)] 213∧Ext w wr) (fun l h _ _ _ _ _ _ _ _ _ _ _ _ _ _ _=>(intOf h - intOf l).toNat)
  case atStart=>exact⟨0,40,1,rfl,rfl,by decide,by decide,by decide,by decide,rfl,hMe,hB1,hB2,hE3⟩
  case round =>
   rename World=>wr
   obtain⟨lo,hi,m,rfl,rfl,g0,g1,g2,g3,g4,hMe,hB1,hB2,hE⟩:=hrel
   by_cases hlt:lo<hi
   ·obtain⟨q,hq⟩:∃q:Int,(lo+hi)/2=q:=⟨_,rfl⟩
    have hq':(lo+hi).tdiv 2=q:=by rw[← hq];exact Int.tdiv_eq_ediv_of_nonneg (by omega)
    have hql:lo≤q∧q<hi:=by omega
    have LW:bsearch (fineB i) 41 0 40=bsearch (fineB i) 41 lo hi→fineB i q=true→bsearch (fineB i) 41 0 40=bsearch (fineB i) 41 lo q:=fun g hf=>by rw[g,←hq];exact bsearch_low _ (by omega) hlt (by rw[hq];exact hf)
    have HW2:bsearch (fineB i) 41 0 40=bsearch (fineB i) 41 lo hi→fineB i q=false→bsearch (fineB i) 41 0 40=bsearch (fineB i) 41 (q+1) hi:=fun g hf=>by rw[g,←hq];exact bsearch_high _ (by omega) hlt (by rw[hq];exact hf)
    have L1:=Qf (LW g4)
    have L2:=Qf (HW2 g4)
    clear LW HW2 g4 hq
    go_wp2_with (first|(go_at_call 122;refine(fine_any i _ _ q (b+1) n0 b m wr HO.out (by omega) (by omega) (hW.ext hE) (hM.ext hE) hB2 hB1 hMe (by omega)).mono ?_;rintro e w3 ⟨rfl,hMe3,hO3⟩))
    ·rename fineB i q=true=>hf
     go_roundw
     case rel=>exact⟨lo,q,m+1,rfl,rfl,g0,by omega,by omega,by omega,L1.out hf,hMe3,hB1.off hO3 (by omega),hB2.off hO3 (by omega),hO3.ext0 hE (by rw[HN0.out];omega)⟩
     case measure=>simp[intOf];omega
    ·rename fineB i q=false=>hf
     go_roundw
     case rel=>exact⟨q+1,hi,m+1,by go_num,rfl,by omega,by omega,by omega,by omega,L2.out hf,hMe3,hB1.off hO3 (by omega),hB2.off hO3 (by omega),hO3.ext0 hE (by rw[HN0.out];omega)⟩
     case measure=>simp[intOf];omega
   ·obtain rfl:lo=hi:=by omega
    have G4:=Qf g4
    clear g4
    go_wp2
    go_ret2
    refine⟨lo,0,rfl,hE,?_⟩
    refine⟨fun h=>(by rw[HV.out]at h;cases h),fun _=> ?_⟩
    have e:fewest i=some lo:=by unfold fewest;rw[HF.out,G4.out,bsearch_stop _ _ _ _ (by omega)];rfl
    exact⟨fun h=>(by rw[e]at h;cases h),fun m h=>(by rw[e]at h;cases h;exact⟨rfl,rfl⟩)⟩
end Go.Proofs.YtgloajbgphcloaaGreat.Ln
