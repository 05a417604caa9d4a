/- Which systems are as defined, as the program asks it and as the document does. Which systems are as defined: the whole question. A system that runs: how it lies in memory; sums; what the batteries hold. A system before its first day. A day: the sun. A day: what fades. A day: the loads. Bounds of all states of a system that runs. The document's small functions. The document's weathers, letter by letter. The document's skies, letter by letter. Which systems are as defined, as the document asks it. The document's question whether a weather agrees with a sky. The document's question whether a weather may come. The laws' small helpers: short, asked, few. The document's cost. How many loads lie in a set, as the document counts them. Letters: whether a text has a letter of some for each day. Whether a question is as defined; whether a weather is allowed, and agrees with a sky; words. Whether a weather agrees with a sky; words. The iterator over the days of a system that runs. -/
import Derived.Test.YtgloajbgphcloaaGreatCo
import Derived.Test.YtgloajbgphcloaaGreatClA
import Derived.Test.YtgloajbgphcloaaGreatDr
import Derived.Deep.CutRange
import Derived.Deep.RegionHeld3
import Derived.Lib.OthersKept
import Derived.WalkSmall
import Derived.Test.YtgloajbgphcloaaGreatRg
import Derived.RangeFuncBound
import Derived.RangeFuncCalls
import Derived.Shelf.Abstract
import Derived.OwnWalkIn
import Derived.TacticsInMore
import Derived.LoopNIn
import Derived.LoopIn
namespace Go.Proofs.YtgloajbgphcloaaGreat.Cl
set_option linter.unusedVariables false
set_option linter.unusedSimpArgs false
open Go.RowKit
open Lib renaming hid → Qa
theorem in_any (x lo hi:Int) (w:World) :
  Calls Tryz.prog 150 #[.int .i64 x,.int .i64 lo,.int .i64 hi] w fun e w'=>e= .returned (.bool (C.within x lo hi))∧w=w':=by
 go_enter Tryz.func150,Tryz.ntmps150
 go_wp2
 all_goals(go_ret;exact⟨ret_bool (by rw[Bool.eq_iff_iff];simp[C.within];omega),rfl⟩)
theorem din_any (x lo hi:Int) (w:World) :
  Calls Tryz.prog 71 #[.int .i64 x,.int .i64 lo,.int .i64 hi] w fun e w'=>e= .returned (.bool (C.within x lo hi))∧w=w':=by
 go_enter Tryz.func71,Tryz.ntmps71
 go_wp2
 all_goals(go_ret;exact⟨ret_bool (by rw[Bool.eq_iff_iff];simp[C.within];omega),rfl⟩)
theorem badLoad_any (l:C.Load) (w:World) :
  Calls Tryz.prog 198 #[.agg (loadV l)] w fun e w'=>e= .returned (.bool (!C.loadB l))∧Ext w w':=by
 go_enter Tryz.func198,Tryz.ntmps198
 go_wp2_with (first|(go_at_call 150;refine(in_any _ _ _ _).mono ?_;rintro e w' ⟨rfl,rfl⟩))
 all_goals(go_ret;exact⟨ret_bool (by simp_all[C.loadB]),(Ext.refl _).alloc _⟩)
set_option maxRecDepth 100000 in
set_option maxHeartbeats 4000000 in
theorem badAt_any (v:Value) (xs:List C.Load) (w:World) (hv:Loads w v xs) (hn:xs.length≤1000000) :
  Calls Tryz.prog 231 #[v,.func (.func 198) #[] #[]] w fun e w'=>∃k:Int,e= .returned (.int .i64 k)∧decide (0≤k)= !(xs.all C.loadB)∧Ext w w':=by
 obtain⟨a,cap,rfl,hx⟩:=hv
 have HX:=Qa hx
 clear hx
 go_enter Tryz.func231,Tryz.ntmps231
 go_wp2
 go_loopw [5,8] (fun _ i wr=>∃k:Nat,k≤xs.length∧i= .int .i64 k∧(xs.take k).all C.loadB=true∧Ext w wr) (fun _ i _=>xs.length - (intOf i).toNat)
 case atStart=>exact⟨0,Nat.zero_le _,rfl,rfl,Ext.refl _⟩
 case round =>
  rename World=>wr
  obtain⟨k,hk,rfl,hgood,hE⟩:=hrel
  have HG:=Qa hgood
  clear hgood
  by_cases hlt:k<xs.length
  ·obtain⟨b,off,rfl,hb,hAt⟩:=HX.out k hlt
   obtain⟨h0,h1,h2⟩:=load_cells (ate_stays _ _ _ _ _ _ hE hb hAt)
   have hbl:=Nat.lt_of_lt_of_le hb hE.size
   have hs:(xs.take (k+1)).all C.loadB=C.loadB xs[k]:=by rw[List.take_succ_eq_append_getElem hlt,List.all_append,HG.out];simp
   have hm:xs[k]∈xs:=List.getElem_mem hlt
   obtain⟨l,hl⟩:∃l,xs[k]=l:=⟨_,rfl⟩
   rw[hl]at h0 h1 h2 hs hm
   have hba:=fun w'=>badLoad_any l w'
   obtain⟨B,hB⟩:∃B,C.loadB l=B:=⟨_,rfl⟩
   rw[hB]at hs
   simp only[hB]at hba
   have HBA:=Qa hba
   have HS:=Qa hs
   have HM:=Qa hm
   have HBB:=Qa hB
   clear hAt hl hba hs hm hB
   cases B with
   | true =>
    go_wp2_with (first|(go_at_call 198;refine(HBA.out _).mono ?_;rintro e w' ⟨rfl,hE'⟩))
    go_roundw
    case rel=>exact⟨k+1,by omega,by go_num,HS.out,hE.trans hE'⟩
    case measure=>simp[intOf];omega
   | false =>
    go_wp2_with (first|(go_at_call 198;refine(HBA.out _).mono ?_;rintro e w' ⟨rfl,hE'⟩))
    go_ret
    refine⟨_,rfl,?_,hE.trans hE'⟩
    have:xs.all C.loadB=false:=by rw[List.all_eq_false];exact⟨l,HM.out,by rw[HBB.out];decide⟩
    rw[this];simp
  ·obtain rfl:k=xs.length:=by omega
   go_wp2
   go_ret
   have h:=HG.out
   rw[List.take_length]at h
   exact⟨_,rfl,by rw[h];decide,hE⟩
theorem badLoads_any (v:Value) (xs:List C.Load) (w:World) (hv:Loads w v xs) (hn:xs.length≤1000000) :
  Calls Tryz.prog 197 #[v,.func (.func 198) #[] #[]] w fun e w'=>e= .returned (.bool (!(xs.all C.loadB)))∧Ext w w':=by
 have hv':=hv
 obtain⟨a,cap,rfl,_⟩:=hv'
 have HB:=Qa (badAt_any _ xs w hv hn)
 go_enter Tryz.func197,Tryz.ntmps197
 go_wp2_with (first|(go_at_call 231;refine HB.out.mono ?_;rintro e w' ⟨k,rfl,hk,hE'⟩))
 all_goals(go_ret;exact⟨rfl,hE'⟩)
end Go.Proofs.YtgloajbgphcloaaGreat.Cl
namespace Go.Proofs.YtgloajbgphcloaaGreat.Cl
set_option linter.unusedVariables false
set_option linter.unusedSimpArgs false
open Go.RowKit
open Ext renaming trans → Qb
set_option maxRecDepth 100000 in
set_option maxHeartbeats 4000000 in
theorem valid_any (c:C.Sys) (vl:Value) (w:World) (hL:Loads w vl c.loads) (hn:c.loads.length≤1000000) :
  Calls Tryz.prog 125 #[.agg (sysV c vl)] w fun e w'=>e= .returned (.bool (C.sysB c))∧Ext w w':=by
 have hL':=hL
 obtain⟨a,cap,rfl,_⟩:=hL'
 have hb:=fun w' (hx:Ext w w')=>badLoads_any _ c.loads w' (hL.ext hx) hn
 obtain⟨A,hA⟩:∃A,c.loads.all C.loadB=A:=⟨_,rfl⟩
 simp only[hA]at hb
 have HB:=Lib.hid hb
 have HA:=Lib.hid hA
 clear hb hA
 go_enter Tryz.func125,Tryz.ntmps125
 simp only[List.append_eq,List.cons_append,List.nil_append]
 go_wp2_with (first|(go_at_call 150;refine(in_any _ _ _ _).mono ?_;rintro e w' ⟨rfl,rfl⟩)|(go_at_call 197;refine(HB.out _ (by(with_reducible(repeat(first|exact Ext.refl _|assumption|apply Ext.alloc|apply Ext.drew|exact ext_plus _ _|(apply Ext.setCell;rotate_left;(simp<;>omega))|(apply Qb;rotate_left;exact ext_plus _ _)|(apply Qb;rotate_left;assumption)))))).mono ?_;rintro e w' ⟨rfl,hb⟩;have hbx:=Blk.ext (Blk.new w (sysV c (.slice a c.loads.length cap)) 55) hb;have k0:=hbx.cell;have l0:=hbx.lt))
 all_goals(go_ret;refine⟨ret_bool ?_,by(with_reducible(repeat(first|exact Ext.refl _|assumption|apply Ext.alloc|apply Ext.drew|exact ext_plus _ _|(apply Ext.setCell;rotate_left;(simp<;>omega))|(apply Qb;rotate_left;exact ext_plus _ _)|(apply Qb;rotate_left;assumption))))⟩;unfold C.sysB C.headB C.restB;rw[HA.out];simp_all)
end Go.Proofs.YtgloajbgphcloaaGreat.Cl
namespace Go.Proofs.YtgloajbgphcloaaGreat.Cl
set_option linter.unusedVariables false
set_option linter.unusedSimpArgs false
open Go.RowKit
abbrev runV (c:C.Sys) (vl:Value) (p b off:Int) (wt:ByteArray) (day:Int) (s:C.St) (st left:Int):Array Value :=
 #[.int .i64 c.sunny,.int .i64 c.cloudy,.int .i64 c.size,.int .i64 c.fade,.int .i64 c.start,vl,.int .i64 c.days,.int .i64 c.window,.int .i64 c.most,.int .i64 c.panel,.int .i64 c.battery,.int .i64 p,.int .i64 b,.int .i64 off,.string wt,.int .i64 day,.int .i64 s.e,.int .i64 s.carried,.int .i64 st,.int .i64 s.sun,.int .i64 s.used,.int .i64 s.lost,.int .i64 s.faded,.int .i64 left]
theorem sum_any (v:Value) (xs:List Int) (w:World) (hv:Ints w v xs) (hn:xs.length≤1000000) (hb:∀k,k≤xs.length→ -1000000000000000≤(xs.take k).sum∧(xs.take k).sum≤1000000000000000) :
  Calls Tryz.prog 205 #[v] w fun e w'=>e= .returned (.int .i64 xs.sum)∧w=w':=by
 obtain⟨a,cap,rfl,hx⟩:=hv
 have HX:=Lib.hid hx
 have HB:=Lib.hid hb
 clear hx hb
 go_enter Tryz.func205,Tryz.ntmps205
 go_wp2
 go_loop [3,5,8] (fun n _ i=>∃k:Nat,k≤xs.length∧i= .int .i64 k∧n= .int .i64 (xs.take k).sum) (fun _ _ i=>xs.length - (intOf i).toNat)
 case atStart=>exact⟨0,Nat.zero_le _,rfl,rfl⟩
 case round =>
  obtain⟨k,hk,rfl,rfl⟩:=hrel
  by_cases hlt:k<xs.length
  ·obtain⟨b,off,rfl,hb,h0⟩:=HX.out k hlt
   have hs:(xs.take (k+1)).sum=(xs.take k).sum+xs[k]:=by rw[List.take_succ_eq_append_getElem hlt,List.sum_append];simp
   have hb1:=HB.out (k+1) hlt
   rw[hs]at hb1
   have HS:=Lib.hid hs
   clear hs
   obtain⟨S,hS⟩:∃S,(xs.take k).sum=S:=⟨_,rfl⟩
   rw[hS]at hb1 HS ⊢
   clear hS
   go_wp2
   go_round
   case rel=>exact⟨k+1,by omega,by go_num,by rw[HS.out]⟩
   case measure=>simp[intOf];omega
  ·obtain rfl:k=xs.length:=by omega
   go_wp2
   go_ret
   exact⟨ret_int (by simp),rfl⟩
theorem hold_any (c:C.Sys) (vl:Value) (p b off:Int) (wt:ByteArray) (day:Int) (s:C.St) (st left:Int) (br:Nat) (w:World) (h0:0≤c.size) (h1:c.size≤1000000) (h2:0≤b) (h3:b≤8)
  (hb:Blk w br (runV c vl p b off wt day s st left) 279) :
  Calls Tryz.prog 153 #[.pointer (some ⟨br,0,none⟩)] w fun e w'=>e= .returned (.int .i64 (C.hold c b))∧Ext w w':=by
 have hm:0≤c.size*b∧c.size*b≤8000000:=⟨Int.mul_nonneg h0 h2,by have:=Int.mul_le_mul h1 h3 h2 (by omega);omega⟩
 have hw:IntKind.wrap .i64 (c.size*b)=c.size*b:=IntWalk.i64_in _ (by omega)
 have hh:C.hold c b=c.size*b:=rfl
 rw[hh]
 obtain⟨M,hM⟩:∃M,c.size*b=M:=⟨_,rfl⟩
 rw[hM]at hm hw ⊢
 have k0:=hb.cell
 have k1:=hb.lt
 have hpc:=plus_cell
 go_enter Tryz.func153,Tryz.ntmps153
 go_upto_region 1 with(fail)
 refine wp_region_ext 11 (fun _ _ d _ _ h=>by cases d<;>exact h) (by kernel_rfl) (by kernel_rfl) (by kernel_rfl) (by kernel_rfl) ?_
 simp only[List.take_succ_cons,List.take_zero,List.drop_succ_cons,List.drop_zero]
 repeat(any_goals(first|go_big_quiet_step(fail)|quiet_step(fail)))
 all_goals(refine wpQuiet_nil ?_;intro w2 hE2)
 go_wp2
 go_ret
 exact⟨rfl,hE2⟩
end Go.Proofs.YtgloajbgphcloaaGreat.Cl
namespace Go.Proofs.YtgloajbgphcloaaGreat.Cl
set_option linter.unusedVariables false
set_option linter.unusedSimpArgs false
open Go.RowKit
open Ext renaming setCell → Qc, trans → Qb
structure C.Ok (c:C.Sys):Prop where
 s0:0≤c.cloudy
 s1:c.cloudy≤c.sunny
 s2:c.sunny≤1000000
 z0:0≤c.size
 z1:c.size≤1000000
 f0:0≤c.fade
 f1:c.fade≤1000
 t0:0≤c.start
 t1:c.start≤1000
 n1:1≤c.loads.length
 n5:c.loads.length≤5
 d1:1≤c.days
 d10:c.days≤10
 w1:1≤c.window
 wd:c.window≤c.days
 m0:0≤c.most
 mw:c.most≤c.window
 p0:0≤c.panel
 p1:c.panel≤1000000
 b0:0≤c.battery
 b1:c.battery≤1000000
 load:∀l∈c.loads,0≤l.need∧l.need≤1000000∧0≤l.keep∧l.keep≤1000000
theorem C.ok_of {c:C.Sys} (h:C.sysB c=true):C.Ok c:=by
 unfold C.sysB C.headB C.restB C.within at h
 simp only[Bool.and_eq_true,decide_eq_true_eq,List.all_eq_true]at h
 obtain⟨⟨⟨⟨⟨⟨⟨h1,h2⟩,h3⟩,h4⟩,h5⟩,h6⟩,h7⟩,⟨⟨⟨⟨h8,h9⟩,h10⟩,h11⟩,h12⟩⟩:=h
 refine⟨by omega,by omega,by omega,by omega,by omega,by omega,by omega,by omega,by omega,by omega,by omega,by omega,by omega,by omega,by omega,by omega,by omega,by omega,by omega,by omega,by omega,fun l hl=> ?_⟩
 have:=h7 l hl
 unfold C.loadB C.within at this
 simp only[Bool.and_eq_true,decide_eq_true_eq]at this
 omega
theorem C.hold_bd {c:C.Sys} (O:C.Ok c) {b:Int} (h2:0≤b) (h3:b≤8):0≤C.hold c b∧C.hold c b≤8000000 :=
 ⟨Int.mul_nonneg O.z0 h2,by have:=Int.mul_le_mul O.z1 h3 h2 (by omega);unfold C.hold;omega⟩
theorem C.start_bd {c:C.Sys} (O:C.Ok c) {b:Int} (h2:0≤b) (h3:b≤8):0≤C.start c b∧C.start c b≤C.hold c b∧0≤C.hold c b*c.start∧C.hold c b*c.start≤8000000000:=by
 have h:=C.hold_bd O h2 h3
 have h4:0≤C.hold c b*c.start:=Int.mul_nonneg h.1 O.t0
 have h5:C.hold c b*c.start≤C.hold c b*1000:=Int.mul_le_mul_of_nonneg_left O.t1 h.1
 unfold C.start
 omega
abbrev C.st0 (c:C.Sys) (b:Int):C.St:=⟨C.start c b,0,0,0,0,0⟩
set_option maxRecDepth 100000 in
set_option maxHeartbeats 4000000 in
theorem run_any (c:C.Sys) (vl:Value) (hvl:∃a n k,vl= .slice a n k) (p b off:Int) (wt:ByteArray) (w:World) (O:C.Ok c) (h2:0≤b) (h3:b≤8) :
  Calls Tryz.prog 80 #[.agg (sysV c vl),.agg #[.int .i64 p,.int .i64 b],.int .i64 off,.string wt] w fun e w'=>∃br,e= .returned (.pointer (some ⟨br,0,none⟩))∧Blk w' br (runV c vl p b off wt 0 (C.st0 c b) (C.start c b) 0) 279∧w.heap.size≤br∧Ext w w':=by
 obtain⟨al,nl,kl,rfl⟩:=hvl
 have hbd:=C.start_bd O h2 h3
 have hH:=fun br w' hb=>hold_any c (.slice al nl kl) p b off wt 0 ⟨0,0,0,0,0,0⟩ 0 0 br w' O.z0 O.z1 h2 h3 hb
 obtain⟨Hh,hHh⟩:∃Hh,C.hold c b=Hh:=⟨_,rfl⟩
 have hst:C.start c b=Hh*c.start/1000:=by unfold C.start;rw[hHh]
 rw[hHh]at hbd
 simp only[hHh]at hH
 obtain⟨M,hM⟩:∃M,Hh*c.start=M:=⟨_,rfl⟩
 rw[hM]at hbd hst
 have hw:IntKind.wrap .i64 M=M:=IntWalk.i64_in _ (by omega)
 have HH:=Lib.hid hH
 have HST:=Lib.hid hst
 clear hH hHh hst
 have hpc:=plus_cell
 go_enter Tryz.func80,Tryz.ntmps80
 go_upto_region 2 with(fail)
 obtain⟨w1,hw1⟩:∃w1,((w.alloc (.cells (sysV c (.slice al nl kl)) 55)).alloc (.cells #[.int .i64 p,.int .i64 b] 176)).alloc (.cells (runV c (.slice al nl kl) p b off wt 0 ⟨0,0,0,0,0,0⟩ 0 0) 279)=w1:=⟨_,rfl⟩
 have hb0:Blk w1 w.heap.size (sysV c (.slice al nl kl)) 55:=by rw[← hw1];exact((Blk.new' rfl _ _).alloc _).alloc _
 have hb2:Blk w1 (w.heap.size+1+1) (runV c (.slice al nl kl) p b off wt 0 ⟨0,0,0,0,0,0⟩ 0 0) 279:=by rw[← hw1];exact Blk.new' (by simp) _ _
 have hE1:Ext w w1:=by rw[← hw1];(with_reducible(repeat(first|exact Ext.refl _|assumption|apply Ext.alloc|apply Ext.drew|exact ext_plus _ _|(apply Qc;rotate_left;(simp<;>omega))|(apply Qb;rotate_left;exact ext_plus _ _)|(apply Qb;rotate_left;assumption))))
 rw[hw1]
 clear hw1
 obtain⟨br,hbr⟩:∃br,w.heap.size+1+1=br:=⟨_,rfl⟩
 rw[hbr]at hb2 ⊢
 have k0:=hb0.cell
 have k1:=hb0.lt
 refine wp_region_ext 9 (fun _ _ d _ _ h=>by cases d<;>exact h) (by kernel_rfl) (by kernel_rfl) (by kernel_rfl) (by kernel_rfl) ?_
 simp only[List.take_succ_cons,List.take_zero,List.drop_succ_cons,List.drop_zero]
 repeat(any_goals(first|go_big_quiet_step((go_at_call 153;exact ext_quiet (HH.out br _ (hb2.ext (by(with_reducible(repeat(first|exact Ext.refl _|assumption|apply Ext.alloc|apply Ext.drew|exact ext_plus _ _|(apply Qc;rotate_left;(simp<;>omega))|(apply Qb;rotate_left;exact ext_plus _ _)|(apply Qb;rotate_left;assumption)))))))))|quiet_step((go_at_call 153;exact ext_quiet (HH.out br _ (hb2.ext (by(with_reducible(repeat(first|exact Ext.refl _|assumption|apply Ext.alloc|apply Ext.drew|exact ext_plus _ _|(apply Qc;rotate_left;(simp<;>omega))|(apply Qb;rotate_left;exact ext_plus _ _)|(apply Qb;rotate_left;assumption)))))))))))
 all_goals(refine wpQuiet_nil ?_;intro w2 hE2)
 have hb3:=hb2.ext hE2
 have d0:=hb3.cell
 have d1:=hb3.free
 have d2:=hb3.lt
 clear k0 k1
 go_upto_region 3 with(fail)
 rw[← HST.out]
 obtain⟨S,hS⟩:∃S,C.start c b=S:=⟨_,rfl⟩
 have hb4:Blk (w2.setCell ⟨br,16,none⟩ (.int .i64 S)) br (runV c (.slice al nl kl) p b off wt 0 ⟨S,0,0,0,0,0⟩ 0 0) 279:=by simpa using hb3.set 16 (.int .i64 S)
 have hE3:=(hE1.trans hE2).setCell (p:=⟨br,16,none⟩) (by simp;omega) (.int .i64 S)
 rw[hS]
 obtain⟨w3,hw3⟩:∃w3,w2.setCell ⟨br,16,none⟩ (.int .i64 S)=w3:=⟨_,rfl⟩
 rw[hw3]at hb4 hE3 ⊢
 have HS:=Lib.hid hS
 clear hw3 d0 d1 d2 hS
 have d0:=hb4.cell
 have d1:=hb4.free
 have d2:=hb4.lt
 go_wp2
 go_ret
 have hb5:Blk (w3.setCell ⟨br,18,none⟩ (.int .i64 S)) br (runV c (.slice al nl kl) p b off wt 0 ⟨S,0,0,0,0,0⟩ S 0) 279:=by simpa using hb4.set 18 (.int .i64 S)
 exact⟨br,rfl,by rw[C.st0,HS.out];exact hb5,by omega,hE3.setCell (p:=⟨br,18,none⟩) (by simp;omega) _⟩
end Go.Proofs.YtgloajbgphcloaaGreat.Cl
namespace Go.Proofs.YtgloajbgphcloaaGreat.Cl
set_option linter.unusedVariables false
set_option linter.unusedSimpArgs false
open Go.RowKit
open Act renaming put → Qe
open Ext renaming refl → Qd
open Lib renaming hid → Qa
open List renaming getElem_cons_succ → Qh, getElem_cons_zero → Qg, getElem_toArray → Qf, setIfInBounds_toArray → Qi, set_cons_succ → Qk, set_cons_zero → Qj
theorem two_sum (w:World) (x y:Int):Ints (w.alloc (.cells #[.int .i64 x,.int .i64 y] 3)) (.slice (some ⟨w.heap.size,0,none⟩) 2 2) [x,y]:=by
 have hB:=(Blk.new w #[.int .i64 x,.int .i64 y] 3)
 refine⟨_,_,rfl,fun i hi=>⟨w.heap.size,0,rfl,hB.lt,?_⟩⟩
 rw[hB.cell,Nat.zero_add]
 have hi2:i<2:=hi
 match i,hi2 with
 | 0,_=>rfl
 | 1,_=>rfl
theorem two_bd (x y:Int) (h1:0≤x) (h2:x≤100000000000) (h3:0≤y) (h4:y≤100000000000):∀k,k≤[x,y].length→ -1000000000000000≤([x,y].take k).sum∧([x,y].take k).sum≤1000000000000000:=by
 intro k hk
 match k,hk with
 | 0,_=>simp
 | 1,_=>simp;omega
 | 2,_=>simp;omega
theorem three_sum (w:World) (x y z:Int):Ints (w.alloc (.cells #[.int .i64 x,.int .i64 y,.int .i64 z] 3)) (.slice (some ⟨w.heap.size,0,none⟩) 3 3) [x,y,z]:=by
 have hB:=(Blk.new w #[.int .i64 x,.int .i64 y,.int .i64 z] 3)
 refine⟨_,_,rfl,fun i hi=>⟨w.heap.size,0,rfl,hB.lt,?_⟩⟩
 rw[hB.cell,Nat.zero_add]
 have hi2:i<3:=hi
 match i,hi2 with
 | 0,_=>rfl
 | 1,_=>rfl
 | 2,_=>rfl
theorem three_bd (x y z:Int) (h1:0≤x) (h2:x≤100000000000) (h3:0≤y) (h4:y≤100000000000) (h5: -100000000000≤z) (h6:z≤0):∀k,k≤[x,y,z].length→ -1000000000000000≤([x,y,z].take k).sum∧([x,y,z].take k).sum≤1000000000000000:=by
 intro k hk
 match k,hk with
 | 0,_=>simp
 | 1,_=>simp;omega
 | 2,_=>simp;omega
 | 3,_=>simp;omega
theorem str_at (s:ByteArray) (i:Nat) (x:UInt8) (h:s.data.toList[i]? =some x) (w:World):(Instr.index 9 (.string s) (.int .i64 (i:Int))).run Tryz.prog w= .ok (.int .u8 (x.toNat:Int)) w:=by
 obtain⟨hi,hx⟩:=List.getElem?_eq_some_iff.1 h
 have hs:i<s.size:=by simpa using hi
 rw[run_index_string w _ _ _ _ Tryz.underlying9,dif_pos ⟨by omega,by omega⟩]
 have e:s[(i:Int).toNat]'(by omega)=x:=by
  rw[← hx]
  simp only[Int.toNat_natCast]
  simp[ByteArray.getElem_eq_getElem_data]
 rw[e]
theorem sum2 (x y:Int) (w:World) (h1:0≤x) (h2:x≤100000000000) (h3:0≤y) (h4:y≤100000000000) :
  Calls Tryz.prog 205 #[.slice (some ⟨w.heap.size,0,none⟩) 2 2] (w.alloc (.cells #[.int .i64 x,.int .i64 y] 3)) fun e w'=>e= .returned (.int .i64 (x+y))∧w.alloc (.cells #[.int .i64 x,.int .i64 y] 3)=w' :=
 (sum_any _ [x,y] _ (two_sum _ _ _) (by simp) (two_bd _ _ h1 h2 h3 h4)).mono fun _ _ ⟨h1,h2⟩=>⟨by rw[h1];simp,h2⟩
structure C.Bd (s:C.St):Prop where
 e0:0≤s.e
 e1:s.e≤8000000
 s0:0≤s.sun
 s1:s.sun≤10000000000
 u0:0≤s.used
 u1:s.used≤10000000000
 l0:0≤s.lost
 l1:s.lost≤10000000000
 f0:0≤s.faded
 f1:s.faded≤10000000000
set_option maxRecDepth 100000 in
set_option maxHeartbeats 8000000 in
theorem sun_any (c:C.Sys) (vl:Value) (p b off:Int) (wt:ByteArray) (d:Nat) (s:C.St) (st left:Int) (br:Nat) (w:World) (O:C.Ok c) (hp0:0≤p) (hp1:p≤12) (h2:0≤b) (h3:b≤8) (B:C.Bd s)
  (x:UInt8) (hd:wt.data.toList[d]? =some x) (hd6:d≤1000) (hb:Blk w br (runV c vl p b off wt d s st left) 279) :
  Calls Tryz.prog 154 #[.pointer (some ⟨br,0,none⟩)] w fun e w'=>e= .returned (.tuple #[])∧Blk w' br (runV c vl p b off wt d (C.sunSt c p b x s) st left) 279∧Off br w w':=by
 have hH:=fun s' st' w' hb=>hold_any c vl p b off wt d s' st' left br w' O.z0 O.z1 h2 h3 hb
 have hhb:=C.hold_bd O h2 h3
 have hc0:=O.s0;have hc1:=O.s1;have hc2:=O.s2
 have hpc:=plus_cell
 have hix:=str_at wt d x hd
 obtain⟨each,heach⟩:∃each,(if x=99 then c.cloudy else c.sunny)=each:=⟨_,rfl⟩
 have hea:0≤each∧each≤1000000:=by rw[← heach];split<;>omega
 have hgp:0≤each*p∧each*p≤12000000:=⟨Int.mul_nonneg hea.1 hp0,by have:=Int.mul_le_mul hea.2 hp1 hp0 (by omega);omega⟩
 have hG:C.gives c p x=each*p:=by unfold C.gives;rw[heach]
 obtain⟨G,hGG⟩:∃G,each*p=G:=⟨_,rfl⟩
 have hwG:IntKind.wrap .i64 (each*p)=each*p:=IntWalk.i64_in _ (by omega)
 rw[hGG]at hG hgp hwG
 have e0:=B.e0;have e1:=B.e1;have q0:=B.s0;have q1:=B.s1;have q2:=B.l0;have q3:=B.l1
 obtain⟨F,hF⟩:∃F,C.full c b (s.e+G)=F:=⟨_,rfl⟩
 have hFd:F=if s.e+G<C.hold c b then s.e+G else C.hold c b:=hF.symm
 have hF0:0≤F∧F≤8000000:=by rw[hFd];split<;>omega
 have hres:C.sunSt c p b x s= { s with e:=F,sun:=s.sun+G,lost:=s.lost+(s.e+G)+ -F } :=by unfold C.sunSt;rw[hG,hF];simp only[Int.sub_eq_add_neg]
 rw[hres]
 obtain⟨Hh,hHh⟩:∃Hh,C.hold c b=Hh:=⟨_,rfl⟩
 simp only[hHh]at hH
 rw[hHh]at hFd hhb
 have HH:=Qa hH
 have HFD:=Qa hFd
 have HEA:=Qa heach
 have HGG:=Qa hGG
 clear hH hF hFd hres hHh hG heach B
 have k0:=hb.cell
 have k1:=hb.lt
 have k2:=hb.free
 have main:∀(v:Bool),((x.toNat:Int) == 99)=v→(if v then c.cloudy else c.sunny)=each→Calls Tryz.prog 154 #[.pointer (some ⟨br,0,none⟩)] w fun e w'=>e= .returned (.tuple #[])∧Blk w' br (runV c vl p b off wt d { s with e:=F,sun:=s.sun+G,lost:=s.lost+(s.e+G)+ -F } st left) 279∧Off br w w':=by
  intro v hv hev
  have HEV:=Qa hev
  clear hev
  go_enter Tryz.func154,Tryz.ntmps154
  go_upto_region 1 with(fail)
  refine wp_region_ext 10 (fun _ _ d _ _ h=>by cases d<;>exact h) (by kernel_rfl) (by kernel_rfl) (by kernel_rfl) (by kernel_rfl) ?_
  simp only[List.take_succ_cons,List.take_zero,List.drop_succ_cons,List.drop_zero]
  repeat(any_goals(first|go_big_quiet_step(fail)|quiet_step(fail)))
  refine wpQuiet_nil ?_
  intro w2 hE2
  unfold wpList
  have hb2:=hb.ext hE2
  clear k0 k1 k2
  have k0:=hb2.cell
  have k1:=hb2.lt
  have k2:=hb2.free
  go_upto_if 19 with(fail)
  go_cut [2]from 20 to 24 (fun s2 wc=>s2= .int .i64 each∧wc=w2)
  case first =>
   cases v with
   | true =>
    have hcl:c.cloudy=each:=HEV.out
    go_wp2
    go_meet
    exact⟨by first|rfl|rw[hcl],rfl⟩
   | false =>
    have hcl:c.sunny=each:=HEV.out
    go_wp2
    go_meet
    exact⟨by first|rfl|rw[hcl],rfl⟩
  case rest =>
  obtain⟨rfl,rfl⟩:=hcut
  rename World=>w2
  have hgg:=HGG.out
  go_upto_region 4 with(fail)
  clear hgg hwG
  go_upto_region 5 with(first|(go_at_call 205;refine(sum2 _ _ _ (by omega) (by omega) (by omega) (by omega)).mono ?_;rintro e w' ⟨rfl,rfl⟩))
  obtain⟨w3,hw3⟩:∃w3,w2.alloc (.cells #[.int .i64 s.e,.int .i64 G] 3)=w3:=⟨_,rfl⟩
  have hE3:Ext w2 w3:=by rw[← hw3];(with_reducible(repeat(first|exact Qd _|assumption|apply Ext.alloc|apply Ext.drew|exact ext_plus _ _|(apply Ext.setCell;rotate_left;(simp<;>omega))|(apply Ext.trans;rotate_left;exact ext_plus _ _)|(apply Ext.trans;rotate_left;assumption))))
  rw[hw3]
  clear hw3 k0 k1 k2
  have hb3:=hb2.ext hE3
  go_upto_region 6 with(first|(go_at_call 153;refine(HH.out _ _ _ hb3).mono ?_;rintro e w4 ⟨rfl,hE4⟩;have hb4:=hb3.ext hE4;have m0:=hb4.cell;have m1:=hb4.lt;have m2:=hb4.free))
  have hmn:(if Hh<s.e+G then Hh else s.e+G)=F:=by rw[HFD.out];split<;>split<;>omega
  rw[hmn]
  clear hmn
  have hb5:Blk (w4.setCell ⟨br,16,none⟩ (.int .i64 F)) br (runV c vl p b off wt d { s with e:=F } st left) 279:=by simpa using hb4.set 16 (.int .i64 F)
  have hO5:Off br w (w4.setCell ⟨br,16,none⟩ (.int .i64 F)):=(((hE2.trans hE3).trans hE4).off br).set (a:=⟨br,16,none⟩) (.inl rfl) (.int .i64 F)
  obtain⟨w5,hw5⟩:∃w5,w4.setCell ⟨br,16,none⟩ (.int .i64 F)=w5:=⟨_,rfl⟩
  rw[hw5]at hb5 hO5 ⊢
  clear hw5 m0 m1 m2 hE2 hE3 hE4
  have m0:=hb5.cell
  have m1:=hb5.lt
  have m2:=hb5.free
  go_upto_region 7 with(first|(go_at_call 205;refine(sum2 _ _ _ (by omega) (by omega) (by omega) (by omega)).mono ?_;rintro e w' ⟨rfl,rfl⟩))
  have hb6:Blk ((w5.setCell ⟨br,19,none⟩ (.int .i64 (s.sun+G))).alloc (.cells #[.int .i64 s.sun,.int .i64 G] 3)) br (runV c vl p b off wt d { s with e:=F,sun:=s.sun+G } st left) 279:=by have h:=hb5.set 19 (.int .i64 (s.sun+G));exact Blk.alloc (by simpa using h) _
  have hO6:=(hO5.set (a:=⟨br,19,none⟩) (.inl rfl) (.int .i64 (s.sun+G))).ext ((Qd _).alloc (.cells #[.int .i64 s.sun,.int .i64 G] 3))
  obtain⟨w6,hw6⟩:∃w6,(w5.setCell ⟨br,19,none⟩ (.int .i64 (s.sun+G))).alloc (.cells #[.int .i64 s.sun,.int .i64 G] 3)=w6:=⟨_,rfl⟩
  rw[hw6]at hb6 hO6 ⊢
  clear hw6 m0 m1 m2 hO5
  have hbd:=hb6.drew
  have hwn:IntKind.wrap .i64 (-F)= -F:=IntWalk.i64_in _ (by omega)
  refine wp_region_late 17 (fun cc y=>cc=false→∀o,y.cell? ⟨br,o,none⟩=(runV c vl p b off wt d { s with e:=F,sun:=s.sun+G } st left:Array Value)[o]?) (by kernel_rfl) (fun hL=> ?_)
  refine late_early (i:=0) (v:= ?_) rfl (by kernel_rfl) (by kernel_rfl) (by kernel_rfl) (by decide) (by kernel_rfl) (fun _ _ _ h=>h) hL (Or.inl ⟨by rfl,?_⟩) (fun _=>hbd.cell) (fun hL'=> ?_)
  rotate_left
  ·intro y hy;clear hy;go_simp;(try with_reducible rfl)
  clear hL;rename Shutb _ _=>hL
  (try simp only[Qe,Qf,Qg,Qh,Qi,Qj,Qk])
  refine late_early (i:=1) (v:= ?_) rfl (by kernel_rfl) (by kernel_rfl) (by kernel_rfl) (by decide) (by kernel_rfl) (fun _ _ _ h=>h) hL (Or.inl ⟨by rfl,?_⟩) (fun _=>hbd.cell) (fun hL'=> ?_)
  rotate_left
  ·intro y hy;clear hy;go_simp;(try with_reducible rfl)
  clear hL;rename Shutb _ _=>hL
  (try simp only[Qe,Qf,Qg,Qh,Qi,Qj,Qk])
  refine late_early (i:=2) (v:= ?_) rfl (by kernel_rfl) (by kernel_rfl) (by kernel_rfl) (by decide) (by kernel_rfl) (fun _ _ _ h=>h) hL (Or.inl ⟨by rfl,?_⟩) (fun _=>hbd.cell) (fun hL'=> ?_)
  rotate_left
  ·intro y hy;clear hy;go_simp;(try with_reducible rfl)
  clear hL;rename Shutb _ _=>hL
  (try simp only[Qe,Qf,Qg,Qh,Qi,Qj,Qk])
  refine late_early (i:=3) (v:= ?_) rfl (by kernel_rfl) (by kernel_rfl) (by kernel_rfl) (by decide) (by kernel_rfl) (fun _ _ _ h=>h) hL (Or.inl ⟨by rfl,?_⟩) (fun _=>hbd.cell) (fun hL'=> ?_)
  rotate_left
  ·intro y hy;clear hy;go_simp;(try with_reducible rfl)
  clear hL;rename Shutb _ _=>hL
  (try simp only[Qe,Qf,Qg,Qh,Qi,Qj,Qk])
  refine late_early (i:=4) (v:= ?_) rfl (by kernel_rfl) (by kernel_rfl) (by kernel_rfl) (by decide) (by kernel_rfl) (fun _ _ _ h=>h) hL (Or.inl ⟨by rfl,?_⟩) (fun _=>hbd.cell) (fun hL'=> ?_)
  rotate_left
  ·intro y hy;clear hy;go_simp;(try with_reducible rfl)
  clear hL;rename Shutb _ _=>hL
  (try simp only[Qe,Qf,Qg,Qh,Qi,Qj,Qk])
  refine late_early (i:=5) (v:= ?_) rfl (by kernel_rfl) (by kernel_rfl) (by kernel_rfl) (by decide) (by kernel_rfl) (fun _ _ _ h=>h) hL (Or.inl ⟨by rfl,?_⟩) (fun _=>hbd.cell) (fun hL'=> ?_)
  rotate_left
  ·intro y hy;have g1:=hy rfl;go_simp;(try with_reducible rfl)
  clear hL;rename Shutb _ _=>hL
  (try simp only[Qe,Qf,Qg,Qh,Qi,Qj,Qk])
  refine late_early (i:=6) (v:= ?_) rfl (by kernel_rfl) (by kernel_rfl) (by kernel_rfl) (by decide) (by kernel_rfl) (fun _ _ _ h=>h) hL (Or.inl ⟨by rfl,?_⟩) (fun _=>hbd.cell) (fun hL'=> ?_)
  rotate_left
  ·intro y hy;clear hy;go_simp;(try with_reducible rfl)
  clear hL;rename Shutb _ _=>hL
  (try simp only[Qe,Qf,Qg,Qh,Qi,Qj,Qk])
  refine late_early (i:=7) (v:= ?_) rfl (by kernel_rfl) (by kernel_rfl) (by kernel_rfl) (by decide) (by kernel_rfl) (fun _ _ _ h=>h) hL (Or.inl ⟨by rfl,?_⟩) (fun _=>hbd.cell) (fun hL'=> ?_)
  rotate_left
  ·intro y hy;clear hy;go_simp;(try with_reducible rfl)
  clear hL;rename Shutb _ _=>hL
  (try simp only[Qe,Qf,Qg,Qh,Qi,Qj,Qk])
  refine late_early (i:=8) (v:= ?_) rfl (by kernel_rfl) (by kernel_rfl) (by kernel_rfl) (by decide) (by kernel_rfl) (fun _ _ _ h=>h) hL (Or.inl ⟨by rfl,?_⟩) (fun _=>hbd.cell) (fun hL'=> ?_)
  rotate_left
  ·intro y hy;clear hy;go_simp;(try with_reducible rfl)
  clear hL;rename Shutb _ _=>hL
  (try simp only[Qe,Qf,Qg,Qh,Qi,Qj,Qk])
  refine late_early (i:=9) (v:= ?_) rfl (by kernel_rfl) (by kernel_rfl) (by kernel_rfl) (by decide) (by kernel_rfl) (fun _ _ _ h=>h) hL (Or.inl ⟨by rfl,?_⟩) (fun _=>hbd.cell) (fun hL'=> ?_)
  rotate_left
  ·intro y hy;clear hy;go_simp;(try with_reducible rfl)
  clear hL;rename Shutb _ _=>hL
  (try simp only[Qe,Qf,Qg,Qh,Qi,Qj,Qk])
  refine late_early (i:=10) (v:= ?_) rfl (by kernel_rfl) (by kernel_rfl) (by kernel_rfl) (by decide) (by kernel_rfl) (fun _ _ _ h=>h) hL (Or.inl ⟨by rfl,?_⟩) (fun _=>hbd.cell) (fun hL'=> ?_)
  rotate_left
  ·intro y hy;have g1:=hy rfl;go_simp;(try with_reducible rfl)
  clear hL;rename Shutb _ _=>hL
  (try simp only[Qe,Qf,Qg,Qh,Qi,Qj,Qk])
  refine late_early (i:=11) (v:= ?_) rfl (by kernel_rfl) (by kernel_rfl) (by kernel_rfl) (by decide) (by kernel_rfl) (fun _ _ _ h=>h) hL (Or.inl ⟨by rfl,?_⟩) (fun _=>hbd.cell) (fun hL'=> ?_)
  rotate_left
  ·intro y hy;clear hy;go_simp;(try with_reducible rfl)
  clear hL;rename Shutb _ _=>hL
  (try simp only[Qe,Qf,Qg,Qh,Qi,Qj,Qk])
  refine late_one (i:=12) (by kernel_rfl) hL (fun hL'=> ?_)
  refine wpOp_step rfl (fun K hK0=> ?_)
  have hK:Shut _:=hK0
  clear hK0
  go_simp
  refine hK.out _ _ ⟨fun _=>(hbd.alloc _).cell,?_⟩
  clear hK K;clear hL;rename Shutb _ _=>hL
  (try simp only[Qe,Qf,Qg,Qh,Qi,Qj,Qk])
  have hb7:Blk (w6.alloc (.cells #[.int .i64 s.lost,.int .i64 (s.e+G),.int .i64 (-F)] 3)).drew br (runV c vl p b off wt d { s with e:=F,sun:=s.sun+G } st left) 279:=(hb6.alloc _).drew
  have hI7:Ints (w6.alloc (.cells #[.int .i64 s.lost,.int .i64 (s.e+G),.int .i64 (-F)] 3)).drew (.slice (some ⟨w6.heap.size,0,none⟩) 3 3) [s.lost,s.e+G,-F]:=(three_sum w6 s.lost (s.e+G) (-F)).ext ((Qd _).drew)
  have hO7:Off br w (w6.alloc (.cells #[.int .i64 s.lost,.int .i64 (s.e+G),.int .i64 (-F)] 3)).drew:=hO6.ext (((Qd w6).alloc _).drew)
  obtain⟨w7,hw7⟩:∃w7,(w6.alloc (.cells #[.int .i64 s.lost,.int .i64 (s.e+G),.int .i64 (-F)] 3)).drew=w7:=⟨_,rfl⟩
  rw[hw7]at hb7 hI7 hO7 ⊢
  clear hw7
  have hS7:Calls Tryz.prog 205 #[.slice (some ⟨w6.heap.size,0,none⟩) 3 3] w7 fun e w'=>e= .returned (.int .i64 (s.lost+(s.e+G)+ -F))∧w7=w':=(sum_any _ [s.lost,s.e+G,-F] w7 hI7 (by simp) (three_bd _ _ _ (by omega) (by omega) (by omega) (by omega) (by omega) (by omega))).mono fun _ _ ⟨h1,h2⟩=>⟨by rw[h1];simp[Int.add_assoc],h2⟩
  refine late_one (i:=13) (by kernel_rfl) hL (fun hL'=> ?_)
  refine wpOp_step rfl (fun K hK0=> ?_)
  have hK:Shut _:=hK0
  clear hK0
  go_simp
  go_wp2_with (first|(go_at_call 205;refine hS7.mono ?_;rintro e w' ⟨rfl,rfl⟩))
  refine hK.out _ _ ⟨fun _=>hb7.cell,?_⟩
  clear hK K;clear hL;rename Shutb _ _=>hL
  (try simp only[Qe,Qf,Qg,Qh,Qi,Qj,Qk])
  have m0:=hb7.cell
  have m1:=hb7.lt
  have m2:=hb7.free
  refine late_one (i:=14) (by kernel_rfl) hL (fun hL'=> ?_)
  refine wpOp_step rfl (fun K hK0=> ?_)
  have hK:Shut _:=hK0
  clear hK0
  go_simp
  refine hK.out _ _ ⟨fun _=>hb7.cell,?_⟩
  clear hK K;clear hL;rename Shutb _ _=>hL
  (try simp only[Qe,Qf,Qg,Qh,Qi,Qj,Qk])
  refine late_one (i:=15) (by kernel_rfl) hL (fun hL'=> ?_)
  refine wpOp_step rfl (fun K hK0=> ?_)
  have hK:Shut _:=hK0
  clear hK0
  go_simp
  refine hK.out _ _ ⟨fun _=>hb7.cell,?_⟩
  clear hK K;clear hL;rename Shutb _ _=>hL
  (try simp only[Qe,Qf,Qg,Qh,Qi,Qj,Qk])
  refine late_one (i:=16) (by kernel_rfl) hL (fun hL'=> ?_)
  refine wpOp_step rfl (fun K hK0=> ?_)
  have hK:Shut _:=hK0
  clear hK0
  go_simp
  refine hK.out _ _ ⟨fun _=>hb7.cell,?_⟩
  clear hK K;clear hL;rename Shutb _ _=>hL
  (try simp only[Qe,Qf,Qg,Qh,Qi,Qj,Qk])
  refine late_one (i:=17) (by kernel_rfl) hL (fun hL'=> ?_)
  refine wpOp_step rfl (fun K hK0=> ?_)
  have hK:Shut _:=hK0
  clear hK0
  go_simp
  refine hK.out _ _ ⟨fun e=>absurd (e:true=false) (by decide),?_⟩
  clear hK K;clear hL;rename Shutb _ _=>hL
  (try simp only[Qe,Qf,Qg,Qh,Qi,Qj,Qk])
  refine late_done (by kernel_rfl) ?_
  (try dsimp only[Exit.then])
  have hb8:Blk (w7.setCell ⟨br,21,none⟩ (.int .i64 (s.lost+(s.e+G)+ -F))) br (runV c vl p b off wt d { s with e:=F,sun:=s.sun+G,lost:=s.lost+(s.e+G)+ -F } st left) 279:=by simpa using hb7.set 21 (.int .i64 (s.lost+(s.e+G)+ -F))
  have hO8:=hO7.set (a:=⟨br,21,none⟩) (.inl rfl) (.int .i64 (s.lost+(s.e+G)+ -F))
  clear m0 m1 m2 hS7
  go_wp2
  go_end0
  exact⟨rfl,hb8,hO8⟩
 rcases(Decidable.em (x=99))with hx|hx
 ·refine main true ?_ ?_
  ·subst hx;decide
  ·have:=HEA.out;rw[if_pos hx]at this;simpa using this
 ·refine main false ?_ ?_
  ·have hne:x.toNat≠99:=fun h=>hx (UInt8.toNat_inj.1 (by simpa using h))
   simp;omega
  ·have:=HEA.out;rw[if_neg hx]at this;simpa using this
end Go.Proofs.YtgloajbgphcloaaGreat.Cl
namespace Go.Proofs.YtgloajbgphcloaaGreat.Cl
set_option linter.unusedVariables false
set_option linter.unusedSimpArgs false
open Go.RowKit
set_option maxRecDepth 100000 in
set_option maxHeartbeats 8000000 in
theorem fades_any (c:C.Sys) (vl:Value) (p b off:Int) (wt:ByteArray) (d:Int) (s:C.St) (st left:Int) (br:Nat) (w:World) (O:C.Ok c) (B:C.Bd s)
  (hb:Blk w br (runV c vl p b off wt d s st left) 279) :
  Calls Tryz.prog 156 #[.pointer (some ⟨br,0,none⟩)] w fun e w'=>e= .returned (.tuple #[])∧Blk w' br (runV c vl p b off wt d (C.fadeSt c s) st left) 279∧Off br w w':=by
 have hf0:=O.f0;have hf1:=O.f1
 have hpc:=plus_cell
 have e0:=B.e0;have e1:=B.e1;have q0:=B.f0;have q1:=B.f1
 have hm:0≤s.e*c.fade∧s.e*c.fade≤8000000000:=⟨Int.mul_nonneg e0 hf0,by have:=Int.mul_le_mul e1 hf1 hf0 (by omega);omega⟩
 have hmb:s.e*c.fade≤s.e*1000:=Int.mul_le_mul_of_nonneg_left hf1 e0
 have hwm:IntKind.wrap .i64 (s.e*c.fade)=s.e*c.fade:=IntWalk.i64_in _ (by omega)
 have hF:C.fades c s.e=s.e*c.fade/1000:=rfl
 obtain⟨M,hM⟩:∃M,s.e*c.fade=M:=⟨_,rfl⟩
 rw[hM]at hm hmb hwm hF
 obtain⟨F,hFF⟩:∃F,C.fades c s.e=F:=⟨_,rfl⟩
 have hres:C.fadeSt c s= { s with e:=s.e - F,faded:=s.faded+F } :=by unfold C.fadeSt;rw[hFF]
 rw[hres]
 rw[hFF]at hF
 have hF0:0≤F∧F≤s.e:=by omega
 have HF:=Lib.hid hF
 clear hres hFF hF B
 have k0:=hb.cell
 have k1:=hb.lt
 have k2:=hb.free
 go_enter Tryz.func156,Tryz.ntmps156
 go_upto_region 0 with(fail)
 refine wp_region_ext 11 (fun _ _ d _ _ h=>by cases d<;>exact h) (by kernel_rfl) (by kernel_rfl) (by kernel_rfl) (by kernel_rfl) ?_
 simp only[List.take_succ_cons,List.take_zero,List.drop_succ_cons,List.drop_zero]
 repeat(any_goals(first|go_big_quiet_step(fail)|quiet_step(fail)))
 all_goals(refine wpQuiet_nil ?_;intro w2 hE2)
 have hb2:=hb.ext hE2
 clear k0 k1 k2
 have k0:=hb2.cell
 have k1:=hb2.lt
 have k2:=hb2.free
 rw[← HF.out]
 go_upto_region 2 with(fail)
 have hb3:Blk (w2.setCell ⟨br,16,none⟩ (.int .i64 (s.e - F))) br (runV c vl p b off wt d { s with e:=s.e - F } st left) 279:=by simpa using hb2.set 16 (.int .i64 (s.e - F))
 have hO3:=(hE2.off br).set (a:=⟨br,16,none⟩) (.inl rfl) (.int .i64 (s.e - F))
 obtain⟨w3,hw3⟩:∃w3,w2.setCell ⟨br,16,none⟩ (.int .i64 (s.e - F))=w3:=⟨_,rfl⟩
 rw[hw3]at hb3 hO3 ⊢
 clear hw3 k0 k1 k2
 have k0:=hb3.cell
 have k1:=hb3.lt
 have k2:=hb3.free
 go_wp2_with (first|(go_at_call 205;refine(sum2 _ _ _ (by omega) (by omega) (by omega) (by omega)).mono ?_;rintro e w' ⟨rfl,rfl⟩))
 go_end0
 have hb4:Blk ((w3.setCell ⟨br,22,none⟩ (.int .i64 (s.faded+F))).alloc (.cells #[.int .i64 s.faded,.int .i64 F] 3)) br (runV c vl p b off wt d { s with e:=s.e - F,faded:=s.faded+F } st left) 279:=by
  have h:=hb3.set 22 (.int .i64 (s.faded+F))
  exact Blk.alloc (by simpa using h) _
 exact⟨rfl,hb4,(hO3.set (a:=⟨br,22,none⟩) (.inl rfl) (.int .i64 (s.faded+F))).ext ((Ext.refl _).alloc _)⟩
end Go.Proofs.YtgloajbgphcloaaGreat.Cl
namespace Go.Proofs.YtgloajbgphcloaaGreat.Cl
set_option linter.unusedVariables false
set_option linter.unusedSimpArgs false
open Go.RowKit
open Act renaming put → Qe
open Lib renaming hid → Qa
open List renaming drop_succ_cons → Qo, drop_zero → Qp, getElem_cons_succ → Qh, getElem_cons_zero → Qg, getElem_toArray → Qf, setIfInBounds_toArray → Qi, set_cons_succ → Qk, set_cons_zero → Qj, take_succ_cons → Qm, take_zero → Qn
open Nat renaming lt_of_lt_of_le → Ql
theorem C.lat_at {l:List C.Load} {i:Nat} (h:i<l.length):C.lat l i=l[i]:=by
 unfold C.lat;rw[List.getD_eq_getElem?_getD,List.getElem?_eq_getElem h];rfl
theorem and_one:∀y:Fin 32,bits BinOp.and IntKind.i64 (y.val:Int) 1=(y.val:Int)%2:=by decide +kernel
theorem or_table:∀k:Fin 5,∀y:Fin 16,y.val<2^k.val→bits BinOp.or IntKind.i64 (y.val:Int) (2^k.val)=(y.val:Int)+2^k.val:=by decide +kernel
theorem or_pow {k y:Nat} (hk:k<5) (h:(y:Int)<2^k):bits BinOp.or IntKind.i64 (y:Int) (2^k)=(y:Int)+2^k:=by
 have h1:y<2^k:=by
  have:((y:Nat):Int)<((2^k:Nat):Int):=by rw[Int.natCast_pow];exact h
  omega
 have h2:2^k≤2^4:=Nat.pow_le_pow_right (by decide) (by omega)
 exact or_table ⟨k,hk⟩ ⟨y,by omega⟩ h1
def C.ldSt (c:C.Sys) (off:Int) (s:C.St) (k:Nat):C.St :=
 { s with e:=(C.loadsTo off c.loads ⟨s.e,0,s.used⟩ k).e,carried:=(C.loadsTo off c.loads ⟨s.e,0,s.used⟩ k).carried,used:=(C.loadsTo off c.loads ⟨s.e,0,s.used⟩ k).used }
theorem C.ldSt_zero (c:C.Sys) (off:Int) (s:C.St):C.ldSt c off s 0= { s with carried:=0 } :=rfl
theorem C.ldSt_all (c:C.Sys) (off:Int) (s:C.St):C.ldSt c off s c.loads.length=C.loadsSt c off s:=rfl
theorem C.ldSt_succ (c:C.Sys) (off:Int) (s:C.St) {k:Nat} (h:k<c.loads.length):C.ldSt c off s (k+1) =
  if C.has off k=false∧c.loads[k].need+c.loads[k].keep≤(C.ldSt c off s k).e then { C.ldSt c off s k with e:=(C.ldSt c off s k).e - c.loads[k].need,carried:=(C.ldSt c off s k).carried+2^k,used:=(C.ldSt c off s k).used+c.loads[k].need } else C.ldSt c off s k:=by
 unfold C.ldSt
 rw[C.loadsTo_succ]
 unfold C.loadStep
 rw[C.lat_at h]
 dsimp only
 split<;>rfl
theorem C.ldSt_bd {c:C.Sys} (O:C.Ok c) (off:Int) {s:C.St} (B:C.Bd s):∀k,k≤c.loads.length→0≤(C.ldSt c off s k).e∧(C.ldSt c off s k).e≤s.e∧0≤(C.ldSt c off s k).carried∧(C.ldSt c off s k).carried<2^k∧s.used≤(C.ldSt c off s k).used∧(C.ldSt c off s k).used+(C.ldSt c off s k).e=s.used+s.e
 | 0,_=>by
  have:=B.e0
  rw[C.ldSt_zero]
  exact⟨this,Int.le_refl _,Int.le_refl _,(show(0:Int)<2^0 by decide),Int.le_refl _,rfl⟩
 | k+1,hk=>by
  obtain⟨h1,h2,h3,h4,h5,h6⟩:=C.ldSt_bd O off B k (by omega)
  have hl:=O.load _ (List.getElem_mem (show k<c.loads.length by omega))
  have hp:(2:Int)^(k+1)=2^k*2:=Int.pow_succ _ _
  have hq:(0:Int)<2^k:=Int.pow_pos (by decide)
  rw[C.ldSt_succ c off s (by omega)]
  split
  ·rename_i hc
   dsimp only
   omega
  ·omega
set_option maxRecDepth 100000 in
set_option maxHeartbeats 8000000 in
theorem loads_any (c:C.Sys) (vl:Value) (p b off:Int) (wt:ByteArray) (d:Int) (s:C.St) (st left:Int) (br:Nat) (w0 w:World) (hE0:Ext w0 w) (hbr0:w0.heap.size≤br) (hLs:Loads w0 vl c.loads) (O:C.Ok c) (B:C.Bd s) (ho0:0≤off) (ho1:off<2^c.loads.length)
  (hb:Blk w br (runV c vl p b off wt d s st left) 279) :
  Calls Tryz.prog 155 #[.pointer (some ⟨br,0,none⟩)] w fun e w'=>e= .returned (.tuple #[])∧Blk w' br (runV c vl p b off wt d (C.loadsSt c off s) st left) 279∧Off br w w':=by
 obtain⟨al,cl,rfl,hx⟩:=hLs
 have HX:=Qa hx
 have hn5:=O.n5
 have HBD:=Qa (fun k hk=>C.ldSt_bd O off B k hk)
 have e0:=B.e0;have e1:=B.e1;have q0:=B.u0;have q1:=B.u1
 have hpc:=plus_cell
 have HLD:=Qa O.load
 have HSU:=Qa (fun(k:Nat) (h:k<c.loads.length)=>C.ldSt_succ c off s h)
 rw[← C.ldSt_all]
 have k0:=hb.cell
 have k1:=hb.lt
 have k2:=hb.free
 clear hx
 go_enter Tryz.func155,Tryz.ntmps155
 go_upto_region 1 with(fail)
 have hb1:Blk (w.setCell ⟨br,17,none⟩ (.int .i64 0)) br (runV c (.slice al c.loads.length cl) p b off wt d (C.ldSt c off s 0) st left) 279:=by rw[C.ldSt_zero];simpa using hb.set 17 (.int .i64 0)
 have hO1:Off br w (w.setCell ⟨br,17,none⟩ (.int .i64 0)):=(Off.refl br w).set (a:=⟨br,17,none⟩) (.inl rfl) (.int .i64 0)
 obtain⟨w1,hw1⟩:∃w1,w.setCell ⟨br,17,none⟩ (.int .i64 0)=w1:=⟨_,rfl⟩
 rw[hw1]at hb1 hO1 ⊢
 clear hw1 k0 k1 k2
 have k0:=hb1.cell
 have k1:=hb1.lt
 go_wp2
 go_loopw [2,3,13] (fun _ _ vi wr=>∃k:Nat,k≤c.loads.length∧vi= .int .i64 k∧Blk wr br (runV c (.slice al c.loads.length cl) p b off wt d (C.ldSt c off s k) st left) 279∧Off br w wr) (fun _ _ vi _=>c.loads.length - (intOf vi).toNat)
 case atStart=>exact⟨0,Nat.zero_le _,rfl,hb1,hO1⟩
 case round =>
  rename World=>wr
  clear k0 k1 hb1 hO1
  obtain⟨k,hk,rfl,hbk,hO⟩:=hrel
  have hE:Ext w0 wr:=hO.ext0 hE0 hbr0
  by_cases hlt:k<c.loads.length
  ·obtain⟨bl,ol,rfl,hbl,hAt⟩:=HX.out k hlt
   obtain⟨l0,l1,l2⟩:=load_cells (ate_stays _ _ _ _ _ _ hE hbl hAt)
   have hbll:=Ql hbl hE.size
   have hld:=HLD.out _ (List.getElem_mem hlt)
   have hsu:=HSU.out k hlt
   have hbd:=HBD.out k hk
   obtain⟨l,hl⟩:∃l,c.loads[k]=l:=⟨_,rfl⟩
   rw[hl]at l0 l1 l2 hld hsu
   obtain⟨s1,hs1⟩:∃s1,C.ldSt c off s k=s1:=⟨_,rfl⟩
   rw[hs1]at hsu hbd hbk
   have HSU2:=Qa hsu
   have hbne:bl<br:=Ql hbl hbr0
   have hO1':=Qa ho1
   clear hAt hl hs1 hsu ho1
   have k0:=hbk.cell
   have k1:=hbk.lt
   have k2:=hbk.free
   go_upto_region 4 with(fail)
   obtain⟨w2,hw2⟩:∃w2,wr.alloc (.cells (loadV l) 165)=w2:=⟨_,rfl⟩
   have hbL:Blk w2 wr.heap.size (loadV l) 165:=by rw[← hw2];exact Blk.new' rfl _ _
   have hE2:Ext wr w2:=by rw[← hw2];(with_reducible(repeat(first|exact Ext.refl _|assumption|apply Ext.alloc|apply Ext.drew|exact ext_plus _ _|(apply Ext.setCell;rotate_left;(simp<;>omega))|(apply Ext.trans;rotate_left;exact ext_plus _ _)|(apply Ext.trans;rotate_left;assumption))))
   rw[hw2]
   clear hw2 k0 k1 k2 l0 l1 l2
   obtain⟨bL,hbLe⟩:∃bL,wr.heap.size=bL:=⟨_,rfl⟩
   have hblt:=hbk.lt
   rw[hbLe]at hbL hblt ⊢
   have hb2:=hbk.ext hE2
   have k0:=hb2.cell
   have k1:=hb2.lt
   have l0:=hbL.cell
   have l1:=hbL.lt
   refine wp_region_ext 20 (fun _ _ d _ _ h=>by cases d<;>exact h) (by kernel_rfl) (by kernel_rfl) (by kernel_rfl) (by kernel_rfl) ?_
   simp only[Qm,Qn,Qo,Qp]
   have hk4:k<5:=by omega
   have hoff:0≤off/2^k∧off/2^k<32:=by
    have h1:(2:Int)^c.loads.length≤32:=by
     have h2:c.loads.length≤5:=hn5
     have h3:(2^c.loads.length:Nat)≤2^5:=Nat.pow_le_pow_right (by decide) h2
     have h4:((2^c.loads.length:Nat):Int)=2^c.loads.length:=by rw[Int.natCast_pow];rfl
     omega
    have h2:=hO1'.out
    have hq:(0:Int)<2^k:=Int.pow_pos (by decide)
    exact⟨Int.ediv_nonneg ho0 (by omega),Int.lt_of_le_of_lt (Int.ediv_le_self _ ho0) (by omega)⟩
   have hbit:(bits BinOp.and IntKind.i64 (off/2^k) 1 == 1)=C.has off k:=by
    obtain⟨y,hy⟩:=Int.eq_ofNat_of_zero_le hoff.1
    have h1:=and_one ⟨y,by omega⟩
    dsimp only at h1
    unfold C.has
    rw[hy,h1]
    rfl
   have hor0:bits BinOp.or IntKind.i64 s1.carried (2^k)=s1.carried+2^k:=by
    obtain⟨y,hy⟩:=Int.eq_ofNat_of_zero_le hbd.2.2.1
    have h4:=hbd.2.2.2.1
    rw[hy]at h4 ⊢
    exact or_pow hk4 h4
   have hwk:wrap64 (2^k)=2^k:=by
    have h2:(2^k:Nat)≤2^4:=Nat.pow_le_pow_right (by decide) (by omega)
    have h4:((2^k:Nat):Int)=2^k:=by rw[Int.natCast_pow];rfl
    have hq:(0:Int)<2^k:=Int.pow_pos (by decide)
    obtain⟨z,hz⟩:∃z:Int,(2:Int)^k=z:=⟨_,rfl⟩
    rw[hz]at h4 hq ⊢
    have h5:=IntWalk.i64_in z (by omega)
    first
     | exact h5
     | simpa[IntKind.wrap]using h5
     | (simp only[IntKind.wrap]at h5;exact h5)
     | (unfold wrap64;omega)
   have HOR:=Qa (And.intro hwk hor0)
   clear hwk
   obtain⟨x0,x1,x2,x3,x4,x5⟩:=hbd
   clear hor0 x3
   cases hh:C.has off k with
   | true =>
    have HSU3:Hid (C.ldSt c off s (k+1)=s1):=by have h:=HSU2.out;rw[hh]at h;exact(show C.ldSt c off s (k+1)=s1 by simpa using h)
    rw[hh]at hbit
    repeat(any_goals(first|go_big_quiet_step(fail)|quiet_step(fail)))
    all_goals(refine wpQuiet_nil ?_;intro w3 hEw3)
    unfold wpList
    clear k0 k1 l0 l1
    go_wp2
    go_roundw
    case rel=>exact⟨k+1,by omega,by go_num,by rw[HSU3.out];exact hb2.ext hEw3,(hO.ext hE2).ext hEw3⟩
    case measure=>simp[intOf];omega
   | false =>
    rw[hh]at hbit
    by_cases hen:l.need+l.keep≤s1.e
    ·have HSU3:Hid (C.ldSt c off s (k+1)= { s1 with e:=s1.e - l.need,carried:=s1.carried+2^k,used:=s1.used+l.need }):=by have h:=HSU2.out;rw[hh,if_pos ⟨rfl,hen⟩]at h;exact h
     have hen2:¬s1.e<l.need+l.keep:=by omega
     repeat(any_goals(first|go_big_quiet_step(fail)|quiet_step(fail)))
     all_goals(refine wpQuiet_nil ?_;intro w3 hEw3)
     unfold wpList
     have hb3:=hb2.ext hEw3
     have hL3:=hbL.ext hEw3
     clear k0 k1 l0 l1
     have k0:=hb3.cell
     have k1:=hb3.lt
     have k2:=hb3.free
     have l0:=hL3.cell
     have l1:=hL3.lt
     go_upto_region 5 with(fail)
     refine wp_region_ext 9 (fun _ _ d _ _ h=>by cases d<;>exact h) (by kernel_rfl) (by kernel_rfl) (by kernel_rfl) (by kernel_rfl) ?_
     simp only[Qm,Qn,Qo,Qp]
     repeat(any_goals(first|go_big_quiet_step(fail)|quiet_step(fail)))
     all_goals(refine wpQuiet_nil ?_;intro w4 hEw4)
     have hb4:=hb3.ext hEw4
     have hL4:=hL3.ext hEw4
     clear k0 k1 k2 l0 l1
     have k0:=hb4.cell
     have k1:=hb4.lt
     have k2:=hb4.free
     go_upto_region 6 with(fail)
     have hb5:Blk (w4.setCell ⟨br,16,none⟩ (.int .i64 (s1.e - l.need))) br (runV c (.slice (some ⟨bl,ol,none⟩) c.loads.length cl) p b off wt d { s1 with e:=s1.e - l.need } st left) 279:=by simpa using hb4.set 16 (.int .i64 (s1.e - l.need))
     have hL5:=hL4.other (a:=⟨br,16,none⟩) (by simp;omega) (.int .i64 (s1.e - l.need))
     have hO5:=(((hO.ext hE2).ext hEw3).ext hEw4).set (a:=⟨br,16,none⟩) (.inl rfl) (.int .i64 (s1.e - l.need))
     obtain⟨w5,hw5⟩:∃w5,w4.setCell ⟨br,16,none⟩ (.int .i64 (s1.e - l.need))=w5:=⟨_,rfl⟩
     rw[hw5]at hb5 hL5 hO5 ⊢
     clear hw5 k0 k1 k2
     have k0:=hb5.cell
     have k1:=hb5.lt
     refine wp_region_ext 9 (fun _ _ d _ _ h=>by cases d<;>exact h) (by kernel_rfl) (by kernel_rfl) (by kernel_rfl) (by kernel_rfl) ?_
     simp only[Qm,Qn,Qo,Qp]
     repeat(any_goals(first|go_big_quiet_step(fail)|quiet_step(fail)))
     all_goals(refine wpQuiet_nil ?_;intro w6 hEw6)
     have hb6:=hb5.ext hEw6
     have hL6:=hL5.ext hEw6
     clear k0 k1
     have k0:=hb6.cell
     have k1:=hb6.lt
     have k2:=hb6.free
     obtain⟨hwk,hor⟩:=HOR.out
     go_upto_region 7 with(fail)
     (try rw[hwk])
     (try rw[hor])
     clear hor hwk
     have hb7:Blk (w6.setCell ⟨br,17,none⟩ (.int .i64 (s1.carried+2^k))) br (runV c (.slice (some ⟨bl,ol,none⟩) c.loads.length cl) p b off wt d { s1 with e:=s1.e - l.need,carried:=s1.carried+2^k } st left) 279:=by simpa using hb6.set 17 (.int .i64 (s1.carried+2^k))
     have hL7:=hL6.other (a:=⟨br,17,none⟩) (by simp;omega) (.int .i64 (s1.carried+2^k))
     have hO7:=(hO5.ext hEw6).set (a:=⟨br,17,none⟩) (.inl rfl) (.int .i64 (s1.carried+2^k))
     obtain⟨w7,hw7⟩:∃w7,w6.setCell ⟨br,17,none⟩ (.int .i64 (s1.carried+2^k))=w7:=⟨_,rfl⟩
     rw[hw7]at hb7 hL7 hO7 ⊢
     clear hw7 k0 k1 k2
     have hbd:=hb7.drew
     have hLd:=hL7.drew
     refine wp_region_late 13 (fun cc y=>cc=false→((∀ o,y.cell? ⟨br,o,none⟩=(runV c (.slice (some ⟨bl,ol,none⟩) c.loads.length cl) p b off wt d { s1 with e:=s1.e - l.need,carried:=s1.carried+2^k } st left:Array Value)[o]?)∧(∀ o,y.cell? ⟨bL,o,none⟩=(loadV l:Array Value)[o]?))) (by kernel_rfl) (fun hL=> ?_)
     refine late_early (i:=0) (v:= ?_) rfl (by kernel_rfl) (by kernel_rfl) (by kernel_rfl) (by decide) (by kernel_rfl) (fun _ _ _ h=>h) hL (Or.inl ⟨by rfl,?_⟩) (fun _=>⟨hbd.cell,hLd.cell⟩) (fun hL'=> ?_)
     rotate_left
     ·intro y hy;clear hy;go_simp;(try with_reducible rfl)
     clear hL;rename Shutb _ _=>hL
     (try simp only[Qe,Qf,Qg,Qh,Qi,Qj,Qk])
     refine late_early (i:=1) (v:= ?_) rfl (by kernel_rfl) (by kernel_rfl) (by kernel_rfl) (by decide) (by kernel_rfl) (fun _ _ _ h=>h) hL (Or.inl ⟨by rfl,?_⟩) (fun _=>⟨hbd.cell,hLd.cell⟩) (fun hL'=> ?_)
     rotate_left
     ·intro y hy;clear hy;go_simp;(try with_reducible rfl)
     clear hL;rename Shutb _ _=>hL
     (try simp only[Qe,Qf,Qg,Qh,Qi,Qj,Qk])
     refine late_early (i:=2) (v:= ?_) rfl (by kernel_rfl) (by kernel_rfl) (by kernel_rfl) (by decide) (by kernel_rfl) (fun _ _ _ h=>h) hL (Or.inl ⟨by rfl,?_⟩) (fun _=>⟨hbd.cell,hLd.cell⟩) (fun hL'=> ?_)
     rotate_left
     ·intro y hy;clear hy;go_simp;(try with_reducible rfl)
     clear hL;rename Shutb _ _=>hL
     (try simp only[Qe,Qf,Qg,Qh,Qi,Qj,Qk])
     refine late_early (i:=3) (v:= ?_) rfl (by kernel_rfl) (by kernel_rfl) (by kernel_rfl) (by decide) (by kernel_rfl) (fun _ _ _ h=>h) hL (Or.inl ⟨by rfl,?_⟩) (fun _=>⟨hbd.cell,hLd.cell⟩) (fun hL'=> ?_)
     rotate_left
     ·intro y hy;clear hy;go_simp;(try with_reducible rfl)
     clear hL;rename Shutb _ _=>hL
     (try simp only[Qe,Qf,Qg,Qh,Qi,Qj,Qk])
     refine late_early (i:=4) (v:= ?_) rfl (by kernel_rfl) (by kernel_rfl) (by kernel_rfl) (by decide) (by kernel_rfl) (fun _ _ _ h=>h) hL (Or.inl ⟨by rfl,?_⟩) (fun _=>⟨hbd.cell,hLd.cell⟩) (fun hL'=> ?_)
     rotate_left
     ·intro y hy;clear hy;go_simp;(try with_reducible rfl)
     clear hL;rename Shutb _ _=>hL
     (try simp only[Qe,Qf,Qg,Qh,Qi,Qj,Qk])
     refine late_early (i:=5) (v:= ?_) rfl (by kernel_rfl) (by kernel_rfl) (by kernel_rfl) (by decide) (by kernel_rfl) (fun _ _ _ h=>h) hL (Or.inl ⟨by rfl,?_⟩) (fun _=>⟨hbd.cell,hLd.cell⟩) (fun hL'=> ?_)
     rotate_left
     ·intro y hy;have hz:=hy rfl;clear hy;obtain⟨g1,g2⟩:=hz;go_simp;(try with_reducible rfl)
     clear hL;rename Shutb _ _=>hL
     (try simp only[Qe,Qf,Qg,Qh,Qi,Qj,Qk])
     refine late_early (i:=6) (v:= ?_) rfl (by kernel_rfl) (by kernel_rfl) (by kernel_rfl) (by decide) (by kernel_rfl) (fun _ _ _ h=>h) hL (Or.inl ⟨by rfl,?_⟩) (fun _=>⟨hbd.cell,hLd.cell⟩) (fun hL'=> ?_)
     rotate_left
     ·intro y hy;clear hy;go_simp;(try with_reducible rfl)
     clear hL;rename Shutb _ _=>hL
     (try simp only[Qe,Qf,Qg,Qh,Qi,Qj,Qk])
     refine late_early (i:=7) (v:= ?_) rfl (by kernel_rfl) (by kernel_rfl) (by kernel_rfl) (by decide) (by kernel_rfl) (fun _ _ _ h=>h) hL (Or.inl ⟨by rfl,?_⟩) (fun _=>⟨hbd.cell,hLd.cell⟩) (fun hL'=> ?_)
     rotate_left
     ·intro y hy;have hz:=hy rfl;clear hy;obtain⟨g1,g2⟩:=hz;go_simp;(try with_reducible rfl)
     clear hL;rename Shutb _ _=>hL
     (try simp only[Qe,Qf,Qg,Qh,Qi,Qj,Qk])
     refine late_one (i:=8) (by kernel_rfl) hL (fun hL'=> ?_)
     refine wpOp_step rfl (fun K hK0=> ?_)
     have hK:Shut _:=hK0
     clear hK0
     go_simp
     refine hK.out _ _ ⟨fun _=>⟨(hbd.alloc _).cell,(hLd.alloc _).cell⟩,?_⟩
     clear hK K;clear hL;rename Shutb _ _=>hL
     (try simp only[Qe,Qf,Qg,Qh,Qi,Qj,Qk])
     have hb8:Blk (w7.alloc (.cells #[.int .i64 s1.used,.int .i64 l.need] 3)).drew br (runV c (.slice (some ⟨bl,ol,none⟩) c.loads.length cl) p b off wt d { s1 with e:=s1.e - l.need,carried:=s1.carried+2^k } st left) 279:=(hb7.alloc _).drew
     have hL8:Blk (w7.alloc (.cells #[.int .i64 s1.used,.int .i64 l.need] 3)).drew bL (loadV l) 165:=(hL7.alloc _).drew
     have hI8:Ints (w7.alloc (.cells #[.int .i64 s1.used,.int .i64 l.need] 3)).drew (.slice (some ⟨w7.heap.size,0,none⟩) 2 2) [s1.used,l.need]:=(two_sum w7 s1.used l.need).ext ((Ext.refl _).drew)
     have hO8:Off br w (w7.alloc (.cells #[.int .i64 s1.used,.int .i64 l.need] 3)).drew:=hO7.ext (((Ext.refl w7).alloc _).drew)
     obtain⟨w8,hw8⟩:∃w8,(w7.alloc (.cells #[.int .i64 s1.used,.int .i64 l.need] 3)).drew=w8:=⟨_,rfl⟩
     rw[hw8]at hb8 hL8 hI8 hO8 ⊢
     clear hw8
     have hS8:Calls Tryz.prog 205 #[.slice (some ⟨w7.heap.size,0,none⟩) 2 2] w8 fun e w'=>e= .returned (.int .i64 (s1.used+l.need))∧w8=w':=(sum_any _ [s1.used,l.need] w8 hI8 (by simp) (two_bd _ _ (by omega) (by omega) (by omega) (by omega))).mono fun _ _ ⟨h1,h2⟩=>⟨by rw[h1];simp,h2⟩
     refine late_one (i:=9) (by kernel_rfl) hL (fun hL'=> ?_)
     refine wpOp_step rfl (fun K hK0=> ?_)
     have hK:Shut _:=hK0
     clear hK0
     go_simp
     go_wp2_with (first|(go_at_call 205;refine hS8.mono ?_;rintro e w' ⟨rfl,rfl⟩))
     refine hK.out _ _ ⟨fun _=>⟨hb8.cell,hL8.cell⟩,?_⟩
     clear hK K;clear hL;rename Shutb _ _=>hL
     (try simp only[Qe,Qf,Qg,Qh,Qi,Qj,Qk])
     have m0:=hb8.cell
     have m1:=hb8.lt
     have m2:=hb8.free
     refine late_one (i:=10) (by kernel_rfl) hL (fun hL'=> ?_)
     refine wpOp_step rfl (fun K hK0=> ?_)
     have hK:Shut _:=hK0
     clear hK0
     go_simp
     refine hK.out _ _ ⟨fun _=>⟨hb8.cell,hL8.cell⟩,?_⟩
     clear hK K;clear hL;rename Shutb _ _=>hL
     (try simp only[Qe,Qf,Qg,Qh,Qi,Qj,Qk])
     refine late_one (i:=11) (by kernel_rfl) hL (fun hL'=> ?_)
     refine wpOp_step rfl (fun K hK0=> ?_)
     have hK:Shut _:=hK0
     clear hK0
     go_simp
     refine hK.out _ _ ⟨fun _=>⟨hb8.cell,hL8.cell⟩,?_⟩
     clear hK K;clear hL;rename Shutb _ _=>hL
     (try simp only[Qe,Qf,Qg,Qh,Qi,Qj,Qk])
     refine late_one (i:=12) (by kernel_rfl) hL (fun hL'=> ?_)
     refine wpOp_step rfl (fun K hK0=> ?_)
     have hK:Shut _:=hK0
     clear hK0
     go_simp
     refine hK.out _ _ ⟨fun _=>⟨hb8.cell,hL8.cell⟩,?_⟩
     clear hK K;clear hL;rename Shutb _ _=>hL
     (try simp only[Qe,Qf,Qg,Qh,Qi,Qj,Qk])
     refine late_one (i:=13) (by kernel_rfl) hL (fun hL'=> ?_)
     refine wpOp_step rfl (fun K hK0=> ?_)
     have hK:Shut _:=hK0
     clear hK0
     go_simp
     refine hK.out _ _ ⟨fun e=>absurd (e:true=false) (by decide),?_⟩
     clear hK K;clear hL;rename Shutb _ _=>hL
     (try simp only[Qe,Qf,Qg,Qh,Qi,Qj,Qk])
     refine late_done (by kernel_rfl) ?_
     (try dsimp only[Exit.then])
     have hb9:Blk (w8.setCell ⟨br,20,none⟩ (.int .i64 (s1.used+l.need))) br (runV c (.slice (some ⟨bl,ol,none⟩) c.loads.length cl) p b off wt d { s1 with e:=s1.e - l.need,carried:=s1.carried+2^k,used:=s1.used+l.need } st left) 279:=by simpa using hb8.set 20 (.int .i64 (s1.used+l.need))
     have hO9:=hO8.set (a:=⟨br,20,none⟩) (.inl rfl) (.int .i64 (s1.used+l.need))
     clear m0 m1 m2 hS8
     go_wp2
     go_roundw
     case rel=>exact⟨k+1,by omega,by go_num,by rw[HSU3.out];exact hb9,hO9⟩
     case measure=>simp[intOf];omega
    ·have HSU3:Hid (C.ldSt c off s (k+1)=s1):=by have h:=HSU2.out;rw[if_neg (fun e=>hen e.2)]at h;exact h
     have hen2:s1.e<l.need+l.keep:=by omega
     repeat(any_goals(first|go_big_quiet_step(fail)|quiet_step(fail)))
     all_goals(refine wpQuiet_nil ?_;intro w3 hEw3)
     unfold wpList
     clear k0 k1 l0 l1
     go_wp2
     go_roundw
     case rel=>exact⟨k+1,by omega,by go_num,by rw[HSU3.out];exact hb2.ext hEw3,(hO.ext hE2).ext hEw3⟩
     case measure=>simp[intOf];omega
  ·obtain rfl:k=c.loads.length:=by omega
   go_wp2
   go_end0
   exact⟨rfl,hbk,hO⟩
end Go.Proofs.YtgloajbgphcloaaGreat.Cl
namespace Go.Proofs.YtgloajbgphcloaaGreat.Cl
set_option linter.unusedVariables false
set_option linter.unusedSimpArgs false
open Go.RowKit
structure C.Bk (c:C.Sys) (b:Int) (k:Nat) (s:C.St):Prop where
 e0:0≤s.e
 e1:s.e≤C.hold c b
 s0:0≤s.sun
 s1:s.sun≤12000000*k
 u0:0≤s.used
 u1:s.used≤8000000*k
 l0:0≤s.lost
 l1:s.lost≤20000000*k
 f0:0≤s.faded
 f1:s.faded≤8000000*k
theorem C.gives_bd {c:C.Sys} (O:C.Ok c) {p:Int} (hp0:0≤p) (hp1:p≤12) (x:UInt8):0≤C.gives c p x∧C.gives c p x≤12000000:=by
 have h0:=O.s0;have h1:=O.s1;have h2:=O.s2
 unfold C.gives
 obtain⟨each,heach⟩:∃each,(if x=99 then c.cloudy else c.sunny)=each:=⟨_,rfl⟩
 have hea:0≤each∧each≤1000000:=by rw[← heach];split<;>omega
 rw[heach]
 exact⟨Int.mul_nonneg hea.1 hp0,by have:=Int.mul_le_mul hea.2 hp1 hp0 (by omega);omega⟩
theorem C.full_bd {c:C.Sys} {b:Int} (hh:0≤C.hold c b) {n:Int} (h:0≤n):0≤C.full c b n∧C.full c b n≤C.hold c b∧C.full c b n≤n:=by
 unfold C.full;split<;>omega
theorem C.fades_bd {c:C.Sys} (O:C.Ok c) {e:Int} (h:0≤e):0≤C.fades c e∧C.fades c e≤e:=by
 have h1:0≤e*c.fade:=Int.mul_nonneg h O.f0
 have h2:e*c.fade≤e*1000:=Int.mul_le_mul_of_nonneg_left O.f1 h
 unfold C.fades
 omega
theorem C.day_bd {c:C.Sys} (O:C.Ok c) {p b:Int} (hp0:0≤p) (hp1:p≤12) (hb0:0≤b) (hb1:b≤8) (off:Int) {k:Nat} (hk:k≤20) (x:UInt8) {s:C.St} (B:C.Bk c b k s) :
  C.Bd (C.sunSt c p b x s)∧C.Bd (C.loadsSt c off (C.sunSt c p b x s))∧C.Bk c b (k+1) (C.daySt c p b off x s)∧0≤(C.daySt c p b off x s).carried∧(C.daySt c p b off x s).carried<2^c.loads.length:=by
 have hh:=C.hold_bd O hb0 hb1
 have hg:=C.gives_bd O hp0 hp1 x
 obtain⟨e0,e1,s0,s1,u0,u1,l0,l1,f0,f1⟩:=B
 have hf:=C.full_bd (c:=c) (b:=b) hh.1 (n:=s.e+C.gives c p x) (by omega)
 have B1:C.Bd (C.sunSt c p b x s):=by
  unfold C.sunSt
  constructor<;>dsimp only<;>omega
 have hl:=C.ldSt_bd O off B1 c.loads.length (Nat.le_refl _)
 rw[C.ldSt_all]at hl
 have e2:(C.loadsSt c off (C.sunSt c p b x s)).sun=s.sun+C.gives c p x:=rfl
 have e3:(C.loadsSt c off (C.sunSt c p b x s)).lost=s.lost+(s.e+C.gives c p x) - C.full c b (s.e+C.gives c p x):=rfl
 have e4:(C.loadsSt c off (C.sunSt c p b x s)).faded=s.faded:=rfl
 have e5:(C.sunSt c p b x s).e=C.full c b (s.e+C.gives c p x):=rfl
 have e6:(C.sunSt c p b x s).used=s.used:=rfl
 rw[e5,e6]at hl
 obtain⟨y,hy⟩:∃y,C.loadsSt c off (C.sunSt c p b x s)=y:=⟨_,rfl⟩
 have hd:C.daySt c p b off x s=C.fadeSt c y:=by unfold C.daySt;rw[hy]
 rw[hd,hy]
 rw[hy]at hl e2 e3 e4
 obtain⟨h1,h2,h3,h4,h5,h6⟩:=hl
 have hz:=C.fades_bd O h1
 refine⟨B1,?_,?_,?_,?_⟩
 ·constructor<;>omega
 ·unfold C.fadeSt
  constructor<;>dsimp only<;>omega
 ·exact h3
 ·exact h4
theorem C.state_bd {c:C.Sys} (O:C.Ok c) {p b:Int} (hp0:0≤p) (hp1:p≤12) (hb0:0≤b) (hb1:b≤8) (off:Int) (w:C.Txt):∀k,k≤21→C.Bk c b k (C.stateAt c p b off w k)
 | 0,_=>by
  have hh:=C.start_bd O hb0 hb1
  unfold C.stateAt
  constructor<;>dsimp only<;>omega
 | k+1,hk=>(C.day_bd O hp0 hp1 hb0 hb1 off (by omega) _ (C.state_bd O hp0 hp1 hb0 hb1 off w k (by omega))).2.2.1
theorem C.Bk.bd {c:C.Sys} (O:C.Ok c) {b:Int} (hb0:0≤b) (hb1:b≤8) {k:Nat} (hk:k≤21) {s:C.St} (B:C.Bk c b k s):C.Bd s:=by
 have hh:=C.hold_bd O hb0 hb1
 obtain⟨e0,e1,s0,s1,u0,u1,l0,l1,f0,f1⟩:=B
 constructor<;>omega
theorem C.carried_bd {c:C.Sys} (O:C.Ok c) {p b:Int} (hp0:0≤p) (hp1:p≤12) (hb0:0≤b) (hb1:b≤8) (off:Int) (w:C.Txt) (k:Nat) (hk:k≤20):0≤(C.stateAt c p b off w (k+1)).carried∧(C.stateAt c p b off w (k+1)).carried<2^c.loads.length :=
 (C.day_bd O hp0 hp1 hb0 hb1 off hk _ (C.state_bd O hp0 hp1 hb0 hb1 off w k (by omega))).2.2.2
end Go.Proofs.YtgloajbgphcloaaGreat.Cl
namespace Go.Proofs.YtgloajbgphcloaaGreat.Cl
set_option linter.unusedVariables false
set_option linter.unusedSimpArgs false
open Go.RowKit
theorem pow_bd {n:Nat} (hn:n≤10):1≤(2:Int)^n∧(2:Int)^n≤1024:=by
 have:n=0∨n=1∨n=2∨n=3∨n=4∨n=5∨n=6∨n=7∨n=8∨n=9∨n=10:=by omega
 rcases this with rfl|rfl|rfl|rfl|rfl|rfl|rfl|rfl|rfl|rfl|rfl<;>decide
end Go.Proofs.YtgloajbgphcloaaGreat.Cl
namespace Go.Proofs.YtgloajbgphcloaaGreat.Cl
set_option linter.unusedVariables false
set_option linter.unusedSimpArgs false
open Go.RowKit
theorem u8_eq (x:UInt8) (n:Nat) (hn:n<256):((x.toNat:Int) == (n:Int))=(x == UInt8.ofNat n):=by
 rw[Bool.eq_iff_iff]
 simp only[beq_iff_eq]
 constructor
 ·intro h
  have h1:x.toNat=n:=by omega
  rw[← h1];simp
 ·rintro rfl
  simp[Nat.mod_eq_of_lt hn]
end Go.Proofs.YtgloajbgphcloaaGreat.Cl
namespace Go.Proofs.YtgloajbgphcloaaGreat.Cl
set_option linter.unusedVariables false
set_option linter.unusedSimpArgs false
open Go.RowKit
open Lib renaming hid → Qa
theorem loads_step {l:List C.Load} {k:Nat} (hk:k<l.length) (h:(l.take k).all C.loadB=true):(l.take (k+1)).all C.loadB=C.loadB l[k]:=by
 rw[List.take_succ_eq_append_getElem hk,List.all_append,h];simp
theorem loads_false {l:List C.Load} {k:Nat} (hk:k<l.length) (h:C.loadB l[k]=false):l.all C.loadB=false:=by
 rw[List.all_eq_false]
 exact⟨_,List.getElem_mem hk,by rw[h];decide⟩
set_option maxRecDepth 100000 in
set_option maxHeartbeats 8000000 in
theorem dsystem_any (c:C.Sys) (vl:Value) (w:World) (hL:Loads w vl c.loads) (hn:c.loads.length≤1000000) :
  Calls Tryz.prog 18 #[.agg (sysV c vl)] w fun e w'=>e= .returned (.bool (C.sysB c))∧Ext w w':=by
 obtain⟨a,cap,rfl,hx⟩:=hL
 have HX:=Qa hx
 clear hx
 go_enter Tryz.func18,Tryz.ntmps18
 go_wp2
 obtain⟨w1,hw1⟩:∃w1,w.alloc (.cells (sysV c (.slice a c.loads.length cap)) 55)=w1:=⟨_,rfl⟩
 have hb:Blk w1 w.heap.size (sysV c (.slice a c.loads.length cap)) 55:=by rw[← hw1];exact Blk.new' rfl _ _
 have hE:Ext w w1:=by rw[← hw1];(with_reducible(repeat(first|exact Ext.refl _|assumption|apply Ext.alloc|apply Ext.drew|exact ext_plus _ _|(apply Ext.setCell;rotate_left;(simp<;>omega))|(apply Ext.trans;rotate_left;exact ext_plus _ _)|(apply Ext.trans;rotate_left;assumption))))
 rw[hw1]
 clear hw1
 have hc:=hb.cell
 have hl:=hb.lt
 go_loop [3] (fun i=>∃k:Nat,k≤c.loads.length∧i= .int .i64 k∧(c.loads.take k).all C.loadB=true) (fun i=>c.loads.length - (intOf i).toNat)
 case atStart=>exact⟨0,Nat.zero_le _,rfl,by simp⟩
 case round =>
  obtain⟨k,hk,rfl,hall⟩:=hrel
  have HALL:=Qa hall
  clear hall
  by_cases hlt:k<c.loads.length
  ·obtain⟨b,off,rfl,hbl,hAt⟩:=HX.out k hlt
   obtain⟨h0,h1,h2⟩:=load_cells (ate_stays _ _ _ _ _ _ hE hbl hAt)
   have hbz:=Nat.lt_of_lt_of_le hbl hE.size
   have HS:=Qa (loads_step hlt HALL.out)
   have HF:=Qa (fun h=>loads_false hlt h)
   obtain⟨l,hl'⟩:∃l,c.loads[k]=l:=⟨_,rfl⟩
   rw[hl']at h0 h1 h2 HS HF
   clear hAt hl'
   go_wp2_with (first|(go_at_call 71;refine(din_any _ _ _ _).mono ?_;rintro e w' ⟨rfl,rfl⟩))
   all_goals first
    | (refine⟨⟨k+1,by omega,by go_num,?_⟩,by simp[intOf];omega⟩;rw[HS.out];unfold C.loadB;simp_all;done)
    | (go_ret;refine⟨ret_bool ?_,hE⟩;have h:=HF.out (by unfold C.loadB;simp_all);unfold C.sysB;rw[h];simp;done)
    | skip
  ·obtain rfl:k=c.loads.length:=by omega
   have h:=HALL.out
   rw[List.take_length]at h
   have HA:=Qa h
   clear h
   go_wp2_with (first|(go_at_call 71;refine(din_any _ _ _ _).mono ?_;rintro e w' ⟨rfl,rfl⟩))
   all_goals(go_ret;refine⟨ret_bool ?_,hE⟩;unfold C.sysB C.headB C.restB;rw[HA.out];simp_all)
end Go.Proofs.YtgloajbgphcloaaGreat.Cl
namespace Go.Proofs.YtgloajbgphcloaaGreat.Cl
set_option linter.unusedVariables false
set_option linter.unusedSimpArgs false
open Go.RowKit
open List renaming take_succ_eq_append_getElem → Qq
theorem agrees_step {s t:List UInt8} {k:Nat} {x y:UInt8} (hx:s[k]? =some x) (hy:t[k]? =some y) (hp:C.agrees (s.take k) (t.take k)=true) :
  C.agrees (s.take (k+1)) (t.take (k+1))=(y == 63||y == x):=by
 obtain⟨h1,rfl⟩:=List.getElem?_eq_some_iff.1 hx
 obtain⟨h2,rfl⟩:=List.getElem?_eq_some_iff.1 hy
 unfold C.agrees at hp ⊢
 rw[Qq h1,Qq h2,List.zip_append (by simp;omega),List.all_append,hp];simp
theorem agrees_false {s t:List UInt8} {k:Nat} {x y:UInt8} (hx:s[k]? =some x) (hy:t[k]? =some y) (hp:(y == 63||y == x)=false):C.agrees s t=false:=by
 obtain⟨h1,rfl⟩:=List.getElem?_eq_some_iff.1 hx
 obtain⟨h2,rfl⟩:=List.getElem?_eq_some_iff.1 hy
 unfold C.agrees
 rw[List.all_eq_false]
 refine⟨(s[k],t[k]),List.mem_iff_getElem.2 ⟨k,by simp;omega,by simp⟩,?_⟩
 rw[show((s[k],t[k]).2 == 63||(s[k],t[k]).2 == (s[k],t[k]).1)=false from hp];decide
theorem agrees_take {s t:List UInt8} {k:Nat} (hk:k=min s.length t.length):C.agrees (s.take k) (t.take k)=C.agrees s t:=by
 have h:(s.take k).zip (t.take k)=s.zip t:=by
  apply List.ext_getElem
  ·simp;omega
  ·intro i h1 h2;simp
 unfold C.agrees
 rw[h]
theorem agrees_mul {s t:List UInt8} :C.agrees (s.take 0) (t.take 0)=true:=rfl
end Go.Proofs.YtgloajbgphcloaaGreat.Cl
namespace Go.Proofs.YtgloajbgphcloaaGreat.Cl
set_option linter.unusedVariables false
set_option linter.unusedSimpArgs false
open Go.RowKit
theorem cloudy_step {s:List UInt8} {f j:Nat} {x:UInt8} (h:s[f+j]? =some x):C.cloudy s f (j+1)=C.cloudy s f j+if(x == UInt8.ofNat 99)then 1 else 0:=by
 obtain⟨hk,rfl⟩:=List.getElem?_eq_some_iff.1 h
 unfold C.cloudy
 rw[List.take_succ_eq_append_getElem (by simp;omega),List.count_append,List.count_singleton]
 simp
theorem cloudy_le {s:List UInt8} {f j:Nat} :C.cloudy s f j≤j:=by
 unfold C.cloudy
 refine Nat.le_trans List.count_le_length ?_
 simp;omega
theorem range_step {p:Nat→Bool} {k:Nat} (h:(List.range k).all p=true):(List.range (k+1)).all p=p k:=by
 rw[List.range_succ,List.all_append,h];simp
theorem range_false {p:Nat→Bool} {k n:Nat} (hk:k<n) (h:p k=false):(List.range n).all p=false:=by
 rw[List.all_eq_false]
 exact⟨k,List.mem_range.2 hk,by rw[h];decide⟩
end Go.Proofs.YtgloajbgphcloaaGreat.Cl
namespace Go.Proofs.YtgloajbgphcloaaGreat.Cl
set_option linter.unusedVariables false
set_option linter.unusedSimpArgs false
open Go.RowKit
open Lib renaming hid → Qa
open Nat renaming le_refl → Qr
theorem u8_nat (x y:UInt8):(x == y)=((x.toNat:Int) == (y.toNat:Int)):=by
 rw[Bool.eq_iff_iff];simp[← UInt8.toNat_inj];omega
theorem nat_get {s:ByteArray} {pos:Nat} (h:pos<s.size):s.data.toList[pos]? =some s[pos]:=by
 rw[List.getElem?_eq_getElem (by simpa using h)];rfl
theorem _root_.Go.Proofs.YtgloajbgphcloaaGreat.Ext.iterAt {a w:World} (h:Ext a w) {k:Nat} (hk:a.heap.size≤k) (s:ByteArray) (pos:Nat):Ext a (w.iterAt k s pos):=Lib.below_iterAt h hk s pos
theorem _root_.Go.Proofs.YtgloajbgphcloaaGreat.Ext.iter {a w:World} (h:Ext a w) (s:ByteArray) (pos:Nat):Ext a (w.iter s pos):=h.alloc _
def isIn (o:List UInt8) (r:Int):Bool:=o.any fun y=>r == (y.toNat:Int)
theorem isIn_snoc (o:List UInt8) (y:UInt8) (r:Int):isIn (o++[y]) r=(isIn o r||r == (y.toNat:Int)):=by
 simp[isIn]
theorem isIn_byte (o:List UInt8) (x:UInt8):isIn o (x.toNat:Int)=o.contains x:=by
 unfold isIn
 rw[List.contains_eq_any_beq]
 congr 1
 funext y
 rw[u8_nat]
theorem isIn_high (o:List UInt8) (ho:∀y∈o,y.toNat<128) (r:Int) (hr:128≤r):isIn o r=false:=by
 unfold isIn
 rw[List.any_eq_false]
 intro y hy
 have:=ho y hy
 simp;omega
theorem take_snoc_at {T:List UInt8} {k:Nat} {x:UInt8} (h:T[k]? =some x):T.take (k+1)=T.take k++[x]:=by
 obtain⟨hk,rfl⟩:=List.getElem?_eq_some_iff.1 h
 rw[List.take_succ_eq_append_getElem hk]
set_option maxRecDepth 100000 in
set_option maxHeartbeats 4000000 in
theorem letters_any (s o:ByteArray) (d:Int) (w:World) (hs:s.size≤1000000) (ho:o.size≤1000) (ha:∀y∈o.data.toList,y.toNat<128) :
  Calls Tryz.prog 77 #[.string s,.int .i64 d,.string o] w fun e w'=>e= .returned (.bool (s.data.toList.all (fun x=>o.data.toList.contains x)&&decide ((s.size:Int)=d)))∧Ext w w':=by
 have hlen:s.data.toList.length=s.size:=by simp
 have hlo:o.data.toList.length=o.size:=by simp
 have hgs:∀pos,(h:pos<s.size)→s.data.toList[pos]? =some s[pos]:=fun pos h=>nat_get h
 have hgo:∀pos,(h:pos<o.size)→o.data.toList[pos]? =some o[pos]:=fun pos h=>nat_get h
 obtain⟨T,hT⟩:∃T,s.data.toList=T:=⟨_,rfl⟩
 obtain⟨U,hU⟩:∃U,o.data.toList=U:=⟨_,rfl⟩
 rw[hT]at hlen ⊢
 rw[hU]at hlo ha ⊢
 simp only[hT]at hgs
 simp only[hU]at hgo
 have HLEN:=Qa hlen
 have HLO:=Qa hlo
 have HGS:=Qa hgs
 have HGO:=Qa hgo
 have HA:=Qa ha
 clear hlen hlo hgs hgo ha hT hU
 go_enter Tryz.func77,Tryz.ntmps77
 go_wp2
 go_loopw [9] (fun _ wr=>∃pos:Nat,pos≤s.size∧wr.heap[w.heap.size]? =some (.stringIter s pos)∧(T.take pos).all (fun x=>U.contains x)=true∧Ext w wr) (fun _ wr=>s.size - wr.iterPos w.heap.size)
 case atStart=>exact⟨0,Nat.zero_le _,World.iter_heap w s 0,rfl,Ext.iter (Ext.refl w) s 0⟩
 case round =>
  rename World=>wr
  obtain⟨pos,hpos,hit,hall,hE⟩:=hrel
  have HALL:=Qa hall
  have hpos0:=iterPos_of hit
  have hzl:=(Array.getElem?_eq_some_iff.1 hit).1
  clear hall
  by_cases hp:pos<s.size
  ·have hnx:∀ty,(Instr.next (.pointer (some ⟨w.heap.size,0,none⟩)) true ty).run Tryz.prog wr=_:=fun ty=>Lib.run_next_any_at wr w.heap.size s pos ty hit hp
   have hwd:(Utf8.decode s pos).2=1∧((Utf8.decode s pos).1:Int)=(s[pos].toNat:Int)∨isIn U (Utf8.decode s pos).1=false∧U.contains s[pos]=false:=by
    rcases Nat.lt_or_ge s[pos].toNat 128 with h|h
    ·left;rw[decode_ascii s pos hp h];exact⟨rfl,rfl⟩
    ·right
     have:=decode_high s pos hp h
     refine⟨isIn_high U HA.out _ (by omega),?_⟩
     rw[← isIn_byte];exact isIn_high U HA.out _ (by omega)
   have hle:=decode_le s pos
   have hit2:=Lib.iterAt_heap wr w.heap.size s pos (pos+(Utf8.decode s pos).2) hit
   have hE2:=hE.iterAt (k:=w.heap.size) (Qr _) s (pos+(Utf8.decode s pos).2)
   obtain⟨W1,hW1⟩:∃W1,wr.iterAt w.heap.size s (pos+(Utf8.decode s pos).2)=W1:=⟨_,rfl⟩
   rw[hW1]at hnx hit2 hE2
   obtain⟨r,hr⟩:∃r,(Utf8.decode s pos).1=r:=⟨_,rfl⟩
   obtain⟨wd,hwdd⟩:∃wd,(Utf8.decode s pos).2=wd:=⟨_,rfl⟩
   rw[hr,hwdd]at hwd
   rw[hr]at hnx hle
   rw[hwdd]at hit2
   have HX:=Qa (HGS.out pos hp)
   obtain⟨x,hx⟩:∃x,s[pos]=x:=⟨_,rfl⟩
   rw[hx]at hwd HX
   have HWD:=Qa hwd
   clear hW1 hr hwdd hx hwd hit hE
   have hz1:=(Array.getElem?_eq_some_iff.1 hit2).1
   go_wp2
   have hit3:(W1.iter o 0).heap[w.heap.size]? =some (.stringIter s (pos+wd)):=(Below.heap_alloc _ _ _ hz1).trans hit2
   have hit4:=World.iter_heap W1 o 0
   have hE3:=hE2.iter o 0
   have hzz:w.heap.size≠W1.heap.size:=by omega
   obtain⟨z,hz⟩:∃z,W1.heap.size=z:=⟨_,rfl⟩
   obtain⟨W2,hW2⟩:∃W2,W1.iter o 0=W2:=⟨_,rfl⟩
   rw[hz]at hit4 hz1 hzz ⊢
   rw[hW2]at hit3 hit4 hE3 ⊢
   have hwz:w.heap.size≤z:=by have:=hE2.size;omega
   clear hz hW2 hE2 hit2
   go_loopw [9] (fun v wy=>∃q:Nat,q≤o.size∧v= .bool (isIn (U.take q) r)∧wy.heap[z]? =some (.stringIter o q)∧wy.heap[w.heap.size]? =some (.stringIter s (pos+wd))∧Ext w wy) (fun _ wy=>o.size - wy.iterPos z)
   case atStart=>exact⟨0,Nat.zero_le _,rfl,hit4,hit3,hE3⟩
   case round =>
    rename World=>wy
    obtain⟨q,hq,rfl,hitz,hits,hEy⟩:=hrel
    have hq0:=iterPos_of hitz
    have hzz2:=(Array.getElem?_eq_some_iff.1 hitz).1
    by_cases hql:q<o.size
    ·have hu:=HGO.out q hql
     have hy128:=HA.out _ (List.mem_of_getElem? hu)
     have hny:∀ty,(Instr.next (.pointer (some ⟨z,0,none⟩)) true ty).run Tryz.prog wy=_:=fun ty=>Lib.run_next_ascii_at wy z o q ty hitz hql hy128
     have hitz2:=Lib.iterAt_heap wy z o q (q+1) hitz
     have hits2:=(Lib.iterAt_other wy z w.heap.size o (q+1) hzz).trans hits
     have hEy2:=hEy.iterAt hwz o (q+1)
     have hst:isIn (U.take (q+1)) r=(isIn (U.take q) r||(r:Int) == (o[q].toNat:Int)):=by rw[take_snoc_at hu,isIn_snoc]
     obtain⟨y,hyy⟩:∃y,o[q]=y:=⟨_,rfl⟩
     rw[hyy]at hny hst hy128
     obtain⟨W3,hW3⟩:∃W3,wy.iterAt z o (q+1)=W3:=⟨_,rfl⟩
     rw[hW3]at hny hitz2 hits2 hEy2
     have HST:=Qa hst
     obtain⟨Y,hY⟩:∃Y:Nat,y.toNat=Y:=⟨_,rfl⟩
     rw[hY]at hny HST hy128
     obtain⟨B,hB⟩:∃B,isIn (U.take q) r=B:=⟨_,rfl⟩
     rw[hB]at HST ⊢
     obtain⟨E,hEE⟩:∃E,((r:Int) == (Y:Int))=E:=⟨_,rfl⟩
     rw[hEE]at HST
     clear hW3 hst hyy hitz hits hEy hu hY hB
     cases B with
     | true =>
      clear hEE
      go_wp2
      go_roundw
      case rel=>exact⟨q+1,by omega,by rw[HST.out];rfl,hitz2,hits2,hEy2⟩
      case measure=>rw[iterPos_of hitz2,hq0];omega
     | false =>
      go_wp2
      go_roundw
      case rel=>exact⟨q+1,by omega,by rw[HST.out];rfl,hitz2,hits2,hEy2⟩
      case measure=>rw[iterPos_of hitz2,hq0];omega
    ·obtain rfl:q=o.size:=by omega
     have hny:∀ty,(Instr.next (.pointer (some ⟨z,0,none⟩)) true ty).run Tryz.prog wy=_:=fun ty=>Lib.run_next_end_at wy z o o.size ty hitz hql
     have htk:U.take o.size=U:=List.take_of_length_le (by rw[HLO.out];exact Qr _)
     rw[htk]
     have hres:isIn U r=U.contains x:=by
      rcases HWD.out with⟨_,h⟩|⟨h1,h2⟩
      ·rw[h,isIn_byte]
      ·rw[h1,h2]
     rw[hres]
     have hwd1:U.contains x=true→wd=1:=fun h=>by
      rcases HWD.out with⟨h1,_⟩|⟨_,h2⟩
      ·exact h1
      ·rw[h2]at h;cases h
     have HW1:=Qa hwd1
     obtain⟨B,hB⟩:∃B,U.contains x=B:=⟨_,rfl⟩
     rw[hB]at HW1 ⊢
     have HB:=Qa hB
     clear hres hB hwd1 htk
     cases B with
     | true =>
      have hw1:=HW1.out rfl
      subst hw1
      go_wp2
      go_roundw
      case rel=>exact⟨pos+1,by omega,hits,by rw[take_snoc_at HX.out,List.all_append,HALL.out];simpa using HB.out,hEy⟩
      case measure=>rw[iterPos_of hits,hpos0];omega
     | false =>
      go_wp2
      go_ret
      have hf:T.all (fun x=>U.contains x)=false:=by
       rw[List.all_eq_false]
       exact⟨x,List.mem_of_getElem? HX.out,by rw[HB.out];decide⟩
      exact⟨ret_bool (by rw[hf];rfl),hEy⟩
  ·obtain rfl:pos=s.size:=by omega
   have hnx:∀ty,(Instr.next (.pointer (some ⟨w.heap.size,0,none⟩)) true ty).run Tryz.prog wr=_:=fun ty=>Lib.run_next_end_at wr w.heap.size s s.size ty hit hp
   have h:=HALL.out
   rw[List.take_of_length_le (by rw[HLEN.out];exact Qr _)]at h
   have HH:=Qa h
   clear h
   go_wp2
   go_ret
   exact⟨ret_bool (by rw[HH.out];rfl),hE⟩
end Go.Proofs.YtgloajbgphcloaaGreat.Cl
namespace Go.Proofs.YtgloajbgphcloaaGreat.Cl
set_option linter.unusedVariables false
set_option linter.unusedSimpArgs false
open Go.RowKit
open Ext renaming alloc → Qs, drew → Qt, refl → Qd, setCell → Qc, trans → Qb
open Lib renaming hid → Qa
open Nat renaming lt_of_lt_of_le → Ql
set_option maxRecDepth 100000 in
set_option maxHeartbeats 4000000 in
theorem given_any (c:C.Sys) (p b off:Int) (vl:Value) (w:World) (hL:Loads w vl c.loads) (hn:c.loads.length≤1000000) :
  Calls Tryz.prog 76 #[.agg (sysV c vl),.agg #[.int .i64 p,.int .i64 b],.int .i64 off] w fun e w'=>e= .returned (.bool (C.sysB c&&C.partsB p b&&C.offB c off))∧Ext w w':=by
 have hL':=hL
 obtain⟨a,cap,rfl,_⟩:=hL'
 have hva:=fun w' (hx:Ext w w')=>valid_any c _ w' (hL.ext hx) hn
 obtain⟨B,hB⟩:∃B,C.sysB c=B:=⟨_,rfl⟩
 simp only[hB]at hva
 have HVA:=Qa hva
 clear hva
 cases B with
 | false =>
  rw[hB]
  clear hB
  go_enter Tryz.func76,Tryz.ntmps76
  go_wp2_with (first|(go_at_call 125;refine(HVA.out _ (by(with_reducible(repeat(first|exact Qd _|assumption|apply Qs|apply Qt|exact ext_plus _ _|(apply Qc;rotate_left;(simp<;>omega))|(apply Qb;rotate_left;exact ext_plus _ _)|(apply Qb;rotate_left;assumption)))))).mono ?_;rintro e w' ⟨rfl,hb⟩;have hE2:Ext w w':=(by(with_reducible(repeat(first|exact Qd _|assumption|apply Qs|apply Qt|exact ext_plus _ _|(apply Qc;rotate_left;(simp<;>omega))|(apply Qb;rotate_left;exact ext_plus _ _)|(apply Qb;rotate_left;assumption)))));have hbx:=Blk.ext ((Blk.new w (sysV c (.slice a c.loads.length cap)) 55).alloc _) hb;have hby:=Blk.ext (Blk.new' (w:=(w.alloc (.cells (sysV c (.slice a c.loads.length cap)) 55))) (b:=w.heap.size+1) (by simp) #[.int .i64 p,.int .i64 b] 176) hb;have k0:=hbx.cell;have l0:=hbx.lt;have k1:=hby.cell;have l1:=hby.lt)|(go_at_call 150;refine(in_any _ _ _ _).mono ?_;rintro e w' ⟨rfl,rfl⟩))
  all_goals(go_ret;exact⟨rfl,hE2⟩)
 | true =>
  have O:=C.ok_of hB
  have h1:=O.n1
  have h5:=O.n5
  have hof:C.offB c off=C.within off 0 (2^c.loads.length - 1):=rfl
  rw[hB,hof]
  obtain⟨n,hnn⟩:∃n,c.loads.length=n:=⟨_,rfl⟩
  rw[hnn]at h1 h5 HVA ⊢
  clear hB O hof hn hnn
  have hn5:n=1∨n=2∨n=3∨n=4∨n=5:=by omega
  clear h1 h5
  have hpt:C.partsB p b=(C.within p 0 12&&C.within b 0 8):=rfl
  rw[hpt]
  clear hpt
  obtain⟨B1,hB1⟩:∃B1,C.within p 0 12=B1:=⟨_,rfl⟩
  obtain⟨B2,hB2⟩:∃B2,C.within b 0 8=B2:=⟨_,rfl⟩
  have HI1:=Qa (fun w'=>in_any p 0 12 w')
  have HI2:=Qa (fun w'=>in_any b 0 8 w')
  rw[hB1,hB2]
  rw[hB1]at HI1
  rw[hB2]at HI2
  clear hB1 hB2
  rcases hn5 with rfl|rfl|rfl|rfl|rfl
  all_goals
   go_enter Tryz.func76,Tryz.ntmps76
   go_wp2_with (first|(go_at_call 125;refine(HVA.out _ (by(with_reducible(repeat(first|exact Qd _|assumption|apply Qs|apply Qt|exact ext_plus _ _|(apply Qc;rotate_left;(simp<;>omega))|(apply Qb;rotate_left;exact ext_plus _ _)|(apply Qb;rotate_left;assumption)))))).mono ?_;rintro e w' ⟨rfl,hb⟩;have hE2:Ext w w':=(by(with_reducible(repeat(first|exact Qd _|assumption|apply Qs|apply Qt|exact ext_plus _ _|(apply Qc;rotate_left;(simp<;>omega))|(apply Qb;rotate_left;exact ext_plus _ _)|(apply Qb;rotate_left;assumption)))));have hbx:=Blk.ext ((Blk.new w (sysV c (.slice a _ cap)) 55).alloc _) hb;have hby:=Blk.ext (Blk.new' (w:=(w.alloc (.cells (sysV c (.slice a _ cap)) 55))) (b:=w.heap.size+1) (by simp) #[.int .i64 p,.int .i64 b] 176) hb;have k0:=hbx.cell;have l0:=hbx.lt;have k1:=hby.cell;have l1:=hby.lt)|(go_at_call 150;(with_reducible refine(HI1.out _).mono ?_);rintro e w' ⟨rfl,rfl⟩)|(go_at_call 150;(with_reducible refine(HI2.out _).mono ?_);rintro e w' ⟨rfl,rfl⟩)|(go_at_call 150;refine(in_any _ _ _ _).mono ?_;rintro e w' ⟨rfl,rfl⟩))
   all_goals(go_ret;exact⟨ret_bool (by simp_all),hE2⟩)
theorem extract_get {s:ByteArray} {k W j:Nat} (hj:j<W) (hk:k+W≤s.size) (h:j<(s.extract k (k+W)).size):(s.extract k (k+W))[j]=s[k+j]'(by omega):=by
 rw[ByteArray.getElem_extract]
theorem extract_size {s:ByteArray} {k W:Nat} (hk:k+W≤s.size):(s.extract k (k+W)).size=W:=by
 rw[ByteArray.size_extract];omega
set_option maxRecDepth 100000 in
set_option maxHeartbeats 4000000 in
theorem allowed_any (c:C.Sys) (s:ByteArray) (vl:Value) (hvl:∃a n k,vl= .slice a n k) (w:World) (hs:(s.size:Int)=c.days) (hd:c.days≤1000) (hw1:1≤c.window) (hwd:c.window≤c.days) (ha:∀y∈s.data.toList,y.toNat<128) :
  Calls Tryz.prog 152 #[.agg (sysV c vl),.string s] w fun e w'=>e= .returned (.bool (C.allowed c s.data.toList))∧Ext w w':=by
 obtain⟨al,nl,kl,rfl⟩:=hvl
 have hlen:s.data.toList.length=s.size:=by simp
 have hgs:∀pos,(h:pos<s.size)→s.data.toList[pos]? =some s[pos]:=fun pos h=>nat_get h
 obtain⟨T,hT⟩:∃T,s.data.toList=T:=⟨_,rfl⟩
 rw[hT]at hlen ha ⊢
 simp only[hT]at hgs
 have HLEN:=Qa hlen
 have HGS:=Qa hgs
 have HA:=Qa ha
 clear hlen hT hgs ha
 obtain⟨W,hW⟩:∃W:Nat,c.window=W:=⟨c.window.toNat,by omega⟩
 obtain⟨p,hp⟩:∃p:Nat→Bool,p=fun f=>decide ((C.cloudy T f W:Int)≤c.most):=⟨_,rfl⟩
 have hres:C.allowed c T=(List.range (s.size+1 - W)).all p:=by
  unfold C.allowed
  rw[HLEN.out,hW,hp];rfl
 rw[hres]
 have HP:=Qa hp
 clear hres hp
 obtain⟨S,hS⟩:∃S:Nat,s.size=S:=⟨_,rfl⟩
 have hSd:c.days=S:=by omega
 have HSZ:=Qa hS
 rw[hS]
 rw[hW]at hw1 hwd
 rw[hSd]at hwd hd
 have HW:=Qa hW
 have HSD:=Qa hSd
 clear hS hs hW hSd
 go_enter Tryz.func152,Tryz.ntmps152
 go_upto_region 1 with(fail)
 obtain⟨w1,hw1'⟩:∃w1,w.alloc (.cells (sysV c (.slice al nl kl)) 55)=w1:=⟨_,rfl⟩
 have hb:Blk w1 w.heap.size (sysV c (.slice al nl kl)) 55:=by rw[← hw1'];exact Blk.new' rfl _ _
 have hE:Ext w w1:=by rw[← hw1'];(with_reducible(repeat(first|exact Qd _|assumption|apply Qs|apply Qt|exact ext_plus _ _|(apply Qc;rotate_left;(simp<;>omega))|(apply Qb;rotate_left;exact ext_plus _ _)|(apply Qb;rotate_left;assumption))))
 rw[hw1']
 clear hw1'
 have hc:=hb.cell
 have hl:=hb.lt
 unfold sysV at hc
 rw[HW.out,HSD.out]at hc
 go_wp2
 go_loopw [6,15] (fun _ i wr=>∃k:Nat,k≤S+1 - W∧i= .int .i64 k∧(List.range k).all p=true∧Ext w1 wr) (fun _ i _=>S+1 - (intOf i).toNat)
 case atStart=>exact⟨0,Nat.zero_le _,rfl,rfl,Qd _⟩
 case round =>
  rename World=>wr
  obtain⟨k,hk,rfl,hall,hEr⟩:=hrel
  have HALL:=Qa hall
  clear hall
  have hcr:=fun o=>(hEr.cells.1 w.heap.size o hl).trans (hc o)
  have hlr:=Ql hl hEr.size
  by_cases hlt:k+W≤S
  ·have hsl:∀wx,(Instr.slice 9 (.string s) (some (.int .i64 (k:Int))) (some (.int .i64 ((k:Int)+(W:Int)))) none).run Tryz.prog wx= .ok (.string (s.extract k (k+W))) wx:=fun wx=>by
    have:=run_slice_string (P:=Tryz.prog) wx 9 s .i64 .i64 (k:Int) ((k:Int)+(W:Int)) Tryz.underlying9 (by omega) (by omega) (by rw[HSZ.out];omega)
    have e:((k:Int)+(W:Int)).toNat=k+W:=by omega
    rw[e,Int.toNat_natCast]at this
    exact this
   have hz0:=extract_size (s:=s) (k:=k) (W:=W) (by rw[HSZ.out];exact hlt)
   have hgx:∀j,j<W→T[k+j]? =(s.extract k (k+W)).data.toList[j]? :=fun j hj=>by
    have h1:j<(s.extract k (k+W)).size:=by rw[hz0];exact hj
    rw[HGS.out (k+j) (by rw[HSZ.out];omega),nat_get h1,extract_get hj (by rw[HSZ.out];exact hlt)]
   obtain⟨e,he⟩:∃e,s.extract k (k+W)=e:=⟨_,rfl⟩
   simp only[he]at hsl hgx
   rw[he]at hz0
   have HGX:=Qa hgx
   have HZ0:=Qa hz0
   clear he hgx hz0
   go_wp2
   have hz1:=hEr.size
   have hit4:=World.iter_heap wr e 0
   have hE3:Ext w1 (wr.iter e 0):=hEr.iter e 0
   obtain⟨z,hz⟩:∃z,wr.heap.size=z:=⟨_,rfl⟩
   obtain⟨W2,hW2⟩:∃W2,wr.iter e 0=W2:=⟨_,rfl⟩
   rw[hz]at hit4 hz1 hlr ⊢
   rw[hW2]at hit4 hE3 ⊢
   clear hz hW2 hsl hcr
   go_loopw [6] (fun n wy=>∃j:Nat,j≤W∧n= .int .i64 (C.cloudy T k j:Nat)∧wy.heap[z]? =some (.stringIter e j)∧Ext w1 wy) (fun _ wy=>W - wy.iterPos z)
   case atStart=>exact⟨0,Nat.zero_le _,by simp[C.cloudy],hit4,hE3⟩
   case round =>
    rename World=>wy
    obtain⟨j,hj,rfl,hitz,hEy⟩:=hrel
    have hq0:=iterPos_of hitz
    have hcl:=cloudy_le (s:=T) (f:=k) (j:=j)
    have hcy:=fun o=>(hEy.cells.1 w.heap.size o hl).trans (hc o)
    have hly:=Ql hl hEy.size
    by_cases hjl:j<W
    ·have hje:j<e.size:=by rw[HZ0.out];exact hjl
     have hu:=HGX.out j hjl
     rw[nat_get hje]at hu
     have hy128:=HA.out _ (List.mem_of_getElem? hu)
     have hny:∀ty,(Instr.next (.pointer (some ⟨z,0,none⟩)) true ty).run Tryz.prog wy=_:=fun ty=>Lib.run_next_ascii_at wy z e j ty hitz hje hy128
     have hitz2:=Lib.iterAt_heap wy z e j (j+1) hitz
     have hEy2:=hEy.iterAt hz1 e (j+1)
     have HST:=Qa (cloudy_step hu)
     obtain⟨y,hyy⟩:∃y,e[j]=y:=⟨_,rfl⟩
     rw[hyy]at hny hy128 HST
     have h1:=u8_eq y 99 (by decide)
     obtain⟨q,hq⟩:∃q,(y == UInt8.ofNat 99)=q:=⟨_,rfl⟩
     rw[hq]at h1 HST
     obtain⟨Y,hY⟩:∃Y:Nat,y.toNat=Y:=⟨_,rfl⟩
     rw[hY]at hny h1 hy128
     obtain⟨X,hX⟩:∃X,C.cloudy T k j=X:=⟨_,rfl⟩
     rw[hX]at hcl HST ⊢
     obtain⟨W3,hW3⟩:∃W3,wy.iterAt z e (j+1)=W3:=⟨_,rfl⟩
     rw[hW3]at hny hitz2 hEy2
     clear hcy hyy hq hY hX hW3 hu hitz hEy
     cases q with
     | true =>
      go_wp2
      go_roundw
      case rel=>exact⟨j+1,by omega,by rw[HST.out];go_num,hitz2,hEy2⟩
      case measure=>rw[iterPos_of hitz2,hq0];omega
     | false =>
      go_wp2
      go_roundw
      case rel=>exact⟨j+1,by omega,by rw[HST.out];go_num,hitz2,hEy2⟩
      case measure=>rw[iterPos_of hitz2,hq0];omega
    ·obtain rfl:W=j:=by omega
     have hny:∀ty,(Instr.next (.pointer (some ⟨z,0,none⟩)) true ty).run Tryz.prog wy=_:=fun ty=>Lib.run_next_end_at wy z e W ty hitz (by rw[HZ0.out];omega)
     have HS:=Qa (range_step HALL.out)
     have HF:=Qa (fun(hk:k<S+1 - W) h=>range_false (p:=p) hk h)
     have hpk:p k=decide ((C.cloudy T k W:Int)≤c.most):=by rw[HP.out]
     rw[hpk]at HS HF
     clear hpk
     obtain⟨Y,hY⟩:∃Y,C.cloudy T k W=Y:=⟨_,rfl⟩
     rw[hY]at hcl HS HF ⊢
     clear hY
     by_cases hm:(Y:Int)≤c.most
     ·go_wp2
      go_roundw
      case rel=>exact⟨k+1,by omega,by go_num,by rw[HS.out];simpa using hm,hEy⟩
      case measure=>simp[intOf];omega
     ·go_wp2
      go_ret
      exact⟨ret_bool (by rw[HF.out (by omega) (by simpa using hm)]),hE.trans hEy⟩
  ·obtain rfl:k=S+1 - W:=by omega
   go_wp2
   go_ret
   exact⟨ret_bool (by rw[HALL.out]),hE.trans hEr⟩
end Go.Proofs.YtgloajbgphcloaaGreat.Cl
namespace Go.Proofs.YtgloajbgphcloaaGreat.Cl
set_option linter.unusedVariables false
set_option linter.unusedSimpArgs false
open Go.RowKit
open Ext renaming alloc → Qs, drew → Qt, refl → Qd, setCell → Qc, trans → Qb
open Lib renaming hid → Qa
open List renaming drop_succ_cons → Qo, drop_zero → Qp, take_succ_cons → Qm, take_zero → Qn
set_option maxRecDepth 100000 in
set_option maxHeartbeats 4000000 in
theorem agreesQ_any (s t:ByteArray) (w:World) (hst:t.size=s.size) (ht:t.size≤1000000) :
  Calls Tryz.prog 79 #[.string s,.string t] w fun e w'=>e= .returned (.bool (C.agrees s.data.toList t.data.toList))∧Ext w w':=by
 have hlS:s.data.toList.length=s.size:=by simp
 have hlT:t.data.toList.length=t.size:=by simp
 obtain⟨S,hS⟩:∃S,s.data.toList=S:=⟨_,rfl⟩
 obtain⟨T,hT⟩:∃T,t.data.toList=T:=⟨_,rfl⟩
 have HIS:=Qa (fun i x (h:S[i]? =some x)=>str_at s i x (by rw[hS];exact h))
 have HIT:=Qa (fun i x (h:T[i]? =some x)=>str_at t i x (by rw[hT];exact h))
 rw[hS]at hlS ⊢
 rw[hT]at hlT ⊢
 have HLS:=Qa hlS
 have HLT:=Qa hlT
 have HSTE:=Qa hst
 clear hS hT hlS hlT hst
 go_enter Tryz.func79,Tryz.ntmps79
 go_wp2
 go_loopw [8] (fun i wr=>∃k:Nat,k≤t.size∧i= .int .i64 k∧C.agrees (S.take k) (T.take k)=true∧Ext w wr) (fun i _=>t.size - (intOf i).toNat)
 case atStart=>exact⟨0,Nat.zero_le _,rfl,agrees_mul,by(with_reducible(repeat(first|exact Qd _|assumption|apply Qs|apply Qt|exact ext_plus _ _|(apply Qc;rotate_left;(simp<;>omega))|(apply Qb;rotate_left;exact ext_plus _ _)|(apply Qb;rotate_left;assumption))))⟩
 case round =>
  rename World=>wr
  obtain⟨k,hk,rfl,hall,hE⟩:=hrel
  have HALL:=Qa hall
  clear hall
  by_cases hlt:k<t.size
  ·obtain⟨x,hx⟩:∃x,S[k]? =some x:=⟨_,List.getElem?_eq_getElem (by rw[HLS.out,←HSTE.out];exact hlt)⟩
   obtain⟨y,hy⟩:∃y,T[k]? =some y:=⟨_,List.getElem?_eq_getElem (by rw[HLT.out];exact hlt)⟩
   have hi:=HIS.out k x hx
   have hj:=HIT.out k y hy
   have HST:=Qa (agrees_step hx hy HALL.out)
   have HFA:=Qa (agrees_false hx hy)
   have h1:=u8_eq y 63 (by decide)
   have h2:((y.toNat:Int) == (x.toNat:Int))=(y == x):=by
    rw[Bool.eq_iff_iff];simp only[beq_iff_eq]
    exact⟨fun h=>UInt8.toNat_inj.1 (by omega),fun h=>by rw[h]⟩
   have e63:(y == 63)=(y == UInt8.ofNat 63):=rfl
   rw[e63]at HST HFA
   obtain⟨p,hp⟩:∃p,(y == UInt8.ofNat 63)=p:=⟨_,rfl⟩
   obtain⟨q,hq⟩:∃q,(y == x)=q:=⟨_,rfl⟩
   rw[hp]at h1 HST HFA
   rw[hq]at h2 HST HFA
   have h1':((y.toNat:Int) != 63)= !p:=by rw[bne,←h1];rfl
   have h2':((y.toNat:Int) != (x.toNat:Int))= !q:=by rw[bne,h2]
   clear hx hy hp hq h1 h2 e63
   cases p with
   | true =>
    go_upto_region 4 with(fail)
    refine wp_region_ext 13 (fun _ _ d _ _ h=>by cases d<;>exact h) (by kernel_rfl) (by kernel_rfl) (by kernel_rfl) (by kernel_rfl) ?_
    simp only[Qm,Qn,Qo,Qp]
    repeat(any_goals(first|go_big_quiet_step(fail)|quiet_step(fail)))
    all_goals(refine wpQuiet_nil ?_;intro w2 hE2)
    replace hE:=hE.trans hE2
    go_wp2
    go_roundw
    case rel=>exact⟨k+1,by omega,by go_num,by rw[HST.out];rfl,by(with_reducible(repeat(first|exact Qd _|assumption|apply Qs|apply Qt|exact ext_plus _ _|(apply Qc;rotate_left;(simp<;>omega))|(apply Qb;rotate_left;exact ext_plus _ _)|(apply Qb;rotate_left;assumption))))⟩
    case measure=>simp[intOf];omega
   | false =>
    cases q with
    | true =>
     go_upto_region 4 with(fail)
     refine wp_region_ext 13 (fun _ _ d _ _ h=>by cases d<;>exact h) (by kernel_rfl) (by kernel_rfl) (by kernel_rfl) (by kernel_rfl) ?_
     simp only[Qm,Qn,Qo,Qp]
     repeat(any_goals(first|go_big_quiet_step(fail)|quiet_step(fail)))
     all_goals(refine wpQuiet_nil ?_;intro w2 hE2)
     replace hE:=hE.trans hE2
     go_wp2
     go_roundw
     case rel=>exact⟨k+1,by omega,by go_num,by rw[HST.out];rfl,by(with_reducible(repeat(first|exact Qd _|assumption|apply Qs|apply Qt|exact ext_plus _ _|(apply Qc;rotate_left;(simp<;>omega))|(apply Qb;rotate_left;exact ext_plus _ _)|(apply Qb;rotate_left;assumption))))⟩
     case measure=>simp[intOf];omega
    | false =>
     go_upto_region 4 with(fail)
     refine wp_region_ext 13 (fun _ _ d _ _ h=>by cases d<;>exact h) (by kernel_rfl) (by kernel_rfl) (by kernel_rfl) (by kernel_rfl) ?_
     simp only[Qm,Qn,Qo,Qp]
     repeat(any_goals(first|go_big_quiet_step(fail)|quiet_step(fail)))
     all_goals(refine wpQuiet_nil ?_;intro w2 hE2)
     replace hE:=hE.trans hE2
     go_wp2
     go_ret
     exact⟨ret_bool (by rw[HFA.out rfl]),by(with_reducible(repeat(first|exact Qd _|assumption|apply Qs|apply Qt|exact ext_plus _ _|(apply Qc;rotate_left;(simp<;>omega))|(apply Qb;rotate_left;exact ext_plus _ _)|(apply Qb;rotate_left;assumption))))⟩
  ·have hr:=agrees_take (s:=S) (t:=T) (k:=k) (by rw[HLS.out,HLT.out,HSTE.out];have:=HSTE.out;omega)
   rw[HALL.out]at hr
   have HR:=Qa hr
   clear hr
   go_wp2
   go_ret
   exact⟨ret_bool (by rw[← HR.out]),by(with_reducible(repeat(first|exact Qd _|assumption|apply Qs|apply Qt|exact ext_plus _ _|(apply Qc;rotate_left;(simp<;>omega))|(apply Qb;rotate_left;exact ext_plus _ _)|(apply Qb;rotate_left;assumption))))⟩
theorem word_any (n m:Nat) (w:World) (hn:n≤1000000) (hm:m≤1000000) :
  Calls Tryz.prog 82 #[.int .i64 (n:Int),.int .i64 (m:Int)] w fun e w'=>e= .returned (.int .i64 (C.word n m))∧w=w':=by
 have h1:C.word n m=if n=0 then 1 else if n=m then 3 else 2:=rfl
 rw[h1]
 by_cases h0:n=0
 ·subst h0
  rw[if_pos rfl]
  go_enter Tryz.func82,Tryz.ntmps82
  go_wp2
  go_ret
  exact⟨rfl,rfl⟩
 ·rw[if_neg h0]
  have h0':((n:Int) == 0)=false:=by rw[beq_eq_false_iff_ne];omega
  by_cases h2:n=m
  ·subst h2
   rw[if_pos rfl]
   go_enter Tryz.func82,Tryz.ntmps82
   go_wp2
   go_ret
   exact⟨rfl,rfl⟩
  ·rw[if_neg h2]
   have h2':((n:Int) == (m:Int))=false:=by rw[beq_eq_false_iff_ne];omega
   go_enter Tryz.func82,Tryz.ntmps82
   go_wp2
   go_ret
   exact⟨rfl,rfl⟩
end Go.Proofs.YtgloajbgphcloaaGreat.Cl
namespace Go.Proofs.YtgloajbgphcloaaGreat.Cl
set_option linter.unusedVariables false
set_option linter.unusedSimpArgs false
open Go.RowKit Go.Shelf
open Lib renaming hid → Qa
attribute [local go_sem] Oper.semAt_some
def dayE (c:C.Sys) (p b off:Int) (w:C.Txt) (k:Nat):Array Value:=#[.int .i64 (k:Int),.agg #[.int .i64 (C.stateAt c p b off w (k+1)).e,.int .i64 (C.stateAt c p b off w (k+1)).carried]]
def DaysAt (w0:World) (c:C.Sys) (vl:Value) (p b off:Int) (wt:ByteArray) (br:Nat) (k:Nat) (W:World):Prop :=
 Blk W br (runV c vl p b off wt ((k - 1:Nat):Int) (C.stateAt c p b off wt.data.toList k) (C.start c b) 0) 279∧Ext w0 W
def midD (c:C.Sys) (p b off:Int) (x:UInt8) (s:C.St):Nat→C.St
 | 0=>s
 | 1=>C.sunSt c p b x s
 | 2=>C.loadsSt c off (C.sunSt c p b x s)
 | _=>C.daySt c p b off x s
set_option maxRecDepth 100000 in
set_option maxHeartbeats 8000000 in
theorem days_own (c:C.Sys) (vl:Value) (p b off:Int) (wt:ByteArray) (br:Nat) (w0 w:World) (O:C.Ok c) (hp0:0≤p) (hp1:p≤12) (h2:0≤b) (h3:b≤8) (ho0:0≤off) (ho1:off<2^c.loads.length)
  (hlen:wt.data.toList.length=c.days.toNat) (hbr0:w0.heap.size≤br) (hLs:Loads w0 vl c.loads) :
  SeqOwn Fence.wide 4 Tryz.prog 81 #[.pointer (some ⟨br,0,none⟩)] (dayE c p b off wt.data.toList) (Off br) (DaysAt w0 c vl p b off wt br) c.days.toNat w:=by
 intro l J Jx Jp W hW hJ hY h0 hA
 have hd1:=O.d1
 have hd10:=O.d10
 obtain⟨N,hN⟩:∃N:Nat,c.days=N:=⟨c.days.toNat,by omega⟩
 have hNt:c.days.toNat=N:=by omega
 rw[hNt]at hlen hY ⊢
 have HN:=Qa hN
 have hN10:N≤10:=by omega
 have HLEN:=Qa hlen
 have HO:=Qa O
 have HY:=Qa hY
 clear hN hNt hlen O hY
 obtain⟨hb0,hE0⟩:=hA
 have k0:=hb0.cell
 have k1:=hb0.lt
 refine callsIn_of_wp Tryz.func81 rfl trivial ?_ rfl
 simp only[Tryz.ntmps81,List.size_toArray,List.length_cons,List.length_nil,Nat.reduceAdd,Nat.reduceSub,Array.replicate_succ,Array.replicate_zero,List.push_toArray,List.append_toArray,List.nil_append,List.cons_append]
 gi_wp2
 rw[HN.out]
 gi_loopw [12] (fun i wr=>∃k:Nat,k≤N∧i= .int .i64 k∧J k wr∧DaysAt w0 c vl p b off wt br k wr) (fun i _=>N - (intOf i).toNat)
 case atStart=>exact⟨0,Nat.zero_le _,rfl,h0,hb0,hE0⟩
 case round =>
  rename World=>wr
  obtain⟨k,hk,rfl,hJk,hb,hE⟩:=hrel
  by_cases hlt:k<N
  ·obtain⟨x,hx⟩:∃x,wt.data.toList[k]? =some x:=⟨_,List.getElem?_eq_getElem (by rw[HLEN.out];exact hlt)⟩
   have hst:C.stateAt c p b off wt.data.toList (k+1)=C.daySt c p b off x (C.stateAt c p b off wt.data.toList k):=by
    show C.daySt c p b off (wt.data.toList.getD k 0) _=_
    rw[List.getD_eq_getElem?_getD,hx];rfl
   have hBk:=C.state_bd HO.out hp0 hp1 h2 h3 off wt.data.toList k (by omega)
   obtain⟨hB1,hB2,_,_⟩:=C.day_bd HO.out hp0 hp1 h2 h3 off (k:=k) (by omega) x hBk
   have hB0:=hBk.bd HO.out h2 h3 (by omega)
   have hye:dayE c p b off wt.data.toList k=#[.int .i64 (k:Int),.agg #[.int .i64 (C.daySt c p b off x (C.stateAt c p b off wt.data.toList k)).e,.int .i64 (C.daySt c p b off x (C.stateAt c p b off wt.data.toList k)).carried]]:=by unfold dayE;rw[hst]
   have hat:∀W,DaysAt w0 c vl p b off wt br (k+1) W=(Blk W br (runV c vl p b off wt (k:Nat) (C.daySt c p b off x (C.stateAt c p b off wt.data.toList k)) (C.start c b) 0) 279∧Ext w0 W):=by intro W;unfold DaysAt;rw[hst];rfl
   have hYk:=fun W1 (h:J k W1) (hA:Blk W1 br (runV c vl p b off wt (k:Nat) (C.daySt c p b off x (C.stateAt c p b off wt.data.toList k)) (C.start c b) 0) 279∧Ext w0 W1)=>HY.out k W1 hlt h (by rw[hat];exact hA)
   rw[hye]at hYk
   simp only[hat]at hYk
   have HAT:=Qa hat
   obtain⟨s,hs⟩:∃s,C.stateAt c p b off wt.data.toList k=s:=⟨_,rfl⟩
   rw[hs]at hb hB0 hB1 hB2 HAT
   simp only[hs]at hYk
   have HYK:=Qa hYk
   have HS:=Qa (fun w' hb=>sun_any c vl p b off wt k s (C.start c b) 0 br w' HO.out hp0 hp1 h2 h3 hB0 x hx (by omega) hb)
   have HLO:=Qa (fun w' hE hb=>loads_any c vl p b off wt k (C.sunSt c p b x s) (C.start c b) 0 br w0 w' hE hbr0 hLs HO.out hB1 ho0 ho1 hb)
   have HFA:=Qa (fun w' hb=>fades_any c vl p b off wt k (C.loadsSt c off (C.sunSt c p b x s)) (C.start c b) 0 br w' HO.out hB2 hb)
   obtain⟨st,hst0⟩:∃st,C.start c b=st:=⟨_,rfl⟩
   rw[hst0]at hb
   have HST0:=Qa hst0
   clear k0 k1 hye hat hYk hs hst hx hB0 hB1 hB2 hBk hst0
   have k0:=hb.cell
   have k1:=hb.lt
   have k2:=hb.free
   have hb3:Blk (wr.setCell ⟨br,15,none⟩ (.int .i64 (k:Int))) br (runV c vl p b off wt (k:Nat) s st 0) 279:=by simpa using hb.set 15 (.int .i64 (k:Int))
   have hO3:Off br wr (wr.setCell ⟨br,15,none⟩ (.int .i64 (k:Int))):=(Off.refl br wr).set (a:=⟨br,15,none⟩) (.inl rfl) _
   rw[← HST0.out]at hb3
   have hix0:∀w,(Instr.index 272 (.agg #[(.func (.func 154) #[.pointer (some ⟨br,0,none⟩)] #[]),(.func (.func 155) #[.pointer (some ⟨br,0,none⟩)] #[]),(.func (.func 156) #[.pointer (some ⟨br,0,none⟩)] #[])]) (.int .i64 0)).run Tryz.prog w= .ok (.func (.func 154) #[.pointer (some ⟨br,0,none⟩)] #[]) w:=fun _=>by kernel_rfl
   have hix1:∀w,(Instr.index 272 (.agg #[(.func (.func 154) #[.pointer (some ⟨br,0,none⟩)] #[]),(.func (.func 155) #[.pointer (some ⟨br,0,none⟩)] #[]),(.func (.func 156) #[.pointer (some ⟨br,0,none⟩)] #[])]) (.int .i64 1)).run Tryz.prog w= .ok (.func (.func 155) #[.pointer (some ⟨br,0,none⟩)] #[]) w:=fun _=>by kernel_rfl
   have hix2:∀w,(Instr.index 272 (.agg #[(.func (.func 154) #[.pointer (some ⟨br,0,none⟩)] #[]),(.func (.func 155) #[.pointer (some ⟨br,0,none⟩)] #[]),(.func (.func 156) #[.pointer (some ⟨br,0,none⟩)] #[])]) (.int .i64 2)).run Tryz.prog w= .ok (.func (.func 156) #[.pointer (some ⟨br,0,none⟩)] #[]) w:=fun _=>by kernel_rfl
   gi_wp2
   clear k0 k1 k2
   obtain⟨w3,hw3⟩:∃w3,wr.setCell ⟨br,15,none⟩ (.int .i64 (k:Int))=w3:=⟨_,rfl⟩
   rw[hw3]at hb3 hO3 ⊢
   clear hw3
   gi_loopw [6,26] (fun _ i wy=>∃j:Nat,j≤3∧i= .int .i64 j∧Blk wy br (runV c vl p b off wt (k:Nat) (midD c p b off x s j) (C.start c b) 0) 279∧Ext w0 wy∧Off br w3 wy) (fun _ i _=>3 - (intOf i).toNat)
   case atStart=>exact⟨0,Nat.zero_le _,rfl,hb3,hO3.ext0 hE hbr0,Off.refl _ _⟩
   case round =>
    rename World=>wy
    obtain⟨j,hj,rfl,hBy,hEy,hOy⟩:=hrel
    have hj3:j=0∨j=1∨j=2∨j=3:=by omega
    rcases hj3 with rfl|rfl|rfl|rfl
    ·gi_wp2_with (first|(refine⟨trivial,?_⟩;gi_at_call 154;refine(callsIn_wide.2 (HS.out _ hBy)).mono ?_;rintro e wz ⟨rfl,hBz,hOz⟩))
     go_roundw
     case rel=>exact⟨1,by omega,by go_num,hBz,hOz.ext0 hEy hbr0,hOy.trans hOz⟩
     case measure=>simp[intOf]
    ·gi_wp2_with (first|(refine⟨trivial,?_⟩;gi_at_call 155;refine(callsIn_wide.2 (HLO.out _ hEy hBy)).mono ?_;rintro e wz ⟨rfl,hBz,hOz⟩))
     go_roundw
     case rel=>exact⟨2,by omega,by go_num,hBz,hOz.ext0 hEy hbr0,hOy.trans hOz⟩
     case measure=>simp[intOf]
    ·gi_wp2_with (first|(refine⟨trivial,?_⟩;gi_at_call 156;refine(callsIn_wide.2 (HFA.out _ hBy)).mono ?_;rintro e wz ⟨rfl,hBz,hOz⟩))
     go_roundw
     case rel=>exact⟨3,by omega,by go_num,hBz,hOz.ext0 hEy hbr0,hOy.trans hOz⟩
     case measure=>simp[intOf]
    ·have hBd:Blk wy br (runV c vl p b off wt (k:Nat) (C.daySt c p b off x s) (C.start c b) 0) 279:=hBy
     have hHy:=HYK.out
     clear hBy hix0 hix1 hix2
     obtain⟨s',hs'⟩:∃s',C.daySt c p b off x s=s':=⟨_,rfl⟩
     rw[hs']at hBd
     simp only[hs']at hHy
     have HS':=Qa hs'
     have HHY:=Qa hHy
     clear hs' hHy
     have k0:=hBd.cell
     have k1:=hBd.lt
     have k2:=hBd.free
     have hpc:=plus_cell
     gi_wp2
     refine wpIn_region_extY 11 (by kernel_rfl) (by kernel_rfl) (by kernel_rfl) (by kernel_rfl) (by kernel_rfl) ?_
     simp only[List.take_succ_cons,List.take_zero,List.drop_succ_cons,List.drop_zero]
     repeat(any_goals(first|go_big_quiet_step(fail)|quiet_step(fail)))
     all_goals(refine wpQuiet_nil ?_;intro w4 hE4)
     obtain⟨fn,tmps,assign,body,hy,hR⟩:=HHY.out w4 (hJ _ _ _ hJk ((hO3.trans hOy).ext hE4)) ⟨hBd.ext hE4,hEy.trans hE4⟩
     clear k0 k1 k2
     gi_wp2
     refine hR.mono ?_
     rintro e W3 (⟨rfl,hJ3,hB3,hE3⟩|⟨rfl,hJx3⟩|⟨ch,rfl,hJp3⟩)
     ·gi_wp2
      go_roundw
      case rel=>exact⟨k+1,by omega,by go_num,hJ3,by rw[HAT.out,HS'.out];exact⟨hB3,hE3⟩⟩
      case measure=>simp[intOf];omega
     ·gi_wp2
      refine bodyPost_ret (results_none rfl _ _ _) rfl ?_
      exact .inl ⟨⟨_,rfl⟩,.inr hJx3⟩
     ·gi_wp2
      exact⟨rfl,.inr ⟨ch,rfl,hJp3⟩⟩
  ·obtain rfl:k=N:=by omega
   clear k0 k1
   gi_wp2
   go_end0
   exact .inl ⟨⟨_,rfl⟩,.inl ⟨hJk,hb,hE⟩⟩
end Go.Proofs.YtgloajbgphcloaaGreat.Cl
