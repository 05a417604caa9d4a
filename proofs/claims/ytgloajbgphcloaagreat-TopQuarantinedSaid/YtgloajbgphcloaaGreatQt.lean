/- The queue: something is put at its end, the first thing is taken. -/
import Derived.Test.YtgloajbgphcloaaGreatBn
namespace Go.Proofs.YtgloajbgphcloaaGreat.Bn
set_option linter.unusedVariables false
set_option linter.unusedSimpArgs false
open Go.RowKit
open KeepsOthers renaming setCell → Qa
open Lib renaming hid → Qb
open List renaming drop_succ_cons → Qd, take_succ_cons → Qc
abbrev intC (x:Int):List Value:=[.int .i64 x]
theorem intC_one (x:Int):∀u∈intC x,u.oneCell'=true:=one_int x
set_option maxRecDepth 100000 in
set_option maxHeartbeats 4000000 in
theorem put_any (base bq:Nat) (v:Value) (xs:List Int) (x:Int) (w:World) (hb:Blk w bq #[v] 285) (hq:QU intC 1 base w v xs) (hne:¬InB v bq) (hbase:base≤w.heap.size) (hl:xs.length≤1000) :
  Calls Tryz.prog 164 #[.pointer (some ⟨bq,0,none⟩),.int .i64 x] w fun e w'=>e= .returned (.tuple #[])∧∃v',Blk w' bq #[v'] 285∧QU intC 1 base w' v' (xs++[x])∧Mod (fun k=>k=bq∨InB v k) w w'∧(∀ k,InB v' k→InB v k∨w.heap.size≤k)∧KeepsOthers w w':=by
 obtain⟨i0,z0,hi,hz0,hz1,hz2,hz3⟩:∃i z,Tryz.prog.info? 3=some i∧i.zero=some z∧i.size=1∧i.bytes≤64∧z.cells.size=1:=⟨_,_,rfl,rfl,rfl,by decide,rfl⟩
 have hE1:Ext w (w.alloc (.cells #[.int .i64 x] 3)):=by(with_reducible(repeat(first|exact Ext.refl _|assumption|apply Ext.alloc|apply Ext.drew|exact ext_plus _ _|(apply Ext.setCell;rotate_left;(simp<;>omega))|(apply Ext.trans;rotate_left;exact ext_plus _ _)|(apply Ext.trans;rotate_left;assumption))))
 obtain⟨v',w2,hrun,hq2,hM,hnew,hko⟩:=(hq.ext hE1).push (fun _=>rfl) intC_one 30 3 30 i0 z0 Tryz.underlying30 hi hz0 hz1 hz3 hz2 (by simp;omega) x ⟨w.heap.size,0,none⟩ (cell_one _ _ _ rfl) hl
 have hM2:Mod (fun k=>k=bq∨InB v k) w w2:=(hE1.mod _).trans (hM.mono fun k _ h=> .inr h)
 have hb2:Blk w2 bq #[v] 285:=(hb.ext hE1).mod hM hne
 have hb3:=hb2.set 0 v'
 have hq3:QU intC 1 base (w2.setCell ⟨bq,0,none⟩ v') v' (xs++[x]):=hq2.mod (S:=fun k=>k=bq) ((Mod.refl (fun k=>k=bq) w2).set (a:=⟨bq,0,none⟩) (.inl rfl) v') (fun k hk e=>by
  subst e
  rcases hnew k hk with h|h
  ·exact hne h
  ·have:=hb.lt;simp at h;omega)
 have hM3:=hM2.set (a:=⟨bq,0,none⟩) (.inl (.inl rfl)) v'
 have hko2:=((ext_others hE1).trans hko).trans (Qa w2 ⟨bq,0,none⟩ v')
 have HFIN:=Qb (⟨hb3,hq3,hM3,fun k hk=>(hnew k hk).imp id (fun h=>by simp at h;omega),hko2⟩:Blk (w2.setCell ⟨bq,0,none⟩ v') bq (#[v].setIfInBounds 0 v') 285∧QU intC 1 base (w2.setCell ⟨bq,0,none⟩ v') v' (xs++[x])∧Mod (fun k=>k=bq∨InB v k) w (w2.setCell ⟨bq,0,none⟩ v')∧(∀ k,InB v' k→InB v k∨w.heap.size≤k)∧KeepsOthers w (w2.setCell ⟨bq,0,none⟩ v'))
 obtain⟨a9,c9,hv9⟩:=hq2.shape
 rw[List.length_append,List.length_singleton]at hv9
 subst hv9
 obtain⟨aq,cq,rfl⟩:=hq.shape
 have k0:=hb.cell
 have k1:=hb.lt
 have k2:=hb2.cell
 have k3:=hb2.lt
 have k4:=hb2.free
 clear hq2 hM hnew hM2 hb3 hq3 hM3 hq hne hko hko2
 go_enter Tryz.func164,Tryz.ntmps164
 go_wp2_with (at_builtin;refine Lib.wpList_append_run _ rfl _ _ _ _ rfl _ _ rfl rfl _ _ hrun ?_)
 go_end0
 exact⟨rfl,_,HFIN.out⟩
set_option maxRecDepth 100000 in
set_option maxHeartbeats 4000000 in
theorem take_none (bq:Nat) (w:World) (v:Value) (a:Option Addr) (c:Nat) (hv:v= .slice a 0 c) (hb:Blk w bq #[v] 285) :
  Calls Tryz.prog 165 #[.pointer (some ⟨bq,0,none⟩)] w fun e w'=>e= .returned (.tuple #[.int .i64 0,.bool false])∧w=w':=by
 subst hv
 have k0:=hb.cell
 have k1:=hb.lt
 go_enter Tryz.func165,Tryz.ntmps165
 go_wp2
 exact bodyPost_ret (v:= .tuple #[.int .i64 0,.bool false]) (by simp[results,Tryz.results165,go_sem]) rfl ⟨rfl,rfl⟩
set_option maxRecDepth 100000 in
set_option maxHeartbeats 4000000 in
theorem take_some (base bq:Nat) (v:Value) (xs:List Int) (x:Int) (w:World) (hb:Blk w bq #[v] 285) (hq:QU intC 1 base w v (x::xs)) (hne:¬InB v bq) (hl:xs.length≤1000) :
  Calls Tryz.prog 165 #[.pointer (some ⟨bq,0,none⟩)] w fun e w'=>e= .returned (.tuple #[.int .i64 x,.bool true])∧∃v',Blk w' bq #[v'] 285∧QU intC 1 base w' v' xs∧Mod (fun k=>k=bq) w w'∧(∀ k,InB v' k→InB v k)∧KeepsOthers w w':=by
 have hq':=hq
 rcases hq' with⟨_,h⟩|⟨g,off,cap,rfl,hbg,hg,hc,hr,hx⟩
 ·cases h
 have h0:=hx 0 (by simp) 0 (.int .i64 x) rfl
 simp only[Nat.zero_mul,Nat.add_zero]at h0
 have hf:=hq.front
 obtain⟨c',rfl⟩:∃c',cap=c'+1:=⟨cap - 1,by simp at hc;omega⟩
 have k0:=hb.cell
 have k1:=hb.lt
 have hpc:=plus_cell
 have HF:=Qb hf
 have HNE:=Qb hne
 have HBB:=Qb hb
 clear hf hx hr hq hne
 by_cases hz:c'=0
 ·subst hz
  obtain rfl:xs=[]:=List.eq_nil_of_length_eq_zero (by have h9:=hc;simp only[List.length_cons]at h9;omega)
  go_enter Tryz.func165,Tryz.ntmps165
  go_upto_region 4 with(fail)
  refine wp_region_ext 15 (fun _ _ d _ _ h=>by cases d<;>exact h) (by kernel_rfl) (by kernel_rfl) (by kernel_rfl) (by kernel_rfl) ?_
  simp only[Qc,List.take_zero,Qd,List.drop_zero]
  repeat(any_goals(first|go_big_quiet_step(fail)|quiet_step(fail)))
  all_goals(refine wpQuiet_nil ?_;intro w3 hE3)
  have hb3:=HBB.out.ext hE3
  have m0:=hb3.cell
  have m1:=hb3.lt
  have m2:=hb3.free
  clear k0 k1 h0
  have fin:∀v',QU intC 1 base w v' ([]:List Int)→(∀ k,InB v' k→k=g)→QU intC 1 base (w3.setCell ⟨bq,0,none⟩ v') v' ([]:List Int)∧Mod (fun k=>k=bq) w (w3.setCell ⟨bq,0,none⟩ v')∧(∀ k,InB v' k→InB (.slice (some ⟨g,off,none⟩) [x].length (0+1)) k)∧KeepsOthers w (w3.setCell ⟨bq,0,none⟩ v'):=fun v' h1 h2 =>
   ⟨(h1.ext hE3).mod (S:=fun k=>k=bq) ((Mod.refl (fun k=>k=bq) w3).set (a:=⟨bq,0,none⟩) (.inl rfl) v') (fun k hk e=>HNE.out (by rw[← e,h2 k hk];exact⟨_,_,_,rfl⟩)),(hE3.mod (fun k=>k=bq)).set (a:=⟨bq,0,none⟩) (.inl rfl) v',fun k hk=>by rw[h2 k hk];exact⟨_,_,_,rfl⟩,(ext_others hE3).trans (Qa w3 ⟨bq,0,none⟩ v')⟩
  have FIN:=Qb fin
  clear fin
  go_wp2
  refine bodyPost_ret (v:= .tuple #[.int .i64 x,.bool true]) (by simp[results,Tryz.results165,go_sem]) rfl ⟨rfl,_,hb3.set 0 _,FIN.out _ (.inr ⟨g,off,0,rfl,hbg,hg,Nat.le_refl _,fun j hj=>absurd hj (by simp),fun i hi=>absurd hi (by simp)⟩) (fun k ⟨_,_,_,e⟩=>by cases e;rfl)⟩
 go_enter Tryz.func165,Tryz.ntmps165
 go_upto_region 4 with(fail)
 refine wp_region_ext 15 (fun _ _ d _ _ h=>by cases d<;>exact h) (by kernel_rfl) (by kernel_rfl) (by kernel_rfl) (by kernel_rfl) ?_
 simp only[Qc,List.take_zero,Qd,List.drop_zero]
 repeat(any_goals(first|go_big_quiet_step(fail)|quiet_step(fail)))
 all_goals(refine wpQuiet_nil ?_;intro w3 hE3)
 have hb3:=HBB.out.ext hE3
 have m0:=hb3.cell
 have m1:=hb3.lt
 have m2:=hb3.free
 clear k0 k1 h0
 have fin:∀v',QU intC 1 base w v' xs→(∀ k,InB v' k→k=g)→QU intC 1 base (w3.setCell ⟨bq,0,none⟩ v') v' xs∧Mod (fun k=>k=bq) w (w3.setCell ⟨bq,0,none⟩ v')∧(∀ k,InB v' k→InB (.slice (some ⟨g,off,none⟩) (x::xs).length (c'+1)) k)∧KeepsOthers w (w3.setCell ⟨bq,0,none⟩ v'):=fun v' h1 h2 =>
  ⟨(h1.ext hE3).mod (S:=fun k=>k=bq) ((Mod.refl (fun k=>k=bq) w3).set (a:=⟨bq,0,none⟩) (.inl rfl) v') (fun k hk e=>HNE.out (by rw[← e,h2 k hk];exact⟨_,_,_,rfl⟩)),(hE3.mod (fun k=>k=bq)).set (a:=⟨bq,0,none⟩) (.inl rfl) v',fun k hk=>by rw[h2 k hk];exact⟨_,_,_,rfl⟩,(ext_others hE3).trans (Qa w3 ⟨bq,0,none⟩ v')⟩
 have FIN:=Qb fin
 clear fin
 go_wp2
 refine bodyPost_ret (v:= .tuple #[.int .i64 x,.bool true]) (by simp[results,Tryz.results165,go_sem]) rfl ⟨rfl,_,hb3.set 0 _,FIN.out _ (by have:=HF.out;rwa[Nat.add_sub_cancel]at this) (fun k ⟨_,_,_,e⟩=>by cases e;rfl)⟩
end Go.Proofs.YtgloajbgphcloaaGreat.Bn
