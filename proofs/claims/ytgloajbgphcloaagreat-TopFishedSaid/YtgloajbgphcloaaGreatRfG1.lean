/- Play. The truth with the fewest fish, or with the most: the ends of spans. -/
import Derived.Test.YtgloajbgphcloaaGreatCo
import Derived.Test.YtgloajbgphcloaaGreatRg
import Derived.Test.YtgloajbgphcloaaGreatRfF1
namespace Go.Proofs.YtgloajbgphcloaaGreat.Rf
set_option linter.unusedVariables false
set_option linter.unusedSimpArgs false
open Go.RowKit
open Blk renaming new' → Qb
open Ext renaming alloc → Qd, drew → Qe, refl → Qc, setCell → Qf, trans → Qg
open Lib renaming hid → Qa
def zeroL:R.Ledger:=⟨0,0,0,0,0⟩
def playOk (r:R.Reef) (plan:List Int) (t:R.Truth):Bool:=rightB r plan&&R.truthB r plan t
def codeOf (b:Bool):Int:=if b then 0 else 2
set_option maxRecDepth 100000 in
set_option maxHeartbeats 8000000 in
theorem play_any (r:R.Reef) (plan:List Int) (t:R.Truth) (vp vl vs vg vt:Value) (w:World) (hP:Places w vp r.places) (hL:Ints w vl plan) (hS:Ints w vs t.starts) (hG:Lists w vg t.grows) (hT:Lists w vt t.takes)
  (hn:r.places.length≤1000000) (hm:plan.length≤1000000) (hn1:t.starts.length≤1000000) (hn2:t.grows.length≤1000000) (hn3:t.takes.length≤1000000) (hn4:∀l∈t.grows,l.length≤1000000) (hn5:∀l∈t.takes,l.length≤1000000) :
  Calls Tryz.prog 45 #[.agg (reefV r vp),vl,.agg (truthV vs vg vt)] w fun x w'=>∃v,x= .returned (.tuple #[v,.agg (ledgerV (if playOk r plan t then R.ledger r t else zeroL)),.int .i64 (codeOf (playOk r plan t))]) ∧
   ListsF w.heap.size w' v (if playOk r plan t then R.fishOf r t else [])∧Ext w w':=by
 have hP':=hP
 have hL':=hL
 have hS':=hS
 have hG':=hG
 have hT':=hT
 obtain⟨a1,c1,rfl,_⟩:=hP'
 obtain⟨a2,c2,rfl,_⟩:=hL'
 obtain⟨a3,c3,rfl,_⟩:=hS'
 obtain⟨a4,c4,rfl,_⟩:=hG'
 obtain⟨a5,c5,rfl,_⟩:=hT'
 obtain⟨PB,hPB⟩:∃PB,playOk r plan t=PB:=⟨_,rfl⟩
 rw[hPB]
 have HPB:=Qa hPB
 obtain⟨LD,hLD⟩:∃LD,(if PB then R.ledger r t else zeroL)=LD:=⟨_,rfl⟩
 obtain⟨FS,hFS⟩:∃FS,(if PB then R.fishOf r t else [])=FS:=⟨_,rfl⟩
 obtain⟨CC,hCC⟩:∃CC,codeOf PB=CC:=⟨_,rfl⟩
 rw[hLD,hFS,hCC]
 obtain⟨l0,l1,l2,l3,l4⟩:=LD
 have HLD:=Qa hLD
 have HFS:=Qa hFS
 have HCC:=Qa hCC
 clear hPB hLD hFS hCC
 have hri:=fun w' (hx:Ext w w')=>right_any r plan _ _ w' (hP.ext hx) (hL.ext hx) hn hm
 obtain⟨B,hB⟩:∃B,rightB r plan=B:=⟨_,rfl⟩
 simp only[hB]at hri
 have HRI:=Qa hri
 clear hri
 have hld:∀(a b c d e:Int),(ledgerV ⟨a,b,c,d,e⟩)=#[.int .i64 a,.int .i64 b,.int .i64 c,.int .i64 d,.int .i64 e]:=fun _ _ _ _ _=>rfl
 have hset:∀(w':World),Blk w' (w.heap.size+1+1) #[.int .i64 0,.int .i64 0,.int .i64 0,.int .i64 0,.int .i64 0] 130→Ext w w'→∀w9,w9=((((w'.setCell ⟨w.heap.size+1+1,0,none⟩ (.int .i64 0)).setCell ⟨w.heap.size+1+1,1,none⟩ (.int .i64 0)).setCell ⟨w.heap.size+1+1,2,none⟩ (.int .i64 0)).setCell ⟨w.heap.size+1+1,3,none⟩ (.int .i64 0)).setCell ⟨w.heap.size+1+1,4,none⟩ (.int .i64 0) →
   Ext w w9∧∀o,w9.cell? ⟨w.heap.size+1+1,o,none⟩=(#[.int .i64 0,.int .i64 0,.int .i64 0,.int .i64 0,.int .i64 0]:Array Value)[o]? :=by
  intro w' hb hE w9 h9
  subst h9
  refine⟨((((hE.setCell (by simp<;>omega) _).setCell (by simp<;>omega) _).setCell (by simp<;>omega) _).setCell (by simp<;>omega) _).setCell (by simp<;>omega) _,?_⟩
  have h:=((((hb.set 0 (.int .i64 0)).set 1 (.int .i64 0)).set 2 (.int .i64 0)).set 3 (.int .i64 0)).set 4 (.int .i64 0)
  exact h.cell
 have HSET:=Qa hset
 clear hset hld
 go_enter Tryz.func45,Tryz.ntmps45
 go_upto_region 2 with(fail)
 obtain⟨w1,hw1⟩:∃w1,(((w.alloc (.cells (reefV r (.slice a1 r.places.length c1)) 111)).alloc (.cells (truthV (.slice a3 t.starts.length c3) (.slice a4 t.grows.length c4) (.slice a5 t.takes.length c5)) 114)).alloc (.cells #[.int .i64 0,.int .i64 0,.int .i64 0,.int .i64 0,.int .i64 0] 130)).alloc (.cells (planV r (.slice a1 r.places.length c1) (.slice a2 plan.length c2)) 227)=w1:=⟨_,rfl⟩
 have hbt:Blk w1 (w.heap.size+1) (truthV (.slice a3 t.starts.length c3) (.slice a4 t.grows.length c4) (.slice a5 t.takes.length c5)) 114:=by rw[← hw1];exact((Qb (by simp) _ _).alloc _).alloc _
 have hbr:Blk w1 (w.heap.size+1+1) #[.int .i64 0,.int .i64 0,.int .i64 0,.int .i64 0,.int .i64 0] 130:=by rw[← hw1];exact(Qb (by simp) _ _).alloc _
 have hbp:Blk w1 (w.heap.size+1+1+1) (planV r (.slice a1 r.places.length c1) (.slice a2 plan.length c2)) 227:=by rw[← hw1];exact Qb (by simp) _ _
 have hE1:Ext w w1:=by rw[← hw1];(with_reducible(repeat(first|exact Qc _|assumption|apply Qd|apply Qe|exact ext_plus _ _|(apply Qf;rotate_left;(simp<;>omega))|(apply Qg;rotate_left;exact ext_plus _ _)|(apply Qg;rotate_left;assumption))))
 rw[hw1]
 clear hw1
 have d0:=hbp.cell
 have d1:=hbp.lt
 cases B with
 | false =>
  have hpf:playOk r plan t=false:=by unfold playOk;rw[hB];rfl
  obtain rfl:PB=false:=HPB.out.symm.trans hpf
  obtain⟨rfl,rfl,rfl,rfl,rfl⟩:l0=0∧l1=0∧l2=0∧l3=0∧l4=0:=by have h:=HLD.out;simp[zeroL]at h;omega
  obtain rfl:FS=[]:=by have h:=HFS.out;simpa using h.symm
  obtain rfl:CC=2:=HCC.out.symm
  clear HLD HFS HCC
  clear hB hpf
  go_wp2_with (first|(go_at_call 105;refine(HRI.out _ (by(with_reducible(repeat(first|exact Qc _|assumption|apply Qd|apply Qe|exact ext_plus _ _|(apply Qf;rotate_left;(simp<;>omega))|(apply Qg;rotate_left;exact ext_plus _ _)|(apply Qg;rotate_left;assumption)))))).mono ?_;rintro e w2 ⟨rfl,hb⟩;have hbr2:=hbr.ext hb;have e0:=hbr2.cell;have e1:=hbr2.free;have e2:=hbr2.lt))
  obtain⟨w9,hw9⟩:∃w9,((((w2.setCell ⟨w.heap.size+1+1,0,none⟩ (.int .i64 0)).setCell ⟨w.heap.size+1+1,1,none⟩ (.int .i64 0)).setCell ⟨w.heap.size+1+1,2,none⟩ (.int .i64 0)).setCell ⟨w.heap.size+1+1,3,none⟩ (.int .i64 0)).setCell ⟨w.heap.size+1+1,4,none⟩ (.int .i64 0)=w9:=⟨_,rfl⟩
  rw[hw9]
  obtain⟨hE9,hc9⟩:=HSET.out w2 hbr2 (hE1.trans hb) w9 hw9.symm
  clear e0 e1
  exact bodyPost_ret (v:= .tuple #[.slice none 0 0,.agg #[.int .i64 0,.int .i64 0,.int .i64 0,.int .i64 0,.int .i64 0],.int .i64 2]) (by simp[results,Tryz.results45,go_sem,hc9]) rfl ⟨_,rfl,Sls.nil _,hE9⟩
 | true =>
  have hR:=hB
  unfold rightB at hR
  rw[Bool.and_eq_true]at hR
  have O:=R.okR_of hR.1
  have L:=R.okL_iff.1 hR.2
  have hti:=fun w' (hx:Ext w w')=>isTruth_any r plan t _ _ _ _ _ w' (hP.ext hx) (hL.ext hx) (hS.ext hx) (hG.ext hx) (hT.ext hx) O L hn1 hn2 hn3 hn4 hn5
  obtain⟨Z,hZ⟩:∃Z,R.truthB r plan t=Z:=⟨_,rfl⟩
  have hpf:playOk r plan t=Z:=by unfold playOk;rw[hB,hZ];rfl
  simp only[hZ]at hti
  have HTI:=Qa hti
  obtain rfl:PB=Z:=HPB.out.symm.trans hpf
  cases PB with
  | false =>
   obtain⟨rfl,rfl,rfl,rfl,rfl⟩:l0=0∧l1=0∧l2=0∧l3=0∧l4=0:=by have h:=HLD.out;simp[zeroL]at h;omega
   obtain rfl:FS=[]:=by have h:=HFS.out;simpa using h.symm
   obtain rfl:CC=2:=HCC.out.symm
   clear HLD HFS HCC
   clear hB hpf hZ hti hR O L
   go_wp2_with (first|(go_at_call 105;refine(HRI.out _ (by(with_reducible(repeat(first|exact Qc _|assumption|apply Qd|apply Qe|exact ext_plus _ _|(apply Qf;rotate_left;(simp<;>omega))|(apply Qg;rotate_left;exact ext_plus _ _)|(apply Qg;rotate_left;assumption)))))).mono ?_;rintro e w2 ⟨rfl,hb⟩;have f0:=(hbp.ext hb).cell;have f1:=(hbp.ext hb).lt;have f2:=(hbt.ext hb).cell;have f3:=(hbt.ext hb).lt)|(go_at_call 119;refine(HTI.out _ (hE1.trans hb)).mono ?_;rintro e w3 ⟨rfl,hb3⟩;have hbr2:=(hbr.ext hb).ext hb3;have e0:=hbr2.cell;have e1:=hbr2.free;have e2:=hbr2.lt))
   obtain⟨w9,hw9⟩:∃w9,((((w3.setCell ⟨w.heap.size+1+1,0,none⟩ (.int .i64 0)).setCell ⟨w.heap.size+1+1,1,none⟩ (.int .i64 0)).setCell ⟨w.heap.size+1+1,2,none⟩ (.int .i64 0)).setCell ⟨w.heap.size+1+1,3,none⟩ (.int .i64 0)).setCell ⟨w.heap.size+1+1,4,none⟩ (.int .i64 0)=w9:=⟨_,rfl⟩
   rw[hw9]
   obtain⟨hE9,hc9⟩:=HSET.out w3 hbr2 ((hE1.trans hb).trans hb3) w9 hw9.symm
   clear e0 e1 f0 f2
   exact bodyPost_ret (v:= .tuple #[.slice none 0 0,.agg #[.int .i64 0,.int .i64 0,.int .i64 0,.int .i64 0,.int .i64 0],.int .i64 2]) (by simp[results,Tryz.results45,go_sem,hc9]) rfl ⟨_,rfl,Sls.nil _,hE9⟩
  | true =>
   have T:=R.okT_iff.1 hZ
   have hfo:=fun w' (hx:Ext w w')=>follow_any r plan t _ _ _ _ _ w' (hP.ext hx) (hL.ext hx) (hS.ext hx) (hG.ext hx) (hT.ext hx) O T
   have hld:R.ledger r t=⟨l0,l1,l2,l3,l4⟩:=by have h:=HLD.out;simpa using h
   have hfs:R.fishOf r t=FS:=by have h:=HFS.out;simpa using h
   obtain rfl:CC=0:=HCC.out.symm
   simp only[hld,hfs]at hfo
   clear HLD HFS HCC
   have HFO:=Qa hfo
   clear hB hpf hZ hti hR O L T hfo hld hfs
   go_upto_region 5 with(first|(go_at_call 105;refine(HRI.out _ (by(with_reducible(repeat(first|exact Qc _|assumption|apply Qd|apply Qe|exact ext_plus _ _|(apply Qf;rotate_left;(simp<;>omega))|(apply Qg;rotate_left;exact ext_plus _ _)|(apply Qg;rotate_left;assumption)))))).mono ?_;rintro e w2 ⟨rfl,hb⟩;have f0:=(hbp.ext hb).cell;have f1:=(hbp.ext hb).lt;have f2:=(hbt.ext hb).cell;have f3:=(hbt.ext hb).lt)|(go_at_call 119;refine(HTI.out _ (hE1.trans hb)).mono ?_;rintro e w3 ⟨rfl,hb3⟩;have k0:=((hbp.ext hb).ext hb3).cell;have k1:=((hbp.ext hb).ext hb3).lt;have k2:=((hbt.ext hb).ext hb3).cell;have k3:=((hbt.ext hb).ext hb3).lt)|(go_at_call 120;refine(HFO.out _ ((hE1.trans hb).trans hb3)).mono ?_;rintro e w4 ⟨v4,rfl,hv4,hb4⟩;have hbr2:=((hbr.ext hb).ext hb3).ext hb4;have e0:=hbr2.cell;have e1:=hbr2.free;have e2:=hbr2.lt))
   obtain⟨w5,hw5⟩:∃w5,w4.alloc (.cells #[.int .i64 l0,.int .i64 l1,.int .i64 l2,.int .i64 l3,.int .i64 l4] 130)=w5:=⟨_,rfl⟩
   have hb5:Blk w5 w4.heap.size #[.int .i64 l0,.int .i64 l1,.int .i64 l2,.int .i64 l3,.int .i64 l4] 130:=by rw[← hw5];exact Qb rfl _ _
   have hE45:Ext w4 w5:=by rw[← hw5];exact(Qc _).alloc _
   have hbr5:=hbr2.ext hE45
   rw[hw5]
   clear hw5 e0 e1 f0 f2 k0 k2
   have g0:=hb5.cell
   have g1:=hb5.lt
   have hpc:=plus_cell
   refine wp_region_ext 3 (fun _ _ d _ _ h=>by cases d<;>exact h) (by kernel_rfl) (by kernel_rfl) (by kernel_rfl) (by kernel_rfl) ?_
   simp only[List.take_succ_cons,List.take_zero,List.drop_succ_cons,List.drop_zero]
   repeat(any_goals(first|go_big_quiet_step(fail)|quiet_step(fail)))
   all_goals(refine wpQuiet_nil ?_;intro w6 hE56)
   have hbr6:=hbr5.ext hE56
   have e0:=hbr6.cell
   have e1:=hbr6.free
   have e3:=hbr6.lt
   go_wp2
   have hE6:Ext w w6:=((((hE1.trans hb).trans hb3).trans hb4).trans hE45).trans hE56
   have hbR9:=((((hbr6.set 0 (.int .i64 l0)).set 1 (.int .i64 l1)).set 2 (.int .i64 l2)).set 3 (.int .i64 l3)).set 4 (.int .i64 l4)
   have hO9:=(((((Of2.refl (w.heap.size+1+1) (w.heap.size+1+1) w6).set (a:=⟨w.heap.size+1+1,0,none⟩) (.inl rfl) (.int .i64 l0)).set (a:=⟨w.heap.size+1+1,1,none⟩) (.inl rfl) (.int .i64 l1)).set (a:=⟨w.heap.size+1+1,2,none⟩) (.inl rfl) (.int .i64 l2)).set (a:=⟨w.heap.size+1+1,3,none⟩) (.inl rfl) (.int .i64 l3)).set (a:=⟨w.heap.size+1+1,4,none⟩) (.inl rfl) (.int .i64 l4)
   obtain⟨w9,hw9⟩:∃w9,((((w6.setCell ⟨w.heap.size+1+1,0,none⟩ (.int .i64 l0)).setCell ⟨w.heap.size+1+1,1,none⟩ (.int .i64 l1)).setCell ⟨w.heap.size+1+1,2,none⟩ (.int .i64 l2)).setCell ⟨w.heap.size+1+1,3,none⟩ (.int .i64 l3)).setCell ⟨w.heap.size+1+1,4,none⟩ (.int .i64 l4)=w9:=⟨_,rfl⟩
   rw[hw9]at hbR9 hO9 ⊢
   have hc9:=hbR9.cell
   have hz3:=hb3.size
   have hz2:=hb.size
   have hz1:=hbp.lt
   have hLL:=(((hv4.mono (m:=w.heap.size+1+1+1) (by omega)).ext hE45).ext hE56).of2 (by omega) hO9
   have hE9:=hO9.ext0 hE6 (by omega) (by omega)
   clear e0 e1 hw9 hO9 g0
   exact bodyPost_ret (v:= .tuple #[v4,.agg #[.int .i64 l0,.int .i64 l1,.int .i64 l2,.int .i64 l3,.int .i64 l4],.int .i64 0]) (by simp[results,Tryz.results45,go_sem,hc9]) rfl ⟨_,rfl,hLL.mono (by omega),hE9⟩
end Go.Proofs.YtgloajbgphcloaaGreat.Rf
namespace Go.Proofs.YtgloajbgphcloaaGreat.Rf
set_option linter.unusedVariables false
set_option linter.unusedSimpArgs false
open Go.RowKit
open Ext renaming alloc → Qd, drew → Qe, refl → Qc, setCell → Qf, trans → Qg
open Lib renaming hid → Qa
open List renaming getElem_mem → Qi
open Nat renaming zero_le → Qh
open World renaming size_alloc → Qj
theorem end_any (a b:Int) (h:Bool) (w:World) :
  Calls Tryz.prog 250 #[.agg #[.int .i64 a,.int .i64 b],.bool h] w fun e w'=>e= .returned (.int .i64 (if h then b else a))∧Ext w w':=by
 cases h<;>(go_enter Tryz.func250,Tryz.ntmps250;go_wp2;go_ret;exact⟨rfl,(Qc _).alloc _⟩)
def startF (r:R.Reef) (m:Bool) (p:R.Place):Int:=if m then R.most r p.count else p.count
def growF (m:Bool) (p:R.Place):Int:=if m then p.gh else p.gl
def takeF (m:Bool) (x:Int×Int):Int:=if m then x.1 else x.2
abbrev endF:Value:= .func (.func 250) #[] #[]
theorem grow_end (p:R.Place) (m:Bool) (bf bm:Nat) (w:World) (hf:Blk w bf #[endF] 341) (hm:Blk w bm #[.bool m] 4) :
  Calls Tryz.prog 253 #[.agg (placeV p),.pointer (some ⟨bf,0,none⟩),.pointer (some ⟨bm,0,none⟩)] w fun e w'=>e= .returned (.int .i64 (growF m p))∧Ext w w':=by
 have c0:=hf.cell
 have c1:=hf.lt
 have c2:=hm.cell
 have c3:=hm.lt
 cases m
 all_goals
  go_enter Tryz.func253,Tryz.ntmps253
  go_wp2_with (first|(go_at_call 250;refine(end_any _ _ _ _).mono ?_;rintro e w' ⟨rfl,hb⟩))
  all_goals(go_ret;exact⟨rfl,by(with_reducible(repeat(first|exact Qc _|assumption|apply Qd|apply Qe|exact ext_plus _ _|(apply Qf;rotate_left;(simp<;>omega))|(apply Qg;rotate_left;exact ext_plus _ _)|(apply Qg;rotate_left;assumption))))⟩)
theorem take_end (x:Int×Int) (m:Bool) (bf bm:Nat) (w:World) (hf:Blk w bf #[endF] 341) (hm:Blk w bm #[.bool m] 4) :
  Calls Tryz.prog 255 #[.agg #[.int .i64 x.1,.int .i64 x.2],.pointer (some ⟨bf,0,none⟩),.pointer (some ⟨bm,0,none⟩)] w fun e w'=>e= .returned (.int .i64 (takeF m x))∧Ext w w':=by
 have c0:=hf.cell
 have c1:=hf.lt
 have c2:=hm.cell
 have c3:=hm.lt
 cases m
 all_goals
  go_enter Tryz.func255,Tryz.ntmps255
  go_wp2_with (first|(go_at_call 250;refine(end_any _ _ _ _).mono ?_;rintro e w' ⟨rfl,hb⟩))
  all_goals(go_ret;exact⟨rfl,by(with_reducible(repeat(first|exact Qc _|assumption|apply Qd|apply Qe|exact ext_plus _ _|(apply Qf;rotate_left;(simp<;>omega))|(apply Qg;rotate_left;exact ext_plus _ _)|(apply Qg;rotate_left;assumption))))⟩)
set_option maxRecDepth 100000 in
theorem start_end (r:R.Reef) (p:R.Place) (m:Bool) (vp vl:Value) (bf bx bm:Nat) (w:World) (hf:Blk w bf #[endF] 341) (hx:Blk w bx (planV r vp vl) 227) (hm:Blk w bm #[.bool m] 4)
  (h0:0≤p.count) (h1:p.count≤1000000) (h2:0≤r.miss) (h3:r.miss≤2000) (hvp:∃a n c,vp= .slice a n c) (hvl:∃a n c,vl= .slice a n c) :
  Calls Tryz.prog 252 #[.agg (placeV p),.pointer (some ⟨bf,0,none⟩),.pointer (some ⟨bx,0,none⟩),.pointer (some ⟨bm,0,none⟩)] w fun e w'=>e= .returned (.int .i64 (startF r m p))∧Ext w w':=by
 obtain⟨a1,n1,c1,rfl⟩:=hvp
 obtain⟨a2,n2,c2,rfl⟩:=hvl
 have c0:=hf.cell
 have d1:=hf.lt
 have d2:=hm.cell
 have d3:=hm.lt
 have d4:=hx.cell
 have d5:=hx.lt
 have hpc:=plus_cell
 cases m
 all_goals
  go_enter Tryz.func252,Tryz.ntmps252
  go_wp2
  refine wp_region_ext 7 (fun _ _ d _ _ h=>by cases d<;>exact h) (by kernel_rfl) (by kernel_rfl) (by kernel_rfl) (by kernel_rfl) ?_
  simp only[List.take_succ_cons,List.take_zero,List.drop_succ_cons,List.drop_zero]
  repeat(any_goals(first|quiet_step(first|(go_at_call 186;exact ext_quiet (starts_any r p _ _ _ h0 h1 h2 h3))|(go_at_call 250;exact ext_quiet (end_any _ _ _ _)))))
  all_goals(refine wpQuiet_nil ?_;intro w' hE')
  all_goals(unfold wpList;go_wp2;go_ret;exact⟨rfl,((Qc _).alloc _).trans hE'⟩)
set_option maxRecDepth 100000 in
set_option maxHeartbeats 8000000 in
theorem ends_starts (r:R.Reef) (m:Bool) (vp vl:Value) (bf bx bm:Nat) (v:Value) (xs:List R.Place) (w:World) (hx:Places w v xs) (hn:xs.length≤1000000) (hf:Blk w bf #[endF] 341) (hbx:Blk w bx (planV r vp vl) 227) (hm:Blk w bm #[.bool m] 4) (h2:0≤r.miss) (h3:r.miss≤2000) (hvp:∃a n c,vp= .slice a n c) (hvl:∃a n c,vl= .slice a n c) (hO:∀p∈xs,0≤p.count∧p.count≤1000000) :
  Calls Tryz.prog 251 #[v,.func (.func 252) #[] #[.pointer (some ⟨bf,0,none⟩),.pointer (some ⟨bx,0,none⟩),.pointer (some ⟨bm,0,none⟩)]] w fun e w'=>∃v',e= .returned v'∧w'.ownsRow w.heap.size 3 1 v' xs.length ((xs.map (startF r m)).map (Value.int .i64))∧Ext w w':=by
 obtain⟨a,cap,rfl,hx⟩:=hx
 have HX:=Qa hx
 obtain⟨i0,hi,hz0,hz1,hz2⟩:=info_parts int_info
 clear hx
 go_enter Tryz.func251,Tryz.ntmps251
 go_wp2
 go_loopw [5,7,10] (fun v _ i wr=>∃k:Nat,k≤xs.length∧i= .int .i64 k∧wr.ownsRow w.heap.size 3 1 v k (pre (startF r m) xs k)∧Ext w wr) (fun _ _ i _=>xs.length - (intOf i).toNat)
 case atStart=>exact⟨0,Qh _,rfl,World.ownsRow_nil _ _ _ _,Qc _⟩
 case round =>
  rename World=>wr
  obtain⟨k,hk,rfl,hown,hE⟩:=hrel
  by_cases hlt:k<xs.length
  ·obtain⟨b,off,rfl,hb,hAt⟩:=HX.out k hlt
   obtain⟨u0,u1,u2,u3,u4,u5,u6,u7,u8,u9,u10,u11⟩:=place_cells (ate_stays _ _ _ _ _ _ hE hb hAt)
   have hps:=pre_succ (startF r m) xs hlt
   clear hAt
   have HPS:=Qa hps
   have hzE:=hE.size
   have hin:=Qi hlt
   obtain⟨p,hp⟩:∃p,xs[k]=p:=⟨_,rfl⟩
   rw[hp]at hin
   have hcl:=fun w' hx=>start_end r p m vp vl bf bx bm w' (hf.ext hx) (hbx.ext hx) (hm.ext hx) (hO p hin).1 (hO p hin).2 h2 h3 hvp hvl
   have HCL:=Qa hcl
   rw[hp]at HPS u0 u1 u2 u3 u4 u5 u6 u7 u8 u9 u10 u11
   clear hp hps hcl
   go_wp2_with (first|(go_at_call 252;refine(HCL.out _ (by(with_reducible show Ext _ _;(with_reducible(repeat(first|exact Qc _|assumption|apply Qd|apply Qe|exact ext_plus _ _|(apply Qf;rotate_left;(simp<;>omega))|(apply Qg;rotate_left;exact ext_plus _ _)|(apply Qg;rotate_left;assumption))));done))).mono ?_;rintro e w2 ⟨rfl,hb2⟩;have hzb:=hb2.size;simp only[Qj]at hzb;have hEw2:Ext wr w2:=((Qc wr).alloc _).trans hb2)|(at_builtin;refine wpList_append_own _ rfl _ _ 30 rfl (w.heap.size) 3 i0 (.int .i64 0) 1 8 Tryz.underlying30 hi hz0 hz1 hz2 rfl (by decide) _ _ _ rfl ((own_ext hown hEw2).alloc _) ⟨w2.heap.size,0,none⟩ 1 1 [.int .i64 ((startF r m) p)] rfl rfl (cell_one _ _ _ (by simp)) (one_int _) (by unfold maxLen;omega) (by omega) (by simp<;>omega) ?_;intro v' w1 hown' hgrow _;obtain⟨g',cap',rfl⟩:=own_succ hown'))
   go_roundw
   case rel=>exact⟨k+1,by omega,by go_num,by rw[HPS.out];exact hown',((hE.trans hEw2).alloc _).grown hgrow (own_base hown)⟩
   case measure=>simp[intOf];omega
  ·obtain rfl:k=xs.length:=by omega
   obtain⟨av,cv,rfl⟩:=own_slice hown
   go_wp2
   go_ret
   rw[pre_all]at hown
   exact⟨_,rfl,hown,hE⟩
set_option maxRecDepth 100000 in
set_option maxHeartbeats 8000000 in
theorem ends_grows (m:Bool) (bf bm:Nat) (v:Value) (xs:List R.Place) (w:World) (hx:Places w v xs) (hn:xs.length≤1000000) (hf:Blk w bf #[endF] 341) (hm:Blk w bm #[.bool m] 4) :
  Calls Tryz.prog 251 #[v,.func (.func 253) #[] #[.pointer (some ⟨bf,0,none⟩),.pointer (some ⟨bm,0,none⟩)]] w fun e w'=>∃v',e= .returned v'∧w'.ownsRow w.heap.size 3 1 v' xs.length ((xs.map (growF m)).map (Value.int .i64))∧Ext w w':=by
 obtain⟨a,cap,rfl,hx⟩:=hx
 have HX:=Qa hx
 obtain⟨i0,hi,hz0,hz1,hz2⟩:=info_parts int_info
 clear hx
 go_enter Tryz.func251,Tryz.ntmps251
 go_wp2
 go_loopw [5,7,10] (fun v _ i wr=>∃k:Nat,k≤xs.length∧i= .int .i64 k∧wr.ownsRow w.heap.size 3 1 v k (pre (growF m) xs k)∧Ext w wr) (fun _ _ i _=>xs.length - (intOf i).toNat)
 case atStart=>exact⟨0,Qh _,rfl,World.ownsRow_nil _ _ _ _,Qc _⟩
 case round =>
  rename World=>wr
  obtain⟨k,hk,rfl,hown,hE⟩:=hrel
  by_cases hlt:k<xs.length
  ·obtain⟨b,off,rfl,hb,hAt⟩:=HX.out k hlt
   obtain⟨u0,u1,u2,u3,u4,u5,u6,u7,u8,u9,u10,u11⟩:=place_cells (ate_stays _ _ _ _ _ _ hE hb hAt)
   have hps:=pre_succ (growF m) xs hlt
   clear hAt
   have HPS:=Qa hps
   have hzE:=hE.size
   have hin:=Qi hlt
   obtain⟨p,hp⟩:∃p,xs[k]=p:=⟨_,rfl⟩
   rw[hp]at hin
   have hcl:=fun w' hx=>grow_end p m bf bm w' (hf.ext hx) (hm.ext hx)
   have HCL:=Qa hcl
   rw[hp]at HPS u0 u1 u2 u3 u4 u5 u6 u7 u8 u9 u10 u11
   clear hp hps hcl
   go_wp2_with (first|(go_at_call 253;refine(HCL.out _ (by(with_reducible show Ext _ _;(with_reducible(repeat(first|exact Qc _|assumption|apply Qd|apply Qe|exact ext_plus _ _|(apply Qf;rotate_left;(simp<;>omega))|(apply Qg;rotate_left;exact ext_plus _ _)|(apply Qg;rotate_left;assumption))));done))).mono ?_;rintro e w2 ⟨rfl,hb2⟩;have hzb:=hb2.size;simp only[Qj]at hzb;have hEw2:Ext wr w2:=((Qc wr).alloc _).trans hb2)|(at_builtin;refine wpList_append_own _ rfl _ _ 30 rfl (w.heap.size) 3 i0 (.int .i64 0) 1 8 Tryz.underlying30 hi hz0 hz1 hz2 rfl (by decide) _ _ _ rfl ((own_ext hown hEw2).alloc _) ⟨w2.heap.size,0,none⟩ 1 1 [.int .i64 ((growF m) p)] rfl rfl (cell_one _ _ _ (by simp)) (one_int _) (by unfold maxLen;omega) (by omega) (by simp<;>omega) ?_;intro v' w1 hown' hgrow _;obtain⟨g',cap',rfl⟩:=own_succ hown'))
   go_roundw
   case rel=>exact⟨k+1,by omega,by go_num,by rw[HPS.out];exact hown',((hE.trans hEw2).alloc _).grown hgrow (own_base hown)⟩
   case measure=>simp[intOf];omega
  ·obtain rfl:k=xs.length:=by omega
   obtain⟨av,cv,rfl⟩:=own_slice hown
   go_wp2
   go_ret
   rw[pre_all]at hown
   exact⟨_,rfl,hown,hE⟩
set_option maxRecDepth 100000 in
set_option maxHeartbeats 8000000 in
theorem ends_takes (m:Bool) (bf bm:Nat) (v:Value) (xs:List (Int×Int)) (w:World) (hx:Spans w v xs) (hn:xs.length≤1000000) (hf:Blk w bf #[endF] 341) (hm:Blk w bm #[.bool m] 4) :
  Calls Tryz.prog 254 #[v,.func (.func 255) #[] #[.pointer (some ⟨bf,0,none⟩),.pointer (some ⟨bm,0,none⟩)]] w fun e w'=>∃v',e= .returned v'∧w'.ownsRow w.heap.size 3 1 v' xs.length ((xs.map (takeF m)).map (Value.int .i64))∧Ext w w':=by
 obtain⟨a,cap,rfl,hx⟩:=hx
 have HX:=Qa hx
 obtain⟨i0,hi,hz0,hz1,hz2⟩:=info_parts int_info
 clear hx
 go_enter Tryz.func254,Tryz.ntmps254
 go_wp2
 go_loopw [5,7,10] (fun v _ i wr=>∃k:Nat,k≤xs.length∧i= .int .i64 k∧wr.ownsRow w.heap.size 3 1 v k (pre (takeF m) xs k)∧Ext w wr) (fun _ _ i _=>xs.length - (intOf i).toNat)
 case atStart=>exact⟨0,Qh _,rfl,World.ownsRow_nil _ _ _ _,Qc _⟩
 case round =>
  rename World=>wr
  obtain⟨k,hk,rfl,hown,hE⟩:=hrel
  by_cases hlt:k<xs.length
  ·obtain⟨b,off,rfl,hb,hAt⟩:=HX.out k hlt
   obtain⟨u0,u1⟩:=span_cells (ate_stays _ _ _ _ _ _ hE hb hAt)
   have hps:=pre_succ (takeF m) xs hlt
   clear hAt
   have HPS:=Qa hps
   have hzE:=hE.size
   have hin:=Qi hlt
   obtain⟨p,hp⟩:∃p,xs[k]=p:=⟨_,rfl⟩
   rw[hp]at hin
   have hcl:=fun w' hx=>take_end p m bf bm w' (hf.ext hx) (hm.ext hx)
   have HCL:=Qa hcl
   rw[hp]at HPS u0 u1
   clear hp hps hcl
   go_wp2_with (first|(go_at_call 255;refine(HCL.out _ (by(with_reducible show Ext _ _;(with_reducible(repeat(first|exact Qc _|assumption|apply Qd|apply Qe|exact ext_plus _ _|(apply Qf;rotate_left;(simp<;>omega))|(apply Qg;rotate_left;exact ext_plus _ _)|(apply Qg;rotate_left;assumption))));done))).mono ?_;rintro e w2 ⟨rfl,hb2⟩;have hzb:=hb2.size;simp only[Qj]at hzb;have hEw2:Ext wr w2:=((Qc wr).alloc _).trans hb2)|(at_builtin;refine wpList_append_own _ rfl _ _ 30 rfl (w.heap.size) 3 i0 (.int .i64 0) 1 8 Tryz.underlying30 hi hz0 hz1 hz2 rfl (by decide) _ _ _ rfl ((own_ext hown hEw2).alloc _) ⟨w2.heap.size,0,none⟩ 1 1 [.int .i64 ((takeF m) p)] rfl rfl (cell_one _ _ _ (by simp)) (one_int _) (by unfold maxLen;omega) (by omega) (by simp<;>omega) ?_;intro v' w1 hown' hgrow _;obtain⟨g',cap',rfl⟩:=own_succ hown'))
   go_roundw
   case rel=>exact⟨k+1,by omega,by go_num,by rw[HPS.out];exact hown',((hE.trans hEw2).alloc _).grown hgrow (own_base hown)⟩
   case measure=>simp[intOf];omega
  ·obtain rfl:k=xs.length:=by omega
   obtain⟨av,cv,rfl⟩:=own_slice hown
   go_wp2
   go_ret
   rw[pre_all]at hown
   exact⟨_,rfl,hown,hE⟩
end Go.Proofs.YtgloajbgphcloaaGreat.Rf
