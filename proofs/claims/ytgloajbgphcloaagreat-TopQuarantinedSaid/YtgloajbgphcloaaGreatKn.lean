/- The examples' data: a sea of canoes, its log, a sea of fleets, its bids; equal lists. The examples that every law of the layers computes: known11 returns true. -/
import Derived.Test.YtgloajbgphcloaaGreatCnA
import Derived.Test.YtgloajbgphcloaaGreatFlA
import Derived.Test.YtgloajbgphcloaaGreatKn1
import Derived.Test.YtgloajbgphcloaaGreatLnB
import Derived.Test.YtgloajbgphcloaaGreatCnB
import Derived.Test.YtgloajbgphcloaaGreatClC
import Derived.Test.YtgloajbgphcloaaGreatFlB
namespace Go.Proofs.YtgloajbgphcloaaGreat
set_option linter.unusedVariables false
set_option linter.unusedSimpArgs false
open Go.RowKit
open Nat renaming lt_of_lt_of_le → Qa
theorem ints_of_blk {w:World} {b:Nat} {xs:List Int} {e:TypeId} (h:Blk w b (xs.map (Value.int .i64)).toArray e) {n:Nat} (hn:n=xs.length) (cap:Nat):Ints w (.slice (some ⟨b,0,none⟩) n cap) xs:=by
 subst hn
 refine⟨_,_,rfl,fun i hi=>⟨b,0,rfl,h.lt,?_⟩⟩
 rw[h.cell]
 simp[hi]
theorem sls_of_blk {α:Type} (f:α→List Value) (k:Nat) (hf:∀x,(f x).length=k) {w:World} {b:Nat} {xs:List α} {e:TypeId} (h:Blk w b (xs.flatMap f).toArray e) {n:Nat} (hn:n=xs.length) (cap:Nat):Sls k (AtE f) w (.slice (some ⟨b,0,none⟩) n cap) xs:=by
 subst hn
 refine⟨_,_,rfl,fun i hi=>⟨b,0,rfl,h.lt,fun j u hu=> ?_⟩⟩
 have hj:j<k:=by rw[← hf xs[i]];exact(List.getElem?_eq_some_iff.1 hu).1
 have:=flat_get f k hf xs i hi j hj
 rw[h.cell,Nat.zero_add,List.getElem?_toArray,this]
 exact hu
set_option maxRecDepth 100000 in
set_option maxHeartbeats 8000000 in
theorem same_true (xs:List Int) (v v':Value) (w:World) (h1:Ints w v xs) (h2:Ints w v' xs) (hn:xs.length≤1000000) :
  Calls Tryz.prog 59 #[v,v'] w fun e w'=>e= .returned (.bool true)∧Ext w w':=by
 obtain⟨a,c,rfl,hx⟩:=h1
 obtain⟨a',c',rfl,hx'⟩:=h2
 have HX:=Lib.hid hx
 have HX':=Lib.hid hx'
 clear hx hx'
 have hpc:=plus_cell
 go_enter Tryz.func59,Tryz.ntmps59
 go_wp2
 go_loopw [5] (fun i wr=>∃k:Nat,k≤xs.length∧i= .int .i64 k∧Ext w wr) (fun i _=>xs.length - (intOf i).toNat)
 case atStart=>exact⟨0,Nat.zero_le _,rfl,Ext.refl _⟩
 case round =>
  rename World=>wr
  obtain⟨k,hk,rfl,hE⟩:=hrel
  by_cases hlt:k<xs.length
  ·obtain⟨b,off,rfl,hb,h0⟩:=HX.out k hlt
   obtain⟨b',off',rfl,hb',h0'⟩:=HX'.out k hlt
   have k0:=(hE.cells.1 _ _ hb).trans h0
   have k1:=Qa hb hE.size
   have k2:=(hE.cells.1 _ _ hb').trans h0'
   have k3:=Qa hb' hE.size
   clear h0 h0' hb hb'
   go_wp2
   refine wp_region_ext 9 (fun _ _ d _ _ h=>by cases d<;>exact h) (by kernel_rfl) (by kernel_rfl) (by kernel_rfl) (by kernel_rfl) ?_
   simp only[List.take_succ_cons,List.take_zero,List.drop_succ_cons,List.drop_zero]
   repeat(any_goals(first|go_big_quiet_step(fail)|quiet_step(fail)))
   all_goals(refine wpQuiet_nil ?_;intro w2 hE2)
   go_wp2
   go_roundw
   case rel=>exact⟨k+1,by omega,by go_num,hE.trans hE2⟩
   case measure=>simp[intOf];omega
  ·obtain rfl:k=xs.length:=by omega
   go_wp2
   go_ret
   exact⟨rfl,hE⟩
end Go.Proofs.YtgloajbgphcloaaGreat
namespace Go.Proofs.YtgloajbgphcloaaGreat.Cn
set_option linter.unusedVariables false
set_option linter.unusedSimpArgs false
open Go.RowKit
open Blk renaming new' → Qb
open Ext renaming trans → Qc
set_option maxRecDepth 100000 in
set_option maxHeartbeats 8000000 in
theorem exS_any (vb:Value) (w:World) (hvb:∃a n k,vb= .slice a n k):Calls Tryz.prog 53 #[vb] w fun e w'=>∃vc vs vr,e= .returned (.agg (seaV (exS []) vc vs vb vr))∧Lists w' vc (exS []).courses∧Ints w' vs (exS []).stars∧Ints w' vr (exS []).roads∧Ext w w':=by
 obtain⟨ab,nb,kb,rfl⟩:=hvb
 go_enter Tryz.func53,Tryz.ntmps53
 go_wp2
 obtain⟨w1,hw1⟩:∃w1,((((((w.alloc (.cells #[.int .i64 5,.int .i64 6,.slice (some ⟨w.heap.size+1+1+1,0,none⟩) 2 2,.slice (some ⟨w.heap.size+1+1+1+1,0,none⟩) 2 2,.slice ab nb kb,.slice (some ⟨w.heap.size+1+1+1+1+1,0,none⟩) 5 5] 96)).alloc (.cells #[.int .i64 3,.int .i64 6,.int .i64 12,.int .i64 24,.int .i64 16] 3)).alloc (.cells #[.int .i64 1,.int .i64 1,.int .i64 2,.int .i64 4,.int .i64 8] 3)).alloc (.cells #[.slice (some ⟨w.heap.size+1,0,none⟩) 5 5,.slice (some ⟨w.heap.size+1+1,0,none⟩) 5 5] 30)).alloc (.cells #[.int .i64 7,.int .i64 12] 3)).alloc (.cells #[.int .i64 2,.int .i64 5,.int .i64 10,.int .i64 20,.int .i64 8] 3))=w1:=⟨_,rfl⟩
 have hx:Blk w1 w.heap.size #[.int .i64 5,.int .i64 6,.slice (some ⟨w.heap.size+1+1+1,0,none⟩) 2 2,.slice (some ⟨w.heap.size+1+1+1+1,0,none⟩) 2 2,.slice ab nb kb,.slice (some ⟨w.heap.size+1+1+1+1+1,0,none⟩) 5 5] 96:=by rw[← hw1];exact(((((Qb rfl _ _).alloc _).alloc _).alloc _).alloc _).alloc _
 have h1:Blk w1 (w.heap.size+1) #[.int .i64 3,.int .i64 6,.int .i64 12,.int .i64 24,.int .i64 16] 3:=by rw[← hw1];exact((((Qb (by simp) _ _).alloc _).alloc _).alloc _).alloc _
 have h2:Blk w1 (w.heap.size+1+1) #[.int .i64 1,.int .i64 1,.int .i64 2,.int .i64 4,.int .i64 8] 3:=by rw[← hw1];exact(((Qb (by simp) _ _).alloc _).alloc _).alloc _
 have h3:Blk w1 (w.heap.size+1+1+1) #[.slice (some ⟨w.heap.size+1,0,none⟩) 5 5,.slice (some ⟨w.heap.size+1+1,0,none⟩) 5 5] 30:=by rw[← hw1];exact((Qb (by simp) _ _).alloc _).alloc _
 have h4:Blk w1 (w.heap.size+1+1+1+1) #[.int .i64 7,.int .i64 12] 3:=by rw[← hw1];exact(Qb (by simp) _ _).alloc _
 have h5:Blk w1 (w.heap.size+1+1+1+1+1) #[.int .i64 2,.int .i64 5,.int .i64 10,.int .i64 20,.int .i64 8] 3:=by rw[← hw1];exact Qb (by simp) _ _
 have hE1:Ext w w1:=by rw[← hw1];(with_reducible(repeat(first|exact Ext.refl _|assumption|apply Ext.alloc|apply Ext.drew|exact ext_plus _ _|(apply Ext.setCell;rotate_left;(simp<;>omega))|(apply Qc;rotate_left;exact ext_plus _ _)|(apply Qc;rotate_left;assumption))))
 rw[hw1]
 have z0:=hx.cell
 clear hw1
 have i1:Ints w1 (.slice (some ⟨w.heap.size+1,0,none⟩) 5 5) [3,6,12,24,16]:=ints_of_blk (xs:=[3,6,12,24,16]) h1 rfl 5
 have i2:Ints w1 (.slice (some ⟨w.heap.size+1+1,0,none⟩) 5 5) [1,1,2,4,8]:=ints_of_blk (xs:=[1,1,2,4,8]) h2 rfl 5
 have hL:Lists w1 (.slice (some ⟨w.heap.size+1+1+1,0,none⟩) 2 2) [[3,6,12,24,16],[1,1,2,4,8]]:=by
  refine⟨_,2,rfl,fun i hi=>⟨w.heap.size+1+1+1,0,rfl,h3.lt,?_⟩⟩
  have hi2:i<2:=hi
  match i,hi2 with
  | 0,_=>exact⟨_,h3.cell 0,i1⟩
  | 1,_=>exact⟨_,h3.cell 1,i2⟩
 exact bodyPost_ret (v:= .agg #[.int .i64 5,.int .i64 6,.slice (some ⟨w.heap.size+1+1+1,0,none⟩) 2 2,.slice (some ⟨w.heap.size+1+1+1+1,0,none⟩) 2 2,.slice ab nb kb,.slice (some ⟨w.heap.size+1+1+1+1+1,0,none⟩) 5 5]) (by simp[results,Tryz.results53,go_sem,z0]) rfl ⟨_,_,_,rfl,hL,ints_of_blk (xs:=[7,12]) h4 rfl 2,ints_of_blk (xs:=[2,5,10,20,8]) h5 rfl 5,hE1⟩
set_option maxRecDepth 100000 in
set_option maxHeartbeats 8000000 in
theorem exL_any (w:World):Calls Tryz.prog 54 #[] w fun e w'=>∃v,e= .returned v∧Hours w' v exL∧Ext w w':=by
 go_enter Tryz.func54,Tryz.ntmps54
 go_wp2
 go_ret
 have hB:Blk (w.alloc (.cells #[.int .i64 0,.int .i64 (-1),.int .i64 0,.int .i64 1] 100)) w.heap.size #[.int .i64 0,.int .i64 (-1),.int .i64 0,.int .i64 1] 100:=Blk.new _ _ _
 exact⟨.slice (some ⟨w.heap.size,0,none⟩) 2 2,rfl,sls_of_blk hourC 2 (fun _=>rfl) (xs:=exL) hB rfl 2,by(with_reducible(repeat(first|exact Ext.refl _|assumption|apply Ext.alloc|apply Ext.drew|exact ext_plus _ _|(apply Ext.setCell;rotate_left;(simp<;>omega))|(apply Qc;rotate_left;exact ext_plus _ _)|(apply Qc;rotate_left;assumption))))⟩
end Go.Proofs.YtgloajbgphcloaaGreat.Cn
namespace Go.Proofs.YtgloajbgphcloaaGreat.Fl
set_option linter.unusedVariables false
set_option linter.unusedSimpArgs false
open Go.RowKit
open Blk renaming new' → Qb
open Ext renaming trans → Qc
set_option maxRecDepth 100000 in
set_option maxHeartbeats 8000000 in
theorem exS_any (w:World):Calls Tryz.prog 57 #[] w fun e w'=>∃vr vz vb,e= .returned (.agg (seaV exS vr vz vb))∧Ints w' vr exS.roads∧Ints w' vz exS.zones∧Ints w' vb exS.berths∧Ext w w':=by
 go_enter Tryz.func57,Tryz.ntmps57
 go_wp2
 obtain⟨w1,hw1⟩:∃w1,((((w.alloc (.cells #[.int .i64 4,.slice (some ⟨w.heap.size+1,0,none⟩) 4 4,.slice (some ⟨w.heap.size+1+1,0,none⟩) 2 2,.slice (some ⟨w.heap.size+1+1+1,0,none⟩) 2 2,.int .i64 4] 89)).alloc (.cells #[.int .i64 2,.int .i64 5,.int .i64 10,.int .i64 4] 3)).alloc (.cells #[.int .i64 3,.int .i64 12] 3)).alloc (.cells #[.int .i64 1,.int .i64 2] 3))=w1:=⟨_,rfl⟩
 have hx:Blk w1 w.heap.size #[.int .i64 4,.slice (some ⟨w.heap.size+1,0,none⟩) 4 4,.slice (some ⟨w.heap.size+1+1,0,none⟩) 2 2,.slice (some ⟨w.heap.size+1+1+1,0,none⟩) 2 2,.int .i64 4] 89:=by rw[← hw1];exact(((Qb rfl _ _).alloc _).alloc _).alloc _
 have h1:Blk w1 (w.heap.size+1) #[.int .i64 2,.int .i64 5,.int .i64 10,.int .i64 4] 3:=by rw[← hw1];exact((Qb (by simp) _ _).alloc _).alloc _
 have h2:Blk w1 (w.heap.size+1+1) #[.int .i64 3,.int .i64 12] 3:=by rw[← hw1];exact(Qb (by simp) _ _).alloc _
 have h3:Blk w1 (w.heap.size+1+1+1) #[.int .i64 1,.int .i64 2] 3:=by rw[← hw1];exact Qb (by simp) _ _
 have hE1:Ext w w1:=by rw[← hw1];(with_reducible(repeat(first|exact Ext.refl _|assumption|apply Ext.alloc|apply Ext.drew|exact ext_plus _ _|(apply Ext.setCell;rotate_left;(simp<;>omega))|(apply Qc;rotate_left;exact ext_plus _ _)|(apply Qc;rotate_left;assumption))))
 rw[hw1]
 have z0:=hx.cell
 clear hw1
 exact bodyPost_ret (v:= .agg #[.int .i64 4,.slice (some ⟨w.heap.size+1,0,none⟩) 4 4,.slice (some ⟨w.heap.size+1+1,0,none⟩) 2 2,.slice (some ⟨w.heap.size+1+1+1,0,none⟩) 2 2,.int .i64 4]) (by simp[results,Tryz.results57,go_sem,z0]) rfl ⟨_,_,_,rfl,ints_of_blk (xs:=[2,5,10,4]) h1 rfl 4,ints_of_blk (xs:=[3,12]) h2 rfl 2,ints_of_blk (xs:=[1,2]) h3 rfl 2,hE1⟩
set_option maxRecDepth 100000 in
set_option maxHeartbeats 8000000 in
theorem exB_any (w:World):Calls Tryz.prog 58 #[] w fun e w'=>∃v,e= .returned v∧Bids w' v exB∧Ext w w':=by
 go_enter Tryz.func58,Tryz.ntmps58
 go_wp2
 go_ret
 have hB:Blk (w.alloc (.cells #[.int .i64 0,.int .i64 0,.int .i64 0,.int .i64 2,.int .i64 30,.int .i64 1,.int .i64 0,.int .i64 1,.int .i64 3,.int .i64 50,.int .i64 0,.int .i64 0,.int .i64 2,.int .i64 2,.int .i64 25,.int .i64 2,.int .i64 1,.int .i64 0,.int .i64 4,.int .i64 40] 225)) w.heap.size #[.int .i64 0,.int .i64 0,.int .i64 0,.int .i64 2,.int .i64 30,.int .i64 1,.int .i64 0,.int .i64 1,.int .i64 3,.int .i64 50,.int .i64 0,.int .i64 0,.int .i64 2,.int .i64 2,.int .i64 25,.int .i64 2,.int .i64 1,.int .i64 0,.int .i64 4,.int .i64 40] 225:=Blk.new _ _ _
 exact⟨.slice (some ⟨w.heap.size,0,none⟩) 4 4,rfl,sls_of_blk bidC 5 (fun _=>rfl) (xs:=exB) hB rfl 4,by(with_reducible(repeat(first|exact Ext.refl _|assumption|apply Ext.alloc|apply Ext.drew|exact ext_plus _ _|(apply Ext.setCell;rotate_left;(simp<;>omega))|(apply Qc;rotate_left;exact ext_plus _ _)|(apply Qc;rotate_left;assumption))))⟩
end Go.Proofs.YtgloajbgphcloaaGreat.Fl
namespace Go.Proofs.YtgloajbgphcloaaGreat
set_option linter.unusedVariables false
set_option linter.unusedSimpArgs false
open Go.RowKit
open Lib renaming hid → Qd
theorem k_fewest (vw vm:Value) (w:World) (hW:Ints w vw Ln.exI.wells) (hM:Ln.Months w vm Ln.exI.months):Calls Tryz.prog 51 #[.agg (Ln.islV Ln.exI vw vm)] w fun e w'=>e= .returned (.tuple #[.int .i64 12,.int .i64 0])∧Ext w w':=by
 refine(Ln.fewest_any Ln.exI vw vm w hW hM (by decide) (by decide)).mono ?_
 rintro e w' ⟨n,c,rfl,hE,_,h2⟩
 obtain⟨rfl,rfl⟩:=(h2 Ln.ex_ok).2 12 Ln.ex_fewest
 exact⟨rfl,hE⟩
theorem k_past (vc vs vb vr vl:Value) (w:World) (hC:Cn.Lists w vc (Cn.exS []).courses) (hS:Ints w vs (Cn.exS []).stars) (hB:Ints w vb [0]) (hR:Ints w vr (Cn.exS []).roads) (hH:Cn.Hours w vl Cn.exL) :
  Calls Tryz.prog 32 #[.agg (Cn.seaV (Cn.exS []) vc vs vb vr),vl] w fun e w'=>∃v,e= .returned (.tuple #[v,.int .i64 0])∧Ints w' v [6,14,12]∧Ext w w':=by
 refine(Cn.past_any (Cn.exS [0]) Cn.exL vc vs vb vr vl w hC hS hB hR hH (by decide) (by decide) (by decide) (by decide) (by decide) (by decide)).mono ?_
 rintro e w' ⟨v,rfl,hv,hE⟩
 have e0:Cn.pastC (Cn.exS [0]) Cn.exL=0:=by
  unfold Cn.pastC
  rw[if_pos Cn.ex_code]
  exact if_neg Cn.ex_end
 have e1:Cn.pastL (Cn.exS [0]) Cn.exL=[6,14,12]:=by
  unfold Cn.pastL
  rw[if_pos e0];exact Cn.ex_hind
 rw[e1]at hv
 exact⟨v,by rw[e0],hv,hE⟩
theorem k_sell (vr vz vb vl:Value) (w:World) (hR:Ints w vr Fl.exS.roads) (hZ:Ints w vz Fl.exS.zones) (hB:Ints w vb Fl.exS.berths) (hL:Fl.Bids w vl Fl.exB) :
  Calls Tryz.prog 39 #[.agg (Fl.seaV Fl.exS vr vz vb),vl] w fun e w'=>e= .returned (.tuple #[.int .i64 13,.int .i64 95,.int .i64 0])∧Ext w w':=by
 refine(Fl.sell_any Fl.exS Fl.exB vr vz vb vl w hR hZ hB hL (by decide) (by decide) (by decide) (by decide)).mono ?_
 rintro e w' ⟨rfl,hE⟩
 have e0:Fl.sellR Fl.exS Fl.exB=(13,95,0):=by
  unfold Fl.sellR
  rw[if_pos Fl.ex_code,Fl.ex_best];rfl
 rw[e0]
 exact⟨rfl,hE⟩
set_option maxRecDepth 100000 in
set_option maxHeartbeats 8000000 in
theorem known11_any (w:World):Calls Tryz.prog 12 #[] w fun e w'=>e= .returned (.bool true)∧Ext w w':=by
 have HI:=Qd (fun w'=>Ln.exI_any w')
 have HF:=Qd (fun vw vm w' hW hM=>k_fewest vw vm w' hW hM)
 have HCL:=Qd (fun w'=>Cn.exL_any w')
 have HP:=Qd (fun vc vs vb vr vl w' hC hS hB hR hH=>k_past vc vs vb vr vl w' hC hS hB hR hH)
 have HCC:=Qd (fun w'=>Cl.exC_any w')
 have HB:=Qd (fun vl w' hL=>Cl.k_best vl w' hL)
 have HFS:=Qd (fun w'=>Fl.exS_any w')
 have HFB:=Qd (fun w'=>Fl.exB_any w')
 have HSE:=Qd (fun vr vz vb vl w' hR hZ hB hL=>k_sell vr vz vb vl w' hR hZ hB hL)
 go_enter Tryz.func12,Tryz.ntmps12
 go_upto_region 2 with(first|(go_at_call 52;refine(HI.out _).mono ?_;rintro e w1 ⟨vw,vm,rfl,hW1,hM1,hE1⟩)|(go_at_call 51;refine(HF.out _ _ _ hW1 hM1).mono ?_;rintro e w2 ⟨rfl,hE2⟩))
 have hEw2:=hE1.trans hE2
 clear hE1 hE2 hW1 hM1
 go_upto_region 3 with(first|(go_at_call 53;refine(Cn.exS_any _ _ ⟨_,_,_,rfl⟩).mono ?_;rintro e w3 ⟨vc,vs,vr,rfl,hC3,hS3,hR3,hE3⟩;have hB3:Ints w3 (.slice (some ⟨w2.heap.size,0,none⟩) 1 1) [0]:=(ints_of_blk (xs:=[0]) (Blk.new w2 #[.int .i64 0] 3) rfl 1).ext hE3)|(go_at_call 54;refine(HCL.out _).mono ?_;rintro e w4 ⟨vl,rfl,hH4,hE4⟩)|(go_at_call 32;refine(HP.out _ _ _ _ _ _ (hC3.ext hE4) (hS3.ext hE4) (hB3.ext hE4) (hR3.ext hE4) hH4).mono ?_;rintro e w5 ⟨v5,rfl,hv5,hE5⟩))
 have hEw5:Ext w w5:=(((hEw2.alloc _).trans hE3).trans hE4).trans hE5
 clear hEw2 hE3 hE4 hE5 hC3 hS3 hR3 hB3 hH4
 go_upto_region 4 with(first|(go_at_call 56;refine(HCC.out _).mono ?_;rintro e w6 ⟨vl6,rfl,hL6,hE6⟩)|(go_at_call 55;refine(HB.out vl6 _ hL6).mono ?_;rintro e w7 ⟨rfl,hE7⟩))
 have hEw7:=(hEw5.trans hE6).trans hE7
 have hv7:=(hv5.ext hE6).ext hE7
 clear hE6 hE7 hEw5 hv5 hL6
 go_upto_region 5 with(first|(go_at_call 57;refine(HFS.out _).mono ?_;rintro e w8 ⟨vr8,vz8,vb8,rfl,hR8,hZ8,hB8,hE8⟩)|(go_at_call 58;refine(HFB.out _).mono ?_;rintro e w9 ⟨vl9,rfl,hL9,hE9⟩)|(go_at_call 39;refine(HSE.out _ _ _ _ _ (hR8.ext hE9) (hZ8.ext hE9) (hB8.ext hE9) hL9).mono ?_;rintro e w10 ⟨rfl,hE10⟩))
 have hEw:Ext w w10:=((hEw7.trans hE8).trans hE9).trans hE10
 have hv:Ints w10 v5 [6,14,12]:=((hv7.ext hE8).ext hE9).ext hE10
 clear hE8 hE9 hE10 hEw7 hv7 hR8 hZ8 hB8 hL9 HI HF HCL HP HCC HB HFS HFB HSE
 go_wp2_with (first|(go_at_call 59;refine(same_true [6,14,12] _ _ _ (hv.ext ((Ext.refl _).alloc _)) (ints_of_blk (xs:=[6,14,12]) (Blk.new w10 #[.int .i64 6,.int .i64 14,.int .i64 12] 3) rfl 3) (by decide)).mono ?_;rintro e w11 ⟨rfl,hE11⟩))
 go_ret
 exact⟨rfl,(hEw.alloc _).trans hE11⟩
end Go.Proofs.YtgloajbgphcloaaGreat
