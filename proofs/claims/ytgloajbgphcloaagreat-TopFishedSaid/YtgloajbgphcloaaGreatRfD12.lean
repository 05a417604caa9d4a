/- The document's Limited. -/
import Derived.Test.YtgloajbgphcloaaGreatCo
import Derived.Test.YtgloajbgphcloaaGreatRg
import Derived.Test.YtgloajbgphcloaaGreatRfG6
import Derived.Test.YtgloajbgphcloaaGreatRfD1
namespace Go.Proofs.YtgloajbgphcloaaGreat.Rf
set_option linter.unusedVariables false
set_option linter.unusedSimpArgs false
open Go.RowKit
open Blk renaming new' → Qb
open Ext renaming trans → Qc
open Lib renaming hid → Qa
set_option maxRecDepth 100000 in
set_option maxHeartbeats 8000000 in
theorem dlimited_any (r:R.Reef) (k:Nat) (m:Int) (vp:Value) (w:World) (hP:Places w vp r.places) (hn:r.places.length≤1000000) (hk:k<r.places.length) :
  Calls Tryz.prog 42 #[.agg (reefV r vp),.int .i64 k,.int .i64 m] w fun e w'=>∃g cap,e= .returned (.agg (reefV r (.slice (some ⟨g,0,none⟩) r.places.length cap)))∧RowB placeC 12 126 w' g (R.limited r k m).places∧w.heap.size≤g∧Ext w w':=by
 have hP':=hP
 obtain⟨a1,c1,rfl,hx1⟩:=hP'
 obtain⟨b,off,rfl,hb,_⟩:=hx1 0 (by omega)
 have HPL:=Qa hP
 obtain⟨i0,hi,hz0,hz1,hz2⟩:=info_parts place_info
 have hlim:(R.limited r k m).places=r.places.set k (withOpen r.places[k] (if r.places[k].ol<m then r.places[k].ol else m) (if r.places[k].oh<m then r.places[k].oh else m)):=by
  unfold R.limited;rw[pat_of hk];rfl
 have HLIM:=Qa hlim
 clear hlim hx1
 go_enter Tryz.func42,Tryz.ntmps42
 go_upto_region 2 with(fail)
 obtain⟨w1,hw1⟩:∃w1,(((w.alloc (.cells (reefV r (.slice (some ⟨b,off,none⟩) r.places.length c1)) 111)).alloc (.cells #[.slice none 0 0,.int .i64 0,.int .i64 0] 111)).alloc (.cells (reefV r (.slice (some ⟨b,off,none⟩) r.places.length c1)) 111))=w1:=⟨_,rfl⟩
 have hb0:Blk w1 w.heap.size (reefV r (.slice (some ⟨b,off,none⟩) r.places.length c1)) 111:=by rw[← hw1];exact((Qb rfl _ _).alloc _).alloc _
 have hb1:Blk w1 (w.heap.size+1) #[.slice none 0 0,.int .i64 0,.int .i64 0] 111:=by rw[← hw1];exact(Qb (by simp) _ _).alloc _
 have hb2:Blk w1 (w.heap.size+1+1) (reefV r (.slice (some ⟨b,off,none⟩) r.places.length c1)) 111:=by rw[← hw1];exact Qb (by simp) _ _
 have hE1:Ext w w1:=by rw[← hw1];(with_reducible(repeat(first|exact Ext.refl _|assumption|apply Ext.alloc|apply Ext.drew|exact ext_plus _ _|(apply Ext.setCell;rotate_left;(simp<;>omega))|(apply Qc;rotate_left;exact ext_plus _ _)|(apply Qc;rotate_left;assumption))))
 have hs1:w1.heap.size=w.heap.size+1+1+1:=by rw[← hw1];simp
 rw[hw1]
 clear hw1
 have d0:=hb0.cell
 have d1:=hb0.lt
 go_upto_region 3 with(first|(at_builtin;refine wpList_append_own _ rfl _ _ 109 rfl w1.heap.size 126 i0 _ 12 96 Tryz.underlying109 hi hz0 hz1 hz2 rfl (by decide) _ 0 [] rfl (World.ownsRow_nil _ _ _ _) ⟨b,off,none⟩ r.places.length c1 (r.places.flatMap placeC) rfl (flat_len placeC 12 placeC_len r.places) (sls_news placeC_len (by decide) (HPL.out.ext hE1)) (placeC_one _) (by unfold maxLen;omega) (by omega) (by omega) ?_;intro v2 w2 hown hgr _;simp only[Nat.zero_add,List.nil_append]at hown;obtain⟨g,cap,rfl,hg0,hg1⟩:=own_pos hown (by omega);have hb2':=hb2.grown hgr (own_base (World.ownsRow_nil w1 w1.heap.size 126 12)) (by omega);have e0:=hb2'.cell;have e1:=hb2'.free;have e2:=hb2'.lt))
 have hbase:=own_base (World.ownsRow_nil w1 w1.heap.size 126 12)
 have hEw2:Ext w w2:=Ext.grown hE1 hgr (fun k e=>by have:=hbase k e;omega)
 have hB0:=hb0.grown hgr hbase (by omega)
 have hB1:=hb1.grown hgr hbase (by omega)
 have hrow:RowB placeC 12 126 w2 g r.places:=RowB.of_own (f:=placeC) placeC_len hown
 have hx3:=hb2'.set 0 (.slice (some ⟨g,0,none⟩) r.places.length cap)
 have hr3:=hB1.other (a:=⟨w.heap.size+1+1,0,none⟩) (by simp) (.slice (some ⟨g,0,none⟩) r.places.length cap)
 have hrow3:=hrow.other (a:=⟨w.heap.size+1+1,0,none⟩) (by simp;omega) (.slice (some ⟨g,0,none⟩) r.places.length cap)
 have hEw3:=hEw2.setCell (p:=⟨w.heap.size+1+1,0,none⟩) (by simp;omega) (.slice (some ⟨g,0,none⟩) r.places.length cap)
 obtain⟨w3,hw3⟩:∃w3,w2.setCell ⟨w.heap.size+1+1,0,none⟩ (.slice (some ⟨g,0,none⟩) r.places.length cap)=w3:=⟨_,rfl⟩
 rw[hw3]at hx3 hr3 hrow3 hEw3 ⊢
 clear hw3 d0 d1 e0 e1 e2 hown hrow hB0 hB1 hb0 hb1 hb2 hb2' hEw2 hE1 hg1 hgr hbase
 have hcell:=fun j u hu=>hrow3.cell k hk j u hu
 have x6:=hcell 6 _ rfl
 have x7:=hcell 7 _ rfl
 have hset:=fun a b=>hrow3.set_open k hk a b
 obtain⟨p,hp⟩:∃p,r.places[k]=p:=⟨_,rfl⟩
 rw[hp]at x6 x7
 have HP:=Qa hp
 clear hp hcell hset
 have d0:=hx3.cell
 have d1:=hx3.lt
 have g1:=hrow3.lt
 go_upto_region 4 with(fail)
 obtain⟨w4,hw4⟩:∃w4,w3.alloc (.cells #[.int .i64 p.ol,.int .i64 p.oh] 25)=w4:=⟨_,rfl⟩
 have hbo:Blk w4 w3.heap.size #[.int .i64 p.ol,.int .i64 p.oh] 25:=by rw[← hw4];exact Qb rfl _ _
 have hE4:Ext w3 w4:=by rw[← hw4];(with_reducible(repeat(first|exact Ext.refl _|assumption|apply Ext.alloc|apply Ext.drew|exact ext_plus _ _|(apply Ext.setCell;rotate_left;(simp<;>omega))|(apply Qc;rotate_left;exact ext_plus _ _)|(apply Qc;rotate_left;assumption))))
 rw[hw4]
 clear hw4 d0 d1 x6 x7
 have hx4:=hx3.ext hE4
 have hr4:=hr3.ext hE4
 have hrow4:=hrow3.ext hE4
 have d0:=hx4.cell
 have d1:=hx4.lt
 have d2:=hbo.cell
 have d3:=hbo.lt
 have f6:=hrow4.free
 have f7:=hrow4.lt
 have x6:=hrow4.cell k hk 6 _ rfl
 have x7:=hrow4.cell k hk 7 _ rfl
 go_upto_region 5 with(fail)
 rw[min_if p.ol m,min_if p.oh m]
 have hlim:=HLIM.out
 rw[HP.out]at hlim
 obtain⟨A,hA⟩:∃A,(if p.ol<m then p.ol else m)=A:=⟨_,rfl⟩
 obtain⟨B,hB⟩:∃B,(if p.oh<m then p.oh else m)=B:=⟨_,rfl⟩
 rw[hA,hB]at hlim ⊢
 have hz3:=hE4.size
 have hs5:=hrow4.set_open k hk A B
 have hx5:=(hx4.other (a:=⟨g,k*12+6,none⟩) (by simp;omega) (.int .i64 A)).other (a:=⟨g,k*12+6+1,none⟩) (by simp;omega) (.int .i64 B)
 have hr5:=(hr4.other (a:=⟨g,k*12+6,none⟩) (by simp;omega) (.int .i64 A)).other (a:=⟨g,k*12+6+1,none⟩) (by simp;omega) (.int .i64 B)
 have hE5:=((hEw3.trans hE4).setCell (p:=⟨g,k*12+6,none⟩) (by simp;omega) (.int .i64 A)).setCell (p:=⟨g,k*12+6+1,none⟩) (by simp;omega) (.int .i64 B)
 obtain⟨w5,hw5⟩:∃w5,(w4.setCell ⟨g,k*12+6,none⟩ (.int .i64 A)).setCell ⟨g,k*12+6+1,none⟩ (.int .i64 B)=w5:=⟨_,rfl⟩
 rw[hw5]at hs5 hx5 hr5 hE5 ⊢
 rw[HP.out]at hs5
 rw[← hlim]at hs5
 have HS5:=Qa hs5
 clear hw5 hs5 hlim hA hB d0 d1 d2 d3 f6 f7 x6 x7
 have d0:=hx5.cell
 have d1:=hx5.lt
 have f0:=hr5.cell
 have f1:=hr5.free
 have f2:=hr5.lt
 go_wp2
 have hbr9:=((hr5.set 0 (.slice (some ⟨g,0,none⟩) r.places.length cap)).set 1 (.int .i64 r.miss)).set 2 (.int .i64 r.seasons)
 have hO9:=(((Of2.refl (w.heap.size+1) (w.heap.size+1) w5).set (a:=⟨w.heap.size+1,0,none⟩) (.inl rfl) (.slice (some ⟨g,0,none⟩) r.places.length cap)).set (a:=⟨w.heap.size+1,1,none⟩) (.inl rfl) (.int .i64 r.miss)).set (a:=⟨w.heap.size+1,2,none⟩) (.inl rfl) (.int .i64 r.seasons)
 obtain⟨w9,hw9⟩:∃w9,((w5.setCell ⟨w.heap.size+1,0,none⟩ (.slice (some ⟨g,0,none⟩) r.places.length cap)).setCell ⟨w.heap.size+1,1,none⟩ (.int .i64 r.miss)).setCell ⟨w.heap.size+1,2,none⟩ (.int .i64 r.seasons)=w9:=⟨_,rfl⟩
 rw[hw9]at hbr9 hO9 ⊢
 have hs9:=HS5.out.of2 hO9 (by omega) (by omega)
 have q0:=hbr9.cell
 clear f0 f1 d0 hw9
 exact bodyPost_ret (v:= .agg #[.slice (some ⟨g,0,none⟩) r.places.length cap,.int .i64 r.miss,.int .i64 r.seasons]) (by simp[results,Tryz.results42,go_sem,q0]) rfl ⟨_,_,rfl,hs9,by omega,hO9.ext0 hE5 (by omega) (by omega)⟩
end Go.Proofs.YtgloajbgphcloaaGreat.Rf
