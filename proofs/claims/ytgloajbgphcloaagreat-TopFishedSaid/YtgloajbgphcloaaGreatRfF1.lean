/- The fish grow. The fish drift. The fish are taken. A reef is followed in truth. -/
import Derived.Test.YtgloajbgphcloaaGreatCo
import Derived.Test.YtgloajbgphcloaaGreatRg
import Derived.Test.YtgloajbgphcloaaGreatRfT1
import Derived.Test.YtgloajbgphcloaaGreatRfC4
import Derived.Test.YtgloajbgphcloaaGreatRfPl
namespace Go.Proofs.YtgloajbgphcloaaGreat.Rf
set_option linter.unusedVariables false
set_option linter.unusedSimpArgs false
open Go.RowKit
open Lib renaming hid → Qa
open Nat renaming lt_of_lt_of_le → Qb
abbrev folV (r:R.Reef) (vp vl vs vg vt:Value) (s:Int) (vf:Value) (a b c d e:Int):Array Value :=
 #[vp,.int .i64 r.miss,.int .i64 r.seasons,vl,vs,vg,vt,.int .i64 s,vf,.int .i64 a,.int .i64 b,.int .i64 c,.int .i64 d,.int .i64 e]
theorem two_sum (w:World) (x y:Int):Ints (w.alloc (.cells #[.int .i64 x,.int .i64 y] 3)) (.slice (some ⟨w.heap.size,0,none⟩) 2 2) [x,y]:=by
 have hB:=(Blk.new w #[.int .i64 x,.int .i64 y] 3)
 refine⟨_,_,rfl,fun i hi=>⟨w.heap.size,0,rfl,hB.lt,?_⟩⟩
 rw[hB.cell,Nat.zero_add]
 have hi2:i<2:=hi
 match i,hi2 with
 | 0,_=>rfl
 | 1,_=>rfl
theorem two_bd (x y:Int) (h1:0≤x) (h2:x≤100000000000) (h3:0≤y) (h4:y≤100000000000):∀k,k≤[x,y].length→ -1000000000000000≤([x,y].take k).sum∧([x,y].take k).sum≤1000000000000000:=by
 intro k hk
 match k,hk with
 | 0,_=>simp
 | 1,_=>simp;omega
 | 2,_=>simp;omega
set_option maxRecDepth 100000 in
set_option maxHeartbeats 8000000 in
theorem grows_any (r:R.Reef) (t:R.Truth) (s:Nat) (fish:List Int) (a b c d e:Int) (vp vl vs vg vt:Value) (w0 w:World) (bF g cap:Nat) (h0:Ext w0 w) (hb0:w0.heap.size≤bF) (hg0:w0.heap.size≤g) (hne:g≠bF)
  (hP:Places w0 vp r.places) (hG:Lists w0 vg t.grows) (hs:s<t.grows.length) (hlg:t.grows[s].length=r.places.length) (hfl:fish.length=r.places.length) (hn4:r.places.length≤4)
  (O:∀i,i<r.places.length→R.OkP (R.pat r.places i) i r.places.length) (hgr:∀i,i<r.places.length→0≤R.iat t.grows[s] i∧R.iat t.grows[s] i≤2000) (hf:∀i,0≤R.iat fish i) (hb:0≤b∧b≤1000000000)
  (hF:Blk w bF (folV r vp vl vs vg vt s (.slice (some ⟨g,0,none⟩) r.places.length cap) a b c d e) 305) (hR:IRow w g fish) :
  Calls Tryz.prog 189 #[.pointer (some ⟨bF,0,none⟩)] w fun x w'=>x= .returned (.tuple #[])∧Blk w' bF (folV r vp vl vs vg vt s (.slice (some ⟨g,0,none⟩) r.places.length cap) a (R.growTo r.places t.grows[s] (fish,b) r.places.length).2 c d e) 305 ∧
   IRow w' g (R.growTo r.places t.grows[s] (fish,b) r.places.length).1∧Of2 bF g w w':=by
 obtain⟨a1,c1,rfl,hx1⟩:=hP
 obtain⟨a4,c4,rfl,hx4⟩:=hG
 have HX1:=Qa hx1
 obtain⟨b4,off4,rfl,hb4,v4,h04,hv4,_⟩:=hx4 s hs
 obtain⟨gs,hgs⟩:∃gs,t.grows[s]=gs:=⟨_,rfl⟩
 rw[hgs]at hv4 hlg hgr ⊢
 obtain⟨a6,c6,rfl,hx6⟩:=hv4
 have HX6:=Qa hx6
 have HINV:=Qa (fun k hk=>R.growTo_inv (ps:=r.places) (gs:=gs) (fish:=fish) (g0:=b) hfl hf O (fun i hi=>(hgr i hi).1) k hk)
 have HFL:=Qa hfl
 have HGR:=Qa hgr
 rw[hlg]at h04
 have HLG:=Qa hlg
 have HO:=Qa O
 simp only[Nat.mul_one]at h04
 clear hx1 hx4 hx6 hgs hfl hgr hlg hf O
 have f0:=hF.cell
 have f1:=hF.lt
 go_enter Tryz.func189,Tryz.ntmps189
 go_wp2
 go_loopw [2,3,4,5,13] (fun _ _ _ _ i wr=>∃(k:Nat) (st:R.St),k≤r.places.length∧i= .int .i64 k∧R.growTo r.places gs (fish,b) k=st∧Blk wr bF (folV r (.slice a1 r.places.length c1) vl vs (.slice (some ⟨b4,off4,none⟩) t.grows.length c4) vt s (.slice (some ⟨g,0,none⟩) r.places.length cap) a st.2 c d e) 305∧IRow wr g st.1∧Of2 bF g w wr)
  (fun _ _ _ _ i _=>r.places.length - (intOf i).toNat)
 case atStart=>exact⟨0,_,Nat.zero_le _,rfl,rfl,hF,hR,Of2.refl _ _ _⟩
 case round =>
  rename World=>wr
  obtain⟨k,st,hk,rfl,hst,hBF,hRow,hOff⟩:=hrel
  have hinv:=HINV.out k hk
  rw[hst]at hinv
  have HST:=Qa hst
  have hE:Ext w0 wr:=hOff.ext0 h0 hb0 hg0
  have d0:=hBF.cell
  have d1:=hBF.free
  have d2:=hBF.lt
  clear hst f0 f1
  by_cases hlt:k<r.places.length
  ·obtain⟨b1,off1,rfl,hb1,hAt⟩:=HX1.out k hlt
   have hkg:k<gs.length:=by have:=HLG.out;omega
   have hks:k<st.1.length:=by have:=HFL.out;rw[hinv.len];omega
   obtain⟨b6,off6,rfl,hb6,h06⟩:=HX6.out k hkg
   have u6:=(hE.cells.1 _ _ hb6).trans h06
   have u4:=(hE.cells.1 _ _ hb4).trans h04
   obtain⟨p0,p1,p2,p3,p4,p5,p6,p7,p8,p9,p10,p11⟩:=place_cells (ate_stays _ _ _ _ _ _ hE hb1 hAt)
   have q6:b6<wr.heap.size:=Qb hb6 hE.size
   have q4:b4<wr.heap.size:=Qb hb4 hE.size
   have r0:=hRow.get k hks
   have r1:=hRow.free k
   have r2:=hRow.lt
   have hok:=HO.out k hlt
   have hgk:=HGR.out k hlt
   have hnn:=hinv.nn k
   have hlo:=hinv.lo
   have hhi:=hinv.hi
   have hsu:=R.growTo_succ r.places gs (fish,b) k
   rw[HST.out]at hsu
   unfold R.growStep at hsu
   have hgb:=R.grown_bd hok hnn hgk.1
   rw[pat_of hlt]at hok hsu hgb
   rw[iat_of hks]at hnn hsu hgb
   rw[iat_of hkg]at hgk hsu hgb
   clear hAt h06
   obtain⟨p,hp⟩:∃p,r.places[k]=p:=⟨_,rfl⟩
   obtain⟨f,hff⟩:∃f,st.1[k]=f:=⟨_,rfl⟩
   obtain⟨G,hGG⟩:∃G,gs[k]=G:=⟨_,rfl⟩
   rw[hp]at p0 p1 p2 p3 p4 p5 p6 p7 p8 p9 p10 p11 hok hsu hgb
   rw[hff]at r0 hnn hsu hgb
   rw[hGG]at u6 hgk hsu hgb
   have o0:=hok.r0
   have o1:=hok.r1
   have HSELF:=Qa (show st.1.set k f=st.1 by rw[← hff];exact List.set_getElem_self hks)
   have HFF:=Qa hff
   clear hp hff hGG hok
   have hpc:=plus_cell
   by_cases hge:p.room≤f
   ·have hz:R.grown p f G=0:=by unfold R.grown;rw[if_pos hge]
    rw[hz,Int.add_zero,Int.add_zero]at hsu
    have HSU:=Qa hsu
    clear hsu hz hgb
    go_wp2
    go_roundw
    case rel=>exact⟨k+1,st,by omega,by go_num,by rw[HSU.out,HSELF.out],hBF.alloc _,hRow.ext ((Ext.refl _).alloc _),hOff.alloc _⟩
    case measure=>simp[intOf];omega
   ·have hm:0≤f*G∧f*G≤2000000000:=⟨Int.mul_nonneg hnn hgk.1,by have:=Int.mul_le_mul (show f≤1000000 by omega) hgk.2 hgk.1 (by omega);omega⟩
    obtain⟨M,hM⟩:∃M,f*G=M:=⟨_,rfl⟩
    obtain⟨X,hX⟩:∃X,R.grown p f G=X:=⟨_,rfl⟩
    have hX':=hX
    unfold R.grown at hX'
    rw[if_neg hge,hM]at hX'
    rw[hX]at hsu hgb
    rw[hM]at hm
    have HSU:=Qa hsu
    clear hsu hX
    have hfr:f+X≤1000000:=by split at hX'<;>omega
    go_upto_region 5 with(fail)
    refine wp_region_ext 23 (fun _ _ d _ _ h=>by cases d<;>exact h) (by kernel_rfl) (by kernel_rfl) (by kernel_rfl) (by kernel_rfl) ?_
    simp only[List.take_succ_cons,List.take_zero,List.drop_succ_cons,List.drop_zero]
    repeat(any_goals(first|go_big_quiet_step(fail)|quiet_step(fail)))
    all_goals(refine wpQuiet_nil ?_;intro w' hE')
    unfold wpList
    have hmin:min (M/1000) (p.room - f)=X:=by rw[← hX'];split<;>omega
    rw[hmin]
    have hwm:IntKind.wrap .i64 (f+X)=f+X:=IntWalk.i64_in _ (by omega)
    have hEr:Ext wr w':=((Ext.refl _).alloc _).trans hE'
    have hBF1:=hBF.ext hEr
    have hRow1:=hRow.ext hEr
    have hOff1:=hOff.ext hEr
    have s0:=IRow.get hRow1 k hks
    rw[HFF.out]at s0
    have s1:=RowB.free hRow1 k
    have s2:=RowB.lt hRow1
    have s3:=hBF1.cell
    have s4:=hBF1.lt
    clear r0 r1 r2 d0 d1 d2 u4 u6 q4 q6 p0 p1 p2 p3 p4 p5 p6 p7 p8 p9 p10 p11 hpc hmin hM hX'
    go_upto_region 7 with(fail)
    obtain⟨w2,hw2⟩:∃w2,w'.setCell ⟨g,k,none⟩ (.int .i64 (f+X))=w2:=⟨_,rfl⟩
    have hBF2:=hBF1.other (a:=⟨g,k,none⟩) hne (.int .i64 (f+X))
    have hRow2:=IRow.set hRow1 k hks (f+X)
    have hOff2:=hOff1.set (a:=⟨g,k,none⟩) (.inr (.inl rfl)) (.int .i64 (f+X))
    rw[hw2]at hBF2 hRow2 hOff2 ⊢
    clear hw2 s0 s1 s2 s3 s4
    have s3:=hBF2.cell
    have s4:=hBF2.lt
    have s5:=hBF2.free
    have hwn:IntKind.wrap .i64 (st.2+X)=st.2+X:=IntWalk.i64_in _ (by omega)
    go_wp2_with (first|(go_at_call 188;refine(sum_any _ [st.2,X] _ (two_sum _ _ _) (by simp) (two_bd _ _ (by omega) (by omega) (by omega) (by omega))).mono ?_;rintro e w'' ⟨rfl,rfl⟩))
    go_roundw
    case rel=>exact⟨k+1,_,by omega,by go_num,HSU.out,(hBF2.set 10 (.int .i64 (st.2+X))).alloc _,RowB.ext (RowB.other hRow2 (a:=⟨bF,10,none⟩) (fun e=>hne e.symm) _) ((Ext.refl _).alloc _),(hOff2.set (a:=⟨bF,10,none⟩) (.inl rfl) _).alloc _⟩
    case measure=>simp[intOf];omega
  ·obtain rfl:k=r.places.length:=by omega
   go_wp2
   go_end0
   rw[HST.out]
   exact⟨rfl,hBF,hRow,hOff⟩
end Go.Proofs.YtgloajbgphcloaaGreat.Rf
namespace Go.Proofs.YtgloajbgphcloaaGreat.Rf
set_option linter.unusedVariables false
set_option linter.unusedSimpArgs false
open Go.RowKit
open Ext renaming refl → Qc
open IntWalk renaming i64_in → Qf
open Lib renaming hid → Qa
open List renaming drop_succ_cons → Qe, take_succ_cons → Qd
theorem _root_.Go.Proofs.YtgloajbgphcloaaGreat.RowB.of2 {α:Type} {f:α→List Value} {k:Nat} {e:TypeId} {b g c:Nat} {w w':World} {xs:List α} (h:RowB f k e w c xs) (ho:Of2 b g w w') (h1:c≠b) (h2:c≠g):RowB f k e w' c xs:=h.move (ho.block c h.lt h1 h2)
set_option maxRecDepth 100000 in
set_option maxHeartbeats 8000000 in
theorem drifts_any (r:R.Reef) (s:Int) (fish:List Int) (a b c d e:Int) (vp vl vs vg vt:Value) (w0 w:World) (bF g cap:Nat) (h0:Ext w0 w) (hb0:w0.heap.size≤bF) (hg0:w0.heap.size≤g) (hne:g≠bF)
  (hP:Places w0 vp r.places) (hfl:fish.length=r.places.length) (hn1:1≤r.places.length) (hn4:r.places.length≤4)
  (O:∀i,i<r.places.length→R.OkP (R.pat r.places i) i r.places.length) (hf:∀i,0≤R.iat fish i) (hfs:fish.sum≤1000000000) (hd:0≤d∧d≤1000000000)
  (hF:Blk w bF (folV r vp vl vs vg vt s (.slice (some ⟨g,0,none⟩) r.places.length cap) a b c d e) 305) (hR:IRow w g fish) :
  Calls Tryz.prog 190 #[.pointer (some ⟨bF,0,none⟩)] w fun x w'=>x= .returned (.tuple #[])∧Blk w' bF (folV r vp vl vs vg vt s (.slice (some ⟨g,0,none⟩) r.places.length cap) a b c (R.driftTo r.places fish (fish,d) r.places.length).2 e) 305 ∧
   IRow w' g (R.driftTo r.places fish (fish,d) r.places.length).1∧Of2 bF g w w':=by
 obtain⟨a1,c1,rfl,hx1⟩:=hP
 have HX1:=Qa hx1
 have HINV:=Qa (fun k hk=>R.driftTo_inv (ps:=r.places) (now:=fish) (g0:=d) hfl hf O k hk)
 have HFL:=Qa hfl
 have HO:=Qa O
 have HF0:=Qa hf
 have HFB:=Qa (fun i=>R.iat_le_sum fish i hf)
 have hcl:=fun w' hx=>clone_ints (.slice (some ⟨g,0,none⟩) r.places.length cap) fish w' (IRow.ints (RowB.ext hR hx) hfl.symm cap) (by omega)
 have HCL:=Qa hcl
 clear hx1 hfl hf O hcl
 have f0:=hF.cell
 have f1:=hF.lt
 go_enter Tryz.func190,Tryz.ntmps190
 go_upto_region 1 with(first|(go_at_call 173;refine(HCL.out _ (Qc _)).mono ?_;rintro x w1 ⟨v2,rfl,hown,hE1⟩))
 clear HCL
 have hfl0:0<fish.length:=by have:=HFL.out;omega
 obtain⟨g2,cap2,rfl,hg2,hg2l⟩:=own_pos hown hfl0
 have hnow:=IRow.of_own hown
 have hF1:=hF.ext hE1
 have hR1:=RowB.ext hR hE1
 have hbl:=hF.lt
 have hgl:=hR.lt
 have f0:=hF1.cell
 have f1:=hF1.lt
 have HLE:=Qa HFL.out
 obtain⟨ln,hln⟩:∃ln,fish.length=ln:=⟨_,rfl⟩
 have e2:ln=r.places.length:=by rw[← hln];exact HFL.out
 rw[hln,e2]
 clear hown hln e2 f0 f1
 have f0:=hF1.cell
 have f1:=hF1.lt
 go_wp2
 go_loopw [3,4,5,18] (fun _ _ _ i wr=>∃(k:Nat) (st:R.St),k≤r.places.length∧i= .int .i64 k∧R.driftTo r.places fish (fish,d) k=st∧Blk wr bF (folV r (.slice a1 r.places.length c1) vl vs vg vt s (.slice (some ⟨g,0,none⟩) r.places.length cap) a b c st.2 e) 305∧IRow wr g st.1∧IRow wr g2 fish∧Of2 bF g w wr)
  (fun _ _ _ i _=>r.places.length - (intOf i).toNat)
 case atStart=>exact⟨0,_,Nat.zero_le _,rfl,rfl,hF1,hR1,hnow,hE1.of2 _ _⟩
 case round =>
  rename World=>wr
  obtain⟨k,st,hk,rfl,hst,hBF,hRow,hNow,hOff⟩:=hrel
  have hinv:=HINV.out k hk
  rw[hst]at hinv
  have HST:=Qa hst
  have hE:Ext w0 wr:=hOff.ext0 h0 hb0 hg0
  have d0:=hBF.cell
  have d2:=hBF.lt
  clear hst f0 f1
  by_cases hlt:k<r.places.length
  ·obtain⟨b1,off1,rfl,hb1,hAt⟩:=HX1.out k hlt
   have hkf:k<fish.length:=by have:=HFL.out;omega
   have hks:k<st.1.length:=by rw[hinv.len];exact hkf
   obtain⟨p0,p1,p2,p3,p4,p5,p6,p7,p8,p9,p10,p11⟩:=place_cells (ate_stays _ _ _ _ _ _ hE hb1 hAt)
   have r0:=IRow.get hNow k hkf
   have r2:=RowB.lt hNow
   have hok:=HO.out k hlt
   have hfb:=HFB.out k
   have hf0:=HF0.out k
   have hsum:=hinv.sum
   have hlo:=hinv.lo
   have hnn:=hinv.nn
   have hle:=fun i=>R.iat_le_sum st.1 i hnn
   have hmo:=hinv.more k (Nat.le_refl _)
   have hsu:=R.driftTo_succ r.places fish (fish,d) k
   rw[HST.out]at hsu
   unfold R.driftStep at hsu
   dsimp only at hsu
   have hgb:=R.goes_bd hok hf0
   have HNN:=Qa hnn
   have HLE2:=Qa hle
   have hsn:=R.sum_nn st.1 hnn
   have hl1:=hle k
   rw[pat_of hlt]at hok hsu hgb
   rw[iat_of hks]at hsu hmo hl1
   rw[iat_of hkf]at hf0 hfb hsu hgb hmo
   clear hAt hnn hle
   obtain⟨p,hp⟩:∃p,r.places[k]=p:=⟨_,rfl⟩
   obtain⟨f,hff⟩:∃f,fish[k]=f:=⟨_,rfl⟩
   obtain⟨G,hGG⟩:∃G,st.1[k]=G:=⟨_,rfl⟩
   rw[hp]at p0 p1 p2 p3 p4 p5 p6 p7 p8 p9 p10 p11 hok hsu hgb
   rw[hff]at r0 hf0 hfb hsu hgb hmo
   rw[hGG]at hsu hmo hl1
   have HGG:=Qa hGG
   clear hp hff hGG
   have hpc:=plus_cell
   have hm:0≤f*p.drift∧f*p.drift≤1000000000000:=⟨Int.mul_nonneg hf0 hok.d0,by have:=Int.mul_le_mul (show f≤1000000000 by omega) hok.d1 hok.d0 (by omega);omega⟩
   obtain⟨X,hX⟩:∃X,R.goes p f=X:=⟨_,rfl⟩
   have hX':=hX
   unfold R.goes at hX'
   rw[hX]at hsu hgb
   obtain⟨M,hM⟩:∃M,f*p.drift=M:=⟨_,rfl⟩
   rw[hM]at hm hX'
   have hX2:M/1000=X:=hX'
   have i0:=hok.i0
   have i1:=hok.i1
   have i2:=hok.i2
   have HSU:=Qa hsu
   clear hX hX' hsu hok
   go_upto_region 4 with(fail)
   refine wp_region_ext 9 (fun _ _ d _ _ h=>by cases d<;>exact h) (by kernel_rfl) (by kernel_rfl) (by kernel_rfl) (by kernel_rfl) ?_
   simp only[Qd,List.take_zero,Qe,List.drop_zero]
   repeat(any_goals(first|go_big_quiet_step(fail)|quiet_step(fail)))
   all_goals(refine wpQuiet_nil ?_;intro w' hE')
   unfold wpList
   rw[hX2]
   have hwm:IntKind.wrap .i64 (G - X)=G - X:=Qf _ (by omega)
   have hEr:Ext wr w':=((Qc _).alloc _).trans hE'
   have hBF1:=hBF.ext hEr
   have hRow1:=RowB.ext hRow hEr
   have hNow1:=RowB.ext hNow hEr
   have hOff1:=hOff.ext hEr
   have hbp:Blk w' wr.heap.size (placeV p) 126:=Blk.ext (Blk.new' rfl _ _) hE'
   have hwz:=hOff.size
   have s0:=IRow.get hRow1 k hks
   rw[HGG.out]at s0
   have s1:=RowB.free hRow1 k
   have s2:=RowB.lt hRow1
   have s3:=hBF1.cell
   have s4:=hBF1.lt
   have e1:bF≠wr.heap.size:=by omega
   have e2:g≠wr.heap.size:=by omega
   clear r0 r2 d0 d2 p0 p1 p2 p3 p4 p5 p6 p7 p8 p9 p10 p11 hpc hM hX2 hm
   go_upto_region 6 with(fail)
   obtain⟨w2,hw2⟩:∃w2,w'.setCell ⟨g,k,none⟩ (.int .i64 (G - X))=w2:=⟨_,rfl⟩
   have hBF2:=hBF1.other (a:=⟨g,k,none⟩) hne (.int .i64 (G - X))
   have hbp2:=hbp.other (a:=⟨g,k,none⟩) e2 (.int .i64 (G - X))
   have hRow2:=IRow.set hRow1 k hks (G - X)
   have hNow2:=RowB.other hNow1 (a:=⟨g,k,none⟩) (by simp;omega) (.int .i64 (G - X))
   have hOff2:=hOff1.set (a:=⟨g,k,none⟩) (.inr (.inl rfl)) (.int .i64 (G - X))
   rw[hw2]at hBF2 hRow2 hOff2 hbp2 hNow2 ⊢
   clear hw2 s0 s1 s2 s3 s4 hwm
   have s3:=hBF2.cell
   have s4:=hBF2.lt
   have s5:=hbp2.cell
   have s6:=hbp2.lt
   have hpc:=plus_cell
   by_cases hin:0≤p.into
   ·obtain⟨j,hj⟩:=Int.eq_ofNat_of_zero_le hin
    have hsu:=HSU.out
    rw[if_pos hin,hj,Int.toNat_natCast]at hsu
    have hjl:j<(st.1.set k (G - X)).length:=by rw[List.length_set,hinv.len];have:=HFL.out;omega
    have hjk:k≠j:=by omega
    have t0:=IRow.get hRow2 j hjl
    have ey:(st.1.set k (G - X))[j]=R.iat st.1 j:=by rw[List.getElem_set,if_neg hjk,iat_of (by simpa using hjl)]
    have hy0:=HNN.out j
    have hy1:=HLE2.out j
    rw[iat_of hjl]at hsu
    rw[ey]at t0 hsu
    obtain⟨y,hy⟩:∃y,R.iat st.1 j=y:=⟨_,rfl⟩
    rw[hy]at t0 hsu hy0 hy1
    have HSU2:=Qa hsu
    have hwn:IntKind.wrap .i64 (y+X)=y+X:=Qf _ (by omega)
    have t1:=RowB.free hRow2 j
    have t2:=RowB.lt hRow2
    clear hsu hy ey HSU
    have hjn:j<r.places.length:=by omega
    go_upto_region 7 with(fail)
    refine wp_region_ext 11 (fun _ _ d _ _ h=>by cases d<;>exact h) (by kernel_rfl) (by kernel_rfl) (by kernel_rfl) (by kernel_rfl) ?_
    simp only[Qd,List.take_zero,Qe,List.drop_zero]
    repeat(any_goals(first|go_big_quiet_step(fail)|quiet_step(fail)))
    all_goals(refine wpQuiet_nil ?_;intro w3 hE3)
    have t3:=hE3.cells.1
    have t4:=hE3.cells.2
    go_wp2
    go_roundw
    case rel=>exact⟨k+1,_,by omega,by go_num,HSU2.out,(hBF2.ext hE3).other (a:=⟨g,j,none⟩) hne _,IRow.set (RowB.ext hRow2 hE3) j hjl (y+X),RowB.other (RowB.ext hNow2 hE3) (a:=⟨g,j,none⟩) (by simp;omega) _,(hOff2.ext hE3).set (a:=⟨g,j,none⟩) (.inr (.inl rfl)) _⟩
    case measure=>simp[intOf];omega
   ·have hsu:=HSU.out
    rw[if_neg hin]at hsu
    have HSU2:=Qa hsu
    clear hsu HSU
    have hwn:IntKind.wrap .i64 (st.2+X)=st.2+X:=Qf _ (by omega)
    have s7:=hBF2.free
    go_wp2_with (first|(go_at_call 188;refine(sum_any _ [st.2,X] _ (two_sum _ _ _) (by simp) (two_bd _ _ (by omega) (by omega) (by omega) (by omega))).mono ?_;rintro e w'' ⟨rfl,rfl⟩))
    go_roundw
    case rel=>exact⟨k+1,_,by omega,by go_num,HSU2.out,(hBF2.set 12 (.int .i64 (st.2+X))).alloc _,RowB.ext (RowB.other hRow2 (a:=⟨bF,12,none⟩) (fun e=>hne e.symm) _) ((Qc _).alloc _),RowB.ext (RowB.other hNow2 (a:=⟨bF,12,none⟩) (by simp;omega) _) ((Qc _).alloc _),(hOff2.set (a:=⟨bF,12,none⟩) (.inl rfl) _).alloc _⟩
    case measure=>simp[intOf];omega
  ·obtain rfl:k=r.places.length:=by omega
   go_wp2
   go_end0
   rw[HST.out]
   exact⟨rfl,hBF,hRow,hOff⟩
end Go.Proofs.YtgloajbgphcloaaGreat.Rf
namespace Go.Proofs.YtgloajbgphcloaaGreat.Rf
set_option linter.unusedVariables false
set_option linter.unusedSimpArgs false
open Go.RowKit
open Lib renaming hid → Qa
open Nat renaming lt_of_lt_of_le → Qb
set_option maxRecDepth 100000 in
set_option maxHeartbeats 8000000 in
theorem taken_any (r:R.Reef) (t:R.Truth) (s:Nat) (fish:List Int) (a b c d e:Int) (vp vl vs vg vt:Value) (w0 w:World) (bF g cap:Nat) (h0:Ext w0 w) (hb0:w0.heap.size≤bF) (hg0:w0.heap.size≤g) (hne:g≠bF)
  (hP:Places w0 vp r.places) (hG:Lists w0 vt t.takes) (hs:s<t.takes.length) (hlg:t.takes[s].length=r.places.length) (hfl:fish.length=r.places.length) (hn4:r.places.length≤4)
  (hgr:∀i,i<r.places.length→0≤R.iat t.takes[s] i∧R.iat t.takes[s] i≤1000000) (hf:∀i,0≤R.iat fish i) (hfs:fish.sum≤1000000000) (hc:0≤c∧c≤1000000000)
  (hF:Blk w bF (folV r vp vl vs vg vt s (.slice (some ⟨g,0,none⟩) r.places.length cap) a b c d e) 305) (hR:IRow w g fish) :
  Calls Tryz.prog 191 #[.pointer (some ⟨bF,0,none⟩)] w fun x w'=>x= .returned (.tuple #[])∧Blk w' bF (folV r vp vl vs vg vt s (.slice (some ⟨g,0,none⟩) r.places.length cap) a b (R.takeTo t.takes[s] (fish,c) r.places.length).2 d e) 305 ∧
   IRow w' g (R.takeTo t.takes[s] (fish,c) r.places.length).1∧Of2 bF g w w':=by
 obtain⟨a1,c1,rfl,_⟩:=hP
 obtain⟨a4,c4,rfl,hx4⟩:=hG
 obtain⟨b4,off4,rfl,hb4,v4,h04,hv4,_⟩:=hx4 s hs
 obtain⟨gs,hgs⟩:∃gs,t.takes[s]=gs:=⟨_,rfl⟩
 rw[hgs]at hv4 hlg hgr ⊢
 obtain⟨a6,c6,rfl,hx6⟩:=hv4
 have HX6:=Qa hx6
 have HINV:=Qa (fun k hk=>R.takeTo_inv (ks:=gs) (fish:=fish) (g0:=c) hf (fun i hi=>(hgr i (by omega)).1) k hk)
 have HFL:=Qa hfl
 have HGR:=Qa hgr
 rw[hlg]at h04
 have HLG:=Qa hlg
 simp only[Nat.mul_one]at h04
 clear hx4 hx6 hgs hfl hgr hlg hf
 have f0:=hF.cell
 have f1:=hF.lt
 go_enter Tryz.func191,Tryz.ntmps191
 go_wp2
 go_loopw [2,3,11] (fun _ _ i wr=>∃(k:Nat) (st:R.St),k≤r.places.length∧i= .int .i64 k∧R.takeTo gs (fish,c) k=st∧Blk wr bF (folV r (.slice a1 r.places.length c1) vl vs vg (.slice (some ⟨b4,off4,none⟩) t.takes.length c4) s (.slice (some ⟨g,0,none⟩) r.places.length cap) a b st.2 d e) 305∧IRow wr g st.1∧Of2 bF g w wr)
  (fun _ _ i _=>r.places.length - (intOf i).toNat)
 case atStart=>exact⟨0,_,Nat.zero_le _,rfl,rfl,hF,hR,Of2.refl _ _ _⟩
 case round =>
  rename World=>wr
  obtain⟨k,st,hk,rfl,hst,hBF,hRow,hOff⟩:=hrel
  have hinv:=HINV.out k (by have:=HFL.out;omega)
  rw[hst]at hinv
  have HST:=Qa hst
  have hE:Ext w0 wr:=hOff.ext0 h0 hb0 hg0
  have d0:=hBF.cell
  have d1:=hBF.free
  have d2:=hBF.lt
  clear hst f0 f1
  by_cases hlt:k<r.places.length
  ·have hkg:k<gs.length:=by have:=HLG.out;omega
   have hks:k<st.1.length:=by have:=HFL.out;rw[hinv.len];omega
   obtain⟨b6,off6,rfl,hb6,h06⟩:=HX6.out k hkg
   have u6:=(hE.cells.1 _ _ hb6).trans h06
   have u4:=(hE.cells.1 _ _ hb4).trans h04
   have q6:b6<wr.heap.size:=Qb hb6 hE.size
   have q4:b4<wr.heap.size:=Qb hb4 hE.size
   have r0:=IRow.get hRow k hks
   have r2:=RowB.lt hRow
   have hgk:=HGR.out k hlt
   have hnn:=hinv.nn k
   have hsn:=R.sum_nn st.1 hinv.nn
   have hle:=R.iat_le_sum st.1 k hinv.nn
   have hlo:=hinv.lo
   have hsum:=hinv.sum
   have hsu:=R.takeTo_succ gs (fish,c) k
   rw[HST.out]at hsu
   unfold R.takeStep at hsu
   rw[iat_of hks]at hnn hsu hle
   rw[iat_of hkg]at hgk hsu
   clear h06
   obtain⟨f,hff⟩:∃f,st.1[k]=f:=⟨_,rfl⟩
   obtain⟨G,hGG⟩:∃G,gs[k]=G:=⟨_,rfl⟩
   rw[hff]at r0 hnn hsu hle
   rw[hGG]at u6 hgk hsu
   have HFF:=Qa hff
   clear hff hGG
   have hpc:=plus_cell
   obtain⟨X,hX⟩:∃X,R.caught f G=X:=⟨_,rfl⟩
   have hX':=hX
   unfold R.caught at hX'
   rw[hX]at hsu
   have hmin:min f G=X:=by rw[← hX'];split<;>omega
   have hXb:0≤X∧X≤f:=by rw[← hmin];omega
   have HSU:=Qa hsu
   have HMIN:=Qa hmin
   clear hsu hX hX' hmin
   go_upto_region 3 with(fail)
   refine wp_region_ext 23 (fun _ _ d _ _ h=>by cases d<;>exact h) (by kernel_rfl) (by kernel_rfl) (by kernel_rfl) (by kernel_rfl) ?_
   simp only[List.take_succ_cons,List.take_zero,List.drop_succ_cons,List.drop_zero]
   repeat(any_goals(first|go_big_quiet_step(fail)|quiet_step(fail)))
   all_goals(refine wpQuiet_nil ?_;intro w' hE')
   unfold wpList
   rw[HMIN.out]
   have hwm:IntKind.wrap .i64 (f - X)=f - X:=IntWalk.i64_in _ (by omega)
   have hBF1:=hBF.ext hE'
   have hRow1:=RowB.ext hRow hE'
   have hOff1:=hOff.ext hE'
   have s0:=IRow.get hRow1 k hks
   rw[HFF.out]at s0
   have s1:=RowB.free hRow1 k
   have s2:=RowB.lt hRow1
   have s3:=hBF1.cell
   have s4:=hBF1.lt
   clear r0 r2 d0 d1 d2 u4 u6 q4 q6 hpc
   go_upto_region 5 with(fail)
   obtain⟨w2,hw2⟩:∃w2,w'.setCell ⟨g,k,none⟩ (.int .i64 (f - X))=w2:=⟨_,rfl⟩
   have hBF2:=hBF1.other (a:=⟨g,k,none⟩) hne (.int .i64 (f - X))
   have hRow2:=IRow.set hRow1 k hks (f - X)
   have hOff2:=hOff1.set (a:=⟨g,k,none⟩) (.inr (.inl rfl)) (.int .i64 (f - X))
   rw[hw2]at hBF2 hRow2 hOff2 ⊢
   clear hw2 s0 s1 s2 s3 s4
   have s3:=hBF2.cell
   have s4:=hBF2.lt
   have s5:=hBF2.free
   have hwn:IntKind.wrap .i64 (st.2+X)=st.2+X:=IntWalk.i64_in _ (by omega)
   go_wp2_with (first|(go_at_call 188;refine(sum_any _ [st.2,X] _ (two_sum _ _ _) (by simp) (two_bd _ _ (by omega) (by omega) (by omega) (by omega))).mono ?_;rintro e w'' ⟨rfl,rfl⟩))
   go_roundw
   case rel=>exact⟨k+1,_,by omega,by go_num,HSU.out,(hBF2.set 11 (.int .i64 (st.2+X))).alloc _,RowB.ext (RowB.other hRow2 (a:=⟨bF,11,none⟩) (fun e=>hne e.symm) _) ((Ext.refl _).alloc _),(hOff2.set (a:=⟨bF,11,none⟩) (.inl rfl) _).alloc _⟩
   case measure=>simp[intOf];omega
  ·obtain rfl:k=r.places.length:=by omega
   go_wp2
   go_end0
   rw[HST.out]
   exact⟨rfl,hBF,hRow,hOff⟩
end Go.Proofs.YtgloajbgphcloaaGreat.Rf
namespace Go.Proofs.YtgloajbgphcloaaGreat.Rf
set_option linter.unusedVariables false
set_option linter.unusedSimpArgs false
open Go.RowKit
open Blk renaming new' → Qh
open Ext renaming alloc → Qi, drew → Qj, refl → Qc, setCell → Qk, trans → Ql
open Lib renaming hid → Qa
open Nat renaming le_trans → Qg, lt_of_lt_of_le → Qb
def midS (ps:List R.Place) (gs ks:List Int) (x:R.State):Nat→R.State
 | 0=>x
 | 1=>⟨(R.growTo ps gs (x.fish,x.grown) ps.length).1,(R.growTo ps gs (x.fish,x.grown) ps.length).2,x.gone,x.taken⟩
 | 2=>⟨(R.driftTo ps (R.growTo ps gs (x.fish,x.grown) ps.length).1 ((R.growTo ps gs (x.fish,x.grown) ps.length).1,x.gone) ps.length).1,(R.growTo ps gs (x.fish,x.grown) ps.length).2,
   (R.driftTo ps (R.growTo ps gs (x.fish,x.grown) ps.length).1 ((R.growTo ps gs (x.fish,x.grown) ps.length).1,x.gone) ps.length).2,x.taken⟩
 | _=>R.season ps gs ks x
def Apart (b g n:Nat) (w:World) (p:List Int×Value):Prop:=∃g' cap,p.2= .slice (some ⟨g',0,none⟩) p.1.length cap∧g'≠b∧g'≠g∧IRow w g' p.1∧n≤g'
theorem Apart.of2 {b g n:Nat} {w w':World} {p:List Int×Value} (h:Apart b g n w p) (ho:Of2 b g w w'):Apart b g n w' p:=by
 obtain⟨g',cap,e,h1,h2,h3,hN⟩:=h
 exact⟨g',cap,e,h1,h2,h3.of2 ho h1 h2,hN⟩
theorem Apart.ext {b g n:Nat} {w w':World} {p:List Int×Value} (h:Apart b g n w p) (ho:Ext w w'):Apart b g n w' p:=h.of2 (ho.of2 _ _)
theorem Apart.grown {b g n:Nat} {w w':World} {row:Option Nat} {p:List Int×Value} (h:Apart b g n w p) (hg:w.grownBy w' row) (hr:∀k,row=some k→∃cs e,Blk w k cs e∧e≠3):Apart b g n w' p:=by
 obtain⟨g',cap,e,h1,h2,h3,hN⟩:=h
 refine⟨g',cap,e,h1,h2,h3.move (hg.block g' h3.lt ?_),hN⟩
 intro e'
 obtain⟨cs,e2,hc,he⟩:=hr g' e'.symm
 obtain⟨cs',hc',_⟩:=h3
 unfold Blk at hc hc';rw[hc]at hc'
 have:=Option.some.inj hc'
 injection this with _ h2 _
 exact he h2
theorem own_blk {w:World} {base:Nat} {e:TypeId} {s:Nat} {v:Value} {n:Nat} {xs:List Value} (h:w.ownsRow base e s v n xs) (he:e≠3):∀k,v.ownBlock=some k→∃cs e,Blk w k cs e∧e≠3:=by
 intro k hk
 rcases h.2 with⟨rfl,_⟩|⟨g,cap,cur,rfl,_,hg,_⟩
 ·simp[Value.ownBlock]at hk
 ·simp[Value.ownBlock]at hk
  subst hk
  exact⟨_,e,hg,he⟩
theorem own_off {w w':World} {base b g:Nat} {e:TypeId} {s:Nat} {v:Value} {n:Nat} {xs:List Value} (h:w.ownsRow base e s v n xs) (ho:Of2 b g w w') (hb:b<base) (hg:g<base):w'.ownsRow base e s v n xs:=by
 refine⟨h.1,?_⟩
 rcases h.2 with h0|⟨k,cap,cur,hv,hk,hh,hr⟩
 ·exact .inl h0
 ·exact .inr ⟨k,cap,cur,hv,hk,(ho.block k (Array.getElem?_eq_some_iff.1 hh).1 (by omega) (by omega)).trans hh,hr⟩
def RowAtF (n:Nat) (w:World) (b o:Nat) (xs:List Int):Prop:=n≤b∧∃v,w.cell? ⟨b,o,none⟩=some v∧Ints w v xs∧Tight v∧∀k,v.ownBlock=some k→n≤k
def ListsF (n:Nat) (w:World) (v:Value) (xs:List (List Int)):Prop:=Sls 1 (RowAtF n) w v xs
theorem ListsF.lists {n:Nat} {w:World} {v:Value} {xs:List (List Int)} (h:ListsF n w v xs):Lists w v xs:=by
 obtain⟨a,cap,rfl,hx⟩:=h
 refine⟨a,cap,rfl,fun i hi=> ?_⟩
 obtain⟨b,off,e,hb,_,v,h1,h2,h3,_⟩:=hx i hi
 exact⟨b,off,e,hb,v,h1,h2,h3⟩
theorem cell_heap {w w':World} {b:Nat} (h:w'.heap[b]? =w.heap[b]?) (o:Nat):w'.cell? ⟨b,o,none⟩=w.cell? ⟨b,o,none⟩:=by simp[World.cell?,h]
theorem _root_.Go.Proofs.YtgloajbgphcloaaGreat.Ints.of2 {c n:Nat} {w w':World} {v:Value} {xs:List Int} (h:Ints w v xs) (hn:∀k,v.ownBlock=some k→n≤k) (hc:c<n) (ho:Of2 c c w w'):Ints w' v xs:=by
 obtain⟨a,cap,rfl,hx⟩:=h
 refine⟨a,cap,rfl,fun i hi=> ?_⟩
 obtain⟨b,off,rfl,hb,h1⟩:=hx i hi
 have hnb:n≤b:=hn b rfl
 exact⟨b,off,rfl,Qb hb ho.size,(cell_heap (ho.block b hb (by omega) (by omega)) _).trans h1⟩
theorem ListsF.of2 {c n:Nat} {w w':World} {v:Value} {xs:List (List Int)} (h:ListsF n w v xs) (hc:c<n) (ho:Of2 c c w w'):ListsF n w' v xs:=by
 obtain⟨a,cap,rfl,hx⟩:=h
 refine⟨a,cap,rfl,fun i hi=> ?_⟩
 obtain⟨b,off,e,hb,hn,v,h1,h2,h3,h4⟩:=hx i hi
 exact⟨b,off,e,Qb hb ho.size,hn,v,(cell_heap (ho.block b hb (by omega) (by omega)) _).trans h1,h2.of2 h4 hc ho,h3,h4⟩
theorem ListsF.ext {n:Nat} {w w':World} {v:Value} {xs:List (List Int)} (h:ListsF n w v xs) (he:Ext w w'):ListsF n w' v xs:=by
 obtain⟨a,cap,rfl,hx⟩:=h
 refine⟨a,cap,rfl,fun i hi=> ?_⟩
 obtain⟨b,off,e,hb,hn,v,h1,h2,h3,h4⟩:=hx i hi
 exact⟨b,off,e,Qb hb he.size,hn,v,(he.cells.1 _ _ hb).trans h1,h2.ext he,h3,h4⟩
theorem ListsF.mono {n m:Nat} {w:World} {v:Value} {xs:List (List Int)} (h:ListsF n w v xs) (hm:m≤n):ListsF m w v xs:=by
 obtain⟨a,cap,rfl,hx⟩:=h
 refine⟨a,cap,rfl,fun i hi=> ?_⟩
 obtain⟨b,off,e,hb,hn,v,h1,h2,h3,h4⟩:=hx i hi
 exact⟨b,off,e,hb,Qg hm hn,v,h1,h2,h3,fun k hk=>Qg hm (h4 k hk)⟩
theorem ListsF.nil (n:Nat) (w:World):ListsF n w (.slice none 0 0) []:=Sls.nil w
theorem Lists.of_own {b g n:Nat} {w:World} {base:Nat} {v:Value} {L:List (List Int×Value)} (hn:n≤base) (h:w.ownsRow base 30 1 v L.length (L.map Prod.snd)) (hi:∀p∈L,Apart b g n w p):ListsF n w v (L.map Prod.fst):=by
 obtain⟨a,cap,rfl⟩:=own_slice h
 refine⟨a,cap,by simp,fun i hi'=> ?_⟩
 have hi2:i<L.length:=by simpa using hi'
 rcases h.2 with⟨e,h0⟩|⟨g,cap',cur,hv,hb,hg,_⟩
 ·rw[h0]at hi2;exact absurd hi2 (by omega)
 ·cases hv
  obtain⟨g',c',e',_,_,h3,hN⟩:=hi L[i] (List.getElem_mem hi2)
  refine⟨g,0,rfl,own_lt h,Qg hn hb,L[i].2,?_,?_,?_,?_⟩
  ·exact own_cell h _ _ (by simp[hi2])
  ·rw[e'];simpa using IRow.ints h3 rfl c'
  ·rw[e'];exact Tight.some _ _ _
  ·rw[e'];intro k hk;simp[Value.ownBlock]at hk;omega
theorem blk_of {w w':World} {b:Nat} {cs:Array Value} {e:TypeId} (h:Blk w b cs e) (hE:Ext w w'):∀o,w'.cell? ⟨b,o,none⟩=cs[o]? :=(h.ext hE).cell
theorem one_cell (v:Value) (h:v.oneCell'=true):∀u∈[v],u.oneCell'=true:=by intro u hu;simp at hu;subst hu;exact h
theorem sum_bd {l:List Int} (h:∀i,0≤R.iat l i) (hs:l.sum≤1000000000):∀k,k≤l.length→ -1000000000000000≤(l.take k).sum∧(l.take k).sum≤1000000000000000:=by
 intro k _
 have e:l.sum=(l.take k).sum+(l.drop k).sum:=by rw[← List.sum_append,List.take_append_drop]
 have h1:0≤(l.take k).sum:=R.sum_nn _ fun j=>by
  have:=h j
  unfold R.iat at this ⊢
  rw[List.getD_eq_getElem?_getD]at this ⊢
  rw[List.getElem?_take]
  split
  ·exact this
  ·simp
 have h2:0≤(l.drop k).sum:=R.sum_nn _ fun j=>by
  have:=h (k+j)
  unfold R.iat at this ⊢
  rw[List.getD_eq_getElem?_getD]at this ⊢
  rw[List.getElem?_drop];exact this
 omega
theorem _root_.Go.Proofs.YtgloajbgphcloaaGreat.RowB.grown {α:Type} {f:α→List Value} {k:Nat} {e:TypeId} {w w':World} {row:Option Nat} {g:Nat} {xs:List α} (h:RowB f k e w g xs) (hg:w.grownBy w' row) {base:Nat} (hr:∀k,row=some k→base≤k) (hb:g<base):RowB f k e w' g xs :=
 h.move (hg.block g h.lt (fun e=>by have:=hr g e.symm;omega))
theorem Of2.grown {b g:Nat} {x y z:World} {row:Option Nat} (h:Of2 b g x y) (k:y.grownBy z row) (hr:∀j,row=some j→x.heap.size≤j):Of2 b g x z :=
 ⟨k.os.trans h.os,k.tape.trans h.tape,k.output.trans h.output,Qg h.size k.size,fun i hi h1 h2=>(k.block i (Qb hi h.size) (fun e=>by have:=hr i e.symm;omega)).trans (h.block i hi h1 h2)⟩
theorem Apart.off2 {b g n c:Nat} {w w':World} {p:List Int×Value} {cs:Array Value} {e:TypeId} (h:Apart b g n w p) (hc:Blk w c cs e) (he:e≠3) (ho:Of2 c c w w'):Apart b g n w' p:=by
 obtain⟨g',cap,e0,h1,h2,h3,hN⟩:=h
 have hne:g'≠c:=by
  intro e'
  subst e'
  obtain⟨cs',hc',_⟩:=h3
  unfold Blk at hc hc';rw[hc]at hc'
  have:=Option.some.inj hc'
  injection this with _ h2 _
  exact he h2
 exact⟨g',cap,e0,h1,h2,h3.of2 ho hne hne,hN⟩
abbrev truthV (vs vg vt:Value):Array Value:=#[vs,vg,vt]
abbrev ledgerV (l:R.Ledger):Array Value:=#[.int .i64 l.start,.int .i64 l.grown,.int .i64 l.taken,.int .i64 l.gone,.int .i64 l.left]
set_option maxRecDepth 100000 in
set_option maxHeartbeats 16000000 in
theorem follow_any (r:R.Reef) (plan:List Int) (t:R.Truth) (vp vl vs vg vt:Value) (w:World) (hP:Places w vp r.places) (hL:Ints w vl plan) (hS:Ints w vs t.starts) (hG:Lists w vg t.grows) (hT:Lists w vt t.takes)
  (O:R.OkR r) (T:R.OkT r plan t) :
  Calls Tryz.prog 120 #[.agg (planV r vp vl),.agg (truthV vs vg vt)] w fun x w'=>∃v,x= .returned (.tuple #[v,.agg (ledgerV (R.ledger r t))])∧ListsF w.heap.size w' v (R.fishOf r t)∧Ext w w':=by
 have hP':=hP
 have hL':=hL
 have hS':=hS
 have hG':=hG
 have hT':=hT
 obtain⟨a1,c1,rfl,_⟩:=hP'
 obtain⟨a2,c2,rfl,_⟩:=hL'
 obtain⟨a3,c3,rfl,_⟩:=hS'
 obtain⟨a4,c4,rfl,_⟩:=hG'
 obtain⟨a5,c5,rfl,_⟩:=hT'
 have hn1:=O.n1
 have hn4:=O.n4
 have hls:=T.ls
 have hsl:0<r.places.length:=by omega
 rw[hls]at hS
 rw[hls]
 have HLS:=Qa hls
 have hst0:=R.starts_nn O T
 have hst1:=R.starts_sum O T
 have hcl:=fun w' hx=>clone_ints (.slice a3 r.places.length c3) t.starts w' (hS.ext hx) (by omega)
 simp only[hls]at hcl
 have HCL:=Qa hcl
 have hs1:=O.s1
 have hs4:=O.s4
 have HO:=Qa O
 have HT:=Qa T
 have HSI:=Qa hS
 clear O T hcl hls
 go_enter Tryz.func120,Tryz.ntmps120
 go_upto_region 1 with(fail)
 obtain⟨w1,hw1⟩:∃w1,((w.alloc (.cells (planV r (.slice a1 r.places.length c1) (.slice a2 plan.length c2)) 227)).alloc (.cells (truthV (.slice a3 r.places.length c3) (.slice a4 t.grows.length c4) (.slice a5 t.takes.length c5)) 114)).alloc (.cells #[.int .i64 0,.int .i64 0,.int .i64 0,.int .i64 0,.int .i64 0] 130)=w1:=⟨_,rfl⟩
 have hbx:Blk w1 w.heap.size (planV r (.slice a1 r.places.length c1) (.slice a2 plan.length c2)) 227:=by rw[← hw1];exact((Qh rfl _ _).alloc _).alloc _
 have hbt:Blk w1 (w.heap.size+1) (truthV (.slice a3 r.places.length c3) (.slice a4 t.grows.length c4) (.slice a5 t.takes.length c5)) 114:=by rw[← hw1];exact(Qh (by simp) _ _).alloc _
 have hbr:Blk w1 (w.heap.size+1+1) #[.int .i64 0,.int .i64 0,.int .i64 0,.int .i64 0,.int .i64 0] 130:=by rw[← hw1];exact Qh (by simp) _ _
 have hE1:Ext w w1:=by rw[← hw1];(with_reducible(repeat(first|exact Qc _|assumption|apply Qi|apply Qj|exact ext_plus _ _|(apply Qk;rotate_left;(simp<;>omega))|(apply Ql;rotate_left;exact ext_plus _ _)|(apply Ql;rotate_left;assumption))))
 rw[hw1]
 clear hw1
 go_cut [6]from 11 to 17 (fun s6 wc=>∃bF g cap,s6= .pointer (some ⟨bF,0,none⟩)∧Blk wc bF (folV r (.slice a1 r.places.length c1) (.slice a2 plan.length c2) (.slice a3 r.places.length c3) (.slice a4 t.grows.length c4) (.slice a5 t.takes.length c5) 0 (.slice (some ⟨g,0,none⟩) r.places.length cap) 0 0 0 0 0) 305∧IRow wc g t.starts∧g≠bF∧w1.heap.size≤bF∧w1.heap.size≤g∧Ext w1 wc)
 case first =>
  go_region_held3 (fun y=>(∀ o,y.cell? ⟨w.heap.size,o,none⟩=(planV r (.slice a1 r.places.length c1) (.slice a2 plan.length c2))[o]?)∧(∀ o,y.cell? ⟨w.heap.size+1,o,none⟩=(truthV (.slice a3 r.places.length c3) (.slice a4 t.grows.length c4) (.slice a5 t.takes.length c5))[o]?)∧Ext w1 y)
   (first|exact⟨blk_of hbx (by(with_reducible(repeat(first|exact Qc _|assumption|apply Qi|apply Qj|exact ext_plus _ _|(apply Qk;rotate_left;(simp<;>omega))|(apply Ql;rotate_left;exact ext_plus _ _)|(apply Ql;rotate_left;assumption))))),blk_of hbt (by(with_reducible(repeat(first|exact Qc _|assumption|apply Qi|apply Qj|exact ext_plus _ _|(apply Qk;rotate_left;(simp<;>omega))|(apply Ql;rotate_left;exact ext_plus _ _)|(apply Ql;rotate_left;assumption))))),by(with_reducible(repeat(first|exact Qc _|assumption|apply Qi|apply Qj|exact ext_plus _ _|(apply Qk;rotate_left;(simp<;>omega))|(apply Ql;rotate_left;exact ext_plus _ _)|(apply Ql;rotate_left;assumption))))⟩)
   (first|(go_at_call 173;refine(HCL.out _ (hE1.trans (by(with_reducible(repeat(first|exact Qc _|assumption|apply Qi|apply Qj|exact ext_plus _ _|(apply Qk;rotate_left;(simp<;>omega))|(apply Ql;rotate_left;exact ext_plus _ _)|(apply Ql;rotate_left;assumption))))))).mono ?_;rintro e y1 ⟨v2,rfl,hown,hy1⟩;obtain⟨g,cap,rfl,hg0,hg1⟩:=own_pos hown hsl))
  all_goals(dsimp only[Exit.then];go_wp2;go_meet)
  all_goals
   simp only[size_drew]at hg0
   have hyz:=hy1.size
   simp only[size_drew]at hyz
   exact⟨_,g,cap,rfl,Qh rfl _ _,RowB.ext (IRow.of_own (by rw[HLS.out];exact hown)) ((Qc _).alloc _),by omega,hyz,hg0,(((Qc _).drew).trans hy1).alloc _⟩
 case rest =>
  obtain⟨bF,g,cap,rfl,hBF,hRow,hne,hlb,hlg,hEc⟩:=hcut
  obtain⟨m,hm⟩:=Int.eq_ofNat_of_zero_le (show 0≤r.seasons by omega)
  have hm4:m≤4:=by omega
  have HM:=Qa hm
  obtain⟨i9,hi9,hy0,hy1,hy2⟩:=info_parts row_info
  have d0:=hBF.cell
  have d1:=hBF.free
  have d2:=hBF.lt
  clear hm
  go_upto_region 3 with(first|(go_at_call 188;refine(sum_any _ t.starts _ (IRow.ints hRow HLS.out.symm cap) (by have:=HLS.out;omega) (sum_bd hst0 (by omega))).mono ?_;rintro e w'' ⟨rfl,rfl⟩))
  obtain⟨w2,hw2⟩:∃w2,wc.setCell ⟨bF,9,none⟩ (.int .i64 t.starts.sum)=w2:=⟨_,rfl⟩
  have hBF2:=hBF.set 9 (.int .i64 t.starts.sum)
  have hRow2:=RowB.other hRow (a:=⟨bF,9,none⟩) (fun e=>hne e.symm) (.int .i64 t.starts.sum)
  have hE12:=hEc.setCell (p:=⟨bF,9,none⟩) hlb (.int .i64 t.starts.sum)
  rw[hw2]at hBF2 hRow2 hE12 ⊢
  clear hw2 d0 d1 d2
  have hbx2:=hbx.ext hE12
  have hbr2:=hbr.ext hE12
  have hE2:Ext w w2:=hE1.trans hE12
  have hz1:=hE1.size
  have hb0:w.heap.size≤bF:=by omega
  have hg0:w.heap.size≤g:=by omega
  have hbl:=hBF2.lt
  have hgl:=RowB.lt hRow2
  have hxb:w.heap.size≠bF:=by have:=hbx.lt;omega
  have hxg:w.heap.size≠g:=by have:=hbx.lt;omega
  have hrb:w.heap.size+1+1≠bF:=by have:=hbr.lt;omega
  have hrg:w.heap.size+1+1≠g:=by have:=hbr.lt;omega
  have d0:=hbx2.cell
  have d1:=hbx2.lt
  go_wp2
  go_loopw [7,8,10,30] (fun v _ _ i wr=>∃(k:Nat) (L:List (List Int×Value)) (sv:Int),k≤m∧i= .int .i64 k∧L.length=k∧wr.ownsRow w2.heap.size 30 1 v L.length (L.map Prod.snd)∧(∀ p∈L,Apart bF g w.heap.size wr p)∧L.map Prod.fst=(List.range k).map (fun s=>(R.stateAt r t (s+1)).fish) ∧
    Blk wr bF (folV r (.slice a1 r.places.length c1) (.slice a2 plan.length c2) (.slice a3 r.places.length c3) (.slice a4 t.grows.length c4) (.slice a5 t.takes.length c5) sv (.slice (some ⟨g,0,none⟩) r.places.length cap) t.starts.sum (R.stateAt r t k).grown (R.stateAt r t k).taken (R.stateAt r t k).gone 0) 305∧IRow wr g (R.stateAt r t k).fish∧Of2 bF g w2 wr)
   (fun _ _ _ i _=>m - (intOf i).toNat)
  case atStart=>exact⟨0,[],0,Nat.zero_le _,rfl,rfl,World.ownsRow_nil _ _ _ _,by simp,rfl,hBF2,hRow2,Of2.refl _ _ _⟩
  case round =>
   rename World=>wr
   obtain⟨s,L,sv,hs,rfl,hLl,hown,hLa,hLf,hBr,hRr,hOr⟩:=hrel
   have HLA:=Qa hLa
   have HLF:=Qa hLf
   have HLL:=Qa hLl
   have hbX:=hbx2.of2 hOr hxb hxg
   have hbR:=hbr2.of2 hOr hrb hrg
   have hEr:Ext w wr:=hOr.ext0 hE2 hb0 hg0
   have d0:=hbX.cell
   have d1:=hbX.lt
   have e0:=hBr.cell
   have e1:=hBr.free
   have e2:=hBr.lt
   have hfn:=R.fine_at HO.out HT.out s (by have:=HM.out;omega)
   clear hLa hLf hLl
   by_cases hlt:s<m
   ·have hlt':(s:Int)<r.seasons:=by have:=HM.out;omega
    go_upto_region 8 with(fail)
    obtain⟨w3,hw3⟩:∃w3,wr.setCell ⟨bF,7,none⟩ (.int .i64 s)=w3:=⟨_,rfl⟩
    have hB3:=hBr.set 7 (.int .i64 s)
    have hR3:=RowB.other hRr (a:=⟨bF,7,none⟩) (fun e=>hne e.symm) (.int .i64 s)
    have hO3:=hOr.set (a:=⟨bF,7,none⟩) (.inl rfl) (.int .i64 s)
    rw[hw3]at hB3 hR3 hO3 ⊢
    have hown3:=own_other hown (a:=⟨bF,7,none⟩) hbl (.int .i64 s)
    rw[hw3]at hown3
    have hLa3:∀p∈L,Apart bF g w.heap.size w3 p:=fun p hp=>by rw[← hw3];exact(HLA.out p hp).of2 ((Of2.refl _ _ _).set (a:=⟨bF,7,none⟩) (.inl rfl) _)
    have HLA3:=Qa hLa3
    clear hw3 hLa3 e0 e1 e2 d0 d1 hown
    have hmt:s<r.seasons.toNat:=by have:=HM.out;omega
    have hsg:s<t.grows.length:=by have:=HT.out.lg;have:=HM.out;omega
    have hst:s<t.takes.length:=by have:=HT.out.lt;have:=HM.out;omega
    have hE3:Ext w w3:=hO3.ext0 hE2 hb0 hg0
    have hbd:=R.fine_bd HO.out HT.out (by omega:s≤4) hfn
    have hgi:=R.growTo_inv (ps:=r.places) (gs:=t.grows[s]) (fish:=(R.stateAt r t s).fish) (g0:=(R.stateAt r t s).grown) hfn.len hfn.nn HO.out.place (fun i hi=>by have h1:=(HT.out.grow s hmt i hi).1;have h2:=(HO.out.place i hi).g0;rw[lat_of hsg]at h1;omega) r.places.length (Nat.le_refl _)
    have hdi:=R.driftTo_inv (ps:=r.places) (now:=(R.growTo r.places t.grows[s] ((R.stateAt r t s).fish,(R.stateAt r t s).grown) r.places.length).1) (g0:=(R.stateAt r t s).gone) (by rw[hgi.len,hfn.len]) hgi.nn HO.out.place r.places.length (Nat.le_refl _)
    have hstep:R.stateAt r t (s+1)=midS r.places t.grows[s] t.takes[s] (R.stateAt r t s) 3:=by
     show R.season r.places (R.lat t.grows s) (R.lat t.takes s) (R.stateAt r t s)=R.season r.places t.grows[s] t.takes[s] (R.stateAt r t s)
     rw[lat_of hsg,lat_of hst]
    have HG1:=Qa (fun(w':World) (cap':Nat) (h0:Ext w w') (hB:Blk w' bF _ 305) (hR:IRow w' g _)=>grows_any r t s (R.stateAt r t s).fish t.starts.sum (R.stateAt r t s).grown (R.stateAt r t s).taken (R.stateAt r t s).gone 0 _ (.slice a2 plan.length c2) (.slice a3 r.places.length c3) _ (.slice a5 t.takes.length c5) w w' bF g cap' h0 hb0 hg0 hne hP hG hsg (by have:=HT.out.gl s hmt;rwa[lat_of hsg]at this) hfn.len hn4 HO.out.place
     (fun i hi=>by have h1:=HT.out.grow s hmt i hi;have h2:=(HO.out.place i hi).g0;have h3:=(HO.out.place i hi).g2;rw[lat_of hsg]at h1;omega) hfn.nn (by have:=hfn.r0;omega) hB hR)
    have HG2:=Qa (fun(w':World) (cap':Nat) (h0:Ext w w') (hB:Blk w' bF _ 305) (hR:IRow w' g _)=>drifts_any r s (R.growTo r.places t.grows[s] ((R.stateAt r t s).fish,(R.stateAt r t s).grown) r.places.length).1 t.starts.sum (R.growTo r.places t.grows[s] ((R.stateAt r t s).fish,(R.stateAt r t s).grown) r.places.length).2 (R.stateAt r t s).taken (R.stateAt r t s).gone 0 _ (.slice a2 plan.length c2) (.slice a3 r.places.length c3) (.slice a4 t.grows.length c4) (.slice a5 t.takes.length c5) w w' bF g cap' h0 hb0 hg0 hne hP (by rw[hgi.len,hfn.len]) hn1 hn4 HO.out.place hgi.nn
     (by have:=hgi.sum;have:=hgi.hi;have:=hfn.r0;omega) (by have:=hfn.g0;omega) hB hR)
    have HG3:=Qa (fun(w':World) (cap':Nat) (h0:Ext w w') (hB:Blk w' bF _ 305) (hR:IRow w' g _)=>taken_any r t s (midS r.places t.grows[s] t.takes[s] (R.stateAt r t s) 2).fish t.starts.sum (midS r.places t.grows[s] t.takes[s] (R.stateAt r t s) 2).grown (R.stateAt r t s).taken (midS r.places t.grows[s] t.takes[s] (R.stateAt r t s) 2).gone 0 _ (.slice a2 plan.length c2) (.slice a3 r.places.length c3) (.slice a4 t.grows.length c4) _ w w' bF g cap' h0 hb0 hg0 hne hP hT hst (by have:=HT.out.tl s hmt;rwa[lat_of hst]at this) (by show(R.driftTo _ _ _ _).1.length=_;rw[hdi.len,hgi.len,hfn.len]) hn4
     (fun i hi=>by have h1:=HT.out.take s hmt i hi;have h2:=R.take_bd (HO.out.place i hi) (R.has (R.iat plan s) i);rw[lat_of hst]at h1;omega) hdi.nn (by show(R.driftTo _ _ _ _).1.sum≤_;have:=hdi.sum;have:=hdi.lo;have:=hgi.sum;have:=hgi.hi;have:=hfn.r0;omega) (by have:=hfn.t0;omega) hB hR)
    have HST:=Qa hstep
    clear hgi hdi hstep hbd hfn
    obtain⟨x,hx⟩:∃x,R.stateAt r t s=x:=⟨_,rfl⟩
    rw[hx]at hB3 hR3 HG1 HG2 HG3 HST
    obtain⟨gs,hgs⟩:∃gs,t.grows[s]=gs:=⟨_,rfl⟩
    rw[hgs]at HG1 HG2 HG3 HST
    obtain⟨ks,hks⟩:∃ks,t.takes[s]=ks:=⟨_,rfl⟩
    rw[hks]at HG3 HST
    clear hx hgs hks
    have hix0:∀w,(Instr.index 272 (.agg #[(.func (.func 189) #[.pointer (some ⟨bF,0,none⟩)] #[]),(.func (.func 190) #[.pointer (some ⟨bF,0,none⟩)] #[]),(.func (.func 191) #[.pointer (some ⟨bF,0,none⟩)] #[])]) (.int .i64 0)).run Tryz.prog w= .ok (.func (.func 189) #[.pointer (some ⟨bF,0,none⟩)] #[]) w:=fun _=>by kernel_rfl
    have hix1:∀w,(Instr.index 272 (.agg #[(.func (.func 189) #[.pointer (some ⟨bF,0,none⟩)] #[]),(.func (.func 190) #[.pointer (some ⟨bF,0,none⟩)] #[]),(.func (.func 191) #[.pointer (some ⟨bF,0,none⟩)] #[])]) (.int .i64 1)).run Tryz.prog w= .ok (.func (.func 190) #[.pointer (some ⟨bF,0,none⟩)] #[]) w:=fun _=>by kernel_rfl
    have hix2:∀w,(Instr.index 272 (.agg #[(.func (.func 189) #[.pointer (some ⟨bF,0,none⟩)] #[]),(.func (.func 190) #[.pointer (some ⟨bF,0,none⟩)] #[]),(.func (.func 191) #[.pointer (some ⟨bF,0,none⟩)] #[])]) (.int .i64 2)).run Tryz.prog w= .ok (.func (.func 191) #[.pointer (some ⟨bF,0,none⟩)] #[]) w:=fun _=>by kernel_rfl
    go_wp2
    go_loopw [10,44] (fun _ i wy=>∃(k:Nat),k≤3∧i= .int .i64 k∧Blk wy bF (folV r (.slice a1 r.places.length c1) (.slice a2 plan.length c2) (.slice a3 r.places.length c3) (.slice a4 t.grows.length c4) (.slice a5 t.takes.length c5) s (.slice (some ⟨g,0,none⟩) r.places.length cap) t.starts.sum (midS r.places gs ks x k).grown (midS r.places gs ks x k).taken (midS r.places gs ks x k).gone 0) 305∧IRow wy g (midS r.places gs ks x k).fish∧Of2 bF g w3 wy)
     (fun _ i _=>3 - (intOf i).toNat)
    case atStart=>exact⟨0,Nat.zero_le _,rfl,hB3,hR3,Of2.refl _ _ _⟩
    case round =>
     rename World=>wy
     obtain⟨k,hk,rfl,hBy,hRy,hOy⟩:=hrel
     have hEy:Ext w wy:=hOy.ext0 hE3 hb0 hg0
     have hk3:k=0∨k=1∨k=2∨k=3:=by omega
     rcases hk3 with rfl|rfl|rfl|rfl
     ·go_wp2_with (first|(go_at_call 189;refine(HG1.out _ cap hEy hBy hRy).mono ?_;rintro e wz ⟨rfl,hBz,hRz,hOz⟩))
      go_wp2
      go_roundw
      case rel=>exact⟨1,by omega,by go_num,hBz,hRz,hOy.trans hOz⟩
      case measure=>simp[intOf]
     ·go_wp2_with (first|(go_at_call 190;refine(HG2.out _ cap hEy hBy hRy).mono ?_;rintro e wz ⟨rfl,hBz,hRz,hOz⟩))
      go_wp2
      go_roundw
      case rel=>exact⟨2,by omega,by go_num,hBz,hRz,hOy.trans hOz⟩
      case measure=>simp[intOf]
     ·go_wp2_with (first|(go_at_call 191;refine(HG3.out _ cap hEy hBy hRy).mono ?_;rintro e wz ⟨rfl,hBz,hRz,hOz⟩))
      go_wp2
      go_roundw
      case rel=>exact⟨3,by omega,by go_num,hBz,hRz,hOy.trans hOz⟩
      case measure=>simp[intOf]
     ·rw[← HST.out]at hBy hRy
      have hf1:=R.fine_at HO.out HT.out (s+1) (by omega)
      have hfl:=hf1.len
      obtain⟨x',hx'⟩:∃x',R.stateAt r t (s+1)=x':=⟨_,rfl⟩
      rw[hx']at hBy hRy hfl
      have HX:=Qa hx'
      have hc5:=fun w' (h:IRow w' g x'.fish)=>clone_ints (.slice (some ⟨g,0,none⟩) r.places.length cap) x'.fish w' (IRow.ints h hfl.symm cap) (by omega)
      simp only[hfl]at hc5
      have HC5:=Qa hc5
      have HFL:=Qa hfl
      clear hx' hfl hc5 hf1 hix0 hix1 hix2 HG1 HG2 HG3
      have hown4:=own_off hown3 hOy hbl hgl
      have e0:=hBy.cell
      have e2:=hBy.lt
      obtain⟨av,cv,rfl⟩:=own_slice hown3
      obtain⟨nl,hnl⟩:∃nl,L.length=nl:=⟨_,rfl⟩
      have hnl4:nl≤4:=by have:=HLL.out;omega
      rw[hnl]at hown4
      have HNL:=Qa hnl
      rw[hnl]
      clear hnl hown3
      go_wp2_with (first|(go_at_call 173;refine(HC5.out _ hRy).mono ?_;rintro e w5 ⟨v5,rfl,hown5,hE5⟩;obtain⟨g5,cap5,rfl,hg5,hg5l⟩:=own_pos hown5 hsl)|(at_builtin;refine wpList_append_own _ rfl _ _ 94 rfl w2.heap.size 30 i9 (.slice none 0 0) 1 24 Tryz.underlying94 hi9 hy0 hy1 hy2 rfl (by decide) _ _ _ rfl ((own_ext hown4 hE5).alloc _) ⟨w5.heap.size,0,none⟩ 1 1 [.slice (some ⟨g5,0,none⟩) r.places.length cap5] rfl rfl (cell_one _ _ _ (by simp)) (one_cell _ rfl) (by unfold maxLen;omega) (by omega) (by have:=hE5.size;have:=hOy.size;have:=hO3.size;simp;omega) ?_;intro v6 w6 hown6 hgr6 _;obtain⟨g6,cap6,rfl⟩:=own_succ hown6))
      have hz5:=hE5.size
      have hzy:=hOy.size
      have hz3:=hO3.size
      have hrow:∀j,(Value.slice av nl cv).ownBlock=some j→w2.heap.size≤j:=own_base hown4
      have hoi:=own_blk ((own_ext hown4 hE5).alloc (.cells #[.slice (some ⟨g5,0,none⟩) r.places.length cap5] 30)) (by decide)
      refine⟨⟨s+1,L++[(x'.fish,.slice (some ⟨g5,0,none⟩) r.places.length cap5)],s,by omega,by go_num,by simp[HLL.out],?_,?_,?_,?_,?_,?_⟩,by simp[intOf];omega⟩
      ·simpa[HNL.out]using hown6
      ·intro p hp
       rw[List.mem_append,List.mem_singleton]at hp
       rcases hp with hp|rfl
       ·exact((((HLA3.out p hp).of2 hOy).ext hE5).ext ((Qc _).alloc _)).grown hgr6 hoi
       ·have h1:Apart bF g w.heap.size w5 (x'.fish,.slice (some ⟨g5,0,none⟩) r.places.length cap5):=⟨g5,cap5,by simp[HFL.out],by omega,by omega,IRow.of_own (by rw[HFL.out];exact hown5),by have:=hE2.size;omega⟩
        exact(h1.ext ((Qc _).alloc _)).grown hgr6 hoi
      ·rw[List.map_append,HLF.out,List.range_succ,List.map_append,←HX.out];rfl
      ·rw[HX.out];exact Blk.grown ((hBy.ext hE5).alloc _) hgr6 hrow hbl
      ·rw[HX.out];exact RowB.grown (RowB.ext (RowB.ext hRy hE5) ((Qc _).alloc _)) hgr6 hrow hgl
      ·exact Of2.grown (((hO3.trans hOy).ext hE5).alloc _) hgr6 hrow
   ·obtain rfl:s=m:=by omega
    have hnlt:¬(s:Int)<r.seasons:=by have:=HM.out;omega
    have hbd:=R.fine_bd HO.out HT.out hm4 hfn
    have hfl:=hfn.len
    have hnn:=hfn.nn
    have hms:r.seasons.toNat=s:=by have:=HM.out;omega
    have HEND:=Qa (show R.endOf r t=R.stateAt r t s by unfold R.endOf;rw[hms])
    have hLL:=Lists.of_own (n:=w.heap.size) hE2.size hown HLA.out
    rw[HLF.out]at hLL
    have hfo:(List.range s).map (fun s=>(R.stateAt r t (s+1)).fish)=R.fishOf r t:=by unfold R.fishOf;rw[hms]
    rw[hfo]at hLL
    obtain⟨av,cv,rfl⟩:=own_slice hown
    obtain⟨x,hx⟩:∃x,R.stateAt r t s=x:=⟨_,rfl⟩
    rw[hx]at hBr hRr hbd hfl hnn HEND e0
    have HFL:=Qa hfl
    have hrf:=hbR.free
    have hrc:=hbR.cell
    have hrl:=hbR.lt
    clear hms hfo hx hfl hfn
    go_upto_region 16 with(first|(go_at_call 188;refine(sum_any _ x.fish _ (IRow.ints hRr HFL.out.symm cap) (by have:=HFL.out;omega) (sum_bd hnn (by omega))).mono ?_;rintro e w'' ⟨rfl,rfl⟩))
    obtain⟨w7,hw7⟩:∃w7,wr.setCell ⟨bF,13,none⟩ (.int .i64 x.fish.sum)=w7:=⟨_,rfl⟩
    have hB7:=hBr.set 13 (.int .i64 x.fish.sum)
    have hbR7:=hbR.other (a:=⟨bF,13,none⟩) (fun e=>hrb e.symm) (.int .i64 x.fish.sum)
    have hO7:Of2 bF g wr (wr.setCell ⟨bF,13,none⟩ (.int .i64 x.fish.sum)):=(Of2.refl bF g wr).set (a:=⟨bF,13,none⟩) (.inl rfl) _
    have hown7:=own_other hown (a:=⟨bF,13,none⟩) hbl (.int .i64 x.fish.sum)
    rw[hw7]at hB7 hbR7 hO7 hown7 ⊢
    have HLA7:=Qa (fun p hp=>(HLA.out p hp).of2 hO7)
    clear hw7 e0 e1 e2 d0 d1 hrf hrc hrl hown hLL
    have e0:=hB7.cell
    have e2:=hB7.lt
    have hpc:=plus_cell
    refine wp_region_ext 6 (fun _ _ d _ _ h=>by cases d<;>exact h) (by kernel_rfl) (by kernel_rfl) (by kernel_rfl) (by kernel_rfl) ?_
    simp only[List.take_succ_cons,List.take_zero,List.drop_succ_cons,List.drop_zero]
    repeat(any_goals(first|go_big_quiet_step(fail)|quiet_step(fail)))
    all_goals(refine wpQuiet_nil ?_;intro w8 hE8)
    have hbR8:=hbR7.ext hE8
    have hrf:=hbR8.free
    have hrc:=hbR8.cell
    have hrl:=hbR8.lt
    go_wp2
    have hrz:w.heap.size≤w.heap.size+1+1:=by omega
    have hbR9:=((((hbR8.set 0 (.int .i64 t.starts.sum)).set 1 (.int .i64 x.grown)).set 2 (.int .i64 x.taken)).set 3 (.int .i64 x.gone)).set 4 (.int .i64 x.fish.sum)
    have hO9:=(((((Of2.refl (w.heap.size+1+1) (w.heap.size+1+1) w8).set (a:=⟨w.heap.size+1+1,0,none⟩) (.inl rfl) (.int .i64 t.starts.sum)).set (a:=⟨w.heap.size+1+1,1,none⟩) (.inl rfl) (.int .i64 x.grown)).set (a:=⟨w.heap.size+1+1,2,none⟩) (.inl rfl) (.int .i64 x.taken)).set (a:=⟨w.heap.size+1+1,3,none⟩) (.inl rfl) (.int .i64 x.gone)).set (a:=⟨w.heap.size+1+1,4,none⟩) (.inl rfl) (.int .i64 x.fish.sum)
    obtain⟨w9,hw9⟩:∃w9,((((w8.setCell ⟨w.heap.size+1+1,0,none⟩ (.int .i64 t.starts.sum)).setCell ⟨w.heap.size+1+1,1,none⟩ (.int .i64 x.grown)).setCell ⟨w.heap.size+1+1,2,none⟩ (.int .i64 x.taken)).setCell ⟨w.heap.size+1+1,3,none⟩ (.int .i64 x.gone)).setCell ⟨w.heap.size+1+1,4,none⟩ (.int .i64 x.fish.sum)=w9:=⟨_,rfl⟩
    rw[hw9]at hbR9 hO9 ⊢
    have hrl2:=hbr2.lt
    have hown9:=own_off (own_ext hown7 hE8) hO9 (by omega) (by omega)
    have hE78:Ext w w8:=(hO7.ext0 hEr hb0 hg0).trans hE8
    have hE9:Ext w w9:=hO9.ext0 hE78 hrz hrz
    have hLL:=Lists.of_own (n:=w.heap.size) hE2.size hown9 (fun p hp=>(((HLA7.out p hp).ext hE8).off2 hbR8 (by decide) hO9))
    have hms:r.seasons.toNat=s:=by have:=HM.out;omega
    have hfo:(List.range s).map (fun s=>(R.stateAt r t (s+1)).fish)=R.fishOf r t:=by unfold R.fishOf;rw[hms]
    rw[HLF.out,hfo]at hLL
    have hle:R.ledger r t=⟨t.starts.sum,x.grown,x.taken,x.gone,x.fish.sum⟩:=by unfold R.ledger R.sumL;rw[HEND.out]
    rw[hle]
    have k0:=hbR9.cell
    clear hrf hrc hrl hw9 hO9
    exact bodyPost_ret (v:= .tuple #[.slice av L.length cv,.agg #[.int .i64 t.starts.sum,.int .i64 x.grown,.int .i64 x.taken,.int .i64 x.gone,.int .i64 x.fish.sum]]) (by simp[results,Tryz.results120,go_sem,k0]) rfl ⟨_,rfl,hLL,hE9⟩
end Go.Proofs.YtgloajbgphcloaaGreat.Rf
