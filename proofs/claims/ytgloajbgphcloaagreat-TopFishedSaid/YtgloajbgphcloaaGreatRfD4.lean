/- Which truths are one of a reef with a plan, as the document asks it. -/
import Derived.Test.YtgloajbgphcloaaGreatCo
import Derived.Test.YtgloajbgphcloaaGreatRg
import Derived.Test.YtgloajbgphcloaaGreatRfD1
import Derived.Test.YtgloajbgphcloaaGreatRfC4
namespace Go.Proofs.YtgloajbgphcloaaGreat.Rf
set_option linter.unusedVariables false
set_option linter.unusedSimpArgs false
open Go.RowKit
open Ext renaming refl → Qa, setCell → Qc, trans → Qd
open Lib renaming hid → Qb
open List renaming drop_succ_cons → Qi, drop_zero → Qj, take_succ_cons → Qg, take_zero → Qh
open Nat renaming lt_of_lt_of_le → Qf, zero_le → Qe
theorem dhas_ext (x:Int) (k:Nat) (w:World) (h0:0≤x) (h1:x≤1000000) (hk:k≤1000) :
  Calls Tryz.prog 118 #[.int .i64 x,.int .i64 k] w fun e w'=>e= .returned (.bool (R.has x k))∧Ext w w' :=
 (dhas_any x k w h0 h1 hk).mono fun _ _ ⟨h1,h2⟩=>⟨h1,h2▸Qa _⟩
set_option maxRecDepth 100000 in
set_option maxHeartbeats 8000000 in
theorem dtruth_any (r:R.Reef) (plan:List Int) (t:R.Truth) (vp vl vs vg vt:Value) (w:World) (hP:Places w vp r.places) (hL:Ints w vl plan) (hS:Ints w vs t.starts) (hG:Lists w vg t.grows) (hT:Lists w vt t.takes)
  (O:R.OkR r) (L:R.OkL r plan) (hn1:t.starts.length≤1000000) (hn2:t.grows.length≤1000000) (hn3:t.takes.length≤1000000) (hn4:∀l∈t.grows,l.length≤1000000) (hn5:∀l∈t.takes,l.length≤1000000) :
  Calls Tryz.prog 44 #[.agg (reefV r vp),vl,.agg #[vs,vg,vt]] w fun e w'=>e= .returned (.bool (R.truthB r plan t))∧Ext w w':=by
 have hP':=hP
 obtain⟨a1,c1,rfl,hx1⟩:=hP'
 have hL':=hL
 obtain⟨a2,c2,rfl,hx2⟩:=hL'
 obtain⟨a3,c3,rfl,hx3⟩:=hS
 obtain⟨a4,c4,rfl,hx4⟩:=hG
 obtain⟨a5,c5,rfl,hx5⟩:=hT
 have HX1:=Qb hx1
 have HX2:=Qb hx2
 have HX3:=Qb hx3
 have HX4:=Qb hx4
 have HX5:=Qb hx5
 clear hx1 hx2 hx3 hx4 hx5
 have hp1:=O.n1
 have hp4:=O.n4
 have hs1:=O.s1
 have hs4:=O.s4
 obtain⟨B,hB⟩:∃B,R.lensB r t=B:=⟨_,rfl⟩
 have hB':=hB
 unfold R.lensB at hB'
 cases B with
 | false =>
  have HB:=Qb hB
  clear hB
  simp only[Bool.and_eq_false_imp,Bool.and_eq_true,decide_eq_true_eq,decide_eq_false_iff_not]at hB'
  go_enter Tryz.func44,Tryz.ntmps44
  go_upto_region 3 with(fail)
  all_goals first
   | (go_ret;refine⟨ret_bool (by unfold R.truthB;rw[HB.out];rfl),by(with_reducible(repeat(first|exact Qa _|assumption|apply Ext.alloc|apply Ext.drew|exact ext_plus _ _|(apply Qc;rotate_left;(simp<;>omega))|(apply Qd;rotate_left;exact ext_plus _ _)|(apply Qd;rotate_left;assumption))))⟩)
   | (exfalso;simp_all;done)
   | (exfalso;simp_all;omega)
 | true =>
  simp only[Bool.and_eq_true,decide_eq_true_eq]at hB'
  obtain⟨⟨e1,e2⟩,e3⟩:=hB'
  have HB:=Qb hB
  clear hB
  rw[e1]
  have E1:=Qb e1
  clear e1
  go_enter Tryz.func44,Tryz.ntmps44
  go_upto_region 3 with(fail)
  obtain⟨w1,hw1⟩:∃w1,(w.alloc (.cells (reefV r (.slice a1 r.places.length c1)) 111)).alloc (.cells #[.slice a3 r.places.length c3,.slice a4 t.grows.length c4,.slice a5 t.takes.length c5] 114)=w1:=⟨_,rfl⟩
  have hbx:Blk w1 w.heap.size (reefV r (.slice a1 r.places.length c1)) 111:=by rw[← hw1];exact(Blk.new' rfl _ _).alloc _
  have hbt:Blk w1 (w.heap.size+1) #[.slice a3 r.places.length c3,.slice a4 t.grows.length c4,.slice a5 t.takes.length c5] 114:=by rw[← hw1];exact Blk.new' (by simp) _ _
  have hE1:Ext w w1:=by rw[← hw1];(with_reducible(repeat(first|exact Qa _|assumption|apply Ext.alloc|apply Ext.drew|exact ext_plus _ _|(apply Qc;rotate_left;(simp<;>omega))|(apply Qd;rotate_left;exact ext_plus _ _)|(apply Qd;rotate_left;assumption))))
  have E2:=Qb e2
  have E3:=Qb e3
  rw[hw1]
  clear hw1 e2 e3
  have hpc:=plus_cell
  go_wp2
  go_loopw [7] (fun i wr=>∃k:Nat,k≤r.places.length∧i= .int .i64 k∧R.startsTo r t k=true∧Ext w1 wr) (fun i _=>r.places.length - (intOf i).toNat)
  case atStart=>exact⟨0,Qe _,rfl,rfl,Qa _⟩
  case round =>
   rename World=>wr
   obtain⟨k,hk,rfl,hst,hE⟩:=hrel
   have HST:=Qb hst
   have hbX:=hbx.ext hE
   have hbT:=hbt.ext hE
   have d0:=hbX.cell
   have d1:=hbX.lt
   have d2:=hbT.cell
   have d3:=hbT.lt
   clear hst
   by_cases hlt:k<r.places.length
   ·obtain⟨b,off,rfl,hb,hAt⟩:=HX1.out k hlt
    have hks:k<t.starts.length:=by have:=E1.out;omega
    obtain⟨b3,off3,rfl,hb3,h03⟩:=HX3.out k hks
    have hEw:=hE1.trans hE
    have hc3:=(hEw.cells.1 _ _ hb3).trans h03
    have hb3':b3<wr.heap.size:=Qf hb3 hEw.size
    have hb':b<wr.heap.size:=Qf hb hEw.size
    have hAt2:=ate_stays _ _ _ _ _ _ hEw hb hAt
    obtain⟨h0,h1,h2,h3,h4,h5,h6,h7,h8,h9,h10,h11⟩:=place_cells hAt2
    have hop:=O.place k hlt
    have hsu:=R.startsTo_succ r t k
    obtain⟨Z,hZ⟩:∃Z,R.within (R.iat t.starts k) (R.pat r.places k).count (R.most r (R.pat r.places k).count)=Z:=⟨_,rfl⟩
    have HZ:=Qb hZ
    rw[HST.out,hZ]at hsu
    rw[pat_of hlt]at hop hZ
    rw[iat_of hks]at hZ
    clear hAt hAt2 h03
    obtain⟨p,hp⟩:∃p,r.places[k]=p:=⟨_,rfl⟩
    obtain⟨x,hx⟩:∃x,t.starts[k]=x:=⟨_,rfl⟩
    rw[hp]at h0 h1 h2 h3 h4 h5 h6 h7 h8 h9 h10 h11 hop hZ
    rw[hx]at hc3 hZ
    clear hp hx h1 h2 h3 h4 h5 h6 h7 h8 h9 h10 h11
    have p0:=hop.c0
    have p1:=hop.c1
    have HSU:=Qb hsu
    clear hsu hop
    have hmo:=fun w'=>dmost_any r p.count (.slice (some ⟨b,off,none⟩) r.places.length c1) ⟨_,_,_,rfl⟩ w' p0 (by omega) O.m0 O.m1
    obtain⟨M,hM⟩:∃M,R.most r p.count=M:=⟨_,rfl⟩
    simp only[hM]at hmo
    rw[hM]at hZ
    have hin:=fun w'=>din_ext x p.count M w'
    simp only[hZ]at hin
    have HMO:=Qb hmo
    have HIN:=Qb hin
    clear hZ hM hmo hin
    go_upto_region 6 with(fail)
    refine wp_region_ext 21 (fun _ _ d _ _ h=>by cases d<;>exact h) (by kernel_rfl) (by kernel_rfl) (by kernel_rfl) (by kernel_rfl) ?_
    simp only[Qg,Qh,Qi,Qj]
    repeat(any_goals(first|quiet_step(first|(go_at_call 115;exact ext_quiet (HMO.out _))|(go_at_call 101;exact ext_quiet (HIN.out _)))))
    all_goals(refine wpQuiet_nil ?_;intro w' hE')
    cases Z with
    | true =>
     go_wp2
     go_roundw
     case rel=>exact⟨k+1,by omega,by go_num,HSU.out,hE.trans hE'⟩
     case measure=>simp[intOf];omega
    | false =>
     go_wp2
     go_ret
     refine⟨ret_bool ?_,hE1.trans (hE.trans hE')⟩
     unfold R.truthB R.startsTo
     rw[all_false hlt HZ.out,Bool.and_false,Bool.false_and]
   ·obtain rfl:k=r.places.length:=by omega
    obtain⟨m,hm⟩:=Int.eq_ofNat_of_zero_le (show 0≤r.seasons by omega)
    have hml:plan.length=m:=by have:=L.len;omega
    have HM:=Qb hm
    have HML:=Qb hml
    clear hm hml
    have hE2:Ext w wr:=hE1.trans hE
    go_wp2
    clear d0 d1 d2 d3
    go_loopw [8] (fun i wx=>∃k:Nat,k≤m∧i= .int .i64 k∧R.seasonsTo r plan t k=true∧Ext wr wx) (fun i _=>m - (intOf i).toNat)
    case atStart=>exact⟨0,Qe _,rfl,rfl,Qa _⟩
    case round =>
     rename World=>wx
     obtain⟨s,hs,rfl,hso,hEx⟩:=hrel
     have HSO:=Qb hso
     have hbX2:=hbX.ext hEx
     have hbT2:=hbT.ext hEx
     have d0:=hbX2.cell
     have d1':=hbX2.lt
     have d2:=hbT2.cell
     have d3':=hbT2.lt
     have hE3:Ext w wx:=hE2.trans hEx
     clear hso
     by_cases hlt:s<m
     ·have hlt':(s:Int)<r.seasons:=by have:=HM.out;omega
      have hsg:s<t.grows.length:=by have:=E2.out;omega
      have hst:s<t.takes.length:=by have:=E3.out;omega
      have hsp:s<plan.length:=by have:=HML.out;omega
      obtain⟨b4,off4,rfl,hb4,v4,h04,hv4,_⟩:=HX4.out s hsg
      obtain⟨b5,off5,rfl,hb5,v5,h05,hv5,_⟩:=HX5.out s hst
      obtain⟨b2,off2,rfl,hb2,h02⟩:=HX2.out s hsp
      have q4:b4<wx.heap.size:=Qf hb4 hE3.size
      have q5:b5<wx.heap.size:=Qf hb5 hE3.size
      have q2:b2<wx.heap.size:=Qf hb2 hE3.size
      have k4:=(hE3.cells.1 _ _ hb4).trans h04
      have k5:=(hE3.cells.1 _ _ hb5).trans h05
      have k2:=(hE3.cells.1 _ _ hb2).trans h02
      simp only[Nat.mul_one]at k4 k5
      have n4:=hn4 _ (List.getElem_mem hsg)
      have n5:=hn5 _ (List.getElem_mem hst)
      have hsu:=R.seasonsTo_succ r plan t s
      rw[HSO.out,Bool.true_and]at hsu
      have HSU:=Qb hsu
      have HLG:=Qb (lat_of hsg)
      have HLT:=Qb (lat_of hst)
      have HLP:=Qb (iat_of hsp)
      have hfail:R.seasonB r plan t s=false→R.truthB r plan t=false:=fun h=>by
       unfold R.truthB R.seasonsTo
       rw[all_false (k:=s) (by rw[HM.out];simpa using hlt) h,Bool.and_false]
      have HF:=Qb hfail
      clear h04 h05 h02 hsu hfail
      obtain⟨gs,hgs⟩:∃gs,t.grows[s]=gs:=⟨_,rfl⟩
      obtain⟨ks,hks⟩:∃ks,t.takes[s]=ks:=⟨_,rfl⟩
      have hpb:=L.bit s hsp
      have hp16:(2:Int)^r.places.length≤256:=(pow_bd (by omega)).2
      obtain⟨set,hset⟩:∃set,plan[s]=set:=⟨_,rfl⟩
      rw[hgs]at hv4 n4 HLG
      rw[hks]at hv5 n5 HLT
      rw[hset]at k2 HLP hpb
      have hsb:0≤set∧set≤1000000:=by omega
      clear hgs hks hset hpb hp16
      obtain⟨a6,c6,rfl,hx6⟩:=hv4
      obtain⟨a7,c7,rfl,hx7⟩:=hv5
      have HX6:=Qb hx6
      have HX7:=Qb hx7
      clear hx6 hx7
      by_cases hl4:gs.length=r.places.length
      ·by_cases hl5:ks.length=r.places.length
       ·rw[hl4]at k4
        rw[hl5]at k5
        have HL4:=Qb hl4
        have HL5:=Qb hl5
        clear hl4 hl5 n4 n5
        go_upto_region 11 with(fail)
        refine wp_region_ext 22 (fun _ _ d _ _ h=>by cases d<;>exact h) (by kernel_rfl) (by kernel_rfl) (by kernel_rfl) (by kernel_rfl) ?_
        simp only[Qg,Qh,Qi,Qj]
        repeat(any_goals(first|go_big_quiet_step(fail)|quiet_step(fail)))
        all_goals(refine wpQuiet_nil ?_;intro wt hbt')
        have hE5:Ext w wt:=hE3.trans hbt'
        have hbX3:=hbX2.ext hbt'
        have hbT3:=hbT2.ext hbt'
        have y4:=(hbt'.cells.1 _ _ q4).trans k4
        have y5:=(hbt'.cells.1 _ _ q5).trans k5
        have y2:=(hbt'.cells.1 _ _ q2).trans k2
        have z4:b4<wt.heap.size:=Qf q4 hbt'.size
        have z5:b5<wt.heap.size:=Qf q5 hbt'.size
        have z2:b2<wt.heap.size:=Qf q2 hbt'.size
        clear d0 d1' d2 d3' k4 k5 k2 q4 q5 q2
        go_wp2
        go_loopw [9] (fun i wy=>∃k:Nat,k≤r.places.length∧i= .int .i64 k∧R.rowTo r plan t s k=true∧Ext wt wy) (fun i _=>r.places.length - (intOf i).toNat)
        case atStart=>exact⟨0,Qe _,rfl,rfl,Qa _⟩
        case round =>
         rename World=>wy
         obtain⟨k,hk,rfl,hro,hEy⟩:=hrel
         have HRO:=Qb hro
         have hbX4:=hbX3.ext hEy
         have hbT4:=hbT3.ext hEy
         have d0:=hbX4.cell
         have d1:=hbX4.lt
         have d2:=hbT4.cell
         have d3:=hbT4.lt
         have hEw:=hE5.trans hEy
         have y4':=(hEy.cells.1 _ _ z4).trans y4
         have y5':=(hEy.cells.1 _ _ z5).trans y5
         have y2':=(hEy.cells.1 _ _ z2).trans y2
         have z4':b4<wy.heap.size:=Qf z4 hEy.size
         have z5':b5<wy.heap.size:=Qf z5 hEy.size
         have z2':b2<wy.heap.size:=Qf z2 hEy.size
         clear hro
         by_cases hlk:k<r.places.length
         ·obtain⟨b,off,rfl,hb,hAt⟩:=HX1.out k hlk
          have hkg:k<gs.length:=by have:=HL4.out;omega
          have hkk:k<ks.length:=by have:=HL5.out;omega
          obtain⟨b6,off6,rfl,hb6,h06⟩:=HX6.out k hkg
          obtain⟨b7,off7,rfl,hb7,h07⟩:=HX7.out k hkk
          have u6:=(hEw.cells.1 _ _ hb6).trans h06
          have u7:=(hEw.cells.1 _ _ hb7).trans h07
          have v6:b6<wy.heap.size:=Qf hb6 hEw.size
          have v7:b7<wy.heap.size:=Qf hb7 hEw.size
          have v1:b<wy.heap.size:=Qf hb hEw.size
          obtain⟨h0,h1,h2,h3,h4,h5,h6,h7,h8,h9,h10,h11⟩:=place_cells (ate_stays _ _ _ _ _ _ hEw hb hAt)
          have hrs:=R.rowTo_succ r plan t s k
          obtain⟨Z1,hZ1⟩:∃Z,R.within (R.iat (R.lat t.grows s) k) (R.pat r.places k).gl (R.pat r.places k).gh=Z:=⟨_,rfl⟩
          obtain⟨Z2,hZ2⟩:∃Z,R.within (R.iat (R.lat t.takes s) k) (R.take (R.pat r.places k) (R.has (R.iat plan s) k)).1 (R.take (R.pat r.places k) (R.has (R.iat plan s) k)).2=Z:=⟨_,rfl⟩
          rw[HRO.out,hZ1,hZ2,Bool.true_and]at hrs
          have HRS:=Qb hrs
          have hfk:(Z1&&Z2)=false→(R.within (R.iat (R.lat t.grows s) k) (R.pat r.places k).gl (R.pat r.places k).gh&&R.within (R.iat (R.lat t.takes s) k) (R.take (R.pat r.places k) (R.has (R.iat plan s) k)).1 (R.take (R.pat r.places k) (R.has (R.iat plan s) k)).2)=false:=fun h=>by rw[hZ1,hZ2];exact h
          have HFK0:=Qb hfk
          rw[HLG.out,iat_of hkg,pat_of hlk]at hZ1
          rw[HLT.out,iat_of hkk,pat_of hlk,HLP.out]at hZ2
          clear hAt h06 h07 hrs hfk
          obtain⟨p,hp⟩:∃p,r.places[k]=p:=⟨_,rfl⟩
          obtain⟨g,hg⟩:∃g,gs[k]=g:=⟨_,rfl⟩
          obtain⟨x,hx⟩:∃x,ks[k]=x:=⟨_,rfl⟩
          have hha:=fun w'=>dhas_ext set k w' hsb.1 hsb.2 (by omega)
          obtain⟨hh,hhh⟩:∃hh,R.has set k=hh:=⟨_,rfl⟩
          simp only[hhh]at hha
          rw[hhh]at hZ2
          rw[hp]at h0 h1 h2 h3 h4 h5 h6 h7 h8 h9 h10 h11 hZ1 hZ2
          rw[hg]at u6 hZ1
          rw[hx]at u7 hZ2
          have hta:=fun w'=>dtakes_any p hh w'
          obtain⟨t1,ht1⟩:∃t1,(R.take p hh).1=t1:=⟨_,rfl⟩
          obtain⟨t2,ht2⟩:∃t2,(R.take p hh).2=t2:=⟨_,rfl⟩
          simp only[ht1,ht2]at hta
          rw[ht1,ht2]at hZ2
          have W1:=Qb hZ1
          have W2:=Qb hZ2
          have HHA:=Qb hha
          have HTA:=Qb hta
          clear hp hg hx hZ1 hZ2 hha hhh hta ht1 ht2
          go_upto_region 16 with(fail)
          cases Z1 with
          | false =>
           have HFK:=Qb (HFK0.out rfl)
           refine wp_region_ext 40 (fun _ _ d _ _ h=>by cases d<;>exact h) (by kernel_rfl) (by kernel_rfl) (by kernel_rfl) (by kernel_rfl) ?_
           simp only[Qg,Qh,Qi,Qj]
           have zz1:=W1.out
           repeat(any_goals(first|go_big_quiet_step((go_at_call 116;exact ext_quiet (dinside_any _ _ _ _)))|quiet_step((go_at_call 116;exact ext_quiet (dinside_any _ _ _ _)))))
           all_goals(refine wpQuiet_nil ?_;intro w' hE')
           go_wp2
           go_ret
           refine⟨ret_bool (HF.out ?_).symm,hE5.trans (hEy.trans hE')⟩
           unfold R.seasonB R.rowTo
           rw[all_false hlk HFK.out,Bool.and_false]
          | true =>
           refine wp_region_ext 40 (fun _ _ d _ _ h=>by cases d<;>exact h) (by kernel_rfl) (by kernel_rfl) (by kernel_rfl) (by kernel_rfl) ?_
           simp only[Qg,Qh,Qi,Qj]
           have zz1:=W1.out
           have zz2:=W2.out
           repeat(any_goals(first|go_big_quiet_step(first|(go_at_call 116;exact ext_quiet (dinside_any _ _ _ _))|(go_at_call 118;exact ext_quiet (HHA.out _))|(go_at_call 117;exact ext_quiet (HTA.out _)))|quiet_step(first|(go_at_call 116;exact ext_quiet (dinside_any _ _ _ _))|(go_at_call 118;exact ext_quiet (HHA.out _))|(go_at_call 117;exact ext_quiet (HTA.out _)))))
           all_goals(refine wpQuiet_nil ?_;intro w' hE')
           cases Z2 with
           | false =>
            have HFK:=Qb (HFK0.out rfl)
            go_wp2
            go_ret
            refine⟨ret_bool (HF.out ?_).symm,hE5.trans (hEy.trans hE')⟩
            unfold R.seasonB R.rowTo
            rw[all_false hlk HFK.out,Bool.and_false]
           | true =>
            go_wp2
            go_roundw
            case rel=>exact⟨k+1,by omega,by go_num,HRS.out,hEy.trans hE'⟩
            case measure=>simp[intOf];omega
         ·obtain rfl:k=r.places.length:=by omega
          go_wp2
          refine⟨⟨s+1,by omega,by go_num,?_,(hEx.trans hbt').trans hEy⟩,by simp[intOf];omega⟩
          have h:=HSU.out
          unfold R.seasonB at h
          rw[HRO.out,HLG.out,HLT.out,decide_eq_true HL4.out,decide_eq_true HL5.out]at h
          exact h
       ·have hl5':(ks.length:Int)≠r.places.length:=by omega
        have HN:=Qb hl5
        rw[hl4]at k4
        clear hl5 hl4
        go_upto_region 11 with(fail)
        refine wp_region_ext 22 (fun _ _ d _ _ h=>by cases d<;>exact h) (by kernel_rfl) (by kernel_rfl) (by kernel_rfl) (by kernel_rfl) ?_
        simp only[Qg,Qh,Qi,Qj]
        repeat(any_goals(first|go_big_quiet_step(fail)|quiet_step(fail)))
        all_goals(refine wpQuiet_nil ?_;intro wt hbt')
        go_wp2
        go_ret
        refine⟨ret_bool (HF.out ?_).symm,hE3.trans hbt'⟩
        unfold R.seasonB
        rw[HLT.out,decide_eq_false HN.out,Bool.and_false,Bool.false_and]
      ·have hl4':(gs.length:Int)≠r.places.length:=by omega
       have HN:=Qb hl4
       clear hl4
       go_upto_region 11 with(fail)
       refine wp_region_ext 22 (fun _ _ d _ _ h=>by cases d<;>exact h) (by kernel_rfl) (by kernel_rfl) (by kernel_rfl) (by kernel_rfl) ?_
       simp only[Qg,Qh,Qi,Qj]
       repeat(any_goals(first|go_big_quiet_step(fail)|quiet_step(fail)))
       all_goals(refine wpQuiet_nil ?_;intro wt hbt')
       go_wp2
       go_ret
       refine⟨ret_bool (HF.out ?_).symm,hE3.trans hbt'⟩
       unfold R.seasonB
       rw[HLG.out,decide_eq_false HN.out,Bool.false_and,Bool.false_and]
     ·obtain rfl:s=m:=by omega
      have hnlt:¬(s:Int)<r.seasons:=by have:=HM.out;omega
      go_wp2
      go_ret
      refine⟨ret_bool ?_,by(with_reducible(repeat(first|exact Qa _|assumption|apply Ext.alloc|apply Ext.drew|exact ext_plus _ _|(apply Qc;rotate_left;(simp<;>omega))|(apply Qd;rotate_left;exact ext_plus _ _)|(apply Qd;rotate_left;assumption))))⟩
      unfold R.truthB
      rw[HB.out,HST.out,HM.out]
      have:=HSO.out
      simp[this]
end Go.Proofs.YtgloajbgphcloaaGreat.Rf
