/- Whether a truth is one of the reef with its plan, as the program asks it. -/
import Derived.Test.YtgloajbgphcloaaGreatCo
import Derived.Test.YtgloajbgphcloaaGreatRg
import Derived.Test.YtgloajbgphcloaaGreatRfT1
import Derived.Test.YtgloajbgphcloaaGreatRfPl
import Derived.Deep.RegionHeld3
import Derived.Deep.CutRange
import Derived.WalkMore
namespace Go.Proofs.YtgloajbgphcloaaGreat.Rf
set_option linter.unusedVariables false
set_option linter.unusedSimpArgs false
open Go.RowKit
open Ext renaming alloc → Qc, drew → Qd, refl → Qb, setCell → Qe, trans → Qf
open Lib renaming hid → Qa
open List renaming drop_succ_cons → Qk, drop_zero → Ql, take_succ_cons → Qi, take_zero → Qj
open Nat renaming lt_of_lt_of_le → Qh, zero_le → Qg
theorem all_false {k n:Nat} {p:Nat→Bool} (hk:k<n) (h:p k=false):((List.range n).all p)=false:=by
 rw[Bool.eq_false_iff]
 intro hh
 rw[List.all_eq_true]at hh
 have:=hh k (List.mem_range.2 hk)
 rw[h]at this;cases this
theorem pat_of {ps:List R.Place} {k:Nat} (h:k<ps.length):R.pat ps k=ps[k]:=by simp[R.pat,h]
theorem iat_of {l:List Int} {k:Nat} (h:k<l.length):R.iat l k=l[k]:=by simp[R.iat,h]
theorem lat_of {l:List (List Int)} {k:Nat} (h:k<l.length):R.lat l k=l[k]:=by simp[R.lat,h]
set_option maxRecDepth 100000 in
set_option maxHeartbeats 8000000 in
theorem isTruth_any (r:R.Reef) (plan:List Int) (t:R.Truth) (vp vl vs vg vt:Value) (w:World) (hP:Places w vp r.places) (hL:Ints w vl plan) (hS:Ints w vs t.starts) (hG:Lists w vg t.grows) (hT:Lists w vt t.takes)
  (O:R.OkR r) (L:R.OkL r plan) (hn1:t.starts.length≤1000000) (hn2:t.grows.length≤1000000) (hn3:t.takes.length≤1000000) (hn4:∀l∈t.grows,l.length≤1000000) (hn5:∀l∈t.takes,l.length≤1000000) :
  Calls Tryz.prog 119 #[.agg (planV r vp vl),.agg #[vs,vg,vt]] w fun e w'=>e= .returned (.bool (R.truthB r plan t))∧Ext w w':=by
 have hP':=hP
 obtain⟨a1,c1,rfl,hx1⟩:=hP'
 have hL':=hL
 obtain⟨a2,c2,rfl,_⟩:=hL'
 obtain⟨a3,c3,rfl,hx3⟩:=hS
 obtain⟨a4,c4,rfl,hx4⟩:=hG
 obtain⟨a5,c5,rfl,hx5⟩:=hT
 have HX1:=Qa hx1
 have HX3:=Qa hx3
 have HX4:=Qa hx4
 have HX5:=Qa hx5
 clear hx1 hx3 hx4 hx5
 have hp1:=O.n1
 have hp4:=O.n4
 have hs1:=O.s1
 have hs4:=O.s4
 obtain⟨B,hB⟩:∃B,R.lensB r t=B:=⟨_,rfl⟩
 have hB':=hB
 unfold R.lensB at hB'
 cases B with
 | false =>
  have HB:=Qa hB
  clear hB
  simp only[Bool.and_eq_false_imp,Bool.and_eq_true,decide_eq_true_eq,decide_eq_false_iff_not]at hB'
  go_enter Tryz.func119,Tryz.ntmps119
  go_wp2
  all_goals first
   | (go_ret;refine⟨ret_bool (by unfold R.truthB;rw[HB.out];rfl),by(with_reducible(repeat(first|exact Qb _|assumption|apply Qc|apply Qd|exact ext_plus _ _|(apply Qe;rotate_left;(simp<;>omega))|(apply Qf;rotate_left;exact ext_plus _ _)|(apply Qf;rotate_left;assumption))))⟩)
   | (exfalso;simp_all;done)
   | (exfalso;simp_all;omega)
 | true =>
  simp only[Bool.and_eq_true,decide_eq_true_eq]at hB'
  obtain⟨⟨e1,e2⟩,e3⟩:=hB'
  have HB:=Qa hB
  clear hB
  rw[e1]
  have E1:=Qa e1
  clear e1
  go_enter Tryz.func119,Tryz.ntmps119
  go_upto_region 4 with(fail)
  obtain⟨w1,hw1⟩:∃w1,(w.alloc (.cells (planV r (.slice a1 r.places.length c1) (.slice a2 plan.length c2)) 227)).alloc (.cells #[.slice a3 r.places.length c3,.slice a4 t.grows.length c4,.slice a5 t.takes.length c5] 114)=w1:=⟨_,rfl⟩
  have hbx:Blk w1 w.heap.size (planV r (.slice a1 r.places.length c1) (.slice a2 plan.length c2)) 227:=by rw[← hw1];exact(Blk.new' rfl _ _).alloc _
  have hbt:Blk w1 (w.heap.size+1) #[.slice a3 r.places.length c3,.slice a4 t.grows.length c4,.slice a5 t.takes.length c5] 114:=by rw[← hw1];exact Blk.new' (by simp) _ _
  have hE1:Ext w w1:=by rw[← hw1];(with_reducible(repeat(first|exact Qb _|assumption|apply Qc|apply Qd|exact ext_plus _ _|(apply Qe;rotate_left;(simp<;>omega))|(apply Qf;rotate_left;exact ext_plus _ _)|(apply Qf;rotate_left;assumption))))
  have E2:=Qa e2
  have E3:=Qa e3
  rw[hw1]
  clear hw1 e2 e3
  have hx0:=hbx.cell
  have hxl:=hbx.lt
  have hpc:=plus_cell
  go_wp2
  go_loopw [6,7,43] (fun _ _ i wr=>∃k:Nat,k≤r.places.length∧i= .int .i64 k∧R.startsTo r t k=true∧Ext w1 wr) (fun _ _ i _=>r.places.length - (intOf i).toNat)
  case atStart=>exact⟨0,Qg _,rfl,rfl,Qb _⟩
  case round =>
   rename World=>wr
   obtain⟨k,hk,rfl,hst,hE⟩:=hrel
   have HST:=Qa hst
   have hbX:=hbx.ext hE
   have hbT:=hbt.ext hE
   have d0:=hbX.cell
   have d1:=hbX.lt
   have d2:=hbT.cell
   have d3:=hbT.lt
   clear hst hx0 hxl
   by_cases hlt:k<r.places.length
   ·obtain⟨b,off,rfl,hb,hAt⟩:=HX1.out k hlt
    have hks:k<t.starts.length:=by have:=E1.out;omega
    obtain⟨b3,off3,rfl,hb3,h03⟩:=HX3.out k hks
    have hEw:=hE1.trans hE
    have hc3:=(hEw.cells.1 _ _ hb3).trans h03
    have hb3':b3<wr.heap.size:=Qh hb3 hEw.size
    have hAt2:=ate_stays _ _ _ _ _ _ hEw hb hAt
    obtain⟨h0,h1,h2,h3,h4,h5,h6,h7,h8,h9,h10,h11⟩:=place_cells hAt2
    have hop:=O.place k hlt
    have hsu:=R.startsTo_succ r t k
    obtain⟨Z,hZ⟩:∃Z,R.within (R.iat t.starts k) (R.pat r.places k).count (R.most r (R.pat r.places k).count)=Z:=⟨_,rfl⟩
    have HZ:=Qa hZ
    rw[HST.out,hZ]at hsu
    rw[pat_of hlt]at hop hZ
    rw[iat_of hks]at hZ
    clear hAt hAt2 h03
    obtain⟨p,hp⟩:∃p,r.places[k]=p:=⟨_,rfl⟩
    obtain⟨x,hx⟩:∃x,t.starts[k]=x:=⟨_,rfl⟩
    rw[hp]at h0 h1 h2 h3 h4 h5 h6 h7 h8 h9 h10 h11 hop hZ
    rw[hx]at hc3 hZ
    clear hp hx
    have p0:=hop.c0
    have p1:=hop.c1
    have HSU:=Qa hsu
    have HMI:=Qa (And.intro O.m0 O.m1)
    clear hsu hop
    have HZ2:=Qa hZ
    clear hZ
    go_upto_region 7 with(fail)
    refine wp_region_ext 10 (fun _ _ d _ _ h=>by cases d<;>exact h) (by kernel_rfl) (by kernel_rfl) (by kernel_rfl) (by kernel_rfl) ?_
    simp only[Qi,Qj,Qk,Ql]
    repeat(any_goals(first|quiet_step(first|(go_at_call 186;exact ext_quiet (starts_any r p _ _ _ p0 p1 HMI.out.1 HMI.out.2))|(go_at_call 185;exact ext_quiet (inside_any _ _ _ _)))))
    all_goals(refine wpQuiet_nil ?_;intro w' hE')
    rw[HZ2.out]
    unfold wpList
    cases Z with
    | true =>
     go_wp2
     go_roundw
     case rel=>exact⟨k+1,by omega,by go_num,HSU.out,(hE.alloc _).trans hE'⟩
     case measure=>simp[intOf];omega
    | false =>
     go_wp2
     go_ret
     refine⟨ret_bool ?_,hE1.trans ((hE.alloc _).trans hE')⟩
     unfold R.truthB R.startsTo
     rw[all_false hlt HZ.out,Bool.and_false,Bool.false_and]
   ·obtain rfl:k=r.places.length:=by omega
    have hx0:=hbX.cell
    obtain⟨m,hm⟩:=Int.eq_ofNat_of_zero_le (show 0≤r.seasons by omega)
    have hml:plan.length=m:=by have:=L.len;omega
    have HM:=Qa hm
    have HML:=Qa hml
    clear hm hml
    have hE2:Ext w wr:=hE1.trans hE
    clear d0 d2
    go_wp2
    go_loopw [8,9,10,11,62] (fun _ _ _ _ i wx=>∃k:Nat,k≤m∧i= .int .i64 k∧R.seasonsTo r plan t k=true∧Ext wr wx) (fun _ _ _ _ i _=>m - (intOf i).toNat)
    case atStart=>exact⟨0,Qg _,rfl,rfl,Qb _⟩
    case round =>
     rename World=>wx
     obtain⟨s,hs,rfl,hso,hEx⟩:=hrel
     have HSO:=Qa hso
     have hbX2:=hbX.ext hEx
     have hbT2:=hbT.ext hEx
     have d0:=hbX2.cell
     have d1':=hbX2.lt
     have d2:=hbT2.cell
     have d3':=hbT2.lt
     have hE3:Ext w wx:=hE2.trans hEx
     clear hso hx0 d1 d3
     by_cases hlt:s<m
     ·have hlt':(s:Int)<r.seasons:=by have:=HM.out;omega
      have hsg:s<t.grows.length:=by have:=E2.out;omega
      have hst:s<t.takes.length:=by have:=E3.out;omega
      have hsp:s<plan.length:=by have:=HML.out;omega
      obtain⟨b4,off4,rfl,hb4,v4,h04,hv4,_⟩:=HX4.out s hsg
      obtain⟨b5,off5,rfl,hb5,v5,h05,hv5,_⟩:=HX5.out s hst
      have q4:b4<wx.heap.size:=Qh hb4 hE3.size
      have q5:b5<wx.heap.size:=Qh hb5 hE3.size
      have k4:=(hE3.cells.1 _ _ hb4).trans h04
      have k5:=(hE3.cells.1 _ _ hb5).trans h05
      simp only[Nat.mul_one]at k4 k5
      have n4:=hn4 _ (List.getElem_mem hsg)
      have n5:=hn5 _ (List.getElem_mem hst)
      have hsu:=R.seasonsTo_succ r plan t s
      rw[HSO.out,Bool.true_and]at hsu
      have HSU:=Qa hsu
      have HLG:=Qa (lat_of hsg)
      have HLT:=Qa (lat_of hst)
      have hfail:R.seasonB r plan t s=false→R.truthB r plan t=false:=fun h=>by
       unfold R.truthB R.seasonsTo
       rw[all_false (k:=s) (by rw[HM.out];simpa using hlt) h,Bool.and_false]
      have HF:=Qa hfail
      clear h04 h05 hsu hfail
      obtain⟨gs,hgs⟩:∃gs,t.grows[s]=gs:=⟨_,rfl⟩
      obtain⟨ks,hks⟩:∃ks,t.takes[s]=ks:=⟨_,rfl⟩
      rw[hgs]at hv4 n4 HLG
      rw[hks]at hv5 n5 HLT
      clear hgs hks
      obtain⟨a6,c6,rfl,hx6⟩:=hv4
      obtain⟨a7,c7,rfl,hx7⟩:=hv5
      have HX6:=Qa hx6
      have HX7:=Qa hx7
      clear hx6 hx7
      by_cases hl4:gs.length=r.places.length
      ·by_cases hl5:ks.length=r.places.length
       ·rw[hl4]at k4
        rw[hl5]at k5
        have HL4:=Qa hl4
        have HL5:=Qa hl5
        clear hl4 hl5 n4 n5
        have htk:=fun w' hx=>takes_any r plan s hsp (L.bit s hsp).1 (by have h1:=(L.bit s hsp).2;have h2:=(R.two_pow _ hp4).2;omega) (by omega) hp1 (.slice a1 r.places.length c1) (.slice a2 plan.length c2) w' (hP.ext hx) (hL.ext hx)
        have HTK:=Qa htk
        clear htk
        go_upto_region 16 with(first|(go_at_call 187;refine(HTK.out _ (by(with_reducible(repeat(first|exact Qb _|assumption|apply Qc|apply Qd|exact ext_plus _ _|(apply Qe;rotate_left;(simp<;>omega))|(apply Qf;rotate_left;exact ext_plus _ _)|(apply Qf;rotate_left;assumption)))))).mono ?_;rintro e wt ⟨vt,rfl,hvt,hbt'⟩))
        obtain⟨a8,c8,rfl,hx8⟩:=hvt
        have hl8:(takesOf r plan s).length=r.places.length:=by simp[takesOf]
        have HX8:=Qa hx8
        rw[hl8]
        have HL8:=Qa hl8
        clear hx8 hl8
        have hE5:Ext w wt:=hE3.trans hbt'
        have hbX3:=hbX2.ext hbt'
        have hbT3:=hbT2.ext hbt'
        have y4:=(hbt'.cells.1 _ _ q4).trans k4
        have y5:=(hbt'.cells.1 _ _ q5).trans k5
        have z4:b4<wt.heap.size:=Qh q4 hbt'.size
        have z5:b5<wt.heap.size:=Qh q5 hbt'.size
        have x0:=hbX3.cell
        have x1:=hbX3.lt
        clear d0 d1' d2 d3' k4 k5 HTK q4 q5
        go_wp2
        go_loopw [10,11,90] (fun _ _ i wy=>∃k:Nat,k≤r.places.length∧i= .int .i64 k∧R.rowTo r plan t s k=true∧Ext wt wy) (fun _ _ i _=>r.places.length - (intOf i).toNat)
        case atStart=>exact⟨0,Qg _,rfl,rfl,Qb _⟩
        case round =>
         rename World=>wy
         obtain⟨k,hk,rfl,hro,hEy⟩:=hrel
         have HRO:=Qa hro
         have hbX4:=hbX3.ext hEy
         have hbT4:=hbT3.ext hEy
         have d0:=hbX4.cell
         have d1:=hbX4.lt
         have d2:=hbT4.cell
         have d3:=hbT4.lt
         have hEw:=hE5.trans hEy
         have y4':=(hEy.cells.1 _ _ z4).trans y4
         have y5':=(hEy.cells.1 _ _ z5).trans y5
         have z4':b4<wy.heap.size:=Qh z4 hEy.size
         have z5':b5<wy.heap.size:=Qh z5 hEy.size
         clear hro x0 x1
         by_cases hlk:k<r.places.length
         ·obtain⟨b,off,rfl,hb,hAt⟩:=HX1.out k hlk
          have hkg:k<gs.length:=by have:=HL4.out;omega
          have hkk:k<ks.length:=by have:=HL5.out;omega
          have hk8:k<(takesOf r plan s).length:=by have:=HL8.out;omega
          obtain⟨b6,off6,rfl,hb6,h06⟩:=HX6.out k hkg
          obtain⟨b7,off7,rfl,hb7,h07⟩:=HX7.out k hkk
          obtain⟨b8,off8,rfl,hb8,hAt8⟩:=HX8.out k hk8
          have u6:=(hEw.cells.1 _ _ hb6).trans h06
          have u7:=(hEw.cells.1 _ _ hb7).trans h07
          have u8:=span_cells (ate_stays _ _ _ _ _ _ hEy hb8 hAt8)
          obtain⟨u80,u81⟩:=u8
          have v6:b6<wy.heap.size:=Qh hb6 hEw.size
          have v7:b7<wy.heap.size:=Qh hb7 hEw.size
          have v8:b8<wy.heap.size:=Qh hb8 hEy.size
          obtain⟨h0,h1,h2,h3,h4,h5,h6,h7,h8,h9,h10,h11⟩:=place_cells (ate_stays _ _ _ _ _ _ hEw hb hAt)
          have htk:(takesOf r plan s)[k]=R.take (R.pat r.places k) (R.has (R.iat plan s) k):=by simp[takesOf]
          rw[htk]at u80 u81
          have hrs:=R.rowTo_succ r plan t s k
          obtain⟨Z1,hZ1⟩:∃Z,R.within (R.iat (R.lat t.grows s) k) (R.pat r.places k).gl (R.pat r.places k).gh=Z:=⟨_,rfl⟩
          obtain⟨Z2,hZ2⟩:∃Z,R.within (R.iat (R.lat t.takes s) k) (R.take (R.pat r.places k) (R.has (R.iat plan s) k)).1 (R.take (R.pat r.places k) (R.has (R.iat plan s) k)).2=Z:=⟨_,rfl⟩
          rw[HRO.out,hZ1,hZ2,Bool.true_and]at hrs
          have HRS:=Qa hrs
          have hfk:(Z1&&Z2)=false→(R.within (R.iat (R.lat t.grows s) k) (R.pat r.places k).gl (R.pat r.places k).gh&&R.within (R.iat (R.lat t.takes s) k) (R.take (R.pat r.places k) (R.has (R.iat plan s) k)).1 (R.take (R.pat r.places k) (R.has (R.iat plan s) k)).2)=false:=fun h=>by rw[hZ1,hZ2];exact h
          have HFK0:=Qa hfk
          rw[HLG.out,iat_of hkg,pat_of hlk]at hZ1
          rw[HLT.out,iat_of hkk]at hZ2
          clear hAt hAt8 h06 h07 htk hrs hfk
          obtain⟨p,hp⟩:∃p,r.places[k]=p:=⟨_,rfl⟩
          obtain⟨g,hg⟩:∃g,gs[k]=g:=⟨_,rfl⟩
          obtain⟨x,hx⟩:∃x,ks[k]=x:=⟨_,rfl⟩
          obtain⟨tk,htk⟩:∃tk,R.take (R.pat r.places k) (R.has (R.iat plan s) k)=tk:=⟨_,rfl⟩
          rw[hp]at h0 h1 h2 h3 h4 h5 h6 h7 h8 h9 h10 h11 hZ1
          rw[hg]at u6 hZ1
          rw[hx]at u7 hZ2
          rw[htk]at u80 u81 hZ2
          have W1:=Qa hZ1
          have W2:=Qa hZ2
          clear hp hg hx htk hZ1 hZ2
          cases Z1 with
          | false =>
           have HFK:=Qa (HFK0.out rfl)
           go_upto_region 19 with(fail)
           refine wp_region_ext 28 (fun _ _ d _ _ h=>by cases d<;>exact h) (by kernel_rfl) (by kernel_rfl) (by kernel_rfl) (by kernel_rfl) ?_
           simp only[Qi,Qj,Qk,Ql]
           have zz1:=W1.out
           repeat(any_goals(first|go_big_quiet_step((go_at_call 185;exact ext_quiet (inside_any _ _ _ _)))|quiet_step((go_at_call 185;exact ext_quiet (inside_any _ _ _ _)))))
           all_goals(refine wpQuiet_nil ?_;intro w' hE')
           unfold wpList
           go_wp2
           go_ret
           refine⟨ret_bool (HF.out ?_).symm,hE5.trans ((hEy.alloc _).trans hE')⟩
           unfold R.seasonB R.rowTo
           rw[all_false hlk HFK.out,Bool.and_false]
          | true =>
           cases Z2 with
           | false =>
            have HFK:=Qa (HFK0.out rfl)
            go_upto_region 19 with(fail)
            refine wp_region_ext 28 (fun _ _ d _ _ h=>by cases d<;>exact h) (by kernel_rfl) (by kernel_rfl) (by kernel_rfl) (by kernel_rfl) ?_
            simp only[Qi,Qj,Qk,Ql]
            have zz1:=W1.out;have zz2:=W2.out
            repeat(any_goals(first|go_big_quiet_step((go_at_call 185;exact ext_quiet (inside_any _ _ _ _)))|quiet_step((go_at_call 185;exact ext_quiet (inside_any _ _ _ _)))))
            all_goals(refine wpQuiet_nil ?_;intro w' hE')
            unfold wpList
            go_wp2
            go_ret
            refine⟨ret_bool (HF.out ?_).symm,hE5.trans ((hEy.alloc _).trans hE')⟩
            unfold R.seasonB R.rowTo
            rw[all_false hlk HFK.out,Bool.and_false]
           | true =>
            go_upto_region 19 with(fail)
            refine wp_region_ext 28 (fun _ _ d _ _ h=>by cases d<;>exact h) (by kernel_rfl) (by kernel_rfl) (by kernel_rfl) (by kernel_rfl) ?_
            simp only[Qi,Qj,Qk,Ql]
            have zz1:=W1.out;have zz2:=W2.out
            repeat(any_goals(first|go_big_quiet_step((go_at_call 185;exact ext_quiet (inside_any _ _ _ _)))|quiet_step((go_at_call 185;exact ext_quiet (inside_any _ _ _ _)))))
            all_goals(refine wpQuiet_nil ?_;intro w' hE')
            unfold wpList
            go_wp2
            go_roundw
            case rel=>exact⟨k+1,by omega,by go_num,HRS.out,(hEy.alloc _).trans hE'⟩
            case measure=>simp[intOf];omega
         ·obtain rfl:k=r.places.length:=by omega
          go_wp2
          refine⟨⟨s+1,by omega,by go_num,?_,(hEx.trans hbt').trans hEy⟩,by simp[intOf];omega⟩
          have h:=HSU.out
          unfold R.seasonB at h
          rw[HRO.out,HLG.out,HLT.out,decide_eq_true HL4.out,decide_eq_true HL5.out]at h
          exact h
       ·have hl5':(ks.length:Int)≠r.places.length:=by omega
        have HN:=Qa hl5
        clear hl5
        go_wp2
        go_ret
        refine⟨ret_bool (HF.out ?_).symm,by(with_reducible(repeat(first|exact Qb _|assumption|apply Qc|apply Qd|exact ext_plus _ _|(apply Qe;rotate_left;(simp<;>omega))|(apply Qf;rotate_left;exact ext_plus _ _)|(apply Qf;rotate_left;assumption))))⟩
        unfold R.seasonB
        rw[HLT.out,decide_eq_false HN.out,Bool.and_false,Bool.false_and]
      ·have hl4':(gs.length:Int)≠r.places.length:=by omega
       have HN:=Qa hl4
       clear hl4
       go_wp2
       go_ret
       refine⟨ret_bool (HF.out ?_).symm,by(with_reducible(repeat(first|exact Qb _|assumption|apply Qc|apply Qd|exact ext_plus _ _|(apply Qe;rotate_left;(simp<;>omega))|(apply Qf;rotate_left;exact ext_plus _ _)|(apply Qf;rotate_left;assumption))))⟩
       unfold R.seasonB
       rw[HLG.out,decide_eq_false HN.out,Bool.false_and,Bool.false_and]
     ·obtain rfl:s=m:=by omega
      have hnlt:¬(s:Int)<r.seasons:=by have:=HM.out;omega
      go_wp2
      go_ret
      refine⟨ret_bool ?_,by(with_reducible(repeat(first|exact Qb _|assumption|apply Qc|apply Qd|exact ext_plus _ _|(apply Qe;rotate_left;(simp<;>omega))|(apply Qf;rotate_left;exact ext_plus _ _)|(apply Qf;rotate_left;assumption))))⟩
      unfold R.truthB
      rw[HB.out,HST.out,HM.out]
      have:=HSO.out
      simp[this]
end Go.Proofs.YtgloajbgphcloaaGreat.Rf
