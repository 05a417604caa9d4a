/- Whether a place can be short: must gives up by a panic, recovers catches it. recovers catches what must gives up with; Short. A reef of which no more is taken at a place. The quota of a place. The quota, as it is asked. -/
import Derived.Test.YtgloajbgphcloaaGreatCo
import Derived.Test.YtgloajbgphcloaaGreatRg
import Derived.Test.YtgloajbgphcloaaGreatRfG4
import Derived.Defers
import Derived.Recover
namespace Go.Proofs.YtgloajbgphcloaaGreat.Rf
set_option linter.unusedVariables false
set_option linter.unusedSimpArgs false
open Go.RowKit
open Ext renaming alloc → Qc, drew → Qd, refl → Qb, setCell → Qe, trans → Qf
open Lib renaming hid → Qa
open World renaming size_alloc → Qg
abbrev shortV (i d:Int):Value:= .iface 230 (.agg #[.int .i64 i,.int .i64 d])
def mustE:Option (Nat×Int)→Ending
 | none=> .returned (.tuple #[])
 | some x=> .panicked [{ v:=shortV x.1 x.2,recovered:=false }]
theorem short_drop (ps:List R.Place) (f:List Int) (k:Nat) (h1:k<ps.length) (h2:k<f.length):R.shortFrom (ps.drop k) (f.drop k) k=if f[k]<ps[k].goal then some (k,ps[k].goal - f[k])else R.shortFrom (ps.drop (k+1)) (f.drop (k+1)) (k+1):=by
 rw[List.drop_eq_getElem_cons h1,List.drop_eq_getElem_cons h2];rfl
set_option maxRecDepth 100000 in
set_option maxHeartbeats 16000000 in
theorem must_any (r:R.Reef) (plan:List Int) (vp vl:Value) (w:World) (hP:Places w vp r.places) (hPl:Ints w vl plan) (O:R.OkR r) (OL:R.OkL r plan) :
  Calls Tryz.prog 179 #[.agg (planV r vp vl)] w fun x w'=>x=mustE (R.short r plan)∧Ext w w':=by
 have hP':=hP
 have hL':=hPl
 obtain⟨a1,c1,rfl,hx1⟩:=hP'
 obtain⟨a2,c2,rfl,_⟩:=hL'
 have hn1:0<r.places.length:=O.n1
 have hn4:=O.n4
 obtain⟨mm,hmm⟩:=Int.eq_ofNat_of_zero_le (show 0≤r.seasons by have:=O.s1;omega)
 have hm4:mm≤4:=by have:=O.s4;omega
 have hm1:1≤mm:=by have:=O.s1;omega
 have hms:r.seasons.toNat=mm:=by omega
 have T:=R.okT_end (plan:=plan) O false
 have HTR:=Qa (fun w' (hx:Ext w w')=>truth_any r plan false _ _ w' (hP.ext hx) (hPl.ext hx) O OL)
 have HFO:=Qa (fun w' vs vg vt (hx:Ext w w') hs hg ht=>follow_any' r plan (R.endT r plan false) _ _ vs vg vt w' (hP.ext hx) (hPl.ext hx) hs hg ht O T)
 have hlen:=(R.fishOf_len r (R.endT r plan false)).trans hms
 have hrow:=R.fishOf_row O T (s:=mm - 1) (by omega)
 have hbd:=fun i=>R.fishOf_bd O T (s:=mm - 1) (by omega) i
 have hend:(R.endOf r (R.endT r plan false)).fish=R.lat (R.fishOf r (R.endT r plan false)) (mm - 1):=by
  rw[R.fishOf_at _ _ (by omega)];unfold R.endOf;rw[hms,Nat.sub_add_cancel hm1]
 have hsh:R.short r plan=R.shortFrom (r.places.drop 0) ((R.lat (R.fishOf r (R.endT r plan false)) (mm - 1)).drop 0) 0:=by
  unfold R.short;rw[hend];rfl
 obtain⟨X,hX⟩:∃X,R.fishOf r (R.endT r plan false)=X:=⟨_,rfl⟩
 rw[hX]at hlen hrow hsh
 simp only[hX]at hbd
 have hmx:mm - 1<X.length:=by omega
 rw[lat_of hmx]at hrow hsh
 simp only[lat_of hmx]at hbd
 obtain⟨S,hS⟩:∃S,R.short r plan=S:=⟨_,rfl⟩
 rw[hS]at hsh ⊢
 have HX:=Qa hX
 have HX1:=Qa hx1
 have HO:=Qa O
 have HSH:=Qa hsh
 have HBD:=Qa hbd
 have HROW:=Qa hrow
 have HLEN:=Qa hlen
 clear hX hS hsh hend hbd hrow hms hmm O OL T hx1 hlen
 go_enter Tryz.func179,Tryz.ntmps179
 go_upto_region 1 with(fail)
 obtain⟨w1,hw1⟩:∃w1,w.alloc (.cells (planV r (.slice a1 r.places.length c1) (.slice a2 plan.length c2)) 227)=w1:=⟨_,rfl⟩
 have hbx:Blk w1 w.heap.size (planV r (.slice a1 r.places.length c1) (.slice a2 plan.length c2)) 227:=by rw[← hw1];exact Blk.new' rfl _ _
 have hE1:Ext w w1:=by rw[← hw1];(with_reducible(repeat(first|exact Qb _|assumption|apply Qc|apply Qd|exact ext_plus _ _|(apply Qe;rotate_left;(simp<;>omega))|(apply Qf;rotate_left;exact ext_plus _ _)|(apply Qf;rotate_left;assumption))))
 rw[hw1]
 clear hw1
 go_cut [2]from 7 to 42 (fun s3 wc=>Lists wc s3 X∧Ext w1 wc)
 case first =>
  go_region_held3 (fun y=>(∀ o,y.cell? ⟨w.heap.size,o,none⟩=(planV r (.slice a1 r.places.length c1) (.slice a2 plan.length c2))[o]?)∧Ext w1 y)
   (first|exact⟨blk_of hbx (by(with_reducible(repeat(first|exact Qb _|assumption|apply Qc|apply Qd|exact ext_plus _ _|(apply Qe;rotate_left;(simp<;>omega))|(apply Qf;rotate_left;exact ext_plus _ _)|(apply Qf;rotate_left;assumption))))),by(with_reducible(repeat(first|exact Qb _|assumption|apply Qc|apply Qd|exact ext_plus _ _|(apply Qe;rotate_left;(simp<;>omega))|(apply Qf;rotate_left;exact ext_plus _ _)|(apply Qf;rotate_left;assumption))))⟩)
   (first|(go_at_call 225;refine(HTR.out _ (hE1.trans (by(with_reducible(repeat(first|exact Qb _|assumption|apply Qc|apply Qd|exact ext_plus _ _|(apply Qe;rotate_left;(simp<;>omega))|(apply Qf;rotate_left;exact ext_plus _ _)|(apply Qf;rotate_left;assumption))))))).mono ?_;rintro e y1 ⟨vs,vg,vt,rfl,h1s,h1g,h1t,hy1⟩;have k1:=hy1.cells.1;have k2:=hy1.cells.2;have k3:=hy1.size;(try simp only[size_drew,Qg]at k1 k2 k3);(try have k7:w1.heap.size<y1.heap.size:=(by omega)))|(go_at_call 120;refine(HFO.out _ _ _ _ (hE1.trans (by(with_reducible(repeat(first|exact Qb _|assumption|apply Qc|apply Qd|exact ext_plus _ _|(apply Qe;rotate_left;(simp<;>omega))|(apply Qf;rotate_left;exact ext_plus _ _)|(apply Qf;rotate_left;assumption)))))) (h1s.ext (by(with_reducible show Ext _ _;(with_reducible(repeat(first|exact Qb _|assumption|apply Qc|apply Qd|exact ext_plus _ _|(apply Qe;rotate_left;(simp<;>omega))|(apply Qf;rotate_left;exact ext_plus _ _)|(apply Qf;rotate_left;assumption))));done))) (h1g.ext (by(with_reducible show Ext _ _;(with_reducible(repeat(first|exact Qb _|assumption|apply Qc|apply Qd|exact ext_plus _ _|(apply Qe;rotate_left;(simp<;>omega))|(apply Qf;rotate_left;exact ext_plus _ _)|(apply Qf;rotate_left;assumption))));done))) (h1t.ext (by(with_reducible show Ext _ _;(with_reducible(repeat(first|exact Qb _|assumption|apply Qc|apply Qd|exact ext_plus _ _|(apply Qe;rotate_left;(simp<;>omega))|(apply Qf;rotate_left;exact ext_plus _ _)|(apply Qf;rotate_left;assumption))));done)))).mono ?_;rintro e y2 ⟨v2,q1,q2,q3,q4,q5,rfl,h2,hy2⟩;have k4:=hy2.cells.1;have k5:=hy2.cells.2;have k6:=hy2.size;(try simp only[size_drew,Qg]at k4 k5 k6)))
  all_goals(dsimp only[Exit.then];go_wp2;go_meet)
  all_goals rw[HX.out]at h2
  all_goals refine⟨?_,?_⟩
  all_goals first
   | (with_reducible refine ListsF.five h2 ?_ _ _ _ _ _;(try simp only[size_drew,Qg]);omega)
   | (with_reducible exact h2.lists.ext ((Qb _).alloc _))
   | (with_reducible refine Ext.five ?_ ?_ _ _ _ _ _<;>first|omega|(with_reducible show Ext _ _;(with_reducible(repeat(first|exact Qb _|assumption|apply Qc|apply Qd|exact ext_plus _ _|(apply Qe;rotate_left;(simp<;>omega))|(apply Qf;rotate_left;exact ext_plus _ _)|(apply Qf;rotate_left;assumption))));done))
   | (with_reducible show Ext _ _;(with_reducible(repeat(first|exact Qb _|assumption|apply Qc|apply Qd|exact ext_plus _ _|(apply Qe;rotate_left;(simp<;>omega))|(apply Qf;rotate_left;exact ext_plus _ _)|(apply Qf;rotate_left;assumption))));done)
 case rest =>
  obtain⟨hLX,hE2⟩:=hcut
  rename World=>w2
  have hEw2:=hE1.trans hE2
  have hbx2:=hbx.ext hE2
  clear HTR HFO hbx hE1
  obtain⟨a3,c3,rfl,hx3⟩:=hLX
  obtain⟨b3,off3,rfl,hb3,v3,h03,hv3,_⟩:=hx3 (mm - 1) hmx
  simp only[Nat.mul_one]at h03
  have hf:=HROW.out
  have hbd:=HBD.out
  have hsh:=HSH.out
  have HLEN2:=Qa HLEN.out
  obtain⟨f,hff⟩:∃f,X[mm - 1]=f:=⟨_,rfl⟩
  rw[hff]at hv3 hf hsh
  simp only[hff]at hbd
  clear hx3 HROW HBD HSH
  obtain⟨a4,c4,rfl,hx4⟩:=hv3
  have HX4:=Qa hx4
  rw[hf]at h03
  have HF:=Qa hf
  have HB:=Qa hbd
  have HS:=Qa hsh
  have hidx:IntKind.wrap .i64 ((X.length:Int) - 1)=((mm - 1:Nat):Int):=by rw[IntWalk.i64_in _ (by have:=HLEN.out;omega)];have:=HLEN.out;omega
  have hXl:(X.length:Int) - 1=((mm - 1:Nat):Int):=by have:=HLEN.out;omega
  clear hx4 hff hbd hsh hf
  have d0:=hbx2.cell
  have d1:=hbx2.lt
  obtain⟨m1,hm1'⟩:∃m1,mm - 1=m1:=⟨_,rfl⟩
  rw[hm1']at h03 hmx hidx hXl
  have hm1b:m1≤4:=by omega
  clear hm1' hidx
  go_wp2
  go_loopw [4,5,6,21] (fun _ _ _ i wr=>∃k:Nat,k≤r.places.length∧i= .int .i64 k∧S=R.shortFrom (r.places.drop k) (f.drop k) k∧w2=wr) (fun _ _ _ i _=>r.places.length - (intOf i).toNat)
  case atStart=>exact⟨0,Nat.zero_le _,rfl,HS.out,rfl⟩
  case round =>
   obtain⟨k,hk,rfl,hs,rfl⟩:=hrel
   by_cases hlt:k<r.places.length
   ·obtain⟨b,off,rfl,hb,hAt⟩:=HX1.out k hlt
    have hkf:k<f.length:=by have:=HF.out;omega
    obtain⟨b4,off4,rfl,hb4,h04⟩:=HX4.out k hkf
    obtain⟨p0,p1,p2,p3,p4,p5,p6,p7,p8,p9,p10,p11⟩:=place_cells (ate_stays _ _ _ _ _ _ hEw2 hb hAt)
    have hgo:=HO.out.place k hlt
    have hfb:=HB.out k
    rw[short_drop _ _ _ hlt hkf]at hs
    rw[pat_of hlt]at hgo
    rw[iat_of hkf]at hfb
    clear hAt
    obtain⟨p,hp⟩:∃p,r.places[k]=p:=⟨_,rfl⟩
    obtain⟨F,hF⟩:∃F,f[k]=F:=⟨_,rfl⟩
    rw[hp]at p0 p1 p2 p3 p4 p5 p6 p7 p8 p9 p10 p11 hs hgo
    rw[hF]at h04 hs hfb
    have l0:=hgo.l0
    have l1:=hgo.l1
    clear hp hF hgo
    by_cases hsh:F<p.goal
    ·rw[if_pos hsh]at hs
     subst hs
     go_wp2
     exact⟨rfl,rfl,hEw2⟩
    ·rw[if_neg hsh]at hs
     have HS2:=Qa hs
     clear hs
     go_wp2
     go_roundw
     case rel=>exact⟨k+1,by omega,by go_num,HS2.out,by first|rfl|trivial⟩
     case measure=>simp[intOf];omega
   ·obtain rfl:k=r.places.length:=by omega
    rw[List.drop_length]at hs
    have hs2:S=none:=by rw[hs];cases f.drop r.places.length with|nil=>rfl|cons=>rfl
    subst hs2
    go_wp2
    go_end0
    exact⟨rfl,hEw2⟩
end Go.Proofs.YtgloajbgphcloaaGreat.Rf
namespace Go.Proofs.YtgloajbgphcloaaGreat.Rf
set_option linter.unusedVariables false
set_option linter.unusedSimpArgs false
open Go.RowKit
open Blk renaming new' → Qh
open Ext renaming alloc → Qc, drew → Qd, refl → Qb, setCell → Qe, trans → Qf
set_option maxRecDepth 100000 in
theorem catch_stop (b1 b2:Nat) (p q:Value) (x:Bool) (i d:Int) (older:List PanicEntry) (w:World) (hne:b1≠b2) (h1:Blk w b1 #[p,q] 230) (h2:Blk w b2 #[.bool x] 4) :
  CallsD Tryz.prog 178 #[.pointer (some ⟨b1,0,none⟩),.pointer (some ⟨b2,0,none⟩)] (.panicking ({ v:=shortV i d,recovered:=false } ::older)) w fun e u' w' =>
   e= .returned (.tuple #[])∧u'= .panicking ({ v:=shortV i d,recovered:=true } ::older)∧Blk w' b1 #[.int .i64 i,.int .i64 d] 230∧Blk w' b2 #[.bool false] 4∧Of2 b1 b2 w w':=by
 have hta:∀w,(Instr.typeAssert (shortV i d) 20 230 true).run Tryz.prog w= .ok (.tuple #[.agg #[.int .i64 i,.int .i64 d],.bool true]) w:=fun _=>by kernel_rfl
 have c1:=h1.cell
 have c2:=h1.free
 have c3:=h1.lt
 have d1:=h2.cell
 have d2:=h2.free
 have d3:=h2.lt
 refine callsD_of_wpS Tryz.func178 rfl fun c₀ cs hu=> ?_
 simp only[Tryz.ntmps178,List.size_toArray,List.length_cons,List.length_nil,Nat.reduceAdd,Nat.reduceSub,Array.replicate_succ,Array.replicate_zero,List.push_toArray,List.append_toArray,List.nil_append,List.cons_append]
 apply wpS_seq
 apply wpS_region
 simp[wpOpsS,go_sem,recoverD,hu,Exit.thenS]
 refine wpS_of_wp ?_
 go_wp2
 have hB1:=(((h1.set 0 (.int .i64 i)).set 1 (.int .i64 d)).other (a:=⟨b2,0,none⟩) (fun e=>hne e.symm) (.bool false)).alloc (.cells #[.int .i64 i,.int .i64 d] 230)
 have hB2:=(((h2.other (a:=⟨b1,0,none⟩) hne (.int .i64 i)).other (a:=⟨b1,1,none⟩) hne (.int .i64 d)).set 0 (.bool false)).alloc (.cells #[.int .i64 i,.int .i64 d] 230)
 have hO:=((((Of2.refl b1 b2 w).set (a:=⟨b1,0,none⟩) (.inl rfl) (.int .i64 i)).set (a:=⟨b1,1,none⟩) (.inl rfl) (.int .i64 d)).set (a:=⟨b2,0,none⟩) (.inr (.inl rfl)) (.bool false)).alloc (.cells #[.int .i64 i,.int .i64 d] 230)
 obtain⟨W,hW⟩:∃W,(((w.setCell ⟨b1,0,none⟩ (.int .i64 i)).setCell ⟨b1,1,none⟩ (.int .i64 d)).setCell ⟨b2,0,none⟩ (.bool false)).alloc (.cells #[.int .i64 i,.int .i64 d] 230)=W:=⟨_,rfl⟩
 rw[hW]at hB1 hB2 hO ⊢
 clear hW c1 c2 c3 d1 d2 d3 hta h1 h2
 cases c₀
 simp[bodyPostS,results,Tryz.results178]
 exact⟨hB1,hB2,hO⟩
set_option maxRecDepth 100000 in
theorem catch_idle (p q:Addr) (w:World) :
  CallsD Tryz.prog 178 #[.pointer (some p),.pointer (some q)] .returning w fun e u' w'=>e= .returned (.tuple #[])∧u'= .returning∧w=w':=by
 refine callsD_of_wpS Tryz.func178 rfl fun c₀ cs hu=> ?_
 simp only[Tryz.ntmps178,List.size_toArray,List.length_cons,List.length_nil,Nat.reduceAdd,Nat.reduceSub,Array.replicate_succ,Array.replicate_zero,List.push_toArray,List.append_toArray,List.nil_append,List.cons_append]
 apply wpS_seq
 apply wpS_region
 simp[wpOpsS,go_sem,recoverD,hu,Exit.thenS]
 refine wpS_of_wp ?_
 go_wp2
 cases c₀
 simp_all[bodyPostS,results,Tryz.results178]
def shortP:Option (Nat×Int)→Int×Int
 | none=>(0,0)
 | some x=>(x.1,x.2)
set_option maxRecDepth 100000 in
set_option maxHeartbeats 8000000 in
theorem recovers_any (r:R.Reef) (plan:List Int) (vp vl:Value) (w:World) (hP:Places w vp r.places) (hPl:Ints w vl plan) (O:R.OkR r) (OL:R.OkL r plan) :
  Calls Tryz.prog 110 #[.agg (planV r vp vl)] w fun e w'=>e= .returned (.tuple #[.agg #[.int .i64 (shortP (R.short r plan)).1,.int .i64 (shortP (R.short r plan)).2],.bool (R.short r plan).isNone])∧Ext w w':=by
 have hmf:∀(fn:Fn) (first cap:Array Value) (w:World),(Instr.makeFunc fn first cap).run Tryz.prog w= .ok (.func fn first cap) w:=fun _ _ _ _=>rfl
 have hI:=fun w' hE=>must_any r plan vp vl w' (hP.ext hE) (hPl.ext hE) O OL
 obtain⟨S,hS⟩:∃S,R.short r plan=S:=⟨_,rfl⟩
 rw[hS]at hI ⊢
 have hP':=hP
 have hL':=hPl
 obtain⟨a1,c1,rfl,_⟩:=hP'
 obtain⟨a2,c2,rfl,_⟩:=hL'
 have HI:=Lib.hid hI
 clear hI hS
 cases S with
 | some x =>
  obtain⟨i,d⟩:=x
  go_enter_defers Tryz.func110,Tryz.ntmps110
  go_wp2_with fail
  refine(HI.out _ (by(with_reducible(repeat(first|exact Qb _|assumption|apply Qc|apply Qd|exact ext_plus _ _|(apply Qe;rotate_left;(simp<;>omega))|(apply Qf;rotate_left;exact ext_plus _ _)|(apply Qf;rotate_left;assumption)))))).mono ?_
  rintro e w' ⟨rfl,hb⟩
  dsimp only[mustE]
  have hB1:Blk w' (w.heap.size+1) #[.int .i64 0,.int .i64 0] 230:=Blk.ext ((Qh (by simp) _ _).alloc _) hb
  have hB2:Blk w' (w.heap.size+1+1) #[.bool false] 4:=Blk.ext (Qh (by simp) _ _) hb
  refine leaves_cons (f:=178) (args:=#[.pointer (some ⟨w.heap.size+1,0,none⟩),.pointer (some ⟨w.heap.size+1+1,0,none⟩)]) (by simp) (by simp[go_sem]) ?_
  refine(catch_stop (w.heap.size+1) (w.heap.size+1+1) _ _ false i d [] _ (by omega) hB1 hB2).mono ?_
  rintro e u' w'' ⟨rfl,rfl,k1,k2,hO⟩
  have q1:=k1.cell 0
  have q2:=k1.cell 1
  have q3:=k2.cell 0
  simp at q1 q2 q3
  simp[Leaves,settle,results,Tryz.results110,go_sem,q1,q2,q3,shortP]
  exact hO.ext0 (Qf (by(with_reducible(repeat(first|exact Qb _|assumption|apply Qc|apply Qd|exact ext_plus _ _|(apply Qe;rotate_left;(simp<;>omega))|(apply Qf;rotate_left;exact ext_plus _ _)|(apply Qf;rotate_left;assumption))))) hb) (by omega) (by omega)
 | none =>
  go_enter_defers Tryz.func110,Tryz.ntmps110
  go_wp2_with fail
  refine(HI.out _ (by(with_reducible(repeat(first|exact Qb _|assumption|apply Qc|apply Qd|exact ext_plus _ _|(apply Qe;rotate_left;(simp<;>omega))|(apply Qf;rotate_left;exact ext_plus _ _)|(apply Qf;rotate_left;assumption)))))).mono ?_
  rintro e w' ⟨rfl,hb⟩
  dsimp only[mustE]
  have hB1:Blk w' (w.heap.size+1) #[.int .i64 0,.int .i64 0] 230:=Blk.ext ((Qh (by simp) _ _).alloc _) hb
  have hB2:Blk w' (w.heap.size+1+1) #[.bool false] 4:=Blk.ext (Qh (by simp) _ _) hb
  have c1:=hB1.cell
  have c2:=hB1.free
  have c3:=hB1.lt
  have d1:=hB2.cell
  have d2:=hB2.free
  have d3:=hB2.lt
  go_wp2
  refine leaves_cons (f:=178) (args:=#[.pointer (some ⟨w.heap.size+1,0,none⟩),.pointer (some ⟨w.heap.size+1+1,0,none⟩)]) (by simp) (by simp[go_sem]) ?_
  refine(catch_idle ⟨w.heap.size+1,0,none⟩ ⟨w.heap.size+1+1,0,none⟩ _).mono ?_
  rintro e u' w'' ⟨rfl,rfl,rfl⟩
  have k1:=((hB1.set 0 (.int .i64 0)).set 1 (.int .i64 0)).other (a:=⟨w.heap.size+1+1,0,none⟩) (by simp) (.bool true)
  have k2:=((hB2.other (a:=⟨w.heap.size+1,0,none⟩) (by simp) (.int .i64 0)).other (a:=⟨w.heap.size+1,1,none⟩) (by simp) (.int .i64 0)).set 0 (.bool true)
  have hE9:=(((Qf (by(with_reducible(repeat(first|exact Qb _|assumption|apply Qc|apply Qd|exact ext_plus _ _|(apply Qe;rotate_left;(simp<;>omega))|(apply Qf;rotate_left;exact ext_plus _ _)|(apply Qf;rotate_left;assumption))))) hb:Ext w w').setCell (p:=⟨w.heap.size+1,0,none⟩) (by simp) (.int .i64 0)).setCell (p:=⟨w.heap.size+1,1,none⟩) (by simp) (.int .i64 0)).setCell (p:=⟨w.heap.size+1+1,0,none⟩) (by simp<;>omega) (.bool true)
  obtain⟨W,hW⟩:∃W,((w'.setCell ⟨w.heap.size+1,0,none⟩ (.int .i64 0)).setCell ⟨w.heap.size+1,1,none⟩ (.int .i64 0)).setCell ⟨w.heap.size+1+1,0,none⟩ (.bool true)=W:=⟨_,rfl⟩
  rw[hW]at k1 k2 hE9 ⊢
  have q1:=k1.cell 0
  have q2:=k1.cell 1
  have q3:=k2.cell 0
  simp at q1 q2 q3
  clear c1 c2 d1 d2 hW
  simp[Leaves,settle,results,Tryz.results110,go_sem,q1,q2,q3,shortP]
  exact hE9
end Go.Proofs.YtgloajbgphcloaaGreat.Rf
namespace Go.Proofs.YtgloajbgphcloaaGreat.Rf
set_option linter.unusedVariables false
set_option linter.unusedSimpArgs false
open Go.RowKit
open Lib renaming hid → Qa
def withOpen (p:R.Place) (a b:Int):R.Place:= { p with ol:=a,oh:=b }
theorem _root_.Go.Proofs.YtgloajbgphcloaaGreat.RowB.set_open {w:World} {g:Nat} {xs:List R.Place} (h:RowB placeC 12 126 w g xs) (i:Nat) (hi:i<xs.length) (a b:Int) :
  RowB placeC 12 126 ((w.setCell ⟨g,i*12+6,none⟩ (.int .i64 a)).setCell ⟨g,i*12+6+1,none⟩ (.int .i64 b)) g (xs.set i (withOpen xs[i] a b)):=by
 obtain⟨cs,hB,hc⟩:=h
 refine⟨_,(hB.set _ _).set _ _,fun k hk j u hu=> ?_⟩
 have hk':k<xs.length:=by simpa using hk
 have hj:j<12:=(List.getElem?_eq_some_iff.1 hu).1
 rw[List.getElem_set]at hu
 have h6:=hc k hk' 6 _ rfl
 have h7:=hc k hk' 7 _ rfl
 obtain⟨z6,_⟩:=Array.getElem?_eq_some_iff.1 h6
 obtain⟨z7,_⟩:=Array.getElem?_eq_some_iff.1 h7
 by_cases e:i=k
 ·subst e
  rw[if_pos rfl]at hu
  have hcj:=fun v hv=>hc i hk' j v hv
  have h01:j=0∨j=1∨j=2∨j=3∨j=4∨j=5∨j=6∨j=7∨j=8∨j=9∨j=10∨j=11:=by omega
  rcases h01 with rfl|rfl|rfl|rfl|rfl|rfl|rfl|rfl|rfl|rfl|rfl|rfl
  case inr.inr.inr.inr.inr.inr.inl=>simp[placeC,withOpen]at hu;simp[Array.getElem?_setIfInBounds,z6,hu]
  case inr.inr.inr.inr.inr.inr.inr.inl=>simp[placeC,withOpen]at hu;simp[Array.getElem?_setIfInBounds,z7,hu]
  all_goals
   rw[Array.getElem?_setIfInBounds,if_neg (by omega),Array.getElem?_setIfInBounds,if_neg (by omega)]
   exact hcj u hu
 ·rw[if_neg e]at hu
  rw[Array.getElem?_setIfInBounds,if_neg (by omega),Array.getElem?_setIfInBounds,if_neg (by omega)]
  exact hc k hk' j u hu
theorem min_if (a b:Int):min a b=if a<b then a else b:=by split<;>omega
set_option maxRecDepth 100000 in
set_option maxHeartbeats 8000000 in
theorem limited_any (r:R.Reef) (k:Nat) (m:Int) (vp:Value) (w:World) (hP:Places w vp r.places) (hn:r.places.length≤1000000) (hk:k<r.places.length) :
  Calls Tryz.prog 109 #[.agg (reefV r vp),.int .i64 k,.int .i64 m] w fun e w'=>∃v,e= .returned (.agg (reefV r v))∧Places w' v (R.limited r k m).places∧Ext w w':=by
 have hP':=hP
 obtain⟨a1,c1,rfl,_⟩:=hP'
 have hcl:=fun w' hx=>clone_places _ r.places w' (hP.ext hx) hn
 have HCL:=Qa hcl
 have hlim:(R.limited r k m).places=r.places.set k (withOpen r.places[k] (if r.places[k].ol<m then r.places[k].ol else m) (if r.places[k].oh<m then r.places[k].oh else m)):=by
  unfold R.limited;rw[pat_of hk];rfl
 have HLIM:=Qa hlim
 clear hcl hlim
 go_enter Tryz.func109,Tryz.ntmps109
 go_upto_region 2 with(first|(go_at_call 177;refine(HCL.out _ (by(with_reducible(repeat(first|exact Ext.refl _|assumption|apply Ext.alloc|apply Ext.drew|exact ext_plus _ _|(apply Ext.setCell;rotate_left;(simp<;>omega))|(apply Ext.trans;rotate_left;exact ext_plus _ _)|(apply Ext.trans;rotate_left;assumption)))))).mono ?_;rintro e w2 ⟨v2,rfl,hown,hE2⟩;obtain⟨g,cap,rfl,hg0,hg1⟩:=own_pos hown (by omega);have hbx:=Blk.ext ((Blk.new' (w:=w) rfl (reefV r (.slice a1 r.places.length c1)) 111).alloc (.cells #[.slice none 0 0,.int .i64 0,.int .i64 0] 111)) hE2;have d0:=hbx.cell;have d1:=hbx.free;have d2:=hbx.lt))
 simp only[World.size_alloc]at hg0
 have hbr:=Blk.ext (Blk.new' (w:=w.alloc (.cells (reefV r (.slice a1 r.places.length c1)) 111)) (b:=w.heap.size+1) (by simp) #[.slice none 0 0,.int .i64 0,.int .i64 0] 111) hE2
 have hEw2:Ext w w2:=(((Ext.refl w).alloc _).alloc _).trans hE2
 have hrow:RowB placeC 12 126 w2 g r.places:=RowB.of_own (f:=placeC) placeC_len hown
 have hbx3:=hbx.set 0 (.slice (some ⟨g,0,none⟩) r.places.length cap)
 have hbr3:=hbr.other (a:=⟨w.heap.size,0,none⟩) (by simp) (.slice (some ⟨g,0,none⟩) r.places.length cap)
 have hrow3:=hrow.other (a:=⟨w.heap.size,0,none⟩) (by simp;omega) (.slice (some ⟨g,0,none⟩) r.places.length cap)
 have hEw3:=hEw2.setCell (p:=⟨w.heap.size,0,none⟩) (Nat.le_refl _) (.slice (some ⟨g,0,none⟩) r.places.length cap)
 obtain⟨w3,hw3⟩:∃w3,w2.setCell ⟨w.heap.size,0,none⟩ (.slice (some ⟨g,0,none⟩) r.places.length cap)=w3:=⟨_,rfl⟩
 rw[hw3]at hbx3 hbr3 hrow3 hEw3 ⊢
 clear hw3 d0 d1 d2 hown hrow hbx hbr hE2 hg1
 have hcell:=fun j u hu=>hrow3.cell k hk j u hu
 have x6:=hcell 6 _ rfl
 have x7:=hcell 7 _ rfl
 have hset:=fun a b=>hrow3.set_open k hk a b
 have HSET:=Qa hset
 obtain⟨p,hp⟩:∃p,r.places[k]=p:=⟨_,rfl⟩
 rw[hp]at x6 x7
 have HP:=Qa hp
 clear hp hcell hset
 have d0:=hbx3.cell
 have d1:=hbx3.lt
 have g1:=hrow3.lt
 go_upto_region 3 with(fail)
 have hpc:=plus_cell
 refine wp_region_ext 18 (fun _ _ d _ _ h=>by cases d<;>exact h) (by kernel_rfl) (by kernel_rfl) (by kernel_rfl) (by kernel_rfl) ?_
 simp only[List.take_succ_cons,List.take_zero,List.drop_succ_cons,List.drop_zero]
 repeat(any_goals(first|go_big_quiet_step(fail)|quiet_step(fail)))
 all_goals(refine wpQuiet_nil ?_;intro w4 hE4)
 have e6:=(hE4.cells.1 _ (k*12+6) g1).trans x6
 have e7:=(hE4.cells.1 _ (k*12+7) g1).trans x7
 have f6:=(hrow3.ext hE4).free
 go_upto_region 4 with(fail)
 rw[min_if p.ol m,min_if p.oh m]
 have hlim:=HLIM.out
 rw[HP.out]at hlim
 obtain⟨A,hA⟩:∃A,(if p.ol<m then p.ol else m)=A:=⟨_,rfl⟩
 obtain⟨B,hB⟩:∃B,(if p.oh<m then p.oh else m)=B:=⟨_,rfl⟩
 rw[hA,hB]at hlim ⊢
 have hs5:=(hrow3.ext hE4).set_open k hk A B
 have hbx5:=((hbx3.ext hE4).other (a:=⟨g,k*12+6,none⟩) (by simp;omega) (.int .i64 A)).other (a:=⟨g,k*12+6+1,none⟩) (by simp;omega) (.int .i64 B)
 have hbr5:=((hbr3.ext hE4).other (a:=⟨g,k*12+6,none⟩) (by simp;omega) (.int .i64 A)).other (a:=⟨g,k*12+6+1,none⟩) (by simp;omega) (.int .i64 B)
 have hE5:=((hEw3.trans hE4).setCell (p:=⟨g,k*12+6,none⟩) (by simp;omega) (.int .i64 A)).setCell (p:=⟨g,k*12+6+1,none⟩) (by simp;omega) (.int .i64 B)
 obtain⟨w5,hw5⟩:∃w5,(w4.setCell ⟨g,k*12+6,none⟩ (.int .i64 A)).setCell ⟨g,k*12+6+1,none⟩ (.int .i64 B)=w5:=⟨_,rfl⟩
 rw[hw5]at hs5 hbx5 hbr5 hE5 ⊢
 rw[HP.out]at hs5
 rw[← hlim]at hs5
 have HS5:=Qa hs5
 clear hw5 hs5 hlim hA hB d0 d1 e6 e7 f6 x6 x7 g1
 have d0:=hbx5.cell
 have d1:=hbx5.lt
 have f0:=hbr5.cell
 have f1:=hbr5.free
 have f2:=hbr5.lt
 go_wp2
 have hbr9:=((hbr5.set 0 (.slice (some ⟨g,0,none⟩) r.places.length cap)).set 1 (.int .i64 r.miss)).set 2 (.int .i64 r.seasons)
 have hO9:=(((Of2.refl (w.heap.size+1) (w.heap.size+1) w5).set (a:=⟨w.heap.size+1,0,none⟩) (.inl rfl) (.slice (some ⟨g,0,none⟩) r.places.length cap)).set (a:=⟨w.heap.size+1,1,none⟩) (.inl rfl) (.int .i64 r.miss)).set (a:=⟨w.heap.size+1,2,none⟩) (.inl rfl) (.int .i64 r.seasons)
 obtain⟨w9,hw9⟩:∃w9,((w5.setCell ⟨w.heap.size+1,0,none⟩ (.slice (some ⟨g,0,none⟩) r.places.length cap)).setCell ⟨w.heap.size+1,1,none⟩ (.int .i64 r.miss)).setCell ⟨w.heap.size+1,2,none⟩ (.int .i64 r.seasons)=w9:=⟨_,rfl⟩
 rw[hw9]at hbr9 hO9 ⊢
 have hs9:=HS5.out.of2 hO9 (by omega) (by omega)
 have hpl:=hs9.sls cap
 have hll:(R.limited r k m).places.length=r.places.length:=by rw[HLIM.out,List.length_set]
 rw[hll]at hpl
 have q0:=hbr9.cell
 clear f0 f1 d0 hw9
 exact bodyPost_ret (v:= .agg #[.slice (some ⟨g,0,none⟩) r.places.length cap,.int .i64 r.miss,.int .i64 r.seasons]) (by simp[results,Tryz.results109,go_sem,q0]) rfl ⟨_,rfl,hpl,hO9.ext0 hE5 (by omega) (by omega)⟩
end Go.Proofs.YtgloajbgphcloaaGreat.Rf
namespace Go.Proofs.YtgloajbgphcloaaGreat.Rf
set_option linter.unusedVariables false
set_option linter.unusedSimpArgs false
open Go.RowKit
open Ext renaming alloc → Qc, drew → Qd, refl → Qb, setCell → Qe, trans → Qf
open Lib renaming hid → Qa
theorem _root_.Go.Proofs.YtgloajbgphcloaaGreat.Ext.two {b:Nat} {w1 w:World} (h:Ext w1 w) (hb:w1.heap.size≤b) (u0 u1:Value):Ext w1 ((w.setCell ⟨b,0,none⟩ u0).setCell ⟨b,1,none⟩ u1):=(h.setCell (p:=⟨b,0,none⟩) hb u0).setCell (p:=⟨b,1,none⟩) hb u1
def quotaB (r:R.Reef) (plan:List Int) (k:Nat) (m:Int):Bool:= !(R.short (R.limited r k m) plan).isNone
set_option maxRecDepth 100000 in
set_option maxHeartbeats 8000000 in
theorem quota_any (r:R.Reef) (plan:List Int) (k:Nat) (m:Int) (vp vl:Value) (w0 w:World) (h0:Ext w0 w) (hP:Places w0 vp r.places) (hL:Ints w0 vl plan) (O:R.OkR r) (OL:R.OkL r plan) (hk:k<r.places.length) (hm:0≤m)
  (br ba bl:Nat) (hr:Blk w br (reefV r vp) 111) (ha:Blk w ba #[.int .i64 k] 3) (hl:Blk w bl #[vl] 30) :
  Calls Tryz.prog 108 #[.int .i64 m,.pointer (some ⟨br,0,none⟩),.pointer (some ⟨ba,0,none⟩),.pointer (some ⟨bl,0,none⟩)] w fun e w'=>e= .returned (.bool (quotaB r plan k m))∧Ext w w':=by
 have hP':=hP
 have hL':=hL
 obtain⟨a1,c1,rfl,_⟩:=hP'
 obtain⟨a2,c2,rfl,_⟩:=hL'
 have hli:=fun w' (hx:Ext w w')=>limited_any r k m _ w' (hP.ext (h0.trans hx)) (by have:=O.n4;omega) hk
 have hre:=fun w' v (hx:Ext w w') hv=>recovers_any (R.limited r k m) plan v (.slice a2 plan.length c2) w' hv (hL.ext (h0.trans hx)) (R.okR_limited O k m hk hm) (R.okL_limited OL k m)
 have hB:quotaB r plan k m= !(R.short (R.limited r k m) plan).isNone:=rfl
 rw[hB]
 have hll:(R.limited r k m).places.length=r.places.length:=by simp[R.limited]
 obtain⟨S,hS⟩:∃S,R.short (R.limited r k m) plan=S:=⟨_,rfl⟩
 simp only[hS]at hre
 rw[hS]
 have HLI:=Qa hli
 have HRE:=Qa hre
 have HLL:=Qa hll
 clear hB hS hli hre hll O OL
 go_enter Tryz.func108,Tryz.ntmps108
 go_upto_region 1 with(fail)
 have d0:=hr.cell
 have d1:=ha.cell
 have d2:=hl.cell
 have e0:=hr.lt
 have e1:=ha.lt
 have e2:=hl.lt
 go_cut [7]from 8 to 17 (fun s7 wc=>s7= .bool S.isNone∧Ext w wc)
 case first =>
  go_region_held3 (fun y=>(∀ o,y.cell? ⟨br,o,none⟩=(reefV r (.slice a1 r.places.length c1))[o]?)∧(∀ o,y.cell? ⟨ba,o,none⟩=(#[.int .i64 k]:Array Value)[o]?)∧(∀ o,y.cell? ⟨bl,o,none⟩=(#[.slice a2 plan.length c2]:Array Value)[o]?)∧Ext w y)
   (first|exact⟨blk_of hr (by(with_reducible(repeat(first|exact Qb _|assumption|apply Qc|apply Qd|exact ext_plus _ _|(apply Qe;rotate_left;(simp<;>omega))|(apply Qf;rotate_left;exact ext_plus _ _)|(apply Qf;rotate_left;assumption))))),blk_of ha (by(with_reducible(repeat(first|exact Qb _|assumption|apply Qc|apply Qd|exact ext_plus _ _|(apply Qe;rotate_left;(simp<;>omega))|(apply Qf;rotate_left;exact ext_plus _ _)|(apply Qf;rotate_left;assumption))))),blk_of hl (by(with_reducible(repeat(first|exact Qb _|assumption|apply Qc|apply Qd|exact ext_plus _ _|(apply Qe;rotate_left;(simp<;>omega))|(apply Qf;rotate_left;exact ext_plus _ _)|(apply Qf;rotate_left;assumption))))),by(with_reducible(repeat(first|exact Qb _|assumption|apply Qc|apply Qd|exact ext_plus _ _|(apply Qe;rotate_left;(simp<;>omega))|(apply Qf;rotate_left;exact ext_plus _ _)|(apply Qf;rotate_left;assumption))))⟩)
   (first|(go_at_call 109;refine(HLI.out _ (by(with_reducible show Ext _ _;(with_reducible(repeat(first|exact Qb _|assumption|apply Qc|apply Qd|exact ext_plus _ _|(apply Qe;rotate_left;(simp<;>omega))|(apply Qf;rotate_left;exact ext_plus _ _)|(apply Qf;rotate_left;assumption))));done))).mono ?_;rintro e y1 ⟨v1,rfl,hv1,hy1⟩;have hv1':=hv1;obtain⟨a9,c9,rfl,_⟩:=hv1';rw[HLL.out]at *;have k1:=hy1.cells.1;have k2:=hy1.cells.2;have k3:=hy1.size;(try simp only[size_drew,World.size_alloc]at k1 k2 k3);(try have k7:w.heap.size<y1.heap.size:=(by omega)))|(go_at_call 110;refine(HRE.out _ _ (by(with_reducible show Ext _ _;(with_reducible(repeat(first|exact Qb _|assumption|apply Qc|apply Qd|exact ext_plus _ _|(apply Qe;rotate_left;(simp<;>omega))|(apply Qf;rotate_left;exact ext_plus _ _)|(apply Qf;rotate_left;assumption))));done)) (hv1.ext (by(with_reducible show Ext _ _;(with_reducible(repeat(first|exact Qb _|assumption|apply Qc|apply Qd|exact ext_plus _ _|(apply Qe;rotate_left;(simp<;>omega))|(apply Qf;rotate_left;exact ext_plus _ _)|(apply Qf;rotate_left;assumption))));done)))).mono ?_;rintro e y2 ⟨rfl,hy2⟩;have k4:=hy2.cells.1;have k5:=hy2.cells.2;have k6:=hy2.size;(try simp only[size_drew,World.size_alloc]at k4 k5 k6)))
  all_goals(dsimp only[Exit.then];go_wp2;go_meet)
  all_goals refine⟨rfl,?_⟩
  all_goals first
   | (with_reducible refine Ext.two ?_ ?_ _ _<;>first|omega|(with_reducible show Ext _ _;(with_reducible(repeat(first|exact Qb _|assumption|apply Qc|apply Qd|exact ext_plus _ _|(apply Qe;rotate_left;(simp<;>omega))|(apply Qf;rotate_left;exact ext_plus _ _)|(apply Qf;rotate_left;assumption))));done))
   | (with_reducible show Ext _ _;(with_reducible(repeat(first|exact Qb _|assumption|apply Qc|apply Qd|exact ext_plus _ _|(apply Qe;rotate_left;(simp<;>omega))|(apply Qf;rotate_left;exact ext_plus _ _)|(apply Qf;rotate_left;assumption))));done)
 case rest =>
  obtain⟨rfl,hE⟩:=hcut
  go_wp2
  go_ret
  exact⟨ret_bool (by cases S<;>rfl),hE⟩
set_option maxRecDepth 100000 in
set_option maxHeartbeats 8000000 in
theorem least_quota (r:R.Reef) (plan:List Int) (k:Nat) (vp vl:Value) (w0 w:World) (h0:Ext w0 w) (hP:Places w0 vp r.places) (hL:Ints w0 vl plan) (O:R.OkR r) (OL:R.OkL r plan) (hk:k<r.places.length)
  (br ba bl:Nat) (hr:Blk w br (reefV r vp) 111) (ha:Blk w ba #[.int .i64 k] 3) (hl:Blk w bl #[vl] 30) :
  Calls Tryz.prog 107 #[.int .i64 0,.int .i64 1000000,.func (.func 108) #[] #[.pointer (some ⟨br,0,none⟩),.pointer (some ⟨ba,0,none⟩),.pointer (some ⟨bl,0,none⟩)]] w fun e w'=>e= .returned (.int .i64 (R.least (quotaB r plan k) 40 0 1000001))∧Ext w w':=by
 obtain⟨V,hV⟩:∃V,R.least (quotaB r plan k) 40 0 1000001=V:=⟨_,rfl⟩
 rw[hV]
 have HV:=Qa hV
 have HQ:=Qa (fun w' (hx:Ext w w') m (hm:0≤m)=>quota_any r plan k m vp vl w0 w' (h0.trans hx) hP hL O OL hk hm br ba bl (hr.ext hx) (ha.ext hx) (hl.ext hx))
 clear hV O OL
 go_enter Tryz.func107,Tryz.ntmps107
 go_wp2
 refine wp_scope_ret fun RR hR'=> ?_
 go_wp2
 go_step3
 go_wp2
 go_loopw [7,8,9] (fun lo hi _ wr=>∃(f:Nat) (low high:Int),lo= .int .i64 low∧hi= .int .i64 high∧0≤low∧low≤high∧high≤1000001∧high - low<2^f∧R.least (quotaB r plan k) f low high=V∧Ext w wr) (fun lo hi _ _=>((intOf hi) - (intOf lo)).toNat)
 case atStart=>exact⟨40,0,1000001,rfl,rfl,by omega,by omega,by omega,(by rw[show(2:Int)^40=1099511627776 by decide];omega),HV.out,Qb _⟩
 case round =>
  rename World=>wr
  obtain⟨f,low,high,rfl,rfl,hl0,hlh,hh,hf,hV,hE⟩:=hrel
  by_cases he:low=high
  ·subst he
   rw[R.least_end]at hV
   have HV2:=Qa hV
   clear hV
   go_wp2
   refine hR' _ _ ?_
   go_ret
   exact⟨ret_int HV2.out,hE⟩
  ·have hd:0<high - low:=by omega
   cases f with
   | zero=>simp at hf;omega
   | succ f =>
    have hb:=half_bd hd hf
    rw[R.least_step _ _ _ _ he]at hV
    have hd0:0≤high - low:=by omega
    obtain⟨D,hD⟩:∃D,(high - low)/2=D:=⟨_,rfl⟩
    rw[hD]at hb hV
    have hD2:0≤D∧D<high - low:=by omega
    have HV2:=Qa hV
    have HB:=Qa hb
    clear hV hb hf
    go_wp2_with fail
    refine(HQ.out _ hE (low+D) (by omega)).mono ?_
    rintro e w' ⟨rfl,hE'⟩
    have hV3:=HV2.out
    obtain⟨B,hB⟩:∃B,quotaB r plan k (low+D)=B:=⟨_,rfl⟩
    rw[hB]at hV3 ⊢
    have HB2:=HB.out
    cases B with
    | true =>
     have HV3:=Qa hV3
     clear hV3
     go_wp2
     go_roundw
     case rel=>exact⟨f,low,low+D,rfl,rfl,by omega,by omega,by omega,by omega,by simpa using HV3.out,hE.trans hE'⟩
     case measure=>simp[intOf];omega
    | false =>
     have HV3:=Qa hV3
     clear hV3
     go_wp2
     go_roundw
     case rel=>exact⟨f,low+D+1,high,rfl,rfl,by omega,by omega,by omega,by omega,by simpa using HV3.out,hE.trans hE'⟩
     case measure=>simp[intOf];omega
end Go.Proofs.YtgloajbgphcloaaGreat.Rf
namespace Go.Proofs.YtgloajbgphcloaaGreat.Rf
set_option linter.unusedVariables false
set_option linter.unusedSimpArgs false
open Go.RowKit
open Blk renaming new' → Qh
open Ext renaming alloc → Qc, drew → Qd, refl → Qb, setCell → Qe, trans → Qf
open Lib renaming hid → Qa
def quotaN (r:R.Reef) (plan:List Int) (place:Int):Int:=R.least (quotaB r plan place.toNat) 40 0 1000001
def quotaAsk (r:R.Reef) (plan:List Int) (place:Int):Bool:=rightB r plan&&R.within place 0 (r.places.length - 1)
def quotaOf (r:R.Reef) (plan:List Int) (place:Int):Int:=if quotaAsk r plan place then(if quotaN r plan place=0 then 0 else quotaN r plan place - 1)else 0
def quotaCode (r:R.Reef) (plan:List Int) (place:Int):Int:=if quotaAsk r plan place then(if quotaN r plan place=0 then 5 else 0)else 2
theorem R.least_bd (h:Int→Bool):∀(f:Nat) (low high:Int),low≤high→low≤R.least h f low high∧R.least h f low high≤high
 | 0,low,high,hl=>⟨Int.le_refl _,hl⟩
 | f+1,low,high,hl=>by
  by_cases he:low=high
  ·subst he;rw[R.least_end];exact⟨Int.le_refl _,Int.le_refl _⟩
  ·rw[R.least_step _ _ _ _ he]
   split
   ·have:=R.least_bd h f low (low+(high - low)/2) (by omega);omega
   ·have:=R.least_bd h f (low+(high - low)/2+1) high (by omega);omega
set_option maxRecDepth 100000 in
set_option maxHeartbeats 8000000 in
theorem quotaQ_any (r:R.Reef) (plan:List Int) (place:Int) (vp vl:Value) (w:World) (hP:Places w vp r.places) (hL:Ints w vl plan) (hn:r.places.length≤1000000) (hm:plan.length≤1000000) :
  Calls Tryz.prog 38 #[.agg (reefV r vp),vl,.int .i64 place] w fun x w'=>x= .returned (.tuple #[.int .i64 (quotaOf r plan place),.int .i64 (quotaCode r plan place)])∧Ext w w':=by
 have hP':=hP
 have hL':=hL
 obtain⟨a1,c1,rfl,_⟩:=hP'
 obtain⟨a2,c2,rfl,_⟩:=hL'
 have hri:=fun w' (hx:Ext w w')=>right_any r plan _ _ w' (hP.ext hx) (hL.ext hx) hn hm
 obtain⟨B,hB⟩:∃B,rightB r plan=B:=⟨_,rfl⟩
 have hin:=fun w'=>in_any place 0 ((r.places.length:Int) - 1) w'
 obtain⟨C,hC⟩:∃C,R.within place 0 ((r.places.length:Int) - 1)=C:=⟨_,rfl⟩
 simp only[hC]at hin
 have HIN:=Qa hin
 clear hin
 unfold quotaOf quotaCode quotaAsk
 simp only[hB]at hri
 rw[hB,hC]
 have HRI:=Qa hri
 clear hri
 obtain⟨w1,hw1⟩:∃w1,(w.alloc (.cells (reefV r (.slice a1 r.places.length c1)) 111))=w1:=⟨_,rfl⟩
 obtain⟨w2,hw2⟩:∃w2,(w1.alloc (.cells #[.slice a2 plan.length c2] 30))=w2:=⟨_,rfl⟩
 obtain⟨w3,hw3⟩:∃w3,(w2.alloc (.cells #[.int .i64 place] 3))=w3:=⟨_,rfl⟩
 obtain⟨w4,hw4⟩:∃w4,(w3.alloc (.cells (planV r (.slice a1 r.places.length c1) (.slice a2 plan.length c2)) 227))=w4:=⟨_,rfl⟩
 have e1:Ext w w1:=by rw[← hw1];(with_reducible(repeat(first|exact Qb _|assumption|apply Qc|apply Qd|exact ext_plus _ _|(apply Qe;rotate_left;(simp<;>omega))|(apply Qf;rotate_left;exact ext_plus _ _)|(apply Qf;rotate_left;assumption))))
 have e2:Ext w1 w2:=by rw[← hw2];(with_reducible(repeat(first|exact Qb _|assumption|apply Qc|apply Qd|exact ext_plus _ _|(apply Qe;rotate_left;(simp<;>omega))|(apply Qf;rotate_left;exact ext_plus _ _)|(apply Qf;rotate_left;assumption))))
 have e3:Ext w2 w3:=by rw[← hw3];(with_reducible(repeat(first|exact Qb _|assumption|apply Qc|apply Qd|exact ext_plus _ _|(apply Qe;rotate_left;(simp<;>omega))|(apply Qf;rotate_left;exact ext_plus _ _)|(apply Qf;rotate_left;assumption))))
 have e4:Ext w3 w4:=by rw[← hw4];(with_reducible(repeat(first|exact Qb _|assumption|apply Qc|apply Qd|exact ext_plus _ _|(apply Qe;rotate_left;(simp<;>omega))|(apply Qf;rotate_left;exact ext_plus _ _)|(apply Qf;rotate_left;assumption))))
 have z1:w1.heap.size=w.heap.size+1:=by rw[← hw1];simp
 have z2:w2.heap.size=w.heap.size+2:=by rw[← hw2];simp[z1]
 have z3:w3.heap.size=w.heap.size+3:=by rw[← hw3];simp[z2]
 have b1:Blk w1 w.heap.size (reefV r (.slice a1 r.places.length c1)) 111:=by rw[← hw1];exact Qh rfl _ _
 have b2:Blk w2 (w.heap.size+1) #[.slice a2 plan.length c2] 30:=by rw[← hw2];exact Qh z1.symm _ _
 have b3:Blk w3 (w.heap.size+2) #[.int .i64 place] 3:=by rw[← hw3];exact Qh z2.symm _ _
 have b4:Blk w4 (w.heap.size+3) (planV r (.slice a1 r.places.length c1) (.slice a2 plan.length c2)) 227:=by rw[← hw4];exact Qh z3.symm _ _
 have E4:Ext w w4:=((e1.trans e2).trans e3).trans e4
 have hbx:=fun(w':World) (hb:Ext w4 w')=>(⟨(b1.ext (((e2.trans e3).trans e4).trans hb)),(b2.ext ((e3.trans e4).trans hb)),(b3.ext (e4.trans hb)),(b4.ext hb),E4.trans hb⟩:Blk w' w.heap.size (reefV r (.slice a1 r.places.length c1)) 111∧Blk w' (w.heap.size+1) #[.slice a2 plan.length c2] 30∧Blk w' (w.heap.size+2) #[.int .i64 place] 3∧Blk w' (w.heap.size+3) (planV r (.slice a1 r.places.length c1) (.slice a2 plan.length c2)) 227∧Ext w w')
 have HW4:Hid ((((w.alloc (.cells (reefV r (.slice a1 r.places.length c1)) 111)).alloc (.cells #[.slice a2 plan.length c2] 30)).alloc (.cells #[.int .i64 place] 3)).alloc (.cells (planV r (.slice a1 r.places.length c1) (.slice a2 plan.length c2)) 227)=w4):=by
  show _=_
  rw[hw1,hw2,hw3,hw4]
 have HBX:=Qa hbx
 clear hbx hw1 hw2 hw3 hw4 e1 e2 e3 e4 z1 z2 z3 b1 b2 b3 b4
 have hpc:=plus_cell
 cases B with
 | false =>
  clear hB
  go_enter Tryz.func38,Tryz.ntmps38
  go_upto_region 2 with(fail)
  rw[HW4.out]
  obtain⟨d1,d2,d3,d4,d5⟩:=HBX.out _ (Qb _)
  have d4c:=d4.cell
  have d4l:=d4.lt
  go_wp2_with (first|(go_at_call 105;refine(HRI.out _ (by(with_reducible(repeat(first|exact Qb _|assumption|apply Qc|apply Qd|exact ext_plus _ _|(apply Qe;rotate_left;(simp<;>omega))|(apply Qf;rotate_left;exact ext_plus _ _)|(apply Qf;rotate_left;assumption)))))).mono ?_;rintro e w5 ⟨rfl,hb⟩))
  exact bodyPost_ret (v:= .tuple #[.int .i64 0,.int .i64 2]) (by simp[results,Tryz.results38,go_sem]) rfl ⟨rfl,by(with_reducible(repeat(first|exact Qb _|assumption|apply Qc|apply Qd|exact ext_plus _ _|(apply Qe;rotate_left;(simp<;>omega))|(apply Qf;rotate_left;exact ext_plus _ _)|(apply Qf;rotate_left;assumption))))⟩
 | true =>
  cases C with
  | false =>
   clear hB
   go_enter Tryz.func38,Tryz.ntmps38
   go_upto_region 2 with(fail)
   rw[HW4.out]
   obtain⟨d1,d2,d3,d4,d5⟩:=HBX.out _ (Qb _)
   have d4c:=d4.cell
   have d4l:=d4.lt
   have d1c:=d1.cell
   have d1l:=d1.lt
   have d3c:=d3.cell
   have d3l:=d3.lt
   go_wp2_with (first|(go_at_call 105;refine(HRI.out _ (by(with_reducible(repeat(first|exact Qb _|assumption|apply Qc|apply Qd|exact ext_plus _ _|(apply Qe;rotate_left;(simp<;>omega))|(apply Qf;rotate_left;exact ext_plus _ _)|(apply Qf;rotate_left;assumption)))))).mono ?_;rintro e w5 ⟨rfl,hb⟩;have hcc:=hb.cells.1;have hcs:=hb.size)|(go_at_call 106;refine(HIN.out _).mono ?_;rintro e w6 ⟨rfl,rfl⟩))
   exact bodyPost_ret (v:= .tuple #[.int .i64 0,.int .i64 2]) (by simp[results,Tryz.results38,go_sem]) rfl ⟨rfl,by(with_reducible(repeat(first|exact Qb _|assumption|apply Qc|apply Qd|exact ext_plus _ _|(apply Qe;rotate_left;(simp<;>omega))|(apply Qf;rotate_left;exact ext_plus _ _)|(apply Qf;rotate_left;assumption))))⟩
  | true =>
   have hR:=hB
   unfold rightB at hR
   rw[Bool.and_eq_true]at hR
   obtain⟨k,rfl⟩:∃k:Nat,place=k:=⟨place.toNat,by unfold R.within at hC;simp at hC;omega⟩
   have hk:k<r.places.length:=by unfold R.within at hC;simp at hC;omega
   have hle:=fun w' (hx:Ext w4 w')=>least_quota r plan k _ _ w w' (E4.trans hx) hP hL (R.okR_of hR.1) (R.okL_iff.1 hR.2) hk w.heap.size (w.heap.size+2) (w.heap.size+1) (HBX.out w' hx).1 (HBX.out w' hx).2.2.1 (HBX.out w' hx).2.1
   have hNe:quotaN r plan k=R.least (quotaB r plan k) 40 0 1000001:=by simp[quotaN]
   have hNb:=R.least_bd (quotaB r plan k) 40 0 1000001 (by omega)
   obtain⟨N,hN⟩:∃N,R.least (quotaB r plan k) 40 0 1000001=N:=⟨_,rfl⟩
   simp only[hN]at hle
   rw[hN]at hNe hNb
   rw[hNe]
   have HLE:=Qa hle
   clear hB hR hle hNe hN hC
   by_cases hz:N=0
   ·subst hz
    go_enter Tryz.func38,Tryz.ntmps38
    go_upto_region 2 with(fail)
    rw[HW4.out]
    obtain⟨d1,d2,d3,d4,d5⟩:=HBX.out _ (Qb _)
    have d4c:=d4.cell
    have d4l:=d4.lt
    have d1c:=d1.cell
    have d1l:=d1.lt
    have d3c:=d3.cell
    have d3l:=d3.lt
    go_wp2_with (first|(go_at_call 105;refine(HRI.out _ (by(with_reducible(repeat(first|exact Qb _|assumption|apply Qc|apply Qd|exact ext_plus _ _|(apply Qe;rotate_left;(simp<;>omega))|(apply Qf;rotate_left;exact ext_plus _ _)|(apply Qf;rotate_left;assumption)))))).mono ?_;rintro e w5 ⟨rfl,hb⟩;have hcc:=hb.cells.1;have hcs:=hb.size)|(go_at_call 106;refine(HIN.out _).mono ?_;rintro e w6 ⟨rfl,rfl⟩)|(go_at_call 107;refine(HLE.out _ (by(with_reducible(repeat(first|exact Qb _|assumption|apply Qc|apply Qd|exact ext_plus _ _|(apply Qe;rotate_left;(simp<;>omega))|(apply Qf;rotate_left;exact ext_plus _ _)|(apply Qf;rotate_left;assumption)))))).mono ?_;rintro e w7 ⟨rfl,hb7⟩))
    exact bodyPost_ret (v:= .tuple #[.int .i64 0,.int .i64 5]) (by simp[results,Tryz.results38,go_sem]) rfl ⟨rfl,by(with_reducible(repeat(first|exact Qb _|assumption|apply Qc|apply Qd|exact ext_plus _ _|(apply Qe;rotate_left;(simp<;>omega))|(apply Qf;rotate_left;exact ext_plus _ _)|(apply Qf;rotate_left;assumption))))⟩
   ·go_enter Tryz.func38,Tryz.ntmps38
    go_upto_region 2 with(fail)
    rw[HW4.out]
    obtain⟨d1,d2,d3,d4,d5⟩:=HBX.out _ (Qb _)
    have d4c:=d4.cell
    have d4l:=d4.lt
    have d1c:=d1.cell
    have d1l:=d1.lt
    have d3c:=d3.cell
    have d3l:=d3.lt
    go_wp2_with (first|(go_at_call 105;refine(HRI.out _ (by(with_reducible(repeat(first|exact Qb _|assumption|apply Qc|apply Qd|exact ext_plus _ _|(apply Qe;rotate_left;(simp<;>omega))|(apply Qf;rotate_left;exact ext_plus _ _)|(apply Qf;rotate_left;assumption)))))).mono ?_;rintro e w5 ⟨rfl,hb⟩;have hcc:=hb.cells.1;have hcs:=hb.size)|(go_at_call 106;refine(HIN.out _).mono ?_;rintro e w6 ⟨rfl,rfl⟩)|(go_at_call 107;refine(HLE.out _ (by(with_reducible(repeat(first|exact Qb _|assumption|apply Qc|apply Qd|exact ext_plus _ _|(apply Qe;rotate_left;(simp<;>omega))|(apply Qf;rotate_left;exact ext_plus _ _)|(apply Qf;rotate_left;assumption)))))).mono ?_;rintro e w7 ⟨rfl,hb7⟩))
    exact bodyPost_ret (v:= .tuple #[.int .i64 (N - 1),.int .i64 0]) (by simp[results,Tryz.results38,go_sem]) rfl ⟨by simp[hz],by(with_reducible(repeat(first|exact Qb _|assumption|apply Qc|apply Qd|exact ext_plus _ _|(apply Qe;rotate_left;(simp<;>omega))|(apply Qf;rotate_left;exact ext_plus _ _)|(apply Qf;rotate_left;assumption))))⟩
end Go.Proofs.YtgloajbgphcloaaGreat.Rf
