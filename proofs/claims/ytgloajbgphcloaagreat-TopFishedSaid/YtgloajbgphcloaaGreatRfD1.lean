/- The document's small functions. Which reefs and plans are as defined, as the document asks it. The document's sets and plans. -/
import Derived.Test.YtgloajbgphcloaaGreatCo
import Derived.Test.YtgloajbgphcloaaGreatRg
import Derived.Test.YtgloajbgphcloaaGreatRfC1
import Derived.Test.YtgloajbgphcloaaGreatRfPl
import Derived.Deep.RegionHeld3
import Derived.Deep.CutRange
import Derived.WalkMore
namespace Go.Proofs.YtgloajbgphcloaaGreat.Rf
set_option linter.unusedVariables false
set_option linter.unusedSimpArgs false
open Go.RowKit
open Bool renaming eq_iff_iff → Qa
open Ext renaming refl → Qb, setCell → Qc, trans → Qd
theorem din_any (x lo hi:Int) (w:World) :
  Calls Tryz.prog 101 #[.int .i64 x,.int .i64 lo,.int .i64 hi] w fun e w'=>e= .returned (.bool (R.within x lo hi))∧w=w':=by
 go_enter Tryz.func101,Tryz.ntmps101
 go_wp2
 all_goals(go_ret;exact⟨ret_bool (by rw[Qa];simp[R.within];omega),rfl⟩)
theorem dspan_any (a b m:Int) (w:World) :
  Calls Tryz.prog 102 #[.agg #[.int .i64 a,.int .i64 b],.int .i64 m] w fun e w'=>e= .returned (.bool (R.spanB a b m))∧Ext w w':=by
 go_enter Tryz.func102,Tryz.ntmps102
 go_wp2
 all_goals(go_ret;exact⟨ret_bool (by rw[Qa];simp[R.spanB];omega),(Qb _).alloc _⟩)
theorem dinside_any (n a b:Int) (w:World) :
  Calls Tryz.prog 116 #[.int .i64 n,.agg #[.int .i64 a,.int .i64 b]] w fun e w'=>e= .returned (.bool (R.within n a b))∧Ext w w':=by
 go_enter Tryz.func116,Tryz.ntmps116
 go_wp2_with (first|(go_at_call 101;refine(din_any _ _ _ _).mono ?_;rintro e w' ⟨rfl,rfl⟩))
 all_goals(go_ret;exact⟨rfl,(Qb _).alloc _⟩)
theorem dmost_any (r:R.Reef) (c:Int) (vp:Value) (hvp:∃a n k,vp= .slice a n k) (w:World) (h0:0≤c) (h1:c≤1000000000) (h2:0≤r.miss) (h3:r.miss≤2000) :
  Calls Tryz.prog 115 #[.agg (reefV r vp),.int .i64 c] w fun e w'=>e= .returned (.int .i64 (R.most r c))∧Ext w w':=by
 obtain⟨a,n,k,rfl⟩:=hvp
 have hm:0≤c*r.miss∧c*r.miss≤2000000000000:=⟨Int.mul_nonneg h0 h2,by have:=Int.mul_le_mul h1 h3 h2 (by omega);omega⟩
 have hw:IntKind.wrap .i64 (c*r.miss)=c*r.miss:=IntWalk.i64_in _ (by omega)
 obtain⟨d,hd⟩:∃d,R.most r c=d:=⟨_,rfl⟩
 have hd':c+c*r.miss/1000=d:=hd
 rw[hd]
 obtain⟨M,hM⟩:∃M,c*r.miss=M:=⟨_,rfl⟩
 rw[hM]at hm hw hd'
 go_enter Tryz.func115,Tryz.ntmps115
 go_wp2
 go_ret
 exact⟨ret_int (by simp[hd']),by(with_reducible(repeat(first|exact Qb _|assumption|apply Ext.alloc|apply Ext.drew|exact ext_plus _ _|(apply Qc;rotate_left;(simp<;>omega))|(apply Qd;rotate_left;exact ext_plus _ _)|(apply Qd;rotate_left;assumption))))⟩
theorem dtakes_any (p:R.Place) (b:Bool) (w:World) :
  Calls Tryz.prog 117 #[.agg (placeV p),.bool b] w fun e w'=>e= .returned (.agg #[.int .i64 (R.take p b).1,.int .i64 (R.take p b).2])∧Ext w w':=by
 cases b
 ·go_enter Tryz.func117,Tryz.ntmps117
  go_wp2
  exact bodyPost_ret (v:= .agg #[.int .i64 p.ol,.int .i64 p.oh]) (by simp[results,Tryz.results117,go_sem]) rfl ⟨rfl,by(with_reducible(repeat(first|exact Qb _|assumption|apply Ext.alloc|apply Ext.drew|exact ext_plus _ _|(apply Qc;rotate_left;(simp<;>omega))|(apply Qd;rotate_left;exact ext_plus _ _)|(apply Qd;rotate_left;assumption))))⟩
 ·go_enter Tryz.func117,Tryz.ntmps117
  go_wp2
  exact bodyPost_ret (v:= .agg #[.int .i64 p.sl,.int .i64 p.sh]) (by simp[results,Tryz.results117,go_sem]) rfl ⟨rfl,by(with_reducible(repeat(first|exact Qb _|assumption|apply Ext.alloc|apply Ext.drew|exact ext_plus _ _|(apply Qc;rotate_left;(simp<;>omega))|(apply Qd;rotate_left;exact ext_plus _ _)|(apply Qd;rotate_left;assumption))))⟩
theorem half_pow (x:Int) (k:Nat):x/2^k/2=x/2^(k+1):=by
 rw[Int.pow_succ,Int.ediv_ediv_of_nonneg (Int.le_of_lt (Int.pow_pos (by decide)))]
theorem dhas_any (x:Int) (k:Nat) (w:World) (h0:0≤x) (h1:x≤1000000) (hk:k≤1000) :
  Calls Tryz.prog 118 #[.int .i64 x,.int .i64 k] w fun e w'=>e= .returned (.bool (R.has x k))∧w=w':=by
 obtain⟨B,hB⟩:∃B,R.has x k=B:=⟨_,rfl⟩
 rw[hB]
 have HB:=Lib.hid hB
 clear hB
 go_enter Tryz.func118,Tryz.ntmps118
 go_wp2
 go_loop [0,5] (fun s i=>∃j:Nat,j≤k∧i= .int .i64 j∧s= .int .i64 (x/2^j)) (fun _ i=>k - (intOf i).toNat)
 case atStart=>exact⟨0,Nat.zero_le _,rfl,by simp⟩
 case round =>
  obtain⟨j,hj,rfl,rfl⟩:=hrel
  have hd:0≤x/2^j:=Int.ediv_nonneg h0 (Int.le_of_lt (Int.pow_pos (by decide)))
  have hd2:x/2^j≤x:=Int.ediv_le_self _ h0
  have hp:=half_pow x j
  by_cases hlt:j<k
  ·obtain⟨D,hD⟩:∃D,x/2^j=D:=⟨_,rfl⟩
   rw[hD]at hd hd2 hp ⊢
   have HP:=Lib.hid hp
   clear hp hD
   go_wp2
   go_round
   case rel=>exact⟨j+1,by omega,by go_num,by rw[HP.out]⟩
   case measure=>simp[intOf];omega
  ·obtain rfl:j=k:=by omega
   have hh:B=decide (x/2^j%2=1):=HB.out.symm
   obtain⟨D,hD⟩:∃D,x/2^j=D:=⟨_,rfl⟩
   rw[hD]at hd hd2 hh ⊢
   have HH:=Lib.hid hh
   clear hp hD hh
   go_wp2
   go_ret
   exact⟨ret_bool (by rw[HH.out];first|rfl|(rw[Qa];simp<;>omega)),rfl⟩
end Go.Proofs.YtgloajbgphcloaaGreat.Rf
namespace Go.Proofs.YtgloajbgphcloaaGreat.Rf
set_option linter.unusedVariables false
set_option linter.unusedSimpArgs false
open Go.RowKit
open Ext renaming alloc → Qf, drew → Qg, refl → Qb, setCell → Qc, trans → Qd
open Lib renaming hid → Qe
set_option maxRecDepth 100000 in
set_option maxHeartbeats 16000000 in
theorem dreef_any (r:R.Reef) (vp:Value) (w:World) (hP:Places w vp r.places) (hn:r.places.length≤1000000) :
  Calls Tryz.prog 35 #[.agg (reefV r vp)] w fun e w'=>e= .returned (.bool (R.reefB r))∧Ext w w':=by
 obtain⟨a,cap,rfl,hx⟩:=hP
 have hx':=Qe hx
 clear hx
 go_enter Tryz.func35,Tryz.ntmps35
 go_wp2
 have hb0:Blk (w.alloc (.cells #[.slice a r.places.length cap,.int .i64 r.miss,.int .i64 r.seasons] 111)) w.heap.size #[.slice a r.places.length cap,.int .i64 r.miss,.int .i64 r.seasons] 111:=Blk.new' rfl _ _
 have hE0:Ext w (w.alloc (.cells #[.slice a r.places.length cap,.int .i64 r.miss,.int .i64 r.seasons] 111)):=(Qb _).alloc _
 obtain⟨w1,hw1⟩:∃w1,w.alloc (.cells #[.slice a r.places.length cap,.int .i64 r.miss,.int .i64 r.seasons] 111)=w1:=⟨_,rfl⟩
 rw[hw1]at hb0 hE0 ⊢
 clear hw1
 obtain⟨br,hbr0⟩:∃br,w.heap.size=br:=⟨_,rfl⟩
 rw[hbr0]at hb0 ⊢
 clear hbr0
 go_loopw [3,4] (fun i _ wr=>∃k:Nat,k≤r.places.length∧i= .int .i64 k∧R.goodTo r.places k=true∧Ext w1 wr) (fun i _ _=>r.places.length - (intOf i).toNat)
 case atStart=>exact⟨0,Nat.zero_le _,rfl,rfl,Qb _⟩
 case round =>
  rename World=>wr
  obtain⟨k,hk,rfl,hgood,hE⟩:=hrel
  have HG:=Qe hgood
  clear hgood
  have hbr:=hb0.ext hE
  have hbc:=hbr.cell
  have hbl:=hbr.lt
  by_cases hlt:k<r.places.length
  ·obtain⟨b,off,rfl,hb,hAt⟩:=hx'.out k hlt
   have hAt2:=ate_stays _ _ _ _ _ _ (hE0.trans hE) hb hAt
   obtain⟨h0,h1,h2,h3,h4,h5,h6,h7,h8,h9,h10,h11⟩:=place_cells hAt2
   have hpat:R.pat r.places k=r.places[k]:=by simp[R.pat,hlt]
   have e:R.goodTo r.places (k+1)=R.placeB r.places[k] k r.places.length:=by rw[R.goodTo_succ,HG.out,hpat];rfl
   have HE:=Qe e
   clear hAt hAt2 hpat e
   obtain⟨p,hp⟩:∃p,r.places[k]=p:=⟨_,rfl⟩
   rw[hp]at h0 h1 h2 h3 h4 h5 h6 h7 h8 h9 h10 h11 HE
   clear hp
   have hbad:R.placeB p k r.places.length=false→R.reefB r=false:=fun h=>by
    unfold R.reefB
    have:R.goodTo r.places r.places.length=false:=by
     rw[Bool.eq_false_iff]
     intro hh
     have h2:=HE.out
     rw[h]at h2
     unfold R.goodTo at h2 hh
     rw[List.all_eq_true]at hh
     rw[Bool.eq_false_iff]at h2
     exact h2 (List.all_eq_true.2 fun i hi=>hh i (by simp at hi ⊢;omega))
    rw[this];rfl
   have HBAD:=Qe hbad
   clear hbad
   go_upto_region 5 with(fail)
   obtain⟨wp,hwp⟩:∃wp,wr.alloc (.cells #[.int .i64 p.count,.int .i64 p.room,.int .i64 p.gl,.int .i64 p.gh,.int .i64 p.drift,.int .i64 p.into,.int .i64 p.ol,.int .i64 p.oh,.int .i64 p.sl,.int .i64 p.sh,.int .i64 p.goal,.int .i64 p.worth] 126)=wp:=⟨_,rfl⟩
   have hpb:Blk wp wr.heap.size #[.int .i64 p.count,.int .i64 p.room,.int .i64 p.gl,.int .i64 p.gh,.int .i64 p.drift,.int .i64 p.into,.int .i64 p.ol,.int .i64 p.oh,.int .i64 p.sl,.int .i64 p.sh,.int .i64 p.goal,.int .i64 p.worth] 126:=by rw[← hwp];exact Blk.new' rfl _ _
   have hEp:Ext wr wp:=by rw[← hwp];(with_reducible(repeat(first|exact Qb _|assumption|apply Qf|apply Qg|exact ext_plus _ _|(apply Qc;rotate_left;(simp<;>omega))|(apply Qd;rotate_left;exact ext_plus _ _)|(apply Qd;rotate_left;assumption))))
   have hbrp:=hbr.ext hEp
   rw[hwp]
   clear hwp hbr
   obtain⟨bp,hbp⟩:∃bp,wr.heap.size=bp:=⟨_,rfl⟩
   rw[hbp]at hpb ⊢
   have hHP:=fun y (hy:Ext wp y)=>(⟨(hpb.ext hy).cell,(hbrp.ext hy).cell⟩:(∀ o,y.cell? ⟨bp,o,none⟩=_)∧(∀ o,y.cell? ⟨br,o,none⟩=_))
   have HHP:=Qe hHP
   have HEP:=Qe hEp
   have hE1p:=hE.trans hEp
   have hEwp:=hE0.trans hE1p
   obtain⟨kp,kr⟩:=HHP.out wp (Qb _)
   obtain⟨n,hnn⟩:∃n,r.places.length=n:=⟨_,rfl⟩
   rw[hnn]at kr hlt hn HE HBAD HHP
   have HNN:=Qe hnn
   clear hHP hEp hbp hpb hbrp hbc hbl hb0 h0 h1 h2 h3 h4 h5 h6 h7 h8 h9 h10 h11 hnn
   simp only[List.append_eq,List.cons_append,List.nil_append]
   go_wp2_with (first|(go_at_call 101;refine(din_any _ _ _ _).mono ?_;rintro e y ⟨rfl,rfl⟩)|(go_at_call 102;refine(dspan_any _ _ _ _).mono ?_;rintro e y ⟨rfl,hy⟩;clear kp kr;obtain⟨kp,kr⟩:=HHP.out y (by(with_reducible(repeat(first|exact Qb _|assumption|apply Qf|apply Qg|exact ext_plus _ _|(apply Qc;rotate_left;(simp<;>omega))|(apply Qd;rotate_left;exact ext_plus _ _)|(apply Qd;rotate_left;assumption)))))))
   all_goals first
    | (refine⟨⟨k+1,by have:=HNN.out;omega,by go_num,?_,by(with_reducible(repeat(first|exact Qb _|assumption|apply Qf|apply Qg|exact ext_plus _ _|(apply Qc;rotate_left;(simp<;>omega))|(apply Qd;rotate_left;exact ext_plus _ _)|(apply Qd;rotate_left;assumption))))⟩,by have:=HNN.out;simp[intOf];omega⟩;rw[HE.out];first|(simp[R.placeB, *];done)|(simp[R.placeB, *];omega)|(simp_all[R.placeB];done)|(simp_all[R.placeB];omega)|(rename_i hd;trace_state;sorry))
    | (go_ret;refine⟨ret_bool (HBAD.out ?_).symm,by(with_reducible(repeat(first|exact Qb _|assumption|apply Qf|apply Qg|exact ext_plus _ _|(apply Qc;rotate_left;(simp<;>omega))|(apply Qd;rotate_left;exact ext_plus _ _)|(apply Qd;rotate_left;assumption))))⟩;first|(simp[R.placeB, *];done)|(simp[R.placeB, *];(try intros);omega)|(simp_all[R.placeB];done)|(simp_all[R.placeB];omega)|(rename_i hd;rcases hd with((hd|hd)|hd)|hd<;>(try simp at hd)<;>first|(simp[R.placeB,hd];done)|(simp[R.placeB];intros;omega)))
  ·have e:k=r.places.length:=by omega
   subst e
   go_wp2_with (first|(go_at_call 101;refine(din_any _ _ _ _).mono ?_;rintro e w' ⟨rfl,rfl⟩))
   all_goals(go_ret;refine⟨ret_bool ?_,by(with_reducible(repeat(first|exact Qb _|assumption|apply Qf|apply Qg|exact ext_plus _ _|(apply Qc;rotate_left;(simp<;>omega))|(apply Qd;rotate_left;exact ext_plus _ _)|(apply Qd;rotate_left;assumption))))⟩;unfold R.reefB;rw[HG.out];simp[*])
end Go.Proofs.YtgloajbgphcloaaGreat.Rf
namespace Go.Proofs.YtgloajbgphcloaaGreat.Rf
set_option linter.unusedVariables false
set_option linter.unusedSimpArgs false
open Go.RowKit
open Ext renaming alloc → Qf, drew → Qg, refl → Qb, setCell → Qc, trans → Qd
open Lib renaming hid → Qe
open List renaming drop_succ_cons → Qi, take_succ_cons → Qh
theorem din_ext (x lo hi:Int) (w:World) :
  Calls Tryz.prog 101 #[.int .i64 x,.int .i64 lo,.int .i64 hi] w fun e w'=>e= .returned (.bool (R.within x lo hi))∧Ext w w' :=
 (din_any x lo hi w).mono fun _ _ ⟨h1,h2⟩=>⟨h1,h2▸Qb _⟩
theorem dsets_any (r:R.Reef) (vp:Value) (w:World) (hP:Places w vp r.places) (hn:r.places.length≤8) :
  Calls Tryz.prog 103 #[.agg (reefV r vp)] w fun e w'=>e= .returned (.int .i64 (R.sets r))∧Ext w w':=by
 obtain⟨a1,c1,rfl,_⟩:=hP
 obtain⟨n,hnn⟩:∃n,r.places.length=n:=⟨_,rfl⟩
 have hs:R.sets r=2^n:=by unfold R.sets;rw[hnn]
 rw[hs]
 have hrv:reefV r (.slice a1 r.places.length c1)=#[.slice a1 n c1,.int .i64 r.miss,.int .i64 r.seasons]:=by unfold reefV;rw[hnn]
 rw[hnn]at hn
 rw[hrv]
 clear hs hrv hnn
 go_enter Tryz.func103,Tryz.ntmps103
 go_wp2
 obtain⟨w1,hw1⟩:∃w1,w.alloc (.cells #[.slice a1 n c1,.int .i64 r.miss,.int .i64 r.seasons] 111)=w1:=⟨_,rfl⟩
 have hb:Blk w1 w.heap.size #[.slice a1 n c1,.int .i64 r.miss,.int .i64 r.seasons] 111:=by rw[← hw1];exact Blk.new' rfl _ _
 have hE:Ext w w1:=by rw[← hw1];(with_reducible(repeat(first|exact Qb _|assumption|apply Qf|apply Qg|exact ext_plus _ _|(apply Qc;rotate_left;(simp<;>omega))|(apply Qd;rotate_left;exact ext_plus _ _)|(apply Qd;rotate_left;assumption))))
 rw[hw1]
 clear hw1
 have hc:=hb.cell
 have hl:=hb.lt
 go_loop [3,4] (fun v i=>∃k:Nat,k≤n∧i= .int .i64 k∧v= .int .i64 (2^k)) (fun _ i=>n - (intOf i).toNat)
 case atStart=>exact⟨0,Nat.zero_le _,rfl,rfl⟩
 case round =>
  obtain⟨k,hk,rfl,rfl⟩:=hrel
  have hp:=pow_bd (n:=k) (by omega)
  have hps:(2:Int)^(k+1)=2*2^k:=by rw[Int.pow_succ,Int.mul_comm]
  obtain⟨X,hX⟩:∃X,(2:Int)^k=X:=⟨_,rfl⟩
  rw[hX]at hp hps ⊢
  have HPS:=Qe hps
  have HX:=Qe hX
  clear hps hX
  by_cases hlt:k<n
  ·go_wp2
   go_round
   case rel=>exact⟨k+1,by omega,by go_num,by rw[HPS.out]⟩
   case measure=>simp[intOf];omega
  ·obtain rfl:n=k:=by omega
   go_wp2
   go_ret
   exact⟨ret_int HX.out.symm,hE⟩
set_option maxRecDepth 100000 in
set_option maxHeartbeats 4000000 in
theorem dplan_any (r:R.Reef) (l:List Int) (vp vl:Value) (w:World) (hP:Places w vp r.places) (hL:Ints w vl l) (hn:r.places.length≤8) (hl:l.length≤1000000) :
  Calls Tryz.prog 36 #[.agg (reefV r vp),vl] w fun e w'=>e= .returned (.bool (R.planB r l))∧Ext w w':=by
 have hP':=hP
 obtain⟨a1,c1,rfl,_⟩:=hP'
 obtain⟨a2,c2,rfl,hx2⟩:=hL
 have HX2:=Qe hx2
 have hst:=fun w' (hx:Ext w w')=>dsets_any r _ w' (hP.ext hx) hn
 have hS1:1≤R.sets r∧R.sets r≤256:=pow_bd hn
 obtain⟨B,hB⟩:∃B,R.planB r l=B:=⟨_,rfl⟩
 have hB2:B=(l.all (fun x=>R.within x 0 (R.sets r - 1))&&decide ((l.length:Int)=r.seasons)):=hB.symm
 rw[hB]
 obtain⟨S,hS⟩:∃S,R.sets r=S:=⟨_,rfl⟩
 simp only[hS]at hst
 rw[hS]at hS1 hB2
 have HST:=Qe hst
 have HB:=Qe hB2
 have hwS:IntKind.i64.wrap (S - 1)=S - 1:=IntWalk.i64_in _ (by omega)
 clear hx2 hst hB hB2 hS
 have hpc:=plus_cell
 go_enter Tryz.func36,Tryz.ntmps36
 go_wp2
 obtain⟨w1,hw1⟩:∃w1,w.alloc (.cells (reefV r (.slice a1 r.places.length c1)) 111)=w1:=⟨_,rfl⟩
 have hb:Blk w1 w.heap.size (reefV r (.slice a1 r.places.length c1)) 111:=by rw[← hw1];exact Blk.new' rfl _ _
 have hE:Ext w w1:=by rw[← hw1];(with_reducible(repeat(first|exact Qb _|assumption|apply Qf|apply Qg|exact ext_plus _ _|(apply Qc;rotate_left;(simp<;>omega))|(apply Qd;rotate_left;exact ext_plus _ _)|(apply Qd;rotate_left;assumption))))
 rw[hw1]
 clear hw1
 go_loopw [5] (fun i wr=>∃k:Nat,k≤l.length∧i= .int .i64 k∧(l.take k).all (fun x=>R.within x 0 (S - 1))=true∧Ext w1 wr) (fun i _=>l.length - (intOf i).toNat)
 case atStart=>exact⟨0,Nat.zero_le _,rfl,rfl,Qb _⟩
 case round =>
  rename World=>wr
  obtain⟨k,hk,rfl,hall,hEr⟩:=hrel
  have HALL:=Qe hall
  clear hall
  have hbr:=hb.ext hEr
  have e0:=hbr.cell
  have e1:=hbr.lt
  have hEw:=hE.trans hEr
  by_cases hlt:k<l.length
  ·obtain⟨b,off,rfl,hbl,h0⟩:=HX2.out k hlt
   have h0':=(hEw.cells.1 _ _ hbl).trans h0
   have hblr:b<wr.heap.size:=Nat.lt_of_lt_of_le hbl hEw.size
   have hin:=fun w'=>din_ext l[k] 0 (S - 1) w'
   obtain⟨G,hG⟩:∃G,R.within l[k] 0 (S - 1)=G:=⟨_,rfl⟩
   simp only[hG]at hin
   have HIN:=Qe hin
   have HG:=Qe hG
   clear h0 hin hG
   generalize hy:l[k]=y at h0' HIN
   have HY:=Qe hy
   clear hy
   cases G with
   | true =>
    go_wp2
    refine wp_region_ext 9 (fun _ _ d _ _ h=>by cases d<;>exact h) (by kernel_rfl) (by kernel_rfl) (by kernel_rfl) (by kernel_rfl) ?_
    simp only[Qh,List.take_zero,Qi,List.drop_zero]
    repeat(any_goals(first|quiet_step(first|(go_at_call 103;exact ext_quiet (HST.out _ (by(with_reducible(repeat(first|exact Qb _|assumption|apply Qf|apply Qg|exact ext_plus _ _|(apply Qc;rotate_left;(simp<;>omega))|(apply Qd;rotate_left;exact ext_plus _ _)|(apply Qd;rotate_left;assumption)))))))|(go_at_call 101;exact ext_quiet (HIN.out _)))))
    all_goals(refine wpQuiet_nil ?_;intro w3 hE3)
    go_wp2
    go_roundw
    case rel=>exact⟨k+1,by omega,by go_num,by rw[List.take_succ_eq_append_getElem hlt,List.all_append,HALL.out];simp[HG.out],hEr.trans hE3⟩
    case measure=>simp[intOf];omega
   | false =>
    go_wp2
    refine wp_region_ext 9 (fun _ _ d _ _ h=>by cases d<;>exact h) (by kernel_rfl) (by kernel_rfl) (by kernel_rfl) (by kernel_rfl) ?_
    simp only[Qh,List.take_zero,Qi,List.drop_zero]
    repeat(any_goals(first|quiet_step(first|(go_at_call 103;exact ext_quiet (HST.out _ (by(with_reducible(repeat(first|exact Qb _|assumption|apply Qf|apply Qg|exact ext_plus _ _|(apply Qc;rotate_left;(simp<;>omega))|(apply Qd;rotate_left;exact ext_plus _ _)|(apply Qd;rotate_left;assumption)))))))|(go_at_call 101;exact ext_quiet (HIN.out _)))))
    all_goals(refine wpQuiet_nil ?_;intro w3 hE3)
    go_wp2
    go_ret
    refine⟨ret_bool ?_,hEw.trans hE3⟩
    rw[HB.out,eq_comm,Bool.and_eq_false_imp]
    intro h
    rw[List.all_eq_true]at h
    have:=h _ (List.getElem_mem hlt)
    rw[HG.out]at this;cases this
  ·obtain rfl:k=l.length:=by omega
   have ha:=HALL.out
   rw[List.take_length]at ha
   have hb2:=HB.out
   rw[ha,Bool.true_and]at hb2
   have HB2:=Qe hb2
   clear ha hb2
   go_wp2
   go_ret
   exact⟨ret_bool (by rw[HB2.out];rfl),by(with_reducible(repeat(first|exact Qb _|assumption|apply Qf|apply Qg|exact ext_plus _ _|(apply Qc;rotate_left;(simp<;>omega))|(apply Qd;rotate_left;exact ext_plus _ _)|(apply Qd;rotate_left;assumption))))⟩
end Go.Proofs.YtgloajbgphcloaaGreat.Rf
