/- The fleet's document: which seas, bids and sales are as defined, and what is sold. -/
import Derived.Test.YtgloajbgphcloaaGreatFdM
import Derived.Test.YtgloajbgphcloaaGreatRfD4
import Derived.Deep.RegionHeld3
import Derived.Deep.CutRange
import Derived.WalkMore
namespace Go.Proofs.YtgloajbgphcloaaGreat.Fl
set_option linter.unusedVariables false
set_option linter.unusedSimpArgs false
open Go.RowKit
open Blk renaming new' → Qe
open Bool renaming eq_iff_iff → Qa
open Ext renaming alloc → Qf, drew → Qg, refl → Qb, setCell → Qh, trans → Qi
open Lib renaming hid → Qd
open List renaming all_eq_true → Qp, drop_succ_cons → Qm, drop_zero → Qn, getElem_mem → Qq, take_length → Qr, take_succ_cons → Qk, take_succ_eq_append_getElem → Qo, take_zero → Ql
open Nat renaming lt_of_lt_of_le → Qj, zero_le → Qc
theorem fin_any (x lo hi:Int) (w:World) :
  Calls Tryz.prog 89 #[.int .i64 x,.int .i64 lo,.int .i64 hi] w fun e w'=>e= .returned (.bool (within x lo hi))∧w=w':=by
 go_enter Tryz.func89,Tryz.ntmps89
 go_wp2
 all_goals(go_ret;exact⟨ret_bool (by rw[Qa];simp[within];omega),rfl⟩)
theorem fin_ext (x lo hi:Int) (w:World) :
  Calls Tryz.prog 89 #[.int .i64 x,.int .i64 lo,.int .i64 hi] w fun e w'=>e= .returned (.bool (within x lo hi))∧Ext w w' :=
 (fin_any x lo hi w).mono fun _ _ ⟨h1,h2⟩=>⟨h1,h2▸Qb _⟩
theorem pow_bd62 {n:Nat} (hn:n≤60):1≤(2:Int)^n∧(2:Int)^n≤1152921504606846976:=by
 have h1:2^n≤2^60:=Nat.pow_le_pow_right (by decide) hn
 have h2:0<2^n:=Nat.two_pow_pos n
 rw[pow_nat]
 generalize 2^n=m at h1 h2 ⊢
 simp at h1
 omega
theorem fpower_any (n:Nat) (w:World) (hn:n≤60) :
  Calls Tryz.prog 30 #[.int .i64 (n:Int)] w fun e w'=>e= .returned (.int .i64 (2^n))∧w=w':=by
 go_enter Tryz.func30,Tryz.ntmps30
 go_wp2
 go_loop [3,4] (fun v i=>∃k:Nat,k≤n∧i= .int .i64 k∧v= .int .i64 (2^k)) (fun _ i=>n - (intOf i).toNat)
 case atStart=>exact⟨0,Qc _,rfl,rfl⟩
 case round =>
  obtain⟨k,hk,rfl,rfl⟩:=hrel
  have hps:(2:Int)^(k+1)=2*2^k:=by rw[Int.pow_succ,Int.mul_comm]
  by_cases hlt:k<n
  ·have hp:=pow_bd62 (n:=k+1) (by omega)
   rw[hps]at hp
   obtain⟨X,hX⟩:∃X,(2:Int)^k=X:=⟨_,rfl⟩
   rw[hX]at hp hps ⊢
   have HPS:=Qd hps
   clear hps hX
   go_wp2
   go_round
   case rel=>exact⟨k+1,by omega,by go_num,by rw[HPS.out]⟩
   case measure=>simp[intOf];omega
  ·obtain rfl:n=k:=by omega
   obtain⟨X,hX⟩:∃X,(2:Int)^n=X:=⟨_,rfl⟩
   rw[hX]
   have HX:=Qd hX
   clear hps hX
   go_wp2
   go_ret
   exact⟨ret_int HX.out.symm,rfl⟩
theorem fhas_any (x:Int) (k:Nat) (w:World) (h0:0≤x) (h1:x≤1000000) (hk:k≤1000) :
  Calls Tryz.prog 31 #[.int .i64 x,.int .i64 k] w fun e w'=>e= .returned (.bool (Rf.R.has x k))∧w=w':=by
 obtain⟨B,hB⟩:∃B,Rf.R.has x k=B:=⟨_,rfl⟩
 rw[hB]
 have HB:=Qd hB
 clear hB
 go_enter Tryz.func31,Tryz.ntmps31
 go_wp2
 go_loop [0,5] (fun s i=>∃j:Nat,j≤k∧i= .int .i64 j∧s= .int .i64 (x/2^j)) (fun _ i=>k - (intOf i).toNat)
 case atStart=>exact⟨0,Qc _,rfl,by simp⟩
 case round =>
  obtain⟨j,hj,rfl,rfl⟩:=hrel
  have hd:0≤x/2^j:=Int.ediv_nonneg h0 (Int.le_of_lt (Int.pow_pos (by decide)))
  have hd2:x/2^j≤x:=Int.ediv_le_self _ h0
  have hp:=Rf.half_pow x j
  by_cases hlt:j<k
  ·obtain⟨D,hD⟩:∃D,x/2^j=D:=⟨_,rfl⟩
   rw[hD]at hd hd2 hp ⊢
   have HP:=Qd hp
   clear hp hD
   go_wp2
   go_round
   case rel=>exact⟨j+1,by omega,by go_num,by rw[HP.out]⟩
   case measure=>simp[intOf];omega
  ·obtain rfl:j=k:=by omega
   have hh:B=decide (x/2^j%2=1):=HB.out.symm
   obtain⟨D,hD⟩:∃D,x/2^j=D:=⟨_,rfl⟩
   rw[hD]at hd hd2 hh ⊢
   have HH:=Qd hh
   clear hp hD hh
   go_wp2
   go_ret
   exact⟨ret_bool (by rw[HH.out];first|rfl|(rw[Qa];simp<;>omega)),rfl⟩
set_option maxRecDepth 100000 in
set_option maxHeartbeats 4000000 in
theorem fsets_any (s:Sea) (l:List Int) (vr vz vb vl:Value) (w:World) (hr:∃a n c,vr= .slice a n c) (hz:∃a n c,vz= .slice a n c) (hb:∃a n c,vb= .slice a n c) (hL:Ints w vl l) (hl:l.length≤1000000) (h0:1≤s.cells) (h1:s.cells≤8) :
  Calls Tryz.prog 90 #[.agg (seaV s vr vz vb),vl] w fun e w'=>e= .returned (.bool (l.all (setB s)))∧Ext w w':=by
 obtain⟨a1,n1,c1,rfl⟩:=hr
 obtain⟨a2,n2,c2,rfl⟩:=hz
 obtain⟨a3,n3,c3,rfl⟩:=hb
 obtain⟨a4,c4,rfl,hx4⟩:=hL
 have HX:=Qd hx4
 obtain⟨C,hC⟩:∃C:Nat,s.cells=C:=⟨s.cells.toNat,by omega⟩
 have hset:∀x,setB s x=within x 0 (2^C - 1):=fun x=>by unfold setB;rw[hC];rfl
 have HSET:=Qd hset
 have hsv:seaV s (.slice a1 n1 c1) (.slice a2 n2 c2) (.slice a3 n3 c3)=#[.int .i64 (C:Int),.slice a1 n1 c1,.slice a2 n2 c2,.slice a3 n3 c3,.int .i64 s.days]:=by unfold seaV;rw[hC]
 rw[hsv]
 have hC8:C≤8:=by omega
 have hpw:=fun w'=>fpower_any C w' (by omega)
 have hp1:=pow_bd62 (n:=C) (by omega)
 obtain⟨S,hS⟩:∃S,(2:Int)^C=S:=⟨_,rfl⟩
 simp only[hS]at hpw
 have hset2:∀x,setB s x=within x 0 (S - 1):=fun x=>by rw[← hS];exact hset x
 rw[hS]at hp1
 obtain⟨B,hB⟩:∃B,l.all (setB s)=B:=⟨_,rfl⟩
 rw[hB]
 have HB:=Qd hB
 have HPW:=Qd hpw
 have HS2:=Qd hset2
 clear hx4 hset hsv hB hpw hset2 HSET hC h0 h1
 have hwS:IntKind.i64.wrap (S - 1)=S - 1:=IntWalk.i64_in _ (by omega)
 have hpc:=plus_cell
 go_enter Tryz.func90,Tryz.ntmps90
 go_wp2
 obtain⟨w1,hw1⟩:∃w1,w.alloc (.cells #[.int .i64 (C:Int),.slice a1 n1 c1,.slice a2 n2 c2,.slice a3 n3 c3,.int .i64 s.days] 89)=w1:=⟨_,rfl⟩
 have hb:Blk w1 w.heap.size #[.int .i64 (C:Int),.slice a1 n1 c1,.slice a2 n2 c2,.slice a3 n3 c3,.int .i64 s.days] 89:=by rw[← hw1];exact Qe rfl _ _
 have hE:Ext w w1:=by rw[← hw1];(with_reducible(repeat(first|exact Qb _|assumption|apply Qf|apply Qg|exact ext_plus _ _|(apply Qh;rotate_left;(simp<;>omega))|(apply Qi;rotate_left;exact ext_plus _ _)|(apply Qi;rotate_left;assumption))))
 rw[hw1]
 clear hw1
 go_loopw [5] (fun i wr=>∃k:Nat,k≤l.length∧i= .int .i64 k∧(l.take k).all (setB s)=true∧Ext w1 wr) (fun i _=>l.length - (intOf i).toNat)
 case atStart=>exact⟨0,Qc _,rfl,rfl,Qb _⟩
 case round =>
  rename World=>wr
  obtain⟨k,hk,rfl,hall,hEr⟩:=hrel
  have HALL:=Qd hall
  clear hall
  have hbr:=hb.ext hEr
  have e0:=hbr.cell
  have e1:=hbr.lt
  have hEw:=hE.trans hEr
  by_cases hlt:k<l.length
  ·obtain⟨b,off,rfl,hbl,h0⟩:=HX.out k hlt
   have h0':=(hEw.cells.1 _ _ hbl).trans h0
   have hblr:b<wr.heap.size:=Qj hbl hEw.size
   have hin:=fun w'=>fin_ext l[k] 0 (S - 1) w'
   have hG1:=HS2.out l[k]
   obtain⟨G,hG⟩:∃G,within l[k] 0 (S - 1)=G:=⟨_,rfl⟩
   simp only[hG]at hin
   rw[hG]at hG1
   have HIN:=Qd hin
   have HG:=Qd hG1
   clear h0 hin hG hG1
   generalize hy:l[k]=y at h0' HIN
   have HY:=Qd hy
   clear hy
   cases G with
   | true =>
    go_wp2
    refine wp_region_ext 9 (fun _ _ d _ _ h=>by cases d<;>exact h) (by kernel_rfl) (by kernel_rfl) (by kernel_rfl) (by kernel_rfl) ?_
    simp only[Qk,Ql,Qm,Qn]
    repeat(any_goals(first|quiet_step(first|(go_at_call 30;exact ext_quiet ((HPW.out _).mono fun _ _ ⟨h1,h2⟩=>⟨h1,h2▸Qb _⟩))|(go_at_call 89;exact ext_quiet (HIN.out _)))))
    all_goals(refine wpQuiet_nil ?_;intro w3 hE3)
    go_wp2
    go_roundw
    case rel=>exact⟨k+1,by omega,by go_num,by rw[Qo hlt,List.all_append,HALL.out];simp[HG.out],hEr.trans hE3⟩
    case measure=>simp[intOf];omega
   | false =>
    go_wp2
    refine wp_region_ext 9 (fun _ _ d _ _ h=>by cases d<;>exact h) (by kernel_rfl) (by kernel_rfl) (by kernel_rfl) (by kernel_rfl) ?_
    simp only[Qk,Ql,Qm,Qn]
    repeat(any_goals(first|quiet_step(first|(go_at_call 30;exact ext_quiet ((HPW.out _).mono fun _ _ ⟨h1,h2⟩=>⟨h1,h2▸Qb _⟩))|(go_at_call 89;exact ext_quiet (HIN.out _)))))
    all_goals(refine wpQuiet_nil ?_;intro w3 hE3)
    go_wp2
    go_ret
    refine⟨ret_bool ?_,hEw.trans hE3⟩
    rw[← HB.out,eq_comm,Bool.eq_false_iff]
    intro h
    rw[Qp]at h
    have:=h _ (Qq hlt)
    rw[HG.out]at this;cases this
  ·obtain rfl:k=l.length:=by omega
   have ha:=HALL.out
   rw[Qr,HB.out]at ha
   have HA:=Qd ha
   clear ha
   go_wp2
   go_ret
   exact⟨ret_bool HA.out.symm,by(with_reducible(repeat(first|exact Qb _|assumption|apply Qf|apply Qg|exact ext_plus _ _|(apply Qh;rotate_left;(simp<;>omega))|(apply Qi;rotate_left;exact ext_plus _ _)|(apply Qi;rotate_left;assumption))))⟩
theorem on_any (b:Bid) (z d:Int) (w:World) (h0:0≤b.start) (h1:b.start≤100) (h2:0≤b.days) (h3:b.days≤100) :
  Calls Tryz.prog 114 #[.agg (bidV b),.int .i64 z,.int .i64 d] w fun e w'=>e= .returned (.bool (covers b z d))∧Ext w w':=by
 obtain⟨B,hB⟩:∃B,covers b z d=B:=⟨_,rfl⟩
 have hB2:(b.zone=z∧b.start≤d∧d<b.start+b.days)↔B=true:=by rw[← hB];unfold covers within;simp;omega
 rw[hB]
 have HB:=Qd hB2
 clear hB hB2
 go_enter Tryz.func114,Tryz.ntmps114
 go_wp2
 all_goals(go_ret;exact⟨ret_bool (by rw[eq_comm,Qa,←HB.out];simp<;>omega),by(with_reducible(repeat(first|exact Qb _|assumption|apply Qf|apply Qg|exact ext_plus _ _|(apply Qh;rotate_left;(simp<;>omega))|(apply Qi;rotate_left;exact ext_plus _ _)|(apply Qi;rotate_left;assumption))))⟩)
set_option maxRecDepth 100000 in
set_option maxHeartbeats 4000000 in
theorem fbid_any (b:Bid) (zones days:Int) (w:World) (hz:0≤zones∧zones≤1000000) (hd:1≤days∧days≤8) :
  Calls Tryz.prog 104 #[.agg (bidV b),.int .i64 zones,.int .i64 days] w fun e w'=>e= .returned (.bool (bidB zones days b))∧Ext w w':=by
 obtain⟨B1,hB1⟩:∃B,within b.fleet 0 9=B:=⟨_,rfl⟩
 obtain⟨B2,hB2⟩:∃B,within b.zone 0 (zones - 1)=B:=⟨_,rfl⟩
 obtain⟨B3,hB3⟩:∃B,within b.start 0 (days - 1)=B:=⟨_,rfl⟩
 obtain⟨B4,hB4⟩:∃B,within b.days 1 days=B:=⟨_,rfl⟩
 obtain⟨B5,hB5⟩:∃B,within b.price 0 1000000=B:=⟨_,rfl⟩
 have hb:bidB zones days b=(B1&&B2&&B3&&B4&&decide (b.start+b.days≤days)&&B5):=by
  rw[← hB1,←hB2,←hB3,←hB4,←hB5,Qa]
  unfold bidB
  simp only[Bool.and_eq_true,within_iff,decide_eq_true_eq]
  omega
 have H3:=Qd (fun e:B3=true=>within_iff.1 (hB3.trans e))
 have H4:=Qd (fun e:B4=true=>within_iff.1 (hB4.trans e))
 have HB:=Qd hb
 have I1:=Qd (fun W=>(hB1▸fin_any b.fleet 0 9 W:Calls Tryz.prog 89 #[.int .i64 b.fleet,.int .i64 0,.int .i64 9] W fun e w'=>e= .returned (.bool B1)∧W=w'))
 have I2:=Qd (fun W=>(hB2▸fin_any b.zone 0 (zones - 1) W:Calls Tryz.prog 89 #[.int .i64 b.zone,.int .i64 0,.int .i64 (zones - 1)] W fun e w'=>e= .returned (.bool B2)∧W=w'))
 have I3:=Qd (fun W=>(hB3▸fin_any b.start 0 (days - 1) W:Calls Tryz.prog 89 #[.int .i64 b.start,.int .i64 0,.int .i64 (days - 1)] W fun e w'=>e= .returned (.bool B3)∧W=w'))
 have I4:=Qd (fun W=>(hB4▸fin_any b.days 1 days W:Calls Tryz.prog 89 #[.int .i64 b.days,.int .i64 1,.int .i64 days] W fun e w'=>e= .returned (.bool B4)∧W=w'))
 have I5:=Qd (fun W=>(hB5▸fin_any b.price 0 1000000 W:Calls Tryz.prog 89 #[.int .i64 b.price,.int .i64 0,.int .i64 1000000] W fun e w'=>e= .returned (.bool B5)∧W=w'))
 clear hB1 hB2 hB3 hB4 hB5 hb
 cases B1
 rotate_left
 cases B2
 rotate_left
 cases B3
 rotate_left
 have h3:=H3.out rfl
 cases B4
 rotate_left
 have h4:=H4.out rfl
 by_cases q:b.start+b.days≤days
 cases B5
 rotate_left
 all_goals
  (try have Q:=Qd q)
  go_enter Tryz.func104,Tryz.ntmps104
  go_wp2_with (first|(go_at_call 89;with_reducible refine(I1.out _).mono ?_;rintro e w' ⟨rfl,rfl⟩)|(go_at_call 89;with_reducible refine(I2.out _).mono ?_;rintro e w' ⟨rfl,rfl⟩)|(go_at_call 89;with_reducible refine(I3.out _).mono ?_;rintro e w' ⟨rfl,rfl⟩)|(go_at_call 89;with_reducible refine(I4.out _).mono ?_;rintro e w' ⟨rfl,rfl⟩)|(go_at_call 89;with_reducible refine(I5.out _).mono ?_;rintro e w' ⟨rfl,rfl⟩))
  go_ret
  exact⟨ret_bool (by rw[HB.out];first|rfl|(simp;done)|(simp;exact Q.out)|(simp;intro h9;have h:=Q.out;exfalso;omega)),by(with_reducible(repeat(first|exact Qb _|assumption|apply Qf|apply Qg|exact ext_plus _ _|(apply Qh;rotate_left;(simp<;>omega))|(apply Qi;rotate_left;exact ext_plus _ _)|(apply Qi;rotate_left;assumption))))⟩
set_option maxRecDepth 100000 in
set_option maxHeartbeats 4000000 in
theorem fbids_any (s:Sea) (l:List Bid) (vr vz vb vl:Value) (w:World) (hr:∃a n c,vr= .slice a n c) (hz:∃a c,vz= .slice a s.zones.length c) (hz3:s.zones.length≤3) (hb:∃a n c,vb= .slice a n c) (hL:Bids w vl l) (hl:l.length≤1000000) (hd:1≤s.days∧s.days≤8) :
  Calls Tryz.prog 37 #[.agg (seaV s vr vz vb),vl] w fun e w'=>e= .returned (.bool (l.all (bidB s.zones.length s.days)))∧Ext w w':=by
 obtain⟨a1,n1,c1,rfl⟩:=hr
 obtain⟨a2,c2,rfl⟩:=hz
 obtain⟨a3,n3,c3,rfl⟩:=hb
 obtain⟨a4,c4,rfl,hx4⟩:=hL
 have HX:=Qd hx4
 obtain⟨Z,hZ⟩:∃Z,s.zones.length=Z:=⟨_,rfl⟩
 rw[hZ]at hz3
 simp only[seaV,hZ]
 obtain⟨B,hB⟩:∃B,l.all (bidB (Z:Int) s.days)=B:=⟨_,rfl⟩
 rw[hB]
 have HB:=Qd hB
 clear hx4 hB hZ
 have hpc:=plus_cell
 go_enter Tryz.func37,Tryz.ntmps37
 go_wp2
 obtain⟨w1,hw1⟩:∃w1,w.alloc (.cells #[.int .i64 s.cells,.slice a1 n1 c1,.slice a2 Z c2,.slice a3 n3 c3,.int .i64 s.days] 89)=w1:=⟨_,rfl⟩
 have hb:Blk w1 w.heap.size #[.int .i64 s.cells,.slice a1 n1 c1,.slice a2 Z c2,.slice a3 n3 c3,.int .i64 s.days] 89:=by rw[← hw1];exact Qe rfl _ _
 have hE:Ext w w1:=by rw[← hw1];(with_reducible(repeat(first|exact Qb _|assumption|apply Qf|apply Qg|exact ext_plus _ _|(apply Qh;rotate_left;(simp<;>omega))|(apply Qi;rotate_left;exact ext_plus _ _)|(apply Qi;rotate_left;assumption))))
 rw[hw1]
 clear hw1
 go_loopw [5] (fun i wr=>∃k:Nat,k≤l.length∧i= .int .i64 k∧(l.take k).all (bidB (Z:Int) s.days)=true∧Ext w1 wr) (fun i _=>l.length - (intOf i).toNat)
 case atStart=>exact⟨0,Qc _,rfl,rfl,Qb _⟩
 case round =>
  rename World=>wr
  obtain⟨k,hk,rfl,hall,hEr⟩:=hrel
  have HALL:=Qd hall
  clear hall
  have hbr:=hb.ext hEr
  have e0:=hbr.cell
  have e1:=hbr.lt
  have hEw:=hE.trans hEr
  by_cases hlt:k<l.length
  ·obtain⟨b,off,rfl,hbl,h0⟩:=HX.out k hlt
   obtain⟨f0,f1,f2,f3,f4⟩:=bid_cells (ate_stays _ _ _ _ _ _ hEw hbl h0)
   have hblr:b<wr.heap.size:=Qj hbl hEw.size
   have hin:=fun w'=>fbid_any l[k] (Z:Int) s.days w' (by omega) hd
   obtain⟨G,hG⟩:∃G,bidB (Z:Int) s.days l[k]=G:=⟨_,rfl⟩
   simp only[hG]at hin
   have HIN:=Qd hin
   have HG:=Qd hG
   clear h0 hin hG
   generalize hy:l[k]=y at f0 f1 f2 f3 f4 HIN
   have HY:=Qd hy
   clear hy
   cases G
   all_goals
    go_wp2
    refine wp_region_ext 10 (fun _ _ d _ _ h=>by cases d<;>exact h) (by kernel_rfl) (by kernel_rfl) (by kernel_rfl) (by kernel_rfl) ?_
    simp only[Qk,Ql,Qm,Qn]
    repeat(any_goals(first|quiet_step((go_at_call 104;exact ext_quiet (HIN.out _)))))
    all_goals(refine wpQuiet_nil ?_;intro w3 hE3)
    go_wp2
   ·go_ret
    refine⟨ret_bool ?_,hEw.trans hE3⟩
    rw[← HB.out,eq_comm,Bool.eq_false_iff]
    intro h
    rw[Qp]at h
    have:=h _ (Qq hlt)
    rw[HG.out]at this;cases this
   ·go_roundw
    case rel=>exact⟨k+1,by omega,by go_num,by rw[Qo hlt,List.all_append,HALL.out];simp[HG.out],hEr.trans hE3⟩
    case measure=>simp[intOf];omega
  ·obtain rfl:k=l.length:=by omega
   have ha:=HALL.out
   rw[Qr,HB.out]at ha
   have HA:=Qd ha
   clear ha
   go_wp2
   go_ret
   exact⟨ret_bool HA.out.symm,by(with_reducible(repeat(first|exact Qb _|assumption|apply Qf|apply Qg|exact ext_plus _ _|(apply Qh;rotate_left;(simp<;>omega))|(apply Qi;rotate_left;exact ext_plus _ _)|(apply Qi;rotate_left;assumption))))⟩
theorem fsale_any (n:Nat) (sale:Nat) (a:Option Addr) (c:Nat) (w:World) (hn:n≤10) (hs:sale<2^n) :
  Calls Tryz.prog 40 #[.slice a n c,.int .i64 (sale:Int)] w fun e w'=>e= .returned (.bool true)∧w=w':=by
 have hpw:=fun w'=>fpower_any n w' (by omega)
 have hb:=pow_bd62 (n:=n) (by omega)
 obtain⟨S,hS⟩:∃S,(2:Int)^n=S:=⟨_,rfl⟩
 have hs2:(sale:Int)<S:=by rw[← hS,pow_nat];exact Int.ofNat_lt.2 hs
 simp only[hS]at hpw
 rw[hS]at hb
 have HPW:=Qd hpw
 have hin:=fun w'=>fin_any (sale:Int) 0 (S - 1) w'
 have e:within (sale:Int) 0 (S - 1)=true:=within_iff.2 (by omega)
 simp only[e]at hin
 have HIN:=Qd hin
 have hwS:IntKind.i64.wrap (S - 1)=S - 1:=IntWalk.i64_in _ (by omega)
 clear hpw hin hS e hs
 go_enter Tryz.func40,Tryz.ntmps40
 go_wp2_with (first|(go_at_call 30;refine(HPW.out _).mono ?_;rintro e w' ⟨rfl,rfl⟩)|(go_at_call 89;refine(HIN.out _).mono ?_;rintro e w' ⟨rfl,rfl⟩))
 go_ret
 exact⟨ret_bool rfl,rfl⟩
set_option maxRecDepth 100000 in
set_option maxHeartbeats 4000000 in
theorem fsold_any (l:List Bid) (sale:Nat) (z d:Int) (vl:Value) (w:World) (hL:Bids w vl l) (hl:l.length≤10) (hs:sale≤1000000) (hbd:∀b∈l,0≤b.start∧b.start≤100∧0≤b.days∧b.days≤100) :
  Calls Tryz.prog 41 #[vl,.int .i64 (sale:Int),.int .i64 z,.int .i64 d] w fun e w'=>e= .returned (.int .i64 (sold l sale z d))∧Ext w w':=by
 obtain⟨a4,c4,rfl,hx4⟩:=hL
 have HX:=Qd hx4
 clear hx4
 have hall:=soldD_all l sale z d
 obtain⟨R,hR⟩:∃R,sold l sale z d=R:=⟨_,rfl⟩
 rw[hR]at hall ⊢
 have HALL:=Qd hall
 clear hall hR
 have hpc:=plus_cell
 go_enter Tryz.func41,Tryz.ntmps41
 go_wp2
 go_loopw [9,10] (fun n i wr=>∃k:Nat,k≤l.length∧i= .int .i64 k∧n= .int .i64 (soldD l sale z d k)∧Ext w wr) (fun _ i _=>l.length - (intOf i).toNat)
 case atStart=>exact⟨0,Qc _,rfl,rfl,Qb _⟩
 case round =>
  rename World=>wr
  obtain⟨k,hk,rfl,rfl,hEr⟩:=hrel
  have hle:=soldD_le l sale z d k hk
  have hsu:=soldD_succ l sale z d k
  by_cases hlt:k<l.length
  ·obtain⟨b,off,rfl,hbl,h0⟩:=HX.out k hlt
   obtain⟨f0,f1,f2,f3,f4⟩:=bid_cells (ate_stays _ _ _ _ _ _ hEr hbl h0)
   have hblr:b<wr.heap.size:=Qj hbl hEr.size
   have hgd:l.getD k default=l[k]:=by simp[List.getD_eq_getElem?_getD,hlt]
   rw[hgd]at hsu
   obtain⟨g0,g1,g2,g3⟩:=hbd l[k] (Qq hlt)
   have hon:=fun w'=>on_any l[k] z d w' g0 g1 g2 g3
   have hha:=fun w'=>fhas_any (sale:Int) k w' (by omega) (by omega) (by omega)
   obtain⟨C,hC⟩:∃C,covers l[k] z d=C:=⟨_,rfl⟩
   obtain⟨H,hH⟩:∃H,sale.testBit k=H:=⟨_,rfl⟩
   have hH2:Rf.R.has (sale:Int) k=H:=(has_bit sale k).trans hH
   simp only[hC]at hon
   simp only[hH2]at hha
   rw[hC,hH]at hsu
   have HON:=Qd hon
   have HHA:=Qd hha
   have HSU:=Qd hsu
   obtain⟨q,hq⟩:∃q,soldD l sale z d k=q:=⟨_,rfl⟩
   rw[hq]at hle ⊢
   have HQ:=Qd hq
   clear h0 hon hha hsu hC hH hH2 hq hgd g0 g1 g2 g3
   generalize hy:l[k]=y at f0 f1 f2 f3 f4 HON
   have HY:=Qd hy
   clear hy
   cases H<;>cases C
   all_goals
    go_wp2_with (first|(go_at_call 31;refine(HHA.out _).mono ?_;rintro e w' ⟨rfl,rfl⟩)|(go_at_call 114;refine(HON.out _).mono ?_;rintro e w' ⟨rfl,hy9⟩))
    go_roundw
    case rel=>exact⟨k+1,by omega,by go_num,by rw[HSU.out,HQ.out];simp,by(with_reducible(repeat(first|exact Qb _|assumption|apply Qf|apply Qg|exact ext_plus _ _|(apply Qh;rotate_left;(simp<;>omega))|(apply Qi;rotate_left;exact ext_plus _ _)|(apply Qi;rotate_left;assumption))))⟩
    case measure=>simp[intOf];omega
  ·obtain rfl:k=l.length:=by omega
   rw[HALL.out]
   clear hsu hle
   go_wp2
   go_ret
   exact⟨ret_int rfl,hEr⟩
set_option maxRecDepth 100000 in
set_option maxHeartbeats 16000000 in
theorem fsea_any (s:Sea) (vr vz vb:Value) (w:World) (hR:Ints w vr s.roads) (hZ:Ints w vz s.zones) (hB:Ints w vb s.berths) (hr1:s.roads.length≤1000000) (hz1:s.zones.length≤1000000) (hb1:s.berths.length≤1000000) :
  Calls Tryz.prog 28 #[.agg (seaV s vr vz vb)] w fun e w'=>e= .returned (.bool (seaB s))∧Ext w w':=by
 have hs2:=fun h0 h1 W hE=>fsets_any s s.roads vr vz vb vr W (by obtain⟨a,c,rfl,_⟩:=hR;exact⟨_,_,_,rfl⟩) (by obtain⟨a,c,rfl,_⟩:=hZ;exact⟨_,_,_,rfl⟩) (by obtain⟨a,c,rfl,_⟩:=hB;exact⟨_,_,_,rfl⟩) (hR.ext (w':=W) hE) hr1 h0 h1
 have hs4:=fun h0 h1 W hE=>fsets_any s s.zones vr vz vb vz W (by obtain⟨a,c,rfl,_⟩:=hR;exact⟨_,_,_,rfl⟩) (by obtain⟨a,c,rfl,_⟩:=hZ;exact⟨_,_,_,rfl⟩) (by obtain⟨a,c,rfl,_⟩:=hB;exact⟨_,_,_,rfl⟩) (hZ.ext (w':=W) hE) hz1 h0 h1
 obtain⟨ar,cr,rfl,_⟩:=hR
 obtain⟨az,cz,rfl,_⟩:=hZ
 obtain⟨ab,cb,rfl,hxb⟩:=hB
 have HX:=Qd hxb
 obtain⟨B2,hB2⟩:∃x,s.roads.all (setB s)=x:=⟨_,rfl⟩
 obtain⟨B4,hB4⟩:∃x,s.zones.all (setB s)=x:=⟨_,rfl⟩
 obtain⟨B6,hB6⟩:∃x,s.berths.all (fun n=>within n 0 4)=x:=⟨_,rfl⟩
 simp only[hB2]at hs2
 simp only[hB4]at hs4
 have hsea:seaB s=(within s.cells 1 8&&(decide ((s.roads.length:Int)=s.cells)&&B2&&within s.zones.length 1 3&&B4&&decide (s.berths.length=s.zones.length)&&B6&&within s.days 1 8)):=by
  rw[← hB2,←hB4,←hB6];rfl
 have HSEA:=Qd hsea
 have HB6:=Qd hB6
 obtain⟨w1,hw1⟩:∃w1,w.alloc (.cells #[.int .i64 s.cells,.slice ar s.roads.length cr,.slice az s.zones.length cz,.slice ab s.berths.length cb,.int .i64 s.days] 89)=w1:=⟨_,rfl⟩
 have hb:Blk w1 w.heap.size #[.int .i64 s.cells,.slice ar s.roads.length cr,.slice az s.zones.length cz,.slice ab s.berths.length cb,.int .i64 s.days] 89:=by rw[← hw1];exact Qe rfl _ _
 have hE:Ext w w1:=by rw[← hw1];(with_reducible(repeat(first|exact Qb _|assumption|apply Qf|apply Qg|exact ext_plus _ _|(apply Qh;rotate_left;(simp<;>omega))|(apply Qi;rotate_left;exact ext_plus _ _)|(apply Qi;rotate_left;assumption))))
 have HLA:=Qd (fun y (hy:Ext w1 y)=>(⟨(hb.ext hy).cell,(hb.ext hy).lt⟩:(∀ o,y.cell? ⟨w.heap.size,o,none⟩=(#[.int .i64 s.cells,.slice ar s.roads.length cr,.slice az s.zones.length cz,.slice ab s.berths.length cb,.int .i64 s.days]:Array Value)[o]?)∧w.heap.size<y.heap.size))
 have HW1:=Qd hw1
 clear hsea hB6 hw1 hb hxb
 have hpc:=plus_cell
 by_cases q0:within s.cells 1 8=true
 rotate_left
 ·have q0':within s.cells 1 8=false:=by simpa using q0
  clear q0 hs2 hs4
  go_enter Tryz.func28,Tryz.ntmps28
  go_upto_region 1 with(fail)
  rw[HW1.out]
  obtain⟨k0,k1⟩:=HLA.out w1 (Qb _)
  go_wp2_with (first|(go_at_call 89;refine(fin_any _ _ _ _).mono ?_;rintro e w' ⟨rfl,rfl⟩))
  go_ret
  exact⟨ret_bool (by rw[HSEA.out,q0'];rfl),by(with_reducible(repeat(first|exact Qb _|assumption|apply Qf|apply Qg|exact ext_plus _ _|(apply Qh;rotate_left;(simp<;>omega))|(apply Qi;rotate_left;exact ext_plus _ _)|(apply Qi;rotate_left;assumption))))⟩
 have H2:=Qd (hs2 (within_iff.1 q0).1 (within_iff.1 q0).2)
 have H4:=Qd (hs4 (within_iff.1 q0).1 (within_iff.1 q0).2)
 clear hs2 hs4
 by_cases q1:(s.roads.length:Int)=s.cells
 cases B2
 rotate_left
 by_cases q3:within (s.zones.length:Int) 1 3=true
 cases B4
 rotate_left
 by_cases q5:(s.berths.length:Int)=(s.zones.length:Int)
 ·skip
  go_enter Tryz.func28,Tryz.ntmps28
  go_upto_region 1 with(fail)
  rw[HW1.out]
  obtain⟨k0,k1⟩:=HLA.out w1 (Qb _)
  go_wp2_with (first|(go_at_call 89;refine(fin_any _ _ _ _).mono ?_;rintro e w' ⟨rfl,rfl⟩)|(go_at_call 90;with_reducible refine(H2.out _ (by(with_reducible(repeat(first|exact Qb _|assumption|apply Qf|apply Qg|exact ext_plus _ _|(apply Qh;rotate_left;(simp<;>omega))|(apply Qi;rotate_left;exact ext_plus _ _)|(apply Qi;rotate_left;assumption)))))).mono ?_;rintro e y ⟨rfl,hy⟩;(clear k0 k1);obtain⟨k0,k1⟩:=HLA.out y (by(with_reducible(repeat(first|exact Qb _|assumption|apply Qf|apply Qg|exact ext_plus _ _|(apply Qh;rotate_left;(simp<;>omega))|(apply Qi;rotate_left;exact ext_plus _ _)|(apply Qi;rotate_left;assumption))))))|(go_at_call 90;with_reducible refine(H4.out _ (by(with_reducible(repeat(first|exact Qb _|assumption|apply Qf|apply Qg|exact ext_plus _ _|(apply Qh;rotate_left;(simp<;>omega))|(apply Qi;rotate_left;exact ext_plus _ _)|(apply Qi;rotate_left;assumption)))))).mono ?_;rintro e y ⟨rfl,hy⟩;(clear k0 k1);obtain⟨k0,k1⟩:=HLA.out y (by(with_reducible(repeat(first|exact Qb _|assumption|apply Qf|apply Qg|exact ext_plus _ _|(apply Qh;rotate_left;(simp<;>omega))|(apply Qi;rotate_left;exact ext_plus _ _)|(apply Qi;rotate_left;assumption)))))))
  have QA:=Qd q1
  have QB:=Qd q5
  clear q1 q5
  rename World=>w2
  have hE12:Ext w1 w2:=by(with_reducible(repeat(first|exact Qb _|assumption|apply Qf|apply Qg|exact ext_plus _ _|(apply Qh;rotate_left;(simp<;>omega))|(apply Qi;rotate_left;exact ext_plus _ _)|(apply Qi;rotate_left;assumption))))
  clear k0 k1
  go_loopw [3] (fun i wr=>∃k:Nat,k≤s.berths.length∧i= .int .i64 k∧(s.berths.take k).all (fun n=>within n 0 4)=true∧Ext w1 wr) (fun i _=>s.berths.length - (intOf i).toNat)
  case atStart=>exact⟨0,Qc _,rfl,rfl,hE12⟩
  case round =>
   rename World=>wr
   obtain⟨k,hk,rfl,hall,hEr⟩:=hrel
   have HALL:=Qd hall
   clear hall
   obtain⟨k0,k1⟩:=HLA.out wr hEr
   have hEw:=hE.trans hEr
   by_cases hlt:k<s.berths.length
   ·obtain⟨b,off,rfl,hbl,h0⟩:=HX.out k hlt
    have h0':=(hEw.cells.1 _ _ hbl).trans h0
    have hblr:b<wr.heap.size:=Qj hbl hEw.size
    have hin:=fun w'=>fin_any s.berths[k] 0 4 w'
    obtain⟨G,hG⟩:∃G,within s.berths[k] 0 4=G:=⟨_,rfl⟩
    simp only[hG]at hin
    have HIN:=Qd hin
    have HG:=Qd hG
    clear h0 hin hG
    generalize hy:s.berths[k]=y at h0' HIN
    have HY:=Qd hy
    clear hy
    cases G
    all_goals go_wp2_with (first|(go_at_call 89;refine(HIN.out _).mono ?_;rintro e w' ⟨rfl,rfl⟩))
    ·go_ret
     refine⟨ret_bool ?_,hEw⟩
     have e6:B6=false:=by
      rw[← HB6.out,Bool.eq_false_iff]
      intro h
      rw[Qp]at h
      have:=h _ (Qq hlt)
      rw[HG.out]at this;cases this
     rw[HSEA.out,e6];simp
    ·go_roundw
     case rel=>exact⟨k+1,by omega,by go_num,by rw[Qo hlt,List.all_append,HALL.out];simp[HG.out],hEr⟩
     case measure=>simp[intOf];omega
   ·obtain rfl:k=s.berths.length:=by omega
    have ha:=HALL.out
    rw[Qr,HB6.out]at ha
    have HA:=Qd ha
    clear ha
    go_wp2_with (first|(go_at_call 89;refine(fin_any _ _ _ _).mono ?_;rintro e w' ⟨rfl,rfl⟩))
    go_ret
    exact⟨ret_bool (by rw[HSEA.out,HA.out,q0,q3,decide_eq_true QA.out,decide_eq_true (show s.berths.length=s.zones.length by have:=QB.out;omega)];simp),hEw⟩
 ·have q5':¬s.berths.length=s.zones.length:=by omega
  go_enter Tryz.func28,Tryz.ntmps28
  go_upto_region 1 with(fail)
  rw[HW1.out]
  obtain⟨k0,k1⟩:=HLA.out w1 (Qb _)
  go_wp2_with (first|(go_at_call 89;refine(fin_any _ _ _ _).mono ?_;rintro e w' ⟨rfl,rfl⟩)|(go_at_call 90;with_reducible refine(H2.out _ (by(with_reducible(repeat(first|exact Qb _|assumption|apply Qf|apply Qg|exact ext_plus _ _|(apply Qh;rotate_left;(simp<;>omega))|(apply Qi;rotate_left;exact ext_plus _ _)|(apply Qi;rotate_left;assumption)))))).mono ?_;rintro e y ⟨rfl,hy⟩;(clear k0 k1);obtain⟨k0,k1⟩:=HLA.out y (by(with_reducible(repeat(first|exact Qb _|assumption|apply Qf|apply Qg|exact ext_plus _ _|(apply Qh;rotate_left;(simp<;>omega))|(apply Qi;rotate_left;exact ext_plus _ _)|(apply Qi;rotate_left;assumption))))))|(go_at_call 90;with_reducible refine(H4.out _ (by(with_reducible(repeat(first|exact Qb _|assumption|apply Qf|apply Qg|exact ext_plus _ _|(apply Qh;rotate_left;(simp<;>omega))|(apply Qi;rotate_left;exact ext_plus _ _)|(apply Qi;rotate_left;assumption)))))).mono ?_;rintro e y ⟨rfl,hy⟩;(clear k0 k1);obtain⟨k0,k1⟩:=HLA.out y (by(with_reducible(repeat(first|exact Qb _|assumption|apply Qf|apply Qg|exact ext_plus _ _|(apply Qh;rotate_left;(simp<;>omega))|(apply Qi;rotate_left;exact ext_plus _ _)|(apply Qi;rotate_left;assumption)))))))
  go_ret
  exact⟨ret_bool (by rw[HSEA.out];simp[*]),by(with_reducible(repeat(first|exact Qb _|assumption|apply Qf|apply Qg|exact ext_plus _ _|(apply Qh;rotate_left;(simp<;>omega))|(apply Qi;rotate_left;exact ext_plus _ _)|(apply Qi;rotate_left;assumption))))⟩
 all_goals
  go_enter Tryz.func28,Tryz.ntmps28
  go_upto_region 1 with(fail)
  rw[HW1.out]
  obtain⟨k0,k1⟩:=HLA.out w1 (Qb _)
  go_wp2_with (first|(go_at_call 89;refine(fin_any _ _ _ _).mono ?_;rintro e w' ⟨rfl,rfl⟩)|(go_at_call 90;with_reducible refine(H2.out _ (by(with_reducible(repeat(first|exact Qb _|assumption|apply Qf|apply Qg|exact ext_plus _ _|(apply Qh;rotate_left;(simp<;>omega))|(apply Qi;rotate_left;exact ext_plus _ _)|(apply Qi;rotate_left;assumption)))))).mono ?_;rintro e y ⟨rfl,hy⟩;(clear k0 k1);obtain⟨k0,k1⟩:=HLA.out y (by(with_reducible(repeat(first|exact Qb _|assumption|apply Qf|apply Qg|exact ext_plus _ _|(apply Qh;rotate_left;(simp<;>omega))|(apply Qi;rotate_left;exact ext_plus _ _)|(apply Qi;rotate_left;assumption))))))|(go_at_call 90;with_reducible refine(H4.out _ (by(with_reducible(repeat(first|exact Qb _|assumption|apply Qf|apply Qg|exact ext_plus _ _|(apply Qh;rotate_left;(simp<;>omega))|(apply Qi;rotate_left;exact ext_plus _ _)|(apply Qi;rotate_left;assumption)))))).mono ?_;rintro e y ⟨rfl,hy⟩;(clear k0 k1);obtain⟨k0,k1⟩:=HLA.out y (by(with_reducible(repeat(first|exact Qb _|assumption|apply Qf|apply Qg|exact ext_plus _ _|(apply Qh;rotate_left;(simp<;>omega))|(apply Qi;rotate_left;exact ext_plus _ _)|(apply Qi;rotate_left;assumption)))))))
  go_ret
  exact⟨ret_bool (by rw[HSEA.out];simp[*]),by(with_reducible(repeat(first|exact Qb _|assumption|apply Qf|apply Qg|exact ext_plus _ _|(apply Qh;rotate_left;(simp<;>omega))|(apply Qi;rotate_left;exact ext_plus _ _)|(apply Qi;rotate_left;assumption))))⟩
def f11 (t:Rf.R.Truth):Bool:=decide (t.starts.length≤8)&&decide (t.grows.length≤8)&&decide (t.takes.length≤8)&&t.grows.all (fun l=>decide (l.length≤8))&&t.takes.all (fun l=>decide (l.length≤8))
set_option maxRecDepth 100000 in
set_option maxHeartbeats 8000000 in
theorem fished11_any (t:Rf.R.Truth) (vs vg vt:Value) (w:World) (hS:Ints w vs t.starts) (hG:Rf.Lists w vg t.grows) (hT:Rf.Lists w vt t.takes) :
  Calls Tryz.prog 43 #[.agg #[vs,vg,vt]] w fun e w'=>e= .returned (.bool (f11 t))∧Ext w w':=by
 obtain⟨a1,c1,rfl,_⟩:=hS
 obtain⟨a2,c2,rfl,hx2⟩:=hG
 obtain⟨a3,c3,rfl,hx3⟩:=hT
 have H2:=Qd hx2
 have H3:=Qd hx3
 have hf:f11 t=(decide (t.starts.length≤8)&&decide (t.grows.length≤8)&&decide (t.takes.length≤8)&&t.grows.all (fun l=>decide (l.length≤8))&&t.takes.all (fun l=>decide (l.length≤8))):=rfl
 have HF:=Qd hf
 clear hf hx2 hx3
 obtain⟨w1,hw1⟩:∃w1,w.alloc (.cells #[.slice a1 t.starts.length c1,.slice a2 t.grows.length c2,.slice a3 t.takes.length c3] 114)=w1:=⟨_,rfl⟩
 have hb:Blk w1 w.heap.size #[.slice a1 t.starts.length c1,.slice a2 t.grows.length c2,.slice a3 t.takes.length c3] 114:=by rw[← hw1];exact Qe rfl _ _
 have hE:Ext w w1:=by rw[← hw1];(with_reducible(repeat(first|exact Qb _|assumption|apply Qf|apply Qg|exact ext_plus _ _|(apply Qh;rotate_left;(simp<;>omega))|(apply Qi;rotate_left;exact ext_plus _ _)|(apply Qi;rotate_left;assumption))))
 have k0:=hb.cell
 have k1:=hb.lt
 have HW1:=Qd hw1
 clear hw1 hb
 have hpc:=plus_cell
 by_cases q1:t.starts.length≤8
 rotate_left
 ·have q1':(8:Int)<(t.starts.length:Int):=by omega
  clear H2 H3
  go_enter Tryz.func43,Tryz.ntmps43
  go_upto_region 1 with(fail)
  rw[HW1.out]
  go_wp2
  go_ret
  exact⟨ret_bool (by rw[HF.out];simp[*]),hE⟩
 have q1':¬(8:Int)<(t.starts.length:Int):=by omega
 by_cases q2:t.grows.length≤8
 rotate_left
 ·have q2':(8:Int)<(t.grows.length:Int):=by omega
  clear H2 H3
  go_enter Tryz.func43,Tryz.ntmps43
  go_upto_region 1 with(fail)
  rw[HW1.out]
  go_wp2
  go_ret
  exact⟨ret_bool (by rw[HF.out];simp[*]),hE⟩
 have q2':¬(8:Int)<(t.grows.length:Int):=by omega
 by_cases q3:t.takes.length≤8
 rotate_left
 ·have q3':(8:Int)<(t.takes.length:Int):=by omega
  clear H2 H3
  go_enter Tryz.func43,Tryz.ntmps43
  go_upto_region 1 with(fail)
  rw[HW1.out]
  go_wp2
  go_ret
  exact⟨ret_bool (by rw[HF.out];simp[*]),hE⟩
 have q3':¬(8:Int)<(t.takes.length:Int):=by omega
 have Q1:=Qd q1
 have Q2:=Qd q2
 have Q3:=Qd q3
 go_enter Tryz.func43,Tryz.ntmps43
 go_upto_region 1 with(fail)
 rw[HW1.out]
 go_wp2
 go_loop [3] (fun i=>∃k:Nat,k≤t.grows.length∧i= .int .i64 k∧(t.grows.take k).all (fun l=>decide (l.length≤8))=true) (fun i=>t.grows.length - (intOf i).toNat)
 case atStart=>exact⟨0,Qc _,rfl,rfl⟩
 case round =>
  obtain⟨k,hk,rfl,hall⟩:=hrel
  have HALL3:=Qd hall
  clear hall
  by_cases hlt:k<t.grows.length
  ·obtain⟨b,off,rfl,hbl,v,h0,⟨av,cv,rfl,_⟩,_⟩:=H2.out k hlt
   have h0':=(hE.cells.1 _ _ hbl).trans h0
   have hblr:b<w1.heap.size:=Qj hbl hE.size
   simp only[Nat.mul_one]at h0'
   clear h0
   by_cases q:t.grows[k].length≤8
   ·have hq:¬(8:Int)<(t.grows[k].length:Int):=by omega
    have HQ:=Qd q
    clear q
    go_wp2
    go_round
    case rel=>exact⟨k+1,by omega,by go_num,by rw[Qo hlt,List.all_append,HALL3.out];simp[HQ.out]⟩
    case measure=>simp[intOf];omega
   ·have hq:(8:Int)<(t.grows[k].length:Int):=by omega
    have HQ:=Qd q
    clear q
    go_wp2
    go_ret
    refine⟨ret_bool ?_,hE⟩
    rw[HF.out]
    have e:t.grows.all (fun l=>decide (l.length≤8))=false:=by
     rw[Bool.eq_false_iff]
     intro h
     rw[Qp]at h
     exact HQ.out (by simpa using h _ (Qq hlt))
    rw[e];simp
  ·obtain rfl:k=t.grows.length:=by omega
   have ha3:=HALL3.out
   rw[Qr]at ha3
   have HA3:=Qd ha3
   clear ha3
   go_wp2
   go_loop [4] (fun i=>∃k:Nat,k≤t.takes.length∧i= .int .i64 k∧(t.takes.take k).all (fun l=>decide (l.length≤8))=true) (fun i=>t.takes.length - (intOf i).toNat)
   case atStart=>exact⟨0,Qc _,rfl,rfl⟩
   case round =>
    obtain⟨k,hk,rfl,hall⟩:=hrel
    have HALL4:=Qd hall
    clear hall
    by_cases hlt:k<t.takes.length
    ·obtain⟨b,off,rfl,hbl,v,h0,⟨av,cv,rfl,_⟩,_⟩:=H3.out k hlt
     have h0':=(hE.cells.1 _ _ hbl).trans h0
     have hblr:b<w1.heap.size:=Qj hbl hE.size
     simp only[Nat.mul_one]at h0'
     clear h0
     by_cases q:t.takes[k].length≤8
     ·have hq:¬(8:Int)<(t.takes[k].length:Int):=by omega
      have HQ:=Qd q
      clear q
      go_wp2
      go_round
      case rel=>exact⟨k+1,by omega,by go_num,by rw[Qo hlt,List.all_append,HALL4.out];simp[HQ.out]⟩
      case measure=>simp[intOf];omega
     ·have hq:(8:Int)<(t.takes[k].length:Int):=by omega
      have HQ:=Qd q
      clear q
      go_wp2
      go_ret
      refine⟨ret_bool ?_,hE⟩
      rw[HF.out]
      have e:t.takes.all (fun l=>decide (l.length≤8))=false:=by
       rw[Bool.eq_false_iff]
       intro h
       rw[Qp]at h
       exact HQ.out (by simpa using h _ (Qq hlt))
      rw[e];simp
    ·obtain rfl:k=t.takes.length:=by omega
     have ha4:=HALL4.out
     rw[Qr]at ha4
     have HA4:=Qd ha4
     clear ha4
     go_wp2
     go_ret
     exact⟨ret_bool (by rw[HF.out,HA3.out,HA4.out];simp[Q1.out,Q2.out,Q3.out]),hE⟩
end Go.Proofs.YtgloajbgphcloaaGreat.Fl
