/- The law TopQuarantined. -/
import Derived.Test.YtgloajbgphcloaaGreatLQa
namespace Go.Proofs.YtgloajbgphcloaaGreat
set_option linter.unusedVariables false
set_option linter.unusedSimpArgs false
open Go.RowKit
open Ext renaming alloc → Qc, drew → Qd, refl → Qb, setCell → Qe, trans → Qf
open Lib renaming hid → Qa
set_option maxRecDepth 1000000 in
set_option maxHeartbeats 64000000 in
theorem topQuarantined_law (p:Sh.Pass) (vt vs:Value) (lo hi many wait:Int) (w:World) (hT:Ints w vt p.tides) (hS:Sh.Spans w vs p.swell) :
  Calls Tryz.prog 5 #[.agg (Sh.passV p vt vs),.agg #[.int .i64 lo,.int .i64 hi],.int .i64 many,.int .i64 wait] w fun e w'=>e= .returned (.bool true)∧Ext w w':=by
 have HT:=Qa (fun W (hE:Ext w W)=>hT.ext hE)
 have HS:=Qa (fun W (hE:Ext w W)=>hS.ext hE)
 obtain⟨a3,c3,rfl,_⟩:=hT
 obtain⟨a4,c4,rfl,_⟩:=hS
 obtain⟨n0,hn0⟩:∃n,w.heap.size=n:=⟨_,rfl⟩
 obtain⟨w1,hw1⟩:∃w1,(w.alloc (.cells #[.slice a3 p.tides.length c3,.int .i64 p.depth,.int .i64 p.draft,.slice a4 p.swell.length c4,.int .i64 p.ll,.int .i64 p.lh] 33)).alloc (.cells #[.int .i64 lo,.int .i64 hi] 25)=w1:=⟨_,rfl⟩
 have hE1:Ext w w1:=by rw[← hw1];(with_reducible(repeat(first|exact Qb _|assumption|apply Qc|apply Qd|exact ext_plus _ _|(apply Qe;rotate_left;(simp<;>omega))|(apply Qf;rotate_left;exact ext_plus _ _)|(apply Qf;rotate_left;assumption))))
 have hb0:Blk w1 n0 #[.slice a3 p.tides.length c3,.int .i64 p.depth,.int .i64 p.draft,.slice a4 p.swell.length c4,.int .i64 p.ll,.int .i64 p.lh] 33:=by rw[← hw1];exact(Blk.new' hn0.symm _ _).alloc _
 have hb1:Blk w1 (n0+1) #[.int .i64 lo,.int .i64 hi] 25:=by rw[← hw1];exact Blk.new' (by simp[hn0]) _ _
 have HBX:=Qa (fun(y:World) (hy:Ext w1 y)=>(⟨hb0.ext hy,hb1.ext hy⟩:Blk y n0 #[.slice a3 p.tides.length c3,.int .i64 p.depth,.int .i64 p.draft,.slice a4 p.swell.length c4,.int .i64 p.ll,.int .i64 p.lh] 33∧Blk y (n0+1) #[.int .i64 lo,.int .i64 hi] 25))
 have HW1:=Qa hw1
 have HN:=Qa hn0
 have HN1:=Qa (show w.heap.size≤n0 by omega)
 clear hw1 hn0 hb0 hb1
 by_cases q3:p.tides.length≤60
 rotate_left
 ·have q3':(60:Int)<(p.tides.length:Int):=by omega
  clear q3
  go_enter Tryz.func5,Tryz.ntmps5
  go_upto_region 1 with(fail)
  simp only[HN.out]
  rw[HW1.out]
  obtain⟨k0,k2⟩:=HBX.out w1 (by(with_reducible(repeat(first|exact Qb _|assumption|apply Qc|apply Qd|exact ext_plus _ _|(apply Qe;rotate_left;(simp<;>omega))|(apply Qf;rotate_left;exact ext_plus _ _)|(apply Qf;rotate_left;assumption)))));have k1:=k0.lt;have k3:=k2.lt;replace k0:=k0.cell;replace k2:=k2.cell
  go_wp2_with (first|(go_at_call 10;refine(HPA.out _ (by(with_reducible(repeat(first|exact Qb _|assumption|apply Qc|apply Qd|exact ext_plus _ _|(apply Qe;rotate_left;(simp<;>omega))|(apply Qf;rotate_left;exact ext_plus _ _)|(apply Qf;rotate_left;assumption)))))).mono ?_;rintro e w2 ⟨rfl,hb2⟩;(try clear k0 k1 k2 k3);obtain⟨k0,k2⟩:=HBX.out w2 (by(with_reducible(repeat(first|exact Qb _|assumption|apply Qc|apply Qd|exact ext_plus _ _|(apply Qe;rotate_left;(simp<;>omega))|(apply Qf;rotate_left;exact ext_plus _ _)|(apply Qf;rotate_left;assumption)))));have k1:=k0.lt;have k3:=k2.lt;replace k0:=k0.cell;replace k2:=k2.cell)|(go_at_call 23;refine(HGA.out _).mono ?_;rintro e w3 ⟨rfl,hb3⟩;(try clear k0 k1 k2 k3);obtain⟨k0,k2⟩:=HBX.out w3 (by(with_reducible(repeat(first|exact Qb _|assumption|apply Qc|apply Qd|exact ext_plus _ _|(apply Qe;rotate_left;(simp<;>omega))|(apply Qf;rotate_left;exact ext_plus _ _)|(apply Qf;rotate_left;assumption)))));have k1:=k0.lt;have k3:=k2.lt;replace k0:=k0.cell;replace k2:=k2.cell)|(go_at_call 24;refine(HMA.out _).mono ?_;rintro e w4 ⟨rfl,rfl⟩)|(go_at_call 12;refine(known11_any _).mono ?_;rintro e wk ⟨rfl,hbk⟩))
  all_goals
   go_ret
   exact⟨rfl,by(with_reducible(repeat(first|exact Qb _|assumption|apply Qc|apply Qd|exact ext_plus _ _|(apply Qe;rotate_left;(simp<;>omega))|(apply Qf;rotate_left;exact ext_plus _ _)|(apply Qf;rotate_left;assumption))))⟩
 have q3':¬(60:Int)<(p.tides.length:Int):=by omega
 by_cases q4:p.swell.length≤70
 rotate_left
 ·have q4':(70:Int)<(p.swell.length:Int):=by omega
  clear q4
  go_enter Tryz.func5,Tryz.ntmps5
  go_upto_region 1 with(fail)
  simp only[HN.out]
  rw[HW1.out]
  obtain⟨k0,k2⟩:=HBX.out w1 (by(with_reducible(repeat(first|exact Qb _|assumption|apply Qc|apply Qd|exact ext_plus _ _|(apply Qe;rotate_left;(simp<;>omega))|(apply Qf;rotate_left;exact ext_plus _ _)|(apply Qf;rotate_left;assumption)))));have k1:=k0.lt;have k3:=k2.lt;replace k0:=k0.cell;replace k2:=k2.cell
  go_wp2_with (first|(go_at_call 10;refine(HPA.out _ (by(with_reducible(repeat(first|exact Qb _|assumption|apply Qc|apply Qd|exact ext_plus _ _|(apply Qe;rotate_left;(simp<;>omega))|(apply Qf;rotate_left;exact ext_plus _ _)|(apply Qf;rotate_left;assumption)))))).mono ?_;rintro e w2 ⟨rfl,hb2⟩;(try clear k0 k1 k2 k3);obtain⟨k0,k2⟩:=HBX.out w2 (by(with_reducible(repeat(first|exact Qb _|assumption|apply Qc|apply Qd|exact ext_plus _ _|(apply Qe;rotate_left;(simp<;>omega))|(apply Qf;rotate_left;exact ext_plus _ _)|(apply Qf;rotate_left;assumption)))));have k1:=k0.lt;have k3:=k2.lt;replace k0:=k0.cell;replace k2:=k2.cell)|(go_at_call 23;refine(HGA.out _).mono ?_;rintro e w3 ⟨rfl,hb3⟩;(try clear k0 k1 k2 k3);obtain⟨k0,k2⟩:=HBX.out w3 (by(with_reducible(repeat(first|exact Qb _|assumption|apply Qc|apply Qd|exact ext_plus _ _|(apply Qe;rotate_left;(simp<;>omega))|(apply Qf;rotate_left;exact ext_plus _ _)|(apply Qf;rotate_left;assumption)))));have k1:=k0.lt;have k3:=k2.lt;replace k0:=k0.cell;replace k2:=k2.cell)|(go_at_call 24;refine(HMA.out _).mono ?_;rintro e w4 ⟨rfl,rfl⟩)|(go_at_call 12;refine(known11_any _).mono ?_;rintro e wk ⟨rfl,hbk⟩))
  all_goals
   go_ret
   exact⟨rfl,by(with_reducible(repeat(first|exact Qb _|assumption|apply Qc|apply Qd|exact ext_plus _ _|(apply Qe;rotate_left;(simp<;>omega))|(apply Qf;rotate_left;exact ext_plus _ _)|(apply Qf;rotate_left;assumption))))⟩
 have q4':¬(70:Int)<(p.swell.length:Int):=by omega
 have hpa:=fun W hE=>Sh.pass_any p (.slice a3 p.tides.length c3) (.slice a4 p.swell.length c4) W (HT.out W hE) (HS.out W hE) (by omega) (by omega)
 have hga:=fun W=>Sh.gap_any lo hi W
 have hma:=fun W=>Sh.many_any many W
 obtain⟨Bp,hBp⟩:∃B,Sh.passB p=B:=⟨_,rfl⟩
 simp only[hBp]at hpa
 have HPA:=Qa hpa
 have HBp:=Qa hBp
 clear hpa hBp
 cases Bp with
 | false =>
  go_enter Tryz.func5,Tryz.ntmps5
  go_upto_region 1 with(fail)
  simp only[HN.out]
  rw[HW1.out]
  obtain⟨k0,k2⟩:=HBX.out w1 (by(with_reducible(repeat(first|exact Qb _|assumption|apply Qc|apply Qd|exact ext_plus _ _|(apply Qe;rotate_left;(simp<;>omega))|(apply Qf;rotate_left;exact ext_plus _ _)|(apply Qf;rotate_left;assumption)))));have k1:=k0.lt;have k3:=k2.lt;replace k0:=k0.cell;replace k2:=k2.cell
  go_wp2_with (first|(go_at_call 10;refine(HPA.out _ (by(with_reducible(repeat(first|exact Qb _|assumption|apply Qc|apply Qd|exact ext_plus _ _|(apply Qe;rotate_left;(simp<;>omega))|(apply Qf;rotate_left;exact ext_plus _ _)|(apply Qf;rotate_left;assumption)))))).mono ?_;rintro e w2 ⟨rfl,hb2⟩;(try clear k0 k1 k2 k3);obtain⟨k0,k2⟩:=HBX.out w2 (by(with_reducible(repeat(first|exact Qb _|assumption|apply Qc|apply Qd|exact ext_plus _ _|(apply Qe;rotate_left;(simp<;>omega))|(apply Qf;rotate_left;exact ext_plus _ _)|(apply Qf;rotate_left;assumption)))));have k1:=k0.lt;have k3:=k2.lt;replace k0:=k0.cell;replace k2:=k2.cell)|(go_at_call 23;refine(HGA.out _).mono ?_;rintro e w3 ⟨rfl,hb3⟩;(try clear k0 k1 k2 k3);obtain⟨k0,k2⟩:=HBX.out w3 (by(with_reducible(repeat(first|exact Qb _|assumption|apply Qc|apply Qd|exact ext_plus _ _|(apply Qe;rotate_left;(simp<;>omega))|(apply Qf;rotate_left;exact ext_plus _ _)|(apply Qf;rotate_left;assumption)))));have k1:=k0.lt;have k3:=k2.lt;replace k0:=k0.cell;replace k2:=k2.cell)|(go_at_call 24;refine(HMA.out _).mono ?_;rintro e w4 ⟨rfl,rfl⟩)|(go_at_call 12;refine(known11_any _).mono ?_;rintro e wk ⟨rfl,hbk⟩))
  all_goals
   go_ret
   exact⟨rfl,by(with_reducible(repeat(first|exact Qb _|assumption|apply Qc|apply Qd|exact ext_plus _ _|(apply Qe;rotate_left;(simp<;>omega))|(apply Qf;rotate_left;exact ext_plus _ _)|(apply Qf;rotate_left;assumption))))⟩
 | true =>
  obtain⟨Bg,hBg⟩:∃B,Sh.spanB lo hi 1 60=B:=⟨_,rfl⟩
  simp only[hBg]at hga
  have HGA:=Qa hga
  have HBg:=Qa hBg
  clear hga hBg
  cases Bg with
  | false =>
   go_enter Tryz.func5,Tryz.ntmps5
   go_upto_region 1 with(fail)
   simp only[HN.out]
   rw[HW1.out]
   obtain⟨k0,k2⟩:=HBX.out w1 (by(with_reducible(repeat(first|exact Qb _|assumption|apply Qc|apply Qd|exact ext_plus _ _|(apply Qe;rotate_left;(simp<;>omega))|(apply Qf;rotate_left;exact ext_plus _ _)|(apply Qf;rotate_left;assumption)))));have k1:=k0.lt;have k3:=k2.lt;replace k0:=k0.cell;replace k2:=k2.cell
   go_wp2_with (first|(go_at_call 10;refine(HPA.out _ (by(with_reducible(repeat(first|exact Qb _|assumption|apply Qc|apply Qd|exact ext_plus _ _|(apply Qe;rotate_left;(simp<;>omega))|(apply Qf;rotate_left;exact ext_plus _ _)|(apply Qf;rotate_left;assumption)))))).mono ?_;rintro e w2 ⟨rfl,hb2⟩;(try clear k0 k1 k2 k3);obtain⟨k0,k2⟩:=HBX.out w2 (by(with_reducible(repeat(first|exact Qb _|assumption|apply Qc|apply Qd|exact ext_plus _ _|(apply Qe;rotate_left;(simp<;>omega))|(apply Qf;rotate_left;exact ext_plus _ _)|(apply Qf;rotate_left;assumption)))));have k1:=k0.lt;have k3:=k2.lt;replace k0:=k0.cell;replace k2:=k2.cell)|(go_at_call 23;refine(HGA.out _).mono ?_;rintro e w3 ⟨rfl,hb3⟩;(try clear k0 k1 k2 k3);obtain⟨k0,k2⟩:=HBX.out w3 (by(with_reducible(repeat(first|exact Qb _|assumption|apply Qc|apply Qd|exact ext_plus _ _|(apply Qe;rotate_left;(simp<;>omega))|(apply Qf;rotate_left;exact ext_plus _ _)|(apply Qf;rotate_left;assumption)))));have k1:=k0.lt;have k3:=k2.lt;replace k0:=k0.cell;replace k2:=k2.cell)|(go_at_call 24;refine(HMA.out _).mono ?_;rintro e w4 ⟨rfl,rfl⟩)|(go_at_call 12;refine(known11_any _).mono ?_;rintro e wk ⟨rfl,hbk⟩))
   all_goals
    go_ret
    exact⟨rfl,by(with_reducible(repeat(first|exact Qb _|assumption|apply Qc|apply Qd|exact ext_plus _ _|(apply Qe;rotate_left;(simp<;>omega))|(apply Qf;rotate_left;exact ext_plus _ _)|(apply Qf;rotate_left;assumption))))⟩
  | true =>
   obtain⟨Bm,hBm⟩:∃B,Sh.within many 1 8=B:=⟨_,rfl⟩
   simp only[hBm]at hma
   have HMA:=Qa hma
   have HBm:=Qa hBm
   clear hma hBm
   cases Bm with
   | false =>
    go_enter Tryz.func5,Tryz.ntmps5
    go_upto_region 1 with(fail)
    simp only[HN.out]
    rw[HW1.out]
    obtain⟨k0,k2⟩:=HBX.out w1 (by(with_reducible(repeat(first|exact Qb _|assumption|apply Qc|apply Qd|exact ext_plus _ _|(apply Qe;rotate_left;(simp<;>omega))|(apply Qf;rotate_left;exact ext_plus _ _)|(apply Qf;rotate_left;assumption)))));have k1:=k0.lt;have k3:=k2.lt;replace k0:=k0.cell;replace k2:=k2.cell
    go_wp2_with (first|(go_at_call 10;refine(HPA.out _ (by(with_reducible(repeat(first|exact Qb _|assumption|apply Qc|apply Qd|exact ext_plus _ _|(apply Qe;rotate_left;(simp<;>omega))|(apply Qf;rotate_left;exact ext_plus _ _)|(apply Qf;rotate_left;assumption)))))).mono ?_;rintro e w2 ⟨rfl,hb2⟩;(try clear k0 k1 k2 k3);obtain⟨k0,k2⟩:=HBX.out w2 (by(with_reducible(repeat(first|exact Qb _|assumption|apply Qc|apply Qd|exact ext_plus _ _|(apply Qe;rotate_left;(simp<;>omega))|(apply Qf;rotate_left;exact ext_plus _ _)|(apply Qf;rotate_left;assumption)))));have k1:=k0.lt;have k3:=k2.lt;replace k0:=k0.cell;replace k2:=k2.cell)|(go_at_call 23;refine(HGA.out _).mono ?_;rintro e w3 ⟨rfl,hb3⟩;(try clear k0 k1 k2 k3);obtain⟨k0,k2⟩:=HBX.out w3 (by(with_reducible(repeat(first|exact Qb _|assumption|apply Qc|apply Qd|exact ext_plus _ _|(apply Qe;rotate_left;(simp<;>omega))|(apply Qf;rotate_left;exact ext_plus _ _)|(apply Qf;rotate_left;assumption)))));have k1:=k0.lt;have k3:=k2.lt;replace k0:=k0.cell;replace k2:=k2.cell)|(go_at_call 24;refine(HMA.out _).mono ?_;rintro e w4 ⟨rfl,rfl⟩)|(go_at_call 12;refine(known11_any _).mono ?_;rintro e wk ⟨rfl,hbk⟩))
    all_goals
     go_ret
     exact⟨rfl,by(with_reducible(repeat(first|exact Qb _|assumption|apply Qc|apply Qd|exact ext_plus _ _|(apply Qe;rotate_left;(simp<;>omega))|(apply Qf;rotate_left;exact ext_plus _ _)|(apply Qf;rotate_left;assumption))))⟩
   | true =>
    by_cases z1:many≤7
    rotate_left
    ·have z1':7<many:=by omega
     clear z1
     go_enter Tryz.func5,Tryz.ntmps5
     go_upto_region 1 with(fail)
     simp only[HN.out]
     rw[HW1.out]
     obtain⟨k0,k2⟩:=HBX.out w1 (by(with_reducible(repeat(first|exact Qb _|assumption|apply Qc|apply Qd|exact ext_plus _ _|(apply Qe;rotate_left;(simp<;>omega))|(apply Qf;rotate_left;exact ext_plus _ _)|(apply Qf;rotate_left;assumption)))));have k1:=k0.lt;have k3:=k2.lt;replace k0:=k0.cell;replace k2:=k2.cell
     go_wp2_with (first|(go_at_call 10;refine(HPA.out _ (by(with_reducible(repeat(first|exact Qb _|assumption|apply Qc|apply Qd|exact ext_plus _ _|(apply Qe;rotate_left;(simp<;>omega))|(apply Qf;rotate_left;exact ext_plus _ _)|(apply Qf;rotate_left;assumption)))))).mono ?_;rintro e w2 ⟨rfl,hb2⟩;(try clear k0 k1 k2 k3);obtain⟨k0,k2⟩:=HBX.out w2 (by(with_reducible(repeat(first|exact Qb _|assumption|apply Qc|apply Qd|exact ext_plus _ _|(apply Qe;rotate_left;(simp<;>omega))|(apply Qf;rotate_left;exact ext_plus _ _)|(apply Qf;rotate_left;assumption)))));have k1:=k0.lt;have k3:=k2.lt;replace k0:=k0.cell;replace k2:=k2.cell)|(go_at_call 23;refine(HGA.out _).mono ?_;rintro e w3 ⟨rfl,hb3⟩;(try clear k0 k1 k2 k3);obtain⟨k0,k2⟩:=HBX.out w3 (by(with_reducible(repeat(first|exact Qb _|assumption|apply Qc|apply Qd|exact ext_plus _ _|(apply Qe;rotate_left;(simp<;>omega))|(apply Qf;rotate_left;exact ext_plus _ _)|(apply Qf;rotate_left;assumption)))));have k1:=k0.lt;have k3:=k2.lt;replace k0:=k0.cell;replace k2:=k2.cell)|(go_at_call 24;refine(HMA.out _).mono ?_;rintro e w4 ⟨rfl,rfl⟩)|(go_at_call 12;refine(known11_any _).mono ?_;rintro e wk ⟨rfl,hbk⟩))
     all_goals
      go_ret
      exact⟨rfl,by(with_reducible(repeat(first|exact Qb _|assumption|apply Qc|apply Qd|exact ext_plus _ _|(apply Qe;rotate_left;(simp<;>omega))|(apply Qf;rotate_left;exact ext_plus _ _)|(apply Qf;rotate_left;assumption))))⟩
    have z1':¬7<many:=by omega
    by_cases z2:0≤wait
    rotate_left
    ·have z2':wait<0:=by omega
     clear z2
     go_enter Tryz.func5,Tryz.ntmps5
     go_upto_region 1 with(fail)
     simp only[HN.out]
     rw[HW1.out]
     obtain⟨k0,k2⟩:=HBX.out w1 (by(with_reducible(repeat(first|exact Qb _|assumption|apply Qc|apply Qd|exact ext_plus _ _|(apply Qe;rotate_left;(simp<;>omega))|(apply Qf;rotate_left;exact ext_plus _ _)|(apply Qf;rotate_left;assumption)))));have k1:=k0.lt;have k3:=k2.lt;replace k0:=k0.cell;replace k2:=k2.cell
     go_wp2_with (first|(go_at_call 10;refine(HPA.out _ (by(with_reducible(repeat(first|exact Qb _|assumption|apply Qc|apply Qd|exact ext_plus _ _|(apply Qe;rotate_left;(simp<;>omega))|(apply Qf;rotate_left;exact ext_plus _ _)|(apply Qf;rotate_left;assumption)))))).mono ?_;rintro e w2 ⟨rfl,hb2⟩;(try clear k0 k1 k2 k3);obtain⟨k0,k2⟩:=HBX.out w2 (by(with_reducible(repeat(first|exact Qb _|assumption|apply Qc|apply Qd|exact ext_plus _ _|(apply Qe;rotate_left;(simp<;>omega))|(apply Qf;rotate_left;exact ext_plus _ _)|(apply Qf;rotate_left;assumption)))));have k1:=k0.lt;have k3:=k2.lt;replace k0:=k0.cell;replace k2:=k2.cell)|(go_at_call 23;refine(HGA.out _).mono ?_;rintro e w3 ⟨rfl,hb3⟩;(try clear k0 k1 k2 k3);obtain⟨k0,k2⟩:=HBX.out w3 (by(with_reducible(repeat(first|exact Qb _|assumption|apply Qc|apply Qd|exact ext_plus _ _|(apply Qe;rotate_left;(simp<;>omega))|(apply Qf;rotate_left;exact ext_plus _ _)|(apply Qf;rotate_left;assumption)))));have k1:=k0.lt;have k3:=k2.lt;replace k0:=k0.cell;replace k2:=k2.cell)|(go_at_call 24;refine(HMA.out _).mono ?_;rintro e w4 ⟨rfl,rfl⟩)|(go_at_call 12;refine(known11_any _).mono ?_;rintro e wk ⟨rfl,hbk⟩))
     all_goals
      go_ret
      exact⟨rfl,by(with_reducible(repeat(first|exact Qb _|assumption|apply Qc|apply Qd|exact ext_plus _ _|(apply Qe;rotate_left;(simp<;>omega))|(apply Qf;rotate_left;exact ext_plus _ _)|(apply Qf;rotate_left;assumption))))⟩
    have z2':¬wait<0:=by omega
    by_cases z3:wait≤40
    rotate_left
    ·have z3':40<wait:=by omega
     clear z3
     go_enter Tryz.func5,Tryz.ntmps5
     go_upto_region 1 with(fail)
     simp only[HN.out]
     rw[HW1.out]
     obtain⟨k0,k2⟩:=HBX.out w1 (by(with_reducible(repeat(first|exact Qb _|assumption|apply Qc|apply Qd|exact ext_plus _ _|(apply Qe;rotate_left;(simp<;>omega))|(apply Qf;rotate_left;exact ext_plus _ _)|(apply Qf;rotate_left;assumption)))));have k1:=k0.lt;have k3:=k2.lt;replace k0:=k0.cell;replace k2:=k2.cell
     go_wp2_with (first|(go_at_call 10;refine(HPA.out _ (by(with_reducible(repeat(first|exact Qb _|assumption|apply Qc|apply Qd|exact ext_plus _ _|(apply Qe;rotate_left;(simp<;>omega))|(apply Qf;rotate_left;exact ext_plus _ _)|(apply Qf;rotate_left;assumption)))))).mono ?_;rintro e w2 ⟨rfl,hb2⟩;(try clear k0 k1 k2 k3);obtain⟨k0,k2⟩:=HBX.out w2 (by(with_reducible(repeat(first|exact Qb _|assumption|apply Qc|apply Qd|exact ext_plus _ _|(apply Qe;rotate_left;(simp<;>omega))|(apply Qf;rotate_left;exact ext_plus _ _)|(apply Qf;rotate_left;assumption)))));have k1:=k0.lt;have k3:=k2.lt;replace k0:=k0.cell;replace k2:=k2.cell)|(go_at_call 23;refine(HGA.out _).mono ?_;rintro e w3 ⟨rfl,hb3⟩;(try clear k0 k1 k2 k3);obtain⟨k0,k2⟩:=HBX.out w3 (by(with_reducible(repeat(first|exact Qb _|assumption|apply Qc|apply Qd|exact ext_plus _ _|(apply Qe;rotate_left;(simp<;>omega))|(apply Qf;rotate_left;exact ext_plus _ _)|(apply Qf;rotate_left;assumption)))));have k1:=k0.lt;have k3:=k2.lt;replace k0:=k0.cell;replace k2:=k2.cell)|(go_at_call 24;refine(HMA.out _).mono ?_;rintro e w4 ⟨rfl,rfl⟩)|(go_at_call 12;refine(known11_any _).mono ?_;rintro e wk ⟨rfl,hbk⟩))
     all_goals
      go_ret
      exact⟨rfl,by(with_reducible(repeat(first|exact Qb _|assumption|apply Qc|apply Qd|exact ext_plus _ _|(apply Qe;rotate_left;(simp<;>omega))|(apply Qf;rotate_left;exact ext_plus _ _)|(apply Qf;rotate_left;assumption))))⟩
    have z3':¬40<wait:=by omega
    have hmm:=Sh.within_iff.1 HBm.out
    obtain⟨m,rfl⟩:=Int.eq_ofNat_of_zero_le (show 0≤many by omega)
    have hgg:1≤lo∧lo≤hi∧hi≤60:=by have:=HBg.out;simp[Sh.spanB]at this;omega
    have HGG:=Qa hgg
    have HMM:=Qa (show 1≤m∧m≤7 by omega)
    have HWW:=Qa (⟨z2,z3⟩:0≤wait∧wait≤40)
    clear hmm hgg
    go_enter Tryz.func5,Tryz.ntmps5
    go_upto_region 1 with(fail)
    simp only[HN.out]
    rw[HW1.out]
    obtain⟨k0,k2⟩:=HBX.out w1 (by(with_reducible(repeat(first|exact Qb _|assumption|apply Qc|apply Qd|exact ext_plus _ _|(apply Qe;rotate_left;(simp<;>omega))|(apply Qf;rotate_left;exact ext_plus _ _)|(apply Qf;rotate_left;assumption)))));have k1:=k0.lt;have k3:=k2.lt;replace k0:=k0.cell;replace k2:=k2.cell
    go_upto_if 52 with(first|(go_at_call 10;refine(HPA.out _ (by(with_reducible(repeat(first|exact Qb _|assumption|apply Qc|apply Qd|exact ext_plus _ _|(apply Qe;rotate_left;(simp<;>omega))|(apply Qf;rotate_left;exact ext_plus _ _)|(apply Qf;rotate_left;assumption)))))).mono ?_;rintro e w2 ⟨rfl,hb2⟩;(try clear k0 k1 k2 k3);obtain⟨k0,k2⟩:=HBX.out w2 (by(with_reducible(repeat(first|exact Qb _|assumption|apply Qc|apply Qd|exact ext_plus _ _|(apply Qe;rotate_left;(simp<;>omega))|(apply Qf;rotate_left;exact ext_plus _ _)|(apply Qf;rotate_left;assumption)))));have k1:=k0.lt;have k3:=k2.lt;replace k0:=k0.cell;replace k2:=k2.cell)|(go_at_call 23;refine(HGA.out _).mono ?_;rintro e w3 ⟨rfl,hb3⟩;(try clear k0 k1 k2 k3);obtain⟨k0,k2⟩:=HBX.out w3 (by(with_reducible(repeat(first|exact Qb _|assumption|apply Qc|apply Qd|exact ext_plus _ _|(apply Qe;rotate_left;(simp<;>omega))|(apply Qf;rotate_left;exact ext_plus _ _)|(apply Qf;rotate_left;assumption)))));have k1:=k0.lt;have k3:=k2.lt;replace k0:=k0.cell;replace k2:=k2.cell)|(go_at_call 24;refine(HMA.out _).mono ?_;rintro e w4 ⟨rfl,rfl⟩)|(go_at_call 12;refine(known11_any _).mono ?_;rintro e wk ⟨rfl,hbk⟩))
    rename Act→World→Prop=>KK
    rename ∀_ _,_→KK _ _=>hKK
    have HKK:=Qa hKK
    clear hKK
    go_wp2
    exact HKK.out _ _ (qua_tail2 (w:=w) (w1:=w1) (a3:=a3) (a4:=a4) w3 HT HS HBX (by(with_reducible(repeat(first|exact Qb _|assumption|apply Qc|apply Qd|exact ext_plus _ _|(apply Qe;rotate_left;(simp<;>omega))|(apply Qf;rotate_left;exact ext_plus _ _)|(apply Qf;rotate_left;assumption))))) (by(with_reducible(repeat(first|exact Qb _|assumption|apply Qc|apply Qd|exact ext_plus _ _|(apply Qe;rotate_left;(simp<;>omega))|(apply Qf;rotate_left;exact ext_plus _ _)|(apply Qf;rotate_left;assumption))))) HBp.out HGG.out HMM.out HWW.out HN1.out)
end Go.Proofs.YtgloajbgphcloaaGreat
