/- TopFished of a fleet or bids that are not as defined. -/
import Derived.Test.YtgloajbgphcloaaGreatKn
import Derived.Test.YtgloajbgphcloaaGreatFd
import Derived.Test.YtgloajbgphcloaaGreatRfD1
import Derived.Test.YtgloajbgphcloaaGreatTl
namespace Go.Proofs.YtgloajbgphcloaaGreat
set_option linter.unusedVariables false
set_option linter.unusedSimpArgs false
open Go.RowKit
open Ext renaming alloc → Qc, drew → Qd, refl → Qb, setCell → Qe, trans → Qf
open Lib renaming hid → Qa
set_option maxRecDepth 1000000 in
set_option maxHeartbeats 64000000 in
theorem topFished_badsea (r:Rf.R.Reef) (vp:Value) (plan:List Int) (vl:Value) (place:Int) (s:Fl.Sea) (vr vz vb:Value) (bl:List Fl.Bid) (vd:Value) (zone boat:Int) (t:Rf.R.Truth) (vs vg vt:Value) (w:World) (hP:Rf.Places w vp r.places) (hPl:Ints w vl plan) (hRo:Ints w vr s.roads) (hZo:Ints w vz s.zones) (hBe:Ints w vb s.berths) (hBi:Fl.Bids w vd bl) (hS:Ints w vs t.starts) (hG:Rf.Lists w vg t.grows) (hT:Rf.Lists w vt t.takes) (hA:(r.places.length≤8∧plan.length≤8∧Rf.R.reefB r=true∧Rf.R.planB r plan=true∧0≤place∧place<(r.places.length:Int))) (hB:¬(s.roads.length≤12∧s.zones.length≤6∧s.berths.length≤6∧Fl.seaB s=true∧bl.length≤10∧bl.all (Fl.bidB s.zones.length s.days)=true)) :
  Calls Tryz.prog 7 #[.agg (Rf.reefV r vp),vl,.int .i64 place,.agg (Fl.seaV s vr vz vb),vd,.int .i64 zone,.int .i64 boat,.agg #[vs,vg,vt]] w fun e w'=>e= .returned (.bool true)∧Ext w w':=by
 have HPA:=Qa (fun W (hE:Ext w W)=>hP.ext hE)
 have HPL:=Qa (fun W (hE:Ext w W)=>hPl.ext hE)
 have HRO:=Qa (fun W (hE:Ext w W)=>hRo.ext hE)
 have HZO:=Qa (fun W (hE:Ext w W)=>hZo.ext hE)
 have HBE:=Qa (fun W (hE:Ext w W)=>hBe.ext hE)
 have HBI:=Qa (fun W (hE:Ext w W)=>hBi.ext hE)
 have HST:=Qa (fun W (hE:Ext w W)=>hS.ext hE)
 have HGR:=Qa (fun W (hE:Ext w W)=>hG.ext hE)
 have HTA:=Qa (fun W (hE:Ext w W)=>hT.ext hE)
 obtain⟨a1,c1,rfl,_⟩:=hP
 obtain⟨a2,c2,rfl,_⟩:=hPl
 obtain⟨a3,c3,rfl,_⟩:=hRo
 obtain⟨a4,c4,rfl,_⟩:=hZo
 obtain⟨a5,c5,rfl,_⟩:=hBe
 obtain⟨a6,c6,rfl,_⟩:=hBi
 obtain⟨a7,c7,rfl,_⟩:=hS
 obtain⟨a8,c8,rfl,_⟩:=hG
 obtain⟨a9,c9,rfl,_⟩:=hT
 obtain⟨n0,hn0⟩:∃n,w.heap.size=n:=⟨_,rfl⟩
 obtain⟨w1,hw1⟩:∃w1,((w.alloc (.cells #[.slice a1 r.places.length c1,.int .i64 r.miss,.int .i64 r.seasons] 111)).alloc (.cells #[.int .i64 s.cells,.slice a3 s.roads.length c3,.slice a4 s.zones.length c4,.slice a5 s.berths.length c5,.int .i64 s.days] 89)).alloc (.cells #[.slice a7 t.starts.length c7,.slice a8 t.grows.length c8,.slice a9 t.takes.length c9] 114)=w1:=⟨_,rfl⟩
 have hE1:Ext w w1:=by rw[← hw1];(with_reducible(repeat(first|exact Qb _|assumption|apply Qc|apply Qd|exact ext_plus _ _|(apply Qe;rotate_left;(simp<;>omega))|(apply Qf;rotate_left;exact ext_plus _ _)|(apply Qf;rotate_left;assumption))))
 have hb0:Blk w1 n0 #[.slice a1 r.places.length c1,.int .i64 r.miss,.int .i64 r.seasons] 111:=by rw[← hw1];exact((Blk.new' hn0.symm _ _).alloc _).alloc _
 have hb1:Blk w1 (n0+1) #[.int .i64 s.cells,.slice a3 s.roads.length c3,.slice a4 s.zones.length c4,.slice a5 s.berths.length c5,.int .i64 s.days] 89:=by rw[← hw1];exact(Blk.new' (by simp[hn0]) _ _).alloc _
 have hb2:Blk w1 (n0+1+1) #[.slice a7 t.starts.length c7,.slice a8 t.grows.length c8,.slice a9 t.takes.length c9] 114:=by rw[← hw1];exact Blk.new' (by simp[hn0]) _ _
 have HBX:=Qa (fun(y:World) (hy:Ext w1 y)=>(⟨(hb0.ext hy).cell,(hb0.ext hy).lt,(hb1.ext hy).cell,(hb1.ext hy).lt,(hb2.ext hy).cell,(hb2.ext hy).lt⟩:(∀ o,y.cell? ⟨n0,o,none⟩=(#[.slice a1 r.places.length c1,.int .i64 r.miss,.int .i64 r.seasons]:Array Value)[o]?)∧n0<y.heap.size∧(∀ o,y.cell? ⟨n0+1,o,none⟩=(#[.int .i64 s.cells,.slice a3 s.roads.length c3,.slice a4 s.zones.length c4,.slice a5 s.berths.length c5,.int .i64 s.days]:Array Value)[o]?)∧n0+1<y.heap.size∧(∀ o,y.cell? ⟨n0+1+1,o,none⟩=(#[.slice a7 t.starts.length c7,.slice a8 t.grows.length c8,.slice a9 t.takes.length c9]:Array Value)[o]?)∧n0+1+1<y.heap.size))
 have HW1:=Qa hw1
 have HN:=Qa hn0
 clear hw1 hn0 hb0 hb1 hb2
 obtain⟨g1,g2,g3,g4,g5,g6⟩:=hA
 have q1:¬(8:Int)<(r.places.length:Int):=by omega
 have q2:¬(8:Int)<(plan.length:Int):=by omega
 have q3:¬place<0:=by omega
 have q4:¬(r.places.length:Int)≤place:=by omega
 have hrf:=fun W (hx:Ext w W)=>Rf.dreef_any r _ W (HPA.out W hx) (by omega)
 simp only[g3]at hrf
 have HRF:=Qa hrf
 have hpn:=fun W (hx:Ext w W)=>Rf.dplan_any r plan _ _ W (HPA.out W hx) (HPL.out W hx) (by omega) (by omega)
 simp only[g4]at hpn
 have HPN:=Qa hpn
 have HB1:=Qa g3
 have HB2:=Qa g4
 clear hrf hpn g1 g2 g3 g4 g5 g6
 by_cases q5:(12:Int)<(s.roads.length:Int)
 rotate_left
 by_cases q6:(6:Int)<(s.zones.length:Int)
 rotate_left
 by_cases q7:(6:Int)<(s.berths.length:Int)
 rotate_left
 have hse:=fun W (hx:Ext w W)=>Fl.fsea_any s _ _ _ W (HRO.out W hx) (HZO.out W hx) (HBE.out W hx) (by omega) (by omega) (by omega)
 obtain⟨B3,hB3⟩:∃B,Fl.seaB s=B:=⟨_,rfl⟩
 simp only[hB3]at hse
 have HSE:=Qa hse
 have HB3:=Qa hB3
 clear hse hB3
 cases B3
 rotate_left
 by_cases q8:(10:Int)<(bl.length:Int)
 rotate_left
 have O:=Fl.ok_of HB3.out
 have hbd:=fun W (hx:Ext w W)=>Fl.fbids_any s bl (.slice a3 s.roads.length c3) (.slice a4 s.zones.length c4) (.slice a5 s.berths.length c5) _ W ⟨_,_,_,rfl⟩ ⟨_,_,rfl⟩ O.zonesN.2 ⟨_,_,_,rfl⟩ (HBI.out W hx) (by omega) O.days
 obtain⟨B4,hB4⟩:∃B,bl.all (Fl.bidB s.zones.length s.days)=B:=⟨_,rfl⟩
 simp only[hB4]at hbd
 have HBD:=Qa hbd
 have HB4:=Qa hB4
 clear hbd hB4 O
 cases B4
 rotate_left
 ·exact absurd ⟨by omega,by omega,by omega,HB3.out,by omega,HB4.out⟩ hB
 all_goals
  go_enter Tryz.func7,Tryz.ntmps7
  go_upto_region 1 with(fail)
  simp only[HN.out]
  rw[HW1.out]
  obtain⟨k0,k1,k2,k3,k4,k5⟩:=HBX.out w1 (Qb _)
  go_wp2_with (first|(go_at_call 35;refine(HRF.out _ (by(with_reducible(repeat(first|exact Qb _|assumption|apply Qc|apply Qd|exact ext_plus _ _|(apply Qe;rotate_left;(simp<;>omega))|(apply Qf;rotate_left;exact ext_plus _ _)|(apply Qf;rotate_left;assumption)))))).mono ?_;rintro e w2 ⟨rfl,hE2⟩;(try clear k0 k1 k2 k3 k4 k5);obtain⟨k0,k1,k2,k3,k4,k5⟩:=HBX.out w2 (by(with_reducible(repeat(first|exact Qb _|assumption|apply Qc|apply Qd|exact ext_plus _ _|(apply Qe;rotate_left;(simp<;>omega))|(apply Qf;rotate_left;exact ext_plus _ _)|(apply Qf;rotate_left;assumption))))))|(go_at_call 36;refine(HPN.out _ (by(with_reducible(repeat(first|exact Qb _|assumption|apply Qc|apply Qd|exact ext_plus _ _|(apply Qe;rotate_left;(simp<;>omega))|(apply Qf;rotate_left;exact ext_plus _ _)|(apply Qf;rotate_left;assumption)))))).mono ?_;rintro e w3 ⟨rfl,hE3⟩;(try clear k0 k1 k2 k3 k4 k5);obtain⟨k0,k1,k2,k3,k4,k5⟩:=HBX.out w3 (by(with_reducible(repeat(first|exact Qb _|assumption|apply Qc|apply Qd|exact ext_plus _ _|(apply Qe;rotate_left;(simp<;>omega))|(apply Qf;rotate_left;exact ext_plus _ _)|(apply Qf;rotate_left;assumption))))))|(go_at_call 28;refine(HSE.out _ (by(with_reducible(repeat(first|exact Qb _|assumption|apply Qc|apply Qd|exact ext_plus _ _|(apply Qe;rotate_left;(simp<;>omega))|(apply Qf;rotate_left;exact ext_plus _ _)|(apply Qf;rotate_left;assumption)))))).mono ?_;rintro e w4 ⟨rfl,hE4⟩;(try clear k0 k1 k2 k3 k4 k5);obtain⟨k0,k1,k2,k3,k4,k5⟩:=HBX.out w4 (by(with_reducible(repeat(first|exact Qb _|assumption|apply Qc|apply Qd|exact ext_plus _ _|(apply Qe;rotate_left;(simp<;>omega))|(apply Qf;rotate_left;exact ext_plus _ _)|(apply Qf;rotate_left;assumption))))))|(go_at_call 37;refine(HBD.out _ (by(with_reducible(repeat(first|exact Qb _|assumption|apply Qc|apply Qd|exact ext_plus _ _|(apply Qe;rotate_left;(simp<;>omega))|(apply Qf;rotate_left;exact ext_plus _ _)|(apply Qf;rotate_left;assumption)))))).mono ?_;rintro e w5 ⟨rfl,hE5⟩;(try clear k0 k1 k2 k3 k4 k5);obtain⟨k0,k1,k2,k3,k4,k5⟩:=HBX.out w5 (by(with_reducible(repeat(first|exact Qb _|assumption|apply Qc|apply Qd|exact ext_plus _ _|(apply Qe;rotate_left;(simp<;>omega))|(apply Qf;rotate_left;exact ext_plus _ _)|(apply Qf;rotate_left;assumption))))))|(go_at_call 12;refine(known11_any _).mono ?_;rintro e wk ⟨rfl,hbk⟩))
  go_ret
  exact⟨rfl,by(with_reducible(repeat(first|exact Qb _|assumption|apply Qc|apply Qd|exact ext_plus _ _|(apply Qe;rotate_left;(simp<;>omega))|(apply Qf;rotate_left;exact ext_plus _ _)|(apply Qf;rotate_left;assumption))))⟩
end Go.Proofs.YtgloajbgphcloaaGreat
