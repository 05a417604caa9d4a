/- The law TopFished: the tails of its code. -/
import Derived.Test.YtgloajbgphcloaaGreatKn
import Derived.Test.YtgloajbgphcloaaGreatFd
import Derived.Test.YtgloajbgphcloaaGreatRfG1
import Derived.Test.YtgloajbgphcloaaGreatRfD12
import Derived.Test.YtgloajbgphcloaaGreatRfD4
import Derived.Test.YtgloajbgphcloaaGreatTl
namespace Go.Proofs.YtgloajbgphcloaaGreat
set_option linter.unusedVariables false
set_option linter.unusedSimpArgs false
open Go.RowKit
open Bool renaming and_eq_true → Qa
open Ext renaming alloc → Qe, drew → Qf, refl → Qd, setCell → Qg, trans → Qh
open Int renaming mul_nonneg → Qq
open IntWalk renaming i64_in → Qc
open Lib renaming hid → Qb
open List renaming append_eq → Qi, cons_append → Qj, drop_succ_cons → Qn, drop_zero → Qo, nil_append → Qk, take_succ_cons → Ql, take_zero → Qm
open Nat renaming lt_of_lt_of_le → Qp
noncomputable def fisT (n:Nat):Code:=codeTail n (Tryz.f7.body.getD .skip)
set_option maxRecDepth 1000000 in
set_option maxHeartbeats 64000000 in
theorem fis_tail11 {u0 u3 u4 u5 u6 u7 u9 u10 u12 u13 u14 u17 u18 u19 u20 u21 u22 u23 u25 u26 u27 u28 u29 u30 u31 u32 u33 u34 u35 u36 u37 u38 u39 u40 u41 u42 u43 u44 u45 u46 u47 u48 u49 u50 u51 u52 u53 u54 u55 u56 u57 u58 u59 u60 u61 u62 u63 u64 u65 u66 u67 u68 u69 u70 u71 u72 u73 u74 u75 u76 u77 u78 u79 u80 u81 u82 u83 u84 u85 u86 u87 u88 u89 u90 u91 u92 u93 u94 u95 u96 u97 u98 u99 u100 u101 u102 u103 u104 u105 u106 u107 u108 u109 u110 u111 u112 u113 u114 u115 u116 u117 u118 u119 u120 u121 u122 u123 u124 u125 u126 u127 u128 u129 u130 u131 u132 u133 u134 u135 u136 u137 u138 u139 u140 u141 u142 u143 u144 u145 u146 u147 u148 u149 u150 u151 u152 u153 u154 u155 u156 u157 u158 u159 u160 u161 u162 u163 u164 u165 u166 u167 u168 u169 u170 u171 u172 u173 u174 u175 u176 u177 u178 u179 u180 u181 u182 u183 u184 u185 u186 u187 u188 u189 u190 u191 u192 u193 u194 u195 u196 u197 u198 u199 u200 u201 u202 u203 u204 u205 u206 u207 u208 u209 u210 u211 u212 u213 u214 u215 u216 u217 u218 u219 u220 u221 u222 u223 u224 u225 u226 u227 u228 u229 u230 u231 u232 u233 u234 u235 u236 u237 u238 u239 u240 u241 u242 u243 u244 u245 u246 u247 u248 u249 u250 u251 u252 u253 u254 u255 u256 u257 u258 u259 u260 u261 u262 u263 u264 u265 u266 u267 u268:Value} {M:Int} {bx g cap:Nat} {r:Rf.R.Reef} {plan:List Int} {s:Fl.Sea} {bl:List Fl.Bid} {t:Rf.R.Truth} {k:Nat} {w w1:World} {n0 c1 c2 c3 c4 c5 c6 c7 c8 c9:Nat} {a1 a2 a3 a4 a5 a6 a7 a8 a9:Option Addr} (wz:World) (HPA:Hid (∀ W,Ext w W→Rf.Places W (.slice a1 r.places.length c1) r.places)) (HPL:Hid (∀ W,Ext w W→Ints W (.slice a2 plan.length c2) plan)) (HRO:Hid (∀ W,Ext w W→Ints W (.slice a3 s.roads.length c3) s.roads)) (HZO:Hid (∀ W,Ext w W→Ints W (.slice a4 s.zones.length c4) s.zones)) (HBE:Hid (∀ W,Ext w W→Ints W (.slice a5 s.berths.length c5) s.berths)) (HBI:Hid (∀ W,Ext w W→Fl.Bids W (.slice a6 bl.length c6) bl)) (HST:Hid (∀ W,Ext w W→Ints W (.slice a7 t.starts.length c7) t.starts)) (HGR:Hid (∀ W,Ext w W→Rf.Lists W (.slice a8 t.grows.length c8) t.grows)) (HTA:Hid (∀ W,Ext w W→Rf.Lists W (.slice a9 t.takes.length c9) t.takes)) (HBX:Hid (∀ y,Ext w1 y→(∀ o,y.cell? ⟨n0,o,none⟩=(#[.slice a1 r.places.length c1,.int .i64 r.miss,.int .i64 r.seasons]:Array Value)[o]?)∧n0<y.heap.size∧(∀ o,y.cell? ⟨n0+1,o,none⟩=(#[.int .i64 s.cells,.slice a3 s.roads.length c3,.slice a4 s.zones.length c4,.slice a5 s.berths.length c5,.int .i64 s.days]:Array Value)[o]?)∧n0+1<y.heap.size∧(∀ o,y.cell? ⟨n0+1+1,o,none⟩=(#[.slice a7 t.starts.length c7,.slice a8 t.grows.length c8,.slice a9 t.takes.length c9]:Array Value)[o]?)∧n0+1+1<y.heap.size)) (hE1:Ext w1 wz) (hE:Ext w wz) (hX:Blk wz bx #[.slice (some ⟨g,0,none⟩) r.places.length cap,.int .i64 r.miss,.int .i64 r.seasons] 111) (hrow:RowB Rf.placeC 12 126 wz g (Rf.R.limited r k M).places) (hx:Rf.rightB (Rf.R.limited r k M) plan=true) (hT:Rf.R.truthB (Rf.R.limited r k M) plan t=true) (hf:Fl.f11 t=true) (hgoal:∀i,i<r.places.length→(Rf.R.pat r.places i).goal≤Rf.R.iat (Rf.R.endOf (Rf.R.limited r k M) t).fish i) (hpl8:plan.length≤8) :
  Code.wp Tryz.prog (fisT 11) (bodyPost Tryz.prog Tryz.f7 (fun e w'=>e= .returned (.bool true)∧Ext w w')) ⟨List.toArray (u0:: .slice a2 plan.length c2:: .int .i64 (k:Int)::u3::u4::u5::u6::u7:: .pointer (some ⟨n0,0,none⟩)::u9::u10:: .pointer (some ⟨n0+1,0,none⟩)::u12::u13::u14:: .pointer (some ⟨n0+1+1,0,none⟩):: .bool false::u17::u18::u19::u20::u21::u22::u23:: .pointer (some ⟨bx,0,none⟩)::u25::u26::u27::u28::u29::u30::u31::u32::u33::u34::u35::u36::u37::u38::u39::u40::u41::u42::u43::u44::u45::u46::u47::u48::u49::u50::u51::u52::u53::u54::u55::u56::u57::u58::u59::u60::u61::u62::u63::u64::u65::u66::u67::u68::u69::u70::u71::u72::u73::u74::u75::u76::u77::u78::u79::u80::u81::u82::u83::u84::u85::u86::u87::u88::u89::u90::u91::u92::u93::u94::u95::u96::u97::u98::u99::u100::u101::u102::u103::u104::u105::u106::u107::u108::u109::u110::u111::u112::u113::u114::u115::u116::u117::u118::u119::u120::u121::u122::u123::u124::u125::u126::u127::u128::u129::u130::u131::u132::u133::u134::u135::u136::u137::u138::u139::u140::u141::u142::u143::u144::u145::u146::u147::u148::u149::u150::u151::u152::u153::u154::u155::u156::u157::u158::u159::u160::u161::u162::u163::u164::u165::u166::u167::u168::u169::u170::u171::u172::u173::u174::u175::u176::u177::u178::u179::u180::u181::u182::u183::u184::u185::u186::u187::u188::u189::u190::u191::u192::u193::u194::u195::u196::u197::u198::u199::u200::u201::u202::u203::u204::u205::u206::u207::u208::u209::u210::u211::u212::u213::u214::u215::u216::u217::u218::u219::u220::u221::u222::u223::u224::u225::u226::u227::u228::u229::u230::u231::u232::u233::u234::u235::u236::u237::u238::u239::u240::u241::u242::u243::u244::u245::u246::u247::u248::u249::u250::u251::u252::u253::u254::u255::u256::u257::u258::u259::u260::u261::u262::u263::u264::u265::u266::u267::u268::[]),[]⟩ wz:=by
 unfold fisT
 conv=>arg 2;whnf
 have hRL:=hx
 unfold Rf.rightB at hRL
 rw[Qa]at hRL
 have O:=Rf.R.okR_of hRL.1
 have T:=Rf.R.okT_iff.1 hT
 have hpt:Rf.playOk (Rf.R.limited r k M) plan t=true:=by unfold Rf.playOk;rw[hx,hT];rfl
 have hss:(Rf.R.limited r k M).seasons=r.seasons:=rfl
 have hll:=Rf.R.limited_len r k M
 have hs1:=O.s1
 have hs4:=O.s4
 have hn4:=O.n4
 rw[hss]at hs1 hs4
 rw[hll]at hn4
 obtain⟨qS,hqS⟩:=Int.eq_ofNat_of_zero_le (show 0≤r.seasons - 1 by omega)
 have hSn:(Rf.R.limited r k M).seasons.toNat=qS+1:=by rw[hss];omega
 have hXl:(Rf.R.fishOf (Rf.R.limited r k M) t).length=qS+1:=by rw[Rf.R.fishOf_len,hSn]
 have hXF:∀h,(Rf.R.fishOf (Rf.R.limited r k M) t)[qS]'h=(Rf.R.endOf (Rf.R.limited r k M) t).fish:=fun h=>Rf.last_row t hSn h
 have hFl:(Rf.R.endOf (Rf.R.limited r k M) t).fish.length=r.places.length:=((Rf.R.fine_at O T _ (Nat.le_refl _)).len).trans hll
 have hf8:=hf
 unfold Fl.f11 at hf8
 simp only[Qa,decide_eq_true_eq,List.all_eq_true]at hf8
 obtain⟨⟨⟨⟨z1,z2⟩,z3⟩,z4⟩,z5⟩:=hf8
 obtain⟨led,hled⟩:∃led,Rf.R.ledger (Rf.R.limited r k M) t=led:=⟨_,rfl⟩
 have hpy:∀W,Ext wz W→Calls Tryz.prog 45 #[.agg #[.slice (some ⟨g,0,none⟩) r.places.length cap,.int .i64 r.miss,.int .i64 r.seasons],.slice a2 plan.length c2,.agg #[.slice a7 t.starts.length c7,.slice a8 t.grows.length c8,.slice a9 t.takes.length c9]] W fun x w2=>∃v,x= .returned (.tuple #[v,.agg (Rf.ledgerV led),.int .i64 0])∧Rf.Lists w2 v (Rf.R.fishOf (Rf.R.limited r k M) t)∧Ext W w2:=fun W hW=>by
  have hpl:Rf.Places W (.slice (some ⟨g,0,none⟩) r.places.length cap) (Rf.R.limited r k M).places:=by have:=(hrow.ext hW).sls cap;rw[hll]at this;exact this
  have hh:=Rf.play_any (Rf.R.limited r k M) plan t _ _ _ _ _ W hpl (HPL.out W (hE.trans hW)) (HST.out W (hE.trans hW)) (HGR.out W (hE.trans hW)) (HTA.out W (hE.trans hW)) (by omega) (by omega) (by omega) (by omega) (by omega) (fun l hl=>by have:=z4 l hl;omega) (fun l hl=>by have:=z5 l hl;omega)
  simp only[hpt,hled,if_true,show Rf.codeOf true=0 from rfl]at hh
  exact hh.mono fun e w2 ⟨v,h1,h2,h3⟩=>⟨v,h1,h2.lists,h3⟩
 obtain⟨X,hX9⟩:∃X,Rf.R.fishOf (Rf.R.limited r k M) t=X:=⟨_,rfl⟩
 obtain⟨F,hF9⟩:∃F,(Rf.R.endOf (Rf.R.limited r k M) t).fish=F:=⟨_,rfl⟩
 simp only[hX9]at hpy
 rw[hF9]at hFl hgoal
 have HXF:Hid (∀ (h:qS<X.length),X[qS]=F):=by show ∀(h:qS<X.length),X[qS]=F;subst hX9 hF9;exact hXF
 have hXl2:X.length=qS+1:=by rw[← hX9];exact hXl
 have HGE:Hid (∀ j (h:j<r.places.length) (hf:j<F.length),(r.places[j]).goal≤F[j]):=by
  show ∀j (h:j<r.places.length) (hf:j<F.length),(r.places[j]).goal≤F[j]
  intro j h hf
  have h1:=hgoal j h
  rw[Rf.R.iat_at hf,Rf.R.pat_at h]at h1
  exact h1
 have hqX:qS<X.length:=by omega
 have HFL:=Qb hFl
 have HPY:=Qb hpy
 have hwq:IntKind.wrap .i64 (qS:Int)=qS:=Qc _ (by omega)
 have hne1:(((X.length:Nat):Int) != r.seasons)=false:=by rw[hXl2];simp;omega
 have hne2:(((F.length:Nat):Int) != (r.places.length:Int))=false:=by rw[hFl];simp
 have HQX:=Qb hXl2
 clear hRL O T hpt hss hll hs1 hs4 hSn hXl hXF hFl hpy hX9 hF9 hgoal hled z1 z2 z3 z4 z5 hXl2 hx hT hf
 have hpc:=plus_cell
 obtain⟨k0,k1,k2,k3,k4,k5⟩:=HBX.out wz hE1
 have x0:=hX.cell
 have x1:=hX.lt
 go_upto_region 19 with(first|(go_at_call 45;refine(HPY.out _ (by(with_reducible(repeat(first|exact Qd _|assumption|apply Qe|apply Qf|exact ext_plus _ _|(apply Qg;rotate_left;(simp<;>omega))|(apply Qh;rotate_left;exact ext_plus _ _)|(apply Qh;rotate_left;assumption)))))).mono ?_;rintro e wf ⟨vl,rfl,hvl,hbf⟩;obtain⟨al,cl,rfl,_⟩:=id hvl;have HVL:=Qb hvl;clear hvl))
 clear k0 k1 k2 k3 k4 k5 x0 x1
 obtain⟨wq,hwq9⟩:∃y,wf.alloc (.cells (Rf.ledgerV led) 130)=y:=⟨_,rfl⟩
 have hEfq:Ext wf wq:=by rw[← hwq9];(with_reducible(repeat(first|exact Qd _|assumption|apply Qe|apply Qf|exact ext_plus _ _|(apply Qg;rotate_left;(simp<;>omega))|(apply Qh;rotate_left;exact ext_plus _ _)|(apply Qh;rotate_left;assumption))))
 (try rw[hwq9])
 clear hwq9
 have hEzq:Ext wz wq:=hbf.trans hEfq
 have hEq:=hE.trans hEzq
 have hvx:=HVL.out.ext hEfq
 obtain⟨al,cl,ee,hxl⟩:=hvx
 cases ee
 obtain⟨bR,oR,rfl,hbR,vR,hcR,hvR,_⟩:=hxl qS hqX
 simp only[Nat.mul_one]at hcR
 rw[show X[qS]=F from HXF.out hqX]at hvR
 obtain⟨aF,cF,rfl,hxF⟩:=hvR
 have HXFc:=Qb hxF
 clear hxF hxl HVL hbf hEfq
 obtain⟨k0,k1,k2,k3,k4,k5⟩:=HBX.out wq (hE1.trans hEzq)
 refine wp_region_ext 22 (fun _ _ d _ _ h=>by cases d<;>exact h) (by kernel_rfl) (by kernel_rfl) (by kernel_rfl) (by kernel_rfl) ?_
 (try simp only[Qi,Qj,Qk])
 simp only[Ql,Qm,Qn,Qo]
 repeat(any_goals(first|go_big_quiet_step(fail)|quiet_step(fail)))
 all_goals(refine wpQuiet_nil ?_;intro w3 hEw3)
 clear k0 k1 k2 k3 k4 k5
 have hEq3:=hEzq.trans hEw3
 go_wp2
 go_loopw [29] (fun i wr=>∃j:Nat,j≤r.places.length∧i= .int .i64 j∧Ext w3 wr) (fun i _=>r.places.length - (intOf i).toNat)
 case atStart=>exact⟨0,Nat.zero_le _,rfl,Qd _⟩
 case round =>
  rename World=>wr
  obtain⟨j,hj,rfl,hEr⟩:=hrel
  have hEqr:=hEw3.trans hEr
  obtain⟨k0,k1,k2,k3,k4,k5⟩:=HBX.out wr (hE1.trans (hEq3.trans hEr))
  by_cases hlj:j<r.places.length
  ·have hjF:j<F.length:=by have:=HFL.out;omega
   obtain⟨bF,oF,ee,hbF,hcF⟩:=HXFc.out j hjF
   cases ee
   have cF':=(hEqr.cells.1 _ _ hbF).trans hcF
   have hbFl:=Qp hbF hEqr.size
   have cR':=(hEqr.cells.1 _ _ hbR).trans hcR
   have hbRl:=Qp hbR hEqr.size
   obtain⟨_,_,ee,hxp⟩:=HPA.out wr (hE.trans (hEq3.trans hEr))
   cases ee
   obtain⟨bP,oP,rfl,hbP,hcP⟩:=hxp j hlj
   have h10:=hcP 10 _ rfl
   have hge:=HGE.out j hlj hjF
   obtain⟨gl,hgl⟩:∃gl,(r.places[j]).goal=gl:=⟨_,rfl⟩
   obtain⟨x,hx⟩:∃x,F[j]=x:=⟨_,rfl⟩
   have h10':wr.cell? ⟨bP,oP+j*12+10,none⟩=some (.int .i64 gl):=by rw[← hgl];exact h10
   rw[hx]at cF' hge
   rw[hgl]at hge
   have hnl:¬x<gl:=by omega
   clear h10 hcF hgl hx hge hcP hxp
   go_wp2
   refine wp_region_ext 16 (fun _ _ d _ _ h=>by cases d<;>exact h) (by kernel_rfl) (by kernel_rfl) (by kernel_rfl) (by kernel_rfl) ?_
   (try simp only[Qi,Qj,Qk])
   simp only[Ql,Qm,Qn,Qo]
   repeat(any_goals(first|go_big_quiet_step(fail)|quiet_step(fail)))
   all_goals(refine wpQuiet_nil ?_;intro w5 hEw5)
   (try unfold wpList)
   clear h10' cF' cR' k0 k1 k2 k3 k4 k5
   go_wp2
   go_roundw
   case rel=>exact⟨j+1,by omega,by go_num,hEr.trans hEw5⟩
   case measure=>simp[intOf];omega
  ·obtain rfl:j=r.places.length:=by omega
   go_wp2_with (first|(go_at_call 12;refine(known11_any _).mono ?_;rintro e wk ⟨rfl,hbk⟩))
   go_ret
   exact⟨rfl,((hE.trans (hEq3.trans hEr)).trans hbk)⟩
set_option maxRecDepth 1000000 in
set_option maxHeartbeats 64000000 in
theorem fis_tail8 {u0 u3 u4 u5 u7 u9 u10 u12 u13 u14 u17 u18 u19 u20 u21 u23 u24 u25 u26 u27 u28 u29 u30 u31 u32 u33 u34 u35 u36 u37 u38 u39 u40 u41 u42 u43 u44 u45 u46 u47 u48 u49 u50 u51 u52 u53 u54 u55 u56 u57 u58 u59 u60 u61 u62 u63 u64 u65 u66 u67 u68 u69 u70 u71 u72 u73 u74 u75 u76 u77 u78 u79 u80 u81 u82 u83 u84 u85 u86 u87 u88 u89 u90 u91 u92 u93 u94 u95 u96 u97 u98 u99 u100 u101 u102 u103 u104 u105 u106 u107 u108 u109 u110 u111 u112 u113 u114 u115 u116 u117 u118 u119 u120 u121 u122 u123 u124 u125 u126 u127 u128 u129 u130 u131 u132 u133 u134 u135 u136 u137 u138 u139 u140 u141 u142 u143 u144 u145 u146 u147 u148 u149 u150 u151 u152 u153 u154 u155 u156 u157 u158 u159 u160 u161 u162 u163 u164 u165 u166 u167 u168 u169 u170 u171 u172 u173 u174 u175 u176 u177 u178 u179 u180 u181 u182 u183 u184 u185 u186 u187 u188 u189 u190 u191 u192 u193 u194 u195 u196 u197 u198 u199 u200 u201 u202 u203 u204 u205 u206 u207 u208 u209 u210 u211 u212 u213 u214 u215 u216 u217 u218 u219 u220 u221 u222 u223 u224 u225 u226 u227 u228 u229 u230 u231 u232 u233 u234 u235 u236 u237 u238 u239 u240 u241 u242 u243 u244 u245 u246 u247 u248 u249 u250 u251 u252 u253 u254 u255 u256 u257 u258 u259 u260 u261 u262 u263 u264 u265 u266 u267 u268:Value} {m:Nat} {boat:Int} {r:Rf.R.Reef} {plan:List Int} {s:Fl.Sea} {bl:List Fl.Bid} {t:Rf.R.Truth} {k:Nat} {w w1:World} {n0 c1 c2 c3 c4 c5 c6 c7 c8 c9:Nat} {a1 a2 a3 a4 a5 a6 a7 a8 a9:Option Addr} (wz:World) (HPA:Hid (∀ W,Ext w W→Rf.Places W (.slice a1 r.places.length c1) r.places)) (HPL:Hid (∀ W,Ext w W→Ints W (.slice a2 plan.length c2) plan)) (HRO:Hid (∀ W,Ext w W→Ints W (.slice a3 s.roads.length c3) s.roads)) (HZO:Hid (∀ W,Ext w W→Ints W (.slice a4 s.zones.length c4) s.zones)) (HBE:Hid (∀ W,Ext w W→Ints W (.slice a5 s.berths.length c5) s.berths)) (HBI:Hid (∀ W,Ext w W→Fl.Bids W (.slice a6 bl.length c6) bl)) (HST:Hid (∀ W,Ext w W→Ints W (.slice a7 t.starts.length c7) t.starts)) (HGR:Hid (∀ W,Ext w W→Rf.Lists W (.slice a8 t.grows.length c8) t.grows)) (HTA:Hid (∀ W,Ext w W→Rf.Lists W (.slice a9 t.takes.length c9) t.takes)) (HBX:Hid (∀ y,Ext w1 y→(∀ o,y.cell? ⟨n0,o,none⟩=(#[.slice a1 r.places.length c1,.int .i64 r.miss,.int .i64 r.seasons]:Array Value)[o]?)∧n0<y.heap.size∧(∀ o,y.cell? ⟨n0+1,o,none⟩=(#[.int .i64 s.cells,.slice a3 s.roads.length c3,.slice a4 s.zones.length c4,.slice a5 s.berths.length c5,.int .i64 s.days]:Array Value)[o]?)∧n0+1<y.heap.size∧(∀ o,y.cell? ⟨n0+1+1,o,none⟩=(#[.slice a7 t.starts.length c7,.slice a8 t.grows.length c8,.slice a9 t.takes.length c9]:Array Value)[o]?)∧n0+1+1<y.heap.size)) (hE1:Ext w1 wz) (hE:Ext w wz) (hr:Rf.R.reefB r=true) (hp:Rf.R.planB r plan=true) (hk:k<r.places.length) (hpl8:plan.length≤8) (hq:Rf.quotaCode r plan k=0) (hm:(m:Int)*boat≤Rf.quotaOf r plan k) (h0:0≤(m:Int)*boat) (hM1:(m:Int)*boat≤1000000000) (hm8:m≤80) (hb0:0≤boat) (hb1:boat≤1000000) :
  Code.wp Tryz.prog (fisT 8) (bodyPost Tryz.prog Tryz.f7 (fun e w'=>e= .returned (.bool true)∧Ext w w')) ⟨List.toArray (u0:: .slice a2 plan.length c2:: .int .i64 (k:Int)::u3::u4::u5:: .int .i64 boat::u7:: .pointer (some ⟨n0,0,none⟩)::u9::u10:: .pointer (some ⟨n0+1,0,none⟩)::u12::u13::u14:: .pointer (some ⟨n0+1+1,0,none⟩):: .bool false::u17::u18::u19::u20::u21:: .int .i64 (m:Int)::u23::u24::u25::u26::u27::u28::u29::u30::u31::u32::u33::u34::u35::u36::u37::u38::u39::u40::u41::u42::u43::u44::u45::u46::u47::u48::u49::u50::u51::u52::u53::u54::u55::u56::u57::u58::u59::u60::u61::u62::u63::u64::u65::u66::u67::u68::u69::u70::u71::u72::u73::u74::u75::u76::u77::u78::u79::u80::u81::u82::u83::u84::u85::u86::u87::u88::u89::u90::u91::u92::u93::u94::u95::u96::u97::u98::u99::u100::u101::u102::u103::u104::u105::u106::u107::u108::u109::u110::u111::u112::u113::u114::u115::u116::u117::u118::u119::u120::u121::u122::u123::u124::u125::u126::u127::u128::u129::u130::u131::u132::u133::u134::u135::u136::u137::u138::u139::u140::u141::u142::u143::u144::u145::u146::u147::u148::u149::u150::u151::u152::u153::u154::u155::u156::u157::u158::u159::u160::u161::u162::u163::u164::u165::u166::u167::u168::u169::u170::u171::u172::u173::u174::u175::u176::u177::u178::u179::u180::u181::u182::u183::u184::u185::u186::u187::u188::u189::u190::u191::u192::u193::u194::u195::u196::u197::u198::u199::u200::u201::u202::u203::u204::u205::u206::u207::u208::u209::u210::u211::u212::u213::u214::u215::u216::u217::u218::u219::u220::u221::u222::u223::u224::u225::u226::u227::u228::u229::u230::u231::u232::u233::u234::u235::u236::u237::u238::u239::u240::u241::u242::u243::u244::u245::u246::u247::u248::u249::u250::u251::u252::u253::u254::u255::u256::u257::u258::u259::u260::u261::u262::u263::u264::u265::u266::u267::u268::[]),[]⟩ wz:=by
 unfold fisT
 conv=>arg 2;whnf
 have hlaw:=fun h1 h2 hT=>Rf.fished_law (t:=t) hr hp hk h0 hq hm h1 h2 hT
 have hR:Rf.rightB r plan=true:=by unfold Rf.rightB;rw[hr,hp];rfl
 obtain⟨M,hM⟩:∃M,(m:Int)*boat=M:=⟨_,rfl⟩
 rw[hM]at h0 hm hM1
 simp only[hM]at hlaw
 have hrl:=fun h1 h2=>Rf.right_limited hR k hk M h0 h1 h2
 have hn4:=(Rf.R.okR_of hr).n4
 have hli:=fun W (hx:Ext w W)=>Rf.dlimited_any r k M _ W (HPA.out W hx) (by omega) hk
 have hQl:=Rf.R.limited_len r k M
 have hpq:Rf.R.pat (Rf.R.limited r k M).places k=(Rf.R.limited r k M).places[k]'(by rw[hQl];exact hk):=Rf.R.pat_at (by rw[hQl];exact hk)
 obtain⟨P,hPP⟩:∃P,(Rf.R.limited r k M).places[k]'(by rw[hQl];exact hk)=P:=⟨_,rfl⟩
 rw[hPP]at hpq
 rw[hpq]at hrl
 rw[hpq]at hlaw
 obtain⟨qs,hqs⟩:∃qs,(Rf.R.limited r k M).places=qs:=⟨_,rfl⟩
 have HPQ:Hid (∀ (h:k<qs.length),qs[k]=P):=by show ∀(h:k<qs.length),qs[k]=P;subst hqs;exact fun _=>hPP
 have hli2:∀W,Ext w W→Calls Tryz.prog 42 #[.agg #[.slice a1 r.places.length c1,.int .i64 r.miss,.int .i64 r.seasons],.int .i64 (k:Int),.int .i64 M] W fun e w2=>∃g cap,e= .returned (.agg (Rf.reefV r (.slice (some ⟨g,0,none⟩) r.places.length cap)))∧RowB Rf.placeC 12 126 w2 g qs∧W.heap.size≤g∧Ext W w2:=by subst hqs;exact hli
 have HLI:=Qb hli2
 have hql:qs.length=r.places.length:=by rw[← hqs];exact hQl
 have HQL:=Qb hql
 have hwM:IntKind.wrap .i64 M=M:=Qc _ (by omega)
 have HF1:=Qb (fun W hx=>Fl.fished11_any t _ _ _ W (HST.out W hx) (HGR.out W hx) (HTA.out W hx))
 have HLAW:=Qb hlaw
 have HRL:=Qb hrl
 have HQS:=Qb hqs
 have HR:=Qb hr
 have HP:=Qb hp
 have HQ:=Qb hq
 clear hlaw hrl hqs hr hp hq hli hli2 hQl hpq hPP hql hR hm h0 hM1 hn4
 have hpc:=plus_cell
 obtain⟨k0,k1,k2,k3,k4,k5⟩:=HBX.out wz hE1
 go_upto_region 15 with(first|(go_at_call 42;refine(HLI.out _ (by(with_reducible(repeat(first|exact Qd _|assumption|apply Qe|apply Qf|exact ext_plus _ _|(apply Qg;rotate_left;(simp<;>omega))|(apply Qh;rotate_left;exact ext_plus _ _)|(apply Qh;rotate_left;assumption)))))).mono ?_;rintro e w6 ⟨g,cap,rfl,hrow6,hg6,hb6⟩;have hgl6:=hrow6.lt;(try clear k0 k1 k2 k3 k4 k5);obtain⟨k0,k1,k2,k3,k4,k5⟩:=HBX.out w6 (by(with_reducible(repeat(first|exact Qd _|assumption|apply Qe|apply Qf|exact ext_plus _ _|(apply Qg;rotate_left;(simp<;>omega))|(apply Qh;rotate_left;exact ext_plus _ _)|(apply Qh;rotate_left;assumption)))))))
 obtain⟨wx,hwx⟩:∃wx,w6.alloc (.cells #[.slice (some ⟨g,0,none⟩) r.places.length cap,.int .i64 r.miss,.int .i64 r.seasons] 111)=wx:=⟨_,rfl⟩
 have hbX:Blk wx w6.heap.size #[.slice (some ⟨g,0,none⟩) r.places.length cap,.int .i64 r.miss,.int .i64 r.seasons] 111:=by rw[← hwx];exact Blk.new' rfl _ _
 have hE6x:Ext w6 wx:=by rw[← hwx];(with_reducible(repeat(first|exact Qd _|assumption|apply Qe|apply Qf|exact ext_plus _ _|(apply Qg;rotate_left;(simp<;>omega))|(apply Qh;rotate_left;exact ext_plus _ _)|(apply Qh;rotate_left;assumption))))
 (try rw[hwx])
 clear hwx k0 k1 k2 k3 k4 k5
 obtain⟨bX,hbXe⟩:∃bX,w6.heap.size=bX:=⟨_,rfl⟩
 rw[hbXe]at hbX hgl6 ⊢
 have hEx:Ext wz wx:=hb6.trans hE6x
 have hrowx:=hrow6.ext hE6x
 have hkq:k<qs.length:=by have:=HQL.out;omega
 have x0:=hbX.cell
 have x1:=hbX.lt
 obtain⟨h0,h1,h2,h3,h4,h5,h6,h7,h8,h9,h10,h11⟩:=(⟨hrowx.cell k hkq 0 _ rfl,hrowx.cell k hkq 1 _ rfl,hrowx.cell k hkq 2 _ rfl,hrowx.cell k hkq 3 _ rfl,hrowx.cell k hkq 4 _ rfl,hrowx.cell k hkq 5 _ rfl,hrowx.cell k hkq 6 _ rfl,hrowx.cell k hkq 7 _ rfl,hrowx.cell k hkq 8 _ rfl,hrowx.cell k hkq 9 _ rfl,hrowx.cell k hkq 10 _ rfl,hrowx.cell k hkq 11 _ rfl⟩:_∧_∧_∧_∧_∧_∧_∧_∧_∧_∧_∧_)
 have hpq:=HPQ.out hkq
 rw[hpq]at h0 h1 h2 h3 h4 h5 h6 h7 h8 h9 h10 h11
 have hgx:=hrowx.lt
 rw[Nat.add_zero]at h0
 obtain⟨k0,k1,k2,k3,k4,k5⟩:=HBX.out wx (hE1.trans hEx)
 go_upto_region 16 with(fail)
 obtain⟨w7,hw7⟩:∃w7,wx.alloc (.cells #[.int .i64 P.count,.int .i64 P.room,.int .i64 P.gl,.int .i64 P.gh,.int .i64 P.drift,.int .i64 P.into,.int .i64 P.ol,.int .i64 P.oh,.int .i64 P.sl,.int .i64 P.sh,.int .i64 P.goal,.int .i64 P.worth] 126)=w7:=⟨_,rfl⟩
 have hbP:Blk w7 wx.heap.size #[.int .i64 P.count,.int .i64 P.room,.int .i64 P.gl,.int .i64 P.gh,.int .i64 P.drift,.int .i64 P.into,.int .i64 P.ol,.int .i64 P.oh,.int .i64 P.sl,.int .i64 P.sh,.int .i64 P.goal,.int .i64 P.worth] 126:=by rw[← hw7];exact Blk.new' rfl _ _
 have hEx7:Ext wx w7:=by rw[← hw7];(with_reducible(repeat(first|exact Qd _|assumption|apply Qe|apply Qf|exact ext_plus _ _|(apply Qg;rotate_left;(simp<;>omega))|(apply Qh;rotate_left;exact ext_plus _ _)|(apply Qh;rotate_left;assumption))))
 (try rw[hw7])
 clear hw7 h0 h1 h2 h3 h4 h5 h6 h7 h8 h9 h10 h11 x0 x1 k0 k1 k2 k3 k4 k5
 obtain⟨bP,hbPe⟩:∃bP,wx.heap.size=bP:=⟨_,rfl⟩
 rw[hbPe]at hbP hgx ⊢
 have hXb:=hbX.ext hEx7
 have hPb:=hbP
 have hrow7:=hrowx.ext hEx7
 have hE7:Ext w w7:=hE.trans (hEx.trans hEx7)
 have hE17:Ext w1 w7:=hE1.trans (hEx.trans hEx7)
 obtain⟨k0,k1,k2,k3,k4,k5⟩:=HBX.out w7 hE17
 have d0:=hPb.cell
 have d1:=hPb.lt
 have x0:=hXb.cell
 have x1:=hXb.lt
 clear hpq hbX hbP hrow6 hrowx hgl6 hgx hbXe hbPe hb6 hE6x hg6
 by_cases g1:P.ol<P.sl
 ·go_wp2_with (first|(go_at_call 12;refine(known11_any _).mono ?_;rintro e wk ⟨rfl,hbk⟩))
  go_ret
  exact⟨rfl,hE7.trans hbk⟩
 by_cases g2:P.oh<P.sh
 ·go_wp2_with (first|(go_at_call 12;refine(known11_any _).mono ?_;rintro e wk ⟨rfl,hbk⟩))
  go_ret
  exact⟨rfl,hE7.trans hbk⟩
 have hxx:=HRL.out (by omega) (by omega)
 have hxr:=hxx
 unfold Rf.rightB at hxr
 rw[Qa]at hxr
 have O:=Rf.R.okR_of hxr.1
 have OL:=Rf.R.okL_iff.1 hxr.2
 clear hxr
 have HG1:=Qb g1
 have HG2:=Qb g2
 obtain⟨B1,hB1⟩:∃B,Fl.f11 t=B:=⟨_,rfl⟩
 have hf1:=HF1.out
 simp only[hB1]at hf1
 clear HF1
 have HF1:=Qb hf1
 clear hf1
 cases B1 with
 | false =>
  go_wp2_with (first|(go_at_call 43;refine(HF1.out _ (by(with_reducible(repeat(first|exact Qd _|assumption|apply Qe|apply Qf|exact ext_plus _ _|(apply Qg;rotate_left;(simp<;>omega))|(apply Qh;rotate_left;exact ext_plus _ _)|(apply Qh;rotate_left;assumption)))))).mono ?_;rintro e w8 ⟨rfl,hE8⟩;(clear d0 d1 x0 x1);have d0:=(hPb.ext hE8).cell;have d1:=(hPb.ext hE8).lt;have x0:=(hXb.ext hE8).cell;have x1:=(hXb.ext hE8).lt;(try clear k0 k1 k2 k3 k4 k5);obtain⟨k0,k1,k2,k3,k4,k5⟩:=HBX.out w8 (by(with_reducible(repeat(first|exact Qd _|assumption|apply Qe|apply Qf|exact ext_plus _ _|(apply Qg;rotate_left;(simp<;>omega))|(apply Qh;rotate_left;exact ext_plus _ _)|(apply Qh;rotate_left;assumption))))))|(go_at_call 12;refine(known11_any _).mono ?_;rintro e wk ⟨rfl,hbk⟩))
  go_ret
  exact⟨rfl,(hE7.trans hE8).trans hbk⟩
 | true =>
  have hf8:=hB1
  unfold Fl.f11 at hf8
  simp only[Qa,decide_eq_true_eq,List.all_eq_true]at hf8
  obtain⟨⟨⟨⟨z1,z2⟩,z3⟩,z4⟩,z5⟩:=hf8
  have htr:∀W,Ext w7 W→Calls Tryz.prog 44 #[.agg #[.slice (some ⟨g,0,none⟩) r.places.length cap,.int .i64 r.miss,.int .i64 r.seasons],.slice a2 plan.length c2,.agg #[.slice a7 t.starts.length c7,.slice a8 t.grows.length c8,.slice a9 t.takes.length c9]] W fun e w2=>e= .returned (.bool (Rf.R.truthB (Rf.R.limited r k M) plan t))∧Ext W w2:=fun W hW=>Rf.dtruth_any (Rf.R.limited r k M) plan t _ _ _ _ _ W (by have:=(hrow7.ext hW).sls cap;rw[HQL.out,←HQS.out]at this;exact this) (HPL.out W (hE7.trans hW)) (HST.out W (hE7.trans hW)) (HGR.out W (hE7.trans hW)) (HTA.out W (hE7.trans hW)) O OL (by omega) (by omega) (by omega) (fun l hl=>by have:=z4 l hl;omega) (fun l hl=>by have:=z5 l hl;omega)
  obtain⟨B2,hB2⟩:∃B,Rf.R.truthB (Rf.R.limited r k M) plan t=B:=⟨_,rfl⟩
  simp only[hB2]at htr
  have HTR:=Qb htr
  have HB1:=Qb hB1
  have HB2:=Qb hB2
  have HXX:=Qb hxx
  clear htr hB1 hB2 hxx z1 z2 z3 z4 z5 O OL
  cases B2 with
  | false =>
   go_wp2_with (first|(go_at_call 43;refine(HF1.out _ (by(with_reducible(repeat(first|exact Qd _|assumption|apply Qe|apply Qf|exact ext_plus _ _|(apply Qg;rotate_left;(simp<;>omega))|(apply Qh;rotate_left;exact ext_plus _ _)|(apply Qh;rotate_left;assumption)))))).mono ?_;rintro e w8 ⟨rfl,hE8⟩;(clear d0 d1 x0 x1);have d0:=(hPb.ext hE8).cell;have d1:=(hPb.ext hE8).lt;have x0:=(hXb.ext hE8).cell;have x1:=(hXb.ext hE8).lt;(try clear k0 k1 k2 k3 k4 k5);obtain⟨k0,k1,k2,k3,k4,k5⟩:=HBX.out w8 (by(with_reducible(repeat(first|exact Qd _|assumption|apply Qe|apply Qf|exact ext_plus _ _|(apply Qg;rotate_left;(simp<;>omega))|(apply Qh;rotate_left;exact ext_plus _ _)|(apply Qh;rotate_left;assumption))))))|(go_at_call 44;refine(HTR.out _ (by(with_reducible(repeat(first|exact Qd _|assumption|apply Qe|apply Qf|exact ext_plus _ _|(apply Qg;rotate_left;(simp<;>omega))|(apply Qh;rotate_left;exact ext_plus _ _)|(apply Qh;rotate_left;assumption)))))).mono ?_;rintro e w9 ⟨rfl,hE9⟩)|(go_at_call 12;refine(known11_any _).mono ?_;rintro e wk ⟨rfl,hbk⟩))
   go_ret
   exact⟨rfl,((hE7.trans hE8).trans hE9).trans hbk⟩
  | true =>
   go_upto_if 213 with(first|(go_at_call 43;refine(HF1.out _ (by(with_reducible(repeat(first|exact Qd _|assumption|apply Qe|apply Qf|exact ext_plus _ _|(apply Qg;rotate_left;(simp<;>omega))|(apply Qh;rotate_left;exact ext_plus _ _)|(apply Qh;rotate_left;assumption)))))).mono ?_;rintro e w8 ⟨rfl,hE8⟩;(clear d0 d1 x0 x1);have d0:=(hPb.ext hE8).cell;have d1:=(hPb.ext hE8).lt;have x0:=(hXb.ext hE8).cell;have x1:=(hXb.ext hE8).lt;(try clear k0 k1 k2 k3 k4 k5);obtain⟨k0,k1,k2,k3,k4,k5⟩:=HBX.out w8 (by(with_reducible(repeat(first|exact Qd _|assumption|apply Qe|apply Qf|exact ext_plus _ _|(apply Qg;rotate_left;(simp<;>omega))|(apply Qh;rotate_left;exact ext_plus _ _)|(apply Qh;rotate_left;assumption))))))|(go_at_call 44;refine(HTR.out _ (by(with_reducible(repeat(first|exact Qd _|assumption|apply Qe|apply Qf|exact ext_plus _ _|(apply Qg;rotate_left;(simp<;>omega))|(apply Qh;rotate_left;exact ext_plus _ _)|(apply Qh;rotate_left;assumption)))))).mono ?_;rintro e w9 ⟨rfl,hE9⟩))
   rename Act→World→Prop=>KK
   rename ∀_ _,_→KK _ _=>hKK
   have HKK:=Qb hKK
   clear hKK
   go_wp2
   have hE79:=hE8.trans hE9
   exact HKK.out _ _ (fis_tail11 (M:=M) (g:=g) (cap:=cap) w9 HPA HPL HRO HZO HBE HBI HST HGR HTA HBX (hE17.trans hE79) (hE7.trans hE79) (hXb.ext hE79) (by rw[HQS.out];exact hrow7.ext hE79) HXX.out HB2.out HB1.out (HLAW.out (by have:=HG1.out;omega) (by have:=HG2.out;omega) HB2.out).2 hpl8)
set_option maxRecDepth 1000000 in
set_option maxHeartbeats 64000000 in
theorem fis_tail2 {u0 u3 u7 u9 u10 u12 u13 u14 u17 u18 u19 u20 u21 u22 u23 u24 u25 u26 u27 u28 u29 u30 u31 u32 u33 u34 u35 u36 u37 u38 u39 u40 u41 u42 u43 u44 u45 u46 u47 u48 u49 u50 u51 u52 u53 u54 u55 u56 u57 u58 u59 u60 u61 u62 u63 u64 u65 u66 u67 u68 u69 u70 u71 u72 u73 u74 u75 u76 u77 u78 u79 u80 u81 u82 u83 u84 u85 u86 u87 u88 u89 u90 u91 u92 u93 u94 u95 u96 u97 u98 u99 u100 u101 u102 u103 u104 u105 u106 u107 u108 u109 u110 u111 u112 u113 u114 u115 u116 u117 u118 u119 u120 u121 u122 u123 u124 u125 u126 u127 u128 u129 u130 u131 u132 u133 u134 u135 u136 u137 u138 u139 u140 u141 u142 u143 u144 u145 u146 u147 u148 u149 u150 u151 u152 u153 u154 u155 u156 u157 u158 u159 u160 u161 u162 u163 u164 u165 u166 u167 u168 u169 u170 u171 u172 u173 u174 u175 u176 u177 u178 u179 u180 u181 u182 u183 u184 u185 u186 u187 u188 u189 u190 u191 u192 u193 u194 u195 u196 u197 u198 u199 u200 u201 u202 u203 u204 u205 u206 u207 u208 u209 u210 u211 u212 u213 u214 u215 u216 u217 u218 u219 u220 u221 u222 u223 u224 u225 u226 u227 u228 u229 u230 u231 u232 u233 u234 u235 u236 u237 u238 u239 u240 u241 u242 u243 u244 u245 u246 u247 u248 u249 u250 u251 u252 u253 u254 u255 u256 u257 u258 u259 u260 u261 u262 u263 u264 u265 u266 u267 u268:Value} {z:Nat} {boat:Int} {r:Rf.R.Reef} {plan:List Int} {s:Fl.Sea} {bl:List Fl.Bid} {t:Rf.R.Truth} {k:Nat} {w w1:World} {n0 c1 c2 c3 c4 c5 c6 c7 c8 c9:Nat} {a1 a2 a3 a4 a5 a6 a7 a8 a9:Option Addr} (wz:World) (HPA:Hid (∀ W,Ext w W→Rf.Places W (.slice a1 r.places.length c1) r.places)) (HPL:Hid (∀ W,Ext w W→Ints W (.slice a2 plan.length c2) plan)) (HRO:Hid (∀ W,Ext w W→Ints W (.slice a3 s.roads.length c3) s.roads)) (HZO:Hid (∀ W,Ext w W→Ints W (.slice a4 s.zones.length c4) s.zones)) (HBE:Hid (∀ W,Ext w W→Ints W (.slice a5 s.berths.length c5) s.berths)) (HBI:Hid (∀ W,Ext w W→Fl.Bids W (.slice a6 bl.length c6) bl)) (HST:Hid (∀ W,Ext w W→Ints W (.slice a7 t.starts.length c7) t.starts)) (HGR:Hid (∀ W,Ext w W→Rf.Lists W (.slice a8 t.grows.length c8) t.grows)) (HTA:Hid (∀ W,Ext w W→Rf.Lists W (.slice a9 t.takes.length c9) t.takes)) (HBX:Hid (∀ y,Ext w1 y→(∀ o,y.cell? ⟨n0,o,none⟩=(#[.slice a1 r.places.length c1,.int .i64 r.miss,.int .i64 r.seasons]:Array Value)[o]?)∧n0<y.heap.size∧(∀ o,y.cell? ⟨n0+1,o,none⟩=(#[.int .i64 s.cells,.slice a3 s.roads.length c3,.slice a4 s.zones.length c4,.slice a5 s.berths.length c5,.int .i64 s.days]:Array Value)[o]?)∧n0+1<y.heap.size∧(∀ o,y.cell? ⟨n0+1+1,o,none⟩=(#[.slice a7 t.starts.length c7,.slice a8 t.grows.length c8,.slice a9 t.takes.length c9]:Array Value)[o]?)∧n0+1+1<y.heap.size)) (hE1:Ext w1 wz) (hE:Ext w wz) (hr:Rf.R.reefB r=true) (hp:Rf.R.planB r plan=true) (hk:k<r.places.length) (hpl8:plan.length≤8) (hs:Fl.seaB s=true) (hl:bl.length≤10) (hbl:bl.all (Fl.bidB s.zones.length s.days)=true) (hz:z<s.zones.length) (hb0:0≤boat) (hb1:boat≤1000000) :
  Code.wp Tryz.prog (fisT 2) (bodyPost Tryz.prog Tryz.f7 (fun e w'=>e= .returned (.bool true)∧Ext w w')) ⟨List.toArray (u0:: .slice a2 plan.length c2:: .int .i64 (k:Int)::u3:: .slice a6 bl.length c6:: .int .i64 (z:Int):: .int .i64 boat::u7:: .pointer (some ⟨n0,0,none⟩)::u9::u10:: .pointer (some ⟨n0+1,0,none⟩)::u12::u13::u14:: .pointer (some ⟨n0+1+1,0,none⟩):: .bool false::u17::u18::u19::u20::u21::u22::u23::u24::u25::u26::u27::u28::u29::u30::u31::u32::u33::u34::u35::u36::u37::u38::u39::u40::u41::u42::u43::u44::u45::u46::u47::u48::u49::u50::u51::u52::u53::u54::u55::u56::u57::u58::u59::u60::u61::u62::u63::u64::u65::u66::u67::u68::u69::u70::u71::u72::u73::u74::u75::u76::u77::u78::u79::u80::u81::u82::u83::u84::u85::u86::u87::u88::u89::u90::u91::u92::u93::u94::u95::u96::u97::u98::u99::u100::u101::u102::u103::u104::u105::u106::u107::u108::u109::u110::u111::u112::u113::u114::u115::u116::u117::u118::u119::u120::u121::u122::u123::u124::u125::u126::u127::u128::u129::u130::u131::u132::u133::u134::u135::u136::u137::u138::u139::u140::u141::u142::u143::u144::u145::u146::u147::u148::u149::u150::u151::u152::u153::u154::u155::u156::u157::u158::u159::u160::u161::u162::u163::u164::u165::u166::u167::u168::u169::u170::u171::u172::u173::u174::u175::u176::u177::u178::u179::u180::u181::u182::u183::u184::u185::u186::u187::u188::u189::u190::u191::u192::u193::u194::u195::u196::u197::u198::u199::u200::u201::u202::u203::u204::u205::u206::u207::u208::u209::u210::u211::u212::u213::u214::u215::u216::u217::u218::u219::u220::u221::u222::u223::u224::u225::u226::u227::u228::u229::u230::u231::u232::u233::u234::u235::u236::u237::u238::u239::u240::u241::u242::u243::u244::u245::u246::u247::u248::u249::u250::u251::u252::u253::u254::u255::u256::u257::u258::u259::u260::u261::u262::u263::u264::u265::u266::u267::u268::[]),[]⟩ wz:=by
 unfold fisT
 conv=>arg 2;whnf
 have O:=Fl.ok_of hs
 have hbo:∀b∈bl,Fl.BidOk s b:=fun b hb=>Fl.bid_of (List.all_eq_true.1 hbl b hb)
 have hcode:Fl.codeOf s bl=0:=by unfold Fl.codeOf;rw[if_neg (by omega),hs,hbl];rfl
 have hbN:=O.berthsN
 have hzN:=O.zonesN
 have hrN:=O.roadsN
 have hcN:=O.cells
 have hdN:=O.days
 have hzb:z<s.berths.length:=by omega
 have hfine:=Fl.best_fine O bl (2^bl.length)
 have hblt:=Fl.best_lt s bl (2^bl.length) (Nat.two_pow_pos _)
 obtain⟨sale,hsale⟩:∃x,(Fl.bestTo s bl (2^bl.length)).1=x:=⟨_,rfl⟩
 rw[hsale]at hfine hblt
 have hsl1:(Fl.sellR s bl).1=(sale:Int):=by unfold Fl.sellR;rw[if_pos hcode];show(((Fl.best s bl).1:Nat):Int)=_;unfold Fl.best;rw[hsale]
 have hsl3:(Fl.sellR s bl).2.2=0:=by unfold Fl.sellR;rw[if_pos hcode]
 obtain⟨rev,hrev⟩:∃x,(Fl.sellR s bl).2.1=x:=⟨_,rfl⟩
 have hse:=fun W (hx:Ext w W)=>Fl.sell_any s bl _ _ _ _ W (HRO.out W hx) (HZO.out W hx) (HBE.out W hx) (HBI.out W hx) (by omega) (by omega) (by omega) (by omega)
 simp only[hsl1,hsl3,hrev]at hse
 have HSL:=Qb (show ∀W,Ext w W→Calls Tryz.prog 39 #[.agg #[.int .i64 s.cells,.slice a3 s.roads.length c3,.slice a4 s.zones.length c4,.slice a5 s.berths.length c5,.int .i64 s.days],.slice a6 bl.length c6] W fun e w'=>e= .returned (.tuple #[.int .i64 (sale:Int),.int .i64 rev,.int .i64 0])∧Ext W w' from hse)
 have hs10:sale≤1000000:=by have:2^bl.length≤2^10:=Nat.pow_le_pow_right (by decide) hl;omega
 have HSA:=Qb (fun W=>Fl.fsale_any bl.length sale a6 c6 W hl hblt)
 have HSO:=Qb (fun W (hx:Ext w W) {d:Int} =>Fl.fsold_any bl sale (z:Int) d _ W (HBI.out W hx) hl hs10 (fun b hb=>by have:=(hbo b hb).days;have:=(hbo b hb).start;omega))
 have hask:=Rf.quota_ask hr hp hk
 have hqu:=fun W (hx:Ext w W)=>Rf.quotaQ_any r plan (k:Int) _ _ W (HPA.out W hx) (HPL.out W hx) (by have:=(Rf.R.okR_of hr).n4;omega) (by omega)
 obtain⟨Q,hQ⟩:∃Q,Rf.quotaOf r plan (k:Int)=Q:=⟨_,rfl⟩
 have hqc:Rf.quotaCode r plan (k:Int)=0∨Rf.quotaCode r plan (k:Int)=5:=by unfold Rf.quotaCode;rw[if_pos hask];split;exact .inr rfl;exact .inl rfl
 obtain⟨y,hy⟩:∃y,Fl.iat s.berths z=y:=⟨_,rfl⟩
 have hyb:s.berths[z]=y:=by rw[← hy];simp[Fl.iat,List.getD_eq_getElem?_getD,hzb]
 have hy4:0≤y∧y≤4:=by rw[← hyb];exact O.berths _ (List.getElem_mem hzb)
 obtain⟨dn,hdn⟩:∃d:Nat,s.days=(d:Int):=⟨s.days.toNat,by omega⟩
 have hmany:=Fl.many_le hfine hzb dn (by omega)
 have hmsm:=Fl.many_small bl sale (z:Int) hl dn
 rw[hy]at hmany
 have hP1:0≤y*s.days∧y*s.days≤32:=⟨Qq hy4.1 (by omega),by have:=Int.mul_le_mul hy4.2 hdN.2 (by omega) (by omega:(0:Int)≤4);omega⟩
 rw[← hdn]at hmany
 obtain⟨P1,hP1e⟩:∃p,y*s.days=p:=⟨_,rfl⟩
 rw[hP1e]at hP1 hmany
 have hP2:0≤P1*boat∧P1*boat≤32000000:=⟨Qq hP1.1 hb0,by have:=Int.mul_le_mul hP1.2 hb1 hb0 (by omega:(0:Int)≤32);omega⟩
 have hMm:(Fl.manyTo bl sale z dn:Int)*boat≤P1*boat:=Int.mul_le_mul_of_nonneg_right hmany hb0
 have hM0:0≤(Fl.manyTo bl sale z dn:Int)*boat:=Qq (by omega) hb0
 obtain⟨P2,hP2e⟩:∃p,P1*boat=p:=⟨_,rfl⟩
 rw[hP2e]at hP2 hMm
 have HP32:=Qb hP2
 have HMM:=Qb hMm
 have HM0:=Qb hM0
 have HM8:=Qb (show Fl.manyTo bl sale z dn≤80 by omega)
 have HDN:=Qb hdn
 have HD8:=Qb (show dn≤8 by omega)
 have hw1:IntKind.wrap .i64 P1=P1:=Qc _ (by omega)
 have hw2:IntKind.wrap .i64 P2=P2:=Qc _ (by omega)
 have hmsm2:=fun d=>Fl.many_small bl sale (z:Int) hl d
 have hsle:=fun d=>Fl.sold_le bl sale (z:Int) d
 have HMS:=Qb hmsm2
 have HSE:=Qb hsle
 have HL:=Qb hl
 have HR:=Qb hr
 have HP:=Qb hp
 have HYB:=Qb hyb
 clear hse hsl1 hsl3 hrev hcode hbo hfine hblt hsale O hask hbN hzN hrN hcN hdN hy hyb hy4 hdn hmany hmsm hMm hM0 hmsm2 hsle hs hbl hs10 hP1 hr hp
 have hpc:=plus_cell
 obtain⟨k0,k1,k2,k3,k4,k5⟩:=HBX.out wz hE1
 rcases hqc with hqc|hqc
 rotate_left
 ·simp only[hQ,hqc]at hqu
  have HQU:=Qb hqu
  clear hqu hqc hQ
  go_upto_region 4 with(first|(go_at_call 38;refine(HQU.out _ (by(with_reducible(repeat(first|exact Qd _|assumption|apply Qe|apply Qf|exact ext_plus _ _|(apply Qg;rotate_left;(simp<;>omega))|(apply Qh;rotate_left;exact ext_plus _ _)|(apply Qh;rotate_left;assumption)))))).mono ?_;rintro e w2 ⟨rfl,hE2⟩;(try clear k0 k1 k2 k3 k4 k5);obtain⟨k0,k1,k2,k3,k4,k5⟩:=HBX.out w2 (by(with_reducible(repeat(first|exact Qd _|assumption|apply Qe|apply Qf|exact ext_plus _ _|(apply Qg;rotate_left;(simp<;>omega))|(apply Qh;rotate_left;exact ext_plus _ _)|(apply Qh;rotate_left;assumption)))))))
  refine wp_region_ext 16 (fun _ _ d _ _ h=>by cases d<;>exact h) (by kernel_rfl) (by kernel_rfl) (by kernel_rfl) (by kernel_rfl) ?_
  (try simp only[Qi,Qj,Qk])
  simp only[Ql,Qm,Qn,Qo]
  repeat(any_goals(first|go_big_quiet_step(fail)|quiet_step(fail)))
  all_goals(refine wpQuiet_nil ?_;intro w9 hEw9)
  clear k0 k1 k2 k3 k4 k5
  go_wp2_with (first|(go_at_call 12;refine(known11_any _).mono ?_;rintro e wk ⟨rfl,hbk⟩))
  go_ret
  exact⟨rfl,((hE.trans hE2).trans hEw9).trans hbk⟩
 have HQC:=Qb hqc
 simp only[hQ,hqc]at hqu
 have HQU:=Qb hqu
 have HQQ:=Qb hQ
 clear hqu hqc hQ
 go_upto_region 4 with(first|(go_at_call 38;refine(HQU.out _ (by(with_reducible(repeat(first|exact Qd _|assumption|apply Qe|apply Qf|exact ext_plus _ _|(apply Qg;rotate_left;(simp<;>omega))|(apply Qh;rotate_left;exact ext_plus _ _)|(apply Qh;rotate_left;assumption)))))).mono ?_;rintro e w2 ⟨rfl,hE2⟩;(try clear k0 k1 k2 k3 k4 k5);obtain⟨k0,k1,k2,k3,k4,k5⟩:=HBX.out w2 (by(with_reducible(repeat(first|exact Qd _|assumption|apply Qe|apply Qf|exact ext_plus _ _|(apply Qg;rotate_left;(simp<;>omega))|(apply Qh;rotate_left;exact ext_plus _ _)|(apply Qh;rotate_left;assumption)))))))
 have hEw2:=hE.trans hE2
 obtain⟨_,_,ee,hxb⟩:=HBE.out w2 hEw2
 cases ee
 obtain⟨bb,ob,rfl,hbb,hcb⟩:=hxb z hzb
 rw[HYB.out]at hcb
 by_cases hov:Q<P2
 ·refine wp_region_ext 16 (fun _ _ d _ _ h=>by cases d<;>exact h) (by kernel_rfl) (by kernel_rfl) (by kernel_rfl) (by kernel_rfl) ?_
  (try simp only[Qi,Qj,Qk])
  simp only[Ql,Qm,Qn,Qo]
  repeat(any_goals(first|go_big_quiet_step(fail)|quiet_step(fail)))
  all_goals(refine wpQuiet_nil ?_;intro w9 hEw9)
  clear k0 k1 k2 k3 k4 k5
  go_wp2_with (first|(go_at_call 12;refine(known11_any _).mono ?_;rintro e wk ⟨rfl,hbk⟩))
  go_ret
  exact⟨rfl,(hEw2.trans hEw9).trans hbk⟩
 refine wp_region_ext 16 (fun _ _ d _ _ h=>by cases d<;>exact h) (by kernel_rfl) (by kernel_rfl) (by kernel_rfl) (by kernel_rfl) ?_
 (try simp only[Qi,Qj,Qk])
 simp only[Ql,Qm,Qn,Qo]
 repeat(any_goals(first|go_big_quiet_step(fail)|quiet_step(fail)))
 all_goals(refine wpQuiet_nil ?_;intro w9 hEw9)
 clear k0 k1 k2 k3 k4 k5 hcb hxb hw1 hw2
 have HOV:=Qb hov
 have HPE1:=Qb hP1e
 have HPE2:=Qb hP2e
 clear hov hP1e hP2e hP2
 have hEw29:=hEw2.trans hEw9
 have hE129:=hE1.trans (hE2.trans hEw9)
 obtain⟨k0,k1,k2,k3,k4,k5⟩:=HBX.out w9 hE129
 go_wp2_with (first|(go_at_call 39;refine(HSL.out _ (by(with_reducible(repeat(first|exact Qd _|assumption|apply Qe|apply Qf|exact ext_plus _ _|(apply Qg;rotate_left;(simp<;>omega))|(apply Qh;rotate_left;exact ext_plus _ _)|(apply Qh;rotate_left;assumption)))))).mono ?_;rintro e w3 ⟨rfl,hE3⟩;(try clear k0 k1 k2 k3 k4 k5);obtain⟨k0,k1,k2,k3,k4,k5⟩:=HBX.out w3 (by(with_reducible(repeat(first|exact Qd _|assumption|apply Qe|apply Qf|exact ext_plus _ _|(apply Qg;rotate_left;(simp<;>omega))|(apply Qh;rotate_left;exact ext_plus _ _)|(apply Qh;rotate_left;assumption))))))|(go_at_call 40;refine(HSA.out _).mono ?_;rintro e w4 ⟨rfl,rfl⟩))
 have hEw3:=hEw29.trans hE3
 have hE13:=hE129.trans hE3
 clear k0 k1 k2 k3 k4 k5
 go_loopw [22,23] (fun m d wr=>∃j:Nat,(j:Int)≤s.days∧d= .int .i64 j∧m= .int .i64 (Fl.manyTo bl sale z j)∧Ext w3 wr) (fun _ d _=>s.days.toNat - (intOf d).toNat)
 case atStart=>exact⟨0,by have:=HDN.out;omega,rfl,rfl,Qd _⟩
 case round =>
  rename World=>wr
  obtain⟨j,hj,rfl,rfl,hEr⟩:=hrel
  obtain⟨k0,k1,k2,k3,k4,k5⟩:=HBX.out wr (hE13.trans hEr)
  by_cases hlt:(j:Int)<s.days
  ·have hms:=HMS.out j
   have hsl:=HSE.out (j:Int)
   have hl10:=HL.out
   have hj8:j≤8:=by have:=HDN.out;have:=HD8.out;omega
   have hsu:Fl.manyTo bl sale z (j+1)=Fl.manyTo bl sale z j+Fl.sold bl sale z j:=rfl
   have hso:=fun W hx=>HSO.out W hx (d:=(j:Int))
   obtain⟨m,hm⟩:∃m,Fl.manyTo bl sale z j=m:=⟨_,rfl⟩
   obtain⟨x,hx⟩:∃m,Fl.sold bl sale z j=m:=⟨_,rfl⟩
   rw[hm]at hms hsu ⊢
   rw[hx]at hsl hsu
   simp only[hx]at hso
   clear HSO
   have HSO:=Qb hso
   have HSU:=Qb hsu
   have hmx:m≤80:=by omega
   have hxx:x≤10:=by omega
   clear hso hsu hm hx hms hsl hl10
   go_wp2_with (first|(go_at_call 41;refine(HSO.out _ (by(with_reducible(repeat(first|exact Qd _|assumption|apply Qe|apply Qf|exact ext_plus _ _|(apply Qg;rotate_left;(simp<;>omega))|(apply Qh;rotate_left;exact ext_plus _ _)|(apply Qh;rotate_left;assumption)))))).mono ?_;rintro e w5 ⟨rfl,hE5⟩))
   go_roundw
   case rel=>exact⟨j+1,by omega,by go_num,by rw[HSU.out];simp,hEr.trans hE5⟩
   case measure=>simp[intOf];omega
  ·obtain rfl:j=dn:=by have:=HDN.out;omega
   rename Act→World→Prop=>KK
   rename ∀_ _,_→KK _ _=>hKK
   have HKK:=Qb hKK
   clear hKK
   go_wp2
   exact HKK.out _ _ (fis_tail8 (boat:=boat) wr HPA HPL HRO HZO HBE HBI HST HGR HTA HBX (hE13.trans hEr) (hEw3.trans hEr) HR.out HP.out hk hpl8 HQC.out (by have h1:=HMM.out;have h2:=HOV.out;have h3:=HQQ.out;omega) HM0.out (by have h1:=HMM.out;have h2:=HPE2.out;have h3:=HP32.out;omega) HM8.out hb0 hb1)
end Go.Proofs.YtgloajbgphcloaaGreat
