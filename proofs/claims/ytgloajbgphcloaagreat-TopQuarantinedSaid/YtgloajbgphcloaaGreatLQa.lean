/- The law TopQuarantined: the tails of its code. -/
import Derived.Test.YtgloajbgphcloaaGreatKn
import Derived.Test.YtgloajbgphcloaaGreatQc
import Derived.Test.YtgloajbgphcloaaGreatQx
import Derived.Test.YtgloajbgphcloaaGreatTl
namespace Go.Proofs.YtgloajbgphcloaaGreat
set_option linter.unusedVariables false
set_option linter.unusedSimpArgs false
open Go.RowKit
open Act renaming put → Qh
open Ext renaming alloc → Qc, drew → Qd, refl → Qb, setCell → Qe, trans → Qf
open Lib renaming hid → Qa
open List renaming append_eq → Qp, cons_append → Qq, drop_succ_cons → Qu, drop_zero → Qv, getElem_cons_succ → Qk, getElem_cons_zero → Qj, getElem_toArray → Qi, nil_append → Qr, setIfInBounds_toArray → Ql, set_cons_succ → Qn, set_cons_zero → Qm, take_succ_cons → Qs, take_zero → Qt
open Nat renaming le_trans → Qo, lt_of_lt_of_le → Qg
theorem days_at (L:List (Int×Int)) (k:Nat):(L.map Prod.fst).getD k 0=(L.getD k (0,0)).1:=by
 simp only[List.getD_eq_getElem?_getD,List.getElem?_map]
 cases L[k]? <;>rfl
theorem day_at {L:List (Int×Int)} {k:Nat} (h:k<L.length):(L.map Prod.fst).getD k 0=L[k].1:=by
 rw[days_at,List.getD_eq_getElem?_getD,List.getElem?_eq_getElem h];rfl
theorem days_bd {p:Sh.Pass} {lo hi:Int} {L:List (Int×Int)} (O:Sh.Ok p) (G:Sh.Good p lo hi L) (k:Nat):0≤(L.map Prod.fst).getD k 0∧(L.map Prod.fst).getD k 0≤400:=by
 have hn:=O.swellN
 by_cases h:k<L.length
 ·rw[day_at h]
  have:=Sh.call_iff.1 (G.call k h)
  omega
 ·rw[days_at,List.getD_eq_getElem?_getD,List.getElem?_eq_none (by omega)];exact⟨Int.le_refl _,by decide⟩
theorem gap_at {p:Sh.Pass} {lo hi:Int} {L:List (Int×Int)} (G:Sh.Good p lo hi L) {k:Nat} (h:k+1<L.length):lo≤(L.map Prod.fst).getD (k+1) 0 - (L.map Prod.fst).getD k 0∧(L.map Prod.fst).getD (k+1) 0 - (L.map Prod.fst).getD k 0≤hi:=by
 have:=G.gap (k+1) h
 rw[day_at h,days_at]
 exact this
theorem caught {p:Sh.Pass} {lo hi wait:Int} {L:List (Int×Int)} (G:Sh.Good p lo hi L) {r:Nat} (hr:r<L.length) (h1:∀k,k<r→Bn.goOn (L.map Prod.fst) wait k) (h2:¬Bn.goOn (L.map Prod.fst) wait r) {i:Nat} (hi2:2≤i) (hi3:i≤L.length) :
  ∃x:Int,Bn.outF (L.map Prod.fst) (r+1) i= .int .i64 x∧(hi<wait→x= -1)∧(wait≤lo→x=(L.map Prod.fst).getD (i - 1) 0):=by
 refine⟨_,rfl,fun hw=> ?_,fun hw=> ?_⟩
 ·have:r=0:=by
   refine Classical.byContradiction fun e=> ?_
   have h:=h1 (r - 1) (by omega)
   have g:=gap_at G (k:=r - 1) (by have:=h.1;simpa using this)
   have:=h.2
   omega
  rw[if_neg (by omega)]
 ·have:r+1=L.length:=by
   refine Classical.byContradiction fun e=> ?_
   refine h2 ⟨by simp;omega,?_⟩
   have g:=gap_at G (k:=r) (by omega)
   omega
  rw[if_pos (by omega)]
noncomputable def quaT (n:Nat):Code:=codeTail n (Tryz.f5.body.getD .skip)
set_option maxRecDepth 1000000 in
set_option maxHeartbeats 64000000 in
theorem qua_tail2 {u0 u1 u6 u7 u9 u10 u11 u12 u13 u14 u15 u16 u17 u18 u19 u20 u21 u22 u23 u24 u25 u26 u27 u28 u29 u30 u31 u32 u33 u34 u35 u36 u37 u38 u39 u40 u41 u42 u43 u44 u45 u46 u47 u48 u49 u50 u51 u52 u53 u54 u55 u56 u57 u58 u59 u60 u61 u62 u63 u64 u65 u66 u67 u68 u69 u70 u71 u72 u73 u74 u75 u76 u77 u78 u79 u80 u81 u82 u83 u84 u85 u86 u87 u88 u89 u90 u91 u92 u93 u94 u95 u96 u97 u98 u99 u100 u101 u102 u103 u104 u105 u106 u107 u108 u109 u110 u111 u112 u113 u114 u115 u116 u117 u118 u119 u120 u121 u122 u123 u124 u125 u126 u127 u128 u129 u130 u131 u132 u133 u134 u135 u136 u137 u138 u139 u140 u141 u142 u143 u144 u145 u146 u147 u148 u149 u150 u151 u152 u153 u154 u155 u156 u157 u158 u159 u160 u161 u162 u163:Value} {p:Sh.Pass} {lo hi wait:Int} {m:Nat} {w w1:World} {n0 c3 c4:Nat} {a3 a4:Option Addr} (w5:World) (HT:Hid (∀ W,Ext w W→Ints W (.slice a3 p.tides.length c3) p.tides)) (HS:Hid (∀ W,Ext w W→Sh.Spans W (.slice a4 p.swell.length c4) p.swell)) (HBX:Hid (∀ y,Ext w1 y→Blk y n0 #[.slice a3 p.tides.length c3,.int .i64 p.depth,.int .i64 p.draft,.slice a4 p.swell.length c4,.int .i64 p.ll,.int .i64 p.lh] 33∧Blk y (n0+1) #[.int .i64 lo,.int .i64 hi] 25)) (hE1:Ext w1 w5) (hE:Ext w w5) (hp:Sh.passB p=true) (hg:1≤lo∧lo≤hi∧hi≤60) (hm:1≤m∧m≤7) (hw:0≤wait∧wait≤40) (hn:w.heap.size≤n0) :
  Code.wp Tryz.prog (quaT 2) (bodyPost Tryz.prog Tryz.f5 (fun e w'=>e= .returned (.bool true)∧Ext w w')) ⟨List.toArray (u0::u1:: .int .i64 (m:Int):: .int .i64 wait:: .pointer (some ⟨n0,0,none⟩):: .pointer (some ⟨n0+1,0,none⟩)::u6::u7:: .bool false::u9::u10::u11::u12::u13::u14::u15::u16::u17::u18::u19::u20::u21::u22::u23::u24::u25::u26::u27::u28::u29::u30::u31::u32::u33::u34::u35::u36::u37::u38::u39::u40::u41::u42::u43::u44::u45::u46::u47::u48::u49::u50::u51::u52::u53::u54::u55::u56::u57::u58::u59::u60::u61::u62::u63::u64::u65::u66::u67::u68::u69::u70::u71::u72::u73::u74::u75::u76::u77::u78::u79::u80::u81::u82::u83::u84::u85::u86::u87::u88::u89::u90::u91::u92::u93::u94::u95::u96::u97::u98::u99::u100::u101::u102::u103::u104::u105::u106::u107::u108::u109::u110::u111::u112::u113::u114::u115::u116::u117::u118::u119::u120::u121::u122::u123::u124::u125::u126::u127::u128::u129::u130::u131::u132::u133::u134::u135::u136::u137::u138::u139::u140::u141::u142::u143::u144::u145::u146::u147::u148::u149::u150::u151::u152::u153::u154::u155::u156::u157::u158::u159::u160::u161::u162::u163::[]),[]⟩ w5:=by
 unfold quaT
 conv=>arg 2;whnf
 have O:=Sh.ok_of hp
 have HCQ:=Qa (fun W (hx:Ext w W)=>Sh.callsQ_any p (.slice a3 p.tides.length c3) (.slice a4 p.swell.length c4) lo hi m W O hg.1 hg.2.2 hg.2.1 (by omega) (HT.out W hx) (HS.out W hx))
 obtain⟨k0,k2⟩:=HBX.out w5 (by(with_reducible(repeat(first|exact Qb _|assumption|apply Qc|apply Qd|exact ext_plus _ _|(apply Qe;rotate_left;(simp<;>omega))|(apply Qf;rotate_left;exact ext_plus _ _)|(apply Qf;rotate_left;assumption)))));have k1:=k0.lt;have k3:=k2.lt;replace k0:=k0.cell;replace k2:=k2.cell
 go_upto_region 4 with(first|(go_at_call 25;refine(HCQ.out _ hE).mono ?_;rintro e w6 ⟨hE6,hcc⟩;rcases hcc with rfl|⟨v6,L,hL,hG,hsp,rfl⟩))
 ·go_wp2_with (first|(go_at_call 12;refine(known11_any _).mono ?_;rintro e wk ⟨rfl,hbk⟩))
  go_ret
  exact⟨rfl,by(with_reducible(repeat(first|exact Qb _|assumption|apply Qc|apply Qd|exact ext_plus _ _|(apply Qe;rotate_left;(simp<;>omega))|(apply Qf;rotate_left;exact ext_plus _ _)|(apply Qf;rotate_left;assumption))))⟩
 ·subst hL
  have hG7:=Qa hG
  have HL:=Qa (fun W (hx:Ext w6 W)=>hsp.ext hx)
  obtain⟨a6,c6,rfl,hxl⟩:=hsp
  have HXL:=Qa hxl
  have har:=fun W (hx:Ext w6 W)=>Sh.are_any p (.slice a3 p.tides.length c3) (.slice a4 p.swell.length c4) (.slice a6 L.length c6) lo hi L W (Sh.ok_of hp) (HT.out W ((hE.trans hE6).trans hx)) (HS.out W ((hE.trans hE6).trans hx)) (HL.out W hx) hG (by omega)
  have HAR:=Qa har
  clear har hG hxl
  (try clear k0 k1 k2 k3);obtain⟨k0,k2⟩:=HBX.out w6 (by(with_reducible(repeat(first|exact Qb _|assumption|apply Qc|apply Qd|exact ext_plus _ _|(apply Qe;rotate_left;(simp<;>omega))|(apply Qf;rotate_left;exact ext_plus _ _)|(apply Qf;rotate_left;assumption)))));have k1:=k0.lt;have k3:=k2.lt;replace k0:=k0.cell;replace k2:=k2.cell
  go_upto_region 8 with(first|(go_at_call 26;refine(HAR.out _ (Qb _)).mono ?_;rintro e w7 ⟨rfl,hE7⟩))
  have hE17:=(hE1.trans hE6).trans hE7
  have hEw7:=(hE.trans hE6).trans hE7
  clear k0 k1 k2 k3
  go_wp2
  obtain⟨bi,hbi⟩:∃n,w7.heap.size=n:=⟨_,rfl⟩
  obtain⟨w8,hw8⟩:∃y,(w7.alloc (.cells #[.int .i64 0] 3)).alloc (.cells #[.int .i64 ((L.length:Int)+1),.slice (some ⟨bi,0,none⟩) 1 1,.slice none 0 0,.slice none 0 0,.int .i64 wait] 82)=y:=⟨_,rfl⟩
  have hE78:Ext w7 w8:=by rw[← hw8];(with_reducible(repeat(first|exact Qb _|assumption|apply Qc|apply Qd|exact ext_plus _ _|(apply Qe;rotate_left;(simp<;>omega))|(apply Qf;rotate_left;exact ext_plus _ _)|(apply Qf;rotate_left;assumption))))
  have hI8:Blk w8 bi #[.int .i64 0] 3:=by rw[← hw8];exact(Blk.new' hbi.symm _ _).alloc _
  have hX8:Blk w8 (bi+1) #[.int .i64 ((L.length:Int)+1),.slice (some ⟨bi,0,none⟩) 1 1,.slice none 0 0,.slice none 0 0,.int .i64 wait] 82:=by rw[← hw8];exact Blk.new' (by simp[hbi]) _ _
  have HZ7:=Qa hbi
  simp only[hbi,hw8]
  have hz8:bi+2≤w8.heap.size:=by rw[← hw8];simp[hbi]
  clear hbi hw8
  go_loopw [12] (fun i wr=>∃k:Nat,k≤L.length∧i= .int .i64 k∧(∃ vt,Blk wr (bi+1) #[.int .i64 ((L.length:Int)+1),.slice (some ⟨bi,0,none⟩) 1 1,.slice none 0 0,vt,.int .i64 wait] 82∧QU Bn.tripC 4 (bi+2) wr vt ((Bn.chainT (L.map Prod.fst)).take k))∧Blk wr bi #[.int .i64 0] 3∧bi+2≤wr.heap.size∧Ext w7 wr) (fun i _=>L.length - (intOf i).toNat)
  case atStart=>exact⟨0,Nat.zero_le _,rfl,⟨_,hX8,QU.nil _ _ _ _⟩,hI8,hz8,hE78⟩
  case round =>
   rename World=>wr
   obtain⟨k,hk,rfl,⟨vt,hX,hQ⟩,hI,hz,hEr⟩:=hrel
   clear hX8 hI8 hz8 hE78
   by_cases hlt:k<L.length
   ·have hki:(k:Int)<(L.length:Int):=by omega
    obtain⟨b6,o6,hv6,hb6,hAt⟩:=HXL.out k hlt
    cases hv6
    have hda:w6.cell? ⟨b6,o6+k*2,none⟩=some (.int .i64 (L[k].1)):=hAt 0 _ rfl
    rw[← day_at hlt]at hda
    obtain⟨dd,hdd⟩:∃d,(L.map Prod.fst).getD k 0=d:=⟨_,rfl⟩
    rw[hdd]at hda
    have htk:(Bn.chainT (L.map Prod.fst)).take (k+1)=(Bn.chainT (L.map Prod.fst)).take k++[⟨dd,(k:Int),(k:Int)+1,0⟩]:=by rw[List.take_add_one,Bn.chain_get (by simpa using hlt),hdd];rfl
    have HTK:=Qa htk
    have k4:=((hE7.trans hEr).cells.1 _ _ hb6).trans hda
    have k5:=Qg hb6 (hE7.trans hEr).size
    have k0:=hX.cell
    have k1:=hX.lt
    have hpc:=plus_cell
    obtain⟨a7,c7,hv7⟩:=hQ.shape
    have hl7:((Bn.chainT (L.map Prod.fst)).take k).length=k:=by rw[List.length_take,Bn.chain_len,List.length_map];omega
    rw[hl7]at hv7
    subst hv7
    have HLK:=Qa hk
    have HLT:=Qa hlt
    have hk7:k≤7:=by omega
    have hwk:IntKind.wrap .i64 ((k:Int)+1)=(k:Int)+1:=IntWalk.i64_in _ (by omega)
    have HL7:=Qa hl7
    clear htk hda hdd hAt hb6 hk hl7
    go_wp2
    refine wp_region_late 12 (fun b y=>b=false→(∀ o,y.cell? ⟨bi+1,o,none⟩=(#[.int .i64 ((L.length:Int)+1),.slice (some ⟨bi,0,none⟩) 1 1,.slice none 0 0,.slice a7 k c7,.int .i64 wait]:Array Value)[o]?)∧y.cell? ⟨b6,o6+k*2,none⟩=some (.int .i64 dd)) (by kernel_rfl) (fun hL=> ?_)
    obtain⟨w2,hw2⟩:∃y,wr.drew=y:=⟨_,rfl⟩
    have hE2:Ext wr w2:=by rw[← hw2];exact(Qb _).drew
    rw[hw2]
    clear hw2
    have m0:=(hX.ext hE2).cell
    have m1:=(hE2.cells.1 _ _ k5).trans k4
    refine late_early (i:=0) (v:= ?_) rfl (by kernel_rfl) (by kernel_rfl) (by kernel_rfl) (by decide) (by kernel_rfl) (fun _ _ _ h=>h) hL (Or.inl ⟨by rfl,?_⟩) (fun _=>⟨m0,m1⟩) (fun hL'=> ?_)
    rotate_left
    ·intro y hy;have hz:=hy rfl;clear hy;obtain⟨g1,g2⟩:=hz;go_simp;(try with_reducible rfl)
    clear hL;rename Shutb _ _=>hL
    (try simp only[Qh,Qi,Qj,Qk,Ql,Qm,Qn])
    refine late_early (i:=1) (v:= ?_) rfl (by kernel_rfl) (by kernel_rfl) (by kernel_rfl) (by decide) (by kernel_rfl) (fun _ _ _ h=>h) hL (Or.inl ⟨by rfl,?_⟩) (fun _=>⟨m0,m1⟩) (fun hL'=> ?_)
    rotate_left
    ·intro y hy;have hz:=hy rfl;clear hy;obtain⟨g1,g2⟩:=hz;go_simp;(try with_reducible rfl)
    clear hL;rename Shutb _ _=>hL
    (try simp only[Qh,Qi,Qj,Qk,Ql,Qm,Qn])
    refine late_early (i:=2) (v:= ?_) rfl (by kernel_rfl) (by kernel_rfl) (by kernel_rfl) (by decide) (by kernel_rfl) (fun _ _ _ h=>h) hL (Or.inl ⟨by rfl,?_⟩) (fun _=>⟨m0,m1⟩) (fun hL'=> ?_)
    rotate_left
    ·intro y hy;have hz:=hy rfl;clear hy;obtain⟨g1,g2⟩:=hz;go_simp;(try with_reducible rfl)
    clear hL;rename Shutb _ _=>hL
    (try simp only[Qh,Qi,Qj,Qk,Ql,Qm,Qn])
    refine late_early (i:=3) (v:= ?_) rfl (by kernel_rfl) (by kernel_rfl) (by kernel_rfl) (by decide) (by kernel_rfl) (fun _ _ _ h=>h) hL (Or.inl ⟨by rfl,?_⟩) (fun _=>⟨m0,m1⟩) (fun hL'=> ?_)
    rotate_left
    ·intro y hy;have hz:=hy rfl;clear hy;obtain⟨g1,g2⟩:=hz;go_simp;(try with_reducible rfl)
    clear hL;rename Shutb _ _=>hL
    (try simp only[Qh,Qi,Qj,Qk,Ql,Qm,Qn])
    refine late_early (i:=4) (v:= ?_) rfl (by kernel_rfl) (by kernel_rfl) (by kernel_rfl) (by decide) (by kernel_rfl) (fun _ _ _ h=>h) hL (Or.inl ⟨by rfl,?_⟩) (fun _=>⟨m0,m1⟩) (fun hL'=> ?_)
    rotate_left
    ·intro y hy;have hz:=hy rfl;clear hy;obtain⟨g1,g2⟩:=hz;go_simp;(try with_reducible rfl)
    clear hL;rename Shutb _ _=>hL
    (try simp only[Qh,Qi,Qj,Qk,Ql,Qm,Qn])
    refine late_early (i:=5) (v:= ?_) rfl (by kernel_rfl) (by kernel_rfl) (by kernel_rfl) (by decide) (by kernel_rfl) (fun _ _ _ h=>h) hL (Or.inl ⟨by rfl,?_⟩) (fun _=>⟨m0,m1⟩) (fun hL'=> ?_)
    rotate_left
    ·intro y hy;have hz:=hy rfl;clear hy;obtain⟨g1,g2⟩:=hz;go_simp;(try with_reducible rfl)
    clear hL;rename Shutb _ _=>hL
    (try simp only[Qh,Qi,Qj,Qk,Ql,Qm,Qn])
    refine late_early (i:=6) (v:= ?_) rfl (by kernel_rfl) (by kernel_rfl) (by kernel_rfl) (by decide) (by kernel_rfl) (fun _ _ _ h=>h) hL (Or.inl ⟨by rfl,?_⟩) (fun _=>⟨m0,m1⟩) (fun hL'=> ?_)
    rotate_left
    ·intro y hy;have hz:=hy rfl;clear hy;obtain⟨g1,g2⟩:=hz;go_simp;(try with_reducible rfl)
    clear hL;rename Shutb _ _=>hL
    (try simp only[Qh,Qi,Qj,Qk,Ql,Qm,Qn])
    refine late_early (i:=7) (v:= ?_) rfl (by kernel_rfl) (by kernel_rfl) (by kernel_rfl) (by decide) (by kernel_rfl) (fun _ _ _ h=>h) hL (Or.inl ⟨by rfl,?_⟩) (fun _=>⟨m0,m1⟩) (fun hL'=> ?_)
    rotate_left
    ·intro y hy;have hz:=hy rfl;clear hy;obtain⟨g1,g2⟩:=hz;go_simp;(try with_reducible rfl)
    clear hL;rename Shutb _ _=>hL
    (try simp only[Qh,Qi,Qj,Qk,Ql,Qm,Qn])
    refine late_early (i:=8) (v:= ?_) rfl (by kernel_rfl) (by kernel_rfl) (by kernel_rfl) (by decide) (by kernel_rfl) (fun _ _ _ h=>h) hL (Or.inl ⟨by rfl,?_⟩) (fun _=>⟨m0,m1⟩) (fun hL'=> ?_)
    rotate_left
    ·intro y hy;have hz:=hy rfl;clear hy;obtain⟨g1,g2⟩:=hz;go_simp;(try with_reducible rfl)
    clear hL;rename Shutb _ _=>hL
    (try simp only[Qh,Qi,Qj,Qk,Ql,Qm,Qn])
    refine late_early (i:=9) (v:= ?_) rfl (by kernel_rfl) (by kernel_rfl) (by kernel_rfl) (by decide) (by kernel_rfl) (fun _ _ _ h=>h) hL (Or.inl ⟨by rfl,?_⟩) (fun _=>⟨m0,m1⟩) (fun hL'=> ?_)
    rotate_left
    ·intro y hy;have hz:=hy rfl;clear hy;obtain⟨g1,g2⟩:=hz;go_simp;(try with_reducible rfl)
    clear hL;rename Shutb _ _=>hL
    (try simp only[Qh,Qi,Qj,Qk,Ql,Qm,Qn])
    refine late_early (i:=10) (v:= ?_) rfl (by kernel_rfl) (by kernel_rfl) (by kernel_rfl) (by decide) (by kernel_rfl) (fun _ _ _ h=>h) hL (Or.inl ⟨by rfl,?_⟩) (fun _=>⟨m0,m1⟩) (fun hL'=> ?_)
    rotate_left
    ·intro y hy;have hz:=hy rfl;clear hy;obtain⟨g1,g2⟩:=hz;go_simp;(try with_reducible rfl)
    clear hL;rename Shutb _ _=>hL
    (try simp only[Qh,Qi,Qj,Qk,Ql,Qm,Qn])
    have hl7:=HL7.out
    have hX2:=hX.ext hE2
    have hQ2:=hQ.ext hE2
    have hI2:=hI.ext hE2
    have hE72:=hEr.trans hE2
    have hz2:=Qo hz hE2.size
    clear k0 k1 k4 hX hQ hI hEr hz
    have hEa:Ext w2 (w2.alloc (.cells #[.int .i64 dd,.int .i64 (k:Int),.int .i64 ((k:Int)+1),.int .i64 0] 84)):=(Qb _).alloc _
    have m3:=(hX2.ext hEa).cell
    have m2:=(hEa.cells.1 _ _ (Qg k5 hE2.size)).trans m1
    obtain⟨i0,z0,hi0,hz0,hz1,hz2',hz3⟩:∃i z,Tryz.prog.info? 84=some i∧i.zero=some z∧i.size=4∧i.bytes≤64∧z.cells.size=4:=⟨_,_,rfl,rfl,rfl,by decide,rfl⟩
    obtain⟨v2,w6',hrun,hq2,hM2,hnew,hko⟩:=(hQ2.ext hEa).push (fun _=>rfl) (fun x u hu=>by(simp only[Bn.tripC,List.mem_cons,List.not_mem_nil,or_false]at hu);rcases hu with rfl|rfl|rfl|rfl<;>rfl) 80 84 80 i0 z0 Tryz.underlying80 hi0 hz0 hz1 hz3 hz2' (Qo hz2 hEa.size) ⟨dd,(k:Int),(k:Int)+1,0⟩ ⟨w2.heap.size,0,none⟩ (by
     intro j u hj
     have hc:=(Blk.new w2 #[.int .i64 dd,.int .i64 (k:Int),.int .i64 ((k:Int)+1),.int .i64 0] 84).cell
     rw[show(Addr.add ⟨w2.heap.size,0,none⟩ j:Addr)=⟨w2.heap.size,j,none⟩ by rw[Addr.add_lit,Nat.zero_add],hc]
     rw[← hj];simp[Bn.tripC]) (by rw[hl7];omega)
    rw[← HTK.out]at hq2
    obtain⟨a9,c9,hv9⟩:=hq2.shape
    have hl9:((Bn.chainT (L.map Prod.fst)).take (k+1)).length=k+1:=by have:=HLT.out;rw[List.length_take,Bn.chain_len,List.length_map];omega
    rw[hl9]at hv9
    subst hv9
    have nb:∀q,InB (.slice a7 k c7) q→bi+2≤q:=fun q e=>(hQ2.lt e).1
    have hX6:=(hX2.ext hEa).mod hM2 (fun e=>by have:=nb _ e;omega)
    have hI6:=(hI2.ext hEa).mod hM2 (fun e=>by have:=nb _ e;omega)
    have hE76:=hM2.ext0 (hE72.trans hEa) (fun q e=>by have:=nb _ e;have:=HZ7.out;omega)
    have hz6:=Qo (Qo hz2 hEa.size) hM2.size
    have nb2:¬InB (.slice a9 (k+1) c9) (bi+1):=fun e=>by have:=(hq2.lt e).1;omega
    have k0:=hX6.cell
    have k1:=hX6.lt
    have k2:=hX6.free
    have HXX:=Qa (⟨hX6,hI6,hE76,hq2,nb2,hz6⟩:_∧_∧_∧_∧_∧_)
    clear hX2 hQ2 hI2 hE72 hX6 hI6 hE76 hq2 nb nb2 hz6 hz2 hnew hM2 hko hEa hl7 hl9 k5 hE2 m0 m1
    refine late_one (i:=11) (by kernel_rfl) hL (fun hL'=> ?_)
    refine wpOp_step rfl (fun KK hK0=> ?_)
    have hK:Shut _:=hK0
    clear hK0
    go_simp
    refine hK.out _ _ ⟨fun _=>⟨m3,m2⟩,?_⟩
    clear hK KK;clear hL;rename Shutb _ _=>hL
    (try simp only[Qh,Qi,Qj,Qk,Ql,Qm,Qn])
    refine late_one (i:=12) (by kernel_rfl) hL (fun hL'=> ?_)
    refine wpOp_step rfl (fun KK hK0=> ?_)
    have hK:Shut _:=hK0
    clear hK0
    refine Lib.wp_append_run _ _ _ _ _ rfl _ _ rfl rfl _ _ hrun ?_
    refine hK.out _ _ ⟨fun e=>absurd (e:true=false) (by decide),?_⟩
    clear hK KK;clear hL;rename Shutb _ _=>hL
    (try simp only[Qh,Qi,Qj,Qk,Ql,Qm,Qn])
    refine late_one (i:=13) (by kernel_rfl) hL (fun hL'=> ?_)
    refine wpOp_step rfl (fun KK hK0=> ?_)
    have hK:Shut _:=hK0
    clear hK0
    go_simp
    refine hK.out _ _ ⟨fun e=>absurd (e:true=false) (by decide),?_⟩
    clear hK KK;clear hL;rename Shutb _ _=>hL
    (try simp only[Qh,Qi,Qj,Qk,Ql,Qm,Qn])
    refine late_one (i:=14) (by kernel_rfl) hL (fun hL'=> ?_)
    refine wpOp_step rfl (fun KK hK0=> ?_)
    have hK:Shut _:=hK0
    clear hK0
    go_simp
    refine hK.out _ _ ⟨fun e=>absurd (e:true=false) (by decide),?_⟩
    clear hK KK;clear hL;rename Shutb _ _=>hL
    (try simp only[Qh,Qi,Qj,Qk,Ql,Qm,Qn])
    refine late_done (by kernel_rfl) ?_
    (try dsimp only[Exit.then])
    go_wp2
    go_roundw
    case rel =>
     obtain⟨x1,x2,x3,x4,x5,x6⟩:=HXX.out
     exact⟨k+1,HLT.out,by go_num,⟨_,x1.set 3 _,x4.mod (S:=fun q=>q=bi+1) ((Mod.refl (fun q=>q=bi+1) _).set (a:=⟨bi+1,3,none⟩) (.inl rfl) _) (fun q hq e=>x5 (by rw[← e];exact hq))⟩,x2.other (by simp) _,by rw[size_setCell];exact x6,x3.setCell (p:=⟨bi+1,3,none⟩) (by have:=HZ7.out;show _≤bi+1;omega) _⟩
    case measure=>simp[intOf];have:=HLT.out;omega
   ·obtain rfl:k=L.length:=by omega
    have hlen:(Bn.chainT (L.map Prod.fst)).length=L.length:=by rw[Bn.chain_len,List.length_map]
    rw[List.take_of_length_le (by omega)]at hQ
    obtain⟨a7,c7,hv7⟩:=hQ.shape
    rw[hlen]at hv7
    subst hv7
    have hDl:(L.map Prod.fst).length=L.length:=List.length_map _
    have hii:Ints wr (.slice (some ⟨bi,0,none⟩) 1 1) [0]:=⟨_,_,rfl,fun i h=>⟨bi,0,rfl,hI.lt,by(have h':i=0:=(by simpa using h));subst h';rw[hI.cell];rfl⟩⟩
    have hca:=Bn.catches_any (L.map Prod.fst) wait _ _ wr hii hQ.sls (by omega) (by omega) (days_bd O hG7.out) hw
    rw[hDl]at hca
    have HCA:=Qa hca
    have HXL2:=Qa (fun k (h:k<L.length)=>HXL.out k h)
    have k0:=hX.cell
    have k1:=hX.lt
    have hE6r:=hE7.trans hEr
    have hEwr:=hEw7.trans hEr
    have hE1r:=hE17.trans hEr
    have HML:=Qa hm
    clear hQ hii hca hlen hDl hX hI hz hE7 hE17 hEw7
    go_upto_region 14 with(first|(go_at_call 27;refine(HCA.out).mono ?_;rintro e w9 ⟨bo,r,hr,hgo,hng,rfl,hF,hE9⟩))
    have HCT:=Qa (fun i (h2:2≤i) (h3:i≤L.length)=>caught hG7.out hr hgo hng h2 h3)
    have HF:=Qa hF
    obtain⟨b6,o6,hv6,hb6,hAt0⟩:=HXL.out 0 (by omega)
    cases hv6
    have hda0:w6.cell? ⟨b6,o6,none⟩=some (.int .i64 (L[0].1)):=hAt0 0 _ rfl
    rw[← day_at (by omega)]at hda0
    have c0:w9.cell? ⟨bo,0,none⟩=some (.int .i64 0):=by have:=hF.cell (i:=0) (by omega);simpa using this
    have c1:w9.cell? ⟨bo,1,none⟩=some (.int .i64 ((L.map Prod.fst).getD 0 0)):=by have:=hF.cell (i:=1) (by omega);rw[if_neg (by decide)]at this;unfold Bn.outF at this;rw[if_pos (by omega)]at this;exact this
    have hE69:=hE6r.trans hE9
    have c2:=(hE69.cells.1 _ _ hb6).trans hda0
    have c3:=Qg hb6 hE69.size
    have c4:=hF.lt
    obtain⟨d0,hd0⟩:∃d,(L.map Prod.fst).getD 0 0=d:=⟨_,rfl⟩
    rw[hd0]at c1 c2
    have hpc:=plus_cell
    have hm1:=hm.1
    have hm2:=hm.2
    have hl0:(0:Int)<(L.length:Int):=by omega
    have HD0:=Qa hd0
    have HB6:=Qa hb6
    clear hF hgo hng hr hda0 hAt0 hd0 hb6 k0 k1 hm
    refine wp_region_ext 25 (fun _ _ d _ _ h=>by cases d<;>exact h) (by kernel_rfl) (by kernel_rfl) (by kernel_rfl) (by kernel_rfl) ?_
    (try simp only[Qp,Qq,Qr])
    simp only[Qs,Qt,Qu,Qv]
    repeat(any_goals(first|go_big_quiet_step(fail)|quiet_step(fail)))
    all_goals(refine wpQuiet_nil ?_;intro wa hEwa)
    have hE6a:=hE69.trans hEwa
    have hE9a:=hE9.trans hEwa
    have hEa:=hEwr.trans hE9a
    have hE1a:=hE1r.trans hE9a
    clear c0 c1 c2 c3 c4
    go_wp2
    go_loopw [15] (fun i wy=>∃k:Nat,2≤k∧k≤L.length+1∧i= .int .i64 k∧Ext wa wy) (fun i _=>L.length+1 - (intOf i).toNat)
    case atStart=>exact⟨2,Nat.le_refl _,by omega,rfl,Qb _⟩
    case round =>
     rename World=>wy
     obtain⟨k,hk2,hk,rfl,hEy⟩:=hrel
     by_cases hlt:k≤L.length
     ·obtain⟨q,rfl⟩:∃q,k=q+1:=⟨k - 1,by omega⟩
      obtain⟨x,hx,hx1,hx2⟩:=HCT.out (q+1) hk2 hlt
      obtain⟨b6',o6',hv6,hb6,hAt⟩:=HXL2.out q (by omega)
      cases hv6
      have hda:w6.cell? ⟨b6,o6+q*2,none⟩=some (.int .i64 (L[q].1)):=hAt 0 _ rfl
      rw[← day_at (by omega)]at hda
      have c0:w9.cell? ⟨bo,q+1,none⟩=some (.int .i64 x):=by have:=HF.out.cell (i:=q+1) (by omega);rw[if_neg (by omega),hx]at this;exact this
      have hE9y:=hEwa.trans hEy
      have c1:=(hE9y.cells.1 _ _ HF.out.lt).trans c0
      have c2:=Qg HF.out.lt hE9y.size
      have hE6y:=hE69.trans hE9y
      have c3:=(hE6y.cells.1 _ _ hb6).trans hda
      have c4:=Qg hb6 hE6y.size
      rw[Nat.add_sub_cancel]at hx2
      obtain⟨dd,hdd⟩:∃d,(L.map Prod.fst).getD q 0=d:=⟨_,rfl⟩
      rw[hdd]at c3 hx2
      have k2:=(HBX.out wy (hE1a.trans hEy)).2.cell
      have k3:=(HBX.out wy (hE1a.trans hEy)).2.lt
      have hsub:(((q+1:Nat):Int)) - 1=(q:Int):=by omega
      have hki:(((q+1:Nat):Int))≤(L.length:Int):=by omega
      have hq1:q<L.length:=by omega
      have HK:=Qa (⟨hk2,hlt⟩:2≤q+1∧q+1≤L.length)
      clear hda hAt hb6 hx c0 hdd hk hk2 hlt
      by_cases z1:hi<wait
      ·have hxe:=hx1 z1
       have z2:¬wait≤lo:=by omega
       subst hxe
       clear hx1 hx2
       have Z1:=Qa z1
       have Z2:=Qa z2
       clear z1 z2
       go_wp2
       refine wp_region_ext 30 (fun _ _ d _ _ h=>by cases d<;>exact h) (by kernel_rfl) (by kernel_rfl) (by kernel_rfl) (by kernel_rfl) ?_
       (try simp only[Qp,Qq,Qr])
       simp only[Qs,Qt,Qu,Qv]
       have z1:hi<wait:=by have:=Z1.out;omega
       have z2:¬wait≤lo:=by have:=Z2.out;omega
       repeat(any_goals(first|go_big_quiet_step(fail)|quiet_step(fail)))
       all_goals(refine wpQuiet_nil ?_;intro wb hEwb)
       go_wp2
       go_roundw
       case rel=>exact⟨q+1+1,by omega,by have:=HK.out;omega,by go_num,hEy.trans hEwb⟩
       case measure=>simp[intOf];have:=HK.out;omega
      ·by_cases z2:wait≤lo
       ·have hxe:=hx2 z2
        subst hxe
        clear hx1 hx2
        have Z1:=Qa z1
        have Z2:=Qa z2
        clear z1 z2
        go_wp2
        refine wp_region_ext 30 (fun _ _ d _ _ h=>by cases d<;>exact h) (by kernel_rfl) (by kernel_rfl) (by kernel_rfl) (by kernel_rfl) ?_
        (try simp only[Qp,Qq,Qr])
        simp only[Qs,Qt,Qu,Qv]
        have z1:¬hi<wait:=by have:=Z1.out;omega
        have z2:wait≤lo:=by have:=Z2.out;omega
        repeat(any_goals(first|go_big_quiet_step(fail)|quiet_step(fail)))
        all_goals(refine wpQuiet_nil ?_;intro wb hEwb)
        go_wp2
        go_roundw
        case rel=>exact⟨q+1+1,by omega,by have:=HK.out;omega,by go_num,hEy.trans hEwb⟩
        case measure=>simp[intOf];have:=HK.out;omega
       ·clear hx1 hx2
        have Z1:=Qa z1
        have Z2:=Qa z2
        clear z1 z2
        go_wp2
        refine wp_region_ext 30 (fun _ _ d _ _ h=>by cases d<;>exact h) (by kernel_rfl) (by kernel_rfl) (by kernel_rfl) (by kernel_rfl) ?_
        (try simp only[Qp,Qq,Qr])
        simp only[Qs,Qt,Qu,Qv]
        have z1:¬hi<wait:=by have:=Z1.out;omega
        have z2:¬wait≤lo:=by have:=Z2.out;omega
        repeat(any_goals(first|go_big_quiet_step(fail)|quiet_step(fail)))
        all_goals(refine wpQuiet_nil ?_;intro wb hEwb)
        go_wp2
        go_roundw
        case rel=>exact⟨q+1+1,by omega,by have:=HK.out;omega,by go_num,hEy.trans hEwb⟩
        case measure=>simp[intOf];have:=HK.out;omega
     ·obtain rfl:k=L.length+1:=by omega
      have hki:¬((L.length+1:Nat):Int)≤(L.length:Int):=by omega
      go_wp2_with (first|(go_at_call 12;refine(known11_any _).mono ?_;rintro e wk ⟨rfl,hbk⟩))
      go_ret
      exact⟨rfl,(hEa.trans hEy).trans hbk⟩
end Go.Proofs.YtgloajbgphcloaaGreat
