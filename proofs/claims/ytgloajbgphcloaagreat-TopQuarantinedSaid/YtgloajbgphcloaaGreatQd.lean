/- The ship's document: gaps, how many calls; whether calls are as defined, and surely possible. -/
import Derived.Test.YtgloajbgphcloaaGreatSh
namespace Go.Proofs.YtgloajbgphcloaaGreat.Sh
set_option linter.unusedVariables false
set_option linter.unusedSimpArgs false
open Go.RowKit
open Blk renaming new' → Qg
open Ext renaming alloc → Qb, drew → Qc, refl → Qa, setCell → Qd, trans → Qe
open Lib renaming hid → Qf
open List renaming drop_succ_cons → Qk, drop_zero → Ql, take_succ_cons → Qi, take_zero → Qj
open Nat renaming lt_of_lt_of_le → Qh
theorem gap_any (a b:Int) (w:World) :
  Calls Tryz.prog 23 #[.agg #[.int .i64 a,.int .i64 b]] w fun e w'=>e= .returned (.bool (spanB a b 1 60))∧Ext w w':=by
 go_enter Tryz.func23,Tryz.ntmps23
 go_wp2_with (first|(go_at_call 49;refine(rspan_any _ _ _ _ _).mono ?_;rintro e w1 ⟨rfl,hE1⟩))
 go_ret
 exact⟨rfl,by(with_reducible(repeat(first|exact Qa _|assumption|apply Qb|apply Qc|exact ext_plus _ _|(apply Qd;rotate_left;(simp<;>omega))|(apply Qe;rotate_left;exact ext_plus _ _)|(apply Qe;rotate_left;assumption))))⟩
theorem many_any (n:Int) (w:World) :
  Calls Tryz.prog 24 #[.int .i64 n] w fun e w'=>e= .returned (.bool (within n 1 8))∧w=w':=by
 go_enter Tryz.func24,Tryz.ntmps24
 go_wp2_with (first|(go_at_call 48;refine(rin_any _ _ _ _).mono ?_;rintro e w' ⟨rfl,rfl⟩))
 go_ret
 exact⟨rfl,by trivial⟩
set_option maxRecDepth 100000 in
set_option maxHeartbeats 8000000 in
theorem rgoes_any (p:Pass) (vt vs:Value) (s d h:Int) (w:World) (O:Ok p) (hd:0≤d∧d≤1000) (hh:0≤h∧h≤1000) (hs:0≤s∧s≤1000) (hT:Ints w vt p.tides) :
  Calls Tryz.prog 158 #[.agg (passV p vt vs),.agg #[.int .i64 d,.int .i64 h],.int .i64 s] w fun e w'=>e= .returned (.bool (goesB p d h s))∧Ext w w':=by
 obtain⟨k,hk,hkl⟩:=mod_bd O hd.1 hh.1
 have hti:=tide_at hk hkl
 have htb:=O.tides _ (List.getElem_mem hkl)
 rw[← hti]at htb
 obtain⟨ta,ct,rfl,hx⟩:=hT
 obtain⟨b,off,rfl,hb,h0⟩:=hx k hkl
 rw[← hti]at h0
 have hgb:goesB p d h s=(within h p.ll p.lh&&decide (p.draft≤p.depth+tideAt p d h - s)):=rfl
 obtain⟨T,hTT⟩:∃T,tideAt p d h=T:=⟨_,rfl⟩
 rw[hTT]at htb h0 hgb
 have hn:=O.tidesN
 have hdp:=O.depth
 have hdr:=O.draft
 obtain⟨n,hnn⟩:∃n,p.tides.length=n:=⟨_,rfl⟩
 rw[hnn]at hk hkl hn ⊢
 have hw1:IntKind.i64.wrap (d*24+h)=d*24+h:=by rw[IntKind.wrap_i64];omega
 have hnz:¬((n:Int)=0):=by omega
 obtain⟨B,hB⟩:∃B,within h p.ll p.lh=B:=⟨_,rfl⟩
 have hin:=fun W=>rin_any h p.ll p.lh W
 simp only[hB]at hin
 rw[hB]at hgb
 have HIN:=Qf hin
 have HGB:=Qf hgb
 have hpc:=plus_cell
 clear hti hTT hnn hx O hin hgb hB
 go_enter Tryz.func158,Tryz.ntmps158
 go_wp2
 obtain⟨n0,hn0⟩:∃n,w.heap.size=n:=⟨_,rfl⟩
 obtain⟨w1,hw1⟩:∃y,(w.alloc (.cells (passV p (.slice (some ⟨b,off,none⟩) n ct) vs) 33)).alloc (.cells #[.int .i64 d,.int .i64 h] 35)=y:=⟨_,rfl⟩
 have hV1:Blk w1 n0 (passV p (.slice (some ⟨b,off,none⟩) n ct) vs) 33:=by rw[← hw1];exact(Qg hn0.symm _ _).alloc _
 have hC1:Blk w1 (n0+1) #[.int .i64 d,.int .i64 h] 35:=by rw[← hw1];exact Qg (by simp[hn0]) _ _
 have hE1:Ext w w1:=by rw[← hw1];(with_reducible(repeat(first|exact Qa _|assumption|apply Qb|apply Qc|exact ext_plus _ _|(apply Qd;rotate_left;(simp<;>omega))|(apply Qe;rotate_left;exact ext_plus _ _)|(apply Qe;rotate_left;assumption))))
 have k0:=hV1.cell
 have k1:=hV1.lt
 have k2:=hC1.cell
 have k3:=hC1.lt
 have k4:=(hE1.cells.1 _ _ hb).trans h0
 have k5:=Qh hb hE1.size
 simp only[hw1,hn0]
 clear hw1 hn0 h0 hb
 refine wp_region_ext 14 (fun _ _ d _ _ h=>by cases d<;>exact h) (by kernel_rfl) (by kernel_rfl) (by kernel_rfl) (by kernel_rfl) ?_
 simp only[Qi,Qj,Qk,Ql]
 repeat(any_goals(first|go_big_quiet_step(fail)|quiet_step(fail)))
 all_goals(refine wpQuiet_nil ?_;intro w2 hE2)
 have g0:=(hV1.ext hE2).cell
 have g1:=(hV1.ext hE2).lt
 have g2:=(hC1.ext hE2).cell
 have g3:=(hC1.ext hE2).lt
 clear k0 k1 k2 k3 k4 k5
 cases B
 all_goals
  go_wp2_with (first|(go_at_call 48;refine(HIN.out _).mono ?_;rintro e w' ⟨rfl,rfl⟩))
  go_ret
  exact⟨ret_bool (by rw[HGB.out];rfl),hE1.trans hE2⟩
set_option maxRecDepth 100000 in
set_option maxHeartbeats 8000000 in
theorem surely_any (p:Pass) (vt vs:Value) (d:Nat) (h:Int) (w:World) (O:Ok p) (hd:d<p.swell.length) (hh:0≤h∧h≤1000) (hT:Ints w vt p.tides) (hS:Spans w vs p.swell) :
  Calls Tryz.prog 86 #[.agg (passV p vt vs),.agg #[.int .i64 (d:Int),.int .i64 h]] w fun e w'=>e= .returned (.bool (goesB p d h (swAt p d).2))∧Ext w w':=by
 have hsb:=sw_bd O hd
 have hn:=O.swellN
 have HO:=Qf (fun W hE=>rgoes_any p vt vs (swAt p d).2 d h W O (by omega) hh (by omega) (hT.ext hE))
 obtain⟨ta,ct,rfl,_⟩:=hT
 obtain⟨b,off,cs,rfl,hb,h1,h2⟩:=swell_get hS hd
 obtain⟨sp,hsp⟩:∃s,swAt p d=s:=⟨_,rfl⟩
 simp only[hsp]at HO h1 h2 ⊢
 have hpc:=plus_cell
 clear hsp hS O hsb
 go_enter Tryz.func86,Tryz.ntmps86
 go_wp2
 obtain⟨n0,hn0⟩:∃n,w.heap.size=n:=⟨_,rfl⟩
 obtain⟨w1,hw1⟩:∃y,(w.alloc (.cells (passV p (.slice ta p.tides.length ct) (.slice (some ⟨b,off,none⟩) p.swell.length cs)) 33)).alloc (.cells #[.int .i64 (d:Int),.int .i64 h] 35)=y:=⟨_,rfl⟩
 have hV1:Blk w1 n0 (passV p (.slice ta p.tides.length ct) (.slice (some ⟨b,off,none⟩) p.swell.length cs)) 33:=by rw[← hw1];exact(Qg hn0.symm _ _).alloc _
 have hC1:Blk w1 (n0+1) #[.int .i64 (d:Int),.int .i64 h] 35:=by rw[← hw1];exact Qg (by simp[hn0]) _ _
 have hE1:Ext w w1:=by rw[← hw1];(with_reducible(repeat(first|exact Qa _|assumption|apply Qb|apply Qc|exact ext_plus _ _|(apply Qd;rotate_left;(simp<;>omega))|(apply Qe;rotate_left;exact ext_plus _ _)|(apply Qe;rotate_left;assumption))))
 have k0:=hV1.cell
 have k1:=hV1.lt
 have k2:=hC1.cell
 have k3:=hC1.lt
 have k4:=(hE1.cells.1 _ _ hb).trans h1
 have k5:=(hE1.cells.1 _ _ hb).trans h2
 have k6:=Qh hb hE1.size
 simp only[hw1,hn0]
 clear hw1 hn0 h1 h2 hb
 refine wp_region_ext 10 (fun _ _ d _ _ h=>by cases d<;>exact h) (by kernel_rfl) (by kernel_rfl) (by kernel_rfl) (by kernel_rfl) ?_
 simp only[Qi,Qj,Qk,Ql]
 repeat(any_goals(first|go_big_quiet_step((go_at_call 158;exact ext_quiet (HO.out _ (hE1.trans (by(with_reducible(repeat(first|exact Qa _|assumption|apply Qb|apply Qc|exact ext_plus _ _|(apply Qd;rotate_left;(simp<;>omega))|(apply Qe;rotate_left;exact ext_plus _ _)|(apply Qe;rotate_left;assumption)))))))))|quiet_step((go_at_call 158;exact ext_quiet (HO.out _ (hE1.trans (by(with_reducible(repeat(first|exact Qa _|assumption|apply Qb|apply Qc|exact ext_plus _ _|(apply Qd;rotate_left;(simp<;>omega))|(apply Qe;rotate_left;exact ext_plus _ _)|(apply Qe;rotate_left;assumption)))))))))))
 all_goals(refine wpQuiet_nil ?_;intro w2 hE2)
 go_wp2
 go_ret
 exact⟨rfl,hE1.trans hE2⟩
def before (L:List (Int×Int)):Nat→Int
 | 0=>0
 | k+1=>(L.getD k (0,0)).1
structure Good (p:Pass) (lo hi:Int) (L:List (Int×Int)):Prop where
 call:∀i (h:i<L.length),callB p L[i].1 L[i].2=true
 sure:∀i (h:i<L.length),goesB p L[i].1 L[i].2 (swAt p L[i].1.toNat).2=true
 gap:∀i (h:i<L.length),lo≤L[i].1 - before L i∧L[i].1 - before L i≤hi
theorem before_bd {p:Pass} {lo hi:Int} {L:List (Int×Int)} (G:Good p lo hi L) {k:Nat} (h:k≤L.length):0≤before L k∧before L k≤p.swell.length:=by
 cases k with
 | zero=>exact⟨Int.le_refl _,by simp[before]⟩
 | succ k =>
  have h1:=call_iff.1 (G.call k (by omega))
  have e:before L (k+1)=L[k].1:=by simp[before,List.getD_eq_getElem?_getD,show k<L.length by omega]
  rw[e];omega
set_option maxRecDepth 100000 in
set_option maxHeartbeats 16000000 in
theorem are_any (p:Pass) (vt vs vl:Value) (lo hi:Int) (L:List (Int×Int)) (w:World) (O:Ok p) (hT:Ints w vt p.tides) (hS:Spans w vs p.swell) (hL:Spans w vl L) (G:Good p lo hi L) (hl:L.length≤8) :
  Calls Tryz.prog 26 #[.agg (passV p vt vs),.agg #[.int .i64 lo,.int .i64 hi],.int .i64 (L.length:Int),vl] w fun e w'=>e= .returned (.bool true)∧Ext w w':=by
 have HT:=Qf (fun W hE=>hT.ext (w':=W) hE)
 have HS:=Qf (fun W hE=>hS.ext (w':=W) hE)
 obtain⟨ta,ct,rfl,_⟩:=hT
 obtain⟨sa,cs,rfl,_⟩:=hS
 obtain⟨la,cl,rfl,hxl⟩:=hL
 have HX:=Qf hxl
 have hsn:=O.swellN
 have HG:=Qf G
 clear hxl
 have hpc:=plus_cell
 go_enter Tryz.func26,Tryz.ntmps26
 go_wp2
 obtain⟨n0,hn0⟩:∃n,w.heap.size=n:=⟨_,rfl⟩
 obtain⟨w1,hw1⟩:∃y,(w.alloc (.cells (passV p (.slice ta p.tides.length ct) (.slice sa p.swell.length cs)) 33)).alloc (.cells #[.int .i64 lo,.int .i64 hi] 25)=y:=⟨_,rfl⟩
 have hV1:Blk w1 n0 (passV p (.slice ta p.tides.length ct) (.slice sa p.swell.length cs)) 33:=by rw[← hw1];exact(Qg hn0.symm _ _).alloc _
 have hC1:Blk w1 (n0+1) #[.int .i64 lo,.int .i64 hi] 25:=by rw[← hw1];exact Qg (by simp[hn0]) _ _
 have hE1:Ext w w1:=by rw[← hw1];(with_reducible(repeat(first|exact Qa _|assumption|apply Qb|apply Qc|exact ext_plus _ _|(apply Qd;rotate_left;(simp<;>omega))|(apply Qe;rotate_left;exact ext_plus _ _)|(apply Qe;rotate_left;assumption))))
 simp only[hw1,hn0]
 clear hw1 hn0
 go_loopw [9,10] (fun b i wr=>∃k:Nat,k≤L.length∧i= .int .i64 k∧b= .int .i64 (before L k)∧Ext w1 wr) (fun _ i _=>L.length - (intOf i).toNat)
 case atStart=>exact⟨0,Nat.zero_le _,rfl,rfl,Qa _⟩
 case round =>
  rename World=>wr
  obtain⟨k,hk,rfl,rfl,hEr⟩:=hrel
  have hEw:=hE1.trans hEr
  have e0:=(hV1.ext hEr).cell
  have e1:=(hV1.ext hEr).lt
  have e2:=(hC1.ext hEr).cell
  have e3:=(hC1.ext hEr).lt
  by_cases hlt:k<L.length
  ·have hbb:=before_bd HG.out hk
   obtain⟨b,off,rfl,hbl,h0⟩:=HX.out k hlt
   obtain⟨f0,f1⟩:=span_cells (ate_stays _ _ _ _ _ _ hEw hbl h0)
   have hblr:b<wr.heap.size:=Qh hbl hEw.size
   have hcb:=HG.out.call k hlt
   have hsu:=HG.out.sure k hlt
   have hga:=HG.out.gap k hlt
   have hbn:before L (k+1)=L[k].1:=by simp[before,List.getD_eq_getElem?_getD,hlt]
   obtain⟨c,hc⟩:∃c,L[k]=c:=⟨_,rfl⟩
   rw[hc]at f0 f1 hcb hsu hga hbn
   obtain⟨cd,ch⟩:=c
   dsimp only at f0 f1 hcb hsu hga hbn
   have hci:=call_iff.1 hcb
   obtain⟨D,rfl⟩:=Int.eq_ofNat_of_zero_le hci.1.1
   rw[Int.toNat_natCast]at hsu
   obtain⟨B,hB⟩:∃B,before L k=B:=⟨_,rfl⟩
   rw[hB]at hga hbb ⊢
   have hca:=fun W=>call_any p (.slice ta p.tides.length ct) sa cs (D:Int) ch W (by omega)
   simp only[hcb]at hca
   have hsr:=fun W hE=>surely_any p (.slice ta p.tides.length ct) (.slice sa p.swell.length cs) D ch W O (by omega) (by omega) (HT.out W hE) (HS.out W hE)
   simp only[hsu]at hsr
   have hin:=fun W=>rin_any ((D:Int) - B) lo hi W
   have hit:within ((D:Int) - B) lo hi=true:=within_iff.2 hga
   simp only[hit]at hin
   have HCA:=Qf hca
   have HSR:=Qf hsr
   have HIN:=Qf (fun W=>((hin W).mono fun _ _ h=>⟨h.1,h.2▸Qa W⟩:Calls Tryz.prog 48 #[.int .i64 ((D:Int) - B),.int .i64 lo,.int .i64 hi] W fun e w'=>e= .returned (.bool true)∧Ext W w'))
   have HBN:=Qf hbn
   have hwd:IntKind.i64.wrap ((D:Int) - B)=(D:Int) - B:=IntWalk.i64_in _ (by omega)
   clear h0 hca hsr hin hcb hsu hga hbn hit hc hB hci
   go_wp2
   refine wp_region_ext 31 (fun _ _ d _ _ h=>by cases d<;>exact h) (by kernel_rfl) (by kernel_rfl) (by kernel_rfl) (by kernel_rfl) ?_
   simp only[Qi,Qj,Qk,Ql]
   repeat(any_goals(first|go_big_quiet_step((first|(go_at_call 11;exact ext_quiet (HCA.out _))|(go_at_call 86;exact ext_quiet (HSR.out _ (hEw.trans (by(with_reducible(repeat(first|exact Qa _|assumption|apply Qb|apply Qc|exact ext_plus _ _|(apply Qd;rotate_left;(simp<;>omega))|(apply Qe;rotate_left;exact ext_plus _ _)|(apply Qe;rotate_left;assumption))))))))|(go_at_call 48;exact ext_quiet (HIN.out _))))|quiet_step((first|(go_at_call 11;exact ext_quiet (HCA.out _))|(go_at_call 86;exact ext_quiet (HSR.out _ (hEw.trans (by(with_reducible(repeat(first|exact Qa _|assumption|apply Qb|apply Qc|exact ext_plus _ _|(apply Qd;rotate_left;(simp<;>omega))|(apply Qe;rotate_left;exact ext_plus _ _)|(apply Qe;rotate_left;assumption))))))))|(go_at_call 48;exact ext_quiet (HIN.out _))))))
   all_goals(refine wpQuiet_nil ?_;intro w3 hE3)
   have f0':=(hE3.cells.1 _ _ hblr).trans f0
   have hbl3:=Qh hblr hE3.size
   clear e0 e1 e2 e3 f0 f1
   go_wp2
   go_roundw
   case rel=>exact⟨k+1,by omega,by go_num,by rw[HBN.out],hEr.trans hE3⟩
   case measure=>simp[intOf];omega
  ·obtain rfl:k=L.length:=by omega
   go_wp2
   go_ret
   exact⟨ret_bool (by simp),hEw⟩
end Go.Proofs.YtgloajbgphcloaaGreat.Sh
