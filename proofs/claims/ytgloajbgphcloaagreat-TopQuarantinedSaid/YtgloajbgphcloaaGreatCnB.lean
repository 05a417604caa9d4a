/- The canoe: whether a sea is as defined. The canoe: ContainsFunc over hours, and whether an hour is as defined. The canoe: whether a voyage is as defined. The canoe: Past. -/
import Derived.Test.YtgloajbgphcloaaGreatCnA
import Derived.Laws.EntriesVeiled
namespace Go.Proofs.YtgloajbgphcloaaGreat.Cn
set_option linter.unusedVariables false
set_option linter.unusedSimpArgs false
open Go.RowKit
open Blk renaming new' → Qb
open Ext renaming alloc → Qd, drew → Qe, refl → Qc, setCell → Qf, trans → Qg
open Lib renaming hid → Qa
theorem any_not {α:Type} (f:α→Bool) (l:List α):l.any (fun n=> !f n)= !l.all f:=by
 induction l with
 | nil=>rfl
 | cons a l ih=>simp[ih,Bool.not_and]
theorem all_step {α:Type} {p:α→Bool} {xs:List α} {k:Nat} (h:k<xs.length) (hg:(xs.take k).all p=true):(xs.take (k+1)).all p=p xs[k]:=by
 rw[List.take_succ_eq_append_getElem h,List.all_append,hg];simp
theorem all_wrong {α:Type} {p:α→Bool} {xs:List α} {k:Nat} (h:k<xs.length) (hp:p xs[k]=false):xs.all p=false:=by
 rw[List.all_eq_false];exact⟨_,List.getElem_mem h,by rw[hp];decide⟩
theorem all_wrap (n:Int):wrap64 (wrap64 (2^(min (max n 0) 10).toNat) - 1)=allOf n:=by
 unfold allOf clip
 have h10:(min (max n 0) 10).toNat≤10:=by omega
 generalize (min (max n 0) 10).toNat=q at h10 ⊢
 have h1:2^q≤2^10:=Nat.pow_le_pow_right (by decide) h10
 have h2:0<2^q:=Nat.two_pow_pos q
 rw[pow_nat]
 generalize 2^q=m at h1 h2 ⊢
 unfold wrap64;omega
set_option maxRecDepth 100000 in
set_option maxHeartbeats 16000000 in
theorem valid_any (s:Sea) (vc vs vb vr:Value) (w:World) (hC:Lists w vc s.courses) (hS:Ints w vs s.stars) (hB:Ints w vb s.boats) (hR:Ints w vr s.roads)
  (hc1:s.courses.length≤1000000) (hc2:∀c∈s.courses,c.length≤1000000) (hs1:s.stars.length≤1000000) (hb1:s.boats.length≤1000000) (hr1:s.roads.length≤1000000) :
  Calls Tryz.prog 210 #[.agg (seaV s vc vs vb vr)] w fun e w'=>e= .returned (.bool (seaB s))∧Ext w w':=by
 have hC':=hC
 obtain⟨ac,cc,rfl,hxc⟩:=hC'
 have hS':=hS
 obtain⟨sa,cs,rfl,_⟩:=hS'
 have hB':=hB
 obtain⟨ab,cb,rfl,_⟩:=hB'
 have hR':=hR
 obtain⟨ar,cr,rfl,_⟩:=hR'
 have HXC:=Qa hxc
 have HS:=Qa hS
 have HB:=Qa hB
 have HR:=Qa hR
 clear hC hS hB hR hxc
 go_enter Tryz.func210,Tryz.ntmps210
 go_wp2
 have hall:=all_wrap s.cells
 simp only[hall]
 clear hall
 generalize wrap64 (2^(min (max s.cells 0) 10).toNat)=m3
 generalize min (max s.cells 0) 10=m2
 generalize max s.cells 0=m1
 obtain⟨n0,hn0⟩:∃n,w.heap.size=n:=⟨_,rfl⟩
 simp only[hn0]
 obtain⟨w1,hw1⟩:∃y,(((w.alloc (.cells (seaV s (.slice ac s.courses.length cc) (.slice sa s.stars.length cs) (.slice ab s.boats.length cb) (.slice ar s.roads.length cr)) 96)).alloc (.cells #[.int .i64 (allOf s.cells)] 3)).alloc (.cells (fnV 237 (n0+1)) 75)).alloc (.cells (fnV 238 (n0+1)) 75)=y:=⟨_,rfl⟩
 have hV:Blk w1 n0 (seaV s (.slice ac s.courses.length cc) (.slice sa s.stars.length cs) (.slice ab s.boats.length cb) (.slice ar s.roads.length cr)) 96:=by rw[← hw1];exact(((Qb hn0.symm _ _).alloc _).alloc _).alloc _
 have hA:Blk w1 (n0+1) #[.int .i64 (allOf s.cells)] 3:=by rw[← hw1];exact((Qb (by simp[hn0]) _ _).alloc _).alloc _
 have hZ:Blk w1 (n0+1+1) (fnV 237 (n0+1)) 75:=by rw[← hw1];exact(Qb (by simp[hn0]) _ _).alloc _
 have hF:Blk w1 (n0+1+1+1) (fnV 238 (n0+1)) 75:=by rw[← hw1];exact Qb (by simp[hn0]) _ _
 have hE1:Ext w w1:=by rw[← hw1];(with_reducible(repeat(first|exact Qc _|assumption|apply Qd|apply Qe|exact ext_plus _ _|(apply Qf;rotate_left;(simp<;>omega))|(apply Qg;rotate_left;exact ext_plus _ _)|(apply Qg;rotate_left;assumption))))
 simp only[hw1]
 clear hw1
 have HN0:=Qa hn0
 clear hn0
 go_loopw [19] (fun k wr=>∃K:Nat,K≤s.courses.length∧k= .int .i64 K∧(s.courses.take K).all (courseB s)=true∧Ext w1 wr) (fun k _=>s.courses.length - (intOf k).toNat)
 case atStart=>exact⟨0,Nat.zero_le _,rfl,rfl,Qc _⟩
 case round =>
  rename World=>wr
  obtain⟨K,hK,rfl,hg,hEr⟩:=hrel
  have HG:=Qa hg
  clear hg
  have hV2:=hV.ext hEr
  by_cases hlt:K<s.courses.length
  ·obtain⟨b,off,rfl,hb,v,h1,h2⟩:=HXC.out K hlt
   have hcm:=hc2 _ (List.getElem_mem hlt)
   have hs:=all_step hlt HG.out
   have hbad:=fun h=>all_wrong (p:=courseB s) hlt h
   have hwr:=hE1.trans hEr
   have h2':=h2.ext hwr
   have h1':=(hwr.cells.1 b _ hb).trans h1
   rw[Nat.mul_one]at h1'
   have hbl:=Nat.lt_of_lt_of_le hb hwr.size
   obtain⟨c,hcc⟩:∃c,s.courses[K]=c:=⟨_,rfl⟩
   rw[hcc]at h2 h2' hs hbad hcm
   have hcb:courseB s c=(decide ((c.length:Int)=s.cells)&&c.all (fullB s)):=rfl
   obtain⟨AN,hAN⟩:∃x,c.any (fun n=> !within n 1 (allOf s.cells))=x:=⟨_,rfl⟩
   have hco:=fun W (hEW:Ext w1 W)=>containsInts 239 #[.pointer (some ⟨n0+1+1+1,0,none⟩)] (fun n=> !within n 1 (allOf s.cells)) v c W (h2.ext (hE1.trans hEW)) hcm (enters_of Tryz.func239 (by kernel_rfl) rfl) (fun x w' hE'=>(valid3_any x _ _ _ w' (hF.ext (hEW.trans hE')) (hA.ext (hEW.trans hE'))).mono (by rintro e w'' ⟨rfl,rfl⟩;exact⟨rfl,Qc _⟩))
   simp only[hAN]at hco
   have HCO:=Qa hco
   have hAC:c.all (fullB s)= !AN:=by rw[← hAN,any_not,Bool.not_not];rfl
   have HAC:=Qa hAC
   clear hco hAC hAN
   obtain⟨a2,cap2,rfl,_⟩:=h2
   have HS':=Qa hs
   have HBAD:=Qa hbad
   have HCB:=Qa hcb
   clear h1 hcc hs hbad hcb h2'
   have k0:=hV2.cell
   have k1:=hV2.lt
   by_cases hl:(c.length:Int)=s.cells
   ·have hcb2:courseB s c= !AN:=by rw[HCB.out,HAC.out];simp[hl]
    have HCB2:=Qa hcb2
    clear hcb2
    cases AN with
    | true =>
     go_wp2_with (first|(go_at_call 137;refine(HCO.out _ (hEr.trans (by(with_reducible(repeat(first|exact Qc _|assumption|apply Qd|apply Qe|exact ext_plus _ _|(apply Qf;rotate_left;(simp<;>omega))|(apply Qg;rotate_left;exact ext_plus _ _)|(apply Qg;rotate_left;assumption))))))).mono ?_;rintro e w' ⟨rfl,hE'⟩))
     go_ret
     exact⟨ret_bool (by unfold seaB;rw[HBAD.out (by rw[HCB2.out];rfl)];rfl),by(with_reducible(repeat(first|exact Qc _|assumption|apply Qd|apply Qe|exact ext_plus _ _|(apply Qf;rotate_left;(simp<;>omega))|(apply Qg;rotate_left;exact ext_plus _ _)|(apply Qg;rotate_left;assumption))))⟩
    | false =>
     go_wp2_with (first|(go_at_call 137;refine(HCO.out _ (hEr.trans (by(with_reducible(repeat(first|exact Qc _|assumption|apply Qd|apply Qe|exact ext_plus _ _|(apply Qf;rotate_left;(simp<;>omega))|(apply Qg;rotate_left;exact ext_plus _ _)|(apply Qg;rotate_left;assumption))))))).mono ?_;rintro e w' ⟨rfl,hE'⟩))
     go_roundw
     case rel=>exact⟨K+1,by omega,by go_num,by rw[HS'.out,HCB2.out];rfl,hEr.trans hE'⟩
     case measure=>simp[intOf];omega
   ·go_wp2
    go_ret
    exact⟨ret_bool (by unfold seaB;rw[HBAD.out (by rw[HCB.out];simp[hl])];rfl),by(with_reducible(repeat(first|exact Qc _|assumption|apply Qd|apply Qe|exact ext_plus _ _|(apply Qf;rotate_left;(simp<;>omega))|(apply Qg;rotate_left;exact ext_plus _ _)|(apply Qg;rotate_left;assumption))))⟩
  ·obtain rfl:K=s.courses.length:=by omega
   have hgl:s.courses.all (courseB s)=true:=by have:=HG.out;rwa[List.take_length]at this
   obtain⟨B5,h5⟩:∃x,s.stars.any (fun n=> !within n 1 (allOf s.cells))=x:=⟨_,rfl⟩
   obtain⟨B7,h7⟩:∃x,s.boats.any (fun n=> !within n 0 (s.cells - 1))=x:=⟨_,rfl⟩
   obtain⟨B9,h9⟩:∃x,s.roads.any (fun n=> !within n 0 (allOf s.cells))=x:=⟨_,rfl⟩
   have H7:=Qa h7
   have hco5:=fun W (hEW:Ext w1 W)=>containsInts 240 #[.pointer (some ⟨n0+1+1+1,0,none⟩)] (fun n=> !within n 1 (allOf s.cells)) _ s.stars W (HS.out.ext (hE1.trans hEW)) hs1 (enters_of Tryz.func240 (by kernel_rfl) rfl) (fun x w' hE'=>(valid4_any x _ _ _ w' (hF.ext (hEW.trans hE')) (hA.ext (hEW.trans hE'))).mono (by rintro e w'' ⟨rfl,rfl⟩;exact⟨rfl,Qc _⟩))
   simp only[h5]at hco5
   have HS5:=Qa hco5
   have hco9:=fun W (hEW:Ext w1 W)=>containsInts 242 #[.pointer (some ⟨n0+1+1,0,none⟩)] (fun n=> !within n 0 (allOf s.cells)) _ s.roads W (HR.out.ext (hE1.trans hEW)) hr1 (enters_of Tryz.func242 (by kernel_rfl) rfl) (fun x w' hE'=>(valid6_any x _ _ _ w' (hZ.ext (hEW.trans hE')) (hA.ext (hEW.trans hE'))).mono (by rintro e w'' ⟨rfl,rfl⟩;exact⟨rfl,Qc _⟩))
   simp only[h9]at hco9
   have HR9:=Qa hco9
   have hsea:seaB s=(within s.cells 1 10&&within s.start 1 (allOf s.cells)&&within s.courses.length 1 4&&decide ((s.stars.length:Int)≤6)&& !B5&&decide ((s.boats.length:Int)≤2)&& !B7&&decide ((s.roads.length:Int)=s.cells)&& !B9):=by
    have e5:s.stars.all (fullB s)= !B5:=by rw[← h5,any_not,Bool.not_not];rfl
    have e7:s.boats.all (fun c=>within c 0 (s.cells - 1))= !B7:=by rw[← h7,any_not,Bool.not_not]
    have e9:s.roads.all (fun n=>within n 0 (allOf s.cells))= !B9:=by rw[← h9,any_not,Bool.not_not]
    have d4:decide (s.stars.length≤6)=decide ((s.stars.length:Int)≤6):=by rw[decide_eq_decide];omega
    have d6:decide (s.boats.length≤2)=decide ((s.boats.length:Int)≤2):=by rw[decide_eq_decide];omega
    unfold seaB
    rw[hgl,e5,e7,e9,d4,d6];rfl
   have HSEA:=Qa hsea
   clear hgl h5 h7 h9 hco5 hco9 hsea
   have k0:=hV2.cell
   have k1:=hV2.lt
   have hF2:=hF.ext hEr
   have k2:=hF2.cell
   have k3:=hF2.lt
   by_cases q1:within s.cells 1 10=true
   rotate_left
   ·have q1':within s.cells 1 10=false:=Bool.eq_false_iff.2 q1
    clear q1
    go_wp2_with (first|(go_at_call 213;refine(in_any _ _ _ _).mono ?_;rintro e w' ⟨rfl,rfl⟩)|(go_at_call 238;refine(valid2_any _ _ _ _ (hA.ext (by(with_reducible(repeat(first|exact Qc _|assumption|apply Qd|apply Qe|exact ext_plus _ _|(apply Qf;rotate_left;(simp<;>omega))|(apply Qg;rotate_left;exact ext_plus _ _)|(apply Qg;rotate_left;assumption))))))).mono ?_;rintro e w' ⟨rfl,rfl⟩)|(go_at_call 137;(refine(HS5.out _ (by(with_reducible(repeat(first|exact Qc _|assumption|apply Qd|apply Qe|exact ext_plus _ _|(apply Qf;rotate_left;(simp<;>omega))|(apply Qg;rotate_left;exact ext_plus _ _)|(apply Qg;rotate_left;assumption)))))).mono ?_;rintro e w' ⟨rfl,hE'⟩;have hE9:Ext w1 w':=(by(with_reducible(repeat(first|exact Qc _|assumption|apply Qd|apply Qe|exact ext_plus _ _|(apply Qf;rotate_left;(simp<;>omega))|(apply Qg;rotate_left;exact ext_plus _ _)|(apply Qg;rotate_left;assumption)))));have k0:=(hV.ext hE9).cell;have k1:=(hV.ext hE9).lt;have k2:=(hF.ext hE9).cell;have k3:=(hF.ext hE9).lt))|(go_at_call 137;(refine(HR9.out _ (by(with_reducible(repeat(first|exact Qc _|assumption|apply Qd|apply Qe|exact ext_plus _ _|(apply Qf;rotate_left;(simp<;>omega))|(apply Qg;rotate_left;exact ext_plus _ _)|(apply Qg;rotate_left;assumption)))))).mono ?_;rintro e w' ⟨rfl,hE'⟩;have hE9:Ext w1 w':=(by(with_reducible(repeat(first|exact Qc _|assumption|apply Qd|apply Qe|exact ext_plus _ _|(apply Qf;rotate_left;(simp<;>omega))|(apply Qg;rotate_left;exact ext_plus _ _)|(apply Qg;rotate_left;assumption)))));have k0:=(hV.ext hE9).cell;have k1:=(hV.ext hE9).lt;have k2:=(hF.ext hE9).cell;have k3:=(hF.ext hE9).lt)))
    go_ret
    exact⟨ret_bool (by rw[HSEA.out,q1'];rfl),by(with_reducible(repeat(first|exact Qc _|assumption|apply Qd|apply Qe|exact ext_plus _ _|(apply Qf;rotate_left;(simp<;>omega))|(apply Qg;rotate_left;exact ext_plus _ _)|(apply Qg;rotate_left;assumption))))⟩
   have hcl:1≤s.cells∧s.cells≤10:=within_iff.1 q1
   have hco7:=fun W (hEW:Ext w1 W)=>containsInts 241 #[.pointer (some ⟨n0,0,none⟩)] (fun n=> !within n 0 (s.cells - 1)) _ s.boats W (HB.out.ext (hE1.trans hEW)) hb1 (enters_of Tryz.func241 (by kernel_rfl) rfl) (fun x w' hE'=>(valid5_any x s _ _ _ _ _ w' hcl.1 hcl.2 (hV.ext (hEW.trans hE'))).mono (by rintro e w'' ⟨rfl,rfl⟩;exact⟨rfl,Qc _⟩))
   simp only[H7.out]at hco7
   have HB7:=Qa hco7
   clear hco7 hcl
   by_cases q2:within s.start 1 (allOf s.cells)=true
   rotate_left
   ·have q2':within s.start 1 (allOf s.cells)=false:=Bool.eq_false_iff.2 q2
    clear q2
    go_wp2_with (first|(go_at_call 213;refine(in_any _ _ _ _).mono ?_;rintro e w' ⟨rfl,rfl⟩)|(go_at_call 238;refine(valid2_any _ _ _ _ (hA.ext (by(with_reducible(repeat(first|exact Qc _|assumption|apply Qd|apply Qe|exact ext_plus _ _|(apply Qf;rotate_left;(simp<;>omega))|(apply Qg;rotate_left;exact ext_plus _ _)|(apply Qg;rotate_left;assumption))))))).mono ?_;rintro e w' ⟨rfl,rfl⟩)|(go_at_call 137;(refine(HS5.out _ (by(with_reducible(repeat(first|exact Qc _|assumption|apply Qd|apply Qe|exact ext_plus _ _|(apply Qf;rotate_left;(simp<;>omega))|(apply Qg;rotate_left;exact ext_plus _ _)|(apply Qg;rotate_left;assumption)))))).mono ?_;rintro e w' ⟨rfl,hE'⟩;have hE9:Ext w1 w':=(by(with_reducible(repeat(first|exact Qc _|assumption|apply Qd|apply Qe|exact ext_plus _ _|(apply Qf;rotate_left;(simp<;>omega))|(apply Qg;rotate_left;exact ext_plus _ _)|(apply Qg;rotate_left;assumption)))));have k0:=(hV.ext hE9).cell;have k1:=(hV.ext hE9).lt;have k2:=(hF.ext hE9).cell;have k3:=(hF.ext hE9).lt))|(go_at_call 137;(refine(HR9.out _ (by(with_reducible(repeat(first|exact Qc _|assumption|apply Qd|apply Qe|exact ext_plus _ _|(apply Qf;rotate_left;(simp<;>omega))|(apply Qg;rotate_left;exact ext_plus _ _)|(apply Qg;rotate_left;assumption)))))).mono ?_;rintro e w' ⟨rfl,hE'⟩;have hE9:Ext w1 w':=(by(with_reducible(repeat(first|exact Qc _|assumption|apply Qd|apply Qe|exact ext_plus _ _|(apply Qf;rotate_left;(simp<;>omega))|(apply Qg;rotate_left;exact ext_plus _ _)|(apply Qg;rotate_left;assumption)))));have k0:=(hV.ext hE9).cell;have k1:=(hV.ext hE9).lt;have k2:=(hF.ext hE9).cell;have k3:=(hF.ext hE9).lt))|(go_at_call 137;(refine(HB7.out _ (by(with_reducible(repeat(first|exact Qc _|assumption|apply Qd|apply Qe|exact ext_plus _ _|(apply Qf;rotate_left;(simp<;>omega))|(apply Qg;rotate_left;exact ext_plus _ _)|(apply Qg;rotate_left;assumption)))))).mono ?_;rintro e w' ⟨rfl,hE'⟩;have hE9:Ext w1 w':=(by(with_reducible(repeat(first|exact Qc _|assumption|apply Qd|apply Qe|exact ext_plus _ _|(apply Qf;rotate_left;(simp<;>omega))|(apply Qg;rotate_left;exact ext_plus _ _)|(apply Qg;rotate_left;assumption)))));have k0:=(hV.ext hE9).cell;have k1:=(hV.ext hE9).lt;have k2:=(hF.ext hE9).cell;have k3:=(hF.ext hE9).lt)))
    go_ret
    exact⟨ret_bool (by rw[HSEA.out,q1,q2'];rfl),by(with_reducible(repeat(first|exact Qc _|assumption|apply Qd|apply Qe|exact ext_plus _ _|(apply Qf;rotate_left;(simp<;>omega))|(apply Qg;rotate_left;exact ext_plus _ _)|(apply Qg;rotate_left;assumption))))⟩
   by_cases q3:within (s.courses.length:Int) 1 4=true
   rotate_left
   ·have q3':within (s.courses.length:Int) 1 4=false:=Bool.eq_false_iff.2 q3
    clear q3
    go_wp2_with (first|(go_at_call 213;refine(in_any _ _ _ _).mono ?_;rintro e w' ⟨rfl,rfl⟩)|(go_at_call 238;refine(valid2_any _ _ _ _ (hA.ext (by(with_reducible(repeat(first|exact Qc _|assumption|apply Qd|apply Qe|exact ext_plus _ _|(apply Qf;rotate_left;(simp<;>omega))|(apply Qg;rotate_left;exact ext_plus _ _)|(apply Qg;rotate_left;assumption))))))).mono ?_;rintro e w' ⟨rfl,rfl⟩)|(go_at_call 137;(refine(HS5.out _ (by(with_reducible(repeat(first|exact Qc _|assumption|apply Qd|apply Qe|exact ext_plus _ _|(apply Qf;rotate_left;(simp<;>omega))|(apply Qg;rotate_left;exact ext_plus _ _)|(apply Qg;rotate_left;assumption)))))).mono ?_;rintro e w' ⟨rfl,hE'⟩;have hE9:Ext w1 w':=(by(with_reducible(repeat(first|exact Qc _|assumption|apply Qd|apply Qe|exact ext_plus _ _|(apply Qf;rotate_left;(simp<;>omega))|(apply Qg;rotate_left;exact ext_plus _ _)|(apply Qg;rotate_left;assumption)))));have k0:=(hV.ext hE9).cell;have k1:=(hV.ext hE9).lt;have k2:=(hF.ext hE9).cell;have k3:=(hF.ext hE9).lt))|(go_at_call 137;(refine(HR9.out _ (by(with_reducible(repeat(first|exact Qc _|assumption|apply Qd|apply Qe|exact ext_plus _ _|(apply Qf;rotate_left;(simp<;>omega))|(apply Qg;rotate_left;exact ext_plus _ _)|(apply Qg;rotate_left;assumption)))))).mono ?_;rintro e w' ⟨rfl,hE'⟩;have hE9:Ext w1 w':=(by(with_reducible(repeat(first|exact Qc _|assumption|apply Qd|apply Qe|exact ext_plus _ _|(apply Qf;rotate_left;(simp<;>omega))|(apply Qg;rotate_left;exact ext_plus _ _)|(apply Qg;rotate_left;assumption)))));have k0:=(hV.ext hE9).cell;have k1:=(hV.ext hE9).lt;have k2:=(hF.ext hE9).cell;have k3:=(hF.ext hE9).lt))|(go_at_call 137;(refine(HB7.out _ (by(with_reducible(repeat(first|exact Qc _|assumption|apply Qd|apply Qe|exact ext_plus _ _|(apply Qf;rotate_left;(simp<;>omega))|(apply Qg;rotate_left;exact ext_plus _ _)|(apply Qg;rotate_left;assumption)))))).mono ?_;rintro e w' ⟨rfl,hE'⟩;have hE9:Ext w1 w':=(by(with_reducible(repeat(first|exact Qc _|assumption|apply Qd|apply Qe|exact ext_plus _ _|(apply Qf;rotate_left;(simp<;>omega))|(apply Qg;rotate_left;exact ext_plus _ _)|(apply Qg;rotate_left;assumption)))));have k0:=(hV.ext hE9).cell;have k1:=(hV.ext hE9).lt;have k2:=(hF.ext hE9).cell;have k3:=(hF.ext hE9).lt)))
    go_ret
    exact⟨ret_bool (by rw[HSEA.out,q1,q2,q3'];rfl),by(with_reducible(repeat(first|exact Qc _|assumption|apply Qd|apply Qe|exact ext_plus _ _|(apply Qf;rotate_left;(simp<;>omega))|(apply Qg;rotate_left;exact ext_plus _ _)|(apply Qg;rotate_left;assumption))))⟩
   by_cases q4:(s.stars.length:Int)≤6
   rotate_left
   ·skip
    go_wp2_with (first|(go_at_call 213;refine(in_any _ _ _ _).mono ?_;rintro e w' ⟨rfl,rfl⟩)|(go_at_call 238;refine(valid2_any _ _ _ _ (hA.ext (by(with_reducible(repeat(first|exact Qc _|assumption|apply Qd|apply Qe|exact ext_plus _ _|(apply Qf;rotate_left;(simp<;>omega))|(apply Qg;rotate_left;exact ext_plus _ _)|(apply Qg;rotate_left;assumption))))))).mono ?_;rintro e w' ⟨rfl,rfl⟩)|(go_at_call 137;(refine(HS5.out _ (by(with_reducible(repeat(first|exact Qc _|assumption|apply Qd|apply Qe|exact ext_plus _ _|(apply Qf;rotate_left;(simp<;>omega))|(apply Qg;rotate_left;exact ext_plus _ _)|(apply Qg;rotate_left;assumption)))))).mono ?_;rintro e w' ⟨rfl,hE'⟩;have hE9:Ext w1 w':=(by(with_reducible(repeat(first|exact Qc _|assumption|apply Qd|apply Qe|exact ext_plus _ _|(apply Qf;rotate_left;(simp<;>omega))|(apply Qg;rotate_left;exact ext_plus _ _)|(apply Qg;rotate_left;assumption)))));have k0:=(hV.ext hE9).cell;have k1:=(hV.ext hE9).lt;have k2:=(hF.ext hE9).cell;have k3:=(hF.ext hE9).lt))|(go_at_call 137;(refine(HR9.out _ (by(with_reducible(repeat(first|exact Qc _|assumption|apply Qd|apply Qe|exact ext_plus _ _|(apply Qf;rotate_left;(simp<;>omega))|(apply Qg;rotate_left;exact ext_plus _ _)|(apply Qg;rotate_left;assumption)))))).mono ?_;rintro e w' ⟨rfl,hE'⟩;have hE9:Ext w1 w':=(by(with_reducible(repeat(first|exact Qc _|assumption|apply Qd|apply Qe|exact ext_plus _ _|(apply Qf;rotate_left;(simp<;>omega))|(apply Qg;rotate_left;exact ext_plus _ _)|(apply Qg;rotate_left;assumption)))));have k0:=(hV.ext hE9).cell;have k1:=(hV.ext hE9).lt;have k2:=(hF.ext hE9).cell;have k3:=(hF.ext hE9).lt))|(go_at_call 137;(refine(HB7.out _ (by(with_reducible(repeat(first|exact Qc _|assumption|apply Qd|apply Qe|exact ext_plus _ _|(apply Qf;rotate_left;(simp<;>omega))|(apply Qg;rotate_left;exact ext_plus _ _)|(apply Qg;rotate_left;assumption)))))).mono ?_;rintro e w' ⟨rfl,hE'⟩;have hE9:Ext w1 w':=(by(with_reducible(repeat(first|exact Qc _|assumption|apply Qd|apply Qe|exact ext_plus _ _|(apply Qf;rotate_left;(simp<;>omega))|(apply Qg;rotate_left;exact ext_plus _ _)|(apply Qg;rotate_left;assumption)))));have k0:=(hV.ext hE9).cell;have k1:=(hV.ext hE9).lt;have k2:=(hF.ext hE9).cell;have k3:=(hF.ext hE9).lt)))
    go_ret
    exact⟨ret_bool (by rw[HSEA.out,q1,q2,q3,decide_eq_false (show ¬((s.stars.length:Int)≤6) by omega)];rfl),by(with_reducible(repeat(first|exact Qc _|assumption|apply Qd|apply Qe|exact ext_plus _ _|(apply Qf;rotate_left;(simp<;>omega))|(apply Qg;rotate_left;exact ext_plus _ _)|(apply Qg;rotate_left;assumption))))⟩
   by_cases q5:B5=false
   rotate_left
   ·have q5':B5=true:=(by simpa using q5)
    clear q5
    go_wp2_with (first|(go_at_call 213;refine(in_any _ _ _ _).mono ?_;rintro e w' ⟨rfl,rfl⟩)|(go_at_call 238;refine(valid2_any _ _ _ _ (hA.ext (by(with_reducible(repeat(first|exact Qc _|assumption|apply Qd|apply Qe|exact ext_plus _ _|(apply Qf;rotate_left;(simp<;>omega))|(apply Qg;rotate_left;exact ext_plus _ _)|(apply Qg;rotate_left;assumption))))))).mono ?_;rintro e w' ⟨rfl,rfl⟩)|(go_at_call 137;(refine(HS5.out _ (by(with_reducible(repeat(first|exact Qc _|assumption|apply Qd|apply Qe|exact ext_plus _ _|(apply Qf;rotate_left;(simp<;>omega))|(apply Qg;rotate_left;exact ext_plus _ _)|(apply Qg;rotate_left;assumption)))))).mono ?_;rintro e w' ⟨rfl,hE'⟩;have hE9:Ext w1 w':=(by(with_reducible(repeat(first|exact Qc _|assumption|apply Qd|apply Qe|exact ext_plus _ _|(apply Qf;rotate_left;(simp<;>omega))|(apply Qg;rotate_left;exact ext_plus _ _)|(apply Qg;rotate_left;assumption)))));have k0:=(hV.ext hE9).cell;have k1:=(hV.ext hE9).lt;have k2:=(hF.ext hE9).cell;have k3:=(hF.ext hE9).lt))|(go_at_call 137;(refine(HR9.out _ (by(with_reducible(repeat(first|exact Qc _|assumption|apply Qd|apply Qe|exact ext_plus _ _|(apply Qf;rotate_left;(simp<;>omega))|(apply Qg;rotate_left;exact ext_plus _ _)|(apply Qg;rotate_left;assumption)))))).mono ?_;rintro e w' ⟨rfl,hE'⟩;have hE9:Ext w1 w':=(by(with_reducible(repeat(first|exact Qc _|assumption|apply Qd|apply Qe|exact ext_plus _ _|(apply Qf;rotate_left;(simp<;>omega))|(apply Qg;rotate_left;exact ext_plus _ _)|(apply Qg;rotate_left;assumption)))));have k0:=(hV.ext hE9).cell;have k1:=(hV.ext hE9).lt;have k2:=(hF.ext hE9).cell;have k3:=(hF.ext hE9).lt))|(go_at_call 137;(refine(HB7.out _ (by(with_reducible(repeat(first|exact Qc _|assumption|apply Qd|apply Qe|exact ext_plus _ _|(apply Qf;rotate_left;(simp<;>omega))|(apply Qg;rotate_left;exact ext_plus _ _)|(apply Qg;rotate_left;assumption)))))).mono ?_;rintro e w' ⟨rfl,hE'⟩;have hE9:Ext w1 w':=(by(with_reducible(repeat(first|exact Qc _|assumption|apply Qd|apply Qe|exact ext_plus _ _|(apply Qf;rotate_left;(simp<;>omega))|(apply Qg;rotate_left;exact ext_plus _ _)|(apply Qg;rotate_left;assumption)))));have k0:=(hV.ext hE9).cell;have k1:=(hV.ext hE9).lt;have k2:=(hF.ext hE9).cell;have k3:=(hF.ext hE9).lt)))
    go_ret
    exact⟨ret_bool (by rw[HSEA.out,q1,q2,q3,decide_eq_true (show(s.stars.length:Int)≤6 by omega),q5'];rfl),by(with_reducible(repeat(first|exact Qc _|assumption|apply Qd|apply Qe|exact ext_plus _ _|(apply Qf;rotate_left;(simp<;>omega))|(apply Qg;rotate_left;exact ext_plus _ _)|(apply Qg;rotate_left;assumption))))⟩
   by_cases q6:(s.boats.length:Int)≤2
   rotate_left
   ·skip
    go_wp2_with (first|(go_at_call 213;refine(in_any _ _ _ _).mono ?_;rintro e w' ⟨rfl,rfl⟩)|(go_at_call 238;refine(valid2_any _ _ _ _ (hA.ext (by(with_reducible(repeat(first|exact Qc _|assumption|apply Qd|apply Qe|exact ext_plus _ _|(apply Qf;rotate_left;(simp<;>omega))|(apply Qg;rotate_left;exact ext_plus _ _)|(apply Qg;rotate_left;assumption))))))).mono ?_;rintro e w' ⟨rfl,rfl⟩)|(go_at_call 137;(refine(HS5.out _ (by(with_reducible(repeat(first|exact Qc _|assumption|apply Qd|apply Qe|exact ext_plus _ _|(apply Qf;rotate_left;(simp<;>omega))|(apply Qg;rotate_left;exact ext_plus _ _)|(apply Qg;rotate_left;assumption)))))).mono ?_;rintro e w' ⟨rfl,hE'⟩;have hE9:Ext w1 w':=(by(with_reducible(repeat(first|exact Qc _|assumption|apply Qd|apply Qe|exact ext_plus _ _|(apply Qf;rotate_left;(simp<;>omega))|(apply Qg;rotate_left;exact ext_plus _ _)|(apply Qg;rotate_left;assumption)))));have k0:=(hV.ext hE9).cell;have k1:=(hV.ext hE9).lt;have k2:=(hF.ext hE9).cell;have k3:=(hF.ext hE9).lt))|(go_at_call 137;(refine(HR9.out _ (by(with_reducible(repeat(first|exact Qc _|assumption|apply Qd|apply Qe|exact ext_plus _ _|(apply Qf;rotate_left;(simp<;>omega))|(apply Qg;rotate_left;exact ext_plus _ _)|(apply Qg;rotate_left;assumption)))))).mono ?_;rintro e w' ⟨rfl,hE'⟩;have hE9:Ext w1 w':=(by(with_reducible(repeat(first|exact Qc _|assumption|apply Qd|apply Qe|exact ext_plus _ _|(apply Qf;rotate_left;(simp<;>omega))|(apply Qg;rotate_left;exact ext_plus _ _)|(apply Qg;rotate_left;assumption)))));have k0:=(hV.ext hE9).cell;have k1:=(hV.ext hE9).lt;have k2:=(hF.ext hE9).cell;have k3:=(hF.ext hE9).lt))|(go_at_call 137;(refine(HB7.out _ (by(with_reducible(repeat(first|exact Qc _|assumption|apply Qd|apply Qe|exact ext_plus _ _|(apply Qf;rotate_left;(simp<;>omega))|(apply Qg;rotate_left;exact ext_plus _ _)|(apply Qg;rotate_left;assumption)))))).mono ?_;rintro e w' ⟨rfl,hE'⟩;have hE9:Ext w1 w':=(by(with_reducible(repeat(first|exact Qc _|assumption|apply Qd|apply Qe|exact ext_plus _ _|(apply Qf;rotate_left;(simp<;>omega))|(apply Qg;rotate_left;exact ext_plus _ _)|(apply Qg;rotate_left;assumption)))));have k0:=(hV.ext hE9).cell;have k1:=(hV.ext hE9).lt;have k2:=(hF.ext hE9).cell;have k3:=(hF.ext hE9).lt)))
    go_ret
    exact⟨ret_bool (by rw[HSEA.out,q1,q2,q3,decide_eq_true (show(s.stars.length:Int)≤6 by omega),q5,decide_eq_false (show ¬((s.boats.length:Int)≤2) by omega)];rfl),by(with_reducible(repeat(first|exact Qc _|assumption|apply Qd|apply Qe|exact ext_plus _ _|(apply Qf;rotate_left;(simp<;>omega))|(apply Qg;rotate_left;exact ext_plus _ _)|(apply Qg;rotate_left;assumption))))⟩
   by_cases q7:B7=false
   rotate_left
   ·have q7':B7=true:=(by simpa using q7)
    clear q7
    go_wp2_with (first|(go_at_call 213;refine(in_any _ _ _ _).mono ?_;rintro e w' ⟨rfl,rfl⟩)|(go_at_call 238;refine(valid2_any _ _ _ _ (hA.ext (by(with_reducible(repeat(first|exact Qc _|assumption|apply Qd|apply Qe|exact ext_plus _ _|(apply Qf;rotate_left;(simp<;>omega))|(apply Qg;rotate_left;exact ext_plus _ _)|(apply Qg;rotate_left;assumption))))))).mono ?_;rintro e w' ⟨rfl,rfl⟩)|(go_at_call 137;(refine(HS5.out _ (by(with_reducible(repeat(first|exact Qc _|assumption|apply Qd|apply Qe|exact ext_plus _ _|(apply Qf;rotate_left;(simp<;>omega))|(apply Qg;rotate_left;exact ext_plus _ _)|(apply Qg;rotate_left;assumption)))))).mono ?_;rintro e w' ⟨rfl,hE'⟩;have hE9:Ext w1 w':=(by(with_reducible(repeat(first|exact Qc _|assumption|apply Qd|apply Qe|exact ext_plus _ _|(apply Qf;rotate_left;(simp<;>omega))|(apply Qg;rotate_left;exact ext_plus _ _)|(apply Qg;rotate_left;assumption)))));have k0:=(hV.ext hE9).cell;have k1:=(hV.ext hE9).lt;have k2:=(hF.ext hE9).cell;have k3:=(hF.ext hE9).lt))|(go_at_call 137;(refine(HR9.out _ (by(with_reducible(repeat(first|exact Qc _|assumption|apply Qd|apply Qe|exact ext_plus _ _|(apply Qf;rotate_left;(simp<;>omega))|(apply Qg;rotate_left;exact ext_plus _ _)|(apply Qg;rotate_left;assumption)))))).mono ?_;rintro e w' ⟨rfl,hE'⟩;have hE9:Ext w1 w':=(by(with_reducible(repeat(first|exact Qc _|assumption|apply Qd|apply Qe|exact ext_plus _ _|(apply Qf;rotate_left;(simp<;>omega))|(apply Qg;rotate_left;exact ext_plus _ _)|(apply Qg;rotate_left;assumption)))));have k0:=(hV.ext hE9).cell;have k1:=(hV.ext hE9).lt;have k2:=(hF.ext hE9).cell;have k3:=(hF.ext hE9).lt))|(go_at_call 137;(refine(HB7.out _ (by(with_reducible(repeat(first|exact Qc _|assumption|apply Qd|apply Qe|exact ext_plus _ _|(apply Qf;rotate_left;(simp<;>omega))|(apply Qg;rotate_left;exact ext_plus _ _)|(apply Qg;rotate_left;assumption)))))).mono ?_;rintro e w' ⟨rfl,hE'⟩;have hE9:Ext w1 w':=(by(with_reducible(repeat(first|exact Qc _|assumption|apply Qd|apply Qe|exact ext_plus _ _|(apply Qf;rotate_left;(simp<;>omega))|(apply Qg;rotate_left;exact ext_plus _ _)|(apply Qg;rotate_left;assumption)))));have k0:=(hV.ext hE9).cell;have k1:=(hV.ext hE9).lt;have k2:=(hF.ext hE9).cell;have k3:=(hF.ext hE9).lt)))
    go_ret
    exact⟨ret_bool (by rw[HSEA.out,q1,q2,q3,decide_eq_true (show(s.stars.length:Int)≤6 by omega),q5,decide_eq_true (show(s.boats.length:Int)≤2 by omega),q7'];rfl),by(with_reducible(repeat(first|exact Qc _|assumption|apply Qd|apply Qe|exact ext_plus _ _|(apply Qf;rotate_left;(simp<;>omega))|(apply Qg;rotate_left;exact ext_plus _ _)|(apply Qg;rotate_left;assumption))))⟩
   by_cases q8:(s.roads.length:Int)=s.cells
   rotate_left
   ·skip
    go_wp2_with (first|(go_at_call 213;refine(in_any _ _ _ _).mono ?_;rintro e w' ⟨rfl,rfl⟩)|(go_at_call 238;refine(valid2_any _ _ _ _ (hA.ext (by(with_reducible(repeat(first|exact Qc _|assumption|apply Qd|apply Qe|exact ext_plus _ _|(apply Qf;rotate_left;(simp<;>omega))|(apply Qg;rotate_left;exact ext_plus _ _)|(apply Qg;rotate_left;assumption))))))).mono ?_;rintro e w' ⟨rfl,rfl⟩)|(go_at_call 137;(refine(HS5.out _ (by(with_reducible(repeat(first|exact Qc _|assumption|apply Qd|apply Qe|exact ext_plus _ _|(apply Qf;rotate_left;(simp<;>omega))|(apply Qg;rotate_left;exact ext_plus _ _)|(apply Qg;rotate_left;assumption)))))).mono ?_;rintro e w' ⟨rfl,hE'⟩;have hE9:Ext w1 w':=(by(with_reducible(repeat(first|exact Qc _|assumption|apply Qd|apply Qe|exact ext_plus _ _|(apply Qf;rotate_left;(simp<;>omega))|(apply Qg;rotate_left;exact ext_plus _ _)|(apply Qg;rotate_left;assumption)))));have k0:=(hV.ext hE9).cell;have k1:=(hV.ext hE9).lt;have k2:=(hF.ext hE9).cell;have k3:=(hF.ext hE9).lt))|(go_at_call 137;(refine(HR9.out _ (by(with_reducible(repeat(first|exact Qc _|assumption|apply Qd|apply Qe|exact ext_plus _ _|(apply Qf;rotate_left;(simp<;>omega))|(apply Qg;rotate_left;exact ext_plus _ _)|(apply Qg;rotate_left;assumption)))))).mono ?_;rintro e w' ⟨rfl,hE'⟩;have hE9:Ext w1 w':=(by(with_reducible(repeat(first|exact Qc _|assumption|apply Qd|apply Qe|exact ext_plus _ _|(apply Qf;rotate_left;(simp<;>omega))|(apply Qg;rotate_left;exact ext_plus _ _)|(apply Qg;rotate_left;assumption)))));have k0:=(hV.ext hE9).cell;have k1:=(hV.ext hE9).lt;have k2:=(hF.ext hE9).cell;have k3:=(hF.ext hE9).lt))|(go_at_call 137;(refine(HB7.out _ (by(with_reducible(repeat(first|exact Qc _|assumption|apply Qd|apply Qe|exact ext_plus _ _|(apply Qf;rotate_left;(simp<;>omega))|(apply Qg;rotate_left;exact ext_plus _ _)|(apply Qg;rotate_left;assumption)))))).mono ?_;rintro e w' ⟨rfl,hE'⟩;have hE9:Ext w1 w':=(by(with_reducible(repeat(first|exact Qc _|assumption|apply Qd|apply Qe|exact ext_plus _ _|(apply Qf;rotate_left;(simp<;>omega))|(apply Qg;rotate_left;exact ext_plus _ _)|(apply Qg;rotate_left;assumption)))));have k0:=(hV.ext hE9).cell;have k1:=(hV.ext hE9).lt;have k2:=(hF.ext hE9).cell;have k3:=(hF.ext hE9).lt)))
    go_ret
    exact⟨ret_bool (by rw[HSEA.out,q1,q2,q3,decide_eq_true (show(s.stars.length:Int)≤6 by omega),q5,decide_eq_true (show(s.boats.length:Int)≤2 by omega),q7,decide_eq_false (show ¬((s.roads.length:Int)=s.cells) by omega)];rfl),by(with_reducible(repeat(first|exact Qc _|assumption|apply Qd|apply Qe|exact ext_plus _ _|(apply Qf;rotate_left;(simp<;>omega))|(apply Qg;rotate_left;exact ext_plus _ _)|(apply Qg;rotate_left;assumption))))⟩
   by_cases q9:B9=false
   rotate_left
   ·have q9':B9=true:=(by simpa using q9)
    clear q9
    go_wp2_with (first|(go_at_call 213;refine(in_any _ _ _ _).mono ?_;rintro e w' ⟨rfl,rfl⟩)|(go_at_call 238;refine(valid2_any _ _ _ _ (hA.ext (by(with_reducible(repeat(first|exact Qc _|assumption|apply Qd|apply Qe|exact ext_plus _ _|(apply Qf;rotate_left;(simp<;>omega))|(apply Qg;rotate_left;exact ext_plus _ _)|(apply Qg;rotate_left;assumption))))))).mono ?_;rintro e w' ⟨rfl,rfl⟩)|(go_at_call 137;(refine(HS5.out _ (by(with_reducible(repeat(first|exact Qc _|assumption|apply Qd|apply Qe|exact ext_plus _ _|(apply Qf;rotate_left;(simp<;>omega))|(apply Qg;rotate_left;exact ext_plus _ _)|(apply Qg;rotate_left;assumption)))))).mono ?_;rintro e w' ⟨rfl,hE'⟩;have hE9:Ext w1 w':=(by(with_reducible(repeat(first|exact Qc _|assumption|apply Qd|apply Qe|exact ext_plus _ _|(apply Qf;rotate_left;(simp<;>omega))|(apply Qg;rotate_left;exact ext_plus _ _)|(apply Qg;rotate_left;assumption)))));have k0:=(hV.ext hE9).cell;have k1:=(hV.ext hE9).lt;have k2:=(hF.ext hE9).cell;have k3:=(hF.ext hE9).lt))|(go_at_call 137;(refine(HR9.out _ (by(with_reducible(repeat(first|exact Qc _|assumption|apply Qd|apply Qe|exact ext_plus _ _|(apply Qf;rotate_left;(simp<;>omega))|(apply Qg;rotate_left;exact ext_plus _ _)|(apply Qg;rotate_left;assumption)))))).mono ?_;rintro e w' ⟨rfl,hE'⟩;have hE9:Ext w1 w':=(by(with_reducible(repeat(first|exact Qc _|assumption|apply Qd|apply Qe|exact ext_plus _ _|(apply Qf;rotate_left;(simp<;>omega))|(apply Qg;rotate_left;exact ext_plus _ _)|(apply Qg;rotate_left;assumption)))));have k0:=(hV.ext hE9).cell;have k1:=(hV.ext hE9).lt;have k2:=(hF.ext hE9).cell;have k3:=(hF.ext hE9).lt))|(go_at_call 137;(refine(HB7.out _ (by(with_reducible(repeat(first|exact Qc _|assumption|apply Qd|apply Qe|exact ext_plus _ _|(apply Qf;rotate_left;(simp<;>omega))|(apply Qg;rotate_left;exact ext_plus _ _)|(apply Qg;rotate_left;assumption)))))).mono ?_;rintro e w' ⟨rfl,hE'⟩;have hE9:Ext w1 w':=(by(with_reducible(repeat(first|exact Qc _|assumption|apply Qd|apply Qe|exact ext_plus _ _|(apply Qf;rotate_left;(simp<;>omega))|(apply Qg;rotate_left;exact ext_plus _ _)|(apply Qg;rotate_left;assumption)))));have k0:=(hV.ext hE9).cell;have k1:=(hV.ext hE9).lt;have k2:=(hF.ext hE9).cell;have k3:=(hF.ext hE9).lt)))
    go_ret
    exact⟨ret_bool (by rw[HSEA.out,q1,q2,q3,decide_eq_true (show(s.stars.length:Int)≤6 by omega),q5,decide_eq_true (show(s.boats.length:Int)≤2 by omega),q7,decide_eq_true (show(s.roads.length:Int)=s.cells by omega),q9'];rfl),by(with_reducible(repeat(first|exact Qc _|assumption|apply Qd|apply Qe|exact ext_plus _ _|(apply Qf;rotate_left;(simp<;>omega))|(apply Qg;rotate_left;exact ext_plus _ _)|(apply Qg;rotate_left;assumption))))⟩
   go_wp2_with (first|(go_at_call 213;refine(in_any _ _ _ _).mono ?_;rintro e w' ⟨rfl,rfl⟩)|(go_at_call 238;refine(valid2_any _ _ _ _ (hA.ext (by(with_reducible(repeat(first|exact Qc _|assumption|apply Qd|apply Qe|exact ext_plus _ _|(apply Qf;rotate_left;(simp<;>omega))|(apply Qg;rotate_left;exact ext_plus _ _)|(apply Qg;rotate_left;assumption))))))).mono ?_;rintro e w' ⟨rfl,rfl⟩)|(go_at_call 137;(refine(HS5.out _ (by(with_reducible(repeat(first|exact Qc _|assumption|apply Qd|apply Qe|exact ext_plus _ _|(apply Qf;rotate_left;(simp<;>omega))|(apply Qg;rotate_left;exact ext_plus _ _)|(apply Qg;rotate_left;assumption)))))).mono ?_;rintro e w' ⟨rfl,hE'⟩;have hE9:Ext w1 w':=(by(with_reducible(repeat(first|exact Qc _|assumption|apply Qd|apply Qe|exact ext_plus _ _|(apply Qf;rotate_left;(simp<;>omega))|(apply Qg;rotate_left;exact ext_plus _ _)|(apply Qg;rotate_left;assumption)))));have k0:=(hV.ext hE9).cell;have k1:=(hV.ext hE9).lt;have k2:=(hF.ext hE9).cell;have k3:=(hF.ext hE9).lt))|(go_at_call 137;(refine(HR9.out _ (by(with_reducible(repeat(first|exact Qc _|assumption|apply Qd|apply Qe|exact ext_plus _ _|(apply Qf;rotate_left;(simp<;>omega))|(apply Qg;rotate_left;exact ext_plus _ _)|(apply Qg;rotate_left;assumption)))))).mono ?_;rintro e w' ⟨rfl,hE'⟩;have hE9:Ext w1 w':=(by(with_reducible(repeat(first|exact Qc _|assumption|apply Qd|apply Qe|exact ext_plus _ _|(apply Qf;rotate_left;(simp<;>omega))|(apply Qg;rotate_left;exact ext_plus _ _)|(apply Qg;rotate_left;assumption)))));have k0:=(hV.ext hE9).cell;have k1:=(hV.ext hE9).lt;have k2:=(hF.ext hE9).cell;have k3:=(hF.ext hE9).lt))|(go_at_call 137;(refine(HB7.out _ (by(with_reducible(repeat(first|exact Qc _|assumption|apply Qd|apply Qe|exact ext_plus _ _|(apply Qf;rotate_left;(simp<;>omega))|(apply Qg;rotate_left;exact ext_plus _ _)|(apply Qg;rotate_left;assumption)))))).mono ?_;rintro e w' ⟨rfl,hE'⟩;have hE9:Ext w1 w':=(by(with_reducible(repeat(first|exact Qc _|assumption|apply Qd|apply Qe|exact ext_plus _ _|(apply Qf;rotate_left;(simp<;>omega))|(apply Qg;rotate_left;exact ext_plus _ _)|(apply Qg;rotate_left;assumption)))));have k0:=(hV.ext hE9).cell;have k1:=(hV.ext hE9).lt;have k2:=(hF.ext hE9).cell;have k3:=(hF.ext hE9).lt)))
   go_ret
   exact⟨ret_bool (by rw[HSEA.out,q1,q2,q3,decide_eq_true (show(s.stars.length:Int)≤6 by omega),q5,decide_eq_true (show(s.boats.length:Int)≤2 by omega),q7,decide_eq_true (show(s.roads.length:Int)=s.cells by omega),q9];rfl),by(with_reducible(repeat(first|exact Qc _|assumption|apply Qd|apply Qe|exact ext_plus _ _|(apply Qf;rotate_left;(simp<;>omega))|(apply Qg;rotate_left;exact ext_plus _ _)|(apply Qg;rotate_left;assumption))))⟩
end Go.Proofs.YtgloajbgphcloaaGreat.Cn
namespace Go.Proofs.YtgloajbgphcloaaGreat.Cn
set_option linter.unusedVariables false
set_option linter.unusedSimpArgs false
open Go.RowKit
open Ext renaming trans → Qg
open Lib renaming hid → Qa
set_option maxRecDepth 100000 in
set_option maxHeartbeats 4000000 in
theorem indexHours (fid:Nat) (caps:Array Value) (p:Hour→Bool) (v:Value) (xs:List (Hour)) (w:World) (hv:Sls 2 (AtE hourC) w v xs) (hn:xs.length≤1000000)
  (eg:∀args w,(callFunc fid args).run Tryz.prog w= .ok (.enter fid args) w)
  (hf:∀x w',Ext w w'→Calls Tryz.prog fid (#[.agg #[.int .i64 x.course,.int .i64 x.star]]++caps) w' fun e w''=>e= .returned (.bool (p x))∧Ext w' w'') :
  Calls Tryz.prog 243 #[v,.func (.func fid) #[] caps] w fun e w'=>∃k:Int,e= .returned (.int .i64 k)∧decide (0≤k)=xs.any p∧Ext w w':=by
 obtain⟨a,cap,rfl,hx⟩:=hv
 have HX:=Qa hx
 have HF:=Qa hf
 have HEG:=Qa eg
 clear hx hf eg
 go_enter Tryz.func243,Tryz.ntmps243
 go_wp2
 go_loopw [5,8] (fun _ i wr=>∃k:Nat,k≤xs.length∧i= .int .i64 k∧(xs.take k).any p=false∧Ext w wr) (fun _ i _=>xs.length - (intOf i).toNat)
 case atStart=>exact⟨0,Nat.zero_le _,rfl,rfl,Ext.refl _⟩
 case round =>
  rename World=>wr
  obtain⟨k,hk,rfl,hgood,hE⟩:=hrel
  have HG:=Qa hgood
  clear hgood
  by_cases hlt:k<xs.length
  ·obtain⟨b,off,rfl,hb,h0⟩:=HX.out k hlt
   have h0':=ate_stays _ _ _ _ _ _ hE hb h0
   have q0:=h0' 0 _ rfl
   have q1:=h0' 1 _ rfl
   simp only[Nat.add_zero]at q0
   clear h0'
   have hbl:=Nat.lt_of_lt_of_le hb hE.size
   have hs:(xs.take (k+1)).any p=p xs[k]:=by rw[List.take_succ_eq_append_getElem hlt,List.any_append,HG.out];simp
   have hm:xs[k]∈xs:=List.getElem_mem hlt
   have hba:=HF.out xs[k] wr hE
   obtain⟨x,hxx⟩:∃x,xs[k]=x:=⟨_,rfl⟩
   rw[hxx]at hs hm hba q0 q1
   obtain⟨B,hB⟩:∃B,p x=B:=⟨_,rfl⟩
   rw[hB]at hs hba
   have HBA:=Qa hba
   have HS:=Qa hs
   have HM:=Qa hm
   have HBB:=Qa hB
   clear h0 hxx hba hs hm hB
   have heg:=HEG.out
   cases B with
   | true =>
    go_wp2
    refine HBA.out.mono ?_
    rintro e w' ⟨rfl,hE'⟩
    go_wp2
    go_ret
    have ha:xs.any p=true:=by rw[List.any_eq_true];exact⟨x,HM.out,HBB.out⟩
    exact⟨_,rfl,by rw[ha];simp,hE.trans hE'⟩
   | false =>
    go_wp2
    refine HBA.out.mono ?_
    rintro e w' ⟨rfl,hE'⟩
    go_wp2
    go_roundw
    case rel=>exact⟨k+1,by omega,by go_num,HS.out,hE.trans hE'⟩
    case measure=>simp[intOf];omega
  ·obtain rfl:k=xs.length:=by omega
   go_wp2
   go_ret
   have h:=HG.out
   rw[List.take_length]at h
   exact⟨_,rfl,by rw[h];decide,hE⟩
theorem containsHours (fid:Nat) (caps:Array Value) (p:Hour→Bool) (v:Value) (xs:List (Hour)) (w:World) (hv:Sls 2 (AtE hourC) w v xs) (hn:xs.length≤1000000)
  (eg:∀args w,(callFunc fid args).run Tryz.prog w= .ok (.enter fid args) w)
  (hf:∀x w',Ext w w'→Calls Tryz.prog fid (#[.agg #[.int .i64 x.course,.int .i64 x.star]]++caps) w' fun e w''=>e= .returned (.bool (p x))∧Ext w' w'') :
  Calls Tryz.prog 211 #[v,.func (.func fid) #[] caps] w fun e w'=>e= .returned (.bool (xs.any p))∧Ext w w':=by
 have hv':=hv
 obtain⟨a,cap,rfl,_⟩:=hv'
 have HB:=Qa (indexHours fid caps p _ xs w hv hn eg hf)
 clear eg hf
 go_enter Tryz.func211,Tryz.ntmps211
 go_wp2_with (first|(go_at_call 243;refine HB.out.mono ?_;rintro e w' ⟨k,rfl,hk,hE'⟩))
 all_goals(go_ret;exact⟨rfl,hE'⟩)
set_option maxRecDepth 100000 in
set_option maxHeartbeats 4000000 in
theorem given1_any (x:Hour) (s:Sea) (vc vs vb vr vl:Value) (b:Nat) (w:World) (ac:Option Addr) (cc:Nat) (sa:Option Addr) (cs:Nat) (hvc:vc= .slice ac s.courses.length cc) (hvs:vs= .slice sa s.stars.length cs)
  (hc1:s.courses.length≤1000000) (hs1:s.stars.length≤1000000) (hb:Blk w b (voyV s vc vs vb vr vl) 291) :
  Calls Tryz.prog 212 #[.agg #[.int .i64 x.course,.int .i64 x.star],.pointer (some ⟨b,0,none⟩)] w fun e w'=>e= .returned (.bool (!hourB s x))∧Ext w w':=by
 subst hvc hvs
 have k0:=hb.cell
 have k1:=hb.lt
 have hh:hourB s x=(within x.course 0 ((s.courses.length:Int) - 1)&&within x.star (-1) ((s.stars.length:Int) - 1)):=rfl
 obtain⟨B1,h1⟩:∃B,within x.course 0 ((s.courses.length:Int) - 1)=B:=⟨_,rfl⟩
 obtain⟨B2,h2⟩:∃B,within x.star (-1) ((s.stars.length:Int) - 1)=B:=⟨_,rfl⟩
 rw[h1,h2]at hh
 have HH:=Qa hh
 clear hh
 cases B1 with
 | false =>
  go_enter Tryz.func212,Tryz.ntmps212
  go_wp2_with (first|(go_at_call 213;refine(in_any _ _ _ _).mono ?_;rintro e w' ⟨rfl,rfl⟩))
  go_ret
  exact⟨ret_bool (by rw[HH.out];rfl),by(with_reducible(repeat(first|exact Ext.refl _|assumption|apply Ext.alloc|apply Ext.drew|exact ext_plus _ _|(apply Ext.setCell;rotate_left;(simp<;>omega))|(apply Qg;rotate_left;exact ext_plus _ _)|(apply Qg;rotate_left;assumption))))⟩
 | true =>
  go_enter Tryz.func212,Tryz.ntmps212
  go_wp2_with (first|(go_at_call 213;refine(in_any _ _ _ _).mono ?_;rintro e w' ⟨rfl,rfl⟩))
  go_ret
  exact⟨ret_bool (by rw[HH.out];rfl),by(with_reducible(repeat(first|exact Ext.refl _|assumption|apply Ext.alloc|apply Ext.drew|exact ext_plus _ _|(apply Ext.setCell;rotate_left;(simp<;>omega))|(apply Qg;rotate_left;exact ext_plus _ _)|(apply Qg;rotate_left;assumption))))⟩
end Go.Proofs.YtgloajbgphcloaaGreat.Cn
namespace Go.Proofs.YtgloajbgphcloaaGreat.Cn
set_option linter.unusedVariables false
set_option linter.unusedSimpArgs false
open Go.RowKit
open Blk renaming new' → Qb
open Ext renaming alloc → Qd, drew → Qe, refl → Qc, setCell → Qf, trans → Qg
open Lib renaming hid → Qa
def givenC (s:Sea) (log:List Hour) (long fine:Bool):Int:=if 12<log.length∨long=true then 3 else if seaB s&&fine&&log.all (hourB s)then 0 else 2
theorem given_code (s:Sea) (log:List Hour):givenC s log false true=codeOf s log:=by
 unfold givenC codeOf
 simp
set_option maxRecDepth 100000 in
set_option maxHeartbeats 8000000 in
theorem given_any (s:Sea) (log:List Hour) (vc vs vb vr vl:Value) (long fine:Bool) (w:World) (hC:Lists w vc s.courses) (hS:Ints w vs s.stars) (hB:Ints w vb s.boats) (hR:Ints w vr s.roads) (hH:Hours w vl log)
  (hc1:s.courses.length≤1000000) (hc2:∀c∈s.courses,c.length≤1000000) (hs1:s.stars.length≤1000000) (hb1:s.boats.length≤1000000) (hr1:s.roads.length≤1000000) (hl1:log.length≤1000000) :
  Calls Tryz.prog 166 #[.agg (voyV s vc vs vb vr vl),.bool long,.bool fine] w fun e w'=>e= .returned (.int .i64 (givenC s log long fine))∧Ext w w':=by
 have HVA:=Qa (fun W hE=>valid_any s vc vs vb vr W (hC.ext hE) (hS.ext hE) (hB.ext hE) (hR.ext hE) hc1 hc2 hs1 hb1 hr1)
 obtain⟨ac,cc,rfl,_⟩:=hC
 obtain⟨sa,cs,rfl,_⟩:=hS
 obtain⟨ab,kb,rfl,_⟩:=hB
 obtain⟨ar,kr,rfl,_⟩:=hR
 have hH':=hH
 obtain⟨al,cl,rfl,_⟩:=hH'
 obtain⟨nb,hnb⟩:∃n,s.boats.length=n:=⟨_,rfl⟩
 obtain⟨nr,hnr⟩:∃n,s.roads.length=n:=⟨_,rfl⟩
 simp only[hnb,hnr]at HVA ⊢
 clear hnb hnr hb1 hr1
 obtain⟨SB,hSB⟩:∃B,seaB s=B:=⟨_,rfl⟩
 obtain⟨AH,hAH⟩:∃B,log.any (fun x=> !hourB s x)=B:=⟨_,rfl⟩
 have hal:log.all (hourB s)= !AH:=by rw[← hAH,any_not,Bool.not_not]
 have hco:=fun W (hE:Ext (w.alloc (.cells (voyV s (.slice ac s.courses.length cc) (.slice sa s.stars.length cs) (.slice ab nb kb) (.slice ar nr kr) (.slice al log.length cl)) 291)) W)=>containsHours 212 #[.pointer (some ⟨w.heap.size,0,none⟩)] (fun x=> !hourB s x) _ log W (hH.ext (((Qc w).alloc _).trans hE)) hl1 (enters_of Tryz.func212 (by kernel_rfl) rfl)
  (fun x w' hE'=>given1_any x s _ _ _ _ _ _ w' ac cc sa cs rfl rfl hc1 hs1 (((Qb rfl _ _).ext hE).ext hE'))
 simp only[hAH]at hco
 have HCO:=Qa hco
 have HVB:=HVA.out
 simp only[hSB]at HVB
 have HSB:=Qa hSB
 have HAH:=Qa hal
 clear hco hSB hAH hal HVA hH
 have HVA:=Qa HVB
 clear HVB
 by_cases h12:12<log.length
 ·have hgc:givenC s log long fine=3:=by unfold givenC;rw[if_pos (.inl h12)]
  have HGC:=Qa hgc
  clear hgc
  have h12':(12:Int)<(log.length:Int):=by omega
  go_enter Tryz.func166,Tryz.ntmps166
  go_wp2_with (first|(go_at_call 210;refine(HVA.out _ (by(with_reducible(repeat(first|exact Qc _|assumption|apply Qd|apply Qe|exact ext_plus _ _|(apply Qf;rotate_left;(simp<;>omega))|(apply Qg;rotate_left;exact ext_plus _ _)|(apply Qg;rotate_left;assumption)))))).mono ?_;rintro e w' ⟨rfl,hE1⟩;have k2:=((Qb rfl _ _:Blk (w.alloc (.cells (voyV s (.slice ac s.courses.length cc) (.slice sa s.stars.length cs) (.slice ab nb kb) (.slice ar nr kr) (.slice al log.length cl)) 291)) w.heap.size (voyV s (.slice ac s.courses.length cc) (.slice sa s.stars.length cs) (.slice ab nb kb) (.slice ar nr kr) (.slice al log.length cl)) 291).ext hE1).cell;have k3:=((Qb rfl _ _:Blk (w.alloc (.cells (voyV s (.slice ac s.courses.length cc) (.slice sa s.stars.length cs) (.slice ab nb kb) (.slice ar nr kr) (.slice al log.length cl)) 291)) w.heap.size (voyV s (.slice ac s.courses.length cc) (.slice sa s.stars.length cs) (.slice ab nb kb) (.slice ar nr kr) (.slice al log.length cl)) 291).ext hE1).lt)|(go_at_call 211;refine(HCO.out _ hE1).mono ?_;rintro e w'' ⟨rfl,hE'⟩))
  go_ret
  exact⟨by rw[HGC.out];rfl,by(with_reducible(repeat(first|exact Qc _|assumption|apply Qd|apply Qe|exact ext_plus _ _|(apply Qf;rotate_left;(simp<;>omega))|(apply Qg;rotate_left;exact ext_plus _ _)|(apply Qg;rotate_left;assumption))))⟩
 have h12':¬(12:Int)<(log.length:Int):=by omega
 cases long with
 | true =>
  have hgc:givenC s log true fine=3:=by unfold givenC;rw[if_pos (.inr rfl)]
  have HGC:=Qa hgc
  clear hgc
  go_enter Tryz.func166,Tryz.ntmps166
  go_wp2_with (first|(go_at_call 210;refine(HVA.out _ (by(with_reducible(repeat(first|exact Qc _|assumption|apply Qd|apply Qe|exact ext_plus _ _|(apply Qf;rotate_left;(simp<;>omega))|(apply Qg;rotate_left;exact ext_plus _ _)|(apply Qg;rotate_left;assumption)))))).mono ?_;rintro e w' ⟨rfl,hE1⟩;have k2:=((Qb rfl _ _:Blk (w.alloc (.cells (voyV s (.slice ac s.courses.length cc) (.slice sa s.stars.length cs) (.slice ab nb kb) (.slice ar nr kr) (.slice al log.length cl)) 291)) w.heap.size (voyV s (.slice ac s.courses.length cc) (.slice sa s.stars.length cs) (.slice ab nb kb) (.slice ar nr kr) (.slice al log.length cl)) 291).ext hE1).cell;have k3:=((Qb rfl _ _:Blk (w.alloc (.cells (voyV s (.slice ac s.courses.length cc) (.slice sa s.stars.length cs) (.slice ab nb kb) (.slice ar nr kr) (.slice al log.length cl)) 291)) w.heap.size (voyV s (.slice ac s.courses.length cc) (.slice sa s.stars.length cs) (.slice ab nb kb) (.slice ar nr kr) (.slice al log.length cl)) 291).ext hE1).lt)|(go_at_call 211;refine(HCO.out _ hE1).mono ?_;rintro e w'' ⟨rfl,hE'⟩))
  go_ret
  exact⟨by rw[HGC.out];rfl,by(with_reducible(repeat(first|exact Qc _|assumption|apply Qd|apply Qe|exact ext_plus _ _|(apply Qf;rotate_left;(simp<;>omega))|(apply Qg;rotate_left;exact ext_plus _ _)|(apply Qg;rotate_left;assumption))))⟩
 | false =>
  have hgc:givenC s log false fine=if SB&&fine&& !AH then 0 else 2:=by
   unfold givenC
   rw[if_neg (fun h=>h.elim h12 (fun h=>Bool.noConfusion h)),HSB.out,HAH.out]
  have HGC:=Qa hgc
  clear hgc h12
  cases SB with
  | false =>
   go_enter Tryz.func166,Tryz.ntmps166
   go_wp2_with (first|(go_at_call 210;refine(HVA.out _ (by(with_reducible(repeat(first|exact Qc _|assumption|apply Qd|apply Qe|exact ext_plus _ _|(apply Qf;rotate_left;(simp<;>omega))|(apply Qg;rotate_left;exact ext_plus _ _)|(apply Qg;rotate_left;assumption)))))).mono ?_;rintro e w' ⟨rfl,hE1⟩;have k2:=((Qb rfl _ _:Blk (w.alloc (.cells (voyV s (.slice ac s.courses.length cc) (.slice sa s.stars.length cs) (.slice ab nb kb) (.slice ar nr kr) (.slice al log.length cl)) 291)) w.heap.size (voyV s (.slice ac s.courses.length cc) (.slice sa s.stars.length cs) (.slice ab nb kb) (.slice ar nr kr) (.slice al log.length cl)) 291).ext hE1).cell;have k3:=((Qb rfl _ _:Blk (w.alloc (.cells (voyV s (.slice ac s.courses.length cc) (.slice sa s.stars.length cs) (.slice ab nb kb) (.slice ar nr kr) (.slice al log.length cl)) 291)) w.heap.size (voyV s (.slice ac s.courses.length cc) (.slice sa s.stars.length cs) (.slice ab nb kb) (.slice ar nr kr) (.slice al log.length cl)) 291).ext hE1).lt)|(go_at_call 211;refine(HCO.out _ hE1).mono ?_;rintro e w'' ⟨rfl,hE'⟩))
   go_ret
   exact⟨by rw[HGC.out];rfl,by(with_reducible(repeat(first|exact Qc _|assumption|apply Qd|apply Qe|exact ext_plus _ _|(apply Qf;rotate_left;(simp<;>omega))|(apply Qg;rotate_left;exact ext_plus _ _)|(apply Qg;rotate_left;assumption))))⟩
  | true =>
   cases fine with
   | false =>
    go_enter Tryz.func166,Tryz.ntmps166
    go_wp2_with (first|(go_at_call 210;refine(HVA.out _ (by(with_reducible(repeat(first|exact Qc _|assumption|apply Qd|apply Qe|exact ext_plus _ _|(apply Qf;rotate_left;(simp<;>omega))|(apply Qg;rotate_left;exact ext_plus _ _)|(apply Qg;rotate_left;assumption)))))).mono ?_;rintro e w' ⟨rfl,hE1⟩;have k2:=((Qb rfl _ _:Blk (w.alloc (.cells (voyV s (.slice ac s.courses.length cc) (.slice sa s.stars.length cs) (.slice ab nb kb) (.slice ar nr kr) (.slice al log.length cl)) 291)) w.heap.size (voyV s (.slice ac s.courses.length cc) (.slice sa s.stars.length cs) (.slice ab nb kb) (.slice ar nr kr) (.slice al log.length cl)) 291).ext hE1).cell;have k3:=((Qb rfl _ _:Blk (w.alloc (.cells (voyV s (.slice ac s.courses.length cc) (.slice sa s.stars.length cs) (.slice ab nb kb) (.slice ar nr kr) (.slice al log.length cl)) 291)) w.heap.size (voyV s (.slice ac s.courses.length cc) (.slice sa s.stars.length cs) (.slice ab nb kb) (.slice ar nr kr) (.slice al log.length cl)) 291).ext hE1).lt)|(go_at_call 211;refine(HCO.out _ hE1).mono ?_;rintro e w'' ⟨rfl,hE'⟩))
    go_ret
    exact⟨by rw[HGC.out];rfl,by(with_reducible(repeat(first|exact Qc _|assumption|apply Qd|apply Qe|exact ext_plus _ _|(apply Qf;rotate_left;(simp<;>omega))|(apply Qg;rotate_left;exact ext_plus _ _)|(apply Qg;rotate_left;assumption))))⟩
   | true =>
    cases AH with
    | true =>
     go_enter Tryz.func166,Tryz.ntmps166
     go_wp2_with (first|(go_at_call 210;refine(HVA.out _ (by(with_reducible(repeat(first|exact Qc _|assumption|apply Qd|apply Qe|exact ext_plus _ _|(apply Qf;rotate_left;(simp<;>omega))|(apply Qg;rotate_left;exact ext_plus _ _)|(apply Qg;rotate_left;assumption)))))).mono ?_;rintro e w' ⟨rfl,hE1⟩;have k2:=((Qb rfl _ _:Blk (w.alloc (.cells (voyV s (.slice ac s.courses.length cc) (.slice sa s.stars.length cs) (.slice ab nb kb) (.slice ar nr kr) (.slice al log.length cl)) 291)) w.heap.size (voyV s (.slice ac s.courses.length cc) (.slice sa s.stars.length cs) (.slice ab nb kb) (.slice ar nr kr) (.slice al log.length cl)) 291).ext hE1).cell;have k3:=((Qb rfl _ _:Blk (w.alloc (.cells (voyV s (.slice ac s.courses.length cc) (.slice sa s.stars.length cs) (.slice ab nb kb) (.slice ar nr kr) (.slice al log.length cl)) 291)) w.heap.size (voyV s (.slice ac s.courses.length cc) (.slice sa s.stars.length cs) (.slice ab nb kb) (.slice ar nr kr) (.slice al log.length cl)) 291).ext hE1).lt)|(go_at_call 211;refine(HCO.out _ hE1).mono ?_;rintro e w'' ⟨rfl,hE'⟩))
     go_ret
     exact⟨by rw[HGC.out];rfl,by(with_reducible(repeat(first|exact Qc _|assumption|apply Qd|apply Qe|exact ext_plus _ _|(apply Qf;rotate_left;(simp<;>omega))|(apply Qg;rotate_left;exact ext_plus _ _)|(apply Qg;rotate_left;assumption))))⟩
    | false =>
     go_enter Tryz.func166,Tryz.ntmps166
     go_wp2_with (first|(go_at_call 210;refine(HVA.out _ (by(with_reducible(repeat(first|exact Qc _|assumption|apply Qd|apply Qe|exact ext_plus _ _|(apply Qf;rotate_left;(simp<;>omega))|(apply Qg;rotate_left;exact ext_plus _ _)|(apply Qg;rotate_left;assumption)))))).mono ?_;rintro e w' ⟨rfl,hE1⟩;have k2:=((Qb rfl _ _:Blk (w.alloc (.cells (voyV s (.slice ac s.courses.length cc) (.slice sa s.stars.length cs) (.slice ab nb kb) (.slice ar nr kr) (.slice al log.length cl)) 291)) w.heap.size (voyV s (.slice ac s.courses.length cc) (.slice sa s.stars.length cs) (.slice ab nb kb) (.slice ar nr kr) (.slice al log.length cl)) 291).ext hE1).cell;have k3:=((Qb rfl _ _:Blk (w.alloc (.cells (voyV s (.slice ac s.courses.length cc) (.slice sa s.stars.length cs) (.slice ab nb kb) (.slice ar nr kr) (.slice al log.length cl)) 291)) w.heap.size (voyV s (.slice ac s.courses.length cc) (.slice sa s.stars.length cs) (.slice ab nb kb) (.slice ar nr kr) (.slice al log.length cl)) 291).ext hE1).lt)|(go_at_call 211;refine(HCO.out _ hE1).mono ?_;rintro e w'' ⟨rfl,hE'⟩))
     go_ret
     exact⟨by rw[HGC.out];rfl,by(with_reducible(repeat(first|exact Qc _|assumption|apply Qd|apply Qe|exact ext_plus _ _|(apply Qf;rotate_left;(simp<;>omega))|(apply Qg;rotate_left;exact ext_plus _ _)|(apply Qg;rotate_left;assumption))))⟩
end Go.Proofs.YtgloajbgphcloaaGreat.Cn
namespace Go.Proofs.YtgloajbgphcloaaGreat.Cn
set_option linter.unusedVariables false
set_option linter.unusedSimpArgs false
open Go.RowKit
open Ext renaming alloc → Qd, drew → Qe, refl → Qc, setCell → Qf, trans → Qg
open Lib renaming hid → Qa
theorem ints_nil (w:World):Ints w (.slice none 0 0) []:=⟨none,0,rfl,fun i h=>by simp at h⟩
def pastC (s:Sea) (log:List Hour):Int:=if codeOf s log=0 then(if setAt s log log.length=0 then 5 else 0)else codeOf s log
def pastL (s:Sea) (log:List Hour):List Int:=if pastC s log=0 then hindL s log else []
set_option maxRecDepth 100000 in
set_option maxHeartbeats 8000000 in
theorem look_any (s:Sea) (log:List Hour) (vc vs vb vr vl:Value) (w:World) (hC:Lists w vc s.courses) (hS:Ints w vs s.stars) (hB:Ints w vb s.boats) (hR:Ints w vr s.roads) (hH:Hours w vl log)
  (hc1:s.courses.length≤1000000) (hc2:∀c∈s.courses,c.length≤1000000) (hs1:s.stars.length≤1000000) (hb1:s.boats.length≤1000000) (hr1:s.roads.length≤1000000) (hl1:log.length≤1000000) :
  Calls Tryz.prog 91 #[.agg (seaV s vc vs vb vr),vl,.int .i64 1] w fun e w'=>∃v,e= .returned (.tuple #[v,.int .i64 (pastC s log)])∧Ints w' v (pastL s log)∧Ext w w':=by
 have HGI:=Qa (fun W hE=>given_any s log vc vs vb vr vl false true W (hC.ext hE) (hS.ext hE) (hB.ext hE) (hR.ext hE) (hH.ext hE) hc1 hc2 hs1 hb1 hr1 hl1)
 have HHI:=Qa (fun W hE O L hvb hvr=>hindsight_any s vc vs vb vr vl log W O L (hC.ext hE) (hS.ext hE) hvb hvr (hH.ext hE))
 obtain⟨ac,cc,rfl,_⟩:=hC
 obtain⟨sa,cs,rfl,_⟩:=hS
 obtain⟨ab,kb,rfl,_⟩:=hB
 obtain⟨ar,kr,rfl,_⟩:=hR
 obtain⟨al,cl,rfl,_⟩:=hH
 have hpc:pastC s log=if codeOf s log=0 then(if setAt s log log.length=0 then 5 else 0)else codeOf s log:=rfl
 have HPC:=Qa hpc
 clear hpc
 obtain⟨cd,hcd⟩:∃c,codeOf s log=c:=⟨_,rfl⟩
 have HGI2:=HGI.out
 rw[given_code,hcd]at HGI2
 have HGI:=Qa HGI2
 have HCD:=Qa hcd
 clear HGI2 hcd
 by_cases hz:cd=0
 ·subst hz
  have hok:=code_zero HCD.out
  have HHI2:=Qa (fun W hE=>HHI.out W hE (ok_of hok.1) hok.2 ⟨_,_,_,rfl⟩ ⟨_,_,_,rfl⟩)
  clear HHI hok
  have hix:∀w,(Instr.index 292 (.agg #[.func (.func 167) #[.agg (voyV s (.slice ac s.courses.length cc) (.slice sa s.stars.length cs) (.slice ab s.boats.length kb) (.slice ar s.roads.length kr) (.slice al log.length cl))] #[],.func (.func 168) #[.agg (voyV s (.slice ac s.courses.length cc) (.slice sa s.stars.length cs) (.slice ab s.boats.length kb) (.slice ar s.roads.length kr) (.slice al log.length cl))] #[]]) (.int .i64 1)).run Tryz.prog w= .ok (.func (.func 168) #[.agg (voyV s (.slice ac s.courses.length cc) (.slice sa s.stars.length cs) (.slice ab s.boats.length kb) (.slice ar s.roads.length kr) (.slice al log.length cl))] #[]) w:=fun _=>by kernel_rfl
  have hend:(hindL s log)[log.length]? =some ((setAt s log log.length:Nat):Int):=by simp[hindL,hind]
  have hlen:(hindL s log).length=log.length+1:=by simp[hindL]
  obtain⟨z,hzz⟩:∃z,setAt s log log.length=z:=⟨_,rfl⟩
  rw[hzz]at hend
  have hpz:pastC s log=if z=0 then 5 else 0:=by rw[HPC.out,if_pos HCD.out,hzz]
  have HPZ:=Qa hpz
  have HEND:=Qa hend
  have HLEN:=Qa hlen
  clear hpz hend hlen hzz
  by_cases hz0:z=0
  ·subst hz0
   go_enter Tryz.func91,Tryz.ntmps91
   go_wp2_with (first|(go_at_call 166;refine(HGI.out _ (by(with_reducible(repeat(first|exact Qc _|assumption|apply Qd|apply Qe|exact ext_plus _ _|(apply Qf;rotate_left;(simp<;>omega))|(apply Qg;rotate_left;exact ext_plus _ _)|(apply Qg;rotate_left;assumption)))))).mono ?_;rintro e w' ⟨rfl,hE1⟩;have hb2:=((Blk.new' (by simp) _ _:Blk ((w.alloc (.cells (seaV s (.slice ac s.courses.length cc) (.slice sa s.stars.length cs) (.slice ab s.boats.length kb) (.slice ar s.roads.length kr)) 96)).alloc (.cells (voyV s (.slice ac s.courses.length cc) (.slice sa s.stars.length cs) (.slice ab s.boats.length kb) (.slice ar s.roads.length kr) (.slice al log.length cl)) 291)) (w.heap.size+1) (voyV s (.slice ac s.courses.length cc) (.slice sa s.stars.length cs) (.slice ab s.boats.length kb) (.slice ar s.roads.length kr) (.slice al log.length cl)) 291)).ext hE1;have k2:=hb2.cell;have k3:=hb2.lt)|(go_at_call 168;refine(HHI2.out _ (by(with_reducible(repeat(first|exact Qc _|assumption|apply Qd|apply Qe|exact ext_plus _ _|(apply Qf;rotate_left;(simp<;>omega))|(apply Qg;rotate_left;exact ext_plus _ _)|(apply Qg;rotate_left;assumption)))))).mono ?_;rintro e w3 ⟨g,cap,rfl,hgb,hr,hE3⟩;have hq:=hr.get log.length (by rw[HLEN.out];omega);rw[(List.getElem?_eq_some_iff.1 HEND.out).2]at hq;have hql:=hr.lt))
   go_ret2
   refine⟨_,by rw[HPZ.out];rfl,?_,by(with_reducible(repeat(first|exact Qc _|assumption|apply Qd|apply Qe|exact ext_plus _ _|(apply Qf;rotate_left;(simp<;>omega))|(apply Qg;rotate_left;exact ext_plus _ _)|(apply Qg;rotate_left;assumption))))⟩
   unfold pastL;rw[HPZ.out];exact ints_nil _
  ·have hz1:¬((z:Int)=0):=by omega
   have hz2:((z:Int) == 0)=false:=by simpa using hz1
   have HPZ2:=Qa (show pastC s log=0 by rw[HPZ.out,if_neg hz0])
   clear HPZ hz0
   go_enter Tryz.func91,Tryz.ntmps91
   go_wp2_with (first|(go_at_call 166;refine(HGI.out _ (by(with_reducible(repeat(first|exact Qc _|assumption|apply Qd|apply Qe|exact ext_plus _ _|(apply Qf;rotate_left;(simp<;>omega))|(apply Qg;rotate_left;exact ext_plus _ _)|(apply Qg;rotate_left;assumption)))))).mono ?_;rintro e w' ⟨rfl,hE1⟩;have hb2:=((Blk.new' (by simp) _ _:Blk ((w.alloc (.cells (seaV s (.slice ac s.courses.length cc) (.slice sa s.stars.length cs) (.slice ab s.boats.length kb) (.slice ar s.roads.length kr)) 96)).alloc (.cells (voyV s (.slice ac s.courses.length cc) (.slice sa s.stars.length cs) (.slice ab s.boats.length kb) (.slice ar s.roads.length kr) (.slice al log.length cl)) 291)) (w.heap.size+1) (voyV s (.slice ac s.courses.length cc) (.slice sa s.stars.length cs) (.slice ab s.boats.length kb) (.slice ar s.roads.length kr) (.slice al log.length cl)) 291)).ext hE1;have k2:=hb2.cell;have k3:=hb2.lt)|(go_at_call 168;refine(HHI2.out _ (by(with_reducible(repeat(first|exact Qc _|assumption|apply Qd|apply Qe|exact ext_plus _ _|(apply Qf;rotate_left;(simp<;>omega))|(apply Qg;rotate_left;exact ext_plus _ _)|(apply Qg;rotate_left;assumption)))))).mono ?_;rintro e w3 ⟨g,cap,rfl,hgb,hr,hE3⟩;have hq:=hr.get log.length (by rw[HLEN.out];omega);rw[(List.getElem?_eq_some_iff.1 HEND.out).2]at hq;have hql:=hr.lt))
   go_ret2
   refine⟨_,by rw[HPZ2.out];rfl,?_,by(with_reducible(repeat(first|exact Qc _|assumption|apply Qd|apply Qe|exact ext_plus _ _|(apply Qf;rotate_left;(simp<;>omega))|(apply Qg;rotate_left;exact ext_plus _ _)|(apply Qg;rotate_left;assumption))))⟩
   unfold pastL;rw[HPZ2.out];exact hr.ints HLEN.out.symm _
 ·have hp2:pastC s log=cd:=by rw[HPC.out,if_neg (by rw[HCD.out];exact hz),HCD.out]
  have HP2:=Qa hp2
  have hcb:(cd == 0)=false:=by simpa using hz
  clear hp2
  go_enter Tryz.func91,Tryz.ntmps91
  go_wp2_with (first|(go_at_call 166;refine(HGI.out _ (by(with_reducible(repeat(first|exact Qc _|assumption|apply Qd|apply Qe|exact ext_plus _ _|(apply Qf;rotate_left;(simp<;>omega))|(apply Qg;rotate_left;exact ext_plus _ _)|(apply Qg;rotate_left;assumption)))))).mono ?_;rintro e w' ⟨rfl,hE1⟩))
  go_ret2
  refine⟨_,by rw[HP2.out];rfl,?_,by(with_reducible(repeat(first|exact Qc _|assumption|apply Qd|apply Qe|exact ext_plus _ _|(apply Qf;rotate_left;(simp<;>omega))|(apply Qg;rotate_left;exact ext_plus _ _)|(apply Qg;rotate_left;assumption))))⟩
  unfold pastL;rw[if_neg (by rw[HP2.out];exact hz)];exact ints_nil _
set_option maxRecDepth 100000 in
set_option maxHeartbeats 8000000 in
theorem past_any (s:Sea) (log:List Hour) (vc vs vb vr vl:Value) (w:World) (hC:Lists w vc s.courses) (hS:Ints w vs s.stars) (hB:Ints w vb s.boats) (hR:Ints w vr s.roads) (hH:Hours w vl log)
  (hc1:s.courses.length≤1000000) (hc2:∀c∈s.courses,c.length≤1000000) (hs1:s.stars.length≤1000000) (hb1:s.boats.length≤1000000) (hr1:s.roads.length≤1000000) (hl1:log.length≤1000000) :
  Calls Tryz.prog 32 #[.agg (seaV s vc vs vb vr),vl] w fun e w'=>∃v,e= .returned (.tuple #[v,.int .i64 (pastC s log)])∧Ints w' v (pastL s log)∧Ext w w':=by
 have HLK:=Qa (fun W hE=>look_any s log vc vs vb vr vl W (hC.ext hE) (hS.ext hE) (hB.ext hE) (hR.ext hE) (hH.ext hE) hc1 hc2 hs1 hb1 hr1 hl1)
 obtain⟨ac,cc,rfl,_⟩:=hC
 obtain⟨sa,cs,rfl,_⟩:=hS
 obtain⟨ab,kb,rfl,_⟩:=hB
 obtain⟨ar,kr,rfl,_⟩:=hR
 obtain⟨al,cl,rfl,_⟩:=hH
 go_enter Tryz.func32,Tryz.ntmps32
 go_wp2_with (first|(go_at_call 91;refine(HLK.out _ (by(with_reducible(repeat(first|exact Qc _|assumption|apply Qd|apply Qe|exact ext_plus _ _|(apply Qf;rotate_left;(simp<;>omega))|(apply Qg;rotate_left;exact ext_plus _ _)|(apply Qg;rotate_left;assumption)))))).mono ?_;rintro e w' ⟨v,rfl,hv,hE1⟩))
 go_ret2
 exact⟨v,rfl,hv,by(with_reducible(repeat(first|exact Qc _|assumption|apply Qd|apply Qe|exact ext_plus _ _|(apply Qf;rotate_left;(simp<;>omega))|(apply Qg;rotate_left;exact ext_plus _ _)|(apply Qg;rotate_left;assumption))))⟩
end Go.Proofs.YtgloajbgphcloaaGreat.Cn
