/- Which reefs are as defined, as the program asks it. Which reefs and plans are as defined. A reef with a plan, as the program has it. -/
import Derived.Test.YtgloajbgphcloaaGreatCo
import Derived.Test.YtgloajbgphcloaaGreatRg
import Derived.Test.YtgloajbgphcloaaGreatRfEnc
import Derived.Test.YtgloajbgphcloaaGreatDr
namespace Go.Proofs.YtgloajbgphcloaaGreat.Rf
set_option linter.unusedVariables false
set_option linter.unusedSimpArgs false
open Go.RowKit
open Bool renaming eq_iff_iff → Qa
theorem in_any (x lo hi:Int) (w:World) :
  Calls Tryz.prog 106 #[.int .i64 x,.int .i64 lo,.int .i64 hi] w fun e w'=>e= .returned (.bool (R.within x lo hi))∧w=w':=by
 go_enter Tryz.func106,Tryz.ntmps106
 go_wp2
 all_goals(go_ret;exact⟨ret_bool (by rw[Qa];simp[R.within];omega),rfl⟩)
theorem span_any (a b m:Int) (w:World) :
  Calls Tryz.prog 249 #[.agg #[.int .i64 a,.int .i64 b],.int .i64 m] w fun e w'=>e= .returned (.bool (R.spanB a b m))∧Ext w w':=by
 go_enter Tryz.func249,Tryz.ntmps249
 go_wp2
 all_goals(go_ret;exact⟨ret_bool (by rw[Qa];simp[R.spanB];omega),(Ext.refl _).alloc _⟩)
theorem inside_any (n a b:Int) (w:World) :
  Calls Tryz.prog 185 #[.int .i64 n,.agg #[.int .i64 a,.int .i64 b]] w fun e w'=>e= .returned (.bool (R.within n a b))∧Ext w w':=by
 go_enter Tryz.func185,Tryz.ntmps185
 go_wp2_with (first|(go_at_call 106;refine(in_any _ _ _ _).mono ?_;rintro e w' ⟨rfl,rfl⟩))
 all_goals(go_ret;exact⟨rfl,(Ext.refl _).alloc _⟩)
def placeB' (p:R.Place) (i n:Int):Bool :=
 !(decide (p.into≠ -1)&&(!R.within p.into 0 (n - 1)||decide (p.into=i))) &&
 (R.within p.count 0 1000000&&R.within p.room 0 1000000&&R.within p.goal 0 1000000&&R.spanB p.gl p.gh 2000&&R.within p.drift 0 1000&&R.spanB p.ol p.oh 1000000&&R.spanB p.sl p.sh 1000000&&decide (p.sl≤p.ol)&&decide (p.sh≤p.oh)&&R.within p.worth 0 1000000)
theorem placeB'_eq (p:R.Place) (i n:Int) (hi:0≤i) (hn:0≤n):placeB' p i n=R.placeB p i n:=by
 unfold placeB' R.placeB
 rw[Qa]
 simp only[Bool.and_eq_true,Bool.not_eq_true',Bool.and_eq_false_imp,Bool.or_eq_false_iff,decide_eq_true_eq,decide_eq_false_iff_not,R.within,Bool.not_eq_false',ne_eq]
 constructor
 ·rintro⟨h1,⟨⟨⟨⟨⟨⟨⟨⟨⟨h2,h3⟩,h4⟩,h5⟩,h6⟩,h7⟩,h8⟩,h9⟩,h10⟩,h11⟩⟩
  refine⟨⟨⟨⟨⟨⟨⟨⟨⟨⟨⟨h2,h3⟩,h4⟩,h5⟩,h6⟩,?_⟩,?_⟩,h7⟩,h8⟩,h9⟩,h10⟩,h11⟩<;>by_cases e:p.into= -1
  ·omega
  ·have:=h1 e;omega
  ·omega
  ·exact(h1 e).2
 ·rintro⟨⟨⟨⟨⟨⟨⟨⟨⟨⟨⟨h2,h3⟩,h4⟩,h5⟩,h6⟩,h12⟩,h13⟩,h7⟩,h8⟩,h9⟩,h10⟩,h11⟩
  exact⟨fun e=>⟨by omega,h13⟩,⟨⟨⟨⟨⟨⟨⟨⟨⟨h2,h3⟩,h4⟩,h5⟩,h6⟩,h7⟩,h8⟩,h9⟩,h10⟩,h11⟩⟩
set_option maxRecDepth 100000 in
set_option maxHeartbeats 4000000 in
theorem place_any (p:R.Place) (i n:Int) (hn:0≤n) (hn2:n≤1000000) (w:World) :
  Calls Tryz.prog 224 #[.agg (placeV p),.int .i64 i,.int .i64 n] w fun e w'=>e= .returned (.bool (placeB' p i n))∧Ext w w':=by
 go_enter Tryz.func224,Tryz.ntmps224
 go_wp2_with (first|(go_at_call 106;refine(in_any _ _ _ _).mono ?_;rintro e w' ⟨rfl,rfl⟩)|(go_at_call 249;refine(span_any _ _ _ _).mono ?_;rintro e w' ⟨rfl,hb⟩;have hc:=hb.cells.1;have hz:=hb.size;(try simp only[World.size_alloc,size_drew,size_drewN,size_setCell]at hz);have hs0:w.heap.size<w'.heap.size:=(by omega)))
 all_goals(go_ret;refine⟨ret_bool (by first|(simp[placeB', *];done)|(simp[placeB', *];(try intros);omega)|(simp_all[placeB'];done)|(simp_all[placeB'];omega)),?_⟩)
 all_goals(with_reducible(repeat(first|exact Ext.refl _|assumption|apply Ext.alloc|apply Ext.drew|exact ext_plus _ _|(apply Ext.setCell;rotate_left;(simp<;>omega))|(apply Ext.trans;rotate_left;exact ext_plus _ _)|(apply Ext.trans;rotate_left;assumption))))
end Go.Proofs.YtgloajbgphcloaaGreat.Rf
namespace Go.Proofs.YtgloajbgphcloaaGreat.Rf
set_option linter.unusedVariables false
set_option linter.unusedSimpArgs false
open Go.RowKit
open Ext renaming refl → Qc, setCell → Qd, trans → Qe
open Lib renaming hid → Qb
set_option maxRecDepth 100000 in
set_option maxHeartbeats 4000000 in
theorem valid_any (r:R.Reef) (vp:Value) (w:World) (hP:Places w vp r.places) (hn:r.places.length≤1000000) :
  Calls Tryz.prog 175 #[.agg (reefV r vp)] w fun e w'=>e= .returned (.bool (R.reefB r))∧Ext w w':=by
 obtain⟨a,cap,rfl,hx⟩:=hP
 have hx':=Qb hx
 clear hx
 go_enter Tryz.func175,Tryz.ntmps175
 go_wp2
 have hb0:Blk (w.alloc (.cells #[.slice a r.places.length cap,.int .i64 r.miss,.int .i64 r.seasons] 111)) w.heap.size #[.slice a r.places.length cap,.int .i64 r.miss,.int .i64 r.seasons] 111:=Blk.new' rfl _ _
 have hE0:Ext w (w.alloc (.cells #[.slice a r.places.length cap,.int .i64 r.miss,.int .i64 r.seasons] 111)):=(Qc _).alloc _
 obtain⟨w1,hw1⟩:∃w1,w.alloc (.cells #[.slice a r.places.length cap,.int .i64 r.miss,.int .i64 r.seasons] 111)=w1:=⟨_,rfl⟩
 rw[hw1]at hb0 hE0 ⊢
 clear hw1
 go_loopw [3,4,8] (fun _ _ i wr=>∃k:Nat,k≤r.places.length∧i= .int .i64 k∧R.goodTo r.places k=true∧Ext w1 wr) (fun _ _ i _=>r.places.length - (intOf i).toNat)
 case atStart=>exact⟨0,Nat.zero_le _,rfl,rfl,Qc _⟩
 case round =>
  rename World=>wr
  obtain⟨k,hk,rfl,hgood,hE⟩:=hrel
  have HG:=Qb hgood
  clear hgood
  have hbr:=hb0.ext hE
  have hbc:=hbr.cell
  have hbl:=hbr.lt
  by_cases hlt:k<r.places.length
  ·obtain⟨b,off,rfl,hb,hAt⟩:=hx'.out k hlt
   have hAt2:=ate_stays _ _ _ _ _ _ (hE0.trans hE) hb hAt
   obtain⟨h0,h1,h2,h3,h4,h5,h6,h7,h8,h9,h10,h11⟩:=place_cells hAt2
   have hpat:R.pat r.places k=r.places[k]:=by simp[R.pat,hlt]
   have HPA:=Qb hpat
   clear hAt hAt2 hpat
   obtain⟨p,hp⟩:∃p,r.places[k]=p:=⟨_,rfl⟩
   rw[hp]at h0 h1 h2 h3 h4 h5 h6 h7 h8 h9 h10 h11 HPA
   clear hp
   have hpl:=fun w'=>place_any p (k:Int) (r.places.length:Int) (by omega) (by omega) w'
   have e:R.goodTo r.places (k+1)=placeB' p k r.places.length:=by
    rw[R.goodTo_succ,HG.out,HPA.out,placeB'_eq _ _ _ (by omega) (by omega)];rfl
   have HE:=Qb e
   clear e
   obtain⟨B,hB⟩:∃B,placeB' p k r.places.length=B:=⟨_,rfl⟩
   rw[hB]at HE
   simp only[hB]at hpl
   have HPL:=Qb hpl
   clear hpl hB
   cases B with
   | true =>
    go_wp2_with (first|(go_at_call 224;refine(HPL.out _).mono ?_;rintro e w' ⟨rfl,hE'⟩))
    go_roundw
    case rel=>exact⟨k+1,by omega,by go_num,HE.out,by(with_reducible(repeat(first|exact Qc _|assumption|apply Ext.alloc|apply Ext.drew|exact ext_plus _ _|(apply Qd;rotate_left;(simp<;>omega))|(apply Qe;rotate_left;exact ext_plus _ _)|(apply Qe;rotate_left;assumption))))⟩
    case measure=>simp[intOf];omega
   | false =>
    go_wp2_with (first|(go_at_call 224;refine(HPL.out _).mono ?_;rintro e w' ⟨rfl,hE'⟩))
    go_ret
    refine⟨ret_bool ?_,by(with_reducible(repeat(first|exact Qc _|assumption|apply Ext.alloc|apply Ext.drew|exact ext_plus _ _|(apply Qd;rotate_left;(simp<;>omega))|(apply Qe;rotate_left;exact ext_plus _ _)|(apply Qe;rotate_left;assumption))))⟩
    have h:=HE.out
    have hle:k+1≤r.places.length:=hlt
    unfold R.reefB
    have:R.goodTo r.places r.places.length=false:=by
     rw[Bool.eq_false_iff]
     intro hh
     unfold R.goodTo at h hh
     rw[List.all_eq_true]at hh
     rw[Bool.eq_false_iff]at h
     exact h (List.all_eq_true.2 fun i hi=>hh i (by simp at hi ⊢;omega))
    rw[this];rfl
  ·obtain rfl:k=r.places.length:=by omega
   go_wp2_with (first|(go_at_call 106;refine(in_any _ _ _ _).mono ?_;rintro e w' ⟨rfl,rfl⟩))
   all_goals(go_ret;refine⟨ret_bool ?_,by(with_reducible(repeat(first|exact Qc _|assumption|apply Ext.alloc|apply Ext.drew|exact ext_plus _ _|(apply Qd;rotate_left;(simp<;>omega))|(apply Qe;rotate_left;exact ext_plus _ _)|(apply Qe;rotate_left;assumption))))⟩;unfold R.reefB;rw[HG.out];simp[*])
end Go.Proofs.YtgloajbgphcloaaGreat.Rf
namespace Go.Proofs.YtgloajbgphcloaaGreat.Rf
set_option linter.unusedVariables false
set_option linter.unusedSimpArgs false
open Go.RowKit
open Ext renaming alloc → Qf, drew → Qg, refl → Qc, setCell → Qd, trans → Qe
open Lib renaming hid → Qb
theorem pow_bd {n:Nat} (hn:n≤8):1≤(2:Int)^n∧(2:Int)^n≤256:=by
 have:n=0∨n=1∨n=2∨n=3∨n=4∨n=5∨n=6∨n=7∨n=8:=by omega
 rcases this with rfl|rfl|rfl|rfl|rfl|rfl|rfl|rfl|rfl<;>decide
theorem planbad (x:Int) (n:Nat) (hn:n≤8) (bs:Nat) (ap:Option Addr) (cp:Nat) (w:World) (hc:w.cell? ⟨bs,0,none⟩=some (.slice ap n cp)) :
  Calls Tryz.prog 176 #[.int .i64 x,.pointer (some ⟨bs,0,none⟩)] w fun e w'=>e= .returned (.bool (!R.within x 0 (2^n - 1)))∧w=w':=by
 have hp:=pow_bd hn
 go_enter Tryz.func176,Tryz.ntmps176
 go_wp2_with (first|(go_at_call 106;refine(in_any _ _ _ _).mono ?_;rintro e w' ⟨rfl,rfl⟩))
 go_ret
 exact⟨rfl,rfl⟩
def badPlan (n:Nat) (xs:List Int):Bool:=xs.any (fun p=> !R.within p 0 (2^n - 1))
theorem idx_plan (xs:List Int) (v:Value) (w:World) (hl:xs.length≤1000000) (hv:Ints w v xs) (n:Nat) (hn:n≤8) (bs:Nat) (ap:Option Addr) (cp:Nat) (hcb:w.cell? ⟨bs,0,none⟩=some (.slice ap n cp)) :
  Calls Tryz.prog 203 #[v,.func (.func 176) #[] #[.pointer (some ⟨bs,0,none⟩)]] w fun e w'=>∃k:Int,e= .returned (.int .i64 k)∧decide (0≤k)=badPlan n xs∧w=w':=by
 obtain⟨a,cap,rfl,hx⟩:=hv
 have hx':=Qb hx
 clear hx
 go_enter Tryz.func203,Tryz.ntmps203
 go_wp2
 go_loop [4,5,8] (fun _ _ i=>∃k:Nat,k≤xs.length∧i= .int .i64 k∧badPlan n (xs.take k)=false) (fun _ _ i=>xs.length - (intOf i).toNat)
 case atStart=>exact⟨0,Nat.zero_le _,rfl,by simp[badPlan]⟩
 case round =>
  obtain⟨k,hk,rfl,hany⟩:=hrel
  have hany':=Qb hany
  clear hany
  by_cases hlt:k<xs.length
  ·obtain⟨b,off,rfl,hb,h0⟩:=hx'.out k hlt
   go_wp2_with fail
   refine(planbad _ n hn bs ap cp _ hcb).mono ?_
   rintro e w' ⟨rfl,rfl⟩
   by_cases hg:R.within xs[k] 0 (2^n - 1)=true
   ·have hg':(!R.within xs[k] 0 (2^n - 1))=false:=by simp[hg]
    have hany:=hany'.out
    have hg'':=Qb hg
    rw[hg']
    clear hg hg' hany
    go_wp2
    go_round
    case rel=>exact⟨k+1,by omega,by go_num,by unfold badPlan;rw[List.take_succ_eq_append_getElem hlt,List.any_append];have h1:=hany'.out;unfold badPlan at h1;rw[h1];simp[hg''.out]⟩
    case measure=>simp[intOf];omega
   ·have hg':(!R.within xs[k] 0 (2^n - 1))=true:=by simp[hg]
    rw[hg']
    have hg'':=Qb hg'
    clear hg hg'
    go_wp2
    go_ret
    exact⟨_,rfl,by unfold badPlan;rw[eq_comm,List.any_eq_true.2 ⟨xs[k],List.getElem_mem hlt,hg''.out⟩];simp,rfl⟩
  ·go_wp2
   go_ret
   obtain rfl:k=xs.length:=by omega
   exact⟨_,rfl,by have h1:=hany'.out;rw[List.take_length]at h1;rw[h1];rfl,rfl⟩
theorem has_plan (xs:List Int) (v:Value) (w:World) (hl:xs.length≤1000000) (hv:Ints w v xs) (n:Nat) (hn:n≤8) (bs:Nat) (ap:Option Addr) (cp:Nat) (hcb:w.cell? ⟨bs,0,none⟩=some (.slice ap n cp)) :
  Calls Tryz.prog 137 #[v,.func (.func 176) #[] #[.pointer (some ⟨bs,0,none⟩)]] w fun e w'=>e= .returned (.bool (badPlan n xs))∧w=w':=by
 go_enter Tryz.func137,Tryz.ntmps137
 go_wp2_with fail
 refine(idx_plan xs v w hl hv n hn bs ap cp hcb).mono ?_
 rintro e w' ⟨n,rfl,hn,rfl⟩
 have hn':=Qb hn
 clear hn
 go_wp2
 go_ret
 exact⟨ret_bool hn'.out,rfl⟩
theorem goodTo_all {r:R.Reef} (h:R.reefB r=true):1≤r.places.length∧r.places.length≤4∧0≤r.miss∧r.miss≤2000∧1≤r.seasons∧r.seasons≤4:=by
 unfold R.reefB R.within at h
 simp only[Bool.and_eq_true,decide_eq_true_eq]at h
 omega
def rightB (r:R.Reef) (plan:List Int):Bool:=R.reefB r&&R.planB r plan
theorem right_any (r:R.Reef) (plan:List Int) (vp vl:Value) (w:World) (hP:Places w vp r.places) (hL:Ints w vl plan) (hn:r.places.length≤1000000) (hm:plan.length≤1000000) :
  Calls Tryz.prog 105 #[.agg (planV r vp vl)] w fun e w'=>e= .returned (.bool (rightB r plan))∧Ext w w':=by
 have hP':=hP
 obtain⟨a,cap,rfl,_⟩:=hP'
 have hL':=hL
 obtain⟨a2,cap2,rfl,_⟩:=hL'
 have hva:=fun w' (hx:Ext w w')=>valid_any r _ w' (hP.ext hx) hn
 obtain⟨B,hB⟩:∃B,R.reefB r=B:=⟨_,rfl⟩
 simp only[hB]at hva
 have HV:=Qb hva
 clear hva
 cases B with
 | false =>
  have HB:=Qb hB
  clear hB
  go_enter Tryz.func105,Tryz.ntmps105
  go_wp2_with (first|(go_at_call 175;refine(HV.out _ (by(with_reducible(repeat(first|exact Qc _|assumption|apply Qf|apply Qg|exact ext_plus _ _|(apply Qd;rotate_left;(simp<;>omega))|(apply Qe;rotate_left;exact ext_plus _ _)|(apply Qe;rotate_left;assumption)))))).mono ?_;rintro e w' ⟨rfl,hb⟩))
  all_goals(go_ret;refine⟨ret_bool (by unfold rightB;rw[HB.out];rfl),by(with_reducible(repeat(first|exact Qc _|assumption|apply Qf|apply Qg|exact ext_plus _ _|(apply Qd;rotate_left;(simp<;>omega))|(apply Qe;rotate_left;exact ext_plus _ _)|(apply Qe;rotate_left;assumption))))⟩)
 | true =>
  have hg:=goodTo_all hB
  have HB:=Qb hB
  clear hB
  by_cases hsz:(plan.length:Int)=r.seasons
  ·go_enter Tryz.func105,Tryz.ntmps105
   go_wp2_with (first|(go_at_call 175;refine(HV.out _ (by(with_reducible(repeat(first|exact Qc _|assumption|apply Qf|apply Qg|exact ext_plus _ _|(apply Qd;rotate_left;(simp<;>omega))|(apply Qe;rotate_left;exact ext_plus _ _)|(apply Qe;rotate_left;assumption)))))).mono ?_;rintro e w' ⟨rfl,hb⟩;have hc:=hb.cells.1;have hz:=hb.size;(try simp only[World.size_alloc,size_drew,size_drewN,size_setCell]at hz);have hs0:w.heap.size<w'.heap.size:=(by omega))|(go_at_call 137;refine(has_plan plan _ _ hm (hL.ext (by(with_reducible(repeat(first|exact Qc _|assumption|apply Qf|apply Qg|exact ext_plus _ _|(apply Qd;rotate_left;(simp<;>omega))|(apply Qe;rotate_left;exact ext_plus _ _)|(apply Qe;rotate_left;assumption)))))) r.places.length (by omega) w.heap.size a cap (by have h:=(Blk.ext (Blk.new' (w:=w) rfl (planV r (.slice a r.places.length cap) (.slice a2 plan.length cap2)) 227) hb).cell 0;exact h)).mono ?_;rintro e w' ⟨rfl,rfl⟩))
   all_goals(go_ret;refine⟨ret_bool ?_,by(with_reducible(repeat(first|exact Qc _|assumption|apply Qf|apply Qg|exact ext_plus _ _|(apply Qd;rotate_left;(simp<;>omega))|(apply Qe;rotate_left;exact ext_plus _ _)|(apply Qe;rotate_left;assumption))))⟩;unfold rightB R.planB R.sets;rw[HB.out,decide_eq_true hsz,Bool.true_and,Bool.and_true];unfold badPlan at *)
   all_goals(rw[List.any_eq_not_all_not];simp)
  ·go_enter Tryz.func105,Tryz.ntmps105
   go_wp2_with (first|(go_at_call 175;refine(HV.out _ (by(with_reducible(repeat(first|exact Qc _|assumption|apply Qf|apply Qg|exact ext_plus _ _|(apply Qd;rotate_left;(simp<;>omega))|(apply Qe;rotate_left;exact ext_plus _ _)|(apply Qe;rotate_left;assumption)))))).mono ?_;rintro e w' ⟨rfl,hb⟩;have hc:=hb.cells.1;have hz:=hb.size;(try simp only[World.size_alloc,size_drew,size_drewN,size_setCell]at hz);have hs0:w.heap.size<w'.heap.size:=(by omega)))
   all_goals(go_ret;refine⟨ret_bool ?_,by(with_reducible(repeat(first|exact Qc _|assumption|apply Qf|apply Qg|exact ext_plus _ _|(apply Qd;rotate_left;(simp<;>omega))|(apply Qe;rotate_left;exact ext_plus _ _)|(apply Qe;rotate_left;assumption))))⟩;unfold rightB R.planB;rw[decide_eq_false hsz,Bool.and_false,Bool.and_false])
theorem starts_any (r:R.Reef) (p:R.Place) (vp vl:Value) (w:World) (h0:0≤p.count) (h1:p.count≤1000000) (h2:0≤r.miss) (h3:r.miss≤2000) :
  Calls Tryz.prog 186 #[.agg (planV r vp vl),.agg (placeV p)] w fun e w'=>e= .returned (.agg #[.int .i64 p.count,.int .i64 (R.most r p.count)])∧Ext w w':=by
 have hm:0≤p.count*r.miss∧p.count*r.miss≤2000000000:=⟨Int.mul_nonneg h0 h2,by have:=Int.mul_le_mul h1 h3 h2 (by omega);omega⟩
 have hw:IntKind.wrap .i64 (p.count*r.miss)=p.count*r.miss:=IntWalk.i64_in _ (by omega)
 obtain⟨c,hc⟩:∃c,R.most r p.count=c:=⟨_,rfl⟩
 have hc':p.count+p.count*r.miss/1000=c:=hc
 rw[hc]
 obtain⟨M,hM⟩:∃M,p.count*r.miss=M:=⟨_,rfl⟩
 rw[hM]at hm hw hc'
 go_enter Tryz.func186,Tryz.ntmps186
 go_wp2
 exact bodyPost_ret (v:= .agg #[.int .i64 p.count,.int .i64 c]) (by simp[results,Tryz.results186,go_sem, *]) rfl ⟨rfl,by(with_reducible(repeat(first|exact Qc _|assumption|apply Qf|apply Qg|exact ext_plus _ _|(apply Qd;rotate_left;(simp<;>omega))|(apply Qe;rotate_left;exact ext_plus _ _)|(apply Qe;rotate_left;assumption))))⟩
end Go.Proofs.YtgloajbgphcloaaGreat.Rf
