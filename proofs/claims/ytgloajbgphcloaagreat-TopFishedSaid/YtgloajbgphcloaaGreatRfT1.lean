/- What people would take in a season, and what a plan costs. What people would take in a season: the walk. What a call leaves that writes two blocks of the caller's alone. -/
import Derived.Test.YtgloajbgphcloaaGreatCo
import Derived.Test.YtgloajbgphcloaaGreatRg
import Derived.Test.YtgloajbgphcloaaGreatRfIt
import Derived.Test.YtgloajbgphcloaaGreatRfRw
import Derived.Test.YtgloajbgphcloaaGreatDr
namespace Go.Proofs.YtgloajbgphcloaaGreat.Rf
set_option linter.unusedVariables false
set_option linter.unusedSimpArgs false
open Go.RowKit Go.Shelf
attribute [local go_sem] Oper.semAt_some
def takeL (ps:List R.Place) (cl:List Nat):List (Int×Int):=(List.range ps.length).map fun i=>R.take (R.pat ps i) (cl.contains i)
def takesOf (r:R.Reef) (plan:List Int) (s:Nat):List (Int×Int):=(List.range r.places.length).map fun i=>R.take (R.pat r.places i) (R.has (R.iat plan s) i)
theorem closed_mem (set:Int) (n i:Nat) (hi:i<n):(closedTo set n).contains i=R.has set i:=by
 unfold closedTo
 rw[Bool.eq_iff_iff,List.contains_iff_mem,List.mem_filter,List.mem_range]
 simp[hi]
theorem takeL_closed (r:R.Reef) (plan:List Int) (s:Nat) (hs:s<plan.length):takeL r.places (closedTo plan[s] r.places.length)=takesOf r plan s:=by
 unfold takeL takesOf
 apply List.map_congr_left
 intro i hi
 rw[closed_mem _ _ _ (List.mem_range.1 hi)]
 have:R.iat plan s=plan[s]:=by simp[R.iat,hs]
 rw[this]
theorem takeL_nil (ps:List R.Place):takeL ps []=ps.map fun p=>(p.ol,p.oh):=by
 apply List.ext_getElem
 ·simp[takeL]
 ·intro i h1 h2
  have hi:i<ps.length:=by simpa using h2
  simp[takeL,R.take,R.pat,hi]
theorem takeL_snoc (ps:List R.Place) (cl:List Nat) (i:Nat) (hi:i<ps.length):takeL ps (cl++[i])=(takeL ps cl).set i (ps[i].sl,ps[i].sh):=by
 apply List.ext_getElem
 ·simp[takeL]
 ·intro j h1 h2
  have hj:j<ps.length:=by simpa[takeL]using h1
  rw[List.getElem_set]
  by_cases e:i=j
  ·subst e;simp[takeL,R.take,R.pat,hj]
  ·rw[if_neg e]
   have:(cl++[i]).contains j=cl.contains j:=by
    rw[Bool.eq_iff_iff];simp[Ne.symm e]
   simp only[takeL,List.getElem_map,List.getElem_range,this]
theorem takeL_len (ps:List R.Place) (cl:List Nat):(takeL ps cl).length=ps.length:=by simp[takeL]
theorem _root_.Go.Proofs.YtgloajbgphcloaaGreat.RowB.set_span {w:World} {g:Nat} {xs:List (Int×Int)} (h:RowB spanC 2 25 w g xs) (i:Nat) (x:Int×Int) :
  RowB spanC 2 25 ((w.setCell ⟨g,i*2,none⟩ (.int .i64 x.1)).setCell ⟨g,i*2+1,none⟩ (.int .i64 x.2)) g (xs.set i x):=by
 obtain⟨cs,hB,hc⟩:=h
 refine⟨_,(hB.set _ _).set _ _,fun k hk j u hu=> ?_⟩
 have hk':k<xs.length:=by simpa using hk
 rw[List.getElem_set]at hu
 have h0:=hc k hk' 0 _ rfl
 have h1:=hc k hk' 1 _ rfl
 simp only[Nat.add_zero]at h0
 obtain⟨z0,_⟩:=Array.getElem?_eq_some_iff.1 h0
 obtain⟨z1,_⟩:=Array.getElem?_eq_some_iff.1 h1
 by_cases e:i=k
 ·subst e
  rw[if_pos rfl]at hu
  match j,hu with
  | 0,hu=>simp[spanC]at hu;simp[Array.getElem?_setIfInBounds,z0,hu]
  | 1,hu=>simp[spanC]at hu;simp[Array.getElem?_setIfInBounds,z1,hu]
  | j+2,hu=>simp[spanC]at hu
 ·rw[if_neg e]at hu
  have h2:=hc k hk' j u hu
  have hj:j<2:=(List.getElem?_eq_some_iff.1 hu).1
  rw[Array.getElem?_setIfInBounds,if_neg (by omega),Array.getElem?_setIfInBounds,if_neg (by omega)]
  exact h2
end Go.Proofs.YtgloajbgphcloaaGreat.Rf
namespace Go.Proofs.YtgloajbgphcloaaGreat.Rf
set_option linter.unusedVariables false
set_option linter.unusedSimpArgs false
open Go.RowKit Go.Shelf
open Ext renaming alloc → Qb, drew → Qc, refl → Qa, setCell → Qd, trans → Qe
open KeepsOthers renaming setCell → Qg
open Nat renaming lt_of_lt_of_le → Qf
attribute [local go_sem] Oper.semAt_some
theorem own_other {w:World} {base:Nat} {e:TypeId} {s:Nat} {v:Value} {n:Nat} {xs:List Value} (h:w.ownsRow base e s v n xs) {a:Addr} (ha:a.block<base) (u:Value):(w.setCell a u).ownsRow base e s v n xs:=by
 refine⟨h.1,?_⟩
 rcases h.2 with h0|⟨g,cap,cur,hv,hb,hg,hr⟩
 ·exact .inl h0
 ·exact .inr ⟨g,cap,cur,hv,hb,(Below.heap_setCell _ _ _ _ (by omega)).trans hg,hr⟩
def openS (p:R.Place):Int×Int:=(p.ol,p.oh)
set_option maxRecDepth 100000 in
set_option maxHeartbeats 4000000 in
theorem takes_any (r:R.Reef) (plan:List Int) (s:Nat) (hs:s<plan.length) (hpl:0≤plan[s]) (hpl2:plan[s]≤1000000) (hn:r.places.length≤60) (hn1:1≤r.places.length) (vp vl:Value) (w:World) (hP:Places w vp r.places) (hL:Ints w vl plan) :
  Calls Tryz.prog 187 #[.agg (planV r vp vl),.int .i64 s] w fun e w'=>∃v,e= .returned v∧Spans w' v (takesOf r plan s)∧Ext w w':=by
 have hP':=hP
 obtain⟨a1,c1,rfl,hx1⟩:=hP'
 have hL':=hL
 obtain⟨a2,c2,rfl,_⟩:=hL'
 obtain⟨i0,hi,hz0,hz1,hz2⟩:=info_parts span_info
 have HX:=Lib.hid hx1
 clear hx1
 refine(callsIn_wide (n:=5)).1 ?_
 refine callsIn_of_wp_marks Tryz.func187 rfl trivial ?_ rfl
 simp only[Tryz.ntmps187,List.size_toArray,List.length_cons,List.length_nil,Nat.reduceAdd,Nat.reduceSub,Array.replicate_succ,Array.replicate_zero,List.push_toArray,List.append_toArray,List.nil_append,List.cons_append]
 refine wpIn_wide.2 ?_
 go_wp2
 obtain⟨w1,hw1⟩:∃w1,(w.alloc (.cells (planV r (.slice a1 r.places.length c1) (.slice a2 plan.length c2)) 227)).alloc (.cells #[.slice none 0 0] 31)=w1:=⟨_,rfl⟩
 have hbx:Blk w1 w.heap.size (planV r (.slice a1 r.places.length c1) (.slice a2 plan.length c2)) 227:=by rw[← hw1];exact(Blk.new' rfl _ _).alloc _
 have hbo:Blk w1 (w.heap.size+1) #[.slice none 0 0] 31:=by rw[← hw1];exact Blk.new' (by simp) _ _
 have hE1:Ext w w1:=by rw[← hw1];(with_reducible(repeat(first|exact Qa _|assumption|apply Qb|apply Qc|exact ext_plus _ _|(apply Qd;rotate_left;(simp<;>omega))|(apply Qe;rotate_left;exact ext_plus _ _)|(apply Qe;rotate_left;assumption))))
 have hz1w:w1.heap.size=w.heap.size+2:=by rw[← hw1];simp
 rw[hw1]
 clear hw1
 go_loopw [7,13] (fun _ i wr=>∃(k:Nat) (v:Value),k≤r.places.length∧i= .int .i64 k∧wr.ownsRow (w.heap.size+2) 25 2 v k (preS spanC (r.places.map openS) k)∧Blk wr (w.heap.size+1) #[v] 31∧Blk wr w.heap.size (planV r (.slice a1 r.places.length c1) (.slice a2 plan.length c2)) 227∧Ext w wr∧w.heap.size+2≤wr.heap.size)
  (fun _ i _=>r.places.length - (intOf i).toNat)
 case atStart=>exact⟨0,_,Nat.zero_le _,rfl,World.ownsRow_nil _ _ _ _,hbo,hbx,hE1,by omega⟩
 case round =>
  rename World=>wr
  obtain⟨k,v,hk,rfl,hown,hBo,hBx,hE,hsz⟩:=hrel
  have c0:=hBo.cell
  have c1':=hBo.free
  have c2':=hBo.lt
  have d0:=hBx.cell
  have d2:=hBx.lt
  by_cases hlt:k<r.places.length
  ·obtain⟨b,off,rfl,hb,hAt⟩:=HX.out k hlt
   have hAt2:=ate_stays _ _ _ _ _ _ hE hb hAt
   obtain⟨h0,h1,h2,h3,h4,h5,h6,h7,h8,h9,h10,h11⟩:=place_cells hAt2
   have hsp:(r.places.map openS)[k]'(by simpa using hlt)=((r.places[k]).ol,(r.places[k]).oh):=by simp[openS]
   have hpre:=preS_succ spanC (r.places.map openS) (k:=k) (by simpa using hlt)
   rw[hsp]at hpre
   have HPRE:=Lib.hid hpre
   clear hAt hAt2 hsp hpre
   obtain⟨p,hp⟩:∃p,r.places[k]=p:=⟨_,rfl⟩
   rw[hp]at h0 h1 h2 h3 h4 h5 h6 h7 h8 h9 h10 h11 HPRE
   clear hp
   go_wp2_with (first|(at_builtin;refine wpList_append_own _ rfl _ _ 31 rfl (w.heap.size+2) 25 i0 (.agg #[.int .i64 0,.int .i64 0]) 2 16 Tryz.underlying31 hi hz0 hz1 hz2 rfl (by decide) _ _ _ rfl ((own_ext hown (by(with_reducible(repeat(first|exact Qa _|assumption|apply Qb|apply Qc|exact ext_plus _ _|(apply Qd;rotate_left;(simp<;>omega))|(apply Qe;rotate_left;exact ext_plus _ _)|(apply Qe;rotate_left;assumption)))))).alloc _) ⟨(wr.heap.size+1),0,none⟩ 1 1 [.int .i64 p.ol,.int .i64 p.oh] rfl rfl (cell_two _ _ _ _ (by simp)) (two_ints _ _) (by unfold maxLen;omega) (by omega) (by simp<;>omega) ?_;intro v' w1 hown' hgrow _;obtain⟨g',cap',rfl⟩:=own_succ hown';have hB1:=Blk.grown (hBo.ext (by(with_reducible(repeat(first|exact Qa _|assumption|apply Qb|apply Qc|exact ext_plus _ _|(apply Qd;rotate_left;(simp<;>omega))|(apply Qe;rotate_left;exact ext_plus _ _)|(apply Qe;rotate_left;assumption)))))) hgrow (own_base hown) (by omega);have hX1:=Blk.grown (hBx.ext (by(with_reducible(repeat(first|exact Qa _|assumption|apply Qb|apply Qc|exact ext_plus _ _|(apply Qd;rotate_left;(simp<;>omega))|(apply Qe;rotate_left;exact ext_plus _ _)|(apply Qe;rotate_left;assumption)))))) hgrow (own_base hown) (by omega);have e0:=hB1.cell;have e1:=hB1.free;have e2:=hB1.lt;have hEg:Ext w w1:=Ext.grown (by(with_reducible(repeat(first|exact Qa _|assumption|apply Qb|apply Qc|exact ext_plus _ _|(apply Qd;rotate_left;(simp<;>omega))|(apply Qe;rotate_left;exact ext_plus _ _)|(apply Qe;rotate_left;assumption))))) hgrow (fun k e=>by have:=own_base hown k e;omega)))
   refine⟨⟨k+1,_,by omega,by go_num,?_,hB1.set 0 _,hX1.other (by simp) _,hEg.setCell (by simp) _,by simp[size_setCell];omega⟩,by simp[intOf];omega⟩
   rw[HPRE.out]
   exact own_other hown' (by simp) _
  ·obtain rfl:k=r.places.length:=by omega
   obtain⟨g,cap,rfl,hgb,hgl⟩:=own_pos hown (by omega)
   go_wp2_with (first|(go_at_call 227;refine(closed_any r _ _ _ _).mono ?_;rintro e w2 ⟨rfl,hb1,hb2,hb⟩))
   have hEw:Ext w w2:=hE.trans hb
   have hrow:RowB spanC 2 25 w2 g (takeL r.places ((([]:List (Num r.places.length)).map Subtype.val))):=by
    refine RowB.ext ?_ hb
    have e:takeL r.places ((([]:List (Num r.places.length)).map Subtype.val))=r.places.map openS:=takeL_nil _
    rw[e]
    have h:=hown
    have e2:preS spanC (r.places.map openS) r.places.length=(r.places.map openS).flatMap spanC:=by
     have:=preS_all spanC (r.places.map openS);rwa[List.length_map]at this
    rw[e2]at h
    exact RowB.of_own (f:=spanC) spanC_len (by rw[List.length_map];exact h)
   have hBo2:=hBo.ext hb
   have hBx2:=hBx.ext hb
   have hgl2:g<w2.heap.size:=Qf hgl hb.size
   clear hown c0 c1' c2' d0 d2
   refine(wpIn_wide (n:=5)).1 ?_
   refine' wpIn_rangeFunc_ownF rfl (by omega) (gf:=256) (lb:=_) rfl trivial (enters_of Tryz.func256 (by kernel_rfl) rfl)
    (closed_stops r plan s hs hpl hpl2 hn _ _ w w2 hEw hP hL _ _ 4 (by omega) hb1 hb2) Keep.trans (Keep.rec_ hEw.size hb1.lt hb2.lt) (Below.refl _ _) (fun _=>rfl)
    (fun pre Y=>(RowB spanC 2 25 Y g (takeL r.places (pre.map Subtype.val))∧Blk Y (w.heap.size+1) #[.slice (some ⟨g,0,none⟩) r.places.length cap] 31∧Blk Y w.heap.size (planV r (.slice a1 r.places.length c1) (.slice a2 plan.length c2)) 227)∧Below w.heap.size w2 Y)
    (fun _ _ _=>False)
    ?own (fun _ _ _ _ _ hs _ _=>hs) ⟨⟨hrow,hBo2,hBx2⟩,Below.refl _ _⟩ _ ?assign ?body ?done ?stop
   case own =>
    exact OwnFrom.and (Own.from (fun p A B row hs hg hr=>⟨hs.1.kept hg hr,hs.2.1.kept hg hr,hs.2.2.kept hg hr⟩) _) (ownFrom_below hEw.size hEw.size)
   case assign =>
    intro l x Y K hK
    simp only[encN]
    gi_wp2
    exact hK
   case body =>
    rintro l pre x Y ⟨⟨hg1,ho1,hx1⟩,hBY⟩ hlen
    have hEY:Ext w Y:=Below.trans hEw hBY
    have hY2:=Below.size hBY
    have hz2:=hb2.lt
    have hx:=x.2
    obtain⟨b,off,rfl,hb,hAt⟩:=HX.out x.1 hx
    have hAt2:=ate_stays _ _ _ _ _ _ hEY hb hAt
    obtain⟨h0,h1,h2,h3,h4,h5,h6,h7,h8,h9,h10,h11⟩:=place_cells hAt2
    have hbY:b<Y.heap.size:=Qf hb hEY.size
    have hlt:x.1<(takeL r.places (pre.map Subtype.val)).length:=by rw[takeL_len];exact hx
    have hcg0:=hg1.cell x.1 hlt 0 _ rfl
    have hcg1:=hg1.cell x.1 hlt 1 _ rfl
    simp only[Nat.add_zero]at hcg0
    have hfg:=hg1.free
    have hgl1:=hg1.lt
    have hco:=ho1.cell
    have hfo:=ho1.free
    have hol:=ho1.lt
    have hxc:=hx1.cell
    have hxl:=hx1.lt
    clear hAt hAt2
    obtain⟨p,hp⟩:∃p,r.places[x.1]=p:=⟨_,rfl⟩
    rw[hp]at h0 h1 h2 h3 h4 h5 h6 h7 h8 h9 h10 h11
    have HPP:=Lib.hid hp
    clear hp
    gi_wp2
    have hpc:=plus_cell
    refine wpIn_region_ext 10 (fun _ _ d _ _ h=>by cases d<;>exact h) (by rintro⟨_,_,h⟩;first|exact h|exact h.elim) (by kernel_rfl) (by kernel_rfl) (by kernel_rfl) (by kernel_rfl) (by kernel_rfl) ?_
    simp only[List.take_succ_cons,List.take_zero,List.drop_succ_cons,List.drop_zero]
    repeat(any_goals(first|quiet_step(fail)))
    all_goals(refine wpQuiet_nil ?_;intro w' hE')
    have hE1':=hE'.cells.1
    have hE2':=hE'.cells.2
    have hsz':=hE'.size
    go_wp2
    have hgr:RowB spanC 2 25 ((w'.setCell ⟨g,x.1*2,none⟩ (.int .i64 p.sl)).setCell ⟨g,x.1*2+1,none⟩ (.int .i64 p.sh)) g (takeL r.places ((pre++[x]).map Subtype.val)):=by
     have h:=(hg1.ext hE').set_span x.1 (p.sl,p.sh)
     have hsn:=takeL_snoc r.places (pre.map Subtype.val) x.1 hx
     have e:List.map Subtype.val pre++[x.1]=List.map Subtype.val (pre++[x]):=by simp
     rw[e,HPP.out]at hsn
     rw[hsn];exact h
    have hgw:w.heap.size≤g:=by omega
    refine⟨(KeepsOthers.of_grownBy hE'.grownBy (fun j o e=>by cases e)).trans ((Qg _ _ _).trans (Qg _ _ _)),⟨((Below.mono hE' hEY.size).setCell hgw _).setCell hgw _,?_,?_⟩,⟨hgr,((ho1.ext hE').other (by simp;omega) _).other (by simp;omega) _,((hx1.ext hE').other (by simp;omega) _).other (by simp;omega) _⟩,((Below.trans hBY (Below.mono hE' hEY.size)).setCell hgw _).setCell hgw _⟩
    ·rw[Below.heap_setCell _ _ _ _ (by simp;omega),Below.heap_setCell _ _ _ _ (by simp;omega)];exact hE'.block _ (by omega)
    ·rw[Below.heap_setCell _ _ _ _ (by simp;omega),Below.heap_setCell _ _ _ _ (by simp;omega)];exact hE'.block _ (by omega)
   case done =>
    rintro D ys Y hD hS ⟨⟨hg1,ho1,hx1⟩,hBY⟩ hK
    have hEY:Ext w Y:=Below.trans hEw hBY
    have hco:=ho1.cell 0
    have hfo:=ho1.free 0
    have hol1:=ho1.lt
    go_wp2
    refine⟨by simp,.inl ⟨_,_,rfl,run_takeDeferred hK,?_⟩⟩
    refine⟨_,results_tmp rfl _ _ _,_,rfl,?_,?_⟩
    ·have hS':takeL r.places (ys.map Subtype.val)=takesOf r plan s:=by rw[hS];exact takeL_closed r plan s hs
     rw[hS']at hg1
     have h1:RowB spanC 2 25 (Y.putObj D (.deferred none)) g (takesOf r plan s):=hg1.move ((grownBy_putObj' Y D _).block _ hg1.lt (by simp at hD ⊢;omega))
     have h2:=h1.sls cap
     have e:(takesOf r plan s).length=r.places.length:=by simp[takesOf]
     rw[e]at h2
     exact h2
    ·exact Below.trans hEY (belowK_b (w:=w) (Nat.le_refl _) Y D _ _ (by have:=hEw.size;omega) hK rfl rfl)
   case stop =>
    rintro D c pre Y _ _ h _
    exact h.elim
end Go.Proofs.YtgloajbgphcloaaGreat.Rf
namespace Go.Proofs.YtgloajbgphcloaaGreat.Rf
set_option linter.unusedVariables false
set_option linter.unusedSimpArgs false
open Go.RowKit
open Nat renaming lt_of_lt_of_le → Qf
structure Of2 (b g:Nat) (w w':World):Prop where
 os:w'.os=w.os
 tape:w'.tape=w.tape
 output:w'.output=w.output
 size:w.heap.size≤w'.heap.size
 block:∀k,k<w.heap.size→k≠b→k≠g→w'.heap[k]? =w.heap[k]?
theorem Of2.refl (b g:Nat) (w:World):Of2 b g w w:=⟨rfl,rfl,rfl,Nat.le_refl _,fun _ _ _ _=>rfl⟩
theorem Of2.trans {b g:Nat} {x y z:World} (h:Of2 b g x y) (k:Of2 b g y z):Of2 b g x z :=
 ⟨k.os.trans h.os,k.tape.trans h.tape,k.output.trans h.output,Nat.le_trans h.size k.size,fun i hi h1 h2=>(k.block i (Qf hi h.size) h1 h2).trans (h.block i hi h1 h2)⟩
theorem _root_.Go.Proofs.YtgloajbgphcloaaGreat.Ext.of2 {w w':World} (h:Ext w w') (b g:Nat):Of2 b g w w':=⟨h.os,h.tape,h.output,h.size,fun k hk _ _=>h.block k hk⟩
theorem Of2.ext {b g:Nat} {x y z:World} (h:Of2 b g x y) (k:Ext y z):Of2 b g x z:=h.trans (k.of2 b g)
theorem Of2.alloc {b g:Nat} {x y:World} (h:Of2 b g x y) (o:Obj):Of2 b g x (y.alloc o):=h.ext ((Ext.refl y).alloc o)
theorem Of2.drew {b g:Nat} {x y:World} (h:Of2 b g x y):Of2 b g x y.drew:=h.ext ((Ext.refl y).drew)
theorem Of2.set {b g:Nat} {x y:World} (h:Of2 b g x y) {a:Addr} (ha:a.block=b∨a.block=g∨x.heap.size≤a.block) (v:Value):Of2 b g x (y.setCell a v):=by
 refine⟨h.os,h.tape,h.output,by rw[size_setCell];exact h.size,fun i hi h1 h2=> ?_⟩
 rw[Below.heap_setCell _ _ _ _ (by rintro rfl;rcases ha with e|e|e<;>omega)]
 exact h.block i hi h1 h2
theorem Of2.ext0 {b g:Nat} {w0 w w':World} (h:Of2 b g w w') (h0:Ext w0 w) (hb:w0.heap.size≤b) (hg:w0.heap.size≤g):Ext w0 w' :=
 ⟨h.os.trans h0.os,h.tape.trans h0.tape,h.output.trans h0.output,Nat.le_trans h0.size h.size,fun k hk=>(h.block k (Qf hk h0.size) (by omega) (by omega)).trans (h0.block k hk)⟩
theorem _root_.Go.Proofs.YtgloajbgphcloaaGreat.Blk.of2 {b g c:Nat} {w w':World} {cs:Array Value} {e:TypeId} (h:Blk w c cs e) (ho:Of2 b g w w') (h1:c≠b) (h2:c≠g):Blk w' c cs e:=(ho.block c h.lt h1 h2).trans h
theorem sum_any (v:Value) (xs:List Int) (w:World) (hv:Ints w v xs) (hn:xs.length≤1000000) (hb:∀k,k≤xs.length→ -1000000000000000≤(xs.take k).sum∧(xs.take k).sum≤1000000000000000) :
  Calls Tryz.prog 188 #[v] w fun e w'=>e= .returned (.int .i64 xs.sum)∧w=w':=by
 obtain⟨a,cap,rfl,hx⟩:=hv
 have HX:=Lib.hid hx
 have HB:=Lib.hid hb
 clear hx hb
 go_enter Tryz.func188,Tryz.ntmps188
 go_wp2
 go_loop [3,5,8] (fun n _ i=>∃k:Nat,k≤xs.length∧i= .int .i64 k∧n= .int .i64 (xs.take k).sum) (fun _ _ i=>xs.length - (intOf i).toNat)
 case atStart=>exact⟨0,Nat.zero_le _,rfl,rfl⟩
 case round =>
  obtain⟨k,hk,rfl,rfl⟩:=hrel
  by_cases hlt:k<xs.length
  ·obtain⟨b,off,rfl,hb,h0⟩:=HX.out k hlt
   have hs:(xs.take (k+1)).sum=(xs.take k).sum+xs[k]:=by rw[List.take_succ_eq_append_getElem hlt,List.sum_append];simp
   have hb1:=HB.out (k+1) hlt
   rw[hs]at hb1
   have HS:=Lib.hid hs
   clear hs
   obtain⟨S,hS⟩:∃S,(xs.take k).sum=S:=⟨_,rfl⟩
   rw[hS]at hb1 HS ⊢
   clear hS
   go_wp2
   go_round
   case rel=>exact⟨k+1,by omega,by go_num,by rw[HS.out]⟩
   case measure=>simp[intOf];omega
  ·obtain rfl:k=xs.length:=by omega
   go_wp2
   go_ret
   exact⟨ret_int (by simp),rfl⟩
end Go.Proofs.YtgloajbgphcloaaGreat.Rf
