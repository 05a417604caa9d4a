/- The truth with the fewest fish, or with the most. -/
import Derived.Test.YtgloajbgphcloaaGreatCo
import Derived.Test.YtgloajbgphcloaaGreatRg
import Derived.Test.YtgloajbgphcloaaGreatRfG1
import Derived.Test.YtgloajbgphcloaaGreatDr
import Derived.Maps.AppendAt
import Derived.Laws.EntriesVeiled
namespace Go.Proofs.YtgloajbgphcloaaGreat.Rf
set_option linter.unusedVariables false
set_option linter.unusedSimpArgs false
open Go.RowKit
open Act renaming put → Qd
open Blk renaming new' → Qb
open Ext renaming refl → Qc
open Lib renaming hid → Qa
open List renaming setIfInBounds_toArray → Qe, set_cons_succ → Qg, set_cons_zero → Qf
theorem step_append_row (w:World) {ops:Array Oper} {o:Oper} {a:Act} {K:Act→World→Prop} {Q:Exit→Act→World→Prop} {E:Prop} (hgd:o.guard=none) (s x:Operand)
  (ho:o.op= .call { callee:= .builtin .append,args:=#[s,x],argTypes:=#[94,94] }) (base:Nat) (v:Value) (n:Nat) (L:List Value) (u:Value) (g:Nat) (hs:a.eval s=v) (hx:a.eval x= .slice (some ⟨g,0,none⟩) 1 1)
  (hv:w.ownsRow base 30 1 v n L) (hg:Blk w g #[u] 30) (hu:u.oneCell'=true) (hn:n≤1000000) (hb:base≤w.heap.size)
  (h:∀v' w',w'.ownsRow base 30 1 v' (n+1) (L++[u])→w.grownBy w' v.ownBlock→(v'.ownBlock=v.ownBlock∨v'.ownBlock=some w.heap.size)→K (a.put o.dst v') w') :
  if Region.wanted o (yielded ops a.tmps)=true then Oper.wp Tryz.prog o a w K Q else E:=by
 have hw:Region.wanted o (yielded ops a.tmps)=true:=by simp[Region.wanted,hgd]
 rw[if_pos hw]
 obtain⟨i9,hi9,hy0,hy1,hy2⟩:=info_parts row_info
 have hnews:∀j u',[u][j]? =some u'→w.cell? ((⟨g,0,none⟩:Addr).add j)=some u':=by
  intro j u' hu'
  have hadd:(⟨g,0,none⟩:Addr).add j=⟨g,j,none⟩:=by unfold Addr.add;split<;>simp_all
  rw[hadd,hg.cell]
  simpa using hu'
 obtain⟨v',w',hr,h2,h3,_,h5⟩:=run_append_own_at (P:=Tryz.prog) w base 94 o.type 30 i9 (.slice none 0 0) 1 24 Tryz.underlying94 hi9 hy0 hy1 hy2 rfl (by decide) v n L hv ⟨g,0,none⟩ 1 1 [u] rfl hnews (one_cell u hu) (by unfold maxLen;omega) (by omega) hb
 unfold Oper.wp execOp
 simp only[ho,resolve,invoke,builtin,Sem.run_bind,Sem.run_pure,Result.andThen_ok,List.map_toArray,List.map_cons,List.map_nil,hs,hx,hr]
 exact h v' w' h2 h3 h5
set_option maxRecDepth 100000 in
set_option maxHeartbeats 16000000 in
theorem truth_any (r:R.Reef) (plan:List Int) (m:Bool) (vp vl:Value) (w:World) (hP:Places w vp r.places) (hPl:Ints w vl plan) (O:R.OkR r) (OL:R.OkL r plan) :
  Calls Tryz.prog 225 #[.agg (planV r vp vl),.bool m] w fun x w'=>∃vs vg vt,x= .returned (.agg (truthV vs vg vt))∧Ints w' vs (R.endT r plan m).starts∧Lists w' vg (R.endT r plan m).grows∧Lists w' vt (R.endT r plan m).takes∧Ext w w':=by
 have hP':=hP
 have hL':=hPl
 obtain⟨a1,c1,rfl,_⟩:=hP'
 obtain⟨a2,c2,rfl,_⟩:=hL'
 have hn1:0<r.places.length:=O.n1
 have hn4:=O.n4
 have hs1:=O.s1
 have hs4:=O.s4
 have HO:=Qa O
 have HOL:=Qa OL
 clear O OL
 go_enter Tryz.func225,Tryz.ntmps225
 go_upto_region 3 with(fail)
 obtain⟨w1,hw1⟩:∃w1,((((w.alloc (.cells (planV r (.slice a1 r.places.length c1) (.slice a2 plan.length c2)) 227)).alloc (.cells #[.bool m] 4)).alloc (.cells #[.slice none 0 0,.slice none 0 0,.slice none 0 0] 114)).alloc (.cells #[endF] 341)).alloc (.cells #[.slice none 0 0,.slice none 0 0,.slice none 0 0] 114)=w1:=⟨_,rfl⟩
 have hbx:Blk w1 w.heap.size (planV r (.slice a1 r.places.length c1) (.slice a2 plan.length c2)) 227:=by rw[← hw1];exact((((Qb rfl _ _).alloc _).alloc _).alloc _).alloc _
 have hbm:Blk w1 (w.heap.size+1) #[.bool m] 4:=by rw[← hw1];exact(((Qb (by simp) _ _).alloc _).alloc _).alloc _
 have hbr:Blk w1 (w.heap.size+1+1) #[.slice none 0 0,.slice none 0 0,.slice none 0 0] 114:=by rw[← hw1];exact((Qb (by simp) _ _).alloc _).alloc _
 have hbf:Blk w1 (w.heap.size+1+1+1) #[endF] 341:=by rw[← hw1];exact(Qb (by simp) _ _).alloc _
 have hbt:Blk w1 (w.heap.size+1+1+1+1) #[.slice none 0 0,.slice none 0 0,.slice none 0 0] 114:=by rw[← hw1];exact Qb (by simp) _ _
 have hE1:Ext w w1:=by rw[← hw1];(with_reducible(repeat(first|exact Qc _|assumption|apply Ext.alloc|apply Ext.drew|exact ext_plus _ _|(apply Ext.setCell;rotate_left;(simp<;>omega))|(apply Ext.trans;rotate_left;exact ext_plus _ _)|(apply Ext.trans;rotate_left;assumption))))
 rw[hw1]
 clear hw1
 have hes:=fun w' (hx:Ext w1 w')=>ends_starts r m (.slice a1 r.places.length c1) (.slice a2 plan.length c2) (w.heap.size+1+1+1) w.heap.size (w.heap.size+1) (.slice a1 r.places.length c1) r.places w' (hP.ext (hE1.trans hx)) (by omega) (hbf.ext hx) (hbx.ext hx) (hbm.ext hx) HO.out.m0 HO.out.m1 ⟨_,_,_,rfl⟩ ⟨_,_,_,rfl⟩
  (fun p hp=>by obtain⟨i,hi,rfl⟩:=List.getElem_of_mem hp;have h:=HO.out.place i hi;rw[pat_of hi]at h;exact⟨h.c0,h.c1⟩)
 have HES:=Qa hes
 clear hes
 have d0:=hbx.cell
 have d1:=hbx.lt
 have d2:=hbt.lt
 go_upto_region 4 with(first|(go_at_call 251;refine(HES.out _ (Qc _)).mono ?_;rintro e w2 ⟨vs,rfl,hownS,hE2⟩;obtain⟨av,cv,rfl⟩:=own_slice hownS;have hbt2:=hbt.ext hE2;have e0:=hbt2.cell;have e1:=hbt2.free;have e2:=hbt2.lt))
 obtain⟨bT,hbTe⟩:∃bT,w.heap.size+1+1+1+1=bT:=⟨_,rfl⟩
 have hbt3:=hbt2.set 0 (.slice av r.places.length cv)
 have hO23:Of2 bT bT w2 (w2.setCell ⟨w.heap.size+1+1+1+1,0,none⟩ (.slice av r.places.length cv)):=(Of2.refl bT bT w2).set (a:=⟨w.heap.size+1+1+1+1,0,none⟩) (.inl hbTe) _
 have hsz3:=size_setCell w2 ⟨w.heap.size+1+1+1+1,0,none⟩ (.slice av r.places.length cv)
 obtain⟨wb,hwb⟩:∃wb,w2.setCell ⟨w.heap.size+1+1+1+1,0,none⟩ (.slice av r.places.length cv)=wb:=⟨_,rfl⟩
 rw[hwb]at hbt3 hO23 hsz3 ⊢
 rw[hbTe]at hbt3 e2 ⊢
 have hbTl:bT<wb.heap.size:=hbt3.lt
 have hbXl:w.heap.size<wb.heap.size:=by omega
 have hEb:Ext w wb:=hO23.ext0 (hE1.trans hE2) (by omega) (by omega)
 have hz1:=hbt.lt
 have hz12:=hE2.size
 have hbX:=(hbx.ext hE2).of2 hO23 (by omega) (by omega)
 have hbM:=(hbm.ext hE2).of2 hO23 (by omega) (by omega)
 have hbR:=(hbr.ext hE2).of2 hO23 (by omega) (by omega)
 have hbF:=(hbf.ext hE2).of2 hO23 (by omega) (by omega)
 have hIS:Ints w2 (.slice av r.places.length cv) (r.places.map (startF r m)):=Ints.of_own (by rw[List.length_map];exact hownS)
 have HNS:=Qa (own_base hownS)
 clear hwb e0 e1 d0 d1 d2 HES
 obtain⟨mm,hmm⟩:=Int.eq_ofNat_of_zero_le (show 0≤r.seasons by omega)
 have hm4:mm≤4:=by omega
 have HM:=Qa hmm
 clear hmm
 have d0:=hbX.cell
 have d1:=hbX.lt
 go_wp2
 go_loopw [7,17] (fun _ i wr=>∃(k:Nat) (L1 L2:List (List Int×Value)) (v1 v2:Value),k≤mm∧i= .int .i64 k∧L1.length=k∧L2.length=k∧wr.ownsRow wb.heap.size 30 1 v1 L1.length (L1.map Prod.snd)∧wr.ownsRow wb.heap.size 30 1 v2 L2.length (L2.map Prod.snd) ∧
   (∀ j,v1.ownBlock=some j→v2.ownBlock≠some j)∧(∀ p∈L1,Apart bT bT w.heap.size wr p)∧(∀ p∈L2,Apart bT bT w.heap.size wr p)∧L1.map Prod.fst=(List.range k).map (fun _=>r.places.map (growF m))∧L2.map Prod.fst=(List.range k).map (fun s=>(takesOf r plan s).map (takeF m)) ∧
   Blk wr bT #[.slice av r.places.length cv,v1,v2] 114∧Of2 bT bT wb wr)
  (fun _ i _=>mm - (intOf i).toNat)
 case atStart=>exact⟨0,[],[],_,_,Nat.zero_le _,rfl,rfl,rfl,World.ownsRow_nil _ _ _ _,World.ownsRow_nil _ _ _ _,(by intro j h;simp[Value.ownBlock]at h),by simp,by simp,rfl,rfl,hbt3,Of2.refl _ _ _⟩
 case round =>
  rename World=>wr
  obtain⟨s,L1,L2,v1,v2,hs,rfl,hl1,hl2,hown1,hown2,hdis,hA1,hA2,hf1,hf2,hBT,hOff⟩:=hrel
  have HA1:=Qa hA1
  have HA2:=Qa hA2
  have HF1:=Qa hf1
  have HF2:=Qa hf2
  have HL1:=Qa hl1
  have HL2:=Qa hl2
  have HDIS:=Qa hdis
  have hBX:=hbX.of2 hOff (by omega) (by omega)
  have hBR:=hbR.of2 hOff (by omega) (by omega)
  have hEr:Ext w wr:=hOff.ext0 hEb (by omega) (by omega)
  have hnl1:L1.length≤4:=by omega
  have hnl2:L2.length≤4:=by omega
  have x0:=hBX.cell
  have x1:=hBX.lt
  clear hA1 hA2 hf1 hf2 hl1 hl2 d0 d1 hdis
  by_cases hlt:s<mm
  ·have hlt':(s:Int)<r.seasons:=by have:=HM.out;omega
   obtain⟨av1,cv1,rfl⟩:=own_slice hown1
   obtain⟨av2,cv2,rfl⟩:=own_slice hown2
   have heg:=fun w' (hx:Of2 bT bT wb w')=>ends_grows m (w.heap.size+1+1+1) (w.heap.size+1) (.slice a1 r.places.length c1) r.places w' (hP.ext (hx.ext0 hEb (by omega) (by omega))) (by omega) (hbF.of2 hx (by omega) (by omega)) (hbM.of2 hx (by omega) (by omega))
   have HEG:=Qa heg
   have hlG:r.places.length=r.places.length:=rfl
   have hOf1:=hOff
   clear heg
   go_upto_region 7 with(fail)
   have hT:=hBT.drew
   have hX:=hBX.drew
   refine wp_region_late 10 (fun b y=>b=false→(∀ o,y.cell? ⟨bT,o,none⟩=(#[.slice av r.places.length cv,.slice av1 L1.length cv1,.slice av2 L2.length cv2]:Array Value)[o]?)∧(∀ o,y.cell? ⟨w.heap.size,o,none⟩=(planV r (.slice a1 r.places.length c1) (.slice a2 plan.length c2):Array Value)[o]?)) (by kernel_rfl) (fun hL=> ?_)
   refine late_early (i:=0) (v:= ?_) rfl (by kernel_rfl) (by kernel_rfl) (by kernel_rfl) (by decide) (by kernel_rfl) (fun _ _ _ h=>h) hL (Or.inl ⟨by rfl,?_⟩) (fun _=>⟨hT.cell,hX.cell⟩) (fun hL'=> ?_)
   rotate_left
   ·intro y hy;obtain⟨g1,g2⟩:=hy rfl;go_simp;(try with_reducible rfl)
   clear hL;rename Shutb _ _=>hL
   (try simp only[Qd,Qe,Qf,Qg])
   refine late_early (i:=1) (v:= ?_) rfl (by kernel_rfl) (by kernel_rfl) (by kernel_rfl) (by decide) (by kernel_rfl) (fun _ _ _ h=>h) hL (Or.inl ⟨by rfl,?_⟩) (fun _=>⟨hT.cell,hX.cell⟩) (fun hL'=> ?_)
   rotate_left
   ·intro y hy;obtain⟨g1,g2⟩:=hy rfl;go_simp;(try with_reducible rfl)
   clear hL;rename Shutb _ _=>hL
   (try simp only[Qd,Qe,Qf,Qg])
   refine late_early (i:=2) (v:= ?_) rfl (by kernel_rfl) (by kernel_rfl) (by kernel_rfl) (by decide) (by kernel_rfl) (fun _ _ _ h=>h) hL (Or.inl ⟨by rfl,?_⟩) (fun _=>⟨hT.cell,hX.cell⟩) (fun hL'=> ?_)
   rotate_left
   ·intro y hy;obtain⟨g1,g2⟩:=hy rfl;go_simp;(try with_reducible rfl)
   clear hL;rename Shutb _ _=>hL
   (try simp only[Qd,Qe,Qf,Qg])
   refine late_early (i:=3) (v:= ?_) rfl (by kernel_rfl) (by kernel_rfl) (by kernel_rfl) (by decide) (by kernel_rfl) (fun _ _ _ h=>h) hL (Or.inl ⟨by rfl,?_⟩) (fun _=>⟨hT.cell,hX.cell⟩) (fun hL'=> ?_)
   rotate_left
   ·intro y hy;obtain⟨g1,g2⟩:=hy rfl;go_simp;(try with_reducible rfl)
   clear hL;rename Shutb _ _=>hL
   (try simp only[Qd,Qe,Qf,Qg])
   refine late_early (i:=4) (v:= ?_) rfl (by kernel_rfl) (by kernel_rfl) (by kernel_rfl) (by decide) (by kernel_rfl) (fun _ _ _ h=>h) hL (Or.inl ⟨by rfl,?_⟩) (fun _=>⟨hT.cell,hX.cell⟩) (fun hL'=> ?_)
   rotate_left
   ·intro y hy;obtain⟨g1,g2⟩:=hy rfl;go_simp;(try with_reducible rfl)
   clear hL;rename Shutb _ _=>hL
   (try simp only[Qd,Qe,Qf,Qg])
   refine late_early (i:=5) (v:= ?_) rfl (by kernel_rfl) (by kernel_rfl) (by kernel_rfl) (by decide) (by kernel_rfl) (fun _ _ _ h=>h) hL (Or.inl ⟨by rfl,?_⟩) (fun _=>⟨hT.cell,hX.cell⟩) (fun hL'=> ?_)
   rotate_left
   ·intro y hy;obtain⟨g1,g2⟩:=hy rfl;go_simp;(try with_reducible rfl)
   clear hL;rename Shutb _ _=>hL
   (try simp only[Qd,Qe,Qf,Qg])
   refine late_one (i:=6) (by kernel_rfl) hL (fun hL'=> ?_)
   refine wpOp_step rfl (fun K hK0=> ?_)
   have hK:Shut _:=hK0
   clear hK0
   go_simp
   go_wp2_with (first|(go_at_call 251;refine(HEG.out _ (hOf1.drew)).mono ?_;rintro e w5 ⟨v5,rfl,hown5,hE5⟩;rw[hlG]at hown5;obtain⟨gA,capA,rfl,hgA,hgAl⟩:=own_pos hown5 hn1))
   have hT5:=hT.ext hE5
   have hX5:=hX.ext hE5
   have hEw5:Ext wr w5:=((Qc wr).drew).trans hE5
   refine hK.out _ _ ⟨fun _=>⟨hT5.cell,hX5.cell⟩,?_⟩
   clear hK K;clear hL;rename Shutb _ _=>hL
   (try simp only[Qd,Qe,Qf,Qg])
   refine late_one (i:=7) (by kernel_rfl) hL (fun hL'=> ?_)
   refine wpOp_step rfl (fun K hK0=> ?_)
   have hK:Shut _:=hK0
   clear hK0
   go_simp
   refine hK.out _ _ ⟨fun _=>⟨(hT5.alloc _).cell,(hX5.alloc _).cell⟩,?_⟩
   clear hK K;clear hL;rename Shutb _ _=>hL
   (try simp only[Qd,Qe,Qf,Qg])
   simp only[size_drew]at hgA
   have ho1:(w5.alloc (.cells #[.slice (some ⟨gA,0,none⟩) r.places.length capA] 30)).ownsRow wb.heap.size 30 1 (.slice av1 L1.length cv1) L1.length (L1.map Prod.snd):=(own_ext hown1 hEw5).alloc _
   have hbl5:Blk (w5.alloc (.cells #[.slice (some ⟨gA,0,none⟩) r.places.length capA] 30)) w5.heap.size #[.slice (some ⟨gA,0,none⟩) r.places.length capA] 30:=Qb rfl _ _
   refine late_one (i:=8) (by kernel_rfl) hL (fun hL'=> ?_)
   refine wpOp_step rfl (fun K hK0=> ?_)
   have hK:Shut _:=hK0
   clear hK0
   refine step_append_row _ rfl _ _ rfl wb.heap.size (.slice av1 L1.length cv1) L1.length _ (.slice (some ⟨gA,0,none⟩) r.places.length capA) w5.heap.size rfl rfl ho1 hbl5 rfl (by omega) (by have:=hEw5.size;have:=hOff.size;simp;omega) ?_
   intro v3 w6 hownN hgrN hatN
   have hbN:=own_base hown1
   have hT6:=Blk.grown (hT5.alloc (.cells #[.slice (some ⟨gA,0,none⟩) r.places.length capA] 30)) hgrN hbN hbTl
   have hX6:=Blk.grown (hX5.alloc (.cells #[.slice (some ⟨gA,0,none⟩) r.places.length capA] 30)) hgrN hbN hbXl
   refine hK.out _ _ ⟨fun _=>⟨hT6.cell,hX6.cell⟩,?_⟩
   clear hK K;clear hL;rename Shutb _ _=>hL
   (try simp only[Qd,Qe,Qf,Qg])
   clear hT hX
   have hT:=hT6
   have hX:=hX6
   refine late_early (i:=9) (v:= ?_) rfl (by kernel_rfl) (by kernel_rfl) (by kernel_rfl) (by decide) (by kernel_rfl) (fun _ _ _ h=>h) hL (Or.inl ⟨by rfl,?_⟩) (fun _=>⟨hT.cell,hX.cell⟩) (fun hL'=> ?_)
   rotate_left
   ·intro y hy;obtain⟨g1,g2⟩:=hy rfl;go_simp;(try with_reducible rfl)
   clear hL;rename Shutb _ _=>hL
   (try simp only[Qd,Qe,Qf,Qg])
   obtain⟨gM,capM,rfl⟩:=own_succ hownN
   have f1:=hT6.free
   have f2:=hT6.lt
   refine late_one (i:=10) (by kernel_rfl) hL (fun hL'=> ?_)
   refine wpOp_step rfl (fun K hK0=> ?_)
   have hK:Shut _:=hK0
   clear hK0
   have f0:=hT6.cell
   go_simp
   have hT7:=hT6.set 1 (.slice (some ⟨gM,0,none⟩) (L1.length+1) capM)
   refine hK.out _ _ ⟨fun e=>absurd (e:true=false) (by decide),?_⟩
   clear hK K;clear hL;rename Shutb _ _=>hL
   (try simp only[Qd,Qe,Qf,Qg])
   refine late_done (by kernel_rfl) ?_
   (try dsimp only[Exit.then])
   have hRw5:IRow w5 gA (r.places.map (growF m)):=IRow.of_own (by rw[List.length_map];exact hown5)
   have hoi:=own_blk ho1 (by decide)
   have hne2:(Value.slice av2 L2.length cv2).ownBlock=none∨(Value.slice av2 L2.length cv2).ownBlock≠(Value.slice av1 L1.length cv1).ownBlock:=by
    cases hq:(Value.slice av2 L2.length cv2).ownBlock with
    | none=>exact .inl rfl
    | some j=>exact .inr (fun e=>HDIS.out j e.symm hq)
   have hown2':=own_other (((own_ext hown2 hEw5).alloc (.cells #[.slice (some ⟨gA,0,none⟩) r.places.length capA] 30)).kept hgrN hne2) (a:=⟨bT,1,none⟩) hbTl (.slice (some ⟨gM,0,none⟩) (L1.length+1) capM)
   have hown1':=own_other hownN (a:=⟨bT,1,none⟩) hbTl (.slice (some ⟨gM,0,none⟩) (L1.length+1) capM)
   have hdis':∀j,(Value.slice (some ⟨gM,0,none⟩) (L1.length+1) capM).ownBlock=some j→(Value.slice av2 L2.length cv2).ownBlock≠some j:=by
    intro j hj hq
    rcases hatN with e|e
    ·exact HDIS.out j (e▸hj) hq
    ·rw[e]at hj;have:=(hown2.lt j hq).2;have:=hEw5.size;simp at hj;omega
   have hOset:Of2 bT bT w6 (w6.setCell ⟨bT,1,none⟩ (.slice (some ⟨gM,0,none⟩) (L1.length+1) capM)):=(Of2.refl bT bT w6).set (a:=⟨bT,1,none⟩) (.inl rfl) _
   have hbT5:bT<w5.heap.size:=by have:=hEw5.size;have:=hOff.size;omega
   have hA1':∀p∈L1++[(r.places.map (growF m),.slice (some ⟨gA,0,none⟩) r.places.length capA)],Apart bT bT w.heap.size (w6.setCell ⟨bT,1,none⟩ (.slice (some ⟨gM,0,none⟩) (L1.length+1) capM)) p:=by
    intro p hp
    rw[List.mem_append,List.mem_singleton]at hp
    rcases hp with hp|rfl
    ·exact((((HA1.out p hp).ext hEw5).ext ((Qc _).alloc _)).grown hgrN hoi).of2 hOset
    ·have h1:Apart bT bT w.heap.size w5 (r.places.map (growF m),.slice (some ⟨gA,0,none⟩) r.places.length capA):=⟨gA,capA,by simp,by have:=hOff.size;omega,by have:=hOff.size;omega,hRw5,by have:=hOff.size;omega⟩
     exact((h1.ext ((Qc _).alloc _)).grown hgrN hoi).of2 hOset
   have hA2':∀p∈L2,Apart bT bT w.heap.size (w6.setCell ⟨bT,1,none⟩ (.slice (some ⟨gM,0,none⟩) (L1.length+1) capM)) p:=fun p hp=>((((HA2.out p hp).ext hEw5).ext ((Qc _).alloc _)).grown hgrN hoi).of2 hOset
   have hOff7:Of2 bT bT wb (w6.setCell ⟨bT,1,none⟩ (.slice (some ⟨gM,0,none⟩) (L1.length+1) capM)):=(Of2.grown ((hOff.ext hEw5).alloc _) hgrN hbN).trans hOset
   have hT7':Blk (w6.setCell ⟨bT,1,none⟩ (.slice (some ⟨gM,0,none⟩) (L1.length+1) capM)) bT #[.slice av r.places.length cv,.slice (some ⟨gM,0,none⟩) (L1.length+1) capM,.slice av2 L2.length cv2] 114:=hT7
   have hX7:=hX6.of2 hOset (by omega) (by omega)
   obtain⟨w7,hw7⟩:∃w7,w6.setCell ⟨bT,1,none⟩ (.slice (some ⟨gM,0,none⟩) (L1.length+1) capM)=w7:=⟨_,rfl⟩
   rw[hw7]at hown1' hown2' hA1' hA2' hOff7 hT7' hX7 ⊢
   have HA1':=Qa hA1'
   have HA2':=Qa hA2'
   have HD':=Qa hdis'
   have hsp:s<plan.length:=by have:=HOL.out.len;have:=HM.out;omega
   have hE7:Ext w w7:=hOff7.ext0 hEb (by omega) (by omega)
   have htk:=fun w' (hx:Ext w w')=>takes_any r plan s hsp (HOL.out.bit s hsp).1 (by have h1:=(HOL.out.bit s hsp).2;have h2:=(R.two_pow _ hn4).2;omega) (by omega) hn1 (.slice a1 r.places.length c1) (.slice a2 plan.length c2) w' (hP.ext hx) (hPl.ext hx)
   have HTK:=Qa htk
   have het:=fun w' vt (hx:Of2 bT bT wb w') (hv:Spans w' vt (takesOf r plan s))=>ends_takes m (w.heap.size+1+1+1) (w.heap.size+1) vt (takesOf r plan s) w' hv (by simp[takesOf];omega) (hbF.of2 hx (by omega) (by omega)) (hbM.of2 hx (by omega) (by omega))
   have htl:(takesOf r plan s).length=r.places.length:=by simp[takesOf]
   have HET:=Qa het
   have HTL:=Qa htl
   clear hRw5 hoi hne2 hdis' hOset hA1' hA2' hT7 hX6 hT6 hT hX hT5 hX5 hgrN hatN hownN hown5 hbl5 ho1 hown1 hown2 HEG hw7 hbN htk het htl hL f1 f2 x0 x1
   go_upto_region 8 with(fail)
   have hT:=hT7'.drew
   have hX:=hX7.drew
   refine wp_region_late 10 (fun b y=>b=false→(∀ o,y.cell? ⟨bT,o,none⟩=(#[.slice av r.places.length cv,.slice (some ⟨gM,0,none⟩) (L1.length+1) capM,.slice av2 L2.length cv2]:Array Value)[o]?)∧(∀ o,y.cell? ⟨w.heap.size,o,none⟩=(planV r (.slice a1 r.places.length c1) (.slice a2 plan.length c2):Array Value)[o]?)) (by kernel_rfl) (fun hL=> ?_)
   refine late_early (i:=0) (v:= ?_) rfl (by kernel_rfl) (by kernel_rfl) (by kernel_rfl) (by decide) (by kernel_rfl) (fun _ _ _ h=>h) hL (Or.inl ⟨by rfl,?_⟩) (fun _=>⟨hT.cell,hX.cell⟩) (fun hL'=> ?_)
   rotate_left
   ·intro y hy;obtain⟨g1,g2⟩:=hy rfl;go_simp;(try with_reducible rfl)
   clear hL;rename Shutb _ _=>hL
   (try simp only[Qd,Qe,Qf,Qg])
   refine late_early (i:=1) (v:= ?_) rfl (by kernel_rfl) (by kernel_rfl) (by kernel_rfl) (by decide) (by kernel_rfl) (fun _ _ _ h=>h) hL (Or.inl ⟨by rfl,?_⟩) (fun _=>⟨hT.cell,hX.cell⟩) (fun hL'=> ?_)
   rotate_left
   ·intro y hy;obtain⟨g1,g2⟩:=hy rfl;go_simp;(try with_reducible rfl)
   clear hL;rename Shutb _ _=>hL
   (try simp only[Qd,Qe,Qf,Qg])
   refine late_early (i:=2) (v:= ?_) rfl (by kernel_rfl) (by kernel_rfl) (by kernel_rfl) (by decide) (by kernel_rfl) (fun _ _ _ h=>h) hL (Or.inl ⟨by rfl,?_⟩) (fun _=>⟨hT.cell,hX.cell⟩) (fun hL'=> ?_)
   rotate_left
   ·intro y hy;obtain⟨g1,g2⟩:=hy rfl;go_simp;(try with_reducible rfl)
   clear hL;rename Shutb _ _=>hL
   (try simp only[Qd,Qe,Qf,Qg])
   refine late_early (i:=3) (v:= ?_) rfl (by kernel_rfl) (by kernel_rfl) (by kernel_rfl) (by decide) (by kernel_rfl) (fun _ _ _ h=>h) hL (Or.inl ⟨by rfl,?_⟩) (fun _=>⟨hT.cell,hX.cell⟩) (fun hL'=> ?_)
   rotate_left
   ·intro y hy;obtain⟨g1,g2⟩:=hy rfl;go_simp;(try with_reducible rfl)
   clear hL;rename Shutb _ _=>hL
   (try simp only[Qd,Qe,Qf,Qg])
   refine late_early (i:=5) (v:= ?_) rfl (by kernel_rfl) (by kernel_rfl) (by kernel_rfl) (by decide) (by kernel_rfl) (fun _ _ _ h=>h) hL (Or.inl ⟨by rfl,?_⟩) (fun _=>⟨hT.cell,hX.cell⟩) (fun hL'=> ?_)
   rotate_left
   ·intro y hy;obtain⟨g1,g2⟩:=hy rfl;go_simp;(try with_reducible rfl)
   clear hL;rename Shutb _ _=>hL
   (try simp only[Qd,Qe,Qf,Qg])
   refine late_one (i:=4) (by kernel_rfl) hL (fun hL'=> ?_)
   refine wpOp_step rfl (fun K hK0=> ?_)
   have hK:Shut _:=hK0
   clear hK0
   go_simp
   go_wp2_with (first|(go_at_call 187;refine(HTK.out _ (hE7.drew)).mono ?_;rintro e wt ⟨vt,rfl,hvt,hEt⟩))
   have hTt:=hT.ext hEt
   have hXt:=hX.ext hEt
   have hOt:Of2 bT bT wb wt:=(hOff7.drew).ext hEt
   refine hK.out _ _ ⟨fun _=>⟨hTt.cell,hXt.cell⟩,?_⟩
   clear hK K;clear hL;rename Shutb _ _=>hL
   (try simp only[Qd,Qe,Qf,Qg])
   refine late_one (i:=6) (by kernel_rfl) hL (fun hL'=> ?_)
   refine wpOp_step rfl (fun K hK0=> ?_)
   have hK:Shut _:=hK0
   clear hK0
   go_simp
   go_wp2_with (first|(go_at_call 254;refine(HET.out _ _ hOt hvt).mono ?_;rintro e w5 ⟨v5,rfl,hown5,hE5⟩;rw[HTL.out]at hown5;obtain⟨g5,cap5,rfl,hg5',hg5l⟩:=own_pos hown5 hn1))
   have hT5:=hTt.ext hE5
   have hX5:=hXt.ext hE5
   have hEw5:Ext w7 w5:=(((Qc w7).drew).trans hEt).trans hE5
   have hg5:w7.heap.size≤g5:=by have:=hEt.size;simp only[size_drew]at this;omega
   refine hK.out _ _ ⟨fun _=>⟨hT5.cell,hX5.cell⟩,?_⟩
   clear hK K;clear hL;rename Shutb _ _=>hL
   (try simp only[Qd,Qe,Qf,Qg])
   refine late_one (i:=7) (by kernel_rfl) hL (fun hL'=> ?_)
   refine wpOp_step rfl (fun K hK0=> ?_)
   have hK:Shut _:=hK0
   clear hK0
   go_simp
   refine hK.out _ _ ⟨fun _=>⟨(hT5.alloc _).cell,(hX5.alloc _).cell⟩,?_⟩
   clear hK K;clear hL;rename Shutb _ _=>hL
   (try simp only[Qd,Qe,Qf,Qg])
   have ho1:(w5.alloc (.cells #[.slice (some ⟨g5,0,none⟩) r.places.length cap5] 30)).ownsRow wb.heap.size 30 1 (.slice av2 L2.length cv2) L2.length (L2.map Prod.snd):=(own_ext hown2' hEw5).alloc _
   have hbl5:Blk (w5.alloc (.cells #[.slice (some ⟨g5,0,none⟩) r.places.length cap5] 30)) w5.heap.size #[.slice (some ⟨g5,0,none⟩) r.places.length cap5] 30:=Qb rfl _ _
   refine late_one (i:=8) (by kernel_rfl) hL (fun hL'=> ?_)
   refine wpOp_step rfl (fun K hK0=> ?_)
   have hK:Shut _:=hK0
   clear hK0
   refine step_append_row _ rfl _ _ rfl wb.heap.size (.slice av2 L2.length cv2) L2.length _ (.slice (some ⟨g5,0,none⟩) r.places.length cap5) w5.heap.size rfl rfl ho1 hbl5 rfl (by omega) (by have:=hEw5.size;have:=hOff7.size;simp;omega) ?_
   intro v4 w6 hownN hgrN hatN
   have hbN:=own_base hown2'
   have hT6:=Blk.grown (hT5.alloc (.cells #[.slice (some ⟨g5,0,none⟩) r.places.length cap5] 30)) hgrN hbN hbTl
   have hX6:=Blk.grown (hX5.alloc (.cells #[.slice (some ⟨g5,0,none⟩) r.places.length cap5] 30)) hgrN hbN hbXl
   refine hK.out _ _ ⟨fun _=>⟨hT6.cell,hX6.cell⟩,?_⟩
   clear hK K;clear hL;rename Shutb _ _=>hL
   (try simp only[Qd,Qe,Qf,Qg])
   clear hT hX
   have hT:=hT6
   have hX:=hX6
   refine late_early (i:=9) (v:= ?_) rfl (by kernel_rfl) (by kernel_rfl) (by kernel_rfl) (by decide) (by kernel_rfl) (fun _ _ _ h=>h) hL (Or.inl ⟨by rfl,?_⟩) (fun _=>⟨hT.cell,hX.cell⟩) (fun hL'=> ?_)
   rotate_left
   ·intro y hy;obtain⟨g1,g2⟩:=hy rfl;go_simp;(try with_reducible rfl)
   clear hL;rename Shutb _ _=>hL
   (try simp only[Qd,Qe,Qf,Qg])
   obtain⟨gN,capN,rfl⟩:=own_succ hownN
   have f1:=hT6.free
   have f2:=hT6.lt
   refine late_one (i:=10) (by kernel_rfl) hL (fun hL'=> ?_)
   refine wpOp_step rfl (fun K hK0=> ?_)
   have hK:Shut _:=hK0
   clear hK0
   have f0:=hT6.cell
   go_simp
   have hT7:=hT6.set 2 (.slice (some ⟨gN,0,none⟩) (L2.length+1) capN)
   refine hK.out _ _ ⟨fun e=>absurd (e:true=false) (by decide),?_⟩
   clear hK K;clear hL;rename Shutb _ _=>hL
   (try simp only[Qd,Qe,Qf,Qg])
   refine late_done (by kernel_rfl) ?_
   (try dsimp only[Exit.then])
   go_wp2
   have hRw5:IRow w5 g5 ((takesOf r plan s).map (takeF m)):=IRow.of_own (by rw[List.length_map,HTL.out];exact hown5)
   have hoi:=own_blk ho1 (by decide)
   have hlt1:=fun j hj=>(hown1'.lt j hj).2
   have hne1:(Value.slice (some ⟨gM,0,none⟩) (L1.length+1) capM).ownBlock=none∨(Value.slice (some ⟨gM,0,none⟩) (L1.length+1) capM).ownBlock≠(Value.slice av2 L2.length cv2).ownBlock:= .inr (fun e=>HD'.out gM rfl (by rw[← e];rfl))
   have hown1'':=own_other (((own_ext hown1' hEw5).alloc (.cells #[.slice (some ⟨g5,0,none⟩) r.places.length cap5] 30)).kept hgrN hne1) (a:=⟨bT,2,none⟩) hbTl (.slice (some ⟨gN,0,none⟩) (L2.length+1) capN)
   have hown2'':=own_other hownN (a:=⟨bT,2,none⟩) hbTl (.slice (some ⟨gN,0,none⟩) (L2.length+1) capN)
   have hdis'':∀j,(Value.slice (some ⟨gM,0,none⟩) (L1.length+1) capM).ownBlock=some j→(Value.slice (some ⟨gN,0,none⟩) (L2.length+1) capN).ownBlock≠some j:=by
    intro j hj hq
    rcases hatN with e|e
    ·rw[e]at hq;exact HD'.out j hj hq
    ·rw[e]at hq;have:=hlt1 j hj;have:=hEw5.size;simp at hq;omega
   have hOset:Of2 bT bT w6 (w6.setCell ⟨bT,2,none⟩ (.slice (some ⟨gN,0,none⟩) (L2.length+1) capN)):=(Of2.refl bT bT w6).set (a:=⟨bT,2,none⟩) (.inl rfl) _
   have hA1'':∀p∈L1++[(r.places.map (growF m),.slice (some ⟨gA,0,none⟩) r.places.length capA)],Apart bT bT w.heap.size (w6.setCell ⟨bT,2,none⟩ (.slice (some ⟨gN,0,none⟩) (L2.length+1) capN)) p:=fun p hp=>((((HA1'.out p hp).ext hEw5).ext ((Qc _).alloc _)).grown hgrN hoi).of2 hOset
   have hA2'':∀p∈L2++[((takesOf r plan s).map (takeF m),.slice (some ⟨g5,0,none⟩) r.places.length cap5)],Apart bT bT w.heap.size (w6.setCell ⟨bT,2,none⟩ (.slice (some ⟨gN,0,none⟩) (L2.length+1) capN)) p:=by
    intro p hp
    rw[List.mem_append,List.mem_singleton]at hp
    rcases hp with hp|rfl
    ·exact((((HA2'.out p hp).ext hEw5).ext ((Qc _).alloc _)).grown hgrN hoi).of2 hOset
    ·have h1:Apart bT bT w.heap.size w5 ((takesOf r plan s).map (takeF m),.slice (some ⟨g5,0,none⟩) r.places.length cap5):=⟨g5,cap5,by simp[HTL.out],by have:=hOff7.size;omega,by have:=hOff7.size;omega,hRw5,by have:=hOff7.size;omega⟩
     exact((h1.ext ((Qc _).alloc _)).grown hgrN hoi).of2 hOset
   have hOff8:Of2 bT bT wb (w6.setCell ⟨bT,2,none⟩ (.slice (some ⟨gN,0,none⟩) (L2.length+1) capN)):=(Of2.grown ((hOff7.ext hEw5).alloc _) hgrN hbN).trans hOset
   exact⟨⟨s+1,L1++[(r.places.map (growF m),.slice (some ⟨gA,0,none⟩) r.places.length capA)],L2++[((takesOf r plan s).map (takeF m),.slice (some ⟨g5,0,none⟩) r.places.length cap5)],_,_,by omega,by go_num,by simp[HL1.out],by simp[HL2.out],by simpa using hown1'',by simpa using hown2'',hdis'',hA1'',hA2'',by rw[List.map_append,HF1.out,List.range_succ,List.map_append];rfl,by rw[List.map_append,HF2.out,List.range_succ,List.map_append];rfl,hT7,hOff8⟩,by simp[intOf];omega⟩
  ·obtain rfl:s=mm:=by omega
   have hnlt:¬(s:Int)<r.seasons:=by have:=HM.out;omega
   obtain⟨av1,cv1,rfl⟩:=own_slice hown1
   obtain⟨av2,cv2,rfl⟩:=own_slice hown2
   have t0:=hBT.cell
   have t1:=hBT.lt
   have r0:=hBR.cell
   have r1:=hBR.free
   have r2:=hBR.lt
   go_wp2
   have hBR9:=((hBR.set 0 (.slice av r.places.length cv)).set 1 (.slice av1 L1.length cv1)).set 2 (.slice av2 L2.length cv2)
   have hO9:=(((Of2.refl (w.heap.size+1+1) (w.heap.size+1+1) wr).set (a:=⟨w.heap.size+1+1,0,none⟩) (.inl rfl) (.slice av r.places.length cv)).set (a:=⟨w.heap.size+1+1,1,none⟩) (.inl rfl) (.slice av1 L1.length cv1)).set (a:=⟨w.heap.size+1+1,2,none⟩) (.inl rfl) (.slice av2 L2.length cv2)
   obtain⟨w9,hw9⟩:∃w9,((wr.setCell ⟨w.heap.size+1+1,0,none⟩ (.slice av r.places.length cv)).setCell ⟨w.heap.size+1+1,1,none⟩ (.slice av1 L1.length cv1)).setCell ⟨w.heap.size+1+1,2,none⟩ (.slice av2 L2.length cv2)=w9:=⟨_,rfl⟩
   rw[hw9]at hBR9 hO9 ⊢
   have hms:r.seasons.toNat=s:=by have:=HM.out;omega
   have hI9:=((hIS.of2 (c:=bT) (n:=w1.heap.size) HNS.out (by omega) hO23).of2 (c:=bT) (n:=w1.heap.size) HNS.out (by omega) hOff).of2 (c:=w.heap.size+1+1) (n:=w1.heap.size) HNS.out (by omega) hO9
   have hG9:=(Lists.of_own (n:=w.heap.size) (by omega) (own_off hown1 hO9 (by omega) (by omega)) (fun p hp=>(HA1.out p hp).off2 hBR (by decide) hO9)).lists
   have hK9:=(Lists.of_own (n:=w.heap.size) (by omega) (own_off hown2 hO9 (by omega) (by omega)) (fun p hp=>(HA2.out p hp).off2 hBR (by decide) hO9)).lists
   rw[HF1.out]at hG9
   rw[HF2.out]at hK9
   have eg:(R.endT r plan m).grows=(List.range s).map (fun _=>r.places.map (growF m)):=by unfold R.endT;rw[hms];rfl
   have ek:(R.endT r plan m).takes=(List.range s).map (fun s=>(takesOf r plan s).map (takeF m)):=by
    unfold R.endT
    rw[hms]
    apply List.map_congr_left
    intro i _
    unfold takesOf
    rw[List.map_map]
    rfl
   have es:(R.endT r plan m).starts=r.places.map (startF r m):=rfl
   have c9:=hBR9.cell
   clear r0 r1 t0 hw9
   exact bodyPost_ret (v:= .agg #[.slice av r.places.length cv,.slice av1 L1.length cv1,.slice av2 L2.length cv2]) (by simp[results,Tryz.results225,go_sem,c9]) rfl ⟨_,_,_,rfl,by rw[es];exact hI9,by rw[eg];exact hG9,by rw[ek];exact hK9,hO9.ext0 hEr (by omega) (by omega)⟩
end Go.Proofs.YtgloajbgphcloaaGreat.Rf
