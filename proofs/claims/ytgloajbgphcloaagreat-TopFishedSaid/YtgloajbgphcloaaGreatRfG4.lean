/- The stocks. Stocks, as it is asked; the least number for which something holds. -/
import Derived.Test.YtgloajbgphcloaaGreatCo
import Derived.Test.YtgloajbgphcloaaGreatRg
import Derived.Test.YtgloajbgphcloaaGreatRfG3
import Derived.Test.YtgloajbgphcloaaGreatRfPl
namespace Go.Proofs.YtgloajbgphcloaaGreat.Rf
set_option linter.unusedVariables false
set_option linter.unusedSimpArgs false
open Go.RowKit
def ApartS (n:Nat) (w:World) (p:List (Int×Int)×Value):Prop:=∃g' cap,p.2= .slice (some ⟨g',0,none⟩) p.1.length cap∧RowB spanC 2 25 w g' p.1∧n≤g'
theorem ApartS.ext {n:Nat} {w w':World} {p:List (Int×Int)×Value} (h:ApartS n w p) (he:Ext w w'):ApartS n w' p:=by
 obtain⟨g',cap,e,h1,h2⟩:=h
 exact⟨g',cap,e,h1.ext he,h2⟩
theorem ApartS.grown {n:Nat} {w w':World} {row:Option Nat} {p:List (Int×Int)×Value} (h:ApartS n w p) (hg:w.grownBy w' row) (hr:∀k,row=some k→∃cs e,Blk w k cs e∧e≠25):ApartS n w' p:=by
 obtain⟨g',cap,e,h1,h2⟩:=h
 refine⟨g',cap,e,h1.move (hg.block g' h1.lt ?_),h2⟩
 intro e'
 obtain⟨cs,e2,hc,he⟩:=hr g' e'.symm
 obtain⟨cs',hc',_⟩:=h1
 unfold Blk at hc hc';rw[hc]at hc'
 have:=Option.some.inj hc'
 injection this with _ h2 _
 exact he h2
def OwnRows (n:Nat) (w:World) (v:Value) (xs:List (List (Int×Int))):Prop :=
 ∃(g cap:Nat) (gs cs:Nat→Nat) (el:Array Value),v= .slice (some ⟨g,0,none⟩) xs.length cap∧n≤g∧Blk w g el 31 ∧
  (∀ i (h:i<xs.length),el[i]? =some (.slice (some ⟨gs i,0,none⟩) xs[i].length (cs i))∧n≤gs i∧RowB spanC 2 25 w (gs i) xs[i])∧(∀ i j,i<xs.length→j<xs.length→i≠j→gs i≠gs j)
theorem OwnRows.ext {n:Nat} {w w':World} {v:Value} {xs:List (List (Int×Int))} (h:OwnRows n w v xs) (he:Ext w w'):OwnRows n w' v xs:=by
 obtain⟨g,cap,gs,cs,el,h1,h2,h3,h4,h5⟩:=h
 exact⟨g,cap,gs,cs,el,h1,h2,h3.ext he,fun i hi=>⟨(h4 i hi).1,(h4 i hi).2.1,(h4 i hi).2.2.ext he⟩,h5⟩
theorem blk_ne {w:World} {a b:Nat} {cs cs':Array Value} {e e':TypeId} (h:Blk w a cs e) (h':Blk w b cs' e') (hne:e≠e'):a≠b:=by
 intro e1
 subst e1
 unfold Blk at h h';rw[h]at h'
 have:=Option.some.inj h'
 injection this with _ h2 _
 exact hne h2
theorem OwnRows.set {n:Nat} {w:World} {g cap:Nat} {gs cs:Nat→Nat} {el:Array Value} {xs:List (List (Int×Int))} (h3:Blk w g el 31)
  (h4:∀i (h:i<xs.length),el[i]? =some (.slice (some ⟨gs i,0,none⟩) xs[i].length (cs i))∧n≤gs i∧RowB spanC 2 25 w (gs i) xs[i]) (h5:∀i j,i<xs.length→j<xs.length→i≠j→gs i≠gs j)
  (k:Nat) (hk:k<xs.length) (j:Nat) (hj:j<xs[k].length) (m:Int) (x:Int×Int) (hx:xs[k][j]=x) :
  Blk (w.setCell ⟨gs k,j*2,none⟩ (.int .i64 m)) g el 31∧(∀ i (h:i<(xs.set k (xs[k].set j (m,x.2))).length),el[i]? =some (.slice (some ⟨gs i,0,none⟩) (xs.set k (xs[k].set j (m,x.2)))[i].length (cs i))∧n≤gs i∧RowB spanC 2 25 (w.setCell ⟨gs k,j*2,none⟩ (.int .i64 m)) (gs i) (xs.set k (xs[k].set j (m,x.2)))[i]):=by
 obtain⟨k1,k2,k3⟩:=h4 k hk
 have hgk:gs k≠g:=by
  obtain⟨cs',hc,_⟩:=k3
  exact blk_ne hc h3 (by decide)
 refine⟨h3.other (by simpa using hgk) _,fun i hi=> ?_⟩
 have hi':i<xs.length:=by simpa using hi
 obtain⟨l1,l2,l3⟩:=h4 i hi'
 rw[List.getElem_set]
 by_cases e:k=i
 ·subst e
  rw[if_pos rfl]
  refine⟨by simpa using l1,l2,?_⟩
  obtain⟨q,hB,hc⟩:=l3
  refine⟨_,hB.set _ _,fun k' hk' j' u hu=> ?_⟩
  have hk2:k'<xs[k].length:=by simpa using hk'
  have h0:=hc j hj 0 _ rfl
  simp only[Nat.add_zero]at h0
  obtain⟨z0,_⟩:=Array.getElem?_eq_some_iff.1 h0
  rw[List.getElem_set]at hu
  by_cases e2:j=k'
  ·subst e2
   rw[if_pos rfl]at hu
   match j',hu with
   | 0,hu=>simp[spanC]at hu;simp[Array.getElem?_setIfInBounds,z0,hu]
   | 1,hu =>
    have h1:=hc j hj 1 _ rfl
    simp[spanC]at hu
    rw[Array.getElem?_setIfInBounds,if_neg (by omega),h1,hx,hu]
   | j'+2,hu=>simp[spanC]at hu
  ·rw[if_neg e2]at hu
   have h1:=hc k' hk2 j' u hu
   have hj2:j'<2:=by
    match j',hu with
    | 0,_=>omega
    | 1,_=>omega
    | j'+2,hu=>simp[spanC]at hu
   rw[Array.getElem?_setIfInBounds,if_neg (by omega)]
   exact h1
 ·rw[if_neg e]
  exact⟨l1,l2,l3.other (by simpa using(h5 k i hk hi' e)) _⟩
theorem OwnRows.of_own {n:Nat} {w:World} {base:Nat} {v:Value} {L:List (List (Int×Int)×Value)} (hn:n≤base) (h0:0<L.length) (h:w.ownsRow base 31 1 v L.length (L.map Prod.snd)) (hi:∀p∈L,ApartS n w p) (hp:L.Pairwise fun p q=>p.2.ownBlock≠q.2.ownBlock):OwnRows n w v (L.map Prod.fst):=by
 rcases h.2 with⟨_,e⟩|⟨g,cap',cur,hv,hb,hg,_,_,hcs,htk⟩
 ·omega
 ·have hA:∀i (h:i<L.length),∃gc:Nat×Nat,L[i].2= .slice (some ⟨gc.1,0,none⟩) L[i].1.length gc.2∧RowB spanC 2 25 w gc.1 L[i].1∧n≤gc.1:=fun i h=>by
   obtain⟨g',c',e1,e2,e3⟩:=hi L[i] (List.getElem_mem h)
   exact⟨(g',c'),e1,e2,e3⟩
  have hF:∃f:Nat→Nat×Nat,∀i (h:i<L.length),L[i].2= .slice (some ⟨(f i).1,0,none⟩) L[i].1.length (f i).2∧RowB spanC 2 25 w (f i).1 L[i].1∧n≤(f i).1 :=
   ⟨fun i=>if h:i<L.length then(hA i h).choose else(0,0),fun i h=>by simp only[dif_pos h];exact(hA i h).choose_spec⟩
  obtain⟨f,hf⟩:=hF
  refine⟨g,cap',fun i=>(f i).1,fun i=>(f i).2,cur,by rw[hv];simp,by omega,hg,fun i hi'=> ?_,fun i j h1 h2 hne=> ?_⟩
  ·have hi2:i<L.length:=by simpa using hi'
   obtain⟨e1,e2,e3⟩:=hf i hi2
   refine⟨?_,e3,by simpa using e2⟩
   have h1:(L.map Prod.snd)[i]? =some L[i].2:=by simp[hi2]
   rw[← htk,List.getElem?_take]at h1
   rw[if_pos (by omega)]at h1
   rw[Array.getElem?_toList]at h1
   rw[h1,e1];simp
  ·have h1':i<L.length:=by simpa using h1
   have h2':j<L.length:=by simpa using h2
   have e1:=(hf i h1').1
   have e2:=(hf j h2').1
   intro he
   rw[List.pairwise_iff_getElem]at hp
   rcases Nat.lt_or_ge i j with hlt|hge
   ·refine hp i j h1' h2' hlt ?_
    rw[e1,e2];simp[Value.ownBlock,he]
   ·refine hp j i h2' h1' (by omega) ?_
    rw[e1,e2];simp[Value.ownBlock,he]
theorem ListsF.five {n b:Nat} {w:World} {v:Value} {xs:List (List Int)} (h:ListsF n w v xs) (hb:b<n) (u0 u1 u2 u3 u4:Value):Lists (((((w.setCell ⟨b,0,none⟩ u0).setCell ⟨b,1,none⟩ u1).setCell ⟨b,2,none⟩ u2).setCell ⟨b,3,none⟩ u3).setCell ⟨b,4,none⟩ u4) v xs:=(h.of2 hb ((((((Of2.refl b b w).set (a:=⟨b,0,none⟩) (.inl rfl) u0).set (a:=⟨b,1,none⟩) (.inl rfl) u1).set (a:=⟨b,2,none⟩) (.inl rfl) u2).set (a:=⟨b,3,none⟩) (.inl rfl) u3).set (a:=⟨b,4,none⟩) (.inl rfl) u4)).lists
theorem _root_.Go.Proofs.YtgloajbgphcloaaGreat.Ext.five {b:Nat} {w1 w:World} (h:Ext w1 w) (hb:w1.heap.size≤b) (u0 u1 u2 u3 u4:Value):Ext w1 (((((w.setCell ⟨b,0,none⟩ u0).setCell ⟨b,1,none⟩ u1).setCell ⟨b,2,none⟩ u2).setCell ⟨b,3,none⟩ u3).setCell ⟨b,4,none⟩ u4):=(((((h.setCell (p:=⟨b,0,none⟩) hb u0).setCell (p:=⟨b,1,none⟩) hb u1).setCell (p:=⟨b,2,none⟩) hb u2).setCell (p:=⟨b,3,none⟩) hb u3).setCell (p:=⟨b,4,none⟩) hb u4)
theorem follow_any' (r:R.Reef) (plan:List Int) (t:R.Truth) (vp vl vs vg vt:Value) (w:World) (hP:Places w vp r.places) (hL:Ints w vl plan) (hS:Ints w vs t.starts) (hG:Lists w vg t.grows) (hT:Lists w vt t.takes)
  (O:R.OkR r) (T:R.OkT r plan t) :
  Calls Tryz.prog 120 #[.agg (planV r vp vl),.agg (truthV vs vg vt)] w fun x w'=>∃v a b c d e,x= .returned (.tuple #[v,.agg #[.int .i64 a,.int .i64 b,.int .i64 c,.int .i64 d,.int .i64 e]])∧ListsF w.heap.size w' v (R.fishOf r t)∧Ext w w' :=
 (follow_any r plan t vp vl vs vg vt w hP hL hS hG hT O T).mono fun _ _ ⟨v,h1,h2,h3⟩=>⟨v,_,_,_,_,_,h1,h2,h3⟩
end Go.Proofs.YtgloajbgphcloaaGreat.Rf
namespace Go.Proofs.YtgloajbgphcloaaGreat.Rf
set_option linter.unusedVariables false
set_option linter.unusedSimpArgs false
open Go.RowKit
def OnRet (R:Act→World→Prop):Exit→Act→World→Prop
 | .ret,a,w=>R a w
 | _,_,_=>False
theorem wp_scope_ret {P:Program} {c:Code} {Q:Exit→Act→World→Prop} {a:Act} {w:World} (h:∀R:Act→World→Prop,(∀ a w,Q .ret a w→R a w)→c.wp P (OnRet R) a w):(Code.scope c).wp P Q a w:=by
 refine wp_scope_straight (Code.wp_mono ?_ (h (fun a w=>Q .ret a w) fun _ _ q=>q))
 intro e a w hq
 cases e<;>first|exact hq|exact hq.elim
theorem R.least_step (h:Int→Bool) (f:Nat) (low high:Int) (hne:low≠high):R.least h (f+1) low high=if h (low+(high - low)/2)then R.least h f low (low+(high - low)/2)else R.least h f (low+(high - low)/2+1) high:=by
 show(if low=high then low else _)=_
 rw[if_neg hne]
theorem R.least_end (h:Int→Bool) (f:Nat) (low:Int):R.least h f low low=low:=by
 cases f with
 | zero=>rfl
 | succ f=>show(if low=low then low else _)=low;rw[if_pos rfl]
theorem half_bd {d:Int} {f:Nat} (h0:0<d) (h:d<2^(f+1)):d/2<2^f∧d - d/2 - 1<2^f:=by
 rw[Int.pow_succ]at h
 omega
end Go.Proofs.YtgloajbgphcloaaGreat.Rf
