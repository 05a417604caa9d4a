/- TopFished without the program: what is sold is no more than all berths; no more than the quota leaves each place its goal. -/
import Derived.Test.YtgloajbgphcloaaGreatFlB
import Derived.Test.YtgloajbgphcloaaGreatRfG6
import Derived.Test.YtgloajbgphcloaaGreatRfL10a
namespace Go.Proofs.YtgloajbgphcloaaGreat.Fl
set_option linter.unusedVariables false
set_option linter.unusedSimpArgs false
open Go.RowKit
def soldD (l:List Bid) (sale:Nat) (z d:Int) (k:Nat):Nat:=(soldTo l sale k).countP fun b=>covers b z d
theorem soldD_succ (l:List Bid) (sale:Nat) (z d:Int) (k:Nat):soldD l sale z d (k+1)=soldD l sale z d k+if sale.testBit k&&covers (l.getD k default) z d then 1 else 0:=by
 unfold soldD
 rw[soldTo_succ,List.countP_append]
 cases sale.testBit k<;>simp[List.countP_cons]
theorem soldD_all (l:List Bid) (sale:Nat) (z d:Int):soldD l sale z d l.length=sold l sale z d:=by
 unfold soldD sold
 rw[soldTo_all]
theorem soldD_le (l:List Bid) (sale:Nat) (z d:Int) (k:Nat) (h:k≤l.length):soldD l sale z d k≤l.length:=by
 unfold soldD
 refine Nat.le_trans List.countP_le_length (Nat.le_trans ?_ (soldL_len l sale))
 exact(soldTo_pre l sale h).length_le
def manyTo (l:List Bid) (sale:Nat) (z:Int):Nat→Nat
 | 0=>0
 | d+1=>manyTo l sale z d+sold l sale z d
theorem many_le {s:Sea} {l:List Bid} {sale z:Nat} (h:over s l sale=false) (hz:z<s.berths.length):∀d:Nat,(d:Int)≤s.days→(manyTo l sale z d:Int)≤iat s.berths z*d
 | 0,_=>by simp[manyTo]
 | d+1,hd=>by
  have ih:=many_le h hz d (by omega)
  unfold over zoneOver dayOver at h
  simp only[List.any_eq_false,List.mem_range,decide_eq_true_eq,Bool.not_eq_true]at h
  have:=h z hz d (by omega)
  unfold manyTo
  have e:iat s.berths z*((d+1:Nat):Int)=iat s.berths z*d+iat s.berths z:=by
   rw[Int.natCast_add,Int.mul_add];simp
  rw[e];omega
theorem many_small (l:List Bid) (sale:Nat) (z:Int) (hl:l.length≤10):∀d:Nat,manyTo l sale z d≤10*d
 | 0=>Nat.le_refl _
 | d+1=>by
  have:=many_small l sale z hl d
  have:=sold_le l sale z d
  unfold manyTo;omega
theorem has_bit (n i:Nat):Rf.R.has (n:Int) i=n.testBit i:=by
 unfold Rf.R.has
 rw[Nat.testBit_eq_decide_div_mod_eq,decide_eq_decide]
 have:((n:Int)/2^i%2)=((n/2^i%2:Nat):Int):=by simp
 rw[this];omega
end Go.Proofs.YtgloajbgphcloaaGreat.Fl
namespace Go.Proofs.YtgloajbgphcloaaGreat.Rf
set_option linter.unusedVariables false
set_option linter.unusedSimpArgs false
theorem quota_ask {r:R.Reef} {plan:List Int} {k:Nat} (hr:R.reefB r=true) (hp:R.planB r plan=true) (hk:k<r.places.length):quotaAsk r plan k=true:=by
 unfold quotaAsk rightB R.within
 rw[hr,hp];simp;omega
theorem fished_law {r:R.Reef} {plan:List Int} {k:Nat} {m:Int} {t:R.Truth} (hr:R.reefB r=true) (hp:R.planB r plan=true) (hk:k<r.places.length) (h0:0≤m) (hq:quotaCode r plan k=0) (hm:m≤quotaOf r plan k)
  (h1:(R.pat (R.limited r k m).places k).sl≤(R.pat (R.limited r k m).places k).ol) (h2:(R.pat (R.limited r k m).places k).sh≤(R.pat (R.limited r k m).places k).oh) (hT:R.truthB (R.limited r k m) plan t=true) :
  rightB (R.limited r k m) plan=true∧∀i,i<r.places.length→(R.pat r.places i).goal≤R.iat (R.endOf (R.limited r k m) t).fish i:=by
 have hA:=quota_ask hr hp hk
 have hR:rightB r plan=true:=by unfold rightB;rw[hr,hp];rfl
 have hRL:=right_limited hR k hk m h0 h1 h2
 refine⟨hRL,fun i hi=> ?_⟩
 unfold rightB at hRL
 rw[Bool.and_eq_true]at hRL
 have O:=R.okR_of hr
 have OL:=R.okR_of hRL.1
 unfold quotaCode at hq
 unfold quotaOf at hm
 rw[if_pos hA]at hq hm
 have hN0:quotaN r plan k≠0:=fun e=>by rw[if_pos e]at hq;cases hq
 rw[if_neg hN0]at hm
 have hN:quotaN r plan k=R.least (quotaB r plan k) 40 0 1000001:=by simp[quotaN]
 rw[hN]at hm hN0
 have M:=R.short_mono O plan k hk
 have e:(fun m=>(R.short (R.limited r k m) plan).isSome)=quotaB r plan k:=by
  funext m;unfold quotaB;cases R.short (R.limited r k m) plan<;>rfl
 rw[e]at M
 obtain⟨_,_,_,hl⟩:=R.least_spec M 40 0 1000001 (by omega) (by omega) (by decide)
 have hb:=hl m h0 (by omega)
 have hs:R.short (R.limited r k m) plan=none:=by
  unfold quotaB at hb
  cases hh:R.short (R.limited r k m) plan with
  | none=>rfl
  | some x=>rw[hh]at hb;cases hb
 have hg:=(R.short_none OL plan).1 hs i (by rw[R.limited_len];exact hi)
 have hb2:=R.end_between OL (R.okT_iff.1 hT) i
 have hp:=R.pat_limited r k m hk i
 have:(R.pat (R.limited r k m).places i).goal=(R.pat r.places i).goal:=by
  rw[hp]
  split
  ·rename_i e;subst e;rfl
  ·rfl
 omega
end Go.Proofs.YtgloajbgphcloaaGreat.Rf
