/- The law ReefTaken: its helpers; a place where more is taken when it is closed; no quota. -/
import Derived.Test.YtgloajbgphcloaaGreatCo
import Derived.Test.YtgloajbgphcloaaGreatRg
import Derived.Test.YtgloajbgphcloaaGreatRfD1
import Derived.Laws.StructEq
import Derived.Test.YtgloajbgphcloaaGreatRfF1
import Derived.Test.YtgloajbgphcloaaGreatRfG1
import Derived.Test.YtgloajbgphcloaaGreatRfG6
import Derived.Maps.OwnOps
import Derived.Deep.RegionHeld3
import Derived.Deep.CutRange
import Derived.WalkMore
import Derived.Test.YtgloajbgphcloaaGreatRfD4
import Derived.Test.YtgloajbgphcloaaGreatRfG3
import Derived.Test.YtgloajbgphcloaaGreatRfD12
import Derived.Test.YtgloajbgphcloaaGreatRfPl
namespace Go.Proofs.YtgloajbgphcloaaGreat.Rf
set_option linter.unusedVariables false
set_option linter.unusedSimpArgs false
open Go.RowKit
open Bool renaming and_eq_true → Qa
theorem rows_ok {r:R.Reef} {plan:List Int} {t:R.Truth} (O:R.OkR r) (T:R.OkT r plan t):∀l∈R.fishOf r t,l.length=r.places.length∧∀x∈l,0≤x∧x≤1000000000:=by
 intro l hl
 obtain⟨i,hi,rfl⟩:=List.getElem_of_mem hl
 rw[R.fishOf_len]at hi
 have h1:=R.fishOf_row O T (s:=i) hi
 rw[R.lat_at (by rw[R.fishOf_len];exact hi)]at h1
 refine⟨h1,fun x hx=> ?_⟩
 obtain⟨j,hj,rfl⟩:=List.getElem_of_mem hx
 have h2:=R.fishOf_bd O T (s:=i) hi j
 rw[R.lat_at (by rw[R.fishOf_len];exact hi),R.iat_at hj]at h2
 omega
theorem last_row {r:R.Reef} (t:R.Truth) {q:Nat} (hq:r.seasons.toNat=q+1) (h:q<(R.fishOf r t).length):(R.fishOf r t)[q]=(R.endOf r t).fish:=by
 have:=R.fishOf_at r t (s:=q) (by omega)
 rw[R.lat_at h]at this
 rw[this]
 unfold R.endOf
 rw[hq]
theorem right_limited {r:R.Reef} {plan:List Int} (h:rightB r plan=true) (k:Nat) (hk:k<r.places.length) (m:Int) (hm:0≤m) (h1:(R.pat (R.limited r k m).places k).sl≤(R.pat (R.limited r k m).places k).ol) (h2:(R.pat (R.limited r k m).places k).sh≤(R.pat (R.limited r k m).places k).oh):rightB (R.limited r k m) plan=true:=by
 unfold rightB at h ⊢
 rw[Qa]at h ⊢
 refine⟨?_,?_⟩
 ·have O:=R.okR_of h.1
  have hb:=h.1
  unfold R.reefB R.goodTo at hb ⊢
  rw[R.limited_len]
  simp only[Qa,List.all_eq_true,List.mem_range]at hb ⊢
  refine⟨⟨⟨fun i hi=> ?_,hb.1.1.2⟩,hb.1.2⟩,hb.2⟩
  have hp:=hb.1.1.1 i hi
  by_cases e:k=i
  ·subst e
   have P:=O.place k hk
   rw[R.pat_limited r k m hk,if_pos rfl]at h1 h2 ⊢
   dsimp only at h1 h2
   unfold R.placeB R.within R.spanB at hp ⊢
   simp only[Qa,decide_eq_true_eq,Bool.not_eq_true',decide_eq_false_iff_not]at hp ⊢
   have o0:=P.o0;have o1:=P.o1;have o2:=P.o2
   obtain⟨⟨⟨⟨⟨a,b⟩,c⟩,d⟩,e1⟩,i1⟩:=hp
   refine⟨⟨⟨⟨⟨a,?_⟩,c⟩,h1⟩,h2⟩,i1⟩
   refine⟨⟨?_,?_⟩,?_⟩
   ·split<;>omega
   ·split<;>split<;>omega
   ·split<;>omega
  ·rw[R.pat_limited r k m hk,if_neg e];exact hp
 ·exact R.okL_iff.2 (R.okL_limited (R.okL_iff.1 h.2) k m)
end Go.Proofs.YtgloajbgphcloaaGreat.Rf
