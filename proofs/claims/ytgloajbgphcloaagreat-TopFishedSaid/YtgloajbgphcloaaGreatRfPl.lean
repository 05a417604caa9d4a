/- The reef, without the program: what is as defined, and what becomes of the fish in truth. What being as defined says, in inequalities. No fish is lost: what holds through the steps of a season. Both ends are truths; how long the lists of fish are. More fish, faster growth and fewer takes never leave fewer fish. -/
import Derived.Test.YtgloajbgphcloaaGreatCo
import Derived.Test.YtgloajbgphcloaaGreatRg
namespace Go.Proofs.YtgloajbgphcloaaGreat.Rf.R
set_option linter.unusedVariables false
set_option linter.unusedSimpArgs false
structure Place where
 count:Int
 room:Int
 gl:Int
 gh:Int
 drift:Int
 into:Int
 ol:Int
 oh:Int
 sl:Int
 sh:Int
 goal:Int
 worth:Int
 deriving DecidableEq,Inhabited
structure Reef where
 places:List Place
 miss:Int
 seasons:Int
structure Truth where
 starts:List Int
 grows:List (List Int)
 takes:List (List Int)
structure Ledger where
 start:Int
 grown:Int
 taken:Int
 gone:Int
 left:Int
 deriving DecidableEq
def within (x lo hi:Int):Bool:=decide (lo≤x)&&decide (x≤hi)
def spanB (l h m:Int):Bool:=decide (0≤l)&&decide (l≤h)&&decide (h≤m)
def placeB (p:Place) (i n:Int):Bool :=
 within p.count 0 1000000&&within p.room 0 1000000&&within p.goal 0 1000000&&spanB p.gl p.gh 2000&&within p.drift 0 1000&&within p.into (-1) (n - 1)&& !decide (p.into=i) &&
 spanB p.ol p.oh 1000000&&spanB p.sl p.sh 1000000&&decide (p.sl≤p.ol)&&decide (p.sh≤p.oh)&&within p.worth 0 1000000
abbrev pat (l:List Place) (i:Nat):Place:=l.getD i default
abbrev iat (l:List Int) (i:Nat):Int:=l.getD i 0
abbrev lat (l:List (List Int)) (i:Nat):List Int:=l.getD i []
def goodTo (ps:List Place) (k:Nat):Bool:=(List.range k).all fun i=>placeB (pat ps i) i ps.length
theorem goodTo_succ (ps:List Place) (k:Nat):goodTo ps (k+1)=(goodTo ps k&&placeB (pat ps k) k ps.length):=by
 unfold goodTo;rw[List.range_succ,List.all_append];simp
def reefB (r:Reef):Bool:=goodTo r.places r.places.length&&within r.places.length 1 4&&within r.miss 0 2000&&within r.seasons 1 4
def sets (r:Reef):Int:=2^r.places.length
def planB (r:Reef) (l:List Int):Bool:=l.all (fun x=>within x 0 (sets r - 1))&&decide ((l.length:Int)=r.seasons)
def has (set:Int) (i:Nat):Bool:=decide (set/2^i%2=1)
def most (r:Reef) (c:Int):Int:=c+c*r.miss/1000
def take (p:Place) (closed:Bool):Int×Int:=if closed then(p.sl,p.sh)else(p.ol,p.oh)
def startsTo (r:Reef) (t:Truth) (k:Nat):Bool:=(List.range k).all fun i=>within (iat t.starts i) (pat r.places i).count (most r (pat r.places i).count)
def rowTo (r:Reef) (plan:List Int) (t:Truth) (s k:Nat):Bool :=
 (List.range k).all fun i=>within (iat (lat t.grows s) i) (pat r.places i).gl (pat r.places i).gh&&within (iat (lat t.takes s) i) (take (pat r.places i) (has (iat plan s) i)).1 (take (pat r.places i) (has (iat plan s) i)).2
def seasonB (r:Reef) (plan:List Int) (t:Truth) (s:Nat):Bool :=
 decide ((lat t.grows s).length=r.places.length)&&decide ((lat t.takes s).length=r.places.length)&&rowTo r plan t s r.places.length
def seasonsTo (r:Reef) (plan:List Int) (t:Truth) (k:Nat):Bool:=(List.range k).all fun s=>seasonB r plan t s
def lensB (r:Reef) (t:Truth):Bool:=decide (t.starts.length=r.places.length)&&decide ((t.grows.length:Int)=r.seasons)&&decide ((t.takes.length:Int)=r.seasons)
def truthB (r:Reef) (plan:List Int) (t:Truth):Bool:=lensB r t&&startsTo r t r.places.length&&seasonsTo r plan t r.seasons.toNat
theorem startsTo_succ (r:Reef) (t:Truth) (k:Nat):startsTo r t (k+1)=(startsTo r t k&&within (iat t.starts k) (pat r.places k).count (most r (pat r.places k).count)):=by
 unfold startsTo;rw[List.range_succ,List.all_append];simp
theorem rowTo_succ (r:Reef) (plan:List Int) (t:Truth) (s k:Nat):rowTo r plan t s (k+1)=(rowTo r plan t s k&&(within (iat (lat t.grows s) k) (pat r.places k).gl (pat r.places k).gh&&within (iat (lat t.takes s) k) (take (pat r.places k) (has (iat plan s) k)).1 (take (pat r.places k) (has (iat plan s) k)).2)):=by
 unfold rowTo;rw[List.range_succ,List.all_append];simp
theorem seasonsTo_succ (r:Reef) (plan:List Int) (t:Truth) (k:Nat):seasonsTo r plan t (k+1)=(seasonsTo r plan t k&&seasonB r plan t k):=by
 unfold seasonsTo;rw[List.range_succ,List.all_append];simp
def grown (p:Place) (f g:Int):Int:=if p.room≤f then 0 else if f*g/1000<p.room - f then f*g/1000 else p.room - f
abbrev St:=List Int×Int
def growStep (ps:List Place) (gs:List Int) (st:St) (i:Nat):St :=
 (st.1.set i (iat st.1 i+grown (pat ps i) (iat st.1 i) (iat gs i)),st.2+grown (pat ps i) (iat st.1 i) (iat gs i))
def growTo (ps:List Place) (gs:List Int) (st:St) (k:Nat):St:=(List.range k).foldl (growStep ps gs) st
def goes (p:Place) (n:Int):Int:=n*p.drift/1000
def driftStep (ps:List Place) (now:List Int) (st:St) (i:Nat):St :=
 let n:=goes (pat ps i) (iat now i)
 let fish:=st.1.set i (iat st.1 i - n)
 if 0≤(pat ps i).into then(fish.set (pat ps i).into.toNat (iat fish (pat ps i).into.toNat+n),st.2)else(fish,st.2+n)
def driftTo (ps:List Place) (now:List Int) (st:St) (k:Nat):St:=(List.range k).foldl (driftStep ps now) st
def caught (f k:Int):Int:=if f<k then f else k
def takeStep (ks:List Int) (st:St) (i:Nat):St:=(st.1.set i (iat st.1 i - caught (iat st.1 i) (iat ks i)),st.2+caught (iat st.1 i) (iat ks i))
def takeTo (ks:List Int) (st:St) (k:Nat):St:=(List.range k).foldl (takeStep ks) st
theorem growTo_succ (ps:List Place) (gs:List Int) (st:St) (k:Nat):growTo ps gs st (k+1)=growStep ps gs (growTo ps gs st k) k:=by
 unfold growTo;rw[List.range_succ,List.foldl_append];rfl
theorem driftTo_succ (ps:List Place) (now:List Int) (st:St) (k:Nat):driftTo ps now st (k+1)=driftStep ps now (driftTo ps now st k) k:=by
 unfold driftTo;rw[List.range_succ,List.foldl_append];rfl
theorem takeTo_succ (ks:List Int) (st:St) (k:Nat):takeTo ks st (k+1)=takeStep ks (takeTo ks st k) k:=by
 unfold takeTo;rw[List.range_succ,List.foldl_append];rfl
structure State where
 fish:List Int
 grown:Int
 gone:Int
 taken:Int
def season (ps:List Place) (gs ks:List Int) (x:State):State :=
 let a:=growTo ps gs (x.fish,x.grown) ps.length
 let b:=driftTo ps a.1 (a.1,x.gone) ps.length
 let c:=takeTo ks (b.1,x.taken) ps.length
 ⟨c.1,a.2,b.2,c.2⟩
def stateAt (r:Reef) (t:Truth):Nat→State
 | 0=>⟨t.starts,0,0,0⟩
 | k+1=>season r.places (lat t.grows k) (lat t.takes k) (stateAt r t k)
def sumL (l:List Int):Int:=l.sum
def fishOf (r:Reef) (t:Truth):List (List Int):=(List.range r.seasons.toNat).map fun s=>(stateAt r t (s+1)).fish
def endOf (r:Reef) (t:Truth):State:=stateAt r t r.seasons.toNat
def ledger (r:Reef) (t:Truth):Ledger:=⟨sumL t.starts,(endOf r t).grown,(endOf r t).taken,(endOf r t).gone,sumL (endOf r t).fish⟩
def endT (r:Reef) (plan:List Int) (many:Bool):Truth :=
 ⟨r.places.map fun p=>if many then most r p.count else p.count,
  (List.range r.seasons.toNat).map fun _=>r.places.map fun p=>if many then p.gh else p.gl,
  (List.range r.seasons.toNat).map fun s=>(List.range r.places.length).map fun i=>if many then(take (pat r.places i) (has (iat plan s) i)).1 else(take (pat r.places i) (has (iat plan s) i)).2⟩
def shortFrom:List Place→List Int→Nat→Option (Nat×Int)
 | p::ps,n::ns,i=>if n<p.goal then some (i,p.goal - n)else shortFrom ps ns (i+1)
 | _,_,_=>none
def short (r:Reef) (plan:List Int):Option (Nat×Int):=shortFrom r.places (endOf r (endT r plan false)).fish 0
def limited (r:Reef) (i:Nat) (m:Int):Reef :=
 { r with places:=r.places.set i { pat r.places i with ol:=if(pat r.places i).ol<m then(pat r.places i).ol else m,oh:=if(pat r.places i).oh<m then(pat r.places i).oh else m } }
def least (h:Int→Bool):Nat→Int→Int→Int
 | 0,low,_=>low
 | f+1,low,high=>if low=high then low else
  let mid:=low+(high - low)/2
  if h mid then least h f low mid else least h f (mid+1) high
end Go.Proofs.YtgloajbgphcloaaGreat.Rf.R
namespace Go.Proofs.YtgloajbgphcloaaGreat.Rf.R
set_option linter.unusedVariables false
set_option linter.unusedSimpArgs false
open Bool renaming and_eq_true → Qa
open List renaming all_eq_true → Qb
structure OkP (p:Place) (i n:Int):Prop where
 c0:0≤p.count
 c1:p.count≤1000000
 r0:0≤p.room
 r1:p.room≤1000000
 g0:0≤p.gl
 g1:p.gl≤p.gh
 g2:p.gh≤2000
 d0:0≤p.drift
 d1:p.drift≤1000
 i0: -1≤p.into
 i1:p.into<n
 i2:p.into≠i
 o0:0≤p.ol
 o1:p.ol≤p.oh
 o2:p.oh≤1000000
 s0:0≤p.sl
 s1:p.sl≤p.sh
 s2:p.sh≤1000000
 w0:0≤p.worth
 w1:p.worth≤1000000
 l0:0≤p.goal
 l1:p.goal≤1000000
theorem okP_of {p:Place} {i n:Int} (h:placeB p i n=true):OkP p i n:=by
 unfold placeB within spanB at h
 simp only[Qa,decide_eq_true_eq,Bool.not_eq_true',decide_eq_false_iff_not]at h
 constructor<;>first|omega|exact h.1.1.1.1.1.2
structure OkR (r:Reef):Prop where
 n1:1≤r.places.length
 n4:r.places.length≤4
 m0:0≤r.miss
 m1:r.miss≤2000
 s1:1≤r.seasons
 s4:r.seasons≤4
 place:∀i,i<r.places.length→OkP (pat r.places i) i r.places.length
theorem okR_of {r:Reef} (h:reefB r=true):OkR r:=by
 unfold reefB goodTo within at h
 simp only[Qa,decide_eq_true_eq,Qb,List.mem_range]at h
 obtain⟨⟨⟨h1,h2⟩,h3⟩,h4⟩:=h
 exact⟨by omega,by omega,by omega,by omega,by omega,by omega,fun i hi=>okP_of (h1 i hi)⟩
theorem okR_limited {r:Reef} (O:OkR r) (k:Nat) (m:Int) (hk:k<r.places.length) (hm:0≤m):OkR (limited r k m):=by
 have hl:(limited r k m).places.length=r.places.length:=by simp[limited]
 have hp:∀i,pat (limited r k m).places i=if k=i then { pat r.places k with ol:=if(pat r.places k).ol<m then(pat r.places k).ol else m,oh:=if(pat r.places k).oh<m then(pat r.places k).oh else m } else pat r.places i:=fun i=>by
  unfold limited pat
  rw[List.getD_eq_getElem?_getD,List.getElem?_set]
  by_cases e:k=i
  ·subst e;simp[hk]
  ·simp[e]
 refine⟨by rw[hl];exact O.n1,by rw[hl];exact O.n4,O.m0,O.m1,O.s1,O.s4,fun i hi=> ?_⟩
 rw[hl]at hi ⊢
 rw[hp]
 by_cases e:k=i
 ·subst e
  rw[if_pos rfl]
  have h:=O.place k hi
  exact⟨h.c0,h.c1,h.r0,h.r1,h.g0,h.g1,h.g2,h.d0,h.d1,h.i0,h.i1,h.i2,by have:=h.o0;dsimp only;split<;>omega,by have:=h.o1;dsimp only;split<;>split<;>omega,by have:=h.o2;dsimp only;split<;>omega,h.s0,h.s1,h.s2,h.w0,h.w1,h.l0,h.l1⟩
 ·rw[if_neg e];exact O.place i hi
theorem two_pow (n:Nat) (hn:n≤4):1≤(2:Int)^n∧(2:Int)^n≤16:=by
 have:n=0∨n=1∨n=2∨n=3∨n=4:=by omega
 rcases this with rfl|rfl|rfl|rfl|rfl<;>decide
structure OkL (r:Reef) (l:List Int):Prop where
 len:(l.length:Int)=r.seasons
 bit:∀s (h:s<l.length),0≤l[s]∧l[s]<2^r.places.length
theorem okL_iff {r:Reef} {l:List Int} :planB r l=true↔OkL r l:=by
 unfold planB sets within
 simp only[Qa,decide_eq_true_eq,Qb]
 constructor
 ·rintro⟨h1,h2⟩
  exact⟨h2,fun s hs=>by have:=h1 _ (List.getElem_mem hs);omega⟩
 ·rintro⟨h1,h2⟩
  refine⟨fun x hx=> ?_,h1⟩
  obtain⟨s,hs,rfl⟩:=List.getElem_of_mem hx
  have:=h2 s hs
  omega
theorem okL_limited {r:Reef} {l:List Int} (L:OkL r l) (k:Nat) (m:Int):OkL (limited r k m) l :=
 ⟨L.len,fun s h=>by have:=L.bit s h;simpa[limited]using this⟩
structure OkT (r:Reef) (plan:List Int) (t:Truth):Prop where
 ls:t.starts.length=r.places.length
 lg:(t.grows.length:Int)=r.seasons
 lt:(t.takes.length:Int)=r.seasons
 start:∀i,i<r.places.length→(pat r.places i).count≤iat t.starts i∧iat t.starts i≤most r (pat r.places i).count
 gl:∀s,s<r.seasons.toNat→(lat t.grows s).length=r.places.length
 tl:∀s,s<r.seasons.toNat→(lat t.takes s).length=r.places.length
 grow:∀s,s<r.seasons.toNat→∀i,i<r.places.length→(pat r.places i).gl≤iat (lat t.grows s) i∧iat (lat t.grows s) i≤(pat r.places i).gh
 take:∀s,s<r.seasons.toNat→∀i,i<r.places.length→(take (pat r.places i) (has (iat plan s) i)).1≤iat (lat t.takes s) i∧iat (lat t.takes s) i≤(R.take (pat r.places i) (has (iat plan s) i)).2
theorem okT_iff {r:Reef} {plan:List Int} {t:Truth} :truthB r plan t=true↔OkT r plan t:=by
 unfold truthB lensB startsTo seasonsTo seasonB rowTo within
 simp only[Qa,decide_eq_true_eq,Qb,List.mem_range]
 constructor
 ·rintro⟨⟨⟨⟨h1,h2⟩,h3⟩,h4⟩,h5⟩
  exact⟨h1,h2,h3,h4,fun s hs=>(h5 s hs).1.1,fun s hs=>(h5 s hs).1.2,fun s hs i hi=>((h5 s hs).2 i hi).1,fun s hs i hi=>((h5 s hs).2 i hi).2⟩
 ·rintro⟨h1,h2,h3,h4,h5,h6,h7,h8⟩
  exact⟨⟨⟨⟨h1,h2⟩,h3⟩,h4⟩,fun s hs=>⟨⟨h5 s hs,h6 s hs⟩,fun i hi=>⟨h7 s hs i hi,h8 s hs i hi⟩⟩⟩
end Go.Proofs.YtgloajbgphcloaaGreat.Rf.R
namespace Go.Proofs.YtgloajbgphcloaaGreat.Rf.R
set_option linter.unusedVariables false
set_option linter.unusedSimpArgs false
open Nat renaming le_refl → Qc
theorem sum_set:∀(l:List Int) (i:Nat) (x:Int),i<l.length→(l.set i x).sum=l.sum - iat l i+x
 | a::l,0,x,_=>by simp[iat];omega
 | a::l,i+1,x,h=>by
  have:=sum_set l i x (by simpa using h)
  simp[iat]at this ⊢;omega
theorem iat_set (l:List Int) (i j:Nat) (x:Int) (h:i<l.length):iat (l.set i x) j=if i=j then x else iat l j:=by
 unfold iat
 rw[List.getD_eq_getElem?_getD,List.getElem?_set]
 by_cases e:i=j
 ·subst e;simp[h]
 ·simp[e]
theorem iat_le_sum:∀(l:List Int) (i:Nat),(∀ j,0≤iat l j)→iat l i≤l.sum
 | [],i,_=>by simp[iat]
 | a::l,0,h=>by
  have h2:∀j,0≤iat l j:=fun j=>by simpa[iat]using h (j+1)
  have h3:=sum_nn l h2
  simp[iat];omega
 | a::l,i+1,h=>by
  have h0:=h 0
  have h2:=iat_le_sum l i (fun j=>by simpa[iat]using h (j+1))
  simp[iat]at h0 h2 ⊢;omega
where
 sum_nn:∀(l:List Int),(∀ j,0≤iat l j)→0≤l.sum
  | [],_=>by simp
  | a::l,h=>by
   have h0:=h 0
   have:=sum_nn l (fun j=>by simpa[iat]using h (j+1))
   simp[iat]at h0 ⊢;omega
theorem sum_nn (l:List Int) (h:∀j,0≤iat l j):0≤l.sum:=iat_le_sum.sum_nn l h
theorem iat_out (l:List Int) (i:Nat) (h:l.length≤i):iat l i=0:=by simp[iat,h]
theorem grown_bd {p:Place} {i n f g:Int} (O:OkP p i n) (hf:0≤f) (hg:0≤g):0≤grown p f g∧grown p f g≤1000000:=by
 have hm:0≤f*g:=Int.mul_nonneg hf hg
 have:=O.r0;have:=O.r1
 unfold grown
 split
 ·omega
 ·split<;>omega
structure GInv (fish:List Int) (g0:Int) (k:Nat) (st:St):Prop where
 len:st.1.length=fish.length
 nn:∀i,0≤iat st.1 i
 sum:st.1.sum - st.2=fish.sum - g0
 lo:g0≤st.2
 hi:st.2≤g0+1000000*k
 old:∀i,k≤i→iat st.1 i=iat fish i
theorem growTo_inv {ps:List Place} {gs fish:List Int} {g0 n:Int} (hl:fish.length=ps.length) (hf:∀i,0≤iat fish i) (O:∀i,i<ps.length→OkP (pat ps i) i n) (hg:∀i,i<ps.length→0≤iat gs i) :
  ∀k,k≤ps.length→GInv fish g0 k (growTo ps gs (fish,g0) k)
 | 0,_=>⟨rfl,hf,rfl,Int.le_refl _,by show g0≤_;omega,fun _ _=>rfl⟩
 | k+1,hk=>by
  have h:=growTo_inv (g0:=g0) hl hf O hg k (by omega)
  obtain⟨st,hst⟩:∃st,growTo ps gs (fish,g0) k=st:=⟨_,rfl⟩
  rw[growTo_succ,hst]
  rw[hst]at h
  have hlt:k<st.1.length:=by rw[h.len];omega
  have hb:=grown_bd (O k (by omega)) (h.nn k) (hg k (by omega))
  obtain⟨x,hx⟩:∃x,grown (pat ps k) (iat st.1 k) (iat gs k)=x:=⟨_,rfl⟩
  unfold growStep
  rw[hx]at hb ⊢
  have hs:=h.sum
  have hlo:=h.lo
  have hhi:=h.hi
  have hnk:=h.nn k
  refine⟨by simp[h.len],fun i=> ?_,?_,?_,?_,fun i hi=> ?_⟩
  ·show 0≤iat (st.1.set k _) i
   rw[iat_set _ _ _ _ hlt]
   split
   ·omega
   ·exact h.nn i
  ·show(st.1.set k _).sum - (st.2+x)=_
   rw[sum_set _ _ _ hlt];omega
  ·show g0≤st.2+x;omega
  ·show st.2+x≤_;omega
  ·show iat (st.1.set k _) i=_
   rw[iat_set _ _ _ _ hlt,if_neg (by omega)]
   exact h.old i (by omega)
structure DInv (now:List Int) (g0:Int) (k:Nat) (st:St):Prop where
 len:st.1.length=now.length
 nn:∀i,0≤iat st.1 i
 sum:st.1.sum+st.2=now.sum+g0
 lo:g0≤st.2
 more:∀i,k≤i→iat now i≤iat st.1 i
theorem goes_bd {p:Place} {i n f:Int} (O:OkP p i n) (hf:0≤f):0≤goes p f∧goes p f≤f:=by
 unfold goes
 have h0:=O.d0
 have h1:=O.d1
 have a:=Int.mul_nonneg hf h0
 have b:=Int.mul_le_mul_of_nonneg_left h1 hf
 omega
theorem driftTo_inv {ps:List Place} {now:List Int} {g0:Int} (hl:now.length=ps.length) (hf:∀i,0≤iat now i) (O:∀i,i<ps.length→OkP (pat ps i) i ps.length) :
  ∀k,k≤ps.length→DInv now g0 k (driftTo ps now (now,g0) k)
 | 0,_=>⟨rfl,hf,rfl,Int.le_refl _,fun _ _=>Int.le_refl _⟩
 | k+1,hk=>by
  have h:=driftTo_inv (g0:=g0) hl hf O k (by omega)
  obtain⟨st,hst⟩:∃st,driftTo ps now (now,g0) k=st:=⟨_,rfl⟩
  rw[driftTo_succ,hst]
  rw[hst]at h
  have hlt:k<st.1.length:=by rw[h.len];omega
  have hO:=O k (by omega)
  have hb:=goes_bd hO (hf k)
  obtain⟨x,hx⟩:∃x,goes (pat ps k) (iat now k)=x:=⟨_,rfl⟩
  unfold driftStep
  rw[hx]at hb ⊢
  have hs:=h.sum
  have hlo:=h.lo
  have hnk:=h.more k (Qc _)
  have hfk:=hf k
  dsimp only
  have hA:∀i,0≤iat (st.1.set k (iat st.1 k - x)) i:=fun i=>by
   rw[iat_set _ _ _ _ hlt]
   split
   ·omega
   ·exact h.nn i
  have hB:∀i,k+1≤i→iat now i≤iat (st.1.set k (iat st.1 k - x)) i:=fun i hi=>by
   rw[iat_set _ _ _ _ hlt,if_neg (by omega)]
   exact h.more i (by omega)
  have hS:(st.1.set k (iat st.1 k - x)).sum=st.1.sum - x:=by rw[sum_set _ _ _ hlt];omega
  split
  ·rename_i hin
   have hi1:=hO.i1
   have hto:(pat ps k).into.toNat<(st.1.set k (iat st.1 k - x)).length:=by rw[List.length_set,h.len];omega
   refine⟨by simp[h.len],fun i=> ?_,?_,hlo,fun i hi=> ?_⟩
   ·show 0≤iat (List.set _ _ _) i
    rw[iat_set _ _ _ _ hto]
    split
    ·have:=hA (pat ps k).into.toNat;omega
    ·exact hA i
   ·show(List.set _ _ _).sum+st.2=_
    rw[sum_set _ _ _ hto];omega
   ·show _≤iat (List.set _ _ _) i
    rw[iat_set _ _ _ _ hto]
    have:=hB i hi
    split
    ·rename_i e;rw[e];omega
    ·exact this
  ·exact⟨by simp[h.len],hA,by show(List.set _ _ _).sum+(st.2+x)=_;omega,by show g0≤st.2+x;omega,hB⟩
structure TInv (fish:List Int) (g0:Int) (st:St):Prop where
 len:st.1.length=fish.length
 nn:∀i,0≤iat st.1 i
 sum:st.1.sum+st.2=fish.sum+g0
 lo:g0≤st.2
theorem takeTo_inv {ks fish:List Int} {g0:Int} (hf:∀i,0≤iat fish i) (hk0:∀i,i<fish.length→0≤iat ks i) :
  ∀k,k≤fish.length→TInv fish g0 (takeTo ks (fish,g0) k)
 | 0,_=>⟨rfl,hf,rfl,Int.le_refl _⟩
 | k+1,hk=>by
  have h:=takeTo_inv (g0:=g0) hf hk0 k (by omega)
  obtain⟨st,hst⟩:∃st,takeTo ks (fish,g0) k=st:=⟨_,rfl⟩
  rw[takeTo_succ,hst]
  rw[hst]at h
  have hlt:k<st.1.length:=by rw[h.len];omega
  have hb:0≤caught (iat st.1 k) (iat ks k)∧caught (iat st.1 k) (iat ks k)≤iat st.1 k:=by
   have:=h.nn k
   have:=hk0 k (by omega)
   unfold caught;split<;>omega
  obtain⟨x,hx⟩:∃x,caught (iat st.1 k) (iat ks k)=x:=⟨_,rfl⟩
  unfold takeStep
  rw[hx]at hb ⊢
  have hs:=h.sum
  have hlo:=h.lo
  refine⟨by simp[h.len],fun i=> ?_,?_,?_⟩
  ·show 0≤iat (st.1.set k _) i
   rw[iat_set _ _ _ _ hlt]
   split
   ·omega
   ·exact h.nn i
  ·show(st.1.set k _).sum+(st.2+x)=_
   rw[sum_set _ _ _ hlt];omega
  ·show g0≤st.2+x;omega
structure Fine (r:Reef) (t:Truth) (k:Nat) (x:State):Prop where
 len:x.fish.length=r.places.length
 nn:∀i,0≤iat x.fish i
 sum:x.fish.sum+x.gone+x.taken=t.starts.sum+x.grown
 g0:0≤x.gone
 t0:0≤x.taken
 r0:0≤x.grown
 r1:x.grown≤4000000*k
theorem take_bd {p:Place} {i n:Int} (O:OkP p i n) (b:Bool):0≤(take p b).1∧(take p b).1≤(take p b).2∧(take p b).2≤1000000:=by
 have:=O.o0;have:=O.o1;have:=O.o2;have:=O.s0;have:=O.s1;have:=O.s2
 unfold take;split<;>(dsimp only;omega)
theorem fine_season {r:Reef} {plan:List Int} {t:Truth} {k:Nat} {x:State} (O:OkR r) (T:OkT r plan t) (hk:k<r.seasons.toNat) (h:Fine r t k x):Fine r t (k+1) (season r.places (lat t.grows k) (lat t.takes k) x):=by
 have hg:=growTo_inv (ps:=r.places) (gs:=lat t.grows k) (fish:=x.fish) (g0:=x.grown) h.len h.nn O.place (fun i hi=>by have:=(T.grow k hk i hi).1;have:=(O.place i hi).g0;omega) r.places.length (Qc _)
 obtain⟨A,hA⟩:∃A,growTo r.places (lat t.grows k) (x.fish,x.grown) r.places.length=A:=⟨_,rfl⟩
 have hd:=driftTo_inv (ps:=r.places) (now:=A.1) (g0:=x.gone) (by rw[hA]at hg;rw[hg.len,h.len]) (by rw[hA]at hg;exact hg.nn) O.place r.places.length (Qc _)
 obtain⟨B,hB⟩:∃B,driftTo r.places A.1 (A.1,x.gone) r.places.length=B:=⟨_,rfl⟩
 rw[hA]at hg
 rw[hB]at hd
 have hlB:B.1.length=r.places.length:=by rw[hd.len,hg.len,h.len]
 have ht:=takeTo_inv (ks:=lat t.takes k) (fish:=B.1) (g0:=x.taken) hd.nn (fun i hi=>by have:=(T.take k hk i (by omega)).1;have:=(take_bd (O.place i (by omega)) (has (iat plan k) i)).1;omega) r.places.length (by omega)
 obtain⟨C,hC⟩:∃C,takeTo (lat t.takes k) (B.1,x.taken) r.places.length=C:=⟨_,rfl⟩
 rw[hC]at ht
 unfold season
 rw[hA]
 dsimp only
 rw[hB]
 rw[hC]
 have n4:=O.n4
 have:=hg.sum;have:=hg.lo;have:=hg.hi
 have:=hd.sum;have:=hd.lo;have:=ht.sum;have:=ht.lo
 have:=h.sum;have:=h.g0;have:=h.t0;have:=h.r0;have:=h.r1
 refine⟨by rw[ht.len,hlB],ht.nn,?_,?_,?_,?_,?_⟩<;>(dsimp only;omega)
theorem starts_nn {r:Reef} {plan:List Int} {t:Truth} (O:OkR r) (T:OkT r plan t):∀i,0≤iat t.starts i:=fun i=>by
 rcases Nat.lt_or_ge i r.places.length with h|h
 ·have:=(T.start i h).1;have:=(O.place i h).c0;omega
 ·rw[iat_out _ _ (by rw[T.ls];exact h)];omega
theorem fine_at {r:Reef} {plan:List Int} {t:Truth} (O:OkR r) (T:OkT r plan t):∀k,k≤r.seasons.toNat→Fine r t k (stateAt r t k)
 | 0,_=>⟨T.ls,starts_nn O T,by simp[stateAt],Int.le_refl _,Int.le_refl _,Int.le_refl _,by simp[stateAt]⟩
 | k+1,hk=>fine_season O T (by omega) (fine_at O T k (by omega))
theorem sum_le (l:List Int) (m:Int) (h:∀i,i<l.length→iat l i≤m):l.sum≤m*l.length:=by
 induction l with
 | nil=>simp
 | cons a l ih =>
  have h0:=h 0 (by simp)
  have h1:=ih (fun i hi=>by have:=h (i+1) (by simpa using hi);simpa[iat]using this)
  simp[iat]at h0
  rw[List.sum_cons,List.length_cons]
  push_cast
  rw[Int.mul_add];omega
theorem starts_sum {r:Reef} {plan:List Int} {t:Truth} (O:OkR r) (T:OkT r plan t):0≤t.starts.sum∧t.starts.sum≤12000000:=by
 have hn:=O.n4
 refine⟨sum_nn _ (starts_nn O T),?_⟩
 have h:=sum_le t.starts 3000000 (fun i hi=>by
  rw[T.ls]at hi
  have h1:=(T.start i hi).2
  have hO:=O.place i hi
  have h2:=hO.c0;have h3:=hO.c1;have h4:=O.m0;have h5:=O.m1
  have h6:(pat r.places i).count*r.miss≤1000000*2000:=Int.mul_le_mul h3 h5 h4 (by omega)
  unfold most at h1
  omega)
 rw[T.ls]at h
 omega
theorem fine_bd {r:Reef} {plan:List Int} {t:Truth} (O:OkR r) (T:OkT r plan t) {k:Nat} {x:State} (hk:k≤4) (h:Fine r t k x):x.fish.sum≤28000000∧x.gone≤28000000∧x.taken≤28000000∧x.grown≤16000000∧∀i,iat x.fish i≤28000000:=by
 have h1:=starts_sum O T
 have h2:=h.sum;have h3:=h.g0;have h4:=h.t0;have h5:=h.r0;have h6:=h.r1
 have h7:=sum_nn _ h.nn
 refine⟨by omega,by omega,by omega,by omega,fun i=> ?_⟩
 have:=iat_le_sum x.fish i h.nn
 omega
end Go.Proofs.YtgloajbgphcloaaGreat.Rf.R
namespace Go.Proofs.YtgloajbgphcloaaGreat.Rf.R
set_option linter.unusedVariables false
set_option linter.unusedSimpArgs false
theorem pat_at {l:List Place} {i:Nat} (h:i<l.length):pat l i=l[i]:=by simp[pat,h]
theorem iat_at {l:List Int} {i:Nat} (h:i<l.length):iat l i=l[i]:=by simp[iat,h]
theorem lat_at {l:List (List Int)} {i:Nat} (h:i<l.length):lat l i=l[i]:=by simp[lat,h]
theorem iat_mapRange (f:Nat→Int) {n i:Nat} (h:i<n):iat ((List.range n).map f) i=f i:=by
 rw[iat_at (by simpa using h)];simp
theorem most_ge {r:Reef} (O:OkR r) {c:Int} (h:0≤c):c≤most r c:=by
 unfold most
 have h2:0≤c*r.miss:=Int.mul_nonneg h O.m0
 omega
theorem okT_end {r:Reef} {plan:List Int} (O:OkR r) (m:Bool):OkT r plan (endT r plan m):=by
 have hs:((r.seasons.toNat:Nat):Int)=r.seasons:=Int.toNat_of_nonneg (by have:=O.s1;omega)
 have hg:∀s,s<r.seasons.toNat→lat (endT r plan m).grows s=r.places.map fun p=>if m then p.gh else p.gl:=fun s h=>by
  rw[lat_at (by simp[endT,h])];simp[endT]
 have ht:∀s,s<r.seasons.toNat→lat (endT r plan m).takes s=(List.range r.places.length).map fun i=>if m then(take (pat r.places i) (has (iat plan s) i)).1 else(take (pat r.places i) (has (iat plan s) i)).2:=fun s h=>by
  rw[lat_at (by simp[endT,h])];simp[endT]
 refine⟨by simp[endT],by simp[endT,hs],by simp[endT,hs],fun i hi=> ?_,fun s h=>by rw[hg s h];simp,fun s h=>by rw[ht s h];simp,fun s h i hi=> ?_,fun s h i hi=> ?_⟩
 ·have hO:=O.place i hi
  have h2:=most_ge O hO.c0
  rw[pat_at hi]at h2 ⊢
  rw[iat_at (by simp[endT,hi])]
  cases m<;>simp[endT]<;>omega
 ·have hO:=(O.place i hi).g1
  rw[pat_at hi]at hO ⊢
  rw[hg s h,iat_at (by simp[hi]),List.getElem_map]
  cases m
  ·exact⟨Int.le_refl _,hO⟩
  ·exact⟨hO,Int.le_refl _⟩
 ·have hO:=(take_bd (O.place i hi) (has (iat plan s) i)).2.1
  rw[ht s h,iat_mapRange _ hi]
  cases m
  ·exact⟨hO,Int.le_refl _⟩
  ·exact⟨Int.le_refl _,hO⟩
theorem fishOf_len (r:Reef) (t:Truth):(fishOf r t).length=r.seasons.toNat:=by simp[fishOf]
theorem fishOf_at (r:Reef) (t:Truth) {s:Nat} (h:s<r.seasons.toNat):lat (fishOf r t) s=(stateAt r t (s+1)).fish:=by
 rw[lat_at (by simp[fishOf,h])];simp[fishOf]
theorem fishOf_row {r:Reef} {plan:List Int} {t:Truth} (O:OkR r) (T:OkT r plan t) {s:Nat} (h:s<r.seasons.toNat):(lat (fishOf r t) s).length=r.places.length:=by
 rw[fishOf_at r t h];exact(fine_at O T (s+1) (by omega)).len
theorem fishOf_bd {r:Reef} {plan:List Int} {t:Truth} (O:OkR r) (T:OkT r plan t) {s:Nat} (h:s<r.seasons.toNat) (i:Nat):0≤iat (lat (fishOf r t) s) i∧iat (lat (fishOf r t) s) i≤28000000:=by
 rw[fishOf_at r t h]
 have hf:=fine_at O T (s+1) (by omega)
 exact⟨hf.nn i,(fine_bd O T (by have:=O.s4;omega) hf).2.2.2.2 i⟩
end Go.Proofs.YtgloajbgphcloaaGreat.Rf.R
namespace Go.Proofs.YtgloajbgphcloaaGreat.Rf.R
set_option linter.unusedVariables false
set_option linter.unusedSimpArgs false
open Nat renaming le_refl → Qc
def Le (a b:List Int):Prop:=∀i,iat a i≤iat b i
structure Like (ps qs:List Place):Prop where
 len:ps.length=qs.length
 room:∀i,(pat ps i).room=(pat qs i).room
 drift:∀i,(pat ps i).drift=(pat qs i).drift
 into:∀i,(pat ps i).into=(pat qs i).into
theorem Like.refl (ps:List Place):Like ps ps:=⟨rfl,fun _=>rfl,fun _=>rfl,fun _=>rfl⟩
theorem grown_mono {p q:Place} {f f' g g':Int} (hr:p.room=q.room) (h0:0≤f) (hf:f≤f') (hg0:0≤g) (hg:g≤g'):f+grown p f g≤f'+grown q f' g':=by
 have h1:f*g≤f'*g':=Int.mul_le_mul hf hg hg0 (by omega)
 have h2:f*g/1000≤f'*g'/1000:=Int.ediv_le_ediv (by omega) h1
 have h3:0≤f'*g':=Int.mul_nonneg (by omega) (by omega)
 have h4:0≤f'*g'/1000:=by omega
 obtain⟨a,ha⟩:∃a,f*g/1000=a:=⟨_,rfl⟩
 obtain⟨b,hb⟩:∃b,f'*g'/1000=b:=⟨_,rfl⟩
 unfold grown
 rw[ha,hb,hr]
 rw[ha,hb]at h2
 rw[hb]at h4
 split<;>split<;>(try split)<;>(try split)<;>omega
theorem growTo_at {ps:List Place} {gs:List Int} (fish:List Int) (g0:Int) (hl:fish.length=ps.length) :
  ∀k,k≤ps.length→(growTo ps gs (fish,g0) k).1.length=fish.length∧∀i,iat (growTo ps gs (fish,g0) k).1 i=if i<k then iat fish i+grown (pat ps i) (iat fish i) (iat gs i)else iat fish i
 | 0,_=>⟨rfl,fun i=>by simp[growTo]⟩
 | k+1,hk=>by
  obtain⟨h1,h2⟩:=growTo_at (gs:=gs) fish g0 hl k (by omega)
  obtain⟨st,hst⟩:∃st,growTo ps gs (fish,g0) k=st:=⟨_,rfl⟩
  rw[growTo_succ,hst]
  rw[hst]at h1 h2
  unfold growStep
  refine⟨by simp[h1],fun i=> ?_⟩
  show iat (st.1.set k _) i=_
  have hq:=h2 k
  rw[if_neg (by omega)]at hq
  rw[iat_set _ _ _ _ (by omega),hq,h2 i]
  by_cases e:k=i
  ·subst e;rw[if_pos rfl,if_pos (by omega)]
  ·rw[if_neg e]
   by_cases e2:i<k
   ·rw[if_pos e2,if_pos (by omega)]
   ·rw[if_neg e2,if_neg (by omega)]
def inflow (ps:List Place) (now:List Int) (i:Nat):Nat→Int
 | 0=>0
 | k+1=>inflow ps now i k+if 0≤(pat ps k).into∧(pat ps k).into.toNat=i then goes (pat ps k) (iat now k)else 0
theorem inflow_succ (ps:List Place) (now:List Int) (i k:Nat):inflow ps now i (k+1)=inflow ps now i k+if 0≤(pat ps k).into∧(pat ps k).into.toNat=i then goes (pat ps k) (iat now k)else 0:=rfl
theorem driftTo_at {ps:List Place} {now:List Int} (g0:Int) (hl:now.length=ps.length) (O:∀i,i<ps.length→OkP (pat ps i) i ps.length) :
  ∀k,k≤ps.length→(driftTo ps now (now,g0) k).1.length=now.length∧∀i,iat (driftTo ps now (now,g0) k).1 i=iat now i - (if i<k then goes (pat ps i) (iat now i)else 0)+inflow ps now i k
 | 0,_=>⟨rfl,fun i=>by simp[driftTo,inflow]⟩
 | k+1,hk=>by
  obtain⟨h1,h2⟩:=driftTo_at g0 hl O k (by omega)
  obtain⟨st,hst⟩:∃st,driftTo ps now (now,g0) k=st:=⟨_,rfl⟩
  rw[driftTo_succ,hst]
  rw[hst]at h1 h2
  have hi1:=(O k (by omega)).i1
  obtain⟨x,hx⟩:∃x,goes (pat ps k) (iat now k)=x:=⟨_,rfl⟩
  have hf:∀i,iat (st.1.set k (iat st.1 k - x)) i=iat now i - (if i<k+1 then goes (pat ps i) (iat now i)else 0)+inflow ps now i k:=fun i=>by
   have hq:=h2 k
   rw[if_neg (by omega)]at hq
   rw[iat_set _ _ _ _ (by omega),hq,h2 i]
   by_cases e:k=i
   ·subst e;rw[if_pos rfl,if_pos (by omega),hx];omega
   ·rw[if_neg e]
    by_cases e2:i<k
    ·rw[if_pos e2,if_pos (by omega)]
    ·rw[if_neg e2,if_neg (by omega)]
  unfold driftStep
  rw[hx]
  dsimp only
  by_cases hin:0≤(pat ps k).into
  ·rw[if_pos hin]
   refine⟨by simp[h1],fun i=> ?_⟩
   show iat (List.set _ _ _) i=_
   rw[iat_set _ _ _ _ (by rw[List.length_set];omega),hf,hf]
   rw[inflow_succ,hx]
   by_cases e:(pat ps k).into.toNat=i
   ·have e2:0≤(pat ps k).into∧(pat ps k).into.toNat=i:=⟨hin,e⟩
    rw[if_pos e,if_pos e2,e];omega
   ·have e2:¬(0≤(pat ps k).into∧(pat ps k).into.toNat=i):=fun h=>e h.2
    rw[if_neg e,if_neg e2];omega
  ·rw[if_neg hin]
   refine⟨by simp[h1],fun i=> ?_⟩
   show iat (List.set _ _ _) i=_
   rw[hf]
   have e2:¬(0≤(pat ps k).into∧(pat ps k).into.toNat=i):=fun h=>hin h.1
   rw[inflow_succ,if_neg e2];omega
theorem goes_mono {p q:Place} {i n f f':Int} (hd:p.drift=q.drift) (O:OkP p i n) (hf:f≤f'):goes p f≤goes q f'∧f - goes p f≤f' - goes q f':=by
 unfold goes
 rw[← hd]
 have h0:=O.d0
 have h1:=O.d1
 have a:=Int.mul_le_mul_of_nonneg_right hf h0
 have b:(f' - f)*p.drift≤(f' - f)*1000:=Int.mul_le_mul_of_nonneg_left h1 (by omega)
 rw[Int.sub_mul,Int.sub_mul]at b
 omega
theorem inflow_mono {ps qs:List Place} {a b:List Int} (K:Like ps qs) (O:∀i,i<ps.length→OkP (pat ps i) i ps.length) (h:Le a b) (i:Nat):∀k,k≤ps.length→inflow ps a i k≤inflow qs b i k
 | 0,_=>Int.le_refl _
 | k+1,hk=>by
  have h1:=inflow_mono K O h i k (by omega)
  have h2:=(goes_mono (K.drift k) (O k (by omega)) (h k)).1
  rw[inflow_succ,inflow_succ,←K.into k]
  split<;>omega
theorem takeTo_at {ks:List Int} (fish:List Int) (g0:Int) :
  ∀k,k≤fish.length→(takeTo ks (fish,g0) k).1.length=fish.length∧∀i,iat (takeTo ks (fish,g0) k).1 i=if i<k then iat fish i - caught (iat fish i) (iat ks i)else iat fish i
 | 0,_=>⟨rfl,fun i=>by simp[takeTo]⟩
 | k+1,hk=>by
  obtain⟨h1,h2⟩:=takeTo_at (ks:=ks) fish g0 k (by omega)
  obtain⟨st,hst⟩:∃st,takeTo ks (fish,g0) k=st:=⟨_,rfl⟩
  rw[takeTo_succ,hst]
  rw[hst]at h1 h2
  unfold takeStep
  refine⟨by simp[h1],fun i=> ?_⟩
  show iat (st.1.set k _) i=_
  have hq:=h2 k
  rw[if_neg (by omega)]at hq
  rw[iat_set _ _ _ _ (by omega),hq,h2 i]
  by_cases e:k=i
  ·subst e;rw[if_pos rfl,if_pos (by omega)]
  ·rw[if_neg e]
   by_cases e2:i<k
   ·rw[if_pos e2,if_pos (by omega)]
   ·rw[if_neg e2,if_neg (by omega)]
theorem season_mono {ps qs:List Place} {gs gs' ks ks':List Int} {x y:State} (K:Like ps qs) (O:∀i,i<ps.length→OkP (pat ps i) i ps.length) (O':∀i,i<qs.length→OkP (pat qs i) i qs.length)
  (lx:x.fish.length=ps.length) (ly:y.fish.length=ps.length) (h0:∀i,0≤iat x.fish i) (h:Le x.fish y.fish) (hg0:∀i,i<ps.length→0≤iat gs i) (hg:∀i,i<ps.length→iat gs i≤iat gs' i) (hk:∀i,i<ps.length→iat ks' i≤iat ks i) :
  Le (season ps gs ks x).fish (season qs gs' ks' y).fish:=by
 have hlen:=K.len
 obtain⟨a1,a2⟩:=growTo_at (ps:=ps) (gs:=gs) x.fish x.grown lx ps.length (Qc _)
 obtain⟨b1,b2⟩:=growTo_at (ps:=qs) (gs:=gs') y.fish y.grown (by rw[ly,K.len]) qs.length (Qc _)
 obtain⟨A,hA⟩:∃A,growTo ps gs (x.fish,x.grown) ps.length=A:=⟨_,rfl⟩
 obtain⟨B,hB⟩:∃B,growTo qs gs' (y.fish,y.grown) qs.length=B:=⟨_,rfl⟩
 rw[hA]at a1 a2
 rw[hB]at b1 b2
 have hAB:Le A.1 B.1:=fun i=>by
  rw[a2,b2,←K.len]
  by_cases e:i<ps.length
  ·rw[if_pos e,if_pos e]
   exact grown_mono (K.room i) (h0 i) (h i) (hg0 i e) (hg i e)
  ·rw[if_neg e,if_neg e];exact h i
 obtain⟨c1,c2⟩:=driftTo_at (ps:=ps) (now:=A.1) x.gone (by omega) O ps.length (Qc _)
 obtain⟨d1,d2⟩:=driftTo_at (ps:=qs) (now:=B.1) y.gone (by have:=K.len;omega) O' qs.length (Qc _)
 obtain⟨C,hC⟩:∃C,driftTo ps A.1 (A.1,x.gone) ps.length=C:=⟨_,rfl⟩
 obtain⟨D,hD⟩:∃D,driftTo qs B.1 (B.1,y.gone) qs.length=D:=⟨_,rfl⟩
 rw[hC]at c1 c2
 rw[hD]at d1 d2
 have hCD:Le C.1 D.1:=fun i=>by
  rw[c2,d2,←K.len]
  have h1:=inflow_mono K O hAB i ps.length (Qc _)
  have h2:=hAB i
  by_cases e:i<ps.length
  ·rw[if_pos e,if_pos e]
   have:=(goes_mono (K.drift i) (O i e) h2).2
   omega
  ·rw[if_neg e,if_neg e];omega
 obtain⟨e1,e2⟩:=takeTo_at (ks:=ks) C.1 x.taken ps.length (by omega)
 obtain⟨f1,f2⟩:=takeTo_at (ks:=ks') D.1 y.taken qs.length (by omega)
 unfold season
 rw[hA,hB]
 dsimp only
 rw[hC,hD]
 intro i
 rw[e2,f2,←K.len]
 have h2:=hCD i
 by_cases e:i<ps.length
 ·rw[if_pos e,if_pos e]
  have:=hk i e
  unfold caught
  split<;>split<;>omega
 ·rw[if_neg e,if_neg e];exact h2
theorem states_mono {r q:Reef} {plan plan':List Int} {t u:Truth} (O:OkR r) (O':OkR q) (K:Like r.places q.places) (hs:r.seasons=q.seasons) (T:OkT r plan t) (U:OkT q plan' u)
  (h0:Le t.starts u.starts) (hg:∀s,s<r.seasons.toNat→∀i,i<r.places.length→iat (lat t.grows s) i≤iat (lat u.grows s) i) (hk:∀s,s<r.seasons.toNat→∀i,i<r.places.length→iat (lat u.takes s) i≤iat (lat t.takes s) i) :
  ∀k,k≤r.seasons.toNat→Le (stateAt r t k).fish (stateAt q u k).fish
 | 0,_=>h0
 | k+1,hk1=>by
  have ih:=states_mono O O' K hs T U h0 hg hk k (by omega)
  have fx:=fine_at O T k (by omega)
  have fy:=fine_at O' U k (by rw[← hs];omega)
  unfold stateAt
  exact season_mono K O.place O'.place fx.len (by rw[fy.len,K.len]) fx.nn ih (fun i hi=>by have:=(T.grow k (by omega) i hi).1;have:=(O.place i hi).g0;omega) (hg k (by omega)) (hk k (by omega))
theorem endT_starts (r:Reef) (plan:List Int) (m:Bool) {i:Nat} (h:i<r.places.length):iat (endT r plan m).starts i=if m then most r (pat r.places i).count else(pat r.places i).count:=by
 rw[iat_at (by simp[endT,h]),pat_at h];simp[endT]
theorem endT_grows (r:Reef) (plan:List Int) (m:Bool) {s i:Nat} (hs:s<r.seasons.toNat) (h:i<r.places.length):iat (lat (endT r plan m).grows s) i=if m then(pat r.places i).gh else(pat r.places i).gl:=by
 rw[lat_at (by simp[endT,hs])]
 rw[iat_at (by simp[endT,h]),pat_at h];simp[endT]
theorem endT_takes (r:Reef) (plan:List Int) (m:Bool) {s i:Nat} (hs:s<r.seasons.toNat) (h:i<r.places.length):iat (lat (endT r plan m).takes s) i=if m then(take (pat r.places i) (has (iat plan s) i)).1 else(take (pat r.places i) (has (iat plan s) i)).2:=by
 rw[lat_at (by simp[endT,hs])]
 have e:(endT r plan m).takes[s]'(by simp[endT,hs])=(List.range r.places.length).map fun i=>if m then(take (pat r.places i) (has (iat plan s) i)).1 else(take (pat r.places i) (has (iat plan s) i)).2:=by simp[endT]
 rw[e,iat_mapRange _ h]
theorem Le.of_lt {a b:List Int} {n:Nat} (ha:a.length=n) (hb:b.length=n) (h:∀i,i<n→iat a i≤iat b i):Le a b:=fun i=>by
 rcases Nat.lt_or_ge i n with h1|h1
 ·exact h i h1
 ·rw[iat_out _ _ (by omega),iat_out _ _ (by omega)];exact Int.le_refl _
theorem between {r:Reef} {plan:List Int} {t:Truth} (O:OkR r) (T:OkT r plan t) (k:Nat) (hk:k≤r.seasons.toNat) :
  Le (stateAt r (endT r plan false) k).fish (stateAt r t k).fish∧Le (stateAt r t k).fish (stateAt r (endT r plan true) k).fish:=by
 have E0:=okT_end (plan:=plan) O false
 have E1:=okT_end (plan:=plan) O true
 refine⟨states_mono O O (Like.refl _) rfl E0 T (Le.of_lt E0.ls T.ls fun i hi=> ?_) (fun s hs i hi=> ?_) (fun s hs i hi=> ?_) k hk,states_mono O O (Like.refl _) rfl T E1 (Le.of_lt T.ls E1.ls fun i hi=> ?_) (fun s hs i hi=> ?_) (fun s hs i hi=> ?_) k hk⟩
 ·rw[endT_starts _ _ _ hi];exact(T.start i hi).1
 ·rw[endT_grows _ _ _ hs hi];exact(T.grow s hs i hi).1
 ·rw[endT_takes _ _ _ hs hi];exact(T.take s hs i hi).2
 ·rw[endT_starts _ _ _ hi];exact(T.start i hi).2
 ·rw[endT_grows _ _ _ hs hi];exact(T.grow s hs i hi).2
 ·rw[endT_takes _ _ _ hs hi];exact(T.take s hs i hi).1
theorem least_cons (h:Int→Bool) (f:Nat) (low high:Int) (hne:low≠high):least h (f+1) low high=if h (low+(high - low)/2)then least h f low (low+(high - low)/2)else least h f (low+(high - low)/2+1) high:=by
 show(if low=high then low else _)=_
 rw[if_neg hne]
theorem least_nil (h:Int→Bool) (f:Nat) (low:Int):least h f low low=low:=by
 cases f with
 | zero=>rfl
 | succ f=>show(if low=low then low else _)=low;rw[if_pos rfl]
def Mono (h:Int→Bool):Prop:=∀a b,0≤a→a≤b→h a=true→h b=true
theorem least_spec {h:Int→Bool} (M:Mono h):∀(f:Nat) (low high:Int),0≤low→low≤high→high - low<2^f →
  low≤least h f low high∧least h f low high≤high∧(least h f low high<high→h (least h f low high)=true)∧∀c,low≤c→c<least h f low high→h c=false
 | 0,low,high,h0,h1,h2=>by
  have:low=high:=by simp at h2;omega
  subst this
  exact⟨Int.le_refl _,Int.le_refl _,fun e=>absurd e (Int.lt_irrefl _),fun c h3 h4=>absurd h4 (by show ¬c<low;omega)⟩
 | f+1,low,high,h0,h1,h2=>by
  by_cases he:low=high
  ·subst he
   rw[least_nil]
   exact⟨Int.le_refl _,Int.le_refl _,fun e=>absurd e (Int.lt_irrefl _),fun c h3 h4=>absurd h4 (by omega)⟩
  ·rw[least_cons _ _ _ _ he]
   rw[Int.pow_succ]at h2
   obtain⟨D,hD⟩:∃D,(high - low)/2=D:=⟨_,rfl⟩
   rw[hD]
   have hb:0≤D∧D<high - low∧D<2^f∧high - (low+D+1)<2^f:=by omega
   obtain⟨b1,b2,b3,b4⟩:=hb
   cases hm:h (low+D)with
   | true =>
    rw[if_pos rfl]
    obtain⟨s1,s2,s3,s4⟩:=least_spec M f low (low+D) h0 (by omega) (by omega)
    refine⟨s1,by omega,fun _=> ?_,s4⟩
    by_cases e:least h f low (low+D)=low+D
    ·rw[e];exact hm
    ·exact s3 (by omega)
   | false =>
    rw[if_neg (by decide)]
    obtain⟨s1,s2,s3,s4⟩:=least_spec M f (low+D+1) high (by omega) (by omega) (by omega)
    refine⟨by omega,s2,s3,fun c c1 c2=> ?_⟩
    by_cases e:c≤low+D
    ·cases hc:h c with
     | false=>rfl
     | true=>rw[M _ _ (by omega) e hc]at hm;cases hm
    ·exact s4 c (by omega) c2
def topOf (h:Int→Bool):Nat→Int→Int→Int
 | 0,low,_=>low
 | f+1,low,high=>if low<high then
   let mid:=high - (high - low)/2
   if h mid then topOf h f low (mid - 1)else topOf h f mid high
  else low
theorem top_cons (h:Int→Bool) (f:Nat) (low high:Int) (hlt:low<high):topOf h (f+1) low high=if h (high - (high - low)/2)then topOf h f low (high - (high - low)/2 - 1)else topOf h f (high - (high - low)/2) high:=by
 show(if low<high then _ else low)=_
 rw[if_pos hlt]
theorem top_nil (h:Int→Bool) (f:Nat) (low high:Int) (hn:¬low<high):topOf h f low high=low:=by
 cases f with
 | zero=>rfl
 | succ f=>show(if low<high then _ else low)=low;rw[if_neg hn]
theorem top_spec {h:Int→Bool} (M:Mono h):∀(f:Nat) (low high:Int),-1≤low→low≤high→high - low<2^f →
  low≤topOf h f low high∧topOf h f low high≤high∧(low<topOf h f low high→h (topOf h f low high)=false)∧∀c,topOf h f low high<c→c≤high→h c=true
 | 0,low,high,h0,h1,h2=>by
  have:low=high:=by simp at h2;omega
  subst this
  exact⟨Int.le_refl _,Int.le_refl _,fun e=>absurd e (Int.lt_irrefl _),fun c h3 h4=>absurd h3 (by show ¬low<c;omega)⟩
 | f+1,low,high,h0,h1,h2=>by
  by_cases he:low<high
  ·rw[top_cons _ _ _ _ he]
   rw[Int.pow_succ]at h2
   obtain⟨D,hD⟩:∃D,(high - low)/2=D:=⟨_,rfl⟩
   rw[hD]
   have hb:0≤D∧D<high - low∧D<2^f∧high - D - 1 - low<2^f:=by omega
   obtain⟨b1,b2,b3,b4⟩:=hb
   cases hm:h (high - D)with
   | false =>
    rw[if_neg (by decide)]
    obtain⟨s1,s2,s3,s4⟩:=top_spec M f (high - D) high (by omega) (by omega) (by omega)
    refine⟨by omega,s2,fun _=> ?_,s4⟩
    by_cases e:topOf h f (high - D) high=high - D
    ·rw[e];exact hm
    ·exact s3 (by omega)
   | true =>
    rw[if_pos rfl]
    obtain⟨s1,s2,s3,s4⟩:=top_spec M f low (high - D - 1) h0 (by omega) (by omega)
    refine⟨s1,by omega,s3,fun c c1 c2=> ?_⟩
    by_cases e:high - D≤c
    ·exact M _ _ (by omega) e hm
    ·exact s4 c c1 (by omega)
  ·rw[top_nil _ _ _ _ he]
   have:low=high:=by omega
   subst this
   exact⟨Int.le_refl _,Int.le_refl _,fun e=>absurd e (Int.lt_irrefl _),fun c h3 h4=>absurd h3 (by omega)⟩
theorem top_least {h:Int→Bool} (M:Mono h) {f g:Nat} {m:Int} (h0:0≤m) (h1:m+1<2^f) (h2:m+1<2^g):topOf h f (-1) m=least h g 0 (m+1) - 1:=by
 obtain⟨a1,a2,a3,a4⟩:=top_spec M f (-1) m (by omega) (by omega) (by omega)
 obtain⟨b1,b2,b3,b4⟩:=least_spec M g 0 (m+1) (by omega) (by omega) (by omega)
 obtain⟨x,hx⟩:∃x,topOf h f (-1) m=x:=⟨_,rfl⟩
 obtain⟨y,hy⟩:∃y,least h g 0 (m+1)=y:=⟨_,rfl⟩
 rw[hx]at a1 a2 a3 a4 ⊢
 rw[hy]at b1 b2 b3 b4 ⊢
 rcases Int.lt_trichotomy x (y - 1)with e|e|e
 ·have h5:=b4 (x+1) (by omega) (by omega)
  rw[a4 (x+1) (by omega) (by omega)]at h5;cases h5
 ·exact e
 ·have h5:=a3 (by omega)
  rw[M y x (by omega) (by omega) (b3 (by omega))]at h5;cases h5
theorem shortFrom_none:∀(ps:List Place) (ns:List Int) (j:Nat),ps.length=ns.length→(shortFrom ps ns j=none↔∀i,i<ps.length→(pat ps i).goal≤iat ns i)
 | [],[],_,_=>by simp[shortFrom]
 | p::ps,n::ns,j,h=>by
  have ih:=shortFrom_none ps ns (j+1) (by simpa using h)
  unfold shortFrom
  by_cases hn:n<p.goal
  ·rw[if_pos hn]
   refine⟨fun e=>(by cases e),fun e=> ?_⟩
   have:=e 0 (by simp)
   simp[pat,iat]at this
   omega
  ·rw[if_neg hn,ih]
   refine⟨fun e i hi=> ?_,fun e i hi=> ?_⟩
   ·cases i with
    | zero=>simp[pat,iat];omega
    | succ i=>simpa[pat,iat]using e i (by simpa using hi)
   ·simpa[pat,iat]using e (i+1) (by simpa using hi)
 | [],_::_,_,h=>by simp at h
 | _::_,[],_,h=>by simp at h
def lowF (r:Reef) (plan:List Int):List Int:=(endOf r (endT r plan false)).fish
theorem lowF_len {r:Reef} (O:OkR r) (plan:List Int):(lowF r plan).length=r.places.length:=(fine_at O (okT_end (plan:=plan) O false) _ (Qc _)).len
theorem short_none {r:Reef} (O:OkR r) (plan:List Int):short r plan=none↔∀i,i<r.places.length→(pat r.places i).goal≤iat (lowF r plan) i :=
 shortFrom_none _ _ _ (lowF_len O plan).symm
theorem end_between {r:Reef} {plan:List Int} {t:Truth} (O:OkR r) (T:OkT r plan t) (i:Nat):iat (lowF r plan) i≤iat (endOf r t).fish i:=(between O T _ (Qc _)).1 i
theorem pat_limited (r:Reef) (k:Nat) (m:Int) (hk:k<r.places.length) (i:Nat):pat (limited r k m).places i=if k=i then { pat r.places k with ol:=if(pat r.places k).ol<m then(pat r.places k).ol else m,oh:=if(pat r.places k).oh<m then(pat r.places k).oh else m } else pat r.places i:=by
 unfold limited pat
 rw[List.getD_eq_getElem?_getD,List.getElem?_set]
 by_cases e:k=i
 ·subst e;simp[hk]
 ·simp[e]
theorem limited_len (r:Reef) (k:Nat) (m:Int):(limited r k m).places.length=r.places.length:=by simp[limited]
theorem like_limited (r:Reef) (k:Nat) (hk:k<r.places.length) (m m':Int):Like (limited r k m).places (limited r k m').places:=by
 refine⟨by rw[limited_len,limited_len],fun i=> ?_,fun i=> ?_,fun i=> ?_⟩<;>rw[pat_limited r k m hk,pat_limited r k m' hk]<;>split<;>rfl
theorem limited_mono {r:Reef} (O:OkR r) (plan:List Int) (k:Nat) (hk:k<r.places.length) {m m':Int} (h0:0≤m) (h:m≤m'):Le (lowF (limited r k m') plan) (lowF (limited r k m) plan):=by
 have O1:=okR_limited O k m hk h0
 have O2:=okR_limited O k m' hk (by omega)
 have T1:=okT_end (plan:=plan) O1 false
 have T2:=okT_end (plan:=plan) O2 false
 refine states_mono O2 O1 (like_limited r k hk m' m) rfl T2 T1 (Le.of_lt T2.ls (T1.ls.trans (by rw[limited_len,limited_len])) fun i hi=> ?_) (fun s hs i hi=> ?_) (fun s hs i hi=> ?_) _ (Qc _)
 ·have hi':i<(limited r k m).places.length:=by rw[limited_len]at hi ⊢;exact hi
  rw[endT_starts _ _ _ hi,endT_starts _ _ _ hi',pat_limited r k m hk,pat_limited r k m' hk]
  simp only[Bool.false_eq_true,if_false]
  by_cases e:k=i
  ·simp only[if_pos e];exact Int.le_refl _
  ·simp only[if_neg e];exact Int.le_refl _
 ·have hi':i<(limited r k m).places.length:=by rw[limited_len]at hi ⊢;exact hi
  rw[endT_grows _ _ _ hs hi,endT_grows _ _ _ (by exact hs) hi',pat_limited r k m hk,pat_limited r k m' hk]
  simp only[Bool.false_eq_true,if_false]
  by_cases e:k=i
  ·simp only[if_pos e];exact Int.le_refl _
  ·simp only[if_neg e];exact Int.le_refl _
 ·have hi':i<(limited r k m).places.length:=by rw[limited_len]at hi ⊢;exact hi
  rw[endT_takes _ _ _ hs hi,endT_takes _ _ _ (by exact hs) hi',pat_limited r k m hk,pat_limited r k m' hk]
  simp only[Bool.false_eq_true,if_false]
  by_cases e:k=i
  ·simp only[if_pos e]
   unfold take
   split
   ·exact Int.le_refl _
   ·show(if _<m then _ else m)≤(if _<m' then _ else m')
    split<;>split<;>omega
  ·simp only[if_neg e];exact Int.le_refl _
theorem short_mono {r:Reef} (O:OkR r) (plan:List Int) (k:Nat) (hk:k<r.places.length):Mono (fun m=>(short (limited r k m) plan).isSome):=fun a b h0 hab h=>by
 have O1:=okR_limited O k a hk h0
 have O2:=okR_limited O k b hk (by omega)
 dsimp only at h ⊢
 cases hb:short (limited r k b) plan with
 | some x=>rfl
 | none =>
  rw[short_none O2]at hb
  have hn:short (limited r k a) plan=none:=by
   rw[short_none O1]
   intro i hi
   have h1:=hb i (by rw[limited_len]at hi ⊢;exact hi)
   have h2:=limited_mono O plan k hk h0 hab i
   have h3:(pat (limited r k a).places i).goal=(pat (limited r k b).places i).goal:=by
    rw[pat_limited r k a hk,pat_limited r k b hk];split<;>rfl
   omega
  rw[hn]at h;cases h
end Go.Proofs.YtgloajbgphcloaaGreat.Rf.R
