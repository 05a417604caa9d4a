/- The lens, without the program: what is as defined, what becomes of the water in a truth, droughts, the first fault, the fewest tanks. The lens: how its data lie in memory; which islets, droughts and truths are as defined, as the program asks it. The lens: which islets are as defined, as the program asks it; a truth of a drought. The lens: the truth of a drought with the least water. The lens: an islet that is followed; rain, leaks, needs. The lens: an islet before its first month. The lens: the iterator over the months of an islet that is followed. -/
import Derived.Test.YtgloajbgphcloaaGreatCo
import Derived.Test.YtgloajbgphcloaaGreatDr
import Derived.Deep.CutRange
import Derived.Deep.RegionHeld3
import Derived.Test.YtgloajbgphcloaaGreatRg
import Derived.RangeFuncBound
import Derived.RangeFuncCalls
import Derived.Shelf.Abstract
import Derived.OwnWalkIn
import Derived.TacticsInMore
import Derived.LoopNIn
import Derived.LoopIn
namespace Go.Proofs.YtgloajbgphcloaaGreat.Ln
set_option linter.unusedVariables false
set_option linter.unusedSimpArgs false
open Go.RowKit
open Bool renaming and_eq_true → Qa
open List renaming getElem_mem → Qb
structure Month where
 wl:Int
 wh:Int
 dl:Int
 dh:Int
 nl:Int
 nh:Int
 deriving DecidableEq,Inhabited
structure Islet where
 cap:Int
 sl:Int
 sh:Int
 roof:Int
 sand:Int
 kl:Int
 kh:Int
 ll:Int
 lh:Int
 pump:Int
 keep:Int
 size:Int
 wells:List Int
 months:List Month
 most:Int
 row:Int
structure Truth where
 start:Int
 soak:Int
 leak:Int
 dry:List Bool
 rains:List Int
 needs:List Int
def within (x lo hi:Int):Bool:=decide (lo≤x)&&decide (x≤hi)
def spanB (a b m:Int):Bool:=decide (0≤a)&&decide (a≤b)&&decide (b≤m)
def monthB (m:Month):Bool:=spanB m.wl m.wh 2000&&spanB m.dl m.dh 2000&&decide (m.dl≤m.wl)&&decide (m.dh≤m.wh)&&spanB m.nl m.nh 10000000
def restB (i:Islet):Bool :=
 within i.cap 1 10000000&&spanB i.sl i.sh i.cap&&within i.roof 0 100000&&within i.sand 0 10000000&&spanB i.kl i.kh 1000&&spanB i.ll i.lh 1000&&within i.pump 0 10000000&&within i.size 0 10000000&&within i.keep 0 i.cap&&decide (i.wells.length≤4)&&within i.months.length 1 8&&within i.most 0 i.months.length&&within i.row 0 i.months.length
def islB (i:Islet):Bool:=i.months.all monthB&&i.wells.all (fun w=>within w 0 i.cap)&&restB i
def tanksB (n:Int):Bool:=within n 0 40
def pos (M R:Int):Int→Int→List Bool→Bool
 | _,_,[]=>true
 | a,_,false::l=>pos M R a 0 l
 | a,b,true::l=>if M<a+1∨R<b+1 then false else pos M R (a+1) (b+1) l
def possible (i:Islet) (dry:List Bool):Bool:=pos i.most i.row 0 0 dry
def rainLo (m:Month) (dry:Bool):Int:=if dry then m.dl else m.wl
def rainHi (m:Month) (dry:Bool):Int:=if dry then m.dh else m.wh
abbrev mat (l:List Month) (k:Nat):Month:=l.getD k default
abbrev iat (l:List Int) (k:Nat):Int:=l.getD k 0
abbrev bat (l:List Bool) (k:Nat):Bool:=l.getD k false
def monthT (i:Islet) (t:Truth) (k:Nat):Bool:=within (iat t.rains k) (rainLo (mat i.months k) (bat t.dry k)) (rainHi (mat i.months k) (bat t.dry k))&&within (iat t.needs k) (mat i.months k).nl (mat i.months k).nh
def truthB (i:Islet) (t:Truth):Bool :=
 (decide (t.dry.length=i.months.length)&&decide (t.rains.length=i.months.length)&&decide (t.needs.length=i.months.length)&&possible i t.dry) &&
 ((List.range i.months.length).all (monthT i t)&&(within t.start i.sl i.sh&&within t.soak i.kl i.kh&&within t.leak i.ll i.lh))
structure St where
 tanks:Int
 lens:Int
 lack:Int
 deriving DecidableEq
def fallS (i:Islet) (hold mm soak:Int) (s:St):St:=⟨min (s.tanks+i.roof*mm/1000) hold,min (s.lens+i.sand*mm*soak/1000000) i.cap,s.lack⟩
def leakS (leak:Int) (s:St):St:=⟨s.tanks,s.lens - s.lens*leak/1000,s.lack⟩
def takes (need:Int) (s:St):Int:=min need s.tanks
def pumps (i:Islet) (need:Int) (s:St):Int:=min (min (need - takes need s) i.pump) (max 0 (s.lens - i.keep))
def needS (i:Islet) (need:Int) (s:St):St:=⟨s.tanks - takes need s,s.lens - pumps i need s,need - takes need s - pumps i need s⟩
def monS (i:Islet) (hold:Int) (t:Truth) (k:Nat) (s:St):St:=needS i (iat t.needs k) (leakS t.leak (fallS i hold (iat t.rains k) t.soak s))
def stateAt (i:Islet) (hold:Int) (t:Truth):Nat→St
 | 0=>⟨hold,t.start,0⟩
 | k+1=>monS i hold t k (stateAt i hold t k)
def dryOf (n x:Nat):List Bool:=(List.range n).map fun m=>decide (x/2^(n - 1 - m)%2=1)
def droughts (i:Islet):List (List Bool):=((List.range (2^i.months.length)).map (dryOf i.months.length)).filter (possible i)
def endT (i:Islet) (dry:List Bool):Truth :=
 ⟨i.sl,i.kl,i.lh,dry,(List.range i.months.length).map fun k=>rainLo (mat i.months k) (bat dry k),i.months.map fun m=>m.nh⟩
def wrongB (i:Islet) (s:St):Bool:=decide (0<s.lack)||i.wells.any fun w=>decide (s.lens<w)
def dryFine (i:Islet) (tanks:Int) (dry:List Bool):Bool:=(List.range i.months.length).all fun m=> !wrongB i (stateAt i (tanks*i.size) (endT i dry) (m+1))
def fineB (i:Islet) (tanks:Int):Bool:=(droughts i).all (dryFine i tanks)
def bsearch (f:Int→Bool):Nat→Int→Int→Int
 | 0,lo,_=>lo
 | n+1,lo,hi=>if lo<hi then(if f ((lo+hi)/2)then bsearch f n lo ((lo+hi)/2)else bsearch f n ((lo+hi)/2+1) hi)else lo
def fewest (i:Islet):Option Int:=if fineB i 40 then some (bsearch (fineB i) 41 0 40)else none
theorem within_iff {x lo hi:Int} :within x lo hi=true↔lo≤x∧x≤hi:=by simp[within]
theorem spanB_iff {a b m:Int} :spanB a b m=true↔0≤a∧a≤b∧b≤m:=by simp[spanB,and_assoc]
structure OkM (m:Month):Prop where
 w:0≤m.wl∧m.wl≤m.wh∧m.wh≤2000
 d:0≤m.dl∧m.dl≤m.dh∧m.dh≤2000
 n:0≤m.nl∧m.nl≤m.nh∧m.nh≤10000000
structure Ok (i:Islet):Prop where
 months:∀m∈i.months,OkM m
 cap:1≤i.cap∧i.cap≤10000000
 start:0≤i.sl∧i.sl≤i.sh∧i.sh≤i.cap
 roof:0≤i.roof∧i.roof≤100000
 sand:0≤i.sand∧i.sand≤10000000
 soak:0≤i.kl∧i.kl≤i.kh∧i.kh≤1000
 leak:0≤i.ll∧i.ll≤i.lh∧i.lh≤1000
 pump:0≤i.pump∧i.pump≤10000000
 size:0≤i.size∧i.size≤10000000
 keep:0≤i.keep∧i.keep≤i.cap
 wells:i.wells.length≤4
 n:1≤i.months.length∧i.months.length≤8
 most:0≤i.most∧i.most≤i.months.length
 row:0≤i.row∧i.row≤i.months.length
theorem ok_of {i:Islet} (h:islB i=true):Ok i:=by
 unfold islB restB at h
 simp only[Qa,within_iff,spanB_iff,decide_eq_true_eq,List.all_eq_true]at h
 obtain⟨⟨h0,_⟩,⟨⟨⟨⟨⟨⟨⟨⟨⟨⟨⟨⟨h1,h2⟩,h3⟩,h4⟩,h5⟩,h6⟩,h7⟩,h8⟩,h9⟩,h10⟩,h11⟩,h12⟩,h13⟩⟩:=h
 refine⟨fun m hm=> ?_,h1,h2,h3,h4,h5,h6,h7,h8,h9,h10,by omega,by omega,by omega⟩
 have:=h0 m hm
 unfold monthB at this
 simp only[Qa,spanB_iff,decide_eq_true_eq]at this
 exact⟨this.1.1.1.1,this.1.1.1.2,this.2⟩
theorem mat_get {l:List Month} {k:Nat} (h:k<l.length):mat l k=l[k]:=by simp[mat,List.getD_eq_getElem?_getD,h]
theorem iat_get {l:List Int} {k:Nat} (h:k<l.length):iat l k=l[k]:=by simp[iat,List.getD_eq_getElem?_getD,h]
theorem bat_get {l:List Bool} {k:Nat} (h:k<l.length):bat l k=l[k]:=by simp[bat,List.getD_eq_getElem?_getD,h]
structure TrOk (i:Islet) (t:Truth):Prop where
 start:0≤t.start∧t.start≤i.cap
 soak:0≤t.soak∧t.soak≤1000
 leak:0≤t.leak∧t.leak≤1000
 rains:t.rains.length=i.months.length
 needs:t.needs.length=i.months.length
 rain:∀k,k<i.months.length→0≤iat t.rains k∧iat t.rains k≤2000
 need:∀k,k<i.months.length→0≤iat t.needs k∧iat t.needs k≤10000000
theorem rain_bd {m:Month} (h:OkM m) (d:Bool):0≤rainLo m d∧rainLo m d≤rainHi m d∧rainHi m d≤2000:=by
 have:=h.w;have:=h.d
 unfold rainLo rainHi
 cases d<;>simp<;>omega
theorem trOk_of {i:Islet} (O:Ok i) {t:Truth} (h:truthB i t=true):TrOk i t:=by
 unfold truthB at h
 simp only[Qa,within_iff,decide_eq_true_eq,List.all_eq_true,List.mem_range]at h
 obtain⟨⟨⟨⟨h1,h2⟩,h3⟩,_⟩,h4,⟨h5,h6⟩,h7⟩:=h
 have:=O.start;have:=O.soak;have:=O.leak
 refine⟨by omega,by omega,by omega,h2,h3,fun k hk=> ?_,fun k hk=> ?_⟩
 ·have:=h4 k hk
  unfold monthT at this
  simp only[Qa,within_iff]at this
  have:=rain_bd (O.months _ (by rw[mat_get hk];exact Qb hk):OkM (mat i.months k)) (bat t.dry k)
  omega
 ·have:=h4 k hk
  unfold monthT at this
  simp only[Qa,within_iff]at this
  have:=(O.months _ (by rw[mat_get hk];exact Qb hk):OkM (mat i.months k)).n
  omega
theorem trOk_end {i:Islet} (O:Ok i) (dry:List Bool):TrOk i (endT i dry):=by
 have:=O.start;have:=O.soak;have:=O.leak
 refine⟨by simp only[endT];omega,by simp only[endT];omega,by simp only[endT];omega,by simp[endT],by simp[endT],fun k hk=> ?_,fun k hk=> ?_⟩
 ·have e:iat (endT i dry).rains k=rainLo (mat i.months k) (bat dry k):=by
   rw[iat_get (by simpa[endT]using hk)];simp[endT]
  have:=rain_bd (O.months _ (by rw[mat_get hk];exact Qb hk):OkM (mat i.months k)) (bat dry k)
  omega
 ·have e:iat (endT i dry).needs k=(mat i.months k).nh:=by
   rw[iat_get (by simpa[endT]using hk),mat_get hk];simp[endT]
  have:=(O.months _ (by rw[mat_get hk];exact Qb hk):OkM (mat i.months k)).n
  omega
def Bd (i:Islet) (hold:Int) (s:St):Prop:=0≤s.tanks∧s.tanks≤hold∧0≤s.lens∧s.lens≤i.cap
theorem mul_bd {a b A B:Int} (a0:0≤a) (a1:a≤A) (b0:0≤b) (b1:b≤B):0≤a*b∧a*b≤A*B :=
 ⟨Int.mul_nonneg a0 b0,Int.mul_le_mul a1 b1 b0 (by omega)⟩
theorem fall_bd {i:Islet} (O:Ok i) {hold mm soak:Int} (m0:0≤mm) (m1:mm≤2000) (s0:0≤soak) (s1:soak≤1000) {s:St} (h:Bd i hold s) (hh:0≤hold):Bd i hold (fallS i hold mm soak s):=by
 have h1:=mul_bd O.roof.1 O.roof.2 m0 m1
 have h2:=mul_bd O.sand.1 O.sand.2 m0 m1
 have h3:=mul_bd h2.1 h2.2 s0 s1
 have:=O.cap
 unfold Bd fallS at *
 simp only
 omega
theorem leak_bd {i:Islet} (O:Ok i) {hold leak:Int} (l0:0≤leak) (l1:leak≤1000) {s:St} (h:Bd i hold s):Bd i hold (leakS leak s):=by
 unfold Bd leakS at *
 simp only
 have h1:=mul_bd h.2.2.1 (Int.le_refl _) l0 l1
 omega
theorem need_bd {i:Islet} (O:Ok i) {hold need:Int} (n0:0≤need) {s:St} (h:Bd i hold s):Bd i hold (needS i need s):=by
 have:=O.pump;have:=O.keep
 unfold Bd needS pumps takes at *
 simp only
 omega
theorem state_bd {i:Islet} (O:Ok i) {hold:Int} (hh:0≤hold) {t:Truth} (T:TrOk i t):∀k,k≤i.months.length→Bd i hold (stateAt i hold t k)
 | 0,_=>by have:=T.start;unfold Bd stateAt;simp only;omega
 | k+1,hk=>by
  have h:=state_bd O hh T k (by omega)
  have r:=T.rain k (by omega)
  have n:=T.need k (by omega)
  exact need_bd O n.1 (leak_bd O T.leak.1 T.leak.2 (fall_bd O r.1 r.2 T.soak.1 T.soak.2 h hh))
theorem bsearch_stop (f:Int→Bool):∀n lo hi,¬lo<hi→bsearch f n lo hi=lo
 | 0,_,_,_=>rfl
 | n+1,lo,hi,h=>by rw[bsearch,if_neg h]
theorem bsearch_more (f:Int→Bool):∀n m lo hi,(hi - lo).toNat≤n→n≤m→bsearch f n lo hi=bsearch f m lo hi
 | 0,m,lo,hi,h,_=>by rw[bsearch_stop f m lo hi (by omega)];rfl
 | n+1,0,lo,hi,_,h=>by omega
 | n+1,m+1,lo,hi,h,h2=>by
  rw[bsearch,bsearch]
  by_cases hl:lo<hi
  ·rw[if_pos hl,if_pos hl]
   split
   ·exact bsearch_more f n m _ _ (by omega) (by omega)
   ·exact bsearch_more f n m _ _ (by omega) (by omega)
  ·rw[if_neg hl,if_neg hl]
theorem bsearch_low (f:Int→Bool) {n:Nat} {lo hi:Int} (hn:(hi - lo).toNat≤n) (h:lo<hi) (hf:f ((lo+hi)/2)=true):bsearch f n lo hi=bsearch f n lo ((lo+hi)/2):=by
 cases n with
 | zero=>omega
 | succ n=>rw[bsearch,if_pos h,hf];simp only[if_true];exact bsearch_more f n (n+1) _ _ (by omega) (by omega)
theorem bsearch_high (f:Int→Bool) {n:Nat} {lo hi:Int} (hn:(hi - lo).toNat≤n) (h:lo<hi) (hf:f ((lo+hi)/2)=false):bsearch f n lo hi=bsearch f n ((lo+hi)/2+1) hi:=by
 cases n with
 | zero=>omega
 | succ n=>rw[bsearch,if_pos h,hf];simp only[Bool.false_eq_true,if_false];exact bsearch_more f n (n+1) _ _ (by omega) (by omega)
theorem pos_step {M R a b:Int} {l:List Bool} {k:Nat} (hk:k<l.length):pos M R a b (l.drop k)=if l[k]then(if M<a+1∨R<b+1 then false else pos M R (a+1) (b+1) (l.drop (k+1)))else pos M R a 0 (l.drop (k+1)):=by
 rw[List.drop_eq_getElem_cons hk]
 cases l[k]<;>simp[pos]
theorem dryOf_len (n x:Nat):(dryOf n x).length=n:=by simp[dryOf]
theorem droughts_len {i:Islet} {d:List Bool} (h:d∈droughts i):d.length=i.months.length:=by
 unfold droughts at h
 obtain⟨h,_⟩:=List.mem_filter.1 h
 obtain⟨x,_,rfl⟩:=List.mem_map.1 h
 exact dryOf_len _ _
def exM:Month:=⟨100,150,0,20,40,50⟩
def exI:Islet:=⟨1000,400,600,200,10000,300,400,50,100,30,250,10,[200,300],[exM,exM,exM],2,2⟩
theorem ex_ok:islB exI=true:=by decide +kernel
theorem ex_fewest:fewest exI=some 12:=by decide +kernel
end Go.Proofs.YtgloajbgphcloaaGreat.Ln
namespace Go.Proofs.YtgloajbgphcloaaGreat.Ln
set_option linter.unusedVariables false
set_option linter.unusedSimpArgs false
open Go.RowKit
open Ext renaming alloc → Qd, drew → Qe, refl → Qc, setCell → Qf, trans → Qg
open Lib renaming hid → Qh
def monthC (m:Month):List Value:=[.int .i64 m.wl,.int .i64 m.wh,.int .i64 m.dl,.int .i64 m.dh,.int .i64 m.nl,.int .i64 m.nh]
def boolC (b:Bool):List Value:=[.bool b]
def Months (w:World) (v:Value) (xs:List Month):Prop:=Sls 6 (AtE monthC) w v xs
def Bools (w:World) (v:Value) (xs:List Bool):Prop:=Sls 1 (AtE boolC) w v xs
theorem Months.ext {w w':World} {v:Value} {xs:List Month} (h:Months w v xs) (he:Ext w w'):Months w' v xs:=Sls.ext (ate_stays _) h he
theorem Bools.ext {w w':World} {v:Value} {xs:List Bool} (h:Bools w v xs) (he:Ext w w'):Bools w' v xs:=Sls.ext (ate_stays _) h he
abbrev islV (i:Islet) (vw vm:Value):Array Value:=#[.int .i64 i.cap,.int .i64 i.sl,.int .i64 i.sh,.int .i64 i.roof,.int .i64 i.sand,.int .i64 i.kl,.int .i64 i.kh,.int .i64 i.ll,.int .i64 i.lh,.int .i64 i.pump,.int .i64 i.keep,.int .i64 i.size,vw,vm,.int .i64 i.most,.int .i64 i.row]
abbrev monthV (m:Month):Array Value:=#[.int .i64 m.wl,.int .i64 m.wh,.int .i64 m.dl,.int .i64 m.dh,.int .i64 m.nl,.int .i64 m.nh]
abbrev trV (t:Truth) (vd vr vn:Value):Array Value:=#[.int .i64 t.start,.int .i64 t.soak,.int .i64 t.leak,vd,vr,vn]
theorem month_cells {w:World} {b o:Nat} {m:Month} (h:AtE monthC w b o m) :
  w.cell? ⟨b,o,none⟩=some (.int .i64 m.wl)∧w.cell? ⟨b,o+1,none⟩=some (.int .i64 m.wh)∧w.cell? ⟨b,o+2,none⟩=some (.int .i64 m.dl)∧w.cell? ⟨b,o+3,none⟩=some (.int .i64 m.dh)∧w.cell? ⟨b,o+4,none⟩=some (.int .i64 m.nl)∧w.cell? ⟨b,o+5,none⟩=some (.int .i64 m.nh) :=
 ⟨h 0 _ rfl,h 1 _ rfl,h 2 _ rfl,h 3 _ rfl,h 4 _ rfl,h 5 _ rfl⟩
theorem bool_cell {w:World} {b o:Nat} {x:Bool} (h:AtE boolC w b o x):w.cell? ⟨b,o,none⟩=some (.bool x):=h 0 _ rfl
theorem in_any (x lo hi:Int) (w:World) :
  Calls Tryz.prog 143 #[.int .i64 x,.int .i64 lo,.int .i64 hi] w fun e w'=>e= .returned (.bool (within x lo hi))∧w=w':=by
 go_enter Tryz.func143,Tryz.ntmps143
 go_wp2
 all_goals(go_ret;exact⟨ret_bool (by rw[Bool.eq_iff_iff];simp[within];omega),rfl⟩)
theorem span_any (a b m:Int) (w:World) :
  Calls Tryz.prog 193 #[.agg #[.int .i64 a,.int .i64 b],.int .i64 m] w fun e w'=>e= .returned (.bool (spanB a b m))∧Ext w w':=by
 go_enter Tryz.func193,Tryz.ntmps193
 go_wp2
 all_goals(go_ret;exact⟨ret_bool (by rw[Bool.eq_iff_iff];simp[spanB];omega),by(with_reducible(repeat(first|exact Qc _|assumption|apply Qd|apply Qe|exact ext_plus _ _|(apply Qf;rotate_left;(simp<;>omega))|(apply Qg;rotate_left;exact ext_plus _ _)|(apply Qg;rotate_left;assumption))))⟩)
set_option maxRecDepth 100000 in
set_option maxHeartbeats 4000000 in
theorem month_any (m:Month) (w:World) :
  Calls Tryz.prog 192 #[.agg (monthV m)] w fun e w'=>e= .returned (.bool (monthB m))∧Ext w w':=by
 go_enter Tryz.func192,Tryz.ntmps192
 go_wp2_with (go_at_call 193;(with_reducible refine(span_any _ _ _ _).mono ?_);rintro e w' ⟨rfl,hb⟩;have hE2:Ext w w':=(by(with_reducible(repeat(first|exact Qc _|assumption|apply Qd|apply Qe|exact ext_plus _ _|(apply Qf;rotate_left;(simp<;>omega))|(apply Qg;rotate_left;exact ext_plus _ _)|(apply Qg;rotate_left;assumption)))));have hbx:Blk w' w.heap.size (monthV m) 63:=(by first|exact Blk.ext (Blk.new w _ _) hb|exact Blk.ext (by assumption) hb);have k0:=hbx.cell;have l0:=hbx.lt)
 all_goals(go_ret;refine⟨ret_bool ?_,by assumption⟩;unfold monthB;simp_all<;>(intros;omega))
theorem rain_any (m:Month) (d:Bool) (w:World) :
  Calls Tryz.prog 146 #[.agg (monthV m),.bool d] w fun e w'=>e= .returned (.agg #[.int .i64 (rainLo m d),.int .i64 (rainHi m d)])∧Ext w w':=by
 cases d
 all_goals
  go_enter Tryz.func146,Tryz.ntmps146
  go_wp2
  refine bodyPost_ret (v:= .agg #[.int .i64 (rainLo m _),.int .i64 (rainHi m _)]) (by simp[results,Tryz.results146,go_sem,rainLo,rainHi]) rfl ⟨rfl,by(with_reducible(repeat(first|exact Qc _|assumption|apply Qd|apply Qe|exact ext_plus _ _|(apply Qf;rotate_left;(simp<;>omega))|(apply Qg;rotate_left;exact ext_plus _ _)|(apply Qg;rotate_left;assumption))))⟩
theorem inside_any (n a b:Int) (w:World) :
  Calls Tryz.prog 145 #[.int .i64 n,.agg #[.int .i64 a,.int .i64 b]] w fun e w'=>e= .returned (.bool (within n a b))∧Ext w w':=by
 go_enter Tryz.func145,Tryz.ntmps145
 go_wp2_with (go_at_call 143;(with_reducible refine(in_any _ _ _ _).mono ?_);rintro e w' ⟨rfl,rfl⟩)
 go_ret
 exact⟨rfl,by(with_reducible(repeat(first|exact Qc _|assumption|apply Qd|apply Qe|exact ext_plus _ _|(apply Qf;rotate_left;(simp<;>omega))|(apply Qg;rotate_left;exact ext_plus _ _)|(apply Qg;rotate_left;assumption))))⟩
set_option maxRecDepth 100000 in
set_option maxHeartbeats 4000000 in
theorem possible_any (i:Islet) (vw vm vd:Value) (dry:List Bool) (w:World) (hw:∃a n k,vw= .slice a n k) (hm:∃a n k,vm= .slice a n k) (hD:Bools w vd dry) (hn:dry.length≤1000000) :
  Calls Tryz.prog 144 #[.agg (islV i vw vm),vd] w fun e w'=>e= .returned (.bool (possible i dry))∧Ext w w':=by
 obtain⟨aw,nw,kw,rfl⟩:=hw
 obtain⟨am,nm,km,rfl⟩:=hm
 obtain⟨ad,cap,rfl,hx⟩:=hD
 have HX:=Qh hx
 clear hx
 have hpos:possible i dry=pos i.most i.row 0 0 (dry.drop 0):=by simp[possible]
 rw[hpos]
 clear hpos
 obtain⟨R,hR⟩:∃R,pos i.most i.row 0 0 (dry.drop 0)=R:=⟨_,rfl⟩
 rw[hR]
 have HR:=Qh hR
 clear hR
 go_enter Tryz.func144,Tryz.ntmps144
 go_wp2
 obtain⟨w1,hw1⟩:∃w1,w.alloc (.cells (islV i (.slice aw nw kw) (.slice am nm km)) 52)=w1:=⟨_,rfl⟩
 have hb:Blk w1 w.heap.size (islV i (.slice aw nw kw) (.slice am nm km)) 52:=by rw[← hw1];exact Blk.new' rfl _ _
 have hE:Ext w w1:=by rw[← hw1];(with_reducible(repeat(first|exact Qc _|assumption|apply Qd|apply Qe|exact ext_plus _ _|(apply Qf;rotate_left;(simp<;>omega))|(apply Qg;rotate_left;exact ext_plus _ _)|(apply Qg;rotate_left;assumption))))
 rw[hw1]
 clear hw1
 have k0:=hb.cell
 have k1:=hb.lt
 clear hb
 go_loopw [5,6,11] (fun a b k wr=>∃(A B K:Nat),A≤K∧B≤K∧K≤dry.length∧a= .int .i64 A∧b= .int .i64 B∧k= .int .i64 K∧pos i.most i.row A B (dry.drop K)=R∧wr=w1) (fun _ _ k _=>dry.length - (intOf k).toNat)
 case atStart=>exact⟨0,0,0,Nat.le_refl _,Nat.le_refl _,Nat.zero_le _,rfl,rfl,rfl,HR.out,rfl⟩
 case round =>
  obtain⟨A,B,K,hA,hB,hK,rfl,rfl,rfl,hp,rfl⟩:=hrel
  have HP:=Qh hp
  clear hp
  by_cases hlt:K<dry.length
  ·obtain⟨b,off,rfl,hb,hAt⟩:=HX.out K hlt
   have h0:=bool_cell (ate_stays _ _ _ _ _ _ hE hb hAt)
   rw[Nat.mul_one]at h0
   have hbl:=Nat.lt_of_lt_of_le hb hE.size
   have hst:=pos_step (M:=i.most) (R:=i.row) (a:=A) (b:=B) hlt
   rw[HP.out]at hst
   have HS:=Qh hst
   clear hst hAt
   obtain⟨x,hx⟩:∃x,dry[K]=x:=⟨_,rfl⟩
   rw[hx]at h0 HS
   clear hx
   cases x with
   | false =>
    go_wp2
    go_roundw
    case rel=>exact⟨A,0,K+1,by omega,by omega,by omega,rfl,rfl,by go_num,by rw[HS.out];rfl,by trivial⟩
    case measure=>simp[intOf];omega
   | true =>
    by_cases h1:i.most<(A:Int)+1
    ·go_wp2
     go_ret
     exact⟨ret_bool (by rw[HS.out];simp[h1]),hE⟩
    ·by_cases h2:i.row<(B:Int)+1
     ·go_wp2
      go_ret
      exact⟨ret_bool (by rw[HS.out];simp[h2]),hE⟩
     ·go_wp2
      go_roundw
      case rel=>exact⟨A+1,B+1,K+1,by omega,by omega,by omega,by go_num,by go_num,by go_num,by rw[HS.out];simp[h1,h2],by trivial⟩
      case measure=>simp[intOf];omega
  ·obtain rfl:K=dry.length:=by omega
   go_wp2
   go_ret
   have h:=HP.out
   rw[List.drop_length]at h
   exact⟨ret_bool (by rw[← h];rfl),hE⟩
end Go.Proofs.YtgloajbgphcloaaGreat.Ln
namespace Go.Proofs.YtgloajbgphcloaaGreat.Ln
set_option linter.unusedVariables false
set_option linter.unusedSimpArgs false
open Go.RowKit
open Ext renaming refl → Qc, setCell → Qf, trans → Qg
open Lib renaming hid → Qh
open Nat renaming lt_of_lt_of_le → Qi
theorem all_step {α:Type} {p:α→Bool} {xs:List α} {k:Nat} (hk:k<xs.length) (h:(xs.take k).all p=true):(xs.take (k+1)).all p=p xs[k]:=by
 rw[List.take_succ_eq_append_getElem hk,List.all_append,h];simp
theorem all_bad {α:Type} {p:α→Bool} {xs:List α} {k:Nat} (hk:k<xs.length) (h:p xs[k]=false):xs.all p=false:=by
 rw[List.all_eq_false];exact⟨_,List.getElem_mem hk,by rw[h];decide⟩
set_option maxRecDepth 100000 in
set_option maxHeartbeats 8000000 in
theorem valid_any (i:Islet) (vw vm:Value) (w:World) (hW:Ints w vw i.wells) (hM:Months w vm i.months) (hn:i.wells.length≤1000000) (hm:i.months.length≤1000000) :
  Calls Tryz.prog 121 #[.agg (islV i vw vm)] w fun e w'=>e= .returned (.bool (islB i))∧Ext w w':=by
 obtain⟨aw,cw,rfl,hxw⟩:=hW
 obtain⟨am,cm,rfl,hxm⟩:=hM
 have HW:=Qh hxw
 have HM:=Qh hxm
 clear hxw hxm
 go_enter Tryz.func121,Tryz.ntmps121
 simp only[List.append_eq,List.cons_append,List.nil_append]
 go_wp2
 obtain⟨w1,hw1⟩:∃w1,w.alloc (.cells (islV i (.slice aw i.wells.length cw) (.slice am i.months.length cm)) 52)=w1:=⟨_,rfl⟩
 have hb:Blk w1 w.heap.size (islV i (.slice aw i.wells.length cw) (.slice am i.months.length cm)) 52:=by rw[← hw1];exact Blk.new' rfl _ _
 have hE:Ext w w1:=by rw[← hw1];(with_reducible(repeat(first|exact Qc _|assumption|apply Ext.alloc|apply Ext.drew|exact ext_plus _ _|(apply Qf;rotate_left;(simp<;>omega))|(apply Qg;rotate_left;exact ext_plus _ _)|(apply Qg;rotate_left;assumption))))
 rw[hw1]
 clear hw1
 go_loopw [11] (fun k wr=>∃K:Nat,K≤i.months.length∧k= .int .i64 K∧(i.months.take K).all monthB=true∧Ext w1 wr) (fun k _=>i.months.length - (intOf k).toNat)
 case atStart=>exact⟨0,Nat.zero_le _,rfl,rfl,Qc _⟩
 case round =>
  rename World=>wr
  obtain⟨K,hK,rfl,hg,hEr⟩:=hrel
  have HG:=Qh hg
  clear hg
  by_cases hlt:K<i.months.length
  ·obtain⟨b,off,rfl,hb2,hAt⟩:=HM.out K hlt
   obtain⟨h0,h1,h2,h3,h4,h5⟩:=month_cells (ate_stays _ _ _ _ _ _ (hE.trans hEr) hb2 hAt)
   have hbl:=Qi hb2 (hE.trans hEr).size
   have hs:=all_step hlt HG.out
   have hbad:=fun h=>all_bad (p:=monthB) hlt h
   obtain⟨m,hmm⟩:∃m,i.months[K]=m:=⟨_,rfl⟩
   rw[hmm]at h0 h1 h2 h3 h4 h5 hs hbad
   obtain⟨B,hB⟩:∃B,monthB m=B:=⟨_,rfl⟩
   have HMO:=Qh (fun w'=>month_any m w')
   rw[hB]at hs hbad HMO
   have HS:=Qh hs
   have HBAD:=Qh hbad
   clear hAt hmm hs hbad hB
   have hbr:=hb.ext hEr
   cases B with
   | true =>
    go_wp2_with (first|(go_at_call 192;refine(HMO.out _).mono ?_;rintro e w' ⟨rfl,hE'⟩))
    go_roundw
    case rel=>exact⟨K+1,by omega,by go_num,HS.out,by(with_reducible(repeat(first|exact Qc _|assumption|apply Ext.alloc|apply Ext.drew|exact ext_plus _ _|(apply Qf;rotate_left;(simp<;>omega))|(apply Qg;rotate_left;exact ext_plus _ _)|(apply Qg;rotate_left;assumption))))⟩
    case measure=>simp[intOf];omega
   | false =>
    go_wp2_with (first|(go_at_call 192;refine(HMO.out _).mono ?_;rintro e w' ⟨rfl,hE'⟩))
    go_ret
    refine⟨ret_bool ?_,?_⟩
    ·unfold islB;rw[HBAD.out (by trivial)];rfl
    ·have:=hE.trans hEr;(with_reducible(repeat(first|exact Qc _|assumption|apply Ext.alloc|apply Ext.drew|exact ext_plus _ _|(apply Qf;rotate_left;(simp<;>omega))|(apply Qg;rotate_left;exact ext_plus _ _)|(apply Qg;rotate_left;assumption))))
  ·obtain rfl:K=i.months.length:=by omega
   have hall:=HG.out
   rw[List.take_length]at hall
   have HALL:=Qh hall
   have hbr:=hb.ext hEr
   have k0:=hbr.cell
   have k1:=hbr.lt
   have hE2:=hE.trans hEr
   clear hall hb hE hEr HG
   go_wp2
   go_loopw [22] (fun k wy=>∃K:Nat,K≤i.wells.length∧k= .int .i64 K∧(i.wells.take K).all (fun x=>within x 0 i.cap)=true∧wy=wr) (fun k _=>i.wells.length - (intOf k).toNat)
   case atStart=>exact⟨0,Nat.zero_le _,rfl,rfl,rfl⟩
   case round =>
    obtain⟨K,hK,rfl,hg,rfl⟩:=hrel
    have HG:=Qh hg
    clear hg
    by_cases hlt:K<i.wells.length
    ·obtain⟨b,off,rfl,hb2,h0⟩:=HW.out K hlt
     have h0':=(hE2.cells.1 _ (off+K) hb2).trans h0
     have hbl:=Qi hb2 hE2.size
     have hs:=all_step hlt HG.out
     have hbad:=fun h=>all_bad (p:=fun x=>within x 0 i.cap) hlt h
     obtain⟨x,hx⟩:∃x,i.wells[K]=x:=⟨_,rfl⟩
     rw[hx]at h0' hs hbad
     obtain⟨B,hB⟩:∃B,within x 0 i.cap=B:=⟨_,rfl⟩
     have HI:=Qh (fun w'=>in_any x 0 i.cap w')
     rw[hB]at hs hbad HI
     have HS:=Qh hs
     have HBAD:=Qh hbad
     clear h0 hx hs hbad hB
     cases B with
     | true =>
      go_wp2_with (first|(go_at_call 143;refine(HI.out _).mono ?_;rintro e w' ⟨rfl,rfl⟩))
      go_roundw
      case rel=>exact⟨K+1,by omega,by go_num,HS.out,by trivial⟩
      case measure=>simp[intOf];omega
     | false =>
      go_wp2_with (first|(go_at_call 143;refine(HI.out _).mono ?_;rintro e w' ⟨rfl,rfl⟩))
      go_ret
      refine⟨ret_bool ?_,hE2⟩
      unfold islB;rw[HBAD.out (by trivial),Bool.and_false];rfl
    ·obtain rfl:K=i.wells.length:=by omega
     have hall:=HG.out
     rw[List.take_length]at hall
     have HALW:=Qh hall
     have hres:islB i=restB i:=by unfold islB;rw[HALL.out,HALW.out];rfl
     have HRES:=Qh hres
     clear hall HG hres
     go_wp2_with (first|(go_at_call 143;(with_reducible refine(in_any _ _ _ _).mono ?_);rintro e w' ⟨rfl,rfl⟩)|(go_at_call 193;(with_reducible refine(span_any _ _ _ _).mono ?_);rintro e w' ⟨rfl,hb9⟩;have hE9:Ext wr w':=(by first|exact hb9|exact Qg (by assumption) hb9);have hb8:=hbr.ext hE9;have k0:=hb8.cell;have k1:=hb8.lt))
     all_goals(go_ret;refine⟨ret_bool ?_,by first|exact hE2|exact hE2.trans (by assumption)⟩;rw[HRES.out];unfold restB;clear HRES HALW HALL HM HW;simp_all<;>(intros;omega))
end Go.Proofs.YtgloajbgphcloaaGreat.Ln
namespace Go.Proofs.YtgloajbgphcloaaGreat.Ln
set_option linter.unusedVariables false
set_option linter.unusedSimpArgs false
open Go.RowKit
open Act renaming put → Qm
open Blk renaming new' → Qj
open Ext renaming alloc → Qd, drew → Qe, refl → Qc, setCell → Qf, trans → Qg
open Lib renaming hid → Qh
open List renaming getElem_cons_succ → Qp, getElem_cons_zero → Qo, getElem_toArray → Qn, setIfInBounds_toArray → Qq, set_cons_succ → Qs, set_cons_zero → Qr
open Nat renaming le_trans → Ql, lt_of_lt_of_le → Qi
open World renaming size_alloc → Qk
theorem blk_of {w w':World} {b:Nat} {cs:Array Value} {e:TypeId} (h:Blk w b cs e) (hE:Ext w w'):∀o,w'.cell? ⟨b,o,none⟩=cs[o]? :=(h.ext hE).cell
theorem box6 {y:World} {b:Nat} {e:TypeId} (h:Blk y b #[.int .i64 0,.int .i64 0,.int .i64 0,.slice none 0 0,.slice none 0 0,.slice none 0 0] e) (v0 v1 v2 v3 v4 v5:Value) :
  Blk ((((((y.setCell ⟨b,0,none⟩ v0).setCell ⟨b,1,none⟩ v1).setCell ⟨b,2,none⟩ v2).setCell ⟨b,3,none⟩ v3).setCell ⟨b,4,none⟩ v4).setCell ⟨b,5,none⟩ v5) b #[v0,v1,v2,v3,v4,v5] e:=by
 simpa using(((((h.set 0 v0).set 1 v1).set 2 v2).set 3 v3).set 4 v4).set 5 v5
theorem ext6 {w y:World} {b:Nat} (hb:w.heap.size≤b) (h:Ext w y) (v0 v1 v2 v3 v4 v5:Value) :
  Ext w ((((((y.setCell ⟨b,0,none⟩ v0).setCell ⟨b,1,none⟩ v1).setCell ⟨b,2,none⟩ v2).setCell ⟨b,3,none⟩ v3).setCell ⟨b,4,none⟩ v4).setCell ⟨b,5,none⟩ v5) :=
 (((((h.setCell (p:=⟨b,0,none⟩) hb v0).setCell (p:=⟨b,1,none⟩) hb v1).setCell (p:=⟨b,2,none⟩) hb v2).setCell (p:=⟨b,3,none⟩) hb v3).setCell (p:=⟨b,4,none⟩) hb v4).setCell (p:=⟨b,5,none⟩) hb v5
theorem ints_succ {R:List Int} {k:Nat} {x:Int} (h:R[k]? =some x):(R.take (k+1)).map (Value.int .i64)=(R.take k).map (Value.int .i64)++[.int .i64 x]:=by
 obtain⟨hk,rfl⟩:=List.getElem?_eq_some_iff.1 h
 rw[List.take_succ_eq_append_getElem hk,List.map_append];rfl
theorem ints_of_take {w:World} {base:Nat} {v:Value} {n:Nat} {xs:List Int} (h:w.ownsRow base 3 1 v n ((xs.take n).map (Value.int .i64))) (hn:n=xs.length):Ints w v xs:=by
 subst hn
 rw[List.take_length]at h
 exact Ints.of_own h
theorem pick_lo (a b:Int) (w:World) :
  Calls Tryz.prog 229 #[.agg #[.int .i64 a,.int .i64 b],.bool false] w fun e w'=>e= .returned (.int .i64 a)∧Ext w w':=by
 go_enter Tryz.func229,Tryz.ntmps229
 go_wp2
 go_ret
 exact⟨rfl,by(with_reducible(repeat(first|exact Qc _|assumption|apply Qd|apply Qe|exact ext_plus _ _|(apply Qf;rotate_left;(simp<;>omega))|(apply Qg;rotate_left;exact ext_plus _ _)|(apply Qg;rotate_left;assumption))))⟩
theorem pick_hi (a b:Int) (w:World) :
  Calls Tryz.prog 229 #[.agg #[.int .i64 a,.int .i64 b],.bool true] w fun e w'=>e= .returned (.int .i64 b)∧Ext w w':=by
 go_enter Tryz.func229,Tryz.ntmps229
 go_wp2
 go_ret
 exact⟨rfl,by(with_reducible(repeat(first|exact Qc _|assumption|apply Qd|apply Qe|exact ext_plus _ _|(apply Qf;rotate_left;(simp<;>omega))|(apply Qg;rotate_left;exact ext_plus _ _)|(apply Qg;rotate_left;assumption))))⟩
set_option maxRecDepth 100000 in
set_option maxHeartbeats 8000000 in
theorem end_any (i:Islet) (vw vm vd:Value) (dry:List Bool) (w:World) (hw:∃a n k,vw= .slice a n k) (hM:Months w vm i.months) (hD:Bools w vd dry) (hn:i.months.length≤1000000) (hd:dry.length=i.months.length) :
  Calls Tryz.prog 195 #[.agg (islV i vw vm),vd,.bool false] w fun e w'=>∃vr vn,e= .returned (.agg (trV (endT i dry) vd vr vn))∧Ints w' vr (endT i dry).rains∧Ints w' vn (endT i dry).needs∧Ext w w':=by
 obtain⟨aw,nw,kw,rfl⟩:=hw
 obtain⟨am,cm,rfl,hxm⟩:=hM
 obtain⟨ad,cd,rfl,hxd⟩:=hD
 have HM:=Qh hxm
 have HD:=Qh hxd
 clear hxm hxd
 have HLD:=Qh hd
 rw[hd]
 clear hd
 obtain⟨i0,hi,hz0,hz1,hz2⟩:=info_parts int_info
 go_enter Tryz.func195,Tryz.ntmps195
 go_upto_region 2 with(fail)
 obtain⟨w1,hw1⟩:∃w1,(w.alloc (.cells (islV i (.slice aw nw kw) (.slice am i.months.length cm)) 52)).alloc (.cells #[.int .i64 0,.int .i64 0,.int .i64 0,.slice none 0 0,.slice none 0 0,.slice none 0 0] 58)=w1:=⟨_,rfl⟩
 have hb:Blk w1 w.heap.size (islV i (.slice aw nw kw) (.slice am i.months.length cm)) 52:=by rw[← hw1];exact(Qj rfl _ _).alloc _
 have hr:Blk w1 (w.heap.size+1) #[.int .i64 0,.int .i64 0,.int .i64 0,.slice none 0 0,.slice none 0 0,.slice none 0 0] 58:=by rw[← hw1];exact Qj (by simp) _ _
 have hE:Ext w w1:=by rw[← hw1];(with_reducible(repeat(first|exact Qc _|assumption|apply Qd|apply Qe|exact ext_plus _ _|(apply Qf;rotate_left;(simp<;>omega))|(apply Qg;rotate_left;exact ext_plus _ _)|(apply Qg;rotate_left;assumption))))
 rw[hw1]
 clear hw1
 go_cut [8]from 11 to 28 (fun s8 wc=>∃bt,s8= .pointer (some ⟨bt,0,none⟩)∧w1.heap.size≤bt∧Blk wc bt #[.int .i64 i.sl,.int .i64 i.kl,.int .i64 i.lh,.slice ad i.months.length cd,.slice none 0 0,.slice none 0 0] 58∧Ext w1 wc)
 case first =>
  go_region_held3 (fun y=>(∀ o,y.cell? ⟨w.heap.size,o,none⟩=(islV i (.slice aw nw kw) (.slice am i.months.length cm))[o]?)∧Ext w1 y)
   (first|exact⟨blk_of hb (by(with_reducible(repeat(first|exact Qc _|assumption|apply Qd|apply Qe|exact ext_plus _ _|(apply Qf;rotate_left;(simp<;>omega))|(apply Qg;rotate_left;exact ext_plus _ _)|(apply Qg;rotate_left;assumption))))),by(with_reducible(repeat(first|exact Qc _|assumption|apply Qd|apply Qe|exact ext_plus _ _|(apply Qf;rotate_left;(simp<;>omega))|(apply Qg;rotate_left;exact ext_plus _ _)|(apply Qg;rotate_left;assumption))))⟩)
   (first|(go_at_call 229;(with_reducible refine(pick_lo i.sl i.sh _).mono ?_);rintro e y1 ⟨rfl,hy1⟩;have a1:=hy1.cells.1;have b1:=hy1.cells.2;have c1:=hy1.size;(try simp only[size_drew,size_drewN,Qk]at a1 b1 c1);(try have d1:=Nat.lt_of_succ_le c1))|(go_at_call 229;(with_reducible refine(pick_lo i.kl i.kh _).mono ?_);rintro e y2 ⟨rfl,hy2⟩;have a2:=hy2.cells.1;have b2:=hy2.cells.2;have c2:=hy2.size;(try simp only[size_drew,size_drewN,Qk]at a2 b2 c2);(try have d2:=Nat.lt_of_succ_le c2);(try have e20:w1.heap.size<y2.heap.size:=(by omega)))|(go_at_call 229;(with_reducible refine(pick_hi i.ll i.lh _).mono ?_);rintro e y3 ⟨rfl,hy3⟩;have a3:=hy3.cells.1;have b3:=hy3.cells.2;have c3:=hy3.size;(try simp only[size_drew,size_drewN,Qk]at a3 b3 c3);(try have d3:=Nat.lt_of_succ_le c3);(try have e30:w1.heap.size<y3.heap.size:=(by omega));(try have e31:y1.heap.size<y3.heap.size:=(by omega))))
  all_goals(dsimp only[Exit.then];go_wp2;go_meet)
  all_goals refine⟨_,rfl,?_,?_,?_⟩
  all_goals first
   | with_reducible exact Qj rfl _ _
   | (with_reducible refine box6 ?_ _ _ _ _ _ _;first
      | with_reducible exact Blk.ext (Qj rfl _ _) hy3
      | with_reducible exact Blk.ext (Blk.drew (Qj rfl _ _)) hy3
      | with_reducible exact Blk.ext (Blk.ext (Qj rfl _ _) hy2) hy3
      | with_reducible exact Blk.ext (Blk.ext (Blk.drew (Qj rfl _ _)) hy2) hy3
      | with_reducible exact Blk.ext (Blk.ext (Blk.ext (Qj rfl _ _) hy1) hy2) hy3
      | with_reducible exact Blk.ext (Blk.ext (Blk.ext (Blk.drew (Qj rfl _ _)) hy1) hy2) hy3)
   | (with_reducible refine ext6 ?_ ?_ _ _ _ _ _ _<;>first|omega|(with_reducible show Ext _ _;(with_reducible(repeat(first|exact Qc _|assumption|apply Qd|apply Qe|exact ext_plus _ _|(apply Qf;rotate_left;(simp<;>omega))|(apply Qg;rotate_left;exact ext_plus _ _)|(apply Qg;rotate_left;assumption))));done))
   | omega
   | (with_reducible show Ext _ _;(with_reducible(repeat(first|exact Qc _|assumption|apply Qd|apply Qe|exact ext_plus _ _|(apply Qf;rotate_left;(simp<;>omega))|(apply Qg;rotate_left;exact ext_plus _ _)|(apply Qg;rotate_left;assumption))));done)
   | (simp only[size_drew,size_drewN,Qk];omega)
 case rest =>
  obtain⟨bt,rfl,hbt,hT,hE2⟩:=hcut
  rename World=>w2
  have hb2:=hb.ext hE2
  have hr2:=hr.ext hE2
  have hEw:=hE.trans hE2
  have hbw:w.heap.size+1<bt:=by have:=hr.lt;omega
  obtain⟨RS,hRS⟩:∃RS,(endT i dry).rains=RS:=⟨_,rfl⟩
  obtain⟨NS,hNS⟩:∃NS,(endT i dry).needs=NS:=⟨_,rfl⟩
  have hRl:RS.length=i.months.length:=by rw[← hRS];simp[endT]
  have hNl:NS.length=i.months.length:=by rw[← hNS];simp[endT]
  have hRg:∀k,(h:k<i.months.length)→RS[k]? =some (rainLo i.months[k] (dry[k]'(by rw[HLD.out];exact h))):=by
   intro k h
   rw[← hRS];simp only[endT]
   rw[List.getElem?_map,List.getElem?_range h]
   simp only[Option.map_some,mat_get h,bat_get (show k<dry.length by rw[HLD.out];exact h)]
  have hNg:∀k,(h:k<i.months.length)→NS[k]? =some (i.months[k]).nh:=by
   intro k h
   rw[← hNS];simp only[endT]
   rw[List.getElem?_map,List.getElem?_eq_getElem h];rfl
  have HRS:=Qh hRS
  have HNS:=Qh hNS
  have HRL:=Qh hRl
  have HNL:=Qh hNl
  have HRG:=Qh hRg
  have HNG:=Qh hNg
  clear hRS hNS hRl hNl hRg hNg hb hr hE hE2 hbt
  have hzw2:=hT.lt
  obtain⟨Z,hZ⟩:∃Z,w2.heap.size=Z:=⟨_,rfl⟩
  rw[hZ]at hzw2
  have HZ:=Qh hZ
  clear hZ
  have c0:=hb2.cell
  have c1:=hb2.lt
  go_wp2
  clear c0 c1
  go_loopw [32] (fun k wr=>∃(K:Nat) (vr vn:Value),K≤i.months.length∧k= .int .i64 K∧wr.ownsRow Z 3 1 vr K ((RS.take K).map (Value.int .i64))∧wr.ownsRow Z 3 1 vn K ((NS.take K).map (Value.int .i64))∧(∀ q,vr.ownBlock=some q→vn.ownBlock≠some q) ∧
    Blk wr bt #[.int .i64 i.sl,.int .i64 i.kl,.int .i64 i.lh,.slice ad i.months.length cd,vr,vn] 58∧Blk wr w.heap.size (islV i (.slice aw nw kw) (.slice am i.months.length cm)) 52∧Blk wr (w.heap.size+1) #[.int .i64 0,.int .i64 0,.int .i64 0,.slice none 0 0,.slice none 0 0,.slice none 0 0] 58∧Ext w wr∧Z≤wr.heap.size)
   (fun k _=>i.months.length - (intOf k).toNat)
  case atStart=>exact⟨0,_,_,Nat.zero_le _,rfl,World.ownsRow_nil _ _ _ _,World.ownsRow_nil _ _ _ _,(by intro q h;cases h),hT,hb2,hr2,hEw,by rw[HZ.out];exact Nat.le_refl _⟩
  case round =>
   rename World=>wr
   obtain⟨K,vr,vn,hK,rfl,hor,hon,hap,hT,hB,hR,hEr,hZr⟩:=hrel
   have HAP:=Qh hap
   clear hap hb2 hr2 hEw HZ
   by_cases hlt:K<i.months.length
   ·obtain⟨b,off,rfl,hbm,hAt⟩:=HM.out K hlt
    obtain⟨h0,h1,h2,h3,h4,h5⟩:=month_cells (ate_stays _ _ _ _ _ _ hEr hbm hAt)
    have hbl:=Qi hbm hEr.size
    have hlt2:K<dry.length:=by rw[HLD.out];exact hlt
    obtain⟨b2,off2,rfl,hbm2,hAt2⟩:=HD.out K hlt2
    have g0:=bool_cell (ate_stays _ _ _ _ _ _ hEr hbm2 hAt2)
    rw[Nat.mul_one]at g0
    have hbl2:=Qi hbm2 hEr.size
    have hRk:=ints_succ (HRG.out K hlt)
    have hNk:=ints_succ (HNG.out K hlt)
    clear hAt hAt2
    obtain⟨m,hm⟩:∃m,i.months[K]=m:=⟨_,rfl⟩
    obtain⟨x,hx⟩:∃x,dry[K]=x:=⟨_,rfl⟩
    rw[hm]at h0 h1 h2 h3 h4 h5 hNk
    rw[hm,hx]at hRk
    rw[hx]at g0
    have HRK:=Qh hRk
    have HNK:=Qh hNk
    clear hm hx hRk hNk hlt2
    have c1:=hB.lt
    have d1:=hT.lt
    go_wp2
    obtain⟨wm,hwm⟩:∃wm,wr.alloc (.cells (monthV m) 63)=wm:=⟨_,rfl⟩
    obtain⟨bm,hbmm⟩:∃bm,wr.heap.size=bm:=⟨_,rfl⟩
    have hM1:Blk wm bm (monthV m) 63:=by rw[← hwm];exact Qj hbmm.symm _ _
    have hEm:Ext wr wm:=by rw[← hwm];(with_reducible(repeat(first|exact Qc _|assumption|apply Qd|apply Qe|exact ext_plus _ _|(apply Qf;rotate_left;(simp<;>omega))|(apply Qg;rotate_left;exact ext_plus _ _)|(apply Qg;rotate_left;assumption))))
    rw[hwm,hbmm]
    clear hwm
    obtain⟨ar,cr,rfl⟩:=own_slice hor
    obtain⟨an,cn,rfl⟩:=own_slice hon
    have hlr:=fun q (h:(Value.slice ar K cr).ownBlock=some q)=>(hor.lt q h).2
    have hln:=fun q (h:(Value.slice an K cn).ownBlock=some q)=>(hon.lt q h).2
    rw[hbmm]at hlr hln
    have HLR:=Qh hlr
    have HLN:=Qh hln
    obtain⟨w1',hw1'⟩:∃y,wm=y:=⟨_,rfl⟩
    rw[hw1']at hM1 hEm ⊢
    clear hw1' hlr hln wm
    rename World=>w1
    have hT1:=hT.ext hEm
    have hB1:=hB.ext hEm
    have hR1:=hR.ext hEm
    have hor1:=own_ext hor hEm
    have hon1:=own_ext hon hEm
    have hx1:=(hEm.cells.1 _ _ hbl2).trans g0
    have hl1:=Qi hbl2 hEm.size
    have hE1:=hEr.trans hEm
    have hzz1:=Ql hZr hEm.size
    have hm1:bm≤w1.heap.size:=by rw[← hbmm];exact hEm.size
    have hbtZ:bt<Z:=hzw2
    have hbmZ:Z≤bm:=by omega
    have hwZ:w.heap.size≤Z:=by omega
    clear hor hon hT hB hR h0 h1 h2 h3 h4 h5 g0 c1 d1 hbl hbmm hEm hbl2 hEr hZr hbm hbm2
    refine wp_region_late 12 (fun b y=>b=false→(∀ o,y.cell? ⟨bt,o,none⟩=(#[.int .i64 i.sl,.int .i64 i.kl,.int .i64 i.lh,.slice (some ⟨b2,off2,none⟩) i.months.length cd,.slice ar K cr,.slice an K cn]:Array Value)[o]?)∧(∀ o,y.cell? ⟨bm,o,none⟩=(monthV m)[o]?)∧y.cell? ⟨b2,off2+K,none⟩=some (.bool x)) (by kernel_rfl) (fun hL=> ?_)
    refine late_early (i:=0) (v:= ?_) rfl (by kernel_rfl) (by kernel_rfl) (by kernel_rfl) (by decide) (by kernel_rfl) (fun _ _ _ h=>h) hL (Or.inl ⟨by rfl,?_⟩) (fun _=>⟨hT1.cell,hM1.cell,hx1⟩) (fun hL'=> ?_)
    rotate_left
    ·intro y hy;have hz:=hy rfl;clear hy;obtain⟨g1,g2,g3⟩:=hz;go_simp;(try with_reducible rfl)
    clear hL;rename Shutb _ _=>hL
    (try simp only[Qm,Qn,Qo,Qp,Qq,Qr,Qs])
    refine late_early (i:=1) (v:= ?_) rfl (by kernel_rfl) (by kernel_rfl) (by kernel_rfl) (by decide) (by kernel_rfl) (fun _ _ _ h=>h) hL (Or.inl ⟨by rfl,?_⟩) (fun _=>⟨hT1.cell,hM1.cell,hx1⟩) (fun hL'=> ?_)
    rotate_left
    ·intro y hy;have hz:=hy rfl;clear hy;obtain⟨g1,g2,g3⟩:=hz;go_simp;(try with_reducible rfl)
    clear hL;rename Shutb _ _=>hL
    (try simp only[Qm,Qn,Qo,Qp,Qq,Qr,Qs])
    refine late_early (i:=2) (v:= ?_) rfl (by kernel_rfl) (by kernel_rfl) (by kernel_rfl) (by decide) (by kernel_rfl) (fun _ _ _ h=>h) hL (Or.inl ⟨by rfl,?_⟩) (fun _=>⟨hT1.cell,hM1.cell,hx1⟩) (fun hL'=> ?_)
    rotate_left
    ·intro y hy;have hz:=hy rfl;clear hy;obtain⟨g1,g2,g3⟩:=hz;go_simp;(try with_reducible rfl)
    clear hL;rename Shutb _ _=>hL
    (try simp only[Qm,Qn,Qo,Qp,Qq,Qr,Qs])
    refine late_early (i:=3) (v:= ?_) rfl (by kernel_rfl) (by kernel_rfl) (by kernel_rfl) (by decide) (by kernel_rfl) (fun _ _ _ h=>h) hL (Or.inl ⟨by rfl,?_⟩) (fun _=>⟨hT1.cell,hM1.cell,hx1⟩) (fun hL'=> ?_)
    rotate_left
    ·intro y hy;have hz:=hy rfl;clear hy;obtain⟨g1,g2,g3⟩:=hz;go_simp;(try with_reducible rfl)
    clear hL;rename Shutb _ _=>hL
    (try simp only[Qm,Qn,Qo,Qp,Qq,Qr,Qs])
    refine late_early (i:=4) (v:= ?_) rfl (by kernel_rfl) (by kernel_rfl) (by kernel_rfl) (by decide) (by kernel_rfl) (fun _ _ _ h=>h) hL (Or.inl ⟨by rfl,?_⟩) (fun _=>⟨hT1.cell,hM1.cell,hx1⟩) (fun hL'=> ?_)
    rotate_left
    ·intro y hy;have hz:=hy rfl;clear hy;obtain⟨g1,g2,g3⟩:=hz;go_simp;(try with_reducible rfl)
    clear hL;rename Shutb _ _=>hL
    (try simp only[Qm,Qn,Qo,Qp,Qq,Qr,Qs])
    refine late_early (i:=5) (v:= ?_) rfl (by kernel_rfl) (by kernel_rfl) (by kernel_rfl) (by decide) (by kernel_rfl) (fun _ _ _ h=>h) hL (Or.inl ⟨by rfl,?_⟩) (fun _=>⟨hT1.cell,hM1.cell,hx1⟩) (fun hL'=> ?_)
    rotate_left
    ·intro y hy;have hz:=hy rfl;clear hy;obtain⟨g1,g2,g3⟩:=hz;go_simp;(try with_reducible rfl)
    clear hL;rename Shutb _ _=>hL
    (try simp only[Qm,Qn,Qo,Qp,Qq,Qr,Qs])
    refine late_early (i:=6) (v:= ?_) rfl (by kernel_rfl) (by kernel_rfl) (by kernel_rfl) (by decide) (by kernel_rfl) (fun _ _ _ h=>h) hL (Or.inl ⟨by rfl,?_⟩) (fun _=>⟨hT1.cell,hM1.cell,hx1⟩) (fun hL'=> ?_)
    rotate_left
    ·intro y hy;have hz:=hy rfl;clear hy;obtain⟨g1,g2,g3⟩:=hz;go_simp;(try with_reducible rfl)
    clear hL;rename Shutb _ _=>hL
    (try simp only[Qm,Qn,Qo,Qp,Qq,Qr,Qs])
    refine late_early (i:=7) (v:= ?_) rfl (by kernel_rfl) (by kernel_rfl) (by kernel_rfl) (by decide) (by kernel_rfl) (fun _ _ _ h=>h) hL (Or.inl ⟨by rfl,?_⟩) (fun _=>⟨hT1.cell,hM1.cell,hx1⟩) (fun hL'=> ?_)
    rotate_left
    ·intro y hy;have hz:=hy rfl;clear hy;obtain⟨g1,g2,g3⟩:=hz;go_simp;(try with_reducible rfl)
    clear hL;rename Shutb _ _=>hL
    (try simp only[Qm,Qn,Qo,Qp,Qq,Qr,Qs])
    refine late_early (i:=9) (v:= ?_) rfl (by kernel_rfl) (by kernel_rfl) (by kernel_rfl) (by decide) (by kernel_rfl) (fun _ _ _ h=>h) hL (Or.inl ⟨by rfl,?_⟩) (fun _=>⟨hT1.cell,hM1.cell,hx1⟩) (fun hL'=> ?_)
    rotate_left
    ·intro y hy;have hz:=hy rfl;clear hy;obtain⟨g1,g2,g3⟩:=hz;go_simp;(try with_reducible rfl)
    clear hL;rename Shutb _ _=>hL
    (try simp only[Qm,Qn,Qo,Qp,Qq,Qr,Qs])
    refine late_one (i:=8) (by kernel_rfl) hL (fun hL'=> ?_)
    refine wpOp_step rfl (fun KK hK0=> ?_)
    have hK:Shut _:=hK0
    clear hK0
    go_simp
    go_wp2_with (first|(go_at_call 146;refine(rain_any _ _ _).mono ?_;rintro e w2 ⟨rfl,hy⟩))
    have hD:Ext w1 w2:=(by(with_reducible(repeat(first|exact Qc _|assumption|apply Qd|apply Qe|exact ext_plus _ _|(apply Qf;rotate_left;(simp<;>omega))|(apply Qg;rotate_left;exact ext_plus _ _)|(apply Qg;rotate_left;assumption)))))
    have hT2:=hT1.ext hD
    have hM2:=hM1.ext hD
    have hB2:=hB1.ext hD
    have hR2:=hR1.ext hD
    have hor2:=own_ext hor1 hD
    have hon2:=own_ext hon1 hD
    have hE2:=hE1.trans hD
    have hzz2:=Ql hzz1 hD.size
    have hm2:=Ql hm1 hD.size
    have hx2:=(hD.cells.1 _ _ hl1).trans hx1
    have hl2:=Qi hl1 hD.size
    clear hD hy
    clear hT1 hM1 hB1 hR1 hor1 hon1 hE1 hzz1 hm1 hx1 hl1
    refine hK.out _ _ ⟨fun _=>⟨hT2.cell,hM2.cell,hx2⟩,?_⟩
    clear hK KK;clear hL;rename Shutb _ _=>hL
    (try simp only[Qm,Qn,Qo,Qp,Qq,Qr,Qs])
    refine late_one (i:=10) (by kernel_rfl) hL (fun hL'=> ?_)
    refine wpOp_step rfl (fun KK hK0=> ?_)
    have hK:Shut _:=hK0
    clear hK0
    go_simp
    go_wp2_with (first|(go_at_call 229;refine(pick_lo _ _ _).mono ?_;rintro e w3 ⟨rfl,hy⟩))
    have hD:Ext w2 w3:=(by(with_reducible(repeat(first|exact Qc _|assumption|apply Qd|apply Qe|exact ext_plus _ _|(apply Qf;rotate_left;(simp<;>omega))|(apply Qg;rotate_left;exact ext_plus _ _)|(apply Qg;rotate_left;assumption)))))
    have hT3:=hT2.ext hD
    have hM3:=hM2.ext hD
    have hB3:=hB2.ext hD
    have hR3:=hR2.ext hD
    have hor3:=own_ext hor2 hD
    have hon3:=own_ext hon2 hD
    have hE3:=hE2.trans hD
    have hzz3:=Ql hzz2 hD.size
    have hm3:=Ql hm2 hD.size
    have hx3:=(hD.cells.1 _ _ hl2).trans hx2
    have hl3:=Qi hl2 hD.size
    clear hD hy
    clear hT2 hM2 hB2 hR2 hor2 hon2 hE2 hzz2 hm2 hx2 hl2
    refine hK.out _ _ ⟨fun _=>⟨hT3.cell,hM3.cell,hx3⟩,?_⟩
    clear hK KK;clear hL;rename Shutb _ _=>hL
    (try simp only[Qm,Qn,Qo,Qp,Qq,Qr,Qs])
    refine late_one (i:=11) (by kernel_rfl) hL (fun hL'=> ?_)
    refine wpOp_step rfl (fun KK hK0=> ?_)
    have hK:Shut _:=hK0
    clear hK0
    go_simp
    obtain⟨w4,hy⟩:∃y,w3.alloc (.cells #[.int .i64 (rainLo m x)] 3)=y:=⟨_,rfl⟩
    obtain⟨bn,hbn⟩:∃bn,w3.heap.size=bn:=⟨_,rfl⟩
    have hN:Blk w4 bn #[.int .i64 (rainLo m x)] 3:=by rw[← hy];exact Qj hbn.symm _ _
    have hD:Ext w3 w4:=by rw[← hy];(with_reducible(repeat(first|exact Qc _|assumption|apply Qd|apply Qe|exact ext_plus _ _|(apply Qf;rotate_left;(simp<;>omega))|(apply Qg;rotate_left;exact ext_plus _ _)|(apply Qg;rotate_left;assumption))))
    rw[hy,hbn]
    clear hy hbn
    have hT4:=hT3.ext hD
    have hM4:=hM3.ext hD
    have hB4:=hB3.ext hD
    have hR4:=hR3.ext hD
    have hor4:=own_ext hor3 hD
    have hon4:=own_ext hon3 hD
    have hE4:=hE3.trans hD
    have hzz4:=Ql hzz3 hD.size
    have hm4:=Ql hm3 hD.size
    have hx4:=(hD.cells.1 _ _ hl3).trans hx3
    have hl4:=Qi hl3 hD.size
    clear hD
    clear hT3 hM3 hB3 hR3 hor3 hon3 hE3 hzz3 hm3 hx3 hl3
    refine hK.out _ _ ⟨fun _=>⟨hT4.cell,hM4.cell,hx4⟩,?_⟩
    clear hK KK;clear hL;rename Shutb _ _=>hL
    (try simp only[Qm,Qn,Qo,Qp,Qq,Qr,Qs])
    refine late_one (i:=12) (by kernel_rfl) hL (fun hL'=> ?_)
    refine wpOp_step rfl (fun KK hK0=> ?_)
    have hK:Shut _:=hK0
    clear hK0
    refine step_append _ rfl _ _ 30 3 rfl i0 (.int .i64 0) 1 8 Tryz.underlying30 hi hz0 hz1 hz2 rfl (by decide) Z _ K 1 bn 1 _ [.int .i64 (rainLo m x)] rfl rfl hor4 hN rfl (one_int _) (by omega) (by decide) hzz4 ?_
    intro v' w5 hn hg hat
    have hT5:=hT4.grown hg (own_base hor4) hbtZ
    have hB5:=hB4.grown hg (own_base hor4) (by omega)
    have hR5:=hR4.grown hg (own_base hor4) (by omega)
    have hM5:Blk w5 bm (monthV m) 63:=(hg.block bm hM4.lt (fun e=>by have:=HLR.out _ e.symm;omega)).trans hM4
    have hon5:=hon4.kept hg (apart_ne HAP.out)
    have hE5:=hE4.grown hg (fun q e=>Ql hwZ (own_base hor4 q e))
    have hzz5:=Ql hzz4 hg.size
    have hm5:=Ql hm4 hg.size
    have HAP2:=Qh (apart_l HAP.out HLN.out hat hm4)
    have hor5:=hn
    obtain⟨g',cap',rfl⟩:=own_succ hn
    clear hn hg hat hN
    clear hT4 hM4 hB4 hR4 hor4 hon4 hE4 hzz4 hm4 hx4 hl4
    refine hK.out _ _ ⟨fun e=>absurd (e:true=false) (by decide),?_⟩
    clear hK KK;clear hL;rename Shutb _ _=>hL
    (try simp only[Qm,Qn,Qo,Qp,Qq,Qr,Qs])
    refine late_late (i:=13) (v:= ?_) rfl (by kernel_rfl) (by kernel_rfl) (by kernel_rfl) (by decide) (fun _ _=>fun e=>absurd (e:true=false) (by decide)) (fun _ _ _ h=>h) hL (Or.inl ⟨by rfl,?_⟩) (fun e=>absurd (e:true=false) (by decide)) (fun hL'=> ?_)
    rotate_left
    ·intro y hy;clear hy;go_simp;(try with_reducible rfl)
    clear hL;rename Shutb _ _=>hL
    (try simp only[Qm,Qn,Qo,Qp,Qq,Qr,Qs])
    refine late_one (i:=14) (by kernel_rfl) hL (fun hL'=> ?_)
    refine wpOp_step rfl (fun KK hK0=> ?_)
    have hK:Shut _:=hK0
    clear hK0
    have tl:=hT5.lt
    have tf:=hT5.free
    have tc:=hT5.cell
    go_simp
    obtain⟨w6,hy⟩:∃y,w5.setCell ⟨bt,4,none⟩ (.slice (some ⟨g',0,none⟩) (K+1) cap')=y:=⟨_,rfl⟩
    have hT6:Blk w6 bt (#[.int .i64 i.sl,.int .i64 i.kl,.int .i64 i.lh,.slice (some ⟨b2,off2,none⟩) i.months.length cd,.slice (some ⟨g',0,none⟩) (K+1) cap',.slice an K cn]:Array Value) 58:=by rw[← hy];simpa using hT5.set 4 (.slice (some ⟨g',0,none⟩) (K+1) cap')
    have hne:∀g,g≠bt→w6.heap[g]? =w5.heap[g]? :=fun g hg=>by rw[← hy];exact Below.heap_setCell _ _ _ _ (by simpa using hg)
    have hM6:Blk w6 bm (monthV m) 63:=(hne bm (by omega)).trans hM5
    have hB6:Blk w6 _ _ _:=(hne w.heap.size (by omega)).trans hB5
    have hR6:Blk w6 _ _ _:=(hne (w.heap.size+1) (by omega)).trans hR5
    have hor6:=own_move hor5 fun g _ hg _=>hne g (by omega)
    have hon6:=own_move hon5 fun g _ hg _=>hne g (by omega)
    have hE6:Ext w w6:=by rw[← hy];exact hE5.setCell (p:=⟨bt,4,none⟩) (by show w.heap.size≤bt;omega) _
    have hzz6:Z≤w6.heap.size:=by rw[← hy,size_setCell];exact hzz5
    have hm6:bm≤w6.heap.size:=by rw[← hy,size_setCell];exact hm5
    rw[hy]
    clear hy hne tl tf tc
    clear hT5 hM5 hB5 hR5 hor5 hon5 hE5 hzz5 hm5
    refine hK.out _ _ ⟨fun e=>absurd (e:true=false) (by decide),?_⟩
    clear hK KK;clear hL;rename Shutb _ _=>hL
    (try simp only[Qm,Qn,Qo,Qp,Qq,Qr,Qs])
    refine late_done (by kernel_rfl) ?_
    (try dsimp only[Exit.then])
    go_upto_region 7 with(fail)
    refine wp_region_late 9 (fun b y=>b=false→(∀ o,y.cell? ⟨bt,o,none⟩=(#[.int .i64 i.sl,.int .i64 i.kl,.int .i64 i.lh,.slice (some ⟨b2,off2,none⟩) i.months.length cd,.slice (some ⟨g',0,none⟩) (K+1) cap',.slice an K cn]:Array Value)[o]?)∧(∀ o,y.cell? ⟨bm,o,none⟩=(monthV m)[o]?)) (by kernel_rfl) (fun hL=> ?_)
    refine late_early (i:=0) (v:= ?_) rfl (by kernel_rfl) (by kernel_rfl) (by kernel_rfl) (by decide) (by kernel_rfl) (fun _ _ _ h=>h) hL (Or.inl ⟨by rfl,?_⟩) (fun _=>⟨hT6.cell,hM6.cell⟩) (fun hL'=> ?_)
    rotate_left
    ·intro y hy;have hz:=hy rfl;clear hy;obtain⟨g1,g2⟩:=hz;go_simp;(try with_reducible rfl)
    clear hL;rename Shutb _ _=>hL
    (try simp only[Qm,Qn,Qo,Qp,Qq,Qr,Qs])
    refine late_early (i:=1) (v:= ?_) rfl (by kernel_rfl) (by kernel_rfl) (by kernel_rfl) (by decide) (by kernel_rfl) (fun _ _ _ h=>h) hL (Or.inl ⟨by rfl,?_⟩) (fun _=>⟨hT6.cell,hM6.cell⟩) (fun hL'=> ?_)
    rotate_left
    ·intro y hy;have hz:=hy rfl;clear hy;obtain⟨g1,g2⟩:=hz;go_simp;(try with_reducible rfl)
    clear hL;rename Shutb _ _=>hL
    (try simp only[Qm,Qn,Qo,Qp,Qq,Qr,Qs])
    refine late_early (i:=2) (v:= ?_) rfl (by kernel_rfl) (by kernel_rfl) (by kernel_rfl) (by decide) (by kernel_rfl) (fun _ _ _ h=>h) hL (Or.inl ⟨by rfl,?_⟩) (fun _=>⟨hT6.cell,hM6.cell⟩) (fun hL'=> ?_)
    rotate_left
    ·intro y hy;have hz:=hy rfl;clear hy;obtain⟨g1,g2⟩:=hz;go_simp;(try with_reducible rfl)
    clear hL;rename Shutb _ _=>hL
    (try simp only[Qm,Qn,Qo,Qp,Qq,Qr,Qs])
    refine late_early (i:=3) (v:= ?_) rfl (by kernel_rfl) (by kernel_rfl) (by kernel_rfl) (by decide) (by kernel_rfl) (fun _ _ _ h=>h) hL (Or.inl ⟨by rfl,?_⟩) (fun _=>⟨hT6.cell,hM6.cell⟩) (fun hL'=> ?_)
    rotate_left
    ·intro y hy;have hz:=hy rfl;clear hy;obtain⟨g1,g2⟩:=hz;go_simp;(try with_reducible rfl)
    clear hL;rename Shutb _ _=>hL
    (try simp only[Qm,Qn,Qo,Qp,Qq,Qr,Qs])
    refine late_early (i:=4) (v:= ?_) rfl (by kernel_rfl) (by kernel_rfl) (by kernel_rfl) (by decide) (by kernel_rfl) (fun _ _ _ h=>h) hL (Or.inl ⟨by rfl,?_⟩) (fun _=>⟨hT6.cell,hM6.cell⟩) (fun hL'=> ?_)
    rotate_left
    ·intro y hy;have hz:=hy rfl;clear hy;obtain⟨g1,g2⟩:=hz;go_simp;(try with_reducible rfl)
    clear hL;rename Shutb _ _=>hL
    (try simp only[Qm,Qn,Qo,Qp,Qq,Qr,Qs])
    refine late_early (i:=5) (v:= ?_) rfl (by kernel_rfl) (by kernel_rfl) (by kernel_rfl) (by decide) (by kernel_rfl) (fun _ _ _ h=>h) hL (Or.inl ⟨by rfl,?_⟩) (fun _=>⟨hT6.cell,hM6.cell⟩) (fun hL'=> ?_)
    rotate_left
    ·intro y hy;have hz:=hy rfl;clear hy;obtain⟨g1,g2⟩:=hz;go_simp;(try with_reducible rfl)
    clear hL;rename Shutb _ _=>hL
    (try simp only[Qm,Qn,Qo,Qp,Qq,Qr,Qs])
    refine late_early (i:=6) (v:= ?_) rfl (by kernel_rfl) (by kernel_rfl) (by kernel_rfl) (by decide) (by kernel_rfl) (fun _ _ _ h=>h) hL (Or.inl ⟨by rfl,?_⟩) (fun _=>⟨hT6.cell,hM6.cell⟩) (fun hL'=> ?_)
    rotate_left
    ·intro y hy;have hz:=hy rfl;clear hy;obtain⟨g1,g2⟩:=hz;go_simp;(try with_reducible rfl)
    clear hL;rename Shutb _ _=>hL
    (try simp only[Qm,Qn,Qo,Qp,Qq,Qr,Qs])
    refine late_one (i:=7) (by kernel_rfl) hL (fun hL'=> ?_)
    refine wpOp_step rfl (fun KK hK0=> ?_)
    have hK:Shut _:=hK0
    clear hK0
    go_simp
    go_wp2_with (first|(go_at_call 229;refine(pick_hi _ _ _).mono ?_;rintro e w7 ⟨rfl,hy⟩))
    have hD:Ext w6 w7:=(by(with_reducible(repeat(first|exact Qc _|assumption|apply Qd|apply Qe|exact ext_plus _ _|(apply Qf;rotate_left;(simp<;>omega))|(apply Qg;rotate_left;exact ext_plus _ _)|(apply Qg;rotate_left;assumption)))))
    have hT7:=hT6.ext hD
    have hM7:=hM6.ext hD
    have hB7:=hB6.ext hD
    have hR7:=hR6.ext hD
    have hor7:=own_ext hor6 hD
    have hon7:=own_ext hon6 hD
    have hE7:=hE6.trans hD
    have hzz7:=Ql hzz6 hD.size
    have hm7:=Ql hm6 hD.size
    clear hD hy
    clear hT6 hM6 hB6 hR6 hor6 hon6 hE6 hzz6 hm6
    refine hK.out _ _ ⟨fun _=>⟨hT7.cell,hM7.cell⟩,?_⟩
    clear hK KK;clear hL;rename Shutb _ _=>hL
    (try simp only[Qm,Qn,Qo,Qp,Qq,Qr,Qs])
    refine late_one (i:=8) (by kernel_rfl) hL (fun hL'=> ?_)
    refine wpOp_step rfl (fun KK hK0=> ?_)
    have hK:Shut _:=hK0
    clear hK0
    go_simp
    obtain⟨w8,hy⟩:∃y,w7.alloc (.cells #[.int .i64 m.nh] 3)=y:=⟨_,rfl⟩
    obtain⟨bn,hbn⟩:∃bn,w7.heap.size=bn:=⟨_,rfl⟩
    have hN:Blk w8 bn #[.int .i64 m.nh] 3:=by rw[← hy];exact Qj hbn.symm _ _
    have hD:Ext w7 w8:=by rw[← hy];(with_reducible(repeat(first|exact Qc _|assumption|apply Qd|apply Qe|exact ext_plus _ _|(apply Qf;rotate_left;(simp<;>omega))|(apply Qg;rotate_left;exact ext_plus _ _)|(apply Qg;rotate_left;assumption))))
    rw[hy,hbn]
    clear hy hbn
    have hT8:=hT7.ext hD
    have hM8:=hM7.ext hD
    have hB8:=hB7.ext hD
    have hR8:=hR7.ext hD
    have hor8:=own_ext hor7 hD
    have hon8:=own_ext hon7 hD
    have hE8:=hE7.trans hD
    have hzz8:=Ql hzz7 hD.size
    have hm8:=Ql hm7 hD.size
    clear hD
    clear hT7 hM7 hB7 hR7 hor7 hon7 hE7 hzz7 hm7
    refine hK.out _ _ ⟨fun _=>⟨hT8.cell,hM8.cell⟩,?_⟩
    clear hK KK;clear hL;rename Shutb _ _=>hL
    (try simp only[Qm,Qn,Qo,Qp,Qq,Qr,Qs])
    refine late_one (i:=9) (by kernel_rfl) hL (fun hL'=> ?_)
    refine wpOp_step rfl (fun KK hK0=> ?_)
    have hK:Shut _:=hK0
    clear hK0
    refine step_append _ rfl _ _ 30 3 rfl i0 (.int .i64 0) 1 8 Tryz.underlying30 hi hz0 hz1 hz2 rfl (by decide) Z _ K 1 bn 1 _ [.int .i64 m.nh] rfl rfl hon8 hN rfl (one_int _) (by omega) (by decide) hzz8 ?_
    intro v' w9 hn hg hat
    have hT9:=hT8.grown hg (own_base hon8) hbtZ
    have hB9:=hB8.grown hg (own_base hon8) (by omega)
    have hR9:=hR8.grown hg (own_base hon8) (by omega)
    have hM9:Blk w9 bm (monthV m) 63:=(hg.block bm hM8.lt (fun e=>by have:=HLN.out _ e.symm;omega)).trans hM8
    have hor9:=hor8.kept hg (apart_ne2 HAP2.out)
    have hE9:=hE8.grown hg (fun q e=>Ql hwZ (own_base hon8 q e))
    have hzz9:=Ql hzz8 hg.size
    have hm9:=Ql hm8 hg.size
    have hor9:=fun q (h:_=some q)=>(hor8.lt q h).2
    have HAP3:=Qh (apart_r HAP2.out hor9 hat (Nat.le_refl _))
    clear hor9
    have hon9:=hn
    obtain⟨g'',cap'',rfl⟩:=own_succ hn
    clear hn hg hat hN
    clear hT8 hM8 hB8 hR8 hor8 hon8 hE8 hzz8 hm8
    refine hK.out _ _ ⟨fun e=>absurd (e:true=false) (by decide),?_⟩
    clear hK KK;clear hL;rename Shutb _ _=>hL
    (try simp only[Qm,Qn,Qo,Qp,Qq,Qr,Qs])
    refine late_late (i:=10) (v:= ?_) rfl (by kernel_rfl) (by kernel_rfl) (by kernel_rfl) (by decide) (fun _ _=>fun e=>absurd (e:true=false) (by decide)) (fun _ _ _ h=>h) hL (Or.inl ⟨by rfl,?_⟩) (fun e=>absurd (e:true=false) (by decide)) (fun hL'=> ?_)
    rotate_left
    ·intro y hy;clear hy;go_simp;(try with_reducible rfl)
    clear hL;rename Shutb _ _=>hL
    (try simp only[Qm,Qn,Qo,Qp,Qq,Qr,Qs])
    refine late_one (i:=11) (by kernel_rfl) hL (fun hL'=> ?_)
    refine wpOp_step rfl (fun KK hK0=> ?_)
    have hK:Shut _:=hK0
    clear hK0
    have tl:=hT9.lt
    have tf:=hT9.free
    have tc:=hT9.cell
    go_simp
    obtain⟨w10,hy⟩:∃y,w9.setCell ⟨bt,5,none⟩ (.slice (some ⟨g'',0,none⟩) (K+1) cap'')=y:=⟨_,rfl⟩
    have hT10:Blk w10 bt (#[.int .i64 i.sl,.int .i64 i.kl,.int .i64 i.lh,.slice (some ⟨b2,off2,none⟩) i.months.length cd,.slice (some ⟨g',0,none⟩) (K+1) cap',.slice (some ⟨g'',0,none⟩) (K+1) cap'']:Array Value) 58:=by rw[← hy];simpa using hT9.set 5 (.slice (some ⟨g'',0,none⟩) (K+1) cap'')
    have hne:∀g,g≠bt→w10.heap[g]? =w9.heap[g]? :=fun g hg=>by rw[← hy];exact Below.heap_setCell _ _ _ _ (by simpa using hg)
    have hM10:Blk w10 bm (monthV m) 63:=(hne bm (by omega)).trans hM9
    have hB10:Blk w10 _ _ _:=(hne w.heap.size (by omega)).trans hB9
    have hR10:Blk w10 _ _ _:=(hne (w.heap.size+1) (by omega)).trans hR9
    have hor10:=own_move hor9 fun g _ hg _=>hne g (by omega)
    have hon10:=own_move hon9 fun g _ hg _=>hne g (by omega)
    have hE10:Ext w w10:=by rw[← hy];exact hE9.setCell (p:=⟨bt,5,none⟩) (by show w.heap.size≤bt;omega) _
    have hzz10:Z≤w10.heap.size:=by rw[← hy,size_setCell];exact hzz9
    have hm10:bm≤w10.heap.size:=by rw[← hy,size_setCell];exact hm9
    rw[hy]
    clear hy hne tl tf tc
    clear hT9 hM9 hB9 hR9 hor9 hon9 hE9 hzz9 hm9
    refine hK.out _ _ ⟨fun e=>absurd (e:true=false) (by decide),?_⟩
    clear hK KK;clear hL;rename Shutb _ _=>hL
    (try simp only[Qm,Qn,Qo,Qp,Qq,Qr,Qs])
    refine late_done (by kernel_rfl) ?_
    (try dsimp only[Exit.then])
    go_wp2
    go_roundw
    case rel=>exact⟨K+1,_,_,by omega,by go_num,by rw[HRK.out];exact hor10,by rw[HNK.out];exact hon10,HAP3.out,hT10,hB10,hR10,hE10,hzz10⟩
    case measure=>simp[intOf];omega
   ·obtain rfl:K=i.months.length:=by omega
    have t0:=hT.cell
    have t1:=hT.lt
    have r0:=hR.lt
    have r1:=hR.free
    have r2:=hR.cell
    obtain⟨ar,cr,rfl⟩:=own_slice hor
    obtain⟨an,cn,rfl⟩:=own_slice hon
    have HOR:=Qh hor
    have HON:=Qh hon
    clear hor hon HAP
    go_wp2
    obtain⟨w9,hw9⟩:∃y,((((((wr.setCell ⟨w.heap.size+1,0,none⟩ (.int .i64 i.sl)).setCell ⟨w.heap.size+1,1,none⟩ (.int .i64 i.kl)).setCell ⟨w.heap.size+1,2,none⟩ (.int .i64 i.lh)).setCell ⟨w.heap.size+1,3,none⟩ (.slice ad i.months.length cd)).setCell ⟨w.heap.size+1,4,none⟩ (.slice ar i.months.length cr)).setCell ⟨w.heap.size+1,5,none⟩ (.slice an i.months.length cn))=y:=⟨_,rfl⟩
    have hR9:Blk w9 (w.heap.size+1) #[.int .i64 i.sl,.int .i64 i.kl,.int .i64 i.lh,.slice ad i.months.length cd,.slice ar i.months.length cr,.slice an i.months.length cn] 58:=by rw[← hw9];exact box6 hR _ _ _ _ _ _
    have hE9:Ext w w9:=by rw[← hw9];exact ext6 (by omega) hEr _ _ _ _ _ _
    have hne:∀g,g≠w.heap.size+1→w9.heap[g]? =wr.heap[g]? :=fun g hg=>by
     rw[← hw9]
     repeat rw[Below.heap_setCell _ _ _ _ (fun h=>hg (by simpa using h))]
    have hir:=ints_of_take (own_move HOR.out fun g _ hg _=>hne g (by omega)) HRL.out.symm
    have hin:=ints_of_take (own_move HON.out fun g _ hg _=>hne g (by omega)) HNL.out.symm
    rw[hw9]
    have q0:=hR9.cell
    have q1:=hR9.lt
    refine bodyPost_ret (v:= .agg (trV (endT i dry) (.slice ad i.months.length cd) (.slice ar i.months.length cr) (.slice an i.months.length cn))) (by simp[results,Tryz.results195,go_sem,q0,q1,endT]) rfl ⟨_,_,rfl,?_,?_,hE9⟩
    ·rw[HRS.out];exact hir
    ·rw[HNS.out];exact hin
end Go.Proofs.YtgloajbgphcloaaGreat.Ln
namespace Go.Proofs.YtgloajbgphcloaaGreat.Ln
set_option linter.unusedVariables false
set_option linter.unusedSimpArgs false
open Go.RowKit
open Act renaming put → Qm
open IntWalk renaming i64_in → Qt
open Lib renaming hid → Qh
open List renaming append_eq → Qu, cons_append → Qv, drop_succ_cons → Qz, drop_zero → Q0, getElem_cons_succ → Qp, getElem_cons_zero → Qo, getElem_toArray → Qn, nil_append → Qw, setIfInBounds_toArray → Qq, set_cons_succ → Qs, set_cons_zero → Qr, take_succ_cons → Qx, take_zero → Qy
open Nat renaming lt_of_lt_of_le → Qi
structure Led where
 a:Int
 b:Int
 c:Int
 d:Int
 e:Int
 f:Int
abbrev folV (i:Islet) (vw vm:Value) (t:Truth) (vd vr vn:Value) (hold now:Int) (s:St) (l:Led):Array Value :=
 #[.int .i64 i.cap,.int .i64 i.sl,.int .i64 i.sh,.int .i64 i.roof,.int .i64 i.sand,.int .i64 i.kl,.int .i64 i.kh,.int .i64 i.ll,.int .i64 i.lh,.int .i64 i.pump,.int .i64 i.keep,.int .i64 i.size,vw,vm,.int .i64 i.most,.int .i64 i.row,.int .i64 t.start,.int .i64 t.soak,.int .i64 t.leak,vd,vr,vn,.int .i64 hold,.int .i64 now,.int .i64 s.tanks,.int .i64 s.lens,.int .i64 s.lack,.int .i64 l.a,.int .i64 l.b,.int .i64 l.c,.int .i64 l.d,.int .i64 l.e,.int .i64 l.f]
def FolAt (w:World) (br:Nat) (i:Islet) (vw vm:Value) (t:Truth) (vd vr vn:Value) (hold now:Int) (s:St):Prop :=
 ∃l,Blk w br (folV i vw vm t vd vr vn hold now s l) 174
theorem fol_e {w:World} {br:Nat} {i:Islet} {vw vm:Value} {t:Truth} {vd vr vn:Value} {hold now:Int} {s:St} {l:Led} (h:Blk w br (folV i vw vm t vd vr vn hold now s l) 174) (x:Int) :
  Blk (w.setCell ⟨br,31,none⟩ (.int .i64 x)) br (folV i vw vm t vd vr vn hold now s ⟨l.a,l.b,l.c,l.d,x,l.f⟩) 174:=by simpa using h.set 31 (.int .i64 x)
theorem fol_c {w:World} {br:Nat} {i:Islet} {vw vm:Value} {t:Truth} {vd vr vn:Value} {hold now:Int} {s:St} {l:Led} (h:Blk w br (folV i vw vm t vd vr vn hold now s l) 174) (x:Int) :
  Blk (w.setCell ⟨br,29,none⟩ (.int .i64 x)) br (folV i vw vm t vd vr vn hold now s ⟨l.a,l.b,x,l.d,l.e,l.f⟩) 174:=by simpa using h.set 29 (.int .i64 x)
theorem fol_d {w:World} {br:Nat} {i:Islet} {vw vm:Value} {t:Truth} {vd vr vn:Value} {hold now:Int} {s:St} {l:Led} (h:Blk w br (folV i vw vm t vd vr vn hold now s l) 174) (x:Int) :
  Blk (w.setCell ⟨br,30,none⟩ (.int .i64 x)) br (folV i vw vm t vd vr vn hold now s ⟨l.a,l.b,l.c,x,l.e,l.f⟩) 174:=by simpa using h.set 30 (.int .i64 x)
theorem fol_tanks {w:World} {br:Nat} {i:Islet} {vw vm:Value} {t:Truth} {vd vr vn:Value} {hold now:Int} {s:St} {l:Led} (h:Blk w br (folV i vw vm t vd vr vn hold now s l) 174) (x:Int) :
  Blk (w.setCell ⟨br,24,none⟩ (.int .i64 x)) br (folV i vw vm t vd vr vn hold now ⟨x,s.lens,s.lack⟩ l) 174:=by simpa using h.set 24 (.int .i64 x)
theorem fol_lens {w:World} {br:Nat} {i:Islet} {vw vm:Value} {t:Truth} {vd vr vn:Value} {hold now:Int} {s:St} {l:Led} (h:Blk w br (folV i vw vm t vd vr vn hold now s l) 174) (x:Int) :
  Blk (w.setCell ⟨br,25,none⟩ (.int .i64 x)) br (folV i vw vm t vd vr vn hold now ⟨s.tanks,x,s.lack⟩ l) 174:=by simpa using h.set 25 (.int .i64 x)
theorem fol_lack {w:World} {br:Nat} {i:Islet} {vw vm:Value} {t:Truth} {vd vr vn:Value} {hold now:Int} {s:St} {l:Led} (h:Blk w br (folV i vw vm t vd vr vn hold now s l) 174) (x:Int) :
  Blk (w.setCell ⟨br,26,none⟩ (.int .i64 x)) br (folV i vw vm t vd vr vn hold now ⟨s.tanks,s.lens,x⟩ l) 174:=by simpa using h.set 26 (.int .i64 x)
theorem folAt_e {w:World} {br:Nat} {i:Islet} {vw vm:Value} {t:Truth} {vd vr vn:Value} {hold now:Int} {s:St} {l:Led} (h:Blk w br (folV i vw vm t vd vr vn hold now s l) 174) (x:Int):FolAt (w.setCell ⟨br,31,none⟩ (.int .i64 x)) br i vw vm t vd vr vn hold now s:=⟨_,fol_e h x⟩
theorem folAt_c {w:World} {br:Nat} {i:Islet} {vw vm:Value} {t:Truth} {vd vr vn:Value} {hold now:Int} {s:St} {l:Led} (h:Blk w br (folV i vw vm t vd vr vn hold now s l) 174) (x:Int):FolAt (w.setCell ⟨br,29,none⟩ (.int .i64 x)) br i vw vm t vd vr vn hold now s:=⟨_,fol_c h x⟩
theorem folAt_d {w:World} {br:Nat} {i:Islet} {vw vm:Value} {t:Truth} {vd vr vn:Value} {hold now:Int} {s:St} {l:Led} (h:Blk w br (folV i vw vm t vd vr vn hold now s l) 174) (x:Int):FolAt (w.setCell ⟨br,30,none⟩ (.int .i64 x)) br i vw vm t vd vr vn hold now s:=⟨_,fol_d h x⟩
theorem min_if (a b:Int):min a b=if b<a then b else a:=by split<;>omega
theorem tdiv_pos {a b:Int} (h:0≤a):Int.tdiv a b=a/b:=Int.tdiv_eq_ediv_of_nonneg h
set_option maxRecDepth 100000 in
set_option maxHeartbeats 8000000 in
theorem falls_any (i:Islet) (vw vm:Value) (t:Truth) (vd vr vn:Value) (hold:Int) (now:Nat) (s:St) (br:Nat) (w0 w:World) (O:Ok i) (T:TrOk i t) (hk:now<i.months.length) (hh:0≤hold) (hh1:hold≤400000000) (hB:Bd i hold s)
  (hE:Ext w0 w) (hbr:w0.heap.size≤br) (hR:Ints w0 vr t.rains) (hb:FolAt w br i vw vm t vd vr vn hold now s) :
  Calls Tryz.prog 147 #[.pointer (some ⟨br,0,none⟩)] w fun e w'=>e= .returned (.tuple #[])∧FolAt w' br i vw vm t vd vr vn hold now (fallS i hold (iat t.rains now) t.soak s)∧Off br w w':=by
 obtain⟨l,hb⟩:=hb
 have hkr:now<t.rains.length:=by rw[T.rains];exact hk
 have hrb:=T.rain now hk
 have hsb:=T.soak
 have hcp:=O.cap
 have hrf:=O.roof
 have hsd:=O.sand
 obtain⟨ar,cr,rfl,hx⟩:=hR
 obtain⟨b2,off2,rfl,hb2,h0⟩:=hx now hkr
 have h0':=(hE.cells.1 _ _ hb2).trans h0
 have hl2:=Qi hb2 hE.size
 have hmm:iat t.rains now=t.rains[now]:=iat_get hkr
 rw[← hmm]at h0'
 have hle:now≤8:=by have:=O.n;omega
 obtain⟨mm,hm⟩:∃mm,iat t.rains now=mm:=⟨_,rfl⟩
 rw[hm]at h0' hrb ⊢
 obtain⟨P1,hP1⟩:∃P,i.roof*mm=P:=⟨_,rfl⟩
 obtain⟨P2,hP2⟩:∃P,i.sand*mm=P:=⟨_,rfl⟩
 obtain⟨P3,hP3⟩:∃P,P2*t.soak=P:=⟨_,rfl⟩
 have hm1:=mul_bd hrf.1 hrf.2 hrb.1 hrb.2
 have hm2:=mul_bd hsd.1 hsd.2 hrb.1 hrb.2
 rw[hP1]at hm1
 rw[hP2]at hm2
 have hm3:=mul_bd hm2.1 hm2.2 hsb.1 hsb.2
 rw[hP3]at hm3
 have hres:fallS i hold mm t.soak s=⟨min (s.tanks+P1/1000) hold,min (s.lens+P3/1000000) i.cap,s.lack⟩:=by unfold fallS;rw[hP1,hP2,hP3]
 rw[hres]
 have hq1:0≤P1/1000∧P1/1000≤200000:=by omega
 have hq3:0≤P3/1000000∧P3/1000000≤20000000:=by omega
 obtain⟨rf,hrf'⟩:∃x,P1/1000=x:=⟨_,rfl⟩
 obtain⟨sd,hsd'⟩:∃x,P3/1000000=x:=⟨_,rfl⟩
 rw[hrf']at hq1 ⊢
 rw[hsd']at hq3 ⊢
 have e1:IntKind.wrap .i64 (i.roof*mm)=P1:=by rw[hP1];exact Qt _ (by omega)
 have e2:IntKind.wrap .i64 (i.sand*mm)=P2:=by rw[hP2];exact Qt _ (by omega)
 have e3:IntKind.wrap .i64 (P2*t.soak)=P3:=by rw[hP3];exact Qt _ (by omega)
 have e4:Int.tdiv P1 1000=rf:=by rw[tdiv_pos hm1.1,hrf']
 have e5:Int.tdiv P3 1000000=sd:=by rw[tdiv_pos hm3.1,hsd']
 have hBd:=hB
 unfold Bd at hBd
 clear hB
 have k0:=hb.cell
 have k1:=hb.lt
 have k2:=hb.free
 have hpc:=plus_cell
 clear hP1 hP2 hP3 hres hrf' hsd' hm hmm h0 hx O T
 go_enter Tryz.func147,Tryz.ntmps147
 go_wp2
 have hO0:=Off.refl br w
 have hb0:=hb
 refine wp_region_ext 12 (fun _ _ d _ _ h=>by cases d<;>exact h) (by kernel_rfl) (by kernel_rfl) (by kernel_rfl) (by kernel_rfl) ?_
 (try simp only[Qu,Qv,Qw])
 simp only[Qx,Qy,Qz,Q0]
 repeat(any_goals(first|go_big_quiet_step(fail)|quiet_step(fail)))
 all_goals(refine wpQuiet_nil ?_;intro w1 hEw1)
 all_goals skip
 have hb1:=hb0.ext hEw1
 have hO1:=hO0.ext hEw1
 clear k0 k1 k2
 have k0:=hb1.cell
 (try dsimp only[folV]at k0)
 have k1:=hb1.lt
 have k2:=hb1.free
 go_wp2
 refine wp_region_ext 24 (fun _ _ d _ _ h=>by cases d<;>exact h) (by kernel_rfl) (by kernel_rfl) (by kernel_rfl) (by kernel_rfl) ?_
 (try simp only[Qu,Qv,Qw])
 simp only[Qx,Qy,Qz,Q0]
 repeat(any_goals(first|go_big_quiet_step(fail)|quiet_step(fail)))
 all_goals(refine wpQuiet_nil ?_;intro w2 hEw2)
 all_goals skip
 have hb2:=hb1.ext hEw2
 have hO2:=hO1.ext hEw2
 clear k0 k1 k2
 have k0:=hb2.cell
 (try dsimp only[folV]at k0)
 have k1:=hb2.lt
 have k2:=hb2.free
 go_wp2
 refine wp_region_ext 16 (fun _ _ d _ _ h=>by cases d<;>exact h) (by kernel_rfl) (by kernel_rfl) (by kernel_rfl) (by kernel_rfl) ?_
 (try simp only[Qu,Qv,Qw])
 simp only[Qx,Qy,Qz,Q0]
 repeat(any_goals(first|go_big_quiet_step(fail)|quiet_step(fail)))
 all_goals(refine wpQuiet_nil ?_;intro w3 hEw3)
 all_goals skip
 have hb3:=hb2.ext hEw3
 have hO3:=hO2.ext hEw3
 clear k0 k1 k2
 have k0:=hb3.cell
 (try dsimp only[folV]at k0)
 have k1:=hb3.lt
 have k2:=hb3.free
 obtain⟨A,hA⟩:∃x,(if hold<s.tanks+rf then hold else s.tanks+rf)=x:=⟨_,rfl⟩
 obtain⟨B,hB⟩:∃x,(if i.cap<s.lens+sd then i.cap else s.lens+sd)=x:=⟨_,rfl⟩
 have HA:=Qh hA
 have HB:=Qh hB
 go_upto_region 3 with(fail)
 clear k0 k1 k2
 have hb3d:=hb3.drew
 have k0:=hb3.cell
 have k1:=hb3.lt
 have k2:=hb3.free
 refine wp_region_late 18 (fun b y=>b=false→∀o,y.cell? ⟨br,o,none⟩=(folV i vw vm t vd (.slice (some ⟨b2,off2,none⟩) t.rains.length cr) vn hold now s l:Array Value)[o]?) (by kernel_rfl) (fun hL=> ?_)
 refine late_early (i:=0) (v:= ?_) rfl (by kernel_rfl) (by kernel_rfl) (by kernel_rfl) (by decide) (by kernel_rfl) (fun _ _ _ h=>h) hL (Or.inl ⟨by rfl,?_⟩) (fun _=>hb3d.cell) (fun hL'=> ?_)
 rotate_left
 ·intro y hy;have hz:=hy rfl;clear hy;have g1:=hz;go_simp;(try with_reducible rfl)
 clear hL;rename Shutb _ _=>hL
 (try simp only[Qm,Qn,Qo,Qp,Qq,Qr,Qs])
 refine late_late (i:=1) (v:= ?_) rfl (by kernel_rfl) (by kernel_rfl) (by kernel_rfl) (by decide) (fun _ _=>fun e=>absurd (e:true=false) (by decide)) (fun _ _ _ h=>h) hL (Or.inl ⟨by rfl,?_⟩) (fun _=>hb3d.cell) (fun hL'=> ?_)
 rotate_left
 ·intro y hy;clear hy;go_simp;(try with_reducible rfl)
 clear hL;rename Shutb _ _=>hL
 (try simp only[Qm,Qn,Qo,Qp,Qq,Qr,Qs])
 refine late_early (i:=2) (v:= ?_) rfl (by kernel_rfl) (by kernel_rfl) (by kernel_rfl) (by decide) (by kernel_rfl) (fun _ _ _ h=>h) hL (Or.inl ⟨by rfl,?_⟩) (fun _=>hb3d.cell) (fun hL'=> ?_)
 rotate_left
 ·intro y hy;have hz:=hy rfl;clear hy;have g1:=hz;go_simp;(try with_reducible rfl)
 clear hL;rename Shutb _ _=>hL
 (try simp only[Qm,Qn,Qo,Qp,Qq,Qr,Qs])
 refine late_early (i:=3) (v:= ?_) rfl (by kernel_rfl) (by kernel_rfl) (by kernel_rfl) (by decide) (by kernel_rfl) (fun _ _ _ h=>h) hL (Or.inl ⟨by rfl,?_⟩) (fun _=>hb3d.cell) (fun hL'=> ?_)
 rotate_left
 ·intro y hy;have hz:=hy rfl;clear hy;have g1:=hz;go_simp;(try with_reducible rfl)
 clear hL;rename Shutb _ _=>hL
 (try simp only[Qm,Qn,Qo,Qp,Qq,Qr,Qs])
 refine late_early (i:=4) (v:= ?_) rfl (by kernel_rfl) (by kernel_rfl) (by kernel_rfl) (by decide) (by kernel_rfl) (fun _ _ _ h=>h) hL (Or.inl ⟨by rfl,?_⟩) (fun _=>hb3d.cell) (fun hL'=> ?_)
 rotate_left
 ·intro y hy;have hz:=hy rfl;clear hy;have g1:=hz;go_simp;(try with_reducible rfl)
 clear hL;rename Shutb _ _=>hL
 (try simp only[Qm,Qn,Qo,Qp,Qq,Qr,Qs])
 refine late_early (i:=5) (v:= ?_) rfl (by kernel_rfl) (by kernel_rfl) (by kernel_rfl) (by decide) (by kernel_rfl) (fun _ _ _ h=>h) hL (Or.inl ⟨by rfl,?_⟩) (fun _=>hb3d.cell) (fun hL'=> ?_)
 rotate_left
 ·intro y hy;have hz:=hy rfl;clear hy;have g1:=hz;go_simp;(try with_reducible rfl)
 clear hL;rename Shutb _ _=>hL
 (try simp only[Qm,Qn,Qo,Qp,Qq,Qr,Qs])
 refine late_early (i:=6) (v:= ?_) rfl (by kernel_rfl) (by kernel_rfl) (by kernel_rfl) (by decide) (by kernel_rfl) (fun _ _ _ h=>h) hL (Or.inl ⟨by rfl,?_⟩) (fun _=>hb3d.cell) (fun hL'=> ?_)
 rotate_left
 ·intro y hy;have hz:=hy rfl;clear hy;have g1:=hz;go_simp;(try with_reducible rfl)
 clear hL;rename Shutb _ _=>hL
 (try simp only[Qm,Qn,Qo,Qp,Qq,Qr,Qs])
 refine late_early (i:=7) (v:= ?_) rfl (by kernel_rfl) (by kernel_rfl) (by kernel_rfl) (by decide) (by kernel_rfl) (fun _ _ _ h=>h) hL (Or.inl ⟨by rfl,?_⟩) (fun _=>hb3d.cell) (fun hL'=> ?_)
 rotate_left
 ·intro y hy;have hz:=hy rfl;clear hy;have g1:=hz;go_simp;(try with_reducible rfl)
 clear hL;rename Shutb _ _=>hL
 (try simp only[Qm,Qn,Qo,Qp,Qq,Qr,Qs])
 refine late_late (i:=8) (v:= ?_) rfl (by kernel_rfl) (by kernel_rfl) (by kernel_rfl) (by decide) (fun _ _=>fun e=>absurd (e:true=false) (by decide)) (fun _ _ _ h=>h) hL (Or.inl ⟨by rfl,?_⟩) (fun _=>hb3d.cell) (fun hL'=> ?_)
 rotate_left
 ·intro y hy;clear hy;go_simp;(try with_reducible rfl)
 clear hL;rename Shutb _ _=>hL
 (try simp only[Qm,Qn,Qo,Qp,Qq,Qr,Qs])
 refine late_early (i:=9) (v:= ?_) rfl (by kernel_rfl) (by kernel_rfl) (by kernel_rfl) (by decide) (by kernel_rfl) (fun _ _ _ h=>h) hL (Or.inl ⟨by rfl,?_⟩) (fun _=>hb3d.cell) (fun hL'=> ?_)
 rotate_left
 ·intro y hy;have hz:=hy rfl;clear hy;have g1:=hz;go_simp;(try with_reducible rfl)
 clear hL;rename Shutb _ _=>hL
 (try simp only[Qm,Qn,Qo,Qp,Qq,Qr,Qs])
 refine late_early (i:=10) (v:= ?_) rfl (by kernel_rfl) (by kernel_rfl) (by kernel_rfl) (by decide) (by kernel_rfl) (fun _ _ _ h=>h) hL (Or.inl ⟨by rfl,?_⟩) (fun _=>hb3d.cell) (fun hL'=> ?_)
 rotate_left
 ·intro y hy;have hz:=hy rfl;clear hy;have g1:=hz;go_simp;(try with_reducible rfl)
 clear hL;rename Shutb _ _=>hL
 (try simp only[Qm,Qn,Qo,Qp,Qq,Qr,Qs])
 refine late_early (i:=11) (v:= ?_) rfl (by kernel_rfl) (by kernel_rfl) (by kernel_rfl) (by decide) (by kernel_rfl) (fun _ _ _ h=>h) hL (Or.inl ⟨by rfl,?_⟩) (fun _=>hb3d.cell) (fun hL'=> ?_)
 rotate_left
 ·intro y hy;have hz:=hy rfl;clear hy;have g1:=hz;go_simp;(try with_reducible rfl)
 clear hL;rename Shutb _ _=>hL
 (try simp only[Qm,Qn,Qo,Qp,Qq,Qr,Qs])
 refine late_early (i:=12) (v:= ?_) rfl (by kernel_rfl) (by kernel_rfl) (by kernel_rfl) (by decide) (by kernel_rfl) (fun _ _ _ h=>h) hL (Or.inl ⟨by rfl,?_⟩) (fun _=>hb3d.cell) (fun hL'=> ?_)
 rotate_left
 ·intro y hy;have hz:=hy rfl;clear hy;have g1:=hz;go_simp;(try with_reducible rfl)
 clear hL;rename Shutb _ _=>hL
 (try simp only[Qm,Qn,Qo,Qp,Qq,Qr,Qs])
 refine late_early (i:=13) (v:= ?_) rfl (by kernel_rfl) (by kernel_rfl) (by kernel_rfl) (by decide) (by kernel_rfl) (fun _ _ _ h=>h) hL (Or.inl ⟨by rfl,?_⟩) (fun _=>hb3d.cell) (fun hL'=> ?_)
 rotate_left
 ·intro y hy;have hz:=hy rfl;clear hy;have g1:=hz;go_simp;(try with_reducible rfl)
 clear hL;rename Shutb _ _=>hL
 (try simp only[Qm,Qn,Qo,Qp,Qq,Qr,Qs])
 refine late_late (i:=14) (v:= ?_) rfl (by kernel_rfl) (by kernel_rfl) (by kernel_rfl) (by decide) (fun _ _=>fun e=>absurd (e:true=false) (by decide)) (fun _ _ _ h=>h) hL (Or.inl ⟨by rfl,?_⟩) (fun _=>hb3d.cell) (fun hL'=> ?_)
 rotate_left
 ·intro y hy;clear hy;go_simp;(try with_reducible rfl)
 clear hL;rename Shutb _ _=>hL
 (try simp only[Qm,Qn,Qo,Qp,Qq,Qr,Qs])
 refine late_early (i:=15) (v:= ?_) rfl (by kernel_rfl) (by kernel_rfl) (by kernel_rfl) (by decide) (by kernel_rfl) (fun _ _ _ h=>h) hL (Or.inl ⟨by rfl,?_⟩) (fun _=>hb3d.cell) (fun hL'=> ?_)
 rotate_left
 ·intro y hy;have hz:=hy rfl;clear hy;have g1:=hz;go_simp;(try with_reducible rfl)
 clear hL;rename Shutb _ _=>hL
 (try simp only[Qm,Qn,Qo,Qp,Qq,Qr,Qs])
 refine late_early (i:=16) (v:= ?_) rfl (by kernel_rfl) (by kernel_rfl) (by kernel_rfl) (by decide) (by kernel_rfl) (fun _ _ _ h=>h) hL (Or.inl ⟨by rfl,?_⟩) (fun _=>hb3d.cell) (fun hL'=> ?_)
 rotate_left
 ·intro y hy;have hz:=hy rfl;clear hy;have g1:=hz;go_simp;(try with_reducible rfl)
 clear hL;rename Shutb _ _=>hL
 (try simp only[Qm,Qn,Qo,Qp,Qq,Qr,Qs])
 refine late_early (i:=17) (v:= ?_) rfl (by kernel_rfl) (by kernel_rfl) (by kernel_rfl) (by decide) (by kernel_rfl) (fun _ _ _ h=>h) hL (Or.inl ⟨by rfl,?_⟩) (fun _=>hb3d.cell) (fun hL'=> ?_)
 rotate_left
 ·intro y hy;have hz:=hy rfl;clear hy;have g1:=hz;go_simp;(try with_reducible rfl)
 clear hL;rename Shutb _ _=>hL
 (try simp only[Qm,Qn,Qo,Qp,Qq,Qr,Qs])
 refine late_one (i:=18) (by kernel_rfl) hL (fun hL'=> ?_)
 refine wpOp_step rfl (fun KK hK0=> ?_)
 have hK:Shut _:=hK0
 clear hK0
 go_simp
 have hb4:Blk (w3.setCell ⟨br,24,none⟩ (.int .i64 A)) br (folV i vw vm t vd (.slice (some ⟨b2,off2,none⟩) t.rains.length cr) vn hold now ⟨A,s.lens,s.lack⟩ l) 174:=by simpa using(hb3.set 24 (.int .i64 A))
 have hO4:Off br w (w3.setCell ⟨br,24,none⟩ (.int .i64 A)):=(hO3.set (a:=⟨br,24,none⟩) (.inl rfl) (.int .i64 A))
 obtain⟨w4,hw⟩:∃y,(w3.setCell ⟨br,24,none⟩ (.int .i64 A))=y:=⟨_,rfl⟩
 rw[hw]at hb4 hO4 ⊢
 clear hw k0 k1 k2
 have k0:=hb4.cell
 (try dsimp only[folV]at k0)
 have k1:=hb4.lt
 have k2:=hb4.free
 refine hK.out _ _ ⟨fun e=>absurd (e:true=false) (by decide),?_⟩
 clear hK KK;clear hL;rename Shutb _ _=>hL
 (try simp only[Qm,Qn,Qo,Qp,Qq,Qr,Qs])
 refine late_late (i:=19) (v:= ?_) rfl (by kernel_rfl) (by kernel_rfl) (by kernel_rfl) (by decide) (fun _ _=>fun e=>absurd (e:true=false) (by decide)) (fun _ _ _ h=>h) hL (Or.inl ⟨by rfl,?_⟩) (fun e=>absurd (e:true=false) (by decide)) (fun hL'=> ?_)
 rotate_left
 ·intro y hy;clear hy;go_simp;(try with_reducible rfl)
 clear hL;rename Shutb _ _=>hL
 (try simp only[Qm,Qn,Qo,Qp,Qq,Qr,Qs])
 refine late_late (i:=20) (v:= ?_) rfl (by kernel_rfl) (by kernel_rfl) (by kernel_rfl) (by decide) (fun _ _=>fun e=>absurd (e:true=false) (by decide)) (fun _ _ _ h=>h) hL (Or.inl ⟨by rfl,?_⟩) (fun e=>absurd (e:true=false) (by decide)) (fun hL'=> ?_)
 rotate_left
 ·intro y hy;clear hy;go_simp;(try with_reducible rfl)
 clear hL;rename Shutb _ _=>hL
 (try simp only[Qm,Qn,Qo,Qp,Qq,Qr,Qs])
 refine late_late (i:=21) (v:= ?_) rfl (by kernel_rfl) (by kernel_rfl) (by kernel_rfl) (by decide) (fun _ _=>fun e=>absurd (e:true=false) (by decide)) (fun _ _ _ h=>h) hL (Or.inl ⟨by rfl,?_⟩) (fun e=>absurd (e:true=false) (by decide)) (fun hL'=> ?_)
 rotate_left
 ·intro y hy;clear hy;go_simp;(try with_reducible rfl)
 clear hL;rename Shutb _ _=>hL
 (try simp only[Qm,Qn,Qo,Qp,Qq,Qr,Qs])
 refine late_one (i:=22) (by kernel_rfl) hL (fun hL'=> ?_)
 refine wpOp_step rfl (fun KK hK0=> ?_)
 have hK:Shut _:=hK0
 clear hK0
 go_simp
 have hb5:Blk (w4.setCell ⟨br,25,none⟩ (.int .i64 B)) br (folV i vw vm t vd (.slice (some ⟨b2,off2,none⟩) t.rains.length cr) vn hold now ⟨A,B,s.lack⟩ l) 174:=by simpa using(hb4.set 25 (.int .i64 B))
 have hO5:Off br w (w4.setCell ⟨br,25,none⟩ (.int .i64 B)):=(hO4.set (a:=⟨br,25,none⟩) (.inl rfl) (.int .i64 B))
 obtain⟨w5,hw⟩:∃y,(w4.setCell ⟨br,25,none⟩ (.int .i64 B))=y:=⟨_,rfl⟩
 rw[hw]at hb5 hO5 ⊢
 clear hw k0 k1 k2
 have k0:=hb5.cell
 (try dsimp only[folV]at k0)
 have k1:=hb5.lt
 have k2:=hb5.free
 refine hK.out _ _ ⟨fun e=>absurd (e:true=false) (by decide),?_⟩
 clear hK KK;clear hL;rename Shutb _ _=>hL
 (try simp only[Qm,Qn,Qo,Qp,Qq,Qr,Qs])
 refine late_done (by kernel_rfl) ?_
 (try dsimp only[Exit.then])
 have hb6:=hb5.drew
 have hO6:=hO5.ext (Ext.drew (Ext.refl _))
 obtain⟨w6,hw⟩:∃y,w5.drew=y:=⟨_,rfl⟩
 rw[hw]at hb6 hO6 ⊢
 clear hw k0 k1 k2
 have k0:=hb6.cell
 (try dsimp only[folV]at k0)
 have k1:=hb6.lt
 have k2:=hb6.free
 clear hA hB
 go_wp2
 obtain⟨b',hw⟩:∃x,wrap64 (l.b+(rf+sd))=x:=⟨_,rfl⟩
 rw[hw]
 clear hw
 have hb7:Blk (w6.setCell ⟨br,28,none⟩ (.int .i64 b')) br (folV i vw vm t vd (.slice (some ⟨b2,off2,none⟩) t.rains.length cr) vn hold now ⟨A,B,s.lack⟩ ⟨l.a,b',l.c,l.d,l.e,l.f⟩) 174:=by simpa using(hb6.set 28 (.int .i64 b'))
 have hO7:Off br w (w6.setCell ⟨br,28,none⟩ (.int .i64 b')):=(hO6.set (a:=⟨br,28,none⟩) (.inl rfl) (.int .i64 b'))
 obtain⟨w7,hw⟩:∃y,(w6.setCell ⟨br,28,none⟩ (.int .i64 b'))=y:=⟨_,rfl⟩
 rw[hw]at hb7 hO7 ⊢
 clear hw k0 k1 k2
 have k0:=hb7.cell
 (try dsimp only[folV]at k0)
 have k1:=hb7.lt
 have k2:=hb7.free
 refine wp_region_ext 20 (fun _ _ d _ _ h=>by cases d<;>exact h) (by kernel_rfl) (by kernel_rfl) (by kernel_rfl) (by kernel_rfl) ?_
 (try simp only[Qu,Qv,Qw])
 simp only[Qx,Qy,Qz,Q0]
 repeat(any_goals(first|go_big_quiet_step(fail)|quiet_step(fail)))
 all_goals(refine wpQuiet_nil ?_;intro w8 hEw8)
 have hb8:=hb7.ext hEw8
 have hO8:=hO7.ext hEw8
 clear k0 k1 k2
 have k0:=hb8.cell
 (try dsimp only[folV]at k0)
 have k1:=hb8.lt
 have k2:=hb8.free
 go_wp2
 go_end0
 refine⟨rfl,?_,hO8.set (a:=⟨br,31,none⟩) (.inl rfl) _⟩
 have e1:min (s.tanks+rf) hold=A:=by rw[min_if];exact HA.out
 have e2:min (s.lens+sd) i.cap=B:=by rw[min_if];exact HB.out
 rw[e1,e2]
 exact folAt_e hb8 _
set_option maxRecDepth 100000 in
set_option maxHeartbeats 8000000 in
theorem leaks_any (i:Islet) (vw vm:Value) (t:Truth) (vd vr vn:Value) (hold now:Int) (s:St) (br:Nat) (w:World) (O:Ok i) (T:TrOk i t) (hB:Bd i hold s)
  (hb:FolAt w br i vw vm t vd vr vn hold now s) :
  Calls Tryz.prog 148 #[.pointer (some ⟨br,0,none⟩)] w fun e w'=>e= .returned (.tuple #[])∧FolAt w' br i vw vm t vd vr vn hold now (leakS t.leak s)∧Off br w w':=by
 obtain⟨l,hb⟩:=hb
 have hlb:=T.leak
 have hcp:=O.cap
 unfold Bd at hB
 obtain⟨P1,hP1⟩:∃P,s.lens*t.leak=P:=⟨_,rfl⟩
 have hm1:=mul_bd hB.2.2.1 (Int.le_trans hB.2.2.2 hcp.2) hlb.1 hlb.2
 have hm2:=mul_bd hB.2.2.1 (Int.le_refl _) hlb.1 hlb.2
 rw[hP1]at hm1 hm2
 have hres:leakS t.leak s=⟨s.tanks,s.lens - P1/1000,s.lack⟩:=by unfold leakS;rw[hP1]
 rw[hres]
 have hq1:0≤P1/1000∧P1/1000≤s.lens:=by omega
 obtain⟨lk,hlk⟩:∃x,P1/1000=x:=⟨_,rfl⟩
 rw[hlk]at hq1 ⊢
 have e1:IntKind.wrap .i64 (s.lens*t.leak)=P1:=by rw[hP1];exact Qt _ (by omega)
 have e4:Int.tdiv P1 1000=lk:=by rw[tdiv_pos hm1.1,hlk]
 have k0:=hb.cell
 have k1:=hb.lt
 have k2:=hb.free
 have hpc:=plus_cell
 clear hP1 hres hlk O T
 go_enter Tryz.func148,Tryz.ntmps148
 go_wp2
 have hO0:=Off.refl br w
 have hb0:=hb
 refine wp_region_ext 13 (fun _ _ d _ _ h=>by cases d<;>exact h) (by kernel_rfl) (by kernel_rfl) (by kernel_rfl) (by kernel_rfl) ?_
 (try simp only[Qu,Qv,Qw])
 simp only[Qx,Qy,Qz,Q0]
 repeat(any_goals(first|go_big_quiet_step(fail)|quiet_step(fail)))
 all_goals(refine wpQuiet_nil ?_;intro w1 hEw1)
 all_goals skip
 have hb1:=hb0.ext hEw1
 have hO1:=hO0.ext hEw1
 clear k0 k1 k2
 have k0:=hb1.cell
 (try dsimp only[folV]at k0)
 have k1:=hb1.lt
 have k2:=hb1.free
 go_wp2
 go_end0
 exact⟨rfl,folAt_d (fol_lens hb1 (s.lens - lk)) _,(hO1.set (a:=⟨br,25,none⟩) (.inl rfl) _).set (a:=⟨br,30,none⟩) (.inl rfl) _⟩
set_option maxRecDepth 100000 in
set_option maxHeartbeats 8000000 in
theorem needs_any (i:Islet) (vw vm:Value) (t:Truth) (vd vr vn:Value) (hold:Int) (now:Nat) (s:St) (br:Nat) (w0 w:World) (O:Ok i) (T:TrOk i t) (hk:now<i.months.length) (hh1:hold≤400000000) (hB:Bd i hold s)
  (hE:Ext w0 w) (hbr:w0.heap.size≤br) (hN:Ints w0 vn t.needs) (hb:FolAt w br i vw vm t vd vr vn hold now s) :
  Calls Tryz.prog 149 #[.pointer (some ⟨br,0,none⟩)] w fun e w'=>e= .returned (.tuple #[])∧FolAt w' br i vw vm t vd vr vn hold now (needS i (iat t.needs now) s)∧Off br w w':=by
 obtain⟨l,hb⟩:=hb
 have hkr:now<t.needs.length:=by rw[T.needs];exact hk
 have hnb:=T.need now hk
 have hcp:=O.cap
 have hpu:=O.pump
 have hke:=O.keep
 obtain⟨an,cn,rfl,hx⟩:=hN
 obtain⟨b2,off2,rfl,hb2,h0⟩:=hx now hkr
 have h0':=(hE.cells.1 _ _ hb2).trans h0
 have hl2:=Qi hb2 hE.size
 have hmm:iat t.needs now=t.needs[now]:=iat_get hkr
 rw[← hmm]at h0'
 have hle:now≤8:=by have:=O.n;omega
 obtain⟨nd,hm⟩:∃mm,iat t.needs now=mm:=⟨_,rfl⟩
 rw[hm]at h0' hnb ⊢
 obtain⟨A,hA⟩:∃x,takes nd s=x:=⟨_,rfl⟩
 obtain⟨B,hB'⟩:∃x,pumps i nd s=x:=⟨_,rfl⟩
 have hres:needS i nd s=⟨s.tanks - A,s.lens - B,nd - A - B⟩:=by unfold needS;rw[hA,hB']
 unfold Bd at hB
 have hA2:(if s.tanks<nd then s.tanks else nd)=A:=by rw[← hA,takes,min_if]
 have hAb:0≤A∧A≤nd∧A≤s.tanks:=by rw[← hA,takes];omega
 unfold pumps at hB'
 rw[hA]at hB'
 have hBb:0≤B∧B≤nd - A∧B≤s.lens:=by rw[← hB'];omega
 rw[hres]
 have HA2:=Qh hA2
 have HB2:=Qh hB'
 have k0:=hb.cell
 have k1:=hb.lt
 have k2:=hb.free
 have hpc:=plus_cell
 clear hres hA hA2 hB' hm hmm h0 hx O T
 go_enter Tryz.func149,Tryz.ntmps149
 go_wp2
 have hO0:=Off.refl br w
 have hb0:=hb
 refine wp_region_ext 12 (fun _ _ d _ _ h=>by cases d<;>exact h) (by kernel_rfl) (by kernel_rfl) (by kernel_rfl) (by kernel_rfl) ?_
 (try simp only[Qu,Qv,Qw])
 simp only[Qx,Qy,Qz,Q0]
 repeat(any_goals(first|go_big_quiet_step(fail)|quiet_step(fail)))
 all_goals(refine wpQuiet_nil ?_;intro w1 hEw1)
 all_goals skip
 have hb1:=hb0.ext hEw1
 have hO1:=hO0.ext hEw1
 clear k0 k1 k2
 have k0:=hb1.cell
 (try dsimp only[folV]at k0)
 have k1:=hb1.lt
 have k2:=hb1.free
 have hA2:=HA2.out
 go_upto_region 2 with(fail)
 clear hA2
 refine wp_region_ext 22 (fun _ _ d _ _ h=>by cases d<;>exact h) (by kernel_rfl) (by kernel_rfl) (by kernel_rfl) (by kernel_rfl) ?_
 (try simp only[Qu,Qv,Qw])
 simp only[Qx,Qy,Qz,Q0]
 repeat(any_goals(first|go_big_quiet_step(fail)|quiet_step(fail)))
 all_goals(refine wpQuiet_nil ?_;intro w2 hEw2)
 have hb2:=hb1.ext hEw2
 have hO2:=hO1.ext hEw2
 clear k0 k1 k2
 have k0:=hb2.cell
 (try dsimp only[folV]at k0)
 have k1:=hb2.lt
 have k2:=hb2.free
 have hBe:(if(if i.keep<s.lens then s.lens - i.keep else 0)<if i.pump<nd - A then i.pump else nd - A then if i.keep<s.lens then s.lens - i.keep else 0 else if i.pump<nd - A then i.pump else nd - A)=B:=by have:=HB2.out;(repeat' split)<;>omega
 simp only[hBe]
 clear hBe
 go_wp2
 all_goals(go_end0;exact⟨rfl,folAt_c (fol_lack (fol_lens (fol_tanks hb2 (s.tanks - A)) (s.lens - B)) (nd - A - B)) _,(((hO2.set (a:=⟨br,24,none⟩) (.inl rfl) _).set (a:=⟨br,25,none⟩) (.inl rfl) _).set (a:=⟨br,26,none⟩) (.inl rfl) _).set (a:=⟨br,29,none⟩) (.inl rfl) _⟩)
end Go.Proofs.YtgloajbgphcloaaGreat.Ln
namespace Go.Proofs.YtgloajbgphcloaaGreat.Ln
set_option linter.unusedVariables false
set_option linter.unusedSimpArgs false
open Go.RowKit
open Act renaming put → Qm
open List renaming getElem_cons_succ → Qp, getElem_cons_zero → Qo, getElem_toArray → Qn, setIfInBounds_toArray → Qq, set_cons_succ → Qs, set_cons_zero → Qr
theorem folAt_a {w:World} {br:Nat} {i:Islet} {vw vm:Value} {t:Truth} {vd vr vn:Value} {hold now:Int} {s:St} {l:Led} (h:Blk w br (folV i vw vm t vd vr vn hold now s l) 174) (x:Int):FolAt (w.setCell ⟨br,27,none⟩ (.int .i64 x)) br i vw vm t vd vr vn hold now s :=
 ⟨⟨x,l.b,l.c,l.d,l.e,l.f⟩,by simpa using h.set 27 (.int .i64 x)⟩
def IsSlice (v:Value):Prop:=∃a n k,v= .slice a n k
set_option maxRecDepth 100000 in
set_option maxHeartbeats 8000000 in
theorem follow_any (i:Islet) (vw vm:Value) (tanks:Int) (t:Truth) (vd vr vn:Value) (w:World) (O:Ok i) (h0:0≤tanks) (h1:tanks≤40)
  (hvw:IsSlice vw) (hvm:IsSlice vm) (hvd:IsSlice vd) (hvr:IsSlice vr) (hvn:IsSlice vn) :
  Calls Tryz.prog 74 #[.agg (islV i vw vm),.int .i64 tanks,.agg (trV t vd vr vn)] w fun e w'=>∃br,e= .returned (.pointer (some ⟨br,0,none⟩))∧w.heap.size≤br∧FolAt w' br i vw vm t vd vr vn (tanks*i.size) 0 ⟨tanks*i.size,t.start,0⟩∧Ext w w':=by
 obtain⟨aw,nw,kw,rfl⟩:=hvw
 obtain⟨am,nm,km,rfl⟩:=hvm
 obtain⟨ad,nd,kd,rfl⟩:=hvd
 obtain⟨ar,nr,kr,rfl⟩:=hvr
 obtain⟨an,nn,kn,rfl⟩:=hvn
 have hm:=mul_bd h0 h1 O.size.1 O.size.2
 obtain⟨H,hH⟩:∃H,tanks*i.size=H:=⟨_,rfl⟩
 rw[hH]at hm ⊢
 have e1:IntKind.wrap .i64 (tanks*i.size)=H:=by rw[hH];exact IntWalk.i64_in _ (by omega)
 have e2:wrap64 (tanks*i.size)=H:=by rw[hH];exact IntWalk.wrap64_in _ ⟨by omega,by omega⟩
 clear hH
 have hpc:=plus_cell
 go_enter Tryz.func74,Tryz.ntmps74
 go_upto_region 2 with(fail)
 clear e1 e2
 obtain⟨w0,hw⟩:∃y,((w.alloc (.cells (islV i (.slice aw nw kw) (.slice am nm km)) 52)).alloc (.cells (trV t (.slice ad nd kd) (.slice ar nr kr) (.slice an nn kn)) 58)).alloc (.cells (folV i (.slice aw nw kw) (.slice am nm km) t (.slice ad nd kd) (.slice ar nr kr) (.slice an nn kn) H 0 ⟨0,0,0⟩ ⟨0,0,0,0,0,0⟩) 174)=y:=⟨_,rfl⟩
 have hF0:Blk w0 (w.heap.size+1+1) (folV i (.slice aw nw kw) (.slice am nm km) t (.slice ad nd kd) (.slice ar nr kr) (.slice an nn kn) H 0 ⟨0,0,0⟩ ⟨0,0,0,0,0,0⟩) 174:=by rw[← hw];exact Blk.new' (by simp) _ _
 have hT0:Blk w0 (w.heap.size+1) (trV t (.slice ad nd kd) (.slice ar nr kr) (.slice an nn kn)) 58:=by rw[← hw];exact(Blk.new' (by simp) _ _).alloc _
 have hE0:Ext w w0:=by rw[← hw];(with_reducible(repeat(first|exact Ext.refl _|assumption|apply Ext.alloc|apply Ext.drew|exact ext_plus _ _|(apply Ext.setCell;rotate_left;(simp<;>omega))|(apply Ext.trans;rotate_left;exact ext_plus _ _)|(apply Ext.trans;rotate_left;assumption))))
 rw[hw]
 clear hw
 obtain⟨br,hbr⟩:∃b,w.heap.size+1+1=b:=⟨_,rfl⟩
 obtain⟨bt,hbt⟩:∃b,w.heap.size+1=b:=⟨_,rfl⟩
 rw[hbr]at hF0 ⊢
 rw[hbt]at hT0 hbr ⊢
 have hF0d:=hF0.drew
 have hT0d:=hT0.drew
 refine wp_region_late 11 (fun b y=>(b=false→(∀ o,y.cell? ⟨br,o,none⟩=(folV i (.slice aw nw kw) (.slice am nm km) t (.slice ad nd kd) (.slice ar nr kr) (.slice an nn kn) H 0 ⟨0,0,0⟩ ⟨0,0,0,0,0,0⟩:Array Value)[o]?))∧(∀ o,y.cell? ⟨bt,o,none⟩=(trV t (.slice ad nd kd) (.slice ar nr kr) (.slice an nn kn):Array Value)[o]?)) (by kernel_rfl) (fun hL=> ?_)
 refine late_early (i:=0) (v:= ?_) rfl (by kernel_rfl) (by kernel_rfl) (by kernel_rfl) (by decide) (by kernel_rfl) (fun _ _ _ h=>h) hL (Or.inl ⟨by rfl,?_⟩) ⟨fun _=>hF0d.cell,hT0d.cell⟩ (fun hL'=> ?_)
 rotate_left
 ·intro y hy;obtain⟨hz0,g2⟩:=hy;have hz:=hz0 rfl;clear hz0;obtain g1:=hz;go_simp;(try with_reducible rfl)
 clear hL;rename Shutb _ _=>hL
 (try simp only[Qm,Qn,Qo,Qp,Qq,Qr,Qs])
 refine late_late (i:=1) (v:= ?_) rfl (by kernel_rfl) (by kernel_rfl) (by kernel_rfl) (by decide) (fun _ h=>⟨fun e=>absurd (e:true=false) (by decide),h.2⟩) (fun _ _ _ h=>h) hL (Or.inl ⟨by rfl,?_⟩) ⟨(fun _=>hF0d.cell),hT0d.cell⟩ (fun hL'=> ?_)
 rotate_left
 ·intro y hy;obtain⟨hz0,g1⟩:=hy;clear hz0;go_simp;(try with_reducible rfl)
 clear hL;rename Shutb _ _=>hL
 (try simp only[Qm,Qn,Qo,Qp,Qq,Qr,Qs])
 refine late_early (i:=2) (v:= ?_) rfl (by kernel_rfl) (by kernel_rfl) (by kernel_rfl) (by decide) (by kernel_rfl) (fun _ _ _ h=>h) hL (Or.inl ⟨by rfl,?_⟩) ⟨fun _=>hF0d.cell,hT0d.cell⟩ (fun hL'=> ?_)
 rotate_left
 ·intro y hy;obtain⟨hz0,g2⟩:=hy;have hz:=hz0 rfl;clear hz0;obtain g1:=hz;go_simp;(try with_reducible rfl)
 clear hL;rename Shutb _ _=>hL
 (try simp only[Qm,Qn,Qo,Qp,Qq,Qr,Qs])
 refine late_early (i:=3) (v:= ?_) rfl (by kernel_rfl) (by kernel_rfl) (by kernel_rfl) (by decide) (by kernel_rfl) (fun _ _ _ h=>h) hL (Or.inl ⟨by rfl,?_⟩) ⟨fun _=>hF0d.cell,hT0d.cell⟩ (fun hL'=> ?_)
 rotate_left
 ·intro y hy;obtain⟨hz0,g2⟩:=hy;have hz:=hz0 rfl;clear hz0;obtain g1:=hz;go_simp;(try with_reducible rfl)
 clear hL;rename Shutb _ _=>hL
 (try simp only[Qm,Qn,Qo,Qp,Qq,Qr,Qs])
 refine late_early (i:=4) (v:= ?_) rfl (by kernel_rfl) (by kernel_rfl) (by kernel_rfl) (by decide) (by kernel_rfl) (fun _ _ _ h=>h) hL (Or.inl ⟨by rfl,?_⟩) ⟨fun _=>hF0d.cell,hT0d.cell⟩ (fun hL'=> ?_)
 rotate_left
 ·intro y hy;obtain⟨hz0,g2⟩:=hy;have hz:=hz0 rfl;clear hz0;obtain g1:=hz;go_simp;(try with_reducible rfl)
 clear hL;rename Shutb _ _=>hL
 (try simp only[Qm,Qn,Qo,Qp,Qq,Qr,Qs])
 refine late_early (i:=5) (v:= ?_) rfl (by kernel_rfl) (by kernel_rfl) (by kernel_rfl) (by decide) (by kernel_rfl) (fun _ _ _ h=>h) hL (Or.inl ⟨by rfl,?_⟩) ⟨fun _=>hF0d.cell,hT0d.cell⟩ (fun hL'=> ?_)
 rotate_left
 ·intro y hy;obtain⟨hz0,g2⟩:=hy;have hz:=hz0 rfl;clear hz0;obtain g1:=hz;go_simp;(try with_reducible rfl)
 clear hL;rename Shutb _ _=>hL
 (try simp only[Qm,Qn,Qo,Qp,Qq,Qr,Qs])
 refine late_late (i:=6) (v:= ?_) rfl (by kernel_rfl) (by kernel_rfl) (by kernel_rfl) (by decide) (fun _ h=>⟨fun e=>absurd (e:true=false) (by decide),h.2⟩) (fun _ _ _ h=>h) hL (Or.inl ⟨by rfl,?_⟩) ⟨(fun _=>hF0d.cell),hT0d.cell⟩ (fun hL'=> ?_)
 rotate_left
 ·intro y hy;obtain⟨hz0,g1⟩:=hy;clear hz0;go_simp;(try with_reducible rfl)
 clear hL;rename Shutb _ _=>hL
 (try simp only[Qm,Qn,Qo,Qp,Qq,Qr,Qs])
 refine late_late (i:=7) (v:= ?_) rfl (by kernel_rfl) (by kernel_rfl) (by kernel_rfl) (by decide) (fun _ h=>⟨fun e=>absurd (e:true=false) (by decide),h.2⟩) (fun _ _ _ h=>h) hL (Or.inl ⟨by rfl,?_⟩) ⟨(fun _=>hF0d.cell),hT0d.cell⟩ (fun hL'=> ?_)
 rotate_left
 ·intro y hy;obtain⟨hz0,g1⟩:=hy;clear hz0;go_simp;(try with_reducible rfl)
 clear hL;rename Shutb _ _=>hL
 (try simp only[Qm,Qn,Qo,Qp,Qq,Qr,Qs])
 refine late_early (i:=8) (v:= ?_) rfl (by kernel_rfl) (by kernel_rfl) (by kernel_rfl) (by decide) (by kernel_rfl) (fun _ _ _ h=>h) hL (Or.inl ⟨by rfl,?_⟩) ⟨fun _=>hF0d.cell,hT0d.cell⟩ (fun hL'=> ?_)
 rotate_left
 ·intro y hy;obtain⟨hz0,g2⟩:=hy;have hz:=hz0 rfl;clear hz0;obtain g1:=hz;go_simp;(try with_reducible rfl)
 clear hL;rename Shutb _ _=>hL
 (try simp only[Qm,Qn,Qo,Qp,Qq,Qr,Qs])
 refine late_early (i:=9) (v:= ?_) rfl (by kernel_rfl) (by kernel_rfl) (by kernel_rfl) (by decide) (by kernel_rfl) (fun _ _ _ h=>h) hL (Or.inl ⟨by rfl,?_⟩) ⟨fun _=>hF0d.cell,hT0d.cell⟩ (fun hL'=> ?_)
 rotate_left
 ·intro y hy;obtain⟨hz0,g2⟩:=hy;have hz:=hz0 rfl;clear hz0;obtain g1:=hz;go_simp;(try with_reducible rfl)
 clear hL;rename Shutb _ _=>hL
 (try simp only[Qm,Qn,Qo,Qp,Qq,Qr,Qs])
 refine late_early (i:=10) (v:= ?_) rfl (by kernel_rfl) (by kernel_rfl) (by kernel_rfl) (by decide) (by kernel_rfl) (fun _ _ _ h=>h) hL (Or.inl ⟨by rfl,?_⟩) ⟨fun _=>hF0d.cell,hT0d.cell⟩ (fun hL'=> ?_)
 rotate_left
 ·intro y hy;obtain⟨hz0,g2⟩:=hy;have hz:=hz0 rfl;clear hz0;obtain g1:=hz;go_simp;(try with_reducible rfl)
 clear hL;rename Shutb _ _=>hL
 (try simp only[Qm,Qn,Qo,Qp,Qq,Qr,Qs])
 refine late_one (i:=11) (by kernel_rfl) hL (fun hL'=> ?_)
 refine wpOp_step rfl (fun KK hK0=> ?_)
 have hK:Shut _:=hK0
 clear hK0
 have k1:=hF0.lt
 have k2:=hF0.free
 have k0:=hF0.cell
 go_simp
 obtain⟨w1,hw⟩:∃y,w0.setCell ⟨br,24,none⟩ (.int .i64 H)=y:=⟨_,rfl⟩
 have hF1:Blk w1 br (folV i (.slice aw nw kw) (.slice am nm km) t (.slice ad nd kd) (.slice ar nr kr) (.slice an nn kn) H 0 ⟨H,0,0⟩ ⟨0,0,0,0,0,0⟩) 174:=by rw[← hw];simpa using hF0.set 24 (.int .i64 H)
 have hT1:Blk w1 bt (trV t (.slice ad nd kd) (.slice ar nr kr) (.slice an nn kn)) 58:=by rw[← hw];exact hT0.other (by show br≠bt;omega) _
 have hE1:Ext w w1:=by rw[← hw];exact hE0.setCell (p:=⟨br,24,none⟩) (by show w.heap.size≤br;omega) _
 rw[hw]
 clear hw k0 k1 k2
 refine hK.out _ _ ⟨⟨fun e=>absurd (e:true=false) (by decide),hT1.drew.cell⟩,?_⟩
 clear hK KK;clear hL;rename Shutb _ _=>hL
 (try simp only[Qm,Qn,Qo,Qp,Qq,Qr,Qs])
 refine late_late (i:=12) (v:= ?_) rfl (by kernel_rfl) (by kernel_rfl) (by kernel_rfl) (by decide) (fun _ h=>⟨fun e=>absurd (e:true=false) (by decide),h.2⟩) (fun _ _ _ h=>h) hL (Or.inl ⟨by rfl,?_⟩) ⟨(fun e=>absurd (e:true=false) (by decide)),hT1.drew.cell⟩ (fun hL'=> ?_)
 rotate_left
 ·intro y hy;obtain⟨hz0,g1⟩:=hy;clear hz0;go_simp;(try with_reducible rfl)
 clear hL;rename Shutb _ _=>hL
 (try simp only[Qm,Qn,Qo,Qp,Qq,Qr,Qs])
 refine late_late (i:=13) (v:= ?_) rfl (by kernel_rfl) (by kernel_rfl) (by kernel_rfl) (by decide) (fun _ h=>⟨fun e=>absurd (e:true=false) (by decide),h.2⟩) (fun _ _ _ h=>h) hL (Or.inl ⟨by rfl,?_⟩) ⟨(fun e=>absurd (e:true=false) (by decide)),hT1.drew.cell⟩ (fun hL'=> ?_)
 rotate_left
 ·intro y hy;obtain⟨hz0,g1⟩:=hy;clear hz0;go_simp;(try with_reducible rfl)
 clear hL;rename Shutb _ _=>hL
 (try simp only[Qm,Qn,Qo,Qp,Qq,Qr,Qs])
 refine late_late (i:=14) (v:= ?_) rfl (by kernel_rfl) (by kernel_rfl) (by kernel_rfl) (by decide) (fun _ h=>⟨fun e=>absurd (e:true=false) (by decide),h.2⟩) (fun _ _ _ h=>h) hL (Or.inl ⟨by rfl,?_⟩) ⟨(fun e=>absurd (e:true=false) (by decide)),hT1.drew.cell⟩ (fun hL'=> ?_)
 rotate_left
 ·intro y hy;obtain⟨hz0,g1⟩:=hy;clear hz0;go_simp;(try with_reducible rfl)
 clear hL;rename Shutb _ _=>hL
 (try simp only[Qm,Qn,Qo,Qp,Qq,Qr,Qs])
 refine late_one (i:=15) (by kernel_rfl) hL (fun hL'=> ?_)
 refine wpOp_step rfl (fun KK hK0=> ?_)
 have hK:Shut _:=hK0
 clear hK0
 have k1:=hF1.lt
 have k2:=hF1.free
 have k0:=hF1.cell
 go_simp
 obtain⟨w2,hw⟩:∃y,w1.setCell ⟨br,25,none⟩ (.int .i64 t.start)=y:=⟨_,rfl⟩
 have hF2:Blk w2 br (folV i (.slice aw nw kw) (.slice am nm km) t (.slice ad nd kd) (.slice ar nr kr) (.slice an nn kn) H 0 ⟨H,t.start,0⟩ ⟨0,0,0,0,0,0⟩) 174:=by rw[← hw];simpa using hF1.set 25 (.int .i64 t.start)
 have hT2:Blk w2 bt (trV t (.slice ad nd kd) (.slice ar nr kr) (.slice an nn kn)) 58:=by rw[← hw];exact hT1.other (by show br≠bt;omega) _
 have hE2:Ext w w2:=by rw[← hw];exact hE1.setCell (p:=⟨br,25,none⟩) (by show w.heap.size≤br;omega) _
 rw[hw]
 clear hw k0 k1 k2
 refine hK.out _ _ ⟨⟨fun e=>absurd (e:true=false) (by decide),hT2.drew.cell⟩,?_⟩
 clear hK KK;clear hL;rename Shutb _ _=>hL
 (try simp only[Qm,Qn,Qo,Qp,Qq,Qr,Qs])
 refine late_done (by kernel_rfl) ?_
 (try dsimp only[Exit.then])
 obtain⟨w3,hw⟩:∃y,w2.drew=y:=⟨_,rfl⟩
 have hF3:=hF2.drew
 have hT3:=hT2.drew
 have hE3:=hE2.drew
 rw[hw]at hF3 hT3 hE3 ⊢
 clear hw
 have k0:=hF3.cell
 have k1:=hF3.lt
 have q0:=hT3.cell
 have q1:=hT3.lt
 go_upto_region 3 with(fail)
 refine wp_region_ext 7 (fun _ _ d _ _ h=>by cases d<;>exact h) (by kernel_rfl) (by kernel_rfl) (by kernel_rfl) (by kernel_rfl) ?_
 (try simp only[List.append_eq,List.cons_append,List.nil_append])
 simp only[List.take_succ_cons,List.take_zero,List.drop_succ_cons,List.drop_zero]
 repeat(any_goals(first|go_big_quiet_step(fail)|quiet_step(fail)))
 all_goals(refine wpQuiet_nil ?_;intro w4 hEw4)
 have hF4:=hF3.ext hEw4
 have hE4:=hE3.trans hEw4
 clear k0 k1 q0 q1
 have k0:=hF4.cell
 have k1:=hF4.lt
 have k2:=hF4.free
 go_wp2
 go_ret
 exact⟨br,rfl,by omega,folAt_a hF4 _,hE4.setCell (p:=⟨br,27,none⟩) (by show w.heap.size≤br;omega) _⟩
end Go.Proofs.YtgloajbgphcloaaGreat.Ln
namespace Go.Proofs.YtgloajbgphcloaaGreat.Ln
set_option linter.unusedVariables false
set_option linter.unusedSimpArgs false
open Go.RowKit Go.Shelf
open Lib renaming hid → Qh
attribute [local go_sem] Oper.semAt_some
def monE (i:Islet) (H:Int) (t:Truth) (k:Nat):Array Value:=#[.int .i64 (k:Int),.agg #[.int .i64 (stateAt i H t (k+1)).tanks,.int .i64 (stateAt i H t (k+1)).lens,.int .i64 (stateAt i H t (k+1)).lack]]
def MonAt (w0:World) (i:Islet) (vw vm:Value) (t:Truth) (vd vr vn:Value) (H:Int) (br:Nat) (k:Nat) (W:World):Prop :=
 FolAt W br i vw vm t vd vr vn H ((k - 1:Nat):Int) (stateAt i H t k)∧Ext w0 W
def midS (i:Islet) (H:Int) (t:Truth) (k:Nat) (s:St):Nat→St
 | 0=>s
 | 1=>fallS i H (iat t.rains k) t.soak s
 | 2=>leakS t.leak (fallS i H (iat t.rains k) t.soak s)
 | _=>monS i H t k s
theorem fol_now {w:World} {br:Nat} {i:Islet} {vw vm:Value} {t:Truth} {vd vr vn:Value} {hold now:Int} {s:St} (h:FolAt w br i vw vm t vd vr vn hold now s) (x:Int):FolAt (w.setCell ⟨br,23,none⟩ (.int .i64 x)) br i vw vm t vd vr vn hold x s:=by
 obtain⟨l,h⟩:=h
 exact⟨l,by simpa using h.set 23 (.int .i64 x)⟩
theorem FolAt.ext {w w':World} {br:Nat} {i:Islet} {vw vm:Value} {t:Truth} {vd vr vn:Value} {hold now:Int} {s:St} (h:FolAt w br i vw vm t vd vr vn hold now s) (hE:Ext w w'):FolAt w' br i vw vm t vd vr vn hold now s:=by
 obtain⟨l,h⟩:=h
 exact⟨l,h.ext hE⟩
set_option maxRecDepth 100000 in
set_option maxHeartbeats 8000000 in
theorem months_own (i:Islet) (vw:Value) (am:Option Addr) (cm:Nat) (t:Truth) (vd vr vn:Value) (H:Int) (br:Nat) (w0 w:World) (O:Ok i) (T:TrOk i t) (hh:0≤H) (hh1:H≤400000000) (hbr0:w0.heap.size≤br) (hR:Ints w0 vr t.rains) (hN:Ints w0 vn t.needs) :
  SeqOwn Fence.wide 4 Tryz.prog 75 #[.pointer (some ⟨br,0,none⟩)] (monE i H t) (Off br) (MonAt w0 i vw (.slice am i.months.length cm) t vd vr vn H br) i.months.length w:=by
 intro l J Jx Jp W hW hJ hY h0 hA
 obtain⟨N,hNN⟩:∃N:Nat,i.months.length=N:=⟨_,rfl⟩
 have hN8:N≤8:=by have:=O.n;omega
 have HNN:=Qh hNN
 have HO:=Qh O
 have HT:=Qh T
 rw[hNN]at hY hA ⊢
 have HY:=Qh hY
 clear hNN hY O T
 obtain⟨⟨l0,hb0⟩,hE0⟩:=hA
 have k0:=hb0.cell
 have k1:=hb0.lt
 refine callsIn_of_wp Tryz.func75 rfl trivial ?_ rfl
 simp only[Tryz.ntmps75,List.size_toArray,List.length_cons,List.length_nil,Nat.reduceAdd,Nat.reduceSub,Array.replicate_succ,Array.replicate_zero,List.push_toArray,List.append_toArray,List.nil_append,List.cons_append]
 gi_wp2
 clear k0 k1
 gi_loopw [13] (fun i' wr=>∃k:Nat,k≤N∧i'= .int .i64 k∧J k wr∧MonAt w0 i vw (.slice am N cm) t vd vr vn H br k wr) (fun i' _=>N - (intOf i').toNat)
 case atStart=>exact⟨0,Nat.zero_le _,rfl,h0,⟨l0,hb0⟩,hE0⟩
 case round =>
  rename World=>wr
  obtain⟨k,hk,rfl,hJk,hb,hE⟩:=hrel
  by_cases hlt:k<N
  ·have hkm:k<i.months.length:=by rw[HNN.out];exact hlt
   have hBk:=state_bd HO.out hh HT.out k (by omega)
   have hr:=HT.out.rain k hkm
   have hB1:=fall_bd HO.out hr.1 hr.2 HT.out.soak.1 HT.out.soak.2 hBk hh
   have hB2:=leak_bd HO.out HT.out.leak.1 HT.out.leak.2 hB1
   have hye:monE i H t k=#[.int .i64 (k:Int),.agg #[.int .i64 (monS i H t k (stateAt i H t k)).tanks,.int .i64 (monS i H t k (stateAt i H t k)).lens,.int .i64 (monS i H t k (stateAt i H t k)).lack]]:=rfl
   have hat:∀W,MonAt w0 i vw (.slice am N cm) t vd vr vn H br (k+1) W=(FolAt W br i vw (.slice am N cm) t vd vr vn H (k:Nat) (monS i H t k (stateAt i H t k))∧Ext w0 W):=fun _=>rfl
   have hYk:=fun W1 (h:J k W1) (hA:FolAt W1 br i vw (.slice am N cm) t vd vr vn H (k:Nat) (monS i H t k (stateAt i H t k))∧Ext w0 W1)=>HY.out k W1 hlt h (by rw[hat];exact hA)
   rw[hye]at hYk
   simp only[hat]at hYk
   have HAT:=Qh hat
   obtain⟨s,hs⟩:∃s,stateAt i H t k=s:=⟨_,rfl⟩
   rw[hs]at hb hBk hB1 hB2 HAT
   simp only[hs]at hYk
   have HYK:=Qh hYk
   have HFA:=Qh (fun w' hE hb=>falls_any i vw (.slice am N cm) t vd vr vn H k s br w0 w' HO.out HT.out hkm hh hh1 hBk hE hbr0 hR hb)
   have HLE:=Qh (fun w' hb=>leaks_any i vw (.slice am N cm) t vd vr vn H k (fallS i H (iat t.rains k) t.soak s) br w' HO.out HT.out hB1 hb)
   have HNE:=Qh (fun w' hE hb=>needs_any i vw (.slice am N cm) t vd vr vn H k (leakS t.leak (fallS i H (iat t.rains k) t.soak s)) br w0 w' HO.out HT.out hkm hh1 hB2 hE hbr0 hN hb)
   clear hye hat hYk hs hBk hB1 hB2 hr
   have hb3:=fol_now hb (k:Int)
   obtain⟨l1,hb⟩:=hb
   have k0:=hb.cell
   have k1:=hb.lt
   have k2:=hb.free
   have hO3:Off br wr (wr.setCell ⟨br,23,none⟩ (.int .i64 (k:Int))):=(Off.refl br wr).set (a:=⟨br,23,none⟩) (.inl rfl) _
   have hix0:∀w,(Instr.index 272 (.agg #[(.func (.func 147) #[.pointer (some ⟨br,0,none⟩)] #[]),(.func (.func 148) #[.pointer (some ⟨br,0,none⟩)] #[]),(.func (.func 149) #[.pointer (some ⟨br,0,none⟩)] #[])]) (.int .i64 0)).run Tryz.prog w= .ok (.func (.func 147) #[.pointer (some ⟨br,0,none⟩)] #[]) w:=fun _=>by kernel_rfl
   have hix1:∀w,(Instr.index 272 (.agg #[(.func (.func 147) #[.pointer (some ⟨br,0,none⟩)] #[]),(.func (.func 148) #[.pointer (some ⟨br,0,none⟩)] #[]),(.func (.func 149) #[.pointer (some ⟨br,0,none⟩)] #[])]) (.int .i64 1)).run Tryz.prog w= .ok (.func (.func 148) #[.pointer (some ⟨br,0,none⟩)] #[]) w:=fun _=>by kernel_rfl
   have hix2:∀w,(Instr.index 272 (.agg #[(.func (.func 147) #[.pointer (some ⟨br,0,none⟩)] #[]),(.func (.func 148) #[.pointer (some ⟨br,0,none⟩)] #[]),(.func (.func 149) #[.pointer (some ⟨br,0,none⟩)] #[])]) (.int .i64 2)).run Tryz.prog w= .ok (.func (.func 149) #[.pointer (some ⟨br,0,none⟩)] #[]) w:=fun _=>by kernel_rfl
   gi_wp2
   clear k0 k1 k2
   obtain⟨w3,hw3⟩:∃w3,wr.setCell ⟨br,23,none⟩ (.int .i64 (k:Int))=w3:=⟨_,rfl⟩
   rw[hw3]at hb3 hO3 ⊢
   clear hw3
   gi_loopw [6,27] (fun _ i' wy=>∃j:Nat,j≤3∧i'= .int .i64 j∧FolAt wy br i vw (.slice am N cm) t vd vr vn H (k:Nat) (midS i H t k s j)∧Ext w0 wy∧Off br w3 wy) (fun _ i' _=>3 - (intOf i').toNat)
   case atStart=>exact⟨0,Nat.zero_le _,rfl,hb3,hO3.ext0 hE hbr0,Off.refl _ _⟩
   case round =>
    rename World=>wy
    obtain⟨j,hj,rfl,hBy,hEy,hOy⟩:=hrel
    have hj3:j=0∨j=1∨j=2∨j=3:=by omega
    rcases hj3 with rfl|rfl|rfl|rfl
    ·gi_wp2_with (first|(refine⟨trivial,?_⟩;gi_at_call 147;refine(callsIn_wide.2 (HFA.out _ hEy hBy)).mono ?_;rintro e wz ⟨rfl,hBz,hOz⟩))
     go_roundw
     case rel=>exact⟨1,by omega,by go_num,hBz,hOz.ext0 hEy hbr0,hOy.trans hOz⟩
     case measure=>simp[intOf]
    ·gi_wp2_with (first|(refine⟨trivial,?_⟩;gi_at_call 148;refine(callsIn_wide.2 (HLE.out _ hBy)).mono ?_;rintro e wz ⟨rfl,hBz,hOz⟩))
     go_roundw
     case rel=>exact⟨2,by omega,by go_num,hBz,hOz.ext0 hEy hbr0,hOy.trans hOz⟩
     case measure=>simp[intOf]
    ·gi_wp2_with (first|(refine⟨trivial,?_⟩;gi_at_call 149;refine(callsIn_wide.2 (HNE.out _ hEy hBy)).mono ?_;rintro e wz ⟨rfl,hBz,hOz⟩))
     go_roundw
     case rel=>exact⟨3,by omega,by go_num,hBz,hOz.ext0 hEy hbr0,hOy.trans hOz⟩
     case measure=>simp[intOf]
    ·have hBd:FolAt wy br i vw (.slice am N cm) t vd vr vn H (k:Nat) (monS i H t k s):=hBy
     have hHy:=HYK.out
     clear hBy hix0 hix1 hix2
     obtain⟨s',hs'⟩:∃s',monS i H t k s=s':=⟨_,rfl⟩
     rw[hs']at hBd
     simp only[hs']at hHy
     have HS':=Qh hs'
     clear hs'
     obtain⟨fn,tmps,assign,body,hy,hR⟩:=hHy wy (hJ _ _ _ hJk (hO3.trans hOy)) ⟨hBd,hEy⟩
     clear hHy
     obtain⟨l2,hBd⟩:=hBd
     have k0:=hBd.cell
     have k1:=hBd.lt
     gi_wp2
     refine hR.mono ?_
     rintro e W3 (⟨rfl,hJ3,hB3,hE3⟩|⟨rfl,hJx3⟩|⟨ch,rfl,hJp3⟩)
     ·gi_wp2
      go_roundw
      case rel=>exact⟨k+1,by omega,by go_num,hJ3,by rw[HAT.out,HS'.out];exact⟨hB3,hE3⟩⟩
      case measure=>simp[intOf];omega
     ·gi_wp2
      refine bodyPost_ret (results_none rfl _ _ _) rfl ?_
      exact .inl ⟨⟨_,rfl⟩,.inr hJx3⟩
     ·gi_wp2
      exact⟨rfl,.inr ⟨ch,rfl,hJp3⟩⟩
  ·obtain rfl:k=N:=by omega
   gi_wp2
   go_end0
   exact .inl ⟨⟨_,rfl⟩,.inl ⟨hJk,hb,hE⟩⟩
end Go.Proofs.YtgloajbgphcloaaGreat.Ln
