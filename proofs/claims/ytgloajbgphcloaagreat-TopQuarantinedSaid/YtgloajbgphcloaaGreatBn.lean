/- Beetles: the small functions; which seas are as defined. -/
import Derived.Test.YtgloajbgphcloaaGreatQb
import Derived.Laws.EntriesVeiled
import Derived.Deep.RegionHeld3
import Derived.Deep.CutRange
import Derived.WalkMore
import Derived.Shelf.Abstract
namespace Go.Proofs.YtgloajbgphcloaaGreat.Bn
set_option linter.unusedVariables false
set_option linter.unusedSimpArgs false
open Go.RowKit
open Blk renaming new' → Qk
open Ext renaming alloc → Qg, drew → Qh, refl → Qa, setCell → Qi, trans → Qj
open Lib renaming hid → Qb
open List renaming getElem_mem → Qe, take_succ_eq_append_getElem → Qf
open Nat renaming lt_of_lt_of_le → Qd, zero_le → Qc
structure Trip where
 day:Int
 src:Int
 dst:Int
 cost:Int
 deriving Inhabited
def within (x lo hi:Int):Bool:=decide (lo≤x)&&decide (x≤hi)
theorem within_iff {x lo hi:Int} :within x lo hi=true↔lo≤x∧x≤hi:=by simp[within]
def tripB (n:Int) (t:Trip):Bool:=within t.day 0 400&&within t.src 0 (n - 1)&&within t.dst 0 (n - 1)&& !decide (t.src=t.dst)&&within t.cost 0 1000000
def tripC (t:Trip):List Value:=[.int .i64 t.day,.int .i64 t.src,.int .i64 t.dst,.int .i64 t.cost]
abbrev tripV (t:Trip):Array Value:=#[.int .i64 t.day,.int .i64 t.src,.int .i64 t.dst,.int .i64 t.cost]
abbrev Trips (w:World) (v:Value) (xs:List Trip):Prop:=Sls 4 (AtE tripC) w v xs
theorem Trips.ext {w w':World} {v:Value} {xs:List Trip} (h:Trips w v xs) (he:Ext w w'):Trips w' v xs:=Sls.ext (ate_stays _) h he
theorem trip_cells {w:World} {b o:Nat} {x:Trip} (h:AtE tripC w b o x):w.cell? ⟨b,o,none⟩=some (.int .i64 x.day)∧w.cell? ⟨b,o+1,none⟩=some (.int .i64 x.src)∧w.cell? ⟨b,o+2,none⟩=some (.int .i64 x.dst)∧w.cell? ⟨b,o+3,none⟩=some (.int .i64 x.cost):=⟨h 0 _ rfl,h 1 _ rfl,h 2 _ rfl,h 3 _ rfl⟩
abbrev seaV (n wait:Int) (vi vc vt:Value):Array Value:=#[.int .i64 n,vi,vc,vt,.int .i64 wait]
theorem in_any (x lo hi:Int) (w:World) :
  Calls Tryz.prog 206 #[.int .i64 x,.int .i64 lo,.int .i64 hi] w fun e w'=>e= .returned (.bool (within x lo hi))∧w=w':=by
 go_enter Tryz.func206,Tryz.ntmps206
 go_wp2
 all_goals(go_ret;exact⟨ret_bool (by rw[Bool.eq_iff_iff];simp[within];omega),rfl⟩)
theorem bits_nil (w:World) :
  Calls Tryz.prog 161 #[.slice none 0 0] w fun e w'=>e= .returned (.int .i64 0)∧Ext w w':=by
 go_enter Tryz.func161,Tryz.ntmps161
 go_wp2
 go_loopw [3,5,8] (fun o _ i wr=>o= .int .i64 0∧i= .int .i64 0∧Ext w wr) (fun _ _ _ _=>0)
 case atStart=>exact⟨rfl,rfl,Qa _⟩
 case round =>
  rename World=>wr
  obtain⟨rfl,rfl,hE⟩:=hrel
  go_wp2
  go_ret
  exact⟨ret_int rfl,hE⟩
set_option maxRecDepth 100000 in
set_option maxHeartbeats 4000000 in
theorem inc_any (xs:List Int) (v:Value) (n:Int) (w:World) (hv:Ints w v xs) (hl:xs.length≤1) (hx:∀x∈xs,0≤x∧x≤n - 1) (hn:0≤n∧n≤1000000) :
  Calls Tryz.prog 160 #[v,.int .i64 n] w fun e w'=>e= .returned (.bool true)∧Ext w w':=by
 obtain⟨a,cap,rfl,hx0⟩:=hv
 have HX:=Qb hx0
 have HB:=Qb hx
 have hwn:IntKind.i64.wrap (n - 1)=n - 1:=IntWalk.i64_in _ (by omega)
 clear hx0 hx
 go_enter Tryz.func160,Tryz.ntmps160
 go_wp2
 go_loopw [5,6,9] (fun _ _ i wr=>∃k:Nat,k≤xs.length∧i= .int .i64 k∧Ext w wr) (fun _ _ i _=>xs.length - (intOf i).toNat)
 case atStart=>exact⟨0,Qc _,rfl,Qa _⟩
 case round =>
  rename World=>wr
  obtain⟨k,hk,rfl,hE⟩:=hrel
  by_cases hlt:k<xs.length
  ·obtain rfl:k=0:=by omega
   obtain⟨b,off,rfl,hbl,h0⟩:=HX.out 0 hlt
   have h0':=(hE.cells.1 _ _ hbl).trans h0
   have hblr:=Qd hbl hE.size
   have hin:=fun W=>in_any xs[0] 0 (n - 1) W
   have e:within xs[0] 0 (n - 1)=true:=within_iff.2 (HB.out _ (Qe hlt))
   simp only[e]at hin
   simp only[Nat.add_zero]at h0'
   generalize xs[0]=y at h0' hin
   have HIN:=Qb hin
   clear h0 hin e
   go_wp2_with (first|(go_at_call 206;refine(HIN.out _).mono ?_;rintro e w' ⟨rfl,rfl⟩))
   go_roundw
   case rel=>exact⟨1,by omega,by go_num,hE⟩
   case measure=>simp[intOf];omega
  ·obtain rfl:k=xs.length:=by omega
   go_wp2
   go_ret
   exact⟨rfl,hE⟩
set_option maxRecDepth 100000 in
set_option maxHeartbeats 4000000 in
theorem has_any (xs:List Int) (v:Value) (n:Int) (w:World) (hv:Ints w v xs) (hl:xs.length≤1000000) :
  Calls Tryz.prog 163 #[v,.int .i64 n] w fun e w'=>e= .returned (.bool (xs.any fun x=>decide (n=x)))∧Ext w w':=by
 have hi:Calls Tryz.prog 209 #[v,.int .i64 n] w fun e w'=>∃k:Int,e= .returned (.int .i64 k)∧decide (0≤k)=(xs.any fun x=>decide (n=x))∧Ext w w':=by
  obtain⟨a,cap,rfl,hx0⟩:=hv
  have HX:=Qb hx0
  clear hx0
  go_enter Tryz.func209,Tryz.ntmps209
  go_wp2
  go_loopw [5,8] (fun _ i wr=>∃k:Nat,k≤xs.length∧i= .int .i64 k∧(xs.take k).any (fun x=>decide (n=x))=false∧Ext w wr) (fun _ i _=>xs.length - (intOf i).toNat)
  case atStart=>exact⟨0,Qc _,rfl,rfl,Qa _⟩
  case round =>
   rename World=>wr
   obtain⟨k,hk,rfl,hany,hE⟩:=hrel
   have HG:=Qb hany
   clear hany
   by_cases hlt:k<xs.length
   ·obtain⟨b,off,rfl,hbl,h0⟩:=HX.out k hlt
    have h0':=(hE.cells.1 _ _ hbl).trans h0
    have hblr:=Qd hbl hE.size
    have hs:(xs.take (k+1)).any (fun x=>decide (n=x))=decide (n=xs[k]):=by rw[Qf hlt,List.any_append,HG.out];simp
    have hm:xs[k]∈xs:=Qe hlt
    obtain⟨y,hy⟩:∃y,xs[k]=y:=⟨_,rfl⟩
    rw[hy]at h0' hs hm
    have HS:=Qb hs
    have HM:=Qb hm
    clear h0 hs hy hm
    by_cases q:n=y
    ·subst q
     go_wp2
     go_ret
     exact⟨_,rfl,by rw[show(xs.any fun x=>decide (n=x))=true from List.any_eq_true.2 ⟨n,HM.out,by simp⟩];simp,hE⟩
    ·have HQ:=Qb q
     go_wp2
     go_roundw
     case rel=>exact⟨k+1,by omega,by go_num,by rw[HS.out];simpa using HQ.out,hE⟩
     case measure=>simp[intOf];omega
   ·obtain rfl:k=xs.length:=by omega
    go_wp2
    go_ret
    have h:=HG.out
    rw[List.take_length]at h
    exact⟨_,rfl,by rw[h];decide,hE⟩
 obtain⟨a,cap,rfl,_⟩:=hv
 have HI:=Qb hi
 clear hi
 go_enter Tryz.func163,Tryz.ntmps163
 go_wp2_with (first|(go_at_call 209;refine HI.out.mono ?_;rintro e w' ⟨k,rfl,hk,hE'⟩))
 all_goals(go_ret;exact⟨ret_bool (by rw[← hk]),hE'⟩)
set_option maxRecDepth 100000 in
set_option maxHeartbeats 4000000 in
theorem indexTrips (fid:Nat) (caps:Array Value) (p:Trip→Bool) (v:Value) (xs:List (Trip)) (w:World) (hv:Sls 4 (AtE tripC) w v xs) (hn:xs.length≤1000000)
  (eg:∀args w,(callFunc fid args).run Tryz.prog w= .ok (.enter fid args) w)
  (hf:∀x w',Ext w w'→Calls Tryz.prog fid (#[.agg #[.int .i64 x.day,.int .i64 x.src,.int .i64 x.dst,.int .i64 x.cost]]++caps) w' fun e w''=>e= .returned (.bool (p x))∧Ext w' w'') :
  Calls Tryz.prog 236 #[v,.func (.func fid) #[] caps] w fun e w'=>∃k:Int,e= .returned (.int .i64 k)∧decide (0≤k)=xs.any p∧Ext w w':=by
 obtain⟨a,cap,rfl,hx⟩:=hv
 have HX:=Qb hx
 have HF:=Qb hf
 have HEG:=Qb eg
 clear hx hf eg
 go_enter Tryz.func236,Tryz.ntmps236
 go_wp2
 go_loopw [5,8] (fun _ i wr=>∃k:Nat,k≤xs.length∧i= .int .i64 k∧(xs.take k).any p=false∧Ext w wr) (fun _ i _=>xs.length - (intOf i).toNat)
 case atStart=>exact⟨0,Qc _,rfl,rfl,Qa _⟩
 case round =>
  rename World=>wr
  obtain⟨k,hk,rfl,hgood,hE⟩:=hrel
  have HG:=Qb hgood
  clear hgood
  by_cases hlt:k<xs.length
  ·obtain⟨b,off,rfl,hb,h0⟩:=HX.out k hlt
   have h0':=ate_stays _ _ _ _ _ _ hE hb h0
   have q0:=h0' 0 _ rfl
   have q1:=h0' 1 _ rfl
   have q2:=h0' 2 _ rfl
   have q3:=h0' 3 _ rfl
   simp only[Nat.add_zero]at q0
   clear h0'
   have hbl:=Qd hb hE.size
   have hs:(xs.take (k+1)).any p=p xs[k]:=by rw[Qf hlt,List.any_append,HG.out];simp
   have hm:xs[k]∈xs:=Qe hlt
   have hba:=HF.out xs[k] wr hE
   obtain⟨x,hxx⟩:∃x,xs[k]=x:=⟨_,rfl⟩
   rw[hxx]at hs hm hba q0 q1 q2 q3
   obtain⟨B,hB⟩:∃B,p x=B:=⟨_,rfl⟩
   rw[hB]at hs hba
   have HBA:=Qb hba
   have HS:=Qb hs
   have HM:=Qb hm
   have HBB:=Qb hB
   clear h0 hxx hba hs hm hB
   have heg:=HEG.out
   cases B with
   | true =>
    go_wp2
    refine HBA.out.mono ?_
    rintro e w' ⟨rfl,hE'⟩
    go_wp2
    go_ret
    have ha:xs.any p=true:=by rw[List.any_eq_true];exact⟨x,HM.out,HBB.out⟩
    exact⟨_,rfl,by rw[ha];simp,hE.trans hE'⟩
   | false =>
    go_wp2
    refine HBA.out.mono ?_
    rintro e w' ⟨rfl,hE'⟩
    go_wp2
    go_roundw
    case rel=>exact⟨k+1,by omega,by go_num,HS.out,hE.trans hE'⟩
    case measure=>simp[intOf];omega
  ·obtain rfl:k=xs.length:=by omega
   go_wp2
   go_ret
   have h:=HG.out
   rw[List.take_length]at h
   exact⟨_,rfl,by rw[h];decide,hE⟩
theorem containsTrips (fid:Nat) (caps:Array Value) (p:Trip→Bool) (v:Value) (xs:List (Trip)) (w:World) (hv:Sls 4 (AtE tripC) w v xs) (hn:xs.length≤1000000)
  (eg:∀args w,(callFunc fid args).run Tryz.prog w= .ok (.enter fid args) w)
  (hf:∀x w',Ext w w'→Calls Tryz.prog fid (#[.agg #[.int .i64 x.day,.int .i64 x.src,.int .i64 x.dst,.int .i64 x.cost]]++caps) w' fun e w''=>e= .returned (.bool (p x))∧Ext w' w'') :
  Calls Tryz.prog 207 #[v,.func (.func fid) #[] caps] w fun e w'=>e= .returned (.bool (xs.any p))∧Ext w w':=by
 have hv':=hv
 obtain⟨a,cap,rfl,_⟩:=hv'
 have HB:=Qb (indexTrips fid caps p _ xs w hv hn eg hf)
 clear eg hf
 go_enter Tryz.func207,Tryz.ntmps207
 go_wp2_with (first|(go_at_call 236;refine HB.out.mono ?_;rintro e w' ⟨k,rfl,hk,hE'⟩))
 all_goals(go_ret;exact⟨rfl,hE'⟩)
set_option maxRecDepth 100000 in
set_option maxHeartbeats 4000000 in
theorem valid1_any (x:Trip) (n wait:Int) (vi vc vt:Value) (b:Nat) (w:World) (hn:0≤n∧n≤1000000) (hb:Blk w b (seaV n wait vi vc vt) 82) :
  Calls Tryz.prog 208 #[.agg (tripV x),.pointer (some ⟨b,0,none⟩)] w fun e w'=>e= .returned (.bool (!tripB n x))∧Ext w w':=by
 obtain⟨B1,hB1⟩:∃B,within x.day 0 400=B:=⟨_,rfl⟩
 obtain⟨B2,hB2⟩:∃B,within x.src 0 (n - 1)=B:=⟨_,rfl⟩
 obtain⟨B3,hB3⟩:∃B,within x.dst 0 (n - 1)=B:=⟨_,rfl⟩
 obtain⟨B4,hB4⟩:∃B,within x.cost 0 1000000=B:=⟨_,rfl⟩
 have ht:tripB n x=(B1&&B2&&B3&& !decide (x.src=x.dst)&&B4):=by rw[← hB1,←hB2,←hB3,←hB4];rfl
 have HT:=Qb ht
 have I1:=Qb (fun W=>(hB1▸in_any x.day 0 400 W:Calls Tryz.prog 206 #[.int .i64 x.day,.int .i64 0,.int .i64 400] W fun e w'=>e= .returned (.bool B1)∧W=w'))
 have I2:=Qb (fun W=>(hB2▸in_any x.src 0 (n - 1) W:Calls Tryz.prog 206 #[.int .i64 x.src,.int .i64 0,.int .i64 (n - 1)] W fun e w'=>e= .returned (.bool B2)∧W=w'))
 have I3:=Qb (fun W=>(hB3▸in_any x.dst 0 (n - 1) W:Calls Tryz.prog 206 #[.int .i64 x.dst,.int .i64 0,.int .i64 (n - 1)] W fun e w'=>e= .returned (.bool B3)∧W=w'))
 have I4:=Qb (fun W=>(hB4▸in_any x.cost 0 1000000 W:Calls Tryz.prog 206 #[.int .i64 x.cost,.int .i64 0,.int .i64 1000000] W fun e w'=>e= .returned (.bool B4)∧W=w'))
 have hwn:IntKind.i64.wrap (n - 1)=n - 1:=IntWalk.i64_in _ (by omega)
 have k0:=hb.cell
 have k1:=hb.lt
 clear hB1 hB2 hB3 hB4 ht
 cases B1
 rotate_left
 cases B2
 rotate_left
 cases B3
 rotate_left
 by_cases q:x.src=x.dst
 rotate_left
 cases B4
 rotate_left
 all_goals
  (try have Q:=Qb q)
  go_enter Tryz.func208,Tryz.ntmps208
  go_wp2_with (first|(go_at_call 206;with_reducible refine(I1.out _).mono ?_;rintro e w' ⟨rfl,rfl⟩)|(go_at_call 206;with_reducible refine(I2.out _).mono ?_;rintro e w' ⟨rfl,rfl⟩)|(go_at_call 206;with_reducible refine(I3.out _).mono ?_;rintro e w' ⟨rfl,rfl⟩)|(go_at_call 206;with_reducible refine(I4.out _).mono ?_;rintro e w' ⟨rfl,rfl⟩))
  go_ret
  exact⟨ret_bool (by rw[HT.out];first|rfl|(simp;done)|(have h:=Q.out;simp[h])),by(with_reducible(repeat(first|exact Qa _|assumption|apply Qg|apply Qh|exact ext_plus _ _|(apply Qi;rotate_left;(simp<;>omega))|(apply Qj;rotate_left;exact ext_plus _ _)|(apply Qj;rotate_left;assumption))))⟩
set_option maxRecDepth 100000 in
set_option maxHeartbeats 8000000 in
theorem valid_true (n wait:Int) (is:List Int) (ts:List Trip) (vi vt:Value) (w:World) (hI:Ints w vi is) (hT:Trips w vt ts) (hn:1≤n∧n≤8) (hi1:is.length≤1) (hi:∀x∈is,0≤x∧x≤n - 1) (ht9:ts.length≤9) (hw:0≤wait∧wait≤40) (ht:∀t∈ts,tripB n t=true) :
  Calls Tryz.prog 159 #[.agg (seaV n wait vi (.slice none 0 0) vt)] w fun e w'=>e= .returned (.bool true)∧Ext w w':=by
 have HN1:=Qb (fun W (hE:Ext w W)=>inc_any is vi n W (hI.ext hE) hi1 hi (by omega))
 have HN2:=Qb (fun W=>inc_any [] (.slice none 0 0) n W (Ints.nil W) (by simp) (by simp) (by omega))
 have hany:ts.any (fun x=> !tripB n x)=false:=by
  rw[List.any_eq_false];intro x hx;simp[ht x hx]
 have hco:=fun W (hE:Ext (w.alloc (.cells (seaV n wait vi (.slice none 0 0) vt) 82)) W)=>containsTrips 208 #[.pointer (some ⟨w.heap.size,0,none⟩)] (fun x=> !tripB n x) _ ts W (hT.ext (((Qa w).alloc _).trans hE)) (by omega) (enters_of Tryz.func208 (by kernel_rfl) rfl) (fun x w2 hE2=>valid1_any x n wait vi (.slice none 0 0) vt w.heap.size w2 (by omega) ((Qk rfl _ _:Blk (w.alloc (.cells (seaV n wait vi (.slice none 0 0) vt) 82)) w.heap.size (seaV n wait vi (.slice none 0 0) vt) 82).ext (hE.trans hE2)))
 simp only[hany]at hco
 have HCO:=Qb hco
 have I1:=Qb (fun W=>(within_iff.2 hn▸in_any n 1 8 W:Calls Tryz.prog 206 #[.int .i64 n,.int .i64 1,.int .i64 8] W fun e w'=>e= .returned (.bool true)∧W=w'))
 have I2:=Qb (fun W=>(within_iff.2 hw▸in_any wait 0 40 W:Calls Tryz.prog 206 #[.int .i64 wait,.int .i64 0,.int .i64 40] W fun e w'=>e= .returned (.bool true)∧W=w'))
 obtain⟨ai,ci,rfl,_⟩:=hI
 obtain⟨at',ct,rfl,_⟩:=hT
 have hb:=(Qk rfl _ _:Blk (w.alloc (.cells (seaV n wait (.slice ai is.length ci) (.slice none 0 0) (.slice at' ts.length ct)) 82)) w.heap.size (seaV n wait (.slice ai is.length ci) (.slice none 0 0) (.slice at' ts.length ct)) 82)
 have HLA:=Qb (fun y (hy:Ext (w.alloc (.cells (seaV n wait (.slice ai is.length ci) (.slice none 0 0) (.slice at' ts.length ct)) 82)) y)=>(⟨(hb.ext hy).cell,(hb.ext hy).lt⟩:(∀ o,y.cell? ⟨w.heap.size,o,none⟩=(seaV n wait (.slice ai is.length ci) (.slice none 0 0) (.slice at' ts.length ct):Array Value)[o]?)∧w.heap.size<y.heap.size))
 clear hco hany hb
 go_enter Tryz.func159,Tryz.ntmps159
 go_wp2_with (first|(go_at_call 206;with_reducible refine(I1.out _).mono ?_;rintro e w' ⟨rfl,rfl⟩)|(go_at_call 206;with_reducible refine(I2.out _).mono ?_;rintro e w' ⟨rfl,rfl⟩)|(go_at_call 160;with_reducible refine(HN1.out _ (by(with_reducible(repeat(first|exact Qa _|assumption|apply Qg|apply Qh|exact ext_plus _ _|(apply Qi;rotate_left;(simp<;>omega))|(apply Qj;rotate_left;exact ext_plus _ _)|(apply Qj;rotate_left;assumption)))))).mono ?_;rintro e y ⟨rfl,hy⟩;(try clear k0 k1);obtain⟨k0,k1⟩:=HLA.out y (by(with_reducible(repeat(first|exact Qa _|assumption|apply Qg|apply Qh|exact ext_plus _ _|(apply Qi;rotate_left;(simp<;>omega))|(apply Qj;rotate_left;exact ext_plus _ _)|(apply Qj;rotate_left;assumption))))))|(go_at_call 160;with_reducible refine(HN2.out _).mono ?_;rintro e y ⟨rfl,hy⟩;(try clear k0 k1);obtain⟨k0,k1⟩:=HLA.out y (by(with_reducible(repeat(first|exact Qa _|assumption|apply Qg|apply Qh|exact ext_plus _ _|(apply Qi;rotate_left;(simp<;>omega))|(apply Qj;rotate_left;exact ext_plus _ _)|(apply Qj;rotate_left;assumption))))))|(go_at_call 207;refine(HCO.out _ (by(with_reducible(repeat(first|exact Qa _|assumption|apply Qg|apply Qh|exact ext_plus _ _|(apply Qi;rotate_left;(simp<;>omega))|(apply Qj;rotate_left;exact ext_plus _ _)|(apply Qj;rotate_left;assumption)))))).mono ?_;rintro e y ⟨rfl,hy⟩))
 go_ret
 exact⟨rfl,by(with_reducible(repeat(first|exact Qa _|assumption|apply Qg|apply Qh|exact ext_plus _ _|(apply Qi;rotate_left;(simp<;>omega))|(apply Qj;rotate_left;exact ext_plus _ _)|(apply Qj;rotate_left;assumption))))⟩
set_option maxRecDepth 100000 in
set_option maxHeartbeats 4000000 in
theorem guarded_true (n wait:Int) (is:List Int) (ts:List Trip) (vi vt:Value) (w:World) (hI:Ints w vi is) (hT:Trips w vt ts) (hn:1≤n∧n≤8) (hi1:is.length≤1) (hi:∀x∈is,0≤x∧x≤n - 1) (ht9:ts.length≤9) (hw:0≤wait∧wait≤40) (ht:∀t∈ts,tripB n t=true) :
  Calls Tryz.prog 87 #[.agg (seaV n wait vi (.slice none 0 0) vt),.slice none 0 0] w fun e w'=>e= .returned (.tuple #[.agg #[.int .i64 n,vi,.slice none 0 0,vt,.int .i64 wait,.int .i64 0],.bool true])∧Ext w w':=by
 have HV:=Qb (fun W (hE:Ext w W)=>valid_true n wait is ts vi vt W (hI.ext hE) (hT.ext hE) hn hi1 hi ht9 hw ht)
 have HN2:=Qb (fun W=>inc_any [] (.slice none 0 0) (ts.length:Int) W (Ints.nil W) (by simp) (by simp) (by omega))
 have HBI:=Qb (fun W=>bits_nil W)
 obtain⟨ai,ci,rfl,_⟩:=hI
 obtain⟨at',ct,rfl,_⟩:=hT
 obtain⟨n0,hn0⟩:∃n,w.heap.size=n:=⟨_,rfl⟩
 go_enter Tryz.func87,Tryz.ntmps87
 go_upto_region 1 with(fail)
 obtain⟨w1,hw1⟩:∃y,(w.alloc (.cells (seaV n wait (.slice ai is.length ci) (.slice none 0 0) (.slice at' ts.length ct)) 82)).alloc (.cells #[.int .i64 0,.slice none 0 0,.slice none 0 0,.slice none 0 0,.int .i64 0,.int .i64 0] 204)=y:=⟨_,rfl⟩
 have hb0:Blk w1 n0 (seaV n wait (.slice ai is.length ci) (.slice none 0 0) (.slice at' ts.length ct)) 82:=by rw[← hw1];exact(Qk hn0.symm _ _).alloc _
 have hb1:Blk w1 (n0+1) #[.int .i64 0,.slice none 0 0,.slice none 0 0,.slice none 0 0,.int .i64 0,.int .i64 0] 204:=by rw[← hw1];exact Qk (by simp[hn0]) _ _
 have hE1:Ext w w1:=by rw[← hw1];(with_reducible(repeat(first|exact Qa _|assumption|apply Qg|apply Qh|exact ext_plus _ _|(apply Qi;rotate_left;(simp<;>omega))|(apply Qj;rotate_left;exact ext_plus _ _)|(apply Qj;rotate_left;assumption))))
 have HLA:=Qb (fun y (hy:Ext w1 y)=>(⟨(hb0.ext hy).cell,(hb0.ext hy).lt⟩:(∀ o,y.cell? ⟨n0,o,none⟩=(seaV n wait (.slice ai is.length ci) (.slice none 0 0) (.slice at' ts.length ct):Array Value)[o]?)∧n0<y.heap.size))
 simp only[hw1]
 clear hw1
 obtain⟨k0,k1⟩:=HLA.out w1 (Qa _)
 go_wp2_with (first|(go_at_call 159;refine(HV.out _ (by(with_reducible(repeat(first|exact Qa _|assumption|apply Qg|apply Qh|exact ext_plus _ _|(apply Qi;rotate_left;(simp<;>omega))|(apply Qj;rotate_left;exact ext_plus _ _)|(apply Qj;rotate_left;assumption)))))).mono ?_;rintro e y ⟨rfl,hy⟩;(try clear k0 k1);obtain⟨k0,k1⟩:=HLA.out y (by(with_reducible(repeat(first|exact Qa _|assumption|apply Qg|apply Qh|exact ext_plus _ _|(apply Qi;rotate_left;(simp<;>omega))|(apply Qj;rotate_left;exact ext_plus _ _)|(apply Qj;rotate_left;assumption))))))|(go_at_call 160;refine(HN2.out _).mono ?_;rintro e y2 ⟨rfl,hy2⟩;(try clear k0 k1);obtain⟨k0,k1⟩:=HLA.out y2 (by(with_reducible(repeat(first|exact Qa _|assumption|apply Qg|apply Qh|exact ext_plus _ _|(apply Qi;rotate_left;(simp<;>omega))|(apply Qj;rotate_left;exact ext_plus _ _)|(apply Qj;rotate_left;assumption)))))))
 have hpc:=plus_cell
 refine wp_region_ext 4 (fun _ _ d _ _ h=>by cases d<;>exact h) (by kernel_rfl) (by kernel_rfl) (by kernel_rfl) (by kernel_rfl) ?_
 simp only[List.take_succ_cons,List.take_zero,List.drop_succ_cons,List.drop_zero]
 repeat(any_goals(first|go_big_quiet_step((go_at_call 161;exact ext_quiet (HBI.out _)))|quiet_step((go_at_call 161;exact ext_quiet (HBI.out _)))))
 all_goals(refine wpQuiet_nil ?_;intro w3 hE3)
 have hE13:Ext w1 w3:=hy.trans (hy2.trans hE3)
 have hE03:=hE1.trans hE13
 have hb3:=hb1.ext hE13
 have k2:=hb3.cell
 have k3:=hb3.lt
 have k4:=hb3.free
 have hn01:w.heap.size≤n0+1:=by omega
 clear k0 k1
 go_wp2
 obtain⟨w4,hw4⟩:∃y,((((((w3.setCell ⟨n0+1,0,none⟩ (.int .i64 n)).setCell ⟨n0+1,1,none⟩ (.slice ai is.length ci)).setCell ⟨n0+1,2,none⟩ (.slice none 0 0)).setCell ⟨n0+1,3,none⟩ (.slice at' ts.length ct)).setCell ⟨n0+1,4,none⟩ (.int .i64 wait)).setCell ⟨n0+1,5,none⟩ (.int .i64 0))=y:=⟨_,rfl⟩
 have hb4:Blk w4 (n0+1) #[.int .i64 n,.slice ai is.length ci,.slice none 0 0,.slice at' ts.length ct,.int .i64 wait,.int .i64 0] 204:=by rw[← hw4];have:=(((((hb3.set 0 (.int .i64 n)).set 1 (.slice ai is.length ci)).set 2 (.slice none 0 0)).set 3 (.slice at' ts.length ct)).set 4 (.int .i64 wait)).set 5 (.int .i64 0);simpa using this
 have hE4:Ext w w4:=by rw[← hw4];exact(((((hE03.setCell (p:=⟨n0+1,0,none⟩) hn01 _).setCell (p:=⟨n0+1,1,none⟩) hn01 _).setCell (p:=⟨n0+1,2,none⟩) hn01 _).setCell (p:=⟨n0+1,3,none⟩) hn01 _).setCell (p:=⟨n0+1,4,none⟩) hn01 _).setCell (p:=⟨n0+1,5,none⟩) hn01 _
 have k5:=hb4.cell
 rw[hw4]
 clear hw4
 refine bodyPost_ret (v:= .tuple #[.agg #[.int .i64 n,.slice ai is.length ci,.slice none 0 0,.slice at' ts.length ct,.int .i64 wait,.int .i64 0],.bool true]) (by simp[results,Tryz.results87,go_sem,k5]) rfl ⟨rfl,hE4⟩
end Go.Proofs.YtgloajbgphcloaaGreat.Bn
