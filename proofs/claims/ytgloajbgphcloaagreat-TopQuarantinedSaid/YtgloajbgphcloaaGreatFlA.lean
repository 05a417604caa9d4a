/- The fleet's market, without the program: what is as defined, what is oversold, the best sale. The fleet: in, covers. The fleet: the functions that are asked of each number. The fleet: whether a sea is as defined (not built yet). The fleet: whether a bid is as defined; ContainsFunc over bids. The fleet: whether a market is as defined. -/
import Derived.Test.YtgloajbgphcloaaGreatBtM
import Derived.Test.YtgloajbgphcloaaGreatCo
import Derived.Test.YtgloajbgphcloaaGreatDr
import Derived.Laws.EntriesVeiled
import Derived.Shelf.Abstract
namespace Go.Proofs.YtgloajbgphcloaaGreat.Fl
set_option linter.unusedVariables false
set_option linter.unusedSimpArgs false
open Go.RowKit
open Bool renaming and_eq_true → Qa
structure Sea where
 cells:Int
 roads:List Int
 zones:List Int
 berths:List Int
 days:Int
structure Bid where
 fleet:Int
 zone:Int
 start:Int
 days:Int
 price:Int
 deriving DecidableEq,Inhabited
def within (x lo hi:Int):Bool:=decide (lo≤x)&&decide (x≤hi)
def setB (s:Sea) (n:Int):Bool:=within n 0 (2^s.cells.toNat - 1)
def seaB (s:Sea):Bool :=
 within s.cells 1 8&&(decide ((s.roads.length:Int)=s.cells)&&s.roads.all (setB s)&&within s.zones.length 1 3&&s.zones.all (setB s)&&decide (s.berths.length=s.zones.length)&&s.berths.all (fun n=>within n 0 4)&&within s.days 1 8)
def bidB (zones days:Int) (b:Bid):Bool:=within b.fleet 0 9&&within b.zone 0 (zones - 1)&&within b.days 1 days&&within b.start 0 (days - b.days)&&within b.price 0 1000000
def codeOf (s:Sea) (l:List Bid):Int:=if 10<l.length then 3 else if seaB s&&l.all (bidB s.zones.length s.days)then 0 else 2
abbrev iat (l:List Int) (k:Nat):Int:=l.getD k 0
def covers (b:Bid) (z d:Int):Bool:=decide (b.zone=z)&&within d b.start (b.start+b.days - 1)
def soldL (l:List Bid) (sale:Nat):List Bid:=(cellsTo sale l.length).map fun i=>l.getD i default
def sold (l:List Bid) (sale:Nat) (z d:Int):Nat:=(soldL l sale).countP fun b=>covers b z d
def revenue (l:List Bid) (sale:Nat):Int:=((soldL l sale).map fun b=>b.price).sum
def dayOver (s:Sea) (l:List Bid) (sale z d:Nat):Bool:=decide (iat s.berths z<sold l sale z d)
def zoneOver (s:Sea) (l:List Bid) (sale z:Nat):Bool:=(List.range s.days.toNat).any (dayOver s l sale z)
def over (s:Sea) (l:List Bid) (sale:Nat):Bool:=(List.range s.berths.length).any (zoneOver s l sale)
def bestTo (s:Sea) (l:List Bid):Nat→Nat×Int
 | 0=>(0,0)
 | k+1=>if revenue l k≤(bestTo s l k).2∨over s l k=true then bestTo s l k else(k,revenue l k)
def best (s:Sea) (l:List Bid):Nat×Int:=bestTo s l (2^l.length)
structure Ok (s:Sea):Prop where
 cells:1≤s.cells∧s.cells≤8
 roadsN:(s.roads.length:Int)=s.cells
 roads:∀n∈s.roads,0≤n∧n<2^s.cells.toNat
 zonesN:1≤s.zones.length∧s.zones.length≤3
 zones:∀n∈s.zones,0≤n∧n<2^s.cells.toNat
 berthsN:s.berths.length=s.zones.length
 berths:∀n∈s.berths,0≤n∧n≤4
 days:1≤s.days∧s.days≤8
theorem within_iff {x lo hi:Int} :within x lo hi=true↔lo≤x∧x≤hi:=by simp[within]
theorem ok_of {s:Sea} (h:seaB s=true):Ok s:=by
 unfold seaB setB at h
 simp only[Qa,within_iff,decide_eq_true_eq,List.all_eq_true]at h
 obtain⟨h1,⟨⟨⟨⟨⟨⟨h2,h3⟩,h4⟩,h5⟩,h6⟩,h7⟩,h8⟩⟩:=h
 exact⟨h1,h2,fun n hn=>by have:=h3 n hn;omega,by omega,fun n hn=>by have:=h5 n hn;omega,h6,fun n hn=>by have:=h7 n hn;omega,h8⟩
structure BidOk (s:Sea) (b:Bid):Prop where
 zone:0≤b.zone∧b.zone<s.zones.length
 days:1≤b.days∧b.days≤s.days
 start:0≤b.start∧b.start+b.days≤s.days
 price:0≤b.price∧b.price≤1000000
theorem bid_of {s:Sea} {b:Bid} (h:bidB s.zones.length s.days b=true):BidOk s b:=by
 unfold bidB at h
 simp only[Qa,within_iff]at h
 obtain⟨⟨⟨⟨_,h1⟩,h2⟩,h3⟩,h4⟩:=h
 exact⟨by omega,h2,by omega,h4⟩
theorem code_zero {s:Sea} {l:List Bid} (h:codeOf s l=0):seaB s=true∧l.length≤10∧∀b∈l,BidOk s b:=by
 unfold codeOf at h
 split at h
 ·cases h
 ·split at h
  ·rename_i h1 h2
   simp only[Qa,List.all_eq_true]at h2
   exact⟨h2.1,by omega,fun b hb=>bid_of (h2.2 b hb)⟩
  ·cases h
theorem best_le (s:Sea) (l:List Bid):∀k,(bestTo s l k).1≤k∧0≤(bestTo s l k).2
 | 0=>⟨Nat.le_refl _,Int.le_refl _⟩
 | k+1=>by
  have h:=best_le s l k
  unfold bestTo
  split
  ·exact⟨by omega,h.2⟩
  ·rename_i h1
   exact⟨by simp,by simp only;omega⟩
theorem best_lt (s:Sea) (l:List Bid):∀k,0<k→(bestTo s l k).1<k
 | 0,h=>absurd h (by decide)
 | k+1,_=>by
  have h:=best_le s l k
  unfold bestTo
  split
  ·omega
  ·exact Nat.lt_succ_self k
theorem sold_zero (l:List Bid) (z d:Int):sold l 0 z d=0:=by simp[sold,soldL,cellsTo]
theorem best_fine {s:Sea} (O:Ok s) (l:List Bid):∀k,over s l (bestTo s l k).1=false
 | 0=>by
  unfold bestTo over zoneOver dayOver
  simp only[List.any_eq_false,List.mem_range,decide_eq_true_eq,sold_zero,Bool.not_eq_true]
  intro z hz d hd
  have e:iat s.berths z=s.berths[z]:=by simp[iat,List.getD_eq_getElem?_getD,hz]
  have:=O.berths _ (List.getElem_mem hz)
  omega
 | k+1=>by
  have h:=best_fine O l k
  unfold bestTo
  split
  ·exact h
  ·rename_i h1
   simp only[not_or,Bool.not_eq_true]at h1
   exact h1.2
def exS:Sea:=⟨4,[2,5,10,4],[3,12],[1,2],4⟩
def exB:List Bid:=[⟨0,0,0,2,30⟩,⟨1,0,1,3,50⟩,⟨0,0,2,2,25⟩,⟨2,1,0,4,40⟩]
theorem ex_code:codeOf exS exB=0:=by decide +kernel
theorem ex_best:best exS exB=(13,95):=by decide +kernel
end Go.Proofs.YtgloajbgphcloaaGreat.Fl
namespace Go.Proofs.YtgloajbgphcloaaGreat.Fl
set_option linter.unusedVariables false
set_option linter.unusedSimpArgs false
open Go.RowKit
open Ext renaming trans → Qb
abbrev bidV (b:Bid):Array Value:=#[.int .i64 b.fleet,.int .i64 b.zone,.int .i64 b.start,.int .i64 b.days,.int .i64 b.price]
theorem in_any (x lo hi:Int) (w:World) :
  Calls Tryz.prog 98 #[.int .i64 x,.int .i64 lo,.int .i64 hi] w fun e w'=>e= .returned (.bool (within x lo hi))∧w=w':=by
 go_enter Tryz.func98,Tryz.ntmps98
 go_wp2
 all_goals(go_ret;exact⟨ret_bool (by rw[Bool.eq_iff_iff];simp[within];omega),rfl⟩)
theorem covers_any (s:Sea) (b:Bid) (z d:Int) (w:World) (B:BidOk s b) (O:Ok s) :
  Calls Tryz.prog 184 #[.agg (bidV b),.int .i64 z,.int .i64 d] w fun e w'=>e= .returned (.bool (covers b z d))∧Ext w w':=by
 have h1:=B.days
 have h2:=B.start
 have h3:=O.days
 have hc:covers b z d=(decide (b.zone=z)&&within d b.start (b.start+b.days - 1)):=rfl
 have HC:=Lib.hid hc
 clear hc
 by_cases hz:b.zone=z
 ·go_enter Tryz.func184,Tryz.ntmps184
  go_wp2_with (first|(go_at_call 98;refine(in_any _ _ _ _).mono ?_;rintro e w' ⟨rfl,rfl⟩))
  go_ret
  exact⟨ret_bool (by rw[HC.out];simp[hz]),by(with_reducible(repeat(first|exact Ext.refl _|assumption|apply Ext.alloc|apply Ext.drew|exact ext_plus _ _|(apply Ext.setCell;rotate_left;(simp<;>omega))|(apply Qb;rotate_left;exact ext_plus _ _)|(apply Qb;rotate_left;assumption))))⟩
 ·go_enter Tryz.func184,Tryz.ntmps184
  go_wp2_with (first|(go_at_call 98;refine(in_any _ _ _ _).mono ?_;rintro e w' ⟨rfl,rfl⟩))
  go_ret
  exact⟨ret_bool (by rw[HC.out];simp[hz]),by(with_reducible(repeat(first|exact Ext.refl _|assumption|apply Ext.alloc|apply Ext.drew|exact ext_plus _ _|(apply Ext.setCell;rotate_left;(simp<;>omega))|(apply Qb;rotate_left;exact ext_plus _ _)|(apply Qb;rotate_left;assumption))))⟩
end Go.Proofs.YtgloajbgphcloaaGreat.Fl
namespace Go.Proofs.YtgloajbgphcloaaGreat.Fl
set_option linter.unusedVariables false
set_option linter.unusedSimpArgs false
open Go.RowKit
abbrev fnV (f b:Nat):Array Value:=#[.func (.func f) #[] #[.pointer (some ⟨b,0,none⟩)]]
theorem valid4_any (n:Int) (w:World) :
  Calls Tryz.prog 219 #[.int .i64 n] w fun e w'=>e= .returned (.bool (!within n 0 4))∧w=w':=by
 go_enter Tryz.func219,Tryz.ntmps219
 go_wp2_with (first|(go_at_call 98;refine(in_any _ _ _ _).mono ?_;rintro e w' ⟨rfl,rfl⟩))
 go_ret
 exact⟨rfl,by trivial⟩
theorem pow_wrap (n:Int) (h0:1≤n) (h1:n≤8):wrap64 (wrap64 (2^n.toNat) - 1)=2^n.toNat - 1:=by
 have h10:n.toNat≤8:=by omega
 generalize n.toNat=q at h10 ⊢
 have h1:2^q≤2^8:=Nat.pow_le_pow_right (by decide) h10
 have h2:0<2^q:=Nat.two_pow_pos q
 rw[pow_nat]
 generalize 2^q=m at h1 h2 ⊢
 unfold wrap64;omega
abbrev seaV (s:Sea) (vr vz vb:Value):Array Value:=#[.int .i64 s.cells,vr,vz,vb,.int .i64 s.days]
theorem valid1_any (n:Int) (s:Sea) (vr vz vb:Value) (b:Nat) (w:World) (h0:1≤s.cells) (h1:s.cells≤8) (hb:Blk w b (seaV s vr vz vb) 89) :
  Calls Tryz.prog 216 #[.int .i64 n,.pointer (some ⟨b,0,none⟩)] w fun e w'=>e= .returned (.bool (setB s n))∧w=w':=by
 have k0:=hb.cell
 have k1:=hb.lt
 have hp:=pow_wrap s.cells h0 h1
 have hs:setB s n=within n 0 (2^s.cells.toNat - 1):=rfl
 have HSB:=Lib.hid hs
 go_enter Tryz.func216,Tryz.ntmps216
 go_wp2_with (first|(go_at_call 98;refine(in_any _ _ _ _).mono ?_;rintro e w' ⟨rfl,rfl⟩))
 go_ret
 exact⟨ret_bool (by rw[HSB.out]),by trivial⟩
theorem valid2_any (n:Int) (s:Sea) (vr vz vb:Value) (c b:Nat) (w:World) (h0:1≤s.cells) (h1:s.cells≤8) (hc:Blk w c (fnV 216 b) 75) (hb:Blk w b (seaV s vr vz vb) 89) :
  Calls Tryz.prog 217 #[.int .i64 n,.pointer (some ⟨c,0,none⟩)] w fun e w'=>e= .returned (.bool (!setB s n))∧w=w':=by
 have k0:=hc.cell
 have k1:=hc.lt
 go_enter Tryz.func217,Tryz.ntmps217
 go_wp2_with (first|(go_at_call 216;refine(valid1_any n s _ _ _ b _ h0 h1 hb).mono ?_;rintro e w' ⟨rfl,rfl⟩))
 go_ret
 exact⟨rfl,by trivial⟩
theorem valid3_any (n:Int) (s:Sea) (vr vz vb:Value) (c b:Nat) (w:World) (h0:1≤s.cells) (h1:s.cells≤8) (hc:Blk w c (fnV 216 b) 75) (hb:Blk w b (seaV s vr vz vb) 89) :
  Calls Tryz.prog 218 #[.int .i64 n,.pointer (some ⟨c,0,none⟩)] w fun e w'=>e= .returned (.bool (!setB s n))∧w=w':=by
 have k0:=hc.cell
 have k1:=hc.lt
 go_enter Tryz.func218,Tryz.ntmps218
 go_wp2_with (first|(go_at_call 216;refine(valid1_any n s _ _ _ b _ h0 h1 hb).mono ?_;rintro e w' ⟨rfl,rfl⟩))
 go_ret
 exact⟨rfl,by trivial⟩
end Go.Proofs.YtgloajbgphcloaaGreat.Fl
namespace Go.Proofs.YtgloajbgphcloaaGreat.Fl
set_option linter.unusedVariables false
set_option linter.unusedSimpArgs false
open Go.RowKit
open Ext renaming alloc → Qe, drew → Qf, refl → Qd, setCell → Qg, trans → Qb
open Lib renaming hid → Qc
theorem any_not {α:Type} (f:α→Bool) (l:List α):l.any (fun n=> !f n)= !l.all f:=by
 induction l with
 | nil=>rfl
 | cons a l ih=>simp[ih,Bool.not_and]
set_option maxRecDepth 100000 in
set_option maxHeartbeats 16000000 in
theorem valid_any (s:Sea) (vr vz vb:Value) (w:World) (hR:Ints w vr s.roads) (hZ:Ints w vz s.zones) (hB:Ints w vb s.berths)
  (hr1:s.roads.length≤1000000) (hz1:s.zones.length≤1000000) (hb1:s.berths.length≤1000000) :
  Calls Tryz.prog 169 #[.agg (seaV s vr vz vb)] w fun e w'=>e= .returned (.bool (seaB s))∧Ext w w':=by
 have hR':=hR
 obtain⟨ar,cr,rfl,_⟩:=hR'
 have hZ':=hZ
 obtain⟨az,cz,rfl,_⟩:=hZ'
 have hB':=hB
 obtain⟨ab,cb,rfl,_⟩:=hB'
 have HR:=Qc hR
 have HZ:=Qc hZ
 have HB:=Qc hB
 clear hR hZ hB
 by_cases q0:within s.cells 1 8=true
 ·have hcl:=within_iff.1 q0
  have HCL:=Qc hcl
  clear hcl
  have hE0:Ext w ((w.alloc (.cells (seaV s (.slice ar s.roads.length cr) (.slice az s.zones.length cz) (.slice ab s.berths.length cb)) 89)).alloc (.cells (fnV 216 w.heap.size) 75)):=by(with_reducible(repeat(first|exact Qd _|assumption|apply Qe|apply Qf|exact ext_plus _ _|(apply Qg;rotate_left;(simp<;>omega))|(apply Qb;rotate_left;exact ext_plus _ _)|(apply Qb;rotate_left;assumption))))
  have hV:Blk ((w.alloc (.cells (seaV s (.slice ar s.roads.length cr) (.slice az s.zones.length cz) (.slice ab s.berths.length cb)) 89)).alloc (.cells (fnV 216 w.heap.size) 75)) w.heap.size (seaV s (.slice ar s.roads.length cr) (.slice az s.zones.length cz) (.slice ab s.berths.length cb)) 89:=(Blk.new' rfl _ _).alloc _
  have hF:Blk ((w.alloc (.cells (seaV s (.slice ar s.roads.length cr) (.slice az s.zones.length cz) (.slice ab s.berths.length cb)) 89)).alloc (.cells (fnV 216 w.heap.size) 75)) (w.heap.size+1) (fnV 216 w.heap.size) 75:=Blk.new' (by simp) _ _
  obtain⟨B2,hB2⟩:∃x,s.roads.any (fun n=> !setB s n)=x:=⟨_,rfl⟩
  have hHA2:=fun W (hE:Ext ((w.alloc (.cells (seaV s (.slice ar s.roads.length cr) (.slice az s.zones.length cz) (.slice ab s.berths.length cb)) 89)).alloc (.cells (fnV 216 w.heap.size) 75)) W)=>containsInts 217 #[.pointer (some ⟨w.heap.size+1,0,none⟩)] (fun n=> !setB s n) _ s.roads W (HR.out.ext (hE0.trans hE)) hr1 (enters_of Tryz.func217 (by kernel_rfl) rfl) (fun x w2 hE2=>(valid2_any x s _ _ _ (w.heap.size+1) w.heap.size w2 HCL.out.1 HCL.out.2 (hF.ext (hE.trans hE2)) (hV.ext (hE.trans hE2))).mono (by rintro e w'' ⟨rfl,rfl⟩;exact⟨rfl,Qd _⟩))
  simp only[hB2]at hHA2
  have HA2:=Qc hHA2
  obtain⟨B3,hB3⟩:∃x,s.zones.any (fun n=> !setB s n)=x:=⟨_,rfl⟩
  have hHA3:=fun W (hE:Ext ((w.alloc (.cells (seaV s (.slice ar s.roads.length cr) (.slice az s.zones.length cz) (.slice ab s.berths.length cb)) 89)).alloc (.cells (fnV 216 w.heap.size) 75)) W)=>containsInts 218 #[.pointer (some ⟨w.heap.size+1,0,none⟩)] (fun n=> !setB s n) _ s.zones W (HZ.out.ext (hE0.trans hE)) hz1 (enters_of Tryz.func218 (by kernel_rfl) rfl) (fun x w2 hE2=>(valid3_any x s _ _ _ (w.heap.size+1) w.heap.size w2 HCL.out.1 HCL.out.2 (hF.ext (hE.trans hE2)) (hV.ext (hE.trans hE2))).mono (by rintro e w'' ⟨rfl,rfl⟩;exact⟨rfl,Qd _⟩))
  simp only[hB3]at hHA3
  have HA3:=Qc hHA3
  obtain⟨B4,hB4⟩:∃x,s.berths.any (fun n=> !within n 0 4)=x:=⟨_,rfl⟩
  have hHA4:=fun W (hE:Ext ((w.alloc (.cells (seaV s (.slice ar s.roads.length cr) (.slice az s.zones.length cz) (.slice ab s.berths.length cb)) 89)).alloc (.cells (fnV 216 w.heap.size) 75)) W)=>containsInts 219 #[] (fun n=> !within n 0 4) _ s.berths W (HB.out.ext (hE0.trans hE)) hb1 (enters_of Tryz.func219 (by kernel_rfl) rfl) (fun x w2 hE2=>(valid4_any x w2).mono (by rintro e w'' ⟨rfl,rfl⟩;exact⟨rfl,Qd _⟩))
  simp only[hB4]at hHA4
  have HA4:=Qc hHA4
  have hsea:seaB s=(decide ((s.roads.length:Int)=s.cells)&& !B2&&within s.zones.length 1 3&& !B3&&decide ((s.berths.length:Int)=(s.zones.length:Int))&& !B4&&within s.days 1 8):=by
   have e2:s.roads.all (setB s)= !B2:=by rw[← hB2,any_not,Bool.not_not]
   have e3:s.zones.all (setB s)= !B3:=by rw[← hB3,any_not,Bool.not_not]
   have e4:s.berths.all (fun n=>within n 0 4)= !B4:=by rw[← hB4,any_not,Bool.not_not]
   have d:decide (s.berths.length=s.zones.length)=decide ((s.berths.length:Int)=(s.zones.length:Int)):=by rw[decide_eq_decide];omega
   unfold seaB
   rw[q0,e2,e3,e4,d];rfl
  have HSEA:=Qc hsea
  clear hB2 hB3 hB4 hHA2 hHA3 hHA4 hsea
  by_cases q1:(s.roads.length:Int)=s.cells
  rotate_left
  ·skip
   go_enter Tryz.func169,Tryz.ntmps169
   go_wp2_with (first|(go_at_call 98;refine(in_any _ _ _ _).mono ?_;rintro e w' ⟨rfl,rfl⟩)|(go_at_call 137;(refine(HA2.out _ (by(with_reducible(repeat(first|exact Qd _|assumption|apply Qe|apply Qf|exact ext_plus _ _|(apply Qg;rotate_left;(simp<;>omega))|(apply Qb;rotate_left;exact ext_plus _ _)|(apply Qb;rotate_left;assumption)))))).mono ?_;rintro e w' ⟨rfl,hE'⟩;have hE9:Ext ((w.alloc (.cells (seaV s (.slice ar s.roads.length cr) (.slice az s.zones.length cz) (.slice ab s.berths.length cb)) 89)).alloc (.cells (fnV 216 w.heap.size) 75)) w':=(by(with_reducible(repeat(first|exact Qd _|assumption|apply Qe|apply Qf|exact ext_plus _ _|(apply Qg;rotate_left;(simp<;>omega))|(apply Qb;rotate_left;exact ext_plus _ _)|(apply Qb;rotate_left;assumption)))));have k0:=(hV.ext hE9).cell;have k1:=(hV.ext hE9).lt))|(go_at_call 137;(refine(HA3.out _ (by(with_reducible(repeat(first|exact Qd _|assumption|apply Qe|apply Qf|exact ext_plus _ _|(apply Qg;rotate_left;(simp<;>omega))|(apply Qb;rotate_left;exact ext_plus _ _)|(apply Qb;rotate_left;assumption)))))).mono ?_;rintro e w' ⟨rfl,hE'⟩;have hE9:Ext ((w.alloc (.cells (seaV s (.slice ar s.roads.length cr) (.slice az s.zones.length cz) (.slice ab s.berths.length cb)) 89)).alloc (.cells (fnV 216 w.heap.size) 75)) w':=(by(with_reducible(repeat(first|exact Qd _|assumption|apply Qe|apply Qf|exact ext_plus _ _|(apply Qg;rotate_left;(simp<;>omega))|(apply Qb;rotate_left;exact ext_plus _ _)|(apply Qb;rotate_left;assumption)))));have k0:=(hV.ext hE9).cell;have k1:=(hV.ext hE9).lt))|(go_at_call 137;(refine(HA4.out _ (by(with_reducible(repeat(first|exact Qd _|assumption|apply Qe|apply Qf|exact ext_plus _ _|(apply Qg;rotate_left;(simp<;>omega))|(apply Qb;rotate_left;exact ext_plus _ _)|(apply Qb;rotate_left;assumption)))))).mono ?_;rintro e w' ⟨rfl,hE'⟩;have hE9:Ext ((w.alloc (.cells (seaV s (.slice ar s.roads.length cr) (.slice az s.zones.length cz) (.slice ab s.berths.length cb)) 89)).alloc (.cells (fnV 216 w.heap.size) 75)) w':=(by(with_reducible(repeat(first|exact Qd _|assumption|apply Qe|apply Qf|exact ext_plus _ _|(apply Qg;rotate_left;(simp<;>omega))|(apply Qb;rotate_left;exact ext_plus _ _)|(apply Qb;rotate_left;assumption)))));have k0:=(hV.ext hE9).cell;have k1:=(hV.ext hE9).lt)))
   go_ret
   exact⟨ret_bool (by rw[HSEA.out,decide_eq_false (show ¬((s.roads.length:Int)=s.cells) by omega)];rfl),by(with_reducible(repeat(first|exact Qd _|assumption|apply Qe|apply Qf|exact ext_plus _ _|(apply Qg;rotate_left;(simp<;>omega))|(apply Qb;rotate_left;exact ext_plus _ _)|(apply Qb;rotate_left;assumption))))⟩
  by_cases q2:B2=false
  rotate_left
  ·have q2':B2=true:=by simpa using q2
   clear q2
   go_enter Tryz.func169,Tryz.ntmps169
   go_wp2_with (first|(go_at_call 98;refine(in_any _ _ _ _).mono ?_;rintro e w' ⟨rfl,rfl⟩)|(go_at_call 137;(refine(HA2.out _ (by(with_reducible(repeat(first|exact Qd _|assumption|apply Qe|apply Qf|exact ext_plus _ _|(apply Qg;rotate_left;(simp<;>omega))|(apply Qb;rotate_left;exact ext_plus _ _)|(apply Qb;rotate_left;assumption)))))).mono ?_;rintro e w' ⟨rfl,hE'⟩;have hE9:Ext ((w.alloc (.cells (seaV s (.slice ar s.roads.length cr) (.slice az s.zones.length cz) (.slice ab s.berths.length cb)) 89)).alloc (.cells (fnV 216 w.heap.size) 75)) w':=(by(with_reducible(repeat(first|exact Qd _|assumption|apply Qe|apply Qf|exact ext_plus _ _|(apply Qg;rotate_left;(simp<;>omega))|(apply Qb;rotate_left;exact ext_plus _ _)|(apply Qb;rotate_left;assumption)))));have k0:=(hV.ext hE9).cell;have k1:=(hV.ext hE9).lt))|(go_at_call 137;(refine(HA3.out _ (by(with_reducible(repeat(first|exact Qd _|assumption|apply Qe|apply Qf|exact ext_plus _ _|(apply Qg;rotate_left;(simp<;>omega))|(apply Qb;rotate_left;exact ext_plus _ _)|(apply Qb;rotate_left;assumption)))))).mono ?_;rintro e w' ⟨rfl,hE'⟩;have hE9:Ext ((w.alloc (.cells (seaV s (.slice ar s.roads.length cr) (.slice az s.zones.length cz) (.slice ab s.berths.length cb)) 89)).alloc (.cells (fnV 216 w.heap.size) 75)) w':=(by(with_reducible(repeat(first|exact Qd _|assumption|apply Qe|apply Qf|exact ext_plus _ _|(apply Qg;rotate_left;(simp<;>omega))|(apply Qb;rotate_left;exact ext_plus _ _)|(apply Qb;rotate_left;assumption)))));have k0:=(hV.ext hE9).cell;have k1:=(hV.ext hE9).lt))|(go_at_call 137;(refine(HA4.out _ (by(with_reducible(repeat(first|exact Qd _|assumption|apply Qe|apply Qf|exact ext_plus _ _|(apply Qg;rotate_left;(simp<;>omega))|(apply Qb;rotate_left;exact ext_plus _ _)|(apply Qb;rotate_left;assumption)))))).mono ?_;rintro e w' ⟨rfl,hE'⟩;have hE9:Ext ((w.alloc (.cells (seaV s (.slice ar s.roads.length cr) (.slice az s.zones.length cz) (.slice ab s.berths.length cb)) 89)).alloc (.cells (fnV 216 w.heap.size) 75)) w':=(by(with_reducible(repeat(first|exact Qd _|assumption|apply Qe|apply Qf|exact ext_plus _ _|(apply Qg;rotate_left;(simp<;>omega))|(apply Qb;rotate_left;exact ext_plus _ _)|(apply Qb;rotate_left;assumption)))));have k0:=(hV.ext hE9).cell;have k1:=(hV.ext hE9).lt)))
   go_ret
   exact⟨ret_bool (by rw[HSEA.out,decide_eq_true (show(s.roads.length:Int)=s.cells by omega),q2'];rfl),by(with_reducible(repeat(first|exact Qd _|assumption|apply Qe|apply Qf|exact ext_plus _ _|(apply Qg;rotate_left;(simp<;>omega))|(apply Qb;rotate_left;exact ext_plus _ _)|(apply Qb;rotate_left;assumption))))⟩
  by_cases q3:within (s.zones.length:Int) 1 3=true
  rotate_left
  ·have q3':within (s.zones.length:Int) 1 3=false:=by simpa using q3
   clear q3
   go_enter Tryz.func169,Tryz.ntmps169
   go_wp2_with (first|(go_at_call 98;refine(in_any _ _ _ _).mono ?_;rintro e w' ⟨rfl,rfl⟩)|(go_at_call 137;(refine(HA2.out _ (by(with_reducible(repeat(first|exact Qd _|assumption|apply Qe|apply Qf|exact ext_plus _ _|(apply Qg;rotate_left;(simp<;>omega))|(apply Qb;rotate_left;exact ext_plus _ _)|(apply Qb;rotate_left;assumption)))))).mono ?_;rintro e w' ⟨rfl,hE'⟩;have hE9:Ext ((w.alloc (.cells (seaV s (.slice ar s.roads.length cr) (.slice az s.zones.length cz) (.slice ab s.berths.length cb)) 89)).alloc (.cells (fnV 216 w.heap.size) 75)) w':=(by(with_reducible(repeat(first|exact Qd _|assumption|apply Qe|apply Qf|exact ext_plus _ _|(apply Qg;rotate_left;(simp<;>omega))|(apply Qb;rotate_left;exact ext_plus _ _)|(apply Qb;rotate_left;assumption)))));have k0:=(hV.ext hE9).cell;have k1:=(hV.ext hE9).lt))|(go_at_call 137;(refine(HA3.out _ (by(with_reducible(repeat(first|exact Qd _|assumption|apply Qe|apply Qf|exact ext_plus _ _|(apply Qg;rotate_left;(simp<;>omega))|(apply Qb;rotate_left;exact ext_plus _ _)|(apply Qb;rotate_left;assumption)))))).mono ?_;rintro e w' ⟨rfl,hE'⟩;have hE9:Ext ((w.alloc (.cells (seaV s (.slice ar s.roads.length cr) (.slice az s.zones.length cz) (.slice ab s.berths.length cb)) 89)).alloc (.cells (fnV 216 w.heap.size) 75)) w':=(by(with_reducible(repeat(first|exact Qd _|assumption|apply Qe|apply Qf|exact ext_plus _ _|(apply Qg;rotate_left;(simp<;>omega))|(apply Qb;rotate_left;exact ext_plus _ _)|(apply Qb;rotate_left;assumption)))));have k0:=(hV.ext hE9).cell;have k1:=(hV.ext hE9).lt))|(go_at_call 137;(refine(HA4.out _ (by(with_reducible(repeat(first|exact Qd _|assumption|apply Qe|apply Qf|exact ext_plus _ _|(apply Qg;rotate_left;(simp<;>omega))|(apply Qb;rotate_left;exact ext_plus _ _)|(apply Qb;rotate_left;assumption)))))).mono ?_;rintro e w' ⟨rfl,hE'⟩;have hE9:Ext ((w.alloc (.cells (seaV s (.slice ar s.roads.length cr) (.slice az s.zones.length cz) (.slice ab s.berths.length cb)) 89)).alloc (.cells (fnV 216 w.heap.size) 75)) w':=(by(with_reducible(repeat(first|exact Qd _|assumption|apply Qe|apply Qf|exact ext_plus _ _|(apply Qg;rotate_left;(simp<;>omega))|(apply Qb;rotate_left;exact ext_plus _ _)|(apply Qb;rotate_left;assumption)))));have k0:=(hV.ext hE9).cell;have k1:=(hV.ext hE9).lt)))
   go_ret
   exact⟨ret_bool (by rw[HSEA.out,decide_eq_true (show(s.roads.length:Int)=s.cells by omega),q2,q3'];rfl),by(with_reducible(repeat(first|exact Qd _|assumption|apply Qe|apply Qf|exact ext_plus _ _|(apply Qg;rotate_left;(simp<;>omega))|(apply Qb;rotate_left;exact ext_plus _ _)|(apply Qb;rotate_left;assumption))))⟩
  by_cases q4:B3=false
  rotate_left
  ·have q4':B3=true:=by simpa using q4
   clear q4
   go_enter Tryz.func169,Tryz.ntmps169
   go_wp2_with (first|(go_at_call 98;refine(in_any _ _ _ _).mono ?_;rintro e w' ⟨rfl,rfl⟩)|(go_at_call 137;(refine(HA2.out _ (by(with_reducible(repeat(first|exact Qd _|assumption|apply Qe|apply Qf|exact ext_plus _ _|(apply Qg;rotate_left;(simp<;>omega))|(apply Qb;rotate_left;exact ext_plus _ _)|(apply Qb;rotate_left;assumption)))))).mono ?_;rintro e w' ⟨rfl,hE'⟩;have hE9:Ext ((w.alloc (.cells (seaV s (.slice ar s.roads.length cr) (.slice az s.zones.length cz) (.slice ab s.berths.length cb)) 89)).alloc (.cells (fnV 216 w.heap.size) 75)) w':=(by(with_reducible(repeat(first|exact Qd _|assumption|apply Qe|apply Qf|exact ext_plus _ _|(apply Qg;rotate_left;(simp<;>omega))|(apply Qb;rotate_left;exact ext_plus _ _)|(apply Qb;rotate_left;assumption)))));have k0:=(hV.ext hE9).cell;have k1:=(hV.ext hE9).lt))|(go_at_call 137;(refine(HA3.out _ (by(with_reducible(repeat(first|exact Qd _|assumption|apply Qe|apply Qf|exact ext_plus _ _|(apply Qg;rotate_left;(simp<;>omega))|(apply Qb;rotate_left;exact ext_plus _ _)|(apply Qb;rotate_left;assumption)))))).mono ?_;rintro e w' ⟨rfl,hE'⟩;have hE9:Ext ((w.alloc (.cells (seaV s (.slice ar s.roads.length cr) (.slice az s.zones.length cz) (.slice ab s.berths.length cb)) 89)).alloc (.cells (fnV 216 w.heap.size) 75)) w':=(by(with_reducible(repeat(first|exact Qd _|assumption|apply Qe|apply Qf|exact ext_plus _ _|(apply Qg;rotate_left;(simp<;>omega))|(apply Qb;rotate_left;exact ext_plus _ _)|(apply Qb;rotate_left;assumption)))));have k0:=(hV.ext hE9).cell;have k1:=(hV.ext hE9).lt))|(go_at_call 137;(refine(HA4.out _ (by(with_reducible(repeat(first|exact Qd _|assumption|apply Qe|apply Qf|exact ext_plus _ _|(apply Qg;rotate_left;(simp<;>omega))|(apply Qb;rotate_left;exact ext_plus _ _)|(apply Qb;rotate_left;assumption)))))).mono ?_;rintro e w' ⟨rfl,hE'⟩;have hE9:Ext ((w.alloc (.cells (seaV s (.slice ar s.roads.length cr) (.slice az s.zones.length cz) (.slice ab s.berths.length cb)) 89)).alloc (.cells (fnV 216 w.heap.size) 75)) w':=(by(with_reducible(repeat(first|exact Qd _|assumption|apply Qe|apply Qf|exact ext_plus _ _|(apply Qg;rotate_left;(simp<;>omega))|(apply Qb;rotate_left;exact ext_plus _ _)|(apply Qb;rotate_left;assumption)))));have k0:=(hV.ext hE9).cell;have k1:=(hV.ext hE9).lt)))
   go_ret
   exact⟨ret_bool (by rw[HSEA.out,decide_eq_true (show(s.roads.length:Int)=s.cells by omega),q2,q3,q4'];rfl),by(with_reducible(repeat(first|exact Qd _|assumption|apply Qe|apply Qf|exact ext_plus _ _|(apply Qg;rotate_left;(simp<;>omega))|(apply Qb;rotate_left;exact ext_plus _ _)|(apply Qb;rotate_left;assumption))))⟩
  by_cases q5:(s.berths.length:Int)=(s.zones.length:Int)
  rotate_left
  ·skip
   go_enter Tryz.func169,Tryz.ntmps169
   go_wp2_with (first|(go_at_call 98;refine(in_any _ _ _ _).mono ?_;rintro e w' ⟨rfl,rfl⟩)|(go_at_call 137;(refine(HA2.out _ (by(with_reducible(repeat(first|exact Qd _|assumption|apply Qe|apply Qf|exact ext_plus _ _|(apply Qg;rotate_left;(simp<;>omega))|(apply Qb;rotate_left;exact ext_plus _ _)|(apply Qb;rotate_left;assumption)))))).mono ?_;rintro e w' ⟨rfl,hE'⟩;have hE9:Ext ((w.alloc (.cells (seaV s (.slice ar s.roads.length cr) (.slice az s.zones.length cz) (.slice ab s.berths.length cb)) 89)).alloc (.cells (fnV 216 w.heap.size) 75)) w':=(by(with_reducible(repeat(first|exact Qd _|assumption|apply Qe|apply Qf|exact ext_plus _ _|(apply Qg;rotate_left;(simp<;>omega))|(apply Qb;rotate_left;exact ext_plus _ _)|(apply Qb;rotate_left;assumption)))));have k0:=(hV.ext hE9).cell;have k1:=(hV.ext hE9).lt))|(go_at_call 137;(refine(HA3.out _ (by(with_reducible(repeat(first|exact Qd _|assumption|apply Qe|apply Qf|exact ext_plus _ _|(apply Qg;rotate_left;(simp<;>omega))|(apply Qb;rotate_left;exact ext_plus _ _)|(apply Qb;rotate_left;assumption)))))).mono ?_;rintro e w' ⟨rfl,hE'⟩;have hE9:Ext ((w.alloc (.cells (seaV s (.slice ar s.roads.length cr) (.slice az s.zones.length cz) (.slice ab s.berths.length cb)) 89)).alloc (.cells (fnV 216 w.heap.size) 75)) w':=(by(with_reducible(repeat(first|exact Qd _|assumption|apply Qe|apply Qf|exact ext_plus _ _|(apply Qg;rotate_left;(simp<;>omega))|(apply Qb;rotate_left;exact ext_plus _ _)|(apply Qb;rotate_left;assumption)))));have k0:=(hV.ext hE9).cell;have k1:=(hV.ext hE9).lt))|(go_at_call 137;(refine(HA4.out _ (by(with_reducible(repeat(first|exact Qd _|assumption|apply Qe|apply Qf|exact ext_plus _ _|(apply Qg;rotate_left;(simp<;>omega))|(apply Qb;rotate_left;exact ext_plus _ _)|(apply Qb;rotate_left;assumption)))))).mono ?_;rintro e w' ⟨rfl,hE'⟩;have hE9:Ext ((w.alloc (.cells (seaV s (.slice ar s.roads.length cr) (.slice az s.zones.length cz) (.slice ab s.berths.length cb)) 89)).alloc (.cells (fnV 216 w.heap.size) 75)) w':=(by(with_reducible(repeat(first|exact Qd _|assumption|apply Qe|apply Qf|exact ext_plus _ _|(apply Qg;rotate_left;(simp<;>omega))|(apply Qb;rotate_left;exact ext_plus _ _)|(apply Qb;rotate_left;assumption)))));have k0:=(hV.ext hE9).cell;have k1:=(hV.ext hE9).lt)))
   go_ret
   exact⟨ret_bool (by rw[HSEA.out,decide_eq_true (show(s.roads.length:Int)=s.cells by omega),q2,q3,q4,decide_eq_false (show ¬((s.berths.length:Int)=(s.zones.length:Int)) by omega)];rfl),by(with_reducible(repeat(first|exact Qd _|assumption|apply Qe|apply Qf|exact ext_plus _ _|(apply Qg;rotate_left;(simp<;>omega))|(apply Qb;rotate_left;exact ext_plus _ _)|(apply Qb;rotate_left;assumption))))⟩
  by_cases q6:B4=false
  rotate_left
  ·have q6':B4=true:=by simpa using q6
   clear q6
   go_enter Tryz.func169,Tryz.ntmps169
   go_wp2_with (first|(go_at_call 98;refine(in_any _ _ _ _).mono ?_;rintro e w' ⟨rfl,rfl⟩)|(go_at_call 137;(refine(HA2.out _ (by(with_reducible(repeat(first|exact Qd _|assumption|apply Qe|apply Qf|exact ext_plus _ _|(apply Qg;rotate_left;(simp<;>omega))|(apply Qb;rotate_left;exact ext_plus _ _)|(apply Qb;rotate_left;assumption)))))).mono ?_;rintro e w' ⟨rfl,hE'⟩;have hE9:Ext ((w.alloc (.cells (seaV s (.slice ar s.roads.length cr) (.slice az s.zones.length cz) (.slice ab s.berths.length cb)) 89)).alloc (.cells (fnV 216 w.heap.size) 75)) w':=(by(with_reducible(repeat(first|exact Qd _|assumption|apply Qe|apply Qf|exact ext_plus _ _|(apply Qg;rotate_left;(simp<;>omega))|(apply Qb;rotate_left;exact ext_plus _ _)|(apply Qb;rotate_left;assumption)))));have k0:=(hV.ext hE9).cell;have k1:=(hV.ext hE9).lt))|(go_at_call 137;(refine(HA3.out _ (by(with_reducible(repeat(first|exact Qd _|assumption|apply Qe|apply Qf|exact ext_plus _ _|(apply Qg;rotate_left;(simp<;>omega))|(apply Qb;rotate_left;exact ext_plus _ _)|(apply Qb;rotate_left;assumption)))))).mono ?_;rintro e w' ⟨rfl,hE'⟩;have hE9:Ext ((w.alloc (.cells (seaV s (.slice ar s.roads.length cr) (.slice az s.zones.length cz) (.slice ab s.berths.length cb)) 89)).alloc (.cells (fnV 216 w.heap.size) 75)) w':=(by(with_reducible(repeat(first|exact Qd _|assumption|apply Qe|apply Qf|exact ext_plus _ _|(apply Qg;rotate_left;(simp<;>omega))|(apply Qb;rotate_left;exact ext_plus _ _)|(apply Qb;rotate_left;assumption)))));have k0:=(hV.ext hE9).cell;have k1:=(hV.ext hE9).lt))|(go_at_call 137;(refine(HA4.out _ (by(with_reducible(repeat(first|exact Qd _|assumption|apply Qe|apply Qf|exact ext_plus _ _|(apply Qg;rotate_left;(simp<;>omega))|(apply Qb;rotate_left;exact ext_plus _ _)|(apply Qb;rotate_left;assumption)))))).mono ?_;rintro e w' ⟨rfl,hE'⟩;have hE9:Ext ((w.alloc (.cells (seaV s (.slice ar s.roads.length cr) (.slice az s.zones.length cz) (.slice ab s.berths.length cb)) 89)).alloc (.cells (fnV 216 w.heap.size) 75)) w':=(by(with_reducible(repeat(first|exact Qd _|assumption|apply Qe|apply Qf|exact ext_plus _ _|(apply Qg;rotate_left;(simp<;>omega))|(apply Qb;rotate_left;exact ext_plus _ _)|(apply Qb;rotate_left;assumption)))));have k0:=(hV.ext hE9).cell;have k1:=(hV.ext hE9).lt)))
   go_ret
   exact⟨ret_bool (by rw[HSEA.out,decide_eq_true (show(s.roads.length:Int)=s.cells by omega),q2,q3,q4,decide_eq_true (show(s.berths.length:Int)=(s.zones.length:Int) by omega),q6'];rfl),by(with_reducible(repeat(first|exact Qd _|assumption|apply Qe|apply Qf|exact ext_plus _ _|(apply Qg;rotate_left;(simp<;>omega))|(apply Qb;rotate_left;exact ext_plus _ _)|(apply Qb;rotate_left;assumption))))⟩
  by_cases q7:within s.days 1 8=true
  rotate_left
  ·have q7':within s.days 1 8=false:=by simpa using q7
   clear q7
   go_enter Tryz.func169,Tryz.ntmps169
   go_wp2_with (first|(go_at_call 98;refine(in_any _ _ _ _).mono ?_;rintro e w' ⟨rfl,rfl⟩)|(go_at_call 137;(refine(HA2.out _ (by(with_reducible(repeat(first|exact Qd _|assumption|apply Qe|apply Qf|exact ext_plus _ _|(apply Qg;rotate_left;(simp<;>omega))|(apply Qb;rotate_left;exact ext_plus _ _)|(apply Qb;rotate_left;assumption)))))).mono ?_;rintro e w' ⟨rfl,hE'⟩;have hE9:Ext ((w.alloc (.cells (seaV s (.slice ar s.roads.length cr) (.slice az s.zones.length cz) (.slice ab s.berths.length cb)) 89)).alloc (.cells (fnV 216 w.heap.size) 75)) w':=(by(with_reducible(repeat(first|exact Qd _|assumption|apply Qe|apply Qf|exact ext_plus _ _|(apply Qg;rotate_left;(simp<;>omega))|(apply Qb;rotate_left;exact ext_plus _ _)|(apply Qb;rotate_left;assumption)))));have k0:=(hV.ext hE9).cell;have k1:=(hV.ext hE9).lt))|(go_at_call 137;(refine(HA3.out _ (by(with_reducible(repeat(first|exact Qd _|assumption|apply Qe|apply Qf|exact ext_plus _ _|(apply Qg;rotate_left;(simp<;>omega))|(apply Qb;rotate_left;exact ext_plus _ _)|(apply Qb;rotate_left;assumption)))))).mono ?_;rintro e w' ⟨rfl,hE'⟩;have hE9:Ext ((w.alloc (.cells (seaV s (.slice ar s.roads.length cr) (.slice az s.zones.length cz) (.slice ab s.berths.length cb)) 89)).alloc (.cells (fnV 216 w.heap.size) 75)) w':=(by(with_reducible(repeat(first|exact Qd _|assumption|apply Qe|apply Qf|exact ext_plus _ _|(apply Qg;rotate_left;(simp<;>omega))|(apply Qb;rotate_left;exact ext_plus _ _)|(apply Qb;rotate_left;assumption)))));have k0:=(hV.ext hE9).cell;have k1:=(hV.ext hE9).lt))|(go_at_call 137;(refine(HA4.out _ (by(with_reducible(repeat(first|exact Qd _|assumption|apply Qe|apply Qf|exact ext_plus _ _|(apply Qg;rotate_left;(simp<;>omega))|(apply Qb;rotate_left;exact ext_plus _ _)|(apply Qb;rotate_left;assumption)))))).mono ?_;rintro e w' ⟨rfl,hE'⟩;have hE9:Ext ((w.alloc (.cells (seaV s (.slice ar s.roads.length cr) (.slice az s.zones.length cz) (.slice ab s.berths.length cb)) 89)).alloc (.cells (fnV 216 w.heap.size) 75)) w':=(by(with_reducible(repeat(first|exact Qd _|assumption|apply Qe|apply Qf|exact ext_plus _ _|(apply Qg;rotate_left;(simp<;>omega))|(apply Qb;rotate_left;exact ext_plus _ _)|(apply Qb;rotate_left;assumption)))));have k0:=(hV.ext hE9).cell;have k1:=(hV.ext hE9).lt)))
   go_ret
   exact⟨ret_bool (by rw[HSEA.out,decide_eq_true (show(s.roads.length:Int)=s.cells by omega),q2,q3,q4,decide_eq_true (show(s.berths.length:Int)=(s.zones.length:Int) by omega),q6,q7'];rfl),by(with_reducible(repeat(first|exact Qd _|assumption|apply Qe|apply Qf|exact ext_plus _ _|(apply Qg;rotate_left;(simp<;>omega))|(apply Qb;rotate_left;exact ext_plus _ _)|(apply Qb;rotate_left;assumption))))⟩
  go_enter Tryz.func169,Tryz.ntmps169
  go_wp2_with (first|(go_at_call 98;refine(in_any _ _ _ _).mono ?_;rintro e w' ⟨rfl,rfl⟩)|(go_at_call 137;(refine(HA2.out _ (by(with_reducible(repeat(first|exact Qd _|assumption|apply Qe|apply Qf|exact ext_plus _ _|(apply Qg;rotate_left;(simp<;>omega))|(apply Qb;rotate_left;exact ext_plus _ _)|(apply Qb;rotate_left;assumption)))))).mono ?_;rintro e w' ⟨rfl,hE'⟩;have hE9:Ext ((w.alloc (.cells (seaV s (.slice ar s.roads.length cr) (.slice az s.zones.length cz) (.slice ab s.berths.length cb)) 89)).alloc (.cells (fnV 216 w.heap.size) 75)) w':=(by(with_reducible(repeat(first|exact Qd _|assumption|apply Qe|apply Qf|exact ext_plus _ _|(apply Qg;rotate_left;(simp<;>omega))|(apply Qb;rotate_left;exact ext_plus _ _)|(apply Qb;rotate_left;assumption)))));have k0:=(hV.ext hE9).cell;have k1:=(hV.ext hE9).lt))|(go_at_call 137;(refine(HA3.out _ (by(with_reducible(repeat(first|exact Qd _|assumption|apply Qe|apply Qf|exact ext_plus _ _|(apply Qg;rotate_left;(simp<;>omega))|(apply Qb;rotate_left;exact ext_plus _ _)|(apply Qb;rotate_left;assumption)))))).mono ?_;rintro e w' ⟨rfl,hE'⟩;have hE9:Ext ((w.alloc (.cells (seaV s (.slice ar s.roads.length cr) (.slice az s.zones.length cz) (.slice ab s.berths.length cb)) 89)).alloc (.cells (fnV 216 w.heap.size) 75)) w':=(by(with_reducible(repeat(first|exact Qd _|assumption|apply Qe|apply Qf|exact ext_plus _ _|(apply Qg;rotate_left;(simp<;>omega))|(apply Qb;rotate_left;exact ext_plus _ _)|(apply Qb;rotate_left;assumption)))));have k0:=(hV.ext hE9).cell;have k1:=(hV.ext hE9).lt))|(go_at_call 137;(refine(HA4.out _ (by(with_reducible(repeat(first|exact Qd _|assumption|apply Qe|apply Qf|exact ext_plus _ _|(apply Qg;rotate_left;(simp<;>omega))|(apply Qb;rotate_left;exact ext_plus _ _)|(apply Qb;rotate_left;assumption)))))).mono ?_;rintro e w' ⟨rfl,hE'⟩;have hE9:Ext ((w.alloc (.cells (seaV s (.slice ar s.roads.length cr) (.slice az s.zones.length cz) (.slice ab s.berths.length cb)) 89)).alloc (.cells (fnV 216 w.heap.size) 75)) w':=(by(with_reducible(repeat(first|exact Qd _|assumption|apply Qe|apply Qf|exact ext_plus _ _|(apply Qg;rotate_left;(simp<;>omega))|(apply Qb;rotate_left;exact ext_plus _ _)|(apply Qb;rotate_left;assumption)))));have k0:=(hV.ext hE9).cell;have k1:=(hV.ext hE9).lt)))
  go_ret
  exact⟨ret_bool (by rw[HSEA.out,decide_eq_true (show(s.roads.length:Int)=s.cells by omega),q2,q3,q4,decide_eq_true (show(s.berths.length:Int)=(s.zones.length:Int) by omega),q6,q7];rfl),by(with_reducible(repeat(first|exact Qd _|assumption|apply Qe|apply Qf|exact ext_plus _ _|(apply Qg;rotate_left;(simp<;>omega))|(apply Qb;rotate_left;exact ext_plus _ _)|(apply Qb;rotate_left;assumption))))⟩
 ·have q0':within s.cells 1 8=false:=by simpa using q0
  clear q0
  go_enter Tryz.func169,Tryz.ntmps169
  go_wp2_with (first|(go_at_call 98;refine(in_any _ _ _ _).mono ?_;rintro e w' ⟨rfl,rfl⟩))
  go_ret
  exact⟨ret_bool (by unfold seaB;rw[q0'];rfl),by(with_reducible(repeat(first|exact Qd _|assumption|apply Qe|apply Qf|exact ext_plus _ _|(apply Qg;rotate_left;(simp<;>omega))|(apply Qb;rotate_left;exact ext_plus _ _)|(apply Qb;rotate_left;assumption))))⟩
end Go.Proofs.YtgloajbgphcloaaGreat.Fl
namespace Go.Proofs.YtgloajbgphcloaaGreat.Fl
set_option linter.unusedVariables false
set_option linter.unusedSimpArgs false
open Go.RowKit
open Ext renaming alloc → Qe, drew → Qf, refl → Qd, setCell → Qg, trans → Qb
open Lib renaming hid → Qc
def bidC (b:Bid):List Value:=[.int .i64 b.fleet,.int .i64 b.zone,.int .i64 b.start,.int .i64 b.days,.int .i64 b.price]
abbrev Bids (w:World) (v:Value) (xs:List Bid):Prop:=Sls 5 (AtE bidC) w v xs
theorem Bids.ext {w w':World} {v:Value} {xs:List Bid} (h:Bids w v xs) (he:Ext w w'):Bids w' v xs:=Sls.ext (ate_stays _) h he
set_option maxRecDepth 100000 in
set_option maxHeartbeats 4000000 in
theorem bid_any (b:Bid) (zones days:Int) (w:World) (hz:0≤zones∧zones≤1000000) (hd:1≤days∧days≤8) :
  Calls Tryz.prog 182 #[.agg (bidV b),.int .i64 zones,.int .i64 days] w fun e w'=>e= .returned (.bool (bidB zones days b))∧Ext w w':=by
 have hb:bidB zones days b=(within b.fleet 0 9&&within b.zone 0 (zones - 1)&&within b.days 1 days&&within b.start 0 (days - b.days)&&within b.price 0 1000000):=rfl
 have HB:=Qc hb
 clear hb
 by_cases q1:within b.fleet 0 9=true
 rotate_left
 ·have q1':within b.fleet 0 9=false:=by simpa using q1
  clear q1
  go_enter Tryz.func182,Tryz.ntmps182
  go_wp2_with (first|(go_at_call 98;refine(in_any _ _ _ _).mono ?_;rintro e w' ⟨rfl,rfl⟩))
  go_ret
  exact⟨ret_bool (by rw[HB.out,q1'];rfl),by(with_reducible(repeat(first|exact Qd _|assumption|apply Qe|apply Qf|exact ext_plus _ _|(apply Qg;rotate_left;(simp<;>omega))|(apply Qb;rotate_left;exact ext_plus _ _)|(apply Qb;rotate_left;assumption))))⟩
 by_cases q2:within b.zone 0 (zones - 1)=true
 rotate_left
 ·have q2':within b.zone 0 (zones - 1)=false:=by simpa using q2
  clear q2
  go_enter Tryz.func182,Tryz.ntmps182
  go_wp2_with (first|(go_at_call 98;refine(in_any _ _ _ _).mono ?_;rintro e w' ⟨rfl,rfl⟩))
  go_ret
  exact⟨ret_bool (by rw[HB.out,q1,q2'];rfl),by(with_reducible(repeat(first|exact Qd _|assumption|apply Qe|apply Qf|exact ext_plus _ _|(apply Qg;rotate_left;(simp<;>omega))|(apply Qb;rotate_left;exact ext_plus _ _)|(apply Qb;rotate_left;assumption))))⟩
 by_cases q3:within b.days 1 days=true
 rotate_left
 ·have q3':within b.days 1 days=false:=by simpa using q3
  clear q3
  go_enter Tryz.func182,Tryz.ntmps182
  go_wp2_with (first|(go_at_call 98;refine(in_any _ _ _ _).mono ?_;rintro e w' ⟨rfl,rfl⟩))
  go_ret
  exact⟨ret_bool (by rw[HB.out,q1,q2,q3'];rfl),by(with_reducible(repeat(first|exact Qd _|assumption|apply Qe|apply Qf|exact ext_plus _ _|(apply Qg;rotate_left;(simp<;>omega))|(apply Qb;rotate_left;exact ext_plus _ _)|(apply Qb;rotate_left;assumption))))⟩
 have hdd:=within_iff.1 q3
 by_cases q4:within b.start 0 (days - b.days)=true
 rotate_left
 ·have q4':within b.start 0 (days - b.days)=false:=by simpa using q4
  clear q4
  go_enter Tryz.func182,Tryz.ntmps182
  go_wp2_with (first|(go_at_call 98;refine(in_any _ _ _ _).mono ?_;rintro e w' ⟨rfl,rfl⟩))
  go_ret
  exact⟨ret_bool (by rw[HB.out,q1,q2,q3,q4'];rfl),by(with_reducible(repeat(first|exact Qd _|assumption|apply Qe|apply Qf|exact ext_plus _ _|(apply Qg;rotate_left;(simp<;>omega))|(apply Qb;rotate_left;exact ext_plus _ _)|(apply Qb;rotate_left;assumption))))⟩
 by_cases q5:within b.price 0 1000000=true
 rotate_left
 ·have q5':within b.price 0 1000000=false:=by simpa using q5
  clear q5
  go_enter Tryz.func182,Tryz.ntmps182
  go_wp2_with (first|(go_at_call 98;refine(in_any _ _ _ _).mono ?_;rintro e w' ⟨rfl,rfl⟩))
  go_ret
  exact⟨ret_bool (by rw[HB.out,q1,q2,q3,q4,q5'];rfl),by(with_reducible(repeat(first|exact Qd _|assumption|apply Qe|apply Qf|exact ext_plus _ _|(apply Qg;rotate_left;(simp<;>omega))|(apply Qb;rotate_left;exact ext_plus _ _)|(apply Qb;rotate_left;assumption))))⟩
 go_enter Tryz.func182,Tryz.ntmps182
 go_wp2_with (first|(go_at_call 98;refine(in_any _ _ _ _).mono ?_;rintro e w' ⟨rfl,rfl⟩))
 go_ret
 exact⟨ret_bool (by rw[HB.out,q1,q2,q3,q4,q5];rfl),by(with_reducible(repeat(first|exact Qd _|assumption|apply Qe|apply Qf|exact ext_plus _ _|(apply Qg;rotate_left;(simp<;>omega))|(apply Qb;rotate_left;exact ext_plus _ _)|(apply Qb;rotate_left;assumption))))⟩
set_option maxRecDepth 100000 in
set_option maxHeartbeats 4000000 in
theorem indexBids (fid:Nat) (caps:Array Value) (p:Bid→Bool) (v:Value) (xs:List (Bid)) (w:World) (hv:Sls 5 (AtE bidC) w v xs) (hn:xs.length≤1000000)
  (eg:∀args w,(callFunc fid args).run Tryz.prog w= .ok (.enter fid args) w)
  (hf:∀x w',Ext w w'→Calls Tryz.prog fid (#[.agg #[.int .i64 x.fleet,.int .i64 x.zone,.int .i64 x.start,.int .i64 x.days,.int .i64 x.price]]++caps) w' fun e w''=>e= .returned (.bool (p x))∧Ext w' w'') :
  Calls Tryz.prog 226 #[v,.func (.func fid) #[] caps] w fun e w'=>∃k:Int,e= .returned (.int .i64 k)∧decide (0≤k)=xs.any p∧Ext w w':=by
 obtain⟨a,cap,rfl,hx⟩:=hv
 have HX:=Qc hx
 have HF:=Qc hf
 have HEG:=Qc eg
 clear hx hf eg
 go_enter Tryz.func226,Tryz.ntmps226
 go_wp2
 go_loopw [5,8] (fun _ i wr=>∃k:Nat,k≤xs.length∧i= .int .i64 k∧(xs.take k).any p=false∧Ext w wr) (fun _ i _=>xs.length - (intOf i).toNat)
 case atStart=>exact⟨0,Nat.zero_le _,rfl,rfl,Qd _⟩
 case round =>
  rename World=>wr
  obtain⟨k,hk,rfl,hgood,hE⟩:=hrel
  have HG:=Qc hgood
  clear hgood
  by_cases hlt:k<xs.length
  ·obtain⟨b,off,rfl,hb,h0⟩:=HX.out k hlt
   have h0':=ate_stays _ _ _ _ _ _ hE hb h0
   have q0:=h0' 0 _ rfl
   have q1:=h0' 1 _ rfl
   have q2:=h0' 2 _ rfl
   have q3:=h0' 3 _ rfl
   have q4:=h0' 4 _ rfl
   simp only[Nat.add_zero]at q0
   clear h0'
   have hbl:=Nat.lt_of_lt_of_le hb hE.size
   have hs:(xs.take (k+1)).any p=p xs[k]:=by rw[List.take_succ_eq_append_getElem hlt,List.any_append,HG.out];simp
   have hm:xs[k]∈xs:=List.getElem_mem hlt
   have hba:=HF.out xs[k] wr hE
   obtain⟨x,hxx⟩:∃x,xs[k]=x:=⟨_,rfl⟩
   rw[hxx]at hs hm hba q0 q1 q2 q3 q4
   obtain⟨B,hB⟩:∃B,p x=B:=⟨_,rfl⟩
   rw[hB]at hs hba
   have HBA:=Qc hba
   have HS:=Qc hs
   have HM:=Qc hm
   have HBB:=Qc hB
   clear h0 hxx hba hs hm hB
   have heg:=HEG.out
   cases B with
   | true =>
    go_wp2
    refine HBA.out.mono ?_
    rintro e w' ⟨rfl,hE'⟩
    go_wp2
    go_ret
    have ha:xs.any p=true:=by rw[List.any_eq_true];exact⟨x,HM.out,HBB.out⟩
    exact⟨_,rfl,by rw[ha];simp,hE.trans hE'⟩
   | false =>
    go_wp2
    refine HBA.out.mono ?_
    rintro e w' ⟨rfl,hE'⟩
    go_wp2
    go_roundw
    case rel=>exact⟨k+1,by omega,by go_num,HS.out,hE.trans hE'⟩
    case measure=>simp[intOf];omega
  ·obtain rfl:k=xs.length:=by omega
   go_wp2
   go_ret
   have h:=HG.out
   rw[List.take_length]at h
   exact⟨_,rfl,by rw[h];decide,hE⟩
theorem containsBids (fid:Nat) (caps:Array Value) (p:Bid→Bool) (v:Value) (xs:List (Bid)) (w:World) (hv:Sls 5 (AtE bidC) w v xs) (hn:xs.length≤1000000)
  (eg:∀args w,(callFunc fid args).run Tryz.prog w= .ok (.enter fid args) w)
  (hf:∀x w',Ext w w'→Calls Tryz.prog fid (#[.agg #[.int .i64 x.fleet,.int .i64 x.zone,.int .i64 x.start,.int .i64 x.days,.int .i64 x.price]]++caps) w' fun e w''=>e= .returned (.bool (p x))∧Ext w' w'') :
  Calls Tryz.prog 180 #[v,.func (.func fid) #[] caps] w fun e w'=>e= .returned (.bool (xs.any p))∧Ext w w':=by
 have hv':=hv
 obtain⟨a,cap,rfl,_⟩:=hv'
 have HB:=Qc (indexBids fid caps p _ xs w hv hn eg hf)
 clear eg hf
 go_enter Tryz.func180,Tryz.ntmps180
 go_wp2_with (first|(go_at_call 226;refine HB.out.mono ?_;rintro e w' ⟨k,rfl,hk,hE'⟩))
 all_goals(go_ret;exact⟨rfl,hE'⟩)
abbrev mktV (s:Sea) (vr vz vb vl:Value):Array Value:=#[.int .i64 s.cells,vr,vz,vb,.int .i64 s.days,vl]
set_option maxRecDepth 100000 in
set_option maxHeartbeats 4000000 in
theorem given1_any (x:Bid) (s:Sea) (vr vz vb vl:Value) (b:Nat) (w:World) (az:Option Addr) (cz:Nat) (hvz:vz= .slice az s.zones.length cz) (hz1:s.zones.length≤1000000) (hd:1≤s.days∧s.days≤8) (hb:Blk w b (mktV s vr vz vb vl) 234) :
  Calls Tryz.prog 181 #[.agg #[.int .i64 x.fleet,.int .i64 x.zone,.int .i64 x.start,.int .i64 x.days,.int .i64 x.price],.pointer (some ⟨b,0,none⟩)] w fun e w'=>e= .returned (.bool (!bidB s.zones.length s.days x))∧Ext w w':=by
 subst hvz
 have k0:=hb.cell
 have k1:=hb.lt
 have HBI:=Qc (fun W=>bid_any x s.zones.length s.days W (by omega) hd)
 clear hd
 go_enter Tryz.func181,Tryz.ntmps181
 go_wp2_with (first|(go_at_call 182;refine(HBI.out _).mono ?_;rintro e w' ⟨rfl,hE1⟩))
 go_ret
 exact⟨rfl,by(with_reducible(repeat(first|exact Qd _|assumption|apply Qe|apply Qf|exact ext_plus _ _|(apply Qg;rotate_left;(simp<;>omega))|(apply Qb;rotate_left;exact ext_plus _ _)|(apply Qb;rotate_left;assumption))))⟩
end Go.Proofs.YtgloajbgphcloaaGreat.Fl
namespace Go.Proofs.YtgloajbgphcloaaGreat.Fl
set_option linter.unusedVariables false
set_option linter.unusedSimpArgs false
open Go.RowKit
open Blk renaming new' → Qh
open Ext renaming alloc → Qe, drew → Qf, refl → Qd, setCell → Qg, trans → Qb
open Lib renaming hid → Qc
set_option maxRecDepth 100000 in
set_option maxHeartbeats 8000000 in
theorem given_any (s:Sea) (l:List Bid) (vr vz vb vl:Value) (w:World) (hR:Ints w vr s.roads) (hZ:Ints w vz s.zones) (hB:Ints w vb s.berths) (hL:Bids w vl l)
  (hr1:s.roads.length≤1000000) (hz1:s.zones.length≤1000000) (hb1:s.berths.length≤1000000) (hl1:l.length≤1000000) :
  Calls Tryz.prog 111 #[.agg (mktV s vr vz vb vl),.bool false,.bool true] w fun e w'=>e= .returned (.int .i64 (codeOf s l))∧Ext w w':=by
 have HVA:=Qc (fun W hE=>valid_any s vr vz vb W (hR.ext hE) (hZ.ext hE) (hB.ext hE) hr1 hz1 hb1)
 obtain⟨ar,cr,rfl,_⟩:=hR
 obtain⟨az,cz,rfl,_⟩:=hZ
 obtain⟨ab,cb,rfl,_⟩:=hB
 have hL':=hL
 obtain⟨al,cl,rfl,_⟩:=hL'
 obtain⟨nr,hnr⟩:∃n,s.roads.length=n:=⟨_,rfl⟩
 obtain⟨nb,hnb⟩:∃n,s.berths.length=n:=⟨_,rfl⟩
 simp only[hnb,hnr]at HVA ⊢
 clear hnb hnr hb1 hr1
 obtain⟨SB,hSB⟩:∃B,seaB s=B:=⟨_,rfl⟩
 obtain⟨AH,hAH⟩:∃B,l.any (fun x=> !bidB s.zones.length s.days x)=B:=⟨_,rfl⟩
 have hal:l.all (bidB s.zones.length s.days)= !AH:=by rw[← hAH,any_not,Bool.not_not]
 have hco:=fun W (hE:Ext (w.alloc (.cells (mktV s (.slice ar nr cr) (.slice az s.zones.length cz) (.slice ab nb cb) (.slice al l.length cl)) 234)) W) (hd:1≤s.days∧s.days≤8)=>containsBids 181 #[.pointer (some ⟨w.heap.size,0,none⟩)] (fun x=> !bidB s.zones.length s.days x) _ l W (hL.ext (((Qd w).alloc _).trans hE)) hl1 (enters_of Tryz.func181 (by kernel_rfl) rfl)
  (fun x w' hE'=>given1_any x s _ _ _ _ _ w' az cz rfl hz1 hd (((Qh rfl _ _).ext hE).ext hE'))
 simp only[hAH]at hco
 have HCP:=Qc hco
 have HVB:=HVA.out
 simp only[hSB]at HVB
 have HSB:=Qc hSB
 have HAH:=Qc hal
 clear hco hSB hAH hal HVA hL
 have HVA:=Qc HVB
 clear HVB
 by_cases h12:10<l.length
 ·have hgc:codeOf s l=3:=by unfold codeOf;rw[if_pos h12]
  have HGC:=Qc hgc
  clear hgc
  have h12':(10:Int)<(l.length:Int):=by omega
  go_enter Tryz.func111,Tryz.ntmps111
  go_wp2_with (first|(go_at_call 169;refine(HVA.out _ (by(with_reducible(repeat(first|exact Qd _|assumption|apply Qe|apply Qf|exact ext_plus _ _|(apply Qg;rotate_left;(simp<;>omega))|(apply Qb;rotate_left;exact ext_plus _ _)|(apply Qb;rotate_left;assumption)))))).mono ?_;rintro e w' ⟨rfl,hE1⟩;have k2:=((Qh rfl _ _:Blk (w.alloc (.cells (mktV s (.slice ar nr cr) (.slice az s.zones.length cz) (.slice ab nb cb) (.slice al l.length cl)) 234)) w.heap.size (mktV s (.slice ar nr cr) (.slice az s.zones.length cz) (.slice ab nb cb) (.slice al l.length cl)) 234).ext hE1).cell;have k3:=((Qh rfl _ _:Blk (w.alloc (.cells (mktV s (.slice ar nr cr) (.slice az s.zones.length cz) (.slice ab nb cb) (.slice al l.length cl)) 234)) w.heap.size (mktV s (.slice ar nr cr) (.slice az s.zones.length cz) (.slice ab nb cb) (.slice al l.length cl)) 234).ext hE1).lt)|(go_at_call 180;refine(HCO.out _ hE1).mono ?_;rintro e w'' ⟨rfl,hE'⟩))
  go_ret
  exact⟨by rw[HGC.out];rfl,by(with_reducible(repeat(first|exact Qd _|assumption|apply Qe|apply Qf|exact ext_plus _ _|(apply Qg;rotate_left;(simp<;>omega))|(apply Qb;rotate_left;exact ext_plus _ _)|(apply Qb;rotate_left;assumption))))⟩
 have h12':¬(10:Int)<(l.length:Int):=by omega
 have hgc:codeOf s l=if SB&& !AH then 0 else 2:=by
  unfold codeOf
  rw[if_neg h12,HSB.out,HAH.out]
 have HGC:=Qc hgc
 clear hgc h12
 cases SB with
 | false =>
  go_enter Tryz.func111,Tryz.ntmps111
  go_wp2_with (first|(go_at_call 169;refine(HVA.out _ (by(with_reducible(repeat(first|exact Qd _|assumption|apply Qe|apply Qf|exact ext_plus _ _|(apply Qg;rotate_left;(simp<;>omega))|(apply Qb;rotate_left;exact ext_plus _ _)|(apply Qb;rotate_left;assumption)))))).mono ?_;rintro e w' ⟨rfl,hE1⟩;have k2:=((Qh rfl _ _:Blk (w.alloc (.cells (mktV s (.slice ar nr cr) (.slice az s.zones.length cz) (.slice ab nb cb) (.slice al l.length cl)) 234)) w.heap.size (mktV s (.slice ar nr cr) (.slice az s.zones.length cz) (.slice ab nb cb) (.slice al l.length cl)) 234).ext hE1).cell;have k3:=((Qh rfl _ _:Blk (w.alloc (.cells (mktV s (.slice ar nr cr) (.slice az s.zones.length cz) (.slice ab nb cb) (.slice al l.length cl)) 234)) w.heap.size (mktV s (.slice ar nr cr) (.slice az s.zones.length cz) (.slice ab nb cb) (.slice al l.length cl)) 234).ext hE1).lt)|(go_at_call 180;refine(HCO.out _ hE1).mono ?_;rintro e w'' ⟨rfl,hE'⟩))
  go_ret
  exact⟨by rw[HGC.out];rfl,by(with_reducible(repeat(first|exact Qd _|assumption|apply Qe|apply Qf|exact ext_plus _ _|(apply Qg;rotate_left;(simp<;>omega))|(apply Qb;rotate_left;exact ext_plus _ _)|(apply Qb;rotate_left;assumption))))⟩
 | true =>
  have HCO:=Qc (fun W hE=>HCP.out W hE (ok_of HSB.out).days)
  cases AH with
  | true =>
   go_enter Tryz.func111,Tryz.ntmps111
   go_wp2_with (first|(go_at_call 169;refine(HVA.out _ (by(with_reducible(repeat(first|exact Qd _|assumption|apply Qe|apply Qf|exact ext_plus _ _|(apply Qg;rotate_left;(simp<;>omega))|(apply Qb;rotate_left;exact ext_plus _ _)|(apply Qb;rotate_left;assumption)))))).mono ?_;rintro e w' ⟨rfl,hE1⟩;have k2:=((Qh rfl _ _:Blk (w.alloc (.cells (mktV s (.slice ar nr cr) (.slice az s.zones.length cz) (.slice ab nb cb) (.slice al l.length cl)) 234)) w.heap.size (mktV s (.slice ar nr cr) (.slice az s.zones.length cz) (.slice ab nb cb) (.slice al l.length cl)) 234).ext hE1).cell;have k3:=((Qh rfl _ _:Blk (w.alloc (.cells (mktV s (.slice ar nr cr) (.slice az s.zones.length cz) (.slice ab nb cb) (.slice al l.length cl)) 234)) w.heap.size (mktV s (.slice ar nr cr) (.slice az s.zones.length cz) (.slice ab nb cb) (.slice al l.length cl)) 234).ext hE1).lt)|(go_at_call 180;refine(HCO.out _ hE1).mono ?_;rintro e w'' ⟨rfl,hE'⟩))
   go_ret
   exact⟨by rw[HGC.out];rfl,by(with_reducible(repeat(first|exact Qd _|assumption|apply Qe|apply Qf|exact ext_plus _ _|(apply Qg;rotate_left;(simp<;>omega))|(apply Qb;rotate_left;exact ext_plus _ _)|(apply Qb;rotate_left;assumption))))⟩
  | false =>
   go_enter Tryz.func111,Tryz.ntmps111
   go_wp2_with (first|(go_at_call 169;refine(HVA.out _ (by(with_reducible(repeat(first|exact Qd _|assumption|apply Qe|apply Qf|exact ext_plus _ _|(apply Qg;rotate_left;(simp<;>omega))|(apply Qb;rotate_left;exact ext_plus _ _)|(apply Qb;rotate_left;assumption)))))).mono ?_;rintro e w' ⟨rfl,hE1⟩;have k2:=((Qh rfl _ _:Blk (w.alloc (.cells (mktV s (.slice ar nr cr) (.slice az s.zones.length cz) (.slice ab nb cb) (.slice al l.length cl)) 234)) w.heap.size (mktV s (.slice ar nr cr) (.slice az s.zones.length cz) (.slice ab nb cb) (.slice al l.length cl)) 234).ext hE1).cell;have k3:=((Qh rfl _ _:Blk (w.alloc (.cells (mktV s (.slice ar nr cr) (.slice az s.zones.length cz) (.slice ab nb cb) (.slice al l.length cl)) 234)) w.heap.size (mktV s (.slice ar nr cr) (.slice az s.zones.length cz) (.slice ab nb cb) (.slice al l.length cl)) 234).ext hE1).lt)|(go_at_call 180;refine(HCO.out _ hE1).mono ?_;rintro e w'' ⟨rfl,hE'⟩))
   go_ret
   exact⟨by rw[HGC.out];rfl,by(with_reducible(repeat(first|exact Qd _|assumption|apply Qe|apply Qf|exact ext_plus _ _|(apply Qg;rotate_left;(simp<;>omega))|(apply Qb;rotate_left;exact ext_plus _ _)|(apply Qb;rotate_left;assumption))))⟩
theorem code_sea {s:Sea} {l:List Bid} (h:codeOf s l=0):Ok s:=ok_of (code_zero h).1
end Go.Proofs.YtgloajbgphcloaaGreat.Fl
