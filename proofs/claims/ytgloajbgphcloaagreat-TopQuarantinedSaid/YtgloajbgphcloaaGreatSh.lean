/- The ship's pass, without the program. The ship: small functions of the program and of the document. The ship: whether a pass is as defined, by the document and by the program. The ship: whether it can go through. The ship: whether it surely can go through; the hours of a day; whether it goes. The ship: whether it goes through in a call. -/
import Derived.Test.YtgloajbgphcloaaGreatCo
import Derived.Test.YtgloajbgphcloaaGreatDr
import Derived.Shelf.Abstract
namespace Go.Proofs.YtgloajbgphcloaaGreat.Sh
set_option linter.unusedVariables false
set_option linter.unusedSimpArgs false
open Go.RowKit
open Bool renaming and_eq_true → Qa
structure Pass where
 tides:List Int
 depth:Int
 draft:Int
 swell:List (Int×Int)
 ll:Int
 lh:Int
def within (x lo hi:Int):Bool:=decide (lo≤x)&&decide (x≤hi)
def spanB (l h lo hi:Int):Bool:=decide (lo≤l)&&decide (l≤h)&&decide (h≤hi)
def passB (p:Pass):Bool:=p.tides.all (fun t=>within t (-1000) 1000)&&p.swell.all (fun s=>spanB s.1 s.2 0 1000)&&(within p.tides.length 1 50&&within p.depth 0 1000&&within p.draft 0 1000&&within p.swell.length 1 60&&spanB p.ll p.lh 0 23)
def dayB (p:Pass) (d:Int):Bool:=within d 0 ((p.swell.length:Int) - 1)
def callB (p:Pass) (d h:Int):Bool:=dayB p d&&within h 0 23
def tideAt (p:Pass) (d h:Int):Int:=p.tides.getD ((d*24+h).tmod p.tides.length).toNat 0
def goesB (p:Pass) (d h s:Int):Bool:=within h p.ll p.lh&&decide (p.draft≤p.depth+tideAt p d h - s)
def swAt (p:Pass) (d:Nat):Int×Int:=p.swell.getD d (0,0)
structure Ok (p:Pass):Prop where
 tidesN:1≤p.tides.length∧p.tides.length≤50
 tides:∀t∈p.tides,-1000≤t∧t≤1000
 depth:0≤p.depth∧p.depth≤1000
 draft:0≤p.draft∧p.draft≤1000
 swellN:1≤p.swell.length∧p.swell.length≤60
 swell:∀s∈p.swell,0≤s.1∧s.1≤s.2∧s.2≤1000
 light:0≤p.ll∧p.ll≤p.lh∧p.lh≤23
theorem within_iff {x lo hi:Int} :within x lo hi=true↔lo≤x∧x≤hi:=by simp[within]
theorem spanB_iff {l h lo hi:Int} :spanB l h lo hi=true↔lo≤l∧l≤h∧h≤hi:=by simp[spanB,and_assoc]
theorem ok_of {p:Pass} (h:passB p=true):Ok p:=by
 unfold passB at h
 simp only[Qa,within_iff,spanB_iff,List.all_eq_true]at h
 obtain⟨⟨h1,h2⟩,⟨⟨⟨h3,h4⟩,h5⟩,h6⟩,h7⟩:=h
 exact⟨by omega,h1,h4,h5,by omega,h2,h7⟩
theorem call_iff {p:Pass} {d h:Int} :callB p d h=true↔(0≤d∧d<p.swell.length)∧0≤h∧h≤23:=by
 unfold callB dayB
 simp only[Qa,within_iff]
 omega
theorem sw_at {p:Pass} {d:Nat} (h:d<p.swell.length):swAt p d=p.swell[d]:=by simp[swAt,List.getD_eq_getElem?_getD,h]
theorem sw_bd {p:Pass} (O:Ok p) {d:Nat} (h:d<p.swell.length):0≤(swAt p d).1∧(swAt p d).1≤(swAt p d).2∧(swAt p d).2≤1000:=by
 rw[sw_at h];exact O.swell _ (List.getElem_mem h)
theorem mod_bd {p:Pass} (O:Ok p) {d h:Int} (hd:0≤d) (hh:0≤h):∃k:Nat,(d*24+h).tmod p.tides.length=k∧k<p.tides.length:=by
 have h1:=O.tidesN
 have h2:0≤d*24+h:=by omega
 have h3:=Int.tmod_nonneg (p.tides.length:Int) h2
 have h4:=Int.tmod_lt_of_pos (d*24+h) (show(0:Int)<p.tides.length by omega)
 exact⟨((d*24+h).tmod p.tides.length).toNat,by omega,by omega⟩
theorem tide_at {p:Pass} {d h:Int} {k:Nat} (e:(d*24+h).tmod p.tides.length=k) (hk:k<p.tides.length):tideAt p d h=p.tides[k]:=by
 unfold tideAt
 rw[e]
 simp[List.getD_eq_getElem?_getD,hk]
def hoursL (p:Pass) (d s:Int):List Int:=((List.range 24).filter fun h=>goesB p d (h:Nat) s).map fun h=>((h:Nat):Int)
theorem hours_mem {p:Pass} {d s h:Int} (h0:0≤h) (h1:h≤23):h∈hoursL p d s↔goesB p d h s=true:=by
 obtain⟨k,rfl⟩:=Int.eq_ofNat_of_zero_le h0
 unfold hoursL
 simp only[List.mem_map,List.mem_filter,List.mem_range]
 constructor
 ·rintro⟨j,⟨_,hj⟩,e⟩
  have:j=k:=by omega
  subst this;exact hj
 ·intro hg
  exact⟨k,⟨by omega,hg⟩,rfl⟩
theorem goes_mono {p:Pass} {d h s s':Int} (hs:s'≤s) (hg:goesB p d h s=true):goesB p d h s'=true:=by
 unfold goesB at *
 simp only[Qa,decide_eq_true_eq]at *
 exact⟨hg.1,by omega⟩
end Go.Proofs.YtgloajbgphcloaaGreat.Sh
namespace Go.Proofs.YtgloajbgphcloaaGreat.Sh
set_option linter.unusedVariables false
set_option linter.unusedSimpArgs false
open Go.RowKit
open Bool renaming eq_iff_iff → Qb
open Ext renaming refl → Qc, setCell → Qd, trans → Qe
open Lib renaming hid → Qf
def spC (s:Int×Int):List Value:=[.int .i64 s.1,.int .i64 s.2]
abbrev Spans (w:World) (v:Value) (xs:List (Int×Int)):Prop:=Sls 2 (AtE spC) w v xs
theorem Spans.ext {w w':World} {v:Value} {xs:List (Int×Int)} (h:Spans w v xs) (he:Ext w w'):Spans w' v xs:=Sls.ext (ate_stays _) h he
abbrev passV (p:Pass) (vt vs:Value):Array Value:=#[vt,.int .i64 p.depth,.int .i64 p.draft,vs,.int .i64 p.ll,.int .i64 p.lh]
abbrev lookV (p:Pass) (vt vs:Value) (s:Int):Array Value:=#[vt,.int .i64 p.depth,.int .i64 p.draft,vs,.int .i64 p.ll,.int .i64 p.lh,.int .i64 s]
theorem span_cells {w:World} {b o:Nat} {x:Int×Int} (h:AtE spC w b o x):w.cell? ⟨b,o,none⟩=some (.int .i64 x.1)∧w.cell? ⟨b,o+1,none⟩=some (.int .i64 x.2):=⟨h 0 _ rfl,h 1 _ rfl⟩
theorem rin_any (x lo hi:Int) (w:World) :
  Calls Tryz.prog 48 #[.int .i64 x,.int .i64 lo,.int .i64 hi] w fun e w'=>e= .returned (.bool (within x lo hi))∧w=w':=by
 go_enter Tryz.func48,Tryz.ntmps48
 go_wp2
 all_goals(go_ret;exact⟨ret_bool (by rw[Qb];simp[within];omega),rfl⟩)
theorem in_any (x lo hi:Int) (w:World) :
  Calls Tryz.prog 65 #[.int .i64 x,.int .i64 lo,.int .i64 hi] w fun e w'=>e= .returned (.bool (within x lo hi))∧w=w':=by
 go_enter Tryz.func65,Tryz.ntmps65
 go_wp2
 all_goals(go_ret;exact⟨ret_bool (by rw[Qb];simp[within];omega),rfl⟩)
theorem rspan_any (a b lo hi:Int) (w:World) :
  Calls Tryz.prog 49 #[.agg #[.int .i64 a,.int .i64 b],.int .i64 lo,.int .i64 hi] w fun e w'=>e= .returned (.bool (spanB a b lo hi))∧Ext w w':=by
 go_enter Tryz.func49,Tryz.ntmps49
 go_wp2
 all_goals(go_ret;exact⟨ret_bool (by rw[Qb];simp[spanB];omega),(Qc _).alloc _⟩)
theorem span_any (a b lo hi:Int) (w:World) :
  Calls Tryz.prog 83 #[.agg #[.int .i64 a,.int .i64 b],.int .i64 lo,.int .i64 hi] w fun e w'=>e= .returned (.bool (spanB a b lo hi))∧Ext w w':=by
 go_enter Tryz.func83,Tryz.ntmps83
 go_wp2
 all_goals(go_ret;exact⟨ret_bool (by rw[Qb];simp[spanB];omega),(Qc _).alloc _⟩)
theorem day_any (p:Pass) (vt:Value) (sa:Option Addr) (cs:Nat) (d:Int) (w:World) (hn:p.swell.length≤1000000) :
  Calls Tryz.prog 50 #[.agg (passV p vt (.slice sa p.swell.length cs)),.int .i64 d] w fun e w'=>e= .returned (.bool (dayB p d))∧Ext w w':=by
 go_enter Tryz.func50,Tryz.ntmps50
 go_wp2_with (first|(go_at_call 48;refine(rin_any _ _ _ _).mono ?_;rintro e w' ⟨rfl,rfl⟩))
 go_ret
 exact⟨rfl,by(with_reducible(repeat(first|exact Qc _|assumption|apply Ext.alloc|apply Ext.drew|exact ext_plus _ _|(apply Qd;rotate_left;(simp<;>omega))|(apply Qe;rotate_left;exact ext_plus _ _)|(apply Qe;rotate_left;assumption))))⟩
theorem call_any (p:Pass) (vt:Value) (sa:Option Addr) (cs:Nat) (d h:Int) (w:World) (hn:p.swell.length≤1000000) :
  Calls Tryz.prog 11 #[.agg (passV p vt (.slice sa p.swell.length cs)),.agg #[.int .i64 d,.int .i64 h]] w fun e w'=>e= .returned (.bool (callB p d h))∧Ext w w':=by
 have hcb:callB p d h=(dayB p d&&within h 0 23):=rfl
 have HCB:=Qf hcb
 have HDA:=Qf (fun W=>day_any p vt sa cs d W hn)
 clear hcb
 obtain⟨B,hB⟩:∃B,dayB p d=B:=⟨_,rfl⟩
 rw[hB]at HCB HDA
 clear hB
 cases B with
 | false =>
  go_enter Tryz.func11,Tryz.ntmps11
  go_wp2_with (first|(go_at_call 50;refine(HDA.out _).mono ?_;rintro e w1 ⟨rfl,hE1⟩)|(go_at_call 48;refine(rin_any _ _ _ _).mono ?_;rintro e w' ⟨rfl,rfl⟩))
  go_ret
  exact⟨ret_bool (by rw[HCB.out];rfl),by(with_reducible(repeat(first|exact Qc _|assumption|apply Ext.alloc|apply Ext.drew|exact ext_plus _ _|(apply Qd;rotate_left;(simp<;>omega))|(apply Qe;rotate_left;exact ext_plus _ _)|(apply Qe;rotate_left;assumption))))⟩
 | true =>
  go_enter Tryz.func11,Tryz.ntmps11
  go_wp2_with (first|(go_at_call 50;refine(HDA.out _).mono ?_;rintro e w1 ⟨rfl,hE1⟩;have hb:=(((Blk.new' (by simp) _ _:Blk ((w.alloc (.cells (passV p vt (.slice sa p.swell.length cs)) 33)).alloc (.cells #[.int .i64 d,.int .i64 h] 35)) (w.heap.size+1) #[.int .i64 d,.int .i64 h] 35)).ext hE1);have k0:=hb.cell;have k1:=hb.lt)|(go_at_call 48;refine(rin_any _ _ _ _).mono ?_;rintro e w' ⟨rfl,rfl⟩))
  go_ret
  exact⟨ret_bool (by rw[HCB.out];rfl),by(with_reducible(repeat(first|exact Qc _|assumption|apply Ext.alloc|apply Ext.drew|exact ext_plus _ _|(apply Qd;rotate_left;(simp<;>omega))|(apply Qe;rotate_left;exact ext_plus _ _)|(apply Qe;rotate_left;assumption))))⟩
set_option maxRecDepth 100000 in
set_option maxHeartbeats 4000000 in
theorem has_any (xs:List Int) (v:Value) (n:Int) (w:World) (hv:Ints w v xs) (hn:xs.length≤1000000) :
  Calls Tryz.prog 16 #[v,.int .i64 n] w fun e w'=>e= .returned (.bool (decide (n∈xs)))∧Ext w w':=by
 obtain⟨a,c,rfl,hx⟩:=hv
 have HX:=Qf hx
 clear hx
 go_enter Tryz.func16,Tryz.ntmps16
 go_wp2
 go_loopw [5] (fun i wr=>∃k:Nat,k≤xs.length∧i= .int .i64 k∧n ∉ xs.take k∧Ext w wr) (fun i _=>xs.length - (intOf i).toNat)
 case atStart=>exact⟨0,Nat.zero_le _,rfl,by simp,Qc _⟩
 case round =>
  rename World=>wr
  obtain⟨k,hk,rfl,hg,hE⟩:=hrel
  have HG:=Qf hg
  clear hg
  by_cases hlt:k<xs.length
  ·obtain⟨b,off,rfl,hb,h0⟩:=HX.out k hlt
   have k0:=(hE.cells.1 _ _ hb).trans h0
   have k1:=Nat.lt_of_lt_of_le hb hE.size
   have hts:xs.take (k+1)=xs.take k++[xs[k]]:=List.take_succ_eq_append_getElem hlt
   have hm:xs[k]∈xs:=List.getElem_mem hlt
   obtain⟨x,hxx⟩:∃x,xs[k]=x:=⟨_,rfl⟩
   rw[hxx]at k0 hts hm
   have HT:=Qf hts
   have HM:=Qf hm
   clear h0 hb hxx hts hm
   by_cases he:x=n
   ·subst he
    go_wp2
    go_ret
    exact⟨ret_bool (by simpa using HM.out),hE⟩
   ·have hb:(x == n)=false:=by simpa using he
    go_wp2
    go_roundw
    case rel=>exact⟨k+1,by omega,by go_num,by rw[HT.out,List.mem_append,not_or];exact⟨HG.out,by simpa using Ne.symm he⟩,hE⟩
    case measure=>simp[intOf];omega
  ·obtain rfl:k=xs.length:=by omega
   go_wp2
   go_ret
   have:=HG.out
   rw[List.take_length]at this
   exact⟨ret_bool (by simpa using this),hE⟩
end Go.Proofs.YtgloajbgphcloaaGreat.Sh
namespace Go.Proofs.YtgloajbgphcloaaGreat.Sh
set_option linter.unusedVariables false
set_option linter.unusedSimpArgs false
open Go.RowKit
open Ext renaming alloc → Qk, drew → Ql, refl → Qc, setCell → Qd, trans → Qe
open Lib renaming hid → Qf
open List renaming take_length → Qj, take_succ_eq_append_getElem → Qi
open Nat renaming lt_of_lt_of_le → Qh, zero_le → Qg
set_option maxRecDepth 100000 in
set_option maxHeartbeats 4000000 in
theorem indexSpans (fid:Nat) (caps:Array Value) (p:Int×Int→Bool) (v:Value) (xs:List (Int×Int)) (w:World) (hv:Sls 2 (AtE spC) w v xs) (hn:xs.length≤1000000)
  (eg:∀args w,(callFunc fid args).run Tryz.prog w= .ok (.enter fid args) w)
  (hf:∀x w',Ext w w'→Calls Tryz.prog fid (#[.agg #[.int .i64 x.1,.int .i64 x.2]]++caps) w' fun e w''=>e= .returned (.bool (p x))∧Ext w' w'') :
  Calls Tryz.prog 204 #[v,.func (.func fid) #[] caps] w fun e w'=>∃k:Int,e= .returned (.int .i64 k)∧decide (0≤k)=xs.any p∧Ext w w':=by
 obtain⟨a,cap,rfl,hx⟩:=hv
 have HX:=Qf hx
 have HF:=Qf hf
 have HEG:=Qf eg
 clear hx hf eg
 go_enter Tryz.func204,Tryz.ntmps204
 go_wp2
 go_loopw [5,8] (fun _ i wr=>∃k:Nat,k≤xs.length∧i= .int .i64 k∧(xs.take k).any p=false∧Ext w wr) (fun _ i _=>xs.length - (intOf i).toNat)
 case atStart=>exact⟨0,Qg _,rfl,rfl,Qc _⟩
 case round =>
  rename World=>wr
  obtain⟨k,hk,rfl,hgood,hE⟩:=hrel
  have HG:=Qf hgood
  clear hgood
  by_cases hlt:k<xs.length
  ·obtain⟨b,off,rfl,hb,h0⟩:=HX.out k hlt
   have h0':=ate_stays _ _ _ _ _ _ hE hb h0
   have q0:=h0' 0 _ rfl
   have q1:=h0' 1 _ rfl
   simp only[Nat.add_zero]at q0
   clear h0'
   have hbl:=Qh hb hE.size
   have hs:(xs.take (k+1)).any p=p xs[k]:=by rw[Qi hlt,List.any_append,HG.out];simp
   have hm:xs[k]∈xs:=List.getElem_mem hlt
   have hba:=HF.out xs[k] wr hE
   obtain⟨x,hxx⟩:∃x,xs[k]=x:=⟨_,rfl⟩
   rw[hxx]at hs hm hba q0 q1
   obtain⟨B,hB⟩:∃B,p x=B:=⟨_,rfl⟩
   rw[hB]at hs hba
   have HBA:=Qf hba
   have HS:=Qf hs
   have HM:=Qf hm
   have HBB:=Qf hB
   clear h0 hxx hba hs hm hB
   have heg:=HEG.out
   cases B with
   | true =>
    go_wp2
    refine HBA.out.mono ?_
    rintro e w' ⟨rfl,hE'⟩
    go_wp2
    go_ret
    have ha:xs.any p=true:=by rw[List.any_eq_true];exact⟨x,HM.out,HBB.out⟩
    exact⟨_,rfl,by rw[ha];simp,hE.trans hE'⟩
   | false =>
    go_wp2
    refine HBA.out.mono ?_
    rintro e w' ⟨rfl,hE'⟩
    go_wp2
    go_roundw
    case rel=>exact⟨k+1,by omega,by go_num,HS.out,hE.trans hE'⟩
    case measure=>simp[intOf];omega
  ·obtain rfl:k=xs.length:=by omega
   go_wp2
   go_ret
   have h:=HG.out
   rw[Qj]at h
   exact⟨_,rfl,by rw[h];decide,hE⟩
theorem containsSpans (fid:Nat) (caps:Array Value) (p:Int×Int→Bool) (v:Value) (xs:List (Int×Int)) (w:World) (hv:Sls 2 (AtE spC) w v xs) (hn:xs.length≤1000000)
  (eg:∀args w,(callFunc fid args).run Tryz.prog w= .ok (.enter fid args) w)
  (hf:∀x w',Ext w w'→Calls Tryz.prog fid (#[.agg #[.int .i64 x.1,.int .i64 x.2]]++caps) w' fun e w''=>e= .returned (.bool (p x))∧Ext w' w'') :
  Calls Tryz.prog 139 #[v,.func (.func fid) #[] caps] w fun e w'=>e= .returned (.bool (xs.any p))∧Ext w w':=by
 have hv':=hv
 obtain⟨a,cap,rfl,_⟩:=hv'
 have HB:=Qf (indexSpans fid caps p _ xs w hv hn eg hf)
 clear eg hf
 go_enter Tryz.func139,Tryz.ntmps139
 go_wp2_with (first|(go_at_call 204;refine HB.out.mono ?_;rintro e w' ⟨k,rfl,hk,hE'⟩))
 all_goals(go_ret;exact⟨rfl,hE'⟩)
theorem all_step {α:Type} {p:α→Bool} {xs:List α} {k:Nat} (h:k<xs.length) (hg:(xs.take k).all p=true):(xs.take (k+1)).all p=p xs[k]:=by
 rw[Qi h,List.all_append,hg];simp
theorem all_wrong {α:Type} {p:α→Bool} {xs:List α} {k:Nat} (h:k<xs.length) (hp:p xs[k]=false):xs.all p=false:=by
 rw[List.all_eq_false];exact⟨_,List.getElem_mem h,by rw[hp];decide⟩
set_option maxRecDepth 100000 in
set_option maxHeartbeats 8000000 in
theorem pass_any (p:Pass) (vt vs:Value) (w:World) (hT:Ints w vt p.tides) (hS:Spans w vs p.swell) (ht1:p.tides.length≤1000000) (hs1:p.swell.length≤1000000) :
  Calls Tryz.prog 10 #[.agg (passV p vt vs)] w fun e w'=>e= .returned (.bool (passB p))∧Ext w w':=by
 obtain⟨ta,ct,rfl,hxt⟩:=hT
 obtain⟨sa,cs,rfl,hxs⟩:=hS
 have HXT:=Qf hxt
 have HXS:=Qf hxs
 clear hxt hxs
 go_enter Tryz.func10,Tryz.ntmps10
 go_wp2
 obtain⟨n0,hn0⟩:∃n,w.heap.size=n:=⟨_,rfl⟩
 obtain⟨w1,hw1⟩:∃y,w.alloc (.cells (passV p (.slice ta p.tides.length ct) (.slice sa p.swell.length cs)) 33)=y:=⟨_,rfl⟩
 have hV1:Blk w1 n0 (passV p (.slice ta p.tides.length ct) (.slice sa p.swell.length cs)) 33:=by rw[← hw1];exact Blk.new' hn0.symm _ _
 have hE1:Ext w w1:=by rw[← hw1];(with_reducible(repeat(first|exact Qc _|assumption|apply Qk|apply Ql|exact ext_plus _ _|(apply Qd;rotate_left;(simp<;>omega))|(apply Qe;rotate_left;exact ext_plus _ _)|(apply Qe;rotate_left;assumption))))
 simp only[hw1,hn0]
 clear hw1 hn0
 go_loopw [3] (fun i wr=>∃k:Nat,k≤p.tides.length∧i= .int .i64 k∧(p.tides.take k).all (fun t=>within t (-1000) 1000)=true∧Ext w1 wr) (fun i _=>p.tides.length - (intOf i).toNat)
 case atStart=>exact⟨0,Qg _,rfl,rfl,Qc _⟩
 case round =>
  rename World=>wr
  obtain⟨k,hk,rfl,hg,hE⟩:=hrel
  have HG:=Qf hg
  clear hg
  have hV:=hV1.ext hE
  have k0:=hV.cell
  have k1:=hV.lt
  by_cases hlt:k<p.tides.length
  ·obtain⟨b,off,rfl,hb,h0⟩:=HXT.out k hlt
   have hEw:=hE1.trans hE
   have k2:=(hEw.cells.1 _ _ hb).trans h0
   have k3:=Qh hb hEw.size
   have hs:=all_step hlt HG.out
   have hbad:=fun h=>all_wrong (p:=fun t=>within t (-1000) 1000) hlt h
   obtain⟨x,hxx⟩:∃x,p.tides[k]=x:=⟨_,rfl⟩
   rw[hxx]at k2 hs hbad
   obtain⟨B,hB⟩:∃B,within x (-1000) 1000=B:=⟨_,rfl⟩
   simp only[hB]at hs hbad
   have HS:=Qf hs
   have HBAD:=Qf hbad
   clear h0 hxx hs hbad
   cases B with
   | true =>
    go_wp2_with (first|(go_at_call 48;refine(rin_any _ _ _ _).mono ?_;rintro e w' ⟨rfl,rfl⟩))
    go_roundw
    case rel=>exact⟨k+1,by omega,by go_num,HS.out,hE⟩
    case measure=>simp[intOf];omega
   | false =>
    go_wp2_with (first|(go_at_call 48;refine(rin_any _ _ _ _).mono ?_;rintro e w' ⟨rfl,rfl⟩))
    go_ret
    exact⟨ret_bool (by unfold passB;rw[HBAD.out (by trivial)];rfl),by(with_reducible(repeat(first|exact Qc _|assumption|apply Qk|apply Ql|exact ext_plus _ _|(apply Qd;rotate_left;(simp<;>omega))|(apply Qe;rotate_left;exact ext_plus _ _)|(apply Qe;rotate_left;assumption))))⟩
  ·obtain rfl:k=p.tides.length:=by omega
   have HT:=Qf (show p.tides.all (fun t=>within t (-1000) 1000)=true by have:=HG.out;rwa[Qj]at this)
   go_wp2
   clear k0 k1 HG
   rename World=>w2
   go_loopw [4] (fun i wr=>∃k:Nat,k≤p.swell.length∧i= .int .i64 k∧(p.swell.take k).all (fun s=>spanB s.1 s.2 0 1000)=true∧Ext w1 wr) (fun i _=>p.swell.length - (intOf i).toNat)
   case atStart=>exact⟨0,Qg _,rfl,rfl,hE⟩
   case round =>
    clear hV hE
    rename World=>wr
    obtain⟨k,hk,rfl,hg,hE⟩:=hrel
    have HG:=Qf hg
    clear hg
    have hV:=hV1.ext hE
    have k0:=hV.cell
    have k1:=hV.lt
    by_cases hlt:k<p.swell.length
    ·obtain⟨b,off,rfl,hb,h0⟩:=HXS.out k hlt
     have hEw:=hE1.trans hE
     have k3:=Qh hb hEw.size
     have hs:=all_step hlt HG.out
     have hbad:=fun h=>all_wrong (p:=fun s:Int×Int=>spanB s.1 s.2 0 1000) hlt h
     have hAt:=ate_stays _ _ _ _ _ _ hEw hb h0
     obtain⟨x,hxx⟩:∃x,p.swell[k]=x:=⟨_,rfl⟩
     rw[hxx]at hs hbad hAt
     obtain⟨k2,k4⟩:=span_cells hAt
     obtain⟨B,hB⟩:∃B,spanB x.1 x.2 0 1000=B:=⟨_,rfl⟩
     simp only[hB]at hs hbad
     have HS:=Qf hs
     have HBAD:=Qf hbad
     clear h0 hxx hs hbad hAt
     cases B with
     | true =>
      go_wp2_with (first|(go_at_call 49;refine(rspan_any _ _ _ _ _).mono ?_;rintro e w' ⟨rfl,hE'⟩))
      go_roundw
      case rel=>exact⟨k+1,by omega,by go_num,HS.out,hE.trans hE'⟩
      case measure=>simp[intOf];omega
     | false =>
      go_wp2_with (first|(go_at_call 49;refine(rspan_any _ _ _ _ _).mono ?_;rintro e w' ⟨rfl,hE'⟩))
      go_ret
      exact⟨ret_bool (by unfold passB;rw[HT.out,HBAD.out (by trivial)];rfl),by(with_reducible(repeat(first|exact Qc _|assumption|apply Qk|apply Ql|exact ext_plus _ _|(apply Qd;rotate_left;(simp<;>omega))|(apply Qe;rotate_left;exact ext_plus _ _)|(apply Qe;rotate_left;assumption))))⟩
    ·obtain rfl:k=p.swell.length:=by omega
     have HS:=Qf (show p.swell.all (fun s=>spanB s.1 s.2 0 1000)=true by have:=HG.out;rwa[Qj]at this)
     have hpb:passB p=(within p.tides.length 1 50&&within p.depth 0 1000&&within p.draft 0 1000&&within p.swell.length 1 60&&spanB p.ll p.lh 0 23):=by
      unfold passB;rw[HT.out,HS.out];rfl
     have HPB:=Qf hpb
     clear hpb
     have hdone:True:=trivial
     by_cases q1:within p.tides.length 1 50=true
     rotate_left
     ·have q1':within p.tides.length 1 50=false:=by simpa using q1
      clear q1
      go_wp2_with (first|(go_at_call 48;refine(rin_any _ _ _ _).mono ?_;rintro e w' ⟨rfl,rfl⟩)|(go_at_call 49;refine(rspan_any _ _ _ _ _).mono ?_;rintro e w' ⟨rfl,hE'⟩))
      go_ret
      exact⟨ret_bool (by rw[HPB.out,q1'];rfl),by(with_reducible(repeat(first|exact Qc _|assumption|apply Qk|apply Ql|exact ext_plus _ _|(apply Qd;rotate_left;(simp<;>omega))|(apply Qe;rotate_left;exact ext_plus _ _)|(apply Qe;rotate_left;assumption))))⟩
     by_cases q2:within p.depth 0 1000=true
     rotate_left
     ·have q2':within p.depth 0 1000=false:=by simpa using q2
      clear q2
      go_wp2_with (first|(go_at_call 48;refine(rin_any _ _ _ _).mono ?_;rintro e w' ⟨rfl,rfl⟩)|(go_at_call 49;refine(rspan_any _ _ _ _ _).mono ?_;rintro e w' ⟨rfl,hE'⟩))
      go_ret
      exact⟨ret_bool (by rw[HPB.out,q1,q2'];rfl),by(with_reducible(repeat(first|exact Qc _|assumption|apply Qk|apply Ql|exact ext_plus _ _|(apply Qd;rotate_left;(simp<;>omega))|(apply Qe;rotate_left;exact ext_plus _ _)|(apply Qe;rotate_left;assumption))))⟩
     by_cases q3:within p.draft 0 1000=true
     rotate_left
     ·have q3':within p.draft 0 1000=false:=by simpa using q3
      clear q3
      go_wp2_with (first|(go_at_call 48;refine(rin_any _ _ _ _).mono ?_;rintro e w' ⟨rfl,rfl⟩)|(go_at_call 49;refine(rspan_any _ _ _ _ _).mono ?_;rintro e w' ⟨rfl,hE'⟩))
      go_ret
      exact⟨ret_bool (by rw[HPB.out,q1,q2,q3'];rfl),by(with_reducible(repeat(first|exact Qc _|assumption|apply Qk|apply Ql|exact ext_plus _ _|(apply Qd;rotate_left;(simp<;>omega))|(apply Qe;rotate_left;exact ext_plus _ _)|(apply Qe;rotate_left;assumption))))⟩
     by_cases q4:within p.swell.length 1 60=true
     rotate_left
     ·have q4':within p.swell.length 1 60=false:=by simpa using q4
      clear q4
      go_wp2_with (first|(go_at_call 48;refine(rin_any _ _ _ _).mono ?_;rintro e w' ⟨rfl,rfl⟩)|(go_at_call 49;refine(rspan_any _ _ _ _ _).mono ?_;rintro e w' ⟨rfl,hE'⟩))
      go_ret
      exact⟨ret_bool (by rw[HPB.out,q1,q2,q3,q4'];rfl),by(with_reducible(repeat(first|exact Qc _|assumption|apply Qk|apply Ql|exact ext_plus _ _|(apply Qd;rotate_left;(simp<;>omega))|(apply Qe;rotate_left;exact ext_plus _ _)|(apply Qe;rotate_left;assumption))))⟩
     by_cases q5:spanB p.ll p.lh 0 23=true
     rotate_left
     ·have q5':spanB p.ll p.lh 0 23=false:=by simpa using q5
      clear q5
      go_wp2_with (first|(go_at_call 48;refine(rin_any _ _ _ _).mono ?_;rintro e w' ⟨rfl,rfl⟩)|(go_at_call 49;refine(rspan_any _ _ _ _ _).mono ?_;rintro e w' ⟨rfl,hE'⟩))
      go_ret
      exact⟨ret_bool (by rw[HPB.out,q1,q2,q3,q4,q5'];rfl),by(with_reducible(repeat(first|exact Qc _|assumption|apply Qk|apply Ql|exact ext_plus _ _|(apply Qd;rotate_left;(simp<;>omega))|(apply Qe;rotate_left;exact ext_plus _ _)|(apply Qe;rotate_left;assumption))))⟩
     go_wp2_with (first|(go_at_call 48;refine(rin_any _ _ _ _).mono ?_;rintro e w' ⟨rfl,rfl⟩)|(go_at_call 49;refine(rspan_any _ _ _ _ _).mono ?_;rintro e w' ⟨rfl,hE'⟩))
     go_ret
     exact⟨ret_bool (by rw[HPB.out,q1,q2,q3,q4,q5];rfl),by(with_reducible(repeat(first|exact Qc _|assumption|apply Qk|apply Ql|exact ext_plus _ _|(apply Qd;rotate_left;(simp<;>omega))|(apply Qe;rotate_left;exact ext_plus _ _)|(apply Qe;rotate_left;assumption))))⟩
end Go.Proofs.YtgloajbgphcloaaGreat.Sh
namespace Go.Proofs.YtgloajbgphcloaaGreat.Sh
set_option linter.unusedVariables false
set_option linter.unusedSimpArgs false
open Go.RowKit
open Blk renaming new' → Qm
open Ext renaming alloc → Qk, drew → Ql, refl → Qc, setCell → Qd, trans → Qe
open Lib renaming hid → Qf
theorem valid1_any (n:Int) (w:World) :
  Calls Tryz.prog 138 #[.int .i64 n] w fun e w'=>e= .returned (.bool (!within n (-1000) 1000))∧w=w':=by
 go_enter Tryz.func138,Tryz.ntmps138
 go_wp2_with (first|(go_at_call 65;refine(in_any _ _ _ _).mono ?_;rintro e w' ⟨rfl,rfl⟩))
 go_ret
 exact⟨rfl,by trivial⟩
theorem valid2_any (a b:Int) (w:World) :
  Calls Tryz.prog 140 #[.agg #[.int .i64 a,.int .i64 b]] w fun e w'=>e= .returned (.bool (!spanB a b 0 1000))∧Ext w w':=by
 go_enter Tryz.func140,Tryz.ntmps140
 go_wp2_with (first|(go_at_call 83;refine(span_any _ _ _ _ _).mono ?_;rintro e w' ⟨rfl,hE'⟩))
 go_ret
 exact⟨rfl,by(with_reducible(repeat(first|exact Qc _|assumption|apply Qk|apply Ql|exact ext_plus _ _|(apply Qd;rotate_left;(simp<;>omega))|(apply Qe;rotate_left;exact ext_plus _ _)|(apply Qe;rotate_left;assumption))))⟩
set_option maxRecDepth 100000 in
set_option maxHeartbeats 8000000 in
theorem valid_true (p:Pass) (vt vs:Value) (w:World) (O:Ok p) (hT:Ints w vt p.tides) (hS:Spans w vs p.swell) :
  Calls Tryz.prog 64 #[.agg (passV p vt vs)] w fun e w'=>e= .returned (.bool true)∧Ext w w':=by
 have a1:p.tides.any (fun n=> !within n (-1000) 1000)=false:=by
  rw[List.any_eq_false];intro x hx
  have:=within_iff.2 (O.tides x hx)
  simp[this]
 have a2:p.swell.any (fun s:Int×Int=> !spanB s.1 s.2 0 1000)=false:=by
  rw[List.any_eq_false];intro x hx
  have:=spanB_iff.2 (O.swell x hx)
  simp[this]
 have h1:=O.tidesN
 have h2:=O.swellN
 have HC1:=Qf (fun W hE=>(a1▸containsInts 138 #[] (fun n=> !within n (-1000) 1000) vt p.tides W (hT.ext hE) (by omega) (enters_of Tryz.func138 (by kernel_rfl) rfl) (fun x w2 hE2=>(valid1_any x w2).mono (by rintro e w'' ⟨rfl,rfl⟩;exact⟨rfl,Qc _⟩)):Calls Tryz.prog 137 #[vt,.func (.func 138) #[] #[]] W fun e w'=>e= .returned (.bool false)∧Ext W w'))
 have HC2:=Qf (fun W hE=>(a2▸containsSpans 140 #[] (fun s:Int×Int=> !spanB s.1 s.2 0 1000) vs p.swell W (hS.ext hE) (by omega) (enters_of Tryz.func140 (by kernel_rfl) rfl) (fun x w2 hE2=>valid2_any x.1 x.2 w2):Calls Tryz.prog 139 #[vs,.func (.func 140) #[] #[]] W fun e w'=>e= .returned (.bool false)∧Ext W w'))
 have q1:within p.tides.length 1 50=true:=within_iff.2 (by omega)
 have q2:within p.swell.length 1 60=true:=within_iff.2 (by omega)
 have q3:=within_iff.2 O.depth
 have q4:=within_iff.2 O.draft
 have q5:=spanB_iff.2 O.light
 obtain⟨ta,ct,rfl,_⟩:=hT
 obtain⟨sa,cs,rfl,_⟩:=hS
 obtain⟨n1,hn1⟩:∃n,p.tides.length=n:=⟨_,rfl⟩
 obtain⟨n2,hn2⟩:∃n,p.swell.length=n:=⟨_,rfl⟩
 simp only[hn1,hn2]at HC1 HC2 q1 q2 ⊢
 clear hn1 hn2 a1 a2 h1 h2 O
 have hV:∀W,Ext (w.alloc (.cells (passV p (.slice ta n1 ct) (.slice sa n2 cs)) 33)) W→Blk W w.heap.size (passV p (.slice ta n1 ct) (.slice sa n2 cs)) 33:=fun W hE=>(Qm rfl _ _).ext hE
 go_enter Tryz.func64,Tryz.ntmps64
 go_wp2_with (first|(go_at_call 65;refine(in_any _ _ _ _).mono ?_;rintro e w' ⟨rfl,rfl⟩)|(go_at_call 83;refine(span_any _ _ _ _ _).mono ?_;rintro e w' ⟨rfl,hE1⟩;have k0:=(hV _ hE1).cell;have k1:=(hV _ hE1).lt)|(go_at_call 137;refine(HC1.out _ (by(with_reducible(repeat(first|exact Qc _|assumption|apply Qk|apply Ql|exact ext_plus _ _|(apply Qd;rotate_left;(simp<;>omega))|(apply Qe;rotate_left;exact ext_plus _ _)|(apply Qe;rotate_left;assumption)))))).mono ?_;rintro e w2 ⟨rfl,hE2⟩;have hE12:=hE1.trans hE2;have k2:=(hV _ hE12).cell;have k3:=(hV _ hE12).lt)|(go_at_call 139;refine(HC2.out _ (by(with_reducible(repeat(first|exact Qc _|assumption|apply Qk|apply Ql|exact ext_plus _ _|(apply Qd;rotate_left;(simp<;>omega))|(apply Qe;rotate_left;exact ext_plus _ _)|(apply Qe;rotate_left;assumption)))))).mono ?_;rintro e w3 ⟨rfl,hE3⟩))
 go_ret
 exact⟨rfl,by(with_reducible(repeat(first|exact Qc _|assumption|apply Qk|apply Ql|exact ext_plus _ _|(apply Qd;rotate_left;(simp<;>omega))|(apply Qe;rotate_left;exact ext_plus _ _)|(apply Qe;rotate_left;assumption))))⟩
theorem light_any (p:Pass) (vt vs:Value) (s d h:Int) (w:World) :
  Calls Tryz.prog 141 #[.agg (lookV p vt vs s),.agg #[.int .i64 d,.int .i64 h]] w fun e w'=>e= .returned (.bool (within h p.ll p.lh))∧Ext w w':=by
 go_enter Tryz.func141,Tryz.ntmps141
 go_wp2_with (first|(go_at_call 65;refine(in_any _ _ _ _).mono ?_;rintro e w' ⟨rfl,rfl⟩))
 go_ret
 exact⟨rfl,by(with_reducible(repeat(first|exact Qc _|assumption|apply Qk|apply Ql|exact ext_plus _ _|(apply Qd;rotate_left;(simp<;>omega))|(apply Qe;rotate_left;exact ext_plus _ _)|(apply Qe;rotate_left;assumption))))⟩
set_option maxRecDepth 100000 in
set_option maxHeartbeats 8000000 in
theorem deep_any (p:Pass) (vt vs:Value) (s d h:Int) (w:World) (O:Ok p) (hd:0≤d∧d≤1000) (hh:0≤h∧h≤1000) (hs:0≤s∧s≤1000) (hT:Ints w vt p.tides) :
  Calls Tryz.prog 142 #[.agg (lookV p vt vs s),.agg #[.int .i64 d,.int .i64 h]] w fun e w'=>e= .returned (.bool (decide (p.draft≤p.depth+tideAt p d h - s)))∧Ext w w':=by
 obtain⟨k,hk,hkl⟩:=mod_bd O hd.1 hh.1
 have hti:=tide_at hk hkl
 have htb:=O.tides _ (List.getElem_mem hkl)
 rw[← hti]at htb
 obtain⟨ta,ct,rfl,hx⟩:=hT
 obtain⟨b,off,rfl,hb,h0⟩:=hx k hkl
 rw[← hti]at h0
 obtain⟨T,hTT⟩:∃T,tideAt p d h=T:=⟨_,rfl⟩
 rw[hTT]at htb h0 ⊢
 have hn:=O.tidesN
 have hdp:=O.depth
 have hdr:=O.draft
 obtain⟨n,hnn⟩:∃n,p.tides.length=n:=⟨_,rfl⟩
 rw[hnn]at hk hkl hn ⊢
 have hw1:IntKind.i64.wrap (d*24+h)=d*24+h:=by rw[IntKind.wrap_i64];omega
 have hnz:¬((n:Int)=0):=by omega
 have hpc:=plus_cell
 clear hti hTT hnn hx O
 go_enter Tryz.func142,Tryz.ntmps142
 go_wp2
 obtain⟨n0,hn0⟩:∃n,w.heap.size=n:=⟨_,rfl⟩
 obtain⟨w1,hw1⟩:∃y,(w.alloc (.cells (lookV p (.slice (some ⟨b,off,none⟩) n ct) vs s) 161)).alloc (.cells #[.int .i64 d,.int .i64 h] 35)=y:=⟨_,rfl⟩
 have hV1:Blk w1 n0 (lookV p (.slice (some ⟨b,off,none⟩) n ct) vs s) 161:=by rw[← hw1];exact(Qm hn0.symm _ _).alloc _
 have hC1:Blk w1 (n0+1) #[.int .i64 d,.int .i64 h] 35:=by rw[← hw1];exact Qm (by simp[hn0]) _ _
 have hE1:Ext w w1:=by rw[← hw1];(with_reducible(repeat(first|exact Qc _|assumption|apply Qk|apply Ql|exact ext_plus _ _|(apply Qd;rotate_left;(simp<;>omega))|(apply Qe;rotate_left;exact ext_plus _ _)|(apply Qe;rotate_left;assumption))))
 have k0:=hV1.cell
 have k1:=hV1.lt
 have k2:=hC1.cell
 have k3:=hC1.lt
 have k4:=(hE1.cells.1 _ _ hb).trans h0
 have k5:=Nat.lt_of_lt_of_le hb hE1.size
 simp only[hw1,hn0]
 clear hw1 hn0 h0 hb
 refine wp_region_ext 16 (fun _ _ d _ _ h=>by cases d<;>exact h) (by kernel_rfl) (by kernel_rfl) (by kernel_rfl) (by kernel_rfl) ?_
 simp only[List.take_succ_cons,List.take_zero,List.drop_succ_cons,List.drop_zero]
 repeat(any_goals(first|go_big_quiet_step(fail)|quiet_step(fail)))
 all_goals(refine wpQuiet_nil ?_;intro w2 hE2)
 have g0:=(hV1.ext hE2).cell
 have g1:=(hV1.ext hE2).lt
 clear k0 k1 k2 k3 k4 k5
 go_wp2
 go_ret
 exact⟨rfl,hE1.trans hE2⟩
set_option maxRecDepth 100000 in
set_option maxHeartbeats 8000000 in
theorem open_any (p:Pass) (vt vs:Value) (s d h:Int) (w:World) (O:Ok p) (hd:0≤d∧d≤1000) (hh:0≤h∧h≤1000) (hs:0≤s∧s≤1000) (hT:Ints w vt p.tides) :
  Calls Tryz.prog 67 #[.agg (lookV p vt vs s),.agg #[.int .i64 d,.int .i64 h]] w fun e w'=>e= .returned (.bool (goesB p d h s))∧Ext w w':=by
 have HL:=Qf (fun W=>light_any p vt vs s d h W)
 have HD:=Qf (fun W hE=>deep_any p vt vs s d h W O hd hh hs (hT.ext hE))
 have hg:goesB p d h s=(within h p.ll p.lh&&decide (p.draft≤p.depth+tideAt p d h - s)):=rfl
 obtain⟨B1,hB1⟩:∃B,within h p.ll p.lh=B:=⟨_,rfl⟩
 obtain⟨B2,hB2⟩:∃B,decide (p.draft≤p.depth+tideAt p d h - s)=B:=⟨_,rfl⟩
 rw[hB1,hB2]at hg
 simp only[hB1]at HL
 simp only[hB2]at HD
 have HG:=Qf hg
 clear hB1 hB2 hg O hd hh hs
 obtain⟨ta,ct,rfl,_⟩:=hT
 have hi0:∀(A B:Value) w,(Instr.index 269 (.agg #[A,B]) (.int .i64 0)).run Tryz.prog w= .ok A w:=fun _ _ _=>by kernel_rfl
 have hi1:∀(A B:Value) w,(Instr.index 269 (.agg #[A,B]) (.int .i64 1)).run Tryz.prog w= .ok B w:=fun _ _ _=>by kernel_rfl
 go_enter Tryz.func67,Tryz.ntmps67
 go_wp2
 obtain⟨n0,hn0⟩:∃n,w.heap.size=n:=⟨_,rfl⟩
 obtain⟨w1,hw1⟩:∃y,(w.alloc (.cells (lookV p (.slice ta p.tides.length ct) vs s) 161)).alloc (.cells #[.int .i64 d,.int .i64 h] 35)=y:=⟨_,rfl⟩
 have hC1:Blk w1 (n0+1) #[.int .i64 d,.int .i64 h] 35:=by rw[← hw1];exact Qm (by simp[hn0]) _ _
 have hE1:Ext w w1:=by rw[← hw1];(with_reducible(repeat(first|exact Qc _|assumption|apply Qk|apply Ql|exact ext_plus _ _|(apply Qd;rotate_left;(simp<;>omega))|(apply Qe;rotate_left;exact ext_plus _ _)|(apply Qe;rotate_left;assumption))))
 simp only[hw1,hn0]
 clear hw1 hn0
 go_loopw [12] (fun i wr=>∃k:Nat,k≤2∧i= .int .i64 k∧(1≤k→B1=true)∧(2≤k→B2=true)∧Ext w1 wr) (fun i _=>2 - (intOf i).toNat)
 case atStart=>exact⟨0,Nat.zero_le _,rfl,fun h=>by omega,fun h=>by omega,Qc _⟩
 case round =>
  rename World=>wr
  obtain⟨k,hk,rfl,hb1,hb2,hE⟩:=hrel
  have k2:=(hC1.ext hE).cell
  have k3:=(hC1.ext hE).lt
  obtain rfl|rfl|rfl:k=0∨k=1∨k=2:=by omega
  ·clear hb1 hb2 hk
   cases B1 with
   | true =>
    go_wp2_with (first|(go_at_call 141;refine(HL.out _).mono ?_;rintro e w' ⟨rfl,hE'⟩))
    go_roundw
    case rel=>exact⟨1,by omega,rfl,fun _=>by trivial,fun h=>by omega,hE.trans hE'⟩
    case measure=>simp[intOf]
   | false =>
    go_wp2_with (first|(go_at_call 141;refine(HL.out _).mono ?_;rintro e w' ⟨rfl,hE'⟩))
    go_ret
    exact⟨ret_bool (by rw[HG.out];rfl),by(with_reducible(repeat(first|exact Qc _|assumption|apply Qk|apply Ql|exact ext_plus _ _|(apply Qd;rotate_left;(simp<;>omega))|(apply Qe;rotate_left;exact ext_plus _ _)|(apply Qe;rotate_left;assumption))))⟩
  ·have e1:B1=true:=hb1 (by omega)
   subst e1
   clear hb1 hb2 hk
   cases B2 with
   | true =>
    go_wp2_with (first|(go_at_call 142;refine(HD.out _ (by(with_reducible(repeat(first|exact Qc _|assumption|apply Qk|apply Ql|exact ext_plus _ _|(apply Qd;rotate_left;(simp<;>omega))|(apply Qe;rotate_left;exact ext_plus _ _)|(apply Qe;rotate_left;assumption)))))).mono ?_;rintro e w' ⟨rfl,hE'⟩))
    go_roundw
    case rel=>exact⟨2,by omega,rfl,fun _=>by trivial,fun h=>by trivial,hE.trans hE'⟩
    case measure=>simp[intOf]
   | false =>
    go_wp2_with (first|(go_at_call 142;refine(HD.out _ (by(with_reducible(repeat(first|exact Qc _|assumption|apply Qk|apply Ql|exact ext_plus _ _|(apply Qd;rotate_left;(simp<;>omega))|(apply Qe;rotate_left;exact ext_plus _ _)|(apply Qe;rotate_left;assumption)))))).mono ?_;rintro e w' ⟨rfl,hE'⟩))
    go_ret
    exact⟨ret_bool (by rw[HG.out];rfl),by(with_reducible(repeat(first|exact Qc _|assumption|apply Qk|apply Ql|exact ext_plus _ _|(apply Qd;rotate_left;(simp<;>omega))|(apply Qe;rotate_left;exact ext_plus _ _)|(apply Qe;rotate_left;assumption))))⟩
  ·have e1:B1=true:=hb1 (by omega)
   have e2:B2=true:=hb2 (by omega)
   subst e1 e2
   clear hb1 hb2 hk
   go_wp2
   go_ret
   exact⟨ret_bool (by rw[HG.out];rfl),by(with_reducible(repeat(first|exact Qc _|assumption|apply Qk|apply Ql|exact ext_plus _ _|(apply Qd;rotate_left;(simp<;>omega))|(apply Qe;rotate_left;exact ext_plus _ _)|(apply Qe;rotate_left;assumption))))⟩
end Go.Proofs.YtgloajbgphcloaaGreat.Sh
namespace Go.Proofs.YtgloajbgphcloaaGreat.Sh
set_option linter.unusedVariables false
set_option linter.unusedSimpArgs false
open Go.RowKit
open Blk renaming new' → Qm
open Ext renaming alloc → Qk, drew → Ql, refl → Qc, setCell → Qd, trans → Qe
open Lib renaming hid → Qf
open List renaming drop_succ_cons → Qp, drop_zero → Qq, take_succ_cons → Qn, take_zero → Qo
open Nat renaming le_trans → Qr, lt_of_lt_of_le → Qh
structure Two (w:World) (base:Nat) (e:TypeId) (s:Nat) (va vb:Value) (n m:Nat) (la lb:List Value):Prop where
 a:w.ownsRow base e s va n la
 b:w.ownsRow base e s vb m lb
 ne:∀q,va.ownBlock=some q→vb.ownBlock≠some q
theorem Two.ext {w w':World} {base:Nat} {e:TypeId} {s:Nat} {va vb:Value} {n m:Nat} {la lb:List Value} (h:Two w base e s va vb n m la lb) (hE:Ext w w'):Two w' base e s va vb n m la lb :=
 ⟨own_ext h.a hE,own_ext h.b hE,h.ne⟩
theorem Two.push_a {w w':World} {base:Nat} {e:TypeId} {s:Nat} {va vb va':Value} {n m n':Nat} {la lb la':List Value} (h:Two w base e s va vb n m la lb) (ho:w'.ownsRow base e s va' n' la') (hg:w.grownBy w' va.ownBlock) (hat:va'.ownBlock=va.ownBlock∨va'.ownBlock=some w.heap.size):Two w' base e s va' vb n' m la' lb :=
 ⟨ho,h.b.kept hg (apart_ne h.ne),apart_l h.ne (fun q e=>(h.b.lt q e).2) hat (Nat.le_refl _)⟩
theorem Two.push_b {w w':World} {base:Nat} {e:TypeId} {s:Nat} {va vb vb':Value} {n m m':Nat} {la lb lb':List Value} (h:Two w base e s va vb n m la lb) (ho:w'.ownsRow base e s vb' m' lb') (hg:w.grownBy w' vb.ownBlock) (hat:vb'.ownBlock=vb.ownBlock∨vb'.ownBlock=some w.heap.size):Two w' base e s va vb' n m' la lb' :=
 ⟨h.a.kept hg (apart_ne2 h.ne),ho,apart_r h.ne (fun q e=>(h.a.lt q e).2) hat (Nat.le_refl _)⟩
def hoursTo (p:Pass) (d s:Int) (k:Nat):List Int:=((List.range k).filter fun h=>goesB p d (h:Nat) s).map fun h=>((h:Nat):Int)
theorem hoursTo_succ (p:Pass) (d s:Int) (k:Nat):hoursTo p d s (k+1)=hoursTo p d s k++if goesB p d (k:Nat) s=true then [(k:Int)]else []:=by
 unfold hoursTo
 rw[List.range_succ,List.filter_append,List.map_append]
 by_cases h:goesB p d (k:Nat) s=true<;>simp[h]
theorem hoursTo_all (p:Pass) (d s:Int):hoursTo p d s 24=hoursL p d s:=rfl
theorem hoursTo_len (p:Pass) (d s:Int) (k:Nat):(hoursTo p d s k).length≤k:=by
 unfold hoursTo
 rw[List.length_map]
 have:=List.length_filter_le (fun h=>goesB p d ((h:Nat):Int) s) (List.range k)
 simpa using this
abbrev HRow (p:Pass) (d s:Int) (k:Nat):List Value:=(hoursTo p d s k).map (Value.int .i64)
theorem swell_get {p:Pass} {vs:Value} {w:World} (hS:Spans w vs p.swell) {d:Nat} (hd:d<p.swell.length):∃b off cs,vs= .slice (some ⟨b,off,none⟩) p.swell.length cs∧b<w.heap.size∧w.cell? ⟨b,off+d*2,none⟩=some (.int .i64 (swAt p d).1)∧w.cell? ⟨b,off+d*2+1,none⟩=some (.int .i64 (swAt p d).2):=by
 obtain⟨a,cs,rfl,hx⟩:=hS
 obtain⟨b,off,rfl,hb,h0⟩:=hx d hd
 rw[← sw_at hd]at h0
 obtain⟨h1,h2⟩:=span_cells h0
 exact⟨b,off,cs,rfl,hb,h1,h2⟩
set_option maxRecDepth 100000 in
set_option maxHeartbeats 8000000 in
theorem sure_any (p:Pass) (vt vs:Value) (d:Nat) (h:Int) (w:World) (O:Ok p) (hd:d<p.swell.length) (hh:0≤h∧h≤1000) (hT:Ints w vt p.tides) (hS:Spans w vs p.swell) :
  Calls Tryz.prog 66 #[.agg (passV p vt vs),.agg #[.int .i64 (d:Int),.int .i64 h]] w fun e w'=>e= .returned (.bool (goesB p d h (swAt p d).2))∧Ext w w':=by
 have hsb:=sw_bd O hd
 have hn:=O.swellN
 have HO:=Qf (fun W hE=>open_any p vt vs (swAt p d).2 d h W O (by omega) hh (by omega) (hT.ext hE))
 obtain⟨ta,ct,rfl,_⟩:=hT
 obtain⟨b,off,cs,rfl,hb,h1,h2⟩:=swell_get hS hd
 obtain⟨sp,hsp⟩:∃s,swAt p d=s:=⟨_,rfl⟩
 simp only[hsp]at HO h1 h2 ⊢
 have hpc:=plus_cell
 clear hsp hS O hsb
 go_enter Tryz.func66,Tryz.ntmps66
 go_wp2
 obtain⟨n0,hn0⟩:∃n,w.heap.size=n:=⟨_,rfl⟩
 obtain⟨w1,hw1⟩:∃y,(w.alloc (.cells (passV p (.slice ta p.tides.length ct) (.slice (some ⟨b,off,none⟩) p.swell.length cs)) 33)).alloc (.cells #[.int .i64 (d:Int),.int .i64 h] 35)=y:=⟨_,rfl⟩
 have hV1:Blk w1 n0 (passV p (.slice ta p.tides.length ct) (.slice (some ⟨b,off,none⟩) p.swell.length cs)) 33:=by rw[← hw1];exact(Qm hn0.symm _ _).alloc _
 have hC1:Blk w1 (n0+1) #[.int .i64 (d:Int),.int .i64 h] 35:=by rw[← hw1];exact Qm (by simp[hn0]) _ _
 have hE1:Ext w w1:=by rw[← hw1];(with_reducible(repeat(first|exact Qc _|assumption|apply Qk|apply Ql|exact ext_plus _ _|(apply Qd;rotate_left;(simp<;>omega))|(apply Qe;rotate_left;exact ext_plus _ _)|(apply Qe;rotate_left;assumption))))
 have k0:=hV1.cell
 have k1:=hV1.lt
 have k2:=hC1.cell
 have k3:=hC1.lt
 have k4:=(hE1.cells.1 _ _ hb).trans h1
 have k5:=(hE1.cells.1 _ _ hb).trans h2
 have k6:=Qh hb hE1.size
 simp only[hw1,hn0]
 clear hw1 hn0 h1 h2 hb
 refine wp_region_ext 11 (fun _ _ d _ _ h=>by cases d<;>exact h) (by kernel_rfl) (by kernel_rfl) (by kernel_rfl) (by kernel_rfl) ?_
 simp only[Qn,Qo,Qp,Qq]
 repeat(any_goals(first|go_big_quiet_step((go_at_call 67;exact ext_quiet (HO.out _ (hE1.trans (by(with_reducible(repeat(first|exact Qc _|assumption|apply Qk|apply Ql|exact ext_plus _ _|(apply Qd;rotate_left;(simp<;>omega))|(apply Qe;rotate_left;exact ext_plus _ _)|(apply Qe;rotate_left;assumption)))))))))|quiet_step((go_at_call 67;exact ext_quiet (HO.out _ (hE1.trans (by(with_reducible(repeat(first|exact Qc _|assumption|apply Qk|apply Ql|exact ext_plus _ _|(apply Qd;rotate_left;(simp<;>omega))|(apply Qe;rotate_left;exact ext_plus _ _)|(apply Qe;rotate_left;assumption)))))))))))
 all_goals(refine wpQuiet_nil ?_;intro w2 hE2)
 go_wp2
 go_ret
 exact⟨rfl,hE1.trans hE2⟩
set_option maxRecDepth 100000 in
set_option maxHeartbeats 8000000 in
theorem hours_any (p:Pass) (vt vs:Value) (d:Nat) (w:World) (O:Ok p) (hd:d<p.swell.length) (hT:Ints w vt p.tides) (hS:Spans w vs p.swell) :
  Calls Tryz.prog 14 #[.agg (passV p vt vs),.int .i64 (d:Int)] w fun e w'=>∃v1 v2,e= .returned (.tuple #[v1,v2,.int .i64 0])∧Ints w' v1 (hoursL p d (swAt p d).2)∧Ints w' v2 (hoursL p d (swAt p d).1)∧Ext w w':=by
 have hsb:=sw_bd O hd
 have hn:=O.swellN
 have HV:=Qf (fun W hE=>valid_true p vt vs W O (hT.ext hE) (hS.ext hE))
 have HSU:=Qf (fun(h:Nat) (hh:h<24) W hE=>sure_any p vt vs d (h:Nat) W O hd (by omega) (hT.ext hE) (hS.ext hE))
 have HO:=Qf (fun(h:Nat) (hh:h<24) W hE=>open_any p vt vs (swAt p d).1 d (h:Nat) W O (by omega) (by omega) (by omega) (hT.ext hE))
 obtain⟨ta,ct,rfl,_⟩:=hT
 obtain⟨b,off,cs,rfl,hb,h1,h2⟩:=swell_get hS hd
 have HA:=Qf (fun s=>hoursTo_succ p d s)
 have HLN:=Qf (fun s k=>hoursTo_len p d s k)
 have e1:=hoursTo_all p d (swAt p d).2
 have e2:=hoursTo_all p d (swAt p d).1
 rw[← e1,←e2]
 obtain⟨sp,hsp⟩:∃s,swAt p d=s:=⟨_,rfl⟩
 simp only[hsp]at HSU HO h1 h2 ⊢
 have hpc:=plus_cell
 have q1:within (d:Int) 0 ((p.swell.length:Int) - 1)=true:=within_iff.2 (by omega)
 obtain⟨i0,hi,hz0,hz1,hz2⟩:=info_parts int_info
 clear hsp hS O hsb e1 e2
 go_enter Tryz.func14,Tryz.ntmps14
 go_wp2_with (first|(go_at_call 64;refine(HV.out _ (by(with_reducible(repeat(first|exact Qc _|assumption|apply Qk|apply Ql|exact ext_plus _ _|(apply Qd;rotate_left;(simp<;>omega))|(apply Qe;rotate_left;exact ext_plus _ _)|(apply Qe;rotate_left;assumption)))))).mono ?_;rintro e w1 ⟨rfl,hE1⟩;have hV1:=(Qm rfl _ _:Blk (w.alloc (.cells (passV p (.slice ta p.tides.length ct) (.slice (some ⟨b,off,none⟩) p.swell.length cs)) 33)) w.heap.size (passV p (.slice ta p.tides.length ct) (.slice (some ⟨b,off,none⟩) p.swell.length cs)) 33).ext hE1;have k0:=hV1.cell;have k1:=hV1.lt)|(go_at_call 65;refine(in_any _ _ _ _).mono ?_;rintro e w' ⟨rfl,rfl⟩))
 have hEw1:Ext w w1:=((Qc w).alloc _).trans hE1
 obtain⟨n0,hn0⟩:∃n,w.heap.size=n:=⟨_,rfl⟩
 rw[hn0]at hV1
 simp only[hn0]
 have hn0':w.heap.size≤n0:=by omega
 have hzz:=hV1.lt
 have hTW:Two w1 (n0+1) 3 1 (.slice none 0 0) (.slice none 0 0) 0 0 (HRow p d sp.2 0) (HRow p d sp.1 0):=⟨⟨by simp[HRow,hoursTo],.inl ⟨rfl,rfl⟩⟩,⟨by simp[HRow,hoursTo],.inl ⟨rfl,rfl⟩⟩,fun q e=>by cases e⟩
 clear k0 k1 hE1 hn0 h2 HV
 go_loopw [23,7,8] (fun i va vb wr=>∃(k n m:Nat),k≤24∧i= .int .i64 k∧n=(hoursTo p d sp.2 k).length∧m=(hoursTo p d sp.1 k).length∧Two wr (n0+1) 3 1 va vb n m (HRow p d sp.2 k) (HRow p d sp.1 k)∧Blk wr n0 (passV p (.slice ta p.tides.length ct) (.slice (some ⟨b,off,none⟩) p.swell.length cs)) 33∧Ext w wr) (fun i _ _ _=>24 - (intOf i).toNat)
 case atStart=>exact⟨0,0,0,Nat.zero_le _,rfl,rfl,rfl,hTW,hV1,hEw1⟩
 case round =>
  clear hTW hV1 hEw1 hzz
  rename World=>wr
  obtain⟨k,n,m,hk,rfl,hln,hlm,hTW,hV,hE⟩:=hrel
  have HN:=Qf hln
  have HM:=Qf hlm
  have hn24:n≤24:=by rw[hln];exact Qr (HLN.out _ _) hk
  have hm24:m≤24:=by rw[hlm];exact Qr (HLN.out _ _) hk
  clear hln hlm
  have k0:=hV.cell
  have k1:=hV.lt
  by_cases hlt:k<24
  ·have ha1:=HA.out sp.2 k
   have ha2:=HA.out sp.1 k
   have hsk:=HSU.out k hlt
   have hok:=HO.out k hlt
   obtain⟨B1,hB1⟩:∃B,goesB p d (k:Nat) sp.2=B:=⟨_,rfl⟩
   obtain⟨B2,hB2⟩:∃B,goesB p d (k:Nat) sp.1=B:=⟨_,rfl⟩
   rw[hB1]at ha1
   rw[hB2]at ha2
   simp only[hB1]at hsk
   simp only[hB2]at hok
   have HA1:=Qf ha1
   have HA2:=Qf ha2
   have HSK:=Qf hsk
   have HOK:=Qf hok
   clear ha1 ha2 hsk hok hB1 hB2
   cases B1 with
   | true =>
    go_wp2_with (first|(go_at_call 66;refine(HSK.out _ (hE.trans (by(with_reducible(repeat(first|exact Qc _|assumption|apply Qk|apply Ql|exact ext_plus _ _|(apply Qd;rotate_left;(simp<;>omega))|(apply Qe;rotate_left;exact ext_plus _ _)|(apply Qe;rotate_left;assumption))))))).mono ?_;rintro e w2 ⟨rfl,hE2⟩;have hE2':Ext wr w2:=((Qc wr).alloc _).trans hE2;have hTW2:=hTW.ext hE2';have hz2':n0+1≤w2.heap.size:=Qr hV.lt hE2'.size;have hB2:=(Qm rfl _ _:Blk (wr.alloc (.cells #[.int .i64 (d:Int),.int .i64 (k:Int)] 35)) wr.heap.size #[.int .i64 (d:Int),.int .i64 (k:Int)] 35).ext hE2)|(at_builtin;refine wpList_append_own_at _ rfl _ _ 30 rfl (n0+1) 3 i0 (.int .i64 0) 1 8 Tryz.underlying30 hi hz0 hz1 hz2 rfl (by decide) _ _ _ rfl (own_ext hTW2.a ((Qc _).alloc _)) ⟨w2.heap.size,0,none⟩ 1 1 [.int .i64 ((k:Int))] rfl rfl (cell_one _ _ _ (by simp)) (one_int _) (by unfold maxLen;omega) (by omega) (by simp<;>omega) ?_;intro v3 w3 hown3 hg3 _ hat3))
    have hTW3:=(hTW2.ext ((Qc w2).alloc (.cells #[.int .i64 (k:Int)] 3))).push_a hown3 hg3 hat3
    have hV3:Blk w3 n0 _ _:=(((hV.ext hE2').alloc (.cells #[.int .i64 (k:Int)] 3))).grown hg3 (own_base hTW2.a) (by omega)
    have hB3:Blk w3 wr.heap.size #[.int .i64 (d:Int),.int .i64 (k:Int)] 35:=(hg3.block _ (hB2.alloc (.cells #[.int .i64 (k:Int)] 3)).lt (fun e=>by have:=(hTW.a.lt _ e.symm).2;omega)).trans (hB2.alloc (.cells #[.int .i64 (k:Int)] 3))
    have hE3:Ext w w3:=((hE.trans hE2').alloc (.cells #[.int .i64 (k:Int)] 3)).grown hg3 (fun q e=>by have:=own_base hTW2.a q e;omega)
    have hz3:n0+1≤w3.heap.size:=Qr (by simp;omega) hg3.size
    obtain⟨bc,hbc⟩:∃n,wr.heap.size=n:=⟨_,rfl⟩
    simp only[hbc]at hB3 ⊢
    clear k0 k1 hTW2 hV hE hE2 hE2' hB2 hz2' hTW HSK hbc hown3 hg3 hat3
    have k0:=hV3.cell
    have k1:=hV3.lt
    have k2:=hB3.cell
    have k3:=hB3.lt
    have k4:=(hE3.cells.1 _ _ hb).trans h1
    have k5:=Qh hb hE3.size
    refine wp_region_ext 10 (fun _ _ d _ _ h=>by cases d<;>exact h) (by kernel_rfl) (by kernel_rfl) (by kernel_rfl) (by kernel_rfl) ?_
    simp only[Qn,Qo,Qp,Qq]
    repeat(any_goals(first|go_big_quiet_step((go_at_call 67;exact ext_quiet (HOK.out _ (hE3.trans (by(with_reducible(repeat(first|exact Qc _|assumption|apply Qk|apply Ql|exact ext_plus _ _|(apply Qd;rotate_left;(simp<;>omega))|(apply Qe;rotate_left;exact ext_plus _ _)|(apply Qe;rotate_left;assumption)))))))))|quiet_step((go_at_call 67;exact ext_quiet (HOK.out _ (hE3.trans (by(with_reducible(repeat(first|exact Qc _|assumption|apply Qk|apply Ql|exact ext_plus _ _|(apply Qd;rotate_left;(simp<;>omega))|(apply Qe;rotate_left;exact ext_plus _ _)|(apply Qe;rotate_left;assumption)))))))))))
    all_goals(refine wpQuiet_nil ?_;intro w4 hE4)
    have hTW4:=hTW3.ext hE4
    have hV4:=hV3.ext hE4
    have hE4w:=hE3.trans hE4
    have hz4:=Qr hz3 hE4.size
    clear k0 k1 k2 k3 k4 k5 hTW3 hV3 hB3 hE3 hz3
    cases B2 with
    | true =>
     go_wp2_with (first|(at_builtin;refine wpList_append_own_at _ rfl _ _ 30 rfl (n0+1) 3 i0 (.int .i64 0) 1 8 Tryz.underlying30 hi hz0 hz1 hz2 rfl (by decide) _ _ _ rfl (own_ext hTW4.b ((Qc _).alloc _)) ⟨w4.heap.size,0,none⟩ 1 1 [.int .i64 ((k:Int))] rfl rfl (cell_one _ _ _ (by simp)) (one_int _) (by unfold maxLen;omega) (by omega) (by simp<;>omega) ?_;intro v5 w5 hown5 hg5 _ hat5))
     have hTW5:=(hTW4.ext ((Qc w4).alloc (.cells #[.int .i64 (k:Int)] 3))).push_b hown5 hg5 hat5
     have hV5:Blk w5 n0 _ _:=((hV4.alloc (.cells #[.int .i64 (k:Int)] 3))).grown hg5 (own_base hTW4.b) (by omega)
     have hE5:Ext w w5:=(hE4w.alloc (.cells #[.int .i64 (k:Int)] 3)).grown hg5 (fun q e=>by have:=own_base hTW4.b q e;omega)
     go_roundw
     case rel=>exact⟨k+1,n+1,m+1,by omega,by go_num,by rw[HA1.out,List.length_append,←HN.out];rfl,by rw[HA2.out,List.length_append,←HM.out];rfl,by simp only[HRow,HA1.out,HA2.out,List.map_append,if_true,Bool.false_eq_true,if_false,List.map_cons,List.map_nil,List.append_nil];exact hTW5,hV5,hE5⟩
     case measure=>simp[intOf];omega
    | false =>
     go_wp2
     have hTW5:=hTW4
     have hV5:=hV4
     have hE5:=hE4w
     go_roundw
     case rel=>exact⟨k+1,n+1,m,by omega,by go_num,by rw[HA1.out,List.length_append,←HN.out];rfl,by rw[HA2.out,List.length_append,←HM.out];rfl,by simp only[HRow,HA1.out,HA2.out,List.map_append,if_true,Bool.false_eq_true,if_false,List.map_cons,List.map_nil,List.append_nil];exact hTW5,hV5,hE5⟩
     case measure=>simp[intOf];omega
   | false =>
    go_wp2_with (first|(go_at_call 66;refine(HSK.out _ (hE.trans (by(with_reducible(repeat(first|exact Qc _|assumption|apply Qk|apply Ql|exact ext_plus _ _|(apply Qd;rotate_left;(simp<;>omega))|(apply Qe;rotate_left;exact ext_plus _ _)|(apply Qe;rotate_left;assumption))))))).mono ?_;rintro e w2 ⟨rfl,hE2⟩;have hE2':Ext wr w2:=((Qc wr).alloc _).trans hE2;have hTW2:=hTW.ext hE2';have hz2':n0+1≤w2.heap.size:=Qr hV.lt hE2'.size;have hB2:=(Qm rfl _ _:Blk (wr.alloc (.cells #[.int .i64 (d:Int),.int .i64 (k:Int)] 35)) wr.heap.size #[.int .i64 (d:Int),.int .i64 (k:Int)] 35).ext hE2))
    have hTW3:=hTW2
    have hV3:=hV.ext hE2'
    have hB3:=hB2
    have hE3:=hE.trans hE2'
    have hz3:=hz2'
    obtain⟨bc,hbc⟩:∃n,wr.heap.size=n:=⟨_,rfl⟩
    simp only[hbc]at hB3 ⊢
    clear k0 k1 hTW2 hV hE hE2 hE2' hB2 hz2' hTW HSK hbc
    have k0:=hV3.cell
    have k1:=hV3.lt
    have k2:=hB3.cell
    have k3:=hB3.lt
    have k4:=(hE3.cells.1 _ _ hb).trans h1
    have k5:=Qh hb hE3.size
    refine wp_region_ext 10 (fun _ _ d _ _ h=>by cases d<;>exact h) (by kernel_rfl) (by kernel_rfl) (by kernel_rfl) (by kernel_rfl) ?_
    simp only[Qn,Qo,Qp,Qq]
    repeat(any_goals(first|go_big_quiet_step((go_at_call 67;exact ext_quiet (HOK.out _ (hE3.trans (by(with_reducible(repeat(first|exact Qc _|assumption|apply Qk|apply Ql|exact ext_plus _ _|(apply Qd;rotate_left;(simp<;>omega))|(apply Qe;rotate_left;exact ext_plus _ _)|(apply Qe;rotate_left;assumption)))))))))|quiet_step((go_at_call 67;exact ext_quiet (HOK.out _ (hE3.trans (by(with_reducible(repeat(first|exact Qc _|assumption|apply Qk|apply Ql|exact ext_plus _ _|(apply Qd;rotate_left;(simp<;>omega))|(apply Qe;rotate_left;exact ext_plus _ _)|(apply Qe;rotate_left;assumption)))))))))))
    all_goals(refine wpQuiet_nil ?_;intro w4 hE4)
    have hTW4:=hTW3.ext hE4
    have hV4:=hV3.ext hE4
    have hE4w:=hE3.trans hE4
    have hz4:=Qr hz3 hE4.size
    clear k0 k1 k2 k3 k4 k5 hTW3 hV3 hB3 hE3 hz3
    cases B2 with
    | true =>
     go_wp2_with (first|(at_builtin;refine wpList_append_own_at _ rfl _ _ 30 rfl (n0+1) 3 i0 (.int .i64 0) 1 8 Tryz.underlying30 hi hz0 hz1 hz2 rfl (by decide) _ _ _ rfl (own_ext hTW4.b ((Qc _).alloc _)) ⟨w4.heap.size,0,none⟩ 1 1 [.int .i64 ((k:Int))] rfl rfl (cell_one _ _ _ (by simp)) (one_int _) (by unfold maxLen;omega) (by omega) (by simp<;>omega) ?_;intro v5 w5 hown5 hg5 _ hat5))
     have hTW5:=(hTW4.ext ((Qc w4).alloc (.cells #[.int .i64 (k:Int)] 3))).push_b hown5 hg5 hat5
     have hV5:Blk w5 n0 _ _:=((hV4.alloc (.cells #[.int .i64 (k:Int)] 3))).grown hg5 (own_base hTW4.b) (by omega)
     have hE5:Ext w w5:=(hE4w.alloc (.cells #[.int .i64 (k:Int)] 3)).grown hg5 (fun q e=>by have:=own_base hTW4.b q e;omega)
     go_roundw
     case rel=>exact⟨k+1,n,m+1,by omega,by go_num,by rw[HA1.out,List.length_append,←HN.out];rfl,by rw[HA2.out,List.length_append,←HM.out];rfl,by simp only[HRow,HA1.out,HA2.out,List.map_append,if_true,Bool.false_eq_true,if_false,List.map_cons,List.map_nil,List.append_nil];exact hTW5,hV5,hE5⟩
     case measure=>simp[intOf];omega
    | false =>
     go_wp2
     have hTW5:=hTW4
     have hV5:=hV4
     have hE5:=hE4w
     go_roundw
     case rel=>exact⟨k+1,n,m,by omega,by go_num,by rw[HA1.out,List.length_append,←HN.out];rfl,by rw[HA2.out,List.length_append,←HM.out];rfl,by simp only[HRow,HA1.out,HA2.out,List.map_append,if_true,Bool.false_eq_true,if_false,List.map_cons,List.map_nil,List.append_nil];exact hTW5,hV5,hE5⟩
     case measure=>simp[intOf];omega
  ·obtain rfl:k=24:=by omega
   go_wp2
   go_ret3
   refine⟨_,_,rfl,?_,?_,hE⟩
   ·exact Ints.of_own (by rw[← HN.out];exact hTW.a)
   ·exact Ints.of_own (by rw[← HM.out];exact hTW.b)
end Go.Proofs.YtgloajbgphcloaaGreat.Sh
namespace Go.Proofs.YtgloajbgphcloaaGreat.Sh
set_option linter.unusedVariables false
set_option linter.unusedSimpArgs false
open Go.RowKit
open Ext renaming alloc → Qk, drew → Ql, refl → Qc, setCell → Qd, trans → Qe
open Lib renaming hid → Qf
theorem called_true (p:Pass) (vt:Value) (sa:Option Addr) (cs:Nat) (d:Nat) (h:Int) (w:World) (hn:p.swell.length≤1000000) (hd:d<p.swell.length) (hh:0≤h∧h≤23) :
  Calls Tryz.prog 68 #[.agg (passV p vt (.slice sa p.swell.length cs)),.agg #[.int .i64 (d:Int),.int .i64 h]] w fun e w'=>e= .returned (.bool true)∧Ext w w':=by
 have q1:within (d:Int) 0 ((p.swell.length:Int) - 1)=true:=within_iff.2 (by omega)
 have q2:within h 0 23=true:=within_iff.2 (by omega)
 go_enter Tryz.func68,Tryz.ntmps68
 go_wp2_with (first|(go_at_call 65;refine(in_any _ _ _ _).mono ?_;rintro e w' ⟨rfl,rfl⟩))
 go_ret
 exact⟨rfl,by(with_reducible(repeat(first|exact Qc _|assumption|apply Qk|apply Ql|exact ext_plus _ _|(apply Qd;rotate_left;(simp<;>omega))|(apply Qe;rotate_left;exact ext_plus _ _)|(apply Qe;rotate_left;assumption))))⟩
set_option maxRecDepth 100000 in
set_option maxHeartbeats 8000000 in
theorem goes_any (p:Pass) (vt vs:Value) (d:Nat) (h s:Int) (w:World) (O:Ok p) (hd:d<p.swell.length) (hh:0≤h∧h≤23) (hs:(swAt p d).1≤s∧s≤(swAt p d).2) (hT:Ints w vt p.tides) (hS:Spans w vs p.swell) :
  Calls Tryz.prog 15 #[.agg (passV p vt vs),.agg #[.int .i64 (d:Int),.int .i64 h],.int .i64 s] w fun e w'=>e= .returned (.tuple #[.bool (goesB p d h s),.int .i64 0])∧Ext w w':=by
 have hsb:=sw_bd O hd
 have hn:=O.swellN
 have HV:=Qf (fun W hE=>valid_true p vt vs W O (hT.ext hE) (hS.ext hE))
 have HO:=Qf (fun W hE=>open_any p vt vs s d h W O (by omega) (by omega) (by omega) (hT.ext hE))
 obtain⟨ta,ct,rfl,_⟩:=hT
 obtain⟨b,off,cs,rfl,hb,h1,h2⟩:=swell_get hS hd
 have HCA:=Qf (fun W=>called_true p (.slice ta p.tides.length ct) (some ⟨b,off,none⟩) cs d h W (by omega) hd hh)
 obtain⟨sp,hsp⟩:∃s,swAt p d=s:=⟨_,rfl⟩
 simp only[hsp]at h1 h2 hs
 have hpc:=plus_cell
 have q1:within s sp.1 sp.2=true:=within_iff.2 (by omega)
 have HIN:=Qf (fun W=>(q1▸in_any s sp.1 sp.2 W:Calls Tryz.prog 65 #[.int .i64 s,.int .i64 sp.1,.int .i64 sp.2] W fun e w'=>e= .returned (.bool true)∧W=w'))
 clear hsp hS O hsb q1
 go_enter Tryz.func15,Tryz.ntmps15
 go_wp2
 obtain⟨n0,hn0⟩:∃n,w.heap.size=n:=⟨_,rfl⟩
 obtain⟨w1,hw1⟩:∃y,(w.alloc (.cells (passV p (.slice ta p.tides.length ct) (.slice (some ⟨b,off,none⟩) p.swell.length cs)) 33)).alloc (.cells #[.int .i64 (d:Int),.int .i64 h] 35)=y:=⟨_,rfl⟩
 have hV1:Blk w1 n0 (passV p (.slice ta p.tides.length ct) (.slice (some ⟨b,off,none⟩) p.swell.length cs)) 33:=by rw[← hw1];exact(Blk.new' hn0.symm _ _).alloc _
 have hC1:Blk w1 (n0+1) #[.int .i64 (d:Int),.int .i64 h] 35:=by rw[← hw1];exact Blk.new' (by simp[hn0]) _ _
 have hE1:Ext w w1:=by rw[← hw1];(with_reducible(repeat(first|exact Qc _|assumption|apply Qk|apply Ql|exact ext_plus _ _|(apply Qd;rotate_left;(simp<;>omega))|(apply Qe;rotate_left;exact ext_plus _ _)|(apply Qe;rotate_left;assumption))))
 have k0:=hV1.cell
 have k1:=hV1.lt
 have k2:=hC1.cell
 have k3:=hC1.lt
 have k4:=(hE1.cells.1 _ _ hb).trans h1
 have k5:=(hE1.cells.1 _ _ hb).trans h2
 have k6:=Nat.lt_of_lt_of_le hb hE1.size
 simp only[hw1,hn0]
 clear hw1 hn0 h1 h2 hb
 refine wp_region_ext 28 (fun _ _ d _ _ h=>by cases d<;>exact h) (by kernel_rfl) (by kernel_rfl) (by kernel_rfl) (by kernel_rfl) ?_
 (try simp only[List.append_eq,List.cons_append,List.nil_append])
 simp only[List.take_succ_cons,List.take_zero,List.drop_succ_cons,List.drop_zero]
 repeat(any_goals(first|go_big_quiet_step((first|(go_at_call 64;exact ext_quiet (HV.out _ (hE1.trans (by(with_reducible(repeat(first|exact Qc _|assumption|apply Qk|apply Ql|exact ext_plus _ _|(apply Qd;rotate_left;(simp<;>omega))|(apply Qe;rotate_left;exact ext_plus _ _)|(apply Qe;rotate_left;assumption))))))))|(go_at_call 68;exact ext_quiet (HCA.out _))|(go_at_call 65;exact same_quiet (HIN.out _))))|quiet_step((first|(go_at_call 64;exact ext_quiet (HV.out _ (hE1.trans (by(with_reducible(repeat(first|exact Qc _|assumption|apply Qk|apply Ql|exact ext_plus _ _|(apply Qd;rotate_left;(simp<;>omega))|(apply Qe;rotate_left;exact ext_plus _ _)|(apply Qe;rotate_left;assumption))))))))|(go_at_call 68;exact ext_quiet (HCA.out _))|(go_at_call 65;exact same_quiet (HIN.out _))))))
 all_goals(refine wpQuiet_nil ?_;intro w2 hE2)
 have hE2w:=hE1.trans hE2
 have g0:=(hV1.ext hE2).cell
 have g1:=(hV1.ext hE2).lt
 have g2:=(hC1.ext hE2).cell
 have g3:=(hC1.ext hE2).lt
 clear k0 k1 k2 k3 k4 k5 k6
 go_wp2_with (first|(go_at_call 67;refine(HO.out _ hE2w).mono ?_;rintro e w3 ⟨rfl,hE3⟩))
 go_ret2
 exact⟨rfl,hE2w.trans hE3⟩
end Go.Proofs.YtgloajbgphcloaaGreat.Sh
