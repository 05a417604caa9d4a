/- What an argument reads as: a reef, a truth of it, a fleet, bids. -/
import Derived.Test.YtgloajbgphcloaaGreatEn
import Derived.Test.YtgloajbgphcloaaGreatRfEnc
import Derived.Test.YtgloajbgphcloaaGreatFlA
namespace Go.Proofs.YtgloajbgphcloaaGreat
set_option linter.unusedVariables false
set_option linter.unusedSimpArgs false
open Go.RowKit Go.ChangeShapes Go.WideShapes
open List renaming drop_succ_cons → Qd, drop_zero → Qa, take_succ_cons → Qb, take_zero → Qc
variable {H:Type} {enc:TypeId×Value→H} {w:World} {spare:Nat→Bool}
theorem tints_of {fuel:Nat} {cs:List Value} {x:DataW H×List MemPlace} (h:DataW.trod enc Tryz.prog w 0 spare true fuel 30 cs=some x):∃v xs,cs=[v]∧Ints w v xs∧Rf.Tight v:=by
 rcases open_ints Tryz.underlying30 Tryz.underlying3 (by kernel_rfl) h with⟨rfl,_⟩|⟨a,len,cap,zs,rfl,_,hlc,_,hz,_,hc,_⟩
 ·exact⟨_,[],rfl,Ints.nil w,Rf.Tight.nil⟩
 ·have hzl:len≤zs.length:=by rw[hz];split<;>omega
  refine⟨_,zs.take len,rfl,⟨some a,cap,by rw[List.length_take,Nat.min_eq_left hzl],fun i hi=> ?_⟩,Rf.Tight.some _ _ _⟩
  have hi':i<zs.length:=by rw[List.length_take]at hi;omega
  have hs:=spot_of (hc 0 (by omega))
  have hci:=hc i hi'
  have hb:=World.block_lt_of_cell? w _ hci
  rw[add_at hs]at hci hb
  exact⟨a.block,a.off,by rw[← addr_at hs],hb,by rw[hci];simp[hi']⟩
theorem cells12 {l:List Value} (h:l.length=12):∃a0 a1 a2 a3 a4 a5 a6 a7 a8 a9 a10 a11,l=[a0,a1,a2,a3,a4,a5,a6,a7,a8,a9,a10,a11]:=by
 match l,h with
 | [a0,a1,a2,a3,a4,a5,a6,a7,a8,a9,a10,a11],_=>exact⟨a0,a1,a2,a3,a4,a5,a6,a7,a8,a9,a10,a11,rfl⟩
theorem cells3 {l:List Value} (h:l.length=3):∃a0 a1 a2,l=[a0,a1,a2]:=by
 match l,h with
 | [a0,a1,a2],_=>exact⟨a0,a1,a2,rfl⟩
theorem cells5 {l:List Value} (h:l.length=5):∃a0 a1 a2 a3 a4,l=[a0,a1,a2,a3,a4]:=by
 match l,h with
 | [a0,a1,a2,a3,a4],_=>exact⟨a0,a1,a2,a3,a4,rfl⟩
theorem size_place:Tryz.prog.cellsOf 126=12:=by kernel_rfl
set_option maxRecDepth 100000 in
theorem place_of {fuel:Nat} {cs:List Value} {x:DataW H×List MemPlace} (h:DataW.trod enc Tryz.prog w 0 spare true fuel 126 cs=some x):∃l:Rf.R.Place,cs=Rf.placeC l:=by
 obtain⟨hl,hf⟩:=field_of Tryz.underlying126 h
 rw[size_place]at hl
 obtain⟨c0,c1,c2,c3,c4,c5,c6,c7,c8,c9,c10,c11,rfl⟩:=cells12 hl
 obtain⟨_,_,h0⟩:=hf 0 _ rfl
 obtain⟨_,_,h1⟩:=hf 1 _ rfl
 obtain⟨_,_,h2⟩:=hf 2 _ rfl
 obtain⟨_,_,h3⟩:=hf 3 _ rfl
 obtain⟨_,_,h4⟩:=hf 4 _ rfl
 obtain⟨_,_,h5⟩:=hf 5 _ rfl
 obtain⟨_,_,h6⟩:=hf 6 _ rfl
 obtain⟨_,_,h7⟩:=hf 7 _ rfl
 obtain⟨_,_,h8⟩:=hf 8 _ rfl
 simp only[size_int,size_span,Qa,Qb,Qc,Qd]at h0 h1 h2 h3 h4 h5 h6 h7 h8
 obtain⟨n0,e0⟩:=int_of h0
 obtain⟨n1,e1⟩:=int_of h1
 obtain⟨n2,m2,e2⟩:=span_of h2
 obtain⟨n3,e3⟩:=int_of h3
 obtain⟨n4,e4⟩:=int_of h4
 obtain⟨n5,m5,e5⟩:=span_of h5
 obtain⟨n6,m6,e6⟩:=span_of h6
 obtain⟨n7,e7⟩:=int_of h7
 obtain⟨n8,e8⟩:=int_of h8
 cases e0;cases e1;cases e2;cases e3;cases e4;cases e5;cases e6;cases e7;cases e8
 exact⟨⟨n0,n1,n2,m2,n3,n4,n5,m5,n6,m6,n7,n8⟩,rfl⟩
theorem size_places:Tryz.prog.cellsOf 109=1:=by kernel_rfl
theorem places_of {fuel:Nat} {cs:List Value} {x:DataW H×List MemPlace} (h:DataW.trod enc Tryz.prog w 0 spare true fuel 109 cs=some x):∃v xs,cs=[v]∧Rf.Places w v xs:=by
 rcases Deep.open_slice Tryz.underlying109 h with⟨rfl,_⟩|⟨a,len,cap,m,n,D,Pl,rfl,_,hlc,_,hm,_,hi⟩
 ·exact⟨_,[],rfl,Sls.nil w⟩
 ·have hlm:len≤m:=by rw[hm];split<;>omega
  rw[size_place]at hi
  obtain⟨f,hf⟩:=Deep.choose_lt (α:=Rf.R.Place) (n:=len) (p:=fun i c=>w.cells? 0 (a.add (i*12)) 12=some (Rf.placeC c)) (fun i hil=>by
   obtain⟨cs',h1,h2⟩:=hi i (by omega)
   obtain⟨c,rfl⟩:=place_of h2
   exact⟨c,h1⟩)
  refine⟨_,(List.range len).map f,rfl,⟨some a,cap,by simp,fun i hil=> ?_⟩⟩
  have hil':i<len:=by simpa using hil
  obtain⟨_,_,hc⟩:=World.cells?_some (hf i hil')
  obtain⟨_,_,hc0⟩:=World.cells?_some (hf 0 (by omega))
  have hs:a.spot=none:=by
   have:=hc0 0 (by omega)
   simp only[Nat.zero_mul]at this
   have h2:=World.cell?_spot this
   simpa[Addr.add]using h2
  have e:((List.range len).map f)[i]=f i:=by simp
  rw[e]
  have k:=fun j (hj:j<12)=>by have:=hc j hj;rw[add_add_at hs]at this;exact this
  refine⟨a.block,a.off,by rw[← addr_at hs],?_,fun j u hu=> ?_⟩
  ·exact World.block_lt_of_cell? w ⟨a.block,a.off+i*12+0,none⟩ ((k 0 (by omega)).trans rfl)
  ·have hj:j<12:=(List.getElem?_eq_some_iff.1 hu).1
   rw[k j hj]
   rw[← hu]
   first|done|simp[Rf.placeC,hj]
theorem size_bid:Tryz.prog.cellsOf 225=5:=by kernel_rfl
set_option maxRecDepth 100000 in
theorem bid_of {fuel:Nat} {cs:List Value} {x:DataW H×List MemPlace} (h:DataW.trod enc Tryz.prog w 0 spare true fuel 225 cs=some x):∃l:Fl.Bid,cs=Fl.bidC l:=by
 obtain⟨hl,hf⟩:=field_of Tryz.underlying225 h
 rw[size_bid]at hl
 obtain⟨c0,c1,c2,c3,c4,rfl⟩:=cells5 hl
 obtain⟨_,_,h0⟩:=hf 0 _ rfl
 obtain⟨_,_,h1⟩:=hf 1 _ rfl
 obtain⟨_,_,h2⟩:=hf 2 _ rfl
 obtain⟨_,_,h3⟩:=hf 3 _ rfl
 obtain⟨_,_,h4⟩:=hf 4 _ rfl
 simp only[size_int,Qa,Qb,Qc,Qd]at h0 h1 h2 h3 h4
 obtain⟨n0,e0⟩:=int_of h0
 obtain⟨n1,e1⟩:=int_of h1
 obtain⟨n2,e2⟩:=int_of h2
 obtain⟨n3,e3⟩:=int_of h3
 obtain⟨n4,e4⟩:=int_of h4
 cases e0;cases e1;cases e2;cases e3;cases e4
 exact⟨⟨n0,n1,n2,n3,n4⟩,rfl⟩
theorem size_bids:Tryz.prog.cellsOf 112=1:=by kernel_rfl
theorem bids_of {fuel:Nat} {cs:List Value} {x:DataW H×List MemPlace} (h:DataW.trod enc Tryz.prog w 0 spare true fuel 112 cs=some x):∃v xs,cs=[v]∧Fl.Bids w v xs:=by
 rcases Deep.open_slice Tryz.underlying112 h with⟨rfl,_⟩|⟨a,len,cap,m,n,D,Pl,rfl,_,hlc,_,hm,_,hi⟩
 ·exact⟨_,[],rfl,Sls.nil w⟩
 ·have hlm:len≤m:=by rw[hm];split<;>omega
  rw[size_bid]at hi
  obtain⟨f,hf⟩:=Deep.choose_lt (α:=Fl.Bid) (n:=len) (p:=fun i c=>w.cells? 0 (a.add (i*5)) 5=some (Fl.bidC c)) (fun i hil=>by
   obtain⟨cs',h1,h2⟩:=hi i (by omega)
   obtain⟨c,rfl⟩:=bid_of h2
   exact⟨c,h1⟩)
  refine⟨_,(List.range len).map f,rfl,⟨some a,cap,by simp,fun i hil=> ?_⟩⟩
  have hil':i<len:=by simpa using hil
  obtain⟨_,_,hc⟩:=World.cells?_some (hf i hil')
  obtain⟨_,_,hc0⟩:=World.cells?_some (hf 0 (by omega))
  have hs:a.spot=none:=by
   have:=hc0 0 (by omega)
   simp only[Nat.zero_mul]at this
   have h2:=World.cell?_spot this
   simpa[Addr.add]using h2
  have e:((List.range len).map f)[i]=f i:=by simp
  rw[e]
  have k:=fun j (hj:j<5)=>by have:=hc j hj;rw[add_add_at hs]at this;exact this
  refine⟨a.block,a.off,by rw[← addr_at hs],?_,fun j u hu=> ?_⟩
  ·exact World.block_lt_of_cell? w ⟨a.block,a.off+i*5+0,none⟩ ((k 0 (by omega)).trans rfl)
  ·have hj:j<5:=(List.getElem?_eq_some_iff.1 hu).1
   rw[k j hj]
   rw[← hu]
   first|done|simp[Fl.bidC,hj]
theorem size_rows:Tryz.prog.cellsOf 94=1:=by kernel_rfl
theorem rows_of {fuel:Nat} {cs:List Value} {x:DataW H×List MemPlace} (h:DataW.trod enc Tryz.prog w 0 spare true fuel 94 cs=some x):∃v xs,cs=[v]∧Rf.Lists w v xs:=by
 rcases Deep.open_slice Tryz.underlying94 h with⟨rfl,_⟩|⟨a,len,cap,m,n,D,Pl,rfl,_,hlc,_,hm,_,hi⟩
 ·exact⟨_,[],rfl,Sls.nil w⟩
 ·have hlm:len≤m:=by rw[hm];split<;>omega
  rw[size_slice_int]at hi
  obtain⟨f,hf⟩:=Deep.choose_lt (α:=Value×List Int) (n:=len) (p:=fun i c=>w.cells? 0 (a.add (i*1)) 1=some [c.1]∧Ints w c.1 c.2∧Rf.Tight c.1) (fun i hil=>by
   obtain⟨cs',h1,h2⟩:=hi i (by omega)
   obtain⟨v,xs,rfl,hI,hT⟩:=tints_of h2
   exact⟨(v,xs),h1,hI,hT⟩)
  refine⟨_,(List.range len).map fun i=>(f i).2,rfl,⟨some a,cap,by simp,fun i hil=> ?_⟩⟩
  have hil':i<len:=by simpa using hil
  obtain⟨hfi,hI,hT⟩:=hf i hil'
  obtain⟨hf0,_,_⟩:=hf 0 (by omega)
  obtain⟨_,_,hc⟩:=World.cells?_some hfi
  obtain⟨_,_,hc0⟩:=World.cells?_some hf0
  have hs:a.spot=none:=by
   have:=hc0 0 (by omega)
   simp only[Nat.zero_mul]at this
   have h2:=World.cell?_spot this
   simpa[Addr.add]using h2
  have e:((List.range len).map fun i=>(f i).2)[i]=(f i).2:=by simp
  rw[e]
  have k:=hc 0 (by omega)
  rw[add_add_at hs,Nat.add_zero]at k
  exact⟨a.block,a.off,by rw[← addr_at hs],World.block_lt_of_cell? w ⟨a.block,a.off+i*1,none⟩ (k.trans rfl),(f i).1,k.trans rfl,hI,hT⟩
theorem size_reef:Tryz.prog.cellsOf 111=3:=by kernel_rfl
set_option maxRecDepth 100000 in
theorem reef_of {v:Value} {d:DataW H} {ps:List MemPlace} {r:Reach} {b0:Nat} (hv:Value.okWide Tryz.prog w r b0 111 v) (h:DataW.Trod enc Tryz.prog w 0 spare true 111 v d ps) :
  ∃(s:Rf.R.Reef) (vp:Value),v= .agg (Rf.reefV s vp)∧Rf.Places w vp s.places:=by
 obtain⟨fuel,h⟩:=h
 obtain⟨hl,hf⟩:=field_of Tryz.underlying111 h
 rw[size_reef]at hl
 obtain⟨c0,c1,c2,hc⟩:=cells3 hl
 rw[hc]at hf
 obtain⟨_,_,h0⟩:=hf 0 _ rfl
 obtain⟨_,_,h1⟩:=hf 1 _ rfl
 obtain⟨_,_,h2⟩:=hf 2 _ rfl
 simp only[size_int,size_places,Qa,Qb,Qc,Qd]at h0 h1 h2
 obtain⟨v0,n0,e0,r0⟩:=places_of h0
 obtain⟨n1,e1⟩:=int_of h1
 obtain⟨n2,e2⟩:=int_of h2
 cases e0;cases e1;cases e2
 exact⟨⟨n0,n1,n2⟩,_,agg_of Tryz.underlying111 hv hc,r0⟩
theorem size_reeftruth:Tryz.prog.cellsOf 114=3:=by kernel_rfl
set_option maxRecDepth 100000 in
theorem reeftruth_of {v:Value} {d:DataW H} {ps:List MemPlace} {r:Reach} {b0:Nat} (hv:Value.okWide Tryz.prog w r b0 114 v) (h:DataW.Trod enc Tryz.prog w 0 spare true 114 v d ps) :
  ∃(t:Rf.R.Truth) (vs vg vt:Value),v= .agg #[vs,vg,vt]∧Ints w vs t.starts∧Rf.Lists w vg t.grows∧Rf.Lists w vt t.takes:=by
 obtain⟨fuel,h⟩:=h
 obtain⟨hl,hf⟩:=field_of Tryz.underlying114 h
 rw[size_reeftruth]at hl
 obtain⟨c0,c1,c2,hc⟩:=cells3 hl
 rw[hc]at hf
 obtain⟨_,_,h0⟩:=hf 0 _ rfl
 obtain⟨_,_,h1⟩:=hf 1 _ rfl
 obtain⟨_,_,h2⟩:=hf 2 _ rfl
 simp only[size_rows,size_slice_int,Qa,Qb,Qc,Qd]at h0 h1 h2
 obtain⟨v0,n0,e0,r0⟩:=ints_of h0
 obtain⟨v1,n1,e1,r1⟩:=rows_of h1
 obtain⟨v2,n2,e2,r2⟩:=rows_of h2
 cases e0;cases e1;cases e2
 exact⟨⟨n0,n1,n2⟩,_,_,_,agg_of Tryz.underlying114 hv hc,r0,r1,r2⟩
theorem size_fleet:Tryz.prog.cellsOf 89=5:=by kernel_rfl
set_option maxRecDepth 100000 in
theorem fleet_of {v:Value} {d:DataW H} {ps:List MemPlace} {r:Reach} {b0:Nat} (hv:Value.okWide Tryz.prog w r b0 89 v) (h:DataW.Trod enc Tryz.prog w 0 spare true 89 v d ps) :
  ∃(s:Fl.Sea) (vr vz vb:Value),v= .agg (Fl.seaV s vr vz vb)∧Ints w vr s.roads∧Ints w vz s.zones∧Ints w vb s.berths:=by
 obtain⟨fuel,h⟩:=h
 obtain⟨hl,hf⟩:=field_of Tryz.underlying89 h
 rw[size_fleet]at hl
 obtain⟨c0,c1,c2,c3,c4,hc⟩:=cells5 hl
 rw[hc]at hf
 obtain⟨_,_,h0⟩:=hf 0 _ rfl
 obtain⟨_,_,h1⟩:=hf 1 _ rfl
 obtain⟨_,_,h2⟩:=hf 2 _ rfl
 obtain⟨_,_,h3⟩:=hf 3 _ rfl
 obtain⟨_,_,h4⟩:=hf 4 _ rfl
 simp only[size_int,size_slice_int,Qa,Qb,Qc,Qd]at h0 h1 h2 h3 h4
 obtain⟨n0,e0⟩:=int_of h0
 obtain⟨v1,n1,e1,r1⟩:=ints_of h1
 obtain⟨v2,n2,e2,r2⟩:=ints_of h2
 obtain⟨v3,n3,e3,r3⟩:=ints_of h3
 obtain⟨n4,e4⟩:=int_of h4
 cases e0;cases e1;cases e2;cases e3;cases e4
 exact⟨⟨n0,n1,n2,n3,n4⟩,_,_,_,agg_of Tryz.underlying89 hv hc,r1,r2,r3⟩
set_option maxRecDepth 100000 in
theorem bids_arg {v:Value} {d:DataW H} {ps:List MemPlace} {r:Reach} {b0:Nat} (hv:Value.okWide Tryz.prog w r b0 112 v) (h:DataW.Trod enc Tryz.prog w 0 spare true 112 v d ps):∃xs,Fl.Bids w v xs:=by
 obtain⟨fuel,h⟩:=h
 rw[slice_cell Tryz.underlying112 hv]at h
 obtain⟨v',xs,e,hI⟩:=bids_of h
 cases e
 exact⟨xs,hI⟩
end Go.Proofs.YtgloajbgphcloaaGreat
