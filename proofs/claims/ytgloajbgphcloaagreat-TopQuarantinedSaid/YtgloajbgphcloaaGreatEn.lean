/- What an argument reads as: ints, spans, slices of ints. -/
import Derived.Test.YtgloajbgphcloaaGreatCo
import Derived.Deep.Slices
import Derived.Lib.SmallJoins
import Derived.ProofKit
namespace Go.Proofs.YtgloajbgphcloaaGreat
set_option linter.unusedVariables false
set_option linter.unusedSimpArgs false
open Go.RowKit Go.ChangeShapes Go.WideShapes
variable {H:Type} {enc:TypeId×Value→H} {w:World} {spare:Nat→Bool}
theorem add_at {a:Addr} (h:a.spot=none) (i:Nat):a.add i=⟨a.block,a.off+i,none⟩:=by
 obtain⟨b,o,s⟩:=a
 simp only at h;subst h
 unfold Addr.add;split<;>simp_all
theorem add_add_at {a:Addr} (h:a.spot=none) (x i:Nat):(a.add x).add i=⟨a.block,a.off+x+i,none⟩:=by
 rw[add_at h,add_at rfl]
theorem addr_at {a:Addr} (h:a.spot=none):a=⟨a.block,a.off,none⟩:=by
 obtain⟨b,o,s⟩:=a
 simp only at h;subst h;rfl
theorem spot_of {a:Addr} {v:Value} (h:w.cell? (a.add 0)=some v):a.spot=none:=by
 have:=World.cell?_spot h
 simpa[Addr.add]using this
theorem int_of {fuel:Nat} {cs:List Value} {x:DataW H×List MemPlace} (h:DataW.trod enc Tryz.prog w 0 spare true fuel 3 cs=some x):∃n,cs=[.int .i64 n]:=by
 obtain⟨n,rfl,_⟩:=DataW.trod_int Tryz.underlying3 h
 exact⟨n,rfl⟩
theorem bool_of {fuel:Nat} {cs:List Value} {x:DataW H×List MemPlace} (h:DataW.trod enc Tryz.prog w 0 spare true fuel 4 cs=some x):∃n,cs=[.bool n]:=by
 obtain⟨n,rfl,_⟩:=DataW.trod_bool Tryz.underlying4 h
 exact⟨n,rfl⟩
theorem ints_of {fuel:Nat} {cs:List Value} {x:DataW H×List MemPlace} (h:DataW.trod enc Tryz.prog w 0 spare true fuel 30 cs=some x):∃v xs,cs=[v]∧Ints w v xs:=by
 rcases open_ints Tryz.underlying30 Tryz.underlying3 (by kernel_rfl) h with⟨rfl,_⟩|⟨a,len,cap,zs,rfl,_,hlc,_,hz,_,hc,_⟩
 ·exact⟨_,[],rfl,Ints.nil w⟩
 ·have hzl:len≤zs.length:=by rw[hz];split<;>omega
  refine⟨_,zs.take len,rfl,⟨some a,cap,by rw[List.length_take,Nat.min_eq_left hzl],fun i hi=> ?_⟩⟩
  have hi':i<zs.length:=by rw[List.length_take]at hi;omega
  have hs:=spot_of (hc 0 (by omega))
  have hci:=hc i hi'
  have hb:=World.block_lt_of_cell? w _ hci
  rw[add_at hs]at hci hb
  exact⟨a.block,a.off,by rw[← addr_at hs],hb,by rw[hci];simp[hi']⟩
theorem field_of {t:TypeId} {fs:Array Field} {fuel:Nat} {cs:List Value} {x:DataW H×List MemPlace} (ht:Tryz.prog.underlying t=some (.struct fs)) (h:DataW.trod enc Tryz.prog w 0 spare true fuel t cs=some x) :
  cs.length=Tryz.prog.cellsOf t∧∀(i:Nat) (f:Field),fs.toList[i]? =some f→∃n y,DataW.trod enc Tryz.prog w 0 spare true n f.type ((cs.drop f.offset).take (Tryz.prog.cellsOf f.type))=some y:=by
 obtain⟨xs,n,_,_,hl,hlen,hf⟩:=DataW.trod_struct ht h
 refine⟨hl,fun i f hfi'=> ?_⟩
 have hfi:fs[i]? =some f:=by rw[← hfi'];simp
 have hi:i<xs.length:=by rw[hlen];exact(Array.getElem?_eq_some_iff.1 hfi).1
 exact⟨n,xs[i],by rw[hf i f hfi];exact List.getElem?_eq_getElem hi⟩
theorem size_int:Tryz.prog.cellsOf 3=1:=by kernel_rfl
theorem size_bool:Tryz.prog.cellsOf 4=1:=by kernel_rfl
theorem size_span:Tryz.prog.cellsOf 25=2:=by kernel_rfl
theorem size_slice_int:Tryz.prog.cellsOf 30=1:=by kernel_rfl
theorem cells2 {l:List Value} (h:l.length=2):∃a0 a1,l=[a0,a1]:=by
 match l,h with
 | [a0,a1],_=>exact⟨a0,a1,rfl⟩
set_option maxRecDepth 100000 in
theorem span_of {fuel:Nat} {cs:List Value} {x:DataW H×List MemPlace} (h:DataW.trod enc Tryz.prog w 0 spare true fuel 25 cs=some x):∃a b,cs=[.int .i64 a,.int .i64 b]:=by
 obtain⟨hl,hf⟩:=field_of Tryz.underlying25 h
 rw[size_span]at hl
 obtain⟨c0,c1,rfl⟩:=cells2 hl
 obtain⟨_,_,h0⟩:=hf 0 _ rfl
 obtain⟨_,_,h1⟩:=hf 1 _ rfl
 simp only[size_int,List.drop_zero,List.take_succ_cons,List.take_zero,List.drop_succ_cons]at h0 h1
 obtain⟨n0,e0⟩:=int_of h0
 obtain⟨n1,e1⟩:=int_of h1
 cases e0;cases e1
 exact⟨n0,n1,rfl⟩
set_option maxRecDepth 100000 in
theorem agg_of {t:TypeId} {fs:Array Field} {r:Reach} {b0:Nat} {v:Value} (ht:Tryz.prog.underlying t=some (.struct fs)) (hv:Value.okWide Tryz.prog w r b0 t v) {l:List Value} (hl:v.cells.toList=l):v= .agg l.toArray:=by
 obtain⟨cs,rfl,_⟩:=okWide_struct ht hv
 subst hl
 simp[Value.cells]
set_option maxRecDepth 100000 in
theorem slice_cell {t e:TypeId} {r:Reach} {b0:Nat} {v:Value} (ht:Tryz.prog.underlying t=some (.slice e)) (hv:Value.okWide Tryz.prog w r b0 t v):v.cells.toList=[v]:=by
 unfold Value.okWide at hv
 rw[ht]at hv
 simp only at hv
 unfold Cell.okWide Cell.ok at hv
 rw[ht]at hv
 cases v<;>first|rfl|exact hv.elim
set_option maxRecDepth 100000 in
theorem list_of {v:Value} {d:DataW H} {ps:List MemPlace} {r:Reach} {b0:Nat} (hv:Value.okWide Tryz.prog w r b0 30 v) (h:DataW.Trod enc Tryz.prog w 0 spare true 30 v d ps):∃xs,Ints w v xs:=by
 obtain⟨fuel,h⟩:=h
 rw[slice_cell Tryz.underlying30 hv]at h
 obtain⟨v',xs,e,hI⟩:=ints_of h
 cases e
 exact⟨xs,hI⟩
end Go.Proofs.YtgloajbgphcloaaGreat
