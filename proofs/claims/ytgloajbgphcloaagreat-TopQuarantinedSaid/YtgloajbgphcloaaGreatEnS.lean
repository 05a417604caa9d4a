/- What an argument reads as: a pass, a call. -/
import Derived.Test.YtgloajbgphcloaaGreatEn
import Derived.Test.YtgloajbgphcloaaGreatSh
namespace Go.Proofs.YtgloajbgphcloaaGreat
set_option linter.unusedVariables false
set_option linter.unusedSimpArgs false
open Go.RowKit Go.ChangeShapes Go.WideShapes
open List renaming drop_succ_cons → Qb, take_succ_cons → Qa
variable {H:Type} {enc:TypeId×Value→H} {w:World} {spare:Nat→Bool}
theorem sp_of {fuel:Nat} {cs:List Value} {x:DataW H×List MemPlace} (h:DataW.trod enc Tryz.prog w 0 spare true fuel 25 cs=some x):∃l:Int×Int,cs=Sh.spC l:=by
 obtain⟨a,b,rfl⟩:=span_of h
 exact⟨(a,b),rfl⟩
theorem size_spans:Tryz.prog.cellsOf 31=1:=by kernel_rfl
theorem spans_of {fuel:Nat} {cs:List Value} {x:DataW H×List MemPlace} (h:DataW.trod enc Tryz.prog w 0 spare true fuel 31 cs=some x):∃v xs,cs=[v]∧Sh.Spans w v xs:=by
 rcases Deep.open_slice Tryz.underlying31 h with⟨rfl,_⟩|⟨a,len,cap,m,n,D,Pl,rfl,_,hlc,_,hm,_,hi⟩
 ·exact⟨_,[],rfl,Sls.nil w⟩
 ·have hlm:len≤m:=by rw[hm];split<;>omega
  rw[size_span]at hi
  obtain⟨f,hf⟩:=Deep.choose_lt (α:=Int×Int) (n:=len) (p:=fun i c=>w.cells? 0 (a.add (i*2)) 2=some (Sh.spC c)) (fun i hil=>by
   obtain⟨cs',h1,h2⟩:=hi i (by omega)
   obtain⟨c,rfl⟩:=sp_of h2
   exact⟨c,h1⟩)
  refine⟨_,(List.range len).map f,rfl,⟨some a,cap,by simp,fun i hil=> ?_⟩⟩
  have hil':i<len:=by simpa using hil
  obtain⟨_,_,hc⟩:=World.cells?_some (hf i hil')
  obtain⟨_,_,hc0⟩:=World.cells?_some (hf 0 (by omega))
  have hs:a.spot=none:=by
   have:=hc0 0 (by omega)
   simp only[Nat.zero_mul]at this
   have h2:=World.cell?_spot this
   simpa[Addr.add]using h2
  have e:((List.range len).map f)[i]=f i:=by simp
  rw[e]
  have k:=fun j (hj:j<2)=>by have:=hc j hj;rw[add_add_at hs]at this;exact this
  refine⟨a.block,a.off,by rw[← addr_at hs],?_,fun j u hu=> ?_⟩
  ·exact World.block_lt_of_cell? w ⟨a.block,a.off+i*2+0,none⟩ ((k 0 (by omega)).trans rfl)
  ·have hj:j<2:=(List.getElem?_eq_some_iff.1 hu).1
   rw[k j hj]
   rw[← hu]
   first|done|simp[Sh.spC,hj]
theorem cells6 {l:List Value} (h:l.length=6):∃a0 a1 a2 a3 a4 a5,l=[a0,a1,a2,a3,a4,a5]:=by
 match l,h with
 | [a0,a1,a2,a3,a4,a5],_=>exact⟨a0,a1,a2,a3,a4,a5,rfl⟩
theorem size_pass:Tryz.prog.cellsOf 33=6:=by kernel_rfl
set_option maxRecDepth 100000 in
theorem pass_of {v:Value} {d:DataW H} {ps:List MemPlace} {r:Reach} {b0:Nat} (hv:Value.okWide Tryz.prog w r b0 33 v) (h:DataW.Trod enc Tryz.prog w 0 spare true 33 v d ps) :
  ∃(p:Sh.Pass) (vt vs:Value),v= .agg (Sh.passV p vt vs)∧Ints w vt p.tides∧Sh.Spans w vs p.swell:=by
 obtain⟨fuel,h⟩:=h
 obtain⟨hl,hf⟩:=field_of Tryz.underlying33 h
 rw[size_pass]at hl
 obtain⟨c0,c1,c2,c3,c4,c5,hc⟩:=cells6 hl
 rw[hc]at hf
 obtain⟨_,_,h0⟩:=hf 0 _ rfl
 obtain⟨_,_,h1⟩:=hf 1 _ rfl
 obtain⟨_,_,h2⟩:=hf 2 _ rfl
 obtain⟨_,_,h3⟩:=hf 3 _ rfl
 obtain⟨_,_,h4⟩:=hf 4 _ rfl
 simp only[size_int,size_slice_int,size_span,size_spans,List.drop_zero,Qa,List.take_zero,Qb]at h0 h1 h2 h3 h4
 obtain⟨v0,n0,e0,r0⟩:=ints_of h0
 obtain⟨n1,e1⟩:=int_of h1
 obtain⟨n2,e2⟩:=int_of h2
 obtain⟨v3,n3,e3,r3⟩:=spans_of h3
 obtain⟨n4,m4,e4⟩:=span_of h4
 cases e0;cases e1;cases e2;cases e3;cases e4
 exact⟨⟨n0,n1,n2,n3,n4,m4⟩,_,_,agg_of Tryz.underlying33 hv hc,r0,r3⟩
theorem size_call:Tryz.prog.cellsOf 35=2:=by kernel_rfl
set_option maxRecDepth 100000 in
theorem call_of {v:Value} {d:DataW H} {ps:List MemPlace} {r:Reach} {b0:Nat} (hv:Value.okWide Tryz.prog w r b0 35 v) (h:DataW.Trod enc Tryz.prog w 0 spare true 35 v d ps) :
  ∃a b:Int,v= .agg #[.int .i64 a,.int .i64 b]:=by
 obtain⟨fuel,h⟩:=h
 obtain⟨hl,hf⟩:=field_of Tryz.underlying35 h
 rw[size_call]at hl
 obtain⟨c0,c1,hc⟩:=cells2 hl
 rw[hc]at hf
 obtain⟨_,_,h0⟩:=hf 0 _ rfl
 obtain⟨_,_,h1⟩:=hf 1 _ rfl
 simp only[size_int,List.drop_zero,Qa,List.take_zero,Qb]at h0 h1
 obtain⟨n0,e0⟩:=int_of h0
 obtain⟨n1,e1⟩:=int_of h1
 cases e0;cases e1
 exact⟨n0,n1,agg_of Tryz.underlying35 hv hc⟩
end Go.Proofs.YtgloajbgphcloaaGreat
