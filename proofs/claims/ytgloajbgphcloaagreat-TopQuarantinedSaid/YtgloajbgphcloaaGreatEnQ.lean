/- A span as an argument. -/
import Derived.Test.YtgloajbgphcloaaGreatEnS
namespace Go.Proofs.YtgloajbgphcloaaGreat
set_option linter.unusedVariables false
set_option linter.unusedSimpArgs false
open Go.RowKit Go.ChangeShapes Go.WideShapes
variable {H:Type} {enc:TypeId×Value→H} {w:World} {spare:Nat→Bool}
theorem size_spanarg:Tryz.prog.cellsOf 25=2:=by kernel_rfl
set_option maxRecDepth 100000 in
theorem spanarg_of {v:Value} {d:DataW H} {ps:List MemPlace} {r:Reach} {b0:Nat} (hv:Value.okWide Tryz.prog w r b0 25 v) (h:DataW.Trod enc Tryz.prog w 0 spare true 25 v d ps) :
  ∃a b:Int,v= .agg #[.int .i64 a,.int .i64 b]:=by
 obtain⟨fuel,h⟩:=h
 obtain⟨hl,hf⟩:=field_of Tryz.underlying25 h
 rw[size_spanarg]at hl
 obtain⟨c0,c1,hc⟩:=cells2 hl
 rw[hc]at hf
 obtain⟨_,_,h0⟩:=hf 0 _ rfl
 obtain⟨_,_,h1⟩:=hf 1 _ rfl
 simp only[size_int,List.drop_zero,List.take_succ_cons,List.take_zero,List.drop_succ_cons]at h0 h1
 obtain⟨n0,e0⟩:=int_of h0
 obtain⟨n1,e1⟩:=int_of h1
 cases e0;cases e1
 exact⟨n0,n1,agg_of Tryz.underlying25 hv hc⟩
end Go.Proofs.YtgloajbgphcloaaGreat
