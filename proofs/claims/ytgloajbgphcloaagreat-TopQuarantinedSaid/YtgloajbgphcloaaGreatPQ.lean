/- PROVED: 'motutop.TopQuarantined' returns true for every input, and each argument reads behind the call as it did before. No condition. -/
import Derived.Test.YtgloajbgphcloaaGreatP0
import Derived.Test.YtgloajbgphcloaaGreatEnQ
import Derived.Test.YtgloajbgphcloaaGreatLQ
namespace Go.Proofs.YtgloajbgphcloaaGreat
set_option linter.unusedVariables false
set_option linter.unusedSimpArgs false
open Go.RowKit Go.ChangeShapes Go.WideShapes Go.ChangeAt
set_option maxRecDepth 100000 in
theorem topQuarantined_lifted (os:Os) (started:os.Started) (H:Type) (enc:TypeId×Value→H) :
  ReturnsInHanded {} Tryz.checked os 5 .any (Rows.topQuarantinedSpec.pre6 enc Tryz.prog Tryz.f5 Rows.topQuarantinedRow.domain false) (Rows.topQuarantinedSpec.post enc Tryz.prog Tryz.f5 false true false false):=by
 refine returnsInHanded_of_change (C:=Tryz.checked) own_knob started (by kernel_rfl) Tryz.func5
  (ChangeSpec.witness6 (enc:=enc) (C:=Tryz.checked) false ⟨#[],#[.agg #[.slice none 0 0,.int .i64 0,.int .i64 0,.slice none 0 0,.int .i64 0,.int .i64 0],.agg #[.int .i64 0,.int .i64 0],.int .i64 0,.int .i64 0],[]⟩ 8 (by kernel_rfl) (by kernel_rfl) (by kernel_rfl) (by kernel_rfl)) ?_
 intro W base args ds gs before hval0 hW hcnd _
 have hval:∀(j:Nat) t v,Tryz.f5.params[j]? =some t→args[j]? =some v→Value.okWide Tryz.prog W .any base t v:=hval0
 have hW':=hW
 obtain⟨p,q,hA0,hV,rfl,hfz,hnd⟩:=hW
 have hA:DataW.TrodAll enc Tryz.prog W 0 (fun _=>true) true Tryz.f5.params.toList args.toList ds p:=hA0
 rw[Tryz.params5]at hA hval
 obtain⟨v0,vs0,d0,ds0,p0,q0,hargs,rfl,rfl,h0,r0⟩:=trodAll_cons hA
 obtain⟨v1,vs1,d1,ds1,p1,q1,rfl,rfl,rfl,h1,r1⟩:=trodAll_cons r0
 obtain⟨v2,vs2,d2,ds2,p2,q2,rfl,rfl,rfl,h2,r2⟩:=trodAll_cons r1
 obtain⟨v3,vs3,d3,ds3,p3,q3,rfl,rfl,rfl,h3,r3⟩:=trodAll_cons r2
 obtain⟨rfl,rfl,rfl⟩:=trodAll_nil r3
 obtain rfl:args=#[v0,v1,v2,v3]:=by cases args;simp_all
 obtain⟨rfl,rfl⟩:=trodVars_none hV
 obtain⟨p,vt,vs,rfl,hT,hS⟩:=pass_of (hval 0 33 v0 rfl rfl) h0
 obtain⟨ga,gb,rfl⟩:=spanarg_of (hval 1 25 v1 rfl rfl) h1
 obtain⟨many,rfl,rfl,rfl,wfmany⟩:=open_int Tryz.underlying3 (hval 2 3 v2 rfl rfl) h2
 obtain⟨wait,rfl,rfl,rfl,wfwait⟩:=open_int Tryz.underlying3 (hval 3 3 v3 rfl rfl) h3
 refine(topQuarantined_law (p:=p) (vt:=vt) (vs:=vs) (hT:=hT) (hS:=hS) (lo:=ga) (hi:=gb) (many:=many) (wait:=wait) (w:=W)).mono fun e W' ⟨he,hE⟩=> ?_
 subst he
 exact⟨_,rfl,law_post rfl (by kernel_rfl) (by intro t ht;have:∀t∈Tryz.f5.params.toList,(Tryz.prog.readableRec t&&decide (t<Tryz.prog.types.size))=true:=(by rw[← List.all_eq_true];kernel_rfl);have:=this t ht;simpa using this) hW' rfl rfl rfl hE⟩
theorem topQuarantined_holds:Rows.TopQuarantinedSaid :=
 OpenClaim.holds_of_wide 5 Tryz.f5 rfl rfl rfl rfl rfl rfl rfl ⟨rfl,rfl,rfl,rfl,rfl⟩ rfl rfl rfl rfl rfl (by kernel_rfl) Tryz.func5 (by kernel_rfl)
  (of_decide_eq_true (by kernel_rfl)) (by unfold Func.isWrapper;first|(rw[if_pos (by decide +kernel)];kernel_rfl)|(rw[if_neg (by decide +kernel)];exact⟨rfl,rfl⟩))
  (fun os started H enc _=>topQuarantined_lifted os started H enc)
end Go.Proofs.YtgloajbgphcloaaGreat
