/- PROVED: 'motutop.TopFished' returns true for every input, and each argument reads behind the call as it did before. No condition. -/
import Derived.Test.YtgloajbgphcloaaGreatP0
import Derived.Test.YtgloajbgphcloaaGreatEnF
import Derived.Test.YtgloajbgphcloaaGreatLF
namespace Go.Proofs.YtgloajbgphcloaaGreat
set_option linter.unusedVariables false
set_option linter.unusedSimpArgs false
open Go.RowKit Go.ChangeShapes Go.WideShapes Go.ChangeAt
set_option maxRecDepth 100000 in
theorem topFished_lifted (os:Os) (started:os.Started) (H:Type) (enc:TypeId×Value→H) :
  ReturnsInHanded {} Tryz.checked os 7 .any (Rows.topFishedSpec.pre6 enc Tryz.prog Tryz.f7 Rows.topFishedRow.domain false) (Rows.topFishedSpec.post enc Tryz.prog Tryz.f7 false true false false):=by
 refine returnsInHanded_of_change (C:=Tryz.checked) own_knob started (by kernel_rfl) Tryz.func7
  (ChangeSpec.witness6 (enc:=enc) (C:=Tryz.checked) false ⟨#[],#[.agg #[.slice none 0 0,.int .i64 0,.int .i64 0],.slice none 0 0,.int .i64 0,.agg #[.int .i64 0,.slice none 0 0,.slice none 0 0,.slice none 0 0,.int .i64 0],.slice none 0 0,.int .i64 0,.int .i64 0,.agg #[.slice none 0 0,.slice none 0 0,.slice none 0 0]],[]⟩ 8 (by kernel_rfl) (by kernel_rfl) (by kernel_rfl) (by kernel_rfl)) ?_
 intro W base args ds gs before hval0 hW hcnd _
 have hval:∀(j:Nat) t v,Tryz.f7.params[j]? =some t→args[j]? =some v→Value.okWide Tryz.prog W .any base t v:=hval0
 have hW':=hW
 obtain⟨p,q,hA0,hV,rfl,hfz,hnd⟩:=hW
 have hA:DataW.TrodAll enc Tryz.prog W 0 (fun _=>true) true Tryz.f7.params.toList args.toList ds p:=hA0
 rw[Tryz.params7]at hA hval
 obtain⟨v0,vs0,d0,ds0,p0,q0,hargs,rfl,rfl,h0,r0⟩:=trodAll_cons hA
 obtain⟨v1,vs1,d1,ds1,p1,q1,rfl,rfl,rfl,h1,r1⟩:=trodAll_cons r0
 obtain⟨v2,vs2,d2,ds2,p2,q2,rfl,rfl,rfl,h2,r2⟩:=trodAll_cons r1
 obtain⟨v3,vs3,d3,ds3,p3,q3,rfl,rfl,rfl,h3,r3⟩:=trodAll_cons r2
 obtain⟨v4,vs4,d4,ds4,p4,q4,rfl,rfl,rfl,h4,r4⟩:=trodAll_cons r3
 obtain⟨v5,vs5,d5,ds5,p5,q5,rfl,rfl,rfl,h5,r5⟩:=trodAll_cons r4
 obtain⟨v6,vs6,d6,ds6,p6,q6,rfl,rfl,rfl,h6,r6⟩:=trodAll_cons r5
 obtain⟨v7,vs7,d7,ds7,p7,q7,rfl,rfl,rfl,h7,r7⟩:=trodAll_cons r6
 obtain⟨rfl,rfl,rfl⟩:=trodAll_nil r7
 obtain rfl:args=#[v0,v1,v2,v3,v4,v5,v6,v7]:=by cases args;simp_all
 obtain⟨rfl,rfl⟩:=trodVars_none hV
 obtain⟨r,vp,rfl,hP⟩:=reef_of (hval 0 111 v0 rfl rfl) h0
 obtain⟨plan,hPl⟩:=list_of (hval 1 30 v1 rfl rfl) h1
 obtain⟨place,rfl,rfl,rfl,wfplace⟩:=open_int Tryz.underlying3 (hval 2 3 v2 rfl rfl) h2
 obtain⟨s,vr,vz,vb,rfl,hRo,hZo,hBe⟩:=fleet_of (hval 3 89 v3 rfl rfl) h3
 obtain⟨bl,hBi⟩:=bids_arg (hval 4 112 v4 rfl rfl) h4
 obtain⟨zone,rfl,rfl,rfl,wfzone⟩:=open_int Tryz.underlying3 (hval 5 3 v5 rfl rfl) h5
 obtain⟨boat,rfl,rfl,rfl,wfboat⟩:=open_int Tryz.underlying3 (hval 6 3 v6 rfl rfl) h6
 obtain⟨t,vs,vg,vt,rfl,hS,hG,hT⟩:=reeftruth_of (hval 7 114 v7 rfl rfl) h7
 refine(topFished_law (r:=r) (vp:=vp) (hP:=hP) (plan:=plan) (vl:=v1) (hPl:=hPl) (place:=place) (s:=s) (vr:=vr) (vz:=vz) (vb:=vb) (hRo:=hRo) (hZo:=hZo) (hBe:=hBe) (bl:=bl) (vd:=v4) (hBi:=hBi) (zone:=zone) (boat:=boat) (t:=t) (vs:=vs) (vg:=vg) (vt:=vt) (hS:=hS) (hG:=hG) (hT:=hT) (w:=W)).mono fun e W' ⟨he,hE⟩=> ?_
 subst he
 exact⟨_,rfl,law_post rfl (by kernel_rfl) (by intro t ht;have:∀t∈Tryz.f7.params.toList,(Tryz.prog.readableRec t&&decide (t<Tryz.prog.types.size))=true:=(by rw[← List.all_eq_true];kernel_rfl);have:=this t ht;simpa using this) hW' rfl rfl rfl hE⟩
theorem topFished_holds:Rows.TopFishedSaid :=
 OpenClaim.holds_of_wide 7 Tryz.f7 rfl rfl rfl rfl rfl rfl rfl ⟨rfl,rfl,rfl,rfl,rfl⟩ rfl rfl rfl rfl rfl (by kernel_rfl) Tryz.func7 (by kernel_rfl)
  (of_decide_eq_true (by kernel_rfl)) (by unfold Func.isWrapper;first|(rw[if_pos (by decide +kernel)];kernel_rfl)|(rw[if_neg (by decide +kernel)];exact⟨rfl,rfl⟩))
  (fun os started H enc _=>topFished_lifted os started H enc)
end Go.Proofs.YtgloajbgphcloaaGreat
