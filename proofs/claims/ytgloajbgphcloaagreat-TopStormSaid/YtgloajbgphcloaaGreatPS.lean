/- PROVED: 'motutop.TopStorm' returns true for every input, and each argument reads behind the call as it did before. No condition. -/
import Derived.Test.YtgloajbgphcloaaGreatP0
import Derived.Test.YtgloajbgphcloaaGreatWlE1
import Derived.Test.YtgloajbgphcloaaGreatEnS
import Derived.Test.YtgloajbgphcloaaGreatLS
namespace Go.Proofs.YtgloajbgphcloaaGreat
set_option linter.unusedVariables false
set_option linter.unusedSimpArgs false
open Go.RowKit Go.ChangeShapes Go.WideShapes Go.ChangeAt
set_option maxRecDepth 100000 in
theorem topStorm_lifted (os : Os) (started : os.Started) (H : Type) (enc : TypeId × Value → H) :
    ReturnsInHanded {} Tryz.checked os 3 .any (Rows.topStormSpec.pre6 enc Tryz.prog Tryz.f3 Rows.topStormRow.domain false) (Rows.topStormSpec.post enc Tryz.prog Tryz.f3 false true false false) := by
  refine returnsInHanded_of_change (C := Tryz.checked) own_knob started (by kernel_rfl) Tryz.func3
    (ChangeSpec.witness6 (enc := enc) (C := Tryz.checked) false ⟨#[], #[.agg #[.slice none 0 0, .slice none 0 0, .int .i64 0, .int .i64 0, .int .i64 0], .agg #[.int .i64 0, .int .i64 0, .int .i64 0, .int .i64 0, .int .i64 0, .int .i64 0], .agg #[.slice none 0 0, .int .i64 0, .int .i64 0, .slice none 0 0, .int .i64 0, .int .i64 0], .agg #[.int .i64 0, .int .i64 0], .int .i64 0, .int .i64 0, .int .i64 0], []⟩ 8 (by kernel_rfl) (by kernel_rfl) (by kernel_rfl) (by kernel_rfl)) ?_
  intro W base args ds gs before hval0 hW hcnd _
  have hval : ∀ (j : Nat) t v, Tryz.f3.params[j]? = some t → args[j]? = some v → Value.okWide Tryz.prog W .any base t v := hval0
  have hW' := hW
  obtain ⟨p, q, hA0, hV, rfl, hfz, hnd⟩ := hW
  have hA : DataW.TrodAll enc Tryz.prog W 0 (fun _ => true) true Tryz.f3.params.toList args.toList ds p := hA0
  rw [Tryz.params3] at hA hval
  obtain ⟨v0, vs0, d0, ds0, p0, q0, hargs, rfl, rfl, h0, r0⟩ := trodAll_cons hA
  obtain ⟨v1, vs1, d1, ds1, p1, q1, rfl, rfl, rfl, h1, r1⟩ := trodAll_cons r0
  obtain ⟨v2, vs2, d2, ds2, p2, q2, rfl, rfl, rfl, h2, r2⟩ := trodAll_cons r1
  obtain ⟨v3, vs3, d3, ds3, p3, q3, rfl, rfl, rfl, h3, r3⟩ := trodAll_cons r2
  obtain ⟨v4, vs4, d4, ds4, p4, q4, rfl, rfl, rfl, h4, r4⟩ := trodAll_cons r3
  obtain ⟨v5, vs5, d5, ds5, p5, q5, rfl, rfl, rfl, h5, r5⟩ := trodAll_cons r4
  obtain ⟨v6, vs6, d6, ds6, p6, q6, rfl, rfl, rfl, h6, r6⟩ := trodAll_cons r5
  obtain ⟨rfl, rfl, rfl⟩ := trodAll_nil r6
  obtain rfl : args = #[v0, v1, v2, v3, v4, v5, v6] := by cases args; simp_all
  obtain ⟨rfl, rfl⟩ := trodVars_none hV
  obtain ⟨s, vc, vw, rfl, hC, hWo, _⟩ := Wl.shore_of (hval 0 27 v0 rfl rfl) h0
  obtain ⟨c, rfl⟩ := Wl.storm_of (hval 1 29 v1 rfl rfl) h1
  obtain ⟨p, vt, vs, rfl, hT, hS⟩ := pass_of (hval 2 33 v2 rfl rfl) h2
  obtain ⟨d, h, rfl⟩ := call_of (hval 3 35 v3 rfl rfl) h3
  obtain ⟨wind, rfl, rfl, rfl, wfwind⟩ := open_int Tryz.underlying3 (hval 4 3 v4 rfl rfl) h4
  obtain ⟨fetch, rfl, rfl, rfl, wffetch⟩ := open_int Tryz.underlying3 (hval 5 3 v5 rfl rfl) h5
  obtain ⟨loss, rfl, rfl, rfl, wfloss⟩ := open_int Tryz.underlying3 (hval 6 3 v6 rfl rfl) h6
  refine (topStorm_law (s := s) (vc := vc) (vw := vw) (hC := hC) (hW := hWo) (c := c) (p := p) (vt := vt) (vs := vs) (hT := hT) (hS := hS) (d := d) (h := h) (wind := wind) (fetch := fetch) (loss := loss) (w := W)).mono fun e W' ⟨he, hE⟩ => ?_
  subst he
  exact ⟨_, rfl, law_post rfl (by kernel_rfl) (by intro t ht; have : ∀ t ∈ Tryz.f3.params.toList, (Tryz.prog.readableRec t && decide (t < Tryz.prog.types.size)) = true := (by rw [← List.all_eq_true]; kernel_rfl); have := this t ht; simpa using this) hW' rfl rfl rfl hE⟩
theorem topStorm_holds : Rows.TopStormSaid :=
  OpenClaim.holds_of_wide 3 Tryz.f3 rfl rfl rfl rfl rfl rfl rfl ⟨rfl, rfl, rfl, rfl, rfl⟩ rfl rfl rfl rfl rfl (by kernel_rfl) Tryz.func3 (by kernel_rfl)
    (of_decide_eq_true (by kernel_rfl)) (by unfold Func.isWrapper; first | (rw [if_pos (by decide +kernel)]; kernel_rfl) | (rw [if_neg (by decide +kernel)]; exact ⟨rfl, rfl⟩))
    (fun os started H enc _ => topStorm_lifted os started H enc)
end Go.Proofs.YtgloajbgphcloaaGreat
