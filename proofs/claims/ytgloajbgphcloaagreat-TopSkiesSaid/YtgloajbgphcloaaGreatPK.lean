/- PROVED: 'motutop.TopSkies' returns true for every input, and each argument reads behind the call as it did before. No condition. -/
import Derived.Test.YtgloajbgphcloaaGreatP0
import Derived.Test.YtgloajbgphcloaaGreatEnK
import Derived.Test.YtgloajbgphcloaaGreatLK
namespace Go.Proofs.YtgloajbgphcloaaGreat
set_option linter.unusedVariables false
set_option linter.unusedSimpArgs false
open Go.RowKit Go.ChangeShapes Go.WideShapes Go.ChangeAt
set_option maxRecDepth 100000 in
theorem topSkies_lifted (os : Os) (started : os.Started) (H : Type) (enc : TypeId × Value → H) :
    ReturnsInHanded {} Tryz.checked os 4 .any (Rows.topSkiesSpec.pre6 enc Tryz.prog Tryz.f4 Rows.topSkiesRow.domain false) (Rows.topSkiesSpec.post enc Tryz.prog Tryz.f4 false true false false) := by
  refine returnsInHanded_of_change (C := Tryz.checked) own_knob started (by kernel_rfl) Tryz.func4
    (ChangeSpec.witness6 (enc := enc) (C := Tryz.checked) false ⟨#[], #[.agg #[.int .i64 0, .int .i64 0, .int .i64 0, .int .i64 0, .int .i64 0, .int .i64 0, .int .i64 0, .int .i64 0, .int .i64 0, .int .i64 0, .int .i64 0, .int .i64 0, .slice none 0 0, .slice none 0 0, .int .i64 0, .int .i64 0], .agg #[.int .i64 0, .int .i64 0, .int .i64 0, .int .i64 0, .int .i64 0, .slice none 0 0, .int .i64 0, .int .i64 0, .int .i64 0, .int .i64 0, .int .i64 0], .agg #[.int .i64 0, .int .i64 0, .int .i64 0, .slice none 0 0, .slice none 0 0, .slice none 0 0], .int .i64 0], []⟩ 8 (by kernel_rfl) (by kernel_rfl) (by kernel_rfl) (by kernel_rfl)) ?_
  intro W base args ds gs before hval0 hW hcnd _
  have hval : ∀ (j : Nat) t v, Tryz.f4.params[j]? = some t → args[j]? = some v → Value.okWide Tryz.prog W .any base t v := hval0
  have hW' := hW
  obtain ⟨p, q, hA0, hV, rfl, hfz, hnd⟩ := hW
  have hA : DataW.TrodAll enc Tryz.prog W 0 (fun _ => true) true Tryz.f4.params.toList args.toList ds p := hA0
  rw [Tryz.params4] at hA hval
  obtain ⟨v0, vs0, d0, ds0, p0, q0, hargs, rfl, rfl, h0, r0⟩ := trodAll_cons hA
  obtain ⟨v1, vs1, d1, ds1, p1, q1, rfl, rfl, rfl, h1, r1⟩ := trodAll_cons r0
  obtain ⟨v2, vs2, d2, ds2, p2, q2, rfl, rfl, rfl, h2, r2⟩ := trodAll_cons r1
  obtain ⟨v3, vs3, d3, ds3, p3, q3, rfl, rfl, rfl, h3, r3⟩ := trodAll_cons r2
  obtain ⟨rfl, rfl, rfl⟩ := trodAll_nil r3
  obtain rfl : args = #[v0, v1, v2, v3] := by cases args; simp_all
  obtain ⟨rfl, rfl⟩ := trodVars_none hV
  obtain ⟨i, vw, vm, rfl, hWe, hMo⟩ := islet_of (hval 0 52 v0 rfl rfl) h0
  obtain ⟨c, vl, rfl, hL⟩ := system_of (hval 1 55 v1 rfl rfl) h1
  obtain ⟨t, vd, vr, vn, rfl, hD, hR, hN⟩ := lenstruth_of (hval 2 58 v2 rfl rfl) h2
  obtain ⟨row, rfl, rfl, rfl, wfrow⟩ := open_int Tryz.underlying3 (hval 3 3 v3 rfl rfl) h3
  refine (topSkies_law (i := i) (vw := vw) (vm := vm) (hWe := hWe) (hMo := hMo) (c := c) (vl := vl) (hL := hL) (t := t) (vd := vd) (vr := vr) (vn := vn) (hD := hD) (hR := hR) (hN := hN) (row := row) (w := W)).mono fun e W' ⟨he, hE⟩ => ?_
  subst he
  exact ⟨_, rfl, law_post rfl (by kernel_rfl) (by intro t ht; have : ∀ t ∈ Tryz.f4.params.toList, (Tryz.prog.readableRec t && decide (t < Tryz.prog.types.size)) = true := (by rw [← List.all_eq_true]; kernel_rfl); have := this t ht; simpa using this) hW' rfl rfl rfl hE⟩
theorem topSkies_holds : Rows.TopSkiesSaid :=
  OpenClaim.holds_of_wide 4 Tryz.f4 rfl rfl rfl rfl rfl rfl rfl ⟨rfl, rfl, rfl, rfl, rfl⟩ rfl rfl rfl rfl rfl (by kernel_rfl) Tryz.func4 (by kernel_rfl)
    (of_decide_eq_true (by kernel_rfl)) (by unfold Func.isWrapper; first | (rw [if_pos (by decide +kernel)]; kernel_rfl) | (rw [if_neg (by decide +kernel)]; exact ⟨rfl, rfl⟩))
    (fun os started H enc _ => topSkies_lifted os started H enc)
end Go.Proofs.YtgloajbgphcloaaGreat
