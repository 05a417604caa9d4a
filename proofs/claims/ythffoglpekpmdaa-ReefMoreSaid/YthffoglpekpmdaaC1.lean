/- Which reefs are as defined, as the program asks it. -/
import Derived.Test.YthffoglpekpmdaaEnc
namespace Go.Proofs.Ythffoglpekpmdaa
set_option linter.unusedVariables false
set_option linter.unusedSimpArgs false
open Go.RowKit
theorem in_any (x lo hi : Int) (w : World) :
    Calls Try.prog 64 #[.int .i64 x, .int .i64 lo, .int .i64 hi] w fun e w' => e = .returned (.bool (R.within x lo hi)) ∧ w = w' := by
  go_enter Try.func64, Try.ntmps64
  go_wp2
  all_goals (go_ret; exact ⟨ret_bool (by rw [Bool.eq_iff_iff]; simp [R.within]; omega), rfl⟩)
theorem span_any (a b m : Int) (w : World) :
    Calls Try.prog 87 #[.agg #[.int .i64 a, .int .i64 b], .int .i64 m] w fun e w' => e = .returned (.bool (R.spanB a b m)) ∧ Ext w w' := by
  go_enter Try.func87, Try.ntmps87
  go_wp2
  all_goals (go_ret; exact ⟨ret_bool (by rw [Bool.eq_iff_iff]; simp [R.spanB]; omega), (Ext.refl _).alloc _⟩)
theorem inside_any (n a b : Int) (w : World) :
    Calls Try.prog 73 #[.int .i64 n, .agg #[.int .i64 a, .int .i64 b]] w fun e w' => e = .returned (.bool (R.within n a b)) ∧ Ext w w' := by
  go_enter Try.func73, Try.ntmps73
  go_wp2_with (first | (go_at_call 64; refine (in_any _ _ _ _).mono ?_; rintro e w' ⟨rfl, rfl⟩))
  all_goals (go_ret; exact ⟨rfl, (Ext.refl _).alloc _⟩)
/-- As the program asks it. -/
def placeB' (p : R.Place) (i n : Int) : Bool :=
  !(decide (p.into ≠ -1) && (!R.within p.into 0 (n - 1) || decide (p.into = i))) &&
  (R.within p.count 0 1000000 && R.within p.room 0 1000000 && R.within p.goal 0 1000000 && R.spanB p.gl p.gh 2000 && R.within p.drift 0 1000 && R.spanB p.ol p.oh 1000000 && R.spanB p.sl p.sh 1000000 && decide (p.sl ≤ p.ol) && decide (p.sh ≤ p.oh) && R.within p.worth 0 1000000)
theorem placeB'_eq (p : R.Place) (i n : Int) (hi : 0 ≤ i) (hn : 0 ≤ n) : placeB' p i n = R.placeB p i n := by
  unfold placeB' R.placeB
  rw [Bool.eq_iff_iff]
  simp only [Bool.and_eq_true, Bool.not_eq_true', Bool.and_eq_false_imp, Bool.or_eq_false_iff, decide_eq_true_eq, decide_eq_false_iff_not, R.within, Bool.not_eq_false', ne_eq]
  constructor
  · rintro ⟨h1, ⟨⟨⟨⟨⟨⟨⟨⟨⟨h2, h3⟩, h4⟩, h5⟩, h6⟩, h7⟩, h8⟩, h9⟩, h10⟩, h11⟩⟩
    refine ⟨⟨⟨⟨⟨⟨⟨⟨⟨⟨⟨h2, h3⟩, h4⟩, h5⟩, h6⟩, ?_⟩, ?_⟩, h7⟩, h8⟩, h9⟩, h10⟩, h11⟩ <;> by_cases e : p.into = -1
    · omega
    · have := h1 e; omega
    · omega
    · exact (h1 e).2
  · rintro ⟨⟨⟨⟨⟨⟨⟨⟨⟨⟨⟨h2, h3⟩, h4⟩, h5⟩, h6⟩, h12⟩, h13⟩, h7⟩, h8⟩, h9⟩, h10⟩, h11⟩
    exact ⟨fun e => ⟨by omega, h13⟩, ⟨⟨⟨⟨⟨⟨⟨⟨⟨h2, h3⟩, h4⟩, h5⟩, h6⟩, h7⟩, h8⟩, h9⟩, h10⟩, h11⟩⟩
set_option maxRecDepth 100000 in
set_option maxHeartbeats 4000000 in
theorem place_any (p : R.Place) (i n : Int) (hn : 0 ≤ n) (hn2 : n ≤ 1000000) (w : World) :
    Calls Try.prog 82 #[.agg (placeV p), .int .i64 i, .int .i64 n] w fun e w' => e = .returned (.bool (placeB' p i n)) ∧ Ext w w' := by
  go_enter Try.func82, Try.ntmps82
  go_wp2_with (first | (go_at_call 64; refine (in_any _ _ _ _).mono ?_; rintro e w' ⟨rfl, rfl⟩) | (go_at_call 87; refine (span_any _ _ _ _).mono ?_; rintro e w' ⟨rfl, hb⟩; have hc := hb.cells.1; have hz := hb.size; (try simp only [World.size_alloc, size_drew, size_drewN, size_setCell] at hz); have hs0 : w.heap.size < w'.heap.size := (by omega)))
  all_goals (go_ret; refine ⟨ret_bool (by first | (simp [placeB', *]; done) | (simp [placeB', *]; (try intros); omega) | (simp_all [placeB']; done) | (simp_all [placeB']; omega)), ?_⟩)
  all_goals (with_reducible (repeat (first | exact Ext.refl _ | assumption | apply Ext.alloc | apply Ext.drew | exact ext_plus _ _ | (apply Ext.setCell; rotate_left; (simp <;> omega)) | (apply Ext.trans; rotate_left; exact ext_plus _ _) | (apply Ext.trans; rotate_left; assumption))))
end Go.Proofs.Ythffoglpekpmdaa
