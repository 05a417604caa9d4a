/- The document's examples: what the program answers there. -/
import Derived.Test.YtmlobiajimlboaaR6
import Derived.Test.YtmlobiajimlboaaD13
import Derived.Test.YtmlobiajimlboaaD7
import Derived.Test.YtmlobiajimlboaaD5
namespace Go.Proofs.Ytmlobiajimlboaa
set_option linter.unusedVariables false
set_option linter.unusedSimpArgs false
open Go.RowKit
theorem ints4 (w : World) (a b c d : Int) : Ints (w.alloc (.cells #[.int .i64 a, .int .i64 b, .int .i64 c, .int .i64 d] 3)) (.slice (some ⟨w.heap.size, 0, none⟩) 4 4) [a, b, c, d] := by
  refine (IntsB.of_blk (xs := [a, b, c, d]) (Blk.new' rfl _ _) (fun i hi => ?_) 4).1
  match i, hi with
  | 0, _ => rfl
  | 1, _ => rfl
  | 2, _ => rfl
  | 3, _ => rfl
theorem spans4 (w : World) (a b c d e f g h : Int) : Spans (w.alloc (.cells #[.int .i64 a, .int .i64 b, .int .i64 c, .int .i64 d, .int .i64 e, .int .i64 f, .int .i64 g, .int .i64 h] 25)) (.slice (some ⟨w.heap.size, 0, none⟩) 4 4) [(a, b), (c, d), (e, f), (g, h)] := by
  have k := (Blk.new w #[.int .i64 a, .int .i64 b, .int .i64 c, .int .i64 d, .int .i64 e, .int .i64 f, .int .i64 g, .int .i64 h] 25).cell
  refine ⟨_, _, rfl, fun i hi => ⟨_, 0, rfl, by simp, ?_⟩⟩
  match i, hi with
  | 0, _ => exact ⟨(k 0).trans rfl, (k 1).trans rfl⟩
  | 1, _ => exact ⟨(k 2).trans rfl, (k 3).trans rfl⟩
  | 2, _ => exact ⟨(k 4).trans rfl, (k 5).trans rfl⟩
  | 3, _ => exact ⟨(k 6).trans rfl, (k 7).trans rfl⟩
def exTruth : W.Truth := ⟨250, 800, 40, 150, [15, 25, 30, 15]⟩
theorem ex_level : levelOf exShore exStorm = (84, 293) := by decide +kernel
theorem ex_ok : W.okB exShore exStorm = true := by decide +kernel
theorem ex_depths : depths2Of exShore exStorm [-1, -1, -1, -1] = [(0, 183), (0, 113), (0, 63), (0, 58)] := by decide +kernel
theorem ex_okd : codeOf (W.okB exShore exStorm && W.planB exShore [-1, -1, -1, -1]) = 0 := by decide +kernel
theorem ex_play : playOf exShore exStorm [-1, -1, -1, -1] exTruth = [70, 0, 0, 0] := by decide +kernel
theorem ex_playc : codeOf (W.playB exShore exStorm [-1, -1, -1, -1] exTruth) = 0 := by decide +kernel
theorem ex_best : bestOf exShore exStorm = ([1, 1, 1, -1], 60, 0) := by decide +kernel
theorem ex_spare : spareOf exShore exStorm 59 = ([-1, -1, -1, 0], 1, 50, 0) := by decide +kernel
theorem ex_inward : inwardOf exShore exStorm [1, 1, 1, -1] 0 = (2, 0) := by decide +kernel
theorem exLevel_any (vc vw : Value) (w : World) (hC : Cells w vc exShore.cells) (hW : Works w vw exShore.works) :
    Calls Try.prog 24 #[shoreA exShore vc vw, stormA exStorm] w fun e w' => e = .returned (.tuple #[.agg #[.int .i64 84, .int .i64 293], .int .i64 0]) ∧ Ext w w' := by
  have := levelQ_any exShore exStorm vc vw w hC hW (by decide) (by decide)
  rw [ex_level, ex_ok] at this
  exact this
theorem exDepths_any (vc vw vp : Value) (w : World) (hC : Cells w vc exShore.cells) (hW : Works w vw exShore.works) (hP : Ints w vp [-1, -1, -1, -1]) :
    Calls Try.prog 21 #[shoreA exShore vc vw, stormA exStorm, vp] w fun e w' => ∃ v, e = .returned (.tuple #[v, .int .i64 0]) ∧ Spans w' v [(0, 183), (0, 113), (0, 63), (0, 58)] ∧ Ext w w' := by
  have := depthsQ_any exShore exStorm [-1, -1, -1, -1] vc vw vp w hC hW hP (by decide) (by decide) (by decide)
  rw [ex_depths, ex_okd] at this
  exact this
theorem exPlay_any (vc vw vp vd : Value) (w : World) (hC : Cells w vc exShore.cells) (hW : Works w vw exShore.works) (hP : Ints w vp [-1, -1, -1, -1]) (hD : Ints w vd [15, 25, 30, 15]) :
    Calls Try.prog 16 #[shoreA exShore vc vw, stormA exStorm, vp, .agg #[.int .i64 250, .int .i64 800, .int .i64 40, .int .i64 150, vd]] w fun e w' => ∃ v, e = .returned (.tuple #[v, .int .i64 0]) ∧ Ints w' v [70, 0, 0, 0] ∧ Ext w w' := by
  have := play_any exShore exStorm [-1, -1, -1, -1] exTruth vc vw vp vd w hC hW hP hD (by decide) (by decide) (by decide) (by decide)
  rw [ex_play, ex_playc] at this
  exact this
theorem exBest_any (vc vw : Value) (hR : Room vc) (w : World) (hC : Cells w vc exShore.cells) (hW : Works w vw exShore.works) :
    Calls Try.prog 26 #[shoreA exShore vc vw, stormA exStorm] w fun e w' => ∃ v, e = .returned (.tuple #[v, .int .i64 60, .int .i64 0]) ∧ Ints w' v [1, 1, 1, -1] ∧ Ext w w' := by
  have := bestQ_any exShore exStorm vc vw hR w hC hW (by decide) (by decide)
  rw [ex_best] at this
  exact this
theorem exSpare_any (vc vw : Value) (hR : Room vc) (w : World) (hC : Cells w vc exShore.cells) (hW : Works w vw exShore.works) :
    Calls Try.prog 27 #[shoreA exShore vc vw, stormA exStorm, .int .i64 59] w fun e w' => ∃ v, e = .returned (.tuple #[v, .int .i64 1, .int .i64 50, .int .i64 0]) ∧ Ints w' v [-1, -1, -1, 0] ∧ Ext w w' := by
  have := spareQ_any exShore exStorm 59 vc vw hR w hC hW (by decide) (by decide)
  rw [ex_spare] at this
  exact this
end Go.Proofs.Ytmlobiajimlboaa
