/- Play. -/
import Derived.Test.YtmlobiajimlboaaD1
import Derived.Test.YtmlobiajimlboaaPlain5
namespace Go.Proofs.Ytmlobiajimlboaa
set_option linter.unusedVariables false
set_option linter.unusedSimpArgs false
open Go.RowKit
theorem work_get (ws : List W.Work) (p : Int) : W.work ws p = W.noWork ∨ W.work ws p ∈ ws := by
  unfold W.work; split
  · cases e : ws[p.toNat]? with
    | none => exact .inl rfl
    | some x => exact .inr (List.mem_of_getElem? e)
  · exact .inl rfl
theorem sound_of {s : W.Shore} {c : W.Storm} {plan : List Int} {t : W.Truth} (h1 : W.okB s c = true) (h2 : W.planB s plan = true) (h3 : W.truthB s c t = true) : Sound s plan t := by
  have O := W.ok_iff h1
  simp only [W.planB, Bool.and_eq_true, decide_eq_true_eq, List.all_eq_true, W.within_iff] at h2
  simp only [W.truthB, Bool.and_eq_true, W.within_iff] at h3
  obtain ⟨⟨⟨⟨hd, hw⟩, hf⟩, ht⟩, hl⟩ := h3
  have e := W.dragsB_len hd
  have hn := O.n7
  have hm := O.m3
  refine ⟨by omega, by omega, fun x hx => ?_, fun p => ?_, fun p => ?_, ?_, h2.2, fun p hp => ?_, ?_, ?_, ?_, ?_, e, fun d hd' => ?_⟩
  · have := O.cell x hx; omega
  · rcases work_get s.works p with e | e
    · rw [e]; decide
    · have := O.work _ e; omega
  · rcases work_get s.works p with e | e
    · rw [e]; decide
    · have := O.work _ e; omega
  · have := O.reef; omega
  · have := h2.1 p hp; omega
  · have := O.wind; omega
  · have := O.fetch; omega
  · have := O.tide; omega
  · have := O.loss; omega
  · obtain ⟨i, hi, rfl⟩ := List.getElem_of_mem hd'
    have a := W.within_iff.1 (W.dragsB_at hd i (by omega) hi)
    have b := O.cell s.cells[i] (List.getElem_mem (by omega))
    omega
def playOf (s : W.Shore) (c : W.Storm) (plan : List Int) (t : W.Truth) : List Int := if W.playB s c plan t then W.play s plan t else []
def codeOf (b : Bool) : Int := if b then 0 else 2
end Go.Proofs.Ytmlobiajimlboaa
