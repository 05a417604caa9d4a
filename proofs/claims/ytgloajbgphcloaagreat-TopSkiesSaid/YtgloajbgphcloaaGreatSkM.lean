/- Dry months and cloudy days: what the islet's droughts and the system's weathers have in common. -/
import Derived.Test.YtgloajbgphcloaaGreatLnA
import Derived.Test.YtgloajbgphcloaaGreatClA
namespace Go.Proofs.YtgloajbgphcloaaGreat
set_option linter.unusedVariables false
set_option linter.unusedSimpArgs false
open Go.RowKit
/-- The text of months. -/
def txtOf (d : List Bool) : Cl.C.Txt := d.map fun b => if b then 99 else 115
def listsOf : Nat → List (List Bool)
  | 0 => [[]]
  | n + 1 => (listsOf n).flatMap fun l => [false :: l, true :: l]
theorem mem_listsOf : ∀ (l : List Bool), l ∈ listsOf l.length
  | [] => by simp [listsOf]
  | b :: l => by
    simp only [List.length_cons, listsOf, List.mem_flatMap]
    exact ⟨l, mem_listsOf l, by cases b <;> simp⟩
def alw (w : Nat) (m : Int) (s : Cl.C.Txt) : Bool := (List.range (s.length + 1 - w)).all fun f => decide ((Cl.C.cloudy s f w : Int) ≤ m)
theorem alw_eq (c : Cl.C.Sys) (s : Cl.C.Txt) : Cl.C.allowed c s = alw c.window.toNat c.most s := rfl
theorem pos_all : ((List.range 8).all fun n => (listsOf n).all fun d => (List.range n).all fun r => Ln.pos (n : Int) (r : Int) 0 0 d == alw (r + 1) (r : Int) (txtOf d)) = true := by decide +kernel
theorem pos_allowed (d : List Bool) (r : Nat) (hn : d.length ≤ 7) (hr : r < d.length) : Ln.pos (d.length : Int) (r : Int) 0 0 d = alw (r + 1) (r : Int) (txtOf d) := by
  have h := List.all_eq_true.1 pos_all d.length (List.mem_range.2 (by omega))
  have h2 := List.all_eq_true.1 h d (mem_listsOf d)
  have h3 := List.all_eq_true.1 h2 r (List.mem_range.2 hr)
  simpa using h3
theorem agree_all : ((List.range 8).all fun n => (listsOf n).all fun d => (Cl.C.texts n).filter (fun w => Cl.C.agrees w (txtOf d)) == [txtOf d]) = true := by decide +kernel
theorem agree_one (d : List Bool) (hn : d.length ≤ 7) : (Cl.C.texts d.length).filter (fun w => Cl.C.agrees w (txtOf d)) = [txtOf d] := by
  have h := List.all_eq_true.1 agree_all d.length (List.mem_range.2 (by omega))
  have h2 := List.all_eq_true.1 h d (mem_listsOf d)
  simpa using h2
theorem runs_nil (c : Cl.C.Sys) (p b : Int) (d : List Bool) (hn : d.length ≤ 7) (hd : c.days = (d.length : Int)) : Cl.C.runs c p b (txtOf d) = [] ↔ Cl.C.allowed c (txtOf d) = false := by
  unfold Cl.C.runs Cl.C.agreeing Cl.C.weathers
  rw [List.map_eq_nil_iff, hd, Int.toNat_natCast, List.filter_filter]
  have e : (Cl.C.texts d.length).filter (fun w => Cl.C.agrees w (txtOf d) && Cl.C.allowed c w) = ((Cl.C.texts d.length).filter (fun w => Cl.C.agrees w (txtOf d))).filter (Cl.C.allowed c) := by
    rw [List.filter_filter]
    exact List.filter_congr fun x _ => Bool.and_comm _ _
  rw [e, agree_one d hn]
  cases h : Cl.C.allowed c (txtOf d) <;> simp [h]
theorem txt_sky (d : List Bool) : (txtOf d).all Cl.C.skyLetterB = true := by
  unfold txtOf
  rw [List.all_map, List.all_eq_true]
  intro b _
  cases b <;> rfl
theorem txt_len (d : List Bool) : (txtOf d).length = d.length := by simp [txtOf]
theorem txt_snoc (d : List Bool) (b : Bool) : txtOf (d ++ [b]) = txtOf d ++ [if b then 99 else 115] := by simp [txtOf]
theorem txt_take (d : List Bool) {k : Nat} (h : k < d.length) : txtOf (d.take (k + 1)) = txtOf (d.take k) ++ [if d[k] then 99 else 115] := by
  rw [List.take_succ_eq_append_getElem h, txt_snoc]
end Go.Proofs.YtgloajbgphcloaaGreat
