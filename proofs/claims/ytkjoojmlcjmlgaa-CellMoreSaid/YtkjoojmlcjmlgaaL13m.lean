/- The law CellMore without the program: more panels and batteries, a sunny day, a sky that is known better. -/
import Derived.Test.YtkjoojmlcjmlgaaPd
import Derived.Test.YtkjoojmlcjmlgaaTl
import Derived.Test.YtkjoojmlcjmlgaaLa
import Derived.Test.YtkjoojmlcjmlgaaK3
namespace Go.Proofs.Ytkjoojmlcjmlgaa
set_option linter.unusedVariables false
set_option linter.unusedSimpArgs false
open Go.RowKit
theorem ext_list (s : ByteArray) (i j : Nat) : (s.extract i j).data.toList = (s.data.toList.drop i).take (j - i) := by
  simp [ByteArray.data_extract, List.extract]
theorem app_list (a b : ByteArray) : (a ++ b).data.toList = a.data.toList ++ b.data.toList := by simp
theorem off_zero13 {c : C.Sys} (O : C.Ok c) : C.offB c 0 = true := by
  have h := (pow_bd (n := c.loads.length) (by have := O.n5; omega)).1
  unfold C.offB C.within C.sets
  simp only [Bool.and_eq_true, decide_eq_true_eq]
  omega
theorem seen_at13 {c : C.Sys} {rs : List (List C.Day)} {d : Nat} (h : d < (C.seen c rs).length) : (C.seen c rs)[d] = C.seenAt c rs d := by
  simp only [C.seen, List.getElem_map, List.getElem_range]
theorem seen_len13 (c : C.Sys) (rs : List (List C.Day)) : (C.seen c rs).length = c.days.toNat := by unfold C.seen; simp
/-- The system with its first load alone is as defined. -/
theorem one_sys {c : C.Sys} (h : C.sysB c = true) : C.sysB (oneSys c) = true ∧ ∃ l, (oneSys c).loads = [l] := by
  have O := C.ok_of h
  have h1 : ∃ l L, c.loads = l :: L := by
    cases hc : c.loads with
    | nil => have := O.n1; rw [hc] at this; simp at this
    | cons l L => exact ⟨l, L, rfl⟩
  obtain ⟨l, L, hl⟩ := h1
  have h2 : (oneSys c).loads = [l] := by unfold oneSys; simp [hl]
  refine ⟨?_, l, h2⟩
  unfold C.sysB C.headB C.restB at h ⊢
  rw [h2]
  rw [hl] at h
  simp only [Bool.and_eq_true, List.all_cons, List.all_nil, List.length_cons, List.length_nil] at h ⊢
  obtain ⟨⟨⟨⟨⟨⟨⟨a1, a2⟩, a3⟩, a4⟩, a5⟩, a6⟩, a7⟩, a8⟩ := h
  exact ⟨⟨⟨⟨⟨⟨⟨a1, a2⟩, a3⟩, a4⟩, a5⟩, by decide⟩, a7.1, trivial⟩, a8⟩
theorem one_off {c : C.Sys} {l : C.Load} (h : (oneSys c).loads = [l]) : C.offB (oneSys c) 0 = true := by
  unfold C.offB C.within C.sets
  rw [h]
  show (decide ((0 : Int) ≤ 0) && decide ((0 : Int) ≤ 2 ^ 1 - 1)) = true
  decide
def sunT (t : C.Txt) (d : Nat) : C.Txt := t.take d ++ [115] ++ t.drop (d + 1)
theorem sunT_set {t : C.Txt} {d : Nat} (h : d < t.length) : sunT t d = t.set d 115 := by
  unfold sunT
  rw [List.set_eq_take_append_cons_drop, if_pos h, List.append_assoc]; rfl
theorem sunT_get {t : C.Txt} {d : Nat} (h : d < t.length) (k : Nat) : (sunT t d).getD k 0 = t.getD k 0 ∨ (sunT t d).getD k 0 = 115 := by
  rw [sunT_set h, List.getD_eq_getElem?_getD, List.getD_eq_getElem?_getD, List.getElem?_set]
  by_cases e : d = k
  · subst e; right; rw [if_pos rfl, if_pos h]; rfl
  · left; rw [if_neg e]
theorem sunT_weather {c : C.Sys} {t : C.Txt} {d : Nat} (h : d < t.length) (hW : C.weatherB c t = true) : C.weatherB c (sunT t d) = true := by
  rw [sunT_set h]
  unfold C.weatherB at hW ⊢
  rw [Bool.and_eq_true, List.all_eq_true] at hW ⊢
  refine ⟨fun y hy => ?_, by rw [List.length_set]; exact hW.2⟩
  rcases List.mem_or_eq_of_mem_set hy with h1 | rfl
  · exact hW.1 y h1
  · decide
theorem sunT_len {t : C.Txt} {d : Nat} (h : d < t.length) : (sunT t d).length = t.length := by rw [sunT_set h, List.length_set]
/-- All of the first d days carry the load; all are still carried, with no less energy. -/
def alB (l : List C.Day) (d : Nat) : Bool := (l.take d).all fun x => x.carried == 1
def stB (l k : List C.Day) (d : Nat) : Bool := ((l.zip k).take d).all fun x => (x.2.carried == 1) && decide (x.2.battery ≥ x.1.battery)
theorem alB_succ {l : List C.Day} {d : Nat} (h : d < l.length) : alB l (d + 1) = (alB l d && (l[d].carried == 1)) := by
  unfold alB; rw [List.take_succ_eq_append_getElem h, List.all_append]; simp
theorem stB_succ {l k : List C.Day} {d : Nat} (h : d < l.length) (h' : d < k.length) : stB l k (d + 1) = ((stB l k d && (k[d].carried == 1)) && decide (k[d].battery ≥ l[d].battery)) := by
  unfold stB
  have hz : d < (l.zip k).length := by rw [List.length_zip]; omega
  rw [List.take_succ_eq_append_getElem hz, List.all_append, List.getElem_zip]
  simp [Bool.and_assoc]
theorem dat_get {l : List C.Day} {d : Nat} (h : d < l.length) : C.dat l d = l[d] := by unfold C.dat; rw [List.getD_eq_getElem?_getD, List.getElem?_eq_getElem h]; rfl
theorem still_all {c : C.Sys} {l0 : C.Load} (hl : c.loads = [l0]) (O : C.Ok c) {p p' b b' : Int} (hp0 : 0 ≤ p) (hp : p ≤ p') (hb : b ≤ b') {t t' : C.Txt} (hlen : t'.length = t.length) (hx : ∀ d, d < t.length → t'.getD d 0 = t.getD d 0 ∨ t'.getD d 0 = 115)
    (h : alB (C.run c p b 0 t) t.length = true) : stB (C.run c p b 0 t) (C.run c p' b' 0 t') t.length = true := by
  have hr : ∀ d, d < t.length → (C.stateAt c p b 0 t (d + 1)).carried = 1 := fun d hd => by
    have hd' : d < (C.run c p b 0 t).length := by rw [run_len]; exact hd
    unfold alB at h
    rw [List.all_eq_true] at h
    have h1 := h (C.run c p b 0 t)[d] (by rw [List.take_of_length_le (by rw [run_len]; exact Nat.le_refl _)]; exact List.getElem_mem hd')
    rw [← dat_get hd', dat_run hd] at h1
    have h2 : (C.dayAt c p b 0 t d).carried = 1 := by simpa using h1
    exact h2
  have hm := run_mono hl O.s0 O.s1 O.z0 O.f0 O.f1 O.t0 hp0 hp hb hx hr
  unfold stB
  rw [List.all_eq_true]
  intro x hxm
  obtain ⟨i, hi, rfl⟩ := List.getElem_of_mem (List.mem_of_mem_take hxm)
  rw [List.length_zip, run_len, run_len] at hi
  have hi1 : i < t.length := by omega
  rw [List.getElem_zip]
  have h1 := hm (i + 1) (by omega)
  have e1 : (C.run c p b 0 t)[i]'(by rw [run_len]; exact hi1) = C.dayAt c p b 0 t i := by rw [← dat_get (by rw [run_len]; exact hi1), dat_run hi1]
  have e2 : (C.run c p' b' 0 t')[i]'(by rw [run_len]; omega) = C.dayAt c p' b' 0 t' i := by rw [← dat_get (by rw [run_len]; omega), dat_run (by omega)]
  rw [e1, e2]
  have h2 := h1.2 i (by omega)
  have h3 := h1.1
  unfold C.dayAt
  dsimp only
  rw [h2]
  simp; omega
/-- A day of two lists of what is known, the second with more known. -/
structure Mor (n N : Nat) (A B : List C.Seen) : Prop where
  la : A.length = N
  lb : B.length = N
  el : ∀ d (ha : d < A.length) (hb : d < B.length), ∃ al ah xa bl bh xb, A[d] = ⟨al, ah, xa⟩ ∧ B[d] = ⟨bl, bh, xb⟩ ∧ al ≤ bl ∧ bh ≤ ah ∧ xa.length = n ∧ xb.length = n ∧ ∀ i (h : i < xa.length) (h' : i < xb.length), xa[i] ≠ 2 → xb[i] = xa[i]
theorem mor_of {c : C.Sys} {R R2 : List (List C.Day)} (h : R2 ≠ []) (hs : ∀ r ∈ R2, r ∈ R) : Mor c.loads.length c.days.toNat (C.seen c R) (C.seen c R2) := by
  refine ⟨seen_len13 _ _, seen_len13 _ _, fun d ha hb => ?_⟩
  refine ⟨_, _, _, _, _, _, seen_at13 ha, seen_at13 hb, low_sub h hs d, high_sub h hs d, by simp, by simp, fun i h1 h2 hne => ?_⟩
  simp only [List.getElem_map, List.getElem_range] at hne ⊢
  exact word_sub h hs d i hne
/-- The sky that is known better. -/
def bettT (sky t : C.Txt) (d : Nat) : C.Txt := (sky.take d ++ (t.drop d).take 1) ++ sky.drop (d + 1)
theorem bettT_eq {sky t : C.Txt} {d : Nat} (h : d < t.length) : bettT sky t d = sky.take d ++ t[d] :: sky.drop (d + 1) := by
  unfold bettT
  have : (t.drop d).take 1 = [t[d]] := by rw [List.drop_eq_getElem_cons h]; rfl
  rw [this, List.append_assoc]; rfl
theorem bettT_sub {c : C.Sys} {sky t : C.Txt} {d : Nat} (h : d < t.length) (hs : d < sky.length) (h63 : sky[d] = 63) : ∀ w ∈ C.agreeing c (bettT sky t d), w ∈ C.agreeing c sky := by
  intro w hw
  rw [bettT_eq h] at hw
  have e : sky = sky.take d ++ 63 :: sky.drop (d + 1) := by
    rw [← h63, ← List.drop_eq_getElem_cons hs, List.take_append_drop]
  rw [e]
  exact agreeing_better w hw
theorem bettT_sky {c : C.Sys} {sky t : C.Txt} {d : Nat} (h : d < t.length) (hs : d < sky.length) (hS : C.skyB c sky = true) (hW : C.weatherB c t = true) : C.skyB c (bettT sky t d) = true := by
  rw [bettT_eq h]
  unfold C.skyB at hS ⊢
  unfold C.weatherB at hW
  rw [Bool.and_eq_true, List.all_eq_true] at hS hW ⊢
  refine ⟨fun y hy => ?_, ?_⟩
  · rcases List.mem_append.1 hy with h1 | h1
    · exact hS.1 y (List.mem_of_mem_take h1)
    · rcases List.mem_cons.1 h1 with rfl | h2
      · rcases letterB_of.1 (hW.1 _ (List.getElem_mem h)) with e | e <;> rw [e] <;> rfl
      · exact hS.1 y (List.mem_of_mem_drop h2)
  · have : (sky.take d ++ t[d] :: sky.drop (d + 1)).length = sky.length := by simp; omega
    rw [this]; exact hS.2
theorem loads_take {w : World} {a : Option Addr} {n c1 c2 : Nat} {xs : List C.Load} (h : Loads w (.slice a xs.length c1) xs) (hn : n ≤ xs.length) : Loads w (.slice a n c2) (xs.take n) := by
  obtain ⟨a', c', e, hx⟩ := h
  cases e
  refine ⟨a, c2, by rw [List.length_take, Nat.min_eq_left hn], fun i hi => ?_⟩
  have hi' : i < xs.length := by rw [List.length_take] at hi; omega
  obtain ⟨b, off, e1, hb, hA⟩ := hx i hi'
  exact ⟨b, off, e1, hb, by rw [List.getElem_take]; exact hA⟩
end Go.Proofs.Ytkjoojmlcjmlgaa
