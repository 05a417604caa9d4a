/- The document's Known. -/
import Derived.Test.YtkjoojmlcjmlgaaH14d
import Derived.Test.YtkjoojmlcjmlgaaH14e
import Derived.Test.YtkjoojmlcjmlgaaH6
namespace Go.Proofs.Ytkjoojmlcjmlgaa
set_option linter.unusedVariables false
set_option linter.unusedSimpArgs false
open Go.RowKit
attribute [local go_sem] Oper.semAt_some
set_option maxRecDepth 1000000 in
set_option maxHeartbeats 64000000 in
theorem dknown_any (c : C.Sys) (p b : Int) (sk : ByteArray) (vl : Value) (w : World) (hL : Loads w vl c.loads) (O : C.Ok c) (hp0 : 0 ≤ p) (hp1 : p ≤ 12) (hb0 : 0 ≤ b) (hb1 : b ≤ 8) (hs : sk.size = c.days.toNat) :
    Calls Try.prog 46 #[.agg (sysV c vl), .int .i64 p, .int .i64 b, .string sk] w (KP c (C.runs c p b sk.data.toList) w) := by
  have hL' := hL
  obtain ⟨a1, c1, rfl, _⟩ := hL'
  obtain ⟨N, hN⟩ : ∃ N : Nat, c.days = N := ⟨c.days.toNat, by have := O.d1; omega⟩
  have hNt : c.days.toNat = N := by rw [hN]; rfl
  have hN10 : N ≤ 10 := by have := O.d10; omega
  have hmem : ∀ t ∈ C.weathers c, List.length (t : C.Txt) = N := fun t ht => by rw [weathers_len ht, hNt]
  have hrs : ∀ r ∈ C.runs c p b sk.data.toList, ∃ t ∈ C.weathers c, r = C.run c p b 0 t := fun r hr => by
    unfold C.runs at hr
    obtain ⟨t, ht, rfl⟩ := List.mem_map.1 hr
    exact ⟨t, (List.mem_filter.1 ht).1, rfl⟩
  have hlen : ∀ r ∈ C.runs c p b sk.data.toList, r.length = N := by
    intro r hr
    obtain ⟨t, ht, rfl⟩ := hrs r hr
    have h := hmem t ht
    unfold C.run; simpa using h
  have hcar : ∀ r ∈ C.runs c p b sk.data.toList, ∀ x ∈ r, 0 ≤ x.carried ∧ x.carried ≤ 1024 := by
    intro r hr x hx
    obtain ⟨t, ht, rfl⟩ := hrs r hr
    have h := run_carried O hp0 hp1 hb0 hb1 0 t (by rw [hmem t ht]; omega) x hx
    have h2 := pow_bd (n := c.loads.length) (by have := O.n5; omega)
    exact ⟨h.1, by omega⟩
  have hMM := weathers_many c hNt hN10
  have hwe := fun w' => dweathers_any c (.slice a1 c.loads.length c1) ⟨_, _, _, rfl⟩ O w'
  have hall := rsK_all c p b sk.data.toList
  have hfy : ∀ k (h : k < (C.weathers c).length), C.agrees (C.weathers c)[k] sk.data.toList = true → rsK c p b sk.data.toList (C.weathers c) (k + 1) = rsK c p b sk.data.toList (C.weathers c) k ++ [C.run c p b 0 (C.weathers c)[k]] := fun k h ha => rsK_yes h ha
  have hfn : ∀ k (h : k < (C.weathers c).length), C.agrees (C.weathers c)[k] sk.data.toList = false → rsK c p b sk.data.toList (C.weathers c) (k + 1) = rsK c p b sk.data.toList (C.weathers c) k := fun k h ha => rsK_no h ha
  have hf0 : rsK c p b sk.data.toList (C.weathers c) 0 = [] := rfl
  have htl : ∀ k (h : k < (C.weathers c).length), List.length ((C.weathers c)[k] : C.Txt) = N := fun k h => hmem _ (List.getElem_mem h)
  rw [← hall] at hlen hcar ⊢
  generalize rsK c p b sk.data.toList (C.weathers c) = F at hlen hcar hfy hfn hf0 ⊢
  clear hrs hmem hall
  generalize C.weathers c = T at hlen hcar hfy hfn htl hMM hwe ⊢
  have HWE := Lib.hid hwe
  have HFY := Lib.hid hfy
  have HFN := Lib.hid hfn
  have HLN := Lib.hid hlen
  have HCR := Lib.hid hcar
  have HTL := Lib.hid htl
  have HL := Lib.hid hL
  have HO := Lib.hid O
  have hn5 : c.loads.length ≤ 5 := by have := O.n5; omega
  clear hwe hfy hfn hlen hcar htl hL O
  go_enter Try.func46, Try.ntmps46
  go_upto_region 1 with (fail)
  obtain ⟨w1, hw1⟩ : ∃ w1, w.alloc (.cells (sysV c (.slice a1 c.loads.length c1)) 24) = w1 := ⟨_, rfl⟩
  have hx1 : Blk w1 w.heap.size (sysV c (.slice a1 c.loads.length c1)) 24 := by rw [← hw1]; exact Blk.new' rfl _ _
  have hE1 : Ext w w1 := by rw [← hw1]; (with_reducible (repeat (first | exact Ext.refl _ | assumption | apply Ext.alloc | apply Ext.drew | exact ext_plus _ _ | (apply Ext.setCell; rotate_left; (simp <;> omega)) | (apply Ext.trans; rotate_left; exact ext_plus _ _) | (apply Ext.trans; rotate_left; assumption))))
  rw [hw1]
  have HBX1 := Lib.hid (fun y (hy : Ext w1 y) => (⟨(hx1.ext hy).cell, (hx1.ext hy).lt⟩ : (∀ o, y.cell? ⟨w.heap.size, o, none⟩ = (sysV c (.slice a1 c.loads.length c1) : Array Value)[o]?) ∧ w.heap.size < y.heap.size))
  clear hw1 hx1
  obtain ⟨k0, l0⟩ := HBX1.out w1 (Ext.refl _)
  refine knw_reg1 _ _ (fun _ _ d _ _ h => by cases d <;> exact h) ⟨k0, l0⟩ HWE ?_
  intro v v23 v24 w2 hT hE2
  go_upto_region 2 with (fail)
  have hE02 := hE1.trans hE2
  have HBX := Lib.hid (fun y (hy : Ext w2 y) => HBX1.out y (hE2.trans hy))
  obtain ⟨aT, cT, rfl, hxT⟩ := id hT
  clear hxT k0 l0
  rename Act → World → Prop => KK
  rename ∀ _ _, _ → KK _ _ => hKK
  have HKK := Lib.hid hKK
  clear hKK
  go_wp2
  exact HKK.out _ _ (knw_tail3 c p b sk T F N w w2 a1 aT c1 cT w.heap.size HL.out HO.out hp0 hp1 ‹0 ≤ b› ‹b ≤ 8› hT HTL.out hMM hN10 (by omega) hf0 HLN HCR hN hn5 HFY HFN hE02 HBX)
end Go.Proofs.Ytkjoojmlcjmlgaa
