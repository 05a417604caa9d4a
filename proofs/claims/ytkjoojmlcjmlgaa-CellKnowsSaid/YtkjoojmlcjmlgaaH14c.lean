/- The document's Known: a run. -/
import Derived.Test.YtkjoojmlcjmlgaaH14a
namespace Go.Proofs.Ytkjoojmlcjmlgaa
set_option linter.unusedVariables false
set_option linter.unusedSimpArgs false
open Go.RowKit
attribute [local go_sem] Oper.semAt_some
set_option maxRecDepth 1000000 in
set_option maxHeartbeats 64000000 in
theorem knw_reg7 {u0 u3 u5 u6 u7 u8 u9 u11 u13 u14 u15 u16 u17 u18 u19 u20 u21 u22 u23 u24 u25 u26 u27 u28 u29 u30 u31 u32 u33 u34 u35 u36 u37 u38 u39 u40 u41 u42 u43 u44 u45 u46 u47 u48 u49 u50 u51 u52 u53 u54 u55 u56 u57 u58 u59 u60 u61 u62 u63 u64 u65 u66 u67 u68 u69 u70 u71 u72 u73 u74 u75 u76 u77 u78 u79 u80 u81 u82 u83 u84 u85 u86 u87 u88 u89 u90 u91 u92 u93 u94 u95 u96 u97 u98 u99 u100 u101 u102 u103 u104 u105 u106 u107 u108 u109 u110 u111 u112 u113 u114 u115 u116 u117 u118 u119 u120 u121 u122 u123 u124 u125 u126 u127 u128 u129 u130 u131 u132 u133 u134 u135 u136 u137 u138 u139 u140 u141 u142 u143 u144 u145 u146 u147 u148 u149 u150 : Value} {c : C.Sys} {a1 : Option Addr} {c1 bw : Nat} {w : World} {p b : Int} {bt ot M ct k : Nat} {tx : ByteArray} {days : List C.Day} (wx : World) (QX : Exit → Act → World → Prop) (hQ : ∀ c a d v w, QX (.panic c) (a.put d v) w → QX (.panic c) a w) (hb : (∀ o, wx.cell? ⟨bw, o, none⟩ = (sysV c (.slice a1 c.loads.length c1) : Array Value)[o]?) ∧ bw < wx.heap.size) (n0 : wx.cell? ⟨bt, ot + k, none⟩ = some (.string tx)) (mb : bt < wx.heap.size) (hkM : k < M) (HRUN : Hid (∀ w', Ext w w' → Calls Try.prog 21 #[.agg (sysV c (.slice a1 c.loads.length c1)), .int .i64 p, .int .i64 b, .int .i64 0, .string tx] w' fun e w2 => ∃ v g0 g1 g2 g3 g4 g5, e = .returned (.tuple #[v, .agg #[.int .i64 g0, .int .i64 g1, .int .i64 g2, .int .i64 g3, .int .i64 g4, .int .i64 g5]]) ∧ Days w2 v days ∧ Ext w' w2 ∧ ∀ j, v.ownBlock = some j → w'.heap.size ≤ j)) (hEwx : Ext w wx)
    (h : ∀ (v14 v37 v38 v39 v40 v41 v42 v43 v44 v45 v46 v47 : Value) (ad : Option Addr) (cd : Nat) (w9 : World), Ext wx w9 → Days w9 (.slice ad days.length cd) days → (∀ j, Value.ownBlock (.slice ad days.length cd) = some j → wx.heap.size ≤ j) → QX .normal ⟨List.toArray (u0 :: .int .i64 p :: .int .i64 b :: u3 :: .pointer (some ⟨bw, 0, none⟩) :: u5 :: u6 :: u7 :: u8 :: u9 :: .slice (some ⟨bt, ot, none⟩) M ct :: u11 :: .int .i64 (k : Int) :: .slice ad days.length cd :: v14 :: u15 :: u16 :: u17 :: u18 :: u19 :: u20 :: u21 :: u22 :: u23 :: u24 :: u25 :: u26 :: u27 :: u28 :: u29 :: u30 :: u31 :: u32 :: u33 :: u34 :: u35 :: u36 :: v37 :: v38 :: v39 :: v40 :: v41 :: v42 :: v43 :: v44 :: v45 :: v46 :: v47 :: u48 :: u49 :: u50 :: u51 :: u52 :: u53 :: u54 :: u55 :: u56 :: u57 :: u58 :: u59 :: u60 :: u61 :: u62 :: u63 :: u64 :: u65 :: u66 :: u67 :: u68 :: u69 :: u70 :: u71 :: u72 :: u73 :: u74 :: u75 :: u76 :: u77 :: u78 :: u79 :: u80 :: u81 :: u82 :: u83 :: u84 :: u85 :: u86 :: u87 :: u88 :: u89 :: u90 :: u91 :: u92 :: u93 :: u94 :: u95 :: u96 :: u97 :: u98 :: u99 :: u100 :: u101 :: u102 :: u103 :: u104 :: u105 :: u106 :: u107 :: u108 :: u109 :: u110 :: u111 :: u112 :: u113 :: u114 :: u115 :: u116 :: u117 :: u118 :: u119 :: u120 :: u121 :: u122 :: u123 :: u124 :: u125 :: u126 :: u127 :: u128 :: u129 :: u130 :: u131 :: u132 :: u133 :: u134 :: u135 :: u136 :: u137 :: u138 :: u139 :: u140 :: u141 :: u142 :: u143 :: u144 :: u145 :: u146 :: u147 :: u148 :: u149 :: u150 :: []), []⟩ w9) :
    Code.wp Try.prog (knwR 7) QX ⟨List.toArray (u0 :: .int .i64 p :: .int .i64 b :: u3 :: .pointer (some ⟨bw, 0, none⟩) :: u5 :: u6 :: u7 :: u8 :: u9 :: .slice (some ⟨bt, ot, none⟩) M ct :: u11 :: .int .i64 (k : Int) :: u13 :: u14 :: u15 :: u16 :: u17 :: u18 :: u19 :: u20 :: u21 :: u22 :: u23 :: u24 :: u25 :: u26 :: u27 :: u28 :: u29 :: u30 :: u31 :: u32 :: u33 :: u34 :: u35 :: u36 :: u37 :: u38 :: u39 :: u40 :: u41 :: u42 :: u43 :: u44 :: u45 :: u46 :: u47 :: u48 :: u49 :: u50 :: u51 :: u52 :: u53 :: u54 :: u55 :: u56 :: u57 :: u58 :: u59 :: u60 :: u61 :: u62 :: u63 :: u64 :: u65 :: u66 :: u67 :: u68 :: u69 :: u70 :: u71 :: u72 :: u73 :: u74 :: u75 :: u76 :: u77 :: u78 :: u79 :: u80 :: u81 :: u82 :: u83 :: u84 :: u85 :: u86 :: u87 :: u88 :: u89 :: u90 :: u91 :: u92 :: u93 :: u94 :: u95 :: u96 :: u97 :: u98 :: u99 :: u100 :: u101 :: u102 :: u103 :: u104 :: u105 :: u106 :: u107 :: u108 :: u109 :: u110 :: u111 :: u112 :: u113 :: u114 :: u115 :: u116 :: u117 :: u118 :: u119 :: u120 :: u121 :: u122 :: u123 :: u124 :: u125 :: u126 :: u127 :: u128 :: u129 :: u130 :: u131 :: u132 :: u133 :: u134 :: u135 :: u136 :: u137 :: u138 :: u139 :: u140 :: u141 :: u142 :: u143 :: u144 :: u145 :: u146 :: u147 :: u148 :: u149 :: u150 :: []), []⟩ wx := by
  have HH := Lib.hid h
  clear h
  unfold knwR
  conv => arg 2; whnf
  have hpc := plus_cell
  obtain ⟨k0, l0⟩ := hb
  refine wp_region_late 7 (fun cc y => cc = false → (∀ o, y.cell? ⟨bw, o, none⟩ = (sysV c (.slice a1 c.loads.length c1) : Array Value)[o]?) ∧ y.cell? ⟨bt, ot + k, none⟩ = some (.string tx) ∧ bw < y.heap.size ∧ bt < y.heap.size) (by kernel_rfl) (fun hL => ?_)
  refine late_early (i := 0) (v := ?_) rfl (by kernel_rfl) (by kernel_rfl) (by kernel_rfl) (by decide) (by kernel_rfl) (fun _ _ _ h => hQ _ _ _ _ _ h) hL (Or.inl ⟨by rfl, ?_⟩) (fun _ => ⟨k0, n0, l0, mb⟩) (fun hL' => ?_)
  rotate_left
  · intro y hy; have hz := hy rfl; clear hy; obtain ⟨g0, g1, g2, g3⟩ := hz; go_simp; (try with_reducible rfl)
  clear hL; rename Shutb _ _ => hL
  (try simp only [Act.put, List.getElem_toArray, List.getElem_cons_zero, List.getElem_cons_succ, List.setIfInBounds_toArray, List.set_cons_zero, List.set_cons_succ])
  refine late_early (i := 1) (v := ?_) rfl (by kernel_rfl) (by kernel_rfl) (by kernel_rfl) (by decide) (by kernel_rfl) (fun _ _ _ h => hQ _ _ _ _ _ h) hL (Or.inl ⟨by rfl, ?_⟩) (fun _ => ⟨k0, n0, l0, mb⟩) (fun hL' => ?_)
  rotate_left
  · intro y hy; have hz := hy rfl; clear hy; obtain ⟨g0, g1, g2, g3⟩ := hz; go_simp; (try with_reducible rfl)
  clear hL; rename Shutb _ _ => hL
  (try simp only [Act.put, List.getElem_toArray, List.getElem_cons_zero, List.getElem_cons_succ, List.setIfInBounds_toArray, List.set_cons_zero, List.set_cons_succ])
  refine late_early (i := 2) (v := ?_) rfl (by kernel_rfl) (by kernel_rfl) (by kernel_rfl) (by decide) (by kernel_rfl) (fun _ _ _ h => hQ _ _ _ _ _ h) hL (Or.inl ⟨by rfl, ?_⟩) (fun _ => ⟨k0, n0, l0, mb⟩) (fun hL' => ?_)
  rotate_left
  · intro y hy; have hz := hy rfl; clear hy; obtain ⟨g0, g1, g2, g3⟩ := hz; go_simp; (try with_reducible rfl)
  clear hL; rename Shutb _ _ => hL
  (try simp only [Act.put, List.getElem_toArray, List.getElem_cons_zero, List.getElem_cons_succ, List.setIfInBounds_toArray, List.set_cons_zero, List.set_cons_succ])
  refine late_early (i := 3) (v := ?_) rfl (by kernel_rfl) (by kernel_rfl) (by kernel_rfl) (by decide) (by kernel_rfl) (fun _ _ _ h => hQ _ _ _ _ _ h) hL (Or.inl ⟨by rfl, ?_⟩) (fun _ => ⟨k0, n0, l0, mb⟩) (fun hL' => ?_)
  rotate_left
  · intro y hy; have hz := hy rfl; clear hy; obtain ⟨g0, g1, g2, g3⟩ := hz; go_simp; (try with_reducible rfl)
  clear hL; rename Shutb _ _ => hL
  (try simp only [Act.put, List.getElem_toArray, List.getElem_cons_zero, List.getElem_cons_succ, List.setIfInBounds_toArray, List.set_cons_zero, List.set_cons_succ])
  refine late_early (i := 4) (v := ?_) rfl (by kernel_rfl) (by kernel_rfl) (by kernel_rfl) (by decide) (by kernel_rfl) (fun _ _ _ h => hQ _ _ _ _ _ h) hL (Or.inl ⟨by rfl, ?_⟩) (fun _ => ⟨k0, n0, l0, mb⟩) (fun hL' => ?_)
  rotate_left
  · intro y hy; have hz := hy rfl; clear hy; obtain ⟨g0, g1, g2, g3⟩ := hz; go_simp; (try with_reducible rfl)
  clear hL; rename Shutb _ _ => hL
  (try simp only [Act.put, List.getElem_toArray, List.getElem_cons_zero, List.getElem_cons_succ, List.setIfInBounds_toArray, List.set_cons_zero, List.set_cons_succ])
  refine late_early (i := 5) (v := ?_) rfl (by kernel_rfl) (by kernel_rfl) (by kernel_rfl) (by decide) (by kernel_rfl) (fun _ _ _ h => hQ _ _ _ _ _ h) hL (Or.inl ⟨by rfl, ?_⟩) (fun _ => ⟨k0, n0, l0, mb⟩) (fun hL' => ?_)
  rotate_left
  · intro y hy; have hz := hy rfl; clear hy; obtain ⟨g0, g1, g2, g3⟩ := hz; go_simp; (try with_reducible rfl)
  clear hL; rename Shutb _ _ => hL
  (try simp only [Act.put, List.getElem_toArray, List.getElem_cons_zero, List.getElem_cons_succ, List.setIfInBounds_toArray, List.set_cons_zero, List.set_cons_succ])
  refine late_early (i := 6) (v := ?_) rfl (by kernel_rfl) (by kernel_rfl) (by kernel_rfl) (by decide) (by kernel_rfl) (fun _ _ _ h => hQ _ _ _ _ _ h) hL (Or.inl ⟨by rfl, ?_⟩) (fun _ => ⟨k0, n0, l0, mb⟩) (fun hL' => ?_)
  rotate_left
  · intro y hy; have hz := hy rfl; clear hy; obtain ⟨g0, g1, g2, g3⟩ := hz; go_simp; (try with_reducible rfl)
  clear hL; rename Shutb _ _ => hL
  (try simp only [Act.put, List.getElem_toArray, List.getElem_cons_zero, List.getElem_cons_succ, List.setIfInBounds_toArray, List.set_cons_zero, List.set_cons_succ])
  refine late_two (i := 7) (j := 11) (by kernel_rfl) hL (fun hL' => ?_) (fun hL' => ?_)
  · refine wpOp_step rfl (fun K hK0 => ?_)
    have hK : Shut _ := hK0
    clear hK0
    go_simp
    go_wp2_with (first | (go_at_call 21; refine (HRUN.out _ (by (with_reducible (repeat (first | exact Ext.refl _ | assumption | apply Ext.alloc | apply Ext.drew | exact ext_plus _ _ | (apply Ext.setCell; rotate_left; (simp <;> omega)) | (apply Ext.trans; rotate_left; exact ext_plus _ _) | (apply Ext.trans; rotate_left; assumption)))))).mono ?_; rintro e wq ⟨v9, g0, g1, g2, g3, g4, g5, rfl, hDv, hER, hOB⟩))
    refine hK.out _ _ ⟨fun e => absurd (e : true = false) (by decide), ?_⟩
    clear hK K; clear hL; rename Shutb _ _ => hL
    (try simp only [Act.put, List.getElem_toArray, List.getElem_cons_zero, List.getElem_cons_succ, List.setIfInBounds_toArray, List.set_cons_zero, List.set_cons_succ])
    refine late_late (i := 8) (v := ?_) rfl (by kernel_rfl) (by kernel_rfl) (by kernel_rfl) (by decide) (fun _ _ => fun e => absurd (e : true = false) (by decide)) (fun _ _ _ h => hQ _ _ _ _ _ h) hL (Or.inl ⟨by rfl, ?_⟩) (fun e => absurd (e : true = false) (by decide)) (fun hL' => ?_)
    rotate_left
    · intro y hy; clear hy; go_simp; (try with_reducible rfl)
    clear hL; rename Shutb _ _ => hL
    (try simp only [Act.put, List.getElem_toArray, List.getElem_cons_zero, List.getElem_cons_succ, List.setIfInBounds_toArray, List.set_cons_zero, List.set_cons_succ])
    refine late_late (i := 9) (v := ?_) rfl (by kernel_rfl) (by kernel_rfl) (by kernel_rfl) (by decide) (fun _ _ => fun e => absurd (e : true = false) (by decide)) (fun _ _ _ h => hQ _ _ _ _ _ h) hL (Or.inl ⟨by rfl, ?_⟩) (fun e => absurd (e : true = false) (by decide)) (fun hL' => ?_)
    rotate_left
    · intro y hy; clear hy; go_simp; (try with_reducible rfl)
    clear hL; rename Shutb _ _ => hL
    (try simp only [Act.put, List.getElem_toArray, List.getElem_cons_zero, List.getElem_cons_succ, List.setIfInBounds_toArray, List.set_cons_zero, List.set_cons_succ])
    refine late_late (i := 10) (v := ?_) rfl (by kernel_rfl) (by kernel_rfl) (by kernel_rfl) (by decide) (fun _ _ => fun e => absurd (e : true = false) (by decide)) (fun _ _ _ h => hQ _ _ _ _ _ h) hL (Or.inl ⟨by rfl, ?_⟩) (fun e => absurd (e : true = false) (by decide)) (fun hL' => ?_)
    rotate_left
    · intro y hy; clear hy; go_simp; (try with_reducible rfl)
    clear hL; rename Shutb _ _ => hL
    (try simp only [Act.put, List.getElem_toArray, List.getElem_cons_zero, List.getElem_cons_succ, List.setIfInBounds_toArray, List.set_cons_zero, List.set_cons_succ])
    refine late_one (i := 11) (by kernel_rfl) hL (fun hL' => ?_)
    refine wpOp_step rfl (fun K hK0 => ?_)
    have hK : Shut _ := hK0
    clear hK0
    go_simp
    obtain ⟨wz, hwz⟩ : ∃ wz, wq.alloc (.cells #[.int .i64 0, .int .i64 0, .int .i64 0, .int .i64 0, .int .i64 0, .int .i64 0] 29) = wz := ⟨_, rfl⟩
    have hZ : Blk wz wq.heap.size #[.int .i64 0, .int .i64 0, .int .i64 0, .int .i64 0, .int .i64 0, .int .i64 0] 29 := by rw [← hwz]; exact Blk.new wq _ _
    have hEz : Ext wq wz := by rw [← hwz]; exact (Ext.refl _).alloc _
    rw [hwz]
    clear hwz
    refine hK.out _ _ ⟨fun e => absurd (e : true = false) (by decide), ?_⟩
    clear hK K; clear hL; rename Shutb _ _ => hL
    (try simp only [Act.put, List.getElem_toArray, List.getElem_cons_zero, List.getElem_cons_succ, List.setIfInBounds_toArray, List.set_cons_zero, List.set_cons_succ])
    refine late_one (i := 12) (by kernel_rfl) hL (fun hL' => ?_)
    refine wpOp_step rfl (fun K hK0 => ?_)
    have hK : Shut _ := hK0
    clear hK0
    go_simp
    refine hK.out _ _ ⟨fun e => absurd (e : true = false) (by decide), ?_⟩
    clear hK K; clear hL; rename Shutb _ _ => hL
    (try simp only [Act.put, List.getElem_toArray, List.getElem_cons_zero, List.getElem_cons_succ, List.setIfInBounds_toArray, List.set_cons_zero, List.set_cons_succ])
    refine late_one (i := 13) (by kernel_rfl) hL (fun hL' => ?_)
    refine wpOp_step rfl (fun K hK0 => ?_)
    have hK : Shut _ := hK0
    clear hK0
    refine wp_store_mid 29 _ _ rfl (wq.heap.size) 0 #[.int .i64 g0, .int .i64 g1, .int .i64 g2, .int .i64 g3, .int .i64 g4, .int .i64 g5] rfl rfl (there_of hZ (by simp)) (by kernel_rfl) (by first | rfl | (simp; done) | (simp; exact ⟨rfl, rfl, rfl, rfl, rfl, rfl⟩) | simp [Value.oneCell']) ?_
    refine hK.out _ _ ⟨fun e => absurd (e : true = false) (by decide), ?_⟩
    clear hK K; clear hL; rename Shutb _ _ => hL
    (try simp only [Act.put, List.getElem_toArray, List.getElem_cons_zero, List.getElem_cons_succ, List.setIfInBounds_toArray, List.set_cons_zero, List.set_cons_succ])
    refine late_done (by kernel_rfl) ?_
    (try dsimp only [Exit.then])
    obtain ⟨ad, cd, rfl, _⟩ := id hDv
    have hE19 : Ext wx (wz.setCells wq.heap.size 0 [.int .i64 g0, .int .i64 g1, .int .i64 g2, .int .i64 g3, .int .i64 g4, .int .i64 g5]) := ext_setCells (by have := hER.size; simpa using this) _ _ (((Ext.refl wx).drew.trans hER).trans hEz)
    have hD9 : Days (wz.setCells wq.heap.size 0 [.int .i64 g0, .int .i64 g1, .int .i64 g2, .int .i64 g3, .int .i64 g4, .int .i64 g5]) (.slice ad days.length cd) days := hDv.ext (ext_setCells (Nat.le_refl _) _ _ hEz)
    exact HH.out _ _ _ _ _ _ _ _ _ _ _ _ ad cd _ hE19 hD9 (fun j h => by have := hOB j h; simpa using this)
  · refine wpOp_step rfl (fun K hK0 => ?_)
    have hK : Shut _ := hK0
    clear hK0
    go_simp
    obtain ⟨wz, hwz⟩ : ∃ wz, (wx.alloc (.cells #[.int .i64 0, .int .i64 0, .int .i64 0, .int .i64 0, .int .i64 0, .int .i64 0] 29)).drew = wz := ⟨_, rfl⟩
    have hZ0 : Blk wz wx.heap.size #[.int .i64 0, .int .i64 0, .int .i64 0, .int .i64 0, .int .i64 0, .int .i64 0] 29 := by rw [← hwz]; exact (Blk.new wx _ _).drew
    have hEz : Ext wx wz := by rw [← hwz]; exact ((Ext.refl wx).alloc _).drew
    have hzs : wz.heap.size = wx.heap.size + 1 := by rw [← hwz, size_drew]; simp
    rw [hwz]
    clear hwz
    refine hK.out _ _ ⟨fun _ => ⟨(fun o => (hEz.cells.1 _ _ l0).trans (k0 o)), (hEz.cells.1 _ _ mb).trans n0, Nat.lt_of_lt_of_le l0 hEz.size, Nat.lt_of_lt_of_le mb hEz.size⟩, ?_⟩
    clear hK K; clear hL; rename Shutb _ _ => hL
    (try simp only [Act.put, List.getElem_toArray, List.getElem_cons_zero, List.getElem_cons_succ, List.setIfInBounds_toArray, List.set_cons_zero, List.set_cons_succ])
    refine late_one (i := 7) (by kernel_rfl) hL (fun hL' => ?_)
    refine wpOp_step rfl (fun K hK0 => ?_)
    have hK : Shut _ := hK0
    clear hK0
    go_simp
    go_wp2_with (first | (go_at_call 21; refine (HRUN.out _ (by (with_reducible (repeat (first | exact Ext.refl _ | assumption | apply Ext.alloc | apply Ext.drew | exact ext_plus _ _ | (apply Ext.setCell; rotate_left; (simp <;> omega)) | (apply Ext.trans; rotate_left; exact ext_plus _ _) | (apply Ext.trans; rotate_left; assumption)))))).mono ?_; rintro e wq ⟨v9, g0, g1, g2, g3, g4, g5, rfl, hDv, hER, hOB⟩))
    refine hK.out _ _ ⟨fun e => absurd (e : true = false) (by decide), ?_⟩
    clear hK K; clear hL; rename Shutb _ _ => hL
    (try simp only [Act.put, List.getElem_toArray, List.getElem_cons_zero, List.getElem_cons_succ, List.setIfInBounds_toArray, List.set_cons_zero, List.set_cons_succ])
    refine late_late (i := 8) (v := ?_) rfl (by kernel_rfl) (by kernel_rfl) (by kernel_rfl) (by decide) (fun _ _ => fun e => absurd (e : true = false) (by decide)) (fun _ _ _ h => hQ _ _ _ _ _ h) hL (Or.inl ⟨by rfl, ?_⟩) (fun e => absurd (e : true = false) (by decide)) (fun hL' => ?_)
    rotate_left
    · intro y hy; clear hy; go_simp; (try with_reducible rfl)
    clear hL; rename Shutb _ _ => hL
    (try simp only [Act.put, List.getElem_toArray, List.getElem_cons_zero, List.getElem_cons_succ, List.setIfInBounds_toArray, List.set_cons_zero, List.set_cons_succ])
    refine late_late (i := 9) (v := ?_) rfl (by kernel_rfl) (by kernel_rfl) (by kernel_rfl) (by decide) (fun _ _ => fun e => absurd (e : true = false) (by decide)) (fun _ _ _ h => hQ _ _ _ _ _ h) hL (Or.inl ⟨by rfl, ?_⟩) (fun e => absurd (e : true = false) (by decide)) (fun hL' => ?_)
    rotate_left
    · intro y hy; clear hy; go_simp; (try with_reducible rfl)
    clear hL; rename Shutb _ _ => hL
    (try simp only [Act.put, List.getElem_toArray, List.getElem_cons_zero, List.getElem_cons_succ, List.setIfInBounds_toArray, List.set_cons_zero, List.set_cons_succ])
    refine late_late (i := 10) (v := ?_) rfl (by kernel_rfl) (by kernel_rfl) (by kernel_rfl) (by decide) (fun _ _ => fun e => absurd (e : true = false) (by decide)) (fun _ _ _ h => hQ _ _ _ _ _ h) hL (Or.inl ⟨by rfl, ?_⟩) (fun e => absurd (e : true = false) (by decide)) (fun hL' => ?_)
    rotate_left
    · intro y hy; clear hy; go_simp; (try with_reducible rfl)
    clear hL; rename Shutb _ _ => hL
    (try simp only [Act.put, List.getElem_toArray, List.getElem_cons_zero, List.getElem_cons_succ, List.setIfInBounds_toArray, List.set_cons_zero, List.set_cons_succ])
    have hZ := hZ0.ext hER
    refine late_one (i := 12) (by kernel_rfl) hL (fun hL' => ?_)
    refine wpOp_step rfl (fun K hK0 => ?_)
    have hK : Shut _ := hK0
    clear hK0
    go_simp
    refine hK.out _ _ ⟨fun e => absurd (e : true = false) (by decide), ?_⟩
    clear hK K; clear hL; rename Shutb _ _ => hL
    (try simp only [Act.put, List.getElem_toArray, List.getElem_cons_zero, List.getElem_cons_succ, List.setIfInBounds_toArray, List.set_cons_zero, List.set_cons_succ])
    refine late_one (i := 13) (by kernel_rfl) hL (fun hL' => ?_)
    refine wpOp_step rfl (fun K hK0 => ?_)
    have hK : Shut _ := hK0
    clear hK0
    refine wp_store_mid 29 _ _ rfl (wx.heap.size) 0 #[.int .i64 g0, .int .i64 g1, .int .i64 g2, .int .i64 g3, .int .i64 g4, .int .i64 g5] rfl rfl (there_of hZ (by simp)) (by kernel_rfl) (by first | rfl | (simp; done) | (simp; exact ⟨rfl, rfl, rfl, rfl, rfl, rfl⟩) | simp [Value.oneCell']) ?_
    refine hK.out _ _ ⟨fun e => absurd (e : true = false) (by decide), ?_⟩
    clear hK K; clear hL; rename Shutb _ _ => hL
    (try simp only [Act.put, List.getElem_toArray, List.getElem_cons_zero, List.getElem_cons_succ, List.setIfInBounds_toArray, List.set_cons_zero, List.set_cons_succ])
    refine late_done (by kernel_rfl) ?_
    (try dsimp only [Exit.then])
    obtain ⟨ad, cd, rfl, _⟩ := id hDv
    have hE19 : Ext wx (wq.setCells wx.heap.size 0 [.int .i64 g0, .int .i64 g1, .int .i64 g2, .int .i64 g3, .int .i64 g4, .int .i64 g5]) := ext_setCells (Nat.le_refl _) _ _ (hEz.trans hER)
    have hD9 : Days (wq.setCells wx.heap.size 0 [.int .i64 g0, .int .i64 g1, .int .i64 g2, .int .i64 g3, .int .i64 g4, .int .i64 g5]) (.slice ad days.length cd) days := days_setCells (n := wz.heap.size) hDv hOB (by omega)
    exact HH.out _ _ _ _ _ _ _ _ _ _ _ _ ad cd _ hE19 hD9 (fun j h => by have := hOB j h; omega)
end Go.Proofs.Ytkjoojmlcjmlgaa
