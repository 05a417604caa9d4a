/- The document's Known: single regions. -/
import Derived.Test.YtkjoojmlcjmlgaaH7
import Derived.Test.YtkjoojmlcjmlgaaG7
import Derived.Test.YtkjoojmlcjmlgaaTl
namespace Go.Proofs.Ytkjoojmlcjmlgaa
set_option linter.unusedVariables false
set_option linter.unusedSimpArgs false
open Go.RowKit
attribute [local go_sem] Oper.semAt_some
noncomputable def knwT (n : Nat) : Code := codeTail n (Try.f46.body.getD .skip)
noncomputable def knwR (n : Nat) : Code := (findRegion n (Try.f46.body.getD .skip)).getD .skip
/-- A list of the days' lists of runs, in memory. -/
def RowsD (w : World) (v : Value) (rs : List (List C.Day)) : Prop := ∃ a cap, v = .slice a rs.length cap ∧ ∀ i (h : i < rs.length), ∃ b off vr, a = some ⟨b, off, none⟩ ∧ b < w.heap.size ∧ w.cell? ⟨b, off + i, none⟩ = some vr ∧ Days w vr rs[i]
theorem RowsD.ext {w w' : World} {v : Value} {rs : List (List C.Day)} (h : RowsD w v rs) (he : Ext w w') : RowsD w' v rs := by
  obtain ⟨a, cap, rfl, hx⟩ := h
  refine ⟨a, cap, rfl, fun i hi => ?_⟩
  obtain ⟨b, off, vr, rfl, hb, h1, h2⟩ := hx i hi
  exact ⟨b, off, vr, rfl, Nat.lt_of_lt_of_le hb he.size, (he.cells.1 _ _ hb).trans h1, h2.ext he⟩
set_option maxRecDepth 1000000 in
set_option maxHeartbeats 64000000 in
theorem knw_reg19 {u0 u1 u2 u3 u4 u5 u6 u7 u8 u9 u10 u12 u13 u14 u15 u19 u20 u21 u22 u23 u24 u25 u26 u27 u28 u29 u30 u31 u32 u33 u34 u35 u36 u37 u38 u39 u40 u41 u42 u43 u44 u45 u46 u47 u48 u49 u50 u51 u52 u53 u54 u55 u56 u57 u58 u59 u60 u61 u62 u63 u64 u65 u66 u67 u68 u69 u70 u71 u72 u73 u74 u75 u76 u77 u78 u79 u80 u81 u82 u83 u84 u85 u86 u87 u88 u89 u90 u91 u92 u93 u94 u95 u96 u97 u98 u99 u100 u101 u102 u103 u104 u105 u106 u107 u108 u109 u110 u111 u112 u113 u114 u115 u116 u117 u118 u119 u120 u121 u122 u123 u124 u125 u126 u127 u128 u129 u130 u131 u132 u133 u134 u135 u136 u137 u138 u139 u140 u141 u142 u143 u144 u145 u146 u147 u148 u149 u150 : Value} {br ob M cr b6 o6 m6 c6 d j bs : Nat} {lo hi bj : Int} {vw : Value} (wx wy : World) (QX : Exit → Act → World → Prop) (hQ : ∀ c a d v w, QX (.panic c) (a.put d v) w → QX (.panic c) a w) (r0 : wy.cell? ⟨br, ob + j, none⟩ = some (.slice (some ⟨b6, o6, none⟩) m6 c6)) (q0 : wy.cell? ⟨b6, o6 + d * 2, none⟩ = some (.int .i64 bj)) (rl : br < wy.heap.size) (qb : b6 < wy.heap.size) (hM : j < M) (hd : d < m6) (hB : Blk wy bs #[.int .i64 lo, .int .i64 hi, vw] 54) (hEx : Ext wx wy) (hbs : wx.heap.size ≤ bs)
    (h : ∀ (v83 v84 v85 v86 v87 v88 v89 v90 v91 v92 v93 v94 v95 v96 v97 v98 v99 v100 v101 v102 v103 v104 v105 v106 v107 v108 : Value) (w9 : World), Ext wx w9 → Blk w9 bs #[.int .i64 (min lo bj), .int .i64 (max hi bj), vw] 54 → QX .normal ⟨List.toArray (u0 :: u1 :: u2 :: u3 :: u4 :: u5 :: u6 :: u7 :: u8 :: u9 :: u10 :: .slice (some ⟨br, ob, none⟩) M cr :: u12 :: u13 :: u14 :: u15 :: .int .i64 (d : Int) :: .pointer (some ⟨bs, 0, none⟩) :: .int .i64 (j : Int) :: u19 :: u20 :: u21 :: u22 :: u23 :: u24 :: u25 :: u26 :: u27 :: u28 :: u29 :: u30 :: u31 :: u32 :: u33 :: u34 :: u35 :: u36 :: u37 :: u38 :: u39 :: u40 :: u41 :: u42 :: u43 :: u44 :: u45 :: u46 :: u47 :: u48 :: u49 :: u50 :: u51 :: u52 :: u53 :: u54 :: u55 :: u56 :: u57 :: u58 :: u59 :: u60 :: u61 :: u62 :: u63 :: u64 :: u65 :: u66 :: u67 :: u68 :: u69 :: u70 :: u71 :: u72 :: u73 :: u74 :: u75 :: u76 :: u77 :: u78 :: u79 :: u80 :: u81 :: u82 :: v83 :: v84 :: v85 :: v86 :: v87 :: v88 :: v89 :: v90 :: v91 :: v92 :: v93 :: v94 :: v95 :: v96 :: v97 :: v98 :: v99 :: v100 :: v101 :: v102 :: v103 :: v104 :: v105 :: v106 :: v107 :: v108 :: u109 :: u110 :: u111 :: u112 :: u113 :: u114 :: u115 :: u116 :: u117 :: u118 :: u119 :: u120 :: u121 :: u122 :: u123 :: u124 :: u125 :: u126 :: u127 :: u128 :: u129 :: u130 :: u131 :: u132 :: u133 :: u134 :: u135 :: u136 :: u137 :: u138 :: u139 :: u140 :: u141 :: u142 :: u143 :: u144 :: u145 :: u146 :: u147 :: u148 :: u149 :: u150 :: []), []⟩ w9) :
    Code.wp Try.prog (knwR 19) QX ⟨List.toArray (u0 :: u1 :: u2 :: u3 :: u4 :: u5 :: u6 :: u7 :: u8 :: u9 :: u10 :: .slice (some ⟨br, ob, none⟩) M cr :: u12 :: u13 :: u14 :: u15 :: .int .i64 (d : Int) :: .pointer (some ⟨bs, 0, none⟩) :: .int .i64 (j : Int) :: u19 :: u20 :: u21 :: u22 :: u23 :: u24 :: u25 :: u26 :: u27 :: u28 :: u29 :: u30 :: u31 :: u32 :: u33 :: u34 :: u35 :: u36 :: u37 :: u38 :: u39 :: u40 :: u41 :: u42 :: u43 :: u44 :: u45 :: u46 :: u47 :: u48 :: u49 :: u50 :: u51 :: u52 :: u53 :: u54 :: u55 :: u56 :: u57 :: u58 :: u59 :: u60 :: u61 :: u62 :: u63 :: u64 :: u65 :: u66 :: u67 :: u68 :: u69 :: u70 :: u71 :: u72 :: u73 :: u74 :: u75 :: u76 :: u77 :: u78 :: u79 :: u80 :: u81 :: u82 :: u83 :: u84 :: u85 :: u86 :: u87 :: u88 :: u89 :: u90 :: u91 :: u92 :: u93 :: u94 :: u95 :: u96 :: u97 :: u98 :: u99 :: u100 :: u101 :: u102 :: u103 :: u104 :: u105 :: u106 :: u107 :: u108 :: u109 :: u110 :: u111 :: u112 :: u113 :: u114 :: u115 :: u116 :: u117 :: u118 :: u119 :: u120 :: u121 :: u122 :: u123 :: u124 :: u125 :: u126 :: u127 :: u128 :: u129 :: u130 :: u131 :: u132 :: u133 :: u134 :: u135 :: u136 :: u137 :: u138 :: u139 :: u140 :: u141 :: u142 :: u143 :: u144 :: u145 :: u146 :: u147 :: u148 :: u149 :: u150 :: []), []⟩ wy := by
  have HH := Lib.hid h
  clear h
  unfold knwR
  conv => arg 2; whnf
  have hpc := plus_cell
  have k0 := hB.cell
  have k1 := hB.lt
  refine wp_region_ext 25 hQ (by kernel_rfl) (by kernel_rfl) (by kernel_rfl) (by kernel_rfl) ?_
  (try simp only [List.append_eq, List.cons_append, List.nil_append])
  simp only [List.take_succ_cons, List.take_zero, List.drop_succ_cons, List.drop_zero]
  repeat (any_goals (first | go_big_quiet_step (fail) | quiet_step (fail)))
  all_goals (refine wpQuiet_nil ?_; intro w8 hEw8)
  have hB8 := hB.ext hEw8
  clear k0 k1
  have k0 := hB8.cell
  have k1 := hB8.lt
  have k2 := hB8.free
  have hB9 := (hB8.set 0 (.int .i64 (min lo bj))).set 1 (.int .i64 (max hi bj))
  clear hB
  go_wp2
  refine HH.out _ _ _ _ _ _ _ _ _ _ _ _ _ _ _ _ _ _ _ _ _ _ _ _ _ _ _ ?_ ?_
  · exact ((hEx.trans hEw8).setCell (p := ⟨bs, 0, none⟩) hbs _).setCell (p := ⟨bs, 1, none⟩) hbs _
  · simpa using hB9
set_option maxRecDepth 1000000 in
set_option maxHeartbeats 64000000 in
theorem knw_reg15 {u0 u1 u2 u3 u4 u5 u6 u7 u8 u9 u10 u12 u13 u14 u15 u17 u18 u19 u20 u21 u22 u23 u24 u25 u26 u27 u28 u29 u30 u31 u32 u33 u34 u35 u36 u37 u38 u39 u40 u41 u42 u43 u44 u45 u46 u47 u48 u49 u50 u51 u52 u53 u54 u55 u56 u57 u58 u59 u60 u61 u62 u63 u64 u65 u66 u67 u68 u69 u70 u71 u72 u73 u74 u75 u76 u77 u78 u79 u80 u81 u82 u83 u84 u85 u86 u87 u88 u89 u90 u91 u92 u93 u94 u95 u96 u97 u98 u99 u100 u101 u102 u103 u104 u105 u106 u107 u108 u109 u110 u111 u112 u113 u114 u115 u116 u117 u118 u119 u120 u121 u122 u123 u124 u125 u126 u127 u128 u129 u130 u131 u132 u133 u134 u135 u136 u137 u138 u139 u140 u141 u142 u143 u144 u145 u146 u147 u148 u149 u150 : Value} {br ob M cr b6 o6 m6 c6 d : Nat} {b0 : Int} (wx : World) (QX : Exit → Act → World → Prop) (hQ : ∀ c a d v w, QX (.panic c) (a.put d v) w → QX (.panic c) a w) (r0 : wx.cell? ⟨br, ob, none⟩ = some (.slice (some ⟨b6, o6, none⟩) m6 c6)) (q0 : wx.cell? ⟨b6, o6 + d * 2, none⟩ = some (.int .i64 b0)) (rl : br < wx.heap.size) (qb : b6 < wx.heap.size) (hM : 0 < M) (hd : d < m6)
    (h : ∀ (v61 v62 v63 v64 v65 v66 v67 v68 v69 v70 v71 v72 v73 v74 v75 v76 : Value) (w9 : World), Ext wx w9 → Blk w9 wx.heap.size #[.int .i64 b0, .int .i64 b0, .slice none 0 0] 54 → QX .normal ⟨List.toArray (u0 :: u1 :: u2 :: u3 :: u4 :: u5 :: u6 :: u7 :: u8 :: u9 :: u10 :: .slice (some ⟨br, ob, none⟩) M cr :: u12 :: u13 :: u14 :: u15 :: .int .i64 (d : Int) :: .pointer (some ⟨wx.heap.size, 0, none⟩) :: u18 :: u19 :: u20 :: u21 :: u22 :: u23 :: u24 :: u25 :: u26 :: u27 :: u28 :: u29 :: u30 :: u31 :: u32 :: u33 :: u34 :: u35 :: u36 :: u37 :: u38 :: u39 :: u40 :: u41 :: u42 :: u43 :: u44 :: u45 :: u46 :: u47 :: u48 :: u49 :: u50 :: u51 :: u52 :: u53 :: u54 :: u55 :: u56 :: u57 :: u58 :: u59 :: u60 :: v61 :: v62 :: v63 :: v64 :: v65 :: v66 :: v67 :: v68 :: v69 :: v70 :: v71 :: v72 :: v73 :: v74 :: v75 :: v76 :: u77 :: u78 :: u79 :: u80 :: u81 :: u82 :: u83 :: u84 :: u85 :: u86 :: u87 :: u88 :: u89 :: u90 :: u91 :: u92 :: u93 :: u94 :: u95 :: u96 :: u97 :: u98 :: u99 :: u100 :: u101 :: u102 :: u103 :: u104 :: u105 :: u106 :: u107 :: u108 :: u109 :: u110 :: u111 :: u112 :: u113 :: u114 :: u115 :: u116 :: u117 :: u118 :: u119 :: u120 :: u121 :: u122 :: u123 :: u124 :: u125 :: u126 :: u127 :: u128 :: u129 :: u130 :: u131 :: u132 :: u133 :: u134 :: u135 :: u136 :: u137 :: u138 :: u139 :: u140 :: u141 :: u142 :: u143 :: u144 :: u145 :: u146 :: u147 :: u148 :: u149 :: u150 :: []), []⟩ w9) :
    Code.wp Try.prog (knwR 15) QX ⟨List.toArray (u0 :: u1 :: u2 :: u3 :: u4 :: u5 :: u6 :: u7 :: u8 :: u9 :: u10 :: .slice (some ⟨br, ob, none⟩) M cr :: u12 :: u13 :: u14 :: u15 :: .int .i64 (d : Int) :: u17 :: u18 :: u19 :: u20 :: u21 :: u22 :: u23 :: u24 :: u25 :: u26 :: u27 :: u28 :: u29 :: u30 :: u31 :: u32 :: u33 :: u34 :: u35 :: u36 :: u37 :: u38 :: u39 :: u40 :: u41 :: u42 :: u43 :: u44 :: u45 :: u46 :: u47 :: u48 :: u49 :: u50 :: u51 :: u52 :: u53 :: u54 :: u55 :: u56 :: u57 :: u58 :: u59 :: u60 :: u61 :: u62 :: u63 :: u64 :: u65 :: u66 :: u67 :: u68 :: u69 :: u70 :: u71 :: u72 :: u73 :: u74 :: u75 :: u76 :: u77 :: u78 :: u79 :: u80 :: u81 :: u82 :: u83 :: u84 :: u85 :: u86 :: u87 :: u88 :: u89 :: u90 :: u91 :: u92 :: u93 :: u94 :: u95 :: u96 :: u97 :: u98 :: u99 :: u100 :: u101 :: u102 :: u103 :: u104 :: u105 :: u106 :: u107 :: u108 :: u109 :: u110 :: u111 :: u112 :: u113 :: u114 :: u115 :: u116 :: u117 :: u118 :: u119 :: u120 :: u121 :: u122 :: u123 :: u124 :: u125 :: u126 :: u127 :: u128 :: u129 :: u130 :: u131 :: u132 :: u133 :: u134 :: u135 :: u136 :: u137 :: u138 :: u139 :: u140 :: u141 :: u142 :: u143 :: u144 :: u145 :: u146 :: u147 :: u148 :: u149 :: u150 :: []), []⟩ wx := by
  have HH := Lib.hid h
  clear h
  unfold knwR
  conv => arg 2; whnf
  refine wp_region_late 17 (fun cc y => cc = false → y.cell? ⟨br, ob, none⟩ = some (.slice (some ⟨b6, o6, none⟩) m6 c6) ∧ y.cell? ⟨b6, o6 + d * 2, none⟩ = some (.int .i64 b0) ∧ br < y.heap.size ∧ b6 < y.heap.size) (by kernel_rfl) (fun hL => ?_)
  refine late_early (i := 0) (v := ?_) rfl (by kernel_rfl) (by kernel_rfl) (by kernel_rfl) (by decide) (by kernel_rfl) (fun _ _ _ h => hQ _ _ _ _ _ h) hL (Or.inl ⟨by rfl, ?_⟩) (fun _ => ⟨r0, q0, rl, qb⟩) (fun hL' => ?_)
  rotate_left
  · intro y hy; have hz := hy rfl; clear hy; obtain ⟨g0, g1, g2, g3⟩ := hz; go_simp; (try with_reducible rfl)
  clear hL; rename Shutb _ _ => hL
  (try simp only [Act.put, List.getElem_toArray, List.getElem_cons_zero, List.getElem_cons_succ, List.setIfInBounds_toArray, List.set_cons_zero, List.set_cons_succ])
  refine late_early (i := 1) (v := ?_) rfl (by kernel_rfl) (by kernel_rfl) (by kernel_rfl) (by decide) (by kernel_rfl) (fun _ _ _ h => hQ _ _ _ _ _ h) hL (Or.inl ⟨by rfl, ?_⟩) (fun _ => ⟨r0, q0, rl, qb⟩) (fun hL' => ?_)
  rotate_left
  · intro y hy; have hz := hy rfl; clear hy; obtain ⟨g0, g1, g2, g3⟩ := hz; go_simp; (try with_reducible rfl)
  clear hL; rename Shutb _ _ => hL
  (try simp only [Act.put, List.getElem_toArray, List.getElem_cons_zero, List.getElem_cons_succ, List.setIfInBounds_toArray, List.set_cons_zero, List.set_cons_succ])
  refine late_early (i := 2) (v := ?_) rfl (by kernel_rfl) (by kernel_rfl) (by kernel_rfl) (by decide) (by kernel_rfl) (fun _ _ _ h => hQ _ _ _ _ _ h) hL (Or.inl ⟨by rfl, ?_⟩) (fun _ => ⟨r0, q0, rl, qb⟩) (fun hL' => ?_)
  rotate_left
  · intro y hy; have hz := hy rfl; clear hy; obtain ⟨g0, g1, g2, g3⟩ := hz; go_simp; (try with_reducible rfl)
  clear hL; rename Shutb _ _ => hL
  (try simp only [Act.put, List.getElem_toArray, List.getElem_cons_zero, List.getElem_cons_succ, List.setIfInBounds_toArray, List.set_cons_zero, List.set_cons_succ])
  refine late_early (i := 3) (v := ?_) rfl (by kernel_rfl) (by kernel_rfl) (by kernel_rfl) (by decide) (by kernel_rfl) (fun _ _ _ h => hQ _ _ _ _ _ h) hL (Or.inl ⟨by rfl, ?_⟩) (fun _ => ⟨r0, q0, rl, qb⟩) (fun hL' => ?_)
  rotate_left
  · intro y hy; have hz := hy rfl; clear hy; obtain ⟨g0, g1, g2, g3⟩ := hz; go_simp; (try with_reducible rfl)
  clear hL; rename Shutb _ _ => hL
  (try simp only [Act.put, List.getElem_toArray, List.getElem_cons_zero, List.getElem_cons_succ, List.setIfInBounds_toArray, List.set_cons_zero, List.set_cons_succ])
  refine late_early (i := 4) (v := ?_) rfl (by kernel_rfl) (by kernel_rfl) (by kernel_rfl) (by decide) (by kernel_rfl) (fun _ _ _ h => hQ _ _ _ _ _ h) hL (Or.inl ⟨by rfl, ?_⟩) (fun _ => ⟨r0, q0, rl, qb⟩) (fun hL' => ?_)
  rotate_left
  · intro y hy; have hz := hy rfl; clear hy; obtain ⟨g0, g1, g2, g3⟩ := hz; go_simp; (try with_reducible rfl)
  clear hL; rename Shutb _ _ => hL
  (try simp only [Act.put, List.getElem_toArray, List.getElem_cons_zero, List.getElem_cons_succ, List.setIfInBounds_toArray, List.set_cons_zero, List.set_cons_succ])
  refine late_early (i := 5) (v := ?_) rfl (by kernel_rfl) (by kernel_rfl) (by kernel_rfl) (by decide) (by kernel_rfl) (fun _ _ _ h => hQ _ _ _ _ _ h) hL (Or.inl ⟨by rfl, ?_⟩) (fun _ => ⟨r0, q0, rl, qb⟩) (fun hL' => ?_)
  rotate_left
  · intro y hy; have hz := hy rfl; clear hy; obtain ⟨g0, g1, g2, g3⟩ := hz; go_simp; (try with_reducible rfl)
  clear hL; rename Shutb _ _ => hL
  (try simp only [Act.put, List.getElem_toArray, List.getElem_cons_zero, List.getElem_cons_succ, List.setIfInBounds_toArray, List.set_cons_zero, List.set_cons_succ])
  refine late_early (i := 6) (v := ?_) rfl (by kernel_rfl) (by kernel_rfl) (by kernel_rfl) (by decide) (by kernel_rfl) (fun _ _ _ h => hQ _ _ _ _ _ h) hL (Or.inl ⟨by rfl, ?_⟩) (fun _ => ⟨r0, q0, rl, qb⟩) (fun hL' => ?_)
  rotate_left
  · intro y hy; have hz := hy rfl; clear hy; obtain ⟨g0, g1, g2, g3⟩ := hz; go_simp; (try with_reducible rfl)
  clear hL; rename Shutb _ _ => hL
  (try simp only [Act.put, List.getElem_toArray, List.getElem_cons_zero, List.getElem_cons_succ, List.setIfInBounds_toArray, List.set_cons_zero, List.set_cons_succ])
  refine late_early (i := 7) (v := ?_) rfl (by kernel_rfl) (by kernel_rfl) (by kernel_rfl) (by decide) (by kernel_rfl) (fun _ _ _ h => hQ _ _ _ _ _ h) hL (Or.inl ⟨by rfl, ?_⟩) (fun _ => ⟨r0, q0, rl, qb⟩) (fun hL' => ?_)
  rotate_left
  · intro y hy; have hz := hy rfl; clear hy; obtain ⟨g0, g1, g2, g3⟩ := hz; go_simp; (try with_reducible rfl)
  clear hL; rename Shutb _ _ => hL
  (try simp only [Act.put, List.getElem_toArray, List.getElem_cons_zero, List.getElem_cons_succ, List.setIfInBounds_toArray, List.set_cons_zero, List.set_cons_succ])
  refine late_early (i := 8) (v := ?_) rfl (by kernel_rfl) (by kernel_rfl) (by kernel_rfl) (by decide) (by kernel_rfl) (fun _ _ _ h => hQ _ _ _ _ _ h) hL (Or.inl ⟨by rfl, ?_⟩) (fun _ => ⟨r0, q0, rl, qb⟩) (fun hL' => ?_)
  rotate_left
  · intro y hy; have hz := hy rfl; clear hy; obtain ⟨g0, g1, g2, g3⟩ := hz; go_simp; (try with_reducible rfl)
  clear hL; rename Shutb _ _ => hL
  (try simp only [Act.put, List.getElem_toArray, List.getElem_cons_zero, List.getElem_cons_succ, List.setIfInBounds_toArray, List.set_cons_zero, List.set_cons_succ])
  refine late_early (i := 9) (v := ?_) rfl (by kernel_rfl) (by kernel_rfl) (by kernel_rfl) (by decide) (by kernel_rfl) (fun _ _ _ h => hQ _ _ _ _ _ h) hL (Or.inl ⟨by rfl, ?_⟩) (fun _ => ⟨r0, q0, rl, qb⟩) (fun hL' => ?_)
  rotate_left
  · intro y hy; have hz := hy rfl; clear hy; obtain ⟨g0, g1, g2, g3⟩ := hz; go_simp; (try with_reducible rfl)
  clear hL; rename Shutb _ _ => hL
  (try simp only [Act.put, List.getElem_toArray, List.getElem_cons_zero, List.getElem_cons_succ, List.setIfInBounds_toArray, List.set_cons_zero, List.set_cons_succ])
  refine late_early (i := 10) (v := ?_) rfl (by kernel_rfl) (by kernel_rfl) (by kernel_rfl) (by decide) (by kernel_rfl) (fun _ _ _ h => hQ _ _ _ _ _ h) hL (Or.inl ⟨by rfl, ?_⟩) (fun _ => ⟨r0, q0, rl, qb⟩) (fun hL' => ?_)
  rotate_left
  · intro y hy; have hz := hy rfl; clear hy; obtain ⟨g0, g1, g2, g3⟩ := hz; go_simp; (try with_reducible rfl)
  clear hL; rename Shutb _ _ => hL
  (try simp only [Act.put, List.getElem_toArray, List.getElem_cons_zero, List.getElem_cons_succ, List.setIfInBounds_toArray, List.set_cons_zero, List.set_cons_succ])
  refine late_early (i := 11) (v := ?_) rfl (by kernel_rfl) (by kernel_rfl) (by kernel_rfl) (by decide) (by kernel_rfl) (fun _ _ _ h => hQ _ _ _ _ _ h) hL (Or.inl ⟨by rfl, ?_⟩) (fun _ => ⟨r0, q0, rl, qb⟩) (fun hL' => ?_)
  rotate_left
  · intro y hy; have hz := hy rfl; clear hy; obtain ⟨g0, g1, g2, g3⟩ := hz; go_simp; (try with_reducible rfl)
  clear hL; rename Shutb _ _ => hL
  (try simp only [Act.put, List.getElem_toArray, List.getElem_cons_zero, List.getElem_cons_succ, List.setIfInBounds_toArray, List.set_cons_zero, List.set_cons_succ])
  refine late_early (i := 12) (v := ?_) rfl (by kernel_rfl) (by kernel_rfl) (by kernel_rfl) (by decide) (by kernel_rfl) (fun _ _ _ h => hQ _ _ _ _ _ h) hL (Or.inl ⟨by rfl, ?_⟩) (fun _ => ⟨r0, q0, rl, qb⟩) (fun hL' => ?_)
  rotate_left
  · intro y hy; have hz := hy rfl; clear hy; obtain ⟨g0, g1, g2, g3⟩ := hz; go_simp; (try with_reducible rfl)
  clear hL; rename Shutb _ _ => hL
  (try simp only [Act.put, List.getElem_toArray, List.getElem_cons_zero, List.getElem_cons_succ, List.setIfInBounds_toArray, List.set_cons_zero, List.set_cons_succ])
  refine late_early (i := 13) (v := ?_) rfl (by kernel_rfl) (by kernel_rfl) (by kernel_rfl) (by decide) (by kernel_rfl) (fun _ _ _ h => hQ _ _ _ _ _ h) hL (Or.inl ⟨by rfl, ?_⟩) (fun _ => ⟨r0, q0, rl, qb⟩) (fun hL' => ?_)
  rotate_left
  · intro y hy; have hz := hy rfl; clear hy; obtain ⟨g0, g1, g2, g3⟩ := hz; go_simp; (try with_reducible rfl)
  clear hL; rename Shutb _ _ => hL
  (try simp only [Act.put, List.getElem_toArray, List.getElem_cons_zero, List.getElem_cons_succ, List.setIfInBounds_toArray, List.set_cons_zero, List.set_cons_succ])
  refine late_early (i := 14) (v := ?_) rfl (by kernel_rfl) (by kernel_rfl) (by kernel_rfl) (by decide) (by kernel_rfl) (fun _ _ _ h => hQ _ _ _ _ _ h) hL (Or.inl ⟨by rfl, ?_⟩) (fun _ => ⟨r0, q0, rl, qb⟩) (fun hL' => ?_)
  rotate_left
  · intro y hy; have hz := hy rfl; clear hy; obtain ⟨g0, g1, g2, g3⟩ := hz; go_simp; (try with_reducible rfl)
  clear hL; rename Shutb _ _ => hL
  (try simp only [Act.put, List.getElem_toArray, List.getElem_cons_zero, List.getElem_cons_succ, List.setIfInBounds_toArray, List.set_cons_zero, List.set_cons_succ])
  refine late_early (i := 15) (v := ?_) rfl (by kernel_rfl) (by kernel_rfl) (by kernel_rfl) (by decide) (by kernel_rfl) (fun _ _ _ h => hQ _ _ _ _ _ h) hL (Or.inl ⟨by rfl, ?_⟩) (fun _ => ⟨r0, q0, rl, qb⟩) (fun hL' => ?_)
  rotate_left
  · intro y hy; have hz := hy rfl; clear hy; obtain ⟨g0, g1, g2, g3⟩ := hz; go_simp; (try with_reducible rfl)
  clear hL; rename Shutb _ _ => hL
  (try simp only [Act.put, List.getElem_toArray, List.getElem_cons_zero, List.getElem_cons_succ, List.setIfInBounds_toArray, List.set_cons_zero, List.set_cons_succ])
  refine late_one (i := 16) (by kernel_rfl) hL (fun hL' => ?_)
  refine wpOp_step rfl (fun K hK0 => ?_)
  have hK : Shut _ := hK0
  clear hK0
  go_simp
  obtain ⟨wz, hwz⟩ : ∃ wz, (wx.alloc (.cells #[.int .i64 0, .int .i64 0, .slice none 0 0] 54)).drew = wz := ⟨_, rfl⟩
  have hZ : Blk wz wx.heap.size #[.int .i64 0, .int .i64 0, .slice none 0 0] 54 := by rw [← hwz]; exact (Blk.new wx _ _).drew
  have hEz : Ext wx wz := by rw [← hwz]; exact ((Ext.refl wx).alloc _).drew
  rw [hwz]
  clear hwz
  refine hK.out _ _ ⟨fun _ => ⟨(hEz.cells.1 _ _ rl).trans r0, (hEz.cells.1 _ _ qb).trans q0, Nat.lt_of_lt_of_le rl hEz.size, Nat.lt_of_lt_of_le qb hEz.size⟩, ?_⟩
  clear hK K; clear hL; rename Shutb _ _ => hL
  (try simp only [Act.put, List.getElem_toArray, List.getElem_cons_zero, List.getElem_cons_succ, List.setIfInBounds_toArray, List.set_cons_zero, List.set_cons_succ])
  refine late_one (i := 17) (by kernel_rfl) hL (fun hL' => ?_)
  refine wpOp_step rfl (fun K hK0 => ?_)
  have hK : Shut _ := hK0
  clear hK0
  refine wp_store_mid 54 _ _ rfl (wx.heap.size) 0 #[.int .i64 b0, .int .i64 b0, .slice none 0 0] rfl rfl (there_of hZ (by simp)) (by kernel_rfl) (by first | rfl | (simp; done) | (simp; exact ⟨rfl, rfl, rfl⟩) | simp [Value.oneCell']) ?_
  refine hK.out _ _ ⟨fun e => absurd (e : true = false) (by decide), ?_⟩
  clear hK K; clear hL; rename Shutb _ _ => hL
  (try simp only [Act.put, List.getElem_toArray, List.getElem_cons_zero, List.getElem_cons_succ, List.setIfInBounds_toArray, List.set_cons_zero, List.set_cons_succ])
  refine late_done (by kernel_rfl) ?_
  (try dsimp only [Exit.then])
  have hB9 := ((hZ.set 0 (.int .i64 b0)).set 1 (.int .i64 b0)).set 2 (.slice none 0 0)
  exact HH.out _ _ _ _ _ _ _ _ _ _ _ _ _ _ _ _ _ (ext_setCells (Nat.le_refl _) [.int .i64 b0, .int .i64 b0, .slice none 0 0] 0 hEz) (by simpa [World.setCells] using hB9)
end Go.Proofs.Ytkjoojmlcjmlgaa
