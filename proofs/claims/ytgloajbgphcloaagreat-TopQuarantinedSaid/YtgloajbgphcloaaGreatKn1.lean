/- The examples' data: an islet. -/
import Derived.Test.YtgloajbgphcloaaGreatLnA
import Derived.Deep.MidRow
import Derived.Deep.Upon
import Derived.StillTailTactics
namespace Go.Proofs.YtgloajbgphcloaaGreat.Ln
set_option linter.unusedVariables false
set_option linter.unusedSimpArgs false
open Go.RowKit
open Act renaming put → Qh
open Blk renaming new' → Qg
open Ext renaming alloc → Qc, drew → Qd, refl → Qb, setCell → Qe, trans → Qf
open List renaming getElem_cons_succ → Qk, getElem_cons_zero → Qj, getElem_toArray → Qi, setIfInBounds_toArray → Ql, set_cons_succ → Qn, set_cons_zero → Qm
open Region renaming ready → Qa
theorem late_three {P:Program} {ops:Array Oper} {Q:Exit→Act→World→Prop} {S:Bool→World→Prop} {t:Nat} {L:Array Bool} {a:Act} {w:World} {f i j k:Nat} (hr:Qa .any ops L=[i,j,k]) (hL:Shutb ops L)
  (h:Shutb ops (L.setIfInBounds i true)→wpOp P ops Q i (fun a' w'=>S ((L.setIfInBounds i true).getD t false) w'∧wpAnyL P ops Q t S f (L.setIfInBounds i true) a' w') a w)
  (h2:Shutb ops (L.setIfInBounds j true)→wpOp P ops Q j (fun a' w'=>S ((L.setIfInBounds j true).getD t false) w'∧wpAnyL P ops Q t S f (L.setIfInBounds j true) a' w') a w)
  (h3:Shutb ops (L.setIfInBounds k true)→wpOp P ops Q k (fun a' w'=>S ((L.setIfInBounds k true).getD t false) w'∧wpAnyL P ops Q t S f (L.setIfInBounds k true) a' w') a w):wpAnyL P ops Q t S (f+1) L a w:=by
 have hi:i∈Qa .any ops L:=by rw[hr];simp
 have hj:j∈Qa .any ops L:=by rw[hr];simp
 have hk:k∈Qa .any ops L:=by rw[hr];simp
 refine⟨fun e=> ?_,fun m hm=> ?_⟩
 ·rw[hr]at e;cases e
 ·rw[hr]at hm
  simp only[List.mem_cons,List.not_mem_nil,or_false]at hm
  rcases hm with rfl|rfl|rfl
  ·exact h (shut_set hL hi)
  ·exact h2 (shut_set hL hj)
  ·exact h3 (shut_set hL hk)
theorem with_names {P:Program} {ops:Array Oper} {Q:Exit→Act→World→Prop} {S:Bool→World→Prop} {t:Nat} {L:Array Bool} {a:Act} {w:World} {f:Nat} (hL:Shutb ops L)
  (h:∀(WW:Nat→Array Bool→Act→World→Prop) (SH:Array Bool→Prop),WW=wpAnyL P ops Q t S→SH=Shutb ops→SH L→WW f L a w):wpAnyL P ops Q t S f L a w:=h _ _ rfl rfl hL
theorem there_of {w:World} {b:Nat} {cs:Array Value} {e:TypeId} (h:Blk w b cs e) {n:Nat} (hn:n≤cs.size):w.there b 0 n:=fun j hj=>⟨by rw[h.cell];simp;omega,h.free _⟩
theorem box16 {y:World} {b:Nat} {e:TypeId} (h:Blk y b #[.int .i64 0,.int .i64 0,.int .i64 0,.int .i64 0,.int .i64 0,.int .i64 0,.int .i64 0,.int .i64 0,.int .i64 0,.int .i64 0,.int .i64 0,.int .i64 0,.slice none 0 0,.slice none 0 0,.int .i64 0,.int .i64 0] e) (v0 v1 v2 v3 v4 v5 v6 v7 v8 v9 v10 v11 v12 v13 v14 v15:Value) :
  Blk ((((((((((((((((y.setCell ⟨b,0,none⟩ v0).setCell ⟨b,1,none⟩ v1).setCell ⟨b,2,none⟩ v2).setCell ⟨b,3,none⟩ v3).setCell ⟨b,4,none⟩ v4).setCell ⟨b,5,none⟩ v5).setCell ⟨b,6,none⟩ v6).setCell ⟨b,7,none⟩ v7).setCell ⟨b,8,none⟩ v8).setCell ⟨b,9,none⟩ v9).setCell ⟨b,10,none⟩ v10).setCell ⟨b,11,none⟩ v11).setCell ⟨b,12,none⟩ v12).setCell ⟨b,13,none⟩ v13).setCell ⟨b,14,none⟩ v14).setCell ⟨b,15,none⟩ v15) b #[v0,v1,v2,v3,v4,v5,v6,v7,v8,v9,v10,v11,v12,v13,v14,v15] e:=by
 simpa using((((((((((((((((h.set 0 v0).set 1 v1).set 2 v2).set 3 v3).set 4 v4).set 5 v5).set 6 v6).set 7 v7).set 8 v8).set 9 v9).set 10 v10).set 11 v11).set 12 v12).set 13 v13).set 14 v14).set 15 v15)
theorem ext16 {w y:World} {b:Nat} (hb:w.heap.size≤b) (h:Ext w y) (v0 v1 v2 v3 v4 v5 v6 v7 v8 v9 v10 v11 v12 v13 v14 v15:Value) :
  Ext w ((((((((((((((((y.setCell ⟨b,0,none⟩ v0).setCell ⟨b,1,none⟩ v1).setCell ⟨b,2,none⟩ v2).setCell ⟨b,3,none⟩ v3).setCell ⟨b,4,none⟩ v4).setCell ⟨b,5,none⟩ v5).setCell ⟨b,6,none⟩ v6).setCell ⟨b,7,none⟩ v7).setCell ⟨b,8,none⟩ v8).setCell ⟨b,9,none⟩ v9).setCell ⟨b,10,none⟩ v10).setCell ⟨b,11,none⟩ v11).setCell ⟨b,12,none⟩ v12).setCell ⟨b,13,none⟩ v13).setCell ⟨b,14,none⟩ v14).setCell ⟨b,15,none⟩ v15) :=
 ((((((((((((((((h.setCell (p:=⟨b,0,none⟩) hb v0).setCell (p:=⟨b,1,none⟩) hb v1).setCell (p:=⟨b,2,none⟩) hb v2).setCell (p:=⟨b,3,none⟩) hb v3).setCell (p:=⟨b,4,none⟩) hb v4).setCell (p:=⟨b,5,none⟩) hb v5).setCell (p:=⟨b,6,none⟩) hb v6).setCell (p:=⟨b,7,none⟩) hb v7).setCell (p:=⟨b,8,none⟩) hb v8).setCell (p:=⟨b,9,none⟩) hb v9).setCell (p:=⟨b,10,none⟩) hb v10).setCell (p:=⟨b,11,none⟩) hb v11).setCell (p:=⟨b,12,none⟩) hb v12).setCell (p:=⟨b,13,none⟩) hb v13).setCell (p:=⟨b,14,none⟩) hb v14).setCell (p:=⟨b,15,none⟩) hb v15)
theorem oth16 {y:World} {b c:Nat} {cs:Array Value} {e:TypeId} (h:Blk y c cs e) (hne:b≠c) (v0 v1 v2 v3 v4 v5 v6 v7 v8 v9 v10 v11 v12 v13 v14 v15:Value) :
  Blk ((((((((((((((((y.setCell ⟨b,0,none⟩ v0).setCell ⟨b,1,none⟩ v1).setCell ⟨b,2,none⟩ v2).setCell ⟨b,3,none⟩ v3).setCell ⟨b,4,none⟩ v4).setCell ⟨b,5,none⟩ v5).setCell ⟨b,6,none⟩ v6).setCell ⟨b,7,none⟩ v7).setCell ⟨b,8,none⟩ v8).setCell ⟨b,9,none⟩ v9).setCell ⟨b,10,none⟩ v10).setCell ⟨b,11,none⟩ v11).setCell ⟨b,12,none⟩ v12).setCell ⟨b,13,none⟩ v13).setCell ⟨b,14,none⟩ v14).setCell ⟨b,15,none⟩ v15) c cs e :=
 ((((((((((((((((h.other hne _).other hne _).other hne _).other hne _).other hne _).other hne _).other hne _).other hne _).other hne _).other hne _).other hne _).other hne _).other hne _).other hne _).other hne _).other hne _)
theorem exSpan_any (a b:Int) (w:World) :
  Calls Tryz.prog 124 #[.int .i64 a,.int .i64 b] w fun e w'=>e= .returned (.agg #[.int .i64 a,.int .i64 b])∧Ext w w':=by
 go_enter Tryz.func124,Tryz.ntmps124
 go_wp2
 exact bodyPost_ret (v:= .agg #[.int .i64 a,.int .i64 b]) (by simp[results,Tryz.results124,go_sem]) rfl ⟨rfl,by(with_reducible(repeat(first|exact Qb _|assumption|apply Qc|apply Qd|exact ext_plus _ _|(apply Qe;rotate_left;(simp<;>omega))|(apply Qf;rotate_left;exact ext_plus _ _)|(apply Qf;rotate_left;assumption))))⟩
theorem blk_ne {w:World} {b b':Nat} {cs cs':Array Value} {e e':TypeId} (h:Blk w b cs e) (h':Blk w b' cs' e') (hn:cs.size≠cs'.size):b≠b':=by
 rintro rfl
 unfold Blk at h h'
 rw[h]at h'
 have:=Option.some.inj h'
 simp only[Obj.cells.injEq]at this
 exact hn (by rw[this.1])
theorem ints_of_blk2 {w:World} {b:Nat} (h:Blk w b #[.int .i64 200,.int .i64 300] 3):Ints w (.slice (some ⟨b,0,none⟩) 2 2) exI.wells:=by
 refine⟨_,2,rfl,fun i hi=>⟨b,0,rfl,h.lt,?_⟩⟩
 have hi2:i<2:=hi
 rw[h.cell]
 match i,hi2 with
 | 0,_=>rfl
 | 1,_=>rfl
theorem months_of_blk {w:World} {b:Nat} (h:Blk w b #[.int .i64 100,.int .i64 150,.int .i64 0,.int .i64 20,.int .i64 40,.int .i64 50,.int .i64 100,.int .i64 150,.int .i64 0,.int .i64 20,.int .i64 40,.int .i64 50,.int .i64 100,.int .i64 150,.int .i64 0,.int .i64 20,.int .i64 40,.int .i64 50] 63):Months w (.slice (some ⟨b,0,none⟩) 3 3) exI.months:=by
 refine⟨_,3,rfl,fun i hi=>⟨b,0,rfl,h.lt,fun j u hu=> ?_⟩⟩
 have hi2:i<3:=hi
 have hj:j<6:=(List.getElem?_eq_some_iff.1 hu).1
 rw[h.cell]
 match i,hi2 with
 | 0,_=>match j,hj with
  | 0,_=>exact hu
  | 1,_=>exact hu
  | 2,_=>exact hu
  | 3,_=>exact hu
  | 4,_=>exact hu
  | 5,_=>exact hu
 | 1,_=>match j,hj with
  | 0,_=>exact hu
  | 1,_=>exact hu
  | 2,_=>exact hu
  | 3,_=>exact hu
  | 4,_=>exact hu
  | 5,_=>exact hu
 | 2,_=>match j,hj with
  | 0,_=>exact hu
  | 1,_=>exact hu
  | 2,_=>exact hu
  | 3,_=>exact hu
  | 4,_=>exact hu
  | 5,_=>exact hu
set_option maxRecDepth 100000 in
set_option maxHeartbeats 16000000 in
theorem exI_any (w:World):Calls Tryz.prog 52 #[] w fun e w'=>∃vw vm,e= .returned (.agg (islV exI vw vm))∧Ints w' vw exI.wells∧Months w' vm exI.months∧Ext w w':=by
 have hpc:=plus_cell
 go_enter Tryz.func52,Tryz.ntmps52
 go_upto_region 2 with(first|(go_at_call 124;refine(exSpan_any _ _ _).mono ?_;rintro e w' ⟨rfl,hE'⟩;have hz:=hE'.size;(try simp only[World.size_alloc]at hz)))
 obtain⟨bm,hbm⟩:∃n,w'.heap.size=n:=⟨_,rfl⟩
 obtain⟨w2,hw2⟩:∃y,w'.alloc (.cells #[.int .i64 100,.int .i64 150,.int .i64 0,.int .i64 20,.int .i64 40,.int .i64 50] 63)=y:=⟨_,rfl⟩
 have hE12:Ext (w.alloc (.cells #[.int .i64 0,.int .i64 0,.int .i64 0,.int .i64 0,.int .i64 0,.int .i64 0,.int .i64 0,.int .i64 0,.int .i64 0,.int .i64 0,.int .i64 0,.int .i64 0,.slice none 0 0,.slice none 0 0,.int .i64 0,.int .i64 0] 52)) w2:=by rw[← hw2];(with_reducible(repeat(first|exact Qb _|assumption|apply Qc|apply Qd|exact ext_plus _ _|(apply Qe;rotate_left;(simp<;>omega))|(apply Qf;rotate_left;exact ext_plus _ _)|(apply Qf;rotate_left;assumption))))
 have hb:Blk w2 w.heap.size #[.int .i64 0,.int .i64 0,.int .i64 0,.int .i64 0,.int .i64 0,.int .i64 0,.int .i64 0,.int .i64 0,.int .i64 0,.int .i64 0,.int .i64 0,.int .i64 0,.slice none 0 0,.slice none 0 0,.int .i64 0,.int .i64 0] 52:=(Qg rfl _ _).ext hE12
 have hm:Blk w2 bm #[.int .i64 100,.int .i64 150,.int .i64 0,.int .i64 20,.int .i64 40,.int .i64 50] 63:=by rw[← hw2];exact Qg hbm.symm _ _
 have hE:Ext w w2:=((Qb w).alloc _).trans hE12
 simp only[hw2,hbm]
 obtain⟨n0,hn0⟩:∃n,w.heap.size=n:=⟨_,rfl⟩
 rw[hn0]at hb
 simp only[hn0]
 have hn0':w.heap.size≤n0:=by omega
 clear hE12 hw2 hbm hn0
 rename Act→World→Prop=>KK
 rename ∀_ _,_→KK _ _=>hKK
 have HFIN:=Lib.hid (show ∀(b9 b13:Nat) (wz:World),Blk wz b9 #[.int .i64 200,.int .i64 300] 3→Blk wz b13 #[.int .i64 100,.int .i64 150,.int .i64 0,.int .i64 20,.int .i64 40,.int .i64 50,.int .i64 100,.int .i64 150,.int .i64 0,.int .i64 20,.int .i64 40,.int .i64 50,.int .i64 100,.int .i64 150,.int .i64 0,.int .i64 20,.int .i64 40,.int .i64 50] 63→Blk wz n0 #[.int .i64 1000,.int .i64 400,.int .i64 600,.int .i64 200,.int .i64 10000,.int .i64 300,.int .i64 400,.int .i64 50,.int .i64 100,.int .i64 30,.int .i64 250,.int .i64 10,.slice (some ⟨b9,0,none⟩) 2 2,.slice (some ⟨b13,0,none⟩) 3 3,.int .i64 2,.int .i64 2] 52→Ext w wz→KK { tmps:=#[.pointer (some ⟨n0,0,none⟩),.pointer (some ⟨bm,0,none⟩),.agg #[.int .i64 100,.int .i64 150],.agg #[.int .i64 0,.int .i64 20],.agg #[.int .i64 40,.int .i64 50],.agg #[.int .i64 100,.int .i64 150,.int .i64 0,.int .i64 20,.int .i64 40,.int .i64 50],.agg #[.int .i64 400,.int .i64 600],.agg #[.int .i64 300,.int .i64 400],.agg #[.int .i64 50,.int .i64 100],.slice (some ⟨b9,0,none⟩) 2 2,.agg #[.int .i64 100,.int .i64 150,.int .i64 0,.int .i64 20,.int .i64 40,.int .i64 50],.agg #[.int .i64 100,.int .i64 150,.int .i64 0,.int .i64 20,.int .i64 40,.int .i64 50],.agg #[.int .i64 100,.int .i64 150,.int .i64 0,.int .i64 20,.int .i64 40,.int .i64 50],.slice (some ⟨b13,0,none⟩) 3 3,.agg #[.int .i64 1000,.int .i64 400,.int .i64 600,.int .i64 200,.int .i64 10000,.int .i64 300,.int .i64 400,.int .i64 50,.int .i64 100,.int .i64 30,.int .i64 250,.int .i64 10,.slice (some ⟨b9,0,none⟩) 2 2,.slice (some ⟨b13,0,none⟩) 3 3,.int .i64 2,.int .i64 2]],defers:=[] } wz by
  intro b9 b13 wz h9 h13 h0 hEz
  refine hKK _ _ ?_
  have z0:=h0.cell
  go_wp2
  refine bodyPost_ret (v:= .agg #[.int .i64 1000,.int .i64 400,.int .i64 600,.int .i64 200,.int .i64 10000,.int .i64 300,.int .i64 400,.int .i64 50,.int .i64 100,.int .i64 30,.int .i64 250,.int .i64 10,.slice (some ⟨b9,0,none⟩) 2 2,.slice (some ⟨b13,0,none⟩) 3 3,.int .i64 2,.int .i64 2]) (by simp[results,Tryz.results52,go_sem,z0]) rfl ⟨_,_,rfl,ints_of_blk2 h9,months_of_blk h13,hEz⟩)
 clear hKK
 refine wp_region_late 9 (fun b y=>b=false→(∀ o,y.cell? ⟨bm,o,none⟩=(#[.int .i64 100,.int .i64 150,.int .i64 0,.int .i64 20,.int .i64 40,.int .i64 50]:Array Value)[o]?)) (by kernel_rfl) (fun hL=> ?_)
 refine late_early (i:=4) (v:= ?_) rfl (by kernel_rfl) (by kernel_rfl) (by kernel_rfl) (by decide) (by kernel_rfl) (fun _ _ _ h=>h) hL (Or.inl ⟨by rfl,?_⟩) (fun _=>hm.cell) (fun hL'=> ?_)
 rotate_left
 ·intro y hy;have hz:=hy rfl;clear hy;have g1:=hz;go_simp;(try with_reducible rfl)
 clear hL;rename Shutb _ _=>hL
 (try simp only[Qh,Qi,Qj,Qk,Ql,Qm,Qn])
 refine late_early (i:=5) (v:= ?_) rfl (by kernel_rfl) (by kernel_rfl) (by kernel_rfl) (by decide) (by kernel_rfl) (fun _ _ _ h=>h) hL (Or.inl ⟨by rfl,?_⟩) (fun _=>hm.cell) (fun hL'=> ?_)
 rotate_left
 ·intro y hy;have hz:=hy rfl;clear hy;have g1:=hz;go_simp;(try with_reducible rfl)
 clear hL;rename Shutb _ _=>hL
 (try simp only[Qh,Qi,Qj,Qk,Ql,Qm,Qn])
 refine late_early (i:=6) (v:= ?_) rfl (by kernel_rfl) (by kernel_rfl) (by kernel_rfl) (by decide) (by kernel_rfl) (fun _ _ _ h=>h) hL (Or.inl ⟨by rfl,?_⟩) (fun _=>hm.cell) (fun hL'=> ?_)
 rotate_left
 ·intro y hy;have hz:=hy rfl;clear hy;have g1:=hz;go_simp;(try with_reducible rfl)
 clear hL;rename Shutb _ _=>hL
 (try simp only[Qh,Qi,Qj,Qk,Ql,Qm,Qn])
 refine with_names hL (fun WW SH hWW hSH hL0=> ?_)
 clear hL
 have s311:∀(b9 b13:Nat) (wz:World),SH #[true,true,true,true,true,true,true,true,false,false]→Blk wz bm #[.int .i64 100,.int .i64 150,.int .i64 0,.int .i64 20,.int .i64 40,.int .i64 50] 63→Blk wz n0 #[.int .i64 0,.int .i64 0,.int .i64 0,.int .i64 0,.int .i64 0,.int .i64 0,.int .i64 0,.int .i64 0,.int .i64 0,.int .i64 0,.int .i64 0,.int .i64 0,.slice none 0 0,.slice none 0 0,.int .i64 0,.int .i64 0] 52→Ext w wz→Blk wz b9 #[.int .i64 200,.int .i64 300] 3→Blk wz b13 #[.int .i64 100,.int .i64 150,.int .i64 0,.int .i64 20,.int .i64 40,.int .i64 50,.int .i64 100,.int .i64 150,.int .i64 0,.int .i64 20,.int .i64 40,.int .i64 50,.int .i64 100,.int .i64 150,.int .i64 0,.int .i64 20,.int .i64 40,.int .i64 50] 63→WW 2 #[true,true,true,true,true,true,true,true,false,false] { tmps:=#[.pointer (some ⟨n0,0,none⟩),.pointer (some ⟨bm,0,none⟩),.agg #[.int .i64 100,.int .i64 150],.agg #[.int .i64 0,.int .i64 20],.agg #[.int .i64 40,.int .i64 50],.agg #[.int .i64 100,.int .i64 150,.int .i64 0,.int .i64 20,.int .i64 40,.int .i64 50],.agg #[.int .i64 400,.int .i64 600],.agg #[.int .i64 300,.int .i64 400],.agg #[.int .i64 50,.int .i64 100],.slice (some ⟨b9,0,none⟩) 2 2,.agg #[.int .i64 100,.int .i64 150,.int .i64 0,.int .i64 20,.int .i64 40,.int .i64 50],.agg #[.int .i64 100,.int .i64 150,.int .i64 0,.int .i64 20,.int .i64 40,.int .i64 50],.agg #[.int .i64 100,.int .i64 150,.int .i64 0,.int .i64 20,.int .i64 40,.int .i64 50],.slice (some ⟨b13,0,none⟩) 3 3,undef],defers:=[] } wz:=by
  intro b9 b13 wz hL hm hz hE h9 h13
  rw[hSH]at hL
  rw[hWW]
  refine late_one (i:=8) (by kernel_rfl) hL (fun hL'=> ?_)
  refine wpOp_step rfl (fun KK hK0=> ?_)
  have hK:Shut _:=hK0
  clear hK0
  go_simp
  refine hK.out _ _ ⟨fun _=>hm.cell,?_⟩
  clear hK KK;clear hL;rename Shutb _ _=>hL
  (try simp only[Qh,Qi,Qj,Qk,Ql,Qm,Qn])
  refine late_one (i:=9) (by kernel_rfl) hL (fun hL'=> ?_)
  refine wpOp_step rfl (fun KK hK0=> ?_)
  have hK:Shut _:=hK0
  clear hK0
  refine wp_store_mid 52 _ _ rfl n0 0 #[.int .i64 1000,.int .i64 400,.int .i64 600,.int .i64 200,.int .i64 10000,.int .i64 300,.int .i64 400,.int .i64 50,.int .i64 100,.int .i64 30,.int .i64 250,.int .i64 10,.slice (some ⟨b9,0,none⟩) 2 2,.slice (some ⟨b13,0,none⟩) 3 3,.int .i64 2,.int .i64 2] rfl rfl (there_of hz (by simp)) (by kernel_rfl) (by simp[Value.oneCell']) ?_
  refine hK.out _ _ ⟨fun e=>absurd (e:true=false) (by decide),?_⟩
  clear hK KK;clear hL;rename Shutb _ _=>hL
  (try simp only[Qh,Qi,Qj,Qk,Ql,Qm,Qn])
  have h9':Blk (wz.setCells n0 0 [.int .i64 1000,.int .i64 400,.int .i64 600,.int .i64 200,.int .i64 10000,.int .i64 300,.int .i64 400,.int .i64 50,.int .i64 100,.int .i64 30,.int .i64 250,.int .i64 10,.slice (some ⟨b9,0,none⟩) 2 2,.slice (some ⟨b13,0,none⟩) 3 3,.int .i64 2,.int .i64 2]) b9 #[.int .i64 200,.int .i64 300] 3:=oth16 h9 (blk_ne hz h9 (by decide)) (.int .i64 1000) (.int .i64 400) (.int .i64 600) (.int .i64 200) (.int .i64 10000) (.int .i64 300) (.int .i64 400) (.int .i64 50) (.int .i64 100) (.int .i64 30) (.int .i64 250) (.int .i64 10) (.slice (some ⟨b9,0,none⟩) 2 2) (.slice (some ⟨b13,0,none⟩) 3 3) (.int .i64 2) (.int .i64 2)
  have h13':Blk (wz.setCells n0 0 [.int .i64 1000,.int .i64 400,.int .i64 600,.int .i64 200,.int .i64 10000,.int .i64 300,.int .i64 400,.int .i64 50,.int .i64 100,.int .i64 30,.int .i64 250,.int .i64 10,.slice (some ⟨b9,0,none⟩) 2 2,.slice (some ⟨b13,0,none⟩) 3 3,.int .i64 2,.int .i64 2]) b13 #[.int .i64 100,.int .i64 150,.int .i64 0,.int .i64 20,.int .i64 40,.int .i64 50,.int .i64 100,.int .i64 150,.int .i64 0,.int .i64 20,.int .i64 40,.int .i64 50,.int .i64 100,.int .i64 150,.int .i64 0,.int .i64 20,.int .i64 40,.int .i64 50] 63:=oth16 h13 (blk_ne hz h13 (by decide)) (.int .i64 1000) (.int .i64 400) (.int .i64 600) (.int .i64 200) (.int .i64 10000) (.int .i64 300) (.int .i64 400) (.int .i64 50) (.int .i64 100) (.int .i64 30) (.int .i64 250) (.int .i64 10) (.slice (some ⟨b9,0,none⟩) 2 2) (.slice (some ⟨b13,0,none⟩) 3 3) (.int .i64 2) (.int .i64 2)
  have h0':Blk (wz.setCells n0 0 [.int .i64 1000,.int .i64 400,.int .i64 600,.int .i64 200,.int .i64 10000,.int .i64 300,.int .i64 400,.int .i64 50,.int .i64 100,.int .i64 30,.int .i64 250,.int .i64 10,.slice (some ⟨b9,0,none⟩) 2 2,.slice (some ⟨b13,0,none⟩) 3 3,.int .i64 2,.int .i64 2]) n0 #[.int .i64 1000,.int .i64 400,.int .i64 600,.int .i64 200,.int .i64 10000,.int .i64 300,.int .i64 400,.int .i64 50,.int .i64 100,.int .i64 30,.int .i64 250,.int .i64 10,.slice (some ⟨b9,0,none⟩) 2 2,.slice (some ⟨b13,0,none⟩) 3 3,.int .i64 2,.int .i64 2] 52:=box16 hz (.int .i64 1000) (.int .i64 400) (.int .i64 600) (.int .i64 200) (.int .i64 10000) (.int .i64 300) (.int .i64 400) (.int .i64 50) (.int .i64 100) (.int .i64 30) (.int .i64 250) (.int .i64 10) (.slice (some ⟨b9,0,none⟩) 2 2) (.slice (some ⟨b13,0,none⟩) 3 3) (.int .i64 2) (.int .i64 2)
  have hE':Ext w (wz.setCells n0 0 [.int .i64 1000,.int .i64 400,.int .i64 600,.int .i64 200,.int .i64 10000,.int .i64 300,.int .i64 400,.int .i64 50,.int .i64 100,.int .i64 30,.int .i64 250,.int .i64 10,.slice (some ⟨b9,0,none⟩) 2 2,.slice (some ⟨b13,0,none⟩) 3 3,.int .i64 2,.int .i64 2]):=ext16 hn0' hE (.int .i64 1000) (.int .i64 400) (.int .i64 600) (.int .i64 200) (.int .i64 10000) (.int .i64 300) (.int .i64 400) (.int .i64 50) (.int .i64 100) (.int .i64 30) (.int .i64 250) (.int .i64 10) (.slice (some ⟨b9,0,none⟩) 2 2) (.slice (some ⟨b13,0,none⟩) 3 3) (.int .i64 2) (.int .i64 2)
  refine late_done (by kernel_rfl) ?_
  (try dsimp only[Exit.then])
  refine HFIN.out b9 b13 _ h9' h13' h0' hE'
 have s310:∀(b9 b13:Nat) (wz:World),SH #[true,true,true,true,true,true,true,false,false,false]→Blk wz bm #[.int .i64 100,.int .i64 150,.int .i64 0,.int .i64 20,.int .i64 40,.int .i64 50] 63→Blk wz n0 #[.int .i64 0,.int .i64 0,.int .i64 0,.int .i64 0,.int .i64 0,.int .i64 0,.int .i64 0,.int .i64 0,.int .i64 0,.int .i64 0,.int .i64 0,.int .i64 0,.slice none 0 0,.slice none 0 0,.int .i64 0,.int .i64 0] 52→Ext w wz→Blk wz b9 #[.int .i64 200,.int .i64 300] 3→WW 3 #[true,true,true,true,true,true,true,false,false,false] { tmps:=#[.pointer (some ⟨n0,0,none⟩),.pointer (some ⟨bm,0,none⟩),.agg #[.int .i64 100,.int .i64 150],.agg #[.int .i64 0,.int .i64 20],.agg #[.int .i64 40,.int .i64 50],.agg #[.int .i64 100,.int .i64 150,.int .i64 0,.int .i64 20,.int .i64 40,.int .i64 50],.agg #[.int .i64 400,.int .i64 600],.agg #[.int .i64 300,.int .i64 400],.agg #[.int .i64 50,.int .i64 100],.slice (some ⟨b9,0,none⟩) 2 2,.agg #[.int .i64 100,.int .i64 150,.int .i64 0,.int .i64 20,.int .i64 40,.int .i64 50],.agg #[.int .i64 100,.int .i64 150,.int .i64 0,.int .i64 20,.int .i64 40,.int .i64 50],.agg #[.int .i64 100,.int .i64 150,.int .i64 0,.int .i64 20,.int .i64 40,.int .i64 50],undef,undef],defers:=[] } wz:=by
  intro b9 b13 wz hL hm hz hE h9
  rw[hSH]at hL
  rw[hWW]
  refine late_one (i:=7) (by kernel_rfl) hL (fun hL'=> ?_)
  refine wpOp_step rfl (fun KK hK0=> ?_)
  have hK:Shut _:=hK0
  clear hK0
  go_simp
  obtain⟨wy,hwy⟩:∃y,wz.alloc (.cells #[.int .i64 100,.int .i64 150,.int .i64 0,.int .i64 20,.int .i64 40,.int .i64 50,.int .i64 100,.int .i64 150,.int .i64 0,.int .i64 20,.int .i64 40,.int .i64 50,.int .i64 100,.int .i64 150,.int .i64 0,.int .i64 20,.int .i64 40,.int .i64 50] 63)=y:=⟨_,rfl⟩
  have hy:Ext wz wy:=by rw[← hwy];(with_reducible(repeat(first|exact Qb _|assumption|apply Qc|apply Qd|exact ext_plus _ _|(apply Qe;rotate_left;(simp<;>omega))|(apply Qf;rotate_left;exact ext_plus _ _)|(apply Qf;rotate_left;assumption))))
  have hN:Blk wy wz.heap.size #[.int .i64 100,.int .i64 150,.int .i64 0,.int .i64 20,.int .i64 40,.int .i64 50,.int .i64 100,.int .i64 150,.int .i64 0,.int .i64 20,.int .i64 40,.int .i64 50,.int .i64 100,.int .i64 150,.int .i64 0,.int .i64 20,.int .i64 40,.int .i64 50] 63:=by rw[← hwy];exact Qg rfl _ _
  rw[hwy]
  clear hwy
  refine hK.out _ _ ⟨fun _=>(hm.ext hy).cell,?_⟩
  clear hK KK;clear hL;rename Shutb _ _=>hL
  (try simp only[Qh,Qi,Qj,Qk,Ql,Qm,Qn])
  rw[← hWW];exact s311 b9 wz.heap.size wy (by rw[hSH];exact hL) (hm.ext hy) (hz.ext hy) (hE.trans hy) (h9.ext hy) hN
 have s301:∀(b9 b13:Nat) (wz:World),SH #[true,true,true,false,true,true,true,true,false,false]→Blk wz bm #[.int .i64 100,.int .i64 150,.int .i64 0,.int .i64 20,.int .i64 40,.int .i64 50] 63→Blk wz n0 #[.int .i64 0,.int .i64 0,.int .i64 0,.int .i64 0,.int .i64 0,.int .i64 0,.int .i64 0,.int .i64 0,.int .i64 0,.int .i64 0,.int .i64 0,.int .i64 0,.slice none 0 0,.slice none 0 0,.int .i64 0,.int .i64 0] 52→Ext w wz→Blk wz b13 #[.int .i64 100,.int .i64 150,.int .i64 0,.int .i64 20,.int .i64 40,.int .i64 50,.int .i64 100,.int .i64 150,.int .i64 0,.int .i64 20,.int .i64 40,.int .i64 50,.int .i64 100,.int .i64 150,.int .i64 0,.int .i64 20,.int .i64 40,.int .i64 50] 63→WW 3 #[true,true,true,false,true,true,true,true,false,false] { tmps:=#[.pointer (some ⟨n0,0,none⟩),.pointer (some ⟨bm,0,none⟩),.agg #[.int .i64 100,.int .i64 150],.agg #[.int .i64 0,.int .i64 20],.agg #[.int .i64 40,.int .i64 50],.agg #[.int .i64 100,.int .i64 150,.int .i64 0,.int .i64 20,.int .i64 40,.int .i64 50],.agg #[.int .i64 400,.int .i64 600],.agg #[.int .i64 300,.int .i64 400],.agg #[.int .i64 50,.int .i64 100],undef,.agg #[.int .i64 100,.int .i64 150,.int .i64 0,.int .i64 20,.int .i64 40,.int .i64 50],.agg #[.int .i64 100,.int .i64 150,.int .i64 0,.int .i64 20,.int .i64 40,.int .i64 50],.agg #[.int .i64 100,.int .i64 150,.int .i64 0,.int .i64 20,.int .i64 40,.int .i64 50],.slice (some ⟨b13,0,none⟩) 3 3,undef],defers:=[] } wz:=by
  intro b9 b13 wz hL hm hz hE h13
  rw[hSH]at hL
  rw[hWW]
  refine late_one (i:=3) (by kernel_rfl) hL (fun hL'=> ?_)
  refine wpOp_step rfl (fun KK hK0=> ?_)
  have hK:Shut _:=hK0
  clear hK0
  go_simp
  obtain⟨wy,hwy⟩:∃y,wz.alloc (.cells #[.int .i64 200,.int .i64 300] 3)=y:=⟨_,rfl⟩
  have hy:Ext wz wy:=by rw[← hwy];(with_reducible(repeat(first|exact Qb _|assumption|apply Qc|apply Qd|exact ext_plus _ _|(apply Qe;rotate_left;(simp<;>omega))|(apply Qf;rotate_left;exact ext_plus _ _)|(apply Qf;rotate_left;assumption))))
  have hN:Blk wy wz.heap.size #[.int .i64 200,.int .i64 300] 3:=by rw[← hwy];exact Qg rfl _ _
  rw[hwy]
  clear hwy
  refine hK.out _ _ ⟨fun _=>(hm.ext hy).cell,?_⟩
  clear hK KK;clear hL;rename Shutb _ _=>hL
  (try simp only[Qh,Qi,Qj,Qk,Ql,Qm,Qn])
  rw[← hWW];exact s311 wz.heap.size b13 wy (by rw[hSH];exact hL) (hm.ext hy) (hz.ext hy) (hE.trans hy) hN (h13.ext hy)
 have s300:∀(b9 b13:Nat) (wz:World),SH #[true,true,true,false,true,true,true,false,false,false]→Blk wz bm #[.int .i64 100,.int .i64 150,.int .i64 0,.int .i64 20,.int .i64 40,.int .i64 50] 63→Blk wz n0 #[.int .i64 0,.int .i64 0,.int .i64 0,.int .i64 0,.int .i64 0,.int .i64 0,.int .i64 0,.int .i64 0,.int .i64 0,.int .i64 0,.int .i64 0,.int .i64 0,.slice none 0 0,.slice none 0 0,.int .i64 0,.int .i64 0] 52→Ext w wz→WW 4 #[true,true,true,false,true,true,true,false,false,false] { tmps:=#[.pointer (some ⟨n0,0,none⟩),.pointer (some ⟨bm,0,none⟩),.agg #[.int .i64 100,.int .i64 150],.agg #[.int .i64 0,.int .i64 20],.agg #[.int .i64 40,.int .i64 50],.agg #[.int .i64 100,.int .i64 150,.int .i64 0,.int .i64 20,.int .i64 40,.int .i64 50],.agg #[.int .i64 400,.int .i64 600],.agg #[.int .i64 300,.int .i64 400],.agg #[.int .i64 50,.int .i64 100],undef,.agg #[.int .i64 100,.int .i64 150,.int .i64 0,.int .i64 20,.int .i64 40,.int .i64 50],.agg #[.int .i64 100,.int .i64 150,.int .i64 0,.int .i64 20,.int .i64 40,.int .i64 50],.agg #[.int .i64 100,.int .i64 150,.int .i64 0,.int .i64 20,.int .i64 40,.int .i64 50],undef,undef],defers:=[] } wz:=by
  intro b9 b13 wz hL hm hz hE
  rw[hSH]at hL
  rw[hWW]
  refine late_two (i:=3) (j:=7) (by kernel_rfl) hL (fun hL'=> ?_) (fun hL'=> ?_)
  ·refine wpOp_step rfl (fun KK hK0=> ?_)
   have hK:Shut _:=hK0
   clear hK0
   go_simp
   obtain⟨wy,hwy⟩:∃y,wz.alloc (.cells #[.int .i64 200,.int .i64 300] 3)=y:=⟨_,rfl⟩
   have hy:Ext wz wy:=by rw[← hwy];(with_reducible(repeat(first|exact Qb _|assumption|apply Qc|apply Qd|exact ext_plus _ _|(apply Qe;rotate_left;(simp<;>omega))|(apply Qf;rotate_left;exact ext_plus _ _)|(apply Qf;rotate_left;assumption))))
   have hN:Blk wy wz.heap.size #[.int .i64 200,.int .i64 300] 3:=by rw[← hwy];exact Qg rfl _ _
   rw[hwy]
   clear hwy
   refine hK.out _ _ ⟨fun _=>(hm.ext hy).cell,?_⟩
   clear hK KK;clear hL;rename Shutb _ _=>hL
   (try simp only[Qh,Qi,Qj,Qk,Ql,Qm,Qn])
   rw[← hWW];exact s310 wz.heap.size b13 wy (by rw[hSH];exact hL) (hm.ext hy) (hz.ext hy) (hE.trans hy) hN
  ·refine wpOp_step rfl (fun KK hK0=> ?_)
   have hK:Shut _:=hK0
   clear hK0
   go_simp
   obtain⟨wy,hwy⟩:∃y,wz.alloc (.cells #[.int .i64 100,.int .i64 150,.int .i64 0,.int .i64 20,.int .i64 40,.int .i64 50,.int .i64 100,.int .i64 150,.int .i64 0,.int .i64 20,.int .i64 40,.int .i64 50,.int .i64 100,.int .i64 150,.int .i64 0,.int .i64 20,.int .i64 40,.int .i64 50] 63)=y:=⟨_,rfl⟩
   have hy:Ext wz wy:=by rw[← hwy];(with_reducible(repeat(first|exact Qb _|assumption|apply Qc|apply Qd|exact ext_plus _ _|(apply Qe;rotate_left;(simp<;>omega))|(apply Qf;rotate_left;exact ext_plus _ _)|(apply Qf;rotate_left;assumption))))
   have hN:Blk wy wz.heap.size #[.int .i64 100,.int .i64 150,.int .i64 0,.int .i64 20,.int .i64 40,.int .i64 50,.int .i64 100,.int .i64 150,.int .i64 0,.int .i64 20,.int .i64 40,.int .i64 50,.int .i64 100,.int .i64 150,.int .i64 0,.int .i64 20,.int .i64 40,.int .i64 50] 63:=by rw[← hwy];exact Qg rfl _ _
   rw[hwy]
   clear hwy
   refine hK.out _ _ ⟨fun _=>(hm.ext hy).cell,?_⟩
   clear hK KK;clear hL;rename Shutb _ _=>hL
   (try simp only[Qh,Qi,Qj,Qk,Ql,Qm,Qn])
   rw[← hWW];exact s301 b9 wz.heap.size wy (by rw[hSH];exact hL) (hm.ext hy) (hz.ext hy) (hE.trans hy) hN
 have s211:∀(b9 b13:Nat) (wz:World),SH #[true,true,false,true,true,true,true,true,false,false]→Blk wz bm #[.int .i64 100,.int .i64 150,.int .i64 0,.int .i64 20,.int .i64 40,.int .i64 50] 63→Blk wz n0 #[.int .i64 0,.int .i64 0,.int .i64 0,.int .i64 0,.int .i64 0,.int .i64 0,.int .i64 0,.int .i64 0,.int .i64 0,.int .i64 0,.int .i64 0,.int .i64 0,.slice none 0 0,.slice none 0 0,.int .i64 0,.int .i64 0] 52→Ext w wz→Blk wz b9 #[.int .i64 200,.int .i64 300] 3→Blk wz b13 #[.int .i64 100,.int .i64 150,.int .i64 0,.int .i64 20,.int .i64 40,.int .i64 50,.int .i64 100,.int .i64 150,.int .i64 0,.int .i64 20,.int .i64 40,.int .i64 50,.int .i64 100,.int .i64 150,.int .i64 0,.int .i64 20,.int .i64 40,.int .i64 50] 63→WW 3 #[true,true,false,true,true,true,true,true,false,false] { tmps:=#[.pointer (some ⟨n0,0,none⟩),.pointer (some ⟨bm,0,none⟩),.agg #[.int .i64 100,.int .i64 150],.agg #[.int .i64 0,.int .i64 20],.agg #[.int .i64 40,.int .i64 50],.agg #[.int .i64 100,.int .i64 150,.int .i64 0,.int .i64 20,.int .i64 40,.int .i64 50],.agg #[.int .i64 400,.int .i64 600],.agg #[.int .i64 300,.int .i64 400],undef,.slice (some ⟨b9,0,none⟩) 2 2,.agg #[.int .i64 100,.int .i64 150,.int .i64 0,.int .i64 20,.int .i64 40,.int .i64 50],.agg #[.int .i64 100,.int .i64 150,.int .i64 0,.int .i64 20,.int .i64 40,.int .i64 50],.agg #[.int .i64 100,.int .i64 150,.int .i64 0,.int .i64 20,.int .i64 40,.int .i64 50],.slice (some ⟨b13,0,none⟩) 3 3,undef],defers:=[] } wz:=by
  intro b9 b13 wz hL hm hz hE h9 h13
  rw[hSH]at hL
  rw[hWW]
  refine late_one (i:=2) (by kernel_rfl) hL (fun hL'=> ?_)
  refine wpOp_step rfl (fun KK hK0=> ?_)
  have hK:Shut _:=hK0
  clear hK0
  go_simp
  go_wp2_with (first|(go_at_call 124;(with_reducible refine(exSpan_any 50 100 _).mono ?_);rintro e wy ⟨rfl,hy⟩))
  refine hK.out _ _ ⟨fun _=>(hm.ext hy).cell,?_⟩
  clear hK KK;clear hL;rename Shutb _ _=>hL
  (try simp only[Qh,Qi,Qj,Qk,Ql,Qm,Qn])
  rw[← hWW];exact s311 b9 b13 wy (by rw[hSH];exact hL) (hm.ext hy) (hz.ext hy) (hE.trans hy) (h9.ext hy) (h13.ext hy)
 have s210:∀(b9 b13:Nat) (wz:World),SH #[true,true,false,true,true,true,true,false,false,false]→Blk wz bm #[.int .i64 100,.int .i64 150,.int .i64 0,.int .i64 20,.int .i64 40,.int .i64 50] 63→Blk wz n0 #[.int .i64 0,.int .i64 0,.int .i64 0,.int .i64 0,.int .i64 0,.int .i64 0,.int .i64 0,.int .i64 0,.int .i64 0,.int .i64 0,.int .i64 0,.int .i64 0,.slice none 0 0,.slice none 0 0,.int .i64 0,.int .i64 0] 52→Ext w wz→Blk wz b9 #[.int .i64 200,.int .i64 300] 3→WW 4 #[true,true,false,true,true,true,true,false,false,false] { tmps:=#[.pointer (some ⟨n0,0,none⟩),.pointer (some ⟨bm,0,none⟩),.agg #[.int .i64 100,.int .i64 150],.agg #[.int .i64 0,.int .i64 20],.agg #[.int .i64 40,.int .i64 50],.agg #[.int .i64 100,.int .i64 150,.int .i64 0,.int .i64 20,.int .i64 40,.int .i64 50],.agg #[.int .i64 400,.int .i64 600],.agg #[.int .i64 300,.int .i64 400],undef,.slice (some ⟨b9,0,none⟩) 2 2,.agg #[.int .i64 100,.int .i64 150,.int .i64 0,.int .i64 20,.int .i64 40,.int .i64 50],.agg #[.int .i64 100,.int .i64 150,.int .i64 0,.int .i64 20,.int .i64 40,.int .i64 50],.agg #[.int .i64 100,.int .i64 150,.int .i64 0,.int .i64 20,.int .i64 40,.int .i64 50],undef,undef],defers:=[] } wz:=by
  intro b9 b13 wz hL hm hz hE h9
  rw[hSH]at hL
  rw[hWW]
  refine late_two (i:=2) (j:=7) (by kernel_rfl) hL (fun hL'=> ?_) (fun hL'=> ?_)
  ·refine wpOp_step rfl (fun KK hK0=> ?_)
   have hK:Shut _:=hK0
   clear hK0
   go_simp
   go_wp2_with (first|(go_at_call 124;(with_reducible refine(exSpan_any 50 100 _).mono ?_);rintro e wy ⟨rfl,hy⟩))
   refine hK.out _ _ ⟨fun _=>(hm.ext hy).cell,?_⟩
   clear hK KK;clear hL;rename Shutb _ _=>hL
   (try simp only[Qh,Qi,Qj,Qk,Ql,Qm,Qn])
   rw[← hWW];exact s310 b9 b13 wy (by rw[hSH];exact hL) (hm.ext hy) (hz.ext hy) (hE.trans hy) (h9.ext hy)
  ·refine wpOp_step rfl (fun KK hK0=> ?_)
   have hK:Shut _:=hK0
   clear hK0
   go_simp
   obtain⟨wy,hwy⟩:∃y,wz.alloc (.cells #[.int .i64 100,.int .i64 150,.int .i64 0,.int .i64 20,.int .i64 40,.int .i64 50,.int .i64 100,.int .i64 150,.int .i64 0,.int .i64 20,.int .i64 40,.int .i64 50,.int .i64 100,.int .i64 150,.int .i64 0,.int .i64 20,.int .i64 40,.int .i64 50] 63)=y:=⟨_,rfl⟩
   have hy:Ext wz wy:=by rw[← hwy];(with_reducible(repeat(first|exact Qb _|assumption|apply Qc|apply Qd|exact ext_plus _ _|(apply Qe;rotate_left;(simp<;>omega))|(apply Qf;rotate_left;exact ext_plus _ _)|(apply Qf;rotate_left;assumption))))
   have hN:Blk wy wz.heap.size #[.int .i64 100,.int .i64 150,.int .i64 0,.int .i64 20,.int .i64 40,.int .i64 50,.int .i64 100,.int .i64 150,.int .i64 0,.int .i64 20,.int .i64 40,.int .i64 50,.int .i64 100,.int .i64 150,.int .i64 0,.int .i64 20,.int .i64 40,.int .i64 50] 63:=by rw[← hwy];exact Qg rfl _ _
   rw[hwy]
   clear hwy
   refine hK.out _ _ ⟨fun _=>(hm.ext hy).cell,?_⟩
   clear hK KK;clear hL;rename Shutb _ _=>hL
   (try simp only[Qh,Qi,Qj,Qk,Ql,Qm,Qn])
   rw[← hWW];exact s211 b9 wz.heap.size wy (by rw[hSH];exact hL) (hm.ext hy) (hz.ext hy) (hE.trans hy) (h9.ext hy) hN
 have s201:∀(b9 b13:Nat) (wz:World),SH #[true,true,false,false,true,true,true,true,false,false]→Blk wz bm #[.int .i64 100,.int .i64 150,.int .i64 0,.int .i64 20,.int .i64 40,.int .i64 50] 63→Blk wz n0 #[.int .i64 0,.int .i64 0,.int .i64 0,.int .i64 0,.int .i64 0,.int .i64 0,.int .i64 0,.int .i64 0,.int .i64 0,.int .i64 0,.int .i64 0,.int .i64 0,.slice none 0 0,.slice none 0 0,.int .i64 0,.int .i64 0] 52→Ext w wz→Blk wz b13 #[.int .i64 100,.int .i64 150,.int .i64 0,.int .i64 20,.int .i64 40,.int .i64 50,.int .i64 100,.int .i64 150,.int .i64 0,.int .i64 20,.int .i64 40,.int .i64 50,.int .i64 100,.int .i64 150,.int .i64 0,.int .i64 20,.int .i64 40,.int .i64 50] 63→WW 4 #[true,true,false,false,true,true,true,true,false,false] { tmps:=#[.pointer (some ⟨n0,0,none⟩),.pointer (some ⟨bm,0,none⟩),.agg #[.int .i64 100,.int .i64 150],.agg #[.int .i64 0,.int .i64 20],.agg #[.int .i64 40,.int .i64 50],.agg #[.int .i64 100,.int .i64 150,.int .i64 0,.int .i64 20,.int .i64 40,.int .i64 50],.agg #[.int .i64 400,.int .i64 600],.agg #[.int .i64 300,.int .i64 400],undef,undef,.agg #[.int .i64 100,.int .i64 150,.int .i64 0,.int .i64 20,.int .i64 40,.int .i64 50],.agg #[.int .i64 100,.int .i64 150,.int .i64 0,.int .i64 20,.int .i64 40,.int .i64 50],.agg #[.int .i64 100,.int .i64 150,.int .i64 0,.int .i64 20,.int .i64 40,.int .i64 50],.slice (some ⟨b13,0,none⟩) 3 3,undef],defers:=[] } wz:=by
  intro b9 b13 wz hL hm hz hE h13
  rw[hSH]at hL
  rw[hWW]
  refine late_two (i:=2) (j:=3) (by kernel_rfl) hL (fun hL'=> ?_) (fun hL'=> ?_)
  ·refine wpOp_step rfl (fun KK hK0=> ?_)
   have hK:Shut _:=hK0
   clear hK0
   go_simp
   go_wp2_with (first|(go_at_call 124;(with_reducible refine(exSpan_any 50 100 _).mono ?_);rintro e wy ⟨rfl,hy⟩))
   refine hK.out _ _ ⟨fun _=>(hm.ext hy).cell,?_⟩
   clear hK KK;clear hL;rename Shutb _ _=>hL
   (try simp only[Qh,Qi,Qj,Qk,Ql,Qm,Qn])
   rw[← hWW];exact s301 b9 b13 wy (by rw[hSH];exact hL) (hm.ext hy) (hz.ext hy) (hE.trans hy) (h13.ext hy)
  ·refine wpOp_step rfl (fun KK hK0=> ?_)
   have hK:Shut _:=hK0
   clear hK0
   go_simp
   obtain⟨wy,hwy⟩:∃y,wz.alloc (.cells #[.int .i64 200,.int .i64 300] 3)=y:=⟨_,rfl⟩
   have hy:Ext wz wy:=by rw[← hwy];(with_reducible(repeat(first|exact Qb _|assumption|apply Qc|apply Qd|exact ext_plus _ _|(apply Qe;rotate_left;(simp<;>omega))|(apply Qf;rotate_left;exact ext_plus _ _)|(apply Qf;rotate_left;assumption))))
   have hN:Blk wy wz.heap.size #[.int .i64 200,.int .i64 300] 3:=by rw[← hwy];exact Qg rfl _ _
   rw[hwy]
   clear hwy
   refine hK.out _ _ ⟨fun _=>(hm.ext hy).cell,?_⟩
   clear hK KK;clear hL;rename Shutb _ _=>hL
   (try simp only[Qh,Qi,Qj,Qk,Ql,Qm,Qn])
   rw[← hWW];exact s211 wz.heap.size b13 wy (by rw[hSH];exact hL) (hm.ext hy) (hz.ext hy) (hE.trans hy) hN (h13.ext hy)
 have s200:∀(b9 b13:Nat) (wz:World),SH #[true,true,false,false,true,true,true,false,false,false]→Blk wz bm #[.int .i64 100,.int .i64 150,.int .i64 0,.int .i64 20,.int .i64 40,.int .i64 50] 63→Blk wz n0 #[.int .i64 0,.int .i64 0,.int .i64 0,.int .i64 0,.int .i64 0,.int .i64 0,.int .i64 0,.int .i64 0,.int .i64 0,.int .i64 0,.int .i64 0,.int .i64 0,.slice none 0 0,.slice none 0 0,.int .i64 0,.int .i64 0] 52→Ext w wz→WW 5 #[true,true,false,false,true,true,true,false,false,false] { tmps:=#[.pointer (some ⟨n0,0,none⟩),.pointer (some ⟨bm,0,none⟩),.agg #[.int .i64 100,.int .i64 150],.agg #[.int .i64 0,.int .i64 20],.agg #[.int .i64 40,.int .i64 50],.agg #[.int .i64 100,.int .i64 150,.int .i64 0,.int .i64 20,.int .i64 40,.int .i64 50],.agg #[.int .i64 400,.int .i64 600],.agg #[.int .i64 300,.int .i64 400],undef,undef,.agg #[.int .i64 100,.int .i64 150,.int .i64 0,.int .i64 20,.int .i64 40,.int .i64 50],.agg #[.int .i64 100,.int .i64 150,.int .i64 0,.int .i64 20,.int .i64 40,.int .i64 50],.agg #[.int .i64 100,.int .i64 150,.int .i64 0,.int .i64 20,.int .i64 40,.int .i64 50],undef,undef],defers:=[] } wz:=by
  intro b9 b13 wz hL hm hz hE
  rw[hSH]at hL
  rw[hWW]
  refine late_three (i:=2) (j:=3) (k:=7) (by kernel_rfl) hL (fun hL'=> ?_) (fun hL'=> ?_) (fun hL'=> ?_)
  ·refine wpOp_step rfl (fun KK hK0=> ?_)
   have hK:Shut _:=hK0
   clear hK0
   go_simp
   go_wp2_with (first|(go_at_call 124;(with_reducible refine(exSpan_any 50 100 _).mono ?_);rintro e wy ⟨rfl,hy⟩))
   refine hK.out _ _ ⟨fun _=>(hm.ext hy).cell,?_⟩
   clear hK KK;clear hL;rename Shutb _ _=>hL
   (try simp only[Qh,Qi,Qj,Qk,Ql,Qm,Qn])
   rw[← hWW];exact s300 b9 b13 wy (by rw[hSH];exact hL) (hm.ext hy) (hz.ext hy) (hE.trans hy)
  ·refine wpOp_step rfl (fun KK hK0=> ?_)
   have hK:Shut _:=hK0
   clear hK0
   go_simp
   obtain⟨wy,hwy⟩:∃y,wz.alloc (.cells #[.int .i64 200,.int .i64 300] 3)=y:=⟨_,rfl⟩
   have hy:Ext wz wy:=by rw[← hwy];(with_reducible(repeat(first|exact Qb _|assumption|apply Qc|apply Qd|exact ext_plus _ _|(apply Qe;rotate_left;(simp<;>omega))|(apply Qf;rotate_left;exact ext_plus _ _)|(apply Qf;rotate_left;assumption))))
   have hN:Blk wy wz.heap.size #[.int .i64 200,.int .i64 300] 3:=by rw[← hwy];exact Qg rfl _ _
   rw[hwy]
   clear hwy
   refine hK.out _ _ ⟨fun _=>(hm.ext hy).cell,?_⟩
   clear hK KK;clear hL;rename Shutb _ _=>hL
   (try simp only[Qh,Qi,Qj,Qk,Ql,Qm,Qn])
   rw[← hWW];exact s210 wz.heap.size b13 wy (by rw[hSH];exact hL) (hm.ext hy) (hz.ext hy) (hE.trans hy) hN
  ·refine wpOp_step rfl (fun KK hK0=> ?_)
   have hK:Shut _:=hK0
   clear hK0
   go_simp
   obtain⟨wy,hwy⟩:∃y,wz.alloc (.cells #[.int .i64 100,.int .i64 150,.int .i64 0,.int .i64 20,.int .i64 40,.int .i64 50,.int .i64 100,.int .i64 150,.int .i64 0,.int .i64 20,.int .i64 40,.int .i64 50,.int .i64 100,.int .i64 150,.int .i64 0,.int .i64 20,.int .i64 40,.int .i64 50] 63)=y:=⟨_,rfl⟩
   have hy:Ext wz wy:=by rw[← hwy];(with_reducible(repeat(first|exact Qb _|assumption|apply Qc|apply Qd|exact ext_plus _ _|(apply Qe;rotate_left;(simp<;>omega))|(apply Qf;rotate_left;exact ext_plus _ _)|(apply Qf;rotate_left;assumption))))
   have hN:Blk wy wz.heap.size #[.int .i64 100,.int .i64 150,.int .i64 0,.int .i64 20,.int .i64 40,.int .i64 50,.int .i64 100,.int .i64 150,.int .i64 0,.int .i64 20,.int .i64 40,.int .i64 50,.int .i64 100,.int .i64 150,.int .i64 0,.int .i64 20,.int .i64 40,.int .i64 50] 63:=by rw[← hwy];exact Qg rfl _ _
   rw[hwy]
   clear hwy
   refine hK.out _ _ ⟨fun _=>(hm.ext hy).cell,?_⟩
   clear hK KK;clear hL;rename Shutb _ _=>hL
   (try simp only[Qh,Qi,Qj,Qk,Ql,Qm,Qn])
   rw[← hWW];exact s201 b9 wz.heap.size wy (by rw[hSH];exact hL) (hm.ext hy) (hz.ext hy) (hE.trans hy) hN
 have s111:∀(b9 b13:Nat) (wz:World),SH #[true,false,false,true,true,true,true,true,false,false]→Blk wz bm #[.int .i64 100,.int .i64 150,.int .i64 0,.int .i64 20,.int .i64 40,.int .i64 50] 63→Blk wz n0 #[.int .i64 0,.int .i64 0,.int .i64 0,.int .i64 0,.int .i64 0,.int .i64 0,.int .i64 0,.int .i64 0,.int .i64 0,.int .i64 0,.int .i64 0,.int .i64 0,.slice none 0 0,.slice none 0 0,.int .i64 0,.int .i64 0] 52→Ext w wz→Blk wz b9 #[.int .i64 200,.int .i64 300] 3→Blk wz b13 #[.int .i64 100,.int .i64 150,.int .i64 0,.int .i64 20,.int .i64 40,.int .i64 50,.int .i64 100,.int .i64 150,.int .i64 0,.int .i64 20,.int .i64 40,.int .i64 50,.int .i64 100,.int .i64 150,.int .i64 0,.int .i64 20,.int .i64 40,.int .i64 50] 63→WW 4 #[true,false,false,true,true,true,true,true,false,false] { tmps:=#[.pointer (some ⟨n0,0,none⟩),.pointer (some ⟨bm,0,none⟩),.agg #[.int .i64 100,.int .i64 150],.agg #[.int .i64 0,.int .i64 20],.agg #[.int .i64 40,.int .i64 50],.agg #[.int .i64 100,.int .i64 150,.int .i64 0,.int .i64 20,.int .i64 40,.int .i64 50],.agg #[.int .i64 400,.int .i64 600],undef,undef,.slice (some ⟨b9,0,none⟩) 2 2,.agg #[.int .i64 100,.int .i64 150,.int .i64 0,.int .i64 20,.int .i64 40,.int .i64 50],.agg #[.int .i64 100,.int .i64 150,.int .i64 0,.int .i64 20,.int .i64 40,.int .i64 50],.agg #[.int .i64 100,.int .i64 150,.int .i64 0,.int .i64 20,.int .i64 40,.int .i64 50],.slice (some ⟨b13,0,none⟩) 3 3,undef],defers:=[] } wz:=by
  intro b9 b13 wz hL hm hz hE h9 h13
  rw[hSH]at hL
  rw[hWW]
  refine late_one (i:=1) (by kernel_rfl) hL (fun hL'=> ?_)
  refine wpOp_step rfl (fun KK hK0=> ?_)
  have hK:Shut _:=hK0
  clear hK0
  go_simp
  go_wp2_with (first|(go_at_call 124;(with_reducible refine(exSpan_any 300 400 _).mono ?_);rintro e wy ⟨rfl,hy⟩))
  refine hK.out _ _ ⟨fun _=>(hm.ext hy).cell,?_⟩
  clear hK KK;clear hL;rename Shutb _ _=>hL
  (try simp only[Qh,Qi,Qj,Qk,Ql,Qm,Qn])
  rw[← hWW];exact s211 b9 b13 wy (by rw[hSH];exact hL) (hm.ext hy) (hz.ext hy) (hE.trans hy) (h9.ext hy) (h13.ext hy)
 have s110:∀(b9 b13:Nat) (wz:World),SH #[true,false,false,true,true,true,true,false,false,false]→Blk wz bm #[.int .i64 100,.int .i64 150,.int .i64 0,.int .i64 20,.int .i64 40,.int .i64 50] 63→Blk wz n0 #[.int .i64 0,.int .i64 0,.int .i64 0,.int .i64 0,.int .i64 0,.int .i64 0,.int .i64 0,.int .i64 0,.int .i64 0,.int .i64 0,.int .i64 0,.int .i64 0,.slice none 0 0,.slice none 0 0,.int .i64 0,.int .i64 0] 52→Ext w wz→Blk wz b9 #[.int .i64 200,.int .i64 300] 3→WW 5 #[true,false,false,true,true,true,true,false,false,false] { tmps:=#[.pointer (some ⟨n0,0,none⟩),.pointer (some ⟨bm,0,none⟩),.agg #[.int .i64 100,.int .i64 150],.agg #[.int .i64 0,.int .i64 20],.agg #[.int .i64 40,.int .i64 50],.agg #[.int .i64 100,.int .i64 150,.int .i64 0,.int .i64 20,.int .i64 40,.int .i64 50],.agg #[.int .i64 400,.int .i64 600],undef,undef,.slice (some ⟨b9,0,none⟩) 2 2,.agg #[.int .i64 100,.int .i64 150,.int .i64 0,.int .i64 20,.int .i64 40,.int .i64 50],.agg #[.int .i64 100,.int .i64 150,.int .i64 0,.int .i64 20,.int .i64 40,.int .i64 50],.agg #[.int .i64 100,.int .i64 150,.int .i64 0,.int .i64 20,.int .i64 40,.int .i64 50],undef,undef],defers:=[] } wz:=by
  intro b9 b13 wz hL hm hz hE h9
  rw[hSH]at hL
  rw[hWW]
  refine late_two (i:=1) (j:=7) (by kernel_rfl) hL (fun hL'=> ?_) (fun hL'=> ?_)
  ·refine wpOp_step rfl (fun KK hK0=> ?_)
   have hK:Shut _:=hK0
   clear hK0
   go_simp
   go_wp2_with (first|(go_at_call 124;(with_reducible refine(exSpan_any 300 400 _).mono ?_);rintro e wy ⟨rfl,hy⟩))
   refine hK.out _ _ ⟨fun _=>(hm.ext hy).cell,?_⟩
   clear hK KK;clear hL;rename Shutb _ _=>hL
   (try simp only[Qh,Qi,Qj,Qk,Ql,Qm,Qn])
   rw[← hWW];exact s210 b9 b13 wy (by rw[hSH];exact hL) (hm.ext hy) (hz.ext hy) (hE.trans hy) (h9.ext hy)
  ·refine wpOp_step rfl (fun KK hK0=> ?_)
   have hK:Shut _:=hK0
   clear hK0
   go_simp
   obtain⟨wy,hwy⟩:∃y,wz.alloc (.cells #[.int .i64 100,.int .i64 150,.int .i64 0,.int .i64 20,.int .i64 40,.int .i64 50,.int .i64 100,.int .i64 150,.int .i64 0,.int .i64 20,.int .i64 40,.int .i64 50,.int .i64 100,.int .i64 150,.int .i64 0,.int .i64 20,.int .i64 40,.int .i64 50] 63)=y:=⟨_,rfl⟩
   have hy:Ext wz wy:=by rw[← hwy];(with_reducible(repeat(first|exact Qb _|assumption|apply Qc|apply Qd|exact ext_plus _ _|(apply Qe;rotate_left;(simp<;>omega))|(apply Qf;rotate_left;exact ext_plus _ _)|(apply Qf;rotate_left;assumption))))
   have hN:Blk wy wz.heap.size #[.int .i64 100,.int .i64 150,.int .i64 0,.int .i64 20,.int .i64 40,.int .i64 50,.int .i64 100,.int .i64 150,.int .i64 0,.int .i64 20,.int .i64 40,.int .i64 50,.int .i64 100,.int .i64 150,.int .i64 0,.int .i64 20,.int .i64 40,.int .i64 50] 63:=by rw[← hwy];exact Qg rfl _ _
   rw[hwy]
   clear hwy
   refine hK.out _ _ ⟨fun _=>(hm.ext hy).cell,?_⟩
   clear hK KK;clear hL;rename Shutb _ _=>hL
   (try simp only[Qh,Qi,Qj,Qk,Ql,Qm,Qn])
   rw[← hWW];exact s111 b9 wz.heap.size wy (by rw[hSH];exact hL) (hm.ext hy) (hz.ext hy) (hE.trans hy) (h9.ext hy) hN
 have s101:∀(b9 b13:Nat) (wz:World),SH #[true,false,false,false,true,true,true,true,false,false]→Blk wz bm #[.int .i64 100,.int .i64 150,.int .i64 0,.int .i64 20,.int .i64 40,.int .i64 50] 63→Blk wz n0 #[.int .i64 0,.int .i64 0,.int .i64 0,.int .i64 0,.int .i64 0,.int .i64 0,.int .i64 0,.int .i64 0,.int .i64 0,.int .i64 0,.int .i64 0,.int .i64 0,.slice none 0 0,.slice none 0 0,.int .i64 0,.int .i64 0] 52→Ext w wz→Blk wz b13 #[.int .i64 100,.int .i64 150,.int .i64 0,.int .i64 20,.int .i64 40,.int .i64 50,.int .i64 100,.int .i64 150,.int .i64 0,.int .i64 20,.int .i64 40,.int .i64 50,.int .i64 100,.int .i64 150,.int .i64 0,.int .i64 20,.int .i64 40,.int .i64 50] 63→WW 5 #[true,false,false,false,true,true,true,true,false,false] { tmps:=#[.pointer (some ⟨n0,0,none⟩),.pointer (some ⟨bm,0,none⟩),.agg #[.int .i64 100,.int .i64 150],.agg #[.int .i64 0,.int .i64 20],.agg #[.int .i64 40,.int .i64 50],.agg #[.int .i64 100,.int .i64 150,.int .i64 0,.int .i64 20,.int .i64 40,.int .i64 50],.agg #[.int .i64 400,.int .i64 600],undef,undef,undef,.agg #[.int .i64 100,.int .i64 150,.int .i64 0,.int .i64 20,.int .i64 40,.int .i64 50],.agg #[.int .i64 100,.int .i64 150,.int .i64 0,.int .i64 20,.int .i64 40,.int .i64 50],.agg #[.int .i64 100,.int .i64 150,.int .i64 0,.int .i64 20,.int .i64 40,.int .i64 50],.slice (some ⟨b13,0,none⟩) 3 3,undef],defers:=[] } wz:=by
  intro b9 b13 wz hL hm hz hE h13
  rw[hSH]at hL
  rw[hWW]
  refine late_two (i:=1) (j:=3) (by kernel_rfl) hL (fun hL'=> ?_) (fun hL'=> ?_)
  ·refine wpOp_step rfl (fun KK hK0=> ?_)
   have hK:Shut _:=hK0
   clear hK0
   go_simp
   go_wp2_with (first|(go_at_call 124;(with_reducible refine(exSpan_any 300 400 _).mono ?_);rintro e wy ⟨rfl,hy⟩))
   refine hK.out _ _ ⟨fun _=>(hm.ext hy).cell,?_⟩
   clear hK KK;clear hL;rename Shutb _ _=>hL
   (try simp only[Qh,Qi,Qj,Qk,Ql,Qm,Qn])
   rw[← hWW];exact s201 b9 b13 wy (by rw[hSH];exact hL) (hm.ext hy) (hz.ext hy) (hE.trans hy) (h13.ext hy)
  ·refine wpOp_step rfl (fun KK hK0=> ?_)
   have hK:Shut _:=hK0
   clear hK0
   go_simp
   obtain⟨wy,hwy⟩:∃y,wz.alloc (.cells #[.int .i64 200,.int .i64 300] 3)=y:=⟨_,rfl⟩
   have hy:Ext wz wy:=by rw[← hwy];(with_reducible(repeat(first|exact Qb _|assumption|apply Qc|apply Qd|exact ext_plus _ _|(apply Qe;rotate_left;(simp<;>omega))|(apply Qf;rotate_left;exact ext_plus _ _)|(apply Qf;rotate_left;assumption))))
   have hN:Blk wy wz.heap.size #[.int .i64 200,.int .i64 300] 3:=by rw[← hwy];exact Qg rfl _ _
   rw[hwy]
   clear hwy
   refine hK.out _ _ ⟨fun _=>(hm.ext hy).cell,?_⟩
   clear hK KK;clear hL;rename Shutb _ _=>hL
   (try simp only[Qh,Qi,Qj,Qk,Ql,Qm,Qn])
   rw[← hWW];exact s111 wz.heap.size b13 wy (by rw[hSH];exact hL) (hm.ext hy) (hz.ext hy) (hE.trans hy) hN (h13.ext hy)
 have s100:∀(b9 b13:Nat) (wz:World),SH #[true,false,false,false,true,true,true,false,false,false]→Blk wz bm #[.int .i64 100,.int .i64 150,.int .i64 0,.int .i64 20,.int .i64 40,.int .i64 50] 63→Blk wz n0 #[.int .i64 0,.int .i64 0,.int .i64 0,.int .i64 0,.int .i64 0,.int .i64 0,.int .i64 0,.int .i64 0,.int .i64 0,.int .i64 0,.int .i64 0,.int .i64 0,.slice none 0 0,.slice none 0 0,.int .i64 0,.int .i64 0] 52→Ext w wz→WW 6 #[true,false,false,false,true,true,true,false,false,false] { tmps:=#[.pointer (some ⟨n0,0,none⟩),.pointer (some ⟨bm,0,none⟩),.agg #[.int .i64 100,.int .i64 150],.agg #[.int .i64 0,.int .i64 20],.agg #[.int .i64 40,.int .i64 50],.agg #[.int .i64 100,.int .i64 150,.int .i64 0,.int .i64 20,.int .i64 40,.int .i64 50],.agg #[.int .i64 400,.int .i64 600],undef,undef,undef,.agg #[.int .i64 100,.int .i64 150,.int .i64 0,.int .i64 20,.int .i64 40,.int .i64 50],.agg #[.int .i64 100,.int .i64 150,.int .i64 0,.int .i64 20,.int .i64 40,.int .i64 50],.agg #[.int .i64 100,.int .i64 150,.int .i64 0,.int .i64 20,.int .i64 40,.int .i64 50],undef,undef],defers:=[] } wz:=by
  intro b9 b13 wz hL hm hz hE
  rw[hSH]at hL
  rw[hWW]
  refine late_three (i:=1) (j:=3) (k:=7) (by kernel_rfl) hL (fun hL'=> ?_) (fun hL'=> ?_) (fun hL'=> ?_)
  ·refine wpOp_step rfl (fun KK hK0=> ?_)
   have hK:Shut _:=hK0
   clear hK0
   go_simp
   go_wp2_with (first|(go_at_call 124;(with_reducible refine(exSpan_any 300 400 _).mono ?_);rintro e wy ⟨rfl,hy⟩))
   refine hK.out _ _ ⟨fun _=>(hm.ext hy).cell,?_⟩
   clear hK KK;clear hL;rename Shutb _ _=>hL
   (try simp only[Qh,Qi,Qj,Qk,Ql,Qm,Qn])
   rw[← hWW];exact s200 b9 b13 wy (by rw[hSH];exact hL) (hm.ext hy) (hz.ext hy) (hE.trans hy)
  ·refine wpOp_step rfl (fun KK hK0=> ?_)
   have hK:Shut _:=hK0
   clear hK0
   go_simp
   obtain⟨wy,hwy⟩:∃y,wz.alloc (.cells #[.int .i64 200,.int .i64 300] 3)=y:=⟨_,rfl⟩
   have hy:Ext wz wy:=by rw[← hwy];(with_reducible(repeat(first|exact Qb _|assumption|apply Qc|apply Qd|exact ext_plus _ _|(apply Qe;rotate_left;(simp<;>omega))|(apply Qf;rotate_left;exact ext_plus _ _)|(apply Qf;rotate_left;assumption))))
   have hN:Blk wy wz.heap.size #[.int .i64 200,.int .i64 300] 3:=by rw[← hwy];exact Qg rfl _ _
   rw[hwy]
   clear hwy
   refine hK.out _ _ ⟨fun _=>(hm.ext hy).cell,?_⟩
   clear hK KK;clear hL;rename Shutb _ _=>hL
   (try simp only[Qh,Qi,Qj,Qk,Ql,Qm,Qn])
   rw[← hWW];exact s110 wz.heap.size b13 wy (by rw[hSH];exact hL) (hm.ext hy) (hz.ext hy) (hE.trans hy) hN
  ·refine wpOp_step rfl (fun KK hK0=> ?_)
   have hK:Shut _:=hK0
   clear hK0
   go_simp
   obtain⟨wy,hwy⟩:∃y,wz.alloc (.cells #[.int .i64 100,.int .i64 150,.int .i64 0,.int .i64 20,.int .i64 40,.int .i64 50,.int .i64 100,.int .i64 150,.int .i64 0,.int .i64 20,.int .i64 40,.int .i64 50,.int .i64 100,.int .i64 150,.int .i64 0,.int .i64 20,.int .i64 40,.int .i64 50] 63)=y:=⟨_,rfl⟩
   have hy:Ext wz wy:=by rw[← hwy];(with_reducible(repeat(first|exact Qb _|assumption|apply Qc|apply Qd|exact ext_plus _ _|(apply Qe;rotate_left;(simp<;>omega))|(apply Qf;rotate_left;exact ext_plus _ _)|(apply Qf;rotate_left;assumption))))
   have hN:Blk wy wz.heap.size #[.int .i64 100,.int .i64 150,.int .i64 0,.int .i64 20,.int .i64 40,.int .i64 50,.int .i64 100,.int .i64 150,.int .i64 0,.int .i64 20,.int .i64 40,.int .i64 50,.int .i64 100,.int .i64 150,.int .i64 0,.int .i64 20,.int .i64 40,.int .i64 50] 63:=by rw[← hwy];exact Qg rfl _ _
   rw[hwy]
   clear hwy
   refine hK.out _ _ ⟨fun _=>(hm.ext hy).cell,?_⟩
   clear hK KK;clear hL;rename Shutb _ _=>hL
   (try simp only[Qh,Qi,Qj,Qk,Ql,Qm,Qn])
   rw[← hWW];exact s101 b9 wz.heap.size wy (by rw[hSH];exact hL) (hm.ext hy) (hz.ext hy) (hE.trans hy) hN
 have s011:∀(b9 b13:Nat) (wz:World),SH #[false,false,false,true,true,true,true,true,false,false]→Blk wz bm #[.int .i64 100,.int .i64 150,.int .i64 0,.int .i64 20,.int .i64 40,.int .i64 50] 63→Blk wz n0 #[.int .i64 0,.int .i64 0,.int .i64 0,.int .i64 0,.int .i64 0,.int .i64 0,.int .i64 0,.int .i64 0,.int .i64 0,.int .i64 0,.int .i64 0,.int .i64 0,.slice none 0 0,.slice none 0 0,.int .i64 0,.int .i64 0] 52→Ext w wz→Blk wz b9 #[.int .i64 200,.int .i64 300] 3→Blk wz b13 #[.int .i64 100,.int .i64 150,.int .i64 0,.int .i64 20,.int .i64 40,.int .i64 50,.int .i64 100,.int .i64 150,.int .i64 0,.int .i64 20,.int .i64 40,.int .i64 50,.int .i64 100,.int .i64 150,.int .i64 0,.int .i64 20,.int .i64 40,.int .i64 50] 63→WW 5 #[false,false,false,true,true,true,true,true,false,false] { tmps:=#[.pointer (some ⟨n0,0,none⟩),.pointer (some ⟨bm,0,none⟩),.agg #[.int .i64 100,.int .i64 150],.agg #[.int .i64 0,.int .i64 20],.agg #[.int .i64 40,.int .i64 50],.agg #[.int .i64 100,.int .i64 150,.int .i64 0,.int .i64 20,.int .i64 40,.int .i64 50],undef,undef,undef,.slice (some ⟨b9,0,none⟩) 2 2,.agg #[.int .i64 100,.int .i64 150,.int .i64 0,.int .i64 20,.int .i64 40,.int .i64 50],.agg #[.int .i64 100,.int .i64 150,.int .i64 0,.int .i64 20,.int .i64 40,.int .i64 50],.agg #[.int .i64 100,.int .i64 150,.int .i64 0,.int .i64 20,.int .i64 40,.int .i64 50],.slice (some ⟨b13,0,none⟩) 3 3,undef],defers:=[] } wz:=by
  intro b9 b13 wz hL hm hz hE h9 h13
  rw[hSH]at hL
  rw[hWW]
  refine late_one (i:=0) (by kernel_rfl) hL (fun hL'=> ?_)
  refine wpOp_step rfl (fun KK hK0=> ?_)
  have hK:Shut _:=hK0
  clear hK0
  go_simp
  go_wp2_with (first|(go_at_call 124;(with_reducible refine(exSpan_any 400 600 _).mono ?_);rintro e wy ⟨rfl,hy⟩))
  refine hK.out _ _ ⟨fun _=>(hm.ext hy).cell,?_⟩
  clear hK KK;clear hL;rename Shutb _ _=>hL
  (try simp only[Qh,Qi,Qj,Qk,Ql,Qm,Qn])
  rw[← hWW];exact s111 b9 b13 wy (by rw[hSH];exact hL) (hm.ext hy) (hz.ext hy) (hE.trans hy) (h9.ext hy) (h13.ext hy)
 have s010:∀(b9 b13:Nat) (wz:World),SH #[false,false,false,true,true,true,true,false,false,false]→Blk wz bm #[.int .i64 100,.int .i64 150,.int .i64 0,.int .i64 20,.int .i64 40,.int .i64 50] 63→Blk wz n0 #[.int .i64 0,.int .i64 0,.int .i64 0,.int .i64 0,.int .i64 0,.int .i64 0,.int .i64 0,.int .i64 0,.int .i64 0,.int .i64 0,.int .i64 0,.int .i64 0,.slice none 0 0,.slice none 0 0,.int .i64 0,.int .i64 0] 52→Ext w wz→Blk wz b9 #[.int .i64 200,.int .i64 300] 3→WW 6 #[false,false,false,true,true,true,true,false,false,false] { tmps:=#[.pointer (some ⟨n0,0,none⟩),.pointer (some ⟨bm,0,none⟩),.agg #[.int .i64 100,.int .i64 150],.agg #[.int .i64 0,.int .i64 20],.agg #[.int .i64 40,.int .i64 50],.agg #[.int .i64 100,.int .i64 150,.int .i64 0,.int .i64 20,.int .i64 40,.int .i64 50],undef,undef,undef,.slice (some ⟨b9,0,none⟩) 2 2,.agg #[.int .i64 100,.int .i64 150,.int .i64 0,.int .i64 20,.int .i64 40,.int .i64 50],.agg #[.int .i64 100,.int .i64 150,.int .i64 0,.int .i64 20,.int .i64 40,.int .i64 50],.agg #[.int .i64 100,.int .i64 150,.int .i64 0,.int .i64 20,.int .i64 40,.int .i64 50],undef,undef],defers:=[] } wz:=by
  intro b9 b13 wz hL hm hz hE h9
  rw[hSH]at hL
  rw[hWW]
  refine late_two (i:=0) (j:=7) (by kernel_rfl) hL (fun hL'=> ?_) (fun hL'=> ?_)
  ·refine wpOp_step rfl (fun KK hK0=> ?_)
   have hK:Shut _:=hK0
   clear hK0
   go_simp
   go_wp2_with (first|(go_at_call 124;(with_reducible refine(exSpan_any 400 600 _).mono ?_);rintro e wy ⟨rfl,hy⟩))
   refine hK.out _ _ ⟨fun _=>(hm.ext hy).cell,?_⟩
   clear hK KK;clear hL;rename Shutb _ _=>hL
   (try simp only[Qh,Qi,Qj,Qk,Ql,Qm,Qn])
   rw[← hWW];exact s110 b9 b13 wy (by rw[hSH];exact hL) (hm.ext hy) (hz.ext hy) (hE.trans hy) (h9.ext hy)
  ·refine wpOp_step rfl (fun KK hK0=> ?_)
   have hK:Shut _:=hK0
   clear hK0
   go_simp
   obtain⟨wy,hwy⟩:∃y,wz.alloc (.cells #[.int .i64 100,.int .i64 150,.int .i64 0,.int .i64 20,.int .i64 40,.int .i64 50,.int .i64 100,.int .i64 150,.int .i64 0,.int .i64 20,.int .i64 40,.int .i64 50,.int .i64 100,.int .i64 150,.int .i64 0,.int .i64 20,.int .i64 40,.int .i64 50] 63)=y:=⟨_,rfl⟩
   have hy:Ext wz wy:=by rw[← hwy];(with_reducible(repeat(first|exact Qb _|assumption|apply Qc|apply Qd|exact ext_plus _ _|(apply Qe;rotate_left;(simp<;>omega))|(apply Qf;rotate_left;exact ext_plus _ _)|(apply Qf;rotate_left;assumption))))
   have hN:Blk wy wz.heap.size #[.int .i64 100,.int .i64 150,.int .i64 0,.int .i64 20,.int .i64 40,.int .i64 50,.int .i64 100,.int .i64 150,.int .i64 0,.int .i64 20,.int .i64 40,.int .i64 50,.int .i64 100,.int .i64 150,.int .i64 0,.int .i64 20,.int .i64 40,.int .i64 50] 63:=by rw[← hwy];exact Qg rfl _ _
   rw[hwy]
   clear hwy
   refine hK.out _ _ ⟨fun _=>(hm.ext hy).cell,?_⟩
   clear hK KK;clear hL;rename Shutb _ _=>hL
   (try simp only[Qh,Qi,Qj,Qk,Ql,Qm,Qn])
   rw[← hWW];exact s011 b9 wz.heap.size wy (by rw[hSH];exact hL) (hm.ext hy) (hz.ext hy) (hE.trans hy) (h9.ext hy) hN
 have s001:∀(b9 b13:Nat) (wz:World),SH #[false,false,false,false,true,true,true,true,false,false]→Blk wz bm #[.int .i64 100,.int .i64 150,.int .i64 0,.int .i64 20,.int .i64 40,.int .i64 50] 63→Blk wz n0 #[.int .i64 0,.int .i64 0,.int .i64 0,.int .i64 0,.int .i64 0,.int .i64 0,.int .i64 0,.int .i64 0,.int .i64 0,.int .i64 0,.int .i64 0,.int .i64 0,.slice none 0 0,.slice none 0 0,.int .i64 0,.int .i64 0] 52→Ext w wz→Blk wz b13 #[.int .i64 100,.int .i64 150,.int .i64 0,.int .i64 20,.int .i64 40,.int .i64 50,.int .i64 100,.int .i64 150,.int .i64 0,.int .i64 20,.int .i64 40,.int .i64 50,.int .i64 100,.int .i64 150,.int .i64 0,.int .i64 20,.int .i64 40,.int .i64 50] 63→WW 6 #[false,false,false,false,true,true,true,true,false,false] { tmps:=#[.pointer (some ⟨n0,0,none⟩),.pointer (some ⟨bm,0,none⟩),.agg #[.int .i64 100,.int .i64 150],.agg #[.int .i64 0,.int .i64 20],.agg #[.int .i64 40,.int .i64 50],.agg #[.int .i64 100,.int .i64 150,.int .i64 0,.int .i64 20,.int .i64 40,.int .i64 50],undef,undef,undef,undef,.agg #[.int .i64 100,.int .i64 150,.int .i64 0,.int .i64 20,.int .i64 40,.int .i64 50],.agg #[.int .i64 100,.int .i64 150,.int .i64 0,.int .i64 20,.int .i64 40,.int .i64 50],.agg #[.int .i64 100,.int .i64 150,.int .i64 0,.int .i64 20,.int .i64 40,.int .i64 50],.slice (some ⟨b13,0,none⟩) 3 3,undef],defers:=[] } wz:=by
  intro b9 b13 wz hL hm hz hE h13
  rw[hSH]at hL
  rw[hWW]
  refine late_two (i:=0) (j:=3) (by kernel_rfl) hL (fun hL'=> ?_) (fun hL'=> ?_)
  ·refine wpOp_step rfl (fun KK hK0=> ?_)
   have hK:Shut _:=hK0
   clear hK0
   go_simp
   go_wp2_with (first|(go_at_call 124;(with_reducible refine(exSpan_any 400 600 _).mono ?_);rintro e wy ⟨rfl,hy⟩))
   refine hK.out _ _ ⟨fun _=>(hm.ext hy).cell,?_⟩
   clear hK KK;clear hL;rename Shutb _ _=>hL
   (try simp only[Qh,Qi,Qj,Qk,Ql,Qm,Qn])
   rw[← hWW];exact s101 b9 b13 wy (by rw[hSH];exact hL) (hm.ext hy) (hz.ext hy) (hE.trans hy) (h13.ext hy)
  ·refine wpOp_step rfl (fun KK hK0=> ?_)
   have hK:Shut _:=hK0
   clear hK0
   go_simp
   obtain⟨wy,hwy⟩:∃y,wz.alloc (.cells #[.int .i64 200,.int .i64 300] 3)=y:=⟨_,rfl⟩
   have hy:Ext wz wy:=by rw[← hwy];(with_reducible(repeat(first|exact Qb _|assumption|apply Qc|apply Qd|exact ext_plus _ _|(apply Qe;rotate_left;(simp<;>omega))|(apply Qf;rotate_left;exact ext_plus _ _)|(apply Qf;rotate_left;assumption))))
   have hN:Blk wy wz.heap.size #[.int .i64 200,.int .i64 300] 3:=by rw[← hwy];exact Qg rfl _ _
   rw[hwy]
   clear hwy
   refine hK.out _ _ ⟨fun _=>(hm.ext hy).cell,?_⟩
   clear hK KK;clear hL;rename Shutb _ _=>hL
   (try simp only[Qh,Qi,Qj,Qk,Ql,Qm,Qn])
   rw[← hWW];exact s011 wz.heap.size b13 wy (by rw[hSH];exact hL) (hm.ext hy) (hz.ext hy) (hE.trans hy) hN (h13.ext hy)
 have s000:∀(b9 b13:Nat) (wz:World),SH #[false,false,false,false,true,true,true,false,false,false]→Blk wz bm #[.int .i64 100,.int .i64 150,.int .i64 0,.int .i64 20,.int .i64 40,.int .i64 50] 63→Blk wz n0 #[.int .i64 0,.int .i64 0,.int .i64 0,.int .i64 0,.int .i64 0,.int .i64 0,.int .i64 0,.int .i64 0,.int .i64 0,.int .i64 0,.int .i64 0,.int .i64 0,.slice none 0 0,.slice none 0 0,.int .i64 0,.int .i64 0] 52→Ext w wz→WW 7 #[false,false,false,false,true,true,true,false,false,false] { tmps:=#[.pointer (some ⟨n0,0,none⟩),.pointer (some ⟨bm,0,none⟩),.agg #[.int .i64 100,.int .i64 150],.agg #[.int .i64 0,.int .i64 20],.agg #[.int .i64 40,.int .i64 50],.agg #[.int .i64 100,.int .i64 150,.int .i64 0,.int .i64 20,.int .i64 40,.int .i64 50],undef,undef,undef,undef,.agg #[.int .i64 100,.int .i64 150,.int .i64 0,.int .i64 20,.int .i64 40,.int .i64 50],.agg #[.int .i64 100,.int .i64 150,.int .i64 0,.int .i64 20,.int .i64 40,.int .i64 50],.agg #[.int .i64 100,.int .i64 150,.int .i64 0,.int .i64 20,.int .i64 40,.int .i64 50],undef,undef],defers:=[] } wz:=by
  intro b9 b13 wz hL hm hz hE
  rw[hSH]at hL
  rw[hWW]
  refine late_three (i:=0) (j:=3) (k:=7) (by kernel_rfl) hL (fun hL'=> ?_) (fun hL'=> ?_) (fun hL'=> ?_)
  ·refine wpOp_step rfl (fun KK hK0=> ?_)
   have hK:Shut _:=hK0
   clear hK0
   go_simp
   go_wp2_with (first|(go_at_call 124;(with_reducible refine(exSpan_any 400 600 _).mono ?_);rintro e wy ⟨rfl,hy⟩))
   refine hK.out _ _ ⟨fun _=>(hm.ext hy).cell,?_⟩
   clear hK KK;clear hL;rename Shutb _ _=>hL
   (try simp only[Qh,Qi,Qj,Qk,Ql,Qm,Qn])
   rw[← hWW];exact s100 b9 b13 wy (by rw[hSH];exact hL) (hm.ext hy) (hz.ext hy) (hE.trans hy)
  ·refine wpOp_step rfl (fun KK hK0=> ?_)
   have hK:Shut _:=hK0
   clear hK0
   go_simp
   obtain⟨wy,hwy⟩:∃y,wz.alloc (.cells #[.int .i64 200,.int .i64 300] 3)=y:=⟨_,rfl⟩
   have hy:Ext wz wy:=by rw[← hwy];(with_reducible(repeat(first|exact Qb _|assumption|apply Qc|apply Qd|exact ext_plus _ _|(apply Qe;rotate_left;(simp<;>omega))|(apply Qf;rotate_left;exact ext_plus _ _)|(apply Qf;rotate_left;assumption))))
   have hN:Blk wy wz.heap.size #[.int .i64 200,.int .i64 300] 3:=by rw[← hwy];exact Qg rfl _ _
   rw[hwy]
   clear hwy
   refine hK.out _ _ ⟨fun _=>(hm.ext hy).cell,?_⟩
   clear hK KK;clear hL;rename Shutb _ _=>hL
   (try simp only[Qh,Qi,Qj,Qk,Ql,Qm,Qn])
   rw[← hWW];exact s010 wz.heap.size b13 wy (by rw[hSH];exact hL) (hm.ext hy) (hz.ext hy) (hE.trans hy) hN
  ·refine wpOp_step rfl (fun KK hK0=> ?_)
   have hK:Shut _:=hK0
   clear hK0
   go_simp
   obtain⟨wy,hwy⟩:∃y,wz.alloc (.cells #[.int .i64 100,.int .i64 150,.int .i64 0,.int .i64 20,.int .i64 40,.int .i64 50,.int .i64 100,.int .i64 150,.int .i64 0,.int .i64 20,.int .i64 40,.int .i64 50,.int .i64 100,.int .i64 150,.int .i64 0,.int .i64 20,.int .i64 40,.int .i64 50] 63)=y:=⟨_,rfl⟩
   have hy:Ext wz wy:=by rw[← hwy];(with_reducible(repeat(first|exact Qb _|assumption|apply Qc|apply Qd|exact ext_plus _ _|(apply Qe;rotate_left;(simp<;>omega))|(apply Qf;rotate_left;exact ext_plus _ _)|(apply Qf;rotate_left;assumption))))
   have hN:Blk wy wz.heap.size #[.int .i64 100,.int .i64 150,.int .i64 0,.int .i64 20,.int .i64 40,.int .i64 50,.int .i64 100,.int .i64 150,.int .i64 0,.int .i64 20,.int .i64 40,.int .i64 50,.int .i64 100,.int .i64 150,.int .i64 0,.int .i64 20,.int .i64 40,.int .i64 50] 63:=by rw[← hwy];exact Qg rfl _ _
   rw[hwy]
   clear hwy
   refine hK.out _ _ ⟨fun _=>(hm.ext hy).cell,?_⟩
   clear hK KK;clear hL;rename Shutb _ _=>hL
   (try simp only[Qh,Qi,Qj,Qk,Ql,Qm,Qn])
   rw[← hWW];exact s001 b9 wz.heap.size wy (by rw[hSH];exact hL) (hm.ext hy) (hz.ext hy) (hE.trans hy) hN
 exact s000 0 0 _ hL0 hm.drew hb.drew hE.drew
end Go.Proofs.YtgloajbgphcloaaGreat.Ln
