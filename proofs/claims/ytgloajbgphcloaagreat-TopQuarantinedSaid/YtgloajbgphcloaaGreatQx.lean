/- The ship's first calls: what is told is as it must be. -/
import Derived.Test.YtgloajbgphcloaaGreatQr1
namespace Go.Proofs.YtgloajbgphcloaaGreat.Sh
set_option linter.unusedVariables false
set_option linter.unusedSimpArgs false
open Go.RowKit Go.Shelf
open Blk renaming new' → Qb
open Ext renaming trans → Qc
open Lib renaming hid → Qa
attribute [local go_sem] Oper.semAt_some
theorem search_all (w0:World) (p:Pass) (vt vs:Value) (lo hi:Int) (bd bg bp bo bs bM base:Nat) (O:Ok p) (hlo:1≤lo) (hhi:hi≤60) (hlh:lo≤hi) (hT:Ints w0 vt p.tides) (hS:Spans w0 vs p.swell):∀k,Search w0 p vt vs lo hi bd bg bp bo bs bM base k
 | 0=>search_zero w0 p vt vs lo hi bd bg bp bo bs bM base
 | k+1=>search_succ w0 p vt vs lo hi bd bg bp bo bs bM base k O hlo hhi hlh hT hS (search_all w0 p vt vs lo hi bd bg bp bo bs bM base O hlo hhi hlh hT hS k)
set_option maxRecDepth 100000 in
set_option maxHeartbeats 16000000 in
theorem callsQ_any (p:Pass) (vt vs:Value) (lo hi:Int) (many:Nat) (w:World) (O:Ok p) (hlo:1≤lo) (hhi:hi≤60) (hlh:lo≤hi) (hm:1≤many∧many≤8) (hT:Ints w vt p.tides) (hS:Spans w vs p.swell) :
  Calls Tryz.prog 25 #[.agg (passV p vt vs),.agg #[.int .i64 lo,.int .i64 hi],.int .i64 (many:Int)] w fun e w'=>Ext w w'∧(e= .returned (.tuple #[.slice none 0 0,.int .i64 5])∨∃v L,L.length=many∧Good p lo hi L∧Spans w' v L∧e= .returned (.tuple #[v,.int .i64 0])):=by
 have HV:=Qa (fun W hE=>valid_true p vt vs W O (hT.ext (w':=W) hE) (hS.ext hE))
 have q1:spanB lo hi 1 60=true:=by simp[spanB];omega
 have q2:within (many:Int) 1 8=true:=within_iff.2 (by omega)
 have HSP:=Qa (fun W=>(q1▸span_any lo hi 1 60 W:Calls Tryz.prog 83 #[.agg #[.int .i64 lo,.int .i64 hi],.int .i64 1,.int .i64 60] W fun e w'=>e= .returned (.bool true)∧Ext W w'))
 have HIN:=Qa (fun W=>(q2▸in_any (many:Int) 1 8 W:Calls Tryz.prog 65 #[.int .i64 (many:Int),.int .i64 1,.int .i64 8] W fun e w'=>e= .returned (.bool true)∧W=w'))
 have HSA:=Qa (fun bd bg bp bo bs bM base=>search_all w p vt vs lo hi bd bg bp bo bs bM base O hlo hhi hlh hT hS many)
 obtain⟨ta,ct,rfl,_⟩:=hT
 obtain⟨sa,cs,rfl,_⟩:=hS
 clear q1 q2
 go_enter Tryz.func25,Tryz.ntmps25
 go_upto_region 1 with(fail)
 obtain⟨n0,hn0⟩:∃n,w.heap.size=n:=⟨_,rfl⟩
 obtain⟨w1,hw1⟩:∃y,(w.alloc (.cells (passV p (.slice ta p.tides.length ct) (.slice sa p.swell.length cs)) 33)).alloc (.cells #[.int .i64 lo,.int .i64 hi] 25)=y:=⟨_,rfl⟩
 have hP1:Blk w1 n0 (passV p (.slice ta p.tides.length ct) (.slice sa p.swell.length cs)) 33:=by rw[← hw1];exact(Qb hn0.symm _ _).alloc _
 have hG1:Blk w1 (n0+1) #[.int .i64 lo,.int .i64 hi] 25:=by rw[← hw1];exact Qb (by simp[hn0]) _ _
 have hE1:Ext w w1:=by rw[← hw1];(with_reducible(repeat(first|exact Ext.refl _|assumption|apply Ext.alloc|apply Ext.drew|exact ext_plus _ _|(apply Ext.setCell;rotate_left;(simp<;>omega))|(apply Qc;rotate_left;exact ext_plus _ _)|(apply Qc;rotate_left;assumption))))
 have hz1:w1.heap.size=n0+1+1:=by rw[← hw1];simp[hn0]
 simp only[hw1,hn0]
 have HN0:=Qa hn0
 have HZ1:=Qa hz1
 have k0:=hP1.cell
 have k1:=hP1.lt
 clear hw1 hn0 hz1
 go_upto_region 3 with(first|(go_at_call 64;refine(HV.out _ hE1).mono ?_;rintro e w2 ⟨rfl,hE2⟩;have k2:=(hG1.ext hE2).cell;have k3:=(hG1.ext hE2).lt;(clear k0 k1))|(go_at_call 83;refine(HSP.out _).mono ?_;rintro e w3 ⟨rfl,hE3⟩;(clear k2 k3))|(go_at_call 65;refine(HIN.out _).mono ?_;rintro e w4 ⟨rfl,rfl⟩))
 have hE13:=hE2.trans hE3
 have hP3:=hP1.ext hE13
 have hG3:=hG1.ext hE13
 have hEw3:=hE1.trans hE13
 obtain⟨m0,hm0⟩:∃n,w3.heap.size=n:=⟨_,rfl⟩
 clear hE2 hE3 hP1 hG1 hE1 hE13
 have hmm:∀w:World,(Instr.makeMap 197 none).run Tryz.prog w= .ok (.map (some w.heap.size)) (w.alloc (.map #[] 0)):=fun _=>rfl
 go_upto_region 7 with(fail)
 obtain⟨w4,hw4⟩:∃y,(((w3.alloc (.cells #[.slice none 0 0] 76)).alloc (.map #[] 0)).alloc (.cells #[.map (some (m0+1))] 197)).alloc (.cells #[.func (.func 84) #[] #[.pointer (some ⟨m0+1+1,0,none⟩),.pointer (some ⟨n0+1,0,none⟩),.pointer (some ⟨n0,0,none⟩),.pointer (some ⟨m0,0,none⟩),.pointer (some ⟨m0+1+1+1,0,none⟩)]] 198)=y:=⟨_,rfl⟩
 have hE34:Ext w3 w4:=by rw[← hw4];(with_reducible(repeat(first|exact Ext.refl _|assumption|apply Ext.alloc|apply Ext.drew|exact ext_plus _ _|(apply Ext.setCell;rotate_left;(simp<;>omega))|(apply Qc;rotate_left;exact ext_plus _ _)|(apply Qc;rotate_left;assumption))))
 have hz4:w4.heap.size=m0+4:=by rw[← hw4];simp[hm0]
 have hO4:Blk w4 m0 #[.slice none 0 0] 76:=by rw[← hw4];exact(((Qb hm0.symm _ _).alloc _).alloc _).alloc _
 have hD4:Dead w4 (m0+1) 0:=by
  rw[← hw4]
  have:=Dead.made (w3.alloc (.cells #[.slice none 0 0] 76))
  rw[show(w3.alloc (.cells #[.slice none 0 0] 76)).heap.size=m0+1 by simp[hm0]]at this
  exact this.ext (((Ext.refl _).alloc _).alloc _)
 have hB4:Blk w4 (m0+1+1) #[.map (some (m0+1))] 197:=by rw[← hw4];exact(Qb (by simp[hm0]) _ _).alloc _
 have hS4:Blk w4 (m0+1+1+1) #[.func (.func 84) #[] #[.pointer (some ⟨m0+1+1,0,none⟩),.pointer (some ⟨n0+1,0,none⟩),.pointer (some ⟨n0,0,none⟩),.pointer (some ⟨m0,0,none⟩),.pointer (some ⟨m0+1+1+1,0,none⟩)]] 198:=by rw[← hw4];exact Qb (by simp[hm0]) _ _
 simp only[hw4]
 have hnm:n0+1<m0:=by have:=hG3.lt;omega
 have hwn:=HN0.out
 have hE:Env w p (.slice ta p.tides.length ct) (.slice sa p.swell.length cs) lo hi (m0+1+1) (n0+1) n0 m0 (m0+1+1+1) (m0+1) (m0+4) w4 :=
  ⟨hEw3.trans hE34,hB4,hG3.ext hE34,hP3.ext hE34,hS4,by omega,by omega,by omega,by omega⟩
 have HC:=Qa (HSA.out (m0+1+1) (n0+1) n0 m0 (m0+1+1+1) (m0+1) (m0+4) [] 0 0 (.slice none 0 0) w4 (by simp;omega) rfl ⟨fun i h=>absurd h (by simp),fun i h=>absurd h (by simp),fun i h=>absurd h (by simp)⟩ (by have:=cost_bd (k:=many) (by omega);omega) hE hO4 (QU.nil _ _ _ _) hD4)
 have HE4:=Qa hE.ext
 have HZ:=Qa (⟨hnm,hwn⟩:n0+1<m0∧w.heap.size=n0)
 have k0:=hS4.cell
 have k1:=hS4.lt
 clear hw4 hE34 hz4 hO4 hD4 hB4 hS4 hnm hwn hE hEw3 hP3 hG3 hm0 hmm
 go_wp2_with (first|(go_at_call 84;refine HC.out.mono ?_;rintro e w5 ⟨b5,v5,L5,rfl,h1,h2,h3,h4,h5,h6,h7,h8⟩;(clear k0 k1);have H3:=Qa h3;rw[List.nil_append]at h2 h3;obtain⟨a5,c5,rfl⟩:=h2.shape;have k0:=h1.cell;have k1:=h1.lt;have H6:=Qa (h6.ext0 HE4.out (fun q e=>by have:=HZ.out;rcases e with e|e|⟨_,_,_,e⟩<;>first|omega|cases e));(clear h6 h3 h4 h5 h7 h8)))
 ·exact bodyPost_ret (v:= .tuple #[.slice none 0 0,.int .i64 5]) (by simp[results,Tryz.results25,go_sem]) rfl ⟨H6.out,.inl rfl⟩
 ·rename (!b5)=false=>hb
  have hb5:b5=true:=by simpa using hb
  obtain⟨g1,g2⟩:=H3.out hb5
  rw[List.nil_append]at g2
  exact bodyPost_ret (v:= .tuple #[.slice a5 L5.length c5,.int .i64 0]) (by simp[results,Tryz.results25,go_sem]) rfl ⟨H6.out,.inr ⟨_,L5,g1,g2,h2.sls,rfl⟩⟩
end Go.Proofs.YtgloajbgphcloaaGreat.Sh
