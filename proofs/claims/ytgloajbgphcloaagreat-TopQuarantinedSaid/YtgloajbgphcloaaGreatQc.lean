/- The days on which islets catch beetles first, as they are asked. -/
import Derived.Test.YtgloajbgphcloaaGreatQw
namespace Go.Proofs.YtgloajbgphcloaaGreat.Bn
set_option linter.unusedVariables false
set_option linter.unusedSimpArgs false
open Go.RowKit
open Ext renaming setCell → Qa, trans → Qb
set_option maxRecDepth 100000 in
set_option maxHeartbeats 8000000 in
theorem catches_any (D:List Int) (wait:Int) (vi vt:Value) (w:World) (hI:Ints w vi [0]) (hT:Trips w vt (chainT D)) (h1:1≤D.length) (h7:D.length≤7) (hD:∀k,0≤D.getD k 0∧D.getD k 0≤400) (hw:0≤wait∧wait≤40) :
  Calls Tryz.prog 27 #[.agg (seaV ((D.length:Int)+1) wait vi (.slice none 0 0) vt),.slice none 0 0] w fun e w'=>∃bo r,r<D.length∧(∀ k,k<r→goOn D wait k)∧¬goOn D wait r ∧
   e= .returned (.tuple #[.slice (some ⟨bo,0,none⟩) (D.length+1) (D.length+1),.int .i64 0])∧FnB (fun j=>if j=0 then .int .i64 0 else outF D (r+1) j) (D.length+1) 3 w' bo∧Ext w w':=by
 have hlen:=chain_len D
 have ht:∀t∈chainT D,tripB ((D.length:Int)+1) t=true:=by
  intro t ht
  obtain⟨k,hk,rfl⟩:=List.getElem_of_mem ht
  have hk':k<D.length:=by rw[hlen]at hk;exact hk
  have hg:=chain_get hk'
  rw[List.getElem?_eq_getElem hk]at hg
  rw[Option.some.inj hg]
  have:=hD k
  unfold tripB within
  simp only[Bool.and_eq_true,decide_eq_true_eq,Bool.not_eq_true',decide_eq_false_iff_not]
  omega
 have HGU:=Lib.hid (fun W hE=>guarded_true ((D.length:Int)+1) wait [0] (chainT D) vi vt W (hI.ext (w':=W) hE) (hT.ext hE) (by omega) (by simp) (by intro x hx;have h:x=0:=(by simpa using hx);omega) (by rw[hlen];omega) hw ht)
 have HDY:=Lib.hid (fun W hE=>days_any D wait vi vt W (hI.ext (w':=W) hE) (hT.ext hE) h1 h7 hD hw)
 obtain⟨ai,ci,rfl,_⟩:=hI
 obtain⟨at',ct,rfl,_⟩:=hT
 simp only[hlen,List.length_singleton]at HGU HDY ⊢
 clear ht hD hlen
 go_enter Tryz.func27,Tryz.ntmps27
 go_wp2_with (first|(go_at_call 87;refine(HGU.out _ (by(with_reducible(repeat(first|exact Ext.refl _|assumption|apply Ext.alloc|apply Ext.drew|exact ext_plus _ _|(apply Qa;rotate_left;(simp<;>omega))|(apply Qb;rotate_left;exact ext_plus _ _)|(apply Qb;rotate_left;assumption)))))).mono ?_;rintro e w2 ⟨rfl,hE2⟩)|(go_at_call 88;refine(HDY.out _ (by(with_reducible(repeat(first|exact Ext.refl _|assumption|apply Ext.alloc|apply Ext.drew|exact ext_plus _ _|(apply Qa;rotate_left;(simp<;>omega))|(apply Qb;rotate_left;exact ext_plus _ _)|(apply Qb;rotate_left;assumption)))))).mono ?_;rintro e w3 ⟨bo,r,hr,hgo,hng,rfl,hF,hE3⟩))
 exact bodyPost_ret (v:= .tuple #[.slice (some ⟨bo,0,none⟩) (D.length+1) (D.length+1),.int .i64 0]) (by simp[results,Tryz.results27,go_sem]) rfl ⟨bo,r,hr,hgo,hng,rfl,hF,by(with_reducible(repeat(first|exact Ext.refl _|assumption|apply Ext.alloc|apply Ext.drew|exact ext_plus _ _|(apply Qa;rotate_left;(simp<;>omega))|(apply Qb;rotate_left;exact ext_plus _ _)|(apply Qb;rotate_left;assumption))))⟩
end Go.Proofs.YtgloajbgphcloaaGreat.Bn
