/- Rows of elements that the call itself made; copies of slices. -/
import Derived.Test.YtgloajbgphcloaaGreatCo
import Derived.Test.YtgloajbgphcloaaGreatRg
import Derived.Test.YtgloajbgphcloaaGreatRfEnc
import Derived.Laws.AppendOwnNone
import Derived.Deep.Upon
namespace Go.Proofs.YtgloajbgphcloaaGreat.Rf
set_option linter.unusedVariables false
set_option linter.unusedSimpArgs false
open Go.RowKit
open Ext renaming refl → Qa
theorem span_info:(Tryz.prog.info? 25).map (fun i=>(i.zero,i.size,i.bytes))=some (some (.agg #[.int .i64 0,.int .i64 0]),2,16):=by kernel_rfl
theorem row_info:(Tryz.prog.info? 30).map (fun i=>(i.zero,i.size,i.bytes))=some (some (.slice none 0 0),1,24):=by kernel_rfl
theorem place_info:(Tryz.prog.info? 126).map (fun i=>(i.zero,i.size,i.bytes))=some (some (.agg #[.int .i64 0,.int .i64 0,.int .i64 0,.int .i64 0,.int .i64 0,.int .i64 0,.int .i64 0,.int .i64 0,.int .i64 0,.int .i64 0,.int .i64 0,.int .i64 0]),12,96):=by kernel_rfl
theorem Spans.of_own {w:World} {base:Nat} {v:Value} {xs:List (Int×Int)} (h:w.ownsRow base 25 2 v xs.length (xs.flatMap spanC)):Spans w v xs:=sls_of_own spanC 2 (fun _=>rfl) h
theorem Places.of_own {w:World} {base:Nat} {v:Value} {xs:List R.Place} (h:w.ownsRow base 126 12 v xs.length (xs.flatMap placeC)):Places w v xs:=sls_of_own placeC 12 (fun _=>rfl) h
theorem placeC_len (x:R.Place):(placeC x).length=12:=rfl
theorem spanC_len (x:Int×Int):(spanC x).length=2:=rfl
theorem placeC_one (xs:List R.Place):∀u∈xs.flatMap placeC,u.oneCell'=true:=by
 intro u hu
 obtain⟨x,_,hx⟩:=List.mem_flatMap.1 hu
 simp only[placeC,List.mem_cons,List.not_mem_nil,or_false]at hx
 rcases hx with rfl|rfl|rfl|rfl|rfl|rfl|rfl|rfl|rfl|rfl|rfl|rfl<;>rfl
set_option maxRecDepth 100000 in
theorem clone_ints (v:Value) (xs:List Int) (w:World) (hv:Ints w v xs) (hn:xs.length≤1000000) :
  Calls Tryz.prog 173 #[v] w fun e w'=>∃v',e= .returned v'∧w'.ownsRow w.heap.size 3 1 v' xs.length (xs.map (Value.int .i64))∧Ext w w':=by
 have q25:∀(w:World) (a:Option Addr) (n c n' c':Nat),(binOp .eql 30 (.slice a n c) (.slice none n' c')).run Tryz.prog w= .ok (.bool a.isNone) w:=fun w a n c n' c'=>Lib.run_eql_slice_nil w _ _ a n c n' c' Tryz.underlying30
 have hs:=hv.sls
 rw[← ints_flat]
 obtain⟨a,cap,rfl,_⟩:=hv
 cases a with
 | none =>
  obtain rfl:=sls_none hs
  go_enter Tryz.func173,Tryz.ntmps173
  go_wp2
  go_ret
  exact⟨_,rfl,World.ownsRow_nil _ _ _ _,Qa _⟩
 | some a =>
  obtain⟨i0,hi,hz0,hz1,hz2⟩:=info_parts int_info
  have HS:=Lib.hid hs
  clear hs
  go_enter Tryz.func173,Tryz.ntmps173
  go_wp2_with (first|(at_builtin;refine wpList_append_own _ rfl _ _ 30 rfl w.heap.size 3 i0 (.int .i64 0) 1 8 Tryz.underlying30 hi hz0 hz1 hz2 rfl (by decide) _ 0 [] rfl (own_empty w _ _) a xs.length cap (xs.flatMap intC) rfl (flat_len intC 1 intC_len xs) (sls_news intC_len (by decide) (Sls.ext (ate_stays _) HS.out ((Qa _).alloc _))) (intC_one _) (by unfold maxLen;omega) (by omega) (by simp) ?_;intro v' w1 hown' hgrow _;obtain⟨av,cv,rfl⟩:=own_slice hown'))
  go_ret
  exact⟨_,rfl,by simpa using hown',Ext.grown ((Qa _).alloc _) hgrow (own_base (own_empty w 3 1))⟩
set_option maxRecDepth 100000 in
theorem clone_places (v:Value) (xs:List R.Place) (w:World) (hs:Places w v xs) (hn:xs.length≤1000000) :
  Calls Tryz.prog 177 #[v] w fun e w'=>∃v',e= .returned v'∧w'.ownsRow w.heap.size 126 12 v' xs.length (xs.flatMap placeC)∧Ext w w':=by
 have q25:∀(w:World) (a:Option Addr) (n c n' c':Nat),(binOp .eql 109 (.slice a n c) (.slice none n' c')).run Tryz.prog w= .ok (.bool a.isNone) w:=fun w a n c n' c'=>Lib.run_eql_slice_nil w _ _ a n c n' c' Tryz.underlying109
 unfold Places at hs
 have hs':=hs
 obtain⟨a,cap,rfl,_⟩:=hs'
 cases a with
 | none =>
  obtain rfl:=sls_none hs
  go_enter Tryz.func177,Tryz.ntmps177
  go_wp2
  go_ret
  exact⟨_,rfl,World.ownsRow_nil _ _ _ _,Qa _⟩
 | some a =>
  obtain⟨i0,hi,hz0,hz1,hz2⟩:=info_parts place_info
  have HS:=Lib.hid hs
  clear hs
  go_enter Tryz.func177,Tryz.ntmps177
  go_wp2_with (first|(at_builtin;refine wpList_append_own _ rfl _ _ 109 rfl w.heap.size 126 i0 _ 12 96 Tryz.underlying109 hi hz0 hz1 hz2 rfl (by decide) _ 0 [] rfl (own_empty w _ _) a xs.length cap (xs.flatMap placeC) rfl (flat_len placeC 12 placeC_len xs) (sls_news placeC_len (by decide) (Sls.ext (ate_stays _) HS.out ((Qa _).alloc _))) (placeC_one _) (by unfold maxLen;omega) (by omega) (by simp) ?_;intro v' w1 hown' hgrow _;obtain⟨av,cv,rfl⟩:=own_slice hown'))
  go_ret
  exact⟨_,rfl,by simpa using hown',Ext.grown ((Qa _).alloc _) hgrow (own_base (own_empty w 126 12))⟩
end Go.Proofs.YtgloajbgphcloaaGreat.Rf
