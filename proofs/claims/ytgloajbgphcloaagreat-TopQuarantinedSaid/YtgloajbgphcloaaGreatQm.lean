/- The map of the spots from which the search has found nothing: whatever it says. -/
import Derived.Test.YtgloajbgphcloaaGreatQf
import Derived.Test.YtgloajbgphcloaaGreatQb
import Derived.Maps.OwnSet
import Derived.Maps.Views
import Derived.Maps.OwnOps
import Derived.DeepKeys4
import Derived.Laws.StructEq
import Derived.Laws.EntriesVeiled
namespace Go.Proofs.YtgloajbgphcloaaGreat.Sh
set_option linter.unusedVariables false
set_option linter.unusedSimpArgs false
open Go.RowKit Go.Maps
theorem spot_row:(200:TypeId)<Tryz.prog.types.size:=of_decide_eq_true (by kernel_rfl)
theorem spot_wide:(match Tryz.prog.underlying 200 with|some (.array _ _)|some (.struct _)=>true|_=>false)=true:=by kernel_rfl
set_option maxRecDepth 100000 in
theorem spot_keyed:Keyed Tryz.prog 200:=Keyed.of_law (deep_law_laid (by kernel_rfl) (m:=3) (by omega) spot_row (by kernel_rfl) spot_wide)
theorem wf_small {n:Int} (h0:0≤n) (h1:n≤1000000000):(Lit.int .i64 n).wf=true:=by
 have h2:IntKind.min .i64= -9223372036854775808:=by decide
 have h3:IntKind.max .i64=9223372036854775807:=by decide
 show(decide (IntKind.min .i64≤n)&&decide (n≤IntKind.max .i64))=true
 rw[h2,h3,Bool.and_eq_true,decide_eq_true_eq,decide_eq_true_eq]
 omega
set_option maxRecDepth 100000 in
theorem spot_key {a b:Int} (ha0:0≤a) (ha1:a≤1000000000) (hb0:0≤b) (hb1:b≤1000000000):∃kl,keyOf Tryz.prog 200 (.agg #[.int .i64 a,.int .i64 b])=some kl:=by
 have ha:=wf_small ha0 ha1
 have hb:=wf_small hb0 hb1
 obtain⟨k,hk⟩:∃k,Tryz.prog.types.size+1=k+2:=⟨Tryz.prog.types.size - 1,by have h:(decide (0<Tryz.prog.types.size))=true:=(by kernel_rfl);have h:=of_decide_eq_true h;omega⟩
 have hkt:Tryz.prog.keyType 200=true:=by kernel_rfl
 have hs:Tryz.prog.cellsOf 200=2:=by kernel_rfl
 have hi1:Tryz.prog.cellsOf 3=1:=by kernel_rfl
 have hu:=Tryz.underlying200
 have hui:=Tryz.underlying3
 unfold keyOf
 simp only[hu]
 rw[if_pos (by simp[hkt,Value.formed,hu,hs]),hk]
 refine⟨.string (keyBytes [.int .i64 a,.int .i64 b]),?_⟩
 unfold Program.keyLits
 simp only[hu,Value.cells]
 rw[if_pos (by refine⟨by simp[hs],by simp⟩)]
 simp[List.mapM_cons,Program.keyLits,hui,hi1,ha,hb]
noncomputable abbrev BV:Value→Option (DataW Value×List MemPlace):=plainElem (H:=Value) Tryz.prog 4
set_option maxRecDepth 100000 in
theorem bv_inv {v:Value} {z:DataW Value×List MemPlace} (h:BV v=some z):∃x,v= .bool x:=by
 unfold BV plainElem at h
 rw[Tryz.underlying4]at h
 cases v<;>simp at h
 exact⟨_,rfl⟩
def Dead (w:World) (b n:Nat):Prop:=∃D,w.ownsMap Tryz.prog 200 BV b n D
theorem Dead.made (w:World):Dead (w.alloc (.map #[] 0)) w.heap.size 0:=⟨.map [],World.ownsMap_made _ _ _ _⟩
theorem Dead.lt {w:World} {b n:Nat} (h:Dead w b n):b<w.heap.size:=by obtain⟨D,h⟩:=h;exact h.lt
theorem Dead.mono {w:World} {b n m:Nat} (h:Dead w b n) (hm:n≤m):Dead w b m:=by
 obtain⟨D,es,clock,hb,F,hs,hD⟩:=h
 exact⟨D,es,clock,hb,F,Nat.le_trans hs hm,hD⟩
theorem Dead.mod {w w':World} {b n:Nat} {S:Nat→Prop} (h:Dead w b n) (hm:Mod S w w') (hS:¬S b):Dead w' b n:=by
 obtain⟨D,h⟩:=h
 obtain⟨es,clock,hb,F,hs,hD⟩:=h
 exact⟨D,es,clock,(hm.block b (Array.getElem?_eq_some_iff.1 hb).1 hS).trans hb,F,hs,hD⟩
theorem Dead.ext {w w':World} {b n:Nat} (h:Dead w b n) (he:Ext w w'):Dead w' b n:=h.mod (he.mod (fun _=>False)) (fun e=>e)
set_option maxRecDepth 100000 in
theorem zero_bool (w:World):(zeroValue 4).run Tryz.prog w= .ok (.bool false) w:=rfl
set_option maxRecDepth 100000 in
theorem Dead.look {w:World} {b n:Nat} (h:Dead w b n) {a c:Int} (ha0:0≤a) (ha1:a≤1000000000) (hc0:0≤c) (hc1:c≤1000000000) :
  ∃x,(Instr.lookup 197 (.map (some b)) (.agg #[.int .i64 a,.int .i64 c]) false).run Tryz.prog w= .ok (.bool x) w:=by
 obtain⟨D,h⟩:=h
 obtain⟨kl,hk⟩:=spot_key ha0 ha1 hc0 hc1
 obtain⟨v,ps,hrun,hv⟩:=h.lookup spot_keyed Tryz.underlying197 (zero_bool w) (plainElem_bool Tryz.underlying4 false) hk
 obtain⟨x,rfl⟩:=bv_inv hv
 exact⟨x,hrun⟩
set_option maxRecDepth 100000 in
theorem Dead.put {w:World} {b n:Nat} (h:Dead w b n) (hn:n<maxLen) {a c:Int} (ha0:0≤a) (ha1:a≤1000000000) (hc0:0≤c) (hc1:c≤1000000000) :
  ∃w',(Instr.mapUpdate 197 (.map (some b)) (.agg #[.int .i64 a,.int .i64 c]) (.bool true)).run Tryz.prog w= .ok () w'∧Dead w' b (n+1)∧Mod (fun k=>k=b) w w':=by
 obtain⟨D,h⟩:=h
 obtain⟨kl,hk⟩:=spot_key ha0 ha1 hc0 hc1
 obtain⟨w',hrun,h1,hg⟩:=h.update spot_keyed Tryz.underlying197 hn hk (plainElem_bool Tryz.underlying4 true)
 exact⟨w',hrun,⟨_,h1⟩,hg.os,hg.tape,hg.output,hg.size,fun k hk2 hne=>hg.block k hk2 (fun e=>hne (Option.some.inj e))⟩
end Go.Proofs.YtgloajbgphcloaaGreat.Sh
