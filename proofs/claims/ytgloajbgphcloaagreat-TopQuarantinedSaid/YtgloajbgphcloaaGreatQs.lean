/- Blocks told by what each cell holds; the state of the search for the days on which islets catch beetles. -/
import Derived.Test.YtgloajbgphcloaaGreatQo
namespace Go.Proofs.YtgloajbgphcloaaGreat
set_option linter.unusedVariables false
set_option linter.unusedSimpArgs false
open Go.RowKit
open Nat renaming lt_of_lt_of_le → Qa
def FnB (f:Nat→Value) (n:Nat) (e:TypeId) (w:World) (g:Nat):Prop:=∃cs:Array Value,Blk w g cs e∧cs.size=n∧∀i,i<n→cs[i]? =some (f i)
theorem FnB.lt {f:Nat→Value} {n:Nat} {e:TypeId} {w:World} {g:Nat} (h:FnB f n e w g):g<w.heap.size:=by obtain⟨_,h,_⟩:=h;exact h.lt
theorem FnB.free {f:Nat→Value} {n:Nat} {e:TypeId} {w:World} {g:Nat} (h:FnB f n e w g) (o:Nat):w.frozen? ⟨g,o,none⟩=false:=by obtain⟨_,h,_⟩:=h;exact h.free o
theorem FnB.cell {f:Nat→Value} {n:Nat} {e:TypeId} {w:World} {g:Nat} (h:FnB f n e w g) {i:Nat} (hi:i<n):w.cell? ⟨g,i,none⟩=some (f i):=by
 obtain⟨cs,h,_,hc⟩:=h
 rw[h.cell];exact hc i hi
theorem FnB.congr {f f':Nat→Value} {n:Nat} {e:TypeId} {w:World} {g:Nat} (h:FnB f n e w g) (hf:∀i,i<n→f i=f' i):FnB f' n e w g:=by
 obtain⟨cs,h,hs,hc⟩:=h
 exact⟨cs,h,hs,fun i hi=>by rw[← hf i hi];exact hc i hi⟩
theorem FnB.move {f:Nat→Value} {n:Nat} {e:TypeId} {w w':World} {g:Nat} (h:FnB f n e w g) (hm:w'.heap[g]? =w.heap[g]?):FnB f n e w' g:=by
 obtain⟨cs,h,hs,hc⟩:=h
 exact⟨cs,hm.trans h,hs,hc⟩
theorem FnB.ext {f:Nat→Value} {n:Nat} {e:TypeId} {w w':World} {g:Nat} (h:FnB f n e w g) (he:Ext w w'):FnB f n e w' g:=h.move (he.block g h.lt)
theorem FnB.mod {f:Nat→Value} {n:Nat} {e:TypeId} {w w':World} {g:Nat} {S:Nat→Prop} (h:FnB f n e w g) (ho:Mod S w w') (h1:¬S g):FnB f n e w' g:=h.move (ho.block g h.lt h1)
theorem FnB.kept {f:Nat→Value} {n:Nat} {e:TypeId} {A B:World} {row:Option Nat} {g:Nat} (h:FnB f n e A g) (hg:A.grownBy B row) (hr:∀r,row=some r→∃o:Obj,A.heap[r]? =some o∧o.isCells=false):FnB f n e B g:=by
 obtain⟨cs,h,hs,hc⟩:=h
 exact⟨cs,h.kept hg hr,hs,hc⟩
theorem FnB.shut {f:Nat→Value} {n:Nat} {e:TypeId} {B g:Nat} {w w':World} (hS:ShutM B w w') (h:FnB f n e w g):FnB f n e w' g:=by
 obtain⟨cs,h,hs,hc⟩:=h
 exact⟨cs,hS.blk h,hs,hc⟩
theorem FnB.other {f:Nat→Value} {n:Nat} {e:TypeId} {w:World} {g:Nat} (h:FnB f n e w g) {a:Addr} (ha:a.block≠g) (v:Value):FnB f n e (w.setCell a v) g :=
 h.mod (S:=fun k=>k=a.block) ((Mod.refl (fun k=>k=a.block) w).set (a:=a) (.inl rfl) v) (fun e=>ha e.symm)
theorem FnB.set {f:Nat→Value} {n:Nat} {e:TypeId} {w:World} {g:Nat} (h:FnB f n e w g) {i:Nat} (hi:i<n) (v:Value):FnB (fun k=>if k=i then v else f k) n e (w.setCell ⟨g,i,none⟩ v) g:=by
 obtain⟨cs,h,hs,hc⟩:=h
 refine⟨_,h.set i v,by simpa using hs,fun k hk=> ?_⟩
 rw[Array.getElem?_setIfInBounds]
 by_cases e:i=k
 ·subst e;rw[if_pos rfl,if_pos (by omega)];simp
 ·rw[if_neg e,hc k hk];simp only[if_neg (fun h:k=i=>e h.symm)]
theorem FnB.new {f:Nat→Value} {n:Nat} {e:TypeId} {w:World} {g:Nat} {cs:Array Value} (hg:g=w.heap.size) (hs:cs.size=n) (hc:∀i,i<n→cs[i]? =some (f i)):FnB f n e (w.alloc (.cells cs e)) g:=⟨cs,Blk.new' hg _ _,hs,hc⟩
theorem QU.kept {α:Type} {f:α→List Value} {sz base:Nat} {A B:World} {row:Option Nat} {v:Value} {xs:List α} (h:QU f sz base A v xs) (hg:A.grownBy B row) (hr:∀r,row=some r→∃o:Obj,A.heap[r]? =some o∧o.isCells=false):QU f sz base B v xs:=by
 rcases h with h|⟨g,off,cap,rfl,hb,hgl,hc,hro,hx⟩
 ·exact .inl h
 ·by_cases hz:cap*sz=0
  ·refine .inr ⟨g,off,cap,rfl,hb,Qa hgl hg.size,hc,fun j hj=>by omega,fun i hi j u hu=> ?_⟩
   have h1:=hx i hi j u hu
   have hne:some g≠row:=fun e=>by
    obtain⟨o,h2,h3⟩:=hr g e.symm
    unfold World.cell? at h1
    simp only[h2]at h1
    cases o<;>first|(cases h3;done)|(simp at h1)
   have e:=hg.block g hgl hne
   unfold World.cell? at h1 ⊢
   simp only[e];exact h1
  ·have h0:=(hro 0 (by omega)).1
   have hne:some g≠row:=fun e=>by
    obtain⟨o,h2,h3⟩:=hr g e.symm
    unfold World.cell? at h0
    simp only[h2]at h0
    cases o<;>first|(cases h3;done)|(simp at h0)
   have e:=hg.block g hgl hne
   have ec:∀o,B.cell? ⟨g,o,none⟩=A.cell? ⟨g,o,none⟩∧B.frozen? ⟨g,o,none⟩=A.frozen? ⟨g,o,none⟩:=fun o=>by
    unfold World.cell? World.frozen?
    simp only[e,and_self]
   exact .inr ⟨g,off,cap,rfl,hb,Qa hgl hg.size,hc,fun j hj=>by rw[(ec _).1,(ec _).2];exact hro j hj,fun i hi j u hu=>by rw[(ec _).1];exact hx i hi j u hu⟩
theorem boolT_info:(Tryz.prog.info? 4).map (fun i=>(i.zero,i.size,i.bytes))=some (some (.bool false),1,1):=by kernel_rfl
theorem intT_info:(Tryz.prog.info? 3).map (fun i=>(i.zero,i.size,i.bytes))=some (some (.int .i64 0),1,8):=by kernel_rfl
theorem made_one {z:Value} {n i:Nat} (hi:i<n):(madeCells #[z] n)[i]? =some z:=by
 unfold madeCells
 simp only[Array.getElem?_map]
 rw[Array.getElem?_range,if_pos (by omega)]
 simp[Nat.mod_one]
theorem make_ints (n:Nat) (hn:n≤1000000):∃cs:Array Value,cs.size=n∧(∀ w,(Instr.makeSlice 30 (.int .i64 (n:Int)) (.int .i64 (n:Int))).run Tryz.prog w= .ok (.slice (some ⟨w.heap.size,0,none⟩) n n) (w.alloc (.cells cs 3)))∧∀i,i<n→cs[i]? =some (.int .i64 0):=by
 obtain⟨i0,hi,hz0,hz1,hz2⟩:=info_parts intT_info
 have h:=fun w=>run_make (P:=Tryz.prog) w 30 3 i0 (.int .i64 0) Tryz.underlying30 hi hz0 .i64 .i64 n n (by omega) (Int.le_refl _) (by rw[hz2];omega) (by omega)
 simp only[hz1,Int.toNat_natCast]at h
 simp only[Nat.mul_one]at h
 exact⟨_,by simp[size_madeCells],h,fun i hi=>made_one hi⟩
theorem make_flags (n:Nat) (hn:n≤1000000):∃cs:Array Value,cs.size=n∧(∀ w,(Instr.makeSlice 56 (.int .i64 (n:Int)) (.int .i64 (n:Int))).run Tryz.prog w= .ok (.slice (some ⟨w.heap.size,0,none⟩) n n) (w.alloc (.cells cs 4)))∧∀i,i<n→cs[i]? =some (.bool false):=by
 obtain⟨i0,hi,hz0,hz1,hz2⟩:=info_parts boolT_info
 have h:=fun w=>run_make (P:=Tryz.prog) w 56 4 i0 (.bool false) Tryz.underlying56 hi hz0 .i64 .i64 n n (by omega) (Int.le_refl _) (by rw[hz2];omega) (by omega)
 simp only[hz1,Int.toNat_natCast]at h
 simp only[Nat.mul_one]at h
 exact⟨_,by simp[size_madeCells],h,fun i hi=>made_one hi⟩
end Go.Proofs.YtgloajbgphcloaaGreat
