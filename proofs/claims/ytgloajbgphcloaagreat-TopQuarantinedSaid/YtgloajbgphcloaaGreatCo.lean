/- Small words for all proofs over this seat's program: what a slice in memory reads as; that a call leaves all that lay as it lay. Whole blocks of memory; a slice that the call itself made. Rows of elements that the call itself made; what is left when one block is written alone; the book-keeping of a loop. -/
import Derived.Test.YtgloajbgphcloaaGreatProg
import Derived.WalkKit
import Derived.WalkSpells
import Derived.WalkLawsBesides
import Derived.Lib.Hide
import Derived.Deep.Draws
import Derived.Laws.AppendOwnNone
import Derived.Deep.Upon
import Derived.RangeFuncOwn
namespace Go.Proofs.YtgloajbgphcloaaGreat
set_option linter.unusedVariables false
set_option linter.unusedSimpArgs false
open Go.RowKit
open Nat renaming lt_of_lt_of_le → Qa
theorem ret_bool {a b:Bool} (h:a=b):Ending.returned (.bool a)= .returned (.bool b):=by rw[h]
theorem ret_int {k:IntKind} {a b:Int} (h:a=b):Ending.returned (.int k a)= .returned (.int k b):=by rw[h]
def Ext (w w':World):Prop:=Below w.heap.size w w'
theorem Ext.refl (w:World):Ext w w:=Below.refl _ _
theorem Ext.size {w w':World} (h:Ext w w'):w.heap.size≤w'.heap.size:=Below.size h
theorem Ext.trans {a b c:World} (h:Ext a b) (k:Ext b c):Ext a c:=Below.trans h (Below.mono k (Below.size h))
theorem Ext.alloc {a b:World} (h:Ext a b) (o:Obj):Ext a (b.alloc o):=Below.alloc h (Below.size h) o
theorem Ext.drew {a b:World} (h:Ext a b):Ext a b.drew:=Below.drew h
theorem Ext.setCell {a b:World} (h:Ext a b) {p:Addr} (hp:a.heap.size≤p.block) (v:Value):Ext a (b.setCell p v):=Below.setCell h hp v
theorem Ext.grown {a w w':World} {row:Option Nat} (h:Ext a w) (hg:w.grownBy w' row) (hr:∀k,row=some k→a.heap.size≤k):Ext a w':=Below.grown h hg (Below.size h) hr
theorem Ext.cells {W w1:World} (hb:Ext W w1):(∀ b o,b<W.heap.size→w1.cell? ⟨b,o,none⟩=W.cell? ⟨b,o,none⟩)∧(∀ b o,b<W.heap.size→w1.frozen? ⟨b,o,none⟩=W.frozen? ⟨b,o,none⟩) :=
 ⟨fun b o h=>Below.cell hb (p:=⟨b,o,none⟩) h,fun b o h=>Below.frozen hb (p:=⟨b,o,none⟩) h⟩
theorem size_drew (w:World):w.drew.heap.size=w.heap.size:=rfl
theorem size_drewN (w:World) (n:Nat):(w.drewN n).heap.size=w.heap.size:=rfl
theorem size_setCell (w:World) (a:Addr) (v:Value):(w.setCell a v).heap.size=w.heap.size:=by simp[World.setCell]
def Ints (w:World) (v:Value) (xs:List Int):Prop :=
 ∃a cap,v= .slice a xs.length cap∧∀i (h:i<xs.length),∃b off,a=some ⟨b,off,none⟩∧b<w.heap.size∧w.cell? ⟨b,off+i,none⟩=some (.int .i64 xs[i])
def Sls {α:Type} (k:Nat) (At:World→Nat→Nat→α→Prop) (w:World) (v:Value) (xs:List α):Prop :=
 ∃a cap,v= .slice a xs.length cap∧∀i (h:i<xs.length),∃b off,a=some ⟨b,off,none⟩∧b<w.heap.size∧At w b (off+i*k) xs[i]
def Stays {α:Type} (At:World→Nat→Nat→α→Prop):Prop:=∀(w w':World) (b o:Nat) (x:α),Ext w w'→b<w.heap.size→At w b o x→At w' b o x
theorem Ints.ext {w w':World} {v:Value} {xs:List Int} (h:Ints w v xs) (he:Ext w w'):Ints w' v xs:=by
 obtain⟨a,cap,rfl,hx⟩:=h
 refine⟨a,cap,rfl,fun i hi=> ?_⟩
 obtain⟨b,off,rfl,hb,hc⟩:=hx i hi
 exact⟨b,off,rfl,Qa hb he.size,(he.cells.1 b _ hb).trans hc⟩
theorem Sls.ext {α:Type} {k:Nat} {At:World→Nat→Nat→α→Prop} (hA:Stays At) {w w':World} {v:Value} {xs:List α} (h:Sls k At w v xs) (he:Ext w w'):Sls k At w' v xs:=by
 obtain⟨a,cap,rfl,hx⟩:=h
 refine⟨a,cap,rfl,fun i hi=> ?_⟩
 obtain⟨b,off,rfl,hb,hc⟩:=hx i hi
 exact⟨b,off,rfl,Qa hb he.size,hA _ _ _ _ _ he hb hc⟩
theorem Ints.nil (w:World):Ints w (.slice none 0 0) []:=⟨none,0,rfl,fun i h=>by simp at h⟩
theorem Sls.nil {α:Type} {k:Nat} {At:World→Nat→Nat→α→Prop} (w:World):Sls k At w (.slice none 0 0) ([]:List α):=⟨none,0,rfl,fun i h=>by simp at h⟩
theorem Ints.of_own {w:World} {base:Nat} {v:Value} {xs:List Int} (h:w.ownsRow base 3 1 v xs.length (xs.map (Value.int .i64))):Ints w v xs:=by
 have hh:=h
 obtain⟨_,⟨rfl,h0⟩|⟨g,cap,cur,rfl,hb,hg,_⟩⟩:=h
 ·have:xs=[]:=by cases xs with|nil=>rfl|cons _ _=>simp at h0
  subst this
  exact Ints.nil w
 ·refine⟨_,_,rfl,fun i hi=>⟨g,0,rfl,(Array.getElem?_eq_some_iff.1 hg).1,?_⟩⟩
  have:=hh.cells (g:=g) rfl i (.int .i64 xs[i]) (by simp[hi])
  have hadd:(⟨g,0,none⟩:Addr).add i=⟨g,i,none⟩:=by unfold Addr.add;split<;>simp_all
  rw[hadd]at this
  rw[Nat.zero_add];exact this
theorem own_ints_lt {w:World} {base:Nat} {e:TypeId} {s:Nat} {v:Value} {n:Nat} {xs:List Value} (h:w.ownsRow base e s v n xs) {k:Nat} (hk:v.ownBlock=some k):base≤k:=(h.lt k hk).1
end Go.Proofs.YtgloajbgphcloaaGreat
namespace Go.Proofs.YtgloajbgphcloaaGreat
set_option linter.unusedVariables false
set_option linter.unusedSimpArgs false
open Go.RowKit
def Blk (w:World) (b:Nat) (cs:Array Value) (e:TypeId):Prop:=w.heap[b]? =some (.cells cs e (0,0))
theorem Blk.cell {w:World} {b:Nat} {cs:Array Value} {e:TypeId} (h:Blk w b cs e) (o:Nat):w.cell? ⟨b,o,none⟩=cs[o]? :=by
 unfold Blk at h;simp[World.cell?,h]
theorem Blk.free {w:World} {b:Nat} {cs:Array Value} {e:TypeId} (h:Blk w b cs e) (o:Nat):w.frozen? ⟨b,o,none⟩=false:=by
 unfold Blk at h;simp[World.frozen?,h]
theorem Blk.lt {w:World} {b:Nat} {cs:Array Value} {e:TypeId} (h:Blk w b cs e):b<w.heap.size:=(Array.getElem?_eq_some_iff.1 h).1
theorem Blk.set {w:World} {b:Nat} {cs:Array Value} {e:TypeId} (h:Blk w b cs e) (o:Nat) (v:Value):Blk (w.setCell ⟨b,o,none⟩ v) b (cs.setIfInBounds o v) e:=by
 unfold Blk at *;simp[World.setCell,Array.getElem?_modify,h]
theorem Blk.other {w:World} {b:Nat} {cs:Array Value} {e:TypeId} (h:Blk w b cs e) {a:Addr} (hne:a.block≠b) (v:Value):Blk (w.setCell a v) b cs e:=by
 unfold Blk at *;rw[Below.heap_setCell _ _ _ _ (fun e=>hne e.symm)];exact h
theorem Blk.alloc {w:World} {b:Nat} {cs:Array Value} {e:TypeId} (h:Blk w b cs e) (o:Obj):Blk (w.alloc o) b cs e:=by
 have:=h.lt;unfold Blk at *;rw[Below.heap_alloc _ _ _ this];exact h
theorem Blk.ext {w w':World} {b:Nat} {cs:Array Value} {e:TypeId} (h:Blk w b cs e) (he:Ext w w'):Blk w' b cs e:=(he.block b h.lt).trans h
theorem Blk.drew {w:World} {b:Nat} {cs:Array Value} {e:TypeId} (h:Blk w b cs e):Blk w.drew b cs e:=h
theorem Blk.grown {w w':World} {row:Option Nat} {b:Nat} {cs:Array Value} {e:TypeId} (h:Blk w b cs e) (hg:w.grownBy w' row) {base:Nat} (hr:∀k,row=some k→base≤k) (hb:b<base):Blk w' b cs e :=
 (hg.block b h.lt (fun e=>by have:=hr b e.symm;omega)).trans h
theorem Blk.new (w:World) (cs:Array Value) (e:TypeId):Blk (w.alloc (.cells cs e)) w.heap.size cs e:=by
 unfold Blk;exact heap_alloc_new w _
theorem Blk.new' {w:World} {b:Nat} (hb:b=w.heap.size) (cs:Array Value) (e:TypeId):Blk (w.alloc (.cells cs e)) b cs e:=by
 subst hb;exact Blk.new w cs e
theorem cell_one (w:World) (x:Value) (e:TypeId) {b:Nat} (hb:b=w.heap.size):∀j u,([x]:List Value)[j]? =some u→(w.alloc (.cells #[x] e)).cell? ((⟨b,0,none⟩:Addr).add j)=some u:=by
 intro j u hj
 subst hb
 match j,hj with
 | 0,hj =>
  have e1:x=u:=by simpa using hj
  subst e1
  exact(Blk.new w #[x] e).cell 0
theorem one_int (n:Int):∀u∈[Value.int .i64 n],u.oneCell'=true:=by intro u hu;simp at hu;subst hu;rfl
theorem own_base {w:World} {base:Nat} {e:TypeId} {s:Nat} {v:Value} {n:Nat} {xs:List Value} (h:w.ownsRow base e s v n xs):∀k,v.ownBlock=some k→base≤k:=fun k hk=>(h.lt k hk).1
theorem own_succ {w:World} {base:Nat} {e:TypeId} {s:Nat} {v:Value} {n:Nat} {xs:List Value} (h:w.ownsRow base e s v (n+1) xs):∃g cap,v= .slice (some ⟨g,0,none⟩) (n+1) cap:=by
 rcases h.2 with⟨_,h0⟩|⟨g,cap,cur,hv,_⟩
 ·omega
 ·exact⟨g,cap,hv⟩
theorem own_slice {w:World} {base:Nat} {e:TypeId} {s:Nat} {v:Value} {n:Nat} {xs:List Value} (h:w.ownsRow base e s v n xs):∃a cap,v= .slice a n cap:=by
 rcases h.2 with⟨rfl,rfl⟩|⟨g,cap,cur,hv,_⟩
 ·exact⟨none,0,rfl⟩
 ·exact⟨_,cap,hv⟩
def pre {α:Type} (f:α→Int) (xs:List α) (k:Nat):List Value:=((xs.take k).map f).map (Value.int .i64)
theorem pre_zero {α:Type} (f:α→Int) (xs:List α):pre f xs 0=[]:=rfl
theorem pre_succ {α:Type} (f:α→Int) (xs:List α) {k:Nat} (h:k<xs.length):pre f xs (k+1)=pre f xs k++[.int .i64 (f xs[k])]:=by
 unfold pre;rw[List.take_succ_eq_append_getElem h,List.map_append,List.map_append];rfl
theorem pre_all {α:Type} (f:α→Int) (xs:List α):pre f xs xs.length=(xs.map f).map (Value.int .i64):=by
 unfold pre;rw[List.take_length]
theorem int_info:(Tryz.prog.info? 3).map (fun i=>(i.zero,i.size,i.bytes))=some (some (.int .i64 0),1,8):=by kernel_rfl
end Go.Proofs.YtgloajbgphcloaaGreat
namespace Go.Proofs.YtgloajbgphcloaaGreat
set_option linter.unusedVariables false
set_option linter.unusedSimpArgs false
open Go.RowKit
open Nat renaming le_refl → Qc, le_trans → Qb, lt_of_lt_of_le → Qa
def AtE {α:Type} (f:α→List Value) (w:World) (b o:Nat) (x:α):Prop:=∀j u,(f x)[j]? =some u→w.cell? ⟨b,o+j,none⟩=some u
theorem ate_stays {α:Type} (f:α→List Value):Stays (AtE f):=fun _ _ _ _ _ he hb h j u hu=>(he.cells.1 _ _ hb).trans (h j u hu)
theorem flat_get {α:Type} (f:α→List Value) (k:Nat) (hf:∀x,(f x).length=k):∀(xs:List α) (i:Nat) (h:i<xs.length) (j:Nat),j<k→(xs.flatMap f)[i*k+j]? =(f xs[i])[j]?
 | x::xs,0,_,j,hj=>by simp[List.flatMap_cons,List.getElem?_append_left (show j<(f x).length by rw[hf];exact hj)]
 | x::xs,i+1,h,j,hj=>by
  rw[List.flatMap_cons,List.getElem?_append_right (by rw[hf,Nat.succ_mul];omega),hf]
  have e:(i+1)*k+j - k=i*k+j:=by rw[Nat.succ_mul];omega
  rw[e,flat_get f k hf xs i (by simpa using h) j hj]
  simp
theorem flat_len {α:Type} (f:α→List Value) (k:Nat) (hf:∀x,(f x).length=k) (xs:List α):(xs.flatMap f).length=xs.length*k:=by
 induction xs with
 | nil=>simp
 | cons x xs ih=>rw[List.flatMap_cons,List.length_append,ih,hf,List.length_cons,Nat.succ_mul];omega
def preS {α:Type} (f:α→List Value) (xs:List α) (k:Nat):List Value:=(xs.take k).flatMap f
theorem preS_zero {α:Type} (f:α→List Value) (xs:List α):preS f xs 0=[]:=rfl
theorem preS_succ {α:Type} (f:α→List Value) (xs:List α) {k:Nat} (h:k<xs.length):preS f xs (k+1)=preS f xs k++f xs[k]:=by
 unfold preS;rw[List.take_succ_eq_append_getElem h,List.flatMap_append];simp
theorem preS_all {α:Type} (f:α→List Value) (xs:List α):preS f xs xs.length=xs.flatMap f:=by
 unfold preS;rw[List.take_length]
theorem own_cell {w:World} {base:Nat} {e:TypeId} {s:Nat} {g len cap n:Nat} {xs:List Value} (h:w.ownsRow base e s (.slice (some ⟨g,0,none⟩) len cap) n xs) (i:Nat) (u:Value) (hu:xs[i]? =some u):w.cell? ⟨g,i,none⟩=some u:=by
 have:=h.cells (g:=g) rfl i u hu
 have hadd:(⟨g,0,none⟩:Addr).add i=⟨g,i,none⟩:=by unfold Addr.add;split<;>simp_all
 rwa[hadd]at this
theorem own_lt {w:World} {base:Nat} {e:TypeId} {s:Nat} {g len cap n:Nat} {xs:List Value} (h:w.ownsRow base e s (.slice (some ⟨g,0,none⟩) len cap) n xs):g<w.heap.size:=by
 rcases h.2 with⟨h0,_⟩|⟨g',cap',cur,hv,_,hg,_⟩
 ·cases h0
 ·cases hv;exact(Array.getElem?_eq_some_iff.1 hg).1
theorem own_ext {w w':World} {base:Nat} {e:TypeId} {s:Nat} {v:Value} {n:Nat} {xs:List Value} (h:w.ownsRow base e s v n xs) (hE:Ext w w'):w'.ownsRow base e s v n xs:=by
 refine⟨h.1,?_⟩
 rcases h.2 with h0|⟨g,cap,cur,hv,hb,hg,hr⟩
 ·exact .inl h0
 ·exact .inr ⟨g,cap,cur,hv,hb,(hE.block g (Array.getElem?_eq_some_iff.1 hg).1).trans hg,hr⟩
theorem own_mono {w:World} {base base':Nat} {e:TypeId} {s:Nat} {v:Value} {n:Nat} {xs:List Value} (h:w.ownsRow base e s v n xs) (hb:base'≤base):w.ownsRow base' e s v n xs:=by
 refine⟨h.1,?_⟩
 rcases h.2 with h0|⟨g,cap,cur,hv,hb',hg,hr⟩
 ·exact .inl h0
 ·exact .inr ⟨g,cap,cur,hv,Qb hb hb',hg,hr⟩
theorem cell_two (w:World) (x y:Value) (e:TypeId) {b:Nat} (hb:b=w.heap.size):∀j u,([x,y]:List Value)[j]? =some u→(w.alloc (.cells #[x,y] e)).cell? ((⟨b,0,none⟩:Addr).add j)=some u:=by
 intro j u hj
 subst hb
 have hc:=(Blk.new w #[x,y] e).cell
 match j,hj with
 | 0,hj =>
  have e1:x=u:=by simpa using hj
  subst e1
  exact hc 0
 | 1,hj =>
  have e1:y=u:=by simpa using hj
  subst e1
  exact hc 1
theorem two_ints (m n:Int):∀u∈[Value.int .i64 m,Value.int .i64 n],u.oneCell'=true:=by intro u hu;simp at hu;rcases hu with rfl|rfl<;>rfl
theorem sls_of_own {α:Type} (f:α→List Value) (k:Nat) (hf:∀x,(f x).length=k) {w:World} {base:Nat} {e:TypeId} {v:Value} {xs:List α} (h:w.ownsRow base e k v xs.length (xs.flatMap f)):Sls k (AtE f) w v xs:=by
 obtain⟨a,cap,rfl⟩:=own_slice h
 refine⟨a,cap,rfl,fun i hi=> ?_⟩
 rcases h.2 with⟨e,h0⟩|⟨g,cap',cur,hv,hb,hg,_⟩
 ·rw[h0]at hi;exact absurd hi (by omega)
 ·cases hv
  refine⟨g,0,rfl,own_lt h,fun j u hu=>own_cell h _ _ ?_⟩
  have hj:j<k:=by rw[← hf xs[i]];exact(List.getElem?_eq_some_iff.1 hu).1
  rw[Nat.zero_add,flat_get f k hf xs i hi j hj];exact hu
def RowB {α:Type} (f:α→List Value) (k:Nat) (e:TypeId) (w:World) (g:Nat) (xs:List α):Prop :=
 ∃cs,Blk w g cs e∧∀i (h:i<xs.length) j u,(f xs[i])[j]? =some u→cs[i*k+j]? =some u
theorem RowB.of_own {α:Type} {f:α→List Value} {k:Nat} (hf:∀x,(f x).length=k) {w:World} {base:Nat} {e:TypeId} {g len cap:Nat} {xs:List α} (h:w.ownsRow base e k (.slice (some ⟨g,0,none⟩) len cap) xs.length (xs.flatMap f)):RowB f k e w g xs:=by
 have hc:=fun i u hu=>own_cell h i u hu
 rcases h.2 with⟨h0,_⟩|⟨g',cap',cur,hv,hb,hg,_⟩
 ·cases h0
 ·cases hv
  have hB:Blk w g _ e:=hg
  refine⟨_,hB,fun i hi j u hu=> ?_⟩
  have hj:j<k:=by rw[← hf xs[i]];exact(List.getElem?_eq_some_iff.1 hu).1
  rw[← hB.cell]
  exact hc _ _ (by rw[flat_get f k hf xs i hi j hj];exact hu)
theorem RowB.lt {α:Type} {f:α→List Value} {k:Nat} {e:TypeId} {w:World} {g:Nat} {xs:List α} (h:RowB f k e w g xs):g<w.heap.size:=by
 obtain⟨cs,hB,_⟩:=h;exact hB.lt
theorem RowB.free {α:Type} {f:α→List Value} {k:Nat} {e:TypeId} {w:World} {g:Nat} {xs:List α} (h:RowB f k e w g xs) (o:Nat):w.frozen? ⟨g,o,none⟩=false:=by
 obtain⟨cs,hB,_⟩:=h;exact hB.free o
theorem RowB.cell {α:Type} {f:α→List Value} {k:Nat} {e:TypeId} {w:World} {g:Nat} {xs:List α} (h:RowB f k e w g xs) (i:Nat) (hi:i<xs.length) (j:Nat) (u:Value) (hu:(f xs[i])[j]? =some u):w.cell? ⟨g,i*k+j,none⟩=some u:=by
 obtain⟨cs,hB,hc⟩:=h
 rw[hB.cell];exact hc i hi j u hu
theorem RowB.move {α:Type} {f:α→List Value} {k:Nat} {e:TypeId} {w w':World} {g:Nat} {xs:List α} (h:RowB f k e w g xs) (he:w'.heap[g]? =w.heap[g]?):RowB f k e w' g xs:=by
 obtain⟨cs,hB,hc⟩:=h
 exact⟨cs,he.trans hB,hc⟩
theorem RowB.ext {α:Type} {f:α→List Value} {k:Nat} {e:TypeId} {w w':World} {g:Nat} {xs:List α} (h:RowB f k e w g xs) (he:Ext w w'):RowB f k e w' g xs:=h.move (he.block g h.lt)
theorem RowB.other {α:Type} {f:α→List Value} {k:Nat} {e:TypeId} {w:World} {g:Nat} {xs:List α} (h:RowB f k e w g xs) {a:Addr} (hne:a.block≠g) (v:Value):RowB f k e (w.setCell a v) g xs:=by
 obtain⟨cs,hB,hc⟩:=h
 exact⟨cs,hB.other hne v,hc⟩
theorem RowB.sls {α:Type} {f:α→List Value} {k:Nat} {e:TypeId} {w:World} {g:Nat} {xs:List α} (h:RowB f k e w g xs) (cap:Nat):Sls k (AtE f) w (.slice (some ⟨g,0,none⟩) xs.length cap) xs :=
 ⟨_,_,rfl,fun i hi=>⟨g,0,rfl,h.lt,fun j u hu=>by rw[Nat.zero_add];exact h.cell i hi j u hu⟩⟩
def intC (n:Int):List Value:=[.int .i64 n]
abbrev IRow (w:World) (g:Nat) (xs:List Int):Prop:=RowB intC 1 3 w g xs
theorem IRow.get {w:World} {g:Nat} {xs:List Int} (h:IRow w g xs) (i:Nat) (hi:i<xs.length):w.cell? ⟨g,i,none⟩=some (.int .i64 xs[i]):=by
 have:=RowB.cell h i hi 0 (.int .i64 xs[i]) rfl
 simpa using this
theorem IRow.ints {w:World} {g:Nat} {xs:List Int} (h:IRow w g xs) {n:Nat} (hn:n=xs.length) (cap:Nat):Ints w (.slice (some ⟨g,0,none⟩) n cap) xs:=by
 subst hn
 exact⟨_,_,rfl,fun i hi=>⟨g,0,rfl,h.lt,by rw[Nat.zero_add];exact h.get i hi⟩⟩
theorem IRow.set {w:World} {g:Nat} {xs:List Int} (h:IRow w g xs) (i:Nat) (hi:i<xs.length) (n:Int):IRow (w.setCell ⟨g,i,none⟩ (.int .i64 n)) g (xs.set i n):=by
 obtain⟨cs,hB,hc⟩:=h
 refine⟨_,hB.set i _,fun k hk j u hu=> ?_⟩
 have hk':k<xs.length:=by simpa using hk
 rw[List.getElem_set]at hu
 have h1:=hc k hk' 0 (.int .i64 xs[k]) rfl
 simp only[Nat.mul_one,Nat.add_zero]at h1
 cases j with
 | succ j=>simp[intC]at hu
 | zero =>
  rw[Nat.mul_one,Nat.add_zero]
  by_cases e:i=k
  ·subst e
   rw[if_pos rfl]at hu
   obtain⟨hsz,_⟩:=Array.getElem?_eq_some_iff.1 h1
   simp[intC]at hu
   simp[Array.getElem?_setIfInBounds,hsz,hu]
  ·rw[if_neg e]at hu
   rw[Array.getElem?_setIfInBounds,if_neg e,h1]
   simpa[intC]using hu
theorem ints_flat (xs:List Int):xs.flatMap intC=xs.map (Value.int .i64):=by
 induction xs with
 | nil=>rfl
 | cons x xs ih=>rw[List.flatMap_cons,ih];rfl
theorem IRow.of_own {w:World} {base:Nat} {g len cap:Nat} {xs:List Int} (h:w.ownsRow base 3 1 (.slice (some ⟨g,0,none⟩) len cap) xs.length (xs.map (Value.int .i64))):IRow w g xs :=
 RowB.of_own (f:=intC) (fun _=>rfl) (by rw[ints_flat];exact h)
theorem own_pos {w:World} {base:Nat} {e:TypeId} {s:Nat} {v:Value} {n:Nat} {xs:List Value} (h:w.ownsRow base e s v n xs) (hn:0<n):∃g cap,v= .slice (some ⟨g,0,none⟩) n cap∧base≤g∧g<w.heap.size:=by
 cases n with
 | zero=>omega
 | succ n =>
  obtain⟨g,cap,rfl⟩:=own_succ h
  exact⟨g,cap,rfl,own_base h g rfl,own_lt h⟩
theorem intC_len (x:Int):(intC x).length=1:=rfl
theorem sls_news {α:Type} {f:α→List Value} {k:Nat} (hf:∀x,(f x).length=k) (hk:0<k) {w:World} {a:Addr} {n cap:Nat} {xs:List α} (h:Sls k (AtE f) w (.slice (some a) n cap) xs) :
  ∀j u,(xs.flatMap f)[j]? =some u→w.cell? (a.add j)=some u:=by
 obtain⟨a',cap',e,hx⟩:=h
 cases e
 intro j u hu
 have hj:j<xs.length*k:=by
  have:=(List.getElem?_eq_some_iff.1 hu).1
  rwa[flat_len f k hf]at this
 have hi:j/k<xs.length:=Nat.div_lt_of_lt_mul (by rw[Nat.mul_comm];exact hj)
 have hr:j%k<k:=Nat.mod_lt _ hk
 have hg:=flat_get f k hf xs (j/k) hi (j%k) hr
 have e:j/k*k+j%k=j:=Nat.div_add_mod' j k
 rw[e,hu]at hg
 obtain⟨b,off,e',hb,hc⟩:=hx (j/k) hi
 cases e'
 have hadd:(⟨b,off,none⟩:Addr).add j=⟨b,off+j,none⟩:=by unfold Addr.add;split<;>simp_all
 rw[hadd]
 have:=hc (j%k) u hg.symm
 rw[Nat.add_assoc,e]at this
 exact this
theorem own_empty (w:World) (e:TypeId) (k:Nat):(w.alloc (.cells #[] e)).ownsRow w.heap.size e k (.slice (some ⟨w.heap.size,0,none⟩) 0 0) 0 [] :=
 ⟨by simp,.inr ⟨w.heap.size,0,#[],rfl,Qc _,heap_alloc_new w _,Qc _,by unfold maxLen;omega,by simp,by simp⟩⟩
theorem Ints.sls {w:World} {v:Value} {xs:List Int} (h:Ints w v xs):Sls 1 (AtE intC) w v xs:=by
 obtain⟨a,cap,rfl,hx⟩:=h
 refine⟨a,cap,rfl,fun i hi=> ?_⟩
 obtain⟨b,off,rfl,hb,hc⟩:=hx i hi
 refine⟨b,off,rfl,hb,fun j u hu=> ?_⟩
 cases j with
 | zero=>simp[intC]at hu;subst hu;simpa using hc
 | succ j=>simp[intC]at hu
theorem intC_one (xs:List Int):∀u∈xs.flatMap intC,u.oneCell'=true:=by
 intro u hu
 obtain⟨x,_,hx⟩:=List.mem_flatMap.1 hu
 simp only[intC,List.mem_cons,List.not_mem_nil,or_false]at hx
 subst hx;rfl
theorem sls_none {α:Type} {k:Nat} {At:World→Nat→Nat→α→Prop} {w:World} {n cap:Nat} {xs:List α} (h:Sls k At w (.slice none n cap) xs):xs=[]:=by
 obtain⟨a,c,e,hx⟩:=h
 cases e
 cases xs with
 | nil=>rfl
 | cons x xs=>obtain⟨b,off,h,_⟩:=hx 0 (by simp);cases h
structure Off (g:Nat) (w w':World):Prop where
 os:w'.os=w.os
 tape:w'.tape=w.tape
 output:w'.output=w.output
 size:w.heap.size≤w'.heap.size
 block:∀k,k<w.heap.size→k≠g→w'.heap[k]? =w.heap[k]?
theorem Off.refl (g:Nat) (w:World):Off g w w:=⟨rfl,rfl,rfl,Qc _,fun _ _ _=>rfl⟩
theorem Off.trans {g:Nat} {x y z:World} (h:Off g x y) (k:Off g y z):Off g x z :=
 ⟨k.os.trans h.os,k.tape.trans h.tape,k.output.trans h.output,Qb h.size k.size,fun i hi h1=>(k.block i (Qa hi h.size) h1).trans (h.block i hi h1)⟩
theorem Ext.off {w w':World} (h:Ext w w') (g:Nat):Off g w w':=⟨h.os,h.tape,h.output,h.size,fun k hk _=>h.block k hk⟩
theorem Off.ext {g:Nat} {x y z:World} (h:Off g x y) (k:Ext y z):Off g x z:=h.trans (k.off g)
theorem Off.set {g:Nat} {x y:World} (h:Off g x y) {a:Addr} (ha:a.block=g∨x.heap.size≤a.block) (v:Value):Off g x (y.setCell a v):=by
 refine⟨h.os,h.tape,h.output,by rw[size_setCell];exact h.size,fun i hi h1=> ?_⟩
 rw[Below.heap_setCell _ _ _ _ (by rintro rfl;rcases ha with e|e<;>omega)]
 exact h.block i hi h1
theorem Off.ext0 {g:Nat} {w0 w w':World} (h:Off g w w') (h0:Ext w0 w) (hg:w0.heap.size≤g):Ext w0 w' :=
 ⟨h.os.trans h0.os,h.tape.trans h0.tape,h.output.trans h0.output,Qb h0.size h.size,fun k hk=>(h.block k (Qa hk h0.size) (by omega)).trans (h0.block k hk)⟩
theorem Blk.off {g c:Nat} {w w':World} {cs:Array Value} {e:TypeId} (h:Blk w c cs e) (ho:Off g w w') (h1:c≠g):Blk w' c cs e:=(ho.block c h.lt h1).trans h
theorem Blk.kept {A B:World} {row:Option Nat} {b:Nat} {cs:Array Value} {e:TypeId} (h:Blk A b cs e) (hg:A.grownBy B row) (hr:∀r,row=some r→∃o:Obj,A.heap[r]? =some o∧o.isCells=false):Blk B b cs e :=
 (hg.block b h.lt (fun e'=>by obtain⟨o,ho,hc⟩:=hr b e'.symm;rw[show A.heap[b]? =_ from h]at ho;cases ho;cases hc)).trans h
theorem own_move {w w':World} {base:Nat} {e:TypeId} {s:Nat} {v:Value} {n:Nat} {xs:List Value} (h:w.ownsRow base e s v n xs) (hm:∀(g:Nat) (cur:Array Value),base≤g→w.heap[g]? =some (.cells cur e (0,0))→w'.heap[g]? =w.heap[g]?):w'.ownsRow base e s v n xs:=by
 refine⟨h.1,?_⟩
 rcases h.2 with h0|⟨g,cap,cur,hv,hb,hg,hr⟩
 ·exact .inl h0
 ·exact .inr ⟨g,cap,cur,hv,hb,(hm g cur hb hg).trans hg,hr⟩
theorem own_kept {A B:World} {row:Option Nat} {base:Nat} {e:TypeId} {s:Nat} {v:Value} {n:Nat} {xs:List Value} (h:A.ownsRow base e s v n xs) (hg:A.grownBy B row) (hr:∀r,row=some r→∃o:Obj,A.heap[r]? =some o∧o.isCells=false):B.ownsRow base e s v n xs :=
 own_move h fun g cur _ hg0=>hg.block g (Array.getElem?_eq_some_iff.1 hg0).1 (fun e'=>by obtain⟨o,ho,hc⟩:=hr g e'.symm;rw[hg0]at ho;cases ho;cases hc)
theorem own_off {A B:World} {br:Nat} {base:Nat} {e:TypeId} {s:Nat} {v:Value} {n:Nat} {xs:List Value} (h:A.ownsRow base e s v n xs) (ho:Off br A B) (hb:br<base):B.ownsRow base e s v n xs :=
 own_move h fun g cur hg hg0=>ho.block g (Array.getElem?_eq_some_iff.1 hg0).1 (by omega)
theorem off_rec {br B:Nat} (hb:br<B):∀(A Y:World) d o,Off br A Y→B≤d→A.heap[d]? =some o→Y.heap[d]? =some o:=fun _ _ d _ ho hd h=>(ho.block d (Array.getElem?_eq_some_iff.1 h).1 (by omega)).trans h
theorem own_cells {w:World} {base:Nat} {e:TypeId} {s:Nat} {v:Value} {n:Nat} {xs:List Value} (h:w.ownsRow base e s v n xs):∀j o,v.ownBlock=some j→w.heap[j]? =some o→o.isCells=true:=by
 intro j o hj ho
 rcases h.2 with⟨rfl,_⟩|⟨g,cap,cur,rfl,_,hg,_⟩
 ·cases hj
 ·have e1:g=j:=by simpa[Value.ownBlock]using hj
  subst e1
  rw[hg]at ho
  cases ho;rfl
end Go.Proofs.YtgloajbgphcloaaGreat
