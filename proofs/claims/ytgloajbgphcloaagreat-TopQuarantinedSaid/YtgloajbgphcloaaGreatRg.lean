/- The range over a function that has a state of its own in memory, and may be left by a panic: laws of the loop. A range over a function in a frame of a function that the program has: its rounds may panic. The range over a function whose rounds are handed memory that was made for them: the law of the loop. Loops in whose rounds a range over a function stands: its marks among the deferred calls. -/
import Derived.Test.YtgloajbgphcloaaGreatDr
import Derived.RangeFuncNested
import Derived.RangeFuncLeaves
import Derived.RangeFuncFrom
import Derived.Test.YtgloajbgphcloaaGreatCo
import Derived.LoopNIn
import Derived.LoopIn
namespace Go.Proofs.YtgloajbgphcloaaGreat
set_option linter.unusedVariables false
set_option linter.unusedSimpArgs false
open Go.RowKit
open Nat renaming le_refl → Qa
section
variable {F:Fence} {n:Nat} {P:Program}
def roundPostP (P:Program) (l:Nat) (R:Ending→World→Prop):Exit→Act→World→Prop
 | .panic ch,a,w=>a.defers=[]∧R (.panicked ch) w
 | e,a,w=>roundPost P l R e a w
theorem roundIn_of {l:Nat} {f:FuncId} {tmps:Array Value} {assign body:Code} {w:World} {R:Ending→World→Prop} (hF:F.fn f) (hp:(∃ fn,P.funcs[f]? =some fn)∨∀ch w,¬R (.panicked ch) w)
  (h:assign.wpIn (F.inRound l) n P (Exit.then (fun a₁ w₁=>∃w₂,(Instr.beginRound l).run P w₁= .ok () w₂∧body.wpIn (F.inRound l) n P (roundPostP P l R) a₁ w₂) (fun _ _ _=>False))
   { tmps:=tmps,defers:=[] } w):RoundIn F n P l f tmps assign body w R:=by
 refine⟨hF,fun c cs hr=> ?_⟩
 let b:Frame:= { (default:Frame)with fn:=f,kind:= .normal,roundOf:=some l }
 have hb0:Frame.round l f tmps assign body .normal=b.atR { tmps:=tmps,defers:=[] } [.code assign,.beginRound,.code body]:=by
  simp[Frame.round,Frame.atR,b]
 have hr':(F.inRound l).room ((c::cs).length+1+n):=hr
 have hF':(F.inRound l).fn b.fn:=hF
 obtain⟨e,a₁,w₁,hq,harr⟩:=h b [.beginRound,.code body] (c::cs) rfl hF' hr'
 rw[← hb0]at harr
 cases e with
 | normal =>
  obtain⟨w₂,hbr,hbody⟩:=hq
  have s1:StepsIn (Machine.fenced P (F.inRound l)) P (lone (b.atR a₁ [.beginRound,.code body]) (c::cs) w₁) (lone (b.atR a₁ [.code body]) (c::cs) w₂) :=
   .one (fenced_calm (fr:=b.atR a₁ [.beginRound,.code body]) hF' hr' rfl) (stepR_beginRound rfl hbr)
  obtain⟨e₂,a₂,w₃,hq₂,harr₂⟩:=hbody b [] (c::cs) rfl hF' hr'
  cases e₂ with
  | normal =>
   obtain⟨v,w₄,hend,hR⟩:=hq₂
   exact⟨.returned v,w₄,hR,(StepsIn.trans harr s1).trans (StepsIn.trans harr₂ (.one (fenced_calm (fr:=b.atR a₂ []) hF' hr' rfl) (stepR_round_end rfl rfl hend)))⟩
  | ret =>
   obtain⟨v,w₄,hend,hR⟩:=hq₂
   obtain⟨k₁,hs⟩:=harr₂.2 rfl
   exact⟨.returned v,w₄,hR,(StepsIn.trans harr s1).trans (StepsIn.trans hs (.one (fenced_calm (fr:=b.atR a₂ (.code .ret::k₁)) hF' hr' rfl) (stepR_round_ret rfl rfl hend)))⟩
  | exit id =>
   obtain⟨v,w₄,hend,hR⟩:=hq₂
   obtain⟨k₁,hk,hs⟩:=harr₂.2 rfl rfl
   exact⟨.returned v,w₄,hR,(StepsIn.trans harr s1).trans (StepsIn.trans hs (.one (fenced_calm (fr:=b.atR a₂ (.code (.exit id)::k₁)) hF' hr' rfl) (stepR_round_exit rfl rfl hk hend)))⟩
  | goto t =>
   obtain⟨v,w₄,hend,hR⟩:=hq₂
   obtain⟨k₁,hk,hs⟩:=harr₂.2 rfl rfl
   exact⟨.returned v,w₄,hR,(StepsIn.trans harr s1).trans (StepsIn.trans hs (.one (fenced_calm (fr:=b.atR a₂ (.code (.goto t)::k₁)) hF' hr' rfl) (stepR_round_goto rfl rfl hk hend)))⟩
  | panic chain =>
   obtain⟨hd,hR⟩:=hq₂
   rcases hp with hp|hp
   ·obtain⟨todo,hs⟩:=harr₂
    have hl:Frame.leaving P { b.atR a₂ todo with mode:= .panicking chain } w₃ (.panicked chain):=⟨rfl,hd,hp⟩
    exact⟨.panicked chain,w₃,hR,(StepsIn.trans harr s1).trans (StepsIn.trans hs (.one (fenced_leaving (fr:= { b.atR a₂ todo with mode:= .panicking chain }) hF' hr' hl) (step_leave_panicked hl)))⟩
   ·exact(hp _ _ hR).elim
  | outgrown=>exact hq₂.elim
 | exit id=>exact hq.elim
 | goto t=>exact hq.elim
 | ret=>exact hq.elim
 | panic chain=>exact hq.elim
 | outgrown=>exact hq.elim
def ownPost (B k:Nat) (I At:Nat→World→Prop) (Ix:Code→World→Prop) (Ip:List PanicEntry→World→Prop) (W:World):Exit→Act→World→Prop
 | .normal,_,W'=>KeepsFrom B W W'∧At (k+1) W'∧I (k+1) W'
 | .ret,_,W'=>KeepsFrom B W W'∧Ix .ret W'
 | .exit id,_,W'=>KeepsFrom B W W'∧Ix (.exit id) W'
 | .goto t,_,W'=>KeepsFrom B W W'∧Ix (.goto t) W'
 | .panic ch,a,W'=>a.defers=[]∧KeepsFrom B W W'∧Ip ch W'
 | .outgrown,_,_=>False
def KeepsBut (B l:Nat) (W W':World):Prop:=∀d o,B≤d→d≠l→W.heap[d]? =some o→o.isCells=false→W'.heap[d]? =some o
theorem own_round {l B dd:Nat} {fn:FuncId} {tmps:Array Value} {ps:Array Tmp} {assign body:Code} (hfn:F.fn fn) (hBl:B≤l) (I At:Nat→World→Prop) (Ix:Code→World→Prop) (Ip:List PanicEntry→World→Prop)
  (hI:OwnFrom B I) (hAt:OwnFrom B At) (hIx:OwnFrom B Ix) (hp:(∃ f,P.funcs[fn]? =some f)∨∀ch w,¬Ip ch w) (Ax:Act→World→Prop) (hAx:OwnFrom B Ax) (k:Nat) (W:World) (e:Array Value) (hps:e.size=ps.size) (hIk:I k W) (hAk:At (k+1) W)
  (hl:W.heap[l]? =some (.loop { state:= .ready,pending:=none,fn,tmps,params:=ps,assign,body,defers:=dd }))
  (hassign:∀K:Act→World→Prop,(∀ a' W',KeepsFrom B W W'→I k W'→At (k+1) W'→Ax a' W'→K a' W')→assign.wpIn (F.inRound l) n P (Exit.then K (fun _ _ _=>False)) { tmps:=(ps.zip e).foldl (fun t (p,v)=>t.setIfInBounds p v) tmps,defers:=[] } W)
  (hbody:∀a' W',(∃ r,W'.heap[l]? =some (.loop r))→I k W'→At (k+1) W'→Ax a' W'→body.wpIn (F.inRound l) n P (ownPost B k I At Ix Ip W') a' W') :
  YieldAt F n P l e W fun e' W' =>
   (e'= .returned (.bool true)∧I (k+1) W'∧At (k+1) W'∧W'.heap[l]? =some (.loop { state:= .ready,pending:=none,fn,tmps,params:=ps,assign,body,defers:=dd })∧KeepsBut B l W W') ∨
   (e'= .returned (.bool false)∧∃c,Ix c W'∧W'.heap[l]? =some (.loop { state:= .done,pending:=some c,fn,tmps,params:=ps,assign,body,defers:=dd })∧KeepsBut B l W W') ∨
   (∃ ch,e'= .panicked ch∧Ip ch W'∧KeepsBut B l W W'):=by
 obtain⟨rec,hrec⟩:∃rec:LoopState→Option Code→Loop,rec=fun st pe=> { state:=st,pending:=pe,fn,tmps,params:=ps,assign,body,defers:=dd } :=⟨_,rfl⟩
 have hl':W.heap[l]? =some (.loop (rec .ready none)):=by rw[hrec];exact hl
 have hy:=run_yield (P:=P) (args:=e) hl' (by rw[hrec];exact hps)
 rw[hrec]at hy
 refine⟨fn,_,assign,body,hy,roundIn_of hfn ?_ (hassign _ ?_)⟩
 ·rcases hp with hp|hp
  ·exact .inl hp
  ·exact .inr fun ch w h=>by
    rcases h with h|h|⟨ch',h,h2,_⟩
    ·cases h.1
    ·cases h.1
    ·exact hp _ _ h2
 clear hy
 intro a' Wa hkfa hia haa hax
 have hla:=hkfa.same _ _ hBl hl' rfl
 have hlt:l<Wa.heap.size:=(Array.getElem?_eq_some_iff.1 hla).1
 refine⟨_,run_beginRound hla (by rw[hrec]),?_⟩
 have hl2:(Wa.putObj l (.loop { rec .ready none with state:= .busy })).heap[l]? =some (.loop { rec .ready none with state:= .busy }):=World.putObj_heap_same hlt
 refine wpIn_mono (hbody a' _ ⟨_,hl2⟩ (hI.putObj _ hia hBl hla rfl) (hAt.putObj _ haa hBl hla rfl) (hAx.putObj _ hax hBl hla rfl)) ?_
 have fin:∀(jump:Option Code) (W3:World),KeepsFrom B (Wa.putObj l (.loop { rec .ready none with state:= .busy })) W3 →
   (Instr.endRound l jump).run P W3= .ok (.bool jump.isNone) (W3.putObj l (.loop (rec (if jump.isNone then .ready else .done) jump))) ∧
   W3.heap[l]? =some (.loop { rec .ready none with state:= .busy }) ∧
   (W3.putObj l (.loop (rec (if jump.isNone then .ready else .done) jump))).heap[l]? =some (.loop (rec (if jump.isNone then .ready else .done) jump)) ∧
   KeepsBut B l W (W3.putObj l (.loop (rec (if jump.isNone then .ready else .done) jump))):=fun jump W3 hk3=>by
  have hl3:=hk3.same _ _ hBl hl2 rfl
  have hr:=run_endRound (P:=P) jump hl3
  rw[hrec]at hr ⊢
  refine⟨hr,by rw[hrec]at hl3;exact hl3,World.putObj_heap_same (Array.getElem?_eq_some_iff.1 hl3).1,fun d o hd hne ho hc=> ?_⟩
  have h1:(Wa.putObj l (.loop { rec .ready none with state:= .busy })).heap[d]? =some o:=(World.putObj_heap_other (fun h=>hne h)).trans (hkfa.same _ _ hd ho hc)
  exact(World.putObj_heap_other (fun h=>hne h)).trans (hk3.same _ _ hd h1 hc)
 have e1:∀x y,(rec x y)= { state:=x,pending:=y,fn,tmps,params:=ps,assign,body,defers:=dd } :=fun _ _=>by rw[hrec]
 rintro ex a3 W3 hp3
 cases ex with
 | normal =>
  obtain⟨hk3,ha3,hi3⟩:=hp3
  obtain⟨hr,hl3,hl4,hk4⟩:=fin none W3 hk3
  exact⟨_,_,hr,.inl ⟨rfl,hI.putObj _ hi3 hBl hl3 rfl,hAt.putObj _ ha3 hBl hl3 rfl,by rw[← e1];exact hl4,hk4⟩⟩
 | ret =>
  obtain⟨hk3,hi3⟩:=hp3
  obtain⟨hr,hl3,hl4,hk4⟩:=fin (some .ret) W3 hk3
  exact⟨_,_,hr,.inr (.inl ⟨rfl,.ret,hIx.putObj _ hi3 hBl hl3 rfl,by rw[← e1];exact hl4,hk4⟩)⟩
 | exit id =>
  obtain⟨hk3,hi3⟩:=hp3
  obtain⟨hr,hl3,hl4,hk4⟩:=fin (some (.exit id)) W3 hk3
  exact⟨_,_,hr,.inr (.inl ⟨rfl,.exit id,hIx.putObj _ hi3 hBl hl3 rfl,by rw[← e1];exact hl4,hk4⟩)⟩
 | goto t =>
  obtain⟨hk3,hi3⟩:=hp3
  obtain⟨hr,hl3,hl4,hk4⟩:=fin (some (.goto t)) W3 hk3
  exact⟨_,_,hr,.inr (.inl ⟨rfl,.goto t,hIx.putObj _ hi3 hBl hl3 rfl,by rw[← e1];exact hl4,hk4⟩)⟩
 | panic ch =>
  obtain⟨hd,hk3,hi3⟩:=hp3
  refine⟨hd,.inr (.inr ⟨ch,rfl,hi3,fun d o hd hne ho hc=> ?_⟩)⟩
  have h1:(Wa.putObj l (.loop { rec .ready none with state:= .busy })).heap[d]? =some o:=(World.putObj_heap_other (fun h=>hne h)).trans (hkfa.same _ _ hd ho hc)
  exact hk3.same _ _ hd h1 hc
 | outgrown=>exact hp3.elim
def SeqOwn (F:Fence) (n:Nat) (P:Program) (gf:Nat) (fst:Array Value) (encs:Nat→Array Value) (Rel:World→World→Prop) (At:Nat→World→Prop) (N:Nat) (w:World):Prop :=
 ∀(l:Nat) (J:Nat→World→Prop) (Jx:World→Prop) (Jp:List PanicEntry→World→Prop) (W:World),Ext w W →
  (∀ k A B,J k A→Rel A B→J k B) →
  (∀ k W1,k<N→J k W1→At (k+1) W1→YieldAt F (n - 1) P l (encs k) W1 fun e W' =>
   (e= .returned (.bool true)∧J (k+1) W'∧At (k+1) W')∨(e= .returned (.bool false)∧Jx W')∨∃ch,e= .panicked ch∧Jp ch W') →
  J 0 W→At 0 W →
  CallsIn F n P gf (fst++#[.func (.yield l) #[] #[]]) W fun e W'=>((∃ v,e= .returned v)∧((J N W'∧At N W')∨Jx W'))∨∃ch,e= .panicked ch∧Jp ch W'
abbrev marked (a:Act) (D:Nat):Act:= { a with defers:= { target:= .collected D,args:=#[] } ::a.defers }
theorem wpIn_range_own {g:Operand} {ps:Array Tmp} {assign body:Code} {Q:Exit→Act→World→Prop} {a:Act} {w:World}
  (hro:F.round=none) (h1:1≤n) {gf:Nat} {fst:Array Value} (hg:a.eval g= .func (.func gf) fst #[]) (hFg:F.fn gf) (eg:∀args w,(callFunc gf args).run P w= .ok (.enter gf args) w)
  {encs:Nat→Array Value} {Rel:World→World→Prop} {At:Nat→World→Prop} {N:Nat} (hseq:SeqOwn F (n - 1) P gf fst encs Rel At N w) (hps:∀k,(encs k).size=ps.size)
  (hRel:∀A B d o,Rel A B→w.heap.size≤d→A.heap[d]? =some o→B.heap[d]? =some o) (hAt:OwnFrom w.heap.size At) (hA0:At 0 w)
  (I:Nat→World→Prop) (Ix:Code→World→Prop) (hI:OwnFrom w.heap.size I) (hIx:OwnFrom w.heap.size Ix) (hIR:∀k A B,I k A→Rel A B→I k B) (h0:I 0 w)
  (Ax:Nat→Act→World→Prop) (hAx:∀k,OwnFrom w.heap.size (Ax k))
  (hassign:∀(l k:Nat) (W:World) (K:Act→World→Prop),k<N→I k W→At (k+1) W→(∀ a' W',KeepsFrom w.heap.size W W'→I k W'→At (k+1) W'→Ax k a' W'→K a' W') →
   assign.wpIn (F.inRound l) (n - 1 - 1) P (Exit.then K (fun _ _ _=>False)) { tmps:=(ps.zip (encs k)).foldl (fun t (p,v)=>t.setIfInBounds p v) a.tmps,defers:=[] } W)
  (hbody:∀(l k:Nat) (a':Act) (W:World),w.heap.size≤l→(∃ r,W.heap[l]? =some (.loop r))→k<N→I k W→At (k+1) W→Ax k a' W→body.wpIn (F.inRound l) (n - 1 - 1) P (ownPost w.heap.size k I At Ix (fun _ _=>False) W) a' W)
  (hdone:∀(D:Nat) (W:World),w.heap.size≤D→I N W→At N W→W.heap[D]? =some (.deferred (some []))→Q .normal (marked a D) W)
  (hstop:∀(D:Nat) (c:Code) (W:World),w.heap.size≤D→Ix c W→W.heap[D]? =some (.deferred (some []))→c.wpIn F n P Q (marked a D) W) :
  (Code.rangeFunc g ps assign body).wpIn F n P Q a w:=by
 refine wpIn_rangeFunc ?_
 intro fn hfn
 rw[hro]
 obtain⟨rec,hrec⟩:∃rec:LoopState→Option Code→Loop,rec=fun st pe=> { state:=st,pending:=pe,fn,tmps:=a.tmps,params:=ps,assign,body,defers:=w.heap.size } :=⟨_,rfl⟩
 obtain⟨W1,hW1⟩:∃W1,(w.alloc (.deferred (some []))).alloc (.loop (rec .ready none))=W1:=⟨_,rfl⟩
 have hL1:W1.heap[w.heap.size+1]? =some (.loop (rec .ready none)):=by
  rw[← hW1];have:=World.alloc_heap_new (w.alloc (.deferred (some []))) (.loop (rec .ready none));rwa[World.size_alloc]at this
 have hK1:W1.heap[w.heap.size]? =some (.deferred (some [])):=by
  rw[← hW1];exact(Below.heap_alloc _ _ _ (by simp)).trans (World.alloc_heap_new w _)
 have hI1:I 0 W1:=by rw[← hW1];exact hI.alloc _ (hI.alloc _ h0)
 have hA1:At 0 W1:=by rw[← hW1];exact hAt.alloc _ (hAt.alloc _ hA0)
 have hE1:Ext w W1:=by rw[← hW1];exact((Ext.refl w).alloc _).alloc _
 refine⟨w.heap.size+1,[{ target:= .collected w.heap.size,args:=#[] }],W1,{ target:= .fn (.func gf) #[],args:=fst++#[.func (.yield (w.heap.size+1)) #[] #[]] },W1,gf,
  fst++#[.func (.yield (w.heap.size+1)) #[] #[]],W1,?_,?_,?_,?_,fun _=>h1,?_⟩
 ·rw[← hW1,hrec];exact run_enterLoop_outer _ _ _ _ _
 ·simp only[resolve,hg]
  simp[go_sem]
 ·intro f' hf';simp[Target.leads]at hf';subst hf';exact hFg
 ·simp[invoke,go_sem,eg]
 ·refine(hseq (w.heap.size+1)
   (fun k W=>I k W∧W.heap[w.heap.size+1]? =some (.loop (rec .ready none))∧W.heap[w.heap.size]? =some (.deferred (some [])))
   (fun W=>∃c,Ix c W∧W.heap[w.heap.size+1]? =some (.loop (rec .done (some c)))∧W.heap[w.heap.size]? =some (.deferred (some [])))
   (fun _ _=>False) W1 hE1
   (fun k A B hs hr=>⟨hIR k A B hs.1 hr,hRel _ _ _ _ hr (by omega) hs.2.1,hRel _ _ _ _ hr (Qa _) hs.2.2⟩) ?_ ⟨hI1,hL1,hK1⟩ hA1).mono ?_
  ·rintro k W hk ⟨hi,hl,hd⟩ hat
   have hr:=own_round (F:=F) (n:=n - 1 - 1) (P:=P) (B:=w.heap.size) hfn (by omega:w.heap.size≤w.heap.size+1) I At Ix (fun _ _=>False) hI hAt hIx (.inr fun _ _ h=>h) (Ax k) (hAx k) k W (encs k) (hps k) hi hat (by rw[hrec]at hl;exact hl)
    (fun K hK=>hassign _ k W K hk hi hat hK) (fun a' W' hrc hi' ha' hx'=>hbody _ k a' W' (by omega) hrc hk hi' ha' hx')
   obtain⟨f0,t0,as0,b0,hy,hR⟩:=hr
   refine⟨f0,t0,as0,b0,hy,hR.mono ?_⟩
   rintro e W' (⟨rfl,h1,h2,h3,h4⟩|⟨rfl,c,h1,h2,h3⟩|⟨ch,rfl,h1,_⟩)
   ·exact .inl ⟨rfl,⟨h1,by rw[hrec];exact h3,h4 _ _ (Qa _) (by omega) hd rfl⟩,h2⟩
   ·exact .inr (.inl ⟨rfl,c,h1,by rw[hrec];exact h2,h3 _ _ (Qa _) (by omega) hd rfl⟩)
   ·exact h1.elim
  ·rintro e W2 (⟨⟨v,rfl⟩,(⟨⟨hi,hl,hk⟩,hat⟩|⟨c,hi,hl,hk⟩)⟩|⟨ch,rfl,hf⟩)
   ·exact⟨none,_,by have:=run_endLoop (P:=P) hl (by rw[hrec];simp);rw[hrec]at this;exact this,hdone _ _ (Qa _) (hI.putObj _ hi (by omega) hl rfl) (hAt.putObj _ hat (by omega) hl rfl) ((World.putObj_heap_other (by omega)).trans hk)⟩
   ·exact⟨some c,_,by have:=run_endLoop (P:=P) hl (by rw[hrec];simp);rw[hrec]at this;exact this,hstop _ c _ (Qa _) (hIx.putObj _ hi (by omega) hl rfl) ((World.putObj_heap_other (by omega)).trans hk)⟩
   ·exact hf.elim
theorem wpIn_range_ownN {g:Operand} {ps:Array Tmp} {assign body:Code} {Q:Exit→Act→World→Prop} {a:Act} {w:World} {l₀:Nat} {r₀:Loop}
  (hro:F.round=some l₀) (hl₀:w.heap[l₀]? =some (.loop r₀)) (h1:1≤n) {gf:Nat} {fst:Array Value} (hg:a.eval g= .func (.func gf) fst #[]) (hFg:F.fn gf) (eg:∀args w,(callFunc gf args).run P w= .ok (.enter gf args) w)
  {encs:Nat→Array Value} {Rel:World→World→Prop} {At:Nat→World→Prop} {N:Nat} (hseq:SeqOwn F (n - 1) P gf fst encs Rel At N w) (hps:∀k,(encs k).size=ps.size)
  (hRel:∀A B d o,Rel A B→w.heap.size≤d→A.heap[d]? =some o→B.heap[d]? =some o) (hAt:OwnFrom w.heap.size At) (hA0:At 0 w)
  (I:Nat→World→Prop) (Ix:Code→World→Prop) (hI:OwnFrom w.heap.size I) (hIx:OwnFrom w.heap.size Ix) (hIR:∀k A B,I k A→Rel A B→I k B) (h0:I 0 w)
  (Ax:Nat→Act→World→Prop) (hAx:∀k,OwnFrom w.heap.size (Ax k))
  (hassign:∀(l k:Nat) (W:World) (K:Act→World→Prop),k<N→I k W→At (k+1) W→(∀ a' W',KeepsFrom w.heap.size W W'→I k W'→At (k+1) W'→Ax k a' W'→K a' W') →
   assign.wpIn (F.inRound l) (n - 1 - 1) P (Exit.then K (fun _ _ _=>False)) { tmps:=(ps.zip (encs k)).foldl (fun t (p,v)=>t.setIfInBounds p v) a.tmps,defers:=[] } W)
  (hbody:∀(l k:Nat) (a':Act) (W:World),w.heap.size≤l→(∃ r,W.heap[l]? =some (.loop r))→k<N→I k W→At (k+1) W→Ax k a' W→body.wpIn (F.inRound l) (n - 1 - 1) P (ownPost w.heap.size k I At Ix (fun _ _=>False) W) a' W)
  (hdone:∀(W:World),I N W→At N W→Q .normal a W)
  (hstop:∀(c:Code) (W:World),Ix c W→c.wpIn F n P Q a W) :
  (Code.rangeFunc g ps assign body).wpIn F n P Q a w:=by
 refine wpIn_rangeFunc ?_
 intro fn hfn
 rw[hro]
 obtain⟨rec,hrec⟩:∃rec:LoopState→Option Code→Loop,rec=fun st pe=> { state:=st,pending:=pe,fn,tmps:=a.tmps,params:=ps,assign,body,defers:=r₀.defers } :=⟨_,rfl⟩
 obtain⟨W1,hW1⟩:∃W1,w.alloc (.loop (rec .ready none))=W1:=⟨_,rfl⟩
 have hL1:W1.heap[w.heap.size]? =some (.loop (rec .ready none)):=by rw[← hW1];exact World.alloc_heap_new w _
 have hI1:I 0 W1:=by rw[← hW1];exact hI.alloc _ h0
 have hA1:At 0 W1:=by rw[← hW1];exact hAt.alloc _ hA0
 have hE1:Ext w W1:=by rw[← hW1];exact(Ext.refl w).alloc _
 refine⟨w.heap.size,[],W1,{ target:= .fn (.func gf) #[],args:=fst++#[.func (.yield w.heap.size) #[] #[]] },W1,gf,
  fst++#[.func (.yield w.heap.size) #[] #[]],W1,?_,?_,?_,?_,fun _=>h1,?_⟩
 ·rw[← hW1,hrec];exact run_enterLoop_inner hl₀ _ _ _ _ _
 ·simp only[resolve,hg]
  simp[go_sem]
 ·intro f' hf';simp[Target.leads]at hf';subst hf';exact hFg
 ·simp[invoke,go_sem,eg]
 ·refine(hseq w.heap.size
   (fun k W=>I k W∧W.heap[w.heap.size]? =some (.loop (rec .ready none)))
   (fun W=>∃c,Ix c W∧W.heap[w.heap.size]? =some (.loop (rec .done (some c))))
   (fun _ _=>False) W1 hE1
   (fun k A B hs hr=>⟨hIR k A B hs.1 hr,hRel _ _ _ _ hr (Qa _) hs.2⟩) ?_ ⟨hI1,hL1⟩ hA1).mono ?_
  ·rintro k W hk ⟨hi,hl⟩ hat
   have hr:=own_round (F:=F) (n:=n - 1 - 1) (P:=P) (B:=w.heap.size) hfn (Qa _) I At Ix (fun _ _=>False) hI hAt hIx (.inr fun _ _ h=>h) (Ax k) (hAx k) k W (encs k) (hps k) hi hat (by rw[hrec]at hl;exact hl)
    (fun K hK=>hassign _ k W K hk hi hat hK) (fun a' W' hrc hi' ha' hx'=>hbody _ k a' W' (Qa _) hrc hk hi' ha' hx')
   obtain⟨f0,t0,as0,b0,hy,hR⟩:=hr
   refine⟨f0,t0,as0,b0,hy,hR.mono ?_⟩
   rintro e W' (⟨rfl,h1,h2,h3,h4⟩|⟨rfl,c,h1,h2,h3⟩|⟨ch,rfl,h1,_⟩)
   ·exact .inl ⟨rfl,⟨h1,by rw[hrec];exact h3⟩,h2⟩
   ·exact .inr (.inl ⟨rfl,c,h1,by rw[hrec];exact h2⟩)
   ·exact h1.elim
  ·rintro e W2 (⟨⟨v,rfl⟩,(⟨⟨hi,hl⟩,hat⟩|⟨c,hi,hl⟩)⟩|⟨ch,rfl,hf⟩)
   ·exact⟨none,_,by have:=run_endLoop (P:=P) hl (by rw[hrec];simp);rw[hrec]at this;exact this,hdone _ (hI.putObj _ hi (Qa _) hl rfl) (hAt.putObj _ hat (Qa _) hl rfl)⟩
   ·exact⟨some c,_,by have:=run_endLoop (P:=P) hl (by rw[hrec];simp);rw[hrec]at this;exact this,hstop c _ (hIx.putObj _ hi (Qa _) hl rfl)⟩
   ·exact hf.elim
end
end Go.Proofs.YtgloajbgphcloaaGreat
namespace Go.Proofs.YtgloajbgphcloaaGreat
set_option linter.unusedVariables false
set_option linter.unusedSimpArgs false
open Go.RowKit
open Nat renaming le_refl → Qa
section
variable {n:Nat} {P:Program} {Q:Exit→Act→World→Prop} {a:Act} {w:World}
def wpAt (P:Program) (c:Code) (Q:Exit→Act→World→Prop) (a:Act) (w:World):Prop :=
 ∀(b:Frame) (k:List Item) (cs:List Frame),b.roundOf=none→(∃ fn,P.funcs[b.fn]? =some fn) →
  ∃e a' w',Q e a' w'∧ArrivesIn (Machine.fenced P Fence.wide) P (lone (b.atR a (.code c::k)) cs w) b k cs e a' w'
theorem wpAt_of {c:Code} (h:c.wpIn Fence.wide n P Q a w):wpAt P c Q a w:=fun b k cs hro _=>h b k cs hro trivial (room_wide _)
theorem calm {fr:Frame} {cs:List Frame} (ha:fr.about P w=none):(lone fr cs w).fenced P Fence.wide:=fenced_calm (n:=0) trivial (room_wide _) ha
theorem wpAt_seq {x y:Code} (h:x.wpIn Fence.wide n P (Exit.then (wpAt P y Q) Q) a w):wpAt P (Code.seq x y) Q a w:=by
 intro b k cs hro hb
 have h0:(lone (b.atR a (.code (.seq x y)::k)) cs w).fenced P Fence.wide:=calm rfl
 obtain⟨e,a₁,w₁,hq,harr⟩:=h b (.code y::k) cs hro trivial (room_wide _)
 cases e with
 | normal =>
  obtain⟨e₂,a₂,w₂,hq₂,harr₂⟩:=hq b k cs hro hb
  exact⟨e₂,a₂,w₂,hq₂,.of_steps (.head h0 stepR_seq harr) harr₂⟩
 | exit id=>exact⟨_,a₁,w₁,hq,.of_steps (.one h0 stepR_seq) (.pass (x:= .code y) rfl (fun _ _=> .inl (by simp)) harr)⟩
 | goto l=>exact⟨_,a₁,w₁,hq,.of_steps (.one h0 stepR_seq) (.pass (x:= .code y) rfl (fun _ _=> .inl (by simp)) harr)⟩
 | ret=>exact⟨_,a₁,w₁,hq,.of_steps (.one h0 stepR_seq) (.pass (x:= .code y) rfl (fun _ _=> .inl (by simp)) harr)⟩
 | panic ch=>exact⟨_,a₁,w₁,hq,.of_steps (.one h0 stepR_seq) (.pass (x:= .code y) rfl (fun _ _=> .inl (by simp)) harr)⟩
 | outgrown=>exact⟨_,a₁,w₁,hq,.of_steps (.one h0 stepR_seq) (.pass (x:= .code y) rfl (fun _ _=> .inl (by simp)) harr)⟩
theorem wpAt_block {id:Nat} {c:Code} (h:wpAt P c (fun e a w=>match e with| .normal=>Q .normal a w| .panic ch=>Q (.panic ch) a w|_=>False) a w):wpAt P (Code.block id c) Q a w:=by
 intro b k cs hro hb
 have h0:(lone (b.atR a (.code (.block id c)::k)) cs w).fenced P Fence.wide:=calm rfl
 obtain⟨e,a₁,w₁,hq,harr⟩:=h b (.inBlock id::k) cs hro hb
 cases e with
 | normal=>exact⟨.normal,a₁,w₁,hq,.head h0 stepR_block (StepsIn.trans harr (.one (calm rfl) stepR_inBlock))⟩
 | panic ch=>exact⟨_,a₁,w₁,hq,.of_steps (.one h0 stepR_block) harr⟩
 | exit id'=>exact hq.elim
 | goto l=>exact hq.elim
 | ret=>exact hq.elim
 | outgrown=>exact hq.elim
theorem wpAt_range_own {g:Operand} {ps:Array Tmp} {assign body:Code}
  {gf:Nat} {fst:Array Value} (hg:a.eval g= .func (.func gf) fst #[]) (eg:∀args w,(callFunc gf args).run P w= .ok (.enter gf args) w)
  {encs:Nat→Array Value} {Rel:World→World→Prop} {At:Nat→World→Prop} {N:Nat} (hseq:SeqOwn Fence.wide n P gf fst encs Rel At N w) (hps:∀k,(encs k).size=ps.size)
  (hRel:∀A B d o,Rel A B→w.heap.size≤d→A.heap[d]? =some o→B.heap[d]? =some o) (hAt:OwnFrom w.heap.size At) (hA0:At 0 w)
  (I:Nat→World→Prop) (Ip:List PanicEntry→World→Prop) (hI:OwnFrom w.heap.size I) (hIR:∀k A B,I k A→Rel A B→I k B) (h0:I 0 w)
  (Ax:Nat→Act→World→Prop) (hAx:∀k,OwnFrom w.heap.size (Ax k))
  (hassign:∀(l k:Nat) (W:World) (K:Act→World→Prop),k<N→I k W→At (k+1) W→(∀ a' W',KeepsFrom w.heap.size W W'→I k W'→At (k+1) W'→Ax k a' W'→K a' W') →
   assign.wpIn (Fence.wide.inRound l) (n - 1) P (Exit.then K (fun _ _ _=>False)) { tmps:=(ps.zip (encs k)).foldl (fun t (p,v)=>t.setIfInBounds p v) a.tmps,defers:=[] } W)
  (hbody:∀(l k:Nat) (a':Act) (W:World),w.heap.size≤l→(∃ r,W.heap[l]? =some (.loop r))→k<N→I k W→At (k+1) W→Ax k a' W→body.wpIn (Fence.wide.inRound l) (n - 1) P (ownPost w.heap.size k I At (fun _ _=>False) Ip W) a' W)
  (hdone:∀(D:Nat) (W:World),w.heap.size≤D→I N W→At N W→W.heap[D]? =some (.deferred (some []))→Q .normal (marked a D) W)
  (hpan:∀(D:Nat) (ch:List PanicEntry) (W:World),w.heap.size≤D→Ip ch W→W.heap[D]? =some (.deferred (some []))→Q (.panic ch) (marked a D) W) :
  wpAt P (Code.rangeFunc g ps assign body) Q a w:=by
 intro b k cs hro hb
 obtain⟨rec,hrec⟩:∃rec:LoopState→Option Code→Loop,rec=fun st pe=> { state:=st,pending:=pe,fn:=b.fn,tmps:=a.tmps,params:=ps,assign,body,defers:=w.heap.size } :=⟨_,rfl⟩
 obtain⟨W1,hW1⟩:∃W1,(w.alloc (.deferred (some []))).alloc (.loop (rec .ready none))=W1:=⟨_,rfl⟩
 have hL1:W1.heap[w.heap.size+1]? =some (.loop (rec .ready none)):=by
  rw[← hW1];have:=World.alloc_heap_new (w.alloc (.deferred (some []))) (.loop (rec .ready none));rwa[World.size_alloc]at this
 have hK1:W1.heap[w.heap.size]? =some (.deferred (some [])):=by
  rw[← hW1];exact(Below.heap_alloc _ _ _ (by simp)).trans (World.alloc_heap_new w _)
 have hI1:I 0 W1:=by rw[← hW1];exact hI.alloc _ (hI.alloc _ h0)
 have hA1:At 0 W1:=by rw[← hW1];exact hAt.alloc _ (hAt.alloc _ hA0)
 have hE1:Ext w W1:=by rw[← hW1];exact((Ext.refl w).alloc _).alloc _
 have he:(Instr.enterLoop b.fn a.tmps ps assign body b.roundOf).run P w= .ok (w.heap.size+1,[{ target:= .collected w.heap.size,args:=#[] }]) W1:=by
  rw[hro,←hW1,hrec];exact run_enterLoop_outer _ _ _ _ _
 have hres:(resolve a.eval (rangeCall g (w.heap.size+1)) 0).run P W1= .ok { target:= .fn (.func gf) #[],args:=fst++#[.func (.yield (w.heap.size+1)) #[] #[]] } W1:=by
  simp only[resolve,hg]
  simp[go_sem]
 have hinv:(invoke (.fn (.func gf) #[]) (fst++#[.func (.yield (w.heap.size+1)) #[] #[]])).run P W1= .ok (.enter gf (fst++#[.func (.yield (w.heap.size+1)) #[] #[]])) W1:=by
  simp[invoke,go_sem,eg]
 have henter:=stepR_rangeFunc (P:=P) (b:=b) (a:=a) (k:=k) (cs:=cs) (w:=w) he hres hinv
 have h00:(lone (b.atR a (.code (.rangeFunc g ps assign body)::k)) cs w).fenced P Fence.wide:=fenced_lone (.inl trivial) (fun _ _=>trivial) (room_wide _)
 have hcall:=hseq (w.heap.size+1)
   (fun k W=>I k W∧W.heap[w.heap.size+1]? =some (.loop (rec .ready none))∧W.heap[w.heap.size]? =some (.deferred (some [])))
   (fun _=>False)
   (fun ch W=>Ip ch W∧W.heap[w.heap.size]? =some (.deferred (some []))) W1 hE1
   (fun k A B hs hr=>⟨hIR k A B hs.1 hr,hRel _ _ _ _ hr (by omega) hs.2.1,hRel _ _ _ _ hr (Qa _) hs.2.2⟩) (by
    rintro k W hk ⟨hi,hl,hd⟩ hat
    have hr:=own_round (F:=Fence.wide) (n:=n - 1) (P:=P) (B:=w.heap.size) (fn:=b.fn) trivial (by omega:w.heap.size≤w.heap.size+1) I At (fun _ _=>False) Ip hI hAt (fun _ _ _ _ h _ _=>h) (.inl hb) (Ax k) (hAx k) k W (encs k) (hps k) hi hat (by rw[hrec]at hl;exact hl)
     (fun K hK=>hassign _ k W K hk hi hat hK) (fun a' W' hrc hi' ha' hx'=>hbody _ k a' W' (by omega) hrc hk hi' ha' hx')
    obtain⟨f0,t0,as0,b0,hy,hR⟩:=hr
    refine⟨f0,t0,as0,b0,hy,hR.mono ?_⟩
    rintro e W' (⟨rfl,h1,h2,h3,h4⟩|⟨rfl,c,h1,h2,h3⟩|⟨ch,rfl,h1,h2⟩)
    ·exact .inl ⟨rfl,⟨h1,by rw[hrec];exact h3,h4 _ _ (Qa _) (by omega) hd rfl⟩,h2⟩
    ·exact h1.elim
    ·exact .inr (.inr ⟨ch,rfl,h1,h2 _ _ (Qa _) (by omega) hd rfl⟩)) ⟨hI1,hL1,hK1⟩ hA1
 obtain⟨e,w₃,fr,hR,hsteps,hfn,hleave⟩:=hcall.2 (b.atR (marked a w.heap.size) (.inRangeFunc (w.heap.size+1)::k)::cs) (room_wide _)
 rcases hR with⟨⟨v,rfl⟩,(⟨⟨hi,hl,hk⟩,hat⟩|hf)⟩|⟨ch,rfl,hip,hk⟩
 ·have hend:=run_endLoop (P:=P) hl (by rw[hrec];simp)
  have hend':(Instr.endLoop (w.heap.size+1)).run P w₃= .ok none (w₃.putObj (w.heap.size+1) (.loop { rec .ready none with state:= .exhausted })):=by rw[hrec]at hend ⊢;exact hend
  have hstep:step P (lone (b.atR (marked a w.heap.size) (.endRangeFunc (w.heap.size+1)::k)) cs w₃)= .next (lone (b.atR (marked a w.heap.size) k) cs (w₃.putObj (w.heap.size+1) (.loop { rec .ready none with state:= .exhausted }))):=stepR_endRangeFunc hend'
  have hQ:=hdone w.heap.size (w₃.putObj (w.heap.size+1) (.loop { rec .ready none with state:= .exhausted })) (Qa _) (hI.putObj _ hi (by omega) hl rfl) (hAt.putObj _ hat (by omega) hl rfl) ((World.putObj_heap_other (by omega)).trans hk)
  refine⟨.normal,_,_,hQ,?_⟩
  refine .head h00 henter (StepsIn.trans hsteps (.head (fenced_leaving (n:=0) trivial (room_wide _) hleave) ?_ (.one (calm (fr:=b.atR (marked a w.heap.size) (.endRangeFunc (w.heap.size+1)::k)) rfl) hstep)))
  rw[← finish_atR_inRangeFunc (w.heap.size+1) v];exact step_leave_returned hleave
 ·exact hf.elim
 ·refine⟨.panic ch,_,w₃,hpan _ _ _ (Qa _) hip hk,.inRangeFunc (w.heap.size+1)::k,.head h00 henter (StepsIn.trans hsteps (.one (fenced_leaving (n:=0) trivial (room_wide _) hleave) ?_))⟩
  rw[← Frame.raise_atR];exact step_leave_panicked hleave
theorem calls_of_wpAt {f:FuncId} {fn:Func} {c:Code} {args:Array Value} {R:Ending→World→Prop} (hf:P.funcs[f]? =some fn) (hb:fn.body=some c)
  (h:wpAt P c (bodyPostM Fence.wide n P fn R) { tmps:=args++Array.replicate (fn.ntmps - args.size) undef,defers:=[] } w):Calls P f args w R:=by
 refine callsIn_wide (n:=n).1 ⟨trivial,fun cs hr=> ?_⟩
 let b:Frame:= { (default:Frame)with fn:=f,kind:= .normal,roundOf:=none }
 have henter:Frame.enter P f args .normal =
   b.atR { tmps:=args++Array.replicate (fn.ntmps - args.size) undef,defers:=[] } [.code c]:=by
  simp[Frame.enter,Frame.atR,hf,hb,b]
 obtain⟨e,a',w',hq,harr⟩:=h b [] cs rfl ⟨fn,hf⟩
 rw[← henter]at harr
 cases e with
 | normal =>
  obtain⟨e',w'',fr',hR,hs,hfn,hl⟩:=leaves_stepsInM a'.defers .returning w' { b.atR a' []with mode:= .returning } cs rfl rfl rfl hf rfl trivial (room_wide _) hq
  exact⟨e',w'',fr',hR,ComesIn.of_steps (StepsIn.trans harr (.one (calm (fr:=b.atR a' []) rfl) (stepR_end rfl))) hs,hfn,hl⟩
 | ret =>
  obtain⟨todo,hs₀⟩:=harr.1 rfl
  obtain⟨e',w'',fr',hR,hs,hfn,hl⟩:=leaves_stepsInM a'.defers .returning w' { b.atR a' todo with mode:= .returning } cs rfl rfl rfl hf rfl trivial (room_wide _) hq
  exact⟨e',w'',fr',hR,ComesIn.of_steps hs₀ hs,hfn,hl⟩
 | panic chain =>
  obtain⟨todo,hs₀⟩:=harr
  obtain⟨e',w'',fr',hR,hs,hfn,hl⟩:=leaves_stepsInM a'.defers (.panicking chain) w' { b.atR a' todo with mode:= .panicking chain } cs rfl rfl rfl hf rfl trivial (room_wide _) hq
  exact⟨e',w'',fr',hR,ComesIn.of_steps hs₀ hs,hfn,hl⟩
 | exit id=>exact hq.elim
 | goto l=>exact hq.elim
 | outgrown=>exact⟨.outgrown,w',b,hq,harr.resolve_left (by simp[b]),rfl,trivial⟩
end
end Go.Proofs.YtgloajbgphcloaaGreat
namespace Go.Proofs.YtgloajbgphcloaaGreat
set_option linter.unusedVariables false
set_option linter.unusedSimpArgs false
open Go.RowKit
open Nat renaming le_refl → Qa
theorem ext_grown {w w':World} (h:Ext w w'):w.grownBy w' none:=⟨h.os,h.tape,h.output,h.size,fun k hk _=>h.block k hk⟩
theorem ext_others {w w':World} (h:Ext w w'):KeepsOthers w w':=KeepsOthers.of_grownBy (ext_grown h) (fun j o e=>by cases e)
section
variable {F:Fence} {n:Nat} {P:Program}
def SeqArg (F:Fence) (n:Nat) (P:Program) (gf:Nat) (lb:Array Value) (Inv:World→Prop) (At:Nat→Array Value→World→Prop) (N:Nat) (w:World):Prop :=
 ∀(l:Nat) (J:Nat→World→Prop) (Jx:World→Prop) (W:World),Ext w W→(∀ k W,J k W→Inv W)→(∀ k A B,J k A→Ext A B→J k B) →
  (∀ k e W1,k<N→J k W1→At k e W1→YieldAt F (n - 1) P l e W1 fun e' W'=>(e'= .returned (.bool true)∧J (k+1) W')∨(e'= .returned (.bool false)∧Jx W')) →
  J 0 W →
  CallsIn F n P gf (#[.func (.yield l) #[] #[]]++lb) W fun e W'=>(∃ v,e= .returned v)∧(J N W'∨Jx W')
def argPost (B k:Nat) (I:Nat→World→Prop) (Ix:Code→World→Prop) (W:World):Exit→Act→World→Prop
 | .normal,_,W'=>KeepsFrom B W W'∧I (k+1) W'
 | .ret,_,W'=>KeepsFrom B W W'∧Ix .ret W'
 | .exit id,_,W'=>KeepsFrom B W W'∧Ix (.exit id) W'
 | .goto t,_,W'=>KeepsFrom B W W'∧Ix (.goto t) W'
 | .panic _,_,_=>False
 | .outgrown,_,_=>False
theorem wpIn_range_arg {g:Operand} {ps:Array Tmp} {assign body:Code} {Q:Exit→Act→World→Prop} {a:Act} {w:World}
  (hro:F.round=none) (h1:1≤n) {gf:Nat} {lb:Array Value} (hg:a.eval g= .func (.func gf) #[] lb) (hFg:F.fn gf) (eg:∀args w,(callFunc gf args).run P w= .ok (.enter gf args) w)
  {Inv:World→Prop} {At:Nat→Array Value→World→Prop} {N:Nat} (hseq:SeqArg F (n - 1) P gf lb Inv At N w) (hps:∀k e W,At k e W→e.size=ps.size) (hAt:∀k e,OwnFrom w.heap.size (fun(_:Unit) W=>At k e W))
  (I:Nat→World→Prop) (Ix:Code→World→Prop) (hI:OwnFrom w.heap.size I) (hIx:OwnFrom w.heap.size Ix) (hIE:∀k A B,I k A→Ext A B→I k B) (hInv:∀k W,I k W→Inv W) (h0:I 0 w)
  (Ax:Nat→Array Value→Act→World→Prop) (hAx:∀k e,OwnFrom w.heap.size (Ax k e))
  (hassign:∀(l k:Nat) (e:Array Value) (W:World) (K:Act→World→Prop),k<N→I k W→At k e W→(∀ a' W',KeepsFrom w.heap.size W W'→I k W'→At k e W'→Ax k e a' W'→K a' W') →
   assign.wpIn (F.inRound l) (n - 1 - 1) P (Exit.then K (fun _ _ _=>False)) { tmps:=(ps.zip e).foldl (fun t (p,v)=>t.setIfInBounds p v) a.tmps,defers:=[] } W)
  (hbody:∀(l k:Nat) (e:Array Value) (a':Act) (W:World),w.heap.size≤l→(∃ r,W.heap[l]? =some (.loop r))→k<N→I k W→At k e W→Ax k e a' W→body.wpIn (F.inRound l) (n - 1 - 1) P (argPost w.heap.size k I Ix W) a' W)
  (hdone:∀(D:Nat) (W:World),w.heap.size≤D→I N W→W.heap[D]? =some (.deferred (some []))→Q .normal (marked a D) W)
  (hstop:∀(D:Nat) (c:Code) (W:World),w.heap.size≤D→Ix c W→W.heap[D]? =some (.deferred (some []))→c.wpIn F n P Q (marked a D) W) :
  (Code.rangeFunc g ps assign body).wpIn F n P Q a w:=by
 refine wpIn_rangeFunc ?_
 intro fn hfn
 rw[hro]
 obtain⟨rec,hrec⟩:∃rec:LoopState→Option Code→Loop,rec=fun st pe=> { state:=st,pending:=pe,fn,tmps:=a.tmps,params:=ps,assign,body,defers:=w.heap.size } :=⟨_,rfl⟩
 obtain⟨W1,hW1⟩:∃W1,(w.alloc (.deferred (some []))).alloc (.loop (rec .ready none))=W1:=⟨_,rfl⟩
 have hL1:W1.heap[w.heap.size+1]? =some (.loop (rec .ready none)):=by
  rw[← hW1];have:=World.alloc_heap_new (w.alloc (.deferred (some []))) (.loop (rec .ready none));rwa[World.size_alloc]at this
 have hK1:W1.heap[w.heap.size]? =some (.deferred (some [])):=by
  rw[← hW1];exact(Below.heap_alloc _ _ _ (by simp)).trans (World.alloc_heap_new w _)
 have hI1:I 0 W1:=by rw[← hW1];exact hI.alloc _ (hI.alloc _ h0)
 have hE1:Ext w W1:=by rw[← hW1];exact((Ext.refl w).alloc _).alloc _
 refine⟨w.heap.size+1,[{ target:= .collected w.heap.size,args:=#[] }],W1,{ target:= .fn (.func gf) lb,args:=#[.func (.yield (w.heap.size+1)) #[] #[]] },W1,gf,
  #[.func (.yield (w.heap.size+1)) #[] #[]]++lb,W1,?_,?_,?_,?_,fun _=>h1,?_⟩
 ·rw[← hW1,hrec];exact run_enterLoop_outer _ _ _ _ _
 ·simp only[resolve,hg]
  simp[go_sem]
 ·intro f' hf';simp[Target.leads]at hf';subst hf';exact hFg
 ·simp[invoke,go_sem,eg]
 ·refine(hseq (w.heap.size+1)
   (fun k W=>I k W∧W.heap[w.heap.size+1]? =some (.loop (rec .ready none))∧W.heap[w.heap.size]? =some (.deferred (some [])))
   (fun W=>∃c,Ix c W∧W.heap[w.heap.size+1]? =some (.loop (rec .done (some c)))∧W.heap[w.heap.size]? =some (.deferred (some [])))
   W1 hE1 (fun k W h=>hInv k W h.1)
   (fun k A B hs hE=>⟨hIE k A B hs.1 hE,(hE.block _ (Array.getElem?_eq_some_iff.1 hs.2.1).1).trans hs.2.1,(hE.block _ (Array.getElem?_eq_some_iff.1 hs.2.2).1).trans hs.2.2⟩) ?_ ⟨hI1,hL1,hK1⟩).mono ?_
  ·rintro k e W hk ⟨hi,hl,hd⟩ hat
   have hOI:OwnFrom w.heap.size (fun(j:Nat) X=>(j=k∧I k X∧At k e X)∨(j=k+1∧I (k+1) X)):=by
    rintro j A B row (⟨rfl,h2,h3⟩|⟨rfl,h2⟩) hg hr
    ·exact .inl ⟨rfl,hI _ _ _ _ h2 hg hr,hAt _ _ () _ _ _ h3 hg hr⟩
    ·exact .inr ⟨rfl,hI _ _ _ _ h2 hg hr⟩
   have hr:=own_round (F:=F) (n:=n - 1 - 1) (P:=P) (B:=w.heap.size) hfn (by omega:w.heap.size≤w.heap.size+1) (fun j X=>(j=k∧I k X∧At k e X)∨(j=k+1∧I (k+1) X)) (fun _ _=>True) Ix (fun _ _=>False) hOI (fun _ _ _ _ _ _ _=>trivial) hIx (.inr fun _ _ h=>h) (Ax k e) (hAx k e) k W e (hps k e W hat) (.inl ⟨rfl,hi,hat⟩) trivial (by rw[hrec]at hl;exact hl)
    (fun K hK=>hassign _ k e W K hk hi hat fun a' W' h1 h2 h3 h4=>hK a' W' h1 (.inl ⟨rfl,h2,h3⟩) trivial h4)
    (fun a' W' hrc hi' _ hx'=>by
     rcases hi' with⟨_,h2,h3⟩|⟨h2,_⟩
     ·refine wpIn_mono (hbody _ k e a' W' (by omega) hrc hk h2 h3 hx') ?_
      rintro ex a2 W2 hp
      cases ex with
      | normal=>exact⟨hp.1,trivial,.inr ⟨rfl,hp.2⟩⟩
      | ret=>exact hp
      | exit id=>exact hp
      | goto t=>exact hp
      | panic ch=>exact hp.elim
      | outgrown=>exact hp.elim
     ·omega)
   obtain⟨f0,t0,as0,b0,hy,hR⟩:=hr
   refine⟨f0,t0,as0,b0,hy,hR.mono ?_⟩
   rintro e' W' (⟨rfl,h1,h2,h3,h4⟩|⟨rfl,c,h1,h2,h3⟩|⟨ch,rfl,h1,_⟩)
   ·refine .inl ⟨rfl,?_,by rw[hrec];exact h3,h4 _ _ (Qa _) (by omega) hd rfl⟩
    rcases h1 with⟨h2,_⟩|⟨_,h2⟩
    ·omega
    ·exact h2
   ·exact .inr ⟨rfl,c,h1,by rw[hrec];exact h2,h3 _ _ (Qa _) (by omega) hd rfl⟩
   ·exact h1.elim
  ·rintro e W2 ⟨⟨v,rfl⟩,(⟨hi,hl,hk⟩|⟨c,hi,hl,hk⟩)⟩
   ·exact⟨none,_,by have:=run_endLoop (P:=P) hl (by rw[hrec];simp);rw[hrec]at this;exact this,hdone _ _ (Qa _) (hI.putObj _ hi (by omega) hl rfl) ((World.putObj_heap_other (by omega)).trans hk)⟩
   ·exact⟨some c,_,by have:=run_endLoop (P:=P) hl (by rw[hrec];simp);rw[hrec]at this;exact this,hstop _ c _ (Qa _) (hIx.putObj _ hi (by omega) hl rfl) ((World.putObj_heap_other (by omega)).trans hk)⟩
end
end Go.Proofs.YtgloajbgphcloaaGreat
namespace Go.Proofs.YtgloajbgphcloaaGreat
set_option linter.unusedVariables false
set_option linter.unusedSimpArgs false
open Go.RowKit
def markOf (D:Nat):Deferred:= { target:= .collected D,args:=#[] }
def Marks (B:Nat) (ds:List Deferred) (w:World):Prop:=∃L:List Nat,ds=L.map markOf∧L.Nodup∧∀D∈L,B≤D∧w.heap[D]? =some (.deferred (some []))
theorem Marks.nil (B:Nat) (w:World):Marks B [] w:=⟨[],rfl,List.nodup_nil,fun _ h=>by cases h⟩
theorem Marks.keeps {B:Nat} {ds:List Deferred} {w w':World} (h:Marks B ds w) (hk:KeepsOthers w w'):Marks B ds w':=by
 obtain⟨L,e,hn,hL⟩:=h
 exact⟨L,e,hn,fun D hD=>⟨(hL D hD).1,hk.same D _ (hL D hD).2 rfl⟩⟩
theorem Marks.ext {B:Nat} {ds:List Deferred} {w w':World} (h:Marks B ds w) (hk:Ext w w'):Marks B ds w':=h.keeps (ext_others hk)
theorem Marks.set {B:Nat} {ds:List Deferred} {w:World} (h:Marks B ds w) (a:Addr) (v:Value):Marks B ds (w.setCell a v):=h.keeps (KeepsOthers.setCell _ _ _)
theorem markOf_inj {L M:List Nat} (h:L.map markOf=M.map markOf):L=M:=by
 induction L generalizing M with
 | nil=>cases M with
  | nil=>rfl
  | cons=>cases h
 | cons a L ih=>cases M with
  | nil=>cases h
  | cons b M =>
   simp only[List.map_cons,List.cons.injEq,markOf,Deferred.mk.injEq,Target.collected.injEq,and_true]at h
   rw[h.1,ih h.2]
theorem Marks.push {B D:Nat} {ds:List Deferred} {w Y:World} (h0:Marks B ds w) (h:Marks B ds Y) (hD:w.heap.size≤D) (hB:B≤D) (hK:Y.heap[D]? =some (.deferred (some []))):Marks B ({ target:= .collected D,args:=#[] } ::ds) Y:=by
 obtain⟨L0,e0,_,hL0⟩:=h0
 obtain⟨L,e,hn,hL⟩:=h
 have:L0=L:=markOf_inj (e0.symm.trans e)
 subst this
 refine⟨D::L0,by rw[e];rfl,List.nodup_cons.2 ⟨fun hm=> ?_,hn⟩,fun x hx=> ?_⟩
 ·have:=(Array.getElem?_eq_some_iff.1 (hL0 D hm).2).1
  omega
 ·rcases List.mem_cons.1 hx with rfl|hx
  ·exact⟨hB,hK⟩
  ·exact hL x hx
theorem ownFrom_marks {β:Type} {B:Nat} {ds:List Deferred} {w:World} (h0:Marks B ds w):OwnFrom w.heap.size (fun(_:β) W=>Marks B ds W):=by
 intro s A C row h hg hr
 obtain⟨L0,e0,_,hL0⟩:=h0
 obtain⟨L,e,hn,hL⟩:=h
 have:L0=L:=markOf_inj (e0.symm.trans e)
 subst this
 refine⟨L0,e,hn,fun D hD=>⟨(hL D hD).1,?_⟩⟩
 have h1:=(Array.getElem?_eq_some_iff.1 (hL0 D hD).2).1
 have h2:=(Array.getElem?_eq_some_iff.1 (hL D hD).2).1
 rw[hg.block D h2 (fun e'=>by have:=(hr D e'.symm).1;omega)]
 exact(hL D hD).2
structure ShutM (B:Nat) (w w':World):Prop where
 os:w'.os=w.os
 tape:w'.tape=w.tape
 output:w'.output=w.output
 size:w.heap.size=w'.heap.size
 below:∀k,k<B→w'.heap[k]? =w.heap[k]?
 cells:∀(k:Nat) (o:Obj),w.heap[k]? =some o→o.isCells=true→w'.heap[k]? =some o
theorem ShutM.ext {B:Nat} {w0 w w':World} (h:ShutM B w w') (h0:Ext w0 w) (hB:w0.heap.size≤B):Ext w0 w' :=
 ⟨h.os.trans h0.os,h.tape.trans h0.tape,h.output.trans h0.output,by rw[← h.size];exact h0.size,fun k hk=>(h.below k (by omega)).trans (h0.block k hk)⟩
theorem ShutM.blk {B b:Nat} {w w':World} {cs:Array Value} {e:TypeId} (h:ShutM B w w') (hb:Blk w b cs e):Blk w' b cs e:=h.cells b _ hb rfl
theorem ShutM.row {α:Type} {f:α→List Value} {k:Nat} {e:TypeId} {B g:Nat} {w w':World} {xs:List α} (h:ShutM B w w') (hb:RowB f k e w g xs):RowB f k e w' g xs:=by
 obtain⟨cs,hB,hc⟩:=hb
 exact⟨cs,h.blk hB,hc⟩
theorem RowB.kept {α:Type} {f:α→List Value} {k:Nat} {e:TypeId} {A B:World} {row:Option Nat} {g:Nat} {xs:List α} (h:RowB f k e A g xs) (hg:A.grownBy B row) (hr:∀r,row=some r→∃o:Obj,A.heap[r]? =some o∧o.isCells=false):RowB f k e B g xs:=by
 obtain⟨cs,hB,hc⟩:=h
 exact⟨cs,hB.kept hg hr,hc⟩
section
variable {F:Fence} {n:Nat} {P:Program}
theorem leaves_list {fn:Func} {tmps:Array Value} {R:Ending→World→Prop} {B:Nat} :∀(L:List Nat) (w:World),L.Nodup→(∀ D∈L,B≤D∧w.heap[D]? =some (.deferred (some []))) →
  (∀ w',ShutM B w w'→∃v,(results fn tmps).run P w'= .ok v w'∧R (.returned v) w')→LeavesInM F n P fn tmps R (L.map markOf) .returning w
 | [],w,_,_,hr=>hr w ⟨rfl,rfl,rfl,rfl,fun _ _=>rfl,fun _ _ h _=>h⟩
 | D::L,w,hn,hL,hr=>by
  have hn':=List.nodup_cons.1 hn
  have hD:=hL D (by simp)
  refine⟨by simp,.inl ⟨D,_,rfl,run_takeDeferred hD.2,?_⟩⟩
  refine leaves_list L _ hn'.2 (fun x hx=>⟨(hL x (by simp[hx])).1,?_⟩) (fun w' h=> ?_)
  ·rw[World.putObj_heap_other (fun e=>hn'.1 (by rw[← e];exact hx))]
   exact(hL x (by simp[hx])).2
  ·refine hr w' ⟨h.os,h.tape,h.output,by rw[← h.size];simp,fun k hk=> ?_,fun k o hk ho=>h.cells k o ?_ ho⟩
   ·rw[h.below k hk,World.putObj_heap_other (by omega)]
   ·rw[World.putObj_heap_other (fun e=>by subst e;rw[hD.2]at hk;cases hk;cases ho)]
    exact hk
theorem leaves_marks {fn:Func} {tmps:Array Value} {R:Ending→World→Prop} {B:Nat} {ds:List Deferred} {w:World} (h:Marks B ds w)
  (hr:∀w',ShutM B w w'→∃v,(results fn tmps).run P w'= .ok v w'∧R (.returned v) w'):LeavesInM F n P fn tmps R ds .returning w:=by
 obtain⟨L,rfl,hn,hL⟩:=h
 exact leaves_list L w hn hL hr
def setAll (t:Array Value):List Nat→List Value→Array Value
 | i::is,v::vs=>setAll (t.setIfInBounds i v) is vs
 | _,_=>t
theorem wpIn_loop_marks {c:Code} {Q:Exit→Act→World→Prop} {tm:Array Value} {ds0:List Deferred} {w:World} (B:Nat) (slots:List Nat) (vs0:List Value) (R:Nat→List Value→World→Prop) (j0:Nat)
  (hm:Marks B ds0 w) (he:setAll tm slots vs0=tm) (h0:R j0 vs0 w)
  (round:∀j ds vs w,Marks B ds w→R j vs w→c.wpIn F n P (Exit.then (fun a' w'=>∃i vs',i<j∧a'.tmps=setAll tm slots vs'∧Marks B a'.defers w'∧R i vs' w') Q) { tmps:=setAll tm slots vs,defers:=ds } w) :
  (Code.loop c).wpIn F n P Q { tmps:=tm,defers:=ds0 } w:=by
 have key:∀(m j:Nat) (ds:List Deferred) (vs:List Value) (w:World),j<m→Marks B ds w→R j vs w→Code.roundsIn F n P c Q m { tmps:=setAll tm slots vs,defers:=ds } w:=by
  intro m
  induction m with
  | zero=>intro j ds vs w h;omega
  | succ m ih =>
   intro j ds vs w hj hm h
   refine wpIn_mono (round j ds vs w hm h) ?_
   intro e a' w' hq
   cases e with
   | normal =>
    obtain⟨i,vs',hi,ht,hm',h'⟩:=hq
    obtain⟨t',d'⟩:=a'
    have ht:t'=setAll tm slots vs':=ht
    subst ht
    exact ih i d' vs' w' (by omega) hm' h'
   | _=>exact hq
 have:=key (j0+1) j0 ds0 vs0 w (by omega) hm h0
 rw[he]at this
 exact wpIn_loop_rounds _ this
end
end Go.Proofs.YtgloajbgphcloaaGreat
