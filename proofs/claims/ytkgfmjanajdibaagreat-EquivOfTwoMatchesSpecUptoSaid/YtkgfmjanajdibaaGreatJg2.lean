/-
  A part of what LawG rests on: the logic, walks and plain laws. No condition.
-/
import Derived.Test.YtkgfmjanajdibaaGreatJg1
namespace Go.Proofs.YtkgfmjanajdibaaGreat
open _root_.Go.Proofs.Tryz
open Go.RowKit
set_option linter.unusedVariables false
set_option linter.unusedSimpArgs false
set_option linter.unusedSectionVars false
set_option maxRecDepth 100000
variable {w0:World}{H:Mm}
def AtF (P:Program) (f:FuncId) (c:Code) (Q:Exit->Act->World->Prop) (a:Act) (w:World):Prop:=
 ∀ b:Frame,b.roundOf=none->b.fn=f->∀ k cs,∃ e a' w',Q e a' w'/\ArrivesIn (Machine.fenced P Fence.wide) P (lone (b.atR a (.code c::k)) cs w) b k cs e a' w'
section
variable {P:Program} {f:FuncId} {Q:Exit->Act->World->Prop} {a:Act} {w:World}
theorem AtF.of {c:Code}(h:c.wpIn Fence.wide 0 P Q a w):AtF P f c Q a w:=fun b hr _ k cs=>h b k cs hr trivial (room_wide _)
theorem AtF.mono {c:Code}{Q':Exit->Act->World->Prop}(h:AtF P f c Q a w)(hq:∀ e a w,Q e a w->Q' e a w):AtF P f c Q' a w:=fun b hr hb k cs=>
 let ⟨e,a',w',h1,h2⟩:=h b hr hb k cs
 ⟨e,a',w',hq _ _ _ h1,h2⟩
theorem AtF.seq {x y:Code}{K:Act->World->Prop}(hx:AtF P f x (Exit.then K Q) a w)(hy:∀ a w,K a w->AtF P f y Q a w):AtF P f (.seq x y) Q a w:=by
 intro b hr hb k cs;obtain⟨e,a₁,w₁,hq,harr⟩:=hx b hr hb (.code y::k) cs;have h0:StepsIn (Machine.fenced P Fence.wide) P (lone (b.atR a (.code (.seq x y)::k)) cs w) (lone (b.atR a (.code x:: .code y::k)) cs w):= .one (fenced_wide _ _) stepR_seq
 by_cases he:e= .normal
 ·subst he;obtain⟨e₂,a₂,w₂,hq₂,harr₂⟩:=hy _ _ hq b hr hb k cs;exact⟨e₂,a₂,w₂,hq₂, .of_steps (StepsIn.trans h0 harr) harr₂⟩
 ·refine⟨e,a₁,w₁,?_, .of_steps h0 (.pass (x:= .code y) ?_ (fun _ _=> .inl (by simpa using he)) harr)⟩
  ·cases e<;>first|exact hq|exact absurd U he
  ·cases e<;>rfl
theorem AtF.block {id:Nat}{c:Code}(h:AtF P f c (fun e a w=>match e with| .normal=>Q .normal a w| .panic ch=>Q (.panic ch) a w|_=>False) a w):AtF P f (.block id c) Q a w:=by
 intro b hr hb k cs;obtain⟨e,a₁,w₁,hq,harr⟩:=h b hr hb (.inBlock id::k) cs;have h0:StepsIn (Machine.fenced P Fence.wide) P (lone (b.atR a (.code (.block id c)::k)) cs w) (lone (b.atR a (.code c:: .inBlock id::k)) cs w):= .one (fenced_wide _ _) stepR_block;cases e with
 |normal=>exact⟨.normal,a₁,w₁,hq,StepsIn.trans h0 (StepsIn.trans harr (.one (fenced_wide _ _) stepR_inBlock))⟩
 |panic ch=>exact⟨_,a₁,w₁,hq, .of_steps h0 harr⟩
 |_=>exact hq.elim
theorem AtF.range {g:Operand}{ps:Array Tmp}{assign body:Code}{l:Nat}{mark:List Deferred}{w₁:World}{d:Deferred}{w₁':World}{gf:FuncId}{args:Array Value}{w₂:World}
  (he:(Instr.enterLoop f a.tmps ps assign body none).run P w= .ok (l,mark) w₁) (hres:(resolve a.eval (rangeCall g l) 0).run P w₁= .ok d w₁') (hinv:(invoke d.target d.args).run P w₁'= .ok (.enter gf args) w₂)
  (hcall:Calls P gf args w₂ fun e w₃=>match e with
   | .returned _=>∃ w₄,(Instr.endLoop l).run P w₃= .ok none w₄/\Q .normal {a with defers:=mark++a.defers} w₄
   | .panicked chain=>Q (.panic chain) {a with defers:=mark++a.defers} w₃
   | .outgrown=>False):AtF P f (.rangeFunc g ps assign body) Q a w:=by
 intro b hr hb k cs;subst hb;have henter:=stepR_rangeFunc (P:=P) (b:=b) (a:=a) (k:=k) (cs:=cs) (w:=w) (by rw[hr];exact he) hres hinv;obtain⟨e,w₃,fr,hR,hsteps,hfn,hleave⟩:=(callsIn_wide.2 hcall:CallsIn Fence.wide 0 P gf args w₂ _).2 (b.atR {a with defers:=mark++a.defers} (.inRangeFunc l::k)::cs) (room_wide _);have h0:StepsIn (Machine.fenced P Fence.wide) P (lone (b.atR a (.code (.rangeFunc g ps assign body)::k)) cs w) _:= .one (fenced_wide _ _) henter;cases e with
 |outgrown=>exact hR.elim
 |returned v=>
  obtain⟨w₄,hend,hj⟩:=hR;refine⟨.normal,_,w₄,hj,StepsIn.trans h0 (StepsIn.trans hsteps (StepsIn.trans (.one (fenced_wide _ _) ?_) (.one (fenced_wide _ _) (stepR_endRangeFunc hend))))⟩;rw[<- finish_atR_inRangeFunc l v];exact step_leave_returned hleave
 |panicked chain=>
  refine⟨.panic chain,_,w₃,hR, .inRangeFunc l::k,StepsIn.trans h0 (StepsIn.trans hsteps (.one (fenced_wide _ _) ?_))⟩;rw[<- Frame.raise_atR];exact step_leave_panicked hleave
def roundEnd (P:Program) (l:Nat) (R:Ending->World->Prop):Exit->Act->World->Prop
 | .normal,_,w=>∃ v w',(Instr.endRound l none).run P w= .ok v w'/\R (.returned v) w'
 | .panic chain,a,w=>a.defers=[]/\R (.panicked chain) w
 |_,_,_=>False
theorem roundIn_of {l:Nat}{tmps:Array Value}{assign body:Code}{R:Ending->World->Prop}{fn:Func}(hf:P.funcs[f]? =some fn)
  (h:assign.wpIn (Fence.wide.inRound l) 0 P (fun e a₁ w₁=>match e with| .normal=>∃ w₂,(Instr.beginRound l).run P w₁= .ok () w₂/\body.wpIn (Fence.wide.inRound l) 0 P (roundEnd P l R) a₁ w₂|_=>False) {tmps:=tmps,defers:=[]} w):
  RoundIn Fence.wide 0 P l f tmps assign body w R:=by
 refine⟨trivial,fun c cs _=> ?_⟩;obtain⟨b,hbd⟩:∃ b:Frame,b={(default:Frame) with fn:=f,kind:= .normal,roundOf:=some l}:=⟨_,rfl⟩;have hb0:Frame.round l f tmps assign body .normal=b.atR {tmps:=tmps,defers:=[]} [.code assign, .beginRound, .code body]:=by
  subst hbd;simp[Frame.round,Frame.atR]
 have hbr:b.roundOf=some l:=by subst hbd;rfl
 have hbk:b.kind= .normal:=by subst hbd;rfl
 have hbf:b.fn=f:=by subst hbd;rfl
 have W:∀ m,Machine.fenced P Fence.wide m:=fenced_wide P;have up:∀ {m m'},StepsIn (Machine.fenced P (Fence.wide.inRound l)) P m m'->StepsIn (Machine.fenced P Fence.wide) P m m':=fun hs=>hs.mono fun m _=>W m
 obtain⟨e,a₁,w₁,hq,harr⟩:=h b [.beginRound, .code body] (c::cs) hbr trivial (room_wide _);rw[<- hb0] at harr;cases e with
 |normal=>
  obtain⟨w₂,hbeg,hbody⟩:=hq;have s1:StepsIn (Machine.fenced P Fence.wide) P (lone (b.atR a₁ [.beginRound, .code body]) (c::cs) w₁) (lone (b.atR a₁ [.code body]) (c::cs) w₂):= .one (W _) (stepR_beginRound hbr hbeg);obtain⟨e₂,a₂,w₃,hq₂,harr₂⟩:=hbody b [] (c::cs) hbr trivial (room_wide _);cases e₂ with
  |normal=>
   obtain⟨v,w₄,hend,hR⟩:=hq₂;exact⟨.returned v,w₄,hR,StepsIn.trans (StepsIn.trans (up harr) s1) (StepsIn.trans (up harr₂) (.one (W _) (stepR_round_end hbr hbk hend)))⟩
  |panic chain=>
   obtain⟨hd,hR⟩:=hq₂;obtain⟨todo,hs⟩:=harr₂;refine⟨.panicked chain,w₃,hR,StepsIn.trans (StepsIn.trans (up harr) s1) (StepsIn.trans (up hs) (.one (W _) (step_leave_panicked ⟨rfl,hd,fn,?_⟩)))⟩;show P.funcs[b.fn]? =some fn;rw[hbf];exact hf
  |_=>exact hq₂.elim
 |_=>exact hq.elim
end
def YSpecP (P:Program) (w0:World) (l:Nat) (args:List Value) (H:Mm) (K:Value->Mm->Prop) (fv:Value) (B:Mm->Prop):Prop:=
 ∀ w,Own w0 H w->∃ fn tmps assign body,(Instr.yield l args.toArray).run P w= .ok (.round l fn tmps assign body) w/\RoundIn Fence.wide 0 P l fn tmps assign body w (EndP w0 K fv B)
theorem YSpecP.mono {P:Program}{w0:World}{l:Nat}{args:List Value}{H:Mm}{K K':Value->Mm->Prop}{fv:Value}{B:Mm->Prop}(h:YSpecP P w0 l args H K fv B)(hk:∀ v H',K v H'->K' v H'):YSpecP P w0 l args H K' fv B:=fun w hO=>
 let ⟨fn,tmps,assign,body,h1,h2⟩:=h w hO
 ⟨fn,tmps,assign,body,h1,h2.mono fun e w' h=>h.mono hk fun _ h=>h⟩
def IterSpecP (P:Program) (w0:World) (gf:FuncId) (cap:List Value) (Hc:Mm) {α:Type} (enc:α->List Value) (xs:List α) (fv:Value):Prop:=
 ∀ (l:Nat) (S:Nat->Mm->Prop) (B:Mm->Prop),(∀ k H,S k H->Hc.Sublist H)->
  (∀ k x H X,xs[k]? =some x->S k H->YSpecP P w0 l (enc x) (X++H) (fun v H'=>∃ H1,H'=X++H1/\v= .bool true/\S (k+1) H1) fv B)->
  ∀ H,S 0 H->FSpecP P w0 gf (.func (.yield l) #[] #[]::cap).toArray H (fun v H'=>S xs.length H') fv B
theorem effP_yield {P:Program}{w0:World}{l:Nat}{L:Fm}{x:Operand}{xs:List Operand}{vs:List Value}{ts:Array TypeId}{ty:TypeId}{H:Mm}{K:Value->Mm->Prop}{fv:Value}{B:Mm->Prop}(hx:Ev L x (.func (.yield l) #[] #[]))(ha:Evs L xs vs)(hy:YSpecP P w0 l vs H K fv B):
  EffP P w0 (.call {callee:= .value x,args:=xs.toArray,argTypes:=ts}) ty L H K fv B:=
 ⟨rfl,fun b w hO=>by
  have:=ha.map b;obtain⟨fn,tmps,assign,body,h1,h2⟩:=hy w hO;have e:(exO (ev (lk L b)) (.call {callee:= .value x,args:=xs.toArray,argTypes:=ts}) ty).run P w= .ok (.round l fn tmps assign body) w:=by
   simp[exO,execOp,resolve,invoke,Deferred.ofValue,hx b,this,h1,Sem.run_bind,Result.andThen]
  rw[e];exact h2⟩
def roundQP (w0:World) {Z:Type} (G:Z->Mm) (φ:Z->Prop) (Y:Mm) (fv:Value) (B:Mm->Prop):Post
 | .normal,_,_,w=>∃ z,φ z/\Own w0 (G z) w
 | .panic c,_,ds,w=>ds=[]/\c=[{v:=fv,recovered:=false}]/\∃ H,Own w0 (Y++H) w/\B H
 |_,_,_,_=>False
section
variable {P:Program} {N:Nat} {w0:World} {Q:Post} {L:Fm} {ds:List Deferred} {H:Mm} {f:FuncId} {fv:Value}
theorem Gw {Z:Type}{G:Z->Mm}{φ:Z->Prop}{Y:Mm}{B:Mm->Prop}(z:Z)(h:φ z)(hs:(G z).Sublist H):JQ w0 (roundQP w0 G φ Y fv B) .normal L ds H:=fun b w hO=>⟨z,h,hO.sub hs⟩
theorem np_roundP {Z:Type}{G:Z->Mm}{φ:Z->Prop}{Y:Mm}{B:Mm->Prop}:NoPanic (roundQP w0 G φ Y fv B):=⟨fun _ _ _ _ _ h=>h⟩
theorem Ic {Z:Type}{G:Z->Mm}{φ:Z->Prop}{Y:Mm}{B:Mm->Prop}{H1:Mm}(hB:B H1)(hs:(Y++H1).Sublist H):JQ w0 (roundQP w0 G φ Y fv B) (.panic [{v:=fv,recovered:=false}]) L [] H:=fun b w hO=>⟨rfl,rfl,H1,hO.sub hs,hB⟩
theorem np_allR {Q:Post}(h:NoPanic Q:=by repeat (first|exact Jh|exact np_retP|exact np_roundP|exact Gq|exact Fh|apply F8|apply G9|apply Ji|apply Gt|apply F3|apply Ey)):NoPanic Q:=h
theorem round_specP {Z:Type}{l:Nat}{fn:Func}(hfn:P.funcs[f]? =some fn){lr:LoopState->Option Code->Loop}{assign body:Code}{tmps:Array Value}{X Y:Mm}{G:Z->Mm}{φ:Z->Prop}{B:Mm->Prop}(hl:LrOk lr)
  {b:Nat->Value} (ht:(fun k=>tmps.getD k undef)=lk L b) (hN:tmps.size=N)
  (h:J P (some l) N w0 assign (assignQ P l N body (roundQP w0 (fun z=>X++((l, .loop (lr .busy none))::(Y++G z))) φ Y fv B)) L [] H) {w:World} (hO:Own w0 H w):
  RoundIn Fence.wide 0 P l f tmps assign body w (EndP w0 (fun v H'=>v= .bool true/\∃ z,φ z/\H'=X++((l, .loop (lr .ready none))::(Y++G z))) fv (fun H'=>∃ H1,H'=Y++H1/\B H1)):=by
 refine roundIn_of hfn ?_;refine wpIn_mono (h b w hO {tmps:=tmps,defers:=[]} hN ht U) ?_;intro e a w1 hq;obtain⟨hs,hq⟩:=hq;cases e<;>first|exact hq.elim|skip
 obtain⟨w2,hb,hbody⟩:=hq;refine⟨w2,hb,wpIn_mono (hbody a hs U U) ?_⟩;intro e a2 w3 hq;obtain⟨hs2,hq⟩:=hq;cases e with
 |normal=>
  obtain⟨z,hz,hO3⟩:=hq;have hh:w3.heap[l]? =some (.loop (lr .busy none)):=hO3.has (l,_) (by simp);have h1:=run_endRound (P:=P) none hh;rw[hl.jump] at h1;exact⟨_,_,h1, .inl ⟨_,_,rfl,hO3.put upd_mid,rfl,z,hz,rfl⟩⟩
 |panic c=>
  obtain⟨hd,rfl,H1,hO3,hB⟩:=hq;exact⟨hd, .inr ⟨rfl,_,hO3,H1,rfl,hB⟩⟩
 |_=>exact hq.elim
def PanW (P:Program) (w0:World) (B:Mm->Prop):List Deferred->World->Prop
 |[],w=>∃ H,Own w0 H w/\B H
 |d::ds,w=>∃ D w',d.target= .collected D/\(Instr.takeDeferred D).run P w= .ok [] w'/\PanW P w0 B ds w'
def retQM (P:Program) (fn:Func) (w0:World) (K:Value->Mm->Prop) (fv:Value) (B:Mm->Prop):Post
 | .normal,σ,ds,w=>RetW P fn w0 K σ ds w
 | .ret,σ,ds,w=>RetW P fn w0 K σ ds w
 | .panic c,σ,ds,w=>c=[{v:=fv,recovered:=false}]/\PanW P w0 B ds w
 |_,_,_,_=>False
def JA (P:Program) (f:FuncId) (N:Nat) (w0:World) (c:Code) (Q:Post) (L:Fm) (ds:List Deferred) (H:Mm):Prop:=
 ∀ b w,Own w0 H w->∀ a:Act,a.tmps.size=N->fr a=lk L b->a.defers=ds->AtF P f c (LQ N Q) a w
theorem Mc {c:Code}(h:J P none N w0 c Q L ds H):JA P f N w0 c Q L ds H:=fun b w hO a hs hf hd=> .of (h b w hO a hs hf hd)
def thenA (P:Program) (f:FuncId) (N:Nat) (w0:World) (y:Code) (Q:Post):Post:=thenQ (fun σ ds w=>∀ a:Act,a.tmps.size=N->fr a=σ->a.defers=ds->AtF P f y (LQ N Q) a w) Q
theorem Gj {x y:Code}(h:JA P f N w0 x (thenA P f N w0 y Q) L ds H):JA P f N w0 (.seq x y) Q L ds H:=fun b w hO a hs hf hd=>
 AtF.seq (K:=fun a w=>a.tmps.size=N/\∀ a':Act,a'.tmps.size=N->fr a'=fr a->a'.defers=a.defers->AtF P f y (LQ N Q) a' w)
  ((h b w hO a hs hf hd).mono fun e a w hq=>by cases e<;>exact hq) fun a w hq=>hq.2 a hq.1 U U
theorem Ew {y:Code}(h:JA P f N w0 y Q L ds H):JQ w0 (thenA P f N w0 y Q) .normal L ds H:=h
theorem pq_thenA {y:Code}{c:List PanicEntry}(h:JQ w0 Q (.panic c) L ds H):JQ w0 (thenA P f N w0 y Q) (.panic c) L ds H:=h
def blockA (Q:Post):Post
 | .normal,σ,ds,w=>Q .normal σ ds w
 | .panic c,σ,ds,w=>Q (.panic c) σ ds w
 |_,_,_,_=>False
theorem ja_block {id:Nat}{c:Code}(h:JA P f N w0 c (blockA Q) L ds H):JA P f N w0 (.block id c) Q L ds H:=fun b w hO a hs hf hd=>
 AtF.block ((h b w hO a hs hf hd).mono fun e a w hq=>by cases e<;>first|exact hq|exact hq.2.elim)
theorem q_blockA (h:JQ w0 Q .normal L ds H):JQ w0 (blockA Q) .normal L ds H:=h
theorem pq_blockA {c:List PanicEntry}(h:JQ w0 Q (.panic c) L ds H):JQ w0 (blockA Q) (.panic c) L ds H:=h
theorem ja_range {α Z:Type}{g:Operand}{ps:List Nat}{assign body:Code}{gf:FuncId}{cap:List Value}{Hc:Mm}{enc:α->List Value}{xs:List α}{fn:Func}
  (hfn:P.funcs[f]? =some fn) (hg:Ev L g (.func (.func gf) #[] cap.toArray)) (hc:∀ args w,(callFunc gf args).run P w= .ok (.enter gf args) w) (it:IterSpecP P w0 gf cap Hc enc xs fv) (hps:∀ x,(enc x).length=ps.length) (hpN:(ps.all fun p=>Nat.blt p N)=true)
  (G:Z->Mm) (φ:Nat->Z->Prop) (B:Mm->Prop) (z0:Z) (h0:φ 0 z0) (hG:(G z0).Sublist H) (hHc:∀ z,Hc.Sublist (G z))
  (round:∀ (l:Nat) (lr:LoopState->Option Code->Loop) (Y X:Mm) (k:Nat) (x:α) (z:Z),LrOk lr->xs[k]? =some x->φ k z->
   J P (some l) N w0 assign (assignQ P l N body (roundQP w0 (fun z=>X++((l, .loop (lr .busy none))::(Y++G z))) (φ (k+1)) Y fv B)) (psL ps (enc x) L) [] (X++((l, .loop (lr .ready none))::(Y++G z))))
  (done:∀ D z,φ xs.length z->JQ w0 Q .normal L ({target:= .collected D,args:= #[]}::ds) ((D, .deferred (some []))::G z))
  (stopP:∀ D H1,B H1->JQ w0 Q (.panic [{v:=fv,recovered:=false}]) L ({target:= .collected D,args:= #[]}::ds) ((D, .deferred (some []))::H1)):
  JA P f N w0 (.rangeFunc g ps.toArray assign body) Q L ds H:=fun b w hO a hsz hf hd=>by
 have hO':=hO.sub hG;obtain⟨lr,hlr⟩:∃ lr:LoopState->Option Code->Loop,lr=fun st pe=>{state:=st,pending:=pe,fn:=f,tmps:=a.tmps,params:=ps.toArray,assign,body,defers:=w.heap.size}:=⟨_,rfl⟩
 have hl:LrOk lr:=by subst hlr;exact⟨fun _ _=>rfl,fun _ _ _=>rfl,fun _ _ _ _=>rfl,fun _ _=>rfl⟩
 have hO1:=(hO'.alloc (.deferred (some []))).alloc (.loop (lr .ready none));rw[World.size_alloc] at hO1;obtain⟨D,hDw⟩:∃ D,D=w.heap.size:=⟨_,rfl⟩;obtain⟨l,hlw⟩:∃ l,l=w.heap.size+1:=⟨_,rfl⟩;rw[<- hlw,<- hDw] at hO1;have hcond:=it l (fun k H=>∃ z,φ k z/\H=(l, .loop (lr .ready none))::([(D, .deferred (some []))]++G z))
  (fun H'=>∃ H1,H'=[(D, .deferred (some []))]++H1/\B H1)
  (fun k H ⟨z,_,hH⟩=>by rw[hH];exact((hHc z).cons _).cons _)
  (fun k x H X hx ⟨z,hz,hH⟩ w hOw=>by
   rw[hH] at hOw;have hh:w.heap[l]? =some (.loop (lr .ready none)):=hOw.has (l,_) (by simp);have hy:=run_yield (P:=P) (args:=(enc x).toArray) hh (by rw[hlr];simpa using hps x);have htm:a.tmps.size=N:=hsz;have hp:=Lr ps (enc x) a.tmps L b (fun p hp=>by have:=List.all_eq_true.1 hpN p hp;rw[htm];simpa[Nat.blt_eq] using this) hf;refine⟨_,_,_,_,hy,?_⟩;have h1:=round_specP (P:=P) (f:=f) hfn (tmps:=(ps.zip (enc x)).foldl (fun t (p,v)=>t.setIfInBounds p v) a.tmps) (X:=X) (Y:=[(D, .deferred (some []))]) (G:=G) (φ:=φ (k+1)) (B:=B) hl hp.2 (by rw[hp.1];exact htm) (round l lr [(D, .deferred (some []))] X k x z hl hx hz) hOw;have e0:(lr .ready none).fn=f:=by rw[hlr]
   have e1:(lr .ready none).assign=assign:=by rw[hlr]
   have e2:(lr .ready none).body=body:=by rw[hlr]
   have e3:((lr .ready none).params.zip (enc x).toArray).foldl (fun tmps (p:Tmp × Value)=>tmps.setIfInBounds p.1 p.2) (lr .ready none).tmps=(ps.zip (enc x)).foldl (fun t (p,v)=>t.setIfInBounds p v) a.tmps:=by rw[hlr];simp
   rw[e0,e1,e2];refine RoundIn.mono (by rw[<- e3] at h1;exact h1) fun e w' h=>EndP.mono h ?_ fun _ h=>h
   rintro v H' ⟨hv,z',hz',hH'⟩;exact⟨_,hH',hv,z',hz',rfl⟩)
  ((l, .loop (lr .ready none))::([(D, .deferred (some []))]++G z0)) ⟨z0,h0,rfl⟩
 refine AtF.range (l:=l) (mark:=[{target:= .collected D,args:= #[]}]) (w₁:=(w.alloc (.deferred (some []))).alloc (.loop (lr .ready none))) (d:={target:= .fn (.func gf) cap.toArray,args:= #[.func (.yield l) #[] #[]]}) (w₁':=(w.alloc (.deferred (some []))).alloc (.loop (lr .ready none))) (gf:=gf) (args:=(.func (.yield l) #[] #[]::cap).toArray) (w₂:=(w.alloc (.deferred (some []))).alloc (.loop (lr .ready none))) ?enter ?res ?inv ?call
 case call=>
  refine(hcond _ hO1).mono ?_;rintro e w3 (⟨v,H',he,hO3,z,hz,hH'⟩|⟨he,H',hO3,H1,hH',hB⟩)
  ·subst he;rw[hH'] at hO3;have hh:w3.heap[l]? =some (.loop (lr .ready none)):=hO3.has (l,_) (by simp);have h1:=run_endLoop (P:=P) hh (by rw[hl.state];simp);refine⟨_,h1.trans (congrArg (fun q=>Result.ok q _) (hl.pend _ _)),hsz,?_⟩;have:=done D z hz b (w3.putObj l (.loop {lr .ready none with state:= .exhausted})) (hO3.put .h).tail;have hf':fr {a with defers:=[{target:= .collected D,args:= #[]}]++a.defers}=lk L b:=hf;rw[hf'];simp only[List.cons_append,List.nil_append,hd];exact this
  ·subst he;rw[hH'] at hO3;refine⟨hsz,?_⟩;have:=stopP D H1 hB b _ hO3;have hf':fr {a with defers:=[{target:= .collected D,args:= #[]}]++a.defers}=lk L b:=hf;rw[hf'];simp only[List.cons_append,List.nil_append,hd];exact this
 case enter=>
  have:=run_enterLoop_outer (P:=P) (w:=w) f a.tmps ps.toArray assign body;rw[hlr,hlw,hDw];exact this
 case res=>
  have hgb:=hg b;rw[<- hf,<- Er] at hgb;have e:resolve a.eval (rangeCall g l) 0=Deferred.ofValue (a.eval g) #[.func (.yield l) #[] #[]]:=by
   unfold resolve;simp only[List.map_toArray,List.map_cons,List.map_nil]
   rfl
  rw[e];rw[hgb];simp[Deferred.ofValue]
 case inv=>simp[invoke,hc]
variable {fn:Func} {K:Value->Mm->Prop} {B:Mm->Prop}
theorem qm_mark_ret {D:Nat}{H':Mm}(k:JQ w0 (retQM P fn w0 K fv B) .ret L ds H')(hu:Upd H D (.deferred (some [])) (.deferred none) H':=by(repeat (first|exact Upd.h|apply Upd.t|apply Gn));done):
  JQ w0 (retQM P fn w0 K fv B) .ret L ({target:= .collected D,args:= #[]}::ds) H:=fun b w hO=>⟨D,_,rfl,run_takeDeferred (hO.has _ hu.mem),k b _ (hO.put hu)⟩
theorem qm_ret {rs:List ResultVar}{vs:List Value}(hr:fn.results=rs.toArray)(h:ResV P w0 L H rs vs)(hK:∃ H',K (resOf vs) H'/\H'.Sublist H):JQ w0 (retQM P fn w0 K fv B) .ret L [] H:=fun b w hO=>by
 obtain⟨H',h1,h2⟩:=hK;exact⟨_,H',H5 hr h hO,hO.sub h2,h1⟩
theorem pm_mark {D:Nat}{H1:Mm}(hB:B H1):JQ w0 (retQM P fn w0 K fv B) (.panic [{v:=fv,recovered:=false}]) L [{target:= .collected D,args:= #[]}] ((D, .deferred (some []))::H1):=fun b w hO=>⟨rfl,D,_,rfl,run_takeDeferred (hO.has (D,_) (by simp)),H1,(hO.put .h).tail,hB⟩
theorem fn_specA {c:Code}{vs:List Value}(hf:P.funcs[f]? =some fn)(hb:fn.body=some c)(hN:fn.ntmps=N)(hv:Nat.ble vs.length N=true)
  (h:JA P f N w0 c (retQM P fn w0 K fv B) (ini 0 vs) [] H):FSpecP P w0 f vs.toArray H K fv B:=fun w hO=>by
 have hv':vs.length<=N:=by simpa using hv
 refine(callsIn_wide (n:=0)).1 ⟨trivial,fun cs _=> ?_⟩;obtain⟨fb,hfb⟩:∃ fb:Frame,fb={(default:Frame) with fn:=f,kind:= .normal,roundOf:=none}:=⟨_,rfl⟩;have henter:Frame.enter P f vs.toArray .normal=fb.atR {tmps:=vs.toArray++Array.replicate (fn.ntmps - vs.toArray.size) undef,defers:=[]} [.code c]:=by
  subst hfb;simp[Frame.enter,Frame.atR,hf,hb]
 have h1:=h (fun _=>undef) w hO {tmps:=vs.toArray++Array.replicate (fn.ntmps - vs.toArray.size) undef,defers:=[]} (by simp[hN];omega) (by
  funext k
  rw[Jg];unfold fr;simp only[Nat.zero_le,if_true,Nat.sub_zero,Array.getD_eq_getD_getElem?]
  by_cases hk:k<vs.length
  ·simp[Array.getElem?_append,hk]
  ·simp only[List.size_toArray,Array.getElem?_append,hk,if_false];rw[List.getElem?_eq_none qom];simp only[Array.getElem?_replicate]
   split<;>rfl) U
 have hbf:fb.fn=f:=by subst hfb;rfl
 have hbk:fb.kind= .normal:=by subst hfb;rfl
 obtain⟨e,a',w',⟨hs,hq⟩,harr⟩:=h1 fb (by subst hfb;rfl) hbf [] cs;rw[<- henter] at harr;have hl:∀ {ds:List Deferred} {w:World} {tmps:Array Value},RetW P fn w0 K (fun k=>tmps.getD k undef) ds w->LeavesInM Fence.wide 0 P fn tmps (EndP w0 K fv B) ds .returning w:=by
  intro ds
  induction ds with
  |nil=>
   intro w tmps ⟨v,H,hr,hO,hK⟩;unfold LeavesInM LeavesIn;exact⟨v,hr _ U, .inl ⟨v,H,rfl,hO,hK⟩⟩
  |cons d ds ih=>
   intro w tmps ⟨D,w',h1,h2,h3⟩;unfold LeavesInM;exact⟨by simp, .inl ⟨D,w',h1,h2,ih h3⟩⟩
 have hp:∀ {ds:List Deferred} {w:World} {tmps:Array Value},PanW P w0 B ds w->LeavesInM Fence.wide 0 P fn tmps (EndP w0 K fv B) ds (.panicking [{v:=fv,recovered:=false}]) w:=by
  intro ds
  induction ds with
  |nil=>
   intro w tmps ⟨H,hO,hB⟩;unfold LeavesInM LeavesIn;exact .inr ⟨rfl,H,hO,hB⟩
  |cons d ds ih=>
   intro w tmps ⟨D,w',h1,h2,h3⟩;unfold LeavesInM;exact⟨by simp, .inl ⟨D,w',h1,h2,ih h3⟩⟩
 have fin:∀ (fr0:Frame) (m:FrameMode),fr0.mode=m->fr0.defers=a'.defers->fr0.tmps=a'.tmps->fr0.fn=f->fr0.kind= .normal->StepsIn (Machine.fenced P Fence.wide) P (lone (Frame.enter P f vs.toArray .normal) cs w) (lone fr0 cs w')->LeavesInM Fence.wide 0 P fn a'.tmps (EndP w0 K fv B) a'.defers m w'->
   ∃ e w'' fr',EndP w0 K fv B e w''/\ComesIn (Machine.fenced P Fence.wide) P (lone (Frame.enter P f vs.toArray .normal) cs w) (lone fr' cs w'') e/\fr'.fn=f/\fr'.leaving P w'' e:=fun fr0 m h1 h2 h3 h4 h5 hst hle=>by
  obtain⟨e',w'',fr',hR,hs,hfn,hl⟩:=leaves_stepsInM a'.defers m w' fr0 cs h1 h2 h3 (by rw[h4];exact hf) h5 trivial (room_wide _) hle;exact⟨e',w'',fr',hR,ComesIn.of_steps hst hs,hfn.trans h4,hl⟩
 cases e with
 |normal=>exact fin {fb.atR a' [] with mode:= .returning} .returning rfl rfl rfl hbf hbk (StepsIn.trans harr (.one (fenced_wide _ _) (stepR_end (by subst hfb;rfl)))) (hl hq)
 |ret=>
  obtain⟨todo,hs0⟩:=harr.1 (by subst hfb;rfl);exact fin {fb.atR a' todo with mode:= .returning} .returning U U U hbf hbk hs0 (hl hq)
 |panic chain=>
  obtain⟨rfl,hq⟩:=hq;obtain⟨todo,hs0⟩:=harr;exact fin {fb.atR a' todo with mode:= .panicking _} _ U U U hbf hbk hs0 (hp hq)
 |_=>exact hq.elim
end
section
variable {P:Program} {w0:World} {L:Fm} {H:Mm} {ty xt yt:TypeId} {x y:Operand}
theorem It {m n:Nat}(hm:m<9223372036854775808)(hn:n<9223372036854775808)(hx:Ev L x (Vi (m:Int)))(hy:Ev L y (Vi (n:Int))):Yl P w0 (.binOp .and xt x y yt) ty L H (Vi ((m &&& n:Nat):Int)):=Bk U fun b w=>by
 have t64:=two64;have e:(BitVec.ofInt 64 (m:Int) &&& BitVec.ofInt 64 (n:Int)).toNat=m &&& n:=by
  rw[D4,D4,BitVec.toNat_and,BitVec.toNat_ofNat,BitVec.toNat_ofNat,Nat.mod_eq_of_lt qom,Nat.mod_eq_of_lt qom]
 have hl:m &&& n<=m:=Nat.and_le_left;have e2:IntKind.i64.wrap ((m &&& n:Nat):Int)=((m &&& n:Nat):Int):=IntWalk.i64_in _ qom;have e3:(Op.intBits .and .i64 (m:Int) (n:Int)).run P w= .ok (Vi ((m &&& n:Nat):Int)) w:=by
  show Result.ok (Value.int .i64 (IntKind.i64.wrap ((BitVec.ofInt 64 (m:Int) &&& BitVec.ofInt 64 (n:Int)).toNat:Int))) w=_;rw[e,e2]
 simp[exO,execOp,hx b,hy b,binOp,eqGuard,Sem.run_bind,Result.andThen,e3]
theorem yl_shrI {m n:Nat}(hn:n<64)(hx:Ev L x (Vi (m:Int)))(hy:Ev L y (Vi (n:Int))):Yl P w0 (.binOp .shr xt x y yt) ty L H (Vi ((m / 2 ^ n:Nat):Int)):=Bk U fun b w=>by
 have e1: ¬ (n:Int)<0:=by omega
 have e2:min n 64=n:=by omega
 have e3:(Op.shift .shr .i64 (m:Int) .i64 (n:Int)).run P w= .ok (Vi ((m / 2 ^ n:Nat):Int)) w:=by
  unfold Op.shift;rw[if_neg e1];simp only[Int.toNat_natCast,IntKind.bits,e2];show Result.ok (Value.int .i64 ((m:Int).fdiv (2 ^ n))) w=_;rw[Int.fdiv_eq_ediv_of_nonneg _ (by exact_mod_cast Nat.zero_le _)]
  congr 2
 simp[exO,execOp,hx b,hy b,binOp,eqGuard,Sem.run_bind,Result.andThen,e3]
theorem Dw {a c:Nat}(hx:Ev L x (Vi (a:Nat)))(hy:Ev L y (Vi (c:Nat)))(h:a<=1000000000/\1<=c):Yl P w0 (.binOp .quo xt x y yt) ty L H (Vi ((a / c:Nat):Int)):=by
 have h:=yl_quo (P:=P) (w0:=w0) (H:=H) (ty:=ty) (xt:=xt) (yt:=yt) hx hy qom
 rwa [show (a:Int) / c=((a / c:Nat):Int) by omega] at h
theorem Ga {a c:Nat}(hx:Ev L x (Vi (a:Nat)))(hy:Ev L y (Vi (c:Nat)))(h:1<=c):Yl P w0 (.binOp .rem xt x y yt) ty L H (Vi ((a % c:Nat):Int)):=by
 have h:=Mj (P:=P) (w0:=w0) (H:=H) (ty:=ty) (xt:=xt) (yt:=yt) hx hy qom
 rwa [show (a:Int) % c=((a % c:Nat):Int) by omega] at h
theorem Dd {a c:Nat}(hx:Ev L x (Vi (a:Nat)))(hy:Ev L y (Vi (c:Nat)))(h:c<=a/\a<=1000000000):Yl P w0 (.binOp .sub xt x y yt) ty L H (Vi ((a - c:Nat):Int)):=by
 have h:=E2 (P:=P) (w0:=w0) (H:=H) (ty:=ty) (xt:=xt) (yt:=yt) hx hy qom
 rwa [show (a:Int) - c=((a - c:Nat):Int) by omega] at h
theorem Iu {a c:Nat}(hx:Ev L x (Vi (a:Nat)))(hy:Ev L y (Vi (c:Nat)))(h:a*c<=1000000000):Yl P w0 (.binOp .mul xt x y yt) ty L H (Vi ((a*c:Nat):Int)):=by
 have e:(a:Int)*c=((a*c:Nat):Int):=by simp
 have h:=Fn (P:=P) (w0:=w0) (H:=H) (ty:=ty) (xt:=xt) (yt:=yt) hx hy (by rw[e];omega)
 rwa [e] at h
end
abbrev hdC (h:Hd):List Value:=h.map fun (x:Nat)=>(encNI x)
theorem hdC_nth {h:Hd}{k:Nat}(hk:k<h.length):(hdC h)[k]? =some (encNI (gd h k)):=by
 rw[List.getElem?_map,List.getElem?_eq_getElem hk,Ar hk];rfl
theorem Ci {n o:Nat}{h:Hd}(hc:Cells w0 H n o (hdC h)){k:Nat}(hk:k<h.length):Cell w0 H ⟨n,o+((k:Nat):Int).toNat*1,none⟩ (Vi (gd h k:Nat)):=by
 have:=hc k _ (hdC_nth hk)
 rwa [show ((k:Nat):Int).toNat*1=k by omega]
theorem Ld (n:Nat):n &&& 1=n % 2:=Nat.and_one_is_mod n
theorem bit_eq {h:Hd}{i:Nat}:((gd h (i / 16) / 2 ^ (15 - i % 16) &&& 1:Nat):Int)=b2i (hbit h i):=by
 rw[Ld];unfold hbit;rw[Nat.testBit_eq_decide_div_mod_eq];unfold b2i
 by_cases e:gd h (i / 16) / 2 ^ (15 - i % 16) % 2=1
 ·rw[e];simp
 ·have:gd h (i / 16) / 2 ^ (15 - i % 16) % 2=0:=by omega
  rw[this];simp
theorem N2 (h:Hd)(hh:HdOk h)(i:Nat)(hi:i<160):
  FSpec prog w0 211 #[.agg (hdC h).toArray,Vi (i:Nat)] H (Still (Vi (b2i (hbit h i))) H):=by
 refine Am func211 U ntmps211 U ?_;have hlen:=hh.len;have hlt:=Cp hh (i / 16);have hdl:gd h (i / 16) / 2 ^ (15 - i % 16)<=gd h (i / 16):=Nat.div_le_self _ _;refine rDt 2 U (e_ (Ot U cs_) ?_ U);rintro _ _ ⟨n2,rfl,rfl⟩;refine rOt 6 U (y_ (Dw (c:=16) (T U) Al qom) ?_ U);refine y_ (Bm (T U) (T U) runUnderlying32 sizeOf3 qom) ?_ U;refine y_ (Om U isAgg3 (by first|exact c_o|exact Ci (Ae fnd_h) qom)) ?_ U;refine rOt 1 U (y_ (Ga (c:=16) (T U) Al qom) ?_ U);refine y_ (Dd (a:=15) Al (T U) qom) ?_ U;refine y_ (yl_shrI qom (T U) (T U)) ?_ U;refine y_ (It (n:=1) qom qom (T U) Al) ?_ U;refine rOt 4 U (Ai U (Ol U) ?_);exact⟨_,⟨vint bit_eq,rfl⟩,sbt⟩
def bkL (bs:List Nat):List (Nat × Nat):=(List.range bs.length).map fun k=>(bs.length - 1 - k,gd bs (bs.length - 1 - k))
theorem Le (bs:List Nat):(bkL bs).length=bs.length:=by simp[bkL]
theorem bkL_get {bs:List Nat}{k:Nat}(h:k<bs.length):(bkL bs)[k]? =some (bs.length - 1 - k,gd bs (bs.length - 1 - k)):=by
 unfold bkL;rw[List.getElem?_map,List.getElem?_range h];rfl
theorem bkL_inv {bs:List Nat}{k:Nat}{x:Nat × Nat}(h:(bkL bs)[k]? =some x):k<bs.length/\x=(bs.length - 1 - k,gd bs (bs.length - 1 - k)):=by
 have hk:k<bs.length:=by
  have:=(List.getElem?_eq_some_iff.1 h).1
  rwa [Le] at this
 rw[bkL_get hk] at h;exact⟨hk,(Option.some.inj h).symm⟩
abbrev encBk (x:Nat × Nat):List Value:=[Vi (x.1:Nat),Vi (x.2:Nat)]
abbrev encB1 (x:Nat):List Value:=[Vi (x:Nat)]
theorem back_s (q:Option Addr)(n c:Nat):
  FSpec prog w0 210 #[.slice q n c] H (fun u H'=>∃ m,u= .func (.func 227) #[] #[Pt m 0]/\H'=(m,Cl [.slice q n c] 109)::H):=by
 refine Am func210 U ntmps210 U (rDt 2 U (e_ (Ot U cs_) ?_ U));rintro _ _ ⟨n1,rfl,rfl⟩;refine rOt 5 U (y_ (Bn (.cons (T U) .nil)) (rOt 4 U (Ai U (Ol U) ?_)) U);exact⟨_,⟨_,rfl,rfl⟩,sbt⟩
theorem ix_cell {q:Option Addr}{bs:List Nat}(hA:Arr w0 H q 1 encB1 bs){i:Int}(hi:0<=i/\i<bs.length):Cell w0 H ⟨bq q,oq q+i.toNat*1,none⟩ (Vi (gd bs i.toNat:Nat)):=
 (hA i.toNat (gd bs i.toNat) (Cy qom)).2 0 _ U
theorem back_it {q:Option Addr}{c m:Nat}{bs:List Nat}(fv:Value)(hm:Fnd H m (Cl [.slice q bs.length c] 109))(hA:Arr w0 H q 1 encB1 bs)(hl:bs.length<=100000):IterSpecP prog w0 227 [Pt m 0] H encBk (bkL bs) fv:=by
 intro l S B hHc hY H0 hS0;have hY0:=fun k x H hx hS=>YSpecP.mono (hY k x H [] hx hS) (K':=fun v H1=>v= .bool true/\S (k+1) H1) (by rintro v _ ⟨H1,rfl,h⟩;exact h)
 refine Bj func227 U ntmps227 U ?_;have hS:=hS0;refine rDt 2 U (y_ (Om U isAgg109 (by first|exact c_o|exact Cell.mono (Ae hm 0 _ U) (hHc _ _ hS0))) ?_ U);refine rOt 1 U (y_ (E2 (T U) Al qom) ?_ U);refine rOt 4 U ?_;refine A8 (X:=Nat × Mm) (V:=fun ⟨k,Hx⟩=>[(3,Vi ((bs.length:Int) - 1 - k))]) (C:=[(0,_),(1,_)]) (G:=fun ⟨k,Hx⟩=>Hx) (φ:=fun ⟨k,Hx⟩=>k<=bs.length/\S k Hx) (μ:=fun ⟨k,Hx⟩=>bs.length - k) (x0:=(0,H0)) ?_ (kg U) ⟨(by first|exact Aa rfl|(refine Cb (Aa rfl) (vint ?_);omega)),trivial⟩ sb0 ?_
 ·exact⟨Nat.zero_le _,hS0⟩
 rintro⟨k,Hx⟩ ⟨hk,hS1⟩;refine rDt 7 U ?_;refine jcd U (fun c8=> ?_) (fun c8=> ?_)
 ·refine rCt 8 U (y_ (Om U isAgg109 (by first|exact c_o|exact Cell.mono (Ae hm 0 _ U) (hHc _ _ hS1))) ?_ U);refine rOt 1 U (y_ (Cd (T U) (T U) runUnderlying109 sizeOf3 qom (by first|exact rfl|exact(hA (bs.length - 1 - k) (gd bs (bs.length - 1 - k)) (Cy qom)).1)) ?_ U);refine y_ (Om U isAgg3 (by first|exact c_o|exact Cell.mono (ix_cell hA qom) (hHc _ _ hS1))) ?_ U;refine p_ (effP_yield (T rfl) (.cons (Cb (Aa rfl) (vint (show ((bs.length:Int) - 1 - (k:Nat))=((bs.length - 1 - k:Nat):Int) by omega))) (.cons (Cb (Aa rfl) (vint (show ((gd bs ((bs.length:Int) - 1 - (k:Nat)).toNat:Nat):Int)=((gd bs (bs.length - 1 - k):Nat):Int) by rw[show ((bs.length:Int) - 1 - (k:Nat)).toNat=bs.length - 1 - k by omega]))) .nil)) (hY0 k (bs.length - 1 - k,gd bs (bs.length - 1 - k)) Hx (bkL_get qom) hS1)) ?_ (by rintro _ hB;(repeat (first|refine By ?_|refine Bw ?_));exact Bi hB sb0) rfl;rintro _ H1 ⟨rfl,hS2⟩;refine A6 (Bq (T U)) U Ad ?_;refine rOt 8 U (y_ (E2 (T U) Al qom) ?_ U);refine rOt 2 U ?_;refine Au ((k+1,H1)) ?_ ?_ ⟨(by first|exact Aa U|(refine Cb (Aa U) (vint ?_);omega)),trivial⟩ (kg U) ?_
  ·exact⟨by omega,hS2⟩
  ·first|omega|(simp only[];omega)
  ·exact sbt
 ·obtain rfl:k=bs.length:=by omega
  refine rCt 2 U (An (rXt 1 U (qp_end U .nil ?_)));exact⟨_,by rw[Le];exact hS1,sb0⟩
section
variable {most:Nat} {mk vl:Nat->Bool} {ns ns1 ns2 ns3:Ns} {j id id' z o:Nat}
theorem rl_n1 (h1:mkF most ns (2*j+1) id 0=none):rlF most mk vl (j+1) ns id=none:=by rw[rlF,h1]
theorem rl_n2 (h1:mkF most ns (2*j+1) id 0=some (z,ns1))(h2:mkF most ns1 (2*j+1) 0 id=none):rlF most mk vl (j+1) ns id=none:=by rw[rlF,h1];simp only[h2]
theorem rl_n3 (h1:mkF most ns (2*j+1) id 0=some (z,ns1))(h2:mkF most ns1 (2*j+1) 0 id=some (o,ns2))(hm:mk j=false)(h3:mkF most ns2 (2*j) z o=none):rlF most mk vl (j+1) ns id=none:=by rw[rlF,h1];simp only[h2,hm,h3,if_true]
theorem rl_y0 (h1:mkF most ns (2*j+1) id 0=some (z,ns1))(h2:mkF most ns1 (2*j+1) 0 id=some (o,ns2))(hm:mk j=false)(h3:mkF most ns2 (2*j) z o=some (id',ns3)):rlF most mk vl (j+1) ns id=rlF most mk vl j ns3 id':=by rw[rlF,h1];simp only[h2,hm,h3,if_true]
theorem rl_y1 (h1:mkF most ns (2*j+1) id 0=some (z,ns1))(h2:mkF most ns1 (2*j+1) 0 id=some (o,ns2))(hm:mk j=true)(hv:vl j=false):rlF most mk vl (j+1) ns id=rlF most mk vl j ns2 z:=by rw[rlF,h1];simp[h2,hm,hv]
theorem rl_y2 (h1:mkF most ns (2*j+1) id 0=some (z,ns1))(h2:mkF most ns1 (2*j+1) 0 id=some (o,ns2))(hm:mk j=true)(hv:vl j=true):rlF most mk vl (j+1) ns id=rlF most mk vl j ns2 o:=by rw[rlF,h1];simp[h2,hm,hv]
theorem st_s (hm:mk j=false):stF most mk vl (j+1) ns id=stF most mk vl j ns id:=by rw[stF,if_pos hm]
theorem st_n0 (hm:mk j=true)(hv:vl j=false)(h1:mkF most ns (2*j) id 0=none):stF most mk vl (j+1) ns id=none:=by rw[stF];simp[hm,hv,h1]
theorem st_y0 (hm:mk j=true)(hv:vl j=false)(h1:mkF most ns (2*j) id 0=some (id',ns1)):stF most mk vl (j+1) ns id=stF most mk vl j ns1 id':=by rw[stF];simp[hm,hv,h1]
theorem st_n1 (hm:mk j=true)(hv:vl j=true)(h1:mkF most ns (2*j) 0 id=none):stF most mk vl (j+1) ns id=none:=by rw[stF];simp[hm,hv,h1]
theorem st_y1 (hm:mk j=true)(hv:vl j=true)(h1:mkF most ns (2*j) 0 id=some (id',ns1)):stF most mk vl (j+1) ns id=stF most mk vl j ns1 id':=by rw[stF];simp[hm,hv,h1]
end
theorem b2i_n0 {b:Bool}: ¬ b2i b=0↔b=true:=by cases b<;>simp[b2i]
theorem Af {h:Hd}(hh:HdOk h):(hdC h).length=10:=by rw[List.length_map,hh.len]
abbrev mdC (m:Md):List Value:=hdC m.1++hdC m.2
theorem E7 {n:Nat}{t:TypeId}{m:Md}(h:Fnd H n (Cl (mdC m) t)):Cells w0 H n 0 (hdC m.1):=fun i v hi=>Ae h i v (by rw[List.getElem?_append_left (by exact(List.getElem?_eq_some_iff.1 hi).1)];exact hi)
theorem El {n:Nat}{t:TypeId}{m:Md}(hm:HdOk m.1)(h:Fnd H n (Cl (mdC m) t)):Cells w0 H n (0+10) (hdC m.2):=fun i v hi=>by
 have:=Ae (w0:=w0) h (10+i) v (by rw[List.getElem?_append_right (by simp[hm.len])];simp[hm.len];simpa using hi)
 rwa [<- Nat.add_assoc] at this
theorem relation_s {w0:World}{D:Sd}{v:Sv}{ns:Ns}{R:Mm}(hB:Arr w0 R D.qb 1 encB1 D.bs)(hbs:BsOk D.bs)(hst:StOk D v ns)(mo:Md)(h1:HdOk mo.1)(h2:HdOk mo.2):
  FSpecP prog w0 168 #[Pt (D.p) 0, .agg (mdC mo).toArray] (SM D v ns++R) (OpK D (relF D.most.toNat D.bs.length (xh D.bs mo.1) (xh D.bs mo.2) ns) R) (.iface 195 (.agg #[])) (OpB D (relF D.most.toNat D.bs.length (xh D.bs mo.1) (xh D.bs mo.2) ns) ns R):=by
 refine fn_specA func168 U ntmps168 U ?_;have hbl:=hst.bl;have hw:=hst.w;refine Gj (Mc (rDt 1 U (e_ (Ot U cs_) ?_ U)));rintro _ _ ⟨n2,rfl,rfl⟩;refine e_ (Ot U cs_) ?_ U;rintro _ _ ⟨n3,rfl,rfl⟩;refine rOt 2 U (Ew (Gj (Mc (rDt 1 U (e_ (Ag zeroValue3 cs_) ?_ U)))));rintro _ _ ⟨n5,rfl,rfl⟩;refine Bo (Aj (T U) Al sizeOf3) U Ad ?_;rintro _ _ ⟨rfl,rfl⟩;refine rOt 1 U (Ew (Gj (Gj (Mc (rDt 1 U (y_ (Om U isAgg68 qco) ?_ U))))));refine rOt 2 U ?_;refine y_ (Om U isAgg109 qco) ?_ U;refine e_ (Ah (evq1 U) call210 (back_s D.qb D.bs.length D.cb)) ?_ U;rintro _ _ ⟨m,rfl,rfl⟩;refine rOt 1 U (Ew (ja_block ?_));refine ja_range (Z:=Nat × Sv × Ns) func168 (T rfl) call227 (back_it (.iface 195 (.agg #[])) (H:=(m,Cl [.slice D.qb D.bs.length D.cb] 109)::R) fnd_h (hB.mono sbt) qom) (fun _=>rfl) rfl (fun ⟨id,vi,nsi⟩=>(m,Cl [.slice D.qb D.bs.length D.cb] 109)::(n5,Cl [Vi (id:Nat)] 3)::(n3,Cl (mdC mo) 144)::(n2,Cl [Pt (D.p) 0] 68)::(SM D vi nsi++R)) (fun k ⟨id,vi,nsi⟩=>k<=D.bs.length/\StOk D vi nsi/\Gr (2*D.bs.length) ns nsi/\id<nsi.length/\2*(D.bs.length - k)<=lvl nsi id/\(relF D.most.toNat D.bs.length (xh D.bs mo.1) (xh D.bs mo.2) ns)=rlF D.most.toNat (xh D.bs mo.1) (xh D.bs mo.2) (D.bs.length - k) nsi id) (OpB D (relF D.most.toNat D.bs.length (xh D.bs mo.1) (xh D.bs mo.2) ns) ns R) ((1,v,ns)) ?_ sbt ?_ ?_ ?_ ?_
 ·exact⟨Nat.zero_le _,hst, .refl hw,by have:=hw.two;omega,by rw[hw.lv1];omega,rfl⟩
 ·intro _;exact sbt
 ·rintro l lr Y X k x ⟨id,vi,nsi⟩ hl hx ⟨hk,hsti,gi,hid,hlv,hF⟩;obtain⟨hkl,rfl⟩:=bkL_inv hx;obtain⟨j,hj⟩:∃ j,D.bs.length - 1 - k=j:=⟨_,rfl⟩;rw[hj];have hj1:D.bs.length - k=j+1:=by omega
  have hj2:D.bs.length - (k+1)=j:=by omega
  rw[hj1] at hlv hF;have hwi:=hsti.w;have ht:=hwi.two;have hl0:=hwi.lv0;have hjb:gd D.bs j<160:=hbs.lt _ (Ax qom);refine Jf [(2,_),(3,_),(5,_),(15,_),(16,_)] (kg U) (rDt 8 U (Io hl ?_));refine rDt 2 U (Bf 11 (plq5 [(6,true),(7,true),(8,true),(9,true),(10,true),(5,false)]) ((n5,Cl [Vi (id:Nat)] 3)::(n3,Cl (mdC mo) 144)::(n2,Cl [Pt (D.p) 0] 68)::R) mixd qkr sbt ?_ np_allR);refine o_y U (Om U isAgg68 qco) ?_ U Ad;refine rPt 1 U (o_y U (Iu (a:=2) Al (T U) qom) ?_ U Ad);refine o_y U (Cw (c:=1) (T U) Al qom) ?_ U Ad;refine o_y U (Om U isAgg3 qco) ?_ U Ad;refine o_y U (Om U isAgg68 qco) ?_ U Ad;refine rPt 1 U (o_y U (Iu (a:=2) Al (T U) qom) ?_ U Ad);refine o_y U (Cw (c:=1) (T U) Al qom) ?_ U Ad;refine o_y U (Om U isAgg3 qco) ?_ U Ad;refine o_p rfl (As (.cons (T rfl) (.cons (T rfl) (.cons (T rfl) (.cons Al .nil)))) call143 (A5 (M:=SM D vi nsi) (Hk hsti _ (2*j+1) id 0 hid qom qom qom qom) locqc)) ?_ (by rintro _ ⟨⟨v1,ns1⟩,⟨e1,g1,hst1⟩,rfl⟩;(repeat refine By ?_);exact Ic (H1:=SM D v1 ns1++R) ⟨(v1,ns1),⟨by rw[hF];exact rl_n1 e1,gi.trans g1,hst1⟩,rfl⟩ sbt) rfl Ad;rintro _ _ ⟨⟨r1,v1,ns1⟩,⟨rfl,e1,hst1⟩,rfl⟩
  dsimp only at e1 hst1
  obtain⟨g1,i1⟩:=Fp hwi hid qom qom qom qom e1;have hid1:=Nat.lt_of_lt_of_le hid g1.le;have ht1:=g1.w.two;have hl1:=g1.lvl hid;have hl01:=g1.w.lv0;refine⟨sbt,(Av U ?_)⟩;refine p_ (As (.cons (T rfl) (.cons (T rfl) (.cons Al (.cons (T rfl) .nil)))) call143 (A5 (M:=SM D v1 ns1) (Hk hst1 _ (2*j+1) 0 id qom hid1 qom qom qom) locqc)) ?_ (by rintro _ ⟨⟨v2,ns2⟩,⟨e2,g2,hst2⟩,rfl⟩;(repeat refine By ?_);exact Ic (H1:=SM D v2 ns2++R) ⟨(v2,ns2),⟨by rw[hF];exact rl_n2 e1 e2,(gi.trans g1).trans g2,hst2⟩,rfl⟩ sbt) rfl;rintro _ _ ⟨⟨r2,v2,ns2⟩,⟨rfl,e2,hst2⟩,rfl⟩
  dsimp only at e2 hst2
  obtain⟨g2,i2⟩:=Fp g1.w qom hid1 qom qom qom e2;have j1:=i1.gr g1.w g2;have l1:=j1.lv;have l2:=i2.lv;refine rOt 8 U ?_;refine y_ (On U isAgg32 sizeOf32 (Af h1) (by exact E7 fndq)) ?_ U;refine rOt 1 U (y_ (Ao (evq2 U U) call211 (fun H' hs=>N2 mo.1 h1 (gd D.bs j) hjb)) (rOt 4 U ?_) U);refine jcd U (fun c30=> ?_) (fun c30=> ?_)
  ·have hm:xh D.bs mo.1 j=false:=b2i_0.1 c30;refine rCt 1 U (y_ (Om U isAgg68 qco) ?_ U);refine rOt 1 U (y_ (Iu (a:=2) Al (T U) qom) ?_ U);refine rOt 2 U ?_;refine p_ (As (evq4 rfl rfl rfl rfl) call143 (A5 (M:=SM D v2 ns2) (Hk hst2 _ (2*j) r1 r2 j1.lt i2.lt qom qom qom) locqc)) ?_ (by rintro _ ⟨⟨v3,ns3⟩,⟨e3,g3,hst3⟩,rfl⟩;(repeat refine By ?_);exact Ic (H1:=SM D v3 ns3++R) ⟨(v3,ns3),⟨by rw[hF];exact rl_n3 e1 e2 hm e3,((gi.trans g1).trans g2).trans g3,hst3⟩,rfl⟩ sbt) rfl;rintro _ _ ⟨⟨r3,v3,ns3⟩,⟨rfl,e3,hst3⟩,rfl⟩
   dsimp only at e3 hst3
   obtain⟨g3,i3⟩:=Fp g2.w j1.lt i2.lt qom qom qom e3;refine Bo (Oq U U sizeOf3) U Ad ?_;rintro _ _ ⟨rfl,rfl⟩;refine rOt 3 U (Gw ((r3,v3,ns3)) ?_ sbt);exact⟨by omega,hst3,((gi.trans g1).trans g2).trans g3,i3.lt,by rw[hj2];exact i3.lv,by rw[hj2,hF];exact rl_y0 e1 e2 hm e3⟩
  ·have hm:xh D.bs mo.1 j=true:=b2i_n0.1 c30;refine rCt 3 U ?_;refine y_ (On U isAgg32 sizeOf32 (Af h2) (by exact El h1 fndq)) ?_ U;refine rOt 1 U (y_ (Ao (evq2 U U) call211 (fun H' hs=>N2 mo.2 h2 (gd D.bs j) hjb)) (kO tb 4 [5,8,9,42] rfl U ?_) U);refine jcd U (fun c42=> ?_) (fun c42=> ?_)
   ·have hv:xh D.bs mo.2 j=false:=b2i_0.1 c42;refine rCt 2 U ?_;refine Bo (Oq U U sizeOf3) U Ad ?_;rintro _ _ ⟨rfl,rfl⟩;refine rOt 3 U (Gw ((r1,v2,ns2)) ?_ sbt);exact⟨by omega,hst2,(gi.trans g1).trans g2,j1.lt,by rw[hj2];omega,by rw[hj2,hF];exact rl_y1 e1 e2 hm hv⟩
   ·have hv:xh D.bs mo.2 j=true:=b2i_n0.1 c42;refine rCt 2 U ?_;refine Bo (Oq U U sizeOf3) U Ad ?_;rintro _ _ ⟨rfl,rfl⟩;refine rOt 3 U (Gw ((r2,v2,ns2)) ?_ sbt);exact⟨by omega,hst2,(gi.trans g1).trans g2,i2.lt,by rw[hj2];omega,by rw[hj2,hF];exact rl_y2 e1 e2 hm hv⟩
 ·rintro D0 ⟨id,vi,nsi⟩ ⟨hk,hsti,gi,hid,hlv,hF⟩;rw[Le,Nat.sub_self] at hF;refine q_blockA (Ew (Gj (Mc (rDt 1 U (y_ (Om U isAgg3 qco) ?_ U)))));refine rOt 2 U (Ew (Mc (rDt 1 U (qm_mark_ret (qm_ret U (Ol U) ?_)))));exact⟨_,⟨(id,vi,nsi),⟨rfl,hF,hsti⟩,rfl⟩,sbt⟩
 ·intro D9 H9 hB9
  repeat (first|refine pq_thenA ?_|refine pq_blockA ?_)
  exact pm_mark hB9
theorem set_s {w0:World}{D:Sd}{v:Sv}{ns:Ns}{R:Mm}(hB:Arr w0 R D.qb 1 encB1 D.bs)(hbs:BsOk D.bs)(hst:StOk D v ns)(mo:Md)(h1:HdOk mo.1)(h2:HdOk mo.2):
  FSpecP prog w0 205 #[Pt (D.p) 0, .agg (mdC mo).toArray] (SM D v ns++R) (OpK D (setF D.most.toNat D.bs.length (xh D.bs mo.1) (xh D.bs mo.2) ns) R) (.iface 195 (.agg #[])) (OpB D (setF D.most.toNat D.bs.length (xh D.bs mo.1) (xh D.bs mo.2) ns) ns R):=by
 refine fn_specA func205 U ntmps205 U ?_;have hbl:=hst.bl;have hw:=hst.w;refine Gj (Mc (rDt 1 U (e_ (Ot U cs_) ?_ U)));rintro _ _ ⟨n2,rfl,rfl⟩;refine e_ (Ot U cs_) ?_ U;rintro _ _ ⟨n3,rfl,rfl⟩;refine rOt 2 U (Ew (Gj (Mc (rDt 1 U (e_ (Ag zeroValue3 cs_) ?_ U)))));rintro _ _ ⟨n5,rfl,rfl⟩;refine Bo (Aj (T U) Al sizeOf3) U Ad ?_;rintro _ _ ⟨rfl,rfl⟩;refine rOt 1 U (Ew (Gj (Gj (Mc (rDt 1 U (y_ (Om U isAgg68 qco) ?_ U))))));refine rOt 2 U ?_;refine y_ (Om U isAgg109 qco) ?_ U;refine e_ (Ah (evq1 U) call210 (back_s D.qb D.bs.length D.cb)) ?_ U;rintro _ _ ⟨m,rfl,rfl⟩;refine rOt 1 U (Ew (ja_block ?_));refine ja_range (Z:=Nat × Sv × Ns) func205 (T rfl) call227 (back_it (.iface 195 (.agg #[])) (H:=(m,Cl [.slice D.qb D.bs.length D.cb] 109)::R) fnd_h (hB.mono sbt) qom) (fun _=>rfl) rfl (fun ⟨id,vi,nsi⟩=>(m,Cl [.slice D.qb D.bs.length D.cb] 109)::(n5,Cl [Vi (id:Nat)] 3)::(n3,Cl (mdC mo) 91)::(n2,Cl [Pt (D.p) 0] 68)::(SM D vi nsi++R)) (fun k ⟨id,vi,nsi⟩=>k<=D.bs.length/\StOk D vi nsi/\Gr (2*D.bs.length) ns nsi/\id<nsi.length/\2*(D.bs.length - k)<=lvl nsi id/\(setF D.most.toNat D.bs.length (xh D.bs mo.1) (xh D.bs mo.2) ns)=stF D.most.toNat (xh D.bs mo.1) (xh D.bs mo.2) (D.bs.length - k) nsi id) (OpB D (setF D.most.toNat D.bs.length (xh D.bs mo.1) (xh D.bs mo.2) ns) ns R) ((1,v,ns)) ?_ sbt ?_ ?_ ?_ ?_
 ·exact⟨Nat.zero_le _,hst, .refl hw,by have:=hw.two;omega,by rw[hw.lv1];omega,rfl⟩
 ·intro _;exact sbt
 ·rintro l lr Y X k x ⟨id,vi,nsi⟩ hl hx ⟨hk,hsti,gi,hid,hlv,hF⟩;obtain⟨hkl,rfl⟩:=bkL_inv hx;obtain⟨j,hj⟩:∃ j,D.bs.length - 1 - k=j:=⟨_,rfl⟩;rw[hj];have hj1:D.bs.length - k=j+1:=by omega
  have hj2:D.bs.length - (k+1)=j:=by omega
  rw[hj1] at hlv hF;have hwi:=hsti.w;have ht:=hwi.two;have hl0:=hwi.lv0;have hjb:gd D.bs j<160:=hbs.lt _ (Ax qom);refine Jf [(2,_),(3,_),(5,_),(13,_),(14,_)] (kg U) (rDt 8 U (Io hl ?_));refine rDt 5 U ?_;refine y_ (On U isAgg32 sizeOf32 (Af h1) (by exact E7 fndq)) ?_ U;refine rOt 1 U (y_ (Ao (evq2 U U) call211 (fun H' hs=>N2 mo.1 h1 (gd D.bs j) hjb)) (rOt 4 U ?_) U);refine jcd U (fun c20=> ?_) (fun c20=> ?_)
  ·have hm:xh D.bs mo.1 j=false:=b2i_0.1 c20;refine rCt 3 U (Gw ((id,vi,nsi)) ?_ sbt);exact⟨by omega,hsti,gi,hid,by rw[hj2];omega,by rw[hj2,hF];exact st_s hm⟩
  ·have hm:xh D.bs mo.1 j=true:=b2i_n0.1 c20;refine rCt 3 U ?_;refine y_ (On U isAgg32 sizeOf32 (Af h2) (by exact El h1 fndq)) ?_ U;refine rOt 1 U (y_ (Ao (evq2 U U) call211 (fun H' hs=>N2 mo.2 h2 (gd D.bs j) hjb)) (rOt 4 U ?_) U);refine jcd U (fun c26=> ?_) (fun c26=> ?_)
   ·have hv:xh D.bs mo.2 j=false:=b2i_0.1 c26;refine rCt 1 U (y_ (Om U isAgg68 qco) ?_ U);refine rOt 1 U (y_ (Iu (a:=2) Al (T U) qom) ?_ U);refine y_ (Om U isAgg3 qco) ?_ U;refine p_ (As (.cons (T rfl) (.cons (T rfl) (.cons (T rfl) (.cons Al .nil)))) call143 (A5 (M:=SM D vi nsi) (Hk hsti _ (2*j) id 0 hid qom qom qom qom) locqc)) ?_ (by rintro _ ⟨⟨v1,ns1⟩,⟨e1,g1,hst1⟩,rfl⟩;(repeat refine By ?_);exact Ic (H1:=SM D v1 ns1++R) ⟨(v1,ns1),⟨by rw[hF];exact st_n0 hm hv e1,gi.trans g1,hst1⟩,rfl⟩ sbt) rfl;rintro _ _ ⟨⟨r1,v1,ns1⟩,⟨rfl,e1,hst1⟩,rfl⟩
    dsimp only at e1 hst1
    obtain⟨g1,i1⟩:=Fp hwi hid qom qom qom qom e1;refine Bo (Oq U U sizeOf3) U Ad ?_;rintro _ _ ⟨rfl,rfl⟩;refine rOt 3 U (Gw ((r1,v1,ns1)) ?_ sbt);exact⟨by omega,hst1,gi.trans g1,i1.lt,by rw[hj2];exact i1.lv,by rw[hj2,hF];exact st_y0 hm hv e1⟩
   ·have hv:xh D.bs mo.2 j=true:=b2i_n0.1 c26;refine rCt 1 U (y_ (Om U isAgg68 qco) ?_ U);refine rOt 1 U (y_ (Iu (a:=2) Al (T U) qom) ?_ U);refine y_ (Om U isAgg3 qco) ?_ U;refine p_ (As (.cons (T rfl) (.cons (T rfl) (.cons Al (.cons (T rfl) .nil)))) call143 (A5 (M:=SM D vi nsi) (Hk hsti _ (2*j) 0 id qom hid qom qom qom) locqc)) ?_ (by rintro _ ⟨⟨v1,ns1⟩,⟨e1,g1,hst1⟩,rfl⟩;(repeat refine By ?_);exact Ic (H1:=SM D v1 ns1++R) ⟨(v1,ns1),⟨by rw[hF];exact st_n1 hm hv e1,gi.trans g1,hst1⟩,rfl⟩ sbt) rfl;rintro _ _ ⟨⟨r1,v1,ns1⟩,⟨rfl,e1,hst1⟩,rfl⟩
    dsimp only at e1 hst1
    obtain⟨g1,i1⟩:=Fp hwi qom hid qom qom qom e1;refine Bo (Oq U U sizeOf3) U Ad ?_;rintro _ _ ⟨rfl,rfl⟩;refine rOt 3 U (Gw ((r1,v1,ns1)) ?_ sbt);exact⟨by omega,hst1,gi.trans g1,i1.lt,by rw[hj2];exact i1.lv,by rw[hj2,hF];exact st_y1 hm hv e1⟩
 ·rintro D0 ⟨id,vi,nsi⟩ ⟨hk,hsti,gi,hid,hlv,hF⟩;rw[Le,Nat.sub_self] at hF;refine q_blockA (Ew (Gj (Mc (rDt 1 U (y_ (Om U isAgg3 qco) ?_ U)))));refine rOt 2 U (Ew (Mc (rDt 1 U (qm_mark_ret (qm_ret U (Ol U) ?_)))));exact⟨_,⟨(id,vi,nsi),⟨rfl,hF,hsti⟩,rfl⟩,sbt⟩
 ·intro D9 H9 hB9
  repeat (first|refine pq_thenA ?_|refine pq_blockA ?_)
  exact pm_mark hB9
theorem zbd107_z  (w:World):(Instr.build 144 #[]).run prog w= .ok (.agg #[Vi 0,Vi 0,Vi 0,Vi 0,Vi 0,Vi 0,Vi 0,Vi 0,Vi 0,Vi 0,Vi 0,Vi 0,Vi 0,Vi 0,Vi 0,Vi 0,Vi 0,Vi 0,Vi 0,Vi 0]) w:=by kernel_rfl
theorem perm_sq {α:Type}{a b c d:α}{S R:List α}:(a::b::c::d::(S++R)).Perm ((c::S)++(a::b::d::R)):=by
 have h1:(a::b::c::d::(S++R)).Perm (c::(a::b::d::(S++R))):=List.perm_middle (l₁:=[a,b]) (a:=c);have h2:([a,b,d]++(S++R)).Perm (S++([a,b,d]++R)):=List.perm_append_comm_assoc _ _ _;exact h1.trans (h2.cons c)
theorem seA_some {most:Nat}{ns ms:Ns}{a b id:Nat}{kn:Kn}{k:Nat}(hk:lvl ns 0+1=k)(h:seF most k [] ns a b=some (id,kn,ms)):seA most ns a b=some (id,ms):=by subst hk;unfold seA;rw[h];rfl
theorem seA_none {most:Nat}{ns:Ns}{a b:Nat}{k:Nat}(hk:lvl ns 0+1=k)(h:seF most k [] ns a b=none):seA most ns a b=none:=by subst hk;unfold seA;rw[h];rfl
theorem ks_nil {N:Nat}{ns:Ns}:KsOk N ns []:=fun a b id h=>by cases h
theorem gd_hd0 (i:Nat):gd hd0 i=0:=by
 by_cases h:i<10
 ·have:i=0\/i=1\/i=2\/i=3\/i=4\/i=5\/i=6\/i=7\/i=8\/i=9:=by omega
  rcases this with rfl|rfl|rfl|rfl|rfl|rfl|rfl|rfl|rfl|rfl<;>rfl
 ·unfold gd List.getD;rw[List.getElem?_eq_none (by simp;omega)];rfl
theorem Ms (bs:List Nat):xh bs hd0=fun _=>false:=by
 funext k
 unfold xh hbit;rw[gd_hd0];simp
def lack (N:Nat) (ns:Ns) (id:Nat):Nat:=(List.range (2 ^ N)).countP fun c=> !sem ns id (fun k=>c.testBit k)
theorem lack_le (N:Nat)(ns:Ns)(id:Nat):lack N ns id<=2 ^ N:=by
 have:=List.countP_le_length (p:=fun c=> !sem ns id (fun k=>c.testBit k)) (l:=List.range (2 ^ N))
 simpa[lack] using this
theorem countP_lt {α:Type}{p q:α->Bool}:∀ {l:List α},(∀ x∈l,p x=true->q x=true)->(∃ x∈l,p x=false/\q x=true)->l.countP p<l.countP q
 |[],_,⟨x,h,_⟩=>by cases h
 |y::l,hpq,⟨x,hx,h1,h2⟩=>by
  rw[List.countP_cons,List.countP_cons];have hle:l.countP p<=l.countP q:=List.countP_mono_left fun x hx=>hpq x (by simp[hx])
  by_cases e:p y=true
  ·have e2:=hpq y (by simp) e;rw[if_pos e,if_pos e2];have hx':x∈l:=by
    rcases List.mem_cons.1 hx with rfl|h
    ·rw[h1] at e;cases e
    ·exact h
   have:=countP_lt (fun x hx=>hpq x (by simp[hx])) ⟨x,hx',h1,h2⟩;omega
  ·rw[if_neg e]
   by_cases e2:q y=true
   ·rw[if_pos e2];omega
   ·rw[if_neg e2];have hx':x∈l:=by
     rcases List.mem_cons.1 hx with rfl|h
     ·exact absurd h2 e2
     ·exact h
    have:=countP_lt (fun x hx=>hpq x (by simp[hx])) ⟨x,hx',h1,h2⟩;omega
theorem lack_lt {N:Nat}{ns ms:Ns}{i j:Nat}(hn:Wf N ns)(hm:Wf N ms)(g:Gr N ns ms)(hi:i<ns.length)(hj:j<ms.length)(hs:∀ α,sem ns i α=true->sem ms j α=true)(hne:i≠j):lack N ms j<lack N ns i:=by
 have him:=Nat.lt_of_lt_of_le hi g.le;have hex:∃ α,sem ms i α≠sem ms j α:=Classical.byContradiction fun h=>hne (sem_inj hm him hj fun α=>Classical.byContradiction fun h2=>h ⟨α,h2⟩)
 obtain⟨α,hα⟩:=hex;obtain⟨c,hc,hb⟩:∃ c,c<2 ^ N/\∀ k,k<N->c.testBit k=α k:=⟨ofB α N,Lv α N,fun k hk=>by rw[Iq];simp[hk]⟩;have e1:∀ {ns:Ns} (hw:Wf N ns) {i:Nat},i<ns.length->sem ns i (fun k=>c.testBit k)=sem ns i α:=fun {ns} hw {i} hi=>Du hw i hi _ _ fun k _ hk=>hb k hk
 refine countP_lt (fun x _ h=> ?_) ⟨c,by simpa using hc,?_,?_⟩
 ·simp only[Bool.not_eq_true'] at h ⊢;cases h2:sem ns i (fun k=>x.testBit k)
  ·rfl
  ·rw[hs _ h2] at h;cases h
 ·rw[e1 hm hj];cases h2:sem ms j α
  ·rw[h2] at hα;have h3:sem ms i α=true:=by simpa using hα
   rw[g.sem hn hi] at h3;rw[hs _ h3] at h2;cases h2
  ·rfl
 ·rw[e1 hn hi,<- g.sem hn hi];cases h2:sem ms i α
  ·rfl
  ·rw[h2] at hα;have h3:sem ms j α=false:=by
    cases h4:sem ms j α
    ·rfl
    ·rw[h4] at hα;exact absurd U hα
   rw[g.sem hn hi] at h2;rw[hs _ h2] at h3;cases h3
def rdN (bs:List Nat):Nat:=2 ^ (2*bs.length)+1
theorem seq_s {w0:World}{D:Sd}{v:Sv}{ns:Ns}(hst:StOk D v ns)(R:Mm)(a b:Nat)(ha:a<ns.length)(hb:b<ns.length):
  FSpecP prog w0 109 #[Pt (D.p) 0,Vi (a:Nat),Vi (b:Nat)] (SM D v ns++R) (OpK D (seA D.most.toNat ns a b) R) (.iface 195 (.agg #[])) (OpB D (seA D.most.toNat ns a b) ns R):=by
 refine Bj func109 U ntmps109 U (rDt 2 U (e_ (Ot U cs_) ?_ U));rintro _ _ ⟨n3,rfl,rfl⟩;refine rOt 5 U (e_ Dn ?_ U);rintro _ _ ⟨n9,rfl,rfl⟩;refine e_ (Ag zeroValue205 cs_) ?_ U;rintro _ _ ⟨n7,rfl,rfl⟩;refine Bo (Oq U U sizeOf205) U Ad ?_;rintro _ _ ⟨rfl,rfl⟩;refine rOt 4 U (e_ (Ag zeroValue139 cs_) ?_ U);rintro _ _ ⟨n8,rfl,rfl⟩;refine rOt 4 U (y_ (Bn (.cons (T U) (.cons (T U) (.cons (T U) .nil)))) ?_ U);refine Bo (Oq U U sizeOf139) U Ad ?_;rintro _ _ ⟨rfl,rfl⟩;refine rOt 4 U (y_ (Om U isAgg139 qco) ?_ U);have hO:SqOk D ⟨(n8,Cl [.func (.func 149) #[] #[Pt n7 0,Pt n3 0,Pt n8 0]] 139)::(n7,Cl [.map (some n9)] 205)::(n3,Cl [Pt (D.p) 0] 68)::R,n7,n3,n8,n9⟩:=⟨Cr fnd_h,Cr (Cr fnd_h),fnd_h⟩;refine rOt 2 U ?_;refine p_ (Cz (T rfl) (.cons (T rfl) (.cons (T rfl) .nil)) call149 (spec_permP (se_s (A:=⟨(n8,Cl [.func (.func 149) #[] #[Pt n7 0,Pt n3 0,Pt n8 0]] 139)::(n7,Cl [.map (some n9)] 205)::(n3,Cl [Pt (D.p) 0] 68)::R,n7,n3,n8,n9⟩) hO (2*D.bs.length+1) (R:=(n8,Cl [.func (.func 149) #[] #[Pt n7 0,Pt n3 0,Pt n8 0]] 139)::(n7,Cl [.map (some n9)] 205)::(n3,Cl [Pt (D.p) 0] 68)::R) (kn:=[]) sb0 hst ks_nil ha hb qom) perm_sq)) ?_ (by rintro _ ⟨⟨kn1,v1,ns1⟩,⟨e1,g1,hst1⟩,rfl⟩;(repeat refine By ?_);exact Bi ⟨(v1,ns1),⟨seA_none (by rw[hst.w.lv0]) e1,g1,hst1⟩,rfl⟩ sbt) rfl;rintro _ _ ⟨⟨id,kn,v1,ns1⟩,⟨rfl,e1,hst1⟩,rfl⟩
 dsimp only at e1 hst1
 refine rOt 4 U (Bs U (Ol U) ?_);exact⟨_,⟨(id,v1,ns1),⟨rfl,seA_some (by rw[hst.w.lv0]) e1,hst1⟩,rfl⟩,sbt⟩
theorem filter_s {w0:World}{D:Sd}{v:Sv}{ns:Ns}{R:Mm}(hB:Arr w0 R D.qb 1 encB1 D.bs)(hbs:BsOk D.bs)(hst:StOk D v ns)(a:Nat)(ha:a<ns.length):
  FSpecP prog w0 145 #[Pt (D.p) 0,Vi (a:Nat)] (SM D v ns++R) (OpK D (filF D.most.toNat D.bs ns a) R) (.iface 195 (.agg #[])) (OpB D (filF D.most.toNat D.bs ns a) ns R):=by
 refine Bj func145 U ntmps145 U (rDt 10 U (y_ (A1 .nil (zbd107_z)) ?_ U));refine p_ (As (evq2 rfl rfl) call168 (A5 (M:=SM D v ns) (relation_s (R:=R) hB hbs hst (hd0,hd0) Ay Ay) locqc)) ?_ (by rintro _ ⟨⟨v1,ns1⟩,⟨e1,g1,hst1⟩,rfl⟩;(repeat (first|refine By ?_|refine Bw ?_));exact Bi ⟨(v1,ns1),⟨by rw[Ms] at e1;unfold filF;rw[e1],g1,hst1⟩,rfl⟩ sbt) rfl;rintro _ _ ⟨⟨r1,v1,ns1⟩,⟨rfl,e1,hst1⟩,rfl⟩
 dsimp only at e1 hst1
 rw[Ms] at e1;obtain⟨g1,i1⟩:=Lu hst.w e1;refine p_ (As (evq3 rfl rfl rfl) call174 (A5 (M:=SM D v1 ns1) (and_s hst1 _ a r1 (Nat.lt_of_lt_of_le ha g1.le) i1.lt) locqc)) ?_ (by rintro _ ⟨⟨v2,ns2⟩,⟨e2,g2,hst2⟩,rfl⟩;(repeat (first|refine By ?_|refine Bw ?_));exact Bi ⟨(v2,ns2),⟨by unfold filF;rw[e1];exact e2,g1.trans g2,hst2⟩,rfl⟩ sbt) rfl;rintro _ _ ⟨⟨r2,v2,ns2⟩,⟨rfl,e2,hst2⟩,rfl⟩
 dsimp only at e2 hst2
 refine rOt 4 U (Bs U (Ol U) ?_);exact⟨_,⟨(r2,v2,ns2),⟨rfl,by unfold filF;rw[e1];exact e2,hst2⟩,rfl⟩,sbt⟩
theorem star_s {w0:World}{D:Sd}{v:Sv}{ns:Ns}{R:Mm}(hB:Arr w0 R D.qb 1 encB1 D.bs)(hbs:BsOk D.bs)(hst:StOk D v ns)(a:Nat)(ha:a<ns.length):
  FSpecP prog w0 170 #[Pt (D.p) 0,Vi (a:Nat)] (SM D v ns++R) (OpK D (starF D.most.toNat D.bs.length (rdN D.bs) ns a) R) (.iface 195 (.agg #[])) (OpB D (starF D.most.toNat D.bs.length (rdN D.bs) ns a) ns R):=by
 refine Bj func170 U ntmps170 U ?_;have hw:=hst.w;refine rDt 9 U (y_ (A1 .nil (zbd107_z)) ?_ U);refine p_ (As (evq2 rfl rfl) call168 (A5 (M:=SM D v ns) (relation_s (R:=R) hB hbs hst (hd0,hd0) Ay Ay) locqc)) ?_ (by rintro _ ⟨⟨v1,ns1⟩,⟨e1,g1,hst1⟩,rfl⟩;(repeat (first|refine By ?_|refine Bw ?_));exact Bi ⟨(v1,ns1),⟨by rw[Ms] at e1;unfold starF;rw[e1],g1,hst1⟩,rfl⟩ sbt) rfl;rintro _ _ ⟨⟨r1,v1,ns1⟩,⟨rfl,e1,hst1⟩,rfl⟩
 dsimp only at e1 hst1
 rw[Ms] at e1;obtain⟨g1,i1⟩:=Lu hst.w e1;refine rOt 1 U ?_;refine p_ (As (evq3 rfl rfl rfl) call94 (A5 (M:=SM D v1 ns1) (Nv hst1 _ r1 a i1.lt (Nat.lt_of_lt_of_le ha g1.le)) locqc)) ?_ (by rintro _ ⟨⟨v2,ns2⟩,⟨e2,g2,hst2⟩,rfl⟩;(repeat (first|refine By ?_|refine Bw ?_));exact Bi ⟨(v2,ns2),⟨by unfold starF;rw[e1];simp only[];rw[e2],g1.trans g2,hst2⟩,rfl⟩ sbt) rfl;rintro _ _ ⟨⟨r2,v2,ns2⟩,⟨rfl,e2,hst2⟩,rfl⟩
 dsimp only at e2 hst2
 obtain⟨g2,i2⟩:=Fq E8 g1.w i1.lt (Nat.lt_of_lt_of_le ha g1.le) e2;have hs2:=sta_0 hw ha g1 i1 g2 i2;refine rOt 4 U ?_;refine A8 (X:=Nat × Nat × Sv × Ns) (V:=fun ⟨r,id,vi,nsi⟩=>[(5,Vi (id:Nat))]) (C:=[(0,_)]) (G:=fun ⟨r,id,vi,nsi⟩=>SM D vi nsi++R) (φ:=fun ⟨r,id,vi,nsi⟩=>StOk D vi nsi/\Gr (2*D.bs.length) ns nsi/\Stq D.bs.length nsi id (sem ns a)/\starF D.most.toNat D.bs.length (rdN D.bs) ns a=srF D.most.toNat (r+1) nsi id/\lack (2*D.bs.length) nsi id<=r) (μ:=fun ⟨r,id,vi,nsi⟩=>lack (2*D.bs.length) nsi id) (x0:=(2 ^ (2*D.bs.length),r2,v2,ns2)) ?_ (kg U) qkg sb0 ?_
 ·exact⟨hst2,g1.trans g2,hs2,by unfold starF;rw[e1];simp only[];rw[e2];rfl,lack_le _ _ _⟩
 rintro⟨r,id,vi,nsi⟩ ⟨hsti,gi,hq,hF,hla⟩;refine rDt 6 U ?_;refine p_ (As (evq3 rfl rfl rfl) call109 (A5 (M:=SM D vi nsi) (seq_s hsti _ id id hq.lt hq.lt) locqc)) ?_ (by rintro _ ⟨⟨v3,ns3⟩,⟨e3,g3,hst3⟩,rfl⟩;(repeat (first|refine By ?_|refine Bw ?_));exact Bi ⟨(v3,ns3),⟨by rw[hF,srF,e3],gi.trans g3,hst3⟩,rfl⟩ sbt) rfl;rintro _ _ ⟨⟨r3,v3,ns3⟩,⟨rfl,e3,hst3⟩,rfl⟩
 dsimp only at e3 hst3
 obtain⟨g3,i3⟩:=seA_ok qom hsti.w hq.lt hq.lt e3;obtain⟨hq3,hmo⟩:=hq.next (sem_mixes hw ha) i3;refine rOt 11 U ?_;refine jcd U (fun c19=> ?_) (fun c19=> ?_)
 ·have hri:r3=id:=by omega
  refine rCt 9 U (Bg (rXt 1 U (Bs U (Ol U) ?_)));exact⟨_,⟨(id,v3,ns3),⟨rfl,by rw[hF,srF,e3];simp only[];rw[if_pos hri],hst3⟩,rfl⟩,sbt⟩
 ·have hri: ¬ r3=id:=fun e=>c19 (by rw[e])
  refine rCt 7 U ?_;have hlt:=lack_lt hsti.w g3.w g3 hq.lt hq3.lt hmo (fun e=>hri e.symm);refine Au ((r - 1,r3,v3,ns3)) ?_ ?_ qkg (kg U) ?_
  ·exact⟨hst3,gi.trans g3,hq3,by rw[hF,srF,e3];simp only[];rw[if_neg hri];rw[show r - 1+1=r by omega],by omega⟩
  ·exact hlt
  ·exact sbt
def andN (a b:Nat):Nat:=a ^^^ (a &&& b)
theorem E0 (a b i:Nat):(andN a b).testBit i=(a.testBit i&& !b.testBit i):=by
 unfold andN;rw[Nat.testBit_xor,Nat.testBit_and];cases a.testBit i<;>cases b.testBit i<;>rfl
theorem Fa {a b k:Nat}(h:a<2 ^ k):andN a b<2 ^ k:=Nat.xor_lt_two_pow h (Nat.lt_of_le_of_lt Nat.and_le_left h)
theorem two63:(2:Nat) ^ 63=9223372036854775808:=by decide
section
variable {P:Program} {w0:World} {L:Fm} {H:Mm} {ty xt yt:TypeId} {x y:Operand}
theorem Fw {m n:Nat}(hm:m<9223372036854775808)(hn:n<9223372036854775808)(hx:Ev L x (Vi (m:Int)))(hy:Ev L y (Vi (n:Int))):Yl P w0 (.binOp .andNot xt x y yt) ty L H (Vi ((andN m n:Nat):Int)):=Bk U fun b w=>by
 have t64:=two64;have e:(BitVec.ofInt 64 (m:Int) &&& ~~~ BitVec.ofInt 64 (n:Int)).toNat=andN m n:=by
  refine Nat.eq_of_testBit_eq fun i=> ?_
  rw[D4,D4,E0];rw[BitVec.toNat_and,Nat.testBit_and,BitVec.toNat_ofNat,Nat.mod_eq_of_lt qom]
  by_cases hi:i<64
  ·have h9:(BitVec.ofNat 64 n).getLsbD i=n.testBit i:=by rw[<- BitVec.testBit_toNat,BitVec.toNat_ofNat,Nat.mod_eq_of_lt qom]
   rw[BitVec.testBit_toNat,BitVec.getLsbD_not,h9];simp[hi]
  ·have:m.testBit i=false:=Nat.testBit_lt_two_pow (Nat.lt_of_lt_of_le (by omega:m<2 ^ 64) (Nat.pow_le_pow_right qde qom));rw[this];simp
 have hl:andN m n<2 ^ 63:=Fa (by rw[two63];exact hm);rw[two63] at hl;have e2:IntKind.i64.wrap ((andN m n:Nat):Int)=((andN m n:Nat):Int):=IntWalk.i64_in _ qom;have e3:(Op.intBits .andNot .i64 (m:Int) (n:Int)).run P w= .ok (Vi ((andN m n:Nat):Int)) w:=by
  show Result.ok (Value.int .i64 (IntKind.i64.wrap ((BitVec.ofInt 64 (m:Int) &&& ~~~ BitVec.ofInt 64 (n:Int)).toNat:Int))) w=_;rw[e,e2]
 simp[exO,execOp,hx b,hy b,binOp,eqGuard,Sem.run_bind,Result.andThen,e3]
theorem Id {m n:Nat}(hm:m<9223372036854775808)(hn:n<9223372036854775808)(hx:Ev L x (Vi (m:Int)))(hy:Ev L y (Vi (n:Int))):Yl P w0 (.binOp .or xt x y yt) ty L H (Vi ((m|||n:Nat):Int)):=Bk U fun b w=>by
 have t64:=two64;have e:(BitVec.ofInt 64 (m:Int)|||BitVec.ofInt 64 (n:Int)).toNat=m|||n:=by
  rw[D4,D4,BitVec.toNat_or,BitVec.toNat_ofNat,BitVec.toNat_ofNat,Nat.mod_eq_of_lt qom,Nat.mod_eq_of_lt qom]
 have hl:m|||n<2 ^ 63:=Nat.or_lt_two_pow (by rw[two63];exact hm) (by rw[two63];exact hn)
 rw[two63] at hl;have e2:IntKind.i64.wrap ((m|||n:Nat):Int)=((m|||n:Nat):Int):=IntWalk.i64_in _ qom;have e3:(Op.intBits .or .i64 (m:Int) (n:Int)).run P w= .ok (Vi ((m|||n:Nat):Int)) w:=by
  show Result.ok (Value.int .i64 (IntKind.i64.wrap ((BitVec.ofInt 64 (m:Int)|||BitVec.ofInt 64 (n:Int)).toNat:Int))) w=_;rw[e,e2]
 simp[exO,execOp,hx b,hy b,binOp,eqGuard,Sem.run_bind,Result.andThen,e3]
theorem Fb {m n:Nat}(hn:n<64)(h:m*2 ^ n<9223372036854775808)(hx:Ev L x (Vi (m:Int)))(hy:Ev L y (Vi (n:Int))):Yl P w0 (.binOp .shl xt x y yt) ty L H (Vi ((m*2 ^ n:Nat):Int)):=Bk U fun b w=>by
 have e1: ¬ (n:Int)<0:=by omega
 have e2:min n 64=n:=by omega
 have e5:(m:Int)*2 ^ n=((m*2 ^ n:Nat):Int):=by simp
 have e6:IntKind.i64.wrap ((m*2 ^ n:Nat):Int)=((m*2 ^ n:Nat):Int):=IntWalk.i64_in _ qom;have e3:(Op.shift .shl .i64 (m:Int) .i64 (n:Int)).run P w= .ok (Vi ((m*2 ^ n:Nat):Int)) w:=by
  unfold Op.shift;rw[if_neg e1];simp only[Int.toNat_natCast,IntKind.bits,e2];show Result.ok (Value.int .i64 (IntKind.i64.wrap ((m:Int)*2 ^ n))) w=_;rw[e5,e6]
 have e7:IntKind.i64.wrap ((m:Int)*2 ^ n)=(m:Int)*2 ^ n:=by rw[e5,e6]
 simp[exO,execOp,hx b,hy b,binOp,eqGuard,Sem.run_bind,Result.andThen,e3,e7]
end
theorem C7 {n:Nat}(h:n<=16):2 ^ n<=65536:=Nat.pow_le_pow_right (n:=2) qde h
theorem hbit_set {h:Hd}{i x b:Nat}(hi:i<h.length):hbit (h.set i x) b=if b / 16=i then x.testBit (15 - b % 16) else hbit h b:=by
 unfold hbit gd List.getD
 by_cases e:b / 16=i
 ·subst e;simp[hi]
 ·rw[if_neg e,List.getElem?_set_ne (fun e2=>e e2.symm)]
theorem D6 {h:Hd}(hh:HdOk h){i x:Nat}(hx:x<65536):HdOk (h.set i x):=⟨by rw[List.length_set,hh.len],fun w hw=>by
 rcases List.mem_or_eq_of_mem_set hw with h1|rfl
 ·exact hh.lt _ h1
 ·exact hx⟩
theorem hdC_set (h:Hd)(i x:Nat):(hdC h).set i (encNI x)=hdC (h.set i x):=(List.map_set ..).symm
theorem Lf {h:Hd}{i x:Nat}(hi:i<h.length)(r:List Value):setN? (hdC h++r) (0+((i:Nat):Int).toNat*1) (Vi (x:Nat))=some (hdC (h.set i x)++r):=by
 have e:0+((i:Nat):Int).toNat*1=i:=by omega
 rw[e];have:∀ (l r:List Value) (k:Nat) (v:Value),k<l.length->setN? (l++r) k v=some (l.set k v++r):=by
  intro l
  induction l with
  |nil=>intro r k v h;simp at h
  |cons y l ih=>
   intro r k v h;cases k with
   |zero=>rfl
   |succ k=>
    have:=ih r k v (by simpa using h);show (match setN? (l++r) k v with|some l'=>some (y::l')|none=>none)=_;rw[this];rfl
 rw[this _ _ _ _ (by simpa using hi),hdC_set]
theorem Bc (h:Hd):(hdC h).all oneB=true:=by
 rw[List.all_eq_true];intro v hv;obtain⟨x,_,rfl⟩:=List.mem_map.1 hv
 rfl
theorem Gx {h:Hd}{i x:Nat}(hi:i<h.length):setN? (hdC h) (0+((i:Nat):Int).toNat*1) (Vi (x:Nat))=some (hdC (h.set i x)):=by
 have:=Lf (x:=x) hi []
 simpa using this
theorem hd10 {h:Hd}(hh:HdOk h):∃ a b c d e f g i j k,h=[a,b,c,d,e,f,g,i,j,k]:=by
 have:=hh.len
 match h,this with
 |[a,b,c,d,e,f,g,i,j,k],_=>exact⟨a,b,c,d,e,f,g,i,j,k,rfl⟩
abbrev encF (f:Fd):List Value:=[.string f.nm,Vi (f.pos:Nat),Vi (f.w:Nat)]
theorem set_word {f:Fd}(hf:FdOk f){h:Hd}(hh:HdOk h){n:Nat}(hn:n<2 ^ f.w):h.set (f.pos / 16) (andN (gd h (f.pos / 16)) ((2 ^ f.w - 1)*2 ^ (16 - f.pos % 16 - f.w))|||n*2 ^ (16 - f.pos % 16 - f.w))=fset f h n:=by
 have h1:=hf.fit;have h2:=hf.lt;have hp:f.pos / 16<h.length:=by rw[hh.len];omega
 generalize hs:16 - f.pos % 16 - f.w=s;have hx:andN (gd h (f.pos / 16)) ((2 ^ f.w - 1)*2 ^ s)|||n*2 ^ s<2 ^ 16:=by
  refine Nat.or_lt_two_pow (Fa (Cp hh _)) ?_;have:n*2 ^ s<2 ^ f.w*2 ^ s:=Nat.mul_lt_mul_of_pos_right hn (Nat.two_pow_pos s);rw[<- Nat.pow_add] at this;exact Nat.lt_of_lt_of_le this (Nat.pow_le_pow_right qde qom)
 refine C5 (D6 hh hx) (Bz _ _ _) fun b hb=> ?_
 rw[hbit_set hp];unfold fset;rw[Br _ hb]
 by_cases e:b / 16=f.pos / 16
 ·rw[if_pos e,Nat.testBit_or,E0,Nat.testBit_mul_two_pow,Nat.testBit_mul_two_pow,Nat.testBit_two_pow_sub_one]
  by_cases hin:f.pos<=b/\b<f.pos+f.w
  ·rw[if_pos hin];have e1:s<=15 - b % 16:=by omega
   have e2:15 - b % 16 - s<f.w:=by omega
   have e3:15 - b % 16 - s=f.pos+f.w - 1 - b:=by omega
   rw[<- e3];simp[e1,e2]
  ·rw[if_neg hin];have e4: ¬ (s<=15 - b % 16/\15 - b % 16 - s<f.w):=by omega
   have e5:(decide (s<=15 - b % 16)&&n.testBit (15 - b % 16 - s))=false:=by
    by_cases e6:s<=15 - b % 16
    ·have:f.w<=15 - b % 16 - s:=by omega
     rw[Nat.testBit_lt_two_pow (Nat.lt_of_lt_of_le hn (Nat.pow_le_pow_right qde this))];simp
    ·simp[e6]
   have e6:(decide (s<=15 - b % 16)&&decide (15 - b % 16 - s<f.w))=false:=by
    by_cases e7:s<=15 - b % 16
    ·have: ¬ 15 - b % 16 - s<f.w:=fun h=>e4 ⟨e7,h⟩
     simp[this]
    ·simp[e7]
   rw[e5,e6];unfold hbit;rw[e];simp
 ·rw[if_neg e,if_neg qom]
theorem put_word {h:Hd}(hh:HdOk h){b:Nat}(hb:b<160)(v:Bool):h.set (b / 16) (if v=true then andN (gd h (b / 16)) (1*2 ^ (15 - b % 16))|||1*2 ^ (15 - b % 16) else andN (gd h (b / 16)) (1*2 ^ (15 - b % 16)))=hput h b v:=by
 have hp:b / 16<h.length:=by rw[hh.len];omega
 have h1:1*2 ^ (15 - b % 16)<2 ^ 16:=by rw[Nat.one_mul];exact Nat.pow_lt_pow_right qde qom
 have hx:(if v=true then andN (gd h (b / 16)) (1*2 ^ (15 - b % 16))|||1*2 ^ (15 - b % 16) else andN (gd h (b / 16)) (1*2 ^ (15 - b % 16)))<2 ^ 16:=by
  have h3:andN (gd h (b / 16)) (1*2 ^ (15 - b % 16))<2 ^ 16:=Fa (Cp hh _)
  split
  ·exact Nat.or_lt_two_pow h3 h1
  ·exact h3
 refine C5 (D6 hh hx) (Cm _ _ _) fun k hk=> ?_
 rw[hbit_set hp,Dq _ _ _ hk]
 by_cases e:k / 16=b / 16
 ·rw[if_pos e]
  by_cases ek:k=b
  ·subst ek;cases v
   ·simp[E0,Nat.testBit_two_pow_self]
   ·simp[E0,Nat.testBit_or,Nat.testBit_two_pow_self]
  ·rw[if_neg ek];have hne: ¬ 15 - b % 16=15 - k % 16:=by omega
   have h4:(2 ^ (15 - b % 16)).testBit (15 - k % 16)=false:=by rw[Nat.testBit_two_pow];simp[hne]
   have h5:hbit h k=(gd h (b / 16)).testBit (15 - k % 16):=by unfold hbit;rw[e]
   rw[h5];cases v<;>simp[E0,Nat.testBit_or,h4]
 ·rw[if_neg e,if_neg (fun ek=>e (by rw[ek]))]
theorem max_s (f:Fd)(hf:FdOk f):
  FSpec prog w0 223 #[.agg (encF f).toArray] H (Still (Vi ((2 ^ f.w - 1:Nat):Int)) H):=by
 refine Am func223 U ntmps223 U ?_;have h16:=C7 hf.w16;have hw1:=hf.w16;refine rDt 2 U (e_ (Ot U cs_) ?_ U);rintro _ _ ⟨n1,rfl,rfl⟩;refine rOt 6 U (y_ (Om U isAgg3 qco) ?_ U);refine y_ (Fb (m:=1) qom qom Al (T U)) ?_ U;refine y_ (Dd (c:=1) (T U) Al (by have:=Nat.two_pow_pos f.w;omega)) ?_ U;refine rOt 4 U (Ai U (Ol U) ?_);exact⟨_,⟨vint (by rw[Nat.one_mul]),rfl⟩,sbt⟩
theorem shift_s (f:Fd)(hf:FdOk f):
  FSpec prog w0 231 #[.agg (encF f).toArray] H (Still (Vi ((16 - f.pos % 16 - f.w:Nat):Int)) H):=by
 refine Am func231 U ntmps231 U ?_;have h1:=hf.fit;have h2:=hf.lt;refine rDt 2 U (e_ (Ot U cs_) ?_ U);rintro _ _ ⟨n1,rfl,rfl⟩;refine rOt 6 U (y_ (Om U isAgg3 qco) ?_ U);refine y_ (Ga (c:=16) (T U) Al qom) ?_ U;refine y_ (Dd (a:=16) Al (T U) qom) ?_ U;refine rOt 1 U (y_ (Om U isAgg3 qco) ?_ U);refine y_ (Dd (T U) (T U) qom) ?_ U;refine rOt 4 U (Ai U (Ol U) ?_);exact⟨_,⟨rfl,rfl⟩,sbt⟩
theorem value_s (i:Nat):
  FSpec prog w0 236 #[Vi (i:Nat)] H (Still (Vi ((1*2 ^ (15 - i % 16):Nat):Int)) H):=by
 refine Am func236 U ntmps236 U ?_;have h16:=C7 (n:=15 - i % 16) qom;refine rDt 8 U (y_ (Ga (c:=16) (T U) Al qom) ?_ U);refine y_ (Dd (a:=15) Al (T U) qom) ?_ U;refine y_ (Fb (m:=1) qom qom Al (T U)) ?_ U;refine rOt 4 U (Ai U (Ol U) ?_);exact⟨_,⟨rfl,rfl⟩,sbt⟩
theorem fset_s (f:Fd)(hf:FdOk f)(h:Hd)(hh:HdOk h)(n:Nat)(hn:n<2 ^ f.w):
  FSpec prog w0 224 #[.agg (encF f).toArray, .agg (hdC h).toArray,Vi (n:Nat)] H (Still (.agg (hdC (fset f h n)).toArray) H):=by
 refine Am func224 U ntmps224 U ?_;have h1:=hf.fit;have h2:=hf.lt;have h16:=C7 hf.w16;have hlen:=hh.len;have hp:f.pos / 16<h.length:=by omega
 have hgl:=Cp hh (f.pos / 16);have hsl:2 ^ f.w*2 ^ (16 - f.pos % 16 - f.w)<=65536:=by rw[<- Nat.pow_add];exact C7 qom
 have hml:(2 ^ f.w - 1)*2 ^ (16 - f.pos % 16 - f.w)<=2 ^ f.w*2 ^ (16 - f.pos % 16 - f.w):=Nat.mul_le_mul_right _ qom;have hnl:n*2 ^ (16 - f.pos % 16 - f.w)<=2 ^ f.w*2 ^ (16 - f.pos % 16 - f.w):=Nat.mul_le_mul_right _ qom;have hal:andN (gd h (f.pos / 16)) ((2 ^ f.w - 1)*2 ^ (16 - f.pos % 16 - f.w))<65536:=Fa (k:=16) hgl;have hnl2:n*2 ^ (16 - f.pos % 16 - f.w)<2 ^ f.w*2 ^ (16 - f.pos % 16 - f.w):=Nat.mul_lt_mul_of_pos_right hn (Nat.two_pow_pos _);have hso:=D6 hh (i:=f.pos / 16) (x:=andN (gd h (f.pos / 16)) ((2 ^ f.w - 1)*2 ^ (16 - f.pos % 16 - f.w))|||n*2 ^ (16 - f.pos % 16 - f.w)) (Nat.or_lt_two_pow (n:=16) hal qom);refine rDt 2 U (e_ (Ot U cs_) ?_ U);rintro _ _ ⟨n3,rfl,rfl⟩;refine e_ (Ot U cs_) ?_ U;rintro _ _ ⟨n4,rfl,rfl⟩;refine e_ (Ag zeroValue32 cs_) ?_ U;rintro _ _ ⟨n6,rfl,rfl⟩;refine rOt 5 U (y_ (Om U isAgg3 qco) ?_ U);refine y_ (Dw (c:=16) (T U) Al qom) ?_ U;refine y_ (Bm (T U) (T U) runUnderlying32 sizeOf3 qom) ?_ U;refine rOt 4 U (Bf 16 (plq16 []) _ mixd qkr sb0 ?_ Bh);refine rPt 3 U ?_;refine o_y U (Om U isAgg3 (by first|exact c_o|exact Ci (Ae fndq) qom)) ?_ U Ad;refine o_y U (On U isAgg127 sizeOf127 U qcs) ?_ U Ad;refine o_y U (Ao (evq1 U) call223 (fun H' hs=>max_s f hf)) (o_y U (On U isAgg127 sizeOf127 U qcs) ?_ U Ad) U Ad;refine o_y U (Ao (evq1 U) call231 (fun H' hs=>shift_s f hf)) (o_y U (Fb qom qom (T U) (T U)) ?_ U Ad) U Ad;refine o_y U (Fw qom qom (T U) (T U)) ?_ U Ad;refine rPt 1 U (o_y U (On U isAgg127 sizeOf127 U qcs) ?_ U Ad);refine o_y U (Ao (evq1 U) call231 (fun H' hs=>shift_s f hf)) (o_y U (Fb qom qom (T U) (T U)) ?_ U Ad) U Ad;refine o_y U (Id qom qom (T U) (T U)) ?_ U Ad;refine rPt 1 U (Av U (e_ (Ct (T U) (T U) U sizeOf3 (hs:=Gx hp)) ?_ U));rintro _ _ ⟨rfl,rfl⟩;refine rOt 4 U ?_;refine y_ (On U isAgg32 sizeOf32 (Af hso) (by exact Ae fndq)) ?_ U;refine e_ (Oq U U sizeOf32 .agg (Bc _) (Af hso) updq (by rw[Af hso];rfl)) ?_ U;rintro _ _ ⟨rfl,rfl⟩;refine rOt 3 U (Ai U (.cellA (Aa U) isAgg32 sizeOf32 (Af hso) qcs .nil) ?_);exact⟨_,⟨by show Value.agg (hdC _).toArray=_;rw[set_word hf hh hn],rfl⟩,sbt⟩
theorem Kc8 {a0 a1 a2 a3 a4 a5 a6 a7 a8 a9 a10 a11 a12 a13 a14 a15 a16 a17 a18 a19:Int}(w:World):(Instr.build 91 #[(0, .agg #[Vi a0,Vi a1,Vi a2,Vi a3,Vi a4,Vi a5,Vi a6,Vi a7,Vi a8,Vi a9]),(1, .agg #[Vi a10,Vi a11,Vi a12,Vi a13,Vi a14,Vi a15,Vi a16,Vi a17,Vi a18,Vi a19])]).run prog w= .ok (.agg #[Vi a0,Vi a1,Vi a2,Vi a3,Vi a4,Vi a5,Vi a6,Vi a7,Vi a8,Vi a9,Vi a10,Vi a11,Vi a12,Vi a13,Vi a14,Vi a15,Vi a16,Vi a17,Vi a18,Vi a19]) w:=by kernel_rfl
theorem or_andN (x y:Nat):andN x y|||y=x|||y:=by
 refine Nat.eq_of_testBit_eq fun i=> ?_
 rw[Nat.testBit_or,Nat.testBit_or,E0];cases x.testBit i<;>cases y.testBit i<;>rfl
theorem gd_set {h:Hd}{i x:Nat}(hi:i<h.length):gd (h.set i x) i=x:=by unfold gd List.getD;simp[hi]
abbrev bitv (i:Nat):Nat:=1*2 ^ (15 - i % 16)
theorem bitv_lt (i:Nat):bitv i<65536:=by
 have:=C7 (n:=15 - i % 16) qom;have h2:2 ^ (15 - i % 16)<2 ^ 16:=Nat.pow_lt_pow_right qde qom;unfold bitv;omega
theorem put_f {h:Hd}(hh:HdOk h){b:Nat}(hb:b<160):h.set (b / 16) (andN (gd h (b / 16)) (bitv b))=hput h b false:=by
 have:=put_word hh hb false
 simpa using this
theorem put_t {h:Hd}(hh:HdOk h){b:Nat}(hb:b<160):h.set (b / 16) (gd h (b / 16)|||bitv b)=hput h b true:=by
 have:=put_word hh hb true;rw[if_pos U,or_andN] at this;exact this
theorem put_ft {h:Hd}(hh:HdOk h){b:Nat}(hb:b<160):(h.set (b / 16) (andN (gd h (b / 16)) (bitv b))).set (b / 16) (gd (h.set (b / 16) (andN (gd h (b / 16)) (bitv b))) (b / 16)|||bitv b)=hput h b true:=by
 have hp:b / 16<h.length:=by rw[hh.len];omega
 rw[gd_set hp,List.set_set,or_andN,put_t hh hb]
theorem setN_hi {a b:Hd}(ha:HdOk a){i x:Nat}(hi:i<b.length):setN? (hdC a++hdC b) (0+10+((i:Nat):Int).toNat*1) (Vi (x:Nat))=some (hdC a++hdC (b.set i x)):=by
 have h1:=Gx (x:=x) hi;rw[show 0+((i:Nat):Int).toNat*1=i by omega] at h1;have e:0+10+((i:Nat):Int).toNat*1=(hdC a).length+i:=by rw[Af ha];omega
 rw[e];have:∀ (l r r':List Value) (k:Nat) (v:Value),setN? r k v=some r'->setN? (l++r) (l.length+k) v=some (l++r'):=by
  intro l
  induction l with
  |nil=>intro r r' k v h;simpa using h
  |cons y l ih=>
   intro r r' k v h;have h2:=ih r r' k v h;rw[show (y::l).length+k=(l.length+k)+1 by simp;omega];show (match setN? (l++r) (l.length+k) v with|some l'=>some (y::l')|none=>none)=_;rw[h2];rfl
 exact this _ _ _ _ _ h1
theorem b2i_1 {b:Bool}:b2i b=1↔b=true:=by cases b<;>simp[b2i]
theorem Cn (a b:Hd):(hdC a++hdC b).all oneB=true:=by rw[List.all_append,Bc,Bc];rfl
theorem Bd {a b:Hd}(ha:HdOk a)(hb:HdOk b):(hdC a++hdC b).length=20:=by rw[List.length_append,Af ha,Af hb]
theorem mk78 {a b:Hd}(ha:HdOk a)(hb:HdOk b)(w:World):(Instr.build 91 #[(0, .agg (hdC a).toArray),(1, .agg (hdC b).toArray)]).run prog w= .ok (.agg (hdC a++hdC b).toArray) w:=by
 obtain⟨a0,a1,a2,a3,a4,a5,a6,a7,a8,a9,rfl⟩:=hd10 ha;obtain⟨b0,b1,b2,b3,b4,b5,b6,b7,b8,b9,rfl⟩:=hd10 hb;exact Kc8 w
theorem put_s (h:Hd)(hh:HdOk h)(i:Nat)(hi:i<160)(v:Bool):
  FSpec prog w0 100 #[.agg (hdC h).toArray,Vi (i:Nat),Vi (b2i v)] H (Still (.agg (hdC (hput h i v)).toArray) H):=by
 refine Am func100 U ntmps100 U ?_;have hlen:=hh.len;have hp:i / 16<h.length:=by omega
 have hgl:=Cp hh (i / 16);have hbv:=bitv_lt i;have hp16:=C7 (n:=15 - i % 16) qom;have hal:andN (gd h (i / 16)) (bitv i)<65536:=Fa (k:=16) hgl;have hs1:=D6 hh (i:=i / 16) hal;have hol:gd (h.set (i / 16) (andN (gd h (i / 16)) (bitv i))) (i / 16)|||bitv i<65536:=Nat.or_lt_two_pow (n:=16) (Cp hs1 _) hbv
 have hg1:=Cp hs1 (i / 16);have hs2:=D6 hs1 (i:=i / 16) hol;have hp1:i / 16<(h.set (i / 16) (andN (gd h (i / 16)) (bitv i))).length:=by rw[List.length_set];exact hp
 refine rDt 2 U (e_ (Ot U cs_) ?_ U);rintro _ _ ⟨n3,rfl,rfl⟩;refine e_ (Ag zeroValue32 cs_) ?_ U;rintro _ _ ⟨n6,rfl,rfl⟩;refine rOt 5 U (y_ (Ga (c:=16) (T U) Al qom) ?_ U);refine y_ (Dd (a:=15) Al (T U) qom) ?_ U;refine y_ (Fb (m:=1) qom qom Al (T U)) ?_ U;refine rOt 6 U (y_ (Dw (c:=16) (T U) Al qom) ?_ U);refine y_ (Bm (T U) (T U) runUnderlying32 sizeOf3 qom) ?_ U;refine y_ (Om U isAgg3 (by first|exact c_o|exact Ci (Ae fndq) hp)) ?_ U;refine rOt 1 U (y_ (Fw (n:=bitv i) qom qom (T U) (T U)) ?_ U);refine y_ (Bm (T U) (T U) runUnderlying32 sizeOf3 qom) ?_ U;refine e_ (Ct (T U) (T U) U sizeOf3 (hs:=Gx hp)) ?_ U;rintro _ _ ⟨rfl,rfl⟩;refine rOt 9 U ?_;refine jcd U (fun c20=> ?_) (fun c20=> ?_)
 ·obtain rfl:v=true:=b2i_1.1 c20;have hsR:=hs2;refine rCt 2 U (y_ (Dw (c:=16) (T U) Al qom) ?_ U);refine y_ (Bm (T U) (T U) runUnderlying32 sizeOf3 qom) ?_ U;refine y_ (Om U isAgg3 (by first|exact c_o|exact Ci (Ae fndq) hp1)) ?_ U;refine rOt 1 U (y_ (Id (n:=bitv i) qom qom (T U) (T U)) ?_ U);refine y_ (Bm (T U) (T U) runUnderlying32 sizeOf3 qom) ?_ U;refine e_ (Ct (T U) (T U) U sizeOf3 (hs:=Gx hp1)) ?_ U;rintro _ _ ⟨rfl,rfl⟩;refine rOt 4 U ?_;refine y_ (On U isAgg32 sizeOf32 (Af hsR) (by exact Ae fndq)) ?_ U;refine e_ (Oq U U sizeOf32 .agg (Bc _) (Af hsR) updq (by rw[Af hsR];rfl)) ?_ U;rintro _ _ ⟨rfl,rfl⟩;refine rOt 3 U (Ai U (.cellA (Aa U) isAgg32 sizeOf32 (Af hsR) qcs .nil) ?_);exact⟨_,⟨by show Value.agg (hdC _).toArray=_;rw[put_ft hh hi],rfl⟩,sbt⟩
 ·obtain rfl:v=false:=by cases v with
   |false=>rfl
   |true=>exact absurd rfl c20
  have hsR:=hs1;refine rCt 4 U ?_;refine y_ (On U isAgg32 sizeOf32 (Af hsR) (by exact Ae fndq)) ?_ U;refine e_ (Oq U U sizeOf32 .agg (Bc _) (Af hsR) updq (by rw[Af hsR];rfl)) ?_ U;rintro _ _ ⟨rfl,rfl⟩;refine rOt 3 U (Ai U (.cellA (Aa U) isAgg32 sizeOf32 (Af hsR) qcs .nil) ?_);exact⟨_,⟨by show Value.agg (hdC _).toArray=_;rw[put_f hh hi],rfl⟩,sbt⟩
theorem zbd30_z  (w:World):(Instr.build 32 #[]).run prog w= .ok (.agg #[Vi 0,Vi 0,Vi 0,Vi 0,Vi 0,Vi 0,Vi 0,Vi 0,Vi 0,Vi 0]) w:=by kernel_rfl
theorem hb0 (b:Nat):hbit hd0 b=false:=by unfold hbit;rw[gd_hd0];simp
abbrev mskN (w k:Nat):Nat:=andN (2 ^ w - 1) (1*2 ^ (w - k) - 1)
theorem mskN_bit (w k i:Nat):(mskN w k).testBit i=(decide (i<w)&& !decide (i<w - k)):=by
 unfold mskN;rw[E0,Nat.one_mul,Nat.testBit_two_pow_sub_one,Nat.testBit_two_pow_sub_one]
theorem mskN_lt (w k:Nat):mskN w k<2 ^ w:=Fa (by have:=Nat.two_pow_pos w;omega)
theorem fset_msk {f:Fd}{k:Nat}(hk:k<=f.w):fset f hd0 (mskN f.w k)=hdOf (mkP f k):=H7 fun b hb=>by
 unfold mkP
 by_cases h:f.pos<=b/\b<f.pos+f.w
 ·rw[if_pos h,mskN_bit]
  by_cases h2:b<f.pos+k
  ·simp[h.1,h2];omega
  ·simp[h2];omega
 ·rw[if_neg h,hb0]
  by_cases h1:f.pos<=b
  ·have: ¬ b<f.pos+k:=by omega
   simp[this]
  ·simp[h1]
theorem fset_val {f:Fd}{n k:Nat}(hk:k<=f.w):fset f hd0 (n &&& mskN f.w k)=hdOf (vlP f n k):=H7 fun b hb=>by
 unfold vlP mkP
 by_cases h:f.pos<=b/\b<f.pos+f.w
 ·rw[if_pos h,Nat.testBit_and,mskN_bit]
  by_cases h2:b<f.pos+k
  ·have h3:f.pos+f.w - 1 - b<f.w:=by omega
   have h4: ¬ f.pos+f.w - 1 - b<f.w - k:=by omega
   simp[h.1,h2,h3,h4]
  ·have h4:f.pos+f.w - 1 - b<f.w - k:=by omega
   simp[h2,h4]
 ·rw[if_neg h,hb0]
  by_cases h1:f.pos<=b
  ·have: ¬ b<f.pos+k:=by omega
   simp[this]
  ·simp[h1]
def preM (f:Fd) (n k:Nat):Md:=(hdOf (mkP f k),hdOf (vlP f n k))
theorem Bx (f:Fd)(n k:Nat):HdOk (preM f n k).1/\HdOk (preM f n k).2:=⟨Ck _,Ck _⟩
theorem fix_s (m:Md)(h1:HdOk m.1)(h2:HdOk m.2)(i:Nat)(hi:i<160)(v:Bool):
  FSpec prog w0 232 #[.agg (mdC m).toArray,Vi (i:Nat),Vi (b2i v)] H (Still (.agg (mdC (chg m i v)).toArray) H):=by
 refine Am func232 U ntmps232 U ?_;have hl1:=h1.len;have hl2:=h2.len;have hp:i / 16<m.1.length:=by omega
 have hp2:i / 16<m.2.length:=by omega
 have hg1:=Cp h1 (i / 16);have hg2:=Cp h2 (i / 16);have hbv:=bitv_lt i;have ho:gd m.1 (i / 16)|||bitv i<65536:=Nat.or_lt_two_pow (n:=16) hg1 hbv
 have hal:andN (gd m.2 (i / 16)) (bitv i)<65536:=Fa (k:=16) hg2;have hsA:=D6 h1 (i:=i / 16) ho;have hsB:=D6 h2 (i:=i / 16) hal;have hg3:=Cp hsB (i / 16);have ho2:gd (m.2.set (i / 16) (andN (gd m.2 (i / 16)) (bitv i))) (i / 16)|||bitv i<65536:=Nat.or_lt_two_pow (n:=16) hg3 hbv
 have hsC:=D6 hsB (i:=i / 16) ho2;have hp3:i / 16<(m.2.set (i / 16) (andN (gd m.2 (i / 16)) (bitv i))).length:=by rw[List.length_set];exact hp2
 refine rDt 2 U (e_ (Ot U cs_) ?_ U);rintro _ _ ⟨n3,rfl,rfl⟩;refine e_ (Ag zeroValue91 cs_) ?_ U;rintro _ _ ⟨n6,rfl,rfl⟩;refine rOt 3 U (Bf 10 (plq10 []) _ mixd qkr sb0 ?_ Bh);refine rPt 1 U (o_y U (Dw (c:=16) (T U) Al qom) ?_ U Ad);refine rPt 1 U (o_y U (Bm (T U) (T U) runUnderlying32 sizeOf3 qom) ?_ U Ad);refine o_y U (Om U isAgg3 (by first|exact c_o|exact Ci (E7 fndq) hp)) ?_ U Ad;refine rPt 1 U (o_y U (Ao (evq1 U) call236 (fun H' hs=>value_s i)) (o_y U (Id (n:=bitv i) qom qom (T U) (T U)) ?_ U Ad) U Ad);refine rPt 1 U (o_y U (Bm (T U) (T U) runUnderlying32 sizeOf3 qom) ?_ U Ad);refine Av U (e_ (Ct (T U) (T U) U sizeOf3 (hs:=Lf hp (hdC m.2))) ?_ U);rintro _ _ ⟨rfl,rfl⟩;refine rOt 3 U (Bf 10 (plq10 []) _ mixd qkr sb0 ?_ Bh);refine rPt 1 U (o_y U (Dw (c:=16) (T U) Al qom) ?_ U Ad);refine rPt 1 U (o_y U (Bm (T U) (T U) runUnderlying32 sizeOf3 qom) ?_ U Ad);refine o_y U (Om U isAgg3 (by first|exact c_o|exact Ci (El (m:=((m.1.set (i / 16) (gd m.1 (i / 16)|||bitv i)),m.2)) hsA fndq) hp2)) ?_ U Ad;refine rPt 1 U (o_y U (Ao (evq1 U) call236 (fun H' hs=>value_s i)) (o_y U (Fw (m:=gd m.2 (i / 16)) (n:=bitv i) qom qom (T U) (T U)) ?_ U Ad) U Ad);refine rPt 1 U (o_y U (Bm (T U) (T U) runUnderlying32 sizeOf3 qom) ?_ U Ad);refine Av U (e_ (Ct (T U) (T U) U sizeOf3 (hs:=setN_hi hsA hp2)) ?_ U);rintro _ _ ⟨rfl,rfl⟩;refine rOt 9 U ?_;refine jcd U (fun c28=> ?_) (fun c28=> ?_)
 ·obtain rfl:v=true:=b2i_1.1 c28;have hsR:=hsC;refine Bf 10 (plq10 []) _ mixd qkr sb0 ?_ Bh;refine rPt 1 U (o_y U (Dw (c:=16) (T U) Al qom) ?_ U Ad);refine rPt 1 U (o_y U (Bm (T U) (T U) runUnderlying32 sizeOf3 qom) ?_ U Ad);refine o_y U (Om U isAgg3 (by first|exact c_o|exact Ci (El (m:=((m.1.set (i / 16) (gd m.1 (i / 16)|||bitv i)),(m.2.set (i / 16) (andN (gd m.2 (i / 16)) (bitv i))))) hsA fndq) hp3)) ?_ U Ad;refine rPt 1 U (o_y U (Ao (evq1 U) call236 (fun H' hs=>value_s i)) (o_y U (Id (m:=gd (m.2.set (i / 16) (andN (gd m.2 (i / 16)) (bitv i))) (i / 16)) (n:=bitv i) qom qom (T U) (T U)) ?_ U Ad) U Ad);refine rPt 1 U (o_y U (Bm (T U) (T U) runUnderlying32 sizeOf3 qom) ?_ U Ad);refine Av U (e_ (Ct (T U) (T U) U sizeOf3 (hs:=setN_hi hsA hp3)) ?_ U);rintro _ _ ⟨rfl,rfl⟩;refine kO tb 2 [3,6] rfl U (rGt 2 U ?_);refine y_ (On U isAgg91 sizeOf91 (Bd hsA hsR) (by exact Ae fndq)) ?_ U;refine e_ (Oq U U sizeOf91 .agg (Cn _ _) (Bd hsA hsR) updq (by rw[Bd hsA hsR];rfl)) ?_ U;rintro _ _ ⟨rfl,rfl⟩;refine rOt 3 U (Ai U (.cellA (Aa U) isAgg91 sizeOf91 (Bd hsA hsR) qcs .nil) ?_);exact⟨_,⟨by show Value.agg (hdC _++hdC _).toArray=_;rw[put_ft h2 hi,put_t h1 hi];rfl,rfl⟩,sbt⟩
 ·obtain rfl:v=false:=by cases v with
   |false=>rfl
   |true=>exact absurd rfl c28
  have hsR:=hsB;refine rCt 4 U ?_;refine y_ (On U isAgg91 sizeOf91 (Bd hsA hsR) (by exact Ae fndq)) ?_ U;refine e_ (Oq U U sizeOf91 .agg (Cn _ _) (Bd hsA hsR) updq (by rw[Bd hsA hsR];rfl)) ?_ U;rintro _ _ ⟨rfl,rfl⟩;refine rOt 3 U (Ai U (.cellA (Aa U) isAgg91 sizeOf91 (Bd hsA hsR) qcs .nil) ?_);exact⟨_,⟨by show Value.agg (hdC _++hdC _).toArray=_;rw[put_f h2 hi,put_t h1 hi];rfl,rfl⟩,sbt⟩
theorem prefix_s (f:Fd)(hf:FdOk f)(n k:Nat)(hn:n<2 ^ f.w)(hk:k<=f.w):
  FSpec prog w0 207 #[.agg (encF f).toArray,Vi (n:Nat),Vi (k:Nat)] H (Still (.agg (mdC (preM f n k)).toArray) H):=by
 refine Am func207 U ntmps207 U ?_;have h16:=C7 hf.w16;have hw16:=hf.w16;have h17:=C7 (n:=f.w - k) qom;have hpp:=Nat.two_pow_pos (f.w - k);have hml:=mskN_lt f.w k;have hnl:n &&& mskN f.w k<2 ^ f.w:=Nat.lt_of_le_of_lt Nat.and_le_left hn;refine rDt 2 U (e_ (Ot U cs_) ?_ U);rintro _ _ ⟨n3,rfl,rfl⟩;refine e_ (Ag zeroValue91 cs_) ?_ U;rintro _ _ ⟨n6,rfl,rfl⟩;refine rOt 3 U (Bf 10 (plq10 []) _ mixd qkr sb0 ?_ Bh);refine o_y U (On U isAgg127 sizeOf127 U qcs) ?_ U Ad;refine o_y U (Ao (evq1 U) call223 (fun H' hs=>max_s f hf)) (rPt 1 U (o_y U (Om U isAgg3 qco) ?_ U Ad)) U Ad;refine rPt 1 U (o_y U (Dd (T U) (T U) qom) ?_ U Ad);refine o_y U (Fb (m:=1) qom qom Al (T U)) ?_ U Ad;refine o_y U (Dd (c:=1) (T U) Al qom) ?_ U Ad;refine o_y U (Fw qom qom (T U) (T U)) ?_ U Ad;refine rPt 1 U (Av U (rOt 3 U (Bf 11 (plq11 []) _ mixd qkr sb0 ?_ Bh)));refine o_y U (On U isAgg127 sizeOf127 U qcs) ?_ U Ad;refine o_y U (A1 .nil (zbd30_z)) (rPt 1 U (o_y U (Ao (evq3 U U U) call224 (fun H' hs=>fset_s f hf hd0 Ay (mskN f.w k) hml)) (o_y U (On U isAgg127 sizeOf127 U qcs) ?_ U Ad) U Ad)) U Ad;refine o_y U (A1 .nil (zbd30_z)) (rPt 2 U (o_y U (It (n:=mskN f.w k) qom qom (T U) (T U)) ?_ U Ad)) U Ad;refine o_y U (Ao (evq3 U U U) call224 (fun H' hs=>fset_s f hf hd0 Ay (n &&& mskN f.w k) hnl)) (o_y U (A1 (.cons (T U) (.cons (T U) .nil)) (mk78 (Bz _ _ _) (Bz _ _ _))) (Av U (e_ (Oq U U sizeOf91 .agg (Cn _ _) (Bd (Bz _ _ _) (Bz _ _ _)) updq (by rw[Bd (Bz _ _ _) (Bz _ _ _)];rfl)) ?_ U)) U Ad) U Ad;rintro _ _ ⟨rfl,rfl⟩;refine rOt 3 U (Ai U (.cellA (Aa U) isAgg91 sizeOf91 (Bd (Bz _ _ _) (Bz _ _ _)) qcs .nil) ?_);exact⟨_,⟨by show Value.agg (hdC _++hdC _).toArray=_;rw[fset_msk hk,fset_val hk];rfl,rfl⟩,sbt⟩
theorem equal_s (f:Fd)(hf:FdOk f)(n:Nat)(hn:n<2 ^ f.w):
  FSpec prog w0 206 #[.agg (encF f).toArray,Vi (n:Nat)] H (Still (.agg (mdC (preM f n f.w)).toArray) H):=by
 refine Am func206 U ntmps206 U (rDt 2 U (e_ (Ot U cs_) ?_ U));rintro _ _ ⟨n2,rfl,rfl⟩;refine e_ (Ag zeroValue91 cs_) ?_ U;rintro _ _ ⟨n4,rfl,rfl⟩;refine rOt 4 U (y_ (On U isAgg127 sizeOf127 U qcs) ?_ U);refine rOt 2 U (y_ (Om U isAgg3 qco) ?_ U);refine y_ (Ao (evq3 U U U) call207 (fun H' hs=>prefix_s f hf n f.w hn (Nat.le_refl _))) (e_ (Oq U U sizeOf91 .agg (Cn _ _) (Bd (Bx _ _ _).1 (Bx _ _ _).2) updq (by rw[Bd (Bx _ _ _).1 (Bx _ _ _).2];rfl)) ?_ U) U;rintro _ _ ⟨rfl,rfl⟩;refine rOt 3 U (Ai U (.cellA (Aa U) isAgg91 sizeOf91 (Bd (Bx _ _ _).1 (Bx _ _ _).2) qcs .nil) ?_);exact⟨_,⟨rfl,rfl⟩,sbt⟩
theorem mod_s (f:Fd)(hf:FdOk f)(n:Nat)(hn:n<2 ^ f.w):
  FSpec prog w0 169 #[.agg (encF f).toArray,Vi (n:Nat)] H (Still (.agg (mdC (preM f n f.w)).toArray) H):=by
 refine Am func169 U ntmps169 U (rDt 2 U (e_ (Ot U cs_) ?_ U));rintro _ _ ⟨n2,rfl,rfl⟩;refine e_ (Ag zeroValue144 cs_) ?_ U;rintro _ _ ⟨n4,rfl,rfl⟩;refine rOt 4 U (y_ (On U isAgg127 sizeOf127 U qcs) ?_ U);refine rOt 1 U (y_ (Ao (evq2 U U) call206 (fun H' hs=>equal_s f hf n hn)) (e_ (Oq U U sizeOf144 .agg (Cn _ _) (Bd (Bx _ _ _).1 (Bx _ _ _).2) updq (by rw[Bd (Bx _ _ _).1 (Bx _ _ _).2];rfl)) ?_ U) U);rintro _ _ ⟨rfl,rfl⟩;refine rOt 3 U (Ai U (.cellA (Aa U) isAgg144 sizeOf144 (Bd (Bx _ _ _).1 (Bx _ _ _).2) qcs .nil) ?_);exact⟨_,⟨rfl,rfl⟩,sbt⟩
theorem Kd5 {a0 a1 a2 a3 a4 a5 a6 a7 a8 a9 a10 a11 a12 a13 a14 a15 a16 a17 a18 a19:Int}(w:World):(Instr.buildSlice 99 1 #[(0, .agg #[Vi a0,Vi a1,Vi a2,Vi a3,Vi a4,Vi a5,Vi a6,Vi a7,Vi a8,Vi a9,Vi a10,Vi a11,Vi a12,Vi a13,Vi a14,Vi a15,Vi a16,Vi a17,Vi a18,Vi a19])]).run prog w= .ok (.slice (some ⟨w.heap.size,0,none⟩) 1 1) (w.alloc (Cl [Vi a0,Vi a1,Vi a2,Vi a3,Vi a4,Vi a5,Vi a6,Vi a7,Vi a8,Vi a9,Vi a10,Vi a11,Vi a12,Vi a13,Vi a14,Vi a15,Vi a16,Vi a17,Vi a18,Vi a19] 91)):=by kernel_rfl
theorem bit_i {x j:Nat}:((x / 2 ^ j &&& 1:Nat):Int)=b2i (x.testBit j):=by
 rw[Ld,Nat.testBit_eq_decide_div_mod_eq];unfold b2i
 by_cases e:x / 2 ^ j % 2=1
 ·rw[e];simp
 ·have:x / 2 ^ j % 2=0:=by omega
  rw[this];simp
theorem yl_bit {P:Program}{w0:World}{L:Fm}{H:Mm}{ty xt yt:TypeId}{x y:Operand}{m j:Nat}(hm:m<9223372036854775808)(hx:Ev L x (Vi ((m / 2 ^ j:Nat):Int)))(hy:Ev L y (Vi 1)):Yl P w0 (.binOp .and xt x y yt) ty L H (Vi (b2i (m.testBit j))):=by
 have h:=It (P:=P) (w0:=w0) (H:=H) (ty:=ty) (xt:=xt) (yt:=yt) (n:=1) (Nat.lt_of_le_of_lt (Nat.div_le_self m (2 ^ j)) hm) qom hx hy
 rwa [bit_i] at h
theorem hput_of (g:Nat->Bool)(b:Nat)(v:Bool):hput (hdOf g) b v=hdOf fun k=>if k=b then v else g k:=H7 fun k hk=>by rw[Br _ hk]
theorem preM_0 (f:Fd)(n:Nat):preM f n 0=(hd0,hd0):=by
 have e:hdOf (fun _=>false)=hd0:=C5 (Ck _) Ay fun b hb=>by rw[Br _ hb,hb0]
 have e1:mkP f 0=fun _=>false:=by
  funext b;unfold mkP
  by_cases h:f.pos<=b
  ·have: ¬ b<f.pos+0:=by omega
   simp[this]
  ·simp[h]
 have e2:vlP f n 0=fun _=>false:=by funext b;unfold vlP;rw[e1];rfl
 unfold preM;rw[e1,e2,e]
theorem preM_succ {f:Fd}{n k:Nat}(hk:k<f.w):chg (preM f n k) (f.pos+k) (n.testBit (f.w - 1 - k))=preM f n (k+1):=by
 have ext2:∀ {a b c d:Hd},a=c->b=d->(a,b)=(c,d):=fun h1 h2=>by rw[h1,h2]
 refine ext2 ((hput_of _ _ _).trans ?_) ((hput_of _ _ _).trans ?_)
 ·refine H7 fun b hb=> ?_
  unfold mkP
  by_cases e:b=f.pos+k
  ·subst e;simp
  ·rw[if_neg e]
   by_cases h:f.pos<=b
   ·by_cases h2:b<f.pos+k
    ·have:b<f.pos+(k+1):=by omega
     simp[h,h2,this]
    ·have: ¬ b<f.pos+(k+1):=by omega
     simp[h2,this]
   ·simp[h]
 ·refine H7 fun b hb=> ?_
  unfold vlP mkP
  by_cases e:b=f.pos+k
  ·subst e;have:f.pos+f.w - 1 - (f.pos+k)=f.w - 1 - k:=by omega
   simp[this]
  ·rw[if_neg e]
   by_cases h:f.pos<=b
   ·by_cases h2:b<f.pos+k
    ·have:b<f.pos+(k+1):=by omega
     simp[h,h2,this]
    ·have: ¬ b<f.pos+(k+1):=by omega
     simp[h2,this]
   ·simp[h]
abbrev encRg (f:Fd) (x:Nat × Nat):List Value:=mdC (preM f x.1 x.2)
theorem bs78 {m:Md}(h1:HdOk m.1)(h2:HdOk m.2)(w:World):(Instr.buildSlice 99 1 #[(0, .agg (mdC m).toArray)]).run prog w= .ok (.slice (some ⟨w.heap.size,0,none⟩) 1 1) (w.alloc (Cl (mdC m) 91)):=by
 obtain⟨a,b⟩:=m;obtain⟨a0,a1,a2,a3,a4,a5,a6,a7,a8,a9,rfl⟩:=hd10 h1;obtain⟨b0,b1,b2,b3,b4,b5,b6,b7,b8,b9,rfl⟩:=hd10 h2;exact Kd5 w
theorem fr_y {w l h n k:Nat}(hc:k<w/\l % 2 ^ (k+1)=0/\l+2 ^ (k+1) - 1<=h):frF w l h (n+1) k=frF w l h n (k+1):=by rw[frF,if_pos hc]
theorem fr_n {w l h n k:Nat}(hc: ¬ (k<w/\l % 2 ^ (k+1)=0/\l+2 ^ (k+1) - 1<=h)):frF w l h (n+1) k=k:=by rw[frF,if_neg hc]
theorem mod_up {l k:Nat}(h:l % 2 ^ k=0):l % 2 ^ (k+1)=0↔l / 2 ^ k % 2=0:=by
 have h1:=Nat.div_add_mod l (2 ^ k);rw[h,Nat.add_zero] at h1;have hp:=Nat.two_pow_pos k
 constructor
 ·intro h2;obtain⟨c,hc⟩:=Nat.dvd_of_mod_eq_zero h2;rw[hc,Nat.pow_succ,Nat.mul_assoc,Nat.mul_div_cancel_left _ hp];omega
 ·intro h2;obtain⟨c,hc⟩:=Nat.dvd_of_mod_eq_zero h2;rw[<- h1,hc,Nat.pow_succ,<- Nat.mul_assoc];exact Nat.mul_mod_right _ _
theorem bitsRange_s (f:Fd)(hf:FdOk f)(lo hi:Nat)(hlo:lo<=hi)(hhi:hi<2 ^ f.w):
  FSpec prog w0 225 #[Vi (f.pos:Nat),Vi (f.w:Nat),Vi (lo:Nat),Vi (hi:Nat)] H (fun u H'=>∃ d,(u= .tuple #[slV d (rgF f.w hi (hi+1) lo).length,Vi 0]/\SlOk d (rgF f.w hi (hi+1) lo).length 20)/\H'=slH d ((rgF f.w hi (hi+1) lo).flatMap (encRg f)) 91++H):=by
 refine Am func225 U ntmps225 U ?_;have h1:=hf.fit;have h2:=hf.lt;have h3:=hf.w1;have hw16:=hf.w16;have h16:=C7 hf.w16;refine rDt 12 U ?_;refine Aq (s:=16) (Aa U) (fun c16=> ?_) (fun c16=> ?_)
 ·exfalso;omega
 ·refine rOt 4 U ?_;refine Aq (s:=20) (Aa U) (fun c20=> ?_) (fun c20=> ?_)
  ·exfalso;omega
  ·refine rOt 4 U ?_;refine Aq (s:=24) (Aa U) (fun c24=> ?_) (fun c24=> ?_)
   ·exfalso;omega
   ·refine rOt 4 U ?_;refine Aq (s:=28) (Aa U) (fun c28=> ?_) (fun c28=> ?_)
    ·exfalso;omega
    ·refine rOt 1 U (A6 (Ga (c:=16) (T U) Al qom) U (A7 U U (Aa U)) ?_);refine rOt 1 U (A6 (Aw (T U) (T U) qom) U (A7 U U (Aa U)) ?_);refine rOt 3 U ?_;refine Aq (s:=35) (Aa U) (fun c35=> ?_) (fun c35=> ?_)
     ·exfalso;omega
     ·refine rOt 4 U ?_;refine Aq (s:=39) (Aa U) (fun c39=> ?_) (fun c39=> ?_)
      ·exfalso;omega
      ·refine rOt 5 U ?_;refine Aq (s:=44) (Aa U) (fun c44=> ?_) (fun c44=> ?_)
       ·exfalso;omega
       ·refine rOt 2 U (A6 (Fb (m:=1) qom qom Al (T U)) U (A7 U U (Aa U)) ?_);refine kO tb 4 [0,1,2,3,49] rfl U ?_;refine jcd U (fun c49=> ?_) (fun c49=> ?_)
        ·exfalso;omega
        ·refine rCt 9 U ?_;refine A8 (X:=Nat × List (Nat × Nat) × Nat × Sl) (V:=fun ⟨cur,dn,r,d⟩=>[(2,Vi (cur:Nat)),(10,slV d dn.length)]) (C:=[(0,_),(1,_),(3,_)]) (G:=fun ⟨cur,dn,r,d⟩=>slH d (dn.flatMap (encRg f)) 91++H) (φ:=fun ⟨cur,dn,r,d⟩=>rgF f.w hi (hi+1) lo=dn++rgF f.w hi r cur/\hi+1<=cur+r/\cur<=hi+1/\dn.length<=cur/\SlOk d dn.length 20) (μ:=fun ⟨cur,dn,r,d⟩=>hi+1 - cur) (x0:=(lo,[],hi+1, .nil)) ?_ (kg U) qkg sb0 ?_
         ·exact⟨rfl,by omega,by omega,Nat.zero_le _,rfl⟩
         rintro⟨cur,dn,r,d⟩ ⟨hrg,hcr,hcu,hdl,hok⟩;refine rDt 8 U ?_;refine jcd U (fun c52=> ?_) (fun c52=> ?_)
         ·obtain⟨r,rfl⟩:∃ r9,r=r9+1:=⟨r - 1,by omega⟩;refine rCt 10 U ?_;refine Ij (X:=Nat) (V:=fun k=>[(11,Vi (k:Nat))]) (C:=[(0,_),(1,_),(2,_),(3,_),(10,_)]) (φ:=fun k=>frF f.w cur hi (f.w+1) 0=frF f.w cur hi (f.w+1 - k) k/\k<=f.w/\cur % 2 ^ k=0/\cur+2 ^ k - 1<=hi) (μ:=fun k=>f.w - k) (x0:=0) ?_ (kg U) qkg ?_
          ·exact⟨rfl,Nat.zero_le _,Nat.mod_one _,by omega⟩
          rintro k ⟨hfr,hkw,hkm,hkl⟩;refine rDt 1 U ?_;refine Fl (X:=Bool) (V:=fun x71=>[(71, .bool x71)]) (C:=[(0,_),(1,_),(2,_),(3,_),(10,_),(11,_)]) (φ:=fun x71=>x71=decide (k<f.w/\cur / 2 ^ k % 2=0/\cur+2*2 ^ k - 1<=hi)) (kg U) ?_ ?_
          ·refine rDt 5 U ?_;refine Aq (s:=56) (Aa U) (fun c56=> ?_) (fun c56=> ?_)
           ·have hk16:=C7 (n:=k) qom;refine rOt 2 U (A6 (yl_shrI qom (T U) (T U)) U (A7 U U (Aa U)) ?_);refine A6 (It (n:=1) (by have:=Nat.div_le_self cur (2 ^ k);omega) qom (T U) Al) U (A7 U U (Aa U)) ?_;refine rOt 3 U ?_;refine Aq (s:=63) (Aa U) (fun c63=> ?_) (fun c63=> ?_)
            ·have hb6:cur / 2 ^ k % 2=0:=by rw[Ld] at c63;omega
             refine rOt 2 U (A6 (Fb (m:=2) qom qom Al (T U)) U (A7 U U (Aa U)) ?_);refine A6 (Cw (T U) (T U) qom) U (A7 U U (Aa U)) ?_;refine A6 (Dd (c:=1) (T U) Al qom) U (A7 U U (Aa U)) ?_;refine rOt 4 U ?_;refine Be (decide (((cur+2*2 ^ k - 1:Nat):Int)<=(hi:Int))) ?_ qkg (kg U) sbt;refine Bool.eq_iff_iff.2 ?_;simp only[decide_eq_true_eq,Bool.false_eq_true,false_iff];omega
            ·have hb6: ¬ cur / 2 ^ k % 2=0:=fun e=>c63 (by rw[Ld];omega)
             refine rOt 9 U ?_;refine Be (false) ?_ qkg (kg U) sbt;refine Bool.eq_iff_iff.2 ?_;simp only[decide_eq_true_eq,Bool.false_eq_true,false_iff];omega
           ·refine rOt 16 U ?_;refine Be (false) ?_ qkg (kg U) sbt;refine Bool.eq_iff_iff.2 ?_;simp only[decide_eq_true_eq,Bool.false_eq_true,false_iff];omega
          rintro x71 hx71
          first|refine jcd U (fun c71=> ?_) (fun c71=> ?_)|refine jcn U (fun c71=> ?_) (fun c71=> ?_)
          ·have hc:k<f.w/\cur / 2 ^ k % 2=0/\cur+2*2 ^ k - 1<=hi:=by simpa[hx71] using c71
           refine rCt 5 U (y_ (Cw (c:=1) (T U) Al qom) ?_ U);refine rOt 3 U ?_;refine Au (k+1) ?_ ?_ qkg (kg U) ?_
           ·exact⟨by rw[hfr,show f.w+1 - k=(f.w+1 - (k+1))+1 by omega];exact fr_y ⟨hc.1,(mod_up hkm).2 hc.2.1,by rw[Nat.pow_succ];omega⟩,by omega,(mod_up hkm).2 hc.2.1,by rw[Nat.pow_succ];omega⟩
           ·omega
           ·exact sbt
          ·have hc: ¬ (k<f.w/\cur / 2 ^ k % 2=0/\cur+2*2 ^ k - 1<=hi):=by simpa[hx71] using c71
           have hk16:=C7 (n:=k) qom;have hk1:=Nat.two_pow_pos k;have hfk:frF f.w cur hi (f.w+1) 0=k:=by
            rw[hfr,show f.w+1 - k=(f.w - k)+1 by omega];exact fr_n fun h=>hc ⟨h.1,(mod_up hkm).1 h.2.1,by have:=h.2.2;rw[Nat.pow_succ] at this;omega⟩
           refine rCt 2 U (An (rXt 4 U (e_ (Ag zeroValue91 cs_) ?_ U)));rintro _ _ ⟨n12,rfl,rfl⟩;refine rOt 7 U (y_ (Dd (T U) (T U) qom) ?_ U);refine rOt 4 U ?_;refine A8 (X:=Nat) (V:=fun i=>[(77,Vi (i:Nat))]) (C:=[(0,_),(1,_),(2,_),(3,_),(10,_),(11,_),(12,_),(76,_)]) (G:=fun i=>(n12,Cl (encRg f (cur,i)) 91)::(slH d (dn.flatMap (encRg f)) 91++H)) (φ:=fun i=>i<=f.w - k) (μ:=fun i=>f.w - k - i) (x0:=0) ?_ (kg U) qkg (by show ((n12,Cl (mdC (preM f cur 0)) 91)::_).Sublist _;rw[preM_0];exact sbt) ?_
           ·exact Nat.zero_le _
           rintro i hik;refine rDt 6 U ?_;refine jcd U (fun c78=> ?_) (fun c78=> ?_)
           ·refine rCt 10 U (Bf 12 (plq12 []) _ mixd qkr sb0 ?_ Bh);refine o_y U (On U isAgg91 sizeOf91 (Bd (Bx _ _ _).1 (Bx _ _ _).2) qcs) ?_ U Ad;refine rPt 2 U (o_y U (Cw (T U) (T U) qom) ?_ U Ad);refine rPt 2 U (o_y U (Dd (c:=1) (T U) Al qom) ?_ U Ad);refine rPt 1 U (o_y U (Dd (T U) (T U) qom) ?_ U Ad);refine o_y U (yl_shrI qom (T U) (T U)) ?_ U Ad;refine o_y U (yl_bit qom (T U) Al) ?_ U Ad;refine o_y U (Ao (evq3 U U U) call232 (fun H' hs=>fix_s _ (Bx _ _ _).1 (Bx _ _ _).2 (f.pos+i) qom _)) ?_ U Ad;refine Av U (e_ (Oq U U sizeOf91 .agg (Cn _ _) (Bd (Cm _ _ _) (Cm _ _ _)) updq ((Bd (Bx _ _ _).1 (Bx _ _ _).2).trans (Bd (Cm _ _ _) (Cm _ _ _)).symm)) ?_ U);rintro _ _ ⟨rfl,rfl⟩;refine rOt 4 U (y_ (Cw (c:=1) (T U) Al qom) ?_ U);refine rOt 2 U ?_;refine Au (i+1) ?_ ?_ qkg (kg U) ?_
            ·omega
            ·omega
            ·have e9:=preM_succ (f:=f) (n:=cur) (show i<f.w by omega);show ((n12,Cl (mdC (preM f cur (i+1))) 91)::_).Sublist ((n12,Cl (mdC (chg (preM f cur i) (f.pos+i) (cur.testBit (f.w - 1 - i)))) 91)::_);rw[e9];exact sb0
           ·obtain rfl:i=f.w - k:=by omega
            refine rCt 2 U (An (rXt 5 U (y_ (On U isAgg91 sizeOf91 (Bd (Bx _ _ _).1 (Bx _ _ _).2) qcs) ?_ U)));refine e_ (Bb (.cons (T U) .nil) (bs78 (Bx _ _ _).1 (Bx _ _ _).2)) ?_ U;rintro _ _ ⟨n95,rfl,rfl⟩;refine e_ (Cg (enc:=encRg f) ((cur,f.w - k)) (by':=160) locq (T U) (T U) runUnderlying99 runUnderlying99 sizeOf91 typeInfo91 U zeroValue91 U (fun _=>Bd (Ck _) (Ck _)) (Cn _ _) hok qde qom) ?_ U;rintro _ _ ⟨d',rfl,hok',rfl⟩;refine rOt 6 U (y_ (Fb (m:=1) qom qom Al (T U)) ?_ U);refine y_ (Cw (T U) (T U) qom) ?_ U;refine rOt 3 U ?_;refine Au ((cur+1*2 ^ k,dn++[(cur,f.w - k)],r,d')) ?_ ?_ ⟨qat,atd,trivial⟩ (kg U) ?_
            ·exact⟨by rw[hrg,rgF,if_pos qom,hfk,Nat.one_mul];simp,by omega,by omega,by simp;omega,by simpa using hok'⟩
            ·first|omega|(simp only[];omega)
            ·exact sbt
         ·have hre:rgF f.w hi (hi+1) lo=dn:=by
           rw[hrg];cases r with
           |zero=>simp[rgF]
           |succ r=>rw[rgF,if_neg qom];simp
          refine rCt 2 U (An (rXt 10 U (Ai U (.tmp (Aa U) (Ol U)) ?_)));rw[hre];exact⟨_,⟨d,⟨rfl,hok⟩,rfl⟩,sbt⟩
theorem Kc7 (a0:ByteArray)(a1:Int)(w:World):(Instr.build 127 #[(0, .string a0),(2,Vi a1)]).run prog w= .ok (.agg #[.string a0,Vi 0,Vi a1]) w:=by kernel_rfl
theorem zbd67_z  (w:World):(Instr.build 127 #[]).run prog w= .ok (.agg #[.string ⟨#[]⟩,Vi 0,Vi 0]) w:=by kernel_rfl
theorem yl_field {P:Program}{w0:World}{L:Fm}{H:Mm}{ty t:TypeId}{x:Operand}{v u:Value}{i:Nat}(hx:Ev L x v)(h:∀ w,(Instr.field t v i).run P w= .ok u w):Yl P w0 (.field t x i) ty L H u:=Bk U fun b w=>by
 simp[exO,execOp,hx b,h,Sem.run_bind,Result.andThen]
theorem field67 (s:ByteArray)(a b:Int)(w:World):(Instr.field 127 (.agg #[.string s,Vi a,Vi b]) 0).run prog w= .ok (.string s) w:=by kernel_rfl
theorem nm_eq {a b:ByteArray}:a.data.toList=b.data.toList↔a=b:=⟨fun h=>by
 obtain⟨⟨a⟩⟩:=a;obtain⟨⟨b⟩⟩:=b;simp only[] at h;rw[h],fun h=>by rw[h]⟩
def portN:ByteArray:=⟨#[112,111,114,116]⟩
def portFd:Fd:=⟨portN,0,16⟩
def idxF (nm:ByteArray):List Fd->Nat->Option Nat
 |[],_=>none
 |f::l,k=>if f.nm=nm then some k else idxF nm l (k+1)
theorem Iv {nm:ByteArray}{fl:List Fd}{k:Nat}(h:k<fl.length):idxF nm (fl.drop k) k=if (gd fl k).nm=nm then some k else idxF nm (fl.drop (k+1)) (k+1):=by
 rw[List.drop_eq_getElem_cons h,idxF,Ar h]
theorem Lg {nm:ByteArray}:∀ {l:List Fd} {k i:Nat},idxF nm l k=some i->k<=i/\i<k+l.length
 |[],_,_,h=>by cases h
 |f::l,k,i,h=>by
  rw[idxF] at h
  split at h
  ·obtain rfl:=Option.some.inj h;simp
  ·have:=Lg h;simp only[List.length_cons];omega
def fndFd (fl:List Fd) (nm:ByteArray):Fd × Bool:=
 if nm=portN then (portFd,true) else match idxF nm fl 0 with
 |some i=>(gd fl i,true)
 |none=>(⟨⟨#[]⟩,0,0⟩,false)
theorem range_s (f:Fd)(hf:FdOk f)(lo hi:Nat)(hlo:lo<=hi)(hhi:hi<2 ^ f.w):
  FSpec prog w0 208 #[.agg (encF f).toArray,Vi (lo:Nat),Vi (hi:Nat)] H (fun u H'=>∃ d,(u=slV d (rgF f.w hi (hi+1) lo).length/\SlOk d (rgF f.w hi (hi+1) lo).length 20)/\H'=slH d ((rgF f.w hi (hi+1) lo).flatMap (encRg f)) 91++H):=by
 refine Am func208 U ntmps208 U (rDt 2 U (e_ (Ot U cs_) ?_ U));rintro _ _ ⟨n3,rfl,rfl⟩;refine rOt 6 U (y_ (Om U isAgg3 qco) ?_ U);refine rOt 1 U (y_ (Om U isAgg3 qco) ?_ U);refine rOt 2 U (e_ (Ah (evq4 U U U U) call225 (bitsRange_s f hf lo hi hlo hhi)) ?_ U);rintro _ _ ⟨d,⟨rfl,hok⟩,rfl⟩;refine rOt 14 U (Ai U (Ol U) ?_);exact⟨_,⟨d,⟨rfl,hok⟩,rfl⟩,sbt⟩
theorem port_s :
  FSpec prog w0 163 #[] H (Still (.agg (encF portFd).toArray) H):=by
 refine Am func163 U ntmps163 U (rDt 2 U (e_ (Ag zeroValue127 cs_) ?_ U));rintro _ _ ⟨n0,rfl,rfl⟩;refine rOt 4 U (y_ (A1 (.cons Al (.cons Al .nil)) (Kc7 _ _)) ?_ U);refine Bo (Oq U U sizeOf127) U Ad ?_;rintro _ _ ⟨rfl,rfl⟩;refine rOt 3 U (Ai U (.cellA (Aa U) isAgg127 sizeOf127 U qcs .nil) ?_);exact⟨_,⟨rfl,rfl⟩,sbt⟩
theorem finds_s (nm:ByteArray)(n3:Nat)(hn:Fnd H n3 (Cl [.string nm] 9))(f:Fd):
  FSpec prog w0 165 #[.agg (encF f).toArray,Pt n3 0] H (Still (.bool (decide (f.nm=nm))) H):=by
 refine Am func165 U ntmps165 U (rDt 2 U (e_ (Ot U cs_) ?_ U));rintro _ _ ⟨n2,rfl,rfl⟩;refine rOt 6 U (y_ (Om U isAgg9 qco) ?_ U);refine y_ (Om U isAgg9 (by first|exact c_o|exact Cell.mono (w0:=w0) (Ae hn 0 _ U) sbt)) ?_ U;refine y_ (Eu (T U) (T U)) (rOt 4 U (Ai U (Ol U) ?_)) U;exact⟨_,⟨by show Value.bool (decide (f.nm.data.toList=nm.data.toList))=_;simp only[nm_eq],rfl⟩,sbt⟩
theorem index_s (fl:List Fd)(q:Option Addr)(c:Nat)(hA:Arr w0 H q 3 encF fl)(hl:fl.length<=1000000)(nm:ByteArray)(n3:Nat)(hn:Fnd H n3 (Cl [.string nm] 9)):
  FSpec prog w0 164 #[.slice q fl.length c, .func (.func 165) #[] #[Pt n3 0]] H (Still (Vi (e2i (idxF nm fl 0))) H):=by
 refine Am func164 U ntmps164 U (rDt 14 U ?_);refine Ij (X:=Nat) (V:=fun k=>[(8,Vi (k:Nat))]) (C:=[(0,_),(1,_),(7,_)]) (φ:=fun k=>k<=fl.length/\idxF nm fl 0=idxF nm (fl.drop k) k) (μ:=fun k=>fl.length - k) (x0:=0) ?_ (kg U) qkg ?_
 ·exact⟨Nat.zero_le _,rfl⟩
 rintro k ⟨hk,hix⟩;refine rDt 6 U ?_;refine jcd U (fun c9=> ?_) (fun c9=> ?_)
 ·refine rCt 15 U (y_ (Oo U U runUnderlying22 sizeOf127 qom (by first|exact rfl|exact(hA k (gd fl k) (Cy qom)).1)) ?_ U);refine y_ (On U isAgg127 sizeOf127 U (by exact(hA.mono sbt).cs (i:=k) qom)) ?_ U;refine y_ (Ju (T U) (qe1 U) call165 (fun H' hs=>finds_s (H:=H') nm n3 (Fnd.mono hn hs) (gd fl k))) (rOt 2 U ?_) U;refine jcd U (fun c16=> ?_) (fun c16=> ?_)
  ·have heq:(gd fl k).nm=nm:=by simpa using c16
   refine rCt 9 U (Bg (rXt 2 U (Ai U (Ol U) ?_)));exact⟨_,⟨vint (by rw[hix,Iv qom,if_pos heq];rfl),rfl⟩,sbt⟩
  ·have hne: ¬ (gd fl k).nm=nm:=by simpa using c16
   refine rCt 4 U (y_ (Cw (c:=1) (T U) Al qom) ?_ U);refine rOt 2 U ?_;refine Au (k+1) ?_ ?_ qkg (kg U) ?_
   ·exact⟨by omega,by rw[hix,Iv qom,if_neg hne]⟩
   ·omega
   ·exact sbt
 ·obtain rfl:k=fl.length:=by omega
  refine rCt 2 U (An (rXt 8 U (Ai U (Ol U) ?_)));exact⟨_,⟨vint (by rw[hix,List.drop_length];rfl),rfl⟩,sbt⟩
theorem Fx (fl:List Fd)(q:Option Addr)(c:Nat)(hA:Arr w0 H q 3 encF fl)(hl:fl.length<=1000000)(nm:ByteArray):
  FSpec prog w0 133 #[.slice q fl.length c, .string nm] H (Still (.tuple #[.agg (encF (fndFd fl nm).1).toArray, .bool (fndFd fl nm).2]) H):=by
 refine Am func133 U ntmps133 U (rDt 2 U (e_ (Ot U cs_) ?_ U));rintro _ _ ⟨n3,rfl,rfl⟩;refine e_ (Ag zeroValue127 cs_) ?_ U;rintro _ _ ⟨n4,rfl,rfl⟩;refine rOt 5 U (Bf 4 (plq4 []) _ mixd qkr sb0 ?_ Bh);refine o_y U (Om U isAgg9 qco) ?_ U Ad;refine o_y U (Ao .nil call163 (fun H' hs=>port_s)) (o_y U (yl_field (T U) (field67 _ _ _)) (o_y U (Eu (T U) (T U)) (Av U (rOt 2 U ?_)) U Ad) U Ad) U Ad;refine jcd U (fun c10=> ?_) (fun c10=> ?_)
 ·have hp:nm=portN:=nm_eq.1 c10;refine rCt 2 U (y_ (Ao .nil call163 (fun H' hs=>port_s)) ?_ U);refine Bo (Oq U U sizeOf127) U Ad ?_;rintro _ _ ⟨rfl,rfl⟩;refine rOt 5 U (Ai U (.cellA (Aa U) isAgg127 sizeOf127 U qcs (Ol U)) ?_);exact⟨_,⟨by unfold fndFd;rw[if_pos hp];rfl,rfl⟩,sbt⟩
 ·have hp: ¬ nm=portN:=fun e=>c10 (nm_eq.2 e)
  refine rCt 5 U (y_ (Bn (.cons (T U) .nil)) (y_ (Ao (evq2 U U) call164 (fun H' hs=>index_s fl q c (hA.mono (stn hs)) hl nm n3 (Fnd.mono fnd_h (stn hs)))) ?_ U) U);refine rOt 10 U ?_;refine jcd U (fun c16=> ?_) (fun c16=> ?_)
  ·have hno:idxF nm fl 0=none:=e2i_none qom;refine rCt 2 U (y_ (A1 .nil (zbd67_z)) ?_ U);refine Bo (Oq U U sizeOf127) U Ad ?_;rintro _ _ ⟨rfl,rfl⟩;refine rOt 5 U (Ai U (.cellA (Aa U) isAgg127 sizeOf127 U qcs (Ol U)) ?_);exact⟨_,⟨by unfold fndFd;rw[if_neg hp,hno];rfl,rfl⟩,sbt⟩
  ·obtain⟨i,hi0⟩:=e2i_some (o:=idxF nm fl 0) qom;have hi:=(Lg hi0).2;rw[Nat.zero_add] at hi;rw[hi0];refine rCt 6 U (y_ (Oo U U runUnderlying22 sizeOf127 qom (by first|exact rfl|exact(hA i (gd fl i) (Cy hi)).1)) ?_ U);refine y_ (On U isAgg127 sizeOf127 U (by exact(hA.mono sbt).cs (i:=i) hi)) ?_ U;refine Bo (Oq U U sizeOf127) U Ad ?_;rintro _ _ ⟨rfl,rfl⟩;refine rOt 4 U (Ai U (.cellA (Aa U) isAgg127 sizeOf127 U qcs (Ol U)) ?_);exact⟨_,⟨by unfold fndFd;rw[if_neg hp,hi0];rfl,rfl⟩,sbt⟩
inductive Pdm
 |mk (kind:Int) (nm:ByteArray) (val to:Int) (q:Option Addr) (cap:Nat) (subs:List Pdm)
instance:Inhabited Pdm:=⟨.mk 0 ⟨#[]⟩ 0 0 none 0 []⟩
def Pdm.kind:Pdm->Int
 | .mk k _ _ _ _ _ _=>k
def Pdm.nm:Pdm->ByteArray
 | .mk _ s _ _ _ _ _=>s
def Pdm.val:Pdm->Int
 | .mk _ _ v _ _ _ _=>v
def Pdm.to:Pdm->Int
 | .mk _ _ _ t _ _ _=>t
def Pdm.q:Pdm->Option Addr
 | .mk _ _ _ _ q _ _=>q
def Pdm.cap:Pdm->Nat
 | .mk _ _ _ _ _ c _=>c
def Pdm.subs:Pdm->List Pdm
 | .mk _ _ _ _ _ _ xs=>xs
abbrev encPd (m:Pdm):List Value:=[Vi m.kind, .string m.nm,Vi m.val,Vi m.to, .slice m.q m.subs.length m.cap]
inductive PdM (w0:World) (H:Mm):Pdm->Prop
 |mk {k:Int} {s:ByteArray} {v t:Int} {q:Option Addr} {c:Nat} {xs:List Pdm}:Arr w0 H q 5 encPd xs->(∀ a,a∈xs->PdM w0 H a)->PdM w0 H (.mk k s v t q c xs)
theorem PdM.mono {w0:World}{H H':Mm}{m:Pdm}(h:PdM w0 H m)(hs:H.Sublist H'):PdM w0 H' m:=by
 induction h with
 |mk h1 _ ih=>exact .mk (h1.mono hs) ih
theorem PdM.arr {m:Pdm}(h:PdM w0 H m):Arr w0 H m.q 5 encPd m.subs:=by cases h;assumption
theorem PdM.sub {m a:Pdm}(h:PdM w0 H m)(ha:a∈m.subs):PdM w0 H a:=by cases h;rename_i h1 h2;exact h2 _ ha
inductive IsP (fl:List Fd):Pdm->Pd->Prop
 |tru {m:Pdm}:m.kind=1->IsP fl m .tru
 |fls {m:Pdm}:m.kind=2->IsP fl m .fls
 |eq {m:Pdm} {n:Nat}:m.kind=3->m.val=(n:Int)->IsP fl m (.eq (fndFd fl m.nm).1 n)
 |pre {m:Pdm} {n k:Nat}:m.kind=4->m.val=(n:Int)->m.to=(k:Int)->IsP fl m (.pre (fndFd fl m.nm).1 n k)
 |rng {m:Pdm} {n k:Nat}:m.kind=5->m.val=(n:Int)->m.to=(k:Int)->IsP fl m (.rng (fndFd fl m.nm).1 n k)
 |no {m a:Pdm} {p:Pd}:m.kind=6->m.subs=[a]->IsP fl a p->IsP fl m (.no p)
 |and {m a b:Pdm} {p q:Pd}:m.kind=7->m.subs=[a,b]->IsP fl a p->IsP fl b q->IsP fl m (.and p q)
 |or {m a b:Pdm} {p q:Pd}:m.kind=8->m.subs=[a,b]->IsP fl a p->IsP fl b q->IsP fl m (.or p q)
 |tim {m:Pdm} {n k:Int}:m.kind=9->m.val=(n:Int)->m.to=(k:Int)->IsP fl m (.time n k)
structure En (w0:World) (R:Mm) (D:Sd) (fl:List Fd):Prop where
 bits:Arr w0 R D.qb 1 encB1 D.bs
 ok:BsOk D.bs
 flds:Arr w0 R D.qf 3 encF fl
 nf:D.nf=fl.length
 few:fl.length<=1000000
theorem En.mono {w0:World}{R R':Mm}{D:Sd}{fl:List Fd}(h:En w0 R D fl)(hs:R.Sublist R'):En w0 R' D fl:=⟨h.bits.mono hs,h.ok,h.flds.mono hs,h.nf,h.few⟩
theorem N3 (bs:List Nat)(hb:BsOk bs)(g:Nat->Bool):xh bs (hdOf g)=fun k=>g (gd bs k):=by
 funext k
 unfold xh;refine Br _ ?_
 by_cases h:k<bs.length
 ·exact hb.lt _ (Ax h)
 ·unfold gd List.getD;rw[List.getElem?_eq_none qom];decide
theorem Gy {most:Nat}{bs:List Nat}(hb:BsOk bs)(f:Fd)(n k:Nat)(ns:Ns):setF most bs.length (xh bs (preM f n k).1) (xh bs (preM f n k).2) ns=setPF most bs f n k ns:=by
 unfold preM setPF;rw[N3 bs hb,N3 bs hb]
theorem relF_pre {most:Nat}{bs:List Nat}(hb:BsOk bs)(f:Fd)(n:Nat)(ns:Ns):relF most bs.length (xh bs (preM f n f.w).1) (xh bs (preM f n f.w).2) ns=relPF most bs f n ns:=by
 unfold preM relPF;rw[N3 bs hb,N3 bs hb]
def TruS (w0:World) (D:Sd) (fl:List Fd) (tick:Int) (p:Pd):Prop:=∀ {R:Mm} {v:Sv} {ns:Ns} {m:Pdm},En w0 R D fl->IsP fl m p->p.Fit D.bs->PdM w0 R m->StOk D v ns->
 FSpecP prog w0 167 #[Pt (D.p) 0, .agg (encPd m).toArray,Vi tick] (SM D v ns++R) (OpK D (truF D.most.toNat D.bs tick p ns) R) (.iface 195 (.agg #[])) (OpB D (truF D.most.toNat D.bs tick p ns) ns R)
theorem rgF_len (w h:Nat):∀ (n l:Nat),(rgF w h n l).length<=n
 |0,_=>Nat.le_refl _
 |n+1,l=>by
  rw[rgF]
  split
  ·simp only[List.length_cons];have:=rgF_len w h n (l+2 ^ frF w l h (w+1) 0);omega
  ·simp
theorem Jd {w0:World}{D:Sd}{v:Sv}{ns:Ns}{H:Mm}{fl:List Fd}(h:D.nf=fl.length)(hs:(SM D v ns).Sublist H):Cell w0 H ⟨D.p,0,none⟩ (.slice D.qf fl.length D.cf):=by
 have:=Hh (w0:=w0) (D:=D) (v:=v) (ns:=ns) (j:=0) hs U;rw[h] at this;exact this
theorem rn_drop {most:Nat}{bs:List Nat}{f:Fd}{l:List (Nat × Nat)}{i:Nat}(hi:i<l.length)(ns:Ns)(id:Nat):rnF most bs f (l.drop i) ns id=match setPF most bs f (gd l i).1 (gd l i).2 ns with
  |none=>none
  |some (s,ns1)=>match orF most ns1 id s with
   |none=>none
   |some (id',ns2)=>rnF most bs f (l.drop (i+1)) ns2 id':=by
 rw[List.drop_eq_getElem_cons hi,rnF,Ar hi]
 rfl
theorem truT_s {w0:World}{D:Sd}{v:Sv}{ns:Ns}{R:Mm}{fl:List Fd}(hE:En w0 R D fl)(hst:StOk D v ns)(nm:ByteArray)(q:Option Addr)(c:Nat)(tick vv tt:Int)(xl:Nat):
  FSpecP prog w0 167 #[Pt (D.p) 0, .agg #[Vi 1, .string nm,Vi vv,Vi tt, .slice q xl c],Vi tick] (SM D v ns++R) (OpK D (some ((1:Nat),ns)) R) (.iface 195 (.agg #[])) (OpB D (some ((1:Nat),ns)) ns R):=by
 refine Bj func167 U ntmps167 U (rDt 2 U (e_ (Ot U cs_) ?_ U));rintro _ _ ⟨n4,rfl,rfl⟩;refine rOt 4 U (Bf 13 (plq10 [(10,false),(11,false),(12,true)]) _ mixd qkr sb0 ?_ B1);refine rPt 3 U ?_;refine o_y U (Om U isAgg22 (by exact Jd hE.nf (by repeat (first|exact Fv|exact sb0|refine List.Sublist.cons _ ?_)))) ?_ U Ad;refine rPt 1 U (o_y U (Om U isAgg9 qco) ?_ U Ad);refine o_y U (Ao (evq2 U U) call133 (fun H' hs=>Fx fl D.qf D.cf (hE.flds.mono (stn hs)) hE.few nm)) ?_ U Ad;refine rPt 3 U (o_e U (Ag zeroValue127 cs_) ?_ U Ad);rintro _ _ ⟨n7,rfl,rfl⟩;refine⟨sbt,?_⟩;refine o_e U (Oq U U sizeOf127) ?_ U Ad;rintro _ _ ⟨rfl,rfl⟩;refine⟨sbt,(rPt 1 U (Av U (rOt 6 U (y_ (Om U isAgg3 qco) ?_ U))))⟩;refine rOt 9 U ?_;refine jcd U (fun c24=> ?_) (fun c24=> ?_)
 ·refine rCt 8 U (Bs U (Ol U) ?_);exact⟨_,⟨(1,v,ns),⟨rfl,rfl,hst⟩,rfl⟩,sbt⟩
 ·exfalso;omega
theorem truF_s {w0:World}{D:Sd}{v:Sv}{ns:Ns}{R:Mm}{fl:List Fd}(hE:En w0 R D fl)(hst:StOk D v ns)(nm:ByteArray)(q:Option Addr)(c:Nat)(tick vv tt:Int)(xl:Nat):
  FSpecP prog w0 167 #[Pt (D.p) 0, .agg #[Vi 2, .string nm,Vi vv,Vi tt, .slice q xl c],Vi tick] (SM D v ns++R) (OpK D (some ((0:Nat),ns)) R) (.iface 195 (.agg #[])) (OpB D (some ((0:Nat),ns)) ns R):=by
 refine Bj func167 U ntmps167 U (rDt 2 U (e_ (Ot U cs_) ?_ U));rintro _ _ ⟨n4,rfl,rfl⟩;refine rOt 4 U (Bf 13 (plq10 [(10,false),(11,false),(12,true)]) _ mixd qkr sb0 ?_ B1);refine rPt 3 U ?_;refine o_y U (Om U isAgg22 (by exact Jd hE.nf (by repeat (first|exact Fv|exact sb0|refine List.Sublist.cons _ ?_)))) ?_ U Ad;refine rPt 1 U (o_y U (Om U isAgg9 qco) ?_ U Ad);refine o_y U (Ao (evq2 U U) call133 (fun H' hs=>Fx fl D.qf D.cf (hE.flds.mono (stn hs)) hE.few nm)) ?_ U Ad;refine rPt 3 U (o_e U (Ag zeroValue127 cs_) ?_ U Ad);rintro _ _ ⟨n7,rfl,rfl⟩;refine⟨sbt,?_⟩;refine o_e U (Oq U U sizeOf127) ?_ U Ad;rintro _ _ ⟨rfl,rfl⟩;refine⟨sbt,(rPt 1 U (Av U (rOt 6 U (y_ (Om U isAgg3 qco) ?_ U))))⟩;refine rOt 9 U ?_;refine jcd U (fun c24=> ?_) (fun c24=> ?_)
 ·exfalso;omega
 ·refine rCt 6 U ?_;refine jcd U (fun c26=> ?_) (fun c26=> ?_)
  ·exfalso;omega
  ·refine rCt 6 U ?_;refine jcd U (fun c34=> ?_) (fun c34=> ?_)
   ·exfalso;omega
   ·refine rCt 6 U ?_;refine jcd U (fun c44=> ?_) (fun c44=> ?_)
    ·exfalso;omega
    ·refine rCt 6 U ?_;refine jcd U (fun c65=> ?_) (fun c65=> ?_)
     ·exfalso;omega
     ·refine rCt 6 U ?_;refine jcd U (fun c76=> ?_) (fun c76=> ?_)
      ·exfalso;omega
      ·refine kC tb 6 [0,2,4,23,94] rfl U ?_;refine jcd U (fun c94=> ?_) (fun c94=> ?_)
       ·exfalso;omega
       ·refine rCt 6 U ?_;refine jcd U (fun c112=> ?_) (fun c112=> ?_)
        ·exfalso;omega
        ·refine rCt 9 U (Bs U (Ol U) ?_);exact⟨_,⟨(0,v,ns),⟨rfl,rfl,hst⟩,rfl⟩,sbt⟩
theorem truTime_s {w0:World}{D:Sd}{v:Sv}{ns:Ns}{R:Mm}{fl:List Fd}(hE:En w0 R D fl)(hst:StOk D v ns)(nm:ByteArray)(q:Option Addr)(c:Nat)(tick vv tt:Int)(xl:Nat):
  FSpecP prog w0 167 #[Pt (D.p) 0, .agg #[Vi 9, .string nm,Vi vv,Vi tt, .slice q xl c],Vi tick] (SM D v ns++R) (OpK D (some ((if vv<=tick/\tick<tt then 1 else 0:Nat),ns)) R) (.iface 195 (.agg #[])) (OpB D (some ((if vv<=tick/\tick<tt then 1 else 0:Nat),ns)) ns R):=by
 refine Bj func167 U ntmps167 U (rDt 2 U (e_ (Ot U cs_) ?_ U));rintro _ _ ⟨n4,rfl,rfl⟩;refine rOt 4 U (Bf 13 (plq10 [(10,false),(11,false),(12,true)]) _ mixd qkr sb0 ?_ B1);refine rPt 3 U ?_;refine o_y U (Om U isAgg22 (by exact Jd hE.nf (by repeat (first|exact Fv|exact sb0|refine List.Sublist.cons _ ?_)))) ?_ U Ad;refine rPt 1 U (o_y U (Om U isAgg9 qco) ?_ U Ad);refine o_y U (Ao (evq2 U U) call133 (fun H' hs=>Fx fl D.qf D.cf (hE.flds.mono (stn hs)) hE.few nm)) ?_ U Ad;refine rPt 3 U (o_e U (Ag zeroValue127 cs_) ?_ U Ad);rintro _ _ ⟨n7,rfl,rfl⟩;refine⟨sbt,?_⟩;refine o_e U (Oq U U sizeOf127) ?_ U Ad;rintro _ _ ⟨rfl,rfl⟩;refine⟨sbt,(rPt 1 U (Av U (rOt 6 U (y_ (Om U isAgg3 qco) ?_ U))))⟩;refine rOt 9 U ?_;refine jcd U (fun c24=> ?_) (fun c24=> ?_)
 ·exfalso;omega
 ·refine rCt 6 U ?_;refine jcd U (fun c26=> ?_) (fun c26=> ?_)
  ·exfalso;omega
  ·refine rCt 6 U ?_;refine jcd U (fun c34=> ?_) (fun c34=> ?_)
   ·exfalso;omega
   ·refine rCt 6 U ?_;refine jcd U (fun c44=> ?_) (fun c44=> ?_)
    ·exfalso;omega
    ·refine rCt 6 U ?_;refine jcd U (fun c65=> ?_) (fun c65=> ?_)
     ·exfalso;omega
     ·refine rCt 6 U ?_;refine jcd U (fun c76=> ?_) (fun c76=> ?_)
      ·exfalso;omega
      ·refine kC tb 6 [0,2,4,23,94] rfl U ?_;refine jcd U (fun c94=> ?_) (fun c94=> ?_)
       ·exfalso;omega
       ·refine rCt 6 U ?_;refine jcd U (fun c112=> ?_) (fun c112=> ?_)
        ·refine rCt 4 U (y_ (Om U isAgg3 qco) ?_ U);refine rOt 2 U ?_;refine Aq (s:=118) (Aa U) (fun c118=> ?_) (fun c118=> ?_)
         ·refine rOt 2 U (A6 (Om U isAgg3 qco) U (A7 U U (Aa U)) ?_);refine rOt 4 U ?_;refine jcd U (fun c123=> ?_) (fun c123=> ?_)
          ·refine rCt 8 U (Bs U (Ol U) ?_);exact⟨_,⟨(1,v,ns),⟨rfl,by rw[if_pos ⟨by omega,by omega⟩],hst⟩,rfl⟩,sbt⟩
          ·refine rCt 9 U (Bs U (Ol U) ?_);exact⟨_,⟨(0,v,ns),⟨rfl,by rw[if_neg qom],hst⟩,rfl⟩,sbt⟩
         ·refine rOt 17 U (Bs U (Ol U) ?_);exact⟨_,⟨(0,v,ns),⟨rfl,by rw[if_neg qom],hst⟩,rfl⟩,sbt⟩
        ·exfalso;omega
theorem truEq_s {w0:World}{D:Sd}{v:Sv}{ns:Ns}{R:Mm}{fl:List Fd}(hE:En w0 R D fl)(hst:StOk D v ns)(nm:ByteArray)(q:Option Addr)(c:Nat)(tick:Int)(n:Nat)(tt:Int)(xl:Nat)(hf:FdOk (fndFd fl nm).1)(hn:n<2 ^ (fndFd fl nm).1.w):
  FSpecP prog w0 167 #[Pt (D.p) 0, .agg #[Vi 3, .string nm,Vi (n:Nat),Vi tt, .slice q xl c],Vi tick] (SM D v ns++R) (OpK D (setPF D.most.toNat D.bs (fndFd fl nm).1 n (fndFd fl nm).1.w ns) R) (.iface 195 (.agg #[])) (OpB D (setPF D.most.toNat D.bs (fndFd fl nm).1 n (fndFd fl nm).1.w ns) ns R):=by
 refine Bj func167 U ntmps167 U (rDt 2 U (e_ (Ot U cs_) ?_ U));rintro _ _ ⟨n4,rfl,rfl⟩;refine rOt 4 U (Bf 13 (plq10 [(10,false),(11,false),(12,true)]) _ mixd qkr sb0 ?_ B1);refine rPt 3 U ?_;refine o_y U (Om U isAgg22 (by exact Jd hE.nf (by repeat (first|exact Fv|exact sb0|refine List.Sublist.cons _ ?_)))) ?_ U Ad;refine rPt 1 U (o_y U (Om U isAgg9 qco) ?_ U Ad);refine o_y U (Ao (evq2 U U) call133 (fun H' hs=>Fx fl D.qf D.cf (hE.flds.mono (stn hs)) hE.few nm)) ?_ U Ad;refine rPt 3 U (o_e U (Ag zeroValue127 cs_) ?_ U Ad);rintro _ _ ⟨n7,rfl,rfl⟩;refine⟨sbt,?_⟩;refine o_e U (Oq U U sizeOf127) ?_ U Ad;rintro _ _ ⟨rfl,rfl⟩;refine⟨sbt,(rPt 1 U (Av U (rOt 6 U (y_ (Om U isAgg3 qco) ?_ U))))⟩;refine rOt 9 U ?_;refine jcd U (fun c24=> ?_) (fun c24=> ?_)
 ·exfalso;omega
 ·refine rCt 6 U ?_;refine jcd U (fun c26=> ?_) (fun c26=> ?_)
  ·refine rCt 3 U (y_ (On U isAgg127 sizeOf127 U qcs) ?_ U);refine rOt 1 U (y_ (Om U isAgg3 qco) ?_ U);refine y_ (Ao (evq2 U U) call206 (fun H' hs=>equal_s _ hf n hn)) ?_ U;refine p_ (As (evq2 rfl rfl) call205 (A5 (M:=SM D v ns) (set_s (R:=((n7,Cl (encF (fndFd fl nm).1) 127)::(n4,Cl [Vi 3, .string nm,Vi (n:Nat),Vi tt, .slice q xl c] 25)::R)) (hE.bits.mono sbt) hE.ok hst (preM (fndFd fl nm).1 n (fndFd fl nm).1.w) (Bx _ _ _).1 (Bx _ _ _).2) locqc)) ?_ (by rintro _ ⟨⟨v1,ns1⟩,⟨e1,g1,hst1⟩,rfl⟩;(repeat (first|refine By ?_|refine Bw ?_));exact Bi ⟨(v1,ns1),⟨by rw[Gy hE.ok] at e1;exact e1,g1,hst1⟩,rfl⟩ sbt) rfl;rintro _ _ ⟨⟨r1,v1,ns1⟩,⟨rfl,e1,hst1⟩,rfl⟩
   dsimp only at e1 hst1
   rw[Gy hE.ok] at e1;refine rOt 6 U (Bs U (Ol U) ?_);exact⟨_,⟨(r1,v1,ns1),⟨rfl,e1,hst1⟩,rfl⟩,sbt⟩
  ·exfalso;omega
theorem truPre_s {w0:World}{D:Sd}{v:Sv}{ns:Ns}{R:Mm}{fl:List Fd}(hE:En w0 R D fl)(hst:StOk D v ns)(nm:ByteArray)(q:Option Addr)(c:Nat)(tick:Int)(n k xl:Nat)(hf:FdOk (fndFd fl nm).1)(hn:n<2 ^ (fndFd fl nm).1.w)(hk:k<=(fndFd fl nm).1.w):
  FSpecP prog w0 167 #[Pt (D.p) 0, .agg #[Vi 4, .string nm,Vi (n:Nat),Vi (k:Nat), .slice q xl c],Vi tick] (SM D v ns++R) (OpK D (setPF D.most.toNat D.bs (fndFd fl nm).1 n k ns) R) (.iface 195 (.agg #[])) (OpB D (setPF D.most.toNat D.bs (fndFd fl nm).1 n k ns) ns R):=by
 refine Bj func167 U ntmps167 U (rDt 2 U (e_ (Ot U cs_) ?_ U));rintro _ _ ⟨n4,rfl,rfl⟩;refine rOt 4 U (Bf 13 (plq10 [(10,false),(11,false),(12,true)]) _ mixd qkr sb0 ?_ B1);refine rPt 3 U ?_;refine o_y U (Om U isAgg22 (by exact Jd hE.nf (by repeat (first|exact Fv|exact sb0|refine List.Sublist.cons _ ?_)))) ?_ U Ad;refine rPt 1 U (o_y U (Om U isAgg9 qco) ?_ U Ad);refine o_y U (Ao (evq2 U U) call133 (fun H' hs=>Fx fl D.qf D.cf (hE.flds.mono (stn hs)) hE.few nm)) ?_ U Ad;refine rPt 3 U (o_e U (Ag zeroValue127 cs_) ?_ U Ad);rintro _ _ ⟨n7,rfl,rfl⟩;refine⟨sbt,?_⟩;refine o_e U (Oq U U sizeOf127) ?_ U Ad;rintro _ _ ⟨rfl,rfl⟩;refine⟨sbt,(rPt 1 U (Av U (rOt 6 U (y_ (Om U isAgg3 qco) ?_ U))))⟩;refine rOt 9 U ?_;refine jcd U (fun c24=> ?_) (fun c24=> ?_)
 ·exfalso;omega
 ·refine rCt 6 U ?_;refine jcd U (fun c26=> ?_) (fun c26=> ?_)
  ·exfalso;omega
  ·refine rCt 6 U ?_;refine jcd U (fun c34=> ?_) (fun c34=> ?_)
   ·refine rCt 3 U (y_ (On U isAgg127 sizeOf127 U qcs) ?_ U);refine rOt 1 U (y_ (Om U isAgg3 qco) ?_ U);refine rOt 1 U (y_ (Om U isAgg3 qco) ?_ U);refine y_ (Ao (evq3 U U U) call207 (fun H' hs=>prefix_s _ hf n k hn hk)) ?_ U;refine p_ (As (evq2 rfl rfl) call205 (A5 (M:=SM D v ns) (set_s (R:=((n7,Cl (encF (fndFd fl nm).1) 127)::(n4,Cl [Vi 4, .string nm,Vi (n:Nat),Vi (k:Nat), .slice q xl c] 25)::R)) (hE.bits.mono sbt) hE.ok hst (preM (fndFd fl nm).1 n k) (Bx _ _ _).1 (Bx _ _ _).2) locqc)) ?_ (by rintro _ ⟨⟨v1,ns1⟩,⟨e1,g1,hst1⟩,rfl⟩;(repeat (first|refine By ?_|refine Bw ?_));exact Bi ⟨(v1,ns1),⟨by rw[Gy hE.ok] at e1;exact e1,g1,hst1⟩,rfl⟩ sbt) rfl;rintro _ _ ⟨⟨r1,v1,ns1⟩,⟨rfl,e1,hst1⟩,rfl⟩
    dsimp only at e1 hst1
    rw[Gy hE.ok] at e1;refine kO tb 3 [6] rfl U (rGt 3 U (Bs U (Ol U) ?_));exact⟨_,⟨(r1,v1,ns1),⟨rfl,e1,hst1⟩,rfl⟩,sbt⟩
   ·exfalso;omega
theorem truNo_s {w0:World}{D:Sd}{v:Sv}{ns:Ns}{R:Mm}{fl:List Fd}(hE:En w0 R D fl)(hst:StOk D v ns)(nm:ByteArray)(q:Option Addr)(c:Nat)(tick vv tt:Int)(a:Pdm)(hA:Arr w0 R q 5 encPd [a])(hMa:PdM w0 R a)(p:Pd)(hIa:IsP fl a p)(hFa:p.Fit D.bs)(iha:TruS w0 D fl tick p):
  FSpecP prog w0 167 #[Pt (D.p) 0, .agg #[Vi 6, .string nm,Vi vv,Vi tt, .slice q [a].length c],Vi tick] (SM D v ns++R) (OpK D (truF D.most.toNat D.bs tick (.no p) ns) R) (.iface 195 (.agg #[])) (OpB D (truF D.most.toNat D.bs tick (.no p) ns) ns R):=by
 refine Bj func167 U ntmps167 U (rDt 2 U (e_ (Ot U cs_) ?_ U));rintro _ _ ⟨n4,rfl,rfl⟩;refine rOt 4 U (Bf 13 (plq10 [(10,false),(11,false),(12,true)]) _ mixd qkr sb0 ?_ B1);refine rPt 3 U ?_;refine o_y U (Om U isAgg22 (by exact Jd hE.nf (by repeat (first|exact Fv|exact sb0|refine List.Sublist.cons _ ?_)))) ?_ U Ad;refine rPt 1 U (o_y U (Om U isAgg9 qco) ?_ U Ad);refine o_y U (Ao (evq2 U U) call133 (fun H' hs=>Fx fl D.qf D.cf (hE.flds.mono (stn hs)) hE.few nm)) ?_ U Ad;refine rPt 3 U (o_e U (Ag zeroValue127 cs_) ?_ U Ad);rintro _ _ ⟨n7,rfl,rfl⟩;refine⟨sbt,?_⟩;refine o_e U (Oq U U sizeOf127) ?_ U Ad;rintro _ _ ⟨rfl,rfl⟩;refine⟨sbt,(rPt 1 U (Av U (rOt 6 U (y_ (Om U isAgg3 qco) ?_ U))))⟩;refine rOt 9 U ?_;refine jcd U (fun c24=> ?_) (fun c24=> ?_)
 ·exfalso;omega
 ·refine rCt 6 U ?_;refine jcd U (fun c26=> ?_) (fun c26=> ?_)
  ·exfalso;omega
  ·refine rCt 6 U ?_;refine jcd U (fun c34=> ?_) (fun c34=> ?_)
   ·exfalso;omega
   ·refine rCt 6 U ?_;refine jcd U (fun c44=> ?_) (fun c44=> ?_)
    ·exfalso;omega
    ·refine rCt 6 U ?_;refine jcd U (fun c65=> ?_) (fun c65=> ?_)
     ·refine rCt 5 U (y_ (Om U isAgg23 qco) ?_ U);refine y_ (Cd (T U) Al runUnderlying23 sizeOf25 (by simp) (by first|exact rfl|exact(hA 0 a U).1)) ?_ U;refine y_ (On U isAgg25 sizeOf25 U (by exact(hA.mono sbt).cs (i:=0) (by simp))) ?_ U;refine rOt 1 U ?_;refine p_ (As (evq3 rfl rfl rfl) call167 (A5 (M:=SM D v ns) (iha (R:=((n7,Cl (encF (fndFd fl nm).1) 127)::(n4,Cl [Vi 6, .string nm,Vi vv,Vi tt, .slice q [a].length c] 25)::R)) (hE.mono sbt) hIa hFa (hMa.mono sbt) hst) locqc)) ?_ (by rintro _ ⟨⟨v1,ns1⟩,⟨e1,g1,hst1⟩,rfl⟩;(repeat (first|refine By ?_|refine Bw ?_));exact Bi ⟨(v1,ns1),⟨by rw[truF,e1],g1,hst1⟩,rfl⟩ sbt) rfl;rintro _ _ ⟨⟨r1,v1,ns1⟩,⟨rfl,e1,hst1⟩,rfl⟩
      dsimp only at e1 hst1
      obtain⟨g1,l1,_⟩:=E3 hE.ok tick _ hFa hst.w e1;refine p_ (As (evq2 rfl rfl) call209 (A5 (M:=SM D v1 ns1) (not_s hst1 _ r1 l1) locqc)) ?_ (by rintro _ ⟨⟨v2,ns2⟩,⟨e2,g2,hst2⟩,rfl⟩;(repeat refine By ?_);exact Bi ⟨(v2,ns2),⟨by rw[truF,e1];exact e2,g1.trans g2,hst2⟩,rfl⟩ sbt) rfl;rintro _ _ ⟨⟨r2,v2,ns2⟩,⟨rfl,e2,hst2⟩,rfl⟩
      dsimp only at e2 hst2
      refine kO tb 3 [6] rfl U (rGt 3 U (Bs U (Ol U) ?_));exact⟨_,⟨(r2,v2,ns2),⟨rfl,by rw[truF,e1];exact e2,hst2⟩,rfl⟩,sbt⟩
     ·exfalso;omega
theorem truAnd_s {w0:World}{D:Sd}{v:Sv}{ns:Ns}{R:Mm}{fl:List Fd}(hE:En w0 R D fl)(hst:StOk D v ns)(nm:ByteArray)(q:Option Addr)(c:Nat)(tick vv tt:Int)(a b:Pdm)(hA:Arr w0 R q 5 encPd [a,b])(hMa:PdM w0 R a)(hMb:PdM w0 R b)(p1 p2:Pd)(hIa:IsP fl a p1)(hIb:IsP fl b p2)(hFa:p1.Fit D.bs)(hFb:p2.Fit D.bs)(iha:TruS w0 D fl tick p1)(ihb:TruS w0 D fl tick p2):
  FSpecP prog w0 167 #[Pt (D.p) 0, .agg #[Vi 7, .string nm,Vi vv,Vi tt, .slice q [a,b].length c],Vi tick] (SM D v ns++R) (OpK D (truF D.most.toNat D.bs tick (.and p1 p2) ns) R) (.iface 195 (.agg #[])) (OpB D (truF D.most.toNat D.bs tick (.and p1 p2) ns) ns R):=by
 refine Bj func167 U ntmps167 U (rDt 2 U (e_ (Ot U cs_) ?_ U));rintro _ _ ⟨n4,rfl,rfl⟩;refine rOt 4 U (Bf 13 (plq10 [(10,false),(11,false),(12,true)]) _ mixd qkr sb0 ?_ B1);refine rPt 3 U ?_;refine o_y U (Om U isAgg22 (by exact Jd hE.nf (by repeat (first|exact Fv|exact sb0|refine List.Sublist.cons _ ?_)))) ?_ U Ad;refine rPt 1 U (o_y U (Om U isAgg9 qco) ?_ U Ad);refine o_y U (Ao (evq2 U U) call133 (fun H' hs=>Fx fl D.qf D.cf (hE.flds.mono (stn hs)) hE.few nm)) ?_ U Ad;refine rPt 3 U (o_e U (Ag zeroValue127 cs_) ?_ U Ad);rintro _ _ ⟨n7,rfl,rfl⟩;refine⟨sbt,?_⟩;refine o_e U (Oq U U sizeOf127) ?_ U Ad;rintro _ _ ⟨rfl,rfl⟩;refine⟨sbt,(rPt 1 U (Av U (rOt 6 U (y_ (Om U isAgg3 qco) ?_ U))))⟩;refine rOt 9 U ?_;refine jcd U (fun c24=> ?_) (fun c24=> ?_)
 ·exfalso;omega
 ·refine rCt 6 U ?_;refine jcd U (fun c26=> ?_) (fun c26=> ?_)
  ·exfalso;omega
  ·refine rCt 6 U ?_;refine jcd U (fun c34=> ?_) (fun c34=> ?_)
   ·exfalso;omega
   ·refine rCt 6 U ?_;refine jcd U (fun c44=> ?_) (fun c44=> ?_)
    ·exfalso;omega
    ·refine rCt 6 U ?_;refine jcd U (fun c65=> ?_) (fun c65=> ?_)
     ·exfalso;omega
     ·refine rCt 6 U ?_;refine jcd U (fun c76=> ?_) (fun c76=> ?_)
      ·refine rCt 1 U (Bf 15 (plq7 [(8,true),(9,true),(10,true),(11,true),(12,true),(13,true),(7,false),(14,false)]) ((n7,Cl (encF (fndFd fl nm).1) 127)::(n4,Cl [Vi 7, .string nm,Vi vv,Vi tt, .slice q [a,b].length c] 25)::R) mixd qkr sbt ?_ B1);refine rPt 3 U (o_y U (Om U isAgg23 qco) ?_ U Ad);refine o_y U (Cd (T U) Al runUnderlying23 sizeOf25 (by simp) (by first|exact rfl|exact(hA 0 a U).1)) ?_ U Ad;refine o_y U (On U isAgg25 sizeOf25 U (by exact(hA.mono sbt).cs (i:=0) (by simp))) ?_ U Ad;refine rPt 3 U (o_y U (Om U isAgg23 qco) ?_ U Ad);refine o_y U (Cd (T U) Al runUnderlying23 sizeOf25 (by simp) (by first|exact rfl|exact(hA 0 a U).1)) ?_ U Ad;refine o_y U (On U isAgg25 sizeOf25 U (by exact(hA.mono sbt).cs (i:=1) (by simp))) ?_ U Ad;refine rPt 1 U ?_;refine o_p rfl (As (evq3 rfl rfl rfl) call167 (A5 (M:=SM D v ns) (iha (R:=((n7,Cl (encF (fndFd fl nm).1) 127)::(n4,Cl [Vi 7, .string nm,Vi vv,Vi tt, .slice q [a,b].length c] 25)::R)) (hE.mono sbt) hIa hFa (hMa.mono sbt) hst) locqc)) ?_ (by rintro _ ⟨⟨v1,ns1⟩,⟨e1,g1,hst1⟩,rfl⟩;(repeat (first|refine By ?_|refine Bw ?_));exact Bi ⟨(v1,ns1),⟨by rw[truF,e1],g1,hst1⟩,rfl⟩ sbt) rfl Ad;rintro _ _ ⟨⟨r1,v1,ns1⟩,⟨rfl,e1,hst1⟩,rfl⟩
       dsimp only at e1 hst1
       obtain⟨g1,l1,_⟩:=E3 hE.ok tick _ hFa hst.w e1;refine⟨sbt,?_⟩;refine o_p rfl (As (evq3 rfl rfl rfl) call167 (A5 (M:=SM D v1 ns1) (ihb (R:=((n7,Cl (encF (fndFd fl nm).1) 127)::(n4,Cl [Vi 7, .string nm,Vi vv,Vi tt, .slice q [a,b].length c] 25)::R)) (hE.mono sbt) hIb hFb (hMb.mono sbt) hst1) locqc)) ?_ (by rintro _ ⟨⟨v2,ns2⟩,⟨e2,g2,hst2⟩,rfl⟩;(repeat (first|refine By ?_|refine Bw ?_));exact Bi ⟨(v2,ns2),⟨by rw[truF,e1];simp only[e2],g1.trans g2,hst2⟩,rfl⟩ sbt) rfl Ad;rintro _ _ ⟨⟨r2,v2,ns2⟩,⟨rfl,e2,hst2⟩,rfl⟩
       dsimp only at e2 hst2
       obtain⟨g2,l2,_⟩:=E3 hE.ok tick _ hFb hst1.w e2;refine⟨sbt,(Av U ?_)⟩;refine p_ (As (evq3 rfl rfl rfl) call174 (A5 (M:=SM D v2 ns2) (and_s hst2 _ r1 r2 (Nat.lt_of_lt_of_le l1 g2.le) l2) locqc)) ?_ (by rintro _ ⟨⟨v3,ns3⟩,⟨e3,g3,hst3⟩,rfl⟩;(repeat refine By ?_);exact Bi ⟨(v3,ns3),⟨by rw[truF,e1];simp only[e2];exact e3,(g1.trans g2).trans g3,hst3⟩,rfl⟩ sbt) rfl;rintro _ _ ⟨⟨r3,v3,ns3⟩,⟨rfl,e3,hst3⟩,rfl⟩
       dsimp only at e3 hst3
       refine kO tb 3 [6] rfl U (rGt 3 U (Bs U (Ol U) ?_));exact⟨_,⟨(r3,v3,ns3),⟨rfl,by rw[truF,e1];simp only[e2];exact e3,hst3⟩,rfl⟩,sbt⟩
      ·exfalso;omega
theorem truOr_s {w0:World}{D:Sd}{v:Sv}{ns:Ns}{R:Mm}{fl:List Fd}(hE:En w0 R D fl)(hst:StOk D v ns)(nm:ByteArray)(q:Option Addr)(c:Nat)(tick vv tt:Int)(a b:Pdm)(hA:Arr w0 R q 5 encPd [a,b])(hMa:PdM w0 R a)(hMb:PdM w0 R b)(p1 p2:Pd)(hIa:IsP fl a p1)(hIb:IsP fl b p2)(hFa:p1.Fit D.bs)(hFb:p2.Fit D.bs)(iha:TruS w0 D fl tick p1)(ihb:TruS w0 D fl tick p2):
  FSpecP prog w0 167 #[Pt (D.p) 0, .agg #[Vi 8, .string nm,Vi vv,Vi tt, .slice q [a,b].length c],Vi tick] (SM D v ns++R) (OpK D (truF D.most.toNat D.bs tick (.or p1 p2) ns) R) (.iface 195 (.agg #[])) (OpB D (truF D.most.toNat D.bs tick (.or p1 p2) ns) ns R):=by
 refine Bj func167 U ntmps167 U (rDt 2 U (e_ (Ot U cs_) ?_ U));rintro _ _ ⟨n4,rfl,rfl⟩;refine rOt 4 U (Bf 13 (plq10 [(10,false),(11,false),(12,true)]) _ mixd qkr sb0 ?_ B1);refine rPt 3 U ?_;refine o_y U (Om U isAgg22 (by exact Jd hE.nf (by repeat (first|exact Fv|exact sb0|refine List.Sublist.cons _ ?_)))) ?_ U Ad;refine rPt 1 U (o_y U (Om U isAgg9 qco) ?_ U Ad);refine o_y U (Ao (evq2 U U) call133 (fun H' hs=>Fx fl D.qf D.cf (hE.flds.mono (stn hs)) hE.few nm)) ?_ U Ad;refine rPt 3 U (o_e U (Ag zeroValue127 cs_) ?_ U Ad);rintro _ _ ⟨n7,rfl,rfl⟩;refine⟨sbt,?_⟩;refine o_e U (Oq U U sizeOf127) ?_ U Ad;rintro _ _ ⟨rfl,rfl⟩;refine⟨sbt,(rPt 1 U (Av U (rOt 6 U (y_ (Om U isAgg3 qco) ?_ U))))⟩;refine rOt 9 U ?_;refine jcd U (fun c24=> ?_) (fun c24=> ?_)
 ·exfalso;omega
 ·refine rCt 6 U ?_;refine jcd U (fun c26=> ?_) (fun c26=> ?_)
  ·exfalso;omega
  ·refine rCt 6 U ?_;refine jcd U (fun c34=> ?_) (fun c34=> ?_)
   ·exfalso;omega
   ·refine rCt 6 U ?_;refine jcd U (fun c44=> ?_) (fun c44=> ?_)
    ·exfalso;omega
    ·refine rCt 6 U ?_;refine jcd U (fun c65=> ?_) (fun c65=> ?_)
     ·exfalso;omega
     ·refine rCt 6 U ?_;refine jcd U (fun c76=> ?_) (fun c76=> ?_)
      ·exfalso;omega
      ·refine kC tb 6 [0,2,4,23,94] rfl U ?_;refine jcd U (fun c94=> ?_) (fun c94=> ?_)
       ·refine rCt 1 U (Bf 15 (plq7 [(8,true),(9,true),(10,true),(11,true),(12,true),(13,true),(7,false),(14,false)]) ((n7,Cl (encF (fndFd fl nm).1) 127)::(n4,Cl [Vi 8, .string nm,Vi vv,Vi tt, .slice q [a,b].length c] 25)::R) mixd qkr sbt ?_ B1);refine rPt 3 U (o_y U (Om U isAgg23 qco) ?_ U Ad);refine o_y U (Cd (T U) Al runUnderlying23 sizeOf25 (by simp) (by first|exact rfl|exact(hA 0 a U).1)) ?_ U Ad;refine o_y U (On U isAgg25 sizeOf25 U (by exact(hA.mono sbt).cs (i:=0) (by simp))) ?_ U Ad;refine rPt 3 U (o_y U (Om U isAgg23 qco) ?_ U Ad);refine o_y U (Cd (T U) Al runUnderlying23 sizeOf25 (by simp) (by first|exact rfl|exact(hA 0 a U).1)) ?_ U Ad;refine o_y U (On U isAgg25 sizeOf25 U (by exact(hA.mono sbt).cs (i:=1) (by simp))) ?_ U Ad;refine rPt 1 U ?_;refine o_p rfl (As (evq3 rfl rfl rfl) call167 (A5 (M:=SM D v ns) (iha (R:=((n7,Cl (encF (fndFd fl nm).1) 127)::(n4,Cl [Vi 8, .string nm,Vi vv,Vi tt, .slice q [a,b].length c] 25)::R)) (hE.mono sbt) hIa hFa (hMa.mono sbt) hst) locqc)) ?_ (by rintro _ ⟨⟨v1,ns1⟩,⟨e1,g1,hst1⟩,rfl⟩;(repeat (first|refine By ?_|refine Bw ?_));exact Bi ⟨(v1,ns1),⟨by rw[truF,e1],g1,hst1⟩,rfl⟩ sbt) rfl Ad;rintro _ _ ⟨⟨r1,v1,ns1⟩,⟨rfl,e1,hst1⟩,rfl⟩
        dsimp only at e1 hst1
        obtain⟨g1,l1,_⟩:=E3 hE.ok tick _ hFa hst.w e1;refine⟨sbt,?_⟩;refine o_p rfl (As (evq3 rfl rfl rfl) call167 (A5 (M:=SM D v1 ns1) (ihb (R:=((n7,Cl (encF (fndFd fl nm).1) 127)::(n4,Cl [Vi 8, .string nm,Vi vv,Vi tt, .slice q [a,b].length c] 25)::R)) (hE.mono sbt) hIb hFb (hMb.mono sbt) hst1) locqc)) ?_ (by rintro _ ⟨⟨v2,ns2⟩,⟨e2,g2,hst2⟩,rfl⟩;(repeat (first|refine By ?_|refine Bw ?_));exact Bi ⟨(v2,ns2),⟨by rw[truF,e1];simp only[e2],g1.trans g2,hst2⟩,rfl⟩ sbt) rfl Ad;rintro _ _ ⟨⟨r2,v2,ns2⟩,⟨rfl,e2,hst2⟩,rfl⟩
        dsimp only at e2 hst2
        obtain⟨g2,l2,_⟩:=E3 hE.ok tick _ hFb hst1.w e2;refine⟨sbt,(Av U ?_)⟩;refine p_ (As (evq3 rfl rfl rfl) call94 (A5 (M:=SM D v2 ns2) (Nv hst2 _ r1 r2 (Nat.lt_of_lt_of_le l1 g2.le) l2) locqc)) ?_ (by rintro _ ⟨⟨v3,ns3⟩,⟨e3,g3,hst3⟩,rfl⟩;(repeat refine By ?_);exact Bi ⟨(v3,ns3),⟨by rw[truF,e1];simp only[e2];exact e3,(g1.trans g2).trans g3,hst3⟩,rfl⟩ sbt) rfl;rintro _ _ ⟨⟨r3,v3,ns3⟩,⟨rfl,e3,hst3⟩,rfl⟩
        dsimp only at e3 hst3
        refine rOt 6 U (Bs U (Ol U) ?_);exact⟨_,⟨(r3,v3,ns3),⟨rfl,by rw[truF,e1];simp only[e2];exact e3,hst3⟩,rfl⟩,sbt⟩
       ·exfalso;omega
theorem truRng_s {w0:World}{D:Sd}{v:Sv}{ns:Ns}{R:Mm}{fl:List Fd}(hE:En w0 R D fl)(hst:StOk D v ns)(nm:ByteArray)(q:Option Addr)(c:Nat)(tick:Int)(n k xl:Nat)(hf:FdOk (fndFd fl nm).1)(hnk:n<=k)(hk:k<2 ^ (fndFd fl nm).1.w):
  FSpecP prog w0 167 #[Pt (D.p) 0, .agg #[Vi 5, .string nm,Vi (n:Nat),Vi (k:Nat), .slice q xl c],Vi tick] (SM D v ns++R) (OpK D (rnF D.most.toNat D.bs (fndFd fl nm).1 (rgF (fndFd fl nm).1.w k (k+1) n) ns 0) R) (.iface 195 (.agg #[])) (OpB D (rnF D.most.toNat D.bs (fndFd fl nm).1 (rgF (fndFd fl nm).1.w k (k+1) n) ns 0) ns R):=by
 refine Bj func167 U ntmps167 U ?_;have hll:=rgF_len (fndFd fl nm).1.w k (k+1) n;have h16:=C7 hf.w16;refine rDt 2 U (e_ (Ot U cs_) ?_ U);rintro _ _ ⟨n4,rfl,rfl⟩;refine rOt 4 U (Bf 13 (plq10 [(10,false),(11,false),(12,true)]) _ mixd qkr sb0 ?_ B1);refine rPt 3 U ?_;refine o_y U (Om U isAgg22 (by exact Jd hE.nf (by repeat (first|exact Fv|exact sb0|refine List.Sublist.cons _ ?_)))) ?_ U Ad;refine rPt 1 U (o_y U (Om U isAgg9 qco) ?_ U Ad);refine o_y U (Ao (evq2 U U) call133 (fun H' hs=>Fx fl D.qf D.cf (hE.flds.mono (stn hs)) hE.few nm)) ?_ U Ad;refine rPt 3 U (o_e U (Ag zeroValue127 cs_) ?_ U Ad);rintro _ _ ⟨n7,rfl,rfl⟩;refine⟨sbt,?_⟩;refine o_e U (Oq U U sizeOf127) ?_ U Ad;rintro _ _ ⟨rfl,rfl⟩;refine⟨sbt,(rPt 1 U (Av U (rOt 6 U (y_ (Om U isAgg3 qco) ?_ U))))⟩;refine rOt 9 U ?_;refine jcd U (fun c24=> ?_) (fun c24=> ?_)
 ·exfalso;omega
 ·refine rCt 6 U ?_;refine jcd U (fun c26=> ?_) (fun c26=> ?_)
  ·exfalso;omega
  ·refine rCt 6 U ?_;refine jcd U (fun c34=> ?_) (fun c34=> ?_)
   ·exfalso;omega
   ·refine rCt 6 U ?_;refine jcd U (fun c44=> ?_) (fun c44=> ?_)
    ·refine rCt 8 U (y_ (On U isAgg127 sizeOf127 U qcs) ?_ U);refine rOt 1 U (y_ (Om U isAgg3 qco) ?_ U);refine rOt 1 U (y_ (Om U isAgg3 qco) ?_ U);refine e_ (Ah (evq3 U U U) call208 (range_s _ hf n k hnk hk)) ?_ U;rintro _ _ ⟨d,⟨rfl,hok⟩,rfl⟩;refine kO tb 4 [0,9,51,52,53] rfl U (rGt 1 U ?_);refine A8 (X:=Nat × Nat × Sv × Ns) (V:=fun ⟨i,id,vi,nsi⟩=>[(53,Vi (i:Nat)),(9,Vi (id:Nat))]) (C:=[(0,_),(51,_),(52,_)]) (G:=fun ⟨i,id,vi,nsi⟩=>slH d ((rgF (fndFd fl nm).1.w k (k+1) n).flatMap (encRg (fndFd fl nm).1)) 91++((n7,Cl (encF (fndFd fl nm).1) 127)::(n4,Cl [Vi 5, .string nm,Vi (n:Nat),Vi (k:Nat), .slice q xl c] 25)::(SM D vi nsi++R))) (φ:=fun ⟨i,id,vi,nsi⟩=>i<=(rgF (fndFd fl nm).1.w k (k+1) n).length/\StOk D vi nsi/\Gr (2*D.bs.length) ns nsi/\id<nsi.length/\(rnF D.most.toNat D.bs (fndFd fl nm).1 (rgF (fndFd fl nm).1.w k (k+1) n) ns 0)=rnF D.most.toNat D.bs (fndFd fl nm).1 ((rgF (fndFd fl nm).1.w k (k+1) n).drop i) nsi id) (μ:=fun ⟨i,id,vi,nsi⟩=>(rgF (fndFd fl nm).1.w k (k+1) n).length - i) (x0:=(0,0,v,ns)) ?_ (kg U) qkg sb0 ?_
     ·exact⟨Nat.zero_le _,hst, .refl hst.w,by have:=hst.w.two;omega,rfl⟩
     rintro⟨i,id,vi,nsi⟩ ⟨hi0,hsti,gi,hid,hF⟩;refine rDt 6 U ?_;refine jcd U (fun c54=> ?_) (fun c54=> ?_)
     ·have hi:i<(rgF (fndFd fl nm).1.w k (k+1) n).length:=by omega
      refine rCt 6 U (y_ (Oo U U runUnderlying99 sizeOf91 qom (by first|exact rfl|exact hok.bas qom)) ?_ U);refine y_ (On U isAgg91 sizeOf91 (Bd (Bx _ _ _).1 (Bx _ _ _).2) (by exact((B3 (w0:=w0) (e:=91) (X:=[]) (enc:=encRg (fndFd fl nm).1) (l:=(rgF (fndFd fl nm).1.w k (k+1) n)) (fun _=>Bd (Ck _) (Ck _)) hok).mono (by rw[List.append_nil];exact List.sublist_append_left _ _)).cs (i:=i) hi)) ?_ U;refine e_ (Ag zeroValue91 cs_) ?_ U;rintro _ _ ⟨n11,rfl,rfl⟩;refine e_ (Oq U U sizeOf91 .agg (Cn _ _) (Bd (Bx _ _ _).1 (Bx _ _ _).2) updq (by rw[Bd (Bx _ _ _).1 (Bx _ _ _).2];rfl)) ?_ U;rintro _ _ ⟨rfl,rfl⟩;refine rOt 6 U ?_;refine y_ (On U isAgg91 sizeOf91 (Bd (Bx _ _ _).1 (Bx _ _ _).2) (by exact Ae fndq)) ?_ U;refine p_ (As (evq2 rfl rfl) call205 (A5 (M:=SM D vi nsi) (set_s (R:=((n11,Cl (encRg (fndFd fl nm).1 (gd (rgF (fndFd fl nm).1.w k (k+1) n) i)) 91)::(slH d ((rgF (fndFd fl nm).1.w k (k+1) n).flatMap (encRg (fndFd fl nm).1)) 91++((n7,Cl (encF (fndFd fl nm).1) 127)::(n4,Cl [Vi 5, .string nm,Vi (n:Nat),Vi (k:Nat), .slice q xl c] 25)::R)))) (hE.bits.mono sbt) hE.ok hsti (preM (fndFd fl nm).1 (gd (rgF (fndFd fl nm).1.w k (k+1) n) i).1 (gd (rgF (fndFd fl nm).1.w k (k+1) n) i).2) (Bx _ _ _).1 (Bx _ _ _).2) locqc)) ?_ (by rintro _ ⟨⟨v1,ns1⟩,⟨e1,g1,hst1⟩,rfl⟩;(repeat (first|refine By ?_|refine Bw ?_));exact Bi ⟨(v1,ns1),⟨by rw[Gy hE.ok] at e1;rw[hF,rn_drop hi,e1],gi.trans g1,hst1⟩,rfl⟩ sbt) rfl;rintro _ _ ⟨⟨r1,v1,ns1⟩,⟨rfl,e1,hst1⟩,rfl⟩
      dsimp only at e1 hst1
      obtain⟨g1,i1⟩:=set_ok hsti.w e1;rw[Gy hE.ok] at e1;refine p_ (As (evq3 rfl rfl rfl) call94 (A5 (M:=SM D v1 ns1) (Nv hst1 _ id r1 (Nat.lt_of_lt_of_le hid g1.le) i1.lt) locqc)) ?_ (by rintro _ ⟨⟨v2,ns2⟩,⟨e2,g2,hst2⟩,rfl⟩;(repeat (first|refine By ?_|refine Bw ?_));exact Bi ⟨(v2,ns2),⟨by rw[hF,rn_drop hi,e1];simp only[e2],(gi.trans g1).trans g2,hst2⟩,rfl⟩ sbt) rfl;rintro _ _ ⟨⟨r2,v2,ns2⟩,⟨rfl,e2,hst2⟩,rfl⟩
      dsimp only at e2 hst2
      obtain⟨g2,i2⟩:=Fq E8 g1.w (Nat.lt_of_lt_of_le hid g1.le) i1.lt e2;refine rOt 5 U (y_ (Cw (c:=1) (T U) Al qom) ?_ U);refine rOt 2 U ?_;refine Au ((i+1,r2,v2,ns2)) ?_ ?_ qkg (kg U) ?_
      ·exact⟨by omega,hst2,(gi.trans g1).trans g2,i2.lt,by rw[hF,rn_drop hi,e1];simp only[e2]⟩
      ·first|omega|(simp only[];omega)
      ·exact sbt
     ·obtain rfl:i=(rgF (fndFd fl nm).1.w k (k+1) n).length:=by omega
      refine rCt 2 U (An (rXt 11 U (Bs U (Ol U) ?_)));exact⟨_,⟨(id,vi,nsi),⟨rfl,by rw[hF,List.drop_length];rfl,hsti⟩,rfl⟩,sbt⟩
    ·exfalso;omega
theorem tru_s {w0:World}{D:Sd}{fl:List Fd}{tick:Int}:∀ p,TruS w0 D fl tick p:=by
 intro p
 induction p with
 |tru=>
  intro R v ns m hE hI hF hM hst;obtain⟨k,s,va,t,q,c,xs⟩:=m;cases hI with
  |tru hk=>obtain rfl:k=1:=hk;exact truT_s hE hst s q c tick va t xs.length
 |fls=>
  intro R v ns m hE hI hF hM hst;obtain⟨k,s,va,t,q,c,xs⟩:=m;cases hI with
  |fls hk=>obtain rfl:k=2:=hk;exact truF_s hE hst s q c tick va t xs.length
 |eq f n=>
  intro R v ns m hE hI hF hM hst;obtain⟨k,s,va,t,q,c,xs⟩:=m;cases hI with
  |eq hk hv=>obtain rfl:k=3:=hk;obtain rfl:va=(n:Int):=hv;exact truEq_s hE hst s q c tick n t xs.length hF.1.ok hF.2
 |pre f n j=>
  intro R v ns m hE hI hF hM hst;obtain⟨k,s,va,t,q,c,xs⟩:=m;cases hI with
  |pre hk hv ht=>obtain rfl:k=4:=hk;obtain rfl:va=(n:Int):=hv;obtain rfl:t=(j:Int):=ht;exact truPre_s hE hst s q c tick n j xs.length hF.1.ok hF.2.1 hF.2.2
 |rng f n j=>
  intro R v ns m hE hI hF hM hst;obtain⟨k,s,va,t,q,c,xs⟩:=m;cases hI with
  |rng hk hv ht=>obtain rfl:k=5:=hk;obtain rfl:va=(n:Int):=hv;obtain rfl:t=(j:Int):=ht;exact truRng_s hE hst s q c tick n j xs.length hF.1.ok hF.2.1 hF.2.2
 |no a iha=>
  intro R v ns m hE hI hF hM hst;obtain⟨k,s,va,t,q,c,xs⟩:=m;cases hI with
  |no hk hs h1=>obtain rfl:k=6:=hk;obtain rfl:xs=[_]:=hs;exact truNo_s hE hst s q c tick va t _ hM.arr (hM.sub (by simp[Pdm.subs])) a h1 hF iha
 |and a b iha ihb=>
  intro R v ns m hE hI hF hM hst;obtain⟨k,s,va,t,q,c,xs⟩:=m;cases hI with
  |and hk hs h1 h2=>obtain rfl:k=7:=hk;obtain rfl:xs=[_,_]:=hs;exact truAnd_s hE hst s q c tick va t _ _ hM.arr (hM.sub (by simp[Pdm.subs])) (hM.sub (by simp[Pdm.subs])) a b h1 h2 hF.1 hF.2 iha ihb
 |or a b iha ihb=>
  intro R v ns m hE hI hF hM hst;obtain⟨k,s,va,t,q,c,xs⟩:=m;cases hI with
  |or hk hs h1 h2=>obtain rfl:k=8:=hk;obtain rfl:xs=[_,_]:=hs;exact truOr_s hE hst s q c tick va t _ _ hM.arr (hM.sub (by simp[Pdm.subs])) (hM.sub (by simp[Pdm.subs])) a b h1 h2 hF.1 hF.2 iha ihb
 |time n j=>
  intro R v ns m hE hI hF hM hst;obtain⟨k,s,va,t,q,c,xs⟩:=m;cases hI with
  |tim hk hv ht=>obtain rfl:k=9:=hk;obtain rfl:va=n:=hv;obtain rfl:t=j:=ht;exact truTime_s hE hst s q c tick va t xs.length
inductive Pom
 |mk (kind:Int) (pr:Pdm) (nm:ByteArray) (n:Int) (q:Option Addr) (cap:Nat) (subs:List Pom)
instance:Inhabited Pom:=⟨.mk 0 default ⟨#[]⟩ 0 none 0 []⟩
def Pom.kind:Pom->Int
 | .mk k _ _ _ _ _ _=>k
def Pom.pr:Pom->Pdm
 | .mk _ p _ _ _ _ _=>p
def Pom.nm:Pom->ByteArray
 | .mk _ _ s _ _ _ _=>s
def Pom.n:Pom->Int
 | .mk _ _ _ n _ _ _=>n
def Pom.q:Pom->Option Addr
 | .mk _ _ _ _ q _ _=>q
def Pom.cap:Pom->Nat
 | .mk _ _ _ _ _ c _=>c
def Pom.subs:Pom->List Pom
 | .mk _ _ _ _ _ _ xs=>xs
abbrev encPo (m:Pom):List Value:=[Vi m.kind,Vi m.pr.kind, .string m.pr.nm,Vi m.pr.val,Vi m.pr.to, .slice m.pr.q m.pr.subs.length m.pr.cap, .string m.nm,Vi m.n, .slice m.q m.subs.length m.cap]
inductive PoM (w0:World) (H:Mm):Pom->Prop
 |mk {k:Int} {p:Pdm} {s:ByteArray} {n:Int} {q:Option Addr} {c:Nat} {xs:List Pom}:PdM w0 H p->Arr w0 H q 9 encPo xs->(∀ a,a∈xs->PoM w0 H a)->PoM w0 H (.mk k p s n q c xs)
theorem PoM.mono {w0:World}{H H':Mm}{m:Pom}(h:PoM w0 H m)(hs:H.Sublist H'):PoM w0 H' m:=by
 induction h with
 |mk h0 h1 _ ih=>exact .mk (h0.mono hs) (h1.mono hs) ih
theorem PoM.pred {m:Pom}(h:PoM w0 H m):PdM w0 H m.pr:=by cases h;assumption
theorem PoM.arr {m:Pom}(h:PoM w0 H m):Arr w0 H m.q 9 encPo m.subs:=by cases h;assumption
theorem PoM.sub {m a:Pom}(h:PoM w0 H m)(ha:a∈m.subs):PoM w0 H a:=by cases h;rename_i h1 h2 h3;exact h3 _ ha
inductive IsO (fl:List Fd):Pom->Po->Prop
 |fil {m:Pom} {p:Pd}:m.kind=1->IsP fl m.pr p->IsO fl m (.fil p)
 |set {m:Pom} {n:Nat}:m.kind=2->m.n=(n:Int)->IsO fl m (.set (fndFd fl m.nm).1 n)
 |uni {m a b:Pom} {p q:Po}:m.kind=3->m.subs=[a,b]->IsO fl a p->IsO fl b q->IsO fl m (.uni p q)
 |seq {m a b:Pom} {p q:Po}:m.kind=4->m.subs=[a,b]->IsO fl a p->IsO fl b q->IsO fl m (.seq p q)
 |star {m a:Pom} {p:Po}:m.kind=5->m.subs=[a]->IsO fl a p->IsO fl m (.star p)
def PolS (w0:World) (D:Sd) (fl:List Fd) (tick:Int) (p:Po):Prop:=∀ {R:Mm} {v:Sv} {ns:Ns} {m:Pom},En w0 R D fl->IsO fl m p->p.Fit D.bs->PoM w0 R m->StOk D v ns->
 FSpecP prog w0 137 #[Pt (D.p) 0, .agg (encPo m).toArray,Vi tick] (SM D v ns++R) (OpK D (polF D.most.toNat D.bs tick (rdN D.bs) p ns) R) (.iface 195 (.agg #[])) (OpB D (polF D.most.toNat D.bs tick (rdN D.bs) p ns) ns R)
theorem N4 {n:Nat}{t:TypeId}(a:Value)(pm:Pdm)(r:List Value)(h:Fnd H n (Cl (a::(encPd pm++r)) t)):Cells w0 H n (0+1) (encPd pm):=fun i v hi=>by
 have:=Ae (w0:=w0) h (1+i) v (by rw[show 1+i=i+1 by omega,List.getElem?_cons_succ,List.getElem?_append_left (List.getElem?_eq_some_iff.1 hi).1];exact hi)
 rwa [<- Nat.add_assoc] at this
theorem polFil_s {w0:World}{D:Sd}{v:Sv}{ns:Ns}{R:Mm}{fl:List Fd}(hE:En w0 R D fl)(hst:StOk D v ns)(pm:Pdm)(nm:ByteArray)(q:Option Addr)(c:Nat)(tick vv:Int)(xl:Nat)(hM:PdM w0 R pm)(p:Pd)(hI:IsP fl pm p)(hF:p.Fit D.bs):
  FSpecP prog w0 137 #[Pt (D.p) 0, .agg #[Vi 1,Vi pm.kind, .string pm.nm,Vi pm.val,Vi pm.to, .slice pm.q pm.subs.length pm.cap, .string nm,Vi vv, .slice q xl c],Vi tick] (SM D v ns++R) (OpK D (polF D.most.toNat D.bs tick (rdN D.bs) (.fil p) ns) R) (.iface 195 (.agg #[])) (OpB D (polF D.most.toNat D.bs tick (rdN D.bs) (.fil p) ns) ns R):=by
 refine Bj func137 U ntmps137 U (rDt 2 U (e_ (Ot U cs_) ?_ U));rintro _ _ ⟨n4,rfl,rfl⟩;refine rOt 7 U (y_ (Om U isAgg3 qco) ?_ U);refine rOt 9 U ?_;refine jcd U (fun c11=> ?_) (fun c11=> ?_)
 ·refine rCt 5 U (y_ (On U isAgg25 sizeOf25 U (by exact N4 (Vi 1) pm [.string nm,Vi vv, .slice q xl c] fnd_h)) ?_ U);refine rOt 1 U ?_;refine p_ (As (evq3 rfl rfl rfl) call167 (A5 (M:=SM D v ns) (tru_s p (R:=((n4,Cl [Vi 1,Vi pm.kind, .string pm.nm,Vi pm.val,Vi pm.to, .slice pm.q pm.subs.length pm.cap, .string nm,Vi vv, .slice q xl c] 28)::R)) (hE.mono sbt) hI hF (hM.mono sbt) hst) locqc)) ?_ (by rintro _ ⟨⟨v1,ns1⟩,⟨e1,g1,hst1⟩,rfl⟩;(repeat (first|refine By ?_|refine Bw ?_));exact Bi ⟨(v1,ns1),⟨by rw[polF,e1],g1,hst1⟩,rfl⟩ sbt) rfl;rintro _ _ ⟨⟨r1,v1,ns1⟩,⟨rfl,e1,hst1⟩,rfl⟩
  dsimp only at e1 hst1
  obtain⟨g1,l1,_⟩:=E3 hE.ok tick _ hF hst.w e1;refine p_ (As (evq2 rfl rfl) call145 (A5 (M:=SM D v1 ns1) (filter_s (R:=((n4,Cl [Vi 1,Vi pm.kind, .string pm.nm,Vi pm.val,Vi pm.to, .slice pm.q pm.subs.length pm.cap, .string nm,Vi vv, .slice q xl c] 28)::R)) (hE.bits.mono sbt) hE.ok hst1 r1 l1) locqc)) ?_ (by rintro _ ⟨⟨v2,ns2⟩,⟨e2,g2,hst2⟩,rfl⟩;(repeat (first|refine By ?_|refine Bw ?_));exact Bi ⟨(v2,ns2),⟨by rw[polF,e1];exact e2,g1.trans g2,hst2⟩,rfl⟩ sbt) rfl;rintro _ _ ⟨⟨r2,v2,ns2⟩,⟨rfl,e2,hst2⟩,rfl⟩
  dsimp only at e2 hst2
  refine rOt 6 U (Bs U (Ol U) ?_);exact⟨_,⟨(r2,v2,ns2),⟨rfl,by rw[polF,e1];exact e2,hst2⟩,rfl⟩,sbt⟩
 ·exfalso;omega
theorem polSet_s {w0:World}{D:Sd}{v:Sv}{ns:Ns}{R:Mm}{fl:List Fd}(hE:En w0 R D fl)(hst:StOk D v ns)(pm:Pdm)(nm:ByteArray)(q:Option Addr)(c:Nat)(tick:Int)(n xl:Nat)(hf:FdOk (fndFd fl nm).1)(hn:n<2 ^ (fndFd fl nm).1.w):
  FSpecP prog w0 137 #[Pt (D.p) 0, .agg #[Vi 2,Vi pm.kind, .string pm.nm,Vi pm.val,Vi pm.to, .slice pm.q pm.subs.length pm.cap, .string nm,Vi (n:Nat), .slice q xl c],Vi tick] (SM D v ns++R) (OpK D (polF D.most.toNat D.bs tick (rdN D.bs) (.set (fndFd fl nm).1 n) ns) R) (.iface 195 (.agg #[])) (OpB D (polF D.most.toNat D.bs tick (rdN D.bs) (.set (fndFd fl nm).1 n) ns) ns R):=by
 refine Bj func137 U ntmps137 U (rDt 2 U (e_ (Ot U cs_) ?_ U));rintro _ _ ⟨n4,rfl,rfl⟩;refine rOt 7 U (y_ (Om U isAgg3 qco) ?_ U);refine rOt 9 U ?_;refine jcd U (fun c11=> ?_) (fun c11=> ?_)
 ·exfalso;omega
 ·refine rCt 6 U ?_;refine jcd U (fun c20=> ?_) (fun c20=> ?_)
  ·refine rCt 1 U (Bf 13 (plq10 [(10,false),(11,false),(12,true)]) _ mixd qkr sb0 ?_ B1);refine rPt 3 U ?_;refine o_y U (Om U isAgg22 (by exact Jd hE.nf (by repeat (first|exact Fv|exact sb0|refine List.Sublist.cons _ ?_)))) ?_ U Ad;refine rPt 1 U (o_y U (Om U isAgg9 qco) ?_ U Ad);refine o_y U (Ao (evq2 U U) call133 (fun H' hs=>Fx fl D.qf D.cf (hE.flds.mono (stn hs)) hE.few nm)) ?_ U Ad;refine rPt 3 U (o_e U (Ag zeroValue127 cs_) ?_ U Ad);rintro _ _ ⟨n7,rfl,rfl⟩;refine⟨sbt,?_⟩;refine o_e U (Oq U U sizeOf127) ?_ U Ad;rintro _ _ ⟨rfl,rfl⟩;refine⟨sbt,(rPt 1 U (Av U (rOt 5 U (y_ (On U isAgg127 sizeOf127 U qcs) ?_ U))))⟩;refine rOt 1 U (y_ (Om U isAgg3 qco) ?_ U);refine y_ (Ao (evq2 U U) call169 (fun H' hs=>mod_s _ hf n hn)) ?_ U;refine p_ (As (evq2 rfl rfl) call168 (A5 (M:=SM D v ns) (relation_s (R:=((n7,Cl (encF (fndFd fl nm).1) 127)::(n4,Cl [Vi 2,Vi pm.kind, .string pm.nm,Vi pm.val,Vi pm.to, .slice pm.q pm.subs.length pm.cap, .string nm,Vi (n:Nat), .slice q xl c] 28)::R)) (hE.bits.mono sbt) hE.ok hst (preM (fndFd fl nm).1 n (fndFd fl nm).1.w) (Bx _ _ _).1 (Bx _ _ _).2) locqc)) ?_ (by rintro _ ⟨⟨v1,ns1⟩,⟨e1,g1,hst1⟩,rfl⟩;(repeat (first|refine By ?_|refine Bw ?_));exact Bi ⟨(v1,ns1),⟨by rw[relF_pre hE.ok] at e1;exact e1,g1,hst1⟩,rfl⟩ sbt) rfl;rintro _ _ ⟨⟨r1,v1,ns1⟩,⟨rfl,e1,hst1⟩,rfl⟩
   dsimp only at e1 hst1
   rw[relF_pre hE.ok] at e1;refine rOt 6 U (Bs U (Ol U) ?_);exact⟨_,⟨(r1,v1,ns1),⟨rfl,e1,hst1⟩,rfl⟩,sbt⟩
  ·exfalso;omega
theorem polUni_s {w0:World}{D:Sd}{v:Sv}{ns:Ns}{R:Mm}{fl:List Fd}(hE:En w0 R D fl)(hst:StOk D v ns)(pm:Pdm)(nm:ByteArray)(q:Option Addr)(c:Nat)(tick vv:Int)(a b:Pom)(hA:Arr w0 R q 9 encPo [a,b])(hMa:PoM w0 R a)(hMb:PoM w0 R b)(p1 p2:Po)(hIa:IsO fl a p1)(hIb:IsO fl b p2)(hFa:p1.Fit D.bs)(hFb:p2.Fit D.bs)(iha:PolS w0 D fl tick p1)(ihb:PolS w0 D fl tick p2):
  FSpecP prog w0 137 #[Pt (D.p) 0, .agg #[Vi 3,Vi pm.kind, .string pm.nm,Vi pm.val,Vi pm.to, .slice pm.q pm.subs.length pm.cap, .string nm,Vi vv, .slice q [a,b].length c],Vi tick] (SM D v ns++R) (OpK D (polF D.most.toNat D.bs tick (rdN D.bs) (.uni p1 p2) ns) R) (.iface 195 (.agg #[])) (OpB D (polF D.most.toNat D.bs tick (rdN D.bs) (.uni p1 p2) ns) ns R):=by
 refine Bj func137 U ntmps137 U (rDt 2 U (e_ (Ot U cs_) ?_ U));rintro _ _ ⟨n4,rfl,rfl⟩;refine rOt 7 U (y_ (Om U isAgg3 qco) ?_ U);refine rOt 9 U ?_;refine jcd U (fun c11=> ?_) (fun c11=> ?_)
 ·exfalso;omega
 ·refine rCt 6 U ?_;refine jcd U (fun c20=> ?_) (fun c20=> ?_)
  ·exfalso;omega
  ·refine rCt 6 U ?_;refine jcd U (fun c38=> ?_) (fun c38=> ?_)
   ·refine rCt 1 U (Bf 15 (plq7 [(8,true),(9,true),(10,true),(11,true),(12,true),(13,true),(7,false),(14,false)]) ((n4,Cl [Vi 3,Vi pm.kind, .string pm.nm,Vi pm.val,Vi pm.to, .slice pm.q pm.subs.length pm.cap, .string nm,Vi vv, .slice q [a,b].length c] 28)::R) mixd qkr sbt ?_ B1);refine rPt 3 U (o_y U (Om U isAgg26 qco) ?_ U Ad);refine o_y U (Cd (T U) Al runUnderlying26 sizeOf28 (by simp) (by first|exact rfl|exact(hA 0 a U).1)) ?_ U Ad;refine o_y U (On U isAgg28 sizeOf28 U (by exact(hA.mono sbt).cs (i:=0) (by simp))) ?_ U Ad;refine rPt 3 U (o_y U (Om U isAgg26 qco) ?_ U Ad);refine o_y U (Cd (T U) Al runUnderlying26 sizeOf28 (by simp) (by first|exact rfl|exact(hA 0 a U).1)) ?_ U Ad;refine o_y U (On U isAgg28 sizeOf28 U (by exact(hA.mono sbt).cs (i:=1) (by simp))) ?_ U Ad;refine rPt 1 U ?_;refine o_p rfl (As (evq3 rfl rfl rfl) call137 (A5 (M:=SM D v ns) (iha (R:=((n4,Cl [Vi 3,Vi pm.kind, .string pm.nm,Vi pm.val,Vi pm.to, .slice pm.q pm.subs.length pm.cap, .string nm,Vi vv, .slice q [a,b].length c] 28)::R)) (hE.mono sbt) hIa hFa (hMa.mono sbt) hst) locqc)) ?_ (by rintro _ ⟨⟨v1,ns1⟩,⟨e1,g1,hst1⟩,rfl⟩;(repeat (first|refine By ?_|refine Bw ?_));exact Bi ⟨(v1,ns1),⟨by rw[polF,e1],g1,hst1⟩,rfl⟩ sbt) rfl Ad;rintro _ _ ⟨⟨r1,v1,ns1⟩,⟨rfl,e1,hst1⟩,rfl⟩
    dsimp only at e1 hst1
    obtain⟨g1,l1,_⟩:=Fr hE.ok tick _ _ hFa hst.w e1;refine⟨sbt,?_⟩;refine o_p rfl (As (evq3 rfl rfl rfl) call137 (A5 (M:=SM D v1 ns1) (ihb (R:=((n4,Cl [Vi 3,Vi pm.kind, .string pm.nm,Vi pm.val,Vi pm.to, .slice pm.q pm.subs.length pm.cap, .string nm,Vi vv, .slice q [a,b].length c] 28)::R)) (hE.mono sbt) hIb hFb (hMb.mono sbt) hst1) locqc)) ?_ (by rintro _ ⟨⟨v2,ns2⟩,⟨e2,g2,hst2⟩,rfl⟩;(repeat (first|refine By ?_|refine Bw ?_));exact Bi ⟨(v2,ns2),⟨by rw[polF,e1];simp only[e2],g1.trans g2,hst2⟩,rfl⟩ sbt) rfl Ad;rintro _ _ ⟨⟨r2,v2,ns2⟩,⟨rfl,e2,hst2⟩,rfl⟩
    dsimp only at e2 hst2
    obtain⟨g2,l2,_⟩:=Fr hE.ok tick _ _ hFb hst1.w e2;refine⟨sbt,(Av U ?_)⟩;refine p_ (As (evq3 rfl rfl rfl) call94 (A5 (M:=SM D v2 ns2) (Nv hst2 _ r1 r2 (Nat.lt_of_lt_of_le l1 g2.le) l2) locqc)) ?_ (by rintro _ ⟨⟨v3,ns3⟩,⟨e3,g3,hst3⟩,rfl⟩;(repeat (first|refine By ?_|refine Bw ?_));exact Bi ⟨(v3,ns3),⟨by rw[polF,e1];simp only[e2];exact e3,(g1.trans g2).trans g3,hst3⟩,rfl⟩ sbt) rfl;rintro _ _ ⟨⟨r3,v3,ns3⟩,⟨rfl,e3,hst3⟩,rfl⟩
    dsimp only at e3 hst3
    refine rOt 6 U (Bs U (Ol U) ?_);exact⟨_,⟨(r3,v3,ns3),⟨rfl,by rw[polF,e1];simp only[e2];exact e3,hst3⟩,rfl⟩,sbt⟩
   ·exfalso;omega
theorem polSeq_s {w0:World}{D:Sd}{v:Sv}{ns:Ns}{R:Mm}{fl:List Fd}(hE:En w0 R D fl)(hst:StOk D v ns)(pm:Pdm)(nm:ByteArray)(q:Option Addr)(c:Nat)(tick vv:Int)(a b:Pom)(hA:Arr w0 R q 9 encPo [a,b])(hMa:PoM w0 R a)(hMb:PoM w0 R b)(p1 p2:Po)(hIa:IsO fl a p1)(hIb:IsO fl b p2)(hFa:p1.Fit D.bs)(hFb:p2.Fit D.bs)(iha:PolS w0 D fl tick p1)(ihb:PolS w0 D fl tick p2):
  FSpecP prog w0 137 #[Pt (D.p) 0, .agg #[Vi 4,Vi pm.kind, .string pm.nm,Vi pm.val,Vi pm.to, .slice pm.q pm.subs.length pm.cap, .string nm,Vi vv, .slice q [a,b].length c],Vi tick] (SM D v ns++R) (OpK D (polF D.most.toNat D.bs tick (rdN D.bs) (.seq p1 p2) ns) R) (.iface 195 (.agg #[])) (OpB D (polF D.most.toNat D.bs tick (rdN D.bs) (.seq p1 p2) ns) ns R):=by
 refine Bj func137 U ntmps137 U (rDt 2 U (e_ (Ot U cs_) ?_ U));rintro _ _ ⟨n4,rfl,rfl⟩;refine rOt 7 U (y_ (Om U isAgg3 qco) ?_ U);refine rOt 9 U ?_;refine jcd U (fun c11=> ?_) (fun c11=> ?_)
 ·exfalso;omega
 ·refine rCt 6 U ?_;refine jcd U (fun c20=> ?_) (fun c20=> ?_)
  ·exfalso;omega
  ·refine rCt 6 U ?_;refine jcd U (fun c38=> ?_) (fun c38=> ?_)
   ·exfalso;omega
   ·refine rCt 6 U ?_;refine jcd U (fun c56=> ?_) (fun c56=> ?_)
    ·refine rCt 1 U (Bf 15 (plq7 [(8,true),(9,true),(10,true),(11,true),(12,true),(13,true),(7,false),(14,false)]) ((n4,Cl [Vi 4,Vi pm.kind, .string pm.nm,Vi pm.val,Vi pm.to, .slice pm.q pm.subs.length pm.cap, .string nm,Vi vv, .slice q [a,b].length c] 28)::R) mixd qkr sbt ?_ B1);refine rPt 3 U (o_y U (Om U isAgg26 qco) ?_ U Ad);refine o_y U (Cd (T U) Al runUnderlying26 sizeOf28 (by simp) (by first|exact rfl|exact(hA 0 a U).1)) ?_ U Ad;refine o_y U (On U isAgg28 sizeOf28 U (by exact(hA.mono sbt).cs (i:=0) (by simp))) ?_ U Ad;refine rPt 3 U (o_y U (Om U isAgg26 qco) ?_ U Ad);refine o_y U (Cd (T U) Al runUnderlying26 sizeOf28 (by simp) (by first|exact rfl|exact(hA 0 a U).1)) ?_ U Ad;refine o_y U (On U isAgg28 sizeOf28 U (by exact(hA.mono sbt).cs (i:=1) (by simp))) ?_ U Ad;refine rPt 1 U ?_;refine o_p rfl (As (evq3 rfl rfl rfl) call137 (A5 (M:=SM D v ns) (iha (R:=((n4,Cl [Vi 4,Vi pm.kind, .string pm.nm,Vi pm.val,Vi pm.to, .slice pm.q pm.subs.length pm.cap, .string nm,Vi vv, .slice q [a,b].length c] 28)::R)) (hE.mono sbt) hIa hFa (hMa.mono sbt) hst) locqc)) ?_ (by rintro _ ⟨⟨v1,ns1⟩,⟨e1,g1,hst1⟩,rfl⟩;(repeat (first|refine By ?_|refine Bw ?_));exact Bi ⟨(v1,ns1),⟨by rw[polF,e1],g1,hst1⟩,rfl⟩ sbt) rfl Ad;rintro _ _ ⟨⟨r1,v1,ns1⟩,⟨rfl,e1,hst1⟩,rfl⟩
     dsimp only at e1 hst1
     obtain⟨g1,l1,_⟩:=Fr hE.ok tick _ _ hFa hst.w e1;refine⟨sbt,?_⟩;refine o_p rfl (As (evq3 rfl rfl rfl) call137 (A5 (M:=SM D v1 ns1) (ihb (R:=((n4,Cl [Vi 4,Vi pm.kind, .string pm.nm,Vi pm.val,Vi pm.to, .slice pm.q pm.subs.length pm.cap, .string nm,Vi vv, .slice q [a,b].length c] 28)::R)) (hE.mono sbt) hIb hFb (hMb.mono sbt) hst1) locqc)) ?_ (by rintro _ ⟨⟨v2,ns2⟩,⟨e2,g2,hst2⟩,rfl⟩;(repeat (first|refine By ?_|refine Bw ?_));exact Bi ⟨(v2,ns2),⟨by rw[polF,e1];simp only[e2],g1.trans g2,hst2⟩,rfl⟩ sbt) rfl Ad;rintro _ _ ⟨⟨r2,v2,ns2⟩,⟨rfl,e2,hst2⟩,rfl⟩
     dsimp only at e2 hst2
     obtain⟨g2,l2,_⟩:=Fr hE.ok tick _ _ hFb hst1.w e2;refine⟨sbt,(Av U ?_)⟩;refine p_ (As (evq3 rfl rfl rfl) call109 (A5 (M:=SM D v2 ns2) (seq_s hst2 _ r1 r2 (Nat.lt_of_lt_of_le l1 g2.le) l2) locqc)) ?_ (by rintro _ ⟨⟨v3,ns3⟩,⟨e3,g3,hst3⟩,rfl⟩;(repeat (first|refine By ?_|refine Bw ?_));exact Bi ⟨(v3,ns3),⟨by rw[polF,e1];simp only[e2];exact e3,(g1.trans g2).trans g3,hst3⟩,rfl⟩ sbt) rfl;rintro _ _ ⟨⟨r3,v3,ns3⟩,⟨rfl,e3,hst3⟩,rfl⟩
     dsimp only at e3 hst3
     refine rOt 6 U (Bs U (Ol U) ?_);exact⟨_,⟨(r3,v3,ns3),⟨rfl,by rw[polF,e1];simp only[e2];exact e3,hst3⟩,rfl⟩,sbt⟩
    ·exfalso;omega
theorem polStar_s {w0:World}{D:Sd}{v:Sv}{ns:Ns}{R:Mm}{fl:List Fd}(hE:En w0 R D fl)(hst:StOk D v ns)(pm:Pdm)(nm:ByteArray)(q:Option Addr)(c:Nat)(tick vv:Int)(a:Pom)(hA:Arr w0 R q 9 encPo [a])(hMa:PoM w0 R a)(p:Po)(hIa:IsO fl a p)(hFa:p.Fit D.bs)(iha:PolS w0 D fl tick p):
  FSpecP prog w0 137 #[Pt (D.p) 0, .agg #[Vi 5,Vi pm.kind, .string pm.nm,Vi pm.val,Vi pm.to, .slice pm.q pm.subs.length pm.cap, .string nm,Vi vv, .slice q [a].length c],Vi tick] (SM D v ns++R) (OpK D (polF D.most.toNat D.bs tick (rdN D.bs) (.star p) ns) R) (.iface 195 (.agg #[])) (OpB D (polF D.most.toNat D.bs tick (rdN D.bs) (.star p) ns) ns R):=by
 refine Bj func137 U ntmps137 U (rDt 2 U (e_ (Ot U cs_) ?_ U));rintro _ _ ⟨n4,rfl,rfl⟩;refine rOt 7 U (y_ (Om U isAgg3 qco) ?_ U);refine rOt 9 U ?_;refine jcd U (fun c11=> ?_) (fun c11=> ?_)
 ·exfalso;omega
 ·refine rCt 6 U ?_;refine jcd U (fun c20=> ?_) (fun c20=> ?_)
  ·exfalso;omega
  ·refine rCt 6 U ?_;refine jcd U (fun c38=> ?_) (fun c38=> ?_)
   ·exfalso;omega
   ·refine rCt 6 U ?_;refine jcd U (fun c56=> ?_) (fun c56=> ?_)
    ·exfalso;omega
    ·refine rCt 8 U (y_ (Om U isAgg26 qco) ?_ U);refine y_ (Cd (T U) Al runUnderlying26 sizeOf28 (by simp) (by first|exact rfl|exact(hA 0 a U).1)) ?_ U;refine y_ (On U isAgg28 sizeOf28 U (by exact(hA.mono sbt).cs (i:=0) (by simp))) ?_ U;refine rOt 1 U ?_;refine p_ (As (evq3 rfl rfl rfl) call137 (A5 (M:=SM D v ns) (iha (R:=((n4,Cl [Vi 5,Vi pm.kind, .string pm.nm,Vi pm.val,Vi pm.to, .slice pm.q pm.subs.length pm.cap, .string nm,Vi vv, .slice q [a].length c] 28)::R)) (hE.mono sbt) hIa hFa (hMa.mono sbt) hst) locqc)) ?_ (by rintro _ ⟨⟨v1,ns1⟩,⟨e1,g1,hst1⟩,rfl⟩;(repeat (first|refine By ?_|refine Bw ?_));exact Bi ⟨(v1,ns1),⟨by rw[polF,e1],g1,hst1⟩,rfl⟩ sbt) rfl;rintro _ _ ⟨⟨r1,v1,ns1⟩,⟨rfl,e1,hst1⟩,rfl⟩
     dsimp only at e1 hst1
     obtain⟨g1,l1,_⟩:=Fr hE.ok tick _ _ hFa hst.w e1;refine p_ (As (evq2 rfl rfl) call170 (A5 (M:=SM D v1 ns1) (star_s (R:=((n4,Cl [Vi 5,Vi pm.kind, .string pm.nm,Vi pm.val,Vi pm.to, .slice pm.q pm.subs.length pm.cap, .string nm,Vi vv, .slice q [a].length c] 28)::R)) (hE.bits.mono sbt) hE.ok hst1 r1 l1) locqc)) ?_ (by rintro _ ⟨⟨v2,ns2⟩,⟨e2,g2,hst2⟩,rfl⟩;(repeat (first|refine By ?_|refine Bw ?_));exact Bi ⟨(v2,ns2),⟨by rw[polF,e1];exact e2,g1.trans g2,hst2⟩,rfl⟩ sbt) rfl;rintro _ _ ⟨⟨r2,v2,ns2⟩,⟨rfl,e2,hst2⟩,rfl⟩
     dsimp only at e2 hst2
     refine rOt 4 U (Bs U (Ol U) ?_);exact⟨_,⟨(r2,v2,ns2),⟨rfl,by rw[polF,e1];exact e2,hst2⟩,rfl⟩,sbt⟩
theorem pol_s {w0:World}{D:Sd}{fl:List Fd}{tick:Int}:∀ p,PolS w0 D fl tick p:=by
 intro p
 induction p with
 |fil p=>
  intro R v ns m hE hI hF hM hst;obtain⟨k,pm,s,va,q,c,xs⟩:=m;cases hI with
  |fil hk h1=>obtain rfl:k=1:=hk;exact polFil_s hE hst pm s q c tick va xs.length hM.pred p h1 hF
 |set f n=>
  intro R v ns m hE hI hF hM hst;obtain⟨k,pm,s,va,q,c,xs⟩:=m;cases hI with
  |set hk hv=>obtain rfl:k=2:=hk;obtain rfl:va=(n:Int):=hv;exact polSet_s hE hst pm s q c tick n xs.length hF.1.ok hF.2
 |uni a b iha ihb=>
  intro R v ns m hE hI hF hM hst;obtain⟨k,pm,s,va,q,c,xs⟩:=m;cases hI with
  |uni hk hs h1 h2=>obtain rfl:k=3:=hk;obtain rfl:xs=[_,_]:=hs;exact polUni_s hE hst pm s q c tick va _ _ hM.arr (hM.sub (by simp[Pom.subs])) (hM.sub (by simp[Pom.subs])) a b h1 h2 hF.1 hF.2 iha ihb
 |seq a b iha ihb=>
  intro R v ns m hE hI hF hM hst;obtain⟨k,pm,s,va,q,c,xs⟩:=m;cases hI with
  |seq hk hs h1 h2=>obtain rfl:k=4:=hk;obtain rfl:xs=[_,_]:=hs;exact polSeq_s hE hst pm s q c tick va _ _ hM.arr (hM.sub (by simp[Pom.subs])) (hM.sub (by simp[Pom.subs])) a b h1 h2 hF.1 hF.2 iha ihb
 |star a iha=>
  intro R v ns m hE hI hF hM hst;obtain⟨k,pm,s,va,q,c,xs⟩:=m;cases hI with
  |star hk hs h1=>obtain rfl:k=5:=hk;obtain rfl:xs=[_]:=hs;exact polStar_s hE hst pm s q c tick va _ hM.arr (hM.sub (by simp[Pom.subs])) a h1 hF iha
abbrev dCall (f:FuncId) (cap:List Value):Deferred:={target:= .fn (.func f) cap.toArray,args:= #[]}
def dQ (P:Program) (fn:Func) (w0:World) (f2:FuncId) (K:Value->Mm->Prop) (fv:Value):Post
 | .normal,σ,ds,w=>∃ cap,ds=[dCall f2 cap]/\CallsD P f2 cap.toArray .returning w fun e u' w'=>∃ v,e= .returned v/\u'= .returning/\RetW P fn w0 K σ [] w'
 | .ret,σ,ds,w=>∃ cap,ds=[dCall f2 cap]/\CallsD P f2 cap.toArray .returning w fun e u' w'=>∃ v,e= .returned v/\u'= .returning/\RetW P fn w0 K σ [] w'
 | .panic c,σ,ds,w=>∃ cap,ds=[dCall f2 cap]/\c=[{v:=fv,recovered:=false}]/\CallsD P f2 cap.toArray (.panicking [{v:=fv,recovered:=false}]) w fun e u' w'=>∃ v,e= .returned v/\u'= .panicking [{v:=fv,recovered:=true}]/\RetW P fn w0 K σ [] w'
 |_,_,_,_=>False
theorem fn_specD {P:Program}{w0:World}{f:FuncId}{fn:Func}{c:Code}{vs:List Value}{H:Mm}{K:Value->Mm->Prop}{N:Nat}{f2:FuncId}{fv:Value}(hf:P.funcs[f]? =some fn)(hb:fn.body=some c)(hN:fn.ntmps=N)(hv:Nat.ble vs.length N=true)(hc:∀ args w,(callFunc f2 args).run P w= .ok (.enter f2 args) w)
  (h:J P none N w0 c (dQ P fn w0 f2 K fv) (ini 0 vs) [] H):FSpec P w0 f vs.toArray H K:=fun w hO=>by
 have hv':vs.length<=N:=by simpa using hv
 refine calls_of_wp_defers hf hb ?_;have h1:=h (fun _=>undef) w hO {tmps:=vs.toArray++Array.replicate (fn.ntmps - vs.toArray.size) undef,defers:=[]} (by simp[hN];omega) (by
  funext k
  rw[Jg];unfold fr;simp only[Nat.zero_le,if_true,Nat.sub_zero,Array.getD_eq_getD_getElem?]
  by_cases hk:k<vs.length
  ·simp[Array.getElem?_append,hk]
  ·simp only[List.size_toArray,Array.getElem?_append,hk,if_false];rw[List.getElem?_eq_none qom];simp only[Array.getElem?_replicate]
   split<;>rfl) U
 have key:∀ (cap:List Value) (a:Act) (w':World) (u:FrameMode),u≠.run->∀ (R:FrameMode->World->Prop),CallsD P f2 cap.toArray u w' (fun e u' w''=>∃ v,e= .returned v/\R u' w'')->(∀ u' w'',R u' w''->settle u'= .returning/\RetW P fn w0 K (fr a) [] w'')->
   Leaves P fn a.tmps (fun e w'=>∃ v H',e= .returned v/\Own w0 H' w'/\K v H') [dCall f2 cap] u w':=fun cap a w' u hu R hcall hR=>by
  unfold Leaves;refine⟨hu, .func f2,cap.toArray,f2,cap.toArray,rfl,by simp[dCall,invoke,hc],hcall.mono fun e u' w'' he=> ?_⟩;obtain⟨v,rfl,hr⟩:=he;obtain⟨h1,v2,H',h3,h4,h5⟩:=hR _ _ hr;simp only[h1];unfold Leaves;exact⟨v2,h3 _ U,v2,H',rfl,h4,h5⟩
 refine(wpIn_wide (n:=0)).1 (wpIn_mono h1 fun e a w' hq=> ?_);obtain⟨hs,hq⟩:=hq;cases e with
 |normal=>
  obtain⟨cap,hd,hcall⟩:=hq;show Leaves P fn a.tmps _ a.defers .returning w';rw[hd];exact key cap a w' .returning (by simp) (fun u' w''=>u'= .returning/\RetW P fn w0 K (fr a) [] w'') hcall fun u' w'' hr=>⟨by rw[hr.1];rfl,hr.2⟩
 |ret=>
  obtain⟨cap,hd,hcall⟩:=hq;show Leaves P fn a.tmps _ a.defers .returning w';rw[hd];exact key cap a w' .returning (by simp) (fun u' w''=>u'= .returning/\RetW P fn w0 K (fr a) [] w'') hcall fun u' w'' hr=>⟨by rw[hr.1];rfl,hr.2⟩
 |panic ch=>
  obtain⟨cap,hd,rfl,hcall⟩:=hq;show Leaves P fn a.tmps _ a.defers (.panicking _) w';rw[hd];exact key cap a w' _ (by simp) (fun u' w''=>u'= .panicking [{v:=fv,recovered:=true}]/\RetW P fn w0 K (fr a) [] w'') hcall fun u' w'' hr=>⟨by rw[hr.1];rfl,hr.2⟩
 |_=>exact hq.elim
section
variable {P:Program} {N:Nat} {w0:World} {Q:Post} {L:Fm} {ds:List Deferred} {H:Mm} {ops:Array Oper} {l:List Oper} {ty:TypeId} {p:String} {af:Array Edge} {x:Operand} {f2:FuncId} {cap:List Value} {ts:Array TypeId}
theorem jl_defer (hx:Ev L x (.func (.func f2) #[] cap.toArray))(k:JL P none N w0 ops l Q L (dCall f2 cap::ds) H):JL P none N w0 ops (⟨none, .defer {callee:= .value x,args:= #[],argTypes:=ts},ty,p,af,none⟩::l) Q L ds H:=fun b w hO a hs hf hd=>by
 unfold wpListIn;rw[if_pos (Mi (Ad (ops:=ops) (L:=L) (N:=N)) hs hf)];refine⟨fun f _=>K5 none f,?_⟩;have hxe:a.eval x= .func (.func f2) #[] cap.toArray:=by rw[Er,hf];exact hx b
 have hr:(Oper.semAt (rd none).round a.eval ⟨none, .defer {callee:= .value x,args:= #[],argTypes:=ts},ty,p,af,none⟩).run P w= .ok (.defer (dCall f2 cap)) w:=by
  simp[Oper.semAt,rd,Fence.wide,execOp,resolve,Deferred.ofValue,hxe,Sem.run_bind,Result.andThen]
 rw[hr];exact k b w hO {a with defers:=dCall f2 cap::a.defers} hs hf (by rw[hd])
end
def retQ0 (P:Program) (fn:Func) (w0:World) (K:Value->Mm->Prop):Post
 | .normal,σ,ds,w=>ds=[]/\∃ v H,Res P fn σ w v/\Own w0 H w/\K v H
 | .ret,σ,ds,w=>ds=[]/\∃ v H,Res P fn σ w v/\Own w0 H w/\K v H
 |_,_,_,_=>False
theorem Mt {P:Program}{w0:World}{L:Fm}{H:Mm}{fn:Func}{K:Value->Mm->Prop}{rs:List ResultVar}{vs:List Value}(hr:fn.results=rs.toArray)(h:ResV P w0 L H rs vs)(hK:∃ H',K (resOf vs) H'/\H'.Sublist H):JQ w0 (retQ0 P fn w0 K) .normal L [] H:=fun b w hO=>⟨rfl,_,hK.choose,H5 hr h hO,hO.sub hK.choose_spec.2,hK.choose_spec.1⟩
theorem np_ret0 {P:Program}{w0:World}{fn:Func}{K:Value->Mm->Prop}:NoPanic (retQ0 P fn w0 K):=⟨fun _ _ _ _ _ h=>h⟩
theorem np_all0 {Q:Post}(h:NoPanic Q:=by repeat (first|exact np_ret0|exact Jh|exact Gq|exact Fh|apply F8|apply G9|apply Ji|apply Gt|apply F3|apply Ey)):NoPanic Q:=h
theorem d_spec {P:Program}{w0:World}{f2:FuncId}{fn:Func}{id d1 d2:Nat}{ts:Array TypeId}{ty1 ty2:TypeId}{p1 p2:String}{af1 af2:Array Edge}{rest:Code}{vs:List Value}{N:Nat}{u u':FrameMode}{val:Value}{H:Mm}{K:Value->Mm->Prop}
  (hf:P.funcs[f2]? =some fn) (hb:fn.body=some (.seq (.region id #[⟨some d1, .call {callee:= .builtin .recover,args:= #[],argTypes:=ts},ty1,p1,af1,none⟩,⟨some d2, .assign (.tmp d1),ty2,p2,af2,none⟩] false) rest)) (hN:fn.ntmps=N) (hv:Nat.ble vs.length N=true) (h1:Nat.blt d1 N=true) (h2:Nat.blt d2 N=true)
  (hu:∀ (c₀:Frame) (cs:List Frame),c₀.mode=u->(match recoverD (c₀::cs) with|some (v,cs')=>v=val/\cs'={c₀ with mode:=u'}::cs|none=> .nilIface=val/\c₀::cs={c₀ with mode:=u'}::cs))
  (h:J P none N w0 rest (retQ0 P fn w0 K) ((d2,val)::(d1,val)::ini 0 vs) [] H) {w:World} (hO:Own w0 H w):
  CallsD P f2 vs.toArray u w fun e u'' w'=>∃ v,e= .returned v/\u''=u'/\∃ H',Own w0 H' w'/\K v H':=by
 have hv':vs.length<=N:=by simpa using hv
 refine callsD_of_wpS hf hb fun c₀ cs hm=>wpS_seq (wpS_region ?_)
 obtain⟨a0,ha0⟩:∃ a0:Act,a0={tmps:=vs.toArray++Array.replicate (fn.ntmps - vs.toArray.size) undef,defers:=[]}:=⟨_,rfl⟩;rw[<- ha0];have hsz:a0.tmps.size=N:=by subst ha0;simp[hN];omega
 have hfr:fr a0=lk (ini 0 vs) (fun _=>undef):=by
  subst ha0
  funext k
  rw[Jg];unfold fr;simp only[Nat.zero_le,if_true,Nat.sub_zero,Array.getD_eq_getD_getElem?]
  by_cases hk:k<vs.length
  ·simp[Array.getElem?_append,hk]
  ·simp only[List.size_toArray,Array.getElem?_append,hk,if_false];rw[List.getElem?_eq_none qom];simp only[Array.getElem?_replicate]
   split<;>rfl
 have hdf:a0.defers=[]:=by subst ha0;rfl
 have hf1:=H4 (d:=some d1) (v:=val) (N:=N) h1 hsz hfr;have hs1:(a0.put (some d1) val).tmps.size=N:=by rw[Df];exact hsz
 have hf2:=H4 (d:=some d2) (v:=val) (N:=N) h2 hs1 hf1;have hev:(a0.put (some d1) val).eval (.tmp d1)=val:=by
  rw[Er,hf1];exact(T (L:=pt (some d1) val (ini 0 vs)) (k:=d1) (v:=val) (by simp[pt,fnd?,Nat.beq_refl])) _
 have hrest:=h (fun _=>undef) w hO ((a0.put (some d1) val).put (some d2) val) (by rw[Df];exact hs1) hf2 (by rw[Cu,Cu];exact hdf);have hrec:(execOp a0.eval ⟨some d1, .call {callee:= .builtin .recover,args:= #[],argTypes:=ts},ty1,p1,af1,none⟩).run P w= .ok .recover w:=by
  simp[execOp,resolve,invoke,builtin,Sem.run_bind,Result.andThen]
 have hasg:∀ a:Act,(execOp a.eval ⟨some d2, .assign (.tmp d1),ty2,p2,af2,none⟩).run P w= .ok (.value (a.eval (.tmp d1))) w:=fun a=>rfl
 have fin:∀ a:Act,a=(a0.put (some d1) val).put (some d2) val->rest.wpS P (bodyPostS P fn c₀ cs fun e u'' w'=>∃ v,e= .returned v/\u''=u'/\∃ H',Own w0 H' w'/\K v H') a ({c₀ with mode:=u'}::cs) w:=fun a ha=>by
  subst ha;refine wpS_of_wp ((wpIn_wide (n:=0)).1 (wpIn_mono hrest fun e a' w' hq=> ?_));obtain⟨_,hq⟩:=hq;cases e with
  |normal=>
   obtain⟨hd,v,H',hr,hO',hK⟩:=hq;exact⟨hd,u',rfl,v,hr _ U,v,rfl,rfl,H',hO',hK⟩
  |ret=>
   obtain⟨hd,v,H',hr,hO',hK⟩:=hq;exact⟨hd,u',rfl,v,hr _ U,v,rfl,rfl,H',hO',hK⟩
  |_=>exact hq.elim
 have hrd:=hu c₀ cs hm;show wpOpsS P _ _ [0,1] a0 (c₀::cs) w;unfold wpOpsS;simp only[List.getElem?_toArray,List.getElem?_cons_zero,Region.wanted,if_true,hrec];cases hc:recoverD (c₀::cs) with
 |none=>
  rw[hc] at hrd;obtain⟨hv2,hcs⟩:=hrd;simp only[];rw[hv2,hcs];unfold wpOpsS;simp only[List.getElem?_toArray,List.getElem?_cons_succ,List.getElem?_cons_zero,Region.wanted,if_true,hasg,hev];unfold wpOpsS;exact fin _ U
 |some y=>
  obtain⟨v,cs'⟩:=y;rw[hc] at hrd;obtain⟨rfl,rfl⟩:=hrd;simp only[];unfold wpOpsS;simp only[List.getElem?_toArray,List.getElem?_cons_succ,List.getElem?_cons_zero,Region.wanted,if_true,hasg,hev];unfold wpOpsS;exact fin _ U
section
variable {K V:Type} [DecidableEq K] {P:Program} {kt:TypeId} {encK:K->Value} {encV:V->Value} {w0:World} {L:Fm} {H:Mm} {ty t t2 et:TypeId} {x y:Operand}
theorem eff_mapDel {r c i:Nat}{es:List MapEntry}{l:List (K × V)}(k:K){u:V}{v:Value}{H':Mm}(hk:KeyG (V:=V) P kt encK)(he:Ents encK encV es l)(hn:findI k l 0=some (i,u))(hx:Ev L x (.map (some r)))(hy:Ev L y v)(hv:v=encK k)(ht:∀ w,(underlying t).run P w= .ok (.map kt et) w)
  (hu:Upd H r (.map es.toArray c) (.map (es.eraseIdx i).toArray c) H'):Eff P w0 (.call {callee:= .builtin .delete,args:= #[x,y],argTypes:= #[t,t2]}) ty L H (fun _ H2=>H2=H'):=
 ⟨rfl,fun b w hO=>by
  subst hv;have hh:=hO.has _ hu.mem;have hg:=Dc (P:=P) hh;have hf:=hk.find encV es l k w he;have hs:=Ha (P:=P) (.map (es.eraseIdx i).toArray c) hh;have hgo:(getObj r).run P w= .ok (.map es.toArray c) w:=hg;have hso:(setObj r (.map (es.eraseIdx i).toArray c)).run P w= .ok () (w.putObj r (.map (es.eraseIdx i).toArray c)):=hs;have hil:i<es.length:=by
   have h1:=(findI_lt hn).2.1;rw[he.len];simpa using h1
  have her:es.toArray.eraseIdxIfInBounds i=(es.eraseIdx i).toArray:=by
   unfold Array.eraseIdxIfInBounds;simp[hil]
  have h1:(exO (ev (lk L b)) (.call {callee:= .builtin .delete,args:= #[x,y],argTypes:= #[t,t2]}) ty).run P w= .ok (.value (.tuple #[])) (w.putObj r (.map (es.eraseIdx i).toArray c)):=by
   simp[exO,execOp,resolve,invoke,builtin,Builtin.delete_,hx b,hy b,ht,Sem.run_bind,Result.andThen,hgo,hk.chk,hf,hn,her,hso]
  rw[h1];exact⟨_,hO.put hu,rfl⟩⟩
end
theorem eq20_nil (w:World):(Op.equal 20 .nilIface .nilIface).run prog w= .ok true w:=by kernel_rfl
theorem eq20_full (w:World):(Op.equal 20 (.iface 195 (.agg #[])) .nilIface).run prog w= .ok false w:=by kernel_rfl
section
variable {w0:World} {L:Fm} {H:Mm} {ty yt:TypeId} {x:Operand}
theorem yl_neqN0 (hx:Ev L x .nilIface):Yl prog w0 (.binOp .neq 20 x (.const .nilIface) yt) ty L H (.bool false):=Bk U fun b w=>by
 have hc:ev (lk L b) (.const .nilIface)= .nilIface:=rfl;have hx':=hx b;simp[exO,execOp,hx',hc,binOp,eqGuard,eq20_nil,Sem.run_bind,Result.andThen]
theorem yl_neqN1 (hx:Ev L x (.iface 195 (.agg #[]))):Yl prog w0 (.binOp .neq 20 x (.const .nilIface) yt) ty L H (.bool true):=Bk U fun b w=>by
 have hc:ev (lk L b) (.const .nilIface)= .nilIface:=rfl;have hx':=hx b;simp[exO,execOp,hx',hc,binOp,eqGuard,eq20_full,Sem.run_bind,Result.andThen]
theorem ta_full (w:World):(Instr.typeAssert (.iface 195 (.agg #[])) 20 195 true).run prog w= .ok (.tuple #[.agg #[], .bool true]) w:=by kernel_rfl
end
abbrev tryCap (b2 b6 b4 b5:Nat):List Value:=[Pt b2 0,Pt b6 0,Pt b4 0,Pt b5 0]
theorem tryR_s (b2 b6 b4 b5:Nat){w:World}(hO:Own w0 H w):CallsD prog 138 (tryCap b2 b6 b4 b5).toArray .returning w (fun e u'' w'=>∃ v,e= .returned v/\u''= .returning/\∃ H',Own w0 H' w'/\H'=H):=by
 refine d_spec (val:= .nilIface) (K:=fun _ H'=>H'=H) (N:=46) func138 U ntmps138 U U U (fun c₀ cs hm=> ?_) ?_ hO
 ·have:recoverD (c₀::cs)=none:=by simp[recoverD,hm]
  rw[this];refine⟨rfl,?_⟩;obtain⟨_,_⟩:=c₀;simp only at hm;subst hm
  rfl
 ·skip
  refine rDt 3 U (y_ (yl_neqN0 (T U)) (rOt 4 U (Mt U .nil ?_)) U);exact⟨H,rfl,sbt⟩
def cutS:Sl->List Value->Sl
 | .nil,_=> .nil
 | .blk n c j,m=> .blk n c (m++j)
theorem slH_cut {d:Sl}{a m:List Value}{e:TypeId}:slH d (a++m) e=slH (cutS d m) a e:=by
 cases d with
 |nil=>rfl
 |blk n c j=>simp[slH,cutS]
theorem cut_ok {d:Sl}{k j sz:Nat}{m:List Value}(h:SlOk d (k+j) sz)(hm:m.length=j*sz)(hk:0<k):SlOk (cutS d m) k sz:=by
 cases d with
 |nil=>have:k+j=0:=h;omega
 |blk n c jk=>
  obtain⟨h1,h2⟩:k+j<=c/\jk.length=(c - (k+j))*sz:=h;refine⟨by omega,?_⟩;rw[List.length_append,hm,h2,<- Nat.add_mul]
  congr 1;omega
theorem slV_cut (d:Sl)(m:List Value)(k:Nat):slV (cutS d m) k=slV d k:=by cases d<;>rfl
theorem idL_app {ns m:Ns}(h:2<=ns.length):idL (ns++m)=idL ns++m.zipIdx ns.length:=by
 unfold idL;rw[List.drop_append_of_le_length h,List.zipIdx_append]
 congr 1
 rw[List.length_drop]
 congr 1;omega
theorem findI_app {K V:Type}[DecidableEq K] {k:K}{u:V}:∀ {a:List (K × V)} {b:List (K × V)} {i:Nat},(∀ x∈a,x.1≠k)->findI k (a++(k,u)::b) i=some (i+a.length,u)
 |[],b,i,_=>by simp[findI]
 |x::a,b,i,h=>by
  rw[List.cons_append,findI,if_neg (h x (by simp)),findI_app fun y hy=>h y (by simp[hy])];simp only[List.length_cons]
  congr 2;omega
theorem idL_key {ns:Ns}{x:Nd × Nat}(h:x∈idL ns):x.1∈ns.drop 2:=by
 unfold idL at h;have:=List.mem_map_of_mem (f:=Prod.fst) h
 rwa [List.zipIdx_map_fst] at this
theorem erase_mid {α:Type}{a b:List α}{x:α}:(a++x::b).eraseIdx a.length=a++b:=by
 rw[List.eraseIdx_append_of_length_le (Nat.le_refl _)];simp
theorem yl_ta {P:Program}{w0:World}{L:Fm}{H:Mm}{ty a b:TypeId}{c:Bool}{x:Operand}{v u:Value}(hx:Ev L x v)(h:∀ w,(Instr.typeAssert v a b c).run P w= .ok u w):Yl P w0 (.typeAssert x a b c) ty L H u:=Bk U fun b' w=>by
 simp[exO,execOp,hx b',h,Sem.run_bind,Result.andThen]
theorem SlOk.cells {d:Sl}{k sz:Nat}(h:SlOk d k sz):k<=slC d:=by cases d with
 |nil=>exact Nat.le_of_eq h
 |blk n c j=>exact h.1
theorem tryP_s {w0:World}{D:Sd}{v:Sv}{ns0 m:Ns}{R:Mm}(hst:StOk D v (ns0++m))(hw0:Wf (2*D.bs.length) ns0)(b2 b6 b4 b5:Nat)(e4 e5:Int){w:World}(hO:Own w0 ((b6,Cl [Vi (ns0.length:Nat)] 3)::(b5,Cl [Vi e5] 33)::(b4,Cl [Vi e4] 3)::(b2,Cl [Pt (D.p) 0] 68)::(D.p,Cl [.slice D.qf D.nf D.cf, .slice D.qb D.bs.length D.cb,slV v.d (ns0++m).length, .map (some D.m),Vi D.most] 152)::(slH v.d ((ns0++m).flatMap encNd) 188++((D.m, .map v.es.toArray v.c)::R))) w):CallsD prog 138 (tryCap b2 b6 b4 b5).toArray (.panicking [{v:=(.iface 195 (.agg #[])),recovered:=false}]) w (fun e u'' w'=>∃ u9,e= .returned u9/\u''= .panicking [{v:=(.iface 195 (.agg #[])),recovered:=true}]/\∃ H',Own w0 H' w'/\(fun H'=>∃ es,Ents encNdK encNI es (idL ns0)/\H'=(b6,Cl [Vi (ns0.length:Nat)] 3)::(b5,Cl [Vi 12] 33)::(b4,Cl [Vi 0] 3)::(b2,Cl [Pt (D.p) 0] 68)::(D.p,Cl [.slice D.qf D.nf D.cf, .slice D.qb D.bs.length D.cb,slV v.d ns0.length, .map (some D.m),Vi D.most] 152)::(slH v.d ((ns0++m).flatMap encNd) 188++((D.m, .map es.toArray v.c)::R))) H'):=by
 have ht:=hw0.two;have hw:=hst.w;have hml:m.length<=1000002:=by
  have h9:=hst.len;have h8:=hst.mo;rw[List.length_append] at h9;omega
 have hAr:Arr w0 (slH v.d ((ns0++m).flatMap encNd) 188) (slD (slQ v.d) (slC v.d) ns0.length 3) 3 encNd m:=by
  have:=(B3 (w0:=w0) (e:=188) (X:=[]) (enc:=encNd) (l:=ns0++m) (fun _=>rfl) hst.sl).drop hst.sl.cells ns0.length;rw[List.append_nil,List.drop_left] at this;exact this
 have hfi:∀ (j:Nat) (es:List MapEntry),Ents encNdK encNI es (idL ns0++(m.drop j).zipIdx (ns0.length+j))->j<m.length->findI (gd m j) (idL ns0++(m.drop j).zipIdx (ns0.length+j)) 0=some ((idL ns0).length,ns0.length+j):=fun j es he hj=>by
  rw[List.drop_eq_getElem_cons hj,List.zipIdx_cons,Ar hj,findI_app fun x hx e=> ?_,Nat.zero_add];have h1:=idL_key hx;rw[e] at h1;obtain⟨i,hi,hg⟩:=List.mem_iff_getElem.1 h1;rw[List.length_drop] at hi;rw[List.getElem_drop] at hg;have:=hw.un (2+i) (ns0.length+j) qom (by simp;omega) qom (by simp;omega) (by
   unfold nd List.getD;rw[List.getElem?_append_left qom,List.getElem?_append_right qom,List.getElem?_eq_getElem qom,Nat.add_sub_cancel_left,List.getElem?_eq_getElem hj,hg])
  omega
 have hen:∀ (j:Nat) (es:List MapEntry),Ents encNdK encNI es (idL ns0++(m.drop j).zipIdx (ns0.length+j))->j<m.length->Ents encNdK encNI (es.eraseIdx (idL ns0).length) (idL ns0++(m.drop (j+1)).zipIdx (ns0.length+(j+1))):=fun j es he hj=>by
  have:=he.erase (idL ns0).length;rw[List.drop_eq_getElem_cons hj,List.zipIdx_cons,erase_mid] at this;exact this
 refine d_spec (vs:=tryCap b2 b6 b4 b5) (val:=(.iface 195 (.agg #[]))) (K:=fun _ H'=>∃ es,Ents encNdK encNI es (idL ns0)/\H'=(b6,Cl [Vi (ns0.length:Nat)] 3)::(b5,Cl [Vi 12] 33)::(b4,Cl [Vi 0] 3)::(b2,Cl [Pt (D.p) 0] 68)::(D.p,Cl [.slice D.qf D.nf D.cf, .slice D.qb D.bs.length D.cb,slV v.d ns0.length, .map (some D.m),Vi D.most] 152)::(slH v.d ((ns0++m).flatMap encNd) 188++((D.m, .map es.toArray v.c)::R))) (N:=46) func138 U ntmps138 U U U (fun c₀ cs hm=> ?_) ?_ hO
 ·have:recoverD (c₀::cs)=some ((.iface 195 (.agg #[])),{c₀ with mode:= .panicking [{v:=(.iface 195 (.agg #[])),recovered:=true}]}::cs):=by simp[recoverD,hm]
  rw[this];exact⟨rfl,rfl⟩
 ·skip
  refine rDt 3 U (y_ (yl_neqN1 (T U)) (rOt 7 U (y_ (yl_ta (T U) ta_full) (rOt 3 U (e_ (Ag zeroValue195 cs_) ?_ U)) U)) U);rintro _ _ ⟨n5,rfl,rfl⟩;refine Bo (Oq U U sizeOf195) U Ad ?_;rintro _ _ ⟨rfl,rfl⟩;refine rOt 6 U ?_;refine A6 (Bq (T U)) U Ad ?_;refine rOt 7 U (Bf 8 (plq8 []) _ mixd qkr sb0 ?_ np_all0);refine o_y U (Om U isAgg68 qco) ?_ U Ad;refine rPt 2 U (o_y U (Om U isAgg149 qco) ?_ U Ad);refine o_y U (Om U isAgg3 qco) ?_ U Ad;refine o_y U (yl_sliceL  (T U) (T U) runUnderlying149 sizeOf188 (by rw[List.length_append];omega)) ?_ U Ad;refine rPt 2 U (Av U (rOt 3 U ?_));refine A8 (X:=Nat × List MapEntry) (V:=fun ⟨j,es⟩=>[(27,Vi (j:Nat))]) (C:=[(0,_),(1,_),(2,_),(3,_),(25,_),(26,_)]) (G:=fun ⟨j,es⟩=>(b6,Cl [Vi (ns0.length:Nat)] 3)::(b5,Cl [Vi e5] 33)::(b4,Cl [Vi e4] 3)::(b2,Cl [Pt (D.p) 0] 68)::(D.p,Cl [.slice D.qf D.nf D.cf, .slice D.qb D.bs.length D.cb,slV v.d (ns0++m).length, .map (some D.m),Vi D.most] 152)::(slH v.d ((ns0++m).flatMap encNd) 188++((D.m, .map es.toArray v.c)::R))) (φ:=fun ⟨j,es⟩=>j<=m.length/\Ents encNdK encNI es (idL ns0++(m.drop j).zipIdx (ns0.length+j))) (μ:=fun ⟨j,es⟩=>m.length - j) (x0:=(0,v.es)) ?_ (kg U) qkg (List.Sublist.cons _ sb0) ?_
  ·exact⟨Nat.zero_le _,by simpa[idL_app ht] using hst.es⟩
  rintro⟨j,es⟩ ⟨hj0,he⟩;refine rDt 6 U ?_;refine jcd U (fun c28=> ?_) (fun c28=> ?_)
  ·have hj:j<m.length:=by simp at c28;omega
   refine rCt 6 U (y_ (Oo U U runUnderlying149 sizeOf188 qom (by first|exact rfl|exact(hAr j (gd m j) (Cy hj)).1)) ?_ U);refine y_ (On U isAgg188 sizeOf188 U (by exact(hAr.mono (by repeat (first|exact List.sublist_append_left _ _|refine List.Sublist.cons _ ?_))).cs (i:=j) hj)) ?_ U;refine e_ (Ag zeroValue188 cs_) ?_ U;rintro _ _ ⟨n8,rfl,rfl⟩;refine Bo (Oq U U sizeOf188) U Ad ?_;rintro _ _ ⟨rfl,rfl⟩;refine rOt 2 U (Bf 5 (plq5 []) _ mixd qkr sb0 ?_ np_all0);refine o_y U (Om U isAgg68 qco) ?_ U Ad;refine rPt 2 U (o_y U (Om U isAgg150 qco) ?_ U Ad);refine o_y U (On U isAgg188 sizeOf188 U qcs) ?_ U Ad;refine Av U (e_ (eff_mapDel (gd m j) keyNd he (hfi j es he hj) (T U) (T U) U runUnderlying150 (by(repeat (first|exact Upd.h|apply Upd.t|apply Gn));done)) ?_ U);rintro _ _ rfl;refine rOt 4 U (y_ (Cw (c:=1) (T U) Al qom) ?_ U);refine rOt 2 U ?_;refine Au ((j+1,es.eraseIdx (idL ns0).length)) ?_ ?_ qkg (kg U) ?_
   ·exact⟨by omega,hen j es he hj⟩
   ·first|omega|(simp only[];omega)
   ·exact sbt
  ·obtain rfl:j=m.length:=by simp at c28;omega
   have he2:Ents encNdK encNI es (idL ns0):=by simpa using he
   refine rCt 2 U (An (rXt 3 U (Bf 9 (plq9 []) _ mixd qkr sb0 ?_ np_all0)));refine o_y U (Om U isAgg68 qco) ?_ U Ad;refine o_y U (Om U isAgg68 qco) ?_ U Ad;refine rPt 2 U (o_y U (Om U isAgg149 qco) ?_ U Ad);refine o_y U (Om U isAgg3 qco) ?_ U Ad;refine o_y U (yl_sliceH  (T U) (T U) runUnderlying149 sizeOf188 (by have h9:=hst.sl.cells;rw[List.length_append] at h9;omega)) ?_ U Ad;refine rPt 2 U (Av U ?_)
   first|refine Bo (Oq U U sizeOf149) U Ad ?_|refine Bo (Ml (T U) (T U) U sizeOf149) U Ad ?_|refine Bo (Ct (T U) (T U) U sizeOf149) U Ad ?_
   rintro _ _ ⟨rfl,rfl⟩;refine rOt 3 U ?_;refine Bo (Aj (T U) Al sizeOf3) U Ad ?_;rintro _ _ ⟨rfl,rfl⟩;refine Bo (Aj (T U) Al sizeOf33) U Ad ?_;rintro _ _ ⟨rfl,rfl⟩;refine rOt 1 U (Mt U .nil ?_);exact⟨_,⟨es,he2,rfl⟩,sbt⟩
abbrev TryK (D:Sd) (F:Option (Nat × Ns)) (ns:Ns) (R:Mm):Value->Mm->Prop:=fun u H'=>∃ x:Nat × Int × Sv × Ns,(u= .tuple #[Vi (x.1:Nat),Vi x.2.1]/\((F=some (x.1,x.2.2.2)/\x.2.1=0)\/(F=none/\x.1=0/\x.2.1=12/\x.2.2.2=ns))/\StOk D x.2.2.1 x.2.2.2)/\H'=SM D x.2.2.1 x.2.2.2++R
theorem st_cut {D:Sd}{v:Sv}{ns0 m:Ns}(hst:StOk D v (ns0++m))(hw0:Wf (2*D.bs.length) ns0){es:List MapEntry}(he:Ents encNdK encNI es (idL ns0)):StOk D ⟨cutS v.d (m.flatMap encNd),es,v.c⟩ ns0:=by
 have h1:=hst.sl;rw[List.length_append] at h1;have h2:=hst.len;rw[List.length_append] at h2;exact⟨cut_ok h1 (Ed (enc:=encNd) (sz:=3) (fun _=>rfl) m) (by have:=hw0.two;omega),he,by omega,hst.mo,hw0,hst.bl⟩
section
variable {P:Program} {w0:World} {L:Fm} {H:Mm} {fn:Func} {f2:FuncId} {K:Value->Mm->Prop} {fv:Value} {rs:List ResultVar} {vs:List Value} {cap:List Value}
theorem dq_end (hr:fn.results=rs.toArray)(hres:ResV P w0 L H rs vs)(hK:∃ H',K (resOf vs) H'/\H'.Sublist H)(hc:∀ w,Own w0 H w->CallsD P f2 cap.toArray .returning w fun e u'' w'=>∃ v,e= .returned v/\u''= .returning/\∃ H',Own w0 H' w'/\H'=H):JQ w0 (dQ P fn w0 f2 K fv) .normal L [dCall f2 cap] H:=fun b w hO=>⟨cap,rfl,(hc w hO).mono fun e u w' ⟨v,he,hu,H',hO',hH⟩=>⟨v,he,hu,by
 subst hH;exact⟨_,hK.choose,H5 hr hres hO',hO'.sub hK.choose_spec.2,hK.choose_spec.1⟩⟩⟩
theorem dq_panic {KK:Mm->Prop}(hr:fn.results=rs.toArray)(hK:∀ H',KK H'->ResV P w0 L H' rs vs/\∃ H'',K (resOf vs) H''/\H''.Sublist H')(hc:∀ w,Own w0 H w->CallsD P f2 cap.toArray (.panicking [{v:=fv,recovered:=false}]) w fun e u'' w'=>∃ u9,e= .returned u9/\u''= .panicking [{v:=fv,recovered:=true}]/\∃ H',Own w0 H' w'/\KK H'):JQ w0 (dQ P fn w0 f2 K fv) (.panic [{v:=fv,recovered:=false}]) L [dCall f2 cap] H:=fun b w hO=>⟨cap,rfl,rfl,(hc w hO).mono fun e u w' ⟨v,he,hu,H',hO',hH⟩=>⟨v,he,hu,by
 obtain⟨h1,h2⟩:=hK H' hH;exact⟨_,h2.choose,H5 hr h1 hO',hO'.sub h2.choose_spec.2,h2.choose_spec.1⟩⟩⟩
end
theorem sm_cut {D:Sd}{v:Sv}{ns0 m:Ns}{es:List MapEntry}{R:Mm}:((D.p,Cl [.slice D.qf D.nf D.cf, .slice D.qb D.bs.length D.cb,slV v.d ns0.length, .map (some D.m),Vi D.most] 152)::(slH v.d ((ns0++m).flatMap encNd) 188++((D.m, .map es.toArray v.c)::R)))=SM D ⟨cutS v.d (m.flatMap encNd),es,v.c⟩ ns0++R:=by
 unfold SM;rw[List.flatMap_append,slH_cut];simp only[sdC,slV_cut,List.cons_append,List.append_assoc,List.nil_append]
theorem try_x {w0:World}{D:Sd}{v:Sv}{ns:Ns}{M0 R:Mm}(hst:StOk D v ns)(hM:(SM D v ns).Sublist M0){g:FuncId}{cap:List Value}{F:Option (Nat × Ns)}(hcg:∀ args w,(callFunc g args).run prog w= .ok (.enter g args) w)
  (hG:∀ R',R.Sublist R'->FSpecP prog w0 g ([]++cap).toArray (M0++R') (OpK D F R') (.iface 195 (.agg #[])) (OpB D F ns R')):
  FSpec prog w0 92 #[Pt (D.p) 0, .func (.func g) #[] cap.toArray] (M0++R) (TryK D F ns R):=by
 refine fn_specD (fv:=(.iface 195 (.agg #[]))) func92 U ntmps92 U call138 (rDt 2 U (e_ (Ot U cs_) ?_ U));rintro _ _ ⟨n2,rfl,rfl⟩;refine e_ (Ag zeroValue3 cs_) ?_ U;rintro _ _ ⟨n4,rfl,rfl⟩;refine e_ (Ag zeroValue33 cs_) ?_ U;rintro _ _ ⟨n5,rfl,rfl⟩;refine rOt 4 U (y_ (Om U isAgg68 qco) ?_ U);refine rOt 2 U ?_;refine y_ (Om U isAgg149 (by first|exact c_o|exact Hh (List.Sublist.trans hM (by repeat (first|exact List.sublist_append_left _ _|refine List.Sublist.cons _ ?_))) U)) ?_ U;refine rOt 1 U (e_ (Ag zeroValue3 cs_) ?_ U);rintro _ _ ⟨n6,rfl,rfl⟩;refine Bo (Oq U U sizeOf3) U Ad ?_;rintro _ _ ⟨rfl,rfl⟩;refine rOt 4 U (y_ (Bn (.cons (T U) (.cons (T U) (.cons (T U) (.cons (T U) .nil))))) (jl_defer (T U) (rOt 5 U ?_)) U);refine p_ (Cz (cap:=cap) (T rfl) .nil hcg (A5 (M:=M0) (hG ((n6,Cl [Vi (ns.length:Nat)] 3)::(n5,Cl [Vi 0] 33)::(n4,Cl [Vi 0] 3)::(n2,Cl [Pt (D.p) 0] 68)::R) sbt) locqc)) ?_ (by rintro _ ⟨⟨v1,ns1⟩,⟨e1,g1,hst1⟩,rfl⟩;obtain⟨m,hm⟩:=g1.p;simp only at hm;subst hm;(repeat refine By ?_);refine dq_panic (cap:=tryCap n2 n6 n4 n5) (vs:=[Vi 0,Vi 12]) rfl ?_ fun w hO=>tryP_s (R:=R) hst1 hst.w n2 n6 n4 n5 0 0 (by rw[Jm] at hO;exact hO);rintro H2 ⟨es,he,rfl⟩;exact⟨.cell (Aa rfl) isAgg3 qco (.cell (Aa rfl) isAgg33 qco .nil),_,⟨(0,12,_,ns),⟨rfl, .inr ⟨e1,rfl,rfl,rfl⟩,st_cut hst1 hst.w he⟩,rfl⟩,by rw[<- sm_cut];exact sbt⟩) rfl;rintro _ _ ⟨⟨id,v1,ns1⟩,⟨rfl,e1,hst1⟩,rfl⟩
 dsimp only at e1 hst1
 refine Bo (Oq U U sizeOf3) U Ad ?_;rintro _ _ ⟨rfl,rfl⟩;refine Bo (Aj (T U) Al sizeOf33) U Ad ?_;rintro _ _ ⟨rfl,rfl⟩;refine rOt 3 U ?_;refine dq_end (fv:=(.iface 195 (.agg #[]))) (cap:=tryCap n2 n6 n4 n5) (vs:=[Vi (id:Nat),Vi 0]) U (.cell (Aa U) isAgg3 qco (.cell (Aa U) isAgg33 qco .nil)) ⟨_,⟨(id,0,v1,ns1),⟨rfl, .inl ⟨e1,rfl⟩,hst1⟩,rfl⟩,sbt⟩ fun w hO=>tryR_s n2 n6 n4 n5 hO
theorem try_s {w0:World}{D:Sd}{v:Sv}{ns:Ns}{R:Mm}(hst:StOk D v ns){g:FuncId}{cap:List Value}{F:Option (Nat × Ns)}(hcg:∀ args w,(callFunc g args).run prog w= .ok (.enter g args) w)
  (hG:∀ R',R.Sublist R'->FSpecP prog w0 g ([]++cap).toArray (SM D v ns++R') (OpK D F R') (.iface 195 (.agg #[])) (OpB D F ns R')):
  FSpec prog w0 92 #[Pt (D.p) 0, .func (.func g) #[] cap.toArray] (SM D v ns++R) (TryK D F ns R):=try_x hst (List.Sublist.refl _) hcg hG
theorem policy_sC {w0:World}{D:Sd}{v:Sv}{ns:Ns}{R:Mm}(hst:StOk D v ns){fl:List Fd}(hE:En w0 R D fl)(m:Pom)(p:Po)(hI:IsO fl m p)(hF:p.Fit D.bs)(hM:PoM w0 R m)(tick:Int)(b0:Nat)(f0:Fnd R b0 (Cl [Pt (D.p) 0] 68))(b1:Nat)(f1:Fnd R b1 (Cl [Vi m.kind,Vi m.pr.kind, .string m.pr.nm,Vi m.pr.val,Vi m.pr.to, .slice m.pr.q m.pr.subs.length m.pr.cap, .string m.nm,Vi m.n, .slice m.q m.subs.length m.cap] 28))(b2:Nat)(f2:Fnd R b2 (Cl [Vi tick] 3))  :
  FSpecP prog w0 136 #[Pt b0 0,Pt b1 0,Pt b2 0] (SM D v ns++R) (OpK D (polF D.most.toNat D.bs tick (rdN D.bs) p ns) R) (.iface 195 (.agg #[])) (OpB D (polF D.most.toNat D.bs tick (rdN D.bs) p ns) ns R):=by
 refine Bj func136 U ntmps136 U (rDt 7 U (y_ (Om U isAgg68 (by first|exact c_o|exact Ae (Fnd.mono f0 (List.sublist_append_right _ _)) 0 _ U)) ?_ U));refine y_ (On U isAgg28 sizeOf28 U (by exact Ae (Fnd.mono f1 (List.sublist_append_right _ _)))) ?_ U;refine y_ (Om U isAgg3 (by first|exact c_o|exact Ae (Fnd.mono f2 (List.sublist_append_right _ _)) 0 _ U)) ?_ U;refine p_ (As (evq3 rfl rfl rfl) call137 (pol_s p hE hI hF hM hst)) ?_ (by rintro _ ⟨⟨v1,ns1⟩,⟨e1,g1,hst1⟩,rfl⟩;(repeat (first|refine By ?_|refine Bw ?_));exact Bi ⟨(v1,ns1),⟨e1,g1,hst1⟩,rfl⟩ sbt) rfl;rintro _ _ ⟨⟨r1,v1,ns1⟩,⟨rfl,e1,hst1⟩,rfl⟩
 dsimp only at e1 hst1
 refine rOt 4 U (Bs U (Ol U) ?_);exact⟨_,⟨(r1,v1,ns1),⟨rfl,e1,hst1⟩,rfl⟩,sbt⟩
theorem policy_s {w0:World}{D:Sd}{v:Sv}{ns:Ns}{R:Mm}(hst:StOk D v ns){fl:List Fd}(hE:En w0 R D fl)(m:Pom)(p:Po)(hI:IsO fl m p)(hF:p.Fit D.bs)(hM:PoM w0 R m)(tick:Int)  :
  FSpec prog w0 91 #[Pt (D.p) 0, .agg (encPo m).toArray,Vi tick] (SM D v ns++R) (TryK D (polF D.most.toNat D.bs tick (rdN D.bs) p ns) ns R):=by
 refine Am func91 U ntmps91 U (rDt 2 U (e_ (Ot U cs_) ?_ U));rintro _ _ ⟨n3,rfl,rfl⟩;refine e_ (Ot U cs_) ?_ U;rintro _ _ ⟨n4,rfl,rfl⟩;refine e_ (Ot U cs_) ?_ U;rintro _ _ ⟨n5,rfl,rfl⟩;refine rOt 6 U (y_ (Om U isAgg68 qco) ?_ U);refine y_ (Bn (.cons (T U) (.cons (T U) (.cons (T U) .nil)))) (e_ (Ah (evq2 U U) call92 (B7 (M:=SM D v ns) (try_s (R:=((n5,Cl [Vi tick] 3)::(n4,Cl [Vi m.kind,Vi m.pr.kind, .string m.pr.nm,Vi m.pr.val,Vi m.pr.to, .slice m.pr.q m.pr.subs.length m.pr.cap, .string m.nm,Vi m.n, .slice m.q m.subs.length m.cap] 28)::(n3,Cl [Pt (D.p) 0] 68)::R)) hst call136 (fun R9 hs9=>policy_sC hst (hE.mono (List.Sublist.trans sbt hs9)) m p hI hF (hM.mono (List.Sublist.trans sbt hs9)) tick n3 (Fnd.mono (H:=((n5,Cl [Vi tick] 3)::(n4,Cl [Vi m.kind,Vi m.pr.kind, .string m.pr.nm,Vi m.pr.val,Vi m.pr.to, .slice m.pr.q m.pr.subs.length m.pr.cap, .string m.nm,Vi m.n, .slice m.q m.subs.length m.cap] 28)::(n3,Cl [Pt (D.p) 0] 68)::R)) (by exact Cr (Cr (fnd_h))) hs9) n4 (Fnd.mono (H:=((n5,Cl [Vi tick] 3)::(n4,Cl [Vi m.kind,Vi m.pr.kind, .string m.pr.nm,Vi m.pr.val,Vi m.pr.to, .slice m.pr.q m.pr.subs.length m.pr.cap, .string m.nm,Vi m.n, .slice m.q m.subs.length m.cap] 28)::(n3,Cl [Pt (D.p) 0] 68)::R)) (by exact Cr (fnd_h)) hs9) n5 (Fnd.mono (H:=((n5,Cl [Vi tick] 3)::(n4,Cl [Vi m.kind,Vi m.pr.kind, .string m.pr.nm,Vi m.pr.val,Vi m.pr.to, .slice m.pr.q m.pr.subs.length m.pr.cap, .string m.nm,Vi m.n, .slice m.q m.subs.length m.cap] 28)::(n3,Cl [Pt (D.p) 0] 68)::R)) (by exact fnd_h) hs9))) locqc)) ?_ U) U;rintro _ _ ⟨⟨id,ee,v1,ns1⟩,⟨rfl,hc,hst1⟩,rfl⟩
 dsimp only at hc hst1
 refine rOt 7 U (Ai U (.tmp (Aa U) (Ol U)) ?_);exact⟨_,⟨(id,ee,v1,ns1),⟨rfl,hc,hst1⟩,rfl⟩,sbt⟩
theorem union_sC {w0:World}{D:Sd}{v:Sv}{ns:Ns}{R:Mm}(hst:StOk D v ns)(a b:Nat)(ha:a<ns.length)(hb:b<ns.length)(b0:Nat)(f0:Fnd R b0 (Cl [Pt (D.p) 0] 68))(b1:Nat)(f1:Fnd R b1 (Cl [Vi (a:Nat)] 3))(b2:Nat)(f2:Fnd R b2 (Cl [Vi (b:Nat)] 3))  :
  FSpecP prog w0 93 #[Pt b0 0,Pt b1 0,Pt b2 0] (SM D v ns++R) (OpK D (orF D.most.toNat ns a b) R) (.iface 195 (.agg #[])) (OpB D (orF D.most.toNat ns a b) ns R):=by
 refine Bj func93 U ntmps93 U (rDt 7 U (y_ (Om U isAgg68 (by first|exact c_o|exact Ae (Fnd.mono f0 (List.sublist_append_right _ _)) 0 _ U)) ?_ U));refine y_ (Om U isAgg3 (by first|exact c_o|exact Ae (Fnd.mono f1 (List.sublist_append_right _ _)) 0 _ U)) ?_ U;refine y_ (Om U isAgg3 (by first|exact c_o|exact Ae (Fnd.mono f2 (List.sublist_append_right _ _)) 0 _ U)) ?_ U;refine p_ (As (evq3 rfl rfl rfl) call94 (Nv hst R a b ha hb)) ?_ (by rintro _ ⟨⟨v1,ns1⟩,⟨e1,g1,hst1⟩,rfl⟩;(repeat (first|refine By ?_|refine Bw ?_));exact Bi ⟨(v1,ns1),⟨e1,g1,hst1⟩,rfl⟩ sbt) rfl;rintro _ _ ⟨⟨r1,v1,ns1⟩,⟨rfl,e1,hst1⟩,rfl⟩
 dsimp only at e1 hst1
 refine rOt 4 U (Bs U (Ol U) ?_);exact⟨_,⟨(r1,v1,ns1),⟨rfl,e1,hst1⟩,rfl⟩,sbt⟩
theorem union_s {w0:World}{D:Sd}{v:Sv}{ns:Ns}{R:Mm}(hst:StOk D v ns)(a b:Nat)(ha:a<ns.length)(hb:b<ns.length)  :
  FSpec prog w0 49 #[Pt (D.p) 0,Vi (a:Nat),Vi (b:Nat)] (SM D v ns++R) (TryK D (orF D.most.toNat ns a b) ns R):=by
 refine Am func49 U ntmps49 U (rDt 2 U (e_ (Ot U cs_) ?_ U));rintro _ _ ⟨n3,rfl,rfl⟩;refine e_ (Ot U cs_) ?_ U;rintro _ _ ⟨n4,rfl,rfl⟩;refine e_ (Ot U cs_) ?_ U;rintro _ _ ⟨n5,rfl,rfl⟩;refine rOt 6 U (y_ (Om U isAgg68 qco) ?_ U);refine y_ (Bn (.cons (T U) (.cons (T U) (.cons (T U) .nil)))) (e_ (Ah (evq2 U U) call92 (B7 (M:=SM D v ns) (try_s (R:=((n5,Cl [Vi (b:Nat)] 3)::(n4,Cl [Vi (a:Nat)] 3)::(n3,Cl [Pt (D.p) 0] 68)::R)) hst call93 (fun R9 hs9=>union_sC hst a b ha hb n3 (Fnd.mono (H:=((n5,Cl [Vi (b:Nat)] 3)::(n4,Cl [Vi (a:Nat)] 3)::(n3,Cl [Pt (D.p) 0] 68)::R)) (by exact Cr (Cr (fnd_h))) hs9) n4 (Fnd.mono (H:=((n5,Cl [Vi (b:Nat)] 3)::(n4,Cl [Vi (a:Nat)] 3)::(n3,Cl [Pt (D.p) 0] 68)::R)) (by exact Cr (fnd_h)) hs9) n5 (Fnd.mono (H:=((n5,Cl [Vi (b:Nat)] 3)::(n4,Cl [Vi (a:Nat)] 3)::(n3,Cl [Pt (D.p) 0] 68)::R)) (by exact fnd_h) hs9))) locqc)) ?_ U) U;rintro _ _ ⟨⟨id,ee,v1,ns1⟩,⟨rfl,hc,hst1⟩,rfl⟩
 dsimp only at hc hst1
 refine rOt 7 U (Ai U (.tmp (Aa U) (Ol U)) ?_);exact⟨_,⟨(id,ee,v1,ns1),⟨rfl,hc,hst1⟩,rfl⟩,sbt⟩
theorem sequ_sC {w0:World}{D:Sd}{v:Sv}{ns:Ns}{R:Mm}(hst:StOk D v ns)(a b:Nat)(ha:a<ns.length)(hb:b<ns.length)(b0:Nat)(f0:Fnd R b0 (Cl [Pt (D.p) 0] 68))(b1:Nat)(f1:Fnd R b1 (Cl [Vi (a:Nat)] 3))(b2:Nat)(f2:Fnd R b2 (Cl [Vi (b:Nat)] 3))  :
  FSpecP prog w0 108 #[Pt b0 0,Pt b1 0,Pt b2 0] (SM D v ns++R) (OpK D (seA D.most.toNat ns a b) R) (.iface 195 (.agg #[])) (OpB D (seA D.most.toNat ns a b) ns R):=by
 refine Bj func108 U ntmps108 U (rDt 7 U (y_ (Om U isAgg68 (by first|exact c_o|exact Ae (Fnd.mono f0 (List.sublist_append_right _ _)) 0 _ U)) ?_ U));refine y_ (Om U isAgg3 (by first|exact c_o|exact Ae (Fnd.mono f1 (List.sublist_append_right _ _)) 0 _ U)) ?_ U;refine y_ (Om U isAgg3 (by first|exact c_o|exact Ae (Fnd.mono f2 (List.sublist_append_right _ _)) 0 _ U)) ?_ U;refine p_ (As (evq3 rfl rfl rfl) call109 (seq_s hst R a b ha hb)) ?_ (by rintro _ ⟨⟨v1,ns1⟩,⟨e1,g1,hst1⟩,rfl⟩;(repeat (first|refine By ?_|refine Bw ?_));exact Bi ⟨(v1,ns1),⟨e1,g1,hst1⟩,rfl⟩ sbt) rfl;rintro _ _ ⟨⟨r1,v1,ns1⟩,⟨rfl,e1,hst1⟩,rfl⟩
 dsimp only at e1 hst1
 refine rOt 4 U (Bs U (Ol U) ?_);exact⟨_,⟨(r1,v1,ns1),⟨rfl,e1,hst1⟩,rfl⟩,sbt⟩
theorem sequ_s {w0:World}{D:Sd}{v:Sv}{ns:Ns}{R:Mm}(hst:StOk D v ns)(a b:Nat)(ha:a<ns.length)(hb:b<ns.length)  :
  FSpec prog w0 65 #[Pt (D.p) 0,Vi (a:Nat),Vi (b:Nat)] (SM D v ns++R) (TryK D (seA D.most.toNat ns a b) ns R):=by
 refine Am func65 U ntmps65 U (rDt 2 U (e_ (Ot U cs_) ?_ U));rintro _ _ ⟨n3,rfl,rfl⟩;refine e_ (Ot U cs_) ?_ U;rintro _ _ ⟨n4,rfl,rfl⟩;refine e_ (Ot U cs_) ?_ U;rintro _ _ ⟨n5,rfl,rfl⟩;refine rOt 6 U (y_ (Om U isAgg68 qco) ?_ U);refine y_ (Bn (.cons (T U) (.cons (T U) (.cons (T U) .nil)))) (e_ (Ah (evq2 U U) call92 (B7 (M:=SM D v ns) (try_s (R:=((n5,Cl [Vi (b:Nat)] 3)::(n4,Cl [Vi (a:Nat)] 3)::(n3,Cl [Pt (D.p) 0] 68)::R)) hst call108 (fun R9 hs9=>sequ_sC hst a b ha hb n3 (Fnd.mono (H:=((n5,Cl [Vi (b:Nat)] 3)::(n4,Cl [Vi (a:Nat)] 3)::(n3,Cl [Pt (D.p) 0] 68)::R)) (by exact Cr (Cr (fnd_h))) hs9) n4 (Fnd.mono (H:=((n5,Cl [Vi (b:Nat)] 3)::(n4,Cl [Vi (a:Nat)] 3)::(n3,Cl [Pt (D.p) 0] 68)::R)) (by exact Cr (fnd_h)) hs9) n5 (Fnd.mono (H:=((n5,Cl [Vi (b:Nat)] 3)::(n4,Cl [Vi (a:Nat)] 3)::(n3,Cl [Pt (D.p) 0] 68)::R)) (by exact fnd_h) hs9))) locqc)) ?_ U) U;rintro _ _ ⟨⟨id,ee,v1,ns1⟩,⟨rfl,hc,hst1⟩,rfl⟩
 dsimp only at hc hst1
 refine rOt 7 U (Ai U (.tmp (Aa U) (Ol U)) ?_);exact⟨_,⟨(id,ee,v1,ns1),⟨rfl,hc,hst1⟩,rfl⟩,sbt⟩
theorem keyN {V:Type}:KeyOk (V:=V) prog 3 encNI:=keyOk_now runUnderlying3 (fun b k w=>by cases b<;>kernel_rfl) (fun k k'=>by
 by_cases h:k=k'
 ·subst h;simp[Instr.sameNow]
 ·have h2: ¬ k'=k:=fun e=>h e.symm
  have h3: ¬ (k:Int)=(k':Int):=by omega
  simp[Instr.sameNow,h,h2,h3]) (fun k=>by simp[Instr.sameBits])
def pd0:Pdm:= .mk 0 ⟨#[]⟩ 0 0 none 0 []
theorem C2 :PdM w0 H pd0:= .mk (fun i u hi=>by simp at hi) (fun a ha=>by simp at ha)
theorem B0 {k n:Int}{pm:Pdm}{s:ByteArray}(h:PdM w0 H pm):PoM w0 H (.mk k pm s n none 0 []):= .mk h (fun i u hi=>by simp at hi) (fun a ha=>by simp at ha)
theorem dmF_k {most k:Nat}{kn:Kd}{ns:Ns}{a id:Nat}(h:look kn a=some id):dmF most (k+1) kn ns a=some (id,kn,ns):=by rw[dmF,h]
section
variable {most k:Nat} {kn kn1 kn2:Kd} {ns ns1 ns2 ns3:Ns} {a l r id:Nat}
theorem dmF_n1 (h:look kn a=none)(h1:dmF most k kn ns (low ns a)=none):dmF most (k+1) kn ns a=none:=by rw[dmF,h];simp only[h1]
theorem dmF_n2 (h:look kn a=none)(h1:dmF most k kn ns (low ns a)=some (l,kn1,ns1))(h2:dmF most k kn1 ns1 (hig ns a)=none):dmF most (k+1) kn ns a=none:=by rw[dmF,h];simp only[h1,h2]
theorem dmF_n3 (h:look kn a=none)(h1:dmF most k kn ns (low ns a)=some (l,kn1,ns1))(h2:dmF most k kn1 ns1 (hig ns a)=some (r,kn2,ns2))(he:lvl ns a % 2=0)(h3:mkF most ns2 (lvl ns a) l r=none):dmF most (k+1) kn ns a=none:=by rw[dmF,h];simp only[h1,h2,he,h3];rfl
theorem dmF_n4 (h:look kn a=none)(h1:dmF most k kn ns (low ns a)=some (l,kn1,ns1))(h2:dmF most k kn1 ns1 (hig ns a)=some (r,kn2,ns2))(he: ¬ lvl ns a % 2=0)(h3:orF most ns2 l r=none):dmF most (k+1) kn ns a=none:=by rw[dmF,h];simp only[h1,h2,he,h3];rfl
theorem dmF_y3 (h:look kn a=none)(h1:dmF most k kn ns (low ns a)=some (l,kn1,ns1))(h2:dmF most k kn1 ns1 (hig ns a)=some (r,kn2,ns2))(he:lvl ns a % 2=0)(h3:mkF most ns2 (lvl ns a) l r=some (id,ns3)):dmF most (k+1) kn ns a=some (id,upsert kn2 a id,ns3):=by rw[dmF,h];simp only[h1,h2,he,h3];rfl
theorem dmF_y4 (h:look kn a=none)(h1:dmF most k kn ns (low ns a)=some (l,kn1,ns1))(h2:dmF most k kn1 ns1 (hig ns a)=some (r,kn2,ns2))(he: ¬ lvl ns a % 2=0)(h3:orF most ns2 l r=some (id,ns3)):dmF most (k+1) kn ns a=some (id,upsert kn2 a id,ns3):=by rw[dmF,h];simp only[h1,h2,he,h3];rfl
end
structure Dm where
 R:Mm
 b1:Nat
 b2:Nat
 b3:Nat
 mp:Nat
abbrev Dm.cap (A:Dm):List Value:=[Pt (A.b1) 0,Pt (A.b2) 0,Pt (A.b3) 0]
structure DmOk (D:Sd) (A:Dm):Prop where
 f1:Fnd A.R A.b1 (Cl [.map (some A.mp)] 199)
 f2:Fnd A.R A.b2 (Cl [Pt (D.p) 0] 68)
 f3:Fnd A.R A.b3 (Cl [.func (.func 142) #[] A.cap.toArray] 85)
abbrev DmK (D:Sd) (mp:Nat) (F:Option (Nat × Kd × Ns)) (R:Mm):Value->Mm->Prop:=fun u H'=>∃ x:Nat × Kd × Sv × Ns,(u=Vi (x.1:Nat)/\F=some (x.1,x.2.1,x.2.2.2)/\StOk D x.2.2.1 x.2.2.2)/\H'=((mp,mapO encNI encNI x.2.1)::SM D x.2.2.1 x.2.2.2)++R
abbrev DmB (D:Sd) (mp:Nat) (F:Option (Nat × Kd × Ns)) (ns:Ns) (R:Mm):Mm->Prop:=fun H'=>∃ y:Kd × Sv × Ns,(F=none/\Gr (2*D.bs.length) ns y.2.2/\StOk D y.2.1 y.2.2)/\H'=((mp,mapO encNI encNI y.1)::SM D y.2.1 y.2.2)++R
def DmS (D:Sd) (A:Dm) (k:Nat) (w0:World):Prop:=∀ {R:Mm} {v:Sv} {ns:Ns} {kn:Kd} {a:Nat},A.R.Sublist R->StOk D v ns->KdOk (2*D.bs.length) ns kn->a<ns.length->2*D.bs.length<k+lvl ns a->
 FSpecP prog w0 142 (Vi (a:Nat)::A.cap).toArray (((A.mp,mapO encNI encNI kn)::SM D v ns)++R) (DmK D A.mp (dmF D.most.toNat k kn ns a) R) (.iface 195 (.agg #[])) (DmB D A.mp (dmF D.most.toNat k kn ns a) ns R)
theorem dm_0 {D:Sd}{A:Dm}{w0:World}:DmS D A 0 w0:=fun {R v ns kn a} hR hst hk ha hf=>by
 have:=hst.w.lvN ha;omega
theorem dm_step {w0:World}{D:Sd}{A:Dm}(hO:DmOk D A){k:Nat}(ih:DmS D A k w0){R:Mm}{v:Sv}{ns:Ns}{kn:Kd}{a:Nat}(hR:A.R.Sublist R)(hst:StOk D v ns)(hk:KdOk (2*D.bs.length) ns kn)(ha:a<ns.length)(hf:2*D.bs.length<k+1+lvl ns a):
  FSpecP prog w0 142 #[Vi (a:Nat),Pt (A.b1) 0,Pt (A.b2) 0,Pt (A.b3) 0] (((A.mp,mapO encNI encNI kn)::SM D v ns)++R) (DmK D A.mp (dmF D.most.toNat (k+1) kn ns a) R) (.iface 195 (.agg #[])) (DmB D A.mp (dmF D.most.toNat (k+1) kn ns a) ns R):=by
 refine Bj func142 U ntmps142 U ?_;have hw:=hst.w;have ht:=hst.w.two;have hbl:=hst.bl;have hlN:=hw.lvN ha;show J _ _ _ _ _ _ _ _ ((A.mp,mapO encNI encNI kn)::(SM D v ns++R));refine rDt 8 U (y_ (Om U isAgg199 (by first|exact c_o|exact Ae (Fnd.mono hO.f1 (List.Sublist.trans hR sbt)) 0 _ U)) ?_ U);refine rOt 1 U (y_ (yl_lookup2 (l:=kn) (k:=a) keyN (T U) (T U) U runUnderlying199 zeroValue3) (rOt 12 U ?_) U)
 first|refine jcd U (fun c17=> ?_) (fun c17=> ?_)|refine jcn U (fun c17=> ?_) (fun c17=> ?_)
 ·obtain⟨x,hx⟩:=Option.isSome_iff_exists.1 c17;refine rCt 8 U (Bs U (Ol U) ?_);exact⟨_,⟨(x,kn,v,ns),⟨by show resOf [((look kn a).map encNI).getD _]=_;rw[hx];rfl,dmF_k hx,hst⟩,rfl⟩,sbt⟩
 ·have hl:look kn a=none:=by simpa using c17
  have h2:2<=a:=Nat.le_of_not_lt fun h2=>by
   have:a=0\/a=1:=by omega
   rcases this with rfl|rfl
   ·rw[hk.k0] at hl;cases hl
   ·rw[hk.k1] at hl;cases hl
  obtain⟨c1,c2,c3⟩:=hw.lt a h2 ha;have hu:=hw.up a h2 ha;refine rCt 4 U (y_ (Om U isAgg68 (by first|exact c_o|exact Ae (Fnd.mono hO.f2 (List.Sublist.trans hR sbt)) 0 _ U)) ?_ U);refine rOt 2 U ?_;refine y_ (Om U isAgg149 qco) ?_ U;refine rOt 1 U (y_ (Oo U U runUnderlying149 sizeOf188 qom (by first|exact rfl|exact(E4 (w0:=w0) hst).b (i:=a) ha)) ?_ U);refine y_ (On U isAgg188 sizeOf188 U (by exact((E4 hst).mono (by repeat (first|exact Fv|exact sb0|refine List.Sublist.cons _ ?_))).cs (i:=a) ha)) ?_ U;refine e_ (Ag zeroValue188 cs_) ?_ U;rintro _ _ ⟨n8,rfl,rfl⟩;refine Bo (Oq U U sizeOf188) U Ad ?_;rintro _ _ ⟨rfl,rfl⟩;refine rOt 4 U (y_ (Om U isAgg85 (by first|exact c_o|exact Ae (Fnd.mono hO.f3 (List.Sublist.trans hR sbt)) 0 _ U)) ?_ U);refine rOt 1 U (y_ (Om U isAgg3 qco) ?_ U);refine p_ (Cz (T rfl) (.cons (T rfl) .nil) call142 (A5 (M:=(A.mp,mapO encNI encNI kn)::SM D v ns) (ih (R:=(n8,Cl (encNd (gd ns a)) 188)::R) (List.Sublist.trans hR sbt) hst hk (a:=low ns a) (show low ns a<ns.length by omega) qom) locqc)) ?_ (by rintro _ ⟨⟨kn1,v1,ns1⟩,⟨e1,g1,hst1⟩,rfl⟩;(repeat (first|refine By ?_|refine Bw ?_));exact Bi ⟨(kn1,v1,ns1),⟨dmF_n1 hl e1,g1,hst1⟩,rfl⟩ sbt) rfl;rintro _ _ ⟨⟨p1,kn1,v1,ns1⟩,⟨rfl,e1,hst1⟩,rfl⟩
  dsimp only at e1 hst1
  obtain⟨g1,k1,i1⟩:=Mf k hst.w hk (show low ns a<ns.length by omega) e1;refine rOt 5 U (y_ (Om U isAgg85 (by first|exact c_o|exact Ae (Fnd.mono hO.f3 (List.Sublist.trans hR sbt)) 0 _ U)) ?_ U);refine rOt 1 U (y_ (Om U isAgg3 qco) ?_ U);refine p_ (Cz (T rfl) (.cons (T rfl) .nil) call142 (A5 (M:=(A.mp,mapO encNI encNI kn1)::SM D v1 ns1) (ih (R:=(n8,Cl (encNd (gd ns a)) 188)::R) (List.Sublist.trans hR sbt) hst1 k1 (a:=hig ns a) (show hig ns a<ns1.length from Nat.lt_of_lt_of_le qom g1.le) (by rw[g1.lvl (show hig ns a<ns.length by omega)];omega)) locqc)) ?_ (by rintro _ ⟨⟨kn2,v2,ns2⟩,⟨e2,g2,hst2⟩,rfl⟩;(repeat (first|refine By ?_|refine Bw ?_));exact Bi ⟨(kn2,v2,ns2),⟨dmF_n2 hl e1 e2,g1.trans g2,hst2⟩,rfl⟩ sbt) rfl;rintro _ _ ⟨⟨p2,kn2,v2,ns2⟩,⟨rfl,e2,hst2⟩,rfl⟩
  dsimp only at e2 hst2
  obtain⟨g2,k2,i2⟩:=Mf k hst1.w k1 (show hig ns a<ns1.length from Nat.lt_of_lt_of_le qom g1.le) e2;refine rOt 7 U (y_ (Om U isAgg3 qco) ?_ U);refine y_ (Ga (c:=2) (T U) Al qom) ?_ U;refine kO tb 3 [0,1,2,8,9,10,37] rfl U ?_;refine jcd U (fun c37=> ?_) (fun c37=> ?_)
  ·have he:lvl ns a % 2=0:=by have h9:(((lvl ns a % 2:Nat):Nat):Int)=0:=c37;omega
   have j1:=i1.gr g1.w g2;have l1:=j1.lv;have l2:=i2.lv;rw[g1.lvl (show hig ns a<ns.length by omega)] at l2;refine rCt 1 U (y_ (Om U isAgg68 (by first|exact c_o|exact Ae (Fnd.mono hO.f2 (List.Sublist.trans hR sbt)) 0 _ U)) ?_ U);refine rOt 1 U (y_ (Om U isAgg3 qco) ?_ U);refine rOt 2 U ?_;refine p_ (As (evq4 rfl rfl rfl rfl) call143 (A5 (M:=SM D v2 ns2) (Hk hst2 _ (lvl ns a) p1 p2 j1.lt i2.lt qom qom qom) locqc)) ?_ (by rintro _ ⟨⟨v3,ns3⟩,⟨e3,g3,hst3⟩,rfl⟩;(repeat (first|refine By ?_|refine Bw ?_));exact Bi ⟨(kn2,v3,ns3),⟨dmF_n3 hl e1 e2 he e3,(g1.trans g2).trans g3,hst3⟩,rfl⟩ sbt) rfl;rintro _ _ ⟨⟨p3,v3,ns3⟩,⟨rfl,e3,hst3⟩,rfl⟩
   dsimp only at e3 hst3
   refine rOt 5 U (y_ (Om U isAgg199 (by first|exact c_o|exact Ae (Fnd.mono hO.f1 (List.Sublist.trans hR sbt)) 0 _ U)) ?_ U);refine rOt 2 U (e_ (Cq (l:=kn2) a p3 keyN (T U) (T U) U (T U) U runUnderlying199) ?_ U);rintro _ _ ⟨rfl,rfl⟩;refine rOt 9 U (Bs U (Ol U) ?_);exact⟨_,⟨(p3,upsert kn2 a p3,v3,ns3),⟨rfl,dmF_y3 hl e1 e2 he e3,hst3⟩,rfl⟩,sbt⟩
  ·have he: ¬ lvl ns a % 2=0:=fun h8=>c37 (show (((lvl ns a % 2:Nat):Nat):Int)=0 by omega)
   have j1:=i1.gr g1.w g2;refine rCt 1 U (y_ (Om U isAgg68 (by first|exact c_o|exact Ae (Fnd.mono hO.f2 (List.Sublist.trans hR sbt)) 0 _ U)) ?_ U);refine rOt 2 U ?_;refine p_ (As (evq3 rfl rfl rfl) call94 (A5 (M:=SM D v2 ns2) (Nv hst2 _ p1 p2 j1.lt i2.lt) locqc)) ?_ (by rintro _ ⟨⟨v3,ns3⟩,⟨e3,g3,hst3⟩,rfl⟩;(repeat (first|refine By ?_|refine Bw ?_));exact Bi ⟨(kn2,v3,ns3),⟨dmF_n4 hl e1 e2 he e3,(g1.trans g2).trans g3,hst3⟩,rfl⟩ sbt) rfl;rintro _ _ ⟨⟨p3,v3,ns3⟩,⟨rfl,e3,hst3⟩,rfl⟩
   dsimp only at e3 hst3
   refine rOt 5 U (y_ (Om U isAgg199 (by first|exact c_o|exact Ae (Fnd.mono hO.f1 (List.Sublist.trans hR sbt)) 0 _ U)) ?_ U);refine rOt 2 U (e_ (Cq (l:=kn2) a p3 keyN (T U) (T U) U (T U) U runUnderlying199) ?_ U);rintro _ _ ⟨rfl,rfl⟩;refine rOt 9 U (Bs U (Ol U) ?_);exact⟨_,⟨(p3,upsert kn2 a p3,v3,ns3),⟨rfl,dmF_y4 hl e1 e2 he e3,hst3⟩,rfl⟩,sbt⟩
theorem dm_s {D:Sd}{A:Dm}{w0:World}(hO:DmOk D A)(k:Nat):DmS D A k w0:=by
 induction k with
 |zero=>exact dm_0
 |succ k ih=>
  intro R v ns kn a hR hst hk ha hf;exact dm_step hO ih hR hst hk ha hf
theorem domF_n1 {most:Nat}{bs:List Nat}{ns:Ns}{a k:Nat}(hk:lvl ns 0+1=k)(h:dmF most k [(0,0),(1,1)] ns a=none):domF most bs ns a=none:=by subst hk;unfold domF;rw[h]
theorem domF_y {most:Nat}{bs:List Nat}{ns ns1:Ns}{a k s:Nat}{kn:Kd}(hk:lvl ns 0+1=k)(h:dmF most k [(0,0),(1,1)] ns a=some (s,kn,ns1)):domF most bs ns a=filF most bs ns1 s:=by subst hk;unfold domF;rw[h]
theorem domain_C {w0:World}{D:Sd}{v:Sv}{ns:Ns}{R:Mm}(hst:StOk D v ns){fl:List Fd}(hE:En w0 R D fl)(a:Nat)(ha:a<ns.length){A:Dm}(hO:DmOk D A)(hR:A.R.Sublist R)(ba:Nat)(fa:Fnd R ba (Cl [Vi (a:Nat)] 3)):
  FSpecP prog w0 144 #[Pt (A.b2) 0,Pt (A.b3) 0,Pt ba 0] (((A.mp,mapO encNI encNI [(0,0),(1,1)])::SM D v ns)++R) (OpK D (domF D.most.toNat D.bs ns a) R) (.iface 195 (.agg #[])) (OpB D (domF D.most.toNat D.bs ns a) ns R):=by
 refine Bj func144 U ntmps144 U ?_;show J _ _ _ _ _ _ _ _ ((A.mp,mapO encNI encNI [(0,0),(1,1)])::(SM D v ns++R));refine rDt 6 U (Bf 4 [(0,true),(1,true),(2,true),(3,false)] R mixd qkr sbt ?_ B1);refine o_y U (Om U isAgg68 (by first|exact c_o|exact Ae (Fnd.mono hO.f2 (List.Sublist.trans hR sbt)) 0 _ U)) ?_ U Ad;refine o_y U (Om U isAgg85 (by first|exact c_o|exact Ae (Fnd.mono hO.f3 (List.Sublist.trans hR sbt)) 0 _ U)) ?_ U Ad;refine o_y U (Om U isAgg3 (by first|exact c_o|exact Ae (Fnd.mono fa sbt) 0 _ U)) ?_ U Ad;refine o_p rfl (Cz (T rfl) (.cons (T rfl) .nil) call142 (A5 (M:=(A.mp,mapO encNI encNI [(0,0),(1,1)])::SM D v ns) (dm_s hO (2*D.bs.length+1) (R:=R) (kn:=[(0,0),(1,1)]) hR hst (kd_0 hst.w) ha qom) locqc)) ?_ (by rintro _ ⟨⟨kn1,v1,ns1⟩,⟨e1,g1,hst1⟩,rfl⟩;(repeat (first|refine By ?_|refine Bw ?_));exact Bi ⟨(v1,ns1),⟨domF_n1 (by rw[hst.w.lv0]) e1,g1,hst1⟩,rfl⟩ sbt) rfl Ad;rintro _ _ ⟨⟨p1,kn1,v1,ns1⟩,⟨rfl,e1,hst1⟩,rfl⟩
 dsimp only at e1 hst1
 obtain⟨g1,k1,i1⟩:=Mf (2*D.bs.length+1) hst.w (kd_0 hst.w) ha e1;refine⟨sbt,(Av U ?_)⟩;refine p_ (As (evq2 rfl rfl) call145 (A5 (M:=SM D v1 ns1) (filter_s (R:=(A.mp,mapO encNI encNI kn1)::R) (hE.bits.mono sbt) hE.ok hst1 p1 i1.lt) locqc)) ?_ (by rintro _ ⟨⟨v2,ns2⟩,⟨e2,g2,hst2⟩,rfl⟩;(repeat (first|refine By ?_|refine Bw ?_));exact Bi ⟨(v2,ns2),⟨by rw[domF_y (by rw[hst.w.lv0]) e1,e2],g1.trans g2,hst2⟩,rfl⟩ sbt) rfl;rintro _ _ ⟨⟨p2,v2,ns2⟩,⟨rfl,e2,hst2⟩,rfl⟩
 dsimp only at e2 hst2
 refine rOt 4 U (Bs U (Ol U) ?_);exact⟨_,⟨(p2,v2,ns2),⟨rfl,by rw[domF_y (by rw[hst.w.lv0]) e1,e2],hst2⟩,rfl⟩,sbt⟩
theorem spec_perm {P:Program}{w0:World}{f:FuncId}{args:Array Value}{H M:Mm}{K:Value->Mm->Prop}(h:FSpec P w0 f args M K)(hp:H.Perm M):FSpec P w0 f args H K:=fun w hO=>h w (Cf hO hp)
theorem domain_s {w0:World}{D:Sd}{v:Sv}{ns:Ns}{R:Mm}(hst:StOk D v ns){fl:List Fd}(hE:En w0 R D fl)(a:Nat)(ha:a<ns.length):
  FSpec prog w0 98 #[Pt (D.p) 0,Vi (a:Nat)] (SM D v ns++R) (TryK D (domF D.most.toNat D.bs ns a) ns R):=by
 refine Am func98 U ntmps98 U (rDt 2 U (e_ (Ot U cs_) ?_ U));rintro _ _ ⟨n2,rfl,rfl⟩;refine e_ (Ot U cs_) ?_ U;rintro _ _ ⟨n3,rfl,rfl⟩;refine rOt 6 U (e_ Dn ?_ U);rintro _ _ ⟨n8,rfl,rfl⟩;refine e_ (eff_insert (encK:=encNI) (encV:=encNI) (l:=([]:List (Nat × Nat))) 0 0 keyN (T U) Al U Al U runUnderlying199) ?_ U;rintro _ _ ⟨rfl,rfl⟩;refine e_ (eff_insert (encK:=encNI) (encV:=encNI) (l:=[(0,0)]) 1 1 keyN (T U) Al U Al U runUnderlying199) ?_ U;rintro _ _ ⟨rfl,rfl⟩;refine rOt 1 U (e_ (Ag zeroValue199 cs_) ?_ U);rintro _ _ ⟨n6,rfl,rfl⟩;refine Bo (Oq U U sizeOf199) U Ad ?_;rintro _ _ ⟨rfl,rfl⟩;refine rOt 4 U (e_ (Ag zeroValue85 cs_) ?_ U);rintro _ _ ⟨n7,rfl,rfl⟩;refine rOt 4 U (y_ (Bn (.cons (T U) (.cons (T U) (.cons (T U) .nil)))) ?_ U);refine Bo (Oq U U sizeOf85) U Ad ?_;rintro _ _ ⟨rfl,rfl⟩;refine rOt 4 U (y_ (Om U isAgg68 qco) ?_ U);refine y_ (Bn (.cons (T U) (.cons (T U) (.cons (T U) .nil)))) (e_ (Ah (evq2 U U) call92 (spec_perm (try_x (M0:=(n8,mapO encNI encNI [(0,0),(1,1)])::SM D v ns) (R:=(n7,Cl [.func (.func 142) #[] #[Pt n6 0,Pt n2 0,Pt n7 0]] 85)::(n6,Cl [.map (some n8)] 199)::(n3,Cl [Vi (a:Nat)] 3)::(n2,Cl [Pt (D.p) 0] 68)::R) hst (List.sublist_cons_self _ _) call144 (fun R9 hs9=>domain_C hst (hE.mono (List.Sublist.trans sbt hs9)) a ha (A:=⟨(n7,Cl [.func (.func 142) #[] #[Pt n6 0,Pt n2 0,Pt n7 0]] 85)::(n6,Cl [.map (some n8)] 199)::(n3,Cl [Vi (a:Nat)] 3)::(n2,Cl [Pt (D.p) 0] 68)::R,n6,n2,n7,n8⟩) ⟨Cr fnd_h,Cr (Cr (Cr fnd_h)),fnd_h⟩ hs9 n3 (Fnd.mono (H:=(n7,Cl [.func (.func 142) #[] #[Pt n6 0,Pt n2 0,Pt n7 0]] 85)::(n6,Cl [.map (some n8)] 199)::(n3,Cl [Vi (a:Nat)] 3)::(n2,Cl [Pt (D.p) 0] 68)::R) (Cr (Cr fnd_h)) hs9))) perm_ap)) ?_ U) U;rintro _ _ ⟨⟨id,ee,v1,ns1⟩,⟨rfl,hc,hst1⟩,rfl⟩
 dsimp only at hc hst1
 refine rOt 7 U (Ai U (.tmp (Aa U) (Ol U)) ?_);exact⟨_,⟨(id,ee,v1,ns1),⟨rfl,hc,hst1⟩,rfl⟩,sbt⟩
theorem Kc5 (a0 a1:Int)(a2:ByteArray)(a3 a4:Int)(a5:Option Addr)(a5n a5c:Nat)(w:World):(Instr.build 28 #[(0,Vi a0),(1, .agg #[Vi a1, .string a2,Vi a3,Vi a4, .slice a5 a5n a5c])]).run prog w= .ok (.agg #[Vi a0,Vi a1, .string a2,Vi a3,Vi a4, .slice a5 a5n a5c, .string ⟨#[]⟩,Vi 0, .slice none 0 0]) w:=by kernel_rfl
theorem filterm_s {w0:World}{D:Sd}{v:Sv}{ns:Ns}{R:Mm}(hst:StOk D v ns){fl:List Fd}(hE:En w0 R D fl)(pm:Pdm)(p:Pd)(hI:IsP fl pm p)(hF:Po.Fit D.bs (.fil p))(hM:PdM w0 R pm)(tick:Int):
  FSpec prog w0 97 #[Pt (D.p) 0, .agg (encPd pm).toArray,Vi tick] (SM D v ns++R) (TryK D (polF D.most.toNat D.bs tick (rdN D.bs) (.fil p) ns) ns R):=by
 refine Am func97 U ntmps97 U (rDt 2 U (e_ (Ot U cs_) ?_ U));rintro _ _ ⟨n4,rfl,rfl⟩;refine rOt 7 U (y_ (On U isAgg25 sizeOf25 U qcs) ?_ U);refine y_ (A1 (.cons Al (.cons (T U) .nil)) (Kc5 _ _ _ _ _ _ _ _)) (rOt 1 U (e_ (Ah (evq3 U U U) call91 (B7 (M:=SM D v ns) (policy_s (R:=(n4,Cl (encPd pm) 25)::R) hst (hE.mono sbt) (.mk 1 pm ⟨#[]⟩ 0 none 0 []) (.fil p) (.fil U hI) hF (B0 (hM.mono sbt)) tick) locqc)) ?_ U)) U;rintro _ _ ⟨⟨id,ee,v1,ns1⟩,⟨rfl,hc,hst1⟩,rfl⟩
 dsimp only at hc hst1
 refine rOt 7 U (Ai U (.tmp (Aa U) (Ol U)) ?_);exact⟨_,⟨(id,ee,v1,ns1),⟨rfl,hc,hst1⟩,rfl⟩,sbt⟩
abbrev encBl (b:Bool):Value:= .bool b
theorem Kd9 {a0 a1 a2 a3 a4 a5 a6 a7 a8 a9:Int}(w:World):(Instr.buildSlice 58 1 #[(0, .agg #[Vi a0,Vi a1,Vi a2,Vi a3,Vi a4,Vi a5,Vi a6,Vi a7,Vi a8,Vi a9])]).run prog w= .ok (.slice (some ⟨w.heap.size,0,none⟩) 1 1) (w.alloc (Cl [Vi a0,Vi a1,Vi a2,Vi a3,Vi a4,Vi a5,Vi a6,Vi a7,Vi a8,Vi a9] 32)):=by kernel_rfl
abbrev encHd (h:Hd):List Value:=(List.range 10).map fun i=>encNI (gd h i)
theorem E1 {h:Hd}(hh:HdOk h):encHd h=hdC h:=by
 obtain⟨a,b,c,d,e,f,g,i,j,k,rfl⟩:=hd10 hh
 rfl
theorem C8 (h:Hd):(encHd h).length=10:=by simp
theorem C9 (h:Hd):(encHd h).all oneB=true:=by simp[encHd,oneB]
theorem arr_hd {q:Option Addr}{l:List Hd}(h:Arr w0 H q 10 encHd l)(hl:∀ x∈l,HdOk x):Arr w0 H q 10 hdC l:=fun i u hi=>by
 have h1:=h i u hi;rw[E1 (hl u (List.mem_of_getElem? hi))] at h1;exact h1
theorem bs42 {h:Hd}(hh:HdOk h)(w:World):(Instr.buildSlice 58 1 #[(0, .agg (hdC h).toArray)]).run prog w= .ok (.slice (some ⟨w.heap.size,0,none⟩) 1 1) (w.alloc (Cl (hdC h) 32)):=by
 obtain⟨a0,a1,a2,a3,a4,a5,a6,a7,a8,a9,rfl⟩:=hd10 hh;exact Kd9 w
theorem Hm {P:Program}{w0:World}{L:Fm}{H:Mm}{ty xt yt:TypeId}{x y:Operand}{a:Nat}(hx:Ev L x (Vi 2))(hy:Ev L y (Vi (a:Nat)))(h:a<=1000000000):Yl P w0 (.binOp .mul xt x y yt) ty L H (Vi ((2*a:Nat):Int)):=by
 have h:=Fn (P:=P) (w0:=w0) (H:=H) (ty:=ty) (xt:=xt) (yt:=yt) hx hy qom
 rwa [show 2*(a:Int)=((2*a:Nat):Int) by omega] at h
theorem Lh {D:Sd}{v:Sv}{ns:Ns}(hm:(SM D v ns).Sublist H)(hst:StOk D v ns)(i lv:Nat)(b:Bool)(hi:i<ns.length){x:Int}(hx:x=b2i b):
  FSpec prog w0 107 #[Pt (D.p) 0,Vi (i:Nat),Vi (lv:Nat),Vi x] H (Still (Vi (ch ns i lv b:Nat)) H):=by subst hx;exact Hj hm hst i lv b hi
theorem Nn (h:Hd)(hh:HdOk h)(i:Nat)(hi:i<160)(v:Bool){x:Int}(hx:x=b2i v):
  FSpec prog w0 100 #[.agg (hdC h).toArray,Vi (i:Nat),Vi x] H (Still (.agg (hdC (hput h i v)).toArray) H):=by subst hx;exact put_s h hh i hi v
end Go.Proofs.YtkgfmjanajdibaaGreat
