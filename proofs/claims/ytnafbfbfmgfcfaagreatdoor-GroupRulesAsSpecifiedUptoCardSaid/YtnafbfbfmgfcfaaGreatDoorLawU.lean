/-
  For every input of bulk at most 1048576 GroupRulesAsSpecified returns true, and its arguments read as before. Condition: the bound of the second form alone (the listed words read as the text lays them).
-/
import Derived.Test.YtnafbfbfmgfcfaaGreatDoorGU7
import Derived.Test.YtnafbfbfmgfcfaaGreatDoorCards
import Derived.Test.YtnafbfbfmgfcfaaGreatDoorTie
import Derived.Deep.DeepHandedRow
namespace Go.Proofs.YtnafbfbfmgfcfaaGreatDoor
open Go.ChangeShapes Go.WideShapes Go.ChangeAt Go.RowKit Go.Joins
set_option linter.unusedSimpArgs false
set_option linter.unusedVariables false
set_option maxRecDepth 100000
theorem grules_contract (H:Type)(enc:TypeId × Value->H)(W:World)(base:Nat)(args:Array Value)(ds gs:List (DataW H))(before:List MemPlace)
  (hval0:∀ (j:Nat) t v,Tryz.f5.params[j]? =some t->args[j]? =some v->Value.okWide Tryz.prog W .any base t v)
  (hW:DataW.Whole enc Tryz.prog Tryz.f5.params.toList Rows.groupRulesAsSpecifiedSpec.vars false W args.toList ds gs before) (hk:Rows.uptoSmall H (ds++gs)=true) (hL:laidMetH Tryz.prog Rows.groupRulesAsSpecifiedUptoRow.laid W):
  Calls Tryz.prog 5 args W fun e W'=>∃ v,e= .returned v/\Rows.groupRulesAsSpecifiedSpec.post enc Tryz.prog Tryz.f5 false true false false W args v W':=by
 have hWd:=words_arr hL;have hbk:Rows.uptoBulkAll (ds++gs)<=1048576:=of_decide_eq_true hk;have hval:∀ (j:Nat) t v,Tryz.f5.params[j]? =some t->args[j]? =some v->Value.okWide Tryz.prog W .any base t v:=hval0;have hW':=hW;obtain⟨p,q,hA0,hV,rfl,hfz,hnd⟩:=hW;have hA:DataW.TrodAll enc Tryz.prog W 0 (fun _=>true) true Tryz.f5.params.toList args.toList ds p:=hA0;rw[Tryz.params5] at hA hval;have hAk:=hA;obtain⟨v0,vs0,d0,ds0,p0,q0,hargs,rfl,rfl,h0,r0⟩:=trodAll_cons hA;obtain⟨v1,vs1,d1,ds1,p1,q1,rfl,rfl,rfl,h1,r1⟩:=trodAll_cons r0;obtain⟨v2,vs2,d2,ds2,p2,q2,rfl,rfl,rfl,h2,r2⟩:=trodAll_cons r1;obtain⟨v3,vs3,d3,ds3,p3,q3,rfl,rfl,rfl,h3,r3⟩:=trodAll_cons r2;obtain⟨v4,vs4,d4,ds4,p4,q4,rfl,rfl,rfl,h4,r4⟩:=trodAll_cons r3;obtain⟨v5,vs5,d5,ds5,p5,q5,rfl,rfl,rfl,h5,r5⟩:=trodAll_cons r4;obtain⟨v6,vs6,d6,ds6,p6,q6,rfl,rfl,rfl,h6,r6⟩:=trodAll_cons r5;obtain⟨rfl,rfl,rfl⟩:=trodAll_nil r6;obtain rfl:args= #[v0,v1,v2,v3,v4,v5,v6]:=by cases args;simp_all
 obtain⟨rfl,rfl⟩:=trodVars_none hV;simp only[List.append_nil,Rows.uptoBulkAll] at hbk;obtain⟨n,rfl,hn⟩:=open_net (hval 0 26 v0 rfl rfl) h0;obtain⟨s,rfl,_,_,w1⟩:=open_int Tryz.underlying3 (hval 1 3 v1 rfl rfl) h1;obtain⟨qw,w,kw,rfl,hw,cw⟩:=open_waysS (hval 2 27 v2 rfl rfl) h2;obtain⟨qd,d,kd,rfl,hd,yd,zd,cd⟩:=open_dets (hval 3 34 v3 rfl rfl) h3 qom;obtain⟨qt,t,kt,rfl,ht,ct,lt,it,bt⟩:=H6 (hval 4 41 v4 rfl rfl) h4;obtain⟨qu,u,ku,rfl,hu,cu,lu,iu,bu⟩:=H6 (hval 5 41 v5 rfl rfl) h5;obtain⟨f,rfl,_,_,w6⟩:=open_int Tryz.underlying3 (hval 6 3 v6 rfl rfl) h6;clear hA0 hval0;simp only[List.append_nil] at hW';refine(calls_true (grules_s n hn s w qw kw hw d qd kd hd yd zd t qt kt ht qom u qu ku hu cu qom f hWd)).mono fun e W' ⟨he,hb⟩=> ?_
 subst he;refine⟨_,rfl,_,_,_,[],_,[],hW',trodAll_mk1 (shut_bool Tryz.underlying4 _),trodAll_stays ?_ hAk hb ?_,rfl,hb.frame _,fun h=>by cases h⟩
 ·intro t ht;have h9:t=26\/t=3\/t=27\/t=34\/t=41\/t=41\/t=3:=by simpa using ht
  have ht':t=26\/t=3\/t=27\/t=34\/t=41:=by rcases h9 with h|h|h|h|h|h|h<;>simp[h]
  rcases ht' with rfl|rfl|rfl|rfl|rfl
  ·exact⟨by kernel_rfl,of_decide_eq_true qkr⟩
  ·exact⟨by kernel_rfl,of_decide_eq_true qkr⟩
  ·exact⟨by kernel_rfl,of_decide_eq_true qkr⟩
  ·exact⟨by kernel_rfl,of_decide_eq_true qkr⟩
  ·exact⟨by kernel_rfl,of_decide_eq_true qkr⟩
 ·intro x hx;exact hW'.lt x (by simpa using hx)
theorem grules_met (os:Os):laidMet Tryz.prog Rows.groupRulesAsSpecifiedRow.laid ((laidWorld os).forCall (fun _ _=>0) ⟨#[],#[.agg #[.slice none 0 0, .slice none 0 0, .slice none 0 0], .int .i64 0, .slice none 0 0, .slice none 0 0, .slice none 0 0, .slice none 0 0, .int .i64 0],[]⟩).memory:=
 laidMet_of_run' 80 qkr qkr
theorem grules_reads (os:Os){H:Type}(enc:TypeId × Value->H):∃ places,DataW.whole enc Tryz.prog ((laidWorld os).forCall (fun _ _=>0) ⟨#[],#[.agg #[.slice none 0 0, .slice none 0 0, .slice none 0 0], .int .i64 0, .slice none 0 0, .slice none 0 0, .slice none 0 0, .slice none 0 0, .int .i64 0],[]⟩).memory Tryz.f5.params.toList Rows.groupRulesAsSpecifiedSpec.vars false (#[.agg #[.slice none 0 0, .slice none 0 0, .slice none 0 0], .int .i64 0, .slice none 0 0, .slice none 0 0, .slice none 0 0, .slice none 0 0, .int .i64 0]:Array Value).toList 8=some ([.agg [.nil, .nil, .nil], .lit (.int .i64 0), .nil, .nil, .nil, .nil, .lit (.int .i64 0)],[],places):=
 ⟨[],by kernel_rfl⟩
theorem grules_lifted (os:Os)(started:os.Started)(H:Type)(enc:TypeId × Value->H)(F:Stop.Interp):
  ReturnsInHanded {} Tryz.checked os 5 .any ((Rows.OpenSpec.upto Rows.groupRulesAsSpecifiedSpec).preRow enc Tryz.prog Tryz.f5 Rows.groupRulesAsSpecifiedUptoRow.domain false Rows.groupRulesAsSpecifiedUptoRow.laid) (((Rows.OpenSpec.upto Rows.groupRulesAsSpecifiedSpec).at F).post enc Tryz.prog Tryz.f5 false true false false):=by
 obtain⟨places,hx⟩:=grules_reads os enc;refine returnsInHanded_of_row (C:=Tryz.checked) (s:=Rows.OpenSpec.upto Rows.groupRulesAsSpecifiedSpec) own_knob started qkr Tryz.func5
  (witness_row_at (enc:=enc) (C:=Tryz.checked) false (laidWorld os) #[.agg #[.slice none 0 0, .slice none 0 0, .slice none 0 0], .int .i64 0, .slice none 0 0, .slice none 0 0, .slice none 0 0, .slice none 0 0, .int .i64 0] rfl qkr qkr qkr
   (OpenSpec.preRow_of_cond 8 hx qkr (fun k hk=>by cases hk;kernel_rfl) qkr (grules_met os))) ?_
 intro W base args ds gs before hval hW _ hcond _ hL _ _;exact grules_contract H enc W base args ds gs before hval hW (hcond _ U) hL
theorem grules_said:Rows.GroupRulesAsSpecifiedUptoSaid:=
 OpenClaim.holds_of_cond 5 Tryz.f5 U U U U U U U ⟨rfl,rfl,rfl,rfl,rfl⟩ rfl U U U U qkr Tryz.func5 qkr
  (of_decide_eq_true qkr) (by unfold Func.isWrapper;first|(rw[if_pos (by decide+kernel)];kernel_rfl)|(rw[if_neg (by decide+kernel)];exact⟨rfl,rfl⟩))
  (fun os started H enc _ F=>by rw[OpenClaim.pre_eq_preRow];exact grules_lifted os started H enc F)
theorem grules_plain (f:FuncId)(fn:Func)(hf:Tryz.pinned.checked.prog.funcNamed "interlace/interlacelaw28.GroupRulesAsSpecified" =some f)(hfn:Tryz.pinned.checked.prog.funcs[f]? =some fn):
  false=Tryz.pinned.checked.prog.looks []/\∀ (j:Nat) t,fn.params[j]? =some t->Tryz.pinned.checked.prog.wantsStandIn t=false:=by
 obtain rfl:f=5:=Option.some.inj ((show Tryz.prog.funcNamed "interlace/interlacelaw28.GroupRulesAsSpecified" =some 5 by kernel_rfl).symm.trans hf) |>.symm;obtain rfl:fn=Tryz.f5:=(Option.some.inj (Tryz.func5.symm.trans hfn)).symm;refine⟨by kernel_rfl,fun j t ht=> ?_⟩;rw[Tryz.params5] at ht;have h9:t=26\/t=3\/t=27\/t=34\/t=41\/t=41\/t=3:=by simpa using Array.mem_of_getElem? ht
 have ht':t=26\/t=3\/t=27\/t=34\/t=41:=by rcases h9 with h|h|h|h|h|h|h<;>simp[h]
 rcases ht' with rfl|rfl|rfl|rfl|rfl
 ·exact(show Tryz.prog.wantsStandIn 26=false by kernel_rfl)
 ·exact(show Tryz.prog.wantsStandIn 3=false by kernel_rfl)
 ·exact(show Tryz.prog.wantsStandIn 27=false by kernel_rfl)
 ·exact(show Tryz.prog.wantsStandIn 34=false by kernel_rfl)
 ·exact(show Tryz.prog.wantsStandIn 41=false by kernel_rfl)
/-- the statement -/
theorem grules_holds:Rows.GroupRulesAsSpecifiedUptoCardSaid:=
 Claim7.holds_tied_plain_at .later [] _ _ _ _ grules_said (fun _ h=>by cases h) qkr (fun _ h=>by cases h) groupRulesAsSpecifiedUpto_row_tie U ⟨rfl,rfl⟩ qkr U grules_plain qkr
end Go.Proofs.YtnafbfbfmgfcfaaGreatDoor
