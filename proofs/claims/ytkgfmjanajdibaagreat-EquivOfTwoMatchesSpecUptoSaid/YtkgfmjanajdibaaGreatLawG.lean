/-
  For every input of bulk at most 1048576 EquivOfTwoMatchesSpec returns true, and its arguments read as before. Condition: the bound of the second form alone.
-/
import Derived.Test.YtkgfmjanajdibaaGreatJg7
import Derived.Deep.DeepHandedRow
namespace Go.Proofs.YtkgfmjanajdibaaGreat
open Go.ChangeShapes Go.WideShapes Go.ChangeAt Go.RowKit Go.Joins
set_option linter.unusedSimpArgs false
set_option linter.unusedVariables false
set_option maxRecDepth 100000
theorem eqtwo_contract (H:Type)(enc:TypeId × Value->H)(W:World)(base:Nat)(args:Array Value)(ds gs:List (DataW H))(before:List MemPlace)
  (hval0:∀ (j:Nat) t v,Tryz.f5.params[j]? =some t->args[j]? =some v->Value.okWide Tryz.prog W .any base t v)
  (hW:DataW.Whole enc Tryz.prog Tryz.f5.params.toList Rows.equivOfTwoMatchesSpecSpec.vars false W args.toList ds gs before) (hk:Rows.uptoSmall H (ds++gs)=true):
  Calls Tryz.prog 5 args W fun e W'=>∃ v,e= .returned v/\Rows.equivOfTwoMatchesSpecSpec.post enc Tryz.prog Tryz.f5 false true false false W args v W':=by
 have hbk:Rows.uptoBulkAll (ds++gs)<=1048576:=of_decide_eq_true hk;have hval:∀ (j:Nat) t v,Tryz.f5.params[j]? =some t->args[j]? =some v->Value.okWide Tryz.prog W .any base t v:=hval0;have hW':=hW;obtain⟨p,q,hA0,hV,rfl,hfz,hnd⟩:=hW;have hA:DataW.TrodAll enc Tryz.prog W 0 (fun _=>true) true Tryz.f5.params.toList args.toList ds p:=hA0;rw[Tryz.params5] at hA hval;have hAk:=hA;obtain⟨v0,vs0,d0,ds0,p0,q0,hargs,rfl,rfl,h0,r0⟩:=trodAll_cons hA;obtain⟨v1,vs1,d1,ds1,p1,q1,rfl,rfl,rfl,h1,r1⟩:=trodAll_cons r0;obtain⟨v2,vs2,d2,ds2,p2,q2,rfl,rfl,rfl,h2,r2⟩:=trodAll_cons r1;obtain⟨v3,vs3,d3,ds3,p3,q3,rfl,rfl,rfl,h3,r3⟩:=trodAll_cons r2;obtain⟨rfl,rfl,rfl⟩:=trodAll_nil r3;obtain rfl:args= #[v0,v1,v2,v3]:=by cases args;simp_all
 obtain⟨rfl,rfl⟩:=trodVars_none hV;simp only[List.append_nil,Rows.uptoBulkAll] at hbk;obtain⟨ql,l,kl,rfl,hl,nl⟩:=open_fis (hval 0 22 v0 rfl rfl) h0;obtain⟨x,rfl,hx,zx,sx⟩:=Lm (hval 1 28 v1 rfl rfl) h1;obtain⟨y,rfl,hy,zy,sy⟩:=Lm (hval 2 28 v2 rfl rfl) h2;obtain⟨t,rfl,_,_,w3⟩:=open_int Tryz.underlying3 (hval 3 3 v3 rfl rfl) h3;clear hA0 hval0;simp only[List.append_nil] at hW';refine(calls_true (eqtwo_s l ql _ kl U hl nl hx qom zx hy qom zy t)).mono fun e W' ⟨he,hb⟩=> ?_
 subst he;refine⟨_,rfl,_,_,_,[],_,[],hW',trodAll_mk1 (shut_bool Tryz.underlying4 _),trodAll_stays ?_ hAk hb ?_,rfl,hb.frame _,fun h=>by cases h⟩
 ·intro t ht;have h9:t=22\/t=28\/t=28\/t=3:=by simpa using ht
  have ht':t=22\/t=28\/t=3:=by rcases h9 with h|h|h|h<;>simp[h]
  rcases ht' with rfl|rfl|rfl
  ·exact⟨by kernel_rfl,of_decide_eq_true qkr⟩
  ·exact⟨by kernel_rfl,of_decide_eq_true qkr⟩
  ·exact⟨by kernel_rfl,of_decide_eq_true qkr⟩
 ·intro x hx;exact hW'.lt x (by simpa using hx)
theorem eqtwo_met (os:Os):laidMet Tryz.prog Rows.equivOfTwoMatchesSpecRow.laid ((laidWorld os).forCall (fun _ _=>0) ⟨#[],#[.slice none 0 0, .agg #[.int .i64 0, .int .i64 0, .string ⟨#[]⟩, .int .i64 0, .int .i64 0, .slice none 0 0, .string ⟨#[]⟩, .int .i64 0, .slice none 0 0], .agg #[.int .i64 0, .int .i64 0, .string ⟨#[]⟩, .int .i64 0, .int .i64 0, .slice none 0 0, .string ⟨#[]⟩, .int .i64 0, .slice none 0 0], .int .i64 0],[]⟩).memory:=
 laidMet_of_run' 80 qkr qkr
theorem eqtwo_reads (os:Os){H:Type}(enc:TypeId × Value->H):∃ places,DataW.whole enc Tryz.prog ((laidWorld os).forCall (fun _ _=>0) ⟨#[],#[.slice none 0 0, .agg #[.int .i64 0, .int .i64 0, .string ⟨#[]⟩, .int .i64 0, .int .i64 0, .slice none 0 0, .string ⟨#[]⟩, .int .i64 0, .slice none 0 0], .agg #[.int .i64 0, .int .i64 0, .string ⟨#[]⟩, .int .i64 0, .int .i64 0, .slice none 0 0, .string ⟨#[]⟩, .int .i64 0, .slice none 0 0], .int .i64 0],[]⟩).memory Tryz.f5.params.toList Rows.equivOfTwoMatchesSpecSpec.vars false (#[.slice none 0 0, .agg #[.int .i64 0, .int .i64 0, .string ⟨#[]⟩, .int .i64 0, .int .i64 0, .slice none 0 0, .string ⟨#[]⟩, .int .i64 0, .slice none 0 0], .agg #[.int .i64 0, .int .i64 0, .string ⟨#[]⟩, .int .i64 0, .int .i64 0, .slice none 0 0, .string ⟨#[]⟩, .int .i64 0, .slice none 0 0], .int .i64 0]:Array Value).toList 8=some ([.nil, .agg [.lit (.int .i64 0), .agg [.lit (.int .i64 0), .lit (.string []), .lit (.int .i64 0), .lit (.int .i64 0), .nil], .lit (.string []), .lit (.int .i64 0), .nil], .agg [.lit (.int .i64 0), .agg [.lit (.int .i64 0), .lit (.string []), .lit (.int .i64 0), .lit (.int .i64 0), .nil], .lit (.string []), .lit (.int .i64 0), .nil], .lit (.int .i64 0)],[],places):=
 ⟨[],by kernel_rfl⟩
theorem eqtwo_lifted (os:Os)(started:os.Started)(H:Type)(enc:TypeId × Value->H)(F:Stop.Interp):
  ReturnsInHanded {} Tryz.checked os 5 .any ((Rows.OpenSpec.upto Rows.equivOfTwoMatchesSpecSpec).preRow enc Tryz.prog Tryz.f5 Rows.equivOfTwoMatchesSpecUptoRow.domain false Rows.equivOfTwoMatchesSpecUptoRow.laid) (((Rows.OpenSpec.upto Rows.equivOfTwoMatchesSpecSpec).at F).post enc Tryz.prog Tryz.f5 false true false false):=by
 obtain⟨places,hx⟩:=eqtwo_reads os enc;refine returnsInHanded_of_row (C:=Tryz.checked) (s:=Rows.OpenSpec.upto Rows.equivOfTwoMatchesSpecSpec) own_knob started qkr Tryz.func5
  (witness_row_at (enc:=enc) (C:=Tryz.checked) false (laidWorld os) #[.slice none 0 0, .agg #[.int .i64 0, .int .i64 0, .string ⟨#[]⟩, .int .i64 0, .int .i64 0, .slice none 0 0, .string ⟨#[]⟩, .int .i64 0, .slice none 0 0], .agg #[.int .i64 0, .int .i64 0, .string ⟨#[]⟩, .int .i64 0, .int .i64 0, .slice none 0 0, .string ⟨#[]⟩, .int .i64 0, .slice none 0 0], .int .i64 0] rfl qkr qkr qkr
   (OpenSpec.preRow_of_cond 8 hx qkr (fun k hk=>by cases hk;kernel_rfl) qkr (eqtwo_met os))) ?_
 intro W base args ds gs before hval hW _ hcond _ _ _ _;exact eqtwo_contract H enc W base args ds gs before hval hW (hcond _ U)
theorem eqtwo_said:Rows.EquivOfTwoMatchesSpecUptoSaid:=
 OpenClaim.holds_of_cond 5 Tryz.f5 U U U U U U U ⟨rfl,rfl,rfl,rfl,rfl⟩ rfl U U U U qkr Tryz.func5 qkr
  (of_decide_eq_true qkr) (by unfold Func.isWrapper;first|(rw[if_pos (by decide+kernel)];kernel_rfl)|(rw[if_neg (by decide+kernel)];exact⟨rfl,rfl⟩))
  (fun os started H enc _ F=>by rw[OpenClaim.pre_eq_preRow];exact eqtwo_lifted os started H enc F)
/-- the statement -/
theorem eqtwo_holds:Rows.EquivOfTwoMatchesSpecUptoSaid:=eqtwo_said
end Go.Proofs.YtkgfmjanajdibaaGreat
