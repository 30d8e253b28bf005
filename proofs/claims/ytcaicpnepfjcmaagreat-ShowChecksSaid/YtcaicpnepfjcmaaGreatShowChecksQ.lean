/- ShowChecks: for every house, every sheet and all given times the law returns true and leaves its arguments alone. Conditions: those of the given row. -/
import Derived.Test.YtcaicpnepfjcmaaGreatMu
set_option linter.all false
namespace Go.Proofs.YtcaicpnepfjcmaaGreat.showChecks
open Go.ChangeShapes Go.WideShapes Go.ChangeAt Go.RowKit

set_option maxRecDepth 100000 in
theorem contract(H:Type)(enc:TypeId×Value->H)(W:World)(base:Nat)(args:Array Value)(ds gs:List (DataW H))(before:List MemPlace)
    (hval:∀(j:Nat) t v,Tryz.f3.params[j]?=some t->args[j]?=some v->Value.okWide Tryz.prog W .any base t v)
    (hW:DataW.Whole enc Tryz.prog Tryz.f3.params.toList Rows.showChecksSpec.vars false W args.toList ds gs before) (hz:(DataW.weightsEach Tryz.prog (Tryz.f3.params.toList++(OpenSpec.ofChange Rows.showChecksSpec).bare.plain.varTypes Tryz.prog) (ds++gs)).all (· <=reachBytes)=true):
    Calls Tryz.prog 3 args W fun e W'=>∃v,e=.returned v/\Rows.showChecksSpec.post enc Tryz.prog Tryz.f3 false true false false W args v W':=by
  have hW':=hW
  obtain⟨p,q,hA0,hV,rfl,hfz,hnd⟩:=hW
  have hA:DataW.TrodAll enc Tryz.prog W 0 (fun _=>true) true Tryz.f3.params.toList args.toList ds p:=hA0
  rw[Tryz.params3]at hA hval hz
  obtain⟨v0,vs0,d0,ds0,p0,q0,hargs,rfl,rfl,h0,r0⟩:=trodAll_cons hA
  obtain⟨v1,vs1,d1,ds1,p1,q1,rfl,rfl,rfl,h1,r1⟩:=trodAll_cons r0
  obtain⟨v2,vs2,d2,ds2,p2,q2,rfl,rfl,rfl,h2,r2⟩:=trodAll_cons r1
  obtain⟨rfl,rfl,rfl⟩:=trodAll_nil r2
  obtain rfl:args= #[v0,v1,v2]:=by cases args;simp_all
  obtain⟨rfl,rfl⟩:=trodVars_none hV
  simp only[List.toList_toArray,a3g,a4h,DataW.weightsEach,a2k,a0w]at hz
  obtain⟨h,hf,g0⟩:=A7o (hval 0 25 v0 rfl rfl) h0 hz.1
  obtain⟨c,hc,g1⟩:=A7q (hval 1 29 v1 rfl rfl) h1 hz.2.1
  obtain⟨l,hl,_,g2⟩:=A7p (hval 2 30 v2 rfl rfl) h2 hz.2.2.1
  refine((Xm h c hf hc l (by omega)).run noL W [v0,v1,v2] (Glob.none (by kernel_rfl) (by kernel_rfl) (by kernel_rfl) (by kernel_rfl)) (fun k hk=>hk.elim) rfl (fun i x v hx hv=>?_)).mono ?_
  ·match i,hx,hv with
   |0,hx,hv=>simp at hx hv;subst hx hv;exact g0
   |1,hx,hv=>simp at hx hv;subst hx hv;exact g1
   |2,hx,hv=>simp at hx hv;subst hx hv;exact g2
  rintro e W' ⟨v,rfl,hv,bel⟩
  obtain rfl:=hv.val_eq
  exact⟨_,rfl,_,_,_,[],_,[],hW',trodAll_mk1 (shut_bool Tryz.underlying4 _),(trodAll_cons_mk (Below.trod Sh (by kernel_rfl) (of_decide_eq_true (by kernel_rfl)) h0 bel (Nm h0)) (trodAll_cons_mk (Below.trod Sh (by kernel_rfl) (of_decide_eq_true (by kernel_rfl)) h1 bel (Nm h1)) (trodAll_cons_mk (Below.trod Sh (by kernel_rfl) (of_decide_eq_true (by kernel_rfl)) h2 bel (Nm h2)) trodAll_mk0))),rfl,bel.frame _,fun h=>by cases h⟩
theorem laid_met(os:Os):laidMet Tryz.prog Rows.showChecksRow.laid ((Pb os).forCall (fun _ _=>0) ⟨#[], #[.agg #[.string ⟨#[]⟩,.int .i64 0,.slice none 0 0,.slice none 0 0],.agg #[.slice none 0 0,.slice none 0 0],.slice none 0 0],[]⟩).memory:=
  laidMet_of_run' 8 (by kernel_rfl) (by kernel_rfl)
theorem reads(os:Os){H:Type}(enc:TypeId×Value->H):∃places,DataW.whole enc Tryz.prog ((Pb os).forCall (fun _ _=>0) ⟨#[], #[.agg #[.string ⟨#[]⟩,.int .i64 0,.slice none 0 0,.slice none 0 0],.agg #[.slice none 0 0,.slice none 0 0],.slice none 0 0],[]⟩).memory Tryz.f3.params.toList Rows.showChecksSpec.vars false (#[.agg #[.string ⟨#[]⟩,.int .i64 0,.slice none 0 0,.slice none 0 0],.agg #[.slice none 0 0,.slice none 0 0],.slice none 0 0]:Array Value).toList 8=some ([.agg [.lit (.string []),.lit (.int .i64 0),.nil,.nil],.agg [.nil,.nil],.nil],[],places):=
  ⟨[],by kernel_rfl⟩
set_option maxRecDepth 100000 in
theorem lifted(os:Os)(started:os.Started)(H:Type)(enc:TypeId×Value->H)(F:Stop.Interp):
    ReturnsInHanded {} Tryz.checked os 3 .any ((OpenSpec.ofChange Rows.showChecksSpec).preRow enc Tryz.prog Tryz.f3 Rows.showChecksRow.domain false Rows.showChecksRow.laid) (((OpenSpec.ofChange Rows.showChecksSpec).at F).post enc Tryz.prog Tryz.f3 false true false false):=by
  obtain⟨places,hx⟩:=reads os enc
  refine returnsInHanded_of_row (C:=Tryz.checked) (s:=OpenSpec.ofChange Rows.showChecksSpec) own started (by kernel_rfl) b1l
    (witness_row_at (enc:=enc) (C:=Tryz.checked) false (Pb os) #[.agg #[.string ⟨#[]⟩,.int .i64 0,.slice none 0 0,.slice none 0 0],.agg #[.slice none 0 0,.slice none 0 0],.slice none 0 0] rfl (by kernel_rfl) (by kernel_rfl) (by kernel_rfl)
      (OpenSpec.preRow_of_cond 8 hx (by kernel_rfl) (fun k hk=>by cases hk) (by kernel_rfl) (laid_met os))) ?_
  intro W base args ds gs before hval hW _ _ hz _ _ _
  exact contract H enc W base args ds gs before hval hW hz
theorem cl1:(Rows.showChecksRow.inPlace==Tryz.prog.inPlace 3)=true:=by kernel_rfl
theorem cl2:(Rows.showChecksRow.unfollowed==Tryz.prog.unfollowed 3)=true:=by kernel_rfl
theorem cl3:(Rows.showChecksRow.recurses==Tryz.prog.recurses 3)=true:=by kernel_rfl
theorem cl4:(Rows.showChecksRow.named==Tryz.prog.varsNamed 3)=true:=by kernel_rfl
theorem cl5:mapsRowed Tryz.prog=true:=by kernel_rfl
theorem cl6:(Rows.showChecksRow.plainKeys==Tryz.prog.plainKeys)=true:=by kernel_rfl
theorem closed:joinedFacts Tryz.prog 3 Tryz.f3 (OpenSpec.ofChange Rows.showChecksSpec).bare Rows.showChecksRow=true:=by
  unfold joinedFacts
  rw[cl1,cl2,cl3,cl4,cl5,cl6,Sh]
  kernel_rfl
/-- THE LAW. -/
theorem said:Rows.ShowChecksSaid:=
  OpenClaim.holds_of_cond 3 Tryz.f3 rfl rfl rfl rfl rfl rfl rfl ⟨rfl,rfl,rfl,rfl,rfl⟩ rfl rfl rfl rfl rfl (by kernel_rfl) b1l closed
    (of_decide_eq_true (by kernel_rfl)) (by unfold Func.isWrapper;first|(rw[if_pos (by decide+kernel)];kernel_rfl)|(rw[if_neg (by decide+kernel)];exact⟨rfl,rfl⟩))
    (fun os started H enc _ F=>by rw[OpenClaim.pre_eq_preRow];exact lifted os started H enc F)
#print axioms said
end Go.Proofs.YtcaicpnepfjcmaaGreat.showChecks
