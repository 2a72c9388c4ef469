/- OplogNewer: for every input of bulk at most 2^20 the law returns true: Newer is a total preorder (the card, tied to the program's text). -/
import Derived.Test.YtflpefkohpjjpaaGreatDoorQN4
import Derived.Test.YtflpefkohpjjpaaGreatDoorQNLN
set_option linter.unusedSimpArgs false
set_option linter.unusedVariables false
namespace Go.Proofs.YtflpefkohpjjpaaGreatDoor.oplogNewer
open Go.ChangeShapes Go.WideShapes Go.ChangeAt Go.RowKit

theorem Wv{H:Type}{enc:TypeId×Value→H}{P:Program}{W:World}{r:Reach}{base:Nat}{t e:TypeId}(hu:P.underlying t=some (.array 2 e))(he:P.underlying e=some (.int .i64))(hs:P.cellsOf t=2)(hc:P.cellsOf e=1){v:Value}{d:DataW H}{ps:List MemPlace}(hv:Value.okWide P W r base t v)(h:DataW.Trod enc P W 0 (fun _=>true) true t v d ps):
 ∃a b,v=.agg #[.int .i64 a,.int .i64 b]∧(Lit.int .i64 a).wf=true∧(Lit.int .i64 b).wf=true:=by
 simp only[Value.okWide,hu] at hv
 obtain⟨cs,rfl,hn,_⟩:=hv
 rw[hs] at hn
 obtain⟨l⟩:=cs
 obtain⟨fuel,hf⟩:=h
 cases fuel with
 |zero=>simp[DataW.trod] at hf
 |succ m=>
  rw[DataW.trod_step] at hf
  unfold DataW.trodStep at hf
  simp only[hu,Value.cells] at hf
  rw[if_pos (by rw[hs];simpa using hn)] at hf
  simp only[Option.map_eq_some_iff] at hf
  obtain⟨ys,hy,_⟩:=hf
  rw[show List.range 2=[0,1] from rfl,List.mapM_cons] at hy
  simp only[bind,Option.bind_eq_some_iff,pure,Option.some.injEq] at hy
  obtain⟨y0,h0,ys2,hy2,_⟩:=hy
  rw[List.mapM_cons] at hy2
  simp only[bind,Option.bind_eq_some_iff,pure,Option.some.injEq] at hy2
  obtain⟨y1,h1,_⟩:=hy2
  obtain⟨a,ea,_,wa⟩:=DataW.trod_int he h0
  obtain⟨b,eb,_,wb⟩:=DataW.trod_int he h1
  refine⟨a,b,?_,wa,wb⟩
  rw[hc] at ea eb
  match l,hn,ea,eb with
  |[x,y],_,ea,eb=>
   have ea:[x]=[Value.int .i64 a]:=ea
   have eb:[y]=[Value.int .i64 b]:=eb
   injection ea with ea
   injection eb with eb
   rw[ea,eb]
theorem Y9{H:Type}{enc:TypeId×Value→H}{P:Program}{W:World}{base:Nat}{ps:Array TypeId}{vs:Array Value}(hOK:OkA P W base ps vs)(j:Nat){t e:TypeId}{v:Value}(h1:ps[j]?=some t)(h2:vs[j]?=some v)(hu:P.underlying t=some (.array 2 e))(he:P.underlying e=some (.int .i64))(hs:P.cellsOf t=2)(hc:P.cellsOf e=1){d:DataW H}{qs:List MemPlace}(h:DataW.Trod enc P W 0 (fun _=>true) true t v d qs):
 ∃a b,v=.agg #[.int .i64 a,.int .i64 b]∧(Lit.int .i64 a).wf=true∧(Lit.int .i64 b).wf=true:=Wv hu he hs hc (hOK j t v h1 h2).ok h
theorem Cm{W:World}{a b:Int}(ha:(Lit.int .i64 a).wf=true)(hb:(Lit.int .i64 b).wf=true):bI (I0 W) (gK.lf1 ⟨a,b⟩) [.int .i64 a,.int .i64 b]:=
 ⟨_,_,rfl,by unfold LRp;exact⟨rfl,ha⟩,_,_,rfl,by unfold LRp;exact⟨rfl,hb⟩,rfl⟩
theorem contract(H:Type)(enc:TypeId×Value→H)(W:World)(base:Nat)(args:Array Value)(ds gs:List (DataW H))(before:List MemPlace)
 (hval:∀(j:Nat) t v,Tryz.f8.params[j]?=some t→args[j]?=some v→Value.okWide Tryz.prog W .any base t v)
 (hW:DataW.Whole enc Tryz.prog Tryz.f8.params.toList Rows.oplogNewerSpec.vars false W args.toList ds gs before) (_hL:laidMetH Tryz.prog Rows.oplogNewerUptoRow.laid W) (hk:Rows.uptoSmall H (ds++gs)=true):
 Calls Tryz.prog 8 args W fun e W'=>∃v,e=.returned v∧Rows.oplogNewerSpec.post enc Tryz.prog Tryz.f8 false true false false W args v W':=by
 have hW':=hW
 obtain⟨p,q,hA0,hV,rfl,hfz,hnd⟩:=hW
 have hA:DataW.TrodAll enc Tryz.prog W 0 (fun _=>true) true Tryz.f8.params.toList args.toList ds p:=hA0
 rw[Tryz.params8] at hA hval
 obtain⟨v0,vs0,d0,ds0,p0,q0,hargs,rfl,rfl,h0,r0⟩:=trodAll_cons hA
 obtain⟨v1,vs1,d1,ds1,p1,q1,rfl,rfl,rfl,h1,r1⟩:=trodAll_cons r0
 obtain⟨v2,vs2,d2,ds2,p2,q2,rfl,rfl,rfl,h2,r2⟩:=trodAll_cons r1
 obtain⟨rfl,rfl,rfl⟩:=trodAll_nil r2
 obtain rfl:args=#[v0,v1,v2]:=by cases args;simp_all
 obtain⟨rfl,rfl⟩:=trodVars_none hV
 clear hA0 hargs
 suffices walk:Calls Tryz.prog 8 #[v0,v1,v2] W fun e W'=>e=.returned (.bool true)∧Ext W W' by
  refine walk.mono fun e W' ⟨he,hg⟩=>?_
  subst he
  exact⟨_,rfl,Jq (by kernel_rfl) (by kernel_rfl) rfl rfl Tryz.underlying4 hW' rfl hg⟩
 have hOK:=Ut @hval
 clear hval
 have hT:Tabs W:=wF _hL
 have hB:Rows.uptoBulkAll _≤1048576:=of_decide_eq_true hk
 simp only[List.append_nil,Rows.uptoBulkAll] at hB
 obtain⟨a0,c0,rfl,w0,u0⟩:=Y9 hOK 0 rfl rfl Tryz.underlying62 Tryz.underlying3 (by kernel_rfl) (by kernel_rfl) h0
 obtain⟨a1,c1,rfl,w1,u1⟩:=Y9 hOK 1 rfl rfl Tryz.underlying62 Tryz.underlying3 (by kernel_rfl) (by kernel_rfl) h1
 obtain⟨a2,c2,rfl,w2,u2⟩:=Y9 hOK 2 rfl rfl Tryz.underlying62 Tryz.underlying3 (by kernel_rfl) (by kernel_rfl) h2
 exact Uu (Yf ⟨a0,c0⟩ ⟨a1,c1⟩ ⟨a2,c2⟩ true (tX _ _ _)) hT (VRs.cons (VR.dat.2 ⟨_,rfl,Cm w0 u0⟩) (VRs.cons (VR.dat.2 ⟨_,rfl,Cm w1 u1⟩) (VRs.one (VR.dat.2 ⟨_,rfl,Cm w2 u2⟩))))

theorem laid_met(os:Os):laidMet Tryz.prog Rows.oplogNewerUptoRow.laid ((laidWorld os).forCall (fun _ _=>0) ⟨#[],#[.agg #[.int .i64 0,.int .i64 0],.agg #[.int .i64 0,.int .i64 0],.agg #[.int .i64 0,.int .i64 0]],[]⟩).memory:=
 laidMet_of_run' 8 (by kernel_rfl) (by kernel_rfl)
theorem reads(os:Os){H:Type}(enc:TypeId×Value→H):∃places,DataW.whole enc Tryz.prog ((laidWorld os).forCall (fun _ _=>0) ⟨#[],#[.agg #[.int .i64 0,.int .i64 0],.agg #[.int .i64 0,.int .i64 0],.agg #[.int .i64 0,.int .i64 0]],[]⟩).memory Tryz.f8.params.toList Rows.oplogNewerSpec.vars false #[.agg #[.int .i64 0,.int .i64 0],.agg #[.int .i64 0,.int .i64 0],.agg #[.int .i64 0,.int .i64 0]].toList 8=some ([.agg [.lit (.int .i64 0),.lit (.int .i64 0)],.agg [.lit (.int .i64 0),.lit (.int .i64 0)],.agg [.lit (.int .i64 0),.lit (.int .i64 0)]],[],places):=
 ⟨[],by kernel_rfl⟩

set_option maxRecDepth 100000 in
theorem lifted(os:Os)(started:os.Started)(H:Type)(enc:TypeId×Value→H)(F:Stop.Interp):
 ReturnsInHanded {} Tryz.checked os 8 .any ((Rows.OpenSpec.upto Rows.oplogNewerSpec).preRow enc Tryz.prog Tryz.f8 Rows.oplogNewerUptoRow.domain false Rows.oplogNewerUptoRow.laid) (((Rows.OpenSpec.upto Rows.oplogNewerSpec).at F).post enc Tryz.prog Tryz.f8 false true false false):=by
 obtain⟨places,hx⟩:=reads os enc
 refine returnsInHanded_of_row (C:=Tryz.checked) (s:=Rows.OpenSpec.upto Rows.oplogNewerSpec) own started (by kernel_rfl) Tryz.func8
  (witness_row_at (enc:=enc) (C:=Tryz.checked) false (laidWorld os) #[.agg #[.int .i64 0, .int .i64 0], .agg #[.int .i64 0, .int .i64 0], .agg #[.int .i64 0, .int .i64 0]] rfl (by kernel_rfl) (by kernel_rfl) (by kernel_rfl)
   (OpenSpec.preRow_of_cond 8 hx (by kernel_rfl) (fun k hk=>by cases hk;kernel_rfl) (by kernel_rfl) (laid_met os))) ?_
 intro W base args ds gs before hval hW _ hcond _ hL _ _
 exact contract H enc W base args ds gs before hval hW hL (hcond _ rfl)

set_option maxHeartbeats 100000000 in
theorem RG:joinedFacts Tryz.pinned.checked.prog 8 Tryz.f8 (Rows.OpenSpec.upto Rows.oplogNewerSpec).bare Rows.oplogNewerUptoRow=true:=by
 simp only[joinedFacts,Bool.and_eq_true]
 and_intros
 all_goals (as_aux_lemma=>kernel_rfl)

theorem said:Rows.OplogNewerUptoSaid:=
 OpenClaim.holds_of_cond 8 Tryz.f8 rfl rfl rfl rfl rfl rfl rfl ⟨rfl, rfl, rfl, rfl, rfl⟩ rfl rfl rfl rfl rfl (by kernel_rfl) Tryz.func8 RG
  (of_decide_eq_true (by kernel_rfl)) (by unfold Func.isWrapper;first|(rw[if_pos (by decide +kernel)];kernel_rfl)|(rw[if_neg (by decide +kernel)];exact⟨rfl,rfl⟩))
  (fun os started H enc _ F=>by rw[OpenClaim.pre_eq_preRow];exact lifted os started H enc F)

theorem plain(f : FuncId)(fn : Func)(hf : Tryz.pinned.checked.prog.funcNamed "docstore/docstorelaw40.OplogNewer" = some f)(hfn : Tryz.pinned.checked.prog.funcs[f]? = some fn) :
 true=Tryz.pinned.checked.prog.looks []∧∀(j:Nat) t,fn.params[j]?=some t→Tryz.pinned.checked.prog.wantsStandIn t=false:=by
 obtain rfl : f = 8 := Option.some.inj ((show Tryz.prog.funcNamed "docstore/docstorelaw40.OplogNewer" = some 8 by kernel_rfl).symm.trans hf) |>.symm
 obtain rfl:fn=Tryz.f8:=(Option.some.inj (Tryz.func8.symm.trans hfn)).symm
 refine⟨by kernel_rfl,fun j t ht=>?_⟩
 have hall:(Tryz.f8.params.all fun t=>!Tryz.prog.wantsStandIn t)=true:=by kernel_rfl
 have h1:=Array.all_eq_true'.1 hall t (Array.mem_of_getElem? ht)
 have h2:Tryz.prog.wantsStandIn t=false:=by simpa using h1
 exact h2

theorem card:Rows.OplogNewerUptoCardSaid:=
 Claim7.holds_tied_plain_at .later [] _ _ _ _ said (fun _ h=>by cases h) (by kernel_rfl) (fun _ h=>by cases h) oplogNewerUpto_row_tie rfl ⟨rfl,rfl⟩ (by kernel_rfl) rfl plain (by kernel_rfl)
end Go.Proofs.YtflpefkohpjjpaaGreatDoor.oplogNewer
