/- DatasetRefuses: for every input of bulk at most 2^20 the law returns true: an entry that is refused leaves every answer as it was (the card, tied to the program's text). -/
import Derived.Test.YtpdlghcgekojlaaGreatDoorQG5
import Derived.Test.YtpdlghcgekojlaaGreatDoorQG9
set_option linter.unusedSimpArgs false
set_option linter.unusedVariables false
namespace Go.Proofs.YtpdlghcgekojlaaGreatDoor.datasetRefuses
open Go.ChangeShapes Go.WideShapes Go.ChangeAt Go.RowKit

theorem ajj:okT Tryz.prog [3,9,66,82,40,138,227,270,55,58,60,206,46,64,22,23]=true:=by kernel_rfl
theorem contract(H:Type)(enc:TypeId×Value→H)(W:World)(base:Nat)(args:Array Value)(ds gs:List (DataW H))(before:List MemPlace)
 (hval:∀(j:Nat) t v,Tryz.f4.params[j]?=some t→args[j]?=some v→Value.okWide Tryz.prog W .any base t v)
 (hW:DataW.Whole enc Tryz.prog Tryz.f4.params.toList Rows.datasetRefusesSpec.vars false W args.toList ds gs before) (_hL:laidMetH Tryz.prog Rows.datasetRefusesUptoRow.laid W) (hk:Rows.uptoSmall H (ds++gs)=true):
 Calls Tryz.prog 4 args W fun e W'=>∃v,e=.returned v∧Rows.datasetRefusesSpec.post enc Tryz.prog Tryz.f4 false true false false W args v W':=by
 have hW':=hW
 obtain⟨p,q,hA0,hV,rfl,hfz,hnd⟩:=hW
 have hA:DataW.TrodAll enc Tryz.prog W 0 (fun _=>true) true Tryz.f4.params.toList args.toList ds p:=hA0
 rw[Tryz.params4] at hA hval
 obtain⟨v0,vs0,d0,ds0,p0,q0,hargs,rfl,rfl,h0,r0⟩:=trodAll_cons hA
 obtain⟨v1,vs1,d1,ds1,p1,q1,rfl,rfl,rfl,h1,r1⟩:=trodAll_cons r0
 obtain⟨rfl,rfl,rfl⟩:=trodAll_nil r1
 obtain rfl:args=#[v0,v1]:=by cases args;simp_all
 obtain⟨rfl,rfl⟩:=trodVars_none hV
 clear hA0 hargs
 suffices walk:Calls Tryz.prog 4 #[v0,v1] W fun e W'=>e=.returned (.bool true)∧Ext W W' by
  refine walk.mono fun e W' ⟨he,hg⟩=>?_
  subst he
  exact⟨_,rfl,abI (by kernel_rfl) (by kernel_rfl) rfl rfl Tryz.underlying4 hW' rfl hg⟩
 have hOK:=ajP @hval
 clear hval
 have hT:Tabs W:=ML _hL
 have hB:Rows.uptoBulkAll _≤1048576:=of_decide_eq_true hk
 simp only[List.append_nil,Rows.uptoBulkAll] at hB
 obtain⟨A0,L0,C0,rfl⟩:=Ik hOK 0 rfl rfl Tryz.underlying22
 obtain⟨x0,k0,w0,b0⟩:=Xc ajj h0 rfl (s:=.rows 66) (by kernel_rfl) (by kernel_rfl)
 obtain⟨r0,rfl,q0⟩:=WTf.fH (n:=82) (shs:=bI.sh) (by kernel_rfl) (by kernel_rfl) w0
 obtain⟨s0,rfl⟩:=fC (f:=bI.lf) (n:=bM r0) (fun r _ h=>bI.ofW h) (Nat.le_refl _) q0
 simp only[Lf.bulk] at b0
 obtain⟨A1,L1,C1,rfl⟩:=Ik hOK 1 rfl rfl Tryz.underlying23
 obtain⟨x1,k1,w1,b1⟩:=Xc ajj h1 rfl (s:=.rows 82) (by kernel_rfl) (by kernel_rfl)
 obtain⟨r1,rfl,q1⟩:=WTf.fH (n:=8) (shs:=aU.sh) (by kernel_rfl) (by kernel_rfl) w1
 obtain⟨s1,rfl⟩:=fC (f:=aU.lf) (n:=bM r1) (fun r _ h=>aU.ofW h) (Nat.le_refl _) q1
 simp only[Lf.bulk] at b1
 exact ajQ (ani s0 s1 true (yT s0 s1 (by omega) (by omega))) hT (VRs.cons (VR.lf.2 k0) (VRs.one (VR.lf.2 k1)))

theorem laid_met(os:Os):laidMet Tryz.prog Rows.datasetRefusesUptoRow.laid ((laidWorld os).forCall (fun _ _=>0) ⟨#[],#[.slice none 0 0,.slice none 0 0],[]⟩).memory:=
 laidMet_of_run' 8 (by kernel_rfl) (by kernel_rfl)
theorem reads(os:Os){H:Type}(enc:TypeId×Value→H):∃places,DataW.whole enc Tryz.prog ((laidWorld os).forCall (fun _ _=>0) ⟨#[],#[.slice none 0 0,.slice none 0 0],[]⟩).memory Tryz.f4.params.toList Rows.datasetRefusesSpec.vars false #[.slice none 0 0,.slice none 0 0].toList 8=some ([.nil,.nil],[],places):=
 ⟨[],by kernel_rfl⟩

set_option maxRecDepth 100000 in
theorem lifted(os:Os)(started:os.Started)(H:Type)(enc:TypeId×Value→H)(F:Stop.Interp):
 ReturnsInHanded {} Tryz.checked os 4 .any ((Rows.OpenSpec.upto Rows.datasetRefusesSpec).preRow enc Tryz.prog Tryz.f4 Rows.datasetRefusesUptoRow.domain false Rows.datasetRefusesUptoRow.laid) (((Rows.OpenSpec.upto Rows.datasetRefusesSpec).at F).post enc Tryz.prog Tryz.f4 false true false false):=by
 obtain⟨places,hx⟩:=reads os enc
 refine returnsInHanded_of_row (C:=Tryz.checked) (s:=Rows.OpenSpec.upto Rows.datasetRefusesSpec) own started (by kernel_rfl) Tryz.func4
  (witness_row_at (enc:=enc) (C:=Tryz.checked) false (laidWorld os) #[.slice none 0 0, .slice none 0 0] rfl (by kernel_rfl) (by kernel_rfl) (by kernel_rfl)
   (OpenSpec.preRow_of_cond 8 hx (by kernel_rfl) (fun k hk=>by cases hk;kernel_rfl) (by kernel_rfl) (laid_met os))) ?_
 intro W base args ds gs before hval hW _ hcond _ hL _ _
 exact contract H enc W base args ds gs before hval hW hL (hcond _ rfl)

set_option maxHeartbeats 100000000 in
theorem aiu:joinedFacts Tryz.pinned.checked.prog 4 Tryz.f4 (Rows.OpenSpec.upto Rows.datasetRefusesSpec).bare Rows.datasetRefusesUptoRow=true:=by
 simp only[joinedFacts,Bool.and_eq_true]
 and_intros
 all_goals (as_aux_lemma=>kernel_rfl)

theorem said:Rows.DatasetRefusesUptoSaid:=
 OpenClaim.holds_of_cond 4 Tryz.f4 rfl rfl rfl rfl rfl rfl rfl ⟨rfl, rfl, rfl, rfl, rfl⟩ rfl rfl rfl rfl rfl (by kernel_rfl) Tryz.func4 aiu
  (of_decide_eq_true (by kernel_rfl)) (by unfold Func.isWrapper;first|(rw[if_pos (by decide +kernel)];kernel_rfl)|(rw[if_neg (by decide +kernel)];exact⟨rfl,rfl⟩))
  (fun os started H enc _ F=>by rw[OpenClaim.pre_eq_preRow];exact lifted os started H enc F)

theorem plain(f : FuncId)(fn : Func)(hf : Tryz.pinned.checked.prog.funcNamed "docstore/docstorelaw41.DatasetRefuses" = some f)(hfn : Tryz.pinned.checked.prog.funcs[f]? = some fn) :
 false=Tryz.pinned.checked.prog.looks []∧∀(j:Nat) t,fn.params[j]?=some t→Tryz.pinned.checked.prog.wantsStandIn t=false:=by
 obtain rfl : f = 4 := Option.some.inj ((show Tryz.prog.funcNamed "docstore/docstorelaw41.DatasetRefuses" = some 4 by kernel_rfl).symm.trans hf) |>.symm
 obtain rfl:fn=Tryz.f4:=(Option.some.inj (Tryz.func4.symm.trans hfn)).symm
 refine⟨by kernel_rfl,fun j t ht=>?_⟩
 have hall:(Tryz.f4.params.all fun t=>!Tryz.prog.wantsStandIn t)=true:=by kernel_rfl
 have h1:=Array.all_eq_true'.1 hall t (Array.mem_of_getElem? ht)
 have h2:Tryz.prog.wantsStandIn t=false:=by simpa using h1
 exact h2

theorem card:Rows.DatasetRefusesUptoCardSaid:=
 Claim7.holds_tied_plain_at .later [] _ _ _ _ said (fun _ h=>by cases h) (by kernel_rfl) (fun _ h=>by cases h) datasetRefusesUpto_row_tie rfl ⟨rfl,rfl⟩ (by kernel_rfl) rfl plain (by kernel_rfl)
end Go.Proofs.YtpdlghcgekojlaaGreatDoor.datasetRefuses
