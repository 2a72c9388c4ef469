/- DatasetSnapshots: for every input of bulk at most 2^20 the law returns true: what Get and Docs return for a settled time they return after each further entry, as long as the collection is not dropped (the card, tied to the program's text). -/
import Derived.Test.YtpdlghcgekojlaaGreatDoorQH5
import Derived.Test.YtpdlghcgekojlaaGreatDoorQH10
set_option linter.unusedSimpArgs false
set_option linter.unusedVariables false
namespace Go.Proofs.YtpdlghcgekojlaaGreatDoor.datasetSnapshots
open Go.ChangeShapes Go.WideShapes Go.ChangeAt Go.RowKit

theorem aiG:okT Tryz.prog [3,9,66,82,40,138,227,270,55,58,60,206,46,64,22,23]=true:=by kernel_rfl
theorem contract(H:Type)(enc:TypeId×Value→H)(W:World)(base:Nat)(args:Array Value)(ds gs:List (DataW H))(before:List MemPlace)
 (hval:∀(j:Nat) t v,Tryz.f5.params[j]?=some t→args[j]?=some v→Value.okWide Tryz.prog W .any base t v)
 (hW:DataW.Whole enc Tryz.prog Tryz.f5.params.toList Rows.datasetSnapshotsSpec.vars false W args.toList ds gs before) (_hL:laidMetH Tryz.prog Rows.datasetSnapshotsUptoRow.laid W) (hk:Rows.uptoSmall H (ds++gs)=true):
 Calls Tryz.prog 5 args W fun e W'=>∃v,e=.returned v∧Rows.datasetSnapshotsSpec.post enc Tryz.prog Tryz.f5 false true false false W args v W':=by
 have hW':=hW
 obtain⟨p,q,hA0,hV,rfl,hfz,hnd⟩:=hW
 have hA:DataW.TrodAll enc Tryz.prog W 0 (fun _=>true) true Tryz.f5.params.toList args.toList ds p:=hA0
 rw[Tryz.params5] at hA hval
 obtain⟨v0,vs0,d0,ds0,p0,q0,hargs,rfl,rfl,h0,r0⟩:=trodAll_cons hA
 obtain⟨v1,vs1,d1,ds1,p1,q1,rfl,rfl,rfl,h1,r1⟩:=trodAll_cons r0
 obtain⟨rfl,rfl,rfl⟩:=trodAll_nil r1
 obtain rfl:args=#[v0,v1]:=by cases args;simp_all
 obtain⟨rfl,rfl⟩:=trodVars_none hV
 clear hA0 hargs
 suffices walk:Calls Tryz.prog 5 #[v0,v1] W fun e W'=>e=.returned (.bool true)∧Ext W W' by
  refine walk.mono fun e W' ⟨he,hg⟩=>?_
  subst he
  exact⟨_,rfl,abj (by kernel_rfl) (by kernel_rfl) rfl rfl Tryz.underlying4 hW' rfl hg⟩
 have hOK:=ajc @hval
 clear hval
 have hT:Tabs W:=LQ _hL
 have hB:Rows.uptoBulkAll _≤1048576:=of_decide_eq_true hk
 simp only[List.append_nil,Rows.uptoBulkAll] at hB
 obtain⟨A0,L0,C0,rfl⟩:=Iw hOK 0 rfl rfl Tryz.underlying22
 obtain⟨x0,k0,w0,b0⟩:=Ws aiG h0 rfl (s:=.rows 66) (by kernel_rfl) (by kernel_rfl)
 obtain⟨r0,rfl,q0⟩:=WTf.fP (n:=82) (shs:=bD.sh) (by kernel_rfl) (by kernel_rfl) w0
 obtain⟨s0,rfl⟩:=fG (f:=bD.lf) (n:=bQ r0) (fun r _ h=>bD.ofW h) (Nat.le_refl _) q0
 simp only[Lf.bulk] at b0
 obtain⟨A1,L1,C1,rfl⟩:=Iw hOK 1 rfl rfl Tryz.underlying23
 obtain⟨x1,k1,w1,b1⟩:=Ws aiG h1 rfl (s:=.rows 82) (by kernel_rfl) (by kernel_rfl)
 obtain⟨r1,rfl,q1⟩:=WTf.fP (n:=8) (shs:=aO.sh) (by kernel_rfl) (by kernel_rfl) w1
 obtain⟨s1,rfl⟩:=fG (f:=aO.lf) (n:=bQ r1) (fun r _ h=>aO.ofW h) (Nat.le_refl _) q1
 simp only[Lf.bulk] at b1
 exact ajd (amE s0 s1 true (vU s0 s1 (by omega) (by omega) (LRp.fit _ _ k0) (LRp.fit _ _ k1))) hT (VRs.cons (VR.lf.2 k0) (VRs.one (VR.lf.2 k1)))

theorem laid_met(os:Os):laidMet Tryz.prog Rows.datasetSnapshotsUptoRow.laid ((laidWorld os).forCall (fun _ _=>0) ⟨#[],#[.slice none 0 0,.slice none 0 0],[]⟩).memory:=
 laidMet_of_run' 8 (by kernel_rfl) (by kernel_rfl)
theorem reads(os:Os){H:Type}(enc:TypeId×Value→H):∃places,DataW.whole enc Tryz.prog ((laidWorld os).forCall (fun _ _=>0) ⟨#[],#[.slice none 0 0,.slice none 0 0],[]⟩).memory Tryz.f5.params.toList Rows.datasetSnapshotsSpec.vars false #[.slice none 0 0,.slice none 0 0].toList 8=some ([.nil,.nil],[],places):=
 ⟨[],by kernel_rfl⟩

set_option maxRecDepth 100000 in
theorem lifted(os:Os)(started:os.Started)(H:Type)(enc:TypeId×Value→H)(F:Stop.Interp):
 ReturnsInHanded {} Tryz.checked os 5 .any ((Rows.OpenSpec.upto Rows.datasetSnapshotsSpec).preRow enc Tryz.prog Tryz.f5 Rows.datasetSnapshotsUptoRow.domain false Rows.datasetSnapshotsUptoRow.laid) (((Rows.OpenSpec.upto Rows.datasetSnapshotsSpec).at F).post enc Tryz.prog Tryz.f5 false true false false):=by
 obtain⟨places,hx⟩:=reads os enc
 refine returnsInHanded_of_row (C:=Tryz.checked) (s:=Rows.OpenSpec.upto Rows.datasetSnapshotsSpec) own started (by kernel_rfl) Tryz.func5
  (witness_row_at (enc:=enc) (C:=Tryz.checked) false (laidWorld os) #[.slice none 0 0, .slice none 0 0] rfl (by kernel_rfl) (by kernel_rfl) (by kernel_rfl)
   (OpenSpec.preRow_of_cond 8 hx (by kernel_rfl) (fun k hk=>by cases hk;kernel_rfl) (by kernel_rfl) (laid_met os))) ?_
 intro W base args ds gs before hval hW _ hcond _ hL _ _
 exact contract H enc W base args ds gs before hval hW hL (hcond _ rfl)

set_option maxHeartbeats 100000000 in
theorem ahH:joinedFacts Tryz.pinned.checked.prog 5 Tryz.f5 (Rows.OpenSpec.upto Rows.datasetSnapshotsSpec).bare Rows.datasetSnapshotsUptoRow=true:=by
 simp only[joinedFacts,Bool.and_eq_true]
 and_intros
 all_goals (as_aux_lemma=>kernel_rfl)

theorem said:Rows.DatasetSnapshotsUptoSaid:=
 OpenClaim.holds_of_cond 5 Tryz.f5 rfl rfl rfl rfl rfl rfl rfl ⟨rfl, rfl, rfl, rfl, rfl⟩ rfl rfl rfl rfl rfl (by kernel_rfl) Tryz.func5 ahH
  (of_decide_eq_true (by kernel_rfl)) (by unfold Func.isWrapper;first|(rw[if_pos (by decide +kernel)];kernel_rfl)|(rw[if_neg (by decide +kernel)];exact⟨rfl,rfl⟩))
  (fun os started H enc _ F=>by rw[OpenClaim.pre_eq_preRow];exact lifted os started H enc F)

theorem plain(f : FuncId)(fn : Func)(hf : Tryz.pinned.checked.prog.funcNamed "docstore/docstorelaw41.DatasetSnapshots" = some f)(hfn : Tryz.pinned.checked.prog.funcs[f]? = some fn) :
 false=Tryz.pinned.checked.prog.looks []∧∀(j:Nat) t,fn.params[j]?=some t→Tryz.pinned.checked.prog.wantsStandIn t=false:=by
 obtain rfl : f = 5 := Option.some.inj ((show Tryz.prog.funcNamed "docstore/docstorelaw41.DatasetSnapshots" = some 5 by kernel_rfl).symm.trans hf) |>.symm
 obtain rfl:fn=Tryz.f5:=(Option.some.inj (Tryz.func5.symm.trans hfn)).symm
 refine⟨by kernel_rfl,fun j t ht=>?_⟩
 have hall:(Tryz.f5.params.all fun t=>!Tryz.prog.wantsStandIn t)=true:=by kernel_rfl
 have h1:=Array.all_eq_true'.1 hall t (Array.mem_of_getElem? ht)
 have h2:Tryz.prog.wantsStandIn t=false:=by simpa using h1
 exact h2

theorem card:Rows.DatasetSnapshotsUptoCardSaid:=
 Claim7.holds_tied_plain_at .later [] _ _ _ _ said (fun _ h=>by cases h) (by kernel_rfl) (fun _ h=>by cases h) datasetSnapshotsUpto_row_tie rfl ⟨rfl,rfl⟩ (by kernel_rfl) rfl plain (by kernel_rfl)
end Go.Proofs.YtpdlghcgekojlaaGreatDoor.datasetSnapshots
