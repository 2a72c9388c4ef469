/- batch: the contract. -/
import Derived.Test.YtpdlghcgekojlaaGreatDoorQI7
import Derived.Test.YtpdlghcgekojlaaGreatDoorQI5
import Derived.Test.YtpdlghcgekojlaaGreatDoorQIName
import Derived.Test.YtpdlghcgekojlaaGreatDoorQI4
set_option linter.unusedSimpArgs false
set_option linter.unusedVariables false
namespace Go.Proofs.YtpdlghcgekojlaaGreatDoor
open Go.RowKit
theorem JF(k0:Nat)(Hl:List Slot):∀(H:List Slot) (k:Nat),oldH [] k0 Hl k H=H
 |[],_=>rfl
 |s::r,k=>by
  unfold oldH
  rw[JF k0 Hl r (k+1)]
  rfl
theorem adE{c:Ctx}(hc:c.Ok){e:Env}{C:Nat→List Value}{H:List Slot}{w:World}(hM:Mem c e C H w):∃e' C',Mem c e' C' (H++[.res (qJ [] (.slice none 0 0)) none]) w∧e.le e':=by
 obtain⟨el,Cl,elI,hML,hren,hback⟩:=hM.via hc (bs:=[]) (Hl:=[.res (qJ [] (.slice none 0 0)) none]) rfl rfl rfl rfl
 have hl:kY [] H=[]:=rfl
 rw[hl] at hML hback
 have hno:∀b,¬el.ok b:=fun b hb=>by have:=hML.bound b hb;simp at this
 obtain⟨e',C',hMem,hK,_,_⟩:=hback { ok:=fun b=>b=0,m:=el.m,sv:=el.sv,I:=el.I,im:=el.im,fp:=fun _ _=>False } Cl w
  ⟨⟨fun b hb=>(hno b hb).elim,fun b hb=>(hno b hb).elim,fun b hb=>(hno b hb).elim,Le.refl _,fun b hb=>(hno b hb).elim⟩,Only.refl _ _,fun b o v m1 m2=>(by have m2:el.I b o=none:=m2;rw[m2] at m1;cases m1),fun x ⟨b,s,hs,hx⟩=>(by obtain⟨rfl,rfl⟩:=jH hs;exact hx.elim)⟩
  ⟨fun b s hs=>(by obtain⟨rfl,rfl⟩:=jH hs;rfl),fun b s hs=>(by obtain⟨rfl,rfl⟩:=jH hs;exact⟨undef,⟨World.ownsRow_nil w 0 1 1,fun x=>⟨False.elim,fun h=>by cases h⟩⟩,fun _ h=>by cases h⟩),fun b hb=>(by have hb:b=0:=hb;subst hb;exact Nat.zero_lt_one),fun b b' s s' g h1 h2 k1 k2=>(by rw[(jH h1).1,(jH h2).1]),fun b s g hs hg=>(by obtain⟨rfl,rfl⟩:=jH hs;exact hg.elim),hML.inv⟩
 refine⟨e',C',?_,hK.le⟩
 unfold newH at hMem
 rw[JF] at hMem
 exact hMem
set_option maxRecDepth 20000 in
theorem adF{nt:Nat}{e:Env}{w:World}{a:Int}{q:List ak}{d:aZ}{x:List (ByteArray×ah)}{z:List (ByteArray×au)}{hk:∀b,e.ok b→b<4}{e':Env}{C':Nat→List Value}{q':List ak}{d':aZ}{R:List Slot}{w':World}
 (hM:Mem (mkC Tryz.prog GI TTc nt (k0:=4) ⟨w,e.I,blks e (H4 a q d x z),e,hk,[]⟩) e' C' (H4 a q' d' x z++R) w'):∃e2,GrH e (H4 a q d x z) e2 (H4 a q' d' x z) w w'∧mY e2 C' (H4 a q' d' x z) w':=by
 have hc:(mkC Tryz.prog GI TTc nt (k0:=4) ⟨w,e.I,blks e (H4 a q d x z),e,hk,[]⟩).Ok:=(jD.full nt _).toOk
 have hR:Rep (mkC Tryz.prog GI TTc nt (k0:=4) ⟨w,e.I,blks e (H4 a q d x z),e,hk,[]⟩) e' C' ⟨[],H4 a q' d' x z++R⟩ ⟨(List.replicate nt undef).toArray,[]⟩ w':=⟨fun t v h=>(by cases h),by simp[mkC],rfl,hM⟩
 have h2:=sF hc (keys:=[]) (k:=4) (st':=⟨[],H4 a q' d' x z⟩) rfl hR
 exact⟨_,amb h2.mem⟩
noncomputable def ag6(l:List ay)(t:Int)(a:Int)(q:List ak)(d:aZ)(x:List (ByteArray×ah))(z:List (ByteArray×au)):Option (Int×List ak×aZ):=
 bif Nat.ble ((l.length+1)*8) 140737488355328 then yF a x z t l [] q d else none
set_option maxRecDepth 100000 in
set_option maxHeartbeats 4000000 in
theorem ag7(l:List ay)(t:Int)(a:Int)(q:List ak)(d:aZ)(x:List (ByteArray×ah))(z:List (ByteArray×au))(r:Int×List ak×aZ)(h:ag6 l t a q d x z=some r):
 FnH Tryz.prog GI 71 [.ptr 0 0,.lf (.rows 78 (l.map ay.lf)),.lf (.int .i64 t)] [.box 113 (.agg [.lf (.int .i64 a),.lf (.rows 25 (q.map ak.lf)),.mp 1,.mp 2,.mp 3]),.res (bH d none) none,.res (bP x) none,.res (bT z) none] (.lf (.int .i64 r.1))
  [.box 113 (.agg [.lf (.int .i64 a),.lf (.rows 25 (r.2.1.map ak.lf)),.mp 1,.mp 2,.mp 3]),.res (bH r.2.2 none) none,.res (bP x) none,.res (bT z) none]:=by
 obtain⟨err,q',d'⟩:=r
 change FnH Tryz.prog GI 71 _ (H4 a q d x z) _ (H4 a q' d' x z)
 unfold ag6 at h
 cases hg:Nat.ble ((l.length+1)*8) 140737488355328 with
 |false=>grind
 |true=>
 rw[hg] at h
 have hbig:=Nat.le_of_ble_eq_true hg
 have hb:yF a x z t l [] q d=some (err,q',d'):=h
 refine⟨by kernel_rfl,fun e C w ws hG hM hvs=>?_⟩
 obtain⟨u,v,y,rfl,hu,hv,hy⟩:=LY hvs
 obtain⟨rfl,ht⟩:=hy.int
 obtain⟨ad,cp,hve,hc1,hc2⟩:=LRp.slice (VR.lf.1 hv)
 rw[List.length_map] at hve hc1
 have hll:l.length≤maxLen:=Nat.le_trans hc1 hc2
 have hk:∀b,e.ok b→b<4:=fun b hb=>hM.bound b hb
 have hM1:=aii (nt:=Tryz.f71.ntmps) (k0:=4) (hk:=hk) hM hG
 have hc:(mkC Tryz.prog GI TTc Tryz.f71.ntmps (k0:=4) ⟨w,e.I,blks e (H4 a q d x z),e,hk,[]⟩).Ok:=(jD.full _ _).toOk
 obtain⟨e1,C1,hM2,hle⟩:=adE hc hM1
 subst hve
 have HU:=Go.Lib.hid hu
 have HV:=Go.Lib.hid hv
 have HM2:=Go.Lib.hid hM2
 have HB:=Go.Lib.hid hb
 have HC:=Go.Lib.hid hc
 have HT:=Go.Lib.hid ht
 have HL:=Go.Lib.hid hle
 have HLL:=Go.Lib.hid hll
 have HBG:=Go.Lib.hid hbig
 clear hu hv hM2 hb hc ht hle hM hM1 hG hvs h hg hc1 hc2 hbig hll
 go_enter Tryz.func71,Tryz.ntmps71
 go_wp2
 refine LoopIn.loop ?_
 refine Zb HC.out rfl rfl a x z t HT.out l HLL.out HBG.out err q' d' _ ?_ ?_ l.length 0 (by omega) [] [] [] (.slice none 0 0) q d e1 C1 w _ rfl rfl ⟨u,rfl,VR.mono HL.out _ _ HU.out⟩ rfl rfl ⟨_,rfl,VR.mono HL.out _ _ HV.out⟩ rfl rfl HM2.out rfl rfl (fun m u hm=>by simp at hm) HB.out
 ·intro h0 ac' w' e' C' R' hsz hdf hM'
  subst h0
  obtain⟨e2,g1,g2⟩:=adF hM'
  have HG1:=Go.Lib.hid g1
  have HG2:=Go.Lib.hid g2
  clear hM' g1 g2
  obtain⟨⟨tm⟩,df⟩:=ac'
  obtain⟨x0,x1,x2,x3,x4,x5,x6,x7,x8,x9,x10,x11,x12,x13,x14,x15,x16,x17,x18,x19,x20,x21,x22,x23,x24,x25,x26,x27,x28,x29,x30,x31,x32,x33,x34,x35,x36,x37,x38,x39,x40,x41,x42,x43,x44,x45,rfl⟩:=vk tm (by simpa using hsz)
  obtain rfl:df=[]:=hdf
  simp only[Exit.inBlock,Exit.then]
  go_wp2
  go_ret
  exact⟨e2,C',_,rfl,HG1.out,HG2.out,VR.lf.2 (by unfold LRp;exact⟨rfl,rfl⟩)⟩
 intro ac' w' e' C' R' hwf hdf h6 hM'
 obtain⟨e2,g1,g2⟩:=adF hM'
 simp only[Exit.inBlock,Exit.then]
 refine bodyPost_ret (results_tmp rfl _ _ _) hdf ?_
 have h6:ac'.tmps.getD 6 undef=.int .i64 err:=by simp[Array.getD_eq_getD_getElem?,h6]
 rw[h6]
 exact⟨e2,C',_,rfl,g1,g2,VR.lf.2 (by unfold LRp;exact⟨rfl,hwf⟩)⟩
end Go.Proofs.YtpdlghcgekojlaaGreatDoor
namespace Go.Proofs.YtpdlghcgekojlaaGreatDoor
open Go.RowKit
set_option maxRecDepth 20000
set_option maxHeartbeats 4000000
noncomputable section
noncomputable def Ac(p_v:aj):(Int×(List aj))→Mo ((Int×(List aj))⊕((List aj))):=fun(v0,l0)=>
 .nu p_v.aX aj.lf<|
 .iB (decide ((v0:Int)<(p_v.aX.length:Int))) (.gx aj.aY p_v.aX v0 fun x0 _=>
 .say [.rows ((l0++[x0]).map aj.lf)] (ok1 (ap_ aj.aY l0 x0))<|
 .grd ((l0.length+[x0].length)*80≤140737488355328) fun h0=>
 .say [] (ok1 (cp_ aj.lf h0))<|
 .ret ⟨[],[1,3,4],[(3,1)],2⟩ (.inl (IntKind.wrap .i64 (v0+1),l0++[x0])))<|
 .rt [1,3] 2 (.inr (l0))
noncomputable def U2(p_v:aj)(v0:Int)(l0:List aj):Option (((List aj))):=dA (fun v_=>(Ac p_v v_).den) FU (v0,l0)
noncomputable def QG(p_v:aj):Mo (((List aj))):=
 .iB (p_v.aB==6) (.say [] (ok1 (by simp[aj.aY]:(([]:List aj).map aj.lf)=[]))<|
 .l1m [.lQ 1 (([]:List aj).map aj.lf)] Tryz.f166 0 [1,1,0,1,0,1,0] 0 (.exit 0) (fun(v0,l0)=>⟨[(1,.ptr 0 0),(3,.own 1),(4,.i_ v0)],[bI p_v,.row 40 5 (l0.map aj.lf)]⟩) (fun r_=>⟨[(1,.ptr 0 0),(3,.own 1)],[bI p_v,.row 40 5 (r_.map aj.lf)]⟩) (U2 p_v 0 ([]:List aj)) (Ac p_v) (0,([]:List aj)) fun r0=>
 .rt [1,3] 2 (r0))<|
 .say [] (ok1 (by simp[aj.aY]:(([]:List aj).map aj.lf)=[]))<|
 .ret ⟨[.lQ 1 (([]:List aj).map aj.lf)],[1,3],[],2⟩ (([]:List aj))
noncomputable def wL(p_v:aj):(Int×(List aj))→Mo ((Int×(List aj))⊕((List aj))):=fun(v0,l0)=>
 .nu p_v.bC aF.lf<|
 .iB (decide ((v0:Int)<(p_v.bC.length:Int))) (.gx aF.aY p_v.bC v0 fun x0 _=>
 .say [.rows ((l0++[x0.fValue]).map aj.lf)] (ok1 (ap_ aj.aY l0 x0.fValue))<|
 .grd ((l0.length+[x0.fValue].length)*80≤140737488355328) fun h0=>
 .say [] (ok1 (cp_ aj.lf h0))<|
 .ret ⟨[],[1,3,5],[(3,1)],2⟩ (.inl (IntKind.wrap .i64 (v0+1),l0++[x0.fValue])))<|
 .ret ⟨[.kill 0],[3],[],2⟩ (.inr (l0))
noncomputable def Nl(p_v:aj)(v0:Int)(l0:List aj):Option (((List aj))):=dA (fun v_=>(wL p_v v_).den) FU (v0,l0)
noncomputable def JG(p_v:aj)(r0:((List aj))):Mo (((List aj))):=
 .iB (p_v.aB==5) (.l1m [] Tryz.f166 0 [1,1,1,0,1,0,1,0] 0 (.exit 2) (fun(v0,l0)=>⟨[(1,.ptr 0 0),(3,.own 1),(5,.i_ v0)],[bI p_v,.row 40 5 (l0.map aj.lf)]⟩) (fun r_=>⟨[(3,.own 1)],[.dead,.row 40 5 (r_.map aj.lf)]⟩) (Nl p_v 0 r0) (wL p_v) (0,r0) fun r1=>
 .rt [3] 2 (r1))<|
 .ret ⟨[.kill 0],[3],[],2⟩ (r0)
noncomputable def aij(p_v:aj):Mo (List aj):=
 .jy [.yU 3 40 5] Tryz.f166 0 [1,1,0,1] 1 (.normal) (fun r_=>⟨[(1,.ptr 0 0),(3,.own 1)],[bI p_v,.row 40 5 (r_.map aj.lf)]⟩) ⟨[(1,.ptr 0 0),(3,.own 1),(8,.lf (.bool (p_v.aB==6)))],[bI p_v,.row 40 5 []]⟩ (QG p_v) fun r0=>
 .jk Tryz.f166 0 [1,1,1,0,1] 1 (fun r_=>⟨[(3,.own 1)],[.dead,.row 40 5 (r_.map aj.lf)]⟩) ⟨[(1,.ptr 0 0),(3,.own 1),(26,.lf (.bool (p_v.aB==5)))],[bI p_v,.row 40 5 (r0.map aj.lf)]⟩ (JG p_v r0) fun r1=>
 .say [.at_ 0 0,.frz 1] ok0<|
 .ret (bF 1) (r1)
noncomputable def Q14(p_v:aj):Option (List aj):=Mo.den (aij p_v)
theorem adG(p_v:aj):FV (Q14 p_v) 166 [.dat (aj.lf1 p_v)] (fun r=>.lf (.rows 5 (r.map aj.lf))):=dI Tryz.func166
abbrev Np(m:aj→Int→Option (Int)):Prop:=∀p_v p_most,FV (m p_v p_most) 102 [.dat (aj.lf1 p_v),.i_ p_most] .i_
structure adH where
 m1:(p_v:aj)→(p_most:Int)→Option (Int)
 ok1:Np m1
noncomputable def QH(R_:adH)(p_most:Int)(r0:List aj):Mo (Bool):=
 .iG 6002 (decide ((p_most:Int)<2)) (.rt [1,5,16] 1 (true))<|
 .nu r0 aj.lf<|
 .rt [1,5,16] 1 ((r0.length:Int)==0)
noncomputable def FI(R_:adH)(p_most:Int)(r0:List aj):(Int×Int)→Mo ((Int×Int)⊕(Int)):=fun(v0,v1)=>
 .nu r0 aj.lf<|
 .iB (decide ((v1:Int)<(r0.length:Int))) (.gx aj.aY r0 v1 fun x0 _=>
 .cl (R_.ok1 x0 (IntKind.wrap .i64 (p_most-1))) fun r1 _=>
 .rt [1,5,6,7] 1 (.inl ((if r1 > v0 then r1 else v0),IntKind.wrap .i64 (v1+1))))<|
 .rt [6] 1 (.inr (v0))
noncomputable def adI(R_:adH)(p_v:aj)(p_most:Int):Mo (Int):=
 .cl (adG p_v) fun r0 _=>
 .jy [.kill 0] Tryz.f102 0 [1,1,0,0] 11 (.normal) (fun r_=>⟨[(1,.i_ p_most),(5,.lf (.rows 5 (r0.map aj.lf))),(16,.b_ r_)],[.dead]⟩) ⟨[(1,.i_ p_most),(5,.lf (.rows 5 (r0.map aj.lf)))],[.dead]⟩ (QH R_ p_most r0) fun r1=>
 .iB (r1) (.ret (bF 1) (1))<|
 .l1 Tryz.f102 0 [1,1,1,1,0,1,0] 0 (.exit 0) (fun(v0,v1)=>⟨[(1,.i_ p_most),(5,.lf (.rows 5 (r0.map aj.lf))),(6,.i_ v0),(7,.i_ v1)],[.dead]⟩) (fun r_=>⟨[(6,.i_ r_)],[.dead]⟩) (FI R_ p_most r0) (0,0) fun r2=>
 .ret (bF 1) (IntKind.wrap .i64 (r2+1))
theorem ag8(R_:adH):Np fun p_v p_most=>Mo.den (adI R_ p_v p_most):=fun _ _=>dI Tryz.func102
noncomputable def BM:Nat→adH
 |0=>{ m1:=fun p_v p_most=>none,ok1:=fun _ _ _ h=>(by cases h) }
 |n_+1=>{ m1:=fun p_v p_most=>Mo.den (adI (BM n_) p_v p_most),ok1:=ag8 (BM n_) }
noncomputable def Q47(p_v:aj)(p_most:Int):Option (Int):=(BM FU).m1 p_v p_most
theorem aj2:Np Q47:=(BM FU).ok1
noncomputable def adJ(p_v:aj):Mo (Int):=
 .cl (aj2 p_v 17) fun r0 _=>
 .ret (bF 1) (r0)
noncomputable def aj3(p_v:aj):Option (Int):=Mo.den (adJ p_v)
theorem ag9(p_v:aj):FV (aj3 p_v) 64 [.dat (aj.lf1 p_v)] .i_:=dI Tryz.func64
abbrev Nq(m:aj→Int→Option (Int)):Prop:=∀p_v p_most,FV (m p_v p_most) 103 [.dat (aj.lf1 p_v),.i_ p_most] .i_
structure adK where
 m1:(p_v:aj)→(p_most:Int)→Option (Int)
 ok1:Nq m1
noncomputable def FK(R_:adK)(p_most:Int)(r0:List aj)(v0:Int)(v1:Int):Mo (Bool):=
 .nu r0 aj.lf<|
 .aV 10004 (decide ((v1:Int)<(r0.length:Int))) [1,5,6,7,18] 1 (decide ((v0:Int)<p_most))
noncomputable def FM(R_:adK)(p_most:Int)(r0:List aj):(Int×Int)→Mo ((Int×Int)⊕(Int)):=fun(v0,v1)=>
 .jk Tryz.f103 0 [1,1,1,0,1,0,0,0,0] 15 (fun r_=>⟨[(1,.i_ p_most),(5,.i_ v0),(6,.lf (.rows 5 (r0.map aj.lf))),(7,.i_ v1),(18,.b_ r_)],[.dead]⟩) ⟨[(1,.i_ p_most),(5,.i_ v0),(6,.lf (.rows 5 (r0.map aj.lf))),(7,.i_ v1)],[.dead]⟩ (FK R_ p_most r0 v0 v1) fun r1=>
 .iB (r1) (.gx aj.aY r0 v1 fun x0 _=>
 .cl (R_.ok1 x0 (IntKind.wrap .i64 (p_most-v0))) fun r2 _=>
 .rt [1,5,6,7] 1 (.inl (IntKind.wrap .i64 (v0+r2),IntKind.wrap .i64 (v1+1))))<|
 .rt [5] 1 (.inr (v0))
noncomputable def Xq(R_:adK)(p_v:aj)(p_most:Int):Mo (Int):=
 .cl (adG p_v) fun r0 _=>
 .l1y [.kill 0] Tryz.f103 0 [1,1,1,0,1,0] 0 (.exit 0) (fun(v0,v1)=>⟨[(1,.i_ p_most),(5,.i_ v0),(6,.lf (.rows 5 (r0.map aj.lf))),(7,.i_ v1)],[.dead]⟩) (fun r_=>⟨[(5,.i_ r_)],[.dead]⟩) (FM R_ p_most r0) (1,0) fun r1=>
 .ret (bF 1) (r1)
theorem aha(R_:adK):Nq fun p_v p_most=>Mo.den (Xq R_ p_v p_most):=fun _ _=>dI Tryz.func103
noncomputable def BN:Nat→adK
 |0=>{ m1:=fun p_v p_most=>none,ok1:=fun _ _ _ h=>(by cases h) }
 |n_+1=>{ m1:=fun p_v p_most=>Mo.den (Xq (BN n_) p_v p_most),ok1:=aha (BN n_) }
noncomputable def Q41(p_v:aj)(p_most:Int):Option (Int):=(BN FU).m1 p_v p_most
theorem aj6:Nq Q41:=(BN FU).ok1
noncomputable def adL(p_v:aj):Mo (Int):=
 .cl (aj6 p_v 1025) fun r0 _=>
 .ret (bF 1) (r0)
noncomputable def aj7(p_v:aj):Option (Int):=Mo.den (adL p_v)
theorem ahb(p_v:aj):FV (aj7 p_v) 65 [.dat (aj.lf1 p_v)] .i_:=dI Tryz.func65
noncomputable def QI(p_i:Int)(p_n:Int)(p_s:ByteArray)(v0:Int):Mo (Bool):=
 .ask (kG p_s (IntKind.wrap .i64 (p_i+v0))) fun b0 h0=>
 .say [.byt b0] (ok1 (fK h0))<|
 .iG 14006 (decide (((b0.toNat:Int):Int)<128)) (.rt [0,1,2,7,32] 0 (true))<|
 .ask (kG p_s (IntKind.wrap .i64 (p_i+v0))) fun b1 h1=>
 .say [.byt b1] (ok1 (fK h1))<|
 .rt [0,1,2,7,32] 0 (decide ((191:Int)<(b1.toNat:Int)))
noncomputable def FN(p_i:Int)(p_n:Int)(p_s:ByteArray):(Int)→Mo ((Int)⊕(Unit⊕Unit)):=fun(v0)=>
 .iB (decide ((v0:Int)<p_n)) (.jk Tryz.f167 0 [1,1,0,1,0,0,1,0,0,0] 19 (fun r_=>⟨[(0,.lf (.str p_s)),(1,.i_ p_i),(2,.i_ p_n),(7,.i_ v0),(32,.b_ r_)],[]⟩) ⟨[(0,.lf (.str p_s)),(1,.i_ p_i),(2,.i_ p_n),(7,.i_ v0)],[]⟩ (QI p_i p_n p_s v0) fun r0=>
 .iB (r0) (.rt [6] 0 (.inr (.inl ())))<|
 .rt [0,1,2,7] 0 (.inl (IntKind.wrap .i64 (v0+1))))<|
 .rt [] 0 (.inr (.inr (())))
noncomputable def aik(p_s:ByteArray)(p_i:Int)(p_n:Int):Mo (Bool):=
 .iB (decide (((p_s.size:Int):Int)<(IntKind.wrap .i64 (p_i+p_n)))) (.ret (bF 1) (false))<|
 .l2 Tryz.f167 0 [1,1,0,1,0] 0 (fun(v0)=>⟨[(0,.lf (.str p_s)),(1,.i_ p_i),(2,.i_ p_n),(7,.i_ v0)],[]⟩) .ret (fun _=>⟨[(6,.b_ false)],[]⟩) (.exit 0) (fun _=>⟨[],[]⟩) (FN p_i p_n p_s) (0) (fun o0=>
 .ret (bF 1) (false)) fun o1=>
 .ret (bF 1) (true)
noncomputable def Q60(p_s:ByteArray)(p_i:Int)(p_n:Int):Option (Bool):=Mo.den (aik p_s p_i p_n)
theorem aj8(p_s:ByteArray)(p_i:Int)(p_n:Int):FV (Q60 p_s p_i p_n) 167 [.lf (.str p_s),.i_ p_i,.i_ p_n] .b_:=dI Tryz.func167
noncomputable def Nr(b0:UInt8)(p_s:ByteArray)(v0:Int):Mo (Bool):=
 .aV 16002 (decide ((194:Int)≤(b0.toNat:Int))) [0,3,4,16] 0 (decide (((b0.toNat:Int):Int)≤223))
noncomputable def Ns(b0:UInt8)(p_s:ByteArray)(v0:Int):Mo (Bool):=
 .aV 20002 (decide ((224:Int)≤(b0.toNat:Int))) [0,3,4,23] 0 (decide (((b0.toNat:Int):Int)≤239))
noncomputable def FP(b0:UInt8)(p_s:ByteArray)(v0:Int):Mo (Bool):=
 .aV 24002 (decide ((240:Int)≤(b0.toNat:Int))) [0,3,4,30] 0 (decide (((b0.toNat:Int):Int)≤244))
noncomputable def FQ(b0:UInt8)(p_s:ByteArray)(v0:Int):Mo ((Int)⊕Unit):=
 .iB (decide (((b0.toNat:Int):Int)<128)) (.rt [0,3,4,5] 0 (.inl (0)))<|
 .jk Tryz.f104 0 [1,0,1,0,0,1,0,1,1,0,0,1,1,0] 21 (fun r_=>⟨[(0,.lf (.str p_s)),(3,.i_ v0),(4,.lf (.int .u8 (b0.toNat:Int))),(16,.b_ r_)],[]⟩) ⟨[(0,.lf (.str p_s)),(3,.i_ v0),(4,.lf (.int .u8 (b0.toNat:Int)))],[]⟩ (Nr b0 p_s v0) fun r0=>
 .iB (r0) (.rt [0,3,4,5] 0 (.inl (1)))<|
 .jk Tryz.f104 0 [1,0,1,0,0,1,0,1,1,0,0,1,1,1,1,0] 25 (fun r_=>⟨[(0,.lf (.str p_s)),(3,.i_ v0),(4,.lf (.int .u8 (b0.toNat:Int))),(23,.b_ r_)],[]⟩) ⟨[(0,.lf (.str p_s)),(3,.i_ v0),(4,.lf (.int .u8 (b0.toNat:Int)))],[]⟩ (Ns b0 p_s v0) fun r1=>
 .iB (r1) (.rt [0,3,4,5] 0 (.inl (2)))<|
 .jk Tryz.f104 0 [1,0,1,0,0,1,0,1,1,0,0,1,1,1,1,1,1,0] 29 (fun r_=>⟨[(0,.lf (.str p_s)),(3,.i_ v0),(4,.lf (.int .u8 (b0.toNat:Int))),(30,.b_ r_)],[]⟩) ⟨[(0,.lf (.str p_s)),(3,.i_ v0),(4,.lf (.int .u8 (b0.toNat:Int)))],[]⟩ (FP b0 p_s v0) fun r2=>
 .iB (r2) (.rt [0,3,4,5] 0 (.inl (3)))<|
 .rt [2] 0 (.inr (()))
noncomputable def FT(b0:UInt8)(o0:Int)(p_s:ByteArray)(v0:Int):Mo (Bool):=
 .iG 32002 ((b0.toNat:Int)==224) (.ask (kG p_s (IntKind.wrap .i64 (v0+1))) fun b1 h0=>
 .say [.byt b1] (ok1 (fK h0))<|
 .rt [0,3,4,5,51] 0 (decide (((b1.toNat:Int):Int)<160)))<|
 .rt [0,3,4,5,51] 0 (false)
noncomputable def FW(b0:UInt8)(o0:Int)(p_s:ByteArray)(r0:Bool)(v0:Int):Mo (Bool):=
 .iG 32009 (r0) (.rt [0,3,4,5,62] 0 (true))<|
 .iG 32012 ((b0.toNat:Int)==237) (.ask (kG p_s (IntKind.wrap .i64 (v0+1))) fun b1 h0=>
 .say [.byt b1] (ok1 (fK h0))<|
 .rt [0,3,4,5,62] 0 (decide ((159:Int)<(b1.toNat:Int))))<|
 .rt [0,3,4,5,62] 0 (false)
noncomputable def FX(b0:UInt8)(o0:Int)(p_s:ByteArray)(r0:Bool)(v0:Int):Mo (Bool):=
 .iG 32020 (r0) (.rt [0,3,4,5,73] 0 (true))<|
 .iG 32023 ((b0.toNat:Int)==240) (.ask (kG p_s (IntKind.wrap .i64 (v0+1))) fun b1 h0=>
 .say [.byt b1] (ok1 (fK h0))<|
 .rt [0,3,4,5,73] 0 (decide (((b1.toNat:Int):Int)<144)))<|
 .rt [0,3,4,5,73] 0 (false)
noncomputable def FY(b0:UInt8)(o0:Int)(p_s:ByteArray)(r0:Bool)(v0:Int):Mo (Bool):=
 .iG 32031 (r0) (.rt [0,3,5,84] 0 (true))<|
 .iG 32034 ((b0.toNat:Int)==244) (.ask (kG p_s (IntKind.wrap .i64 (v0+1))) fun b1 h0=>
 .say [.byt b1] (ok1 (fK h0))<|
 .rt [0,3,5,84] 0 (decide ((143:Int)<(b1.toNat:Int))))<|
 .rt [0,3,5,84] 0 (false)
noncomputable def ru(p_s:ByteArray):(Int)→Mo ((Int)⊕(Unit⊕Unit)):=fun(v0)=>
 .iB (decide ((v0:Int)<(p_s.size:Int))) (.ask (kG p_s v0) fun b0 h0=>
 .say [.byt b0] (ok1 (fK h0))<|
 .j2 [] Tryz.f104 0 [1,0,1,0,0,1,0,1,1,0] 10 .normal (fun o_=>⟨[(0,.lf (.str p_s)),(3,.i_ v0),(4,.lf (.int .u8 (b0.toNat:Int))),(5,.i_ o_)],[]⟩) .ret (fun _=>⟨[(2,.b_ false)],[]⟩) ⟨[(0,.lf (.str p_s)),(3,.i_ v0),(4,.lf (.int .u8 (b0.toNat:Int))),(5,.i_ 0)],[]⟩ (FQ b0 p_s v0) (fun o0=>
 .cl (aj8 p_s (IntKind.wrap .i64 (v0+1)) o0) fun r0 _=>
 .iB (!r0) (.rt [2] 0 (.inr (.inl ())))<|
 .sf Tryz.f104 0 [1,0,1,0,0,1,0,1,1,1,1,0,0] 0 9 15 [(0,.lf (.str p_s)),(3,.i_ v0),(4,.lf (.int .u8 (b0.toNat:Int))),(5,.i_ o0)] [] 51 (FT b0 o0 p_s v0) fun r1=>
 .sb Tryz.f104 0 [1,0,1,0,0,1,0,1,1,1,1,0,0] 9 11 15 [(0,.lf (.str p_s)),(3,.i_ v0),(4,.lf (.int .u8 (b0.toNat:Int))),(5,.i_ o0)] [] 51 62 r1 (FW b0 o0 p_s r1 v0) fun r2=>
 .sb Tryz.f104 0 [1,0,1,0,0,1,0,1,1,1,1,0,0] 20 11 15 [(0,.lf (.str p_s)),(3,.i_ v0),(4,.lf (.int .u8 (b0.toNat:Int))),(5,.i_ o0)] [] 62 73 r2 (FX b0 o0 p_s r2 v0) fun r3=>
 .sk Tryz.f104 0 [1,0,1,0,0,1,0,1,1,1,1,0,0] 31 11 15 (fun r_=>⟨[(0,.lf (.str p_s)),(3,.i_ v0),(5,.i_ o0),(84,.b_ r_)],[]⟩) ⟨[(0,.lf (.str p_s)),(3,.i_ v0),(4,.lf (.int .u8 (b0.toNat:Int))),(5,.i_ o0),(73,.b_ r3)],[]⟩ (FY b0 o0 p_s r3 v0) fun r4=>
 .iB (r4) (.rt [2] 0 (.inr (.inl ())))<|
 .rt [0,3] 0 (.inl (IntKind.wrap .i64 ((IntKind.wrap .i64 (v0+o0))+1)))) fun o1=>
 .rt [2] 0 (.inr (.inl ())))<|
 .rt [] 0 (.inr (.inr (())))
noncomputable def ahc(p_s:ByteArray):Mo (Bool):=
 .l2 Tryz.f104 0 [1,0,1,0] 0 (fun(v0)=>⟨[(0,.lf (.str p_s)),(3,.i_ v0)],[]⟩) .ret (fun _=>⟨[(2,.b_ false)],[]⟩) (.exit 0) (fun _=>⟨[],[]⟩) (ru p_s) (0) (fun o0=>
 .ret (bF 1) (false)) fun o1=>
 .ret (bF 1) (true)
noncomputable def Q7(p_s:ByteArray):Option (Bool):=Mo.den (ahc p_s)
theorem amd(p_s:ByteArray):FV (Q7 p_s) 104 [.lf (.str p_s)] .b_:=dI Tryz.func104
noncomputable def JH(p_s:ByteArray)(v0:Int):Mo (Bool):=
 .ask (kG p_s v0) fun b0 h0=>
 .say [.byt b0] (ok1 (fK h0))<|
 .iG 14004 (decide (((b0.toNat:Int):Int)<33)) (.rt [0,3,32] 0 (true))<|
 .ask (kG p_s v0) fun b1 h1=>
 .say [.byt b1] (ok1 (fK h1))<|
 .rt [0,3,32] 0 (decide ((126:Int)<(b1.toNat:Int)))
noncomputable def JI(p_s:ByteArray)(r0:Bool)(v0:Int):Mo (Bool):=
 .iG 14010 (r0) (.rt [0,3,38] 0 (true))<|
 .ask (kG p_s v0) fun b0 h0=>
 .say [.byt b0] (ok1 (fK h0))<|
 .rt [0,3,38] 0 ((b0.toNat:Int)==46)
noncomputable def JJ(p_s:ByteArray):(Int)→Mo ((Int)⊕(Unit⊕Unit)):=fun(v0)=>
 .iB (decide ((v0:Int)<(p_s.size:Int))) (.sf Tryz.f162 0 [1,1,0,1,0,0,1,0,0,0] 0 10 6 [(0,.lf (.str p_s)),(3,.i_ v0)] [] 32 (JH p_s v0) fun r0=>
 .sb Tryz.f162 0 [1,1,0,1,0,0,1,0,0,0] 10 6 6 [(0,.lf (.str p_s)),(3,.i_ v0)] [] 32 38 r0 (JI p_s r0 v0) fun r1=>
 .iB (r1) (.rt [2] 0 (.inr (.inl ())))<|
 .rt [0,3] 0 (.inl (IntKind.wrap .i64 (v0+1))))<|
 .rt [] 0 (.inr (.inr (())))
noncomputable def ail(p_s:ByteArray):Mo (Bool):=
 .sf Tryz.f162 0 [1,0,0] 0 8 1 [(0,.lf (.str p_s))] [] 11 (kS p_s) fun r0=>
 .sb Tryz.f162 0 [1,0,0] 8 5 1 [(0,.lf (.str p_s))] [] 11 16 r0 (kT p_s r0) fun r1=>
 .iB (r1) (.ret (bF 1) (false))<|
 .l2 Tryz.f162 0 [1,1,0,1,0] 0 (fun(v0)=>⟨[(0,.lf (.str p_s)),(3,.i_ v0)],[]⟩) .ret (fun _=>⟨[(2,.b_ false)],[]⟩) (.exit 0) (fun _=>⟨[],[]⟩) (JJ p_s) (0) (fun o0=>
 .ret (bF 1) (false)) fun o1=>
 .ret (bF 1) (true)
noncomputable def Q52(p_s:ByteArray):Option (Bool):=Mo.den (ail p_s)
theorem aj9(p_s:ByteArray):FV (Q52 p_s) 162 [.lf (.str p_s)] .b_:=dI Tryz.func162
noncomputable def adM(p_s:ByteArray):Mo (Bool):=
 .oV 4003 (decide (((p_s.size:Int):Int)<1)) [0,11] 0 (decide ((128:Int)<(p_s.size:Int)))
noncomputable def adN(p_s:ByteArray)(v0:Int):Mo (Bool):=
 .ask (kG p_s v0) fun b0 h0=>
 .say [.byt b0] (ok1 (fK h0))<|
 .iG 14004 (decide (((b0.toNat:Int):Int)<32)) (.rt [0,3,27] 0 (true))<|
 .ask (kG p_s v0) fun b1 h1=>
 .say [.byt b1] (ok1 (fK h1))<|
 .rt [0,3,27] 0 (decide ((126:Int)<(b1.toNat:Int)))
noncomputable def Zc(p_s:ByteArray):(Int)→Mo ((Int)⊕(Unit⊕Unit)):=fun(v0)=>
 .iB (decide ((v0:Int)<(p_s.size:Int))) (.jk Tryz.f168 0 [1,1,0,1,0,0,1,0,0,0] 19 (fun r_=>⟨[(0,.lf (.str p_s)),(3,.i_ v0),(27,.b_ r_)],[]⟩) ⟨[(0,.lf (.str p_s)),(3,.i_ v0)],[]⟩ (adN p_s v0) fun r0=>
 .iB (r0) (.rt [2] 0 (.inr (.inl ())))<|
 .rt [0,3] 0 (.inl (IntKind.wrap .i64 (v0+1))))<|
 .rt [] 0 (.inr (.inr (())))
noncomputable def ame(p_s:ByteArray):Mo (Bool):=
 .jk Tryz.f168 0 [1,0,0] 9 (fun r_=>⟨[(0,.lf (.str p_s)),(11,.b_ r_)],[]⟩) ⟨[(0,.lf (.str p_s))],[]⟩ (adM p_s) fun r0=>
 .iB (r0) (.ret (bF 1) (false))<|
 .l2 Tryz.f168 0 [1,1,0,1,0] 0 (fun(v0)=>⟨[(0,.lf (.str p_s)),(3,.i_ v0)],[]⟩) .ret (fun _=>⟨[(2,.b_ false)],[]⟩) (.exit 0) (fun _=>⟨[],[]⟩) (Zc p_s) (0) (fun o0=>
 .ret (bF 1) (false)) fun o1=>
 .ret (bF 1) (true)
noncomputable def Q88(p_s:ByteArray):Option (Bool):=Mo.den (ame p_s)
theorem akb(p_s:ByteArray):FV (Q88 p_s) 168 [.lf (.str p_s)] .b_:=dI Tryz.func168
abbrev Nu(m:aj→Bool→Option (Bool)):Prop:=∀p_v p_names,FV (m p_v p_names) 66 [.dat (aj.lf1 p_v),.b_ p_names] .b_
abbrev Xr(m:aj→Bool→Option (Bool)):Prop:=∀p_v p_names,FV (m p_v p_names) 105 [.dat (aj.lf1 p_v),.b_ p_names] .b_
structure oh where
 m1:(p_v:aj)→(p_names:Bool)→Option (Bool)
 ok1:Nu m1
 m2:(p_v:aj)→(p_names:Bool)→Option (Bool)
 ok2:Xr m2
noncomputable def Xt(R_:oh)(p_names:Bool)(p_v:aj):Mo (Bool):=
 .iG 4003 (p_v.aB != 6) (.nu p_v.aX aj.lf<|
 .rt [1,2,16] 1 (decide ((0:Int)<(p_v.aX.length:Int))))<|
 .rt [1,2,16] 1 (false)
noncomputable def Xu(R_:oh)(p_names:Bool)(p_v:aj)(r0:Bool):Mo (Bool):=
 .iG 4009 (r0) (.rt [1,2,27] 1 (true))<|
 .iG 4013 (p_v.aB != 5) (.nu p_v.bC aF.lf<|
 .rt [1,2,27] 1 (decide ((0:Int)<(p_v.bC.length:Int))))<|
 .rt [1,2,27] 1 (false)
noncomputable def QJ(R_:oh)(p_names:Bool)(p_v:aj):Mo (Bool):=
 .oV 8003 (p_v.aB==4) [1,2,35] 1 (p_v.aB==7)
noncomputable def QK(R_:oh)(p_names:Bool)(p_v:aj)(r0:Bool):Mo (Bool):=
 .oV 8008 (r0) [1,2,40] 1 (p_v.aB==8)
noncomputable def QL(R_:oh)(p_names:Bool)(p_v:aj)(r0:Bool):Mo (Unit):=
 .rt [1,2,5] 1 ()
noncomputable def QM(R_:oh)(p_names:Bool)(p_v:aj)(r0:Bool):Mo (Bool):=
 .oV 10003 (p_v.aB==3) [1,2,5,48] 1 (p_v.aB==9)
noncomputable def QN(R_:oh)(p_names:Bool)(p_v:aj)(r0:Bool)(r1:Bool):Mo (Bool):=
 .oV 10008 (r1) [1,2,5,53] 1 (p_v.aB==10)
noncomputable def QO(R_:oh)(p_names:Bool)(p_v:aj)(r0:Bool)(r1:Bool):Mo (Unit):=
 .rt [1,2,5,6] 1 ()
noncomputable def QS(R_:oh)(p_names:Bool)(p_v:aj)(r0:Bool)(r1:Bool):Mo (Bool):=
 .aV 12002 (!r0) [1,2,6,60] 1 (!decide ((p_v.fText:ByteArray)=(⟨#[]⟩:ByteArray)))
noncomputable def QT(R_:oh)(p_names:Bool)(p_v:aj)(r0:Bool)(r1:Bool):Mo (Bool):=
 .iG 12007 (r1) (.rt [1,2,69] 1 (true))<|
 .aV 12010 (!r0) [1,2,69] 1 (p_v.dG != 0)
noncomputable def QU(R_:oh)(p_names:Bool)(p_v:aj)(r0:Bool):Mo (Bool):=
 .oV 12016 (r0) [1,2,74] 1 (decide ((p_v.aB:Int)<1))
noncomputable def QV(R_:oh)(p_names:Bool)(p_v:aj)(r0:Bool):Mo (Bool):=
 .oV 12021 (r0) [1,2,79] 1 (decide ((11:Int)<p_v.aB))
noncomputable def QW(R_:oh)(p_v:aj):Mo (Bool):=
 .iG 20003 (p_v.dG==0) (.ret ⟨[.kill 0],[4],[],1⟩ (true))<|
 .ret ⟨[.kill 0],[4],[],1⟩ (p_v.dG==1)
noncomputable def QX(R_:oh)(p_v:aj):Mo (Bool):=
 .iG 28004 (decide (((p_v.fText.size:Int):Int)≤4096)) (.cl (amd p_v.fText) fun r0 _=>
 .ret ⟨[.kill 0],[4],[],1⟩ (r0))<|
 .ret ⟨[.kill 0],[4],[],1⟩ (false)
noncomputable def QY(R_:oh)(p_names:Bool)(p_v:aj):(Int)→Mo ((Int)⊕(Unit⊕Unit)):=fun(v0)=>
 .nu p_v.aX aj.lf<|
 .iB (decide ((v0:Int)<(p_v.aX.length:Int))) (.gx aj.aY p_v.aX v0 fun x0 _=>
 .cl (R_.ok1 x0 p_names) fun r0 _=>
 .iB (!r0) (.ret ⟨[.kill 0],[4],[],1⟩ (.inr (.inl ())))<|
 .rt [1,2,7] 1 (.inl (IntKind.wrap .i64 (v0+1))))<|
 .rt [1,2] 1 (.inr (.inr (())))
noncomputable def akc(R_:oh)(p_v:aj)(p_names:Bool):Mo (Bool):=
 .sf Tryz.f66 0 [1,0,0] 0 9 1 [(1,.b_ p_names),(2,.ptr 0 0)] [bI p_v] 16 (Xt R_ p_names p_v) fun r0=>
 .sb Tryz.f66 0 [1,0,0] 9 11 1 [(1,.b_ p_names),(2,.ptr 0 0)] [bI p_v] 16 27 r0 (Xu R_ p_names p_v r0) fun r1=>
 .iB (r1) (.ret (bF 1) (false))<|
 .sf Tryz.f66 0 [1,1,0] 0 8 3 [(1,.b_ p_names),(2,.ptr 0 0)] [bI p_v] 35 (QJ R_ p_names p_v) fun r2=>
 .sb Tryz.f66 0 [1,1,0] 8 5 3 [(1,.b_ p_names),(2,.ptr 0 0)] [bI p_v] 35 40 r2 (QK R_ p_names p_v r2) fun r3=>
 .sk Tryz.f66 0 [1,1,0] 13 1 3 (fun r_=>⟨[(1,.b_ p_names),(2,.ptr 0 0),(5,.b_ r3)],[bI p_v]⟩) ⟨[(1,.b_ p_names),(2,.ptr 0 0),(40,.b_ r3)],[bI p_v]⟩ (QL R_ p_names p_v r3) fun r4=>
 .sf Tryz.f66 0 [1,1,1,0] 0 8 4 [(1,.b_ p_names),(2,.ptr 0 0),(5,.b_ r3)] [bI p_v] 48 (QM R_ p_names p_v r3) fun r5=>
 .sb Tryz.f66 0 [1,1,1,0] 8 5 4 [(1,.b_ p_names),(2,.ptr 0 0),(5,.b_ r3)] [bI p_v] 48 53 r5 (QN R_ p_names p_v r3 r5) fun r6=>
 .sk Tryz.f66 0 [1,1,1,0] 13 1 4 (fun r_=>⟨[(1,.b_ p_names),(2,.ptr 0 0),(5,.b_ r3),(6,.b_ r6)],[bI p_v]⟩) ⟨[(1,.b_ p_names),(2,.ptr 0 0),(5,.b_ r3),(53,.b_ r6)],[bI p_v]⟩ (QO R_ p_names p_v r3 r6) fun r7=>
 .sk Tryz.f66 0 [1,1,1,1,0,0] 0 7 5 (fun r_=>⟨[(1,.b_ p_names),(2,.ptr 0 0),(6,.b_ r6),(60,.b_ r_)],[bI p_v]⟩) ⟨[(1,.b_ p_names),(2,.ptr 0 0),(5,.b_ r3),(6,.b_ r6)],[bI p_v]⟩ (QS R_ p_names p_v r3 r6) fun r8=>
 .sk Tryz.f66 0 [1,1,1,1,0,0] 7 9 5 (fun r_=>⟨[(1,.b_ p_names),(2,.ptr 0 0),(69,.b_ r_)],[bI p_v]⟩) ⟨[(1,.b_ p_names),(2,.ptr 0 0),(6,.b_ r6),(60,.b_ r8)],[bI p_v]⟩ (QT R_ p_names p_v r6 r8) fun r9=>
 .sb Tryz.f66 0 [1,1,1,1,0,0] 16 5 5 [(1,.b_ p_names),(2,.ptr 0 0)] [bI p_v] 69 74 r9 (QU R_ p_names p_v r9) fun r10=>
 .sb Tryz.f66 0 [1,1,1,1,0,0] 21 5 5 [(1,.b_ p_names),(2,.ptr 0 0)] [bI p_v] 74 79 r10 (QV R_ p_names p_v r10) fun r11=>
 .iB (r11) (.ret (bF 1) (false))<|
 .iB (p_v.aB==9) (.jk Tryz.f66 0 [1,1,1,1,1,0,1,0,1,0,0] 25 (fun r_=>⟨[(4,.b_ r_)],[.dead]⟩) ⟨[(2,.ptr 0 0)],[bI p_v]⟩ (QW R_ p_v) fun r12=>
 .ret (bF 1) (r12))<|
 .iB (p_v.aB==10) (.ret (bF 1) (decide ((0:Int)≤p_v.dG)))<|
 .iB (p_v.aB==4) (.jk Tryz.f66 0 [1,1,1,1,1,0,1,0,1,1,1,1,1,0,0] 33 (fun r_=>⟨[(4,.b_ r_)],[.dead]⟩) ⟨[(2,.ptr 0 0)],[bI p_v]⟩ (QX R_ p_v) fun r13=>
 .ret (bF 1) (r13))<|
 .iB (p_v.aB==7) (.ret (bF 1) (decide (((p_v.fText.size:Int):Int)≤4096)))<|
 .iB (p_v.aB==8) (.ret (bF 1) ((p_v.fText.size:Int)==12))<|
 .l2 Tryz.f66 0 [1,1,1,1,1,1,0,1,0] 0 (fun(v0)=>⟨[(1,.b_ p_names),(2,.ptr 0 0),(7,.i_ v0)],[bI p_v]⟩) .ret (fun _=>⟨[(4,.b_ false)],[.dead]⟩) (.exit 1) (fun _=>⟨[(1,.b_ p_names),(2,.ptr 0 0)],[bI p_v]⟩) (QY R_ p_names p_v) (0) (fun o0=>
 .ret (bF 1) (false)) fun o1=>
 .cl (R_.ok2 p_v p_names) fun r14 _=>
 .ret (bF 1) (r14)
theorem akd(R_:oh):Nu fun p_v p_names=>Mo.den (akc R_ p_v p_names):=fun _ _=>dI Tryz.func66
noncomputable def QZ(R_:oh)(p_names:Bool)(p_v:aj)(v0:Int)(x0:aF):Mo (Bool):=
 .iG 12001 (p_names) (.cl (aj9 x0.fName) fun r0 _=>
 .rt [1,2,5,6,26] 2 (!r0))<|
 .rt [1,2,5,6,26] 2 (false)
noncomputable def Rf(R_:oh)(p_names:Bool)(p_v:aj)(r0:Bool)(v0:Int)(x0:aF):Mo (Bool):=
 .iG 12007 (r0) (.rt [1,2,5,6,36] 2 (true))<|
 .iG 12010 (!p_names) (.cl (akb x0.fName) fun r1 _=>
 .rt [1,2,5,6,36] 2 (!r1))<|
 .rt [1,2,5,6,36] 2 (false)
noncomputable def JK(R_:oh)(p_names:Bool)(p_v:aj)(r0:Bool)(v0:Int)(x0:aF):Mo (Bool):=
 .iG 12017 (r0) (.rt [1,2,5,6,43] 2 (true))<|
 .cl (R_.ok1 x0.fValue p_names) fun r1 _=>
 .rt [1,2,5,6,43] 2 (!r1)
noncomputable def JL(R_:oh)(p_names:Bool)(p_v:aj)(v0:Int)(x0:aF):(Int)→Mo ((Int)⊕(Unit⊕Unit)):=fun(v1)=>
 .iB (decide ((v1:Int)<v0)) (.say [.order [(true,0),(true,1),(true,2),(true,3),(true,4),(true,5),(true,6),(true,7),(true,8)] none []] ok0<|
 .gx aF.aY p_v.bC v1 fun x1 _=>
 .iB (decide ((x1.fName:ByteArray)=(x0.fName:ByteArray))) (.ret ⟨[.kill 0,.kill 1],[4],[],2⟩ (.inr (.inl ())))<|
 .rt [1,2,5,6,7] 2 (.inl (IntKind.wrap .i64 (v1+1))))<|
 .ret ⟨[.kill 1],[1,2,5],[],2⟩ (.inr (.inr (())))
noncomputable def JM(R_:oh)(p_names:Bool)(p_v:aj):(Int)→Mo ((Int)⊕(Unit⊕Unit)):=fun(v0)=>
 .nu p_v.bC aF.lf<|
 .iB (decide ((v0:Int)<(p_v.bC.length:Int))) (.gx aF.aY p_v.bC v0 fun x0 _=>
 .sf Tryz.f105 0 [1,0,1,0,0,1,0,0,1,0,0] 0 7 5 [(1,.b_ p_names),(2,.ptr 0 0),(5,.i_ v0),(6,.ptr 1 0)] [bI p_v,.box 138 (.agg ((aF.lf1 x0).map AV.lf))] 26 (QZ R_ p_names p_v v0 x0) fun r0=>
 .sb Tryz.f105 0 [1,0,1,0,0,1,0,0,1,0,0] 7 10 5 [(1,.b_ p_names),(2,.ptr 0 0),(5,.i_ v0),(6,.ptr 1 0)] [bI p_v,.box 138 (.agg ((aF.lf1 x0).map AV.lf))] 26 36 r0 (Rf R_ p_names p_v r0 v0 x0) fun r1=>
 .sb Tryz.f105 0 [1,0,1,0,0,1,0,0,1,0,0] 17 7 5 [(1,.b_ p_names),(2,.ptr 0 0),(5,.i_ v0),(6,.ptr 1 0)] [bI p_v,.box 138 (.agg ((aF.lf1 x0).map AV.lf))] 36 43 r1 (JK R_ p_names p_v r1 v0 x0) fun r2=>
 .iB (r2) (.ret ⟨[.kill 0],[4],[],1⟩ (.inr (.inl ())))<|
 .l2 Tryz.f105 0 [1,0,1,0,0,1,0,0,1,1,1,0] 0 (fun(v1)=>⟨[(1,.b_ p_names),(2,.ptr 0 0),(5,.i_ v0),(6,.ptr 1 0),(7,.i_ v1)],[bI p_v,.box 138 (.agg ((aF.lf1 x0).map AV.lf))]⟩) .ret (fun _=>⟨[(4,.b_ false)],[.dead,.dead]⟩) (.exit 2) (fun _=>⟨[(1,.b_ p_names),(2,.ptr 0 0),(5,.i_ v0)],[bI p_v,.dead]⟩) (JL R_ p_names p_v v0 x0) (0) (fun o0=>
 .rt [4] 1 (.inr (.inl ()))) fun o1=>
 .rt [1,2,5] 1 (.inl (IntKind.wrap .i64 (v0+1))))<|
 .ret ⟨[.kill 0],[],[],1⟩ (.inr (.inr (())))
noncomputable def adO(R_:oh)(p_v:aj)(p_names:Bool):Mo (Bool):=
 .l2 Tryz.f105 0 [1,0,1,0] 0 (fun(v0)=>⟨[(1,.b_ p_names),(2,.ptr 0 0),(5,.i_ v0)],[bI p_v]⟩) .ret (fun _=>⟨[(4,.b_ false)],[.dead]⟩) (.exit 0) (fun _=>⟨[],[.dead]⟩) (JM R_ p_names p_v) (0) (fun o0=>
 .ret (bF 1) (false)) fun o1=>
 .ret (bF 1) (true)
theorem ahd(R_:oh):Xr fun p_v p_names=>Mo.den (adO R_ p_v p_names):=fun _ _=>dI Tryz.func105
noncomputable def pG:Nat→oh
 |0=>{ m1:=fun p_v p_names=>none,ok1:=fun _ _ _ h=>(by cases h),m2:=fun p_v p_names=>none,ok2:=fun _ _ _ h=>(by cases h) }
 |n_+1=>{ m1:=fun p_v p_names=>Mo.den (akc (pG n_) p_v p_names),ok1:=akd (pG n_),m2:=fun p_v p_names=>Mo.den (adO (pG n_) p_v p_names),ok2:=ahd (pG n_) }
noncomputable def Q4(p_v:aj)(p_names:Bool):Option (Bool):=(pG FU).m1 p_v p_names
theorem amf:Nu Q4:=(pG FU).ok1
noncomputable def Q28(p_v:aj)(p_names:Bool):Option (Bool):=(pG FU).m2 p_v p_names
noncomputable def adP(p_v:aj):Mo (Bool):=
 .cl (ag9 p_v) fun r0 _=>
 .iG 4003 (decide ((r0:Int)≤16)) (.cl (ahb p_v) fun r1 _=>
 .iG 4008 (decide ((r1:Int)≤1024)) (.cl (amf p_v true) fun r2 _=>
 .ret (bF 1) (r2))<|
 .ret (bF 1) (false))<|
 .ret (bF 1) (false)
noncomputable def ake(p_v:aj):Option (Bool):=Mo.den (adP p_v)
theorem ahe(p_v:aj):FV (ake p_v) 34 [.dat (aj.lf1 p_v)] .b_:=dI Tryz.func34
noncomputable def Rh(p_l:List bD)(p_q:List aO):Mo (Bool):=
 .nu p_l bD.lf<|
 .iG 4003 (decide ((40:Int)<(p_l.length:Int))) (.rt [0,1,16] 0 (true))<|
 .nu p_q aO.lf<|
 .rt [0,1,16] 0 (decide ((20:Int)<(p_q.length:Int)))
noncomputable def Ad(p_l:List bD)(p_q:List aO):(Int)→Mo ((Int)⊕(Unit⊕Unit)):=fun(v0)=>
 .nu p_q aO.lf<|
 .iB (decide ((v0:Int)<(p_q.length:Int))) (.gx aO.aY p_q v0 fun x0 _=>
 .cl (ahe x0.dL) fun r0 _=>
 .iB (!r0) (.rt [4] 0 (.inr (.inl ())))<|
 .rt [0,1,5] 0 (.inl (IntKind.wrap .i64 (v0+1))))<|
 .rt [0] 0 (.inr (.inr (())))
noncomputable def adQ(p_l:List bD)(p_q:List aO)(v0:Int):Option (Unit⊕Unit):=dA (fun v_=>(Ad p_l p_q v_).den) FU (v0)
noncomputable def JO(p_l:List bD)(v0:Int)(x0:bD):Mo (Bool):=
 .nu x0.dZ.bG ay.lf<|
 .iG 26004 (decide ((20:Int)<(x0.dZ.bG.length:Int))) (.rt [0,6,7,51] 1 (true))<|
 .nu x0.dZ.gy.bn aW.lf<|
 .rt [0,6,7,51] 1 (decide ((5:Int)<(x0.dZ.gy.bn.length:Int)))
noncomputable def wM(p_l:List bD)(v0:Int)(x0:bD):(Int)→Mo ((Int)⊕(Unit⊕Unit)):=fun(v1)=>
 .nu x0.dZ.bG ay.lf<|
 .iB (decide ((v1:Int)<(x0.dZ.bG.length:Int))) (.gx ay.aY x0.dZ.bG v1 fun x1 _=>
 .nu x1.gy.bn aW.lf<|
 .iB (decide ((5:Int)<(x1.gy.bn.length:Int))) (.ret ⟨[.kill 0],[4],[],1⟩ (.inr (.inl ())))<|
 .rt [0,6,7,8] 1 (.inl (IntKind.wrap .i64 (v1+1))))<|
 .ret ⟨[.kill 0],[0,6],[],1⟩ (.inr (.inr (())))
noncomputable def Xv(p_l:List bD)(v0:Int)(x0:bD)(v1:Int):Option (Unit⊕Unit):=dA (fun v_=>(wM p_l v0 x0 v_).den) FU (v1)
noncomputable def wO(p_l:List bD):(Int)→Mo ((Int)⊕(Unit⊕Unit)):=fun(v0)=>
 .nu p_l bD.lf<|
 .iB (decide ((v0:Int)<(p_l.length:Int))) (.gx bD.aY p_l v0 fun x0 _=>
 .jk Tryz.f9 0 [1,1,1,0,1,0,0,1,0,0,1,0,0] 31 (fun r_=>⟨[(0,.lf (.rows 82 (p_l.map bD.lf))),(6,.i_ v0),(7,.ptr 0 0),(51,.b_ r_)],[.box 64 (.agg ((ay.lf1 x0.dZ).map AV.lf))]⟩) ⟨[(0,.lf (.rows 82 (p_l.map bD.lf))),(6,.i_ v0),(7,.ptr 0 0)],[.box 64 (.agg ((ay.lf1 x0.dZ).map AV.lf))]⟩ (JO p_l v0 x0) fun r0=>
 .iB (r0) (.rt [4] 0 (.inr (.inl ())))<|
 .l2m [] Tryz.f9 0 [1,1,1,0,1,0,0,1,0,0,1,1,1,0] 0 (fun(v1)=>⟨[(0,.lf (.rows 82 (p_l.map bD.lf))),(6,.i_ v0),(7,.ptr 0 0),(8,.i_ v1)],[.box 64 (.agg ((ay.lf1 x0.dZ).map AV.lf))]⟩) .ret (fun _=>⟨[(4,.b_ true)],[.dead]⟩) (.exit 4) (fun _=>⟨[(0,.lf (.rows 82 (p_l.map bD.lf))),(6,.i_ v0)],[.dead]⟩) (Xv p_l v0 x0 0) (wM p_l v0 x0) (0) (fun o0=>
 .rt [4] 0 (.inr (.inl ()))) fun o1=>
 .rt [0,6] 0 (.inl (IntKind.wrap .i64 (v0+1))))<|
 .rt [] 0 (.inr (.inr (())))
noncomputable def Xw(p_l:List bD)(v0:Int):Option (Unit⊕Unit):=dA (fun v_=>(wO p_l v_).den) FU (v0)
noncomputable def adR(p_l:List bD)(p_q:List aO):Mo (Bool):=
 .jk Tryz.f9 0 [1,0,0] 9 (fun r_=>⟨[(0,.lf (.rows 82 (p_l.map bD.lf))),(1,.lf (.rows 8 (p_q.map aO.lf))),(16,.b_ r_)],[]⟩) ⟨[(0,.lf (.rows 82 (p_l.map bD.lf))),(1,.lf (.rows 8 (p_q.map aO.lf)))],[]⟩ (Rh p_l p_q) fun r0=>
 .iB (r0) (.ret (bF 1) (true))<|
 .l2m [] Tryz.f9 0 [1,1,0,1,0] 0 (fun(v0)=>⟨[(0,.lf (.rows 82 (p_l.map bD.lf))),(1,.lf (.rows 8 (p_q.map aO.lf))),(5,.i_ v0)],[]⟩) .ret (fun _=>⟨[(4,.b_ true)],[]⟩) (.exit 0) (fun _=>⟨[(0,.lf (.rows 82 (p_l.map bD.lf)))],[]⟩) (adQ p_l p_q 0) (Ad p_l p_q) (0) (fun o0=>
 .ret (bF 1) (true)) fun o1=>
 .l2m [] Tryz.f9 0 [1,1,1,0,1,0] 0 (fun(v1)=>⟨[(0,.lf (.rows 82 (p_l.map bD.lf))),(6,.i_ v1)],[]⟩) .ret (fun _=>⟨[(4,.b_ true)],[]⟩) (.exit 2) (fun _=>⟨[],[]⟩) (Xw p_l 0) (wO p_l) (0) (fun o2=>
 .ret (bF 1) (true)) fun o3=>
 .ret (bF 1) (false)
noncomputable def Q11(p_l:List bD)(p_q:List aO):Option (Bool):=Mo.den (adR p_l p_q)
noncomputable def anm  (r:Unit):List AV:=[.ptr 3 0]
noncomputable def akg  (r:Unit):List Slot:=[.res (bH (⟨[],[]⟩:aZ) none) none,.res (bP ([]:List (ByteArray×ah))) none,.res (bT ([]:List (ByteArray×au))) none,.box 113 (.agg [.i_ 0,.lf (.rows 25 (([]:List ak).map ak.lf)),.mp 0,.mp 1,.mp 2])]
noncomputable def akh :Mo (Unit):=
 .say [.opH [] (.mp 0) [.res (bH (⟨[],[]⟩:aZ) none) none],.opH [] (.mp 0) [.res (bP ([]:List (ByteArray×ah))) none],.opH [] (.mp 0) [.res (bT ([]:List (ByteArray×au))) none]] (okc afY (okc af2 (ok1 af6)))<|
 .ret ⟨[.norm 3],[0],[],4⟩ ()
noncomputable def ahf :Option (Unit):=Mo.den (akh )
theorem Xx:FH (ahf ) 11 [] [] (fun r=>resV (anm r)) (fun r=>akg r):=jA Tryz.func11
noncomputable def ano(p_b0_0:Int)(p_b0_1:List ak)(p_s1:aZ)(p_s2:List (ByteArray×ah))(p_s3:List (ByteArray×au))(r:Unit):List AV:=[.i_ p_b0_0]
noncomputable def amg(p_b0_0:Int)(p_b0_1:List ak)(p_s1:aZ)(p_s2:List (ByteArray×ah))(p_s3:List (ByteArray×au))(r:Unit):List Slot:=[.box 113 (.agg [.i_ p_b0_0,.lf (.rows 25 (p_b0_1.map ak.lf)),.mp 1,.mp 2,.mp 3]),.res (bH p_s1 none) none,.res (bP p_s2) none,.res (bT p_s3) none]
noncomputable def amh(p_b0_0:Int)(p_b0_1:List ak)(p_s1:aZ)(p_s2:List (ByteArray×ah))(p_s3:List (ByteArray×au)):Mo (Unit):=
 .say [.br false] (ok1 (rfl:false=false))<|
 .rt [0] 4 ()
noncomputable def Q99(p_b0_0:Int)(p_b0_1:List ak)(p_s1:aZ)(p_s2:List (ByteArray×ah))(p_s3:List (ByteArray×au)):Option (Unit):=Mo.den (amh p_b0_0 p_b0_1 p_s1 p_s2 p_s3)
theorem adS(p_b0_0:Int)(p_b0_1:List ak)(p_s1:aZ)(p_s2:List (ByteArray×ah))(p_s3:List (ByteArray×au)):FH (Q99 p_b0_0 p_b0_1 p_s1 p_s2 p_s3) 15 [.ptr 0 0] [.box 113 (.agg [.i_ p_b0_0,.lf (.rows 25 (p_b0_1.map ak.lf)),.mp 1,.mp 2,.mp 3]),.res (bH p_s1 none) none,.res (bP p_s2) none,.res (bT p_s3) none] (fun r=>resV (ano p_b0_0 p_b0_1 p_s1 p_s2 p_s3 r)) (fun r=>amg p_b0_0 p_b0_1 p_s1 p_s2 p_s3 r):=jA Tryz.func15
noncomputable def JQ(p_s:ByteArray):(Int)→Mo ((Int)⊕(Unit⊕Unit)):=fun(v0)=>
 .iB (decide ((v0:Int)<(p_s.size:Int))) (.sf Tryz.f69 0 [1,1,0,1,0,0,1,1,0,0,1,0] 0 10 6 [(0,.lf (.str p_s)),(3,.i_ v0),(18,.i_ (p_s.size:Int)),(19,.i_ v0)] [] 31 (kH p_s v0) fun r0=>
 .sk Tryz.f69 0 [1,1,0,1,0,0,1,1,0,0,1,0] 10 6 6 (fun r_=>⟨[(0,.lf (.str p_s)),(18,.i_ (p_s.size:Int)),(19,.i_ v0),(37,.b_ r_)],[]⟩) ⟨[(0,.lf (.str p_s)),(3,.i_ v0),(18,.i_ (p_s.size:Int)),(19,.i_ v0),(31,.b_ r0)],[]⟩ (kJ p_s r0 v0) fun r1=>
 .iB (r1) (.rt [2] 0 (.inr (.inl ())))<|
 .rt [0,18,19] 0 (.inl (IntKind.wrap .i64 (v0+1))))<|
 .rt [] 0 (.inr (.inr (())))
noncomputable def ain(p_s:ByteArray):Mo (Bool):=
 .sf Tryz.f69 0 [1,0,0] 0 8 1 [(0,.lf (.str p_s))] [] 11 (kS p_s) fun r0=>
 .sb Tryz.f69 0 [1,0,0] 8 5 1 [(0,.lf (.str p_s))] [] 11 16 r0 (kT p_s r0) fun r1=>
 .iB (r1) (.ret (bF 1) (false))<|
 .l2 Tryz.f69 0 [1,1,0,1,0] 0 (fun(v0)=>⟨[(0,.lf (.str p_s)),(18,.i_ (p_s.size:Int)),(19,.i_ v0)],[]⟩) .ret (fun _=>⟨[(2,.b_ false)],[]⟩) (.exit 0) (fun _=>⟨[],[]⟩) (JQ p_s) (0) (fun o0=>
 .ret (bF 1) (false)) fun o1=>
 .ret (bF 1) (true)
noncomputable def Q96(p_s:ByteArray):Option (Bool):=Mo.den (ain p_s)
theorem Nv(p_s:ByteArray):FV (Q96 p_s) 69 [.lf (.str p_s)] .b_:=dI Tryz.func69
noncomputable def adT(p_kind:Int):Mo (aQ):=
 .iB (p_kind==2) (.ret (bF 1) (aQ.alg (aQ.alf (aQ.Es aQ.z true) true) true))<|
 .iB (p_kind==3) (.ret (bF 1) (aQ.alf (aQ.Es aQ.z true) true))<|
 .iB (p_kind==4) (.ret (bF 1) (aQ.amW aQ.z true))<|
 .iB (p_kind==5) (.ret (bF 1) (aQ.Es aQ.z true))<|
 .iB (p_kind==6) (.ret (bF 1) (aQ.ai5 (aQ.Es aQ.z true) true))<|
 .iB (p_kind==7) (.ret (bF 1) (aQ.TR (aQ.Es aQ.z true) true))<|
 .iB (p_kind==8) (.ret (bF 1) (aQ.Wi aQ.z true))<|
 .iB (p_kind==9) (.ret (bF 1) (aQ.Wi (aQ.afK aQ.z true) true))<|
 .iB (p_kind==10) (.ret (bF 1) (aQ.TS (aQ.afK aQ.z true) true))<|
 .iB (p_kind==11) (.ret (bF 1) (aQ.afK aQ.z true))<|
 .iB (p_kind==12) (.ret (bF 1) (aQ.afL (aQ.TS (aQ.afK aQ.z true) true) true))<|
 .ret (bF 1) (aQ.z)
noncomputable def aki(p_kind:Int):Option (aQ):=Mo.den (adT p_kind)
theorem Xy(p_kind:Int):FV (aki p_kind) 107 [.i_ p_kind] (fun r=>.dat (aQ.lf1 r)):=dI Tryz.func107
noncomputable def aio(p_v:aj):Mo (Bool):=
 .sf Tryz.f172 0 [1,0] 0 8 1 [(1,.ptr 0 0),(2,.b_ false)] [bI p_v] 10 (zT p_v) fun r0=>
 .sb Tryz.f172 0 [1,0] 8 5 1 [(1,.ptr 0 0),(2,.b_ false)] [bI p_v] 10 15 r0 (zU p_v r0) fun r1=>
 .sb Tryz.f172 0 [1,0] 13 6 1 [(1,.ptr 0 0),(2,.b_ false)] [bI p_v] 15 21 r1 (wJ p_v r1) fun r2=>
 .sk Tryz.f172 0 [1,0] 19 6 1 (fun r_=>⟨[(2,.b_ false),(27,.b_ r_)],[.dead]⟩) ⟨[(1,.ptr 0 0),(2,.b_ false),(21,.b_ r2)],[bI p_v]⟩ (wK p_v r2) fun r3=>
 .sk Tryz.f172 0 [1,0] 25 1 1 (fun r_=>⟨[(2,.b_ r3)],[.dead]⟩) ⟨[(2,.b_ false),(27,.b_ r3)],[.dead]⟩ (gu r3) fun r4=>
 .ret (bF 1) (r3)
noncomputable def Q85(p_v:aj):Option (Bool):=Mo.den (aio p_v)
theorem vw(p_v:aj):FV (Q85 p_v) 172 [.dat (aj.lf1 p_v)] .b_:=dI Tryz.func172
noncomputable def adU(p_s:aA):Mo (Bool):=
 .aV 4003 (p_s.kZ==0) [1,2,10] 1 (!p_s.jS)
noncomputable def adV(p_s:aA)(r0:Bool):Mo (Bool):=
 .aC 4008 (r0) [1,2,15] 1 (vw p_s.lI)
noncomputable def Zd(p_s:aA)(r0:Bool):Mo (Bool):=
 .aV 4013 (r0) [1,2,20] 1 (!p_s.jT)
noncomputable def Ze(p_s:aA)(r0:Bool):Mo (Bool):=
 .aC 4018 (r0) [1,2,25] 1 (vw p_s.lJ)
noncomputable def Zf(p_s:aA)(r0:Bool):Mo (Bool):=
 .iG 4023 (r0) (.nu p_s.jU aj.lf<|
 .rt [1,2,31] 1 ((p_s.jU.length:Int)==0))<|
 .rt [1,2,31] 1 (false)
noncomputable def Zg(p_s:aA)(r0:Bool):Mo (Bool):=
 .aV 4029 (r0) [1,2,36] 1 (p_s.jV==0)
noncomputable def Zh(p_s:aA)(r0:Bool):Mo (Bool):=
 .aV 4034 (r0) [1,2,41] 1 (p_s.kN==0)
noncomputable def Zi(p_s:aA)(r0:Bool):Mo (Bool):=
 .iG 4039 (r0) (.nu p_s.dJ lfS<|
 .rt [1,2,47] 1 ((p_s.dJ.length:Int)==0))<|
 .rt [1,2,47] 1 (false)
noncomputable def Zj(p_s:aA)(r0:Bool):Mo (Bool):=
 .iG 4045 (r0) (.nu p_s.dW cu.lf<|
 .rt [1,2,53] 1 ((p_s.dW.length:Int)==0))<|
 .rt [1,2,53] 1 (false)
noncomputable def Zk(p_s:aA)(r0:Bool):Mo (Bool):=
 .aV 4051 (r0) [1,2,58] 1 (!p_s.lG)
noncomputable def Zl(p_s:aA)(r0:Bool):Mo (Bool):=
 .iG 4056 (r0) (.nu p_s.fB aA.lf<|
 .rt [1,2,64] 1 ((p_s.fB.length:Int)==0))<|
 .rt [1,2,64] 1 (false)
noncomputable def Zm(p_s:aA)(r0:Bool):Mo (Bool):=
 .iG 4062 (r0) (.ret ⟨[.kill 0],[2,69],[],1⟩ (!p_s.iJ))<|
 .ret ⟨[.kill 0],[2,69],[],1⟩ (false)
noncomputable def aip(p_s:aA):Mo (Bool):=
 .sf Tryz.f256 0 [1,0] 0 8 1 [(1,.ptr 0 0),(2,.b_ false)] [iY p_s] 10 (adU p_s) fun r0=>
 .sb Tryz.f256 0 [1,0] 8 5 1 [(1,.ptr 0 0),(2,.b_ false)] [iY p_s] 10 15 r0 (adV p_s r0) fun r1=>
 .sb Tryz.f256 0 [1,0] 13 5 1 [(1,.ptr 0 0),(2,.b_ false)] [iY p_s] 15 20 r1 (Zd p_s r1) fun r2=>
 .sb Tryz.f256 0 [1,0] 18 5 1 [(1,.ptr 0 0),(2,.b_ false)] [iY p_s] 20 25 r2 (Ze p_s r2) fun r3=>
 .sb Tryz.f256 0 [1,0] 23 6 1 [(1,.ptr 0 0),(2,.b_ false)] [iY p_s] 25 31 r3 (Zf p_s r3) fun r4=>
 .sb Tryz.f256 0 [1,0] 29 5 1 [(1,.ptr 0 0),(2,.b_ false)] [iY p_s] 31 36 r4 (Zg p_s r4) fun r5=>
 .sb Tryz.f256 0 [1,0] 34 5 1 [(1,.ptr 0 0),(2,.b_ false)] [iY p_s] 36 41 r5 (Zh p_s r5) fun r6=>
 .sb Tryz.f256 0 [1,0] 39 6 1 [(1,.ptr 0 0),(2,.b_ false)] [iY p_s] 41 47 r6 (Zi p_s r6) fun r7=>
 .sb Tryz.f256 0 [1,0] 45 6 1 [(1,.ptr 0 0),(2,.b_ false)] [iY p_s] 47 53 r7 (Zj p_s r7) fun r8=>
 .sb Tryz.f256 0 [1,0] 51 5 1 [(1,.ptr 0 0),(2,.b_ false)] [iY p_s] 53 58 r8 (Zk p_s r8) fun r9=>
 .sb Tryz.f256 0 [1,0] 56 6 1 [(1,.ptr 0 0),(2,.b_ false)] [iY p_s] 58 64 r9 (Zl p_s r9) fun r10=>
 .sk Tryz.f256 0 [1,0] 62 5 1 (fun r_=>⟨[(2,.b_ false),(69,.b_ r_)],[.dead]⟩) ⟨[(1,.ptr 0 0),(2,.b_ false),(64,.b_ r10)],[iY p_s]⟩ (Zm p_s r10) fun r11=>
 .sk Tryz.f256 0 [1,0] 67 1 1 (fun r_=>⟨[(2,.b_ r11)],[.dead]⟩) ⟨[(2,.b_ false),(69,.b_ r11)],[.dead]⟩ (gu r11) fun r12=>
 .ret (bF 1) (r11)
noncomputable def Q23(p_s:aA):Option (Bool):=Mo.den (aip p_s)
theorem akj(p_s:aA):FV (Q23 p_s) 256 [.dat (aA.lf1 p_s)] .b_:=dI Tryz.func256
noncomputable def adW(p_d:ak):Mo (Bool):=
 .iG 4003 (decide ((p_d.fName:ByteArray)=(⟨#[]⟩:ByteArray))) (.nu p_d.bn aW.lf<|
 .rt [1,2,11] 1 ((p_d.bn.length:Int)==0))<|
 .rt [1,2,11] 1 (false)
noncomputable def adX(p_d:ak)(r0:Bool):Mo (Bool):=
 .aC 4009 (r0) [1,2,16] 1 (akj p_d.fV)
noncomputable def Zn(p_d:ak)(r0:Bool):Mo (Bool):=
 .aV 4014 (r0) [1,2,21] 1 (p_d.yx==0)
noncomputable def Zo(p_d:ak)(r0:Bool):Mo (Bool):=
 .iG 4019 (r0) (.ret ⟨[.kill 0],[2,26],[],1⟩ (p_d.oH==0))<|
 .ret ⟨[.kill 0],[2,26],[],1⟩ (false)
noncomputable def aiq(p_d:ak):Mo (Bool):=
 .sf Tryz.f220 0 [1,0] 0 9 1 [(1,.ptr 0 0),(2,.b_ false)] [lV p_d] 11 (adW p_d) fun r0=>
 .sb Tryz.f220 0 [1,0] 9 5 1 [(1,.ptr 0 0),(2,.b_ false)] [lV p_d] 11 16 r0 (adX p_d r0) fun r1=>
 .sb Tryz.f220 0 [1,0] 14 5 1 [(1,.ptr 0 0),(2,.b_ false)] [lV p_d] 16 21 r1 (Zn p_d r1) fun r2=>
 .sk Tryz.f220 0 [1,0] 19 5 1 (fun r_=>⟨[(2,.b_ false),(26,.b_ r_)],[.dead]⟩) ⟨[(1,.ptr 0 0),(2,.b_ false),(21,.b_ r2)],[lV p_d]⟩ (Zo p_d r2) fun r3=>
 .sk Tryz.f220 0 [1,0] 24 1 1 (fun r_=>⟨[(2,.b_ r3)],[.dead]⟩) ⟨[(2,.b_ false),(26,.b_ r3)],[.dead]⟩ (gu r3) fun r4=>
 .ret (bF 1) (r3)
noncomputable def Q72(p_d:ak):Option (Bool):=Mo.den (aiq p_d)
theorem akk(p_d:ak):FV (Q72 p_d) 220 [.dat (ak.lf1 p_d)] .b_:=dI Tryz.func220
noncomputable def U3(p_e:bf)(r0:Bool):Mo (Bool):=
 .aC 4020 (r0) [1,2,27] 1 (vw p_e.fArg)
noncomputable def adY(p_e:bf):Mo (Bool):=
 .sf Tryz.f280 0 [1,0] 0 9 1 [(1,.ptr 0 0),(2,.b_ false)] [eX p_e] 11 (ET p_e) fun r0=>
 .sb Tryz.f280 0 [1,0] 9 5 1 [(1,.ptr 0 0),(2,.b_ false)] [eX p_e] 11 16 r0 (EU p_e r0) fun r1=>
 .sb Tryz.f280 0 [1,0] 14 6 1 [(1,.ptr 0 0),(2,.b_ false)] [eX p_e] 16 22 r1 (BJ p_e r1) fun r2=>
 .sb Tryz.f280 0 [1,0] 20 5 1 [(1,.ptr 0 0),(2,.b_ false)] [eX p_e] 22 27 r2 (U3 p_e r2) fun r3=>
 .sb Tryz.f280 0 [1,0] 25 5 1 [(1,.ptr 0 0),(2,.b_ false)] [eX p_e] 27 32 r3 (BK p_e r3) fun r4=>
 .sk Tryz.f280 0 [1,0] 30 6 1 (fun r_=>⟨[(2,.b_ false),(38,.b_ r_)],[.dead]⟩) ⟨[(1,.ptr 0 0),(2,.b_ false),(32,.b_ r4)],[eX p_e]⟩ (BL p_e r4) fun r5=>
 .sk Tryz.f280 0 [1,0] 36 1 1 (fun r_=>⟨[(2,.b_ r5)],[.dead]⟩) ⟨[(2,.b_ false),(38,.b_ r5)],[.dead]⟩ (gu r5) fun r6=>
 .ret (bF 1) (r5)
noncomputable def ami(p_e:bf):Option (Bool):=Mo.den (adY p_e)
theorem ahg(p_e:bf):FV (ami p_e) 280 [.dat (bf.lf1 p_e)] .b_:=dI Tryz.func280
noncomputable def Zp(p_p:aS)(r0:Bool):Mo (Bool):=
 .aC 4009 (r0) [1,2,16] 1 (vw p_p.fArg)
noncomputable def U4(p_p:aS)(r0:Bool):Mo (Bool):=
 .aC 4049 (r0) [1,2,56] 1 (ahg p_p.fExpr)
noncomputable def adZ(p_p:aS):Mo (Bool):=
 .sf Tryz.f257 0 [1,0] 0 9 1 [(1,.ptr 0 0),(2,.b_ false)] [dY p_p] 11 (Qb p_p) fun r0=>
 .sb Tryz.f257 0 [1,0] 9 5 1 [(1,.ptr 0 0),(2,.b_ false)] [dY p_p] 11 16 r0 (Zp p_p r0) fun r1=>
 .sb Tryz.f257 0 [1,0] 14 6 1 [(1,.ptr 0 0),(2,.b_ false)] [dY p_p] 16 22 r1 (Jh p_p r1) fun r2=>
 .sb Tryz.f257 0 [1,0] 20 5 1 [(1,.ptr 0 0),(2,.b_ false)] [dY p_p] 22 27 r2 (Ji p_p r2) fun r3=>
 .sb Tryz.f257 0 [1,0] 25 5 1 [(1,.ptr 0 0),(2,.b_ false)] [dY p_p] 27 32 r3 (Jj p_p r3) fun r4=>
 .sb Tryz.f257 0 [1,0] 30 6 1 [(1,.ptr 0 0),(2,.b_ false)] [dY p_p] 32 38 r4 (Jk p_p r4) fun r5=>
 .sb Tryz.f257 0 [1,0] 36 7 1 [(1,.ptr 0 0),(2,.b_ false)] [dY p_p] 38 45 r5 (Jl p_p r5) fun r6=>
 .sb Tryz.f257 0 [1,0] 43 6 1 [(1,.ptr 0 0),(2,.b_ false)] [dY p_p] 45 51 r6 (Jm p_p r6) fun r7=>
 .sb Tryz.f257 0 [1,0] 49 5 1 [(1,.ptr 0 0),(2,.b_ false)] [dY p_p] 51 56 r7 (U4 p_p r7) fun r8=>
 .sk Tryz.f257 0 [1,0] 54 6 1 (fun r_=>⟨[(2,.b_ false),(62,.b_ r_)],[.dead]⟩) ⟨[(1,.ptr 0 0),(2,.b_ false),(56,.b_ r8)],[dY p_p]⟩ (Jo p_p r8) fun r9=>
 .sk Tryz.f257 0 [1,0] 60 1 1 (fun r_=>⟨[(2,.b_ r9)],[.dead]⟩) ⟨[(2,.b_ false),(62,.b_ r9)],[.dead]⟩ (gu r9) fun r10=>
 .ret (bF 1) (r9)
noncomputable def amj(p_p:aS):Option (Bool):=Mo.den (adZ p_p)
theorem ahh(p_p:aS):FV (amj p_p) 257 [.dat (aS.lf1 p_p)] .b_:=dI Tryz.func257
noncomputable def ad1(p_x:aW):Mo (Bool):=
 .aV 4003 (decide ((p_x.fName:ByteArray)=(⟨#[]⟩:ByteArray))) [1,2,10] 1 (p_x.aB==0)
noncomputable def ad2(p_x:aW)(r0:Bool):Mo (Bool):=
 .iG 4008 (r0) (.nu p_x.iD bU.lf<|
 .rt [1,2,16] 1 ((p_x.iD.length:Int)==0))<|
 .rt [1,2,16] 1 (false)
noncomputable def Zq(p_x:aW)(r0:Bool):Mo (Bool):=
 .aV 4014 (r0) [1,2,21] 1 (!p_x.iJ)
noncomputable def Zr(p_x:aW)(r0:Bool):Mo (Bool):=
 .aV 4019 (r0) [1,2,26] 1 (!p_x.sG)
noncomputable def Zt(p_x:aW)(r0:Bool):Mo (Bool):=
 .aV 4024 (r0) [1,2,31] 1 (!p_x.nP)
noncomputable def Zu(p_x:aW)(r0:Bool):Mo (Bool):=
 .iG 4029 (r0) (.cl (ahh p_x.jE) fun r1 _=>
 .ret ⟨[.kill 0],[2,36],[],1⟩ (r1))<|
 .ret ⟨[.kill 0],[2,36],[],1⟩ (false)
noncomputable def air(p_x:aW):Mo (Bool):=
 .sf Tryz.f221 0 [1,0] 0 8 1 [(1,.ptr 0 0),(2,.b_ false)] [anK p_x] 10 (ad1 p_x) fun r0=>
 .sb Tryz.f221 0 [1,0] 8 6 1 [(1,.ptr 0 0),(2,.b_ false)] [anK p_x] 10 16 r0 (ad2 p_x r0) fun r1=>
 .sb Tryz.f221 0 [1,0] 14 5 1 [(1,.ptr 0 0),(2,.b_ false)] [anK p_x] 16 21 r1 (Zq p_x r1) fun r2=>
 .sb Tryz.f221 0 [1,0] 19 5 1 [(1,.ptr 0 0),(2,.b_ false)] [anK p_x] 21 26 r2 (Zr p_x r2) fun r3=>
 .sb Tryz.f221 0 [1,0] 24 5 1 [(1,.ptr 0 0),(2,.b_ false)] [anK p_x] 26 31 r3 (Zt p_x r3) fun r4=>
 .sk Tryz.f221 0 [1,0] 29 5 1 (fun r_=>⟨[(2,.b_ false),(36,.b_ r_)],[.dead]⟩) ⟨[(1,.ptr 0 0),(2,.b_ false),(31,.b_ r4)],[anK p_x]⟩ (Zu p_x r4) fun r5=>
 .sk Tryz.f221 0 [1,0] 34 1 1 (fun r_=>⟨[(2,.b_ r5)],[.dead]⟩) ⟨[(2,.b_ false),(36,.b_ r5)],[.dead]⟩ (gu r5) fun r6=>
 .ret (bF 1) (r5)
noncomputable def Q55(p_x:aW):Option (Bool):=Mo.den (air p_x)
theorem akl(p_x:aW):FV (Q55 p_x) 221 [.dat (aW.lf1 p_x)] .b_:=dI Tryz.func221
noncomputable def ad3(p_w:ay):Mo (Bool):=
 .aV 4003 (p_w.aB==0) [1,2,10] 1 (decide ((p_w.aT:ByteArray)=(⟨#[]⟩:ByteArray)))
noncomputable def ad4(p_w:ay)(r0:Bool):Mo (Bool):=
 .aC 4008 (r0) [1,2,15] 1 (vw p_w.dL)
noncomputable def Zv(p_w:ay)(r0:Bool):Mo (Bool):=
 .aC 4013 (r0) [1,2,20] 1 (vw p_w.bC)
noncomputable def Zw(p_w:ay)(r0:Bool):Mo (Bool):=
 .aC 4018 (r0) [1,2,25] 1 (vw p_w.ig)
noncomputable def Zx(p_w:ay)(r0:Bool):Mo (Bool):=
 .aC 4023 (r0) [1,2,30] 1 (akk p_w.gy)
noncomputable def Zy(p_w:ay)(r0:Bool):Mo (Bool):=
 .aC 4028 (r0) [1,2,35] 1 (akl p_w.eP)
noncomputable def Zz(p_w:ay)(r0:Bool):Mo (Bool):=
 .aV 4033 (r0) [1,2,40] 1 (decide ((p_w.dP:ByteArray)=(⟨#[]⟩:ByteArray)))
noncomputable def ZA(p_w:ay)(r0:Bool):Mo (Bool):=
 .aV 4038 (r0) [1,2,45] 1 (p_w.bW==0)
noncomputable def ZB(p_w:ay)(r0:Bool):Mo (Bool):=
 .iG 4043 (r0) (.nu p_w.bG ay.lf<|
 .rt [1,2,51] 1 ((p_w.bG.length:Int)==0))<|
 .rt [1,2,51] 1 (false)
noncomputable def ZC(p_w:ay)(r0:Bool):Mo (Bool):=
 .iG 4049 (r0) (.nu p_w.iq lfI<|
 .rt [1,2,57] 1 ((p_w.iq.length:Int)==0))<|
 .rt [1,2,57] 1 (false)
noncomputable def ZE(p_w:ay)(r0:Bool):Mo (Bool):=
 .iG 4055 (r0) (.ret ⟨[.kill 0],[2,62],[],1⟩ (!p_w.jF))<|
 .ret ⟨[.kill 0],[2,62],[],1⟩ (false)
noncomputable def ais(p_w:ay):Mo (Bool):=
 .sf Tryz.f169 0 [1,0] 0 8 1 [(1,.ptr 0 0),(2,.b_ false)] [cO p_w] 10 (ad3 p_w) fun r0=>
 .sb Tryz.f169 0 [1,0] 8 5 1 [(1,.ptr 0 0),(2,.b_ false)] [cO p_w] 10 15 r0 (ad4 p_w r0) fun r1=>
 .sb Tryz.f169 0 [1,0] 13 5 1 [(1,.ptr 0 0),(2,.b_ false)] [cO p_w] 15 20 r1 (Zv p_w r1) fun r2=>
 .sb Tryz.f169 0 [1,0] 18 5 1 [(1,.ptr 0 0),(2,.b_ false)] [cO p_w] 20 25 r2 (Zw p_w r2) fun r3=>
 .sb Tryz.f169 0 [1,0] 23 5 1 [(1,.ptr 0 0),(2,.b_ false)] [cO p_w] 25 30 r3 (Zx p_w r3) fun r4=>
 .sb Tryz.f169 0 [1,0] 28 5 1 [(1,.ptr 0 0),(2,.b_ false)] [cO p_w] 30 35 r4 (Zy p_w r4) fun r5=>
 .sb Tryz.f169 0 [1,0] 33 5 1 [(1,.ptr 0 0),(2,.b_ false)] [cO p_w] 35 40 r5 (Zz p_w r5) fun r6=>
 .sb Tryz.f169 0 [1,0] 38 5 1 [(1,.ptr 0 0),(2,.b_ false)] [cO p_w] 40 45 r6 (ZA p_w r6) fun r7=>
 .sb Tryz.f169 0 [1,0] 43 6 1 [(1,.ptr 0 0),(2,.b_ false)] [cO p_w] 45 51 r7 (ZB p_w r7) fun r8=>
 .sb Tryz.f169 0 [1,0] 49 6 1 [(1,.ptr 0 0),(2,.b_ false)] [cO p_w] 51 57 r8 (ZC p_w r8) fun r9=>
 .sk Tryz.f169 0 [1,0] 55 5 1 (fun r_=>⟨[(2,.b_ false),(62,.b_ r_)],[.dead]⟩) ⟨[(1,.ptr 0 0),(2,.b_ false),(57,.b_ r9)],[cO p_w]⟩ (ZE p_w r9) fun r10=>
 .sk Tryz.f169 0 [1,0] 60 1 1 (fun r_=>⟨[(2,.b_ r10)],[.dead]⟩) ⟨[(2,.b_ false),(62,.b_ r10)],[.dead]⟩ (gu r10) fun r11=>
 .ret (bF 1) (r10)
noncomputable def Q24(p_w:ay):Option (Bool):=Mo.den (ais p_w)
theorem akm(p_w:ay):FV (Q24 p_w) 169 [.dat (ay.lf1 p_w)] .b_:=dI Tryz.func169
end
end Go.Proofs.YtpdlghcgekojlaaGreatDoor
namespace Go.Proofs.YtpdlghcgekojlaaGreatDoor
open Go.RowKit
set_option maxRecDepth 20000
set_option maxHeartbeats 4000000
noncomputable section
noncomputable def Ri(p_w:ay)(r0:aQ):Mo (ay):=
 .iB (r0.lK) (.rt [1,3] 2 (ay.uO (ay.qP p_w 0) ⟨#[]⟩))<|
 .rt [1,3] 2 (ay.qP p_w 0)
noncomputable def Rj(r0:aQ)(r1:ay):Mo (ay):=
 .iB (r0.zx) (.ret ⟨[.norm 0],[1,3],[],2⟩ (ay.afJ (ay.afG (ay.OO r1 (aj.mk 0 0 ⟨#[]⟩ [] [])) (aj.mk 0 0 ⟨#[]⟩ [] [])) false))<|
 .rt [1,3] 2 (r1)
noncomputable def JU(r0:aQ)(r1:ay):Mo (ay):=
 .iB (r0.fC) (.ret ⟨[.norm 0],[1,3],[],2⟩ (ay.OQ r1 (aj.mk 0 0 ⟨#[]⟩ [] [])))<|
 .rt [1,3] 2 (r1)
noncomputable def JV(r0:aQ)(r1:ay):Mo (ay):=
 .iB (r0.Du) (.ret ⟨[.norm 0],[1,3],[],2⟩ (ay.ale r1 (ak.mk ⟨#[]⟩ [] aA.z 0 0)))<|
 .rt [1,3] 2 (r1)
noncomputable def JW(r0:aQ)(r1:ay):Mo (ay):=
 .iB (r0.og) (.ret ⟨[.norm 0],[1,3],[],2⟩ (ay.aa5 r1 aW.z))<|
 .rt [1,3] 2 (r1)
noncomputable def JX(r0:aQ)(r1:ay):Mo (ay):=
 .iB (r0.gJ) (.rt [1,3] 2 (ay.aa5 r1 (aW.ahM r1.eP ⟨#[]⟩)))<|
 .rt [1,3] 2 (r1)
noncomputable def JY(r0:aQ)(r1:ay):Mo (ay):=
 .iB (r0.zy) (.rt [1,3] 2 (ay.amV r1 ⟨#[]⟩))<|
 .rt [1,3] 2 (r1)
noncomputable def JZ(r0:aQ)(r1:ay):Mo (ay):=
 .iB (r0.dw) (.rt [1,3] 2 (ay.ai4 r1 0))<|
 .rt [1,3] 2 (r1)
noncomputable def J3(r0:aQ)(r1:ay):Mo (ay):=
 .iB (r0.bJ) (.ret ⟨[.norm 0],[1,3],[],2⟩ (ay.afH r1 []))<|
 .rt [1,3] 2 (r1)
noncomputable def J4(r0:aQ)(r1:ay):Mo (ay):=
 .iB (r0.kP) (.ret ⟨[.norm 0],[1],[],2⟩ (ay.afI r1 []))<|
 .rt [1] 2 (r1)
noncomputable def ait(p_w:ay):Mo (Bool):=
 .cl (Xy p_w.aB) fun r0 _=>
 .jk Tryz.f108 0 [1,1,1,0,1] 1 (fun r_=>⟨[(1,.ptr 0 0),(3,.ptr 1 0)],[cO r_,.box 187 (.agg ((aQ.lf1 r0).map AV.lf))]⟩) ⟨[(1,.ptr 0 0),(3,.ptr 1 0),(9,.b_ r0.lK)],[.box 64 (.dat (ay.lf1 (ay.qP p_w 0))),.box 187 (.agg ((aQ.lf1 r0).map AV.lf))]⟩ (Ri p_w r0) fun r1=>
 .jk Tryz.f108 0 [1,1,1,1,0,1] 1 (fun r_=>⟨[(1,.ptr 0 0),(3,.ptr 1 0)],[cO r_,.box 187 (.agg ((aQ.lf1 r0).map AV.lf))]⟩) ⟨[(1,.ptr 0 0),(3,.ptr 1 0),(12,.b_ r0.zx)],[cO r1,.box 187 (.agg ((aQ.lf1 r0).map AV.lf))]⟩ (Rj r0 r1) fun r2=>
 .jk Tryz.f108 0 [1,1,1,1,1,0,1] 1 (fun r_=>⟨[(1,.ptr 0 0),(3,.ptr 1 0)],[cO r_,.box 187 (.agg ((aQ.lf1 r0).map AV.lf))]⟩) ⟨[(1,.ptr 0 0),(3,.ptr 1 0),(19,.b_ r0.fC)],[cO r2,.box 187 (.agg ((aQ.lf1 r0).map AV.lf))]⟩ (JU r0 r2) fun r3=>
 .jk Tryz.f108 0 [1,1,1,1,1,1,0,1] 1 (fun r_=>⟨[(1,.ptr 0 0),(3,.ptr 1 0)],[cO r_,.box 187 (.agg ((aQ.lf1 r0).map AV.lf))]⟩) ⟨[(1,.ptr 0 0),(3,.ptr 1 0),(23,.b_ r0.Du)],[cO r3,.box 187 (.agg ((aQ.lf1 r0).map AV.lf))]⟩ (JV r0 r3) fun r4=>
 .jk Tryz.f108 0 [1,1,1,1,1,1,1,0,1] 1 (fun r_=>⟨[(1,.ptr 0 0),(3,.ptr 1 0)],[cO r_,.box 187 (.agg ((aQ.lf1 r0).map AV.lf))]⟩) ⟨[(1,.ptr 0 0),(3,.ptr 1 0),(27,.b_ r0.og)],[cO r4,.box 187 (.agg ((aQ.lf1 r0).map AV.lf))]⟩ (JW r0 r4) fun r5=>
 .jk Tryz.f108 0 [1,1,1,1,1,1,1,1,0,1] 1 (fun r_=>⟨[(1,.ptr 0 0),(3,.ptr 1 0)],[cO r_,.box 187 (.agg ((aQ.lf1 r0).map AV.lf))]⟩) ⟨[(1,.ptr 0 0),(3,.ptr 1 0),(31,.b_ r0.gJ)],[cO r5,.box 187 (.agg ((aQ.lf1 r0).map AV.lf))]⟩ (JX r0 r5) fun r6=>
 .jk Tryz.f108 0 [1,1,1,1,1,1,1,1,1,0,1] 1 (fun r_=>⟨[(1,.ptr 0 0),(3,.ptr 1 0)],[cO r_,.box 187 (.agg ((aQ.lf1 r0).map AV.lf))]⟩) ⟨[(1,.ptr 0 0),(3,.ptr 1 0),(35,.b_ r0.zy)],[cO r6,.box 187 (.agg ((aQ.lf1 r0).map AV.lf))]⟩ (JY r0 r6) fun r7=>
 .jk Tryz.f108 0 [1,1,1,1,1,1,1,1,1,1,0,1] 1 (fun r_=>⟨[(1,.ptr 0 0),(3,.ptr 1 0)],[cO r_,.box 187 (.agg ((aQ.lf1 r0).map AV.lf))]⟩) ⟨[(1,.ptr 0 0),(3,.ptr 1 0),(38,.b_ r0.dw)],[cO r7,.box 187 (.agg ((aQ.lf1 r0).map AV.lf))]⟩ (JZ r0 r7) fun r8=>
 .jk Tryz.f108 0 [1,1,1,1,1,1,1,1,1,1,1,0,1] 1 (fun r_=>⟨[(1,.ptr 0 0),(3,.ptr 1 0)],[cO r_,.box 187 (.agg ((aQ.lf1 r0).map AV.lf))]⟩) ⟨[(1,.ptr 0 0),(3,.ptr 1 0),(41,.b_ r0.bJ)],[cO r8,.box 187 (.agg ((aQ.lf1 r0).map AV.lf))]⟩ (J3 r0 r8) fun r9=>
 .jy [.kill 1] Tryz.f108 0 [1,1,1,1,1,1,1,1,1,1,1,1,0,1] 1 (.normal) (fun r_=>⟨[(1,.ptr 0 0)],[cO r_,.dead]⟩) ⟨[(1,.ptr 0 0),(44,.b_ r0.kP)],[cO r9,.dead]⟩ (J4 r0 r9) fun r10=>
 .cl (akm r10) fun r11 _=>
 .ret (bF 1) (r11)
noncomputable def Q17(p_w:ay):Option (Bool):=Mo.den (ait p_w)
theorem akn(p_w:ay):FV (Q17 p_w) 108 [.dat (ay.lf1 p_w)] .b_:=dI Tryz.func108
noncomputable def ZF(p_w:ay):Mo (Int):=
 .iB (p_w.aB==12) (.rt [1,3] 1 (0))<|
 .rt [1,3] 1 (1)
noncomputable def ad5(p_w:ay):Mo (Bool):=
 .jk Tryz.f109 0 [1,1,0,1] 1 (fun r_=>⟨[(1,.ptr 0 0),(3,.i_ r_)],[cO p_w]⟩) ⟨[(1,.ptr 0 0),(3,.i_ 1),(6,.lf (.bool (p_w.aB==12)))],[cO p_w]⟩ (ZF p_w) fun r0=>
 .iG 10004 (decide ((r0:Int)≤p_w.bW)) (.ret (bF 1) (decide ((p_w.bW:Int)≤1099511627776)))<|
 .ret (bF 1) (false)
noncomputable def amk(p_w:ay):Option (Bool):=Mo.den (ad5 p_w)
theorem ahi(p_w:ay):FV (amk p_w) 109 [.dat (ay.lf1 p_w)] .b_:=dI Tryz.func109
noncomputable def Rk(p_l:List Int)(v0:Int)(x0:Int):Mo (Bool):=
 .oV 10002 (decide ((x0:Int)<0)) [0,3,4,5,6,7,17] 0 (decide ((8:Int)≤x0))
noncomputable def Rl(p_l:List Int)(r0:Bool)(v0:Int)(x0:Int):Mo (Bool):=
 .iG 10006 (r0) (.rt [0,5,6,7,30] 0 (true))<|
 .iG 10009 (decide ((0:Int)<v0)) (.gx lI_ p_l (IntKind.wrap .i64 (v0-1)) fun x1 _=>
 .rt [0,5,6,7,30] 0 (decide ((x0:Int)≤x1)))<|
 .rt [0,5,6,7,30] 0 (false)
noncomputable def J5(p_l:List Int):(Int)→Mo ((Int)⊕(Unit⊕Unit)):=fun(v0)=>
 .iB (decide ((v0:Int)<(p_l.length:Int))) (.gx lI_ p_l v0 fun x0 _=>
 .sf Tryz.f110 0 [1,0,1,0,0,1,1,0,0,1,0] 0 6 4 [(0,.lf (.rows 1 (p_l.map lfI))),(3,.i_ v0),(4,.i_ x0),(5,.lf (.rows 1 (p_l.map lfI))),(6,.i_ (p_l.length:Int)),(7,.i_ v0)] [] 17 (Rk p_l v0 x0) fun r0=>
 .sk Tryz.f110 0 [1,0,1,0,0,1,1,0,0,1,0] 6 13 4 (fun r_=>⟨[(0,.lf (.rows 1 (p_l.map lfI))),(5,.lf (.rows 1 (p_l.map lfI))),(6,.i_ (p_l.length:Int)),(7,.i_ v0),(30,.b_ r_)],[]⟩) ⟨[(0,.lf (.rows 1 (p_l.map lfI))),(3,.i_ v0),(4,.i_ x0),(5,.lf (.rows 1 (p_l.map lfI))),(6,.i_ (p_l.length:Int)),(7,.i_ v0),(17,.b_ r0)],[]⟩ (Rl p_l r0 v0 x0) fun r1=>
 .iB (r1) (.rt [2] 0 (.inr (.inl ())))<|
 .rt [0,5,6,7] 0 (.inl (IntKind.wrap .i64 (v0+1))))<|
 .rt [0] 0 (.inr (.inr (())))
noncomputable def aiu(p_l:List Int):Mo (Bool):=
 .nu p_l lfI<|
 .l2 Tryz.f110 0 [1,0,1,0] 0 (fun(v0)=>⟨[(0,.lf (.rows 1 (p_l.map lfI))),(5,.lf (.rows 1 (p_l.map lfI))),(6,.i_ (p_l.length:Int)),(7,.i_ v0)],[]⟩) .ret (fun _=>⟨[(2,.b_ false)],[]⟩) (.exit 0) (fun _=>⟨[(0,.lf (.rows 1 (p_l.map lfI)))],[]⟩) (J5 p_l) (0) (fun o0=>
 .ret (bF 1) (false)) fun o1=>
 .nu p_l lfI<|
 .ret (bF 1) (decide ((0:Int)<(p_l.length:Int)))
noncomputable def Q58(p_l:List Int):Option (Bool):=Mo.den (aiu p_l)
theorem ako(p_l:List Int):FV (Q58 p_l) 110 [.lf (.rows 1 (p_l.map lfI))] .b_:=dI Tryz.func110
noncomputable def ad6(p_v:aj):Mo (Bool):=
 .aV 4003 (p_v.aB != 6) [1,2,10] 1 (p_v.aB != 1)
noncomputable def ad7(p_v:aj)(r0:Bool):Mo (Bool):=
 .aV 4008 (r0) [1,2,15] 1 (p_v.aB != 11)
noncomputable def ZG(p_v:aj)(r0:Bool):Mo (Bool):=
 .iG 4013 (r0) (.cl (sZ p_v) fun r1 _=>
 .ret ⟨[.kill 0],[2,19],[],1⟩ (r1))<|
 .ret ⟨[.kill 0],[2,19],[],1⟩ (false)
noncomputable def aiv(p_v:aj):Mo (Bool):=
 .sf Tryz.f170 0 [1,0] 0 8 1 [(1,.ptr 0 0),(2,.b_ false)] [bI p_v] 10 (ad6 p_v) fun r0=>
 .sb Tryz.f170 0 [1,0] 8 5 1 [(1,.ptr 0 0),(2,.b_ false)] [bI p_v] 10 15 r0 (ad7 p_v r0) fun r1=>
 .sk Tryz.f170 0 [1,0] 13 4 1 (fun r_=>⟨[(2,.b_ false),(19,.b_ r_)],[.dead]⟩) ⟨[(1,.ptr 0 0),(2,.b_ false),(15,.b_ r1)],[bI p_v]⟩ (ZG p_v r1) fun r2=>
 .sk Tryz.f170 0 [1,0] 17 1 1 (fun r_=>⟨[(2,.b_ r2)],[.dead]⟩) ⟨[(2,.b_ false),(19,.b_ r2)],[.dead]⟩ (gu r2) fun r3=>
 .ret (bF 1) (r2)
noncomputable def Q75(p_v:aj):Option (Bool):=Mo.den (aiv p_v)
theorem akp(p_v:aj):FV (Q75 p_v) 170 [.dat (aj.lf1 p_v)] .b_:=dI Tryz.func170
noncomputable def ad8(p_n:Int):Mo (Int):=
 .say [] (okc (by decide:(0:Int)≤1) (ok1 (by decide:(0:Int)≤63)))<|
 .ret (bF 1) (gW .xor .u64 (afa .u64 (IntKind.wrap .u64 p_n) 1) (IntKind.wrap .u64 (qy .i64 p_n 63)))
noncomputable def akq(p_n:Int):Option (Int):=Mo.den (ad8 p_n)
theorem ahj(p_n:Int):FV (akq p_n) 253 [.i_ p_n] (fun r=>.lf (.int .u64 r)):=dI Tryz.func253
noncomputable def FZ :(Int×Int)→Mo ((Int×Int)⊕(Int)):=fun(v0,v1)=>
 .iB (decide ((128:Int)≤v1)) (.say [] (ok1 (by decide:(0:Int)≤7))<|
 .rt [3,4] 0 (.inl (IntKind.wrap .i64 (v0+1),qy .u64 v1 7)))<|
 .rt [3] 0 (.inr (v0))
noncomputable def aiw(p_n:Int):Mo (Int):=
 .cl (ahj p_n) fun r0 _=>
 .l1 Tryz.f217 0 [1,1,0,1,0] 0 (.exit 0) (fun(v0,v1)=>⟨[(3,.i_ v0),(4,.lf (.int .u64 v1))],[]⟩) (fun r_=>⟨[(3,.i_ r_)],[]⟩) (FZ ) (1,r0) fun r1=>
 .ret (bF 1) (r1)
noncomputable def Q61(p_n:Int):Option (Int):=Mo.den (aiw p_n)
theorem F5(p_n:Int):FV (Q61 p_n) 217 [.i_ p_n] .i_:=dI Tryz.func217
abbrev Nw(m:aj→Option (Int)):Prop:=∀p_v,FV (m p_v) 161 [.dat (aj.lf1 p_v)] .i_
structure Rn where
 m1:(p_v:aj)→Option (Int)
 ok1:Nw m1
noncomputable def Ro(R_:Rn)(p_v:aj):Mo (Bool):=
 .iB (p_v.aB==3) (.rt [1,3,9,10] 1 (p_v.aB==3))<|
 .rt [1,3,9,10] 1 (p_v.aB==10)
noncomputable def Rq(R_:Rn)(p_v:aj):Mo (Bool):=
 .iB (p_v.aB==4) (.rt [1,3,9,22] 1 (p_v.aB==4))<|
 .rt [1,3,9,22] 1 (p_v.aB==7)
noncomputable def J6(R_:Rn)(p_v:aj):(Int×Int)→Mo ((Int×Int)⊕(Int)):=fun(v0,v1)=>
 .iB (decide ((v1:Int)<(p_v.aX.length:Int))) (.gx aj.aY p_v.aX v1 fun x0 _=>
 .cl (R_.ok1 x0) fun r0 _=>
 .rt [3,51,52,53] 1 (.inl (IntKind.wrap .i64 (v0+r0),IntKind.wrap .i64 (v1+1))))<|
 .rt [3] 1 (.inr (v0))
noncomputable def J7(R_:Rn)(p_v:aj):(Int×Int)→Mo ((Int×Int)⊕(Int)):=fun(v0,v1)=>
 .iB (decide ((v1:Int)<(p_v.bC.length:Int))) (.gx aF.aY p_v.bC v1 fun x0 _=>
 .say [.order [(true,0),(true,1),(true,2),(true,3),(true,5),(true,6),(true,7),(true,9),(true,10),(false,4),(true,8),(false,11),(true,12),(true,13),(true,14)] none []] ok0<|
 .cl (F5 (x0.fName.size:Int)) fun r0 _=>
 .cl (R_.ok1 x0.fValue) fun r1 _=>
 .rt [3,71,72,73] 1 (.inl (IntKind.wrap .i64 (v0+(IntKind.wrap .i64 ((IntKind.wrap .i64 (r0+(x0.fName.size:Int)))+r1))),IntKind.wrap .i64 (v1+1))))<|
 .rt [3] 1 (.inr (v0))
noncomputable def J8(R_:Rn)(p_v:aj):Mo (Int):=
 .jk Tryz.f161 0 [1,1,0,1,0,0,1] 1 (fun r_=>⟨[(1,.ptr 0 0),(3,.i_ 1),(9,.i_ p_v.aB),(10,.b_ r_)],[bI p_v]⟩) ⟨[(1,.ptr 0 0),(3,.i_ 1),(9,.i_ p_v.aB),(10,.lf (.bool (p_v.aB==3)))],[bI p_v]⟩ (Ro R_ p_v) fun r0=>
 .iB (r0) (.cl (F5 p_v.dG) fun r1 _=>
 .ret ⟨[.kill 0],[3],[],1⟩ (IntKind.wrap .i64 (1+r1)))<|
 .iB (p_v.aB==9) (.ret ⟨[.kill 0],[3],[],1⟩ (IntKind.wrap .i64 (1+1)))<|
 .jk Tryz.f161 0 [1,1,0,1,0,1,1,1,1,0,1] 1 (fun r_=>⟨[(1,.ptr 0 0),(3,.i_ 1),(9,.i_ p_v.aB),(22,.b_ r_)],[bI p_v]⟩) ⟨[(1,.ptr 0 0),(3,.i_ 1),(9,.i_ p_v.aB),(22,.lf (.bool (p_v.aB==4)))],[bI p_v]⟩ (Rq R_ p_v) fun r2=>
 .iB (r2) (.say [.order [(true,0),(true,1),(true,2),(true,3),(true,5),(true,6),(true,7),(false,4),(true,8),(true,9),(true,10)] none []] ok0<|
 .cl (F5 (p_v.fText.size:Int)) fun r3 _=>
 .ret ⟨[.kill 0],[3],[],1⟩ (IntKind.wrap .i64 (1+(IntKind.wrap .i64 (r3+(p_v.fText.size:Int))))))<|
 .iB (p_v.aB==8) (.ret ⟨[.kill 0],[3],[],1⟩ (IntKind.wrap .i64 (1+(p_v.fText.size:Int))))<|
 .iB (p_v.aB==6) (.nu p_v.aX aj.lf<|
 .ask (Q61 (p_v.aX.length:Int)) fun r4 h0=>
 .say [.res (.i_ r4),.num p_v.aX.length] (okc (F5 _ _ h0) (ok1 (ln_ p_v.aX aj.lf)))<|
 .l1y [.kill 0] Tryz.f161 0 [1,1,0,1,0,1,1,1,1,1,1,1,1,1,0,1,1,0] 0 (.exit 1) (fun(v0,v1)=>⟨[(3,.i_ v0),(51,.lf (.rows 5 (p_v.aX.map aj.lf))),(52,.i_ (p_v.aX.length:Int)),(53,.i_ v1)],[.dead]⟩) (fun r_=>⟨[(3,.i_ r_)],[.dead]⟩) (J6 R_ p_v) ((IntKind.wrap .i64 (1+r4)),0) fun r5=>
 .rt [3] 1 (r5))<|
 .iB (p_v.aB==5) (.nu p_v.bC aF.lf<|
 .ask (Q61 (p_v.bC.length:Int)) fun r6 h1=>
 .say [.res (.i_ r6),.num p_v.bC.length] (okc (F5 _ _ h1) (ok1 (ln_ p_v.bC aF.lf)))<|
 .l1y [.kill 0] Tryz.f161 0 [1,1,0,1,0,1,1,1,1,1,1,1,1,1,1,1,0,1,1,0] 0 (.exit 3) (fun(v2,v3)=>⟨[(3,.i_ v2),(71,.lf (.rows 6 (p_v.bC.map aF.lf))),(72,.i_ (p_v.bC.length:Int)),(73,.i_ v3)],[.dead]⟩) (fun r_=>⟨[(3,.i_ r_)],[.dead]⟩) (J7 R_ p_v) ((IntKind.wrap .i64 (1+r6)),0) fun r7=>
 .rt [3] 1 (r7))<|
 .ret ⟨[.kill 0],[3],[],1⟩ (1)
noncomputable def ad9(R_:Rn)(p_v:aj):Mo (Int):=
 .jk Tryz.f161 0 [1,1,0,1] 6 (fun r_=>⟨[(3,.i_ r_)],[.dead]⟩) ⟨[(1,.ptr 0 0),(3,.i_ 1),(9,.i_ p_v.aB)],[bI p_v]⟩ (J8 R_ p_v) fun r0=>
 .ret (bF 1) (r0)
theorem ahk(R_:Rn):Nw fun p_v=>Mo.den (ad9 R_ p_v):=fun _=>dI Tryz.func161
noncomputable def pI:Nat→Rn
 |0=>{ m1:=fun p_v=>none,ok1:=fun _ _ h=>(by cases h) }
 |n_+1=>{ m1:=fun p_v=>Mo.den (ad9 (pI n_) p_v),ok1:=ahk (pI n_) }
noncomputable def Q44(p_v:aj):Option (Int):=(pI FU).m1 p_v
theorem akr:Nw Q44:=(pI FU).ok1
noncomputable def aea(p_v:aj):Mo (Int×Int):=
 .cl (sZ p_v) fun r0 _=>
 .iB (!r0) (.ret (bF 2) (0,8))<|
 .cl (akr p_v) fun r1 _=>
 .ret (bF 2) (r1,0)
noncomputable def aml(p_v:aj):Option (Int×Int):=Mo.den (aea p_v)
theorem ahl(p_v:aj):FV (aml p_v) 98 [.dat (aj.lf1 p_v)] (fun r=>.tup [.i_ r.1,.i_ r.2]):=dI Tryz.func98
noncomputable def Rt(p_doc:aj)(p_key:aj):Mo (Bool):=
 .iG 4003 (p_doc.aB != 5) (.rt [2,3,14] 2 (true))<|
 .cl (sZ p_doc) fun r0 _=>
 .rt [2,3,14] 2 (!r0)
noncomputable def Ru(p_doc:aj)(p_key:aj)(r0:Bool):Mo (Bool):=
 .iG 4008 (r0) (.rt [2,3,20] 2 (true))<|
 .nu p_doc.bC aF.lf<|
 .rt [2,3,20] 2 ((p_doc.bC.length:Int)==0)
noncomputable def J9(p_doc:aj)(p_key:aj):Mo (Bool):=
 .ask (jf p_doc.bC 0) fun x0 h0=>
 .say [] (ok1 (eu aF.aY h0))<|
 .ite (!decide ((x0.fName:ByteArray)=(⟨#[95,105,100]⟩:ByteArray))) (fun c0=>
 .say [.eG (.q 0 (.q 1 (.q 2 (.q 3 (.q 4 (.q 5 (.q 6 (.q 7 (.q 8 (.q 9 (.q 10 (.q 11 (.q 12 (.l 13 (.q 14 (.q 15 .fin)))))))))))))))) (some 13) [] [.row (aF.lf1 x0),.gd 8006 true] [2,36] 2 [(2,.ptr 0 0),(36,.b_ true)] [bI p_doc,bI p_key]] (okc c0 (ok1 (rf_ ⟨[(2,.ptr 0 0),(36,.b_ true)],[bI p_doc,bI p_key]⟩)))<|
 .ret ⟨[.kill 1],[2,36],[],2⟩ (true)) fun c0=>
 .say [] (ok1 c0)<|
 .ask (jf p_doc.bC 0) fun x1 h1=>
 .say [] (ok1 (eu aF.aY h1))<|
 .ask (YW x1.fValue p_key) fun r0 h2=>
 .say [.eG (.q 0 (.q 1 (.q 2 (.q 3 (.q 4 (.q 5 (.q 6 (.q 7 (.q 8 (.q 9 (.q 10 (.q 11 (.q 12 (.l 13 (.q 14 (.q 15 .fin)))))))))))))))) (some 13) [] [.row (aF.lf1 x0),.gd 8006 false,.row (aF.lf1 x1),.res (.b_ r0)] [2,36] 2 [(2,.ptr 0 0),(36,.lf (.bool (!r0)))] [bI p_doc,bI p_key]] (okc (MX _ _ _ h2) (ok1 (rf_ ⟨[(2,.ptr 0 0),(36,.lf (.bool (!r0)))],[bI p_doc,bI p_key]⟩)))<|
 .ret ⟨[.kill 1],[2,36],[],2⟩ (!r0)
noncomputable def aix(p_doc:aj)(p_key:aj):Mo (Int):=
 .sf Tryz.f171 0 [1,0,0] 0 8 1 [(2,.ptr 0 0),(3,.ptr 1 0)] [bI p_doc,bI p_key] 14 (Rt p_doc p_key) fun r0=>
 .sb Tryz.f171 0 [1,0,0] 8 6 1 [(2,.ptr 0 0),(3,.ptr 1 0)] [bI p_doc,bI p_key] 14 20 r0 (Ru p_doc p_key r0) fun r1=>
 .iB (r1) (.ret (bF 1) (8))<|
 .jk Tryz.f171 0 [1,1,0,0] 13 (fun r_=>⟨[(2,.ptr 0 0),(36,.b_ r_)],[bI p_doc,.dead]⟩) ⟨[(2,.ptr 0 0),(3,.ptr 1 0)],[bI p_doc,bI p_key]⟩ (J9 p_doc p_key) fun r2=>
 .iB (r2) (.ret (bF 1) (8))<|
 .cl (ahl p_doc) fun r3 _=>
 .iB (r3.2 != 0) (.ret (bF 1) (r3.2))<|
 .iB (decide ((16384:Int)<r3.1)) (.ret (bF 1) (2))<|
 .ret (bF 1) (0)
noncomputable def Q64(p_doc:aj)(p_key:aj):Option (Int):=Mo.den (aix p_doc p_key)
theorem aeb(p_doc:aj)(p_key:aj):FV (Q64 p_doc p_key) 171 [.dat (aj.lf1 p_doc),.dat (aj.lf1 p_key)] .i_:=dI Tryz.func171
noncomputable def ZH(p_w:ay):Mo ((Int)⊕Unit):=
 .iB (p_w.aB==2) (.cl (aeb p_w.bC p_w.dL) fun r0 _=>
 .iB (r0 != 0) (.ret ⟨[.kill 0],[2],[],1⟩ (.inl (r0)))<|
 .rt [1] 1 (.inr (())))<|
 .rt [1] 1 (.inr (()))
noncomputable def aec(p_w:ay):Mo (Int):=
 .cl (akp p_w.dL) fun r0 _=>
 .iB (!r0) (.ret (bF 1) (8))<|
 .j2 [] Tryz.f111 0 [1,1,0,1] 1 .ret (fun o_=>⟨[(2,.i_ o_)],[.dead]⟩) .normal (fun _=>⟨[(1,.ptr 0 0)],[cO p_w]⟩) ⟨[(1,.ptr 0 0),(10,.lf (.bool (p_w.aB==2)))],[cO p_w]⟩ (ZH p_w) (fun o0=>
 .ret (bF 1) (o0)) fun o1=>
 .cl (vw p_w.ig) fun r1 _=>
 .iB (r1) (.ret (bF 1) (0))<|
 .cl (aeb p_w.ig p_w.dL) fun r2 _=>
 .ret (bF 1) (r2)
noncomputable def amm(p_w:ay):Option (Int):=Mo.den (aec p_w)
theorem ahm(p_w:ay):FV (amm p_w) 111 [.dat (ay.lf1 p_w)] .i_:=dI Tryz.func111
abbrev Ny(m:ay→Int→Int→Option (Int)):Prop:=∀p_w p_least p_greatest,FV (m p_w p_least p_greatest) 70 [.dat (ay.lf1 p_w),.i_ p_least,.i_ p_greatest] .i_
structure Ae where
 m1:(p_w:ay)→(p_least:Int)→(p_greatest:Int)→Option (Int)
 ok1:Ny m1
noncomputable def Nz(R_:Ae)(p_greatest:Int)(p_least:Int)(p_w:ay)(r0:aQ):Mo (Bool):=
 .oV 6004 (decide ((p_w.aB:Int)<p_least)) [2,3,7,24] 2 (decide ((p_greatest:Int)<p_w.aB))
noncomputable def NC(R_:Ae)(p_greatest:Int)(p_w:ay)(r0:aQ)(r1:Bool):Mo (Bool):=
 .iG 6010 (r1) (.rt [2,3,7,29] 2 (true))<|
 .cl (akn p_w) fun r2 _=>
 .rt [2,3,7,29] 2 (!r2)
noncomputable def F6(R_:Ae)(p_greatest:Int)(p_w:ay)(r0:aQ)(r1:Bool):Mo (Bool):=
 .iG 6015 (r1) (.rt [2,3,7,39] 2 (true))<|
 .iG 6018 (r0.bJ) (.nu p_w.bG ay.lf<|
 .rt [2,3,7,39] 2 ((p_w.bG.length:Int)==0))<|
 .rt [2,3,7,39] 2 (false)
noncomputable def F7(R_:Ae)(p_greatest:Int)(p_w:ay)(r0:aQ):Mo (Bool):=
 .iG 14002 (r0.lK) (.cl (Nv p_w.aT) fun r1 _=>
 .rt [2,3,7,51] 2 (!r1))<|
 .rt [2,3,7,51] 2 (false)
noncomputable def F8(R_:Ae)(p_greatest:Int)(p_w:ay)(r0:aQ)(r1:Bool):Mo (Bool):=
 .iG 14008 (r1) (.rt [2,3,7,61] 2 (true))<|
 .iG 14011 (r0.zy) (.cl (Nv p_w.dP) fun r2 _=>
 .rt [2,3,7,61] 2 (!r2))<|
 .rt [2,3,7,61] 2 (false)
noncomputable def F9(R_:Ae)(p_greatest:Int)(p_w:ay)(r0:aQ)(r1:Bool):Mo (Bool):=
 .iG 14018 (r1) (.rt [2,3,7,72] 2 (true))<|
 .iG 14021 (r0.gJ) (.cl (Nv p_w.eP.fName) fun r2 _=>
 .rt [2,3,7,72] 2 (!r2))<|
 .rt [2,3,7,72] 2 (false)
noncomputable def Rx(R_:Ae)(p_greatest:Int)(p_w:ay)(r0:aQ):Mo (Bool):=
 .iG 18002 (r0.dw) (.cl (ahi p_w) fun r1 _=>
 .rt [2,3,7,79] 2 (!r1))<|
 .rt [2,3,7,79] 2 (false)
noncomputable def Ry(R_:Ae)(p_greatest:Int)(p_w:ay)(r0:aQ)(r1:Bool):Mo (Bool):=
 .iG 18007 (r1) (.rt [2,3,7,89] 2 (true))<|
 .iG 18010 (r0.kP) (.cl (ako p_w.iq) fun r2 _=>
 .rt [2,3,7,89] 2 (!r2))<|
 .rt [2,3,7,89] 2 (false)
noncomputable def Rz(R_:Ae)(p_greatest:Int)(p_w:ay)(r0:aQ):Mo ((Int)⊕Unit):=
 .iB (r0.zx) (.cl (ahm p_w) fun r1 _=>
 .iB (r1 != 0) (.ret ⟨[.kill 0],[6],[],2⟩ (.inl (r1)))<|
 .rt [2,3] 2 (.inr (())))<|
 .rt [2,3] 2 (.inr (()))
noncomputable def RD(R_:Ae)(p_greatest:Int)(p_w:ay):Mo ((Int)⊕(Int)):=
 .iB (p_w.aB==4) (.cl (adr p_w.gy) fun r0 _=>
 .ret ⟨[.kill 0],[6],[],2⟩ (.inl (r0)))<|
 .iB (p_w.aB==6) (.cl (UC p_w.eP) fun r1 _=>
 .ret ⟨[.kill 0],[6],[],2⟩ (.inl (r1)))<|
 .iB (p_w.aB==8) (.rt [2,3] 2 (.inr (7)))<|
 .iB (p_w.aB==9) (.rt [2,3] 2 (.inr (3)))<|
 .rt [2,3] 2 (.inr (p_greatest))
noncomputable def RF(R_:Ae)(o0:Int)(p_w:ay):(Int)→Mo ((Int)⊕(Int)⊕Unit):=fun(v0)=>
 .iB (decide ((v0:Int)<(p_w.bG.length:Int))) (.gx ay.aY p_w.bG v0 fun x0 _=>
 .cl (R_.ok1 x0 2 o0) fun r0 _=>
 .iB (r0 != 0) (.rt [6] 2 (.inr (.inl (r0))))<|
 .rt [2,114,115,116] 2 (.inl (IntKind.wrap .i64 (v0+1))))<|
 .rt [] 2 (.inr (.inr (())))
noncomputable def aok(R_:Ae)(o0:Int)(p_w:ay)(v0:Int):Option ((Int)⊕Unit):=dA (fun v_=>(RF R_ o0 p_w v_).den) FU (v0)
noncomputable def aed(R_:Ae)(p_w:ay)(p_least:Int)(p_greatest:Int):Mo (Int):=
 .cl (Xy p_w.aB) fun r0 _=>
 .sk Tryz.f70 0 [1,1,0,0] 0 10 2 (fun r_=>⟨[(2,.i_ p_greatest),(3,.ptr 0 0),(7,.ptr 1 0),(24,.b_ r_)],[cO p_w,.box 187 (.agg ((aQ.lf1 r0).map AV.lf))]⟩) ⟨[(1,.i_ p_least),(2,.i_ p_greatest),(3,.ptr 0 0),(7,.ptr 1 0)],[cO p_w,.box 187 (.agg ((aQ.lf1 r0).map AV.lf))]⟩ (Nz R_ p_greatest p_least p_w r0) fun r1=>
 .sb Tryz.f70 0 [1,1,0,0] 10 5 2 [(2,.i_ p_greatest),(3,.ptr 0 0),(7,.ptr 1 0)] [cO p_w,.box 187 (.agg ((aQ.lf1 r0).map AV.lf))] 24 29 r1 (NC R_ p_greatest p_w r0 r1) fun r2=>
 .sb Tryz.f70 0 [1,1,0,0] 15 10 2 [(2,.i_ p_greatest),(3,.ptr 0 0),(7,.ptr 1 0)] [cO p_w,.box 187 (.agg ((aQ.lf1 r0).map AV.lf))] 29 39 r2 (F6 R_ p_greatest p_w r0 r2) fun r3=>
 .iB (r3) (.ret (bF 1) (11))<|
 .nu p_w.bG ay.lf<|
 .iB (decide ((256:Int)<(p_w.bG.length:Int))) (.ret (bF 1) (2))<|
 .sf Tryz.f70 0 [1,1,1,1,0,0] 0 8 6 [(2,.i_ p_greatest),(3,.ptr 0 0),(7,.ptr 1 0)] [cO p_w,.box 187 (.agg ((aQ.lf1 r0).map AV.lf))] 51 (F7 R_ p_greatest p_w r0) fun r4=>
 .sb Tryz.f70 0 [1,1,1,1,0,0] 8 10 6 [(2,.i_ p_greatest),(3,.ptr 0 0),(7,.ptr 1 0)] [cO p_w,.box 187 (.agg ((aQ.lf1 r0).map AV.lf))] 51 61 r4 (F8 R_ p_greatest p_w r0 r4) fun r5=>
 .sb Tryz.f70 0 [1,1,1,1,0,0] 18 11 6 [(2,.i_ p_greatest),(3,.ptr 0 0),(7,.ptr 1 0)] [cO p_w,.box 187 (.agg ((aQ.lf1 r0).map AV.lf))] 61 72 r5 (F9 R_ p_greatest p_w r0 r5) fun r6=>
 .iB (r6) (.ret (bF 1) (9))<|
 .sf Tryz.f70 0 [1,1,1,1,1,0,0] 0 7 8 [(2,.i_ p_greatest),(3,.ptr 0 0),(7,.ptr 1 0)] [cO p_w,.box 187 (.agg ((aQ.lf1 r0).map AV.lf))] 79 (Rx R_ p_greatest p_w r0) fun r7=>
 .sb Tryz.f70 0 [1,1,1,1,1,0,0] 7 10 8 [(2,.i_ p_greatest),(3,.ptr 0 0),(7,.ptr 1 0)] [cO p_w,.box 187 (.agg ((aQ.lf1 r0).map AV.lf))] 79 89 r7 (Ry R_ p_greatest p_w r0 r7) fun r8=>
 .iB (r8) (.ret (bF 1) (1))<|
 .j2 [.kill 1] Tryz.f70 0 [1,1,1,1,1,1,0,1] 1 .ret (fun o_=>⟨[(6,.i_ o_)],[.dead,.dead]⟩) .normal (fun _=>⟨[(2,.i_ p_greatest),(3,.ptr 0 0)],[cO p_w,.dead]⟩) ⟨[(2,.i_ p_greatest),(3,.ptr 0 0),(91,.b_ r0.zx)],[cO p_w,.dead]⟩ (Rz R_ p_greatest p_w r0) (fun o0=>
 .ret (bF 1) (o0)) fun o1=>
 .j2 [] Tryz.f70 0 [1,1,1,1,1,1,1,0,1] 6 .ret (fun o_=>⟨[(6,.i_ o_)],[.dead,.dead]⟩) .normal (fun o_=>⟨[(2,.i_ o_),(3,.ptr 0 0)],[cO p_w,.dead]⟩) ⟨[(2,.i_ p_greatest),(3,.ptr 0 0),(98,.i_ p_w.aB)],[cO p_w,.dead]⟩ (RD R_ p_greatest p_w) (fun o2=>
 .ret (bF 1) (o2)) fun o3=>
 .nu p_w.bG ay.lf<|
 .l2m [.kill 0] Tryz.f70 0 [1,1,1,1,1,1,1,1,0,1,0] 0 (fun(v0)=>⟨[(2,.i_ o3),(114,.lf (.rows 78 (p_w.bG.map ay.lf))),(115,.i_ (p_w.bG.length:Int)),(116,.i_ v0)],[.dead,.dead]⟩) .ret (fun o_=>⟨[(6,.i_ o_)],[.dead,.dead]⟩) (.exit 1) (fun _=>⟨[],[.dead,.dead]⟩) (aok R_ o3 p_w 0) (RF R_ o3 p_w) (0) (fun o4=>
 .ret (bF 1) (o4)) fun o5=>
 .ret (bF 1) (0)
theorem aks(R_:Ae):Ny fun p_w p_least p_greatest=>Mo.den (aed R_ p_w p_least p_greatest):=fun _ _ _=>dI Tryz.func70
noncomputable def jM:Nat→Ae
 |0=>{ m1:=fun p_w p_least p_greatest=>none,ok1:=fun _ _ _ _ h=>(by cases h) }
 |n_+1=>{ m1:=fun p_w p_least p_greatest=>Mo.den (aed (jM n_) p_w p_least p_greatest),ok1:=aks (jM n_) }
noncomputable def Q8(p_w:ay)(p_least:Int)(p_greatest:Int):Option (Int):=(jM FU).m1 p_w p_least p_greatest
theorem amn:Ny Q8:=(jM FU).ok1
noncomputable def RH(p_e:bD):Mo (Bool):=
 .oV 8003 (decide ((p_e.bW:Int)<1)) [1,13] 1 (decide ((1099511627776:Int)<p_e.bW))
noncomputable def RI(p_e:bD)(r0:Bool):Mo (Bool):=
 .oV 8008 (r0) [1,18] 1 (decide ((p_e.qj:Int)<0))
noncomputable def Ko(p_e:bD):Mo (Bool):=
 .iG 12003 (!decide ((p_e.eU:ByteArray)=(⟨#[]⟩:ByteArray))) (.cl (Nv p_e.eU) fun r0 _=>
 .rt [1,27] 1 (!r0))<|
 .rt [1,27] 1 (false)
noncomputable def Xz(p_e:bD):Mo (Int):=
 .iB (decide ((p_e.aa1:Int)<0)) (.ret (bF 1) (24))<|
 .sf Tryz.f39 0 [1,1,0,0] 0 8 3 [(1,.ptr 0 0)] [Pq p_e] 13 (RH p_e) fun r0=>
 .sb Tryz.f39 0 [1,1,0,0] 8 5 3 [(1,.ptr 0 0)] [Pq p_e] 13 18 r0 (RI p_e r0) fun r1=>
 .iB (r1) (.ret (bF 1) (1))<|
 .jk Tryz.f39 0 [1,1,1,0,0] 17 (fun r_=>⟨[(1,.ptr 0 0),(27,.b_ r_)],[Pq p_e]⟩) ⟨[(1,.ptr 0 0)],[Pq p_e]⟩ (Ko p_e) fun r2=>
 .iB (r2) (.ret (bF 1) (9))<|
 .cl (amn p_e.dZ 1 12) fun r3 _=>
 .ret (bF 1) (r3)
noncomputable def Q66(p_e:bD):Option (Int):=Mo.den (Xz p_e)
theorem akt(p_e:bD):FV (Q66 p_e) 39 [.dat (bD.lf1 p_e)] .i_:=dI Tryz.func39
noncomputable def RJ(l0:List ay)(p_b0_0:Int)(p_b0_1:List ak)(p_s1:aZ)(p_s2:List (ByteArray×ah))(p_s3:List (ByteArray×au))(p_t:Int)(p_w:ay)(v0:Int)(v1:Int)(x0:ay)(x1:ay):Mo (Bool):=
 .iG 30005 (decide ((x0.aT:ByteArray)=(x1.aT:ByteArray))) (.cl (MX x0.dL x1.dL) fun r0 _=>
 .ret ⟨[.kill 9],[0,2,4,9,11,30,31,32,44,45,46,61],[],10⟩ (r0))<|
 .ret ⟨[.kill 9],[0,2,4,9,11,30,31,32,44,45,46,61],[],10⟩ (false)
noncomputable def Af(l0:List ay)(p_b0_0:Int)(p_b0_1:List ak)(p_s1:aZ)(p_s2:List (ByteArray×ah))(p_s3:List (ByteArray×au))(p_t:Int)(p_w:ay)(v0:Int)(x0:ay):(Int)→Mo ((Int)⊕(Unit⊕Unit)):=fun(v1)=>
 .iB (decide ((v1:Int)<(l0.length:Int))) (.ask (jf l0 v1) fun x1 h0=>
 .say [.row (ay.lf1 x1)] (okc (sK ay.aY h0) (ok1 ((eu ay.aY h0).2)))<|
 .jk Tryz.f72 4 [1,1,1,0,1,0,0,1,1,0,0,1,1,0,1,0,0,1,1,0,0,1,0] 35 (fun r_=>⟨[(0,.ptr 0 0),(2,.i_ p_t),(4,.ptr 4 0),(9,.ptr 6 0),(11,.ptr 8 0),(30,.lf (.rows 78 (p_w.bG.map ay.lf))),(31,.i_ (p_w.bG.length:Int)),(32,.i_ v0),(44,.own 7),(45,.i_ (l0.length:Int)),(46,.i_ v1),(61,.b_ r_)],[.box 113 (.agg [.i_ p_b0_0,.lf (.rows 25 (p_b0_1.map ak.lf)),.mp 1,.mp 2,.mp 3]),.res (bH p_s1 none) none,.res (bP p_s2) none,.res (bT p_s3) none,cO p_w,.dead,.box 128 (.agg [.i_ p_t,.own 7]),.row 64 78 (l0.map ay.lf),.box 64 (.agg ((ay.lf1 x0).map AV.lf)),.dead]⟩) ⟨[(0,.ptr 0 0),(2,.i_ p_t),(4,.ptr 4 0),(9,.ptr 6 0),(11,.ptr 8 0),(14,.ptr 9 0),(30,.lf (.rows 78 (p_w.bG.map ay.lf))),(31,.i_ (p_w.bG.length:Int)),(32,.i_ v0),(44,.own 7),(45,.i_ (l0.length:Int)),(46,.i_ v1)],[.box 113 (.agg [.i_ p_b0_0,.lf (.rows 25 (p_b0_1.map ak.lf)),.mp 1,.mp 2,.mp 3]),.res (bH p_s1 none) none,.res (bP p_s2) none,.res (bT p_s3) none,cO p_w,.dead,.box 128 (.agg [.i_ p_t,.own 7]),.row 64 78 (l0.map ay.lf),.box 64 (.agg ((ay.lf1 x0).map AV.lf)),.box 64 (.agg ((ay.lf1 x1).map AV.lf))]⟩ (RJ l0 p_b0_0 p_b0_1 p_s1 p_s2 p_s3 p_t p_w v0 v1 x0 x1) fun r0=>
 .iB (r0) (.ret ⟨[.kill 4,.kill 6,.kill 7,.kill 8],[6],[],9⟩ (.inr (.inl ())))<|
 .rt [0,2,4,9,11,30,31,32,44,45,46] 9 (.inl (IntKind.wrap .i64 (v1+1))))<|
 .rt [0,2,4,9,11,30,31,32] 9 (.inr (.inr (())))
noncomputable def aee(l0:List ay)(p_b0_0:Int)(p_b0_1:List ak)(p_s1:aZ)(p_s2:List (ByteArray×ah))(p_s3:List (ByteArray×au))(p_t:Int)(p_w:ay)(v0:Int)(x0:ay)(v1:Int):Option (Unit⊕Unit):=dA (fun v_=>(Af l0 p_b0_0 p_b0_1 p_s1 p_s2 p_s3 p_t p_w v0 x0 v_).den) FU (v1)
noncomputable def wP(p_b0_0:Int)(p_b0_1:List ak)(p_s1:aZ)(p_s2:List (ByteArray×ah))(p_s3:List (ByteArray×au))(p_t:Int)(p_w:ay):(Int×(List ay))→Mo ((Int×(List ay))⊕(Int)⊕((List ay))):=fun(v0,l0)=>
 .iB (decide ((v0:Int)<(p_w.bG.length:Int))) (.gx ay.aY p_w.bG v0 fun x0 _=>
 .say [.at_ 18 3,.tod 37] ok0<|
 .cH [0,1,2,3] (adf x0 p_t p_b0_0 p_b0_1 p_s1 p_s2 p_s3) fun r0 _=>
 .iB (r0 != 0) (.ret ⟨[.kill 4,.kill 6,.kill 7],[6],[],8⟩ (.inr (.inl (r0))))<|
 .nu l0 ay.lf<|
 .l2m [] Tryz.f72 4 [1,1,1,0,1,0,0,1,1,0,0,1,1,0,1,0] 0 (fun(v1)=>⟨[(0,.ptr 0 0),(2,.i_ p_t),(4,.ptr 4 0),(9,.ptr 6 0),(11,.ptr 8 0),(30,.lf (.rows 78 (p_w.bG.map ay.lf))),(31,.i_ (p_w.bG.length:Int)),(32,.i_ v0),(44,.own 7),(45,.i_ (l0.length:Int)),(46,.i_ v1)],[.box 113 (.agg [.i_ p_b0_0,.lf (.rows 25 (p_b0_1.map ak.lf)),.mp 1,.mp 2,.mp 3]),.res (bH p_s1 none) none,.res (bP p_s2) none,.res (bT p_s3) none,cO p_w,.dead,.box 128 (.agg [.i_ p_t,.own 7]),.row 64 78 (l0.map ay.lf),.box 64 (.agg ((ay.lf1 x0).map AV.lf))]⟩) .ret (fun _=>⟨[(6,.i_ 28)],[.box 113 (.agg [.i_ p_b0_0,.lf (.rows 25 (p_b0_1.map ak.lf)),.mp 1,.mp 2,.mp 3]),.res (bH p_s1 none) none,.res (bP p_s2) none,.res (bT p_s3) none,.dead,.dead,.dead,.dead,.dead]⟩) (.exit 2) (fun _=>⟨[(0,.ptr 0 0),(2,.i_ p_t),(4,.ptr 4 0),(9,.ptr 6 0),(11,.ptr 8 0),(30,.lf (.rows 78 (p_w.bG.map ay.lf))),(31,.i_ (p_w.bG.length:Int)),(32,.i_ v0)],[.box 113 (.agg [.i_ p_b0_0,.lf (.rows 25 (p_b0_1.map ak.lf)),.mp 1,.mp 2,.mp 3]),.res (bH p_s1 none) none,.res (bP p_s2) none,.res (bT p_s3) none,cO p_w,.dead,.box 128 (.agg [.i_ p_t,.own 7]),.row 64 78 (l0.map ay.lf),.box 64 (.agg ((ay.lf1 x0).map AV.lf))]⟩) (aee l0 p_b0_0 p_b0_1 p_s1 p_s2 p_s3 p_t p_w v0 x0 0) (Af l0 p_b0_0 p_b0_1 p_s1 p_s2 p_s3 p_t p_w v0 x0) (0) (fun o0=>
 .rt [6] 8 (.inr (.inl (28)))) fun o1=>
 .ask (Q15 x0.dL) fun r1 h0=>
 .say [] (ok1 (uZ _ _ h0))<|
 .ask (Q15 x0.bC) fun r2 h1=>
 .say [.eG (.q 0 (.q 1 (.q 2 (.q 3 (.q 4 (.q 5 (.q 7 (.q 8 (.alt 6 (.alt 9 (.q 10 (.l 11 (.l 12 .fin))) (.l 11 (.l 9 (.q 10 (.l 12 .fin))))) (.l 11 (.l 6 (.l 9 (.q 10 (.l 12 .fin)))))))))))))) (some 12) [9] [.both [.at_ 36 6,.resv 1,.res (.dat (aj.lf1 r1)),.both [.res (.dat (aj.lf1 r2)),.slot 9] [.slot 9,.res (.dat (aj.lf1 r2))]] [.at_ 36 11,.resv 1,.slot 9,.res (.dat (aj.lf1 r1)),.res (.dat (aj.lf1 r2))]] [0,2,4,9,15,30,31,32] 10 [(0,.ptr 0 0),(2,.i_ p_t),(4,.ptr 4 0),(9,.ptr 6 0),(15,.ptr 9 0),(30,.lf (.rows 78 (p_w.bG.map ay.lf))),(31,.i_ (p_w.bG.length:Int)),(32,.i_ v0)] [.box 113 (.agg [.i_ p_b0_0,.lf (.rows 25 (p_b0_1.map ak.lf)),.mp 1,.mp 2,.mp 3]),.res (bH p_s1 none) none,.res (bP p_s2) none,.res (bT p_s3) none,cO p_w,.dead,.box 128 (.agg [.i_ p_t,.own 7]),.row 64 78 (l0.map ay.lf),.box 64 (.agg ((ay.lf1 x0).map AV.lf)),.box 64 (Et Z64 [(0,.i_ x0.aB),(1,.lf (.str x0.aT)),(2,.i_ r1.aB),(3,.i_ r1.dG),(4,.lf (.str r1.fText)),(5,.lf (.rows 5 (r1.aX.map aj.lf))),(6,.lf (.rows 6 (r1.bC.map aF.lf))),(7,.i_ r2.aB),(8,.i_ r2.dG),(9,.lf (.str r2.fText)),(10,.lf (.rows 5 (r2.aX.map aj.lf))),(11,.lf (.rows 6 (r2.bC.map aF.lf)))])],.rows ((l0++[ay.OQ (ay.OO (ay.uO (ay.qP ay.z x0.aB) x0.aT) r1) r2]).map ay.lf)] (okc (uZ _ _ h1) (okc (rf_ ⟨[(0,.ptr 0 0),(2,.i_ p_t),(4,.ptr 4 0),(9,.ptr 6 0),(15,.ptr 9 0),(30,.lf (.rows 78 (p_w.bG.map ay.lf))),(31,.i_ (p_w.bG.length:Int)),(32,.i_ v0)],[.box 113 (.agg [.i_ p_b0_0,.lf (.rows 25 (p_b0_1.map ak.lf)),.mp 1,.mp 2,.mp 3]),.res (bH p_s1 none) none,.res (bP p_s2) none,.res (bT p_s3) none,cO p_w,.dead,.box 128 (.agg [.i_ p_t,.own 7]),.row 64 78 (l0.map ay.lf),.box 64 (.agg ((ay.lf1 x0).map AV.lf)),.box 64 (Et Z64 [(0,.i_ x0.aB),(1,.lf (.str x0.aT)),(2,.i_ r1.aB),(3,.i_ r1.dG),(4,.lf (.str r1.fText)),(5,.lf (.rows 5 (r1.aX.map aj.lf))),(6,.lf (.rows 6 (r1.bC.map aF.lf))),(7,.i_ r2.aB),(8,.i_ r2.dG),(9,.lf (.str r2.fText)),(10,.lf (.rows 5 (r2.aX.map aj.lf))),(11,.lf (.rows 6 (r2.bC.map aF.lf)))])]⟩) (okc (uZ _ _ h1) (okc (rf_ ⟨[(0,.ptr 0 0),(2,.i_ p_t),(4,.ptr 4 0),(9,.ptr 6 0),(15,.ptr 9 0),(30,.lf (.rows 78 (p_w.bG.map ay.lf))),(31,.i_ (p_w.bG.length:Int)),(32,.i_ v0)],[.box 113 (.agg [.i_ p_b0_0,.lf (.rows 25 (p_b0_1.map ak.lf)),.mp 1,.mp 2,.mp 3]),.res (bH p_s1 none) none,.res (bP p_s2) none,.res (bT p_s3) none,cO p_w,.dead,.box 128 (.agg [.i_ p_t,.own 7]),.row 64 78 (l0.map ay.lf),.box 64 (.agg ((ay.lf1 x0).map AV.lf)),.box 64 (Et Z64 [(0,.i_ x0.aB),(1,.lf (.str x0.aT)),(2,.i_ r1.aB),(3,.i_ r1.dG),(4,.lf (.str r1.fText)),(5,.lf (.rows 5 (r1.aX.map aj.lf))),(6,.lf (.rows 6 (r1.bC.map aF.lf))),(7,.i_ r2.aB),(8,.i_ r2.dG),(9,.lf (.str r2.fText)),(10,.lf (.rows 5 (r2.aX.map aj.lf))),(11,.lf (.rows 6 (r2.bC.map aF.lf)))])]⟩) (okc (uZ _ _ h0) (okc (uZ _ _ h1) (okc (rf_ ⟨[(0,.ptr 0 0),(2,.i_ p_t),(4,.ptr 4 0),(9,.ptr 6 0),(15,.ptr 9 0),(30,.lf (.rows 78 (p_w.bG.map ay.lf))),(31,.i_ (p_w.bG.length:Int)),(32,.i_ v0)],[.box 113 (.agg [.i_ p_b0_0,.lf (.rows 25 (p_b0_1.map ak.lf)),.mp 1,.mp 2,.mp 3]),.res (bH p_s1 none) none,.res (bP p_s2) none,.res (bT p_s3) none,cO p_w,.dead,.box 128 (.agg [.i_ p_t,.own 7]),.row 64 78 (l0.map ay.lf),.box 64 (.agg ((ay.lf1 x0).map AV.lf)),.box 64 (Et Z64 [(0,.i_ x0.aB),(1,.lf (.str x0.aT)),(2,.i_ r1.aB),(3,.i_ r1.dG),(4,.lf (.str r1.fText)),(5,.lf (.rows 5 (r1.aX.map aj.lf))),(6,.lf (.rows 6 (r1.bC.map aF.lf))),(7,.i_ r2.aB),(8,.i_ r2.dG),(9,.lf (.str r2.fText)),(10,.lf (.rows 5 (r2.aX.map aj.lf))),(11,.lf (.rows 6 (r2.bC.map aF.lf)))])]⟩) (ok1 (by simp[ay.aY]:(l0++[ay.OQ (ay.OO (ay.uO (ay.qP ay.z x0.aB) x0.aT) r1) r2]).map ay.lf=(l0.map ay.lf)++[(ay.lf1 (ay.OQ (ay.OO (ay.uO (ay.qP ay.z x0.aB) x0.aT) r1) r2))])))))))))<|
 .grd ((l0.length+[ay.OQ (ay.OO (ay.uO (ay.qP ay.z x0.aB) x0.aT) r1) r2].length)*1168≤140737488355328) fun h2=>
 .say [] (ok1 (cp_ ay.lf h2))<|
 .ret ⟨[],[0,2,4,9,30,31,32],[(11,7)],8⟩ (.inl (IntKind.wrap .i64 (v0+1),l0++[ay.OQ (ay.OO (ay.uO (ay.qP ay.z x0.aB) x0.aT) r1) r2])))<|
 .rt [0,4,9] 8 (.inr (.inr (l0)))
noncomputable def XA(p_b0_0:Int)(p_b0_1:List ak)(p_s1:aZ)(p_s2:List (ByteArray×ah))(p_s3:List (ByteArray×au))(p_t:Int)(p_w:ay)(v0:Int)(l0:List ay):Option ((Int)⊕((List ay))):=dA (fun v_=>(wP p_b0_0 p_b0_1 p_s1 p_s2 p_s3 p_t p_w v_).den) FU (v0,l0)
noncomputable def anp(p_w:ay)(p_t:Int)(p_b0_0:Int)(p_b0_1:List ak)(p_s1:aZ)(p_s2:List (ByteArray×ah))(p_s3:List (ByteArray×au))(r:Int×List (ByteArray×ah)):List AV:=[.i_ r.1]
noncomputable def amo(p_w:ay)(p_t:Int)(p_b0_0:Int)(p_b0_1:List ak)(p_s1:aZ)(p_s2:List (ByteArray×ah))(p_s3:List (ByteArray×au))(r:Int×List (ByteArray×ah)):List Slot:=[.box 113 (.agg [.i_ p_b0_0,.lf (.rows 25 (p_b0_1.map ak.lf)),.mp 1,.mp 2,.mp 3]),.res (bH p_s1 none) none,.res (bP r.2) none,.res (bT p_s3) none]
noncomputable def aef(p_w:ay)(p_t:Int)(p_b0_0:Int)(p_b0_1:List ak)(p_s1:aZ)(p_s2:List (ByteArray×ah))(p_s3:List (ByteArray×au)):Mo (Int×List (ByteArray×ah)):=
 .say [.eG (.q 0 (.q 1 (.q 2 (.q 3 (.q 4 (.q 5 (.alt 6 (.q 7 (.q 8 (.q 9 (.l 10 (.l 11 (.q 12 .fin)))))) (.l 10 (.l 6 (.q 7 (.q 8 (.q 9 (.l 11 (.q 12 .fin)))))))))))))) none [2,5] [.both [.at_ 4 6,.resv 1,.opH [2] (.tup [.dat (ah.lf1 ((aI p_w.dP p_s2).getD ah.z)),.lf (.bool ((aI p_w.dP p_s2).isSome))]) [.res (bP p_s2) none],.slot 5] [.at_ 4 10,.resv 1,.slot 5,.opH [2] (.tup [.dat (ah.lf1 ((aI p_w.dP p_s2).getD ah.z)),.lf (.bool ((aI p_w.dP p_s2).isSome))]) [.res (bP p_s2) none]]] [0,2,4,8] 6 [(0,.ptr 0 0),(2,.i_ p_t),(4,.ptr 4 0),(8,.lf (.bool ((aI p_w.dP p_s2).isSome)))] [.box 113 (.agg [.i_ p_b0_0,.lf (.rows 25 (p_b0_1.map ak.lf)),.mp 1,.mp 2,.mp 3]),.res (bH p_s1 none) none,.res (bP p_s2) none,.res (bT p_s3) none,cO p_w,.box 128 (.agg [.i_ (((aI p_w.dP p_s2).getD ah.z).dw),.lf (.rows 78 ((((aI p_w.dP p_s2).getD ah.z).bJ).map ay.lf))])]] (okc (wF p_s2 p_w.dP) (okc (rf_ ⟨[(0,.ptr 0 0),(2,.i_ p_t),(4,.ptr 4 0),(8,.lf (.bool ((aI p_w.dP p_s2).isSome)))],[.box 113 (.agg [.i_ p_b0_0,.lf (.rows 25 (p_b0_1.map ak.lf)),.mp 1,.mp 2,.mp 3]),.res (bH p_s1 none) none,.res (bP p_s2) none,.res (bT p_s3) none,cO p_w,.box 128 (.agg [.i_ (((aI p_w.dP p_s2).getD ah.z).dw),.lf (.rows 78 ((((aI p_w.dP p_s2).getD ah.z).bJ).map ay.lf))])]⟩) (okc (wF p_s2 p_w.dP) (ok1 (rf_ ⟨[(0,.ptr 0 0),(2,.i_ p_t),(4,.ptr 4 0),(8,.lf (.bool ((aI p_w.dP p_s2).isSome)))],[.box 113 (.agg [.i_ p_b0_0,.lf (.rows 25 (p_b0_1.map ak.lf)),.mp 1,.mp 2,.mp 3]),.res (bH p_s1 none) none,.res (bP p_s2) none,.res (bT p_s3) none,cO p_w,.box 128 (.agg [.i_ (((aI p_w.dP p_s2).getD ah.z).dw),.lf (.rows 78 ((((aI p_w.dP p_s2).getD ah.z).bJ).map ay.lf))])]⟩)))))<|
 .iB ((aI p_w.dP p_s2).isSome) (.ret ⟨[.kill 4,.kill 5],[0],[],4⟩ ((16:Int),p_s2))<|
 .say [.num p_w.bG.length] (okc (ln_ p_w.bG ay.lf) (ok1 (by simp[ay.aY]:(([]:List ay).map ay.lf)=[])))<|
 .l2m [.kill 5,.XW 6 1 64,.lQ 7 (([]:List ay).map ay.lf)] Tryz.f72 4 [1,1,1,0,1,0] 0 (fun(v0,l0)=>⟨[(0,.ptr 0 0),(2,.i_ p_t),(4,.ptr 4 0),(9,.ptr 6 0),(30,.lf (.rows 78 (p_w.bG.map ay.lf))),(31,.i_ (p_w.bG.length:Int)),(32,.i_ v0)],[.box 113 (.agg [.i_ p_b0_0,.lf (.rows 25 (p_b0_1.map ak.lf)),.mp 1,.mp 2,.mp 3]),.res (bH p_s1 none) none,.res (bP p_s2) none,.res (bT p_s3) none,cO p_w,.dead,.box 128 (.agg [.i_ p_t,.own 7]),.row 64 78 (l0.map ay.lf)]⟩) .ret (fun o_=>⟨[(6,.i_ o_)],[.box 113 (.agg [.i_ p_b0_0,.lf (.rows 25 (p_b0_1.map ak.lf)),.mp 1,.mp 2,.mp 3]),.res (bH p_s1 none) none,.res (bP p_s2) none,.res (bT p_s3) none,.dead,.dead,.dead,.dead]⟩) (.exit 0) (fun o_=>⟨[(0,.ptr 0 0),(4,.ptr 4 0),(9,.ptr 6 0)],[.box 113 (.agg [.i_ p_b0_0,.lf (.rows 25 (p_b0_1.map ak.lf)),.mp 1,.mp 2,.mp 3]),.res (bH p_s1 none) none,.res (bP p_s2) none,.res (bT p_s3) none,cO p_w,.dead,.box 128 (.agg [.i_ p_t,.own 7]),.row 64 78 (o_.map ay.lf)]⟩) (XA p_b0_0 p_b0_1 p_s1 p_s2 p_s3 p_t p_w 0 ([]:List ay)) (wP p_b0_0 p_b0_1 p_s1 p_s2 p_s3 p_t p_w) (0,([]:List ay)) (fun o0=>
 .rt [0] 4 (o0,p_s2)) fun o1=>
 .say [.order [(true,0),(true,1),(true,2),(true,3),(true,4),(true,5),(false,6),(false,7)] (some 7) [6,7],.at_ 42 7,.frz 7,.tod 87,.opH [2] (.raw undef) [.res (bP (eF p_w.dP (ah.mk p_t o1) p_s2)) none]] ok0<|
 .grd (p_s2.length<maxLen) fun h0=>
 .say [] (ok1 (af0 p_s2 p_w.dP (ah.mk p_t o1) h0))<|
 .ret ⟨[.kill 4,.kill 6],[0],[],4⟩ ((0:Int),eF p_w.dP (ah.mk p_t o1) p_s2)
noncomputable def Q20(p_w:ay)(p_t:Int)(p_b0_0:Int)(p_b0_1:List ak)(p_s1:aZ)(p_s2:List (ByteArray×ah))(p_s3:List (ByteArray×au)):Option (Int×List (ByteArray×ah)):=Mo.den (aef p_w p_t p_b0_0 p_b0_1 p_s1 p_s2 p_s3)
theorem aku(p_w:ay)(p_t:Int)(p_b0_0:Int)(p_b0_1:List ak)(p_s1:aZ)(p_s2:List (ByteArray×ah))(p_s3:List (ByteArray×au)):FH (Q20 p_w p_t p_b0_0 p_b0_1 p_s1 p_s2 p_s3) 72 [.ptr 0 0,.dat (ay.lf1 p_w),.i_ p_t] [.box 113 (.agg [.i_ p_b0_0,.lf (.rows 25 (p_b0_1.map ak.lf)),.mp 1,.mp 2,.mp 3]),.res (bH p_s1 none) none,.res (bP p_s2) none,.res (bT p_s3) none] (fun r=>resV (anp p_w p_t p_b0_0 p_b0_1 p_s1 p_s2 p_s3 r)) (fun r=>amo p_w p_t p_b0_0 p_b0_1 p_s1 p_s2 p_s3 r):=jA Tryz.func72
noncomputable def RN(m9431:aZ)(p_b0_0:Int)(p_b0_1:List ak)(p_s2:List (ByteArray×ah))(p_s3:List (ByteArray×au))(p_w:ay)(v0:Int):Mo (aZ):=
 .gx ay.aY (((aI p_w.dP p_s2).getD ah.z).bJ) v0 fun x0 _=>
 .say [.at_ 20 4,.tod 34] ok0<|
 .jh (Q34 x0 p_w.bW p_b0_0 p_b0_1 m9431 p_s2 p_s3) (fun o0 h0=>
 .say [.iO [0,1,2,3] (.raw (.func (.func 177) #[] #[])) [.box 113 (.agg [.i_ p_b0_0,.lf (.rows 25 (p_b0_1.map ak.lf)),.mp 1,.mp 2,.mp 3]),.res (bH m9431 none) none,.res (bP p_s2) none,.res (bT p_s3) none]] (ok1 (Nh _ _ _ _ _ _ _ _ h0))<|
 .rt [0,3,27,28,29] 6 (m9431)) fun o1 h0=>
 .say [.iO [0,1,2,3] (.clo 178 [.ptr 5 0,.ptr 6 0]) [.box 113 (.agg [.i_ p_b0_0,.lf (.rows 25 (p_b0_1.map ak.lf)),.mp 1,.mp 2,.mp 3]),.res (bH o1.1 none) none,.res (bP p_s2) none,.res (bT p_s3) none,.dead,.box 139 (.agg [.hnd 1 (aI x0.aT m9431.dir)]),.box 9 (.dat [(.str o1.2)])]] (ok1 (Nh _ _ _ _ _ _ _ _ h0))<|
 .rt [0,3,27,28,29] 6 (o1.1)
noncomputable def Ag(p_b0_0:Int)(p_b0_1:List ak)(p_s2:List (ByteArray×ah))(p_s3:List (ByteArray×au))(p_w:ay):(Int×aZ)→Mo ((Int×aZ)⊕(aZ)):=fun(v0,m9431)=>
 .iB (decide ((v0:Int)<((((aI p_w.dP p_s2).getD ah.z).bJ).length:Int))) (.jk Tryz.f73 4 [1,1,1,1,0,1,0,0,1,1,0] 8 (fun r_=>⟨[(0,.ptr 0 0),(3,.ptr 4 0),(27,.lf (.rows 78 ((((aI p_w.dP p_s2).getD ah.z).bJ).map ay.lf))),(28,.i_ ((((aI p_w.dP p_s2).getD ah.z).bJ).length:Int)),(29,.i_ v0)],[.box 113 (.agg [.i_ p_b0_0,.lf (.rows 25 (p_b0_1.map ak.lf)),.mp 1,.mp 2,.mp 3]),.res (bH r_ none) none,.res (bP p_s2) none,.res (bT p_s3) none,cO p_w,.dead]⟩) ⟨[(0,.ptr 0 0),(3,.ptr 4 0),(27,.lf (.rows 78 ((((aI p_w.dP p_s2).getD ah.z).bJ).map ay.lf))),(28,.i_ ((((aI p_w.dP p_s2).getD ah.z).bJ).length:Int)),(29,.i_ v0)],[.box 113 (.agg [.i_ p_b0_0,.lf (.rows 25 (p_b0_1.map ak.lf)),.mp 1,.mp 2,.mp 3]),.res (bH m9431 none) none,.res (bP p_s2) none,.res (bT p_s3) none,cO p_w,.dead]⟩ (RN m9431 p_b0_0 p_b0_1 p_s2 p_s3 p_w v0) fun r0=>
 .rt [0,3,27,28,29] 6 (.inl (IntKind.wrap .i64 (v0+1),r0)))<|
 .rt [0,3] 6 (.inr (m9431))
noncomputable def aeg(p_b0_0:Int)(p_b0_1:List ak)(p_s2:List (ByteArray×ah))(p_s3:List (ByteArray×au))(p_w:ay)(v0:Int)(m9431:aZ):Option (aZ):=dA (fun v_=>(Ag p_b0_0 p_b0_1 p_s2 p_s3 p_w v_).den) FU (v0,m9431)
noncomputable def anq(p_w:ay)(p_b0_0:Int)(p_b0_1:List ak)(p_s1:aZ)(p_s2:List (ByteArray×ah))(p_s3:List (ByteArray×au))(r:Int×aZ×List (ByteArray×ah)):List AV:=[.i_ r.1]
noncomputable def amq(p_w:ay)(p_b0_0:Int)(p_b0_1:List ak)(p_s1:aZ)(p_s2:List (ByteArray×ah))(p_s3:List (ByteArray×au))(r:Int×aZ×List (ByteArray×ah)):List Slot:=[.box 113 (.agg [.i_ p_b0_0,.lf (.rows 25 (p_b0_1.map ak.lf)),.mp 1,.mp 2,.mp 3]),.res (bH r.2.1 none) none,.res (bP r.2.2) none,.res (bT p_s3) none]
noncomputable def aeh(p_w:ay)(p_b0_0:Int)(p_b0_1:List ak)(p_s1:aZ)(p_s2:List (ByteArray×ah))(p_s3:List (ByteArray×au)):Mo (Int×aZ×List (ByteArray×ah)):=
 .say [.eG (.q 0 (.q 1 (.q 2 (.q 3 (.q 4 (.q 5 (.alt 6 (.q 7 (.q 8 (.q 9 (.l 10 (.l 11 (.q 12 .fin)))))) (.l 10 (.l 6 (.q 7 (.q 8 (.q 9 (.l 11 (.q 12 .fin)))))))))))))) none [2,5] [.both [.at_ 4 6,.resv 1,.opH [2] (.tup [.dat (ah.lf1 ((aI p_w.dP p_s2).getD ah.z)),.lf (.bool ((aI p_w.dP p_s2).isSome))]) [.res (bP p_s2) none],.slot 5] [.at_ 4 10,.resv 1,.slot 5,.opH [2] (.tup [.dat (ah.lf1 ((aI p_w.dP p_s2).getD ah.z)),.lf (.bool ((aI p_w.dP p_s2).isSome))]) [.res (bP p_s2) none]]] [0,3,5,6] 6 [(0,.ptr 0 0),(3,.ptr 4 0),(5,.ptr 5 0),(6,.lf (.bool ((aI p_w.dP p_s2).isSome)))] [.box 113 (.agg [.i_ p_b0_0,.lf (.rows 25 (p_b0_1.map ak.lf)),.mp 1,.mp 2,.mp 3]),.res (bH p_s1 none) none,.res (bP p_s2) none,.res (bT p_s3) none,cO p_w,.box 128 (.agg [.i_ (((aI p_w.dP p_s2).getD ah.z).dw),.lf (.rows 78 ((((aI p_w.dP p_s2).getD ah.z).bJ).map ay.lf))])]] (okc (wF p_s2 p_w.dP) (okc (rf_ ⟨[(0,.ptr 0 0),(3,.ptr 4 0),(5,.ptr 5 0),(6,.lf (.bool ((aI p_w.dP p_s2).isSome)))],[.box 113 (.agg [.i_ p_b0_0,.lf (.rows 25 (p_b0_1.map ak.lf)),.mp 1,.mp 2,.mp 3]),.res (bH p_s1 none) none,.res (bP p_s2) none,.res (bT p_s3) none,cO p_w,.box 128 (.agg [.i_ (((aI p_w.dP p_s2).getD ah.z).dw),.lf (.rows 78 ((((aI p_w.dP p_s2).getD ah.z).bJ).map ay.lf))])]⟩) (okc (wF p_s2 p_w.dP) (ok1 (rf_ ⟨[(0,.ptr 0 0),(3,.ptr 4 0),(5,.ptr 5 0),(6,.lf (.bool ((aI p_w.dP p_s2).isSome)))],[.box 113 (.agg [.i_ p_b0_0,.lf (.rows 25 (p_b0_1.map ak.lf)),.mp 1,.mp 2,.mp 3]),.res (bH p_s1 none) none,.res (bP p_s2) none,.res (bT p_s3) none,cO p_w,.box 128 (.agg [.i_ (((aI p_w.dP p_s2).getD ah.z).dw),.lf (.rows 78 ((((aI p_w.dP p_s2).getD ah.z).bJ).map ay.lf))])]⟩)))))<|
 .iB (!((aI p_w.dP p_s2).isSome)) (.ret ⟨[.kill 4,.kill 5],[0],[],4⟩ ((15:Int),p_s1,p_s2))<|
 .iB (decide ((p_w.bW:Int)<(((aI p_w.dP p_s2).getD ah.z).dw))) (.ret ⟨[.kill 4,.kill 5],[0],[],4⟩ ((23:Int),p_s1,p_s2))<|
 .nu (((aI p_w.dP p_s2).getD ah.z).bJ) ay.lf<|
 .l1m [.kill 5] Tryz.f73 4 [1,1,1,1,0,1,0] 0 (.exit 0) (fun(v0,m9431)=>⟨[(0,.ptr 0 0),(3,.ptr 4 0),(27,.lf (.rows 78 ((((aI p_w.dP p_s2).getD ah.z).bJ).map ay.lf))),(28,.i_ ((((aI p_w.dP p_s2).getD ah.z).bJ).length:Int)),(29,.i_ v0)],[.box 113 (.agg [.i_ p_b0_0,.lf (.rows 25 (p_b0_1.map ak.lf)),.mp 1,.mp 2,.mp 3]),.res (bH m9431 none) none,.res (bP p_s2) none,.res (bT p_s3) none,cO p_w,.dead]⟩) (fun r_=>⟨[(0,.ptr 0 0),(3,.ptr 4 0)],[.box 113 (.agg [.i_ p_b0_0,.lf (.rows 25 (p_b0_1.map ak.lf)),.mp 1,.mp 2,.mp 3]),.res (bH r_ none) none,.res (bP p_s2) none,.res (bT p_s3) none,cO p_w,.dead]⟩) (aeg p_b0_0 p_b0_1 p_s2 p_s3 p_w 0 p_s1) (Ag p_b0_0 p_b0_1 p_s2 p_s3 p_w) (0,p_s1) fun r0=>
 .say [.order [(true,0),(true,1),(true,2),(true,3),(true,4),(true,5),(false,6)] (some 6) [],.opH [2] (.tup []) [.res (bP (dH p_w.dP p_s2)) none]] (ok1 (WB p_s2 p_w.dP))<|
 .ret ⟨[.kill 4],[0],[],4⟩ ((0:Int),r0,dH p_w.dP p_s2)
noncomputable def Q35(p_w:ay)(p_b0_0:Int)(p_b0_1:List ak)(p_s1:aZ)(p_s2:List (ByteArray×ah))(p_s3:List (ByteArray×au)):Option (Int×aZ×List (ByteArray×ah)):=Mo.den (aeh p_w p_b0_0 p_b0_1 p_s1 p_s2 p_s3)
theorem akv(p_w:ay)(p_b0_0:Int)(p_b0_1:List ak)(p_s1:aZ)(p_s2:List (ByteArray×ah))(p_s3:List (ByteArray×au)):FH (Q35 p_w p_b0_0 p_b0_1 p_s1 p_s2 p_s3) 73 [.ptr 0 0,.dat (ay.lf1 p_w)] [.box 113 (.agg [.i_ p_b0_0,.lf (.rows 25 (p_b0_1.map ak.lf)),.mp 1,.mp 2,.mp 3]),.res (bH p_s1 none) none,.res (bP p_s2) none,.res (bT p_s3) none] (fun r=>resV (anq p_w p_b0_0 p_b0_1 p_s1 p_s2 p_s3 r)) (fun r=>amq p_w p_b0_0 p_b0_1 p_s1 p_s2 p_s3 r):=jA Tryz.func73
noncomputable def RP(p_b0_0:Int)(p_b0_1:List ak)(p_s1:aZ)(p_s2:List (ByteArray×ah))(p_s3:List (ByteArray×au))(p_t:Int)(p_w:ay):Mo (Bool):=
 .iB (p_w.aB==1) (.rt [0,2,4,12,13] 5 (p_w.aB==1))<|
 .rt [0,2,4,12,13] 5 (p_w.aB==12)
noncomputable def U5(p_b0_0:Int)(p_b0_1:List ak)(p_s1:aZ)(p_s2:List (ByteArray×ah))(p_s3:List (ByteArray×au))(p_t:Int)(p_w:ay):Option (Bool):=Mo.den (RP p_b0_0 p_b0_1 p_s1 p_s2 p_s3 p_t p_w)
noncomputable def RQ(p_b0_0:Int)(p_b0_1:List ak)(p_s1:aZ)(p_s2:List (ByteArray×ah))(p_s3:List (ByteArray×au))(p_t:Int)(p_w:ay):Mo ((Int×(List ak)×aZ)):=
 .Eu (Q3 p_w p_t p_b0_0 p_b0_1 p_s1 p_s2 p_s3) (fun o0 h0=>
 .say [.iO [0,1,2,3] (.tup [.raw (.nilFunc),.i_ o0]) [.box 113 (.agg [.i_ p_b0_0,.lf (.rows 25 (p_b0_1.map ak.lf)),.mp 1,.mp 2,.mp 3]),.res (bH p_s1 none) none,.res (bP p_s2) none,.res (bT p_s3) none]] (ok1 (tY _ _ _ _ _ _ _ _ h0))<|
 .ret ⟨[.kill 4],[10],[],5⟩ (o0,p_b0_1,p_s1)) (fun o1 h0=>
 .say [.iO [0,1,2,3] (.tup [.raw (.func (.func 177) #[] #[]),.i_ 0]) [.box 113 (.agg [.i_ p_b0_0,.lf (.rows 25 (p_b0_1.map ak.lf)),.mp 1,.mp 2,.mp 3]),.res (bH p_s1 none) none,.res (bP p_s2) none,.res (bT p_s3) none]] (ok1 (tY _ _ _ _ _ _ _ _ h0))<|
 .ret ⟨[.kill 4],[10],[],5⟩ (0,p_b0_1,p_s1)) fun o2 h0=>
 .Eu (some o2) (fun o3 h1=>
 .say [.iO [0,1,2,3] (.tup [.clo 178 [.ptr 7 0,.ptr 8 0],.i_ 0]) [.box 113 (.agg [.i_ p_b0_0,.lf (.rows 25 (p_b0_1.map ak.lf)),.mp 1,.mp 2,.mp 3]),.res (bH o3.1 none) none,.res (bP p_s2) none,.res (bT p_s3) none,.dead,.dead,.dead,.box 139 (.agg [.hnd 1 (aI p_w.aT p_s1.dir)]),.box 9 (.dat [(.str o3.2)])]] (ok1 (tY _ _ _ _ _ _ _ _ (zD h0 h1)))<|
 .ret ⟨[.kill 4],[10],[],5⟩ (0,p_b0_1,o3.1)) (fun o4 h1=>
 .say [.iO [0,1,2,3] (.tup [.clo 118 [.ptr 6 0,.ptr 4 0,.ptr 5 0],.i_ 0]) [.box 113 (.agg [.i_ p_b0_0,.lf (.rows 25 (o4.map ak.lf)),.mp 1,.mp 2,.mp 3]),.res (bH (p_s1.make p_w.gy.fName) none) none,.res (bP p_s2) none,.res (bT p_s3) none,.box 26 (.agg [.ptr 0 0]),cO p_w,.box 28 (.dat [(.rows 25 (p_b0_1.map ak.lf))])]] (ok1 (tY _ _ _ _ _ _ _ _ (zD h0 h1)))<|
 .ret ⟨[.kill 4],[10],[],5⟩ (0,o4,p_s1.make p_w.gy.fName)) fun o5 h1=>
 .jh (some o5) (fun o6 h2=>
 .say [.iO [0,1,2,3] (.tup [.clo 119 [.ptr 6 0,.ptr 4 0,.ptr 7 0,.ptr 5 0],.i_ 0]) [.box 113 (.agg [.i_ p_b0_0,.lf (.rows 25 (o6.map ak.lf)),.mp 1,.mp 2,.mp 3]),.res (bH (p_s1.unlink p_w.aT) none) none,.res (bP p_s2) none,.res (bT p_s3) none,.box 26 (.agg [.ptr 0 0]),cO p_w,.box 28 (.dat [(.rows 25 (p_b0_1.map ak.lf))]),.box 139 (.agg [.hnd 1 (aI p_w.aT p_s1.dir)])]] (ok1 (tY _ _ _ _ _ _ _ _ (zD h0 (zD h1 h2))))<|
 .ret ⟨[.kill 4],[10],[],5⟩ (0,o6,p_s1.unlink p_w.aT)) fun o7 h2=>
 .say [.iO [0,1,2,3] (.tup [.clo 120 [.ptr 6 0,.ptr 4 0],.i_ 0]) [.box 113 (.agg [.i_ p_b0_0,.lf (.rows 25 (o7.map ak.lf)),.mp 1,.mp 2,.mp 3]),.res (bH p_s1 none) none,.res (bP p_s2) none,.res (bT p_s3) none,.box 26 (.agg [.ptr 0 0]),.dead,.box 28 (.dat [(.rows 25 (p_b0_1.map ak.lf))])]] (ok1 (tY _ _ _ _ _ _ _ _ (zD h0 (zD h1 h2))))<|
 .ret ⟨[.kill 4],[10],[],5⟩ (0,o7,p_s1)
noncomputable def anr(p_w:ay)(p_t:Int)(p_b0_0:Int)(p_b0_1:List ak)(p_s1:aZ)(p_s2:List (ByteArray×ah))(p_s3:List (ByteArray×au))(r:Int×(List ak)×aZ×List (ByteArray×ah)):List AV:=[.i_ r.1]
noncomputable def amr(p_w:ay)(p_t:Int)(p_b0_0:Int)(p_b0_1:List ak)(p_s1:aZ)(p_s2:List (ByteArray×ah))(p_s3:List (ByteArray×au))(r:Int×(List ak)×aZ×List (ByteArray×ah)):List Slot:=[.box 113 (.agg [.i_ p_b0_0,.lf (.rows 25 (r.2.1.map ak.lf)),.mp 1,.mp 2,.mp 3]),.res (bH r.2.2.1 none) none,.res (bP r.2.2.2) none,.res (bT p_s3) none]
noncomputable def aei(p_w:ay)(p_t:Int)(p_b0_0:Int)(p_b0_1:List ak)(p_s1:aZ)(p_s2:List (ByteArray×ah))(p_s3:List (ByteArray×au)):Mo (Int×(List ak)×aZ×List (ByteArray×ah)):=
 .jp Tryz.f40 4 [1,0,1,0,0,1] 1 [0,2,4,12,13] 5 (.normal) (fun r_=>⟨[(0,.ptr 0 0),(2,.i_ p_t),(4,.ptr 4 0),(12,.i_ p_w.aB),(13,.b_ r_)],[.box 113 (.agg [.i_ p_b0_0,.lf (.rows 25 (p_b0_1.map ak.lf)),.mp 1,.mp 2,.mp 3]),.res (bH p_s1 none) none,.res (bP p_s2) none,.res (bT p_s3) none,cO p_w]⟩) ⟨[(0,.ptr 0 0),(2,.i_ p_t),(4,.ptr 4 0),(12,.i_ p_w.aB),(13,.lf (.bool (p_w.aB==1)))],[.box 113 (.agg [.i_ p_b0_0,.lf (.rows 25 (p_b0_1.map ak.lf)),.mp 1,.mp 2,.mp 3]),.res (bH p_s1 none) none,.res (bP p_s2) none,.res (bT p_s3) none,cO p_w]⟩ (U5 p_b0_0 p_b0_1 p_s1 p_s2 p_s3 p_t p_w) (jW (by kernel_rfl)) fun r0 _=>
 .iB (r0) (.ret ⟨[.kill 4],[0],[],4⟩ ((0:Int),p_b0_1,p_s1,p_s2))<|
 .iB (p_w.aB==8) (.cH [0,1,2,3] (ag7 p_w.bG p_t p_b0_0 p_b0_1 p_s1 p_s2 p_s3) fun r1 _=>
 .ret ⟨[.kill 4],[0],[],4⟩ (r1.1,r1.2.1,r1.2.2,p_s2))<|
 .iB (p_w.aB==9) (.cH [0,1,2,3] (aku p_w p_t p_b0_0 p_b0_1 p_s1 p_s2 p_s3) fun r2 _=>
 .ret ⟨[.kill 4],[0],[],4⟩ (r2.1,p_b0_1,p_s1,r2.2))<|
 .iB (p_w.aB==10) (.cH [0,1,2,3] (akv p_w p_b0_0 p_b0_1 p_s1 p_s2 p_s3) fun r3 _=>
 .ret ⟨[.kill 4],[0],[],4⟩ (r3.1,p_b0_1,r3.2.1,r3.2.2))<|
 .iB (p_w.aB==11) (.say [.eG (.q 0 (.q 1 (.q 2 (.q 3 (.q 4 (.q 5 (.alt 6 (.q 7 (.q 8 (.q 9 (.l 10 (.l 11 (.q 12 .fin)))))) (.l 10 (.l 6 (.q 7 (.q 8 (.q 9 (.l 11 (.q 12 .fin)))))))))))))) none [2,5] [.both [.at_ 26 6,.resv 1,.opH [2] (.tup [.dat (ah.lf1 ((aI p_w.dP p_s2).getD ah.z)),.lf (.bool ((aI p_w.dP p_s2).isSome))]) [.res (bP p_s2) none],.slot 5] [.at_ 26 10,.resv 1,.slot 5,.opH [2] (.tup [.dat (ah.lf1 ((aI p_w.dP p_s2).getD ah.z)),.lf (.bool ((aI p_w.dP p_s2).isSome))]) [.res (bP p_s2) none]]] [0,4,8] 6 [(0,.ptr 0 0),(4,.ptr 4 0),(8,.lf (.bool ((aI p_w.dP p_s2).isSome)))] [.box 113 (.agg [.i_ p_b0_0,.lf (.rows 25 (p_b0_1.map ak.lf)),.mp 1,.mp 2,.mp 3]),.res (bH p_s1 none) none,.res (bP p_s2) none,.res (bT p_s3) none,cO p_w,.box 128 (.agg [.i_ (((aI p_w.dP p_s2).getD ah.z).dw),.lf (.rows 78 ((((aI p_w.dP p_s2).getD ah.z).bJ).map ay.lf))])]] (okc (wF p_s2 p_w.dP) (okc (rf_ ⟨[(0,.ptr 0 0),(4,.ptr 4 0),(8,.lf (.bool ((aI p_w.dP p_s2).isSome)))],[.box 113 (.agg [.i_ p_b0_0,.lf (.rows 25 (p_b0_1.map ak.lf)),.mp 1,.mp 2,.mp 3]),.res (bH p_s1 none) none,.res (bP p_s2) none,.res (bT p_s3) none,cO p_w,.box 128 (.agg [.i_ (((aI p_w.dP p_s2).getD ah.z).dw),.lf (.rows 78 ((((aI p_w.dP p_s2).getD ah.z).bJ).map ay.lf))])]⟩) (okc (wF p_s2 p_w.dP) (ok1 (rf_ ⟨[(0,.ptr 0 0),(4,.ptr 4 0),(8,.lf (.bool ((aI p_w.dP p_s2).isSome)))],[.box 113 (.agg [.i_ p_b0_0,.lf (.rows 25 (p_b0_1.map ak.lf)),.mp 1,.mp 2,.mp 3]),.res (bH p_s1 none) none,.res (bP p_s2) none,.res (bT p_s3) none,cO p_w,.box 128 (.agg [.i_ (((aI p_w.dP p_s2).getD ah.z).dw),.lf (.rows 78 ((((aI p_w.dP p_s2).getD ah.z).bJ).map ay.lf))])]⟩)))))<|
 .iB (!((aI p_w.dP p_s2).isSome)) (.ret ⟨[.kill 4,.kill 5],[0],[],4⟩ ((15:Int),p_b0_1,p_s1,p_s2))<|
 .say [.order [(true,0),(true,1),(true,2),(true,3),(true,4),(true,5),(false,6)] (some 6) [],.opH [2] (.tup []) [.res (bP (dH p_w.dP p_s2)) none]] (ok1 (WB p_s2 p_w.dP))<|
 .ret ⟨[.kill 4,.kill 5],[0],[],4⟩ ((0:Int),p_b0_1,p_s1,dH p_w.dP p_s2))<|
 .jk Tryz.f40 4 [1,1,0] 41 (fun r_=>⟨[(10,.i_ r_.1)],[.box 113 (.agg [.i_ p_b0_0,.lf (.rows 25 (r_.2.1.map ak.lf)),.mp 1,.mp 2,.mp 3]),.res (bH r_.2.2 none) none,.res (bP p_s2) none,.res (bT p_s3) none,.dead]⟩) ⟨[(0,.ptr 0 0),(2,.i_ p_t),(4,.ptr 4 0)],[.box 113 (.agg [.i_ p_b0_0,.lf (.rows 25 (p_b0_1.map ak.lf)),.mp 1,.mp 2,.mp 3]),.res (bH p_s1 none) none,.res (bP p_s2) none,.res (bT p_s3) none,cO p_w]⟩ (RQ p_b0_0 p_b0_1 p_s1 p_s2 p_s3 p_t p_w) fun r4=>
 .rt [0] 4 (r4.1,r4.2.1,r4.2.2,p_s2)
noncomputable def Q43(p_w:ay)(p_t:Int)(p_b0_0:Int)(p_b0_1:List ak)(p_s1:aZ)(p_s2:List (ByteArray×ah))(p_s3:List (ByteArray×au)):Option (Int×(List ak)×aZ×List (ByteArray×ah)):=Mo.den (aei p_w p_t p_b0_0 p_b0_1 p_s1 p_s2 p_s3)
theorem akw(p_w:ay)(p_t:Int)(p_b0_0:Int)(p_b0_1:List ak)(p_s1:aZ)(p_s2:List (ByteArray×ah))(p_s3:List (ByteArray×au)):FH (Q43 p_w p_t p_b0_0 p_b0_1 p_s1 p_s2 p_s3) 40 [.ptr 0 0,.dat (ay.lf1 p_w),.i_ p_t] [.box 113 (.agg [.i_ p_b0_0,.lf (.rows 25 (p_b0_1.map ak.lf)),.mp 1,.mp 2,.mp 3]),.res (bH p_s1 none) none,.res (bP p_s2) none,.res (bT p_s3) none] (fun r=>resV (anr p_w p_t p_b0_0 p_b0_1 p_s1 p_s2 p_s3 r)) (fun r=>amr p_w p_t p_b0_0 p_b0_1 p_s1 p_s2 p_s3 r):=jA Tryz.func40
noncomputable def RS(p_e:bD)(p_s3:List (ByteArray×au))(r0:Int×(List ak)×aZ×List (ByteArray×ah)):Mo (((List (ByteArray×au)))):=
 .iB (!decide ((p_e.eU:ByteArray)=(⟨#[]⟩:ByteArray))) (.say [.order [(true,0),(true,1),(true,2),(true,3),(true,4),(true,5),(true,6),(true,7),(true,8),(true,9),(true,10),(false,11)] (some 11) [],.at_ 28 11,.tod 48,.opH [3] (.raw undef) [.res (bT (eF p_e.eU (au.mk p_e.qj p_e.bW) p_s3)) none]] ok0<|
 .grd (p_s3.length<maxLen) fun h0=>
 .say [] (ok1 (af5 p_s3 p_e.eU (au.mk p_e.qj p_e.bW) h0))<|
 .ret ⟨[.kill 4],[],[],5⟩ (eF p_e.eU (au.mk p_e.qj p_e.bW) p_s3))<|
 .ret ⟨[.kill 4],[],[],5⟩ (p_s3)
noncomputable def ant(p_e:bD)(p_b0_0:Int)(p_b0_1:List ak)(p_s1:aZ)(p_s2:List (ByteArray×ah))(p_s3:List (ByteArray×au))(r:Int×Int×(List ak)×aZ×(List (ByteArray×ah))×List (ByteArray×au)):List AV:=[.i_ r.1]
noncomputable def ams(p_e:bD)(p_b0_0:Int)(p_b0_1:List ak)(p_s1:aZ)(p_s2:List (ByteArray×ah))(p_s3:List (ByteArray×au))(r:Int×Int×(List ak)×aZ×(List (ByteArray×ah))×List (ByteArray×au)):List Slot:=[.box 113 (.agg [.i_ r.2.1,.lf (.rows 25 (r.2.2.1.map ak.lf)),.mp 1,.mp 2,.mp 3]),.res (bH r.2.2.2.1 none) none,.res (bP r.2.2.2.2.1) none,.res (bT r.2.2.2.2.2) none]
noncomputable def aej(p_e:bD)(p_b0_0:Int)(p_b0_1:List ak)(p_s1:aZ)(p_s2:List (ByteArray×ah))(p_s3:List (ByteArray×au)):Mo (Int×Int×(List ak)×aZ×(List (ByteArray×ah))×List (ByteArray×au)):=
 .say [.br false] (ok1 (rfl:false=false))<|
 .cl (akt p_e) fun r0 _=>
 .iB (r0 != 0) (.ret ⟨[.kill 4],[0],[],4⟩ (r0,p_b0_0,p_b0_1,p_s1,p_s2,p_s3))<|
 .say [.order [(true,0),(true,1),(true,2),(true,3),(true,4),(true,5),(true,6)] none []] ok0<|
 .iB (decide ((p_e.bW:Int)≤p_b0_0)) (.ret ⟨[.kill 4],[0],[],4⟩ ((23:Int),p_b0_0,p_b0_1,p_s1,p_s2,p_s3))<|
 .cH [0,1,2,3] (akw p_e.dZ p_e.bW p_b0_0 p_b0_1 p_s1 p_s2 p_s3) fun r1 _=>
 .iB (r1.1 != 0) (.ret ⟨[.kill 4],[0],[],4⟩ (r1.1,p_b0_0,r1.2.1,r1.2.2.1,r1.2.2.2,p_s3))<|
 .jk Tryz.f13 4 [1,1,1,1,1,1,0,1] 1 (fun r_=>⟨[],[.box 113 (.agg [.i_ p_e.bW,.lf (.rows 25 (r1.2.1.map ak.lf)),.mp 1,.mp 2,.mp 3]),.res (bH r1.2.2.1 none) none,.res (bP r1.2.2.2) none,.res (bT r_) none,.dead]⟩) ⟨[(0,.ptr 0 0),(3,.ptr 4 0),(37,.lf (.bool (!decide ((p_e.eU:ByteArray)=(⟨#[]⟩:ByteArray)))))],[.box 113 (.agg [.i_ p_e.bW,.lf (.rows 25 (r1.2.1.map ak.lf)),.mp 1,.mp 2,.mp 3]),.res (bH r1.2.2.1 none) none,.res (bP r1.2.2.2) none,.res (bT p_s3) none,Pq p_e]⟩ (RS p_e p_s3 r1) fun r2=>
 .rt [0] 4 ((0:Int),p_e.bW,r1.2.1,r1.2.2.1,r1.2.2.2,r2)
noncomputable def Q54(p_e:bD)(p_b0_0:Int)(p_b0_1:List ak)(p_s1:aZ)(p_s2:List (ByteArray×ah))(p_s3:List (ByteArray×au)):Option (Int×Int×(List ak)×aZ×(List (ByteArray×ah))×List (ByteArray×au)):=Mo.den (aej p_e p_b0_0 p_b0_1 p_s1 p_s2 p_s3)
theorem ND(p_e:bD)(p_b0_0:Int)(p_b0_1:List ak)(p_s1:aZ)(p_s2:List (ByteArray×ah))(p_s3:List (ByteArray×au)):FH (Q54 p_e p_b0_0 p_b0_1 p_s1 p_s2 p_s3) 13 [.ptr 0 0,.dat (bD.lf1 p_e)] [.box 113 (.agg [.i_ p_b0_0,.lf (.rows 25 (p_b0_1.map ak.lf)),.mp 1,.mp 2,.mp 3]),.res (bH p_s1 none) none,.res (bP p_s2) none,.res (bT p_s3) none] (fun r=>resV (ant p_e p_b0_0 p_b0_1 p_s1 p_s2 p_s3 r)) (fun r=>ams p_e p_b0_0 p_b0_1 p_s1 p_s2 p_s3 r):=jA Tryz.func13
noncomputable def akx(p_n:Int):Mo (aj):=
 .ret (bF 1) (aj.mk 3 p_n ⟨#[]⟩ [] [])
noncomputable def amu(p_n:Int):Option (aj):=Mo.den (akx p_n)
theorem D6(p_n:Int):FV (amu p_n) 35 [.i_ p_n] (fun r=>.dat (aj.lf1 r)):=dI Tryz.func35
noncomputable def aky(p_n:Int):Mo (aj):=
 .ask (amu p_n) fun r0 h0=>
 .say [.res (.dat (aj.lf1 r0)),.at_ 0 0,.Tj 1 ([aF.mk ⟨#[95,105,100]⟩ r0].map aF.lf)] (okc (D6 _ _ h0) (ok1 (by simp[aF.aY]:[aF.mk ⟨#[95,105,100]⟩ r0].map aF.lf=[(aF.lf1 (aF.mk ⟨#[95,105,100]⟩ r0))])))<|
 .ret (bF 1) (aj.mk 5 0 ⟨#[]⟩ [] [aF.mk ⟨#[95,105,100]⟩ r0])
noncomputable def akz(p_n:Int):Option (aj):=Mo.den (aky p_n)
theorem XB(p_n:Int):FV (akz p_n) 36 [.i_ p_n] (fun r=>.dat (aj.lf1 r)):=dI Tryz.func36
noncomputable def vC(p_s0:List aP)(p_stamp:Int):(Int)→Mo ((Int)⊕(Int×Int×ByteArray×(List aj)×(List aF))⊕Unit):=fun(v0)=>
 .iB (decide ((0:Int)≤v0)) (.ask (jf p_s0 v0) fun x0 h0=>
 .say [.row (aP.lf1 x0)] (okc (sK aP.aY h0) (ok1 ((eu aP.aY h0).2)))<|
 .iB (decide ((x0.dw:Int)≤p_stamp)) (.ask (jf p_s0 v0) fun x1 h1=>
 .say [.row (aP.lf1 x1)] (okc (sK aP.aY h1) (ok1 ((eu aP.aY h1).2)))<|
 .rt [4] 2 (.inr (.inl (x1.fC.aB,x1.fC.dG,x1.fC.fText,x1.fC.aX,x1.fC.bC))))<|
 .rt [0,1,4,5] 2 (.inl (IntKind.wrap .i64 (v0-1))))<|
 .rt [4] 2 (.inr (.inr (())))
noncomputable def aiy(p_stamp:Int)(p_s0:List aP):Mo (aj):=
 .nu p_s0 aP.lf<|
 .l2 Tryz.f56 1 [1,0,1,0] 0 (fun(v0)=>⟨[(0,.own 0),(1,.i_ p_stamp),(4,.ptr 1 0),(5,.i_ v0)],[.row 147 6 (p_s0.map aP.lf),.box 40 (.agg [.i_ 0,.i_ 0,.lf (.str ⟨#[]⟩),.bK 5,.bK 6])]⟩) .ret (fun o_=>⟨[(4,.ptr 1 0)],[.row 147 6 (p_s0.map aP.lf),.box 40 (.agg [.i_ o_.1,.i_ o_.2.1,.lf (.str o_.2.2.1),.lf (.rows 5 (o_.2.2.2.1.map aj.lf)),.lf (.rows 6 (o_.2.2.2.2.map aF.lf))])]⟩) (.exit 0) (fun _=>⟨[(4,.ptr 1 0)],[.row 147 6 (p_s0.map aP.lf),.box 40 (.agg [.i_ 0,.i_ 0,.lf (.str ⟨#[]⟩),.bK 5,.bK 6])]⟩) (vC p_s0 p_stamp) ((IntKind.wrap .i64 ((p_s0.length:Int)-1))) (fun o0=>
 .ret ⟨[.kill 1],[0],[],1⟩ (aj.mk o0.1 o0.2.1 o0.2.2.1 o0.2.2.2.1 o0.2.2.2.2)) fun o1=>
 .ret ⟨[.kill 1],[0],[],1⟩ (aj.mk 0 0 ⟨#[]⟩ [] [])
noncomputable def Q67(p_stamp:Int)(p_s0:List aP):Option (aj):=Mo.den (aiy p_stamp p_s0)
theorem aek(p_stamp:Int)(p_s0:List aP):FH (Q67 p_stamp p_s0) 56 [.own 0,.i_ p_stamp] [.row 147 6 (p_s0.map aP.lf)] (fun r=>.dat (aj.lf1 r)) (fun _=>[.row 147 6 (p_s0.map aP.lf)]):=jA Tryz.func56
noncomputable def RU(p_b0_0:Int)(p_b0_1:List ak)(p_key:aj)(p_s1:aZ)(p_s2:List (ByteArray×ah))(p_s3:List (ByteArray×au))(p_space:ByteArray)(p_stamp:Int)(r0:ByteArray):Mo (Bool):=
 .iG 16002 (!decide ((r0:ByteArray)=(⟨#[]⟩:ByteArray))) (.say [.opH [2] (.dat (ah.lf1 ((aI r0 p_s2).getD ah.z))) [.res (bP p_s2) none]] (ok1 (WA p_s2 r0))<|
 .rt [3,6,8,10,45] 6 (decide ((((aI r0 p_s2).getD ah.z).dw:Int)≤p_stamp)))<|
 .rt [3,6,8,10,45] 6 (false)
noncomputable def anu(p_space:ByteArray)(p_key:aj)(p_stamp:Int)(p_b0_0:Int)(p_b0_1:List ak)(p_s1:aZ)(p_s2:List (ByteArray×ah))(p_s3:List (ByteArray×au))(r:aj×Int):List AV:=[.dat (aj.lf1 r.1),.i_ r.2]
noncomputable def amv(p_space:ByteArray)(p_key:aj)(p_stamp:Int)(p_b0_0:Int)(p_b0_1:List ak)(p_s1:aZ)(p_s2:List (ByteArray×ah))(p_s3:List (ByteArray×au))(r:aj×Int):List Slot:=[.box 113 (.agg [.i_ p_b0_0,.lf (.rows 25 (p_b0_1.map ak.lf)),.mp 1,.mp 2,.mp 3]),.res (bH p_s1 none) none,.res (bP p_s2) none,.res (bT p_s3) none]
noncomputable def ael(p_space:ByteArray)(p_key:aj)(p_stamp:Int)(p_b0_0:Int)(p_b0_1:List ak)(p_s1:aZ)(p_s2:List (ByteArray×ah))(p_s3:List (ByteArray×au)):Mo (aj×Int):=
 .say [.br false,.opH [1] (.tup [.hnd 0 (aI p_space p_s1.dir),.lf (.bool ((aI p_space p_s1.dir).isSome))]) [.res (bH p_s1 none) none]] (okc (rfl:false=false) (ok1 (zC p_s1 p_space)))<|
 .iB (!((aI p_space p_s1.dir).isSome)) (.ret ⟨[.kill 4,.kill 5],[0,1],[],4⟩ (aj.mk 0 0 ⟨#[]⟩ [] [],(15:Int)))<|
 .cH [0,1,2,3] (UQ p_space p_key p_b0_0 p_b0_1 p_s1 p_s2 p_s3) fun r0 _=>
 .jk Tryz.f29 4 [1,1,1,1,0,1,0] 21 (fun r_=>⟨[(3,.i_ p_stamp),(6,.ptr 4 0),(8,.ptr 5 0),(10,.hnd 1 (aI p_space p_s1.dir)),(45,.b_ r_)],[.box 113 (.agg [.i_ p_b0_0,.lf (.rows 25 (p_b0_1.map ak.lf)),.mp 1,.mp 2,.mp 3]),.res (bH p_s1 none) none,.res (bP p_s2) none,.res (bT p_s3) none,bI p_key,.box 40 (.agg [.i_ 0,.i_ 0,.lf (.str ⟨#[]⟩),.bK 5,.bK 6])]⟩) ⟨[(0,.ptr 0 0),(3,.i_ p_stamp),(6,.ptr 4 0),(8,.ptr 5 0),(10,.hnd 1 (aI p_space p_s1.dir)),(12,.lf (.str r0))],[.box 113 (.agg [.i_ p_b0_0,.lf (.rows 25 (p_b0_1.map ak.lf)),.mp 1,.mp 2,.mp 3]),.res (bH p_s1 none) none,.res (bP p_s2) none,.res (bT p_s3) none,bI p_key,.box 40 (.agg [.i_ 0,.i_ 0,.lf (.str ⟨#[]⟩),.bK 5,.bK 6])]⟩ (RU p_b0_0 p_b0_1 p_key p_s1 p_s2 p_s3 p_space p_stamp r0) fun r1=>
 .iB (r1) (.ret ⟨[.kill 4,.kill 5],[0,1],[],4⟩ (aj.mk 0 0 ⟨#[]⟩ [] [],(30:Int)))<|
 .cl (Nb p_key) fun r2 _=>
 .iB (!r2.2) (.ret ⟨[.kill 4,.kill 5],[0,1],[],4⟩ (aj.mk 0 0 ⟨#[]⟩ [] [],(0:Int)))<|
 .say [.opH [1] (.own 1) [.res (bH p_s1 (outOf (aI p_space p_s1.dir) r2.1)) (some 1),.row 147 6 ((p_s1.row (aI p_space p_s1.dir) r2.1).map aP.lf)]] (ok1 (wC p_s1 r2.1 (aI p_space p_s1.dir)))<|
 .cH [6] (aek p_stamp (p_s1.row (aI p_space p_s1.dir) r2.1)) fun r3 _=>
 .ask (Q15 r3) fun r4 h0=>
 .say [.res (.dat (aj.lf1 r4))] (okc (uZ _ _ h0) (ok1 (wE p_s1 r2.1 (aI p_space p_s1.dir))))<|
 .ret ⟨[.gho [1,6] [.res (bH p_s1 none) none,.dead],.kill 4,.kill 5],[0,1],[],4⟩ (r4,(0:Int))
noncomputable def Q80(p_space:ByteArray)(p_key:aj)(p_stamp:Int)(p_b0_0:Int)(p_b0_1:List ak)(p_s1:aZ)(p_s2:List (ByteArray×ah))(p_s3:List (ByteArray×au)):Option (aj×Int):=Mo.den (ael p_space p_key p_stamp p_b0_0 p_b0_1 p_s1 p_s2 p_s3)
theorem aem(p_space:ByteArray)(p_key:aj)(p_stamp:Int)(p_b0_0:Int)(p_b0_1:List ak)(p_s1:aZ)(p_s2:List (ByteArray×ah))(p_s3:List (ByteArray×au)):FH (Q80 p_space p_key p_stamp p_b0_0 p_b0_1 p_s1 p_s2 p_s3) 29 [.ptr 0 0,.lf (.str p_space),.dat (aj.lf1 p_key),.i_ p_stamp] [.box 113 (.agg [.i_ p_b0_0,.lf (.rows 25 (p_b0_1.map ak.lf)),.mp 1,.mp 2,.mp 3]),.res (bH p_s1 none) none,.res (bP p_s2) none,.res (bT p_s3) none] (fun r=>resV (anu p_space p_key p_stamp p_b0_0 p_b0_1 p_s1 p_s2 p_s3 r)) (fun r=>amv p_space p_key p_stamp p_b0_0 p_b0_1 p_s1 p_s2 p_s3 r):=jA Tryz.func29
noncomputable def anv(p_m:Option Nat)(p_s0:aZ)(r:Unit):List AV:=[.clo 106 [.ptr 1 0]]
noncomputable def amw(p_m:Option Nat)(p_s0:aZ)(r:Unit):List Slot:=[.res (bH p_s0 none) none,.box 139 (.agg [.hnd 0 p_m])]
noncomputable def amx(p_m:Option Nat)(p_s0:aZ):Mo (Unit):=
 .rt [0] 2 ()
noncomputable def Q89(p_m:Option Nat)(p_s0:aZ):Option (Unit):=Mo.den (amx p_m p_s0)
theorem akA(p_m:Option Nat)(p_s0:aZ):FH (Q89 p_m p_s0) 68 [.hnd 0 p_m] [.res (bH p_s0 none) none] (fun r=>resV (anv p_m p_s0 r)) (fun r=>amw p_m p_s0 r):=jA Tryz.func68
noncomputable def RV(l0:List aj)(p_b0_0:Int)(p_b0_1:List ak)(p_s1:aZ)(p_s2:List (ByteArray×ah))(p_s3:List (ByteArray×au))(p_space:ByteArray)(p_stamp:Int)(r0:List ByteArray)(v0:Int):Mo (((List aj))):=
 .ask (jf r0 v0) fun x0 h0=>
 .say [.row (lfS x0),.opH [1] (.own 1) [.res (bH p_s1 (outOf (aI p_space p_s1.dir) x0)) (some 1),.row 147 6 ((p_s1.row (aI p_space p_s1.dir) x0).map aP.lf)]] (okc (sK lS_ h0) (okc ((eu lS_ h0).2) (ok1 (wC p_s1 x0 (aI p_space p_s1.dir)))))<|
 .cH [7] (aek p_stamp (p_s1.row (aI p_space p_s1.dir) x0)) fun r1 _=>
 .iB (r1.aB != 0) (.ask (Q15 r1) fun r2 h1=>
 .say [.res (.dat (aj.lf1 r2)),.rows ((l0++[r2]).map aj.lf)] (okc (uZ _ _ h1) (ok1 (ap_ aj.aY l0 r2)))<|
 .grd ((l0.length+[r2].length)*80≤140737488355328) fun h2=>
 .say [] (okc (cp_ aj.lf h2) (ok1 (wE p_s1 x0 (aI p_space p_s1.dir))))<|
 .ret ⟨[.gho [1,7] [.res (bH p_s1 none) none,.dead]],[2,8,10,33,34,35],[(10,6)],7⟩ (l0++[r2]))<|
 .say [] (ok1 (wE p_s1 x0 (aI p_space p_s1.dir)))<|
 .ret ⟨[.gho [1,7] [.res (bH p_s1 none) none,.dead]],[2,8,10,33,34,35],[],7⟩ (l0)
noncomputable def vF(p_b0_0:Int)(p_b0_1:List ak)(p_s1:aZ)(p_s2:List (ByteArray×ah))(p_s3:List (ByteArray×au))(p_space:ByteArray)(p_stamp:Int)(r0:List ByteArray):(Int×(List aj))→Mo ((Int×(List aj))⊕((List aj))):=fun(v0,l0)=>
 .iB (decide ((v0:Int)<(r0.length:Int))) (.jk Tryz.f37 4 [1,1,1,1,1,1,0,1,0,0,1,1,0] 8 (fun r_=>⟨[(2,.i_ p_stamp),(8,.hnd 1 (aI p_space p_s1.dir)),(10,.own 6),(33,.own 5),(34,.i_ (r0.length:Int)),(35,.i_ v0)],[.box 113 (.agg [.i_ p_b0_0,.lf (.rows 25 (p_b0_1.map ak.lf)),.mp 1,.mp 2,.mp 3]),.res (bH p_s1 none) none,.res (bP p_s2) none,.res (bT p_s3) none,.dead,.row 9 1 (r0.map lfS),.row 40 5 (r_.map aj.lf)]⟩) ⟨[(2,.i_ p_stamp),(8,.hnd 1 (aI p_space p_s1.dir)),(10,.own 6),(33,.own 5),(34,.i_ (r0.length:Int)),(35,.i_ v0)],[.box 113 (.agg [.i_ p_b0_0,.lf (.rows 25 (p_b0_1.map ak.lf)),.mp 1,.mp 2,.mp 3]),.res (bH p_s1 none) none,.res (bP p_s2) none,.res (bT p_s3) none,.dead,.row 9 1 (r0.map lfS),.row 40 5 (l0.map aj.lf)]⟩ (RV l0 p_b0_0 p_b0_1 p_s1 p_s2 p_s3 p_space p_stamp r0 v0) fun r1=>
 .rt [2,8,10,33,34,35] 7 (.inl (IntKind.wrap .i64 (v0+1),r1)))<|
 .ret ⟨[.kill 5],[10],[],7⟩ (.inr (l0))
noncomputable def anw(p_space:ByteArray)(p_stamp:Int)(p_b0_0:Int)(p_b0_1:List ak)(p_s1:aZ)(p_s2:List (ByteArray×ah))(p_s3:List (ByteArray×au))(r:(List aj)×Int):List AV:=[.lf (.rows 5 (r.1.map aj.lf)),.i_ r.2]
noncomputable def amy(p_space:ByteArray)(p_stamp:Int)(p_b0_0:Int)(p_b0_1:List ak)(p_s1:aZ)(p_s2:List (ByteArray×ah))(p_s3:List (ByteArray×au))(r:(List aj)×Int):List Slot:=[.box 113 (.agg [.i_ p_b0_0,.lf (.rows 25 (p_b0_1.map ak.lf)),.mp 1,.mp 2,.mp 3]),.res (bH p_s1 none) none,.res (bP p_s2) none,.res (bT p_s3) none]
noncomputable def aeo(p_space:ByteArray)(p_stamp:Int)(p_b0_0:Int)(p_b0_1:List ak)(p_s1:aZ)(p_s2:List (ByteArray×ah))(p_s3:List (ByteArray×au)):Mo ((List aj)×Int):=
 .say [.br false,.opH [1] (.tup [.hnd 0 (aI p_space p_s1.dir),.lf (.bool ((aI p_space p_s1.dir).isSome))]) [.res (bH p_s1 none) none]] (okc (rfl:false=false) (ok1 (zC p_s1 p_space)))<|
 .iB (!((aI p_space p_s1.dir).isSome)) (.ret ⟨[.nil 0 5,.tod 0],[0,1],[],4⟩ (([]:List aj),(15:Int)))<|
 .cH [0,1,2,3] (ahP p_space p_stamp p_b0_0 p_b0_1 p_s1 p_s2 p_s3) fun r0 _=>
 .iB (r0) (.ret ⟨[.nil 0 5,.tod 0],[0,1],[],4⟩ (([]:List aj),(30:Int)))<|
 .say [.iO [1] (.clo 106 [.ptr 1 0]) [.res (bH p_s1 none) none,.box 139 (.agg [.hnd 0 (aI p_space p_s1.dir)])]] ok0<|
 .ask (Q89 (aI p_space p_s1.dir) p_s1) fun r1 h0=>
 .say [] (ok1 (akA _ _ _ h0))<|
 .ask (agf (aI p_space p_s1.dir) p_s1) fun r2 h1=>
 .say [.iO [4,1] (.own 2) [.box 139 (.agg [.hnd 1 (aI p_space p_s1.dir)]),.res (bH p_s1 none) none,.row 9 1 (r2.map lfS)],.num r2.length] (okc (agh _ _ _ h1) (okc (ln_ r2 lfS) (ok1 (by simp[aj.aY]:(([]:List aj).map aj.lf)=[]))))<|
 .l1y [.kill 4,.yU 10 40 5,.lQ 6 (([]:List aj).map aj.lf)] Tryz.f37 4 [1,1,1,1,1,1,0,1,0] 0 (.exit 0) (fun(v0,l0)=>⟨[(2,.i_ p_stamp),(8,.hnd 1 (aI p_space p_s1.dir)),(10,.own 6),(33,.own 5),(34,.i_ (r2.length:Int)),(35,.i_ v0)],[.box 113 (.agg [.i_ p_b0_0,.lf (.rows 25 (p_b0_1.map ak.lf)),.mp 1,.mp 2,.mp 3]),.res (bH p_s1 none) none,.res (bP p_s2) none,.res (bT p_s3) none,.dead,.row 9 1 (r2.map lfS),.row 40 5 (l0.map aj.lf)]⟩) (fun r_=>⟨[(10,.own 6)],[.box 113 (.agg [.i_ p_b0_0,.lf (.rows 25 (p_b0_1.map ak.lf)),.mp 1,.mp 2,.mp 3]),.res (bH p_s1 none) none,.res (bP p_s2) none,.res (bT p_s3) none,.dead,.dead,.row 40 5 (r_.map aj.lf)]⟩) (vF p_b0_0 p_b0_1 p_s1 p_s2 p_s3 p_space p_stamp r2) (0,([]:List aj)) fun r3=>
 .ret ⟨[.frz 6],[0,1],[],4⟩ (r3,(0:Int))
noncomputable def Q30(p_space:ByteArray)(p_stamp:Int)(p_b0_0:Int)(p_b0_1:List ak)(p_s1:aZ)(p_s2:List (ByteArray×ah))(p_s3:List (ByteArray×au)):Option ((List aj)×Int):=Mo.den (aeo p_space p_stamp p_b0_0 p_b0_1 p_s1 p_s2 p_s3)
theorem aep(p_space:ByteArray)(p_stamp:Int)(p_b0_0:Int)(p_b0_1:List ak)(p_s1:aZ)(p_s2:List (ByteArray×ah))(p_s3:List (ByteArray×au)):FH (Q30 p_space p_stamp p_b0_0 p_b0_1 p_s1 p_s2 p_s3) 37 [.ptr 0 0,.lf (.str p_space),.i_ p_stamp] [.box 113 (.agg [.i_ p_b0_0,.lf (.rows 25 (p_b0_1.map ak.lf)),.mp 1,.mp 2,.mp 3]),.res (bH p_s1 none) none,.res (bP p_s2) none,.res (bT p_s3) none] (fun r=>resV (anw p_space p_stamp p_b0_0 p_b0_1 p_s1 p_s2 p_s3 r)) (fun r=>amy p_space p_stamp p_b0_0 p_b0_1 p_s1 p_s2 p_s3 r):=jA Tryz.func37
noncomputable def anx(p_session:ByteArray)(p_b0_0:Int)(p_b0_1:List ak)(p_s1:aZ)(p_s2:List (ByteArray×ah))(p_s3:List (ByteArray×au))(r:Unit):List AV:=[.i_ (((aI p_session p_s3).getD au.z).jG),.i_ (((aI p_session p_s3).getD au.z).dw)]
noncomputable def akB(p_session:ByteArray)(p_b0_0:Int)(p_b0_1:List ak)(p_s1:aZ)(p_s2:List (ByteArray×ah))(p_s3:List (ByteArray×au))(r:Unit):List Slot:=[.box 113 (.agg [.i_ p_b0_0,.lf (.rows 25 (p_b0_1.map ak.lf)),.mp 1,.mp 2,.mp 3]),.res (bH p_s1 none) none,.res (bP p_s2) none,.res (bT p_s3) none]
noncomputable def akC(p_session:ByteArray)(p_b0_0:Int)(p_b0_1:List ak)(p_s1:aZ)(p_s2:List (ByteArray×ah))(p_s3:List (ByteArray×au)):Mo (Unit):=
 .say [.br false,.opH [3] (.dat (au.lf1 ((aI p_session p_s3).getD au.z))) [.res (bT p_s3) none],.order [(true,0),(true,1),(true,2),(true,3),(true,4),(true,5)] none []] (okc (rfl:false=false) (ok1 (af4 p_s3 p_session)))<|
 .ret ⟨[.kill 4],[0,1],[],4⟩ ()
noncomputable def ahn(p_session:ByteArray)(p_b0_0:Int)(p_b0_1:List ak)(p_s1:aZ)(p_s2:List (ByteArray×ah))(p_s3:List (ByteArray×au)):Option (Unit):=Mo.den (akC p_session p_b0_0 p_b0_1 p_s1 p_s2 p_s3)
theorem XC(p_session:ByteArray)(p_b0_0:Int)(p_b0_1:List ak)(p_s1:aZ)(p_s2:List (ByteArray×ah))(p_s3:List (ByteArray×au)):FH (ahn p_session p_b0_0 p_b0_1 p_s1 p_s2 p_s3) 38 [.ptr 0 0,.lf (.str p_session)] [.box 113 (.agg [.i_ p_b0_0,.lf (.rows 25 (p_b0_1.map ak.lf)),.mp 1,.mp 2,.mp 3]),.res (bH p_s1 none) none,.res (bP p_s2) none,.res (bT p_s3) none] (fun r=>resV (anx p_session p_b0_0 p_b0_1 p_s1 p_s2 p_s3 r)) (fun r=>akB p_session p_b0_0 p_b0_1 p_s1 p_s2 p_s3 r):=jA Tryz.func38
abbrev NG(m:aj→aj→Option (Bool)):Prop:=∀p_a p_b,FV (m p_a p_b) 27 [.dat (aj.lf1 p_a),.dat (aj.lf1 p_b)] .b_
structure Dw where
 m1:(p_a:aj)→(p_b:aj)→Option (Bool)
 ok1:NG m1
noncomputable def NH(R_:Dw)(p_a:aj)(p_b:aj):Mo (Bool):=
 .oV 4005 (p_a.aB != p_b.aB) [2,3,18] 2 (p_a.dG != p_b.dG)
noncomputable def NI(R_:Dw)(p_a:aj)(p_b:aj)(r0:Bool):Mo (Bool):=
 .oV 4012 (r0) [2,3,25] 2 (!decide ((p_a.fText:ByteArray)=(p_b.fText:ByteArray)))
noncomputable def Gf(R_:Dw)(p_a:aj)(p_b:aj)(r0:Bool):Mo (Bool):=
 .iG 4019 (r0) (.rt [2,3,34] 2 (true))<|
 .nu p_a.aX aj.lf<|
 .nu p_b.aX aj.lf<|
 .rt [2,3,34] 2 ((p_a.aX.length:Int) != (p_b.aX.length:Int))
noncomputable def Gg(R_:Dw)(p_a:aj)(p_b:aj)(r0:Bool):Mo (Bool):=
 .iG 4028 (r0) (.rt [2,3,43] 2 (true))<|
 .nu p_a.bC aF.lf<|
 .nu p_b.bC aF.lf<|
 .rt [2,3,43] 2 ((p_a.bC.length:Int) != (p_b.bC.length:Int))
noncomputable def pJ(R_:Dw)(p_a:aj)(p_b:aj):(Int)→Mo ((Int)⊕(Unit⊕Unit)):=fun(v0)=>
 .nu p_a.aX aj.lf<|
 .iB (decide ((v0:Int)<(p_a.aX.length:Int))) (.ask (jf p_a.aX v0) fun x0 h0=>
 .say [] (ok1 (eu aj.aY h0))<|
 .ask (jf p_b.aX v0) fun x1 h1=>
 .say [] (ok1 (eu aj.aY h1))<|
 .ask (R_.m1 x0 x1) fun r0 h2=>
 .say [.eG (.q 0 (.q 1 (.q 2 (.q 3 (.q 4 (.q 5 (.q 6 (.q 7 (.q 8 (.q 9 (.l 10 (.q 11 .fin)))))))))))) (some 10) [] [.row (aj.lf1 x0),.row (aj.lf1 x1),.res (.b_ r0)] [2,3,5,62] 2 [(2,.ptr 0 0),(3,.ptr 1 0),(5,.i_ v0),(62,.lf (.bool (!r0)))] [bI p_a,bI p_b]] (okc (R_.ok1 _ _ _ h2) (ok1 (rf_ ⟨[(2,.ptr 0 0),(3,.ptr 1 0),(5,.i_ v0),(62,.lf (.bool (!r0)))],[bI p_a,bI p_b]⟩)))<|
 .iB (!r0) (.ret ⟨[.kill 0,.kill 1],[4],[],2⟩ (.inr (.inl ())))<|
 .rt [2,3,5] 2 (.inl (IntKind.wrap .i64 (v0+1))))<|
 .rt [2,3] 2 (.inr (.inr (())))
noncomputable def U6(R_:Dw)(p_a:aj)(p_b:aj)(v0:Int):Option (Unit⊕Unit):=dA (fun v_=>(pJ R_ p_a p_b v_).den) FU (v0)
theorem anz:aaY (opsOf (Code.sub (bodyC Tryz.f27) [1,1,1,0,1,0,0,1,0,0,0])) [(true,0),(true,1),(true,2),(true,3),(true,4),(true,5),(true,6),(true,7),(true,8),(true,9),(true,10),(true,11),(true,12),(true,13),(true,14),(true,15),(true,16),(true,17),(true,18),(true,19),(true,20),(true,21),(true,22),(true,23),(true,24),(true,25),(false,26),(true,27),(true,28)] none=true:=by kernel_rfl
noncomputable def Ah(R_:Dw)(p_a:aj)(p_b:aj)(v0:Int):Mo (Bool):=
 .say [.nZ [(true,0),(true,1),(true,2),(true,3),(true,4),(true,5),(true,6),(true,7),(true,8),(true,9),(true,10),(true,11),(true,12),(true,13),(true,14),(true,15),(true,16),(true,17),(true,18),(true,19),(true,20),(true,21),(true,22),(true,23),(true,24),(true,25),(false,26),(true,27),(true,28)] none []] (ok1 anz)<|
 .gx aF.aY p_a.bC v0 fun x0 _=>
 .gx aF.aY p_b.bC v0 fun x1 _=>
 .iG 24013 (!decide ((x0.fName:ByteArray)=(x1.fName:ByteArray))) (.rt [2,3,6,98] 2 (true))<|
 .gx aF.aY p_a.bC v0 fun x2 _=>
 .gx aF.aY p_b.bC v0 fun x3 _=>
 .cl (R_.ok1 x2.fValue x3.fValue) fun r0 _=>
 .rt [2,3,6,98] 2 (!r0)
noncomputable def rC(R_:Dw)(p_a:aj)(p_b:aj):(Int)→Mo ((Int)⊕(Unit⊕Unit)):=fun(v0)=>
 .nu p_a.bC aF.lf<|
 .iB (decide ((v0:Int)<(p_a.bC.length:Int))) (.jk Tryz.f27 0 [1,1,1,0,1,0,0,1,0,0,0] 29 (fun r_=>⟨[(2,.ptr 0 0),(3,.ptr 1 0),(6,.i_ v0),(98,.b_ r_)],[bI p_a,bI p_b]⟩) ⟨[(2,.ptr 0 0),(3,.ptr 1 0),(6,.i_ v0)],[bI p_a,bI p_b]⟩ (Ah R_ p_a p_b v0) fun r0=>
 .iB (r0) (.ret ⟨[.kill 0,.kill 1],[4],[],2⟩ (.inr (.inl ())))<|
 .rt [2,3,6] 2 (.inl (IntKind.wrap .i64 (v0+1))))<|
 .ret ⟨[.kill 0,.kill 1],[],[],2⟩ (.inr (.inr (())))
noncomputable def U7(R_:Dw)(p_a:aj)(p_b:aj)(v0:Int):Option (Unit⊕Unit):=dA (fun v_=>(rC R_ p_a p_b v_).den) FU (v0)
noncomputable def ZI(R_:Dw)(p_a:aj)(p_b:aj):Mo (Bool):=
 .sf Tryz.f27 0 [1,0,0] 0 12 1 [(2,.ptr 0 0),(3,.ptr 1 0)] [bI p_a,bI p_b] 18 (NH R_ p_a p_b) fun r0=>
 .sb Tryz.f27 0 [1,0,0] 12 7 1 [(2,.ptr 0 0),(3,.ptr 1 0)] [bI p_a,bI p_b] 18 25 r0 (NI R_ p_a p_b r0) fun r1=>
 .sb Tryz.f27 0 [1,0,0] 19 9 1 [(2,.ptr 0 0),(3,.ptr 1 0)] [bI p_a,bI p_b] 25 34 r1 (Gf R_ p_a p_b r1) fun r2=>
 .sb Tryz.f27 0 [1,0,0] 28 9 1 [(2,.ptr 0 0),(3,.ptr 1 0)] [bI p_a,bI p_b] 34 43 r2 (Gg R_ p_a p_b r2) fun r3=>
 .iB (r3) (.ret (bF 1) (false))<|
 .l2m [] Tryz.f27 0 [1,1,0,1,0] 0 (fun(v0)=>⟨[(2,.ptr 0 0),(3,.ptr 1 0),(5,.i_ v0)],[bI p_a,bI p_b]⟩) .ret (fun _=>⟨[(4,.b_ false)],[.dead,.dead]⟩) (.exit 0) (fun _=>⟨[(2,.ptr 0 0),(3,.ptr 1 0)],[bI p_a,bI p_b]⟩) (U6 R_ p_a p_b 0) (pJ R_ p_a p_b) (0) (fun o0=>
 .ret (bF 1) (false)) fun o1=>
 .l2m [] Tryz.f27 0 [1,1,1,0,1,0] 0 (fun(v1)=>⟨[(2,.ptr 0 0),(3,.ptr 1 0),(6,.i_ v1)],[bI p_a,bI p_b]⟩) .ret (fun _=>⟨[(4,.b_ false)],[.dead,.dead]⟩) (.exit 2) (fun _=>⟨[],[.dead,.dead]⟩) (U7 R_ p_a p_b 0) (rC R_ p_a p_b) (0) (fun o2=>
 .ret (bF 1) (false)) fun o3=>
 .ret (bF 1) (true)
theorem akD(R_:Dw):NG fun p_a p_b=>Mo.den (ZI R_ p_a p_b):=fun _ _=>dI Tryz.func27
noncomputable def pK:Nat→Dw
 |0=>{ m1:=fun p_a p_b=>none,ok1:=fun _ _ _ h=>(by cases h) }
 |n_+1=>{ m1:=fun p_a p_b=>Mo.den (ZI (pK n_) p_a p_b),ok1:=akD (pK n_) }
noncomputable def Q2(p_a:aj)(p_b:aj):Option (Bool):=(pK FU).m1 p_a p_b
theorem aer:NG Q2:=(pK FU).ok1
noncomputable def akE(p_l:List ak)(p_name:ByteArray):Mo (ak×Bool):=
 .cl (ER p_l p_name) fun r0 _=>
 .iB (decide ((r0:Int)<0)) (.ret (bF 2) (ak.mk ⟨#[]⟩ [] aA.z 0 0,false))<|
 .gx ak.aY p_l r0 fun x0 _=>
 .ask (Q31 x0) fun r1 h0=>
 .say [.iO [] (ag_ (ak.lf1 r1) [(1,.own 0)]) [.row 60 31 (r1.bn.map aW.lf)],.at_ 0 0,.frz 1] (ok1 (MQ _ _ h0))<|
 .ret (bF 2) (r1,true)
noncomputable def amA(p_l:List ak)(p_name:ByteArray):Option (ak×Bool):=Mo.den (akE p_l p_name)
theorem XD(p_l:List ak)(p_name:ByteArray):FV (amA p_l p_name) 44 [.lf (.rows 25 (p_l.map ak.lf)),.lf (.str p_name)] (fun r=>.tup [.dat (ak.lf1 r.1),.b_ r.2]):=dI Tryz.func44
noncomputable def ZJ(p_b0_0:Int)(p_b0_1:List ak)(p_s1:aZ)(p_s2:List (ByteArray×ah))(p_s3:List (ByteArray×au)):(Int×(List ak))→Mo ((Int×(List ak))⊕((List ak))):=fun(v0,l0)=>
 .iB (decide ((v0:Int)<(p_b0_1.length:Int))) (.gx ak.aY p_b0_1 v0 fun x0 _=>
 .ask (amA p_b0_1 x0.fName) fun r0 h0=>
 .say [.eG (.q 0 (.q 1 (.q 2 (.q 3 (.q 4 (.q 5 (.alt 6 (.q 7 (.q 8 (.q 9 (.l 10 (.l 11 (.q 12 .fin)))))) (.l 10 (.l 6 (.q 7 (.q 8 (.q 9 (.l 11 (.q 12 .fin)))))))))))))) none [6] [.both [.at_ 16 6,.resv 1,.res (.tup [.dat (ak.lf1 r0.1),.b_ r0.2]),.slot 6] [.at_ 16 10,.resv 1,.slot 6,.res (.tup [.dat (ak.lf1 r0.1),.b_ r0.2])]] [0,3,6,13,14,15] 7 [(0,.ptr 0 0),(3,.own 4),(6,.ptr 6 0),(13,.lf (.rows 25 (p_b0_1.map ak.lf))),(14,.i_ (p_b0_1.length:Int)),(15,.i_ v0)] [.box 113 (.agg [.i_ p_b0_0,.lf (.rows 25 (p_b0_1.map ak.lf)),.mp 1,.mp 2,.mp 3]),.res (bH p_s1 none) none,.res (bP p_s2) none,.res (bT p_s3) none,.row 48 25 (l0.map ak.lf),.box 48 (.agg ((ak.lf1 x0).map AV.lf)),.box 48 (.agg ((ak.lf1 r0.1).map AV.lf))],.rows ((l0++[r0.1]).map ak.lf)] (okc (XD _ _ _ h0) (okc (rf_ ⟨[(0,.ptr 0 0),(3,.own 4),(6,.ptr 6 0),(13,.lf (.rows 25 (p_b0_1.map ak.lf))),(14,.i_ (p_b0_1.length:Int)),(15,.i_ v0)],[.box 113 (.agg [.i_ p_b0_0,.lf (.rows 25 (p_b0_1.map ak.lf)),.mp 1,.mp 2,.mp 3]),.res (bH p_s1 none) none,.res (bP p_s2) none,.res (bT p_s3) none,.row 48 25 (l0.map ak.lf),.box 48 (.agg ((ak.lf1 x0).map AV.lf)),.box 48 (.agg ((ak.lf1 r0.1).map AV.lf))]⟩) (okc (XD _ _ _ h0) (okc (rf_ ⟨[(0,.ptr 0 0),(3,.own 4),(6,.ptr 6 0),(13,.lf (.rows 25 (p_b0_1.map ak.lf))),(14,.i_ (p_b0_1.length:Int)),(15,.i_ v0)],[.box 113 (.agg [.i_ p_b0_0,.lf (.rows 25 (p_b0_1.map ak.lf)),.mp 1,.mp 2,.mp 3]),.res (bH p_s1 none) none,.res (bP p_s2) none,.res (bT p_s3) none,.row 48 25 (l0.map ak.lf),.box 48 (.agg ((ak.lf1 x0).map AV.lf)),.box 48 (.agg ((ak.lf1 r0.1).map AV.lf))]⟩) (ok1 (ap_ ak.aY l0 r0.1))))))<|
 .grd ((l0.length+[r0.1].length)*368≤140737488355328) fun h1=>
 .say [] (ok1 (cp_ ak.lf h1))<|
 .ret ⟨[],[0,3,13,14,15],[(8,4)],5⟩ (.inl (IntKind.wrap .i64 (v0+1),l0++[r0.1])))<|
 .rt [3] 5 (.inr (l0))
noncomputable def anA(p_b0_0:Int)(p_b0_1:List ak)(p_s1:aZ)(p_s2:List (ByteArray×ah))(p_s3:List (ByteArray×au))(r:List ak):List AV:=[.lf (.rows 25 (r.map ak.lf))]
noncomputable def akF(p_b0_0:Int)(p_b0_1:List ak)(p_s1:aZ)(p_s2:List (ByteArray×ah))(p_s3:List (ByteArray×au))(r:List ak):List Slot:=[.box 113 (.agg [.i_ p_b0_0,.lf (.rows 25 (p_b0_1.map ak.lf)),.mp 1,.mp 2,.mp 3]),.res (bH p_s1 none) none,.res (bP p_s2) none,.res (bT p_s3) none]
noncomputable def akG(p_b0_0:Int)(p_b0_1:List ak)(p_s1:aZ)(p_s2:List (ByteArray×ah))(p_s3:List (ByteArray×au)):Mo (List ak):=
 .say [.br false,.num p_b0_1.length] (okc (rfl:false=false) (okc (ln_ p_b0_1 ak.lf) (ok1 (by simp[ak.aY]:(([]:List ak).map ak.lf)=[]))))<|
 .l1y [.yU 3 48 25,.lQ 4 (([]:List ak).map ak.lf)] Tryz.f18 4 [1,1,1,0,1,0] 0 (.exit 0) (fun(v0,l0)=>⟨[(0,.ptr 0 0),(3,.own 4),(13,.lf (.rows 25 (p_b0_1.map ak.lf))),(14,.i_ (p_b0_1.length:Int)),(15,.i_ v0)],[.box 113 (.agg [.i_ p_b0_0,.lf (.rows 25 (p_b0_1.map ak.lf)),.mp 1,.mp 2,.mp 3]),.res (bH p_s1 none) none,.res (bP p_s2) none,.res (bT p_s3) none,.row 48 25 (l0.map ak.lf)]⟩) (fun r_=>⟨[(3,.own 4)],[.box 113 (.agg [.i_ p_b0_0,.lf (.rows 25 (p_b0_1.map ak.lf)),.mp 1,.mp 2,.mp 3]),.res (bH p_s1 none) none,.res (bP p_s2) none,.res (bT p_s3) none,.row 48 25 (r_.map ak.lf)]⟩) (ZJ p_b0_0 p_b0_1 p_s1 p_s2 p_s3) (0,([]:List ak)) fun r0=>
 .ret ⟨[.frz 4],[0],[],4⟩ (r0)
noncomputable def amB(p_b0_0:Int)(p_b0_1:List ak)(p_s1:aZ)(p_s2:List (ByteArray×ah))(p_s3:List (ByteArray×au)):Option (List ak):=Mo.den (akG p_b0_0 p_b0_1 p_s1 p_s2 p_s3)
theorem aho(p_b0_0:Int)(p_b0_1:List ak)(p_s1:aZ)(p_s2:List (ByteArray×ah))(p_s3:List (ByteArray×au)):FH (amB p_b0_0 p_b0_1 p_s1 p_s2 p_s3) 18 [.ptr 0 0] [.box 113 (.agg [.i_ p_b0_0,.lf (.rows 25 (p_b0_1.map ak.lf)),.mp 1,.mp 2,.mp 3]),.res (bH p_s1 none) none,.res (bP p_s2) none,.res (bT p_s3) none] (fun r=>resV (anA p_b0_0 p_b0_1 p_s1 p_s2 p_s3 r)) (fun r=>akF p_b0_0 p_b0_1 p_s1 p_s2 p_s3 r):=jA Tryz.func18
end
end Go.Proofs.YtpdlghcgekojlaaGreatDoor
namespace Go.Proofs.YtpdlghcgekojlaaGreatDoor
open Go.RowKit
set_option maxRecDepth 20000
set_option maxHeartbeats 4000000
noncomputable section
theorem anB:aaY (opsOf (Code.sub (bodyC Tryz.f10) [1,1,1,1,1,1,1,1,1,0])) [(true,0),(true,1),(true,2),(true,3),(true,4),(true,5),(true,6),(true,7),(true,8),(true,9),(true,10),(true,11),(false,12),(false,13),(true,14),(true,15),(true,16),(true,17),(true,18),(true,19),(true,20),(true,21),(true,22),(true,23),(true,24),(true,25),(true,26),(true,27),(true,28),(true,29),(true,30),(true,31),(true,32),(true,33),(true,34),(true,35),(true,36),(true,37),(false,38),(false,39),(true,40),(true,41),(true,42),(true,43),(false,44),(true,45),(true,46),(true,47),(true,48)] none=true:=by kernel_rfl
noncomputable def akH :Mo (Bool):=
 .say [.iO [] (.ptr 3 0) [.res (bH (⟨[],[]⟩:aZ) none) none,.res (bP ([]:List (ByteArray×ah))) none,.res (bT ([]:List (ByteArray×au))) none,.box 113 (.agg [.i_ 0,.lf (.rows 25 (([]:List ak).map ak.lf)),.mp 0,.mp 1,.mp 2])],.iO [3,0,1,2] (.i_ 0) [.box 113 (.agg [.i_ 0,.lf (.rows 25 (([]:List ak).map ak.lf)),.mp 1,.mp 2,.mp 3]),.res (bH (⟨[],[]⟩:aZ) none) none,.res (bP ([]:List (ByteArray×ah))) none,.res (bT ([]:List (ByteArray×au))) none],.br false,.at_ 10 5,.tod 23] ok0<|
 .ask (ahf) fun r0 h0=>
 .say [] (ok1 (Xx  _ h0))<|
 .ask (Q99 0 ([]:List ak) (⟨[],[]⟩:aZ) ([]:List (ByteArray×ah)) ([]:List (ByteArray×au))) fun r1 h1=>
 .say [] (okc (adS _ _ _ _ _ _ h1) (ok1 (rfl:false=false)))<|
 .cH [3,0,1,2] (ND (bD.mk 0 1 ⟨#[]⟩ 0 (ay.ale (ay.qP ay.z 4) (ak.mk ⟨#[99]⟩ [] (aA.afF aA.z (-1)) 0 0))) 0 ([]:List ak) (⟨[],[]⟩:aZ) ([]:List (ByteArray×ah)) ([]:List (ByteArray×au))) fun r2 _=>
 .cl (D6 1) fun r3 _=>
 .ask (akz 1) fun r4 h2=>
 .say [.res (.dat (aj.lf1 r4)),.at_ 12 5,.tod 29] (ok1 (XB _ _ h2))<|
 .ask (Q54 (bD.mk 0 5 ⟨#[115]⟩ 3 (ay.OQ (ay.OO (ay.uO (ay.qP ay.z 2) ⟨#[99]⟩) r3) r4)) r2.2.1 r2.2.2.1 r2.2.2.2.1 r2.2.2.2.2.1 r2.2.2.2.2.2) fun r5 h3=>
 .say [.iO [3,0,1,2] (.i_ r5.1) [.box 113 (.agg [.i_ r5.2.1,.lf (.rows 25 (r5.2.2.1.map ak.lf)),.mp 1,.mp 2,.mp 3]),.res (bH r5.2.2.2.1 none) none,.res (bP r5.2.2.2.2.1) none,.res (bT r5.2.2.2.2.2) none],.at_ 14 3,.tod 33] (ok1 (ND _ _ _ _ _ _ _ h3))<|
 .cH [3,0,1,2] (ND (bD.mk 0 5 ⟨#[]⟩ 0 (ay.qP ay.z 1)) r5.2.1 r5.2.2.1 r5.2.2.2.1 r5.2.2.2.2.1 r5.2.2.2.2.2) fun r6 _=>
 .cl (D6 1) fun r7 _=>
 .cH [3,0,1,2] (aem ⟨#[99]⟩ r7 5 r6.2.1 r6.2.2.1 r6.2.2.2.1 r6.2.2.2.2.1 r6.2.2.2.2.2) fun r8 _=>
 .ask (Q30 ⟨#[99]⟩ 4 r6.2.1 r6.2.2.1 r6.2.2.2.1 r6.2.2.2.2.1 r6.2.2.2.2.2) fun r9 h4=>
 .say [.iO [3,0,1,2] (.tup [.lf (.rows 5 (r9.1.map aj.lf)),.i_ r9.2]) [.box 113 (.agg [.i_ r6.2.1,.lf (.rows 25 (r6.2.2.1.map ak.lf)),.mp 1,.mp 2,.mp 3]),.res (bH r6.2.2.2.1 none) none,.res (bP r6.2.2.2.2.1) none,.res (bT r6.2.2.2.2.2) none],.iO [3,0,1,2] (.tup [.i_ (((aI ⟨#[115]⟩ r6.2.2.2.2.2).getD au.z).jG),.i_ (((aI ⟨#[115]⟩ r6.2.2.2.2.2).getD au.z).dw)]) [.box 113 (.agg [.i_ r6.2.1,.lf (.rows 25 (r6.2.2.1.map ak.lf)),.mp 1,.mp 2,.mp 3]),.res (bH r6.2.2.2.1 none) none,.res (bP r6.2.2.2.2.1) none,.res (bT r6.2.2.2.2.2) none]] (ok1 (aep _ _ _ _ _ _ _ _ h4))<|
 .ask (ahn ⟨#[115]⟩ r6.2.1 r6.2.2.1 r6.2.2.2.1 r6.2.2.2.2.1 r6.2.2.2.2.2) fun r10 h5=>
 .say [] (okc (XC _ _ _ _ _ _ _ h5) (ok1 anB))<|
 .ite (r2.1==0) (fun c0=>
 .say [] (ok1 c0)<|
 .ite (r5.1==0) (fun c1=>
 .say [] (ok1 c1)<|
 .ite (r6.1==23) (fun c2=>
 .say [] (ok1 c2)<|
 .ask (akz 1) fun r11 h6=>
 .say [] (ok1 (XB _ _ h6))<|
 .ask (Q2 r8.1 r11) fun r12 h7=>
 .say [] (ok1 (aer _ _ _ h7))<|
 .ite (r12) (fun c3=>
 .say [] (ok1 c3)<|
 .ite (r8.2==0) (fun c4=>
 .say [] (okc c4 (ok1 (ln_ r9.1 aj.lf)))<|
 .ite ((r9.1.length:Int)==0) (fun c5=>
 .say [] (ok1 c5)<|
 .ite (r9.2==0) (fun c6=>
 .say [] (ok1 c6)<|
 .ite ((((aI ⟨#[115]⟩ r6.2.2.2.2.2).getD au.z).jG)==3) (fun c7=>
 .say [] (ok1 c7)<|
 .ite ((((aI ⟨#[115]⟩ r6.2.2.2.2.2).getD au.z).dw)==5) (fun c8=>
 .say [.nZ [(true,0),(true,1),(true,2),(true,3),(true,4),(true,5),(true,6),(true,7),(true,8),(true,9),(true,10),(true,11),(false,12),(false,13),(true,14),(true,15),(true,16),(true,17),(true,18),(true,19),(true,20),(true,21),(true,22),(true,23),(true,24),(true,25),(true,26),(true,27),(true,28),(true,29),(true,30),(true,31),(true,32),(true,33),(true,34),(true,35),(true,36),(true,37),(false,38),(false,39),(true,40),(true,41),(true,42),(true,43),(false,44),(true,45),(true,46),(true,47),(true,48)] none [0,1,2,3],.gd 22002 true,.gd 22006 true,.gd 22010 true,.res (.dat (aj.lf1 r11)),.res (.b_ r12),.gd 22015 true,.gd 22019 true,.num r9.1.length,.gd 22024 true,.gd 22028 true,.gd 22032 true,.gd 22036 true] (ok1 c8)<|
 .cl (D6 1) fun r13 _=>
 .cH [3,0,1,2] (UR ⟨#[99]⟩ r13 r6.2.1 r6.2.2.1 r6.2.2.2.1 r6.2.2.2.2.1 r6.2.2.2.2.2) fun r14 _=>
 .iG 22042 (r14==5) (.ask (amB r6.2.1 r6.2.2.1 r6.2.2.2.1 r6.2.2.2.2.1 r6.2.2.2.2.2) fun r15 h8=>
 .say [.iO [3,0,1,2] (.lf (.rows 25 (r15.map ak.lf))) [.box 113 (.agg [.i_ r6.2.1,.lf (.rows 25 (r6.2.2.1.map ak.lf)),.mp 1,.mp 2,.mp 3]),.res (bH r6.2.2.2.1 none) none,.res (bP r6.2.2.2.2.1) none,.res (bT r6.2.2.2.2.2) none],.num r15.length] (okc (aho _ _ _ _ _ _ h8) (ok1 (ln_ r15 ak.lf)))<|
 .ret (bF 1) ((r15.length:Int)==1))<|
 .ret (bF 1) (false)) fun c8=>
 .say [.nZ [(true,0),(true,1),(true,2),(true,3),(true,4),(true,5),(true,6),(true,7),(true,8),(true,9),(true,10),(true,11),(false,12),(false,13),(true,14),(true,15),(true,16),(true,17),(true,18),(true,19),(true,20),(true,21),(true,22),(true,23),(true,24),(true,25),(true,26),(true,27),(true,28),(true,29),(true,30),(true,31),(true,32),(true,33),(true,34),(true,35),(true,36),(true,37),(false,38),(false,39),(true,40),(true,41),(true,42),(true,43),(false,44),(true,45),(true,46),(true,47),(true,48)] none [],.gd 22002 true,.gd 22006 true,.gd 22010 true,.res (.dat (aj.lf1 r11)),.res (.b_ r12),.gd 22015 true,.gd 22019 true,.num r9.1.length,.gd 22024 true,.gd 22028 true,.gd 22032 true,.gd 22036 false] (ok1 c8)<|
 .ret (bF 1) (false)) fun c7=>
 .say [.nZ [(true,0),(true,1),(true,2),(true,3),(true,4),(true,5),(true,6),(true,7),(true,8),(true,9),(true,10),(true,11),(false,12),(false,13),(true,14),(true,15),(true,16),(true,17),(true,18),(true,19),(true,20),(true,21),(true,22),(true,23),(true,24),(true,25),(true,26),(true,27),(true,28),(true,29),(true,30),(true,31),(true,32),(true,33),(true,34),(true,35),(true,36),(true,37),(false,38),(false,39),(true,40),(true,41),(true,42),(true,43),(false,44),(true,45),(true,46),(true,47),(true,48)] none [],.gd 22002 true,.gd 22006 true,.gd 22010 true,.res (.dat (aj.lf1 r11)),.res (.b_ r12),.gd 22015 true,.gd 22019 true,.num r9.1.length,.gd 22024 true,.gd 22028 true,.gd 22032 false] (ok1 c7)<|
 .ret (bF 1) (false)) fun c6=>
 .say [.nZ [(true,0),(true,1),(true,2),(true,3),(true,4),(true,5),(true,6),(true,7),(true,8),(true,9),(true,10),(true,11),(false,12),(false,13),(true,14),(true,15),(true,16),(true,17),(true,18),(true,19),(true,20),(true,21),(true,22),(true,23),(true,24),(true,25),(true,26),(true,27),(true,28),(true,29),(true,30),(true,31),(true,32),(true,33),(true,34),(true,35),(true,36),(true,37),(false,38),(false,39),(true,40),(true,41),(true,42),(true,43),(false,44),(true,45),(true,46),(true,47),(true,48)] none [],.gd 22002 true,.gd 22006 true,.gd 22010 true,.res (.dat (aj.lf1 r11)),.res (.b_ r12),.gd 22015 true,.gd 22019 true,.num r9.1.length,.gd 22024 true,.gd 22028 false] (ok1 c6)<|
 .ret (bF 1) (false)) fun c5=>
 .say [.nZ [(true,0),(true,1),(true,2),(true,3),(true,4),(true,5),(true,6),(true,7),(true,8),(true,9),(true,10),(true,11),(false,12),(false,13),(true,14),(true,15),(true,16),(true,17),(true,18),(true,19),(true,20),(true,21),(true,22),(true,23),(true,24),(true,25),(true,26),(true,27),(true,28),(true,29),(true,30),(true,31),(true,32),(true,33),(true,34),(true,35),(true,36),(true,37),(false,38),(false,39),(true,40),(true,41),(true,42),(true,43),(false,44),(true,45),(true,46),(true,47),(true,48)] none [],.gd 22002 true,.gd 22006 true,.gd 22010 true,.res (.dat (aj.lf1 r11)),.res (.b_ r12),.gd 22015 true,.gd 22019 true,.num r9.1.length,.gd 22024 false] (ok1 c5)<|
 .ret (bF 1) (false)) fun c4=>
 .say [.nZ [(true,0),(true,1),(true,2),(true,3),(true,4),(true,5),(true,6),(true,7),(true,8),(true,9),(true,10),(true,11),(false,12),(false,13),(true,14),(true,15),(true,16),(true,17),(true,18),(true,19),(true,20),(true,21),(true,22),(true,23),(true,24),(true,25),(true,26),(true,27),(true,28),(true,29),(true,30),(true,31),(true,32),(true,33),(true,34),(true,35),(true,36),(true,37),(false,38),(false,39),(true,40),(true,41),(true,42),(true,43),(false,44),(true,45),(true,46),(true,47),(true,48)] none [],.gd 22002 true,.gd 22006 true,.gd 22010 true,.res (.dat (aj.lf1 r11)),.res (.b_ r12),.gd 22015 true,.gd 22019 false] (ok1 c4)<|
 .ret (bF 1) (false)) fun c3=>
 .say [.nZ [(true,0),(true,1),(true,2),(true,3),(true,4),(true,5),(true,6),(true,7),(true,8),(true,9),(true,10),(true,11),(false,12),(false,13),(true,14),(true,15),(true,16),(true,17),(true,18),(true,19),(true,20),(true,21),(true,22),(true,23),(true,24),(true,25),(true,26),(true,27),(true,28),(true,29),(true,30),(true,31),(true,32),(true,33),(true,34),(true,35),(true,36),(true,37),(false,38),(false,39),(true,40),(true,41),(true,42),(true,43),(false,44),(true,45),(true,46),(true,47),(true,48)] none [],.gd 22002 true,.gd 22006 true,.gd 22010 true,.res (.dat (aj.lf1 r11)),.res (.b_ r12),.gd 22015 false] (ok1 c3)<|
 .ret (bF 1) (false)) fun c2=>
 .say [.nZ [(true,0),(true,1),(true,2),(true,3),(true,4),(true,5),(true,6),(true,7),(true,8),(true,9),(true,10),(true,11),(false,12),(false,13),(true,14),(true,15),(true,16),(true,17),(true,18),(true,19),(true,20),(true,21),(true,22),(true,23),(true,24),(true,25),(true,26),(true,27),(true,28),(true,29),(true,30),(true,31),(true,32),(true,33),(true,34),(true,35),(true,36),(true,37),(false,38),(false,39),(true,40),(true,41),(true,42),(true,43),(false,44),(true,45),(true,46),(true,47),(true,48)] none [],.gd 22002 true,.gd 22006 true,.gd 22010 false] (ok1 c2)<|
 .ret (bF 1) (false)) fun c1=>
 .say [.nZ [(true,0),(true,1),(true,2),(true,3),(true,4),(true,5),(true,6),(true,7),(true,8),(true,9),(true,10),(true,11),(false,12),(false,13),(true,14),(true,15),(true,16),(true,17),(true,18),(true,19),(true,20),(true,21),(true,22),(true,23),(true,24),(true,25),(true,26),(true,27),(true,28),(true,29),(true,30),(true,31),(true,32),(true,33),(true,34),(true,35),(true,36),(true,37),(false,38),(false,39),(true,40),(true,41),(true,42),(true,43),(false,44),(true,45),(true,46),(true,47),(true,48)] none [],.gd 22002 true,.gd 22006 false] (ok1 c1)<|
 .ret (bF 1) (false)) fun c0=>
 .say [.nZ [(true,0),(true,1),(true,2),(true,3),(true,4),(true,5),(true,6),(true,7),(true,8),(true,9),(true,10),(true,11),(false,12),(false,13),(true,14),(true,15),(true,16),(true,17),(true,18),(true,19),(true,20),(true,21),(true,22),(true,23),(true,24),(true,25),(true,26),(true,27),(true,28),(true,29),(true,30),(true,31),(true,32),(true,33),(true,34),(true,35),(true,36),(true,37),(false,38),(false,39),(true,40),(true,41),(true,42),(true,43),(false,44),(true,45),(true,46),(true,47),(true,48)] none [],.gd 22002 false] (ok1 c0)<|
 .ret (bF 1) (false)
noncomputable def amC :Option (Bool):=Mo.den (akH )
theorem XE:FV (amC ) 10 [] .b_:=dI Tryz.func10
abbrev ahr(m:aA→aA→Option (Bool)):Prop:=∀p_a p_b,FV (m p_a p_b) 80 [.dat (aA.lf1 p_a),.dat (aA.lf1 p_b)] .b_
structure anF where
 m1:(p_a:aA)→(p_b:aA)→Option (Bool)
 ok1:ahr m1
abbrev ahs(m:bf→bf→Option (Bool)):Prop:=∀p_a p_b,FV (m p_a p_b) 191 [.dat (bf.lf1 p_a),.dat (bf.lf1 p_b)] .b_
structure anG where
 m1:(p_a:bf)→(p_b:bf)→Option (Bool)
 ok1:ahs m1
abbrev aht(m:aS→aS→Option (Bool)):Prop:=∀p_a p_b,FV (m p_a p_b) 139 [.dat (aS.lf1 p_a),.dat (aS.lf1 p_b)] .b_
structure anH where
 m1:(p_a:aS)→(p_b:aS)→Option (Bool)
 ok1:aht m1
end
end Go.Proofs.YtpdlghcgekojlaaGreatDoor
namespace Go.Proofs.YtpdlghcgekojlaaGreatDoor
open Go.RowKit
set_option maxRecDepth 20000
set_option maxHeartbeats 4000000
noncomputable section
noncomputable def an6(p_l:List bD):Mo (Bool):=
 .nu p_l bD.lf<|
 .aV 4003 (decide ((40:Int)<(p_l.length:Int))) [0,1,16] 0 (true)
noncomputable def an7(p_l:List bD):Unit→Mo (Unit⊕Unit):=fun _=>
 .say [.br false] (ok1 (rfl:false=false))<|
 .rt [0] 0 (.inr ())
noncomputable def aou(p_l:List bD):Option (Unit):=dA (fun v_=>(an7 p_l v_).den) FU ()
noncomputable def anY(p_l:List bD):(Int)→Mo ((Int)⊕(Unit⊕Unit)):=fun(v0)=>
 .nu p_l bD.lf<|
 .iB (decide ((v0:Int)<(p_l.length:Int))) (.gx bD.aY p_l v0 fun x0 _=>
 .jk Tryz.f9 0 [1,1,1,0,1,0,0,1,0,0,1,0,0] 31 (fun r_=>⟨[(0,.lf (.rows 82 (p_l.map bD.lf))),(6,.i_ v0),(7,.ptr 0 0),(51,.b_ r_)],[.box 64 (.agg ((ay.lf1 x0.dZ).map AV.lf))]⟩) ⟨[(0,.lf (.rows 82 (p_l.map bD.lf))),(6,.i_ v0),(7,.ptr 0 0)],[.box 64 (.agg ((ay.lf1 x0.dZ).map AV.lf))]⟩ (JO p_l v0 x0) fun r0=>
 .iB (r0) (.rt [4] 0 (.inr (.inl ())))<|
 .l2 Tryz.f9 0 [1,1,1,0,1,0,0,1,0,0,1,1,1,0] 0 (fun(v1)=>⟨[(0,.lf (.rows 82 (p_l.map bD.lf))),(6,.i_ v0),(7,.ptr 0 0),(8,.i_ v1)],[.box 64 (.agg ((ay.lf1 x0.dZ).map AV.lf))]⟩) .ret (fun _=>⟨[(4,.b_ true)],[.dead]⟩) (.exit 4) (fun _=>⟨[(0,.lf (.rows 82 (p_l.map bD.lf))),(6,.i_ v0)],[.dead]⟩) (wM p_l v0 x0) (0) (fun o0=>
 .rt [4] 0 (.inr (.inl ()))) fun o1=>
 .rt [0,6] 0 (.inl (IntKind.wrap .i64 (v0+1))))<|
 .rt [] 0 (.inr (.inr (())))
noncomputable def aoa(p_l:List bD)(v0:Int):Option (Unit⊕Unit):=dA (fun v_=>(anY p_l v_).den) FU (v0)
noncomputable def aol(p_l:List bD):Mo (Bool):=
 .jk Tryz.f9 0 [1,0,0] 9 (fun r_=>⟨[(0,.lf (.rows 82 (p_l.map bD.lf))),(1,.raw (.slice none 0 0)),(16,.b_ r_)],[]⟩) ⟨[(0,.lf (.rows 82 (p_l.map bD.lf))),(1,.raw (.slice none 0 0))],[]⟩ (an6 p_l) fun r0=>
 .iB (r0) (.rt [0] 0 (true))<|
 .l1m [] Tryz.f9 0 [1,1,0,1,0] 0 (.exit 0) (fun _=>⟨[(0,.lf (.rows 82 (p_l.map bD.lf))),(1,.raw (.slice none 0 0)),(5,.i_ 0)],[]⟩) (fun r_=>⟨[(0,.lf (.rows 82 (p_l.map bD.lf)))],[]⟩) (aou p_l) (an7 p_l) () fun r1=>
 .l2m [] Tryz.f9 0 [1,1,1,0,1,0] 0 (fun(v0)=>⟨[(0,.lf (.rows 82 (p_l.map bD.lf))),(6,.i_ v0)],[]⟩) .ret (fun _=>⟨[(4,.b_ true)],[]⟩) (.exit 2) (fun _=>⟨[],[]⟩) (aoa p_l 0) (anY p_l) (0) (fun o0=>
 .rt [0] 0 (true)) fun o1=>
 .rt [0] 0 (false)
noncomputable def aoQ(p_l:List bD):Option (Bool):=Mo.den (aol p_l)
theorem aoM(p_l:List bD):FH (aoQ p_l) 9 [.lf (.rows 82 (p_l.map bD.lf)),.raw (.slice none 0 0)] [] .b_ (fun _=>[]):=jA Tryz.func9
noncomputable def an8(p_x:lS):Mo (Bool):=
 .cH [] (aoM p_x.aa3) fun r0 _=>
 .iG 4003 (r0) (.rt [1,23] 1 (true))<|
 .nu p_x.bG ay.lf<|
 .rt [1,23] 1 (decide ((20:Int)<(p_x.bG.length:Int)))
noncomputable def an9(p_x:lS):Option (Bool):=Mo.den (an8 p_x)
noncomputable def anR(p_x:lS):(Int×aZ×(List (ByteArray×ah))×(List (ByteArray×au))×Int×(List ak)×aZ×(List (ByteArray×ah))×(List (ByteArray×au))×Int×(List ak))→Mo ((Int×aZ×(List (ByteArray×ah))×(List (ByteArray×au))×Int×(List ak)×aZ×(List (ByteArray×ah))×(List (ByteArray×au))×Int×(List ak))⊕(Unit⊕(aZ×(List (ByteArray×ah))×(List (ByteArray×au))×Int×(List ak)×aZ×(List (ByteArray×ah))×(List (ByteArray×au))×Int×(List ak)))):=fun(v0,m13548,m13549,m13550,v1,l0,m13553,m13554,m13555,v2,l1)=>
 .nu p_x.aa3 bD.lf<|
 .iB (decide ((v0:Int)<(p_x.aa3.length:Int))) (.ask (jf p_x.aa3 v0) fun x0 h0=>
 .say [] (ok1 (eu bD.aY h0))<|
 .ask (jf p_x.aa3 v0) fun x1 h1=>
 .say [] (ok1 (eu bD.aY h1))<|
 .ask (Q54 x0 v1 l0 m13548 m13549 m13550) fun r0 h2=>
 .say [] (ok1 (ND _ _ _ _ _ _ _ h2))<|
 .ask (Q54 x1 v2 l1 m13553 m13554 m13555) fun r1 h3=>
 .say [.eG (.q 0 (.q 1 (.q 2 (.q 3 (.q 4 (.q 5 (.q 7 (.q 8 (.q 9 (.q 10 (.q 11 (.q 12 (.l 6 (.l 13 (.q 14 .fin))))))))))))))) (some 13) [1,2,3,4] [.row (bD.lf1 x0),.row (bD.lf1 x1),.iO [4,1,2,3] (.i_ r0.1) [.box 113 (.agg [.i_ r0.2.1,.lf (.rows 25 (r0.2.2.1.map ak.lf)),.mp 1,.mp 2,.mp 3]),.res (bH r0.2.2.2.1 none) none,.res (bP r0.2.2.2.2.1) none,.res (bT r0.2.2.2.2.2) none],.iO [8,5,6,7] (.i_ r1.1) [.box 113 (.agg [.i_ r1.2.1,.lf (.rows 25 (r1.2.2.1.map ak.lf)),.mp 1,.mp 2,.mp 3]),.res (bH r1.2.2.2.1 none) none,.res (bP r1.2.2.2.2.1) none,.res (bT r1.2.2.2.2.2) none]] [1,3,4,5,54] 9 [(1,.ptr 0 0),(3,.ptr 4 0),(4,.ptr 8 0),(5,.i_ v0),(54,.lf (.bool (r0.1 != r1.1)))] [bg p_x,.res (bH r0.2.2.2.1 none) none,.res (bP r0.2.2.2.2.1) none,.res (bT r0.2.2.2.2.2) none,.box 113 (.agg [.i_ r0.2.1,.lf (.rows 25 (r0.2.2.1.map ak.lf)),.mp 1,.mp 2,.mp 3]),.res (bH r1.2.2.2.1 none) none,.res (bP r1.2.2.2.2.1) none,.res (bT r1.2.2.2.2.2) none,.box 113 (.agg [.i_ r1.2.1,.lf (.rows 25 (r1.2.2.1.map ak.lf)),.mp 5,.mp 6,.mp 7])]] (okc (ND _ _ _ _ _ _ _ h3) (ok1 (rf_ ⟨[(1,.ptr 0 0),(3,.ptr 4 0),(4,.ptr 8 0),(5,.i_ v0),(54,.lf (.bool (r0.1 != r1.1)))],[bg p_x,.res (bH r0.2.2.2.1 none) none,.res (bP r0.2.2.2.2.1) none,.res (bT r0.2.2.2.2.2) none,.box 113 (.agg [.i_ r0.2.1,.lf (.rows 25 (r0.2.2.1.map ak.lf)),.mp 1,.mp 2,.mp 3]),.res (bH r1.2.2.2.1 none) none,.res (bP r1.2.2.2.2.1) none,.res (bT r1.2.2.2.2.2) none,.box 113 (.agg [.i_ r1.2.1,.lf (.rows 25 (r1.2.2.1.map ak.lf)),.mp 5,.mp 6,.mp 7])]⟩)))<|
 .iB (r0.1 != r1.1) (.ret ⟨[.kill 0,.kill 1,.kill 2,.kill 3,.kill 4,.kill 5,.kill 6,.kill 7,.kill 8],[2],[],9⟩ (.inr (.inl ())))<|
 .rt [1,3,4,5] 9 (.inl (IntKind.wrap .i64 (v0+1),r0.2.2.2.1,r0.2.2.2.2.1,r0.2.2.2.2.2,r0.2.1,r0.2.2.1,r1.2.2.2.1,r1.2.2.2.2.1,r1.2.2.2.2.2,r1.2.1,r1.2.2.1)))<|
 .rt [1,3,4] 9 (.inr (.inr ((m13548,m13549,m13550,v1,l0,m13553,m13554,m13555,v2,l1))))
noncomputable def aov(p_x:lS)(v0:Int)(m13548:aZ)(m13549:List (ByteArray×ah))(m13550:List (ByteArray×au))(v1:Int)(l0:List ak)(m13553:aZ)(m13554:List (ByteArray×ah))(m13555:List (ByteArray×au))(v2:Int)(l1:List ak):Option (Unit⊕(aZ×(List (ByteArray×ah))×(List (ByteArray×au))×Int×(List ak)×aZ×(List (ByteArray×ah))×(List (ByteArray×au))×Int×(List ak))):=dA (fun v_=>(anR p_x v_).den) FU (v0,m13548,m13549,m13550,v1,l0,m13553,m13554,m13555,v2,l1)
noncomputable def anS(o0:(aZ×(List (ByteArray×ah))×(List (ByteArray×au))×Int×(List ak)×aZ×(List (ByteArray×ah))×(List (ByteArray×au))×Int×(List ak)))(p_x:lS)(r0:Int×Int×(List ak)×aZ×(List (ByteArray×ah))×List (ByteArray×au))(r1:aj×Int)(v0:Int):Mo (Bool):=
 .ask (jf p_x.bG v0) fun x0 h0=>
 .say [] (ok1 (eu ay.aY h0))<|
 .ask (jf p_x.bG v0) fun x1 h1=>
 .say [] (ok1 (eu ay.aY h1))<|
 .ask (Q13 x0.aT x1.dL r0.2.1 r0.2.2.1 r0.2.2.2.1 r0.2.2.2.2.1 r0.2.2.2.2.2) fun r2 h2=>
 .say [] (ok1 (UQ _ _ _ _ _ _ _ _ h2))<|
 .ite (!decide ((r2:ByteArray)=(⟨#[108,97,119]⟩:ByteArray))) (fun c0=>
 .say [.eG (.q 0 (.q 1 (.q 2 (.q 3 (.q 4 (.q 5 (.q 6 (.q 7 (.q 8 (.q 9 (.q 10 (.q 11 (.q 12 (.l 13 (.q 14 (.q 15 (.q 16 (.q 17 (.q 18 .fin))))))))))))))))))) (some 13) [] [.row (ay.lf1 x0),.row (ay.lf1 x1),.iO [4,1,2,3] (.lf (.str r2)) [.box 113 (.agg [.i_ r0.2.1,.lf (.rows 25 (r0.2.2.1.map ak.lf)),.mp 1,.mp 2,.mp 3]),.res (bH r0.2.2.2.1 none) none,.res (bP r0.2.2.2.2.1) none,.res (bT r0.2.2.2.2.2) none],.gd 36015 true] [1,3,4,6,109] 10 [(1,.ptr 0 0),(3,.ptr 4 0),(4,.ptr 8 0),(6,.i_ v0),(109,.b_ true)] [bg p_x,.res (bH r0.2.2.2.1 none) none,.res (bP r0.2.2.2.2.1) none,.res (bT r0.2.2.2.2.2) none,.box 113 (.agg [.i_ r0.2.1,.lf (.rows 25 (r0.2.2.1.map ak.lf)),.mp 1,.mp 2,.mp 3]),.res (bH o0.2.2.2.2.2.1 none) none,.res (bP o0.2.2.2.2.2.2.1) none,.res (bT o0.2.2.2.2.2.2.2.1) none,.box 113 (.agg [.i_ o0.2.2.2.2.2.2.2.2.1,.lf (.rows 25 (o0.2.2.2.2.2.2.2.2.2.map ak.lf)),.mp 5,.mp 6,.mp 7]),.dead]] (okc c0 (ok1 (rf_ ⟨[(1,.ptr 0 0),(3,.ptr 4 0),(4,.ptr 8 0),(6,.i_ v0),(109,.b_ true)],[bg p_x,.res (bH r0.2.2.2.1 none) none,.res (bP r0.2.2.2.2.1) none,.res (bT r0.2.2.2.2.2) none,.box 113 (.agg [.i_ r0.2.1,.lf (.rows 25 (r0.2.2.1.map ak.lf)),.mp 1,.mp 2,.mp 3]),.res (bH o0.2.2.2.2.2.1 none) none,.res (bP o0.2.2.2.2.2.2.1) none,.res (bT o0.2.2.2.2.2.2.2.1) none,.box 113 (.agg [.i_ o0.2.2.2.2.2.2.2.2.1,.lf (.rows 25 (o0.2.2.2.2.2.2.2.2.2.map ak.lf)),.mp 5,.mp 6,.mp 7]),.dead]⟩)))<|
 .rt [1,3,4,6,109] 10 (true)) fun c0=>
 .say [.eG (.q 0 (.q 1 (.q 2 (.q 3 (.q 4 (.q 5 (.q 6 (.q 7 (.q 8 (.q 9 (.q 10 (.q 11 (.q 12 (.l 13 (.q 14 (.q 15 (.q 16 (.q 17 (.q 18 .fin))))))))))))))))))) (some 13) [] [.row (ay.lf1 x0),.row (ay.lf1 x1),.iO [4,1,2,3] (.lf (.str r2)) [.box 113 (.agg [.i_ r0.2.1,.lf (.rows 25 (r0.2.2.1.map ak.lf)),.mp 1,.mp 2,.mp 3]),.res (bH r0.2.2.2.1 none) none,.res (bP r0.2.2.2.2.1) none,.res (bT r0.2.2.2.2.2) none],.gd 36015 false] [1,3,4,6,109] 10 [(1,.ptr 0 0),(3,.ptr 4 0),(4,.ptr 8 0),(6,.i_ v0),(109,.lf (.bool (r1.2 != 30)))] [bg p_x,.res (bH r0.2.2.2.1 none) none,.res (bP r0.2.2.2.2.1) none,.res (bT r0.2.2.2.2.2) none,.box 113 (.agg [.i_ r0.2.1,.lf (.rows 25 (r0.2.2.1.map ak.lf)),.mp 1,.mp 2,.mp 3]),.res (bH o0.2.2.2.2.2.1 none) none,.res (bP o0.2.2.2.2.2.2.1) none,.res (bT o0.2.2.2.2.2.2.2.1) none,.box 113 (.agg [.i_ o0.2.2.2.2.2.2.2.2.1,.lf (.rows 25 (o0.2.2.2.2.2.2.2.2.2.map ak.lf)),.mp 5,.mp 6,.mp 7]),.dead]] (okc c0 (ok1 (rf_ ⟨[(1,.ptr 0 0),(3,.ptr 4 0),(4,.ptr 8 0),(6,.i_ v0),(109,.lf (.bool (r1.2 != 30)))],[bg p_x,.res (bH r0.2.2.2.1 none) none,.res (bP r0.2.2.2.2.1) none,.res (bT r0.2.2.2.2.2) none,.box 113 (.agg [.i_ r0.2.1,.lf (.rows 25 (r0.2.2.1.map ak.lf)),.mp 1,.mp 2,.mp 3]),.res (bH o0.2.2.2.2.2.1 none) none,.res (bP o0.2.2.2.2.2.2.1) none,.res (bT o0.2.2.2.2.2.2.2.1) none,.box 113 (.agg [.i_ o0.2.2.2.2.2.2.2.2.1,.lf (.rows 25 (o0.2.2.2.2.2.2.2.2.2.map ak.lf)),.mp 5,.mp 6,.mp 7]),.dead]⟩)))<|
 .rt [1,3,4,6,109] 10 (r1.2 != 30)
noncomputable def anV(o0:(aZ×(List (ByteArray×ah))×(List (ByteArray×au))×Int×(List ak)×aZ×(List (ByteArray×ah))×(List (ByteArray×au))×Int×(List ak)))(p_x:lS)(r0:Int×Int×(List ak)×aZ×(List (ByteArray×ah))×List (ByteArray×au))(r1:aj×Int)(v0:Int):Option (Bool):=Mo.den (anS o0 p_x r0 r1 v0)
noncomputable def anL(o0:(aZ×(List (ByteArray×ah))×(List (ByteArray×au))×Int×(List ak)×aZ×(List (ByteArray×ah))×(List (ByteArray×au))×Int×(List ak)))(p_x:lS)(r0:Int×Int×(List ak)×aZ×(List (ByteArray×ah))×List (ByteArray×au))(v0:Int)(r_:Bool):St:=⟨[(1,.ptr 0 0),(3,.ptr 4 0),(4,.ptr 8 0),(6,.i_ v0),(109,.b_ r_)],[bg p_x,.res (bH r0.2.2.2.1 none) none,.res (bP r0.2.2.2.2.1) none,.res (bT r0.2.2.2.2.2) none,.box 113 (.agg [.i_ r0.2.1,.lf (.rows 25 (r0.2.2.1.map ak.lf)),.mp 1,.mp 2,.mp 3]),.res (bH o0.2.2.2.2.2.1 none) none,.res (bP o0.2.2.2.2.2.2.1) none,.res (bT o0.2.2.2.2.2.2.2.1) none,.box 113 (.agg [.i_ o0.2.2.2.2.2.2.2.2.1,.lf (.rows 25 (o0.2.2.2.2.2.2.2.2.2.map ak.lf)),.mp 5,.mp 6,.mp 7]),.dead]⟩
theorem aom{o0:(aZ×(List (ByteArray×ah))×(List (ByteArray×au))×Int×(List ak)×aZ×(List (ByteArray×ah))×(List (ByteArray×au))×Int×(List ak))}{p_x:lS}{r0:Int×Int×(List ak)×aZ×(List (ByteArray×ah))×List (ByteArray×au)}{r1:aj×Int}{v0:Int}{r_:Bool}(h:anV o0 p_x r0 r1 v0=some r_):Ud Tryz.f6 0 [1,1,1,1,1,1,0,1,0,0,1,0,0,1,0] (.normal) (anL o0 p_x r0 v0 r_) ⟨[(1,.ptr 0 0),(3,.ptr 4 0),(4,.ptr 8 0),(6,.i_ v0),(8,.i_ r1.2)],[bg p_x,.res (bH r0.2.2.2.1 none) none,.res (bP r0.2.2.2.2.1) none,.res (bT r0.2.2.2.2.2) none,.box 113 (.agg [.i_ r0.2.1,.lf (.rows 25 (r0.2.2.1.map ak.lf)),.mp 1,.mp 2,.mp 3]),.res (bH o0.2.2.2.2.2.1 none) none,.res (bP o0.2.2.2.2.2.2.1) none,.res (bT o0.2.2.2.2.2.2.2.1) none,.box 113 (.agg [.i_ o0.2.2.2.2.2.2.2.2.1,.lf (.rows 25 (o0.2.2.2.2.2.2.2.2.2.map ak.lf)),.mp 5,.mp 6,.mp 7]),.dead]⟩:=
 uP jD (anS o0 p_x r0 r1 v0) (fun _=>.normal) (anL o0 p_x r0 v0) (by kernel_rfl) h
noncomputable def anM(o0:(aZ×(List (ByteArray×ah))×(List (ByteArray×au))×Int×(List ak)×aZ×(List (ByteArray×ah))×(List (ByteArray×au))×Int×(List ak)))(p_x:lS)(r0:Int×Int×(List ak)×aZ×(List (ByteArray×ah))×List (ByteArray×au)):(Int)→Mo ((Int)⊕(Unit⊕Unit)):=fun(v0)=>
 .nu p_x.bG ay.lf<|
 .iB (decide ((v0:Int)<(p_x.bG.length:Int))) (.ask (jf p_x.bG v0) fun x0 h0=>
 .say [] (ok1 (eu ay.aY h0))<|
 .ask (jf p_x.bG v0) fun x1 h1=>
 .say [] (ok1 (eu ay.aY h1))<|
 .ask (Q80 x0.aT x1.dL p_x.aa4 r0.2.1 r0.2.2.1 r0.2.2.2.1 r0.2.2.2.2.1 r0.2.2.2.2.2) fun r1 h2=>
 .say [.eG (.q 0 (.q 1 (.q 2 (.q 3 (.q 4 (.q 5 (.q 6 (.q 7 (.q 8 (.q 9 (.q 10 (.q 11 (.q 12 (.q 13 (.q 14 (.alt 15 (.q 16 (.q 17 (.q 18 (.l 19 (.l 20 (.q 21 .fin)))))) (.l 19 (.l 15 (.q 16 (.q 17 (.q 18 (.l 20 (.q 21 .fin))))))))))))))))))))))) none [1,2,3,4,9] [.row (ay.lf1 x0),.row (ay.lf1 x1),.both [.at_ 34 15,.resv 1,.iO [4,1,2,3] (.tup [.dat (aj.lf1 r1.1),.i_ r1.2]) [.box 113 (.agg [.i_ r0.2.1,.lf (.rows 25 (r0.2.2.1.map ak.lf)),.mp 1,.mp 2,.mp 3]),.res (bH r0.2.2.2.1 none) none,.res (bP r0.2.2.2.2.1) none,.res (bT r0.2.2.2.2.2) none],.slot 9] [.at_ 34 19,.resv 1,.slot 9,.iO [4,1,2,3] (.tup [.dat (aj.lf1 r1.1),.i_ r1.2]) [.box 113 (.agg [.i_ r0.2.1,.lf (.rows 25 (r0.2.2.1.map ak.lf)),.mp 1,.mp 2,.mp 3]),.res (bH r0.2.2.2.1 none) none,.res (bP r0.2.2.2.2.1) none,.res (bT r0.2.2.2.2.2) none]]] [1,3,4,6,8] 10 [(1,.ptr 0 0),(3,.ptr 4 0),(4,.ptr 8 0),(6,.i_ v0),(8,.i_ r1.2)] [bg p_x,.res (bH r0.2.2.2.1 none) none,.res (bP r0.2.2.2.2.1) none,.res (bT r0.2.2.2.2.2) none,.box 113 (.agg [.i_ r0.2.1,.lf (.rows 25 (r0.2.2.1.map ak.lf)),.mp 1,.mp 2,.mp 3]),.res (bH o0.2.2.2.2.2.1 none) none,.res (bP o0.2.2.2.2.2.2.1) none,.res (bT o0.2.2.2.2.2.2.2.1) none,.box 113 (.agg [.i_ o0.2.2.2.2.2.2.2.2.1,.lf (.rows 25 (o0.2.2.2.2.2.2.2.2.2.map ak.lf)),.mp 5,.mp 6,.mp 7]),.box 40 (.agg [.i_ r1.1.aB,.i_ r1.1.dG,.lf (.str r1.1.fText),.lf (.rows 5 (r1.1.aX.map aj.lf)),.lf (.rows 6 (r1.1.bC.map aF.lf))])]] (okc (aem _ _ _ _ _ _ _ _ _ h2) (okc (rf_ ⟨[(1,.ptr 0 0),(3,.ptr 4 0),(4,.ptr 8 0),(6,.i_ v0),(8,.i_ r1.2)],[bg p_x,.res (bH r0.2.2.2.1 none) none,.res (bP r0.2.2.2.2.1) none,.res (bT r0.2.2.2.2.2) none,.box 113 (.agg [.i_ r0.2.1,.lf (.rows 25 (r0.2.2.1.map ak.lf)),.mp 1,.mp 2,.mp 3]),.res (bH o0.2.2.2.2.2.1 none) none,.res (bP o0.2.2.2.2.2.2.1) none,.res (bT o0.2.2.2.2.2.2.2.1) none,.box 113 (.agg [.i_ o0.2.2.2.2.2.2.2.2.1,.lf (.rows 25 (o0.2.2.2.2.2.2.2.2.2.map ak.lf)),.mp 5,.mp 6,.mp 7]),.box 40 (.agg [.i_ r1.1.aB,.i_ r1.1.dG,.lf (.str r1.1.fText),.lf (.rows 5 (r1.1.aX.map aj.lf)),.lf (.rows 6 (r1.1.bC.map aF.lf))])]⟩) (okc (aem _ _ _ _ _ _ _ _ _ h2) (ok1 (rf_ ⟨[(1,.ptr 0 0),(3,.ptr 4 0),(4,.ptr 8 0),(6,.i_ v0),(8,.i_ r1.2)],[bg p_x,.res (bH r0.2.2.2.1 none) none,.res (bP r0.2.2.2.2.1) none,.res (bT r0.2.2.2.2.2) none,.box 113 (.agg [.i_ r0.2.1,.lf (.rows 25 (r0.2.2.1.map ak.lf)),.mp 1,.mp 2,.mp 3]),.res (bH o0.2.2.2.2.2.1 none) none,.res (bP o0.2.2.2.2.2.2.1) none,.res (bT o0.2.2.2.2.2.2.2.1) none,.box 113 (.agg [.i_ o0.2.2.2.2.2.2.2.2.1,.lf (.rows 25 (o0.2.2.2.2.2.2.2.2.2.map ak.lf)),.mp 5,.mp 6,.mp 7]),.box 40 (.agg [.i_ r1.1.aB,.i_ r1.1.dG,.lf (.str r1.1.fText),.lf (.rows 5 (r1.1.aX.map aj.lf)),.lf (.rows 6 (r1.1.bC.map aF.lf))])]⟩)))))<|
 .ask (anV o0 p_x r0 r1 v0) fun r2 h3=>
 .say [.part [.kill 9] 41 [1,3,4,6,8] 10 (.normal) (anL o0 p_x r0 v0 r2).T (anL o0 p_x r0 v0 r2).H] (ok1 (aom h3))<|
 .iB (r2) (.ret ⟨[.kill 0,.kill 1,.kill 2,.kill 3,.kill 4,.kill 5,.kill 6,.kill 7,.kill 8],[2],[],9⟩ (.inr (.inl ())))<|
 .rt [1,3,4,6] 9 (.inl (IntKind.wrap .i64 (v0+1))))<|
 .rt [1,3,4] 9 (.inr (.inr (())))
noncomputable def aob(o0:(aZ×(List (ByteArray×ah))×(List (ByteArray×au))×Int×(List ak)×aZ×(List (ByteArray×ah))×(List (ByteArray×au))×Int×(List ak)))(p_x:lS)(r0:Int×Int×(List ak)×aZ×(List (ByteArray×ah))×List (ByteArray×au))(v0:Int):Option (Unit⊕Unit):=dA (fun v_=>(anM o0 p_x r0 v_).den) FU (v0)
noncomputable def anZ(o0:(aZ×(List (ByteArray×ah))×(List (ByteArray×au))×Int×(List ak)×aZ×(List (ByteArray×ah))×(List (ByteArray×au))×Int×(List ak)))(p_x:lS)(r0:Int×Int×(List ak)×aZ×(List (ByteArray×ah))×List (ByteArray×au)):Mo ((Bool×aZ×(List (ByteArray×ah))×(List (ByteArray×au))×Int×(List ak))):=
 .iG 44005 (decide ((p_x.bW:Int)<p_x.aa4)) (.rt [1,3,4,135] 9 (true,o0.2.2.2.2.2.1,o0.2.2.2.2.2.2.1,o0.2.2.2.2.2.2.2.1,o0.2.2.2.2.2.2.2.2.1,o0.2.2.2.2.2.2.2.2.2))<|
 .say [.at_ 44 13,.tod 132] ok0<|
 .cH [8,5,6,7] (ND (bD.mk 0 p_x.bW ⟨#[]⟩ 0 (ay.afH (ay.qP ay.z 8) p_x.bG)) o0.2.2.2.2.2.2.2.2.1 o0.2.2.2.2.2.2.2.2.2 o0.2.2.2.2.2.1 o0.2.2.2.2.2.2.1 o0.2.2.2.2.2.2.2.1) fun r1 _=>
 .rt [1,3,4,135] 9 (r1.1 != 0,r1.2.2.2.1,r1.2.2.2.2.1,r1.2.2.2.2.2,r1.2.1,r1.2.2.1)
noncomputable def an0(o0:(aZ×(List (ByteArray×ah))×(List (ByteArray×au))×Int×(List ak)×aZ×(List (ByteArray×ah))×(List (ByteArray×au))×Int×(List ak)))(p_x:lS)(r0:Int×Int×(List ak)×aZ×(List (ByteArray×ah))×List (ByteArray×au)):Option ((Bool×aZ×(List (ByteArray×ah))×(List (ByteArray×au))×Int×(List ak))):=Mo.den (anZ o0 p_x r0)
theorem aoS:aaY (opsOf (Code.sub (bodyC Tryz.f6) [1,1,1,1,1,1,1,1,1,0,1,0,0,1,0,0,1,1,1,0])) [(true,0),(true,1),(true,2),(true,3),(true,4),(true,5),(true,6),(true,7),(true,8),(false,9),(true,10),(true,11),(true,12),(true,13),(true,14),(true,15),(true,16),(true,17),(true,19),(true,20),(false,18),(true,21),(true,22),(true,23),(true,24),(true,25),(true,26),(true,27),(true,28),(false,29),(true,30),(true,31)] none=true:=by kernel_rfl
noncomputable def an1(p_x:lS)(r0:Int×Int×(List ak)×aZ×(List (ByteArray×ah))×List (ByteArray×au))(r1:(Bool×aZ×(List (ByteArray×ah))×(List (ByteArray×au))×Int×(List ak)))(r2:aj×Int)(r3:aj×Int)(v0:Int)(x0:ay):Mo (Bool):=
 .say [] (ok1 aoS)<|
 .ite (r2.2 != 0) (fun c0=>
 .say [.nZ [(true,0),(true,1),(true,2),(true,3),(true,4),(true,5),(true,6),(true,7),(true,8),(false,9),(true,10),(true,11),(true,12),(true,13),(true,14),(true,15),(true,16),(true,17),(true,19),(true,20),(false,18),(true,21),(true,22),(true,23),(true,24),(true,25),(true,26),(true,27),(true,28),(false,29),(true,30),(true,31)] none [],.gd 60002 true] (ok1 c0)<|
 .ret ⟨[.kill 9,.kill 10,.kill 11],[1,3,4,9,201],[],12⟩ (true)) fun c0=>
 .say [] (ok1 c0)<|
 .ite (r3.2 != 0) (fun c1=>
 .say [.nZ [(true,0),(true,1),(true,2),(true,3),(true,4),(true,5),(true,6),(true,7),(true,8),(false,9),(true,10),(true,11),(true,12),(true,13),(true,14),(true,15),(true,16),(true,17),(true,19),(true,20),(false,18),(true,21),(true,22),(true,23),(true,24),(true,25),(true,26),(true,27),(true,28),(false,29),(true,30),(true,31)] none [],.gd 60002 false,.gd 60006 true] (ok1 c1)<|
 .ret ⟨[.kill 9,.kill 10,.kill 11],[1,3,4,9,201],[],12⟩ (true)) fun c1=>
 .say [] (ok1 c1)<|
 .ask (Q2 r2.1 r3.1) fun r4 h0=>
 .say [] (ok1 (aer _ _ _ h0))<|
 .ite (!r4) (fun c2=>
 .say [.nZ [(true,0),(true,1),(true,2),(true,3),(true,4),(true,5),(true,6),(true,7),(true,8),(false,9),(true,10),(true,11),(true,12),(true,13),(true,14),(true,15),(true,16),(true,17),(true,19),(true,20),(false,18),(true,21),(true,22),(true,23),(true,24),(true,25),(true,26),(true,27),(true,28),(false,29),(true,30),(true,31)] none [],.gd 60002 false,.gd 60006 false,.res (.b_ r4),.gd 60012 true] (ok1 c2)<|
 .ret ⟨[.kill 9,.kill 10,.kill 11],[1,3,4,9,201],[],12⟩ (true)) fun c2=>
 .say [.nZ [(true,0),(true,1),(true,2),(true,3),(true,4),(true,5),(true,6),(true,7),(true,8),(false,9),(true,10),(true,11),(true,12),(true,13),(true,14),(true,15),(true,16),(true,17),(true,19),(true,20),(false,18),(true,21),(true,22),(true,23),(true,24),(true,25),(true,26),(true,27),(true,28),(false,29),(true,30),(true,31)] none [1,2,3,4],.gd 60002 false,.gd 60006 false,.res (.b_ r4),.gd 60012 false,.at_ 60 18,.tod 187] (ok1 c2)<|
 .cH [4,1,2,3] (UR x0.aT x0.dL r0.2.1 r0.2.2.1 r0.2.2.2.1 r0.2.2.2.2.1 r0.2.2.2.2.2) fun r5 _=>
 .iG 60023 (r5 != p_x.bW) (.ret ⟨[.kill 9,.kill 10,.kill 11],[1,3,4,9,201],[],12⟩ (true))<|
 .say [.at_ 60 29,.tod 198] ok0<|
 .cH [4,1,2,3] (UQ x0.aT x0.dL r0.2.1 r0.2.2.1 r0.2.2.2.1 r0.2.2.2.2.1 r0.2.2.2.2.2) fun r6 _=>
 .ret ⟨[.kill 9,.kill 10,.kill 11],[1,3,4,9,201],[],12⟩ (!decide ((r6:ByteArray)=(⟨#[]⟩:ByteArray)))
noncomputable def an2(p_x:lS)(r0:Int×Int×(List ak)×aZ×(List (ByteArray×ah))×List (ByteArray×au))(r1:(Bool×aZ×(List (ByteArray×ah))×(List (ByteArray×au))×Int×(List ak)))(r2:aj×Int)(r3:aj×Int)(v0:Int)(x0:ay):Option (Bool):=Mo.den (an1 p_x r0 r1 r2 r3 v0 x0)
noncomputable def anN(p_x:lS)(r0:Int×Int×(List ak)×aZ×(List (ByteArray×ah))×List (ByteArray×au))(r1:(Bool×aZ×(List (ByteArray×ah))×(List (ByteArray×au))×Int×(List ak))):(Int)→Mo ((Int)⊕(Unit⊕Unit)):=fun(v0)=>
 .nu p_x.bG ay.lf<|
 .iB (decide ((v0:Int)<(p_x.bG.length:Int))) (.gx ay.aY p_x.bG v0 fun x0 _=>
 .say [.at_ 56 7,.tod 153] ok0<|
 .ask (Q80 x0.aT x0.dL p_x.bW r0.2.1 r0.2.2.1 r0.2.2.2.1 r0.2.2.2.2.1 r0.2.2.2.2.2) fun r2 h0=>
 .say [.iO [4,1,2,3] (.tup [.dat (aj.lf1 r2.1),.i_ r2.2]) [.box 113 (.agg [.i_ r0.2.1,.lf (.rows 25 (r0.2.2.1.map ak.lf)),.mp 1,.mp 2,.mp 3]),.res (bH r0.2.2.2.1 none) none,.res (bP r0.2.2.2.2.1) none,.res (bT r0.2.2.2.2.2) none],.at_ 58 7,.tod 164] (ok1 (aem _ _ _ _ _ _ _ _ _ h0))<|
 .cH [8,5,6,7] (aem x0.aT x0.dL p_x.bW r1.2.2.2.2.1 r1.2.2.2.2.2 r1.2.1 r1.2.2.1 r1.2.2.2.1) fun r3 _=>
 .jp Tryz.f6 0 [1,1,1,1,1,1,1,1,1,0,1,0,0,1,0,0,1,1,1,0] 65 [1,3,4,9,10,11,12,13,14] 12 (.normal) (fun r_=>⟨[(1,.ptr 0 0),(3,.ptr 4 0),(4,.ptr 8 0),(9,.i_ v0),(201,.b_ r_)],[bg p_x,.res (bH r0.2.2.2.1 none) none,.res (bP r0.2.2.2.2.1) none,.res (bT r0.2.2.2.2.2) none,.box 113 (.agg [.i_ r0.2.1,.lf (.rows 25 (r0.2.2.1.map ak.lf)),.mp 1,.mp 2,.mp 3]),.res (bH r1.2.1 none) none,.res (bP r1.2.2.1) none,.res (bT r1.2.2.2.1) none,.box 113 (.agg [.i_ r1.2.2.2.2.1,.lf (.rows 25 (r1.2.2.2.2.2.map ak.lf)),.mp 5,.mp 6,.mp 7]),.dead,.dead,.dead]⟩) ⟨[(1,.ptr 0 0),(3,.ptr 4 0),(4,.ptr 8 0),(9,.i_ v0),(10,.ptr 9 0),(11,.ptr 10 0),(12,.i_ r2.2),(13,.ptr 11 0),(14,.i_ r3.2)],[bg p_x,.res (bH r0.2.2.2.1 none) none,.res (bP r0.2.2.2.2.1) none,.res (bT r0.2.2.2.2.2) none,.box 113 (.agg [.i_ r0.2.1,.lf (.rows 25 (r0.2.2.1.map ak.lf)),.mp 1,.mp 2,.mp 3]),.res (bH r1.2.1 none) none,.res (bP r1.2.2.1) none,.res (bT r1.2.2.2.1) none,.box 113 (.agg [.i_ r1.2.2.2.2.1,.lf (.rows 25 (r1.2.2.2.2.2.map ak.lf)),.mp 5,.mp 6,.mp 7]),.box 64 (.agg ((ay.lf1 x0).map AV.lf)),.box 40 (.agg [.i_ r2.1.aB,.i_ r2.1.dG,.lf (.str r2.1.fText),.lf (.rows 5 (r2.1.aX.map aj.lf)),.lf (.rows 6 (r2.1.bC.map aF.lf))]),.box 40 (.agg [.i_ r3.1.aB,.i_ r3.1.dG,.lf (.str r3.1.fText),.lf (.rows 5 (r3.1.aX.map aj.lf)),.lf (.rows 6 (r3.1.bC.map aF.lf))])]⟩ (an2 p_x r0 r1 r2 r3 v0 x0) (jW (by kernel_rfl)) fun r4 _=>
 .iB (r4) (.ret ⟨[.kill 0,.kill 1,.kill 2,.kill 3,.kill 4,.kill 5,.kill 6,.kill 7,.kill 8],[2],[],9⟩ (.inr (.inl ())))<|
 .rt [1,3,4,9] 9 (.inl (IntKind.wrap .i64 (v0+1))))<|
 .ret ⟨[.kill 0,.kill 1,.kill 2,.kill 3,.kill 4,.kill 5,.kill 6,.kill 7,.kill 8],[],[],9⟩ (.inr (.inr (())))
noncomputable def aoc(p_x:lS)(r0:Int×Int×(List ak)×aZ×(List (ByteArray×ah))×List (ByteArray×au))(r1:(Bool×aZ×(List (ByteArray×ah))×(List (ByteArray×au))×Int×(List ak)))(v0:Int):Option (Unit⊕Unit):=dA (fun v_=>(anN p_x r0 r1 v_).den) FU (v0)
noncomputable def aon(p_x:lS):Mo (Bool):=
 .jp Tryz.f6 0 [1,0,0] 9 [1] 1 (.normal) (fun r_=>⟨[(1,.ptr 0 0),(23,.b_ r_)],[bg p_x]⟩) ⟨[(1,.ptr 0 0)],[bg p_x]⟩ (an9 p_x) (jW (by kernel_rfl)) fun r0 _=>
 .iB (r0) (.cl (XE) fun r1 _=>
 .ret (bF 1) (r1))<|
 .say [.iO [] (.ptr 3 0) [.res (bH (⟨[],[]⟩:aZ) none) none,.res (bP ([]:List (ByteArray×ah))) none,.res (bT ([]:List (ByteArray×au))) none,.box 113 (.agg [.i_ 0,.lf (.rows 25 (([]:List ak).map ak.lf)),.mp 0,.mp 1,.mp 2])],.iO [] (.ptr 3 0) [.res (bH (⟨[],[]⟩:aZ) none) none,.res (bP ([]:List (ByteArray×ah))) none,.res (bT ([]:List (ByteArray×au))) none,.box 113 (.agg [.i_ 0,.lf (.rows 25 (([]:List ak).map ak.lf)),.mp 0,.mp 1,.mp 2])],.br false] ok0<|
 .ask (ahf) fun r2 h0=>
 .say [] (ok1 (Xx  _ h0))<|
 .ask (ahf) fun r3 h1=>
 .say [] (okc (Xx  _ h1) (ok1 (rfl:false=false)))<|
 .l2m [] Tryz.f6 0 [1,1,1,1,0,1,0] 0 (fun(v0,m13548,m13549,m13550,v1,l0,m13553,m13554,m13555,v2,l1)=>⟨[(1,.ptr 0 0),(3,.ptr 4 0),(4,.ptr 8 0),(5,.i_ v0)],[bg p_x,.res (bH m13548 none) none,.res (bP m13549) none,.res (bT m13550) none,.box 113 (.agg [.i_ v1,.lf (.rows 25 (l0.map ak.lf)),.mp 1,.mp 2,.mp 3]),.res (bH m13553 none) none,.res (bP m13554) none,.res (bT m13555) none,.box 113 (.agg [.i_ v2,.lf (.rows 25 (l1.map ak.lf)),.mp 5,.mp 6,.mp 7])]⟩) .ret (fun _=>⟨[(2,.b_ false)],[.dead,.dead,.dead,.dead,.dead,.dead,.dead,.dead,.dead]⟩) (.exit 0) (fun o_=>⟨[(1,.ptr 0 0),(3,.ptr 4 0),(4,.ptr 8 0)],[bg p_x,.res (bH o_.1 none) none,.res (bP o_.2.1) none,.res (bT o_.2.2.1) none,.box 113 (.agg [.i_ o_.2.2.2.1,.lf (.rows 25 (o_.2.2.2.2.1.map ak.lf)),.mp 1,.mp 2,.mp 3]),.res (bH o_.2.2.2.2.2.1 none) none,.res (bP o_.2.2.2.2.2.2.1) none,.res (bT o_.2.2.2.2.2.2.2.1) none,.box 113 (.agg [.i_ o_.2.2.2.2.2.2.2.2.1,.lf (.rows 25 (o_.2.2.2.2.2.2.2.2.2.map ak.lf)),.mp 5,.mp 6,.mp 7])]⟩) (aov p_x 0 (⟨[],[]⟩:aZ) ([]:List (ByteArray×ah)) ([]:List (ByteArray×au)) 0 ([]:List ak) (⟨[],[]⟩:aZ) ([]:List (ByteArray×ah)) ([]:List (ByteArray×au)) 0 ([]:List ak)) (anR p_x) (0,(⟨[],[]⟩:aZ),([]:List (ByteArray×ah)),([]:List (ByteArray×au)),0,([]:List ak),(⟨[],[]⟩:aZ),([]:List (ByteArray×ah)),([]:List (ByteArray×au)),0,([]:List ak)) (fun o0=>
 .ret (bF 1) (false)) fun o1=>
 .say [.at_ 24 7,.tod 61] ok0<|
 .cH [4,1,2,3] (ND (bD.mk 0 p_x.aa4 ⟨#[]⟩ 0 (ay.afH (ay.amV (ay.qP ay.z 9) ⟨#[108,97,119]⟩) p_x.bG)) o1.2.2.2.1 o1.2.2.2.2.1 o1.1 o1.2.1 o1.2.2.1) fun r4 _=>
 .iB (r4.1 != 0) (.cl (XE) fun r5 _=>
 .ret (bF 1) (r5))<|
 .l2m [] Tryz.f6 0 [1,1,1,1,1,1,0,1,0] 0 (fun(v3)=>⟨[(1,.ptr 0 0),(3,.ptr 4 0),(4,.ptr 8 0),(6,.i_ v3)],[bg p_x,.res (bH r4.2.2.2.1 none) none,.res (bP r4.2.2.2.2.1) none,.res (bT r4.2.2.2.2.2) none,.box 113 (.agg [.i_ r4.2.1,.lf (.rows 25 (r4.2.2.1.map ak.lf)),.mp 1,.mp 2,.mp 3]),.res (bH o1.2.2.2.2.2.1 none) none,.res (bP o1.2.2.2.2.2.2.1) none,.res (bT o1.2.2.2.2.2.2.2.1) none,.box 113 (.agg [.i_ o1.2.2.2.2.2.2.2.2.1,.lf (.rows 25 (o1.2.2.2.2.2.2.2.2.2.map ak.lf)),.mp 5,.mp 6,.mp 7])]⟩) .ret (fun _=>⟨[(2,.b_ false)],[.dead,.dead,.dead,.dead,.dead,.dead,.dead,.dead,.dead]⟩) (.exit 2) (fun _=>⟨[(1,.ptr 0 0),(3,.ptr 4 0),(4,.ptr 8 0)],[bg p_x,.res (bH r4.2.2.2.1 none) none,.res (bP r4.2.2.2.2.1) none,.res (bT r4.2.2.2.2.2) none,.box 113 (.agg [.i_ r4.2.1,.lf (.rows 25 (r4.2.2.1.map ak.lf)),.mp 1,.mp 2,.mp 3]),.res (bH o1.2.2.2.2.2.1 none) none,.res (bP o1.2.2.2.2.2.2.1) none,.res (bT o1.2.2.2.2.2.2.2.1) none,.box 113 (.agg [.i_ o1.2.2.2.2.2.2.2.2.1,.lf (.rows 25 (o1.2.2.2.2.2.2.2.2.2.map ak.lf)),.mp 5,.mp 6,.mp 7])]⟩) (aob o1 p_x r4 0) (anM o1 p_x r4) (0) (fun o2=>
 .ret (bF 1) (false)) fun o3=>
 .say [.at_ 40 7,.tod 116] ok0<|
 .cH [4,1,2,3] (ND (bD.mk 0 p_x.afB ⟨#[]⟩ 0 (ay.ai4 (ay.amV (ay.qP ay.z 10) ⟨#[108,97,119]⟩) p_x.bW)) r4.2.1 r4.2.2.1 r4.2.2.2.1 r4.2.2.2.2.1 r4.2.2.2.2.2) fun r6 _=>
 .iB (r6.1 != 0) (.cl (XE) fun r7 _=>
 .ret (bF 1) (r7))<|
 .jp Tryz.f6 0 [1,1,1,1,1,1,1,1,0,0] 49 [1,3,4] 9 (.normal) (fun r_=>⟨[(1,.ptr 0 0),(3,.ptr 4 0),(4,.ptr 8 0),(135,.b_ r_.1)],[bg p_x,.res (bH r6.2.2.2.1 none) none,.res (bP r6.2.2.2.2.1) none,.res (bT r6.2.2.2.2.2) none,.box 113 (.agg [.i_ r6.2.1,.lf (.rows 25 (r6.2.2.1.map ak.lf)),.mp 1,.mp 2,.mp 3]),.res (bH r_.2.1 none) none,.res (bP r_.2.2.1) none,.res (bT r_.2.2.2.1) none,.box 113 (.agg [.i_ r_.2.2.2.2.1,.lf (.rows 25 (r_.2.2.2.2.2.map ak.lf)),.mp 5,.mp 6,.mp 7])]⟩) ⟨[(1,.ptr 0 0),(3,.ptr 4 0),(4,.ptr 8 0)],[bg p_x,.res (bH r6.2.2.2.1 none) none,.res (bP r6.2.2.2.2.1) none,.res (bT r6.2.2.2.2.2) none,.box 113 (.agg [.i_ r6.2.1,.lf (.rows 25 (r6.2.2.1.map ak.lf)),.mp 1,.mp 2,.mp 3]),.res (bH o1.2.2.2.2.2.1 none) none,.res (bP o1.2.2.2.2.2.2.1) none,.res (bT o1.2.2.2.2.2.2.2.1) none,.box 113 (.agg [.i_ o1.2.2.2.2.2.2.2.2.1,.lf (.rows 25 (o1.2.2.2.2.2.2.2.2.2.map ak.lf)),.mp 5,.mp 6,.mp 7])]⟩ (an0 o1 p_x r6) (jW (by kernel_rfl)) fun r8 _=>
 .iB (r8.1) (.ret (bF 1) (false))<|
 .l2m [] Tryz.f6 0 [1,1,1,1,1,1,1,1,1,0,1,0] 0 (fun(v4)=>⟨[(1,.ptr 0 0),(3,.ptr 4 0),(4,.ptr 8 0),(9,.i_ v4)],[bg p_x,.res (bH r6.2.2.2.1 none) none,.res (bP r6.2.2.2.2.1) none,.res (bT r6.2.2.2.2.2) none,.box 113 (.agg [.i_ r6.2.1,.lf (.rows 25 (r6.2.2.1.map ak.lf)),.mp 1,.mp 2,.mp 3]),.res (bH r8.2.1 none) none,.res (bP r8.2.2.1) none,.res (bT r8.2.2.2.1) none,.box 113 (.agg [.i_ r8.2.2.2.2.1,.lf (.rows 25 (r8.2.2.2.2.2.map ak.lf)),.mp 5,.mp 6,.mp 7])]⟩) .ret (fun _=>⟨[(2,.b_ false)],[.dead,.dead,.dead,.dead,.dead,.dead,.dead,.dead,.dead]⟩) (.exit 4) (fun _=>⟨[],[.dead,.dead,.dead,.dead,.dead,.dead,.dead,.dead,.dead]⟩) (aoc p_x r6 r8 0) (anN p_x r6 r8) (0) (fun o4=>
 .ret (bF 1) (false)) fun o5=>
 .cl (XE) fun r9 _=>
 .ret (bF 1) (r9)
noncomputable def aoP(p_x:lS):Option (Bool):=Mo.den (aon p_x)
theorem aoN(p_x:lS):FV (aoP p_x) 6 [.dat (lS.lf1 p_x)] .b_:=dI Tryz.func6
end
end Go.Proofs.YtpdlghcgekojlaaGreatDoor
namespace Go.Proofs.YtpdlghcgekojlaaGreatDoor
open Go.RowKit
theorem nJ(s:ByteArray)(k:Nat)(h:k<s.size):kG s (k:Int)=some s[k]:=by
 unfold kG;rw[if_pos (by omega),Int.toNat_natCast];exact getElem?_pos s k h
theorem iw{α:Type}(f:α→List Lf){x:α}:∀{l:List α},x∈l→aU (f x)≤bQ (l.map f)
 |y::r,h=>by
  simp only[List.map_cons,bQ]
  rcases List.mem_cons.1 h with rfl|h
  ·omega
  have:=iw f h;omega
theorem fD{α:Type}(f:α→List Lf)(hf:∀x,1≤aU (f x)):∀l:List α,l.length≤bQ (l.map f)
 |[]=>by simp
 |x::r=>by have:=fD f hf r;have:=hf x;simp only[List.map_cons,List.length_cons,bQ];omega
theorem bZ(v:aj):aU v.lf1=5+v.fText.size+bQ (v.aX.map aj.lf)+bQ (v.bC.map aF.lf):=by simp only[aj.lf1,aU,Lf.bulk];omega
theorem dR(v:aF):aU v.lf1=1+v.fName.size+aU v.fValue.lf1:=by simp only[aF.lf1,fF,aU,Lf.bulk];omega
theorem pO(v:bU):aU v.lf1=2+bQ (v.dQ.map lfS):=by simp only[bU.lf1,aU,Lf.bulk];omega
theorem yG(v:dB):aU v.lf1=2:=by rfl
theorem pR(v:dS):aU v.lf1=3+bQ (v.fA.map dB.lf):=by simp only[dS.lf1,aU,Lf.bulk];omega
theorem kU(v:bf):aU v.lf1=6+bQ (v.dQ.map lfS)+v.fName.size+bQ (v.iV.map lfS)+aU v.fArg.lf1+bQ (v.dF.map bf.lf):=by simp only[bf.lf1,fF,aU,Lf.bulk];omega
theorem iW(v:aS):aU v.lf1=6+bQ (v.dQ.map lfS)+aU v.fArg.lf1+bQ (v.fArgs.map aj.lf)+aU v.dK.lf1+aU v.fExpr.lf1+bQ (v.dF.map aS.lf):=by simp only[aS.lf1,fF,aU,Lf.bulk];omega
theorem iR(v:aW):aU v.lf1=6+v.fName.size+bQ (v.iD.map bU.lf)+aU v.jE.lf1:=by simp only[aW.lf1,fF,aU,Lf.bulk];omega
theorem wQ(v:cu):aU v.lf1=1+v.fName.size+aU v.fV.lf1:=by simp only[cu.lf1,fF,aU,Lf.bulk];omega
theorem iM(v:aA):aU v.lf1=11+aU v.lI.lf1+aU v.lJ.lf1+bQ (v.jU.map aj.lf)+bQ (v.dJ.map lfS)+bQ (v.dW.map cu.lf)+bQ (v.fB.map aA.lf):=by simp only[aA.lf1,fF,aU,Lf.bulk];omega
theorem iC(v:ak):aU v.lf1=4+v.fName.size+bQ (v.bn.map aW.lf)+aU v.fV.lf1:=by simp only[ak.lf1,fF,aU,Lf.bulk];omega
theorem dM(v:ay):aU v.lf1=7+v.aT.size+aU v.dL.lf1+aU v.bC.lf1+aU v.ig.lf1+aU v.gy.lf1+aU v.eP.lf1+v.dP.size+bQ (v.bG.map ay.lf)+bQ (v.iq.map lfI):=by simp only[ay.lf1,fF,aU,Lf.bulk];omega
theorem lN(v:bD):aU v.lf1=4+v.eU.size+aU v.dZ.lf1:=by simp only[bD.lf1,fF,aU,Lf.bulk];omega
theorem aey(s:ByteArray):aU (lfS s)=s.size+1:=by rfl
theorem akL(n:Int):aU (lfI n)=1:=by rfl
theorem gI(l:List aj):l.length≤bQ (l.map aj.lf):=fD _ (fun x=>by rw[aj.aY,bZ];omega) l
theorem eY(l:List aF):l.length≤bQ (l.map aF.lf):=fD _ (fun x=>by rw[aF.aY,dR];omega) l
theorem pU(l:List bU):l.length≤bQ (l.map bU.lf):=fD _ (fun x=>by rw[bU.aY,pO];omega) l
theorem Gi(l:List dB):l.length≤bQ (l.map dB.lf):=fD _ (fun x=>by have:=yG x;rw[dB.aY];omega) l
theorem BP(l:List bf):l.length≤bQ (l.map bf.lf):=fD _ (fun x=>by rw[bf.aY,kU];omega) l
theorem wR(l:List aS):l.length≤bQ (l.map aS.lf):=fD _ (fun x=>by rw[aS.aY,iW];omega) l
theorem lX(l:List aW):l.length≤bQ (l.map aW.lf):=fD _ (fun x=>by rw[aW.aY,iR];omega) l
theorem BQ(l:List cu):l.length≤bQ (l.map cu.lf):=fD _ (fun x=>by rw[cu.aY,wQ];omega) l
theorem vG(l:List aA):l.length≤bQ (l.map aA.lf):=fD _ (fun x=>by rw[aA.aY,iM];omega) l
theorem jI(l:List ay):l.length≤bQ (l.map ay.lf):=fD _ (fun x=>by rw[ay.aY,dM];omega) l
theorem Sj(l:List bD):l.length≤bQ (l.map bD.lf):=fD _ (fun x=>by rw[bD.aY,lN];omega) l
theorem iZ(l:List ByteArray):l.length≤bQ (l.map lfS):=fD _ (fun x=>by rw[aey];omega) l
theorem Sl(l:List Int):l.length≤bQ (l.map lfI):=fD _ (fun x=>by rw[akL];omega) l
theorem iK{x:aj}{l:List aj}(h:x∈l):aU x.lf1≤bQ (l.map aj.lf):=by rw[←aj.aY];exact iw _ h
theorem eH{x:aF}{l:List aF}(h:x∈l):aU x.lf1≤bQ (l.map aF.lf):=by rw[←aF.aY];exact iw _ h
theorem wS{x:bU}{l:List bU}(h:x∈l):aU x.lf1≤bQ (l.map bU.lf):=iw _ h
theorem Sm{x:bf}{l:List bf}(h:x∈l):aU x.lf1≤bQ (l.map bf.lf):=by rw[←bf.aY];exact iw _ h
theorem Gj{x:aS}{l:List aS}(h:x∈l):aU x.lf1≤bQ (l.map aS.lf):=by rw[←aS.aY];exact iw _ h
theorem BR{x:aW}{l:List aW}(h:x∈l):aU x.lf1≤bQ (l.map aW.lf):=iw _ h
theorem Gl{x:cu}{l:List cu}(h:x∈l):aU x.lf1≤bQ (l.map cu.lf):=by rw[←cu.aY];exact iw _ h
theorem Gm{x:aA}{l:List aA}(h:x∈l):aU x.lf1≤bQ (l.map aA.lf):=by rw[←aA.aY];exact iw _ h
theorem kV{x:ay}{l:List ay}(h:x∈l):aU x.lf1≤bQ (l.map ay.lf):=by rw[←ay.aY];exact iw _ h
theorem Kq{x:bD}{l:List bD}(h:x∈l):aU x.lf1≤bQ (l.map bD.lf):=iw _ h
theorem D7{x:ByteArray}{l:List ByteArray}(h:x∈l):x.size+1≤bQ (l.map lfS):=by rw[←aey];exact iw _ h
end Go.Proofs.YtpdlghcgekojlaaGreatDoor
namespace Go.Proofs.YtpdlghcgekojlaaGreatDoor
open Go.RowKit
theorem gq:1152921504606846975<FU:=by unfold FU;omega
def Tot{ρ:Type}(m:Option ρ)(Q:ρ→Prop):Prop:=∃r,m=some r∧Q r
def LP{σ ρ:Type}(P:σ→Prop)(Q:ρ→Prop):σ⊕ρ→Prop
 |.inl s=>P s
 |.inr r=>Q r
def Any{ρ:Type}:ρ→Prop:=fun _=>True
namespace T
variable {ρ α σ:Type}
theorem ret{Q:ρ→Prop}{r:ρ}(h:Q r):Tot (some r) Q:=⟨r,rfl,h⟩
theorem any{r:ρ}:Tot (some r) Any:=⟨r,rfl,trivial⟩
theorem bind{m:Option α}{R:α→Prop}{k:α→Option ρ}{Q:ρ→Prop}(h:Tot m R)(h2:∀a,R a→Tot (k a) Q):Tot (m.bind k) Q:=by
 obtain⟨a,rfl,ha⟩:=h
 grind
theorem ite{b:Bool}{x y:Option ρ}{Q:ρ→Prop}(h1:b=true→Tot x Q)(h2:b=false→Tot y Q):Tot (bif b then x else y) Q:=by
 grind
theorem grd{p:Prop}[Decidable p]{x:Option ρ}{Q:ρ→Prop}(h:p)(h2:Tot x Q):Tot (if p then x else none) Q:=by
 grind
theorem mono{m:Option ρ}{Q R:ρ→Prop}(h:Tot m Q)(h2:∀r,Q r→R r):Tot m R:=by
 obtain⟨r,h1,h3⟩:=h;exact⟨r,h1,h2 r h3⟩
theorem wk{m:Option ρ}{Q:ρ→Prop}(h:Tot m Q):Tot m Any:=mono h fun _ _=>trivial
theorem val{m:Option ρ}{r:ρ}(h:m=some r):Tot m (fun x=>x=r):=⟨r,h,rfl⟩
theorem eq{m m':Option ρ}{Q:ρ→Prop}(e:m=m')(h:Tot m' Q):Tot m Q:=e▸h
theorem lY{T:σ→Option (σ⊕ρ)}{s0:σ}(n:Nat)(hn:n≤1000000000)(P:Nat→σ→Prop)(Q:ρ→Prop)(h0:P 0 s0)(step:∀k s,k<n→P k s→Tot (T s) (LP (P (k+1)) Q))(fin:∀s,P n s→Tot (T s) (LP (fun _=>False) Q)):Tot (dA T FU s0) Q:=by
 refine OY n hn P Q h0 ?_ ?_
 ·intro k s hk hP
  obtain⟨r,h1,h2⟩:=step k s hk hP
  rcases r with v|r
  ·exact .inl ⟨v,h1,h2⟩
  exact .inr ⟨r,h1,h2⟩
 intro s hP
 obtain⟨r,h1,h2⟩:=fin s hP
 rcases r with v|r
 ·exact h2.elim
 exact⟨r,h1,h2⟩
theorem akM{T:Int→Option (Int⊕ρ)}(n:Nat)(hn:n≤1000000000)(Q:ρ→Prop)(step:∀k:Nat,k<n→Tot (T (k:Int)) (LP (fun v=>v=IntKind.wrap .i64 ((k:Int)+1)) Q))(fin:Tot (T (n:Int)) (LP (fun _=>False) Q)):Tot (dA T FU 0) Q:=
 lY n hn (fun k v=>v=(k:Int)) Q rfl (fun k s hk hs=>by
  obtain rfl:s=(k:Int):=hs
  refine mono (step k hk) ?_
  rintro(v|r) h
  ·exact(show v=_ from h).trans (inc k (by omega))
  ·exact h) (fun s hs=>by
  obtain rfl:s=(n:Int):=hs
  exact fin)
theorem akN{T:Int→Option (Int⊕ρ)}(l:List α)(hn:l.length≤1000000000)(Q:ρ→Prop)(step:∀(k:Nat) x,l[k]?=some x→Tot (T (k:Int)) (LP (fun v=>v=IntKind.wrap .i64 ((k:Int)+1)) Q))(fin:Tot (T (l.length:Int)) (LP (fun _=>False) Q)):Tot (dA T FU 0) Q:=
 akM l.length hn Q (fun k hk=>step k _ (List.getElem?_eq_getElem hk)) fin
end T
theorem ltt{α:Type}{l:List α}{k:Nat}{x:α}(h:l[k]?=some x):decide ((k:Int)<(l.length:Int))=true:=by grind
theorem ltn(n:Nat):decide ((n:Int)<(n:Int))=false:=by simp
theorem gid{α:Type}{l:List α}{k:Nat}{x:α}(h:l[k]?=some x):jf l (k:Int)=some x:=by rw[abe,h]
theorem gK{α:Type}{l:List α}{k:Nat}{x:α}(h:l[k]?=some x):x∈l:=by grind
theorem nC{α:Type}{l:List α}{k:Nat}{x:α}(h:l[k]?=some x):k<l.length:=by grind
theorem iy(l m:List (List Lf)):bQ (l++m)=bQ l+bQ m:=by
 induction l with
 |nil=>simp[bQ]
 |cons x l ih=>simp only[List.cons_append,bQ,ih];omega
theorem lF{α:Type}(f:α→List Lf)(l:List α)(k:Nat):bQ ((l.take k).map f)≤bQ (l.map f):=by
 have:=iy ((l.take k).map f) ((l.drop k).map f)
 simp_all
def MT{ρ:Type}(t:Mo ρ)(Q:ρ→Prop):Prop:=Tot t.den Q
namespace MT
variable {ρ α β γ:Type}
theorem ret{f:Fit}{r:ρ}{Q:ρ→Prop}(h:Q r):MT (.ret f r) Q:=⟨r,rfl,h⟩
theorem any{f:Fit}{r:ρ}:MT (.ret f r) Any:=⟨r,rfl,trivial⟩
theorem say{qs:List Ans}{Φ:List Prop}{ok:dN Φ}{k:Mo ρ}{Q:ρ→Prop}(h:MT k Q):MT (.say qs ok k) Q:=h
theorem ite{b:Bool}{t:b=true→Mo ρ}{e:b=false→Mo ρ}{Q:ρ→Prop}(h1:∀h,MT (t h) Q)(h2:∀h,MT (e h) Q):MT (.ite b t e) Q:=by
 cases b
 ·exact h2 rfl
 exact h1 rfl
theorem grd{p:Prop}[d:Decidable p]{k:p→Mo ρ}{Q:ρ→Prop}(h:p)(h2:∀h,MT (k h) Q):MT (.grd p k) Q:=by
 unfold MT Tot
 show ∃r,Iq p _=some r∧Q r
 unfold Iq
 cases d with
 |isTrue hh=>exact h2 hh
 |isFalse hh=>grind
theorem ask{m:Option α}{k:(a:α)→m=some a→Mo ρ}{R:α→Prop}{Q:ρ→Prop}(h:Tot m R)(h2:∀a h,R a→MT (k a h) Q):MT (.ask m k) Q:=by
 obtain⟨a,rfl,ha⟩:=h
 exact h2 a rfl ha
theorem jh{m:Option (α⊕β)}{k1:(a:α)→m=some (.inl a)→Mo ρ}{k2:(b:β)→m=some (.inr b)→Mo ρ}{R:α⊕β→Prop}{Q:ρ→Prop}(h:Tot m R)(h1:∀a h,R (.inl a)→MT (k1 a h) Q)(h2:∀b h,R (.inr b)→MT (k2 b h) Q):MT (.jh m k1 k2) Q:=by
 obtain⟨a,rfl,ha⟩:=h
 rcases a with a|a
 ·exact h1 a rfl ha
 exact h2 a rfl ha
theorem Eu{m:Option (α⊕β⊕γ)}{k1:(a:α)→m=some (.inl a)→Mo ρ}{k2:(b:β)→m=some (.inr (.inl b))→Mo ρ}{k3:(c:γ)→m=some (.inr (.inr c))→Mo ρ}{R:α⊕β⊕γ→Prop}{Q:ρ→Prop}(h:Tot m R)(h1:∀a h,R (.inl a)→MT (k1 a h) Q)(h2:∀b h,R (.inr (.inl b))→MT (k2 b h) Q)(h3:∀b h,R (.inr (.inr b))→MT (k3 b h) Q):MT (.Eu m k1 k2 k3) Q:=by
 obtain⟨a,rfl,ha⟩:=h
 rcases a with a|a|a
 ·exact h1 a rfl ha
 ·exact h2 a rfl ha
 exact h3 a rfl ha
end MT
structure Clo {ρ:Type} (m:Option ρ):Prop where
 h:Tot m Any
namespace MT
variable {ρ α β γ:Type}
theorem kL{m:Option α}{k:(a:α)→m=some a→Mo ρ}{Q:ρ→Prop}(h:Clo m)(h2:∀a h,MT (k a h) Q):MT (.ask m k) Q:=ask h.h fun a h _=>h2 a h
theorem aiz{m:Option (α⊕β)}{k1:(a:α)→m=some (.inl a)→Mo ρ}{k2:(b:β)→m=some (.inr b)→Mo ρ}{Q:ρ→Prop}(h:Clo m)(h1:∀a h,MT (k1 a h) Q)(h2:∀b h,MT (k2 b h) Q):MT (.jh m k1 k2) Q:=jh h.h (fun a h _=>h1 a h) (fun a h _=>h2 a h)
end MT
theorem dU{α:Type}(l:List α)(i:Int)(h0:0≤i)(h1:i<l.length):Tot (jf l i) (fun x=>x∈l):=by
 obtain⟨x,h2,h3⟩:=afM h0 h1
 exact⟨x,h2,List.mem_of_getElem? h3⟩
namespace T
variable {ρ σ:Type}
theorem ahu{T:σ→Option (σ⊕ρ)}{s0:σ}(c:σ→Int)(P:σ→Prop)(Q:ρ→Prop)(h0:c s0=0)(hP:P s0)(step:∀(k:Nat) s,k≤100000000→c s=k→P s→Tot (T s) (LP (fun v=>c v=IntKind.wrap .i64 ((k:Int)+1)∧P v∧k<100000000) Q)):Tot (dA T FU s0) Q:=by
 refine yB (fun s=>0≤c s∧c s≤100000000∧P s) (fun s=>100000000-(c s).toNat) Q ?_ FU s0 ⟨by omega,by omega,hP⟩ (by have:=gq;omega)
 rintro s ⟨h1,h2,h3⟩
 obtain⟨r,h4,h5⟩:=step (c s).toNat s (by omega) (by omega) h3
 rcases r with v|r
 ·have h5:c v=IntKind.wrap .i64 (((c s).toNat:Int)+1)∧P v∧(c s).toNat<100000000:=h5
  have h6:=h5.1
  rw[inc _ (by omega)] at h6
  grind
 exact .inr ⟨r,h4,h5⟩
theorem cnt{T:Int→Option (Int⊕ρ)}(Q:ρ→Prop)(step:∀k:Nat,k≤100000000→Tot (T (k:Int)) (LP (fun v=>v=IntKind.wrap .i64 ((k:Int)+1)∧k<100000000) Q)):Tot (dA T FU 0) Q:=
 ahu (fun v=>v) (fun _=>True) Q rfl trivial fun k s hk hs _=>by
  obtain rfl:s=(k:Int):=hs
  refine mono (step k hk) ?_
  rintro(v|r) h
  ·exact⟨h.1,trivial,h.2⟩
  exact h
theorem amF{α:Type}{T:α×Int→Option ((α×Int)⊕ρ)}{a:α}(Q:ρ→Prop)(step:∀(a:α) (k:Nat),k≤100000000→Tot (T (a,(k:Int))) (LP (fun v=>v.2=IntKind.wrap .i64 ((k:Int)+1)∧k<100000000) Q)):Tot (dA T FU (a,0)) Q:=
 ahu (fun v=>v.2) (fun _=>True) Q rfl trivial fun k s hk hs _=>by
  obtain⟨a,i⟩:=s
  obtain rfl:i=(k:Int):=hs
  refine mono (step a k hk) ?_
  rintro(v|r) h
  ·exact⟨h.1,trivial,h.2⟩
  exact h
theorem Ho{α:Type}{T:Int×α→Option ((Int×α)⊕ρ)}{a:α}(Q:ρ→Prop)(step:∀(k:Nat) (a:α),k≤100000000→Tot (T ((k:Int),a)) (LP (fun v=>v.1=IntKind.wrap .i64 ((k:Int)+1)∧k<100000000) Q)):Tot (dA T FU (0,a)) Q:=
 ahu (fun v=>v.1) (fun _=>True) Q rfl trivial fun k s hk hs _=>by
  obtain⟨i,a⟩:=s
  obtain rfl:i=(k:Int):=hs
  refine mono (step k a hk) ?_
  rintro(v|r) h
  ·exact⟨h.1,trivial,h.2⟩
  exact h
end T
end Go.Proofs.YtpdlghcgekojlaaGreatDoor
namespace Go.Proofs.YtpdlghcgekojlaaGreatDoor
open Go.RowKit
theorem aez(s:ByteArray):Q52 s=some (nameB s):=by
 unfold Q52 ail JJ JI JH kT kS
 simp only[Mo.den,aN,aG,aH,aK,aJ]
 by_cases h0:s.size<1
 ·rw[decide_eq_true (show(s.size:Int)<1 by omega),Bz s (by omega)];rfl
 rw[decide_eq_false (show ¬(s.size:Int)<1 by omega)];simp only[cond_false,Option.bind_some]
 by_cases h1:32<s.size
 ·rw[decide_eq_true (show(32:Int)<(s.size:Int) by omega),Bv s h1];rfl
 rw[decide_eq_false (show ¬(32:Int)<(s.size:Int) by omega)];simp only[cond_false]
 have hz:kG s 0=some s[0]:=nJ s 0 (by omega)
 rw[hz,yA s (by omega) (by omega)]
 simp only[Option.bind_some]
 have e36:((s[0].toNat:Int)==36)=(s[0].toNat==36):=by rw[Bool.eq_iff_iff];simp;omega
 rw[e36]
 cases hq:s[0].toNat==36 with
 |true=>rfl
 |false=>
  simp only[cond_false,Bool.not_false,Bool.true_and]
  refine abf s.size (by omega) (fun n k=>k=n∧∀i (hi:i<s.size),i<n→oW s[i].toNat=true) (fun r=>match r with|.inl _=>s.data.toList.all (fun c=>oW c.toNat)=false|.inr _=>s.data.toList.all (fun c=>oW c.toNat)=true) ⟨rfl,by omega⟩ ?_ ?_ ?_
  ·rintro n k hn ⟨rfl,hv⟩
   simp only[iLt hn,cond_true,nJ s n hn,Option.bind_some]
   have hc:oW s[n].toNat=(decide (33≤s[n].toNat)&&decide (s[n].toNat≤126)&&!(s[n].toNat==46)):=rfl
   have e46:((s[n].toNat:Int)==46)=(s[n].toNat==46):=by rw[Bool.eq_iff_iff];simp;omega
   by_cases a1:s[n].toNat<33
   ·rw[decide_eq_true (show(s[n].toNat:Int)<33 by omega)];right
    exact⟨_,rfl,sJ s _ n hn (by rw[hc,decide_eq_false (show ¬33≤s[n].toNat by omega)];rfl)⟩
   rw[decide_eq_false (show ¬(s[n].toNat:Int)<33 by omega)];simp only[cond_false]
   by_cases a2:126<s[n].toNat
   ·rw[decide_eq_true (show(126:Int)<(s[n].toNat:Int) by omega)];right
    exact⟨_,rfl,sJ s _ n hn (by rw[hc,decide_eq_false (show ¬s[n].toNat≤126 by omega),Bool.and_false];rfl)⟩
   rw[decide_eq_false (show ¬(126:Int)<(s[n].toNat:Int) by omega),e46];simp only[cond_false,Option.bind_some]
   cases a3:s[n].toNat==46 with
   |true=>right;exact⟨_,rfl,sJ s _ n hn (by rw[hc,a3,Bool.not_true,Bool.and_false])⟩
   |false=>
    left
    refine⟨_,rfl,inc n (by omega),fun i hi hl=>?_⟩
    grind
  ·rintro k ⟨rfl,hv⟩
   exact⟨.inr (),by simp only[aja (Nat.lt_irrefl _),cond_false],LK s _ fun i hi=>hv i hi hi⟩
  grind
def aiA(p:List ByteArray):Bool:=decide (1≤p.length)&&decide (p.length≤16)&&p.all nameB
theorem Sr{α:Type}(f:α→Bool){l:List α}{k:Nat}{x:α}(h:l[k]?=some x):(l.take (k+1)).all f=((l.take k).all f&&f x):=by
 have hk:=nC h
 have:l[k]=x:=by rw[List.getElem?_eq_getElem hk] at h;injection h
 rw[List.take_succ_eq_append_getElem hk,List.all_append,this];simp
theorem aeA{α:Type}(f:α→Bool){l:List α}{k:Nat}{x:α}(h:l[k]?=some x)(hf:f x=false):l.all f=false:=by
 grind
def parts(v:aj):List aj:=(if v.aB=6 then v.aX else [])++(if v.aB=5 then v.bC.map aF.fValue else [])
theorem Kr(v:aj)(hb:aU v.lf1≤100000000):Q14 v=some (parts v):=by
 have hl:=gI v.aX
 have hd:=eY v.bC
 rw[bZ] at hb
 have h0:U2 v 0 []=some v.aX:=by
  have:Tot (U2 v 0 []) (fun r=>r=v.aX):=by
   refine T.lY v.aX.length (by omega) (fun k s=>s=((k:Int),v.aX.take k)) _ rfl ?_ ?_
   ·rintro k s hk rfl
    have hx:=List.getElem?_eq_getElem hk
    simp only[Ac,Mo.den,aN,aG,aH,aK,aJ,ltt hx,gid hx,cond_true,Option.bind_some]
    refine T.grd (by simp only[List.length_take,List.length_cons,List.length_nil];omega) (T.ret ?_)
    show _=_
    rw[inc k (by omega),List.take_succ_eq_append_getElem hk]
   rintro s rfl
   simp only[Ac,Mo.den,aN,aG,aH,aK,aJ,ltn,cond_false]
   exact T.ret (show _=_ by rw[List.take_length])
  obtain⟨r,h,rfl⟩:=this;exact h
 have h1:∀l0:List aj,l0.length≤100000000→Nl v 0 l0=some (l0++v.bC.map aF.fValue):=by
  intro l0 hl0
  have:Tot (Nl v 0 l0) (fun r=>r=l0++v.bC.map aF.fValue):=by
   refine T.lY v.bC.length (by omega) (fun k s=>s=((k:Int),l0++(v.bC.take k).map aF.fValue)) _ (by simp) ?_ ?_
   ·rintro k s hk rfl
    have hx:=List.getElem?_eq_getElem hk
    simp only[wL,Mo.den,aN,aG,aH,aK,aJ,ltt hx,gid hx,cond_true,Option.bind_some]
    refine T.grd (by simp only[List.length_append,List.length_map,List.length_take,List.length_cons,List.length_nil];omega) (T.ret ?_)
    show _=_
    rw[inc k (by omega),List.take_succ_eq_append_getElem hk,List.map_append,List.append_assoc];rfl
   rintro s rfl
   simp only[wL,Mo.den,aN,aG,aH,aK,aJ,ltn,cond_false]
   exact T.ret (show _=_ by rw[List.take_length])
  obtain⟨r,h,rfl⟩:=this;exact h
 unfold Q14 aij QG JG parts
 simp only[Mo.den,aN,aG,aH,aK,aJ,h0]
 grind
theorem tu{v x:aj}(h:x∈parts v):aU x.lf1<aU v.lf1:=by
 rw[bZ v]
 unfold parts at h
 rcases List.mem_append.1 h with h|h
 ·split at h
  ·have:=iK h;omega
  simp at h
 split at h
 ·obtain⟨f,hf,rfl⟩:=List.mem_map.1 h
  have:=eH hf;rw[dR] at this;omega
 simp at h
theorem Kt(v:aj):(parts v).length≤aU v.lf1:=by
 have hl:=gI v.aX
 have hd:=eY v.bC
 rw[bZ v]
 unfold parts
 grind
theorem Vf(n:Nat):∀(F:Nat) (v:aj) (m:Int),m≤n→n<F→aU v.lf1≤100000000→n≤100→Tot ((BM F).m1 v m) Any:=by
 induction n using Nat.strongRecOn with
 |_ n ih=>
  intro F v m hm hF hb hn
  obtain⟨F,rfl⟩:∃G,F=G+1:=⟨F-1,by omega⟩
  have hpl:=Kt v
  simp only[BM,adI,QH,Mo.den,aN,aG,aH,aK,aJ,Kr v hb,Option.bind_some]
  by_cases h2:m<2
  ·rw[decide_eq_true h2];exact T.any
  rw[decide_eq_false h2]
  simp only[cond_false,Option.bind_some]
  refine T.ite (fun _=>T.any) (fun _=>T.bind (R:=Any) ?_ (fun r _=>T.any))
  refine T.lY (parts v).length (by omega) (fun k s=>s.2=(k:Int)) _ rfl ?_ ?_
  ·rintro k ⟨a,i⟩ hk rfl
   have hx:=List.getElem?_eq_getElem hk
   have hxb:=tu (gK hx)
   simp only[FI,Mo.den,aN,aG,aH,aK,aJ,ltt hx,gid hx,cond_true,Option.bind_some]
   refine T.bind (ih (n-1) (by omega) F _ _ (by rw[w64 (by omega) (by omega)];omega) (by omega) (by omega) (by omega)) fun r _=>T.ret ?_
   exact inc k (by omega)
  rintro⟨a,i⟩ rfl
  simp only[FI,Mo.den,aN,aG,aH,aK,aJ,ltn,cond_false]
  exact T.ret trivial
theorem ZK(n:Nat):∀(F:Nat) (v:aj) (m:Int),m≤n→n<F→aU v.lf1≤100000000→n≤2000→Tot ((BN F).m1 v m) (fun r=>1≤r∧(r≤m∨r=1)):=by
 induction n using Nat.strongRecOn with
 |_ n ih=>
  intro F v m hm hF hb hn
  obtain⟨F,rfl⟩:∃G,F=G+1:=⟨F-1,by omega⟩
  have hpl:=Kt v
  show Tot (Xq (BN F) v m).den _
  unfold Xq
  simp only[Mo.den,aN,aG,aH,aK,aJ,Kr v hb,Option.bind_some]
  refine T.bind (R:=fun r=>1≤r∧(r≤m∨r=1)) ?_ (fun r h=>T.ret h)
  refine T.lY (parts v).length (by omega) (fun k s=>s.2=(k:Int)∧1≤s.1∧(s.1≤m∨s.1=1)) _ ⟨rfl,by show(1:Int)≤1;omega,.inr rfl⟩ ?_ ?_
  ·rintro k ⟨a,i⟩ hk ⟨h1,h2,h3⟩
   obtain rfl:i=(k:Int):=h1
   have h2:1≤a:=h2
   have h3:a≤m∨a=1:=h3
   have hx:=List.getElem?_eq_getElem hk
   have hxb:=tu (gK hx)
   unfold FM
   simp only[FK,Mo.den,aN,aG,aH,aK,aJ,ltt hx,gid hx,cond_true,Option.bind_some]
   refine T.ite (fun h=>?_) (fun h=>T.ret ⟨h2,h3⟩)
   have h:=of_decide_eq_true h
   refine T.bind (ih (n-1) (by omega) F _ _ (by rw[w64 (by omega) (by omega)];omega) (by omega) (by omega) (by omega)) fun r hr=>T.ret ?_
   rw[w64 (by omega) (by omega)] at hr
   exact⟨inc k (by omega),by rw[w64 (by omega) (by omega)];omega,by rw[w64 (by omega) (by omega)];omega⟩
  rintro⟨a,i⟩ ⟨h1,h2,h3⟩
  obtain rfl:i=((parts v).length:Int):=h1
  unfold FM
  simp only[FK,Mo.den,aN,aG,aH,aK,aJ,ltn,cond_false,Option.bind_some]
  exact T.ret ⟨h2,h3⟩
theorem ZL(v:aj)(hb:aU v.lf1≤100000000):Tot (aj3 v) Any:=by
 simp only[aj3,adJ,Mo.den,aN,aG,aH,aK,aJ,Q47]
 exact T.bind (Vf 17 FU v 17 (by omega) (by have:=gq;omega) hb (by omega)) fun r _=>T.any
theorem ZM(v:aj)(hb:aU v.lf1≤100000000):Tot (aj7 v) Any:=by
 simp only[aj7,adL,Mo.den,aN,aG,aH,aK,aJ,Q41]
 exact T.bind (ZK 1025 FU v 1025 (by omega) (by have:=gq;omega) hb (by omega)) fun r _=>T.any
theorem aeB(s:ByteArray)(i:Nat)(n:Int)(hs:s.size≤100000000)(hi:i≤100000000)(h0:0≤n)(h1:n≤10):Tot (Q60 s (i:Int) n) (fun b=>b=true→(i:Int)+n≤s.size):=by
 unfold Q60 aik
 simp only[Mo.den,aN,aG,aH,aK,aJ]
 rw[w64 (by omega) (by omega)]
 refine T.ite (fun _=>T.ret (by simp)) (fun h=>?_)
 have h:=of_decide_eq_false h
 obtain⟨n,rfl⟩:=Int.eq_ofNat_of_zero_le h0
 refine T.bind (R:=Any) ?_ ?_
 ·refine T.akM n (by omega) _ (fun k hk=>?_) ?_
  ·have e:kG s (IntKind.wrap .i64 ((i:Int)+(k:Int)))=some s[i+k]:=by
    rw[w64 (by omega) (by omega),show(i:Int)+(k:Int)=((i+k:Nat):Int) by omega];exact nJ s _ (by omega)
   simp only[FN,QI,Mo.den,aN,aG,aH,aK,aJ,iLt hk,cond_true,e,Option.bind_some]
   refine T.bind (R:=Any) (T.ite (fun _=>T.any) (fun _=>T.any)) fun b _=>T.ite (fun _=>T.ret trivial) (fun _=>T.ret rfl)
  simp only[FN,Mo.den,aN,aG,aH,aK,aJ,ltn,cond_false]
  exact T.ret trivial
 rintro(r|r) _
 ·exact T.ret (by simp)
 exact T.ret fun _=>by omega
theorem aeC(s:ByteArray)(hs:s.size≤100000000):Tot (Q7 s) Any:=by
 unfold Q7 ahc
 simp only[Mo.den,aN,aG,aH,aK,aJ]
 refine T.bind (R:=Any) ?_ (by rintro(r|r) _<;>exact T.any)
 refine yB (fun v:Int=>0≤v∧v≤s.size) (fun v:Int=>s.size-v.toNat) Any ?_ FU 0 ⟨by omega,by omega⟩ (by have:=gq;omega)
 rintro v ⟨h0,h1⟩
 obtain⟨k,rfl⟩:=Int.eq_ofNat_of_zero_le h0
 have key:Tot (ru s (k:Int)).den (LP (fun v'=>(k:Int)<v'∧v'≤s.size) Any):=by
  by_cases hk:k<s.size
  ·simp only[ru,Mo.den,aN,aG,aH,aK,aJ,iLt hk,cond_true,nJ s k hk,Option.bind_some]
   refine T.bind (R:=LP (fun n:Int=>(n=0∧s[k].toNat<128)∨(1≤n∧n≤3)) Any) ?_ ?_
   ·simp only[Q7,ahc,ru,FY,FX,FW,FT,FQ,FP,Ns,Nr,Mo.den,aN,aG,aH,aK,aJ]
    refine T.ite (fun h=>T.ret (.inl ⟨rfl, by have:=of_decide_eq_true h;omega⟩)) fun _=>T.bind (R:=Any) (T.ite (fun _=>T.any) fun _=>T.any) fun b _=>T.ite (fun _=>T.ret (.inr (by omega))) fun _=>
     T.bind (R:=Any) (T.ite (fun _=>T.any) fun _=>T.any) fun b _=>T.ite (fun _=>T.ret (.inr (by omega))) fun _=>T.bind (R:=Any) (T.ite (fun _=>T.any) fun _=>T.any) fun b _=>T.ite (fun _=>T.ret (.inr (by omega))) fun _=>T.ret trivial
   rintro(n|u) hn
   ·have hn:(n=0∧s[k].toNat<128)∨(1≤n∧n≤3):=hn
    simp only
    rw[inc k (by omega)]
    refine T.bind (aeB s (k+1) n hs (by omega) (by omega) (by omega)) fun b hb=>T.ite (fun _=>T.ret trivial) fun h=>?_
    have hb:=hb (by simpa using h)
    have e:∀c:Nat,128≤c→((s[k].toNat:Int)==(c:Int))=true→∃x,kG s ((k+1:Nat):Int)=some x:=by
     intro c hc h
     have h:(s[k].toNat:Int)=c:=by simpa using h
     exact⟨_,nJ s (k+1) (by omega)⟩
    simp only[Q7,ahc,ru,FY,FX,FW,FT,FQ,FP,Ns,Nr,Mo.den,aN,aG,aH,aK,aJ]
    rw[inc k (by omega)]
    refine T.bind (R:=Any) (T.ite (fun h=>by obtain⟨x,hx⟩:=e 224 (by omega) h;rw[hx];exact T.any) fun _=>T.any) fun b1 _=>?_
    refine T.bind (R:=Any) (T.ite (fun h=>T.any) fun _=>T.ite (fun h=>by obtain⟨x,hx⟩:=e 237 (by omega) h;rw[hx];exact T.any) fun _=>T.any) fun b2 _=>?_
    refine T.bind (R:=Any) (T.ite (fun h=>T.any) fun _=>T.ite (fun h=>by obtain⟨x,hx⟩:=e 240 (by omega) h;rw[hx];exact T.any) fun _=>T.any) fun b3 _=>?_
    refine T.bind (R:=Any) (T.ite (fun h=>T.any) fun _=>T.ite (fun h=>by obtain⟨x,hx⟩:=e 244 (by omega) h;rw[hx];exact T.any) fun _=>T.any) fun b4 _=>?_
    refine T.ite (fun _=>T.ret trivial) fun _=>T.ret ?_
    show(k:Int)<IntKind.wrap .i64 (IntKind.wrap .i64 ((k:Int)+n)+1)∧IntKind.wrap .i64 (IntKind.wrap .i64 ((k:Int)+n)+1)≤s.size
    rw[w64 (x:=(k:Int)+n) (by omega) (by omega),w64 (by omega) (by omega)];omega
   exact T.ret trivial
  simp only[ru,Mo.den,aN,aG,aH,aK,aJ,aja hk,cond_false]
  exact T.ret trivial
 obtain⟨r,h2,h3⟩:=key
 rcases r with v'|r
 ·have h3:(k:Int)<v'∧v'≤s.size:=h3
  grind
 exact .inr ⟨r,h2,trivial⟩
theorem Vg(f:Nat):(∀v:aj,2*aU v.lf1+1<f→aU v.lf1≤100000000→Tot ((pG f).m1 v true) Any)∧∀v:aj,2*aU v.lf1<f→aU v.lf1≤100000000→Tot ((pG f).m2 v true) Any:=by
 induction f with
 |zero=>simp
 |succ f ih=>
  refine⟨fun v h hb=>?_,fun v h hb=>?_⟩
  ·have hm2:=ih.2 v (by omega) hb
   have hl:=gI v.aX
   have hbv:=bZ v
   simp only[pG,Q4,akc,QY,QX,QW,QV,QU,QT,QS,QO,QN,QM,QL,QK,QJ,Xu,Xt,Mo.den,aN,aG,aH,aK,aJ,Option.bind_some]
   refine T.bind (R:=Any) (T.ite (fun _=>T.any) fun _=>T.any) fun _ _=>?_
   refine T.bind (R:=Any) (T.ite (fun _=>T.any) fun _=>T.ite (fun _=>T.any) fun _=>T.any) fun _ _=>T.ite (fun _=>T.any) fun _=>?_
   refine T.bind (R:=Any) (T.ite (fun _=>T.any) fun _=>T.any) fun _ _=>?_
   refine T.bind (R:=Any) (T.ite (fun _=>T.any) fun _=>T.any) fun _ _=>?_
   refine T.bind (R:=Any) (T.ite (fun _=>T.any) fun _=>T.any) fun _ _=>?_
   refine T.bind (R:=Any) (T.ite (fun _=>T.any) fun _=>T.any) fun _ _=>?_
   refine T.bind (R:=Any) (T.ite (fun _=>T.any) fun _=>T.any) fun _ _=>?_
   refine T.bind (R:=Any) (T.ite (fun _=>T.any) fun _=>T.ite (fun _=>T.any) fun _=>T.any) fun _ _=>?_
   refine T.bind (R:=Any) (T.ite (fun _=>T.any) fun _=>T.any) fun _ _=>?_
   refine T.bind (R:=Any) (T.ite (fun _=>T.any) fun _=>T.any) fun _ _=>T.ite (fun _=>T.any) fun _=>?_
   refine T.ite (fun _=>T.bind (R:=Any) (T.ite (fun _=>T.any) fun _=>T.any) fun _ _=>T.any) fun _=>T.ite (fun _=>T.any) fun _=>?_
   refine T.ite (fun _=>T.bind (R:=Any) (T.ite (fun _=>T.bind (aeC _ (by omega)) fun _ _=>T.any) fun _=>T.any) fun _ _=>T.any) fun _=>T.ite (fun _=>T.any) fun _=>T.ite (fun _=>T.any) fun _=>?_
   refine T.bind (R:=Any) ?_ (by rintro(r|r) _;exact T.any;exact T.bind hm2 fun _ _=>T.any)
   refine T.akN v.aX (by omega) _ (fun k x hx=>?_) ?_
   ·have hxb:=iK (gK hx)
    simp only[ltt hx,gid hx,cond_true,Option.bind_some]
    exact T.bind (ih.1 x (by omega) (by omega)) fun b _=>T.ite (fun _=>T.ret trivial) fun _=>T.ret rfl
   simp only[ltn,cond_false];exact T.ret trivial
  have hl:=eY v.bC
  have hbv:=bZ v
  simp only[pG,Q28,adO,JM,JL,JK,Rf,QZ,Mo.den,aN,aG,aH,aK,aJ,aez,cond_true,Option.bind_some,Bool.not_true,cond_false]
  refine T.bind (R:=Any) ?_ (by rintro(r|r) _<;>exact T.any)
  refine T.akN v.bC (by omega) _ (fun k x hx=>?_) ?_
  ·have hxb:=eH (gK hx)
   have hk:=nC hx
   rw[dR] at hxb
   simp only[ltt hx,gid hx,cond_true,Option.bind_some]
   refine T.bind (R:=Any) (T.ite (fun _=>T.any) fun _=>T.any) fun _ _=>?_
   refine T.bind (R:=Any) (T.ite (fun _=>T.any) fun _=>T.bind (ih.1 x.fValue (by omega) (by omega)) fun _ _=>T.any) fun _ _=>T.ite (fun _=>T.ret trivial) fun _=>?_
   refine T.bind (R:=Any) ?_ (by rintro(r|r) _;exact T.ret trivial;exact T.ret rfl)
   refine T.akM k (by omega) _ (fun j hj=>?_) ?_
   ·have hy:=List.getElem?_eq_getElem (show j<v.bC.length by omega)
    simp only[iLt hj,gid hy,cond_true,Option.bind_some]
    exact T.ite (fun _=>T.ret trivial) fun _=>T.ret rfl
   simp only[ltn,cond_false];exact T.ret trivial
  simp only[ltn,cond_false];exact T.ret trivial
theorem ZN(v:aj)(hb:aU v.lf1≤100000000):Tot (ake v) Any:=by
 simp only[ake,adP,Mo.den,aN,aG,aH,aK,aJ,Q4]
 refine T.bind (ZL v hb) fun _ _=>T.ite (fun _=>T.bind (ZM v hb) fun _ _=>T.ite (fun _=>T.bind ((Vg FU).1 v (by have:=gq;omega) hb) fun _ _=>T.any) fun _=>T.any) fun _=>T.any
def iT(f:aj→Nat→Nat)(lim:Nat):List aj→Nat→Nat
 |[],n=>n
 |p::r,n=>if f p n<lim then iT f lim r (f p n) else f p n
theorem tC(f:aj→Nat→Nat)(lim:Nat)(p:aj)(r:List aj)(n:Nat):iT f lim (p::r) n=if f p n<lim then iT f lim r (f p n) else f p n:=rfl
mutual
def aj.cnt:aj→Nat
 |.mk k _ _ l d=>1+((if k=6 then aj.cnts l else 0)+(if k=5 then aF.cnts d else 0))
def aj.cnts:List aj→Nat
 |[]=>0
 |x::r=>x.cnt+aj.cnts r
def aF.cnts:List aF→Nat
 |[]=>0
 |.mk _ x::r=>x.cnt+aF.cnts r
end
mutual
def aj.dep:aj→Nat
 |.mk k _ _ l d=>1+max (if k=6 then aj.deps l else 0) (if k=5 then aF.deps d else 0)
def aj.deps:List aj→Nat
 |[]=>0
 |x::r=>max x.dep (aj.deps r)
def aF.deps:List aF→Nat
 |[]=>0
 |.mk _ x::r=>max x.dep (aF.deps r)
end
def rD:List Nat→Nat
 |[]=>0
 |x::r=>x+rD r
def pV:List Nat→Nat
 |[]=>0
 |x::r=>max x (pV r)
theorem Sz:∀l m:List Nat,rD (l++m)=rD l+rD m
 |[],m=>(Nat.zero_add _).symm
 |x::r,m=>by show x+rD (r++m)=(x+rD r)+rD m;rw[Sz r m];omega
theorem SA:∀l m:List Nat,pV (l++m)=max (pV l) (pV m)
 |[],m=>by show pV m=max 0 (pV m);omega
 |x::r,m=>by show max x (pV (r++m))=max (max x (pV r)) (pV m);rw[SA r m];omega
theorem XH:∀l:List aj,aj.cnts l=rD (l.map aj.cnt)
 |[]=>by simp[aj.cnts,rD]
 |x::r=>by simp[aj.cnts,rD,XH r]
theorem SB:∀l:List aF,aF.cnts l=rD ((l.map aF.fValue).map aj.cnt)
 |[]=>by simp[aF.cnts,rD]
 |.mk n x::r=>by simp[aF.cnts,rD,SB r,aF.fValue]
theorem XI:∀l:List aj,aj.deps l=pV (l.map aj.dep)
 |[]=>by simp[aj.deps,pV]
 |x::r=>by simp[aj.deps,pV,XI r]
theorem SC:∀l:List aF,aF.deps l=pV ((l.map aF.fValue).map aj.dep)
 |[]=>by simp[aF.deps,pV]
 |.mk n x::r=>by simp[aF.deps,pV,SC r,aF.fValue]
theorem Ku(v:aj):v.cnt=1+rD ((parts v).map aj.cnt):=by
 cases v with
 |mk k i s l d=>
  unfold parts
  rw[List.map_append,Sz]
  unfold aj.cnt
  rw[XH,SB]
  simp only[aj.aB,aj.aX,aj.bC]
  by_cases h6:k=6
  ·subst h6;simp[rD]
  by_cases h5:k=5
  ·subst h5;simp[rD]
  simp[h6,h5,rD]
theorem Kv(v:aj):v.dep=1+pV ((parts v).map aj.dep):=by
 cases v with
 |mk k i s l d=>
  unfold parts
  rw[List.map_append,SA]
  unfold aj.dep
  rw[XI,SC]
  simp only[aj.aB,aj.aX,aj.bC]
  by_cases h6:k=6
  ·subst h6;simp[pV]
  by_cases h5:k=5
  ·subst h5;simp[pV]
  simp[h6,h5,pV]
theorem Wj(v:aj):1≤v.cnt:=by rw[Ku];omega
theorem Wn(v:aj):1≤v.dep:=by rw[Kv];omega
theorem Kw(most:Nat):∀(l:List aj) (n:Nat),n<most→iT (fun p n=>n+min p.cnt (most-n)) most l n=min (n+rD (l.map aj.cnt)) most
 |[],n,h=>by unfold iT;simp only[List.map_nil,rD];omega
 |p::r,n,h=>by
  unfold iT
  simp only[List.map_cons,rD]
  split
  ·rename_i hc
   rw[Kw most r _ hc]
   omega
  omega
theorem Ky(most:Nat)(hm:1≤most):∀(l:List aj) (n:Nat),n≤most-1→(l=[]∨n<most-1→iT (fun p n=>max n (min p.dep (most-1))) (most-1) l n=min (max n (pV (l.map aj.dep))) (most-1))
 |[],n,h,_=>by unfold iT;simp only[List.map_nil,pV];omega
 |p::r,n,h,hh=>by
  have hn:n<most-1:=hh.resolve_left (by simp)
  unfold iT
  simp only[List.map_cons,pV]
  split
  ·rename_i hc
   rw[Ky most hm r _ (by omega) (.inr hc)]
   omega
  omega

theorem ZO(R:RB3)(v:aj)(f:aj→Nat→Nat)(lim:Nat)(b1:Int)(I:Nat→Prop)(hb:aU v.lf1≤100000000)
 (h3:∀p∈parts v,∀n:Nat,I n→R.m3 p n b1=some (decide (f p n<lim),(f p n:Int),b1)∧(f p n<lim→I (f p n))) (n:Nat) (hn:I n):
 Mo.den (PE R v n b1)=some (((iT f lim (parts v) n:Nat):Int),b1):=by
 have hl:=gI v.aX
 have hd:=eY v.bC
 rw[bZ] at hb
 unfold PE
 simp only[Mo.den,aN,aG,aH,aK,aJ]
 by_cases h6:v.aB=6
 ·have e6:(v.aB==6)=true:=by simpa using h6
  have hp:parts v=v.aX:=by unfold parts;rw[if_pos h6,if_neg (by omega),List.append_nil]
  rw[e6,hp]
  simp only[cond_true]
  have key:Tot (abW R v 0 n b1) (fun r=>match r with|.inl o=>o=(((iT f lim v.aX n:Nat):Int),b1)|.inr o=>o=(((iT f lim v.aX n:Nat):Int),b1)):=by
   refine T.lY v.aX.length (by omega) (fun k s=>∃m:Nat,s=((k:Int),(m:Int),b1)∧I m∧iT f lim v.aX n=iT f lim (v.aX.drop k) m) _ ⟨n,rfl,hn,rfl⟩ ?_ ?_
   ·rintro k s hk ⟨m,rfl,hm,he⟩
    have hx:=List.getElem?_eq_getElem hk
    have hdr:v.aX.drop k=v.aX[k]::v.aX.drop (k+1):=List.drop_eq_getElem_cons hk
    obtain⟨q1,q2⟩:=h3 v.aX[k] (by rw[hp];exact List.getElem_mem hk) m hm
    simp only[zL,Mo.den,aN,aG,aH,aK,aJ,ltt hx,gid hx,cond_true,Option.bind_some,q1]
    rw[hdr,tC] at he
    by_cases hc:f v.aX[k] m<lim
    ·rw[if_pos hc] at he
     rw[decide_eq_true hc]
     exact T.ret ⟨_,by rw[inc k (by omega)],q2 hc,he⟩
    rw[if_neg hc] at he
    rw[decide_eq_false hc]
    exact T.ret (show _=_ by rw[he])
   rintro s ⟨m,rfl,hm,he⟩
   rw[List.drop_length] at he
   have he:iT f lim v.aX n=m:=he
   simp only[zL,Mo.den,aN,aG,aH,aK,aJ,ltn,cond_false]
   exact T.ret (show _=_ by rw[he])
  obtain⟨r,h,hr⟩:=key
  grind
 have e6:(v.aB==6)=false:=by simpa using h6
 by_cases h5:v.aB=5
 ·have e5:(v.aB==5)=true:=by simpa using h5
  have hp:parts v=v.bC.map aF.fValue:=by unfold parts;rw[if_neg h6,if_pos h5,List.nil_append]
  rw[e6,e5,hp]
  simp only[cond_true,cond_false]
  have key:Tot (abX R v 0 n b1) (fun r=>match r with|.inl o=>o=(((iT f lim (v.bC.map aF.fValue) n:Nat):Int),b1)|.inr o=>o=(((iT f lim (v.bC.map aF.fValue) n:Nat):Int),b1)):=by
   refine T.lY v.bC.length (by omega) (fun k s=>∃m:Nat,s=((k:Int),(m:Int),b1)∧I m∧iT f lim (v.bC.map aF.fValue) n=iT f lim ((v.bC.drop k).map aF.fValue) m) _ ⟨n,rfl,hn,rfl⟩ ?_ ?_
   ·rintro k s hk ⟨m,rfl,hm,he⟩
    have hx:=List.getElem?_eq_getElem hk
    have hdr:v.bC.drop k=v.bC[k]::v.bC.drop (k+1):=List.drop_eq_getElem_cons hk
    obtain⟨q1,q2⟩:=h3 v.bC[k].fValue (by rw[hp];exact List.mem_map.2 ⟨_,List.getElem_mem hk,rfl⟩) m hm
    simp only[zM,Mo.den,aN,aG,aH,aK,aJ,ltt hx,gid hx,cond_true,Option.bind_some,q1]
    rw[hdr,List.map_cons,tC] at he
    by_cases hc:f v.bC[k].fValue m<lim
    ·rw[if_pos hc] at he
     rw[decide_eq_true hc]
     exact T.ret ⟨_,by rw[inc k (by omega)],q2 hc,he⟩
    rw[if_neg hc] at he
    rw[decide_eq_false hc]
    exact T.ret (show _=_ by rw[he])
   rintro s ⟨m,rfl,hm,he⟩
   rw[List.drop_length,List.map_nil] at he
   have he:iT f lim (v.bC.map aF.fValue) n=m:=he
   simp only[zM,Mo.den,aN,aG,aH,aK,aJ,ltn,cond_false]
   exact T.ret (show _=_ by rw[he])
  obtain⟨r,h,hr⟩:=key
  grind
 have e5:(v.aB==5)=false:=by simpa using h5
 have hp:parts v=[]:=by unfold parts;rw[if_neg h6,if_neg h5];rfl
 rw[e6,e5,hp]
 rfl

theorem ZP(R:RB4)(v:aj)(f:aj→Nat→Nat)(lim:Nat)(b1:Int)(I:Nat→Prop)(hb:aU v.lf1≤100000000)
 (h3:∀p∈parts v,∀n:Nat,I n→R.m3 p n b1=some (decide (f p n<lim),(f p n:Int),b1)∧(f p n<lim→I (f p n))) (n:Nat) (hn:I n):
 Mo.den (PG R v n b1)=some (((iT f lim (parts v) n:Nat):Int),b1):=by
 have hl:=gI v.aX
 have hd:=eY v.bC
 rw[bZ] at hb
 unfold PG
 simp only[Mo.den,aN,aG,aH,aK,aJ]
 by_cases h6:v.aB=6
 ·have e6:(v.aB==6)=true:=by simpa using h6
  have hp:parts v=v.aX:=by unfold parts;rw[if_pos h6,if_neg (by omega),List.append_nil]
  rw[e6,hp]
  simp only[cond_true]
  have key:Tot (ab4 R v 0 n b1) (fun r=>match r with|.inl o=>o=(((iT f lim v.aX n:Nat):Int),b1)|.inr o=>o=(((iT f lim v.aX n:Nat):Int),b1)):=by
   refine T.lY v.aX.length (by omega) (fun k s=>∃m:Nat,s=((k:Int),(m:Int),b1)∧I m∧iT f lim v.aX n=iT f lim (v.aX.drop k) m) _ ⟨n,rfl,hn,rfl⟩ ?_ ?_
   ·rintro k s hk ⟨m,rfl,hm,he⟩
    have hx:=List.getElem?_eq_getElem hk
    have hdr:v.aX.drop k=v.aX[k]::v.aX.drop (k+1):=List.drop_eq_getElem_cons hk
    obtain⟨q1,q2⟩:=h3 v.aX[k] (by rw[hp];exact List.getElem_mem hk) m hm
    simp only[zN,Mo.den,aN,aG,aH,aK,aJ,ltt hx,gid hx,cond_true,Option.bind_some,q1]
    rw[hdr,tC] at he
    by_cases hc:f v.aX[k] m<lim
    ·rw[if_pos hc] at he
     rw[decide_eq_true hc]
     exact T.ret ⟨_,by rw[inc k (by omega)],q2 hc,he⟩
    rw[if_neg hc] at he
    rw[decide_eq_false hc]
    exact T.ret (show _=_ by rw[he])
   rintro s ⟨m,rfl,hm,he⟩
   rw[List.drop_length] at he
   have he:iT f lim v.aX n=m:=he
   simp only[zN,Mo.den,aN,aG,aH,aK,aJ,ltn,cond_false]
   exact T.ret (show _=_ by rw[he])
  obtain⟨r,h,hr⟩:=key
  grind
 have e6:(v.aB==6)=false:=by simpa using h6
 by_cases h5:v.aB=5
 ·have e5:(v.aB==5)=true:=by simpa using h5
  have hp:parts v=v.bC.map aF.fValue:=by unfold parts;rw[if_neg h6,if_pos h5,List.nil_append]
  rw[e6,e5,hp]
  simp only[cond_true,cond_false]
  have key:Tot (ab5 R v 0 n b1) (fun r=>match r with|.inl o=>o=(((iT f lim (v.bC.map aF.fValue) n:Nat):Int),b1)|.inr o=>o=(((iT f lim (v.bC.map aF.fValue) n:Nat):Int),b1)):=by
   refine T.lY v.bC.length (by omega) (fun k s=>∃m:Nat,s=((k:Int),(m:Int),b1)∧I m∧iT f lim (v.bC.map aF.fValue) n=iT f lim ((v.bC.drop k).map aF.fValue) m) _ ⟨n,rfl,hn,rfl⟩ ?_ ?_
   ·rintro k s hk ⟨m,rfl,hm,he⟩
    have hx:=List.getElem?_eq_getElem hk
    have hdr:v.bC.drop k=v.bC[k]::v.bC.drop (k+1):=List.drop_eq_getElem_cons hk
    obtain⟨q1,q2⟩:=h3 v.bC[k].fValue (by rw[hp];exact List.mem_map.2 ⟨_,List.getElem_mem hk,rfl⟩) m hm
    simp only[zQ,Mo.den,aN,aG,aH,aK,aJ,ltt hx,gid hx,cond_true,Option.bind_some,q1]
    rw[hdr,List.map_cons,tC] at he
    by_cases hc:f v.bC[k].fValue m<lim
    ·rw[if_pos hc] at he
     rw[decide_eq_true hc]
     exact T.ret ⟨_,by rw[inc k (by omega)],q2 hc,he⟩
    rw[if_neg hc] at he
    rw[decide_eq_false hc]
    exact T.ret (show _=_ by rw[he])
   rintro s ⟨m,rfl,hm,he⟩
   rw[List.drop_length,List.map_nil] at he
   have he:iT f lim (v.bC.map aF.fValue) n=m:=he
   simp only[zQ,Mo.den,aN,aG,aH,aK,aJ,ltn,cond_false]
   exact T.ret (show _=_ by rw[he])
  obtain⟨r,h,hr⟩:=key
  grind
 have e5:(v.aB==5)=false:=by simpa using h5
 have hp:parts v=[]:=by unfold parts;rw[if_neg h6,if_neg h5];rfl
 rw[e6,e5,hp]
 rfl

theorem Vh:∀(F:Nat) (v:aj) (most:Nat),3*aU v.lf1≤F→aU v.lf1≤100000000→1≤most→most≤2000→(qo F).m1 v most=some ((min v.cnt most:Nat):Int):=by
 intro F
 induction F using Nat.strongRecOn with
 |_ F ih=>
 intro v most hF hb h1 h2
 have hp:=bZ v
 obtain⟨F,rfl⟩:∃G,F=G+3:=⟨F-3,by omega⟩
 show Mo.den (MI (qo (F+2)) v most)=_
 unfold MI
 simp only[Mo.den,aN,aG,aH,aK,aJ]
 by_cases hm:most=1
 ·subst hm
  have:=Wj v
  grind
 rw[show((1:Int)==(most:Int))=false by rw[beq_eq_false_iff_ne];omega]
 have he:(qo (F+2)).m2 v 1 most=some (((min v.cnt most:Nat):Int),(most:Int)):=by
  show Mo.den (PE (qo (F+1)) v 1 most)=_
  have:=ZO (qo (F+1)) v (fun p n=>n+min p.cnt (most-n)) most most (fun n=>n<most) hb (fun p hq n hn=>?_) 1 (show 1<most by omega)
  ·rw[show((1:Int))=((1:Nat):Int) from rfl,this,Kw most _ 1 (by omega),←Ku]
  refine⟨?_,fun h=>h⟩
  have hlt:=tu hq
  show Mo.den (MJ (qo F) p n most)=_
  unfold MJ
  have hsub:IntKind.wrap .i64 ((most:Int)-(n:Int))=((most-n:Nat):Int):=by rw[w64 (by omega) (by omega)];omega
  simp only[Mo.den,aN,aG,aH,aK,aJ,hsub,ih F (by omega) p (most-n) (by omega) (by omega) (by omega) (by omega),Option.bind_some]
  rw[w64 (by omega) (by omega),show(n:Int)+((min p.cnt (most-n):Nat):Int)=((n+min p.cnt (most-n):Nat):Int) by omega]
  congr 2
  grind
 grind
theorem ZQ(v:aj)(hb:aU v.lf1≤100000000):ajs v=some ((min v.cnt 1025:Nat):Int):=by
 simp only[ajs,abZ,Mo.den,aN,aG,aH,aK,aJ]
 have:alG v 1025=some ((min v.cnt 1025:Nat):Int):=Vh FU v 1025 (by have:=gq;omega) hb (by omega) (by omega)
 rw[this];rfl
theorem Vj:∀(F:Nat) (v:aj) (most:Nat),3*aU v.lf1≤F→aU v.lf1≤100000000→1≤most→most≤2000→(qp F).m1 v most=some ((min v.dep most:Nat):Int):=by
 intro F
 induction F using Nat.strongRecOn with
 |_ F ih=>
 intro v most hF hb h1 h2
 have hp:=bZ v
 obtain⟨F,rfl⟩:∃G,F=G+3:=⟨F-3,by omega⟩
 show Mo.den (MK (qp (F+2)) v most)=_
 unfold MK
 simp only[Mo.den,aN,aG,aH,aK,aJ]
 have hpos:=Wn v
 by_cases hm:most=1
 ·grind
 rw[show((most:Int)==(1:Int))=false by rw[beq_eq_false_iff_ne];omega]
 have he:(qp (F+2)).m2 v 0 most=some (((min v.dep most-1:Nat):Int),(most:Int)):=by
  show Mo.den (PG (qp (F+1)) v 0 most)=_
  have:=ZP (qp (F+1)) v (fun p n=>max n (min p.dep (most-1))) (most-1) most (fun n=>n<most-1) hb (fun p hq n hn=>?_) 0 (show 0<most-1 by omega)
  ·rw[show((0:Int))=((0:Nat):Int) from rfl, this, Ky most h1 _ 0 (by omega) (.inr (by omega))]
   have e:=Kv v
   grind
  refine⟨?_,fun h=>h⟩
  have hlt:=tu hq
  show Mo.den (ML (qp F) p n most)=_
  unfold ML
  have hsub:IntKind.wrap .i64 ((most:Int)-1)=((most-1:Nat):Int):=by rw[w64 (by omega) (by omega)];omega
  simp only[Mo.den,aN,aG,aH,aK,aJ,hsub,ih F (by omega) p (most-1) (by omega) (by omega) (by omega) (by omega),Option.bind_some]
  rw[show(if((min p.dep (most-1):Nat):Int) > (n:Int) then((min p.dep (most-1):Nat):Int) else(n:Int))=((max n (min p.dep (most-1)):Nat):Int) by split<;>omega]
  simp
 simp only[cond_false,he,Option.bind_some]
 rw[w64 (by omega) (by omega)]
 grind
theorem ZR(v:aj)(hb:aU v.lf1≤100000000):ajt v=some ((min v.dep 17:Nat):Int):=by
 simp only[ajt,ab7,Mo.den,aN,aG,aH,aK,aJ]
 have:alH v 17=some ((min v.dep 17:Nat):Int):=Vj FU v 17 (by have:=gq;omega) hb (by omega) (by omega)
 rw[this];rfl
theorem size_nil{s:ByteArray}(h:s.size<1):s=⟨#[]⟩:=by
 cases s with
 |mk d=>
  have h:d.size<1:=h
  grind
theorem XJ{s:ByteArray}(h:¬s.size<1):¬s=⟨#[]⟩:=fun e=>h (by rw[e];exact Nat.zero_lt_one)


theorem wU(s:ByteArray):Q37 s=some (nameB s):=by
 have key:s.size≤32→Tot (zS s 0) (fun r=>match r with|.inl _=>s.data.toList.all (fun c=>oW c.toNat)=false|.inr _=>s.data.toList.all (fun c=>oW c.toNat)=true):=by
  intro h2
  refine T.lY s.size (by omega) (fun k v=>v=(k:Int)∧∀i (hi:i<s.size),i<k→oW s[i].toNat=true) _ ⟨rfl,fun i _ h=>absurd h (by omega)⟩ ?_ ?_
  ·rintro k v hk ⟨rfl,hv⟩
   have hc:oW s[k].toNat=(decide (33≤s[k].toNat)&&decide (s[k].toNat≤126)&&!(s[k].toNat==46)):=rfl
   have e46:((s[k].toNat:Int)==46)=(s[k].toNat==46):=by rw[Bool.eq_iff_iff];simp;omega
   simp only[ng,kH,kJ,Mo.den,aN,aG,aH,aK,aJ,iLt hk,cond_true,nJ s k hk,Option.bind_some]
   by_cases a1:s[k].toNat<33
   ·rw[decide_eq_true (show(s[k].toNat:Int)<33 by omega)]
    simp only[cond_true,Option.bind_some]
    exact T.ret (sJ s _ k hk (by rw[hc,decide_eq_false (show ¬33≤s[k].toNat by omega)];rfl))
   rw[decide_eq_false (show ¬(s[k].toNat:Int)<33 by omega)];simp only[cond_false,Option.bind_some]
   by_cases a2:126<s[k].toNat
   ·rw[decide_eq_true (show(126:Int)<(s[k].toNat:Int) by omega)]
    simp only[cond_true,Option.bind_some]
    exact T.ret (sJ s _ k hk (by rw[hc,decide_eq_false (show ¬s[k].toNat≤126 by omega),Bool.and_false];rfl))
   rw[decide_eq_false (show ¬(126:Int)<(s[k].toNat:Int) by omega),e46];simp only[cond_false,Option.bind_some]
   cases a3:s[k].toNat==46 with
   |true=>
    simp only[cond_true]
    exact T.ret (sJ s _ k hk (by rw[hc,a3,Bool.not_true,Bool.and_false]))
   |false=>
    simp only[cond_false]
    refine T.ret ⟨inc k (by omega),fun i hi hl=>?_⟩
    rcases Nat.lt_succ_iff_lt_or_eq.1 hl with h3|rfl
    ·exact hv i hi h3
    rw[hc,a3,decide_eq_true (show 33≤s[i].toNat by omega),decide_eq_true (show s[i].toNat≤126 by omega)];rfl
  rintro v ⟨rfl,hv⟩
  simp only[ng,Mo.den,aN,aG,aH,aK,aJ,ltn,cond_false]
  exact T.ret (LK s _ fun i hi=>hv i hi hi)
 unfold Q37 PI kS kT
 simp only[Mo.den,aN,aG,aH,aK,aJ]
 by_cases h0:s.size<1
 ·rw[decide_eq_true (show(s.size:Int)<1 by omega)]
  rw[Bz s (by omega)];rfl
 rw[decide_eq_false (show ¬(s.size:Int)<1 by omega)];simp only[cond_false]
 by_cases h1:32<s.size
 ·rw[decide_eq_true (show(32:Int)<(s.size:Int) by omega),Bv s h1];rfl
 rw[decide_eq_false (show ¬(32:Int)<(s.size:Int) by omega)];simp only[Option.bind_some,cond_false]
 have hz:kG s 0=some s[0]:=nJ s 0 (by omega)
 rw[hz,yA s (by omega) (by omega)]
 simp only[Option.bind_some]
 have e36:((s[0].toNat:Int)==36)=(s[0].toNat==36):=by rw[Bool.eq_iff_iff];simp;omega
 rw[e36]
 cases hq:s[0].toNat==36 with
 |true=>rfl
 |false=>
  obtain⟨r,h,hr⟩:=key (by omega)
  simp only[cond_false,Bool.not_false,Bool.true_and,h,Option.bind_some]
  rcases r with r|r
  ·have hr:_=false:=hr
   rw[hr];all_goals rfl
  have hr:_=true:=hr
  rw[hr];all_goals rfl

theorem oM(s:ByteArray):Q96 s=some (nameB s):=(show Q96 s=Q37 s by simp only[Q96,ain,JQ,kJ,kH,kT,kS,Mo.den,aN,aG,aH,aK,aJ,Q37,PI,zS,ng,kJ,kH,kT,kS,Mo.den,aN,aG,aH,aK,aJ]).trans (wU s)
theorem Kz(s:ByteArray):agZ s=some (nameB s):=(show agZ s=Q37 s by simp only[agZ,adk,Fq,kJ,kH,kT,kS,Mo.den,aN,aG,aH,aK,aJ,Q37,PI,zS,ng,kJ,kH,kT,kS,Mo.den,aN,aG,aH,aK,aJ]).trans (wU s)
theorem ZT(s:ByteArray):Q42 s=some (nameB s):=by
 rw[←wU s]
 have e:decide (s=(⟨#[]⟩:ByteArray))=decide ((s.size:Int)<1):=by
  by_cases h:s.size<1
  ·rw[decide_eq_true (size_nil h),decide_eq_true (by omega)]
  rw[decide_eq_false (XJ h),decide_eq_false (by omega)]
 simp only[Q42,aia,Ju,Jt,Js,Qr,Qq,Mo.den,aN,aG,aH,aK,aJ,Q37,PI,zS,ng,kJ,kH,kT,kS,Mo.den,aN,aG,aH,aK,aJ,e]

theorem ZU(s:ByteArray):Q6 s=some (!nameB s):=by
 have key:s.size≤32→Tot (abH s 0) (fun r=>match r with|.inl _=>s.data.toList.all (fun c=>oW c.toNat)=false|.inr _=>s.data.toList.all (fun c=>oW c.toNat)=true):=by
  intro h2
  refine T.lY s.size (by omega) (fun k v=>v=(k:Int)∧∀i (hi:i<s.size),i<k→oW s[i].toNat=true) _ ⟨rfl,fun i _ h=>absurd h (by omega)⟩ ?_ ?_
  ·rintro k v hk ⟨rfl,hv⟩
   have hc:oW s[k].toNat=(decide (33≤s[k].toNat)&&decide (s[k].toNat≤126)&&!(s[k].toNat==46)):=rfl
   have e46:((s[k].toNat:Int)==46)=(s[k].toNat==46):=by rw[Bool.eq_iff_iff];simp;omega
   simp only[zJ,kH,kJ,Mo.den,aN,aG,aH,aK,aJ,iLt hk,cond_true,nJ s k hk,Option.bind_some]
   by_cases a1:s[k].toNat<33
   ·rw[decide_eq_true (show(s[k].toNat:Int)<33 by omega)]
    simp only[cond_true,Option.bind_some]
    exact T.ret (sJ s _ k hk (by rw[hc,decide_eq_false (show ¬33≤s[k].toNat by omega)];rfl))
   rw[decide_eq_false (show ¬(s[k].toNat:Int)<33 by omega)];simp only[cond_false,Option.bind_some]
   by_cases a2:126<s[k].toNat
   ·rw[decide_eq_true (show(126:Int)<(s[k].toNat:Int) by omega)]
    simp only[cond_true,Option.bind_some]
    exact T.ret (sJ s _ k hk (by rw[hc,decide_eq_false (show ¬s[k].toNat≤126 by omega),Bool.and_false];rfl))
   rw[decide_eq_false (show ¬(126:Int)<(s[k].toNat:Int) by omega),e46];simp only[cond_false,Option.bind_some]
   cases a3:s[k].toNat==46 with
   |true=>
    simp only[cond_true]
    exact T.ret (sJ s _ k hk (by rw[hc,a3,Bool.not_true,Bool.and_false]))
   |false=>
    simp only[cond_false]
    refine T.ret ⟨inc k (by omega),fun i hi hl=>?_⟩
    rcases Nat.lt_succ_iff_lt_or_eq.1 hl with h3|rfl
    ·exact hv i hi h3
    rw[hc,a3,decide_eq_true (show 33≤s[i].toNat by omega),decide_eq_true (show s[i].toNat≤126 by omega)];rfl
  rintro v ⟨rfl,hv⟩
  simp only[zJ,Mo.den,aN,aG,aH,aK,aJ,ltn,cond_false]
  exact T.ret (LK s _ fun i hi=>hv i hi hi)
 unfold Q6 alz kS kT
 simp only[Mo.den,aN,aG,aH,aK,aJ]
 by_cases h0:s.size<1
 ·rw[decide_eq_true (show(s.size:Int)<1 by omega)]
  rw[Bz s (by omega)];rfl
 rw[decide_eq_false (show ¬(s.size:Int)<1 by omega)];simp only[cond_false]
 by_cases h1:32<s.size
 ·rw[decide_eq_true (show(32:Int)<(s.size:Int) by omega),Bv s h1];rfl
 rw[decide_eq_false (show ¬(32:Int)<(s.size:Int) by omega)];simp only[Option.bind_some,cond_false]
 have hz:kG s 0=some s[0]:=nJ s 0 (by omega)
 rw[hz,yA s (by omega) (by omega)]
 simp only[Option.bind_some]
 have e36:((s[0].toNat:Int)==36)=(s[0].toNat==36):=by rw[Bool.eq_iff_iff];simp;omega
 rw[e36]
 cases hq:s[0].toNat==36 with
 |true=>rfl
 |false=>
  obtain⟨r,h,hr⟩:=key (by omega)
  simp only[cond_false,Bool.not_false,Bool.true_and,h,Option.bind_some]
  rcases r with r|r
  ·have hr:_=false:=hr
   rw[hr];all_goals rfl
  have hr:_=true:=hr
  rw[hr];all_goals rfl


def hasB(n:ByteArray)(l:List ByteArray):Bool:=l.any fun m=>decide (n=m)
mutual
def aj.snd:aj→Bool
 |.mk k i s l d=>(Ey k i s l.length d.length&&Ez k i s)&&(aj.lZ l&&aF.lZ [] d)
def aj.lZ:List aj→Bool
 |[]=>true
 |x::r=>x.snd&&aj.lZ r
def aF.lZ:List ByteArray→List aF→Bool
 |_,[]=>true
 |seen,.mk n x::r=>(nameB n&&!hasB n seen)&&(x.snd&&aF.lZ (n::seen) r)
end
theorem Ar:∀l:List aj,aj.lZ l=l.all aj.snd
 |[]=>by unfold aj.lZ;rfl
 |x::r=>by unfold aj.lZ;rw[Ar r];rfl
def NJ(l:List ByteArray):List (ByteArray×Bool):=l.map fun n=>(n,true)
theorem KA(n:ByteArray):∀l:List ByteArray,uQ (NJ l) n false=hasB n l
 |[]=>rfl
 |x::r=>by
  show(if n=x then true else uQ (NJ r) n false)=(decide (n=x)||hasB n r)
  rw[KA n r]
  simp
theorem Gn(seen:List ByteArray)(n:ByteArray)(x:aj)(r:List aF):aF.lZ seen (.mk n x::r)=((nameB n&&!hasB n seen)&&(x.snd&&aF.lZ (n::seen) r)):=by rw[aF.lZ]
theorem ZV(seen:List ByteArray):aF.lZ seen []=true:=by rw[aF.lZ]
theorem yH(v:aj):v.snd=((Ey v.aB v.dG v.fText v.aX.length v.bC.length&&Ez v.aB v.dG v.fText)&&(aj.lZ v.aX&&aF.lZ [] v.bC)):=by
 cases v with
 |mk k i s l d=>rfl
theorem SE(R:RB5)(l:List aF)(hl:l.length≤100000000)(h1:∀x∈l,R.m1 x.fValue=some x.fValue.snd):Mo.den (WQ R l)=some (aF.lZ [] l):=by
 unfold WQ
 simp only[Mo.den,aN,aG,aH,aK,aJ]
 have key:Tot (WO R l 0 []) (fun r=>match r with|.inl _=>aF.lZ [] l=false|.inr _=>aF.lZ [] l=true):=by
  refine T.lY l.length (by omega) (fun k s=>∃m:List ByteArray,m.length=k∧s=((k:Int),NJ m)∧aF.lZ [] l=aF.lZ m (l.drop k)) _ ⟨[],rfl,rfl,rfl⟩ ?_ ?_
  ·rintro k s hk ⟨m,hm,rfl,he⟩
   have hx:=List.getElem?_eq_getElem hk
   have hdr:l.drop k=l[k]::l.drop (k+1):=List.drop_eq_getElem_cons hk
   have q1:=h1 l[k] (List.getElem_mem hk)
   rw[hdr] at he
   obtain⟨n,x⟩:∃n x,l[k]=aF.mk n x:=by cases l[k] with|mk n x=>exact⟨n,x,rfl⟩
   obtain⟨x,e⟩:=x
   rw[e] at q1 he
   rw[Gn] at he
   unfold wI
   simp only[PN,PO,Mo.den,aN,aG,aH,aK,aJ,ltt hx,gid hx,cond_true,Option.bind_some,e,aF.fName,aF.fValue,wU,KA]
   simp only[aF.fValue] at q1
   rw[q1]
   cases a:nameB n with
   |false=>rw[a] at he;exact T.ret (show _=false by rw[he];rfl)
   |true=>
    cases b:hasB n m with
    |true=>rw[a,b] at he;exact T.ret (show _=false by rw[he];rfl)
    |false=>
     cases c:x.snd with
     |false=>rw[a,b,c] at he;exact T.ret (show _=false by rw[he];rfl)
     |true=>
      rw[a,b,c] at he
      refine T.grd (by rw[NJ,List.length_map];unfold maxLen;omega) (T.ret ⟨n::m,by simp[hm],by rw[inc k (by omega)];rfl,by rw[he];rfl⟩)
  rintro s ⟨m,hm,rfl,he⟩
  rw[List.drop_length,ZV] at he
  unfold wI
  simp only[Mo.den,aN,aG,aH,aK,aJ,ltn,cond_false]
  exact T.ret he
 obtain⟨r,h,hr⟩:=key
 grind
theorem ZW(R:RB5)(v:aj)(hl:v.aX.length≤100000000)(h1:∀x∈v.aX,R.m1 x=some x.snd):Tot (WL R v 0) (fun r=>match r with|.inl _=>aj.lZ v.aX=false|.inr _=>aj.lZ v.aX=true):=by
 rw[Ar]
 refine T.lY v.aX.length (by omega) (fun k s=>s=(k:Int)∧(v.aX.take k).all aj.snd=true) _ ⟨rfl,by simp⟩ ?_ ?_
 ·rintro k s hk ⟨rfl,he⟩
  have hx:=List.getElem?_eq_getElem hk
  simp only[wH,Mo.den,aN,aG,aH,aK,aJ,ltt hx,gid hx,cond_true,Option.bind_some,h1 _ (List.getElem_mem hk)]
  cases c:v.aX[k].snd with
  |false=>exact T.ret (aeA _ hx c)
  |true=>exact T.ret ⟨inc k (by omega),by rw[Sr _ hx,he,c];rfl⟩
 rintro s ⟨rfl,he⟩
 simp only[wH,Mo.den,aN,aG,aH,aK,aJ,ltn,cond_false]
 rw[List.take_length] at he
 exact T.ret he
theorem Vk:∀(F:Nat) (v:aj),2*aU v.lf1≤F→aU v.lf1≤100000000→(uX F).m1 v=some v.snd:=by
 intro F
 induction F using Nat.strongRecOn with
 |_ F ih=>
 intro v hF hb
 have hp:=bZ v
 have hl:=gI v.aX
 have hd:=eY v.bC
 obtain⟨F,rfl⟩:∃G,F=G+2:=⟨F-2,by omega⟩
 show Mo.den (WM (uX (F+1)) v)=_
 have hL:=ZW (uX (F+1)) v (by omega) fun x hx=>ih (F+1) (by omega) x (by have:=iK hx;omega) (by have:=iK hx;omega)
 have hD:(uX (F+1)).m2 v.bC=some (aF.lZ [] v.bC):=SE (uX F) v.bC (by omega) fun x hx=>ih F (by omega) x.fValue (by have:=eH hx;rw[dR] at this;omega) (by have:=eH hx;rw[dR] at this;omega)
 obtain⟨r0,hL,hr0⟩:=hL
 clear ih hF hb hp hl hd
 rw[yH]
 unfold WM
 simp only[PK,PL,IV,IW,IX,IY,IZ,I7,I8,I9,Ja,Jb,Jc,Mo.den,aN,aG,aH,aK,aJ,hL,hD,alo]
 clear hL hD
 generalize v.aB=k at *
 generalize v.dG=i at *
 generalize v.fText=s at *
 generalize v.aX=l at *
 generalize v.bC=d at *
 unfold Ey Ez
 have ei:(i != 0)=!(i==0):=rfl
 have es:∀dd:Decidable (s=(⟨#[]⟩:ByteArray)),@decide _ dd=decide (s.size=0):=fun dd=>by
  by_cases h:s.size=0
  ·rw[decide_eq_true h,decide_eq_true (size_nil (by omega))]
  rw[decide_eq_false h,decide_eq_false (XJ (by omega))]
 have el:decide ((0:Int)<(l.length:Int))=!(l.length==0):=by
  cases l with
  |nil=>rfl
  |cons x r=>simp
 have ed:decide ((0:Int)<(d.length:Int))=!(d.length==0):=by
  cases d with
  |nil=>rfl
  |cons x r=>simp
 simp only[ei,es,el,ed]
 have e4:decide ((s.size:Int)≤4096)=decide (s.size≤4096):=by rw[Bool.eq_iff_iff];simp;omega
 have e12:((s.size:Int)==12)=decide (s.size=12):=by rw[Bool.eq_iff_iff];simp;omega
 simp only[e4,e12]
 have hl0:(l.length==0)=true→aj.lZ l=true:=fun h=>by
  have:l=[]:=List.eq_nil_of_length_eq_zero (by simpa using h)
  rw[this];unfold aj.lZ;rfl
 have hd0:(d.length==0)=true→aF.lZ [] d=true:=fun h=>by
  have:d=[]:=List.eq_nil_of_length_eq_zero (by simpa using h)
  rw[this];unfold aF.lZ;rfl
 clear ei es el ed e4 e12
 generalize aj.lZ l=A at *
 generalize aF.lZ [] d=B at *
 generalize (l.length==0)=nl at *
 generalize (d.length==0)=nd at *
 generalize Wp s=u at *
 generalize decide (s.size≤4096)=c1 at *
 generalize decide (s.size=12)=c2 at *
 generalize decide (s.size=0)=c3 at *
 have hk:k=1∨k=2∨k=3∨k=4∨k=5∨k=6∨k=7∨k=8∨k=9∨k=10∨k=11∨(k≠1∧k≠2∧k≠3∧k≠4∧k≠5∧k≠6∧k≠7∧k≠8∧k≠9∧k≠10∧k≠11):=by omega
 rcases hk with rfl|rfl|rfl|rfl|rfl|rfl|rfl|rfl|rfl|rfl|rfl|⟨n1,n2,n3,n4,n5,n6,n7,n8,n9,n10,n11⟩
 case inr.inr.inr.inr.inr.inr.inr.inr.inr.inr.inr=>
  have f:∀c:Int,k≠c→(k==c)=false:=fun c h=>by simpa using h
  simp only[bne,f _ n1,f _ n2,f _ n3,f _ n4,f _ n5,f _ n6,f _ n7,f _ n8,f _ n9,f _ n10,f _ n11]
  simp only[n1,n2,n3,n4,n5,n6,n7,n8,n9,n10,n11,or_self,if_false,decide_false]
  cases nl<;>cases nd<;>cases c3<;>cases (i==0)<;>rfl
 all_goals (rcases r0 with r0|r0<;>(have hr0:A=_:=hr0;subst hr0))
 all_goals simp(decide:=true) only[if_true,if_false]
 all_goals (cases nl<;>cases nd<;>cases c3<;>cases (i==0)<;>first|rfl|skip)
 all_goals (first|(cases B<;>first|rfl|(exact absurd (hl0 rfl) (by decide))|(exact absurd (hd0 rfl) (by decide))|skip)|skip)
 all_goals (cases u<;>cases c1<;>cases c2<;>first|rfl|(cases (i==1)<;>rfl)|(cases decide (0≤i)<;>rfl))
theorem ZX(v:aj)(hb:aU v.lf1≤100000000):Q10 v=some v.snd:=Vk FU v (by have:=gq;omega) hb
def BU(v:aj):Bool:=decide (v.cnt≤1024)&&(decide (v.dep≤16)&&v.snd)
theorem KC(v:aj)(hb:aU v.lf1≤100000000):Q90 v=some (BU v):=by
 simp only[Q90,ahX,Mo.den,aN,aG,aH,aK,aJ,ZQ v hb,ZR v hb,ZX v hb,Option.bind_some,BU]
 grind
end Go.Proofs.YtpdlghcgekojlaaGreatDoor
