/- batch: the contract. -/
import Derived.Test.YtpdlghcgekojlaaGreatDoorQG7
import Derived.Test.YtpdlghcgekojlaaGreatDoorQG5
import Derived.Test.YtpdlghcgekojlaaGreatDoorQGName
import Derived.Test.YtpdlghcgekojlaaGreatDoorQG4
set_option linter.unusedSimpArgs false
set_option linter.unusedVariables false
namespace Go.Proofs.YtpdlghcgekojlaaGreatDoor
open Go.RowKit
theorem JK(k0:Nat)(Hl:List Slot):∀(H:List Slot) (k:Nat),oldH [] k0 Hl k H=H
 |[],_=>rfl
 |s::r,k=>by
  unfold oldH
  rw[JK k0 Hl r (k+1)]
  rfl
theorem ad8{c:Ctx}(hc:c.Ok){e:Env}{C:Nat→List Value}{H:List Slot}{w:World}(hM:Mem c e C H w):∃e' C',Mem c e' C' (H++[.res (qp [] (.slice none 0 0)) none]) w∧e.le e':=by
 obtain⟨el,Cl,elI,hML,hren,hback⟩:=hM.via hc (bs:=[]) (Hl:=[.res (qp [] (.slice none 0 0)) none]) rfl rfl rfl rfl
 have hl:lg [] H=[]:=rfl
 rw[hl] at hML hback
 have hno:∀b,¬el.ok b:=fun b hb=>by have:=hML.bound b hb;simp at this
 obtain⟨e',C',hMem,hK,_,_⟩:=hback { ok:=fun b=>b=0,m:=el.m,sv:=el.sv,I:=el.I,im:=el.im,fp:=fun _ _=>False } Cl w
  ⟨⟨fun b hb=>(hno b hb).elim,fun b hb=>(hno b hb).elim,fun b hb=>(hno b hb).elim,Le.refl _,fun b hb=>(hno b hb).elim⟩,Only.refl _ _,fun b o v m1 m2=>(by have m2:el.I b o=none:=m2;rw[m2] at m1;cases m1),fun x ⟨b,s,hs,hx⟩=>(by obtain⟨rfl,rfl⟩:=jM hs;exact hx.elim)⟩
  ⟨fun b s hs=>(by obtain⟨rfl,rfl⟩:=jM hs;rfl),fun b s hs=>(by obtain⟨rfl,rfl⟩:=jM hs;exact⟨undef,⟨World.ownsRow_nil w 0 1 1,fun x=>⟨False.elim,fun h=>by cases h⟩⟩,fun _ h=>by cases h⟩),fun b hb=>(by have hb:b=0:=hb;subst hb;exact Nat.zero_lt_one),fun b b' s s' g h1 h2 k1 k2=>(by rw[(jM h1).1,(jM h2).1]),fun b s g hs hg=>(by obtain⟨rfl,rfl⟩:=jM hs;exact hg.elim),hML.inv⟩
 refine⟨e',C',?_,hK.le⟩
 unfold newH at hMem
 rw[JK] at hMem
 exact hMem
set_option maxRecDepth 20000 in
theorem ad9{nt:Nat}{e:Env}{w:World}{a:Int}{q:List aj}{d:bg}{x:List (ByteArray×ah)}{z:List (ByteArray×au)}{hk:∀b,e.ok b→b<4}{e':Env}{C':Nat→List Value}{q':List aj}{d':bg}{R:List Slot}{w':World}
 (hM:Mem (mkC Tryz.prog GI TTc nt (k0:=4) ⟨w,e.I,blks e (H4 a q d x z),e,hk,[]⟩) e' C' (H4 a q' d' x z++R) w'):∃e2,GrH e (H4 a q d x z) e2 (H4 a q' d' x z) w w'∧mJ e2 C' (H4 a q' d' x z) w':=by
 have hc:(mkC Tryz.prog GI TTc nt (k0:=4) ⟨w,e.I,blks e (H4 a q d x z),e,hk,[]⟩).Ok:=(jC.full nt _).toOk
 have hR:Rep (mkC Tryz.prog GI TTc nt (k0:=4) ⟨w,e.I,blks e (H4 a q d x z),e,hk,[]⟩) e' C' ⟨[],H4 a q' d' x z++R⟩ ⟨(List.replicate nt undef).toArray,[]⟩ w':=⟨fun t v h=>(by cases h),by simp[mkC],rfl,hM⟩
 have h2:=rV hc (keys:=[]) (k:=4) (st':=⟨[],H4 a q' d' x z⟩) rfl hR
 exact⟨_,amS h2.mem⟩
noncomputable def ahP(l:List ay)(t:Int)(a:Int)(q:List aj)(d:bg)(x:List (ByteArray×ah))(z:List (ByteArray×au)):Option (Int×List aj×bg):=
 bif Nat.ble ((l.length+1)*8) 140737488355328 then yE a x z t l [] q d else none
set_option maxRecDepth 100000 in
set_option maxHeartbeats 4000000 in
theorem ahQ(l:List ay)(t:Int)(a:Int)(q:List aj)(d:bg)(x:List (ByteArray×ah))(z:List (ByteArray×au))(r:Int×List aj×bg)(h:ahP l t a q d x z=some r):
 FnH Tryz.prog GI 71 [.ptr 0 0,.lf (.rows 78 (l.map ay.lf)),.lf (.int .i64 t)] [.box 113 (.agg [.lf (.int .i64 a),.lf (.rows 25 (q.map aj.lf)),.mp 1,.mp 2,.mp 3]),.res (bD d none) none,.res (bP x) none,.res (bT z) none] (.lf (.int .i64 r.1))
  [.box 113 (.agg [.lf (.int .i64 a),.lf (.rows 25 (r.2.1.map aj.lf)),.mp 1,.mp 2,.mp 3]),.res (bD r.2.2 none) none,.res (bP x) none,.res (bT z) none]:=by
 obtain⟨err,q',d'⟩:=r
 change FnH Tryz.prog GI 71 _ (H4 a q d x z) _ (H4 a q' d' x z)
 unfold ahP at h
 cases hg:Nat.ble ((l.length+1)*8) 140737488355328 with
 |false=>rw[hg] at h;cases h
 |true=>
 rw[hg] at h
 have hbig:=Nat.le_of_ble_eq_true hg
 have hb:yE a x z t l [] q d=some (err,q',d'):=h
 refine⟨by kernel_rfl,fun e C w ws hG hM hvs=>?_⟩
 obtain⟨u,v,y,rfl,hu,hv,hy⟩:=MR hvs
 obtain⟨rfl,ht⟩:=hy.int
 obtain⟨ad,cp,hve,hc1,hc2⟩:=LRp.slice (VR.lf.1 hv)
 rw[List.length_map] at hve hc1
 have hll:l.length≤maxLen:=Nat.le_trans hc1 hc2
 have hk:∀b,e.ok b→b<4:=fun b hb=>hM.bound b hb
 have hM1:=aiY (nt:=Tryz.f71.ntmps) (k0:=4) (hk:=hk) hM hG
 have hc:(mkC Tryz.prog GI TTc Tryz.f71.ntmps (k0:=4) ⟨w,e.I,blks e (H4 a q d x z),e,hk,[]⟩).Ok:=(jC.full _ _).toOk
 obtain⟨e1,C1,hM2,hle⟩:=ad8 hc hM1
 subst hve
 have HU:=Go.Lib.hid hu
 have HV:=Go.Lib.hid hv
 have HM2:=Go.Lib.hid hM2
 have HB:=Go.Lib.hid hb
 have HC:=Go.Lib.hid hc
 have HT:=Go.Lib.hid ht
 have HL:=Go.Lib.hid hle
 have HLL:=Go.Lib.hid hll
 have HBG:=Go.Lib.hid hbig
 clear hu hv hM2 hb hc ht hle hM hM1 hG hvs h hg hc1 hc2 hbig hll
 go_enter Tryz.func71,Tryz.ntmps71
 go_wp2
 refine LoopIn.loop ?_
 refine ZF HC.out rfl rfl a x z t HT.out l HLL.out HBG.out err q' d' _ ?_ ?_ l.length 0 (by omega) [] [] [] (.slice none 0 0) q d e1 C1 w _ rfl rfl ⟨u,rfl,VR.mono HL.out _ _ HU.out⟩ rfl rfl ⟨_,rfl,VR.mono HL.out _ _ HV.out⟩ rfl rfl HM2.out rfl rfl (fun m u hm=>by simp at hm) HB.out
 ·intro h0 ac' w' e' C' R' hsz hdf hM'
  subst h0
  obtain⟨e2,g1,g2⟩:=ad9 hM'
  have HG1:=Go.Lib.hid g1
  have HG2:=Go.Lib.hid g2
  clear hM' g1 g2
  obtain⟨⟨tm⟩,df⟩:=ac'
  obtain⟨x0,x1,x2,x3,x4,x5,x6,x7,x8,x9,x10,x11,x12,x13,x14,x15,x16,x17,x18,x19,x20,x21,x22,x23,x24,x25,x26,x27,x28,x29,x30,x31,x32,x33,x34,x35,x36,x37,x38,x39,x40,x41,x42,x43,x44,x45,rfl⟩:=uU tm (by simpa using hsz)
  obtain rfl:df=[]:=hdf
  simp only[Exit.inBlock,Exit.then]
  go_wp2
  go_ret
  exact⟨e2,C',_,rfl,HG1.out,HG2.out,VR.lf.2 (by unfold LRp;exact⟨rfl,rfl⟩)⟩
 intro ac' w' e' C' R' hwf hdf h6 hM'
 obtain⟨e2,g1,g2⟩:=ad9 hM'
 simp only[Exit.inBlock,Exit.then]
 refine bodyPost_ret (results_tmp rfl _ _ _) hdf ?_
 have h6:ac'.tmps.getD 6 undef=.int .i64 err:=by simp[Array.getD_eq_getD_getElem?,h6]
 rw[h6]
 exact⟨e2,C',_,rfl,g1,g2,VR.lf.2 (by unfold LRp;exact⟨rfl,hwf⟩)⟩
end Go.Proofs.YtpdlghcgekojlaaGreatDoor
namespace Go.Proofs.YtpdlghcgekojlaaGreatDoor
open Go.RowKit
set_option maxRecDepth 20000
set_option maxHeartbeats 4000000
noncomputable section
noncomputable def Ae(p_v:ak):(Int×(List ak))→Mo ((Int×(List ak))⊕((List ak))):=fun(v0,l0)=>
 .nu p_v.bC ak.lf<|
 .iB (decide ((v0:Int)<(p_v.bC.length:Int))) (.gx ak.aX p_v.bC v0 fun x0 _=>
 .say [.rows ((l0++[x0]).map ak.lf)] (ok1 (ap_ ak.aX l0 x0))<|
 .grd ((l0.length+[x0].length)*80≤140737488355328) fun h0=>
 .say [] (ok1 (cp_ ak.lf h0))<|
 .ret ⟨[],[1,3,4],[(3,1)],2⟩ (.inl (IntKind.wrap .i64 (v0+1),l0++[x0])))<|
 .rt [1,3] 2 (.inr (l0))
noncomputable def VE(p_v:ak)(v0:Int)(l0:List ak):Option (((List ak))):=dh (fun v_=>(Ae p_v v_).den) FU (v0,l0)
noncomputable def QY(p_v:ak):Mo (((List ak))):=
 .iB (p_v.aH==6) (.say [] (ok1 (by simp[ak.aX]:(([]:List ak).map ak.lf)=[]))<|
 .l1m [.lu 1 (([]:List ak).map ak.lf)] Tryz.f166 0 [1,1,0,1,0,1,0] 0 (.exit 0) (fun(v0,l0)=>⟨[(1,.ptr 0 0),(3,.own 1),(4,.i_ v0)],[bF p_v,.row 40 5 (l0.map ak.lf)]⟩) (fun r_=>⟨[(1,.ptr 0 0),(3,.own 1)],[bF p_v,.row 40 5 (r_.map ak.lf)]⟩) (VE p_v 0 ([]:List ak)) (Ae p_v) (0,([]:List ak)) fun r0=>
 .rt [1,3] 2 (r0))<|
 .say [] (ok1 (by simp[ak.aX]:(([]:List ak).map ak.lf)=[]))<|
 .ret ⟨[.lu 1 (([]:List ak).map ak.lf)],[1,3],[],2⟩ (([]:List ak))
noncomputable def wG(p_v:ak):(Int×(List ak))→Mo ((Int×(List ak))⊕((List ak))):=fun(v0,l0)=>
 .nu p_v.bG aB.lf<|
 .iB (decide ((v0:Int)<(p_v.bG.length:Int))) (.gx aB.aX p_v.bG v0 fun x0 _=>
 .say [.rows ((l0++[x0.fValue]).map ak.lf)] (ok1 (ap_ ak.aX l0 x0.fValue))<|
 .grd ((l0.length+[x0.fValue].length)*80≤140737488355328) fun h0=>
 .say [] (ok1 (cp_ ak.lf h0))<|
 .ret ⟨[],[1,3,5],[(3,1)],2⟩ (.inl (IntKind.wrap .i64 (v0+1),l0++[x0.fValue])))<|
 .ret ⟨[.kill 0],[3],[],2⟩ (.inr (l0))
noncomputable def NQ(p_v:ak)(v0:Int)(l0:List ak):Option (((List ak))):=dh (fun v_=>(wG p_v v_).den) FU (v0,l0)
noncomputable def JL(p_v:ak)(r0:((List ak))):Mo (((List ak))):=
 .iB (p_v.aH==5) (.l1m [] Tryz.f166 0 [1,1,1,0,1,0,1,0] 0 (.exit 2) (fun(v0,l0)=>⟨[(1,.ptr 0 0),(3,.own 1),(5,.i_ v0)],[bF p_v,.row 40 5 (l0.map ak.lf)]⟩) (fun r_=>⟨[(3,.own 1)],[.dead,.row 40 5 (r_.map ak.lf)]⟩) (NQ p_v 0 r0) (wG p_v) (0,r0) fun r1=>
 .rt [3] 2 (r1))<|
 .ret ⟨[.kill 0],[3],[],2⟩ (r0)
noncomputable def aiZ(p_v:ak):Mo (List ak):=
 .jy [.yj 3 40 5] Tryz.f166 0 [1,1,0,1] 1 (.normal) (fun r_=>⟨[(1,.ptr 0 0),(3,.own 1)],[bF p_v,.row 40 5 (r_.map ak.lf)]⟩) ⟨[(1,.ptr 0 0),(3,.own 1),(8,.lf (.bool (p_v.aH==6)))],[bF p_v,.row 40 5 []]⟩ (QY p_v) fun r0=>
 .jk Tryz.f166 0 [1,1,1,0,1] 1 (fun r_=>⟨[(3,.own 1)],[.dead,.row 40 5 (r_.map ak.lf)]⟩) ⟨[(1,.ptr 0 0),(3,.own 1),(26,.lf (.bool (p_v.aH==5)))],[bF p_v,.row 40 5 (r0.map ak.lf)]⟩ (JL p_v r0) fun r1=>
 .say [.at_ 0 0,.frz 1] ok0<|
 .ret (bn 1) (r1)
noncomputable def Q17(p_v:ak):Option (List ak):=Mo.den (aiZ p_v)
theorem aea(p_v:ak):FV (Q17 p_v) 166 [.dat (ak.lf1 p_v)] (fun r=>.lf (.rows 5 (r.map ak.lf))):=dI Tryz.func166
abbrev NR(m:ak→Int→Option (Int)):Prop:=∀p_v p_most,FV (m p_v p_most) 102 [.dat (ak.lf1 p_v),.i_ p_most] .i_
structure aeb where
 m1:(p_v:ak)→(p_most:Int)→Option (Int)
 ok1:NR m1
noncomputable def QZ(R_:aeb)(p_most:Int)(r0:List ak):Mo (Bool):=
 .iG 6002 (decide ((p_most:Int)<2)) (.rt [1,5,16] 1 (true))<|
 .nu r0 ak.lf<|
 .rt [1,5,16] 1 ((r0.length:Int)==0)
noncomputable def Fj(R_:aeb)(p_most:Int)(r0:List ak):(Int×Int)→Mo ((Int×Int)⊕(Int)):=fun(v0,v1)=>
 .nu r0 ak.lf<|
 .iB (decide ((v1:Int)<(r0.length:Int))) (.gx ak.aX r0 v1 fun x0 _=>
 .cl (R_.ok1 x0 (IntKind.wrap .i64 (p_most-1))) fun r1 _=>
 .rt [1,5,6,7] 1 (.inl ((if r1 > v0 then r1 else v0),IntKind.wrap .i64 (v1+1))))<|
 .rt [6] 1 (.inr (v0))
noncomputable def aec(R_:aeb)(p_v:ak)(p_most:Int):Mo (Int):=
 .cl (aea p_v) fun r0 _=>
 .jy [.kill 0] Tryz.f102 0 [1,1,0,0] 11 (.normal) (fun r_=>⟨[(1,.i_ p_most),(5,.lf (.rows 5 (r0.map ak.lf))),(16,.b_ r_)],[.dead]⟩) ⟨[(1,.i_ p_most),(5,.lf (.rows 5 (r0.map ak.lf)))],[.dead]⟩ (QZ R_ p_most r0) fun r1=>
 .iB (r1) (.ret (bn 1) (1))<|
 .l1 Tryz.f102 0 [1,1,1,1,0,1,0] 0 (.exit 0) (fun(v0,v1)=>⟨[(1,.i_ p_most),(5,.lf (.rows 5 (r0.map ak.lf))),(6,.i_ v0),(7,.i_ v1)],[.dead]⟩) (fun r_=>⟨[(6,.i_ r_)],[.dead]⟩) (Fj R_ p_most r0) (0,0) fun r2=>
 .ret (bn 1) (IntKind.wrap .i64 (r2+1))
theorem ahR(R_:aeb):NR fun p_v p_most=>Mo.den (aec R_ p_v p_most):=fun _ _=>dI Tryz.func102
noncomputable def BP:Nat→aeb
 |0=>{ m1:=fun p_v p_most=>none,ok1:=fun _ _ _ h=>(by cases h) }
 |n_+1=>{ m1:=fun p_v p_most=>Mo.den (aec (BP n_) p_v p_most),ok1:=ahR (BP n_) }
noncomputable def Q55(p_v:ak)(p_most:Int):Option (Int):=(BP FU).m1 p_v p_most
theorem akG:NR Q55:=(BP FU).ok1
noncomputable def aed(p_v:ak):Mo (Int):=
 .cl (akG p_v 17) fun r0 _=>
 .ret (bn 1) (r0)
noncomputable def akH(p_v:ak):Option (Int):=Mo.den (aed p_v)
theorem ahS(p_v:ak):FV (akH p_v) 64 [.dat (ak.lf1 p_v)] .i_:=dI Tryz.func64
abbrev NS(m:ak→Int→Option (Int)):Prop:=∀p_v p_most,FV (m p_v p_most) 103 [.dat (ak.lf1 p_v),.i_ p_most] .i_
structure aee where
 m1:(p_v:ak)→(p_most:Int)→Option (Int)
 ok1:NS m1
noncomputable def Fp(R_:aee)(p_most:Int)(r0:List ak)(v0:Int)(v1:Int):Mo (Bool):=
 .nu r0 ak.lf<|
 .aV 10004 (decide ((v1:Int)<(r0.length:Int))) [1,5,6,7,18] 1 (decide ((v0:Int)<p_most))
noncomputable def Fq(R_:aee)(p_most:Int)(r0:List ak):(Int×Int)→Mo ((Int×Int)⊕(Int)):=fun(v0,v1)=>
 .jk Tryz.f103 0 [1,1,1,0,1,0,0,0,0] 15 (fun r_=>⟨[(1,.i_ p_most),(5,.i_ v0),(6,.lf (.rows 5 (r0.map ak.lf))),(7,.i_ v1),(18,.b_ r_)],[.dead]⟩) ⟨[(1,.i_ p_most),(5,.i_ v0),(6,.lf (.rows 5 (r0.map ak.lf))),(7,.i_ v1)],[.dead]⟩ (Fp R_ p_most r0 v0 v1) fun r1=>
 .iB (r1) (.gx ak.aX r0 v1 fun x0 _=>
 .cl (R_.ok1 x0 (IntKind.wrap .i64 (p_most-v0))) fun r2 _=>
 .rt [1,5,6,7] 1 (.inl (IntKind.wrap .i64 (v0+r2),IntKind.wrap .i64 (v1+1))))<|
 .rt [5] 1 (.inr (v0))
noncomputable def XQ(R_:aee)(p_v:ak)(p_most:Int):Mo (Int):=
 .cl (aea p_v) fun r0 _=>
 .l1y [.kill 0] Tryz.f103 0 [1,1,1,0,1,0] 0 (.exit 0) (fun(v0,v1)=>⟨[(1,.i_ p_most),(5,.i_ v0),(6,.lf (.rows 5 (r0.map ak.lf))),(7,.i_ v1)],[.dead]⟩) (fun r_=>⟨[(5,.i_ r_)],[.dead]⟩) (Fq R_ p_most r0) (1,0) fun r1=>
 .ret (bn 1) (r1)
theorem ahT(R_:aee):NS fun p_v p_most=>Mo.den (XQ R_ p_v p_most):=fun _ _=>dI Tryz.func103
noncomputable def BQ:Nat→aee
 |0=>{ m1:=fun p_v p_most=>none,ok1:=fun _ _ _ h=>(by cases h) }
 |n_+1=>{ m1:=fun p_v p_most=>Mo.den (XQ (BQ n_) p_v p_most),ok1:=ahT (BQ n_) }
noncomputable def Q48(p_v:ak)(p_most:Int):Option (Int):=(BQ FU).m1 p_v p_most
theorem akI:NS Q48:=(BQ FU).ok1
noncomputable def aef(p_v:ak):Mo (Int):=
 .cl (akI p_v 1025) fun r0 _=>
 .ret (bn 1) (r0)
noncomputable def akJ(p_v:ak):Option (Int):=Mo.den (aef p_v)
theorem ahU(p_v:ak):FV (akJ p_v) 65 [.dat (ak.lf1 p_v)] .i_:=dI Tryz.func65
noncomputable def Rf(p_i:Int)(p_n:Int)(p_s:ByteArray)(v0:Int):Mo (Bool):=
 .ask (kG p_s (IntKind.wrap .i64 (p_i+v0))) fun b0 h0=>
 .say [.byt b0] (ok1 (fE h0))<|
 .iG 14006 (decide (((b0.toNat:Int):Int)<128)) (.rt [0,1,2,7,32] 0 (true))<|
 .ask (kG p_s (IntKind.wrap .i64 (p_i+v0))) fun b1 h1=>
 .say [.byt b1] (ok1 (fE h1))<|
 .rt [0,1,2,7,32] 0 (decide ((191:Int)<(b1.toNat:Int)))
noncomputable def Fv(p_i:Int)(p_n:Int)(p_s:ByteArray):(Int)→Mo ((Int)⊕(Unit⊕Unit)):=fun(v0)=>
 .iB (decide ((v0:Int)<p_n)) (.jk Tryz.f167 0 [1,1,0,1,0,0,1,0,0,0] 19 (fun r_=>⟨[(0,.lf (.str p_s)),(1,.i_ p_i),(2,.i_ p_n),(7,.i_ v0),(32,.b_ r_)],[]⟩) ⟨[(0,.lf (.str p_s)),(1,.i_ p_i),(2,.i_ p_n),(7,.i_ v0)],[]⟩ (Rf p_i p_n p_s v0) fun r0=>
 .iB (r0) (.rt [6] 0 (.inr (.inl ())))<|
 .rt [0,1,2,7] 0 (.inl (IntKind.wrap .i64 (v0+1))))<|
 .rt [] 0 (.inr (.inr (())))
noncomputable def ai0(p_s:ByteArray)(p_i:Int)(p_n:Int):Mo (Bool):=
 .iB (decide (((p_s.size:Int):Int)<(IntKind.wrap .i64 (p_i+p_n)))) (.ret (bn 1) (false))<|
 .l2 Tryz.f167 0 [1,1,0,1,0] 0 (fun(v0)=>⟨[(0,.lf (.str p_s)),(1,.i_ p_i),(2,.i_ p_n),(7,.i_ v0)],[]⟩) .ret (fun _=>⟨[(6,.b_ false)],[]⟩) (.exit 0) (fun _=>⟨[],[]⟩) (Fv p_i p_n p_s) (0) (fun o0=>
 .ret (bn 1) (false)) fun o1=>
 .ret (bn 1) (true)
noncomputable def Q71(p_s:ByteArray)(p_i:Int)(p_n:Int):Option (Bool):=Mo.den (ai0 p_s p_i p_n)
theorem akK(p_s:ByteArray)(p_i:Int)(p_n:Int):FV (Q71 p_s p_i p_n) 167 [.lf (.str p_s),.i_ p_i,.i_ p_n] .b_:=dI Tryz.func167
noncomputable def NT(b0:UInt8)(p_s:ByteArray)(v0:Int):Mo (Bool):=
 .aV 16002 (decide ((194:Int)≤(b0.toNat:Int))) [0,3,4,16] 0 (decide (((b0.toNat:Int):Int)≤223))
noncomputable def NU(b0:UInt8)(p_s:ByteArray)(v0:Int):Mo (Bool):=
 .aV 20002 (decide ((224:Int)≤(b0.toNat:Int))) [0,3,4,23] 0 (decide (((b0.toNat:Int):Int)≤239))
noncomputable def Fz(b0:UInt8)(p_s:ByteArray)(v0:Int):Mo (Bool):=
 .aV 24002 (decide ((240:Int)≤(b0.toNat:Int))) [0,3,4,30] 0 (decide (((b0.toNat:Int):Int)≤244))
noncomputable def FB(b0:UInt8)(p_s:ByteArray)(v0:Int):Mo ((Int)⊕Unit):=
 .iB (decide (((b0.toNat:Int):Int)<128)) (.rt [0,3,4,5] 0 (.inl (0)))<|
 .jk Tryz.f104 0 [1,0,1,0,0,1,0,1,1,0,0,1,1,0] 21 (fun r_=>⟨[(0,.lf (.str p_s)),(3,.i_ v0),(4,.lf (.int .u8 (b0.toNat:Int))),(16,.b_ r_)],[]⟩) ⟨[(0,.lf (.str p_s)),(3,.i_ v0),(4,.lf (.int .u8 (b0.toNat:Int)))],[]⟩ (NT b0 p_s v0) fun r0=>
 .iB (r0) (.rt [0,3,4,5] 0 (.inl (1)))<|
 .jk Tryz.f104 0 [1,0,1,0,0,1,0,1,1,0,0,1,1,1,1,0] 25 (fun r_=>⟨[(0,.lf (.str p_s)),(3,.i_ v0),(4,.lf (.int .u8 (b0.toNat:Int))),(23,.b_ r_)],[]⟩) ⟨[(0,.lf (.str p_s)),(3,.i_ v0),(4,.lf (.int .u8 (b0.toNat:Int)))],[]⟩ (NU b0 p_s v0) fun r1=>
 .iB (r1) (.rt [0,3,4,5] 0 (.inl (2)))<|
 .jk Tryz.f104 0 [1,0,1,0,0,1,0,1,1,0,0,1,1,1,1,1,1,0] 29 (fun r_=>⟨[(0,.lf (.str p_s)),(3,.i_ v0),(4,.lf (.int .u8 (b0.toNat:Int))),(30,.b_ r_)],[]⟩) ⟨[(0,.lf (.str p_s)),(3,.i_ v0),(4,.lf (.int .u8 (b0.toNat:Int)))],[]⟩ (Fz b0 p_s v0) fun r2=>
 .iB (r2) (.rt [0,3,4,5] 0 (.inl (3)))<|
 .rt [2] 0 (.inr (()))
noncomputable def FC(b0:UInt8)(o0:Int)(p_s:ByteArray)(v0:Int):Mo (Bool):=
 .iG 32002 ((b0.toNat:Int)==224) (.ask (kG p_s (IntKind.wrap .i64 (v0+1))) fun b1 h0=>
 .say [.byt b1] (ok1 (fE h0))<|
 .rt [0,3,4,5,51] 0 (decide (((b1.toNat:Int):Int)<160)))<|
 .rt [0,3,4,5,51] 0 (false)
noncomputable def FD(b0:UInt8)(o0:Int)(p_s:ByteArray)(r0:Bool)(v0:Int):Mo (Bool):=
 .iG 32009 (r0) (.rt [0,3,4,5,62] 0 (true))<|
 .iG 32012 ((b0.toNat:Int)==237) (.ask (kG p_s (IntKind.wrap .i64 (v0+1))) fun b1 h0=>
 .say [.byt b1] (ok1 (fE h0))<|
 .rt [0,3,4,5,62] 0 (decide ((159:Int)<(b1.toNat:Int))))<|
 .rt [0,3,4,5,62] 0 (false)
noncomputable def FI(b0:UInt8)(o0:Int)(p_s:ByteArray)(r0:Bool)(v0:Int):Mo (Bool):=
 .iG 32020 (r0) (.rt [0,3,4,5,73] 0 (true))<|
 .iG 32023 ((b0.toNat:Int)==240) (.ask (kG p_s (IntKind.wrap .i64 (v0+1))) fun b1 h0=>
 .say [.byt b1] (ok1 (fE h0))<|
 .rt [0,3,4,5,73] 0 (decide (((b1.toNat:Int):Int)<144)))<|
 .rt [0,3,4,5,73] 0 (false)
noncomputable def FK(b0:UInt8)(o0:Int)(p_s:ByteArray)(r0:Bool)(v0:Int):Mo (Bool):=
 .iG 32031 (r0) (.rt [0,3,5,84] 0 (true))<|
 .iG 32034 ((b0.toNat:Int)==244) (.ask (kG p_s (IntKind.wrap .i64 (v0+1))) fun b1 h0=>
 .say [.byt b1] (ok1 (fE h0))<|
 .rt [0,3,5,84] 0 (decide ((143:Int)<(b1.toNat:Int))))<|
 .rt [0,3,5,84] 0 (false)
noncomputable def qN(p_s:ByteArray):(Int)→Mo ((Int)⊕(Unit⊕Unit)):=fun(v0)=>
 .iB (decide ((v0:Int)<(p_s.size:Int))) (.ask (kG p_s v0) fun b0 h0=>
 .say [.byt b0] (ok1 (fE h0))<|
 .j2 [] Tryz.f104 0 [1,0,1,0,0,1,0,1,1,0] 10 .normal (fun o_=>⟨[(0,.lf (.str p_s)),(3,.i_ v0),(4,.lf (.int .u8 (b0.toNat:Int))),(5,.i_ o_)],[]⟩) .ret (fun _=>⟨[(2,.b_ false)],[]⟩) ⟨[(0,.lf (.str p_s)),(3,.i_ v0),(4,.lf (.int .u8 (b0.toNat:Int))),(5,.i_ 0)],[]⟩ (FB b0 p_s v0) (fun o0=>
 .cl (akK p_s (IntKind.wrap .i64 (v0+1)) o0) fun r0 _=>
 .iB (!r0) (.rt [2] 0 (.inr (.inl ())))<|
 .sf Tryz.f104 0 [1,0,1,0,0,1,0,1,1,1,1,0,0] 0 9 15 [(0,.lf (.str p_s)),(3,.i_ v0),(4,.lf (.int .u8 (b0.toNat:Int))),(5,.i_ o0)] [] 51 (FC b0 o0 p_s v0) fun r1=>
 .sb Tryz.f104 0 [1,0,1,0,0,1,0,1,1,1,1,0,0] 9 11 15 [(0,.lf (.str p_s)),(3,.i_ v0),(4,.lf (.int .u8 (b0.toNat:Int))),(5,.i_ o0)] [] 51 62 r1 (FD b0 o0 p_s r1 v0) fun r2=>
 .sb Tryz.f104 0 [1,0,1,0,0,1,0,1,1,1,1,0,0] 20 11 15 [(0,.lf (.str p_s)),(3,.i_ v0),(4,.lf (.int .u8 (b0.toNat:Int))),(5,.i_ o0)] [] 62 73 r2 (FI b0 o0 p_s r2 v0) fun r3=>
 .sk Tryz.f104 0 [1,0,1,0,0,1,0,1,1,1,1,0,0] 31 11 15 (fun r_=>⟨[(0,.lf (.str p_s)),(3,.i_ v0),(5,.i_ o0),(84,.b_ r_)],[]⟩) ⟨[(0,.lf (.str p_s)),(3,.i_ v0),(4,.lf (.int .u8 (b0.toNat:Int))),(5,.i_ o0),(73,.b_ r3)],[]⟩ (FK b0 o0 p_s r3 v0) fun r4=>
 .iB (r4) (.rt [2] 0 (.inr (.inl ())))<|
 .rt [0,3] 0 (.inl (IntKind.wrap .i64 ((IntKind.wrap .i64 (v0+o0))+1)))) fun o1=>
 .rt [2] 0 (.inr (.inl ())))<|
 .rt [] 0 (.inr (.inr (())))
noncomputable def ahV(p_s:ByteArray):Mo (Bool):=
 .l2 Tryz.f104 0 [1,0,1,0] 0 (fun(v0)=>⟨[(0,.lf (.str p_s)),(3,.i_ v0)],[]⟩) .ret (fun _=>⟨[(2,.b_ false)],[]⟩) (.exit 0) (fun _=>⟨[],[]⟩) (qN p_s) (0) (fun o0=>
 .ret (bn 1) (false)) fun o1=>
 .ret (bn 1) (true)
noncomputable def Q8(p_s:ByteArray):Option (Bool):=Mo.den (ahV p_s)
theorem amU(p_s:ByteArray):FV (Q8 p_s) 104 [.lf (.str p_s)] .b_:=dI Tryz.func104
noncomputable def JM(p_s:ByteArray)(v0:Int):Mo (Bool):=
 .ask (kG p_s v0) fun b0 h0=>
 .say [.byt b0] (ok1 (fE h0))<|
 .iG 14004 (decide (((b0.toNat:Int):Int)<33)) (.rt [0,3,32] 0 (true))<|
 .ask (kG p_s v0) fun b1 h1=>
 .say [.byt b1] (ok1 (fE h1))<|
 .rt [0,3,32] 0 (decide ((126:Int)<(b1.toNat:Int)))
noncomputable def JO(p_s:ByteArray)(r0:Bool)(v0:Int):Mo (Bool):=
 .iG 14010 (r0) (.rt [0,3,38] 0 (true))<|
 .ask (kG p_s v0) fun b0 h0=>
 .say [.byt b0] (ok1 (fE h0))<|
 .rt [0,3,38] 0 ((b0.toNat:Int)==46)
noncomputable def JQ(p_s:ByteArray):(Int)→Mo ((Int)⊕(Unit⊕Unit)):=fun(v0)=>
 .iB (decide ((v0:Int)<(p_s.size:Int))) (.sf Tryz.f162 0 [1,1,0,1,0,0,1,0,0,0] 0 10 6 [(0,.lf (.str p_s)),(3,.i_ v0)] [] 32 (JM p_s v0) fun r0=>
 .sb Tryz.f162 0 [1,1,0,1,0,0,1,0,0,0] 10 6 6 [(0,.lf (.str p_s)),(3,.i_ v0)] [] 32 38 r0 (JO p_s r0 v0) fun r1=>
 .iB (r1) (.rt [2] 0 (.inr (.inl ())))<|
 .rt [0,3] 0 (.inl (IntKind.wrap .i64 (v0+1))))<|
 .rt [] 0 (.inr (.inr (())))
noncomputable def ai1(p_s:ByteArray):Mo (Bool):=
 .sf Tryz.f162 0 [1,0,0] 0 8 1 [(0,.lf (.str p_s))] [] 11 (kW p_s) fun r0=>
 .sb Tryz.f162 0 [1,0,0] 8 5 1 [(0,.lf (.str p_s))] [] 11 16 r0 (kX p_s r0) fun r1=>
 .iB (r1) (.ret (bn 1) (false))<|
 .l2 Tryz.f162 0 [1,1,0,1,0] 0 (fun(v0)=>⟨[(0,.lf (.str p_s)),(3,.i_ v0)],[]⟩) .ret (fun _=>⟨[(2,.b_ false)],[]⟩) (.exit 0) (fun _=>⟨[],[]⟩) (JQ p_s) (0) (fun o0=>
 .ret (bn 1) (false)) fun o1=>
 .ret (bn 1) (true)
noncomputable def Q61(p_s:ByteArray):Option (Bool):=Mo.den (ai1 p_s)
theorem akL(p_s:ByteArray):FV (Q61 p_s) 162 [.lf (.str p_s)] .b_:=dI Tryz.func162
noncomputable def ZG(p_s:ByteArray):Mo (Bool):=
 .oV 4003 (decide (((p_s.size:Int):Int)<1)) [0,11] 0 (decide ((128:Int)<(p_s.size:Int)))
noncomputable def ZH(p_s:ByteArray)(v0:Int):Mo (Bool):=
 .ask (kG p_s v0) fun b0 h0=>
 .say [.byt b0] (ok1 (fE h0))<|
 .iG 14004 (decide (((b0.toNat:Int):Int)<32)) (.rt [0,3,27] 0 (true))<|
 .ask (kG p_s v0) fun b1 h1=>
 .say [.byt b1] (ok1 (fE h1))<|
 .rt [0,3,27] 0 (decide ((126:Int)<(b1.toNat:Int)))
noncomputable def VF(p_s:ByteArray):(Int)→Mo ((Int)⊕(Unit⊕Unit)):=fun(v0)=>
 .iB (decide ((v0:Int)<(p_s.size:Int))) (.jk Tryz.f168 0 [1,1,0,1,0,0,1,0,0,0] 19 (fun r_=>⟨[(0,.lf (.str p_s)),(3,.i_ v0),(27,.b_ r_)],[]⟩) ⟨[(0,.lf (.str p_s)),(3,.i_ v0)],[]⟩ (ZH p_s v0) fun r0=>
 .iB (r0) (.rt [2] 0 (.inr (.inl ())))<|
 .rt [0,3] 0 (.inl (IntKind.wrap .i64 (v0+1))))<|
 .rt [] 0 (.inr (.inr (())))
noncomputable def akM(p_s:ByteArray):Mo (Bool):=
 .jk Tryz.f168 0 [1,0,0] 9 (fun r_=>⟨[(0,.lf (.str p_s)),(11,.b_ r_)],[]⟩) ⟨[(0,.lf (.str p_s))],[]⟩ (ZG p_s) fun r0=>
 .iB (r0) (.ret (bn 1) (false))<|
 .l2 Tryz.f168 0 [1,1,0,1,0] 0 (fun(v0)=>⟨[(0,.lf (.str p_s)),(3,.i_ v0)],[]⟩) .ret (fun _=>⟨[(2,.b_ false)],[]⟩) (.exit 0) (fun _=>⟨[],[]⟩) (VF p_s) (0) (fun o0=>
 .ret (bn 1) (false)) fun o1=>
 .ret (bn 1) (true)
noncomputable def an0(p_s:ByteArray):Option (Bool):=Mo.den (akM p_s)
theorem ahW(p_s:ByteArray):FV (an0 p_s) 168 [.lf (.str p_s)] .b_:=dI Tryz.func168
abbrev NV(m:ak→Bool→Option (Bool)):Prop:=∀p_v p_names,FV (m p_v p_names) 66 [.dat (ak.lf1 p_v),.b_ p_names] .b_
abbrev XR(m:ak→Bool→Option (Bool)):Prop:=∀p_v p_names,FV (m p_v p_names) 105 [.dat (ak.lf1 p_v),.b_ p_names] .b_
structure nU where
 m1:(p_v:ak)→(p_names:Bool)→Option (Bool)
 ok1:NV m1
 m2:(p_v:ak)→(p_names:Bool)→Option (Bool)
 ok2:XR m2
noncomputable def XT(R_:nU)(p_names:Bool)(p_v:ak):Mo (Bool):=
 .iG 4003 (p_v.aH != 6) (.nu p_v.bC ak.lf<|
 .rt [1,2,16] 1 (decide ((0:Int)<(p_v.bC.length:Int))))<|
 .rt [1,2,16] 1 (false)
noncomputable def XU(R_:nU)(p_names:Bool)(p_v:ak)(r0:Bool):Mo (Bool):=
 .iG 4009 (r0) (.rt [1,2,27] 1 (true))<|
 .iG 4013 (p_v.aH != 5) (.nu p_v.bG aB.lf<|
 .rt [1,2,27] 1 (decide ((0:Int)<(p_v.bG.length:Int))))<|
 .rt [1,2,27] 1 (false)
noncomputable def Rh(R_:nU)(p_names:Bool)(p_v:ak):Mo (Bool):=
 .oV 8003 (p_v.aH==4) [1,2,35] 1 (p_v.aH==7)
noncomputable def Ri(R_:nU)(p_names:Bool)(p_v:ak)(r0:Bool):Mo (Bool):=
 .oV 8008 (r0) [1,2,40] 1 (p_v.aH==8)
noncomputable def Rj(R_:nU)(p_names:Bool)(p_v:ak)(r0:Bool):Mo (Unit):=
 .rt [1,2,5] 1 ()
noncomputable def Rk(R_:nU)(p_names:Bool)(p_v:ak)(r0:Bool):Mo (Bool):=
 .oV 10003 (p_v.aH==3) [1,2,5,48] 1 (p_v.aH==9)
noncomputable def Rl(R_:nU)(p_names:Bool)(p_v:ak)(r0:Bool)(r1:Bool):Mo (Bool):=
 .oV 10008 (r1) [1,2,5,53] 1 (p_v.aH==10)
noncomputable def Rn(R_:nU)(p_names:Bool)(p_v:ak)(r0:Bool)(r1:Bool):Mo (Unit):=
 .rt [1,2,5,6] 1 ()
noncomputable def Ro(R_:nU)(p_names:Bool)(p_v:ak)(r0:Bool)(r1:Bool):Mo (Bool):=
 .aV 12002 (!r0) [1,2,6,60] 1 (!decide ((p_v.fText:ByteArray)=(⟨#[]⟩:ByteArray)))
noncomputable def Rq(R_:nU)(p_names:Bool)(p_v:ak)(r0:Bool)(r1:Bool):Mo (Bool):=
 .iG 12007 (r1) (.rt [1,2,69] 1 (true))<|
 .aV 12010 (!r0) [1,2,69] 1 (p_v.dR != 0)
noncomputable def Rt(R_:nU)(p_names:Bool)(p_v:ak)(r0:Bool):Mo (Bool):=
 .oV 12016 (r0) [1,2,74] 1 (decide ((p_v.aH:Int)<1))
noncomputable def Ru(R_:nU)(p_names:Bool)(p_v:ak)(r0:Bool):Mo (Bool):=
 .oV 12021 (r0) [1,2,79] 1 (decide ((11:Int)<p_v.aH))
noncomputable def Rx(R_:nU)(p_v:ak):Mo (Bool):=
 .iG 20003 (p_v.dR==0) (.ret ⟨[.kill 0],[4],[],1⟩ (true))<|
 .ret ⟨[.kill 0],[4],[],1⟩ (p_v.dR==1)
noncomputable def Ry(R_:nU)(p_v:ak):Mo (Bool):=
 .iG 28004 (decide (((p_v.fText.size:Int):Int)≤4096)) (.cl (amU p_v.fText) fun r0 _=>
 .ret ⟨[.kill 0],[4],[],1⟩ (r0))<|
 .ret ⟨[.kill 0],[4],[],1⟩ (false)
noncomputable def Rz(R_:nU)(p_names:Bool)(p_v:ak):(Int)→Mo ((Int)⊕(Unit⊕Unit)):=fun(v0)=>
 .nu p_v.bC ak.lf<|
 .iB (decide ((v0:Int)<(p_v.bC.length:Int))) (.gx ak.aX p_v.bC v0 fun x0 _=>
 .cl (R_.ok1 x0 p_names) fun r0 _=>
 .iB (!r0) (.ret ⟨[.kill 0],[4],[],1⟩ (.inr (.inl ())))<|
 .rt [1,2,7] 1 (.inl (IntKind.wrap .i64 (v0+1))))<|
 .rt [1,2] 1 (.inr (.inr (())))
noncomputable def akN(R_:nU)(p_v:ak)(p_names:Bool):Mo (Bool):=
 .sf Tryz.f66 0 [1,0,0] 0 9 1 [(1,.b_ p_names),(2,.ptr 0 0)] [bF p_v] 16 (XT R_ p_names p_v) fun r0=>
 .sb Tryz.f66 0 [1,0,0] 9 11 1 [(1,.b_ p_names),(2,.ptr 0 0)] [bF p_v] 16 27 r0 (XU R_ p_names p_v r0) fun r1=>
 .iB (r1) (.ret (bn 1) (false))<|
 .sf Tryz.f66 0 [1,1,0] 0 8 3 [(1,.b_ p_names),(2,.ptr 0 0)] [bF p_v] 35 (Rh R_ p_names p_v) fun r2=>
 .sb Tryz.f66 0 [1,1,0] 8 5 3 [(1,.b_ p_names),(2,.ptr 0 0)] [bF p_v] 35 40 r2 (Ri R_ p_names p_v r2) fun r3=>
 .sk Tryz.f66 0 [1,1,0] 13 1 3 (fun r_=>⟨[(1,.b_ p_names),(2,.ptr 0 0),(5,.b_ r3)],[bF p_v]⟩) ⟨[(1,.b_ p_names),(2,.ptr 0 0),(40,.b_ r3)],[bF p_v]⟩ (Rj R_ p_names p_v r3) fun r4=>
 .sf Tryz.f66 0 [1,1,1,0] 0 8 4 [(1,.b_ p_names),(2,.ptr 0 0),(5,.b_ r3)] [bF p_v] 48 (Rk R_ p_names p_v r3) fun r5=>
 .sb Tryz.f66 0 [1,1,1,0] 8 5 4 [(1,.b_ p_names),(2,.ptr 0 0),(5,.b_ r3)] [bF p_v] 48 53 r5 (Rl R_ p_names p_v r3 r5) fun r6=>
 .sk Tryz.f66 0 [1,1,1,0] 13 1 4 (fun r_=>⟨[(1,.b_ p_names),(2,.ptr 0 0),(5,.b_ r3),(6,.b_ r6)],[bF p_v]⟩) ⟨[(1,.b_ p_names),(2,.ptr 0 0),(5,.b_ r3),(53,.b_ r6)],[bF p_v]⟩ (Rn R_ p_names p_v r3 r6) fun r7=>
 .sk Tryz.f66 0 [1,1,1,1,0,0] 0 7 5 (fun r_=>⟨[(1,.b_ p_names),(2,.ptr 0 0),(6,.b_ r6),(60,.b_ r_)],[bF p_v]⟩) ⟨[(1,.b_ p_names),(2,.ptr 0 0),(5,.b_ r3),(6,.b_ r6)],[bF p_v]⟩ (Ro R_ p_names p_v r3 r6) fun r8=>
 .sk Tryz.f66 0 [1,1,1,1,0,0] 7 9 5 (fun r_=>⟨[(1,.b_ p_names),(2,.ptr 0 0),(69,.b_ r_)],[bF p_v]⟩) ⟨[(1,.b_ p_names),(2,.ptr 0 0),(6,.b_ r6),(60,.b_ r8)],[bF p_v]⟩ (Rq R_ p_names p_v r6 r8) fun r9=>
 .sb Tryz.f66 0 [1,1,1,1,0,0] 16 5 5 [(1,.b_ p_names),(2,.ptr 0 0)] [bF p_v] 69 74 r9 (Rt R_ p_names p_v r9) fun r10=>
 .sb Tryz.f66 0 [1,1,1,1,0,0] 21 5 5 [(1,.b_ p_names),(2,.ptr 0 0)] [bF p_v] 74 79 r10 (Ru R_ p_names p_v r10) fun r11=>
 .iB (r11) (.ret (bn 1) (false))<|
 .iB (p_v.aH==9) (.jk Tryz.f66 0 [1,1,1,1,1,0,1,0,1,0,0] 25 (fun r_=>⟨[(4,.b_ r_)],[.dead]⟩) ⟨[(2,.ptr 0 0)],[bF p_v]⟩ (Rx R_ p_v) fun r12=>
 .ret (bn 1) (r12))<|
 .iB (p_v.aH==10) (.ret (bn 1) (decide ((0:Int)≤p_v.dR)))<|
 .iB (p_v.aH==4) (.jk Tryz.f66 0 [1,1,1,1,1,0,1,0,1,1,1,1,1,0,0] 33 (fun r_=>⟨[(4,.b_ r_)],[.dead]⟩) ⟨[(2,.ptr 0 0)],[bF p_v]⟩ (Ry R_ p_v) fun r13=>
 .ret (bn 1) (r13))<|
 .iB (p_v.aH==7) (.ret (bn 1) (decide (((p_v.fText.size:Int):Int)≤4096)))<|
 .iB (p_v.aH==8) (.ret (bn 1) ((p_v.fText.size:Int)==12))<|
 .l2 Tryz.f66 0 [1,1,1,1,1,1,0,1,0] 0 (fun(v0)=>⟨[(1,.b_ p_names),(2,.ptr 0 0),(7,.i_ v0)],[bF p_v]⟩) .ret (fun _=>⟨[(4,.b_ false)],[.dead]⟩) (.exit 1) (fun _=>⟨[(1,.b_ p_names),(2,.ptr 0 0)],[bF p_v]⟩) (Rz R_ p_names p_v) (0) (fun o0=>
 .ret (bn 1) (false)) fun o1=>
 .cl (R_.ok2 p_v p_names) fun r14 _=>
 .ret (bn 1) (r14)
theorem akO(R_:nU):NV fun p_v p_names=>Mo.den (akN R_ p_v p_names):=fun _ _=>dI Tryz.func66
noncomputable def RD(R_:nU)(p_names:Bool)(p_v:ak)(v0:Int)(x0:aB):Mo (Bool):=
 .iG 12001 (p_names) (.cl (akL x0.fName) fun r0 _=>
 .rt [1,2,5,6,26] 2 (!r0))<|
 .rt [1,2,5,6,26] 2 (false)
noncomputable def RF(R_:nU)(p_names:Bool)(p_v:ak)(r0:Bool)(v0:Int)(x0:aB):Mo (Bool):=
 .iG 12007 (r0) (.rt [1,2,5,6,36] 2 (true))<|
 .iG 12010 (!p_names) (.cl (ahW x0.fName) fun r1 _=>
 .rt [1,2,5,6,36] 2 (!r1))<|
 .rt [1,2,5,6,36] 2 (false)
noncomputable def JU(R_:nU)(p_names:Bool)(p_v:ak)(r0:Bool)(v0:Int)(x0:aB):Mo (Bool):=
 .iG 12017 (r0) (.rt [1,2,5,6,43] 2 (true))<|
 .cl (R_.ok1 x0.fValue p_names) fun r1 _=>
 .rt [1,2,5,6,43] 2 (!r1)
noncomputable def JV(R_:nU)(p_names:Bool)(p_v:ak)(v0:Int)(x0:aB):(Int)→Mo ((Int)⊕(Unit⊕Unit)):=fun(v1)=>
 .iB (decide ((v1:Int)<v0)) (.say [.order [(true,0),(true,1),(true,2),(true,3),(true,4),(true,5),(true,6),(true,7),(true,8)] none []] ok0<|
 .gx aB.aX p_v.bG v1 fun x1 _=>
 .iB (decide ((x1.fName:ByteArray)=(x0.fName:ByteArray))) (.ret ⟨[.kill 0,.kill 1],[4],[],2⟩ (.inr (.inl ())))<|
 .rt [1,2,5,6,7] 2 (.inl (IntKind.wrap .i64 (v1+1))))<|
 .ret ⟨[.kill 1],[1,2,5],[],2⟩ (.inr (.inr (())))
noncomputable def JW(R_:nU)(p_names:Bool)(p_v:ak):(Int)→Mo ((Int)⊕(Unit⊕Unit)):=fun(v0)=>
 .nu p_v.bG aB.lf<|
 .iB (decide ((v0:Int)<(p_v.bG.length:Int))) (.gx aB.aX p_v.bG v0 fun x0 _=>
 .sf Tryz.f105 0 [1,0,1,0,0,1,0,0,1,0,0] 0 7 5 [(1,.b_ p_names),(2,.ptr 0 0),(5,.i_ v0),(6,.ptr 1 0)] [bF p_v,.box 138 (.agg ((aB.lf1 x0).map AV.lf))] 26 (RD R_ p_names p_v v0 x0) fun r0=>
 .sb Tryz.f105 0 [1,0,1,0,0,1,0,0,1,0,0] 7 10 5 [(1,.b_ p_names),(2,.ptr 0 0),(5,.i_ v0),(6,.ptr 1 0)] [bF p_v,.box 138 (.agg ((aB.lf1 x0).map AV.lf))] 26 36 r0 (RF R_ p_names p_v r0 v0 x0) fun r1=>
 .sb Tryz.f105 0 [1,0,1,0,0,1,0,0,1,0,0] 17 7 5 [(1,.b_ p_names),(2,.ptr 0 0),(5,.i_ v0),(6,.ptr 1 0)] [bF p_v,.box 138 (.agg ((aB.lf1 x0).map AV.lf))] 36 43 r1 (JU R_ p_names p_v r1 v0 x0) fun r2=>
 .iB (r2) (.ret ⟨[.kill 0],[4],[],1⟩ (.inr (.inl ())))<|
 .l2 Tryz.f105 0 [1,0,1,0,0,1,0,0,1,1,1,0] 0 (fun(v1)=>⟨[(1,.b_ p_names),(2,.ptr 0 0),(5,.i_ v0),(6,.ptr 1 0),(7,.i_ v1)],[bF p_v,.box 138 (.agg ((aB.lf1 x0).map AV.lf))]⟩) .ret (fun _=>⟨[(4,.b_ false)],[.dead,.dead]⟩) (.exit 2) (fun _=>⟨[(1,.b_ p_names),(2,.ptr 0 0),(5,.i_ v0)],[bF p_v,.dead]⟩) (JV R_ p_names p_v v0 x0) (0) (fun o0=>
 .rt [4] 1 (.inr (.inl ()))) fun o1=>
 .rt [1,2,5] 1 (.inl (IntKind.wrap .i64 (v0+1))))<|
 .ret ⟨[.kill 0],[],[],1⟩ (.inr (.inr (())))
noncomputable def aeg(R_:nU)(p_v:ak)(p_names:Bool):Mo (Bool):=
 .l2 Tryz.f105 0 [1,0,1,0] 0 (fun(v0)=>⟨[(1,.b_ p_names),(2,.ptr 0 0),(5,.i_ v0)],[bF p_v]⟩) .ret (fun _=>⟨[(4,.b_ false)],[.dead]⟩) (.exit 0) (fun _=>⟨[],[.dead]⟩) (JW R_ p_names p_v) (0) (fun o0=>
 .ret (bn 1) (false)) fun o1=>
 .ret (bn 1) (true)
theorem ahX(R_:nU):XR fun p_v p_names=>Mo.den (aeg R_ p_v p_names):=fun _ _=>dI Tryz.func105
noncomputable def oQ:Nat→nU
 |0=>{ m1:=fun p_v p_names=>none,ok1:=fun _ _ _ h=>(by cases h),m2:=fun p_v p_names=>none,ok2:=fun _ _ _ h=>(by cases h) }
 |n_+1=>{ m1:=fun p_v p_names=>Mo.den (akN (oQ n_) p_v p_names),ok1:=akO (oQ n_),m2:=fun p_v p_names=>Mo.den (aeg (oQ n_) p_v p_names),ok2:=ahX (oQ n_) }
noncomputable def Q5(p_v:ak)(p_names:Bool):Option (Bool):=(oQ FU).m1 p_v p_names
theorem amV:NV Q5:=(oQ FU).ok1
noncomputable def Q33(p_v:ak)(p_names:Bool):Option (Bool):=(oQ FU).m2 p_v p_names
noncomputable def aeh(p_v:ak):Mo (Bool):=
 .cl (ahS p_v) fun r0 _=>
 .iG 4003 (decide ((r0:Int)≤16)) (.cl (ahU p_v) fun r1 _=>
 .iG 4008 (decide ((r1:Int)≤1024)) (.cl (amV p_v true) fun r2 _=>
 .ret (bn 1) (r2))<|
 .ret (bn 1) (false))<|
 .ret (bn 1) (false)
noncomputable def akP(p_v:ak):Option (Bool):=Mo.den (aeh p_v)
theorem ahY(p_v:ak):FV (akP p_v) 34 [.dat (ak.lf1 p_v)] .b_:=dI Tryz.func34
noncomputable def RH(p_l:List bI)(p_q:List aU):Mo (Bool):=
 .nu p_l bI.lf<|
 .iG 4003 (decide ((40:Int)<(p_l.length:Int))) (.rt [0,1,16] 0 (true))<|
 .nu p_q aU.lf<|
 .rt [0,1,16] 0 (decide ((20:Int)<(p_q.length:Int)))
noncomputable def Af(p_l:List bI)(p_q:List aU):(Int)→Mo ((Int)⊕(Unit⊕Unit)):=fun(v0)=>
 .nu p_q aU.lf<|
 .iB (decide ((v0:Int)<(p_q.length:Int))) (.gx aU.aX p_q v0 fun x0 _=>
 .cl (ahY x0.eF) fun r0 _=>
 .iB (!r0) (.rt [4] 0 (.inr (.inl ())))<|
 .rt [0,1,5] 0 (.inl (IntKind.wrap .i64 (v0+1))))<|
 .rt [0] 0 (.inr (.inr (())))
noncomputable def aei(p_l:List bI)(p_q:List aU)(v0:Int):Option (Unit⊕Unit):=dh (fun v_=>(Af p_l p_q v_).den) FU (v0)
noncomputable def JX(p_l:List bI)(v0:Int)(x0:bI):Mo (Bool):=
 .nu x0.iO.bQ ay.lf<|
 .iG 26004 (decide ((20:Int)<(x0.iO.bQ.length:Int))) (.rt [0,6,7,51] 1 (true))<|
 .nu x0.iO.gy.bf aS.lf<|
 .rt [0,6,7,51] 1 (decide ((5:Int)<(x0.iO.gy.bf.length:Int)))
noncomputable def wH(p_l:List bI)(v0:Int)(x0:bI):(Int)→Mo ((Int)⊕(Unit⊕Unit)):=fun(v1)=>
 .nu x0.iO.bQ ay.lf<|
 .iB (decide ((v1:Int)<(x0.iO.bQ.length:Int))) (.gx ay.aX x0.iO.bQ v1 fun x1 _=>
 .nu x1.gy.bf aS.lf<|
 .iB (decide ((5:Int)<(x1.gy.bf.length:Int))) (.ret ⟨[.kill 0],[4],[],1⟩ (.inr (.inl ())))<|
 .rt [0,6,7,8] 1 (.inl (IntKind.wrap .i64 (v1+1))))<|
 .ret ⟨[.kill 0],[0,6],[],1⟩ (.inr (.inr (())))
noncomputable def XV(p_l:List bI)(v0:Int)(x0:bI)(v1:Int):Option (Unit⊕Unit):=dh (fun v_=>(wH p_l v0 x0 v_).den) FU (v1)
noncomputable def wI(p_l:List bI):(Int)→Mo ((Int)⊕(Unit⊕Unit)):=fun(v0)=>
 .nu p_l bI.lf<|
 .iB (decide ((v0:Int)<(p_l.length:Int))) (.gx bI.aX p_l v0 fun x0 _=>
 .jk Tryz.f9 0 [1,1,1,0,1,0,0,1,0,0,1,0,0] 31 (fun r_=>⟨[(0,.lf (.rows 82 (p_l.map bI.lf))),(6,.i_ v0),(7,.ptr 0 0),(51,.b_ r_)],[.box 64 (.agg ((ay.lf1 x0.iO).map AV.lf))]⟩) ⟨[(0,.lf (.rows 82 (p_l.map bI.lf))),(6,.i_ v0),(7,.ptr 0 0)],[.box 64 (.agg ((ay.lf1 x0.iO).map AV.lf))]⟩ (JX p_l v0 x0) fun r0=>
 .iB (r0) (.rt [4] 0 (.inr (.inl ())))<|
 .l2m [] Tryz.f9 0 [1,1,1,0,1,0,0,1,0,0,1,1,1,0] 0 (fun(v1)=>⟨[(0,.lf (.rows 82 (p_l.map bI.lf))),(6,.i_ v0),(7,.ptr 0 0),(8,.i_ v1)],[.box 64 (.agg ((ay.lf1 x0.iO).map AV.lf))]⟩) .ret (fun _=>⟨[(4,.b_ true)],[.dead]⟩) (.exit 4) (fun _=>⟨[(0,.lf (.rows 82 (p_l.map bI.lf))),(6,.i_ v0)],[.dead]⟩) (XV p_l v0 x0 0) (wH p_l v0 x0) (0) (fun o0=>
 .rt [4] 0 (.inr (.inl ()))) fun o1=>
 .rt [0,6] 0 (.inl (IntKind.wrap .i64 (v0+1))))<|
 .rt [] 0 (.inr (.inr (())))
noncomputable def XW(p_l:List bI)(v0:Int):Option (Unit⊕Unit):=dh (fun v_=>(wI p_l v_).den) FU (v0)
noncomputable def aej(p_l:List bI)(p_q:List aU):Mo (Bool):=
 .jk Tryz.f9 0 [1,0,0] 9 (fun r_=>⟨[(0,.lf (.rows 82 (p_l.map bI.lf))),(1,.lf (.rows 8 (p_q.map aU.lf))),(16,.b_ r_)],[]⟩) ⟨[(0,.lf (.rows 82 (p_l.map bI.lf))),(1,.lf (.rows 8 (p_q.map aU.lf)))],[]⟩ (RH p_l p_q) fun r0=>
 .iB (r0) (.ret (bn 1) (true))<|
 .l2m [] Tryz.f9 0 [1,1,0,1,0] 0 (fun(v0)=>⟨[(0,.lf (.rows 82 (p_l.map bI.lf))),(1,.lf (.rows 8 (p_q.map aU.lf))),(5,.i_ v0)],[]⟩) .ret (fun _=>⟨[(4,.b_ true)],[]⟩) (.exit 0) (fun _=>⟨[(0,.lf (.rows 82 (p_l.map bI.lf)))],[]⟩) (aei p_l p_q 0) (Af p_l p_q) (0) (fun o0=>
 .ret (bn 1) (true)) fun o1=>
 .l2m [] Tryz.f9 0 [1,1,1,0,1,0] 0 (fun(v1)=>⟨[(0,.lf (.rows 82 (p_l.map bI.lf))),(6,.i_ v1)],[]⟩) .ret (fun _=>⟨[(4,.b_ true)],[]⟩) (.exit 2) (fun _=>⟨[],[]⟩) (XW p_l 0) (wI p_l) (0) (fun o2=>
 .ret (bn 1) (true)) fun o3=>
 .ret (bn 1) (false)
noncomputable def Q14(p_l:List bI)(p_q:List aU):Option (Bool):=Mo.den (aej p_l p_q)
theorem akQ(p_l:List bI)(p_q:List aU):FV (Q14 p_l p_q) 9 [.lf (.rows 82 (p_l.map bI.lf)),.lf (.rows 8 (p_q.map aU.lf))] .b_:=dI Tryz.func9
noncomputable def an1  (r:Unit):List AV:=[.ptr 3 0]
noncomputable def akR  (r:Unit):List Slot:=[.res (bD (⟨[],[]⟩:bg) none) none,.res (bP ([]:List (ByteArray×ah))) none,.res (bT ([]:List (ByteArray×au))) none,.box 113 (.agg [.i_ 0,.lf (.rows 25 (([]:List aj).map aj.lf)),.mp 0,.mp 1,.mp 2])]
noncomputable def akS :Mo (Unit):=
 .say [.opH [] (.mp 0) [.res (bD (⟨[],[]⟩:bg) none) none],.opH [] (.mp 0) [.res (bP ([]:List (ByteArray×ah))) none],.opH [] (.mp 0) [.res (bT ([]:List (ByteArray×au))) none]] (okc agD (okc agG (ok1 agJ)))<|
 .ret ⟨[.norm 3],[0],[],4⟩ ()
noncomputable def ahZ :Option (Unit):=Mo.den (akS )
theorem XY:FH (ahZ ) 11 [] [] (fun r=>resV (an1 r)) (fun r=>akR r):=jD Tryz.func11
noncomputable def an2(p_b0_0:Int)(p_b0_1:List aj)(p_s1:bg)(p_s2:List (ByteArray×ah))(p_s3:List (ByteArray×au))(r:Unit):List AV:=[.i_ p_b0_0]
noncomputable def amW(p_b0_0:Int)(p_b0_1:List aj)(p_s1:bg)(p_s2:List (ByteArray×ah))(p_s3:List (ByteArray×au))(r:Unit):List Slot:=[.box 113 (.agg [.i_ p_b0_0,.lf (.rows 25 (p_b0_1.map aj.lf)),.mp 1,.mp 2,.mp 3]),.res (bD p_s1 none) none,.res (bP p_s2) none,.res (bT p_s3) none]
noncomputable def amX(p_b0_0:Int)(p_b0_1:List aj)(p_s1:bg)(p_s2:List (ByteArray×ah))(p_s3:List (ByteArray×au)):Mo (Unit):=
 .say [.br false] (ok1 (rfl:false=false))<|
 .rt [0] 4 ()
noncomputable def Q80(p_b0_0:Int)(p_b0_1:List aj)(p_s1:bg)(p_s2:List (ByteArray×ah))(p_s3:List (ByteArray×au)):Option (Unit):=Mo.den (amX p_b0_0 p_b0_1 p_s1 p_s2 p_s3)
theorem NW(p_b0_0:Int)(p_b0_1:List aj)(p_s1:bg)(p_s2:List (ByteArray×ah))(p_s3:List (ByteArray×au)):FH (Q80 p_b0_0 p_b0_1 p_s1 p_s2 p_s3) 15 [.ptr 0 0] [.box 113 (.agg [.i_ p_b0_0,.lf (.rows 25 (p_b0_1.map aj.lf)),.mp 1,.mp 2,.mp 3]),.res (bD p_s1 none) none,.res (bP p_s2) none,.res (bT p_s3) none] (fun r=>resV (an2 p_b0_0 p_b0_1 p_s1 p_s2 p_s3 r)) (fun r=>amW p_b0_0 p_b0_1 p_s1 p_s2 p_s3 r):=jD Tryz.func15
noncomputable def FM(p_s:ByteArray):(Int)→Mo ((Int)⊕(Unit⊕Unit)):=fun(v0)=>
 .iB (decide ((v0:Int)<(p_s.size:Int))) (.sf Tryz.f69 0 [1,1,0,1,0,0,1,1,0,0,1,0] 0 10 6 [(0,.lf (.str p_s)),(3,.i_ v0),(18,.i_ (p_s.size:Int)),(19,.i_ v0)] [] 31 (kH p_s v0) fun r0=>
 .sk Tryz.f69 0 [1,1,0,1,0,0,1,1,0,0,1,0] 10 6 6 (fun r_=>⟨[(0,.lf (.str p_s)),(18,.i_ (p_s.size:Int)),(19,.i_ v0),(37,.b_ r_)],[]⟩) ⟨[(0,.lf (.str p_s)),(3,.i_ v0),(18,.i_ (p_s.size:Int)),(19,.i_ v0),(31,.b_ r0)],[]⟩ (kJ p_s r0 v0) fun r1=>
 .iB (r1) (.rt [2] 0 (.inr (.inl ())))<|
 .rt [0,18,19] 0 (.inl (IntKind.wrap .i64 (v0+1))))<|
 .rt [] 0 (.inr (.inr (())))
noncomputable def aek(p_s:ByteArray):Mo (Bool):=
 .sf Tryz.f69 0 [1,0,0] 0 8 1 [(0,.lf (.str p_s))] [] 11 (kW p_s) fun r0=>
 .sb Tryz.f69 0 [1,0,0] 8 5 1 [(0,.lf (.str p_s))] [] 11 16 r0 (kX p_s r0) fun r1=>
 .iB (r1) (.ret (bn 1) (false))<|
 .l2 Tryz.f69 0 [1,1,0,1,0] 0 (fun(v0)=>⟨[(0,.lf (.str p_s)),(18,.i_ (p_s.size:Int)),(19,.i_ v0)],[]⟩) .ret (fun _=>⟨[(2,.b_ false)],[]⟩) (.exit 0) (fun _=>⟨[],[]⟩) (FM p_s) (0) (fun o0=>
 .ret (bn 1) (false)) fun o1=>
 .ret (bn 1) (true)
noncomputable def ah0(p_s:ByteArray):Option (Bool):=Mo.den (aek p_s)
theorem DZ(p_s:ByteArray):FV (ah0 p_s) 69 [.lf (.str p_s)] .b_:=dI Tryz.func69
noncomputable def ael(p_kind:Int):Mo (aQ):=
 .iB (p_kind==2) (.ret (bn 1) (aQ.alY (aQ.alX (aQ.Ep aQ.z true) true) true))<|
 .iB (p_kind==3) (.ret (bn 1) (aQ.alX (aQ.Ep aQ.z true) true))<|
 .iB (p_kind==4) (.ret (bn 1) (aQ.anB aQ.z true))<|
 .iB (p_kind==5) (.ret (bn 1) (aQ.Ep aQ.z true))<|
 .iB (p_kind==6) (.ret (bn 1) (aQ.ajI (aQ.Ep aQ.z true) true))<|
 .iB (p_kind==7) (.ret (bn 1) (aQ.UD (aQ.Ep aQ.z true) true))<|
 .iB (p_kind==8) (.ret (bn 1) (aQ.WX aQ.z true))<|
 .iB (p_kind==9) (.ret (bn 1) (aQ.WX (aQ.agn aQ.z true) true))<|
 .iB (p_kind==10) (.ret (bn 1) (aQ.UE (aQ.agn aQ.z true) true))<|
 .iB (p_kind==11) (.ret (bn 1) (aQ.agn aQ.z true))<|
 .iB (p_kind==12) (.ret (bn 1) (aQ.agp (aQ.UE (aQ.agn aQ.z true) true) true))<|
 .ret (bn 1) (aQ.z)
noncomputable def amY(p_kind:Int):Option (aQ):=Mo.den (ael p_kind)
theorem XZ(p_kind:Int):FV (amY p_kind) 107 [.i_ p_kind] (fun r=>.dat (aQ.lf1 r)):=dI Tryz.func107
noncomputable def ai2(p_v:ak):Mo (Bool):=
 .sf Tryz.f172 0 [1,0] 0 8 1 [(1,.ptr 0 0),(2,.b_ false)] [bF p_v] 10 (zV p_v) fun r0=>
 .sb Tryz.f172 0 [1,0] 8 5 1 [(1,.ptr 0 0),(2,.b_ false)] [bF p_v] 10 15 r0 (zW p_v r0) fun r1=>
 .sb Tryz.f172 0 [1,0] 13 6 1 [(1,.ptr 0 0),(2,.b_ false)] [bF p_v] 15 21 r1 (wE p_v r1) fun r2=>
 .sk Tryz.f172 0 [1,0] 19 6 1 (fun r_=>⟨[(2,.b_ false),(27,.b_ r_)],[.dead]⟩) ⟨[(1,.ptr 0 0),(2,.b_ false),(21,.b_ r2)],[bF p_v]⟩ (wF p_v r2) fun r3=>
 .sk Tryz.f172 0 [1,0] 25 1 1 (fun r_=>⟨[(2,.b_ r3)],[.dead]⟩) ⟨[(2,.b_ false),(27,.b_ r3)],[.dead]⟩ (fV r3) fun r4=>
 .ret (bn 1) (r3)
noncomputable def Q97(p_v:ak):Option (Bool):=Mo.den (ai2 p_v)
theorem uV(p_v:ak):FV (Q97 p_v) 172 [.dat (ak.lf1 p_v)] .b_:=dI Tryz.func172
noncomputable def aem(p_s:aA):Mo (Bool):=
 .aV 4003 (p_s.jS==0) [1,2,10] 1 (!p_s.jh)
noncomputable def aen(p_s:aA)(r0:Bool):Mo (Bool):=
 .aC 4008 (r0) [1,2,15] 1 (uV p_s.kR)
noncomputable def ZI(p_s:aA)(r0:Bool):Mo (Bool):=
 .aV 4013 (r0) [1,2,20] 1 (!p_s.ji)
noncomputable def ZJ(p_s:aA)(r0:Bool):Mo (Bool):=
 .aC 4018 (r0) [1,2,25] 1 (uV p_s.kS)
noncomputable def ZK(p_s:aA)(r0:Bool):Mo (Bool):=
 .iG 4023 (r0) (.nu p_s.jB ak.lf<|
 .rt [1,2,31] 1 ((p_s.jB.length:Int)==0))<|
 .rt [1,2,31] 1 (false)
noncomputable def ZL(p_s:aA)(r0:Bool):Mo (Bool):=
 .aV 4029 (r0) [1,2,36] 1 (p_s.jl==0)
noncomputable def ZM(p_s:aA)(r0:Bool):Mo (Bool):=
 .aV 4034 (r0) [1,2,41] 1 (p_s.jJ==0)
noncomputable def ZN(p_s:aA)(r0:Bool):Mo (Bool):=
 .iG 4039 (r0) (.nu p_s.dG lfS<|
 .rt [1,2,47] 1 ((p_s.dG.length:Int)==0))<|
 .rt [1,2,47] 1 (false)
noncomputable def ZO(p_s:aA)(r0:Bool):Mo (Bool):=
 .iG 4045 (r0) (.nu p_s.dJ bV.lf<|
 .rt [1,2,53] 1 ((p_s.dJ.length:Int)==0))<|
 .rt [1,2,53] 1 (false)
noncomputable def ZP(p_s:aA)(r0:Bool):Mo (Bool):=
 .aV 4051 (r0) [1,2,58] 1 (!p_s.jX)
noncomputable def ZQ(p_s:aA)(r0:Bool):Mo (Bool):=
 .iG 4056 (r0) (.nu p_s.dY aA.lf<|
 .rt [1,2,64] 1 ((p_s.dY.length:Int)==0))<|
 .rt [1,2,64] 1 (false)
noncomputable def ZR(p_s:aA)(r0:Bool):Mo (Bool):=
 .iG 4062 (r0) (.ret ⟨[.kill 0],[2,69],[],1⟩ (!p_s.fP))<|
 .ret ⟨[.kill 0],[2,69],[],1⟩ (false)
noncomputable def ai3(p_s:aA):Mo (Bool):=
 .sf Tryz.f256 0 [1,0] 0 8 1 [(1,.ptr 0 0),(2,.b_ false)] [dO p_s] 10 (aem p_s) fun r0=>
 .sb Tryz.f256 0 [1,0] 8 5 1 [(1,.ptr 0 0),(2,.b_ false)] [dO p_s] 10 15 r0 (aen p_s r0) fun r1=>
 .sb Tryz.f256 0 [1,0] 13 5 1 [(1,.ptr 0 0),(2,.b_ false)] [dO p_s] 15 20 r1 (ZI p_s r1) fun r2=>
 .sb Tryz.f256 0 [1,0] 18 5 1 [(1,.ptr 0 0),(2,.b_ false)] [dO p_s] 20 25 r2 (ZJ p_s r2) fun r3=>
 .sb Tryz.f256 0 [1,0] 23 6 1 [(1,.ptr 0 0),(2,.b_ false)] [dO p_s] 25 31 r3 (ZK p_s r3) fun r4=>
 .sb Tryz.f256 0 [1,0] 29 5 1 [(1,.ptr 0 0),(2,.b_ false)] [dO p_s] 31 36 r4 (ZL p_s r4) fun r5=>
 .sb Tryz.f256 0 [1,0] 34 5 1 [(1,.ptr 0 0),(2,.b_ false)] [dO p_s] 36 41 r5 (ZM p_s r5) fun r6=>
 .sb Tryz.f256 0 [1,0] 39 6 1 [(1,.ptr 0 0),(2,.b_ false)] [dO p_s] 41 47 r6 (ZN p_s r6) fun r7=>
 .sb Tryz.f256 0 [1,0] 45 6 1 [(1,.ptr 0 0),(2,.b_ false)] [dO p_s] 47 53 r7 (ZO p_s r7) fun r8=>
 .sb Tryz.f256 0 [1,0] 51 5 1 [(1,.ptr 0 0),(2,.b_ false)] [dO p_s] 53 58 r8 (ZP p_s r8) fun r9=>
 .sb Tryz.f256 0 [1,0] 56 6 1 [(1,.ptr 0 0),(2,.b_ false)] [dO p_s] 58 64 r9 (ZQ p_s r9) fun r10=>
 .sk Tryz.f256 0 [1,0] 62 5 1 (fun r_=>⟨[(2,.b_ false),(69,.b_ r_)],[.dead]⟩) ⟨[(1,.ptr 0 0),(2,.b_ false),(64,.b_ r10)],[dO p_s]⟩ (ZR p_s r10) fun r11=>
 .sk Tryz.f256 0 [1,0] 67 1 1 (fun r_=>⟨[(2,.b_ r11)],[.dead]⟩) ⟨[(2,.b_ false),(69,.b_ r11)],[.dead]⟩ (fV r11) fun r12=>
 .ret (bn 1) (r11)
noncomputable def Q27(p_s:aA):Option (Bool):=Mo.den (ai3 p_s)
theorem akT(p_s:aA):FV (Q27 p_s) 256 [.dat (aA.lf1 p_s)] .b_:=dI Tryz.func256
noncomputable def aeo(p_d:aj):Mo (Bool):=
 .iG 4003 (decide ((p_d.fName:ByteArray)=(⟨#[]⟩:ByteArray))) (.nu p_d.bf aS.lf<|
 .rt [1,2,11] 1 ((p_d.bf.length:Int)==0))<|
 .rt [1,2,11] 1 (false)
noncomputable def aep(p_d:aj)(r0:Bool):Mo (Bool):=
 .aC 4009 (r0) [1,2,16] 1 (akT p_d.eU)
noncomputable def ZT(p_d:aj)(r0:Bool):Mo (Bool):=
 .aV 4014 (r0) [1,2,21] 1 (p_d.rW==0)
noncomputable def ZU(p_d:aj)(r0:Bool):Mo (Bool):=
 .iG 4019 (r0) (.ret ⟨[.kill 0],[2,26],[],1⟩ (p_d.lS==0))<|
 .ret ⟨[.kill 0],[2,26],[],1⟩ (false)
noncomputable def ai4(p_d:aj):Mo (Bool):=
 .sf Tryz.f220 0 [1,0] 0 9 1 [(1,.ptr 0 0),(2,.b_ false)] [iq p_d] 11 (aeo p_d) fun r0=>
 .sb Tryz.f220 0 [1,0] 9 5 1 [(1,.ptr 0 0),(2,.b_ false)] [iq p_d] 11 16 r0 (aep p_d r0) fun r1=>
 .sb Tryz.f220 0 [1,0] 14 5 1 [(1,.ptr 0 0),(2,.b_ false)] [iq p_d] 16 21 r1 (ZT p_d r1) fun r2=>
 .sk Tryz.f220 0 [1,0] 19 5 1 (fun r_=>⟨[(2,.b_ false),(26,.b_ r_)],[.dead]⟩) ⟨[(1,.ptr 0 0),(2,.b_ false),(21,.b_ r2)],[iq p_d]⟩ (ZU p_d r2) fun r3=>
 .sk Tryz.f220 0 [1,0] 24 1 1 (fun r_=>⟨[(2,.b_ r3)],[.dead]⟩) ⟨[(2,.b_ false),(26,.b_ r3)],[.dead]⟩ (fV r3) fun r4=>
 .ret (bn 1) (r3)
noncomputable def Q84(p_d:aj):Option (Bool):=Mo.den (ai4 p_d)
theorem akU(p_d:aj):FV (Q84 p_d) 220 [.dat (aj.lf1 p_d)] .b_:=dI Tryz.func220
noncomputable def VG(p_e:aW)(r0:Bool):Mo (Bool):=
 .aC 4020 (r0) [1,2,27] 1 (uV p_e.fArg)
noncomputable def aer(p_e:aW):Mo (Bool):=
 .sf Tryz.f280 0 [1,0] 0 9 1 [(1,.ptr 0 0),(2,.b_ false)] [dP p_e] 11 (EN p_e) fun r0=>
 .sb Tryz.f280 0 [1,0] 9 5 1 [(1,.ptr 0 0),(2,.b_ false)] [dP p_e] 11 16 r0 (EO p_e r0) fun r1=>
 .sb Tryz.f280 0 [1,0] 14 6 1 [(1,.ptr 0 0),(2,.b_ false)] [dP p_e] 16 22 r1 (BM p_e r1) fun r2=>
 .sb Tryz.f280 0 [1,0] 20 5 1 [(1,.ptr 0 0),(2,.b_ false)] [dP p_e] 22 27 r2 (VG p_e r2) fun r3=>
 .sb Tryz.f280 0 [1,0] 25 5 1 [(1,.ptr 0 0),(2,.b_ false)] [dP p_e] 27 32 r3 (BN p_e r3) fun r4=>
 .sk Tryz.f280 0 [1,0] 30 6 1 (fun r_=>⟨[(2,.b_ false),(38,.b_ r_)],[.dead]⟩) ⟨[(1,.ptr 0 0),(2,.b_ false),(32,.b_ r4)],[dP p_e]⟩ (BO p_e r4) fun r5=>
 .sk Tryz.f280 0 [1,0] 36 1 1 (fun r_=>⟨[(2,.b_ r5)],[.dead]⟩) ⟨[(2,.b_ false),(38,.b_ r5)],[.dead]⟩ (fV r5) fun r6=>
 .ret (bn 1) (r5)
noncomputable def amZ(p_e:aW):Option (Bool):=Mo.den (aer p_e)
theorem ah1(p_e:aW):FV (amZ p_e) 280 [.dat (aW.lf1 p_e)] .b_:=dI Tryz.func280
noncomputable def ZV(p_p:aO)(r0:Bool):Mo (Bool):=
 .aC 4009 (r0) [1,2,16] 1 (uV p_p.fArg)
noncomputable def VH(p_p:aO)(r0:Bool):Mo (Bool):=
 .aC 4049 (r0) [1,2,56] 1 (ah1 p_p.fExpr)
noncomputable def aes(p_p:aO):Mo (Bool):=
 .sf Tryz.f257 0 [1,0] 0 9 1 [(1,.ptr 0 0),(2,.b_ false)] [dD p_p] 11 (Qq p_p) fun r0=>
 .sb Tryz.f257 0 [1,0] 9 5 1 [(1,.ptr 0 0),(2,.b_ false)] [dD p_p] 11 16 r0 (ZV p_p r0) fun r1=>
 .sb Tryz.f257 0 [1,0] 14 6 1 [(1,.ptr 0 0),(2,.b_ false)] [dD p_p] 16 22 r1 (Jk p_p r1) fun r2=>
 .sb Tryz.f257 0 [1,0] 20 5 1 [(1,.ptr 0 0),(2,.b_ false)] [dD p_p] 22 27 r2 (Jl p_p r2) fun r3=>
 .sb Tryz.f257 0 [1,0] 25 5 1 [(1,.ptr 0 0),(2,.b_ false)] [dD p_p] 27 32 r3 (Jm p_p r3) fun r4=>
 .sb Tryz.f257 0 [1,0] 30 6 1 [(1,.ptr 0 0),(2,.b_ false)] [dD p_p] 32 38 r4 (Jo p_p r4) fun r5=>
 .sb Tryz.f257 0 [1,0] 36 7 1 [(1,.ptr 0 0),(2,.b_ false)] [dD p_p] 38 45 r5 (Jp p_p r5) fun r6=>
 .sb Tryz.f257 0 [1,0] 43 6 1 [(1,.ptr 0 0),(2,.b_ false)] [dD p_p] 45 51 r6 (Jq p_p r6) fun r7=>
 .sb Tryz.f257 0 [1,0] 49 5 1 [(1,.ptr 0 0),(2,.b_ false)] [dD p_p] 51 56 r7 (VH p_p r7) fun r8=>
 .sk Tryz.f257 0 [1,0] 54 6 1 (fun r_=>⟨[(2,.b_ false),(62,.b_ r_)],[.dead]⟩) ⟨[(1,.ptr 0 0),(2,.b_ false),(56,.b_ r8)],[dD p_p]⟩ (Jr p_p r8) fun r9=>
 .sk Tryz.f257 0 [1,0] 60 1 1 (fun r_=>⟨[(2,.b_ r9)],[.dead]⟩) ⟨[(2,.b_ false),(62,.b_ r9)],[.dead]⟩ (fV r9) fun r10=>
 .ret (bn 1) (r9)
noncomputable def am0(p_p:aO):Option (Bool):=Mo.den (aes p_p)
theorem ah2(p_p:aO):FV (am0 p_p) 257 [.dat (aO.lf1 p_p)] .b_:=dI Tryz.func257
noncomputable def aeu(p_x:aS):Mo (Bool):=
 .aV 4003 (decide ((p_x.fName:ByteArray)=(⟨#[]⟩:ByteArray))) [1,2,10] 1 (p_x.aH==0)
noncomputable def aev(p_x:aS)(r0:Bool):Mo (Bool):=
 .iG 4008 (r0) (.nu p_x.gI bH.lf<|
 .rt [1,2,16] 1 ((p_x.gI.length:Int)==0))<|
 .rt [1,2,16] 1 (false)
noncomputable def ZW(p_x:aS)(r0:Bool):Mo (Bool):=
 .aV 4014 (r0) [1,2,21] 1 (!p_x.fP)
noncomputable def ZX(p_x:aS)(r0:Bool):Mo (Bool):=
 .aV 4019 (r0) [1,2,26] 1 (!p_x.oC)
noncomputable def ZY(p_x:aS)(r0:Bool):Mo (Bool):=
 .aV 4024 (r0) [1,2,31] 1 (!p_x.lG)
noncomputable def Z4(p_x:aS)(r0:Bool):Mo (Bool):=
 .iG 4029 (r0) (.cl (ah2 p_x.iT) fun r1 _=>
 .ret ⟨[.kill 0],[2,36],[],1⟩ (r1))<|
 .ret ⟨[.kill 0],[2,36],[],1⟩ (false)
noncomputable def ai5(p_x:aS):Mo (Bool):=
 .sf Tryz.f221 0 [1,0] 0 8 1 [(1,.ptr 0 0),(2,.b_ false)] [jI p_x] 10 (aeu p_x) fun r0=>
 .sb Tryz.f221 0 [1,0] 8 6 1 [(1,.ptr 0 0),(2,.b_ false)] [jI p_x] 10 16 r0 (aev p_x r0) fun r1=>
 .sb Tryz.f221 0 [1,0] 14 5 1 [(1,.ptr 0 0),(2,.b_ false)] [jI p_x] 16 21 r1 (ZW p_x r1) fun r2=>
 .sb Tryz.f221 0 [1,0] 19 5 1 [(1,.ptr 0 0),(2,.b_ false)] [jI p_x] 21 26 r2 (ZX p_x r2) fun r3=>
 .sb Tryz.f221 0 [1,0] 24 5 1 [(1,.ptr 0 0),(2,.b_ false)] [jI p_x] 26 31 r3 (ZY p_x r3) fun r4=>
 .sk Tryz.f221 0 [1,0] 29 5 1 (fun r_=>⟨[(2,.b_ false),(36,.b_ r_)],[.dead]⟩) ⟨[(1,.ptr 0 0),(2,.b_ false),(31,.b_ r4)],[jI p_x]⟩ (Z4 p_x r4) fun r5=>
 .sk Tryz.f221 0 [1,0] 34 1 1 (fun r_=>⟨[(2,.b_ r5)],[.dead]⟩) ⟨[(2,.b_ false),(36,.b_ r5)],[.dead]⟩ (fV r5) fun r6=>
 .ret (bn 1) (r5)
noncomputable def Q64(p_x:aS):Option (Bool):=Mo.den (ai5 p_x)
theorem akV(p_x:aS):FV (Q64 p_x) 221 [.dat (aS.lf1 p_x)] .b_:=dI Tryz.func221
noncomputable def aew(p_w:ay):Mo (Bool):=
 .aV 4003 (p_w.aH==0) [1,2,10] 1 (decide ((p_w.aY:ByteArray)=(⟨#[]⟩:ByteArray)))
noncomputable def aex(p_w:ay)(r0:Bool):Mo (Bool):=
 .aC 4008 (r0) [1,2,15] 1 (uV p_w.eF)
noncomputable def Z5(p_w:ay)(r0:Bool):Mo (Bool):=
 .aC 4013 (r0) [1,2,20] 1 (uV p_w.bG)
noncomputable def Z7(p_w:ay)(r0:Bool):Mo (Bool):=
 .aC 4018 (r0) [1,2,25] 1 (uV p_w.gZ)
noncomputable def Z8(p_w:ay)(r0:Bool):Mo (Bool):=
 .aC 4023 (r0) [1,2,30] 1 (akU p_w.gy)
noncomputable def Z9(p_w:ay)(r0:Bool):Mo (Bool):=
 .aC 4028 (r0) [1,2,35] 1 (akV p_w.eP)
noncomputable def aac(p_w:ay)(r0:Bool):Mo (Bool):=
 .aV 4033 (r0) [1,2,40] 1 (decide ((p_w.dW:ByteArray)=(⟨#[]⟩:ByteArray)))
noncomputable def aad(p_w:ay)(r0:Bool):Mo (Bool):=
 .aV 4038 (r0) [1,2,45] 1 (p_w.cZ==0)
noncomputable def aae(p_w:ay)(r0:Bool):Mo (Bool):=
 .iG 4043 (r0) (.nu p_w.bQ ay.lf<|
 .rt [1,2,51] 1 ((p_w.bQ.length:Int)==0))<|
 .rt [1,2,51] 1 (false)
noncomputable def aaf(p_w:ay)(r0:Bool):Mo (Bool):=
 .iG 4049 (r0) (.nu p_w.ig lfI<|
 .rt [1,2,57] 1 ((p_w.ig.length:Int)==0))<|
 .rt [1,2,57] 1 (false)
noncomputable def aag(p_w:ay)(r0:Bool):Mo (Bool):=
 .iG 4055 (r0) (.ret ⟨[.kill 0],[2,62],[],1⟩ (!p_w.jK))<|
 .ret ⟨[.kill 0],[2,62],[],1⟩ (false)
noncomputable def ai6(p_w:ay):Mo (Bool):=
 .sf Tryz.f169 0 [1,0] 0 8 1 [(1,.ptr 0 0),(2,.b_ false)] [bY p_w] 10 (aew p_w) fun r0=>
 .sb Tryz.f169 0 [1,0] 8 5 1 [(1,.ptr 0 0),(2,.b_ false)] [bY p_w] 10 15 r0 (aex p_w r0) fun r1=>
 .sb Tryz.f169 0 [1,0] 13 5 1 [(1,.ptr 0 0),(2,.b_ false)] [bY p_w] 15 20 r1 (Z5 p_w r1) fun r2=>
 .sb Tryz.f169 0 [1,0] 18 5 1 [(1,.ptr 0 0),(2,.b_ false)] [bY p_w] 20 25 r2 (Z7 p_w r2) fun r3=>
 .sb Tryz.f169 0 [1,0] 23 5 1 [(1,.ptr 0 0),(2,.b_ false)] [bY p_w] 25 30 r3 (Z8 p_w r3) fun r4=>
 .sb Tryz.f169 0 [1,0] 28 5 1 [(1,.ptr 0 0),(2,.b_ false)] [bY p_w] 30 35 r4 (Z9 p_w r4) fun r5=>
 .sb Tryz.f169 0 [1,0] 33 5 1 [(1,.ptr 0 0),(2,.b_ false)] [bY p_w] 35 40 r5 (aac p_w r5) fun r6=>
 .sb Tryz.f169 0 [1,0] 38 5 1 [(1,.ptr 0 0),(2,.b_ false)] [bY p_w] 40 45 r6 (aad p_w r6) fun r7=>
 .sb Tryz.f169 0 [1,0] 43 6 1 [(1,.ptr 0 0),(2,.b_ false)] [bY p_w] 45 51 r7 (aae p_w r7) fun r8=>
 .sb Tryz.f169 0 [1,0] 49 6 1 [(1,.ptr 0 0),(2,.b_ false)] [bY p_w] 51 57 r8 (aaf p_w r8) fun r9=>
 .sk Tryz.f169 0 [1,0] 55 5 1 (fun r_=>⟨[(2,.b_ false),(62,.b_ r_)],[.dead]⟩) ⟨[(1,.ptr 0 0),(2,.b_ false),(57,.b_ r9)],[bY p_w]⟩ (aag p_w r9) fun r10=>
 .sk Tryz.f169 0 [1,0] 60 1 1 (fun r_=>⟨[(2,.b_ r10)],[.dead]⟩) ⟨[(2,.b_ false),(62,.b_ r10)],[.dead]⟩ (fV r10) fun r11=>
 .ret (bn 1) (r10)
noncomputable def Q30(p_w:ay):Option (Bool):=Mo.den (ai6 p_w)
theorem akW(p_w:ay):FV (Q30 p_w) 169 [.dat (ay.lf1 p_w)] .b_:=dI Tryz.func169
end
end Go.Proofs.YtpdlghcgekojlaaGreatDoor
namespace Go.Proofs.YtpdlghcgekojlaaGreatDoor
open Go.RowKit
set_option maxRecDepth 20000
set_option maxHeartbeats 4000000
noncomputable section
noncomputable def RI(p_w:ay)(r0:aQ):Mo (ay):=
 .iB (r0.mP) (.rt [1,3] 2 (ay.uH (ay.qF p_w 0) ⟨#[]⟩))<|
 .rt [1,3] 2 (ay.qF p_w 0)
noncomputable def RJ(r0:aQ)(r1:ay):Mo (ay):=
 .iB (r0.zA) (.ret ⟨[.norm 0],[1,3],[],2⟩ (ay.agm (ay.agj (ay.Pq r1 (ak.mk 0 0 ⟨#[]⟩ [] [])) (ak.mk 0 0 ⟨#[]⟩ [] [])) false))<|
 .rt [1,3] 2 (r1)
noncomputable def JY(r0:aQ)(r1:ay):Mo (ay):=
 .iB (r0.jc) (.ret ⟨[.norm 0],[1,3],[],2⟩ (ay.Pv r1 (ak.mk 0 0 ⟨#[]⟩ [] [])))<|
 .rt [1,3] 2 (r1)
noncomputable def JZ(r0:aQ)(r1:ay):Mo (ay):=
 .iB (r0.Dp) (.ret ⟨[.norm 0],[1,3],[],2⟩ (ay.alW r1 (aj.mk ⟨#[]⟩ [] aA.z 0 0)))<|
 .rt [1,3] 2 (r1)
noncomputable def J3(r0:aQ)(r1:ay):Mo (ay):=
 .iB (r0.nS) (.ret ⟨[.norm 0],[1,3],[],2⟩ (ay.abw r1 aS.z))<|
 .rt [1,3] 2 (r1)
noncomputable def J4(r0:aQ)(r1:ay):Mo (ay):=
 .iB (r0.gB) (.rt [1,3] 2 (ay.abw r1 (aS.aiA r1.eP ⟨#[]⟩)))<|
 .rt [1,3] 2 (r1)
noncomputable def J5(r0:aQ)(r1:ay):Mo (ay):=
 .iB (r0.BA) (.rt [1,3] 2 (ay.anA r1 ⟨#[]⟩))<|
 .rt [1,3] 2 (r1)
noncomputable def J6(r0:aQ)(r1:ay):Mo (ay):=
 .iB (r0.dF) (.rt [1,3] 2 (ay.ajH r1 0))<|
 .rt [1,3] 2 (r1)
noncomputable def J7(r0:aQ)(r1:ay):Mo (ay):=
 .iB (r0.bK) (.ret ⟨[.norm 0],[1,3],[],2⟩ (ay.agk r1 []))<|
 .rt [1,3] 2 (r1)
noncomputable def J8(r0:aQ)(r1:ay):Mo (ay):=
 .iB (r0.kT) (.ret ⟨[.norm 0],[1],[],2⟩ (ay.agl r1 []))<|
 .rt [1] 2 (r1)
noncomputable def ai7(p_w:ay):Mo (Bool):=
 .cl (XZ p_w.aH) fun r0 _=>
 .jk Tryz.f108 0 [1,1,1,0,1] 1 (fun r_=>⟨[(1,.ptr 0 0),(3,.ptr 1 0)],[bY r_,.box 187 (.agg ((aQ.lf1 r0).map AV.lf))]⟩) ⟨[(1,.ptr 0 0),(3,.ptr 1 0),(9,.b_ r0.mP)],[.box 64 (.dat (ay.lf1 (ay.qF p_w 0))),.box 187 (.agg ((aQ.lf1 r0).map AV.lf))]⟩ (RI p_w r0) fun r1=>
 .jk Tryz.f108 0 [1,1,1,1,0,1] 1 (fun r_=>⟨[(1,.ptr 0 0),(3,.ptr 1 0)],[bY r_,.box 187 (.agg ((aQ.lf1 r0).map AV.lf))]⟩) ⟨[(1,.ptr 0 0),(3,.ptr 1 0),(12,.b_ r0.zA)],[bY r1,.box 187 (.agg ((aQ.lf1 r0).map AV.lf))]⟩ (RJ r0 r1) fun r2=>
 .jk Tryz.f108 0 [1,1,1,1,1,0,1] 1 (fun r_=>⟨[(1,.ptr 0 0),(3,.ptr 1 0)],[bY r_,.box 187 (.agg ((aQ.lf1 r0).map AV.lf))]⟩) ⟨[(1,.ptr 0 0),(3,.ptr 1 0),(19,.b_ r0.jc)],[bY r2,.box 187 (.agg ((aQ.lf1 r0).map AV.lf))]⟩ (JY r0 r2) fun r3=>
 .jk Tryz.f108 0 [1,1,1,1,1,1,0,1] 1 (fun r_=>⟨[(1,.ptr 0 0),(3,.ptr 1 0)],[bY r_,.box 187 (.agg ((aQ.lf1 r0).map AV.lf))]⟩) ⟨[(1,.ptr 0 0),(3,.ptr 1 0),(23,.b_ r0.Dp)],[bY r3,.box 187 (.agg ((aQ.lf1 r0).map AV.lf))]⟩ (JZ r0 r3) fun r4=>
 .jk Tryz.f108 0 [1,1,1,1,1,1,1,0,1] 1 (fun r_=>⟨[(1,.ptr 0 0),(3,.ptr 1 0)],[bY r_,.box 187 (.agg ((aQ.lf1 r0).map AV.lf))]⟩) ⟨[(1,.ptr 0 0),(3,.ptr 1 0),(27,.b_ r0.nS)],[bY r4,.box 187 (.agg ((aQ.lf1 r0).map AV.lf))]⟩ (J3 r0 r4) fun r5=>
 .jk Tryz.f108 0 [1,1,1,1,1,1,1,1,0,1] 1 (fun r_=>⟨[(1,.ptr 0 0),(3,.ptr 1 0)],[bY r_,.box 187 (.agg ((aQ.lf1 r0).map AV.lf))]⟩) ⟨[(1,.ptr 0 0),(3,.ptr 1 0),(31,.b_ r0.gB)],[bY r5,.box 187 (.agg ((aQ.lf1 r0).map AV.lf))]⟩ (J4 r0 r5) fun r6=>
 .jk Tryz.f108 0 [1,1,1,1,1,1,1,1,1,0,1] 1 (fun r_=>⟨[(1,.ptr 0 0),(3,.ptr 1 0)],[bY r_,.box 187 (.agg ((aQ.lf1 r0).map AV.lf))]⟩) ⟨[(1,.ptr 0 0),(3,.ptr 1 0),(35,.b_ r0.BA)],[bY r6,.box 187 (.agg ((aQ.lf1 r0).map AV.lf))]⟩ (J5 r0 r6) fun r7=>
 .jk Tryz.f108 0 [1,1,1,1,1,1,1,1,1,1,0,1] 1 (fun r_=>⟨[(1,.ptr 0 0),(3,.ptr 1 0)],[bY r_,.box 187 (.agg ((aQ.lf1 r0).map AV.lf))]⟩) ⟨[(1,.ptr 0 0),(3,.ptr 1 0),(38,.b_ r0.dF)],[bY r7,.box 187 (.agg ((aQ.lf1 r0).map AV.lf))]⟩ (J6 r0 r7) fun r8=>
 .jk Tryz.f108 0 [1,1,1,1,1,1,1,1,1,1,1,0,1] 1 (fun r_=>⟨[(1,.ptr 0 0),(3,.ptr 1 0)],[bY r_,.box 187 (.agg ((aQ.lf1 r0).map AV.lf))]⟩) ⟨[(1,.ptr 0 0),(3,.ptr 1 0),(41,.b_ r0.bK)],[bY r8,.box 187 (.agg ((aQ.lf1 r0).map AV.lf))]⟩ (J7 r0 r8) fun r9=>
 .jy [.kill 1] Tryz.f108 0 [1,1,1,1,1,1,1,1,1,1,1,1,0,1] 1 (.normal) (fun r_=>⟨[(1,.ptr 0 0)],[bY r_,.dead]⟩) ⟨[(1,.ptr 0 0),(44,.b_ r0.kT)],[bY r9,.dead]⟩ (J8 r0 r9) fun r10=>
 .cl (akW r10) fun r11 _=>
 .ret (bn 1) (r11)
noncomputable def Q20(p_w:ay):Option (Bool):=Mo.den (ai7 p_w)
theorem akX(p_w:ay):FV (Q20 p_w) 108 [.dat (ay.lf1 p_w)] .b_:=dI Tryz.func108
noncomputable def aah(p_w:ay):Mo (Int):=
 .iB (p_w.aH==12) (.rt [1,3] 1 (0))<|
 .rt [1,3] 1 (1)
noncomputable def aey(p_w:ay):Mo (Bool):=
 .jk Tryz.f109 0 [1,1,0,1] 1 (fun r_=>⟨[(1,.ptr 0 0),(3,.i_ r_)],[bY p_w]⟩) ⟨[(1,.ptr 0 0),(3,.i_ 1),(6,.lf (.bool (p_w.aH==12)))],[bY p_w]⟩ (aah p_w) fun r0=>
 .iG 10004 (decide ((r0:Int)≤p_w.cZ)) (.ret (bn 1) (decide ((p_w.cZ:Int)≤1099511627776)))<|
 .ret (bn 1) (false)
noncomputable def am1(p_w:ay):Option (Bool):=Mo.den (aey p_w)
theorem ah3(p_w:ay):FV (am1 p_w) 109 [.dat (ay.lf1 p_w)] .b_:=dI Tryz.func109
noncomputable def RN(p_l:List Int)(v0:Int)(x0:Int):Mo (Bool):=
 .oV 10002 (decide ((x0:Int)<0)) [0,3,4,5,6,7,17] 0 (decide ((8:Int)≤x0))
noncomputable def RP(p_l:List Int)(r0:Bool)(v0:Int)(x0:Int):Mo (Bool):=
 .iG 10006 (r0) (.rt [0,5,6,7,30] 0 (true))<|
 .iG 10009 (decide ((0:Int)<v0)) (.gx lI_ p_l (IntKind.wrap .i64 (v0-1)) fun x1 _=>
 .rt [0,5,6,7,30] 0 (decide ((x0:Int)≤x1)))<|
 .rt [0,5,6,7,30] 0 (false)
noncomputable def J9(p_l:List Int):(Int)→Mo ((Int)⊕(Unit⊕Unit)):=fun(v0)=>
 .iB (decide ((v0:Int)<(p_l.length:Int))) (.gx lI_ p_l v0 fun x0 _=>
 .sf Tryz.f110 0 [1,0,1,0,0,1,1,0,0,1,0] 0 6 4 [(0,.lf (.rows 1 (p_l.map lfI))),(3,.i_ v0),(4,.i_ x0),(5,.lf (.rows 1 (p_l.map lfI))),(6,.i_ (p_l.length:Int)),(7,.i_ v0)] [] 17 (RN p_l v0 x0) fun r0=>
 .sk Tryz.f110 0 [1,0,1,0,0,1,1,0,0,1,0] 6 13 4 (fun r_=>⟨[(0,.lf (.rows 1 (p_l.map lfI))),(5,.lf (.rows 1 (p_l.map lfI))),(6,.i_ (p_l.length:Int)),(7,.i_ v0),(30,.b_ r_)],[]⟩) ⟨[(0,.lf (.rows 1 (p_l.map lfI))),(3,.i_ v0),(4,.i_ x0),(5,.lf (.rows 1 (p_l.map lfI))),(6,.i_ (p_l.length:Int)),(7,.i_ v0),(17,.b_ r0)],[]⟩ (RP p_l r0 v0 x0) fun r1=>
 .iB (r1) (.rt [2] 0 (.inr (.inl ())))<|
 .rt [0,5,6,7] 0 (.inl (IntKind.wrap .i64 (v0+1))))<|
 .rt [0] 0 (.inr (.inr (())))
noncomputable def ai8(p_l:List Int):Mo (Bool):=
 .nu p_l lfI<|
 .l2 Tryz.f110 0 [1,0,1,0] 0 (fun(v0)=>⟨[(0,.lf (.rows 1 (p_l.map lfI))),(5,.lf (.rows 1 (p_l.map lfI))),(6,.i_ (p_l.length:Int)),(7,.i_ v0)],[]⟩) .ret (fun _=>⟨[(2,.b_ false)],[]⟩) (.exit 0) (fun _=>⟨[(0,.lf (.rows 1 (p_l.map lfI)))],[]⟩) (J9 p_l) (0) (fun o0=>
 .ret (bn 1) (false)) fun o1=>
 .nu p_l lfI<|
 .ret (bn 1) (decide ((0:Int)<(p_l.length:Int)))
noncomputable def Q69(p_l:List Int):Option (Bool):=Mo.den (ai8 p_l)
theorem akY(p_l:List Int):FV (Q69 p_l) 110 [.lf (.rows 1 (p_l.map lfI))] .b_:=dI Tryz.func110
noncomputable def aez(p_v:ak):Mo (Bool):=
 .aV 4003 (p_v.aH != 6) [1,2,10] 1 (p_v.aH != 1)
noncomputable def aeA(p_v:ak)(r0:Bool):Mo (Bool):=
 .aV 4008 (r0) [1,2,15] 1 (p_v.aH != 11)
noncomputable def aai(p_v:ak)(r0:Bool):Mo (Bool):=
 .iG 4013 (r0) (.cl (oD p_v) fun r1 _=>
 .ret ⟨[.kill 0],[2,19],[],1⟩ (r1))<|
 .ret ⟨[.kill 0],[2,19],[],1⟩ (false)
noncomputable def ai9(p_v:ak):Mo (Bool):=
 .sf Tryz.f170 0 [1,0] 0 8 1 [(1,.ptr 0 0),(2,.b_ false)] [bF p_v] 10 (aez p_v) fun r0=>
 .sb Tryz.f170 0 [1,0] 8 5 1 [(1,.ptr 0 0),(2,.b_ false)] [bF p_v] 10 15 r0 (aeA p_v r0) fun r1=>
 .sk Tryz.f170 0 [1,0] 13 4 1 (fun r_=>⟨[(2,.b_ false),(19,.b_ r_)],[.dead]⟩) ⟨[(1,.ptr 0 0),(2,.b_ false),(15,.b_ r1)],[bF p_v]⟩ (aai p_v r1) fun r2=>
 .sk Tryz.f170 0 [1,0] 17 1 1 (fun r_=>⟨[(2,.b_ r2)],[.dead]⟩) ⟨[(2,.b_ false),(19,.b_ r2)],[.dead]⟩ (fV r2) fun r3=>
 .ret (bn 1) (r2)
noncomputable def Q86(p_v:ak):Option (Bool):=Mo.den (ai9 p_v)
theorem akZ(p_v:ak):FV (Q86 p_v) 170 [.dat (ak.lf1 p_v)] .b_:=dI Tryz.func170
noncomputable def aeB(p_n:Int):Mo (Int):=
 .say [] (okc (by decide:(0:Int)≤1) (ok1 (by decide:(0:Int)≤63)))<|
 .ret (bn 1) (iK .xor .u64 (afJ .u64 (IntKind.wrap .u64 p_n) 1) (IntKind.wrap .u64 (qA .i64 p_n 63)))
noncomputable def ak0(p_n:Int):Option (Int):=Mo.den (aeB p_n)
theorem ah4(p_n:Int):FV (ak0 p_n) 253 [.i_ p_n] (fun r=>.lf (.int .u64 r)):=dI Tryz.func253
noncomputable def FN :(Int×Int)→Mo ((Int×Int)⊕(Int)):=fun(v0,v1)=>
 .iB (decide ((128:Int)≤v1)) (.say [] (ok1 (by decide:(0:Int)≤7))<|
 .rt [3,4] 0 (.inl (IntKind.wrap .i64 (v0+1),qA .u64 v1 7)))<|
 .rt [3] 0 (.inr (v0))
noncomputable def aja(p_n:Int):Mo (Int):=
 .cl (ah4 p_n) fun r0 _=>
 .l1 Tryz.f217 0 [1,1,0,1,0] 0 (.exit 0) (fun(v0,v1)=>⟨[(3,.i_ v0),(4,.lf (.int .u64 v1))],[]⟩) (fun r_=>⟨[(3,.i_ r_)],[]⟩) (FN ) (1,r0) fun r1=>
 .ret (bn 1) (r1)
noncomputable def Q72(p_n:Int):Option (Int):=Mo.den (aja p_n)
theorem FP(p_n:Int):FV (Q72 p_n) 217 [.i_ p_n] .i_:=dI Tryz.func217
abbrev NY(m:ak→Option (Int)):Prop:=∀p_v,FV (m p_v) 161 [.dat (ak.lf1 p_v)] .i_
structure RQ where
 m1:(p_v:ak)→Option (Int)
 ok1:NY m1
noncomputable def RS(R_:RQ)(p_v:ak):Mo (Bool):=
 .iB (p_v.aH==3) (.rt [1,3,9,10] 1 (p_v.aH==3))<|
 .rt [1,3,9,10] 1 (p_v.aH==10)
noncomputable def RU(R_:RQ)(p_v:ak):Mo (Bool):=
 .iB (p_v.aH==4) (.rt [1,3,9,22] 1 (p_v.aH==4))<|
 .rt [1,3,9,22] 1 (p_v.aH==7)
noncomputable def Ko(R_:RQ)(p_v:ak):(Int×Int)→Mo ((Int×Int)⊕(Int)):=fun(v0,v1)=>
 .iB (decide ((v1:Int)<(p_v.bC.length:Int))) (.gx ak.aX p_v.bC v1 fun x0 _=>
 .cl (R_.ok1 x0) fun r0 _=>
 .rt [3,51,52,53] 1 (.inl (IntKind.wrap .i64 (v0+r0),IntKind.wrap .i64 (v1+1))))<|
 .rt [3] 1 (.inr (v0))
noncomputable def Kq(R_:RQ)(p_v:ak):(Int×Int)→Mo ((Int×Int)⊕(Int)):=fun(v0,v1)=>
 .iB (decide ((v1:Int)<(p_v.bG.length:Int))) (.gx aB.aX p_v.bG v1 fun x0 _=>
 .say [.order [(true,0),(true,1),(true,2),(true,3),(true,5),(true,6),(true,7),(true,9),(true,10),(false,4),(true,8),(false,11),(true,12),(true,13),(true,14)] none []] ok0<|
 .cl (FP (x0.fName.size:Int)) fun r0 _=>
 .cl (R_.ok1 x0.fValue) fun r1 _=>
 .rt [3,71,72,73] 1 (.inl (IntKind.wrap .i64 (v0+(IntKind.wrap .i64 ((IntKind.wrap .i64 (r0+(x0.fName.size:Int)))+r1))),IntKind.wrap .i64 (v1+1))))<|
 .rt [3] 1 (.inr (v0))
noncomputable def Kr(R_:RQ)(p_v:ak):Mo (Int):=
 .jk Tryz.f161 0 [1,1,0,1,0,0,1] 1 (fun r_=>⟨[(1,.ptr 0 0),(3,.i_ 1),(9,.i_ p_v.aH),(10,.b_ r_)],[bF p_v]⟩) ⟨[(1,.ptr 0 0),(3,.i_ 1),(9,.i_ p_v.aH),(10,.lf (.bool (p_v.aH==3)))],[bF p_v]⟩ (RS R_ p_v) fun r0=>
 .iB (r0) (.cl (FP p_v.dR) fun r1 _=>
 .ret ⟨[.kill 0],[3],[],1⟩ (IntKind.wrap .i64 (1+r1)))<|
 .iB (p_v.aH==9) (.ret ⟨[.kill 0],[3],[],1⟩ (IntKind.wrap .i64 (1+1)))<|
 .jk Tryz.f161 0 [1,1,0,1,0,1,1,1,1,0,1] 1 (fun r_=>⟨[(1,.ptr 0 0),(3,.i_ 1),(9,.i_ p_v.aH),(22,.b_ r_)],[bF p_v]⟩) ⟨[(1,.ptr 0 0),(3,.i_ 1),(9,.i_ p_v.aH),(22,.lf (.bool (p_v.aH==4)))],[bF p_v]⟩ (RU R_ p_v) fun r2=>
 .iB (r2) (.say [.order [(true,0),(true,1),(true,2),(true,3),(true,5),(true,6),(true,7),(false,4),(true,8),(true,9),(true,10)] none []] ok0<|
 .cl (FP (p_v.fText.size:Int)) fun r3 _=>
 .ret ⟨[.kill 0],[3],[],1⟩ (IntKind.wrap .i64 (1+(IntKind.wrap .i64 (r3+(p_v.fText.size:Int))))))<|
 .iB (p_v.aH==8) (.ret ⟨[.kill 0],[3],[],1⟩ (IntKind.wrap .i64 (1+(p_v.fText.size:Int))))<|
 .iB (p_v.aH==6) (.nu p_v.bC ak.lf<|
 .ask (Q72 (p_v.bC.length:Int)) fun r4 h0=>
 .say [.res (.i_ r4),.num p_v.bC.length] (okc (FP _ _ h0) (ok1 (ln_ p_v.bC ak.lf)))<|
 .l1y [.kill 0] Tryz.f161 0 [1,1,0,1,0,1,1,1,1,1,1,1,1,1,0,1,1,0] 0 (.exit 1) (fun(v0,v1)=>⟨[(3,.i_ v0),(51,.lf (.rows 5 (p_v.bC.map ak.lf))),(52,.i_ (p_v.bC.length:Int)),(53,.i_ v1)],[.dead]⟩) (fun r_=>⟨[(3,.i_ r_)],[.dead]⟩) (Ko R_ p_v) ((IntKind.wrap .i64 (1+r4)),0) fun r5=>
 .rt [3] 1 (r5))<|
 .iB (p_v.aH==5) (.nu p_v.bG aB.lf<|
 .ask (Q72 (p_v.bG.length:Int)) fun r6 h1=>
 .say [.res (.i_ r6),.num p_v.bG.length] (okc (FP _ _ h1) (ok1 (ln_ p_v.bG aB.lf)))<|
 .l1y [.kill 0] Tryz.f161 0 [1,1,0,1,0,1,1,1,1,1,1,1,1,1,1,1,0,1,1,0] 0 (.exit 3) (fun(v2,v3)=>⟨[(3,.i_ v2),(71,.lf (.rows 6 (p_v.bG.map aB.lf))),(72,.i_ (p_v.bG.length:Int)),(73,.i_ v3)],[.dead]⟩) (fun r_=>⟨[(3,.i_ r_)],[.dead]⟩) (Kq R_ p_v) ((IntKind.wrap .i64 (1+r6)),0) fun r7=>
 .rt [3] 1 (r7))<|
 .ret ⟨[.kill 0],[3],[],1⟩ (1)
noncomputable def aeC(R_:RQ)(p_v:ak):Mo (Int):=
 .jk Tryz.f161 0 [1,1,0,1] 6 (fun r_=>⟨[(3,.i_ r_)],[.dead]⟩) ⟨[(1,.ptr 0 0),(3,.i_ 1),(9,.i_ p_v.aH)],[bF p_v]⟩ (Kr R_ p_v) fun r0=>
 .ret (bn 1) (r0)
theorem ah5(R_:RQ):NY fun p_v=>Mo.den (aeC R_ p_v):=fun _=>dI Tryz.func161
noncomputable def oU:Nat→RQ
 |0=>{ m1:=fun p_v=>none,ok1:=fun _ _ h=>(by cases h) }
 |n_+1=>{ m1:=fun p_v=>Mo.den (aeC (oU n_) p_v),ok1:=ah5 (oU n_) }
noncomputable def Q51(p_v:ak):Option (Int):=(oU FU).m1 p_v
theorem ak1:NY Q51:=(oU FU).ok1
noncomputable def aeD(p_v:ak):Mo (Int×Int):=
 .cl (oD p_v) fun r0 _=>
 .iB (!r0) (.ret (bn 2) (0,8))<|
 .cl (ak1 p_v) fun r1 _=>
 .ret (bn 2) (r1,0)
noncomputable def am2(p_v:ak):Option (Int×Int):=Mo.den (aeD p_v)
theorem ah6(p_v:ak):FV (am2 p_v) 98 [.dat (ak.lf1 p_v)] (fun r=>.tup [.i_ r.1,.i_ r.2]):=dI Tryz.func98
noncomputable def RV(p_doc:ak)(p_key:ak):Mo (Bool):=
 .iG 4003 (p_doc.aH != 5) (.rt [2,3,14] 2 (true))<|
 .cl (oD p_doc) fun r0 _=>
 .rt [2,3,14] 2 (!r0)
noncomputable def RX(p_doc:ak)(p_key:ak)(r0:Bool):Mo (Bool):=
 .iG 4008 (r0) (.rt [2,3,20] 2 (true))<|
 .nu p_doc.bG aB.lf<|
 .rt [2,3,20] 2 ((p_doc.bG.length:Int)==0)
noncomputable def Kt(p_doc:ak)(p_key:ak):Mo (Bool):=
 .ask (gX p_doc.bG 0) fun x0 h0=>
 .say [] (ok1 (dU aB.aX h0))<|
 .ite (!decide ((x0.fName:ByteArray)=(⟨#[95,105,100]⟩:ByteArray))) (fun c0=>
 .say [.dZ (.q 0 (.q 1 (.q 2 (.q 3 (.q 4 (.q 5 (.q 6 (.q 7 (.q 8 (.q 9 (.q 10 (.q 11 (.q 12 (.l 13 (.q 14 (.q 15 .fin)))))))))))))))) (some 13) [] [.row (aB.lf1 x0),.gd 8006 true] [2,36] 2 [(2,.ptr 0 0),(36,.b_ true)] [bF p_doc,bF p_key]] (okc c0 (ok1 (rf_ ⟨[(2,.ptr 0 0),(36,.b_ true)],[bF p_doc,bF p_key]⟩)))<|
 .ret ⟨[.kill 1],[2,36],[],2⟩ (true)) fun c0=>
 .say [] (ok1 c0)<|
 .ask (gX p_doc.bG 0) fun x1 h1=>
 .say [] (ok1 (dU aB.aX h1))<|
 .ask (adv x1.fValue p_key) fun r0 h2=>
 .say [.dZ (.q 0 (.q 1 (.q 2 (.q 3 (.q 4 (.q 5 (.q 6 (.q 7 (.q 8 (.q 9 (.q 10 (.q 11 (.q 12 (.l 13 (.q 14 (.q 15 .fin)))))))))))))))) (some 13) [] [.row (aB.lf1 x0),.gd 8006 false,.row (aB.lf1 x1),.res (.b_ r0)] [2,36] 2 [(2,.ptr 0 0),(36,.lf (.bool (!r0)))] [bF p_doc,bF p_key]] (okc (ND _ _ _ h2) (ok1 (rf_ ⟨[(2,.ptr 0 0),(36,.lf (.bool (!r0)))],[bF p_doc,bF p_key]⟩)))<|
 .ret ⟨[.kill 1],[2,36],[],2⟩ (!r0)
noncomputable def ajb(p_doc:ak)(p_key:ak):Mo (Int):=
 .sf Tryz.f171 0 [1,0,0] 0 8 1 [(2,.ptr 0 0),(3,.ptr 1 0)] [bF p_doc,bF p_key] 14 (RV p_doc p_key) fun r0=>
 .sb Tryz.f171 0 [1,0,0] 8 6 1 [(2,.ptr 0 0),(3,.ptr 1 0)] [bF p_doc,bF p_key] 14 20 r0 (RX p_doc p_key r0) fun r1=>
 .iB (r1) (.ret (bn 1) (8))<|
 .jk Tryz.f171 0 [1,1,0,0] 13 (fun r_=>⟨[(2,.ptr 0 0),(36,.b_ r_)],[bF p_doc,.dead]⟩) ⟨[(2,.ptr 0 0),(3,.ptr 1 0)],[bF p_doc,bF p_key]⟩ (Kt p_doc p_key) fun r2=>
 .iB (r2) (.ret (bn 1) (8))<|
 .cl (ah6 p_doc) fun r3 _=>
 .iB (r3.2 != 0) (.ret (bn 1) (r3.2))<|
 .iB (decide ((16384:Int)<r3.1)) (.ret (bn 1) (2))<|
 .ret (bn 1) (0)
noncomputable def Q75(p_doc:ak)(p_key:ak):Option (Int):=Mo.den (ajb p_doc p_key)
theorem aeE(p_doc:ak)(p_key:ak):FV (Q75 p_doc p_key) 171 [.dat (ak.lf1 p_doc),.dat (ak.lf1 p_key)] .i_:=dI Tryz.func171
noncomputable def aaj(p_w:ay):Mo ((Int)⊕Unit):=
 .iB (p_w.aH==2) (.cl (aeE p_w.bG p_w.eF) fun r0 _=>
 .iB (r0 != 0) (.ret ⟨[.kill 0],[2],[],1⟩ (.inl (r0)))<|
 .rt [1] 1 (.inr (())))<|
 .rt [1] 1 (.inr (()))
noncomputable def aeF(p_w:ay):Mo (Int):=
 .cl (akZ p_w.eF) fun r0 _=>
 .iB (!r0) (.ret (bn 1) (8))<|
 .j2 [] Tryz.f111 0 [1,1,0,1] 1 .ret (fun o_=>⟨[(2,.i_ o_)],[.dead]⟩) .normal (fun _=>⟨[(1,.ptr 0 0)],[bY p_w]⟩) ⟨[(1,.ptr 0 0),(10,.lf (.bool (p_w.aH==2)))],[bY p_w]⟩ (aaj p_w) (fun o0=>
 .ret (bn 1) (o0)) fun o1=>
 .cl (uV p_w.gZ) fun r1 _=>
 .iB (r1) (.ret (bn 1) (0))<|
 .cl (aeE p_w.gZ p_w.eF) fun r2 _=>
 .ret (bn 1) (r2)
noncomputable def am3(p_w:ay):Option (Int):=Mo.den (aeF p_w)
theorem ah7(p_w:ay):FV (am3 p_w) 111 [.dat (ay.lf1 p_w)] .i_:=dI Tryz.func111
abbrev NZ(m:ay→Int→Int→Option (Int)):Prop:=∀p_w p_least p_greatest,FV (m p_w p_least p_greatest) 70 [.dat (ay.lf1 p_w),.i_ p_least,.i_ p_greatest] .i_
structure Ag where
 m1:(p_w:ay)→(p_least:Int)→(p_greatest:Int)→Option (Int)
 ok1:NZ m1
noncomputable def RY(R_:Ag)(p_greatest:Int)(p_least:Int)(p_w:ay)(r0:aQ):Mo (Bool):=
 .oV 6004 (decide ((p_w.aH:Int)<p_least)) [2,3,7,24] 2 (decide ((p_greatest:Int)<p_w.aH))
noncomputable def RZ(R_:Ag)(p_greatest:Int)(p_w:ay)(r0:aQ)(r1:Bool):Mo (Bool):=
 .iG 6010 (r1) (.rt [2,3,7,29] 2 (true))<|
 .cl (akX p_w) fun r2 _=>
 .rt [2,3,7,29] 2 (!r2)
noncomputable def Ku(R_:Ag)(p_greatest:Int)(p_w:ay)(r0:aQ)(r1:Bool):Mo (Bool):=
 .iG 6015 (r1) (.rt [2,3,7,39] 2 (true))<|
 .iG 6018 (r0.bK) (.nu p_w.bQ ay.lf<|
 .rt [2,3,7,39] 2 ((p_w.bQ.length:Int)==0))<|
 .rt [2,3,7,39] 2 (false)
noncomputable def Kv(R_:Ag)(p_greatest:Int)(p_w:ay)(r0:aQ):Mo (Bool):=
 .iG 14002 (r0.mP) (.cl (DZ p_w.aY) fun r1 _=>
 .rt [2,3,7,51] 2 (!r1))<|
 .rt [2,3,7,51] 2 (false)
noncomputable def Kw(R_:Ag)(p_greatest:Int)(p_w:ay)(r0:aQ)(r1:Bool):Mo (Bool):=
 .iG 14008 (r1) (.rt [2,3,7,61] 2 (true))<|
 .iG 14011 (r0.BA) (.cl (DZ p_w.dW) fun r2 _=>
 .rt [2,3,7,61] 2 (!r2))<|
 .rt [2,3,7,61] 2 (false)
noncomputable def Ky(R_:Ag)(p_greatest:Int)(p_w:ay)(r0:aQ)(r1:Bool):Mo (Bool):=
 .iG 14018 (r1) (.rt [2,3,7,72] 2 (true))<|
 .iG 14021 (r0.gB) (.cl (DZ p_w.eP.fName) fun r2 _=>
 .rt [2,3,7,72] 2 (!r2))<|
 .rt [2,3,7,72] 2 (false)
noncomputable def Kz(R_:Ag)(p_greatest:Int)(p_w:ay)(r0:aQ):Mo (Bool):=
 .iG 18002 (r0.dF) (.cl (ah3 p_w) fun r1 _=>
 .rt [2,3,7,79] 2 (!r1))<|
 .rt [2,3,7,79] 2 (false)
noncomputable def KA(R_:Ag)(p_greatest:Int)(p_w:ay)(r0:aQ)(r1:Bool):Mo (Bool):=
 .iG 18007 (r1) (.rt [2,3,7,89] 2 (true))<|
 .iG 18010 (r0.kT) (.cl (akY p_w.ig) fun r2 _=>
 .rt [2,3,7,89] 2 (!r2))<|
 .rt [2,3,7,89] 2 (false)
noncomputable def KC(R_:Ag)(p_greatest:Int)(p_w:ay)(r0:aQ):Mo ((Int)⊕Unit):=
 .iB (r0.zA) (.cl (ah7 p_w) fun r1 _=>
 .iB (r1 != 0) (.ret ⟨[.kill 0],[6],[],2⟩ (.inl (r1)))<|
 .rt [2,3] 2 (.inr (())))<|
 .rt [2,3] 2 (.inr (()))
noncomputable def KD(R_:Ag)(p_greatest:Int)(p_w:ay):Mo ((Int)⊕(Int)):=
 .iB (p_w.aH==4) (.cl (adU p_w.gy) fun r0 _=>
 .ret ⟨[.kill 0],[6],[],2⟩ (.inl (r0)))<|
 .iB (p_w.aH==6) (.cl (Vg p_w.eP) fun r1 _=>
 .ret ⟨[.kill 0],[6],[],2⟩ (.inl (r1)))<|
 .iB (p_w.aH==8) (.rt [2,3] 2 (.inr (7)))<|
 .iB (p_w.aH==9) (.rt [2,3] 2 (.inr (3)))<|
 .rt [2,3] 2 (.inr (p_greatest))
noncomputable def KE(R_:Ag)(o0:Int)(p_w:ay):(Int)→Mo ((Int)⊕(Int)⊕Unit):=fun(v0)=>
 .iB (decide ((v0:Int)<(p_w.bQ.length:Int))) (.gx ay.aX p_w.bQ v0 fun x0 _=>
 .cl (R_.ok1 x0 2 o0) fun r0 _=>
 .iB (r0 != 0) (.rt [6] 2 (.inr (.inl (r0))))<|
 .rt [2,114,115,116] 2 (.inl (IntKind.wrap .i64 (v0+1))))<|
 .rt [] 2 (.inr (.inr (())))
noncomputable def aeG(R_:Ag)(p_w:ay)(p_least:Int)(p_greatest:Int):Mo (Int):=
 .cl (XZ p_w.aH) fun r0 _=>
 .sk Tryz.f70 0 [1,1,0,0] 0 10 2 (fun r_=>⟨[(2,.i_ p_greatest),(3,.ptr 0 0),(7,.ptr 1 0),(24,.b_ r_)],[bY p_w,.box 187 (.agg ((aQ.lf1 r0).map AV.lf))]⟩) ⟨[(1,.i_ p_least),(2,.i_ p_greatest),(3,.ptr 0 0),(7,.ptr 1 0)],[bY p_w,.box 187 (.agg ((aQ.lf1 r0).map AV.lf))]⟩ (RY R_ p_greatest p_least p_w r0) fun r1=>
 .sb Tryz.f70 0 [1,1,0,0] 10 5 2 [(2,.i_ p_greatest),(3,.ptr 0 0),(7,.ptr 1 0)] [bY p_w,.box 187 (.agg ((aQ.lf1 r0).map AV.lf))] 24 29 r1 (RZ R_ p_greatest p_w r0 r1) fun r2=>
 .sb Tryz.f70 0 [1,1,0,0] 15 10 2 [(2,.i_ p_greatest),(3,.ptr 0 0),(7,.ptr 1 0)] [bY p_w,.box 187 (.agg ((aQ.lf1 r0).map AV.lf))] 29 39 r2 (Ku R_ p_greatest p_w r0 r2) fun r3=>
 .iB (r3) (.ret (bn 1) (11))<|
 .nu p_w.bQ ay.lf<|
 .iB (decide ((256:Int)<(p_w.bQ.length:Int))) (.ret (bn 1) (2))<|
 .sf Tryz.f70 0 [1,1,1,1,0,0] 0 8 6 [(2,.i_ p_greatest),(3,.ptr 0 0),(7,.ptr 1 0)] [bY p_w,.box 187 (.agg ((aQ.lf1 r0).map AV.lf))] 51 (Kv R_ p_greatest p_w r0) fun r4=>
 .sb Tryz.f70 0 [1,1,1,1,0,0] 8 10 6 [(2,.i_ p_greatest),(3,.ptr 0 0),(7,.ptr 1 0)] [bY p_w,.box 187 (.agg ((aQ.lf1 r0).map AV.lf))] 51 61 r4 (Kw R_ p_greatest p_w r0 r4) fun r5=>
 .sb Tryz.f70 0 [1,1,1,1,0,0] 18 11 6 [(2,.i_ p_greatest),(3,.ptr 0 0),(7,.ptr 1 0)] [bY p_w,.box 187 (.agg ((aQ.lf1 r0).map AV.lf))] 61 72 r5 (Ky R_ p_greatest p_w r0 r5) fun r6=>
 .iB (r6) (.ret (bn 1) (9))<|
 .sf Tryz.f70 0 [1,1,1,1,1,0,0] 0 7 8 [(2,.i_ p_greatest),(3,.ptr 0 0),(7,.ptr 1 0)] [bY p_w,.box 187 (.agg ((aQ.lf1 r0).map AV.lf))] 79 (Kz R_ p_greatest p_w r0) fun r7=>
 .sb Tryz.f70 0 [1,1,1,1,1,0,0] 7 10 8 [(2,.i_ p_greatest),(3,.ptr 0 0),(7,.ptr 1 0)] [bY p_w,.box 187 (.agg ((aQ.lf1 r0).map AV.lf))] 79 89 r7 (KA R_ p_greatest p_w r0 r7) fun r8=>
 .iB (r8) (.ret (bn 1) (1))<|
 .j2 [.kill 1] Tryz.f70 0 [1,1,1,1,1,1,0,1] 1 .ret (fun o_=>⟨[(6,.i_ o_)],[.dead,.dead]⟩) .normal (fun _=>⟨[(2,.i_ p_greatest),(3,.ptr 0 0)],[bY p_w,.dead]⟩) ⟨[(2,.i_ p_greatest),(3,.ptr 0 0),(91,.b_ r0.zA)],[bY p_w,.dead]⟩ (KC R_ p_greatest p_w r0) (fun o0=>
 .ret (bn 1) (o0)) fun o1=>
 .j2 [] Tryz.f70 0 [1,1,1,1,1,1,1,0,1] 6 .ret (fun o_=>⟨[(6,.i_ o_)],[.dead,.dead]⟩) .normal (fun o_=>⟨[(2,.i_ o_),(3,.ptr 0 0)],[bY p_w,.dead]⟩) ⟨[(2,.i_ p_greatest),(3,.ptr 0 0),(98,.i_ p_w.aH)],[bY p_w,.dead]⟩ (KD R_ p_greatest p_w) (fun o2=>
 .ret (bn 1) (o2)) fun o3=>
 .nu p_w.bQ ay.lf<|
 .l2y [.kill 0] Tryz.f70 0 [1,1,1,1,1,1,1,1,0,1,0] 0 (fun(v0)=>⟨[(2,.i_ o3),(114,.lf (.rows 78 (p_w.bQ.map ay.lf))),(115,.i_ (p_w.bQ.length:Int)),(116,.i_ v0)],[.dead,.dead]⟩) .ret (fun o_=>⟨[(6,.i_ o_)],[.dead,.dead]⟩) (.exit 1) (fun _=>⟨[],[.dead,.dead]⟩) (KE R_ o3 p_w) (0) (fun o4=>
 .ret (bn 1) (o4)) fun o5=>
 .ret (bn 1) (0)
theorem ah8(R_:Ag):NZ fun p_w p_least p_greatest=>Mo.den (aeG R_ p_w p_least p_greatest):=fun _ _ _=>dI Tryz.func70
noncomputable def kL:Nat→Ag
 |0=>{ m1:=fun p_w p_least p_greatest=>none,ok1:=fun _ _ _ _ h=>(by cases h) }
 |n_+1=>{ m1:=fun p_w p_least p_greatest=>Mo.den (aeG (kL n_) p_w p_least p_greatest),ok1:=ah8 (kL n_) }
noncomputable def Q13(p_w:ay)(p_least:Int)(p_greatest:Int):Option (Int):=(kL FU).m1 p_w p_least p_greatest
theorem ak2:NZ Q13:=(kL FU).ok1
noncomputable def aak(p_e:bI):Mo (Bool):=
 .oV 8003 (decide ((p_e.cZ:Int)<1)) [1,13] 1 (decide ((1099511627776:Int)<p_e.cZ))
noncomputable def aal(p_e:bI)(r0:Bool):Mo (Bool):=
 .oV 8008 (r0) [1,18] 1 (decide ((p_e.rX:Int)<0))
noncomputable def VI(p_e:bI):Mo (Bool):=
 .iG 12003 (!decide ((p_e.eX:ByteArray)=(⟨#[]⟩:ByteArray))) (.cl (DZ p_e.eX) fun r0 _=>
 .rt [1,27] 1 (!r0))<|
 .rt [1,27] 1 (false)
noncomputable def aeH(p_e:bI):Mo (Int):=
 .iB (decide ((p_e.aiz:Int)<0)) (.ret (bn 1) (24))<|
 .sf Tryz.f39 0 [1,1,0,0] 0 8 3 [(1,.ptr 0 0)] [P7 p_e] 13 (aak p_e) fun r0=>
 .sb Tryz.f39 0 [1,1,0,0] 8 5 3 [(1,.ptr 0 0)] [P7 p_e] 13 18 r0 (aal p_e r0) fun r1=>
 .iB (r1) (.ret (bn 1) (1))<|
 .jk Tryz.f39 0 [1,1,1,0,0] 17 (fun r_=>⟨[(1,.ptr 0 0),(27,.b_ r_)],[P7 p_e]⟩) ⟨[(1,.ptr 0 0)],[P7 p_e]⟩ (VI p_e) fun r2=>
 .iB (r2) (.ret (bn 1) (9))<|
 .cl (ak2 p_e.iO 1 12) fun r3 _=>
 .ret (bn 1) (r3)
noncomputable def am4(p_e:bI):Option (Int):=Mo.den (aeH p_e)
theorem ah9(p_e:bI):FV (am4 p_e) 39 [.dat (bI.lf1 p_e)] .i_:=dI Tryz.func39
noncomputable def Si(l0:List ay)(p_b0_0:Int)(p_b0_1:List aj)(p_s1:bg)(p_s2:List (ByteArray×ah))(p_s3:List (ByteArray×au))(p_t:Int)(p_w:ay)(v0:Int)(v1:Int)(x0:ay)(x1:ay):Mo (Bool):=
 .iG 30005 (decide ((x0.aY:ByteArray)=(x1.aY:ByteArray))) (.cl (ND x0.eF x1.eF) fun r0 _=>
 .ret ⟨[.kill 9],[0,2,4,9,11,30,31,32,44,45,46,61],[],10⟩ (r0))<|
 .ret ⟨[.kill 9],[0,2,4,9,11,30,31,32,44,45,46,61],[],10⟩ (false)
noncomputable def Ah(l0:List ay)(p_b0_0:Int)(p_b0_1:List aj)(p_s1:bg)(p_s2:List (ByteArray×ah))(p_s3:List (ByteArray×au))(p_t:Int)(p_w:ay)(v0:Int)(x0:ay):(Int)→Mo ((Int)⊕(Unit⊕Unit)):=fun(v1)=>
 .iB (decide ((v1:Int)<(l0.length:Int))) (.ask (gX l0 v1) fun x1 h0=>
 .say [.row (ay.lf1 x1)] (okc (pJ ay.aX h0) (ok1 ((dU ay.aX h0).2)))<|
 .jk Tryz.f72 4 [1,1,1,0,1,0,0,1,1,0,0,1,1,0,1,0,0,1,1,0,0,1,0] 35 (fun r_=>⟨[(0,.ptr 0 0),(2,.i_ p_t),(4,.ptr 4 0),(9,.ptr 6 0),(11,.ptr 8 0),(30,.lf (.rows 78 (p_w.bQ.map ay.lf))),(31,.i_ (p_w.bQ.length:Int)),(32,.i_ v0),(44,.own 7),(45,.i_ (l0.length:Int)),(46,.i_ v1),(61,.b_ r_)],[.box 113 (.agg [.i_ p_b0_0,.lf (.rows 25 (p_b0_1.map aj.lf)),.mp 1,.mp 2,.mp 3]),.res (bD p_s1 none) none,.res (bP p_s2) none,.res (bT p_s3) none,bY p_w,.dead,.box 128 (.agg [.i_ p_t,.own 7]),.row 64 78 (l0.map ay.lf),.box 64 (.agg ((ay.lf1 x0).map AV.lf)),.dead]⟩) ⟨[(0,.ptr 0 0),(2,.i_ p_t),(4,.ptr 4 0),(9,.ptr 6 0),(11,.ptr 8 0),(14,.ptr 9 0),(30,.lf (.rows 78 (p_w.bQ.map ay.lf))),(31,.i_ (p_w.bQ.length:Int)),(32,.i_ v0),(44,.own 7),(45,.i_ (l0.length:Int)),(46,.i_ v1)],[.box 113 (.agg [.i_ p_b0_0,.lf (.rows 25 (p_b0_1.map aj.lf)),.mp 1,.mp 2,.mp 3]),.res (bD p_s1 none) none,.res (bP p_s2) none,.res (bT p_s3) none,bY p_w,.dead,.box 128 (.agg [.i_ p_t,.own 7]),.row 64 78 (l0.map ay.lf),.box 64 (.agg ((ay.lf1 x0).map AV.lf)),.box 64 (.agg ((ay.lf1 x1).map AV.lf))]⟩ (Si l0 p_b0_0 p_b0_1 p_s1 p_s2 p_s3 p_t p_w v0 v1 x0 x1) fun r0=>
 .iB (r0) (.ret ⟨[.kill 4,.kill 6,.kill 7,.kill 8],[6],[],9⟩ (.inr (.inl ())))<|
 .rt [0,2,4,9,11,30,31,32,44,45,46] 9 (.inl (IntKind.wrap .i64 (v1+1))))<|
 .rt [0,2,4,9,11,30,31,32] 9 (.inr (.inr (())))
noncomputable def aeI(l0:List ay)(p_b0_0:Int)(p_b0_1:List aj)(p_s1:bg)(p_s2:List (ByteArray×ah))(p_s3:List (ByteArray×au))(p_t:Int)(p_w:ay)(v0:Int)(x0:ay)(v1:Int):Option (Unit⊕Unit):=dh (fun v_=>(Ah l0 p_b0_0 p_b0_1 p_s1 p_s2 p_s3 p_t p_w v0 x0 v_).den) FU (v1)
noncomputable def wJ(p_b0_0:Int)(p_b0_1:List aj)(p_s1:bg)(p_s2:List (ByteArray×ah))(p_s3:List (ByteArray×au))(p_t:Int)(p_w:ay):(Int×(List ay))→Mo ((Int×(List ay))⊕(Int)⊕((List ay))):=fun(v0,l0)=>
 .iB (decide ((v0:Int)<(p_w.bQ.length:Int))) (.gx ay.aX p_w.bQ v0 fun x0 _=>
 .say [.at_ 18 3,.tod 37] ok0<|
 .cH [0,1,2,3] (adK x0 p_t p_b0_0 p_b0_1 p_s1 p_s2 p_s3) fun r0 _=>
 .iB (r0 != 0) (.ret ⟨[.kill 4,.kill 6,.kill 7],[6],[],8⟩ (.inr (.inl (r0))))<|
 .nu l0 ay.lf<|
 .l2m [] Tryz.f72 4 [1,1,1,0,1,0,0,1,1,0,0,1,1,0,1,0] 0 (fun(v1)=>⟨[(0,.ptr 0 0),(2,.i_ p_t),(4,.ptr 4 0),(9,.ptr 6 0),(11,.ptr 8 0),(30,.lf (.rows 78 (p_w.bQ.map ay.lf))),(31,.i_ (p_w.bQ.length:Int)),(32,.i_ v0),(44,.own 7),(45,.i_ (l0.length:Int)),(46,.i_ v1)],[.box 113 (.agg [.i_ p_b0_0,.lf (.rows 25 (p_b0_1.map aj.lf)),.mp 1,.mp 2,.mp 3]),.res (bD p_s1 none) none,.res (bP p_s2) none,.res (bT p_s3) none,bY p_w,.dead,.box 128 (.agg [.i_ p_t,.own 7]),.row 64 78 (l0.map ay.lf),.box 64 (.agg ((ay.lf1 x0).map AV.lf))]⟩) .ret (fun _=>⟨[(6,.i_ 28)],[.box 113 (.agg [.i_ p_b0_0,.lf (.rows 25 (p_b0_1.map aj.lf)),.mp 1,.mp 2,.mp 3]),.res (bD p_s1 none) none,.res (bP p_s2) none,.res (bT p_s3) none,.dead,.dead,.dead,.dead,.dead]⟩) (.exit 2) (fun _=>⟨[(0,.ptr 0 0),(2,.i_ p_t),(4,.ptr 4 0),(9,.ptr 6 0),(11,.ptr 8 0),(30,.lf (.rows 78 (p_w.bQ.map ay.lf))),(31,.i_ (p_w.bQ.length:Int)),(32,.i_ v0)],[.box 113 (.agg [.i_ p_b0_0,.lf (.rows 25 (p_b0_1.map aj.lf)),.mp 1,.mp 2,.mp 3]),.res (bD p_s1 none) none,.res (bP p_s2) none,.res (bT p_s3) none,bY p_w,.dead,.box 128 (.agg [.i_ p_t,.own 7]),.row 64 78 (l0.map ay.lf),.box 64 (.agg ((ay.lf1 x0).map AV.lf))]⟩) (aeI l0 p_b0_0 p_b0_1 p_s1 p_s2 p_s3 p_t p_w v0 x0 0) (Ah l0 p_b0_0 p_b0_1 p_s1 p_s2 p_s3 p_t p_w v0 x0) (0) (fun o0=>
 .rt [6] 8 (.inr (.inl (28)))) fun o1=>
 .ask (Q18 x0.eF) fun r1 h0=>
 .say [] (ok1 (uS _ _ h0))<|
 .ask (Q18 x0.bG) fun r2 h1=>
 .say [.dZ (.q 0 (.q 1 (.q 2 (.q 3 (.q 4 (.q 5 (.q 7 (.q 8 (.alt 6 (.alt 9 (.q 10 (.l 11 (.l 12 .fin))) (.l 11 (.l 9 (.q 10 (.l 12 .fin))))) (.l 11 (.l 6 (.l 9 (.q 10 (.l 12 .fin)))))))))))))) (some 12) [9] [.both [.at_ 36 6,.resv 1,.res (.dat (ak.lf1 r1)),.both [.res (.dat (ak.lf1 r2)),.slot 9] [.slot 9,.res (.dat (ak.lf1 r2))]] [.at_ 36 11,.resv 1,.slot 9,.res (.dat (ak.lf1 r1)),.res (.dat (ak.lf1 r2))]] [0,2,4,9,15,30,31,32] 10 [(0,.ptr 0 0),(2,.i_ p_t),(4,.ptr 4 0),(9,.ptr 6 0),(15,.ptr 9 0),(30,.lf (.rows 78 (p_w.bQ.map ay.lf))),(31,.i_ (p_w.bQ.length:Int)),(32,.i_ v0)] [.box 113 (.agg [.i_ p_b0_0,.lf (.rows 25 (p_b0_1.map aj.lf)),.mp 1,.mp 2,.mp 3]),.res (bD p_s1 none) none,.res (bP p_s2) none,.res (bT p_s3) none,bY p_w,.dead,.box 128 (.agg [.i_ p_t,.own 7]),.row 64 78 (l0.map ay.lf),.box 64 (.agg ((ay.lf1 x0).map AV.lf)),.box 64 (Es Z64 [(0,.i_ x0.aH),(1,.lf (.str x0.aY)),(2,.i_ r1.aH),(3,.i_ r1.dR),(4,.lf (.str r1.fText)),(5,.lf (.rows 5 (r1.bC.map ak.lf))),(6,.lf (.rows 6 (r1.bG.map aB.lf))),(7,.i_ r2.aH),(8,.i_ r2.dR),(9,.lf (.str r2.fText)),(10,.lf (.rows 5 (r2.bC.map ak.lf))),(11,.lf (.rows 6 (r2.bG.map aB.lf)))])],.rows ((l0++[ay.Pv (ay.Pq (ay.uH (ay.qF ay.z x0.aH) x0.aY) r1) r2]).map ay.lf)] (okc (uS _ _ h1) (okc (rf_ ⟨[(0,.ptr 0 0),(2,.i_ p_t),(4,.ptr 4 0),(9,.ptr 6 0),(15,.ptr 9 0),(30,.lf (.rows 78 (p_w.bQ.map ay.lf))),(31,.i_ (p_w.bQ.length:Int)),(32,.i_ v0)],[.box 113 (.agg [.i_ p_b0_0,.lf (.rows 25 (p_b0_1.map aj.lf)),.mp 1,.mp 2,.mp 3]),.res (bD p_s1 none) none,.res (bP p_s2) none,.res (bT p_s3) none,bY p_w,.dead,.box 128 (.agg [.i_ p_t,.own 7]),.row 64 78 (l0.map ay.lf),.box 64 (.agg ((ay.lf1 x0).map AV.lf)),.box 64 (Es Z64 [(0,.i_ x0.aH),(1,.lf (.str x0.aY)),(2,.i_ r1.aH),(3,.i_ r1.dR),(4,.lf (.str r1.fText)),(5,.lf (.rows 5 (r1.bC.map ak.lf))),(6,.lf (.rows 6 (r1.bG.map aB.lf))),(7,.i_ r2.aH),(8,.i_ r2.dR),(9,.lf (.str r2.fText)),(10,.lf (.rows 5 (r2.bC.map ak.lf))),(11,.lf (.rows 6 (r2.bG.map aB.lf)))])]⟩) (okc (uS _ _ h1) (okc (rf_ ⟨[(0,.ptr 0 0),(2,.i_ p_t),(4,.ptr 4 0),(9,.ptr 6 0),(15,.ptr 9 0),(30,.lf (.rows 78 (p_w.bQ.map ay.lf))),(31,.i_ (p_w.bQ.length:Int)),(32,.i_ v0)],[.box 113 (.agg [.i_ p_b0_0,.lf (.rows 25 (p_b0_1.map aj.lf)),.mp 1,.mp 2,.mp 3]),.res (bD p_s1 none) none,.res (bP p_s2) none,.res (bT p_s3) none,bY p_w,.dead,.box 128 (.agg [.i_ p_t,.own 7]),.row 64 78 (l0.map ay.lf),.box 64 (.agg ((ay.lf1 x0).map AV.lf)),.box 64 (Es Z64 [(0,.i_ x0.aH),(1,.lf (.str x0.aY)),(2,.i_ r1.aH),(3,.i_ r1.dR),(4,.lf (.str r1.fText)),(5,.lf (.rows 5 (r1.bC.map ak.lf))),(6,.lf (.rows 6 (r1.bG.map aB.lf))),(7,.i_ r2.aH),(8,.i_ r2.dR),(9,.lf (.str r2.fText)),(10,.lf (.rows 5 (r2.bC.map ak.lf))),(11,.lf (.rows 6 (r2.bG.map aB.lf)))])]⟩) (okc (uS _ _ h0) (okc (uS _ _ h1) (okc (rf_ ⟨[(0,.ptr 0 0),(2,.i_ p_t),(4,.ptr 4 0),(9,.ptr 6 0),(15,.ptr 9 0),(30,.lf (.rows 78 (p_w.bQ.map ay.lf))),(31,.i_ (p_w.bQ.length:Int)),(32,.i_ v0)],[.box 113 (.agg [.i_ p_b0_0,.lf (.rows 25 (p_b0_1.map aj.lf)),.mp 1,.mp 2,.mp 3]),.res (bD p_s1 none) none,.res (bP p_s2) none,.res (bT p_s3) none,bY p_w,.dead,.box 128 (.agg [.i_ p_t,.own 7]),.row 64 78 (l0.map ay.lf),.box 64 (.agg ((ay.lf1 x0).map AV.lf)),.box 64 (Es Z64 [(0,.i_ x0.aH),(1,.lf (.str x0.aY)),(2,.i_ r1.aH),(3,.i_ r1.dR),(4,.lf (.str r1.fText)),(5,.lf (.rows 5 (r1.bC.map ak.lf))),(6,.lf (.rows 6 (r1.bG.map aB.lf))),(7,.i_ r2.aH),(8,.i_ r2.dR),(9,.lf (.str r2.fText)),(10,.lf (.rows 5 (r2.bC.map ak.lf))),(11,.lf (.rows 6 (r2.bG.map aB.lf)))])]⟩) (ok1 (by simp[ay.aX]:(l0++[ay.Pv (ay.Pq (ay.uH (ay.qF ay.z x0.aH) x0.aY) r1) r2]).map ay.lf=(l0.map ay.lf)++[(ay.lf1 (ay.Pv (ay.Pq (ay.uH (ay.qF ay.z x0.aH) x0.aY) r1) r2))])))))))))<|
 .grd ((l0.length+[ay.Pv (ay.Pq (ay.uH (ay.qF ay.z x0.aH) x0.aY) r1) r2].length)*1168≤140737488355328) fun h2=>
 .say [] (ok1 (cp_ ay.lf h2))<|
 .ret ⟨[],[0,2,4,9,30,31,32],[(11,7)],8⟩ (.inl (IntKind.wrap .i64 (v0+1),l0++[ay.Pv (ay.Pq (ay.uH (ay.qF ay.z x0.aH) x0.aY) r1) r2])))<|
 .rt [0,4,9] 8 (.inr (.inr (l0)))
noncomputable def X0(p_b0_0:Int)(p_b0_1:List aj)(p_s1:bg)(p_s2:List (ByteArray×ah))(p_s3:List (ByteArray×au))(p_t:Int)(p_w:ay)(v0:Int)(l0:List ay):Option ((Int)⊕((List ay))):=dh (fun v_=>(wJ p_b0_0 p_b0_1 p_s1 p_s2 p_s3 p_t p_w v_).den) FU (v0,l0)
noncomputable def an3(p_w:ay)(p_t:Int)(p_b0_0:Int)(p_b0_1:List aj)(p_s1:bg)(p_s2:List (ByteArray×ah))(p_s3:List (ByteArray×au))(r:Int×List (ByteArray×ah)):List AV:=[.i_ r.1]
noncomputable def am5(p_w:ay)(p_t:Int)(p_b0_0:Int)(p_b0_1:List aj)(p_s1:bg)(p_s2:List (ByteArray×ah))(p_s3:List (ByteArray×au))(r:Int×List (ByteArray×ah)):List Slot:=[.box 113 (.agg [.i_ p_b0_0,.lf (.rows 25 (p_b0_1.map aj.lf)),.mp 1,.mp 2,.mp 3]),.res (bD p_s1 none) none,.res (bP r.2) none,.res (bT p_s3) none]
noncomputable def aeJ(p_w:ay)(p_t:Int)(p_b0_0:Int)(p_b0_1:List aj)(p_s1:bg)(p_s2:List (ByteArray×ah))(p_s3:List (ByteArray×au)):Mo (Int×List (ByteArray×ah)):=
 .say [.dZ (.q 0 (.q 1 (.q 2 (.q 3 (.q 4 (.q 5 (.alt 6 (.q 7 (.q 8 (.q 9 (.l 10 (.l 11 (.q 12 .fin)))))) (.l 10 (.l 6 (.q 7 (.q 8 (.q 9 (.l 11 (.q 12 .fin)))))))))))))) none [2,5] [.both [.at_ 4 6,.resv 1,.opH [2] (.tup [.dat (ah.lf1 ((aN p_w.dW p_s2).getD ah.z)),.lf (.bool ((aN p_w.dW p_s2).isSome))]) [.res (bP p_s2) none],.slot 5] [.at_ 4 10,.resv 1,.slot 5,.opH [2] (.tup [.dat (ah.lf1 ((aN p_w.dW p_s2).getD ah.z)),.lf (.bool ((aN p_w.dW p_s2).isSome))]) [.res (bP p_s2) none]]] [0,2,4,8] 6 [(0,.ptr 0 0),(2,.i_ p_t),(4,.ptr 4 0),(8,.lf (.bool ((aN p_w.dW p_s2).isSome)))] [.box 113 (.agg [.i_ p_b0_0,.lf (.rows 25 (p_b0_1.map aj.lf)),.mp 1,.mp 2,.mp 3]),.res (bD p_s1 none) none,.res (bP p_s2) none,.res (bT p_s3) none,bY p_w,.box 128 (.agg [.i_ (((aN p_w.dW p_s2).getD ah.z).dF),.lf (.rows 78 ((((aN p_w.dW p_s2).getD ah.z).bK).map ay.lf))])]] (okc (wo p_s2 p_w.dW) (okc (rf_ ⟨[(0,.ptr 0 0),(2,.i_ p_t),(4,.ptr 4 0),(8,.lf (.bool ((aN p_w.dW p_s2).isSome)))],[.box 113 (.agg [.i_ p_b0_0,.lf (.rows 25 (p_b0_1.map aj.lf)),.mp 1,.mp 2,.mp 3]),.res (bD p_s1 none) none,.res (bP p_s2) none,.res (bT p_s3) none,bY p_w,.box 128 (.agg [.i_ (((aN p_w.dW p_s2).getD ah.z).dF),.lf (.rows 78 ((((aN p_w.dW p_s2).getD ah.z).bK).map ay.lf))])]⟩) (okc (wo p_s2 p_w.dW) (ok1 (rf_ ⟨[(0,.ptr 0 0),(2,.i_ p_t),(4,.ptr 4 0),(8,.lf (.bool ((aN p_w.dW p_s2).isSome)))],[.box 113 (.agg [.i_ p_b0_0,.lf (.rows 25 (p_b0_1.map aj.lf)),.mp 1,.mp 2,.mp 3]),.res (bD p_s1 none) none,.res (bP p_s2) none,.res (bT p_s3) none,bY p_w,.box 128 (.agg [.i_ (((aN p_w.dW p_s2).getD ah.z).dF),.lf (.rows 78 ((((aN p_w.dW p_s2).getD ah.z).bK).map ay.lf))])]⟩)))))<|
 .iB ((aN p_w.dW p_s2).isSome) (.ret ⟨[.kill 4,.kill 5],[0],[],4⟩ ((16:Int),p_s2))<|
 .say [.num p_w.bQ.length] (okc (ln_ p_w.bQ ay.lf) (ok1 (by simp[ay.aX]:(([]:List ay).map ay.lf)=[])))<|
 .l2m [.kill 5,.Yn 6 1 64,.lu 7 (([]:List ay).map ay.lf)] Tryz.f72 4 [1,1,1,0,1,0] 0 (fun(v0,l0)=>⟨[(0,.ptr 0 0),(2,.i_ p_t),(4,.ptr 4 0),(9,.ptr 6 0),(30,.lf (.rows 78 (p_w.bQ.map ay.lf))),(31,.i_ (p_w.bQ.length:Int)),(32,.i_ v0)],[.box 113 (.agg [.i_ p_b0_0,.lf (.rows 25 (p_b0_1.map aj.lf)),.mp 1,.mp 2,.mp 3]),.res (bD p_s1 none) none,.res (bP p_s2) none,.res (bT p_s3) none,bY p_w,.dead,.box 128 (.agg [.i_ p_t,.own 7]),.row 64 78 (l0.map ay.lf)]⟩) .ret (fun o_=>⟨[(6,.i_ o_)],[.box 113 (.agg [.i_ p_b0_0,.lf (.rows 25 (p_b0_1.map aj.lf)),.mp 1,.mp 2,.mp 3]),.res (bD p_s1 none) none,.res (bP p_s2) none,.res (bT p_s3) none,.dead,.dead,.dead,.dead]⟩) (.exit 0) (fun o_=>⟨[(0,.ptr 0 0),(4,.ptr 4 0),(9,.ptr 6 0)],[.box 113 (.agg [.i_ p_b0_0,.lf (.rows 25 (p_b0_1.map aj.lf)),.mp 1,.mp 2,.mp 3]),.res (bD p_s1 none) none,.res (bP p_s2) none,.res (bT p_s3) none,bY p_w,.dead,.box 128 (.agg [.i_ p_t,.own 7]),.row 64 78 (o_.map ay.lf)]⟩) (X0 p_b0_0 p_b0_1 p_s1 p_s2 p_s3 p_t p_w 0 ([]:List ay)) (wJ p_b0_0 p_b0_1 p_s1 p_s2 p_s3 p_t p_w) (0,([]:List ay)) (fun o0=>
 .rt [0] 4 (o0,p_s2)) fun o1=>
 .say [.order [(true,0),(true,1),(true,2),(true,3),(true,4),(true,5),(false,6),(false,7)] (some 7) [6,7],.at_ 42 7,.frz 7,.tod 87,.opH [2] (.raw undef) [.res (bP (eH p_w.dW (ah.mk p_t o1) p_s2)) none]] ok0<|
 .grd (p_s2.length<maxLen) fun h0=>
 .say [] (ok1 (agF p_s2 p_w.dW (ah.mk p_t o1) h0))<|
 .ret ⟨[.kill 4,.kill 6],[0],[],4⟩ ((0:Int),eH p_w.dW (ah.mk p_t o1) p_s2)
noncomputable def Q23(p_w:ay)(p_t:Int)(p_b0_0:Int)(p_b0_1:List aj)(p_s1:bg)(p_s2:List (ByteArray×ah))(p_s3:List (ByteArray×au)):Option (Int×List (ByteArray×ah)):=Mo.den (aeJ p_w p_t p_b0_0 p_b0_1 p_s1 p_s2 p_s3)
theorem ak3(p_w:ay)(p_t:Int)(p_b0_0:Int)(p_b0_1:List aj)(p_s1:bg)(p_s2:List (ByteArray×ah))(p_s3:List (ByteArray×au)):FH (Q23 p_w p_t p_b0_0 p_b0_1 p_s1 p_s2 p_s3) 72 [.ptr 0 0,.dat (ay.lf1 p_w),.i_ p_t] [.box 113 (.agg [.i_ p_b0_0,.lf (.rows 25 (p_b0_1.map aj.lf)),.mp 1,.mp 2,.mp 3]),.res (bD p_s1 none) none,.res (bP p_s2) none,.res (bT p_s3) none] (fun r=>resV (an3 p_w p_t p_b0_0 p_b0_1 p_s1 p_s2 p_s3 r)) (fun r=>am5 p_w p_t p_b0_0 p_b0_1 p_s1 p_s2 p_s3 r):=jD Tryz.func72
noncomputable def Sj(m9431:bg)(p_b0_0:Int)(p_b0_1:List aj)(p_s2:List (ByteArray×ah))(p_s3:List (ByteArray×au))(p_w:ay)(v0:Int):Mo (bg):=
 .gx ay.aX (((aN p_w.dW p_s2).getD ah.z).bK) v0 fun x0 _=>
 .say [.at_ 20 4,.tod 34] ok0<|
 .jf (Q40 x0 p_w.cZ p_b0_0 p_b0_1 m9431 p_s2 p_s3) (fun o0 h0=>
 .say [.iH [0,1,2,3] (.raw (.func (.func 177) #[] #[])) [.box 113 (.agg [.i_ p_b0_0,.lf (.rows 25 (p_b0_1.map aj.lf)),.mp 1,.mp 2,.mp 3]),.res (bD m9431 none) none,.res (bP p_s2) none,.res (bT p_s3) none]] (ok1 (NK _ _ _ _ _ _ _ _ h0))<|
 .rt [0,3,27,28,29] 6 (m9431)) fun o1 h0=>
 .say [.iH [0,1,2,3] (.clo 178 [.ptr 5 0,.ptr 6 0]) [.box 113 (.agg [.i_ p_b0_0,.lf (.rows 25 (p_b0_1.map aj.lf)),.mp 1,.mp 2,.mp 3]),.res (bD o1.1 none) none,.res (bP p_s2) none,.res (bT p_s3) none,.dead,.box 139 (.agg [.hnd 1 (aN x0.aY m9431.dir)]),.box 9 (.dat [(.str o1.2)])]] (ok1 (NK _ _ _ _ _ _ _ _ h0))<|
 .rt [0,3,27,28,29] 6 (o1.1)
noncomputable def Ai(p_b0_0:Int)(p_b0_1:List aj)(p_s2:List (ByteArray×ah))(p_s3:List (ByteArray×au))(p_w:ay):(Int×bg)→Mo ((Int×bg)⊕(bg)):=fun(v0,m9431)=>
 .iB (decide ((v0:Int)<((((aN p_w.dW p_s2).getD ah.z).bK).length:Int))) (.jk Tryz.f73 4 [1,1,1,1,0,1,0,0,1,1,0] 8 (fun r_=>⟨[(0,.ptr 0 0),(3,.ptr 4 0),(27,.lf (.rows 78 ((((aN p_w.dW p_s2).getD ah.z).bK).map ay.lf))),(28,.i_ ((((aN p_w.dW p_s2).getD ah.z).bK).length:Int)),(29,.i_ v0)],[.box 113 (.agg [.i_ p_b0_0,.lf (.rows 25 (p_b0_1.map aj.lf)),.mp 1,.mp 2,.mp 3]),.res (bD r_ none) none,.res (bP p_s2) none,.res (bT p_s3) none,bY p_w,.dead]⟩) ⟨[(0,.ptr 0 0),(3,.ptr 4 0),(27,.lf (.rows 78 ((((aN p_w.dW p_s2).getD ah.z).bK).map ay.lf))),(28,.i_ ((((aN p_w.dW p_s2).getD ah.z).bK).length:Int)),(29,.i_ v0)],[.box 113 (.agg [.i_ p_b0_0,.lf (.rows 25 (p_b0_1.map aj.lf)),.mp 1,.mp 2,.mp 3]),.res (bD m9431 none) none,.res (bP p_s2) none,.res (bT p_s3) none,bY p_w,.dead]⟩ (Sj m9431 p_b0_0 p_b0_1 p_s2 p_s3 p_w v0) fun r0=>
 .rt [0,3,27,28,29] 6 (.inl (IntKind.wrap .i64 (v0+1),r0)))<|
 .rt [0,3] 6 (.inr (m9431))
noncomputable def aeK(p_b0_0:Int)(p_b0_1:List aj)(p_s2:List (ByteArray×ah))(p_s3:List (ByteArray×au))(p_w:ay)(v0:Int)(m9431:bg):Option (bg):=dh (fun v_=>(Ai p_b0_0 p_b0_1 p_s2 p_s3 p_w v_).den) FU (v0,m9431)
noncomputable def an4(p_w:ay)(p_b0_0:Int)(p_b0_1:List aj)(p_s1:bg)(p_s2:List (ByteArray×ah))(p_s3:List (ByteArray×au))(r:Int×bg×List (ByteArray×ah)):List AV:=[.i_ r.1]
noncomputable def am6(p_w:ay)(p_b0_0:Int)(p_b0_1:List aj)(p_s1:bg)(p_s2:List (ByteArray×ah))(p_s3:List (ByteArray×au))(r:Int×bg×List (ByteArray×ah)):List Slot:=[.box 113 (.agg [.i_ p_b0_0,.lf (.rows 25 (p_b0_1.map aj.lf)),.mp 1,.mp 2,.mp 3]),.res (bD r.2.1 none) none,.res (bP r.2.2) none,.res (bT p_s3) none]
noncomputable def aeL(p_w:ay)(p_b0_0:Int)(p_b0_1:List aj)(p_s1:bg)(p_s2:List (ByteArray×ah))(p_s3:List (ByteArray×au)):Mo (Int×bg×List (ByteArray×ah)):=
 .say [.dZ (.q 0 (.q 1 (.q 2 (.q 3 (.q 4 (.q 5 (.alt 6 (.q 7 (.q 8 (.q 9 (.l 10 (.l 11 (.q 12 .fin)))))) (.l 10 (.l 6 (.q 7 (.q 8 (.q 9 (.l 11 (.q 12 .fin)))))))))))))) none [2,5] [.both [.at_ 4 6,.resv 1,.opH [2] (.tup [.dat (ah.lf1 ((aN p_w.dW p_s2).getD ah.z)),.lf (.bool ((aN p_w.dW p_s2).isSome))]) [.res (bP p_s2) none],.slot 5] [.at_ 4 10,.resv 1,.slot 5,.opH [2] (.tup [.dat (ah.lf1 ((aN p_w.dW p_s2).getD ah.z)),.lf (.bool ((aN p_w.dW p_s2).isSome))]) [.res (bP p_s2) none]]] [0,3,5,6] 6 [(0,.ptr 0 0),(3,.ptr 4 0),(5,.ptr 5 0),(6,.lf (.bool ((aN p_w.dW p_s2).isSome)))] [.box 113 (.agg [.i_ p_b0_0,.lf (.rows 25 (p_b0_1.map aj.lf)),.mp 1,.mp 2,.mp 3]),.res (bD p_s1 none) none,.res (bP p_s2) none,.res (bT p_s3) none,bY p_w,.box 128 (.agg [.i_ (((aN p_w.dW p_s2).getD ah.z).dF),.lf (.rows 78 ((((aN p_w.dW p_s2).getD ah.z).bK).map ay.lf))])]] (okc (wo p_s2 p_w.dW) (okc (rf_ ⟨[(0,.ptr 0 0),(3,.ptr 4 0),(5,.ptr 5 0),(6,.lf (.bool ((aN p_w.dW p_s2).isSome)))],[.box 113 (.agg [.i_ p_b0_0,.lf (.rows 25 (p_b0_1.map aj.lf)),.mp 1,.mp 2,.mp 3]),.res (bD p_s1 none) none,.res (bP p_s2) none,.res (bT p_s3) none,bY p_w,.box 128 (.agg [.i_ (((aN p_w.dW p_s2).getD ah.z).dF),.lf (.rows 78 ((((aN p_w.dW p_s2).getD ah.z).bK).map ay.lf))])]⟩) (okc (wo p_s2 p_w.dW) (ok1 (rf_ ⟨[(0,.ptr 0 0),(3,.ptr 4 0),(5,.ptr 5 0),(6,.lf (.bool ((aN p_w.dW p_s2).isSome)))],[.box 113 (.agg [.i_ p_b0_0,.lf (.rows 25 (p_b0_1.map aj.lf)),.mp 1,.mp 2,.mp 3]),.res (bD p_s1 none) none,.res (bP p_s2) none,.res (bT p_s3) none,bY p_w,.box 128 (.agg [.i_ (((aN p_w.dW p_s2).getD ah.z).dF),.lf (.rows 78 ((((aN p_w.dW p_s2).getD ah.z).bK).map ay.lf))])]⟩)))))<|
 .iB (!((aN p_w.dW p_s2).isSome)) (.ret ⟨[.kill 4,.kill 5],[0],[],4⟩ ((15:Int),p_s1,p_s2))<|
 .iB (decide ((p_w.cZ:Int)<(((aN p_w.dW p_s2).getD ah.z).dF))) (.ret ⟨[.kill 4,.kill 5],[0],[],4⟩ ((23:Int),p_s1,p_s2))<|
 .nu (((aN p_w.dW p_s2).getD ah.z).bK) ay.lf<|
 .l1m [.kill 5] Tryz.f73 4 [1,1,1,1,0,1,0] 0 (.exit 0) (fun(v0,m9431)=>⟨[(0,.ptr 0 0),(3,.ptr 4 0),(27,.lf (.rows 78 ((((aN p_w.dW p_s2).getD ah.z).bK).map ay.lf))),(28,.i_ ((((aN p_w.dW p_s2).getD ah.z).bK).length:Int)),(29,.i_ v0)],[.box 113 (.agg [.i_ p_b0_0,.lf (.rows 25 (p_b0_1.map aj.lf)),.mp 1,.mp 2,.mp 3]),.res (bD m9431 none) none,.res (bP p_s2) none,.res (bT p_s3) none,bY p_w,.dead]⟩) (fun r_=>⟨[(0,.ptr 0 0),(3,.ptr 4 0)],[.box 113 (.agg [.i_ p_b0_0,.lf (.rows 25 (p_b0_1.map aj.lf)),.mp 1,.mp 2,.mp 3]),.res (bD r_ none) none,.res (bP p_s2) none,.res (bT p_s3) none,bY p_w,.dead]⟩) (aeK p_b0_0 p_b0_1 p_s2 p_s3 p_w 0 p_s1) (Ai p_b0_0 p_b0_1 p_s2 p_s3 p_w) (0,p_s1) fun r0=>
 .say [.order [(true,0),(true,1),(true,2),(true,3),(true,4),(true,5),(false,6)] (some 6) [],.opH [2] (.tup []) [.res (bP (dL p_w.dW p_s2)) none]] (ok1 (Xi p_s2 p_w.dW))<|
 .ret ⟨[.kill 4],[0],[],4⟩ ((0:Int),r0,dL p_w.dW p_s2)
noncomputable def Q41(p_w:ay)(p_b0_0:Int)(p_b0_1:List aj)(p_s1:bg)(p_s2:List (ByteArray×ah))(p_s3:List (ByteArray×au)):Option (Int×bg×List (ByteArray×ah)):=Mo.den (aeL p_w p_b0_0 p_b0_1 p_s1 p_s2 p_s3)
theorem ak4(p_w:ay)(p_b0_0:Int)(p_b0_1:List aj)(p_s1:bg)(p_s2:List (ByteArray×ah))(p_s3:List (ByteArray×au)):FH (Q41 p_w p_b0_0 p_b0_1 p_s1 p_s2 p_s3) 73 [.ptr 0 0,.dat (ay.lf1 p_w)] [.box 113 (.agg [.i_ p_b0_0,.lf (.rows 25 (p_b0_1.map aj.lf)),.mp 1,.mp 2,.mp 3]),.res (bD p_s1 none) none,.res (bP p_s2) none,.res (bT p_s3) none] (fun r=>resV (an4 p_w p_b0_0 p_b0_1 p_s1 p_s2 p_s3 r)) (fun r=>am6 p_w p_b0_0 p_b0_1 p_s1 p_s2 p_s3 r):=jD Tryz.func73
noncomputable def Sl(p_b0_0:Int)(p_b0_1:List aj)(p_s1:bg)(p_s2:List (ByteArray×ah))(p_s3:List (ByteArray×au))(p_t:Int)(p_w:ay):Mo (Bool):=
 .iB (p_w.aH==1) (.rt [0,2,4,12,13] 5 (p_w.aH==1))<|
 .rt [0,2,4,12,13] 5 (p_w.aH==12)
noncomputable def VJ(p_b0_0:Int)(p_b0_1:List aj)(p_s1:bg)(p_s2:List (ByteArray×ah))(p_s3:List (ByteArray×au))(p_t:Int)(p_w:ay):Option (Bool):=Mo.den (Sl p_b0_0 p_b0_1 p_s1 p_s2 p_s3 p_t p_w)
noncomputable def Sm(p_b0_0:Int)(p_b0_1:List aj)(p_s1:bg)(p_s2:List (ByteArray×ah))(p_s3:List (ByteArray×au))(p_t:Int)(p_w:ay):Mo ((Int×(List aj)×bg)):=
 .Et (Q4 p_w p_t p_b0_0 p_b0_1 p_s1 p_s2 p_s3) (fun o0 h0=>
 .say [.iH [0,1,2,3] (.tup [.raw (.nilFunc),.i_ o0]) [.box 113 (.agg [.i_ p_b0_0,.lf (.rows 25 (p_b0_1.map aj.lf)),.mp 1,.mp 2,.mp 3]),.res (bD p_s1 none) none,.res (bP p_s2) none,.res (bT p_s3) none]] (ok1 (tH _ _ _ _ _ _ _ _ h0))<|
 .ret ⟨[.kill 4],[10],[],5⟩ (o0,p_b0_1,p_s1)) (fun o1 h0=>
 .say [.iH [0,1,2,3] (.tup [.raw (.func (.func 177) #[] #[]),.i_ 0]) [.box 113 (.agg [.i_ p_b0_0,.lf (.rows 25 (p_b0_1.map aj.lf)),.mp 1,.mp 2,.mp 3]),.res (bD p_s1 none) none,.res (bP p_s2) none,.res (bT p_s3) none]] (ok1 (tH _ _ _ _ _ _ _ _ h0))<|
 .ret ⟨[.kill 4],[10],[],5⟩ (0,p_b0_1,p_s1)) fun o2 h0=>
 .Et (some o2) (fun o3 h1=>
 .say [.iH [0,1,2,3] (.tup [.clo 178 [.ptr 7 0,.ptr 8 0],.i_ 0]) [.box 113 (.agg [.i_ p_b0_0,.lf (.rows 25 (p_b0_1.map aj.lf)),.mp 1,.mp 2,.mp 3]),.res (bD o3.1 none) none,.res (bP p_s2) none,.res (bT p_s3) none,.dead,.dead,.dead,.box 139 (.agg [.hnd 1 (aN p_w.aY p_s1.dir)]),.box 9 (.dat [(.str o3.2)])]] (ok1 (tH _ _ _ _ _ _ _ _ (zG h0 h1)))<|
 .ret ⟨[.kill 4],[10],[],5⟩ (0,p_b0_1,o3.1)) (fun o4 h1=>
 .say [.iH [0,1,2,3] (.tup [.clo 118 [.ptr 6 0,.ptr 4 0,.ptr 5 0],.i_ 0]) [.box 113 (.agg [.i_ p_b0_0,.lf (.rows 25 (o4.map aj.lf)),.mp 1,.mp 2,.mp 3]),.res (bD (p_s1.make p_w.gy.fName) none) none,.res (bP p_s2) none,.res (bT p_s3) none,.box 26 (.agg [.ptr 0 0]),bY p_w,.box 28 (.dat [(.rows 25 (p_b0_1.map aj.lf))])]] (ok1 (tH _ _ _ _ _ _ _ _ (zG h0 h1)))<|
 .ret ⟨[.kill 4],[10],[],5⟩ (0,o4,p_s1.make p_w.gy.fName)) fun o5 h1=>
 .jf (some o5) (fun o6 h2=>
 .say [.iH [0,1,2,3] (.tup [.clo 119 [.ptr 6 0,.ptr 4 0,.ptr 7 0,.ptr 5 0],.i_ 0]) [.box 113 (.agg [.i_ p_b0_0,.lf (.rows 25 (o6.map aj.lf)),.mp 1,.mp 2,.mp 3]),.res (bD (p_s1.unlink p_w.aY) none) none,.res (bP p_s2) none,.res (bT p_s3) none,.box 26 (.agg [.ptr 0 0]),bY p_w,.box 28 (.dat [(.rows 25 (p_b0_1.map aj.lf))]),.box 139 (.agg [.hnd 1 (aN p_w.aY p_s1.dir)])]] (ok1 (tH _ _ _ _ _ _ _ _ (zG h0 (zG h1 h2))))<|
 .ret ⟨[.kill 4],[10],[],5⟩ (0,o6,p_s1.unlink p_w.aY)) fun o7 h2=>
 .say [.iH [0,1,2,3] (.tup [.clo 120 [.ptr 6 0,.ptr 4 0],.i_ 0]) [.box 113 (.agg [.i_ p_b0_0,.lf (.rows 25 (o7.map aj.lf)),.mp 1,.mp 2,.mp 3]),.res (bD p_s1 none) none,.res (bP p_s2) none,.res (bT p_s3) none,.box 26 (.agg [.ptr 0 0]),.dead,.box 28 (.dat [(.rows 25 (p_b0_1.map aj.lf))])]] (ok1 (tH _ _ _ _ _ _ _ _ (zG h0 (zG h1 h2))))<|
 .ret ⟨[.kill 4],[10],[],5⟩ (0,o7,p_s1)
noncomputable def an5(p_w:ay)(p_t:Int)(p_b0_0:Int)(p_b0_1:List aj)(p_s1:bg)(p_s2:List (ByteArray×ah))(p_s3:List (ByteArray×au))(r:Int×(List aj)×bg×List (ByteArray×ah)):List AV:=[.i_ r.1]
noncomputable def am7(p_w:ay)(p_t:Int)(p_b0_0:Int)(p_b0_1:List aj)(p_s1:bg)(p_s2:List (ByteArray×ah))(p_s3:List (ByteArray×au))(r:Int×(List aj)×bg×List (ByteArray×ah)):List Slot:=[.box 113 (.agg [.i_ p_b0_0,.lf (.rows 25 (r.2.1.map aj.lf)),.mp 1,.mp 2,.mp 3]),.res (bD r.2.2.1 none) none,.res (bP r.2.2.2) none,.res (bT p_s3) none]
noncomputable def aeM(p_w:ay)(p_t:Int)(p_b0_0:Int)(p_b0_1:List aj)(p_s1:bg)(p_s2:List (ByteArray×ah))(p_s3:List (ByteArray×au)):Mo (Int×(List aj)×bg×List (ByteArray×ah)):=
 .jp Tryz.f40 4 [1,0,1,0,0,1] 1 [0,2,4,12,13] 5 (.normal) (fun r_=>⟨[(0,.ptr 0 0),(2,.i_ p_t),(4,.ptr 4 0),(12,.i_ p_w.aH),(13,.b_ r_)],[.box 113 (.agg [.i_ p_b0_0,.lf (.rows 25 (p_b0_1.map aj.lf)),.mp 1,.mp 2,.mp 3]),.res (bD p_s1 none) none,.res (bP p_s2) none,.res (bT p_s3) none,bY p_w]⟩) ⟨[(0,.ptr 0 0),(2,.i_ p_t),(4,.ptr 4 0),(12,.i_ p_w.aH),(13,.lf (.bool (p_w.aH==1)))],[.box 113 (.agg [.i_ p_b0_0,.lf (.rows 25 (p_b0_1.map aj.lf)),.mp 1,.mp 2,.mp 3]),.res (bD p_s1 none) none,.res (bP p_s2) none,.res (bT p_s3) none,bY p_w]⟩ (VJ p_b0_0 p_b0_1 p_s1 p_s2 p_s3 p_t p_w) (jW (by kernel_rfl)) fun r0 _=>
 .iB (r0) (.ret ⟨[.kill 4],[0],[],4⟩ ((0:Int),p_b0_1,p_s1,p_s2))<|
 .iB (p_w.aH==8) (.cH [0,1,2,3] (ahQ p_w.bQ p_t p_b0_0 p_b0_1 p_s1 p_s2 p_s3) fun r1 _=>
 .ret ⟨[.kill 4],[0],[],4⟩ (r1.1,r1.2.1,r1.2.2,p_s2))<|
 .iB (p_w.aH==9) (.cH [0,1,2,3] (ak3 p_w p_t p_b0_0 p_b0_1 p_s1 p_s2 p_s3) fun r2 _=>
 .ret ⟨[.kill 4],[0],[],4⟩ (r2.1,p_b0_1,p_s1,r2.2))<|
 .iB (p_w.aH==10) (.cH [0,1,2,3] (ak4 p_w p_b0_0 p_b0_1 p_s1 p_s2 p_s3) fun r3 _=>
 .ret ⟨[.kill 4],[0],[],4⟩ (r3.1,p_b0_1,r3.2.1,r3.2.2))<|
 .iB (p_w.aH==11) (.say [.dZ (.q 0 (.q 1 (.q 2 (.q 3 (.q 4 (.q 5 (.alt 6 (.q 7 (.q 8 (.q 9 (.l 10 (.l 11 (.q 12 .fin)))))) (.l 10 (.l 6 (.q 7 (.q 8 (.q 9 (.l 11 (.q 12 .fin)))))))))))))) none [2,5] [.both [.at_ 26 6,.resv 1,.opH [2] (.tup [.dat (ah.lf1 ((aN p_w.dW p_s2).getD ah.z)),.lf (.bool ((aN p_w.dW p_s2).isSome))]) [.res (bP p_s2) none],.slot 5] [.at_ 26 10,.resv 1,.slot 5,.opH [2] (.tup [.dat (ah.lf1 ((aN p_w.dW p_s2).getD ah.z)),.lf (.bool ((aN p_w.dW p_s2).isSome))]) [.res (bP p_s2) none]]] [0,4,8] 6 [(0,.ptr 0 0),(4,.ptr 4 0),(8,.lf (.bool ((aN p_w.dW p_s2).isSome)))] [.box 113 (.agg [.i_ p_b0_0,.lf (.rows 25 (p_b0_1.map aj.lf)),.mp 1,.mp 2,.mp 3]),.res (bD p_s1 none) none,.res (bP p_s2) none,.res (bT p_s3) none,bY p_w,.box 128 (.agg [.i_ (((aN p_w.dW p_s2).getD ah.z).dF),.lf (.rows 78 ((((aN p_w.dW p_s2).getD ah.z).bK).map ay.lf))])]] (okc (wo p_s2 p_w.dW) (okc (rf_ ⟨[(0,.ptr 0 0),(4,.ptr 4 0),(8,.lf (.bool ((aN p_w.dW p_s2).isSome)))],[.box 113 (.agg [.i_ p_b0_0,.lf (.rows 25 (p_b0_1.map aj.lf)),.mp 1,.mp 2,.mp 3]),.res (bD p_s1 none) none,.res (bP p_s2) none,.res (bT p_s3) none,bY p_w,.box 128 (.agg [.i_ (((aN p_w.dW p_s2).getD ah.z).dF),.lf (.rows 78 ((((aN p_w.dW p_s2).getD ah.z).bK).map ay.lf))])]⟩) (okc (wo p_s2 p_w.dW) (ok1 (rf_ ⟨[(0,.ptr 0 0),(4,.ptr 4 0),(8,.lf (.bool ((aN p_w.dW p_s2).isSome)))],[.box 113 (.agg [.i_ p_b0_0,.lf (.rows 25 (p_b0_1.map aj.lf)),.mp 1,.mp 2,.mp 3]),.res (bD p_s1 none) none,.res (bP p_s2) none,.res (bT p_s3) none,bY p_w,.box 128 (.agg [.i_ (((aN p_w.dW p_s2).getD ah.z).dF),.lf (.rows 78 ((((aN p_w.dW p_s2).getD ah.z).bK).map ay.lf))])]⟩)))))<|
 .iB (!((aN p_w.dW p_s2).isSome)) (.ret ⟨[.kill 4,.kill 5],[0],[],4⟩ ((15:Int),p_b0_1,p_s1,p_s2))<|
 .say [.order [(true,0),(true,1),(true,2),(true,3),(true,4),(true,5),(false,6)] (some 6) [],.opH [2] (.tup []) [.res (bP (dL p_w.dW p_s2)) none]] (ok1 (Xi p_s2 p_w.dW))<|
 .ret ⟨[.kill 4,.kill 5],[0],[],4⟩ ((0:Int),p_b0_1,p_s1,dL p_w.dW p_s2))<|
 .jk Tryz.f40 4 [1,1,0] 41 (fun r_=>⟨[(10,.i_ r_.1)],[.box 113 (.agg [.i_ p_b0_0,.lf (.rows 25 (r_.2.1.map aj.lf)),.mp 1,.mp 2,.mp 3]),.res (bD r_.2.2 none) none,.res (bP p_s2) none,.res (bT p_s3) none,.dead]⟩) ⟨[(0,.ptr 0 0),(2,.i_ p_t),(4,.ptr 4 0)],[.box 113 (.agg [.i_ p_b0_0,.lf (.rows 25 (p_b0_1.map aj.lf)),.mp 1,.mp 2,.mp 3]),.res (bD p_s1 none) none,.res (bP p_s2) none,.res (bT p_s3) none,bY p_w]⟩ (Sm p_b0_0 p_b0_1 p_s1 p_s2 p_s3 p_t p_w) fun r4=>
 .rt [0] 4 (r4.1,r4.2.1,r4.2.2,p_s2)
noncomputable def Q50(p_w:ay)(p_t:Int)(p_b0_0:Int)(p_b0_1:List aj)(p_s1:bg)(p_s2:List (ByteArray×ah))(p_s3:List (ByteArray×au)):Option (Int×(List aj)×bg×List (ByteArray×ah)):=Mo.den (aeM p_w p_t p_b0_0 p_b0_1 p_s1 p_s2 p_s3)
theorem ak5(p_w:ay)(p_t:Int)(p_b0_0:Int)(p_b0_1:List aj)(p_s1:bg)(p_s2:List (ByteArray×ah))(p_s3:List (ByteArray×au)):FH (Q50 p_w p_t p_b0_0 p_b0_1 p_s1 p_s2 p_s3) 40 [.ptr 0 0,.dat (ay.lf1 p_w),.i_ p_t] [.box 113 (.agg [.i_ p_b0_0,.lf (.rows 25 (p_b0_1.map aj.lf)),.mp 1,.mp 2,.mp 3]),.res (bD p_s1 none) none,.res (bP p_s2) none,.res (bT p_s3) none] (fun r=>resV (an5 p_w p_t p_b0_0 p_b0_1 p_s1 p_s2 p_s3 r)) (fun r=>am7 p_w p_t p_b0_0 p_b0_1 p_s1 p_s2 p_s3 r):=jD Tryz.func40
noncomputable def Sr(p_e:bI)(p_s3:List (ByteArray×au))(r0:Int×(List aj)×bg×List (ByteArray×ah)):Mo (((List (ByteArray×au)))):=
 .iB (!decide ((p_e.eX:ByteArray)=(⟨#[]⟩:ByteArray))) (.say [.order [(true,0),(true,1),(true,2),(true,3),(true,4),(true,5),(true,6),(true,7),(true,8),(true,9),(true,10),(false,11)] (some 11) [],.at_ 28 11,.tod 48,.opH [3] (.raw undef) [.res (bT (eH p_e.eX (au.mk p_e.rX p_e.cZ) p_s3)) none]] ok0<|
 .grd (p_s3.length<maxLen) fun h0=>
 .say [] (ok1 (agI p_s3 p_e.eX (au.mk p_e.rX p_e.cZ) h0))<|
 .ret ⟨[.kill 4],[],[],5⟩ (eH p_e.eX (au.mk p_e.rX p_e.cZ) p_s3))<|
 .ret ⟨[.kill 4],[],[],5⟩ (p_s3)
noncomputable def an6(p_e:bI)(p_b0_0:Int)(p_b0_1:List aj)(p_s1:bg)(p_s2:List (ByteArray×ah))(p_s3:List (ByteArray×au))(r:Int×Int×(List aj)×bg×(List (ByteArray×ah))×List (ByteArray×au)):List AV:=[.i_ r.1]
noncomputable def am8(p_e:bI)(p_b0_0:Int)(p_b0_1:List aj)(p_s1:bg)(p_s2:List (ByteArray×ah))(p_s3:List (ByteArray×au))(r:Int×Int×(List aj)×bg×(List (ByteArray×ah))×List (ByteArray×au)):List Slot:=[.box 113 (.agg [.i_ r.2.1,.lf (.rows 25 (r.2.2.1.map aj.lf)),.mp 1,.mp 2,.mp 3]),.res (bD r.2.2.2.1 none) none,.res (bP r.2.2.2.2.1) none,.res (bT r.2.2.2.2.2) none]
noncomputable def aeN(p_e:bI)(p_b0_0:Int)(p_b0_1:List aj)(p_s1:bg)(p_s2:List (ByteArray×ah))(p_s3:List (ByteArray×au)):Mo (Int×Int×(List aj)×bg×(List (ByteArray×ah))×List (ByteArray×au)):=
 .say [.br false] (ok1 (rfl:false=false))<|
 .cl (ah9 p_e) fun r0 _=>
 .iB (r0 != 0) (.ret ⟨[.kill 4],[0],[],4⟩ (r0,p_b0_0,p_b0_1,p_s1,p_s2,p_s3))<|
 .say [.order [(true,0),(true,1),(true,2),(true,3),(true,4),(true,5),(true,6)] none []] ok0<|
 .iB (decide ((p_e.cZ:Int)≤p_b0_0)) (.ret ⟨[.kill 4],[0],[],4⟩ ((23:Int),p_b0_0,p_b0_1,p_s1,p_s2,p_s3))<|
 .cH [0,1,2,3] (ak5 p_e.iO p_e.cZ p_b0_0 p_b0_1 p_s1 p_s2 p_s3) fun r1 _=>
 .iB (r1.1 != 0) (.ret ⟨[.kill 4],[0],[],4⟩ (r1.1,p_b0_0,r1.2.1,r1.2.2.1,r1.2.2.2,p_s3))<|
 .jk Tryz.f13 4 [1,1,1,1,1,1,0,1] 1 (fun r_=>⟨[],[.box 113 (.agg [.i_ p_e.cZ,.lf (.rows 25 (r1.2.1.map aj.lf)),.mp 1,.mp 2,.mp 3]),.res (bD r1.2.2.1 none) none,.res (bP r1.2.2.2) none,.res (bT r_) none,.dead]⟩) ⟨[(0,.ptr 0 0),(3,.ptr 4 0),(37,.lf (.bool (!decide ((p_e.eX:ByteArray)=(⟨#[]⟩:ByteArray)))))],[.box 113 (.agg [.i_ p_e.cZ,.lf (.rows 25 (r1.2.1.map aj.lf)),.mp 1,.mp 2,.mp 3]),.res (bD r1.2.2.1 none) none,.res (bP r1.2.2.2) none,.res (bT p_s3) none,P7 p_e]⟩ (Sr p_e p_s3 r1) fun r2=>
 .rt [0] 4 ((0:Int),p_e.cZ,r1.2.1,r1.2.2.1,r1.2.2.2,r2)
noncomputable def Q67(p_e:bI)(p_b0_0:Int)(p_b0_1:List aj)(p_s1:bg)(p_s2:List (ByteArray×ah))(p_s3:List (ByteArray×au)):Option (Int×Int×(List aj)×bg×(List (ByteArray×ah))×List (ByteArray×au)):=Mo.den (aeN p_e p_b0_0 p_b0_1 p_s1 p_s2 p_s3)
theorem N7(p_e:bI)(p_b0_0:Int)(p_b0_1:List aj)(p_s1:bg)(p_s2:List (ByteArray×ah))(p_s3:List (ByteArray×au)):FH (Q67 p_e p_b0_0 p_b0_1 p_s1 p_s2 p_s3) 13 [.ptr 0 0,.dat (bI.lf1 p_e)] [.box 113 (.agg [.i_ p_b0_0,.lf (.rows 25 (p_b0_1.map aj.lf)),.mp 1,.mp 2,.mp 3]),.res (bD p_s1 none) none,.res (bP p_s2) none,.res (bT p_s3) none] (fun r=>resV (an6 p_e p_b0_0 p_b0_1 p_s1 p_s2 p_s3 r)) (fun r=>am8 p_e p_b0_0 p_b0_1 p_s1 p_s2 p_s3 r):=jD Tryz.func13
noncomputable def ak6(p_n:Int):Mo (ak):=
 .ret (bn 1) (ak.mk 3 p_n ⟨#[]⟩ [] [])
noncomputable def am9(p_n:Int):Option (ak):=Mo.den (ak6 p_n)
theorem D5(p_n:Int):FV (am9 p_n) 35 [.i_ p_n] (fun r=>.dat (ak.lf1 r)):=dI Tryz.func35
noncomputable def ak7(p_n:Int):Mo (ak):=
 .ask (am9 p_n) fun r0 h0=>
 .say [.res (.dat (ak.lf1 r0)),.at_ 0 0,.Uh 1 ([aB.mk ⟨#[95,105,100]⟩ r0].map aB.lf)] (okc (D5 _ _ h0) (ok1 (by simp[aB.aX]:[aB.mk ⟨#[95,105,100]⟩ r0].map aB.lf=[(aB.lf1 (aB.mk ⟨#[95,105,100]⟩ r0))])))<|
 .ret (bn 1) (ak.mk 5 0 ⟨#[]⟩ [] [aB.mk ⟨#[95,105,100]⟩ r0])
noncomputable def ak8(p_n:Int):Option (ak):=Mo.den (ak7 p_n)
theorem X3(p_n:Int):FV (ak8 p_n) 36 [.i_ p_n] (fun r=>.dat (ak.lf1 r)):=dI Tryz.func36
noncomputable def uX(p_s0:List aP)(p_stamp:Int):(Int)→Mo ((Int)⊕(Int×Int×ByteArray×(List ak)×(List aB))⊕Unit):=fun(v0)=>
 .iB (decide ((0:Int)≤v0)) (.ask (gX p_s0 v0) fun x0 h0=>
 .say [.row (aP.lf1 x0)] (okc (pJ aP.aX h0) (ok1 ((dU aP.aX h0).2)))<|
 .iB (decide ((x0.dF:Int)≤p_stamp)) (.ask (gX p_s0 v0) fun x1 h1=>
 .say [.row (aP.lf1 x1)] (okc (pJ aP.aX h1) (ok1 ((dU aP.aX h1).2)))<|
 .rt [4] 2 (.inr (.inl (x1.jc.aH,x1.jc.dR,x1.jc.fText,x1.jc.bC,x1.jc.bG))))<|
 .rt [0,1,4,5] 2 (.inl (IntKind.wrap .i64 (v0-1))))<|
 .rt [4] 2 (.inr (.inr (())))
noncomputable def ajc(p_stamp:Int)(p_s0:List aP):Mo (ak):=
 .nu p_s0 aP.lf<|
 .l2 Tryz.f56 1 [1,0,1,0] 0 (fun(v0)=>⟨[(0,.own 0),(1,.i_ p_stamp),(4,.ptr 1 0),(5,.i_ v0)],[.row 147 6 (p_s0.map aP.lf),.box 40 (.agg [.i_ 0,.i_ 0,.lf (.str ⟨#[]⟩),.bJ 5,.bJ 6])]⟩) .ret (fun o_=>⟨[(4,.ptr 1 0)],[.row 147 6 (p_s0.map aP.lf),.box 40 (.agg [.i_ o_.1,.i_ o_.2.1,.lf (.str o_.2.2.1),.lf (.rows 5 (o_.2.2.2.1.map ak.lf)),.lf (.rows 6 (o_.2.2.2.2.map aB.lf))])]⟩) (.exit 0) (fun _=>⟨[(4,.ptr 1 0)],[.row 147 6 (p_s0.map aP.lf),.box 40 (.agg [.i_ 0,.i_ 0,.lf (.str ⟨#[]⟩),.bJ 5,.bJ 6])]⟩) (uX p_s0 p_stamp) ((IntKind.wrap .i64 ((p_s0.length:Int)-1))) (fun o0=>
 .ret ⟨[.kill 1],[0],[],1⟩ (ak.mk o0.1 o0.2.1 o0.2.2.1 o0.2.2.2.1 o0.2.2.2.2)) fun o1=>
 .ret ⟨[.kill 1],[0],[],1⟩ (ak.mk 0 0 ⟨#[]⟩ [] [])
noncomputable def Q77(p_stamp:Int)(p_s0:List aP):Option (ak):=Mo.den (ajc p_stamp p_s0)
theorem aeO(p_stamp:Int)(p_s0:List aP):FH (Q77 p_stamp p_s0) 56 [.own 0,.i_ p_stamp] [.row 147 6 (p_s0.map aP.lf)] (fun r=>.dat (ak.lf1 r)) (fun _=>[.row 147 6 (p_s0.map aP.lf)]):=jD Tryz.func56
noncomputable def Sz(p_b0_0:Int)(p_b0_1:List aj)(p_key:ak)(p_s1:bg)(p_s2:List (ByteArray×ah))(p_s3:List (ByteArray×au))(p_space:ByteArray)(p_stamp:Int)(r0:ByteArray):Mo (Bool):=
 .iG 16002 (!decide ((r0:ByteArray)=(⟨#[]⟩:ByteArray))) (.say [.opH [2] (.dat (ah.lf1 ((aN r0 p_s2).getD ah.z))) [.res (bP p_s2) none]] (ok1 (Xh p_s2 r0))<|
 .rt [3,6,8,10,45] 6 (decide ((((aN r0 p_s2).getD ah.z).dF:Int)≤p_stamp)))<|
 .rt [3,6,8,10,45] 6 (false)
noncomputable def an7(p_space:ByteArray)(p_key:ak)(p_stamp:Int)(p_b0_0:Int)(p_b0_1:List aj)(p_s1:bg)(p_s2:List (ByteArray×ah))(p_s3:List (ByteArray×au))(r:ak×Int):List AV:=[.dat (ak.lf1 r.1),.i_ r.2]
noncomputable def ana(p_space:ByteArray)(p_key:ak)(p_stamp:Int)(p_b0_0:Int)(p_b0_1:List aj)(p_s1:bg)(p_s2:List (ByteArray×ah))(p_s3:List (ByteArray×au))(r:ak×Int):List Slot:=[.box 113 (.agg [.i_ p_b0_0,.lf (.rows 25 (p_b0_1.map aj.lf)),.mp 1,.mp 2,.mp 3]),.res (bD p_s1 none) none,.res (bP p_s2) none,.res (bT p_s3) none]
noncomputable def aeP(p_space:ByteArray)(p_key:ak)(p_stamp:Int)(p_b0_0:Int)(p_b0_1:List aj)(p_s1:bg)(p_s2:List (ByteArray×ah))(p_s3:List (ByteArray×au)):Mo (ak×Int):=
 .say [.br false,.opH [1] (.tup [.hnd 0 (aN p_space p_s1.dir),.lf (.bool ((aN p_space p_s1.dir).isSome))]) [.res (bD p_s1 none) none]] (okc (rfl:false=false) (ok1 (zF p_s1 p_space)))<|
 .iB (!((aN p_space p_s1.dir).isSome)) (.ret ⟨[.kill 4,.kill 5],[0,1],[],4⟩ (ak.mk 0 0 ⟨#[]⟩ [] [],(15:Int)))<|
 .cH [0,1,2,3] (Vu p_space p_key p_b0_0 p_b0_1 p_s1 p_s2 p_s3) fun r0 _=>
 .jk Tryz.f29 4 [1,1,1,1,0,1,0] 21 (fun r_=>⟨[(3,.i_ p_stamp),(6,.ptr 4 0),(8,.ptr 5 0),(10,.hnd 1 (aN p_space p_s1.dir)),(45,.b_ r_)],[.box 113 (.agg [.i_ p_b0_0,.lf (.rows 25 (p_b0_1.map aj.lf)),.mp 1,.mp 2,.mp 3]),.res (bD p_s1 none) none,.res (bP p_s2) none,.res (bT p_s3) none,bF p_key,.box 40 (.agg [.i_ 0,.i_ 0,.lf (.str ⟨#[]⟩),.bJ 5,.bJ 6])]⟩) ⟨[(0,.ptr 0 0),(3,.i_ p_stamp),(6,.ptr 4 0),(8,.ptr 5 0),(10,.hnd 1 (aN p_space p_s1.dir)),(12,.lf (.str r0))],[.box 113 (.agg [.i_ p_b0_0,.lf (.rows 25 (p_b0_1.map aj.lf)),.mp 1,.mp 2,.mp 3]),.res (bD p_s1 none) none,.res (bP p_s2) none,.res (bT p_s3) none,bF p_key,.box 40 (.agg [.i_ 0,.i_ 0,.lf (.str ⟨#[]⟩),.bJ 5,.bJ 6])]⟩ (Sz p_b0_0 p_b0_1 p_key p_s1 p_s2 p_s3 p_space p_stamp r0) fun r1=>
 .iB (r1) (.ret ⟨[.kill 4,.kill 5],[0,1],[],4⟩ (ak.mk 0 0 ⟨#[]⟩ [] [],(30:Int)))<|
 .cl (NI p_key) fun r2 _=>
 .iB (!r2.2) (.ret ⟨[.kill 4,.kill 5],[0,1],[],4⟩ (ak.mk 0 0 ⟨#[]⟩ [] [],(0:Int)))<|
 .say [.opH [1] (.own 1) [.res (bD p_s1 (outOf (aN p_space p_s1.dir) r2.1)) (some 1),.row 147 6 ((p_s1.row (aN p_space p_s1.dir) r2.1).map aP.lf)]] (ok1 (vY p_s1 r2.1 (aN p_space p_s1.dir)))<|
 .cH [6] (aeO p_stamp (p_s1.row (aN p_space p_s1.dir) r2.1)) fun r3 _=>
 .ask (Q18 r3) fun r4 h0=>
 .say [.res (.dat (ak.lf1 r4))] (okc (uS _ _ h0) (ok1 (vZ p_s1 r2.1 (aN p_space p_s1.dir))))<|
 .ret ⟨[.gho [1,6] [.res (bD p_s1 none) none,.dead],.kill 4,.kill 5],[0,1],[],4⟩ (r4,(0:Int))
noncomputable def Q93(p_space:ByteArray)(p_key:ak)(p_stamp:Int)(p_b0_0:Int)(p_b0_1:List aj)(p_s1:bg)(p_s2:List (ByteArray×ah))(p_s3:List (ByteArray×au)):Option (ak×Int):=Mo.den (aeP p_space p_key p_stamp p_b0_0 p_b0_1 p_s1 p_s2 p_s3)
theorem aeQ(p_space:ByteArray)(p_key:ak)(p_stamp:Int)(p_b0_0:Int)(p_b0_1:List aj)(p_s1:bg)(p_s2:List (ByteArray×ah))(p_s3:List (ByteArray×au)):FH (Q93 p_space p_key p_stamp p_b0_0 p_b0_1 p_s1 p_s2 p_s3) 29 [.ptr 0 0,.lf (.str p_space),.dat (ak.lf1 p_key),.i_ p_stamp] [.box 113 (.agg [.i_ p_b0_0,.lf (.rows 25 (p_b0_1.map aj.lf)),.mp 1,.mp 2,.mp 3]),.res (bD p_s1 none) none,.res (bP p_s2) none,.res (bT p_s3) none] (fun r=>resV (an7 p_space p_key p_stamp p_b0_0 p_b0_1 p_s1 p_s2 p_s3 r)) (fun r=>ana p_space p_key p_stamp p_b0_0 p_b0_1 p_s1 p_s2 p_s3 r):=jD Tryz.func29
noncomputable def an8(p_m:Option Nat)(p_s0:bg)(r:Unit):List AV:=[.clo 106 [.ptr 1 0]]
noncomputable def ak9(p_m:Option Nat)(p_s0:bg)(r:Unit):List Slot:=[.res (bD p_s0 none) none,.box 139 (.agg [.hnd 0 p_m])]
noncomputable def ala(p_m:Option Nat)(p_s0:bg):Mo (Unit):=
 .rt [0] 2 ()
noncomputable def alb(p_m:Option Nat)(p_s0:bg):Option (Unit):=Mo.den (ala p_m p_s0)
theorem aia(p_m:Option Nat)(p_s0:bg):FH (alb p_m p_s0) 68 [.hnd 0 p_m] [.res (bD p_s0 none) none] (fun r=>resV (an8 p_m p_s0 r)) (fun r=>ak9 p_m p_s0 r):=jD Tryz.func68
noncomputable def SA(l0:List ak)(p_b0_0:Int)(p_b0_1:List aj)(p_s1:bg)(p_s2:List (ByteArray×ah))(p_s3:List (ByteArray×au))(p_space:ByteArray)(p_stamp:Int)(r0:List ByteArray)(v0:Int):Mo (((List ak))):=
 .ask (gX r0 v0) fun x0 h0=>
 .say [.row (lfS x0),.opH [1] (.own 1) [.res (bD p_s1 (outOf (aN p_space p_s1.dir) x0)) (some 1),.row 147 6 ((p_s1.row (aN p_space p_s1.dir) x0).map aP.lf)]] (okc (pJ lS_ h0) (okc ((dU lS_ h0).2) (ok1 (vY p_s1 x0 (aN p_space p_s1.dir)))))<|
 .cH [7] (aeO p_stamp (p_s1.row (aN p_space p_s1.dir) x0)) fun r1 _=>
 .iB (r1.aH != 0) (.ask (Q18 r1) fun r2 h1=>
 .say [.res (.dat (ak.lf1 r2)),.rows ((l0++[r2]).map ak.lf)] (okc (uS _ _ h1) (ok1 (ap_ ak.aX l0 r2)))<|
 .grd ((l0.length+[r2].length)*80≤140737488355328) fun h2=>
 .say [] (okc (cp_ ak.lf h2) (ok1 (vZ p_s1 x0 (aN p_space p_s1.dir))))<|
 .ret ⟨[.gho [1,7] [.res (bD p_s1 none) none,.dead]],[2,8,10,33,34,35],[(10,6)],7⟩ (l0++[r2]))<|
 .say [] (ok1 (vZ p_s1 x0 (aN p_space p_s1.dir)))<|
 .ret ⟨[.gho [1,7] [.res (bD p_s1 none) none,.dead]],[2,8,10,33,34,35],[],7⟩ (l0)
noncomputable def uY(p_b0_0:Int)(p_b0_1:List aj)(p_s1:bg)(p_s2:List (ByteArray×ah))(p_s3:List (ByteArray×au))(p_space:ByteArray)(p_stamp:Int)(r0:List ByteArray):(Int×(List ak))→Mo ((Int×(List ak))⊕((List ak))):=fun(v0,l0)=>
 .iB (decide ((v0:Int)<(r0.length:Int))) (.jk Tryz.f37 4 [1,1,1,1,1,1,0,1,0,0,1,1,0] 8 (fun r_=>⟨[(2,.i_ p_stamp),(8,.hnd 1 (aN p_space p_s1.dir)),(10,.own 6),(33,.own 5),(34,.i_ (r0.length:Int)),(35,.i_ v0)],[.box 113 (.agg [.i_ p_b0_0,.lf (.rows 25 (p_b0_1.map aj.lf)),.mp 1,.mp 2,.mp 3]),.res (bD p_s1 none) none,.res (bP p_s2) none,.res (bT p_s3) none,.dead,.row 9 1 (r0.map lfS),.row 40 5 (r_.map ak.lf)]⟩) ⟨[(2,.i_ p_stamp),(8,.hnd 1 (aN p_space p_s1.dir)),(10,.own 6),(33,.own 5),(34,.i_ (r0.length:Int)),(35,.i_ v0)],[.box 113 (.agg [.i_ p_b0_0,.lf (.rows 25 (p_b0_1.map aj.lf)),.mp 1,.mp 2,.mp 3]),.res (bD p_s1 none) none,.res (bP p_s2) none,.res (bT p_s3) none,.dead,.row 9 1 (r0.map lfS),.row 40 5 (l0.map ak.lf)]⟩ (SA l0 p_b0_0 p_b0_1 p_s1 p_s2 p_s3 p_space p_stamp r0 v0) fun r1=>
 .rt [2,8,10,33,34,35] 7 (.inl (IntKind.wrap .i64 (v0+1),r1)))<|
 .ret ⟨[.kill 5],[10],[],7⟩ (.inr (l0))
noncomputable def aeR(p_b0_0:Int)(p_b0_1:List aj)(p_s1:bg)(p_s2:List (ByteArray×ah))(p_s3:List (ByteArray×au))(p_space:ByteArray)(p_stamp:Int)(r0:List ByteArray)(v0:Int)(l0:List ak):Option (((List ak))):=dh (fun v_=>(uY p_b0_0 p_b0_1 p_s1 p_s2 p_s3 p_space p_stamp r0 v_).den) FU (v0,l0)
noncomputable def an9(p_space:ByteArray)(p_stamp:Int)(p_b0_0:Int)(p_b0_1:List aj)(p_s1:bg)(p_s2:List (ByteArray×ah))(p_s3:List (ByteArray×au))(r:(List ak)×Int):List AV:=[.lf (.rows 5 (r.1.map ak.lf)),.i_ r.2]
noncomputable def anb(p_space:ByteArray)(p_stamp:Int)(p_b0_0:Int)(p_b0_1:List aj)(p_s1:bg)(p_s2:List (ByteArray×ah))(p_s3:List (ByteArray×au))(r:(List ak)×Int):List Slot:=[.box 113 (.agg [.i_ p_b0_0,.lf (.rows 25 (p_b0_1.map aj.lf)),.mp 1,.mp 2,.mp 3]),.res (bD p_s1 none) none,.res (bP p_s2) none,.res (bT p_s3) none]
noncomputable def aeS(p_space:ByteArray)(p_stamp:Int)(p_b0_0:Int)(p_b0_1:List aj)(p_s1:bg)(p_s2:List (ByteArray×ah))(p_s3:List (ByteArray×au)):Mo ((List ak)×Int):=
 .say [.br false,.opH [1] (.tup [.hnd 0 (aN p_space p_s1.dir),.lf (.bool ((aN p_space p_s1.dir).isSome))]) [.res (bD p_s1 none) none]] (okc (rfl:false=false) (ok1 (zF p_s1 p_space)))<|
 .iB (!((aN p_space p_s1.dir).isSome)) (.ret ⟨[.nil 0 5,.tod 0],[0,1],[],4⟩ (([]:List ak),(15:Int)))<|
 .cH [0,1,2,3] (aiD p_space p_stamp p_b0_0 p_b0_1 p_s1 p_s2 p_s3) fun r0 _=>
 .iB (r0) (.ret ⟨[.nil 0 5,.tod 0],[0,1],[],4⟩ (([]:List ak),(30:Int)))<|
 .say [.iH [1] (.clo 106 [.ptr 1 0]) [.res (bD p_s1 none) none,.box 139 (.agg [.hnd 0 (aN p_space p_s1.dir)])]] ok0<|
 .ask (alb (aN p_space p_s1.dir) p_s1) fun r1 h0=>
 .say [] (ok1 (aia _ _ _ h0))<|
 .ask (agR (aN p_space p_s1.dir) p_s1) fun r2 h1=>
 .say [.iH [4,1] (.own 2) [.box 139 (.agg [.hnd 1 (aN p_space p_s1.dir)]),.res (bD p_s1 none) none,.row 9 1 (r2.map lfS)],.num r2.length] (okc (agS _ _ _ h1) (okc (ln_ r2 lfS) (ok1 (by simp[ak.aX]:(([]:List ak).map ak.lf)=[]))))<|
 .l1m [.kill 4,.yj 10 40 5,.lu 6 (([]:List ak).map ak.lf)] Tryz.f37 4 [1,1,1,1,1,1,0,1,0] 0 (.exit 0) (fun(v0,l0)=>⟨[(2,.i_ p_stamp),(8,.hnd 1 (aN p_space p_s1.dir)),(10,.own 6),(33,.own 5),(34,.i_ (r2.length:Int)),(35,.i_ v0)],[.box 113 (.agg [.i_ p_b0_0,.lf (.rows 25 (p_b0_1.map aj.lf)),.mp 1,.mp 2,.mp 3]),.res (bD p_s1 none) none,.res (bP p_s2) none,.res (bT p_s3) none,.dead,.row 9 1 (r2.map lfS),.row 40 5 (l0.map ak.lf)]⟩) (fun r_=>⟨[(10,.own 6)],[.box 113 (.agg [.i_ p_b0_0,.lf (.rows 25 (p_b0_1.map aj.lf)),.mp 1,.mp 2,.mp 3]),.res (bD p_s1 none) none,.res (bP p_s2) none,.res (bT p_s3) none,.dead,.dead,.row 40 5 (r_.map ak.lf)]⟩) (aeR p_b0_0 p_b0_1 p_s1 p_s2 p_s3 p_space p_stamp r2 0 ([]:List ak)) (uY p_b0_0 p_b0_1 p_s1 p_s2 p_s3 p_space p_stamp r2) (0,([]:List ak)) fun r3=>
 .ret ⟨[.frz 6],[0,1],[],4⟩ (r3,(0:Int))
noncomputable def Q36(p_space:ByteArray)(p_stamp:Int)(p_b0_0:Int)(p_b0_1:List aj)(p_s1:bg)(p_s2:List (ByteArray×ah))(p_s3:List (ByteArray×au)):Option ((List ak)×Int):=Mo.den (aeS p_space p_stamp p_b0_0 p_b0_1 p_s1 p_s2 p_s3)
theorem aeT(p_space:ByteArray)(p_stamp:Int)(p_b0_0:Int)(p_b0_1:List aj)(p_s1:bg)(p_s2:List (ByteArray×ah))(p_s3:List (ByteArray×au)):FH (Q36 p_space p_stamp p_b0_0 p_b0_1 p_s1 p_s2 p_s3) 37 [.ptr 0 0,.lf (.str p_space),.i_ p_stamp] [.box 113 (.agg [.i_ p_b0_0,.lf (.rows 25 (p_b0_1.map aj.lf)),.mp 1,.mp 2,.mp 3]),.res (bD p_s1 none) none,.res (bP p_s2) none,.res (bT p_s3) none] (fun r=>resV (an9 p_space p_stamp p_b0_0 p_b0_1 p_s1 p_s2 p_s3 r)) (fun r=>anb p_space p_stamp p_b0_0 p_b0_1 p_s1 p_s2 p_s3 r):=jD Tryz.func37
noncomputable def aoa(p_session:ByteArray)(p_b0_0:Int)(p_b0_1:List aj)(p_s1:bg)(p_s2:List (ByteArray×ah))(p_s3:List (ByteArray×au))(r:Unit):List AV:=[.i_ (((aN p_session p_s3).getD au.z).kU),.i_ (((aN p_session p_s3).getD au.z).dF)]
noncomputable def alc(p_session:ByteArray)(p_b0_0:Int)(p_b0_1:List aj)(p_s1:bg)(p_s2:List (ByteArray×ah))(p_s3:List (ByteArray×au))(r:Unit):List Slot:=[.box 113 (.agg [.i_ p_b0_0,.lf (.rows 25 (p_b0_1.map aj.lf)),.mp 1,.mp 2,.mp 3]),.res (bD p_s1 none) none,.res (bP p_s2) none,.res (bT p_s3) none]
noncomputable def ald(p_session:ByteArray)(p_b0_0:Int)(p_b0_1:List aj)(p_s1:bg)(p_s2:List (ByteArray×ah))(p_s3:List (ByteArray×au)):Mo (Unit):=
 .say [.br false,.opH [3] (.dat (au.lf1 ((aN p_session p_s3).getD au.z))) [.res (bT p_s3) none],.order [(true,0),(true,1),(true,2),(true,3),(true,4),(true,5)] none []] (okc (rfl:false=false) (ok1 (agH p_s3 p_session)))<|
 .ret ⟨[.kill 4],[0,1],[],4⟩ ()
noncomputable def aib(p_session:ByteArray)(p_b0_0:Int)(p_b0_1:List aj)(p_s1:bg)(p_s2:List (ByteArray×ah))(p_s3:List (ByteArray×au)):Option (Unit):=Mo.den (ald p_session p_b0_0 p_b0_1 p_s1 p_s2 p_s3)
theorem X4(p_session:ByteArray)(p_b0_0:Int)(p_b0_1:List aj)(p_s1:bg)(p_s2:List (ByteArray×ah))(p_s3:List (ByteArray×au)):FH (aib p_session p_b0_0 p_b0_1 p_s1 p_s2 p_s3) 38 [.ptr 0 0,.lf (.str p_session)] [.box 113 (.agg [.i_ p_b0_0,.lf (.rows 25 (p_b0_1.map aj.lf)),.mp 1,.mp 2,.mp 3]),.res (bD p_s1 none) none,.res (bP p_s2) none,.res (bT p_s3) none] (fun r=>resV (aoa p_session p_b0_0 p_b0_1 p_s1 p_s2 p_s3 r)) (fun r=>alc p_session p_b0_0 p_b0_1 p_s1 p_s2 p_s3 r):=jD Tryz.func38
abbrev N8(m:ak→ak→Option (Bool)):Prop:=∀p_a p_b,FV (m p_a p_b) 27 [.dat (ak.lf1 p_a),.dat (ak.lf1 p_b)] .b_
structure Dt where
 m1:(p_a:ak)→(p_b:ak)→Option (Bool)
 ok1:N8 m1
noncomputable def N9(R_:Dt)(p_a:ak)(p_b:ak):Mo (Bool):=
 .oV 4005 (p_a.aH != p_b.aH) [2,3,18] 2 (p_a.dR != p_b.dR)
noncomputable def Oa(R_:Dt)(p_a:ak)(p_b:ak)(r0:Bool):Mo (Bool):=
 .oV 4012 (r0) [2,3,25] 2 (!decide ((p_a.fText:ByteArray)=(p_b.fText:ByteArray)))
noncomputable def FQ(R_:Dt)(p_a:ak)(p_b:ak)(r0:Bool):Mo (Bool):=
 .iG 4019 (r0) (.rt [2,3,34] 2 (true))<|
 .nu p_a.bC ak.lf<|
 .nu p_b.bC ak.lf<|
 .rt [2,3,34] 2 ((p_a.bC.length:Int) != (p_b.bC.length:Int))
noncomputable def FT(R_:Dt)(p_a:ak)(p_b:ak)(r0:Bool):Mo (Bool):=
 .iG 4028 (r0) (.rt [2,3,43] 2 (true))<|
 .nu p_a.bG aB.lf<|
 .nu p_b.bG aB.lf<|
 .rt [2,3,43] 2 ((p_a.bG.length:Int) != (p_b.bG.length:Int))
noncomputable def oW(R_:Dt)(p_a:ak)(p_b:ak):(Int)→Mo ((Int)⊕(Unit⊕Unit)):=fun(v0)=>
 .nu p_a.bC ak.lf<|
 .iB (decide ((v0:Int)<(p_a.bC.length:Int))) (.ask (gX p_a.bC v0) fun x0 h0=>
 .say [] (ok1 (dU ak.aX h0))<|
 .ask (gX p_b.bC v0) fun x1 h1=>
 .say [] (ok1 (dU ak.aX h1))<|
 .ask (R_.m1 x0 x1) fun r0 h2=>
 .say [.dZ (.q 0 (.q 1 (.q 2 (.q 3 (.q 4 (.q 5 (.q 6 (.q 7 (.q 8 (.q 9 (.l 10 (.q 11 .fin)))))))))))) (some 10) [] [.row (ak.lf1 x0),.row (ak.lf1 x1),.res (.b_ r0)] [2,3,5,62] 2 [(2,.ptr 0 0),(3,.ptr 1 0),(5,.i_ v0),(62,.lf (.bool (!r0)))] [bF p_a,bF p_b]] (okc (R_.ok1 _ _ _ h2) (ok1 (rf_ ⟨[(2,.ptr 0 0),(3,.ptr 1 0),(5,.i_ v0),(62,.lf (.bool (!r0)))],[bF p_a,bF p_b]⟩)))<|
 .iB (!r0) (.ret ⟨[.kill 0,.kill 1],[4],[],2⟩ (.inr (.inl ())))<|
 .rt [2,3,5] 2 (.inl (IntKind.wrap .i64 (v0+1))))<|
 .rt [2,3] 2 (.inr (.inr (())))
noncomputable def VK(R_:Dt)(p_a:ak)(p_b:ak)(v0:Int):Option (Unit⊕Unit):=dh (fun v_=>(oW R_ p_a p_b v_).den) FU (v0)
theorem aob:Uz (opsOf (Code.sub (bodyC Tryz.f27) [1,1,1,0,1,0,0,1,0,0,0])) [(true,0),(true,1),(true,2),(true,3),(true,4),(true,5),(true,6),(true,7),(true,8),(true,9),(true,10),(true,11),(true,12),(true,13),(true,14),(true,15),(true,16),(true,17),(true,18),(true,19),(true,20),(true,21),(true,22),(true,23),(true,24),(true,25),(false,26),(true,27),(true,28)] none=true:=by kernel_rfl
noncomputable def Aj(R_:Dt)(p_a:ak)(p_b:ak)(v0:Int):Mo (Bool):=
 .say [.lN [(true,0),(true,1),(true,2),(true,3),(true,4),(true,5),(true,6),(true,7),(true,8),(true,9),(true,10),(true,11),(true,12),(true,13),(true,14),(true,15),(true,16),(true,17),(true,18),(true,19),(true,20),(true,21),(true,22),(true,23),(true,24),(true,25),(false,26),(true,27),(true,28)] none []] (ok1 aob)<|
 .gx aB.aX p_a.bG v0 fun x0 _=>
 .gx aB.aX p_b.bG v0 fun x1 _=>
 .iG 24013 (!decide ((x0.fName:ByteArray)=(x1.fName:ByteArray))) (.rt [2,3,6,98] 2 (true))<|
 .gx aB.aX p_a.bG v0 fun x2 _=>
 .gx aB.aX p_b.bG v0 fun x3 _=>
 .cl (R_.ok1 x2.fValue x3.fValue) fun r0 _=>
 .rt [2,3,6,98] 2 (!r0)
noncomputable def qO(R_:Dt)(p_a:ak)(p_b:ak):(Int)→Mo ((Int)⊕(Unit⊕Unit)):=fun(v0)=>
 .nu p_a.bG aB.lf<|
 .iB (decide ((v0:Int)<(p_a.bG.length:Int))) (.jk Tryz.f27 0 [1,1,1,0,1,0,0,1,0,0,0] 29 (fun r_=>⟨[(2,.ptr 0 0),(3,.ptr 1 0),(6,.i_ v0),(98,.b_ r_)],[bF p_a,bF p_b]⟩) ⟨[(2,.ptr 0 0),(3,.ptr 1 0),(6,.i_ v0)],[bF p_a,bF p_b]⟩ (Aj R_ p_a p_b v0) fun r0=>
 .iB (r0) (.ret ⟨[.kill 0,.kill 1],[4],[],2⟩ (.inr (.inl ())))<|
 .rt [2,3,6] 2 (.inl (IntKind.wrap .i64 (v0+1))))<|
 .ret ⟨[.kill 0,.kill 1],[],[],2⟩ (.inr (.inr (())))
noncomputable def VL(R_:Dt)(p_a:ak)(p_b:ak)(v0:Int):Option (Unit⊕Unit):=dh (fun v_=>(qO R_ p_a p_b v_).den) FU (v0)
noncomputable def aam(R_:Dt)(p_a:ak)(p_b:ak):Mo (Bool):=
 .sf Tryz.f27 0 [1,0,0] 0 12 1 [(2,.ptr 0 0),(3,.ptr 1 0)] [bF p_a,bF p_b] 18 (N9 R_ p_a p_b) fun r0=>
 .sb Tryz.f27 0 [1,0,0] 12 7 1 [(2,.ptr 0 0),(3,.ptr 1 0)] [bF p_a,bF p_b] 18 25 r0 (Oa R_ p_a p_b r0) fun r1=>
 .sb Tryz.f27 0 [1,0,0] 19 9 1 [(2,.ptr 0 0),(3,.ptr 1 0)] [bF p_a,bF p_b] 25 34 r1 (FQ R_ p_a p_b r1) fun r2=>
 .sb Tryz.f27 0 [1,0,0] 28 9 1 [(2,.ptr 0 0),(3,.ptr 1 0)] [bF p_a,bF p_b] 34 43 r2 (FT R_ p_a p_b r2) fun r3=>
 .iB (r3) (.ret (bn 1) (false))<|
 .l2m [] Tryz.f27 0 [1,1,0,1,0] 0 (fun(v0)=>⟨[(2,.ptr 0 0),(3,.ptr 1 0),(5,.i_ v0)],[bF p_a,bF p_b]⟩) .ret (fun _=>⟨[(4,.b_ false)],[.dead,.dead]⟩) (.exit 0) (fun _=>⟨[(2,.ptr 0 0),(3,.ptr 1 0)],[bF p_a,bF p_b]⟩) (VK R_ p_a p_b 0) (oW R_ p_a p_b) (0) (fun o0=>
 .ret (bn 1) (false)) fun o1=>
 .l2m [] Tryz.f27 0 [1,1,1,0,1,0] 0 (fun(v1)=>⟨[(2,.ptr 0 0),(3,.ptr 1 0),(6,.i_ v1)],[bF p_a,bF p_b]⟩) .ret (fun _=>⟨[(4,.b_ false)],[.dead,.dead]⟩) (.exit 2) (fun _=>⟨[],[.dead,.dead]⟩) (VL R_ p_a p_b 0) (qO R_ p_a p_b) (0) (fun o2=>
 .ret (bn 1) (false)) fun o3=>
 .ret (bn 1) (true)
theorem ale(R_:Dt):N8 fun p_a p_b=>Mo.den (aam R_ p_a p_b):=fun _ _=>dI Tryz.func27
noncomputable def oZ:Nat→Dt
 |0=>{ m1:=fun p_a p_b=>none,ok1:=fun _ _ _ h=>(by cases h) }
 |n_+1=>{ m1:=fun p_a p_b=>Mo.den (aam (oZ n_) p_a p_b),ok1:=ale (oZ n_) }
noncomputable def Q3(p_a:ak)(p_b:ak):Option (Bool):=(oZ FU).m1 p_a p_b
theorem FW:N8 Q3:=(oZ FU).ok1
noncomputable def VN(p_l:List aj)(p_name:ByteArray):Mo (aj×Bool):=
 .cl (zK p_l p_name) fun r0 _=>
 .iB (decide ((r0:Int)<0)) (.ret (bn 2) (aj.mk ⟨#[]⟩ [] aA.z 0 0,false))<|
 .gx aj.aX p_l r0 fun x0 _=>
 .ask (Q37 x0) fun r1 h0=>
 .say [.iH [] (ag_ (aj.lf1 r1) [(1,.own 0)]) [.row 60 31 (r1.bf.map aS.lf)],.at_ 0 0,.frz 1] (ok1 (Ny _ _ h0))<|
 .ret (bn 2) (r1,true)
noncomputable def aic(p_l:List aj)(p_name:ByteArray):Option (aj×Bool):=Mo.den (VN p_l p_name)
theorem X5(p_l:List aj)(p_name:ByteArray):FV (aic p_l p_name) 44 [.lf (.rows 25 (p_l.map aj.lf)),.lf (.str p_name)] (fun r=>.tup [.dat (aj.lf1 r.1),.b_ r.2]):=dI Tryz.func44
noncomputable def FX(p_b0_0:Int)(p_b0_1:List aj)(p_s1:bg)(p_s2:List (ByteArray×ah))(p_s3:List (ByteArray×au)):(Int×(List aj))→Mo ((Int×(List aj))⊕((List aj))):=fun(v0,l0)=>
 .iB (decide ((v0:Int)<(p_b0_1.length:Int))) (.gx aj.aX p_b0_1 v0 fun x0 _=>
 .ask (aic p_b0_1 x0.fName) fun r0 h0=>
 .say [.dZ (.q 0 (.q 1 (.q 2 (.q 3 (.q 4 (.q 5 (.alt 6 (.q 7 (.q 8 (.q 9 (.l 10 (.l 11 (.q 12 .fin)))))) (.l 10 (.l 6 (.q 7 (.q 8 (.q 9 (.l 11 (.q 12 .fin)))))))))))))) none [6] [.both [.at_ 16 6,.resv 1,.res (.tup [.dat (aj.lf1 r0.1),.b_ r0.2]),.slot 6] [.at_ 16 10,.resv 1,.slot 6,.res (.tup [.dat (aj.lf1 r0.1),.b_ r0.2])]] [0,3,6,13,14,15] 7 [(0,.ptr 0 0),(3,.own 4),(6,.ptr 6 0),(13,.lf (.rows 25 (p_b0_1.map aj.lf))),(14,.i_ (p_b0_1.length:Int)),(15,.i_ v0)] [.box 113 (.agg [.i_ p_b0_0,.lf (.rows 25 (p_b0_1.map aj.lf)),.mp 1,.mp 2,.mp 3]),.res (bD p_s1 none) none,.res (bP p_s2) none,.res (bT p_s3) none,.row 48 25 (l0.map aj.lf),.box 48 (.agg ((aj.lf1 x0).map AV.lf)),.box 48 (.agg ((aj.lf1 r0.1).map AV.lf))],.rows ((l0++[r0.1]).map aj.lf)] (okc (X5 _ _ _ h0) (okc (rf_ ⟨[(0,.ptr 0 0),(3,.own 4),(6,.ptr 6 0),(13,.lf (.rows 25 (p_b0_1.map aj.lf))),(14,.i_ (p_b0_1.length:Int)),(15,.i_ v0)],[.box 113 (.agg [.i_ p_b0_0,.lf (.rows 25 (p_b0_1.map aj.lf)),.mp 1,.mp 2,.mp 3]),.res (bD p_s1 none) none,.res (bP p_s2) none,.res (bT p_s3) none,.row 48 25 (l0.map aj.lf),.box 48 (.agg ((aj.lf1 x0).map AV.lf)),.box 48 (.agg ((aj.lf1 r0.1).map AV.lf))]⟩) (okc (X5 _ _ _ h0) (okc (rf_ ⟨[(0,.ptr 0 0),(3,.own 4),(6,.ptr 6 0),(13,.lf (.rows 25 (p_b0_1.map aj.lf))),(14,.i_ (p_b0_1.length:Int)),(15,.i_ v0)],[.box 113 (.agg [.i_ p_b0_0,.lf (.rows 25 (p_b0_1.map aj.lf)),.mp 1,.mp 2,.mp 3]),.res (bD p_s1 none) none,.res (bP p_s2) none,.res (bT p_s3) none,.row 48 25 (l0.map aj.lf),.box 48 (.agg ((aj.lf1 x0).map AV.lf)),.box 48 (.agg ((aj.lf1 r0.1).map AV.lf))]⟩) (ok1 (ap_ aj.aX l0 r0.1))))))<|
 .grd ((l0.length+[r0.1].length)*368≤140737488355328) fun h1=>
 .say [] (ok1 (cp_ aj.lf h1))<|
 .ret ⟨[],[0,3,13,14,15],[(8,4)],5⟩ (.inl (IntKind.wrap .i64 (v0+1),l0++[r0.1])))<|
 .rt [3] 5 (.inr (l0))
noncomputable def aeU(p_b0_0:Int)(p_b0_1:List aj)(p_s1:bg)(p_s2:List (ByteArray×ah))(p_s3:List (ByteArray×au))(v0:Int)(l0:List aj):Option (((List aj))):=dh (fun v_=>(FX p_b0_0 p_b0_1 p_s1 p_s2 p_s3 v_).den) FU (v0,l0)
noncomputable def aoc(p_b0_0:Int)(p_b0_1:List aj)(p_s1:bg)(p_s2:List (ByteArray×ah))(p_s3:List (ByteArray×au))(r:List aj):List AV:=[.lf (.rows 25 (r.map aj.lf))]
noncomputable def anc(p_b0_0:Int)(p_b0_1:List aj)(p_s1:bg)(p_s2:List (ByteArray×ah))(p_s3:List (ByteArray×au))(r:List aj):List Slot:=[.box 113 (.agg [.i_ p_b0_0,.lf (.rows 25 (p_b0_1.map aj.lf)),.mp 1,.mp 2,.mp 3]),.res (bD p_s1 none) none,.res (bP p_s2) none,.res (bT p_s3) none]
noncomputable def aeV(p_b0_0:Int)(p_b0_1:List aj)(p_s1:bg)(p_s2:List (ByteArray×ah))(p_s3:List (ByteArray×au)):Mo (List aj):=
 .say [.br false,.num p_b0_1.length] (okc (rfl:false=false) (okc (ln_ p_b0_1 aj.lf) (ok1 (by simp[aj.aX]:(([]:List aj).map aj.lf)=[]))))<|
 .l1m [.yj 3 48 25,.lu 4 (([]:List aj).map aj.lf)] Tryz.f18 4 [1,1,1,0,1,0] 0 (.exit 0) (fun(v0,l0)=>⟨[(0,.ptr 0 0),(3,.own 4),(13,.lf (.rows 25 (p_b0_1.map aj.lf))),(14,.i_ (p_b0_1.length:Int)),(15,.i_ v0)],[.box 113 (.agg [.i_ p_b0_0,.lf (.rows 25 (p_b0_1.map aj.lf)),.mp 1,.mp 2,.mp 3]),.res (bD p_s1 none) none,.res (bP p_s2) none,.res (bT p_s3) none,.row 48 25 (l0.map aj.lf)]⟩) (fun r_=>⟨[(3,.own 4)],[.box 113 (.agg [.i_ p_b0_0,.lf (.rows 25 (p_b0_1.map aj.lf)),.mp 1,.mp 2,.mp 3]),.res (bD p_s1 none) none,.res (bP p_s2) none,.res (bT p_s3) none,.row 48 25 (r_.map aj.lf)]⟩) (aeU p_b0_0 p_b0_1 p_s1 p_s2 p_s3 0 ([]:List aj)) (FX p_b0_0 p_b0_1 p_s1 p_s2 p_s3) (0,([]:List aj)) fun r0=>
 .ret ⟨[.frz 4],[0],[],4⟩ (r0)
noncomputable def Q45(p_b0_0:Int)(p_b0_1:List aj)(p_s1:bg)(p_s2:List (ByteArray×ah))(p_s3:List (ByteArray×au)):Option (List aj):=Mo.den (aeV p_b0_0 p_b0_1 p_s1 p_s2 p_s3)
theorem VO(p_b0_0:Int)(p_b0_1:List aj)(p_s1:bg)(p_s2:List (ByteArray×ah))(p_s3:List (ByteArray×au)):FH (Q45 p_b0_0 p_b0_1 p_s1 p_s2 p_s3) 18 [.ptr 0 0] [.box 113 (.agg [.i_ p_b0_0,.lf (.rows 25 (p_b0_1.map aj.lf)),.mp 1,.mp 2,.mp 3]),.res (bD p_s1 none) none,.res (bP p_s2) none,.res (bT p_s3) none] (fun r=>resV (aoc p_b0_0 p_b0_1 p_s1 p_s2 p_s3 r)) (fun r=>anc p_b0_0 p_b0_1 p_s1 p_s2 p_s3 r):=jD Tryz.func18
end
end Go.Proofs.YtpdlghcgekojlaaGreatDoor
namespace Go.Proofs.YtpdlghcgekojlaaGreatDoor
open Go.RowKit
set_option maxRecDepth 20000
set_option maxHeartbeats 4000000
noncomputable section
theorem aod:Uz (opsOf (Code.sub (bodyC Tryz.f10) [1,1,1,1,1,1,1,1,1,0])) [(true,0),(true,1),(true,2),(true,3),(true,4),(true,5),(true,6),(true,7),(true,8),(true,9),(true,10),(true,11),(false,12),(false,13),(true,14),(true,15),(true,16),(true,17),(true,18),(true,19),(true,20),(true,21),(true,22),(true,23),(true,24),(true,25),(true,26),(true,27),(true,28),(true,29),(true,30),(true,31),(true,32),(true,33),(true,34),(true,35),(true,36),(true,37),(false,38),(false,39),(true,40),(true,41),(true,42),(true,43),(false,44),(true,45),(true,46),(true,47),(true,48)] none=true:=by kernel_rfl
noncomputable def alf :Mo (Bool):=
 .say [.iH [] (.ptr 3 0) [.res (bD (⟨[],[]⟩:bg) none) none,.res (bP ([]:List (ByteArray×ah))) none,.res (bT ([]:List (ByteArray×au))) none,.box 113 (.agg [.i_ 0,.lf (.rows 25 (([]:List aj).map aj.lf)),.mp 0,.mp 1,.mp 2])],.iH [3,0,1,2] (.i_ 0) [.box 113 (.agg [.i_ 0,.lf (.rows 25 (([]:List aj).map aj.lf)),.mp 1,.mp 2,.mp 3]),.res (bD (⟨[],[]⟩:bg) none) none,.res (bP ([]:List (ByteArray×ah))) none,.res (bT ([]:List (ByteArray×au))) none],.br false,.at_ 10 5,.tod 23] ok0<|
 .ask (ahZ) fun r0 h0=>
 .say [] (ok1 (XY  _ h0))<|
 .ask (Q80 0 ([]:List aj) (⟨[],[]⟩:bg) ([]:List (ByteArray×ah)) ([]:List (ByteArray×au))) fun r1 h1=>
 .say [] (okc (NW _ _ _ _ _ _ h1) (ok1 (rfl:false=false)))<|
 .cH [3,0,1,2] (N7 (bI.mk 0 1 ⟨#[]⟩ 0 (ay.alW (ay.qF ay.z 4) (aj.mk ⟨#[99]⟩ [] (aA.agi aA.z (-1)) 0 0))) 0 ([]:List aj) (⟨[],[]⟩:bg) ([]:List (ByteArray×ah)) ([]:List (ByteArray×au))) fun r2 _=>
 .cl (D5 1) fun r3 _=>
 .ask (ak8 1) fun r4 h2=>
 .say [.res (.dat (ak.lf1 r4)),.at_ 12 5,.tod 29] (ok1 (X3 _ _ h2))<|
 .ask (Q67 (bI.mk 0 5 ⟨#[115]⟩ 3 (ay.Pv (ay.Pq (ay.uH (ay.qF ay.z 2) ⟨#[99]⟩) r3) r4)) r2.2.1 r2.2.2.1 r2.2.2.2.1 r2.2.2.2.2.1 r2.2.2.2.2.2) fun r5 h3=>
 .say [.iH [3,0,1,2] (.i_ r5.1) [.box 113 (.agg [.i_ r5.2.1,.lf (.rows 25 (r5.2.2.1.map aj.lf)),.mp 1,.mp 2,.mp 3]),.res (bD r5.2.2.2.1 none) none,.res (bP r5.2.2.2.2.1) none,.res (bT r5.2.2.2.2.2) none],.at_ 14 3,.tod 33] (ok1 (N7 _ _ _ _ _ _ _ h3))<|
 .cH [3,0,1,2] (N7 (bI.mk 0 5 ⟨#[]⟩ 0 (ay.qF ay.z 1)) r5.2.1 r5.2.2.1 r5.2.2.2.1 r5.2.2.2.2.1 r5.2.2.2.2.2) fun r6 _=>
 .cl (D5 1) fun r7 _=>
 .cH [3,0,1,2] (aeQ ⟨#[99]⟩ r7 5 r6.2.1 r6.2.2.1 r6.2.2.2.1 r6.2.2.2.2.1 r6.2.2.2.2.2) fun r8 _=>
 .ask (Q36 ⟨#[99]⟩ 4 r6.2.1 r6.2.2.1 r6.2.2.2.1 r6.2.2.2.2.1 r6.2.2.2.2.2) fun r9 h4=>
 .say [.iH [3,0,1,2] (.tup [.lf (.rows 5 (r9.1.map ak.lf)),.i_ r9.2]) [.box 113 (.agg [.i_ r6.2.1,.lf (.rows 25 (r6.2.2.1.map aj.lf)),.mp 1,.mp 2,.mp 3]),.res (bD r6.2.2.2.1 none) none,.res (bP r6.2.2.2.2.1) none,.res (bT r6.2.2.2.2.2) none],.iH [3,0,1,2] (.tup [.i_ (((aN ⟨#[115]⟩ r6.2.2.2.2.2).getD au.z).kU),.i_ (((aN ⟨#[115]⟩ r6.2.2.2.2.2).getD au.z).dF)]) [.box 113 (.agg [.i_ r6.2.1,.lf (.rows 25 (r6.2.2.1.map aj.lf)),.mp 1,.mp 2,.mp 3]),.res (bD r6.2.2.2.1 none) none,.res (bP r6.2.2.2.2.1) none,.res (bT r6.2.2.2.2.2) none]] (ok1 (aeT _ _ _ _ _ _ _ _ h4))<|
 .ask (aib ⟨#[115]⟩ r6.2.1 r6.2.2.1 r6.2.2.2.1 r6.2.2.2.2.1 r6.2.2.2.2.2) fun r10 h5=>
 .say [] (okc (X4 _ _ _ _ _ _ _ h5) (ok1 aod))<|
 .ite (r2.1==0) (fun c0=>
 .say [] (ok1 c0)<|
 .ite (r5.1==0) (fun c1=>
 .say [] (ok1 c1)<|
 .ite (r6.1==23) (fun c2=>
 .say [] (ok1 c2)<|
 .ask (ak8 1) fun r11 h6=>
 .say [] (ok1 (X3 _ _ h6))<|
 .ask (Q3 r8.1 r11) fun r12 h7=>
 .say [] (ok1 (FW _ _ _ h7))<|
 .ite (r12) (fun c3=>
 .say [] (ok1 c3)<|
 .ite (r8.2==0) (fun c4=>
 .say [] (okc c4 (ok1 (ln_ r9.1 ak.lf)))<|
 .ite ((r9.1.length:Int)==0) (fun c5=>
 .say [] (ok1 c5)<|
 .ite (r9.2==0) (fun c6=>
 .say [] (ok1 c6)<|
 .ite ((((aN ⟨#[115]⟩ r6.2.2.2.2.2).getD au.z).kU)==3) (fun c7=>
 .say [] (ok1 c7)<|
 .ite ((((aN ⟨#[115]⟩ r6.2.2.2.2.2).getD au.z).dF)==5) (fun c8=>
 .say [.lN [(true,0),(true,1),(true,2),(true,3),(true,4),(true,5),(true,6),(true,7),(true,8),(true,9),(true,10),(true,11),(false,12),(false,13),(true,14),(true,15),(true,16),(true,17),(true,18),(true,19),(true,20),(true,21),(true,22),(true,23),(true,24),(true,25),(true,26),(true,27),(true,28),(true,29),(true,30),(true,31),(true,32),(true,33),(true,34),(true,35),(true,36),(true,37),(false,38),(false,39),(true,40),(true,41),(true,42),(true,43),(false,44),(true,45),(true,46),(true,47),(true,48)] none [0,1,2,3],.gd 22002 true,.gd 22006 true,.gd 22010 true,.res (.dat (ak.lf1 r11)),.res (.b_ r12),.gd 22015 true,.gd 22019 true,.num r9.1.length,.gd 22024 true,.gd 22028 true,.gd 22032 true,.gd 22036 true] (ok1 c8)<|
 .cl (D5 1) fun r13 _=>
 .cH [3,0,1,2] (Vw ⟨#[99]⟩ r13 r6.2.1 r6.2.2.1 r6.2.2.2.1 r6.2.2.2.2.1 r6.2.2.2.2.2) fun r14 _=>
 .iG 22042 (r14==5) (.ask (Q45 r6.2.1 r6.2.2.1 r6.2.2.2.1 r6.2.2.2.2.1 r6.2.2.2.2.2) fun r15 h8=>
 .say [.iH [3,0,1,2] (.lf (.rows 25 (r15.map aj.lf))) [.box 113 (.agg [.i_ r6.2.1,.lf (.rows 25 (r6.2.2.1.map aj.lf)),.mp 1,.mp 2,.mp 3]),.res (bD r6.2.2.2.1 none) none,.res (bP r6.2.2.2.2.1) none,.res (bT r6.2.2.2.2.2) none],.num r15.length] (okc (VO _ _ _ _ _ _ h8) (ok1 (ln_ r15 aj.lf)))<|
 .ret (bn 1) ((r15.length:Int)==1))<|
 .ret (bn 1) (false)) fun c8=>
 .say [.lN [(true,0),(true,1),(true,2),(true,3),(true,4),(true,5),(true,6),(true,7),(true,8),(true,9),(true,10),(true,11),(false,12),(false,13),(true,14),(true,15),(true,16),(true,17),(true,18),(true,19),(true,20),(true,21),(true,22),(true,23),(true,24),(true,25),(true,26),(true,27),(true,28),(true,29),(true,30),(true,31),(true,32),(true,33),(true,34),(true,35),(true,36),(true,37),(false,38),(false,39),(true,40),(true,41),(true,42),(true,43),(false,44),(true,45),(true,46),(true,47),(true,48)] none [],.gd 22002 true,.gd 22006 true,.gd 22010 true,.res (.dat (ak.lf1 r11)),.res (.b_ r12),.gd 22015 true,.gd 22019 true,.num r9.1.length,.gd 22024 true,.gd 22028 true,.gd 22032 true,.gd 22036 false] (ok1 c8)<|
 .ret (bn 1) (false)) fun c7=>
 .say [.lN [(true,0),(true,1),(true,2),(true,3),(true,4),(true,5),(true,6),(true,7),(true,8),(true,9),(true,10),(true,11),(false,12),(false,13),(true,14),(true,15),(true,16),(true,17),(true,18),(true,19),(true,20),(true,21),(true,22),(true,23),(true,24),(true,25),(true,26),(true,27),(true,28),(true,29),(true,30),(true,31),(true,32),(true,33),(true,34),(true,35),(true,36),(true,37),(false,38),(false,39),(true,40),(true,41),(true,42),(true,43),(false,44),(true,45),(true,46),(true,47),(true,48)] none [],.gd 22002 true,.gd 22006 true,.gd 22010 true,.res (.dat (ak.lf1 r11)),.res (.b_ r12),.gd 22015 true,.gd 22019 true,.num r9.1.length,.gd 22024 true,.gd 22028 true,.gd 22032 false] (ok1 c7)<|
 .ret (bn 1) (false)) fun c6=>
 .say [.lN [(true,0),(true,1),(true,2),(true,3),(true,4),(true,5),(true,6),(true,7),(true,8),(true,9),(true,10),(true,11),(false,12),(false,13),(true,14),(true,15),(true,16),(true,17),(true,18),(true,19),(true,20),(true,21),(true,22),(true,23),(true,24),(true,25),(true,26),(true,27),(true,28),(true,29),(true,30),(true,31),(true,32),(true,33),(true,34),(true,35),(true,36),(true,37),(false,38),(false,39),(true,40),(true,41),(true,42),(true,43),(false,44),(true,45),(true,46),(true,47),(true,48)] none [],.gd 22002 true,.gd 22006 true,.gd 22010 true,.res (.dat (ak.lf1 r11)),.res (.b_ r12),.gd 22015 true,.gd 22019 true,.num r9.1.length,.gd 22024 true,.gd 22028 false] (ok1 c6)<|
 .ret (bn 1) (false)) fun c5=>
 .say [.lN [(true,0),(true,1),(true,2),(true,3),(true,4),(true,5),(true,6),(true,7),(true,8),(true,9),(true,10),(true,11),(false,12),(false,13),(true,14),(true,15),(true,16),(true,17),(true,18),(true,19),(true,20),(true,21),(true,22),(true,23),(true,24),(true,25),(true,26),(true,27),(true,28),(true,29),(true,30),(true,31),(true,32),(true,33),(true,34),(true,35),(true,36),(true,37),(false,38),(false,39),(true,40),(true,41),(true,42),(true,43),(false,44),(true,45),(true,46),(true,47),(true,48)] none [],.gd 22002 true,.gd 22006 true,.gd 22010 true,.res (.dat (ak.lf1 r11)),.res (.b_ r12),.gd 22015 true,.gd 22019 true,.num r9.1.length,.gd 22024 false] (ok1 c5)<|
 .ret (bn 1) (false)) fun c4=>
 .say [.lN [(true,0),(true,1),(true,2),(true,3),(true,4),(true,5),(true,6),(true,7),(true,8),(true,9),(true,10),(true,11),(false,12),(false,13),(true,14),(true,15),(true,16),(true,17),(true,18),(true,19),(true,20),(true,21),(true,22),(true,23),(true,24),(true,25),(true,26),(true,27),(true,28),(true,29),(true,30),(true,31),(true,32),(true,33),(true,34),(true,35),(true,36),(true,37),(false,38),(false,39),(true,40),(true,41),(true,42),(true,43),(false,44),(true,45),(true,46),(true,47),(true,48)] none [],.gd 22002 true,.gd 22006 true,.gd 22010 true,.res (.dat (ak.lf1 r11)),.res (.b_ r12),.gd 22015 true,.gd 22019 false] (ok1 c4)<|
 .ret (bn 1) (false)) fun c3=>
 .say [.lN [(true,0),(true,1),(true,2),(true,3),(true,4),(true,5),(true,6),(true,7),(true,8),(true,9),(true,10),(true,11),(false,12),(false,13),(true,14),(true,15),(true,16),(true,17),(true,18),(true,19),(true,20),(true,21),(true,22),(true,23),(true,24),(true,25),(true,26),(true,27),(true,28),(true,29),(true,30),(true,31),(true,32),(true,33),(true,34),(true,35),(true,36),(true,37),(false,38),(false,39),(true,40),(true,41),(true,42),(true,43),(false,44),(true,45),(true,46),(true,47),(true,48)] none [],.gd 22002 true,.gd 22006 true,.gd 22010 true,.res (.dat (ak.lf1 r11)),.res (.b_ r12),.gd 22015 false] (ok1 c3)<|
 .ret (bn 1) (false)) fun c2=>
 .say [.lN [(true,0),(true,1),(true,2),(true,3),(true,4),(true,5),(true,6),(true,7),(true,8),(true,9),(true,10),(true,11),(false,12),(false,13),(true,14),(true,15),(true,16),(true,17),(true,18),(true,19),(true,20),(true,21),(true,22),(true,23),(true,24),(true,25),(true,26),(true,27),(true,28),(true,29),(true,30),(true,31),(true,32),(true,33),(true,34),(true,35),(true,36),(true,37),(false,38),(false,39),(true,40),(true,41),(true,42),(true,43),(false,44),(true,45),(true,46),(true,47),(true,48)] none [],.gd 22002 true,.gd 22006 true,.gd 22010 false] (ok1 c2)<|
 .ret (bn 1) (false)) fun c1=>
 .say [.lN [(true,0),(true,1),(true,2),(true,3),(true,4),(true,5),(true,6),(true,7),(true,8),(true,9),(true,10),(true,11),(false,12),(false,13),(true,14),(true,15),(true,16),(true,17),(true,18),(true,19),(true,20),(true,21),(true,22),(true,23),(true,24),(true,25),(true,26),(true,27),(true,28),(true,29),(true,30),(true,31),(true,32),(true,33),(true,34),(true,35),(true,36),(true,37),(false,38),(false,39),(true,40),(true,41),(true,42),(true,43),(false,44),(true,45),(true,46),(true,47),(true,48)] none [],.gd 22002 true,.gd 22006 false] (ok1 c1)<|
 .ret (bn 1) (false)) fun c0=>
 .say [.lN [(true,0),(true,1),(true,2),(true,3),(true,4),(true,5),(true,6),(true,7),(true,8),(true,9),(true,10),(true,11),(false,12),(false,13),(true,14),(true,15),(true,16),(true,17),(true,18),(true,19),(true,20),(true,21),(true,22),(true,23),(true,24),(true,25),(true,26),(true,27),(true,28),(true,29),(true,30),(true,31),(true,32),(true,33),(true,34),(true,35),(true,36),(true,37),(false,38),(false,39),(true,40),(true,41),(true,42),(true,43),(false,44),(true,45),(true,46),(true,47),(true,48)] none [],.gd 22002 false] (ok1 c0)<|
 .ret (bn 1) (false)
noncomputable def ane :Option (Bool):=Mo.den (alf )
theorem X6:FV (ane ) 10 [] .b_:=dI Tryz.func10
noncomputable def aoe(p_q:aU)(p_b0_0:Int)(p_b0_1:List aj)(p_s1:bg)(p_s2:List (ByteArray×ah))(p_s3:List (ByteArray×au))(r:aZ):List AV:=[.dat (aZ.lf1 r)]
noncomputable def anf(p_q:aU)(p_b0_0:Int)(p_b0_1:List aj)(p_s1:bg)(p_s2:List (ByteArray×ah))(p_s3:List (ByteArray×au))(r:aZ):List Slot:=[.box 113 (.agg [.i_ p_b0_0,.lf (.rows 25 (p_b0_1.map aj.lf)),.mp 1,.mp 2,.mp 3]),.res (bD p_s1 none) none,.res (bP p_s2) none,.res (bT p_s3) none]
noncomputable def aeW(p_q:aU)(p_b0_0:Int)(p_b0_1:List aj)(p_s1:bg)(p_s2:List (ByteArray×ah))(p_s3:List (ByteArray×au)):Mo (aZ):=
 .cH [0,1,2,3] (aeQ p_q.aY p_q.eF p_q.cZ p_b0_0 p_b0_1 p_s1 p_s2 p_s3) fun r0 _=>
 .ask (Q36 p_q.aY p_q.cZ p_b0_0 p_b0_1 p_s1 p_s2 p_s3) fun r1 h0=>
 .say [.iH [0,1,2,3] (.tup [.lf (.rows 5 (r1.1.map ak.lf)),.i_ r1.2]) [.box 113 (.agg [.i_ p_b0_0,.lf (.rows 25 (p_b0_1.map aj.lf)),.mp 1,.mp 2,.mp 3]),.res (bD p_s1 none) none,.res (bP p_s2) none,.res (bT p_s3) none],.order [(true,0),(true,1),(true,2),(true,3),(true,4),(true,6),(true,7),(true,8),(true,9),(true,10),(false,5),(true,12),(false,11),(false,13),(true,14),(false,15)] (some 15) [0,1,2,3,6]] (ok1 (aeT _ _ _ _ _ _ _ _ h0))<|
 .cH [0,1,2,3] (Vw p_q.aY p_q.eF p_b0_0 p_b0_1 p_s1 p_s2 p_s3) fun r2 _=>
 .ask (Q16 p_q.aY p_q.eF p_b0_0 p_b0_1 p_s1 p_s2 p_s3) fun r3 h1=>
 .say [.iH [0,1,2,3] (.lf (.str r3)) [.box 113 (.agg [.i_ p_b0_0,.lf (.rows 25 (p_b0_1.map aj.lf)),.mp 1,.mp 2,.mp 3]),.res (bD p_s1 none) none,.res (bP p_s2) none,.res (bT p_s3) none],.iH [0,1,2,3] (.tup [.i_ (((aN p_q.eX p_s3).getD au.z).kU),.i_ (((aN p_q.eX p_s3).getD au.z).dF)]) [.box 113 (.agg [.i_ p_b0_0,.lf (.rows 25 (p_b0_1.map aj.lf)),.mp 1,.mp 2,.mp 3]),.res (bD p_s1 none) none,.res (bP p_s2) none,.res (bT p_s3) none]] (ok1 (Vu _ _ _ _ _ _ _ _ h1))<|
 .ask (aib p_q.eX p_b0_0 p_b0_1 p_s1 p_s2 p_s3) fun r4 h2=>
 .say [] (ok1 (X4 _ _ _ _ _ _ _ h2))<|
 .ret ⟨[.kill 4,.kill 5,.kill 6],[0],[],4⟩ (aZ.mk r0.1 r0.2 r1.1 r1.2 r2 r3 (((aN p_q.eX p_s3).getD au.z).kU) (((aN p_q.eX p_s3).getD au.z).dF))
noncomputable def Q98(p_q:aU)(p_b0_0:Int)(p_b0_1:List aj)(p_s1:bg)(p_s2:List (ByteArray×ah))(p_s3:List (ByteArray×au)):Option (aZ):=Mo.den (aeW p_q p_b0_0 p_b0_1 p_s1 p_s2 p_s3)
theorem aeX(p_q:aU)(p_b0_0:Int)(p_b0_1:List aj)(p_s1:bg)(p_s2:List (ByteArray×ah))(p_s3:List (ByteArray×au)):FH (Q98 p_q p_b0_0 p_b0_1 p_s1 p_s2 p_s3) 24 [.ptr 0 0,.dat (aU.lf1 p_q)] [.box 113 (.agg [.i_ p_b0_0,.lf (.rows 25 (p_b0_1.map aj.lf)),.mp 1,.mp 2,.mp 3]),.res (bD p_s1 none) none,.res (bP p_s2) none,.res (bT p_s3) none] (fun r=>resV (aoe p_q p_b0_0 p_b0_1 p_s1 p_s2 p_s3 r)) (fun r=>anf p_q p_b0_0 p_b0_1 p_s1 p_s2 p_s3 r):=jD Tryz.func24
noncomputable def SB(p_a:List ak)(p_b:List ak):Mo (Bool):=
 .cl (FW (ak.mk 6 0 ⟨#[]⟩ p_a []) (ak.mk 6 0 ⟨#[]⟩ p_b [])) fun r0 _=>
 .ret (bn 1) (r0)
noncomputable def Q68(p_a:List ak)(p_b:List ak):Option (Bool):=Mo.den (SB p_a p_b)
theorem VP(p_a:List ak)(p_b:List ak):FV (Q68 p_a p_b) 28 [.lf (.rows 5 (p_a.map ak.lf)),.lf (.rows 5 (p_b.map ak.lf))] .b_:=dI Tryz.func28
noncomputable def Ak(p_a:List ByteArray)(p_b:List ByteArray):(Int)→Mo ((Int)⊕(Unit⊕Unit)):=fun(v0)=>
 .nu p_a lfS<|
 .iB (decide ((v0:Int)<(p_a.length:Int))) (.say [.order [(true,0),(true,1),(true,2),(true,3),(true,4),(true,5),(true,6),(true,7),(true,8)] none []] ok0<|
 .gx lS_ p_a v0 fun x0 _=>
 .gx lS_ p_b v0 fun x1 _=>
 .iB (!decide ((x0:ByteArray)=(x1:ByteArray))) (.rt [4] 0 (.inr (.inl ())))<|
 .rt [0,1,5] 0 (.inl (IntKind.wrap .i64 (v0+1))))<|
 .rt [] 0 (.inr (.inr (())))
noncomputable def aeY(p_a:List ByteArray)(p_b:List ByteArray)(v0:Int):Option (Unit⊕Unit):=dh (fun v_=>(Ak p_a p_b v_).den) FU (v0)
noncomputable def aeZ(p_a:List ByteArray)(p_b:List ByteArray):Mo (Bool):=
 .nu p_a lfS<|
 .nu p_b lfS<|
 .iB (decide (((p_b.length:Int):Int)<(p_a.length:Int))) (.ret (bn 1) (false))<|
 .l2m [] Tryz.f45 0 [1,1,0,1,0] 0 (fun(v0)=>⟨[(0,.lf (.rows 1 (p_a.map lfS))),(1,.lf (.rows 1 (p_b.map lfS))),(5,.i_ v0)],[]⟩) .ret (fun _=>⟨[(4,.b_ false)],[]⟩) (.exit 0) (fun _=>⟨[],[]⟩) (aeY p_a p_b 0) (Ak p_a p_b) (0) (fun o0=>
 .ret (bn 1) (false)) fun o1=>
 .ret (bn 1) (true)
noncomputable def Q63(p_a:List ByteArray)(p_b:List ByteArray):Option (Bool):=Mo.den (aeZ p_a p_b)
theorem alg(p_a:List ByteArray)(p_b:List ByteArray):FV (Q63 p_a p_b) 45 [.lf (.rows 1 (p_a.map lfS)),.lf (.rows 1 (p_b.map lfS))] .b_:=dI Tryz.func45
noncomputable def ae0(p_a:List ByteArray)(p_b:List ByteArray):Mo (Bool):=
 .nu p_a lfS<|
 .nu p_b lfS<|
 .iG 4005 ((p_a.length:Int)==(p_b.length:Int)) (.cl (alg p_a p_b) fun r0 _=>
 .ret (bn 1) (r0))<|
 .ret (bn 1) (false)
noncomputable def Q91(p_a:List ByteArray)(p_b:List ByteArray):Option (Bool):=Mo.den (ae0 p_a p_b)
theorem BR(p_a:List ByteArray)(p_b:List ByteArray):FV (Q91 p_a p_b) 20 [.lf (.rows 1 (p_a.map lfS)),.lf (.rows 1 (p_b.map lfS))] .b_:=dI Tryz.func20
abbrev Oc(m:aA→aA→Option (Bool)):Prop:=∀p_a p_b,FV (m p_a p_b) 80 [.dat (aA.lf1 p_a),.dat (aA.lf1 p_b)] .b_
structure sH where
 m1:(p_a:aA)→(p_b:aA)→Option (Bool)
 ok1:Oc m1
noncomputable def X7(R_:sH)(p_a:aA)(p_b:aA):Mo (Bool):=
 .oV 4005 (p_a.jS != p_b.jS) [2,3,18] 2 (!(p_a.jh==p_b.jh))
noncomputable def X8(R_:sH)(p_a:aA)(p_b:aA)(r0:Bool):Mo (Bool):=
 .iG 4012 (r0) (.rt [2,3,26] 2 (true))<|
 .cl (FW p_a.kR p_b.kR) fun r1 _=>
 .rt [2,3,26] 2 (!r1)
noncomputable def SC(R_:sH)(p_a:aA)(p_b:aA)(r0:Bool):Mo (Bool):=
 .oV 4020 (r0) [2,3,33] 2 (!(p_a.ji==p_b.ji))
noncomputable def SE(R_:sH)(p_a:aA)(p_b:aA)(r0:Bool):Mo (Bool):=
 .iG 4027 (r0) (.rt [2,3,41] 2 (true))<|
 .cl (FW p_a.kS p_b.kS) fun r1 _=>
 .rt [2,3,41] 2 (!r1)
noncomputable def SG(R_:sH)(p_a:aA)(p_b:aA)(r0:Bool):Mo (Bool):=
 .iG 4035 (r0) (.rt [2,3,49] 2 (true))<|
 .cl (VP p_a.jB p_b.jB) fun r1 _=>
 .rt [2,3,49] 2 (!r1)
noncomputable def SH(R_:sH)(p_a:aA)(p_b:aA)(r0:Bool):Mo (Bool):=
 .oV 4043 (r0) [2,3,56] 2 (p_a.jl != p_b.jl)
noncomputable def SK(R_:sH)(p_a:aA)(p_b:aA)(r0:Bool):Mo (Bool):=
 .oV 4050 (r0) [2,3,63] 2 (p_a.jJ != p_b.jJ)
noncomputable def SL(R_:sH)(p_a:aA)(p_b:aA):Mo (Bool):=
 .cl (BR p_a.dG p_b.dG) fun r0 _=>
 .iG 8006 (!r0) (.rt [2,3,78] 2 (true))<|
 .nu p_a.dJ bV.lf<|
 .nu p_b.dJ bV.lf<|
 .rt [2,3,78] 2 ((p_a.dJ.length:Int) != (p_b.dJ.length:Int))
noncomputable def SN(R_:sH)(p_a:aA)(p_b:aA)(r0:Bool):Mo (Bool):=
 .oV 8015 (r0) [2,3,85] 2 (!(p_a.jX==p_b.jX))
noncomputable def SQ(R_:sH)(p_a:aA)(p_b:aA)(r0:Bool):Mo (Bool):=
 .iG 8022 (r0) (.rt [2,3,94] 2 (true))<|
 .nu p_a.dY aA.lf<|
 .nu p_b.dY aA.lf<|
 .rt [2,3,94] 2 ((p_a.dY.length:Int) != (p_b.dY.length:Int))
noncomputable def SS(R_:sH)(p_a:aA)(p_b:aA)(r0:Bool):Mo (Bool):=
 .oV 8031 (r0) [2,3,101] 2 (!(p_a.fP==p_b.fP))
theorem aof:Uz (opsOf (Code.sub (bodyC Tryz.f80) [1,1,1,0,1,0,0,1,0,0,0])) [(true,0),(true,1),(true,2),(true,3),(true,4),(true,5),(true,6),(true,7),(true,8),(true,9),(true,10),(true,11),(true,12),(true,13),(true,14),(true,15),(true,16),(true,17),(true,18),(true,19),(true,20),(true,21),(true,22),(true,23),(true,24),(true,25),(false,26),(true,27),(true,28)] none=true:=by kernel_rfl
noncomputable def FY(R_:sH)(p_a:aA)(p_b:aA)(v0:Int):Mo (Bool):=
 .say [.lN [(true,0),(true,1),(true,2),(true,3),(true,4),(true,5),(true,6),(true,7),(true,8),(true,9),(true,10),(true,11),(true,12),(true,13),(true,14),(true,15),(true,16),(true,17),(true,18),(true,19),(true,20),(true,21),(true,22),(true,23),(true,24),(true,25),(false,26),(true,27),(true,28)] none []] (ok1 aof)<|
 .gx bV.aX p_a.dJ v0 fun x0 _=>
 .gx bV.aX p_b.dJ v0 fun x1 _=>
 .iG 18013 (!decide ((x0.fName:ByteArray)=(x1.fName:ByteArray))) (.rt [2,3,5,137] 2 (true))<|
 .gx bV.aX p_a.dJ v0 fun x2 _=>
 .gx bV.aX p_b.dJ v0 fun x3 _=>
 .cl (R_.ok1 x2.eU x3.eU) fun r0 _=>
 .rt [2,3,5,137] 2 (!r0)
noncomputable def Am(R_:sH)(p_a:aA)(p_b:aA):(Int)→Mo ((Int)⊕(Unit⊕Unit)):=fun(v0)=>
 .nu p_a.dJ bV.lf<|
 .iB (decide ((v0:Int)<(p_a.dJ.length:Int))) (.jk Tryz.f80 0 [1,1,1,0,1,0,0,1,0,0,0] 23 (fun r_=>⟨[(2,.ptr 0 0),(3,.ptr 1 0),(5,.i_ v0),(137,.b_ r_)],[dO p_a,dO p_b]⟩) ⟨[(2,.ptr 0 0),(3,.ptr 1 0),(5,.i_ v0)],[dO p_a,dO p_b]⟩ (FY R_ p_a p_b v0) fun r0=>
 .iB (r0) (.ret ⟨[.kill 0,.kill 1],[4],[],2⟩ (.inr (.inl ())))<|
 .rt [2,3,5] 2 (.inl (IntKind.wrap .i64 (v0+1))))<|
 .rt [2,3] 2 (.inr (.inr (())))
noncomputable def ae1(R_:sH)(p_a:aA)(p_b:aA)(v0:Int):Option (Unit⊕Unit):=dh (fun v_=>(Am R_ p_a p_b v_).den) FU (v0)
noncomputable def Ap(R_:sH)(p_a:aA)(p_b:aA):(Int)→Mo ((Int)⊕(Unit⊕Unit)):=fun(v0)=>
 .nu p_a.dY aA.lf<|
 .iB (decide ((v0:Int)<(p_a.dY.length:Int))) (.ask (gX p_a.dY v0) fun x0 h0=>
 .say [] (ok1 (dU aA.aX h0))<|
 .ask (gX p_b.dY v0) fun x1 h1=>
 .say [] (ok1 (dU aA.aX h1))<|
 .ask (R_.m1 x0 x1) fun r0 h2=>
 .say [.dZ (.q 0 (.q 1 (.q 2 (.q 3 (.q 4 (.q 5 (.q 6 (.q 7 (.q 8 (.q 9 (.l 10 (.q 11 .fin)))))))))))) (some 10) [] [.row (aA.lf1 x0),.row (aA.lf1 x1),.res (.b_ r0)] [2,3,6,156] 2 [(2,.ptr 0 0),(3,.ptr 1 0),(6,.i_ v0),(156,.lf (.bool (!r0)))] [dO p_a,dO p_b]] (okc (R_.ok1 _ _ _ h2) (ok1 (rf_ ⟨[(2,.ptr 0 0),(3,.ptr 1 0),(6,.i_ v0),(156,.lf (.bool (!r0)))],[dO p_a,dO p_b]⟩)))<|
 .iB (!r0) (.ret ⟨[.kill 0,.kill 1],[4],[],2⟩ (.inr (.inl ())))<|
 .rt [2,3,6] 2 (.inl (IntKind.wrap .i64 (v0+1))))<|
 .ret ⟨[.kill 0,.kill 1],[],[],2⟩ (.inr (.inr (())))
noncomputable def ae2(R_:sH)(p_a:aA)(p_b:aA)(v0:Int):Option (Unit⊕Unit):=dh (fun v_=>(Ap R_ p_a p_b v_).den) FU (v0)
noncomputable def aie(R_:sH)(p_a:aA)(p_b:aA):Mo (Bool):=
 .sf Tryz.f80 0 [1,0,0] 0 12 1 [(2,.ptr 0 0),(3,.ptr 1 0)] [dO p_a,dO p_b] 18 (X7 R_ p_a p_b) fun r0=>
 .sb Tryz.f80 0 [1,0,0] 12 8 1 [(2,.ptr 0 0),(3,.ptr 1 0)] [dO p_a,dO p_b] 18 26 r0 (X8 R_ p_a p_b r0) fun r1=>
 .sb Tryz.f80 0 [1,0,0] 20 7 1 [(2,.ptr 0 0),(3,.ptr 1 0)] [dO p_a,dO p_b] 26 33 r1 (SC R_ p_a p_b r1) fun r2=>
 .sb Tryz.f80 0 [1,0,0] 27 8 1 [(2,.ptr 0 0),(3,.ptr 1 0)] [dO p_a,dO p_b] 33 41 r2 (SE R_ p_a p_b r2) fun r3=>
 .sb Tryz.f80 0 [1,0,0] 35 8 1 [(2,.ptr 0 0),(3,.ptr 1 0)] [dO p_a,dO p_b] 41 49 r3 (SG R_ p_a p_b r3) fun r4=>
 .sb Tryz.f80 0 [1,0,0] 43 7 1 [(2,.ptr 0 0),(3,.ptr 1 0)] [dO p_a,dO p_b] 49 56 r4 (SH R_ p_a p_b r4) fun r5=>
 .sb Tryz.f80 0 [1,0,0] 50 7 1 [(2,.ptr 0 0),(3,.ptr 1 0)] [dO p_a,dO p_b] 56 63 r5 (SK R_ p_a p_b r5) fun r6=>
 .iB (r6) (.ret (bn 1) (false))<|
 .sf Tryz.f80 0 [1,1,0,0] 0 15 3 [(2,.ptr 0 0),(3,.ptr 1 0)] [dO p_a,dO p_b] 78 (SL R_ p_a p_b) fun r7=>
 .sb Tryz.f80 0 [1,1,0,0] 15 7 3 [(2,.ptr 0 0),(3,.ptr 1 0)] [dO p_a,dO p_b] 78 85 r7 (SN R_ p_a p_b r7) fun r8=>
 .sb Tryz.f80 0 [1,1,0,0] 22 9 3 [(2,.ptr 0 0),(3,.ptr 1 0)] [dO p_a,dO p_b] 85 94 r8 (SQ R_ p_a p_b r8) fun r9=>
 .sb Tryz.f80 0 [1,1,0,0] 31 7 3 [(2,.ptr 0 0),(3,.ptr 1 0)] [dO p_a,dO p_b] 94 101 r9 (SS R_ p_a p_b r9) fun r10=>
 .iB (r10) (.ret (bn 1) (false))<|
 .l2m [] Tryz.f80 0 [1,1,1,0,1,0] 0 (fun(v0)=>⟨[(2,.ptr 0 0),(3,.ptr 1 0),(5,.i_ v0)],[dO p_a,dO p_b]⟩) .ret (fun _=>⟨[(4,.b_ false)],[.dead,.dead]⟩) (.exit 0) (fun _=>⟨[(2,.ptr 0 0),(3,.ptr 1 0)],[dO p_a,dO p_b]⟩) (ae1 R_ p_a p_b 0) (Am R_ p_a p_b) (0) (fun o0=>
 .ret (bn 1) (false)) fun o1=>
 .l2m [] Tryz.f80 0 [1,1,1,1,0,1,0] 0 (fun(v1)=>⟨[(2,.ptr 0 0),(3,.ptr 1 0),(6,.i_ v1)],[dO p_a,dO p_b]⟩) .ret (fun _=>⟨[(4,.b_ false)],[.dead,.dead]⟩) (.exit 2) (fun _=>⟨[],[.dead,.dead]⟩) (ae2 R_ p_a p_b 0) (Ap R_ p_a p_b) (0) (fun o2=>
 .ret (bn 1) (false)) fun o3=>
 .ret (bn 1) (true)
theorem alh(R_:sH):Oc fun p_a p_b=>Mo.den (aie R_ p_a p_b):=fun _ _=>dI Tryz.func80
noncomputable def uZ:Nat→sH
 |0=>{ m1:=fun p_a p_b=>none,ok1:=fun _ _ _ h=>(by cases h) }
 |n_+1=>{ m1:=fun p_a p_b=>Mo.den (aie (uZ n_) p_a p_b),ok1:=alh (uZ n_) }
noncomputable def Q1(p_a:aA)(p_b:aA):Option (Bool):=(uZ FU).m1 p_a p_b
theorem ang:Oc Q1:=(uZ FU).ok1
theorem aog:Uz (opsOf (Code.sub (bodyC Tryz.f138) [1,1,0,1,0,0,1,0,0,0])) [(true,0),(true,1),(true,2),(true,3),(true,4),(true,5),(true,6),(true,7),(true,8),(true,9),(true,10),(true,11),(true,12),(true,13),(true,14),(true,15),(true,16),(true,17),(true,18),(true,19),(true,20),(true,21),(false,22),(true,23),(true,24)] none=true:=by kernel_rfl
noncomputable def SV(p_a:List bH)(p_b:List bH)(v0:Int):Mo (Bool):=
 .say [.lN [(true,0),(true,1),(true,2),(true,3),(true,4),(true,5),(true,6),(true,7),(true,8),(true,9),(true,10),(true,11),(true,12),(true,13),(true,14),(true,15),(true,16),(true,17),(true,18),(true,19),(true,20),(true,21),(false,22),(true,23),(true,24)] none []] (ok1 aog)<|
 .gx bH.aX p_a v0 fun x0 _=>
 .gx bH.aX p_b v0 fun x1 _=>
 .iG 14011 (!(x0.nJ==x1.nJ)) (.rt [0,1,5,41] 0 (true))<|
 .gx bH.aX p_a v0 fun x2 _=>
 .gx bH.aX p_b v0 fun x3 _=>
 .cl (BR x2.dH x3.dH) fun r0 _=>
 .rt [0,1,5,41] 0 (!r0)
noncomputable def Aq(p_a:List bH)(p_b:List bH):(Int)→Mo ((Int)⊕(Unit⊕Unit)):=fun(v0)=>
 .nu p_a bH.lf<|
 .iB (decide ((v0:Int)<(p_a.length:Int))) (.jk Tryz.f138 0 [1,1,0,1,0,0,1,0,0,0] 19 (fun r_=>⟨[(0,.lf (.rows 2 (p_a.map bH.lf))),(1,.lf (.rows 2 (p_b.map bH.lf))),(5,.i_ v0),(41,.b_ r_)],[]⟩) ⟨[(0,.lf (.rows 2 (p_a.map bH.lf))),(1,.lf (.rows 2 (p_b.map bH.lf))),(5,.i_ v0)],[]⟩ (SV p_a p_b v0) fun r0=>
 .iB (r0) (.rt [4] 0 (.inr (.inl ())))<|
 .rt [0,1,5] 0 (.inl (IntKind.wrap .i64 (v0+1))))<|
 .rt [] 0 (.inr (.inr (())))
noncomputable def ae3(p_a:List bH)(p_b:List bH)(v0:Int):Option (Unit⊕Unit):=dh (fun v_=>(Aq p_a p_b v_).den) FU (v0)
noncomputable def ae4(p_a:List bH)(p_b:List bH):Mo (Bool):=
 .nu p_a bH.lf<|
 .nu p_b bH.lf<|
 .iB ((p_a.length:Int) != (p_b.length:Int)) (.ret (bn 1) (false))<|
 .l2m [] Tryz.f138 0 [1,1,0,1,0] 0 (fun(v0)=>⟨[(0,.lf (.rows 2 (p_a.map bH.lf))),(1,.lf (.rows 2 (p_b.map bH.lf))),(5,.i_ v0)],[]⟩) .ret (fun _=>⟨[(4,.b_ false)],[]⟩) (.exit 0) (fun _=>⟨[],[]⟩) (ae3 p_a p_b 0) (Aq p_a p_b) (0) (fun o0=>
 .ret (bn 1) (false)) fun o1=>
 .ret (bn 1) (true)
noncomputable def Q35(p_a:List bH)(p_b:List bH):Option (Bool):=Mo.den (ae4 p_a p_b)
theorem ali(p_a:List bH)(p_b:List bH):FV (Q35 p_a p_b) 138 [.lf (.rows 2 (p_a.map bH.lf)),.lf (.rows 2 (p_b.map bH.lf))] .b_:=dI Tryz.func138
noncomputable def SX(p_a:dA)(p_b:dA):Mo (Bool):=
 .oV 4005 (p_a.aH != p_b.aH) [2,3,17] 2 (p_a.fR != p_b.fR)
noncomputable def SY(p_a:dA)(p_b:dA)(r0:Bool):Mo (Bool):=
 .iG 4012 (r0) (.rt [2,3,26] 2 (true))<|
 .nu p_a.dS dw.lf<|
 .nu p_b.dS dw.lf<|
 .rt [2,3,26] 2 ((p_a.dS.length:Int) != (p_b.dS.length:Int))
noncomputable def wK(p_a:dA)(p_b:dA):(Int)→Mo ((Int)⊕(Unit⊕Unit)):=fun(v0)=>
 .nu p_a.dS dw.lf<|
 .iB (decide ((v0:Int)<(p_a.dS.length:Int))) (.say [.order [(true,0),(true,1),(true,2),(true,3),(true,4),(true,5),(true,6),(true,7),(true,8),(true,9),(true,10)] none []] ok0<|
 .gx dw.aX p_a.dS v0 fun x0 _=>
 .gx dw.aX p_b.dS v0 fun x1 _=>
 .iB (!(x0.fX==x1.fX&&x0.fY==x1.fY)) (.ret ⟨[.kill 0,.kill 1],[4],[],2⟩ (.inr (.inl ())))<|
 .rt [2,3,5] 2 (.inl (IntKind.wrap .i64 (v0+1))))<|
 .ret ⟨[.kill 0,.kill 1],[],[],2⟩ (.inr (.inr (())))
noncomputable def X9(p_a:dA)(p_b:dA)(v0:Int):Option (Unit⊕Unit):=dh (fun v_=>(wK p_a p_b v_).den) FU (v0)
noncomputable def ae5(p_a:dA)(p_b:dA):Mo (Bool):=
 .sf Tryz.f190 0 [1,0,0] 0 12 1 [(2,.ptr 0 0),(3,.ptr 1 0)] [CZ p_a,CZ p_b] 17 (SX p_a p_b) fun r0=>
 .sb Tryz.f190 0 [1,0,0] 12 9 1 [(2,.ptr 0 0),(3,.ptr 1 0)] [CZ p_a,CZ p_b] 17 26 r0 (SY p_a p_b r0) fun r1=>
 .iB (r1) (.ret (bn 1) (false))<|
 .l2m [] Tryz.f190 0 [1,1,0,1,0] 0 (fun(v0)=>⟨[(2,.ptr 0 0),(3,.ptr 1 0),(5,.i_ v0)],[CZ p_a,CZ p_b]⟩) .ret (fun _=>⟨[(4,.b_ false)],[.dead,.dead]⟩) (.exit 0) (fun _=>⟨[],[.dead,.dead]⟩) (X9 p_a p_b 0) (wK p_a p_b) (0) (fun o0=>
 .ret (bn 1) (false)) fun o1=>
 .ret (bn 1) (true)
noncomputable def Q29(p_a:dA)(p_b:dA):Option (Bool):=Mo.den (ae5 p_a p_b)
theorem alj(p_a:dA)(p_b:dA):FV (Q29 p_a p_b) 190 [.dat (dA.lf1 p_a),.dat (dA.lf1 p_b)] .b_:=dI Tryz.func190
abbrev Oe(m:aW→aW→Option (Bool)):Prop:=∀p_a p_b,FV (m p_a p_b) 191 [.dat (aW.lf1 p_a),.dat (aW.lf1 p_b)] .b_
structure FZ where
 m1:(p_a:aW)→(p_b:aW)→Option (Bool)
 ok1:Oe m1
noncomputable def S9(R_:FZ)(p_a:aW)(p_b:aW):Mo (Bool):=
 .iG 4005 (p_a.fOp != p_b.fOp) (.rt [2,3,18] 2 (true))<|
 .cl (BR p_a.dH p_b.dH) fun r0 _=>
 .rt [2,3,18] 2 (!r0)
noncomputable def Tc(R_:FZ)(p_a:aW)(p_b:aW)(r0:Bool):Mo (Bool):=
 .oV 4013 (r0) [2,3,25] 2 (!decide ((p_a.fName:ByteArray)=(p_b.fName:ByteArray)))
noncomputable def KG(R_:FZ)(p_a:aW)(p_b:aW)(r0:Bool):Mo (Bool):=
 .iG 4020 (r0) (.rt [2,3,33] 2 (true))<|
 .cl (BR p_a.gK p_b.gK) fun r1 _=>
 .rt [2,3,33] 2 (!r1)
noncomputable def KH(R_:FZ)(p_a:aW)(p_b:aW)(r0:Bool):Mo (Bool):=
 .iG 4028 (r0) (.rt [2,3,41] 2 (true))<|
 .cl (FW p_a.fArg p_b.fArg) fun r1 _=>
 .rt [2,3,41] 2 (!r1)
noncomputable def KI(R_:FZ)(p_a:aW)(p_b:aW)(r0:Bool):Mo (Bool):=
 .oV 4036 (r0) [2,3,48] 2 (p_a.fN != p_b.fN)
noncomputable def KJ(R_:FZ)(p_a:aW)(p_b:aW)(r0:Bool):Mo (Bool):=
 .iG 4043 (r0) (.rt [2,3,57] 2 (true))<|
 .nu p_a.cO aW.lf<|
 .nu p_b.cO aW.lf<|
 .rt [2,3,57] 2 ((p_a.cO.length:Int) != (p_b.cO.length:Int))
noncomputable def wL(R_:FZ)(p_a:aW)(p_b:aW):(Int)→Mo ((Int)⊕(Unit⊕Unit)):=fun(v0)=>
 .nu p_a.cO aW.lf<|
 .iB (decide ((v0:Int)<(p_a.cO.length:Int))) (.ask (gX p_a.cO v0) fun x0 h0=>
 .say [] (ok1 (dU aW.aX h0))<|
 .ask (gX p_b.cO v0) fun x1 h1=>
 .say [] (ok1 (dU aW.aX h1))<|
 .ask (R_.m1 x0 x1) fun r0 h2=>
 .say [.dZ (.q 0 (.q 1 (.q 2 (.q 3 (.q 4 (.q 5 (.q 6 (.q 7 (.q 8 (.q 9 (.l 10 (.q 11 .fin)))))))))))) (some 10) [] [.row (aW.lf1 x0),.row (aW.lf1 x1),.res (.b_ r0)] [2,3,5,76] 2 [(2,.ptr 0 0),(3,.ptr 1 0),(5,.i_ v0),(76,.lf (.bool (!r0)))] [dP p_a,dP p_b]] (okc (R_.ok1 _ _ _ h2) (ok1 (rf_ ⟨[(2,.ptr 0 0),(3,.ptr 1 0),(5,.i_ v0),(76,.lf (.bool (!r0)))],[dP p_a,dP p_b]⟩)))<|
 .iB (!r0) (.ret ⟨[.kill 0,.kill 1],[4],[],2⟩ (.inr (.inl ())))<|
 .rt [2,3,5] 2 (.inl (IntKind.wrap .i64 (v0+1))))<|
 .ret ⟨[.kill 0,.kill 1],[],[],2⟩ (.inr (.inr (())))
noncomputable def Ya(R_:FZ)(p_a:aW)(p_b:aW)(v0:Int):Option (Unit⊕Unit):=dh (fun v_=>(wL R_ p_a p_b v_).den) FU (v0)
noncomputable def Yb(R_:FZ)(p_a:aW)(p_b:aW):Mo (Bool):=
 .sf Tryz.f191 0 [1,0,0] 0 13 1 [(2,.ptr 0 0),(3,.ptr 1 0)] [dP p_a,dP p_b] 18 (S9 R_ p_a p_b) fun r0=>
 .sb Tryz.f191 0 [1,0,0] 13 7 1 [(2,.ptr 0 0),(3,.ptr 1 0)] [dP p_a,dP p_b] 18 25 r0 (Tc R_ p_a p_b r0) fun r1=>
 .sb Tryz.f191 0 [1,0,0] 20 8 1 [(2,.ptr 0 0),(3,.ptr 1 0)] [dP p_a,dP p_b] 25 33 r1 (KG R_ p_a p_b r1) fun r2=>
 .sb Tryz.f191 0 [1,0,0] 28 8 1 [(2,.ptr 0 0),(3,.ptr 1 0)] [dP p_a,dP p_b] 33 41 r2 (KH R_ p_a p_b r2) fun r3=>
 .sb Tryz.f191 0 [1,0,0] 36 7 1 [(2,.ptr 0 0),(3,.ptr 1 0)] [dP p_a,dP p_b] 41 48 r3 (KI R_ p_a p_b r3) fun r4=>
 .sb Tryz.f191 0 [1,0,0] 43 9 1 [(2,.ptr 0 0),(3,.ptr 1 0)] [dP p_a,dP p_b] 48 57 r4 (KJ R_ p_a p_b r4) fun r5=>
 .iB (r5) (.ret (bn 1) (false))<|
 .l2m [] Tryz.f191 0 [1,1,0,1,0] 0 (fun(v0)=>⟨[(2,.ptr 0 0),(3,.ptr 1 0),(5,.i_ v0)],[dP p_a,dP p_b]⟩) .ret (fun _=>⟨[(4,.b_ false)],[.dead,.dead]⟩) (.exit 0) (fun _=>⟨[],[.dead,.dead]⟩) (Ya R_ p_a p_b 0) (wL R_ p_a p_b) (0) (fun o0=>
 .ret (bn 1) (false)) fun o1=>
 .ret (bn 1) (true)
theorem aif(R_:FZ):Oe fun p_a p_b=>Mo.den (Yb R_ p_a p_b):=fun _ _=>dI Tryz.func191
noncomputable def yF:Nat→FZ
 |0=>{ m1:=fun p_a p_b=>none,ok1:=fun _ _ _ h=>(by cases h) }
 |n_+1=>{ m1:=fun p_a p_b=>Mo.den (Yb (yF n_) p_a p_b),ok1:=aif (yF n_) }
noncomputable def Q10(p_a:aW)(p_b:aW):Option (Bool):=(yF FU).m1 p_a p_b
theorem alk:Oe Q10:=(yF FU).ok1
abbrev Og(m:aO→aO→Option (Bool)):Prop:=∀p_a p_b,FV (m p_a p_b) 139 [.dat (aO.lf1 p_a),.dat (aO.lf1 p_b)] .b_
structure BU where
 m1:(p_a:aO)→(p_b:aO)→Option (Bool)
 ok1:Og m1
noncomputable def Yc(R_:BU)(p_a:aO)(p_b:aO):Mo (Bool):=
 .iG 4005 (p_a.fOp != p_b.fOp) (.rt [2,3,18] 2 (true))<|
 .cl (BR p_a.dH p_b.dH) fun r0 _=>
 .rt [2,3,18] 2 (!r0)
noncomputable def Yd(R_:BU)(p_a:aO)(p_b:aO)(r0:Bool):Mo (Bool):=
 .iG 4013 (r0) (.rt [2,3,26] 2 (true))<|
 .cl (FW p_a.fArg p_b.fArg) fun r1 _=>
 .rt [2,3,26] 2 (!r1)
noncomputable def Td(R_:BU)(p_a:aO)(p_b:aO)(r0:Bool):Mo (Bool):=
 .iG 4021 (r0) (.rt [2,3,34] 2 (true))<|
 .cl (VP p_a.fArgs p_b.fArgs) fun r1 _=>
 .rt [2,3,34] 2 (!r1)
noncomputable def Tf(R_:BU)(p_a:aO)(p_b:aO)(r0:Bool):Mo (Bool):=
 .oV 4029 (r0) [2,3,41] 2 (p_a.fN != p_b.fN)
noncomputable def Ti(R_:BU)(p_a:aO)(p_b:aO)(r0:Bool):Mo (Bool):=
 .oV 4036 (r0) [2,3,48] 2 (p_a.fM != p_b.fM)
noncomputable def Tj(R_:BU)(p_a:aO)(p_b:aO)(r0:Bool):Mo (Bool):=
 .iG 4043 (r0) (.rt [2,3,56] 2 (true))<|
 .cl (alj p_a.dK p_b.dK) fun r1 _=>
 .rt [2,3,56] 2 (!r1)
noncomputable def Tn(R_:BU)(p_a:aO)(p_b:aO)(r0:Bool):Mo (Bool):=
 .iG 4051 (r0) (.rt [2,3,64] 2 (true))<|
 .cl (alk p_a.fExpr p_b.fExpr) fun r1 _=>
 .rt [2,3,64] 2 (!r1)
noncomputable def Tq(R_:BU)(p_a:aO)(p_b:aO)(r0:Bool):Mo (Bool):=
 .iG 4059 (r0) (.rt [2,3,73] 2 (true))<|
 .nu p_a.cO aO.lf<|
 .nu p_b.cO aO.lf<|
 .rt [2,3,73] 2 ((p_a.cO.length:Int) != (p_b.cO.length:Int))
noncomputable def Ar(R_:BU)(p_a:aO)(p_b:aO):(Int)→Mo ((Int)⊕(Unit⊕Unit)):=fun(v0)=>
 .nu p_a.cO aO.lf<|
 .iB (decide ((v0:Int)<(p_a.cO.length:Int))) (.ask (gX p_a.cO v0) fun x0 h0=>
 .say [] (ok1 (dU aO.aX h0))<|
 .ask (gX p_b.cO v0) fun x1 h1=>
 .say [] (ok1 (dU aO.aX h1))<|
 .ask (R_.m1 x0 x1) fun r0 h2=>
 .say [.dZ (.q 0 (.q 1 (.q 2 (.q 3 (.q 4 (.q 5 (.q 6 (.q 7 (.q 8 (.q 9 (.l 10 (.q 11 .fin)))))))))))) (some 10) [] [.row (aO.lf1 x0),.row (aO.lf1 x1),.res (.b_ r0)] [2,3,5,92] 2 [(2,.ptr 0 0),(3,.ptr 1 0),(5,.i_ v0),(92,.lf (.bool (!r0)))] [dD p_a,dD p_b]] (okc (R_.ok1 _ _ _ h2) (ok1 (rf_ ⟨[(2,.ptr 0 0),(3,.ptr 1 0),(5,.i_ v0),(92,.lf (.bool (!r0)))],[dD p_a,dD p_b]⟩)))<|
 .iB (!r0) (.ret ⟨[.kill 0,.kill 1],[4],[],2⟩ (.inr (.inl ())))<|
 .rt [2,3,5] 2 (.inl (IntKind.wrap .i64 (v0+1))))<|
 .ret ⟨[.kill 0,.kill 1],[],[],2⟩ (.inr (.inr (())))
noncomputable def ae6(R_:BU)(p_a:aO)(p_b:aO)(v0:Int):Option (Unit⊕Unit):=dh (fun v_=>(Ar R_ p_a p_b v_).den) FU (v0)
noncomputable def aii(R_:BU)(p_a:aO)(p_b:aO):Mo (Bool):=
 .sf Tryz.f139 0 [1,0,0] 0 13 1 [(2,.ptr 0 0),(3,.ptr 1 0)] [dD p_a,dD p_b] 18 (Yc R_ p_a p_b) fun r0=>
 .sb Tryz.f139 0 [1,0,0] 13 8 1 [(2,.ptr 0 0),(3,.ptr 1 0)] [dD p_a,dD p_b] 18 26 r0 (Yd R_ p_a p_b r0) fun r1=>
 .sb Tryz.f139 0 [1,0,0] 21 8 1 [(2,.ptr 0 0),(3,.ptr 1 0)] [dD p_a,dD p_b] 26 34 r1 (Td R_ p_a p_b r1) fun r2=>
 .sb Tryz.f139 0 [1,0,0] 29 7 1 [(2,.ptr 0 0),(3,.ptr 1 0)] [dD p_a,dD p_b] 34 41 r2 (Tf R_ p_a p_b r2) fun r3=>
 .sb Tryz.f139 0 [1,0,0] 36 7 1 [(2,.ptr 0 0),(3,.ptr 1 0)] [dD p_a,dD p_b] 41 48 r3 (Ti R_ p_a p_b r3) fun r4=>
 .sb Tryz.f139 0 [1,0,0] 43 8 1 [(2,.ptr 0 0),(3,.ptr 1 0)] [dD p_a,dD p_b] 48 56 r4 (Tj R_ p_a p_b r4) fun r5=>
 .sb Tryz.f139 0 [1,0,0] 51 8 1 [(2,.ptr 0 0),(3,.ptr 1 0)] [dD p_a,dD p_b] 56 64 r5 (Tn R_ p_a p_b r5) fun r6=>
 .sb Tryz.f139 0 [1,0,0] 59 9 1 [(2,.ptr 0 0),(3,.ptr 1 0)] [dD p_a,dD p_b] 64 73 r6 (Tq R_ p_a p_b r6) fun r7=>
 .iB (r7) (.ret (bn 1) (false))<|
 .l2m [] Tryz.f139 0 [1,1,0,1,0] 0 (fun(v0)=>⟨[(2,.ptr 0 0),(3,.ptr 1 0),(5,.i_ v0)],[dD p_a,dD p_b]⟩) .ret (fun _=>⟨[(4,.b_ false)],[.dead,.dead]⟩) (.exit 0) (fun _=>⟨[],[.dead,.dead]⟩) (ae6 R_ p_a p_b 0) (Ar R_ p_a p_b) (0) (fun o0=>
 .ret (bn 1) (false)) fun o1=>
 .ret (bn 1) (true)
theorem alm(R_:BU):Og fun p_a p_b=>Mo.den (aii R_ p_a p_b):=fun _ _=>dI Tryz.func139
noncomputable def yG:Nat→BU
 |0=>{ m1:=fun p_a p_b=>none,ok1:=fun _ _ _ h=>(by cases h) }
 |n_+1=>{ m1:=fun p_a p_b=>Mo.den (aii (yG n_) p_a p_b),ok1:=alm (yG n_) }
noncomputable def Q9(p_a:aO)(p_b:aO):Option (Bool):=(yG FU).m1 p_a p_b
theorem anh:Og Q9:=(yG FU).ok1
noncomputable def Tt(p_a:aS)(p_b:aS):Mo (Bool):=
 .aV 4005 (decide ((p_a.fName:ByteArray)=(p_b.fName:ByteArray))) [2,3,4,16] 2 (p_a.aH==p_b.aH)
noncomputable def Tv(p_a:aS)(p_b:aS)(r0:Bool):Mo (Bool):=
 .aC 4012 (r0) [2,3,4,23] 2 (ali p_a.gI p_b.gI)
noncomputable def KL(p_a:aS)(p_b:aS)(r0:Bool):Mo (Bool):=
 .aV 4019 (r0) [2,3,4,30] 2 (p_a.fP==p_b.fP)
noncomputable def KN(p_a:aS)(p_b:aS)(r0:Bool):Mo (Bool):=
 .aV 4026 (r0) [2,3,4,37] 2 (p_a.oC==p_b.oC)
noncomputable def KO(p_a:aS)(p_b:aS)(r0:Bool):Mo (Bool):=
 .aV 4033 (r0) [2,3,4,44] 2 (p_a.lG==p_b.lG)
noncomputable def KP(p_a:aS)(p_b:aS)(r0:Bool):Mo (Bool):=
 .iG 4040 (r0) (.cl (anh p_a.iT p_b.iT) fun r1 _=>
 .ret ⟨[.kill 0,.kill 1],[4,51],[],2⟩ (r1))<|
 .ret ⟨[.kill 0,.kill 1],[4,51],[],2⟩ (false)
noncomputable def wM(r0:Bool):Mo (Unit):=
 .rt [4] 2 ()
noncomputable def ae7(p_a:aS)(p_b:aS):Mo (Bool):=
 .sf Tryz.f81 0 [1,0] 0 12 1 [(2,.ptr 0 0),(3,.ptr 1 0),(4,.b_ false)] [jI p_a,jI p_b] 16 (Tt p_a p_b) fun r0=>
 .sb Tryz.f81 0 [1,0] 12 7 1 [(2,.ptr 0 0),(3,.ptr 1 0),(4,.b_ false)] [jI p_a,jI p_b] 16 23 r0 (Tv p_a p_b r0) fun r1=>
 .sb Tryz.f81 0 [1,0] 19 7 1 [(2,.ptr 0 0),(3,.ptr 1 0),(4,.b_ false)] [jI p_a,jI p_b] 23 30 r1 (KL p_a p_b r1) fun r2=>
 .sb Tryz.f81 0 [1,0] 26 7 1 [(2,.ptr 0 0),(3,.ptr 1 0),(4,.b_ false)] [jI p_a,jI p_b] 30 37 r2 (KN p_a p_b r2) fun r3=>
 .sb Tryz.f81 0 [1,0] 33 7 1 [(2,.ptr 0 0),(3,.ptr 1 0),(4,.b_ false)] [jI p_a,jI p_b] 37 44 r3 (KO p_a p_b r3) fun r4=>
 .sk Tryz.f81 0 [1,0] 40 7 1 (fun r_=>⟨[(4,.b_ false),(51,.b_ r_)],[.dead,.dead]⟩) ⟨[(2,.ptr 0 0),(3,.ptr 1 0),(4,.b_ false),(44,.b_ r4)],[jI p_a,jI p_b]⟩ (KP p_a p_b r4) fun r5=>
 .sk Tryz.f81 0 [1,0] 47 1 1 (fun r_=>⟨[(4,.b_ r5)],[.dead,.dead]⟩) ⟨[(4,.b_ false),(51,.b_ r5)],[.dead,.dead]⟩ (wM r5) fun r6=>
 .ret (bn 1) (r5)
noncomputable def Q15(p_a:aS)(p_b:aS):Option (Bool):=Mo.den (ae7 p_a p_b)
theorem aln(p_a:aS)(p_b:aS):FV (Q15 p_a p_b) 81 [.dat (aS.lf1 p_a),.dat (aS.lf1 p_b)] .b_:=dI Tryz.func81
noncomputable def Tz(p_a:aj)(p_b:aj):Mo (Bool):=
 .iG 4005 (!decide ((p_a.fName:ByteArray)=(p_b.fName:ByteArray))) (.rt [2,3,19] 2 (true))<|
 .nu p_a.bf aS.lf<|
 .nu p_b.bf aS.lf<|
 .rt [2,3,19] 2 ((p_a.bf.length:Int) != (p_b.bf.length:Int))
noncomputable def TA(p_a:aj)(p_b:aj)(r0:Bool):Mo (Bool):=
 .iG 4014 (r0) (.rt [2,3,27] 2 (true))<|
 .cl (ang p_a.eU p_b.eU) fun r1 _=>
 .rt [2,3,27] 2 (!r1)
noncomputable def KQ(p_a:aj)(p_b:aj)(r0:Bool):Mo (Bool):=
 .oV 4022 (r0) [2,3,34] 2 (p_a.rW != p_b.rW)
noncomputable def KR(p_a:aj)(p_b:aj)(r0:Bool):Mo (Bool):=
 .oV 4029 (r0) [2,3,41] 2 (p_a.lS != p_b.lS)
noncomputable def wO(p_a:aj)(p_b:aj):(Int)→Mo ((Int)⊕(Unit⊕Unit)):=fun(v0)=>
 .nu p_a.bf aS.lf<|
 .iB (decide ((v0:Int)<(p_a.bf.length:Int))) (.ask (gX p_a.bf v0) fun x0 h0=>
 .say [] (ok1 (dU aS.aX h0))<|
 .ask (gX p_b.bf v0) fun x1 h1=>
 .say [] (ok1 (dU aS.aX h1))<|
 .ask (Q15 x0 x1) fun r0 h2=>
 .say [.dZ (.q 0 (.q 1 (.q 2 (.q 3 (.q 4 (.q 5 (.q 6 (.q 7 (.q 8 (.q 9 (.l 10 (.q 11 .fin)))))))))))) (some 10) [] [.row (aS.lf1 x0),.row (aS.lf1 x1),.res (.b_ r0)] [2,3,5,60] 2 [(2,.ptr 0 0),(3,.ptr 1 0),(5,.i_ v0),(60,.lf (.bool (!r0)))] [iq p_a,iq p_b]] (okc (aln _ _ _ h2) (ok1 (rf_ ⟨[(2,.ptr 0 0),(3,.ptr 1 0),(5,.i_ v0),(60,.lf (.bool (!r0)))],[iq p_a,iq p_b]⟩)))<|
 .iB (!r0) (.ret ⟨[.kill 0,.kill 1],[4],[],2⟩ (.inr (.inl ())))<|
 .rt [2,3,5] 2 (.inl (IntKind.wrap .i64 (v0+1))))<|
 .ret ⟨[.kill 0,.kill 1],[],[],2⟩ (.inr (.inr (())))
noncomputable def Ye(p_a:aj)(p_b:aj)(v0:Int):Option (Unit⊕Unit):=dh (fun v_=>(wO p_a p_b v_).den) FU (v0)
noncomputable def ae8(p_a:aj)(p_b:aj):Mo (Bool):=
 .sf Tryz.f43 0 [1,0,0] 0 14 1 [(2,.ptr 0 0),(3,.ptr 1 0)] [iq p_a,iq p_b] 19 (Tz p_a p_b) fun r0=>
 .sb Tryz.f43 0 [1,0,0] 14 8 1 [(2,.ptr 0 0),(3,.ptr 1 0)] [iq p_a,iq p_b] 19 27 r0 (TA p_a p_b r0) fun r1=>
 .sb Tryz.f43 0 [1,0,0] 22 7 1 [(2,.ptr 0 0),(3,.ptr 1 0)] [iq p_a,iq p_b] 27 34 r1 (KQ p_a p_b r1) fun r2=>
 .sb Tryz.f43 0 [1,0,0] 29 7 1 [(2,.ptr 0 0),(3,.ptr 1 0)] [iq p_a,iq p_b] 34 41 r2 (KR p_a p_b r2) fun r3=>
 .iB (r3) (.ret (bn 1) (false))<|
 .l2m [] Tryz.f43 0 [1,1,0,1,0] 0 (fun(v0)=>⟨[(2,.ptr 0 0),(3,.ptr 1 0),(5,.i_ v0)],[iq p_a,iq p_b]⟩) .ret (fun _=>⟨[(4,.b_ false)],[.dead,.dead]⟩) (.exit 0) (fun _=>⟨[],[.dead,.dead]⟩) (Ye p_a p_b 0) (wO p_a p_b) (0) (fun o0=>
 .ret (bn 1) (false)) fun o1=>
 .ret (bn 1) (true)
noncomputable def Q28(p_a:aj)(p_b:aj):Option (Bool):=Mo.den (ae8 p_a p_b)
theorem alo(p_a:aj)(p_b:aj):FV (Q28 p_a p_b) 43 [.dat (aj.lf1 p_a),.dat (aj.lf1 p_b)] .b_:=dI Tryz.func43
noncomputable def Au(p_a:List aj)(p_b:List aj):(Int)→Mo ((Int)⊕(Unit⊕Unit)):=fun(v0)=>
 .nu p_a aj.lf<|
 .iB (decide ((v0:Int)<(p_a.length:Int))) (.ask (gX p_a v0) fun x0 h0=>
 .say [] (ok1 (dU aj.aX h0))<|
 .ask (gX p_b v0) fun x1 h1=>
 .say [] (ok1 (dU aj.aX h1))<|
 .ask (Q28 x0 x1) fun r0 h2=>
 .say [.dZ (.q 0 (.q 1 (.q 2 (.q 3 (.q 4 (.q 5 (.q 6 (.q 7 (.l 8 (.q 9 .fin)))))))))) (some 8) [] [.row (aj.lf1 x0),.row (aj.lf1 x1),.res (.b_ r0)] [0,1,5,26] 0 [(0,.lf (.rows 25 (p_a.map aj.lf))),(1,.lf (.rows 25 (p_b.map aj.lf))),(5,.i_ v0),(26,.lf (.bool (!r0)))] []] (okc (alo _ _ _ h2) (ok1 (rf_ ⟨[(0,.lf (.rows 25 (p_a.map aj.lf))),(1,.lf (.rows 25 (p_b.map aj.lf))),(5,.i_ v0),(26,.lf (.bool (!r0)))],[]⟩)))<|
 .iB (!r0) (.rt [4] 0 (.inr (.inl ())))<|
 .rt [0,1,5] 0 (.inl (IntKind.wrap .i64 (v0+1))))<|
 .rt [] 0 (.inr (.inr (())))
noncomputable def ae9(p_a:List aj)(p_b:List aj)(v0:Int):Option (Unit⊕Unit):=dh (fun v_=>(Au p_a p_b v_).den) FU (v0)
noncomputable def afa(p_a:List aj)(p_b:List aj):Mo (Bool):=
 .nu p_a aj.lf<|
 .nu p_b aj.lf<|
 .iB ((p_a.length:Int) != (p_b.length:Int)) (.ret (bn 1) (false))<|
 .l2m [] Tryz.f17 0 [1,1,0,1,0] 0 (fun(v0)=>⟨[(0,.lf (.rows 25 (p_a.map aj.lf))),(1,.lf (.rows 25 (p_b.map aj.lf))),(5,.i_ v0)],[]⟩) .ret (fun _=>⟨[(4,.b_ false)],[]⟩) (.exit 0) (fun _=>⟨[],[]⟩) (ae9 p_a p_b 0) (Au p_a p_b) (0) (fun o0=>
 .ret (bn 1) (false)) fun o1=>
 .ret (bn 1) (true)
noncomputable def Q54(p_a:List aj)(p_b:List aj):Option (Bool):=Mo.den (afa p_a p_b)
theorem alp(p_a:List aj)(p_b:List aj):FV (Q54 p_a p_b) 17 [.lf (.rows 25 (p_a.map aj.lf)),.lf (.rows 25 (p_b.map aj.lf))] .b_:=dI Tryz.func17
noncomputable def TB(p_a:aZ)(p_b:aZ):Mo (Bool):=
 .cl (FW p_a.jc p_b.jc) fun r0 _=>
 .aV 4005 (r0) [2,3,4,16] 2 (p_a.abt==p_b.abt)
noncomputable def TF(p_a:aZ)(p_b:aZ)(r0:Bool):Mo (Bool):=
 .aC 4012 (r0) [2,3,4,23] 2 (VP p_a.Eo p_b.Eo)
noncomputable def KT(p_a:aZ)(p_b:aZ)(r0:Bool):Mo (Bool):=
 .aV 4019 (r0) [2,3,4,30] 2 (p_a.fall==p_b.fall)
noncomputable def KU(p_a:aZ)(p_b:aZ)(r0:Bool):Mo (Bool):=
 .aV 4026 (r0) [2,3,4,37] 2 (p_a.Po==p_b.Po)
noncomputable def KW(p_a:aZ)(p_b:aZ)(r0:Bool):Mo (Bool):=
 .aV 4033 (r0) [2,3,4,44] 2 (decide ((p_a.zB:ByteArray)=(p_b.zB:ByteArray)))
noncomputable def KX(p_a:aZ)(p_b:aZ)(r0:Bool):Mo (Bool):=
 .aV 4040 (r0) [2,3,4,51] 2 (p_a.kU==p_b.kU)
noncomputable def KY(p_a:aZ)(p_b:aZ)(r0:Bool):Mo (Bool):=
 .iG 4047 (r0) (.ret ⟨[.kill 0,.kill 1],[4,58],[],2⟩ (p_a.dF==p_b.dF))<|
 .ret ⟨[.kill 0,.kill 1],[4,58],[],2⟩ (false)
noncomputable def afb(p_a:aZ)(p_b:aZ):Mo (Bool):=
 .sf Tryz.f23 0 [1,0] 0 12 1 [(2,.ptr 0 0),(3,.ptr 1 0),(4,.b_ false)] [pK p_a,pK p_b] 16 (TB p_a p_b) fun r0=>
 .sb Tryz.f23 0 [1,0] 12 7 1 [(2,.ptr 0 0),(3,.ptr 1 0),(4,.b_ false)] [pK p_a,pK p_b] 16 23 r0 (TF p_a p_b r0) fun r1=>
 .sb Tryz.f23 0 [1,0] 19 7 1 [(2,.ptr 0 0),(3,.ptr 1 0),(4,.b_ false)] [pK p_a,pK p_b] 23 30 r1 (KT p_a p_b r1) fun r2=>
 .sb Tryz.f23 0 [1,0] 26 7 1 [(2,.ptr 0 0),(3,.ptr 1 0),(4,.b_ false)] [pK p_a,pK p_b] 30 37 r2 (KU p_a p_b r2) fun r3=>
 .sb Tryz.f23 0 [1,0] 33 7 1 [(2,.ptr 0 0),(3,.ptr 1 0),(4,.b_ false)] [pK p_a,pK p_b] 37 44 r3 (KW p_a p_b r3) fun r4=>
 .sb Tryz.f23 0 [1,0] 40 7 1 [(2,.ptr 0 0),(3,.ptr 1 0),(4,.b_ false)] [pK p_a,pK p_b] 44 51 r4 (KX p_a p_b r4) fun r5=>
 .sk Tryz.f23 0 [1,0] 47 7 1 (fun r_=>⟨[(4,.b_ false),(58,.b_ r_)],[.dead,.dead]⟩) ⟨[(2,.ptr 0 0),(3,.ptr 1 0),(4,.b_ false),(51,.b_ r5)],[pK p_a,pK p_b]⟩ (KY p_a p_b r5) fun r6=>
 .sk Tryz.f23 0 [1,0] 54 1 1 (fun r_=>⟨[(4,.b_ r6)],[.dead,.dead]⟩) ⟨[(4,.b_ false),(58,.b_ r6)],[.dead,.dead]⟩ (wM r6) fun r7=>
 .ret (bn 1) (r6)
noncomputable def Q25(p_a:aZ)(p_b:aZ):Option (Bool):=Mo.den (afb p_a p_b)
theorem alq(p_a:aZ)(p_b:aZ):FV (Q25 p_a p_b) 23 [.dat (aZ.lf1 p_a),.dat (aZ.lf1 p_b)] .b_:=dI Tryz.func23
noncomputable def D6(l0:List aj)(m11679:bg)(m11680:List (ByteArray×ah))(m11681:List (ByteArray×au))(p_l:List bI)(p_q:List aU)(v0:Int)(v1:Int):(Int×(List aZ))→Mo ((Int×(List aZ))⊕((List aZ))):=fun(v2,l1)=>
 .nu p_q aU.lf<|
 .iB (decide ((v2:Int)<(p_q.length:Int))) (.gx aU.aX p_q v2 fun x0 _=>
 .ask (Q98 x0 v1 l0 m11679 m11680 m11681) fun r0 h0=>
 .say [.iH [3,0,1,2] (.dat (aZ.lf1 r0)) [.box 113 (.agg [.i_ v1,.lf (.rows 25 (l0.map aj.lf)),.mp 1,.mp 2,.mp 3]),.res (bD m11679 none) none,.res (bP m11680) none,.res (bT m11681) none],.rows ((l1++[r0]).map aZ.lf)] (okc (aeX _ _ _ _ _ _ _ h0) (ok1 (ap_ aZ.aX l1 r0)))<|
 .grd ((l1.length+[r0].length)*160≤140737488355328) fun h1=>
 .say [] (ok1 (cp_ aZ.lf h1))<|
 .ret ⟨[],[0,1,5,6,7,8],[(6,4)],5⟩ (.inl (IntKind.wrap .i64 (v2+1),l1++[r0])))<|
 .rt [0,1,5,6,7] 5 (.inr (l1))
noncomputable def afc(l0:List aj)(m11679:bg)(m11680:List (ByteArray×ah))(m11681:List (ByteArray×au))(p_l:List bI)(p_q:List aU)(v0:Int)(v1:Int)(v2:Int)(l1:List aZ):Option (((List aZ))):=dh (fun v_=>(D6 l0 m11679 m11680 m11681 p_l p_q v0 v1 v_).den) FU (v2,l1)
noncomputable def Oh(p_l:List bI)(p_q:List aU)(r0:Int×Int×(List aj)×bg×(List (ByteArray×ah))×List (ByteArray×au))(v0:Int)(v1:Int):Mo (Bool):=
 .say [.order [(true,0),(true,2),(true,3),(true,4),(true,5),(true,6),(false,1),(true,7),(true,8),(true,9),(true,10),(true,14),(false,11),(true,12),(false,13),(true,15),(true,16)] none [0,1,2,3]] ok0<|
 .gx bI.aX p_l v0 fun x0 _=>
 .say [.iH [3,0,1,2] (.i_ r0.2.1) [.box 113 (.agg [.i_ r0.2.1,.lf (.rows 25 (r0.2.2.1.map aj.lf)),.mp 1,.mp 2,.mp 3]),.res (bD r0.2.2.2.1 none) none,.res (bP r0.2.2.2.2.1) none,.res (bT r0.2.2.2.2.2) none]] ok0<|
 .ask (Q80 r0.2.1 r0.2.2.1 r0.2.2.2.1 r0.2.2.2.2.1 r0.2.2.2.2.2) fun r1 h0=>
 .say [] (ok1 (NW _ _ _ _ _ _ h0))<|
 .iG 34008 (r0.2.1 != x0.cZ) (.rt [0,1,5,6,70] 5 (true))<|
 .gx bI.aX p_l v0 fun x1 _=>
 .rt [0,1,5,6,70] 5 (decide ((x1.cZ:Int)≤v1))
noncomputable def Yf(p_l:List bI)(p_q:List aU)(r0:Int×Int×(List aj)×bg×(List (ByteArray×ah))×List (ByteArray×au))(v0:Int)(v1:Int):Option (Bool):=Mo.den (Oh p_l p_q r0 v0 v1)
noncomputable def D7(p_l:List bI)(p_q:List aU)(r0:Int×Int×(List aj)×bg×(List (ByteArray×ah))×List (ByteArray×au))(v0:Int)(r_:Bool):St:=⟨[(0,.lf (.rows 82 (p_l.map bI.lf))),(1,.lf (.rows 8 (p_q.map aU.lf))),(5,.ptr 3 0),(6,.i_ v0),(70,.b_ r_)],[.res (bD r0.2.2.2.1 none) none,.res (bP r0.2.2.2.2.1) none,.res (bT r0.2.2.2.2.2) none,.box 113 (.agg [.i_ r0.2.1,.lf (.rows 25 (r0.2.2.1.map aj.lf)),.mp 0,.mp 1,.mp 2]),.dead]⟩
theorem aij{p_l:List bI}{p_q:List aU}{r0:Int×Int×(List aj)×bg×(List (ByteArray×ah))×List (ByteArray×au)}{v0:Int}{v1:Int}{r_:Bool}(h:Yf p_l p_q r0 v0 v1=some r_):PE Tryz.f4 0 [1,1,1,1,0,1,0,0,1,0,0,1,1,1,0,1,0,0,0] (.normal) (D7 p_l p_q r0 v0 r_) ⟨[(0,.lf (.rows 82 (p_l.map bI.lf))),(1,.lf (.rows 8 (p_q.map aU.lf))),(5,.ptr 3 0),(6,.i_ v0),(9,.i_ v1)],[.res (bD r0.2.2.2.1 none) none,.res (bP r0.2.2.2.2.1) none,.res (bT r0.2.2.2.2.2) none,.box 113 (.agg [.i_ r0.2.1,.lf (.rows 25 (r0.2.2.1.map aj.lf)),.mp 0,.mp 1,.mp 2]),.dead]⟩:=
 rY jC (Oh p_l p_q r0 v0 v1) (fun _=>.normal) (D7 p_l p_q r0 v0) (by kernel_rfl) h
noncomputable def TG(p_l:List bI)(p_q:List aU)(r0:((List aZ)))(r1:List aj)(r2:List ByteArray)(r3:Int×Int×(List aj)×bg×(List (ByteArray×ah))×List (ByteArray×au))(v0:Int)(v1:Int):Mo (Bool):=
 .say [.iH [3,0,1,2] (.i_ r3.2.1) [.box 113 (.agg [.i_ r3.2.1,.lf (.rows 25 (r3.2.2.1.map aj.lf)),.mp 1,.mp 2,.mp 3]),.res (bD r3.2.2.2.1 none) none,.res (bP r3.2.2.2.2.1) none,.res (bT r3.2.2.2.2.2) none]] ok0<|
 .ask (Q80 r3.2.1 r3.2.2.1 r3.2.2.2.1 r3.2.2.2.2.1 r3.2.2.2.2.2) fun r4 h0=>
 .say [] (ok1 (NW _ _ _ _ _ _ h0))<|
 .iG 38004 (r3.2.1 != v1) (.rt [0,1,5,6,7,11,81] 5 (true))<|
 .cH [3,0,1,2] (VO r3.2.1 r3.2.2.1 r3.2.2.2.1 r3.2.2.2.2.1 r3.2.2.2.2.2) fun r5 _=>
 .cl (alp r5 r1) fun r6 _=>
 .rt [0,1,5,6,7,11,81] 5 (!r6)
noncomputable def VQ(p_l:List bI)(p_q:List aU)(r0:((List aZ)))(r1:List aj)(r2:List ByteArray)(r3:Int×Int×(List aj)×bg×(List (ByteArray×ah))×List (ByteArray×au))(v0:Int)(v1:Int):Option (Bool):=Mo.den (TG p_l p_q r0 r1 r2 r3 v0 v1)
noncomputable def TJ(p_l:List bI)(p_q:List aU)(r0:((List aZ)))(r1:List ByteArray)(r2:Int×Int×(List aj)×bg×(List (ByteArray×ah))×List (ByteArray×au))(r3:Bool)(v0:Int):Mo (Bool):=
 .iG 38011 (r3) (.rt [0,1,5,6,7,88] 5 (true))<|
 .cH [3,0,1,2] (Vs r2.2.1 r2.2.2.1 r2.2.2.2.1 r2.2.2.2.2.1 r2.2.2.2.2.2) fun r4 _=>
 .cl (BR r4 r1) fun r5 _=>
 .rt [0,1,5,6,7,88] 5 (!r5)
noncomputable def VT(p_l:List bI)(p_q:List aU)(r0:((List aZ)))(r1:List ByteArray)(r2:Int×Int×(List aj)×bg×(List (ByteArray×ah))×List (ByteArray×au))(r3:Bool)(v0:Int):Option (Bool):=Mo.den (TJ p_l p_q r0 r1 r2 r3 v0)
noncomputable def Aw(p_l:List bI)(p_q:List aU)(r0:((List aZ)))(r1:Int×Int×(List aj)×bg×(List (ByteArray×ah))×List (ByteArray×au))(v0:Int):(Int)→Mo ((Int)⊕(Unit⊕Unit)):=fun(v1)=>
 .nu p_q aU.lf<|
 .iB (decide ((v1:Int)<(p_q.length:Int))) (.ask (gX p_q v1) fun x0 h0=>
 .say [] (ok1 (dU aU.aX h0))<|
 .ask (gX r0 v1) fun x1 h1=>
 .say [] (okc (pJ aZ.aX h1) (ok1 ((dU aZ.aX h1).2)))<|
 .ask (Q98 x0 r1.2.1 r1.2.2.1 r1.2.2.2.1 r1.2.2.2.2.1 r1.2.2.2.2.2) fun r2 h2=>
 .say [] (ok1 (aeX _ _ _ _ _ _ _ h2))<|
 .ask (Q25 r2 x1) fun r3 h3=>
 .say [.dZ (.q 0 (.q 1 (.q 2 (.q 3 (.q 4 (.q 6 (.q 7 (.q 8 (.q 9 (.l 5 (.l 10 (.q 11 .fin)))))))))))) (some 10) [0,1,2,3] [.row (aU.lf1 x0),.row (aZ.lf1 x1),.iH [3,0,1,2] (.dat (aZ.lf1 r2)) [.box 113 (.agg [.i_ r1.2.1,.lf (.rows 25 (r1.2.2.1.map aj.lf)),.mp 1,.mp 2,.mp 3]),.res (bD r1.2.2.2.1 none) none,.res (bP r1.2.2.2.2.1) none,.res (bT r1.2.2.2.2.2) none],.res (.b_ r3)] [0,1,5,6,7,12,106] 5 [(0,.lf (.rows 82 (p_l.map bI.lf))),(1,.lf (.rows 8 (p_q.map aU.lf))),(5,.ptr 3 0),(6,.i_ v0),(7,.own 4),(12,.i_ v1),(106,.lf (.bool (!r3)))] [.res (bD r1.2.2.2.1 none) none,.res (bP r1.2.2.2.2.1) none,.res (bT r1.2.2.2.2.2) none,.box 113 (.agg [.i_ r1.2.1,.lf (.rows 25 (r1.2.2.1.map aj.lf)),.mp 0,.mp 1,.mp 2]),.row 79 12 (r0.map aZ.lf)]] (okc (alq _ _ _ h3) (ok1 (rf_ ⟨[(0,.lf (.rows 82 (p_l.map bI.lf))),(1,.lf (.rows 8 (p_q.map aU.lf))),(5,.ptr 3 0),(6,.i_ v0),(7,.own 4),(12,.i_ v1),(106,.lf (.bool (!r3)))],[.res (bD r1.2.2.2.1 none) none,.res (bP r1.2.2.2.2.1) none,.res (bT r1.2.2.2.2.2) none,.box 113 (.agg [.i_ r1.2.1,.lf (.rows 25 (r1.2.2.1.map aj.lf)),.mp 0,.mp 1,.mp 2]),.row 79 12 (r0.map aZ.lf)]⟩)))<|
 .iB (!r3) (.ret ⟨[.kill 0,.kill 1,.kill 2,.kill 3,.kill 4],[4],[],5⟩ (.inr (.inl ())))<|
 .rt [0,1,5,6,7,12] 5 (.inl (IntKind.wrap .i64 (v1+1))))<|
 .ret ⟨[.kill 4],[0,1,5,6],[],5⟩ (.inr (.inr (())))
noncomputable def afd(p_l:List bI)(p_q:List aU)(r0:((List aZ)))(r1:Int×Int×(List aj)×bg×(List (ByteArray×ah))×List (ByteArray×au))(v0:Int)(v1:Int):Option (Unit⊕Unit):=dh (fun v_=>(Aw p_l p_q r0 r1 v0 v_).den) FU (v1)
noncomputable def F5(l0:List aj)(m11679:bg)(m11680:List (ByteArray×ah))(m11681:List (ByteArray×au))(p_l:List bI)(p_q:List aU)(v0:Int)(v1:Int):Mo (Unit⊕(bg×(List (ByteArray×ah))×(List (ByteArray×au))×Int×(List aj))):=
 .say [] (ok1 (by simp[aZ.aX]:(([]:List aZ).map aZ.lf)=[]))<|
 .l1m [.yj 7 79 12,.lu 4 (([]:List aZ).map aZ.lf)] Tryz.f4 0 [1,1,1,1,0,1,0,0,1,0,0,1,0,1,0] 0 (.exit 2) (fun(v2,l1)=>⟨[(0,.lf (.rows 82 (p_l.map bI.lf))),(1,.lf (.rows 8 (p_q.map aU.lf))),(5,.ptr 3 0),(6,.i_ v0),(7,.own 4),(8,.i_ v2)],[.res (bD m11679 none) none,.res (bP m11680) none,.res (bT m11681) none,.box 113 (.agg [.i_ v1,.lf (.rows 25 (l0.map aj.lf)),.mp 0,.mp 1,.mp 2]),.row 79 12 (l1.map aZ.lf)]⟩) (fun r_=>⟨[(0,.lf (.rows 82 (p_l.map bI.lf))),(1,.lf (.rows 8 (p_q.map aU.lf))),(5,.ptr 3 0),(6,.i_ v0),(7,.own 4)],[.res (bD m11679 none) none,.res (bP m11680) none,.res (bT m11681) none,.box 113 (.agg [.i_ v1,.lf (.rows 25 (l0.map aj.lf)),.mp 0,.mp 1,.mp 2]),.row 79 12 (r_.map aZ.lf)]⟩) (afc l0 m11679 m11680 m11681 p_l p_q v0 v1 0 ([]:List aZ)) (D6 l0 m11679 m11680 m11681 p_l p_q v0 v1) (0,([]:List aZ)) fun r0=>
 .say [.iH [3,0,1,2] (.i_ v1) [.box 113 (.agg [.i_ v1,.lf (.rows 25 (l0.map aj.lf)),.mp 1,.mp 2,.mp 3]),.res (bD m11679 none) none,.res (bP m11680) none,.res (bT m11681) none]] ok0<|
 .ask (Q80 v1 l0 m11679 m11680 m11681) fun r1 h0=>
 .say [] (ok1 (NW _ _ _ _ _ _ h0))<|
 .cH [3,0,1,2] (VO v1 l0 m11679 m11680 m11681) fun r2 _=>
 .cH [3,0,1,2] (Vs v1 l0 m11679 m11680 m11681) fun r3 _=>
 .gx bI.aX p_l v0 fun x0 _=>
 .cH [3,0,1,2] (N7 x0 v1 l0 m11679 m11680 m11681) fun r4 _=>
 .iB (r4.1==0) (.ask (Yf p_l p_q r4 v0 v1) fun r5 h1=>
 .say [.part [.kill 4] 39 [0,1,5,6,9] 5 (.normal) (D7 p_l p_q r4 v0 r5).T (D7 p_l p_q r4 v0 r5).H] (ok1 (aij h1))<|
 .iB (r5) (.ret ⟨[.kill 0,.kill 1,.kill 2,.kill 3],[4],[],4⟩ (.inl ()))<|
 .rt [0,1,5,6] 4 (.inr ((r4.2.2.2.1,r4.2.2.2.2.1,r4.2.2.2.2.2,r4.2.1,r4.2.2.1))))<|
 .sj Tryz.f4 0 [1,1,1,1,0,1,0,0,1,0,0,1,1,1,1,0,0] [0,1,2,3,4,5,6,7,8,9,10] 18 11 [0,1,5,6,7,9,10,11] 5 (fun r_=>⟨[(0,.lf (.rows 82 (p_l.map bI.lf))),(1,.lf (.rows 8 (p_q.map aU.lf))),(5,.ptr 3 0),(6,.i_ v0),(7,.own 4),(11,.lf (.rows 1 (r3.map lfS))),(81,.b_ r_)],[.res (bD r4.2.2.2.1 none) none,.res (bP r4.2.2.2.2.1) none,.res (bT r4.2.2.2.2.2) none,.box 113 (.agg [.i_ r4.2.1,.lf (.rows 25 (r4.2.2.1.map aj.lf)),.mp 0,.mp 1,.mp 2]),.row 79 12 (r0.map aZ.lf)]⟩) ⟨[(0,.lf (.rows 82 (p_l.map bI.lf))),(1,.lf (.rows 8 (p_q.map aU.lf))),(5,.ptr 3 0),(6,.i_ v0),(7,.own 4),(9,.i_ v1),(10,.lf (.rows 25 (r2.map aj.lf))),(11,.lf (.rows 1 (r3.map lfS)))],[.res (bD r4.2.2.2.1 none) none,.res (bP r4.2.2.2.2.1) none,.res (bT r4.2.2.2.2.2) none,.box 113 (.agg [.i_ r4.2.1,.lf (.rows 25 (r4.2.2.1.map aj.lf)),.mp 0,.mp 1,.mp 2]),.row 79 12 (r0.map aZ.lf)]⟩ (VQ p_l p_q r0 r2 r3 r4 v0 v1) (sW (by kernel_rfl)) fun r6 _=>
 .sj Tryz.f4 0 [1,1,1,1,0,1,0,0,1,0,0,1,1,1,1,0,0] [11,12,13,14,15,16,17] 18 7 [0,1,5,6,7,11,81] 5 (fun r_=>⟨[(0,.lf (.rows 82 (p_l.map bI.lf))),(1,.lf (.rows 8 (p_q.map aU.lf))),(5,.ptr 3 0),(6,.i_ v0),(7,.own 4),(88,.b_ r_)],[.res (bD r4.2.2.2.1 none) none,.res (bP r4.2.2.2.2.1) none,.res (bT r4.2.2.2.2.2) none,.box 113 (.agg [.i_ r4.2.1,.lf (.rows 25 (r4.2.2.1.map aj.lf)),.mp 0,.mp 1,.mp 2]),.row 79 12 (r0.map aZ.lf)]⟩) ⟨[(0,.lf (.rows 82 (p_l.map bI.lf))),(1,.lf (.rows 8 (p_q.map aU.lf))),(5,.ptr 3 0),(6,.i_ v0),(7,.own 4),(11,.lf (.rows 1 (r3.map lfS))),(81,.b_ r6)],[.res (bD r4.2.2.2.1 none) none,.res (bP r4.2.2.2.2.1) none,.res (bT r4.2.2.2.2.2) none,.box 113 (.agg [.i_ r4.2.1,.lf (.rows 25 (r4.2.2.1.map aj.lf)),.mp 0,.mp 1,.mp 2]),.row 79 12 (r0.map aZ.lf)]⟩ (VT p_l p_q r0 r3 r4 r6 v0) (sW (by kernel_rfl)) fun r7 _=>
 .iB (r7) (.ret ⟨[.kill 0,.kill 1,.kill 2,.kill 3],[4],[],4⟩ (.inl ()))<|
 .l2m [] Tryz.f4 0 [1,1,1,1,0,1,0,0,1,0,0,1,1,1,1,1,1,0] 0 (fun(v3)=>⟨[(0,.lf (.rows 82 (p_l.map bI.lf))),(1,.lf (.rows 8 (p_q.map aU.lf))),(5,.ptr 3 0),(6,.i_ v0),(7,.own 4),(12,.i_ v3)],[.res (bD r4.2.2.2.1 none) none,.res (bP r4.2.2.2.2.1) none,.res (bT r4.2.2.2.2.2) none,.box 113 (.agg [.i_ r4.2.1,.lf (.rows 25 (r4.2.2.1.map aj.lf)),.mp 0,.mp 1,.mp 2]),.row 79 12 (r0.map aZ.lf)]⟩) .ret (fun _=>⟨[(4,.b_ false)],[.dead,.dead,.dead,.dead,.dead]⟩) (.exit 4) (fun _=>⟨[(0,.lf (.rows 82 (p_l.map bI.lf))),(1,.lf (.rows 8 (p_q.map aU.lf))),(5,.ptr 3 0),(6,.i_ v0)],[.res (bD r4.2.2.2.1 none) none,.res (bP r4.2.2.2.2.1) none,.res (bT r4.2.2.2.2.2) none,.box 113 (.agg [.i_ r4.2.1,.lf (.rows 25 (r4.2.2.1.map aj.lf)),.mp 0,.mp 1,.mp 2]),.dead]⟩) (afd p_l p_q r0 r4 v0 0) (Aw p_l p_q r0 r4 v0) (0) (fun o0=>
 .rt [4] 4 (.inl ())) fun o1=>
 .rt [0,1,5,6] 4 (.inr ((r4.2.2.2.1,r4.2.2.2.2.1,r4.2.2.2.2.2,r4.2.1,r4.2.2.1)))
noncomputable def Oi(l0:List aj)(m11679:bg)(m11680:List (ByteArray×ah))(m11681:List (ByteArray×au))(p_l:List bI)(p_q:List aU)(v0:Int)(v1:Int):Option (Unit⊕(bg×(List (ByteArray×ah))×(List (ByteArray×au))×Int×(List aj))):=Mo.den (F5 l0 m11679 m11680 m11681 p_l p_q v0 v1)
noncomputable def Az(r_:Unit⊕(bg×(List (ByteArray×ah))×(List (ByteArray×au))×Int×(List aj))):Exit:=match r_ with
 |.inl o_=>.ret
 |.inr (o_)=>.normal
noncomputable def AA(p_l:List bI)(p_q:List aU)(v0:Int)(r_:Unit⊕(bg×(List (ByteArray×ah))×(List (ByteArray×au))×Int×(List aj))):St:=match r_ with
 |.inl o_=>⟨[(4,.b_ false)],[.dead,.dead,.dead,.dead]⟩
 |.inr (o_)=>⟨[(0,.lf (.rows 82 (p_l.map bI.lf))),(1,.lf (.rows 8 (p_q.map aU.lf))),(5,.ptr 3 0),(6,.i_ v0)],[.res (bD o_.1 none) none,.res (bP o_.2.1) none,.res (bT o_.2.2.1) none,.box 113 (.agg [.i_ o_.2.2.2.1,.lf (.rows 25 (o_.2.2.2.2.map aj.lf)),.mp 0,.mp 1,.mp 2])]⟩
theorem TK{l0:List aj}{m11679:bg}{m11680:List (ByteArray×ah)}{m11681:List (ByteArray×au)}{p_l:List bI}{p_q:List aU}{v0:Int}{v1:Int}{r_:Unit⊕(bg×(List (ByteArray×ah))×(List (ByteArray×au))×Int×(List aj))}(h:Oi l0 m11679 m11680 m11681 p_l p_q v0 v1=some r_):PE Tryz.f4 0 [1,1,1,1,0,1,0,0,1,0] (Az r_) (AA p_l p_q v0 r_) ⟨[(0,.lf (.rows 82 (p_l.map bI.lf))),(1,.lf (.rows 8 (p_q.map aU.lf))),(5,.ptr 3 0),(6,.i_ v0)],[.res (bD m11679 none) none,.res (bP m11680) none,.res (bT m11681) none,.box 113 (.agg [.i_ v1,.lf (.rows 25 (l0.map aj.lf)),.mp 0,.mp 1,.mp 2])]⟩:=
 rY jC (F5 l0 m11679 m11680 m11681 p_l p_q v0 v1) Az (AA p_l p_q v0) (by kernel_rfl) h
noncomputable def AB(p_l:List bI)(p_q:List aU):(Int×bg×(List (ByteArray×ah))×(List (ByteArray×au))×Int×(List aj))→Mo ((Int×bg×(List (ByteArray×ah))×(List (ByteArray×au))×Int×(List aj))⊕(Unit⊕Unit)):=fun(v0,m11679,m11680,m11681,v1,l0)=>
 .nu p_l bI.lf<|
 .iB (decide ((v0:Int)<(p_l.length:Int))) (.jf (Oi l0 m11679 m11680 m11681 p_l p_q v0 v1) (fun o0 h0=>
 .say [.pt_ 8 [0,1,5,6] 4 (Az (.inl o0)) (AA p_l p_q v0 (.inl o0))] (ok1 (TK h0))<|
 .rt [4] 4 (.inr (.inl ()))) fun o1 h0=>
 .say [.pt_ 8 [0,1,5,6] 4 (Az (.inr (o1))) (AA p_l p_q v0 (.inr (o1)))] (ok1 (TK h0))<|
 .rt [0,1,5,6] 4 (.inl (IntKind.wrap .i64 (v0+1),o1.1,o1.2.1,o1.2.2.1,o1.2.2.2.1,o1.2.2.2.2)))<|
 .ret ⟨[.kill 0,.kill 1,.kill 2,.kill 3],[],[],4⟩ (.inr (.inr (())))
noncomputable def afe(p_l:List bI)(p_q:List aU)(v0:Int)(m11679:bg)(m11680:List (ByteArray×ah))(m11681:List (ByteArray×au))(v1:Int)(l0:List aj):Option (Unit⊕Unit):=dh (fun v_=>(AB p_l p_q v_).den) FU (v0,m11679,m11680,m11681,v1,l0)
noncomputable def alr(p_l:List bI)(p_q:List aU):Mo (Bool):=
 .cl (akQ p_l p_q) fun r0 _=>
 .iB (r0) (.cl (X6) fun r1 _=>
 .ret (bn 1) (r1))<|
 .say [.iH [] (.ptr 3 0) [.res (bD (⟨[],[]⟩:bg) none) none,.res (bP ([]:List (ByteArray×ah))) none,.res (bT ([]:List (ByteArray×au))) none,.box 113 (.agg [.i_ 0,.lf (.rows 25 (([]:List aj).map aj.lf)),.mp 0,.mp 1,.mp 2])],.br false] ok0<|
 .ask (ahZ) fun r2 h0=>
 .say [] (okc (XY  _ h0) (ok1 (rfl:false=false)))<|
 .l2m [] Tryz.f4 0 [1,1,1,1,0,1,0] 0 (fun(v0,m11679,m11680,m11681,v1,l0)=>⟨[(0,.lf (.rows 82 (p_l.map bI.lf))),(1,.lf (.rows 8 (p_q.map aU.lf))),(5,.ptr 3 0),(6,.i_ v0)],[.res (bD m11679 none) none,.res (bP m11680) none,.res (bT m11681) none,.box 113 (.agg [.i_ v1,.lf (.rows 25 (l0.map aj.lf)),.mp 0,.mp 1,.mp 2])]⟩) .ret (fun _=>⟨[(4,.b_ false)],[.dead,.dead,.dead,.dead]⟩) (.exit 0) (fun _=>⟨[],[.dead,.dead,.dead,.dead]⟩) (afe p_l p_q 0 (⟨[],[]⟩:bg) ([]:List (ByteArray×ah)) ([]:List (ByteArray×au)) 0 ([]:List aj)) (AB p_l p_q) (0,(⟨[],[]⟩:bg),([]:List (ByteArray×ah)),([]:List (ByteArray×au)),0,([]:List aj)) (fun o0=>
 .ret (bn 1) (false)) fun o1=>
 .cl (X6) fun r3 _=>
 .ret (bn 1) (r3)
noncomputable def Q0(p_l:List bI)(p_q:List aU):Option (Bool):=Mo.den (alr p_l p_q)
theorem ani(p_l:List bI)(p_q:List aU):FV (Q0 p_l p_q) 4 [.lf (.rows 82 (p_l.map bI.lf)),.lf (.rows 8 (p_q.map aU.lf))] .b_:=dI Tryz.func4
end
end Go.Proofs.YtpdlghcgekojlaaGreatDoor
namespace Go.Proofs.YtpdlghcgekojlaaGreatDoor
open Go.RowKit
set_option maxRecDepth 20000
set_option maxHeartbeats 4000000
noncomputable section

end
end Go.Proofs.YtpdlghcgekojlaaGreatDoor
namespace Go.Proofs.YtpdlghcgekojlaaGreatDoor
open Go.RowKit
theorem nC(s:ByteArray)(k:Nat)(h:k<s.size):kG s (k:Int)=some s[k]:=by
 unfold kG;rw[if_pos (by omega),Int.toNat_natCast];exact getElem?_pos s k h
theorem iw{α:Type}(f:α→List Lf){x:α}:∀{l:List α},x∈l→aT (f x)≤bM (l.map f)
 |y::r,h=>by
  simp only[List.map_cons,bM]
  rcases List.mem_cons.1 h with rfl|h
  ·omega
  have:=iw f h;omega
theorem eY{α:Type}(f:α→List Lf)(hf:∀x,1≤aT (f x)):∀l:List α,l.length≤bM (l.map f)
 |[]=>by simp
 |x::r=>by have:=eY f hf r;have:=hf x;simp only[List.map_cons,List.length_cons,bM];omega
theorem bZ(v:ak):aT v.lf1=5+v.fText.size+bM (v.bC.map ak.lf)+bM (v.bG.map aB.lf):=by simp only[ak.lf1,aT,Lf.bulk];omega
theorem eG(v:aB):aT v.lf1=1+v.fName.size+aT v.fValue.lf1:=by simp only[aB.lf1,fB,aT,Lf.bulk];omega
theorem mY(v:bH):aT v.lf1=2+bM (v.dH.map lfS):=by simp only[bH.lf1,aT,Lf.bulk];omega
theorem yH(v:dw):aT v.lf1=2:=by simp only[dw.lf1,aT,Lf.bulk]
theorem mZ(v:dA):aT v.lf1=3+bM (v.dS.map dw.lf):=by simp only[dA.lf1,aT,Lf.bulk];omega
theorem jR(v:aW):aT v.lf1=6+bM (v.dH.map lfS)+v.fName.size+bM (v.gK.map lfS)+aT v.fArg.lf1+bM (v.cO.map aW.lf):=by simp only[aW.lf1,fB,aT,Lf.bulk];omega
theorem iL(v:aO):aT v.lf1=6+bM (v.dH.map lfS)+aT v.fArg.lf1+bM (v.fArgs.map ak.lf)+aT v.dK.lf1+aT v.fExpr.lf1+bM (v.cO.map aO.lf):=by simp only[aO.lf1,fB,aT,Lf.bulk];omega
theorem iC(v:aS):aT v.lf1=6+v.fName.size+bM (v.gI.map bH.lf)+aT v.iT.lf1:=by simp only[aS.lf1,fB,aT,Lf.bulk];omega
theorem qP(v:bV):aT v.lf1=1+v.fName.size+aT v.eU.lf1:=by simp only[bV.lf1,fB,aT,Lf.bulk];omega
theorem gV(v:aA):aT v.lf1=11+aT v.kR.lf1+aT v.kS.lf1+bM (v.jB.map ak.lf)+bM (v.dG.map lfS)+bM (v.dJ.map bV.lf)+bM (v.dY.map aA.lf):=by simp only[aA.lf1,fB,aT,Lf.bulk];omega
theorem gG(v:aj):aT v.lf1=4+v.fName.size+bM (v.bf.map aS.lf)+aT v.eU.lf1:=by simp only[aj.lf1,fB,aT,Lf.bulk];omega
theorem eu(v:ay):aT v.lf1=7+v.aY.size+aT v.eF.lf1+aT v.bG.lf1+aT v.gZ.lf1+aT v.gy.lf1+aT v.eP.lf1+v.dW.size+bM (v.bQ.map ay.lf)+bM (v.ig.map lfI):=by simp only[ay.lf1,fB,aT,Lf.bulk];omega
theorem sJ(v:bI):aT v.lf1=4+v.eX.size+aT v.iO.lf1:=by simp only[bI.lf1,fB,aT,Lf.bulk];omega
theorem aff(s:ByteArray):aT (lfS s)=s.size+1:=by simp only[lfS,aT,Lf.bulk,Nat.add_zero]
theorem als(n:Int):aT (lfI n)=1:=by simp only[lfI,aT,Lf.bulk]
theorem iD(l:List ak):l.length≤bM (l.map ak.lf):=eY _ (fun x=>by rw[ak.aX,bZ];omega) l
theorem fG(l:List aB):l.length≤bM (l.map aB.lf):=eY _ (fun x=>by rw[aB.aX,eG];omega) l
theorem ng(l:List bH):l.length≤bM (l.map bH.lf):=eY _ (fun x=>by rw[bH.aX,mY];omega) l
theorem yI(l:List dw):l.length≤bM (l.map dw.lf):=eY _ (fun x=>by have:=yH x;rw[dw.aX];omega) l
theorem wP(l:List aW):l.length≤bM (l.map aW.lf):=eY _ (fun x=>by rw[aW.aX,jR];omega) l
theorem qQ(l:List aO):l.length≤bM (l.map aO.lf):=eY _ (fun x=>by rw[aO.aX,iL];omega) l
theorem kM(l:List aS):l.length≤bM (l.map aS.lf):=eY _ (fun x=>by rw[aS.aX,iC];omega) l
theorem wQ(l:List bV):l.length≤bM (l.map bV.lf):=eY _ (fun x=>by rw[bV.aX,qP];omega) l
theorem pV(l:List aA):l.length≤bM (l.map aA.lf):=eY _ (fun x=>by rw[aA.aX,gV];omega) l
theorem kN(l:List ay):l.length≤bM (l.map ay.lf):=eY _ (fun x=>by rw[ay.aX,eu];omega) l
theorem TL(l:List bI):l.length≤bM (l.map bI.lf):=eY _ (fun x=>by rw[bI.aX,sJ];omega) l
theorem fQ(l:List ByteArray):l.length≤bM (l.map lfS):=eY _ (fun x=>by rw[aff];omega) l
theorem TM(l:List Int):l.length≤bM (l.map lfI):=eY _ (fun x=>by rw[als];omega) l
theorem jY{x:ak}{l:List ak}(h:x∈l):aT x.lf1≤bM (l.map ak.lf):=by rw[←ak.aX];exact iw _ h
theorem fZ{x:aB}{l:List aB}(h:x∈l):aT x.lf1≤bM (l.map aB.lf):=by rw[←aB.aX];exact iw _ h
theorem qR{x:bH}{l:List bH}(h:x∈l):aT x.lf1≤bM (l.map bH.lf):=iw _ h
theorem F6{x:aW}{l:List aW}(h:x∈l):aT x.lf1≤bM (l.map aW.lf):=by rw[←aW.aX];exact iw _ h
theorem AO{x:aO}{l:List aO}(h:x∈l):aT x.lf1≤bM (l.map aO.lf):=by rw[←aO.aX];exact iw _ h
theorem wR{x:aS}{l:List aS}(h:x∈l):aT x.lf1≤bM (l.map aS.lf):=iw _ h
theorem AP{x:bV}{l:List bV}(h:x∈l):aT x.lf1≤bM (l.map bV.lf):=by rw[←bV.aX];exact iw _ h
theorem yJ{x:aA}{l:List aA}(h:x∈l):aT x.lf1≤bM (l.map aA.lf):=by rw[←aA.aX];exact iw _ h
theorem qU{x:ay}{l:List ay}(h:x∈l):aT x.lf1≤bM (l.map ay.lf):=by rw[←ay.aX];exact iw _ h
theorem KZ{x:bI}{l:List bI}(h:x∈l):aT x.lf1≤bM (l.map bI.lf):=iw _ h
theorem D8{x:ByteArray}{l:List ByteArray}(h:x∈l):x.size+1≤bM (l.map lfS):=by rw[←aff];exact iw _ h
end Go.Proofs.YtpdlghcgekojlaaGreatDoor
namespace Go.Proofs.YtpdlghcgekojlaaGreatDoor
open Go.RowKit
theorem fK:1152921504606846975<FU:=by unfold FU;omega
def Tot{ρ:Type}(m:Option ρ)(Q:ρ→Prop):Prop:=∃r,m=some r∧Q r
def LP{σ ρ:Type}(P:σ→Prop)(Q:ρ→Prop):σ⊕ρ→Prop
 |.inl s=>P s
 |.inr r=>Q r
def Any{ρ:Type}:ρ→Prop:=fun _=>True
namespace T
variable {ρ α σ:Type}
theorem ret{Q:ρ→Prop}{r:ρ}(h:Q r):Tot (some r) Q:=⟨r,rfl,h⟩
theorem any{r:ρ}:Tot (some r) Any:=⟨r,rfl,trivial⟩
theorem bind{m:Option α}{R:α→Prop}{k:α→Option ρ}{Q:ρ→Prop}(h:Tot m R)(h2:∀a,R a→Tot (k a) Q):Tot (m.bind k) Q:=by
 obtain⟨a,rfl,ha⟩:=h
 exact h2 a ha
theorem ite{b:Bool}{x y:Option ρ}{Q:ρ→Prop}(h1:b=true→Tot x Q)(h2:b=false→Tot y Q):Tot (bif b then x else y) Q:=by
 cases b
 ·exact h2 rfl
 exact h1 rfl
theorem grd{p:Prop}[Decidable p]{x:Option ρ}{Q:ρ→Prop}(h:p)(h2:Tot x Q):Tot (if p then x else none) Q:=by
 rw[if_pos h];exact h2
theorem mono{m:Option ρ}{Q R:ρ→Prop}(h:Tot m Q)(h2:∀r,Q r→R r):Tot m R:=by
 obtain⟨r,h1,h3⟩:=h;exact⟨r,h1,h2 r h3⟩
theorem wk{m:Option ρ}{Q:ρ→Prop}(h:Tot m Q):Tot m Any:=mono h fun _ _=>trivial
theorem val{m:Option ρ}{r:ρ}(h:m=some r):Tot m (fun x=>x=r):=⟨r,h,rfl⟩
theorem eq{m m':Option ρ}{Q:ρ→Prop}(e:m=m')(h:Tot m' Q):Tot m Q:=e▸h
theorem lV{T:σ→Option (σ⊕ρ)}{s0:σ}(n:Nat)(hn:n≤1000000000)(P:Nat→σ→Prop)(Q:ρ→Prop)(h0:P 0 s0)(step:∀k s,k<n→P k s→Tot (T s) (LP (P (k+1)) Q))(fin:∀s,P n s→Tot (T s) (LP (fun _=>False) Q)):Tot (dh T FU s0) Q:=by
 refine PG n hn P Q h0 ?_ ?_
 ·intro k s hk hP
  obtain⟨r,h1,h2⟩:=step k s hk hP
  rcases r with v|r
  ·exact .inl ⟨v,h1,h2⟩
  exact .inr ⟨r,h1,h2⟩
 intro s hP
 obtain⟨r,h1,h2⟩:=fin s hP
 rcases r with v|r
 ·exact h2.elim
 exact⟨r,h1,h2⟩
theorem alu{T:Int→Option (Int⊕ρ)}(n:Nat)(hn:n≤1000000000)(Q:ρ→Prop)(step:∀k:Nat,k<n→Tot (T (k:Int)) (LP (fun v=>v=IntKind.wrap .i64 ((k:Int)+1)) Q))(fin:Tot (T (n:Int)) (LP (fun _=>False) Q)):Tot (dh T FU 0) Q:=
 lV n hn (fun k v=>v=(k:Int)) Q rfl (fun k s hk hs=>by
  obtain rfl:s=(k:Int):=hs
  refine mono (step k hk) ?_
  rintro(v|r) h
  ·exact(show v=_ from h).trans (inc k (by omega))
  ·exact h) (fun s hs=>by
  obtain rfl:s=(n:Int):=hs
  exact fin)
theorem alv{T:Int→Option (Int⊕ρ)}(l:List α)(hn:l.length≤1000000000)(Q:ρ→Prop)(step:∀(k:Nat) x,l[k]?=some x→Tot (T (k:Int)) (LP (fun v=>v=IntKind.wrap .i64 ((k:Int)+1)) Q))(fin:Tot (T (l.length:Int)) (LP (fun _=>False) Q)):Tot (dh T FU 0) Q:=
 alu l.length hn Q (fun k hk=>step k _ (List.getElem?_eq_getElem hk)) fin
end T
theorem ltt{α:Type}{l:List α}{k:Nat}{x:α}(h:l[k]?=some x):decide ((k:Int)<(l.length:Int))=true:=iLt (List.getElem?_eq_some_iff.1 h).1
theorem ltn(n:Nat):decide ((n:Int)<(n:Int))=false:=ajN (Nat.lt_irrefl _)
theorem gid{α:Type}{l:List α}{k:Nat}{x:α}(h:l[k]?=some x):gX l (k:Int)=some x:=by rw[abD,h]
theorem fU{α:Type}{l:List α}{k:Nat}{x:α}(h:l[k]?=some x):x∈l:=List.mem_of_getElem? h
theorem qw{α:Type}{l:List α}{k:Nat}{x:α}(h:l[k]?=some x):k<l.length:=(List.getElem?_eq_some_iff.1 h).1
theorem iy(l m:List (List Lf)):bM (l++m)=bM l+bM m:=by
 induction l with
 |nil=>simp[bM]
 |cons x l ih=>simp only[List.cons_append,bM,ih];omega
theorem lH{α:Type}(f:α→List Lf)(l:List α)(k:Nat):bM ((l.take k).map f)≤bM (l.map f):=by
 have:=iy ((l.take k).map f) ((l.drop k).map f)
 rw[←List.map_append,List.take_append_drop] at this;omega
def MT{ρ:Type}(t:Mo ρ)(Q:ρ→Prop):Prop:=Tot t.den Q
namespace MT
variable {ρ α β γ:Type}
theorem ret{f:Fit}{r:ρ}{Q:ρ→Prop}(h:Q r):MT (.ret f r) Q:=⟨r,rfl,h⟩
theorem any{f:Fit}{r:ρ}:MT (.ret f r) Any:=⟨r,rfl,trivial⟩
theorem say{qs:List Ans}{Φ:List Prop}{ok:dM Φ}{k:Mo ρ}{Q:ρ→Prop}(h:MT k Q):MT (.say qs ok k) Q:=h
theorem ite{b:Bool}{t:b=true→Mo ρ}{e:b=false→Mo ρ}{Q:ρ→Prop}(h1:∀h,MT (t h) Q)(h2:∀h,MT (e h) Q):MT (.ite b t e) Q:=by
 cases b
 ·exact h2 rfl
 exact h1 rfl
theorem grd{p:Prop}[d:Decidable p]{k:p→Mo ρ}{Q:ρ→Prop}(h:p)(h2:∀h,MT (k h) Q):MT (.grd p k) Q:=by
 unfold MT Tot
 show ∃r,Ih p _=some r∧Q r
 unfold Ih
 cases d with
 |isTrue hh=>exact h2 hh
 |isFalse hh=>exact absurd h hh
theorem ask{m:Option α}{k:(a:α)→m=some a→Mo ρ}{R:α→Prop}{Q:ρ→Prop}(h:Tot m R)(h2:∀a h,R a→MT (k a h) Q):MT (.ask m k) Q:=by
 obtain⟨a,rfl,ha⟩:=h
 exact h2 a rfl ha
theorem jf{m:Option (α⊕β)}{k1:(a:α)→m=some (.inl a)→Mo ρ}{k2:(b:β)→m=some (.inr b)→Mo ρ}{R:α⊕β→Prop}{Q:ρ→Prop}(h:Tot m R)(h1:∀a h,R (.inl a)→MT (k1 a h) Q)(h2:∀b h,R (.inr b)→MT (k2 b h) Q):MT (.jf m k1 k2) Q:=by
 obtain⟨a,rfl,ha⟩:=h
 rcases a with a|a
 ·exact h1 a rfl ha
 exact h2 a rfl ha
theorem Et{m:Option (α⊕β⊕γ)}{k1:(a:α)→m=some (.inl a)→Mo ρ}{k2:(b:β)→m=some (.inr (.inl b))→Mo ρ}{k3:(c:γ)→m=some (.inr (.inr c))→Mo ρ}{R:α⊕β⊕γ→Prop}{Q:ρ→Prop}(h:Tot m R)(h1:∀a h,R (.inl a)→MT (k1 a h) Q)(h2:∀b h,R (.inr (.inl b))→MT (k2 b h) Q)(h3:∀b h,R (.inr (.inr b))→MT (k3 b h) Q):MT (.Et m k1 k2 k3) Q:=by
 obtain⟨a,rfl,ha⟩:=h
 rcases a with a|a|a
 ·exact h1 a rfl ha
 ·exact h2 a rfl ha
 exact h3 a rfl ha
end MT
structure Clo {ρ:Type} (m:Option ρ):Prop where
 h:Tot m Any
namespace MT
variable {ρ α β γ:Type}
theorem kP{m:Option α}{k:(a:α)→m=some a→Mo ρ}{Q:ρ→Prop}(h:Clo m)(h2:∀a h,MT (k a h) Q):MT (.ask m k) Q:=ask h.h fun a h _=>h2 a h
theorem ajd{m:Option (α⊕β)}{k1:(a:α)→m=some (.inl a)→Mo ρ}{k2:(b:β)→m=some (.inr b)→Mo ρ}{Q:ρ→Prop}(h:Clo m)(h1:∀a h,MT (k1 a h) Q)(h2:∀b h,MT (k2 b h) Q):MT (.jf m k1 k2) Q:=jf h.h (fun a h _=>h1 a h) (fun a h _=>h2 a h)
end MT
theorem dQ{α:Type}(l:List α)(i:Int)(h0:0≤i)(h1:i<l.length):Tot (gX l i) (fun x=>x∈l):=by
 obtain⟨x,h2,h3⟩:=agq h0 h1
 exact⟨x,h2,List.mem_of_getElem? h3⟩
namespace T
variable {ρ σ:Type}
theorem aik{T:σ→Option (σ⊕ρ)}{s0:σ}(c:σ→Int)(P:σ→Prop)(Q:ρ→Prop)(h0:c s0=0)(hP:P s0)(step:∀(k:Nat) s,k≤100000000→c s=k→P s→Tot (T s) (LP (fun v=>c v=IntKind.wrap .i64 ((k:Int)+1)∧P v∧k<100000000) Q)):Tot (dh T FU s0) Q:=by
 refine yB (fun s=>0≤c s∧c s≤100000000∧P s) (fun s=>100000000-(c s).toNat) Q ?_ FU s0 ⟨by omega,by omega,hP⟩ (by have:=fK;omega)
 rintro s ⟨h1,h2,h3⟩
 obtain⟨r,h4,h5⟩:=step (c s).toNat s (by omega) (by omega) h3
 rcases r with v|r
 ·have h5:c v=IntKind.wrap .i64 (((c s).toNat:Int)+1)∧P v∧(c s).toNat<100000000:=h5
  have h6:=h5.1
  rw[inc _ (by omega)] at h6
  exact .inl ⟨v,h4,⟨by omega,by omega,h5.2.1⟩,by omega⟩
 exact .inr ⟨r,h4,h5⟩
theorem cnt{T:Int→Option (Int⊕ρ)}(Q:ρ→Prop)(step:∀k:Nat,k≤100000000→Tot (T (k:Int)) (LP (fun v=>v=IntKind.wrap .i64 ((k:Int)+1)∧k<100000000) Q)):Tot (dh T FU 0) Q:=
 aik (fun v=>v) (fun _=>True) Q rfl trivial fun k s hk hs _=>by
  obtain rfl:s=(k:Int):=hs
  refine mono (step k hk) ?_
  rintro(v|r) h
  ·exact⟨h.1,trivial,h.2⟩
  exact h
theorem anj{α:Type}{T:α×Int→Option ((α×Int)⊕ρ)}{a:α}(Q:ρ→Prop)(step:∀(a:α) (k:Nat),k≤100000000→Tot (T (a,(k:Int))) (LP (fun v=>v.2=IntKind.wrap .i64 ((k:Int)+1)∧k<100000000) Q)):Tot (dh T FU (a,0)) Q:=
 aik (fun v=>v.2) (fun _=>True) Q rfl trivial fun k s hk hs _=>by
  obtain⟨a,i⟩:=s
  obtain rfl:i=(k:Int):=hs
  refine mono (step a k hk) ?_
  rintro(v|r) h
  ·exact⟨h.1,trivial,h.2⟩
  exact h
theorem GZ{α:Type}{T:Int×α→Option ((Int×α)⊕ρ)}{a:α}(Q:ρ→Prop)(step:∀(k:Nat) (a:α),k≤100000000→Tot (T ((k:Int),a)) (LP (fun v=>v.1=IntKind.wrap .i64 ((k:Int)+1)∧k<100000000) Q)):Tot (dh T FU (0,a)) Q:=
 aik (fun v=>v.1) (fun _=>True) Q rfl trivial fun k s hk hs _=>by
  obtain⟨i,a⟩:=s
  obtain rfl:i=(k:Int):=hs
  refine mono (step k a hk) ?_
  rintro(v|r) h
  ·exact⟨h.1,trivial,h.2⟩
  exact h
end T
end Go.Proofs.YtpdlghcgekojlaaGreatDoor
namespace Go.Proofs.YtpdlghcgekojlaaGreatDoor
open Go.RowKit
theorem afg(s:ByteArray):Q61 s=some (nameB s):=by
 unfold Q61 ai1 JQ JO JM kX kW
 simp only[Mo.den,aK,aF,aG,aJ,aI]
 by_cases h0:s.size<1
 ·rw[decide_eq_true (show(s.size:Int)<1 by omega),BG s (by omega)];rfl
 rw[decide_eq_false (show ¬(s.size:Int)<1 by omega)];simp only[cond_false,Option.bind_some]
 by_cases h1:32<s.size
 ·rw[decide_eq_true (show(32:Int)<(s.size:Int) by omega),BF s h1];rfl
 rw[decide_eq_false (show ¬(32:Int)<(s.size:Int) by omega)];simp only[cond_false]
 have hz:kG s 0=some s[0]:=nC s 0 (by omega)
 rw[hz,yA s (by omega) (by omega)]
 simp only[Option.bind_some]
 have e36:((s[0].toNat:Int)==36)=(s[0].toNat==36):=by rw[Bool.eq_iff_iff];simp;omega
 rw[e36]
 cases hq:s[0].toNat==36 with
 |true=>rfl
 |false=>
  simp only[cond_false,Bool.not_false,Bool.true_and]
  refine abE s.size (by omega) (fun n k=>k=n∧∀i (hi:i<s.size),i<n→pI s[i].toNat=true) (fun r=>match r with|.inl _=>s.data.toList.all (fun c=>pI c.toNat)=false|.inr _=>s.data.toList.all (fun c=>pI c.toNat)=true) ⟨rfl,by omega⟩ ?_ ?_ ?_
  ·rintro n k hn ⟨rfl,hv⟩
   simp only[iLt hn,cond_true,nC s n hn,Option.bind_some]
   have hc:pI s[n].toNat=(decide (33≤s[n].toNat)&&decide (s[n].toNat≤126)&&!(s[n].toNat==46)):=rfl
   have e46:((s[n].toNat:Int)==46)=(s[n].toNat==46):=by rw[Bool.eq_iff_iff];simp;omega
   by_cases a1:s[n].toNat<33
   ·rw[decide_eq_true (show(s[n].toNat:Int)<33 by omega)];right
    exact⟨_,rfl,rZ s _ n hn (by rw[hc,decide_eq_false (show ¬33≤s[n].toNat by omega)];rfl)⟩
   rw[decide_eq_false (show ¬(s[n].toNat:Int)<33 by omega)];simp only[cond_false]
   by_cases a2:126<s[n].toNat
   ·rw[decide_eq_true (show(126:Int)<(s[n].toNat:Int) by omega)];right
    exact⟨_,rfl,rZ s _ n hn (by rw[hc,decide_eq_false (show ¬s[n].toNat≤126 by omega),Bool.and_false];rfl)⟩
   rw[decide_eq_false (show ¬(126:Int)<(s[n].toNat:Int) by omega),e46];simp only[cond_false,Option.bind_some]
   cases a3:s[n].toNat==46 with
   |true=>right;exact⟨_,rfl,rZ s _ n hn (by rw[hc,a3,Bool.not_true,Bool.and_false])⟩
   |false=>
    left
    refine⟨_,rfl,inc n (by omega),fun i hi hl=>?_⟩
    rcases Nat.lt_succ_iff_lt_or_eq.1 hl with h3|rfl
    ·exact hv i hi h3
    rw[hc,a3,decide_eq_true (show 33≤s[i].toNat by omega),decide_eq_true (show s[i].toNat≤126 by omega)];rfl
  ·rintro k ⟨rfl,hv⟩
   exact⟨.inr (),by simp only[ajN (Nat.lt_irrefl _),cond_false],MH s _ fun i hi=>hv i hi hi⟩
  rintro(u|u) h2
  ·exact congrArg some h2.symm
  exact congrArg some h2.symm
def aje(p:List ByteArray):Bool:=decide (1≤p.length)&&decide (p.length≤16)&&p.all nameB
theorem TN{α:Type}(f:α→Bool){l:List α}{k:Nat}{x:α}(h:l[k]?=some x):(l.take (k+1)).all f=((l.take k).all f&&f x):=by
 have hk:=qw h
 have:l[k]=x:=by rw[List.getElem?_eq_getElem hk] at h;injection h
 rw[List.take_succ_eq_append_getElem hk,List.all_append,this];simp
theorem afh{α:Type}(f:α→Bool){l:List α}{k:Nat}{x:α}(h:l[k]?=some x)(hf:f x=false):l.all f=false:=by
 rw[List.all_eq_false];exact⟨x,fU h,by simp[hf]⟩
def parts(v:ak):List ak:=(if v.aH=6 then v.bC else [])++(if v.aH=5 then v.bG.map aB.fValue else [])
theorem La(v:ak)(hb:aT v.lf1≤100000000):Q17 v=some (parts v):=by
 have hl:=iD v.bC
 have hd:=fG v.bG
 rw[bZ] at hb
 have h0:VE v 0 []=some v.bC:=by
  have:Tot (VE v 0 []) (fun r=>r=v.bC):=by
   refine T.lV v.bC.length (by omega) (fun k s=>s=((k:Int),v.bC.take k)) _ rfl ?_ ?_
   ·rintro k s hk rfl
    have hx:=List.getElem?_eq_getElem hk
    simp only[Ae,Mo.den,aK,aF,aG,aJ,aI,ltt hx,gid hx,cond_true,Option.bind_some]
    refine T.grd (by simp only[List.length_take,List.length_cons,List.length_nil];omega) (T.ret ?_)
    show _=_
    rw[inc k (by omega),List.take_succ_eq_append_getElem hk]
   rintro s rfl
   simp only[Ae,Mo.den,aK,aF,aG,aJ,aI,ltn,cond_false]
   exact T.ret (show _=_ by rw[List.take_length])
  obtain⟨r,h,rfl⟩:=this;exact h
 have h1:∀l0:List ak,l0.length≤100000000→NQ v 0 l0=some (l0++v.bG.map aB.fValue):=by
  intro l0 hl0
  have:Tot (NQ v 0 l0) (fun r=>r=l0++v.bG.map aB.fValue):=by
   refine T.lV v.bG.length (by omega) (fun k s=>s=((k:Int),l0++(v.bG.take k).map aB.fValue)) _ (by simp) ?_ ?_
   ·rintro k s hk rfl
    have hx:=List.getElem?_eq_getElem hk
    simp only[wG,Mo.den,aK,aF,aG,aJ,aI,ltt hx,gid hx,cond_true,Option.bind_some]
    refine T.grd (by simp only[List.length_append,List.length_map,List.length_take,List.length_cons,List.length_nil];omega) (T.ret ?_)
    show _=_
    rw[inc k (by omega),List.take_succ_eq_append_getElem hk,List.map_append,List.append_assoc];rfl
   rintro s rfl
   simp only[wG,Mo.den,aK,aF,aG,aJ,aI,ltn,cond_false]
   exact T.ret (show _=_ by rw[List.take_length])
  obtain⟨r,h,rfl⟩:=this;exact h
 unfold Q17 aiZ QY JL parts
 simp only[Mo.den,aK,aF,aG,aJ,aI,h0]
 by_cases a:v.aH=6
 ·have b:v.aH≠5:=by omega
  rw[show(v.aH==6)=true by simpa using a,show(v.aH==5)=false by simpa using b]
  simp[a]
 rw[show(v.aH==6)=false by simpa using a]
 by_cases b:v.aH=5
 ·rw[show(v.aH==5)=true by simpa using b];simp[a,b,h1]
 rw[show(v.aH==5)=false by simpa using b];simp[a,b]
theorem sK{v x:ak}(h:x∈parts v):aT x.lf1<aT v.lf1:=by
 rw[bZ v]
 unfold parts at h
 rcases List.mem_append.1 h with h|h
 ·split at h
  ·have:=jY h;omega
  simp at h
 split at h
 ·obtain⟨f,hf,rfl⟩:=List.mem_map.1 h
  have:=fZ hf;rw[eG] at this;omega
 simp at h
theorem Lc(v:ak):(parts v).length≤aT v.lf1:=by
 have hl:=iD v.bC
 have hd:=fG v.bG
 rw[bZ v]
 unfold parts
 rw[List.length_append]
 split<;>split<;>simp<;>omega
theorem VU(n:Nat):∀(F:Nat) (v:ak) (m:Int),m≤n→n<F→aT v.lf1≤100000000→n≤100→Tot ((BP F).m1 v m) Any:=by
 induction n using Nat.strongRecOn with
 |_ n ih=>
  intro F v m hm hF hb hn
  obtain⟨F,rfl⟩:∃G,F=G+1:=⟨F-1,by omega⟩
  have hpl:=Lc v
  simp only[BP,aec,QZ,Mo.den,aK,aF,aG,aJ,aI,La v hb,Option.bind_some]
  by_cases h2:m<2
  ·rw[decide_eq_true h2];exact T.any
  rw[decide_eq_false h2]
  simp only[cond_false,Option.bind_some]
  refine T.ite (fun _=>T.any) (fun _=>T.bind (R:=Any) ?_ (fun r _=>T.any))
  refine T.lV (parts v).length (by omega) (fun k s=>s.2=(k:Int)) _ rfl ?_ ?_
  ·rintro k ⟨a,i⟩ hk rfl
   have hx:=List.getElem?_eq_getElem hk
   have hxb:=sK (fU hx)
   simp only[Fj,Mo.den,aK,aF,aG,aJ,aI,ltt hx,gid hx,cond_true,Option.bind_some]
   refine T.bind (ih (n-1) (by omega) F _ _ (by rw[w64 (by omega) (by omega)];omega) (by omega) (by omega) (by omega)) fun r _=>T.ret ?_
   exact inc k (by omega)
  rintro⟨a,i⟩ rfl
  simp only[Fj,Mo.den,aK,aF,aG,aJ,aI,ltn,cond_false]
  exact T.ret trivial
theorem aan(n:Nat):∀(F:Nat) (v:ak) (m:Int),m≤n→n<F→aT v.lf1≤100000000→n≤2000→Tot ((BQ F).m1 v m) (fun r=>1≤r∧(r≤m∨r=1)):=by
 induction n using Nat.strongRecOn with
 |_ n ih=>
  intro F v m hm hF hb hn
  obtain⟨F,rfl⟩:∃G,F=G+1:=⟨F-1,by omega⟩
  have hpl:=Lc v
  show Tot (XQ (BQ F) v m).den _
  unfold XQ
  simp only[Mo.den,aK,aF,aG,aJ,aI,La v hb,Option.bind_some]
  refine T.bind (R:=fun r=>1≤r∧(r≤m∨r=1)) ?_ (fun r h=>T.ret h)
  refine T.lV (parts v).length (by omega) (fun k s=>s.2=(k:Int)∧1≤s.1∧(s.1≤m∨s.1=1)) _ ⟨rfl,by show(1:Int)≤1;omega,.inr rfl⟩ ?_ ?_
  ·rintro k ⟨a,i⟩ hk ⟨h1,h2,h3⟩
   obtain rfl:i=(k:Int):=h1
   have h2:1≤a:=h2
   have h3:a≤m∨a=1:=h3
   have hx:=List.getElem?_eq_getElem hk
   have hxb:=sK (fU hx)
   unfold Fq
   simp only[Fp,Mo.den,aK,aF,aG,aJ,aI,ltt hx,gid hx,cond_true,Option.bind_some]
   refine T.ite (fun h=>?_) (fun h=>T.ret ⟨h2,h3⟩)
   have h:=of_decide_eq_true h
   refine T.bind (ih (n-1) (by omega) F _ _ (by rw[w64 (by omega) (by omega)];omega) (by omega) (by omega) (by omega)) fun r hr=>T.ret ?_
   rw[w64 (by omega) (by omega)] at hr
   exact⟨inc k (by omega),by rw[w64 (by omega) (by omega)];omega,by rw[w64 (by omega) (by omega)];omega⟩
  rintro⟨a,i⟩ ⟨h1,h2,h3⟩
  obtain rfl:i=((parts v).length:Int):=h1
  unfold Fq
  simp only[Fp,Mo.den,aK,aF,aG,aJ,aI,ltn,cond_false,Option.bind_some]
  exact T.ret ⟨h2,h3⟩
theorem aao(v:ak)(hb:aT v.lf1≤100000000):Tot (akH v) Any:=by
 simp only[akH,aed,Mo.den,aK,aF,aG,aJ,aI,Q55]
 exact T.bind (VU 17 FU v 17 (by omega) (by have:=fK;omega) hb (by omega)) fun r _=>T.any
theorem aap(v:ak)(hb:aT v.lf1≤100000000):Tot (akJ v) Any:=by
 simp only[akJ,aef,Mo.den,aK,aF,aG,aJ,aI,Q48]
 exact T.bind (aan 1025 FU v 1025 (by omega) (by have:=fK;omega) hb (by omega)) fun r _=>T.any
theorem afi(s:ByteArray)(i:Nat)(n:Int)(hs:s.size≤100000000)(hi:i≤100000000)(h0:0≤n)(h1:n≤10):Tot (Q71 s (i:Int) n) (fun b=>b=true→(i:Int)+n≤s.size):=by
 unfold Q71 ai0
 simp only[Mo.den,aK,aF,aG,aJ,aI]
 rw[w64 (by omega) (by omega)]
 refine T.ite (fun _=>T.ret (by simp)) (fun h=>?_)
 have h:=of_decide_eq_false h
 obtain⟨n,rfl⟩:=Int.eq_ofNat_of_zero_le h0
 refine T.bind (R:=Any) ?_ ?_
 ·refine T.alu n (by omega) _ (fun k hk=>?_) ?_
  ·have e:kG s (IntKind.wrap .i64 ((i:Int)+(k:Int)))=some s[i+k]:=by
    rw[w64 (by omega) (by omega),show(i:Int)+(k:Int)=((i+k:Nat):Int) by omega];exact nC s _ (by omega)
   simp only[Fv,Rf,Mo.den,aK,aF,aG,aJ,aI,iLt hk,cond_true,e,Option.bind_some]
   refine T.bind (R:=Any) (T.ite (fun _=>T.any) (fun _=>T.any)) fun b _=>T.ite (fun _=>T.ret trivial) (fun _=>T.ret rfl)
  simp only[Fv,Mo.den,aK,aF,aG,aJ,aI,ltn,cond_false]
  exact T.ret trivial
 rintro(r|r) _
 ·exact T.ret (by simp)
 exact T.ret fun _=>by omega
theorem afj(s:ByteArray)(hs:s.size≤100000000):Tot (Q8 s) Any:=by
 unfold Q8 ahV
 simp only[Mo.den,aK,aF,aG,aJ,aI]
 refine T.bind (R:=Any) ?_ (by rintro(r|r) _<;>exact T.any)
 refine yB (fun v:Int=>0≤v∧v≤s.size) (fun v:Int=>s.size-v.toNat) Any ?_ FU 0 ⟨by omega,by omega⟩ (by have:=fK;omega)
 rintro v ⟨h0,h1⟩
 obtain⟨k,rfl⟩:=Int.eq_ofNat_of_zero_le h0
 have key:Tot (qN s (k:Int)).den (LP (fun v'=>(k:Int)<v'∧v'≤s.size) Any):=by
  by_cases hk:k<s.size
  ·simp only[qN,Mo.den,aK,aF,aG,aJ,aI,iLt hk,cond_true,nC s k hk,Option.bind_some]
   refine T.bind (R:=LP (fun n:Int=>(n=0∧s[k].toNat<128)∨(1≤n∧n≤3)) Any) ?_ ?_
   ·simp only[Q8,ahV,qN,FK,FI,FD,FC,FB,Fz,NU,NT,Mo.den,aK,aF,aG,aJ,aI]
    refine T.ite (fun h=>T.ret (.inl ⟨rfl, by have:=of_decide_eq_true h;omega⟩)) fun _=>T.bind (R:=Any) (T.ite (fun _=>T.any) fun _=>T.any) fun b _=>T.ite (fun _=>T.ret (.inr (by omega))) fun _=>
     T.bind (R:=Any) (T.ite (fun _=>T.any) fun _=>T.any) fun b _=>T.ite (fun _=>T.ret (.inr (by omega))) fun _=>T.bind (R:=Any) (T.ite (fun _=>T.any) fun _=>T.any) fun b _=>T.ite (fun _=>T.ret (.inr (by omega))) fun _=>T.ret trivial
   rintro(n|u) hn
   ·have hn:(n=0∧s[k].toNat<128)∨(1≤n∧n≤3):=hn
    simp only
    rw[inc k (by omega)]
    refine T.bind (afi s (k+1) n hs (by omega) (by omega) (by omega)) fun b hb=>T.ite (fun _=>T.ret trivial) fun h=>?_
    have hb:=hb (by simpa using h)
    have e:∀c:Nat,128≤c→((s[k].toNat:Int)==(c:Int))=true→∃x,kG s ((k+1:Nat):Int)=some x:=by
     intro c hc h
     have h:(s[k].toNat:Int)=c:=by simpa using h
     exact⟨_,nC s (k+1) (by omega)⟩
    simp only[Q8,ahV,qN,FK,FI,FD,FC,FB,Fz,NU,NT,Mo.den,aK,aF,aG,aJ,aI]
    rw[inc k (by omega)]
    refine T.bind (R:=Any) (T.ite (fun h=>by obtain⟨x,hx⟩:=e 224 (by omega) h;rw[hx];exact T.any) fun _=>T.any) fun b1 _=>?_
    refine T.bind (R:=Any) (T.ite (fun h=>T.any) fun _=>T.ite (fun h=>by obtain⟨x,hx⟩:=e 237 (by omega) h;rw[hx];exact T.any) fun _=>T.any) fun b2 _=>?_
    refine T.bind (R:=Any) (T.ite (fun h=>T.any) fun _=>T.ite (fun h=>by obtain⟨x,hx⟩:=e 240 (by omega) h;rw[hx];exact T.any) fun _=>T.any) fun b3 _=>?_
    refine T.bind (R:=Any) (T.ite (fun h=>T.any) fun _=>T.ite (fun h=>by obtain⟨x,hx⟩:=e 244 (by omega) h;rw[hx];exact T.any) fun _=>T.any) fun b4 _=>?_
    refine T.ite (fun _=>T.ret trivial) fun _=>T.ret ?_
    show(k:Int)<IntKind.wrap .i64 (IntKind.wrap .i64 ((k:Int)+n)+1)∧IntKind.wrap .i64 (IntKind.wrap .i64 ((k:Int)+n)+1)≤s.size
    rw[w64 (x:=(k:Int)+n) (by omega) (by omega),w64 (by omega) (by omega)];omega
   exact T.ret trivial
  simp only[qN,Mo.den,aK,aF,aG,aJ,aI,ajN hk,cond_false]
  exact T.ret trivial
 obtain⟨r,h2,h3⟩:=key
 rcases r with v'|r
 ·have h3:(k:Int)<v'∧v'≤s.size:=h3
  exact .inl ⟨v',h2,⟨by omega,h3.2⟩,by omega⟩
 exact .inr ⟨r,h2,trivial⟩
theorem VW(f:Nat):(∀v:ak,2*aT v.lf1+1<f→aT v.lf1≤100000000→Tot ((oQ f).m1 v true) Any)∧∀v:ak,2*aT v.lf1<f→aT v.lf1≤100000000→Tot ((oQ f).m2 v true) Any:=by
 induction f with
 |zero=>exact⟨fun v h=>by omega,fun v h=>by omega⟩
 |succ f ih=>
  refine⟨fun v h hb=>?_,fun v h hb=>?_⟩
  ·have hm2:=ih.2 v (by omega) hb
   have hl:=iD v.bC
   have hbv:=bZ v
   simp only[oQ,Q5,akN,Rz,Ry,Rx,Ru,Rt,Rq,Ro,Rn,Rl,Rk,Rj,Ri,Rh,XU,XT,Mo.den,aK,aF,aG,aJ,aI,Option.bind_some]
   refine T.bind (R:=Any) (T.ite (fun _=>T.any) fun _=>T.any) fun _ _=>?_
   refine T.bind (R:=Any) (T.ite (fun _=>T.any) fun _=>T.ite (fun _=>T.any) fun _=>T.any) fun _ _=>T.ite (fun _=>T.any) fun _=>?_
   refine T.bind (R:=Any) (T.ite (fun _=>T.any) fun _=>T.any) fun _ _=>?_
   refine T.bind (R:=Any) (T.ite (fun _=>T.any) fun _=>T.any) fun _ _=>?_
   refine T.bind (R:=Any) (T.ite (fun _=>T.any) fun _=>T.any) fun _ _=>?_
   refine T.bind (R:=Any) (T.ite (fun _=>T.any) fun _=>T.any) fun _ _=>?_
   refine T.bind (R:=Any) (T.ite (fun _=>T.any) fun _=>T.any) fun _ _=>?_
   refine T.bind (R:=Any) (T.ite (fun _=>T.any) fun _=>T.ite (fun _=>T.any) fun _=>T.any) fun _ _=>?_
   refine T.bind (R:=Any) (T.ite (fun _=>T.any) fun _=>T.any) fun _ _=>?_
   refine T.bind (R:=Any) (T.ite (fun _=>T.any) fun _=>T.any) fun _ _=>T.ite (fun _=>T.any) fun _=>?_
   refine T.ite (fun _=>T.bind (R:=Any) (T.ite (fun _=>T.any) fun _=>T.any) fun _ _=>T.any) fun _=>T.ite (fun _=>T.any) fun _=>?_
   refine T.ite (fun _=>T.bind (R:=Any) (T.ite (fun _=>T.bind (afj _ (by omega)) fun _ _=>T.any) fun _=>T.any) fun _ _=>T.any) fun _=>T.ite (fun _=>T.any) fun _=>T.ite (fun _=>T.any) fun _=>?_
   refine T.bind (R:=Any) ?_ (by rintro(r|r) _;exact T.any;exact T.bind hm2 fun _ _=>T.any)
   refine T.alv v.bC (by omega) _ (fun k x hx=>?_) ?_
   ·have hxb:=jY (fU hx)
    simp only[ltt hx,gid hx,cond_true,Option.bind_some]
    exact T.bind (ih.1 x (by omega) (by omega)) fun b _=>T.ite (fun _=>T.ret trivial) fun _=>T.ret rfl
   simp only[ltn,cond_false];exact T.ret trivial
  have hl:=fG v.bG
  have hbv:=bZ v
  simp only[oQ,Q33,aeg,JW,JV,JU,RF,RD,Mo.den,aK,aF,aG,aJ,aI,afg,cond_true,Option.bind_some,Bool.not_true,cond_false]
  refine T.bind (R:=Any) ?_ (by rintro(r|r) _<;>exact T.any)
  refine T.alv v.bG (by omega) _ (fun k x hx=>?_) ?_
  ·have hxb:=fZ (fU hx)
   have hk:=qw hx
   rw[eG] at hxb
   simp only[ltt hx,gid hx,cond_true,Option.bind_some]
   refine T.bind (R:=Any) (T.ite (fun _=>T.any) fun _=>T.any) fun _ _=>?_
   refine T.bind (R:=Any) (T.ite (fun _=>T.any) fun _=>T.bind (ih.1 x.fValue (by omega) (by omega)) fun _ _=>T.any) fun _ _=>T.ite (fun _=>T.ret trivial) fun _=>?_
   refine T.bind (R:=Any) ?_ (by rintro(r|r) _;exact T.ret trivial;exact T.ret rfl)
   refine T.alu k (by omega) _ (fun j hj=>?_) ?_
   ·have hy:=List.getElem?_eq_getElem (show j<v.bG.length by omega)
    simp only[iLt hj,gid hy,cond_true,Option.bind_some]
    exact T.ite (fun _=>T.ret trivial) fun _=>T.ret rfl
   simp only[ltn,cond_false];exact T.ret trivial
  simp only[ltn,cond_false];exact T.ret trivial
theorem aaq(v:ak)(hb:aT v.lf1≤100000000):Tot (akP v) Any:=by
 simp only[akP,aeh,Mo.den,aK,aF,aG,aJ,aI,Q5]
 refine T.bind (aao v hb) fun _ _=>T.ite (fun _=>T.bind (aap v hb) fun _ _=>T.ite (fun _=>T.bind ((VW FU).1 v (by have:=fK;omega) hb) fun _ _=>T.any) fun _=>T.any) fun _=>T.any
end Go.Proofs.YtpdlghcgekojlaaGreatDoor
