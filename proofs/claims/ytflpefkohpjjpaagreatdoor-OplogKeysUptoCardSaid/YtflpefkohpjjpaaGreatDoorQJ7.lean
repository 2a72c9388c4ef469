/- Printed by dec.py. -/
import Derived.Test.YtflpefkohpjjpaaGreatDoorQJ6
import Derived.Test.YtflpefkohpjjpaaGreatDoorQJ4
import Derived.Test.YtflpefkohpjjpaaGreatDoorQJName
import Derived.Test.YtflpefkohpjjpaaGreatDoorQJ3
import Derived.Test.YtflpefkohpjjpaaGreatDoorQJNumP
set_option linter.unusedSimpArgs false
set_option linter.unusedVariables false
namespace Go.Proofs.YtflpefkohpjjpaaGreatDoor
open Go.RowKit
set_option maxRecDepth 20000
set_option maxHeartbeats 4000000
noncomputable section
abbrev KA(m:aN→Option (aN)):Prop:=∀p_p,FV (m p_p) 161 [.dat (aN.lf1 p_p)] (fun r=>.dat (aN.lf1 r))
abbrev VD(m:(List aN)→Option (List aN)):Prop:=∀p_l,FH (m p_l) 243 [.lf (.rows 25 (p_l.map aN.lf)),.raw (.func (.func 161) #[] #[])] [] (fun r=>.lf (.rows 25 (r.map aN.lf))) (fun _=>[])
structure SS where
 m1:(p_p:aN)→Option (aN)
 ok1:KA m1
 m2:(p_l:List aN)→Option (List aN)
 ok2:VD m2
def SV(R_:SS)(p_p:aN):Mo (aN):=
 .cl (xU p_p.cZ) fun r0 _=>
 .cl (qI p_p.fArg) fun r1 _=>
 .ask (Q47 p_p.fArgs) fun r2 h0=>
 .say [.fZ [] (.lf (.rows 5 (r2.map ah.lf))) [],.rows (p_p.dO.cO.map bT.lf)] (okc (adU _ _ h0) (ok1 (by simp[bT.aS]:p_p.dO.cO.map bT.lf=[]++(p_p.dO.cO.map bT.lf))))<|
 .grd ((([]:List bT).length+p_p.dO.cO.length)*16≤140737488355328) fun h1=>
 .say [] (ok1 (cq_ bT.lf h1))<|
 .cl (ah2 p_p.fExpr) fun r3 _=>
 .ask (R_.m2 p_p.bM) fun r4 h2=>
 .say [.fZ [] (.lf (.rows 25 (r4.map aN.lf))) [],.at_ 0 0,.frz 2] (ok1 (R_.ok2 _ _ h2))<|
 .ret (aX 1) (aN.mk p_p.fOp r0 r1 r2 p_p.fN p_p.fM p_p.dO r3 r4)
theorem ad2(R_:SS):KA fun p_p=>Mo.den (SV R_ p_p):=fun _=>bW Tryz.func161
def Dy(R_:SS)(p_l:List aN):(Int×(List aN))→Mo ((Int×(List aN))⊕((List aN))):=fun(v0,l0)=>
 .iB (decide ((v0:Int)<(p_l.length:Int))) (.gx aN.aS p_l v0 fun x0 _=>
 .cl (R_.ok1 x0) fun r0 _=>
 .ask (ig l0 v0) fun x1 h0=>
 .say [.row (aN.lf1 x1),.rows ((l0.set v0.toNat r0).map aN.lf)] (okc (iV aN.aS h0) (okc (st_ aN.aS l0 v0.toNat r0) (ok1 ((dS aN.aS h0).2))))<|
 .rt [1,5,14,15,16] 1 (.inl (IntKind.wrap .i64 (v0+1),l0.set v0.toNat r0)))<|
 .rt [5] 1 (.inr (l0))
def ad3(R_:SS)(p_l:List aN)(v0:Int)(l0:List aN):Option (((List aN))):=bP (fun v_=>(Dy R_ p_l v_).den) FU (v0,l0)
def ad4(R_:SS)(p_l:List aN):Mo (List aN):=
 .nu p_l aN.lf<|
 .iB ((p_l.length:Int)==0) (.ret ⟨[.nil 0 25,.tod 0],[0],[],0⟩ ([]))<|
 .say [.num p_l.length,.rows ((List.replicate (p_l.length:Int).toNat aN.z).map aN.lf),.num p_l.length] (okc (ln_ p_l aN.lf) (ok1 (rp_ aN.aS (p_l.length:Int).toNat aN.z)))<|
 .grd ((0:Int)≤(p_l.length:Int)∧400*(p_l.length:Int).toNat≤281474976710656∧(p_l.length:Int).toNat≤maxLen) fun h0=>
 .say [] (okc (mk_ (p_l.length:Int) h0) (ok1 (ln_ p_l aN.lf)))<|
 .l1m [] Tryz.f243 0 [1,1,1,0,1,0] 0 (.exit 0) (fun(v0,l0)=>⟨[(1,.raw (.func (.func 161) #[] #[])),(5,.own 0),(14,.lf (.rows 25 (p_l.map aN.lf))),(15,.i_ (p_l.length:Int)),(16,.i_ v0)],[.row 43 25 (l0.map aN.lf)]⟩) (fun r_=>⟨[(5,.own 0)],[.row 43 25 (r_.map aN.lf)]⟩) (ad3 R_ p_l 0 (List.replicate (p_l.length:Int).toNat aN.z)) (Dy R_ p_l) (0,(List.replicate (p_l.length:Int).toNat aN.z)) fun r0=>
 .ret ⟨[.frz 0],[0],[],0⟩ (r0)
theorem ah3(R_:SS):VD fun p_l=>Mo.den (ad4 R_ p_l):=fun _=>dX Tryz.func243
def lX:Nat→SS
 |0=>{ m1:=fun p_p=>none,ok1:=fun _ _ h=>(by cases h),m2:=fun p_l=>none,ok2:=fun _ _ h=>(by cases h) }
 |n_+1=>{ m1:=fun p_p=>Mo.den (SV (lX n_) p_p),ok1:=ad2 (lX n_),m2:=fun p_l=>Mo.den (ad4 (lX n_) p_l),ok2:=ah3 (lX n_) }
def alV(p_p:aN):Option (aN):=(lX FU).m1 p_p
theorem ah4:KA alV:=(lX FU).ok1
def ad5(p_x:aQ):Mo (aQ):=
 .cH [] (alU p_x.fJ) fun r0 _=>
 .ask (alV p_x.bF) fun r1 h0=>
 .say [.res (.dat (aN.lf1 r1)),.at_ 0 0,.frz 2] (ok1 (ah4 _ _ h0))<|
 .ret (aX 1) (aQ.akk (aQ.am9 p_x r0) r1)
def ah5(p_x:aQ):Option (aQ):=Mo.den (ad5 p_x)
theorem VE(p_x:aQ):FV (ah5 p_x) 103 [.dat (aQ.lf1 p_x)] (fun r=>.dat (aQ.lf1 r)):=bW Tryz.func103
def Dz(p_l:List aQ):(Int×(List aQ))→Mo ((Int×(List aQ))⊕((List aQ))):=fun(v0,l0)=>
 .iB (decide ((v0:Int)<(p_l.length:Int))) (.gx aQ.aS p_l v0 fun x0 _=>
 .cl (VE x0) fun r0 _=>
 .ask (ig l0 v0) fun x1 h0=>
 .say [.row (aQ.lf1 x1),.rows ((l0.set v0.toNat r0).map aQ.lf)] (okc (iV aQ.aS h0) (okc (st_ aQ.aS l0 v0.toNat r0) (ok1 ((dS aQ.aS h0).2))))<|
 .rt [1,5,14,15,16] 1 (.inl (IntKind.wrap .i64 (v0+1),l0.set v0.toNat r0)))<|
 .rt [5] 1 (.inr (l0))
def ad6(p_l:List aQ)(v0:Int)(l0:List aQ):Option (((List aQ))):=bP (fun v_=>(Dz p_l v_).den) FU (v0,l0)
def ajv(p_l:List aQ):Mo (List aQ):=
 .nu p_l aQ.lf<|
 .iB ((p_l.length:Int)==0) (.say [] (ok1 (by simp[aQ.aS]:(([]:List aQ).map aQ.lf)=[]))<|
 .ret ⟨[.mW 0 45 31,.je 0 (([]:List aQ).map aQ.lf),.mvn 0],[0],[(1,0)],1⟩ (([]:List aQ)))<|
 .say [.num p_l.length,.rows ((List.replicate (p_l.length:Int).toNat aQ.z).map aQ.lf),.num p_l.length] (okc (ln_ p_l aQ.lf) (ok1 (rp_ aQ.aS (p_l.length:Int).toNat aQ.z)))<|
 .grd ((0:Int)≤(p_l.length:Int)∧456*(p_l.length:Int).toNat≤281474976710656∧(p_l.length:Int).toNat≤maxLen) fun h0=>
 .say [] (okc (mk_ (p_l.length:Int) h0) (ok1 (ln_ p_l aQ.lf)))<|
 .l1m [] Tryz.f157 0 [1,1,1,0,1,0] 0 (.exit 0) (fun(v0,l0)=>⟨[(1,.raw (.func (.func 103) #[] #[])),(5,.own 0),(14,.lf (.rows 31 (p_l.map aQ.lf))),(15,.i_ (p_l.length:Int)),(16,.i_ v0)],[.row 45 31 (l0.map aQ.lf)]⟩) (fun r_=>⟨[(5,.own 0)],[.row 45 31 (r_.map aQ.lf)]⟩) (ad6 p_l 0 (List.replicate (p_l.length:Int).toNat aQ.z)) (Dz p_l) (0,(List.replicate (p_l.length:Int).toNat aQ.z)) fun r0=>
 .ret ⟨[.mvn 0],[0],[(1,0)],1⟩ (r0)
def Q73(p_l:List aQ):Option (List aQ):=Mo.den (ajv p_l)
theorem alW(p_l:List aQ):FH (Q73 p_l) 157 [.lf (.rows 31 (p_l.map aQ.lf)),.raw (.func (.func 103) #[] #[])] [] (fun _=>.own 0) (fun r=>[.row 45 31 (r.map aQ.lf)]):=dX Tryz.func157
abbrev KC(m:aH→Option (aH)):Prop:=∀p_s,FV (m p_s) 158 [.dat (aH.lf1 p_s)] (fun r=>.dat (aH.lf1 r))
abbrev VF(m:(List bD)→Option (List bD)):Prop:=∀p_l,FH (m p_l) 239 [.lf (.rows 22 (p_l.map bD.lf)),.raw (.func (.func 240) #[] #[])] [] (fun r=>.lf (.rows 22 (r.map bD.lf))) (fun _=>[])
abbrev VG(m:(List aH)→Option (List aH)):Prop:=∀p_l,FH (m p_l) 241 [.lf (.rows 21 (p_l.map aH.lf)),.raw (.func (.func 158) #[] #[])] [] (fun r=>.lf (.rows 21 (r.map aH.lf))) (fun _=>[])
abbrev VH(m:bD→Option (bD)):Prop:=∀p_p,FV (m p_p) 240 [.dat (bD.lf1 p_p)] (fun r=>.dat (bD.lf1 r))
structure zD where
 m1:(p_s:aH)→Option (aH)
 ok1:KC m1
 m2:(p_l:List bD)→Option (List bD)
 ok2:VF m2
 m3:(p_l:List aH)→Option (List aH)
 ok3:VG m3
 m4:(p_p:bD)→Option (bD)
 ok4:VH m4
def SX(R_:zD)(p_s:aH):Mo (aH):=
 .cl (qI p_s.jK) fun r0 _=>
 .cl (qI p_s.jL) fun r1 _=>
 .cH [] (adU p_s.jS) fun r2 _=>
 .cl (xU p_s.eY) fun r3 _=>
 .cH [] (R_.ok2 p_s.dR) fun r4 _=>
 .cH [] (R_.ok3 p_s.fB) fun r5 _=>
 .ret (aX 1) (aH.mk p_s.ji p_s.jl r0 p_s.jm r1 r2 p_s.jo p_s.jq r3 r4 p_s.jQ r5 p_s.fF)
theorem ad7(R_:zD):KC fun p_s=>Mo.den (SX R_ p_s):=fun _=>bW Tryz.func158
def zF(R_:zD)(p_l:List bD):(Int×(List bD))→Mo ((Int×(List bD))⊕((List bD))):=fun(v0,l0)=>
 .iB (decide ((v0:Int)<(p_l.length:Int))) (.gx bD.aS p_l v0 fun x0 _=>
 .cl (R_.ok4 x0) fun r0 _=>
 .ask (ig l0 v0) fun x1 h0=>
 .say [.row (bD.lf1 x1),.rows ((l0.set v0.toNat r0).map bD.lf)] (okc (iV bD.aS h0) (okc (st_ bD.aS l0 v0.toNat r0) (ok1 ((dS bD.aS h0).2))))<|
 .rt [1,5,14,15,16] 1 (.inl (IntKind.wrap .i64 (v0+1),l0.set v0.toNat r0)))<|
 .rt [5] 1 (.inr (l0))
def VI(R_:zD)(p_l:List bD)(v0:Int)(l0:List bD):Option (((List bD))):=bP (fun v_=>(zF R_ p_l v_).den) FU (v0,l0)
def SY(R_:zD)(p_l:List bD):Mo (List bD):=
 .nu p_l bD.lf<|
 .iB ((p_l.length:Int)==0) (.ret ⟨[.nil 0 22,.tod 0],[0],[],0⟩ ([]))<|
 .say [.num p_l.length,.rows ((List.replicate (p_l.length:Int).toNat (bD.mk ⟨#[]⟩ aH.z)).map bD.lf),.num p_l.length] (okc (ln_ p_l bD.lf) (ok1 (rp_ bD.aS (p_l.length:Int).toNat (bD.mk ⟨#[]⟩ aH.z))))<|
 .grd ((0:Int)≤(p_l.length:Int)∧328*(p_l.length:Int).toNat≤281474976710656∧(p_l.length:Int).toNat≤maxLen) fun h0=>
 .say [] (okc (mk_ (p_l.length:Int) h0) (ok1 (ln_ p_l bD.lf)))<|
 .l1m [] Tryz.f239 0 [1,1,1,0,1,0] 0 (.exit 0) (fun(v0,l0)=>⟨[(1,.raw (.func (.func 240) #[] #[])),(5,.own 0),(14,.lf (.rows 22 (p_l.map bD.lf))),(15,.i_ (p_l.length:Int)),(16,.i_ v0)],[.row 224 22 (l0.map bD.lf)]⟩) (fun r_=>⟨[(5,.own 0)],[.row 224 22 (r_.map bD.lf)]⟩) (VI R_ p_l 0 (List.replicate (p_l.length:Int).toNat (bD.mk ⟨#[]⟩ aH.z))) (zF R_ p_l) (0,(List.replicate (p_l.length:Int).toNat (bD.mk ⟨#[]⟩ aH.z))) fun r0=>
 .ret ⟨[.frz 0],[0],[],0⟩ (r0)
theorem ad8(R_:zD):VF fun p_l=>Mo.den (SY R_ p_l):=fun _=>dX Tryz.func239
def DC(R_:zD)(p_l:List aH):(Int×(List aH))→Mo ((Int×(List aH))⊕((List aH))):=fun(v0,l0)=>
 .iB (decide ((v0:Int)<(p_l.length:Int))) (.gx aH.aS p_l v0 fun x0 _=>
 .cl (R_.ok1 x0) fun r0 _=>
 .ask (ig l0 v0) fun x1 h0=>
 .say [.row (aH.lf1 x1),.rows ((l0.set v0.toNat r0).map aH.lf)] (okc (iV aH.aS h0) (okc (st_ aH.aS l0 v0.toNat r0) (ok1 ((dS aH.aS h0).2))))<|
 .rt [1,5,14,15,16] 1 (.inl (IntKind.wrap .i64 (v0+1),l0.set v0.toNat r0)))<|
 .rt [5] 1 (.inr (l0))
def ad9(R_:zD)(p_l:List aH)(v0:Int)(l0:List aH):Option (((List aH))):=bP (fun v_=>(DC R_ p_l v_).den) FU (v0,l0)
def aea(R_:zD)(p_l:List aH):Mo (List aH):=
 .nu p_l aH.lf<|
 .iB ((p_l.length:Int)==0) (.ret ⟨[.nil 0 21,.tod 0],[0],[],0⟩ ([]))<|
 .say [.num p_l.length,.rows ((List.replicate (p_l.length:Int).toNat aH.z).map aH.lf),.num p_l.length] (okc (ln_ p_l aH.lf) (ok1 (rp_ aH.aS (p_l.length:Int).toNat aH.z)))<|
 .grd ((0:Int)≤(p_l.length:Int)∧312*(p_l.length:Int).toNat≤281474976710656∧(p_l.length:Int).toNat≤maxLen) fun h0=>
 .say [] (okc (mk_ (p_l.length:Int) h0) (ok1 (ln_ p_l aH.lf)))<|
 .l1m [] Tryz.f241 0 [1,1,1,0,1,0] 0 (.exit 0) (fun(v0,l0)=>⟨[(1,.raw (.func (.func 158) #[] #[])),(5,.own 0),(14,.lf (.rows 21 (p_l.map aH.lf))),(15,.i_ (p_l.length:Int)),(16,.i_ v0)],[.row 31 21 (l0.map aH.lf)]⟩) (fun r_=>⟨[(5,.own 0)],[.row 31 21 (r_.map aH.lf)]⟩) (ad9 R_ p_l 0 (List.replicate (p_l.length:Int).toNat aH.z)) (DC R_ p_l) (0,(List.replicate (p_l.length:Int).toNat aH.z)) fun r0=>
 .ret ⟨[.frz 0],[0],[],0⟩ (r0)
theorem ah6(R_:zD):VG fun p_l=>Mo.den (aea R_ p_l):=fun _=>dX Tryz.func241
def S9(R_:zD)(p_p:bD):Mo (bD):=
 .say [.order [(true,0),(true,1),(true,2),(true,3),(false,4),(true,5),(false,6)] (some 6) []] ok0<|
 .cl (R_.ok1 p_p.bC) fun r0 _=>
 .ret (aX 1) (bD.mk p_p.fName r0)
theorem aeb(R_:zD):VH fun p_p=>Mo.den (S9 R_ p_p):=fun _=>bW Tryz.func240
def iT:Nat→zD
 |0=>{ m1:=fun p_s=>none,ok1:=fun _ _ h=>(by cases h),m2:=fun p_l=>none,ok2:=fun _ _ h=>(by cases h),m3:=fun p_l=>none,ok3:=fun _ _ h=>(by cases h),m4:=fun p_p=>none,ok4:=fun _ _ h=>(by cases h) }
 |n_+1=>{ m1:=fun p_s=>Mo.den (SX (iT n_) p_s),ok1:=ad7 (iT n_),m2:=fun p_l=>Mo.den (SY (iT n_) p_l),ok2:=ad8 (iT n_),m3:=fun p_l=>Mo.den (aea (iT n_) p_l),ok3:=ah6 (iT n_),m4:=fun p_p=>Mo.den (S9 (iT n_) p_p),ok4:=aeb (iT n_) }
def alX(p_s:aH):Option (aH):=(iT FU).m1 p_s
theorem ah7:KC alX:=(iT FU).ok1
def aec(p_d:bU):Mo (bU):=
 .cH [] (alW p_d.dw) fun r0 _=>
 .ask (alX p_d.bC) fun r1 h0=>
 .say [.res (.dat (aH.lf1 r1)),.at_ 0 0,.frz 2] (ok1 (ah7 _ _ h0))<|
 .ret (aX 1) (bU.mk p_d.fName r0 r1 p_d.ku p_d.jr)
def alY(p_d:bU):Option (bU):=Mo.den (aec p_d)
theorem ah8(p_d:bU):FV (alY p_d) 102 [.dat (bU.lf1 p_d)] (fun r=>.dat (bU.lf1 r)):=bW Tryz.func102
abbrev KD(m:ak→Option (ak)):Prop:=∀p_w,FV (m p_w) 48 [.dat (ak.lf1 p_w)] (fun r=>.dat (ak.lf1 r))
abbrev VJ(m:(List ak)→Option (List ak)):Prop:=∀p_l,FH (m p_l) 47 [.lf (.rows 78 (p_l.map ak.lf)),.raw (.func (.func 48) #[] #[])] [] (fun r=>.lf (.rows 78 (r.map ak.lf))) (fun _=>[])
structure Tc where
 m1:(p_w:ak)→Option (ak)
 ok1:KD m1
 m2:(p_l:List ak)→Option (List ak)
 ok2:VJ m2
def Td(R_:Tc)(p_w:ak):Mo (ak):=
 .cl (qI p_w.fO) fun r0 _=>
 .cl (qI p_w.aT) fun r1 _=>
 .cl (qI p_w.dG) fun r2 _=>
 .cl (ah8 p_w.dh) fun r3 _=>
 .cl (VE p_w.bf) fun r4 _=>
 .ask (R_.m2 p_w.aY) fun r5 h0=>
 .say [.fZ [] (.lf (.rows 78 (r5.map ak.lf))) [],.rows (p_w.dK.map lfI),.at_ 0 0,.frz 2] (okc (R_.ok2 _ _ h0) (ok1 (by simp[lfI,lfK]:p_w.dK.map lfI=[]++(p_w.dK.map lfI))))<|
 .grd ((([]:List Int).length+p_w.dK.length)*8≤140737488355328) fun h1=>
 .say [] (ok1 (cq_ lfI h1))<|
 .ret (aX 1) (ak.mk p_w.au p_w.fC r0 r1 r2 r3 r4 p_w.nN p_w.eU r5 p_w.dK p_w.iQ)
theorem aed(R_:Tc):KD fun p_w=>Mo.den (Td R_ p_w):=fun _=>bW Tryz.func48
def DF(R_:Tc)(p_l:List ak):(Int×(List ak))→Mo ((Int×(List ak))⊕((List ak))):=fun(v0,l0)=>
 .iB (decide ((v0:Int)<(p_l.length:Int))) (.gx ak.aS p_l v0 fun x0 _=>
 .cl (R_.ok1 x0) fun r0 _=>
 .ask (ig l0 v0) fun x1 h0=>
 .say [.row (ak.lf1 x1),.rows ((l0.set v0.toNat r0).map ak.lf)] (okc (iV ak.aS h0) (okc (st_ ak.aS l0 v0.toNat r0) (ok1 ((dS ak.aS h0).2))))<|
 .rt [1,5,14,15,16] 1 (.inl (IntKind.wrap .i64 (v0+1),l0.set v0.toNat r0)))<|
 .rt [5] 1 (.inr (l0))
def aee(R_:Tc)(p_l:List ak)(v0:Int)(l0:List ak):Option (((List ak))):=bP (fun v_=>(DF R_ p_l v_).den) FU (v0,l0)
def aef(R_:Tc)(p_l:List ak):Mo (List ak):=
 .nu p_l ak.lf<|
 .iB ((p_l.length:Int)==0) (.ret ⟨[.nil 0 78,.tod 0],[0],[],0⟩ ([]))<|
 .say [.num p_l.length,.rows ((List.replicate (p_l.length:Int).toNat ak.z).map ak.lf),.num p_l.length] (okc (ln_ p_l ak.lf) (ok1 (rp_ ak.aS (p_l.length:Int).toNat ak.z)))<|
 .grd ((0:Int)≤(p_l.length:Int)∧1168*(p_l.length:Int).toNat≤281474976710656∧(p_l.length:Int).toNat≤maxLen) fun h0=>
 .say [] (okc (mk_ (p_l.length:Int) h0) (ok1 (ln_ p_l ak.lf)))<|
 .l1m [] Tryz.f47 0 [1,1,1,0,1,0] 0 (.exit 0) (fun(v0,l0)=>⟨[(1,.raw (.func (.func 48) #[] #[])),(5,.own 0),(14,.lf (.rows 78 (p_l.map ak.lf))),(15,.i_ (p_l.length:Int)),(16,.i_ v0)],[.row 49 78 (l0.map ak.lf)]⟩) (fun r_=>⟨[(5,.own 0)],[.row 49 78 (r_.map ak.lf)]⟩) (aee R_ p_l 0 (List.replicate (p_l.length:Int).toNat ak.z)) (DF R_ p_l) (0,(List.replicate (p_l.length:Int).toNat ak.z)) fun r0=>
 .ret ⟨[.frz 0],[0],[],0⟩ (r0)
theorem ah9(R_:Tc):VJ fun p_l=>Mo.den (aef R_ p_l):=fun _=>dX Tryz.func47
def lY:Nat→Tc
 |0=>{ m1:=fun p_w=>none,ok1:=fun _ _ h=>(by cases h),m2:=fun p_l=>none,ok2:=fun _ _ h=>(by cases h) }
 |n_+1=>{ m1:=fun p_w=>Mo.den (Td (lY n_) p_w),ok1:=aed (lY n_),m2:=fun p_l=>Mo.den (aef (lY n_) p_l),ok2:=ah9 (lY n_) }
def aia(p_w:ak):Option (ak):=(lY FU).m1 p_w
theorem VK:KD aia:=(lY FU).ok1
def DI(p_l:List ak):(Int×(List ak))→Mo ((Int×(List ak))⊕((List ak))):=fun(v0,l0)=>
 .iB (decide ((v0:Int)<(p_l.length:Int))) (.gx ak.aS p_l v0 fun x0 _=>
 .cl (VK x0) fun r0 _=>
 .ask (ig l0 v0) fun x1 h0=>
 .say [.row (ak.lf1 x1),.rows ((l0.set v0.toNat r0).map ak.lf)] (okc (iV ak.aS h0) (okc (st_ ak.aS l0 v0.toNat r0) (ok1 ((dS ak.aS h0).2))))<|
 .rt [1,5,14,15,16] 1 (.inl (IntKind.wrap .i64 (v0+1),l0.set v0.toNat r0)))<|
 .rt [5] 1 (.inr (l0))
def aeg(p_l:List ak)(v0:Int)(l0:List ak):Option (((List ak))):=bP (fun v_=>(DI p_l v_).den) FU (v0,l0)
def ajw(p_l:List ak):Mo (List ak):=
 .nu p_l ak.lf<|
 .iB ((p_l.length:Int)==0) (.say [] (ok1 (by simp[ak.aS]:(([]:List ak).map ak.lf)=[]))<|
 .ret ⟨[.mW 0 49 78,.je 0 (([]:List ak).map ak.lf),.mvn 0],[0],[(1,0)],1⟩ (([]:List ak)))<|
 .say [.num p_l.length,.rows ((List.replicate (p_l.length:Int).toNat ak.z).map ak.lf),.num p_l.length] (okc (ln_ p_l ak.lf) (ok1 (rp_ ak.aS (p_l.length:Int).toNat ak.z)))<|
 .grd ((0:Int)≤(p_l.length:Int)∧1168*(p_l.length:Int).toNat≤281474976710656∧(p_l.length:Int).toNat≤maxLen) fun h0=>
 .say [] (okc (mk_ (p_l.length:Int) h0) (ok1 (ln_ p_l ak.lf)))<|
 .l1m [] Tryz.f47 0 [1,1,1,0,1,0] 0 (.exit 0) (fun(v0,l0)=>⟨[(1,.raw (.func (.func 48) #[] #[])),(5,.own 0),(14,.lf (.rows 78 (p_l.map ak.lf))),(15,.i_ (p_l.length:Int)),(16,.i_ v0)],[.row 49 78 (l0.map ak.lf)]⟩) (fun r_=>⟨[(5,.own 0)],[.row 49 78 (r_.map ak.lf)]⟩) (aeg p_l 0 (List.replicate (p_l.length:Int).toNat ak.z)) (DI p_l) (0,(List.replicate (p_l.length:Int).toNat ak.z)) fun r0=>
 .ret ⟨[.mvn 0],[0],[(1,0)],1⟩ (r0)
def Q63(p_l:List ak):Option (List ak):=Mo.den (ajw p_l)
theorem alZ(p_l:List ak):FH (Q63 p_l) 47 [.lf (.rows 78 (p_l.map ak.lf)),.raw (.func (.func 48) #[] #[])] [] (fun _=>.own 0) (fun r=>[.row 49 78 (r.map ak.lf)]):=dX Tryz.func47
def GX(p_w:ak):Mo (Bool):=
 .aV 8003 (decide ((2:Int)≤p_w.au)) [1,16] 1 (decide ((p_w.au:Int)≤7))
def aeh(p_w:ak):Mo (List ak):=
 .iB (p_w.au==8) (.ask (Q63 p_w.aY) fun r0 h0=>
 .say [.fZ [] (.own 0) [.row 49 78 (r0.map ak.lf)],.at_ 0 0,.frz 1] (ok1 (alZ _ _ h0))<|
 .ret (aX 1) (r0))<|
 .jk Tryz.f21 0 [1,1,0,0] 13 (fun r_=>⟨[(1,.ptr 0 0),(16,.b_ r_)],[cu p_w]⟩) ⟨[(1,.ptr 0 0)],[cu p_w]⟩ (GX p_w) fun r1=>
 .iB (r1) (.ask (aia p_w) fun r2 h1=>
 .say [.res (.dat (ak.lf1 r2)),.at_ 0 0,.pY 1 ([r2].map ak.lf)] (okc (VK _ _ h1) (ok1 (by simp[ak.aS]:[r2].map ak.lf=[(ak.lf1 r2)])))<|
 .ret (aX 1) ([r2]))<|
 .ret ⟨[.nil 0 78,.tod 0],[0],[],0⟩ ([])
def aib(p_w:ak):Option (List ak):=Mo.den (aeh p_w)
theorem VL(p_w:ak):FV (aib p_w) 21 [.dat (ak.lf1 p_w)] (fun r=>.lf (.rows 78 (r.map ak.lf))):=bW Tryz.func21
def Ze(p_v:ah):Mo (Bool):=
 .aV 6003 (p_v.dD==0) [1,2,13] 1 (decide ((p_v.fText:ByteArray)=(⟨#[]⟩:ByteArray)))
def Zf(p_v:ah)(r0:Bool):Mo (Bool):=
 .iG 6008 (r0) (.nu p_v.aU ah.lf<|
 .rt [1,2,19] 1 ((p_v.aU.length:Int)==0))<|
 .rt [1,2,19] 1 (false)
def Tf(p_v:ah)(r0:Bool):Mo (Bool):=
 .iG 6014 (r0) (.nu p_v.aT ay.lf<|
 .ret ⟨[.kill 0],[2,25],[],1⟩ ((p_v.aT.length:Int)==0))<|
 .ret ⟨[.kill 0],[2,25],[],1⟩ (false)
def aei(p_v:ah):Mo (Bool):=
 .iB (p_v.au==0) (.sf Tryz.f104 0 [1,0,1,0,0] 0 8 2 [(1,.ptr 0 0),(2,.b_ false)] [aZ p_v] 13 (Ze p_v) fun r0=>
 .sb Tryz.f104 0 [1,0,1,0,0] 8 6 2 [(1,.ptr 0 0),(2,.b_ false)] [aZ p_v] 13 19 r0 (Zf p_v r0) fun r1=>
 .sk Tryz.f104 0 [1,0,1,0,0] 14 6 2 (fun r_=>⟨[(2,.b_ false),(25,.b_ r_)],[.dead]⟩) ⟨[(1,.ptr 0 0),(2,.b_ false),(19,.b_ r1)],[aZ p_v]⟩ (Tf p_v r1) fun r2=>
 .sk Tryz.f104 0 [1,0,1,0,0] 20 1 2 (fun r_=>⟨[(2,.b_ r2)],[.dead]⟩) ⟨[(2,.b_ false),(25,.b_ r2)],[.dead]⟩ (fU r2) fun r3=>
 .ret (aX 1) (r2))<|
 .cl (tV p_v) fun r4 _=>
 .ret (aX 1) (r4)
def aic(p_v:ah):Option (Bool):=Mo.den (aei p_v)
theorem aie(p_v:ah):FV (aic p_v) 104 [.dat (ah.lf1 p_v)] .b_:=bW Tryz.func104
abbrev VN(m:ah→Option (List Int)):Prop:=∀p_v,FH (m p_v) 105 [.raw (.slice none 0 0),.dat (ah.lf1 p_v)] [] (fun _=>.own 0) (fun r=>[.row 5 1 (r.map (lfK .u8))])
abbrev KE(m:ah→(List Int)→Option (List Int)):Prop:=∀p_v p_s0,FH (m p_v p_s0) 105 [.own 0,.dat (ah.lf1 p_v)] [.row 5 1 (p_s0.map (lfK .u8))] (fun _=>.own 1) (fun r=>[.dead,.row 5 1 (r.map (lfK .u8))])
structure kU where
 m1:(p_v:ah)→Option (List Int)
 ok1:VN m1
 m2:(p_v:ah)→(p_s0:List Int)→Option (List Int)
 ok2:KE m2
def aej(R_:kU)(p_v:ah):Mo (Bool):=
 .iB (p_v.au==3) (.rt [0,3,19,20] 3 (p_v.au==3))<|
 .iB (p_v.au==9) (.rt [0,3,19,20] 3 (p_v.au==9))<|
 .rt [0,3,19,20] 3 (p_v.au==10)
def aek(R_:kU)(p_v:ah):(Int×(List Int))→Mo ((Int×(List Int))⊕((List Int))):=fun(v0,l0)=>
 .iB (decide ((0:Int)≤v0)) (.say [.rows ((l0++[IntKind.wrap .u8 (kR .u64 (dI .xor .u64 (IntKind.wrap .u64 p_v.dD) 9223372036854775808) v0)]).map (lfK .u8))] ok0<|
 .grd ((0:Int)≤v0) fun h0=>
 .say [] (okc h0 (ok1 (by simp[lfI,lfK]:(l0++[IntKind.wrap .u8 (kR .u64 (dI .xor .u64 (IntKind.wrap .u64 p_v.dD) 9223372036854775808) v0)]).map (lfK .u8)=(l0.map (lfK .u8))++[((lfK .u8) (IntKind.wrap .u8 (kR .u64 (dI .xor .u64 (IntKind.wrap .u64 p_v.dD) 9223372036854775808) v0)))])))<|
 .grd ((l0.length+[IntKind.wrap .u8 (kR .u64 (dI .xor .u64 (IntKind.wrap .u64 p_v.dD) 9223372036854775808) v0)].length)*1≤140737488355328) fun h1=>
 .say [] (ok1 (by simpa using h1:((l0.map (lfK .u8)).length+[((lfK .u8) (IntKind.wrap .u8 (kR .u64 (dI .xor .u64 (IntKind.wrap .u64 p_v.dD) 9223372036854775808) v0)))].length)*1≤140737488355328))<|
 .ret ⟨[],[0,5,6],[(4,2)],3⟩ (.inl (IntKind.wrap .i64 (v0-8),l0++[IntKind.wrap .u8 (kR .u64 (dI .xor .u64 (IntKind.wrap .u64 p_v.dD) 9223372036854775808) v0)])))<|
 .rt [0] 3 (.inr (l0))
def Zg(R_:kU)(p_v:ah):Mo (Bool):=
 .iB (p_v.au==4) (.rt [0,3,19,39] 3 (p_v.au==4))<|
 .iB (p_v.au==7) (.rt [0,3,19,39] 3 (p_v.au==7))<|
 .rt [0,3,19,39] 3 (p_v.au==8)
def Zh(R_:kU)(l0:List Int)(p_v:ah)(v0:Int):Mo (((List Int))):=
 .ask (iw p_v.fText v0) fun b0 h0=>
 .say [.byt b0,.rows ((l0++[(b0.toNat:Int)]).map (lfK .u8))] (okc (dL h0) (ok1 (by simp[lfI,lfK]:(l0++[(b0.toNat:Int)]).map (lfK .u8)=(l0.map (lfK .u8))++[((lfK .u8) (b0.toNat:Int))])))<|
 .grd ((l0.length+[(b0.toNat:Int)].length)*1≤140737488355328) fun h1=>
 .say [] (ok1 (by simpa using h1:((l0.map (lfK .u8)).length+[((lfK .u8) (b0.toNat:Int))].length)*1≤140737488355328))<|
 .ask (iw p_v.fText v0) fun b1 h2=>
 .say [.byt b1] (ok1 (dL h2))<|
 .iB ((b1.toNat:Int)==0) (.say [.rows (((l0++[(b0.toNat:Int)])++[(255:Int)]).map (lfK .u8))] (ok1 (by simp[lfI,lfK]:((l0++[(b0.toNat:Int)])++[(255:Int)]).map (lfK .u8)=((l0++[(b0.toNat:Int)]).map (lfK .u8))++[((lfK .u8) (255:Int))]))<|
 .grd (((l0++[(b0.toNat:Int)]).length+[(255:Int)].length)*1≤140737488355328) fun h3=>
 .say [] (ok1 (by simpa using h3:(((l0++[(b0.toNat:Int)]).map (lfK .u8)).length+[((lfK .u8) (255:Int))].length)*1≤140737488355328))<|
 .ret ⟨[],[0,3,45,46],[(6,2)],3⟩ ((l0++[(b0.toNat:Int)])++[(255:Int)]))<|
 .ret ⟨[],[0,3,45,46],[(4,2)],3⟩ (l0++[(b0.toNat:Int)])
def Zi(R_:kU)(p_v:ah):(Int×(List Int))→Mo ((Int×(List Int))⊕((List Int))):=fun(v0,l0)=>
 .iB (decide ((v0:Int)<(p_v.fText.size:Int))) (.jk Tryz.f105 0 [1,1,0,1,0,1,1,1,0,0,1,0,0,1,1,0] 14 (fun r_=>⟨[(0,.own 2),(3,.ptr 0 0),(45,.i_ (p_v.fText.size:Int)),(46,.i_ v0)],[aZ p_v,.dead,.row 5 1 (r_.map (lfK .u8))]⟩) ⟨[(0,.own 2),(3,.ptr 0 0),(45,.i_ (p_v.fText.size:Int)),(46,.i_ v0)],[aZ p_v,.dead,.row 5 1 (l0.map (lfK .u8))]⟩ (Zh R_ l0 p_v v0) fun r0=>
 .rt [0,3,45,46] 3 (.inl (IntKind.wrap .i64 (v0+1),r0)))<|
 .ret ⟨[.kill 0],[0],[],3⟩ (.inr (l0))
def Zj(R_:kU)(p_v:ah):(Int×(List Int))→Mo ((Int×(List Int))⊕((List Int))):=fun(v0,l0)=>
 .iB (decide ((v0:Int)<(p_v.aU.length:Int))) (.gx ah.aS p_v.aU v0 fun x0 _=>
 .say [] (ok1 (by simp[lfI,lfK]:(l0++[(1:Int)]).map (lfK .u8)=(l0.map (lfK .u8))++[((lfK .u8) (1:Int))]))<|
 .grd ((l0.length+[(1:Int)].length)*1≤140737488355328) fun h0=>
 .say [] (ok1 (by simpa using h0:((l0.map (lfK .u8)).length+[((lfK .u8) (1:Int))].length)*1≤140737488355328))<|
 .ask (R_.m2 x0 (l0++[(1:Int)])) fun r0 h1=>
 .say [.iD (.q 0 (.q 3 (.l 1 (.l 2 (.l 4 (.q 5 .fin)))))) (some 4) [2,5] [.at_ 54 1,.resv 2,.slot 4,.rows ((l0++[(1:Int)]).map (lfK .u8)),.slot 5,.at_ 54 4,.tod 80,.fZ [5] (.own 1) [.dead,.row 5 1 (r0.map (lfK .u8))]] [0,71,72,73] 7 [(0,.own 6),(71,.lf (.rows 5 (p_v.aU.map ah.lf))),(72,.i_ (p_v.aU.length:Int)),(73,.i_ v0)] [.dead,.dead,.dead,.box 25 (.agg [.i_ x0.au,.i_ x0.dD,.lf (.str x0.fText),.lf (.rows 5 (x0.aU.map ah.lf)),.lf (.rows 6 (x0.aT.map ay.lf))]),.row 5 1 [((lfK .u8) (1:Int))],.dead,.row 5 1 (r0.map (lfK .u8))]] (okc (R_.ok2 _ _ _ h1) (ok1 (rf_ ⟨[(0,.own 6),(71,.lf (.rows 5 (p_v.aU.map ah.lf))),(72,.i_ (p_v.aU.length:Int)),(73,.i_ v0)],[.dead,.dead,.dead,.box 25 (.agg [.i_ x0.au,.i_ x0.dD,.lf (.str x0.fText),.lf (.rows 5 (x0.aU.map ah.lf)),.lf (.rows 6 (x0.aT.map ay.lf))]),.row 5 1 [((lfK .u8) (1:Int))],.dead,.row 5 1 (r0.map (lfK .u8))]⟩)))<|
 .ret ⟨[],[0,71,72,73],[(6,2)],3⟩ (.inl (IntKind.wrap .i64 (v0+1),r0)))<|
 .rt [0] 3 (.inr (l0))
def Zk(R_:kU)(p_v:ah):(Int×(List Int))→Mo ((Int×(List Int))⊕((List Int))):=fun(v0,l0)=>
 .iB (decide ((v0:Int)<(p_v.aT.length:Int))) (.gx ay.aS p_v.aT v0 fun x0 _=>
 .say [.rows ((l0++[(1:Int)]).map (lfK .u8)),.rows (((l0++[(1:Int)])++(numsOf (x0.fName:ByteArray))).map (lfK .u8))] (ok1 (by simp[lfI,lfK]:(l0++[(1:Int)]).map (lfK .u8)=(l0.map (lfK .u8))++[((lfK .u8) (1:Int))]))<|
 .grd ((l0.length+[(1:Int)].length)*1≤140737488355328) fun h0=>
 .say [] (okc (by simpa using h0:((l0.map (lfK .u8)).length+[((lfK .u8) (1:Int))].length)*1≤140737488355328) (ok1 (by first|(rw[List.map_append,eF];done)|(rw[eF,List.nil_append];done)|simp[lfI,lfK,eF]:((l0++[(1:Int)])++(numsOf (x0.fName:ByteArray))).map (lfK .u8)=((l0++[(1:Int)]).map (lfK .u8))++oP (x0.fName:ByteArray))))<|
 .grd ((l0++[(1:Int)]).length+(x0.fName:ByteArray).size≤140737488355328) fun h1=>
 .say [] (okc (by simpa using h1:((l0++[(1:Int)]).map (lfK .u8)).length+(x0.fName:ByteArray).size≤140737488355328) (ok1 (by simp[lfI,lfK]:(((l0++[(1:Int)])++(numsOf (x0.fName:ByteArray)))++[(0:Int)]).map (lfK .u8)=(((l0++[(1:Int)])++(numsOf (x0.fName:ByteArray))).map (lfK .u8))++[((lfK .u8) (0:Int))])))<|
 .grd ((((l0++[(1:Int)])++(numsOf (x0.fName:ByteArray))).length+[(0:Int)].length)*1≤140737488355328) fun h2=>
 .say [] (ok1 (by simpa using h2:((((l0++[(1:Int)])++(numsOf (x0.fName:ByteArray))).map (lfK .u8)).length+[((lfK .u8) (0:Int))].length)*1≤140737488355328))<|
 .ask (R_.m2 x0.fValue (((l0++[(1:Int)])++(numsOf (x0.fName:ByteArray)))++[(0:Int)])) fun r0 h3=>
 .say [.iD (.q 0 (.q 3 (.q 4 (.l 1 (.l 2 (.l 5 (.q 6 .fin))))))) (some 5) [6,8] [.at_ 72 1,.resv 2,.slot 7,.rows ((((l0++[(1:Int)])++(numsOf (x0.fName:ByteArray)))++[(0:Int)]).map (lfK .u8)),.slot 8,.at_ 72 5,.tod 106,.fZ [8] (.own 1) [.dead,.row 5 1 (r0.map (lfK .u8))]] [0,89,90,91] 10 [(0,.own 9),(89,.lf (.rows 6 (p_v.aT.map ay.lf))),(90,.i_ (p_v.aT.length:Int)),(91,.i_ v0)] [.dead,.dead,.dead,.box 115 (.agg ((ay.lf1 x0).map AV.lf)),.row 5 1 [((lfK .u8) (1:Int))],.dead,.dead,.row 5 1 [((lfK .u8) (0:Int))],.dead,.row 5 1 (r0.map (lfK .u8))]] (okc (R_.ok2 _ _ _ h3) (ok1 (rf_ ⟨[(0,.own 9),(89,.lf (.rows 6 (p_v.aT.map ay.lf))),(90,.i_ (p_v.aT.length:Int)),(91,.i_ v0)],[.dead,.dead,.dead,.box 115 (.agg ((ay.lf1 x0).map AV.lf)),.row 5 1 [((lfK .u8) (1:Int))],.dead,.dead,.row 5 1 [((lfK .u8) (0:Int))],.dead,.row 5 1 (r0.map (lfK .u8))]⟩)))<|
 .ret ⟨[],[0,89,90,91],[(9,2)],3⟩ (.inl (IntKind.wrap .i64 (v0+1),r0)))<|
 .rt [0] 3 (.inr (l0))
def Zl(R_:kU)(p_v:ah):Mo (((List Int))):=
 .jk Tryz.f105 0 [1,1,0,1,0,0,1] 1 (fun r_=>⟨[(0,.own 2),(3,.ptr 0 0),(19,.i_ p_v.au),(20,.b_ r_)],[aZ p_v,.dead,.row 5 1 ([IntKind.wrap .u8 p_v.au].map (lfK .u8))]⟩) ⟨[(0,.own 2),(3,.ptr 0 0),(19,.i_ p_v.au),(20,.lf (.bool (p_v.au==3)))],[aZ p_v,.dead,.row 5 1 ([IntKind.wrap .u8 p_v.au].map (lfK .u8))]⟩ (aej R_ p_v) fun r0=>
 .iB (r0) (.l1y [.kill 0] Tryz.f105 0 [1,1,0,1,0,1,0,1,1,0] 0 (.exit 1) (fun(v0,l0)=>⟨[(0,.own 2),(5,.lf (.int .u64 (dI .xor .u64 (IntKind.wrap .u64 p_v.dD) 9223372036854775808))),(6,.i_ v0)],[.dead,.dead,.row 5 1 (l0.map (lfK .u8))]⟩) (fun r_=>⟨[(0,.own 2)],[.dead,.dead,.row 5 1 (r_.map (lfK .u8))]⟩) (aek R_ p_v) (56,[IntKind.wrap .u8 p_v.au]) fun r1=>
 .rt [0] 3 (r1))<|
 .jk Tryz.f105 0 [1,1,0,1,0,1,1,0,1] 1 (fun r_=>⟨[(0,.own 2),(3,.ptr 0 0),(19,.i_ p_v.au),(39,.b_ r_)],[aZ p_v,.dead,.row 5 1 ([IntKind.wrap .u8 p_v.au].map (lfK .u8))]⟩) ⟨[(0,.own 2),(3,.ptr 0 0),(19,.i_ p_v.au),(39,.lf (.bool (p_v.au==4)))],[aZ p_v,.dead,.row 5 1 ([IntKind.wrap .u8 p_v.au].map (lfK .u8))]⟩ (Zg R_ p_v) fun r2=>
 .iB (r2) (.l1 Tryz.f105 0 [1,1,0,1,0,1,1,1,0,0,1,0] 0 (.exit 3) (fun(v1,l2)=>⟨[(0,.own 2),(3,.ptr 0 0),(45,.i_ (p_v.fText.size:Int)),(46,.i_ v1)],[aZ p_v,.dead,.row 5 1 (l2.map (lfK .u8))]⟩) (fun r_=>⟨[(0,.own 2)],[.dead,.dead,.row 5 1 (r_.map (lfK .u8))]⟩) (Zi R_ p_v) (0,[IntKind.wrap .u8 p_v.au]) fun r3=>
 .say [.rows ((r3++[(0:Int),(0:Int)]).map (lfK .u8))] (ok1 (by simp[lfI,lfK]:(r3++[(0:Int),(0:Int)]).map (lfK .u8)=(r3.map (lfK .u8))++[((lfK .u8) (0:Int)),((lfK .u8) (0:Int))]))<|
 .grd ((r3.length+[(0:Int),(0:Int)].length)*1≤140737488355328) fun h0=>
 .say [] (ok1 (by simpa using h0:((r3.map (lfK .u8)).length+[((lfK .u8) (0:Int)),((lfK .u8) (0:Int))].length)*1≤140737488355328))<|
 .ret ⟨[],[0],[(4,2)],3⟩ (r3++[(0:Int),(0:Int)]))<|
 .iB (p_v.au==6) (.nu p_v.aU ah.lf<|
 .l1y [.kill 0] Tryz.f105 0 [1,1,0,1,0,1,1,1,1,1,0,0,1,0] 0 (.exit 5) (fun(v2,l3)=>⟨[(0,.own 2),(71,.lf (.rows 5 (p_v.aU.map ah.lf))),(72,.i_ (p_v.aU.length:Int)),(73,.i_ v2)],[.dead,.dead,.row 5 1 (l3.map (lfK .u8))]⟩) (fun r_=>⟨[(0,.own 2)],[.dead,.dead,.row 5 1 (r_.map (lfK .u8))]⟩) (Zj R_ p_v) (0,[IntKind.wrap .u8 p_v.au]) fun r4=>
 .say [.rows ((r4++[(0:Int)]).map (lfK .u8))] (ok1 (by simp[lfI,lfK]:(r4++[(0:Int)]).map (lfK .u8)=(r4.map (lfK .u8))++[((lfK .u8) (0:Int))]))<|
 .grd ((r4.length+[(0:Int)].length)*1≤140737488355328) fun h1=>
 .say [] (ok1 (by simpa using h1:((r4.map (lfK .u8)).length+[((lfK .u8) (0:Int))].length)*1≤140737488355328))<|
 .ret ⟨[],[0],[(4,2)],3⟩ (r4++[(0:Int)]))<|
 .iB (p_v.au==5) (.nu p_v.aT ay.lf<|
 .l1y [.kill 0] Tryz.f105 0 [1,1,0,1,0,1,1,1,1,1,1,1,0,0,1,0] 0 (.exit 7) (fun(v3,l4)=>⟨[(0,.own 2),(89,.lf (.rows 6 (p_v.aT.map ay.lf))),(90,.i_ (p_v.aT.length:Int)),(91,.i_ v3)],[.dead,.dead,.row 5 1 (l4.map (lfK .u8))]⟩) (fun r_=>⟨[(0,.own 2)],[.dead,.dead,.row 5 1 (r_.map (lfK .u8))]⟩) (Zk R_ p_v) (0,[IntKind.wrap .u8 p_v.au]) fun r5=>
 .say [.rows ((r5++[(0:Int)]).map (lfK .u8))] (ok1 (by simp[lfI,lfK]:(r5++[(0:Int)]).map (lfK .u8)=(r5.map (lfK .u8))++[((lfK .u8) (0:Int))]))<|
 .grd ((r5.length+[(0:Int)].length)*1≤140737488355328) fun h2=>
 .say [] (ok1 (by simpa using h2:((r5.map (lfK .u8)).length+[((lfK .u8) (0:Int))].length)*1≤140737488355328))<|
 .ret ⟨[],[0],[(4,2)],3⟩ (r5++[(0:Int)]))<|
 .ret ⟨[.kill 0],[0],[],3⟩ ([IntKind.wrap .u8 p_v.au])
def ajx(R_:kU)(p_v:ah):Mo (List Int):=
 .say [.rows ([IntKind.wrap .u8 p_v.au].map (lfK .u8))] (ok1 (by simp[lfI,lfK]:[IntKind.wrap .u8 p_v.au].map (lfK .u8)=[]++[((lfK .u8) (IntKind.wrap .u8 p_v.au))]))<|
 .grd ((([]:List Int).length+[IntKind.wrap .u8 p_v.au].length)*1≤140737488355328) fun h0=>
 .say [] (ok1 (by first|(simp;done)|simpa using h0:(([]:List (List Lf)).length+[((lfK .u8) (IntKind.wrap .u8 p_v.au))].length)*1≤140737488355328))<|
 .jy [.kill 1] Tryz.f105 0 [1,1,0,1] 6 (.normal) (fun r_=>⟨[(0,.own 2)],[.dead,.dead,.row 5 1 (r_.map (lfK .u8))]⟩) ⟨[(0,.own 2),(3,.ptr 0 0),(19,.i_ p_v.au)],[aZ p_v,.dead,.row 5 1 ([IntKind.wrap .u8 p_v.au].map (lfK .u8))]⟩ (Zl R_ p_v) fun r0=>
 .ret ⟨[.mvn 2],[0],[(3,0)],1⟩ (r0)
theorem aif(R_:kU):VN fun p_v=>Mo.den (ajx R_ p_v):=fun _=>dX Tryz.func105
def VO(R_:kU)(p_s0:List Int)(p_v:ah):Mo (Bool):=
 .iB (p_v.au==3) (.rt [0,3,19,20] 4 (p_v.au==3))<|
 .iB (p_v.au==9) (.rt [0,3,19,20] 4 (p_v.au==9))<|
 .rt [0,3,19,20] 4 (p_v.au==10)
def AQ(R_:kU)(p_v:ah):(Int×(List Int))→Mo ((Int×(List Int))⊕((List Int))):=fun(v0,l0)=>
 .iB (decide ((0:Int)≤v0)) (.say [.rows ((l0++[IntKind.wrap .u8 (kR .u64 (dI .xor .u64 (IntKind.wrap .u64 p_v.dD) 9223372036854775808) v0)]).map (lfK .u8))] ok0<|
 .grd ((0:Int)≤v0) fun h0=>
 .say [] (okc h0 (ok1 (by simp[lfI,lfK]:(l0++[IntKind.wrap .u8 (kR .u64 (dI .xor .u64 (IntKind.wrap .u64 p_v.dD) 9223372036854775808) v0)]).map (lfK .u8)=(l0.map (lfK .u8))++[((lfK .u8) (IntKind.wrap .u8 (kR .u64 (dI .xor .u64 (IntKind.wrap .u64 p_v.dD) 9223372036854775808) v0)))])))<|
 .grd ((l0.length+[IntKind.wrap .u8 (kR .u64 (dI .xor .u64 (IntKind.wrap .u64 p_v.dD) 9223372036854775808) v0)].length)*1≤140737488355328) fun h1=>
 .say [] (ok1 (by simpa using h1:((l0.map (lfK .u8)).length+[((lfK .u8) (IntKind.wrap .u8 (kR .u64 (dI .xor .u64 (IntKind.wrap .u64 p_v.dD) 9223372036854775808) v0)))].length)*1≤140737488355328))<|
 .ret ⟨[],[0,5,6],[(5,3)],4⟩ (.inl (IntKind.wrap .i64 (v0-8),l0++[IntKind.wrap .u8 (kR .u64 (dI .xor .u64 (IntKind.wrap .u64 p_v.dD) 9223372036854775808) v0)])))<|
 .rt [0] 4 (.inr (l0))
def ael(R_:kU)(p_v:ah)(v0:Int)(l0:List Int):Option (((List Int))):=bP (fun v_=>(AQ R_ p_v v_).den) FU (v0,l0)
def NS(R_:kU)(p_s0:List Int)(p_v:ah):Mo (Bool):=
 .iB (p_v.au==4) (.rt [0,3,19,39] 4 (p_v.au==4))<|
 .iB (p_v.au==7) (.rt [0,3,19,39] 4 (p_v.au==7))<|
 .rt [0,3,19,39] 4 (p_v.au==8)
def NT(R_:kU)(l0:List Int)(p_v:ah)(v0:Int):Mo (((List Int))):=
 .ask (iw p_v.fText v0) fun b0 h0=>
 .say [.byt b0,.rows ((l0++[(b0.toNat:Int)]).map (lfK .u8))] (okc (dL h0) (ok1 (by simp[lfI,lfK]:(l0++[(b0.toNat:Int)]).map (lfK .u8)=(l0.map (lfK .u8))++[((lfK .u8) (b0.toNat:Int))])))<|
 .grd ((l0.length+[(b0.toNat:Int)].length)*1≤140737488355328) fun h1=>
 .say [] (ok1 (by simpa using h1:((l0.map (lfK .u8)).length+[((lfK .u8) (b0.toNat:Int))].length)*1≤140737488355328))<|
 .ask (iw p_v.fText v0) fun b1 h2=>
 .say [.byt b1] (ok1 (dL h2))<|
 .iB ((b1.toNat:Int)==0) (.say [.rows (((l0++[(b0.toNat:Int)])++[(255:Int)]).map (lfK .u8))] (ok1 (by simp[lfI,lfK]:((l0++[(b0.toNat:Int)])++[(255:Int)]).map (lfK .u8)=((l0++[(b0.toNat:Int)]).map (lfK .u8))++[((lfK .u8) (255:Int))]))<|
 .grd (((l0++[(b0.toNat:Int)]).length+[(255:Int)].length)*1≤140737488355328) fun h3=>
 .say [] (ok1 (by simpa using h3:(((l0++[(b0.toNat:Int)]).map (lfK .u8)).length+[((lfK .u8) (255:Int))].length)*1≤140737488355328))<|
 .ret ⟨[],[0,3,45,46],[(7,3)],4⟩ ((l0++[(b0.toNat:Int)])++[(255:Int)]))<|
 .ret ⟨[],[0,3,45,46],[(5,3)],4⟩ (l0++[(b0.toNat:Int)])
def xW(R_:kU)(p_v:ah):(Int×(List Int))→Mo ((Int×(List Int))⊕((List Int))):=fun(v0,l0)=>
 .iB (decide ((v0:Int)<(p_v.fText.size:Int))) (.jk Tryz.f105 1 [1,1,0,1,0,1,1,1,0,0,1,0,0,1,1,0] 14 (fun r_=>⟨[(0,.own 3),(3,.ptr 1 0),(45,.i_ (p_v.fText.size:Int)),(46,.i_ v0)],[.dead,aZ p_v,.dead,.row 5 1 (r_.map (lfK .u8))]⟩) ⟨[(0,.own 3),(3,.ptr 1 0),(45,.i_ (p_v.fText.size:Int)),(46,.i_ v0)],[.dead,aZ p_v,.dead,.row 5 1 (l0.map (lfK .u8))]⟩ (NT R_ l0 p_v v0) fun r0=>
 .rt [0,3,45,46] 4 (.inl (IntKind.wrap .i64 (v0+1),r0)))<|
 .ret ⟨[.kill 1],[0],[],4⟩ (.inr (l0))
def aem(R_:kU)(p_v:ah)(v0:Int)(l0:List Int):Option (((List Int))):=bP (fun v_=>(xW R_ p_v v_).den) FU (v0,l0)
def xX(R_:kU)(p_v:ah):(Int×(List Int))→Mo ((Int×(List Int))⊕((List Int))):=fun(v0,l0)=>
 .iB (decide ((v0:Int)<(p_v.aU.length:Int))) (.gx ah.aS p_v.aU v0 fun x0 _=>
 .say [] (ok1 (by simp[lfI,lfK]:(l0++[(1:Int)]).map (lfK .u8)=(l0.map (lfK .u8))++[((lfK .u8) (1:Int))]))<|
 .grd ((l0.length+[(1:Int)].length)*1≤140737488355328) fun h0=>
 .say [] (ok1 (by simpa using h0:((l0.map (lfK .u8)).length+[((lfK .u8) (1:Int))].length)*1≤140737488355328))<|
 .ask (R_.m2 x0 (l0++[(1:Int)])) fun r0 h1=>
 .say [.iD (.q 0 (.q 3 (.l 1 (.l 2 (.l 4 (.q 5 .fin)))))) (some 4) [3,6] [.at_ 54 1,.resv 2,.slot 5,.rows ((l0++[(1:Int)]).map (lfK .u8)),.slot 6,.at_ 54 4,.tod 80,.fZ [6] (.own 1) [.dead,.row 5 1 (r0.map (lfK .u8))]] [0,71,72,73] 8 [(0,.own 7),(71,.lf (.rows 5 (p_v.aU.map ah.lf))),(72,.i_ (p_v.aU.length:Int)),(73,.i_ v0)] [.dead,.dead,.dead,.dead,.box 25 (.agg [.i_ x0.au,.i_ x0.dD,.lf (.str x0.fText),.lf (.rows 5 (x0.aU.map ah.lf)),.lf (.rows 6 (x0.aT.map ay.lf))]),.row 5 1 [((lfK .u8) (1:Int))],.dead,.row 5 1 (r0.map (lfK .u8))]] (okc (R_.ok2 _ _ _ h1) (ok1 (rf_ ⟨[(0,.own 7),(71,.lf (.rows 5 (p_v.aU.map ah.lf))),(72,.i_ (p_v.aU.length:Int)),(73,.i_ v0)],[.dead,.dead,.dead,.dead,.box 25 (.agg [.i_ x0.au,.i_ x0.dD,.lf (.str x0.fText),.lf (.rows 5 (x0.aU.map ah.lf)),.lf (.rows 6 (x0.aT.map ay.lf))]),.row 5 1 [((lfK .u8) (1:Int))],.dead,.row 5 1 (r0.map (lfK .u8))]⟩)))<|
 .ret ⟨[],[0,71,72,73],[(7,3)],4⟩ (.inl (IntKind.wrap .i64 (v0+1),r0)))<|
 .rt [0] 4 (.inr (l0))
def aen(R_:kU)(p_v:ah)(v0:Int)(l0:List Int):Option (((List Int))):=bP (fun v_=>(xX R_ p_v v_).den) FU (v0,l0)
def xY(R_:kU)(p_v:ah):(Int×(List Int))→Mo ((Int×(List Int))⊕((List Int))):=fun(v0,l0)=>
 .iB (decide ((v0:Int)<(p_v.aT.length:Int))) (.gx ay.aS p_v.aT v0 fun x0 _=>
 .say [.rows ((l0++[(1:Int)]).map (lfK .u8)),.rows (((l0++[(1:Int)])++(numsOf (x0.fName:ByteArray))).map (lfK .u8))] (ok1 (by simp[lfI,lfK]:(l0++[(1:Int)]).map (lfK .u8)=(l0.map (lfK .u8))++[((lfK .u8) (1:Int))]))<|
 .grd ((l0.length+[(1:Int)].length)*1≤140737488355328) fun h0=>
 .say [] (okc (by simpa using h0:((l0.map (lfK .u8)).length+[((lfK .u8) (1:Int))].length)*1≤140737488355328) (ok1 (by first|(rw[List.map_append,eF];done)|(rw[eF,List.nil_append];done)|simp[lfI,lfK,eF]:((l0++[(1:Int)])++(numsOf (x0.fName:ByteArray))).map (lfK .u8)=((l0++[(1:Int)]).map (lfK .u8))++oP (x0.fName:ByteArray))))<|
 .grd ((l0++[(1:Int)]).length+(x0.fName:ByteArray).size≤140737488355328) fun h1=>
 .say [] (okc (by simpa using h1:((l0++[(1:Int)]).map (lfK .u8)).length+(x0.fName:ByteArray).size≤140737488355328) (ok1 (by simp[lfI,lfK]:(((l0++[(1:Int)])++(numsOf (x0.fName:ByteArray)))++[(0:Int)]).map (lfK .u8)=(((l0++[(1:Int)])++(numsOf (x0.fName:ByteArray))).map (lfK .u8))++[((lfK .u8) (0:Int))])))<|
 .grd ((((l0++[(1:Int)])++(numsOf (x0.fName:ByteArray))).length+[(0:Int)].length)*1≤140737488355328) fun h2=>
 .say [] (ok1 (by simpa using h2:((((l0++[(1:Int)])++(numsOf (x0.fName:ByteArray))).map (lfK .u8)).length+[((lfK .u8) (0:Int))].length)*1≤140737488355328))<|
 .ask (R_.m2 x0.fValue (((l0++[(1:Int)])++(numsOf (x0.fName:ByteArray)))++[(0:Int)])) fun r0 h3=>
 .say [.iD (.q 0 (.q 3 (.q 4 (.l 1 (.l 2 (.l 5 (.q 6 .fin))))))) (some 5) [7,9] [.at_ 72 1,.resv 2,.slot 8,.rows ((((l0++[(1:Int)])++(numsOf (x0.fName:ByteArray)))++[(0:Int)]).map (lfK .u8)),.slot 9,.at_ 72 5,.tod 106,.fZ [9] (.own 1) [.dead,.row 5 1 (r0.map (lfK .u8))]] [0,89,90,91] 11 [(0,.own 10),(89,.lf (.rows 6 (p_v.aT.map ay.lf))),(90,.i_ (p_v.aT.length:Int)),(91,.i_ v0)] [.dead,.dead,.dead,.dead,.box 115 (.agg ((ay.lf1 x0).map AV.lf)),.row 5 1 [((lfK .u8) (1:Int))],.dead,.dead,.row 5 1 [((lfK .u8) (0:Int))],.dead,.row 5 1 (r0.map (lfK .u8))]] (okc (R_.ok2 _ _ _ h3) (ok1 (rf_ ⟨[(0,.own 10),(89,.lf (.rows 6 (p_v.aT.map ay.lf))),(90,.i_ (p_v.aT.length:Int)),(91,.i_ v0)],[.dead,.dead,.dead,.dead,.box 115 (.agg ((ay.lf1 x0).map AV.lf)),.row 5 1 [((lfK .u8) (1:Int))],.dead,.dead,.row 5 1 [((lfK .u8) (0:Int))],.dead,.row 5 1 (r0.map (lfK .u8))]⟩)))<|
 .ret ⟨[],[0,89,90,91],[(10,3)],4⟩ (.inl (IntKind.wrap .i64 (v0+1),r0)))<|
 .rt [0] 4 (.inr (l0))
def aeo(R_:kU)(p_v:ah)(v0:Int)(l0:List Int):Option (((List Int))):=bP (fun v_=>(xY R_ p_v v_).den) FU (v0,l0)
def NU(R_:kU)(p_s0:List Int)(p_v:ah):Mo (((List Int))):=
 .jk Tryz.f105 1 [1,1,0,1,0,0,1] 1 (fun r_=>⟨[(0,.own 3),(3,.ptr 1 0),(19,.i_ p_v.au),(20,.b_ r_)],[.dead,aZ p_v,.dead,.row 5 1 ((p_s0++[IntKind.wrap .u8 p_v.au]).map (lfK .u8))]⟩) ⟨[(0,.own 3),(3,.ptr 1 0),(19,.i_ p_v.au),(20,.lf (.bool (p_v.au==3)))],[.dead,aZ p_v,.dead,.row 5 1 ((p_s0++[IntKind.wrap .u8 p_v.au]).map (lfK .u8))]⟩ (VO R_ p_s0 p_v) fun r0=>
 .iB (r0) (.l1m [.kill 1] Tryz.f105 1 [1,1,0,1,0,1,0,1,1,0] 0 (.exit 1) (fun(v0,l0)=>⟨[(0,.own 3),(5,.lf (.int .u64 (dI .xor .u64 (IntKind.wrap .u64 p_v.dD) 9223372036854775808))),(6,.i_ v0)],[.dead,.dead,.dead,.row 5 1 (l0.map (lfK .u8))]⟩) (fun r_=>⟨[(0,.own 3)],[.dead,.dead,.dead,.row 5 1 (r_.map (lfK .u8))]⟩) (ael R_ p_v 56 (p_s0++[IntKind.wrap .u8 p_v.au])) (AQ R_ p_v) (56,(p_s0++[IntKind.wrap .u8 p_v.au])) fun r1=>
 .rt [0] 4 (r1))<|
 .jk Tryz.f105 1 [1,1,0,1,0,1,1,0,1] 1 (fun r_=>⟨[(0,.own 3),(3,.ptr 1 0),(19,.i_ p_v.au),(39,.b_ r_)],[.dead,aZ p_v,.dead,.row 5 1 ((p_s0++[IntKind.wrap .u8 p_v.au]).map (lfK .u8))]⟩) ⟨[(0,.own 3),(3,.ptr 1 0),(19,.i_ p_v.au),(39,.lf (.bool (p_v.au==4)))],[.dead,aZ p_v,.dead,.row 5 1 ((p_s0++[IntKind.wrap .u8 p_v.au]).map (lfK .u8))]⟩ (NS R_ p_s0 p_v) fun r2=>
 .iB (r2) (.l1m [] Tryz.f105 1 [1,1,0,1,0,1,1,1,0,0,1,0] 0 (.exit 3) (fun(v1,l1)=>⟨[(0,.own 3),(3,.ptr 1 0),(45,.i_ (p_v.fText.size:Int)),(46,.i_ v1)],[.dead,aZ p_v,.dead,.row 5 1 (l1.map (lfK .u8))]⟩) (fun r_=>⟨[(0,.own 3)],[.dead,.dead,.dead,.row 5 1 (r_.map (lfK .u8))]⟩) (aem R_ p_v 0 (p_s0++[IntKind.wrap .u8 p_v.au])) (xW R_ p_v) (0,(p_s0++[IntKind.wrap .u8 p_v.au])) fun r3=>
 .say [.rows ((r3++[(0:Int),(0:Int)]).map (lfK .u8))] (ok1 (by simp[lfI,lfK]:(r3++[(0:Int),(0:Int)]).map (lfK .u8)=(r3.map (lfK .u8))++[((lfK .u8) (0:Int)),((lfK .u8) (0:Int))]))<|
 .grd ((r3.length+[(0:Int),(0:Int)].length)*1≤140737488355328) fun h0=>
 .say [] (ok1 (by simpa using h0:((r3.map (lfK .u8)).length+[((lfK .u8) (0:Int)),((lfK .u8) (0:Int))].length)*1≤140737488355328))<|
 .ret ⟨[],[0],[(5,3)],4⟩ (r3++[(0:Int),(0:Int)]))<|
 .iB (p_v.au==6) (.nu p_v.aU ah.lf<|
 .l1m [.kill 1] Tryz.f105 1 [1,1,0,1,0,1,1,1,1,1,0,0,1,0] 0 (.exit 5) (fun(v2,l2)=>⟨[(0,.own 3),(71,.lf (.rows 5 (p_v.aU.map ah.lf))),(72,.i_ (p_v.aU.length:Int)),(73,.i_ v2)],[.dead,.dead,.dead,.row 5 1 (l2.map (lfK .u8))]⟩) (fun r_=>⟨[(0,.own 3)],[.dead,.dead,.dead,.row 5 1 (r_.map (lfK .u8))]⟩) (aen R_ p_v 0 (p_s0++[IntKind.wrap .u8 p_v.au])) (xX R_ p_v) (0,(p_s0++[IntKind.wrap .u8 p_v.au])) fun r4=>
 .say [.rows ((r4++[(0:Int)]).map (lfK .u8))] (ok1 (by simp[lfI,lfK]:(r4++[(0:Int)]).map (lfK .u8)=(r4.map (lfK .u8))++[((lfK .u8) (0:Int))]))<|
 .grd ((r4.length+[(0:Int)].length)*1≤140737488355328) fun h1=>
 .say [] (ok1 (by simpa using h1:((r4.map (lfK .u8)).length+[((lfK .u8) (0:Int))].length)*1≤140737488355328))<|
 .ret ⟨[],[0],[(5,3)],4⟩ (r4++[(0:Int)]))<|
 .iB (p_v.au==5) (.nu p_v.aT ay.lf<|
 .l1m [.kill 1] Tryz.f105 1 [1,1,0,1,0,1,1,1,1,1,1,1,0,0,1,0] 0 (.exit 7) (fun(v3,l3)=>⟨[(0,.own 3),(89,.lf (.rows 6 (p_v.aT.map ay.lf))),(90,.i_ (p_v.aT.length:Int)),(91,.i_ v3)],[.dead,.dead,.dead,.row 5 1 (l3.map (lfK .u8))]⟩) (fun r_=>⟨[(0,.own 3)],[.dead,.dead,.dead,.row 5 1 (r_.map (lfK .u8))]⟩) (aeo R_ p_v 0 (p_s0++[IntKind.wrap .u8 p_v.au])) (xY R_ p_v) (0,(p_s0++[IntKind.wrap .u8 p_v.au])) fun r5=>
 .say [.rows ((r5++[(0:Int)]).map (lfK .u8))] (ok1 (by simp[lfI,lfK]:(r5++[(0:Int)]).map (lfK .u8)=(r5.map (lfK .u8))++[((lfK .u8) (0:Int))]))<|
 .grd ((r5.length+[(0:Int)].length)*1≤140737488355328) fun h2=>
 .say [] (ok1 (by simpa using h2:((r5.map (lfK .u8)).length+[((lfK .u8) (0:Int))].length)*1≤140737488355328))<|
 .ret ⟨[],[0],[(5,3)],4⟩ (r5++[(0:Int)]))<|
 .ret ⟨[.kill 1],[0],[],4⟩ (p_s0++[IntKind.wrap .u8 p_v.au])
def aii(R_:kU)(p_v:ah)(p_s0:List Int):Mo (List Int):=
 .say [.rows ((p_s0++[IntKind.wrap .u8 p_v.au]).map (lfK .u8))] (ok1 (by simp[lfI,lfK]:(p_s0++[IntKind.wrap .u8 p_v.au]).map (lfK .u8)=(p_s0.map (lfK .u8))++[((lfK .u8) (IntKind.wrap .u8 p_v.au))]))<|
 .grd ((p_s0.length+[IntKind.wrap .u8 p_v.au].length)*1≤140737488355328) fun h0=>
 .say [] (ok1 (by simpa using h0:((p_s0.map (lfK .u8)).length+[((lfK .u8) (IntKind.wrap .u8 p_v.au))].length)*1≤140737488355328))<|
 .jy [.kill 2] Tryz.f105 1 [1,1,0,1] 6 (.normal) (fun r_=>⟨[(0,.own 3)],[.dead,.dead,.dead,.row 5 1 (r_.map (lfK .u8))]⟩) ⟨[(0,.own 3),(3,.ptr 1 0),(19,.i_ p_v.au)],[.dead,aZ p_v,.dead,.row 5 1 ((p_s0++[IntKind.wrap .u8 p_v.au]).map (lfK .u8))]⟩ (NU R_ p_s0 p_v) fun r0=>
 .ret ⟨[.mvn 3],[0],[(4,1)],2⟩ (r0)
theorem al0(R_:kU):KE fun p_v p_s0=>Mo.den (aii R_ p_v p_s0):=fun _ _=>dX Tryz.func105
def oK:Nat→kU
 |0=>{ m1:=fun p_v=>none,ok1:=fun _ _ h=>(by cases h),m2:=fun p_v p_s0=>none,ok2:=fun _ _ _ h=>(by cases h) }
 |n_+1=>{ m1:=fun p_v=>Mo.den (ajx (oK n_) p_v),ok1:=aif (oK n_),m2:=fun p_v p_s0=>Mo.den (aii (oK n_) p_v p_s0),ok2:=al0 (oK n_) }
def Q3(p_v:ah)(p_s0:List Int):Option (List Int):=(oK FU).m2 p_v p_s0
theorem anT:KE Q3:=(oK FU).ok2
def aep(p_desc:List Bool)(p_l:List ah)(v0:Int):(Int×(List Int))→Mo ((Int×(List Int))⊕((List Int))):=fun(v1,l0)=>
 .say [.num l0.length] (ok1 (by simp:l0.length=(l0.map (lfK .u8)).length))<|
 .iB (decide ((v1:Int)<(l0.length:Int))) (.ask (ig l0 v1) fun x0 h0=>
 .say [.row ((lfK .u8) x0)] (okc (iV (fun _=>rfl) h0:(0:Int)≤v1∧v1.toNat<(l0.map (lfK .u8)).length) (ok1 ((dS (fun _=>rfl) h0).2:(l0.map (lfK .u8))[v1.toNat]?=some ((lfK .u8) x0))))<|
 .ask (ig l0 v1) fun x1 h1=>
 .say [.row ((lfK .u8) x1),.rows ((l0.set v1.toNat (IntKind.wrap .u8 (255-x0))).map (lfK .u8))] (okc (iV (fun _=>rfl) h1:(0:Int)≤v1∧v1.toNat<(l0.map (lfK .u8)).length) (okc (by simp[lfI,lfK]:(l0.set v1.toNat (IntKind.wrap .u8 (255-x0))).map (lfK .u8)=(l0.map (lfK .u8)).set v1.toNat ((lfK .u8) (IntKind.wrap .u8 (255-x0)))) (ok1 ((dS (fun _=>rfl) h1).2:(l0.map (lfK .u8))[v1.toNat]?=some ((lfK .u8) x1)))))<|
 .rt [1,6,10,16,17,18] 3 (.inl (IntKind.wrap .i64 (v1+1),l0.set v1.toNat (IntKind.wrap .u8 (255-x0)))))<|
 .rt [1,6,16,17,18] 3 (.inr (l0))
def NV(l0:List Int)(p_desc:List Bool)(p_l:List ah)(v0:Int):Mo (Unit⊕((List Int))):=
 .gx ah.aS p_l v0 fun x0 _=>
 .cl (aie x0) fun r0 _=>
 .iB (!r0) (.ret ⟨[.kill 0],[4,5],[],1⟩ (.inl ()))<|
 .say [.num l0.length,.at_ 22 2,.tod 29] (ok1 (by simp:l0.length=(l0.map (lfK .u8)).length))<|
 .cH [0] (anT x0 l0) fun r1 _=>
 .ask (ig p_desc v0) fun x1 h0=>
 .say [.row (lfB x1)] (ok1 (dS (fun _=>rfl) h0:(0:Int)≤v0∧(p_desc.map lfB)[v0.toNat]?=some (lfB x1)))<|
 .iB (x1) (.l1y [.kill 1] Tryz.f50 0 [1,1,1,0,1,0,0,1,1,0,0,1,1,1,1,1,0,1,0] 0 (.exit 2) (fun(v1,l1)=>⟨[(1,.lf (.rows 1 (p_desc.map lfB))),(6,.own 2),(10,.i_ v1),(16,.lf (.rows 5 (p_l.map ah.lf))),(17,.i_ (p_l.length:Int)),(18,.i_ v0)],[.dead,.dead,.row 5 1 (l1.map (lfK .u8))]⟩) (fun r_=>⟨[(1,.lf (.rows 1 (p_desc.map lfB))),(6,.own 2),(16,.lf (.rows 5 (p_l.map ah.lf))),(17,.i_ (p_l.length:Int)),(18,.i_ v0)],[.dead,.dead,.row 5 1 (r_.map (lfK .u8))]⟩) (aep p_desc p_l v0) ((l0.length:Int),r1) fun r2=>
 .ret ⟨[],[1,6,16,17,18],[(2,0)],3⟩ (.inr (r2)))<|
 .ret ⟨[.kill 1],[1,6,16,17,18],[(2,0)],3⟩ (.inr (r1))
def kV(p_desc:List Bool)(p_l:List ah):(Int×(List Int))→Mo ((Int×(List Int))⊕(Unit⊕((List Int)))):=fun(v0,l0)=>
 .iB (decide ((v0:Int)<(p_l.length:Int))) (.j2 [] Tryz.f50 0 [1,1,1,0,1,0,0,1,1,0] 8 .ret (fun _=>⟨[(4,.lf (.str ⟨#[]⟩)),(5,.i_ 8)],[.dead]⟩) .normal (fun o_=>⟨[(1,.lf (.rows 1 (p_desc.map lfB))),(6,.own 0),(16,.lf (.rows 5 (p_l.map ah.lf))),(17,.i_ (p_l.length:Int)),(18,.i_ v0)],[.row 5 1 (o_.map (lfK .u8)),.dead,.dead]⟩) ⟨[(1,.lf (.rows 1 (p_desc.map lfB))),(6,.own 0),(16,.lf (.rows 5 (p_l.map ah.lf))),(17,.i_ (p_l.length:Int)),(18,.i_ v0)],[.row 5 1 (l0.map (lfK .u8))]⟩ (NV l0 p_desc p_l v0) (fun o0=>
 .rt [4,5] 1 (.inr (.inl ()))) fun o1=>
 .rt [1,6,16,17,18] 1 (.inl (IntKind.wrap .i64 (v0+1),o1)))<|
 .rt [6] 1 (.inr (.inr (l0)))
def KF(p_desc:List Bool)(p_l:List ah)(v0:Int)(l0:List Int):Option (Unit⊕((List Int))):=bP (fun v_=>(kV p_desc p_l v_).den) FU (v0,l0)
def ajy(p_l:List ah)(p_desc:List Bool):Mo (ByteArray×Int):=
 .nu p_l ah.lf<|
 .nu p_desc lfB<|
 .iB ((p_l.length:Int) != (p_desc.length:Int)) (.ret (aX 2) (⟨#[]⟩,1))<|
 .say [.num p_l.length] (okc (ln_ p_l ah.lf) (ok1 (by simp[lfI,lfK]:(([]:List Int).map (lfK .u8))=[])))<|
 .l2m [.mW 6 5 1,.je 0 (([]:List Int).map (lfK .u8))] Tryz.f50 0 [1,1,1,0,1,0] 0 (fun(v0,l0)=>⟨[(1,.lf (.rows 1 (p_desc.map lfB))),(6,.own 0),(16,.lf (.rows 5 (p_l.map ah.lf))),(17,.i_ (p_l.length:Int)),(18,.i_ v0)],[.row 5 1 (l0.map (lfK .u8))]⟩) .ret (fun _=>⟨[(4,.lf (.str ⟨#[]⟩)),(5,.i_ 8)],[.dead]⟩) (.exit 0) (fun o_=>⟨[(6,.own 0)],[.row 5 1 (o_.map (lfK .u8))]⟩) (KF p_desc p_l 0 ([]:List Int)) (kV p_desc p_l) (0,([]:List Int)) (fun o0=>
 .ret (aX 2) (⟨#[]⟩,8)) fun o1=>
 .say [.nums o1] (ok1 (by simp[lfI,lfK]:(o1.map (lfK .u8))=o1.map fun n=>[Lf.int .u8 n]))<|
 .ret (aX 2) (strOfNums o1,0)
def Q57(p_l:List ah)(p_desc:List Bool):Option (ByteArray×Int):=Mo.den (ajy p_l p_desc)
theorem al1(p_l:List ah)(p_desc:List Bool):FV (Q57 p_l p_desc) 50 [.lf (.rows 5 (p_l.map ah.lf)),.lf (.rows 1 (p_desc.map lfB))] (fun r=>.tup [.lf (.str r.1),.i_ r.2]):=bW Tryz.func50
def NW(p_w:ak):Mo (Bool):=
 .oV 6003 (p_w.au==8) [1,3,19] 2 (p_w.au==9)
def Ti(p_w:ak):Option (Bool):=Mo.den (NW p_w)
def NY(p_w:ak)(r0:Bool):Mo (((List ak))):=
 .iB (r0) (.ret ⟨[.kill 0,.kill 1],[3],[],2⟩ (p_w.aY))<|
 .say [] (ok1 (by simp[ak.aS]:[p_w].map ak.lf=[(ak.lf1 p_w)]))<|
 .ret ⟨[.pY 1 ([p_w].map ak.lf),.kill 0],[3],[],2⟩ ([p_w])
def Tj(p_w:ak)(r0:Bool):Option (((List ak))):=Mo.den (NY p_w r0)
def GY(l0:List ByteArray)(r0:((List ak)))(v0:Int)(x0:ak):Mo (Bool):=
 .aV 18003 (x0.au != 2) [4,6,22,23,24,35] 4 (x0.au != 3)
def KG(l0:List ByteArray)(r0:((List ak)))(v0:Int)(x0:ak):Option (Bool):=Mo.den (GY l0 r0 v0 x0)
def zG(l0:List ByteArray)(r0:((List ak)))(v0:Int):Mo (((List ByteArray))):=
 .gx ak.aS r0 v0 fun x0 _=>
 .jp Tryz.f24 0 [1,1,1,1,0,1,0,0,1,1,0,0,1,0,0] 23 [4,6,22,23,24] 4 (.normal) (fun r_=>⟨[(4,.own 2),(6,.ptr 3 0),(22,.lf (.rows 78 (r0.map ak.lf))),(23,.i_ (r0.length:Int)),(24,.i_ v0),(35,.b_ r_)],[.dead,.dead,.row 9 1 (l0.map lfS),.box 49 (.agg ((ak.lf1 x0).map AV.lf))]⟩) ⟨[(4,.own 2),(6,.ptr 3 0),(22,.lf (.rows 78 (r0.map ak.lf))),(23,.i_ (r0.length:Int)),(24,.i_ v0)],[.dead,.dead,.row 9 1 (l0.map lfS),.box 49 (.agg ((ak.lf1 x0).map AV.lf))]⟩ (KG l0 r0 v0 x0) (jW (by kernel_rfl)) fun r1 _=>
 .iB (r1) (.rt [4,22,23,24] 3 (l0))<|
 .say [.at_ 22 5,.pY 5 ([ah.mk 4 0 x0.fC [] [],x0.fO].map ah.lf),.pY 6 ([false,false].map lfB)] (okc (by simp[ah.aS]:[ah.mk 4 0 x0.fC [] [],x0.fO].map ah.lf=[(ah.lf1 (ah.mk 4 0 x0.fC [] [])),(ah.lf1 x0.fO)]) (ok1 (by simp[lfB]:[false,false].map lfB=[(lfB false),(lfB false)])))<|
 .cl (al1 [ah.mk 4 0 x0.fC [] [],x0.fO] [false,false]) fun r2 _=>
 .iB (r2.2==0) (.say [.rows ((l0++[r2.1]).map lfS)] (ok1 (by simp[lfS]:(l0++[r2.1]).map lfS=(l0.map lfS)++[(lfS r2.1)]))<|
 .grd ((l0.length+[r2.1].length)*16≤140737488355328) fun h0=>
 .say [] (ok1 (cp_ lfS h0))<|
 .ret ⟨[],[4,22,23,24],[(8,2)],3⟩ (l0++[r2.1]))<|
 .rt [4,22,23,24] 3 (l0)
def AU(l0:List ByteArray)(r0:((List ak)))(v0:Int):Option (((List ByteArray))):=Mo.den (zG l0 r0 v0)
def pz(r0:((List ak))):(Int×(List ByteArray))→Mo ((Int×(List ByteArray))⊕((List ByteArray))):=fun(v0,l0)=>
 .iB (decide ((v0:Int)<(r0.length:Int))) (.jp Tryz.f24 0 [1,1,1,1,0,1,0,0,1,1,0] 8 [4,22,23,24] 3 (.normal) (fun r_=>⟨[(4,.own 2),(22,.lf (.rows 78 (r0.map ak.lf))),(23,.i_ (r0.length:Int)),(24,.i_ v0)],[.dead,.dead,.row 9 1 (r_.map lfS)]⟩) ⟨[(4,.own 2),(22,.lf (.rows 78 (r0.map ak.lf))),(23,.i_ (r0.length:Int)),(24,.i_ v0)],[.dead,.dead,.row 9 1 (l0.map lfS)]⟩ (AU l0 r0 v0) (jW (by kernel_rfl)) fun r1 _=>
 .rt [4,22,23,24] 3 (.inl (IntKind.wrap .i64 (v0+1),r1)))<|
 .rt [4] 3 (.inr (l0))
def KH(r0:((List ak)))(v0:Int)(l0:List ByteArray):Option (((List ByteArray))):=bP (fun v_=>(pz r0 v_).den) FU (v0,l0)
def ajz(p_w:ak):Mo (List ByteArray):=
 .jp Tryz.f24 0 [1,1,0,0] 11 [1,3] 2 (.normal) (fun r_=>⟨[(1,.ptr 0 0),(3,.own 1),(19,.b_ r_)],[cu p_w,.row 49 78 [(ak.lf1 p_w)]]⟩) ⟨[(1,.ptr 0 0),(3,.own 1)],[cu p_w,.row 49 78 [(ak.lf1 p_w)]]⟩ (Ti p_w) (jW (by kernel_rfl)) fun r0 _=>
 .jp Tryz.f24 0 [1,1,0,1] 1 [1,3,19] 2 (.normal) (fun r_=>⟨[(3,.lf (.rows 78 (r_.map ak.lf)))],[.dead,.dead]⟩) ⟨[(1,.ptr 0 0),(3,.own 1),(19,.b_ r0)],[cu p_w,.row 49 78 [(ak.lf1 p_w)]]⟩ (Tj p_w r0) (jW (by kernel_rfl)) fun r1 _=>
 .say [.num r1.length] (okc (ln_ r1 ak.lf) (ok1 (by simp[lfS]:(([]:List ByteArray).map lfS)=[])))<|
 .l1m [.mW 4 9 1,.je 2 (([]:List ByteArray).map lfS)] Tryz.f24 0 [1,1,1,1,0,1,0] 0 (.exit 0) (fun(v0,l0)=>⟨[(4,.own 2),(22,.lf (.rows 78 (r1.map ak.lf))),(23,.i_ (r1.length:Int)),(24,.i_ v0)],[.dead,.dead,.row 9 1 (l0.map lfS)]⟩) (fun r_=>⟨[(4,.own 2)],[.dead,.dead,.row 9 1 (r_.map lfS)]⟩) (KH r1 0 ([]:List ByteArray)) (pz r1) (0,([]:List ByteArray)) fun r2=>
 .cH [2] (agI r2) fun r3 _=>
 .ask (agJ r3) fun r4 h0=>
 .say [.fZ [2] (.own 1) [.dead,.row 9 1 (r4.map lfS)],.at_ 0 0,.frz 3] (ok1 (agK _ _ h0))<|
 .ret (aX 1) (r4)
def Q22(p_w:ak):Option (List ByteArray):=Mo.den (ajz p_w)
theorem aer(p_w:ak):FV (Q22 p_w) 24 [.dat (ak.lf1 p_w)] (fun r=>.lf (.rows 1 (r.map lfS))):=bW Tryz.func24
def uf(p_a:bG)(p_b:bG):Mo (Bool):=
 .iG 4005 (decide ((p_b.rD:Int)<p_a.rD)) (.ret ⟨[.kill 0,.kill 1],[4,23],[],2⟩ (true))<|
 .iG 4011 (p_a.rD==p_b.rD) (.ret ⟨[.kill 0,.kill 1],[4,23],[],2⟩ (decide ((p_b.eU:Int)≤p_a.eU)))<|
 .ret ⟨[.kill 0,.kill 1],[4,23],[],2⟩ (false)
def ug(r0:Bool):Mo (Unit):=
 .rt [4] 2 ()
def aes(p_a:bG)(p_b:bG):Mo (Bool):=
 .sk Tryz.f19 0 [1,0] 0 19 1 (fun r_=>⟨[(4,.b_ false),(23,.b_ r_)],[.dead,.dead]⟩) ⟨[(2,.ptr 0 0),(3,.ptr 1 0),(4,.b_ false)],[jB p_a,jB p_b]⟩ (uf p_a p_b) fun r0=>
 .sk Tryz.f19 0 [1,0] 19 1 1 (fun r_=>⟨[(4,.b_ r0)],[.dead,.dead]⟩) ⟨[(4,.b_ false),(23,.b_ r0)],[.dead,.dead]⟩ (ug r0) fun r1=>
 .ret (aX 1) (r0)
def al2(p_a:bG)(p_b:bG):Option (Bool):=Mo.den (aes p_a p_b)
theorem KI(p_a:bG)(p_b:bG):FV (al2 p_a p_b) 19 [.dat (bG.lf1 p_a),.dat (bG.lf1 p_b)] .b_:=bW Tryz.func19
theorem apo:EM (opsOf (Code.sub (bodyC Tryz.f13) [1,1,1,1,1,1,0])) [(true,0),(false,1),(true,2),(true,3),(false,4),(false,5),(true,6),(true,7),(true,8),(true,9),(false,10),(true,11),(true,12),(true,13),(true,14),(true,15),(true,16),(true,17),(true,18),(true,19),(true,20),(true,21),(true,22),(true,23),(true,24),(true,25),(true,26),(true,27),(false,28),(true,29),(true,30),(true,31),(true,32),(true,33),(true,34),(true,35),(true,36),(true,37),(true,38),(true,39),(true,40),(false,41),(true,42),(true,43),(true,44),(true,45),(true,46),(false,47),(true,48),(true,49),(true,50),(true,51),(true,52),(true,53),(false,54),(true,55),(true,56),(true,57),(true,58),(true,59),(true,60),(false,61),(true,62),(true,63),(true,65),(false,64),(false,66),(true,67),(true,68),(true,69)] none=true:=by kernel_rfl
def al3 :Mo (Bool):=
 .cl (Jv 5 1 1) fun r0 _=>
 .cl (JJ r0) fun r1 _=>
 .cl (Vp r1.1) fun r2 _=>
 .cl (Vp ⟨#[]⟩) fun r3 _=>
 .ask (anJ (bG.mk 1 5 ⟨#[]⟩ 0 (ak.FZ ak.z 1))) fun r4 h0=>
 .say [.res (.tup [.lf (.str r4.1),.i_ r4.2]),.qY [(true,0),(false,1),(true,2),(true,3),(false,4),(false,5),(true,6),(true,7),(true,8),(true,9),(false,10),(true,11),(true,12),(true,13),(true,14),(true,15),(true,16),(true,17),(true,18),(true,19),(true,20),(true,21),(true,22),(true,23),(true,24),(true,25),(true,26),(true,27),(false,28),(true,29),(true,30),(true,31),(true,32),(true,33),(true,34),(true,35),(true,36),(true,37),(true,38),(true,39),(true,40),(false,41),(true,42),(true,43),(true,44),(true,45),(true,46),(false,47),(true,48),(true,49),(true,50),(true,51),(true,52),(true,53),(false,54),(true,55),(true,56),(true,57),(true,58),(true,59),(true,60),(false,61),(true,62),(true,63),(true,65),(false,64),(false,66),(true,67),(true,68),(true,69)] none []] (okc (JJ _ _ h0) (ok1 apo))<|
 .cl (Az r0) fun r5 _=>
 .iG 14003 (r5==0) (.cl (Jv 5 2 1) fun r6 _=>
 .cl (Az r6) fun r7 _=>
 .iG 14008 (r7==8) (.cl (Az (bG.mk (-1) 0 ⟨#[]⟩ 0 ak.z)) fun r8 _=>
 .iG 14013 (r8==24) (.iG 14017 (r1.2==0) (.iG 14021 (r2.2==0) (.iG 14025 (r3.2==4) (.cl (Vy r2.1 r0) fun r9 _=>
 .iG 14030 (r9) (.iG 14034 (r4.2==0) (.iG 14039 (decide ((5:Int)<(r4.1.size:Int))) (.grd ((0:Int)≤0∧(0:Int)≤5∧5≤(r4.1.size:Int)) fun h1=>
 .say [] (ok1 h1)<|
 .iG 14044 (decide ((r4.1.extract (0:Int).toNat (5:Int).toNat:ByteArray)=(⟨#[2,10,0,0,2]⟩:ByteArray))) (.ask (aib r0.dA) fun r10 h2=>
 .say [.res (.lf (.rows 78 (r10.map ak.lf))),.num r10.length] (okc (VL _ _ h2) (ok1 (ln_ r10 ak.lf)))<|
 .iG 14051 ((r10.length:Int)==1) (.ask (Q22 r0.dA) fun r11 h3=>
 .say [.res (.lf (.rows 1 (r11.map lfS))),.num r11.length] (okc (aer _ _ h3) (ok1 (ln_ r11 lfS)))<|
 .iG 14058 ((r11.length:Int)==1) (.cl (KI r0 r0) fun r12 _=>
 .iG 14063 (r12) (.cl (Jv 4 1 1) fun r13 _=>
 .cl (KI r13 r0) fun r14 _=>
 .ret (aX 1) (!r14))<|
 .stop)<|
 .stop)<|
 .stop)<|
 .stop)<|
 .stop)<|
 .stop)<|
 .stop)<|
 .stop)<|
 .stop)<|
 .stop)<|
 .stop)<|
 .stop)<|
 .stop
def anU :Option (Bool):=Mo.den (al3 )
theorem VP:FV (anU ) 13 [] .b_:=bW Tryz.func13
def aeu(p_w:ak):Mo (Bool):=
 .nu p_w.aY ak.lf<|
 .ret (aX 1) (decide ((300:Int)<(p_w.aY.length:Int)))
def anV(p_w:ak):Option (Bool):=Mo.den (aeu p_w)
theorem aij(p_w:ak):FV (anV p_w) 28 [.dat (ak.lf1 p_w)] .b_:=bW Tryz.func28
def xZ(p_s:List ak):(Int)→Mo ((Int)⊕(Int)⊕Unit):=fun(v0)=>
 .iB (decide ((v0:Int)<(p_s.length:Int))) (.gx ak.aS p_s v0 fun x0 _=>
 .cl (aij x0) fun r0 _=>
 .iB (r0) (.rt [4] 0 (.inr (.inl (v0))))<|
 .rt [0,1,7,8] 0 (.inl (IntKind.wrap .i64 (v0+1))))<|
 .rt [] 0 (.inr (.inr (())))
def Tn(p_s:List ak)(v0:Int):Option ((Int)⊕Unit):=bP (fun v_=>(xZ p_s v_).den) FU (v0)
def ajA(p_s:List ak):Mo (Int):=
 .nu p_s ak.lf<|
 .l2m [] Tryz.f55 0 [1,0,1,0] 0 (fun(v0)=>⟨[(0,.lf (.rows 78 (p_s.map ak.lf))),(1,.raw (.func (.func 28) #[] #[])),(7,.i_ (p_s.length:Int)),(8,.i_ v0)],[]⟩) .ret (fun o_=>⟨[(4,.i_ o_)],[]⟩) (.exit 0) (fun _=>⟨[],[]⟩) (Tn p_s 0) (xZ p_s) (0) (fun o0=>
 .rt [0] 0 (o0)) fun o1=>
 .rt [0] 0 ((-1))
def Q48(p_s:List ak):Option (Int):=Mo.den (ajA p_s)
theorem al4(p_s:List ak):FH (Q48 p_s) 55 [.lf (.rows 78 (p_s.map ak.lf)),.raw (.func (.func 28) #[] #[])] [] .i_ (fun _=>[]):=dX Tryz.func55
def aev(p_s:List ak):Mo (Bool):=
 .cH [] (al4 p_s) fun r0 _=>
 .rt [0] 0 (decide ((0:Int)≤r0))
def anW(p_s:List ak):Option (Bool):=Mo.den (aev p_s)
theorem aik(p_s:List ak):FH (anW p_s) 27 [.lf (.rows 78 (p_s.map ak.lf)),.raw (.func (.func 28) #[] #[])] [] .b_ (fun _=>[]):=dX Tryz.func27
def aew(p_e:bG):Mo (Bool):=
 .nu p_e.dA.aY ak.lf<|
 .iG 4005 (decide (((p_e.dA.aY.length:Int):Int)≤300)) (.cH [] (aik p_e.dA.aY) fun r0 _=>
 .ret (aX 1) (!r0))<|
 .ret (aX 1) (false)
def al5(p_e:bG):Option (Bool):=Mo.den (aew p_e)
theorem ail(p_e:bG):FV (al5 p_e) 10 [.dat (bG.lf1 p_e)] .b_:=bW Tryz.func10
def NZ(p_p:List ByteArray):Mo (Bool):=
 .nu p_p lfS<|
 .iG 4003 (decide (((p_p.length:Int):Int)<1)) (.rt [0,11] 0 (true))<|
 .nu p_p lfS<|
 .rt [0,11] 0 (decide ((16:Int)<(p_p.length:Int)))
def N7(p_p:List ByteArray):(Int)→Mo ((Int)⊕(Unit⊕Unit)):=fun(v0)=>
 .nu p_p lfS<|
 .iB (decide ((v0:Int)<(p_p.length:Int))) (.gx lS_ p_p v0 fun x0 _=>
 .cl (vI x0) fun r0 _=>
 .iB (!r0) (.rt [2] 0 (.inr (.inl ())))<|
 .rt [0,3] 0 (.inl (IntKind.wrap .i64 (v0+1))))<|
 .rt [] 0 (.inr (.inr (())))
def ajB(p_p:List ByteArray):Mo (Bool):=
 .jk Tryz.f63 0 [1,0,0] 9 (fun r_=>⟨[(0,.lf (.rows 1 (p_p.map lfS))),(11,.b_ r_)],[]⟩) ⟨[(0,.lf (.rows 1 (p_p.map lfS)))],[]⟩ (NZ p_p) fun r0=>
 .iB (r0) (.ret (aX 1) (false))<|
 .l2 Tryz.f63 0 [1,1,0,1,0] 0 (fun(v0)=>⟨[(0,.lf (.rows 1 (p_p.map lfS))),(3,.i_ v0)],[]⟩) .ret (fun _=>⟨[(2,.b_ false)],[]⟩) (.exit 0) (fun _=>⟨[],[]⟩) (N7 p_p) (0) (fun o0=>
 .ret (aX 1) (false)) fun o1=>
 .ret (aX 1) (true)
def Q68(p_p:List ByteArray):Option (Bool):=Mo.den (ajB p_p)
theorem DJ(p_p:List ByteArray):FV (Q68 p_p) 63 [.lf (.rows 1 (p_p.map lfS))] .b_:=bW Tryz.func63
def aex(p_s:ByteArray):Mo (Bool):=
 .say [.at_ 4 2,.pY 0 ([p_s].map lfS)] (ok1 (by simp[lfS]:[p_s].map lfS=[(lfS p_s)]))<|
 .cl (DJ [p_s]) fun r0 _=>
 .ret (aX 1) (r0)
def al6(p_s:ByteArray):Option (Bool):=Mo.den (aex p_s)
theorem AX(p_s:ByteArray):FV (al6 p_s) 31 [.lf (.str p_s)] .b_:=bW Tryz.func31
def Tq(p_kind:Int):Mo (Bool):=
 .iG 4002 (decide ((2:Int)≤p_kind)) (.ret (aX 1) (decide ((p_kind:Int)≤7)))<|
 .ret (aX 1) (false)
def al7(p_kind:Int):Option (Bool):=Mo.den (Tq p_kind)
theorem VQ(p_kind:Int):FV (al7 p_kind) 49 [.i_ p_kind] .b_:=bW Tryz.func49
def aey(p_kind:Int):Mo (Bool):=
 .cl (VQ p_kind) fun r0 _=>
 .iG 4002 (r0) (.ret (aX 1) (p_kind != 4))<|
 .ret (aX 1) (false)
def al8(p_kind:Int):Option (Bool):=Mo.den (aey p_kind)
theorem VT(p_kind:Int):FV (al8 p_kind) 66 [.i_ p_kind] .b_:=bW Tryz.func66
def Tt(p_kind:Int):Mo (Bool):=
 .iG 4002 (p_kind==2) (.ret (aX 1) (true))<|
 .ret (aX 1) (p_kind==3)
def aez(p_kind:Int):Option (Bool):=Mo.den (Tt p_kind)
theorem AY(p_kind:Int):FV (aez p_kind) 53 [.i_ p_kind] .b_:=bW Tryz.func53
def GZ(p_d:bU):Mo (Bool):=
 .iG 4003 (!decide ((p_d.fName:ByteArray)=(⟨#[]⟩:ByteArray))) (.rt [1,13] 1 (true))<|
 .nu p_d.dw aQ.lf<|
 .rt [1,13] 1 (decide ((0:Int)<(p_d.dw.length:Int)))
def aeA(p_d:bU):Mo (Bool):=
 .jk Tryz.f121 0 [1,0,0] 9 (fun r_=>⟨[(1,.ptr 0 0),(13,.b_ r_)],[qQ p_d]⟩) ⟨[(1,.ptr 0 0)],[qQ p_d]⟩ (GZ p_d) fun r0=>
 .iB (r0) (.ret (aX 1) (false))<|
 .say [.at_ 10 1,.norm 1] ok0<|
 .ask (Q42 p_d (aI.mk ⟨#[]⟩ false true)) fun r1 h0=>
 .say [.fZ [1] (.tup []) [dQ r1],.at_ 12 1,.tod 18,.norm 2] (ok1 (SE _ _ _ h0))<|
 .cH [2] (SE (bU.mk ⟨#[]⟩ [] aH.z 0 0) (aI.mk ⟨#[]⟩ false true)) fun r2 _=>
 .ret (aX 1) (decide ((r1.fS:ByteArray)=(r2.fS:ByteArray)))
def al9(p_d:bU):Option (Bool):=Mo.den (aeA p_d)
theorem ain(p_d:bU):FV (al9 p_d) 121 [.dat (bU.lf1 p_d)] .b_:=bW Tryz.func121
def aeB(p_x:aQ):Mo (Bool):=
 .say [.at_ 6 1,.norm 1] ok0<|
 .ask (Q35 p_x (aI.mk ⟨#[]⟩ false true)) fun r0 h0=>
 .say [.fZ [1] (.tup []) [dQ r0],.at_ 8 1,.tod 9,.norm 2] (ok1 (Kt _ _ _ h0))<|
 .cH [2] (Kt aQ.z (aI.mk ⟨#[]⟩ false true)) fun r1 _=>
 .ret (aX 1) (decide ((r0.fS:ByteArray)=(r1.fS:ByteArray)))
def ama(p_x:aQ):Option (Bool):=Mo.den (aeB p_x)
theorem aio(p_x:aQ):FV (ama p_x) 122 [.dat (aQ.lf1 p_x)] .b_:=bW Tryz.func122
def aeC(p_kind:Int):Mo (Bool):=
 .iG 4002 (decide ((9:Int)≤p_kind)) (.ret (aX 1) (decide ((p_kind:Int)≤12)))<|
 .ret (aX 1) (false)
def anX(p_kind:Int):Option (Bool):=Mo.den (aeC p_kind)
theorem VU(p_kind:Int):FV (anX p_kind) 67 [.i_ p_kind] .b_:=bW Tryz.func67
def Tv(p_kind:Int):Mo (Bool):=
 .iG 4002 (p_kind==8) (.ret (aX 1) (true))<|
 .ret (aX 1) (p_kind==9)
def amb(p_kind:Int):Option (Bool):=Mo.den (Tv p_kind)
theorem VW(p_kind:Int):FV (amb p_kind) 65 [.i_ p_kind] .b_:=bW Tryz.func65
def VX(p_w:ak):Mo (aQ):=
 .iB (p_w.au==7) (.ret ⟨[.norm 1],[1,3,4],[],2⟩ (aQ.abh p_w.bf ⟨#[]⟩))<|
 .ret ⟨[.norm 1],[1,3,4],[],2⟩ (p_w.bf)
def VY(p_w:ak)(r0:aQ):Mo (Bool):=
 .cl (VT p_w.au) fun r1 _=>
 .oV 12002 (r1) [1,3,4,18] 2 (decide ((p_w.fC:ByteArray)=(⟨#[]⟩:ByteArray)))
def N8(p_w:ak)(r0:aQ)(r1:Bool):Mo (Bool):=
 .iG 12007 (r1) (.cl (AY p_w.au) fun r2 _=>
 .iG 12010 (r2) (.rt [1,3,4,37] 2 (true))<|
 .cl (vH p_w.fO) fun r3 _=>
 .iG 12014 (r3) (.cl (vH p_w.dG) fun r4 _=>
 .aV 12019 (r4) [1,3,4,37] 2 (!p_w.iQ))<|
 .rt [1,3,4,37] 2 (false))<|
 .rt [1,3,4,37] 2 (false)
def N9(p_w:ak)(r0:aQ)(r1:Bool):Mo (Bool):=
 .iG 12026 (r1) (.iG 12029 (p_w.au==2) (.rt [1,3,4,46] 2 (true))<|
 .cl (vH p_w.aT) fun r2 _=>
 .rt [1,3,4,46] 2 (r2))<|
 .rt [1,3,4,46] 2 (false)
def Oa(p_w:ak)(r0:aQ)(r1:Bool):Mo (Bool):=
 .iG 12035 (r1) (.iG 12038 (p_w.au==4) (.rt [1,3,4,55] 2 (true))<|
 .cl (ain p_w.dh) fun r2 _=>
 .rt [1,3,4,55] 2 (r2))<|
 .rt [1,3,4,55] 2 (false)
def Oc(p_w:ak)(r0:aQ)(r1:Bool):Mo (Bool):=
 .iG 12044 (r1) (.iG 12047 (p_w.au==6) (.ret ⟨[.kill 1],[1,3,63],[],2⟩ (true))<|
 .cl (aio r0) fun r2 _=>
 .ret ⟨[.kill 1],[1,3,63],[],2⟩ (r2))<|
 .ret ⟨[.kill 1],[1,3,63],[],2⟩ (false)
def Oe(p_w:ak)(r0:Bool):Mo (Bool):=
 .iG 12052 (r0) (.cl (VU p_w.au) fun r1 _=>
 .oV 12055 (r1) [1,3,72] 2 (decide ((p_w.nN:ByteArray)=(⟨#[]⟩:ByteArray))))<|
 .rt [1,3,72] 2 (false)
def DK(p_w:ak)(r0:Bool):Mo (Bool):=
 .iG 12061 (r0) (.iG 12064 (p_w.au==10) (.rt [1,3,85] 2 (true))<|
 .oV 12068 (p_w.au==12) [1,3,85] 2 (p_w.eU==0))<|
 .rt [1,3,85] 2 (false)
def DL(p_w:ak)(r0:Bool):Mo (Bool):=
 .iG 12074 (r0) (.cl (VW p_w.au) fun r1 _=>
 .iG 12077 (r1) (.rt [1,3,95] 2 (true))<|
 .nu p_w.aY ak.lf<|
 .rt [1,3,95] 2 ((p_w.aY.length:Int)==0))<|
 .rt [1,3,95] 2 (false)
def DN(p_w:ak)(r0:Bool):Mo (Bool):=
 .iG 12084 (r0) (.iG 12087 (p_w.au==12) (.ret ⟨[.kill 0],[105],[],2⟩ (true))<|
 .nu p_w.dK lfI<|
 .ret ⟨[.kill 0],[105],[],2⟩ ((p_w.dK.length:Int)==0))<|
 .ret ⟨[.kill 0],[105],[],2⟩ (false)
def Og(r0:Bool):Mo (Unit):=
 .rt [2] 2 ()
def amc(p_w:ak):Mo (Bool):=
 .jk Tryz.f64 0 [1,1,1,0,1] 1 (fun r_=>⟨[(1,.ptr 0 0),(3,.i_ p_w.au),(4,.ptr 1 0)],[cu p_w,kQ r_]⟩) ⟨[(1,.ptr 0 0),(3,.i_ p_w.au),(4,.ptr 1 0),(10,.lf (.bool (p_w.au==7)))],[cu p_w,.box 45 (.agg ((aQ.lf1 p_w.bf).map AV.lf))]⟩ (VX p_w) fun r0=>
 .sf Tryz.f64 0 [1,1,1,1,0] 0 7 5 [(1,.ptr 0 0),(3,.i_ p_w.au),(4,.ptr 1 0)] [cu p_w,kQ r0] 18 (VY p_w r0) fun r1=>
 .sb Tryz.f64 0 [1,1,1,1,0] 7 19 5 [(1,.ptr 0 0),(3,.i_ p_w.au),(4,.ptr 1 0)] [cu p_w,kQ r0] 18 37 r1 (N8 p_w r0 r1) fun r2=>
 .sb Tryz.f64 0 [1,1,1,1,0] 26 9 5 [(1,.ptr 0 0),(3,.i_ p_w.au),(4,.ptr 1 0)] [cu p_w,kQ r0] 37 46 r2 (N9 p_w r0 r2) fun r3=>
 .sb Tryz.f64 0 [1,1,1,1,0] 35 9 5 [(1,.ptr 0 0),(3,.i_ p_w.au),(4,.ptr 1 0)] [cu p_w,kQ r0] 46 55 r3 (Oa p_w r0 r3) fun r4=>
 .sk Tryz.f64 0 [1,1,1,1,0] 44 8 5 (fun r_=>⟨[(1,.ptr 0 0),(3,.i_ p_w.au),(63,.b_ r_)],[cu p_w,.dead]⟩) ⟨[(1,.ptr 0 0),(3,.i_ p_w.au),(4,.ptr 1 0),(55,.b_ r4)],[cu p_w,kQ r0]⟩ (Oc p_w r0 r4) fun r5=>
 .sb Tryz.f64 0 [1,1,1,1,0] 52 9 5 [(1,.ptr 0 0),(3,.i_ p_w.au)] [cu p_w,.dead] 63 72 r5 (Oe p_w r5) fun r6=>
 .sb Tryz.f64 0 [1,1,1,1,0] 61 13 5 [(1,.ptr 0 0),(3,.i_ p_w.au)] [cu p_w,.dead] 72 85 r6 (DK p_w r6) fun r7=>
 .sb Tryz.f64 0 [1,1,1,1,0] 74 10 5 [(1,.ptr 0 0),(3,.i_ p_w.au)] [cu p_w,.dead] 85 95 r7 (DL p_w r7) fun r8=>
 .sk Tryz.f64 0 [1,1,1,1,0] 84 10 5 (fun r_=>⟨[(105,.b_ r_)],[.dead,.dead]⟩) ⟨[(1,.ptr 0 0),(3,.i_ p_w.au),(95,.b_ r8)],[cu p_w,.dead]⟩ (DN p_w r8) fun r9=>
 .sk Tryz.f64 0 [1,1,1,1,0] 94 1 5 (fun r_=>⟨[(2,.b_ r9)],[.dead,.dead]⟩) ⟨[(105,.b_ r9)],[.dead,.dead]⟩ (Og r9) fun r10=>
 .ret (aX 1) (r9)
def Q7(p_w:ak):Option (Bool):=Mo.den (amc p_w)
theorem anY(p_w:ak):FV (Q7 p_w) 64 [.dat (ak.lf1 p_w)] .b_:=bW Tryz.func64
theorem apq:EM (opsOf (Code.sub (bodyC Tryz.f68) [1,0,1,0,0,1,0,0,0])) [(true,0),(true,1),(true,2),(true,3),(true,4),(true,5),(true,6),(true,7),(true,8),(true,9),(true,10),(true,11),(true,12),(true,13),(true,14),(true,15),(true,16),(true,17),(true,18),(true,19),(true,20),(true,21),(true,22),(true,23),(true,24),(true,25),(true,26),(true,27)] none=true:=by kernel_rfl
def G5(p_l:List Int)(v0:Int):Mo (Bool):=
 .say [.qY [(true,0),(true,1),(true,2),(true,3),(true,4),(true,5),(true,6),(true,7),(true,8),(true,9),(true,10),(true,11),(true,12),(true,13),(true,14),(true,15),(true,16),(true,17),(true,18),(true,19),(true,20),(true,21),(true,22),(true,23),(true,24),(true,25),(true,26),(true,27)] none []] (ok1 apq)<|
 .gx lI_ p_l v0 fun x0 _=>
 .iG 10005 (decide ((x0:Int)<0)) (.rt [0,3,37] 0 (true))<|
 .gx lI_ p_l v0 fun x1 _=>
 .iG 10012 (decide ((8:Int)≤x1)) (.rt [0,3,37] 0 (true))<|
 .iG 10015 (decide ((0:Int)<v0)) (.gx lI_ p_l (IntKind.wrap .i64 (v0-1)) fun x2 _=>
 .gx lI_ p_l v0 fun x3 _=>
 .rt [0,3,37] 0 (decide ((x3:Int)≤x2)))<|
 .rt [0,3,37] 0 (false)
def G6(p_l:List Int):(Int)→Mo ((Int)⊕(Unit⊕Unit)):=fun(v0)=>
 .nu p_l lfI<|
 .iB (decide ((v0:Int)<(p_l.length:Int))) (.jk Tryz.f68 0 [1,0,1,0,0,1,0,0,0] 15 (fun r_=>⟨[(0,.lf (.rows 1 (p_l.map lfI))),(3,.i_ v0),(37,.b_ r_)],[]⟩) ⟨[(0,.lf (.rows 1 (p_l.map lfI))),(3,.i_ v0)],[]⟩ (G5 p_l v0) fun r0=>
 .iB (r0) (.rt [2] 0 (.inr (.inl ())))<|
 .rt [0,3] 0 (.inl (IntKind.wrap .i64 (v0+1))))<|
 .rt [0] 0 (.inr (.inr (())))
def aeD(p_l:List Int):Mo (Bool):=
 .l2 Tryz.f68 0 [1,0,1,0] 0 (fun(v0)=>⟨[(0,.lf (.rows 1 (p_l.map lfI))),(3,.i_ v0)],[]⟩) .ret (fun _=>⟨[(2,.b_ false)],[]⟩) (.exit 0) (fun _=>⟨[(0,.lf (.rows 1 (p_l.map lfI)))],[]⟩) (G6 p_l) (0) (fun o0=>
 .ret (aX 1) (false)) fun o1=>
 .nu p_l lfI<|
 .ret (aX 1) (decide ((0:Int)<(p_l.length:Int)))
def anZ(p_l:List Int):Option (Bool):=Mo.den (aeD p_l)
theorem aip(p_l:List Int):FV (anZ p_l) 68 [.lf (.rows 1 (p_l.map lfI))] .b_:=bW Tryz.func68
def Oh(p_v:ah):Mo (Bool):=
 .cl (qF p_v) fun r0 _=>
 .aV 4002 (r0) [1,2,9] 1 (p_v.au != 6)
def Oi(p_v:ah)(r0:Bool):Mo (Bool):=
 .aV 4007 (r0) [1,2,14] 1 (p_v.au != 1)
def G7(p_v:ah)(r0:Bool):Mo (Bool):=
 .iG 4012 (r0) (.ret ⟨[.kill 0],[2,19],[],1⟩ (p_v.au != 11))<|
 .ret ⟨[.kill 0],[2,19],[],1⟩ (false)
def aeE(p_v:ah):Mo (Bool):=
 .sf Tryz.f69 0 [1,0] 0 7 1 [(1,.ptr 0 0),(2,.b_ false)] [aZ p_v] 9 (Oh p_v) fun r0=>
 .sb Tryz.f69 0 [1,0] 7 5 1 [(1,.ptr 0 0),(2,.b_ false)] [aZ p_v] 9 14 r0 (Oi p_v r0) fun r1=>
 .sk Tryz.f69 0 [1,0] 12 5 1 (fun r_=>⟨[(2,.b_ false),(19,.b_ r_)],[.dead]⟩) ⟨[(1,.ptr 0 0),(2,.b_ false),(14,.b_ r1)],[aZ p_v]⟩ (G7 p_v r1) fun r2=>
 .sk Tryz.f69 0 [1,0] 17 1 1 (fun r_=>⟨[(2,.b_ r2)],[.dead]⟩) ⟨[(2,.b_ false),(19,.b_ r2)],[.dead]⟩ (fU r2) fun r3=>
 .ret (aX 1) (r2)
def Q41(p_v:ah):Option (Bool):=Mo.den (aeE p_v)
theorem amd(p_v:ah):FV (Q41 p_v) 69 [.dat (ah.lf1 p_v)] .b_:=bW Tryz.func69
def Oj(p_doc:ah):Mo (Bool):=
 .cl (qF p_doc) fun r0 _=>
 .iG 4003 (!r0) (.rt [1,2,13] 2 (true))<|
 .nu p_doc.aT ay.lf<|
 .rt [1,2,13] 2 ((p_doc.aT.length:Int)==0)
def Ol(p_doc:ah)(r0:Bool):Mo (Bool):=
 .iG 4009 (r0) (.rt [1,2,21] 2 (true))<|
 .gx ay.aS p_doc.aT 0 fun x0 _=>
 .rt [1,2,21] 2 (!decide ((x0.fName:ByteArray)=(⟨#[95,105,100]⟩:ByteArray)))
def G8(x0:ay):Mo (Bool):=
 .oV 10003 (x0.fValue.au==6) [2,4,35] 3 (x0.fValue.au==1)
def G9(r0:Bool)(x0:ay):Mo (Bool):=
 .oV 10008 (r0) [2,4,40] 3 (x0.fValue.au==11)
def ajC(p_doc:ah):Mo (ah×Bool):=
 .sf Tryz.f192 0 [1,0,0] 0 9 1 [(1,.ptr 0 0),(2,.ptr 1 0)] [aZ p_doc,.box 25 (.agg [.i_ 0,.i_ 0,.lf (.str ⟨#[]⟩),.bJ 5,.bJ 6])] 13 (Oj p_doc) fun r0=>
 .sb Tryz.f192 0 [1,0,0] 9 8 1 [(1,.ptr 0 0),(2,.ptr 1 0)] [aZ p_doc,.box 25 (.agg [.i_ 0,.i_ 0,.lf (.str ⟨#[]⟩),.bJ 5,.bJ 6])] 13 21 r0 (Ol p_doc r0) fun r1=>
 .iB (r1) (.ret (aX 2) (ah.mk 0 0 ⟨#[]⟩ [] [],false))<|
 .gx ay.aS p_doc.aT 0 fun x0 _=>
 .sy [.kill 0] Tryz.f192 0 [1,1,1,0,0] 0 8 4 (fun r_=>⟨[(2,.ptr 1 0),(4,.ptr 2 0),(35,.b_ r_)],[.dead,.box 25 (.agg [.i_ 0,.i_ 0,.lf (.str ⟨#[]⟩),.bJ 5,.bJ 6]),.box 25 (.agg [.i_ x0.fValue.au,.i_ x0.fValue.dD,.lf (.str x0.fValue.fText),.lf (.rows 5 (x0.fValue.aU.map ah.lf)),.lf (.rows 6 (x0.fValue.aT.map ay.lf))])]⟩) ⟨[(2,.ptr 1 0),(4,.ptr 2 0)],[.dead,.box 25 (.agg [.i_ 0,.i_ 0,.lf (.str ⟨#[]⟩),.bJ 5,.bJ 6]),.box 25 (.agg [.i_ x0.fValue.au,.i_ x0.fValue.dD,.lf (.str x0.fValue.fText),.lf (.rows 5 (x0.fValue.aU.map ah.lf)),.lf (.rows 6 (x0.fValue.aT.map ay.lf))])]⟩ (G8 x0) fun r2=>
 .sb Tryz.f192 0 [1,1,1,0,0] 8 5 4 [(2,.ptr 1 0),(4,.ptr 2 0)] [.dead,.box 25 (.agg [.i_ 0,.i_ 0,.lf (.str ⟨#[]⟩),.bJ 5,.bJ 6]),.box 25 (.agg [.i_ x0.fValue.au,.i_ x0.fValue.dD,.lf (.str x0.fValue.fText),.lf (.rows 5 (x0.fValue.aU.map ah.lf)),.lf (.rows 6 (x0.fValue.aT.map ay.lf))])] 35 40 r2 (G9 r2 x0) fun r3=>
 .iB (r3) (.ret (aX 2) (ah.mk 0 0 ⟨#[]⟩ [] [],false))<|
 .ret (aX 2) (x0.fValue,true)
def Q67(p_doc:ah):Option (ah×Bool):=Mo.den (ajC p_doc)
theorem ame(p_doc:ah):FV (Q67 p_doc) 192 [.dat (ah.lf1 p_doc)] (fun r=>.tup [.dat (ah.lf1 r.1),.b_ r.2]):=bW Tryz.func192
def aeF(p_v:ah):Mo (Int×Int):=
 .cl (Vw p_v) fun r0 _=>
 .ret (aX 2) ((r0.1.size:Int),r0.2)
def amf(p_v:ah):Option (Int×Int):=Mo.den (aeF p_v)
theorem aiq(p_v:ah):FV (amf p_v) 193 [.dat (ah.lf1 p_v)] (fun r=>.tup [.i_ r.1,.i_ r.2]):=bW Tryz.func193
def aeG(p_doc:ah):Mo (Int):=
 .cl (ame p_doc) fun r0 _=>
 .iB (!r0.2) (.ret (aX 1) (8))<|
 .cl (aiq p_doc) fun r1 _=>
 .iB (r1.2 != 0) (.ret (aX 1) (r1.2))<|
 .iB (decide ((16384:Int)<r1.1)) (.ret (aX 1) (2))<|
 .ret (aX 1) (0)
def air(p_doc:ah):Option (Int):=Mo.den (aeG p_doc)
theorem VZ(p_doc:ah):FV (air p_doc) 124 [.dat (ah.lf1 p_doc)] .i_:=bW Tryz.func124
def aeH(p_a:Int)(p_b:Int):Mo (Int):=
 .iB (decide ((p_a:Int)<p_b)) (.ret (aX 1) ((-1)))<|
 .iB (decide ((p_b:Int)<p_a)) (.ret (aX 1) (1))<|
 .ret (aX 1) (0)
def ais(p_a:Int)(p_b:Int):Option (Int):=Mo.den (aeH p_a p_b)
theorem uh(p_a:Int)(p_b:Int):FV (ais p_a p_b) 194 [.i_ p_a,.i_ p_b] .i_:=bW Tryz.func194
def Om(p_a:ByteArray)(p_b:ByteArray)(v0:Int):Mo (Bool):=
 .aV 6004 (decide ((v0:Int)<(p_a.size:Int))) [0,1,5,15] 0 (decide ((v0:Int)<(p_b.size:Int)))
def Oo(p_a:ByteArray)(p_b:ByteArray):(Int)→Mo ((Int)⊕(Int)⊕Unit):=fun(v0)=>
 .jk Tryz.f195 0 [1,0,1,0,0,0,0] 11 (fun r_=>⟨[(0,.lf (.str p_a)),(1,.lf (.str p_b)),(5,.i_ v0),(15,.b_ r_)],[]⟩) ⟨[(0,.lf (.str p_a)),(1,.lf (.str p_b)),(5,.i_ v0)],[]⟩ (Om p_a p_b v0) fun r0=>
 .iB (r0) (.say [.order [(true,0),(true,1),(true,2),(true,3),(true,4),(true,5),(true,6)] none []] ok0<|
 .ask (iw p_a v0) fun b0 h0=>
 .say [.byt b0] (ok1 (dL h0))<|
 .ask (iw p_b v0) fun b1 h1=>
 .say [.byt b1] (ok1 (dL h1))<|
 .iB ((b0.toNat:Int) != (b1.toNat:Int)) (.ask (iw p_a v0) fun b2 h2=>
 .say [] (ok1 (dL h2))<|
 .ask (iw p_b v0) fun b3 h3=>
 .say [] (ok1 (dL h3))<|
 .ask (ais (IntKind.wrap .i64 (b2.toNat:Int)) (IntKind.wrap .i64 (b3.toNat:Int))) fun r1 h4=>
 .say [.iD (.q 0 (.q 1 (.q 2 (.q 3 (.q 4 (.q 5 (.q 6 (.q 7 (.l 8 (.q 9 .fin)))))))))) (some 8) [] [.byt b2,.byt b3,.res (.i_ r1)] [4] 0 [(4,.i_ r1)] []] (okc (uh _ _ _ h4) (ok1 (rf_ ⟨[(4,.i_ r1)],[]⟩)))<|
 .rt [4] 0 (.inr (.inl (r1))))<|
 .rt [0,1,5] 0 (.inl (IntKind.wrap .i64 (v0+1))))<|
 .rt [0,1] 0 (.inr (.inr (())))
def ajD(p_a:ByteArray)(p_b:ByteArray):Mo (Int):=
 .l2 Tryz.f195 0 [1,0,1,0] 0 (fun(v0)=>⟨[(0,.lf (.str p_a)),(1,.lf (.str p_b)),(5,.i_ v0)],[]⟩) .ret (fun o_=>⟨[(4,.i_ o_)],[]⟩) (.exit 0) (fun _=>⟨[(0,.lf (.str p_a)),(1,.lf (.str p_b))],[]⟩) (Oo p_a p_b) (0) (fun o0=>
 .ret (aX 1) (o0)) fun o1=>
 .cl (uh (p_a.size:Int) (p_b.size:Int)) fun r0 _=>
 .ret (aX 1) (r0)
def Q80(p_a:ByteArray)(p_b:ByteArray):Option (Int):=Mo.den (ajD p_a p_b)
theorem aeI(p_a:ByteArray)(p_b:ByteArray):FV (Q80 p_a p_b) 195 [.lf (.str p_a),.lf (.str p_b)] .i_:=bW Tryz.func195
end
end Go.Proofs.YtflpefkohpjjpaaGreatDoor
set_option linter.unusedSimpArgs false
set_option linter.unusedVariables false
namespace Go.Proofs.YtflpefkohpjjpaaGreatDoor
open Go.RowKit
set_option maxRecDepth 20000
set_option maxHeartbeats 4000000
noncomputable section
abbrev KJ(m:ah→ah→Option (Int)):Prop:=∀p_a p_b,FV (m p_a p_b) 125 [.dat (ah.lf1 p_a),.dat (ah.lf1 p_b)] .i_
structure ET where
 m1:(p_a:ah)→(p_b:ah)→Option (Int)
 ok1:KJ m1
def Oq(R_:ET)(p_a:ah)(p_b:ah):Mo (Bool):=
 .iB (p_a.au==3) (.rt [2,3,20,21] 2 (p_a.au==3))<|
 .iB (p_a.au==9) (.rt [2,3,20,21] 2 (p_a.au==9))<|
 .rt [2,3,20,21] 2 (p_a.au==10)
def Ot(R_:ET)(p_a:ah)(p_b:ah):Mo (Bool):=
 .iB (p_a.au==4) (.rt [2,3,20,30] 2 (p_a.au==4))<|
 .iB (p_a.au==7) (.rt [2,3,20,30] 2 (p_a.au==7))<|
 .rt [2,3,20,30] 2 (p_a.au==8)
def He(R_:ET)(p_a:ah)(p_b:ah)(v0:Int):Mo (Bool):=
 .nu p_a.aU ah.lf<|
 .iG 30005 (decide ((v0:Int)<(p_a.aU.length:Int))) (.nu p_b.aU ah.lf<|
 .rt [2,3,5,52] 2 (decide ((v0:Int)<(p_b.aU.length:Int))))<|
 .rt [2,3,5,52] 2 (false)
def Hf(R_:ET)(p_a:ah)(p_b:ah):(Int)→Mo ((Int)⊕(Int)⊕Unit):=fun(v0)=>
 .jk Tryz.f125 0 [1,1,0,1,0,1,1,1,1,1,0,0,1,0,0,0,0] 35 (fun r_=>⟨[(2,.ptr 0 0),(3,.ptr 1 0),(5,.i_ v0),(52,.b_ r_)],[aZ p_a,aZ p_b]⟩) ⟨[(2,.ptr 0 0),(3,.ptr 1 0),(5,.i_ v0)],[aZ p_a,aZ p_b]⟩ (He R_ p_a p_b v0) fun r0=>
 .iB (r0) (.ask (ig p_a.aU v0) fun x0 h0=>
 .say [] (ok1 (dS ah.aS h0))<|
 .ask (ig p_b.aU v0) fun x1 h1=>
 .say [] (ok1 (dS ah.aS h1))<|
 .ask (R_.m1 x0 x1) fun r1 h2=>
 .say [.iD (.q 0 (.q 1 (.q 2 (.q 3 (.q 4 (.q 5 (.q 6 (.q 7 (.q 8 (.q 9 (.l 10 (.q 11 .fin)))))))))))) (some 10) [] [.row (ah.lf1 x0),.row (ah.lf1 x1),.res (.i_ r1)] [2,3,5,6] 2 [(2,.ptr 0 0),(3,.ptr 1 0),(5,.i_ v0),(6,.i_ r1)] [aZ p_a,aZ p_b]] (okc (R_.ok1 _ _ _ h2) (ok1 (rf_ ⟨[(2,.ptr 0 0),(3,.ptr 1 0),(5,.i_ v0),(6,.i_ r1)],[aZ p_a,aZ p_b]⟩)))<|
 .iB (r1 != 0) (.ret ⟨[.kill 0,.kill 1],[4],[],2⟩ (.inr (.inl (r1))))<|
 .rt [2,3,5] 2 (.inl (IntKind.wrap .i64 (v0+1))))<|
 .rt [2,3] 2 (.inr (.inr (())))
def Hg(R_:ET)(p_a:ah)(p_b:ah)(v0:Int):Mo (Bool):=
 .nu p_a.aT ay.lf<|
 .iG 46005 (decide ((v0:Int)<(p_a.aT.length:Int))) (.nu p_b.aT ay.lf<|
 .rt [2,3,7,89] 2 (decide ((v0:Int)<(p_b.aT.length:Int))))<|
 .rt [2,3,7,89] 2 (false)
def Ho(R_:ET)(p_a:ah)(p_b:ah)(r0:Int)(v0:Int):Mo (Int):=
 .iB (r0==0) (.ask (ig p_a.aT v0) fun x0 h0=>
 .say [] (ok1 (dS ay.aS h0))<|
 .ask (ig p_b.aT v0) fun x1 h1=>
 .say [] (ok1 (dS ay.aS h1))<|
 .ask (R_.m1 x0.fValue x1.fValue) fun r1 h2=>
 .say [.iD (.q 0 (.q 1 (.q 2 (.q 3 (.q 4 (.q 5 (.q 6 (.q 7 (.q 8 (.q 9 (.q 10 (.q 11 (.l 12 (.q 13 .fin)))))))))))))) (some 12) [] [.row (ay.lf1 x0),.row (ay.lf1 x1),.res (.i_ r1)] [2,3,7,8] 2 [(2,.ptr 0 0),(3,.ptr 1 0),(7,.i_ v0),(8,.i_ r1)] [aZ p_a,aZ p_b]] (okc (R_.ok1 _ _ _ h2) (ok1 (rf_ ⟨[(2,.ptr 0 0),(3,.ptr 1 0),(7,.i_ v0),(8,.i_ r1)],[aZ p_a,aZ p_b]⟩)))<|
 .rt [2,3,7,8] 2 (r1))<|
 .rt [2,3,7,8] 2 (r0)
def Hq(R_:ET)(p_a:ah)(p_b:ah):(Int)→Mo ((Int)⊕(Int)⊕Unit):=fun(v0)=>
 .jk Tryz.f125 0 [1,1,0,1,0,1,1,1,1,1,1,1,0,0,1,0,0,0,0] 51 (fun r_=>⟨[(2,.ptr 0 0),(3,.ptr 1 0),(7,.i_ v0),(89,.b_ r_)],[aZ p_a,aZ p_b]⟩) ⟨[(2,.ptr 0 0),(3,.ptr 1 0),(7,.i_ v0)],[aZ p_a,aZ p_b]⟩ (Hg R_ p_a p_b v0) fun r0=>
 .iB (r0) (.ask (ig p_a.aT v0) fun x0 h0=>
 .say [] (ok1 (dS ay.aS h0))<|
 .ask (ig p_b.aT v0) fun x1 h1=>
 .say [] (ok1 (dS ay.aS h1))<|
 .ask (Q80 x0.fName x1.fName) fun r1 h2=>
 .say [.iD (.q 0 (.q 1 (.q 2 (.q 3 (.q 4 (.q 5 (.q 6 (.q 7 (.q 8 (.q 9 (.q 10 (.q 11 (.l 12 (.q 13 .fin)))))))))))))) (some 12) [] [.row (ay.lf1 x0),.row (ay.lf1 x1),.res (.i_ r1)] [2,3,7,8] 2 [(2,.ptr 0 0),(3,.ptr 1 0),(7,.i_ v0),(8,.i_ r1)] [aZ p_a,aZ p_b]] (okc (aeI _ _ _ h2) (ok1 (rf_ ⟨[(2,.ptr 0 0),(3,.ptr 1 0),(7,.i_ v0),(8,.i_ r1)],[aZ p_a,aZ p_b]⟩)))<|
 .jk Tryz.f125 0 [1,1,0,1,0,1,1,1,1,1,1,1,0,0,1,0,0,1,0,0,1,0,1] 1 (fun r_=>⟨[(2,.ptr 0 0),(3,.ptr 1 0),(7,.i_ v0),(8,.i_ r_)],[aZ p_a,aZ p_b]⟩) ⟨[(2,.ptr 0 0),(3,.ptr 1 0),(7,.i_ v0),(8,.i_ r1),(106,.lf (.bool (r1==0)))],[aZ p_a,aZ p_b]⟩ (Ho R_ p_a p_b r1 v0) fun r2=>
 .iB (r2 != 0) (.ret ⟨[.kill 0,.kill 1],[4],[],2⟩ (.inr (.inl (r2))))<|
 .rt [2,3,7] 2 (.inl (IntKind.wrap .i64 (v0+1))))<|
 .rt [2,3] 2 (.inr (.inr (())))
def aeJ(R_:ET)(p_a:ah)(p_b:ah):Mo (Int):=
 .iB (p_a.au != p_b.au) (.cl (uh p_a.au p_b.au) fun r0 _=>
 .ret (aX 1) (r0))<|
 .jk Tryz.f125 0 [1,1,0,1,0,0,1] 1 (fun r_=>⟨[(2,.ptr 0 0),(3,.ptr 1 0),(20,.i_ p_a.au),(21,.b_ r_)],[aZ p_a,aZ p_b]⟩) ⟨[(2,.ptr 0 0),(3,.ptr 1 0),(20,.i_ p_a.au),(21,.lf (.bool (p_a.au==3)))],[aZ p_a,aZ p_b]⟩ (Oq R_ p_a p_b) fun r1=>
 .iB (r1) (.cl (uh p_a.dD p_b.dD) fun r2 _=>
 .ret (aX 1) (r2))<|
 .jk Tryz.f125 0 [1,1,0,1,0,1,1,0,1] 1 (fun r_=>⟨[(2,.ptr 0 0),(3,.ptr 1 0),(20,.i_ p_a.au),(30,.b_ r_)],[aZ p_a,aZ p_b]⟩) ⟨[(2,.ptr 0 0),(3,.ptr 1 0),(20,.i_ p_a.au),(30,.lf (.bool (p_a.au==4)))],[aZ p_a,aZ p_b]⟩ (Ot R_ p_a p_b) fun r3=>
 .iB (r3) (.cl (aeI p_a.fText p_b.fText) fun r4 _=>
 .ret (aX 1) (r4))<|
 .iB (p_a.au==6) (.l2 Tryz.f125 0 [1,1,0,1,0,1,1,1,1,1,0,0,1,0] 0 (fun(v0)=>⟨[(2,.ptr 0 0),(3,.ptr 1 0),(5,.i_ v0)],[aZ p_a,aZ p_b]⟩) .ret (fun o_=>⟨[(4,.i_ o_)],[.dead,.dead]⟩) (.exit 1) (fun _=>⟨[(2,.ptr 0 0),(3,.ptr 1 0)],[aZ p_a,aZ p_b]⟩) (Hf R_ p_a p_b) (0) (fun o0=>
 .ret (aX 1) (o0)) fun o1=>
 .nu p_a.aU ah.lf<|
 .nu p_b.aU ah.lf<|
 .cl (uh (p_a.aU.length:Int) (p_b.aU.length:Int)) fun r5 _=>
 .ret (aX 1) (r5))<|
 .iB (p_a.au==5) (.l2 Tryz.f125 0 [1,1,0,1,0,1,1,1,1,1,1,1,0,0,1,0] 0 (fun(v1)=>⟨[(2,.ptr 0 0),(3,.ptr 1 0),(7,.i_ v1)],[aZ p_a,aZ p_b]⟩) .ret (fun o_=>⟨[(4,.i_ o_)],[.dead,.dead]⟩) (.exit 3) (fun _=>⟨[(2,.ptr 0 0),(3,.ptr 1 0)],[aZ p_a,aZ p_b]⟩) (Hq R_ p_a p_b) (0) (fun o2=>
 .ret (aX 1) (o2)) fun o3=>
 .nu p_a.aT ay.lf<|
 .nu p_b.aT ay.lf<|
 .cl (uh (p_a.aT.length:Int) (p_b.aT.length:Int)) fun r6 _=>
 .ret (aX 1) (r6))<|
 .ret (aX 1) (0)
theorem ait(R_:ET):KJ fun p_a p_b=>Mo.den (aeJ R_ p_a p_b):=fun _ _=>bW Tryz.func125
def zH:Nat→ET
 |0=>{ m1:=fun p_a p_b=>none,ok1:=fun _ _ _ h=>(by cases h) }
 |n_+1=>{ m1:=fun p_a p_b=>Mo.den (aeJ (zH n_) p_a p_b),ok1:=ait (zH n_) }
def Q15(p_a:ah)(p_b:ah):Option (Int):=(zH FU).m1 p_a p_b
theorem amg:KJ Q15:=(zH FU).ok1
def Hr(p_doc:ah)(p_key:ah)(r0:Int):Mo (Bool):=
 .aV 6002 (r0 != 0) [2,3,5,13] 2 (r0 != 2)
def aeK(p_doc:ah)(p_key:ah):Mo (Int):=
 .cl (VZ p_doc) fun r0 _=>
 .jk Tryz.f70 0 [1,0,1,0] 11 (fun r_=>⟨[(2,.ptr 0 0),(3,.ptr 1 0),(5,.i_ r0),(13,.b_ r_)],[aZ p_doc,aZ p_key]⟩) ⟨[(2,.ptr 0 0),(3,.ptr 1 0),(5,.i_ r0)],[aZ p_doc,aZ p_key]⟩ (Hr p_doc p_key r0) fun r1=>
 .iB (r1) (.ret (aX 1) (r0))<|
 .ask (ig p_doc.aT 0) fun x0 h0=>
 .say [] (ok1 (dS ay.aS h0))<|
 .ask (Q15 x0.fValue p_key) fun r2 h1=>
 .say [.iD (.q 0 (.q 1 (.q 2 (.q 3 (.q 4 (.q 5 (.l 6 (.q 7 .fin)))))))) (some 6) [] [.row (ay.lf1 x0),.res (.i_ r2)] [2,22] 2 [(2,.ptr 0 0),(22,.lf (.bool (r2 != 0)))] [aZ p_doc,aZ p_key]] (okc (amg _ _ _ h1) (ok1 (rf_ ⟨[(2,.ptr 0 0),(22,.lf (.bool (r2 != 0)))],[aZ p_doc,aZ p_key]⟩)))<|
 .iB (r2 != 0) (.ret (aX 1) (8))<|
 .cl (VZ p_doc) fun r3 _=>
 .ret (aX 1) (r3)
def amh(p_doc:ah)(p_key:ah):Option (Int):=Mo.den (aeK p_doc p_key)
theorem V3(p_doc:ah)(p_key:ah):FV (amh p_doc p_key) 70 [.dat (ah.lf1 p_doc),.dat (ah.lf1 p_key)] .i_:=bW Tryz.func70
def uj(p_a:List ByteArray)(p_b:List ByteArray):(Int)→Mo ((Int)⊕(Unit⊕Unit)):=fun(v0)=>
 .nu p_a lfS<|
 .iB (decide ((v0:Int)<(p_a.length:Int))) (.say [.order [(true,0),(true,1),(true,2),(true,3),(true,4),(true,5),(true,6),(true,7),(true,8)] none []] ok0<|
 .gx lS_ p_a v0 fun x0 _=>
 .gx lS_ p_b v0 fun x1 _=>
 .iB (!decide ((x0:ByteArray)=(x1:ByteArray))) (.rt [4] 0 (.inr (.inl ())))<|
 .rt [0,1,5] 0 (.inl (IntKind.wrap .i64 (v0+1))))<|
 .rt [] 0 (.inr (.inr (())))
def aeL(p_a:List ByteArray)(p_b:List ByteArray):Mo (Bool):=
 .nu p_a lfS<|
 .nu p_b lfS<|
 .iB ((p_a.length:Int) != (p_b.length:Int)) (.ret (aX 1) (false))<|
 .l2 Tryz.f197 0 [1,1,0,1,0] 0 (fun(v0)=>⟨[(0,.lf (.rows 1 (p_a.map lfS))),(1,.lf (.rows 1 (p_b.map lfS))),(5,.i_ v0)],[]⟩) .ret (fun _=>⟨[(4,.b_ false)],[]⟩) (.exit 0) (fun _=>⟨[],[]⟩) (uj p_a p_b) (0) (fun o0=>
 .ret (aX 1) (false)) fun o1=>
 .ret (aX 1) (true)
def an0(p_a:List ByteArray)(p_b:List ByteArray):Option (Bool):=Mo.den (aeL p_a p_b)
theorem aiu(p_a:List ByteArray)(p_b:List ByteArray):FV (an0 p_a p_b) 197 [.lf (.rows 1 (p_a.map lfS)),.lf (.rows 1 (p_b.map lfS))] .b_:=bW Tryz.func197
def Ht(p_l:List bn)(v0:Int):(Int)→Mo ((Int)⊕(Unit⊕Unit)):=fun(v1)=>
 .iB (decide ((v1:Int)<v0)) (.say [.order [(true,0),(true,1),(true,2),(true,3),(true,4),(true,5),(true,6),(true,7),(true,8),(true,9),(false,10)] (some 10) []] ok0<|
 .gx bn.aS p_l v0 fun x0 _=>
 .gx bn.aS p_l v1 fun x1 _=>
 .cl (aiu x0.cZ x1.cZ) fun r0 _=>
 .iB (r0) (.rt [2] 0 (.inr (.inl ())))<|
 .rt [0,3,4] 0 (.inl (IntKind.wrap .i64 (v1+1))))<|
 .rt [0,3] 0 (.inr (.inr (())))
def Hu(p_l:List bn):(Int)→Mo ((Int)⊕(Int)⊕Unit):=fun(v0)=>
 .nu p_l bn.lf<|
 .iB (decide ((v0:Int)<(p_l.length:Int))) (.gx bn.aS p_l v0 fun x0 _=>
 .cl (DJ x0.cZ) fun r0 _=>
 .iB (!r0) (.rt [2] 0 (.inr (.inl (10))))<|
 .l2 Tryz.f128 0 [1,1,0,1,0,0,1,0,0,1,1,0] 0 (fun(v1)=>⟨[(0,.lf (.rows 2 (p_l.map bn.lf))),(3,.i_ v0),(4,.i_ v1)],[]⟩) .ret (fun _=>⟨[(2,.i_ 12)],[]⟩) (.exit 2) (fun _=>⟨[(0,.lf (.rows 2 (p_l.map bn.lf))),(3,.i_ v0)],[]⟩) (Ht p_l v0) (0) (fun o0=>
 .rt [2] 0 (.inr (.inl (12)))) fun o1=>
 .rt [0,3] 0 (.inl (IntKind.wrap .i64 (v0+1))))<|
 .rt [] 0 (.inr (.inr (())))
def aeM(p_l:List bn):Mo (Int):=
 .nu p_l bn.lf<|
 .iB (decide ((8:Int)<(p_l.length:Int))) (.ret (aX 1) (2))<|
 .l2 Tryz.f128 0 [1,1,0,1,0] 0 (fun(v0)=>⟨[(0,.lf (.rows 2 (p_l.map bn.lf))),(3,.i_ v0)],[]⟩) .ret (fun o_=>⟨[(2,.i_ o_)],[]⟩) (.exit 0) (fun _=>⟨[],[]⟩) (Hu p_l) (0) (fun o0=>
 .ret (aX 1) (o0)) fun o1=>
 .ret (aX 1) (0)
def an1(p_l:List bn):Option (Int):=Mo.den (aeM p_l)
theorem aiv(p_l:List bn):FV (an1 p_l) 128 [.lf (.rows 2 (p_l.map bn.lf))] .i_:=bW Tryz.func128
abbrev KL(m:aN→Int→Int→Option (Int)):Prop:=∀p_p p_levels p_left,FV (m p_p p_levels p_left) 198 [.dat (aN.lf1 p_p),.i_ p_levels,.i_ p_left] .i_
structure Zm where
 m1:(p_p:aN)→(p_levels:Int)→(p_left:Int)→Option (Int)
 ok1:KL m1
def Ou(R_:Zm)(p_left:Int)(p_levels:Int)(p_p:aN):Mo (Bool):=
 .oV 4002 (p_levels==0) [1,2,3,13] 1 (decide ((p_left:Int)≤0))
def Ov(R_:Zm)(p_levels:Int)(p_p:aN)(v0:Int)(v1:Int):Mo (Bool):=
 .nu p_p.bM aN.lf<|
 .aV 12005 (decide ((v1:Int)<(p_p.bM.length:Int))) [1,2,3,7,24] 1 (decide ((0:Int)≤v0))
def Hw(R_:Zm)(p_levels:Int)(p_p:aN):(Int×Int)→Mo ((Int×Int)⊕(Int)):=fun(v0,v1)=>
 .jk Tryz.f198 0 [1,1,1,0,1,0,0,0,0] 17 (fun r_=>⟨[(1,.i_ p_levels),(2,.i_ v0),(3,.ptr 0 0),(7,.i_ v1),(24,.b_ r_)],[dP p_p]⟩) ⟨[(1,.i_ p_levels),(2,.i_ v0),(3,.ptr 0 0),(7,.i_ v1)],[dP p_p]⟩ (Ov R_ p_levels p_p v0 v1) fun r0=>
 .iB (r0) (.gx aN.aS p_p.bM v1 fun x0 _=>
 .cl (R_.ok1 x0 (IntKind.wrap .i64 (p_levels-1)) v0) fun r1 _=>
 .rt [1,2,3,7] 1 (.inl (r1,IntKind.wrap .i64 (v1+1))))<|
 .ret ⟨[.kill 0],[2],[],1⟩ (.inr (v0))
def aeN(R_:Zm)(p_p:aN)(p_levels:Int)(p_left:Int):Mo (Int):=
 .jk Tryz.f198 0 [1,0,0] 9 (fun r_=>⟨[(1,.i_ p_levels),(2,.i_ p_left),(3,.ptr 0 0),(13,.b_ r_)],[dP p_p]⟩) ⟨[(1,.i_ p_levels),(2,.i_ p_left),(3,.ptr 0 0)],[dP p_p]⟩ (Ou R_ p_left p_levels p_p) fun r0=>
 .iB (r0) (.ret (aX 1) ((-1)))<|
 .l1 Tryz.f198 0 [1,1,1,0,1,0] 0 (.exit 0) (fun(v0,v1)=>⟨[(1,.i_ p_levels),(2,.i_ v0),(3,.ptr 0 0),(7,.i_ v1)],[dP p_p]⟩) (fun r_=>⟨[(2,.i_ r_)],[.dead]⟩) (Hw R_ p_levels p_p) ((IntKind.wrap .i64 (p_left-1)),0) fun r1=>
 .ret (aX 1) (r1)
theorem aiw(R_:Zm):KL fun p_p p_levels p_left=>Mo.den (aeN R_ p_p p_levels p_left):=fun _ _ _=>bW Tryz.func198
def qJ:Nat→Zm
 |0=>{ m1:=fun p_p p_levels p_left=>none,ok1:=fun _ _ _ _ h=>(by cases h) }
 |n_+1=>{ m1:=fun p_p p_levels p_left=>Mo.den (aeN (qJ n_) p_p p_levels p_left),ok1:=aiw (qJ n_) }
def Q60(p_p:aN)(p_levels:Int)(p_left:Int):Option (Int):=(qJ FU).m1 p_p p_levels p_left
theorem ami:KL Q60:=(qJ FU).ok1
def Zn(p_p:aN):Mo (Bool):=
 .iB (p_p.fOp==15) (.rt [1,4,5] 1 (p_p.fOp==15))<|
 .rt [1,4,5] 1 (p_p.fOp==23)
def Zo(p_p:aN):Mo (Bool):=
 .iB (p_p.fOp==20) (.rt [1,12] 1 (p_p.fOp==20))<|
 .iB (p_p.fOp==21) (.rt [1,12] 1 (p_p.fOp==21))<|
 .rt [1,12] 1 (p_p.fOp==22)
def aeO(p_p:aN):Mo (Bool):=
 .jk Tryz.f264 0 [1,0,1,0,0,1] 1 (fun r_=>⟨[(1,.ptr 0 0),(4,.i_ p_p.fOp),(5,.b_ r_)],[dP p_p]⟩) ⟨[(1,.ptr 0 0),(4,.i_ p_p.fOp),(5,.lf (.bool (p_p.fOp==15)))],[dP p_p]⟩ (Zn p_p) fun r0=>
 .iB (r0) (.nu p_p.bM aN.lf<|
 .ret (aX 1) ((p_p.bM.length:Int)==1))<|
 .jk Tryz.f264 0 [1,0,1,0,1,1,0,1] 1 (fun r_=>⟨[(1,.ptr 0 0),(12,.b_ r_)],[dP p_p]⟩) ⟨[(1,.ptr 0 0),(4,.i_ p_p.fOp),(12,.lf (.bool (p_p.fOp==20)))],[dP p_p]⟩ (Zo p_p) fun r1=>
 .iB (r1) (.nu p_p.bM aN.lf<|
 .ret (aX 1) (decide ((0:Int)<(p_p.bM.length:Int))))<|
 .nu p_p.bM aN.lf<|
 .ret (aX 1) ((p_p.bM.length:Int)==0)
def an2(p_p:aN):Option (Bool):=Mo.den (aeO p_p)
theorem aix(p_p:aN):FV (an2 p_p) 264 [.dat (aN.lf1 p_p)] .b_:=bW Tryz.func264
def aeP(p_op:Int):Mo (Bool):=
 .iG 4002 (p_op==8) (.ret (aX 1) (true))<|
 .iG 4006 (p_op==9) (.ret (aX 1) (true))<|
 .ret (aX 1) (p_op==14)
def an3(p_op:Int):Option (Bool):=Mo.den (aeP p_op)
theorem KN(p_op:Int):FV (an3 p_op) 265 [.i_ p_op] .b_:=bW Tryz.func265
def aeQ(p_p:aN):Mo (Bool):=
 .iG 8003 (p_p.fN==0) (.ret ⟨[.kill 0],[2],[],1⟩ (true))<|
 .ret ⟨[.kill 0],[2],[],1⟩ (p_p.fN==1)
def aeR(p_p:aN):Mo (Bool):=
 .iG 12003 (decide ((1:Int)≤p_p.fN)) (.ret ⟨[.kill 0],[2],[],1⟩ (decide ((p_p.fN:Int)≤11)))<|
 .ret ⟨[.kill 0],[2],[],1⟩ (false)
def Zp(p_p:aN):Mo (Bool):=
 .aV 16003 (decide ((1:Int)≤p_p.fN)) [1,2,34] 1 (decide ((0:Int)≤p_p.fM))
def Zq(p_p:aN)(r0:Bool):Mo (Bool):=
 .iG 16008 (r0) (.ret ⟨[.kill 0],[2,41],[],1⟩ (decide ((p_p.fM:Int)<p_p.fN)))<|
 .ret ⟨[.kill 0],[2,41],[],1⟩ (false)
def ajE(p_p:aN):Mo (Bool):=
 .iB (p_p.fOp==10) (.jk Tryz.f266 0 [1,0,1,0,1,0,0] 13 (fun r_=>⟨[(2,.b_ r_)],[.dead]⟩) ⟨[(1,.ptr 0 0)],[dP p_p]⟩ (aeQ p_p) fun r0=>
 .ret (aX 1) (r0))<|
 .iB (p_p.fOp==11) (.jk Tryz.f266 0 [1,0,1,0,1,1,1,0,0] 17 (fun r_=>⟨[(2,.b_ r_)],[.dead]⟩) ⟨[(1,.ptr 0 0)],[dP p_p]⟩ (aeR p_p) fun r1=>
 .ret (aX 1) (r1))<|
 .iB (p_p.fOp==12) (.sf Tryz.f266 0 [1,0,1,0,1,1,1,1,1,0,0] 0 8 7 [(1,.ptr 0 0),(2,.b_ false)] [dP p_p] 34 (Zp p_p) fun r2=>
 .sk Tryz.f266 0 [1,0,1,0,1,1,1,1,1,0,0] 8 7 7 (fun r_=>⟨[(2,.b_ false),(41,.b_ r_)],[.dead]⟩) ⟨[(1,.ptr 0 0),(2,.b_ false),(34,.b_ r2)],[dP p_p]⟩ (Zq p_p r2) fun r3=>
 .sk Tryz.f266 0 [1,0,1,0,1,1,1,1,1,0,0] 15 1 7 (fun r_=>⟨[(2,.b_ r3)],[.dead]⟩) ⟨[(2,.b_ false),(41,.b_ r3)],[.dead]⟩ (fU r3) fun r4=>
 .ret (aX 1) (r3))<|
 .iB (p_p.fOp==13) (.ret (aX 1) (decide ((0:Int)≤p_p.fN)))<|
 .ret (aX 1) (true)
def Q76(p_p:aN):Option (Bool):=Mo.den (ajE p_p)
theorem amj(p_p:aN):FV (Q76 p_p) 266 [.dat (aN.lf1 p_p)] .b_:=bW Tryz.func266
def aeS(p_op:Int):Mo (Bool):=
 .iG 4002 (decide ((2:Int)≤p_op)) (.ret (aX 1) (decide ((p_op:Int)≤19)))<|
 .ret (aX 1) (false)
def an4(p_op:Int):Option (Bool):=Mo.den (aeS p_op)
theorem V4(p_op:Int):FV (an4 p_op) 267 [.i_ p_op] .b_:=bW Tryz.func267
def aeT(p_op:Int):Mo (Bool):=
 .iG 4002 (p_op==16) (.ret (aX 1) (true))<|
 .iG 4006 (p_op==17) (.ret (aX 1) (true))<|
 .ret (aX 1) (p_op==19)
def an5(p_op:Int):Option (Bool):=Mo.den (aeT p_op)
theorem KO(p_op:Int):FV (an5 p_op) 269 [.i_ p_op] .b_:=bW Tryz.func269
def aeU(p_op:Int):Mo (Bool):=
 .iG 4002 (decide ((2:Int)≤p_op)) (.iG 4006 (decide ((p_op:Int)≤7)) (.ret (aX 1) (true))<|
 .cl (KO p_op) fun r0 _=>
 .ret (aX 1) (r0))<|
 .cl (KO p_op) fun r1 _=>
 .ret (aX 1) (r1)
def an6(p_op:Int):Option (Bool):=Mo.den (aeU p_op)
theorem V5(p_op:Int):FV (an6 p_op) 268 [.i_ p_op] .b_:=bW Tryz.func268
def aeV(p_n:Int):Mo (Bool):=
 .iG 4002 (decide ((0:Int)≤p_n)) (.ret (aX 1) (decide ((p_n:Int)<65536)))<|
 .ret (aX 1) (false)
def an7(p_n:Int):Option (Bool):=Mo.den (aeV p_n)
theorem KP(p_n:Int):FV (an7 p_n) 318 [.i_ p_n] .b_:=bW Tryz.func318
def aeW(p_p:bT):Mo (Bool):=
 .cl (KP p_p.fX) fun r0 _=>
 .iG 4003 (r0) (.cl (KP p_p.fY) fun r1 _=>
 .ret (aX 1) (r1))<|
 .ret (aX 1) (false)
def an8(p_p:bT):Option (Bool):=Mo.den (aeW p_p)
theorem aiy(p_p:bT):FV (an8 p_p) 317 [.dat (bT.lf1 p_p)] .b_:=bW Tryz.func317
def Ox(p_s:dJ):(Int)→Mo ((Int)⊕(Unit⊕Unit)):=fun(v0)=>
 .iB (decide ((v0:Int)<(p_s.cO.length:Int))) (.gx bT.aS p_s.cO v0 fun x0 _=>
 .cl (aiy x0) fun r0 _=>
 .iB (!r0) (.ret ⟨[.kill 0],[2],[],1⟩ (.inr (.inl ())))<|
 .rt [1,3,4] 1 (.inl (IntKind.wrap .i64 (v0+1))))<|
 .rt [1,3] 1 (.inr (.inr (())))
def Oy(p_s:dJ):Mo (Bool):=
 .aV 20003 (p_s.au==1) [1,3,28] 1 ((p_s.cO.length:Int)==2)
def Hy(p_s:dJ)(r0:Bool):Mo (Bool):=
 .aV 20007 (r0) [1,3,33] 1 (p_s.fR==0)
def Hz(p_s:dJ)(r0:Bool):Mo (Bool):=
 .iG 20012 (r0) (.rt [1,3,47] 1 (true))<|
 .iG 20016 (p_s.au==2) (.aC 20020 ((p_s.cO.length:Int)==1) [1,3,47] 1 (KP p_s.fR))<|
 .rt [1,3,47] 1 (false)
def HY(p_s:dJ)(r0:Bool):Mo (Bool):=
 .iG 20026 (r0) (.ret ⟨[.kill 0],[61],[],1⟩ (true))<|
 .iG 20030 (p_s.au==3) (.iG 20034 (decide ((3:Int)≤(p_s.cO.length:Int))) (.ret ⟨[.kill 0],[61],[],1⟩ (p_s.fR==0))<|
 .ret ⟨[.kill 0],[61],[],1⟩ (false))<|
 .ret ⟨[.kill 0],[61],[],1⟩ (false)
def ajF(p_s:dJ):Mo (Int):=
 .nu p_s.cO bT.lf<|
 .iB (decide ((64:Int)<(p_s.cO.length:Int))) (.ret (aX 1) (18))<|
 .l2 Tryz.f270 0 [1,1,1,0,1,0] 0 (fun(v0)=>⟨[(1,.ptr 0 0),(3,.i_ (p_s.cO.length:Int)),(4,.i_ v0)],[uN p_s]⟩) .ret (fun _=>⟨[(2,.i_ 18)],[.dead]⟩) (.exit 0) (fun _=>⟨[(1,.ptr 0 0),(3,.i_ (p_s.cO.length:Int))],[uN p_s]⟩) (Ox p_s) (0) (fun o0=>
 .ret (aX 1) (18)) fun o1=>
 .sf Tryz.f270 0 [1,1,1,1,0,0] 0 7 9 [(1,.ptr 0 0),(3,.i_ (p_s.cO.length:Int))] [uN p_s] 28 (Oy p_s) fun r0=>
 .sb Tryz.f270 0 [1,1,1,1,0,0] 7 5 9 [(1,.ptr 0 0),(3,.i_ (p_s.cO.length:Int))] [uN p_s] 28 33 r0 (Hy p_s r0) fun r1=>
 .sb Tryz.f270 0 [1,1,1,1,0,0] 12 14 9 [(1,.ptr 0 0),(3,.i_ (p_s.cO.length:Int))] [uN p_s] 33 47 r1 (Hz p_s r1) fun r2=>
 .sk Tryz.f270 0 [1,1,1,1,0,0] 26 14 9 (fun r_=>⟨[(61,.b_ r_)],[.dead]⟩) ⟨[(1,.ptr 0 0),(3,.i_ (p_s.cO.length:Int)),(47,.b_ r2)],[uN p_s]⟩ (HY p_s r2) fun r3=>
 .iB (r3) (.ret (aX 1) (0))<|
 .ret (aX 1) (18)
def Q43(p_s:dJ):Option (Int):=Mo.den (ajF p_s)
theorem amk(p_s:dJ):FV (Q43 p_s) 270 [.dat (dJ.lf1 p_s)] .i_:=bW Tryz.func270
def Zr(p_s:dJ):Mo (Bool):=
 .iG 4003 (p_s.au==0) (.nu p_s.cO bT.lf<|
 .rt [1,2,11] 1 ((p_s.cO.length:Int)==0))<|
 .rt [1,2,11] 1 (false)
def Zt(p_s:dJ)(r0:Bool):Mo (Bool):=
 .iG 4009 (r0) (.ret ⟨[.kill 0],[2,16],[],1⟩ (p_s.fR==0))<|
 .ret ⟨[.kill 0],[2,16],[],1⟩ (false)
def aeX(p_s:dJ):Mo (Bool):=
 .sf Tryz.f319 0 [1,0] 0 9 1 [(1,.ptr 0 0),(2,.b_ false)] [uN p_s] 11 (Zr p_s) fun r0=>
 .sk Tryz.f319 0 [1,0] 9 5 1 (fun r_=>⟨[(2,.b_ false),(16,.b_ r_)],[.dead]⟩) ⟨[(1,.ptr 0 0),(2,.b_ false),(11,.b_ r0)],[uN p_s]⟩ (Zt p_s r0) fun r1=>
 .sk Tryz.f319 0 [1,0] 14 1 1 (fun r_=>⟨[(2,.b_ r1)],[.dead]⟩) ⟨[(2,.b_ false),(16,.b_ r1)],[.dead]⟩ (fU r1) fun r2=>
 .ret (aX 1) (r1)
def an9(p_s:dJ):Option (Bool):=Mo.den (aeX p_s)
theorem aiz(p_s:dJ):FV (an9 p_s) 319 [.dat (dJ.lf1 p_s)] .b_:=bW Tryz.func319
def aeY(p_e:aO):Mo (Bool):=
 .iG 4003 (p_e.fOp==0) (.nu p_e.cZ lfS<|
 .rt [1,2,11] 1 ((p_e.cZ.length:Int)==0))<|
 .rt [1,2,11] 1 (false)
def aeZ(p_e:aO)(r0:Bool):Mo (Bool):=
 .aV 4009 (r0) [1,2,16] 1 (decide ((p_e.fName:ByteArray)=(⟨#[]⟩:ByteArray)))
def Zu(p_e:aO)(r0:Bool):Mo (Bool):=
 .iG 4014 (r0) (.nu p_e.eG lfS<|
 .rt [1,2,22] 1 ((p_e.eG.length:Int)==0))<|
 .rt [1,2,22] 1 (false)
def Zv(p_e:aO)(r0:Bool):Mo (Bool):=
 .aC 4020 (r0) [1,2,27] 1 (vH p_e.fArg)
def Zw(p_e:aO)(r0:Bool):Mo (Bool):=
 .aV 4025 (r0) [1,2,32] 1 (p_e.fN==0)
def Zx(p_e:aO)(r0:Bool):Mo (Bool):=
 .iG 4030 (r0) (.nu p_e.bM aO.lf<|
 .ret ⟨[.kill 0],[2,38],[],1⟩ ((p_e.bM.length:Int)==0))<|
 .ret ⟨[.kill 0],[2,38],[],1⟩ (false)
def ajG(p_e:aO):Mo (Bool):=
 .sf Tryz.f320 0 [1,0] 0 9 1 [(1,.ptr 0 0),(2,.b_ false)] [eP p_e] 11 (aeY p_e) fun r0=>
 .sb Tryz.f320 0 [1,0] 9 5 1 [(1,.ptr 0 0),(2,.b_ false)] [eP p_e] 11 16 r0 (aeZ p_e r0) fun r1=>
 .sb Tryz.f320 0 [1,0] 14 6 1 [(1,.ptr 0 0),(2,.b_ false)] [eP p_e] 16 22 r1 (Zu p_e r1) fun r2=>
 .sb Tryz.f320 0 [1,0] 20 5 1 [(1,.ptr 0 0),(2,.b_ false)] [eP p_e] 22 27 r2 (Zv p_e r2) fun r3=>
 .sb Tryz.f320 0 [1,0] 25 5 1 [(1,.ptr 0 0),(2,.b_ false)] [eP p_e] 27 32 r3 (Zw p_e r3) fun r4=>
 .sk Tryz.f320 0 [1,0] 30 6 1 (fun r_=>⟨[(2,.b_ false),(38,.b_ r_)],[.dead]⟩) ⟨[(1,.ptr 0 0),(2,.b_ false),(32,.b_ r4)],[eP p_e]⟩ (Zx p_e r4) fun r5=>
 .sk Tryz.f320 0 [1,0] 36 1 1 (fun r_=>⟨[(2,.b_ r5)],[.dead]⟩) ⟨[(2,.b_ false),(38,.b_ r5)],[.dead]⟩ (fU r5) fun r6=>
 .ret (aX 1) (r5)
def Q56(p_e:aO):Option (Bool):=Mo.den (ajG p_e)
theorem aml(p_e:aO):FV (Q56 p_e) 320 [.dat (aO.lf1 p_e)] .b_:=bW Tryz.func320
def ae0(p_p:aN):Mo (Bool):=
 .cl (V4 p_p.fOp) fun r0 _=>
 .iG 4004 (!r0) (.nu p_p.cZ lfS<|
 .rt [1,12] 1 (decide ((0:Int)<(p_p.cZ.length:Int))))<|
 .rt [1,12] 1 (false)
def ae1(p_p:aN)(r0:Bool):Mo (Bool):=
 .iG 4010 (r0) (.rt [1,24] 1 (true))<|
 .cl (V5 p_p.fOp) fun r1 _=>
 .iG 4015 (!r1) (.cl (vH p_p.fArg) fun r2 _=>
 .rt [1,24] 1 (!r2))<|
 .rt [1,24] 1 (false)
def Zy(p_p:aN)(r0:Bool):Mo (Bool):=
 .iG 4022 (r0) (.rt [1,36] 1 (true))<|
 .cl (KN p_p.fOp) fun r1 _=>
 .iG 4027 (!r1) (.nu p_p.fArgs ah.lf<|
 .rt [1,36] 1 (decide ((0:Int)<(p_p.fArgs.length:Int))))<|
 .rt [1,36] 1 (false)
def Zz(p_p:aN):Mo (Bool):=
 .aV 8003 (p_p.fOp != 10) [1,44] 1 (p_p.fOp != 11)
def ZA(p_p:aN)(r0:Bool):Mo (Bool):=
 .aV 8008 (r0) [1,49] 1 (p_p.fOp != 12)
def ZB(p_p:aN)(r0:Bool):Mo (Bool):=
 .aV 8013 (r0) [1,54] 1 (p_p.fOp != 13)
def ZC(p_p:aN)(r0:Bool):Mo (Bool):=
 .aV 8018 (r0) [1,59] 1 (p_p.fN != 0)
def ZE(p_p:aN)(r0:Bool):Mo (Bool):=
 .iG 8023 (r0) (.rt [1,69] 1 (true))<|
 .aV 8027 (p_p.fOp != 12) [1,69] 1 (p_p.fM != 0)
def ZF(p_p:aN):Mo (Bool):=
 .iG 12003 (p_p.fOp==18) (.rt [1,77] 1 (true))<|
 .cl (aiz p_p.dO) fun r0 _=>
 .rt [1,77] 1 (r0)
def ZG(p_p:aN)(r0:Bool):Mo (Bool):=
 .iG 12008 (r0) (.iG 12012 (p_p.fOp==24) (.ret ⟨[.kill 0],[87],[],1⟩ (true))<|
 .cl (aml p_p.fExpr) fun r1 _=>
 .ret ⟨[.kill 0],[87],[],1⟩ (r1))<|
 .ret ⟨[.kill 0],[87],[],1⟩ (false)
def ajH(p_p:aN):Mo (Bool):=
 .sf Tryz.f271 0 [1,0,0] 0 10 1 [(1,.ptr 0 0)] [dP p_p] 12 (ae0 p_p) fun r0=>
 .sb Tryz.f271 0 [1,0,0] 10 12 1 [(1,.ptr 0 0)] [dP p_p] 12 24 r0 (ae1 p_p r0) fun r1=>
 .sb Tryz.f271 0 [1,0,0] 22 12 1 [(1,.ptr 0 0)] [dP p_p] 24 36 r1 (Zy p_p r1) fun r2=>
 .iB (r2) (.ret (aX 1) (false))<|
 .sf Tryz.f271 0 [1,1,0,0] 0 8 3 [(1,.ptr 0 0)] [dP p_p] 44 (Zz p_p) fun r3=>
 .sb Tryz.f271 0 [1,1,0,0] 8 5 3 [(1,.ptr 0 0)] [dP p_p] 44 49 r3 (ZA p_p r3) fun r4=>
 .sb Tryz.f271 0 [1,1,0,0] 13 5 3 [(1,.ptr 0 0)] [dP p_p] 49 54 r4 (ZB p_p r4) fun r5=>
 .sb Tryz.f271 0 [1,1,0,0] 18 5 3 [(1,.ptr 0 0)] [dP p_p] 54 59 r5 (ZC p_p r5) fun r6=>
 .sb Tryz.f271 0 [1,1,0,0] 23 10 3 [(1,.ptr 0 0)] [dP p_p] 59 69 r6 (ZE p_p r6) fun r7=>
 .iB (r7) (.ret (aX 1) (false))<|
 .sf Tryz.f271 0 [1,1,1,0] 0 8 5 [(1,.ptr 0 0)] [dP p_p] 77 (ZF p_p) fun r8=>
 .sk Tryz.f271 0 [1,1,1,0] 8 10 5 (fun r_=>⟨[(87,.b_ r_)],[.dead]⟩) ⟨[(1,.ptr 0 0),(77,.b_ r8)],[dP p_p]⟩ (ZG p_p r8) fun r9=>
 .sk Tryz.f271 0 [1,1,1,0] 18 1 5 (fun r_=>⟨[(2,.b_ r9)],[.dead]⟩) ⟨[(87,.b_ r9)],[.dead]⟩ (fU r9) fun r10=>
 .ret (aX 1) (r9)
def Q26(p_p:aN):Option (Bool):=Mo.den (ajH p_p)
theorem amm(p_p:aN):FV (Q26 p_p) 271 [.dat (aN.lf1 p_p)] .b_:=bW Tryz.func271
def ae2(p_op:Int):Mo (Bool):=
 .iB (p_op==1) (.rt [3,4] 0 (p_op==1))<|
 .iB (p_op==2) (.rt [3,4] 0 (p_op==2))<|
 .rt [3,4] 0 (p_op==3)
def ae3(p_op:Int):Mo (Bool):=
 .iB (p_op==18) (.rt [3,8] 0 (p_op==18))<|
 .iB (p_op==22) (.rt [3,8] 0 (p_op==22))<|
 .iB (p_op==23) (.rt [3,8] 0 (p_op==23))<|
 .iB (p_op==24) (.rt [3,8] 0 (p_op==24))<|
 .iB (p_op==26) (.rt [3,8] 0 (p_op==26))<|
 .iB (p_op==30) (.rt [3,8] 0 (p_op==30))<|
 .iB (p_op==31) (.rt [3,8] 0 (p_op==31))<|
 .rt [3,8] 0 (p_op==36)
def ZH(p_op:Int):Mo (Bool):=
 .iB (p_op==19) (.rt [3,17] 0 (p_op==19))<|
 .rt [3,17] 0 (p_op==25)
def ZI(p_op:Int):Mo (Bool):=
 .iB (p_op==4) (.rt [20] 0 (p_op==4))<|
 .iB (p_op==6) (.rt [20] 0 (p_op==6))<|
 .iB (p_op==16) (.rt [20] 0 (p_op==16))<|
 .iB (p_op==17) (.rt [20] 0 (p_op==17))<|
 .iB (p_op==21) (.rt [20] 0 (p_op==21))<|
 .iB (p_op==29) (.rt [20] 0 (p_op==29))<|
 .iB (p_op==37) (.rt [20] 0 (p_op==37))<|
 .iB (p_op==35) (.rt [20] 0 (p_op==35))<|
 .rt [20] 0 (p_op==34)
def ajI(p_op:Int):Mo (Int):=
 .jk Tryz.f340 0 [1,0,1,0,0,1] 1 (fun r_=>⟨[(3,.i_ p_op),(4,.b_ r_)],[]⟩) ⟨[(3,.i_ p_op),(4,.lf (.bool (p_op==1)))],[]⟩ (ae2 p_op) fun r0=>
 .iB (r0) (.ret (aX 1) (0))<|
 .jk Tryz.f340 0 [1,0,1,0,1,1,0,1] 1 (fun r_=>⟨[(3,.i_ p_op),(8,.b_ r_)],[]⟩) ⟨[(3,.i_ p_op),(8,.lf (.bool (p_op==18)))],[]⟩ (ae3 p_op) fun r1=>
 .iB (r1) (.ret (aX 1) (1))<|
 .jk Tryz.f340 0 [1,0,1,0,1,1,1,1,0,1] 1 (fun r_=>⟨[(3,.i_ p_op),(17,.b_ r_)],[]⟩) ⟨[(3,.i_ p_op),(17,.lf (.bool (p_op==19)))],[]⟩ (ZH p_op) fun r2=>
 .iB (r2) (.ret (aX 1) (3))<|
 .jk Tryz.f340 0 [1,0,1,0,1,1,1,1,1,1,0,1] 1 (fun r_=>⟨[(20,.b_ r_)],[]⟩) ⟨[(3,.i_ p_op),(20,.lf (.bool (p_op==4)))],[]⟩ (ZI p_op) fun r3=>
 .iB (r3) (.ret (aX 1) ((-1)))<|
 .ret (aX 1) (2)
def Q82(p_op:Int):Option (Int):=Mo.den (ajI p_op)
theorem ae4(p_op:Int):FV (Q82 p_op) 340 [.i_ p_op] .i_:=bW Tryz.func340
def yc(p_l:List ByteArray)(v0:Int):(Int)→Mo ((Int)⊕(Unit⊕Unit)):=fun(v1)=>
 .iB (decide ((v1:Int)<v0)) (.say [.order [(true,0),(true,1),(true,2),(true,3),(true,4),(true,5),(true,6),(true,7),(true,8)] none []] ok0<|
 .gx lS_ p_l v1 fun x0 _=>
 .gx lS_ p_l v0 fun x1 _=>
 .iB (decide ((x0:ByteArray)=(x1:ByteArray))) (.rt [2] 0 (.inr (.inl ())))<|
 .rt [0,3,4] 0 (.inl (IntKind.wrap .i64 (v1+1))))<|
 .rt [0,3] 0 (.inr (.inr (())))
def Oz(p_l:List ByteArray):(Int)→Mo ((Int)⊕(Unit⊕Unit)):=fun(v0)=>
 .nu p_l lfS<|
 .iB (decide ((v0:Int)<(p_l.length:Int))) (.gx lS_ p_l v0 fun x0 _=>
 .cl (vI x0) fun r0 _=>
 .iB (!r0) (.rt [2] 0 (.inr (.inl ())))<|
 .l2 Tryz.f341 0 [1,0,1,0,0,1,0,0,1,1,0] 0 (fun(v1)=>⟨[(0,.lf (.rows 1 (p_l.map lfS))),(3,.i_ v0),(4,.i_ v1)],[]⟩) .ret (fun _=>⟨[(2,.b_ false)],[]⟩) (.exit 2) (fun _=>⟨[(0,.lf (.rows 1 (p_l.map lfS))),(3,.i_ v0)],[]⟩) (yc p_l v0) (0) (fun o0=>
 .rt [2] 0 (.inr (.inl ()))) fun o1=>
 .rt [0,3] 0 (.inl (IntKind.wrap .i64 (v0+1))))<|
 .rt [] 0 (.inr (.inr (())))
def ajJ(p_l:List ByteArray):Mo (Bool):=
 .l2 Tryz.f341 0 [1,0,1,0] 0 (fun(v0)=>⟨[(0,.lf (.rows 1 (p_l.map lfS))),(3,.i_ v0)],[]⟩) .ret (fun _=>⟨[(2,.b_ false)],[]⟩) (.exit 0) (fun _=>⟨[],[]⟩) (Oz p_l) (0) (fun o0=>
 .ret (aX 1) (false)) fun o1=>
 .ret (aX 1) (true)
def Q86(p_l:List ByteArray):Option (Bool):=Mo.den (ajJ p_l)
theorem amn(p_l:List ByteArray):FV (Q86 p_l) 341 [.lf (.rows 1 (p_l.map lfS))] .b_:=bW Tryz.func341
abbrev KQ(m:ah→ah→Option (Bool)):Prop:=∀p_a p_b,FV (m p_a p_b) 200 [.dat (ah.lf1 p_a),.dat (ah.lf1 p_b)] .b_
structure EU where
 m1:(p_a:ah)→(p_b:ah)→Option (Bool)
 ok1:KQ m1
def OA(R_:EU)(p_a:ah)(p_b:ah):Mo (Bool):=
 .oV 4005 (p_a.au != p_b.au) [2,3,18] 2 (p_a.dD != p_b.dD)
def OB(R_:EU)(p_a:ah)(p_b:ah)(r0:Bool):Mo (Bool):=
 .oV 4012 (r0) [2,3,25] 2 (!decide ((p_a.fText:ByteArray)=(p_b.fText:ByteArray)))
def H6(R_:EU)(p_a:ah)(p_b:ah)(r0:Bool):Mo (Bool):=
 .iG 4019 (r0) (.rt [2,3,34] 2 (true))<|
 .nu p_a.aU ah.lf<|
 .nu p_b.aU ah.lf<|
 .rt [2,3,34] 2 ((p_a.aU.length:Int) != (p_b.aU.length:Int))
def H7(R_:EU)(p_a:ah)(p_b:ah)(r0:Bool):Mo (Bool):=
 .iG 4028 (r0) (.rt [2,3,43] 2 (true))<|
 .nu p_a.aT ay.lf<|
 .nu p_b.aT ay.lf<|
 .rt [2,3,43] 2 ((p_a.aT.length:Int) != (p_b.aT.length:Int))
def H8(R_:EU)(p_a:ah)(p_b:ah):(Int)→Mo ((Int)⊕(Unit⊕Unit)):=fun(v0)=>
 .nu p_a.aU ah.lf<|
 .iB (decide ((v0:Int)<(p_a.aU.length:Int))) (.ask (ig p_a.aU v0) fun x0 h0=>
 .say [] (ok1 (dS ah.aS h0))<|
 .ask (ig p_b.aU v0) fun x1 h1=>
 .say [] (ok1 (dS ah.aS h1))<|
 .ask (R_.m1 x0 x1) fun r0 h2=>
 .say [.iD (.q 0 (.q 1 (.q 2 (.q 3 (.q 4 (.q 5 (.q 6 (.q 7 (.q 8 (.q 9 (.l 10 (.q 11 .fin)))))))))))) (some 10) [] [.row (ah.lf1 x0),.row (ah.lf1 x1),.res (.b_ r0)] [2,3,5,62] 2 [(2,.ptr 0 0),(3,.ptr 1 0),(5,.i_ v0),(62,.lf (.bool (!r0)))] [aZ p_a,aZ p_b]] (okc (R_.ok1 _ _ _ h2) (ok1 (rf_ ⟨[(2,.ptr 0 0),(3,.ptr 1 0),(5,.i_ v0),(62,.lf (.bool (!r0)))],[aZ p_a,aZ p_b]⟩)))<|
 .iB (!r0) (.ret ⟨[.kill 0,.kill 1],[4],[],2⟩ (.inr (.inl ())))<|
 .rt [2,3,5] 2 (.inl (IntKind.wrap .i64 (v0+1))))<|
 .rt [2,3] 2 (.inr (.inr (())))
theorem apr:EM (opsOf (Code.sub (bodyC Tryz.f200) [1,1,1,0,1,0,0,1,0,0,0])) [(true,0),(true,1),(true,2),(true,3),(true,4),(true,5),(true,6),(true,7),(true,8),(true,9),(true,10),(true,11),(true,12),(true,13),(true,14),(true,15),(true,16),(true,17),(true,18),(true,19),(true,20),(true,21),(true,22),(true,23),(true,24),(true,25),(false,26),(true,27),(true,28)] none=true:=by kernel_rfl
def H9(R_:EU)(p_a:ah)(p_b:ah)(v0:Int):Mo (Bool):=
 .say [.qY [(true,0),(true,1),(true,2),(true,3),(true,4),(true,5),(true,6),(true,7),(true,8),(true,9),(true,10),(true,11),(true,12),(true,13),(true,14),(true,15),(true,16),(true,17),(true,18),(true,19),(true,20),(true,21),(true,22),(true,23),(true,24),(true,25),(false,26),(true,27),(true,28)] none []] (ok1 apr)<|
 .gx ay.aS p_a.aT v0 fun x0 _=>
 .gx ay.aS p_b.aT v0 fun x1 _=>
 .iG 24013 (!decide ((x0.fName:ByteArray)=(x1.fName:ByteArray))) (.rt [2,3,6,98] 2 (true))<|
 .gx ay.aS p_a.aT v0 fun x2 _=>
 .gx ay.aS p_b.aT v0 fun x3 _=>
 .cl (R_.ok1 x2.fValue x3.fValue) fun r0 _=>
 .rt [2,3,6,98] 2 (!r0)
def Ia(R_:EU)(p_a:ah)(p_b:ah):(Int)→Mo ((Int)⊕(Unit⊕Unit)):=fun(v0)=>
 .nu p_a.aT ay.lf<|
 .iB (decide ((v0:Int)<(p_a.aT.length:Int))) (.jk Tryz.f200 0 [1,1,1,0,1,0,0,1,0,0,0] 29 (fun r_=>⟨[(2,.ptr 0 0),(3,.ptr 1 0),(6,.i_ v0),(98,.b_ r_)],[aZ p_a,aZ p_b]⟩) ⟨[(2,.ptr 0 0),(3,.ptr 1 0),(6,.i_ v0)],[aZ p_a,aZ p_b]⟩ (H9 R_ p_a p_b v0) fun r0=>
 .iB (r0) (.ret ⟨[.kill 0,.kill 1],[4],[],2⟩ (.inr (.inl ())))<|
 .rt [2,3,6] 2 (.inl (IntKind.wrap .i64 (v0+1))))<|
 .ret ⟨[.kill 0,.kill 1],[],[],2⟩ (.inr (.inr (())))
def ae5(R_:EU)(p_a:ah)(p_b:ah):Mo (Bool):=
 .sf Tryz.f200 0 [1,0,0] 0 12 1 [(2,.ptr 0 0),(3,.ptr 1 0)] [aZ p_a,aZ p_b] 18 (OA R_ p_a p_b) fun r0=>
 .sb Tryz.f200 0 [1,0,0] 12 7 1 [(2,.ptr 0 0),(3,.ptr 1 0)] [aZ p_a,aZ p_b] 18 25 r0 (OB R_ p_a p_b r0) fun r1=>
 .sb Tryz.f200 0 [1,0,0] 19 9 1 [(2,.ptr 0 0),(3,.ptr 1 0)] [aZ p_a,aZ p_b] 25 34 r1 (H6 R_ p_a p_b r1) fun r2=>
 .sb Tryz.f200 0 [1,0,0] 28 9 1 [(2,.ptr 0 0),(3,.ptr 1 0)] [aZ p_a,aZ p_b] 34 43 r2 (H7 R_ p_a p_b r2) fun r3=>
 .iB (r3) (.ret (aX 1) (false))<|
 .l2 Tryz.f200 0 [1,1,0,1,0] 0 (fun(v0)=>⟨[(2,.ptr 0 0),(3,.ptr 1 0),(5,.i_ v0)],[aZ p_a,aZ p_b]⟩) .ret (fun _=>⟨[(4,.b_ false)],[.dead,.dead]⟩) (.exit 0) (fun _=>⟨[(2,.ptr 0 0),(3,.ptr 1 0)],[aZ p_a,aZ p_b]⟩) (H8 R_ p_a p_b) (0) (fun o0=>
 .ret (aX 1) (false)) fun o1=>
 .l2 Tryz.f200 0 [1,1,1,0,1,0] 0 (fun(v1)=>⟨[(2,.ptr 0 0),(3,.ptr 1 0),(6,.i_ v1)],[aZ p_a,aZ p_b]⟩) .ret (fun _=>⟨[(4,.b_ false)],[.dead,.dead]⟩) (.exit 2) (fun _=>⟨[],[.dead,.dead]⟩) (Ia R_ p_a p_b) (0) (fun o2=>
 .ret (aX 1) (false)) fun o3=>
 .ret (aX 1) (true)
theorem aiA(R_:EU):KQ fun p_a p_b=>Mo.den (ae5 R_ p_a p_b):=fun _ _=>bW Tryz.func200
def kW:Nat→EU
 |0=>{ m1:=fun p_a p_b=>none,ok1:=fun _ _ _ h=>(by cases h) }
 |n_+1=>{ m1:=fun p_a p_b=>Mo.den (ae5 (kW n_) p_a p_b),ok1:=aiA (kW n_) }
def Q18(p_a:ah)(p_b:ah):Option (Bool):=(kW FU).m1 p_a p_b
theorem KR:KQ Q18:=(kW FU).ok1
theorem aps:EM (opsOf (Code.sub (bodyC Tryz.f337) [1,0,0])) [(true,0),(true,1),(true,2),(true,3),(true,4),(true,5),(true,6),(true,7),(true,8),(true,9),(true,10),(false,11),(true,12),(true,13),(true,14),(true,15),(true,16),(true,17),(true,18),(false,19),(true,20),(true,21),(true,22),(true,23),(true,24),(true,25),(true,26),(true,27),(true,28),(true,29),(true,30),(true,31),(true,32),(true,33),(true,34),(true,35),(true,36),(true,37),(true,38),(true,39),(true,40),(true,41),(true,42)] none=true:=by kernel_rfl
def ae6(p_e:aO):Mo (Bool):=
 .say [.qY [(true,0),(true,1),(true,2),(true,3),(true,4),(true,5),(true,6),(true,7),(true,8),(true,9),(true,10),(false,11),(true,12),(true,13),(true,14),(true,15),(true,16),(true,17),(true,18),(false,19),(true,20),(true,21),(true,22),(true,23),(true,24),(true,25),(true,26),(true,27),(true,28),(true,29),(true,30),(true,31),(true,32),(true,33),(true,34),(true,35),(true,36),(true,37),(true,38),(true,39),(true,40),(true,41),(true,42)] none []] (ok1 aps)<|
 .iG 4003 (decide ((p_e.fOp:Int)<1)) (.rt [1,46] 1 (true))<|
 .iG 4008 (decide ((37:Int)<p_e.fOp)) (.rt [1,46] 1 (true))<|
 .cl (ae4 p_e.fOp) fun r0 _=>
 .iG 4013 (decide ((0:Int)≤r0)) (.nu p_e.bM aO.lf<|
 .cl (ae4 p_e.fOp) fun r1 _=>
 .iG 4023 ((p_e.bM.length:Int) != r1) (.rt [1,46] 1 (true))<|
 .iG 4027 (p_e.fOp==34) (.nu p_e.bM aO.lf<|
 .nu p_e.eG lfS<|
 .iG 4035 ((p_e.bM.length:Int) != (p_e.eG.length:Int)) (.rt [1,46] 1 (true))<|
 .nu p_e.bM aO.lf<|
 .rt [1,46] 1 ((p_e.bM.length:Int)==0))<|
 .rt [1,46] 1 (false))<|
 .iG 4027 (p_e.fOp==34) (.nu p_e.bM aO.lf<|
 .nu p_e.eG lfS<|
 .iG 4035 ((p_e.bM.length:Int) != (p_e.eG.length:Int)) (.rt [1,46] 1 (true))<|
 .nu p_e.bM aO.lf<|
 .rt [1,46] 1 ((p_e.bM.length:Int)==0))<|
 .rt [1,46] 1 (false)
def ae7(p_e:aO):Mo (Bool):=
 .iG 8003 (p_e.fOp==2) (.cl (DJ p_e.cZ) fun r0 _=>
 .rt [1,55] 1 (!r0))<|
 .rt [1,55] 1 (false)
def ZJ(p_e:aO)(r0:Bool):Mo (Bool):=
 .iG 8009 (r0) (.rt [1,72] 1 (true))<|
 .iG 8013 (p_e.fOp==3) (.nu p_e.cZ lfS<|
 .iG 8019 (decide ((0:Int)<(p_e.cZ.length:Int))) (.cl (DJ p_e.cZ) fun r1 _=>
 .rt [1,72] 1 (!r1))<|
 .rt [1,72] 1 (false))<|
 .rt [1,72] 1 (false)
def ZK(p_e:aO):Mo (Bool):=
 .oV 12003 (p_e.fOp==3) [1,80] 1 (p_e.fOp==32)
def ZL(p_e:aO)(r0:Bool):Mo (Bool):=
 .oV 12008 (r0) [1,85] 1 (p_e.fOp==33)
def ZM(p_e:aO)(r0:Bool):Mo (Unit):=
 .rt [1,3] 1 ()
def ZN(p_e:aO)(r0:Bool):Mo (Bool):=
 .iG 14001 (r0) (.cl (vI p_e.fName) fun r1 _=>
 .rt [1,3,92] 1 (!r1))<|
 .rt [1,3,92] 1 (false)
def ZO(p_e:aO)(r0:Bool)(r1:Bool):Mo (Bool):=
 .iG 14007 (r1) (.rt [1,3,103] 1 (true))<|
 .iG 14011 (p_e.fOp==34) (.cl (amn p_e.eG) fun r2 _=>
 .rt [1,3,103] 1 (!r2))<|
 .rt [1,3,103] 1 (false)
def ZP(p_e:aO)(r0:Bool):Mo (Bool):=
 .iG 18003 (p_e.fOp==1) (.cl (qF p_e.fArg) fun r1 _=>
 .rt [1,3,112] 1 (!r1))<|
 .rt [1,3,112] 1 (false)
def ZQ(p_e:aO)(r0:Bool):Mo (Bool):=
 .aV 22003 (p_e.fOp != 2) [1,3,120] 1 (p_e.fOp != 3)
def ZR(p_e:aO)(r0:Bool)(r1:Bool):Mo (Bool):=
 .iG 22008 (r1) (.nu p_e.cZ lfS<|
 .rt [1,3,126] 1 (decide ((0:Int)<(p_e.cZ.length:Int))))<|
 .rt [1,3,126] 1 (false)
def ZT(p_e:aO)(r0:Bool)(r1:Bool):Mo (Bool):=
 .iG 22014 (r1) (.rt [1,135] 1 (true))<|
 .aV 22017 (!r0) [1,135] 1 (!decide ((p_e.fName:ByteArray)=(⟨#[]⟩:ByteArray)))
def ZU(p_e:aO)(r0:Bool):Mo (Bool):=
 .iG 22023 (r0) (.rt [1,146] 1 (true))<|
 .iG 22027 (p_e.fOp != 34) (.nu p_e.eG lfS<|
 .rt [1,146] 1 (decide ((0:Int)<(p_e.eG.length:Int))))<|
 .rt [1,146] 1 (false)
def ZV(p_e:aO)(r0:Bool):Mo (Bool):=
 .iG 22034 (r0) (.rt [1,158] 1 (true))<|
 .iG 22038 (p_e.fOp != 1) (.cl (KR p_e.fArg (ah.mk 0 0 ⟨#[]⟩ [] [])) fun r1 _=>
 .rt [1,158] 1 (!r1))<|
 .rt [1,158] 1 (false)
def ZW(p_e:aO)(r0:Bool):Mo (Bool):=
 .iG 22046 (r0) (.ret ⟨[.kill 0],[163],[],1⟩ (true))<|
 .ret ⟨[.kill 0],[163],[],1⟩ (p_e.fN != 0)
def ajK(p_e:aO):Mo (Int):=
 .jk Tryz.f337 0 [1,0,0] 9 (fun r_=>⟨[(1,.ptr 0 0),(46,.b_ r_)],[eP p_e]⟩) ⟨[(1,.ptr 0 0)],[eP p_e]⟩ (ae6 p_e) fun r0=>
 .iB (r0) (.ret (aX 1) (11))<|
 .sf Tryz.f337 0 [1,1,0,0] 0 9 3 [(1,.ptr 0 0)] [eP p_e] 55 (ae7 p_e) fun r1=>
 .sb Tryz.f337 0 [1,1,0,0] 9 17 3 [(1,.ptr 0 0)] [eP p_e] 55 72 r1 (ZJ p_e r1) fun r2=>
 .iB (r2) (.ret (aX 1) (10))<|
 .sf Tryz.f337 0 [1,1,1,0] 0 8 5 [(1,.ptr 0 0)] [eP p_e] 80 (ZK p_e) fun r3=>
 .sb Tryz.f337 0 [1,1,1,0] 8 5 5 [(1,.ptr 0 0)] [eP p_e] 80 85 r3 (ZL p_e r3) fun r4=>
 .sk Tryz.f337 0 [1,1,1,0] 13 1 5 (fun r_=>⟨[(1,.ptr 0 0),(3,.b_ r4)],[eP p_e]⟩) ⟨[(1,.ptr 0 0),(85,.b_ r4)],[eP p_e]⟩ (ZM p_e r4) fun r5=>
 .sf Tryz.f337 0 [1,1,1,1,0,0] 0 7 6 [(1,.ptr 0 0),(3,.b_ r4)] [eP p_e] 92 (ZN p_e r4) fun r6=>
 .sb Tryz.f337 0 [1,1,1,1,0,0] 7 11 6 [(1,.ptr 0 0),(3,.b_ r4)] [eP p_e] 92 103 r6 (ZO p_e r4 r6) fun r7=>
 .iB (r7) (.ret (aX 1) (9))<|
 .jk Tryz.f337 0 [1,1,1,1,1,0,0] 23 (fun r_=>⟨[(1,.ptr 0 0),(3,.b_ r4),(112,.b_ r_)],[eP p_e]⟩) ⟨[(1,.ptr 0 0),(3,.b_ r4)],[eP p_e]⟩ (ZP p_e r4) fun r8=>
 .iB (r8) (.ret (aX 1) (8))<|
 .sf Tryz.f337 0 [1,1,1,1,1,1,0,0] 0 8 10 [(1,.ptr 0 0),(3,.b_ r4)] [eP p_e] 120 (ZQ p_e r4) fun r9=>
 .sb Tryz.f337 0 [1,1,1,1,1,1,0,0] 8 6 10 [(1,.ptr 0 0),(3,.b_ r4)] [eP p_e] 120 126 r9 (ZR p_e r4 r9) fun r10=>
 .sk Tryz.f337 0 [1,1,1,1,1,1,0,0] 14 9 10 (fun r_=>⟨[(1,.ptr 0 0),(135,.b_ r_)],[eP p_e]⟩) ⟨[(1,.ptr 0 0),(3,.b_ r4),(126,.b_ r10)],[eP p_e]⟩ (ZT p_e r4 r10) fun r11=>
 .sb Tryz.f337 0 [1,1,1,1,1,1,0,0] 23 11 10 [(1,.ptr 0 0)] [eP p_e] 135 146 r11 (ZU p_e r11) fun r12=>
 .sb Tryz.f337 0 [1,1,1,1,1,1,0,0] 34 12 10 [(1,.ptr 0 0)] [eP p_e] 146 158 r12 (ZV p_e r12) fun r13=>
 .sk Tryz.f337 0 [1,1,1,1,1,1,0,0] 46 5 10 (fun r_=>⟨[(163,.b_ r_)],[.dead]⟩) ⟨[(1,.ptr 0 0),(158,.b_ r13)],[eP p_e]⟩ (ZW p_e r13) fun r14=>
 .iB (r14) (.ret (aX 1) (4))<|
 .ret (aX 1) (0)
def Q13(p_e:aO):Option (Int):=Mo.den (ajK p_e)
theorem amo(p_e:aO):FV (Q13 p_e) 337 [.dat (aO.lf1 p_e)] .i_:=bW Tryz.func337
abbrev KT(m:aO→Int→Int→Option (Int×Int)):Prop:=∀p_e p_number p_level,FV (m p_e p_number p_level) 321 [.dat (aO.lf1 p_e),.i_ p_number,.i_ p_level] (fun r=>.tup [.i_ r.1,.i_ r.2])
structure ae8 where
 m1:(p_e:aO)→(p_number:Int)→(p_level:Int)→Option (Int×Int)
 ok1:KT m1
def OC(R_:ae8)(p_e:aO)(p_level:Int)(p_number:Int):Mo (Bool):=
 .oV 4002 (decide ((16:Int)<p_level)) [1,2,3,17] 1 (decide ((256:Int)<p_number))
def OD(R_:ae8)(p_e:aO)(p_level:Int):(Int×Int)→Mo ((Int×Int)⊕(Int×Int)⊕(Int)):=fun(v0,v1)=>
 .nu p_e.bM aO.lf<|
 .iB (decide ((v1:Int)<(p_e.bM.length:Int))) (.gx aO.aS p_e.bM v1 fun x0 _=>
 .cl (R_.ok1 x0 (IntKind.wrap .i64 (v0+1)) (IntKind.wrap .i64 (p_level+1))) fun r0 _=>
 .iB (r0.2 != 0) (.ret ⟨[.kill 0],[6,7],[],1⟩ (.inr (.inl (r0.1,r0.2))))<|
 .rt [1,2,3,9] 1 (.inl (r0.1,IntKind.wrap .i64 (v1+1))))<|
 .ret ⟨[.kill 0],[1],[],1⟩ (.inr (.inr (v0)))
def ae9(R_:ae8)(p_e:aO)(p_number:Int)(p_level:Int):Mo (Int×Int):=
 .jk Tryz.f321 0 [1,0,0] 9 (fun r_=>⟨[(1,.i_ p_number),(2,.i_ p_level),(3,.ptr 0 0),(17,.b_ r_)],[eP p_e]⟩) ⟨[(1,.i_ p_number),(2,.i_ p_level),(3,.ptr 0 0)],[eP p_e]⟩ (OC R_ p_e p_level p_number) fun r0=>
 .iB (r0) (.ret (aX 2) (p_number,2))<|
 .cl (amo p_e) fun r1 _=>
 .iB (r1 != 0) (.ret (aX 2) (p_number,r1))<|
 .l2 Tryz.f321 0 [1,1,1,0,1,0] 0 (fun(v0,v1)=>⟨[(1,.i_ v0),(2,.i_ p_level),(3,.ptr 0 0),(9,.i_ v1)],[eP p_e]⟩) .ret (fun o_=>⟨[(6,.i_ o_.1),(7,.i_ o_.2)],[.dead]⟩) (.exit 0) (fun o_=>⟨[(1,.i_ o_)],[.dead]⟩) (OD R_ p_e p_level) (p_number,0) (fun o0=>
 .ret (aX 2) (o0.1,o0.2)) fun o1=>
 .ret (aX 2) (o1,0)
theorem aiB(R_:ae8):KT fun p_e p_number p_level=>Mo.den (ae9 R_ p_e p_number p_level):=fun _ _ _=>bW Tryz.func321
def su:Nat→ae8
 |0=>{ m1:=fun p_e p_number p_level=>none,ok1:=fun _ _ _ _ h=>(by cases h) }
 |n_+1=>{ m1:=fun p_e p_number p_level=>Mo.den (ae9 (su n_) p_e p_number p_level),ok1:=aiB (su n_) }
def Q79(p_e:aO)(p_number:Int)(p_level:Int):Option (Int×Int):=(su FU).m1 p_e p_number p_level
theorem amq:KT Q79:=(su FU).ok1
def afa(p_e:aO):Mo (Int):=
 .cl (amq p_e 1 1) fun r0 _=>
 .ret (aX 1) (r0.2)
def aoa(p_e:aO):Option (Int):=Mo.den (afa p_e)
theorem aiC(p_e:aO):FV (aoa p_e) 272 [.dat (aO.lf1 p_e)] .i_:=bW Tryz.func272
abbrev KU(m:aN→Bool→Option (Int)):Prop:=∀p_p p_elem,FV (m p_p p_elem) 199 [.dat (aN.lf1 p_p),.b_ p_elem] .i_
structure vK where
 m1:(p_p:aN)→(p_elem:Bool)→Option (Int)
 ok1:KU m1
def V6(R_:vK)(p_elem:Bool)(p_p:aN):Mo (Bool):=
 .oV 4003 (decide ((p_p.fOp:Int)<1)) [1,2,16] 1 (decide ((24:Int)<p_p.fOp))
def V7(R_:vK)(p_elem:Bool)(p_p:aN)(r0:Bool):Mo (Bool):=
 .iG 4008 (r0) (.rt [1,2,21] 1 (true))<|
 .cl (aix p_p) fun r1 _=>
 .rt [1,2,21] 1 (!r1)
def OE(R_:vK)(p_elem:Bool)(p_p:aN)(r0:Bool):Mo (Bool):=
 .iG 4013 (r0) (.rt [1,2,32] 1 (true))<|
 .cl (KN p_p.fOp) fun r1 _=>
 .iG 4017 (r1) (.nu p_p.fArgs ah.lf<|
 .rt [1,2,32] 1 ((p_p.fArgs.length:Int)==0))<|
 .rt [1,2,32] 1 (false)
def OG(R_:vK)(p_elem:Bool)(p_p:aN)(r0:Bool):Mo (Bool):=
 .iG 4024 (r0) (.rt [1,2,37] 1 (true))<|
 .cl (amj p_p) fun r1 _=>
 .rt [1,2,37] 1 (!r1)
def OH(R_:vK)(p_elem:Bool)(p_p:aN):Mo (Bool):=
 .cl (V4 p_p.fOp) fun r0 _=>
 .iG 8003 (r0) (.cl (DJ p_p.cZ) fun r1 _=>
 .rt [1,2,46] 1 (!r1))<|
 .rt [1,2,46] 1 (false)
def OI(R_:vK)(p_elem:Bool)(p_p:aN)(r0:Bool):Mo (Bool):=
 .iG 8009 (r0) (.iG 8011 (p_elem) (.nu p_p.cZ lfS<|
 .rt [1,2,56] 1 (!((p_p.cZ.length:Int)==0)))<|
 .rt [1,2,56] 1 (true))<|
 .rt [1,2,56] 1 (false)
def OJ(R_:vK)(p_elem:Bool)(p_p:aN):Mo (Bool):=
 .cl (V5 p_p.fOp) fun r0 _=>
 .iG 12003 (r0) (.cl (qF p_p.fArg) fun r1 _=>
 .iG 12008 (!r1) (.rt [1,2,76] 1 (true))<|
 .cl (KO p_p.fOp) fun r2 _=>
 .aV 12012 (r2) [1,2,76] 1 (p_p.fArg.au != 4))<|
 .rt [1,2,76] 1 (false)
def OL(R_:vK)(p_elem:Bool)(p_p:aN)(v0:Int):Mo (Bool):=
 .nu p_p.fArgs ah.lf<|
 .aC 18005 (decide ((v0:Int)<(p_p.fArgs.length:Int))) [1,2,5,86] 1 (KN p_p.fOp)
def OM(R_:vK)(p_elem:Bool)(p_p:aN):(Int)→Mo ((Int)⊕(Unit⊕Unit)):=fun(v0)=>
 .jk Tryz.f199 0 [1,1,1,1,0,1,0,0,0,0] 23 (fun r_=>⟨[(1,.b_ p_elem),(2,.ptr 0 0),(5,.i_ v0),(86,.b_ r_)],[dP p_p]⟩) ⟨[(1,.b_ p_elem),(2,.ptr 0 0),(5,.i_ v0)],[dP p_p]⟩ (OL R_ p_elem p_p v0) fun r0=>
 .iB (r0) (.gx ah.aS p_p.fArgs v0 fun x0 _=>
 .cl (qF x0) fun r1 _=>
 .iB (!r1) (.ret ⟨[.kill 0],[4],[],1⟩ (.inr (.inl ())))<|
 .rt [1,2,5] 1 (.inl (IntKind.wrap .i64 (v0+1))))<|
 .rt [1,2] 1 (.inr (.inr (())))
def OO(R_:vK)(p_elem:Bool)(p_p:aN):Mo ((Int)⊕Unit):=
 .iB (p_p.fOp==18) (.cl (amk p_p.dO) fun r0 _=>
 .iB (r0 != 0) (.ret ⟨[.kill 0],[4],[],1⟩ (.inl (r0)))<|
 .rt [1,2] 1 (.inr (())))<|
 .rt [1,2] 1 (.inr (()))
def OQ(R_:vK)(p_elem:Bool)(p_p:aN)(v0:Int):Mo (Int):=
 .ask (ig p_p.bM v0) fun x0 h0=>
 .say [] (ok1 (dS aN.aS h0))<|
 .ite (p_elem) (fun c0=>
 .say [] (ok1 c0)<|
 .ask (R_.m1 x0 true) fun r0 h1=>
 .say [.iD (.q 0 (.q 1 (.q 2 (.q 3 (.q 4 (.q 5 (.q 6 (.q 7 (.q 8 (.q 9 (.q 10 (.l 11 (.q 12 .fin))))))))))))) (some 11) [] [.row (aN.lf1 x0),.gd 48006 true,.res (.i_ r0)] [1,2,7,8] 1 [(1,.b_ p_elem),(2,.ptr 0 0),(7,.i_ v0),(8,.i_ r0)] [dP p_p]] (okc (R_.ok1 _ _ _ h1) (ok1 (rf_ ⟨[(1,.b_ p_elem),(2,.ptr 0 0),(7,.i_ v0),(8,.i_ r0)],[dP p_p]⟩)))<|
 .rt [1,2,7,8] 1 (r0)) fun c0=>
 .say [] (ok1 c0)<|
 .ask (R_.m1 x0 (p_p.fOp==15)) fun r1 h2=>
 .say [.iD (.q 0 (.q 1 (.q 2 (.q 3 (.q 4 (.q 5 (.q 6 (.q 7 (.q 8 (.q 9 (.q 10 (.l 11 (.q 12 .fin))))))))))))) (some 11) [] [.row (aN.lf1 x0),.gd 48006 false,.res (.i_ r1)] [1,2,7,8] 1 [(1,.b_ p_elem),(2,.ptr 0 0),(7,.i_ v0),(8,.i_ r1)] [dP p_p]] (okc (R_.ok1 _ _ _ h2) (ok1 (rf_ ⟨[(1,.b_ p_elem),(2,.ptr 0 0),(7,.i_ v0),(8,.i_ r1)],[dP p_p]⟩)))<|
 .rt [1,2,7,8] 1 (r1)
def OT(R_:vK)(p_elem:Bool)(p_p:aN):(Int)→Mo ((Int)⊕(Int)⊕Unit):=fun(v0)=>
 .nu p_p.bM aN.lf<|
 .iB (decide ((v0:Int)<(p_p.bM.length:Int))) (.jk Tryz.f199 0 [1,1,1,1,1,1,1,1,0,1,0,0,1,0,0,0] 53 (fun r_=>⟨[(1,.b_ p_elem),(2,.ptr 0 0),(7,.i_ v0),(8,.i_ r_)],[dP p_p]⟩) ⟨[(1,.b_ p_elem),(2,.ptr 0 0),(7,.i_ v0)],[dP p_p]⟩ (OQ R_ p_elem p_p v0) fun r0=>
 .iB (r0 != 0) (.ret ⟨[.kill 0],[4],[],1⟩ (.inr (.inl (r0))))<|
 .rt [1,2,7] 1 (.inl (IntKind.wrap .i64 (v0+1))))<|
 .ret ⟨[.kill 0],[],[],1⟩ (.inr (.inr (())))
def amr(R_:vK)(p_p:aN)(p_elem:Bool):Mo (Int):=
 .sf Tryz.f199 0 [1,0,0] 0 8 1 [(1,.b_ p_elem),(2,.ptr 0 0)] [dP p_p] 16 (V6 R_ p_elem p_p) fun r0=>
 .sb Tryz.f199 0 [1,0,0] 8 5 1 [(1,.b_ p_elem),(2,.ptr 0 0)] [dP p_p] 16 21 r0 (V7 R_ p_elem p_p r0) fun r1=>
 .sb Tryz.f199 0 [1,0,0] 13 11 1 [(1,.b_ p_elem),(2,.ptr 0 0)] [dP p_p] 21 32 r1 (OE R_ p_elem p_p r1) fun r2=>
 .sb Tryz.f199 0 [1,0,0] 24 5 1 [(1,.b_ p_elem),(2,.ptr 0 0)] [dP p_p] 32 37 r2 (OG R_ p_elem p_p r2) fun r3=>
 .iB (r3) (.ret (aX 1) (11))<|
 .sf Tryz.f199 0 [1,1,0,0] 0 9 3 [(1,.b_ p_elem),(2,.ptr 0 0)] [dP p_p] 46 (OH R_ p_elem p_p) fun r4=>
 .sb Tryz.f199 0 [1,1,0,0] 9 10 3 [(1,.b_ p_elem),(2,.ptr 0 0)] [dP p_p] 46 56 r4 (OI R_ p_elem p_p r4) fun r5=>
 .iB (r5) (.ret (aX 1) (10))<|
 .jk Tryz.f199 0 [1,1,1,0,0] 17 (fun r_=>⟨[(1,.b_ p_elem),(2,.ptr 0 0),(76,.b_ r_)],[dP p_p]⟩) ⟨[(1,.b_ p_elem),(2,.ptr 0 0)],[dP p_p]⟩ (OJ R_ p_elem p_p) fun r6=>
 .iB (r6) (.ret (aX 1) (8))<|
 .l2 Tryz.f199 0 [1,1,1,1,0,1,0] 0 (fun(v0)=>⟨[(1,.b_ p_elem),(2,.ptr 0 0),(5,.i_ v0)],[dP p_p]⟩) .ret (fun _=>⟨[(4,.i_ 8)],[.dead]⟩) (.exit 0) (fun _=>⟨[(1,.b_ p_elem),(2,.ptr 0 0)],[dP p_p]⟩) (OM R_ p_elem p_p) (0) (fun o0=>
 .ret (aX 1) (8)) fun o1=>
 .j2 [] Tryz.f199 0 [1,1,1,1,1,0,1] 1 .ret (fun o_=>⟨[(4,.i_ o_)],[.dead]⟩) .normal (fun _=>⟨[(1,.b_ p_elem),(2,.ptr 0 0)],[dP p_p]⟩) ⟨[(1,.b_ p_elem),(2,.ptr 0 0),(98,.lf (.bool (p_p.fOp==18)))],[dP p_p]⟩ (OO R_ p_elem p_p) (fun o2=>
 .ret (aX 1) (o2)) fun o3=>
 .cl (amm p_p) fun r7 _=>
 .iB (!r7) (.ret (aX 1) (4))<|
 .iB (p_p.fOp==24) (.cl (aiC p_p.fExpr) fun r8 _=>
 .ret (aX 1) (r8))<|
 .l2 Tryz.f199 0 [1,1,1,1,1,1,1,1,0,1,0] 0 (fun(v1)=>⟨[(1,.b_ p_elem),(2,.ptr 0 0),(7,.i_ v1)],[dP p_p]⟩) .ret (fun o_=>⟨[(4,.i_ o_)],[.dead]⟩) (.exit 2) (fun _=>⟨[],[.dead]⟩) (OT R_ p_elem p_p) (0) (fun o4=>
 .ret (aX 1) (o4)) fun o5=>
 .ret (aX 1) (0)
theorem ams(R_:vK):KU fun p_p p_elem=>Mo.den (amr R_ p_p p_elem):=fun _ _=>bW Tryz.func199
def jF:Nat→vK
 |0=>{ m1:=fun p_p p_elem=>none,ok1:=fun _ _ _ h=>(by cases h) }
 |n_+1=>{ m1:=fun p_p p_elem=>Mo.den (amr (jF n_) p_p p_elem),ok1:=ams (jF n_) }
def Q8(p_p:aN)(p_elem:Bool):Option (Int):=(jF FU).m1 p_p p_elem
theorem aob:KU Q8:=(jF FU).ok1
def afb(p_p:aN):Mo (Int):=
 .cl (ami p_p 16 256) fun r0 _=>
 .iB (decide ((r0:Int)<0)) (.ret (aX 1) (2))<|
 .cl (aob p_p false) fun r1 _=>
 .ret (aX 1) (r1)
def aoc(p_p:aN):Option (Int):=Mo.den (afb p_p)
theorem aiD(p_p:aN):FV (aoc p_p) 129 [.dat (aN.lf1 p_p)] .i_:=bW Tryz.func129
def afc(p_a:List ByteArray)(p_b:List ByteArray):Mo (Bool):=
 .nu p_a lfS<|
 .nu p_b lfS<|
 .iB (decide (((p_b.length:Int):Int)<(p_a.length:Int))) (.ret (aX 1) (false))<|
 .l2 Tryz.f322 0 [1,1,0,1,0] 0 (fun(v0)=>⟨[(0,.lf (.rows 1 (p_a.map lfS))),(1,.lf (.rows 1 (p_b.map lfS))),(5,.i_ v0)],[]⟩) .ret (fun _=>⟨[(4,.b_ false)],[]⟩) (.exit 0) (fun _=>⟨[],[]⟩) (uj p_a p_b) (0) (fun o0=>
 .ret (aX 1) (false)) fun o1=>
 .ret (aX 1) (true)
def aod(p_a:List ByteArray)(p_b:List ByteArray):Option (Bool):=Mo.den (afc p_a p_b)
theorem aiE(p_a:List ByteArray)(p_b:List ByteArray):FV (aod p_a p_b) 322 [.lf (.rows 1 (p_a.map lfS)),.lf (.rows 1 (p_b.map lfS))] .b_:=bW Tryz.func322
def afd(p_a:List ByteArray)(p_b:List ByteArray):Mo (Bool):=
 .nu p_a lfS<|
 .nu p_b lfS<|
 .iG 4005 ((p_a.length:Int)==(p_b.length:Int)) (.cl (aiE p_a p_b) fun r0 _=>
 .ret (aX 1) (r0))<|
 .ret (aX 1) (false)
def aoe(p_a:List ByteArray)(p_b:List ByteArray):Option (Bool):=Mo.den (afd p_a p_b)
theorem V8(p_a:List ByteArray)(p_b:List ByteArray):FV (aoe p_a p_b) 273 [.lf (.rows 1 (p_a.map lfS)),.lf (.rows 1 (p_b.map lfS))] .b_:=bW Tryz.func273
abbrev KW(m:aO→aO→Option (Bool)):Prop:=∀p_a p_b,FV (m p_a p_b) 201 [.dat (aO.lf1 p_a),.dat (aO.lf1 p_b)] .b_
structure EW where
 m1:(p_a:aO)→(p_b:aO)→Option (Bool)
 ok1:KW m1
def OU(R_:EW)(p_a:aO)(p_b:aO):Mo (Bool):=
 .iG 4005 (p_a.fOp != p_b.fOp) (.rt [2,3,18] 2 (true))<|
 .cl (V8 p_a.cZ p_b.cZ) fun r0 _=>
 .rt [2,3,18] 2 (!r0)
def OV(R_:EW)(p_a:aO)(p_b:aO)(r0:Bool):Mo (Bool):=
 .oV 4013 (r0) [2,3,25] 2 (!decide ((p_a.fName:ByteArray)=(p_b.fName:ByteArray)))
def Ib(R_:EW)(p_a:aO)(p_b:aO)(r0:Bool):Mo (Bool):=
 .iG 4020 (r0) (.rt [2,3,33] 2 (true))<|
 .cl (V8 p_a.eG p_b.eG) fun r1 _=>
 .rt [2,3,33] 2 (!r1)
def Ic(R_:EW)(p_a:aO)(p_b:aO)(r0:Bool):Mo (Bool):=
 .iG 4028 (r0) (.rt [2,3,41] 2 (true))<|
 .cl (KR p_a.fArg p_b.fArg) fun r1 _=>
 .rt [2,3,41] 2 (!r1)
def Ie(R_:EW)(p_a:aO)(p_b:aO)(r0:Bool):Mo (Bool):=
 .oV 4036 (r0) [2,3,48] 2 (p_a.fN != p_b.fN)
def Ig(R_:EW)(p_a:aO)(p_b:aO)(r0:Bool):Mo (Bool):=
 .iG 4043 (r0) (.rt [2,3,57] 2 (true))<|
 .nu p_a.bM aO.lf<|
 .nu p_b.bM aO.lf<|
 .rt [2,3,57] 2 ((p_a.bM.length:Int) != (p_b.bM.length:Int))
def Ih(R_:EW)(p_a:aO)(p_b:aO):(Int)→Mo ((Int)⊕(Unit⊕Unit)):=fun(v0)=>
 .nu p_a.bM aO.lf<|
 .iB (decide ((v0:Int)<(p_a.bM.length:Int))) (.ask (ig p_a.bM v0) fun x0 h0=>
 .say [] (ok1 (dS aO.aS h0))<|
 .ask (ig p_b.bM v0) fun x1 h1=>
 .say [] (ok1 (dS aO.aS h1))<|
 .ask (R_.m1 x0 x1) fun r0 h2=>
 .say [.iD (.q 0 (.q 1 (.q 2 (.q 3 (.q 4 (.q 5 (.q 6 (.q 7 (.q 8 (.q 9 (.l 10 (.q 11 .fin)))))))))))) (some 10) [] [.row (aO.lf1 x0),.row (aO.lf1 x1),.res (.b_ r0)] [2,3,5,76] 2 [(2,.ptr 0 0),(3,.ptr 1 0),(5,.i_ v0),(76,.lf (.bool (!r0)))] [eP p_a,eP p_b]] (okc (R_.ok1 _ _ _ h2) (ok1 (rf_ ⟨[(2,.ptr 0 0),(3,.ptr 1 0),(5,.i_ v0),(76,.lf (.bool (!r0)))],[eP p_a,eP p_b]⟩)))<|
 .iB (!r0) (.ret ⟨[.kill 0,.kill 1],[4],[],2⟩ (.inr (.inl ())))<|
 .rt [2,3,5] 2 (.inl (IntKind.wrap .i64 (v0+1))))<|
 .ret ⟨[.kill 0,.kill 1],[],[],2⟩ (.inr (.inr (())))
def afe(R_:EW)(p_a:aO)(p_b:aO):Mo (Bool):=
 .sf Tryz.f201 0 [1,0,0] 0 13 1 [(2,.ptr 0 0),(3,.ptr 1 0)] [eP p_a,eP p_b] 18 (OU R_ p_a p_b) fun r0=>
 .sb Tryz.f201 0 [1,0,0] 13 7 1 [(2,.ptr 0 0),(3,.ptr 1 0)] [eP p_a,eP p_b] 18 25 r0 (OV R_ p_a p_b r0) fun r1=>
 .sb Tryz.f201 0 [1,0,0] 20 8 1 [(2,.ptr 0 0),(3,.ptr 1 0)] [eP p_a,eP p_b] 25 33 r1 (Ib R_ p_a p_b r1) fun r2=>
 .sb Tryz.f201 0 [1,0,0] 28 8 1 [(2,.ptr 0 0),(3,.ptr 1 0)] [eP p_a,eP p_b] 33 41 r2 (Ic R_ p_a p_b r2) fun r3=>
 .sb Tryz.f201 0 [1,0,0] 36 7 1 [(2,.ptr 0 0),(3,.ptr 1 0)] [eP p_a,eP p_b] 41 48 r3 (Ie R_ p_a p_b r3) fun r4=>
 .sb Tryz.f201 0 [1,0,0] 43 9 1 [(2,.ptr 0 0),(3,.ptr 1 0)] [eP p_a,eP p_b] 48 57 r4 (Ig R_ p_a p_b r4) fun r5=>
 .iB (r5) (.ret (aX 1) (false))<|
 .l2 Tryz.f201 0 [1,1,0,1,0] 0 (fun(v0)=>⟨[(2,.ptr 0 0),(3,.ptr 1 0),(5,.i_ v0)],[eP p_a,eP p_b]⟩) .ret (fun _=>⟨[(4,.b_ false)],[.dead,.dead]⟩) (.exit 0) (fun _=>⟨[],[.dead,.dead]⟩) (Ih R_ p_a p_b) (0) (fun o0=>
 .ret (aX 1) (false)) fun o1=>
 .ret (aX 1) (true)
theorem aiF(R_:EW):KW fun p_a p_b=>Mo.den (afe R_ p_a p_b):=fun _ _=>bW Tryz.func201
def kX:Nat→EW
 |0=>{ m1:=fun p_a p_b=>none,ok1:=fun _ _ _ h=>(by cases h) }
 |n_+1=>{ m1:=fun p_a p_b=>Mo.den (afe (kX n_) p_a p_b),ok1:=aiF (kX n_) }
def Q25(p_a:aO)(p_b:aO):Option (Bool):=(kX FU).m1 p_a p_b
theorem amu:KW Q25:=(kX FU).ok1
end
end Go.Proofs.YtflpefkohpjjpaaGreatDoor
set_option linter.unusedSimpArgs false
set_option linter.unusedVariables false
namespace Go.Proofs.YtflpefkohpjjpaaGreatDoor
open Go.RowKit
set_option maxRecDepth 20000
set_option maxHeartbeats 4000000
noncomputable section
def aff(p_p:aN):Mo (Bool):=
 .iG 4003 (p_p.fOp==0) (.nu p_p.cZ lfS<|
 .rt [1,2,11] 1 ((p_p.cZ.length:Int)==0))<|
 .rt [1,2,11] 1 (false)
def afg(p_p:aN)(r0:Bool):Mo (Bool):=
 .aC 4009 (r0) [1,2,17] 1 (KR p_p.fArg (ah.mk 0 0 ⟨#[]⟩ [] []))
def ZX(p_p:aN)(r0:Bool):Mo (Bool):=
 .iG 4015 (r0) (.nu p_p.fArgs ah.lf<|
 .rt [1,2,23] 1 ((p_p.fArgs.length:Int)==0))<|
 .rt [1,2,23] 1 (false)
def ZY(p_p:aN)(r0:Bool):Mo (Bool):=
 .aV 4021 (r0) [1,2,28] 1 (p_p.fN==0)
def Z4(p_p:aN)(r0:Bool):Mo (Bool):=
 .aV 4026 (r0) [1,2,33] 1 (p_p.fM==0)
def Z5(p_p:aN)(r0:Bool):Mo (Bool):=
 .aV 4031 (r0) [1,2,39] 1 (p_p.dO.au==0)
def Z7(p_p:aN)(r0:Bool):Mo (Bool):=
 .iG 4037 (r0) (.nu p_p.dO.cO bT.lf<|
 .rt [1,2,46] 1 ((p_p.dO.cO.length:Int)==0))<|
 .rt [1,2,46] 1 (false)
def Z8(p_p:aN)(r0:Bool):Mo (Bool):=
 .aV 4044 (r0) [1,2,52] 1 (p_p.dO.fR==0)
def Z9(p_p:aN)(r0:Bool):Mo (Bool):=
 .aC 4050 (r0) [1,2,58] 1 (amu p_p.fExpr aO.z)
def aac(p_p:aN)(r0:Bool):Mo (Bool):=
 .iG 4056 (r0) (.nu p_p.bM aN.lf<|
 .ret ⟨[.kill 0],[2,64],[],1⟩ ((p_p.bM.length:Int)==0))<|
 .ret ⟨[.kill 0],[2,64],[],1⟩ (false)
def ajL(p_p:aN):Mo (Bool):=
 .sf Tryz.f130 0 [1,0] 0 9 1 [(1,.ptr 0 0),(2,.b_ false)] [dP p_p] 11 (aff p_p) fun r0=>
 .sb Tryz.f130 0 [1,0] 9 6 1 [(1,.ptr 0 0),(2,.b_ false)] [dP p_p] 11 17 r0 (afg p_p r0) fun r1=>
 .sb Tryz.f130 0 [1,0] 15 6 1 [(1,.ptr 0 0),(2,.b_ false)] [dP p_p] 17 23 r1 (ZX p_p r1) fun r2=>
 .sb Tryz.f130 0 [1,0] 21 5 1 [(1,.ptr 0 0),(2,.b_ false)] [dP p_p] 23 28 r2 (ZY p_p r2) fun r3=>
 .sb Tryz.f130 0 [1,0] 26 5 1 [(1,.ptr 0 0),(2,.b_ false)] [dP p_p] 28 33 r3 (Z4 p_p r3) fun r4=>
 .sb Tryz.f130 0 [1,0] 31 6 1 [(1,.ptr 0 0),(2,.b_ false)] [dP p_p] 33 39 r4 (Z5 p_p r4) fun r5=>
 .sb Tryz.f130 0 [1,0] 37 7 1 [(1,.ptr 0 0),(2,.b_ false)] [dP p_p] 39 46 r5 (Z7 p_p r5) fun r6=>
 .sb Tryz.f130 0 [1,0] 44 6 1 [(1,.ptr 0 0),(2,.b_ false)] [dP p_p] 46 52 r6 (Z8 p_p r6) fun r7=>
 .sb Tryz.f130 0 [1,0] 50 6 1 [(1,.ptr 0 0),(2,.b_ false)] [dP p_p] 52 58 r7 (Z9 p_p r7) fun r8=>
 .sk Tryz.f130 0 [1,0] 56 6 1 (fun r_=>⟨[(2,.b_ false),(64,.b_ r_)],[.dead]⟩) ⟨[(1,.ptr 0 0),(2,.b_ false),(58,.b_ r8)],[dP p_p]⟩ (aac p_p r8) fun r9=>
 .sk Tryz.f130 0 [1,0] 62 1 1 (fun r_=>⟨[(2,.b_ r9)],[.dead]⟩) ⟨[(2,.b_ false),(64,.b_ r9)],[.dead]⟩ (fU r9) fun r10=>
 .ret (aX 1) (r9)
def Q32(p_p:aN):Option (Bool):=Mo.den (ajL p_p)
theorem amv(p_p:aN):FV (Q32 p_p) 130 [.dat (aN.lf1 p_p)] .b_:=bW Tryz.func130
def OW(p_x:aQ):Mo (Bool):=
 .oV 8003 (decide ((p_x.au:Int)<1)) [1,15] 1 (decide ((3:Int)<p_x.au))
def OX(p_x:aQ):Mo (Bool):=
 .nu p_x.fJ bn.lf<|
 .iG 18004 ((p_x.fJ.length:Int)==0) (.rt [1,47] 1 (true))<|
 .iG 18008 (p_x.au != 1) (.nu p_x.fJ bn.lf<|
 .iG 18013 (decide ((1:Int)<(p_x.fJ.length:Int))) (.rt [1,47] 1 (true))<|
 .gx bn.aS p_x.fJ 0 fun x0 _=>
 .oV 18020 (x0.FY) [1,47] 1 (p_x.fF))<|
 .rt [1,47] 1 (false)
def ajM(p_x:aQ):Mo (Int):=
 .cl (vI p_x.fName) fun r0 _=>
 .iB (!r0) (.ret (aX 1) (9))<|
 .jk Tryz.f73 0 [1,1,0,0] 13 (fun r_=>⟨[(1,.ptr 0 0),(15,.b_ r_)],[kQ p_x]⟩) ⟨[(1,.ptr 0 0)],[kQ p_x]⟩ (OW p_x) fun r1=>
 .iB (r1) (.ret (aX 1) (8))<|
 .cl (aiv p_x.fJ) fun r2 _=>
 .iB (r2 != 0) (.ret (aX 1) (r2))<|
 .jk Tryz.f73 0 [1,1,1,1,0,0] 23 (fun r_=>⟨[(1,.ptr 0 0),(47,.b_ r_)],[kQ p_x]⟩) ⟨[(1,.ptr 0 0)],[kQ p_x]⟩ (OX p_x) fun r3=>
 .iB (r3) (.ret (aX 1) (11))<|
 .iB (p_x.iF) (.cl (aiD p_x.bF) fun r4 _=>
 .ret (aX 1) (r4))<|
 .cl (amv p_x.bF) fun r5 _=>
 .iB (!r5) (.ret (aX 1) (4))<|
 .ret (aX 1) (0)
def Q97(p_x:aQ):Option (Int):=Mo.den (ajM p_x)
theorem afh(p_x:aQ):FV (Q97 p_x) 73 [.dat (aQ.lf1 p_x)] .i_:=bW Tryz.func73
def Ii(p_l:List aQ)(p_name:ByteArray):(Int)→Mo ((Int)⊕(Int)⊕Unit):=fun(v0)=>
 .nu p_l aQ.lf<|
 .iB (decide ((v0:Int)<(p_l.length:Int))) (.gx aQ.aS p_l v0 fun x0 _=>
 .iB (decide ((x0.fName:ByteArray)=(p_name:ByteArray))) (.rt [4] 0 (.inr (.inl (v0))))<|
 .rt [0,1,5] 0 (.inl (IntKind.wrap .i64 (v0+1))))<|
 .rt [] 0 (.inr (.inr (())))
def afi(p_l:List aQ)(p_name:ByteArray):Mo (Int):=
 .l2 Tryz.f126 0 [1,0,1,0] 0 (fun(v0)=>⟨[(0,.lf (.rows 31 (p_l.map aQ.lf))),(1,.lf (.str p_name)),(5,.i_ v0)],[]⟩) .ret (fun o_=>⟨[(4,.i_ o_)],[]⟩) (.exit 0) (fun _=>⟨[],[]⟩) (Ii p_l p_name) (0) (fun o0=>
 .ret (aX 1) (o0)) fun o1=>
 .ret (aX 1) ((-1))
def aof(p_l:List aQ)(p_name:ByteArray):Option (Int):=Mo.den (afi p_l p_name)
theorem aiG(p_l:List aQ)(p_name:ByteArray):FV (aof p_l p_name) 126 [.lf (.rows 31 (p_l.map aQ.lf)),.lf (.str p_name)] .i_:=bW Tryz.func126
def Ij(p_l:List ByteArray):(Int)→Mo ((Int)⊕(Unit⊕Unit)):=fun(v0)=>
 .nu p_l lfS<|
 .iB (decide ((v0:Int)<(p_l.length:Int))) (.gx lS_ p_l v0 fun x0 _=>
 .cl (vI x0) fun r0 _=>
 .iB (!r0) (.rt [2] 0 (.inr (.inl ())))<|
 .l2 Tryz.f315 0 [1,0,1,0,0,1,0,0,1,1,0] 0 (fun(v1)=>⟨[(0,.lf (.rows 1 (p_l.map lfS))),(3,.i_ v0),(4,.i_ v1)],[]⟩) .ret (fun _=>⟨[(2,.b_ false)],[]⟩) (.exit 2) (fun _=>⟨[(0,.lf (.rows 1 (p_l.map lfS))),(3,.i_ v0)],[]⟩) (yc p_l v0) (0) (fun o0=>
 .rt [2] 0 (.inr (.inl ()))) fun o1=>
 .rt [0,3] 0 (.inl (IntKind.wrap .i64 (v0+1))))<|
 .rt [] 0 (.inr (.inr (())))
def afj(p_l:List ByteArray):Mo (Bool):=
 .l2 Tryz.f315 0 [1,0,1,0] 0 (fun(v0)=>⟨[(0,.lf (.rows 1 (p_l.map lfS))),(3,.i_ v0)],[]⟩) .ret (fun _=>⟨[(2,.b_ false)],[]⟩) (.exit 0) (fun _=>⟨[],[]⟩) (Ij p_l) (0) (fun o0=>
 .ret (aX 1) (false)) fun o1=>
 .ret (aX 1) (true)
def aog(p_l:List ByteArray):Option (Bool):=Mo.den (afj p_l)
theorem V9(p_l:List ByteArray):FV (aog p_l) 315 [.lf (.rows 1 (p_l.map lfS))] .b_:=bW Tryz.func315
def afk(p_has:Bool)(p_v:ah):Mo (Bool):=
 .iG 4001 (p_has) (.cl (qF p_v) fun r0 _=>
 .rt [0,3,4,10] 1 (!r0))<|
 .rt [0,3,4,10] 1 (false)
def afl(p_has:Bool)(p_v:ah)(r0:Bool):Mo (Bool):=
 .iG 4006 (r0) (.ret ⟨[.kill 0],[4,20],[],1⟩ (true))<|
 .iG 4009 (!p_has) (.cl (KR p_v (ah.mk 0 0 ⟨#[]⟩ [] [])) fun r1 _=>
 .ret ⟨[.kill 0],[4,20],[],1⟩ (!r1))<|
 .ret ⟨[.kill 0],[4,20],[],1⟩ (false)
def aad(r0:Bool):Mo (Unit):=
 .rt [4] 1 ()
def ajN(p_has:Bool)(p_v:ah):Mo (Bool):=
 .sf Tryz.f316 0 [1,0] 0 6 1 [(0,.b_ p_has),(3,.ptr 0 0),(4,.b_ false)] [aZ p_v] 10 (afk p_has p_v) fun r0=>
 .sk Tryz.f316 0 [1,0] 6 10 1 (fun r_=>⟨[(4,.b_ false),(20,.b_ r_)],[.dead]⟩) ⟨[(0,.b_ p_has),(3,.ptr 0 0),(4,.b_ false),(10,.b_ r0)],[aZ p_v]⟩ (afl p_has p_v r0) fun r1=>
 .sk Tryz.f316 0 [1,0] 16 1 1 (fun r_=>⟨[(4,.b_ r1)],[.dead]⟩) ⟨[(4,.b_ false),(20,.b_ r1)],[.dead]⟩ (aad r1) fun r2=>
 .ret (aX 1) (r1)
def Q92(p_has:Bool)(p_v:ah):Option (Bool):=Mo.den (ajN p_has p_v)
theorem afm(p_has:Bool)(p_v:ah):FV (Q92 p_has p_v) 316 [.b_ p_has,.dat (ah.lf1 p_v)] .b_:=bW Tryz.func316
def yg(p_s:aH):(Int×(List ByteArray))→Mo ((Int×(List ByteArray))⊕((List ByteArray))):=fun(v0,l0)=>
 .nu p_s.dR bD.lf<|
 .iB (decide ((v0:Int)<(p_s.dR.length:Int))) (.gx bD.aS p_s.dR v0 fun x0 _=>
 .say [.rows ((l0++[x0.fName]).map lfS)] (ok1 (by simp[lfS]:(l0++[x0.fName]).map lfS=(l0.map lfS)++[(lfS x0.fName)]))<|
 .grd ((l0.length+[x0.fName].length)*16≤140737488355328) fun h0=>
 .say [] (ok1 (cp_ lfS h0))<|
 .ret ⟨[],[1,3,4],[(3,1)],2⟩ (.inl (IntKind.wrap .i64 (v0+1),l0++[x0.fName])))<|
 .rt [1,3] 2 (.inr (l0))
def Tz(p_s:aH)(v0:Int)(l0:List ByteArray):Option (((List ByteArray))):=bP (fun v_=>(yg p_s v_).den) FU (v0,l0)
def OY(p_s:aH)(r0:((List ByteArray))):Mo (Bool):=
 .cl (V9 p_s.eY) fun r1 _=>
 .iG 14004 (!r1) (.ret ⟨[.kill 1],[1,30],[],2⟩ (true))<|
 .say [.at_ 14 6,.frz 1] ok0<|
 .cl (V9 r0) fun r2 _=>
 .rt [1,30] 2 (!r2)
def Ik(p_s:aH):Mo (Bool):=
 .iG 18003 (decide ((p_s.ji:Int)<0)) (.rt [1,39] 2 (true))<|
 .say [] (ok1 (by decide:(2:Int)≠0))<|
 .rt [1,39] 2 ((Int.tmod p_s.ji 2)==1)
def Il(p_s:aH)(r0:Bool):Mo (Bool):=
 .oV 18009 (r0) [1,44] 2 (decide ((4096:Int)≤p_s.ji))
def Io(p_s:aH)(r0:Bool):Mo (Bool):=
 .oV 18014 (r0) [1,49] 2 (decide ((p_s.jo:Int)<0))
def Ip(p_s:aH)(r0:Bool):Mo (Bool):=
 .oV 18019 (r0) [1,54] 2 (decide ((p_s.jq:Int)<(-1)))
def Iq(p_s:aH)(r0:Bool):Mo (Bool):=
 .iG 18024 (r0) (.rt [1,60] 2 (true))<|
 .nu p_s.fB aH.lf<|
 .rt [1,60] 2 (decide ((1:Int)<(p_s.fB.length:Int)))
def Ir(p_s:aH):Mo (Bool):=
 .cl (afm p_s.jl p_s.jK) fun r0 _=>
 .iG 22005 (r0) (.rt [1,72] 2 (true))<|
 .cl (afm p_s.jm p_s.jL) fun r1 _=>
 .rt [1,72] 2 (r1)
def Iu(p_s:aH):(Int)→Mo ((Int)⊕(Unit⊕Unit)):=fun(v0)=>
 .nu p_s.jS ah.lf<|
 .iB (decide ((v0:Int)<(p_s.jS.length:Int))) (.gx ah.aS p_s.jS v0 fun x0 _=>
 .cl (qF x0) fun r0 _=>
 .iB (!r0) (.ret ⟨[.kill 0],[2],[],2⟩ (.inr (.inl ())))<|
 .rt [1,5] 2 (.inl (IntKind.wrap .i64 (v0+1))))<|
 .ret ⟨[.kill 0],[],[],2⟩ (.inr (.inr (())))
def ajO(p_s:aH):Mo (Int):=
 .say [] (ok1 (by simp[lfS]:(([]:List ByteArray).map lfS)=[]))<|
 .l1m [.mW 3 9 1,.je 1 (([]:List ByteArray).map lfS)] Tryz.f263 0 [1,1,0,1,0] 0 (.exit 0) (fun(v0,l0)=>⟨[(1,.ptr 0 0),(3,.own 1),(4,.i_ v0)],[iy p_s,.row 9 1 (l0.map lfS)]⟩) (fun r_=>⟨[(1,.ptr 0 0),(3,.own 1)],[iy p_s,.row 9 1 (r_.map lfS)]⟩) (Tz p_s 0 ([]:List ByteArray)) (yg p_s) (0,([]:List ByteArray)) fun r0=>
 .jk Tryz.f263 0 [1,1,1,0,0] 19 (fun r_=>⟨[(1,.ptr 0 0),(30,.b_ r_)],[iy p_s,.dead]⟩) ⟨[(1,.ptr 0 0),(3,.own 1)],[iy p_s,.row 9 1 (r0.map lfS)]⟩ (OY p_s r0) fun r1=>
 .iB (r1) (.ret (aX 1) (9))<|
 .sf Tryz.f263 0 [1,1,1,1,0,0] 0 9 8 [(1,.ptr 0 0)] [iy p_s,.dead] 39 (Ik p_s) fun r2=>
 .sb Tryz.f263 0 [1,1,1,1,0,0] 9 5 8 [(1,.ptr 0 0)] [iy p_s,.dead] 39 44 r2 (Il p_s r2) fun r3=>
 .sb Tryz.f263 0 [1,1,1,1,0,0] 14 5 8 [(1,.ptr 0 0)] [iy p_s,.dead] 44 49 r3 (Io p_s r3) fun r4=>
 .sb Tryz.f263 0 [1,1,1,1,0,0] 19 5 8 [(1,.ptr 0 0)] [iy p_s,.dead] 49 54 r4 (Ip p_s r4) fun r5=>
 .sb Tryz.f263 0 [1,1,1,1,0,0] 24 6 8 [(1,.ptr 0 0)] [iy p_s,.dead] 54 60 r5 (Iq p_s r5) fun r6=>
 .iB (r6) (.ret (aX 1) (1))<|
 .jk Tryz.f263 0 [1,1,1,1,1,0,0] 27 (fun r_=>⟨[(1,.ptr 0 0),(72,.b_ r_)],[iy p_s,.dead]⟩) ⟨[(1,.ptr 0 0)],[iy p_s,.dead]⟩ (Ir p_s) fun r7=>
 .iB (r7) (.ret (aX 1) (8))<|
 .l2 Tryz.f263 0 [1,1,1,1,1,1,0,1,0] 0 (fun(v1)=>⟨[(1,.ptr 0 0),(5,.i_ v1)],[iy p_s,.dead]⟩) .ret (fun _=>⟨[(2,.i_ 8)],[.dead,.dead]⟩) (.exit 2) (fun _=>⟨[],[.dead,.dead]⟩) (Iu p_s) (0) (fun o0=>
 .ret (aX 1) (8)) fun o1=>
 .ret (aX 1) (0)
def Q11(p_s:aH):Option (Int):=Mo.den (ajO p_s)
theorem amw(p_s:aH):FV (Q11 p_s) 263 [.dat (aH.lf1 p_s)] .i_:=bW Tryz.func263
abbrev KX(m:aH→Int→Int→Option (Int×Int)):Prop:=∀p_s p_number p_level,FV (m p_s p_number p_level) 196 [.dat (aH.lf1 p_s),.i_ p_number,.i_ p_level] (fun r=>.tup [.i_ r.1,.i_ r.2])
structure aae where
 m1:(p_s:aH)→(p_number:Int)→(p_level:Int)→Option (Int×Int)
 ok1:KX m1
def OZ(R_:aae)(p_level:Int)(p_number:Int)(p_s:aH):Mo (Bool):=
 .oV 4002 (decide ((16:Int)<p_level)) [1,2,3,18] 1 (decide ((64:Int)<p_number))
def O1(R_:aae)(p_level:Int)(p_s:aH)(v0:Int)(v1:Int):Mo (aH):=
 .iB (decide ((v1:Int)<(p_s.dR.length:Int))) (.gx bD.aS p_s.dR v1 fun x0 _=>
 .ret ⟨[.norm 1],[1,2,3,9,10],[],2⟩ (x0.bC))<|
 .nu p_s.dR bD.lf<|
 .gx aH.aS p_s.fB (IntKind.wrap .i64 (v1-(p_s.dR.length:Int))) fun x1 _=>
 .ret ⟨[.norm 1],[1,2,3,9,10],[],2⟩ (x1)
def Iw(R_:aae)(p_level:Int)(p_s:aH):(Int×Int)→Mo ((Int×Int)⊕(Int×Int)⊕(Int)):=fun(v0,v1)=>
 .nu p_s.dR bD.lf<|
 .nu p_s.fB aH.lf<|
 .iB (decide ((v1:Int)<(IntKind.wrap .i64 ((p_s.dR.length:Int)+(p_s.fB.length:Int))))) (.nu p_s.dR bD.lf<|
 .jk Tryz.f196 0 [1,1,1,0,1,0,0,1,0,0,1,0,1] 1 (fun r_=>⟨[(1,.i_ v0),(2,.i_ p_level),(3,.ptr 0 0),(9,.i_ v1),(10,.ptr 1 0)],[iy p_s,iy r_]⟩) ⟨[(1,.i_ v0),(2,.i_ p_level),(3,.ptr 0 0),(9,.i_ v1),(10,.ptr 1 0),(41,.lf (.bool (decide ((v1:Int)<(p_s.dR.length:Int)))))],[iy p_s,.box 31 (Z31)]⟩ (O1 R_ p_level p_s v0 v1) fun r0=>
 .cl (R_.ok1 r0 (IntKind.wrap .i64 (v0+1)) (IntKind.wrap .i64 (p_level+1))) fun r1 _=>
 .iB (r1.2 != 0) (.ret ⟨[.kill 0],[6,7],[],1⟩ (.inr (.inl (r1.1,r1.2))))<|
 .rt [1,2,3,9] 1 (.inl (r1.1,IntKind.wrap .i64 (v1+1))))<|
 .ret ⟨[.kill 0],[1],[],1⟩ (.inr (.inr (v0)))
def afn(R_:aae)(p_s:aH)(p_number:Int)(p_level:Int):Mo (Int×Int):=
 .jk Tryz.f196 0 [1,0,0] 9 (fun r_=>⟨[(1,.i_ p_number),(2,.i_ p_level),(3,.ptr 0 0),(18,.b_ r_)],[iy p_s]⟩) ⟨[(1,.i_ p_number),(2,.i_ p_level),(3,.ptr 0 0)],[iy p_s]⟩ (OZ R_ p_level p_number p_s) fun r0=>
 .iB (r0) (.ret (aX 2) (p_number,2))<|
 .cl (amw p_s) fun r1 _=>
 .iB (r1 != 0) (.ret (aX 2) (p_number,r1))<|
 .l2 Tryz.f196 0 [1,1,1,0,1,0] 0 (fun(v0,v1)=>⟨[(1,.i_ v0),(2,.i_ p_level),(3,.ptr 0 0),(9,.i_ v1)],[iy p_s]⟩) .ret (fun o_=>⟨[(6,.i_ o_.1),(7,.i_ o_.2)],[.dead]⟩) (.exit 0) (fun o_=>⟨[(1,.i_ o_)],[.dead]⟩) (Iw R_ p_level p_s) (p_number,0) (fun o0=>
 .ret (aX 2) (o0.1,o0.2)) fun o1=>
 .ret (aX 2) (o1,0)
theorem aiH(R_:aae):KX fun p_s p_number p_level=>Mo.den (afn R_ p_s p_number p_level):=fun _ _ _=>bW Tryz.func196
def qK:Nat→aae
 |0=>{ m1:=fun p_s p_number p_level=>none,ok1:=fun _ _ _ _ h=>(by cases h) }
 |n_+1=>{ m1:=fun p_s p_number p_level=>Mo.den (afn (qK n_) p_s p_number p_level),ok1:=aiH (qK n_) }
def Q61(p_s:aH)(p_number:Int)(p_level:Int):Option (Int×Int):=(qK FU).m1 p_s p_number p_level
theorem amx:KX Q61:=(qK FU).ok1
def afo(p_s:aH):Mo (Int):=
 .cl (amx p_s 1 1) fun r0 _=>
 .ret (aX 1) (r0.2)
def aoh(p_s:aH):Option (Int):=Mo.den (afo p_s)
theorem aiI(p_s:aH):FV (aoh p_s) 127 [.dat (aH.lf1 p_s)] .i_:=bW Tryz.func127
def O4(p_d:bU):(Int)→Mo ((Int)⊕(Int)⊕Unit):=fun(v0)=>
 .nu p_d.dw aQ.lf<|
 .iB (decide ((v0:Int)<(p_d.dw.length:Int))) (.gx aQ.aS p_d.dw v0 fun x0 _=>
 .cl (afh x0) fun r0 _=>
 .iB (r0 != 0) (.ret ⟨[.kill 0],[2],[],1⟩ (.inr (.inl (r0))))<|
 .say [.order [(true,0),(true,1),(true,2),(true,3),(true,4),(true,5),(true,6),(true,7),(true,9),(false,8),(true,10)] none []] ok0<|
 .gx aQ.aS p_d.dw v0 fun x1 _=>
 .cl (aiG p_d.dw x1.fName) fun r1 _=>
 .iB (r1 != v0) (.ret ⟨[.kill 0],[2],[],1⟩ (.inr (.inl (16))))<|
 .rt [1,3] 1 (.inl (IntKind.wrap .i64 (v0+1))))<|
 .rt [1] 1 (.inr (.inr (())))
def O5(p_d:bU):Mo (Bool):=
 .oV 28003 (decide ((p_d.ku:Int)<0)) [1,47] 1 (decide ((2:Int)<p_d.ku))
def Iy(p_d:bU)(r0:Bool):Mo (Bool):=
 .iG 28008 (r0) (.rt [1,57] 1 (true))<|
 .aV 28012 (p_d.jr != 0) [1,57] 1 (p_d.jr != 1)
def ajP(p_d:bU):Mo (Int):=
 .cl (vI p_d.fName) fun r0 _=>
 .iB (!r0) (.ret (aX 1) (9))<|
 .nu p_d.dw aQ.lf<|
 .iB (decide ((16:Int)<(p_d.dw.length:Int))) (.ret (aX 1) (2))<|
 .l2 Tryz.f72 0 [1,1,1,0,1,0] 0 (fun(v0)=>⟨[(1,.ptr 0 0),(3,.i_ v0)],[qQ p_d]⟩) .ret (fun o_=>⟨[(2,.i_ o_)],[.dead]⟩) (.exit 0) (fun _=>⟨[(1,.ptr 0 0)],[qQ p_d]⟩) (O4 p_d) (0) (fun o0=>
 .ret (aX 1) (o0)) fun o1=>
 .sf Tryz.f72 0 [1,1,1,1,0,0] 0 8 13 [(1,.ptr 0 0)] [qQ p_d] 47 (O5 p_d) fun r1=>
 .sb Tryz.f72 0 [1,1,1,1,0,0] 8 10 13 [(1,.ptr 0 0)] [qQ p_d] 47 57 r1 (Iy p_d r1) fun r2=>
 .iB (r2) (.ret (aX 1) (1))<|
 .cl (aiI p_d.bC) fun r3 _=>
 .ret (aX 1) (r3)
def Q78(p_d:bU):Option (Int):=Mo.den (ajP p_d)
theorem amy(p_d:bU):FV (Q78 p_d) 72 [.dat (bU.lf1 p_d)] .i_:=bW Tryz.func72
def Wh(p_hi:Int)(p_lo:Int)(p_w:ak):Mo (Bool):=
 .oV 6003 (decide ((p_w.au:Int)<p_lo)) [3,7,20] 1 (decide ((p_hi:Int)<p_w.au))
def KY(p_w:ak)(r0:Bool):Mo (Bool):=
 .iG 6008 (r0) (.rt [3,7,25] 1 (true))<|
 .cl (anY p_w) fun r1 _=>
 .rt [3,7,25] 1 (!r1)
def DR(p_w:ak)(r0:Bool):Mo (Bool):=
 .iG 6013 (r0) (.rt [3,7,35] 1 (true))<|
 .cl (VW p_w.au) fun r1 _=>
 .iG 6016 (r1) (.nu p_w.aY ak.lf<|
 .rt [3,7,35] 1 ((p_w.aY.length:Int)==0))<|
 .rt [3,7,35] 1 (false)
def O6(p_w:ak)(r0:Bool):Mo (Unit):=
 .rt [3,7,12] 1 ()
def DT(p_w:ak):Mo (Bool):=
 .cl (VT p_w.au) fun r0 _=>
 .iG 14002 (r0) (.cl (AX p_w.fC) fun r1 _=>
 .rt [3,7,49] 1 (!r1))<|
 .rt [3,7,49] 1 (false)
def DU(p_w:ak)(r0:Bool):Mo (Bool):=
 .iG 14008 (r0) (.rt [3,7,59] 1 (true))<|
 .cl (VU p_w.au) fun r1 _=>
 .iG 14011 (r1) (.cl (AX p_w.nN) fun r2 _=>
 .rt [3,7,59] 1 (!r2))<|
 .rt [3,7,59] 1 (false)
def DV(p_w:ak)(r0:Bool):Mo (Bool):=
 .iG 14018 (r0) (.rt [3,7,70] 1 (true))<|
 .iG 14021 (p_w.au==7) (.cl (AX p_w.bf.fName) fun r1 _=>
 .rt [3,7,70] 1 (!r1))<|
 .rt [3,7,70] 1 (false)
def O7(p_w:ak)(r0:Bool):Mo (Unit):=
 .rt [3,7,41] 1 ()
def O8(p_w:ak):Mo (Bool):=
 .aV 18002 (p_w.au==10) [3,7,78] 1 (decide ((p_w.eU:Int)<1))
def O9(p_w:ak)(r0:Bool):Mo (Bool):=
 .oV 18007 (r0) [3,7,83] 1 (decide ((p_w.eU:Int)<0))
def Pe(p_w:ak)(r0:Bool):Mo (Bool):=
 .oV 18012 (r0) [3,7,88] 1 (decide ((1099511627776:Int)<p_w.eU))
def Pg(p_w:ak)(r0:Bool):Mo (Bool):=
 .iG 18017 (r0) (.rt [3,7,98] 1 (true))<|
 .iG 18020 (p_w.au==12) (.cl (aip p_w.dK) fun r1 _=>
 .rt [3,7,98] 1 (!r1))<|
 .rt [3,7,98] 1 (false)
def Ph(p_w:ak)(r0:Bool):Mo (Unit):=
 .rt [3,7,71] 1 ()
def DW(p_w:ak):Mo (Bool):=
 .cl (AY p_w.au) fun r0 _=>
 .iG 22002 (r0) (.cl (amd p_w.fO) fun r1 _=>
 .rt [3,7,99] 1 (!r1))<|
 .rt [3,7,99] 1 (false)
def Pj(p_w:ak):Mo ((Int)⊕Unit):=
 .iB (p_w.au==2) (.cl (V3 p_w.aT p_w.fO) fun r0 _=>
 .iB (r0 != 0) (.ret ⟨[.kill 0],[6],[],1⟩ (.inl (r0)))<|
 .rt [3,7] 1 (.inr (())))<|
 .rt [3,7] 1 (.inr (()))
def Pm(p_w:ak):Mo (Bool):=
 .cl (AY p_w.au) fun r0 _=>
 .iG 34002 (r0) (.cl (vH p_w.dG) fun r1 _=>
 .rt [3,7,125] 1 (!r1))<|
 .rt [3,7,125] 1 (false)
def Pn(p_w:ak)(r0:Bool):Mo ((Int)⊕Unit):=
 .iB (r0) (.cl (V3 p_w.dG p_w.fO) fun r1 _=>
 .iB (r1 != 0) (.ret ⟨[.kill 0],[6],[],1⟩ (.inl (r1)))<|
 .rt [3,7] 1 (.inr (())))<|
 .rt [3,7] 1 (.inr (()))
def amA(p_w:ak)(p_lo:Int)(p_hi:Int):Mo (Int):=
 .sk Tryz.f32 0 [1,1,0,0,0] 0 8 2 (fun r_=>⟨[(3,.ptr 0 0),(7,.i_ p_w.au),(20,.b_ r_)],[cu p_w]⟩) ⟨[(1,.i_ p_lo),(2,.i_ p_hi),(3,.ptr 0 0),(7,.i_ p_w.au)],[cu p_w]⟩ (Wh p_hi p_lo p_w) fun r0=>
 .sb Tryz.f32 0 [1,1,0,0,0] 8 5 2 [(3,.ptr 0 0),(7,.i_ p_w.au)] [cu p_w] 20 25 r0 (KY p_w r0) fun r1=>
 .sb Tryz.f32 0 [1,1,0,0,0] 13 10 2 [(3,.ptr 0 0),(7,.i_ p_w.au)] [cu p_w] 25 35 r1 (DR p_w r1) fun r2=>
 .sk Tryz.f32 0 [1,1,0,0,0] 23 1 2 (fun r_=>⟨[(3,.ptr 0 0),(7,.i_ p_w.au),(12,.b_ r2)],[cu p_w]⟩) ⟨[(3,.ptr 0 0),(7,.i_ p_w.au),(35,.b_ r2)],[cu p_w]⟩ (O6 p_w r2) fun r3=>
 .iB (r2) (.ret (aX 1) (11))<|
 .nu p_w.aY ak.lf<|
 .iB (decide ((256:Int)<(p_w.aY.length:Int))) (.ret (aX 1) (2))<|
 .sf Tryz.f32 0 [1,1,0,0,1,1,1,1,0] 0 8 6 [(3,.ptr 0 0),(7,.i_ p_w.au)] [cu p_w] 49 (DT p_w) fun r4=>
 .sb Tryz.f32 0 [1,1,0,0,1,1,1,1,0] 8 10 6 [(3,.ptr 0 0),(7,.i_ p_w.au)] [cu p_w] 49 59 r4 (DU p_w r4) fun r5=>
 .sb Tryz.f32 0 [1,1,0,0,1,1,1,1,0] 18 11 6 [(3,.ptr 0 0),(7,.i_ p_w.au)] [cu p_w] 59 70 r5 (DV p_w r5) fun r6=>
 .sk Tryz.f32 0 [1,1,0,0,1,1,1,1,0] 29 1 6 (fun r_=>⟨[(3,.ptr 0 0),(7,.i_ p_w.au),(41,.b_ r6)],[cu p_w]⟩) ⟨[(3,.ptr 0 0),(7,.i_ p_w.au),(70,.b_ r6)],[cu p_w]⟩ (O7 p_w r6) fun r7=>
 .iB (r6) (.ret (aX 1) (9))<|
 .sf Tryz.f32 0 [1,1,0,0,1,1,1,1,1,1,0] 0 7 8 [(3,.ptr 0 0),(7,.i_ p_w.au)] [cu p_w] 78 (O8 p_w) fun r8=>
 .sb Tryz.f32 0 [1,1,0,0,1,1,1,1,1,1,0] 7 5 8 [(3,.ptr 0 0),(7,.i_ p_w.au)] [cu p_w] 78 83 r8 (O9 p_w r8) fun r9=>
 .sb Tryz.f32 0 [1,1,0,0,1,1,1,1,1,1,0] 12 5 8 [(3,.ptr 0 0),(7,.i_ p_w.au)] [cu p_w] 83 88 r9 (Pe p_w r9) fun r10=>
 .sb Tryz.f32 0 [1,1,0,0,1,1,1,1,1,1,0] 17 10 8 [(3,.ptr 0 0),(7,.i_ p_w.au)] [cu p_w] 88 98 r10 (Pg p_w r10) fun r11=>
 .sk Tryz.f32 0 [1,1,0,0,1,1,1,1,1,1,0] 27 1 8 (fun r_=>⟨[(3,.ptr 0 0),(7,.i_ p_w.au),(71,.b_ r11)],[cu p_w]⟩) ⟨[(3,.ptr 0 0),(7,.i_ p_w.au),(98,.b_ r11)],[cu p_w]⟩ (Ph p_w r11) fun r12=>
 .iB (r11) (.ret (aX 1) (1))<|
 .jk Tryz.f32 0 [1,1,0,0,1,1,1,1,1,1,1,1,0] 27 (fun r_=>⟨[(3,.ptr 0 0),(7,.i_ p_w.au),(99,.b_ r_)],[cu p_w]⟩) ⟨[(3,.ptr 0 0),(7,.i_ p_w.au)],[cu p_w]⟩ (DW p_w) fun r13=>
 .iB (r13) (.ret (aX 1) (8))<|
 .j2 [] Tryz.f32 0 [1,1,1,0,1] 1 .ret (fun o_=>⟨[(6,.i_ o_)],[.dead]⟩) .normal (fun _=>⟨[(3,.ptr 0 0),(7,.i_ p_w.au)],[cu p_w]⟩) ⟨[(3,.ptr 0 0),(7,.i_ p_w.au),(109,.lf (.bool (p_w.au==2)))],[cu p_w]⟩ (Pj p_w) (fun o0=>
 .ret (aX 1) (o0)) fun o1=>
 .jk Tryz.f32 0 [1,1,1,1,0,0] 39 (fun r_=>⟨[(3,.ptr 0 0),(7,.i_ p_w.au),(125,.b_ r_)],[cu p_w]⟩) ⟨[(3,.ptr 0 0),(7,.i_ p_w.au)],[cu p_w]⟩ (Pm p_w) fun r14=>
 .j2 [] Tryz.f32 0 [1,1,1,1,0,1] 1 .ret (fun o_=>⟨[(6,.i_ o_)],[.dead]⟩) .normal (fun _=>⟨[(3,.ptr 0 0),(7,.i_ p_w.au)],[cu p_w]⟩) ⟨[(3,.ptr 0 0),(7,.i_ p_w.au),(125,.b_ r14)],[cu p_w]⟩ (Pn p_w r14) (fun o2=>
 .ret (aX 1) (o2)) fun o3=>
 .iB (p_w.au==4) (.cl (amy p_w.dh) fun r15 _=>
 .ret (aX 1) (r15))<|
 .iB (p_w.au==6) (.cl (afh p_w.bf) fun r16 _=>
 .ret (aX 1) (r16))<|
 .ret (aX 1) (0)
def Q2(p_w:ak)(p_lo:Int)(p_hi:Int):Option (Int):=Mo.den (amA p_w p_lo p_hi)
theorem ajQ(p_w:ak)(p_lo:Int)(p_hi:Int):FV (Q2 p_w p_lo p_hi) 32 [.dat (ak.lf1 p_w),.i_ p_lo,.i_ p_hi] .i_:=bW Tryz.func32
def Po(p_e:bG):Mo (Bool):=
 .oV 8003 (decide ((p_e.eU:Int)<1)) [1,19] 1 (decide ((1099511627776:Int)<p_e.eU))
def Pq(p_e:bG)(r0:Bool):Mo (Bool):=
 .oV 8008 (r0) [1,24] 1 (decide ((p_e.ql:Int)<0))
def Iz(p_e:bG)(r0:Bool):Mo (Unit):=
 .rt [1,11] 1 ()
def IB(p_e:bG):Mo (Bool):=
 .iG 12003 (!decide ((p_e.jV:ByteArray)=(⟨#[]⟩:ByteArray))) (.cl (AX p_e.jV) fun r0 _=>
 .rt [1,25] 1 (!r0))<|
 .rt [1,25] 1 (false)
def IC(p_e:bG):Mo (Int):=
 .iB (p_e.dA.au==9) (.rt [1,4] 1 (3))<|
 .rt [1,4] 1 (7)
def pF(p_e:bG)(r0:Int):(Int)→Mo ((Int)⊕(Int)⊕Unit):=fun(v0)=>
 .nu p_e.dA.aY ak.lf<|
 .iB (decide ((v0:Int)<(p_e.dA.aY.length:Int))) (.gx ak.aS p_e.dA.aY v0 fun x0 _=>
 .cl (ajQ x0 2 r0) fun r1 _=>
 .iB (r1 != 0) (.ret ⟨[.kill 0],[2],[],1⟩ (.inr (.inl (r1))))<|
 .rt [1,4,5] 1 (.inl (IntKind.wrap .i64 (v0+1))))<|
 .ret ⟨[.kill 0],[],[],1⟩ (.inr (.inr (())))
def afp(p_e:bG):Mo (Int):=
 .iB (decide ((p_e.rD:Int)<0)) (.ret (aX 1) (24))<|
 .sf Tryz.f12 0 [1,0,0,1,1,0] 0 8 3 [(1,.ptr 0 0)] [jB p_e] 19 (Po p_e) fun r0=>
 .sb Tryz.f12 0 [1,0,0,1,1,0] 8 5 3 [(1,.ptr 0 0)] [jB p_e] 19 24 r0 (Pq p_e r0) fun r1=>
 .sk Tryz.f12 0 [1,0,0,1,1,0] 13 1 3 (fun r_=>⟨[(1,.ptr 0 0),(11,.b_ r1)],[jB p_e]⟩) ⟨[(1,.ptr 0 0),(24,.b_ r1)],[jB p_e]⟩ (Iz p_e r1) fun r2=>
 .iB (r1) (.ret (aX 1) (1))<|
 .jk Tryz.f12 0 [1,0,0,1,1,1,1,0] 17 (fun r_=>⟨[(1,.ptr 0 0),(25,.b_ r_)],[jB p_e]⟩) ⟨[(1,.ptr 0 0)],[jB p_e]⟩ (IB p_e) fun r3=>
 .iB (r3) (.ret (aX 1) (9))<|
 .cl (ajQ p_e.dA 1 12) fun r4 _=>
 .iB (r4 != 0) (.ret (aX 1) (r4))<|
 .jk Tryz.f12 0 [1,1,1,1,0,1] 1 (fun r_=>⟨[(1,.ptr 0 0),(4,.i_ r_)],[jB p_e]⟩) ⟨[(1,.ptr 0 0),(4,.i_ 7),(44,.lf (.bool (p_e.dA.au==9)))],[jB p_e]⟩ (IC p_e) fun r5=>
 .l2 Tryz.f12 0 [1,1,1,1,1,0,1,0] 0 (fun(v0)=>⟨[(1,.ptr 0 0),(4,.i_ r5),(5,.i_ v0)],[jB p_e]⟩) .ret (fun o_=>⟨[(2,.i_ o_)],[.dead]⟩) (.exit 1) (fun _=>⟨[],[.dead]⟩) (pF p_e r5) (0) (fun o0=>
 .ret (aX 1) (o0)) fun o1=>
 .ret (aX 1) (0)
def Q23(p_e:bG):Option (Int):=Mo.den (afp p_e)
theorem amB(p_e:bG):FV (Q23 p_e) 12 [.dat (bG.lf1 p_e)] .i_:=bW Tryz.func12
end
end Go.Proofs.YtflpefkohpjjpaaGreatDoor
set_option linter.unusedSimpArgs false
set_option linter.unusedVariables false
namespace Go.Proofs.YtflpefkohpjjpaaGreatDoor
open Go.RowKit
theorem jv(s:ByteArray)(k:Nat)(h:k<s.size):iw s (k:Int)=some s[k]:=by
 unfold iw;rw[if_pos (by omega),Int.toNat_natCast];exact getElem?_pos s k h
theorem AZ{α:Type}(l:List α)(k:Nat)(h:k<l.length):ig l (k:Int)=some l[k]:=by
 rw[BX,List.getElem?_eq_getElem h]
theorem iZ{α:Type}(f:α→List Lf){x:α}:∀{l:List α},x∈l→aP (f x)≤bK (l.map f)
 |y::r,h=>by
  simp only[List.map_cons,bK]
  rcases List.mem_cons.1 h with rfl|h
  ·omega
  ·have:=iZ f h;omega
theorem gW{α:Type}(f:α→List Lf)(hf:∀x,1≤aP (f x)):∀l:List α,l.length≤bK (l.map f)
 |[]=>by simp
 |x::r=>by have:=gW f hf r;have:=hf x;simp only[List.map_cons,List.length_cons,bK];omega
theorem bQ(v:ah):aP v.lf1=5+v.fText.size+bK (v.aU.map ah.lf)+bK (v.aT.map ay.lf):=by simp only[ah.lf1,aP,Lf.bulk];omega
theorem dY(v:ay):aP v.lf1=1+v.fName.size+aP v.fValue.lf1:=by simp only[ay.lf1,fQ,aP,Lf.bulk];omega
theorem kD(v:bn):aP v.lf1=2+bK (v.cZ.map lfS):=by simp only[bn.lf1,aP,Lf.bulk];omega
theorem vM(v:bT):aP v.lf1=2:=by simp only[bT.lf1,aP,Lf.bulk]
theorem kE(v:dJ):aP v.lf1=3+bK (v.cO.map bT.lf):=by simp only[dJ.lf1,aP,Lf.bulk];omega
theorem gK(v:aO):aP v.lf1=6+bK (v.cZ.map lfS)+v.fName.size+bK (v.eG.map lfS)+aP v.fArg.lf1+bK (v.bM.map aO.lf):=by simp only[aO.lf1,fQ,aP,Lf.bulk];omega
theorem iC(v:aN):aP v.lf1=6+bK (v.cZ.map lfS)+aP v.fArg.lf1+bK (v.fArgs.map ah.lf)+aP v.dO.lf1+aP v.fExpr.lf1+bK (v.bM.map aN.lf):=by simp only[aN.lf1,fQ,aP,Lf.bulk];omega
theorem iE(v:aQ):aP v.lf1=6+v.fName.size+bK (v.fJ.map bn.lf)+aP v.bF.lf1:=by simp only[aQ.lf1,fQ,aP,Lf.bulk];omega
theorem pG(v:bD):aP v.lf1=1+v.fName.size+aP v.bC.lf1:=by simp only[bD.lf1,fQ,aP,Lf.bulk];omega
theorem gQ(v:aH):aP v.lf1=11+aP v.jK.lf1+aP v.jL.lf1+bK (v.jS.map ah.lf)+bK (v.eY.map lfS)+bK (v.dR.map bD.lf)+bK (v.fB.map aH.lf):=by simp only[aH.lf1,fQ,aP,Lf.bulk];omega
theorem kY(v:bU):aP v.lf1=4+v.fName.size+bK (v.dw.map aQ.lf)+aP v.bC.lf1:=by simp only[bU.lf1,fQ,aP,Lf.bulk];omega
theorem fK(v:ak):aP v.lf1=7+v.fC.size+aP v.fO.lf1+aP v.aT.lf1+aP v.dG.lf1+aP v.dh.lf1+aP v.bf.lf1+v.nN.size+bK (v.aY.map ak.lf)+bK (v.dK.map lfI):=by simp only[ak.lf1,fQ,aP,Lf.bulk];omega
theorem kZ(v:bG):aP v.lf1=4+v.jV.size+aP v.dA.lf1:=by simp only[bG.lf1,fQ,aP,Lf.bulk];omega
theorem TA(s:ByteArray):aP (lfS s)=s.size+1:=by simp only[lfS,aP,Lf.bulk,Nat.add_zero]
theorem amC(n:Int):aP (lfI n)=1:=by simp only[lfI,aP,Lf.bulk]
theorem fG(l:List ah):l.length≤bK (l.map ah.lf):=gW _ (fun x=>by rw[ah.aS,bQ];omega) l
theorem fH(l:List ay):l.length≤bK (l.map ay.lf):=gW _ (fun x=>by rw[ay.aS,dY];omega) l
theorem ni(l:List bn):l.length≤bK (l.map bn.lf):=gW _ (fun x=>by rw[bn.aS,kD];omega) l
theorem lg(l:List bT):l.length≤bK (l.map bT.lf):=gW _ (fun x=>by have:=vM x;rw[bT.aS];omega) l
theorem kF(l:List aO):l.length≤bK (l.map aO.lf):=gW _ (fun x=>by rw[aO.aS,gK];omega) l
theorem lq(l:List aN):l.length≤bK (l.map aN.lf):=gW _ (fun x=>by rw[aN.aS,iC];omega) l
theorem lN(l:List aQ):l.length≤bK (l.map aQ.lf):=gW _ (fun x=>by rw[aQ.aS,iE];omega) l
theorem mQ(l:List bD):l.length≤bK (l.map bD.lf):=gW _ (fun x=>by rw[bD.aS,pG];omega) l
theorem lQ(l:List aH):l.length≤bK (l.map aH.lf):=gW _ (fun x=>by rw[aH.aS,gQ];omega) l
theorem iM(l:List ak):l.length≤bK (l.map ak.lf):=gW _ (fun x=>by rw[ak.aS,fK];omega) l
theorem dM(l:List ByteArray):l.length≤bK (l.map lfS):=gW _ (fun x=>by rw[TA];omega) l
theorem ny(l:List Int):l.length≤bK (l.map lfI):=gW _ (fun x=>by rw[amC];omega) l
theorem iK{x:ah}{l:List ah}(h:x∈l):aP x.lf1≤bK (l.map ah.lf):=by rw[←ah.aS];exact iZ _ h
theorem fE{x:ay}{l:List ay}(h:x∈l):aP x.lf1≤bK (l.map ay.lf):=by rw[←ay.aS];exact iZ _ h
theorem mV{x:bn}{l:List bn}(h:x∈l):aP x.lf1≤bK (l.map bn.lf):=iZ _ h
theorem pI{x:aO}{l:List aO}(h:x∈l):aP x.lf1≤bK (l.map aO.lf):=by rw[←aO.aS];exact iZ _ h
theorem sD{x:aN}{l:List aN}(h:x∈l):aP x.lf1≤bK (l.map aN.lf):=by rw[←aN.aS];exact iZ _ h
theorem pJ{x:aQ}{l:List aQ}(h:x∈l):aP x.lf1≤bK (l.map aQ.lf):=iZ _ h
theorem yh{x:bD}{l:List bD}(h:x∈l):aP x.lf1≤bK (l.map bD.lf):=by rw[←bD.aS];exact iZ _ h
theorem qL{x:aH}{l:List aH}(h:x∈l):aP x.lf1≤bK (l.map aH.lf):=by rw[←aH.aS];exact iZ _ h
theorem jR{x:ak}{l:List ak}(h:x∈l):aP x.lf1≤bK (l.map ak.lf):=by rw[←ak.aS];exact iZ _ h
theorem lH{x:ByteArray}{l:List ByteArray}(h:x∈l):x.size+1≤bK (l.map lfS):=by rw[←TA];exact iZ _ h
theorem gJ(x:Int):(strOfNums [x]).size=1:=by rw[yK];rfl
theorem Wi(n:Int):∃r,Q49 n=some r∧r.size≤11:=by
 unfold Q49 ajk NJ GH NK
 simp only[Mo.den,aG,aF,aB,aJ]
 have key:∀a:Int,∃r,((bP (fun v_:Int×ByteArray×Int=>(bif decide ((v_.2.2:Int)<10) then some (decide ((128:Int)≤v_.1)) else some false).bind fun a_1=>bif a_1 then if v_.2.1.size+(strOfNums [dI .or .u8 (IntKind.wrap .u8 (Int.tmod v_.1 128)) 128]).size≤9223372036854775807 then some (.inl (IntKind.wrap .u64 (Int.tdiv v_.1 128),v_.2.1++strOfNums [dI .or .u8 (IntKind.wrap .u8 (Int.tmod v_.1 128)) 128],IntKind.wrap .i64 (v_.2.2+1))) else none else some (.inr (v_.1,v_.2.1))) FU (a,⟨#[]⟩,0))=some r)∧(r:Int×ByteArray).2.size≤10:=by
  intro a
  refine BZ 10 (by omega) (fun(k:Nat) (v:Int×ByteArray×Int)=>v.2.2=(k:Int)∧v.2.1.size=k) (fun(r:Int×ByteArray)=>r.2.size≤10) ⟨rfl,rfl⟩ ?_ ?_
  ·rintro k ⟨u,s,i⟩ hk ⟨h1,h2⟩
   simp only at h1 h2
   subst h1
   simp only[decide_eq_true (show(k:Int)<10 by omega),cond_true,Option.bind_some]
   cases decide ((128:Int)≤u) with
   |true=>
    left
    simp only[cond_true,gJ,h2]
    rw[if_pos (by omega)]
    exact⟨_,rfl,inc k (by omega),by rw[ByteArray.size_append,gJ,h2]⟩
   |false=>right;exact⟨_,rfl,by simp only;omega⟩
  ·rintro⟨u,s,i⟩ ⟨h1,h2⟩
   simp only at h1 h2
   subst h1
   exact⟨_,rfl,by simp only;omega⟩
 have fin:∀a:Int,∃r,(Option.bind (bP (fun v_:Int×ByteArray×Int=>(bif decide ((v_.2.2:Int)<10) then some (decide ((128:Int)≤v_.1)) else some false).bind fun a_1=>bif a_1 then if v_.2.1.size+(strOfNums [dI .or .u8 (IntKind.wrap .u8 (Int.tmod v_.1 128)) 128]).size≤9223372036854775807 then some (.inl (IntKind.wrap .u64 (Int.tdiv v_.1 128),v_.2.1++strOfNums [dI .or .u8 (IntKind.wrap .u8 (Int.tmod v_.1 128)) 128],IntKind.wrap .i64 (v_.2.2+1))) else none else some (.inr (v_.1,v_.2.1))) FU (a,⟨#[]⟩,0)) (fun r:Int×ByteArray=>if r.2.size+(strOfNums [IntKind.wrap .u8 r.1]).size≤9223372036854775807 then some (r.2++strOfNums [IntKind.wrap .u8 r.1]) else none))=some r∧r.size≤11:=by
  intro a
  obtain⟨r,h1,h2⟩:=key a
  rw[h1]
  simp only[Option.bind_some,gJ]
  rw[if_pos (by omega)]
  exact⟨_,rfl,by rw[ByteArray.size_append,gJ];omega⟩
 cases decide (n<0)
 ·exact fin _
 ·exact fin _
noncomputable def DX(n:Int):ByteArray:=(Q49 n).getD ⟨#[]⟩
theorem KZ(n:Int):Q49 n=some (DX n):=by
 obtain⟨r,h,_⟩:=Wi n
 unfold DX;rw[h];rfl
theorem um(n:Int):(DX n).size≤11:=by
 obtain⟨r,h,h2⟩:=Wi n
 unfold DX;rw[h];exact h2
end Go.Proofs.YtflpefkohpjjpaaGreatDoor
set_option linter.unusedSimpArgs false
set_option linter.unusedVariables false
namespace Go.Proofs.YtflpefkohpjjpaaGreatDoor
open Go.RowKit
mutual
noncomputable def wrF:Lf→ByteArray
 |.int _ n=>DX n
 |.str s=>DX (s.size:Int)++s
 |.bool b=>if b then⟨#[1]⟩ else⟨#[0]⟩
 |.rows _ l=>DX (l.length:Int)++wrQ l
noncomputable def wrQ:List (List Lf)→ByteArray
 |[]=>ByteArray.empty
 |r::q=>wrL r++wrQ q
noncomputable def wrL:List Lf→ByteArray
 |[]=>ByteArray.empty
 |x::r=>wrF x++wrL r
end
theorem mJ(r s:List Lf):wrL (r++s)=wrL r++wrL s:=by
 induction r with
 |nil=>simp[wrL]
 |cons x r ih=>simp only[List.cons_append,wrL,ih,ByteArray.append_assoc]
theorem Wj(b:UInt8):(⟨#[b]⟩:ByteArray).size=1:=rfl
mutual
theorem amD:∀x:Lf,(wrF x).size≤12*x.bulk
 |.int _ n=>by have:=um n;simp only[wrF,Lf.bulk];omega
 |.str s=>by have:=um (s.size:Int);simp only[wrF,Lf.bulk,ByteArray.size_append];omega
 |.bool b=>by cases b<;>simp[wrF,Lf.bulk,Wj]
 |.rows _ l=>by have:=um (l.length:Int);have:=afq l;simp only[wrF,Lf.bulk,ByteArray.size_append];omega
theorem afq:∀l:List (List Lf),(wrQ l).size≤12*bK l
 |[]=>by simp[wrQ,bK]
 |r::q=>by have:=vN r;have:=afq q;simp only[wrQ,bK,ByteArray.size_append];omega
theorem vN:∀l:List Lf,(wrL l).size≤12*aP l
 |[]=>by simp[wrL,aP]
 |x::r=>by have:=amD x;have:=vN r;simp only[wrL,aP,ByteArray.size_append];omega
end
def Ap(m:aI→Option aI)(s:ByteArray):Prop:=∀b,b.qV=true→b.fS.size+s.size≤4611686018427387904→m b=some ⟨b.fS++s,b.wI,b.qV⟩
theorem Ap.bind{m k:aI→Option aI}{s t:ByteArray}(h:Ap m s)(h2:Ap k t):Ap (fun b=>(m b).bind k) (s++t):=by
 intro b hb hs
 rw[ByteArray.size_append] at hs
 show(m b).bind k=_
 rw[h b hb (by omega),Option.bind_some]
 refine(h2 ⟨b.fS++s,b.wI,b.qV⟩ hb (by simp only[ByteArray.size_append];omega)).trans ?_
 simp only[ByteArray.append_assoc]
theorem Ap.to{m:aI→Option aI}{s t:ByteArray}(h:Ap m s)(e:s=t):Ap m t:=e▸h
theorem Ap.nil:Ap some ByteArray.empty:=fun b _ _=>by rw[ByteArray.append_empty]
theorem Ap.of{m k:aI→Option aI}{s:ByteArray}(h:Ap k s)(e:∀b,b.qV=true→m b=k b):Ap m s:=fun b hb hs=>by rw[e b hb];exact h b hb hs
theorem Ap.loop{α:Type}(f:α→List Lf)(l:List α)(g:α→aI→Option aI)(T:Int×aI→Option ((Int×aI)⊕aI))(hl:l.length≤1000000000)
 (hg:∀x∈l,Ap (g x) (wrL (f x)))
 (hT:∀(k:Nat) s,(∀x,l[k]?=some x→T ((k:Int),s)=(g x s).bind fun r=>some (.inl (IntKind.wrap .i64 ((k:Int)+1),r)))∧(l[k]?=none→T ((k:Int),s)=some (.inr s))):
 Ap (fun b=>bP T FU (0,b)) (wrQ (l.map f)):=by
 intro b hb hs
 have key:∀(m:List α) (k:Nat) (b:aI) (n:Nat),l.drop k=m→m.length<n→b.qV=true→b.fS.size+(wrQ (m.map f)).size≤4611686018427387904→
  bP T n ((k:Int),b)=some ⟨b.fS++wrQ (m.map f),b.wI,b.qV⟩:=by
  intro m
  induction m with
  |nil=>
   intro k b n hd hn hb hs
   obtain⟨n,rfl⟩:∃j,n=j+1:=⟨n-1,by simp at hn;omega⟩
   have h1:l[k]?=none:=by
    have:=congrArg List.length hd
    simp only[List.length_drop,List.length_nil] at this
    rw[List.getElem?_eq_none];omega
   unfold bP
   rw[(hT k b).2 h1]
   simp only[List.map_nil,wrQ,ByteArray.append_empty,Option.bind_some]
  |cons x m ih=>
   intro k b n hd hn hb hs
   obtain⟨n,rfl⟩:∃j,n=j+1:=⟨n-1,by simp at hn;omega⟩
   have h1:l[k]?=some x:=by rw[←List.head?_drop,hd];rfl
   have h2:l.drop (k+1)=m:=by rw[←List.tail_drop,hd];rfl
   have hk:k<l.length:=(List.getElem?_eq_some_iff.1 h1).1
   simp only[List.map_cons,wrQ,ByteArray.size_append] at hs
   unfold bP
   rw[(hT k b).1 x h1,hg x (List.mem_of_getElem? h1) b hb (by omega)]
   simp only[Option.bind_some]
   rw[inc k (by omega)]
   refine(ih (k+1) ⟨b.fS++wrL (f x),b.wI,b.qV⟩ n h2 (by simp at hn;omega) hb (by simp only[ByteArray.size_append];omega)).trans ?_
   simp only[List.map_cons,wrQ,ByteArray.append_assoc]
 exact key l 0 b FU rfl (mZ (by omega)) hb hs
theorem fD(n:Int):Ap (Q6 n) (DX n):=by
 intro b _ hs
 unfold Q6 anN
 simp only[Mo.den,aB,aJ,KZ,Option.bind_some]
 rw[if_pos (by omega)]
theorem oL(s:ByteArray):Ap (Q50 s) (DX (s.size:Int)++s):=by
 intro b hb hs
 rw[ByteArray.size_append] at hs
 unfold Q50 ajl
 simp only[Mo.den,aB,aJ]
 rw[fD _ b hb (by omega)]
 simp only[Option.bind_some,ByteArray.size_append]
 rw[if_pos (by omega)]
 simp only[ByteArray.append_assoc]
theorem mM(c:Bool):Ap (Q59 c) (wrF (.bool c)):=by
 intro b hb hs
 unfold Q59 ajq
 simp only[Mo.den,aB,aF,aJ,Wj]
 cases c
 ·simp only[wrF,cond_false,Bool.false_eq_true,if_false,Wj] at hs ⊢;rw[if_pos (by omega)]
 ·simp only[wrF,cond_true,if_true,Wj] at hs ⊢;rw[if_pos (by omega)]
theorem dZ{α:Type}(l:List α)(k:Nat):(∀x,l[k]?=some x→decide ((k:Int)<(l.length:Int))=true∧ig l (k:Int)=some x)∧(l[k]?=none→decide ((k:Int)<(l.length:Int))=false):=by
 refine⟨fun x h=>?_,fun h=>?_⟩
 ·have:=(List.getElem?_eq_some_iff.1 h).1
  exact⟨iLt this,by rw[BX,h]⟩
 ·rw[List.getElem?_eq_none_iff] at h
  exact Xh (by omega)
theorem Ap.of'{m k:aI→Option aI}{s t:ByteArray}(e:∀b,b.qV=true→m b=k b)(h:Ap k s)(hs:s=t):Ap m t:=hs▸Ap.of h e
theorem yj(l:List ByteArray)(hl:l.length≤1000000000):Ap (Q34 l) (wrF (.rows 1 (l.map lfS))):=by
 have hL:Ap (Sj l 0) (wrQ (l.map lfS)):=by
  refine Ap.of' (fun b hb=>by unfold Sj;rfl) (Ap.loop lfS l Q50 _ hl (fun x _=>(oL x).to (by simp only[lfS,wrL,wrF,ByteArray.append_empty])) fun k s=>⟨fun x h=>?_,fun h=>?_⟩) rfl
  ·obtain⟨h1,h2⟩:=(dZ l k).1 x h
   simp only[xG,Mo.den,aB,aF,h1,h2,cond_true,Option.bind_some]
  ·simp only[xG,Mo.den,aB,aF,(dZ l k).2 h,cond_false]
 refine Ap.of' (fun b hb=>?_) (Ap.bind (fD (l.length:Int)) (Ap.bind hL Ap.nil)) ?_
 ·simp only[Q34,ajp,Mo.den,aB]
 ·simp only[wrF,List.length_map,ByteArray.append_empty]
end Go.Proofs.YtflpefkohpjjpaaGreatDoor
set_option linter.unusedSimpArgs false
set_option linter.unusedVariables false
namespace Go.Proofs.YtflpefkohpjjpaaGreatDoor
open Go.RowKit
theorem afr(x:dJ)(hb:aP x.lf1≤100000000):Ap (Q58 x) (wrL x.lf1):=by
 have hl:=lg x.cO
 rw[kE] at hb
 have hL:Ap (Sl x 0) (wrQ (x.cO.map bT.lf)):=by
  refine Ap.of' (fun b hb=>by unfold Sl;rfl) (Ap.loop bT.lf x.cO (fun p b=>(Q6 p.fX b).bind fun r=>Q6 p.fY r) _ (by omega) (fun x hx=>(Ap.bind (fD _) (fD _)).to (by simp only[bT.lf,bT.lf1,wrL,wrF,ByteArray.append_empty])) fun k s=>⟨fun y h=>?_,fun h=>?_⟩) rfl
  ·obtain⟨h1,h2⟩:=(dZ x.cO k).1 y h
   simp only[xH,Mo.den,aB,aF,h1,h2,cond_true,Option.bind_some,Option.bind_assoc]
  ·simp only[xH,Mo.den,aB,aF,(dZ x.cO k).2 h,cond_false]
 refine Ap.of' (fun b hb=>?_) (Ap.bind (fD (x.au)) (Ap.bind (fD ((x.cO.length:Int))) (Ap.bind hL (Ap.bind (fD (x.fR)) Ap.nil)))) ?_
 ·simp only[Q58,ajr,Mo.den,aB,aF]
 ·simp only[dJ.lf1,wrL,wrF,List.length_map,ByteArray.append_empty,ByteArray.append_assoc]
theorem La:∀n,(∀v:ah,2*aP v.lf1<n→aP v.lf1≤100000000→Ap ((jU n).m1 v) (wrL v.lf1))∧∀l:List ah,2*bK (l.map ah.lf)+1<n→bK (l.map ah.lf)≤100000000→Ap ((jU n).m2 l) (wrF (.rows 5 (l.map ah.lf)))
 |0=>⟨fun v h=>by omega,fun l h=>by omega⟩
 |n+1=>by
  have ih:=La n
  refine⟨fun x h hb=>?_,fun l h hb=>?_⟩
  ·have hl:=fH x.aT
   rw[bQ] at h hb
   have hL:Ap (RZ (jU n) x 0) (wrQ (x.aT.map ay.lf)):=by
    refine Ap.of' (fun b hb=>by unfold RZ;rfl) (Ap.loop ay.lf x.aT (fun p b=>(Q50 p.fName b).bind fun r=>(jU n).m1 p.fValue r) _ (by omega) (fun x hx=>by have h1:=fE hx;rw[dY] at h1;exact(Ap.bind (oL _) (ih.1 _ (by omega) (by omega))).to (by rw[ay.aS];simp only[ay.lf1,mJ,wrL,wrF,ByteArray.append_empty])) fun k s=>⟨fun y h=>?_,fun h=>?_⟩) rfl
    ·obtain⟨h1,h2⟩:=(dZ x.aT k).1 y h
     simp only[xC,Mo.den,aB,aF,h1,h2,cond_true,Option.bind_some,Option.bind_assoc]
    ·simp only[xC,Mo.den,aB,aF,(dZ x.aT k).2 h,cond_false]
   refine Ap.of' (fun b hr=>?_) (Ap.bind (fD (x.au)) (Ap.bind (fD (x.dD)) (Ap.bind (oL (x.fText)) (Ap.bind (ih.2 x.aU (by omega) (by omega)) (Ap.bind (fD ((x.aT.length:Int))) (Ap.bind hL Ap.nil)))))) ?_
   ·simp only[jU,adB,Mo.den,aB,aF,hr,cond_true]
   ·simp only[ah.lf1,wrL,wrF,List.length_map,ByteArray.append_empty,ByteArray.append_assoc]
  ·have hl:=fG l
   have hL:Ap (Si (jU n) l 0) (wrQ (l.map ah.lf)):=by
    refine Ap.of' (fun b hb=>by unfold Si;rfl) (Ap.loop ah.lf l (fun p b=>(jU n).m1 p b) _ (by omega) (fun x hx=>by have h1:=iK hx;exact(ih.1 _ (by omega) (by omega)).to (by rw[ah.aS])) fun k s=>⟨fun y h=>?_,fun h=>?_⟩) rfl
    ·obtain⟨h1,h2⟩:=(dZ l k).1 y h
     simp only[xE,Mo.den,aB,aF,h1,h2,cond_true,Option.bind_some,Option.bind_assoc]
    ·simp only[xE,Mo.den,aB,aF,(dZ l k).2 h,cond_false]
   refine Ap.of' (fun b hr=>?_) (Ap.bind (fD ((l.length:Int))) (Ap.bind hL Ap.nil)) ?_
   ·simp only[jU,adC,Mo.den,aB,aF]
   ·simp only[wrF,List.length_map,ByteArray.append_empty]
theorem nC(v:ah)(hb:aP v.lf1≤100000000):Ap (Q24 v) (wrL v.lf1):=(La FU).1 v (mZ (by omega)) hb
theorem IE(l:List ah)(hb:bK (l.map ah.lf)≤100000000):Ap (Q38 l) (wrF (.rows 5 (l.map ah.lf))):=(La FU).2 l (mZ (by omega)) hb
theorem afs(n:Nat):∀x:aO,aP x.lf1<n→aP x.lf1≤100000000→Ap ((rY n).m1 x) (wrL x.lf1):=by
 induction n with
 |zero=>intro x h _;omega
 |succ n ih=>
  intro x h hb
  have hl:=kF x.bM
  have hl1:=dM x.cZ
  have hl2:=dM x.eG
  rw[gK] at h hb
  have hL:Ap (Sm (rY n) x 0) (wrQ (x.bM.map aO.lf)):=by
   refine Ap.of' (fun b hb=>by unfold Sm;rfl) (Ap.loop aO.lf x.bM (fun p b=>(rY n).m1 p b) _ (by omega) (fun x hx=>by have h1:=pI hx;exact(ih _ (by omega) (by omega)).to (by rw[aO.aS])) fun k s=>⟨fun y h=>?_,fun h=>?_⟩) rfl
   ·obtain⟨h1,h2⟩:=(dZ x.bM k).1 y h
    simp only[xI,Mo.den,aB,aF,h1,h2,cond_true,Option.bind_some,Option.bind_assoc]
   ·simp only[xI,Mo.den,aB,aF,(dZ x.bM k).2 h,cond_false]
  refine Ap.of' (fun b hr=>?_) (Ap.bind (fD (x.fOp)) (Ap.bind (yj (x.cZ) (by omega)) (Ap.bind (oL (x.fName)) (Ap.bind (yj (x.eG) (by omega)) (Ap.bind (nC (x.fArg) (by omega)) (Ap.bind (fD (x.fN)) (Ap.bind (fD ((x.bM.length:Int))) (Ap.bind hL Ap.nil)))))))) ?_
  ·simp only[rY,adF,Mo.den,aB,aF]
  ·simp only[aO.lf1,mJ,wrL,wrF,List.length_map,ByteArray.append_empty,ByteArray.append_assoc]
theorem aiJ(v:aO)(hb:aP v.lf1≤100000000):Ap (Q45 v) (wrL v.lf1):=afs FU v (mZ (by omega)) hb
theorem aft(n:Nat):∀x:aN,aP x.lf1<n→aP x.lf1≤100000000→Ap ((rZ n).m1 x) (wrL x.lf1):=by
 induction n with
 |zero=>intro x h _;omega
 |succ n ih=>
  intro x h hb
  have hl:=lq x.bM
  have hl1:=dM x.cZ
  rw[iC] at h hb
  have hL:Ap (Sr (rZ n) x 0) (wrQ (x.bM.map aN.lf)):=by
   refine Ap.of' (fun b hb=>by unfold Sr;rfl) (Ap.loop aN.lf x.bM (fun p b=>(rZ n).m1 p b) _ (by omega) (fun x hx=>by have h1:=sD hx;exact(ih _ (by omega) (by omega)).to (by rw[aN.aS])) fun k s=>⟨fun y h=>?_,fun h=>?_⟩) rfl
   ·obtain⟨h1,h2⟩:=(dZ x.bM k).1 y h
    simp only[xJ,Mo.den,aB,aF,h1,h2,cond_true,Option.bind_some,Option.bind_assoc]
   ·simp only[xJ,Mo.den,aB,aF,(dZ x.bM k).2 h,cond_false]
  refine Ap.of' (fun b hr=>?_) (Ap.bind (fD (x.fOp)) (Ap.bind (yj (x.cZ) (by omega)) (Ap.bind (nC (x.fArg) (by omega)) (Ap.bind (IE (x.fArgs) (by omega)) (Ap.bind (fD (x.fN)) (Ap.bind (fD (x.fM)) (Ap.bind (afr (x.dO) (by omega)) (Ap.bind (aiJ (x.fExpr) (by omega)) (Ap.bind (fD ((x.bM.length:Int))) (Ap.bind hL Ap.nil)))))))))) ?_
  ·simp only[rZ,adH,Mo.den,aB,aF]
  ·simp only[aN.lf1,mJ,wrL,wrF,List.length_map,ByteArray.append_empty,ByteArray.append_assoc]
theorem aiK(v:aN)(hb:aP v.lf1≤100000000):Ap (Q53 v) (wrL v.lf1):=aft FU v (mZ (by omega)) hb
theorem yt(x:aQ)(hb:aP x.lf1≤100000000):Ap (Q35 x) (wrL x.lf1):=by
 have hl:=ni x.fJ
 rw[iE] at hb
 have hL:Ap (Sv x 0) (wrQ (x.fJ.map bn.lf)):=by
  refine Ap.of' (fun b hb=>by unfold Sv;rfl) (Ap.loop bn.lf x.fJ (fun p b=>(Q34 p.cZ b).bind fun r=>Q59 p.FY r) _ (by omega) (fun x hx=>by have h1:=mV hx;rw[kD] at h1;have h2:=dM x.cZ;exact(Ap.bind (yj _ (by omega)) (mM _)).to (by simp only[bn.lf,bn.lf1,wrL,ByteArray.append_empty])) fun k s=>⟨fun y h=>?_,fun h=>?_⟩) rfl
  ·obtain⟨h1,h2⟩:=(dZ x.fJ k).1 y h
   simp only[xK,Mo.den,aB,aF,h1,h2,cond_true,Option.bind_some,Option.bind_assoc]
  ·simp only[xK,Mo.den,aB,aF,(dZ x.fJ k).2 h,cond_false]
 refine Ap.of' (fun b hb=>?_) (Ap.bind (oL (x.fName)) (Ap.bind (fD (x.au)) (Ap.bind (fD ((x.fJ.length:Int))) (Ap.bind hL (Ap.bind (mM (x.fF)) (Ap.bind (mM (x.jh)) (Ap.bind (mM (x.iF)) (Ap.bind (aiK (x.bF) (by omega)) Ap.nil)))))))) ?_
 ·simp only[Q35,ajs,Mo.den,aB,aF]
 ·simp only[aQ.lf1,mJ,wrL,wrF,List.length_map,ByteArray.append_empty,ByteArray.append_assoc]
theorem TB(n:Nat):∀x:aH,aP x.lf1<n→aP x.lf1≤100000000→Ap ((oJ n).m1 x) (wrL x.lf1):=by
 induction n with
 |zero=>intro x h _;omega
 |succ n ih=>
  intro x h hb
  have hl:=mQ x.dR
  have hl1:=lQ x.fB
  have hl2:=dM x.eY
  rw[gQ] at h hb
  have hL:Ap (SA (oJ n) x 0) (wrQ (x.dR.map bD.lf)):=by
   refine Ap.of' (fun b hb=>by unfold SA;rfl) (Ap.loop bD.lf x.dR (fun p b=>(Q50 p.fName b).bind fun r=>(oJ n).m1 p.bC r) _ (by omega) (fun x hx=>by have h1:=yh hx;rw[pG] at h1;exact(Ap.bind (oL _) (ih _ (by omega) (by omega))).to (by rw[bD.aS];simp only[bD.lf1,mJ,wrL,wrF,ByteArray.append_empty])) fun k s=>⟨fun y h=>?_,fun h=>?_⟩) rfl
   ·obtain⟨h1,h2⟩:=(dZ x.dR k).1 y h
    simp only[xM,Mo.den,aB,aF,h1,h2,cond_true,Option.bind_some,Option.bind_assoc]
   ·simp only[xM,Mo.den,aB,aF,(dZ x.dR k).2 h,cond_false]
  have hL2:Ap (SB (oJ n) x 0) (wrQ (x.fB.map aH.lf)):=by
   refine Ap.of' (fun b hb=>by unfold SB;rfl) (Ap.loop aH.lf x.fB (fun p b=>(oJ n).m1 p b) _ (by omega) (fun x hx=>by have h1:=qL hx;exact(ih _ (by omega) (by omega)).to (by rw[aH.aS])) fun k s=>⟨fun y h=>?_,fun h=>?_⟩) rfl
   ·obtain⟨h1,h2⟩:=(dZ x.fB k).1 y h
    simp only[xO,Mo.den,aB,aF,h1,h2,cond_true,Option.bind_some,Option.bind_assoc]
   ·simp only[xO,Mo.den,aB,aF,(dZ x.fB k).2 h,cond_false]
  refine Ap.of' (fun b hr=>?_) (Ap.bind (fD (x.ji)) (Ap.bind (mM (x.jl)) (Ap.bind (nC (x.jK) (by omega)) (Ap.bind (mM (x.jm)) (Ap.bind (nC (x.jL) (by omega)) (Ap.bind (IE (x.jS) (by omega)) (Ap.bind (fD (x.jo)) (Ap.bind (fD (x.jq)) (Ap.bind (yj (x.eY) (by omega)) (Ap.bind (fD ((x.dR.length:Int))) (Ap.bind hL (Ap.bind (mM (x.jQ)) (Ap.bind (fD ((x.fB.length:Int))) (Ap.bind hL2 (Ap.bind (mM (x.fF)) Ap.nil))))))))))))))) ?_
  ·simp only[oJ,adI,Mo.den,aB,aF]
  ·simp only[aH.lf1,mJ,wrL,wrF,List.length_map,ByteArray.append_empty,ByteArray.append_assoc]
theorem aaf(v:aH)(hb:aP v.lf1≤100000000):Ap (Q19 v) (wrL v.lf1):=TB FU v (mZ (by omega)) hb
theorem DY(x:bU)(hb:aP x.lf1≤100000000):Ap (Q42 x) (wrL x.lf1):=by
 have hl:=lN x.dw
 rw[kY] at hb
 have hL:Ap (SC x 0) (wrQ (x.dw.map aQ.lf)):=by
  refine Ap.of' (fun b hb=>by unfold SC;rfl) (Ap.loop aQ.lf x.dw (fun p b=>Q35 p b) _ (by omega) (fun x hx=>by have h1:=pJ hx;exact yt _ (by omega)) fun k s=>⟨fun y h=>?_,fun h=>?_⟩) rfl
  ·obtain⟨h1,h2⟩:=(dZ x.dw k).1 y h
   simp only[xP,Mo.den,aB,aF,h1,h2,cond_true,Option.bind_some,Option.bind_assoc]
  ·simp only[xP,Mo.den,aB,aF,(dZ x.dw k).2 h,cond_false]
 refine Ap.of' (fun b hb=>?_) (Ap.bind (oL (x.fName)) (Ap.bind (fD ((x.dw.length:Int))) (Ap.bind hL (Ap.bind (aaf (x.bC) (by omega)) (Ap.bind (fD (x.ku)) (Ap.bind (fD (x.jr)) Ap.nil)))))) ?_
 ·simp only[Q42,ajt,Mo.den,aB,aF]
 ·simp only[bU.lf1,mJ,wrL,wrF,List.length_map,ByteArray.append_empty,ByteArray.append_assoc]
end Go.Proofs.YtflpefkohpjjpaaGreatDoor
set_option linter.unusedSimpArgs false
set_option linter.unusedVariables false
namespace Go.Proofs.YtflpefkohpjjpaaGreatDoor
open Go.RowKit
theorem gX:1152921504606846975<FU:=by unfold FU;omega
def Tot{ρ:Type}(m:Option ρ)(Q:ρ→Prop):Prop:=∃r,m=some r∧Q r
def LP{σ ρ:Type}(P:σ→Prop)(Q:ρ→Prop):σ⊕ρ→Prop
 |.inl s=>P s
 |.inr r=>Q r
def Any{ρ:Type}:ρ→Prop:=fun _=>True
namespace T
variable {ρ α σ:Type}
theorem ret{Q:ρ→Prop}{r:ρ}(h:Q r):Tot (some r) Q:=⟨r,rfl,h⟩
theorem any{r:ρ}:Tot (some r) Any:=⟨r,rfl,trivial⟩
theorem bind{m:Option α}{R:α→Prop}{k:α→Option ρ}{Q:ρ→Prop}(h:Tot m R)(h2:∀a,R a→Tot (k a) Q):Tot (m.bind k) Q:=by
 obtain⟨a,rfl,ha⟩:=h
 exact h2 a ha
theorem ite{b:Bool}{x y:Option ρ}{Q:ρ→Prop}(h1:b=true→Tot x Q)(h2:b=false→Tot y Q):Tot (bif b then x else y) Q:=by
 cases b
 ·exact h2 rfl
 ·exact h1 rfl
theorem grd{p:Prop}[Decidable p]{x:Option ρ}{Q:ρ→Prop}(h:p)(h2:Tot x Q):Tot (if p then x else none) Q:=by
 rw[if_pos h];exact h2
theorem mono{m:Option ρ}{Q R:ρ→Prop}(h:Tot m Q)(h2:∀r,Q r→R r):Tot m R:=by
 obtain⟨r,h1,h3⟩:=h;exact⟨r,h1,h2 r h3⟩
theorem wk{m:Option ρ}{Q:ρ→Prop}(h:Tot m Q):Tot m Any:=mono h fun _ _=>trivial
theorem val{m:Option ρ}{r:ρ}(h:m=some r):Tot m (fun x=>x=r):=⟨r,h,rfl⟩
theorem kL{T:σ→Option (σ⊕ρ)}{s0:σ}(n:Nat)(hn:n≤1000000000)(P:Nat→σ→Prop)(Q:ρ→Prop)(h0:P 0 s0)(step:∀k s,k<n→P k s→Tot (T s) (LP (P (k+1)) Q))(fin:∀s,P n s→Tot (T s) (LP (fun _=>False) Q)):Tot (bP T FU s0) Q:=by
 refine BZ n hn P Q h0 ?_ ?_
 ·intro k s hk hP
  obtain⟨r,h1,h2⟩:=step k s hk hP
  rcases r with v|r
  ·exact .inl ⟨v,h1,h2⟩
  ·exact .inr ⟨r,h1,h2⟩
 ·intro s hP
  obtain⟨r,h1,h2⟩:=fin s hP
  rcases r with v|r
  ·exact h2.elim
  ·exact⟨r,h1,h2⟩
theorem aag{T:Int→Option (Int⊕ρ)}(n:Nat)(hn:n≤1000000000)(Q:ρ→Prop)(step:∀k:Nat,k<n→Tot (T (k:Int)) (LP (fun v=>v=IntKind.wrap .i64 ((k:Int)+1)) Q))(fin:Tot (T (n:Int)) (LP (fun _=>False) Q)):Tot (bP T FU 0) Q:=
 kL n hn (fun k v=>v=(k:Int)) Q rfl (fun k s hk hs=>by
  obtain rfl:s=(k:Int):=hs
  refine mono (step k hk) ?_
  rintro(v|r) h
  ·exact(show v=_ from h).trans (inc k (by omega))
  ·exact h) (fun s hs=>by
  obtain rfl:s=(n:Int):=hs
  exact fin)
theorem aoi{T:Int→Option (Int⊕ρ)}(l:List α)(hn:l.length≤1000000000)(Q:ρ→Prop)(step:∀(k:Nat) x,l[k]?=some x→Tot (T (k:Int)) (LP (fun v=>v=IntKind.wrap .i64 ((k:Int)+1)) Q))(fin:Tot (T (l.length:Int)) (LP (fun _=>False) Q)):Tot (bP T FU 0) Q:=
 aag l.length hn Q (fun k hk=>step k _ (List.getElem?_eq_getElem hk)) fin
end T
theorem ltt{α:Type}{l:List α}{k:Nat}{x:α}(h:l[k]?=some x):decide ((k:Int)<(l.length:Int))=true:=iLt (List.getElem?_eq_some_iff.1 h).1
theorem ltn(n:Nat):decide ((n:Int)<(n:Int))=false:=Xh (Nat.lt_irrefl _)
theorem gid{α:Type}{l:List α}{k:Nat}{x:α}(h:l[k]?=some x):ig l (k:Int)=some x:=by rw[BX,h]
theorem iU{α:Type}{l:List α}{k:Nat}{x:α}(h:l[k]?=some x):x∈l:=List.mem_of_getElem? h
theorem lu{α:Type}{l:List α}{k:Nat}{x:α}(h:l[k]?=some x):k<l.length:=(List.getElem?_eq_some_iff.1 h).1
theorem IG(l m:List (List Lf)):bK (l++m)=bK l+bK m:=by
 induction l with
 |nil=>simp[bK]
 |cons x l ih=>simp only[List.cons_append,bK,ih];omega
theorem DZ{α:Type}(f:α→List Lf){l:List α}{k:Nat}{x:α}(h:l[k]?=some x):bK ((l.take (k+1)).map f)=bK ((l.take k).map f)+aP (f x):=by
 have hk:=lu h
 rw[List.take_succ_eq_append_getElem hk,List.map_append,IG]
 have:l[k]=x:=by rw[List.getElem?_eq_getElem hk] at h;injection h
 simp only[this,List.map_cons,List.map_nil,bK];omega
theorem uO{α:Type}(f:α→List Lf)(l:List α)(k:Nat):bK ((l.take k).map f)≤bK (l.map f):=by
 have:=IG ((l.take k).map f) ((l.drop k).map f)
 rw[←List.map_append,List.take_append_drop] at this;omega
def MT{ρ:Type}(t:Mo ρ)(Q:ρ→Prop):Prop:=Tot t.den Q
namespace MT
variable {ρ α β γ:Type}
theorem ret{f:Fit}{r:ρ}{Q:ρ→Prop}(h:Q r):MT (.ret f r) Q:=⟨r,rfl,h⟩
theorem any{f:Fit}{r:ρ}:MT (.ret f r) Any:=⟨r,rfl,trivial⟩
theorem say{qs:List Ans}{Φ:List Prop}{ok:dN Φ}{k:Mo ρ}{Q:ρ→Prop}(h:MT k Q):MT (.say qs ok k) Q:=h
theorem ite{b:Bool}{t:b=true→Mo ρ}{e:b=false→Mo ρ}{Q:ρ→Prop}(h1:∀h,MT (t h) Q)(h2:∀h,MT (e h) Q):MT (.ite b t e) Q:=by
 cases b
 ·exact h2 rfl
 ·exact h1 rfl
theorem grd{p:Prop}[d:Decidable p]{k:p→Mo ρ}{Q:ρ→Prop}(h:p)(h2:∀h,MT (k h) Q):MT (.grd p k) Q:=by
 unfold MT Tot
 show ∃r,F5 p _=some r∧Q r
 unfold F5
 cases d with
 |isTrue hh=>exact h2 hh
 |isFalse hh=>exact absurd h hh
theorem ask{m:Option α}{k:(a:α)→m=some a→Mo ρ}{R:α→Prop}{Q:ρ→Prop}(h:Tot m R)(h2:∀a h,R a→MT (k a h) Q):MT (.ask m k) Q:=by
 obtain⟨a,rfl,ha⟩:=h
 exact h2 a rfl ha
theorem jE{m:Option (α⊕β)}{k1:(a:α)→m=some (.inl a)→Mo ρ}{k2:(b:β)→m=some (.inr b)→Mo ρ}{R:α⊕β→Prop}{Q:ρ→Prop}(h:Tot m R)(h1:∀a h,R (.inl a)→MT (k1 a h) Q)(h2:∀b h,R (.inr b)→MT (k2 b h) Q):MT (.jE m k1 k2) Q:=by
 obtain⟨a,rfl,ha⟩:=h
 rcases a with a|a
 ·exact h1 a rfl ha
 ·exact h2 a rfl ha
theorem Xf{m:Option (α⊕β⊕γ)}{k1:(a:α)→m=some (.inl a)→Mo ρ}{k2:(b:β)→m=some (.inr (.inl b))→Mo ρ}{k3:(c:γ)→m=some (.inr (.inr c))→Mo ρ}{R:α⊕β⊕γ→Prop}{Q:ρ→Prop}(h:Tot m R)(h1:∀a h,R (.inl a)→MT (k1 a h) Q)(h2:∀b h,R (.inr (.inl b))→MT (k2 b h) Q)(h3:∀b h,R (.inr (.inr b))→MT (k3 b h) Q):MT (.Xf m k1 k2 k3) Q:=by
 obtain⟨a,rfl,ha⟩:=h
 rcases a with a|a|a
 ·exact h1 a rfl ha
 ·exact h2 a rfl ha
 ·exact h3 a rfl ha
end MT
structure Clo {ρ:Type} (m:Option ρ):Prop where
 h:Tot m Any
namespace MT
variable {ρ α β γ:Type}
theorem sF{m:Option α}{k:(a:α)→m=some a→Mo ρ}{Q:ρ→Prop}(h:Clo m)(h2:∀a h,MT (k a h) Q):MT (.ask m k) Q:=ask h.h fun a h _=>h2 a h
end MT
theorem dF{α:Type}(l:List α)(i:Int)(h0:0≤i)(h1:i<l.length):Tot (ig l i) (fun x=>x∈l):=by
 obtain⟨x,h2,h3⟩:=agE h0 h1
 exact⟨x,h2,List.mem_of_getElem? h3⟩
namespace T
variable {ρ σ:Type}
theorem amE{T:σ→Option (σ⊕ρ)}{s0:σ}(c:σ→Int)(P:σ→Prop)(Q:ρ→Prop)(h0:c s0=0)(hP:P s0)(step:∀(k:Nat) s,k≤100000000→c s=k→P s→Tot (T s) (LP (fun v=>c v=IntKind.wrap .i64 ((k:Int)+1)∧P v∧k<100000000) Q)):Tot (bP T FU s0) Q:=by
 refine mY (fun s=>0≤c s∧c s≤100000000∧P s) (fun s=>100000000-(c s).toNat) Q ?_ FU s0 ⟨by omega,by omega,hP⟩ (by have:=gX;omega)
 rintro s ⟨h1,h2,h3⟩
 obtain⟨r,h4,h5⟩:=step (c s).toNat s (by omega) (by omega) h3
 rcases r with v|r
 ·have h5:c v=IntKind.wrap .i64 (((c s).toNat:Int)+1)∧P v∧(c s).toNat<100000000:=h5
  have h6:=h5.1
  rw[inc _ (by omega)] at h6
  exact .inl ⟨v,h4,⟨by omega,by omega,h5.2.1⟩,by omega⟩
 ·exact .inr ⟨r,h4,h5⟩
theorem cnt{T:Int→Option (Int⊕ρ)}(Q:ρ→Prop)(step:∀k:Nat,k≤100000000→Tot (T (k:Int)) (LP (fun v=>v=IntKind.wrap .i64 ((k:Int)+1)∧k<100000000) Q)):Tot (bP T FU 0) Q:=
 amE (fun v=>v) (fun _=>True) Q rfl trivial fun k s hk hs _=>by
  obtain rfl:s=(k:Int):=hs
  refine mono (step k hk) ?_
  rintro(v|r) h
  ·exact⟨h.1,trivial,h.2⟩
  ·exact h
theorem amF{α:Type}{T:α×Int→Option ((α×Int)⊕ρ)}{a:α}(Q:ρ→Prop)(step:∀(a:α) (k:Nat),k≤100000000→Tot (T (a,(k:Int))) (LP (fun v=>v.2=IntKind.wrap .i64 ((k:Int)+1)∧k<100000000) Q)):Tot (bP T FU (a,0)) Q:=
 amE (fun v=>v.2) (fun _=>True) Q rfl trivial fun k s hk hs _=>by
  obtain⟨a,i⟩:=s
  obtain rfl:i=(k:Int):=hs
  refine mono (step a k hk) ?_
  rintro(v|r) h
  ·exact⟨h.1,trivial,h.2⟩
  ·exact h
theorem Xg{α:Type}{T:Int×α→Option ((Int×α)⊕ρ)}{a:α}(Q:ρ→Prop)(step:∀(k:Nat) (a:α),k≤100000000→Tot (T ((k:Int),a)) (LP (fun v=>v.1=IntKind.wrap .i64 ((k:Int)+1)∧k<100000000) Q)):Tot (bP T FU (0,a)) Q:=
 amE (fun v=>v.1) (fun _=>True) Q rfl trivial fun k s hk hs _=>by
  obtain⟨i,a⟩:=s
  obtain rfl:i=(k:Int):=hs
  refine mono (step k a hk) ?_
  rintro(v|r) h
  ·exact⟨h.1,trivial,h.2⟩
  ·exact h
end T
end Go.Proofs.YtflpefkohpjjpaaGreatDoor
set_option linter.unusedSimpArgs false
set_option linter.unusedVariables false
namespace Go.Proofs.YtflpefkohpjjpaaGreatDoor
open Go.RowKit
theorem lS(s:ByteArray):Q44 s=some (nameB s):=by
 unfold Q44 ajo GU GN GL wW wV
 simp only[Mo.den,aB,aG,aK,aF,aJ]
 by_cases h0:s.size<1
 ·rw[decide_eq_true (show(s.size:Int)<1 by omega),yV s (by omega)];rfl
 rw[decide_eq_false (show ¬(s.size:Int)<1 by omega)];simp only[cond_false,Option.bind_some]
 by_cases h1:32<s.size
 ·rw[decide_eq_true (show(32:Int)<(s.size:Int) by omega),yU s h1];rfl
 rw[decide_eq_false (show ¬(32:Int)<(s.size:Int) by omega)];simp only[cond_false]
 have hz:iw s 0=some s[0]:=jv s 0 (by omega)
 rw[hz,vw s (by omega) (by omega)]
 simp only[Option.bind_some]
 have e36:((s[0].toNat:Int)==36)=(s[0].toNat==36):=by rw[Bool.eq_iff_iff];simp;omega
 rw[e36]
 cases hq:s[0].toNat==36 with
 |true=>rfl
 |false=>
  simp only[cond_false,Bool.not_false,Bool.true_and]
  refine Nj s.size (by omega) (fun n k=>k=n∧∀i (hi:i<s.size),i<n→rE s[i].toNat=true) (fun r=>match r with|.inl _=>s.data.toList.all (fun c=>rE c.toNat)=false|.inr _=>s.data.toList.all (fun c=>rE c.toNat)=true) ⟨rfl,by omega⟩ ?_ ?_ ?_
  ·rintro n k hn ⟨rfl,hv⟩
   simp only[iLt hn,cond_true,jv s n hn,Option.bind_some]
   have hc:rE s[n].toNat=(decide (33≤s[n].toNat)&&decide (s[n].toNat≤126)&&!(s[n].toNat==46)):=rfl
   have e46:((s[n].toNat:Int)==46)=(s[n].toNat==46):=by rw[Bool.eq_iff_iff];simp;omega
   by_cases a1:s[n].toNat<33
   ·rw[decide_eq_true (show(s[n].toNat:Int)<33 by omega)];right
    exact⟨_,rfl,yX s _ n hn (by rw[hc,decide_eq_false (show ¬33≤s[n].toNat by omega)];rfl)⟩
   rw[decide_eq_false (show ¬(s[n].toNat:Int)<33 by omega)];simp only[cond_false]
   by_cases a2:126<s[n].toNat
   ·rw[decide_eq_true (show(126:Int)<(s[n].toNat:Int) by omega)];right
    exact⟨_,rfl,yX s _ n hn (by rw[hc,decide_eq_false (show ¬s[n].toNat≤126 by omega),Bool.and_false];rfl)⟩
   rw[decide_eq_false (show ¬(126:Int)<(s[n].toNat:Int) by omega),e46];simp only[cond_false,Option.bind_some]
   cases a3:s[n].toNat==46 with
   |true=>right;exact⟨_,rfl,yX s _ n hn (by rw[hc,a3,Bool.not_true,Bool.and_false])⟩
   |false=>
    left
    refine⟨_,rfl,inc n (by omega),fun i hi hl=>?_⟩
    rcases Nat.lt_succ_iff_lt_or_eq.1 hl with h3|rfl
    ·exact hv i hi h3
    ·rw[hc,a3,decide_eq_true (show 33≤s[i].toNat by omega),decide_eq_true (show s[i].toNat≤126 by omega)];rfl
  ·rintro k ⟨rfl,hv⟩
   exact⟨.inr (),by simp only[Xh (Nat.lt_irrefl _),cond_false],UJ s _ fun i hi=>hv i hi hi⟩
  ·rintro(u|u) h2
   ·exact congrArg some h2.symm
   ·exact congrArg some h2.symm
def afu(p:List ByteArray):Bool:=decide (1≤p.length)&&decide (p.length≤16)&&p.all nameB
theorem yu{α:Type}(f:α→Bool){l:List α}{k:Nat}{x:α}(h:l[k]?=some x):(l.take (k+1)).all f=((l.take k).all f&&f x):=by
 have hk:=lu h
 have:l[k]=x:=by rw[List.getElem?_eq_getElem hk] at h;injection h
 rw[List.take_succ_eq_append_getElem hk,List.all_append,this];simp
theorem TF{α:Type}(f:α→Bool){l:List α}{k:Nat}{x:α}(h:l[k]?=some x)(hf:f x=false):l.all f=false:=by
 rw[List.all_eq_false];exact⟨x,iU h,by simp[hf]⟩
theorem yw(p:List ByteArray):Q68 p=some (afu p):=by
 unfold Q68 ajB N7 NZ
 simp only[Mo.den,aB,aG,aK,aF,aJ,afu]
 by_cases h0:p.length<1
 ·rw[decide_eq_true (show(p.length:Int)<1 by omega),decide_eq_false (show ¬1≤p.length by omega)];rfl
 rw[decide_eq_false (show ¬(p.length:Int)<1 by omega),decide_eq_true (show 1≤p.length by omega)];simp only[cond_false,Option.bind_some,Bool.true_and]
 by_cases h1:16<p.length
 ·rw[decide_eq_true (show(16:Int)<(p.length:Int) by omega),decide_eq_false (show ¬p.length≤16 by omega)];rfl
 rw[decide_eq_false (show ¬(16:Int)<(p.length:Int) by omega),decide_eq_true (show p.length≤16 by omega)];simp only[cond_false,Bool.true_and]
 refine Nj p.length (by omega) (fun n k=>k=n∧(p.take n).all nameB=true) (fun r=>match r with|.inl _=>p.all nameB=false|.inr _=>p.all nameB=true) ⟨rfl,by simp⟩ ?_ ?_ ?_
 ·rintro n k hn ⟨rfl,hv⟩
  have hx:=List.getElem?_eq_getElem hn
  simp only[iLt hn,cond_true,gid hx,Option.bind_some,lS]
  cases hb:nameB p[n] with
  |false=>right;exact⟨_,rfl,TF _ hx hb⟩
  |true=>left;exact⟨_,rfl,inc n (by omega),by rw[yu _ hx,hv,hb];rfl⟩
 ·rintro k ⟨rfl,hv⟩
  exact⟨.inr (),by simp only[Xh (Nat.lt_irrefl _),cond_false],by rw[List.take_length] at hv;exact hv⟩
 ·rintro(u|u) h2
  ·exact congrArg some h2.symm
  ·exact congrArg some h2.symm
theorem pK(s:ByteArray):al6 s=some (nameB s):=by
 simp only[al6,aex,Mo.den,aB,aG,aK,aF,aJ,yw,Option.bind_some,afu,List.length_cons,List.length_nil,List.all_cons,List.all_nil,Bool.and_true];rfl
def Wn(v:ah):Bool:=v.au==0&&v.dD==0&&decide (v.fText=⟨#[]⟩)&&(v.aU.length:Int)==0&&(v.aT.length:Int)==0
theorem kG(v:ah):Q94 v=some (Wn v):=by
 simp only[Q94,ajm,fU,rM,rJ,wO,wM,Mo.den,aB,aG,aK,aF,aJ,Wn]
 cases v.au==0<;>cases v.dD==0<;>cases decide (v.fText=⟨#[]⟩)<;>cases (v.aU.length:Int)==0<;>rfl
def parts(v:ah):List ah:=(if v.au=6 then v.aU else [])++(if v.au=5 then v.aT.map ay.fValue else [])
theorem uo(v:ah)(hb:aP v.lf1≤100000000):Q20 v=some (parts v):=by
 have hl:=fG v.aU
 have hd:=fH v.aT
 rw[bQ] at hb
 have h0:RP v 0 []=some v.aU:=by
  have:Tot (RP v 0 []) (fun r=>r=v.aU):=by
   refine T.kL v.aU.length (by omega) (fun k s=>s=((k:Int),v.aU.take k)) _ rfl ?_ ?_
   ·rintro k s hk rfl
    have hx:=List.getElem?_eq_getElem hk
    simp only[wZ,Mo.den,aB,aG,aK,aF,aJ,ltt hx,gid hx,cond_true,Option.bind_some]
    refine T.grd (by simp only[List.length_take,List.length_cons,List.length_nil];omega) (T.ret ?_)
    show _=_
    rw[inc k (by omega),List.take_succ_eq_append_getElem hk]
   ·rintro s rfl
    simp only[wZ,Mo.den,aB,aG,aK,aF,aJ,ltn,cond_false]
    exact T.ret (show _=_ by rw[List.take_length])
  obtain⟨r,h,rfl⟩:=this;exact h
 have h1:∀l0:List ah,l0.length≤100000000→JW v 0 l0=some (l0++v.aT.map ay.fValue):=by
  intro l0 hl0
  have:Tot (JW v 0 l0) (fun r=>r=l0++v.aT.map ay.fValue):=by
   refine T.kL v.aT.length (by omega) (fun k s=>s=((k:Int),l0++(v.aT.take k).map ay.fValue)) _ (by simp) ?_ ?_
   ·rintro k s hk rfl
    have hx:=List.getElem?_eq_getElem hk
    simp only[tX,Mo.den,aB,aG,aK,aF,aJ,ltt hx,gid hx,cond_true,Option.bind_some]
    refine T.grd (by simp only[List.length_append,List.length_map,List.length_take,List.length_cons,List.length_nil];omega) (T.ret ?_)
    show _=_
    rw[inc k (by omega),List.take_succ_eq_append_getElem hk,List.map_append,List.append_assoc];rfl
   ·rintro s rfl
    simp only[tX,Mo.den,aB,aG,aK,aF,aJ,ltn,cond_false]
    exact T.ret (show _=_ by rw[List.take_length])
  obtain⟨r,h,rfl⟩:=this;exact h
 unfold Q20 ajn NM GK parts
 simp only[Mo.den,aB,aG,aK,aF,aJ,h0]
 by_cases a:v.au=6
 ·have b:v.au≠5:=by omega
  rw[show(v.au==6)=true by simpa using a,show(v.au==5)=false by simpa using b]
  simp[a]
 ·rw[show(v.au==6)=false by simpa using a]
  by_cases b:v.au=5
  ·rw[show(v.au==5)=true by simpa using b];simp[a,b,h1]
  ·rw[show(v.au==5)=false by simpa using b];simp[a,b]
theorem lC{v x:ah}(h:x∈parts v):aP x.lf1<aP v.lf1:=by
 rw[bQ v]
 unfold parts at h
 rcases List.mem_append.1 h with h|h
 ·split at h
  ·have:=iK h;omega
  ·simp at h
 ·split at h
  ·obtain⟨f,hf,rfl⟩:=List.mem_map.1 h
   have:=fE hf;rw[dY] at this;omega
  ·simp at h
theorem uq(v:ah):(parts v).length≤aP v.lf1:=by
 have hl:=fG v.aU
 have hd:=fH v.aT
 rw[bQ v]
 unfold parts
 rw[List.length_append]
 split<;>split<;>simp<;>omega
theorem TG(n:Nat):∀(F:Nat) (v:ah) (m:Int),m≤n→n<F→aP v.lf1≤100000000→n≤100→Tot ((qC F).m1 v m) Any:=by
 induction n using Nat.strongRecOn with
 |_ n ih=>
  intro F v m hm hF hb hn
  obtain⟨F,rfl⟩:∃G,F=G+1:=⟨F-1,by omega⟩
  have hpl:=uq v
  simp only[qC,Vq,CQ,Mo.den,aB,aG,aK,aF,aJ,uo v hb,Option.bind_some]
  by_cases h2:m<2
  ·rw[decide_eq_true h2];exact T.any
  ·rw[decide_eq_false h2]
   simp only[cond_false,Option.bind_some]
   refine T.ite (fun _=>T.any) (fun _=>T.bind (R:=Any) ?_ (fun r _=>T.any))
   refine T.kL (parts v).length (by omega) (fun k s=>s.2=(k:Int)) _ rfl ?_ ?_
   ·rintro k ⟨a,i⟩ hk rfl
    have hx:=List.getElem?_eq_getElem hk
    have hxb:=lC (iU hx)
    simp only[o8,Mo.den,aB,aG,aK,aF,aJ,ltt hx,gid hx,cond_true,Option.bind_some]
    refine T.bind (ih (n-1) (by omega) F _ _ (by rw[w64 (by omega) (by omega)];omega) (by omega) (by omega) (by omega)) fun r _=>T.ret ?_
    exact inc k (by omega)
   ·rintro⟨a,i⟩ rfl
    simp only[o8,Mo.den,aB,aG,aK,aF,aJ,ltn,cond_false]
    exact T.ret trivial
theorem aah(n:Nat):∀(F:Nat) (v:ah) (m:Int),m≤n→n<F→aP v.lf1≤100000000→n≤2000→Tot ((qE F).m1 v m) (fun r=>1≤r∧(r≤m∨r=1)):=by
 induction n using Nat.strongRecOn with
 |_ n ih=>
  intro F v m hm hF hb hn
  obtain⟨F,rfl⟩:∃G,F=G+1:=⟨F-1,by omega⟩
  have hpl:=uq v
  show Tot (Vr (qE F) v m).den _
  unfold Vr
  simp only[Mo.den,aB,aG,aK,aF,aJ,uo v hb,Option.bind_some]
  refine T.bind (R:=fun r=>1≤r∧(r≤m∨r=1)) ?_ (fun r h=>T.ret h)
  refine T.kL (parts v).length (by omega) (fun k s=>s.2=(k:Int)∧1≤s.1∧(s.1≤m∨s.1=1)) _ ⟨rfl,by show(1:Int)≤1;omega,.inr rfl⟩ ?_ ?_
  ·rintro k ⟨a,i⟩ hk ⟨h1,h2,h3⟩
   obtain rfl:i=(k:Int):=h1
   have h2:1≤a:=h2
   have h3:a≤m∨a=1:=h3
   have hx:=List.getElem?_eq_getElem hk
   have hxb:=lC (iU hx)
   unfold o9
   simp only[rP,Mo.den,aB,aG,aK,aF,aJ,ltt hx,gid hx,cond_true,Option.bind_some]
   refine T.ite (fun h=>?_) (fun h=>T.ret ⟨h2,h3⟩)
   have h:=of_decide_eq_true h
   refine T.bind (ih (n-1) (by omega) F _ _ (by rw[w64 (by omega) (by omega)];omega) (by omega) (by omega) (by omega)) fun r hr=>T.ret ?_
   rw[w64 (by omega) (by omega)] at hr
   exact⟨inc k (by omega),by rw[w64 (by omega) (by omega)];omega,by rw[w64 (by omega) (by omega)];omega⟩
  ·rintro⟨a,i⟩ ⟨h1,h2,h3⟩
   obtain rfl:i=((parts v).length:Int):=h1
   unfold o9
   simp only[rP,Mo.den,aB,aG,aK,aF,aJ,ltn,cond_false,Option.bind_some]
   exact T.ret ⟨h2,h3⟩
theorem aai(v:ah)(hb:aP v.lf1≤100000000):Tot (adp v) Any:=by
 simp only[adp,RQ,Mo.den,aB,aG,aK,aF,aJ,Q33]
 exact T.bind (TG 17 FU v 17 (by omega) (by have:=gX;omega) hb (by omega)) fun r _=>T.any
theorem aaj(v:ah)(hb:aP v.lf1≤100000000):Tot (adr v) Any:=by
 simp only[adr,RS,Mo.den,aB,aG,aK,aF,aJ,Q29]
 exact T.bind (aah 1025 FU v 1025 (by omega) (by have:=gX;omega) hb (by omega)) fun r _=>T.any
theorem afv(s:ByteArray)(i:Nat)(n:Int)(hs:s.size≤100000000)(hi:i≤100000000)(h0:0≤n)(h1:n≤10):Tot (Q40 s (i:Int) n) (fun b=>b=true→(i:Int)+n≤s.size):=by
 unfold Q40 adt
 simp only[Mo.den,aB,aG,aK,aF,aJ]
 rw[w64 (by omega) (by omega)]
 refine T.ite (fun _=>T.ret (by simp)) (fun h=>?_)
 have h:=of_decide_eq_false h
 obtain⟨n,rfl⟩:=Int.eq_ofNat_of_zero_le h0
 refine T.bind (R:=Any) ?_ ?_
 ·refine T.aag n (by omega) _ (fun k hk=>?_) ?_
  ·have e:iw s (IntKind.wrap .i64 ((i:Int)+(k:Int)))=some s[i+k]:=by
    rw[w64 (by omega) (by omega),show(i:Int)+(k:Int)=((i+k:Nat):Int) by omega];exact jv s _ (by omega)
   simp only[pq,CS,Mo.den,aB,aG,aK,aF,aJ,iLt hk,cond_true,e,Option.bind_some]
   refine T.bind (R:=Any) (T.ite (fun _=>T.any) (fun _=>T.any)) fun b _=>T.ite (fun _=>T.ret trivial) (fun _=>T.ret rfl)
  ·simp only[pq,Mo.den,aB,aG,aK,aF,aJ,ltn,cond_false]
   exact T.ret trivial
 ·rintro(r|r) _
  ·exact T.ret (by simp)
  ·exact T.ret fun _=>by omega
theorem afw(s:ByteArray)(hs:s.size≤100000000):Tot (Q0 s) Any:=by
 unfold Q0 adu
 simp only[Mo.den,aB,aG,aK,aF,aJ]
 refine T.bind (R:=Any) ?_ (by rintro(r|r) _<;>exact T.any)
 refine mY (fun v:Int=>0≤v∧v≤s.size) (fun v:Int=>s.size-v.toNat) Any ?_ FU 0 ⟨by omega,by omega⟩ (by have:=gX;omega)
 rintro v ⟨h0,h1⟩
 obtain⟨k,rfl⟩:=Int.eq_ofNat_of_zero_le h0
 have key:Tot (jM s (k:Int)).den (LP (fun v'=>(k:Int)<v'∧v'≤s.size) Any):=by
  by_cases hk:k<s.size
  ·simp only[jM,Mo.den,aB,aG,aK,aF,aJ,iLt hk,cond_true,jv s k hk,Option.bind_some]
   refine T.bind (R:=LP (fun n:Int=>(n=0∧s[k].toNat<128)∨(1≤n∧n≤3)) Any) ?_ ?_
   ·simp only[Q0,adu,JZ,jM,CX,xB,CW,xA,CV,xw,CU,xu,zB,rQ,xg,AP,AO,Mo.den,aB,aG,aK,aF,aJ]
    refine T.ite (fun h=>T.ret (.inl ⟨rfl, by have:=of_decide_eq_true h;omega⟩)) fun _=>T.bind (R:=Any) (T.ite (fun _=>T.any) fun _=>T.any) fun b _=>T.ite (fun _=>T.ret (.inr (by omega))) fun _=>
     T.bind (R:=Any) (T.ite (fun _=>T.any) fun _=>T.any) fun b _=>T.ite (fun _=>T.ret (.inr (by omega))) fun _=>T.bind (R:=Any) (T.ite (fun _=>T.any) fun _=>T.any) fun b _=>T.ite (fun _=>T.ret (.inr (by omega))) fun _=>T.ret trivial
   ·rintro(n|u) hn
    ·have hn:(n=0∧s[k].toNat<128)∨(1≤n∧n≤3):=hn
     simp only
     rw[inc k (by omega)]
     refine T.bind (afv s (k+1) n hs (by omega) (by omega) (by omega)) fun b hb=>T.ite (fun _=>T.ret trivial) fun h=>?_
     have hb:=hb (by simpa using h)
     have e:∀c:Nat,128≤c→((s[k].toNat:Int)==(c:Int))=true→∃x,iw s ((k+1:Nat):Int)=some x:=by
      intro c hc h
      have h:(s[k].toNat:Int)=c:=by simpa using h
      exact⟨_,jv s (k+1) (by omega)⟩
     simp only[Q0,adu,JZ,jM,CX,xB,CW,xA,CV,xw,CU,xu,zB,rQ,xg,AP,AO,Mo.den,aB,aG,aK,aF,aJ]
     rw[inc k (by omega)]
     refine T.bind (R:=Any) (T.ite (fun h=>by obtain⟨x,hx⟩:=e 224 (by omega) h;rw[hx];exact T.any) fun _=>T.any) fun b1 _=>?_
     refine T.bind (R:=Any) (T.ite (fun h=>T.any) fun _=>T.ite (fun h=>by obtain⟨x,hx⟩:=e 237 (by omega) h;rw[hx];exact T.any) fun _=>T.any) fun b2 _=>?_
     refine T.bind (R:=Any) (T.ite (fun h=>T.any) fun _=>T.ite (fun h=>by obtain⟨x,hx⟩:=e 240 (by omega) h;rw[hx];exact T.any) fun _=>T.any) fun b3 _=>?_
     refine T.bind (R:=Any) (T.ite (fun h=>T.any) fun _=>T.ite (fun h=>by obtain⟨x,hx⟩:=e 244 (by omega) h;rw[hx];exact T.any) fun _=>T.any) fun b4 _=>?_
     refine T.ite (fun _=>T.ret trivial) fun _=>T.ret ?_
     show(k:Int)<IntKind.wrap .i64 (IntKind.wrap .i64 ((k:Int)+n)+1)∧IntKind.wrap .i64 (IntKind.wrap .i64 ((k:Int)+n)+1)≤s.size
     rw[w64 (x:=(k:Int)+n) (by omega) (by omega),w64 (by omega) (by omega)];omega
    ·exact T.ret trivial
  ·simp only[jM,Mo.den,aB,aG,aK,aF,aJ,Xh hk,cond_false]
   exact T.ret trivial
 obtain⟨r,h2,h3⟩:=key
 rcases r with v'|r
 ·have h3:(k:Int)<v'∧v'≤s.size:=h3
  exact .inl ⟨v',h2,⟨by omega,h3.2⟩,by omega⟩
 ·exact .inr ⟨r,h2,trivial⟩
theorem TJ(f:Nat):(∀v:ah,2*aP v.lf1+1<f→aP v.lf1≤100000000→Tot ((jT f).m1 v true) Any)∧∀v:ah,2*aP v.lf1<f→aP v.lf1≤100000000→Tot ((jT f).m2 v true) Any:=by
 induction f with
 |zero=>exact⟨fun v h=>by omega,fun v h=>by omega⟩
 |succ f ih=>
  refine⟨fun v h hb=>?_,fun v h hb=>?_⟩
  ·have hm2:=ih.2 v (by omega) hb
   have hl:=fG v.aU
   have hbv:=bQ v
   simp only[jT,Q1,adv,RV,rU,Dp,Dn,Dl,Dk,Dj,Di,Dh,Df,Dc,C9,CZ,CY,J5,J4,Mo.den,aB,aG,aK,aF,aJ,Option.bind_some]
   refine T.bind (R:=Any) (T.ite (fun _=>T.any) fun _=>T.any) fun _ _=>?_
   refine T.bind (R:=Any) (T.ite (fun _=>T.any) fun _=>T.ite (fun _=>T.any) fun _=>T.any) fun _ _=>T.ite (fun _=>T.any) fun _=>?_
   refine T.bind (R:=Any) (T.ite (fun _=>T.any) fun _=>T.any) fun _ _=>?_
   refine T.bind (R:=Any) (T.ite (fun _=>T.any) fun _=>T.any) fun _ _=>?_
   refine T.bind (R:=Any) (T.ite (fun _=>T.any) fun _=>T.any) fun _ _=>?_
   refine T.bind (R:=Any) (T.ite (fun _=>T.any) fun _=>T.any) fun _ _=>?_
   refine T.bind (R:=Any) (T.ite (fun _=>T.any) fun _=>T.any) fun _ _=>?_
   refine T.bind (R:=Any) (T.ite (fun _=>T.any) fun _=>T.ite (fun _=>T.any) fun _=>T.any) fun _ _=>?_
   refine T.bind (R:=Any) (T.ite (fun _=>T.any) fun _=>T.any) fun _ _=>?_
   refine T.bind (R:=Any) (T.ite (fun _=>T.any) fun _=>T.any) fun _ _=>T.ite (fun _=>T.any) fun _=>?_
   refine T.ite (fun _=>T.bind (R:=Any) (T.ite (fun _=>T.any) fun _=>T.any) fun _ _=>T.any) fun _=>T.ite (fun _=>T.any) fun _=>?_
   refine T.ite (fun _=>T.bind (R:=Any) (T.ite (fun _=>T.bind (afw _ (by omega)) fun _ _=>T.any) fun _=>T.any) fun _ _=>T.any) fun _=>T.ite (fun _=>T.any) fun _=>T.ite (fun _=>T.any) fun _=>?_
   refine T.bind (R:=Any) ?_ (by rintro(r|r) _;exact T.any;exact T.bind hm2 fun _ _=>T.any)
   refine T.aoi v.aU (by omega) _ (fun k x hx=>?_) ?_
   ·have hxb:=iK (iU hx)
    simp only[ltt hx,gid hx,cond_true,Option.bind_some]
    exact T.bind (ih.1 x (by omega) (by omega)) fun b _=>T.ite (fun _=>T.ret trivial) fun _=>T.ret rfl
   ·simp only[ltn,cond_false];exact T.ret trivial
  ·have hl:=fH v.aT
   have hbv:=bQ v
   simp only[jT,Q9,adw,RY,rW,RX,rV,Dq,J7,J6,Mo.den,aB,aG,aK,aF,aJ,lS,cond_true,Option.bind_some,Bool.not_true,cond_false]
   refine T.bind (R:=Any) ?_ (by rintro(r|r) _<;>exact T.any)
   refine T.aoi v.aT (by omega) _ (fun k x hx=>?_) ?_
   ·have hxb:=fE (iU hx)
    have hk:=lu hx
    rw[dY] at hxb
    simp only[ltt hx,gid hx,cond_true,Option.bind_some]
    refine T.bind (R:=Any) (T.ite (fun _=>T.any) fun _=>T.any) fun _ _=>?_
    refine T.bind (R:=Any) (T.ite (fun _=>T.any) fun _=>T.bind (ih.1 x.fValue (by omega) (by omega)) fun _ _=>T.any) fun _ _=>T.ite (fun _=>T.ret trivial) fun _=>?_
    refine T.bind (R:=Any) ?_ (by rintro(r|r) _;exact T.ret trivial;exact T.ret rfl)
    refine T.aag k (by omega) _ (fun j hj=>?_) ?_
    ·have hy:=List.getElem?_eq_getElem (show j<v.aT.length by omega)
     simp only[iLt hj,gid hy,cond_true,Option.bind_some]
     exact T.ite (fun _=>T.ret trivial) fun _=>T.ret rfl
    ·simp only[ltn,cond_false];exact T.ret trivial
   ·simp only[ltn,cond_false];exact T.ret trivial
theorem kH(v:ah)(hb:aP v.lf1≤100000000):Tot (Q65 v) Any:=by
 simp only[Q65,adx,Mo.den,aB,aG,aK,aF,aJ,Q1]
 refine T.bind (aai v hb) fun _ _=>T.ite (fun _=>T.bind (aaj v hb) fun _ _=>T.ite (fun _=>T.bind ((TJ FU).1 v (by have:=gX;omega) hb) fun _ _=>T.any) fun _=>T.any) fun _=>T.any
end Go.Proofs.YtflpefkohpjjpaaGreatDoor
set_option linter.unusedSimpArgs false
set_option linter.unusedVariables false
namespace Go.Proofs.YtflpefkohpjjpaaGreatDoor
open Go.RowKit
def iO(f:ah→Nat→Nat)(lim:Nat):List ah→Nat→Nat
 |[],n=>n
 |p::r,n=>if f p n<lim then iO f lim r (f p n) else f p n
theorem qM(f:ah→Nat→Nat)(lim:Nat)(p:ah)(r:List ah)(n:Nat):iO f lim (p::r) n=if f p n<lim then iO f lim r (f p n) else f p n:=rfl
mutual
def ah.cnt:ah→Nat
 |.mk k _ _ l d=>1+((if k=6 then ah.cnts l else 0)+(if k=5 then ay.cnts d else 0))
def ah.cnts:List ah→Nat
 |[]=>0
 |x::r=>x.cnt+ah.cnts r
def ay.cnts:List ay→Nat
 |[]=>0
 |.mk _ x::r=>x.cnt+ay.cnts r
end
mutual
def ah.dep:ah→Nat
 |.mk k _ _ l d=>1+max (if k=6 then ah.deps l else 0) (if k=5 then ay.deps d else 0)
def ah.deps:List ah→Nat
 |[]=>0
 |x::r=>max x.dep (ah.deps r)
def ay.deps:List ay→Nat
 |[]=>0
 |.mk _ x::r=>max x.dep (ay.deps r)
end
def jO:List Nat→Nat
 |[]=>0
 |x::r=>x+jO r
def kM:List Nat→Nat
 |[]=>0
 |x::r=>max x (kM r)
theorem yx:∀l m:List Nat,jO (l++m)=jO l+jO m
 |[],m=>(Nat.zero_add _).symm
 |x::r,m=>by show x+jO (r++m)=(x+jO r)+jO m;rw[yx r m];omega
theorem D5:∀l m:List Nat,kM (l++m)=max (kM l) (kM m)
 |[],m=>by show kM m=max 0 (kM m);omega
 |x::r,m=>by show max x (kM (r++m))=max (max x (kM r)) (kM m);rw[D5 r m];omega
theorem Wp:∀l:List ah,ah.cnts l=jO (l.map ah.cnt)
 |[]=>by simp[ah.cnts,jO]
 |x::r=>by simp[ah.cnts,jO,Wp r]
theorem Pv:∀l:List ay,ay.cnts l=jO ((l.map ay.fValue).map ah.cnt)
 |[]=>by simp[ay.cnts,jO]
 |.mk n x::r=>by simp[ay.cnts,jO,Pv r,ay.fValue]
theorem Wq:∀l:List ah,ah.deps l=kM (l.map ah.dep)
 |[]=>by simp[ah.deps,kM]
 |x::r=>by simp[ah.deps,kM,Wq r]
theorem Px:∀l:List ay,ay.deps l=kM ((l.map ay.fValue).map ah.dep)
 |[]=>by simp[ay.deps,kM]
 |.mk n x::r=>by simp[ay.deps,kM,Px r,ay.fValue]
theorem zI(v:ah):v.cnt=1+jO ((parts v).map ah.cnt):=by
 cases v with
 |mk k i s l d=>
  unfold parts
  rw[List.map_append,yx]
  unfold ah.cnt
  rw[Wp,Pv]
  simp only[ah.au,ah.aU,ah.aT]
  by_cases h6:k=6
  ·subst h6;simp[jO]
  ·by_cases h5:k=5
   ·subst h5;simp[jO]
   ·simp[h6,h5,jO]
theorem zJ(v:ah):v.dep=1+kM ((parts v).map ah.dep):=by
 cases v with
 |mk k i s l d=>
  unfold parts
  rw[List.map_append,D5]
  unfold ah.dep
  rw[Wq,Px]
  simp only[ah.au,ah.aU,ah.aT]
  by_cases h6:k=6
  ·subst h6;simp[kM]
  ·by_cases h5:k=5
   ·subst h5;simp[kM]
   ·simp[h6,h5,kM]
theorem UF(v:ah):1≤v.cnt:=by rw[zI];omega
theorem UG(v:ah):1≤v.dep:=by rw[zJ];omega
theorem II(most:Nat):∀(l:List ah) (n:Nat),n<most→iO (fun p n=>n+min p.cnt (most-n)) most l n=min (n+jO (l.map ah.cnt)) most
 |[],n,h=>by unfold iO;simp only[List.map_nil,jO];omega
 |p::r,n,h=>by
  unfold iO
  simp only[List.map_cons,jO]
  split
  ·rename_i hc
   rw[II most r _ hc]
   omega
  ·omega
theorem IJ(most:Nat)(hm:1≤most):∀(l:List ah) (n:Nat),n≤most-1→(l=[]∨n<most-1→iO (fun p n=>max n (min p.dep (most-1))) (most-1) l n=min (max n (kM (l.map ah.dep))) (most-1))
 |[],n,h,_=>by unfold iO;simp only[List.map_nil,kM];omega
 |p::r,n,h,hh=>by
  have hn:n<most-1:=hh.resolve_left (by simp)
  unfold iO
  simp only[List.map_cons,kM]
  split
  ·rename_i hc
   rw[IJ most hm r _ (by omega) (.inr hc)]
   omega
  ·omega

theorem aak(R:RB2)(v:ah)(f:ah→Nat→Nat)(lim:Nat)(b1:Int)(I:Nat→Prop)(hb:aP v.lf1≤100000000)
 (h3:∀p∈parts v,∀n:Nat,I n→R.m3 p n b1=some (decide (f p n<lim),(f p n:Int),b1)∧(f p n<lim→I (f p n))) (n:Nat) (hn:I n):
 Mo.den (Ns R v n b1)=some (((iO f lim (parts v) n:Nat):Int),b1):=by
 have hl:=fG v.aU
 have hd:=fH v.aT
 rw[bQ] at hb
 unfold Ns
 simp only[Mo.den,aB,aG,aK,aF,aJ]
 by_cases h6:v.au=6
 ·have e6:(v.au==6)=true:=by simpa using h6
  have hp:parts v=v.aU:=by unfold parts;rw[if_pos h6,if_neg (by omega),List.append_nil]
  rw[e6,hp]
  simp only[cond_true]
  have key:Tot (ab1 R v 0 n b1) (fun r=>match r with|.inl o=>o=(((iO f lim v.aU n:Nat):Int),b1)|.inr o=>o=(((iO f lim v.aU n:Nat):Int),b1)):=by
   refine T.kL v.aU.length (by omega) (fun k s=>∃m:Nat,s=((k:Int),(m:Int),b1)∧I m∧iO f lim v.aU n=iO f lim (v.aU.drop k) m) _ ⟨n,rfl,hn,rfl⟩ ?_ ?_
   ·rintro k s hk ⟨m,rfl,hm,he⟩
    have hx:=List.getElem?_eq_getElem hk
    have hdr:v.aU.drop k=v.aU[k]::v.aU.drop (k+1):=List.drop_eq_getElem_cons hk
    obtain⟨q1,q2⟩:=h3 v.aU[k] (by rw[hp];exact List.getElem_mem hk) m hm
    simp only[wQ,Mo.den,aB,aG,aK,aF,aJ,ltt hx,gid hx,cond_true,Option.bind_some,q1]
    rw[hdr,qM] at he
    by_cases hc:f v.aU[k] m<lim
    ·rw[if_pos hc] at he
     rw[decide_eq_true hc]
     exact T.ret ⟨_,by rw[inc k (by omega)],q2 hc,he⟩
    ·rw[if_neg hc] at he
     rw[decide_eq_false hc]
     exact T.ret (show _=_ by rw[he])
   ·rintro s ⟨m,rfl,hm,he⟩
    rw[List.drop_length] at he
    have he:iO f lim v.aU n=m:=he
    simp only[wQ,Mo.den,aB,aG,aK,aF,aJ,ltn,cond_false]
    exact T.ret (show _=_ by rw[he])
  obtain⟨r,h,hr⟩:=key
  rw[h]
  rcases r with r|r
  ·have hr:r=_:=hr
   subst hr;rfl
  ·have hr:r=_:=hr
   subst hr;rfl
 ·have e6:(v.au==6)=false:=by simpa using h6
  by_cases h5:v.au=5
  ·have e5:(v.au==5)=true:=by simpa using h5
   have hp:parts v=v.aT.map ay.fValue:=by unfold parts;rw[if_neg h6,if_pos h5,List.nil_append]
   rw[e6,e5,hp]
   simp only[cond_true,cond_false]
   have key:Tot (ab2 R v 0 n b1) (fun r=>match r with|.inl o=>o=(((iO f lim (v.aT.map ay.fValue) n:Nat):Int),b1)|.inr o=>o=(((iO f lim (v.aT.map ay.fValue) n:Nat):Int),b1)):=by
    refine T.kL v.aT.length (by omega) (fun k s=>∃m:Nat,s=((k:Int),(m:Int),b1)∧I m∧iO f lim (v.aT.map ay.fValue) n=iO f lim ((v.aT.drop k).map ay.fValue) m) _ ⟨n,rfl,hn,rfl⟩ ?_ ?_
    ·rintro k s hk ⟨m,rfl,hm,he⟩
     have hx:=List.getElem?_eq_getElem hk
     have hdr:v.aT.drop k=v.aT[k]::v.aT.drop (k+1):=List.drop_eq_getElem_cons hk
     obtain⟨q1,q2⟩:=h3 v.aT[k].fValue (by rw[hp];exact List.mem_map.2 ⟨_,List.getElem_mem hk,rfl⟩) m hm
     simp only[wR,Mo.den,aB,aG,aK,aF,aJ,ltt hx,gid hx,cond_true,Option.bind_some,q1]
     rw[hdr,List.map_cons,qM] at he
     by_cases hc:f v.aT[k].fValue m<lim
     ·rw[if_pos hc] at he
      rw[decide_eq_true hc]
      exact T.ret ⟨_,by rw[inc k (by omega)],q2 hc,he⟩
     ·rw[if_neg hc] at he
      rw[decide_eq_false hc]
      exact T.ret (show _=_ by rw[he])
    ·rintro s ⟨m,rfl,hm,he⟩
     rw[List.drop_length,List.map_nil] at he
     have he:iO f lim (v.aT.map ay.fValue) n=m:=he
     simp only[wR,Mo.den,aB,aG,aK,aF,aJ,ltn,cond_false]
     exact T.ret (show _=_ by rw[he])
   obtain⟨r,h,hr⟩:=key
   rw[h]
   rcases r with r|r
   ·have hr:r=_:=hr
    subst hr;rfl
   ·have hr:r=_:=hr
    subst hr;rfl
  ·have e5:(v.au==5)=false:=by simpa using h5
   have hp:parts v=[]:=by unfold parts;rw[if_neg h6,if_neg h5];rfl
   rw[e6,e5,hp]
   rfl

theorem aal(R:RB3)(v:ah)(f:ah→Nat→Nat)(lim:Nat)(b1:Int)(I:Nat→Prop)(hb:aP v.lf1≤100000000)
 (h3:∀p∈parts v,∀n:Nat,I n→R.m3 p n b1=some (decide (f p n<lim),(f p n:Int),b1)∧(f p n<lim→I (f p n))) (n:Nat) (hn:I n):
 Mo.den (Nu R v n b1)=some (((iO f lim (parts v) n:Nat):Int),b1):=by
 have hl:=fG v.aU
 have hd:=fH v.aT
 rw[bQ] at hb
 unfold Nu
 simp only[Mo.den,aB,aG,aK,aF,aJ]
 by_cases h6:v.au=6
 ·have e6:(v.au==6)=true:=by simpa using h6
  have hp:parts v=v.aU:=by unfold parts;rw[if_pos h6,if_neg (by omega),List.append_nil]
  rw[e6,hp]
  simp only[cond_true]
  have key:Tot (ab8 R v 0 n b1) (fun r=>match r with|.inl o=>o=(((iO f lim v.aU n:Nat):Int),b1)|.inr o=>o=(((iO f lim v.aU n:Nat):Int),b1)):=by
   refine T.kL v.aU.length (by omega) (fun k s=>∃m:Nat,s=((k:Int),(m:Int),b1)∧I m∧iO f lim v.aU n=iO f lim (v.aU.drop k) m) _ ⟨n,rfl,hn,rfl⟩ ?_ ?_
   ·rintro k s hk ⟨m,rfl,hm,he⟩
    have hx:=List.getElem?_eq_getElem hk
    have hdr:v.aU.drop k=v.aU[k]::v.aU.drop (k+1):=List.drop_eq_getElem_cons hk
    obtain⟨q1,q2⟩:=h3 v.aU[k] (by rw[hp];exact List.getElem_mem hk) m hm
    simp only[wS,Mo.den,aB,aG,aK,aF,aJ,ltt hx,gid hx,cond_true,Option.bind_some,q1]
    rw[hdr,qM] at he
    by_cases hc:f v.aU[k] m<lim
    ·rw[if_pos hc] at he
     rw[decide_eq_true hc]
     exact T.ret ⟨_,by rw[inc k (by omega)],q2 hc,he⟩
    ·rw[if_neg hc] at he
     rw[decide_eq_false hc]
     exact T.ret (show _=_ by rw[he])
   ·rintro s ⟨m,rfl,hm,he⟩
    rw[List.drop_length] at he
    have he:iO f lim v.aU n=m:=he
    simp only[wS,Mo.den,aB,aG,aK,aF,aJ,ltn,cond_false]
    exact T.ret (show _=_ by rw[he])
  obtain⟨r,h,hr⟩:=key
  rw[h]
  rcases r with r|r
  ·have hr:r=_:=hr
   subst hr;rfl
  ·have hr:r=_:=hr
   subst hr;rfl
 ·have e6:(v.au==6)=false:=by simpa using h6
  by_cases h5:v.au=5
  ·have e5:(v.au==5)=true:=by simpa using h5
   have hp:parts v=v.aT.map ay.fValue:=by unfold parts;rw[if_neg h6,if_pos h5,List.nil_append]
   rw[e6,e5,hp]
   simp only[cond_true,cond_false]
   have key:Tot (ab9 R v 0 n b1) (fun r=>match r with|.inl o=>o=(((iO f lim (v.aT.map ay.fValue) n:Nat):Int),b1)|.inr o=>o=(((iO f lim (v.aT.map ay.fValue) n:Nat):Int),b1)):=by
    refine T.kL v.aT.length (by omega) (fun k s=>∃m:Nat,s=((k:Int),(m:Int),b1)∧I m∧iO f lim (v.aT.map ay.fValue) n=iO f lim ((v.aT.drop k).map ay.fValue) m) _ ⟨n,rfl,hn,rfl⟩ ?_ ?_
    ·rintro k s hk ⟨m,rfl,hm,he⟩
     have hx:=List.getElem?_eq_getElem hk
     have hdr:v.aT.drop k=v.aT[k]::v.aT.drop (k+1):=List.drop_eq_getElem_cons hk
     obtain⟨q1,q2⟩:=h3 v.aT[k].fValue (by rw[hp];exact List.mem_map.2 ⟨_,List.getElem_mem hk,rfl⟩) m hm
     simp only[wU,Mo.den,aB,aG,aK,aF,aJ,ltt hx,gid hx,cond_true,Option.bind_some,q1]
     rw[hdr,List.map_cons,qM] at he
     by_cases hc:f v.aT[k].fValue m<lim
     ·rw[if_pos hc] at he
      rw[decide_eq_true hc]
      exact T.ret ⟨_,by rw[inc k (by omega)],q2 hc,he⟩
     ·rw[if_neg hc] at he
      rw[decide_eq_false hc]
      exact T.ret (show _=_ by rw[he])
    ·rintro s ⟨m,rfl,hm,he⟩
     rw[List.drop_length,List.map_nil] at he
     have he:iO f lim (v.aT.map ay.fValue) n=m:=he
     simp only[wU,Mo.den,aB,aG,aK,aF,aJ,ltn,cond_false]
     exact T.ret (show _=_ by rw[he])
   obtain⟨r,h,hr⟩:=key
   rw[h]
   rcases r with r|r
   ·have hr:r=_:=hr
    subst hr;rfl
   ·have hr:r=_:=hr
    subst hr;rfl
  ·have e5:(v.au==5)=false:=by simpa using h5
   have hp:parts v=[]:=by unfold parts;rw[if_neg h6,if_neg h5];rfl
   rw[e6,e5,hp]
   rfl

theorem TK:∀(F:Nat) (v:ah) (most:Nat),3*aP v.lf1≤F→aP v.lf1≤100000000→1≤most→most≤2000→(nU F).m1 v most=some ((min v.cnt most:Nat):Int):=by
 intro F
 induction F using Nat.strongRecOn with
 |_ F ih=>
 intro v most hF hb h1 h2
 have hp:=bQ v
 obtain⟨F,rfl⟩:∃G,F=G+3:=⟨F-3,by omega⟩
 show Mo.den (Jw (nU (F+2)) v most)=_
 unfold Jw
 simp only[Mo.den,aB,aG,aK,aF,aJ]
 by_cases hm:most=1
 ·subst hm
  have:=UF v
  rw[show min v.cnt 1=1 by omega]
  rfl
 ·rw[show((1:Int)==(most:Int))=false by rw[beq_eq_false_iff_ne];omega]
  have he:(nU (F+2)).m2 v 1 most=some (((min v.cnt most:Nat):Int),(most:Int)):=by
   show Mo.den (Ns (nU (F+1)) v 1 most)=_
   have:=aak (nU (F+1)) v (fun p n=>n+min p.cnt (most-n)) most most (fun n=>n<most) hb (fun p hq n hn=>?_) 1 (show 1<most by omega)
   ·rw[show((1:Int))=((1:Nat):Int) from rfl,this,II most _ 1 (by omega),←zI]
   ·refine⟨?_,fun h=>h⟩
    have hlt:=lC hq
    show Mo.den (Jy (nU F) p n most)=_
    unfold Jy
    have hsub:IntKind.wrap .i64 ((most:Int)-(n:Int))=((most-n:Nat):Int):=by rw[w64 (by omega) (by omega)];omega
    simp only[Mo.den,aB,aG,aK,aF,aJ,hsub,ih F (by omega) p (most-n) (by omega) (by omega) (by omega) (by omega),Option.bind_some]
    rw[w64 (by omega) (by omega),show(n:Int)+((min p.cnt (most-n):Nat):Int)=((n+min p.cnt (most-n):Nat):Int) by omega]
    congr 2
    rw[Bool.eq_iff_iff];simp only[decide_eq_true_iff];omega
  simp only[cond_false,he,Option.bind_some]
theorem aam(v:ah)(hb:aP v.lf1≤100000000):akN v=some ((min v.cnt 1025:Nat):Int):=by
 simp only[akN,ab4,Mo.den,aB,aG,aK,aF,aJ]
 have:anw v 1025=some ((min v.cnt 1025:Nat):Int):=TK FU v 1025 (by have:=gX;omega) hb (by omega) (by omega)
 rw[this];rfl
theorem TL:∀(F:Nat) (v:ah) (most:Nat),3*aP v.lf1≤F→aP v.lf1≤100000000→1≤most→most≤2000→(nV F).m1 v most=some ((min v.dep most:Nat):Int):=by
 intro F
 induction F using Nat.strongRecOn with
 |_ F ih=>
 intro v most hF hb h1 h2
 have hp:=bQ v
 obtain⟨F,rfl⟩:∃G,F=G+3:=⟨F-3,by omega⟩
 show Mo.den (Jz (nV (F+2)) v most)=_
 unfold Jz
 simp only[Mo.den,aB,aG,aK,aF,aJ]
 have hpos:=UG v
 by_cases hm:most=1
 ·subst hm
  rw[show min v.dep 1=1 by omega]
  rfl
 ·rw[show((most:Int)==(1:Int))=false by rw[beq_eq_false_iff_ne];omega]
  have he:(nV (F+2)).m2 v 0 most=some (((min v.dep most-1:Nat):Int),(most:Int)):=by
   show Mo.den (Nu (nV (F+1)) v 0 most)=_
   have:=aal (nV (F+1)) v (fun p n=>max n (min p.dep (most-1))) (most-1) most (fun n=>n<most-1) hb (fun p hq n hn=>?_) 0 (show 0<most-1 by omega)
   ·rw[show((0:Int))=((0:Nat):Int) from rfl, this, IJ most h1 _ 0 (by omega) (.inr (by omega))]
    have e:=zJ v
    rw[show min (max 0 (kM ((parts v).map ah.dep))) (most-1)=min v.dep most-1 by omega]
   ·refine⟨?_,fun h=>h⟩
    have hlt:=lC hq
    show Mo.den (JA (nV F) p n most)=_
    unfold JA
    have hsub:IntKind.wrap .i64 ((most:Int)-1)=((most-1:Nat):Int):=by rw[w64 (by omega) (by omega)];omega
    simp only[Mo.den,aB,aG,aK,aF,aJ,hsub,ih F (by omega) p (most-1) (by omega) (by omega) (by omega) (by omega),Option.bind_some]
    rw[show(if((min p.dep (most-1):Nat):Int) > (n:Int) then((min p.dep (most-1):Nat):Int) else(n:Int))=((max n (min p.dep (most-1)):Nat):Int) by split<;>omega]
    congr 2
    rw[Bool.eq_iff_iff];simp only[decide_eq_true_iff];omega
  simp only[cond_false,he,Option.bind_some]
  rw[w64 (by omega) (by omega)]
  congr 1
  omega
theorem aan(v:ah)(hb:aP v.lf1≤100000000):akO v=some ((min v.dep 17:Nat):Int):=by
 simp only[akO,ace,Mo.den,aB,aG,aK,aF,aJ]
 have:anx v 17=some ((min v.dep 17:Nat):Int):=TL FU v 17 (by have:=gX;omega) hb (by omega) (by omega)
 rw[this];rfl
end Go.Proofs.YtflpefkohpjjpaaGreatDoor
set_option linter.unusedSimpArgs false
set_option linter.unusedVariables false
namespace Go.Proofs.YtflpefkohpjjpaaGreatDoor
open Go.RowKit
theorem size_nil{s:ByteArray}(h:s.size<1):s=⟨#[]⟩:=by
 cases s with
 |mk d=>
  have h:d.size<1:=h
  have:d=#[]:=Array.eq_empty_of_size_eq_zero (by omega)
  rw[this]
theorem Ws{s:ByteArray}(h:¬s.size<1):¬s=⟨#[]⟩:=fun e=>h (by rw[e];exact Nat.zero_lt_one)


theorem aao(s:ByteArray):Q39 s=some (nameB s):=by
 have key:s.size≤32→Tot (UW s 0) (fun r=>match r with|.inl _=>s.data.toList.all (fun c=>rE c.toNat)=false|.inr _=>s.data.toList.all (fun c=>rE c.toNat)=true):=by
  intro h2
  refine T.kL s.size (by omega) (fun k v=>v=(k:Int)∧∀i (hi:i<s.size),i<k→rE s[i].toNat=true) _ ⟨rfl,fun i _ h=>absurd h (by omega)⟩ ?_ ?_
  ·rintro k v hk ⟨rfl,hv⟩
   have hc:rE s[k].toNat=(decide (33≤s[k].toNat)&&decide (s[k].toNat≤126)&&!(s[k].toNat==46)):=rfl
   have e46:((s[k].toNat:Int)==46)=(s[k].toNat==46):=by rw[Bool.eq_iff_iff];simp;omega
   simp only[tJ,Gl,Gm,Mo.den,aB,aG,aK,aF,aJ,iLt hk,cond_true,jv s k hk,Option.bind_some]
   by_cases a1:s[k].toNat<33
   ·rw[decide_eq_true (show(s[k].toNat:Int)<33 by omega)]
    simp only[cond_true,Option.bind_some]
    exact T.ret (yX s _ k hk (by rw[hc,decide_eq_false (show ¬33≤s[k].toNat by omega)];rfl))
   rw[decide_eq_false (show ¬(s[k].toNat:Int)<33 by omega)];simp only[cond_false,Option.bind_some]
   by_cases a2:126<s[k].toNat
   ·rw[decide_eq_true (show(126:Int)<(s[k].toNat:Int) by omega)]
    simp only[cond_true,Option.bind_some]
    exact T.ret (yX s _ k hk (by rw[hc,decide_eq_false (show ¬s[k].toNat≤126 by omega),Bool.and_false];rfl))
   rw[decide_eq_false (show ¬(126:Int)<(s[k].toNat:Int) by omega),e46];simp only[cond_false,Option.bind_some]
   cases a3:s[k].toNat==46 with
   |true=>
    simp only[cond_true]
    exact T.ret (yX s _ k hk (by rw[hc,a3,Bool.not_true,Bool.and_false]))
   |false=>
    simp only[cond_false]
    refine T.ret ⟨inc k (by omega),fun i hi hl=>?_⟩
    rcases Nat.lt_succ_iff_lt_or_eq.1 hl with h3|rfl
    ·exact hv i hi h3
    ·rw[hc,a3,decide_eq_true (show 33≤s[i].toNat by omega),decide_eq_true (show s[i].toNat≤126 by omega)];rfl
  ·rintro v ⟨rfl,hv⟩
   simp only[tJ,Mo.den,aB,aG,aK,aF,aJ,ltn,cond_false]
   exact T.ret (UJ s _ fun i hi=>hv i hi hi)
 unfold Q39 ajc wV wW
 simp only[Mo.den,aB,aG,aK,aF,aJ]
 by_cases h0:s.size<1
 ·rw[decide_eq_true (show(s.size:Int)<1 by omega)]
  rw[yV s (by omega)];rfl
 rw[decide_eq_false (show ¬(s.size:Int)<1 by omega)];simp only[cond_false]
 by_cases h1:32<s.size
 ·rw[decide_eq_true (show(32:Int)<(s.size:Int) by omega),yU s h1];rfl
 rw[decide_eq_false (show ¬(32:Int)<(s.size:Int) by omega)];simp only[Option.bind_some,cond_false]
 have hz:iw s 0=some s[0]:=jv s 0 (by omega)
 rw[hz,vw s (by omega) (by omega)]
 simp only[Option.bind_some]
 have e36:((s[0].toNat:Int)==36)=(s[0].toNat==36):=by rw[Bool.eq_iff_iff];simp;omega
 rw[e36]
 cases hq:s[0].toNat==36 with
 |true=>rfl
 |false=>
  obtain⟨r,h,hr⟩:=key (by omega)
  simp only[cond_false,Bool.not_false,Bool.true_and,h,Option.bind_some]
  rcases r with r|r
  ·have hr:_=false:=hr
   rw[hr];all_goals rfl
  ·have hr:_=true:=hr
   rw[hr];all_goals rfl

def hasB(n:ByteArray)(l:List ByteArray):Bool:=l.any fun m=>decide (n=m)
mutual
def ah.snd:ah→Bool
 |.mk k i s l d=>(yY k i s l.length d.length&&oD k i s)&&(ah.iP l&&ay.iP [] d)
def ah.iP:List ah→Bool
 |[]=>true
 |x::r=>x.snd&&ah.iP r
def ay.iP:List ByteArray→List ay→Bool
 |_,[]=>true
 |seen,.mk n x::r=>(nameB n&&!hasB n seen)&&(x.snd&&ay.iP (n::seen) r)
end
theorem yA:∀l:List ah,ah.iP l=l.all ah.snd
 |[]=>by unfold ah.iP;rfl
 |x::r=>by unfold ah.iP;rw[yA r];rfl
def Lc(l:List ByteArray):List (ByteArray×Bool):=l.map fun n=>(n,true)
theorem IK(n:ByteArray):∀l:List ByteArray,BR (Lc l) n false=hasB n l
 |[]=>rfl
 |x::r=>by
  show(if n=x then true else BR (Lc r) n false)=(decide (n=x)||hasB n r)
  rw[IK n r]
  by_cases h:n=x
  ·rw[if_pos h,decide_eq_true h];rfl
  ·rw[if_neg h,decide_eq_false h];rfl
theorem D6(seen:List ByteArray)(n:ByteArray)(x:ah)(r:List ay):ay.iP seen (.mk n x::r)=((nameB n&&!hasB n seen)&&(x.snd&&ay.iP (n::seen) r)):=by rw[ay.iP]
theorem zK(seen:List ByteArray):ay.iP seen []=true:=by rw[ay.iP]
theorem Ld(v:ah):v.snd=((yY v.au v.dD v.fText v.aU.length v.aT.length&&oD v.au v.dD v.fText)&&(ah.iP v.aU&&ay.iP [] v.aT)):=by
 cases v with
 |mk k i s l d=>rw[ah.snd];rfl
theorem Py(R:RB4)(l:List ay)(hl:l.length≤100000000)(h1:∀x∈l,R.m1 x.fValue=some x.fValue.snd):Mo.den (U1 R l)=some (ay.iP [] l):=by
 unfold U1
 simp only[Mo.den,aB,aG,aK,aF,aJ]
 have key:Tot (U0 R l 0 []) (fun r=>match r with|.inl _=>ay.iP [] l=false|.inr _=>ay.iP [] l=true):=by
  refine T.kL l.length (by omega) (fun k s=>∃m:List ByteArray,m.length=k∧s=((k:Int),Lc m)∧ay.iP [] l=ay.iP m (l.drop k)) _ ⟨[],rfl,rfl,rfl⟩ ?_ ?_
  ·rintro k s hk ⟨m,hm,rfl,he⟩
   have hx:=List.getElem?_eq_getElem hk
   have hdr:l.drop k=l[k]::l.drop (k+1):=List.drop_eq_getElem_cons hk
   have q1:=h1 l[k] (List.getElem_mem hk)
   rw[hdr] at he
   obtain⟨n,x⟩:∃n x,l[k]=ay.mk n x:=by cases l[k] with|mk n x=>exact⟨n,x,rfl⟩
   obtain⟨x,e⟩:=x
   rw[e] at q1 he
   rw[D6] at he
   unfold tN
   simp only[Ny,Nz,Mo.den,aB,aG,aK,aF,aJ,ltt hx,gid hx,cond_true,Option.bind_some,e,ay.fName,ay.fValue,aao,IK]
   simp only[ay.fValue] at q1
   rw[q1]
   cases a:nameB n with
   |false=>rw[a] at he;exact T.ret (show _=false by rw[he];rfl)
   |true=>
    cases b:hasB n m with
    |true=>rw[a,b] at he;exact T.ret (show _=false by rw[he];rfl)
    |false=>
     cases c:x.snd with
     |false=>rw[a,b,c] at he;exact T.ret (show _=false by rw[he];rfl)
     |true=>
      rw[a,b,c] at he
      refine T.grd (by rw[Lc,List.length_map];unfold maxLen;omega) (T.ret ⟨n::m,by simp[hm],by rw[inc k (by omega)];rfl,by rw[he];rfl⟩)
  ·rintro s ⟨m,hm,rfl,he⟩
   rw[List.drop_length,zK] at he
   unfold tN
   simp only[Mo.den,aB,aG,aK,aF,aJ,ltn,cond_false]
   exact T.ret he
 obtain⟨r,h,hr⟩:=key
 rw[h]
 rcases r with r|r
 ·have hr:_=false:=hr
  rw[hr];all_goals rfl
 ·have hr:_=true:=hr
  rw[hr];all_goals rfl
theorem aap(R:RB4)(v:ah)(hl:v.aU.length≤100000000)(h1:∀x∈v.aU,R.m1 x=some x.snd):Tot (UY R v 0) (fun r=>match r with|.inl _=>ah.iP v.aU=false|.inr _=>ah.iP v.aU=true):=by
 rw[yA]
 refine T.kL v.aU.length (by omega) (fun k s=>s=(k:Int)∧(v.aU.take k).all ah.snd=true) _ ⟨rfl,by simp⟩ ?_ ?_
 ·rintro k s hk ⟨rfl,he⟩
  have hx:=List.getElem?_eq_getElem hk
  simp only[tK,Mo.den,aB,aG,aK,aF,aJ,ltt hx,gid hx,cond_true,Option.bind_some,h1 _ (List.getElem_mem hk)]
  cases c:v.aU[k].snd with
  |false=>exact T.ret (TF _ hx c)
  |true=>exact T.ret ⟨inc k (by omega),by rw[yu _ hx,he,c];rfl⟩
 ·rintro s ⟨rfl,he⟩
  simp only[tK,Mo.den,aB,aG,aK,aF,aJ,ltn,cond_false]
  rw[List.take_length] at he
  exact T.ret he
theorem TM:∀(F:Nat) (v:ah),2*aP v.lf1≤F→aP v.lf1≤100000000→(rO F).m1 v=some v.snd:=by
 intro F
 induction F using Nat.strongRecOn with
 |_ F ih=>
 intro v hF hb
 have hp:=bQ v
 have hl:=fG v.aU
 have hd:=fH v.aT
 obtain⟨F,rfl⟩:∃G,F=G+2:=⟨F-2,by omega⟩
 show Mo.den (UZ (rO (F+1)) v)=_
 have hL:=aap (rO (F+1)) v (by omega) fun x hx=>ih (F+1) (by omega) x (by have:=iK hx;omega) (by have:=iK hx;omega)
 have hD:(rO (F+1)).m2 v.aT=some (ay.iP [] v.aT):=Py (rO F) v.aT (by omega) fun x hx=>ih F (by omega) x.fValue (by have:=fE hx;rw[dY] at this;omega) (by have:=fE hx;rw[dY] at this;omega)
 obtain⟨r0,hL,hr0⟩:=hL
 clear ih hF hb hp hl hd
 rw[Ld]
 unfold UZ
 simp only[Nv,Nw,Gn,Gp,Gq,Gs,Gt,Gu,Gv,Gw,Gx,Gy,Gz,Mo.den,aB,aG,aK,aF,aJ,hL,hD,akt]
 clear hL hD
 generalize v.au=k at *
 generalize v.dD=i at *
 generalize v.fText=s at *
 generalize v.aU=l at *
 generalize v.aT=d at *
 unfold yY oD
 have ei:(i != 0)=!(i==0):=rfl
 have es:∀dd:Decidable (s=(⟨#[]⟩:ByteArray)),@decide _ dd=decide (s.size=0):=fun dd=>by
  by_cases h:s.size=0
  ·rw[decide_eq_true h,decide_eq_true (size_nil (by omega))]
  ·rw[decide_eq_false h,decide_eq_false (Ws (by omega))]
 have el:decide ((0:Int)<(l.length:Int))=!(l.length==0):=by
  cases l with
  |nil=>rfl
  |cons x r=>rw[decide_eq_true (show(0:Int)<((x::r).length:Int) by rw[List.length_cons];omega)];rfl
 have ed:decide ((0:Int)<(d.length:Int))=!(d.length==0):=by
  cases d with
  |nil=>rfl
  |cons x r=>rw[decide_eq_true (show(0:Int)<((x::r).length:Int) by rw[List.length_cons];omega)];rfl
 simp only[ei,es,el,ed]
 have e4:decide ((s.size:Int)≤4096)=decide (s.size≤4096):=by rw[Bool.eq_iff_iff];simp;omega
 have e12:((s.size:Int)==12)=decide (s.size=12):=by rw[Bool.eq_iff_iff];simp;omega
 simp only[e4,e12]
 have hl0:(l.length==0)=true→ah.iP l=true:=fun h=>by
  have:l=[]:=List.eq_nil_of_length_eq_zero (by simpa using h)
  rw[this];unfold ah.iP;rfl
 have hd0:(d.length==0)=true→ay.iP [] d=true:=fun h=>by
  have:d=[]:=List.eq_nil_of_length_eq_zero (by simpa using h)
  rw[this];unfold ay.iP;rfl
 clear ei es el ed e4 e12
 generalize ah.iP l=A at *
 generalize ay.iP [] d=B at *
 generalize (l.length==0)=nl at *
 generalize (d.length==0)=nd at *
 generalize mX s=u at *
 generalize decide (s.size≤4096)=c1 at *
 generalize decide (s.size=12)=c2 at *
 generalize decide (s.size=0)=c3 at *
 have hk:k=1∨k=2∨k=3∨k=4∨k=5∨k=6∨k=7∨k=8∨k=9∨k=10∨k=11∨(k≠1∧k≠2∧k≠3∧k≠4∧k≠5∧k≠6∧k≠7∧k≠8∧k≠9∧k≠10∧k≠11):=by omega
 rcases hk with rfl|rfl|rfl|rfl|rfl|rfl|rfl|rfl|rfl|rfl|rfl|⟨n1,n2,n3,n4,n5,n6,n7,n8,n9,n10,n11⟩
 case inr.inr.inr.inr.inr.inr.inr.inr.inr.inr.inr=>
  have f:∀c:Int,k≠c→(k==c)=false:=fun c h=>by simpa using h
  simp only[bne,f _ n1,f _ n2,f _ n3,f _ n4,f _ n5,f _ n6,f _ n7,f _ n8,f _ n9,f _ n10,f _ n11]
  simp only[n1,n2,n3,n4,n5,n6,n7,n8,n9,n10,n11,or_self,if_false,decide_false]
  cases nl<;>cases nd<;>cases c3<;>cases (i==0)<;>rfl
 all_goals (rcases r0 with r0|r0<;>(have hr0:A=_:=hr0;subst hr0))
 all_goals simp(decide:=true) only[if_true,if_false]
 all_goals (cases nl<;>cases nd<;>cases c3<;>cases (i==0)<;>first|rfl|skip)
 all_goals (first|(cases B<;>first|rfl|(exact absurd (hl0 rfl) (by decide))|(exact absurd (hd0 rfl) (by decide))|skip)|skip)
 all_goals (cases u<;>cases c1<;>cases c2<;>first|rfl|(cases (i==1)<;>rfl)|(cases decide (0≤i)<;>rfl))
theorem aaq(v:ah)(hb:aP v.lf1≤100000000):Q12 v=some v.snd:=TM FU v (by have:=gX;omega) hb
def pO(v:ah):Bool:=decide (v.cnt≤1024)&&(decide (v.dep≤16)&&v.snd)
theorem aar(v:ah)(hb:aP v.lf1≤100000000):akR v=some (pO v):=by
 simp only[akR,acg,Mo.den,aB,aG,aK,aF,aJ,aam v hb,aan v hb,aaq v hb,Option.bind_some,pO]
 rw[show decide (((min v.cnt 1025:Nat):Int)≤1024)=decide (v.cnt≤1024) by rw[Bool.eq_iff_iff];simp;omega,show decide (((min v.dep 17:Nat):Int)≤16)=decide (v.dep≤16) by rw[Bool.eq_iff_iff];simp;omega]
 cases decide (v.cnt≤1024)<;>cases decide (v.dep≤16)<;>rfl
end Go.Proofs.YtflpefkohpjjpaaGreatDoor
set_option linter.unusedSimpArgs false
set_option linter.unusedVariables false
namespace Go.Proofs.YtflpefkohpjjpaaGreatDoor
open Go.RowKit
def muR(r:aj):Nat:=if r.dH=true then 0 else((r.gy.size:Int)-r.fat).toNat+1
structure RdI (s:ByteArray) (r:aj):Prop where
 tx:r.gy=s
 a0:0≤r.fat
 a1:r.fat≤s.size
 l0:0≤r.eu
 l1:r.eu≤64
structure RC (s:ByteArray) (r r':aj) (z c:Nat):Prop where
 i:RdI s r'
 l:r'.eu=r.eu
 m0:muR r=0→muR r'=0∧z≤c
 m1:1≤muR r→muR r'<muR r∧z+100≤100*(muR r-muR r')+c
theorem RC.seq{s:ByteArray}{r r1 r2:aj}{z1 c1 z2 c2:Nat}(h:RC s r r1 z1 c1)(k:RC s r1 r2 z2 c2)(hc:c2≤100):RC s r r2 (z1+z2) (c1+c2):=by
 refine⟨k.i,k.l.trans h.l,fun h0=>?_,fun h1=>?_⟩
 ·obtain⟨a1,a2⟩:=h.m0 h0
  obtain⟨b1,b2⟩:=k.m0 a1
  exact⟨b1,by omega⟩
 ·obtain⟨a1,a2⟩:=h.m1 h1
  rcases Nat.eq_zero_or_pos (muR r1) with h0|h0
  ·obtain⟨b1,b2⟩:=k.m0 h0
   exact⟨by omega,by omega⟩
  ·obtain⟨b1,b2⟩:=k.m1 h0
   exact⟨by omega,by omega⟩
theorem RC.z{s:ByteArray}{r r':aj}{z c z' c':Nat}(h:RC s r r' z c)(hz:z'≤z)(hc:c≤c'):RC s r r' z' c':=
 ⟨h.i,h.l,fun h0=>⟨(h.m0 h0).1,by have:=(h.m0 h0).2;omega⟩,fun h1=>⟨(h.m1 h1).1,by have:=(h.m1 h1).2;omega⟩⟩
theorem amG{r:aj}(h:r.dH=true):muR r=0:=by unfold muR;rw[if_pos h]
theorem RC.bad{s:ByteArray}{r r':aj}(hi:RdI s r')(hl:r'.eu=r.eu)(hb:r'.dH=true):RC s r r' 1 1:=by
 have:=amG hb
 exact⟨hi,hl,fun _=>⟨this,Nat.le_refl _⟩,fun h=>⟨by omega,by omega⟩⟩
end Go.Proofs.YtflpefkohpjjpaaGreatDoor
set_option linter.unusedSimpArgs false
set_option linter.unusedVariables false
namespace Go.Proofs.YtflpefkohpjjpaaGreatDoor
open Go.RowKit
theorem apt{v:Int}(h:0≤v):kR .u64 v 7=((v.toNat/128:Nat):Int):=by
 obtain⟨a,rfl⟩:=Int.eq_ofNat_of_zero_le h
 rw[Int.toNat_natCast]
 show Int.fdiv (a:Int) (2^min (7:Int).toNat (IntKind.u64).bits)=_
 rw[show(2:Int)^min (7:Int).toNat (IntKind.u64).bits=((128:Nat):Int) from rfl,Int.fdiv_eq_ediv_of_nonneg _ (by omega)]
 omega
def grp(k:Nat)(v:Int):Prop:=0≤v∧v.toNat*128^k<18446744073709551616
theorem grp.next{k:Nat}{v:Int}(h:grp k v):grp (k+1) (kR .u64 v 7):=by
 rw[apt h.1]
 refine⟨by omega,?_⟩
 rw[Int.toNat_natCast,Nat.pow_succ,Nat.mul_comm (128^k) 128,←Nat.mul_assoc]
 exact Nat.lt_of_le_of_lt (Nat.mul_le_mul_right _ (Nat.div_mul_le_self _ _)) h.2
theorem grp.last{v:Int}(h:grp 10 v):decide ((128:Int)≤v)=false:=by
 have h1:=h.1
 have h2:=h.2
 refine decide_eq_false ?_
 have:(128:Nat)^10=1180591620717411303424:=by decide
 rw[this] at h2
 omega
end Go.Proofs.YtflpefkohpjjpaaGreatDoor
set_option linter.unusedSimpArgs false
set_option linter.unusedVariables false
namespace Go.Proofs.YtflpefkohpjjpaaGreatDoor
open Go.RowKit
end Go.Proofs.YtflpefkohpjjpaaGreatDoor
