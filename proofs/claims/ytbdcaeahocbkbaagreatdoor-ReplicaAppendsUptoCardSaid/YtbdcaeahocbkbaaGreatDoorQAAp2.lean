/- Printed by dec.py. -/
import Derived.Test.YtbdcaeahocbkbaaGreatDoorQAAp1
set_option linter.unusedSimpArgs false
set_option linter.unusedVariables false
namespace Go.Proofs.YtbdcaeahocbkbaaGreatDoor
open Go.RowKit
set_option maxRecDepth 20000
set_option maxHeartbeats 4000000
noncomputable section
abbrev ab5(m:ah→Option (ah)):Prop:=∀p_v,FV (m p_v) 146 [.dat (ah.lf1 p_v)] (fun r=>.dat (ah.lf1 r))
abbrev ab6(m:(List ah)→Option (List ah)):Prop:=∀p_l,FH (m p_l) 188 [.lf (.rows 5 (p_l.map ah.lf)),.raw (.func (.func 146) #[] #[])] [] (fun _=>.own 0) (fun r=>[.row 29 5 (r.map ah.lf)])
abbrev ajH(m:(List aN)→Option (List aN)):Prop:=∀p_l,FH (m p_l) 189 [.lf (.rows 6 (p_l.map aN.lf)),.raw (.func (.func 190) #[] #[])] [] (fun _=>.own 0) (fun r=>[.row 151 6 (r.map aN.lf)])
abbrev ajI(m:aN→Option (aN)):Prop:=∀p_f,FV (m p_f) 190 [.dat (aN.lf1 p_f)] (fun r=>.dat (aN.lf1 r))
structure RB7 where
 m1:(p_v:ah)→Option (ah)
 ok1:ab5 m1
 m2:(p_l:List ah)→Option (List ah)
 ok2:ab6 m2
 m3:(p_l:List aN)→Option (List aN)
 ok3:ajH m3
 m4:(p_f:aN)→Option (aN)
 ok4:ajI m4
def ab7(R_:RB7)(p_v:ah):Mo (ah):=
 .cH [] (R_.ok2 p_v.bF) fun r0 _=>
 .ask (R_.m3 p_v.bC) fun r1 h0=>
 .say [.jA [] (.own 0) [.row 151 6 (r1.map aN.lf)],.at_ 0 0,.frz 2,.frz 3] (ok1 (R_.ok3 _ _ h0))<|
 .ret (aY 1) (ah.mk p_v.aK p_v.je p_v.fText r0 r1)
theorem ajJ(R_:RB7):ab5 fun p_v=>Mo.den (ab7 R_ p_v):=fun _=>cO Tryz.func146
def J8(R_:RB7)(p_l:List ah):(Int×(List ah))→Mo ((Int×(List ah))⊕((List ah))):=fun(v0,l0)=>
 .iB (decide ((v0:Int)<(p_l.length:Int))) (.gx ah.aX p_l v0 fun x0 _=>
 .cl (R_.ok1 x0) fun r0 _=>
 .ask (fQ l0 v0) fun x1 h0=>
 .say [.row (ah.lf1 x1),.rows ((l0.set v0.toNat r0).map ah.lf)] (okc (dI ah.aX h0) (okc (st_ ah.aX l0 v0.toNat r0) (ok1 ((bU ah.aX h0).2))))<|
 .rt [1,5,14,15,16] 1 (.inl (IntKind.wrap .i64 (v0+1),l0.set v0.toNat r0)))<|
 .rt [5] 1 (.inr (l0))
def ajK(R_:RB7)(p_l:List ah)(v0:Int)(l0:List ah):Option (((List ah))):=bQ (fun v_=>(J8 R_ p_l v_).den) FU (v0,l0)
def ajL(R_:RB7)(p_l:List ah):Mo (List ah):=
 .nu p_l ah.lf<|
 .iB ((p_l.length:Int)==0) (.say [] (ok1 (by simp[ah.aX]:(([]:List ah).map ah.lf)=[]))<|
 .ret ⟨[.qG 0 29 5,.jM 0 (([]:List ah).map ah.lf),.mvn 0],[0],[(1,0)],1⟩ (([]:List ah)))<|
 .say [.num p_l.length,.rows ((List.replicate (p_l.length:Int).toNat (ah.mk 0 0 ⟨#[]⟩ [] [])).map ah.lf),.num p_l.length] (okc (ln_ p_l ah.lf) (ok1 (rp_ ah.aX (p_l.length:Int).toNat (ah.mk 0 0 ⟨#[]⟩ [] []))))<|
 .grd ((0:Int)≤(p_l.length:Int)∧80*(p_l.length:Int).toNat≤281474976710656∧(p_l.length:Int).toNat≤maxLen) fun h0=>
 .say [] (okc (mk_ (p_l.length:Int) h0) (ok1 (ln_ p_l ah.lf)))<|
 .l1m [] Tryz.f188 0 [1,1,1,0,1,0] 0 (.exit 0) (fun(v0,l0)=>⟨[(1,.raw (.func (.func 146) #[] #[])),(5,.own 0),(14,.lf (.rows 5 (p_l.map ah.lf))),(15,.i_ (p_l.length:Int)),(16,.i_ v0)],[.row 29 5 (l0.map ah.lf)]⟩) (fun r_=>⟨[(5,.own 0)],[.row 29 5 (r_.map ah.lf)]⟩) (ajK R_ p_l 0 (List.replicate (p_l.length:Int).toNat (ah.mk 0 0 ⟨#[]⟩ [] []))) (J8 R_ p_l) (0,(List.replicate (p_l.length:Int).toNat (ah.mk 0 0 ⟨#[]⟩ [] []))) fun r0=>
 .ret ⟨[.mvn 0],[0],[(1,0)],1⟩ (r0)
theorem an1(R_:RB7):ab6 fun p_l=>Mo.den (ajL R_ p_l):=fun _=>ig Tryz.func188
def Gf(R_:RB7)(p_l:List aN):(Int×(List aN))→Mo ((Int×(List aN))⊕((List aN))):=fun(v0,l0)=>
 .iB (decide ((v0:Int)<(p_l.length:Int))) (.gx aN.aX p_l v0 fun x0 _=>
 .cl (R_.ok4 x0) fun r0 _=>
 .ask (fQ l0 v0) fun x1 h0=>
 .say [.row (aN.lf1 x1),.rows ((l0.set v0.toNat r0).map aN.lf)] (okc (dI aN.aX h0) (okc (st_ aN.aX l0 v0.toNat r0) (ok1 ((bU aN.aX h0).2))))<|
 .rt [1,5,14,15,16] 1 (.inl (IntKind.wrap .i64 (v0+1),l0.set v0.toNat r0)))<|
 .rt [5] 1 (.inr (l0))
def ae5(R_:RB7)(p_l:List aN)(v0:Int)(l0:List aN):Option (((List aN))):=bQ (fun v_=>(Gf R_ p_l v_).den) FU (v0,l0)
def ab8(R_:RB7)(p_l:List aN):Mo (List aN):=
 .nu p_l aN.lf<|
 .iB ((p_l.length:Int)==0) (.say [] (ok1 (by simp[aN.aX]:(([]:List aN).map aN.lf)=[]))<|
 .ret ⟨[.qG 0 151 6,.jM 0 (([]:List aN).map aN.lf),.mvn 0],[0],[(1,0)],1⟩ (([]:List aN)))<|
 .say [.num p_l.length,.rows ((List.replicate (p_l.length:Int).toNat (aN.mk ⟨#[]⟩ (ah.mk 0 0 ⟨#[]⟩ [] []))).map aN.lf),.num p_l.length] (okc (ln_ p_l aN.lf) (ok1 (rp_ aN.aX (p_l.length:Int).toNat (aN.mk ⟨#[]⟩ (ah.mk 0 0 ⟨#[]⟩ [] [])))))<|
 .grd ((0:Int)≤(p_l.length:Int)∧96*(p_l.length:Int).toNat≤281474976710656∧(p_l.length:Int).toNat≤maxLen) fun h0=>
 .say [] (okc (mk_ (p_l.length:Int) h0) (ok1 (ln_ p_l aN.lf)))<|
 .l1m [] Tryz.f189 0 [1,1,1,0,1,0] 0 (.exit 0) (fun(v0,l0)=>⟨[(1,.raw (.func (.func 190) #[] #[])),(5,.own 0),(14,.lf (.rows 6 (p_l.map aN.lf))),(15,.i_ (p_l.length:Int)),(16,.i_ v0)],[.row 151 6 (l0.map aN.lf)]⟩) (fun r_=>⟨[(5,.own 0)],[.row 151 6 (r_.map aN.lf)]⟩) (ae5 R_ p_l 0 (List.replicate (p_l.length:Int).toNat (aN.mk ⟨#[]⟩ (ah.mk 0 0 ⟨#[]⟩ [] [])))) (Gf R_ p_l) (0,(List.replicate (p_l.length:Int).toNat (aN.mk ⟨#[]⟩ (ah.mk 0 0 ⟨#[]⟩ [] [])))) fun r0=>
 .ret ⟨[.mvn 0],[0],[(1,0)],1⟩ (r0)
theorem ajM(R_:RB7):ajH fun p_l=>Mo.den (ab8 R_ p_l):=fun _=>ig Tryz.func189
def ab9(R_:RB7)(p_f:aN):Mo (aN):=
 .say [.order [(true,0),(true,1),(true,2),(true,3),(false,4),(true,5),(false,6)] (some 6) []] ok0<|
 .cl (R_.ok1 p_f.fValue) fun r0 _=>
 .ret (aY 1) (aN.mk p_f.fName r0)
theorem ajN(R_:RB7):ajI fun p_f=>Mo.den (ab9 R_ p_f):=fun _=>cO Tryz.func190
def lK:Nat→RB7
 |0=>{ m1:=fun p_v=>none,ok1:=fun _ _ h=>(by cases h),m2:=fun p_l=>none,ok2:=fun _ _ h=>(by cases h),m3:=fun p_l=>none,ok3:=fun _ _ h=>(by cases h),m4:=fun p_f=>none,ok4:=fun _ _ h=>(by cases h) }
 |n_+1=>{ m1:=fun p_v=>Mo.den (ab7 (lK n_) p_v),ok1:=ajJ (lK n_),m2:=fun p_l=>Mo.den (ajL (lK n_) p_l),ok2:=an1 (lK n_),m3:=fun p_l=>Mo.den (ab8 (lK n_) p_l),ok3:=ajM (lK n_),m4:=fun p_f=>Mo.den (ab9 (lK n_) p_f),ok4:=ajN (lK n_) }
def avk(p_v:ah):Option (ah):=(lK FU).m1 p_v
theorem vO:ab5 avk:=(lK FU).ok1
def Q55(p_l:List ah):Option (List ah):=(lK FU).m2 p_l
theorem ajO:ab6 Q55:=(lK FU).ok2
theorem DI(p_l:List ByteArray):FV (agY p_l) 244 [.lf (.rows 1 (p_l.map lfS))] (fun r=>.lf (.rows 1 (r.map lfS))):=cO Tryz.func244
def ajP(p_o:bf):Mo (bf):=
 .cl (DI p_o.cZ) fun r0 _=>
 .ret (aY 1) (bf.mk r0 p_o.Il)
def an2(p_o:bf):Option (bf):=Mo.den (ajP p_o)
theorem an3(p_o:bf):FV (an2 p_o) 194 [.dat (bf.lf1 p_o)] (fun r=>.dat (bf.lf1 r)):=cO Tryz.func194
def J9(p_l:List bf):(Int×(List bf))→Mo ((Int×(List bf))⊕((List bf))):=fun(v0,l0)=>
 .iB (decide ((v0:Int)<(p_l.length:Int))) (.gx bf.aX p_l v0 fun x0 _=>
 .cl (an3 x0) fun r0 _=>
 .ask (fQ l0 v0) fun x1 h0=>
 .say [.row (bf.lf1 x1),.rows ((l0.set v0.toNat r0).map bf.lf)] (okc (dI bf.aX h0) (okc (st_ bf.aX l0 v0.toNat r0) (ok1 ((bU bf.aX h0).2))))<|
 .rt [1,5,14,15,16] 1 (.inl (IntKind.wrap .i64 (v0+1),l0.set v0.toNat r0)))<|
 .rt [5] 1 (.inr (l0))
def ajQ(p_l:List bf)(v0:Int)(l0:List bf):Option (((List bf))):=bQ (fun v_=>(J9 p_l v_).den) FU (v0,l0)
def aqK(p_l:List bf):Mo (List bf):=
 .nu p_l bf.lf<|
 .iB ((p_l.length:Int)==0) (.say [] (ok1 (by simp[bf.aX]:(([]:List bf).map bf.lf)=[]))<|
 .ret ⟨[.qG 0 129 2,.jM 0 (([]:List bf).map bf.lf),.mvn 0],[0],[(1,0)],1⟩ (([]:List bf)))<|
 .say [.num p_l.length,.rows ((List.replicate (p_l.length:Int).toNat (bf.mk [] false)).map bf.lf),.num p_l.length] (okc (ln_ p_l bf.lf) (ok1 (rp_ bf.aX (p_l.length:Int).toNat (bf.mk [] false))))<|
 .grd ((0:Int)≤(p_l.length:Int)∧32*(p_l.length:Int).toNat≤281474976710656∧(p_l.length:Int).toNat≤maxLen) fun h0=>
 .say [] (okc (mk_ (p_l.length:Int) h0) (ok1 (ln_ p_l bf.lf)))<|
 .l1m [] Tryz.f193 0 [1,1,1,0,1,0] 0 (.exit 0) (fun(v0,l0)=>⟨[(1,.raw (.func (.func 194) #[] #[])),(5,.own 0),(14,.lf (.rows 2 (p_l.map bf.lf))),(15,.i_ (p_l.length:Int)),(16,.i_ v0)],[.row 129 2 (l0.map bf.lf)]⟩) (fun r_=>⟨[(5,.own 0)],[.row 129 2 (r_.map bf.lf)]⟩) (ajQ p_l 0 (List.replicate (p_l.length:Int).toNat (bf.mk [] false))) (J9 p_l) (0,(List.replicate (p_l.length:Int).toNat (bf.mk [] false))) fun r0=>
 .ret ⟨[.mvn 0],[0],[(1,0)],1⟩ (r0)
def Q90(p_l:List bf):Option (List bf):=Mo.den (aqK p_l)
theorem asE(p_l:List bf):FH (Q90 p_l) 193 [.lf (.rows 2 (p_l.map bf.lf)),.raw (.func (.func 194) #[] #[])] [] (fun _=>.own 0) (fun r=>[.row 129 2 (r.map bf.lf)]):=ig Tryz.func193
abbrev acd(m:aT→Option (aT)):Prop:=∀p_e,FV (m p_e) 248 [.dat (aT.lf1 p_e)] (fun r=>.dat (aT.lf1 r))
abbrev ajR(m:(List aT)→Option (List aT)):Prop:=∀p_l,FH (m p_l) 283 [.lf (.rows 11 (p_l.map aT.lf)),.raw (.func (.func 248) #[] #[])] [] (fun _=>.own 0) (fun r=>[.row 44 11 (r.map aT.lf)])
structure RB9 where
 m1:(p_e:aT)→Option (aT)
 ok1:acd m1
 m2:(p_l:List aT)→Option (List aT)
 ok2:ajR m2
def ace(R_:RB9)(p_e:aT):Mo (aT):=
 .cl (DI p_e.cZ) fun r0 _=>
 .cl (DI p_e.eH) fun r1 _=>
 .cl (vO p_e.fArg) fun r2 _=>
 .ask (R_.m2 p_e.bJ) fun r3 h0=>
 .say [.jA [] (.own 0) [.row 44 11 (r3.map aT.lf)],.at_ 0 0,.frz 2] (ok1 (R_.ok2 _ _ h0))<|
 .ret (aY 1) (aT.mk p_e.fOp r0 p_e.fName r1 r2 p_e.fN r3)
theorem ajS(R_:RB9):acd fun p_e=>Mo.den (ace R_ p_e):=fun _=>cO Tryz.func248
def Gg(R_:RB9)(p_l:List aT):(Int×(List aT))→Mo ((Int×(List aT))⊕((List aT))):=fun(v0,l0)=>
 .iB (decide ((v0:Int)<(p_l.length:Int))) (.gx aT.aX p_l v0 fun x0 _=>
 .cl (R_.ok1 x0) fun r0 _=>
 .ask (fQ l0 v0) fun x1 h0=>
 .say [.row (aT.lf1 x1),.rows ((l0.set v0.toNat r0).map aT.lf)] (okc (dI aT.aX h0) (okc (st_ aT.aX l0 v0.toNat r0) (ok1 ((bU aT.aX h0).2))))<|
 .rt [1,5,14,15,16] 1 (.inl (IntKind.wrap .i64 (v0+1),l0.set v0.toNat r0)))<|
 .rt [5] 1 (.inr (l0))
def ae6(R_:RB9)(p_l:List aT)(v0:Int)(l0:List aT):Option (((List aT))):=bQ (fun v_=>(Gg R_ p_l v_).den) FU (v0,l0)
def acf(R_:RB9)(p_l:List aT):Mo (List aT):=
 .nu p_l aT.lf<|
 .iB ((p_l.length:Int)==0) (.say [] (ok1 (by simp[aT.aX]:(([]:List aT).map aT.lf)=[]))<|
 .ret ⟨[.qG 0 44 11,.jM 0 (([]:List aT).map aT.lf),.mvn 0],[0],[(1,0)],1⟩ (([]:List aT)))<|
 .say [.num p_l.length,.rows ((List.replicate (p_l.length:Int).toNat aT.z).map aT.lf),.num p_l.length] (okc (ln_ p_l aT.lf) (ok1 (rp_ aT.aX (p_l.length:Int).toNat aT.z)))<|
 .grd ((0:Int)≤(p_l.length:Int)∧184*(p_l.length:Int).toNat≤281474976710656∧(p_l.length:Int).toNat≤maxLen) fun h0=>
 .say [] (okc (mk_ (p_l.length:Int) h0) (ok1 (ln_ p_l aT.lf)))<|
 .l1m [] Tryz.f283 0 [1,1,1,0,1,0] 0 (.exit 0) (fun(v0,l0)=>⟨[(1,.raw (.func (.func 248) #[] #[])),(5,.own 0),(14,.lf (.rows 11 (p_l.map aT.lf))),(15,.i_ (p_l.length:Int)),(16,.i_ v0)],[.row 44 11 (l0.map aT.lf)]⟩) (fun r_=>⟨[(5,.own 0)],[.row 44 11 (r_.map aT.lf)]⟩) (ae6 R_ p_l 0 (List.replicate (p_l.length:Int).toNat aT.z)) (Gg R_ p_l) (0,(List.replicate (p_l.length:Int).toNat aT.z)) fun r0=>
 .ret ⟨[.mvn 0],[0],[(1,0)],1⟩ (r0)
theorem ajT(R_:RB9):ajR fun p_l=>Mo.den (acf R_ p_l):=fun _=>ig Tryz.func283
def wW:Nat→RB9
 |0=>{ m1:=fun p_e=>none,ok1:=fun _ _ h=>(by cases h),m2:=fun p_l=>none,ok2:=fun _ _ h=>(by cases h) }
 |n_+1=>{ m1:=fun p_e=>Mo.den (ace (wW n_) p_e),ok1:=ajS (wW n_),m2:=fun p_l=>Mo.den (acf (wW n_) p_l),ok2:=ajT (wW n_) }
def avl(p_e:aT):Option (aT):=(wW FU).m1 p_e
theorem an4:acd avl:=(wW FU).ok1
abbrev acg(m:aP→Option (aP)):Prop:=∀p_p,FV (m p_p) 195 [.dat (aP.lf1 p_p)] (fun r=>.dat (aP.lf1 r))
abbrev ajU(m:(List aP)→Option (List aP)):Prop:=∀p_l,FH (m p_l) 249 [.lf (.rows 25 (p_l.map aP.lf)),.raw (.func (.func 195) #[] #[])] [] (fun _=>.own 0) (fun r=>[.row 47 25 (r.map aP.lf)])
structure RB8 where
 m1:(p_p:aP)→Option (aP)
 ok1:acg m1
 m2:(p_l:List aP)→Option (List aP)
 ok2:ajU m2
def ach(R_:RB8)(p_p:aP):Mo (aP):=
 .cl (DI p_p.cZ) fun r0 _=>
 .cl (vO p_p.fArg) fun r1 _=>
 .ask (Q55 p_p.fArgs) fun r2 h0=>
 .say [.jA [] (.own 0) [.row 29 5 (r2.map ah.lf)],.rows (p_p.eF.bK.map dO.lf)] (okc (ajO _ _ h0) (ok1 (by simp[dO.aX]:p_p.eF.bK.map dO.lf=[]++(p_p.eF.bK.map dO.lf))))<|
 .grd ((([]:List dO).length+p_p.eF.bK.length)*16≤140737488355328) fun h1=>
 .say [] (ok1 (cq_ dO.lf h1))<|
 .cl (an4 p_p.fExpr) fun r3 _=>
 .ask (R_.m2 p_p.bJ) fun r4 h2=>
 .say [.jA [] (.own 0) [.row 47 25 (r4.map aP.lf)],.at_ 0 0,.frz 2,.frz 3,.frz 4] (ok1 (R_.ok2 _ _ h2))<|
 .ret (aY 1) (aP.mk p_p.fOp r0 r1 r2 p_p.fN p_p.fM p_p.eF r3 r4)
theorem ajV(R_:RB8):acg fun p_p=>Mo.den (ach R_ p_p):=fun _=>cO Tryz.func195
def Gi(R_:RB8)(p_l:List aP):(Int×(List aP))→Mo ((Int×(List aP))⊕((List aP))):=fun(v0,l0)=>
 .iB (decide ((v0:Int)<(p_l.length:Int))) (.gx aP.aX p_l v0 fun x0 _=>
 .cl (R_.ok1 x0) fun r0 _=>
 .ask (fQ l0 v0) fun x1 h0=>
 .say [.row (aP.lf1 x1),.rows ((l0.set v0.toNat r0).map aP.lf)] (okc (dI aP.aX h0) (okc (st_ aP.aX l0 v0.toNat r0) (ok1 ((bU aP.aX h0).2))))<|
 .rt [1,5,14,15,16] 1 (.inl (IntKind.wrap .i64 (v0+1),l0.set v0.toNat r0)))<|
 .rt [5] 1 (.inr (l0))
def ae7(R_:RB8)(p_l:List aP)(v0:Int)(l0:List aP):Option (((List aP))):=bQ (fun v_=>(Gi R_ p_l v_).den) FU (v0,l0)
def aci(R_:RB8)(p_l:List aP):Mo (List aP):=
 .nu p_l aP.lf<|
 .iB ((p_l.length:Int)==0) (.say [] (ok1 (by simp[aP.aX]:(([]:List aP).map aP.lf)=[]))<|
 .ret ⟨[.qG 0 47 25,.jM 0 (([]:List aP).map aP.lf),.mvn 0],[0],[(1,0)],1⟩ (([]:List aP)))<|
 .say [.num p_l.length,.rows ((List.replicate (p_l.length:Int).toNat aP.z).map aP.lf),.num p_l.length] (okc (ln_ p_l aP.lf) (ok1 (rp_ aP.aX (p_l.length:Int).toNat aP.z)))<|
 .grd ((0:Int)≤(p_l.length:Int)∧400*(p_l.length:Int).toNat≤281474976710656∧(p_l.length:Int).toNat≤maxLen) fun h0=>
 .say [] (okc (mk_ (p_l.length:Int) h0) (ok1 (ln_ p_l aP.lf)))<|
 .l1m [] Tryz.f249 0 [1,1,1,0,1,0] 0 (.exit 0) (fun(v0,l0)=>⟨[(1,.raw (.func (.func 195) #[] #[])),(5,.own 0),(14,.lf (.rows 25 (p_l.map aP.lf))),(15,.i_ (p_l.length:Int)),(16,.i_ v0)],[.row 47 25 (l0.map aP.lf)]⟩) (fun r_=>⟨[(5,.own 0)],[.row 47 25 (r_.map aP.lf)]⟩) (ae7 R_ p_l 0 (List.replicate (p_l.length:Int).toNat aP.z)) (Gi R_ p_l) (0,(List.replicate (p_l.length:Int).toNat aP.z)) fun r0=>
 .ret ⟨[.mvn 0],[0],[(1,0)],1⟩ (r0)
theorem ajW(R_:RB8):ajU fun p_l=>Mo.den (aci R_ p_l):=fun _=>ig Tryz.func249
def wX:Nat→RB8
 |0=>{ m1:=fun p_p=>none,ok1:=fun _ _ h=>(by cases h),m2:=fun p_l=>none,ok2:=fun _ _ h=>(by cases h) }
 |n_+1=>{ m1:=fun p_p=>Mo.den (ach (wX n_) p_p),ok1:=ajV (wX n_),m2:=fun p_l=>Mo.den (aci (wX n_) p_l),ok2:=ajW (wX n_) }
def asF(p_p:aP):Option (aP):=(wX FU).m1 p_p
theorem an5:acg asF:=(wX FU).ok1
def ajX(p_x:aU):Mo (aU):=
 .cH [] (asE p_x.gU) fun r0 _=>
 .ask (asF p_x.jr) fun r1 h0=>
 .say [.res (.dat (aP.lf1 r1)),.at_ 0 0,.frz 2] (ok1 (an5 _ _ h0))<|
 .ret (aY 1) (aU.aiH (aU.aqB p_x r0) r1)
def an6(p_x:aU):Option (aU):=Mo.den (ajX p_x)
theorem ae8(p_x:aU):FV (an6 p_x) 148 [.dat (aU.lf1 p_x)] (fun r=>.dat (aU.lf1 r)):=cO Tryz.func148
def Ko(p_l:List aU):(Int×(List aU))→Mo ((Int×(List aU))⊕((List aU))):=fun(v0,l0)=>
 .iB (decide ((v0:Int)<(p_l.length:Int))) (.gx aU.aX p_l v0 fun x0 _=>
 .cl (ae8 x0) fun r0 _=>
 .ask (fQ l0 v0) fun x1 h0=>
 .say [.row (aU.lf1 x1),.rows ((l0.set v0.toNat r0).map aU.lf)] (okc (dI aU.aX h0) (okc (st_ aU.aX l0 v0.toNat r0) (ok1 ((bU aU.aX h0).2))))<|
 .rt [1,5,14,15,16] 1 (.inl (IntKind.wrap .i64 (v0+1),l0.set v0.toNat r0)))<|
 .rt [5] 1 (.inr (l0))
def ajY(p_l:List aU)(v0:Int)(l0:List aU):Option (((List aU))):=bQ (fun v_=>(Ko p_l v_).den) FU (v0,l0)
def aqL(p_l:List aU):Mo (List aU):=
 .nu p_l aU.lf<|
 .iB ((p_l.length:Int)==0) (.say [] (ok1 (by simp[aU.aX]:(([]:List aU).map aU.lf)=[]))<|
 .ret ⟨[.qG 0 49 31,.jM 0 (([]:List aU).map aU.lf),.mvn 0],[0],[(1,0)],1⟩ (([]:List aU)))<|
 .say [.num p_l.length,.rows ((List.replicate (p_l.length:Int).toNat aU.z).map aU.lf),.num p_l.length] (okc (ln_ p_l aU.lf) (ok1 (rp_ aU.aX (p_l.length:Int).toNat aU.z)))<|
 .grd ((0:Int)≤(p_l.length:Int)∧456*(p_l.length:Int).toNat≤281474976710656∧(p_l.length:Int).toNat≤maxLen) fun h0=>
 .say [] (okc (mk_ (p_l.length:Int) h0) (ok1 (ln_ p_l aU.lf)))<|
 .l1m [] Tryz.f191 0 [1,1,1,0,1,0] 0 (.exit 0) (fun(v0,l0)=>⟨[(1,.raw (.func (.func 148) #[] #[])),(5,.own 0),(14,.lf (.rows 31 (p_l.map aU.lf))),(15,.i_ (p_l.length:Int)),(16,.i_ v0)],[.row 49 31 (l0.map aU.lf)]⟩) (fun r_=>⟨[(5,.own 0)],[.row 49 31 (r_.map aU.lf)]⟩) (ajY p_l 0 (List.replicate (p_l.length:Int).toNat aU.z)) (Ko p_l) (0,(List.replicate (p_l.length:Int).toNat aU.z)) fun r0=>
 .ret ⟨[.mvn 0],[0],[(1,0)],1⟩ (r0)
def Q91(p_l:List aU):Option (List aU):=Mo.den (aqL p_l)
theorem asG(p_l:List aU):FH (Q91 p_l) 191 [.lf (.rows 31 (p_l.map aU.lf)),.raw (.func (.func 148) #[] #[])] [] (fun _=>.own 0) (fun r=>[.row 49 31 (r.map aU.lf)]):=ig Tryz.func191
abbrev U3(m:aI→Option (aI)):Prop:=∀p_s,FV (m p_s) 192 [.dat (aI.lf1 p_s)] (fun r=>.dat (aI.lf1 r))
abbrev ae9(m:(List bH)→Option (List bH)):Prop:=∀p_l,FH (m p_l) 245 [.lf (.rows 22 (p_l.map bH.lf)),.raw (.func (.func 246) #[] #[])] [] (fun _=>.own 0) (fun r=>[.row 192 22 (r.map bH.lf)])
abbrev afa(m:(List aI)→Option (List aI)):Prop:=∀p_l,FH (m p_l) 247 [.lf (.rows 21 (p_l.map aI.lf)),.raw (.func (.func 192) #[] #[])] [] (fun _=>.own 0) (fun r=>[.row 35 21 (r.map aI.lf)])
abbrev afb(m:bH→Option (bH)):Prop:=∀p_p,FV (m p_p) 246 [.dat (bH.lf1 p_p)] (fun r=>.dat (bH.lf1 r))
structure Gj where
 m1:(p_s:aI)→Option (aI)
 ok1:U3 m1
 m2:(p_l:List bH)→Option (List bH)
 ok2:ae9 m2
 m3:(p_l:List aI)→Option (List aI)
 ok3:afa m3
 m4:(p_p:bH)→Option (bH)
 ok4:afb m4
def acj(R_:Gj)(p_s:aI):Mo (aI):=
 .cl (vO p_s.rM) fun r0 _=>
 .cl (vO p_s.rO) fun r1 _=>
 .cH [] (ajO p_s.iZ) fun r2 _=>
 .cl (DI p_s.eu) fun r3 _=>
 .cH [] (R_.ok2 p_s.dD) fun r4 _=>
 .ask (R_.m3 p_s.eP) fun r5 h0=>
 .say [.jA [] (.own 0) [.row 35 21 (r5.map aI.lf)],.at_ 0 0,.frz 2,.frz 3,.frz 4] (ok1 (R_.ok3 _ _ h0))<|
 .ret (aY 1) (aI.mk p_s.jH p_s.kU r0 p_s.kV r1 r2 p_s.mG p_s.mJ r3 r4 p_s.qJ r5 p_s.jG)
theorem ajZ(R_:Gj):U3 fun p_s=>Mo.den (acj R_ p_s):=fun _=>cO Tryz.func192
def Gl(R_:Gj)(p_l:List bH):(Int×(List bH))→Mo ((Int×(List bH))⊕((List bH))):=fun(v0,l0)=>
 .iB (decide ((v0:Int)<(p_l.length:Int))) (.gx bH.aX p_l v0 fun x0 _=>
 .cl (R_.ok4 x0) fun r0 _=>
 .ask (fQ l0 v0) fun x1 h0=>
 .say [.row (bH.lf1 x1),.rows ((l0.set v0.toNat r0).map bH.lf)] (okc (dI bH.aX h0) (okc (st_ bH.aX l0 v0.toNat r0) (ok1 ((bU bH.aX h0).2))))<|
 .rt [1,5,14,15,16] 1 (.inl (IntKind.wrap .i64 (v0+1),l0.set v0.toNat r0)))<|
 .rt [5] 1 (.inr (l0))
def afc(R_:Gj)(p_l:List bH)(v0:Int)(l0:List bH):Option (((List bH))):=bQ (fun v_=>(Gl R_ p_l v_).den) FU (v0,l0)
def acn(R_:Gj)(p_l:List bH):Mo (List bH):=
 .nu p_l bH.lf<|
 .iB ((p_l.length:Int)==0) (.say [] (ok1 (by simp[bH.aX]:(([]:List bH).map bH.lf)=[]))<|
 .ret ⟨[.qG 0 192 22,.jM 0 (([]:List bH).map bH.lf),.mvn 0],[0],[(1,0)],1⟩ (([]:List bH)))<|
 .say [.num p_l.length,.rows ((List.replicate (p_l.length:Int).toNat (bH.mk ⟨#[]⟩ aI.z)).map bH.lf),.num p_l.length] (okc (ln_ p_l bH.lf) (ok1 (rp_ bH.aX (p_l.length:Int).toNat (bH.mk ⟨#[]⟩ aI.z))))<|
 .grd ((0:Int)≤(p_l.length:Int)∧328*(p_l.length:Int).toNat≤281474976710656∧(p_l.length:Int).toNat≤maxLen) fun h0=>
 .say [] (okc (mk_ (p_l.length:Int) h0) (ok1 (ln_ p_l bH.lf)))<|
 .l1m [] Tryz.f245 0 [1,1,1,0,1,0] 0 (.exit 0) (fun(v0,l0)=>⟨[(1,.raw (.func (.func 246) #[] #[])),(5,.own 0),(14,.lf (.rows 22 (p_l.map bH.lf))),(15,.i_ (p_l.length:Int)),(16,.i_ v0)],[.row 192 22 (l0.map bH.lf)]⟩) (fun r_=>⟨[(5,.own 0)],[.row 192 22 (r_.map bH.lf)]⟩) (afc R_ p_l 0 (List.replicate (p_l.length:Int).toNat (bH.mk ⟨#[]⟩ aI.z))) (Gl R_ p_l) (0,(List.replicate (p_l.length:Int).toNat (bH.mk ⟨#[]⟩ aI.z))) fun r0=>
 .ret ⟨[.mvn 0],[0],[(1,0)],1⟩ (r0)
theorem aj0(R_:Gj):ae9 fun p_l=>Mo.den (acn R_ p_l):=fun _=>ig Tryz.func245
def Gm(R_:Gj)(p_l:List aI):(Int×(List aI))→Mo ((Int×(List aI))⊕((List aI))):=fun(v0,l0)=>
 .iB (decide ((v0:Int)<(p_l.length:Int))) (.gx aI.aX p_l v0 fun x0 _=>
 .cl (R_.ok1 x0) fun r0 _=>
 .ask (fQ l0 v0) fun x1 h0=>
 .say [.row (aI.lf1 x1),.rows ((l0.set v0.toNat r0).map aI.lf)] (okc (dI aI.aX h0) (okc (st_ aI.aX l0 v0.toNat r0) (ok1 ((bU aI.aX h0).2))))<|
 .rt [1,5,14,15,16] 1 (.inl (IntKind.wrap .i64 (v0+1),l0.set v0.toNat r0)))<|
 .rt [5] 1 (.inr (l0))
def afd(R_:Gj)(p_l:List aI)(v0:Int)(l0:List aI):Option (((List aI))):=bQ (fun v_=>(Gm R_ p_l v_).den) FU (v0,l0)
def aco(R_:Gj)(p_l:List aI):Mo (List aI):=
 .nu p_l aI.lf<|
 .iB ((p_l.length:Int)==0) (.say [] (ok1 (by simp[aI.aX]:(([]:List aI).map aI.lf)=[]))<|
 .ret ⟨[.qG 0 35 21,.jM 0 (([]:List aI).map aI.lf),.mvn 0],[0],[(1,0)],1⟩ (([]:List aI)))<|
 .say [.num p_l.length,.rows ((List.replicate (p_l.length:Int).toNat aI.z).map aI.lf),.num p_l.length] (okc (ln_ p_l aI.lf) (ok1 (rp_ aI.aX (p_l.length:Int).toNat aI.z)))<|
 .grd ((0:Int)≤(p_l.length:Int)∧312*(p_l.length:Int).toNat≤281474976710656∧(p_l.length:Int).toNat≤maxLen) fun h0=>
 .say [] (okc (mk_ (p_l.length:Int) h0) (ok1 (ln_ p_l aI.lf)))<|
 .l1m [] Tryz.f247 0 [1,1,1,0,1,0] 0 (.exit 0) (fun(v0,l0)=>⟨[(1,.raw (.func (.func 192) #[] #[])),(5,.own 0),(14,.lf (.rows 21 (p_l.map aI.lf))),(15,.i_ (p_l.length:Int)),(16,.i_ v0)],[.row 35 21 (l0.map aI.lf)]⟩) (fun r_=>⟨[(5,.own 0)],[.row 35 21 (r_.map aI.lf)]⟩) (afd R_ p_l 0 (List.replicate (p_l.length:Int).toNat aI.z)) (Gm R_ p_l) (0,(List.replicate (p_l.length:Int).toNat aI.z)) fun r0=>
 .ret ⟨[.mvn 0],[0],[(1,0)],1⟩ (r0)
theorem aj1(R_:Gj):afa fun p_l=>Mo.den (aco R_ p_l):=fun _=>ig Tryz.func247
def acp(R_:Gj)(p_p:bH):Mo (bH):=
 .say [.order [(true,0),(true,1),(true,2),(true,3),(false,4),(true,5),(false,6)] (some 6) []] ok0<|
 .cl (R_.ok1 p_p.dW) fun r0 _=>
 .ret (aY 1) (bH.mk p_p.fName r0)
theorem aj2(R_:Gj):afb fun p_p=>Mo.den (acp R_ p_p):=fun _=>cO Tryz.func246
def jS:Nat→Gj
 |0=>{ m1:=fun p_s=>none,ok1:=fun _ _ h=>(by cases h),m2:=fun p_l=>none,ok2:=fun _ _ h=>(by cases h),m3:=fun p_l=>none,ok3:=fun _ _ h=>(by cases h),m4:=fun p_p=>none,ok4:=fun _ _ h=>(by cases h) }
 |n_+1=>{ m1:=fun p_s=>Mo.den (acj (jS n_) p_s),ok1:=ajZ (jS n_),m2:=fun p_l=>Mo.den (acn (jS n_) p_l),ok2:=aj0 (jS n_),m3:=fun p_l=>Mo.den (aco (jS n_) p_l),ok3:=aj1 (jS n_),m4:=fun p_p=>Mo.den (acp (jS n_) p_p),ok4:=aj2 (jS n_) }
def asH(p_s:aI):Option (aI):=(jS FU).m1 p_s
theorem an7:U3 asH:=(jS FU).ok1
def aj3(p_d:cu):Mo (cu):=
 .cH [] (asG p_d.bV) fun r0 _=>
 .ask (asH p_d.dW) fun r1 h0=>
 .say [.res (.dat (aI.lf1 r1)),.at_ 0 0,.frz 2] (ok1 (an7 _ _ h0))<|
 .ret (aY 1) (cu.mk p_d.fName r0 r1 p_d.ou p_d.jX)
def asI(p_d:cu):Option (cu):=Mo.den (aj3 p_d)
theorem an8(p_d:cu):FV (asI p_d) 147 [.dat (cu.lf1 p_d)] (fun r=>.dat (cu.lf1 r)):=cO Tryz.func147
theorem U4(p_l:List Int):FH (Yr p_l) 100 [.lf (.rows 1 (p_l.map lfI))] [] (fun _=>.own 0) (fun r=>[.row 3 1 (r.map lfI)]):=ig Tryz.func100
abbrev acr(m:aH→Option (aH)):Prop:=∀p_w,FV (m p_w) 99 [.dat (aH.lf1 p_w)] (fun r=>.dat (aH.lf1 r))
abbrev aj6(m:(List aH)→Option (List aH)):Prop:=∀p_l,FH (m p_l) 149 [.lf (.rows 78 (p_l.map aH.lf)),.raw (.func (.func 99) #[] #[])] [] (fun _=>.own 0) (fun r=>[.row 52 78 (r.map aH.lf)])
structure RB6 where
 m1:(p_w:aH)→Option (aH)
 ok1:acr m1
 m2:(p_l:List aH)→Option (List aH)
 ok2:aj6 m2
def acs(R_:RB6)(p_w:aH):Mo (aH):=
 .cl (vO p_w.jh) fun r0 _=>
 .cl (vO p_w.bC) fun r1 _=>
 .cl (vO p_w.eX) fun r2 _=>
 .cl (an8 p_w.kM) fun r3 _=>
 .cl (ae8 p_w.bP) fun r4 _=>
 .cH [] (R_.ok2 p_w.dh) fun r5 _=>
 .ask (Yr p_w.dZ) fun r6 h0=>
 .say [.jA [] (.own 0) [.row 3 1 (r6.map lfI)],.at_ 0 0,.frz 2,.frz 3] (ok1 (U4 _ _ h0))<|
 .ret (aY 1) (aH.mk p_w.aK p_w.iO r0 r1 r2 r3 r4 p_w.oz p_w.dQ r5 r6 p_w.iK)
theorem aj7(R_:RB6):acr fun p_w=>Mo.den (acs R_ p_w):=fun _=>cO Tryz.func99
def Gn(R_:RB6)(p_l:List aH):(Int×(List aH))→Mo ((Int×(List aH))⊕((List aH))):=fun(v0,l0)=>
 .iB (decide ((v0:Int)<(p_l.length:Int))) (.gx aH.aX p_l v0 fun x0 _=>
 .cl (R_.ok1 x0) fun r0 _=>
 .ask (fQ l0 v0) fun x1 h0=>
 .say [.row (aH.lf1 x1),.rows ((l0.set v0.toNat r0).map aH.lf)] (okc (dI aH.aX h0) (okc (st_ aH.aX l0 v0.toNat r0) (ok1 ((bU aH.aX h0).2))))<|
 .rt [1,5,14,15,16] 1 (.inl (IntKind.wrap .i64 (v0+1),l0.set v0.toNat r0)))<|
 .rt [5] 1 (.inr (l0))
def afe(R_:RB6)(p_l:List aH)(v0:Int)(l0:List aH):Option (((List aH))):=bQ (fun v_=>(Gn R_ p_l v_).den) FU (v0,l0)
def acu(R_:RB6)(p_l:List aH):Mo (List aH):=
 .nu p_l aH.lf<|
 .iB ((p_l.length:Int)==0) (.say [] (ok1 (by simp[aH.aX]:(([]:List aH).map aH.lf)=[]))<|
 .ret ⟨[.qG 0 52 78,.jM 0 (([]:List aH).map aH.lf),.mvn 0],[0],[(1,0)],1⟩ (([]:List aH)))<|
 .say [.num p_l.length,.rows ((List.replicate (p_l.length:Int).toNat aH.z).map aH.lf),.num p_l.length] (okc (ln_ p_l aH.lf) (ok1 (rp_ aH.aX (p_l.length:Int).toNat aH.z)))<|
 .grd ((0:Int)≤(p_l.length:Int)∧1168*(p_l.length:Int).toNat≤281474976710656∧(p_l.length:Int).toNat≤maxLen) fun h0=>
 .say [] (okc (mk_ (p_l.length:Int) h0) (ok1 (ln_ p_l aH.lf)))<|
 .l1m [] Tryz.f149 0 [1,1,1,0,1,0] 0 (.exit 0) (fun(v0,l0)=>⟨[(1,.raw (.func (.func 99) #[] #[])),(5,.own 0),(14,.lf (.rows 78 (p_l.map aH.lf))),(15,.i_ (p_l.length:Int)),(16,.i_ v0)],[.row 52 78 (l0.map aH.lf)]⟩) (fun r_=>⟨[(5,.own 0)],[.row 52 78 (r_.map aH.lf)]⟩) (afe R_ p_l 0 (List.replicate (p_l.length:Int).toNat aH.z)) (Gn R_ p_l) (0,(List.replicate (p_l.length:Int).toNat aH.z)) fun r0=>
 .ret ⟨[.mvn 0],[0],[(1,0)],1⟩ (r0)
theorem aj8(R_:RB6):aj6 fun p_l=>Mo.den (acu R_ p_l):=fun _=>ig Tryz.func149
def wY:Nat→RB6
 |0=>{ m1:=fun p_w=>none,ok1:=fun _ _ h=>(by cases h),m2:=fun p_l=>none,ok2:=fun _ _ h=>(by cases h) }
 |n_+1=>{ m1:=fun p_w=>Mo.den (acs (wY n_) p_w),ok1:=aj7 (wY n_),m2:=fun p_l=>Mo.den (acu (wY n_) p_l),ok2:=aj8 (wY n_) }
def avm(p_w:aH):Option (aH):=(wY FU).m1 p_w
theorem an9:acr avm:=(wY FU).ok1
def aj9(p_e:aF):Mo (aF):=
 .cl (an9 p_e.dL) fun r0 _=>
 .ret (aY 1) (aF.mk p_e.bW p_e.dQ p_e.nD p_e.vI r0)
def aoa(p_e:aF):Option (aF):=Mo.den (aj9 p_e)
theorem aob(p_e:aF):FV (aoa p_e) 66 [.dat (aF.lf1 p_e)] (fun r=>.dat (aF.lf1 r)):=cO Tryz.func66
def Kq(p_l:List aF):(Int×(List aF))→Mo ((Int×(List aF))⊕((List aF))):=fun(v0,l0)=>
 .iB (decide ((v0:Int)<(p_l.length:Int))) (.gx aF.aX p_l v0 fun x0 _=>
 .cl (aob x0) fun r0 _=>
 .ask (fQ l0 v0) fun x1 h0=>
 .say [.row (aF.lf1 x1),.rows ((l0.set v0.toNat r0).map aF.lf)] (okc (dI aF.aX h0) (okc (st_ aF.aX l0 v0.toNat r0) (ok1 ((bU aF.aX h0).2))))<|
 .rt [1,5,14,15,16] 1 (.inl (IntKind.wrap .i64 (v0+1),l0.set v0.toNat r0)))<|
 .rt [5] 1 (.inr (l0))
def akb(p_l:List aF)(v0:Int)(l0:List aF):Option (((List aF))):=bQ (fun v_=>(Kq p_l v_).den) FU (v0,l0)
def aqM(p_l:List aF):Mo (List aF):=
 .nu p_l aF.lf<|
 .iB ((p_l.length:Int)==0) (.say [] (ok1 (by simp[aF.aX]:(([]:List aF).map aF.lf)=[]))<|
 .ret ⟨[.qG 0 54 82,.jM 0 (([]:List aF).map aF.lf),.mvn 0],[0],[(1,0)],1⟩ (([]:List aF)))<|
 .say [.num p_l.length,.rows ((List.replicate (p_l.length:Int).toNat (aF.mk 0 0 ⟨#[]⟩ 0 aH.z)).map aF.lf),.num p_l.length] (okc (ln_ p_l aF.lf) (ok1 (rp_ aF.aX (p_l.length:Int).toNat (aF.mk 0 0 ⟨#[]⟩ 0 aH.z))))<|
 .grd ((0:Int)≤(p_l.length:Int)∧1208*(p_l.length:Int).toNat≤281474976710656∧(p_l.length:Int).toNat≤maxLen) fun h0=>
 .say [] (okc (mk_ (p_l.length:Int) h0) (ok1 (ln_ p_l aF.lf)))<|
 .l1m [] Tryz.f65 0 [1,1,1,0,1,0] 0 (.exit 0) (fun(v0,l0)=>⟨[(1,.raw (.func (.func 66) #[] #[])),(5,.own 0),(14,.lf (.rows 82 (p_l.map aF.lf))),(15,.i_ (p_l.length:Int)),(16,.i_ v0)],[.row 54 82 (l0.map aF.lf)]⟩) (fun r_=>⟨[(5,.own 0)],[.row 54 82 (r_.map aF.lf)]⟩) (akb p_l 0 (List.replicate (p_l.length:Int).toNat (aF.mk 0 0 ⟨#[]⟩ 0 aH.z))) (Kq p_l) (0,(List.replicate (p_l.length:Int).toNat (aF.mk 0 0 ⟨#[]⟩ 0 aH.z))) fun r0=>
 .ret ⟨[.mvn 0],[0],[(1,0)],1⟩ (r0)
def Q63(p_l:List aF):Option (List aF):=Mo.den (aqM p_l)
theorem acv(p_l:List aF):FH (Q63 p_l) 65 [.lf (.rows 82 (p_l.map aF.lf)),.raw (.func (.func 66) #[] #[])] [] (fun _=>.own 0) (fun r=>[.row 54 82 (r.map aF.lf)]):=ig Tryz.func65
def akc(p_m:aB):Mo (aB):=
 .cH [] (acv p_m.bn) fun r0 _=>
 .cH [] (U4 p_m.fNext) fun r1 _=>
 .cH [] (U4 p_m.bg) fun r2 _=>
 .ret ⟨[.kill 0,.kill 1,.mvn 2,.mvn 3,.mvn 4],[0],[(5,0),(6,1),(7,2)],3⟩ (aB.BR (aB.aeI (aB.xY p_m r0) r1) r2)
def aoc(p_m:aB):Option (aB):=Mo.den (akc p_m)
theorem aff(p_m:aB):FH (aoc p_m) 67 [.dat (aB.lf1 p_m)] [] (fun r=>FP (.agg ((aB.lf1 r).map AV.lf)) [(8,.own 0),(10,.own 1),(11,.own 2)]) (fun r=>[.row 54 82 (r.bn.map aF.lf),.row 3 1 (r.fNext.map lfI),.row 3 1 (r.bg.map lfI)]):=ig Tryz.func67
def akd(p_m:aB)(p_at:Int):Mo (aB×fK):=
 .say [.num p_m.bn.length] (okc (ln_ p_m.bn aF.lf) (ok1 (qQ _ _ _:(p_m.bn.drop (if(p_m.bn.length:Int)<(if 0 > (if p_m.aJ > p_at then p_m.aJ else p_at) then 0 else(if p_m.aJ > p_at then p_m.aJ else p_at)) then(p_m.bn.length:Int) else(if 0 > (if p_m.aJ > p_at then p_m.aJ else p_at) then 0 else(if p_m.aJ > p_at then p_m.aJ else p_at))).toNat).map aF.lf=((p_m.bn.map aF.lf).take ((p_m.bn.map aF.lf).length:Int).toNat).drop (if(p_m.bn.length:Int)<(if 0 > (if p_m.aJ > p_at then p_m.aJ else p_at) then 0 else(if p_m.aJ > p_at then p_m.aJ else p_at)) then(p_m.bn.length:Int) else(if 0 > (if p_m.aJ > p_at then p_m.aJ else p_at) then 0 else(if p_m.aJ > p_at then p_m.aJ else p_at))).toNat)))<|
 .grd ((0:Int)≤(if(p_m.bn.length:Int)<(if 0 > (if p_m.aJ > p_at then p_m.aJ else p_at) then 0 else(if p_m.aJ > p_at then p_m.aJ else p_at)) then(p_m.bn.length:Int) else(if 0 > (if p_m.aJ > p_at then p_m.aJ else p_at) then 0 else(if p_m.aJ > p_at then p_m.aJ else p_at)))∧(if(p_m.bn.length:Int)<(if 0 > (if p_m.aJ > p_at then p_m.aJ else p_at) then 0 else(if p_m.aJ > p_at then p_m.aJ else p_at)) then(p_m.bn.length:Int) else(if 0 > (if p_m.aJ > p_at then p_m.aJ else p_at) then 0 else(if p_m.aJ > p_at then p_m.aJ else p_at)))≤(p_m.bn.length:Int)∧(p_m.bn.length:Int)≤(p_m.bn.length:Int)) fun h0=>
 .say [] (ok1 (aeM _ _ h0:(0:Int)≤(if(p_m.bn.length:Int)<(if 0 > (if p_m.aJ > p_at then p_m.aJ else p_at) then 0 else(if p_m.aJ > p_at then p_m.aJ else p_at)) then(p_m.bn.length:Int) else(if 0 > (if p_m.aJ > p_at then p_m.aJ else p_at) then 0 else(if p_m.aJ > p_at then p_m.aJ else p_at)))∧(if(p_m.bn.length:Int)<(if 0 > (if p_m.aJ > p_at then p_m.aJ else p_at) then 0 else(if p_m.aJ > p_at then p_m.aJ else p_at)) then(p_m.bn.length:Int) else(if 0 > (if p_m.aJ > p_at then p_m.aJ else p_at) then 0 else(if p_m.aJ > p_at then p_m.aJ else p_at)))≤((p_m.bn.map aF.lf).length:Int)∧((p_m.bn.map aF.lf).length:Int)≤((p_m.bn.map aF.lf).length:Int)))<|
 .ask (Q63 (p_m.bn.drop (if(p_m.bn.length:Int)<(if 0 > (if p_m.aJ > p_at then p_m.aJ else p_at) then 0 else(if p_m.aJ > p_at then p_m.aJ else p_at)) then(p_m.bn.length:Int) else(if 0 > (if p_m.aJ > p_at then p_m.aJ else p_at) then 0 else(if p_m.aJ > p_at then p_m.aJ else p_at))).toNat)) fun r0 h1=>
 .say [.gY (.q 0 (.q 1 (.q 2 (.q 3 (.q 4 (.q 5 (.q 6 (.q 7 (.q 8 (.alt 9 (.q 10 (.l 11 (.l 12 .fin))) (.l 11 (.l 9 (.q 10 (.l 12 .fin)))))))))))))) (some 12) [3] [.rows ((p_m.bn.drop (if(p_m.bn.length:Int)<(if 0 > (if p_m.aJ > p_at then p_m.aJ else p_at) then 0 else(if p_m.aJ > p_at then p_m.aJ else p_at)) then(p_m.bn.length:Int) else(if 0 > (if p_m.aJ > p_at then p_m.aJ else p_at) then 0 else(if p_m.aJ > p_at then p_m.aJ else p_at))).toNat).map aF.lf),.both [.at_ 6 9,.resv 1,.jA [] (.own 0) [.row 54 82 (r0.map aF.lf)],.slot 3] [.at_ 6 11,.resv 1,.slot 3,.jA [] (.own 0) [.row 54 82 (r0.map aF.lf)]]] [2,4,5,6,7] 5 [(2,.ptr 0 0),(4,.ptr 1 0),(5,.ptr 2 0),(6,.i_ (if(p_m.bn.length:Int)<(if 0 > (if p_m.aJ > p_at then p_m.aJ else p_at) then 0 else(if p_m.aJ > p_at then p_m.aJ else p_at)) then(p_m.bn.length:Int) else(if 0 > (if p_m.aJ > p_at then p_m.aJ else p_at) then 0 else(if p_m.aJ > p_at then p_m.aJ else p_at)))),(7,.ptr 3 0)] [eG p_m,.box 25 (Z25),.box 68 (.agg [.i_ 0,.i_ 0,.i_ 0,.dw 82]),.box 68 (.agg [.i_ p_m.fID,.i_ p_m.bW,.i_ (if(p_m.bn.length:Int)<(if 0 > (if p_m.aJ > p_at then p_m.aJ else p_at) then 0 else(if p_m.aJ > p_at then p_m.aJ else p_at)) then(p_m.bn.length:Int) else(if 0 > (if p_m.aJ > p_at then p_m.aJ else p_at) then 0 else(if p_m.aJ > p_at then p_m.aJ else p_at))),.own 4]),.row 54 82 (r0.map aF.lf)],.rows ((p_m.bn.take (if(p_m.bn.length:Int)<(if 0 > (if p_m.aJ > p_at then p_m.aJ else p_at) then 0 else(if p_m.aJ > p_at then p_m.aJ else p_at)) then(p_m.bn.length:Int) else(if 0 > (if p_m.aJ > p_at then p_m.aJ else p_at) then 0 else(if p_m.aJ > p_at then p_m.aJ else p_at))).toNat).map aF.lf)] (okc (acv _ _ h1) (okc (rf_ ⟨[(2,.ptr 0 0),(4,.ptr 1 0),(5,.ptr 2 0),(6,.i_ (if(p_m.bn.length:Int)<(if 0 > (if p_m.aJ > p_at then p_m.aJ else p_at) then 0 else(if p_m.aJ > p_at then p_m.aJ else p_at)) then(p_m.bn.length:Int) else(if 0 > (if p_m.aJ > p_at then p_m.aJ else p_at) then 0 else(if p_m.aJ > p_at then p_m.aJ else p_at)))),(7,.ptr 3 0)],[eG p_m,.box 25 (Z25),.box 68 (.agg [.i_ 0,.i_ 0,.i_ 0,.dw 82]),.box 68 (.agg [.i_ p_m.fID,.i_ p_m.bW,.i_ (if(p_m.bn.length:Int)<(if 0 > (if p_m.aJ > p_at then p_m.aJ else p_at) then 0 else(if p_m.aJ > p_at then p_m.aJ else p_at)) then(p_m.bn.length:Int) else(if 0 > (if p_m.aJ > p_at then p_m.aJ else p_at) then 0 else(if p_m.aJ > p_at then p_m.aJ else p_at))),.own 4]),.row 54 82 (r0.map aF.lf)]⟩) (okc (acv _ _ h1) (okc (rf_ ⟨[(2,.ptr 0 0),(4,.ptr 1 0),(5,.ptr 2 0),(6,.i_ (if(p_m.bn.length:Int)<(if 0 > (if p_m.aJ > p_at then p_m.aJ else p_at) then 0 else(if p_m.aJ > p_at then p_m.aJ else p_at)) then(p_m.bn.length:Int) else(if 0 > (if p_m.aJ > p_at then p_m.aJ else p_at) then 0 else(if p_m.aJ > p_at then p_m.aJ else p_at)))),(7,.ptr 3 0)],[eG p_m,.box 25 (Z25),.box 68 (.agg [.i_ 0,.i_ 0,.i_ 0,.dw 82]),.box 68 (.agg [.i_ p_m.fID,.i_ p_m.bW,.i_ (if(p_m.bn.length:Int)<(if 0 > (if p_m.aJ > p_at then p_m.aJ else p_at) then 0 else(if p_m.aJ > p_at then p_m.aJ else p_at)) then(p_m.bn.length:Int) else(if 0 > (if p_m.aJ > p_at then p_m.aJ else p_at) then 0 else(if p_m.aJ > p_at then p_m.aJ else p_at))),.own 4]),.row 54 82 (r0.map aF.lf)]⟩) (ok1 (by first|(simp[aF.aX];done)|exact qQ _ _ _:(p_m.bn.take (if(p_m.bn.length:Int)<(if 0 > (if p_m.aJ > p_at then p_m.aJ else p_at) then 0 else(if p_m.aJ > p_at then p_m.aJ else p_at)) then(p_m.bn.length:Int) else(if 0 > (if p_m.aJ > p_at then p_m.aJ else p_at) then 0 else(if p_m.aJ > p_at then p_m.aJ else p_at))).toNat).map aF.lf=((p_m.bn.map aF.lf).take (if(p_m.bn.length:Int)<(if 0 > (if p_m.aJ > p_at then p_m.aJ else p_at) then 0 else(if p_m.aJ > p_at then p_m.aJ else p_at)) then(p_m.bn.length:Int) else(if 0 > (if p_m.aJ > p_at then p_m.aJ else p_at) then 0 else(if p_m.aJ > p_at then p_m.aJ else p_at))).toNat).drop (0:Int).toNat))))))<|
 .grd ((0:Int)≤0∧0≤(if(p_m.bn.length:Int)<(if 0 > (if p_m.aJ > p_at then p_m.aJ else p_at) then 0 else(if p_m.aJ > p_at then p_m.aJ else p_at)) then(p_m.bn.length:Int) else(if 0 > (if p_m.aJ > p_at then p_m.aJ else p_at) then 0 else(if p_m.aJ > p_at then p_m.aJ else p_at)))∧(if(p_m.bn.length:Int)<(if 0 > (if p_m.aJ > p_at then p_m.aJ else p_at) then 0 else(if p_m.aJ > p_at then p_m.aJ else p_at)) then(p_m.bn.length:Int) else(if 0 > (if p_m.aJ > p_at then p_m.aJ else p_at) then 0 else(if p_m.aJ > p_at then p_m.aJ else p_at)))≤(p_m.bn.length:Int)) fun h2=>
 .say [] (ok1 (by simpa using h2:(0:Int)≤0∧0≤(if(p_m.bn.length:Int)<(if 0 > (if p_m.aJ > p_at then p_m.aJ else p_at) then 0 else(if p_m.aJ > p_at then p_m.aJ else p_at)) then(p_m.bn.length:Int) else(if 0 > (if p_m.aJ > p_at then p_m.aJ else p_at) then 0 else(if p_m.aJ > p_at then p_m.aJ else p_at)))∧(if(p_m.bn.length:Int)<(if 0 > (if p_m.aJ > p_at then p_m.aJ else p_at) then 0 else(if p_m.aJ > p_at then p_m.aJ else p_at)) then(p_m.bn.length:Int) else(if 0 > (if p_m.aJ > p_at then p_m.aJ else p_at) then 0 else(if p_m.aJ > p_at then p_m.aJ else p_at)))≤((p_m.bn.map aF.lf).length:Int)))<|
 .ask (aoc (aB.xY p_m (p_m.bn.take (if(p_m.bn.length:Int)<(if 0 > (if p_m.aJ > p_at then p_m.aJ else p_at) then 0 else(if p_m.aJ > p_at then p_m.aJ else p_at)) then(p_m.bn.length:Int) else(if 0 > (if p_m.aJ > p_at then p_m.aJ else p_at) then 0 else(if p_m.aJ > p_at then p_m.aJ else p_at))).toNat))) fun r1 h3=>
 .say [.gY (.q 0 (.alt 1 (.alt 2 (.l 3 (.l 4 .fin)) (.l 3 (.l 2 (.l 4 .fin)))) (.l 2 (.l 1 (.l 3 (.l 4 .fin)))))) (some 4) [1] [.both [.jA [] (ag_ (aB.lf1 r1) [(8,.own 0),(10,.own 1),(11,.own 2)]) [.row 54 82 (r1.bn.map aF.lf),.row 3 1 (r1.fNext.map lfI),.row 3 1 (r1.bg.map lfI)],.both [] []] [.jA [] (ag_ (aB.lf1 r1) [(8,.own 0),(10,.own 1),(11,.own 2)]) [.row 54 82 (r1.bn.map aF.lf),.row 3 1 (r1.fNext.map lfI),.row 3 1 (r1.bg.map lfI)]]] [4,5] 8 [(4,.ptr 1 0),(5,.ptr 2 0)] [.box 25 (.dat (aB.lf1 (aB.xY p_m (p_m.bn.take (if(p_m.bn.length:Int)<(if 0 > (if p_m.aJ > p_at then p_m.aJ else p_at) then 0 else(if p_m.aJ > p_at then p_m.aJ else p_at)) then(p_m.bn.length:Int) else(if 0 > (if p_m.aJ > p_at then p_m.aJ else p_at) then 0 else(if p_m.aJ > p_at then p_m.aJ else p_at))).toNat)))),.box 25 (ag_ (aB.lf1 r1) [(8,.own 5),(10,.own 6),(11,.own 7)]),.box 68 (.agg [.i_ p_m.fID,.i_ p_m.bW,.i_ (if(p_m.bn.length:Int)<(if 0 > (if p_m.aJ > p_at then p_m.aJ else p_at) then 0 else(if p_m.aJ > p_at then p_m.aJ else p_at)) then(p_m.bn.length:Int) else(if 0 > (if p_m.aJ > p_at then p_m.aJ else p_at) then 0 else(if p_m.aJ > p_at then p_m.aJ else p_at))),.own 4]),.box 68 (.agg [.i_ p_m.fID,.i_ p_m.bW,.i_ (if(p_m.bn.length:Int)<(if 0 > (if p_m.aJ > p_at then p_m.aJ else p_at) then 0 else(if p_m.aJ > p_at then p_m.aJ else p_at)) then(p_m.bn.length:Int) else(if 0 > (if p_m.aJ > p_at then p_m.aJ else p_at) then 0 else(if p_m.aJ > p_at then p_m.aJ else p_at))),.own 4]),.row 54 82 (r0.map aF.lf),.row 54 82 (r1.bn.map aF.lf),.row 3 1 (r1.fNext.map lfI),.row 3 1 (r1.bg.map lfI)]] (okc (aff _ _ h3) (okc (rf_ ⟨[(4,.ptr 1 0),(5,.ptr 2 0)],[.box 25 (.dat (aB.lf1 (aB.xY p_m (p_m.bn.take (if(p_m.bn.length:Int)<(if 0 > (if p_m.aJ > p_at then p_m.aJ else p_at) then 0 else(if p_m.aJ > p_at then p_m.aJ else p_at)) then(p_m.bn.length:Int) else(if 0 > (if p_m.aJ > p_at then p_m.aJ else p_at) then 0 else(if p_m.aJ > p_at then p_m.aJ else p_at))).toNat)))),.box 25 (ag_ (aB.lf1 r1) [(8,.own 5),(10,.own 6),(11,.own 7)]),.box 68 (.agg [.i_ p_m.fID,.i_ p_m.bW,.i_ (if(p_m.bn.length:Int)<(if 0 > (if p_m.aJ > p_at then p_m.aJ else p_at) then 0 else(if p_m.aJ > p_at then p_m.aJ else p_at)) then(p_m.bn.length:Int) else(if 0 > (if p_m.aJ > p_at then p_m.aJ else p_at) then 0 else(if p_m.aJ > p_at then p_m.aJ else p_at))),.own 4]),.box 68 (.agg [.i_ p_m.fID,.i_ p_m.bW,.i_ (if(p_m.bn.length:Int)<(if 0 > (if p_m.aJ > p_at then p_m.aJ else p_at) then 0 else(if p_m.aJ > p_at then p_m.aJ else p_at)) then(p_m.bn.length:Int) else(if 0 > (if p_m.aJ > p_at then p_m.aJ else p_at) then 0 else(if p_m.aJ > p_at then p_m.aJ else p_at))),.own 4]),.row 54 82 (r0.map aF.lf),.row 54 82 (r1.bn.map aF.lf),.row 3 1 (r1.fNext.map lfI),.row 3 1 (r1.bg.map lfI)]⟩) (okc (rf_ ⟨[(4,.ptr 1 0),(5,.ptr 2 0)],[.box 25 (.dat (aB.lf1 (aB.xY p_m (p_m.bn.take (if(p_m.bn.length:Int)<(if 0 > (if p_m.aJ > p_at then p_m.aJ else p_at) then 0 else(if p_m.aJ > p_at then p_m.aJ else p_at)) then(p_m.bn.length:Int) else(if 0 > (if p_m.aJ > p_at then p_m.aJ else p_at) then 0 else(if p_m.aJ > p_at then p_m.aJ else p_at))).toNat)))),.box 25 (ag_ (aB.lf1 r1) [(8,.own 5),(10,.own 6),(11,.own 7)]),.box 68 (.agg [.i_ p_m.fID,.i_ p_m.bW,.i_ (if(p_m.bn.length:Int)<(if 0 > (if p_m.aJ > p_at then p_m.aJ else p_at) then 0 else(if p_m.aJ > p_at then p_m.aJ else p_at)) then(p_m.bn.length:Int) else(if 0 > (if p_m.aJ > p_at then p_m.aJ else p_at) then 0 else(if p_m.aJ > p_at then p_m.aJ else p_at))),.own 4]),.box 68 (.agg [.i_ p_m.fID,.i_ p_m.bW,.i_ (if(p_m.bn.length:Int)<(if 0 > (if p_m.aJ > p_at then p_m.aJ else p_at) then 0 else(if p_m.aJ > p_at then p_m.aJ else p_at)) then(p_m.bn.length:Int) else(if 0 > (if p_m.aJ > p_at then p_m.aJ else p_at) then 0 else(if p_m.aJ > p_at then p_m.aJ else p_at))),.own 4]),.row 54 82 (r0.map aF.lf),.row 54 82 (r1.bn.map aF.lf),.row 3 1 (r1.fNext.map lfI),.row 3 1 (r1.bg.map lfI)]⟩) (okc (aff _ _ h3) (ok1 (rf_ ⟨[(4,.ptr 1 0),(5,.ptr 2 0)],[.box 25 (.dat (aB.lf1 (aB.xY p_m (p_m.bn.take (if(p_m.bn.length:Int)<(if 0 > (if p_m.aJ > p_at then p_m.aJ else p_at) then 0 else(if p_m.aJ > p_at then p_m.aJ else p_at)) then(p_m.bn.length:Int) else(if 0 > (if p_m.aJ > p_at then p_m.aJ else p_at) then 0 else(if p_m.aJ > p_at then p_m.aJ else p_at))).toNat)))),.box 25 (ag_ (aB.lf1 r1) [(8,.own 5),(10,.own 6),(11,.own 7)]),.box 68 (.agg [.i_ p_m.fID,.i_ p_m.bW,.i_ (if(p_m.bn.length:Int)<(if 0 > (if p_m.aJ > p_at then p_m.aJ else p_at) then 0 else(if p_m.aJ > p_at then p_m.aJ else p_at)) then(p_m.bn.length:Int) else(if 0 > (if p_m.aJ > p_at then p_m.aJ else p_at) then 0 else(if p_m.aJ > p_at then p_m.aJ else p_at))),.own 4]),.box 68 (.agg [.i_ p_m.fID,.i_ p_m.bW,.i_ (if(p_m.bn.length:Int)<(if 0 > (if p_m.aJ > p_at then p_m.aJ else p_at) then 0 else(if p_m.aJ > p_at then p_m.aJ else p_at)) then(p_m.bn.length:Int) else(if 0 > (if p_m.aJ > p_at then p_m.aJ else p_at) then 0 else(if p_m.aJ > p_at then p_m.aJ else p_at))),.own 4]),.row 54 82 (r0.map aF.lf),.row 54 82 (r1.bn.map aF.lf),.row 3 1 (r1.fNext.map lfI),.row 3 1 (r1.bg.map lfI)]⟩))))))<|
 .ret ⟨[.kill 0,.kill 1,.kill 2,.kill 3,.mvn 5,.mvn 6,.mvn 7,.mvn 4],[0,1],[(8,0),(9,1),(10,2),(11,3)],4⟩ (r1,fK.mk p_m.fID p_m.bW (if(p_m.bn.length:Int)<(if 0 > (if p_m.aJ > p_at then p_m.aJ else p_at) then 0 else(if p_m.aJ > p_at then p_m.aJ else p_at)) then(p_m.bn.length:Int) else(if 0 > (if p_m.aJ > p_at then p_m.aJ else p_at) then 0 else(if p_m.aJ > p_at then p_m.aJ else p_at))) r0)
def avn(p_m:aB)(p_at:Int):Option (aB×fK):=Mo.den (akd p_m p_at)
theorem afg(p_m:aB)(p_at:Int):FH (avn p_m p_at) 38 [.dat (aB.lf1 p_m),.i_ p_at] [] (fun r=>.tup [FP (.agg ((aB.lf1 r.1).map AV.lf)) [(8,.own 0),(10,.own 1),(11,.own 2)],.agg [.i_ r.2.jY,.i_ r.2.bW,.i_ r.2.fAt,.own 3]]) (fun r=>[.row 54 82 (r.1.bn.map aF.lf),.row 3 1 (r.1.fNext.map lfI),.row 3 1 (r.1.bg.map lfI),.row 54 82 (r.2.bY.map aF.lf)]):=ig Tryz.func38
def ake(p_l:List aF):Mo (List aF):=
 .say [.at_ 4 2,.tod 7] ok0<|
 .cH [] (afg (aB.xY aB.z p_l) 0) fun r0 _=>
 .ret ⟨[.kill 0,.kill 1,.kill 2,.kill 4,.kill 5,.mvn 3],[0],[(6,0)],1⟩ (r0.2.bY)
def akf(p_l:List aF):Option (List aF):=Mo.den (ake p_l)
theorem DJ(p_l:List aF):FH (akf p_l) 16 [.lf (.rows 82 (p_l.map aF.lf))] [] (fun _=>.own 0) (fun r=>[.row 54 82 (r.map aF.lf)]):=ig Tryz.func16
def ag9(p_b0:aS)(p_x:aG)(r0:Int):Mo ((Int×Int×Int×Int×Int×Int×Int×Int×Int×Int×Int×Int×(List aF)×(List aF)×(List Int)×(List Int))):=
 .iB (decide ((r0:Int)<(p_b0.aZ.bn.length:Int))) (.say [.at_ 8 7,.frz 6,.frz 7,.frz 8,.tod 25] ok0<|
 .cH [] (afg p_b0.aZ r0) fun r1 _=>
 .ret ⟨[.frz 13],[0,3],[(10,6),(11,7),(12,8)],10⟩ (r1.1.fID,r1.1.dX,r1.1.bW,r1.1.lI,r1.1.gX,r1.1.jf,r1.1.jq,r1.1.iE,r1.1.aJ,r1.2.jY,r1.2.bW,r1.2.fAt,r1.2.bY,r1.1.bn,r1.1.fNext,r1.1.bg))<|
 .rt [0,3] 10 (p_b0.aZ.fID,p_b0.aZ.dX,p_b0.aZ.bW,p_b0.aZ.lI,p_b0.aZ.gX,p_b0.aZ.jf,p_b0.aZ.jq,p_b0.aZ.iE,p_b0.aZ.aJ,p_b0.gW.jY,p_b0.gW.bW,p_b0.gW.fAt,p_b0.gW.bY,p_b0.aZ.bn,p_b0.aZ.fNext,p_b0.aZ.bg)
def aha(p_b0:aS)(p_x:aG)(r0:(Int×Int×Int×Int×Int×Int×Int×Int×Int×Int×Int×Int×(List aF)×(List aF)×(List Int)×(List Int))):Mo (((List aF))):=
 .iB (decide ((IntKind.wrap .i64 ((r0.2.2.2.2.2.2.2.2.2.2.2.2.2.1.length:Int)-p_x.bP):Int)<(p_x.bY.length:Int))) (.say [] (ok1 (qQ _ _ _:(p_x.bY.drop (if(IntKind.wrap .i64 ((r0.2.2.2.2.2.2.2.2.2.2.2.2.2.1.length:Int)-p_x.bP)) > 0 then(IntKind.wrap .i64 ((r0.2.2.2.2.2.2.2.2.2.2.2.2.2.1.length:Int)-p_x.bP)) else 0).toNat).map aF.lf=((p_x.bY.map aF.lf).take ((p_x.bY.map aF.lf).length:Int).toNat).drop (if(IntKind.wrap .i64 ((r0.2.2.2.2.2.2.2.2.2.2.2.2.2.1.length:Int)-p_x.bP)) > 0 then(IntKind.wrap .i64 ((r0.2.2.2.2.2.2.2.2.2.2.2.2.2.1.length:Int)-p_x.bP)) else 0).toNat))<|
 .grd ((0:Int)≤(if(IntKind.wrap .i64 ((r0.2.2.2.2.2.2.2.2.2.2.2.2.2.1.length:Int)-p_x.bP)) > 0 then(IntKind.wrap .i64 ((r0.2.2.2.2.2.2.2.2.2.2.2.2.2.1.length:Int)-p_x.bP)) else 0)∧(if(IntKind.wrap .i64 ((r0.2.2.2.2.2.2.2.2.2.2.2.2.2.1.length:Int)-p_x.bP)) > 0 then(IntKind.wrap .i64 ((r0.2.2.2.2.2.2.2.2.2.2.2.2.2.1.length:Int)-p_x.bP)) else 0)≤(p_x.bY.length:Int)∧(p_x.bY.length:Int)≤(p_x.bY.length:Int)) fun h0=>
 .say [] (ok1 (aeM _ _ h0:(0:Int)≤(if(IntKind.wrap .i64 ((r0.2.2.2.2.2.2.2.2.2.2.2.2.2.1.length:Int)-p_x.bP)) > 0 then(IntKind.wrap .i64 ((r0.2.2.2.2.2.2.2.2.2.2.2.2.2.1.length:Int)-p_x.bP)) else 0)∧(if(IntKind.wrap .i64 ((r0.2.2.2.2.2.2.2.2.2.2.2.2.2.1.length:Int)-p_x.bP)) > 0 then(IntKind.wrap .i64 ((r0.2.2.2.2.2.2.2.2.2.2.2.2.2.1.length:Int)-p_x.bP)) else 0)≤((p_x.bY.map aF.lf).length:Int)∧((p_x.bY.map aF.lf).length:Int)≤((p_x.bY.map aF.lf).length:Int)))<|
 .ask (akf (p_x.bY.drop (if(IntKind.wrap .i64 ((r0.2.2.2.2.2.2.2.2.2.2.2.2.2.1.length:Int)-p_x.bP)) > 0 then(IntKind.wrap .i64 ((r0.2.2.2.2.2.2.2.2.2.2.2.2.2.1.length:Int)-p_x.bP)) else 0).toNat)) fun r1 h1=>
 .say [.gY (.q 0 (.q 1 (.q 2 (.q 3 (.q 5 (.q 6 (.q 7 (.q 8 (.q 9 (.alt 4 (.l 10 (.l 11 (.q 12 (.q 13 (.l 14 .fin))))) (.l 10 (.l 4 (.l 11 (.q 12 (.q 13 (.l 14 .fin)))))))))))))))) (some 14) [6,10] [.rows ((p_x.bY.drop (if(IntKind.wrap .i64 ((r0.2.2.2.2.2.2.2.2.2.2.2.2.2.1.length:Int)-p_x.bP)) > 0 then(IntKind.wrap .i64 ((r0.2.2.2.2.2.2.2.2.2.2.2.2.2.1.length:Int)-p_x.bP)) else 0).toNat).map aF.lf),.both [.at_ 16 4,.resv 1,.jA [] (.own 0) [.row 54 82 (r1.map aF.lf)],.rows ((r0.2.2.2.2.2.2.2.2.2.2.2.2.2.1++r1).map aF.lf),.slot 10] [.at_ 16 10,.resv 1,.jA [] (.own 0) [.row 54 82 (r1.map aF.lf)],.rows ((r0.2.2.2.2.2.2.2.2.2.2.2.2.2.1++r1).map aF.lf),.slot 10]] [0,3,5] 12 [(0,.ptr 0 0),(3,.ptr 5 0),(5,.ptr 0 0)] [.box 87 (.agg [.i_ r0.1,.i_ r0.2.1,.i_ r0.2.2.1,.i_ r0.2.2.2.1,.i_ r0.2.2.2.2.1,.i_ r0.2.2.2.2.2.1,.i_ r0.2.2.2.2.2.2.1,.i_ r0.2.2.2.2.2.2.2.1,.own 10,.i_ r0.2.2.2.2.2.2.2.2.1,.own 7,.own 8,.own 9,.i_ r0.2.2.2.2.2.2.2.2.2.1,.i_ r0.2.2.2.2.2.2.2.2.2.2.1,.i_ r0.2.2.2.2.2.2.2.2.2.2.2.1,.lf (.rows 82 (r0.2.2.2.2.2.2.2.2.2.2.2.2.1.map aF.lf))]),.dead,.dead,.dead,.dead,fG p_x,.dead,.row 3 1 (r0.2.2.2.2.2.2.2.2.2.2.2.2.2.2.1.map lfI),.row 3 1 (r0.2.2.2.2.2.2.2.2.2.2.2.2.2.2.2.map lfI),.row 65 9 (p_b0.dY.map aG.lf),.row 54 82 ((r0.2.2.2.2.2.2.2.2.2.2.2.2.2.1++r1).map aF.lf),.row 54 82 (r1.map aF.lf)]] (okc (DJ _ _ h1) (ok1 (by simp[aF.aX]:(r0.2.2.2.2.2.2.2.2.2.2.2.2.2.1++r1).map aF.lf=(r0.2.2.2.2.2.2.2.2.2.2.2.2.2.1.map aF.lf)++(r1.map aF.lf))))<|
 .grd ((r0.2.2.2.2.2.2.2.2.2.2.2.2.2.1.length+r1.length)*1208≤140737488355328) fun h2=>
 .say [] (okc (by simpa using h2:((r0.2.2.2.2.2.2.2.2.2.2.2.2.2.1.map aF.lf).length+(r1.map aF.lf).length)*1208≤140737488355328) (okc (rf_ ⟨[(0,.ptr 0 0),(3,.ptr 5 0),(5,.ptr 0 0)],[.box 87 (.agg [.i_ r0.1,.i_ r0.2.1,.i_ r0.2.2.1,.i_ r0.2.2.2.1,.i_ r0.2.2.2.2.1,.i_ r0.2.2.2.2.2.1,.i_ r0.2.2.2.2.2.2.1,.i_ r0.2.2.2.2.2.2.2.1,.own 10,.i_ r0.2.2.2.2.2.2.2.2.1,.own 7,.own 8,.own 9,.i_ r0.2.2.2.2.2.2.2.2.2.1,.i_ r0.2.2.2.2.2.2.2.2.2.2.1,.i_ r0.2.2.2.2.2.2.2.2.2.2.2.1,.lf (.rows 82 (r0.2.2.2.2.2.2.2.2.2.2.2.2.1.map aF.lf))]),.dead,.dead,.dead,.dead,fG p_x,.dead,.row 3 1 (r0.2.2.2.2.2.2.2.2.2.2.2.2.2.2.1.map lfI),.row 3 1 (r0.2.2.2.2.2.2.2.2.2.2.2.2.2.2.2.map lfI),.row 65 9 (p_b0.dY.map aG.lf),.row 54 82 ((r0.2.2.2.2.2.2.2.2.2.2.2.2.2.1++r1).map aF.lf),.row 54 82 (r1.map aF.lf)]⟩) (okc (DJ _ _ h1) (okc (by simp[aF.aX]:(r0.2.2.2.2.2.2.2.2.2.2.2.2.2.1++r1).map aF.lf=(r0.2.2.2.2.2.2.2.2.2.2.2.2.2.1.map aF.lf)++(r1.map aF.lf)) (okc (by simpa using h2:((r0.2.2.2.2.2.2.2.2.2.2.2.2.2.1.map aF.lf).length+(r1.map aF.lf).length)*1208≤140737488355328) (ok1 (rf_ ⟨[(0,.ptr 0 0),(3,.ptr 5 0),(5,.ptr 0 0)],[.box 87 (.agg [.i_ r0.1,.i_ r0.2.1,.i_ r0.2.2.1,.i_ r0.2.2.2.1,.i_ r0.2.2.2.2.1,.i_ r0.2.2.2.2.2.1,.i_ r0.2.2.2.2.2.2.1,.i_ r0.2.2.2.2.2.2.2.1,.own 10,.i_ r0.2.2.2.2.2.2.2.2.1,.own 7,.own 8,.own 9,.i_ r0.2.2.2.2.2.2.2.2.2.1,.i_ r0.2.2.2.2.2.2.2.2.2.2.1,.i_ r0.2.2.2.2.2.2.2.2.2.2.2.1,.lf (.rows 82 (r0.2.2.2.2.2.2.2.2.2.2.2.2.1.map aF.lf))]),.dead,.dead,.dead,.dead,fG p_x,.dead,.row 3 1 (r0.2.2.2.2.2.2.2.2.2.2.2.2.2.2.1.map lfI),.row 3 1 (r0.2.2.2.2.2.2.2.2.2.2.2.2.2.2.2.map lfI),.row 65 9 (p_b0.dY.map aG.lf),.row 54 82 ((r0.2.2.2.2.2.2.2.2.2.2.2.2.2.1++r1).map aF.lf),.row 54 82 (r1.map aF.lf)]⟩)))))))<|
 .ret ⟨[],[0,3,5],[(10,6)],10⟩ (r0.2.2.2.2.2.2.2.2.2.2.2.2.2.1++r1))<|
 .rt [0,3,5] 10 (r0.2.2.2.2.2.2.2.2.2.2.2.2.2.1)
def asJ(p_x:aG)(p_b0:aS):Mo (aS):=
 .ask (asB p_x p_b0) fun r0 h0=>
 .say [.jA [0,1,2,3,4] (.i_ r0) [.box 87 (ag_ (aS.lf1 p_b0) [(8,.own 5),(10,.own 6),(11,.own 7),(12,.own 8)]),.dead,.dead,.dead,.dead,.row 54 82 (p_b0.aZ.bn.map aF.lf),.row 3 1 (p_b0.aZ.fNext.map lfI),.row 3 1 (p_b0.aZ.bg.map lfI),.row 65 9 (p_b0.dY.map aG.lf)],.num p_b0.aZ.bn.length] (okc (Jh _ _ _ h0) (ok1 (ln_ p_b0.aZ.bn aF.lf)))<|
 .jk Tryz.f49 5 [1,0,1,1] 1 (fun r_=>⟨[(0,.ptr 0 0),(3,.ptr 5 0)],[.box 87 (.agg [.i_ r_.1,.i_ r_.2.1,.i_ r_.2.2.1,.i_ r_.2.2.2.1,.i_ r_.2.2.2.2.1,.i_ r_.2.2.2.2.2.1,.i_ r_.2.2.2.2.2.2.1,.i_ r_.2.2.2.2.2.2.2.1,.own 6,.i_ r_.2.2.2.2.2.2.2.2.1,.own 7,.own 8,.own 9,.i_ r_.2.2.2.2.2.2.2.2.2.1,.i_ r_.2.2.2.2.2.2.2.2.2.2.1,.i_ r_.2.2.2.2.2.2.2.2.2.2.2.1,.lf (.rows 82 (r_.2.2.2.2.2.2.2.2.2.2.2.2.1.map aF.lf))]),.dead,.dead,.dead,.dead,fG p_x,.row 54 82 (r_.2.2.2.2.2.2.2.2.2.2.2.2.2.1.map aF.lf),.row 3 1 (r_.2.2.2.2.2.2.2.2.2.2.2.2.2.2.1.map lfI),.row 3 1 (r_.2.2.2.2.2.2.2.2.2.2.2.2.2.2.2.map lfI),.row 65 9 (p_b0.dY.map aG.lf)]⟩) ⟨[(0,.ptr 0 0),(3,.ptr 5 0),(4,.i_ r0),(18,.lf (.bool (decide ((r0:Int)<(p_b0.aZ.bn.length:Int)))))],[.box 87 (ag_ (aS.lf1 p_b0) [(8,.own 6),(10,.own 7),(11,.own 8),(12,.own 9)]),.dead,.dead,.dead,.dead,fG p_x,.row 54 82 (p_b0.aZ.bn.map aF.lf),.row 3 1 (p_b0.aZ.fNext.map lfI),.row 3 1 (p_b0.aZ.bg.map lfI),.row 65 9 (p_b0.dY.map aG.lf)]⟩ (ag9 p_b0 p_x r0) fun r1=>
 .say [.order [(true,0),(true,1),(true,2),(true,3),(true,4),(true,5),(true,6),(true,7),(true,8)] none [],.num r1.2.2.2.2.2.2.2.2.2.2.2.2.2.1.length,.num p_x.bY.length] (okc (ln_ r1.2.2.2.2.2.2.2.2.2.2.2.2.2.1 aF.lf) (ok1 (ln_ p_x.bY aF.lf)))<|
 .jk Tryz.f49 5 [1,1,1,0,1,1] 1 (fun r_=>⟨[(0,.ptr 0 0),(3,.ptr 5 0),(5,.ptr 0 0)],[.box 87 (.agg [.i_ r1.1,.i_ r1.2.1,.i_ r1.2.2.1,.i_ r1.2.2.2.1,.i_ r1.2.2.2.2.1,.i_ r1.2.2.2.2.2.1,.i_ r1.2.2.2.2.2.2.1,.i_ r1.2.2.2.2.2.2.2.1,.own 6,.i_ r1.2.2.2.2.2.2.2.2.1,.own 7,.own 8,.own 9,.i_ r1.2.2.2.2.2.2.2.2.2.1,.i_ r1.2.2.2.2.2.2.2.2.2.2.1,.i_ r1.2.2.2.2.2.2.2.2.2.2.2.1,.lf (.rows 82 (r1.2.2.2.2.2.2.2.2.2.2.2.2.1.map aF.lf))]),.dead,.dead,.dead,.dead,fG p_x,.row 54 82 (r_.map aF.lf),.row 3 1 (r1.2.2.2.2.2.2.2.2.2.2.2.2.2.2.1.map lfI),.row 3 1 (r1.2.2.2.2.2.2.2.2.2.2.2.2.2.2.2.map lfI),.row 65 9 (p_b0.dY.map aG.lf)]⟩) ⟨[(0,.ptr 0 0),(3,.ptr 5 0),(5,.ptr 0 0),(6,.i_ (IntKind.wrap .i64 ((r1.2.2.2.2.2.2.2.2.2.2.2.2.2.1.length:Int)-p_x.bP))),(49,.lf (.bool (decide ((IntKind.wrap .i64 ((r1.2.2.2.2.2.2.2.2.2.2.2.2.2.1.length:Int)-p_x.bP):Int)<(p_x.bY.length:Int)))))],[.box 87 (.agg [.i_ r1.1,.i_ r1.2.1,.i_ r1.2.2.1,.i_ r1.2.2.2.1,.i_ r1.2.2.2.2.1,.i_ r1.2.2.2.2.2.1,.i_ r1.2.2.2.2.2.2.1,.i_ r1.2.2.2.2.2.2.2.1,.own 6,.i_ r1.2.2.2.2.2.2.2.2.1,.own 7,.own 8,.own 9,.i_ r1.2.2.2.2.2.2.2.2.2.1,.i_ r1.2.2.2.2.2.2.2.2.2.2.1,.i_ r1.2.2.2.2.2.2.2.2.2.2.2.1,.lf (.rows 82 (r1.2.2.2.2.2.2.2.2.2.2.2.2.1.map aF.lf))]),.dead,.dead,.dead,.dead,fG p_x,.row 54 82 (r1.2.2.2.2.2.2.2.2.2.2.2.2.2.1.map aF.lf),.row 3 1 (r1.2.2.2.2.2.2.2.2.2.2.2.2.2.2.1.map lfI),.row 3 1 (r1.2.2.2.2.2.2.2.2.2.2.2.2.2.2.2.map lfI),.row 65 9 (p_b0.dY.map aG.lf)]⟩ (aha p_b0 p_x r1) fun r2=>
 .say [.num p_x.bY.length,.order [(true,0),(true,1),(true,2),(true,3),(true,4),(true,5),(true,6),(true,7),(true,8),(true,9),(true,10),(true,11),(false,12)] (some 12) []] (ok1 (ln_ p_x.bY aF.lf))<|
 .cH [0,6,7,8,9] (U2 p_x true (IntKind.wrap .i64 (p_x.bP+(p_x.bY.length:Int))) (aS.mk (aB.mk r1.1 r1.2.1 r1.2.2.1 r1.2.2.2.1 r1.2.2.2.2.1 r1.2.2.2.2.2.1 r1.2.2.2.2.2.2.1 r1.2.2.2.2.2.2.2.1 r2 (if(if(IntKind.wrap .i64 (p_x.bP+(p_x.bY.length:Int)))<p_x.aJ then(IntKind.wrap .i64 (p_x.bP+(p_x.bY.length:Int))) else p_x.aJ) > r1.2.2.2.2.2.2.2.2.1 then(if(IntKind.wrap .i64 (p_x.bP+(p_x.bY.length:Int)))<p_x.aJ then(IntKind.wrap .i64 (p_x.bP+(p_x.bY.length:Int))) else p_x.aJ) else r1.2.2.2.2.2.2.2.2.1) r1.2.2.2.2.2.2.2.2.2.2.2.2.2.2.1 r1.2.2.2.2.2.2.2.2.2.2.2.2.2.2.2) p_b0.dY (fK.mk r1.2.2.2.2.2.2.2.2.2.1 r1.2.2.2.2.2.2.2.2.2.2.1 r1.2.2.2.2.2.2.2.2.2.2.2.1 r1.2.2.2.2.2.2.2.2.2.2.2.2.1))) fun r3 _=>
 .ret ⟨[.kill 5,.mvn 10,.mvn 11,.mvn 12,.mvn 13],[],[(14,5),(15,6),(16,7),(17,8)],9⟩ (r3)
def awm(p_x:aG)(p_b0:aS):Option (aS):=Mo.den (asJ p_x p_b0)
theorem aod(p_x:aG)(p_b0:aS):FH (awm p_x p_b0) 49 [.ptr 0 0,.dat (aG.lf1 p_x)] [.box 87 (ag_ (aS.lf1 p_b0) [(8,.own 1),(10,.own 2),(11,.own 3),(12,.own 4)]),.row 54 82 (p_b0.aZ.bn.map aF.lf),.row 3 1 (p_b0.aZ.fNext.map lfI),.row 3 1 (p_b0.aZ.bg.map lfI),.row 65 9 (p_b0.dY.map aG.lf)] (fun _=>.tup []) (fun r=>[.box 87 (ag_ (aS.lf1 r) [(8,.own 5),(10,.own 6),(11,.own 7),(12,.own 8)]),.dead,.dead,.dead,.dead,.row 54 82 (r.aZ.bn.map aF.lf),.row 3 1 (r.aZ.fNext.map lfI),.row 3 1 (r.aZ.bg.map lfI),.row 65 9 (r.dY.map aG.lf)]):=ig Tryz.func49
def ahb(p_b0:aS)(p_x:aG):Mo (Bool):=
 .say [.order [(true,0),(true,1),(true,2),(true,3),(true,4),(true,5),(true,6),(true,7),(true,8),(true,9),(true,10),(true,11),(true,12),(true,13)] none []] ok0<|
 .aV 10007 (p_x.bW==p_b0.aZ.bW) [0,3,4,31] 6 (p_b0.aZ.gX==2)
def ahc(p_b0:aS)(p_x:aG):Mo ((Int×Int×Int×Int×Int×Int×Int×Int×Int×(List aF)×(List Int)×(List Int))):=
 .iB (decide ((p_b0.aZ.bW:Int)<p_x.bW)) (.say [.order [(true,0),(true,1),(true,2),(true,4),(true,5),(false,3),(false,6),(true,7),(false,8)] (some 8) [0,6,7,8,9,10,11],.at_ 14 6,.frz 6,.frz 7,.frz 8,.tod 42] ok0<|
 .cH [] (U1 p_b0.aZ p_x.bW) fun r0 _=>
 .ret ⟨[],[0,3,4],[(9,6),(10,7),(11,8)],9⟩ (r0.fID,r0.dX,r0.bW,r0.lI,r0.gX,r0.jf,r0.jq,r0.iE,r0.aJ,r0.bn,r0.fNext,r0.bg))<|
 .rt [0,3,4] 9 (p_b0.aZ.fID,p_b0.aZ.dX,p_b0.aZ.bW,p_b0.aZ.lI,p_b0.aZ.gX,p_b0.aZ.jf,p_b0.aZ.jq,p_b0.aZ.iE,p_b0.aZ.aJ,p_b0.aZ.bn,p_b0.aZ.fNext,p_b0.aZ.bg)
def acw(p_b0:aS)(p_x:aG)(r0:(Int×Int×Int×Int×Int×Int×Int×Int×Int×(List aF)×(List Int)×(List Int))):Mo ((Int×Int)):=
 .iB (r0.2.2.2.2.1==1) (.rt [0,3,4] 9 (0,0))<|
 .rt [0,3,4] 9 (r0.2.2.2.2.1,r0.2.2.2.2.2.2.2.1)
def asK(p_x:aG)(p_b0:aS):Mo (aS):=
 .say [.order [(true,0),(true,1),(true,2),(true,3),(true,4),(true,5),(true,6)] none []] ok0<|
 .iB (decide ((p_x.bW:Int)<p_b0.aZ.bW)) (.cH [0,1,2,3,4] (U2 p_x false 0 p_b0) fun r0 _=>
 .ret ⟨[.kill 5,.mvn 6,.mvn 7,.mvn 8,.mvn 9],[],[(10,5),(11,6),(12,7),(13,8)],9⟩ (r0))<|
 .jk Tryz.f31 5 [1,1,1,0,0] 15 (fun r_=>⟨[(0,.ptr 0 0),(3,.ptr 5 0),(4,.ptr 0 0),(31,.b_ r_)],[.box 87 (ag_ (aS.lf1 p_b0) [(8,.own 1),(10,.own 2),(11,.own 3),(12,.own 4)]),.row 54 82 (p_b0.aZ.bn.map aF.lf),.row 3 1 (p_b0.aZ.fNext.map lfI),.row 3 1 (p_b0.aZ.bg.map lfI),.row 65 9 (p_b0.dY.map aG.lf),fG p_x]⟩) ⟨[(0,.ptr 0 0),(3,.ptr 5 0),(4,.ptr 0 0)],[.box 87 (ag_ (aS.lf1 p_b0) [(8,.own 1),(10,.own 2),(11,.own 3),(12,.own 4)]),.row 54 82 (p_b0.aZ.bn.map aF.lf),.row 3 1 (p_b0.aZ.fNext.map lfI),.row 3 1 (p_b0.aZ.bg.map lfI),.row 65 9 (p_b0.dY.map aG.lf),fG p_x]⟩ (ahb p_b0 p_x) fun r1=>
 .iB (r1) (.ret ⟨[.kill 5,.mvn 1,.mvn 2,.mvn 3,.mvn 4],[],[(6,5),(7,6),(8,7),(9,8)],9⟩ (p_b0))<|
 .say [.order [(true,0),(true,1),(true,2),(true,3),(true,4),(true,5),(true,6)] none []] ok0<|
 .jy [.mvn 1,.mvn 2,.mvn 3] Tryz.f31 5 [1,1,1,1,0,1] 1 (.normal) (fun r_=>⟨[(0,.ptr 0 0),(3,.ptr 5 0),(4,.ptr 0 0)],[.box 87 (ag_ (aS.lf1 p_b0) [(0,.i_ r_.1),(1,.i_ r_.2.1),(2,.i_ r_.2.2.1),(3,.i_ r_.2.2.2.1),(4,.i_ r_.2.2.2.2.1),(5,.i_ r_.2.2.2.2.2.1),(6,.i_ r_.2.2.2.2.2.2.1),(7,.i_ r_.2.2.2.2.2.2.2.1),(8,.own 6),(9,.i_ r_.2.2.2.2.2.2.2.2.1),(10,.own 7),(11,.own 8),(12,.own 4)]),.dead,.dead,.dead,.row 65 9 (p_b0.dY.map aG.lf),fG p_x,.row 54 82 (r_.2.2.2.2.2.2.2.2.2.1.map aF.lf),.row 3 1 (r_.2.2.2.2.2.2.2.2.2.2.1.map lfI),.row 3 1 (r_.2.2.2.2.2.2.2.2.2.2.2.map lfI)]⟩) ⟨[(0,.ptr 0 0),(3,.ptr 5 0),(4,.ptr 0 0),(38,.lf (.bool (decide ((p_b0.aZ.bW:Int)<p_x.bW))))],[.box 87 (ag_ (aS.lf1 p_b0) [(8,.own 6),(10,.own 7),(11,.own 8),(12,.own 4)]),.dead,.dead,.dead,.row 65 9 (p_b0.dY.map aG.lf),fG p_x,.row 54 82 (p_b0.aZ.bn.map aF.lf),.row 3 1 (p_b0.aZ.fNext.map lfI),.row 3 1 (p_b0.aZ.bg.map lfI)]⟩ (ahc p_b0 p_x) fun r2=>
 .jk Tryz.f31 5 [1,1,1,1,1,0,1] 1 (fun r_=>⟨[(0,.ptr 0 0),(3,.ptr 5 0),(4,.ptr 0 0)],[.box 87 (ag_ (aS.lf1 p_b0) [(0,.i_ r2.1),(1,.i_ r2.2.1),(2,.i_ r2.2.2.1),(3,.i_ r2.2.2.2.1),(4,.i_ r_.1),(5,.i_ r2.2.2.2.2.2.1),(6,.i_ r2.2.2.2.2.2.2.1),(7,.i_ r_.2),(8,.own 6),(9,.i_ r2.2.2.2.2.2.2.2.2.1),(10,.own 7),(11,.own 8),(12,.own 4)]),.dead,.dead,.dead,.row 65 9 (p_b0.dY.map aG.lf),fG p_x,.row 54 82 (r2.2.2.2.2.2.2.2.2.2.1.map aF.lf),.row 3 1 (r2.2.2.2.2.2.2.2.2.2.2.1.map lfI),.row 3 1 (r2.2.2.2.2.2.2.2.2.2.2.2.map lfI)]⟩) ⟨[(0,.ptr 0 0),(3,.ptr 5 0),(4,.ptr 0 0),(51,.lf (.bool (r2.2.2.2.2.1==1)))],[.box 87 (ag_ (aS.lf1 p_b0) [(0,.i_ r2.1),(1,.i_ r2.2.1),(2,.i_ r2.2.2.1),(3,.i_ r2.2.2.2.1),(4,.i_ r2.2.2.2.2.1),(5,.i_ r2.2.2.2.2.2.1),(6,.i_ r2.2.2.2.2.2.2.1),(7,.i_ r2.2.2.2.2.2.2.2.1),(8,.own 6),(9,.i_ r2.2.2.2.2.2.2.2.2.1),(10,.own 7),(11,.own 8),(12,.own 4)]),.dead,.dead,.dead,.row 65 9 (p_b0.dY.map aG.lf),fG p_x,.row 54 82 (r2.2.2.2.2.2.2.2.2.2.1.map aF.lf),.row 3 1 (r2.2.2.2.2.2.2.2.2.2.2.1.map lfI),.row 3 1 (r2.2.2.2.2.2.2.2.2.2.2.2.map lfI)]⟩ (acw p_b0 p_x r2) fun r3=>
 .cH [0,6,7,8,4] (an0 p_x (aS.mk (aB.mk r2.1 r2.2.1 r2.2.2.1 r2.2.2.2.1 r3.1 p_x.eU (IntKind.wrap .i64 (10+(IntKind.wrap .i64 (3*r2.1)))) r3.2 r2.2.2.2.2.2.2.2.2.2.1 r2.2.2.2.2.2.2.2.2.1 r2.2.2.2.2.2.2.2.2.2.2.1 r2.2.2.2.2.2.2.2.2.2.2.2) p_b0.dY p_b0.gW)) fun r4 _=>
 .iB (r4) (.say [.order [(true,0),(true,1),(true,2),(true,3),(true,4),(true,7),(true,8),(true,9),(false,5),(true,6),(true,10),(true,11),(false,12)] (some 12) [],.num (((aS.mk (aB.mk r2.1 r2.2.1 r2.2.2.1 r2.2.2.2.1 r3.1 p_x.eU (IntKind.wrap .i64 (10+(IntKind.wrap .i64 (3*r2.1)))) r3.2 r2.2.2.2.2.2.2.2.2.2.1 r2.2.2.2.2.2.2.2.2.1 r2.2.2.2.2.2.2.2.2.2.2.1 r2.2.2.2.2.2.2.2.2.2.2.2) p_b0.dY p_b0.gW).aZ).bn).length] (ok1 (ln_ (((aS.mk (aB.mk r2.1 r2.2.1 r2.2.2.1 r2.2.2.2.1 r3.1 p_x.eU (IntKind.wrap .i64 (10+(IntKind.wrap .i64 (3*r2.1)))) r3.2 r2.2.2.2.2.2.2.2.2.2.1 r2.2.2.2.2.2.2.2.2.1 r2.2.2.2.2.2.2.2.2.2.2.1 r2.2.2.2.2.2.2.2.2.2.2.2) p_b0.dY p_b0.gW).aZ).bn) aF.lf))<|
 .cH [0,9,10,11,12] (U2 p_x false (if(if(IntKind.wrap .i64 (p_x.bP-1))<((((aS.mk (aB.mk r2.1 r2.2.1 r2.2.2.1 r2.2.2.2.1 r3.1 p_x.eU (IntKind.wrap .i64 (10+(IntKind.wrap .i64 (3*r2.1)))) r3.2 r2.2.2.2.2.2.2.2.2.2.1 r2.2.2.2.2.2.2.2.2.1 r2.2.2.2.2.2.2.2.2.2.2.1 r2.2.2.2.2.2.2.2.2.2.2.2) p_b0.dY p_b0.gW).aZ).bn).length:Int) then(IntKind.wrap .i64 (p_x.bP-1)) else((((aS.mk (aB.mk r2.1 r2.2.1 r2.2.2.1 r2.2.2.2.1 r3.1 p_x.eU (IntKind.wrap .i64 (10+(IntKind.wrap .i64 (3*r2.1)))) r3.2 r2.2.2.2.2.2.2.2.2.2.1 r2.2.2.2.2.2.2.2.2.1 r2.2.2.2.2.2.2.2.2.2.2.1 r2.2.2.2.2.2.2.2.2.2.2.2) p_b0.dY p_b0.gW).aZ).bn).length:Int)) > 0 then(if(IntKind.wrap .i64 (p_x.bP-1))<((((aS.mk (aB.mk r2.1 r2.2.1 r2.2.2.1 r2.2.2.2.1 r3.1 p_x.eU (IntKind.wrap .i64 (10+(IntKind.wrap .i64 (3*r2.1)))) r3.2 r2.2.2.2.2.2.2.2.2.2.1 r2.2.2.2.2.2.2.2.2.1 r2.2.2.2.2.2.2.2.2.2.2.1 r2.2.2.2.2.2.2.2.2.2.2.2) p_b0.dY p_b0.gW).aZ).bn).length:Int) then(IntKind.wrap .i64 (p_x.bP-1)) else((((aS.mk (aB.mk r2.1 r2.2.1 r2.2.2.1 r2.2.2.2.1 r3.1 p_x.eU (IntKind.wrap .i64 (10+(IntKind.wrap .i64 (3*r2.1)))) r3.2 r2.2.2.2.2.2.2.2.2.2.1 r2.2.2.2.2.2.2.2.2.1 r2.2.2.2.2.2.2.2.2.2.2.1 r2.2.2.2.2.2.2.2.2.2.2.2) p_b0.dY p_b0.gW).aZ).bn).length:Int)) else 0) (aS.mk ((aS.mk (aB.mk r2.1 r2.2.1 r2.2.2.1 r2.2.2.2.1 r3.1 p_x.eU (IntKind.wrap .i64 (10+(IntKind.wrap .i64 (3*r2.1)))) r3.2 r2.2.2.2.2.2.2.2.2.2.1 r2.2.2.2.2.2.2.2.2.1 r2.2.2.2.2.2.2.2.2.2.2.1 r2.2.2.2.2.2.2.2.2.2.2.2) p_b0.dY p_b0.gW).aZ) ((aS.mk (aB.mk r2.1 r2.2.1 r2.2.2.1 r2.2.2.2.1 r3.1 p_x.eU (IntKind.wrap .i64 (10+(IntKind.wrap .i64 (3*r2.1)))) r3.2 r2.2.2.2.2.2.2.2.2.2.1 r2.2.2.2.2.2.2.2.2.1 r2.2.2.2.2.2.2.2.2.2.2.1 r2.2.2.2.2.2.2.2.2.2.2.2) p_b0.dY p_b0.gW).dY) ((aS.mk (aB.mk r2.1 r2.2.1 r2.2.2.1 r2.2.2.2.1 r3.1 p_x.eU (IntKind.wrap .i64 (10+(IntKind.wrap .i64 (3*r2.1)))) r3.2 r2.2.2.2.2.2.2.2.2.2.1 r2.2.2.2.2.2.2.2.2.1 r2.2.2.2.2.2.2.2.2.2.2.1 r2.2.2.2.2.2.2.2.2.2.2.2) p_b0.dY p_b0.gW).gW))) fun r5 _=>
 .ret ⟨[.kill 5,.mvn 13,.mvn 14,.mvn 15,.mvn 16],[],[(17,5),(18,6),(19,7),(20,8)],9⟩ (r5))<|
 .cH [0,9,10,11,12] (aod p_x (aS.mk ((aS.mk (aB.mk r2.1 r2.2.1 r2.2.2.1 r2.2.2.2.1 r3.1 p_x.eU (IntKind.wrap .i64 (10+(IntKind.wrap .i64 (3*r2.1)))) r3.2 r2.2.2.2.2.2.2.2.2.2.1 r2.2.2.2.2.2.2.2.2.1 r2.2.2.2.2.2.2.2.2.2.2.1 r2.2.2.2.2.2.2.2.2.2.2.2) p_b0.dY p_b0.gW).aZ) ((aS.mk (aB.mk r2.1 r2.2.1 r2.2.2.1 r2.2.2.2.1 r3.1 p_x.eU (IntKind.wrap .i64 (10+(IntKind.wrap .i64 (3*r2.1)))) r3.2 r2.2.2.2.2.2.2.2.2.2.1 r2.2.2.2.2.2.2.2.2.1 r2.2.2.2.2.2.2.2.2.2.2.1 r2.2.2.2.2.2.2.2.2.2.2.2) p_b0.dY p_b0.gW).dY) ((aS.mk (aB.mk r2.1 r2.2.1 r2.2.2.1 r2.2.2.2.1 r3.1 p_x.eU (IntKind.wrap .i64 (10+(IntKind.wrap .i64 (3*r2.1)))) r3.2 r2.2.2.2.2.2.2.2.2.2.1 r2.2.2.2.2.2.2.2.2.1 r2.2.2.2.2.2.2.2.2.2.2.1 r2.2.2.2.2.2.2.2.2.2.2.2) p_b0.dY p_b0.gW).gW))) fun r6 _=>
 .ret ⟨[.kill 5,.mvn 13,.mvn 14,.mvn 15,.mvn 16],[],[(17,5),(18,6),(19,7),(20,8)],9⟩ (r6)
def avo(p_x:aG)(p_b0:aS):Option (aS):=Mo.den (asK p_x p_b0)
theorem aoe(p_x:aG)(p_b0:aS):FH (avo p_x p_b0) 31 [.ptr 0 0,.dat (aG.lf1 p_x)] [.box 87 (ag_ (aS.lf1 p_b0) [(8,.own 1),(10,.own 2),(11,.own 3),(12,.own 4)]),.row 54 82 (p_b0.aZ.bn.map aF.lf),.row 3 1 (p_b0.aZ.fNext.map lfI),.row 3 1 (p_b0.aZ.bg.map lfI),.row 65 9 (p_b0.dY.map aG.lf)] (fun _=>.tup []) (fun r=>[.box 87 (ag_ (aS.lf1 r) [(8,.own 5),(10,.own 6),(11,.own 7),(12,.own 8)]),.dead,.dead,.dead,.dead,.row 54 82 (r.aZ.bn.map aF.lf),.row 3 1 (r.aZ.fNext.map lfI),.row 3 1 (r.aZ.bg.map lfI),.row 65 9 (r.dY.map aG.lf)]):=ig Tryz.func31
def ahd(p_m:aB)(p_x:aG):Mo (Bool):=
 .oV 8003 (p_m.gX != 2) [2,3,4,24] 6 (decide ((p_x.bW:Int)<p_m.bW))
def ahe(p_m:aB)(p_x:aG)(r0:Bool):Mo (Bool):=
 .iG 8010 (r0) (.rt [2,3,4,36] 6 (true))<|
 .iG 8013 (p_x.fOK) (.nu p_m.bn aF.lf<|
 .rt [2,3,4,36] 6 (decide (((p_m.bn.length:Int):Int)<p_x.bP)))<|
 .rt [2,3,4,36] 6 (false)
def acy(p_m:aB)(p_x:aG):Mo (Bool):=
 .iG 14002 (decide ((p_x.eU:Int)<0)) (.rt [2,3,4,5,48] 6 (true))<|
 .nu p_m.fNext lfI<|
 .rt [2,3,4,5,48] 6 (decide (((p_m.fNext.length:Int):Int)≤p_x.eU))
def acz(p_m:aB)(p_x:aG)(r0:Bool):Mo (Bool):=
 .iG 14009 (r0) (.rt [2,3,4,5,55] 6 (true))<|
 .nu p_m.bg lfI<|
 .rt [2,3,4,5,55] 6 (decide (((p_m.bg.length:Int):Int)≤p_x.eU))
def acA(p_m:aB)(p_x:aG):Mo (((List Int)×(List Int))):=
 .iB (p_x.fOK) (.say [.order [(true,0),(true,1),(true,2),(true,3),(true,4),(true,5),(true,6),(true,7),(true,8),(true,9),(true,10),(true,11),(false,12)] (some 12) []] ok0<|
 .ask (fQ p_m.bg p_x.eU) fun x0 h0=>
 .say [.row (lfI x0)] (okc (dI lI_ h0) (ok1 ((bU lI_ h0).2)))<|
 .ask (fQ p_m.bg p_x.eU) fun x1 h1=>
 .say [.row (lfI x1),.rows ((p_m.bg.set p_x.eU.toNat (if p_x.bP > x0 then p_x.bP else x0)).map lfI),.order [(true,0),(true,1),(true,2),(true,3),(true,4),(true,5),(true,6),(true,7),(true,8),(true,9),(true,10),(true,11),(true,12),(true,13),(true,14),(false,15)] (some 15) []] (okc (dI lI_ h1) (okc (st_ lI_ p_m.bg p_x.eU.toNat (if p_x.bP > x0 then p_x.bP else x0)) (ok1 ((bU lI_ h1).2))))<|
 .ask (fQ p_m.fNext p_x.eU) fun x2 h2=>
 .say [.row (lfI x2)] (okc (dI lI_ h2) (ok1 ((bU lI_ h2).2)))<|
 .ask (fQ (p_m.bg.set p_x.eU.toNat (if p_x.bP > x0 then p_x.bP else x0)) p_x.eU) fun x3 h3=>
 .say [.row (lfI x3)] (okc (dI lI_ h3) (ok1 ((bU lI_ h3).2)))<|
 .ask (fQ p_m.fNext p_x.eU) fun x4 h4=>
 .say [.row (lfI x4),.rows ((p_m.fNext.set p_x.eU.toNat (if x3 > x2 then x3 else x2)).map lfI)] (okc (dI lI_ h4) (okc (st_ lI_ p_m.fNext p_x.eU.toNat (if x3 > x2 then x3 else x2)) (ok1 ((bU lI_ h4).2))))<|
 .ret ⟨[.kill 4],[2,4],[],6⟩ (p_m.fNext.set p_x.eU.toNat (if x3 > x2 then x3 else x2),p_m.bg.set p_x.eU.toNat (if p_x.bP > x0 then p_x.bP else x0)))<|
 .say [.order [(true,0),(true,1),(true,2),(true,3),(true,4),(true,5),(true,6),(true,7),(true,8),(true,9),(true,10),(true,11),(true,12),(true,13),(true,14),(true,15),(true,16),(true,17),(false,18)] (some 18) []] ok0<|
 .ask (fQ p_m.fNext p_x.eU) fun x5 h5=>
 .say [.row (lfI x5)] (okc (dI lI_ h5) (ok1 ((bU lI_ h5).2)))<|
 .ask (fQ p_m.bg p_x.eU) fun x6 h6=>
 .say [.row (lfI x6)] (okc (dI lI_ h6) (ok1 ((bU lI_ h6).2)))<|
 .ask (fQ p_m.fNext p_x.eU) fun x7 h7=>
 .say [.row (lfI x7),.rows ((p_m.fNext.set p_x.eU.toNat (if x6 > (if p_x.bP<x5 then p_x.bP else x5) then x6 else(if p_x.bP<x5 then p_x.bP else x5))).map lfI)] (okc (dI lI_ h7) (okc (st_ lI_ p_m.fNext p_x.eU.toNat (if x6 > (if p_x.bP<x5 then p_x.bP else x5) then x6 else(if p_x.bP<x5 then p_x.bP else x5))) (ok1 ((bU lI_ h7).2))))<|
 .ret ⟨[.kill 4],[2,4],[],6⟩ (p_m.fNext.set p_x.eU.toNat (if x6 > (if p_x.bP<x5 then p_x.bP else x5) then x6 else(if p_x.bP<x5 then p_x.bP else x5)),p_m.bg)
def asL(p_m:aB)(p_x:aG):Mo (aB):=
 .iB (decide ((p_m.bW:Int)<p_x.bW)) (.say [.at_ 6 3,.frz 0,.frz 1,.frz 2,.tod 11] ok0<|
 .cH [] (U1 p_m p_x.bW) fun r0 _=>
 .ret ⟨[.kill 3,.kill 4,.kill 5,.mvn 6,.mvn 7,.mvn 8],[0],[(9,3),(10,4),(11,5)],6⟩ (r0))<|
 .sf Tryz.f50 3 [1,1,0,0] 0 10 3 [(2,.ptr 3 0),(3,.ptr 4 0),(4,.ptr 5 0)] [.row 54 82 (p_m.bn.map aF.lf),.row 3 1 (p_m.fNext.map lfI),.row 3 1 (p_m.bg.map lfI),.box 25 (ag_ (aB.lf1 p_m) [(8,.own 0),(10,.own 1),(11,.own 2)]),fG p_x,.box 25 (Z25)] 24 (ahd p_m p_x) fun r1=>
 .sb Tryz.f50 3 [1,1,0,0] 10 12 3 [(2,.ptr 3 0),(3,.ptr 4 0),(4,.ptr 5 0)] [.row 54 82 (p_m.bn.map aF.lf),.row 3 1 (p_m.fNext.map lfI),.row 3 1 (p_m.bg.map lfI),.box 25 (ag_ (aB.lf1 p_m) [(8,.own 0),(10,.own 1),(11,.own 2)]),fG p_x,.box 25 (Z25)] 24 36 r1 (ahe p_m p_x r1) fun r2=>
 .iB (r2) (.ret ⟨[.kill 3,.kill 4,.kill 5,.mvn 0,.mvn 1,.mvn 2],[0],[(6,3),(7,4),(8,5)],6⟩ (p_m))<|
 .sf Tryz.f50 3 [1,1,1,1,0,0] 0 9 6 [(2,.ptr 3 0),(3,.ptr 4 0),(4,.ptr 5 0),(5,.i_ p_x.eU)] [.row 54 82 (p_m.bn.map aF.lf),.row 3 1 (p_m.fNext.map lfI),.row 3 1 (p_m.bg.map lfI),.box 25 (ag_ (aB.lf1 p_m) [(8,.own 0),(10,.own 1),(11,.own 2)]),fG p_x,.box 25 (Z25)] 48 (acy p_m p_x) fun r3=>
 .sb Tryz.f50 3 [1,1,1,1,0,0] 9 7 6 [(2,.ptr 3 0),(3,.ptr 4 0),(4,.ptr 5 0),(5,.i_ p_x.eU)] [.row 54 82 (p_m.bn.map aF.lf),.row 3 1 (p_m.fNext.map lfI),.row 3 1 (p_m.bg.map lfI),.box 25 (ag_ (aB.lf1 p_m) [(8,.own 0),(10,.own 1),(11,.own 2)]),fG p_x,.box 25 (Z25)] 48 55 r3 (acz p_m p_x r3) fun r4=>
 .iB (r4) (.ret ⟨[.kill 3,.kill 4,.kill 5,.mvn 0,.mvn 1,.mvn 2],[0],[(6,3),(7,4),(8,5)],6⟩ (p_m))<|
 .jk Tryz.f50 3 [1,1,1,1,1,0,1] 1 (fun r_=>⟨[(2,.ptr 3 0),(4,.ptr 5 0)],[.row 54 82 (p_m.bn.map aF.lf),.row 3 1 (r_.1.map lfI),.row 3 1 (r_.2.map lfI),.box 25 (ag_ (aB.lf1 p_m) [(8,.own 0),(10,.own 1),(11,.own 2)]),.dead,.box 25 (Z25)]⟩) ⟨[(2,.ptr 3 0),(3,.ptr 4 0),(4,.ptr 5 0),(5,.i_ p_x.eU),(58,.b_ p_x.fOK)],[.row 54 82 (p_m.bn.map aF.lf),.row 3 1 (p_m.fNext.map lfI),.row 3 1 (p_m.bg.map lfI),.box 25 (ag_ (aB.lf1 p_m) [(8,.own 0),(10,.own 1),(11,.own 2)]),fG p_x,.box 25 (Z25)]⟩ (acA p_m p_x) fun r5=>
 .ret ⟨[.kill 3,.kill 5,.mvn 0,.mvn 1,.mvn 2],[0],[(6,3),(7,4),(8,5)],6⟩ (aB.BR (aB.aeI p_m r5.1) r5.2)
def awn(p_m:aB)(p_x:aG):Option (aB):=Mo.den (asL p_m p_x)
theorem aof(p_m:aB)(p_x:aG):FH (awn p_m p_x) 50 [FP (.agg ((aB.lf1 p_m).map AV.lf)) [(8,.own 0),(10,.own 1),(11,.own 2)],.dat (aG.lf1 p_x)] [.row 54 82 (p_m.bn.map aF.lf),.row 3 1 (p_m.fNext.map lfI),.row 3 1 (p_m.bg.map lfI)] (fun r=>FP (.agg ((aB.lf1 r).map AV.lf)) [(8,.own 3),(10,.own 4),(11,.own 5)]) (fun r=>[.dead,.dead,.dead,.row 54 82 (r.bn.map aF.lf),.row 3 1 (r.fNext.map lfI),.row 3 1 (r.bg.map lfI)]):=ig Tryz.func50
def ahf(p_x:Int):Mo ((Int×Int)):=
 .iB (decide ((4294967296:Int)≤p_x)) (.say [] (ok1 (by decide:(0:Int)≤32))<|
 .rt [0,2] 0 (gu .u64 p_x 32,32))<|
 .rt [0,2] 0 (p_x,0)
def ahg(r0:(Int×Int)):Mo ((Int×Int)):=
 .iB (decide ((65536:Int)≤r0.1)) (.say [] (ok1 (by decide:(0:Int)≤16))<|
 .rt [0,2] 0 (gu .u64 r0.1 16,IntKind.wrap .i64 (r0.2+16)))<|
 .rt [0,2] 0 (r0.1,r0.2)
def acB(r0:(Int×Int)):Mo ((Int×Int)):=
 .iB (decide ((256:Int)≤r0.1)) (.say [] (ok1 (by decide:(0:Int)≤8))<|
 .rt [0,2] 0 (gu .u64 r0.1 8,IntKind.wrap .i64 (r0.2+8)))<|
 .rt [0,2] 0 (r0.1,r0.2)
def asM(p_x:Int):Mo (Int):=
 .jk Tryz.f111 0 [1,0,1] 1 (fun r_=>⟨[(0,.lf (.int .u64 r_.1)),(2,.i_ r_.2)],[]⟩) ⟨[(0,.lf (.int .u64 p_x)),(2,.i_ 0),(4,.lf (.bool (decide ((4294967296:Int)≤p_x))))],[]⟩ (ahf p_x) fun r0=>
 .jk Tryz.f111 0 [1,1,0,1] 1 (fun r_=>⟨[(0,.lf (.int .u64 r_.1)),(2,.i_ r_.2)],[]⟩) ⟨[(0,.lf (.int .u64 r0.1)),(2,.i_ r0.2),(8,.lf (.bool (decide ((65536:Int)≤r0.1))))],[]⟩ (ahg r0) fun r1=>
 .jk Tryz.f111 0 [1,1,1,0,1] 1 (fun r_=>⟨[(0,.lf (.int .u64 r_.1)),(2,.i_ r_.2)],[]⟩) ⟨[(0,.lf (.int .u64 r1.1)),(2,.i_ r1.2),(14,.lf (.bool (decide ((256:Int)≤r1.1))))],[]⟩ (acB r1) fun r2=>
 .ask (lS ⟨#[0,1,2,2,3,3,3,3,4,4,4,4,4,4,4,4,5,5,5,5,5,5,5,5,5,5,5,5,5,5,5,5,6,6,6,6,6,6,6,6,6,6,6,6,6,6,6,6,6,6,6,6,6,6,6,6,6,6,6,6,6,6,6,6,7,7,7,7,7,7,7,7,7,7,7,7,7,7,7,7,7,7,7,7,7,7,7,7,7,7,7,7,7,7,7,7,7,7,7,7,7,7,7,7,7,7,7,7,7,7,7,7,7,7,7,7,7,7,7,7,7,7,7,7,7,7,7,7,8,8,8,8,8,8,8,8,8,8,8,8,8,8,8,8,8,8,8,8,8,8,8,8,8,8,8,8,8,8,8,8,8,8,8,8,8,8,8,8,8,8,8,8,8,8,8,8,8,8,8,8,8,8,8,8,8,8,8,8,8,8,8,8,8,8,8,8,8,8,8,8,8,8,8,8,8,8,8,8,8,8,8,8,8,8,8,8,8,8,8,8,8,8,8,8,8,8,8,8,8,8,8,8,8,8,8,8,8,8,8,8,8,8,8,8,8,8,8,8,8,8,8,8,8,8,8,8]⟩ (IntKind.wrap .u8 r2.1)) fun b0 h0=>
 .say [.byt b0] (ok1 (iy h0))<|
 .ret (aY 1) (IntKind.wrap .i64 (r2.2+(IntKind.wrap .i64 (b0.toNat:Int))))
def awo(p_x:Int):Option (Int):=Mo.den (asM p_x)
theorem aog(p_x:Int):FV (awo p_x) 111 [.lf (.int .u64 p_x)] .i_:=cO Tryz.func111
def asN(p_x:Int):Mo (Int):=
 .say [.br false] (ok1 (rfl:false=false))<|
 .cl (aog p_x) fun r0 _=>
 .ret (aY 1) (r0)
def avp(p_x:Int):Option (Int):=Mo.den (asN p_x)
theorem aoh(p_x:Int):FV (avp p_x) 69 [.lf (.int .u64 p_x)] .i_:=cO Tryz.func69
def U5(p_x:Int):Mo (Bool):=
 .ret (aY 1) (p_x != p_x)
def aoi(p_x:Int):Option (Bool):=Mo.den (U5 p_x)
theorem Ji(p_x:Int):FV (aoi p_x) 155 [.i_ p_x] .b_:=cO Tryz.func155
def OC(p_x:Int)(p_y:Int):Mo (Bool):=
 .cl (Ji p_x) fun r0 _=>
 .iG 4002 (r0) (.cl (Ji p_y) fun r1 _=>
 .rt [0,1,4,11] 0 (!r1))<|
 .rt [0,1,4,11] 0 (false)
def OD(p_x:Int)(p_y:Int)(r0:Bool):Mo (Bool):=
 .oV 4007 (r0) [4,16] 0 (decide ((p_x:Int)<p_y))
def Kr(r0:Bool):Mo (Unit):=
 .rt [4] 0 ()
def akg(p_x:Int)(p_y:Int):Mo (Bool):=
 .sf Tryz.f107 0 [1,0] 0 7 1 [(0,.i_ p_x),(1,.i_ p_y),(4,.b_ false)] [] 11 (OC p_x p_y) fun r0=>
 .sk Tryz.f107 0 [1,0] 7 5 1 (fun r_=>⟨[(4,.b_ false),(16,.b_ r_)],[]⟩) ⟨[(0,.i_ p_x),(1,.i_ p_y),(4,.b_ false),(11,.b_ r0)],[]⟩ (OD p_x p_y r0) fun r1=>
 .sk Tryz.f107 0 [1,0] 12 1 1 (fun r_=>⟨[(4,.b_ r1)],[]⟩) ⟨[(4,.b_ false),(16,.b_ r1)],[]⟩ (Kr r1) fun r2=>
 .ret (aY 1) (r1)
def aoj(p_x:Int)(p_y:Int):Option (Bool):=Mo.den (akg p_x p_y)
theorem aok(p_x:Int)(p_y:Int):FV (aoj p_x p_y) 107 [.i_ p_x,.i_ p_y] .b_:=cO Tryz.func107
def Yt(l0:List Int)(p_a:Int)(p_b:Int)(v0:Int)(v1:Int):Mo (Bool):=
 .ite (decide ((p_a:Int)<v1)) (fun c0=>
 .say [] (ok1 c0)<|
 .ask (fQ l0 v1) fun x0 h0=>
 .say [] (okc (dI lI_ h0) (ok1 ((bU lI_ h0).2)))<|
 .ask (fQ l0 (IntKind.wrap .i64 (v1-1))) fun x1 h1=>
 .say [] (okc (dI lI_ h1) (ok1 ((bU lI_ h1).2)))<|
 .ask (aoj x0 x1) fun r0 h2=>
 .say [.gY (.q 0 (.q 1 (.q 2 (.q 3 (.q 4 (.q 5 (.q 6 (.q 7 (.q 8 (.q 9 (.q 10 (.q 11 (.q 12 (.l 13 (.q 14 .fin))))))))))))))) (some 13) [] [.gd 10003 true,.row (lfI x0),.row (lfI x1),.res (.b_ r0)] [0,1,2,6,7,30] 1 [(0,.own 0),(1,.i_ p_a),(2,.i_ p_b),(6,.i_ v0),(7,.i_ v1),(30,.b_ r0)] [.row 3 1 (l0.map lfI)]] (okc (aok _ _ _ h2) (ok1 (rf_ ⟨[(0,.own 0),(1,.i_ p_a),(2,.i_ p_b),(6,.i_ v0),(7,.i_ v1),(30,.b_ r0)],[.row 3 1 (l0.map lfI)]⟩)))<|
 .rt [0,1,2,6,7,30] 1 (r0)) fun c0=>
 .say [.gY (.q 0 (.q 1 (.q 2 (.q 3 (.q 4 (.q 5 (.q 6 (.q 7 (.q 8 (.q 9 (.q 10 (.q 11 (.q 12 (.l 13 (.q 14 .fin))))))))))))))) (some 13) [] [.gd 10003 false] [0,1,2,6,7,30] 1 [(0,.own 0),(1,.i_ p_a),(2,.i_ p_b),(6,.i_ v0),(7,.i_ v1),(30,.b_ false)] [.row 3 1 (l0.map lfI)]] (okc c0 (ok1 (rf_ ⟨[(0,.own 0),(1,.i_ p_a),(2,.i_ p_b),(6,.i_ v0),(7,.i_ v1),(30,.b_ false)],[.row 3 1 (l0.map lfI)]⟩)))<|
 .rt [0,1,2,6,7,30] 1 (false)
def acC(l0:List Int)(p_a:Int)(p_b:Int)(v0:Int)(v1:Int):Option (Bool):=Mo.den (Yt l0 p_a p_b v0 v1)
def Kt(p_a:Int)(p_b:Int)(v0:Int):(Int×(List Int))→Mo ((Int×(List Int))⊕((List Int))):=fun(v1,l0)=>
 .jp Tryz.f101 1 [1,0,0,1,0,0,1,0,0,0,0] 15 [0,1,2,6,7] 1 (.normal) (fun r_=>⟨[(0,.own 0),(1,.i_ p_a),(2,.i_ p_b),(6,.i_ v0),(7,.i_ v1),(30,.b_ r_)],[.row 3 1 (l0.map lfI)]⟩) ⟨[(0,.own 0),(1,.i_ p_a),(2,.i_ p_b),(6,.i_ v0),(7,.i_ v1)],[.row 3 1 (l0.map lfI)]⟩ (acC l0 p_a p_b v0 v1) (jW (by kernel_rfl)) fun r0 _=>
 .iB (r0) (.ask (fQ l0 (IntKind.wrap .i64 (v1-1))) fun x0 h0=>
 .say [] (okc (dI lI_ h0) (ok1 ((bU lI_ h0).2)))<|
 .ask (fQ l0 v1) fun x1 h1=>
 .say [] (okc (dI lI_ h1) (ok1 ((bU lI_ h1).2)))<|
 .ask (fQ l0 v1) fun x2 h2=>
 .say [] (okc (dI lI_ h2) (okc (st_ lI_ l0 v1.toNat x0) (ok1 ((bU lI_ h2).2))))<|
 .ask (fQ (l0.set v1.toNat x0) (IntKind.wrap .i64 (v1-1))) fun x3 h3=>
 .say [.gY (.q 0 (.q 1 (.q 2 (.q 3 (.q 4 (.q 5 (.q 6 (.q 7 (.q 10 (.q 11 (.alt 8 (.alt 9 (.l 12 (.l 13 (.l 14 (.l 15 (.l 16 (.l 17 .fin)))))) (.l 12 (.alt 9 (.l 13 (.l 14 (.l 15 (.l 16 (.l 17 .fin))))) (.l 13 (.l 9 (.l 14 (.l 15 (.l 16 (.l 17 .fin))))))))) (.l 12 (.alt 8 (.alt 9 (.l 13 (.l 14 (.l 15 (.l 16 (.l 17 .fin))))) (.l 13 (.l 9 (.l 14 (.l 15 (.l 16 (.l 17 .fin))))))) (.l 13 (.l 8 (.l 9 (.l 14 (.l 15 (.l 16 (.l 17 .fin)))))))))))))))))))) (some 17) [0] [.both [.both [.row (lfI x0),.row (lfI x1),.row (lfI x2),.rows ((l0.set v1.toNat x0).map lfI),.row (lfI x3),.rows (((l0.set v1.toNat x0).set ((IntKind.wrap .i64 (v1-1)).toNat) x1).map lfI)] [.both [.row (lfI x0),.row (lfI x1),.row (lfI x2),.rows ((l0.set v1.toNat x0).map lfI),.row (lfI x3),.rows (((l0.set v1.toNat x0).set ((IntKind.wrap .i64 (v1-1)).toNat) x1).map lfI)] [.row (lfI x1),.row (lfI x0),.row (lfI x2),.rows ((l0.set v1.toNat x0).map lfI),.row (lfI x3),.rows (((l0.set v1.toNat x0).set ((IntKind.wrap .i64 (v1-1)).toNat) x1).map lfI)]]] [.both [.both [.row (lfI x0),.row (lfI x1),.row (lfI x2),.rows ((l0.set v1.toNat x0).map lfI),.row (lfI x3),.rows (((l0.set v1.toNat x0).set ((IntKind.wrap .i64 (v1-1)).toNat) x1).map lfI)] [.row (lfI x1),.row (lfI x0),.row (lfI x2),.rows ((l0.set v1.toNat x0).map lfI),.row (lfI x3),.rows (((l0.set v1.toNat x0).set ((IntKind.wrap .i64 (v1-1)).toNat) x1).map lfI)]] [.row (lfI x1),.row (lfI x0),.row (lfI x2),.rows ((l0.set v1.toNat x0).map lfI),.row (lfI x3),.rows (((l0.set v1.toNat x0).set ((IntKind.wrap .i64 (v1-1)).toNat) x1).map lfI)]]] [0,1,2,6,7] 1 [(0,.own 0),(1,.i_ p_a),(2,.i_ p_b),(6,.i_ v0),(7,.i_ v1)] [.row 3 1 (((l0.set v1.toNat x0).set ((IntKind.wrap .i64 (v1-1)).toNat) x1).map lfI)]] (okc (dI lI_ h3) (okc (st_ lI_ (l0.set v1.toNat x0) ((IntKind.wrap .i64 (v1-1)).toNat) x1) (okc ((bU lI_ h3).2) (okc (rf_ ⟨[(0,.own 0),(1,.i_ p_a),(2,.i_ p_b),(6,.i_ v0),(7,.i_ v1)],[.row 3 1 (((l0.set v1.toNat x0).set ((IntKind.wrap .i64 (v1-1)).toNat) x1).map lfI)]⟩) (okc (dI lI_ h1) (okc ((bU lI_ h0).2) (okc ((bU lI_ h1).2) (okc (dI lI_ h2) (okc (st_ lI_ l0 v1.toNat x0) (okc ((bU lI_ h2).2) (okc (dI lI_ h3) (okc (st_ lI_ (l0.set v1.toNat x0) ((IntKind.wrap .i64 (v1-1)).toNat) x1) (okc ((bU lI_ h3).2) (okc (rf_ ⟨[(0,.own 0),(1,.i_ p_a),(2,.i_ p_b),(6,.i_ v0),(7,.i_ v1)],[.row 3 1 (((l0.set v1.toNat x0).set ((IntKind.wrap .i64 (v1-1)).toNat) x1).map lfI)]⟩) (okc ((bU lI_ h1).2) (okc ((bU lI_ h0).2) (okc (dI lI_ h2) (okc (st_ lI_ l0 v1.toNat x0) (okc ((bU lI_ h2).2) (okc (dI lI_ h3) (okc (st_ lI_ (l0.set v1.toNat x0) ((IntKind.wrap .i64 (v1-1)).toNat) x1) (okc ((bU lI_ h3).2) (okc (rf_ ⟨[(0,.own 0),(1,.i_ p_a),(2,.i_ p_b),(6,.i_ v0),(7,.i_ v1)],[.row 3 1 (((l0.set v1.toNat x0).set ((IntKind.wrap .i64 (v1-1)).toNat) x1).map lfI)]⟩) (okc (dI lI_ h1) (okc (dI lI_ h0) (okc ((bU lI_ h0).2) (okc ((bU lI_ h1).2) (okc (dI lI_ h2) (okc (st_ lI_ l0 v1.toNat x0) (okc ((bU lI_ h2).2) (okc (dI lI_ h3) (okc (st_ lI_ (l0.set v1.toNat x0) ((IntKind.wrap .i64 (v1-1)).toNat) x1) (okc ((bU lI_ h3).2) (okc (rf_ ⟨[(0,.own 0),(1,.i_ p_a),(2,.i_ p_b),(6,.i_ v0),(7,.i_ v1)],[.row 3 1 (((l0.set v1.toNat x0).set ((IntKind.wrap .i64 (v1-1)).toNat) x1).map lfI)]⟩) (okc ((bU lI_ h1).2) (okc ((bU lI_ h0).2) (okc (dI lI_ h2) (okc (st_ lI_ l0 v1.toNat x0) (okc ((bU lI_ h2).2) (okc (dI lI_ h3) (okc (st_ lI_ (l0.set v1.toNat x0) ((IntKind.wrap .i64 (v1-1)).toNat) x1) (okc ((bU lI_ h3).2) (okc (rf_ ⟨[(0,.own 0),(1,.i_ p_a),(2,.i_ p_b),(6,.i_ v0),(7,.i_ v1)],[.row 3 1 (((l0.set v1.toNat x0).set ((IntKind.wrap .i64 (v1-1)).toNat) x1).map lfI)]⟩) (okc ((bU lI_ h1).2) (okc (dI lI_ h0) (okc ((bU lI_ h0).2) (okc (dI lI_ h2) (okc (st_ lI_ l0 v1.toNat x0) (okc ((bU lI_ h2).2) (okc (dI lI_ h3) (okc (st_ lI_ (l0.set v1.toNat x0) ((IntKind.wrap .i64 (v1-1)).toNat) x1) (okc ((bU lI_ h3).2) (ok1 (rf_ ⟨[(0,.own 0),(1,.i_ p_a),(2,.i_ p_b),(6,.i_ v0),(7,.i_ v1)],[.row 3 1 (((l0.set v1.toNat x0).set ((IntKind.wrap .i64 (v1-1)).toNat) x1).map lfI)]⟩))))))))))))))))))))))))))))))))))))))))))))))))))))))<|
 .rt [0,1,2,6,7] 1 (.inl (IntKind.wrap .i64 (v1-1),(l0.set v1.toNat x0).set ((IntKind.wrap .i64 (v1-1)).toNat) x1)))<|
 .rt [0,1,2,6] 1 (.inr (l0))
def acD(p_a:Int)(p_b:Int)(v0:Int)(v1:Int)(l0:List Int):Option (((List Int))):=bQ (fun v_=>(Kt p_a p_b v0 v_).den) FU (v1,l0)
def Gp(p_a:Int)(p_b:Int):(Int×(List Int))→Mo ((Int×(List Int))⊕((List Int))):=fun(v0,l0)=>
 .iB (decide ((v0:Int)<p_b)) (.l1m [] Tryz.f101 1 [1,0,0,1,0,0,1,0] 0 (.exit 2) (fun(v1,l1)=>⟨[(0,.own 0),(1,.i_ p_a),(2,.i_ p_b),(6,.i_ v0),(7,.i_ v1)],[.row 3 1 (l1.map lfI)]⟩) (fun r_=>⟨[(0,.own 0),(1,.i_ p_a),(2,.i_ p_b),(6,.i_ v0)],[.row 3 1 (r_.map lfI)]⟩) (acD p_a p_b v0 v0 l0) (Kt p_a p_b v0) (v0,l0) fun r0=>
 .rt [0,1,2,6] 1 (.inl (IntKind.wrap .i64 (v0+1),r0)))<|
 .rt [] 1 (.inr (l0))
def aol(p_a:Int)(p_b:Int)(v0:Int)(l0:List Int):Option (((List Int))):=bQ (fun v_=>(Gp p_a p_b v_).den) FU (v0,l0)
def aqN(p_a:Int)(p_b:Int)(p_s0:List Int):Mo (List Int):=
 .l1 Tryz.f101 1 [1,0] 0 (.exit 0) (fun(v0,l0)=>⟨[(0,.own 0),(1,.i_ p_a),(2,.i_ p_b),(6,.i_ v0)],[.row 3 1 (l0.map lfI)]⟩) (fun r_=>⟨[],[.row 3 1 (r_.map lfI)]⟩) (Gp p_a p_b) ((IntKind.wrap .i64 (p_a+1)),p_s0) fun r0=>
 .rt [] 1 (r0)
def Q22(p_a:Int)(p_b:Int)(p_s0:List Int):Option (List Int):=Mo.den (aqN p_a p_b p_s0)
theorem asO(p_a:Int)(p_b:Int)(p_s0:List Int):FH (Q22 p_a p_b p_s0) 101 [.own 0,.i_ p_a,.i_ p_b] [.row 3 1 (p_s0.map lfI)] (fun _=>.tup []) (fun r=>[.row 3 1 (r.map lfI)]):=ig Tryz.func101
abbrev U6(m:Int→Int→Int→(List Int)→Option (List Int)):Prop:=∀p_a p_b p_limit p_s0,FH (m p_a p_b p_limit p_s0) 68 [.own 0,.i_ p_a,.i_ p_b,.i_ p_limit] [.row 3 1 (p_s0.map lfI)] (fun _=>.tup []) (fun r=>[.row 3 1 (r.map lfI)])
structure akh where
 m1:(p_a:Int)→(p_b:Int)→(p_limit:Int)→(p_s0:List Int)→Option (List Int)
 ok1:U6 m1
def Ku(R_:akh)(p_a:Int)(p_b:Int)(p_limit:Int)(p_s0:List Int):Unit→Mo (Unit⊕((List Int))):=fun _=>
 .say [.br true] ok0<|
 .ite (decide ((IntKind.wrap .i64 (p_b-p_a):Int)≤12)) (fun c0=>
 .say [] (ok1 c0)<|
 .cH [0] (asO p_a p_b p_s0) fun r0 _=>
 .rt [] 1 (.inr (r0))) fun c0=>
 .stop
def asP(R_:akh)(p_a:Int)(p_b:Int)(p_limit:Int)(p_s0:List Int):Option (((List Int))):=bQ (fun v_=>(Ku R_ p_a p_b p_limit p_s0 v_).den) FU ()
def afh(R_:akh)(p_a:Int)(p_b:Int)(p_limit:Int)(p_s0:List Int):Mo (List Int):=
 .l1 Tryz.f68 1 [1,1,0] 0 .ret (fun _=>⟨[(0,.own 0),(1,.i_ p_a),(2,.i_ p_b),(3,.i_ p_limit),(8,.b_ true),(9,.b_ true)],[.row 3 1 (p_s0.map lfI)]⟩) (fun r_=>⟨[],[.row 3 1 (r_.map lfI)]⟩) (Ku R_ p_a p_b p_limit p_s0) () fun r0=>
 .rt [] 1 (r0)
theorem aom(R_:akh):U6 fun p_a p_b p_limit p_s0=>Mo.den (afh R_ p_a p_b p_limit p_s0):=fun _ _ _ _=>ig Tryz.func68
def Gq:Nat→akh
 |0=>{ m1:=fun p_a p_b p_limit p_s0=>none,ok1:=fun _ _ _ _ _ h=>(by cases h) }
 |n_+1=>{ m1:=fun p_a p_b p_limit p_s0=>Mo.den (afh (Gq n_) p_a p_b p_limit p_s0),ok1:=aom (Gq n_) }
def Q73(p_a:Int)(p_b:Int)(p_limit:Int)(p_s0:List Int):Option (List Int):=(Gq FU).m1 p_a p_b p_limit p_s0
theorem asQ:U6 Q73:=(Gq FU).ok1
def aki(p_s0:List Int):Mo (List Int):=
 .nu p_s0 lfI<|
 .cl (aoh (IntKind.wrap .u64 (p_s0.length:Int))) fun r0 _=>
 .cH [0] (asQ 0 (p_s0.length:Int) r0 p_s0) fun r1 _=>
 .rt [] 1 (r1)
def aon(p_s0:List Int):Option (List Int):=Mo.den (aki p_s0)
theorem aoo(p_s0:List Int):FH (aon p_s0) 41 [.own 0] [.row 3 1 (p_s0.map lfI)] (fun _=>.tup []) (fun r=>[.row 3 1 (r.map lfI)]):=ig Tryz.func41
def Yu(p_m:aB)(r0:Int):Mo (Bool):=
 .oV 6003 (p_m.gX != 2) [1,2,3,15] 5 (r0==0)
def Yv(p_m:aB)(r0:Int)(r1:Bool):Mo (Bool):=
 .iG 6007 (r1) (.rt [1,2,3,22] 5 (true))<|
 .nu p_m.bg lfI<|
 .rt [1,2,3,22] 5 (decide (((p_m.bg.length:Int):Int)<r0))
def OE(p_m:aB)(v0:Int):Mo (Bool):=
 .say [.order [(true,0),(true,1),(true,2),(true,3),(true,4),(true,5),(true,6),(true,7),(true,8),(true,9),(true,10),(true,11),(true,12),(true,13),(true,14),(true,15),(true,16),(true,17),(true,18),(true,19)] none []] ok0<|
 .iG 16004 (decide ((p_m.aJ:Int)<v0)) (.iG 16008 (decide ((0:Int)<v0)) (.ask (fQ p_m.bn (IntKind.wrap .i64 (v0-1))) fun x0 h0=>
 .say [.row (aF.lf1 x0)] (okc (dI aF.aX h0) (ok1 ((bU aF.aX h0).2)))<|
 .rt [1,2,5,59] 6 (x0.bW != p_m.bW))<|
 .rt [1,2,5,59] 6 (false))<|
 .rt [1,2,5,59] 6 (false)
def Gs(p_m:aB):(Int)→Mo ((Int)⊕(Int)):=fun(v0)=>
 .jk Tryz.f17 3 [1,1,1,1,1,1,0,0,0,0,0] 21 (fun r_=>⟨[(1,.ptr 3 0),(2,.ptr 4 0),(5,.i_ v0),(59,.b_ r_)],[.row 54 82 (p_m.bn.map aF.lf),.row 3 1 (p_m.fNext.map lfI),.dead,.box 25 (ag_ (aB.lf1 p_m) [(8,.own 0),(10,.own 1)]),.box 25 (Z25),.dead]⟩) ⟨[(1,.ptr 3 0),(2,.ptr 4 0),(5,.i_ v0)],[.row 54 82 (p_m.bn.map aF.lf),.row 3 1 (p_m.fNext.map lfI),.dead,.box 25 (ag_ (aB.lf1 p_m) [(8,.own 0),(10,.own 1)]),.box 25 (Z25),.dead]⟩ (OE p_m v0) fun r0=>
 .iB (r0) (.rt [1,2,5] 6 (.inl (IntKind.wrap .i64 (v0-1))))<|
 .rt [1,2,5] 6 (.inr (v0))
def U7(p_m:aB)(v0:Int):Option (Int):=bQ (fun v_=>(Gs p_m v_).den) FU (v0)
def aqO(p_m:aB):Mo (aB):=
 .cl (ae4 p_m.dX) fun r0 _=>
 .sf Tryz.f17 3 [1,1,0,0] 0 7 2 [(1,.ptr 3 0),(2,.ptr 4 0),(3,.i_ r0)] [.row 54 82 (p_m.bn.map aF.lf),.row 3 1 (p_m.fNext.map lfI),.row 3 1 (p_m.bg.map lfI),.box 25 (ag_ (aB.lf1 p_m) [(8,.own 0),(10,.own 1),(11,.own 2)]),.box 25 (Z25)] 15 (Yu p_m r0) fun r1=>
 .sb Tryz.f17 3 [1,1,0,0] 7 7 2 [(1,.ptr 3 0),(2,.ptr 4 0),(3,.i_ r0)] [.row 54 82 (p_m.bn.map aF.lf),.row 3 1 (p_m.fNext.map lfI),.row 3 1 (p_m.bg.map lfI),.box 25 (ag_ (aB.lf1 p_m) [(8,.own 0),(10,.own 1),(11,.own 2)]),.box 25 (Z25)] 15 22 r1 (Yv p_m r0 r1) fun r2=>
 .iB (r2) (.ret ⟨[.frz 2,.kill 3,.kill 4,.mvn 0,.mvn 1],[0],[(5,3),(6,4)],5⟩ (p_m))<|
 .say [.at_ 10 2,.frz 2] ok0<|
 .cH [] (anq p_m.bg) fun r3 _=>
 .ask (aon r3) fun r4 h0=>
 .say [.jA [5] (.tup []) [.row 3 1 (r4.map lfI)],.order [(true,0),(true,1),(true,2),(true,3),(true,4),(true,5),(true,6),(true,7),(true,8),(true,9),(true,10),(true,11)] none [],.num r4.length] (okc (aoo _ _ h0) (ok1 (ln_ r4 lfI)))<|
 .ask (fQ r4 (IntKind.wrap .i64 ((r4.length:Int)-r0))) fun x0 h1=>
 .say [.row (lfI x0),.num p_m.bn.length] (okc (dI lI_ h1) (okc ((bU lI_ h1).2) (ok1 (ln_ p_m.bn aF.lf))))<|
 .l1m [.kill 5] Tryz.f17 3 [1,1,1,1,1,1,0,0] 0 (.exit 0) (fun(v0)=>⟨[(1,.ptr 3 0),(2,.ptr 4 0),(5,.i_ v0)],[.row 54 82 (p_m.bn.map aF.lf),.row 3 1 (p_m.fNext.map lfI),.dead,.box 25 (ag_ (aB.lf1 p_m) [(8,.own 0),(10,.own 1)]),.box 25 (Z25),.dead]⟩) (fun r_=>⟨[(1,.ptr 3 0),(2,.ptr 4 0),(5,.i_ r_)],[.row 54 82 (p_m.bn.map aF.lf),.row 3 1 (p_m.fNext.map lfI),.dead,.box 25 (ag_ (aB.lf1 p_m) [(8,.own 0),(10,.own 1)]),.box 25 (Z25),.dead]⟩) (U7 p_m (if(p_m.bn.length:Int)<x0 then(p_m.bn.length:Int) else x0)) (Gs p_m) ((if(p_m.bn.length:Int)<x0 then(p_m.bn.length:Int) else x0)) fun r5=>
 .ret ⟨[.kill 3,.kill 4,.mvn 0,.mvn 1],[0],[(6,3),(7,4)],5⟩ (aB.qK p_m (if p_m.aJ > r5 then p_m.aJ else r5))
def Q59(p_m:aB):Option (aB):=Mo.den (aqO p_m)
theorem akj(p_m:aB):FH (Q59 p_m) 17 [FP (.agg ((aB.lf1 p_m).map AV.lf)) [(8,.own 0),(10,.own 1),(11,.own 2)]] [.row 54 82 (p_m.bn.map aF.lf),.row 3 1 (p_m.fNext.map lfI),.row 3 1 (p_m.bg.map lfI)] (fun r=>FP (.agg ((aB.lf1 r).map AV.lf)) [(8,.own 3),(10,.own 4)]) (fun r=>[.dead,.dead,.dead,.row 54 82 (r.bn.map aF.lf),.row 3 1 (r.fNext.map lfI)]):=ig Tryz.func17
def asR(p_x:aG)(p_b0:aS):Mo (aS):=
 .say [.order [(true,0),(true,1),(true,2),(true,3),(true,5),(false,4),(false,6),(false,7),(true,8),(true,9),(false,10)] (some 10) [1,2,3,6,7,8,9,10]] ok0<|
 .cH [1,2,3] (aof p_b0.aZ p_x) fun r0 _=>
 .cH [6,7,8] (akj r0) fun r1 _=>
 .ret ⟨[.kill 5,.mvn 9,.mvn 10,.mvn 4],[],[(11,5),(12,6),(13,7)],8⟩ (aS.mk r1 p_b0.dY p_b0.gW)
def avq(p_x:aG)(p_b0:aS):Option (aS):=Mo.den (asR p_x p_b0)
theorem aop(p_x:aG)(p_b0:aS):FH (avq p_x p_b0) 32 [.ptr 0 0,.dat (aG.lf1 p_x)] [.box 87 (ag_ (aS.lf1 p_b0) [(8,.own 1),(10,.own 2),(11,.own 3),(12,.own 4)]),.row 54 82 (p_b0.aZ.bn.map aF.lf),.row 3 1 (p_b0.aZ.fNext.map lfI),.row 3 1 (p_b0.aZ.bg.map lfI),.row 65 9 (p_b0.dY.map aG.lf)] (fun _=>.tup []) (fun r=>[.box 87 (ag_ (aS.lf1 r) [(8,.own 5),(10,.own 6),(12,.own 7)]),.dead,.dead,.dead,.dead,.row 54 82 (r.aZ.bn.map aF.lf),.row 3 1 (r.aZ.fNext.map lfI),.row 65 9 (r.dY.map aG.lf)]):=ig Tryz.func32
def ahh(p_m:aB)(p_x:aG):Mo (Bool):=
 .oV 4005 (p_x.fTo != p_m.fID) [2,3,4,6,20] 4 (p_x.eU==p_m.fID)
def ahi(p_m:aB)(p_x:aG)(r0:Bool):Mo (Bool):=
 .oV 4012 (r0) [2,3,4,6,25] 4 (decide ((p_x.eU:Int)<0))
def acE(p_m:aB)(p_x:aG)(r0:Bool):Mo (Bool):=
 .oV 4017 (r0) [2,3,4,6,32] 4 (decide ((p_m.dX:Int)≤p_x.eU))
def asU(p_m:aB)(p_x:aG):Mo (aB×(List aG)×fK):=
 .sf Tryz.f12 0 [1,0,0] 0 12 1 [(2,.ptr 0 0),(3,.ptr 1 0),(4,.ptr 2 0),(6,.ptr 3 0)] [eG p_m,fG p_x,.box 25 (Z25),.box 68 (.agg [.i_ 0,.i_ 0,.i_ 0,.dw 82])] 20 (ahh p_m p_x) fun r0=>
 .sb Tryz.f12 0 [1,0,0] 12 5 1 [(2,.ptr 0 0),(3,.ptr 1 0),(4,.ptr 2 0),(6,.ptr 3 0)] [eG p_m,fG p_x,.box 25 (Z25),.box 68 (.agg [.i_ 0,.i_ 0,.i_ 0,.dw 82])] 20 25 r0 (ahi p_m p_x r0) fun r1=>
 .sb Tryz.f12 0 [1,0,0] 17 7 1 [(2,.ptr 0 0),(3,.ptr 1 0),(4,.ptr 2 0),(6,.ptr 3 0)] [eG p_m,fG p_x,.box 25 (Z25),.box 68 (.agg [.i_ 0,.i_ 0,.i_ 0,.dw 82])] 25 32 r1 (acE p_m p_x r1) fun r2=>
 .iB (r2) (.cH [] (rY p_m) fun r3 _=>
 .ask (abV) fun r4 h0=>
 .say [.res (.dat (fK.lf1 r4)),.at_ 0 0,.frz 4,.frz 5,.frz 6] (ok1 (zy  _ h0))<|
 .ret ⟨[.nil 1 9,.tod 1],[0,1,2],[],0⟩ (r3,[],r4))<|
 .iB (p_x.aK==1) (.cH [] (rY p_m) fun r5 _=>
 .ask (abV) fun r6 h1=>
 .say [.res (.dat (fK.lf1 r6)),.at_ 32 3,.agz 7 12 65,.jM 8 (([]:List aG).map aG.lf)] (okc (zy  _ h1) (ok1 (by simp[aG.aX]:(([]:List aG).map aG.lf)=[])))<|
 .ask (avg p_x (aS.mk r5 ([]:List aG) r6)) fun r7 h2=>
 .say [.jA [7,4,5,6,8] (.tup []) [aqF r7,.dead,.dead,.dead,.dead],.order [(true,0),(true,1),(true,2),(true,3),(true,4),(true,5),(true,6),(true,7),(true,8),(true,9),(true,10),(true,11),(false,12),(true,13),(false,14)] (some 14) [2]] (ok1 (anR _ _ _ h2))<|
 .ret (aY 3) (r7.aZ,r7.dY,r7.gW))<|
 .iB (p_x.aK==2) (.cH [] (rY p_m) fun r8 _=>
 .ask (abV) fun r9 h3=>
 .say [.res (.dat (fK.lf1 r9)),.at_ 32 3,.agz 7 12 65,.jM 8 (([]:List aG).map aG.lf)] (okc (zy  _ h3) (ok1 (by simp[aG.aX]:(([]:List aG).map aG.lf)=[])))<|
 .ask (avi p_x (aS.mk r8 ([]:List aG) r9)) fun r10 h4=>
 .say [.jA [7,4,5,6,8] (.tup []) [.box 87 (ag_ (aS.lf1 r10) [(12,.own 5)]),.dead,.dead,.dead,.dead,.row 65 9 (r10.dY.map aG.lf)],.order [(true,0),(true,1),(true,2),(true,3),(true,4),(true,5),(true,6),(true,7),(true,8),(true,9),(true,10),(true,11),(false,12),(true,13),(false,14)] (some 14) [2],.at_ 0 0,.frz 9] (ok1 (anX _ _ _ h4))<|
 .ret (aY 3) (r10.aZ,r10.dY,r10.gW))<|
 .iB (p_x.aK==3) (.cH [] (rY p_m) fun r11 _=>
 .ask (abV) fun r12 h5=>
 .say [.res (.dat (fK.lf1 r12)),.at_ 32 3,.agz 7 12 65,.jM 8 (([]:List aG).map aG.lf)] (okc (zy  _ h5) (ok1 (by simp[aG.aX]:(([]:List aG).map aG.lf)=[])))<|
 .ask (avo p_x (aS.mk r11 ([]:List aG) r12)) fun r13 h6=>
 .say [.jA [7,4,5,6,8] (.tup []) [.box 87 (ag_ (aS.lf1 r13) [(8,.own 5),(10,.own 6),(11,.own 7),(12,.own 8)]),.dead,.dead,.dead,.dead,.row 54 82 (r13.aZ.bn.map aF.lf),.row 3 1 (r13.aZ.fNext.map lfI),.row 3 1 (r13.aZ.bg.map lfI),.row 65 9 (r13.dY.map aG.lf)],.order [(true,0),(true,1),(true,2),(true,3),(true,4),(true,5),(true,6),(true,7),(true,8),(true,9),(true,10),(true,11),(false,12),(true,13),(false,14)] (some 14) [2],.at_ 0 0,.frz 9,.frz 10,.frz 11,.frz 12] (ok1 (aoe _ _ _ h6))<|
 .ret (aY 3) (r13.aZ,r13.dY,r13.gW))<|
 .iB (p_x.aK==4) (.cH [] (rY p_m) fun r14 _=>
 .ask (abV) fun r15 h7=>
 .say [.res (.dat (fK.lf1 r15)),.at_ 32 3,.agz 7 12 65,.jM 8 (([]:List aG).map aG.lf)] (okc (zy  _ h7) (ok1 (by simp[aG.aX]:(([]:List aG).map aG.lf)=[])))<|
 .ask (avq p_x (aS.mk r14 ([]:List aG) r15)) fun r16 h8=>
 .say [.jA [7,4,5,6,8] (.tup []) [.box 87 (ag_ (aS.lf1 r16) [(8,.own 5),(10,.own 6),(12,.own 7)]),.dead,.dead,.dead,.dead,.row 54 82 (r16.aZ.bn.map aF.lf),.row 3 1 (r16.aZ.fNext.map lfI),.row 65 9 (r16.dY.map aG.lf)],.order [(true,0),(true,1),(true,2),(true,3),(true,4),(true,5),(true,6),(true,7),(true,8),(true,9),(true,10),(true,11),(false,12),(true,13),(false,14)] (some 14) [2],.at_ 0 0,.frz 9,.frz 10,.frz 11] (ok1 (aop _ _ _ h8))<|
 .ret (aY 3) (r16.aZ,r16.dY,r16.gW))<|
 .cH [] (rY p_m) fun r17 _=>
 .ask (abV) fun r18 h9=>
 .say [.res (.dat (fK.lf1 r18)),.at_ 0 0,.frz 4,.frz 5,.frz 6] (ok1 (zy  _ h9))<|
 .ret ⟨[.nil 1 9,.tod 1],[0,1,2],[],0⟩ (r17,[],r18)
def awp(p_m:aB)(p_x:aG):Option (aB×(List aG)×fK):=Mo.den (asU p_m p_x)
theorem aoq(p_m:aB)(p_x:aG):FV (awp p_m p_x) 12 [.dat (aB.lf1 p_m),.dat (aG.lf1 p_x)] (fun r=>.tup [.dat (aB.lf1 r.1),.lf (.rows 9 (r.2.1.map aG.lf)),.dat (fK.lf1 r.2.2)]):=cO Tryz.func12
def kD(p_s:ByteArray):Mo (Bool):=
 .oV 4003 (decide (((p_s.size:Int):Int)<1)) [0,11] 0 (decide ((32:Int)<(p_s.size:Int)))
def kE(p_s:ByteArray)(r0:Bool):Mo (Bool):=
 .iG 4008 (r0) (.rt [0,16] 0 (true))<|
 .ask (lS p_s 0) fun b0 h0=>
 .say [.byt b0] (ok1 (iy h0))<|
 .rt [0,16] 0 ((b0.toNat:Int)==36)
def kF(p_s:ByteArray)(v0:Int):Mo (Bool):=
 .ask (lS p_s v0) fun b0 h0=>
 .say [.byt b0] (ok1 (iy h0))<|
 .iG 14004 (decide (((b0.toNat:Int):Int)<33)) (.rt [0,3,18,19,31] 0 (true))<|
 .ask (lS p_s v0) fun b1 h1=>
 .say [.byt b1] (ok1 (iy h1))<|
 .rt [0,3,18,19,31] 0 (decide ((126:Int)<(b1.toNat:Int)))
def kG(p_s:ByteArray)(r0:Bool)(v0:Int):Mo (Bool):=
 .iG 14010 (r0) (.rt [0,18,19,37] 0 (true))<|
 .ask (lS p_s v0) fun b0 h0=>
 .say [.byt b0] (ok1 (iy h0))<|
 .rt [0,18,19,37] 0 ((b0.toNat:Int)==46)
def OG(p_s:ByteArray):(Int)→Mo ((Int)⊕(Unit⊕Unit)):=fun(v0)=>
 .iB (decide ((v0:Int)<(p_s.size:Int))) (.sf Tryz.f35 0 [1,1,0,1,0,0,1,1,0,0,1,0] 0 10 6 [(0,.lf (.str p_s)),(3,.i_ v0),(18,.i_ (p_s.size:Int)),(19,.i_ v0)] [] 31 (kF p_s v0) fun r0=>
 .sk Tryz.f35 0 [1,1,0,1,0,0,1,1,0,0,1,0] 10 6 6 (fun r_=>⟨[(0,.lf (.str p_s)),(18,.i_ (p_s.size:Int)),(19,.i_ v0),(37,.b_ r_)],[]⟩) ⟨[(0,.lf (.str p_s)),(3,.i_ v0),(18,.i_ (p_s.size:Int)),(19,.i_ v0),(31,.b_ r0)],[]⟩ (kG p_s r0 v0) fun r1=>
 .iB (r1) (.rt [2] 0 (.inr (.inl ())))<|
 .rt [0,18,19] 0 (.inl (IntKind.wrap .i64 (v0+1))))<|
 .rt [] 0 (.inr (.inr (())))
def aqP(p_s:ByteArray):Mo (Bool):=
 .sf Tryz.f35 0 [1,0,0] 0 8 1 [(0,.lf (.str p_s))] [] 11 (kD p_s) fun r0=>
 .sb Tryz.f35 0 [1,0,0] 8 5 1 [(0,.lf (.str p_s))] [] 11 16 r0 (kE p_s r0) fun r1=>
 .iB (r1) (.ret (aY 1) (false))<|
 .l2 Tryz.f35 0 [1,1,0,1,0] 0 (fun(v0)=>⟨[(0,.lf (.str p_s)),(18,.i_ (p_s.size:Int)),(19,.i_ v0)],[]⟩) .ret (fun _=>⟨[(2,.b_ false)],[]⟩) (.exit 0) (fun _=>⟨[],[]⟩) (OG p_s) (0) (fun o0=>
 .ret (aY 1) (false)) fun o1=>
 .ret (aY 1) (true)
def Q16(p_s:ByteArray):Option (Bool):=Mo.den (aqP p_s)
theorem U8(p_s:ByteArray):FV (Q16 p_s) 35 [.lf (.str p_s)] .b_:=cO Tryz.func35
end
end Go.Proofs.YtbdcaeahocbkbaaGreatDoor
