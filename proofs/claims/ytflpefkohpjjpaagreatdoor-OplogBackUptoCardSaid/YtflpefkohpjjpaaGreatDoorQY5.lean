/- Printed by dec.py. -/
import Derived.Test.YtflpefkohpjjpaaGreatDoorQYManP
set_option linter.unusedSimpArgs false
set_option linter.unusedVariables false
namespace Go.Proofs.YtflpefkohpjjpaaGreatDoor
open Go.RowKit
set_option maxRecDepth 20000
set_option maxHeartbeats 4000000
noncomputable section
abbrev eU(p:aT):Slot:=.box 240 (.dat (aT.lf1 p))
abbrev bK(p:ah):Slot:=.box 25 (.dat (ah.lf1 p))
abbrev jd(p:aI):Slot:=.box 31 (.dat (aI.lf1 p))
abbrev qI(p:bY):Slot:=.box 33 (.dat (bY.lf1 p))
abbrev WT(p:dZ):Slot:=.box 37 (.dat (dZ.lf1 p))
abbrev fP(p:aS):Slot:=.box 40 (.dat (aS.lf1 p))
abbrev eG(p:aO):Slot:=.box 43 (.dat (aO.lf1 p))
abbrev tN(p:aQ):Slot:=.box 45 (.dat (aQ.lf1 p))
abbrev fA(p:au):Slot:=.box 49 (.dat (au.lf1 p))
abbrev xR(p:bW):Slot:=.box 51 (.dat (bW.lf1 p))
abbrev dV(p:aK):Slot:=.box 80 (.dat (aK.lf1 p))
abbrev bG(p:aj):Slot:=.box 84 (.dat (aj.lf1 p))
def nO(p_ok:Bool)(p_err:Int):Mo (Unit):=
 .say [.br false] ok0<|
 .ite (!p_ok) (fun c9=>
 .stop) fun c9=>
 .say [] (ok1 c9)<|
 .ret (bn 0) ()
def Q21(p_ok:Bool)(p_err:Int):Option (Unit):=Mo.den (nO p_ok p_err)
theorem oM(p_ok:Bool)(p_err:Int):FV (Q21 p_ok p_err) 283 [.b_ p_ok,.i_ p_err] (fun _=>.tup []):=dL Tryz.func283
def ai9(p_n:Int)(p_b0:aT):Mo (ByteArray×aT):=
 .say [.order [(true,0),(true,1),(true,2),(true,3),(true,4),(true,5),(true,6),(true,7),(true,8),(true,9),(true,10),(true,11),(false,12)] (some 12) [],.res (.tup []),.order [(true,0),(true,1),(true,2),(true,3),(true,4),(true,5),(true,6),(true,7),(true,8),(true,9),(true,10),(true,11),(true,12),(true,13),(true,14),(true,15)] none []] ok0<|
 .ask (Q21 (decide ((p_n:Int)≤(IntKind.wrap .i64 ((p_b0.fs.size:Int)-p_b0.fat)))) 5) fun r0 h0=>
 .say [] (ok1 (oM _ _ _ h0))<|
 .grd ((0:Int)≤(IntKind.wrap .i64 ((IntKind.wrap .i64 (p_b0.fat+p_n))-p_n))∧(IntKind.wrap .i64 ((IntKind.wrap .i64 (p_b0.fat+p_n))-p_n))≤(IntKind.wrap .i64 (p_b0.fat+p_n))∧(IntKind.wrap .i64 (p_b0.fat+p_n))≤(p_b0.fs.size:Int)) fun h1=>
 .say [] (ok1 h1)<|
 .rt [0] 1 (p_b0.fs.extract (IntKind.wrap .i64 ((IntKind.wrap .i64 (p_b0.fat+p_n))-p_n)).toNat (IntKind.wrap .i64 (p_b0.fat+p_n)).toNat,aT.mk p_b0.fs (IntKind.wrap .i64 (p_b0.fat+p_n)) p_b0.Fp)
def Q90(p_n:Int)(p_b0:aT):Option (ByteArray×aT):=Mo.den (ai9 p_n p_b0)
theorem FQ(p_n:Int)(p_b0:aT):FH (Q90 p_n p_b0) 284 [.ptr 0 0,.i_ p_n] [eU p_b0] (fun r=>.lf (.str r.1)) (fun r=>[eU r.2]):=dQ Tryz.func284
def FT(p_at:Int)(p_s:ByteArray):Mo (Bool):=
 .oV 4002 (decide ((p_at:Int)<0)) [0,1,17] 0 (decide (((p_s.size:Int):Int)<p_at))
def zG(b0:UInt8)(p_at:Int)(p_s:ByteArray)(v0:Int)(v1:Int):Mo (Bool):=
 .aV 20002 (v1==9) [0,1,7,8,9,36] 0 (decide ((1:Int)<(b0.toNat:Int)))
def wK(b0:UInt8)(p_at:Int)(p_s:ByteArray)(r0:Bool)(v0:Int)(v1:Int):Mo (Bool):=
 .iG 20006 (r0) (.rt [0,1,7,8,9,44] 0 (true))<|
 .aV 20009 (decide ((0:Int)<v1)) [0,1,7,8,9,44] 0 ((b0.toNat:Int)==0)
def pI(p_at:Int)(p_s:ByteArray):(Int×Int)→Mo ((Int×Int)⊕(Int×Int×Int)):=fun(v0,v1)=>
 .iB ((IntKind.wrap .i64 (p_at+v1))==(p_s.size:Int)) (.rt [4,5,6] 0 (.inr (0,0,5)))<|
 .ask (jK p_s (IntKind.wrap .i64 (p_at+v1))) fun b0 h0=>
 .say [.byt b0] (ok1 (fC h0))<|
 .sf Tryz.f86 0 [1,1,1,1,0,0,0,0,1,1,0,0] 0 6 9 [(0,.lf (.str p_s)),(1,.i_ p_at),(7,.lf (.int .u64 v0)),(8,.i_ v1),(9,.lf (.int .u8 (b0.toNat:Int)))] [] 36 (zG b0 p_at p_s v0 v1) fun r0=>
 .sb Tryz.f86 0 [1,1,1,1,0,0,0,0,1,1,0,0] 6 8 9 [(0,.lf (.str p_s)),(1,.i_ p_at),(7,.lf (.int .u64 v0)),(8,.i_ v1),(9,.lf (.int .u8 (b0.toNat:Int)))] [] 36 44 r0 (wK b0 p_at p_s r0 v0 v1) fun r1=>
 .iB (r1) (.rt [4,5,6] 0 (.inr (0,0,4)))<|
 .grd ((0:Int)≤(IntKind.wrap .i64 (7*v1))) fun h1=>
 .say [] (ok1 h1)<|
 .iB (decide (((b0.toNat:Int):Int)<128)) (.say [] (ok1 (by decide:(0:Int)≤1))<|
 .rt [4,5,6] 0 (.inr (dU .xor .i64 (IntKind.wrap .i64 (tX .u64 (dU .or .u64 v0 (zf .u64 (IntKind.wrap .u64 (dU .and .u8 (b0.toNat:Int) 127)) (IntKind.wrap .i64 (7*v1)))) 1)) (IntKind.wrap .i64 (0-(IntKind.wrap .i64 (dU .and .u64 (dU .or .u64 v0 (zf .u64 (IntKind.wrap .u64 (dU .and .u8 (b0.toNat:Int) 127)) (IntKind.wrap .i64 (7*v1)))) 1)))),IntKind.wrap .i64 ((IntKind.wrap .i64 (p_at+v1))+1),0)))<|
 .rt [0,1,7,8] 0 (.inl (dU .or .u64 v0 (zf .u64 (IntKind.wrap .u64 (dU .and .u8 (b0.toNat:Int) 127)) (IntKind.wrap .i64 (7*v1))),IntKind.wrap .i64 (v1+1)))
def zH(p_at:Int)(p_s:ByteArray)(v0:Int)(v1:Int):Option ((Int×Int×Int)):=dM (fun v_=>(pI p_at p_s v_).den) FU (v0,v1)
def abC(p_s:ByteArray)(p_at:Int):Mo (Int×Int×Int):=
 .jk Tryz.f86 0 [1,0,0] 9 (fun r_=>⟨[(0,.lf (.str p_s)),(1,.i_ p_at),(17,.b_ r_)],[]⟩) ⟨[(0,.lf (.str p_s)),(1,.i_ p_at)],[]⟩ (FT p_at p_s) fun r0=>
 .iB (r0) (.ret (bn 3) (0,0,1))<|
 .l1m [] Tryz.f86 0 [1,1,1,1,0] 0 .ret (fun(v0,v1)=>⟨[(0,.lf (.str p_s)),(1,.i_ p_at),(7,.lf (.int .u64 v0)),(8,.i_ v1)],[]⟩) (fun r_=>⟨[(4,.i_ r_.1),(5,.i_ r_.2.1),(6,.i_ r_.2.2)],[]⟩) (zH p_at p_s 0 0) (pI p_at p_s) (0,0) fun r1=>
 .ret (bn 3) (r1.1,r1.2.1,r1.2.2)
def Q20(p_s:ByteArray)(p_at:Int):Option (Int×Int×Int):=Mo.den (abC p_s p_at)
theorem akt(p_s:ByteArray)(p_at:Int):FV (Q20 p_s p_at) 86 [.lf (.str p_s),.i_ p_at] (fun r=>.tup [.i_ r.1,.i_ r.2.1,.i_ r.2.2]):=dL Tryz.func86
def abD(p_b0:aT):Mo (Int×aT):=
 .ask (Q20 p_b0.fs p_b0.fat) fun r0 h0=>
 .say [.kC (.q 0 (.q 1 (.q 2 (.q 3 (.q 4 (.q 5 (.q 6 (.q 7 (.l 8 (.q 9 (.q 10 (.q 11 (.q 12 (.q 13 (.q 14 (.q 15 .fin)))))))))))))))) (some 8) [] [.res (.tup [.i_ r0.1,.i_ r0.2.1,.i_ r0.2.2])] [0,3,4,5] 1 [(0,.ptr 0 0),(3,.i_ r0.1),(4,.i_ r0.2.1),(5,.i_ r0.2.2)] [eU p_b0],.res (.tup [])] (okc (akt _ _ _ h0) (ok1 (rf_ ⟨[(0,.ptr 0 0),(3,.i_ r0.1),(4,.i_ r0.2.1),(5,.i_ r0.2.2)],[eU p_b0]⟩)))<|
 .ask (Q21 (r0.2.2==0) r0.2.2) fun r1 h1=>
 .say [] (ok1 (oM _ _ _ h1))<|
 .rt [0] 1 (r0.1,aT.mk p_b0.fs r0.2.1 p_b0.Fp)
def abE(p_b0:aT):Option (Int×aT):=Mo.den (abD p_b0)
theorem Nj(p_b0:aT):FH (abE p_b0) 285 [.ptr 0 0] [eU p_b0] (fun r=>.i_ r.1) (fun r=>[eU r.2]):=dQ Tryz.func285
def aja(p_b0:aT):Mo (Int×aT):=
 .ask (abE p_b0) fun r0 h0=>
 .say [.gy [0] (.i_ r0.1) [eU r0.2],.res (.tup [])] (ok1 (Nj _ _ h0))<|
 .ask (Q21 (decide ((0:Int)≤r0.1)) 4) fun r1 h1=>
 .say [] (ok1 (oM _ _ _ h1))<|
 .rt [0] 1 (r0.1,r0.2)
def Q93(p_b0:aT):Option (Int×aT):=Mo.den (aja p_b0)
theorem Nk(p_b0:aT):FH (Q93 p_b0) 286 [.ptr 0 0] [eU p_b0] (fun r=>.i_ r.1) (fun r=>[eU r.2]):=dQ Tryz.func286
def abG(p_b0:aT):Mo (ByteArray×aT):=
 .ask (Q93 p_b0) fun r0 h0=>
 .say [.gy [0] (.i_ r0.1) [eU r0.2],.res (.tup [])] (ok1 (Nk _ _ h0))<|
 .ask (Q21 (decide ((r0.1:Int)≤4096)) 2) fun r1 h1=>
 .say [] (ok1 (oM _ _ _ h1))<|
 .cH [0] (FQ r0.1 r0.2) fun r2 _=>
 .rt [0] 1 (r2.1,r2.2)
def agv(p_b0:aT):Option (ByteArray×aT):=Mo.den (abG p_b0)
theorem WU(p_b0:aT):FH (agv p_b0) 287 [.ptr 0 0] [eU p_b0] (fun r=>.lf (.str r.1)) (fun r=>[eU r.2]):=dQ Tryz.func287
def Qu(p_s:ByteArray)(v0:Int):Mo (Bool):=
 .ask (jK p_s v0) fun b0 h0=>
 .say [.byt b0] (ok1 (fC h0))<|
 .iG 10004 (decide (((b0.toNat:Int):Int)<33)) (.rt [0,3,5,6,18] 0 (true))<|
 .ask (jK p_s v0) fun b1 h1=>
 .say [.byt b1] (ok1 (fC h1))<|
 .rt [0,3,5,6,18] 0 (decide ((126:Int)<(b1.toNat:Int)))
def Qv(p_s:ByteArray)(r0:Bool)(v0:Int):Mo (Bool):=
 .iG 10010 (r0) (.rt [0,5,6,24] 0 (true))<|
 .ask (jK p_s v0) fun b0 h0=>
 .say [.byt b0] (ok1 (fC h0))<|
 .rt [0,5,6,24] 0 ((b0.toNat:Int)==46)
def wL(p_s:ByteArray):(Int)→Mo ((Int)⊕(Unit⊕Unit)):=fun(v0)=>
 .iB (decide ((v0:Int)<(p_s.size:Int))) (.sf Tryz.f328 0 [1,0,1,0,0,1,1,0,0,1,0] 0 10 4 [(0,.lf (.str p_s)),(3,.i_ v0),(5,.i_ (p_s.size:Int)),(6,.i_ v0)] [] 18 (Qu p_s v0) fun r0=>
 .sk Tryz.f328 0 [1,0,1,0,0,1,1,0,0,1,0] 10 6 4 (fun r_=>⟨[(0,.lf (.str p_s)),(5,.i_ (p_s.size:Int)),(6,.i_ v0),(24,.b_ r_)],[]⟩) ⟨[(0,.lf (.str p_s)),(3,.i_ v0),(5,.i_ (p_s.size:Int)),(6,.i_ v0),(18,.b_ r0)],[]⟩ (Qv p_s r0 v0) fun r1=>
 .iB (r1) (.rt [2] 0 (.inr (.inl ())))<|
 .rt [0,5,6] 0 (.inl (IntKind.wrap .i64 (v0+1))))<|
 .rt [0] 0 (.inr (.inr (())))
def WV(p_s:ByteArray)(v0:Int):Option (Unit⊕Unit):=dM (fun v_=>(wL p_s v_).den) FU (v0)
def ajb(p_s:ByteArray):Mo (Bool):=
 .l2m [] Tryz.f328 0 [1,0,1,0] 0 (fun(v0)=>⟨[(0,.lf (.str p_s)),(5,.i_ (p_s.size:Int)),(6,.i_ v0)],[]⟩) .ret (fun _=>⟨[(2,.b_ false)],[]⟩) (.exit 0) (fun _=>⟨[(0,.lf (.str p_s))],[]⟩) (WV p_s 0) (wL p_s) (0) (fun o0=>
 .ret (bn 1) (false)) fun o1=>
 .ask (jK p_s 0) fun b0 h0=>
 .say [.byt b0] (ok1 (fC h0))<|
 .ret (bn 1) ((b0.toNat:Int) != 36)
def Q71(p_s:ByteArray):Option (Bool):=Mo.den (ajb p_s)
theorem aku(p_s:ByteArray):FV (Q71 p_s) 328 [.lf (.str p_s)] .b_:=dL Tryz.func328
abbrev UC(m:Int→aT→Option (ah×aT)):Prop:=∀p_level p_b0,FH (m p_level p_b0) 223 [.ptr 0 0,.i_ p_level] [eU p_b0] (fun r=>.dat (ah.lf1 r.1)) (fun r=>[eU r.2])
abbrev abH(m:Int→aT→Option ((List aJ)×aT)):Prop:=∀p_level p_b0,FH (m p_level p_b0) 288 [.ptr 0 0,.i_ p_level] [eU p_b0] (fun r=>.lf (.rows 6 (r.1.map aJ.lf))) (fun r=>[eU r.2])
structure RB0 where
 m1:(p_level:Int)→(p_b0:aT)→Option (ah×aT)
 ok1:UC m1
 m2:(p_level:Int)→(p_b0:aT)→Option ((List aJ)×aT)
 ok2:abH m2
def WW(R_:RB0)(p_b0:aT)(p_level:Int):Mo (Unit):=
 .iG 4002 (decide ((p_level:Int)≤16)) (.say [.res (.tup [])] ok0<|
 .ask (Q21 (decide ((p_b0.Fp:Int)<1024)) 2) fun r0 h0=>
 .say [] (ok1 (oM _ _ _ h0))<|
 .rt [0,1,4] 2 ())<|
 .say [.res (.tup [])] ok0<|
 .ask (Q21 false 2) fun r1 h1=>
 .say [] (ok1 (oM _ _ _ h1))<|
 .rt [0,1,4] 2 ()
def lV(R_:RB0)(b0:UInt8)(p_level:Int)(r0:ByteArray×aT):Mo (Bool):=
 .iB ((IntKind.wrap .i64 (b0.toNat:Int))==1) (.rt [0,1,4,5,29,32] 4 ((IntKind.wrap .i64 (b0.toNat:Int))==1))<|
 .iB ((IntKind.wrap .i64 (b0.toNat:Int))==2) (.rt [0,1,4,5,29,32] 4 ((IntKind.wrap .i64 (b0.toNat:Int))==2))<|
 .rt [0,1,4,5,29,32] 4 ((IntKind.wrap .i64 (b0.toNat:Int))==11)
def zI(R_:RB0)(b0:UInt8)(p_level:Int)(r0:Int×aT):(Int×aT×(List ah))→Mo ((Int×aT×(List ah))⊕(aT×(List ah))):=fun(v0,s354,l0)=>
 .iB (decide ((v0:Int)<r0.1)) (.ask (R_.m1 (IntKind.wrap .i64 (p_level+1)) s354) fun r1 h0=>
 .say [.kC (.q 0 (.q 2 (.q 3 (.q 4 (.alt 1 (.l 5 (.l 6 (.l 7 (.q 8 (.l 9 .fin))))) (.l 5 (.alt 1 (.l 6 (.l 7 (.q 8 (.l 9 .fin)))) (.l 6 (.l 1 (.l 7 (.q 8 (.l 9 .fin)))))))))))) (some 9) [0,3,4,5] [.both [.at_ 54 1,.resv 2,.gy [0] (.dat (ah.lf1 r1.1)) [eU r1.2],.slot 4,.rows ((l0++[r1.1]).map ah.lf),.slot 5] [.at_ 54 5,.resv 2,.gy [0] (.dat (ah.lf1 r1.1)) [eU r1.2],.both [.slot 4,.rows ((l0++[r1.1]).map ah.lf),.slot 5] [.slot 4,.rows ((l0++[r1.1]).map ah.lf),.slot 5]]] [0,1,4,5,79,80] 6 [(0,.ptr 0 0),(1,.i_ p_level),(4,.ptr 1 0),(5,.ptr 2 0),(79,.i_ r0.1),(80,.i_ v0)] [eU r1.2,.box 25 (.agg [.i_ 0,.i_ 0,.lf (.str ⟨#[]⟩),.bU 5,.bU 6]),.box 25 (.agg [.i_ (IntKind.wrap .i64 (b0.toNat:Int)),.i_ 0,.lf (.str ⟨#[]⟩),.own 5,.bU 6]),.dead,.row 25 5 [(ah.lf1 r1.1)],.row 25 5 ((l0++[r1.1]).map ah.lf)]] (okc (R_.ok1 _ _ _ h0) (ok1 (ap_ ah.aW l0 r1.1)))<|
 .grd ((l0.length+[r1.1].length)*80≤140737488355328) fun h1=>
 .say [] (okc (cp_ ah.lf h1) (okc (rf_ ⟨[(0,.ptr 0 0),(1,.i_ p_level),(4,.ptr 1 0),(5,.ptr 2 0),(79,.i_ r0.1),(80,.i_ v0)],[eU r1.2,.box 25 (.agg [.i_ 0,.i_ 0,.lf (.str ⟨#[]⟩),.bU 5,.bU 6]),.box 25 (.agg [.i_ (IntKind.wrap .i64 (b0.toNat:Int)),.i_ 0,.lf (.str ⟨#[]⟩),.own 5,.bU 6]),.dead,.row 25 5 [(ah.lf1 r1.1)],.row 25 5 ((l0++[r1.1]).map ah.lf)]⟩) (okc (R_.ok1 _ _ _ h0) (okc (ap_ ah.aW l0 r1.1) (okc (cp_ ah.lf h1) (okc (rf_ ⟨[(0,.ptr 0 0),(1,.i_ p_level),(4,.ptr 1 0),(5,.ptr 2 0),(79,.i_ r0.1),(80,.i_ v0)],[eU r1.2,.box 25 (.agg [.i_ 0,.i_ 0,.lf (.str ⟨#[]⟩),.bU 5,.bU 6]),.box 25 (.agg [.i_ (IntKind.wrap .i64 (b0.toNat:Int)),.i_ 0,.lf (.str ⟨#[]⟩),.own 5,.bU 6]),.dead,.row 25 5 [(ah.lf1 r1.1)],.row 25 5 ((l0++[r1.1]).map ah.lf)]⟩) (okc (ap_ ah.aW l0 r1.1) (okc (cp_ ah.lf h1) (ok1 (rf_ ⟨[(0,.ptr 0 0),(1,.i_ p_level),(4,.ptr 1 0),(5,.ptr 2 0),(79,.i_ r0.1),(80,.i_ v0)],[eU r1.2,.box 25 (.agg [.i_ 0,.i_ 0,.lf (.str ⟨#[]⟩),.bU 5,.bU 6]),.box 25 (.agg [.i_ (IntKind.wrap .i64 (b0.toNat:Int)),.i_ 0,.lf (.str ⟨#[]⟩),.own 5,.bU 6]),.dead,.row 25 5 [(ah.lf1 r1.1)],.row 25 5 ((l0++[r1.1]).map ah.lf)]⟩))))))))))<|
 .ret ⟨[],[0,1,4,5,79,80],[(5,3)],4⟩ (.inl (IntKind.wrap .i64 (v0+1),r1.2,l0++[r1.1])))<|
 .rt [4,5] 4 (.inr (s354,l0))
def abI(R_:RB0)(b0:UInt8)(p_level:Int)(r0:Int×aT)(v0:Int)(s354:aT)(l0:List ah):Option ((aT×(List ah))):=dM (fun v_=>(zI R_ b0 p_level r0 v_).den) FU (v0,s354,l0)
def jS(R_:RB0)(b0:UInt8)(p_level:Int)(r0:ByteArray×aT):Mo ((aT×ah)):=
 .jk Tryz.f223 1 [1,1,1,1,0,1,0,0,1] 1 (fun r_=>⟨[(0,.ptr 0 0),(1,.i_ p_level),(4,.ptr 1 0),(5,.ptr 2 0),(29,.i_ (IntKind.wrap .i64 (b0.toNat:Int))),(32,.b_ r_)],[eU r0.2,.box 25 (.agg [.i_ 0,.i_ 0,.lf (.str ⟨#[]⟩),.bU 5,.bU 6]),.box 25 (.agg [.i_ (IntKind.wrap .i64 (b0.toNat:Int)),.i_ 0,.lf (.str ⟨#[]⟩),.own 3,.bU 6]),.row 25 5 []]⟩) ⟨[(0,.ptr 0 0),(1,.i_ p_level),(4,.ptr 1 0),(5,.ptr 2 0),(29,.i_ (IntKind.wrap .i64 (b0.toNat:Int))),(32,.lf (.bool ((IntKind.wrap .i64 (b0.toNat:Int))==1)))],[eU r0.2,.box 25 (.agg [.i_ 0,.i_ 0,.lf (.str ⟨#[]⟩),.bU 5,.bU 6]),.box 25 (.agg [.i_ (IntKind.wrap .i64 (b0.toNat:Int)),.i_ 0,.lf (.str ⟨#[]⟩),.own 3,.bU 6]),.row 25 5 []]⟩ (lV R_ b0 p_level r0) fun r1=>
 .iB (r1) (.say [] (ok1 (by simp[ah.aW]:([]:List ah).map ah.lf=[]))<|
 .ret ⟨[.uy 3 (([]:List ah).map ah.lf),.norm 2],[4,5],[],4⟩ (r0.2,ah.mk (IntKind.wrap .i64 (b0.toNat:Int)) 0 ⟨#[]⟩ ([]:List ah) []))<|
 .iB ((IntKind.wrap .i64 (b0.toNat:Int))==3) (.ask (abE r0.2) fun r2 h0=>
 .say [.gy [0] (.i_ r2.1) [eU r2.2]] (okc (Nj _ _ h0) (ok1 (by simp[ah.aW]:([]:List ah).map ah.lf=[])))<|
 .ret ⟨[.uy 3 (([]:List ah).map ah.lf),.norm 2],[4,5],[],4⟩ (r2.2,ah.mk (IntKind.wrap .i64 (b0.toNat:Int)) r2.1 ⟨#[]⟩ ([]:List ah) []))<|
 .iB ((IntKind.wrap .i64 (b0.toNat:Int))==10) (.ask (Q93 r0.2) fun r3 h1=>
 .say [.gy [0] (.i_ r3.1) [eU r3.2]] (okc (Nk _ _ h1) (ok1 (by simp[ah.aW]:([]:List ah).map ah.lf=[])))<|
 .ret ⟨[.uy 3 (([]:List ah).map ah.lf),.norm 2],[4,5],[],4⟩ (r3.2,ah.mk (IntKind.wrap .i64 (b0.toNat:Int)) r3.1 ⟨#[]⟩ ([]:List ah) []))<|
 .iB ((IntKind.wrap .i64 (b0.toNat:Int))==9) (.cH [0] (FQ 1 r0.2) fun r4 _=>
 .ask (jK r4.1 0) fun b1 h2=>
 .say [.byt b1,.res (.tup [])] (ok1 (fC h2))<|
 .ask (Q21 (decide ((IntKind.wrap .i64 (b1.toNat:Int):Int)≤1)) 4) fun r5 h3=>
 .say [] (okc (oM _ _ _ h3) (ok1 (by simp[ah.aW]:([]:List ah).map ah.lf=[])))<|
 .ret ⟨[.uy 3 (([]:List ah).map ah.lf),.norm 2],[4,5],[],4⟩ (r4.2,ah.mk (IntKind.wrap .i64 (b0.toNat:Int)) (IntKind.wrap .i64 (b1.toNat:Int)) ⟨#[]⟩ ([]:List ah) []))<|
 .iB ((IntKind.wrap .i64 (b0.toNat:Int))==4) (.cH [0] (WU r0.2) fun r6 _=>
 .ask (agq r6.1) fun r7 h4=>
 .say [.res (.b_ r7),.res (.tup [])] (ok1 (WR _ _ h4))<|
 .ask (Q21 r7 4) fun r8 h5=>
 .say [] (okc (oM _ _ _ h5) (ok1 (by simp[ah.aW]:([]:List ah).map ah.lf=[])))<|
 .ret ⟨[.uy 3 (([]:List ah).map ah.lf),.norm 2],[4,5],[],4⟩ (r6.2,ah.mk (IntKind.wrap .i64 (b0.toNat:Int)) 0 r6.1 ([]:List ah) []))<|
 .iB ((IntKind.wrap .i64 (b0.toNat:Int))==7) (.ask (agv r0.2) fun r9 h6=>
 .say [.gy [0] (.lf (.str r9.1)) [eU r9.2]] (okc (WU _ _ h6) (ok1 (by simp[ah.aW]:([]:List ah).map ah.lf=[])))<|
 .ret ⟨[.uy 3 (([]:List ah).map ah.lf),.norm 2],[4,5],[],4⟩ (r9.2,ah.mk (IntKind.wrap .i64 (b0.toNat:Int)) 0 r9.1 ([]:List ah) []))<|
 .iB ((IntKind.wrap .i64 (b0.toNat:Int))==8) (.ask (Q90 12 r0.2) fun r10 h7=>
 .say [.gy [0] (.lf (.str r10.1)) [eU r10.2]] (okc (FQ _ _ _ h7) (ok1 (by simp[ah.aW]:([]:List ah).map ah.lf=[])))<|
 .ret ⟨[.uy 3 (([]:List ah).map ah.lf),.norm 2],[4,5],[],4⟩ (r10.2,ah.mk (IntKind.wrap .i64 (b0.toNat:Int)) 0 r10.1 ([]:List ah) []))<|
 .iB ((IntKind.wrap .i64 (b0.toNat:Int))==6) (.ask (Q93 r0.2) fun r11 h8=>
 .say [.gy [0] (.i_ r11.1) [eU r11.2]] (okc (Nk _ _ h8) (ok1 (by simp[ah.aW]:(([]:List ah).map ah.lf)=[])))<|
 .l1m [.kU 3 (([]:List ah).map ah.lf)] Tryz.f223 1 [1,1,1,1,0,1,0,1,1,1,1,1,1,1,1,1,1,1,1,1,1,1,0,1,0] 0 (.exit 1) (fun(v0,s354,l0)=>⟨[(0,.ptr 0 0),(1,.i_ p_level),(4,.ptr 1 0),(5,.ptr 2 0),(79,.i_ r11.1),(80,.i_ v0)],[eU s354,.box 25 (.agg [.i_ 0,.i_ 0,.lf (.str ⟨#[]⟩),.bU 5,.bU 6]),.box 25 (.agg [.i_ (IntKind.wrap .i64 (b0.toNat:Int)),.i_ 0,.lf (.str ⟨#[]⟩),.own 3,.bU 6]),.row 25 5 (l0.map ah.lf)]⟩) (fun r_=>⟨[(4,.ptr 1 0),(5,.ptr 2 0)],[eU r_.1,.box 25 (.agg [.i_ 0,.i_ 0,.lf (.str ⟨#[]⟩),.bU 5,.bU 6]),.box 25 (.agg [.i_ (IntKind.wrap .i64 (b0.toNat:Int)),.i_ 0,.lf (.str ⟨#[]⟩),.own 3,.bU 6]),.row 25 5 (r_.2.map ah.lf)]⟩) (abI R_ b0 p_level r11 0 r11.2 ([]:List ah)) (zI R_ b0 p_level r11) (0,r11.2,([]:List ah)) fun r12=>
 .ret ⟨[.frz 3,.norm 2],[4,5],[],4⟩ (r12.1,ah.mk (IntKind.wrap .i64 (b0.toNat:Int)) 0 ⟨#[]⟩ r12.2 []))<|
 .say [.br true] ok0<|
 .ite ((IntKind.wrap .i64 (b0.toNat:Int))==5) (fun c0=>
 .say [] (ok1 c0)<|
 .ask (R_.m2 (IntKind.wrap .i64 (p_level+1)) r0.2) fun r13 h9=>
 .say [.gy [0] (.lf (.rows 6 (r13.1.map aJ.lf))) [eU r13.2]] (okc (R_.ok2 _ _ _ h9) (ok1 (by simp[ah.aW]:([]:List ah).map ah.lf=[])))<|
 .ret ⟨[.uy 3 (([]:List ah).map ah.lf),.norm 2],[4,5],[],4⟩ (r13.2,ah.mk (IntKind.wrap .i64 (b0.toNat:Int)) 0 ⟨#[]⟩ ([]:List ah) r13.1)) fun c0=>
 .stop
def mZ(R_:RB0)(b0:UInt8)(p_level:Int)(r0:ByteArray×aT):Option ((aT×ah)):=Mo.den (jS R_ b0 p_level r0)
def zJ  (r_:(aT×ah)):St:=⟨[(4,.ptr 1 0),(5,.ptr 2 0)],[eU r_.1,.box 25 (.agg [.i_ 0,.i_ 0,.lf (.str ⟨#[]⟩),.bU 5,.bU 6]),bK r_.2,.dead]⟩
theorem abJ{R_:RB0}{b0:UInt8}{p_level:Int}{r0:ByteArray×aT}{r_:(aT×ah)}(h:mZ R_ b0 p_level r0=some r_):Ql Tryz.f223 1 [1,1,1,1,0,1] (.normal) (zJ r_) ⟨[(0,.ptr 0 0),(1,.i_ p_level),(4,.ptr 1 0),(5,.ptr 2 0),(29,.i_ (IntKind.wrap .i64 (b0.toNat:Int)))],[eU r0.2,.box 25 (.agg [.i_ 0,.i_ 0,.lf (.str ⟨#[]⟩),.bU 5,.bU 6]),.box 25 (.agg [.i_ (IntKind.wrap .i64 (b0.toNat:Int)),.i_ 0,.lf (.str ⟨#[]⟩),.own 3,.bU 6]),.row 25 5 []]⟩:=
 BN nN (jS R_ b0 p_level r0) (fun _=>.normal) zJ (by kernel_rfl) h
def YP(R_:RB0)(p_level:Int)(p_b0:aT):Mo (ah×aT):=
 .jk Tryz.f223 1 [1,0] 9 (fun r_=>⟨[(0,.ptr 0 0),(1,.i_ p_level),(4,.ptr 1 0)],[eU p_b0,.box 25 (.agg [.i_ 0,.i_ 0,.lf (.str ⟨#[]⟩),.bU 5,.bU 6])]⟩) ⟨[(0,.ptr 0 0),(1,.i_ p_level),(4,.ptr 1 0)],[eU p_b0,.box 25 (.agg [.i_ 0,.i_ 0,.lf (.str ⟨#[]⟩),.bU 5,.bU 6])]⟩ (WW R_ p_b0 p_level) fun r0=>
 .cH [0] (FQ 1 (aT.mk p_b0.fs p_b0.fat (IntKind.wrap .i64 (p_b0.Fp+1)))) fun r1 _=>
 .ask (jK r1.1 0) fun b0 h0=>
 .say [.byt b0] (ok1 (fC h0))<|
 .ask (mZ R_ b0 p_level r1) fun r2 h1=>
 .say [.part [.afL 2 3 25] 6 [0,1,4,5,29] 4 (.normal) (zJ r2).T (zJ r2).H] (ok1 (abJ h1))<|
 .ret ⟨[.kill 1,.kill 2],[0],[],1⟩ (r2.2,r2.1)
theorem akv(R_:RB0):UC fun p_level p_b0=>Mo.den (YP R_ p_level p_b0):=fun _ _=>dQ Tryz.func223
def Qw(R_:RB0)(l0:List aJ)(m756:List (ByteArray×Bool))(p_level:Int)(r0:Int×aT)(r1:Int×aT)(v0:Int):Mo (Unit):=
 .iG 14002 (decide ((1:Int)≤r1.1)) (.say [.res (.tup [])] ok0<|
 .ask (Q21 (decide ((r1.1:Int)≤32)) 4) fun r2 h0=>
 .say [] (ok1 (oM _ _ _ h0))<|
 .rt [0,1,5,6,7,11,12] 3 ())<|
 .say [.res (.tup [])] ok0<|
 .ask (Q21 false 4) fun r3 h1=>
 .say [] (ok1 (oM _ _ _ h1))<|
 .rt [0,1,5,6,7,11,12] 3 ()
def Qx(R_:RB0)(l0:List aJ)(m756:List (ByteArray×Bool))(p_level:Int)(r0:Int×aT)(r1:ByteArray×aT)(v0:Int):Mo (Unit):=
 .cl (aku r1.1) fun r2 _=>
 .iG 18002 (r2) (.say [.row [.bool (rP m756 r1.1 false)],.res (.tup [])] (okc (rfl:Tryz.prog=Tryz.prog) (ok1 (BU _ _ _:mD (m756.map mvB) r1.1 (.bool false)=(.bool (rP m756 r1.1 false)))))<|
 .ask (Q21 (!(rP m756 r1.1 false)) 4) fun r3 h0=>
 .say [] (ok1 (oM _ _ _ h0))<|
 .rt [0,1,5,6,8,11,12] 3 ())<|
 .say [.res (.tup [])] ok0<|
 .ask (Q21 false 4) fun r4 h1=>
 .say [] (ok1 (oM _ _ _ h1))<|
 .rt [0,1,5,6,8,11,12] 3 ()
def wM(R_:RB0)(p_level:Int)(r0:Int×aT):(Int×aT×(List (ByteArray×Bool))×(List aJ))→Mo ((Int×aT×(List (ByteArray×Bool))×(List aJ))⊕(aT×(List aJ))):=fun(v0,s755,m756,l0)=>
 .iB (decide ((v0:Int)<r0.1)) (.cH [0] (Nj s755) fun r1 _=>
 .jk Tryz.f288 1 [1,1,1,0,1,0,0,1,1,0,0,1,0] 19 (fun r_=>⟨[(0,.ptr 0 0),(1,.i_ p_level),(5,.own 2),(6,.mp 1),(7,.i_ r1.1),(11,.i_ r0.1),(12,.i_ v0)],[eU r1.2,.map Tryz.prog 9 4 (m756.map mvB),.row 115 6 (l0.map aJ.lf)]⟩) ⟨[(0,.ptr 0 0),(1,.i_ p_level),(5,.own 2),(6,.mp 1),(7,.i_ r1.1),(11,.i_ r0.1),(12,.i_ v0)],[eU r1.2,.map Tryz.prog 9 4 (m756.map mvB),.row 115 6 (l0.map aJ.lf)]⟩ (Qw R_ l0 m756 p_level r0 r1 v0) fun r2=>
 .cH [0] (FQ r1.1 r1.2) fun r3 _=>
 .jk Tryz.f288 1 [1,1,1,0,1,0,0,1,1,0,0,1,1,1,0] 23 (fun r_=>⟨[(0,.ptr 0 0),(1,.i_ p_level),(5,.own 2),(6,.mp 1),(8,.lf (.str r3.1)),(11,.i_ r0.1),(12,.i_ v0)],[eU r3.2,.map Tryz.prog 9 4 (m756.map mvB),.row 115 6 (l0.map aJ.lf)]⟩) ⟨[(0,.ptr 0 0),(1,.i_ p_level),(5,.own 2),(6,.mp 1),(8,.lf (.str r3.1)),(11,.i_ r0.1),(12,.i_ v0)],[eU r3.2,.map Tryz.prog 9 4 (m756.map mvB),.row 115 6 (l0.map aJ.lf)]⟩ (Qx R_ l0 m756 p_level r0 r3 v0) fun r4=>
 .say [] (ok1 (rfl:Tryz.prog=Tryz.prog))<|
 .grd (m756.length<maxLen) fun h0=>
 .say [] (ok1 (by simpa using h0:(m756.map mvB).length<maxLen))<|
 .ask (R_.m1 p_level r3.2) fun r5 h1=>
 .say [.gy [0] (.dat (ah.lf1 r5.1)) [eU r5.2],.rows ((l0++[aJ.mk r3.1 r5.1]).map aJ.lf)] (okc (R_.ok1 _ _ _ h1) (ok1 (by simp[aJ.aW]:(l0++[aJ.mk r3.1 r5.1]).map aJ.lf=(l0.map aJ.lf)++[(aJ.lf1 (aJ.mk r3.1 r5.1))])))<|
 .grd ((l0.length+[aJ.mk r3.1 r5.1].length)*96≤140737488355328) fun h2=>
 .say [] (ok1 (cp_ aJ.lf h2))<|
 .ret ⟨[],[0,1,5,6,11,12],[(4,2)],3⟩ (.inl (IntKind.wrap .i64 (v0+1),r5.2,(r3.1,true)::m756,l0++[aJ.mk r3.1 r5.1])))<|
 .ret ⟨[.kill 1],[5],[],3⟩ (.inr (s755,l0))
def WX(R_:RB0)(p_level:Int)(r0:Int×aT)(v0:Int)(s755:aT)(m756:List (ByteArray×Bool))(l0:List aJ):Option ((aT×(List aJ))):=dM (fun v_=>(wM R_ p_level r0 v_).den) FU (v0,s755,m756,l0)
def WY(R_:RB0)(p_level:Int)(p_b0:aT):Mo ((List aJ)×aT):=
 .ask (Q93 p_b0) fun r0 h0=>
 .say [.gy [0] (.i_ r0.1) [eU r0.2]] (okc (Nk _ _ h0) (ok1 (by simp[aJ.aW]:(([]:List aJ).map aJ.lf)=[])))<|
 .l1m [.rG 5 115 6,.kU 2 (([]:List aJ).map aJ.lf)] Tryz.f288 1 [1,1,1,0,1,0] 0 (.exit 0) (fun(v0,s755,m756,l0)=>⟨[(0,.ptr 0 0),(1,.i_ p_level),(5,.own 2),(6,.mp 1),(11,.i_ r0.1),(12,.i_ v0)],[eU s755,.map Tryz.prog 9 4 (m756.map mvB),.row 115 6 (l0.map aJ.lf)]⟩) (fun r_=>⟨[(5,.own 2)],[eU r_.1,.dead,.row 115 6 (r_.2.map aJ.lf)]⟩) (WX R_ p_level r0 0 r0.2 ([]:List (ByteArray×Bool)) ([]:List aJ)) (wM R_ p_level r0) (0,r0.2,([]:List (ByteArray×Bool)),([]:List aJ)) fun r1=>
 .ret ⟨[.frz 2],[0],[],1⟩ (r1.2,r1.1)
theorem agw(R_:RB0):abH fun p_level p_b0=>Mo.den (WY R_ p_level p_b0):=fun _ _=>dQ Tryz.func288
def qJ:Nat→RB0
 |0=>{ m1:=fun p_level p_b0=>none,ok1:=fun _ _ _ h=>(by cases h),m2:=fun p_level p_b0=>none,ok2:=fun _ _ _ h=>(by cases h) }
 |n_+1=>{ m1:=fun p_level p_b0=>Mo.den (YP (qJ n_) p_level p_b0),ok1:=akv (qJ n_),m2:=fun p_level p_b0=>Mo.den (WY (qJ n_) p_level p_b0),ok2:=agw (qJ n_) }
def Q1(p_level:Int)(p_b0:aT):Option (ah×aT):=(qJ FU).m1 p_level p_b0
theorem ajc:UC Q1:=(qJ FU).ok1
end
end Go.Proofs.YtflpefkohpjjpaaGreatDoor
