/- Printed by dec.py. -/
import Derived.Test.YtflpefkohpjjpaaGreatDoorQJManP
set_option linter.unusedSimpArgs false
set_option linter.unusedVariables false
namespace Go.Proofs.YtflpefkohpjjpaaGreatDoor
open Go.RowKit
set_option maxRecDepth 20000
set_option maxHeartbeats 4000000
noncomputable section
abbrev dW(p:aW):Slot:=.box 240 (.dat (aW.lf1 p))
abbrev aZ(p:ah):Slot:=.box 25 (.dat (ah.lf1 p))
abbrev abq(p:fA):Slot:=.box 252 (.dat (fA.lf1 p))
abbrev iy(p:aH):Slot:=.box 31 (.dat (aH.lf1 p))
abbrev qQ(p:bU):Slot:=.box 33 (.dat (bU.lf1 p))
abbrev uN(p:dJ):Slot:=.box 37 (.dat (dJ.lf1 p))
abbrev eP(p:aO):Slot:=.box 40 (.dat (aO.lf1 p))
abbrev dP(p:aN):Slot:=.box 43 (.dat (aN.lf1 p))
abbrev kQ(p:aQ):Slot:=.box 45 (.dat (aQ.lf1 p))
abbrev cu(p:ak):Slot:=.box 49 (.dat (ak.lf1 p))
abbrev jB(p:bG):Slot:=.box 51 (.dat (bG.lf1 p))
abbrev dQ(p:aI):Slot:=.box 80 (.dat (aI.lf1 p))
abbrev bI(p:aj):Slot:=.box 84 (.dat (aj.lf1 p))
abbrev zY(p:eH):Slot:=.box 89 (.dat (eH.lf1 p))
def anh(p_ok:Bool)(p_err:Int):Mo (Unit):=
 .say [.br false] ok0<|
 .ite (!p_ok) (fun c9=>
 .stop) fun c9=>
 .say [] (ok1 c9)<|
 .ret (aX 0) ()
def Q85(p_ok:Bool)(p_err:Int):Option (Unit):=Mo.den (anh p_ok p_err)
theorem lU(p_ok:Bool)(p_err:Int):FV (Q85 p_ok p_err) 283 [.b_ p_ok,.i_ p_err] (fun _=>.tup []):=bW Tryz.func283
def aku(p_n:Int)(p_b0:aW):Mo (ByteArray×aW):=
 .say [.order [(true,0),(true,1),(true,2),(true,3),(true,4),(true,5),(true,6),(true,7),(true,8),(true,9),(true,10),(true,11),(false,12)] (some 12) [],.res (.tup []),.order [(true,0),(true,1),(true,2),(true,3),(true,4),(true,5),(true,6),(true,7),(true,8),(true,9),(true,10),(true,11),(true,12),(true,13),(true,14),(true,15)] none []] ok0<|
 .ask (Q85 (decide ((p_n:Int)≤(IntKind.wrap .i64 ((p_b0.fs.size:Int)-p_b0.fat)))) 5) fun r0 h0=>
 .say [] (ok1 (lU _ _ _ h0))<|
 .grd ((0:Int)≤(IntKind.wrap .i64 ((IntKind.wrap .i64 (p_b0.fat+p_n))-p_n))∧(IntKind.wrap .i64 ((IntKind.wrap .i64 (p_b0.fat+p_n))-p_n))≤(IntKind.wrap .i64 (p_b0.fat+p_n))∧(IntKind.wrap .i64 (p_b0.fat+p_n))≤(p_b0.fs.size:Int)) fun h1=>
 .say [] (ok1 h1)<|
 .rt [0] 1 (p_b0.fs.extract (IntKind.wrap .i64 ((IntKind.wrap .i64 (p_b0.fat+p_n))-p_n)).toNat (IntKind.wrap .i64 (p_b0.fat+p_n)).toNat,aW.mk p_b0.fs (IntKind.wrap .i64 (p_b0.fat+p_n)) p_b0.BM)
def ani(p_n:Int)(p_b0:aW):Option (ByteArray×aW):=Mo.den (aku p_n p_b0)
theorem wL(p_n:Int)(p_b0:aW):FH (ani p_n p_b0) 284 [.ptr 0 0,.i_ p_n] [dW p_b0] (fun r=>.lf (.str r.1)) (fun r=>[dW r.2]):=dX Tryz.func284
def Xk(p_at:Int)(p_s:ByteArray):Mo (Bool):=
 .oV 4002 (decide ((p_at:Int)<0)) [0,1,17] 0 (decide (((p_s.size:Int):Int)<p_at))
def Xl(b0:UInt8)(p_at:Int)(p_s:ByteArray)(v0:Int)(v1:Int):Mo (Bool):=
 .aV 20002 (v1==9) [0,1,7,8,9,36] 0 (decide ((1:Int)<(b0.toNat:Int)))
def QL(b0:UInt8)(p_at:Int)(p_s:ByteArray)(r0:Bool)(v0:Int)(v1:Int):Mo (Bool):=
 .iG 20006 (r0) (.rt [0,1,7,8,9,44] 0 (true))<|
 .aV 20009 (decide ((0:Int)<v1)) [0,1,7,8,9,44] 0 ((b0.toNat:Int)==0)
def QM(p_at:Int)(p_s:ByteArray):(Int×Int)→Mo ((Int×Int)⊕(Int×Int×Int)):=fun(v0,v1)=>
 .iB ((IntKind.wrap .i64 (p_at+v1))==(p_s.size:Int)) (.rt [4,5,6] 0 (.inr (0,0,5)))<|
 .ask (iw p_s (IntKind.wrap .i64 (p_at+v1))) fun b0 h0=>
 .say [.byt b0] (ok1 (dL h0))<|
 .sf Tryz.f86 0 [1,1,1,1,0,0,0,0,1,1,0,0] 0 6 9 [(0,.lf (.str p_s)),(1,.i_ p_at),(7,.lf (.int .u64 v0)),(8,.i_ v1),(9,.lf (.int .u8 (b0.toNat:Int)))] [] 36 (Xl b0 p_at p_s v0 v1) fun r0=>
 .sb Tryz.f86 0 [1,1,1,1,0,0,0,0,1,1,0,0] 6 8 9 [(0,.lf (.str p_s)),(1,.i_ p_at),(7,.lf (.int .u64 v0)),(8,.i_ v1),(9,.lf (.int .u8 (b0.toNat:Int)))] [] 36 44 r0 (QL b0 p_at p_s r0 v0 v1) fun r1=>
 .iB (r1) (.rt [4,5,6] 0 (.inr (0,0,4)))<|
 .grd ((0:Int)≤(IntKind.wrap .i64 (7*v1))) fun h1=>
 .say [] (ok1 h1)<|
 .iB (decide (((b0.toNat:Int):Int)<128)) (.say [] (ok1 (by decide:(0:Int)≤1))<|
 .rt [4,5,6] 0 (.inr (dI .xor .i64 (IntKind.wrap .i64 (kR .u64 (dI .or .u64 v0 (Bg .u64 (IntKind.wrap .u64 (dI .and .u8 (b0.toNat:Int) 127)) (IntKind.wrap .i64 (7*v1)))) 1)) (IntKind.wrap .i64 (0-(IntKind.wrap .i64 (dI .and .u64 (dI .or .u64 v0 (Bg .u64 (IntKind.wrap .u64 (dI .and .u8 (b0.toNat:Int) 127)) (IntKind.wrap .i64 (7*v1)))) 1)))),IntKind.wrap .i64 ((IntKind.wrap .i64 (p_at+v1))+1),0)))<|
 .rt [0,1,7,8] 0 (.inl (dI .or .u64 v0 (Bg .u64 (IntKind.wrap .u64 (dI .and .u8 (b0.toNat:Int) 127)) (IntKind.wrap .i64 (7*v1))),IntKind.wrap .i64 (v1+1)))
def akv(p_s:ByteArray)(p_at:Int):Mo (Int×Int×Int):=
 .jk Tryz.f86 0 [1,0,0] 9 (fun r_=>⟨[(0,.lf (.str p_s)),(1,.i_ p_at),(17,.b_ r_)],[]⟩) ⟨[(0,.lf (.str p_s)),(1,.i_ p_at)],[]⟩ (Xk p_at p_s) fun r0=>
 .iB (r0) (.ret (aX 3) (0,0,1))<|
 .l1 Tryz.f86 0 [1,1,1,1,0] 0 .ret (fun(v0,v1)=>⟨[(0,.lf (.str p_s)),(1,.i_ p_at),(7,.lf (.int .u64 v0)),(8,.i_ v1)],[]⟩) (fun r_=>⟨[(4,.i_ r_.1),(5,.i_ r_.2.1),(6,.i_ r_.2.2)],[]⟩) (QM p_at p_s) (0,0) fun r1=>
 .ret (aX 3) (r1.1,r1.2.1,r1.2.2)
def anj(p_s:ByteArray)(p_at:Int):Option (Int×Int×Int):=Mo.den (akv p_s p_at)
theorem agP(p_s:ByteArray)(p_at:Int):FV (anj p_s p_at) 86 [.lf (.str p_s),.i_ p_at] (fun r=>.tup [.i_ r.1,.i_ r.2.1,.i_ r.2.2]):=bW Tryz.func86
def akw(p_b0:aW):Mo (Int×aW):=
 .ask (anj p_b0.fs p_b0.fat) fun r0 h0=>
 .say [.iD (.q 0 (.q 1 (.q 2 (.q 3 (.q 4 (.q 5 (.q 6 (.q 7 (.l 8 (.q 9 (.q 10 (.q 11 (.q 12 (.q 13 (.q 14 (.q 15 .fin)))))))))))))))) (some 8) [] [.res (.tup [.i_ r0.1,.i_ r0.2.1,.i_ r0.2.2])] [0,3,4,5] 1 [(0,.ptr 0 0),(3,.i_ r0.1),(4,.i_ r0.2.1),(5,.i_ r0.2.2)] [dW p_b0],.res (.tup [])] (okc (agP _ _ _ h0) (ok1 (rf_ ⟨[(0,.ptr 0 0),(3,.i_ r0.1),(4,.i_ r0.2.1),(5,.i_ r0.2.2)],[dW p_b0]⟩)))<|
 .ask (Q85 (r0.2.2==0) r0.2.2) fun r1 h1=>
 .say [] (ok1 (lU _ _ _ h1))<|
 .rt [0] 1 (r0.1,aW.mk p_b0.fs r0.2.1 p_b0.BM)
def akx(p_b0:aW):Option (Int×aW):=Mo.den (akw p_b0)
theorem Jt(p_b0:aW):FH (akx p_b0) 285 [.ptr 0 0] [dW p_b0] (fun r=>.i_ r.1) (fun r=>[dW r.2]):=dX Tryz.func285
def aky(p_b0:aW):Mo (Int×aW):=
 .ask (akx p_b0) fun r0 h0=>
 .say [.fZ [0] (.i_ r0.1) [dW r0.2],.res (.tup [])] (ok1 (Jt _ _ h0))<|
 .ask (Q85 (decide ((0:Int)≤r0.1)) 4) fun r1 h1=>
 .say [] (ok1 (lU _ _ _ h1))<|
 .rt [0] 1 (r0.1,r0.2)
def abr(p_b0:aW):Option (Int×aW):=Mo.den (aky p_b0)
theorem Aw(p_b0:aW):FH (abr p_b0) 286 [.ptr 0 0] [dW p_b0] (fun r=>.i_ r.1) (fun r=>[dW r.2]):=dX Tryz.func286
def akz(p_b0:aW):Mo (ByteArray×aW):=
 .ask (abr p_b0) fun r0 h0=>
 .say [.fZ [0] (.i_ r0.1) [dW r0.2],.res (.tup [])] (ok1 (Aw _ _ h0))<|
 .ask (Q85 (decide ((r0.1:Int)≤4096)) 2) fun r1 h1=>
 .say [] (ok1 (lU _ _ _ h1))<|
 .cH [0] (wL r0.1 r0.2) fun r2 _=>
 .rt [0] 1 (r2.1,r2.2)
def ank(p_b0:aW):Option (ByteArray×aW):=Mo.den (akz p_b0)
theorem UQ(p_b0:aW):FH (ank p_b0) 287 [.ptr 0 0] [dW p_b0] (fun r=>.lf (.str r.1)) (fun r=>[dW r.2]):=dX Tryz.func287
def Xm(p_s:ByteArray)(v0:Int):Mo (Bool):=
 .ask (iw p_s v0) fun b0 h0=>
 .say [.byt b0] (ok1 (dL h0))<|
 .iG 10004 (decide (((b0.toNat:Int):Int)<33)) (.rt [0,3,5,6,18] 0 (true))<|
 .ask (iw p_s v0) fun b1 h1=>
 .say [.byt b1] (ok1 (dL h1))<|
 .rt [0,3,5,6,18] 0 (decide ((126:Int)<(b1.toNat:Int)))
def Xn(p_s:ByteArray)(r0:Bool)(v0:Int):Mo (Bool):=
 .iG 10010 (r0) (.rt [0,5,6,24] 0 (true))<|
 .ask (iw p_s v0) fun b0 h0=>
 .say [.byt b0] (ok1 (dL h0))<|
 .rt [0,5,6,24] 0 ((b0.toNat:Int)==46)
def QN(p_s:ByteArray):(Int)→Mo ((Int)⊕(Unit⊕Unit)):=fun(v0)=>
 .iB (decide ((v0:Int)<(p_s.size:Int))) (.sf Tryz.f328 0 [1,0,1,0,0,1,1,0,0,1,0] 0 10 4 [(0,.lf (.str p_s)),(3,.i_ v0),(5,.i_ (p_s.size:Int)),(6,.i_ v0)] [] 18 (Xm p_s v0) fun r0=>
 .sk Tryz.f328 0 [1,0,1,0,0,1,1,0,0,1,0] 10 6 4 (fun r_=>⟨[(0,.lf (.str p_s)),(5,.i_ (p_s.size:Int)),(6,.i_ v0),(24,.b_ r_)],[]⟩) ⟨[(0,.lf (.str p_s)),(3,.i_ v0),(5,.i_ (p_s.size:Int)),(6,.i_ v0),(18,.b_ r0)],[]⟩ (Xn p_s r0 v0) fun r1=>
 .iB (r1) (.rt [2] 0 (.inr (.inl ())))<|
 .rt [0,5,6] 0 (.inl (IntKind.wrap .i64 (v0+1))))<|
 .rt [0] 0 (.inr (.inr (())))
def akA(p_s:ByteArray):Mo (Bool):=
 .l2 Tryz.f328 0 [1,0,1,0] 0 (fun(v0)=>⟨[(0,.lf (.str p_s)),(5,.i_ (p_s.size:Int)),(6,.i_ v0)],[]⟩) .ret (fun _=>⟨[(2,.b_ false)],[]⟩) (.exit 0) (fun _=>⟨[(0,.lf (.str p_s))],[]⟩) (QN p_s) (0) (fun o0=>
 .ret (aX 1) (false)) fun o1=>
 .ask (iw p_s 0) fun b0 h0=>
 .say [.byt b0] (ok1 (dL h0))<|
 .ret (aX 1) ((b0.toNat:Int) != 36)
def aoD(p_s:ByteArray):Option (Bool):=Mo.den (akA p_s)
theorem agQ(p_s:ByteArray):FV (aoD p_s) 328 [.lf (.str p_s)] .b_:=bW Tryz.func328
abbrev QO(m:Int→aW→Option (ah×aW)):Prop:=∀p_level p_b0,FH (m p_level p_b0) 223 [.ptr 0 0,.i_ p_level] [dW p_b0] (fun r=>.dat (ah.lf1 r.1)) (fun r=>[dW r.2])
abbrev abt(m:Int→aW→Option ((List ay)×aW)):Prop:=∀p_level p_b0,FH (m p_level p_b0) 288 [.ptr 0 0,.i_ p_level] [dW p_b0] (fun r=>.lf (.rows 6 (r.1.map ay.lf))) (fun r=>[dW r.2])
structure RB0 where
 m1:(p_level:Int)→(p_b0:aW)→Option (ah×aW)
 ok1:QO m1
 m2:(p_level:Int)→(p_b0:aW)→Option ((List ay)×aW)
 ok2:abt m2
def abu(R_:RB0)(p_b0:aW)(p_level:Int):Mo (Unit):=
 .iG 4002 (decide ((p_level:Int)≤16)) (.say [.res (.tup [])] ok0<|
 .ask (Q85 (decide ((p_b0.BM:Int)<1024)) 2) fun r0 h0=>
 .say [] (ok1 (lU _ _ _ h0))<|
 .rt [0,1,4] 2 ())<|
 .say [.res (.tup [])] ok0<|
 .ask (Q85 false 2) fun r1 h1=>
 .say [] (ok1 (lU _ _ _ h1))<|
 .rt [0,1,4] 2 ()
def abv(R_:RB0)(b0:UInt8)(p_level:Int)(r0:ByteArray×aW):Mo (Bool):=
 .iB ((IntKind.wrap .i64 (b0.toNat:Int))==1) (.rt [0,1,4,5,29,32] 4 ((IntKind.wrap .i64 (b0.toNat:Int))==1))<|
 .iB ((IntKind.wrap .i64 (b0.toNat:Int))==2) (.rt [0,1,4,5,29,32] 4 ((IntKind.wrap .i64 (b0.toNat:Int))==2))<|
 .rt [0,1,4,5,29,32] 4 ((IntKind.wrap .i64 (b0.toNat:Int))==11)
def Xo(R_:RB0)(b0:UInt8)(p_level:Int)(r0:Int×aW):(Int×aW×(List ah))→Mo ((Int×aW×(List ah))⊕(aW×(List ah))):=fun(v0,s354,l0)=>
 .iB (decide ((v0:Int)<r0.1)) (.ask (R_.m1 (IntKind.wrap .i64 (p_level+1)) s354) fun r1 h0=>
 .say [.iD (.q 0 (.q 2 (.q 3 (.q 4 (.alt 1 (.l 5 (.l 6 (.l 7 (.q 8 (.l 9 .fin))))) (.l 5 (.alt 1 (.l 6 (.l 7 (.q 8 (.l 9 .fin)))) (.l 6 (.l 1 (.l 7 (.q 8 (.l 9 .fin)))))))))))) (some 9) [0,3,4,5] [.both [.at_ 54 1,.resv 2,.fZ [0] (.dat (ah.lf1 r1.1)) [dW r1.2],.slot 4,.rows ((l0++[r1.1]).map ah.lf),.slot 5] [.at_ 54 5,.resv 2,.fZ [0] (.dat (ah.lf1 r1.1)) [dW r1.2],.both [.slot 4,.rows ((l0++[r1.1]).map ah.lf),.slot 5] [.slot 4,.rows ((l0++[r1.1]).map ah.lf),.slot 5]]] [0,1,4,5,79,80] 6 [(0,.ptr 0 0),(1,.i_ p_level),(4,.ptr 1 0),(5,.ptr 2 0),(79,.i_ r0.1),(80,.i_ v0)] [dW r1.2,.box 25 (.agg [.i_ 0,.i_ 0,.lf (.str ⟨#[]⟩),.bJ 5,.bJ 6]),.box 25 (.agg [.i_ (IntKind.wrap .i64 (b0.toNat:Int)),.i_ 0,.lf (.str ⟨#[]⟩),.own 5,.bJ 6]),.dead,.row 25 5 [(ah.lf1 r1.1)],.row 25 5 ((l0++[r1.1]).map ah.lf)]] (okc (R_.ok1 _ _ _ h0) (ok1 (ap_ ah.aS l0 r1.1)))<|
 .grd ((l0.length+[r1.1].length)*80≤140737488355328) fun h1=>
 .say [] (okc (cp_ ah.lf h1) (okc (rf_ ⟨[(0,.ptr 0 0),(1,.i_ p_level),(4,.ptr 1 0),(5,.ptr 2 0),(79,.i_ r0.1),(80,.i_ v0)],[dW r1.2,.box 25 (.agg [.i_ 0,.i_ 0,.lf (.str ⟨#[]⟩),.bJ 5,.bJ 6]),.box 25 (.agg [.i_ (IntKind.wrap .i64 (b0.toNat:Int)),.i_ 0,.lf (.str ⟨#[]⟩),.own 5,.bJ 6]),.dead,.row 25 5 [(ah.lf1 r1.1)],.row 25 5 ((l0++[r1.1]).map ah.lf)]⟩) (okc (R_.ok1 _ _ _ h0) (okc (ap_ ah.aS l0 r1.1) (okc (cp_ ah.lf h1) (okc (rf_ ⟨[(0,.ptr 0 0),(1,.i_ p_level),(4,.ptr 1 0),(5,.ptr 2 0),(79,.i_ r0.1),(80,.i_ v0)],[dW r1.2,.box 25 (.agg [.i_ 0,.i_ 0,.lf (.str ⟨#[]⟩),.bJ 5,.bJ 6]),.box 25 (.agg [.i_ (IntKind.wrap .i64 (b0.toNat:Int)),.i_ 0,.lf (.str ⟨#[]⟩),.own 5,.bJ 6]),.dead,.row 25 5 [(ah.lf1 r1.1)],.row 25 5 ((l0++[r1.1]).map ah.lf)]⟩) (okc (ap_ ah.aS l0 r1.1) (okc (cp_ ah.lf h1) (ok1 (rf_ ⟨[(0,.ptr 0 0),(1,.i_ p_level),(4,.ptr 1 0),(5,.ptr 2 0),(79,.i_ r0.1),(80,.i_ v0)],[dW r1.2,.box 25 (.agg [.i_ 0,.i_ 0,.lf (.str ⟨#[]⟩),.bJ 5,.bJ 6]),.box 25 (.agg [.i_ (IntKind.wrap .i64 (b0.toNat:Int)),.i_ 0,.lf (.str ⟨#[]⟩),.own 5,.bJ 6]),.dead,.row 25 5 [(ah.lf1 r1.1)],.row 25 5 ((l0++[r1.1]).map ah.lf)]⟩))))))))))<|
 .ret ⟨[],[0,1,4,5,79,80],[(5,3)],4⟩ (.inl (IntKind.wrap .i64 (v0+1),r1.2,l0++[r1.1])))<|
 .rt [4,5] 4 (.inr (s354,l0))
def Xp(R_:RB0)(b0:UInt8)(p_level:Int)(r0:ByteArray×aW):Mo ((aW×ah)):=
 .jk Tryz.f223 1 [1,1,1,1,0,1,0,0,1] 1 (fun r_=>⟨[(0,.ptr 0 0),(1,.i_ p_level),(4,.ptr 1 0),(5,.ptr 2 0),(29,.i_ (IntKind.wrap .i64 (b0.toNat:Int))),(32,.b_ r_)],[dW r0.2,.box 25 (.agg [.i_ 0,.i_ 0,.lf (.str ⟨#[]⟩),.bJ 5,.bJ 6]),.box 25 (.agg [.i_ (IntKind.wrap .i64 (b0.toNat:Int)),.i_ 0,.lf (.str ⟨#[]⟩),.own 3,.bJ 6]),.row 25 5 []]⟩) ⟨[(0,.ptr 0 0),(1,.i_ p_level),(4,.ptr 1 0),(5,.ptr 2 0),(29,.i_ (IntKind.wrap .i64 (b0.toNat:Int))),(32,.lf (.bool ((IntKind.wrap .i64 (b0.toNat:Int))==1)))],[dW r0.2,.box 25 (.agg [.i_ 0,.i_ 0,.lf (.str ⟨#[]⟩),.bJ 5,.bJ 6]),.box 25 (.agg [.i_ (IntKind.wrap .i64 (b0.toNat:Int)),.i_ 0,.lf (.str ⟨#[]⟩),.own 3,.bJ 6]),.row 25 5 []]⟩ (abv R_ b0 p_level r0) fun r1=>
 .iB (r1) (.say [] (ok1 (by simp[ah.aS]:([]:List ah).map ah.lf=[]))<|
 .ret ⟨[.pY 3 (([]:List ah).map ah.lf),.norm 2],[4,5],[],4⟩ (r0.2,ah.mk (IntKind.wrap .i64 (b0.toNat:Int)) 0 ⟨#[]⟩ ([]:List ah) []))<|
 .iB ((IntKind.wrap .i64 (b0.toNat:Int))==3) (.ask (akx r0.2) fun r2 h0=>
 .say [.fZ [0] (.i_ r2.1) [dW r2.2]] (okc (Jt _ _ h0) (ok1 (by simp[ah.aS]:([]:List ah).map ah.lf=[])))<|
 .ret ⟨[.pY 3 (([]:List ah).map ah.lf),.norm 2],[4,5],[],4⟩ (r2.2,ah.mk (IntKind.wrap .i64 (b0.toNat:Int)) r2.1 ⟨#[]⟩ ([]:List ah) []))<|
 .iB ((IntKind.wrap .i64 (b0.toNat:Int))==10) (.ask (abr r0.2) fun r3 h1=>
 .say [.fZ [0] (.i_ r3.1) [dW r3.2]] (okc (Aw _ _ h1) (ok1 (by simp[ah.aS]:([]:List ah).map ah.lf=[])))<|
 .ret ⟨[.pY 3 (([]:List ah).map ah.lf),.norm 2],[4,5],[],4⟩ (r3.2,ah.mk (IntKind.wrap .i64 (b0.toNat:Int)) r3.1 ⟨#[]⟩ ([]:List ah) []))<|
 .iB ((IntKind.wrap .i64 (b0.toNat:Int))==9) (.cH [0] (wL 1 r0.2) fun r4 _=>
 .ask (iw r4.1 0) fun b1 h2=>
 .say [.byt b1,.res (.tup [])] (ok1 (dL h2))<|
 .ask (Q85 (decide ((IntKind.wrap .i64 (b1.toNat:Int):Int)≤1)) 4) fun r5 h3=>
 .say [] (okc (lU _ _ _ h3) (ok1 (by simp[ah.aS]:([]:List ah).map ah.lf=[])))<|
 .ret ⟨[.pY 3 (([]:List ah).map ah.lf),.norm 2],[4,5],[],4⟩ (r4.2,ah.mk (IntKind.wrap .i64 (b0.toNat:Int)) (IntKind.wrap .i64 (b1.toNat:Int)) ⟨#[]⟩ ([]:List ah) []))<|
 .iB ((IntKind.wrap .i64 (b0.toNat:Int))==4) (.cH [0] (UQ r0.2) fun r6 _=>
 .ask (akt r6.1) fun r7 h4=>
 .say [.res (.b_ r7),.res (.tup [])] (ok1 (UO _ _ h4))<|
 .ask (Q85 r7 4) fun r8 h5=>
 .say [] (okc (lU _ _ _ h5) (ok1 (by simp[ah.aS]:([]:List ah).map ah.lf=[])))<|
 .ret ⟨[.pY 3 (([]:List ah).map ah.lf),.norm 2],[4,5],[],4⟩ (r6.2,ah.mk (IntKind.wrap .i64 (b0.toNat:Int)) 0 r6.1 ([]:List ah) []))<|
 .iB ((IntKind.wrap .i64 (b0.toNat:Int))==7) (.ask (ank r0.2) fun r9 h6=>
 .say [.fZ [0] (.lf (.str r9.1)) [dW r9.2]] (okc (UQ _ _ h6) (ok1 (by simp[ah.aS]:([]:List ah).map ah.lf=[])))<|
 .ret ⟨[.pY 3 (([]:List ah).map ah.lf),.norm 2],[4,5],[],4⟩ (r9.2,ah.mk (IntKind.wrap .i64 (b0.toNat:Int)) 0 r9.1 ([]:List ah) []))<|
 .iB ((IntKind.wrap .i64 (b0.toNat:Int))==8) (.ask (ani 12 r0.2) fun r10 h7=>
 .say [.fZ [0] (.lf (.str r10.1)) [dW r10.2]] (okc (wL _ _ _ h7) (ok1 (by simp[ah.aS]:([]:List ah).map ah.lf=[])))<|
 .ret ⟨[.pY 3 (([]:List ah).map ah.lf),.norm 2],[4,5],[],4⟩ (r10.2,ah.mk (IntKind.wrap .i64 (b0.toNat:Int)) 0 r10.1 ([]:List ah) []))<|
 .iB ((IntKind.wrap .i64 (b0.toNat:Int))==6) (.ask (abr r0.2) fun r11 h8=>
 .say [.fZ [0] (.i_ r11.1) [dW r11.2]] (okc (Aw _ _ h8) (ok1 (by simp[ah.aS]:(([]:List ah).map ah.lf)=[])))<|
 .l1y [.je 3 (([]:List ah).map ah.lf)] Tryz.f223 1 [1,1,1,1,0,1,0,1,1,1,1,1,1,1,1,1,1,1,1,1,1,1,0,1,0] 0 (.exit 1) (fun(v0,s354,l0)=>⟨[(0,.ptr 0 0),(1,.i_ p_level),(4,.ptr 1 0),(5,.ptr 2 0),(79,.i_ r11.1),(80,.i_ v0)],[dW s354,.box 25 (.agg [.i_ 0,.i_ 0,.lf (.str ⟨#[]⟩),.bJ 5,.bJ 6]),.box 25 (.agg [.i_ (IntKind.wrap .i64 (b0.toNat:Int)),.i_ 0,.lf (.str ⟨#[]⟩),.own 3,.bJ 6]),.row 25 5 (l0.map ah.lf)]⟩) (fun r_=>⟨[(4,.ptr 1 0),(5,.ptr 2 0)],[dW r_.1,.box 25 (.agg [.i_ 0,.i_ 0,.lf (.str ⟨#[]⟩),.bJ 5,.bJ 6]),.box 25 (.agg [.i_ (IntKind.wrap .i64 (b0.toNat:Int)),.i_ 0,.lf (.str ⟨#[]⟩),.own 3,.bJ 6]),.row 25 5 (r_.2.map ah.lf)]⟩) (Xo R_ b0 p_level r11) (0,r11.2,([]:List ah)) fun r12=>
 .ret ⟨[.frz 3,.norm 2],[4,5],[],4⟩ (r12.1,ah.mk (IntKind.wrap .i64 (b0.toNat:Int)) 0 ⟨#[]⟩ r12.2 []))<|
 .say [.br true] ok0<|
 .ite ((IntKind.wrap .i64 (b0.toNat:Int))==5) (fun c0=>
 .say [] (ok1 c0)<|
 .ask (R_.m2 (IntKind.wrap .i64 (p_level+1)) r0.2) fun r13 h9=>
 .say [.fZ [0] (.lf (.rows 6 (r13.1.map ay.lf))) [dW r13.2]] (okc (R_.ok2 _ _ _ h9) (ok1 (by simp[ah.aS]:([]:List ah).map ah.lf=[])))<|
 .ret ⟨[.pY 3 (([]:List ah).map ah.lf),.norm 2],[4,5],[],4⟩ (r13.2,ah.mk (IntKind.wrap .i64 (b0.toNat:Int)) 0 ⟨#[]⟩ ([]:List ah) r13.1)) fun c0=>
 .stop
def ajb(R_:RB0)(p_level:Int)(p_b0:aW):Mo (ah×aW):=
 .jk Tryz.f223 1 [1,0] 9 (fun r_=>⟨[(0,.ptr 0 0),(1,.i_ p_level),(4,.ptr 1 0)],[dW p_b0,.box 25 (.agg [.i_ 0,.i_ 0,.lf (.str ⟨#[]⟩),.bJ 5,.bJ 6])]⟩) ⟨[(0,.ptr 0 0),(1,.i_ p_level),(4,.ptr 1 0)],[dW p_b0,.box 25 (.agg [.i_ 0,.i_ 0,.lf (.str ⟨#[]⟩),.bJ 5,.bJ 6])]⟩ (abu R_ p_b0 p_level) fun r0=>
 .cH [0] (wL 1 (aW.mk p_b0.fs p_b0.fat (IntKind.wrap .i64 (p_b0.BM+1)))) fun r1 _=>
 .ask (iw r1.1 0) fun b0 h0=>
 .say [.byt b0] (ok1 (dL h0))<|
 .jy [.agh 2 3 25] Tryz.f223 1 [1,1,1,1,0,1] 6 (.normal) (fun r_=>⟨[(4,.ptr 1 0),(5,.ptr 2 0)],[dW r_.1,.box 25 (.agg [.i_ 0,.i_ 0,.lf (.str ⟨#[]⟩),.bJ 5,.bJ 6]),aZ r_.2,.dead]⟩) ⟨[(0,.ptr 0 0),(1,.i_ p_level),(4,.ptr 1 0),(5,.ptr 2 0),(29,.i_ (IntKind.wrap .i64 (b0.toNat:Int)))],[dW r1.2,.box 25 (.agg [.i_ 0,.i_ 0,.lf (.str ⟨#[]⟩),.bJ 5,.bJ 6]),.box 25 (.agg [.i_ (IntKind.wrap .i64 (b0.toNat:Int)),.i_ 0,.lf (.str ⟨#[]⟩),.own 3,.bJ 6]),.row 25 5 []]⟩ (Xp R_ b0 p_level r1) fun r2=>
 .ret ⟨[.kill 1,.kill 2],[0],[],1⟩ (r2.2,r2.1)
theorem agR(R_:RB0):QO fun p_level p_b0=>Mo.den (ajb R_ p_level p_b0):=fun _ _=>dX Tryz.func223
def Xq(R_:RB0)(l0:List ay)(m756:List (ByteArray×Bool))(p_level:Int)(r0:Int×aW)(r1:Int×aW)(v0:Int):Mo (Unit):=
 .iG 14002 (decide ((1:Int)≤r1.1)) (.say [.res (.tup [])] ok0<|
 .ask (Q85 (decide ((r1.1:Int)≤32)) 4) fun r2 h0=>
 .say [] (ok1 (lU _ _ _ h0))<|
 .rt [0,1,5,6,7,11,12] 3 ())<|
 .say [.res (.tup [])] ok0<|
 .ask (Q85 false 4) fun r3 h1=>
 .say [] (ok1 (lU _ _ _ h1))<|
 .rt [0,1,5,6,7,11,12] 3 ()
def Xr(R_:RB0)(l0:List ay)(m756:List (ByteArray×Bool))(p_level:Int)(r0:Int×aW)(r1:ByteArray×aW)(v0:Int):Mo (Unit):=
 .cl (agQ r1.1) fun r2 _=>
 .iG 18002 (r2) (.say [.row [.bool (BR m756 r1.1 false)],.res (.tup [])] (okc (rfl:Tryz.prog=Tryz.prog) (ok1 (QI _ _ _:lT (m756.map mvB) r1.1 (.bool false)=(.bool (BR m756 r1.1 false)))))<|
 .ask (Q85 (!(BR m756 r1.1 false)) 4) fun r3 h0=>
 .say [] (ok1 (lU _ _ _ h0))<|
 .rt [0,1,5,6,8,11,12] 3 ())<|
 .say [.res (.tup [])] ok0<|
 .ask (Q85 false 4) fun r4 h1=>
 .say [] (ok1 (lU _ _ _ h1))<|
 .rt [0,1,5,6,8,11,12] 3 ()
def QS(R_:RB0)(p_level:Int)(r0:Int×aW):(Int×aW×(List (ByteArray×Bool))×(List ay))→Mo ((Int×aW×(List (ByteArray×Bool))×(List ay))⊕(aW×(List ay))):=fun(v0,s755,m756,l0)=>
 .iB (decide ((v0:Int)<r0.1)) (.cH [0] (Jt s755) fun r1 _=>
 .jk Tryz.f288 1 [1,1,1,0,1,0,0,1,1,0,0,1,0] 19 (fun r_=>⟨[(0,.ptr 0 0),(1,.i_ p_level),(5,.own 2),(6,.mp 1),(7,.i_ r1.1),(11,.i_ r0.1),(12,.i_ v0)],[dW r1.2,.map Tryz.prog 9 4 (m756.map mvB),.row 115 6 (l0.map ay.lf)]⟩) ⟨[(0,.ptr 0 0),(1,.i_ p_level),(5,.own 2),(6,.mp 1),(7,.i_ r1.1),(11,.i_ r0.1),(12,.i_ v0)],[dW r1.2,.map Tryz.prog 9 4 (m756.map mvB),.row 115 6 (l0.map ay.lf)]⟩ (Xq R_ l0 m756 p_level r0 r1 v0) fun r2=>
 .cH [0] (wL r1.1 r1.2) fun r3 _=>
 .jk Tryz.f288 1 [1,1,1,0,1,0,0,1,1,0,0,1,1,1,0] 23 (fun r_=>⟨[(0,.ptr 0 0),(1,.i_ p_level),(5,.own 2),(6,.mp 1),(8,.lf (.str r3.1)),(11,.i_ r0.1),(12,.i_ v0)],[dW r3.2,.map Tryz.prog 9 4 (m756.map mvB),.row 115 6 (l0.map ay.lf)]⟩) ⟨[(0,.ptr 0 0),(1,.i_ p_level),(5,.own 2),(6,.mp 1),(8,.lf (.str r3.1)),(11,.i_ r0.1),(12,.i_ v0)],[dW r3.2,.map Tryz.prog 9 4 (m756.map mvB),.row 115 6 (l0.map ay.lf)]⟩ (Xr R_ l0 m756 p_level r0 r3 v0) fun r4=>
 .say [] (ok1 (rfl:Tryz.prog=Tryz.prog))<|
 .grd (m756.length<maxLen) fun h0=>
 .say [] (ok1 (by simpa using h0:(m756.map mvB).length<maxLen))<|
 .ask (R_.m1 p_level r3.2) fun r5 h1=>
 .say [.fZ [0] (.dat (ah.lf1 r5.1)) [dW r5.2],.rows ((l0++[ay.mk r3.1 r5.1]).map ay.lf)] (okc (R_.ok1 _ _ _ h1) (ok1 (by simp[ay.aS]:(l0++[ay.mk r3.1 r5.1]).map ay.lf=(l0.map ay.lf)++[(ay.lf1 (ay.mk r3.1 r5.1))])))<|
 .grd ((l0.length+[ay.mk r3.1 r5.1].length)*96≤140737488355328) fun h2=>
 .say [] (ok1 (cp_ ay.lf h2))<|
 .ret ⟨[],[0,1,5,6,11,12],[(4,2)],3⟩ (.inl (IntKind.wrap .i64 (v0+1),r5.2,(r3.1,true)::m756,l0++[ay.mk r3.1 r5.1])))<|
 .ret ⟨[.kill 1],[5],[],3⟩ (.inr (s755,l0))
def abw(R_:RB0)(p_level:Int)(p_b0:aW):Mo ((List ay)×aW):=
 .ask (abr p_b0) fun r0 h0=>
 .say [.fZ [0] (.i_ r0.1) [dW r0.2]] (okc (Aw _ _ h0) (ok1 (by simp[ay.aS]:(([]:List ay).map ay.lf)=[])))<|
 .l1y [.mW 5 115 6,.je 2 (([]:List ay).map ay.lf)] Tryz.f288 1 [1,1,1,0,1,0] 0 (.exit 0) (fun(v0,s755,m756,l0)=>⟨[(0,.ptr 0 0),(1,.i_ p_level),(5,.own 2),(6,.mp 1),(11,.i_ r0.1),(12,.i_ v0)],[dW s755,.map Tryz.prog 9 4 (m756.map mvB),.row 115 6 (l0.map ay.lf)]⟩) (fun r_=>⟨[(5,.own 2)],[dW r_.1,.dead,.row 115 6 (r_.2.map ay.lf)]⟩) (QS R_ p_level r0) (0,r0.2,([]:List (ByteArray×Bool)),([]:List ay)) fun r1=>
 .ret ⟨[.frz 2],[0],[],1⟩ (r1.2,r1.1)
theorem abx(R_:RB0):abt fun p_level p_b0=>Mo.den (abw R_ p_level p_b0):=fun _ _=>dX Tryz.func288
def Gg:Nat→RB0
 |0=>{ m1:=fun p_level p_b0=>none,ok1:=fun _ _ _ h=>(by cases h),m2:=fun p_level p_b0=>none,ok2:=fun _ _ _ h=>(by cases h) }
 |n_+1=>{ m1:=fun p_level p_b0=>Mo.den (ajb (Gg n_) p_level p_b0),ok1:=agR (Gg n_),m2:=fun p_level p_b0=>Mo.den (abw (Gg n_) p_level p_b0),ok2:=abx (Gg n_) }
def Q70(p_level:Int)(p_b0:aW):Option (ah×aW):=(Gg FU).m1 p_level p_b0
theorem aby:QO Q70:=(Gg FU).ok1
end
end Go.Proofs.YtflpefkohpjjpaaGreatDoor
