/- Printed by dec.py. -/
import Derived.Test.YtflpefkohpjjpaaGreatDoorQXManP
set_option linter.unusedSimpArgs false
set_option linter.unusedVariables false
namespace Go.Proofs.YtflpefkohpjjpaaGreatDoor
open Go.RowKit
set_option maxRecDepth 20000
set_option maxHeartbeats 4000000
noncomputable section
abbrev fG(p:bg):Slot:=.box 240 (.dat (bg.lf1 p))
abbrev aZ(p:ah):Slot:=.box 25 (.dat (ah.lf1 p))
abbrev gy(p:aI):Slot:=.box 31 (.dat (aI.lf1 p))
abbrev oG(p:bW):Slot:=.box 33 (.dat (bW.lf1 p))
abbrev xZ(p:dL):Slot:=.box 37 (.dat (dL.lf1 p))
abbrev dM(p:aQ):Slot:=.box 40 (.dat (aQ.lf1 p))
abbrev dA(p:aO):Slot:=.box 43 (.dat (aO.lf1 p))
abbrev nS(p:aS):Slot:=.box 45 (.dat (aS.lf1 p))
abbrev dP(p:aG):Slot:=.box 49 (.dat (aG.lf1 p))
abbrev oU(p:bY):Slot:=.box 51 (.dat (bY.lf1 p))
abbrev eH(p:aK):Slot:=.box 80 (.dat (aK.lf1 p))
abbrev bZ(p:aB):Slot:=.box 84 (.dat (aB.lf1 p))
def atd(p_ok:Bool)(p_err:Int):Mo (Unit):=
 .say [.br false] ok0<|
 .ite (!p_ok) (fun c9=>
 .stop) fun c9=>
 .say [] (ok1 c9)<|
 .ret (aU 0) ()
def Gx(p_ok:Bool)(p_err:Int):Option (Unit):=Mo.den (atd p_ok p_err)
theorem oh(p_ok:Bool)(p_err:Int):FV (Gx p_ok p_err) 283 [.b_ p_ok,.i_ p_err] (fun _=>.tup []):=dw Tryz.func283
def ate(p_n:Int)(p_b0:bg):Mo (ByteArray×bg):=
 .say [.order [(true,0),(true,1),(true,2),(true,3),(true,4),(true,5),(true,6),(true,7),(true,8),(true,9),(true,10),(true,11),(false,12)] (some 12) [],.res (.tup []),.order [(true,0),(true,1),(true,2),(true,3),(true,4),(true,5),(true,6),(true,7),(true,8),(true,9),(true,10),(true,11),(true,12),(true,13),(true,14),(true,15)] none []] ok0<|
 .ask (Gx (decide ((p_n:Int)≤(IntKind.wrap .i64 ((p_b0.fs.size:Int)-p_b0.fat)))) 5) fun r0 h0=>
 .say [] (ok1 (oh _ _ _ h0))<|
 .grd ((0:Int)≤(IntKind.wrap .i64 ((IntKind.wrap .i64 (p_b0.fat+p_n))-p_n))∧(IntKind.wrap .i64 ((IntKind.wrap .i64 (p_b0.fat+p_n))-p_n))≤(IntKind.wrap .i64 (p_b0.fat+p_n))∧(IntKind.wrap .i64 (p_b0.fat+p_n))≤(p_b0.fs.size:Int)) fun h1=>
 .say [] (ok1 h1)<|
 .rt [0] 1 (p_b0.fs.extract (IntKind.wrap .i64 ((IntKind.wrap .i64 (p_b0.fat+p_n))-p_n)).toNat (IntKind.wrap .i64 (p_b0.fat+p_n)).toNat,bg.mk p_b0.fs (IntKind.wrap .i64 (p_b0.fat+p_n)) p_b0.KI)
def awh(p_n:Int)(p_b0:bg):Option (ByteArray×bg):=Mo.den (ate p_n p_b0)
theorem Ea(p_n:Int)(p_b0:bg):FH (awh p_n p_b0) 284 [.ptr 0 0,.i_ p_n] [fG p_b0] (fun r=>.lf (.str r.1)) (fun r=>[fG r.2]):=eP Tryz.func284
def ahQ(p_at:Int)(p_s:ByteArray):Mo (Bool):=
 .oV 4002 (decide ((p_at:Int)<0)) [0,1,17] 0 (decide (((p_s.size:Int):Int)<p_at))
def ahR(b0:UInt8)(p_at:Int)(p_s:ByteArray)(v0:Int)(v1:Int):Mo (Bool):=
 .aV 20002 (v1==9) [0,1,7,8,9,36] 0 (decide ((1:Int)<(b0.toNat:Int)))
def acK(b0:UInt8)(p_at:Int)(p_s:ByteArray)(r0:Bool)(v0:Int)(v1:Int):Mo (Bool):=
 .iG 20006 (r0) (.rt [0,1,7,8,9,44] 0 (true))<|
 .aV 20009 (decide ((0:Int)<v1)) [0,1,7,8,9,44] 0 ((b0.toNat:Int)==0)
def acL(p_at:Int)(p_s:ByteArray):(Int×Int)→Mo ((Int×Int)⊕(Int×Int×Int)):=fun(v0,v1)=>
 .iB ((IntKind.wrap .i64 (p_at+v1))==(p_s.size:Int)) (.rt [4,5,6] 0 (.inr (0,0,5)))<|
 .ask (jY p_s (IntKind.wrap .i64 (p_at+v1))) fun b0 h0=>
 .say [.byt b0] (ok1 (eY h0))<|
 .sf Tryz.f86 0 [1,1,1,1,0,0,0,0,1,1,0,0] 0 6 9 [(0,.lf (.str p_s)),(1,.i_ p_at),(7,.lf (.int .u64 v0)),(8,.i_ v1),(9,.lf (.int .u8 (b0.toNat:Int)))] [] 36 (ahR b0 p_at p_s v0 v1) fun r0=>
 .sb Tryz.f86 0 [1,1,1,1,0,0,0,0,1,1,0,0] 6 8 9 [(0,.lf (.str p_s)),(1,.i_ p_at),(7,.lf (.int .u64 v0)),(8,.i_ v1),(9,.lf (.int .u8 (b0.toNat:Int)))] [] 36 44 r0 (acK b0 p_at p_s r0 v0 v1) fun r1=>
 .iB (r1) (.rt [4,5,6] 0 (.inr (0,0,4)))<|
 .grd ((0:Int)≤(IntKind.wrap .i64 (7*v1))) fun h1=>
 .say [] (ok1 h1)<|
 .iB (decide (((b0.toNat:Int):Int)<128)) (.say [] (ok1 (by decide:(0:Int)≤1))<|
 .rt [4,5,6] 0 (.inr (eU .xor .i64 (IntKind.wrap .i64 (yh .u64 (eU .or .u64 v0 (F7 .u64 (IntKind.wrap .u64 (eU .and .u8 (b0.toNat:Int) 127)) (IntKind.wrap .i64 (7*v1)))) 1)) (IntKind.wrap .i64 (0-(IntKind.wrap .i64 (eU .and .u64 (eU .or .u64 v0 (F7 .u64 (IntKind.wrap .u64 (eU .and .u8 (b0.toNat:Int) 127)) (IntKind.wrap .i64 (7*v1)))) 1)))),IntKind.wrap .i64 ((IntKind.wrap .i64 (p_at+v1))+1),0)))<|
 .rt [0,1,7,8] 0 (.inl (eU .or .u64 v0 (F7 .u64 (IntKind.wrap .u64 (eU .and .u8 (b0.toNat:Int) 127)) (IntKind.wrap .i64 (7*v1))),IntKind.wrap .i64 (v1+1)))
def atf(p_s:ByteArray)(p_at:Int):Mo (Int×Int×Int):=
 .jk Tryz.f86 0 [1,0,0] 9 (fun r_=>⟨[(0,.lf (.str p_s)),(1,.i_ p_at),(17,.b_ r_)],[]⟩) ⟨[(0,.lf (.str p_s)),(1,.i_ p_at)],[]⟩ (ahQ p_at p_s) fun r0=>
 .iB (r0) (.ret (aU 3) (0,0,1))<|
 .l1 Tryz.f86 0 [1,1,1,1,0] 0 .ret (fun(v0,v1)=>⟨[(0,.lf (.str p_s)),(1,.i_ p_at),(7,.lf (.int .u64 v0)),(8,.i_ v1)],[]⟩) (fun r_=>⟨[(4,.i_ r_.1),(5,.i_ r_.2.1),(6,.i_ r_.2.2)],[]⟩) (acL p_at p_s) (0,0) fun r1=>
 .ret (aU 3) (r1.1,r1.2.1,r1.2.2)
def awi(p_s:ByteArray)(p_at:Int):Option (Int×Int×Int):=Mo.den (atf p_s p_at)
theorem ao3(p_s:ByteArray)(p_at:Int):FV (awi p_s p_at) 86 [.lf (.str p_s),.i_ p_at] (fun r=>.tup [.i_ r.1,.i_ r.2.1,.i_ r.2.2]):=dw Tryz.func86
def atg(p_b0:bg):Mo (Int×bg):=
 .ask (awi p_b0.fs p_b0.fat) fun r0 h0=>
 .say [.jf (.q 0 (.q 1 (.q 2 (.q 3 (.q 4 (.q 5 (.q 6 (.q 7 (.l 8 (.q 9 (.q 10 (.q 11 (.q 12 (.q 13 (.q 14 (.q 15 .fin)))))))))))))))) (some 8) [] [.res (.tup [.i_ r0.1,.i_ r0.2.1,.i_ r0.2.2])] [0,3,4,5] 1 [(0,.ptr 0 0),(3,.i_ r0.1),(4,.i_ r0.2.1),(5,.i_ r0.2.2)] [fG p_b0],.res (.tup [])] (okc (ao3 _ _ _ h0) (ok1 (rf_ ⟨[(0,.ptr 0 0),(3,.i_ r0.1),(4,.i_ r0.2.1),(5,.i_ r0.2.2)],[fG p_b0]⟩)))<|
 .ask (Gx (r0.2.2==0) r0.2.2) fun r1 h1=>
 .say [] (ok1 (oh _ _ _ h1))<|
 .rt [0] 1 (r0.1,bg.mk p_b0.fs r0.2.1 p_b0.KI)
def ath(p_b0:bg):Option (Int×bg):=Mo.den (atg p_b0)
theorem V4(p_b0:bg):FH (ath p_b0) 285 [.ptr 0 0] [fG p_b0] (fun r=>.i_ r.1) (fun r=>[fG r.2]):=eP Tryz.func285
def ati(p_b0:bg):Mo (Int×bg):=
 .ask (ath p_b0) fun r0 h0=>
 .say [.jm [0] (.i_ r0.1) [fG r0.2],.res (.tup [])] (ok1 (V4 _ _ h0))<|
 .ask (Gx (decide ((0:Int)≤r0.1)) 4) fun r1 h1=>
 .say [] (ok1 (oh _ _ _ h1))<|
 .rt [0] 1 (r0.1,r0.2)
def aj1(p_b0:bg):Option (Int×bg):=Mo.den (ati p_b0)
theorem JO(p_b0:bg):FH (aj1 p_b0) 286 [.ptr 0 0] [fG p_b0] (fun r=>.i_ r.1) (fun r=>[fG r.2]):=eP Tryz.func286
def atj(p_b0:bg):Mo (ByteArray×bg):=
 .ask (aj1 p_b0) fun r0 h0=>
 .say [.jm [0] (.i_ r0.1) [fG r0.2],.res (.tup [])] (ok1 (JO _ _ h0))<|
 .ask (Gx (decide ((r0.1:Int)≤4096)) 2) fun r1 h1=>
 .say [] (ok1 (oh _ _ _ h1))<|
 .cH [0] (Ea r0.1 r0.2) fun r2 _=>
 .rt [0] 1 (r2.1,r2.2)
def awj(p_b0:bg):Option (ByteArray×bg):=Mo.den (atj p_b0)
theorem afF(p_b0:bg):FH (awj p_b0) 287 [.ptr 0 0] [fG p_b0] (fun r=>.lf (.str r.1)) (fun r=>[fG r.2]):=eP Tryz.func287
def ahS(p_s:ByteArray)(v0:Int):Mo (Bool):=
 .ask (jY p_s v0) fun b0 h0=>
 .say [.byt b0] (ok1 (eY h0))<|
 .iG 10004 (decide (((b0.toNat:Int):Int)<33)) (.rt [0,3,5,6,18] 0 (true))<|
 .ask (jY p_s v0) fun b1 h1=>
 .say [.byt b1] (ok1 (eY h1))<|
 .rt [0,3,5,6,18] 0 (decide ((126:Int)<(b1.toNat:Int)))
def ahT(p_s:ByteArray)(r0:Bool)(v0:Int):Mo (Bool):=
 .iG 10010 (r0) (.rt [0,5,6,24] 0 (true))<|
 .ask (jY p_s v0) fun b0 h0=>
 .say [.byt b0] (ok1 (eY h0))<|
 .rt [0,5,6,24] 0 ((b0.toNat:Int)==46)
def acM(p_s:ByteArray):(Int)→Mo ((Int)⊕(Unit⊕Unit)):=fun(v0)=>
 .iB (decide ((v0:Int)<(p_s.size:Int))) (.sf Tryz.f328 0 [1,0,1,0,0,1,1,0,0,1,0] 0 10 4 [(0,.lf (.str p_s)),(3,.i_ v0),(5,.i_ (p_s.size:Int)),(6,.i_ v0)] [] 18 (ahS p_s v0) fun r0=>
 .sk Tryz.f328 0 [1,0,1,0,0,1,1,0,0,1,0] 10 6 4 (fun r_=>⟨[(0,.lf (.str p_s)),(5,.i_ (p_s.size:Int)),(6,.i_ v0),(24,.b_ r_)],[]⟩) ⟨[(0,.lf (.str p_s)),(3,.i_ v0),(5,.i_ (p_s.size:Int)),(6,.i_ v0),(18,.b_ r0)],[]⟩ (ahT p_s r0 v0) fun r1=>
 .iB (r1) (.rt [2] 0 (.inr (.inl ())))<|
 .rt [0,5,6] 0 (.inl (IntKind.wrap .i64 (v0+1))))<|
 .rt [0] 0 (.inr (.inr (())))
def atl(p_s:ByteArray):Mo (Bool):=
 .l2 Tryz.f328 0 [1,0,1,0] 0 (fun(v0)=>⟨[(0,.lf (.str p_s)),(5,.i_ (p_s.size:Int)),(6,.i_ v0)],[]⟩) .ret (fun _=>⟨[(2,.b_ false)],[]⟩) (.exit 0) (fun _=>⟨[(0,.lf (.str p_s))],[]⟩) (acM p_s) (0) (fun o0=>
 .ret (aU 1) (false)) fun o1=>
 .ask (jY p_s 0) fun b0 h0=>
 .say [.byt b0] (ok1 (eY h0))<|
 .ret (aU 1) ((b0.toNat:Int) != 36)
def axh(p_s:ByteArray):Option (Bool):=Mo.den (atl p_s)
theorem ao4(p_s:ByteArray):FV (axh p_s) 328 [.lf (.str p_s)] .b_:=dw Tryz.func328
abbrev acN(m:Int→bg→Option (ah×bg)):Prop:=∀p_level p_b0,FH (m p_level p_b0) 223 [.ptr 0 0,.i_ p_level] [fG p_b0] (fun r=>.dat (ah.lf1 r.1)) (fun r=>[fG r.2])
abbrev aj2(m:Int→bg→Option ((List aJ)×bg)):Prop:=∀p_level p_b0,FH (m p_level p_b0) 288 [.ptr 0 0,.i_ p_level] [fG p_b0] (fun r=>.lf (.rows 6 (r.1.map aJ.lf))) (fun r=>[fG r.2])
structure RB0 where
 m1:(p_level:Int)→(p_b0:bg)→Option (ah×bg)
 ok1:acN m1
 m2:(p_level:Int)→(p_b0:bg)→Option ((List aJ)×bg)
 ok2:aj2 m2
def aj3(R_:RB0)(p_b0:bg)(p_level:Int):Mo (Unit):=
 .iG 4002 (decide ((p_level:Int)≤16)) (.say [.res (.tup [])] ok0<|
 .ask (Gx (decide ((p_b0.KI:Int)<1024)) 2) fun r0 h0=>
 .say [] (ok1 (oh _ _ _ h0))<|
 .rt [0,1,4] 2 ())<|
 .say [.res (.tup [])] ok0<|
 .ask (Gx false 2) fun r1 h1=>
 .say [] (ok1 (oh _ _ _ h1))<|
 .rt [0,1,4] 2 ()
def aj6(R_:RB0)(b0:UInt8)(p_level:Int)(r0:ByteArray×bg):Mo (Bool):=
 .iB ((IntKind.wrap .i64 (b0.toNat:Int))==1) (.rt [0,1,4,5,29,32] 4 ((IntKind.wrap .i64 (b0.toNat:Int))==1))<|
 .iB ((IntKind.wrap .i64 (b0.toNat:Int))==2) (.rt [0,1,4,5,29,32] 4 ((IntKind.wrap .i64 (b0.toNat:Int))==2))<|
 .rt [0,1,4,5,29,32] 4 ((IntKind.wrap .i64 (b0.toNat:Int))==11)
def ahU(R_:RB0)(b0:UInt8)(p_level:Int)(r0:Int×bg):(Int×bg×(List ah))→Mo ((Int×bg×(List ah))⊕(bg×(List ah))):=fun(v0,s354,l0)=>
 .iB (decide ((v0:Int)<r0.1)) (.ask (R_.m1 (IntKind.wrap .i64 (p_level+1)) s354) fun r1 h0=>
 .say [.jf (.q 0 (.q 2 (.q 3 (.q 4 (.alt 1 (.l 5 (.l 6 (.l 7 (.q 8 (.l 9 .fin))))) (.l 5 (.alt 1 (.l 6 (.l 7 (.q 8 (.l 9 .fin)))) (.l 6 (.l 1 (.l 7 (.q 8 (.l 9 .fin)))))))))))) (some 9) [0,3,4,5] [.both [.at_ 54 1,.resv 2,.jm [0] (.dat (ah.lf1 r1.1)) [fG r1.2],.slot 4,.rows ((l0++[r1.1]).map ah.lf),.slot 5] [.at_ 54 5,.resv 2,.jm [0] (.dat (ah.lf1 r1.1)) [fG r1.2],.both [.slot 4,.rows ((l0++[r1.1]).map ah.lf),.slot 5] [.slot 4,.rows ((l0++[r1.1]).map ah.lf),.slot 5]]] [0,1,4,5,79,80] 6 [(0,.ptr 0 0),(1,.i_ p_level),(4,.ptr 1 0),(5,.ptr 2 0),(79,.i_ r0.1),(80,.i_ v0)] [fG r1.2,.box 25 (.agg [.i_ 0,.i_ 0,.lf (.str ⟨#[]⟩),.cu 5,.cu 6]),.box 25 (.agg [.i_ (IntKind.wrap .i64 (b0.toNat:Int)),.i_ 0,.lf (.str ⟨#[]⟩),.own 5,.cu 6]),.dead,.row 25 5 [(ah.lf1 r1.1)],.row 25 5 ((l0++[r1.1]).map ah.lf)]] (okc (R_.ok1 _ _ _ h0) (ok1 (ap_ ah.aX l0 r1.1)))<|
 .grd ((l0.length+[r1.1].length)*80≤140737488355328) fun h1=>
 .say [] (okc (cp_ ah.lf h1) (okc (rf_ ⟨[(0,.ptr 0 0),(1,.i_ p_level),(4,.ptr 1 0),(5,.ptr 2 0),(79,.i_ r0.1),(80,.i_ v0)],[fG r1.2,.box 25 (.agg [.i_ 0,.i_ 0,.lf (.str ⟨#[]⟩),.cu 5,.cu 6]),.box 25 (.agg [.i_ (IntKind.wrap .i64 (b0.toNat:Int)),.i_ 0,.lf (.str ⟨#[]⟩),.own 5,.cu 6]),.dead,.row 25 5 [(ah.lf1 r1.1)],.row 25 5 ((l0++[r1.1]).map ah.lf)]⟩) (okc (R_.ok1 _ _ _ h0) (okc (ap_ ah.aX l0 r1.1) (okc (cp_ ah.lf h1) (okc (rf_ ⟨[(0,.ptr 0 0),(1,.i_ p_level),(4,.ptr 1 0),(5,.ptr 2 0),(79,.i_ r0.1),(80,.i_ v0)],[fG r1.2,.box 25 (.agg [.i_ 0,.i_ 0,.lf (.str ⟨#[]⟩),.cu 5,.cu 6]),.box 25 (.agg [.i_ (IntKind.wrap .i64 (b0.toNat:Int)),.i_ 0,.lf (.str ⟨#[]⟩),.own 5,.cu 6]),.dead,.row 25 5 [(ah.lf1 r1.1)],.row 25 5 ((l0++[r1.1]).map ah.lf)]⟩) (okc (ap_ ah.aX l0 r1.1) (okc (cp_ ah.lf h1) (ok1 (rf_ ⟨[(0,.ptr 0 0),(1,.i_ p_level),(4,.ptr 1 0),(5,.ptr 2 0),(79,.i_ r0.1),(80,.i_ v0)],[fG r1.2,.box 25 (.agg [.i_ 0,.i_ 0,.lf (.str ⟨#[]⟩),.cu 5,.cu 6]),.box 25 (.agg [.i_ (IntKind.wrap .i64 (b0.toNat:Int)),.i_ 0,.lf (.str ⟨#[]⟩),.own 5,.cu 6]),.dead,.row 25 5 [(ah.lf1 r1.1)],.row 25 5 ((l0++[r1.1]).map ah.lf)]⟩))))))))))<|
 .ret ⟨[],[0,1,4,5,79,80],[(5,3)],4⟩ (.inl (IntKind.wrap .i64 (v0+1),r1.2,l0++[r1.1])))<|
 .rt [4,5] 4 (.inr (s354,l0))
def ahV(R_:RB0)(b0:UInt8)(p_level:Int)(r0:ByteArray×bg):Mo ((bg×ah)):=
 .jk Tryz.f223 1 [1,1,1,1,0,1,0,0,1] 1 (fun r_=>⟨[(0,.ptr 0 0),(1,.i_ p_level),(4,.ptr 1 0),(5,.ptr 2 0),(29,.i_ (IntKind.wrap .i64 (b0.toNat:Int))),(32,.b_ r_)],[fG r0.2,.box 25 (.agg [.i_ 0,.i_ 0,.lf (.str ⟨#[]⟩),.cu 5,.cu 6]),.box 25 (.agg [.i_ (IntKind.wrap .i64 (b0.toNat:Int)),.i_ 0,.lf (.str ⟨#[]⟩),.own 3,.cu 6]),.row 25 5 []]⟩) ⟨[(0,.ptr 0 0),(1,.i_ p_level),(4,.ptr 1 0),(5,.ptr 2 0),(29,.i_ (IntKind.wrap .i64 (b0.toNat:Int))),(32,.lf (.bool ((IntKind.wrap .i64 (b0.toNat:Int))==1)))],[fG r0.2,.box 25 (.agg [.i_ 0,.i_ 0,.lf (.str ⟨#[]⟩),.cu 5,.cu 6]),.box 25 (.agg [.i_ (IntKind.wrap .i64 (b0.toNat:Int)),.i_ 0,.lf (.str ⟨#[]⟩),.own 3,.cu 6]),.row 25 5 []]⟩ (aj6 R_ b0 p_level r0) fun r1=>
 .iB (r1) (.say [] (ok1 (by simp[ah.aX]:([]:List ah).map ah.lf=[]))<|
 .ret ⟨[.yg 3 (([]:List ah).map ah.lf),.norm 2],[4,5],[],4⟩ (r0.2,ah.mk (IntKind.wrap .i64 (b0.toNat:Int)) 0 ⟨#[]⟩ ([]:List ah) []))<|
 .iB ((IntKind.wrap .i64 (b0.toNat:Int))==3) (.ask (ath r0.2) fun r2 h0=>
 .say [.jm [0] (.i_ r2.1) [fG r2.2]] (okc (V4 _ _ h0) (ok1 (by simp[ah.aX]:([]:List ah).map ah.lf=[])))<|
 .ret ⟨[.yg 3 (([]:List ah).map ah.lf),.norm 2],[4,5],[],4⟩ (r2.2,ah.mk (IntKind.wrap .i64 (b0.toNat:Int)) r2.1 ⟨#[]⟩ ([]:List ah) []))<|
 .iB ((IntKind.wrap .i64 (b0.toNat:Int))==10) (.ask (aj1 r0.2) fun r3 h1=>
 .say [.jm [0] (.i_ r3.1) [fG r3.2]] (okc (JO _ _ h1) (ok1 (by simp[ah.aX]:([]:List ah).map ah.lf=[])))<|
 .ret ⟨[.yg 3 (([]:List ah).map ah.lf),.norm 2],[4,5],[],4⟩ (r3.2,ah.mk (IntKind.wrap .i64 (b0.toNat:Int)) r3.1 ⟨#[]⟩ ([]:List ah) []))<|
 .iB ((IntKind.wrap .i64 (b0.toNat:Int))==9) (.cH [0] (Ea 1 r0.2) fun r4 _=>
 .ask (jY r4.1 0) fun b1 h2=>
 .say [.byt b1,.res (.tup [])] (ok1 (eY h2))<|
 .ask (Gx (decide ((IntKind.wrap .i64 (b1.toNat:Int):Int)≤1)) 4) fun r5 h3=>
 .say [] (okc (oh _ _ _ h3) (ok1 (by simp[ah.aX]:([]:List ah).map ah.lf=[])))<|
 .ret ⟨[.yg 3 (([]:List ah).map ah.lf),.norm 2],[4,5],[],4⟩ (r4.2,ah.mk (IntKind.wrap .i64 (b0.toNat:Int)) (IntKind.wrap .i64 (b1.toNat:Int)) ⟨#[]⟩ ([]:List ah) []))<|
 .iB ((IntKind.wrap .i64 (b0.toNat:Int))==4) (.cH [0] (afF r0.2) fun r6 _=>
 .ask (atb r6.1) fun r7 h4=>
 .say [.res (.b_ r7),.res (.tup [])] (ok1 (afD _ _ h4))<|
 .ask (Gx r7 4) fun r8 h5=>
 .say [] (okc (oh _ _ _ h5) (ok1 (by simp[ah.aX]:([]:List ah).map ah.lf=[])))<|
 .ret ⟨[.yg 3 (([]:List ah).map ah.lf),.norm 2],[4,5],[],4⟩ (r6.2,ah.mk (IntKind.wrap .i64 (b0.toNat:Int)) 0 r6.1 ([]:List ah) []))<|
 .iB ((IntKind.wrap .i64 (b0.toNat:Int))==7) (.ask (awj r0.2) fun r9 h6=>
 .say [.jm [0] (.lf (.str r9.1)) [fG r9.2]] (okc (afF _ _ h6) (ok1 (by simp[ah.aX]:([]:List ah).map ah.lf=[])))<|
 .ret ⟨[.yg 3 (([]:List ah).map ah.lf),.norm 2],[4,5],[],4⟩ (r9.2,ah.mk (IntKind.wrap .i64 (b0.toNat:Int)) 0 r9.1 ([]:List ah) []))<|
 .iB ((IntKind.wrap .i64 (b0.toNat:Int))==8) (.ask (awh 12 r0.2) fun r10 h7=>
 .say [.jm [0] (.lf (.str r10.1)) [fG r10.2]] (okc (Ea _ _ _ h7) (ok1 (by simp[ah.aX]:([]:List ah).map ah.lf=[])))<|
 .ret ⟨[.yg 3 (([]:List ah).map ah.lf),.norm 2],[4,5],[],4⟩ (r10.2,ah.mk (IntKind.wrap .i64 (b0.toNat:Int)) 0 r10.1 ([]:List ah) []))<|
 .iB ((IntKind.wrap .i64 (b0.toNat:Int))==6) (.ask (aj1 r0.2) fun r11 h8=>
 .say [.jm [0] (.i_ r11.1) [fG r11.2]] (okc (JO _ _ h8) (ok1 (by simp[ah.aX]:(([]:List ah).map ah.lf)=[])))<|
 .l1y [.mF 3 (([]:List ah).map ah.lf)] Tryz.f223 1 [1,1,1,1,0,1,0,1,1,1,1,1,1,1,1,1,1,1,1,1,1,1,0,1,0] 0 (.exit 1) (fun(v0,s354,l0)=>⟨[(0,.ptr 0 0),(1,.i_ p_level),(4,.ptr 1 0),(5,.ptr 2 0),(79,.i_ r11.1),(80,.i_ v0)],[fG s354,.box 25 (.agg [.i_ 0,.i_ 0,.lf (.str ⟨#[]⟩),.cu 5,.cu 6]),.box 25 (.agg [.i_ (IntKind.wrap .i64 (b0.toNat:Int)),.i_ 0,.lf (.str ⟨#[]⟩),.own 3,.cu 6]),.row 25 5 (l0.map ah.lf)]⟩) (fun r_=>⟨[(4,.ptr 1 0),(5,.ptr 2 0)],[fG r_.1,.box 25 (.agg [.i_ 0,.i_ 0,.lf (.str ⟨#[]⟩),.cu 5,.cu 6]),.box 25 (.agg [.i_ (IntKind.wrap .i64 (b0.toNat:Int)),.i_ 0,.lf (.str ⟨#[]⟩),.own 3,.cu 6]),.row 25 5 (r_.2.map ah.lf)]⟩) (ahU R_ b0 p_level r11) (0,r11.2,([]:List ah)) fun r12=>
 .ret ⟨[.frz 3,.norm 2],[4,5],[],4⟩ (r12.1,ah.mk (IntKind.wrap .i64 (b0.toNat:Int)) 0 ⟨#[]⟩ r12.2 []))<|
 .say [.br true] ok0<|
 .ite ((IntKind.wrap .i64 (b0.toNat:Int))==5) (fun c0=>
 .say [] (ok1 c0)<|
 .ask (R_.m2 (IntKind.wrap .i64 (p_level+1)) r0.2) fun r13 h9=>
 .say [.jm [0] (.lf (.rows 6 (r13.1.map aJ.lf))) [fG r13.2]] (okc (R_.ok2 _ _ _ h9) (ok1 (by simp[ah.aX]:([]:List ah).map ah.lf=[])))<|
 .ret ⟨[.yg 3 (([]:List ah).map ah.lf),.norm 2],[4,5],[],4⟩ (r13.2,ah.mk (IntKind.wrap .i64 (b0.toNat:Int)) 0 ⟨#[]⟩ ([]:List ah) r13.1)) fun c0=>
 .stop
def ar1(R_:RB0)(p_level:Int)(p_b0:bg):Mo (ah×bg):=
 .jk Tryz.f223 1 [1,0] 9 (fun r_=>⟨[(0,.ptr 0 0),(1,.i_ p_level),(4,.ptr 1 0)],[fG p_b0,.box 25 (.agg [.i_ 0,.i_ 0,.lf (.str ⟨#[]⟩),.cu 5,.cu 6])]⟩) ⟨[(0,.ptr 0 0),(1,.i_ p_level),(4,.ptr 1 0)],[fG p_b0,.box 25 (.agg [.i_ 0,.i_ 0,.lf (.str ⟨#[]⟩),.cu 5,.cu 6])]⟩ (aj3 R_ p_b0 p_level) fun r0=>
 .cH [0] (Ea 1 (bg.mk p_b0.fs p_b0.fat (IntKind.wrap .i64 (p_b0.KI+1)))) fun r1 _=>
 .ask (jY r1.1 0) fun b0 h0=>
 .say [.byt b0] (ok1 (eY h0))<|
 .jy [.aot 2 3 25] Tryz.f223 1 [1,1,1,1,0,1] 6 (.normal) (fun r_=>⟨[(4,.ptr 1 0),(5,.ptr 2 0)],[fG r_.1,.box 25 (.agg [.i_ 0,.i_ 0,.lf (.str ⟨#[]⟩),.cu 5,.cu 6]),aZ r_.2,.dead]⟩) ⟨[(0,.ptr 0 0),(1,.i_ p_level),(4,.ptr 1 0),(5,.ptr 2 0),(29,.i_ (IntKind.wrap .i64 (b0.toNat:Int)))],[fG r1.2,.box 25 (.agg [.i_ 0,.i_ 0,.lf (.str ⟨#[]⟩),.cu 5,.cu 6]),.box 25 (.agg [.i_ (IntKind.wrap .i64 (b0.toNat:Int)),.i_ 0,.lf (.str ⟨#[]⟩),.own 3,.cu 6]),.row 25 5 []]⟩ (ahV R_ b0 p_level r1) fun r2=>
 .ret ⟨[.kill 1,.kill 2],[0],[],1⟩ (r2.2,r2.1)
theorem ao5(R_:RB0):acN fun p_level p_b0=>Mo.den (ar1 R_ p_level p_b0):=fun _ _=>eP Tryz.func223
def ahW(R_:RB0)(l0:List aJ)(m756:List (ByteArray×Bool))(p_level:Int)(r0:Int×bg)(r1:Int×bg)(v0:Int):Mo (Unit):=
 .iG 14002 (decide ((1:Int)≤r1.1)) (.say [.res (.tup [])] ok0<|
 .ask (Gx (decide ((r1.1:Int)≤32)) 4) fun r2 h0=>
 .say [] (ok1 (oh _ _ _ h0))<|
 .rt [0,1,5,6,7,11,12] 3 ())<|
 .say [.res (.tup [])] ok0<|
 .ask (Gx false 4) fun r3 h1=>
 .say [] (ok1 (oh _ _ _ h1))<|
 .rt [0,1,5,6,7,11,12] 3 ()
def ahX(R_:RB0)(l0:List aJ)(m756:List (ByteArray×Bool))(p_level:Int)(r0:Int×bg)(r1:ByteArray×bg)(v0:Int):Mo (Unit):=
 .cl (ao4 r1.1) fun r2 _=>
 .iG 18002 (r2) (.say [.row [.bool (uX m756 r1.1 false)],.res (.tup [])] (okc (rfl:Tryz.prog=Tryz.prog) (ok1 (Gu _ _ _:oz (m756.map mvB) r1.1 (.bool false)=(.bool (uX m756 r1.1 false)))))<|
 .ask (Gx (!(uX m756 r1.1 false)) 4) fun r3 h0=>
 .say [] (ok1 (oh _ _ _ h0))<|
 .rt [0,1,5,6,8,11,12] 3 ())<|
 .say [.res (.tup [])] ok0<|
 .ask (Gx false 4) fun r4 h1=>
 .say [] (ok1 (oh _ _ _ h1))<|
 .rt [0,1,5,6,8,11,12] 3 ()
def acO(R_:RB0)(p_level:Int)(r0:Int×bg):(Int×bg×(List (ByteArray×Bool))×(List aJ))→Mo ((Int×bg×(List (ByteArray×Bool))×(List aJ))⊕(bg×(List aJ))):=fun(v0,s755,m756,l0)=>
 .iB (decide ((v0:Int)<r0.1)) (.cH [0] (V4 s755) fun r1 _=>
 .jk Tryz.f288 1 [1,1,1,0,1,0,0,1,1,0,0,1,0] 19 (fun r_=>⟨[(0,.ptr 0 0),(1,.i_ p_level),(5,.own 2),(6,.mp 1),(7,.i_ r1.1),(11,.i_ r0.1),(12,.i_ v0)],[fG r1.2,.map Tryz.prog 9 4 (m756.map mvB),.row 115 6 (l0.map aJ.lf)]⟩) ⟨[(0,.ptr 0 0),(1,.i_ p_level),(5,.own 2),(6,.mp 1),(7,.i_ r1.1),(11,.i_ r0.1),(12,.i_ v0)],[fG r1.2,.map Tryz.prog 9 4 (m756.map mvB),.row 115 6 (l0.map aJ.lf)]⟩ (ahW R_ l0 m756 p_level r0 r1 v0) fun r2=>
 .cH [0] (Ea r1.1 r1.2) fun r3 _=>
 .jk Tryz.f288 1 [1,1,1,0,1,0,0,1,1,0,0,1,1,1,0] 23 (fun r_=>⟨[(0,.ptr 0 0),(1,.i_ p_level),(5,.own 2),(6,.mp 1),(8,.lf (.str r3.1)),(11,.i_ r0.1),(12,.i_ v0)],[fG r3.2,.map Tryz.prog 9 4 (m756.map mvB),.row 115 6 (l0.map aJ.lf)]⟩) ⟨[(0,.ptr 0 0),(1,.i_ p_level),(5,.own 2),(6,.mp 1),(8,.lf (.str r3.1)),(11,.i_ r0.1),(12,.i_ v0)],[fG r3.2,.map Tryz.prog 9 4 (m756.map mvB),.row 115 6 (l0.map aJ.lf)]⟩ (ahX R_ l0 m756 p_level r0 r3 v0) fun r4=>
 .say [] (ok1 (rfl:Tryz.prog=Tryz.prog))<|
 .grd (m756.length<maxLen) fun h0=>
 .say [] (ok1 (by simpa using h0:(m756.map mvB).length<maxLen))<|
 .ask (R_.m1 p_level r3.2) fun r5 h1=>
 .say [.jm [0] (.dat (ah.lf1 r5.1)) [fG r5.2],.rows ((l0++[aJ.mk r3.1 r5.1]).map aJ.lf)] (okc (R_.ok1 _ _ _ h1) (ok1 (by simp[aJ.aX]:(l0++[aJ.mk r3.1 r5.1]).map aJ.lf=(l0.map aJ.lf)++[(aJ.lf1 (aJ.mk r3.1 r5.1))])))<|
 .grd ((l0.length+[aJ.mk r3.1 r5.1].length)*96≤140737488355328) fun h2=>
 .say [] (ok1 (cp_ aJ.lf h2))<|
 .ret ⟨[],[0,1,5,6,11,12],[(4,2)],3⟩ (.inl (IntKind.wrap .i64 (v0+1),r5.2,(r3.1,true)::m756,l0++[aJ.mk r3.1 r5.1])))<|
 .ret ⟨[.kill 1],[5],[],3⟩ (.inr (s755,l0))
def aj7(R_:RB0)(p_level:Int)(p_b0:bg):Mo ((List aJ)×bg):=
 .ask (aj1 p_b0) fun r0 h0=>
 .say [.jm [0] (.i_ r0.1) [fG r0.2]] (okc (JO _ _ h0) (ok1 (by simp[aJ.aX]:(([]:List aJ).map aJ.lf)=[])))<|
 .l1y [.uw 5 115 6,.mF 2 (([]:List aJ).map aJ.lf)] Tryz.f288 1 [1,1,1,0,1,0] 0 (.exit 0) (fun(v0,s755,m756,l0)=>⟨[(0,.ptr 0 0),(1,.i_ p_level),(5,.own 2),(6,.mp 1),(11,.i_ r0.1),(12,.i_ v0)],[fG s755,.map Tryz.prog 9 4 (m756.map mvB),.row 115 6 (l0.map aJ.lf)]⟩) (fun r_=>⟨[(5,.own 2)],[fG r_.1,.dead,.row 115 6 (r_.2.map aJ.lf)]⟩) (acO R_ p_level r0) (0,r0.2,([]:List (ByteArray×Bool)),([]:List aJ)) fun r1=>
 .ret ⟨[.frz 2],[0],[],1⟩ (r1.2,r1.1)
theorem aj8(R_:RB0):aj2 fun p_level p_b0=>Mo.den (aj7 R_ p_level p_b0):=fun _ _=>eP Tryz.func288
def Qc:Nat→RB0
 |0=>{ m1:=fun p_level p_b0=>none,ok1:=fun _ _ _ h=>(by cases h),m2:=fun p_level p_b0=>none,ok2:=fun _ _ _ h=>(by cases h) }
 |n_+1=>{ m1:=fun p_level p_b0=>Mo.den (ar1 (Qc n_) p_level p_b0),ok1:=ao5 (Qc n_),m2:=fun p_level p_b0=>Mo.den (aj7 (Qc n_) p_level p_b0),ok2:=aj8 (Qc n_) }
def Q95(p_level:Int)(p_b0:bg):Option (ah×bg):=(Qc FU).m1 p_level p_b0
theorem aj9:acN Q95:=(Qc FU).ok1
end
end Go.Proofs.YtflpefkohpjjpaaGreatDoor
