/- Printed by dec.py. -/
import Derived.Test.YtbdcaeahocbkbaaGreatDoorQAAp4
set_option linter.unusedSimpArgs false
set_option linter.unusedVariables false
namespace Go.Proofs.YtbdcaeahocbkbaaGreatDoor
open Go.RowKit
set_option maxRecDepth 20000
set_option maxHeartbeats 4000000
noncomputable section
def Qw(p_p:aP)(r0:Bool):Mo (Bool):=
 .aC 4009 (r0) [1,2,16] 1 (afD p_p.fArg)
def Lm(p_p:aP)(r0:Bool):Mo (Bool):=
 .aC 4049 (r0) [1,2,56] 1 (apa p_p.fExpr)
def ac2(p_p:aP):Mo (Bool):=
 .sf Tryz.f98 0 [1,0] 0 9 1 [(1,.ptr 0 0),(2,.b_ false)] [dB p_p] 11 (um p_p) fun r0=>
 .sb Tryz.f98 0 [1,0] 9 5 1 [(1,.ptr 0 0),(2,.b_ false)] [dB p_p] 11 16 r0 (Qw p_p r0) fun r1=>
 .sb Tryz.f98 0 [1,0] 14 6 1 [(1,.ptr 0 0),(2,.b_ false)] [dB p_p] 16 22 r1 (zA p_p r1) fun r2=>
 .sb Tryz.f98 0 [1,0] 20 5 1 [(1,.ptr 0 0),(2,.b_ false)] [dB p_p] 22 27 r2 (zB p_p r2) fun r3=>
 .sb Tryz.f98 0 [1,0] 25 5 1 [(1,.ptr 0 0),(2,.b_ false)] [dB p_p] 27 32 r3 (zC p_p r3) fun r4=>
 .sb Tryz.f98 0 [1,0] 30 6 1 [(1,.ptr 0 0),(2,.b_ false)] [dB p_p] 32 38 r4 (zF p_p r4) fun r5=>
 .sb Tryz.f98 0 [1,0] 36 7 1 [(1,.ptr 0 0),(2,.b_ false)] [dB p_p] 38 45 r5 (zG p_p r5) fun r6=>
 .sb Tryz.f98 0 [1,0] 43 6 1 [(1,.ptr 0 0),(2,.b_ false)] [dB p_p] 45 51 r6 (zH p_p r6) fun r7=>
 .sb Tryz.f98 0 [1,0] 49 5 1 [(1,.ptr 0 0),(2,.b_ false)] [dB p_p] 51 56 r7 (Lm p_p r7) fun r8=>
 .sk Tryz.f98 0 [1,0] 54 6 1 (fun r_=>⟨[(2,.b_ false),(62,.b_ r_)],[.dead]⟩) ⟨[(1,.ptr 0 0),(2,.b_ false),(56,.b_ r8)],[dB p_p]⟩ (zJ p_p r8) fun r9=>
 .sk Tryz.f98 0 [1,0] 60 1 1 (fun r_=>⟨[(2,.b_ r9)],[.dead]⟩) ⟨[(2,.b_ false),(62,.b_ r9)],[.dead]⟩ (dG r9) fun r10=>
 .ret (aY 1) (r9)
def apb(p_p:aP):Option (Bool):=Mo.den (ac2 p_p)
theorem apc(p_p:aP):FV (apb p_p) 98 [.dat (aP.lf1 p_p)] .b_:=cO Tryz.func98
def GV(p_x:aU):Mo (Bool):=
 .oV 8003 (decide ((p_x.aK:Int)<1)) [1,16] 2 (decide ((3:Int)<p_x.aK))
def GX(p_x:aU):Mo (Bool):=
 .nu p_x.gU bf.lf<|
 .iG 18004 ((p_x.gU.length:Int)==0) (.rt [1,48] 2 (true))<|
 .iG 18008 (p_x.aK != 1) (.nu p_x.gU bf.lf<|
 .iG 18013 (decide ((1:Int)<(p_x.gU.length:Int))) (.rt [1,48] 2 (true))<|
 .gx bf.aX p_x.gU 0 fun x0 _=>
 .oV 18020 (x0.Il) [1,48] 2 (p_x.jG))<|
 .rt [1,48] 2 (false)
def ac3(p_x:aU):Mo (Int):=
 .say [.at_ 4 3,.NP 1 ([p_x.fName].map lfS)] (ok1 (by simp[lfS]:[p_x.fName].map lfS=[(lfS p_x.fName)]))<|
 .cl (DL [p_x.fName]) fun r0 _=>
 .iB (!r0) (.ret (aY 1) (9))<|
 .jk Tryz.f63 0 [1,1,0,0] 13 (fun r_=>⟨[(1,.ptr 0 0),(16,.b_ r_)],[mY p_x,.dead]⟩) ⟨[(1,.ptr 0 0)],[mY p_x,.dead]⟩ (GV p_x) fun r1=>
 .iB (r1) (.ret (aY 1) (8))<|
 .cl (ath p_x.gU) fun r2 _=>
 .iB (r2 != 0) (.ret (aY 1) (r2))<|
 .jk Tryz.f63 0 [1,1,1,1,0,0] 23 (fun r_=>⟨[(1,.ptr 0 0),(48,.b_ r_)],[mY p_x,.dead]⟩) ⟨[(1,.ptr 0 0)],[mY p_x,.dead]⟩ (GX p_x) fun r3=>
 .iB (r3) (.ret (aY 1) (11))<|
 .iB (p_x.lQ) (.cl (ao7 p_x.jr) fun r4 _=>
 .ret (aY 1) (r4))<|
 .cl (apc p_x.jr) fun r5 _=>
 .iB (!r5) (.ret (aY 1) (4))<|
 .ret (aY 1) (0)
def YX(p_x:aU):Option (Int):=Mo.den (ac3 p_x)
theorem afE(p_x:aU):FV (YX p_x) 63 [.dat (aU.lf1 p_x)] .i_:=cO Tryz.func63
def ac4(p_x:aU)(p_b0:ByteArray):Mo (Bool):=
 .ret ⟨[.kill 1],[0],[],1⟩ (decide ((p_x.fName:ByteArray)=(p_b0:ByteArray)))
def atv(p_x:aU)(p_b0:ByteArray):Option (Bool):=Mo.den (ac4 p_x p_b0)
theorem apd(p_x:aU)(p_b0:ByteArray):FH (atv p_x p_b0) 137 [.dat (aU.lf1 p_x),.ptr 0 0] [.box 9 (.dat [(.str p_b0)])] .b_ (fun _=>[.box 9 (.dat [(.str p_b0)])]):=ig Tryz.func137
def yB(p_b0:ByteArray)(p_s:List aU):(Int)→Mo ((Int)⊕(Int)⊕Unit):=fun(v0)=>
 .iB (decide ((v0:Int)<(p_s.length:Int))) (.gx aU.aX p_s v0 fun x0 _=>
 .cH [0] (apd x0 p_b0) fun r0 _=>
 .iB (r0) (.rt [4] 1 (.inr (.inl (v0))))<|
 .rt [0,1,7,8] 1 (.inl (IntKind.wrap .i64 (v0+1))))<|
 .rt [] 1 (.inr (.inr (())))
def ac5(p_b0:ByteArray)(p_s:List aU)(v0:Int):Option ((Int)⊕Unit):=bQ (fun v_=>(yB p_b0 p_s v_).den) FU (v0)
def akX(p_s:List aU)(p_b0:ByteArray):Mo (Int):=
 .nu p_s aU.lf<|
 .l2m [] Tryz.f136 1 [1,0,1,0] 0 (fun(v0)=>⟨[(0,.lf (.rows 31 (p_s.map aU.lf))),(1,.clo 137 [.ptr 0 0]),(7,.i_ (p_s.length:Int)),(8,.i_ v0)],[.box 9 (.dat [(.str p_b0)])]⟩) .ret (fun o_=>⟨[(4,.i_ o_)],[.box 9 (.dat [(.str p_b0)])]⟩) (.exit 0) (fun _=>⟨[],[.box 9 (.dat [(.str p_b0)])]⟩) (ac5 p_b0 p_s 0) (yB p_b0 p_s) (0) (fun o0=>
 .rt [0] 1 (o0)) fun o1=>
 .rt [0] 1 ((-1))
def Q53(p_s:List aU)(p_b0:ByteArray):Option (Int):=Mo.den (akX p_s p_b0)
theorem atw(p_s:List aU)(p_b0:ByteArray):FH (Q53 p_s p_b0) 136 [.lf (.rows 31 (p_s.map aU.lf)),.clo 137 [.ptr 0 0]] [.box 9 (.dat [(.str p_b0)])] .i_ (fun _=>[.box 9 (.dat [(.str p_b0)])]):=ig Tryz.func136
def ac6(p_l:List aU)(p_name:ByteArray):Mo (Int):=
 .cH [0] (atw p_l p_name) fun r0 _=>
 .ret (aY 1) (r0)
def akY(p_l:List aU)(p_name:ByteArray):Option (Int):=Mo.den (ac6 p_l p_name)
theorem ape(p_l:List aU)(p_name:ByteArray):FV (akY p_l p_name) 93 [.lf (.rows 31 (p_l.map aU.lf)),.lf (.str p_name)] .i_:=cO Tryz.func93
def Lp(p_s:ByteArray):(Int)→Mo ((Int)⊕(Unit⊕Unit)):=fun(v0)=>
 .iB (decide ((v0:Int)<(p_s.size:Int))) (.sf Tryz.f233 0 [1,1,0,1,0,0,1,1,0,0,1,0] 0 10 6 [(0,.lf (.str p_s)),(3,.i_ v0),(18,.i_ (p_s.size:Int)),(19,.i_ v0)] [] 31 (kF p_s v0) fun r0=>
 .sk Tryz.f233 0 [1,1,0,1,0,0,1,1,0,0,1,0] 10 6 6 (fun r_=>⟨[(0,.lf (.str p_s)),(18,.i_ (p_s.size:Int)),(19,.i_ v0),(37,.b_ r_)],[]⟩) ⟨[(0,.lf (.str p_s)),(3,.i_ v0),(18,.i_ (p_s.size:Int)),(19,.i_ v0),(31,.b_ r0)],[]⟩ (kG p_s r0 v0) fun r1=>
 .iB (r1) (.rt [2] 0 (.inr (.inl ())))<|
 .rt [0,18,19] 0 (.inl (IntKind.wrap .i64 (v0+1))))<|
 .rt [] 0 (.inr (.inr (())))
def akZ(p_s:ByteArray):Mo (Bool):=
 .sf Tryz.f233 0 [1,0,0] 0 8 1 [(0,.lf (.str p_s))] [] 11 (kD p_s) fun r0=>
 .sb Tryz.f233 0 [1,0,0] 8 5 1 [(0,.lf (.str p_s))] [] 11 16 r0 (kE p_s r0) fun r1=>
 .iB (r1) (.ret (aY 1) (false))<|
 .l2 Tryz.f233 0 [1,1,0,1,0] 0 (fun(v0)=>⟨[(0,.lf (.str p_s)),(18,.i_ (p_s.size:Int)),(19,.i_ v0)],[]⟩) .ret (fun _=>⟨[(2,.b_ false)],[]⟩) (.exit 0) (fun _=>⟨[],[]⟩) (Lp p_s) (0) (fun o0=>
 .ret (aY 1) (false)) fun o1=>
 .ret (aY 1) (true)
def apf(p_s:ByteArray):Option (Bool):=Mo.den (akZ p_s)
theorem afF(p_s:ByteArray):FV (apf p_s) 233 [.lf (.str p_s)] .b_:=cO Tryz.func233
def YZ(p_v:ah):Mo (Bool):=
 .aV 8003 (p_v.aK==0) [3,4,15] 1 (p_v.je==0)
def Y0(p_v:ah)(r0:Bool):Mo (Bool):=
 .aV 8008 (r0) [3,4,20] 1 (decide ((p_v.fText:ByteArray)=(⟨#[]⟩:ByteArray)))
def Qx(p_v:ah)(r0:Bool):Mo (Bool):=
 .iG 8013 (r0) (.nu p_v.bF ah.lf<|
 .rt [3,4,26] 1 ((p_v.bF.length:Int)==0))<|
 .rt [3,4,26] 1 (false)
def Qy(p_v:ah)(r0:Bool):Mo (Bool):=
 .iG 8019 (r0) (.nu p_v.bC aN.lf<|
 .ret ⟨[.kill 0],[4,32],[],1⟩ ((p_v.bC.length:Int)==0))<|
 .ret ⟨[.kill 0],[4,32],[],1⟩ (false)
def Ac(r0:Bool):Mo (Unit):=
 .rt [4] 1 ()
def ak0(p_has:Bool)(p_v:ah):Mo (Bool):=
 .iB (p_has) (.cl (rZ p_v) fun r0 _=>
 .ret (aY 1) (r0))<|
 .sf Tryz.f234 0 [1,1,0] 0 8 3 [(3,.ptr 0 0),(4,.b_ false)] [bG p_v] 15 (YZ p_v) fun r1=>
 .sb Tryz.f234 0 [1,1,0] 8 5 3 [(3,.ptr 0 0),(4,.b_ false)] [bG p_v] 15 20 r1 (Y0 p_v r1) fun r2=>
 .sb Tryz.f234 0 [1,1,0] 13 6 3 [(3,.ptr 0 0),(4,.b_ false)] [bG p_v] 20 26 r2 (Qx p_v r2) fun r3=>
 .sk Tryz.f234 0 [1,1,0] 19 6 3 (fun r_=>⟨[(4,.b_ false),(32,.b_ r_)],[.dead]⟩) ⟨[(3,.ptr 0 0),(4,.b_ false),(26,.b_ r3)],[bG p_v]⟩ (Qy p_v r3) fun r4=>
 .sk Tryz.f234 0 [1,1,0] 25 1 3 (fun r_=>⟨[(4,.b_ r4)],[.dead]⟩) ⟨[(4,.b_ false),(32,.b_ r4)],[.dead]⟩ (Ac r4) fun r5=>
 .ret (aY 1) (r4)
def Q80(p_has:Bool)(p_v:ah):Option (Bool):=Mo.den (ak0 p_has p_v)
theorem ak1(p_has:Bool)(p_v:ah):FV (Q80 p_has p_v) 234 [.b_ p_has,.dat (ah.lf1 p_v)] .b_:=cO Tryz.func234
def VJ(m7706:List (ByteArray×Bool))(p_s:aI)(v0:Int)(x0:ByteArray):Mo (Bool):=
 .cl (afF x0) fun r0 _=>
 .iG 12003 (!r0) (.rt [1,3,5,13,14,15,26] 2 (true))<|
 .say [.row [.bool (xZ m7706 x0 false)]] (okc (rfl:Tryz.prog=Tryz.prog) (ok1 (JU _ _ _:oq (m7706.map mvB) x0 (.bool false)=(.bool (xZ m7706 x0 false)))))<|
 .rt [1,3,5,13,14,15,26] 2 (xZ m7706 x0 false)
def DW(p_s:aI):(Int×(List (ByteArray×Bool)))→Mo ((Int×(List (ByteArray×Bool)))⊕(Unit⊕Unit)):=fun(v0,m7706)=>
 .iB (decide ((v0:Int)<(p_s.eu.length:Int))) (.gx lS_ p_s.eu v0 fun x0 _=>
 .jk Tryz.f185 0 [1,1,0,1,0,0,1,1,0,0,1,0,0] 17 (fun r_=>⟨[(1,.ptr 0 0),(3,.mp 1),(5,.lf (.str x0)),(13,.lf (.rows 1 (p_s.eu.map lfS))),(14,.i_ (p_s.eu.length:Int)),(15,.i_ v0),(26,.b_ r_)],[gq p_s,.map Tryz.prog 9 4 (m7706.map mvB)]⟩) ⟨[(1,.ptr 0 0),(3,.mp 1),(5,.lf (.str x0)),(13,.lf (.rows 1 (p_s.eu.map lfS))),(14,.i_ (p_s.eu.length:Int)),(15,.i_ v0)],[gq p_s,.map Tryz.prog 9 4 (m7706.map mvB)]⟩ (VJ m7706 p_s v0 x0) fun r0=>
 .iB (r0) (.ret ⟨[.kill 0,.kill 1],[2],[],2⟩ (.inr (.inl ())))<|
 .say [] (ok1 (rfl:Tryz.prog=Tryz.prog))<|
 .grd (m7706.length<maxLen) fun h0=>
 .say [] (ok1 (by simpa using h0:(m7706.map mvB).length<maxLen))<|
 .rt [1,3,13,14,15] 2 (.inl (IntKind.wrap .i64 (v0+1),(x0,true)::m7706)))<|
 .ret ⟨[.kill 1],[1],[],2⟩ (.inr (.inr (())))
def ak2(p_s:aI)(v0:Int)(m7706:List (ByteArray×Bool)):Option (Unit⊕Unit):=bQ (fun v_=>(DW p_s v_).den) FU (v0,m7706)
def Lr(m7780:List (ByteArray×Bool))(p_s:aI)(v0:Int)(x0:bH):Mo (Bool):=
 .cl (afF x0.fName) fun r0 _=>
 .iG 28004 (!r0) (.rt [1,6,8,32,33,34,47] 4 (true))<|
 .say [.row [.bool (xZ m7780 x0.fName false)]] (okc (rfl:Tryz.prog=Tryz.prog) (ok1 (JU _ _ _:oq (m7780.map mvB) x0.fName (.bool false)=(.bool (xZ m7780 x0.fName false)))))<|
 .rt [1,6,8,32,33,34,47] 4 (xZ m7780 x0.fName false)
def yC(p_s:aI):(Int×(List (ByteArray×Bool)))→Mo ((Int×(List (ByteArray×Bool)))⊕(Unit⊕Unit)):=fun(v0,m7780)=>
 .iB (decide ((v0:Int)<(p_s.dD.length:Int))) (.gx bH.aX p_s.dD v0 fun x0 _=>
 .jk Tryz.f185 0 [1,1,1,1,0,1,0,0,1,1,0,0,1,0,0] 33 (fun r_=>⟨[(1,.ptr 0 0),(6,.mp 2),(8,.ptr 3 0),(32,.lf (.rows 22 (p_s.dD.map bH.lf))),(33,.i_ (p_s.dD.length:Int)),(34,.i_ v0),(47,.b_ r_)],[gq p_s,.dead,.map Tryz.prog 9 4 (m7780.map mvB),.box 192 (.agg ((bH.lf1 x0).map AV.lf))]⟩) ⟨[(1,.ptr 0 0),(6,.mp 2),(8,.ptr 3 0),(32,.lf (.rows 22 (p_s.dD.map bH.lf))),(33,.i_ (p_s.dD.length:Int)),(34,.i_ v0)],[gq p_s,.dead,.map Tryz.prog 9 4 (m7780.map mvB),.box 192 (.agg ((bH.lf1 x0).map AV.lf))]⟩ (Lr m7780 p_s v0 x0) fun r0=>
 .iB (r0) (.ret ⟨[.kill 0,.kill 2],[2],[],3⟩ (.inr (.inl ())))<|
 .say [] (ok1 (rfl:Tryz.prog=Tryz.prog))<|
 .grd (m7780.length<maxLen) fun h0=>
 .say [] (ok1 (by simpa using h0:(m7780.map mvB).length<maxLen))<|
 .rt [1,6,32,33,34] 3 (.inl (IntKind.wrap .i64 (v0+1),(x0.fName,true)::m7780)))<|
 .ret ⟨[.kill 2],[1],[],3⟩ (.inr (.inr (())))
def ac7(p_s:aI)(v0:Int)(m7780:List (ByteArray×Bool)):Option (Unit⊕Unit):=bQ (fun v_=>(yC p_s v_).den) FU (v0,m7780)
def Ls(p_s:aI):Mo (Bool):=
 .oV 36004 ((bZ .andNot .i64 p_s.jH 4094) != 0) [1,60] 3 (decide ((p_s.mG:Int)<0))
def Lu(p_s:aI)(r0:Bool):Mo (Bool):=
 .oV 36009 (r0) [1,65] 3 (decide ((p_s.mJ:Int)<(-1)))
def LC(p_s:aI)(r0:Bool):Mo (Bool):=
 .iG 36014 (r0) (.rt [1,71] 3 (true))<|
 .nu p_s.eP aI.lf<|
 .rt [1,71] 3 (decide ((1:Int)<(p_s.eP.length:Int)))
def LD(p_s:aI):Mo (Bool):=
 .cl (ak1 p_s.kU p_s.rM) fun r0 _=>
 .iG 40006 (!r0) (.rt [1,85] 3 (true))<|
 .cl (ak1 p_s.kV p_s.rO) fun r1 _=>
 .rt [1,85] 3 (!r1)
def yD(p_s:aI):(Int)→Mo ((Int)⊕(Unit⊕Unit)):=fun(v0)=>
 .iB (decide ((v0:Int)<(p_s.iZ.length:Int))) (.gx ah.aX p_s.iZ v0 fun x0 _=>
 .cl (rZ x0) fun r0 _=>
 .iB (!r0) (.rt [2] 3 (.inr (.inl ())))<|
 .rt [87,88,89] 3 (.inl (IntKind.wrap .i64 (v0+1))))<|
 .rt [] 3 (.inr (.inr (())))
def ac8(p_s:aI)(v0:Int):Option (Unit⊕Unit):=bQ (fun v_=>(yD p_s v_).den) FU (v0)
def atx(p_s:aI):Mo (Int):=
 .nu p_s.eu lfS<|
 .l2m [] Tryz.f185 0 [1,1,0,1,0] 0 (fun(v0,m7706)=>⟨[(1,.ptr 0 0),(3,.mp 1),(13,.lf (.rows 1 (p_s.eu.map lfS))),(14,.i_ (p_s.eu.length:Int)),(15,.i_ v0)],[gq p_s,.map Tryz.prog 9 4 (m7706.map mvB)]⟩) .ret (fun _=>⟨[(2,.i_ 9)],[.dead,.dead]⟩) (.exit 0) (fun _=>⟨[(1,.ptr 0 0)],[gq p_s,.dead]⟩) (ak2 p_s 0 ([]:List (ByteArray×Bool))) (DW p_s) (0,([]:List (ByteArray×Bool))) (fun o0=>
 .ret (aY 1) (9)) fun o1=>
 .nu p_s.dD bH.lf<|
 .l2m [] Tryz.f185 0 [1,1,1,1,0,1,0] 0 (fun(v1,m7780)=>⟨[(1,.ptr 0 0),(6,.mp 2),(32,.lf (.rows 22 (p_s.dD.map bH.lf))),(33,.i_ (p_s.dD.length:Int)),(34,.i_ v1)],[gq p_s,.dead,.map Tryz.prog 9 4 (m7780.map mvB)]⟩) .ret (fun _=>⟨[(2,.i_ 9)],[.dead,.dead,.dead]⟩) (.exit 2) (fun _=>⟨[(1,.ptr 0 0)],[gq p_s,.dead,.dead]⟩) (ac7 p_s 0 ([]:List (ByteArray×Bool))) (yC p_s) (0,([]:List (ByteArray×Bool))) (fun o2=>
 .ret (aY 1) (9)) fun o3=>
 .sf Tryz.f185 0 [1,1,1,1,1,0,0] 0 9 17 [(1,.ptr 0 0)] [gq p_s,.dead,.dead] 60 (Ls p_s) fun r0=>
 .sb Tryz.f185 0 [1,1,1,1,1,0,0] 9 5 17 [(1,.ptr 0 0)] [gq p_s,.dead,.dead] 60 65 r0 (Lu p_s r0) fun r1=>
 .sb Tryz.f185 0 [1,1,1,1,1,0,0] 14 6 17 [(1,.ptr 0 0)] [gq p_s,.dead,.dead] 65 71 r1 (LC p_s r1) fun r2=>
 .iB (r2) (.ret (aY 1) (1))<|
 .jk Tryz.f185 0 [1,1,1,1,1,1,0,0] 45 (fun r_=>⟨[(1,.ptr 0 0),(85,.b_ r_)],[gq p_s,.dead,.dead]⟩) ⟨[(1,.ptr 0 0)],[gq p_s,.dead,.dead]⟩ (LD p_s) fun r3=>
 .iB (r3) (.ret (aY 1) (8))<|
 .nu p_s.iZ ah.lf<|
 .l2m [.kill 0] Tryz.f185 0 [1,1,1,1,1,1,1,0,1,0] 0 (fun(v2)=>⟨[(87,.lf (.rows 5 (p_s.iZ.map ah.lf))),(88,.i_ (p_s.iZ.length:Int)),(89,.i_ v2)],[.dead,.dead,.dead]⟩) .ret (fun _=>⟨[(2,.i_ 8)],[.dead,.dead,.dead]⟩) (.exit 4) (fun _=>⟨[],[.dead,.dead,.dead]⟩) (ac8 p_s 0) (yD p_s) (0) (fun o4=>
 .ret (aY 1) (8)) fun o5=>
 .ret (aY 1) (0)
def Q8(p_s:aI):Option (Int):=Mo.den (atx p_s)
theorem avv(p_s:aI):FV (Q8 p_s) 185 [.dat (aI.lf1 p_s)] .i_:=cO Tryz.func185
abbrev VK(m:aI→Int→Int→Option (Int×Int)):Prop:=∀p_s p_level p_b0,FH (m p_s p_level p_b0) 138 [.dat (aI.lf1 p_s),.i_ p_level,.ptr 0 0] [.box 3 (.dat [(.int .i64 p_b0)])] (fun r=>.i_ r.1) (fun r=>[.box 3 (.dat [(.int .i64 r.2)])])
structure Y1 where
 m1:(p_s:aI)→(p_level:Int)→(p_b0:Int)→Option (Int×Int)
 ok1:VK m1
def DX(R_:Y1)(p_b0:Int)(p_level:Int)(p_s:aI):Mo (Bool):=
 .oV 4002 (decide ((16:Int)<p_level)) [1,2,3,21] 2 (p_b0==64)
def yE(R_:Y1)(p_level:Int)(p_s:aI):(Int×Int)→Mo ((Int×Int)⊕(Int×Int)⊕(Int)):=fun(v0,v1)=>
 .iB (decide ((v0:Int)<(p_s.dD.length:Int))) (.gx bH.aX p_s.dD v0 fun x0 _=>
 .say [.at_ 22 5,.tod 40] ok0<|
 .cH [0] (R_.ok1 x0.dW (IntKind.wrap .i64 (p_level+1)) v1) fun r0 _=>
 .iB (r0.1 != 0) (.ret ⟨[.kill 1],[6],[],2⟩ (.inr (.inl (r0.1,r0.2))))<|
 .rt [1,2,3,33,34,35] 2 (.inl (IntKind.wrap .i64 (v0+1),r0.2)))<|
 .rt [1,2,3] 2 (.inr (.inr (v1)))
def ac9(R_:Y1)(p_level:Int)(p_s:aI)(v0:Int)(v1:Int):Option ((Int×Int)⊕(Int)):=bQ (fun v_=>(yE R_ p_level p_s v_).den) FU (v0,v1)
def uH(R_:Y1)(p_level:Int)(p_s:aI):(Int×Int)→Mo ((Int×Int)⊕(Int×Int)⊕(Int)):=fun(v0,v1)=>
 .iB (decide ((v0:Int)<(p_s.eP.length:Int))) (.gx aI.aX p_s.eP v0 fun x0 _=>
 .say [.at_ 36 4,.tod 56] ok0<|
 .cH [0] (R_.ok1 x0 (IntKind.wrap .i64 (p_level+1)) v1) fun r0 _=>
 .iB (r0.1 != 0) (.rt [6] 2 (.inr (.inl (r0.1,r0.2))))<|
 .rt [1,2,50,51,52] 2 (.inl (IntKind.wrap .i64 (v0+1),r0.2)))<|
 .rt [] 2 (.inr (.inr (v1)))
def VL(R_:Y1)(p_level:Int)(p_s:aI)(v0:Int)(v1:Int):Option ((Int×Int)⊕(Int)):=bQ (fun v_=>(uH R_ p_level p_s v_).den) FU (v0,v1)
def LG(R_:Y1)(p_s:aI)(p_level:Int)(p_b0:Int):Mo (Int×Int):=
 .jk Tryz.f138 1 [1,0,0] 9 (fun r_=>⟨[(1,.i_ p_level),(2,.ptr 0 0),(3,.ptr 1 0),(21,.b_ r_)],[.box 3 (.dat [(.int .i64 p_b0)]),gq p_s]⟩) ⟨[(1,.i_ p_level),(2,.ptr 0 0),(3,.ptr 1 0)],[.box 3 (.dat [(.int .i64 p_b0)]),gq p_s]⟩ (DX R_ p_b0 p_level p_s) fun r0=>
 .iB (r0) (.ret ⟨[.kill 1],[0],[],1⟩ (2,p_b0))<|
 .cl (avv p_s) fun r1 _=>
 .iB (r1 != 0) (.ret ⟨[.kill 1],[0],[],1⟩ (r1,IntKind.wrap .i64 (p_b0+1)))<|
 .nu p_s.dD bH.lf<|
 .l2m [] Tryz.f138 1 [1,1,1,1,0,1,0] 0 (fun(v0,v1)=>⟨[(1,.i_ p_level),(2,.ptr 0 0),(3,.ptr 1 0),(33,.lf (.rows 22 (p_s.dD.map bH.lf))),(34,.i_ (p_s.dD.length:Int)),(35,.i_ v0)],[.box 3 (.dat [(.int .i64 v1)]),gq p_s]⟩) .ret (fun o_=>⟨[(6,.i_ o_.1)],[.box 3 (.dat [(.int .i64 o_.2)]),.dead]⟩) (.exit 0) (fun o_=>⟨[(1,.i_ p_level),(2,.ptr 0 0),(3,.ptr 1 0)],[.box 3 (.dat [(.int .i64 o_)]),gq p_s]⟩) (ac9 R_ p_level p_s 0 (IntKind.wrap .i64 (p_b0+1))) (yE R_ p_level p_s) (0,(IntKind.wrap .i64 (p_b0+1))) (fun o0=>
 .rt [0] 1 (o0.1,o0.2)) fun o1=>
 .nu p_s.eP aI.lf<|
 .l2m [.kill 1] Tryz.f138 1 [1,1,1,1,1,0,1,0] 0 (fun(v2,v3)=>⟨[(1,.i_ p_level),(2,.ptr 0 0),(50,.lf (.rows 21 (p_s.eP.map aI.lf))),(51,.i_ (p_s.eP.length:Int)),(52,.i_ v2)],[.box 3 (.dat [(.int .i64 v3)]),.dead]⟩) .ret (fun o_=>⟨[(6,.i_ o_.1)],[.box 3 (.dat [(.int .i64 o_.2)]),.dead]⟩) (.exit 2) (fun o_=>⟨[],[.box 3 (.dat [(.int .i64 o_)]),.dead]⟩) (VL R_ p_level p_s 0 o1) (uH R_ p_level p_s) (0,o1) (fun o2=>
 .rt [0] 1 (o2.1,o2.2)) fun o3=>
 .rt [0] 1 (0,o3)
theorem apg(R_:Y1):VK fun p_s p_level p_b0=>Mo.den (LG R_ p_s p_level p_b0):=fun _ _ _=>ig Tryz.func138
def oK:Nat→Y1
 |0=>{ m1:=fun p_s p_level p_b0=>none,ok1:=fun _ _ _ _ h=>(by cases h) }
 |n_+1=>{ m1:=fun p_s p_level p_b0=>Mo.den (LG (oK n_) p_s p_level p_b0),ok1:=apg (oK n_) }
def Q45(p_s:aI)(p_level:Int)(p_b0:Int):Option (Int×Int):=(oK FU).m1 p_s p_level p_b0
theorem aty:VK Q45:=(oK FU).ok1
def ada(p_s:aI):Mo (Int):=
 .cH [1] (aty p_s 1 0) fun r0 _=>
 .ret (aY 1) (r0.1)
def aph(p_s:aI):Option (Int):=Mo.den (ada p_s)
theorem apj(p_s:aI):FV (aph p_s) 94 [.dat (aI.lf1 p_s)] .i_:=cO Tryz.func94
def yF(p_d:cu):(Int)→Mo ((Int)⊕(Int)⊕Unit):=fun(v0)=>
 .iB (decide ((v0:Int)<(p_d.bV.length:Int))) (.gx aU.aX p_d.bV v0 fun x0 _=>
 .cl (afE x0) fun r0 _=>
 .iB (r0 != 0) (.ret ⟨[.kill 0],[2],[],1⟩ (.inr (.inl (r0))))<|
 .say [] (ok1 (by first|(simp[aU.aX];done)|exact qQ _ _ _:(p_d.bV.take v0.toNat).map aU.lf=((p_d.bV.map aU.lf).take v0.toNat).drop (0:Int).toNat))<|
 .grd ((0:Int)≤0∧0≤v0∧v0≤(p_d.bV.length:Int)) fun h0=>
 .say [] (ok1 (by simpa using h0:(0:Int)≤0∧0≤v0∧v0≤((p_d.bV.map aU.lf).length:Int)))<|
 .ask (akY (p_d.bV.take v0.toNat) x0.fName) fun r1 h1=>
 .say [.gY (.q 0 (.q 1 (.q 2 (.q 3 (.q 4 (.q 5 (.l 6 (.q 7 .fin)))))))) (some 6) [] [.rows ((p_d.bV.take v0.toNat).map aU.lf),.res (.i_ r1)] [1,15,16,17,34] 2 [(1,.ptr 0 0),(15,.lf (.rows 31 (p_d.bV.map aU.lf))),(16,.i_ (p_d.bV.length:Int)),(17,.i_ v0),(34,.lf (.bool (decide ((0:Int)≤r1))))] [nV p_d,.box 49 (.agg ((aU.lf1 x0).map AV.lf))]] (okc (ape _ _ _ h1) (ok1 (rf_ ⟨[(1,.ptr 0 0),(15,.lf (.rows 31 (p_d.bV.map aU.lf))),(16,.i_ (p_d.bV.length:Int)),(17,.i_ v0),(34,.lf (.bool (decide ((0:Int)≤r1))))],[nV p_d,.box 49 (.agg ((aU.lf1 x0).map AV.lf))]⟩)))<|
 .iB (decide ((0:Int)≤r1)) (.ret ⟨[.kill 0],[2],[],1⟩ (.inr (.inl (16))))<|
 .rt [1,15,16,17] 1 (.inl (IntKind.wrap .i64 (v0+1))))<|
 .rt [1] 1 (.inr (.inr (())))
def LH(p_d:cu)(v0:Int):Option ((Int)⊕Unit):=bQ (fun v_=>(yF p_d v_).den) FU (v0)
def LJ(p_d:cu):Mo (Bool):=
 .oV 30003 (decide ((p_d.ou:Int)<0)) [1,43] 1 (decide ((2:Int)<p_d.ou))
def GY(p_d:cu):Mo (Bool):=
 .aV 34003 (p_d.jX != 0) [1,51] 1 (p_d.jX != 1)
def ak3(p_d:cu):Mo (Int):=
 .cl (atd p_d.fName) fun r0 _=>
 .iB (!r0) (.ret (aY 1) (9))<|
 .nu p_d.bV aU.lf<|
 .iB (decide ((16:Int)<(p_d.bV.length:Int))) (.ret (aY 1) (2))<|
 .nu p_d.bV aU.lf<|
 .l2m [] Tryz.f62 0 [1,1,1,0,1,0] 0 (fun(v0)=>⟨[(1,.ptr 0 0),(15,.lf (.rows 31 (p_d.bV.map aU.lf))),(16,.i_ (p_d.bV.length:Int)),(17,.i_ v0)],[nV p_d]⟩) .ret (fun o_=>⟨[(2,.i_ o_)],[.dead]⟩) (.exit 0) (fun _=>⟨[(1,.ptr 0 0)],[nV p_d]⟩) (LH p_d 0) (yF p_d) (0) (fun o0=>
 .ret (aY 1) (o0)) fun o1=>
 .jk Tryz.f62 0 [1,1,1,1,0,0] 35 (fun r_=>⟨[(1,.ptr 0 0),(43,.b_ r_)],[nV p_d]⟩) ⟨[(1,.ptr 0 0)],[nV p_d]⟩ (LJ p_d) fun r1=>
 .iB (r1) (.ret (aY 1) (1))<|
 .jk Tryz.f62 0 [1,1,1,1,1,0,0] 39 (fun r_=>⟨[(1,.ptr 0 0),(51,.b_ r_)],[nV p_d]⟩) ⟨[(1,.ptr 0 0)],[nV p_d]⟩ (GY p_d) fun r2=>
 .iB (r2) (.ret (aY 1) (1))<|
 .cl (apj p_d.dW) fun r3 _=>
 .ret (aY 1) (r3)
def Q61(p_d:cu):Option (Int):=Mo.den (ak3 p_d)
theorem atz(p_d:cu):FV (Q61 p_d) 62 [.dat (cu.lf1 p_d)] .i_:=cO Tryz.func62
abbrev VN(m:aH→Int→Int→Option (Int)):Prop:=∀p_w p_least p_greatest,FV (m p_w p_least p_greatest) 36 [.dat (aH.lf1 p_w),.i_ p_least,.i_ p_greatest] .i_
structure yG where
 m1:(p_w:aH)→(p_least:Int)→(p_greatest:Int)→Option (Int)
 ok1:VN m1
def VO(R_:yG)(p_greatest:Int)(p_least:Int)(p_w:aH)(r0:aQ):Mo (Bool):=
 .oV 6004 (decide ((p_w.aK:Int)<p_least)) [2,3,7,24] 2 (decide ((p_greatest:Int)<p_w.aK))
def VP(R_:yG)(p_greatest:Int)(p_w:aH)(r0:aQ)(r1:Bool):Mo (Bool):=
 .iG 6010 (r1) (.rt [2,3,7,29] 2 (true))<|
 .cl (as2 p_w) fun r2 _=>
 .rt [2,3,7,29] 2 (!r2)
def LK(R_:yG)(p_greatest:Int)(p_w:aH)(r0:aQ)(r1:Bool):Mo (Bool):=
 .iG 6015 (r1) (.rt [2,3,7,39] 2 (true))<|
 .iG 6018 (r0.mM) (.nu p_w.dh aH.lf<|
 .rt [2,3,7,39] 2 ((p_w.dh.length:Int)==0))<|
 .rt [2,3,7,39] 2 (false)
def LM(R_:yG)(p_greatest:Int)(p_w:aH)(r0:aQ):Mo (Bool):=
 .iG 14002 (r0.o8) (.cl (U8 p_w.iO) fun r1 _=>
 .rt [2,3,7,51] 2 (!r1))<|
 .rt [2,3,7,51] 2 (false)
def LQ(R_:yG)(p_greatest:Int)(p_w:aH)(r0:aQ)(r1:Bool):Mo (Bool):=
 .iG 14008 (r1) (.rt [2,3,7,61] 2 (true))<|
 .iG 14011 (r0.FM) (.cl (U8 p_w.oz) fun r2 _=>
 .rt [2,3,7,61] 2 (!r2))<|
 .rt [2,3,7,61] 2 (false)
def LU(R_:yG)(p_greatest:Int)(p_w:aH)(r0:aQ)(r1:Bool):Mo (Bool):=
 .iG 14018 (r1) (.rt [2,3,7,72] 2 (true))<|
 .iG 14021 (r0.ji) (.cl (U8 p_w.bP.fName) fun r2 _=>
 .rt [2,3,7,72] 2 (!r2))<|
 .rt [2,3,7,72] 2 (false)
def LV(R_:yG)(p_greatest:Int)(p_w:aH)(r0:aQ):Mo (Bool):=
 .iG 18002 (r0.o9) (.cl (aor p_w) fun r1 _=>
 .rt [2,3,7,79] 2 (!r1))<|
 .rt [2,3,7,79] 2 (false)
def LW(R_:yG)(p_greatest:Int)(p_w:aH)(r0:aQ)(r1:Bool):Mo (Bool):=
 .iG 18007 (r1) (.rt [2,3,7,89] 2 (true))<|
 .iG 18010 (r0.mO) (.cl (as4 p_w.dZ) fun r2 _=>
 .rt [2,3,7,89] 2 (!r2))<|
 .rt [2,3,7,89] 2 (false)
def LX(R_:yG)(p_greatest:Int)(p_w:aH)(r0:aQ):Mo ((Int)⊕Unit):=
 .iB (r0.Du) (.cl (aoG p_w) fun r1 _=>
 .iB (r1 != 0) (.ret ⟨[.kill 0],[6],[],2⟩ (.inl (r1)))<|
 .rt [2,3] 2 (.inr (())))<|
 .rt [2,3] 2 (.inr (()))
def LY(R_:yG)(p_greatest:Int)(p_w:aH):Mo ((Int)⊕(Int)):=
 .iB (p_w.aK==4) (.cl (atz p_w.kM) fun r0 _=>
 .ret ⟨[.kill 0],[6],[],2⟩ (.inl (r0)))<|
 .iB (p_w.aK==6) (.cl (afE p_w.bP) fun r1 _=>
 .ret ⟨[.kill 0],[6],[],2⟩ (.inl (r1)))<|
 .iB (p_w.aK==8) (.rt [2,3] 2 (.inr (7)))<|
 .iB (p_w.aK==9) (.rt [2,3] 2 (.inr (3)))<|
 .rt [2,3] 2 (.inr (p_greatest))
def qX(R_:yG)(o0:Int)(p_w:aH):(Int)→Mo ((Int)⊕(Int)⊕Unit):=fun(v0)=>
 .iB (decide ((v0:Int)<(p_w.dh.length:Int))) (.gx aH.aX p_w.dh v0 fun x0 _=>
 .cl (R_.ok1 x0 2 o0) fun r0 _=>
 .iB (r0 != 0) (.rt [6] 2 (.inr (.inl (r0))))<|
 .rt [2,114,115,116] 2 (.inl (IntKind.wrap .i64 (v0+1))))<|
 .rt [] 2 (.inr (.inr (())))
def vT(R_:yG)(o0:Int)(p_w:aH)(v0:Int):Option ((Int)⊕Unit):=bQ (fun v_=>(qX R_ o0 p_w v_).den) FU (v0)
def adb(R_:yG)(p_w:aH)(p_least:Int)(p_greatest:Int):Mo (Int):=
 .cl (afi p_w.aK) fun r0 _=>
 .sk Tryz.f36 0 [1,1,0,0] 0 10 2 (fun r_=>⟨[(2,.i_ p_greatest),(3,.ptr 0 0),(7,.ptr 1 0),(24,.b_ r_)],[dR p_w,.box 105 (.agg ((aQ.lf1 r0).map AV.lf))]⟩) ⟨[(1,.i_ p_least),(2,.i_ p_greatest),(3,.ptr 0 0),(7,.ptr 1 0)],[dR p_w,.box 105 (.agg ((aQ.lf1 r0).map AV.lf))]⟩ (VO R_ p_greatest p_least p_w r0) fun r1=>
 .sb Tryz.f36 0 [1,1,0,0] 10 5 2 [(2,.i_ p_greatest),(3,.ptr 0 0),(7,.ptr 1 0)] [dR p_w,.box 105 (.agg ((aQ.lf1 r0).map AV.lf))] 24 29 r1 (VP R_ p_greatest p_w r0 r1) fun r2=>
 .sb Tryz.f36 0 [1,1,0,0] 15 10 2 [(2,.i_ p_greatest),(3,.ptr 0 0),(7,.ptr 1 0)] [dR p_w,.box 105 (.agg ((aQ.lf1 r0).map AV.lf))] 29 39 r2 (LK R_ p_greatest p_w r0 r2) fun r3=>
 .iB (r3) (.ret (aY 1) (11))<|
 .nu p_w.dh aH.lf<|
 .iB (decide ((256:Int)<(p_w.dh.length:Int))) (.ret (aY 1) (2))<|
 .sf Tryz.f36 0 [1,1,1,1,0,0] 0 8 6 [(2,.i_ p_greatest),(3,.ptr 0 0),(7,.ptr 1 0)] [dR p_w,.box 105 (.agg ((aQ.lf1 r0).map AV.lf))] 51 (LM R_ p_greatest p_w r0) fun r4=>
 .sb Tryz.f36 0 [1,1,1,1,0,0] 8 10 6 [(2,.i_ p_greatest),(3,.ptr 0 0),(7,.ptr 1 0)] [dR p_w,.box 105 (.agg ((aQ.lf1 r0).map AV.lf))] 51 61 r4 (LQ R_ p_greatest p_w r0 r4) fun r5=>
 .sb Tryz.f36 0 [1,1,1,1,0,0] 18 11 6 [(2,.i_ p_greatest),(3,.ptr 0 0),(7,.ptr 1 0)] [dR p_w,.box 105 (.agg ((aQ.lf1 r0).map AV.lf))] 61 72 r5 (LU R_ p_greatest p_w r0 r5) fun r6=>
 .iB (r6) (.ret (aY 1) (9))<|
 .sf Tryz.f36 0 [1,1,1,1,1,0,0] 0 7 8 [(2,.i_ p_greatest),(3,.ptr 0 0),(7,.ptr 1 0)] [dR p_w,.box 105 (.agg ((aQ.lf1 r0).map AV.lf))] 79 (LV R_ p_greatest p_w r0) fun r7=>
 .sb Tryz.f36 0 [1,1,1,1,1,0,0] 7 10 8 [(2,.i_ p_greatest),(3,.ptr 0 0),(7,.ptr 1 0)] [dR p_w,.box 105 (.agg ((aQ.lf1 r0).map AV.lf))] 79 89 r7 (LW R_ p_greatest p_w r0 r7) fun r8=>
 .iB (r8) (.ret (aY 1) (1))<|
 .j2 [.kill 1] Tryz.f36 0 [1,1,1,1,1,1,0,1] 1 .ret (fun o_=>⟨[(6,.i_ o_)],[.dead,.dead]⟩) .normal (fun _=>⟨[(2,.i_ p_greatest),(3,.ptr 0 0)],[dR p_w,.dead]⟩) ⟨[(2,.i_ p_greatest),(3,.ptr 0 0),(91,.b_ r0.Du)],[dR p_w,.dead]⟩ (LX R_ p_greatest p_w r0) (fun o0=>
 .ret (aY 1) (o0)) fun o1=>
 .j2 [] Tryz.f36 0 [1,1,1,1,1,1,1,0,1] 6 .ret (fun o_=>⟨[(6,.i_ o_)],[.dead,.dead]⟩) .normal (fun o_=>⟨[(2,.i_ o_),(3,.ptr 0 0)],[dR p_w,.dead]⟩) ⟨[(2,.i_ p_greatest),(3,.ptr 0 0),(98,.i_ p_w.aK)],[dR p_w,.dead]⟩ (LY R_ p_greatest p_w) (fun o2=>
 .ret (aY 1) (o2)) fun o3=>
 .nu p_w.dh aH.lf<|
 .l2m [.kill 0] Tryz.f36 0 [1,1,1,1,1,1,1,1,0,1,0] 0 (fun(v0)=>⟨[(2,.i_ o3),(114,.lf (.rows 78 (p_w.dh.map aH.lf))),(115,.i_ (p_w.dh.length:Int)),(116,.i_ v0)],[.dead,.dead]⟩) .ret (fun o_=>⟨[(6,.i_ o_)],[.dead,.dead]⟩) (.exit 1) (fun _=>⟨[],[.dead,.dead]⟩) (vT R_ o3 p_w 0) (qX R_ o3 p_w) (0) (fun o4=>
 .ret (aY 1) (o4)) fun o5=>
 .ret (aY 1) (0)
theorem atA(R_:yG):VN fun p_w p_least p_greatest=>Mo.den (adb R_ p_w p_least p_greatest):=fun _ _ _=>cO Tryz.func36
def jw:Nat→yG
 |0=>{ m1:=fun p_w p_least p_greatest=>none,ok1:=fun _ _ _ _ h=>(by cases h) }
 |n_+1=>{ m1:=fun p_w p_least p_greatest=>Mo.den (adb (jw n_) p_w p_least p_greatest),ok1:=atA (jw n_) }
def Q4(p_w:aH)(p_least:Int)(p_greatest:Int):Option (Int):=(jw FU).m1 p_w p_least p_greatest
theorem avw:VN Q4:=(jw FU).ok1
def Qz(p_e:aF):Mo (Bool):=
 .oV 8003 (decide ((p_e.dQ:Int)<1)) [1,13] 1 (decide ((1099511627776:Int)<p_e.dQ))
def QA(p_e:aF)(r0:Bool):Mo (Bool):=
 .oV 8008 (r0) [1,18] 1 (decide ((p_e.vI:Int)<0))
def LZ(p_e:aF):Mo (Bool):=
 .iG 12003 (!decide ((p_e.nD:ByteArray)=(⟨#[]⟩:ByteArray))) (.cl (U8 p_e.nD) fun r0 _=>
 .rt [1,27] 1 (!r0))<|
 .rt [1,27] 1 (false)
def ade(p_e:aF):Mo (Int):=
 .iB (decide ((p_e.bW:Int)<0)) (.ret (aY 1) (24))<|
 .sf Tryz.f14 0 [1,1,0,0] 0 8 3 [(1,.ptr 0 0)] [nH p_e] 13 (Qz p_e) fun r0=>
 .sb Tryz.f14 0 [1,1,0,0] 8 5 3 [(1,.ptr 0 0)] [nH p_e] 13 18 r0 (QA p_e r0) fun r1=>
 .iB (r1) (.ret (aY 1) (1))<|
 .jk Tryz.f14 0 [1,1,1,0,0] 17 (fun r_=>⟨[(1,.ptr 0 0),(27,.b_ r_)],[nH p_e]⟩) ⟨[(1,.ptr 0 0)],[nH p_e]⟩ (LZ p_e) fun r2=>
 .iB (r2) (.ret (aY 1) (9))<|
 .cl (avw p_e.dL 1 12) fun r3 _=>
 .ret (aY 1) (r3)
def apk(p_e:aF):Option (Int):=Mo.den (ade p_e)
theorem apl(p_e:aF):FV (apk p_e) 14 [.dat (aF.lf1 p_e)] .i_:=cO Tryz.func14
def Y2(p_e:aF)(p_m:aB):Mo (Bool):=
 .say [.order [(true,0),(true,1),(true,2),(true,3),(true,4),(true,5),(true,6),(true,7),(true,8),(true,9),(true,10),(true,11),(true,12),(true,13)] none []] ok0<|
 .iG 20002 (decide ((0:Int)<(p_m.bn.length:Int))) (.gx aF.aX p_m.bn (IntKind.wrap .i64 ((p_m.bn.length:Int)-1)) fun x0 _=>
 .rt [2,3,4,40] 3 (decide ((p_e.dQ:Int)≤x0.dQ)))<|
 .rt [2,3,4,40] 3 (false)
def adf(p_e:aF)(p_m:aB):Option (Bool):=Mo.den (Y2 p_e p_m)
def Y3(r0:aB)(r1:List aF):Mo (Bool):=
 .iG 32003 (decide ((0:Int)≤r0.fID)) (.nu r0.bg lfI<|
 .rt [2,4,66] 9 (decide ((r0.fID:Int)<(r0.bg.length:Int))))<|
 .rt [2,4,66] 9 (false)
def QB(r0:aB)(r1:List aF)(r2:Bool):Mo (((List Int))):=
 .iB (r2) (.nu (r0.bn++r1) aF.lf<|
 .ask (fQ r0.bg r0.fID) fun x0 h0=>
 .say [.row (lfI x0),.rows ((r0.bg.set r0.fID.toNat ((r0.bn++r1).length:Int)).map lfI)] (okc (dI lI_ h0) (okc (st_ lI_ r0.bg r0.fID.toNat ((r0.bn++r1).length:Int)) (ok1 ((bU lI_ h0).2))))<|
 .rt [2,4] 9 (r0.bg.set r0.fID.toNat ((r0.bn++r1).length:Int)))<|
 .rt [2,4] 9 (r0.bg)
def aqR(p_m:aB)(p_e:aF):Mo (aB×Int):=
 .iB (p_m.gX != 2) (.ret (aY 2) (aB.z,25))<|
 .cl (apl p_e) fun r0 _=>
 .iB (r0 != 0) (.ret (aY 2) (aB.z,r0))<|
 .iB (p_e.bW != p_m.bW) (.ret (aY 2) (aB.z,24))<|
 .nu p_m.bn aF.lf<|
 .jp Tryz.f6 0 [1,1,1,1,0,1,0] 25 [2,3,4,7] 3 (.normal) (fun r_=>⟨[(2,.ptr 0 0),(3,.ptr 1 0),(4,.ptr 2 0),(40,.b_ r_)],[eG p_m,nH p_e,.box 25 (Z25)]⟩) ⟨[(2,.ptr 0 0),(3,.ptr 1 0),(4,.ptr 2 0),(7,.i_ (p_m.bn.length:Int))],[eG p_m,nH p_e,.box 25 (Z25)]⟩ (adf p_e p_m) (jW (by kernel_rfl)) fun r1 _=>
 .iB (r1) (.ret (aY 2) (aB.z,23))<|
 .nu p_m.bn aF.lf<|
 .iB (decide ((16384:Int)≤(p_m.bn.length:Int))) (.ret (aY 2) (aB.z,2))<|
 .ask (ajG p_m) fun r2 h0=>
 .say [.jA [] (ag_ (aB.lf1 r2) [(8,.own 0),(10,.own 1),(11,.own 2)]) [.row 54 82 (r2.bn.map aF.lf),.row 3 1 (r2.fNext.map lfI),.row 3 1 (r2.bg.map lfI)]] (okc (rY _ _ h0) (ok1 (by simp[aF.aX]:[p_e].map aF.lf=[(aF.lf1 p_e)])))<|
 .ask (akf [p_e]) fun r3 h1=>
 .say [.gY (.q 0 (.q 2 (.alt 1 (.l 3 (.l 4 (.l 5 (.q 6 (.l 7 .fin))))) (.l 3 (.alt 1 (.l 4 (.l 5 (.q 6 (.l 7 .fin)))) (.l 4 (.l 1 (.l 5 (.q 6 (.l 7 .fin)))))))))) (some 7) [3,6,7] [.both [.at_ 30 1,.resv 2,.slot 6,.at_ 30 4,.NP 6 ([p_e].map aF.lf),.jA [] (.own 0) [.row 54 82 (r3.map aF.lf)],.rows ((r2.bn++r3).map aF.lf),.slot 7] [.at_ 30 3,.resv 2,.slot 6,.both [.at_ 30 4,.NP 6 ([p_e].map aF.lf),.jA [] (.own 0) [.row 54 82 (r3.map aF.lf)],.rows ((r2.bn++r3).map aF.lf),.slot 7] [.at_ 30 4,.NP 6 ([p_e].map aF.lf),.jA [] (.own 0) [.row 54 82 (r3.map aF.lf)],.rows ((r2.bn++r3).map aF.lf),.slot 7]]] [2,4] 9 [(2,.ptr 0 0),(4,.ptr 2 0)] [.box 25 (ag_ (aB.lf1 r2) [(8,.own 7),(10,.own 4),(11,.own 5)]),nH p_e,.box 25 (Z25),.dead,.row 3 1 (r2.fNext.map lfI),.row 3 1 (r2.bg.map lfI),.dead,.row 54 82 ((r2.bn++r3).map aF.lf),.row 54 82 (r3.map aF.lf)]] (okc (DJ _ _ h1) (ok1 (by simp[aF.aX]:(r2.bn++r3).map aF.lf=(r2.bn.map aF.lf)++(r3.map aF.lf))))<|
 .grd ((r2.bn.length+r3.length)*1208≤140737488355328) fun h2=>
 .say [] (okc (by simpa using h2:((r2.bn.map aF.lf).length+(r3.map aF.lf).length)*1208≤140737488355328) (okc (rf_ ⟨[(2,.ptr 0 0),(4,.ptr 2 0)],[.box 25 (ag_ (aB.lf1 r2) [(8,.own 7),(10,.own 4),(11,.own 5)]),nH p_e,.box 25 (Z25),.dead,.row 3 1 (r2.fNext.map lfI),.row 3 1 (r2.bg.map lfI),.dead,.row 54 82 ((r2.bn++r3).map aF.lf),.row 54 82 (r3.map aF.lf)]⟩) (okc (by simp[aF.aX]:[p_e].map aF.lf=[(aF.lf1 p_e)]) (okc (DJ _ _ h1) (okc (by simp[aF.aX]:(r2.bn++r3).map aF.lf=(r2.bn.map aF.lf)++(r3.map aF.lf)) (okc (by simpa using h2:((r2.bn.map aF.lf).length+(r3.map aF.lf).length)*1208≤140737488355328) (okc (rf_ ⟨[(2,.ptr 0 0),(4,.ptr 2 0)],[.box 25 (ag_ (aB.lf1 r2) [(8,.own 7),(10,.own 4),(11,.own 5)]),nH p_e,.box 25 (Z25),.dead,.row 3 1 (r2.fNext.map lfI),.row 3 1 (r2.bg.map lfI),.dead,.row 54 82 ((r2.bn++r3).map aF.lf),.row 54 82 (r3.map aF.lf)]⟩) (okc (by simp[aF.aX]:[p_e].map aF.lf=[(aF.lf1 p_e)]) (okc (DJ _ _ h1) (okc (by simp[aF.aX]:(r2.bn++r3).map aF.lf=(r2.bn.map aF.lf)++(r3.map aF.lf)) (okc (by simpa using h2:((r2.bn.map aF.lf).length+(r3.map aF.lf).length)*1208≤140737488355328) (ok1 (rf_ ⟨[(2,.ptr 0 0),(4,.ptr 2 0)],[.box 25 (ag_ (aB.lf1 r2) [(8,.own 7),(10,.own 4),(11,.own 5)]),nH p_e,.box 25 (Z25),.dead,.row 3 1 (r2.fNext.map lfI),.row 3 1 (r2.bg.map lfI),.dead,.row 54 82 ((r2.bn++r3).map aF.lf),.row 54 82 (r3.map aF.lf)]⟩)))))))))))))<|
 .jy [.kill 1,.kill 8] Tryz.f6 0 [1,1,1,1,1,1,1,1,0,0] 37 (.normal) (fun r_=>⟨[(2,.ptr 0 0),(4,.ptr 2 0),(66,.b_ r_)],[.box 25 (ag_ (aB.lf1 r2) [(8,.own 7),(10,.own 4),(11,.own 5)]),.dead,.box 25 (Z25),.dead,.row 3 1 (r2.fNext.map lfI),.row 3 1 (r2.bg.map lfI),.dead,.row 54 82 ((r2.bn++r3).map aF.lf),.dead]⟩) ⟨[(2,.ptr 0 0),(4,.ptr 2 0)],[.box 25 (ag_ (aB.lf1 r2) [(8,.own 7),(10,.own 4),(11,.own 5)]),.dead,.box 25 (Z25),.dead,.row 3 1 (r2.fNext.map lfI),.row 3 1 (r2.bg.map lfI),.dead,.row 54 82 ((r2.bn++r3).map aF.lf),.dead]⟩ (Y3 r2 r3) fun r4=>
 .jk Tryz.f6 0 [1,1,1,1,1,1,1,1,0,1] 1 (fun r_=>⟨[(2,.ptr 0 0),(4,.ptr 2 0)],[.box 25 (ag_ (aB.lf1 r2) [(8,.own 7),(10,.own 4),(11,.own 5)]),.dead,.box 25 (Z25),.dead,.row 3 1 (r2.fNext.map lfI),.row 3 1 (r_.map lfI),.dead,.row 54 82 ((r2.bn++r3).map aF.lf),.dead]⟩) ⟨[(2,.ptr 0 0),(4,.ptr 2 0),(66,.b_ r4)],[.box 25 (ag_ (aB.lf1 r2) [(8,.own 7),(10,.own 4),(11,.own 5)]),.dead,.box 25 (Z25),.dead,.row 3 1 (r2.fNext.map lfI),.row 3 1 (r2.bg.map lfI),.dead,.row 54 82 ((r2.bn++r3).map aF.lf),.dead]⟩ (QB r2 r3 r4) fun r5=>
 .ask (Q59 (aB.BR (aB.xY r2 (r2.bn++r3)) r5)) fun r6 h3=>
 .say [.jA [7,4,5] (ag_ (aB.lf1 r6) [(8,.own 3),(10,.own 4)]) [.dead,.dead,.dead,.row 54 82 (r6.bn.map aF.lf),.row 3 1 (r6.fNext.map lfI)],.at_ 0 0,.frz 9,.frz 10] (ok1 (akj _ _ h3))<|
 .ret (aY 2) (r6,0)
def Q81(p_m:aB)(p_e:aF):Option (aB×Int):=Mo.den (aqR p_m p_e)
theorem VQ(p_m:aB)(p_e:aF):FV (Q81 p_m p_e) 6 [.dat (aB.lf1 p_m),.dat (aF.lf1 p_e)] (fun r=>.tup [.dat (aB.lf1 r.1),.i_ r.2]):=cO Tryz.func6
def atB(p_m:aB):Mo (aB×List aG):=
 .say [.br true] ok0<|
 .ite (decide ((1:Int)<p_m.jq)) (fun c0=>
 .say [] (ok1 c0)<|
 .ask (ajG p_m) fun r0 h0=>
 .say [.jA [] (ag_ (aB.lf1 r0) [(8,.own 0),(10,.own 1),(11,.own 2)]) [.row 54 82 (r0.bn.map aF.lf),.row 3 1 (r0.fNext.map lfI),.row 3 1 (r0.bg.map lfI)],.at_ 0 0,.frz 2,.frz 3,.frz 4] (ok1 (rY _ _ h0))<|
 .ret ⟨[.nil 1 9,.tod 1],[0,1],[],0⟩ (aB.UK r0 (IntKind.wrap .i64 (r0.jq-1)),[])) fun c0=>
 .stop
def awq(p_m:aB):Option (aB×List aG):=Mo.den (atB p_m)
theorem apm(p_m:aB):FV (awq p_m) 13 [.dat (aB.lf1 p_m)] (fun r=>.tup [.dat (aB.lf1 r.1),.lf (.rows 9 (r.2.map aG.lf))]):=cO Tryz.func13
def ak4(r0:aB×(List aG)×fK)(r1:aB×Int)(r2:aB×List aG):Mo (Bool):=
 .nu r0.1.bn aF.lf<|
 .iG 18004 ((r0.1.bn.length:Int)==1) (.ret ⟨[.kill 3],[5,6,8,9,10,46],[],7⟩ (r0.1.aJ==1))<|
 .ret ⟨[.kill 3],[5,6,8,9,10,46],[],7⟩ (false)
def ak5(r0:aB×(List aG)×fK)(r1:aB×Int)(r2:aB×List aG)(r3:Bool):Mo (Bool):=
 .iG 18009 (r3) (.nu r0.2.1 aG.lf<|
 .rt [5,6,8,9,10,51] 7 ((r0.2.1.length:Int)==1))<|
 .rt [5,6,8,9,10,51] 7 (false)
def ahn(r0:aB×(List aG)×fK)(r1:aB×Int)(r2:aB×List aG)(r3:Bool):Mo (Bool):=
 .iG 18014 (r3) (.gx aG.aX r0.2.1 0 fun x0 _=>
 .rt [5,6,8,9,10,57] 7 (x0.fOK))<|
 .rt [5,6,8,9,10,57] 7 (false)
def aho(r0:aB×(List aG)×fK)(r1:aB×Int)(r2:aB×List aG)(r3:Bool):Mo (Bool):=
 .iG 18020 (r3) (.gx aG.aX r0.2.1 0 fun x0 _=>
 .rt [6,8,9,10,64] 7 (x0.bP==1))<|
 .rt [6,8,9,10,64] 7 (false)
def ahp(r0:aB×(List aG)×fK)(r1:aB×Int)(r2:aB×List aG)(r3:Bool):Mo (Bool):=
 .iG 18027 (r3) (.ret ⟨[.kill 4],[8,9,10,69],[],7⟩ (r0.2.2.jY==(-1)))<|
 .ret ⟨[.kill 4],[8,9,10,69],[],7⟩ (false)
def ahq(r0:aB×Int)(r1:aB×List aG)(r2:Bool):Mo (Bool):=
 .aV 18032 (r2) [9,10,73] 7 (r0.2==25)
def ahr(r0:aB×List aG)(r1:Bool):Mo (Bool):=
 .iG 18036 (r1) (.ret ⟨[.kill 6],[10,78],[],7⟩ (r0.1.jq==12))<|
 .ret ⟨[.kill 6],[10,78],[],7⟩ (false)
def ahs(r0:aB×List aG)(r1:Bool):Mo (Bool):=
 .iG 18041 (r1) (.nu r0.2 aG.lf<|
 .rt [83] 7 ((r0.2.length:Int)==0))<|
 .rt [83] 7 (false)
def aht(r0:Bool):Mo (Unit):=
 .rt [0] 7 ()
def avx :Mo (Bool):=
 .cl (anC 1 3) fun r0 _=>
 .iB (r0.2 != 0) (.ret (aY 1) (false))<|
 .ask (ar7 1 1) fun r1 h0=>
 .say [.res (.dat (aF.lf1 r1)),.at_ 12 2,.NP 1 ([r1].map aF.lf)] (okc (UW _ _ _ h0) (ok1 (by simp[aF.aX]:[r1].map aF.lf=[(aF.lf1 r1)])))<|
 .cl (aoq r0.1 (aG.aiJ (aG.qK (aG.rW (aG.nG (aG.sTo aG.z 1) 3) 1) 1) [r1])) fun r2 _=>
 .ask (ar7 0 1) fun r3 h1=>
 .say [] (ok1 (UW _ _ _ h1))<|
 .ask (Q81 r0.1 r3) fun r4 h2=>
 .say [.gY (.q 0 (.alt 1 (.alt 2 (.q 3 (.q 4 (.q 5 (.l 6 (.l 7 (.q 8 .fin)))))) (.l 6 (.l 2 (.q 3 (.q 4 (.q 5 (.l 7 (.q 8 .fin)))))))) (.l 6 (.l 1 (.l 2 (.q 3 (.q 4 (.q 5 (.l 7 (.q 8 .fin)))))))))) none [5] [.both [.at_ 14 1,.resv 1,.res (.dat (aF.lf1 r3)),.both [.res (.tup [.dat (aB.lf1 r4.1),.i_ r4.2]),.slot 5] [.slot 5,.res (.tup [.dat (aB.lf1 r4.1),.i_ r4.2])]] [.at_ 14 6,.resv 1,.slot 5,.res (.dat (aF.lf1 r3)),.res (.tup [.dat (aB.lf1 r4.1),.i_ r4.2])]] [1,4,5,6,8] 6 [(1,.ptr 0 0),(4,.ptr 3 0),(5,.lf (.rows 9 (r2.2.1.map aG.lf))),(6,.ptr 4 0),(8,.i_ r4.2)] [.box 25 (.agg ((aB.lf1 r0.1).map AV.lf)),.dead,.box 65 (.agg [.i_ 0,.i_ 1,.i_ 3,.i_ 1,.i_ 0,.i_ 0,.i_ 1,.lf (.rows 82 ([r1].map aF.lf)),.b_ false]),.box 25 (.agg ((aB.lf1 r2.1).map AV.lf)),.box 68 (.agg [.i_ r2.2.2.jY,.i_ r2.2.2.bW,.i_ r2.2.2.fAt,.lf (.rows 82 (r2.2.2.bY.map aF.lf))]),.box 25 (.agg ((aB.lf1 r4.1).map AV.lf))]] (okc (VQ _ _ _ h2) (okc (rf_ ⟨[(1,.ptr 0 0),(4,.ptr 3 0),(5,.lf (.rows 9 (r2.2.1.map aG.lf))),(6,.ptr 4 0),(8,.i_ r4.2)],[.box 25 (.agg ((aB.lf1 r0.1).map AV.lf)),.dead,.box 65 (.agg [.i_ 0,.i_ 1,.i_ 3,.i_ 1,.i_ 0,.i_ 0,.i_ 1,.lf (.rows 82 ([r1].map aF.lf)),.b_ false]),.box 25 (.agg ((aB.lf1 r2.1).map AV.lf)),.box 68 (.agg [.i_ r2.2.2.jY,.i_ r2.2.2.bW,.i_ r2.2.2.fAt,.lf (.rows 82 (r2.2.2.bY.map aF.lf))]),.box 25 (.agg ((aB.lf1 r4.1).map AV.lf))]⟩) (okc (VQ _ _ _ h2) (okc (rf_ ⟨[(1,.ptr 0 0),(4,.ptr 3 0),(5,.lf (.rows 9 (r2.2.1.map aG.lf))),(6,.ptr 4 0),(8,.i_ r4.2)],[.box 25 (.agg ((aB.lf1 r0.1).map AV.lf)),.dead,.box 65 (.agg [.i_ 0,.i_ 1,.i_ 3,.i_ 1,.i_ 0,.i_ 0,.i_ 1,.lf (.rows 82 ([r1].map aF.lf)),.b_ false]),.box 25 (.agg ((aB.lf1 r2.1).map AV.lf)),.box 68 (.agg [.i_ r2.2.2.jY,.i_ r2.2.2.bW,.i_ r2.2.2.fAt,.lf (.rows 82 (r2.2.2.bY.map aF.lf))]),.box 25 (.agg ((aB.lf1 r4.1).map AV.lf))]⟩) (okc (UW _ _ _ h1) (okc (VQ _ _ _ h2) (ok1 (rf_ ⟨[(1,.ptr 0 0),(4,.ptr 3 0),(5,.lf (.rows 9 (r2.2.1.map aG.lf))),(6,.ptr 4 0),(8,.i_ r4.2)],[.box 25 (.agg ((aB.lf1 r0.1).map AV.lf)),.dead,.box 65 (.agg [.i_ 0,.i_ 1,.i_ 3,.i_ 1,.i_ 0,.i_ 0,.i_ 1,.lf (.rows 82 ([r1].map aF.lf)),.b_ false]),.box 25 (.agg ((aB.lf1 r2.1).map AV.lf)),.box 68 (.agg [.i_ r2.2.2.jY,.i_ r2.2.2.bW,.i_ r2.2.2.fAt,.lf (.rows 82 (r2.2.2.bY.map aF.lf))]),.box 25 (.agg ((aB.lf1 r4.1).map AV.lf))]⟩))))))))<|
 .cl (apm r0.1) fun r5 _=>
 .sy [.kill 0,.kill 2,.kill 5] Tryz.f5 0 [1,1,1,1,1,1,1,0] 0 9 8 (fun r_=>⟨[(5,.lf (.rows 9 (r2.2.1.map aG.lf))),(6,.ptr 4 0),(8,.i_ r4.2),(9,.ptr 6 0),(10,.lf (.rows 9 (r5.2.map aG.lf))),(46,.b_ r_)],[.dead,.dead,.dead,.dead,.box 68 (.agg [.i_ r2.2.2.jY,.i_ r2.2.2.bW,.i_ r2.2.2.fAt,.lf (.rows 82 (r2.2.2.bY.map aF.lf))]),.dead,.box 25 (.agg ((aB.lf1 r5.1).map AV.lf))]⟩) ⟨[(4,.ptr 3 0),(5,.lf (.rows 9 (r2.2.1.map aG.lf))),(6,.ptr 4 0),(8,.i_ r4.2),(9,.ptr 6 0),(10,.lf (.rows 9 (r5.2.map aG.lf)))],[.dead,.dead,.dead,.box 25 (.agg ((aB.lf1 r2.1).map AV.lf)),.box 68 (.agg [.i_ r2.2.2.jY,.i_ r2.2.2.bW,.i_ r2.2.2.fAt,.lf (.rows 82 (r2.2.2.bY.map aF.lf))]),.dead,.box 25 (.agg ((aB.lf1 r5.1).map AV.lf))]⟩ (ak4 r2 r4 r5) fun r6=>
 .sb Tryz.f5 0 [1,1,1,1,1,1,1,0] 9 5 8 [(5,.lf (.rows 9 (r2.2.1.map aG.lf))),(6,.ptr 4 0),(8,.i_ r4.2),(9,.ptr 6 0),(10,.lf (.rows 9 (r5.2.map aG.lf)))] [.dead,.dead,.dead,.dead,.box 68 (.agg [.i_ r2.2.2.jY,.i_ r2.2.2.bW,.i_ r2.2.2.fAt,.lf (.rows 82 (r2.2.2.bY.map aF.lf))]),.dead,.box 25 (.agg ((aB.lf1 r5.1).map AV.lf))] 46 51 r6 (ak5 r2 r4 r5 r6) fun r7=>
 .sb Tryz.f5 0 [1,1,1,1,1,1,1,0] 14 6 8 [(5,.lf (.rows 9 (r2.2.1.map aG.lf))),(6,.ptr 4 0),(8,.i_ r4.2),(9,.ptr 6 0),(10,.lf (.rows 9 (r5.2.map aG.lf)))] [.dead,.dead,.dead,.dead,.box 68 (.agg [.i_ r2.2.2.jY,.i_ r2.2.2.bW,.i_ r2.2.2.fAt,.lf (.rows 82 (r2.2.2.bY.map aF.lf))]),.dead,.box 25 (.agg ((aB.lf1 r5.1).map AV.lf))] 51 57 r7 (ahn r2 r4 r5 r7) fun r8=>
 .sk Tryz.f5 0 [1,1,1,1,1,1,1,0] 20 7 8 (fun r_=>⟨[(6,.ptr 4 0),(8,.i_ r4.2),(9,.ptr 6 0),(10,.lf (.rows 9 (r5.2.map aG.lf))),(64,.b_ r_)],[.dead,.dead,.dead,.dead,.box 68 (.agg [.i_ r2.2.2.jY,.i_ r2.2.2.bW,.i_ r2.2.2.fAt,.lf (.rows 82 (r2.2.2.bY.map aF.lf))]),.dead,.box 25 (.agg ((aB.lf1 r5.1).map AV.lf))]⟩) ⟨[(5,.lf (.rows 9 (r2.2.1.map aG.lf))),(6,.ptr 4 0),(8,.i_ r4.2),(9,.ptr 6 0),(10,.lf (.rows 9 (r5.2.map aG.lf))),(57,.b_ r8)],[.dead,.dead,.dead,.dead,.box 68 (.agg [.i_ r2.2.2.jY,.i_ r2.2.2.bW,.i_ r2.2.2.fAt,.lf (.rows 82 (r2.2.2.bY.map aF.lf))]),.dead,.box 25 (.agg ((aB.lf1 r5.1).map AV.lf))]⟩ (aho r2 r4 r5 r8) fun r9=>
 .sk Tryz.f5 0 [1,1,1,1,1,1,1,0] 27 5 8 (fun r_=>⟨[(8,.i_ r4.2),(9,.ptr 6 0),(10,.lf (.rows 9 (r5.2.map aG.lf))),(69,.b_ r_)],[.dead,.dead,.dead,.dead,.dead,.dead,.box 25 (.agg ((aB.lf1 r5.1).map AV.lf))]⟩) ⟨[(6,.ptr 4 0),(8,.i_ r4.2),(9,.ptr 6 0),(10,.lf (.rows 9 (r5.2.map aG.lf))),(64,.b_ r9)],[.dead,.dead,.dead,.dead,.box 68 (.agg [.i_ r2.2.2.jY,.i_ r2.2.2.bW,.i_ r2.2.2.fAt,.lf (.rows 82 (r2.2.2.bY.map aF.lf))]),.dead,.box 25 (.agg ((aB.lf1 r5.1).map AV.lf))]⟩ (ahp r2 r4 r5 r9) fun r10=>
 .sk Tryz.f5 0 [1,1,1,1,1,1,1,0] 32 4 8 (fun r_=>⟨[(9,.ptr 6 0),(10,.lf (.rows 9 (r5.2.map aG.lf))),(73,.b_ r_)],[.dead,.dead,.dead,.dead,.dead,.dead,.box 25 (.agg ((aB.lf1 r5.1).map AV.lf))]⟩) ⟨[(8,.i_ r4.2),(9,.ptr 6 0),(10,.lf (.rows 9 (r5.2.map aG.lf))),(69,.b_ r10)],[.dead,.dead,.dead,.dead,.dead,.dead,.box 25 (.agg ((aB.lf1 r5.1).map AV.lf))]⟩ (ahq r4 r5 r10) fun r11=>
 .sk Tryz.f5 0 [1,1,1,1,1,1,1,0] 36 5 8 (fun r_=>⟨[(10,.lf (.rows 9 (r5.2.map aG.lf))),(78,.b_ r_)],[.dead,.dead,.dead,.dead,.dead,.dead,.dead]⟩) ⟨[(9,.ptr 6 0),(10,.lf (.rows 9 (r5.2.map aG.lf))),(73,.b_ r11)],[.dead,.dead,.dead,.dead,.dead,.dead,.box 25 (.agg ((aB.lf1 r5.1).map AV.lf))]⟩ (ahr r5 r11) fun r12=>
 .sk Tryz.f5 0 [1,1,1,1,1,1,1,0] 41 5 8 (fun r_=>⟨[(83,.b_ r_)],[.dead,.dead,.dead,.dead,.dead,.dead,.dead]⟩) ⟨[(10,.lf (.rows 9 (r5.2.map aG.lf))),(78,.b_ r12)],[.dead,.dead,.dead,.dead,.dead,.dead,.dead]⟩ (ahs r5 r12) fun r13=>
 .sk Tryz.f5 0 [1,1,1,1,1,1,1,0] 46 1 8 (fun r_=>⟨[(0,.b_ r13)],[.dead,.dead,.dead,.dead,.dead,.dead,.dead]⟩) ⟨[(83,.b_ r13)],[.dead,.dead,.dead,.dead,.dead,.dead,.dead]⟩ (aht r13) fun r14=>
 .ret (aY 1) (r13)
def Q47 :Option (Bool):=Mo.den (avx )
theorem adg:FV (Q47 ) 5 [] .b_:=cO Tryz.func5
def QC(p_s:ByteArray)(v0:Int):Mo (Bool):=
 .ask (lS p_s v0) fun b0 h0=>
 .say [.byt b0] (ok1 (iy h0))<|
 .iG 14004 (decide (((b0.toNat:Int):Int)<33)) (.rt [0,3,32] 0 (true))<|
 .ask (lS p_s v0) fun b1 h1=>
 .say [.byt b1] (ok1 (iy h1))<|
 .rt [0,3,32] 0 (decide ((126:Int)<(b1.toNat:Int)))
def QD(p_s:ByteArray)(r0:Bool)(v0:Int):Mo (Bool):=
 .iG 14010 (r0) (.rt [0,3,38] 0 (true))<|
 .ask (lS p_s v0) fun b0 h0=>
 .say [.byt b0] (ok1 (iy h0))<|
 .rt [0,3,38] 0 ((b0.toNat:Int)==46)
def QE(p_s:ByteArray):(Int)→Mo ((Int)⊕(Unit⊕Unit)):=fun(v0)=>
 .iB (decide ((v0:Int)<(p_s.size:Int))) (.sf Tryz.f112 0 [1,1,0,1,0,0,1,0,0,0] 0 10 6 [(0,.lf (.str p_s)),(3,.i_ v0)] [] 32 (QC p_s v0) fun r0=>
 .sb Tryz.f112 0 [1,1,0,1,0,0,1,0,0,0] 10 6 6 [(0,.lf (.str p_s)),(3,.i_ v0)] [] 32 38 r0 (QD p_s r0 v0) fun r1=>
 .iB (r1) (.rt [2] 0 (.inr (.inl ())))<|
 .rt [0,3] 0 (.inl (IntKind.wrap .i64 (v0+1))))<|
 .rt [] 0 (.inr (.inr (())))
def aqS(p_s:ByteArray):Mo (Bool):=
 .sf Tryz.f112 0 [1,0,0] 0 8 1 [(0,.lf (.str p_s))] [] 11 (kD p_s) fun r0=>
 .sb Tryz.f112 0 [1,0,0] 8 5 1 [(0,.lf (.str p_s))] [] 11 16 r0 (kE p_s r0) fun r1=>
 .iB (r1) (.ret (aY 1) (false))<|
 .l2 Tryz.f112 0 [1,1,0,1,0] 0 (fun(v0)=>⟨[(0,.lf (.str p_s)),(3,.i_ v0)],[]⟩) .ret (fun _=>⟨[(2,.b_ false)],[]⟩) (.exit 0) (fun _=>⟨[],[]⟩) (QE p_s) (0) (fun o0=>
 .ret (aY 1) (false)) fun o1=>
 .ret (aY 1) (true)
def Q66(p_s:ByteArray):Option (Bool):=Mo.den (aqS p_s)
theorem Cc(p_s:ByteArray):FV (Q66 p_s) 112 [.lf (.str p_s)] .b_:=cO Tryz.func112
def QF(p_p:List ByteArray):Mo (Bool):=
 .nu p_p lfS<|
 .iG 4003 (decide (((p_p.length:Int):Int)<1)) (.rt [0,11] 0 (true))<|
 .nu p_p lfS<|
 .rt [0,11] 0 (decide ((16:Int)<(p_p.length:Int)))
def QG(p_p:List ByteArray):(Int)→Mo ((Int)⊕(Unit⊕Unit)):=fun(v0)=>
 .nu p_p lfS<|
 .iB (decide ((v0:Int)<(p_p.length:Int))) (.gx lS_ p_p v0 fun x0 _=>
 .cl (Cc x0) fun r0 _=>
 .iB (!r0) (.rt [2] 0 (.inr (.inl ())))<|
 .rt [0,3] 0 (.inl (IntKind.wrap .i64 (v0+1))))<|
 .rt [] 0 (.inr (.inr (())))
def ak6(p_p:List ByteArray):Mo (Bool):=
 .jk Tryz.f70 0 [1,0,0] 9 (fun r_=>⟨[(0,.lf (.rows 1 (p_p.map lfS))),(11,.b_ r_)],[]⟩) ⟨[(0,.lf (.rows 1 (p_p.map lfS)))],[]⟩ (QF p_p) fun r0=>
 .iB (r0) (.ret (aY 1) (false))<|
 .l2 Tryz.f70 0 [1,1,0,1,0] 0 (fun(v0)=>⟨[(0,.lf (.rows 1 (p_p.map lfS))),(3,.i_ v0)],[]⟩) .ret (fun _=>⟨[(2,.b_ false)],[]⟩) (.exit 0) (fun _=>⟨[],[]⟩) (QG p_p) (0) (fun o0=>
 .ret (aY 1) (false)) fun o1=>
 .ret (aY 1) (true)
def atC(p_p:List ByteArray):Option (Bool):=Mo.den (ak6 p_p)
theorem DY(p_p:List ByteArray):FV (atC p_p) 70 [.lf (.rows 1 (p_p.map lfS))] .b_:=cO Tryz.func70
def ak7(p_s:ByteArray):Mo (Bool):=
 .say [.at_ 4 2,.NP 0 ([p_s].map lfS)] (ok1 (by simp[lfS]:[p_s].map lfS=[(lfS p_s)]))<|
 .cl (DY [p_s]) fun r0 _=>
 .ret (aY 1) (r0)
def atD(p_s:ByteArray):Option (Bool):=Mo.den (ak7 p_s)
theorem Jl(p_s:ByteArray):FV (atD p_s) 42 [.lf (.str p_s)] .b_:=cO Tryz.func42
def VT(p_kind:Int):Mo (Bool):=
 .iG 4002 (decide ((2:Int)≤p_kind)) (.ret (aY 1) (decide ((p_kind:Int)≤7)))<|
 .ret (aY 1) (false)
def apn(p_kind:Int):Option (Bool):=Mo.den (VT p_kind)
theorem apo(p_kind:Int):FV (apn p_kind) 115 [.i_ p_kind] .b_:=cO Tryz.func115
def VU(p_kind:Int):Mo (Bool):=
 .cl (apo p_kind) fun r0 _=>
 .iG 4002 (r0) (.ret (aY 1) (p_kind != 4))<|
 .ret (aY 1) (false)
def apq(p_kind:Int):Option (Bool):=Mo.den (VU p_kind)
theorem afG(p_kind:Int):FV (apq p_kind) 73 [.i_ p_kind] .b_:=cO Tryz.func73
def VW(p_kind:Int):Mo (Bool):=
 .iG 4002 (p_kind==2) (.ret (aY 1) (true))<|
 .ret (aY 1) (p_kind==3)
def apr(p_kind:Int):Option (Bool):=Mo.den (VW p_kind)
theorem VX(p_kind:Int):FV (apr p_kind) 76 [.i_ p_kind] .b_:=cO Tryz.func76
def ak8(p_v:ah):Mo (Bool):=
 .sf Tryz.f79 0 [1,0] 0 8 1 [(1,.ptr 0 0),(2,.b_ false)] [bG p_v] 10 (nI p_v) fun r0=>
 .sb Tryz.f79 0 [1,0] 8 5 1 [(1,.ptr 0 0),(2,.b_ false)] [bG p_v] 10 15 r0 (nJ p_v r0) fun r1=>
 .sb Tryz.f79 0 [1,0] 13 6 1 [(1,.ptr 0 0),(2,.b_ false)] [bG p_v] 15 21 r1 (lq p_v r1) fun r2=>
 .sk Tryz.f79 0 [1,0] 19 6 1 (fun r_=>⟨[(2,.b_ false),(27,.b_ r_)],[.dead]⟩) ⟨[(1,.ptr 0 0),(2,.b_ false),(21,.b_ r2)],[bG p_v]⟩ (lu p_v r2) fun r3=>
 .sk Tryz.f79 0 [1,0] 25 1 1 (fun r_=>⟨[(2,.b_ r3)],[.dead]⟩) ⟨[(2,.b_ false),(27,.b_ r3)],[.dead]⟩ (dG r3) fun r4=>
 .ret (aY 1) (r3)
def atE(p_v:ah):Option (Bool):=Mo.den (ak8 p_v)
theorem vU(p_v:ah):FV (atE p_v) 79 [.dat (ah.lf1 p_v)] .b_:=cO Tryz.func79
def L6(p_n:Int):Mo (Int):=
 .iB (decide ((p_n:Int)<0)) (.rt [3] 0 (bZ .xor .u64 (IntKind.max .u64) (AU .u64 (IntKind.wrap .u64 p_n) 1)))<|
 .rt [3] 0 (AU .u64 (IntKind.wrap .u64 p_n) 1)
def VY(p_n:Int):Option (Int):=Mo.den (L6 p_n)
def L8(v0:Int)(v1:ByteArray)(v2:Int):Mo (Bool):=
 .aV 14002 (decide ((v2:Int)<10)) [3,4,5,18] 0 (decide ((128:Int)≤v0))
def Ad :(Int×ByteArray×Int)→Mo ((Int×ByteArray×Int)⊕(Int×ByteArray)):=fun(v0,v1,v2)=>
 .jk Tryz.f171 0 [1,1,1,1,0,1,0,0,0,0] 19 (fun r_=>⟨[(3,.lf (.int .u64 v0)),(4,.lf (.str v1)),(5,.i_ v2),(18,.b_ r_)],[]⟩) ⟨[(3,.lf (.int .u64 v0)),(4,.lf (.str v1)),(5,.i_ v2)],[]⟩ (L8 v0 v1 v2) fun r0=>
 .iB (r0) (.say [.nums [bZ .or .u8 (IntKind.wrap .u8 (Int.tmod v0 128)) 128]] (okc (by decide:(128:Int)≠0) (ok1 (by simp[lfI,lfK]:[((lfK .u8) (bZ .or .u8 (IntKind.wrap .u8 (Int.tmod v0 128)) 128))]=[bZ .or .u8 (IntKind.wrap .u8 (Int.tmod v0 128)) 128].map fun n=>[Lf.int .u8 n])))<|
 .grd (v1.size+(strOfNums [bZ .or .u8 (IntKind.wrap .u8 (Int.tmod v0 128)) 128]).size≤9223372036854775807) fun h0=>
 .say [] (okc h0 (ok1 (by decide:(128:Int)≠0)))<|
 .rt [3,4,5] 0 (.inl (IntKind.wrap .u64 (Int.tdiv v0 128),v1++(strOfNums [bZ .or .u8 (IntKind.wrap .u8 (Int.tmod v0 128)) 128]),IntKind.wrap .i64 (v2+1))))<|
 .rt [3,4] 0 (.inr (v0,v1))
def VZ(v0:Int)(v1:ByteArray)(v2:Int):Option ((Int×ByteArray)):=bQ (fun v_=>(Ad  v_).den) FU (v0,v1,v2)
def ak9(p_n:Int):Mo (ByteArray):=
 .say [] (ok1 (by decide:(0:Int)≤1))<|
 .jp Tryz.f171 0 [1,1,0,1] 1 [3,10] 0 (.normal) (fun r_=>⟨[(3,.lf (.int .u64 r_))],[]⟩) ⟨[(3,.lf (.int .u64 (AU .u64 (IntKind.wrap .u64 p_n) 1))),(10,.lf (.bool (decide ((p_n:Int)<0))))],[]⟩ (VY p_n) (jW (by kernel_rfl)) fun r0 _=>
 .l1m [] Tryz.f171 0 [1,1,1,1,0,1,0] 0 (.exit 0) (fun(v0,v1,v2)=>⟨[(3,.lf (.int .u64 v0)),(4,.lf (.str v1)),(5,.i_ v2)],[]⟩) (fun r_=>⟨[(3,.lf (.int .u64 r_.1)),(4,.lf (.str r_.2))],[]⟩) (VZ r0 ⟨#[]⟩ 0) (Ad ) (r0,⟨#[]⟩,0) fun r1=>
 .say [.nums [IntKind.wrap .u8 r1.1]] (ok1 (by simp[lfI,lfK]:[((lfK .u8) (IntKind.wrap .u8 r1.1))]=[IntKind.wrap .u8 r1.1].map fun n=>[Lf.int .u8 n]))<|
 .grd (r1.2.size+(strOfNums [IntKind.wrap .u8 r1.1]).size≤9223372036854775807) fun h0=>
 .say [] (ok1 h0)<|
 .ret (aY 1) (r1.2++(strOfNums [IntKind.wrap .u8 r1.1]))
def Q31(p_n:Int):Option (ByteArray):=Mo.den (ak9 p_n)
theorem GZ(p_n:Int):FV (Q31 p_n) 171 [.i_ p_n] (fun r=>.lf (.str r)):=cO Tryz.func171
def aqT(p_n:Int)(p_b0:aO):Mo (aO):=
 .say [.order [(true,0),(true,1),(true,2),(true,3),(true,4),(false,5),(true,6),(true,7),(true,8),(false,9)] (some 9) []] ok0<|
 .cl (GZ p_n) fun r0 _=>
 .grd (p_b0.fS.size+r0.size≤9223372036854775807) fun h0=>
 .say [] (ok1 h0)<|
 .rt [] 1 (aO.mk (p_b0.fS++r0) p_b0.IB p_b0.xk)
def Q14(p_n:Int)(p_b0:aO):Option (aO):=Mo.den (aqT p_n p_b0)
theorem gK(p_n:Int)(p_b0:aO):FH (Q14 p_n p_b0) 124 [.ptr 0 0,.i_ p_n] [dS p_b0] (fun _=>.tup []) (fun r=>[dS r]):=ig Tryz.func124
def aqU(p_s:ByteArray)(p_b0:aO):Mo (aO):=
 .cH [0] (gK (p_s.size:Int) p_b0) fun r0 _=>
 .grd (r0.fS.size+p_s.size≤9223372036854775807) fun h0=>
 .say [] (ok1 h0)<|
 .rt [] 1 (aO.mk (r0.fS++p_s) r0.IB r0.xk)
def Q71(p_s:ByteArray)(p_b0:aO):Option (aO):=Mo.den (aqU p_s p_b0)
theorem tJ(p_s:ByteArray)(p_b0:aO):FH (Q71 p_s p_b0) 125 [.ptr 0 0,.lf (.str p_s)] [dS p_b0] (fun _=>.tup []) (fun r=>[dS r]):=ig Tryz.func125
def DZ(p_l:List ByteArray):(Int×aO)→Mo ((Int×aO)⊕(aO)):=fun(v0,s8663)=>
 .nu p_l lfS<|
 .iB (decide ((v0:Int)<(p_l.length:Int))) (.gx lS_ p_l v0 fun x0 _=>
 .cH [0] (tJ x0 s8663) fun r0 _=>
 .rt [0,1,4] 1 (.inl (IntKind.wrap .i64 (v0+1),r0)))<|
 .rt [] 1 (.inr (s8663))
def adh(p_l:List ByteArray)(v0:Int)(s8663:aO):Option (aO):=bQ (fun v_=>(DZ p_l v_).den) FU (v0,s8663)
def aqV(p_l:List ByteArray)(p_b0:aO):Mo (aO):=
 .nu p_l lfS<|
 .cH [0] (gK (p_l.length:Int) p_b0) fun r0 _=>
 .l1m [] Tryz.f198 1 [1,1,0] 0 (.exit 0) (fun(v0,s8663)=>⟨[(0,.ptr 0 0),(1,.lf (.rows 1 (p_l.map lfS))),(4,.i_ v0)],[dS s8663]⟩) (fun r_=>⟨[],[dS r_]⟩) (adh p_l 0 r0) (DZ p_l) (0,r0) fun r1=>
 .rt [] 1 (r1)
def Q51(p_l:List ByteArray)(p_b0:aO):Option (aO):=Mo.den (aqV p_l p_b0)
theorem L9(p_l:List ByteArray)(p_b0:aO):FH (Q51 p_l p_b0) 198 [.ptr 0 0,.lf (.rows 1 (p_l.map lfS))] [dS p_b0] (fun _=>.tup []) (fun r=>[dS r]):=ig Tryz.func198
def aqW(p_b:Bool)(p_b0:aO):Mo (aO):=
 .iB (p_b) (.grd (p_b0.fS.size+(⟨#[1]⟩:ByteArray).size≤9223372036854775807) fun h0=>
 .say [] (ok1 h0)<|
 .rt [] 1 (aO.mk (p_b0.fS++⟨#[1]⟩) p_b0.IB p_b0.xk))<|
 .grd (p_b0.fS.size+(⟨#[0]⟩:ByteArray).size≤9223372036854775807) fun h1=>
 .say [] (ok1 h1)<|
 .rt [] 1 (aO.mk (p_b0.fS++⟨#[0]⟩) p_b0.IB p_b0.xk)
def Q86(p_b:Bool)(p_b0:aO):Option (aO):=Mo.den (aqW p_b p_b0)
theorem vV(p_b:Bool)(p_b0:aO):FH (Q86 p_b p_b0) 173 [.ptr 0 0,.b_ p_b] [dS p_b0] (fun _=>.tup []) (fun r=>[dS r]):=ig Tryz.func173
def D5(p_v:ah):(Int×(List ah))→Mo ((Int×(List ah))⊕((List ah))):=fun(v0,l0)=>
 .nu p_v.bF ah.lf<|
 .iB (decide ((v0:Int)<(p_v.bF.length:Int))) (.gx ah.aX p_v.bF v0 fun x0 _=>
 .say [.rows ((l0++[x0]).map ah.lf)] (ok1 (ap_ ah.aX l0 x0))<|
 .grd ((l0.length+[x0].length)*80≤140737488355328) fun h0=>
 .say [] (ok1 (cp_ ah.lf h0))<|
 .ret ⟨[],[1,3,4],[(3,1)],2⟩ (.inl (IntKind.wrap .i64 (v0+1),l0++[x0])))<|
 .rt [1,3] 2 (.inr (l0))
def adi(p_v:ah)(v0:Int)(l0:List ah):Option (((List ah))):=bQ (fun v_=>(D5 p_v v_).den) FU (v0,l0)
def Y4(p_v:ah):Mo (((List ah))):=
 .iB (p_v.aK==6) (.say [] (ok1 (by simp[ah.aX]:(([]:List ah).map ah.lf)=[]))<|
 .l1m [.jM 1 (([]:List ah).map ah.lf)] Tryz.f252 0 [1,1,0,1,0,1,0] 0 (.exit 0) (fun(v0,l0)=>⟨[(1,.ptr 0 0),(3,.own 1),(4,.i_ v0)],[bG p_v,.row 29 5 (l0.map ah.lf)]⟩) (fun r_=>⟨[(1,.ptr 0 0),(3,.own 1)],[bG p_v,.row 29 5 (r_.map ah.lf)]⟩) (adi p_v 0 ([]:List ah)) (D5 p_v) (0,([]:List ah)) fun r0=>
 .rt [1,3] 2 (r0))<|
 .say [] (ok1 (by simp[ah.aX]:(([]:List ah).map ah.lf)=[]))<|
 .ret ⟨[.jM 1 (([]:List ah).map ah.lf)],[1,3],[],2⟩ (([]:List ah))
def Ae(p_v:ah):(Int×(List ah))→Mo ((Int×(List ah))⊕((List ah))):=fun(v0,l0)=>
 .nu p_v.bC aN.lf<|
 .iB (decide ((v0:Int)<(p_v.bC.length:Int))) (.gx aN.aX p_v.bC v0 fun x0 _=>
 .say [.rows ((l0++[x0.fValue]).map ah.lf)] (ok1 (ap_ ah.aX l0 x0.fValue))<|
 .grd ((l0.length+[x0.fValue].length)*80≤140737488355328) fun h0=>
 .say [] (ok1 (cp_ ah.lf h0))<|
 .ret ⟨[],[1,3,5],[(3,1)],2⟩ (.inl (IntKind.wrap .i64 (v0+1),l0++[x0.fValue])))<|
 .ret ⟨[.kill 0],[3],[],2⟩ (.inr (l0))
def V3(p_v:ah)(v0:Int)(l0:List ah):Option (((List ah))):=bQ (fun v_=>(Ae p_v v_).den) FU (v0,l0)
def QH(p_v:ah)(r0:((List ah))):Mo (((List ah))):=
 .iB (p_v.aK==5) (.l1m [] Tryz.f252 0 [1,1,1,0,1,0,1,0] 0 (.exit 2) (fun(v0,l0)=>⟨[(1,.ptr 0 0),(3,.own 1),(5,.i_ v0)],[bG p_v,.row 29 5 (l0.map ah.lf)]⟩) (fun r_=>⟨[(3,.own 1)],[.dead,.row 29 5 (r_.map ah.lf)]⟩) (V3 p_v 0 r0) (Ae p_v) (0,r0) fun r1=>
 .rt [3] 2 (r1))<|
 .ret ⟨[.kill 0],[3],[],2⟩ (r0)
def aqX(p_v:ah):Mo (List ah):=
 .jy [.qG 3 29 5] Tryz.f252 0 [1,1,0,1] 1 (.normal) (fun r_=>⟨[(1,.ptr 0 0),(3,.own 1)],[bG p_v,.row 29 5 (r_.map ah.lf)]⟩) ⟨[(1,.ptr 0 0),(3,.own 1),(8,.lf (.bool (p_v.aK==6)))],[bG p_v,.row 29 5 []]⟩ (Y4 p_v) fun r0=>
 .jk Tryz.f252 0 [1,1,1,0,1] 1 (fun r_=>⟨[(3,.own 1)],[.dead,.row 29 5 (r_.map ah.lf)]⟩) ⟨[(1,.ptr 0 0),(3,.own 1),(26,.lf (.bool (p_v.aK==5)))],[bG p_v,.row 29 5 (r0.map ah.lf)]⟩ (QH p_v r0) fun r1=>
 .say [.at_ 0 0,.frz 1] ok0<|
 .ret (aY 1) (r1)
def Q38(p_v:ah):Option (List ah):=Mo.den (aqX p_v)
theorem ala(p_v:ah):FV (Q38 p_v) 252 [.dat (ah.lf1 p_v)] (fun r=>.lf (.rows 5 (r.map ah.lf))):=cO Tryz.func252
abbrev V4(m:ah→Int→Option (Int)):Prop:=∀p_v p_most,FV (m p_v p_most) 200 [.dat (ah.lf1 p_v),.i_ p_most] .i_
structure ahu where
 m1:(p_v:ah)→(p_most:Int)→Option (Int)
 ok1:V4 m1
def Y5(R_:ahu)(p_most:Int)(r0:List ah):Mo (Bool):=
 .iG 6002 (decide ((p_most:Int)<2)) (.rt [1,5,16] 1 (true))<|
 .nu r0 ah.lf<|
 .rt [1,5,16] 1 ((r0.length:Int)==0)
def D6(R_:ahu)(p_most:Int)(r0:List ah):(Int×Int)→Mo ((Int×Int)⊕(Int)):=fun(v0,v1)=>
 .nu r0 ah.lf<|
 .iB (decide ((v1:Int)<(r0.length:Int))) (.gx ah.aX r0 v1 fun x0 _=>
 .cl (R_.ok1 x0 (IntKind.wrap .i64 (p_most-1))) fun r1 _=>
 .rt [1,5,6,7] 1 (.inl ((if r1 > v0 then r1 else v0),IntKind.wrap .i64 (v1+1))))<|
 .rt [6] 1 (.inr (v0))
def alb(R_:ahu)(p_most:Int)(r0:List ah)(v0:Int)(v1:Int):Option (Int):=bQ (fun v_=>(D6 R_ p_most r0 v_).den) FU (v0,v1)
def alc(R_:ahu)(p_v:ah)(p_most:Int):Mo (Int):=
 .cl (ala p_v) fun r0 _=>
 .jy [.kill 0] Tryz.f200 0 [1,1,0,0] 11 (.normal) (fun r_=>⟨[(1,.i_ p_most),(5,.lf (.rows 5 (r0.map ah.lf))),(16,.b_ r_)],[.dead]⟩) ⟨[(1,.i_ p_most),(5,.lf (.rows 5 (r0.map ah.lf)))],[.dead]⟩ (Y5 R_ p_most r0) fun r1=>
 .iB (r1) (.ret (aY 1) (1))<|
 .l1m [] Tryz.f200 0 [1,1,1,1,0,1,0] 0 (.exit 0) (fun(v0,v1)=>⟨[(1,.i_ p_most),(5,.lf (.rows 5 (r0.map ah.lf))),(6,.i_ v0),(7,.i_ v1)],[.dead]⟩) (fun r_=>⟨[(6,.i_ r_)],[.dead]⟩) (alb R_ p_most r0 0 0) (D6 R_ p_most r0) (0,0) fun r2=>
 .ret (aY 1) (IntKind.wrap .i64 (r2+1))
theorem aps(R_:ahu):V4 fun p_v p_most=>Mo.den (alc R_ p_v p_most):=fun _ _=>cO Tryz.func200
def Ce:Nat→ahu
 |0=>{ m1:=fun p_v p_most=>none,ok1:=fun _ _ _ h=>(by cases h) }
 |n_+1=>{ m1:=fun p_v p_most=>Mo.den (alc (Ce n_) p_v p_most),ok1:=aps (Ce n_) }
def Q70(p_v:ah)(p_most:Int):Option (Int):=(Ce FU).m1 p_v p_most
theorem atF:V4 Q70:=(Ce FU).ok1
def ald(p_v:ah):Mo (Int):=
 .cl (atF p_v 17) fun r0 _=>
 .ret (aY 1) (r0)
def atG(p_v:ah):Option (Int):=Mo.den (ald p_v)
theorem apt(p_v:ah):FV (atG p_v) 158 [.dat (ah.lf1 p_v)] .i_:=cO Tryz.func158
abbrev V5(m:ah→Int→Option (Int)):Prop:=∀p_v p_most,FV (m p_v p_most) 201 [.dat (ah.lf1 p_v),.i_ p_most] .i_
structure ahv where
 m1:(p_v:ah)→(p_most:Int)→Option (Int)
 ok1:V5 m1
def Mc(R_:ahv)(p_most:Int)(r0:List ah)(v0:Int)(v1:Int):Mo (Bool):=
 .nu r0 ah.lf<|
 .aV 10004 (decide ((v1:Int)<(r0.length:Int))) [1,5,6,7,18] 1 (decide ((v0:Int)<p_most))
def D7(R_:ahv)(p_most:Int)(r0:List ah):(Int×Int)→Mo ((Int×Int)⊕(Int)):=fun(v0,v1)=>
 .jk Tryz.f201 0 [1,1,1,0,1,0,0,0,0] 15 (fun r_=>⟨[(1,.i_ p_most),(5,.i_ v0),(6,.lf (.rows 5 (r0.map ah.lf))),(7,.i_ v1),(18,.b_ r_)],[.dead]⟩) ⟨[(1,.i_ p_most),(5,.i_ v0),(6,.lf (.rows 5 (r0.map ah.lf))),(7,.i_ v1)],[.dead]⟩ (Mc R_ p_most r0 v0 v1) fun r1=>
 .iB (r1) (.gx ah.aX r0 v1 fun x0 _=>
 .cl (R_.ok1 x0 (IntKind.wrap .i64 (p_most-v0))) fun r2 _=>
 .rt [1,5,6,7] 1 (.inl (IntKind.wrap .i64 (v0+r2),IntKind.wrap .i64 (v1+1))))<|
 .rt [5] 1 (.inr (v0))
def ale(R_:ahv)(p_most:Int)(r0:List ah)(v0:Int)(v1:Int):Option (Int):=bQ (fun v_=>(D7 R_ p_most r0 v_).den) FU (v0,v1)
def alf(R_:ahv)(p_v:ah)(p_most:Int):Mo (Int):=
 .cl (ala p_v) fun r0 _=>
 .l1m [.kill 0] Tryz.f201 0 [1,1,1,0,1,0] 0 (.exit 0) (fun(v0,v1)=>⟨[(1,.i_ p_most),(5,.i_ v0),(6,.lf (.rows 5 (r0.map ah.lf))),(7,.i_ v1)],[.dead]⟩) (fun r_=>⟨[(5,.i_ r_)],[.dead]⟩) (ale R_ p_most r0 1 0) (D7 R_ p_most r0) (1,0) fun r1=>
 .ret (aY 1) (r1)
theorem apu(R_:ahv):V5 fun p_v p_most=>Mo.den (alf R_ p_v p_most):=fun _ _=>cO Tryz.func201
def Ci:Nat→ahv
 |0=>{ m1:=fun p_v p_most=>none,ok1:=fun _ _ _ h=>(by cases h) }
 |n_+1=>{ m1:=fun p_v p_most=>Mo.den (alf (Ci n_) p_v p_most),ok1:=apu (Ci n_) }
def Q68(p_v:ah)(p_most:Int):Option (Int):=(Ci FU).m1 p_v p_most
theorem atH:V5 Q68:=(Ci FU).ok1
def alg(p_v:ah):Mo (Int):=
 .cl (atH p_v 1025) fun r0 _=>
 .ret (aY 1) (r0)
def atI(p_v:ah):Option (Int):=Mo.den (alg p_v)
theorem apv(p_v:ah):FV (atI p_v) 159 [.dat (ah.lf1 p_v)] .i_:=cO Tryz.func159
def Y6(p_i:Int)(p_n:Int)(p_s:ByteArray)(v0:Int):Mo (Bool):=
 .ask (lS p_s (IntKind.wrap .i64 (p_i+v0))) fun b0 h0=>
 .say [.byt b0] (ok1 (iy h0))<|
 .iG 14006 (decide (((b0.toNat:Int):Int)<128)) (.rt [0,1,2,7,32] 0 (true))<|
 .ask (lS p_s (IntKind.wrap .i64 (p_i+v0))) fun b1 h1=>
 .say [.byt b1] (ok1 (iy h1))<|
 .rt [0,1,2,7,32] 0 (decide ((191:Int)<(b1.toNat:Int)))
def D8(p_i:Int)(p_n:Int)(p_s:ByteArray):(Int)→Mo ((Int)⊕(Unit⊕Unit)):=fun(v0)=>
 .iB (decide ((v0:Int)<p_n)) (.jk Tryz.f253 0 [1,1,0,1,0,0,1,0,0,0] 19 (fun r_=>⟨[(0,.lf (.str p_s)),(1,.i_ p_i),(2,.i_ p_n),(7,.i_ v0),(32,.b_ r_)],[]⟩) ⟨[(0,.lf (.str p_s)),(1,.i_ p_i),(2,.i_ p_n),(7,.i_ v0)],[]⟩ (Y6 p_i p_n p_s v0) fun r0=>
 .iB (r0) (.rt [6] 0 (.inr (.inl ())))<|
 .rt [0,1,2,7] 0 (.inl (IntKind.wrap .i64 (v0+1))))<|
 .rt [] 0 (.inr (.inr (())))
def alh(p_i:Int)(p_n:Int)(p_s:ByteArray)(v0:Int):Option (Unit⊕Unit):=bQ (fun v_=>(D8 p_i p_n p_s v_).den) FU (v0)
def aqY(p_s:ByteArray)(p_i:Int)(p_n:Int):Mo (Bool):=
 .iB (decide (((p_s.size:Int):Int)<(IntKind.wrap .i64 (p_i+p_n)))) (.ret (aY 1) (false))<|
 .l2m [] Tryz.f253 0 [1,1,0,1,0] 0 (fun(v0)=>⟨[(0,.lf (.str p_s)),(1,.i_ p_i),(2,.i_ p_n),(7,.i_ v0)],[]⟩) .ret (fun _=>⟨[(6,.b_ false)],[]⟩) (.exit 0) (fun _=>⟨[],[]⟩) (alh p_i p_n p_s 0) (D8 p_i p_n p_s) (0) (fun o0=>
 .ret (aY 1) (false)) fun o1=>
 .ret (aY 1) (true)
def Q98(p_s:ByteArray)(p_i:Int)(p_n:Int):Option (Bool):=Mo.den (aqY p_s p_i p_n)
theorem atJ(p_s:ByteArray)(p_i:Int)(p_n:Int):FV (Q98 p_s p_i p_n) 253 [.lf (.str p_s),.i_ p_i,.i_ p_n] .b_:=cO Tryz.func253
end
end Go.Proofs.YtbdcaeahocbkbaaGreatDoor
