/- Printed by dec.py. -/
import Derived.Test.YtbdcaeahocbkbaaGreatDoorQAAp7
set_option linter.unusedSimpArgs false
set_option linter.unusedVariables false
namespace Go.Proofs.YtbdcaeahocbkbaaGreatDoor
open Go.RowKit
set_option maxRecDepth 20000
set_option maxHeartbeats 4000000
noncomputable section
def SL(p_has:Bool)(p_v:ah):Mo (Bool):=
 .iG 4001 (p_has) (.cl (su p_v) fun r0 _=>
 .rt [0,3,4,10] 1 (!r0))<|
 .rt [0,3,4,10] 1 (false)
def SN(p_has:Bool)(p_v:ah)(r0:Bool):Mo (Bool):=
 .iG 4006 (r0) (.ret ⟨[.kill 0],[4,20],[],1⟩ (true))<|
 .iG 4009 (!p_has) (.cl (WE p_v (ah.mk 0 0 ⟨#[]⟩ [] [])) fun r1 _=>
 .ret ⟨[.kill 0],[4,20],[],1⟩ (!r1))<|
 .ret ⟨[.kill 0],[4,20],[],1⟩ (false)
def alX(p_has:Bool)(p_v:ah):Mo (Bool):=
 .sf Tryz.f257 0 [1,0] 0 6 1 [(0,.b_ p_has),(3,.ptr 0 0),(4,.b_ false)] [bG p_v] 10 (SL p_has p_v) fun r0=>
 .sk Tryz.f257 0 [1,0] 6 10 1 (fun r_=>⟨[(4,.b_ false),(20,.b_ r_)],[.dead]⟩) ⟨[(0,.b_ p_has),(3,.ptr 0 0),(4,.b_ false),(10,.b_ r0)],[bG p_v]⟩ (SN p_has p_v r0) fun r1=>
 .sk Tryz.f257 0 [1,0] 16 1 1 (fun r_=>⟨[(4,.b_ r1)],[.dead]⟩) ⟨[(4,.b_ false),(20,.b_ r1)],[.dead]⟩ (Ac r1) fun r2=>
 .ret (aY 1) (r1)
def auv(p_has:Bool)(p_v:ah):Option (Bool):=Mo.den (alX p_has p_v)
theorem agd(p_has:Bool)(p_v:ah):FV (auv p_has p_v) 257 [.b_ p_has,.dat (ah.lf1 p_v)] .b_:=cO Tryz.func257
def ED(p_s:aI):(Int×(List ByteArray))→Mo ((Int×(List ByteArray))⊕((List ByteArray))):=fun(v0,l0)=>
 .nu p_s.dD bH.lf<|
 .iB (decide ((v0:Int)<(p_s.dD.length:Int))) (.gx bH.aX p_s.dD v0 fun x0 _=>
 .say [.rows ((l0++[x0.fName]).map lfS)] (ok1 (by simp[lfS]:(l0++[x0.fName]).map lfS=(l0.map lfS)++[(lfS x0.fName)]))<|
 .grd ((l0.length+[x0.fName].length)*16≤140737488355328) fun h0=>
 .say [] (ok1 (cp_ lfS h0))<|
 .ret ⟨[],[1,3,4],[(3,1)],2⟩ (.inl (IntKind.wrap .i64 (v0+1),l0++[x0.fName])))<|
 .rt [1,3] 2 (.inr (l0))
def adK(p_s:aI)(v0:Int)(l0:List ByteArray):Option (((List ByteArray))):=bQ (fun v_=>(ED p_s v_).den) FU (v0,l0)
def ZV(p_s:aI)(r0:((List ByteArray))):Mo (Bool):=
 .cl (alW p_s.eu) fun r1 _=>
 .iG 14004 (!r1) (.ret ⟨[.kill 1],[1,30],[],2⟩ (true))<|
 .say [.at_ 14 6,.frz 1] ok0<|
 .cl (alW r0) fun r2 _=>
 .rt [1,30] 2 (!r2)
def SQ(p_s:aI):Mo (Bool):=
 .iG 18003 (decide ((p_s.jH:Int)<0)) (.rt [1,39] 2 (true))<|
 .say [] (ok1 (by decide:(2:Int)≠0))<|
 .rt [1,39] 2 ((Int.tmod p_s.jH 2)==1)
def SS(p_s:aI)(r0:Bool):Mo (Bool):=
 .oV 18009 (r0) [1,44] 2 (decide ((4096:Int)≤p_s.jH))
def SV(p_s:aI)(r0:Bool):Mo (Bool):=
 .oV 18014 (r0) [1,49] 2 (decide ((p_s.mG:Int)<0))
def SX(p_s:aI)(r0:Bool):Mo (Bool):=
 .oV 18019 (r0) [1,54] 2 (decide ((p_s.mJ:Int)<(-1)))
def SY(p_s:aI)(r0:Bool):Mo (Bool):=
 .iG 18024 (r0) (.rt [1,60] 2 (true))<|
 .nu p_s.eP aI.lf<|
 .rt [1,60] 2 (decide ((1:Int)<(p_s.eP.length:Int)))
def S9(p_s:aI):Mo (Bool):=
 .cl (agd p_s.kU p_s.rM) fun r0 _=>
 .iG 22005 (r0) (.rt [1,72] 2 (true))<|
 .cl (agd p_s.kV p_s.rO) fun r1 _=>
 .rt [1,72] 2 (r1)
def Au(p_s:aI):(Int)→Mo ((Int)⊕(Unit⊕Unit)):=fun(v0)=>
 .nu p_s.iZ ah.lf<|
 .iB (decide ((v0:Int)<(p_s.iZ.length:Int))) (.gx ah.aX p_s.iZ v0 fun x0 _=>
 .cl (su x0) fun r0 _=>
 .iB (!r0) (.ret ⟨[.kill 0],[2],[],2⟩ (.inr (.inl ())))<|
 .rt [1,5] 2 (.inl (IntKind.wrap .i64 (v0+1))))<|
 .ret ⟨[.kill 0],[],[],2⟩ (.inr (.inr (())))
def WL(p_s:aI)(v0:Int):Option (Unit⊕Unit):=bQ (fun v_=>(Au p_s v_).den) FU (v0)
def arf(p_s:aI):Mo (Int):=
 .say [] (ok1 (by simp[lfS]:(([]:List ByteArray).map lfS)=[]))<|
 .l1m [.qG 3 9 1,.jM 1 (([]:List ByteArray).map lfS)] Tryz.f205 0 [1,1,0,1,0] 0 (.exit 0) (fun(v0,l0)=>⟨[(1,.ptr 0 0),(3,.own 1),(4,.i_ v0)],[gq p_s,.row 9 1 (l0.map lfS)]⟩) (fun r_=>⟨[(1,.ptr 0 0),(3,.own 1)],[gq p_s,.row 9 1 (r_.map lfS)]⟩) (adK p_s 0 ([]:List ByteArray)) (ED p_s) (0,([]:List ByteArray)) fun r0=>
 .jk Tryz.f205 0 [1,1,1,0,0] 19 (fun r_=>⟨[(1,.ptr 0 0),(30,.b_ r_)],[gq p_s,.dead]⟩) ⟨[(1,.ptr 0 0),(3,.own 1)],[gq p_s,.row 9 1 (r0.map lfS)]⟩ (ZV p_s r0) fun r1=>
 .iB (r1) (.ret (aY 1) (9))<|
 .sf Tryz.f205 0 [1,1,1,1,0,0] 0 9 8 [(1,.ptr 0 0)] [gq p_s,.dead] 39 (SQ p_s) fun r2=>
 .sb Tryz.f205 0 [1,1,1,1,0,0] 9 5 8 [(1,.ptr 0 0)] [gq p_s,.dead] 39 44 r2 (SS p_s r2) fun r3=>
 .sb Tryz.f205 0 [1,1,1,1,0,0] 14 5 8 [(1,.ptr 0 0)] [gq p_s,.dead] 44 49 r3 (SV p_s r3) fun r4=>
 .sb Tryz.f205 0 [1,1,1,1,0,0] 19 5 8 [(1,.ptr 0 0)] [gq p_s,.dead] 49 54 r4 (SX p_s r4) fun r5=>
 .sb Tryz.f205 0 [1,1,1,1,0,0] 24 6 8 [(1,.ptr 0 0)] [gq p_s,.dead] 54 60 r5 (SY p_s r5) fun r6=>
 .iB (r6) (.ret (aY 1) (1))<|
 .jk Tryz.f205 0 [1,1,1,1,1,0,0] 27 (fun r_=>⟨[(1,.ptr 0 0),(72,.b_ r_)],[gq p_s,.dead]⟩) ⟨[(1,.ptr 0 0)],[gq p_s,.dead]⟩ (S9 p_s) fun r7=>
 .iB (r7) (.ret (aY 1) (8))<|
 .l2m [] Tryz.f205 0 [1,1,1,1,1,1,0,1,0] 0 (fun(v1)=>⟨[(1,.ptr 0 0),(5,.i_ v1)],[gq p_s,.dead]⟩) .ret (fun _=>⟨[(2,.i_ 8)],[.dead,.dead]⟩) (.exit 2) (fun _=>⟨[],[.dead,.dead]⟩) (WL p_s 0) (Au p_s) (0) (fun o0=>
 .ret (aY 1) (8)) fun o1=>
 .ret (aY 1) (0)
def Q18(p_s:aI):Option (Int):=Mo.den (arf p_s)
theorem auw(p_s:aI):FV (Q18 p_s) 205 [.dat (aI.lf1 p_s)] .i_:=cO Tryz.func205
abbrev WM(m:aI→Int→Int→Option (Int×Int)):Prop:=∀p_s p_number p_level,FV (m p_s p_number p_level) 165 [.dat (aI.lf1 p_s),.i_ p_number,.i_ p_level] (fun r=>.tup [.i_ r.1,.i_ r.2])
structure ZW where
 m1:(p_s:aI)→(p_number:Int)→(p_level:Int)→Option (Int×Int)
 ok1:WM m1
def ML(R_:ZW)(p_level:Int)(p_number:Int)(p_s:aI):Mo (Bool):=
 .oV 4002 (decide ((16:Int)<p_level)) [1,2,3,18] 1 (decide ((64:Int)<p_number))
def ZX(R_:ZW)(p_level:Int)(p_s:aI)(v0:Int)(v1:Int):Mo (aI):=
 .iB (decide ((v1:Int)<(p_s.dD.length:Int))) (.gx bH.aX p_s.dD v1 fun x0 _=>
 .ret ⟨[.norm 1],[1,2,3,9,10],[],2⟩ (x0.dW))<|
 .nu p_s.dD bH.lf<|
 .gx aI.aX p_s.eP (IntKind.wrap .i64 (v1-(p_s.dD.length:Int))) fun x1 _=>
 .ret ⟨[.norm 1],[1,2,3,9,10],[],2⟩ (x1)
def adL(R_:ZW)(p_level:Int)(p_s:aI)(v0:Int)(v1:Int):Option (aI):=Mo.den (ZX R_ p_level p_s v0 v1)
def uN(R_:ZW)(p_level:Int)(p_s:aI):(Int×Int)→Mo ((Int×Int)⊕(Int×Int)⊕(Int)):=fun(v0,v1)=>
 .nu p_s.dD bH.lf<|
 .nu p_s.eP aI.lf<|
 .iB (decide ((v1:Int)<(IntKind.wrap .i64 ((p_s.dD.length:Int)+(p_s.eP.length:Int))))) (.nu p_s.dD bH.lf<|
 .jp Tryz.f165 0 [1,1,1,0,1,0,0,1,0,0,1,0,1] 1 [1,2,3,9,10,41] 2 (.normal) (fun r_=>⟨[(1,.i_ v0),(2,.i_ p_level),(3,.ptr 0 0),(9,.i_ v1),(10,.ptr 1 0)],[gq p_s,gq r_]⟩) ⟨[(1,.i_ v0),(2,.i_ p_level),(3,.ptr 0 0),(9,.i_ v1),(10,.ptr 1 0),(41,.lf (.bool (decide ((v1:Int)<(p_s.dD.length:Int)))))],[gq p_s,.box 35 (Z35)]⟩ (adL R_ p_level p_s v0 v1) (jW (by kernel_rfl)) fun r0 _=>
 .cl (R_.ok1 r0 (IntKind.wrap .i64 (v0+1)) (IntKind.wrap .i64 (p_level+1))) fun r1 _=>
 .iB (r1.2 != 0) (.ret ⟨[.kill 0],[6,7],[],1⟩ (.inr (.inl (r1.1,r1.2))))<|
 .rt [1,2,3,9] 1 (.inl (r1.1,IntKind.wrap .i64 (v1+1))))<|
 .ret ⟨[.kill 0],[1],[],1⟩ (.inr (.inr (v0)))
def agf(R_:ZW)(p_level:Int)(p_s:aI)(v0:Int)(v1:Int):Option ((Int×Int)⊕(Int)):=bQ (fun v_=>(uN R_ p_level p_s v_).den) FU (v0,v1)
def Tc(R_:ZW)(p_s:aI)(p_number:Int)(p_level:Int):Mo (Int×Int):=
 .jk Tryz.f165 0 [1,0,0] 9 (fun r_=>⟨[(1,.i_ p_number),(2,.i_ p_level),(3,.ptr 0 0),(18,.b_ r_)],[gq p_s]⟩) ⟨[(1,.i_ p_number),(2,.i_ p_level),(3,.ptr 0 0)],[gq p_s]⟩ (ML R_ p_level p_number p_s) fun r0=>
 .iB (r0) (.ret (aY 2) (p_number,2))<|
 .cl (auw p_s) fun r1 _=>
 .iB (r1 != 0) (.ret (aY 2) (p_number,r1))<|
 .l2m [] Tryz.f165 0 [1,1,1,0,1,0] 0 (fun(v0,v1)=>⟨[(1,.i_ v0),(2,.i_ p_level),(3,.ptr 0 0),(9,.i_ v1)],[gq p_s]⟩) .ret (fun o_=>⟨[(6,.i_ o_.1),(7,.i_ o_.2)],[.dead]⟩) (.exit 0) (fun o_=>⟨[(1,.i_ o_)],[.dead]⟩) (agf R_ p_level p_s p_number 0) (uN R_ p_level p_s) (p_number,0) (fun o0=>
 .ret (aY 2) (o0.1,o0.2)) fun o1=>
 .ret (aY 2) (o1,0)
theorem ap1(R_:ZW):WM fun p_s p_number p_level=>Mo.den (Tc R_ p_s p_number p_level):=fun _ _ _=>cO Tryz.func165
def tN:Nat→ZW
 |0=>{ m1:=fun p_s p_number p_level=>none,ok1:=fun _ _ _ _ h=>(by cases h) }
 |n_+1=>{ m1:=fun p_s p_number p_level=>Mo.den (Tc (tN n_) p_s p_number p_level),ok1:=ap1 (tN n_) }
def Q39(p_s:aI)(p_number:Int)(p_level:Int):Option (Int×Int):=(tN FU).m1 p_s p_number p_level
theorem auy:WM Q39:=(tN FU).ok1
def alY(p_s:aI):Mo (Int):=
 .cl (auy p_s 1 1) fun r0 _=>
 .ret (aY 1) (r0.2)
def auz(p_s:aI):Option (Int):=Mo.den (alY p_s)
theorem ap2(p_s:aI):FV (auz p_s) 120 [.dat (aI.lf1 p_s)] .i_:=cO Tryz.func120
def EF(p_d:cu):(Int)→Mo ((Int)⊕(Int)⊕Unit):=fun(v0)=>
 .nu p_d.bV aU.lf<|
 .iB (decide ((v0:Int)<(p_d.bV.length:Int))) (.gx aU.aX p_d.bV v0 fun x0 _=>
 .cl (agc x0) fun r0 _=>
 .iB (r0 != 0) (.ret ⟨[.kill 0],[2],[],1⟩ (.inr (.inl (r0))))<|
 .say [.order [(true,0),(true,1),(true,2),(true,3),(true,4),(true,5),(true,6),(true,7),(true,9),(false,8),(true,10)] none []] ok0<|
 .gx aU.aX p_d.bV v0 fun x1 _=>
 .cl (ap0 p_d.bV x1.fName) fun r1 _=>
 .iB (r1 != v0) (.ret ⟨[.kill 0],[2],[],1⟩ (.inr (.inl (16))))<|
 .rt [1,3] 1 (.inl (IntKind.wrap .i64 (v0+1))))<|
 .rt [1] 1 (.inr (.inr (())))
def WO(p_d:cu)(v0:Int):Option ((Int)⊕Unit):=bQ (fun v_=>(EF p_d v_).den) FU (v0)
def ZY(p_d:cu):Mo (Bool):=
 .oV 28003 (decide ((p_d.ou:Int)<0)) [1,47] 1 (decide ((2:Int)<p_d.ou))
def Td(p_d:cu)(r0:Bool):Mo (Bool):=
 .iG 28008 (r0) (.rt [1,57] 1 (true))<|
 .aV 28012 (p_d.jX != 0) [1,57] 1 (p_d.jX != 1)
def arh(p_d:cu):Mo (Int):=
 .cl (Cc p_d.fName) fun r0 _=>
 .iB (!r0) (.ret (aY 1) (9))<|
 .nu p_d.bV aU.lf<|
 .iB (decide ((16:Int)<(p_d.bV.length:Int))) (.ret (aY 1) (2))<|
 .l2m [] Tryz.f80 0 [1,1,1,0,1,0] 0 (fun(v0)=>⟨[(1,.ptr 0 0),(3,.i_ v0)],[nV p_d]⟩) .ret (fun o_=>⟨[(2,.i_ o_)],[.dead]⟩) (.exit 0) (fun _=>⟨[(1,.ptr 0 0)],[nV p_d]⟩) (WO p_d 0) (EF p_d) (0) (fun o0=>
 .ret (aY 1) (o0)) fun o1=>
 .sf Tryz.f80 0 [1,1,1,1,0,0] 0 8 13 [(1,.ptr 0 0)] [nV p_d] 47 (ZY p_d) fun r1=>
 .sb Tryz.f80 0 [1,1,1,1,0,0] 8 10 13 [(1,.ptr 0 0)] [nV p_d] 47 57 r1 (Td p_d r1) fun r2=>
 .iB (r2) (.ret (aY 1) (1))<|
 .cl (ap2 p_d.dW) fun r3 _=>
 .ret (aY 1) (r3)
def Q56(p_d:cu):Option (Int):=Mo.den (arh p_d)
theorem auA(p_d:cu):FV (Q56 p_d) 80 [.dat (cu.lf1 p_d)] .i_:=cO Tryz.func80
def Jo(p_hi:Int)(p_lo:Int)(p_w:aH):Mo (Bool):=
 .oV 6003 (decide ((p_w.aK:Int)<p_lo)) [3,7,20] 1 (decide ((p_hi:Int)<p_w.aK))
def Jp(p_w:aH)(r0:Bool):Mo (Bool):=
 .iG 6008 (r0) (.rt [3,7,25] 1 (true))<|
 .cl (atV p_w) fun r1 _=>
 .rt [3,7,25] 1 (!r1)
def EG(p_w:aH)(r0:Bool):Mo (Bool):=
 .iG 6013 (r0) (.rt [3,7,35] 1 (true))<|
 .cl (afU p_w.aK) fun r1 _=>
 .iG 6016 (r1) (.nu p_w.dh aH.lf<|
 .rt [3,7,35] 1 ((p_w.dh.length:Int)==0))<|
 .rt [3,7,35] 1 (false)
def Z4(p_w:aH)(r0:Bool):Mo (Unit):=
 .rt [3,7,12] 1 ()
def Z5(p_w:aH):Mo (Bool):=
 .cl (afG p_w.aK) fun r0 _=>
 .iG 14002 (r0) (.cl (Jl p_w.iO) fun r1 _=>
 .rt [3,7,49] 1 (!r1))<|
 .rt [3,7,49] 1 (false)
def Z7(p_w:aH)(r0:Bool):Mo (Bool):=
 .iG 14008 (r0) (.rt [3,7,59] 1 (true))<|
 .cl (afT p_w.aK) fun r1 _=>
 .iG 14011 (r1) (.cl (Jl p_w.oz) fun r2 _=>
 .rt [3,7,59] 1 (!r2))<|
 .rt [3,7,59] 1 (false)
def Z8(p_w:aH)(r0:Bool):Mo (Bool):=
 .iG 14018 (r0) (.rt [3,7,70] 1 (true))<|
 .iG 14021 (p_w.aK==7) (.cl (Jl p_w.bP.fName) fun r1 _=>
 .rt [3,7,70] 1 (!r1))<|
 .rt [3,7,70] 1 (false)
def Z9(p_w:aH)(r0:Bool):Mo (Unit):=
 .rt [3,7,41] 1 ()
def aac(p_w:aH):Mo (Bool):=
 .aV 18002 (p_w.aK==10) [3,7,78] 1 (decide ((p_w.dQ:Int)<1))
def aad(p_w:aH)(r0:Bool):Mo (Bool):=
 .oV 18007 (r0) [3,7,83] 1 (decide ((p_w.dQ:Int)<0))
def aae(p_w:aH)(r0:Bool):Mo (Bool):=
 .oV 18012 (r0) [3,7,88] 1 (decide ((1099511627776:Int)<p_w.dQ))
def aaf(p_w:aH)(r0:Bool):Mo (Bool):=
 .iG 18017 (r0) (.rt [3,7,98] 1 (true))<|
 .iG 18020 (p_w.aK==12) (.cl (atW p_w.dZ) fun r1 _=>
 .rt [3,7,98] 1 (!r1))<|
 .rt [3,7,98] 1 (false)
def aag(p_w:aH)(r0:Bool):Mo (Unit):=
 .rt [3,7,71] 1 ()
def aah(p_w:aH):Mo (Bool):=
 .cl (VX p_w.aK) fun r0 _=>
 .iG 22002 (r0) (.cl (atX p_w.jh) fun r1 _=>
 .rt [3,7,99] 1 (!r1))<|
 .rt [3,7,99] 1 (false)
def aai(p_w:aH):Mo ((Int)⊕Unit):=
 .iB (p_w.aK==2) (.cl (afX p_w.bC p_w.jh) fun r0 _=>
 .iB (r0 != 0) (.ret ⟨[.kill 0],[6],[],1⟩ (.inl (r0)))<|
 .rt [3,7] 1 (.inr (())))<|
 .rt [3,7] 1 (.inr (()))
def aaj(p_w:aH):Mo (Bool):=
 .cl (VX p_w.aK) fun r0 _=>
 .iG 34002 (r0) (.cl (vU p_w.eX) fun r1 _=>
 .rt [3,7,125] 1 (!r1))<|
 .rt [3,7,125] 1 (false)
def aak(p_w:aH)(r0:Bool):Mo ((Int)⊕Unit):=
 .iB (r0) (.cl (afX p_w.eX p_w.jh) fun r1 _=>
 .iB (r1 != 0) (.ret ⟨[.kill 0],[6],[],1⟩ (.inl (r1)))<|
 .rt [3,7] 1 (.inr (())))<|
 .rt [3,7] 1 (.inr (()))
def ap3(p_w:aH)(p_lo:Int)(p_hi:Int):Mo (Int):=
 .sk Tryz.f43 0 [1,1,0,0,0] 0 8 2 (fun r_=>⟨[(3,.ptr 0 0),(7,.i_ p_w.aK),(20,.b_ r_)],[dR p_w]⟩) ⟨[(1,.i_ p_lo),(2,.i_ p_hi),(3,.ptr 0 0),(7,.i_ p_w.aK)],[dR p_w]⟩ (Jo p_hi p_lo p_w) fun r0=>
 .sb Tryz.f43 0 [1,1,0,0,0] 8 5 2 [(3,.ptr 0 0),(7,.i_ p_w.aK)] [dR p_w] 20 25 r0 (Jp p_w r0) fun r1=>
 .sb Tryz.f43 0 [1,1,0,0,0] 13 10 2 [(3,.ptr 0 0),(7,.i_ p_w.aK)] [dR p_w] 25 35 r1 (EG p_w r1) fun r2=>
 .sk Tryz.f43 0 [1,1,0,0,0] 23 1 2 (fun r_=>⟨[(3,.ptr 0 0),(7,.i_ p_w.aK),(12,.b_ r2)],[dR p_w]⟩) ⟨[(3,.ptr 0 0),(7,.i_ p_w.aK),(35,.b_ r2)],[dR p_w]⟩ (Z4 p_w r2) fun r3=>
 .iB (r2) (.ret (aY 1) (11))<|
 .nu p_w.dh aH.lf<|
 .iB (decide ((256:Int)<(p_w.dh.length:Int))) (.ret (aY 1) (2))<|
 .sf Tryz.f43 0 [1,1,0,0,1,1,1,1,0] 0 8 6 [(3,.ptr 0 0),(7,.i_ p_w.aK)] [dR p_w] 49 (Z5 p_w) fun r4=>
 .sb Tryz.f43 0 [1,1,0,0,1,1,1,1,0] 8 10 6 [(3,.ptr 0 0),(7,.i_ p_w.aK)] [dR p_w] 49 59 r4 (Z7 p_w r4) fun r5=>
 .sb Tryz.f43 0 [1,1,0,0,1,1,1,1,0] 18 11 6 [(3,.ptr 0 0),(7,.i_ p_w.aK)] [dR p_w] 59 70 r5 (Z8 p_w r5) fun r6=>
 .sk Tryz.f43 0 [1,1,0,0,1,1,1,1,0] 29 1 6 (fun r_=>⟨[(3,.ptr 0 0),(7,.i_ p_w.aK),(41,.b_ r6)],[dR p_w]⟩) ⟨[(3,.ptr 0 0),(7,.i_ p_w.aK),(70,.b_ r6)],[dR p_w]⟩ (Z9 p_w r6) fun r7=>
 .iB (r6) (.ret (aY 1) (9))<|
 .sf Tryz.f43 0 [1,1,0,0,1,1,1,1,1,1,0] 0 7 8 [(3,.ptr 0 0),(7,.i_ p_w.aK)] [dR p_w] 78 (aac p_w) fun r8=>
 .sb Tryz.f43 0 [1,1,0,0,1,1,1,1,1,1,0] 7 5 8 [(3,.ptr 0 0),(7,.i_ p_w.aK)] [dR p_w] 78 83 r8 (aad p_w r8) fun r9=>
 .sb Tryz.f43 0 [1,1,0,0,1,1,1,1,1,1,0] 12 5 8 [(3,.ptr 0 0),(7,.i_ p_w.aK)] [dR p_w] 83 88 r9 (aae p_w r9) fun r10=>
 .sb Tryz.f43 0 [1,1,0,0,1,1,1,1,1,1,0] 17 10 8 [(3,.ptr 0 0),(7,.i_ p_w.aK)] [dR p_w] 88 98 r10 (aaf p_w r10) fun r11=>
 .sk Tryz.f43 0 [1,1,0,0,1,1,1,1,1,1,0] 27 1 8 (fun r_=>⟨[(3,.ptr 0 0),(7,.i_ p_w.aK),(71,.b_ r11)],[dR p_w]⟩) ⟨[(3,.ptr 0 0),(7,.i_ p_w.aK),(98,.b_ r11)],[dR p_w]⟩ (aag p_w r11) fun r12=>
 .iB (r11) (.ret (aY 1) (1))<|
 .jk Tryz.f43 0 [1,1,0,0,1,1,1,1,1,1,1,1,0] 27 (fun r_=>⟨[(3,.ptr 0 0),(7,.i_ p_w.aK),(99,.b_ r_)],[dR p_w]⟩) ⟨[(3,.ptr 0 0),(7,.i_ p_w.aK)],[dR p_w]⟩ (aah p_w) fun r13=>
 .iB (r13) (.ret (aY 1) (8))<|
 .j2 [] Tryz.f43 0 [1,1,1,0,1] 1 .ret (fun o_=>⟨[(6,.i_ o_)],[.dead]⟩) .normal (fun _=>⟨[(3,.ptr 0 0),(7,.i_ p_w.aK)],[dR p_w]⟩) ⟨[(3,.ptr 0 0),(7,.i_ p_w.aK),(109,.lf (.bool (p_w.aK==2)))],[dR p_w]⟩ (aai p_w) (fun o0=>
 .ret (aY 1) (o0)) fun o1=>
 .jk Tryz.f43 0 [1,1,1,1,0,0] 39 (fun r_=>⟨[(3,.ptr 0 0),(7,.i_ p_w.aK),(125,.b_ r_)],[dR p_w]⟩) ⟨[(3,.ptr 0 0),(7,.i_ p_w.aK)],[dR p_w]⟩ (aaj p_w) fun r14=>
 .j2 [] Tryz.f43 0 [1,1,1,1,0,1] 1 .ret (fun o_=>⟨[(6,.i_ o_)],[.dead]⟩) .normal (fun _=>⟨[(3,.ptr 0 0),(7,.i_ p_w.aK)],[dR p_w]⟩) ⟨[(3,.ptr 0 0),(7,.i_ p_w.aK),(125,.b_ r14)],[dR p_w]⟩ (aak p_w r14) (fun o2=>
 .ret (aY 1) (o2)) fun o3=>
 .iB (p_w.aK==4) (.cl (auA p_w.kM) fun r15 _=>
 .ret (aY 1) (r15))<|
 .iB (p_w.aK==6) (.cl (agc p_w.bP) fun r16 _=>
 .ret (aY 1) (r16))<|
 .ret (aY 1) (0)
def Q3(p_w:aH)(p_lo:Int)(p_hi:Int):Option (Int):=Mo.den (ap3 p_w p_lo p_hi)
theorem ari(p_w:aH)(p_lo:Int)(p_hi:Int):FV (Q3 p_w p_lo p_hi) 43 [.dat (aH.lf1 p_w),.i_ p_lo,.i_ p_hi] .i_:=cO Tryz.func43
def aal(p_e:aF):Mo (Bool):=
 .oV 8003 (decide ((p_e.dQ:Int)<1)) [1,19] 1 (decide ((1099511627776:Int)<p_e.dQ))
def aam(p_e:aF)(r0:Bool):Mo (Bool):=
 .oV 8008 (r0) [1,24] 1 (decide ((p_e.vI:Int)<0))
def Tf(p_e:aF)(r0:Bool):Mo (Unit):=
 .rt [1,11] 1 ()
def Ti(p_e:aF):Mo (Bool):=
 .iG 12003 (!decide ((p_e.nD:ByteArray)=(⟨#[]⟩:ByteArray))) (.cl (Jl p_e.nD) fun r0 _=>
 .rt [1,25] 1 (!r0))<|
 .rt [1,25] 1 (false)
def Tj(p_e:aF):Mo (Int):=
 .iB (p_e.dL.aK==9) (.rt [1,4] 1 (3))<|
 .rt [1,4] 1 (7)
def WQ(p_e:aF):Option (Int):=Mo.den (Tj p_e)
def Aw(p_e:aF)(r0:Int):(Int)→Mo ((Int)⊕(Int)⊕Unit):=fun(v0)=>
 .nu p_e.dL.dh aH.lf<|
 .iB (decide ((v0:Int)<(p_e.dL.dh.length:Int))) (.gx aH.aX p_e.dL.dh v0 fun x0 _=>
 .cl (ari x0 2 r0) fun r1 _=>
 .iB (r1 != 0) (.ret ⟨[.kill 0],[2],[],1⟩ (.inr (.inl (r1))))<|
 .rt [1,4,5] 1 (.inl (IntKind.wrap .i64 (v0+1))))<|
 .ret ⟨[.kill 0],[],[],1⟩ (.inr (.inr (())))
def WR(p_e:aF)(r0:Int)(v0:Int):Option ((Int)⊕Unit):=bQ (fun v_=>(Aw p_e r0 v_).den) FU (v0)
def arj(p_e:aF):Mo (Int):=
 .iB (decide ((p_e.bW:Int)<0)) (.ret (aY 1) (24))<|
 .sf Tryz.f18 0 [1,0,0,1,1,0] 0 8 3 [(1,.ptr 0 0)] [nH p_e] 19 (aal p_e) fun r0=>
 .sb Tryz.f18 0 [1,0,0,1,1,0] 8 5 3 [(1,.ptr 0 0)] [nH p_e] 19 24 r0 (aam p_e r0) fun r1=>
 .sk Tryz.f18 0 [1,0,0,1,1,0] 13 1 3 (fun r_=>⟨[(1,.ptr 0 0),(11,.b_ r1)],[nH p_e]⟩) ⟨[(1,.ptr 0 0),(24,.b_ r1)],[nH p_e]⟩ (Tf p_e r1) fun r2=>
 .iB (r1) (.ret (aY 1) (1))<|
 .jk Tryz.f18 0 [1,0,0,1,1,1,1,0] 17 (fun r_=>⟨[(1,.ptr 0 0),(25,.b_ r_)],[nH p_e]⟩) ⟨[(1,.ptr 0 0)],[nH p_e]⟩ (Ti p_e) fun r3=>
 .iB (r3) (.ret (aY 1) (9))<|
 .cl (ari p_e.dL 1 12) fun r4 _=>
 .iB (r4 != 0) (.ret (aY 1) (r4))<|
 .jp Tryz.f18 0 [1,1,1,1,0,1] 1 [1,4,44] 1 (.normal) (fun r_=>⟨[(1,.ptr 0 0),(4,.i_ r_)],[nH p_e]⟩) ⟨[(1,.ptr 0 0),(4,.i_ 7),(44,.lf (.bool (p_e.dL.aK==9)))],[nH p_e]⟩ (WQ p_e) (jW (by kernel_rfl)) fun r5 _=>
 .l2m [] Tryz.f18 0 [1,1,1,1,1,0,1,0] 0 (fun(v0)=>⟨[(1,.ptr 0 0),(4,.i_ r5),(5,.i_ v0)],[nH p_e]⟩) .ret (fun o_=>⟨[(2,.i_ o_)],[.dead]⟩) (.exit 1) (fun _=>⟨[],[.dead]⟩) (WR p_e r5 0) (Aw p_e r5) (0) (fun o0=>
 .ret (aY 1) (o0)) fun o1=>
 .ret (aY 1) (0)
def Q28(p_e:aF):Option (Int):=Mo.den (arj p_e)
theorem auB(p_e:aF):FV (Q28 p_e) 18 [.dat (aF.lf1 p_e)] .i_:=cO Tryz.func18
def Tn(p_i:Int)(p_l:List Int)(p_n:Int):Mo (Bool):=
 .iG 8002 (decide ((0:Int)≤p_i)) (.nu p_l lfI<|
 .rt [1,2,7,18] 1 (decide ((p_i:Int)<(p_l.length:Int))))<|
 .rt [1,2,7,18] 1 (false)
def Tq(p_i:Int)(p_l:List Int)(p_n:Int)(r0:Bool):Mo (((List Int))):=
 .iB (r0) (.ask (fQ p_l p_i) fun x0 h0=>
 .say [.row (lfI x0),.rows ((p_l.set p_i.toNat p_n).map lfI)] (okc (dI lI_ h0) (okc (st_ lI_ p_l p_i.toNat p_n) (ok1 ((bU lI_ h0).2))))<|
 .rt [7] 1 (p_l.set p_i.toNat p_n))<|
 .rt [7] 1 (p_l)
def alZ(p_l:List Int)(p_i:Int)(p_n:Int):Mo (List Int):=
 .say [.rows (p_l.map lfI)] (ok1 (by simp[lfI,lfK]:p_l.map lfI=[]++(p_l.map lfI)))<|
 .grd ((([]:List Int).length+p_l.length)*8≤140737488355328) fun h0=>
 .say [] (ok1 (cq_ lfI h0))<|
 .jk Tryz.f19 0 [1,1,1,0,0] 13 (fun r_=>⟨[(1,.i_ p_i),(2,.i_ p_n),(7,.own 0),(18,.b_ r_)],[.row 3 1 (p_l.map lfI)]⟩) ⟨[(1,.i_ p_i),(2,.i_ p_n),(7,.own 0)],[.row 3 1 (p_l.map lfI)]⟩ (Tn p_i p_l p_n) fun r0=>
 .jk Tryz.f19 0 [1,1,1,0,1] 1 (fun r_=>⟨[(7,.own 0)],[.row 3 1 (r_.map lfI)]⟩) ⟨[(1,.i_ p_i),(2,.i_ p_n),(7,.own 0),(18,.b_ r0)],[.row 3 1 (p_l.map lfI)]⟩ (Tq p_i p_l p_n r0) fun r1=>
 .say [.at_ 0 0,.frz 0] ok0<|
 .ret (aY 1) (r1)
def ap4(p_l:List Int)(p_i:Int)(p_n:Int):Option (List Int):=Mo.den (alZ p_l p_i p_n)
theorem ap5(p_l:List Int)(p_i:Int)(p_n:Int):FV (ap4 p_l p_i p_n) 19 [.lf (.rows 1 (p_l.map lfI)),.i_ p_i,.i_ p_n] (fun r=>.lf (.rows 1 (r.map lfI))):=cO Tryz.func19
def aan(p_m:aB)(v0:Int)(v1:Int)(v2:Int):Mo (Int):=
 .gx lI_ p_m.bg v2 fun x0 _=>
 .iB (decide ((v0:Int)≤x0)) (.rt [1,2,3,4,5] 2 (IntKind.wrap .i64 (v1+1)))<|
 .rt [1,2,3,4,5] 2 (v1)
def EH(p_m:aB)(v0:Int):(Int×Int)→Mo ((Int×Int)⊕(Int)):=fun(v1,v2)=>
 .nu p_m.bg lfI<|
 .iB (decide ((v2:Int)<(p_m.bg.length:Int))) (.jk Tryz.f20 0 [1,1,0,1,0,0,1,0,0,1,0,1,0,0,1,0] 12 (fun r_=>⟨[(1,.ptr 0 0),(2,.ptr 1 0),(3,.i_ v0),(4,.i_ r_),(5,.i_ v2)],[eG p_m,.box 25 (Z25)]⟩) ⟨[(1,.ptr 0 0),(2,.ptr 1 0),(3,.i_ v0),(4,.i_ v1),(5,.i_ v2)],[eG p_m,.box 25 (Z25)]⟩ (aan p_m v0 v1 v2) fun r0=>
 .rt [1,2,3,4,5] 2 (.inl (r0,IntKind.wrap .i64 (v2+1))))<|
 .rt [1,2,3,4] 2 (.inr (v1))
def WS(p_m:aB)(v0:Int)(v1:Int)(v2:Int):Option (Int):=bQ (fun v_=>(EH p_m v0 v_).den) FU (v1,v2)
def Tt(p_m:aB)(r0:Int)(v0:Int):Mo (Bool):=
 .say [.order [(true,0),(true,1),(true,2),(false,3),(true,4),(true,5),(true,6),(true,7),(true,8),(true,9),(true,13),(true,14),(false,10),(true,11),(false,12),(true,15),(true,16)] none []] ok0<|
 .cl (aeT p_m.dX) fun r1 _=>
 .iG 26005 (decide ((r1:Int)≤r0)) (.gx aF.aX p_m.bn (IntKind.wrap .i64 (v0-1)) fun x0 _=>
 .rt [1,2,3,51] 2 (x0.bW==p_m.bW))<|
 .rt [1,2,3,51] 2 (false)
def Hu(p_m:aB):(Int)→Mo ((Int)⊕(Int)⊕Unit):=fun(v0)=>
 .iB (decide ((p_m.aJ:Int)<v0)) (.l1m [] Tryz.f20 0 [1,1,0,1,0,0,1,0,0,1,0,1,0] 0 (.exit 2) (fun(v1,v2)=>⟨[(1,.ptr 0 0),(2,.ptr 1 0),(3,.i_ v0),(4,.i_ v1),(5,.i_ v2)],[eG p_m,.box 25 (Z25)]⟩) (fun r_=>⟨[(1,.ptr 0 0),(2,.ptr 1 0),(3,.i_ v0),(4,.i_ r_)],[eG p_m,.box 25 (Z25)]⟩) (WS p_m v0 0 0) (EH p_m v0) (0,0) fun r0=>
 .jk Tryz.f20 0 [1,1,0,1,0,0,1,0,0,1,1,0] 31 (fun r_=>⟨[(1,.ptr 0 0),(2,.ptr 1 0),(3,.i_ v0),(51,.b_ r_)],[eG p_m,.box 25 (Z25)]⟩) ⟨[(1,.ptr 0 0),(2,.ptr 1 0),(3,.i_ v0),(4,.i_ r0)],[eG p_m,.box 25 (Z25)]⟩ (Tt p_m r0 v0) fun r1=>
 .iB (r1) (.ret ⟨[.kill 0],[2],[],2⟩ (.inr (.inl (v0))))<|
 .rt [1,2,3] 2 (.inl (IntKind.wrap .i64 (v0-1))))<|
 .rt [1,2] 2 (.inr (.inr (())))
def WT(p_m:aB)(v0:Int):Option ((Int)⊕Unit):=bQ (fun v_=>(Hu p_m v_).den) FU (v0)
def ark(p_m:aB):Mo (aB):=
 .iB (p_m.gX != 2) (.ret (aY 1) (p_m))<|
 .nu p_m.bn aF.lf<|
 .l2m [] Tryz.f20 0 [1,1,0,1,0] 0 (fun(v0)=>⟨[(1,.ptr 0 0),(2,.ptr 1 0),(3,.i_ v0)],[eG p_m,.box 25 (Z25)]⟩) .ret (fun o_=>⟨[(2,.ptr 1 0)],[.dead,.box 25 (ag_ (aB.lf1 p_m) [(9,.i_ o_)])]⟩) (.exit 0) (fun _=>⟨[(1,.ptr 0 0),(2,.ptr 1 0)],[eG p_m,.box 25 (Z25)]⟩) (WT p_m (p_m.bn.length:Int)) (Hu p_m) ((p_m.bn.length:Int)) (fun o0=>
 .ret (aY 1) (aB.qK p_m o0)) fun o1=>
 .ret (aY 1) (p_m)
def Q33(p_m:aB):Option (aB):=Mo.den (ark p_m)
theorem auC(p_m:aB):FV (Q33 p_m) 20 [.dat (aB.lf1 p_m)] (fun r=>.dat (aB.lf1 r)):=cO Tryz.func20
def Tv(p_e:aF)(p_m:aB):Mo (Bool):=
 .say [.order [(true,0),(true,1),(true,2),(true,3),(true,4),(true,5),(true,6),(true,7),(true,8),(true,9),(true,10),(true,11),(true,12),(true,13)] none []] ok0<|
 .iG 20002 (decide ((0:Int)<(p_m.bn.length:Int))) (.gx aF.aX p_m.bn (IntKind.wrap .i64 ((p_m.bn.length:Int)-1)) fun x0 _=>
 .rt [2,3,4,7,41] 3 (decide ((p_e.dQ:Int)≤x0.dQ)))<|
 .rt [2,3,4,7,41] 3 (false)
def WU(p_e:aF)(p_m:aB):Option (Bool):=Mo.den (Tv p_e p_m)
def al0(p_m:aB)(p_e:aF):Mo (aB×Int):=
 .iB (p_m.gX != 2) (.ret (aY 2) (p_m,25))<|
 .cl (auB p_e) fun r0 _=>
 .iB (r0 != 0) (.ret (aY 2) (p_m,r0))<|
 .iB (p_e.bW != p_m.bW) (.ret (aY 2) (p_m,24))<|
 .nu p_m.bn aF.lf<|
 .jp Tryz.f7 0 [1,1,1,1,1,1,0,0] 25 [2,3,4,7] 3 (.normal) (fun r_=>⟨[(2,.ptr 0 0),(3,.ptr 1 0),(4,.ptr 2 0),(7,.i_ (p_m.bn.length:Int)),(41,.b_ r_)],[eG p_m,nH p_e,.box 25 (Z25)]⟩) ⟨[(2,.ptr 0 0),(3,.ptr 1 0),(4,.ptr 2 0),(7,.i_ (p_m.bn.length:Int))],[eG p_m,nH p_e,.box 25 (Z25)]⟩ (WU p_e p_m) (jW (by kernel_rfl)) fun r1 _=>
 .iB (r1) (.ret (aY 2) (p_m,23))<|
 .iB (decide ((16384:Int)≤(p_m.bn.length:Int))) (.ret (aY 2) (p_m,2))<|
 .say [.rows (p_m.bn.map aF.lf),.rows ((p_m.bn++[p_e]).map aF.lf)] (ok1 (by simp[aF.aX]:p_m.bn.map aF.lf=[]++(p_m.bn.map aF.lf)))<|
 .grd ((([]:List aF).length+p_m.bn.length)*1208≤140737488355328) fun h0=>
 .say [] (okc (cq_ aF.lf h0) (ok1 (ap_ aF.aX p_m.bn p_e)))<|
 .grd ((p_m.bn.length+[p_e].length)*1208≤140737488355328) fun h1=>
 .say [] (ok1 (cp_ aF.lf h1))<|
 .ask (ap4 p_m.bg p_m.fID (IntKind.wrap .i64 ((p_m.bn.length:Int)+1))) fun r2 h2=>
 .say [.res (.lf (.rows 1 (r2.map lfI))),.at_ 36 1,.frz 5] (ok1 (ap5 _ _ _ _ h2))<|
 .cl (auC (aB.BR (aB.xY p_m (p_m.bn++[p_e])) r2)) fun r3 _=>
 .ret (aY 2) (r3,0)
def ap6(p_m:aB)(p_e:aF):Option (aB×Int):=Mo.den (al0 p_m p_e)
theorem ap7(p_m:aB)(p_e:aF):FV (ap6 p_m p_e) 7 [.dat (aB.lf1 p_m),.dat (aF.lf1 p_e)] (fun r=>.tup [.dat (aB.lf1 r.1),.i_ r.2]):=cO Tryz.func7
def EI(p_a:List Int)(p_b:List Int):(Int)→Mo ((Int)⊕(Unit⊕Unit)):=fun(v0)=>
 .nu p_a lfI<|
 .iB (decide ((v0:Int)<(p_a.length:Int))) (.say [.order [(true,0),(true,1),(true,2),(true,3),(true,4),(true,5),(true,6),(true,7),(true,8)] none []] ok0<|
 .gx lI_ p_a v0 fun x0 _=>
 .gx lI_ p_b v0 fun x1 _=>
 .iB (x0 != x1) (.rt [4] 0 (.inr (.inl ())))<|
 .rt [0,1,5] 0 (.inl (IntKind.wrap .i64 (v0+1))))<|
 .rt [] 0 (.inr (.inr (())))
def al1(p_a:List Int)(p_b:List Int)(v0:Int):Option (Unit⊕Unit):=bQ (fun v_=>(EI p_a p_b v_).den) FU (v0)
def arl(p_a:List Int)(p_b:List Int):Mo (Bool):=
 .nu p_a lfI<|
 .nu p_b lfI<|
 .iB ((p_a.length:Int) != (p_b.length:Int)) (.ret (aY 1) (false))<|
 .l2m [] Tryz.f21 0 [1,1,0,1,0] 0 (fun(v0)=>⟨[(0,.lf (.rows 1 (p_a.map lfI))),(1,.lf (.rows 1 (p_b.map lfI))),(5,.i_ v0)],[]⟩) .ret (fun _=>⟨[(4,.b_ false)],[]⟩) (.exit 0) (fun _=>⟨[],[]⟩) (al1 p_a p_b 0) (EI p_a p_b) (0) (fun o0=>
 .ret (aY 1) (false)) fun o1=>
 .ret (aY 1) (true)
def Q74(p_a:List Int)(p_b:List Int):Option (Bool):=Mo.den (arl p_a p_b)
theorem al2(p_a:List Int)(p_b:List Int):FV (Q74 p_a p_b) 21 [.lf (.rows 1 (p_a.map lfI)),.lf (.rows 1 (p_b.map lfI))] .b_:=cO Tryz.func21
abbrev WV(m:aH→aO→Option (aO)):Prop:=∀p_x p_b0,FH (m p_x p_b0) 126 [.ptr 0 0,.dat (aH.lf1 p_x)] [dS p_b0] (fun _=>.tup []) (fun r=>[dS r])
structure adM where
 m1:(p_x:aH)→(p_b0:aO)→Option (aO)
 ok1:WV m1
def EJ(R_:adM)(p_x:aH):(Int×aO)→Mo ((Int×aO)⊕(aO)):=fun(v0,s15328)=>
 .nu p_x.dh aH.lf<|
 .iB (decide ((v0:Int)<(p_x.dh.length:Int))) (.gx aH.aX p_x.dh v0 fun x0 _=>
 .cH [0] (R_.ok1 x0 s15328) fun r0 _=>
 .rt [0,3,4] 2 (.inl (IntKind.wrap .i64 (v0+1),r0)))<|
 .rt [0,3] 2 (.inr (s15328))
def adN(R_:adM)(p_x:aH)(v0:Int)(s15328:aO):Option (aO):=bQ (fun v_=>(EJ R_ p_x v_).den) FU (v0,s15328)
def EK(R_:adM)(p_x:aH):(Int×aO)→Mo ((Int×aO)⊕(aO)):=fun(v0,s15371)=>
 .nu p_x.dZ lfI<|
 .iB (decide ((v0:Int)<(p_x.dZ.length:Int))) (.gx lI_ p_x.dZ v0 fun x0 _=>
 .cH [0] (gK x0 s15371) fun r0 _=>
 .rt [0,3,5] 2 (.inl (IntKind.wrap .i64 (v0+1),r0)))<|
 .rt [0,3] 2 (.inr (s15371))
def adO(R_:adM)(p_x:aH)(v0:Int)(s15371:aO):Option (aO):=bQ (fun v_=>(EK R_ p_x v_).den) FU (v0,s15371)
def al3(R_:adM)(p_x:aH)(p_b0:aO):Mo (aO):=
 .cH [0] (gK p_x.aK p_b0) fun r0 _=>
 .cH [0] (tJ p_x.iO r0) fun r1 _=>
 .cH [0] (Cj p_x.jh r1) fun r2 _=>
 .cH [0] (Cj p_x.bC r2) fun r3 _=>
 .cH [0] (Cj p_x.eX r3) fun r4 _=>
 .cH [0] (adA p_x.kM r4) fun r5 _=>
 .cH [0] (Wn p_x.bP r5) fun r6 _=>
 .cH [0] (tJ p_x.oz r6) fun r7 _=>
 .ask (Q14 p_x.dQ r7) fun r8 h0=>
 .say [.jA [0] (.tup []) [dS r8],.num p_x.dh.length] (okc (gK _ _ _ h0) (ok1 (ln_ p_x.dh aH.lf)))<|
 .cH [0] (gK (p_x.dh.length:Int) r8) fun r9 _=>
 .l1m [] Tryz.f126 1 [1,1,1,1,1,1,1,1,1,1,1,0,1,0] 0 (.exit 0) (fun(v0,s15328)=>⟨[(0,.ptr 0 0),(3,.ptr 1 0),(4,.i_ v0)],[dS s15328,dR p_x]⟩) (fun r_=>⟨[(0,.ptr 0 0),(3,.ptr 1 0)],[dS r_,dR p_x]⟩) (adN R_ p_x 0 r9) (EJ R_ p_x) (0,r9) fun r10=>
 .nu p_x.dZ lfI<|
 .cH [0] (gK (p_x.dZ.length:Int) r10) fun r11 _=>
 .l1m [] Tryz.f126 1 [1,1,1,1,1,1,1,1,1,1,1,1,1,0,1,0] 0 (.exit 2) (fun(v1,s15371)=>⟨[(0,.ptr 0 0),(3,.ptr 1 0),(5,.i_ v1)],[dS s15371,dR p_x]⟩) (fun r_=>⟨[(0,.ptr 0 0),(3,.ptr 1 0)],[dS r_,dR p_x]⟩) (adO R_ p_x 0 r11) (EK R_ p_x) (0,r11) fun r12=>
 .cH [0] (vV p_x.iK r12) fun r13 _=>
 .ret ⟨[.kill 1],[],[],1⟩ (r13)
theorem ap8(R_:adM):WV fun p_x p_b0=>Mo.den (al3 R_ p_x p_b0):=fun _ _=>ig Tryz.func126
def vZ:Nat→adM
 |0=>{ m1:=fun p_x p_b0=>none,ok1:=fun _ _ _ h=>(by cases h) }
 |n_+1=>{ m1:=fun p_x p_b0=>Mo.den (al3 (vZ n_) p_x p_b0),ok1:=ap8 (vZ n_) }
def Q40(p_x:aH)(p_b0:aO):Option (aO):=(vZ FU).m1 p_x p_b0
theorem auD:WV Q40:=(vZ FU).ok1
def al4(p_e:aF)(p_b0:aO):Mo (aO):=
 .cH [0] (gK p_e.bW p_b0) fun r0 _=>
 .cH [0] (gK p_e.dQ r0) fun r1 _=>
 .cH [0] (tJ p_e.nD r1) fun r2 _=>
 .cH [0] (gK p_e.vI r2) fun r3 _=>
 .cH [0] (auD p_e.dL r3) fun r4 _=>
 .ret ⟨[.kill 1],[],[],1⟩ (r4)
def auE(p_e:aF)(p_b0:aO):Option (aO):=Mo.den (al4 p_e p_b0)
theorem ap9(p_e:aF)(p_b0:aO):FH (auE p_e p_b0) 82 [.ptr 0 0,.dat (aF.lf1 p_e)] [dS p_b0] (fun _=>.tup []) (fun r=>[dS r]):=ig Tryz.func82
def al5(p_e:aF):Mo (ByteArray):=
 .say [.at_ 6 1,.norm 1] ok0<|
 .cH [1] (ap9 p_e (aO.mk ⟨#[]⟩ false true)) fun r0 _=>
 .ret (aY 1) (r0.fS)
def al6(p_e:aF):Option (ByteArray):=Mo.den (al5 p_e)
theorem agh(p_e:aF):FV (al6 p_e) 44 [.dat (aF.lf1 p_e)] (fun r=>.lf (.str r)):=cO Tryz.func44
def EL(p_a:List aF)(p_b:List aF):(Int)→Mo ((Int)⊕(Unit⊕Unit)):=fun(v0)=>
 .nu p_a aF.lf<|
 .iB (decide ((v0:Int)<(p_a.length:Int))) (.ask (fQ p_a v0) fun x0 h0=>
 .say [] (ok1 (bU aF.aX h0))<|
 .ask (fQ p_b v0) fun x1 h1=>
 .say [] (ok1 (bU aF.aX h1))<|
 .ask (al6 x0) fun r0 h2=>
 .say [] (ok1 (agh _ _ h2))<|
 .ask (al6 x1) fun r1 h3=>
 .say [.gY (.q 0 (.q 1 (.q 2 (.q 3 (.q 5 (.q 6 (.q 7 (.q 8 (.l 4 (.l 9 (.q 10 .fin))))))))))) (some 9) [] [.row (aF.lf1 x0),.row (aF.lf1 x1),.res (.lf (.str r0)),.res (.lf (.str r1))] [0,1,5,27] 0 [(0,.lf (.rows 82 (p_a.map aF.lf))),(1,.lf (.rows 82 (p_b.map aF.lf))),(5,.i_ v0),(27,.lf (.bool (!decide ((r0:ByteArray)=(r1:ByteArray)))))] []] (okc (agh _ _ h3) (ok1 (rf_ ⟨[(0,.lf (.rows 82 (p_a.map aF.lf))),(1,.lf (.rows 82 (p_b.map aF.lf))),(5,.i_ v0),(27,.lf (.bool (!decide ((r0:ByteArray)=(r1:ByteArray)))))],[]⟩)))<|
 .iB (!decide ((r0:ByteArray)=(r1:ByteArray))) (.rt [4] 0 (.inr (.inl ())))<|
 .rt [0,1,5] 0 (.inl (IntKind.wrap .i64 (v0+1))))<|
 .rt [] 0 (.inr (.inr (())))
def al7(p_a:List aF)(p_b:List aF)(v0:Int):Option (Unit⊕Unit):=bQ (fun v_=>(EL p_a p_b v_).den) FU (v0)
def arn(p_a:List aF)(p_b:List aF):Mo (Bool):=
 .nu p_a aF.lf<|
 .nu p_b aF.lf<|
 .iB ((p_a.length:Int) != (p_b.length:Int)) (.ret (aY 1) (false))<|
 .l2m [] Tryz.f22 0 [1,1,0,1,0] 0 (fun(v0)=>⟨[(0,.lf (.rows 82 (p_a.map aF.lf))),(1,.lf (.rows 82 (p_b.map aF.lf))),(5,.i_ v0)],[]⟩) .ret (fun _=>⟨[(4,.b_ false)],[]⟩) (.exit 0) (fun _=>⟨[],[]⟩) (al7 p_a p_b 0) (EL p_a p_b) (0) (fun o0=>
 .ret (aY 1) (false)) fun o1=>
 .ret (aY 1) (true)
def Q82(p_a:List aF)(p_b:List aF):Option (Bool):=Mo.den (arn p_a p_b)
theorem auF(p_a:List aF)(p_b:List aF):FV (Q82 p_a p_b) 22 [.lf (.rows 82 (p_a.map aF.lf)),.lf (.rows 82 (p_b.map aF.lf))] .b_:=cO Tryz.func22
def agi(p_a:aB)(p_b:aB):Mo (Bool):=
 .aV 4005 (p_a.fID==p_b.fID) [2,3,4,16] 2 (p_a.dX==p_b.dX)
def agj(p_a:aB)(p_b:aB)(r0:Bool):Mo (Bool):=
 .aV 4012 (r0) [2,3,4,23] 2 (p_a.bW==p_b.bW)
def aao(p_a:aB)(p_b:aB)(r0:Bool):Mo (Bool):=
 .aV 4019 (r0) [2,3,4,30] 2 (p_a.lI==p_b.lI)
def aap(p_a:aB)(p_b:aB)(r0:Bool):Mo (Bool):=
 .aV 4026 (r0) [2,3,4,37] 2 (p_a.gX==p_b.gX)
def aaq(p_a:aB)(p_b:aB)(r0:Bool):Mo (Bool):=
 .aV 4033 (r0) [2,3,4,44] 2 (p_a.jf==p_b.jf)
def aar(p_a:aB)(p_b:aB)(r0:Bool):Mo (Bool):=
 .aV 4040 (r0) [2,3,4,51] 2 (p_a.jq==p_b.jq)
def aas(p_a:aB)(p_b:aB)(r0:Bool):Mo (Bool):=
 .aV 4047 (r0) [2,3,4,58] 2 (p_a.iE==p_b.iE)
def aat(p_a:aB)(p_b:aB)(r0:Bool):Mo (Bool):=
 .aV 4054 (r0) [2,3,4,65] 2 (p_a.aJ==p_b.aJ)
def aau(p_a:aB)(p_b:aB)(r0:Bool):Mo (Bool):=
 .aC 4061 (r0) [2,3,4,72] 2 (al2 p_a.fNext p_b.fNext)
def aav(p_a:aB)(p_b:aB)(r0:Bool):Mo (Bool):=
 .aC 4068 (r0) [2,3,4,79] 2 (al2 p_a.bg p_b.bg)
def aaw(p_a:aB)(p_b:aB)(r0:Bool):Mo (Bool):=
 .iG 4075 (r0) (.cl (auF p_a.bn p_b.bn) fun r1 _=>
 .ret ⟨[.kill 0,.kill 1],[4,86],[],2⟩ (r1))<|
 .ret ⟨[.kill 0,.kill 1],[4,86],[],2⟩ (false)
def aax(r0:Bool):Mo (Unit):=
 .rt [4] 2 ()
def avJ(p_a:aB)(p_b:aB):Mo (Bool):=
 .sf Tryz.f8 0 [1,0] 0 12 1 [(2,.ptr 0 0),(3,.ptr 1 0),(4,.b_ false)] [eG p_a,eG p_b] 16 (agi p_a p_b) fun r0=>
 .sb Tryz.f8 0 [1,0] 12 7 1 [(2,.ptr 0 0),(3,.ptr 1 0),(4,.b_ false)] [eG p_a,eG p_b] 16 23 r0 (agj p_a p_b r0) fun r1=>
 .sb Tryz.f8 0 [1,0] 19 7 1 [(2,.ptr 0 0),(3,.ptr 1 0),(4,.b_ false)] [eG p_a,eG p_b] 23 30 r1 (aao p_a p_b r1) fun r2=>
 .sb Tryz.f8 0 [1,0] 26 7 1 [(2,.ptr 0 0),(3,.ptr 1 0),(4,.b_ false)] [eG p_a,eG p_b] 30 37 r2 (aap p_a p_b r2) fun r3=>
 .sb Tryz.f8 0 [1,0] 33 7 1 [(2,.ptr 0 0),(3,.ptr 1 0),(4,.b_ false)] [eG p_a,eG p_b] 37 44 r3 (aaq p_a p_b r3) fun r4=>
 .sb Tryz.f8 0 [1,0] 40 7 1 [(2,.ptr 0 0),(3,.ptr 1 0),(4,.b_ false)] [eG p_a,eG p_b] 44 51 r4 (aar p_a p_b r4) fun r5=>
 .sb Tryz.f8 0 [1,0] 47 7 1 [(2,.ptr 0 0),(3,.ptr 1 0),(4,.b_ false)] [eG p_a,eG p_b] 51 58 r5 (aas p_a p_b r5) fun r6=>
 .sb Tryz.f8 0 [1,0] 54 7 1 [(2,.ptr 0 0),(3,.ptr 1 0),(4,.b_ false)] [eG p_a,eG p_b] 58 65 r6 (aat p_a p_b r6) fun r7=>
 .sb Tryz.f8 0 [1,0] 61 7 1 [(2,.ptr 0 0),(3,.ptr 1 0),(4,.b_ false)] [eG p_a,eG p_b] 65 72 r7 (aau p_a p_b r7) fun r8=>
 .sb Tryz.f8 0 [1,0] 68 7 1 [(2,.ptr 0 0),(3,.ptr 1 0),(4,.b_ false)] [eG p_a,eG p_b] 72 79 r8 (aav p_a p_b r8) fun r9=>
 .sk Tryz.f8 0 [1,0] 75 7 1 (fun r_=>⟨[(4,.b_ false),(86,.b_ r_)],[.dead,.dead]⟩) ⟨[(2,.ptr 0 0),(3,.ptr 1 0),(4,.b_ false),(79,.b_ r9)],[eG p_a,eG p_b]⟩ (aaw p_a p_b r9) fun r10=>
 .sk Tryz.f8 0 [1,0] 82 1 1 (fun r_=>⟨[(4,.b_ r10)],[.dead,.dead]⟩) ⟨[(4,.b_ false),(86,.b_ r10)],[.dead,.dead]⟩ (aax r10) fun r11=>
 .ret (aY 1) (r10)
def Q9(p_a:aB)(p_b:aB):Option (Bool):=Mo.den (avJ p_a p_b)
theorem avK(p_a:aB)(p_b:aB):FV (Q9 p_a p_b) 8 [.dat (aB.lf1 p_a),.dat (aB.lf1 p_b)] .b_:=cO Tryz.func8
def al8(p_m:aB)(p_e:aF):Mo (Bool):=
 .cl (anA p_m) fun r0 _=>
 .iB (!r0) (.cl (adg) fun r1 _=>
 .ret (aY 1) (r1))<|
 .cl (VQ p_m p_e) fun r2 _=>
 .cl (ap7 p_m p_e) fun r3 _=>
 .iB (r2.2 != r3.2) (.ret (aY 1) (false))<|
 .iG 16002 (r2.2 != 0) (.cl (adg) fun r4 _=>
 .ret (aY 1) (r4))<|
 .cl (avK r2.1 r3.1) fun r5 _=>
 .iG 16007 (r5) (.cl (adg) fun r6 _=>
 .ret (aY 1) (r6))<|
 .ret (aY 1) (false)
def auG(p_m:aB)(p_e:aF):Option (Bool):=Mo.den (al8 p_m p_e)
theorem aqa(p_m:aB)(p_e:aF):FV (auG p_m p_e) 3 [.dat (aB.lf1 p_m),.dat (aF.lf1 p_e)] .b_:=cO Tryz.func3
end
end Go.Proofs.YtbdcaeahocbkbaaGreatDoor
