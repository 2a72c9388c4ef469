/- Printed by dec.py. -/
import Derived.Test.YtbdcaeahocbkbaaGreatDoorQAManA
set_option linter.unusedSimpArgs false
set_option linter.unusedVariables false
namespace Go.Proofs.YtbdcaeahocbkbaaGreatDoor
open Go.RowKit
set_option maxRecDepth 20000
set_option maxHeartbeats 4000000
noncomputable section
abbrev dS(p:aO):Slot:=.box 122 (.dat (aO.lf1 p))
abbrev eG(p:aB):Slot:=.box 25 (.dat (aB.lf1 p))
abbrev bG(p:ah):Slot:=.box 29 (.dat (ah.lf1 p))
abbrev gq(p:aI):Slot:=.box 35 (.dat (aI.lf1 p))
abbrev nV(p:cu):Slot:=.box 37 (.dat (cu.lf1 p))
abbrev wR(p:dP):Slot:=.box 41 (.dat (dP.lf1 p))
abbrev dJ(p:aT):Slot:=.box 44 (.dat (aT.lf1 p))
abbrev dB(p:aP):Slot:=.box 47 (.dat (aP.lf1 p))
abbrev mY(p:aU):Slot:=.box 49 (.dat (aU.lf1 p))
abbrev dR(p:aH):Slot:=.box 52 (.dat (aH.lf1 p))
abbrev nH(p:aF):Slot:=.box 54 (.dat (aF.lf1 p))
abbrev fG(p:aG):Slot:=.box 65 (.dat (aG.lf1 p))
abbrev aqF(p:aS):Slot:=.box 87 (.dat (aS.lf1 p))
def Jf(p_m:aB)(v0:Int)(v1:Int)(v2:Int)(x0:aF):Mo (Bool):=
 .oV 18004 (decide ((x0.bW:Int)<v0)) [1,4,5,6,33] 2 (decide ((p_m.bW:Int)<x0.bW))
def Jg(p_m:aB)(r0:Bool)(v0:Int)(v1:Int)(x0:aF):Mo (Bool):=
 .oV 18011 (r0) [1,5,6,39] 2 (decide ((x0.dQ:Int)≤v0))
def Dx(p_m:aB)(r0:Bool)(v0:Int)(x0:aF):Mo (Bool):=
 .oV 18017 (r0) [1,5,6,44] 2 (decide ((1099511627776:Int)<x0.dQ))
def Dy(p_m:aB):(Int×Int×Int)→Mo ((Int×Int×Int)⊕(Unit⊕Unit)):=fun(v0,v1,v2)=>
 .nu p_m.bn aF.lf<|
 .iB (decide ((v2:Int)<(p_m.bn.length:Int))) (.gx aF.aX p_m.bn v2 fun x0 _=>
 .sk Tryz.f23 0 [1,1,1,0,1,0,0,1,0,0,1,0,0] 0 11 8 (fun r_=>⟨[(1,.ptr 0 0),(4,.i_ v1),(5,.i_ v2),(6,.ptr 1 0),(33,.b_ r_)],[eG p_m,.box 54 (.agg ((aF.lf1 x0).map AV.lf))]⟩) ⟨[(1,.ptr 0 0),(3,.i_ v0),(4,.i_ v1),(5,.i_ v2),(6,.ptr 1 0)],[eG p_m,.box 54 (.agg ((aF.lf1 x0).map AV.lf))]⟩ (Jf p_m v0 v1 v2 x0) fun r0=>
 .sk Tryz.f23 0 [1,1,1,0,1,0,0,1,0,0,1,0,0] 11 6 8 (fun r_=>⟨[(1,.ptr 0 0),(5,.i_ v2),(6,.ptr 1 0),(39,.b_ r_)],[eG p_m,.box 54 (.agg ((aF.lf1 x0).map AV.lf))]⟩) ⟨[(1,.ptr 0 0),(4,.i_ v1),(5,.i_ v2),(6,.ptr 1 0),(33,.b_ r0)],[eG p_m,.box 54 (.agg ((aF.lf1 x0).map AV.lf))]⟩ (Jg p_m r0 v1 v2 x0) fun r1=>
 .sb Tryz.f23 0 [1,1,1,0,1,0,0,1,0,0,1,0,0] 17 5 8 [(1,.ptr 0 0),(5,.i_ v2),(6,.ptr 1 0)] [eG p_m,.box 54 (.agg ((aF.lf1 x0).map AV.lf))] 39 44 r1 (Dx p_m r1 v2 x0) fun r2=>
 .iB (r2) (.ret ⟨[.kill 0],[2],[],1⟩ (.inr (.inl ())))<|
 .rt [1,3,4,5] 1 (.inl (x0.bW,x0.dQ,IntKind.wrap .i64 (v2+1))))<|
 .rt [1] 1 (.inr (.inr (())))
def Dz(p_m:aB):Mo (Bool):=
 .iG 26003 (decide ((0:Int)≤p_m.aJ)) (.nu p_m.bn aF.lf<|
 .ret ⟨[.kill 0],[59],[],1⟩ (decide ((p_m.aJ:Int)≤(p_m.bn.length:Int))))<|
 .ret ⟨[.kill 0],[59],[],1⟩ (false)
def dG(r0:Bool):Mo (Unit):=
 .rt [2] 1 ()
def ai1(p_m:aB):Mo (Bool):=
 .nu p_m.bn aF.lf<|
 .iB (decide ((16384:Int)<(p_m.bn.length:Int))) (.ret (aY 1) (false))<|
 .l2 Tryz.f23 0 [1,1,1,0,1,0] 0 (fun(v0,v1,v2)=>⟨[(1,.ptr 0 0),(3,.i_ v0),(4,.i_ v1),(5,.i_ v2)],[eG p_m]⟩) .ret (fun _=>⟨[(2,.b_ false)],[.dead]⟩) (.exit 0) (fun _=>⟨[(1,.ptr 0 0)],[eG p_m]⟩) (Dy p_m) (0,0,0) (fun o0=>
 .ret (aY 1) (false)) fun o1=>
 .sk Tryz.f23 0 [1,1,1,1,0] 0 11 12 (fun r_=>⟨[(59,.b_ r_)],[.dead]⟩) ⟨[(1,.ptr 0 0)],[eG p_m]⟩ (Dz p_m) fun r0=>
 .sk Tryz.f23 0 [1,1,1,1,0] 11 1 12 (fun r_=>⟨[(2,.b_ r0)],[.dead]⟩) ⟨[(59,.b_ r0)],[.dead]⟩ (dG r0) fun r1=>
 .ret (aY 1) (r0)
def Q0(p_m:aB):Option (Bool):=Mo.den (ai1 p_m)
theorem au8(p_m:aB):FV (Q0 p_m) 23 [.dat (aB.lf1 p_m)] .b_:=cO Tryz.func23
def OA(p_set:Int)(p_size:Int):(Int×Int)→Mo ((Int×Int)⊕(Int)):=fun(v0,v1)=>
 .iB (decide ((v1:Int)<p_size)) (.grd ((0:Int)≤v1) fun h0=>
 .say [] (okc h0 (ok1 (by decide:(2:Int)≠0)))<|
 .rt [0,1,5,6] 0 (.inl (IntKind.wrap .i64 (v0+(Int.tmod (gu .i64 p_set v1) 2)),IntKind.wrap .i64 (v1+1))))<|
 .rt [5] 0 (.inr (v0))
def ai2(p_set:Int)(p_size:Int):Mo (Int):=
 .l1 Tryz.f24 0 [1,1,0,1,0] 0 (.exit 0) (fun(v0,v1)=>⟨[(0,.i_ p_set),(1,.i_ p_size),(5,.i_ v0),(6,.i_ v1)],[]⟩) (fun r_=>⟨[(5,.i_ r_)],[]⟩) (OA p_set p_size) (0,0) fun r0=>
 .ret (aY 1) (r0)
def anw(p_set:Int)(p_size:Int):Option (Int):=Mo.den (ai2 p_set p_size)
theorem anx(p_set:Int)(p_size:Int):FV (anw p_set p_size) 24 [.i_ p_set,.i_ p_size] .i_:=cO Tryz.func24
def FY(p_size:Int):Mo (Bool):=
 .oV 4002 (decide ((p_size:Int)<1)) [0,8] 0 (decide ((7:Int)<p_size))
def ai3(p_size:Int):Mo (Int):=
 .jk Tryz.f25 0 [1,0,0] 9 (fun r_=>⟨[(0,.i_ p_size),(8,.b_ r_)],[]⟩) ⟨[(0,.i_ p_size)],[]⟩ (FY p_size) fun r0=>
 .iB (r0) (.ret (aY 1) (0))<|
 .say [] (ok1 (by decide:(2:Int)≠0))<|
 .ret (aY 1) (IntKind.wrap .i64 ((IntKind.wrap .i64 (Int.tdiv p_size 2))+1))
def anz(p_size:Int):Option (Int):=Mo.den (ai3 p_size)
theorem aeT(p_size:Int):FV (anz p_size) 25 [.i_ p_size] .i_:=cO Tryz.func25
def Yb(p_l:List Int)(p_most:Int)(v0:Int):Mo (Bool):=
 .gx lI_ p_l v0 fun x0 _=>
 .iG 10005 (decide ((x0:Int)<0)) (.rt [0,1,5,24] 0 (true))<|
 .gx lI_ p_l v0 fun x1 _=>
 .rt [0,1,5,24] 0 (decide ((p_most:Int)<x1))
def DC(p_l:List Int)(p_most:Int):(Int)→Mo ((Int)⊕(Unit⊕Unit)):=fun(v0)=>
 .nu p_l lfI<|
 .iB (decide ((v0:Int)<(p_l.length:Int))) (.jk Tryz.f26 0 [1,0,1,0,0,1,0,0,0] 15 (fun r_=>⟨[(0,.lf (.rows 1 (p_l.map lfI))),(1,.i_ p_most),(5,.i_ v0),(24,.b_ r_)],[]⟩) ⟨[(0,.lf (.rows 1 (p_l.map lfI))),(1,.i_ p_most),(5,.i_ v0)],[]⟩ (Yb p_l p_most v0) fun r0=>
 .iB (r0) (.rt [4] 0 (.inr (.inl ())))<|
 .rt [0,1,5] 0 (.inl (IntKind.wrap .i64 (v0+1))))<|
 .rt [] 0 (.inr (.inr (())))
def ai4(p_l:List Int)(p_most:Int)(v0:Int):Option (Unit⊕Unit):=bQ (fun v_=>(DC p_l p_most v_).den) FU (v0)
def aqG(p_l:List Int)(p_most:Int):Mo (Bool):=
 .l2m [] Tryz.f26 0 [1,0,1,0] 0 (fun(v0)=>⟨[(0,.lf (.rows 1 (p_l.map lfI))),(1,.i_ p_most),(5,.i_ v0)],[]⟩) .ret (fun _=>⟨[(4,.b_ false)],[]⟩) (.exit 0) (fun _=>⟨[],[]⟩) (ai4 p_l p_most 0) (DC p_l p_most) (0) (fun o0=>
 .ret (aY 1) (false)) fun o1=>
 .ret (aY 1) (true)
def Q77(p_l:List Int)(p_most:Int):Option (Bool):=Mo.den (aqG p_l p_most)
theorem ai5(p_l:List Int)(p_most:Int):FV (Q77 p_l p_most) 26 [.lf (.rows 1 (p_l.map lfI)),.i_ p_most] .b_:=cO Tryz.func26
def aeU(p_m:aB):Mo (Bool):=
 .oV 4003 (decide ((p_m.dX:Int)<1)) [1,11] 1 (decide ((7:Int)<p_m.dX))
def aeV(p_m:aB)(r0:Bool):Mo (Bool):=
 .oV 4008 (r0) [1,16] 1 (decide ((p_m.fID:Int)<0))
def Yc(p_m:aB)(r0:Bool):Mo (Bool):=
 .oV 4013 (r0) [1,23] 1 (decide ((p_m.dX:Int)≤p_m.fID))
def Yd(p_m:aB)(r0:Bool):Mo (Bool):=
 .oV 4020 (r0) [1,28] 1 (decide ((p_m.bW:Int)<0))
def Ye(p_m:aB)(r0:Bool):Mo (Bool):=
 .oV 4025 (r0) [1,33] 1 (decide ((p_m.lI:Int)<(-1)))
def Yf(p_m:aB)(r0:Bool):Mo (Bool):=
 .oV 4030 (r0) [1,40] 1 (decide ((p_m.dX:Int)≤p_m.lI))
def Yg(p_m:aB)(r0:Bool):Mo (Bool):=
 .oV 4037 (r0) [1,45] 1 (decide ((p_m.jf:Int)<(-1)))
def Yh(p_m:aB)(r0:Bool):Mo (Bool):=
 .oV 4042 (r0) [1,52] 1 (decide ((p_m.dX:Int)≤p_m.jf))
theorem av7:NY (opsOf (Code.sub (bodyC Tryz.f9) [1,1,0,0])) [(true,0),(true,1),(true,2),(true,3),(true,4),(true,5),(true,6),(true,7),(true,8),(true,9),(true,10),(true,11),(true,12),(true,13),(true,14),(true,15),(true,16),(true,17),(true,18),(true,19),(true,20),(true,21),(true,22),(true,23),(true,24),(true,25),(true,26),(true,27),(false,28),(true,29),(true,30)] none=true:=by kernel_rfl
def Yi(p_m:aB):Mo (Bool):=
 .say [.sQ [(true,0),(true,1),(true,2),(true,3),(true,4),(true,5),(true,6),(true,7),(true,8),(true,9),(true,10),(true,11),(true,12),(true,13),(true,14),(true,15),(true,16),(true,17),(true,18),(true,19),(true,20),(true,21),(true,22),(true,23),(true,24),(true,25),(true,26),(true,27),(false,28),(true,29),(true,30)] none []] (ok1 av7)<|
 .iG 8003 (decide ((p_m.gX:Int)<0)) (.rt [1,83] 1 (true))<|
 .iG 8008 (decide ((2:Int)<p_m.gX)) (.rt [1,83] 1 (true))<|
 .iG 8013 (decide ((p_m.jq:Int)<0)) (.rt [1,83] 1 (true))<|
 .iG 8018 (decide ((p_m.iE:Int)<0)) (.rt [1,83] 1 (true))<|
 .grd ((0:Int)≤p_m.dX) fun h0=>
 .say [] (ok1 h0)<|
 .iG 8026 (decide ((AU .i64 1 p_m.dX:Int)≤p_m.iE)) (.rt [1,83] 1 (true))<|
 .cl (au8 p_m) fun r0 _=>
 .rt [1,83] 1 (!r0)
def Yj(p_m:aB):Mo (Bool):=
 .iG 12003 (p_m.gX != 0) (.iG 12007 (decide ((p_m.bW:Int)<1)) (.rt [1,107] 1 (true))<|
 .iG 12014 (p_m.lI != p_m.fID) (.rt [1,107] 1 (true))<|
 .grd ((0:Int)≤p_m.fID) fun h0=>
 .say [] (okc h0 (ok1 (by decide:(2:Int)≠0)))<|
 .rt [1,107] 1 ((Int.tmod (gu .i64 p_m.iE p_m.fID) 2)==0))<|
 .rt [1,107] 1 (false)
def Yk(p_m:aB)(r0:Int)(r1:Int):Mo (Bool):=
 .oV 22003 (p_m.jf != (-1)) [1,126] 1 (decide ((r1:Int)≤r0))
def Yl(p_m:aB)(r0:Int)(r1:Int):Mo (Bool):=
 .aV 28005 (p_m.jf==p_m.fID) [1,136] 1 (decide ((r1:Int)≤r0))
def Ym(p_m:aB)(r0:Bool):Mo (Bool):=
 .iG 28008 (r0) (.nu p_m.fNext lfI<|
 .rt [1,144] 1 ((p_m.fNext.length:Int)==p_m.dX))<|
 .rt [1,144] 1 (false)
def Yn(p_m:aB)(r0:Bool):Mo (Bool):=
 .iG 28016 (r0) (.nu p_m.bg lfI<|
 .rt [1,152] 1 ((p_m.bg.length:Int)==p_m.dX))<|
 .rt [1,152] 1 (false)
def Yo(p_m:aB)(r0:Bool):Mo (Bool):=
 .iG 28024 (r0) (.nu p_m.bn aF.lf<|
 .cl (ai5 p_m.fNext (p_m.bn.length:Int)) fun r1 _=>
 .rt [1,160] 1 (r1))<|
 .rt [1,160] 1 (false)
def Yp(p_m:aB)(r0:Bool):Mo (Bool):=
 .iG 28032 (r0) (.nu p_m.bn aF.lf<|
 .cl (ai5 p_m.bg (p_m.bn.length:Int)) fun r1 _=>
 .ret ⟨[.kill 0],[168],[],1⟩ (r1))<|
 .ret ⟨[.kill 0],[168],[],1⟩ (false)
def Yq(p_m:aB)(r0:Int)(r1:Int):Mo ((Bool)⊕Unit):=
 .iB (p_m.gX==1) (.jk Tryz.f9 0 [1,1,1,1,1,0,1,0,1,0,0] 27 (fun r_=>⟨[(1,.ptr 0 0),(126,.b_ r_)],[eG p_m]⟩) ⟨[(1,.ptr 0 0),(3,.lf (.bool (decide ((r1:Int)≤r0))))],[eG p_m]⟩ (Yk p_m r0 r1) fun r2=>
 .iB (r2) (.ret ⟨[.kill 0],[2],[],1⟩ (.inl (false)))<|
 .rt [1] 1 (.inr (())))<|
 .iB (p_m.gX==2) (.sk Tryz.f9 0 [1,1,1,1,1,0,1,0,1,1,1,0,0] 0 8 13 (fun r_=>⟨[(1,.ptr 0 0),(136,.b_ r_)],[eG p_m]⟩) ⟨[(1,.ptr 0 0),(3,.lf (.bool (decide ((r1:Int)≤r0))))],[eG p_m]⟩ (Yl p_m r0 r1) fun r3=>
 .sb Tryz.f9 0 [1,1,1,1,1,0,1,0,1,1,1,0,0] 8 8 13 [(1,.ptr 0 0)] [eG p_m] 136 144 r3 (Ym p_m r3) fun r4=>
 .sb Tryz.f9 0 [1,1,1,1,1,0,1,0,1,1,1,0,0] 16 8 13 [(1,.ptr 0 0)] [eG p_m] 144 152 r4 (Yn p_m r4) fun r5=>
 .sb Tryz.f9 0 [1,1,1,1,1,0,1,0,1,1,1,0,0] 24 8 13 [(1,.ptr 0 0)] [eG p_m] 152 160 r5 (Yo p_m r5) fun r6=>
 .sk Tryz.f9 0 [1,1,1,1,1,0,1,0,1,1,1,0,0] 32 8 13 (fun r_=>⟨[(168,.b_ r_)],[.dead]⟩) ⟨[(1,.ptr 0 0),(160,.b_ r6)],[eG p_m]⟩ (Yp p_m r6) fun r7=>
 .sk Tryz.f9 0 [1,1,1,1,1,0,1,0,1,1,1,0,0] 40 1 13 (fun r_=>⟨[(2,.b_ r7)],[.dead]⟩) ⟨[(168,.b_ r7)],[.dead]⟩ (dG r7) fun r8=>
 .rt [2] 1 (.inl (r7)))<|
 .rt [1] 1 (.inr (()))
def au9(p_m:aB):Mo (Bool):=
 .sf Tryz.f9 0 [1,0,0] 0 8 1 [(1,.ptr 0 0)] [eG p_m] 11 (aeU p_m) fun r0=>
 .sb Tryz.f9 0 [1,0,0] 8 5 1 [(1,.ptr 0 0)] [eG p_m] 11 16 r0 (aeV p_m r0) fun r1=>
 .sb Tryz.f9 0 [1,0,0] 13 7 1 [(1,.ptr 0 0)] [eG p_m] 16 23 r1 (Yc p_m r1) fun r2=>
 .sb Tryz.f9 0 [1,0,0] 20 5 1 [(1,.ptr 0 0)] [eG p_m] 23 28 r2 (Yd p_m r2) fun r3=>
 .sb Tryz.f9 0 [1,0,0] 25 5 1 [(1,.ptr 0 0)] [eG p_m] 28 33 r3 (Ye p_m r3) fun r4=>
 .sb Tryz.f9 0 [1,0,0] 30 7 1 [(1,.ptr 0 0)] [eG p_m] 33 40 r4 (Yf p_m r4) fun r5=>
 .sb Tryz.f9 0 [1,0,0] 37 5 1 [(1,.ptr 0 0)] [eG p_m] 40 45 r5 (Yg p_m r5) fun r6=>
 .sb Tryz.f9 0 [1,0,0] 42 7 1 [(1,.ptr 0 0)] [eG p_m] 45 52 r6 (Yh p_m r6) fun r7=>
 .iB (r7) (.ret (aY 1) (false))<|
 .jk Tryz.f9 0 [1,1,0,0] 13 (fun r_=>⟨[(1,.ptr 0 0),(83,.b_ r_)],[eG p_m]⟩) ⟨[(1,.ptr 0 0)],[eG p_m]⟩ (Yi p_m) fun r8=>
 .iB (r8) (.ret (aY 1) (false))<|
 .jk Tryz.f9 0 [1,1,1,0,0] 17 (fun r_=>⟨[(1,.ptr 0 0),(107,.b_ r_)],[eG p_m]⟩) ⟨[(1,.ptr 0 0)],[eG p_m]⟩ (Yj p_m) fun r9=>
 .iB (r9) (.ret (aY 1) (false))<|
 .ask (anw p_m.iE p_m.dX) fun r10 h0=>
 .say [] (ok1 (anx _ _ _ h0))<|
 .ask (anz p_m.dX) fun r11 h1=>
 .say [.gY (.q 0 (.q 1 (.q 2 (.q 3 (.q 5 (.q 6 (.l 4 (.l 7 (.q 8 (.q 9 .fin)))))))))) (some 7) [] [.res (.i_ r10),.res (.i_ r11)] [1,3] 1 [(1,.ptr 0 0),(3,.lf (.bool (decide ((r11:Int)≤r10))))] [eG p_m]] (okc (aeT _ _ h1) (ok1 (rf_ ⟨[(1,.ptr 0 0),(3,.lf (.bool (decide ((r11:Int)≤r10))))],[eG p_m]⟩)))<|
 .j2 [] Tryz.f9 0 [1,1,1,1,1,0,1] 6 .ret (fun o_=>⟨[(2,.b_ o_)],[.dead]⟩) .normal (fun _=>⟨[(1,.ptr 0 0)],[eG p_m]⟩) ⟨[(1,.ptr 0 0),(3,.lf (.bool (decide ((r11:Int)≤r10)))),(118,.i_ p_m.gX)],[eG p_m]⟩ (Yq p_m r10 r11) (fun o0=>
 .ret (aY 1) (o0)) fun o1=>
 .nu p_m.fNext lfI<|
 .iG 30004 ((p_m.fNext.length:Int)==0) (.nu p_m.bg lfI<|
 .ret (aY 1) ((p_m.bg.length:Int)==0))<|
 .ret (aY 1) (false)
def Q7(p_m:aB):Option (Bool):=Mo.den (au9 p_m)
theorem ava(p_m:aB):FV (Q7 p_m) 9 [.dat (aB.lf1 p_m)] .b_:=cO Tryz.func9
def ai6(p_m:aB):Mo (Bool):=
 .nu p_m.bn aF.lf<|
 .iG 4004 (decide (((p_m.bn.length:Int):Int)≤200)) (.cl (ava p_m) fun r0 _=>
 .ret (aY 1) (r0))<|
 .ret (aY 1) (false)
def ar2(p_m:aB):Option (Bool):=Mo.den (ai6 p_m)
theorem anA(p_m:aB):FV (ar2 p_m) 4 [.dat (aB.lf1 p_m)] .b_:=cO Tryz.func4
def ar4(p_id:Int):Mo (Int):=
 .ret (aY 1) (IntKind.wrap .i64 (10+(IntKind.wrap .i64 (3*p_id))))
def avb(p_id:Int):Option (Int):=Mo.den (ar4 p_id)
theorem anB(p_id:Int):FV (avb p_id) 27 [.i_ p_id] .i_:=cO Tryz.func27
def agW(p_id:Int)(p_size:Int):Mo (Bool):=
 .oV 4002 (decide ((p_size:Int)<1)) [0,1,4,11] 1 (decide ((7:Int)<p_size))
def agX(p_id:Int)(p_size:Int)(r0:Bool):Mo (Bool):=
 .oV 4006 (r0) [0,1,4,15] 1 (decide ((p_id:Int)<0))
def aby(p_id:Int)(p_size:Int)(r0:Bool):Mo (Bool):=
 .oV 4010 (r0) [0,1,4,20] 1 (decide ((p_size:Int)≤p_id))
def ar5(p_id:Int)(p_size:Int):Mo (aB×Int):=
 .sf Tryz.f10 0 [1,0,0] 0 6 1 [(0,.i_ p_id),(1,.i_ p_size),(4,.ptr 0 0)] [.box 25 (Z25)] 11 (agW p_id p_size) fun r0=>
 .sb Tryz.f10 0 [1,0,0] 6 4 1 [(0,.i_ p_id),(1,.i_ p_size),(4,.ptr 0 0)] [.box 25 (Z25)] 11 15 r0 (agX p_id p_size r0) fun r1=>
 .sb Tryz.f10 0 [1,0,0] 10 5 1 [(0,.i_ p_id),(1,.i_ p_size),(4,.ptr 0 0)] [.box 25 (Z25)] 15 20 r1 (aby p_id p_size r1) fun r2=>
 .iB (r2) (.ret (aY 2) (aB.z,1))<|
 .cl (anB p_id) fun r3 _=>
 .ret (aY 2) (aB.UK (aB.aeH (aB.aqC (aB.auZ (aB.sID aB.z p_id) p_size) (-1)) (-1)) r3,0)
def av8(p_id:Int)(p_size:Int):Option (aB×Int):=Mo.den (ar5 p_id p_size)
theorem anC(p_id:Int)(p_size:Int):FV (av8 p_id p_size) 10 [.i_ p_id,.i_ p_size] (fun r=>.tup [.dat (aB.lf1 r.1),.i_ r.2]):=cO Tryz.func10
def ar6(p_term:Int)(p_stamp:Int):Mo (aF):=
 .ret (aY 1) (aF.mk p_term p_stamp ⟨#[]⟩ 0 (aH.nG aH.z 1))
def ar7(p_term:Int)(p_stamp:Int):Option (aF):=Mo.den (ar6 p_term p_stamp)
theorem UW(p_term:Int)(p_stamp:Int):FV (ar7 p_term p_stamp) 11 [.i_ p_term,.i_ p_stamp] (fun r=>.dat (aF.lf1 r)):=cO Tryz.func11
abbrev abz(m:ah→Option (ah)):Prop:=∀p_v,FV (m p_v) 174 [.dat (ah.lf1 p_v)] (fun r=>.dat (ah.lf1 r))
abbrev abA(m:(List ah)→Option (List ah)):Prop:=∀p_l,FH (m p_l) 217 [.lf (.rows 5 (p_l.map ah.lf)),.raw (.func (.func 174) #[] #[])] [] (fun _=>.own 0) (fun r=>[.row 29 5 (r.map ah.lf)])
abbrev ai7(m:(List aN)→Option (List aN)):Prop:=∀p_l,FH (m p_l) 218 [.lf (.rows 6 (p_l.map aN.lf)),.raw (.func (.func 219) #[] #[])] [] (fun _=>.own 0) (fun r=>[.row 151 6 (r.map aN.lf)])
abbrev ai8(m:aN→Option (aN)):Prop:=∀p_f,FV (m p_f) 219 [.dat (aN.lf1 p_f)] (fun r=>.dat (aN.lf1 r))
structure RB2 where
 m1:(p_v:ah)→Option (ah)
 ok1:abz m1
 m2:(p_l:List ah)→Option (List ah)
 ok2:abA m2
 m3:(p_l:List aN)→Option (List aN)
 ok3:ai7 m3
 m4:(p_f:aN)→Option (aN)
 ok4:ai8 m4
def abB(R_:RB2)(p_v:ah):Mo (ah):=
 .cH [] (R_.ok2 p_v.bF) fun r0 _=>
 .ask (R_.m3 p_v.bC) fun r1 h0=>
 .say [.jA [] (.own 0) [.row 151 6 (r1.map aN.lf)],.at_ 0 0,.frz 2,.frz 3] (ok1 (R_.ok3 _ _ h0))<|
 .ret (aY 1) (ah.mk p_v.aK p_v.je p_v.fText r0 r1)
theorem ai9(R_:RB2):abz fun p_v=>Mo.den (abB R_ p_v):=fun _=>cO Tryz.func174
def J4(R_:RB2)(p_l:List ah):(Int×(List ah))→Mo ((Int×(List ah))⊕((List ah))):=fun(v0,l0)=>
 .iB (decide ((v0:Int)<(p_l.length:Int))) (.gx ah.aX p_l v0 fun x0 _=>
 .cl (R_.ok1 x0) fun r0 _=>
 .ask (fQ l0 v0) fun x1 h0=>
 .say [.row (ah.lf1 x1),.rows ((l0.set v0.toNat r0).map ah.lf)] (okc (dI ah.aX h0) (okc (st_ ah.aX l0 v0.toNat r0) (ok1 ((bU ah.aX h0).2))))<|
 .rt [1,5,14,15,16] 1 (.inl (IntKind.wrap .i64 (v0+1),l0.set v0.toNat r0)))<|
 .rt [5] 1 (.inr (l0))
def aja(R_:RB2)(p_l:List ah)(v0:Int)(l0:List ah):Option (((List ah))):=bQ (fun v_=>(J4 R_ p_l v_).den) FU (v0,l0)
def ajb(R_:RB2)(p_l:List ah):Mo (List ah):=
 .nu p_l ah.lf<|
 .iB ((p_l.length:Int)==0) (.say [] (ok1 (by simp[ah.aX]:(([]:List ah).map ah.lf)=[]))<|
 .ret ⟨[.qG 0 29 5,.jM 0 (([]:List ah).map ah.lf),.mvn 0],[0],[(1,0)],1⟩ (([]:List ah)))<|
 .say [.num p_l.length,.rows ((List.replicate (p_l.length:Int).toNat (ah.mk 0 0 ⟨#[]⟩ [] [])).map ah.lf),.num p_l.length] (okc (ln_ p_l ah.lf) (ok1 (rp_ ah.aX (p_l.length:Int).toNat (ah.mk 0 0 ⟨#[]⟩ [] []))))<|
 .grd ((0:Int)≤(p_l.length:Int)∧80*(p_l.length:Int).toNat≤281474976710656∧(p_l.length:Int).toNat≤maxLen) fun h0=>
 .say [] (okc (mk_ (p_l.length:Int) h0) (ok1 (ln_ p_l ah.lf)))<|
 .l1m [] Tryz.f217 0 [1,1,1,0,1,0] 0 (.exit 0) (fun(v0,l0)=>⟨[(1,.raw (.func (.func 174) #[] #[])),(5,.own 0),(14,.lf (.rows 5 (p_l.map ah.lf))),(15,.i_ (p_l.length:Int)),(16,.i_ v0)],[.row 29 5 (l0.map ah.lf)]⟩) (fun r_=>⟨[(5,.own 0)],[.row 29 5 (r_.map ah.lf)]⟩) (aja R_ p_l 0 (List.replicate (p_l.length:Int).toNat (ah.mk 0 0 ⟨#[]⟩ [] []))) (J4 R_ p_l) (0,(List.replicate (p_l.length:Int).toNat (ah.mk 0 0 ⟨#[]⟩ [] []))) fun r0=>
 .ret ⟨[.mvn 0],[0],[(1,0)],1⟩ (r0)
theorem anD(R_:RB2):abA fun p_l=>Mo.den (ajb R_ p_l):=fun _=>ig Tryz.func217
def FZ(R_:RB2)(p_l:List aN):(Int×(List aN))→Mo ((Int×(List aN))⊕((List aN))):=fun(v0,l0)=>
 .iB (decide ((v0:Int)<(p_l.length:Int))) (.gx aN.aX p_l v0 fun x0 _=>
 .cl (R_.ok4 x0) fun r0 _=>
 .ask (fQ l0 v0) fun x1 h0=>
 .say [.row (aN.lf1 x1),.rows ((l0.set v0.toNat r0).map aN.lf)] (okc (dI aN.aX h0) (okc (st_ aN.aX l0 v0.toNat r0) (ok1 ((bU aN.aX h0).2))))<|
 .rt [1,5,14,15,16] 1 (.inl (IntKind.wrap .i64 (v0+1),l0.set v0.toNat r0)))<|
 .rt [5] 1 (.inr (l0))
def aeW(R_:RB2)(p_l:List aN)(v0:Int)(l0:List aN):Option (((List aN))):=bQ (fun v_=>(FZ R_ p_l v_).den) FU (v0,l0)
def abC(R_:RB2)(p_l:List aN):Mo (List aN):=
 .nu p_l aN.lf<|
 .iB ((p_l.length:Int)==0) (.say [] (ok1 (by simp[aN.aX]:(([]:List aN).map aN.lf)=[]))<|
 .ret ⟨[.qG 0 151 6,.jM 0 (([]:List aN).map aN.lf),.mvn 0],[0],[(1,0)],1⟩ (([]:List aN)))<|
 .say [.num p_l.length,.rows ((List.replicate (p_l.length:Int).toNat (aN.mk ⟨#[]⟩ (ah.mk 0 0 ⟨#[]⟩ [] []))).map aN.lf),.num p_l.length] (okc (ln_ p_l aN.lf) (ok1 (rp_ aN.aX (p_l.length:Int).toNat (aN.mk ⟨#[]⟩ (ah.mk 0 0 ⟨#[]⟩ [] [])))))<|
 .grd ((0:Int)≤(p_l.length:Int)∧96*(p_l.length:Int).toNat≤281474976710656∧(p_l.length:Int).toNat≤maxLen) fun h0=>
 .say [] (okc (mk_ (p_l.length:Int) h0) (ok1 (ln_ p_l aN.lf)))<|
 .l1m [] Tryz.f218 0 [1,1,1,0,1,0] 0 (.exit 0) (fun(v0,l0)=>⟨[(1,.raw (.func (.func 219) #[] #[])),(5,.own 0),(14,.lf (.rows 6 (p_l.map aN.lf))),(15,.i_ (p_l.length:Int)),(16,.i_ v0)],[.row 151 6 (l0.map aN.lf)]⟩) (fun r_=>⟨[(5,.own 0)],[.row 151 6 (r_.map aN.lf)]⟩) (aeW R_ p_l 0 (List.replicate (p_l.length:Int).toNat (aN.mk ⟨#[]⟩ (ah.mk 0 0 ⟨#[]⟩ [] [])))) (FZ R_ p_l) (0,(List.replicate (p_l.length:Int).toNat (aN.mk ⟨#[]⟩ (ah.mk 0 0 ⟨#[]⟩ [] [])))) fun r0=>
 .ret ⟨[.mvn 0],[0],[(1,0)],1⟩ (r0)
theorem ajc(R_:RB2):ai7 fun p_l=>Mo.den (abC R_ p_l):=fun _=>ig Tryz.func218
def abD(R_:RB2)(p_f:aN):Mo (aN):=
 .say [.order [(true,0),(true,1),(true,2),(true,3),(false,4),(true,5),(false,6)] (some 6) []] ok0<|
 .cl (R_.ok1 p_f.fValue) fun r0 _=>
 .ret (aY 1) (aN.mk p_f.fName r0)
theorem ajd(R_:RB2):ai8 fun p_f=>Mo.den (abD R_ p_f):=fun _=>cO Tryz.func219
def lJ:Nat→RB2
 |0=>{ m1:=fun p_v=>none,ok1:=fun _ _ h=>(by cases h),m2:=fun p_l=>none,ok2:=fun _ _ h=>(by cases h),m3:=fun p_l=>none,ok3:=fun _ _ h=>(by cases h),m4:=fun p_f=>none,ok4:=fun _ _ h=>(by cases h) }
 |n_+1=>{ m1:=fun p_v=>Mo.den (abB (lJ n_) p_v),ok1:=ai9 (lJ n_),m2:=fun p_l=>Mo.den (ajb (lJ n_) p_l),ok2:=anD (lJ n_),m3:=fun p_l=>Mo.den (abC (lJ n_) p_l),ok3:=ajc (lJ n_),m4:=fun p_f=>Mo.den (abD (lJ n_) p_f),ok4:=ajd (lJ n_) }
def avc(p_v:ah):Option (ah):=(lJ FU).m1 p_v
theorem vN:abz avc:=(lJ FU).ok1
def Q54(p_l:List ah):Option (List ah):=(lJ FU).m2 p_l
theorem aje:abA Q54:=(lJ FU).ok2
def abE(p_l:List ByteArray):Mo (List ByteArray):=
 .say [.rows (p_l.map lfS),.at_ 0 0,.frz 0] (ok1 (by simp[lfS]:p_l.map lfS=[]++(p_l.map lfS)))<|
 .grd ((([]:List ByteArray).length+p_l.length)*16≤140737488355328) fun h0=>
 .say [] (ok1 (cq_ lfS h0))<|
 .ret (aY 1) (p_l)
def agY(p_l:List ByteArray):Option (List ByteArray):=Mo.den (abE p_l)
theorem DF(p_l:List ByteArray):FV (agY p_l) 264 [.lf (.rows 1 (p_l.map lfS))] (fun r=>.lf (.rows 1 (r.map lfS))):=cO Tryz.func264
def ajf(p_o:bf):Mo (bf):=
 .cl (DF p_o.cZ) fun r0 _=>
 .ret (aY 1) (bf.mk r0 p_o.Il)
def anE(p_o:bf):Option (bf):=Mo.den (ajf p_o)
theorem anF(p_o:bf):FV (anE p_o) 223 [.dat (bf.lf1 p_o)] (fun r=>.dat (bf.lf1 r)):=cO Tryz.func223
def J5(p_l:List bf):(Int×(List bf))→Mo ((Int×(List bf))⊕((List bf))):=fun(v0,l0)=>
 .iB (decide ((v0:Int)<(p_l.length:Int))) (.gx bf.aX p_l v0 fun x0 _=>
 .cl (anF x0) fun r0 _=>
 .ask (fQ l0 v0) fun x1 h0=>
 .say [.row (bf.lf1 x1),.rows ((l0.set v0.toNat r0).map bf.lf)] (okc (dI bf.aX h0) (okc (st_ bf.aX l0 v0.toNat r0) (ok1 ((bU bf.aX h0).2))))<|
 .rt [1,5,14,15,16] 1 (.inl (IntKind.wrap .i64 (v0+1),l0.set v0.toNat r0)))<|
 .rt [5] 1 (.inr (l0))
def ajg(p_l:List bf)(v0:Int)(l0:List bf):Option (((List bf))):=bQ (fun v_=>(J5 p_l v_).den) FU (v0,l0)
def aqH(p_l:List bf):Mo (List bf):=
 .nu p_l bf.lf<|
 .iB ((p_l.length:Int)==0) (.say [] (ok1 (by simp[bf.aX]:(([]:List bf).map bf.lf)=[]))<|
 .ret ⟨[.qG 0 129 2,.jM 0 (([]:List bf).map bf.lf),.mvn 0],[0],[(1,0)],1⟩ (([]:List bf)))<|
 .say [.num p_l.length,.rows ((List.replicate (p_l.length:Int).toNat (bf.mk [] false)).map bf.lf),.num p_l.length] (okc (ln_ p_l bf.lf) (ok1 (rp_ bf.aX (p_l.length:Int).toNat (bf.mk [] false))))<|
 .grd ((0:Int)≤(p_l.length:Int)∧32*(p_l.length:Int).toNat≤281474976710656∧(p_l.length:Int).toNat≤maxLen) fun h0=>
 .say [] (okc (mk_ (p_l.length:Int) h0) (ok1 (ln_ p_l bf.lf)))<|
 .l1m [] Tryz.f222 0 [1,1,1,0,1,0] 0 (.exit 0) (fun(v0,l0)=>⟨[(1,.raw (.func (.func 223) #[] #[])),(5,.own 0),(14,.lf (.rows 2 (p_l.map bf.lf))),(15,.i_ (p_l.length:Int)),(16,.i_ v0)],[.row 129 2 (l0.map bf.lf)]⟩) (fun r_=>⟨[(5,.own 0)],[.row 129 2 (r_.map bf.lf)]⟩) (ajg p_l 0 (List.replicate (p_l.length:Int).toNat (bf.mk [] false))) (J5 p_l) (0,(List.replicate (p_l.length:Int).toNat (bf.mk [] false))) fun r0=>
 .ret ⟨[.mvn 0],[0],[(1,0)],1⟩ (r0)
def Q87(p_l:List bf):Option (List bf):=Mo.den (aqH p_l)
theorem ar8(p_l:List bf):FH (Q87 p_l) 222 [.lf (.rows 2 (p_l.map bf.lf)),.raw (.func (.func 223) #[] #[])] [] (fun _=>.own 0) (fun r=>[.row 129 2 (r.map bf.lf)]):=ig Tryz.func222
abbrev abG(m:aT→Option (aT)):Prop:=∀p_e,FV (m p_e) 268 [.dat (aT.lf1 p_e)] (fun r=>.dat (aT.lf1 r))
abbrev ajh(m:(List aT)→Option (List aT)):Prop:=∀p_l,FH (m p_l) 285 [.lf (.rows 11 (p_l.map aT.lf)),.raw (.func (.func 268) #[] #[])] [] (fun _=>.own 0) (fun r=>[.row 44 11 (r.map aT.lf)])
structure RB4 where
 m1:(p_e:aT)→Option (aT)
 ok1:abG m1
 m2:(p_l:List aT)→Option (List aT)
 ok2:ajh m2
def abH(R_:RB4)(p_e:aT):Mo (aT):=
 .cl (DF p_e.cZ) fun r0 _=>
 .cl (DF p_e.eH) fun r1 _=>
 .cl (vN p_e.fArg) fun r2 _=>
 .ask (R_.m2 p_e.bJ) fun r3 h0=>
 .say [.jA [] (.own 0) [.row 44 11 (r3.map aT.lf)],.at_ 0 0,.frz 2] (ok1 (R_.ok2 _ _ h0))<|
 .ret (aY 1) (aT.mk p_e.fOp r0 p_e.fName r1 r2 p_e.fN r3)
theorem aji(R_:RB4):abG fun p_e=>Mo.den (abH R_ p_e):=fun _=>cO Tryz.func268
def F5(R_:RB4)(p_l:List aT):(Int×(List aT))→Mo ((Int×(List aT))⊕((List aT))):=fun(v0,l0)=>
 .iB (decide ((v0:Int)<(p_l.length:Int))) (.gx aT.aX p_l v0 fun x0 _=>
 .cl (R_.ok1 x0) fun r0 _=>
 .ask (fQ l0 v0) fun x1 h0=>
 .say [.row (aT.lf1 x1),.rows ((l0.set v0.toNat r0).map aT.lf)] (okc (dI aT.aX h0) (okc (st_ aT.aX l0 v0.toNat r0) (ok1 ((bU aT.aX h0).2))))<|
 .rt [1,5,14,15,16] 1 (.inl (IntKind.wrap .i64 (v0+1),l0.set v0.toNat r0)))<|
 .rt [5] 1 (.inr (l0))
def aeX(R_:RB4)(p_l:List aT)(v0:Int)(l0:List aT):Option (((List aT))):=bQ (fun v_=>(F5 R_ p_l v_).den) FU (v0,l0)
def abI(R_:RB4)(p_l:List aT):Mo (List aT):=
 .nu p_l aT.lf<|
 .iB ((p_l.length:Int)==0) (.say [] (ok1 (by simp[aT.aX]:(([]:List aT).map aT.lf)=[]))<|
 .ret ⟨[.qG 0 44 11,.jM 0 (([]:List aT).map aT.lf),.mvn 0],[0],[(1,0)],1⟩ (([]:List aT)))<|
 .say [.num p_l.length,.rows ((List.replicate (p_l.length:Int).toNat aT.z).map aT.lf),.num p_l.length] (okc (ln_ p_l aT.lf) (ok1 (rp_ aT.aX (p_l.length:Int).toNat aT.z)))<|
 .grd ((0:Int)≤(p_l.length:Int)∧184*(p_l.length:Int).toNat≤281474976710656∧(p_l.length:Int).toNat≤maxLen) fun h0=>
 .say [] (okc (mk_ (p_l.length:Int) h0) (ok1 (ln_ p_l aT.lf)))<|
 .l1m [] Tryz.f285 0 [1,1,1,0,1,0] 0 (.exit 0) (fun(v0,l0)=>⟨[(1,.raw (.func (.func 268) #[] #[])),(5,.own 0),(14,.lf (.rows 11 (p_l.map aT.lf))),(15,.i_ (p_l.length:Int)),(16,.i_ v0)],[.row 44 11 (l0.map aT.lf)]⟩) (fun r_=>⟨[(5,.own 0)],[.row 44 11 (r_.map aT.lf)]⟩) (aeX R_ p_l 0 (List.replicate (p_l.length:Int).toNat aT.z)) (F5 R_ p_l) (0,(List.replicate (p_l.length:Int).toNat aT.z)) fun r0=>
 .ret ⟨[.mvn 0],[0],[(1,0)],1⟩ (r0)
theorem ajj(R_:RB4):ajh fun p_l=>Mo.den (abI R_ p_l):=fun _=>ig Tryz.func285
def wS:Nat→RB4
 |0=>{ m1:=fun p_e=>none,ok1:=fun _ _ h=>(by cases h),m2:=fun p_l=>none,ok2:=fun _ _ h=>(by cases h) }
 |n_+1=>{ m1:=fun p_e=>Mo.den (abH (wS n_) p_e),ok1:=aji (wS n_),m2:=fun p_l=>Mo.den (abI (wS n_) p_l),ok2:=ajj (wS n_) }
def avd(p_e:aT):Option (aT):=(wS FU).m1 p_e
theorem anG:abG avd:=(wS FU).ok1
abbrev abJ(m:aP→Option (aP)):Prop:=∀p_p,FV (m p_p) 224 [.dat (aP.lf1 p_p)] (fun r=>.dat (aP.lf1 r))
abbrev ajk(m:(List aP)→Option (List aP)):Prop:=∀p_l,FH (m p_l) 269 [.lf (.rows 25 (p_l.map aP.lf)),.raw (.func (.func 224) #[] #[])] [] (fun _=>.own 0) (fun r=>[.row 47 25 (r.map aP.lf)])
structure RB3 where
 m1:(p_p:aP)→Option (aP)
 ok1:abJ m1
 m2:(p_l:List aP)→Option (List aP)
 ok2:ajk m2
def abK(R_:RB3)(p_p:aP):Mo (aP):=
 .cl (DF p_p.cZ) fun r0 _=>
 .cl (vN p_p.fArg) fun r1 _=>
 .ask (Q54 p_p.fArgs) fun r2 h0=>
 .say [.jA [] (.own 0) [.row 29 5 (r2.map ah.lf)],.rows (p_p.eF.bK.map dO.lf)] (okc (aje _ _ h0) (ok1 (by simp[dO.aX]:p_p.eF.bK.map dO.lf=[]++(p_p.eF.bK.map dO.lf))))<|
 .grd ((([]:List dO).length+p_p.eF.bK.length)*16≤140737488355328) fun h1=>
 .say [] (ok1 (cq_ dO.lf h1))<|
 .cl (anG p_p.fExpr) fun r3 _=>
 .ask (R_.m2 p_p.bJ) fun r4 h2=>
 .say [.jA [] (.own 0) [.row 47 25 (r4.map aP.lf)],.at_ 0 0,.frz 2,.frz 3,.frz 4] (ok1 (R_.ok2 _ _ h2))<|
 .ret (aY 1) (aP.mk p_p.fOp r0 r1 r2 p_p.fN p_p.fM p_p.eF r3 r4)
theorem ajl(R_:RB3):abJ fun p_p=>Mo.den (abK R_ p_p):=fun _=>cO Tryz.func224
def F6(R_:RB3)(p_l:List aP):(Int×(List aP))→Mo ((Int×(List aP))⊕((List aP))):=fun(v0,l0)=>
 .iB (decide ((v0:Int)<(p_l.length:Int))) (.gx aP.aX p_l v0 fun x0 _=>
 .cl (R_.ok1 x0) fun r0 _=>
 .ask (fQ l0 v0) fun x1 h0=>
 .say [.row (aP.lf1 x1),.rows ((l0.set v0.toNat r0).map aP.lf)] (okc (dI aP.aX h0) (okc (st_ aP.aX l0 v0.toNat r0) (ok1 ((bU aP.aX h0).2))))<|
 .rt [1,5,14,15,16] 1 (.inl (IntKind.wrap .i64 (v0+1),l0.set v0.toNat r0)))<|
 .rt [5] 1 (.inr (l0))
def aeY(R_:RB3)(p_l:List aP)(v0:Int)(l0:List aP):Option (((List aP))):=bQ (fun v_=>(F6 R_ p_l v_).den) FU (v0,l0)
def abL(R_:RB3)(p_l:List aP):Mo (List aP):=
 .nu p_l aP.lf<|
 .iB ((p_l.length:Int)==0) (.say [] (ok1 (by simp[aP.aX]:(([]:List aP).map aP.lf)=[]))<|
 .ret ⟨[.qG 0 47 25,.jM 0 (([]:List aP).map aP.lf),.mvn 0],[0],[(1,0)],1⟩ (([]:List aP)))<|
 .say [.num p_l.length,.rows ((List.replicate (p_l.length:Int).toNat aP.z).map aP.lf),.num p_l.length] (okc (ln_ p_l aP.lf) (ok1 (rp_ aP.aX (p_l.length:Int).toNat aP.z)))<|
 .grd ((0:Int)≤(p_l.length:Int)∧400*(p_l.length:Int).toNat≤281474976710656∧(p_l.length:Int).toNat≤maxLen) fun h0=>
 .say [] (okc (mk_ (p_l.length:Int) h0) (ok1 (ln_ p_l aP.lf)))<|
 .l1m [] Tryz.f269 0 [1,1,1,0,1,0] 0 (.exit 0) (fun(v0,l0)=>⟨[(1,.raw (.func (.func 224) #[] #[])),(5,.own 0),(14,.lf (.rows 25 (p_l.map aP.lf))),(15,.i_ (p_l.length:Int)),(16,.i_ v0)],[.row 47 25 (l0.map aP.lf)]⟩) (fun r_=>⟨[(5,.own 0)],[.row 47 25 (r_.map aP.lf)]⟩) (aeY R_ p_l 0 (List.replicate (p_l.length:Int).toNat aP.z)) (F6 R_ p_l) (0,(List.replicate (p_l.length:Int).toNat aP.z)) fun r0=>
 .ret ⟨[.mvn 0],[0],[(1,0)],1⟩ (r0)
theorem ajm(R_:RB3):ajk fun p_l=>Mo.den (abL R_ p_l):=fun _=>ig Tryz.func269
def wU:Nat→RB3
 |0=>{ m1:=fun p_p=>none,ok1:=fun _ _ h=>(by cases h),m2:=fun p_l=>none,ok2:=fun _ _ h=>(by cases h) }
 |n_+1=>{ m1:=fun p_p=>Mo.den (abK (wU n_) p_p),ok1:=ajl (wU n_),m2:=fun p_l=>Mo.den (abL (wU n_) p_l),ok2:=ajm (wU n_) }
def ar9(p_p:aP):Option (aP):=(wU FU).m1 p_p
theorem anH:abJ ar9:=(wU FU).ok1
def ajn(p_x:aU):Mo (aU):=
 .cH [] (ar8 p_x.gU) fun r0 _=>
 .ask (ar9 p_x.jr) fun r1 h0=>
 .say [.res (.dat (aP.lf1 r1)),.at_ 0 0,.frz 2] (ok1 (anH _ _ h0))<|
 .ret (aY 1) (aU.aiH (aU.aqB p_x r0) r1)
def anI(p_x:aU):Option (aU):=Mo.den (ajn p_x)
theorem aeZ(p_x:aU):FV (anI p_x) 176 [.dat (aU.lf1 p_x)] (fun r=>.dat (aU.lf1 r)):=cO Tryz.func176
def J6(p_l:List aU):(Int×(List aU))→Mo ((Int×(List aU))⊕((List aU))):=fun(v0,l0)=>
 .iB (decide ((v0:Int)<(p_l.length:Int))) (.gx aU.aX p_l v0 fun x0 _=>
 .cl (aeZ x0) fun r0 _=>
 .ask (fQ l0 v0) fun x1 h0=>
 .say [.row (aU.lf1 x1),.rows ((l0.set v0.toNat r0).map aU.lf)] (okc (dI aU.aX h0) (okc (st_ aU.aX l0 v0.toNat r0) (ok1 ((bU aU.aX h0).2))))<|
 .rt [1,5,14,15,16] 1 (.inl (IntKind.wrap .i64 (v0+1),l0.set v0.toNat r0)))<|
 .rt [5] 1 (.inr (l0))
def ajo(p_l:List aU)(v0:Int)(l0:List aU):Option (((List aU))):=bQ (fun v_=>(J6 p_l v_).den) FU (v0,l0)
def aqI(p_l:List aU):Mo (List aU):=
 .nu p_l aU.lf<|
 .iB ((p_l.length:Int)==0) (.say [] (ok1 (by simp[aU.aX]:(([]:List aU).map aU.lf)=[]))<|
 .ret ⟨[.qG 0 49 31,.jM 0 (([]:List aU).map aU.lf),.mvn 0],[0],[(1,0)],1⟩ (([]:List aU)))<|
 .say [.num p_l.length,.rows ((List.replicate (p_l.length:Int).toNat aU.z).map aU.lf),.num p_l.length] (okc (ln_ p_l aU.lf) (ok1 (rp_ aU.aX (p_l.length:Int).toNat aU.z)))<|
 .grd ((0:Int)≤(p_l.length:Int)∧456*(p_l.length:Int).toNat≤281474976710656∧(p_l.length:Int).toNat≤maxLen) fun h0=>
 .say [] (okc (mk_ (p_l.length:Int) h0) (ok1 (ln_ p_l aU.lf)))<|
 .l1m [] Tryz.f220 0 [1,1,1,0,1,0] 0 (.exit 0) (fun(v0,l0)=>⟨[(1,.raw (.func (.func 176) #[] #[])),(5,.own 0),(14,.lf (.rows 31 (p_l.map aU.lf))),(15,.i_ (p_l.length:Int)),(16,.i_ v0)],[.row 49 31 (l0.map aU.lf)]⟩) (fun r_=>⟨[(5,.own 0)],[.row 49 31 (r_.map aU.lf)]⟩) (ajo p_l 0 (List.replicate (p_l.length:Int).toNat aU.z)) (J6 p_l) (0,(List.replicate (p_l.length:Int).toNat aU.z)) fun r0=>
 .ret ⟨[.mvn 0],[0],[(1,0)],1⟩ (r0)
def Q88(p_l:List aU):Option (List aU):=Mo.den (aqI p_l)
theorem asa(p_l:List aU):FH (Q88 p_l) 220 [.lf (.rows 31 (p_l.map aU.lf)),.raw (.func (.func 176) #[] #[])] [] (fun _=>.own 0) (fun r=>[.row 49 31 (r.map aU.lf)]):=ig Tryz.func220
abbrev abM(m:aI→Option (aI)):Prop:=∀p_s,FV (m p_s) 221 [.dat (aI.lf1 p_s)] (fun r=>.dat (aI.lf1 r))
abbrev ajp(m:(List bH)→Option (List bH)):Prop:=∀p_l,FH (m p_l) 265 [.lf (.rows 22 (p_l.map bH.lf)),.raw (.func (.func 266) #[] #[])] [] (fun _=>.own 0) (fun r=>[.row 192 22 (r.map bH.lf)])
abbrev ajq(m:(List aI)→Option (List aI)):Prop:=∀p_l,FH (m p_l) 267 [.lf (.rows 21 (p_l.map aI.lf)),.raw (.func (.func 221) #[] #[])] [] (fun _=>.own 0) (fun r=>[.row 35 21 (r.map aI.lf)])
abbrev ajr(m:bH→Option (bH)):Prop:=∀p_p,FV (m p_p) 266 [.dat (bH.lf1 p_p)] (fun r=>.dat (bH.lf1 r))
structure RB5 where
 m1:(p_s:aI)→Option (aI)
 ok1:abM m1
 m2:(p_l:List bH)→Option (List bH)
 ok2:ajp m2
 m3:(p_l:List aI)→Option (List aI)
 ok3:ajq m3
 m4:(p_p:bH)→Option (bH)
 ok4:ajr m4
def abN(R_:RB5)(p_s:aI):Mo (aI):=
 .cl (vN p_s.rM) fun r0 _=>
 .cl (vN p_s.rO) fun r1 _=>
 .cH [] (aje p_s.iZ) fun r2 _=>
 .cl (DF p_s.eu) fun r3 _=>
 .cH [] (R_.ok2 p_s.dD) fun r4 _=>
 .ask (R_.m3 p_s.eP) fun r5 h0=>
 .say [.jA [] (.own 0) [.row 35 21 (r5.map aI.lf)],.at_ 0 0,.frz 2,.frz 3,.frz 4] (ok1 (R_.ok3 _ _ h0))<|
 .ret (aY 1) (aI.mk p_s.jH p_s.kU r0 p_s.kV r1 r2 p_s.mG p_s.mJ r3 r4 p_s.qJ r5 p_s.jG)
theorem ajs(R_:RB5):abM fun p_s=>Mo.den (abN R_ p_s):=fun _=>cO Tryz.func221
def F7(R_:RB5)(p_l:List bH):(Int×(List bH))→Mo ((Int×(List bH))⊕((List bH))):=fun(v0,l0)=>
 .iB (decide ((v0:Int)<(p_l.length:Int))) (.gx bH.aX p_l v0 fun x0 _=>
 .cl (R_.ok4 x0) fun r0 _=>
 .ask (fQ l0 v0) fun x1 h0=>
 .say [.row (bH.lf1 x1),.rows ((l0.set v0.toNat r0).map bH.lf)] (okc (dI bH.aX h0) (okc (st_ bH.aX l0 v0.toNat r0) (ok1 ((bU bH.aX h0).2))))<|
 .rt [1,5,14,15,16] 1 (.inl (IntKind.wrap .i64 (v0+1),l0.set v0.toNat r0)))<|
 .rt [5] 1 (.inr (l0))
def ae0(R_:RB5)(p_l:List bH)(v0:Int)(l0:List bH):Option (((List bH))):=bQ (fun v_=>(F7 R_ p_l v_).den) FU (v0,l0)
def abO(R_:RB5)(p_l:List bH):Mo (List bH):=
 .nu p_l bH.lf<|
 .iB ((p_l.length:Int)==0) (.say [] (ok1 (by simp[bH.aX]:(([]:List bH).map bH.lf)=[]))<|
 .ret ⟨[.qG 0 192 22,.jM 0 (([]:List bH).map bH.lf),.mvn 0],[0],[(1,0)],1⟩ (([]:List bH)))<|
 .say [.num p_l.length,.rows ((List.replicate (p_l.length:Int).toNat (bH.mk ⟨#[]⟩ aI.z)).map bH.lf),.num p_l.length] (okc (ln_ p_l bH.lf) (ok1 (rp_ bH.aX (p_l.length:Int).toNat (bH.mk ⟨#[]⟩ aI.z))))<|
 .grd ((0:Int)≤(p_l.length:Int)∧328*(p_l.length:Int).toNat≤281474976710656∧(p_l.length:Int).toNat≤maxLen) fun h0=>
 .say [] (okc (mk_ (p_l.length:Int) h0) (ok1 (ln_ p_l bH.lf)))<|
 .l1m [] Tryz.f265 0 [1,1,1,0,1,0] 0 (.exit 0) (fun(v0,l0)=>⟨[(1,.raw (.func (.func 266) #[] #[])),(5,.own 0),(14,.lf (.rows 22 (p_l.map bH.lf))),(15,.i_ (p_l.length:Int)),(16,.i_ v0)],[.row 192 22 (l0.map bH.lf)]⟩) (fun r_=>⟨[(5,.own 0)],[.row 192 22 (r_.map bH.lf)]⟩) (ae0 R_ p_l 0 (List.replicate (p_l.length:Int).toNat (bH.mk ⟨#[]⟩ aI.z))) (F7 R_ p_l) (0,(List.replicate (p_l.length:Int).toNat (bH.mk ⟨#[]⟩ aI.z))) fun r0=>
 .ret ⟨[.mvn 0],[0],[(1,0)],1⟩ (r0)
theorem ajt(R_:RB5):ajp fun p_l=>Mo.den (abO R_ p_l):=fun _=>ig Tryz.func265
def F8(R_:RB5)(p_l:List aI):(Int×(List aI))→Mo ((Int×(List aI))⊕((List aI))):=fun(v0,l0)=>
 .iB (decide ((v0:Int)<(p_l.length:Int))) (.gx aI.aX p_l v0 fun x0 _=>
 .cl (R_.ok1 x0) fun r0 _=>
 .ask (fQ l0 v0) fun x1 h0=>
 .say [.row (aI.lf1 x1),.rows ((l0.set v0.toNat r0).map aI.lf)] (okc (dI aI.aX h0) (okc (st_ aI.aX l0 v0.toNat r0) (ok1 ((bU aI.aX h0).2))))<|
 .rt [1,5,14,15,16] 1 (.inl (IntKind.wrap .i64 (v0+1),l0.set v0.toNat r0)))<|
 .rt [5] 1 (.inr (l0))
def ae1(R_:RB5)(p_l:List aI)(v0:Int)(l0:List aI):Option (((List aI))):=bQ (fun v_=>(F8 R_ p_l v_).den) FU (v0,l0)
def abP(R_:RB5)(p_l:List aI):Mo (List aI):=
 .nu p_l aI.lf<|
 .iB ((p_l.length:Int)==0) (.say [] (ok1 (by simp[aI.aX]:(([]:List aI).map aI.lf)=[]))<|
 .ret ⟨[.qG 0 35 21,.jM 0 (([]:List aI).map aI.lf),.mvn 0],[0],[(1,0)],1⟩ (([]:List aI)))<|
 .say [.num p_l.length,.rows ((List.replicate (p_l.length:Int).toNat aI.z).map aI.lf),.num p_l.length] (okc (ln_ p_l aI.lf) (ok1 (rp_ aI.aX (p_l.length:Int).toNat aI.z)))<|
 .grd ((0:Int)≤(p_l.length:Int)∧312*(p_l.length:Int).toNat≤281474976710656∧(p_l.length:Int).toNat≤maxLen) fun h0=>
 .say [] (okc (mk_ (p_l.length:Int) h0) (ok1 (ln_ p_l aI.lf)))<|
 .l1m [] Tryz.f267 0 [1,1,1,0,1,0] 0 (.exit 0) (fun(v0,l0)=>⟨[(1,.raw (.func (.func 221) #[] #[])),(5,.own 0),(14,.lf (.rows 21 (p_l.map aI.lf))),(15,.i_ (p_l.length:Int)),(16,.i_ v0)],[.row 35 21 (l0.map aI.lf)]⟩) (fun r_=>⟨[(5,.own 0)],[.row 35 21 (r_.map aI.lf)]⟩) (ae1 R_ p_l 0 (List.replicate (p_l.length:Int).toNat aI.z)) (F8 R_ p_l) (0,(List.replicate (p_l.length:Int).toNat aI.z)) fun r0=>
 .ret ⟨[.mvn 0],[0],[(1,0)],1⟩ (r0)
theorem aju(R_:RB5):ajq fun p_l=>Mo.den (abP R_ p_l):=fun _=>ig Tryz.func267
def abQ(R_:RB5)(p_p:bH):Mo (bH):=
 .say [.order [(true,0),(true,1),(true,2),(true,3),(false,4),(true,5),(false,6)] (some 6) []] ok0<|
 .cl (R_.ok1 p_p.dW) fun r0 _=>
 .ret (aY 1) (bH.mk p_p.fName r0)
theorem ajv(R_:RB5):ajr fun p_p=>Mo.den (abQ R_ p_p):=fun _=>cO Tryz.func266
def mZ:Nat→RB5
 |0=>{ m1:=fun p_s=>none,ok1:=fun _ _ h=>(by cases h),m2:=fun p_l=>none,ok2:=fun _ _ h=>(by cases h),m3:=fun p_l=>none,ok3:=fun _ _ h=>(by cases h),m4:=fun p_p=>none,ok4:=fun _ _ h=>(by cases h) }
 |n_+1=>{ m1:=fun p_s=>Mo.den (abN (mZ n_) p_s),ok1:=ajs (mZ n_),m2:=fun p_l=>Mo.den (abO (mZ n_) p_l),ok2:=ajt (mZ n_),m3:=fun p_l=>Mo.den (abP (mZ n_) p_l),ok3:=aju (mZ n_),m4:=fun p_p=>Mo.den (abQ (mZ n_) p_p),ok4:=ajv (mZ n_) }
def asb(p_s:aI):Option (aI):=(mZ FU).m1 p_s
theorem anJ:abM asb:=(mZ FU).ok1
def ajw(p_d:cu):Mo (cu):=
 .cH [] (asa p_d.bV) fun r0 _=>
 .ask (asb p_d.dW) fun r1 h0=>
 .say [.res (.dat (aI.lf1 r1)),.at_ 0 0,.frz 2] (ok1 (anJ _ _ h0))<|
 .ret (aY 1) (cu.mk p_d.fName r0 r1 p_d.ou p_d.jX)
def asc(p_d:cu):Option (cu):=Mo.den (ajw p_d)
theorem anK(p_d:cu):FV (asc p_d) 175 [.dat (cu.lf1 p_d)] (fun r=>.dat (cu.lf1 r)):=cO Tryz.func175
def abR(p_l:List Int):Mo (List Int):=
 .say [.rows (p_l.map lfI)] (ok1 (by simp[lfI,lfK]:p_l.map lfI=[]++(p_l.map lfI)))<|
 .grd ((([]:List Int).length+p_l.length)*8≤140737488355328) fun h0=>
 .say [] (ok1 (cq_ lfI h0))<|
 .ret ⟨[.mvn 0],[0],[(1,0)],1⟩ (p_l)
def Yr(p_l:List Int):Option (List Int):=Mo.den (abR p_l)
theorem UY(p_l:List Int):FH (Yr p_l) 87 [.lf (.rows 1 (p_l.map lfI))] [] (fun _=>.own 0) (fun r=>[.row 3 1 (r.map lfI)]):=ig Tryz.func87
abbrev abS(m:aH→Option (aH)):Prop:=∀p_w,FV (m p_w) 130 [.dat (aH.lf1 p_w)] (fun r=>.dat (aH.lf1 r))
abbrev ajx(m:(List aH)→Option (List aH)):Prop:=∀p_l,FH (m p_l) 177 [.lf (.rows 78 (p_l.map aH.lf)),.raw (.func (.func 130) #[] #[])] [] (fun _=>.own 0) (fun r=>[.row 52 78 (r.map aH.lf)])
structure RB1 where
 m1:(p_w:aH)→Option (aH)
 ok1:abS m1
 m2:(p_l:List aH)→Option (List aH)
 ok2:ajx m2
def abT(R_:RB1)(p_w:aH):Mo (aH):=
 .cl (vN p_w.jh) fun r0 _=>
 .cl (vN p_w.bC) fun r1 _=>
 .cl (vN p_w.eX) fun r2 _=>
 .cl (anK p_w.kM) fun r3 _=>
 .cl (aeZ p_w.bP) fun r4 _=>
 .cH [] (R_.ok2 p_w.dh) fun r5 _=>
 .ask (Yr p_w.dZ) fun r6 h0=>
 .say [.jA [] (.own 0) [.row 3 1 (r6.map lfI)],.at_ 0 0,.frz 2,.frz 3] (ok1 (UY _ _ h0))<|
 .ret (aY 1) (aH.mk p_w.aK p_w.iO r0 r1 r2 r3 r4 p_w.oz p_w.dQ r5 r6 p_w.iK)
theorem ajy(R_:RB1):abS fun p_w=>Mo.den (abT R_ p_w):=fun _=>cO Tryz.func130
def F9(R_:RB1)(p_l:List aH):(Int×(List aH))→Mo ((Int×(List aH))⊕((List aH))):=fun(v0,l0)=>
 .iB (decide ((v0:Int)<(p_l.length:Int))) (.gx aH.aX p_l v0 fun x0 _=>
 .cl (R_.ok1 x0) fun r0 _=>
 .ask (fQ l0 v0) fun x1 h0=>
 .say [.row (aH.lf1 x1),.rows ((l0.set v0.toNat r0).map aH.lf)] (okc (dI aH.aX h0) (okc (st_ aH.aX l0 v0.toNat r0) (ok1 ((bU aH.aX h0).2))))<|
 .rt [1,5,14,15,16] 1 (.inl (IntKind.wrap .i64 (v0+1),l0.set v0.toNat r0)))<|
 .rt [5] 1 (.inr (l0))
def ae2(R_:RB1)(p_l:List aH)(v0:Int)(l0:List aH):Option (((List aH))):=bQ (fun v_=>(F9 R_ p_l v_).den) FU (v0,l0)
def abU(R_:RB1)(p_l:List aH):Mo (List aH):=
 .nu p_l aH.lf<|
 .iB ((p_l.length:Int)==0) (.say [] (ok1 (by simp[aH.aX]:(([]:List aH).map aH.lf)=[]))<|
 .ret ⟨[.qG 0 52 78,.jM 0 (([]:List aH).map aH.lf),.mvn 0],[0],[(1,0)],1⟩ (([]:List aH)))<|
 .say [.num p_l.length,.rows ((List.replicate (p_l.length:Int).toNat aH.z).map aH.lf),.num p_l.length] (okc (ln_ p_l aH.lf) (ok1 (rp_ aH.aX (p_l.length:Int).toNat aH.z)))<|
 .grd ((0:Int)≤(p_l.length:Int)∧1168*(p_l.length:Int).toNat≤281474976710656∧(p_l.length:Int).toNat≤maxLen) fun h0=>
 .say [] (okc (mk_ (p_l.length:Int) h0) (ok1 (ln_ p_l aH.lf)))<|
 .l1m [] Tryz.f177 0 [1,1,1,0,1,0] 0 (.exit 0) (fun(v0,l0)=>⟨[(1,.raw (.func (.func 130) #[] #[])),(5,.own 0),(14,.lf (.rows 78 (p_l.map aH.lf))),(15,.i_ (p_l.length:Int)),(16,.i_ v0)],[.row 52 78 (l0.map aH.lf)]⟩) (fun r_=>⟨[(5,.own 0)],[.row 52 78 (r_.map aH.lf)]⟩) (ae2 R_ p_l 0 (List.replicate (p_l.length:Int).toNat aH.z)) (F9 R_ p_l) (0,(List.replicate (p_l.length:Int).toNat aH.z)) fun r0=>
 .ret ⟨[.mvn 0],[0],[(1,0)],1⟩ (r0)
theorem ajz(R_:RB1):ajx fun p_l=>Mo.den (abU R_ p_l):=fun _=>ig Tryz.func177
def wV:Nat→RB1
 |0=>{ m1:=fun p_w=>none,ok1:=fun _ _ h=>(by cases h),m2:=fun p_l=>none,ok2:=fun _ _ h=>(by cases h) }
 |n_+1=>{ m1:=fun p_w=>Mo.den (abT (wV n_) p_w),ok1:=ajy (wV n_),m2:=fun p_l=>Mo.den (abU (wV n_) p_l),ok2:=ajz (wV n_) }
def ave(p_w:aH):Option (aH):=(wV FU).m1 p_w
theorem anL:abS ave:=(wV FU).ok1
def ajA(p_e:aF):Mo (aF):=
 .cl (anL p_e.dL) fun r0 _=>
 .ret (aY 1) (aF.mk p_e.bW p_e.dQ p_e.nD p_e.vI r0)
def anM(p_e:aF):Option (aF):=Mo.den (ajA p_e)
theorem anN(p_e:aF):FV (anM p_e) 86 [.dat (aF.lf1 p_e)] (fun r=>.dat (aF.lf1 r)):=cO Tryz.func86
def J7(p_l:List aF):(Int×(List aF))→Mo ((Int×(List aF))⊕((List aF))):=fun(v0,l0)=>
 .iB (decide ((v0:Int)<(p_l.length:Int))) (.gx aF.aX p_l v0 fun x0 _=>
 .cl (anN x0) fun r0 _=>
 .ask (fQ l0 v0) fun x1 h0=>
 .say [.row (aF.lf1 x1),.rows ((l0.set v0.toNat r0).map aF.lf)] (okc (dI aF.aX h0) (okc (st_ aF.aX l0 v0.toNat r0) (ok1 ((bU aF.aX h0).2))))<|
 .rt [1,5,14,15,16] 1 (.inl (IntKind.wrap .i64 (v0+1),l0.set v0.toNat r0)))<|
 .rt [5] 1 (.inr (l0))
def ajB(p_l:List aF)(v0:Int)(l0:List aF):Option (((List aF))):=bQ (fun v_=>(J7 p_l v_).den) FU (v0,l0)
def aqJ(p_l:List aF):Mo (List aF):=
 .nu p_l aF.lf<|
 .iB ((p_l.length:Int)==0) (.say [] (ok1 (by simp[aF.aX]:(([]:List aF).map aF.lf)=[]))<|
 .ret ⟨[.qG 0 54 82,.jM 0 (([]:List aF).map aF.lf),.mvn 0],[0],[(1,0)],1⟩ (([]:List aF)))<|
 .say [.num p_l.length,.rows ((List.replicate (p_l.length:Int).toNat (aF.mk 0 0 ⟨#[]⟩ 0 aH.z)).map aF.lf),.num p_l.length] (okc (ln_ p_l aF.lf) (ok1 (rp_ aF.aX (p_l.length:Int).toNat (aF.mk 0 0 ⟨#[]⟩ 0 aH.z))))<|
 .grd ((0:Int)≤(p_l.length:Int)∧1208*(p_l.length:Int).toNat≤281474976710656∧(p_l.length:Int).toNat≤maxLen) fun h0=>
 .say [] (okc (mk_ (p_l.length:Int) h0) (ok1 (ln_ p_l aF.lf)))<|
 .l1m [] Tryz.f85 0 [1,1,1,0,1,0] 0 (.exit 0) (fun(v0,l0)=>⟨[(1,.raw (.func (.func 86) #[] #[])),(5,.own 0),(14,.lf (.rows 82 (p_l.map aF.lf))),(15,.i_ (p_l.length:Int)),(16,.i_ v0)],[.row 54 82 (l0.map aF.lf)]⟩) (fun r_=>⟨[(5,.own 0)],[.row 54 82 (r_.map aF.lf)]⟩) (ajB p_l 0 (List.replicate (p_l.length:Int).toNat (aF.mk 0 0 ⟨#[]⟩ 0 aH.z))) (J7 p_l) (0,(List.replicate (p_l.length:Int).toNat (aF.mk 0 0 ⟨#[]⟩ 0 aH.z))) fun r0=>
 .ret ⟨[.mvn 0],[0],[(1,0)],1⟩ (r0)
def Q89(p_l:List aF):Option (List aF):=Mo.den (aqJ p_l)
theorem ase(p_l:List aF):FH (Q89 p_l) 85 [.lf (.rows 82 (p_l.map aF.lf)),.raw (.func (.func 86) #[] #[])] [] (fun _=>.own 0) (fun r=>[.row 54 82 (r.map aF.lf)]):=ig Tryz.func85
def ajC(p_m:aB):Mo (aB):=
 .cH [] (ase p_m.bn) fun r0 _=>
 .cH [] (UY p_m.fNext) fun r1 _=>
 .cH [] (UY p_m.bg) fun r2 _=>
 .ret ⟨[.kill 0,.kill 1,.mvn 2,.mvn 3,.mvn 4],[0],[(5,0),(6,1),(7,2)],3⟩ (aB.BR (aB.aeI (aB.xY p_m r0) r1) r2)
def asf(p_m:aB):Option (aB):=Mo.den (ajC p_m)
theorem UZ(p_m:aB):FH (asf p_m) 51 [.dat (aB.lf1 p_m)] [] (fun r=>FP (.agg ((aB.lf1 r).map AV.lf)) [(8,.own 0),(10,.own 1),(11,.own 2)]) (fun r=>[.row 54 82 (r.bn.map aF.lf),.row 3 1 (r.fNext.map lfI),.row 3 1 (r.bg.map lfI)]):=ig Tryz.func51
theorem ae3(p_id:Int):FV (avb p_id) 53 [.i_ p_id] .i_:=cO Tryz.func53
def OB(p_m:aB)(p_term:Int):Mo (Int):=
 .iB (p_m.gX==2) (.cl (ae3 p_m.fID) fun r0 _=>
 .rt [1,2,4] 5 (r0))<|
 .rt [1,2,4] 5 (p_m.jq)
def ajD(p_m:aB)(p_term:Int):Mo (aB):=
 .iB (decide ((p_term:Int)≤p_m.bW)) (.ret ⟨[.kill 3,.kill 4,.mvn 0,.mvn 1,.mvn 2],[0],[(5,3),(6,4),(7,5)],6⟩ (p_m))<|
 .jk Tryz.f64 3 [1,1,0,1] 1 (fun r_=>⟨[(1,.i_ p_term),(2,.ptr 3 0),(4,.ptr 4 0)],[.row 54 82 (p_m.bn.map aF.lf),.row 3 1 (p_m.fNext.map lfI),.row 3 1 (p_m.bg.map lfI),.box 25 (ag_ (aB.lf1 p_m) [(6,.i_ r_),(8,.own 0),(10,.own 1),(11,.own 2)]),.box 25 (Z25)]⟩) ⟨[(1,.i_ p_term),(2,.ptr 3 0),(4,.ptr 4 0),(12,.lf (.bool (p_m.gX==2)))],[.row 54 82 (p_m.bn.map aF.lf),.row 3 1 (p_m.fNext.map lfI),.row 3 1 (p_m.bg.map lfI),.box 25 (ag_ (aB.lf1 p_m) [(8,.own 0),(10,.own 1),(11,.own 2)]),.box 25 (Z25)]⟩ (OB p_m p_term) fun r0=>
 .say [] (okc (by simp[lfI,lfK]:(([]:List Int).map lfI)=[]) (ok1 (by simp[lfI,lfK]:(([]:List Int).map lfI)=[])))<|
 .ret ⟨[.amZ 0 10 3,.amZ 0 11 3,.kill 1,.kill 2,.kill 3,.kill 4,.jM 5 (([]:List Int).map lfI),.jM 6 (([]:List Int).map lfI),.mvn 0,.mvn 5,.mvn 6],[0],[(7,3),(8,4),(9,5)],6⟩ (aB.mk p_m.fID p_m.dX p_term (-1) 0 (-1) r0 0 p_m.bn p_m.aJ ([]:List Int) ([]:List Int))
def anO(p_m:aB)(p_term:Int):Option (aB):=Mo.den (ajD p_m p_term)
theorem U0(p_m:aB)(p_term:Int):FH (anO p_m p_term) 64 [FP (.agg ((aB.lf1 p_m).map AV.lf)) [(8,.own 0),(10,.own 1),(11,.own 2)],.i_ p_term] [.row 54 82 (p_m.bn.map aF.lf),.row 3 1 (p_m.fNext.map lfI),.row 3 1 (p_m.bg.map lfI)] (fun r=>FP (.agg ((aB.lf1 r).map AV.lf)) [(8,.own 3),(10,.own 4),(11,.own 5)]) (fun r=>[.dead,.dead,.dead,.row 54 82 (r.bn.map aF.lf),.row 3 1 (r.fNext.map lfI),.row 3 1 (r.bg.map lfI)]):=ig Tryz.func64
def ajE(p_m:aB)(p_term:Int):Mo (aB):=
 .cH [] (UZ p_m) fun r0 _=>
 .cH [2,3,4] (U0 r0 p_term) fun r1 _=>
 .ret ⟨[.kill 0,.kill 1,.mvn 5,.mvn 6,.mvn 7],[0],[(8,0),(9,1),(10,2)],3⟩ (r1)
def avf(p_m:aB)(p_term:Int):Option (aB):=Mo.den (ajE p_m p_term)
theorem U1(p_m:aB)(p_term:Int):FH (avf p_m p_term) 37 [.dat (aB.lf1 p_m),.i_ p_term] [] (fun r=>FP (.agg ((aB.lf1 r).map AV.lf)) [(8,.own 0),(10,.own 1),(11,.own 2)]) (fun r=>[.row 54 82 (r.bn.map aF.lf),.row 3 1 (r.fNext.map lfI),.row 3 1 (r.bg.map lfI)]):=ig Tryz.func37
def ajF(p_m:aB):Mo (aB):=
 .cH [] (U1 p_m p_m.bW) fun r0 _=>
 .ret ⟨[.kill 0,.kill 1,.mvn 2,.mvn 3,.mvn 4],[0],[(5,0),(6,1),(7,2)],3⟩ (r0)
def ajG(p_m:aB):Option (aB):=Mo.den (ajF p_m)
theorem rY(p_m:aB):FH (ajG p_m) 15 [.dat (aB.lf1 p_m)] [] (fun r=>FP (.agg ((aB.lf1 r).map AV.lf)) [(8,.own 0),(10,.own 1),(11,.own 2)]) (fun r=>[.row 54 82 (r.bn.map aF.lf),.row 3 1 (r.fNext.map lfI),.row 3 1 (r.bg.map lfI)]):=ig Tryz.func15
def asg :Mo (fK):=
 .ret (aY 1) (fK.mk (-1) 0 0 [])
def abV :Option (fK):=Mo.den (asg )
theorem zy:FV (abV ) 28 [] (fun r=>.dat (fK.lf1 r)):=cO Tryz.func28
def ash(p_l:List aF):Mo (Int):=
 .nu p_l aF.lf<|
 .iB ((p_l.length:Int)==0) (.ret (aY 1) (0))<|
 .nu p_l aF.lf<|
 .gx aF.aX p_l (IntKind.wrap .i64 ((p_l.length:Int)-1)) fun x0 _=>
 .ret (aY 1) (x0.bW)
def av9(p_l:List aF):Option (Int):=Mo.den (ash p_l)
theorem anP(p_l:List aF):FV (av9 p_l) 55 [.lf (.rows 82 (p_l.map aF.lf))] .i_:=cO Tryz.func55
def agZ(p_x:aG)(r0:aB)(r1:Int):Mo (Bool):=
 .iG 14004 (decide ((r1:Int)<p_x.wO)) (.rt [2,3,4,40] 9 (true))<|
 .iG 14009 (p_x.wO==r1) (.nu r0.bn aF.lf<|
 .rt [2,3,4,40] 9 (decide (((r0.bn.length:Int):Int)≤p_x.bP)))<|
 .rt [2,3,4,40] 9 (false)
def ag0(p_x:aG)(r0:aB)(r1:Bool):Mo (Unit):=
 .rt [2,3,4,7] 9 ()
def abW(p_x:aG)(r0:aB)(r1:Bool):Mo (Bool):=
 .iG 16005 (p_x.bW==r0.bW) (.oV 16009 (r0.lI==(-1)) [2,3,4,7,57] 9 (r0.lI==p_x.eU))<|
 .rt [2,3,4,7,57] 9 (false)
def abX(p_x:aG)(r0:aB)(r1:Bool)(r2:Bool):Mo (Bool):=
 .aV 16017 (r2) [2,3,4,60] 9 (r1)
def abY(p_x:aG)(r0:aB)(r1:Bool):Mo (Unit):=
 .rt [2,3,4,8] 9 ()
def abZ(p_x:aG)(r0:aB)(r1:Bool):Mo ((Int×Int)):=
 .iB (r1) (.cl (ae3 r0.fID) fun r2 _=>
 .rt [2,3,4,8] 9 (p_x.eU,r2))<|
 .rt [2,3,4,8] 9 (r0.lI,r0.jq)
def asi(p_m:aB)(p_x:aG):Mo (aB×List aG):=
 .cH [] (UZ p_m) fun r0 _=>
 .iB (p_x.aK != 1) (.say [.at_ 0 0,.frz 3,.frz 4,.frz 5] ok0<|
 .ret ⟨[.nil 1 9,.tod 1],[0,1],[],0⟩ (r0,[]))<|
 .ask (anO r0 p_x.bW) fun r1 h0=>
 .say [.jA [3,4,5] (ag_ (aB.lf1 r1) [(8,.own 3),(10,.own 4),(11,.own 5)]) [.dead,.dead,.dead,.row 54 82 (r1.bn.map aF.lf),.row 3 1 (r1.fNext.map lfI),.row 3 1 (r1.bg.map lfI)],.at_ 12 2,.frz 6] (ok1 (U0 _ _ _ h0))<|
 .cl (anP r1.bn) fun r2 _=>
 .sk Tryz.f45 0 [1,1,1,1,1,0] 0 18 6 (fun r_=>⟨[(2,.ptr 0 0),(3,.ptr 1 0),(4,.ptr 2 0),(40,.b_ r_)],[.box 25 (ag_ (aB.lf1 r1) [(10,.own 7),(11,.own 8)]),fG p_x,.box 25 (Z25),.dead,.dead,.dead,.dead,.row 3 1 (r1.fNext.map lfI),.row 3 1 (r1.bg.map lfI)]⟩) ⟨[(2,.ptr 0 0),(3,.ptr 1 0),(4,.ptr 2 0),(6,.i_ r2)],[.box 25 (ag_ (aB.lf1 r1) [(10,.own 7),(11,.own 8)]),fG p_x,.box 25 (Z25),.dead,.dead,.dead,.dead,.row 3 1 (r1.fNext.map lfI),.row 3 1 (r1.bg.map lfI)]⟩ (agZ p_x r1 r2) fun r3=>
 .sk Tryz.f45 0 [1,1,1,1,1,0] 18 1 6 (fun r_=>⟨[(2,.ptr 0 0),(3,.ptr 1 0),(4,.ptr 2 0),(7,.b_ r3)],[.box 25 (ag_ (aB.lf1 r1) [(10,.own 7),(11,.own 8)]),fG p_x,.box 25 (Z25),.dead,.dead,.dead,.dead,.row 3 1 (r1.fNext.map lfI),.row 3 1 (r1.bg.map lfI)]⟩) ⟨[(2,.ptr 0 0),(3,.ptr 1 0),(4,.ptr 2 0),(40,.b_ r3)],[.box 25 (ag_ (aB.lf1 r1) [(10,.own 7),(11,.own 8)]),fG p_x,.box 25 (Z25),.dead,.dead,.dead,.dead,.row 3 1 (r1.fNext.map lfI),.row 3 1 (r1.bg.map lfI)]⟩ (ag0 p_x r1 r3) fun r4=>
 .sf Tryz.f45 0 [1,1,1,1,1,1,0] 0 17 7 [(2,.ptr 0 0),(3,.ptr 1 0),(4,.ptr 2 0),(7,.b_ r3)] [.box 25 (ag_ (aB.lf1 r1) [(10,.own 7),(11,.own 8)]),fG p_x,.box 25 (Z25),.dead,.dead,.dead,.dead,.row 3 1 (r1.fNext.map lfI),.row 3 1 (r1.bg.map lfI)] 57 (abW p_x r1 r3) fun r5=>
 .sk Tryz.f45 0 [1,1,1,1,1,1,0] 17 3 7 (fun r_=>⟨[(2,.ptr 0 0),(3,.ptr 1 0),(4,.ptr 2 0),(60,.b_ r_)],[.box 25 (ag_ (aB.lf1 r1) [(10,.own 7),(11,.own 8)]),fG p_x,.box 25 (Z25),.dead,.dead,.dead,.dead,.row 3 1 (r1.fNext.map lfI),.row 3 1 (r1.bg.map lfI)]⟩) ⟨[(2,.ptr 0 0),(3,.ptr 1 0),(4,.ptr 2 0),(7,.b_ r3),(57,.b_ r5)],[.box 25 (ag_ (aB.lf1 r1) [(10,.own 7),(11,.own 8)]),fG p_x,.box 25 (Z25),.dead,.dead,.dead,.dead,.row 3 1 (r1.fNext.map lfI),.row 3 1 (r1.bg.map lfI)]⟩ (abX p_x r1 r3 r5) fun r6=>
 .sk Tryz.f45 0 [1,1,1,1,1,1,0] 20 1 7 (fun r_=>⟨[(2,.ptr 0 0),(3,.ptr 1 0),(4,.ptr 2 0),(8,.b_ r6)],[.box 25 (ag_ (aB.lf1 r1) [(10,.own 7),(11,.own 8)]),fG p_x,.box 25 (Z25),.dead,.dead,.dead,.dead,.row 3 1 (r1.fNext.map lfI),.row 3 1 (r1.bg.map lfI)]⟩) ⟨[(2,.ptr 0 0),(3,.ptr 1 0),(4,.ptr 2 0),(60,.b_ r6)],[.box 25 (ag_ (aB.lf1 r1) [(10,.own 7),(11,.own 8)]),fG p_x,.box 25 (Z25),.dead,.dead,.dead,.dead,.row 3 1 (r1.fNext.map lfI),.row 3 1 (r1.bg.map lfI)]⟩ (abY p_x r1 r6) fun r7=>
 .jk Tryz.f45 0 [1,1,1,1,1,1,1,0,1] 1 (fun r_=>⟨[(2,.ptr 0 0),(3,.ptr 1 0),(4,.ptr 2 0),(8,.b_ r6)],[.box 25 (ag_ (aB.lf1 r1) [(3,.i_ r_.1),(6,.i_ r_.2),(10,.own 7),(11,.own 8)]),fG p_x,.box 25 (Z25),.dead,.dead,.dead,.dead,.row 3 1 (r1.fNext.map lfI),.row 3 1 (r1.bg.map lfI)]⟩) ⟨[(2,.ptr 0 0),(3,.ptr 1 0),(4,.ptr 2 0),(8,.b_ r6),(61,.b_ r6)],[.box 25 (ag_ (aB.lf1 r1) [(10,.own 7),(11,.own 8)]),fG p_x,.box 25 (Z25),.dead,.dead,.dead,.dead,.row 3 1 (r1.fNext.map lfI),.row 3 1 (r1.bg.map lfI)]⟩ (abZ p_x r1 r6) fun r8=>
 .say [.gY (.q 0 (.q 1 (.alt 2 (.l 3 (.q 4 .fin)) (.l 3 (.l 2 (.q 4 .fin)))))) none [2,10] [.both [.at_ 26 2,.resv 1,.slot 10] [.at_ 26 3,.resv 1,.slot 10]] [4,5] 11 [(4,.ptr 2 0),(5,.own 10)] [.box 25 (ag_ (aB.lf1 r1) [(3,.i_ r8.1),(6,.i_ r8.2),(10,.own 7),(11,.own 8)]),fG p_x,.box 25 (ag_ (aB.lf1 r1) [(3,.i_ r8.1),(6,.i_ r8.2),(10,.own 7),(11,.own 8)]),.dead,.dead,.dead,.dead,.row 3 1 (r1.fNext.map lfI),.row 3 1 (r1.bg.map lfI),.box 65 (.agg [.i_ r1.fID,.i_ p_x.eU,.i_ 2,.i_ r1.bW,.i_ 0,.i_ 0,.i_ 0,.dw 82,.b_ r6]),.row 65 9 [(aG.lf1 (aG.sOK (aG.rW (aG.nG (aG.sTo (aG.wP aG.z r1.fID) p_x.eU) 2) r1.bW) r6))]],.at_ 0 0,.frz 7,.frz 8,.NP 10 ([aG.sOK (aG.rW (aG.nG (aG.sTo (aG.wP aG.z r1.fID) p_x.eU) 2) r1.bW) r6].map aG.lf)] (okc (rf_ ⟨[(4,.ptr 2 0),(5,.own 10)],[.box 25 (ag_ (aB.lf1 r1) [(3,.i_ r8.1),(6,.i_ r8.2),(10,.own 7),(11,.own 8)]),fG p_x,.box 25 (ag_ (aB.lf1 r1) [(3,.i_ r8.1),(6,.i_ r8.2),(10,.own 7),(11,.own 8)]),.dead,.dead,.dead,.dead,.row 3 1 (r1.fNext.map lfI),.row 3 1 (r1.bg.map lfI),.box 65 (.agg [.i_ r1.fID,.i_ p_x.eU,.i_ 2,.i_ r1.bW,.i_ 0,.i_ 0,.i_ 0,.dw 82,.b_ r6]),.row 65 9 [(aG.lf1 (aG.sOK (aG.rW (aG.nG (aG.sTo (aG.wP aG.z r1.fID) p_x.eU) 2) r1.bW) r6))]]⟩) (okc (rf_ ⟨[(4,.ptr 2 0),(5,.own 10)],[.box 25 (ag_ (aB.lf1 r1) [(3,.i_ r8.1),(6,.i_ r8.2),(10,.own 7),(11,.own 8)]),fG p_x,.box 25 (ag_ (aB.lf1 r1) [(3,.i_ r8.1),(6,.i_ r8.2),(10,.own 7),(11,.own 8)]),.dead,.dead,.dead,.dead,.row 3 1 (r1.fNext.map lfI),.row 3 1 (r1.bg.map lfI),.box 65 (.agg [.i_ r1.fID,.i_ p_x.eU,.i_ 2,.i_ r1.bW,.i_ 0,.i_ 0,.i_ 0,.dw 82,.b_ r6]),.row 65 9 [(aG.lf1 (aG.sOK (aG.rW (aG.nG (aG.sTo (aG.wP aG.z r1.fID) p_x.eU) 2) r1.bW) r6))]]⟩) (ok1 (by simp[aG.aX]:[aG.sOK (aG.rW (aG.nG (aG.sTo (aG.wP aG.z r1.fID) p_x.eU) 2) r1.bW) r6].map aG.lf=[(aG.lf1 (aG.sOK (aG.rW (aG.nG (aG.sTo (aG.wP aG.z r1.fID) p_x.eU) 2) r1.bW) r6))]))))<|
 .ret (aY 2) (aB.UK (aB.aqC r1 r8.1) r8.2,[aG.sOK (aG.rW (aG.nG (aG.sTo (aG.wP aG.z r1.fID) p_x.eU) 2) r1.bW) r6])
def awc(p_m:aB)(p_x:aG):Option (aB×List aG):=Mo.den (asi p_m p_x)
theorem anQ(p_m:aB)(p_x:aG):FV (awc p_m p_x) 45 [.dat (aB.lf1 p_m),.dat (aG.lf1 p_x)] (fun r=>.tup [.dat (aB.lf1 r.1),.lf (.rows 9 (r.2.map aG.lf))]):=cO Tryz.func45
def asj(p_x:aG)(p_b0:aS):Mo (aS):=
 .say [.order [(true,0),(true,1),(true,2),(true,3),(true,4),(true,6),(false,5),(false,7),(true,8),(true,9),(true,10),(true,11),(true,12),(false,13),(true,14),(true,15),(false,16)] (some 16) [0,1,2,3],.at_ 4 7,.frz 1,.frz 2,.frz 3] ok0<|
 .cl (anQ p_b0.aZ p_x) fun r0 _=>
 .ret ⟨[.norm 0,.kill 4,.kill 5],[],[],5⟩ (aS.mk r0.1 r0.2 p_b0.gW)
def avg(p_x:aG)(p_b0:aS):Option (aS):=Mo.den (asj p_x p_b0)
theorem anR(p_x:aG)(p_b0:aS):FH (avg p_x p_b0) 29 [.ptr 0 0,.dat (aG.lf1 p_x)] [.box 87 (ag_ (aS.lf1 p_b0) [(8,.own 1),(10,.own 2),(11,.own 3),(12,.own 4)]),.row 54 82 (p_b0.aZ.bn.map aF.lf),.row 3 1 (p_b0.aZ.fNext.map lfI),.row 3 1 (p_b0.aZ.bg.map lfI),.row 65 9 (p_b0.dY.map aG.lf)] (fun _=>.tup []) (fun r=>[aqF r,.dead,.dead,.dead,.dead]):=ig Tryz.func29
def ag1(p_m:aB):Mo (Bool):=
 .aV 4003 (decide ((1:Int)≤p_m.dX)) [1,2,10] 1 (decide ((p_m.dX:Int)≤7))
def ag2(p_m:aB)(r0:Bool):Mo (Bool):=
 .aV 4008 (r0) [1,2,15] 1 (decide ((0:Int)≤p_m.fID))
def ab1(p_m:aB)(r0:Bool):Mo (Bool):=
 .iG 4013 (r0) (.ret ⟨[.kill 0],[2,22],[],1⟩ (decide ((p_m.fID:Int)<p_m.dX)))<|
 .ret ⟨[.kill 0],[2,22],[],1⟩ (false)
def asl(p_m:aB):Mo (Bool):=
 .sf Tryz.f52 0 [1,0] 0 8 1 [(1,.ptr 0 0),(2,.b_ false)] [eG p_m] 10 (ag1 p_m) fun r0=>
 .sb Tryz.f52 0 [1,0] 8 5 1 [(1,.ptr 0 0),(2,.b_ false)] [eG p_m] 10 15 r0 (ag2 p_m r0) fun r1=>
 .sk Tryz.f52 0 [1,0] 13 7 1 (fun r_=>⟨[(2,.b_ false),(22,.b_ r_)],[.dead]⟩) ⟨[(1,.ptr 0 0),(2,.b_ false),(15,.b_ r1)],[eG p_m]⟩ (ab1 p_m r1) fun r2=>
 .sk Tryz.f52 0 [1,0] 20 1 1 (fun r_=>⟨[(2,.b_ r2)],[.dead]⟩) ⟨[(2,.b_ false),(22,.b_ r2)],[.dead]⟩ (dG r2) fun r3=>
 .ret (aY 1) (r2)
def awd(p_m:aB):Option (Bool):=Mo.den (asl p_m)
theorem anS(p_m:aB):FV (awd p_m) 52 [.dat (aB.lf1 p_m)] .b_:=cO Tryz.func52
def asn(p_x:Int):Mo (Int):=
 .say [] (okc (by decide:(0:Int)≤1) (okc (by decide:(0:Int)≤2) (okc (by decide:(0:Int)≤4) (okc (by decide:(0:Int)≤8) (okc (by decide:(0:Int)≤16) (ok1 (by decide:(0:Int)≤32)))))))<|
 .ret (aY 1) (bZ .and .i64 (IntKind.wrap .i64 (IntKind.wrap .u64 ((IntKind.wrap .u64 ((IntKind.wrap .u64 ((bZ .and .u64 (IntKind.wrap .u64 ((gu .u64 (IntKind.wrap .u64 ((bZ .and .u64 (gu .u64 (IntKind.wrap .u64 ((bZ .and .u64 (gu .u64 p_x 1) 6148914691236517205)+(bZ .and .u64 p_x 6148914691236517205))) 2) 3689348814741910323)+(bZ .and .u64 (IntKind.wrap .u64 ((bZ .and .u64 (gu .u64 p_x 1) 6148914691236517205)+(bZ .and .u64 p_x 6148914691236517205))) 3689348814741910323))) 4)+(IntKind.wrap .u64 ((bZ .and .u64 (gu .u64 (IntKind.wrap .u64 ((bZ .and .u64 (gu .u64 p_x 1) 6148914691236517205)+(bZ .and .u64 p_x 6148914691236517205))) 2) 3689348814741910323)+(bZ .and .u64 (IntKind.wrap .u64 ((bZ .and .u64 (gu .u64 p_x 1) 6148914691236517205)+(bZ .and .u64 p_x 6148914691236517205))) 3689348814741910323))))) 1085102592571150095)+(gu .u64 (bZ .and .u64 (IntKind.wrap .u64 ((gu .u64 (IntKind.wrap .u64 ((bZ .and .u64 (gu .u64 (IntKind.wrap .u64 ((bZ .and .u64 (gu .u64 p_x 1) 6148914691236517205)+(bZ .and .u64 p_x 6148914691236517205))) 2) 3689348814741910323)+(bZ .and .u64 (IntKind.wrap .u64 ((bZ .and .u64 (gu .u64 p_x 1) 6148914691236517205)+(bZ .and .u64 p_x 6148914691236517205))) 3689348814741910323))) 4)+(IntKind.wrap .u64 ((bZ .and .u64 (gu .u64 (IntKind.wrap .u64 ((bZ .and .u64 (gu .u64 p_x 1) 6148914691236517205)+(bZ .and .u64 p_x 6148914691236517205))) 2) 3689348814741910323)+(bZ .and .u64 (IntKind.wrap .u64 ((bZ .and .u64 (gu .u64 p_x 1) 6148914691236517205)+(bZ .and .u64 p_x 6148914691236517205))) 3689348814741910323))))) 1085102592571150095) 8)))+(gu .u64 (IntKind.wrap .u64 ((bZ .and .u64 (IntKind.wrap .u64 ((gu .u64 (IntKind.wrap .u64 ((bZ .and .u64 (gu .u64 (IntKind.wrap .u64 ((bZ .and .u64 (gu .u64 p_x 1) 6148914691236517205)+(bZ .and .u64 p_x 6148914691236517205))) 2) 3689348814741910323)+(bZ .and .u64 (IntKind.wrap .u64 ((bZ .and .u64 (gu .u64 p_x 1) 6148914691236517205)+(bZ .and .u64 p_x 6148914691236517205))) 3689348814741910323))) 4)+(IntKind.wrap .u64 ((bZ .and .u64 (gu .u64 (IntKind.wrap .u64 ((bZ .and .u64 (gu .u64 p_x 1) 6148914691236517205)+(bZ .and .u64 p_x 6148914691236517205))) 2) 3689348814741910323)+(bZ .and .u64 (IntKind.wrap .u64 ((bZ .and .u64 (gu .u64 p_x 1) 6148914691236517205)+(bZ .and .u64 p_x 6148914691236517205))) 3689348814741910323))))) 1085102592571150095)+(gu .u64 (bZ .and .u64 (IntKind.wrap .u64 ((gu .u64 (IntKind.wrap .u64 ((bZ .and .u64 (gu .u64 (IntKind.wrap .u64 ((bZ .and .u64 (gu .u64 p_x 1) 6148914691236517205)+(bZ .and .u64 p_x 6148914691236517205))) 2) 3689348814741910323)+(bZ .and .u64 (IntKind.wrap .u64 ((bZ .and .u64 (gu .u64 p_x 1) 6148914691236517205)+(bZ .and .u64 p_x 6148914691236517205))) 3689348814741910323))) 4)+(IntKind.wrap .u64 ((bZ .and .u64 (gu .u64 (IntKind.wrap .u64 ((bZ .and .u64 (gu .u64 p_x 1) 6148914691236517205)+(bZ .and .u64 p_x 6148914691236517205))) 2) 3689348814741910323)+(bZ .and .u64 (IntKind.wrap .u64 ((bZ .and .u64 (gu .u64 p_x 1) 6148914691236517205)+(bZ .and .u64 p_x 6148914691236517205))) 3689348814741910323))))) 1085102592571150095) 8))) 16)))+(gu .u64 (IntKind.wrap .u64 ((IntKind.wrap .u64 ((bZ .and .u64 (IntKind.wrap .u64 ((gu .u64 (IntKind.wrap .u64 ((bZ .and .u64 (gu .u64 (IntKind.wrap .u64 ((bZ .and .u64 (gu .u64 p_x 1) 6148914691236517205)+(bZ .and .u64 p_x 6148914691236517205))) 2) 3689348814741910323)+(bZ .and .u64 (IntKind.wrap .u64 ((bZ .and .u64 (gu .u64 p_x 1) 6148914691236517205)+(bZ .and .u64 p_x 6148914691236517205))) 3689348814741910323))) 4)+(IntKind.wrap .u64 ((bZ .and .u64 (gu .u64 (IntKind.wrap .u64 ((bZ .and .u64 (gu .u64 p_x 1) 6148914691236517205)+(bZ .and .u64 p_x 6148914691236517205))) 2) 3689348814741910323)+(bZ .and .u64 (IntKind.wrap .u64 ((bZ .and .u64 (gu .u64 p_x 1) 6148914691236517205)+(bZ .and .u64 p_x 6148914691236517205))) 3689348814741910323))))) 1085102592571150095)+(gu .u64 (bZ .and .u64 (IntKind.wrap .u64 ((gu .u64 (IntKind.wrap .u64 ((bZ .and .u64 (gu .u64 (IntKind.wrap .u64 ((bZ .and .u64 (gu .u64 p_x 1) 6148914691236517205)+(bZ .and .u64 p_x 6148914691236517205))) 2) 3689348814741910323)+(bZ .and .u64 (IntKind.wrap .u64 ((bZ .and .u64 (gu .u64 p_x 1) 6148914691236517205)+(bZ .and .u64 p_x 6148914691236517205))) 3689348814741910323))) 4)+(IntKind.wrap .u64 ((bZ .and .u64 (gu .u64 (IntKind.wrap .u64 ((bZ .and .u64 (gu .u64 p_x 1) 6148914691236517205)+(bZ .and .u64 p_x 6148914691236517205))) 2) 3689348814741910323)+(bZ .and .u64 (IntKind.wrap .u64 ((bZ .and .u64 (gu .u64 p_x 1) 6148914691236517205)+(bZ .and .u64 p_x 6148914691236517205))) 3689348814741910323))))) 1085102592571150095) 8)))+(gu .u64 (IntKind.wrap .u64 ((bZ .and .u64 (IntKind.wrap .u64 ((gu .u64 (IntKind.wrap .u64 ((bZ .and .u64 (gu .u64 (IntKind.wrap .u64 ((bZ .and .u64 (gu .u64 p_x 1) 6148914691236517205)+(bZ .and .u64 p_x 6148914691236517205))) 2) 3689348814741910323)+(bZ .and .u64 (IntKind.wrap .u64 ((bZ .and .u64 (gu .u64 p_x 1) 6148914691236517205)+(bZ .and .u64 p_x 6148914691236517205))) 3689348814741910323))) 4)+(IntKind.wrap .u64 ((bZ .and .u64 (gu .u64 (IntKind.wrap .u64 ((bZ .and .u64 (gu .u64 p_x 1) 6148914691236517205)+(bZ .and .u64 p_x 6148914691236517205))) 2) 3689348814741910323)+(bZ .and .u64 (IntKind.wrap .u64 ((bZ .and .u64 (gu .u64 p_x 1) 6148914691236517205)+(bZ .and .u64 p_x 6148914691236517205))) 3689348814741910323))))) 1085102592571150095)+(gu .u64 (bZ .and .u64 (IntKind.wrap .u64 ((gu .u64 (IntKind.wrap .u64 ((bZ .and .u64 (gu .u64 (IntKind.wrap .u64 ((bZ .and .u64 (gu .u64 p_x 1) 6148914691236517205)+(bZ .and .u64 p_x 6148914691236517205))) 2) 3689348814741910323)+(bZ .and .u64 (IntKind.wrap .u64 ((bZ .and .u64 (gu .u64 p_x 1) 6148914691236517205)+(bZ .and .u64 p_x 6148914691236517205))) 3689348814741910323))) 4)+(IntKind.wrap .u64 ((bZ .and .u64 (gu .u64 (IntKind.wrap .u64 ((bZ .and .u64 (gu .u64 p_x 1) 6148914691236517205)+(bZ .and .u64 p_x 6148914691236517205))) 2) 3689348814741910323)+(bZ .and .u64 (IntKind.wrap .u64 ((bZ .and .u64 (gu .u64 p_x 1) 6148914691236517205)+(bZ .and .u64 p_x 6148914691236517205))) 3689348814741910323))))) 1085102592571150095) 8))) 16))) 32)))) 127)
def awe(p_x:Int):Option (Int):=Mo.den (asn p_x)
theorem anT(p_x:Int):FV (awe p_x) 128 [.lf (.int .u64 p_x)] .i_:=cO Tryz.func128
def aso(p_x:Int):Mo (Int):=
 .say [.br false] (ok1 (rfl:false=false))<|
 .cl (anT p_x) fun r0 _=>
 .ret (aY 1) (r0)
def avh(p_x:Int):Option (Int):=Mo.den (aso p_x)
theorem anU(p_x:Int):FV (avh p_x) 83 [.lf (.int .u64 p_x)] .i_:=cO Tryz.func83
def asq(p_size:Int):Mo (Int):=
 .jk Tryz.f39 0 [1,0,0] 9 (fun r_=>⟨[(0,.i_ p_size),(8,.b_ r_)],[]⟩) ⟨[(0,.i_ p_size)],[]⟩ (FY p_size) fun r0=>
 .iB (r0) (.ret (aY 1) (0))<|
 .say [] (ok1 (by decide:(2:Int)≠0))<|
 .ret (aY 1) (IntKind.wrap .i64 ((IntKind.wrap .i64 (Int.tdiv p_size 2))+1))
def asr(p_size:Int):Option (Int):=Mo.den (asq p_size)
theorem ae4(p_size:Int):FV (asr p_size) 39 [.i_ p_size] .i_:=cO Tryz.func39
def ag3(p_m:aB):(Int×(List Int))→Mo ((Int×(List Int))⊕((List Int))):=fun(v0,l0)=>
 .iB (decide ((v0:Int)<((List.replicate p_m.dX.toNat 0).length:Int))) (.nu p_m.bn aF.lf<|
 .ask (fQ l0 v0) fun x0 h0=>
 .say [.row (lfI x0),.rows ((l0.set v0.toNat (p_m.bn.length:Int)).map lfI)] (okc (dI lI_ h0) (okc (st_ lI_ l0 v0.toNat (p_m.bn.length:Int)) (ok1 ((bU lI_ h0).2))))<|
 .rt [1,2,19,20] 4 (.inl (IntKind.wrap .i64 (v0+1),l0.set v0.toNat (p_m.bn.length:Int))))<|
 .rt [1,2] 4 (.inr (l0))
def asu(p_m:aB):Mo (aB):=
 .say [.rows ((List.replicate p_m.dX.toNat 0).map lfI),.rows ((List.replicate p_m.dX.toNat 0).map lfI),.num (List.replicate p_m.dX.toNat 0).length] (ok1 (rp_ lI_ p_m.dX.toNat 0))<|
 .grd ((0:Int)≤p_m.dX∧8*p_m.dX.toNat≤281474976710656∧p_m.dX.toNat≤maxLen) fun h0=>
 .say [] (okc (mk_ p_m.dX h0) (ok1 (rp_ lI_ p_m.dX.toNat 0)))<|
 .grd ((0:Int)≤p_m.dX∧8*p_m.dX.toNat≤281474976710656∧p_m.dX.toNat≤maxLen) fun h1=>
 .say [] (okc (mk_ p_m.dX h1) (ok1 (by simp:(List.replicate p_m.dX.toNat 0).length=((List.replicate p_m.dX.toNat 0).map lfI).length)))<|
 .l1 Tryz.f54 0 [1,1,1,1,0,1,0] 0 (.exit 0) (fun(v0,l0)=>⟨[(1,.ptr 0 0),(2,.ptr 1 0),(19,.i_ ((List.replicate p_m.dX.toNat 0).length:Int)),(20,.i_ v0)],[.box 25 (ag_ (aB.lf1 p_m) [(4,.i_ 2),(5,.i_ p_m.fID),(6,.i_ 1),(10,.own 2),(11,.own 3)]),.box 25 (Z25),.row 3 1 (l0.map lfI),.row 3 1 ((List.replicate p_m.dX.toNat 0).map lfI)]⟩) (fun r_=>⟨[(1,.ptr 0 0),(2,.ptr 1 0)],[.box 25 (ag_ (aB.lf1 p_m) [(4,.i_ 2),(5,.i_ p_m.fID),(6,.i_ 1),(10,.own 2),(11,.own 3)]),.box 25 (Z25),.row 3 1 (r_.map lfI),.row 3 1 ((List.replicate p_m.dX.toNat 0).map lfI)]⟩) (ag3 p_m) (0,(List.replicate p_m.dX.toNat 0)) fun r0=>
 .nu p_m.bn aF.lf<|
 .ask (fQ (List.replicate p_m.dX.toNat 0) p_m.fID) fun x0 h2=>
 .say [.row (lfI x0),.rows (((List.replicate p_m.dX.toNat 0).set p_m.fID.toNat (p_m.bn.length:Int)).map lfI),.at_ 0 0,.frz 2,.frz 3] (okc (dI lI_ h2) (okc (st_ lI_ (List.replicate p_m.dX.toNat 0) p_m.fID.toNat (p_m.bn.length:Int)) (ok1 ((bU lI_ h2).2))))<|
 .ret (aY 1) (aB.BR (aB.aeI (aB.UK (aB.aeH (aB.au0 p_m 2) p_m.fID) 1) r0) ((List.replicate p_m.dX.toNat 0).set p_m.fID.toNat (p_m.bn.length:Int)))
def awf(p_m:aB):Option (aB):=Mo.den (asu p_m)
theorem anV(p_m:aB):FV (awf p_m) 54 [.dat (aB.lf1 p_m)] (fun r=>.dat (aB.lf1 r)):=cO Tryz.func54
def ag4(p_x:aG)(r0:aB):Mo (Bool):=
 .oV 14003 (r0.gX != 1) [2,3,4,29] 6 (p_x.bW != r0.bW)
def ag5(p_x:aG)(r0:aB)(r1:Bool):Mo (Bool):=
 .oV 14010 (r1) [2,3,4,34] 6 (!p_x.fOK)
def ab2(p_x:aG)(r0:aB)(r1:Bool):Mo (Bool):=
 .iG 14015 (r1) (.ret ⟨[.frz 3,.frz 4,.frz 5],[2,3,4,39],[],6⟩ (true))<|
 .say [.at_ 14 17,.frz 3,.frz 4,.frz 5] ok0<|
 .cl (anS r0) fun r2 _=>
 .rt [2,3,4,39] 6 (!r2)
def ab3(p_x:aG)(r0:aB)(r1:Bool):Mo (Bool):=
 .oV 14020 (r1) [2,3,4,44] 6 (decide ((p_x.eU:Int)<0))
def ab4(p_x:aG)(r0:aB)(r1:Bool):Mo (Bool):=
 .oV 14025 (r1) [2,3,4,51] 6 (decide ((r0.dX:Int)≤p_x.eU))
def asv(p_m:aB)(p_x:aG):Mo (aB):=
 .cH [] (UZ p_m) fun r0 _=>
 .iB (p_x.aK != 2) (.say [.at_ 0 0,.frz 3,.frz 4,.frz 5] ok0<|
 .ret (aY 1) (r0))<|
 .iB (decide ((r0.bW:Int)<p_x.bW)) (.ask (anO r0 p_x.bW) fun r1 h0=>
 .say [.jA [3,4,5] (ag_ (aB.lf1 r1) [(8,.own 3),(10,.own 4),(11,.own 5)]) [.dead,.dead,.dead,.row 54 82 (r1.bn.map aF.lf),.row 3 1 (r1.fNext.map lfI),.row 3 1 (r1.bg.map lfI)],.at_ 0 0,.frz 6,.frz 7,.frz 8] (ok1 (U0 _ _ _ h0))<|
 .ret (aY 1) (r1))<|
 .sf Tryz.f46 0 [1,1,1,1,0,0] 0 10 6 [(2,.ptr 0 0),(3,.ptr 1 0),(4,.ptr 2 0)] [.box 25 (ag_ (aB.lf1 r0) [(8,.own 3),(10,.own 4),(11,.own 5)]),fG p_x,.box 25 (Z25),.row 54 82 (r0.bn.map aF.lf),.row 3 1 (r0.fNext.map lfI),.row 3 1 (r0.bg.map lfI)] 29 (ag4 p_x r0) fun r2=>
 .sb Tryz.f46 0 [1,1,1,1,0,0] 10 5 6 [(2,.ptr 0 0),(3,.ptr 1 0),(4,.ptr 2 0)] [.box 25 (ag_ (aB.lf1 r0) [(8,.own 3),(10,.own 4),(11,.own 5)]),fG p_x,.box 25 (Z25),.row 54 82 (r0.bn.map aF.lf),.row 3 1 (r0.fNext.map lfI),.row 3 1 (r0.bg.map lfI)] 29 34 r2 (ag5 p_x r0 r2) fun r3=>
 .sk Tryz.f46 0 [1,1,1,1,0,0] 15 5 6 (fun r_=>⟨[(2,.ptr 0 0),(3,.ptr 1 0),(4,.ptr 2 0),(39,.b_ r_)],[.box 25 (.agg ((aB.lf1 r0).map AV.lf)),fG p_x,.box 25 (Z25),.dead,.dead,.dead]⟩) ⟨[(2,.ptr 0 0),(3,.ptr 1 0),(4,.ptr 2 0),(34,.b_ r3)],[.box 25 (ag_ (aB.lf1 r0) [(8,.own 3),(10,.own 4),(11,.own 5)]),fG p_x,.box 25 (Z25),.row 54 82 (r0.bn.map aF.lf),.row 3 1 (r0.fNext.map lfI),.row 3 1 (r0.bg.map lfI)]⟩ (ab2 p_x r0 r3) fun r4=>
 .sb Tryz.f46 0 [1,1,1,1,0,0] 20 5 6 [(2,.ptr 0 0),(3,.ptr 1 0),(4,.ptr 2 0)] [.box 25 (.agg ((aB.lf1 r0).map AV.lf)),fG p_x,.box 25 (Z25),.dead,.dead,.dead] 39 44 r4 (ab3 p_x r0 r4) fun r5=>
 .sb Tryz.f46 0 [1,1,1,1,0,0] 25 7 6 [(2,.ptr 0 0),(3,.ptr 1 0),(4,.ptr 2 0)] [.box 25 (.agg ((aB.lf1 r0).map AV.lf)),fG p_x,.box 25 (Z25),.dead,.dead,.dead] 44 51 r5 (ab4 p_x r0 r5) fun r6=>
 .iB (r6) (.ret (aY 1) (r0))<|
 .say [.order [(true,0),(true,1),(true,2),(true,3),(true,4),(true,5),(true,6),(false,7)] (some 7) []] ok0<|
 .grd ((0:Int)≤p_x.eU) fun h1=>
 .say [] (ok1 h1)<|
 .ask (avh (IntKind.wrap .u64 (bZ .or .i64 r0.iE (AU .i64 1 p_x.eU)))) fun r7 h2=>
 .say [] (ok1 (anU _ _ h2))<|
 .ask (asr r0.dX) fun r8 h3=>
 .say [.gY (.q 0 (.q 1 (.q 2 (.q 4 (.q 5 (.l 3 (.l 6 (.q 7 .fin)))))))) (some 6) [] [.res (.i_ r7),.res (.i_ r8)] [2,4,67] 6 [(2,.ptr 0 0),(4,.ptr 2 0),(67,.lf (.bool (decide ((r8:Int)≤r7))))] [.box 25 (ag_ (aB.lf1 r0) [(7,.i_ (bZ .or .i64 r0.iE (AU .i64 1 p_x.eU)))]),fG p_x,.box 25 (Z25),.dead,.dead,.dead]] (okc (ae4 _ _ h3) (ok1 (rf_ ⟨[(2,.ptr 0 0),(4,.ptr 2 0),(67,.lf (.bool (decide ((r8:Int)≤r7))))],[.box 25 (ag_ (aB.lf1 r0) [(7,.i_ (bZ .or .i64 r0.iE (AU .i64 1 p_x.eU)))]),fG p_x,.box 25 (Z25),.dead,.dead,.dead]⟩)))<|
 .iB (decide ((r8:Int)≤r7)) (.cl (anV (aB.aiI r0 (bZ .or .i64 r0.iE (AU .i64 1 p_x.eU)))) fun r9 _=>
 .ret (aY 1) (r9))<|
 .ret (aY 1) (aB.aiI r0 (bZ .or .i64 r0.iE (AU .i64 1 p_x.eU)))
def awg(p_m:aB)(p_x:aG):Option (aB):=Mo.den (asv p_m p_x)
theorem anW(p_m:aB)(p_x:aG):FV (awg p_m p_x) 46 [.dat (aB.lf1 p_m),.dat (aG.lf1 p_x)] (fun r=>.dat (aB.lf1 r)):=cO Tryz.func46
def asw(p_x:aG)(p_b0:aS):Mo (aS):=
 .say [.order [(true,0),(true,1),(true,2),(true,3),(true,5),(false,4),(false,6),(true,7),(true,8),(false,9)] (some 9) [0,1,2,3],.at_ 4 6,.frz 1,.frz 2,.frz 3] ok0<|
 .cl (anW p_b0.aZ p_x) fun r0 _=>
 .ret ⟨[.kill 5,.mvn 4],[],[(6,5)],6⟩ (aS.mk r0 p_b0.dY p_b0.gW)
def avi(p_x:aG)(p_b0:aS):Option (aS):=Mo.den (asw p_x p_b0)
theorem anX(p_x:aG)(p_b0:aS):FH (avi p_x p_b0) 30 [.ptr 0 0,.dat (aG.lf1 p_x)] [.box 87 (ag_ (aS.lf1 p_b0) [(8,.own 1),(10,.own 2),(11,.own 3),(12,.own 4)]),.row 54 82 (p_b0.aZ.bn.map aF.lf),.row 3 1 (p_b0.aZ.fNext.map lfI),.row 3 1 (p_b0.aZ.bg.map lfI),.row 65 9 (p_b0.dY.map aG.lf)] (fun _=>.tup []) (fun r=>[.box 87 (ag_ (aS.lf1 r) [(12,.own 5)]),.dead,.dead,.dead,.dead,.row 65 9 (r.dY.map aG.lf)]):=ig Tryz.func30
theorem awh:NY (opsOf (Code.sub (bodyC Tryz.f47) [1])) [(true,0),(true,1),(true,2),(true,3),(true,4),(true,5),(true,6),(true,7),(true,8),(true,9),(true,10),(true,11),(true,12),(true,13),(true,14),(true,15),(true,16),(true,17),(true,18),(true,19),(false,20),(false,21),(true,22),(true,23),(false,24)] (some 24)=true:=by kernel_rfl
def asx(p_x:aG)(p_ok:Bool)(p_index:Int)(p_b0:aS):Mo (aS):=
 .say [.sQ [(true,0),(true,1),(true,2),(true,3),(true,4),(true,5),(true,6),(true,7),(true,8),(true,9),(true,10),(true,11),(true,12),(true,13),(true,14),(true,15),(true,16),(true,17),(true,18),(true,19),(false,20),(false,21),(true,22),(true,23),(false,24)] (some 24) [4,6,7],.rows ((p_b0.dY++[aG.sOK (aG.tH (aG.rW (aG.nG (aG.sTo (aG.wP aG.z p_b0.aZ.fID) p_x.eU) 4) p_b0.aZ.bW) p_index) p_ok]).map aG.lf)] (okc awh (ok1 (by simp[aG.aX]:(p_b0.dY++[aG.sOK (aG.tH (aG.rW (aG.nG (aG.sTo (aG.wP aG.z p_b0.aZ.fID) p_x.eU) 4) p_b0.aZ.bW) p_index) p_ok]).map aG.lf=(p_b0.dY.map aG.lf)++[(aG.lf1 (aG.sOK (aG.tH (aG.rW (aG.nG (aG.sTo (aG.wP aG.z p_b0.aZ.fID) p_x.eU) 4) p_b0.aZ.bW) p_index) p_ok))])))<|
 .grd ((p_b0.dY.length+[aG.sOK (aG.tH (aG.rW (aG.nG (aG.sTo (aG.wP aG.z p_b0.aZ.fID) p_x.eU) 4) p_b0.aZ.bW) p_index) p_ok].length)*88≤140737488355328) fun h0=>
 .say [] (ok1 (cp_ aG.lf h0))<|
 .ret ⟨[.kill 5,.kill 6,.mvn 1,.mvn 2,.mvn 3,.mvn 7],[],[(8,5),(9,6),(10,7),(11,8)],9⟩ (aS.mk p_b0.aZ (p_b0.dY++[aG.sOK (aG.tH (aG.rW (aG.nG (aG.sTo (aG.wP aG.z p_b0.aZ.fID) p_x.eU) 4) p_b0.aZ.bW) p_index) p_ok]) p_b0.gW)
def awi(p_x:aG)(p_ok:Bool)(p_index:Int)(p_b0:aS):Option (aS):=Mo.den (asx p_x p_ok p_index p_b0)
theorem U2(p_x:aG)(p_ok:Bool)(p_index:Int)(p_b0:aS):FH (awi p_x p_ok p_index p_b0) 47 [.ptr 0 0,.dat (aG.lf1 p_x),.b_ p_ok,.i_ p_index] [.box 87 (ag_ (aS.lf1 p_b0) [(8,.own 1),(10,.own 2),(11,.own 3),(12,.own 4)]),.row 54 82 (p_b0.aZ.bn.map aF.lf),.row 3 1 (p_b0.aZ.fNext.map lfI),.row 3 1 (p_b0.aZ.bg.map lfI),.row 65 9 (p_b0.dY.map aG.lf)] (fun _=>.tup []) (fun r=>[.box 87 (ag_ (aS.lf1 r) [(8,.own 5),(10,.own 6),(11,.own 7),(12,.own 8)]),.dead,.dead,.dead,.dead,.row 54 82 (r.aZ.bn.map aF.lf),.row 3 1 (r.aZ.fNext.map lfI),.row 3 1 (r.aZ.bg.map lfI),.row 65 9 (r.dY.map aG.lf)]):=ig Tryz.func47
def ag6(p_n:Int)(p_s0:List aF):Mo (Bool):=
 .iG 4002 (decide ((p_n:Int)<1)) (.rt [0,1,12] 1 (true))<|
 .nu p_s0 aF.lf<|
 .rt [0,1,12] 1 (decide (((p_s0.length:Int):Int)<p_n))
def asy(p_n:Int)(p_s0:List aF):Mo (Int):=
 .jk Tryz.f56 1 [1,0,0] 9 (fun r_=>⟨[(0,.own 0),(1,.i_ p_n),(12,.b_ r_)],[.row 54 82 (p_s0.map aF.lf)]⟩) ⟨[(0,.own 0),(1,.i_ p_n)],[.row 54 82 (p_s0.map aF.lf)]⟩ (ag6 p_n p_s0) fun r0=>
 .iB (r0) (.rt [0] 1 (0))<|
 .ask (fQ p_s0 (IntKind.wrap .i64 (p_n-1))) fun x0 h0=>
 .say [.row (aF.lf1 x0)] (okc (dI aF.aX h0) (ok1 ((bU aF.aX h0).2)))<|
 .rt [0] 1 (x0.bW)
def awj(p_n:Int)(p_s0:List aF):Option (Int):=Mo.den (asy p_n p_s0)
theorem anY(p_n:Int)(p_s0:List aF):FH (awj p_n p_s0) 56 [.own 0,.i_ p_n] [.row 54 82 (p_s0.map aF.lf)] .i_ (fun _=>[.row 54 82 (p_s0.map aF.lf)]):=ig Tryz.func56
def asz(p_a:aF)(p_b:aF):Mo (Bool):=
 .iG 4005 (p_a.bW==p_b.bW) (.ret (aY 1) (p_a.dQ==p_b.dQ))<|
 .ret (aY 1) (false)
def avj(p_a:aF)(p_b:aF):Option (Bool):=Mo.den (asz p_a p_b)
theorem anZ(p_a:aF)(p_b:aF):FV (avj p_a p_b) 129 [.dat (aF.lf1 p_a),.dat (aF.lf1 p_b)] .b_:=cO Tryz.func129
def ag7(p_b0:aS)(p_x:aG):(Int)→Mo ((Int)⊕(Unit⊕(Int))):=fun(v0)=>
 .iB (decide ((v0:Int)<(p_x.bY.length:Int))) (.gx aF.aX p_x.bY v0 fun x0 _=>
 .nu p_b0.aZ.bn aF.lf<|
 .iB (decide (((p_b0.aZ.bn.length:Int):Int)≤(IntKind.wrap .i64 (p_x.bP+v0)))) (.ret ⟨[.kill 5],[0],[],6⟩ (.inr (.inl ())))<|
 .ask (fQ p_b0.aZ.bn (IntKind.wrap .i64 (p_x.bP+v0))) fun x1 h0=>
 .say [] (okc (dI aF.aX h0) (ok1 ((bU aF.aX h0).2)))<|
 .ask (avj x0 x1) fun r0 h1=>
 .say [.gY (.q 0 (.q 1 (.q 2 (.q 3 (.q 4 (.q 5 (.q 6 (.q 7 (.q 8 (.l 9 (.q 10 .fin))))))))))) (some 9) [] [.row (aF.lf1 x1),.res (.b_ r0)] [0,3,7,9,10,11,38] 7 [(0,.ptr 0 0),(3,.ptr 5 0),(7,.i_ (IntKind.wrap .i64 (p_x.bP+v0))),(9,.lf (.rows 82 (p_x.bY.map aF.lf))),(10,.i_ (p_x.bY.length:Int)),(11,.i_ v0),(38,.lf (.bool (!r0)))] [.box 87 (ag_ (aS.lf1 p_b0) [(8,.own 1),(10,.own 2),(11,.own 3),(12,.own 4)]),.row 54 82 (p_b0.aZ.bn.map aF.lf),.row 3 1 (p_b0.aZ.fNext.map lfI),.row 3 1 (p_b0.aZ.bg.map lfI),.row 65 9 (p_b0.dY.map aG.lf),fG p_x,.box 54 (.agg ((aF.lf1 x0).map AV.lf))]] (okc (anZ _ _ _ h1) (ok1 (rf_ ⟨[(0,.ptr 0 0),(3,.ptr 5 0),(7,.i_ (IntKind.wrap .i64 (p_x.bP+v0))),(9,.lf (.rows 82 (p_x.bY.map aF.lf))),(10,.i_ (p_x.bY.length:Int)),(11,.i_ v0),(38,.lf (.bool (!r0)))],[.box 87 (ag_ (aS.lf1 p_b0) [(8,.own 1),(10,.own 2),(11,.own 3),(12,.own 4)]),.row 54 82 (p_b0.aZ.bn.map aF.lf),.row 3 1 (p_b0.aZ.fNext.map lfI),.row 3 1 (p_b0.aZ.bg.map lfI),.row 65 9 (p_b0.dY.map aG.lf),fG p_x,.box 54 (.agg ((aF.lf1 x0).map AV.lf))]⟩)))<|
 .iB (!r0) (.ret ⟨[.kill 5],[4],[],6⟩ (.inr (.inr ((IntKind.wrap .i64 (p_x.bP+v0))))))<|
 .rt [0,3,9,10,11] 6 (.inl (IntKind.wrap .i64 (v0+1))))<|
 .ret ⟨[.kill 5],[0],[],6⟩ (.inr (.inl ()))
def asA(p_x:aG)(p_b0:aS):Mo (Int):=
 .nu p_x.bY aF.lf<|
 .l2 Tryz.f84 5 [1,0,1,0] 0 (fun(v0)=>⟨[(0,.ptr 0 0),(3,.ptr 5 0),(9,.lf (.rows 82 (p_x.bY.map aF.lf))),(10,.i_ (p_x.bY.length:Int)),(11,.i_ v0)],[.box 87 (ag_ (aS.lf1 p_b0) [(8,.own 1),(10,.own 2),(11,.own 3),(12,.own 4)]),.row 54 82 (p_b0.aZ.bn.map aF.lf),.row 3 1 (p_b0.aZ.fNext.map lfI),.row 3 1 (p_b0.aZ.bg.map lfI),.row 65 9 (p_b0.dY.map aG.lf),fG p_x]⟩) (.exit 0) (fun _=>⟨[(0,.ptr 0 0)],[.box 87 (ag_ (aS.lf1 p_b0) [(8,.own 1),(10,.own 2),(11,.own 3),(12,.own 4)]),.row 54 82 (p_b0.aZ.bn.map aF.lf),.row 3 1 (p_b0.aZ.fNext.map lfI),.row 3 1 (p_b0.aZ.bg.map lfI),.row 65 9 (p_b0.dY.map aG.lf),.dead]⟩) .ret (fun o_=>⟨[(4,.i_ o_)],[.box 87 (ag_ (aS.lf1 p_b0) [(8,.own 1),(10,.own 2),(11,.own 3),(12,.own 4)]),.row 54 82 (p_b0.aZ.bn.map aF.lf),.row 3 1 (p_b0.aZ.fNext.map lfI),.row 3 1 (p_b0.aZ.bg.map lfI),.row 65 9 (p_b0.dY.map aG.lf),.dead]⟩) (ag7 p_b0 p_x) (0) (fun o0=>
 .nu p_b0.aZ.bn aF.lf<|
 .ret ⟨[.mvn 1,.mvn 2,.mvn 3,.mvn 4],[0],[(6,5),(7,6),(8,7),(9,8)],9⟩ ((p_b0.aZ.bn.length:Int))) fun o1=>
 .ret ⟨[.mvn 1,.mvn 2,.mvn 3,.mvn 4],[0],[(6,5),(7,6),(8,7),(9,8)],9⟩ (o1)
def asB(p_x:aG)(p_b0:aS):Option (Int):=Mo.den (asA p_x p_b0)
theorem Jh(p_x:aG)(p_b0:aS):FH (asB p_x p_b0) 84 [.ptr 0 0,.dat (aG.lf1 p_x)] [.box 87 (ag_ (aS.lf1 p_b0) [(8,.own 1),(10,.own 2),(11,.own 3),(12,.own 4)]),.row 54 82 (p_b0.aZ.bn.map aF.lf),.row 3 1 (p_b0.aZ.fNext.map lfI),.row 3 1 (p_b0.aZ.bg.map lfI),.row 65 9 (p_b0.dY.map aG.lf)] .i_ (fun _=>[.box 87 (ag_ (aS.lf1 p_b0) [(8,.own 5),(10,.own 6),(11,.own 7),(12,.own 8)]),.dead,.dead,.dead,.dead,.row 54 82 (p_b0.aZ.bn.map aF.lf),.row 3 1 (p_b0.aZ.fNext.map lfI),.row 3 1 (p_b0.aZ.bg.map lfI),.row 65 9 (p_b0.dY.map aG.lf)]):=ig Tryz.func84
theorem awk:NY (opsOf (Code.sub (bodyC Tryz.f48) [1,1,0,0])) [(true,0),(true,1),(true,2),(true,3),(true,4),(true,5),(true,6),(true,7),(true,8),(true,9),(false,10),(true,11),(true,12),(true,13),(true,14),(true,15),(true,16),(true,17),(true,18),(true,19),(true,21),(true,22),(false,20),(true,23),(true,24)] none=true:=by kernel_rfl
def ag8(p_b0:aS)(p_x:aG):Mo (Bool):=
 .say [] (ok1 awk)<|
 .ite (decide ((p_x.bP:Int)<0)) (fun c0=>
 .say [.sQ [(true,0),(true,1),(true,2),(true,3),(true,4),(true,5),(true,6),(true,7),(true,8),(true,9),(false,10),(true,11),(true,12),(true,13),(true,14),(true,15),(true,16),(true,17),(true,18),(true,19),(true,21),(true,22),(false,20),(true,23),(true,24)] none [],.gd 6003 true] (ok1 c0)<|
 .rt [0,3,5,33] 6 (true)) fun c0=>
 .say [] (okc c0 (ok1 (ln_ p_b0.aZ.bn aF.lf)))<|
 .ite (decide (((p_b0.aZ.bn.length:Int):Int)<p_x.bP)) (fun c1=>
 .say [.sQ [(true,0),(true,1),(true,2),(true,3),(true,4),(true,5),(true,6),(true,7),(true,8),(true,9),(false,10),(true,11),(true,12),(true,13),(true,14),(true,15),(true,16),(true,17),(true,18),(true,19),(true,21),(true,22),(false,20),(true,23),(true,24)] none [],.gd 6003 false,.num p_b0.aZ.bn.length,.gd 6013 true] (ok1 c1)<|
 .rt [0,3,5,33] 6 (true)) fun c1=>
 .say [.sQ [(true,0),(true,1),(true,2),(true,3),(true,4),(true,5),(true,6),(true,7),(true,8),(true,9),(false,10),(true,11),(true,12),(true,13),(true,14),(true,15),(true,16),(true,17),(true,18),(true,19),(true,21),(true,22),(false,20),(true,23),(true,24)] none [1],.gd 6003 false,.num p_b0.aZ.bn.length,.gd 6013 false] (ok1 c1)<|
 .cH [1] (anY p_x.bP p_b0.aZ.bn) fun r0 _=>
 .rt [0,3,5,33] 6 (r0 != p_x.wO)
def asC(p_x:aG)(p_b0:aS):Mo (Bool):=
 .jk Tryz.f48 5 [1,1,0,0] 11 (fun r_=>⟨[(0,.ptr 0 0),(3,.ptr 5 0),(5,.ptr 0 0),(33,.b_ r_)],[.box 87 (ag_ (aS.lf1 p_b0) [(8,.own 1),(10,.own 2),(11,.own 3),(12,.own 4)]),.row 54 82 (p_b0.aZ.bn.map aF.lf),.row 3 1 (p_b0.aZ.fNext.map lfI),.row 3 1 (p_b0.aZ.bg.map lfI),.row 65 9 (p_b0.dY.map aG.lf),fG p_x]⟩) ⟨[(0,.ptr 0 0),(3,.ptr 5 0),(5,.ptr 0 0)],[.box 87 (ag_ (aS.lf1 p_b0) [(8,.own 1),(10,.own 2),(11,.own 3),(12,.own 4)]),.row 54 82 (p_b0.aZ.bn.map aF.lf),.row 3 1 (p_b0.aZ.fNext.map lfI),.row 3 1 (p_b0.aZ.bg.map lfI),.row 65 9 (p_b0.dY.map aG.lf),fG p_x]⟩ (ag8 p_b0 p_x) fun r0=>
 .iB (r0) (.ret ⟨[.kill 5,.mvn 1,.mvn 2,.mvn 3,.mvn 4],[0],[(6,5),(7,6),(8,7),(9,8)],9⟩ (true))<|
 .ask (asB p_x p_b0) fun r1 h0=>
 .say [] (ok1 (Jh _ _ _ h0))<|
 .ite (decide ((r1:Int)<p_b0.aZ.aJ)) (fun c0=>
 .say [.gY (.q 0 (.q 1 (.q 3 (.q 4 (.q 5 (.alt 2 (.l 6 (.q 7 (.q 8 (.q 9 (.q 11 (.alt 10 (.l 12 (.q 13 (.q 14 (.q 15 (.q 16 (.q 17 .fin)))))) (.l 12 (.q 13 (.l 10 (.q 14 (.q 15 (.q 16 (.q 17 .fin))))))))))))) (.l 6 (.l 2 (.q 7 (.q 8 (.q 9 (.q 11 (.alt 10 (.l 12 (.q 13 (.q 14 (.q 15 (.q 16 (.q 17 .fin)))))) (.l 12 (.q 13 (.l 10 (.q 14 (.q 15 (.q 16 (.q 17 .fin)))))))))))))))))))) none [0,1,2,3,4] [.both [.jA [0,1,2,3,4] (.i_ r1) [.box 87 (ag_ (aS.lf1 p_b0) [(8,.own 5),(10,.own 6),(11,.own 7),(12,.own 8)]),.dead,.dead,.dead,.dead,.row 54 82 (p_b0.aZ.bn.map aF.lf),.row 3 1 (p_b0.aZ.fNext.map lfI),.row 3 1 (p_b0.aZ.bg.map lfI),.row 65 9 (p_b0.dY.map aG.lf)],.gd 10008 true,.both [] []] [.jA [0,1,2,3,4] (.i_ r1) [.box 87 (ag_ (aS.lf1 p_b0) [(8,.own 5),(10,.own 6),(11,.own 7),(12,.own 8)]),.dead,.dead,.dead,.dead,.row 54 82 (p_b0.aZ.bn.map aF.lf),.row 3 1 (p_b0.aZ.fNext.map lfI),.row 3 1 (p_b0.aZ.bg.map lfI),.row 65 9 (p_b0.dY.map aG.lf)],.gd 10008 true,.both [] []]] [4] 10 [(4,.b_ true)] [.box 87 (ag_ (aS.lf1 p_b0) [(8,.own 6),(10,.own 7),(11,.own 8),(12,.own 9)]),.dead,.dead,.dead,.dead,fG p_x,.row 54 82 (p_b0.aZ.bn.map aF.lf),.row 3 1 (p_b0.aZ.fNext.map lfI),.row 3 1 (p_b0.aZ.bg.map lfI),.row 65 9 (p_b0.dY.map aG.lf)]] (okc c0 (okc (rf_ ⟨[(4,.b_ true)],[.box 87 (ag_ (aS.lf1 p_b0) [(8,.own 6),(10,.own 7),(11,.own 8),(12,.own 9)]),.dead,.dead,.dead,.dead,fG p_x,.row 54 82 (p_b0.aZ.bn.map aF.lf),.row 3 1 (p_b0.aZ.fNext.map lfI),.row 3 1 (p_b0.aZ.bg.map lfI),.row 65 9 (p_b0.dY.map aG.lf)]⟩) (okc (rf_ ⟨[(4,.b_ true)],[.box 87 (ag_ (aS.lf1 p_b0) [(8,.own 6),(10,.own 7),(11,.own 8),(12,.own 9)]),.dead,.dead,.dead,.dead,fG p_x,.row 54 82 (p_b0.aZ.bn.map aF.lf),.row 3 1 (p_b0.aZ.fNext.map lfI),.row 3 1 (p_b0.aZ.bg.map lfI),.row 65 9 (p_b0.dY.map aG.lf)]⟩) (okc (Jh _ _ _ h0) (okc c0 (okc (rf_ ⟨[(4,.b_ true)],[.box 87 (ag_ (aS.lf1 p_b0) [(8,.own 6),(10,.own 7),(11,.own 8),(12,.own 9)]),.dead,.dead,.dead,.dead,fG p_x,.row 54 82 (p_b0.aZ.bn.map aF.lf),.row 3 1 (p_b0.aZ.fNext.map lfI),.row 3 1 (p_b0.aZ.bg.map lfI),.row 65 9 (p_b0.dY.map aG.lf)]⟩) (ok1 (rf_ ⟨[(4,.b_ true)],[.box 87 (ag_ (aS.lf1 p_b0) [(8,.own 6),(10,.own 7),(11,.own 8),(12,.own 9)]),.dead,.dead,.dead,.dead,fG p_x,.row 54 82 (p_b0.aZ.bn.map aF.lf),.row 3 1 (p_b0.aZ.fNext.map lfI),.row 3 1 (p_b0.aZ.bg.map lfI),.row 65 9 (p_b0.dY.map aG.lf)]⟩))))))))<|
 .ret ⟨[.kill 5,.mvn 6,.mvn 7,.mvn 8,.mvn 9],[0],[(10,5),(11,6),(12,7),(13,8)],9⟩ (true)) fun c0=>
 .say [.gY (.q 0 (.q 1 (.q 3 (.q 4 (.q 5 (.alt 2 (.l 6 (.q 7 (.q 8 (.q 9 (.q 11 (.alt 10 (.l 12 (.q 13 (.q 14 (.q 15 (.q 16 (.q 17 .fin)))))) (.l 12 (.q 13 (.l 10 (.q 14 (.q 15 (.q 16 (.q 17 .fin))))))))))))) (.l 6 (.l 2 (.q 7 (.q 8 (.q 9 (.q 11 (.alt 10 (.l 12 (.q 13 (.q 14 (.q 15 (.q 16 (.q 17 .fin)))))) (.l 12 (.q 13 (.l 10 (.q 14 (.q 15 (.q 16 (.q 17 .fin)))))))))))))))))))) none [0,1,2,3,4] [.both [.jA [0,1,2,3,4] (.i_ r1) [.box 87 (ag_ (aS.lf1 p_b0) [(8,.own 5),(10,.own 6),(11,.own 7),(12,.own 8)]),.dead,.dead,.dead,.dead,.row 54 82 (p_b0.aZ.bn.map aF.lf),.row 3 1 (p_b0.aZ.fNext.map lfI),.row 3 1 (p_b0.aZ.bg.map lfI),.row 65 9 (p_b0.dY.map aG.lf)],.gd 10008 false,.both [.num p_x.bY.length] [.num p_x.bY.length]] [.jA [0,1,2,3,4] (.i_ r1) [.box 87 (ag_ (aS.lf1 p_b0) [(8,.own 5),(10,.own 6),(11,.own 7),(12,.own 8)]),.dead,.dead,.dead,.dead,.row 54 82 (p_b0.aZ.bn.map aF.lf),.row 3 1 (p_b0.aZ.fNext.map lfI),.row 3 1 (p_b0.aZ.bg.map lfI),.row 65 9 (p_b0.dY.map aG.lf)],.gd 10008 false,.both [.num p_x.bY.length] [.num p_x.bY.length]]] [4] 10 [(4,.lf (.bool (decide ((16384:Int)<(IntKind.wrap .i64 (p_x.bP+(p_x.bY.length:Int)))))))] [.box 87 (ag_ (aS.lf1 p_b0) [(8,.own 6),(10,.own 7),(11,.own 8),(12,.own 9)]),.dead,.dead,.dead,.dead,fG p_x,.row 54 82 (p_b0.aZ.bn.map aF.lf),.row 3 1 (p_b0.aZ.fNext.map lfI),.row 3 1 (p_b0.aZ.bg.map lfI),.row 65 9 (p_b0.dY.map aG.lf)]] (okc c0 (okc (ln_ p_x.bY aF.lf) (okc (rf_ ⟨[(4,.lf (.bool (decide ((16384:Int)<(IntKind.wrap .i64 (p_x.bP+(p_x.bY.length:Int)))))))],[.box 87 (ag_ (aS.lf1 p_b0) [(8,.own 6),(10,.own 7),(11,.own 8),(12,.own 9)]),.dead,.dead,.dead,.dead,fG p_x,.row 54 82 (p_b0.aZ.bn.map aF.lf),.row 3 1 (p_b0.aZ.fNext.map lfI),.row 3 1 (p_b0.aZ.bg.map lfI),.row 65 9 (p_b0.dY.map aG.lf)]⟩) (okc (ln_ p_x.bY aF.lf) (okc (rf_ ⟨[(4,.lf (.bool (decide ((16384:Int)<(IntKind.wrap .i64 (p_x.bP+(p_x.bY.length:Int)))))))],[.box 87 (ag_ (aS.lf1 p_b0) [(8,.own 6),(10,.own 7),(11,.own 8),(12,.own 9)]),.dead,.dead,.dead,.dead,fG p_x,.row 54 82 (p_b0.aZ.bn.map aF.lf),.row 3 1 (p_b0.aZ.fNext.map lfI),.row 3 1 (p_b0.aZ.bg.map lfI),.row 65 9 (p_b0.dY.map aG.lf)]⟩) (okc (Jh _ _ _ h0) (okc c0 (okc (ln_ p_x.bY aF.lf) (okc (rf_ ⟨[(4,.lf (.bool (decide ((16384:Int)<(IntKind.wrap .i64 (p_x.bP+(p_x.bY.length:Int)))))))],[.box 87 (ag_ (aS.lf1 p_b0) [(8,.own 6),(10,.own 7),(11,.own 8),(12,.own 9)]),.dead,.dead,.dead,.dead,fG p_x,.row 54 82 (p_b0.aZ.bn.map aF.lf),.row 3 1 (p_b0.aZ.fNext.map lfI),.row 3 1 (p_b0.aZ.bg.map lfI),.row 65 9 (p_b0.dY.map aG.lf)]⟩) (okc (ln_ p_x.bY aF.lf) (ok1 (rf_ ⟨[(4,.lf (.bool (decide ((16384:Int)<(IntKind.wrap .i64 (p_x.bP+(p_x.bY.length:Int)))))))],[.box 87 (ag_ (aS.lf1 p_b0) [(8,.own 6),(10,.own 7),(11,.own 8),(12,.own 9)]),.dead,.dead,.dead,.dead,fG p_x,.row 54 82 (p_b0.aZ.bn.map aF.lf),.row 3 1 (p_b0.aZ.fNext.map lfI),.row 3 1 (p_b0.aZ.bg.map lfI),.row 65 9 (p_b0.dY.map aG.lf)]⟩))))))))))))<|
 .ret ⟨[.kill 5,.mvn 6,.mvn 7,.mvn 8,.mvn 9],[0],[(10,5),(11,6),(12,7),(13,8)],9⟩ (decide ((16384:Int)<(IntKind.wrap .i64 (p_x.bP+(p_x.bY.length:Int)))))
def awl(p_x:aG)(p_b0:aS):Option (Bool):=Mo.den (asC p_x p_b0)
theorem an0(p_x:aG)(p_b0:aS):FH (awl p_x p_b0) 48 [.ptr 0 0,.dat (aG.lf1 p_x)] [.box 87 (ag_ (aS.lf1 p_b0) [(8,.own 1),(10,.own 2),(11,.own 3),(12,.own 4)]),.row 54 82 (p_b0.aZ.bn.map aF.lf),.row 3 1 (p_b0.aZ.fNext.map lfI),.row 3 1 (p_b0.aZ.bg.map lfI),.row 65 9 (p_b0.dY.map aG.lf)] .b_ (fun _=>[.box 87 (ag_ (aS.lf1 p_b0) [(8,.own 5),(10,.own 6),(11,.own 7),(12,.own 8)]),.dead,.dead,.dead,.dead,.row 54 82 (p_b0.aZ.bn.map aF.lf),.row 3 1 (p_b0.aZ.fNext.map lfI),.row 3 1 (p_b0.aZ.bg.map lfI),.row 65 9 (p_b0.dY.map aG.lf)]):=ig Tryz.func48
end
end Go.Proofs.YtbdcaeahocbkbaaGreatDoor
