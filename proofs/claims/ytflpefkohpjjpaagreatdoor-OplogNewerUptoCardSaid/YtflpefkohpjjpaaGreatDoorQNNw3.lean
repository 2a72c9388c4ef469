/- Printed by dec.py. -/
import Derived.Test.YtflpefkohpjjpaaGreatDoorQNNw2
set_option linter.unusedSimpArgs false
set_option linter.unusedVariables false
namespace Go.Proofs.YtflpefkohpjjpaaGreatDoor
open Go.RowKit
set_option maxRecDepth 20000
set_option maxHeartbeats 4000000
noncomputable section
abbrev Qg(m:ay→Int→Int→Option (Int×Int)):Prop:=∀p_s p_level p_b0,FH (m p_s p_level p_b0) 182 [.dat (ay.lf1 p_s),.i_ p_level,.ptr 0 0] [.box 3 (.dat [(.int .i64 p_b0)])] (fun r=>.i_ r.1) (fun r=>[.box 3 (.dat [(.int .i64 r.2)])])
structure Y0 where
 m1:(p_s:ay)→(p_level:Int)→(p_b0:Int)→Option (Int×Int)
 ok1:Qg m1
abbrev Ci(m:au→Int→Int→Option (Int)):Prop:=∀p_w p_least p_greatest,FV (m p_w p_least p_greatest) 30 [.dat (au.lf1 p_w),.i_ p_least,.i_ p_greatest] .i_
structure RB1 where
 m1:(p_w:au)→(p_least:Int)→(p_greatest:Int)→Option (Int)
 ok1:Ci m1
def Qh(R_:RB1)(p_greatest:Int)(p_least:Int)(p_w:au)(r0:aF):Mo (Bool):=
 .iG 6004 (decide ((p_w.aB:Int)<p_least)) (.stop)<|
 .rt [2,3,7,24] 2 (decide ((p_greatest:Int)<p_w.aB))
def Qi(R_:RB1)(p_greatest:Int)(p_w:au)(r0:aF)(r1:Bool):Mo (Bool):=
 .iG 6010 (r1) (.stop)<|
 .cl (UZ p_w) fun r2 _=>
 .rt [2,3,7,29] 2 (!r2)
def Lh(R_:RB1)(p_greatest:Int)(p_w:au)(r0:aF)(r1:Bool):Mo (Bool):=
 .iG 6015 (r1) (.stop)<|
 .iG 6018 (r0.kS) (.stop)<|
 .rt [2,3,7,39] 2 (false)
def Lj(R_:RB1)(p_greatest:Int)(p_w:au)(r0:aF):Mo (Bool):=
 .iG 14002 (r0.o9) (.cl (Xc p_w.fG) fun r1 _=>
 .rt [2,3,7,51] 2 (!r1))<|
 .rt [2,3,7,51] 2 (false)
def Ll(R_:RB1)(p_greatest:Int)(p_w:au)(r0:aF)(r1:Bool):Mo (Bool):=
 .iG 14008 (r1) (.stop)<|
 .iG 14011 (r0.Bh) (.stop)<|
 .rt [2,3,7,61] 2 (false)
def Lm(R_:RB1)(p_greatest:Int)(p_w:au)(r0:aF)(r1:Bool):Mo (Bool):=
 .iG 14018 (r1) (.stop)<|
 .iG 14021 (r0.iP) (.stop)<|
 .rt [2,3,7,72] 2 (false)
def Lp(R_:RB1)(p_greatest:Int)(p_w:au)(r0:aF):Mo (Bool):=
 .iG 18002 (r0.nG) (.stop)<|
 .rt [2,3,7,79] 2 (false)
def Lr(R_:RB1)(p_greatest:Int)(p_w:au)(r0:aF)(r1:Bool):Mo (Bool):=
 .iG 18007 (r1) (.stop)<|
 .iG 18010 (r0.kT) (.stop)<|
 .rt [2,3,7,89] 2 (false)
def Ls(R_:RB1)(p_greatest:Int)(p_w:au)(r0:aF):Mo ((Int)⊕Unit):=
 .iB (r0.Bg) (.cl (Qe p_w) fun r1 _=>
 .iB (r1 != 0) (.ret ⟨[.kill 0],[6],[],2⟩ (.inl (r1)))<|
 .rt [2,3] 2 (.inr (())))<|
 .rt [2,3] 2 (.inr (()))
def Ad(R_:RB1)(p_greatest:Int)(p_w:au):Mo ((Int)⊕(Int)):=
 .iB (p_w.aB==4) (.stop)<|
 .iB (p_w.aB==6) (.stop)<|
 .iB (p_w.aB==8) (.stop)<|
 .iB (p_w.aB==9) (.stop)<|
 .rt [2,3] 2 (.inr (p_greatest))
def Lu(R_:RB1)(p_greatest:Int)(p_w:au):Option ((Int)⊕(Int)):=Mo.den (Ad R_ p_greatest p_w)
def tC(r_:(Int)⊕(Int)):Exit:=match r_ with
 |.inl o_=>.ret
 |.inr (o_)=>.normal
def tH(p_w:au)(r_:(Int)⊕(Int)):St:=match r_ with
 |.inl o_=>⟨[(6,.i_ o_)],[.dead,.dead]⟩
 |.inr (o_)=>⟨[(2,.i_ o_),(3,.ptr 0 0)],[cZ p_w,.dead]⟩
theorem LC{R_:RB1}{p_greatest:Int}{p_w:au}{r_:(Int)⊕(Int)}(h:Lu R_ p_greatest p_w=some r_):pG Tryz.f30 0 [1,1,1,1,1,1,1,0,1] (tC r_) (tH p_w r_) ⟨[(2,.i_ p_greatest),(3,.ptr 0 0),(98,.i_ p_w.aB)],[cZ p_w,.dead]⟩:=
 wC jw (Ad R_ p_greatest p_w) tC (tH p_w) (by kernel_rfl) h
def Ae(R_:RB1)(o0:Int)(p_w:au):(Int)→Mo ((Int)⊕(Int)⊕Unit):=fun(v0)=>
 .iB (decide ((v0:Int)<(p_w.dD.length:Int))) (.stop)<|
 .rt [] 2 (.inr (.inr (())))
def LD(R_:RB1)(o0:Int)(p_w:au)(v0:Int):Option ((Int)⊕Unit):=jH (fun v_=>(Ae R_ o0 p_w v_).den) FU (v0)
def Af(R_:RB1)(o0:Int)(p_w:au):(Int)→St:=fun(v0)=>⟨[(2,.i_ o0),(114,.lf (.rows 78 (p_w.dD.map au.lf))),(115,.i_ (p_w.dD.length:Int)),(116,.i_ v0)],[.dead,.dead]⟩
def tJ(r_:(Int)⊕Unit):Exit:=match r_ with
 |.inl o_=>.ret
 |.inr (o_)=>.exit 1
def oM  (r_:(Int)⊕Unit):St:=match r_ with
 |.inl o_=>⟨[(6,.i_ o_)],[.dead,.dead]⟩
 |.inr (o_)=>⟨[],[.dead,.dead]⟩
theorem LG{R_:RB1}{o0:Int}{p_w:au}{v0:Int}{r_:(Int)⊕Unit}(h:LD R_ o0 p_w v0=some r_):pG Tryz.f30 0 [1,1,1,1,1,1,1,1,0,1,0] (tJ r_) (oM r_) (Af R_ o0 p_w (v0)):=
 kU jw (body:=(Code.sub (bodyC Tryz.f30) [1,1,1,1,1,1,1,1,0,1,0,0])) (by kernel_rfl) (Ae R_ o0 p_w) (Af R_ o0 p_w) tJ oM (fun r_=>by rcases r_ with _|_<;>rfl) (fun v_=>by kernel_rfl) h
def Xr(R_:RB1)(p_w:au)(p_least:Int)(p_greatest:Int):Mo (Int):=
 .cl (DC p_w.aB) fun r0 _=>
 .sk Tryz.f30 0 [1,1,0,0] 0 10 2 (fun r_=>⟨[(2,.i_ p_greatest),(3,.ptr 0 0),(7,.ptr 1 0),(24,.b_ r_)],[cZ p_w,.box 104 (.agg ((aF.lf1 r0).map AV.lf))]⟩) ⟨[(1,.i_ p_least),(2,.i_ p_greatest),(3,.ptr 0 0),(7,.ptr 1 0)],[cZ p_w,.box 104 (.agg ((aF.lf1 r0).map AV.lf))]⟩ (Qh R_ p_greatest p_least p_w r0) fun r1=>
 .sb Tryz.f30 0 [1,1,0,0] 10 5 2 [(2,.i_ p_greatest),(3,.ptr 0 0),(7,.ptr 1 0)] [cZ p_w,.box 104 (.agg ((aF.lf1 r0).map AV.lf))] 24 29 r1 (Qi R_ p_greatest p_w r0 r1) fun r2=>
 .sb Tryz.f30 0 [1,1,0,0] 15 10 2 [(2,.i_ p_greatest),(3,.ptr 0 0),(7,.ptr 1 0)] [cZ p_w,.box 104 (.agg ((aF.lf1 r0).map AV.lf))] 29 39 r2 (Lh R_ p_greatest p_w r0 r2) fun r3=>
 .iB (r3) (.stop)<|
 .nu p_w.dD au.lf<|
 .iB (decide ((256:Int)<(p_w.dD.length:Int))) (.stop)<|
 .sf Tryz.f30 0 [1,1,1,1,0,0] 0 8 6 [(2,.i_ p_greatest),(3,.ptr 0 0),(7,.ptr 1 0)] [cZ p_w,.box 104 (.agg ((aF.lf1 r0).map AV.lf))] 51 (Lj R_ p_greatest p_w r0) fun r4=>
 .sb Tryz.f30 0 [1,1,1,1,0,0] 8 10 6 [(2,.i_ p_greatest),(3,.ptr 0 0),(7,.ptr 1 0)] [cZ p_w,.box 104 (.agg ((aF.lf1 r0).map AV.lf))] 51 61 r4 (Ll R_ p_greatest p_w r0 r4) fun r5=>
 .sb Tryz.f30 0 [1,1,1,1,0,0] 18 11 6 [(2,.i_ p_greatest),(3,.ptr 0 0),(7,.ptr 1 0)] [cZ p_w,.box 104 (.agg ((aF.lf1 r0).map AV.lf))] 61 72 r5 (Lm R_ p_greatest p_w r0 r5) fun r6=>
 .iB (r6) (.stop)<|
 .sf Tryz.f30 0 [1,1,1,1,1,0,0] 0 7 8 [(2,.i_ p_greatest),(3,.ptr 0 0),(7,.ptr 1 0)] [cZ p_w,.box 104 (.agg ((aF.lf1 r0).map AV.lf))] 79 (Lp R_ p_greatest p_w r0) fun r7=>
 .sb Tryz.f30 0 [1,1,1,1,1,0,0] 7 10 8 [(2,.i_ p_greatest),(3,.ptr 0 0),(7,.ptr 1 0)] [cZ p_w,.box 104 (.agg ((aF.lf1 r0).map AV.lf))] 79 89 r7 (Lr R_ p_greatest p_w r0 r7) fun r8=>
 .iB (r8) (.stop)<|
 .j2 [.kill 1] Tryz.f30 0 [1,1,1,1,1,1,0,1] 1 .ret (fun o_=>⟨[(6,.i_ o_)],[.dead,.dead]⟩) .normal (fun _=>⟨[(2,.i_ p_greatest),(3,.ptr 0 0)],[cZ p_w,.dead]⟩) ⟨[(2,.i_ p_greatest),(3,.ptr 0 0),(91,.b_ r0.Bg)],[cZ p_w,.dead]⟩ (Ls R_ p_greatest p_w r0) (fun o0=>
 .ret (dK 1) (o0)) fun o1=>
 .ask2 (Lu R_ p_greatest p_w) (fun _ _=>
 .stop) fun o2 h0=>
 .say [.pt_ 6 [2,3,98] 2 (tC (.inr (o2))) (tH p_w (.inr (o2))),.num p_w.dD.length] (okc (LC h0) (ok1 (ln_ p_w.dD au.lf)))<|
 .ask2 (LD R_ o2 p_w 0) (fun _ _=>
 .stop) fun o3 h1=>
 .say [.part [.kill 0] 0 [2,114,115,116] 2 (tJ (.inr (o3))) (oM (.inr (o3))).T (oM (.inr (o3))).H] (ok1 (LG h1))<|
 .ret (dK 1) (0)
theorem Vj(R_:RB1):Ci fun p_w p_least p_greatest=>Mo.den (Xr R_ p_w p_least p_greatest):=fun _ _ _=>dS Tryz.func30
def DN:Nat→RB1
 |0=>{ m1:=fun p_w p_least p_greatest=>none,ok1:=fun _ _ _ _ h=>(by cases h) }
 |n_+1=>{ m1:=fun p_w p_least p_greatest=>Mo.den (Xr (DN n_) p_w p_least p_greatest),ok1:=Vj (DN n_) }
def Q0(p_w:au)(p_least:Int)(p_greatest:Int):Option (Int):=(DN FU).m1 p_w p_least p_greatest
theorem Xt:Ci Q0:=(DN FU).ok1
def LH(p_e:aZ):Mo (Bool):=
 .iG 8003 (decide ((p_e.dZ:Int)<1)) (.stop)<|
 .rt [1,13] 1 (decide ((1099511627776:Int)<p_e.dZ))
def LJ(p_e:aZ)(r0:Bool):Mo (Bool):=
 .iG 8008 (r0) (.stop)<|
 .rt [1,18] 1 (decide ((p_e.qW:Int)<0))
def GY(p_e:aZ):Mo (Bool):=
 .iG 12003 (!decide ((p_e.oD:ByteArray)=(⟨#[]⟩:ByteArray))) (.stop)<|
 .rt [1,27] 1 (false)
def Xu(p_e:aZ):Mo (Int):=
 .iB (decide ((p_e.qA:Int)<0)) (.ret (dK 1) (24))<|
 .sf Tryz.f11 0 [1,1,0,0] 0 8 3 [(1,.ptr 0 0)] [mX p_e] 13 (LH p_e) fun r0=>
 .sb Tryz.f11 0 [1,1,0,0] 8 5 3 [(1,.ptr 0 0)] [mX p_e] 13 18 r0 (LJ p_e r0) fun r1=>
 .iB (r1) (.stop)<|
 .jk Tryz.f11 0 [1,1,1,0,0] 17 (fun r_=>⟨[(1,.ptr 0 0),(27,.b_ r_)],[mX p_e]⟩) ⟨[(1,.ptr 0 0)],[mX p_e]⟩ (GY p_e) fun r2=>
 .iB (r2) (.stop)<|
 .cl (Xt p_e.o8 1 12) fun r3 _=>
 .ret (dK 1) (r3)
def Q56(p_e:aZ):Option (Int):=Mo.den (Xu p_e)
theorem wV(p_e:aZ):FV (Q56 p_e) 11 [.dat (aZ.lf1 p_e)] .i_:=dS Tryz.func11
def LK :(Int×(List Int))→Mo ((Int×(List Int))⊕(Int×(List Int))):=fun(v0,l0)=>
 .iB (decide ((128:Int)≤v0)) (.stop)<|
 .rt [0,5] 1 (.inr (v0,l0))
def Xv(p_n:Int):Mo (List Int):=
 .ask (Xo p_n) fun r0 h0=>
 .say [.res (.lf (.int .u64 r0))] (okc (wU _ _ h0) (ok1 (by simp[lfI,lfK]:(([]:List Int).map (lfK .u8))=[])))<|
 .l1y [.lg 0 5 1,.iR 0 (([]:List Int).map (lfK .u8))] Tryz.f131 0 [1,1,0,0] 0 (.exit 0) (fun(v0,l0)=>⟨[(0,.own 0),(5,.lf (.int .u64 v0))],[.row 5 1 (l0.map (lfK .u8))]⟩) (fun r_=>⟨[(0,.own 0),(5,.lf (.int .u64 r_.1))],[.row 5 1 (r_.2.map (lfK .u8))]⟩) (LK ) (r0,([]:List Int)) fun r1=>
 .say [.rows ((r1.2++[IntKind.wrap .u8 r1.1]).map (lfK .u8))] (ok1 (by simp[lfI,lfK]:(r1.2++[IntKind.wrap .u8 r1.1]).map (lfK .u8)=(r1.2.map (lfK .u8))++[((lfK .u8) (IntKind.wrap .u8 r1.1))]))<|
 .grd ((r1.2.length+[IntKind.wrap .u8 r1.1].length)*1≤140737488355328) fun h1=>
 .say [] (ok1 (by simpa using h1:((r1.2.map (lfK .u8)).length+[((lfK .u8) (IntKind.wrap .u8 r1.1))].length)*1≤140737488355328))<|
 .ret ⟨[.kill 1,.mvn 2],[0],[(3,0)],1⟩ (r1.2++[IntKind.wrap .u8 r1.1])
def Q87(p_n:Int):Option (List Int):=Mo.den (Xv p_n)
theorem Vk(p_n:Int):FH (Q87 p_n) 131 [.raw (.slice none 0 0),.i_ p_n] [] (fun _=>.own 0) (fun r=>[.row 5 1 (r.map (lfK .u8))]):=dA Tryz.func131
def Vl(p_n:Int):Mo (ByteArray):=
 .ask (Q87 p_n) fun r0 h0=>
 .say [.gU [] (.own 0) [.row 5 1 (r0.map (lfK .u8))],.nums r0] (okc (Vk _ _ h0) (ok1 (by simp[lfI,lfK]:(r0.map (lfK .u8))=r0.map fun n=>[Lf.int .u8 n])))<|
 .ret (dK 1) (strOfNums r0)
def Xw(p_n:Int):Option (ByteArray):=Mo.den (Vl p_n)
theorem DR(p_n:Int):FV (Xw p_n) 75 [.i_ p_n] (fun r=>.lf (.str r)):=dS Tryz.func75
def YJ(p_n:Int)(p_b0:ak):Mo (ak):=
 .ask (Xw p_n) fun r0 h0=>
 .say [.kJ (.q 0 (.q 1 (.q 2 (.q 3 (.q 5 (.alt 4 (.l 6 (.l 7 (.q 8 (.q 9 (.l 10 .fin))))) (.l 6 (.l 4 (.l 7 (.q 8 (.q 9 (.l 10 .fin)))))))))))) (some 10) [1,2] [.both [.at_ 2 4,.resv 1,.res (.lf (.str r0)),.rows ((p_b0.aO++(numsOf (r0:ByteArray))).map (lfK .u8)),.slot 2] [.at_ 2 6,.resv 1,.res (.lf (.str r0)),.rows ((p_b0.aO++(numsOf (r0:ByteArray))).map (lfK .u8)),.slot 2]] [] 3 [] [.box 75 (.agg [.own 2,.b_ p_b0.bK]),.dead,.row 5 1 ((p_b0.aO++(numsOf (r0:ByteArray))).map (lfK .u8))]] (okc (DR _ _ h0) (ok1 (by first|(rw[List.map_append,eX];done)|(rw[eX,List.nil_append];done)|simp[lfI,lfK,eX]:(p_b0.aO++(numsOf (r0:ByteArray))).map (lfK .u8)=(p_b0.aO.map (lfK .u8))++mO (r0:ByteArray))))<|
 .grd (p_b0.aO.length+(r0:ByteArray).size≤140737488355328) fun h1=>
 .say [] (okc (by simpa using h1:(p_b0.aO.map (lfK .u8)).length+(r0:ByteArray).size≤140737488355328) (okc (rf_ ⟨[],[.box 75 (.agg [.own 2,.b_ p_b0.bK]),.dead,.row 5 1 ((p_b0.aO++(numsOf (r0:ByteArray))).map (lfK .u8))]⟩) (okc (DR _ _ h0) (okc (by first|(rw[List.map_append,eX];done)|(rw[eX,List.nil_append];done)|simp[lfI,lfK,eX]:(p_b0.aO++(numsOf (r0:ByteArray))).map (lfK .u8)=(p_b0.aO.map (lfK .u8))++mO (r0:ByteArray)) (okc (by simpa using h1:(p_b0.aO.map (lfK .u8)).length+(r0:ByteArray).size≤140737488355328) (ok1 (rf_ ⟨[],[.box 75 (.agg [.own 2,.b_ p_b0.bK]),.dead,.row 5 1 ((p_b0.aO++(numsOf (r0:ByteArray))).map (lfK .u8))]⟩)))))))<|
 .ret ⟨[.mvn 2],[],[(3,2)],3⟩ (ak.mk (p_b0.aO++(numsOf (r0:ByteArray))) p_b0.bK)
def Q2(p_n:Int)(p_b0:ak):Option (ak):=Mo.den (YJ p_n p_b0)
theorem fA(p_n:Int)(p_b0:ak):FH (Q2 p_n p_b0) 34 [.ptr 0 0,.i_ p_n] [.box 75 (.agg [.own 1,.b_ p_b0.bK]),.row 5 1 (p_b0.aO.map (lfK .u8))] (fun _=>.tup []) (fun r=>[.box 75 (.agg [.own 2,.b_ r.bK]),.dead,.row 5 1 (r.aO.map (lfK .u8))]):=dA Tryz.func34
def Xx(p_s:ByteArray)(p_b0:ak):Mo (ak):=
 .ask (Q2 (p_s.size:Int) p_b0) fun r0 h0=>
 .say [.gU [0,1] (.tup []) [.box 75 (.agg [.own 2,.b_ r0.bK]),.dead,.row 5 1 (r0.aO.map (lfK .u8))],.rows ((r0.aO++(numsOf (p_s:ByteArray))).map (lfK .u8))] (okc (fA _ _ _ h0) (ok1 (by first|(rw[List.map_append,eX];done)|(rw[eX,List.nil_append];done)|simp[lfI,lfK,eX]:(r0.aO++(numsOf (p_s:ByteArray))).map (lfK .u8)=(r0.aO.map (lfK .u8))++mO (p_s:ByteArray))))<|
 .grd (r0.aO.length+(p_s:ByteArray).size≤140737488355328) fun h1=>
 .say [] (ok1 (by simpa using h1:(r0.aO.map (lfK .u8)).length+(p_s:ByteArray).size≤140737488355328))<|
 .ret ⟨[.mvn 3],[],[(4,2)],3⟩ (ak.mk (r0.aO++(numsOf (p_s:ByteArray))) r0.bK)
def Q54(p_s:ByteArray)(p_b0:ak):Option (ak):=Mo.den (Xx p_s p_b0)
theorem nK(p_s:ByteArray)(p_b0:ak):FH (Q54 p_s p_b0) 35 [.ptr 0 0,.lf (.str p_s)] [.box 75 (.agg [.own 1,.b_ p_b0.bK]),.row 5 1 (p_b0.aO.map (lfK .u8))] (fun _=>.tup []) (fun r=>[.box 75 (.agg [.own 2,.b_ r.bK]),.dead,.row 5 1 (r.aO.map (lfK .u8))]):=dA Tryz.func35
def Xy(p_b:Bool)(p_b0:ak):Mo (ak):=
 .iB (p_b) (.say [.rows ((p_b0.aO++[(1:Int)]).map (lfK .u8))] (ok1 (by simp[lfI,lfK]:(p_b0.aO++[(1:Int)]).map (lfK .u8)=(p_b0.aO.map (lfK .u8))++[((lfK .u8) (1:Int))]))<|
 .grd ((p_b0.aO.length+[(1:Int)].length)*1≤140737488355328) fun h0=>
 .say [] (ok1 (by simpa using h0:((p_b0.aO.map (lfK .u8)).length+[((lfK .u8) (1:Int))].length)*1≤140737488355328))<|
 .ret ⟨[.kill 2,.mvn 3],[],[(4,2)],3⟩ (ak.mk (p_b0.aO++[(1:Int)]) p_b0.bK))<|
 .say [.rows ((p_b0.aO++[(0:Int)]).map (lfK .u8))] (ok1 (by simp[lfI,lfK]:(p_b0.aO++[(0:Int)]).map (lfK .u8)=(p_b0.aO.map (lfK .u8))++[((lfK .u8) (0:Int))]))<|
 .grd ((p_b0.aO.length+[(0:Int)].length)*1≤140737488355328) fun h1=>
 .say [] (ok1 (by simpa using h1:((p_b0.aO.map (lfK .u8)).length+[((lfK .u8) (0:Int))].length)*1≤140737488355328))<|
 .ret ⟨[.kill 2,.mvn 3],[],[(4,2)],3⟩ (ak.mk (p_b0.aO++[(0:Int)]) p_b0.bK)
def Q32(p_b:Bool)(p_b0:ak):Option (ak):=Mo.den (Xy p_b p_b0)
theorem jX(p_b:Bool)(p_b0:ak):FH (Q32 p_b p_b0) 82 [.ptr 0 0,.b_ p_b] [.box 75 (.agg [.own 1,.b_ p_b0.bK]),.row 5 1 (p_b0.aO.map (lfK .u8))] (fun _=>.tup []) (fun r=>[.box 75 (.agg [.own 2,.b_ r.bK]),.dead,.row 5 1 (r.aO.map (lfK .u8))]):=dA Tryz.func82
def LM :(Int×(List Int))→Mo ((Int×(List Int))⊕(Int×(List Int))):=fun(v0,l0)=>
 .iB (decide ((128:Int)≤v0)) (.stop)<|
 .rt [0,5] 2 (.inr (v0,l0))
def Xz(p_n:Int)(p_s0:List Int):Mo (List Int):=
 .cl (wU p_n) fun r0 _=>
 .l1y [.mvn 0] Tryz.f131 1 [1,1,0,0] 0 (.exit 0) (fun(v0,l0)=>⟨[(0,.own 1),(5,.lf (.int .u64 v0))],[.dead,.row 5 1 (l0.map (lfK .u8))]⟩) (fun r_=>⟨[(0,.own 1),(5,.lf (.int .u64 r_.1))],[.dead,.row 5 1 (r_.2.map (lfK .u8))]⟩) (LM ) (r0,p_s0) fun r1=>
 .say [.rows ((r1.2++[IntKind.wrap .u8 r1.1]).map (lfK .u8))] (ok1 (by simp[lfI,lfK]:(r1.2++[IntKind.wrap .u8 r1.1]).map (lfK .u8)=(r1.2.map (lfK .u8))++[((lfK .u8) (IntKind.wrap .u8 r1.1))]))<|
 .grd ((r1.2.length+[IntKind.wrap .u8 r1.1].length)*1≤140737488355328) fun h0=>
 .say [] (ok1 (by simpa using h0:((r1.2.map (lfK .u8)).length+[((lfK .u8) (IntKind.wrap .u8 r1.1))].length)*1≤140737488355328))<|
 .ret ⟨[.kill 2,.mvn 3],[0],[(4,1)],2⟩ (r1.2++[IntKind.wrap .u8 r1.1])
def Q50(p_n:Int)(p_s0:List Int):Option (List Int):=Mo.den (Xz p_n p_s0)
theorem wW(p_n:Int)(p_s0:List Int):FH (Q50 p_n p_s0) 131 [.own 0,.i_ p_n] [.row 5 1 (p_s0.map (lfK .u8))] (fun _=>.own 1) (fun r=>[.dead,.row 5 1 (r.map (lfK .u8))]):=dA Tryz.func131
def Vm(p_s:ByteArray)(p_s0:List Int):Mo (List Int):=
 .ask (Q50 (p_s.size:Int) p_s0) fun r0 h0=>
 .say [.gU [0] (.own 1) [.dead,.row 5 1 (r0.map (lfK .u8))],.rows ((r0++(numsOf (p_s:ByteArray))).map (lfK .u8))] (okc (wW _ _ _ h0) (ok1 (by first|(rw[List.map_append,eX];done)|(rw[eX,List.nil_append];done)|simp[lfI,lfK,eX]:(r0++(numsOf (p_s:ByteArray))).map (lfK .u8)=(r0.map (lfK .u8))++mO (p_s:ByteArray))))<|
 .grd (r0.length+(p_s:ByteArray).size≤140737488355328) fun h1=>
 .say [] (ok1 (by simpa using h1:(r0.map (lfK .u8)).length+(p_s:ByteArray).size≤140737488355328))<|
 .ret ⟨[.mvn 2],[0],[(3,1)],2⟩ (r0++(numsOf (p_s:ByteArray)))
def XA(p_s:ByteArray)(p_s0:List Int):Option (List Int):=Mo.den (Vm p_s p_s0)
theorem Qj(p_s:ByteArray)(p_s0:List Int):FH (XA p_s p_s0) 278 [.own 0,.lf (.str p_s)] [.row 5 1 (p_s0.map (lfK .u8))] (fun _=>.own 1) (fun r=>[.dead,.row 5 1 (r.map (lfK .u8))]):=dA Tryz.func278
abbrev wX(m:aj→Option (List Int)):Prop:=∀p_v,FH (m p_v) 206 [.raw (.slice none 0 0),.dat (aj.lf1 p_v)] [] (fun _=>.own 0) (fun r=>[.row 5 1 (r.map (lfK .u8))])
abbrev DT(m:aj→(List Int)→Option (List Int)):Prop:=∀p_v p_s0,FH (m p_v p_s0) 206 [.own 0,.dat (aj.lf1 p_v)] [.row 5 1 (p_s0.map (lfK .u8))] (fun _=>.own 1) (fun r=>[.dead,.row 5 1 (r.map (lfK .u8))])
structure tK where
 m1:(p_v:aj)→Option (List Int)
 ok1:wX m1
 m2:(p_v:aj)→(p_s0:List Int)→Option (List Int)
 ok2:DT m2
def LP(R_:tK)(p_v:aj):Mo (Bool):=
 .iB (p_v.aB==3) (.rt [0,3,16,17] 3 (p_v.aB==3))<|
 .rt [0,3,16,17] 3 (p_v.aB==10)
def LQ(R_:tK)(p_v:aj):Mo (Bool):=
 .iB (p_v.aB==4) (.stop)<|
 .rt [0,3,16,32] 3 (p_v.aB==7)
def GZ(R_:tK)(p_v:aj):(Int×(List Int))→Mo ((Int×(List Int))⊕((List Int))):=fun(v0,l0)=>
 .iB (decide ((v0:Int)<(p_v.bF.length:Int))) (.gx aA.dw p_v.bF v0 fun x0 _=>
 .ask (XA x0.fName l0) fun r0 h0=>
 .say [] (ok1 (Qj _ _ _ h0))<|
 .ask (R_.m2 x0.fValue r0) fun r1 h1=>
 .say [.kJ (.q 0 (.q 1 (.q 2 (.q 4 (.q 5 (.l 3 (.l 6 (.q 7 .fin)))))))) (some 6) [3] [.gU [3] (.own 1) [.dead,.row 5 1 (r0.map (lfK .u8))],.at_ 52 6,.tod 82,.gU [5] (.own 1) [.dead,.row 5 1 (r1.map (lfK .u8))]] [0,71,72,73] 7 [(0,.own 6),(71,.lf (.rows 6 (p_v.bF.map aA.lf))),(72,.i_ (p_v.bF.length:Int)),(73,.i_ v0)] [.dead,.dead,.dead,.dead,.box 115 (.agg ((aA.lf1 x0).map AV.lf)),.dead,.row 5 1 (r1.map (lfK .u8))]] (okc (R_.ok2 _ _ _ h1) (ok1 (rf_ ⟨[(0,.own 6),(71,.lf (.rows 6 (p_v.bF.map aA.lf))),(72,.i_ (p_v.bF.length:Int)),(73,.i_ v0)],[.dead,.dead,.dead,.dead,.box 115 (.agg ((aA.lf1 x0).map AV.lf)),.dead,.row 5 1 (r1.map (lfK .u8))]⟩)))<|
 .ret ⟨[],[0,71,72,73],[(6,3)],4⟩ (.inl (IntKind.wrap .i64 (v0+1),r1)))<|
 .rt [0] 4 (.inr (l0))
def G5(R_:tK)(p_v:aj):Mo (((List Int))):=
 .jk Tryz.f206 0 [1,1,0,1,0,0,1] 1 (fun r_=>⟨[(0,.own 2),(3,.ptr 0 0),(16,.i_ p_v.aB),(17,.b_ r_)],[bV p_v,.dead,.row 5 1 ([IntKind.wrap .u8 p_v.aB].map (lfK .u8))]⟩) ⟨[(0,.own 2),(3,.ptr 0 0),(16,.i_ p_v.aB),(17,.lf (.bool (p_v.aB==3)))],[bV p_v,.dead,.row 5 1 ([IntKind.wrap .u8 p_v.aB].map (lfK .u8))]⟩ (LP R_ p_v) fun r0=>
 .iB (r0) (.cH [2] (wW p_v.dY [IntKind.wrap .u8 p_v.aB]) fun r1 _=>
 .ret ⟨[.kill 0],[0],[(3,2)],3⟩ (r1))<|
 .iB (p_v.aB==9) (.stop)<|
 .jk Tryz.f206 0 [1,1,0,1,0,1,1,1,1,0,1] 1 (fun r_=>⟨[(0,.own 2),(3,.ptr 0 0),(16,.i_ p_v.aB),(32,.b_ r_)],[bV p_v,.dead,.row 5 1 ([IntKind.wrap .u8 p_v.aB].map (lfK .u8))]⟩) ⟨[(0,.own 2),(3,.ptr 0 0),(16,.i_ p_v.aB),(32,.lf (.bool (p_v.aB==4)))],[bV p_v,.dead,.row 5 1 ([IntKind.wrap .u8 p_v.aB].map (lfK .u8))]⟩ (LQ R_ p_v) fun r2=>
 .iB (r2) (.stop)<|
 .iB (p_v.aB==8) (.stop)<|
 .iB (p_v.aB==6) (.stop)<|
 .iB (p_v.aB==5) (.nu p_v.bF aA.lf<|
 .ask (Q50 (p_v.bF.length:Int) [IntKind.wrap .u8 p_v.aB]) fun r3 h0=>
 .say [.gU [2] (.own 1) [.dead,.row 5 1 (r3.map (lfK .u8))],.num p_v.bF.length] (okc (wW _ _ _ h0) (ok1 (ln_ p_v.bF aA.lf)))<|
 .l1y [.kill 0] Tryz.f206 0 [1,1,0,1,0,1,1,1,1,1,1,1,1,1,1,1,0,1,1,0] 0 (.exit 3) (fun(v0,l0)=>⟨[(0,.own 3),(71,.lf (.rows 6 (p_v.bF.map aA.lf))),(72,.i_ (p_v.bF.length:Int)),(73,.i_ v0)],[.dead,.dead,.dead,.row 5 1 (l0.map (lfK .u8))]⟩) (fun r_=>⟨[(0,.own 3)],[.dead,.dead,.dead,.row 5 1 (r_.map (lfK .u8))]⟩) (GZ R_ p_v) (0,r3) fun r4=>
 .ret ⟨[],[0],[(3,2)],3⟩ (r4))<|
 .stop
def Sj(R_:tK)(p_v:aj):Mo (List Int):=
 .say [.rows ([IntKind.wrap .u8 p_v.aB].map (lfK .u8))] (ok1 (by simp[lfI,lfK]:[IntKind.wrap .u8 p_v.aB].map (lfK .u8)=[]++[((lfK .u8) (IntKind.wrap .u8 p_v.aB))]))<|
 .grd ((([]:List Int).length+[IntKind.wrap .u8 p_v.aB].length)*1≤140737488355328) fun h0=>
 .say [] (ok1 (by first|(simp;done)|simpa using h0:(([]:List (List Lf)).length+[((lfK .u8) (IntKind.wrap .u8 p_v.aB))].length)*1≤140737488355328))<|
 .jy [.kill 1] Tryz.f206 0 [1,1,0,1] 6 (.normal) (fun r_=>⟨[(0,.own 2)],[.dead,.dead,.row 5 1 (r_.map (lfK .u8))]⟩) ⟨[(0,.own 2),(3,.ptr 0 0),(16,.i_ p_v.aB)],[bV p_v,.dead,.row 5 1 ([IntKind.wrap .u8 p_v.aB].map (lfK .u8))]⟩ (G5 R_ p_v) fun r0=>
 .ret ⟨[.mvn 2],[0],[(3,0)],1⟩ (r0)
theorem Qk(R_:tK):wX fun p_v=>Mo.den (Sj R_ p_v):=fun _=>dA Tryz.func206
def LU(R_:tK)(p_s0:List Int)(p_v:aj):Mo (Bool):=
 .iB (p_v.aB==3) (.rt [0,3,16,17] 4 (p_v.aB==3))<|
 .stop
def G6(R_:tK)(p_s0:List Int)(p_v:aj):Mo (((List Int))):=
 .jk Tryz.f206 1 [1,1,0,1,0,0,1] 1 (fun r_=>⟨[(0,.own 3),(3,.ptr 1 0),(16,.i_ p_v.aB),(17,.b_ r_)],[.dead,bV p_v,.dead,.row 5 1 ((p_s0++[IntKind.wrap .u8 p_v.aB]).map (lfK .u8))]⟩) ⟨[(0,.own 3),(3,.ptr 1 0),(16,.i_ p_v.aB),(17,.lf (.bool (p_v.aB==3)))],[.dead,bV p_v,.dead,.row 5 1 ((p_s0++[IntKind.wrap .u8 p_v.aB]).map (lfK .u8))]⟩ (LU R_ p_s0 p_v) fun r0=>
 .iB (r0) (.cH [3] (wW p_v.dY (p_s0++[IntKind.wrap .u8 p_v.aB])) fun r1 _=>
 .ret ⟨[.kill 1],[0],[(4,3)],4⟩ (r1))<|
 .stop
def Sl(R_:tK)(p_v:aj)(p_s0:List Int):Mo (List Int):=
 .say [.rows ((p_s0++[IntKind.wrap .u8 p_v.aB]).map (lfK .u8))] (ok1 (by simp[lfI,lfK]:(p_s0++[IntKind.wrap .u8 p_v.aB]).map (lfK .u8)=(p_s0.map (lfK .u8))++[((lfK .u8) (IntKind.wrap .u8 p_v.aB))]))<|
 .grd ((p_s0.length+[IntKind.wrap .u8 p_v.aB].length)*1≤140737488355328) fun h0=>
 .say [] (ok1 (by simpa using h0:((p_s0.map (lfK .u8)).length+[((lfK .u8) (IntKind.wrap .u8 p_v.aB))].length)*1≤140737488355328))<|
 .jy [.kill 2] Tryz.f206 1 [1,1,0,1] 6 (.normal) (fun r_=>⟨[(0,.own 3)],[.dead,.dead,.dead,.row 5 1 (r_.map (lfK .u8))]⟩) ⟨[(0,.own 3),(3,.ptr 1 0),(16,.i_ p_v.aB)],[.dead,bV p_v,.dead,.row 5 1 ((p_s0++[IntKind.wrap .u8 p_v.aB]).map (lfK .u8))]⟩ (G6 R_ p_s0 p_v) fun r0=>
 .ret ⟨[.mvn 3],[0],[(4,1)],2⟩ (r0)
theorem Ql(R_:tK):DT fun p_v p_s0=>Mo.den (Sl R_ p_v p_s0):=fun _ _=>dA Tryz.func206
def pV:Nat→tK
 |0=>{ m1:=fun p_v=>none,ok1:=fun _ _ h=>(by cases h),m2:=fun p_v p_s0=>none,ok2:=fun _ _ _ h=>(by cases h) }
 |n_+1=>{ m1:=fun p_v=>Mo.den (Sj (pV n_) p_v),ok1:=Qk (pV n_),m2:=fun p_v p_s0=>Mo.den (Sl (pV n_) p_v p_s0),ok2:=Ql (pV n_) }
def Q19(p_v:aj):Option (List Int):=(pV FU).m1 p_v
theorem Vo:wX Q19:=(pV FU).ok1
def Vp(p_v:aj):Mo (ByteArray×Int):=
 .cl (pU p_v) fun r0 _=>
 .iB (!r0) (.stop)<|
 .ask (Q19 p_v) fun r1 h0=>
 .say [.gU [] (.own 0) [.row 5 1 (r1.map (lfK .u8))],.nums r1] (okc (Vo _ _ h0) (ok1 (by simp[lfI,lfK]:(r1.map (lfK .u8))=r1.map fun n=>[Lf.int .u8 n])))<|
 .ret (dK 2) (strOfNums r1,0)
def YK(p_v:aj):Option (ByteArray×Int):=Mo.den (Vp p_v)
theorem Qm(p_v:aj):FV (YK p_v) 133 [.dat (aj.lf1 p_v)] (fun r=>.tup [.lf (.str r.1),.i_ r.2]):=dS Tryz.func133
def XB(p_v:aj)(p_b0:ak):Mo (ak):=
 .cl (oL p_v) fun r0 _=>
 .iB (r0) (.cH [0,1] (jX false p_b0) fun r1 _=>
 .ret ⟨[.kill 2,.mvn 3],[],[(4,2)],3⟩ (r1))<|
 .cl (pU p_v) fun r2 _=>
 .iB (!r2) (.stop)<|
 .cl (Qm p_v) fun r3 _=>
 .iB (r3.2 != 0) (.stop)<|
 .ask (Q32 true p_b0) fun r4 h0=>
 .say [.gU [0,1] (.tup []) [.box 75 (.agg [.own 2,.b_ r4.bK]),.dead,.row 5 1 (r4.aO.map (lfK .u8))],.rows ((r4.aO++(numsOf (r3.1:ByteArray))).map (lfK .u8))] (okc (jX _ _ _ h0) (ok1 (by first|(rw[List.map_append,eX];done)|(rw[eX,List.nil_append];done)|simp[lfI,lfK,eX]:(r4.aO++(numsOf (r3.1:ByteArray))).map (lfK .u8)=(r4.aO.map (lfK .u8))++mO (r3.1:ByteArray))))<|
 .grd (r4.aO.length+(r3.1:ByteArray).size≤140737488355328) fun h1=>
 .say [] (ok1 (by simpa using h1:(r4.aO.map (lfK .u8)).length+(r3.1:ByteArray).size≤140737488355328))<|
 .ret ⟨[.kill 2,.mvn 4],[],[(5,2)],3⟩ (ak.mk (r4.aO++(numsOf (r3.1:ByteArray))) r4.bK)
def Q57(p_v:aj)(p_b0:ak):Option (ak):=Mo.den (XB p_v p_b0)
theorem nM(p_v:aj)(p_b0:ak):FH (Q57 p_v p_b0) 76 [.ptr 0 0,.dat (aj.lf1 p_v)] [.box 75 (.agg [.own 1,.b_ p_b0.bK]),.row 5 1 (p_b0.aO.map (lfK .u8))] (fun _=>.tup []) (fun r=>[.box 75 (.agg [.own 2,.b_ r.bK]),.dead,.row 5 1 (r.aO.map (lfK .u8))]):=dA Tryz.func76
def LV(p_l:List ByteArray):(Int×Bool×(List Int))→Mo ((Int×Bool×(List Int))⊕(Bool×(List Int))):=fun(v0,v1,l0)=>
 .iB (decide ((v0:Int)<(p_l.length:Int))) (.stop)<|
 .rt [] 3 (.inr (v1,l0))
def XC(p_l:List ByteArray)(p_b0:ak):Mo (ak):=
 .nu p_l lfS<|
 .ask (Q2 (p_l.length:Int) p_b0) fun r0 h0=>
 .say [.gU [0,1] (.tup []) [.box 75 (.agg [.own 2,.b_ r0.bK]),.dead,.row 5 1 (r0.aO.map (lfK .u8))],.num p_l.length] (okc (fA _ _ _ h0) (ok1 (ln_ p_l lfS)))<|
 .l1 Tryz.f208 2 [1,1,0] 0 (.exit 0) (fun(v0,v1,l0)=>⟨[(0,.ptr 0 0),(2,.raw (.func (.func 209) #[] #[])),(12,.lf (.rows 1 (p_l.map lfS))),(13,.i_ (p_l.length:Int)),(14,.i_ v0)],[.box 75 (.agg [.own 2,.b_ v1]),.dead,.row 5 1 (l0.map (lfK .u8))]⟩) (fun r_=>⟨[],[.box 75 (.agg [.own 2,.b_ r_.1]),.dead,.row 5 1 (r_.2.map (lfK .u8))]⟩) (LV p_l) (0,r0.bK,r0.aO) fun r1=>
 .ret ⟨[.mvn 2],[],[(3,2)],3⟩ (ak.mk r1.2 r1.1)
def Q43(p_l:List ByteArray)(p_b0:ak):Option (ak):=Mo.den (XC p_l p_b0)
theorem wY(p_l:List ByteArray)(p_b0:ak):FH (Q43 p_l p_b0) 208 [.ptr 0 0,.lf (.rows 1 (p_l.map lfS)),.raw (.func (.func 209) #[] #[])] [.box 75 (.agg [.own 1,.b_ p_b0.bK]),.row 5 1 (p_b0.aO.map (lfK .u8))] (fun _=>.tup []) (fun r=>[.box 75 (.agg [.own 2,.b_ r.bK]),.dead,.row 5 1 (r.aO.map (lfK .u8))]):=dA Tryz.func208
def LW(p_l:List bG):(Int×Bool×(List Int))→Mo ((Int×Bool×(List Int))⊕(Bool×(List Int))):=fun(v0,v1,l0)=>
 .iB (decide ((v0:Int)<(p_l.length:Int))) (.stop)<|
 .rt [] 3 (.inr (v1,l0))
def XD(p_l:List bG)(p_b0:ak):Mo (ak):=
 .nu p_l bG.lf<|
 .ask (Q2 (p_l.length:Int) p_b0) fun r0 h0=>
 .say [.gU [0,1] (.tup []) [.box 75 (.agg [.own 2,.b_ r0.bK]),.dead,.row 5 1 (r0.aO.map (lfK .u8))],.num p_l.length] (okc (fA _ _ _ h0) (ok1 (ln_ p_l bG.lf)))<|
 .l1 Tryz.f136 2 [1,1,0] 0 (.exit 0) (fun(v0,v1,l0)=>⟨[(0,.ptr 0 0),(2,.raw (.func (.func 137) #[] #[])),(12,.lf (.rows 2 (p_l.map bG.lf))),(13,.i_ (p_l.length:Int)),(14,.i_ v0)],[.box 75 (.agg [.own 2,.b_ v1]),.dead,.row 5 1 (l0.map (lfK .u8))]⟩) (fun r_=>⟨[],[.box 75 (.agg [.own 2,.b_ r_.1]),.dead,.row 5 1 (r_.2.map (lfK .u8))]⟩) (LW p_l) (0,r0.bK,r0.aO) fun r1=>
 .ret ⟨[.mvn 2],[],[(3,2)],3⟩ (ak.mk r1.2 r1.1)
def Q58(p_l:List bG)(p_b0:ak):Option (ak):=Mo.den (XD p_l p_b0)
theorem Vq(p_l:List bG)(p_b0:ak):FH (Q58 p_l p_b0) 136 [.ptr 0 0,.lf (.rows 2 (p_l.map bG.lf)),.raw (.func (.func 137) #[] #[])] [.box 75 (.agg [.own 1,.b_ p_b0.bK]),.row 5 1 (p_b0.aO.map (lfK .u8))] (fun _=>.tup []) (fun r=>[.box 75 (.agg [.own 2,.b_ r.bK]),.dead,.row 5 1 (r.aO.map (lfK .u8))]):=dA Tryz.func136
def LX(p_l:List aj):(Int×Bool×(List Int))→Mo ((Int×Bool×(List Int))⊕(Bool×(List Int))):=fun(v0,v1,l0)=>
 .iB (decide ((v0:Int)<(p_l.length:Int))) (.stop)<|
 .rt [] 3 (.inr (v1,l0))
def XE(p_l:List aj)(p_b0:ak):Mo (ak):=
 .nu p_l aj.lf<|
 .ask (Q2 (p_l.length:Int) p_b0) fun r0 h0=>
 .say [.gU [0,1] (.tup []) [.box 75 (.agg [.own 2,.b_ r0.bK]),.dead,.row 5 1 (r0.aO.map (lfK .u8))],.num p_l.length] (okc (fA _ _ _ h0) (ok1 (ln_ p_l aj.lf)))<|
 .l1 Tryz.f207 2 [1,1,0] 0 (.exit 0) (fun(v0,v1,l0)=>⟨[(0,.ptr 0 0),(2,.raw (.func (.func 76) #[] #[])),(12,.lf (.rows 5 (p_l.map aj.lf))),(13,.i_ (p_l.length:Int)),(14,.i_ v0)],[.box 75 (.agg [.own 2,.b_ v1]),.dead,.row 5 1 (l0.map (lfK .u8))]⟩) (fun r_=>⟨[],[.box 75 (.agg [.own 2,.b_ r_.1]),.dead,.row 5 1 (r_.2.map (lfK .u8))]⟩) (LX p_l) (0,r0.bK,r0.aO) fun r1=>
 .ret ⟨[.mvn 2],[],[(3,2)],3⟩ (ak.mk r1.2 r1.1)
def Q53(p_l:List aj)(p_b0:ak):Option (ak):=Mo.den (XE p_l p_b0)
theorem LY(p_l:List aj)(p_b0:ak):FH (Q53 p_l p_b0) 207 [.ptr 0 0,.lf (.rows 5 (p_l.map aj.lf)),.raw (.func (.func 76) #[] #[])] [.box 75 (.agg [.own 1,.b_ p_b0.bK]),.row 5 1 (p_b0.aO.map (lfK .u8))] (fun _=>.tup []) (fun r=>[.box 75 (.agg [.own 2,.b_ r.bK]),.dead,.row 5 1 (r.aO.map (lfK .u8))]):=dA Tryz.func207
def LZ(p_l:List bU):(Int×Bool×(List Int))→Mo ((Int×Bool×(List Int))⊕(Bool×(List Int))):=fun(v0,v1,l0)=>
 .iB (decide ((v0:Int)<(p_l.length:Int))) (.stop)<|
 .rt [] 3 (.inr (v1,l0))
def XF(p_l:List bU)(p_b0:ak):Mo (ak):=
 .nu p_l bU.lf<|
 .ask (Q2 (p_l.length:Int) p_b0) fun r0 h0=>
 .say [.gU [0,1] (.tup []) [.box 75 (.agg [.own 2,.b_ r0.bK]),.dead,.row 5 1 (r0.aO.map (lfK .u8))],.num p_l.length] (okc (fA _ _ _ h0) (ok1 (ln_ p_l bU.lf)))<|
 .l1 Tryz.f213 2 [1,1,0] 0 (.exit 0) (fun(v0,v1,l0)=>⟨[(0,.ptr 0 0),(2,.raw (.func (.func 214) #[] #[])),(12,.lf (.rows 2 (p_l.map bU.lf))),(13,.i_ (p_l.length:Int)),(14,.i_ v0)],[.box 75 (.agg [.own 2,.b_ v1]),.dead,.row 5 1 (l0.map (lfK .u8))]⟩) (fun r_=>⟨[],[.box 75 (.agg [.own 2,.b_ r_.1]),.dead,.row 5 1 (r_.2.map (lfK .u8))]⟩) (LZ p_l) (0,r0.bK,r0.aO) fun r1=>
 .ret ⟨[.mvn 2],[],[(3,2)],3⟩ (ak.mk r1.2 r1.1)
def Q59(p_l:List bU)(p_b0:ak):Option (ak):=Mo.den (XF p_l p_b0)
theorem Vr(p_l:List bU)(p_b0:ak):FH (Q59 p_l p_b0) 213 [.ptr 0 0,.lf (.rows 2 (p_l.map bU.lf)),.raw (.func (.func 214) #[] #[])] [.box 75 (.agg [.own 1,.b_ p_b0.bK]),.row 5 1 (p_b0.aO.map (lfK .u8))] (fun _=>.tup []) (fun r=>[.box 75 (.agg [.own 2,.b_ r.bK]),.dead,.row 5 1 (r.aO.map (lfK .u8))]):=dA Tryz.func213
abbrev wZ(m:aJ→ak→Option (ak)):Prop:=∀p_e p_b0,FH (m p_e p_b0) 215 [.ptr 0 0,.dat (aJ.lf1 p_e)] [.box 75 (.agg [.own 1,.b_ p_b0.bK]),.row 5 1 (p_b0.aO.map (lfK .u8))] (fun _=>.tup []) (fun r=>[.box 75 (.agg [.own 2,.b_ r.bK]),.dead,.row 5 1 (r.aO.map (lfK .u8))])
abbrev DU(m:(List aJ)→ak→Option (ak)):Prop:=∀p_l p_b0,FH (m p_l p_b0) 279 [.ptr 0 0,.lf (.rows 11 (p_l.map aJ.lf)),.raw (.func (.func 215) #[] #[])] [.box 75 (.agg [.own 1,.b_ p_b0.bK]),.row 5 1 (p_b0.aO.map (lfK .u8))] (fun _=>.tup []) (fun r=>[.box 75 (.agg [.own 2,.b_ r.bK]),.dead,.row 5 1 (r.aO.map (lfK .u8))])
structure G7 where
 m1:(p_e:aJ)→(p_b0:ak)→Option (ak)
 ok1:wZ m1
 m2:(p_l:List aJ)→(p_b0:ak)→Option (ak)
 ok2:DU m2
def Sm(R_:G7)(p_e:aJ)(p_b0:ak):Mo (ak):=
 .cH [0,1] (fA p_e.fOp p_b0) fun r0 _=>
 .cH [0,3] (wY p_e.dW r0) fun r1 _=>
 .cH [0,4] (nK p_e.fName r1) fun r2 _=>
 .cH [0,5] (wY p_e.gy r2) fun r3 _=>
 .cH [0,6] (nM p_e.fArg r3) fun r4 _=>
 .cH [0,7] (fA p_e.fN r4) fun r5 _=>
 .cH [0,8] (R_.ok2 p_e.dO r5) fun r6 _=>
 .ret ⟨[.kill 2,.mvn 9],[],[(10,2)],3⟩ (r6)
theorem Qn(R_:G7):wZ fun p_e p_b0=>Mo.den (Sm R_ p_e p_b0):=fun _ _=>dA Tryz.func215
def L6(R_:G7)(p_l:List aJ):(Int×Bool×(List Int))→Mo ((Int×Bool×(List Int))⊕(Bool×(List Int))):=fun(v0,v1,l0)=>
 .iB (decide ((v0:Int)<(p_l.length:Int))) (.stop)<|
 .rt [] 3 (.inr (v1,l0))
def Sr(R_:G7)(p_l:List aJ)(p_b0:ak):Mo (ak):=
 .nu p_l aJ.lf<|
 .ask (Q2 (p_l.length:Int) p_b0) fun r0 h0=>
 .say [.gU [0,1] (.tup []) [.box 75 (.agg [.own 2,.b_ r0.bK]),.dead,.row 5 1 (r0.aO.map (lfK .u8))],.num p_l.length] (okc (fA _ _ _ h0) (ok1 (ln_ p_l aJ.lf)))<|
 .l1 Tryz.f279 2 [1,1,0] 0 (.exit 0) (fun(v0,v1,l0)=>⟨[(0,.ptr 0 0),(2,.raw (.func (.func 215) #[] #[])),(12,.lf (.rows 11 (p_l.map aJ.lf))),(13,.i_ (p_l.length:Int)),(14,.i_ v0)],[.box 75 (.agg [.own 2,.b_ v1]),.dead,.row 5 1 (l0.map (lfK .u8))]⟩) (fun r_=>⟨[],[.box 75 (.agg [.own 2,.b_ r_.1]),.dead,.row 5 1 (r_.2.map (lfK .u8))]⟩) (L6 R_ p_l) (0,r0.bK,r0.aO) fun r1=>
 .ret ⟨[.mvn 2],[],[(3,2)],3⟩ (ak.mk r1.2 r1.1)
theorem Qo(R_:G7):DU fun p_l p_b0=>Mo.den (Sr R_ p_l p_b0):=fun _ _=>dA Tryz.func279
def pW:Nat→G7
 |0=>{ m1:=fun p_e p_b0=>none,ok1:=fun _ _ _ h=>(by cases h),m2:=fun p_l p_b0=>none,ok2:=fun _ _ _ h=>(by cases h) }
 |n_+1=>{ m1:=fun p_e p_b0=>Mo.den (Sm (pW n_) p_e p_b0),ok1:=Qn (pW n_),m2:=fun p_l p_b0=>Mo.den (Sr (pW n_) p_l p_b0),ok2:=Qo (pW n_) }
def Q88(p_e:aJ)(p_b0:ak):Option (ak):=(pW FU).m1 p_e p_b0
theorem Vs:wZ Q88:=(pW FU).ok1
abbrev xg(m:aH→ak→Option (ak)):Prop:=∀p_p p_b0,FH (m p_p p_b0) 138 [.ptr 0 0,.dat (aH.lf1 p_p)] [.box 75 (.agg [.own 1,.b_ p_b0.bK]),.row 5 1 (p_b0.aO.map (lfK .u8))] (fun _=>.tup []) (fun r=>[.box 75 (.agg [.own 2,.b_ r.bK]),.dead,.row 5 1 (r.aO.map (lfK .u8))])
abbrev DV(m:(List aH)→ak→Option (ak)):Prop:=∀p_l p_b0,FH (m p_l p_b0) 216 [.ptr 0 0,.lf (.rows 25 (p_l.map aH.lf)),.raw (.func (.func 138) #[] #[])] [.box 75 (.agg [.own 1,.b_ p_b0.bK]),.row 5 1 (p_b0.aO.map (lfK .u8))] (fun _=>.tup []) (fun r=>[.box 75 (.agg [.own 2,.b_ r.bK]),.dead,.row 5 1 (r.aO.map (lfK .u8))])
structure G8 where
 m1:(p_p:aH)→(p_b0:ak)→Option (ak)
 ok1:xg m1
 m2:(p_l:List aH)→(p_b0:ak)→Option (ak)
 ok2:DV m2
def Sv(R_:G8)(p_p:aH)(p_b0:ak):Mo (ak):=
 .cH [0,1] (fA p_p.fOp p_b0) fun r0 _=>
 .cH [0,3] (wY p_p.dW r0) fun r1 _=>
 .cH [0,4] (nM p_p.fArg r1) fun r2 _=>
 .cH [0,5] (LY p_p.fArgs r2) fun r3 _=>
 .cH [0,6] (fA p_p.fN r3) fun r4 _=>
 .cH [0,7] (fA p_p.fM r4) fun r5 _=>
 .cH [0,8] (fA p_p.dJ.aB r5) fun r6 _=>
 .cH [0,9] (Vr p_p.dJ.fC r6) fun r7 _=>
 .cH [0,10] (fA p_p.dJ.fR r7) fun r8 _=>
 .cH [0,11] (Vs p_p.fExpr r8) fun r9 _=>
 .cH [0,12] (R_.ok2 p_p.dO r9) fun r10 _=>
 .ret ⟨[.kill 2,.mvn 13],[],[(14,2)],3⟩ (r10)
theorem Qp(R_:G8):xg fun p_p p_b0=>Mo.den (Sv R_ p_p p_b0):=fun _ _=>dA Tryz.func138
def L8(R_:G8)(p_l:List aH):(Int×Bool×(List Int))→Mo ((Int×Bool×(List Int))⊕(Bool×(List Int))):=fun(v0,v1,l0)=>
 .iB (decide ((v0:Int)<(p_l.length:Int))) (.stop)<|
 .rt [] 3 (.inr (v1,l0))
def Sz(R_:G8)(p_l:List aH)(p_b0:ak):Mo (ak):=
 .nu p_l aH.lf<|
 .ask (Q2 (p_l.length:Int) p_b0) fun r0 h0=>
 .say [.gU [0,1] (.tup []) [.box 75 (.agg [.own 2,.b_ r0.bK]),.dead,.row 5 1 (r0.aO.map (lfK .u8))],.num p_l.length] (okc (fA _ _ _ h0) (ok1 (ln_ p_l aH.lf)))<|
 .l1 Tryz.f216 2 [1,1,0] 0 (.exit 0) (fun(v0,v1,l0)=>⟨[(0,.ptr 0 0),(2,.raw (.func (.func 138) #[] #[])),(12,.lf (.rows 25 (p_l.map aH.lf))),(13,.i_ (p_l.length:Int)),(14,.i_ v0)],[.box 75 (.agg [.own 2,.b_ v1]),.dead,.row 5 1 (l0.map (lfK .u8))]⟩) (fun r_=>⟨[],[.box 75 (.agg [.own 2,.b_ r_.1]),.dead,.row 5 1 (r_.2.map (lfK .u8))]⟩) (L8 R_ p_l) (0,r0.bK,r0.aO) fun r1=>
 .ret ⟨[.mvn 2],[],[(3,2)],3⟩ (ak.mk r1.2 r1.1)
theorem Qq(R_:G8):DV fun p_l p_b0=>Mo.den (Sz R_ p_l p_b0):=fun _ _=>dA Tryz.func216
def pX:Nat→G8
 |0=>{ m1:=fun p_p p_b0=>none,ok1:=fun _ _ _ h=>(by cases h),m2:=fun p_l p_b0=>none,ok2:=fun _ _ _ h=>(by cases h) }
 |n_+1=>{ m1:=fun p_p p_b0=>Mo.den (Sv (pX n_) p_p p_b0),ok1:=Qp (pX n_),m2:=fun p_l p_b0=>Mo.den (Sz (pX n_) p_l p_b0),ok2:=Qq (pX n_) }
def Q89(p_p:aH)(p_b0:ak):Option (ak):=(pX FU).m1 p_p p_b0
theorem Vt:xg Q89:=(pX FU).ok1
def Vu(p_x:aK)(p_b0:ak):Mo (ak):=
 .cH [0,1] (nK p_x.fName p_b0) fun r0 _=>
 .cH [0,3] (fA p_x.aB r0) fun r1 _=>
 .cH [0,4] (Vq p_x.iT r1) fun r2 _=>
 .cH [0,5] (jX p_x.dP r2) fun r3 _=>
 .cH [0,6] (jX p_x.iy r3) fun r4 _=>
 .cH [0,7] (jX p_x.fO r4) fun r5 _=>
 .cH [0,8] (Vt p_x.aP r5) fun r6 _=>
 .ret ⟨[.kill 2,.mvn 9],[],[(10,2)],3⟩ (r6)
def YL(p_x:aK)(p_b0:ak):Option (ak):=Mo.den (Vu p_x p_b0)
theorem Qr(p_x:aK)(p_b0:ak):FH (YL p_x p_b0) 78 [.ptr 0 0,.dat (aK.lf1 p_x)] [.box 75 (.agg [.own 1,.b_ p_b0.bK]),.row 5 1 (p_b0.aO.map (lfK .u8))] (fun _=>.tup []) (fun r=>[.box 75 (.agg [.own 2,.b_ r.bK]),.dead,.row 5 1 (r.aO.map (lfK .u8))]):=dA Tryz.func78
def L9(p_l:List aK):(Int×Bool×(List Int))→Mo ((Int×Bool×(List Int))⊕(Bool×(List Int))):=fun(v0,v1,l0)=>
 .iB (decide ((v0:Int)<(p_l.length:Int))) (.stop)<|
 .rt [] 3 (.inr (v1,l0))
def XG(p_l:List aK)(p_b0:ak):Mo (ak):=
 .nu p_l aK.lf<|
 .ask (Q2 (p_l.length:Int) p_b0) fun r0 h0=>
 .say [.gU [0,1] (.tup []) [.box 75 (.agg [.own 2,.b_ r0.bK]),.dead,.row 5 1 (r0.aO.map (lfK .u8))],.num p_l.length] (okc (fA _ _ _ h0) (ok1 (ln_ p_l aK.lf)))<|
 .l1 Tryz.f134 2 [1,1,0] 0 (.exit 0) (fun(v0,v1,l0)=>⟨[(0,.ptr 0 0),(2,.raw (.func (.func 78) #[] #[])),(12,.lf (.rows 31 (p_l.map aK.lf))),(13,.i_ (p_l.length:Int)),(14,.i_ v0)],[.box 75 (.agg [.own 2,.b_ v1]),.dead,.row 5 1 (l0.map (lfK .u8))]⟩) (fun r_=>⟨[],[.box 75 (.agg [.own 2,.b_ r_.1]),.dead,.row 5 1 (r_.2.map (lfK .u8))]⟩) (L9 p_l) (0,r0.bK,r0.aO) fun r1=>
 .ret ⟨[.mvn 2],[],[(3,2)],3⟩ (ak.mk r1.2 r1.1)
def Q60(p_l:List aK)(p_b0:ak):Option (ak):=Mo.den (XG p_l p_b0)
theorem Vw(p_l:List aK)(p_b0:ak):FH (Q60 p_l p_b0) 134 [.ptr 0 0,.lf (.rows 31 (p_l.map aK.lf)),.raw (.func (.func 78) #[] #[])] [.box 75 (.agg [.own 1,.b_ p_b0.bK]),.row 5 1 (p_b0.aO.map (lfK .u8))] (fun _=>.tup []) (fun r=>[.box 75 (.agg [.own 2,.b_ r.bK]),.dead,.row 5 1 (r.aO.map (lfK .u8))]):=dA Tryz.func134
end
end Go.Proofs.YtflpefkohpjjpaaGreatDoor
