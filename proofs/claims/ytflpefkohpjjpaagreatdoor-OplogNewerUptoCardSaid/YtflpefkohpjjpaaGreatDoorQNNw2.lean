/- Printed by dec.py. -/
import Derived.Test.YtflpefkohpjjpaaGreatDoorQNNw1
set_option linter.unusedSimpArgs false
set_option linter.unusedVariables false
namespace Go.Proofs.YtflpefkohpjjpaaGreatDoor
open Go.RowKit
set_option maxRecDepth 20000
set_option maxHeartbeats 4000000
noncomputable section
abbrev Ce(m:aj→Option (Int)):Prop:=∀p_v,FV (m p_v) 255 [.dat (aj.lf1 p_v)] .i_
structure RB6 where
 m1:(p_v:aj)→Option (Int)
 ok1:Ce m1
def KZ(R_:RB6)(p_v:aj):Mo (Bool):=
 .iB (p_v.aB==3) (.rt [1,3,9,10] 1 (p_v.aB==3))<|
 .rt [1,3,9,10] 1 (p_v.aB==10)
def La(R_:RB6)(p_v:aj):Mo (Bool):=
 .iB (p_v.aB==4) (.stop)<|
 .rt [1,3,9,22] 1 (p_v.aB==7)
def GN(R_:RB6)(p_v:aj):(Int×Int)→Mo ((Int×Int)⊕(Int)):=fun(v0,v1)=>
 .iB (decide ((v1:Int)<(p_v.bF.length:Int))) (.gx aA.dw p_v.bF v1 fun x0 _=>
 .say [.order [(true,0),(true,1),(true,2),(true,3),(true,5),(true,6),(true,7),(true,9),(true,10),(false,4),(true,8),(false,11),(true,12),(true,13),(true,14)] none []] ok0<|
 .cl (Cc (x0.fName.size:Int)) fun r0 _=>
 .cl (R_.ok1 x0.fValue) fun r1 _=>
 .rt [3,71,72,73] 1 (.inl (IntKind.wrap .i64 (v0+(IntKind.wrap .i64 ((IntKind.wrap .i64 (r0+(x0.fName.size:Int)))+r1))),IntKind.wrap .i64 (v1+1))))<|
 .rt [3] 1 (.inr (v0))
def GU(R_:RB6)(p_v:aj):Mo (Int):=
 .jk Tryz.f255 0 [1,1,0,1,0,0,1] 1 (fun r_=>⟨[(1,.ptr 0 0),(3,.i_ 1),(9,.i_ p_v.aB),(10,.b_ r_)],[bV p_v]⟩) ⟨[(1,.ptr 0 0),(3,.i_ 1),(9,.i_ p_v.aB),(10,.lf (.bool (p_v.aB==3)))],[bV p_v]⟩ (KZ R_ p_v) fun r0=>
 .iB (r0) (.cl (Cc p_v.dY) fun r1 _=>
 .ret ⟨[.kill 0],[3],[],1⟩ (IntKind.wrap .i64 (1+r1)))<|
 .iB (p_v.aB==9) (.stop)<|
 .jk Tryz.f255 0 [1,1,0,1,0,1,1,1,1,0,1] 1 (fun r_=>⟨[(1,.ptr 0 0),(3,.i_ 1),(9,.i_ p_v.aB),(22,.b_ r_)],[bV p_v]⟩) ⟨[(1,.ptr 0 0),(3,.i_ 1),(9,.i_ p_v.aB),(22,.lf (.bool (p_v.aB==4)))],[bV p_v]⟩ (La R_ p_v) fun r2=>
 .iB (r2) (.stop)<|
 .iB (p_v.aB==8) (.stop)<|
 .iB (p_v.aB==6) (.stop)<|
 .iB (p_v.aB==5) (.nu p_v.bF aA.lf<|
 .ask (Q69 (p_v.bF.length:Int)) fun r3 h0=>
 .say [.res (.i_ r3),.num p_v.bF.length] (okc (Cc _ _ h0) (ok1 (ln_ p_v.bF aA.lf)))<|
 .l1y [.kill 0] Tryz.f255 0 [1,1,0,1,0,1,1,1,1,1,1,1,1,1,1,1,0,1,1,0] 0 (.exit 3) (fun(v0,v1)=>⟨[(3,.i_ v0),(71,.lf (.rows 6 (p_v.bF.map aA.lf))),(72,.i_ (p_v.bF.length:Int)),(73,.i_ v1)],[.dead]⟩) (fun r_=>⟨[(3,.i_ r_)],[.dead]⟩) (GN R_ p_v) ((IntKind.wrap .i64 (1+r3)),0) fun r4=>
 .rt [3] 1 (r4))<|
 .stop
def Si(R_:RB6)(p_v:aj):Mo (Int):=
 .jk Tryz.f255 0 [1,1,0,1] 6 (fun r_=>⟨[(3,.i_ r_)],[.dead]⟩) ⟨[(1,.ptr 0 0),(3,.i_ 1),(9,.i_ p_v.aB)],[bV p_v]⟩ (GU R_ p_v) fun r0=>
 .ret (dK 1) (r0)
theorem Qc(R_:RB6):Ce fun p_v=>Mo.den (Si R_ p_v):=fun _=>dS Tryz.func255
def DL:Nat→RB6
 |0=>{ m1:=fun p_v=>none,ok1:=fun _ _ h=>(by cases h) }
 |n_+1=>{ m1:=fun p_v=>Mo.den (Si (DL n_) p_v),ok1:=Qc (DL n_) }
def Q37(p_v:aj):Option (Int):=(DL FU).m1 p_v
theorem Va:Ce Q37:=(DL FU).ok1
def Vb(p_v:aj):Mo (Int×Int):=
 .cl (pU p_v) fun r0 _=>
 .iB (!r0) (.stop)<|
 .cl (Va p_v) fun r1 _=>
 .ret (dK 2) (r1,0)
def YH(p_v:aj):Option (Int×Int):=Mo.den (Vb p_v)
theorem Qd(p_v:aj):FV (YH p_v) 179 [.dat (aj.lf1 p_v)] (fun r=>.tup [.i_ r.1,.i_ r.2]):=dS Tryz.func179
def Lc(p_doc:aj)(p_key:aj):Mo (Bool):=
 .iG 4003 (p_doc.aB != 5) (.stop)<|
 .cl (pU p_doc) fun r0 _=>
 .rt [2,3,14] 2 (!r0)
def Ld(p_doc:aj)(p_key:aj)(r0:Bool):Mo (Bool):=
 .iG 4008 (r0) (.stop)<|
 .nu p_doc.bF aA.lf<|
 .rt [2,3,20] 2 ((p_doc.bF.length:Int)==0)
def GV(p_doc:aj)(p_key:aj):Mo (Bool):=
 .ask (wE p_doc.bF 0) fun x0 h0=>
 .say [] (ok1 (kV aA.dw h0))<|
 .ite (!decide ((x0.fName:ByteArray)=(⟨#[95,105,100]⟩:ByteArray))) (fun _=>
 .stop) fun c0=>
 .say [] (ok1 c0)<|
 .ask (wE p_doc.bF 0) fun x1 h1=>
 .say [] (ok1 (kV aA.dw h1))<|
 .ask (Xn x1.fValue p_key) fun r0 h2=>
 .say [.kJ (.q 0 (.q 1 (.q 2 (.q 3 (.q 4 (.q 5 (.q 6 (.q 7 (.q 8 (.q 9 (.q 10 (.q 11 (.q 12 (.l 13 (.q 14 (.q 15 .fin)))))))))))))))) (some 13) [] [.row (aA.lf1 x0),.gd 8006 false,.row (aA.lf1 x1),.res (.b_ r0)] [2,36] 2 [(2,.ptr 0 0),(36,.lf (.bool (!r0)))] [bV p_doc,bV p_key]] (okc (Qb _ _ _ h2) (ok1 (rf_ ⟨[(2,.ptr 0 0),(36,.lf (.bool (!r0)))],[bV p_doc,bV p_key]⟩)))<|
 .ret ⟨[.kill 1],[2,36],[],2⟩ (!r0)
def Xq(p_doc:aj)(p_key:aj):Mo (Int):=
 .sf Tryz.f111 0 [1,0,0] 0 8 1 [(2,.ptr 0 0),(3,.ptr 1 0)] [bV p_doc,bV p_key] 14 (Lc p_doc p_key) fun r0=>
 .sb Tryz.f111 0 [1,0,0] 8 6 1 [(2,.ptr 0 0),(3,.ptr 1 0)] [bV p_doc,bV p_key] 14 20 r0 (Ld p_doc p_key r0) fun r1=>
 .iB (r1) (.stop)<|
 .jk Tryz.f111 0 [1,1,0,0] 13 (fun r_=>⟨[(2,.ptr 0 0),(36,.b_ r_)],[bV p_doc,.dead]⟩) ⟨[(2,.ptr 0 0),(3,.ptr 1 0)],[bV p_doc,bV p_key]⟩ (GV p_doc p_key) fun r2=>
 .iB (r2) (.ret (dK 1) (8))<|
 .cl (Qd p_doc) fun r3 _=>
 .iB (r3.2 != 0) (.stop)<|
 .iB (decide ((16384:Int)<r3.1)) (.stop)<|
 .ret (dK 1) (0)
def Q61(p_doc:aj)(p_key:aj):Option (Int):=Mo.den (Xq p_doc p_key)
theorem Vd(p_doc:aj)(p_key:aj):FV (Q61 p_doc p_key) 111 [.dat (aj.lf1 p_doc),.dat (aj.lf1 p_key)] .i_:=dS Tryz.func111
def GX(p_w:au):Mo ((Int)⊕Unit):=
 .iB (p_w.aB==2) (.cl (Vd p_w.bF p_w.gq) fun r0 _=>
 .iB (r0 != 0) (.ret ⟨[.kill 0],[2],[],1⟩ (.inl (r0)))<|
 .rt [1] 1 (.inr (())))<|
 .stop
def Ve(p_w:au):Mo (Int):=
 .cl (U4 p_w.gq) fun r0 _=>
 .iB (!r0) (.stop)<|
 .j2 [] Tryz.f60 0 [1,1,0,1] 1 .ret (fun o_=>⟨[(2,.i_ o_)],[.dead]⟩) .normal (fun _=>⟨[(1,.ptr 0 0)],[cZ p_w]⟩) ⟨[(1,.ptr 0 0),(10,.lf (.bool (p_w.aB==2)))],[cZ p_w]⟩ (GX p_w) (fun o0=>
 .ret (dK 1) (o0)) fun o1=>
 .cl (oL p_w.cO) fun r1 _=>
 .iB (r1) (.ret (dK 1) (0))<|
 .stop
def YI(p_w:au):Option (Int):=Mo.den (Ve p_w)
theorem Qe(p_w:au):FV (YI p_w) 60 [.dat (au.lf1 p_w)] .i_:=dS Tryz.func60
abbrev Vf(m:aH→Int→Int→Option (Bool×Int)):Prop:=∀p_p p_level p_b0,FH (m p_p p_level p_b0) 185 [.dat (aH.lf1 p_p),.i_ p_level,.ptr 0 0] [.box 3 (.dat [(.int .i64 p_b0)])] (fun r=>.b_ r.1) (fun r=>[.box 3 (.dat [(.int .i64 r.2)])])
structure RB7 where
 m1:(p_p:aH)→(p_level:Int)→(p_b0:Int)→Option (Bool×Int)
 ok1:Vf m1
abbrev Vg(m:aJ→Int→Int→Option (Int×Int)):Prop:=∀p_e p_level p_b0,FH (m p_e p_level p_b0) 336 [.dat (aJ.lf1 p_e),.i_ p_level,.ptr 0 0] [.box 3 (.dat [(.int .i64 p_b0)])] (fun r=>.i_ r.1) (fun r=>[.box 3 (.dat [(.int .i64 r.2)])])
structure RB9 where
 m1:(p_e:aJ)→(p_level:Int)→(p_b0:Int)→Option (Int×Int)
 ok1:Vg m1
abbrev Vh(m:aH→Bool→Option (Int)):Prop:=∀p_p p_inside,FV (m p_p p_inside) 186 [.dat (aH.lf1 p_p),.b_ p_inside] .i_
structure RB8 where
 m1:(p_p:aH)→(p_inside:Bool)→Option (Int)
 ok1:Vh m1
end
end Go.Proofs.YtflpefkohpjjpaaGreatDoor
