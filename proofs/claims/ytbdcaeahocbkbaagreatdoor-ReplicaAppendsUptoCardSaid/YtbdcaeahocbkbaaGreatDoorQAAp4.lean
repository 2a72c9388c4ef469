/- Printed by dec.py. -/
import Derived.Test.YtbdcaeahocbkbaaGreatDoorQAAp3
set_option linter.unusedSimpArgs false
set_option linter.unusedVariables false
namespace Go.Proofs.YtbdcaeahocbkbaaGreatDoor
open Go.RowKit
set_option maxRecDepth 20000
set_option maxHeartbeats 4000000
noncomputable section
def KN(p_doc:ah)(p_key:ah):Mo (Bool):=
 .iG 4003 (p_doc.aK != 5) (.rt [2,3,14] 2 (true))<|
 .cl (rZ p_doc) fun r0 _=>
 .rt [2,3,14] 2 (!r0)
def KO(p_doc:ah)(p_key:ah)(r0:Bool):Mo (Bool):=
 .iG 4008 (r0) (.rt [2,3,20] 2 (true))<|
 .nu p_doc.bC aN.lf<|
 .rt [2,3,20] 2 ((p_doc.bC.length:Int)==0)
def GL(p_doc:ah)(p_key:ah):Mo (Bool):=
 .ask (fQ p_doc.bC 0) fun x0 h0=>
 .say [] (ok1 (bU aN.aX h0))<|
 .ite (!decide ((x0.fName:ByteArray)=(⟨#[95,105,100]⟩:ByteArray))) (fun c0=>
 .say [.gY (.q 0 (.q 1 (.q 2 (.q 3 (.q 4 (.q 5 (.q 6 (.q 7 (.q 8 (.q 9 (.q 10 (.q 11 (.q 12 (.l 13 (.q 14 (.q 15 .fin)))))))))))))))) (some 13) [] [.row (aN.lf1 x0),.gd 8006 true] [2,36] 2 [(2,.ptr 0 0),(36,.b_ true)] [bG p_doc,bG p_key]] (okc c0 (ok1 (rf_ ⟨[(2,.ptr 0 0),(36,.b_ true)],[bG p_doc,bG p_key]⟩)))<|
 .ret ⟨[.kill 1],[2,36],[],2⟩ (true)) fun c0=>
 .say [] (ok1 c0)<|
 .ask (fQ p_doc.bC 0) fun x1 h1=>
 .say [] (ok1 (bU aN.aX h1))<|
 .ask (aoB x1.fValue p_key) fun r0 h2=>
 .say [.gY (.q 0 (.q 1 (.q 2 (.q 3 (.q 4 (.q 5 (.q 6 (.q 7 (.q 8 (.q 9 (.q 10 (.q 11 (.q 12 (.l 13 (.q 14 (.q 15 .fin)))))))))))))))) (some 13) [] [.row (aN.lf1 x0),.gd 8006 false,.row (aN.lf1 x1),.res (.b_ r0)] [2,36] 2 [(2,.ptr 0 0),(36,.lf (.bool (!r0)))] [bG p_doc,bG p_key]] (okc (aoC _ _ _ h2) (ok1 (rf_ ⟨[(2,.ptr 0 0),(36,.lf (.bool (!r0)))],[bG p_doc,bG p_key]⟩)))<|
 .ret ⟨[.kill 1],[2,36],[],2⟩ (!r0)
def akI(p_doc:ah)(p_key:ah):Mo (Int):=
 .sf Tryz.f90 0 [1,0,0] 0 8 1 [(2,.ptr 0 0),(3,.ptr 1 0)] [bG p_doc,bG p_key] 14 (KN p_doc p_key) fun r0=>
 .sb Tryz.f90 0 [1,0,0] 8 6 1 [(2,.ptr 0 0),(3,.ptr 1 0)] [bG p_doc,bG p_key] 14 20 r0 (KO p_doc p_key r0) fun r1=>
 .iB (r1) (.ret (aY 1) (8))<|
 .jk Tryz.f90 0 [1,1,0,0] 13 (fun r_=>⟨[(2,.ptr 0 0),(36,.b_ r_)],[bG p_doc,.dead]⟩) ⟨[(2,.ptr 0 0),(3,.ptr 1 0)],[bG p_doc,bG p_key]⟩ (GL p_doc p_key) fun r2=>
 .iB (r2) (.ret (aY 1) (8))<|
 .cl (aoF p_doc) fun r3 _=>
 .iB (r3.2 != 0) (.ret (aY 1) (r3.2))<|
 .iB (decide ((16384:Int)<r3.1)) (.ret (aY 1) (2))<|
 .ret (aY 1) (0)
def Q84(p_doc:ah)(p_key:ah):Option (Int):=Mo.den (akI p_doc p_key)
theorem akJ(p_doc:ah)(p_key:ah):FV (Q84 p_doc p_key) 90 [.dat (ah.lf1 p_doc),.dat (ah.lf1 p_key)] .i_:=cO Tryz.func90
def PO(p_w:aH):Mo ((Int)⊕Unit):=
 .iB (p_w.aK==2) (.cl (akJ p_w.bC p_w.jh) fun r0 _=>
 .iB (r0 != 0) (.ret ⟨[.kill 0],[2],[],1⟩ (.inl (r0)))<|
 .rt [1] 1 (.inr (())))<|
 .rt [1] 1 (.inr (()))
def acK(p_w:aH):Mo (Int):=
 .cl (as9 p_w.jh) fun r0 _=>
 .iB (!r0) (.ret (aY 1) (8))<|
 .j2 [] Tryz.f61 0 [1,1,0,1] 1 .ret (fun o_=>⟨[(2,.i_ o_)],[.dead]⟩) .normal (fun _=>⟨[(1,.ptr 0 0)],[dR p_w]⟩) ⟨[(1,.ptr 0 0),(10,.lf (.bool (p_w.aK==2)))],[dR p_w]⟩ (PO p_w) (fun o0=>
 .ret (aY 1) (o0)) fun o1=>
 .cl (yh p_w.eX) fun r1 _=>
 .iB (r1) (.ret (aY 1) (0))<|
 .cl (akJ p_w.eX p_w.jh) fun r2 _=>
 .ret (aY 1) (r2)
def atc(p_w:aH):Option (Int):=Mo.den (acK p_w)
theorem aoG(p_w:aH):FV (atc p_w) 61 [.dat (aH.lf1 p_w)] .i_:=cO Tryz.func61
def YN(p_s:ByteArray):Mo (Bool):=
 .oV 4002 (decide ((p_s:ByteArray)=(⟨#[]⟩:ByteArray))) [0,10] 0 (decide ((32:Int)<(p_s.size:Int)))
def YO(p_s:ByteArray)(r0:Bool):Mo (Bool):=
 .iG 4007 (r0) (.rt [0,15] 0 (true))<|
 .ask (lS p_s 0) fun b0 h0=>
 .say [.byt b0] (ok1 (iy h0))<|
 .rt [0,15] 0 ((b0.toNat:Int)==36)
def PS(p_s:ByteArray)(v0:Int):Mo (Bool):=
 .ask (lS p_s v0) fun b0 h0=>
 .say [.byt b0] (ok1 (iy h0))<|
 .iG 14004 (decide (((b0.toNat:Int):Int)<33)) (.rt [0,3,17,18,30] 0 (true))<|
 .ask (lS p_s v0) fun b1 h1=>
 .say [.byt b1] (ok1 (iy h1))<|
 .rt [0,3,17,18,30] 0 (decide ((126:Int)<(b1.toNat:Int)))
def PU(p_s:ByteArray)(r0:Bool)(v0:Int):Mo (Bool):=
 .iG 14010 (r0) (.rt [0,17,18,36] 0 (true))<|
 .ask (lS p_s v0) fun b0 h0=>
 .say [.byt b0] (ok1 (iy h0))<|
 .rt [0,17,18,36] 0 ((b0.toNat:Int)==46)
def PV(p_s:ByteArray):(Int)→Mo ((Int)⊕(Unit⊕Unit)):=fun(v0)=>
 .iB (decide ((v0:Int)<(p_s.size:Int))) (.sf Tryz.f92 0 [1,1,0,1,0,0,1,1,0,0,1,0] 0 10 6 [(0,.lf (.str p_s)),(3,.i_ v0),(17,.i_ (p_s.size:Int)),(18,.i_ v0)] [] 30 (PS p_s v0) fun r0=>
 .sk Tryz.f92 0 [1,1,0,1,0,0,1,1,0,0,1,0] 10 6 6 (fun r_=>⟨[(0,.lf (.str p_s)),(17,.i_ (p_s.size:Int)),(18,.i_ v0),(36,.b_ r_)],[]⟩) ⟨[(0,.lf (.str p_s)),(3,.i_ v0),(17,.i_ (p_s.size:Int)),(18,.i_ v0),(30,.b_ r0)],[]⟩ (PU p_s r0 v0) fun r1=>
 .iB (r1) (.rt [2] 0 (.inr (.inl ())))<|
 .rt [0,17,18] 0 (.inl (IntKind.wrap .i64 (v0+1))))<|
 .rt [] 0 (.inr (.inr (())))
def aqQ(p_s:ByteArray):Mo (Bool):=
 .sf Tryz.f92 0 [1,0,0] 0 7 1 [(0,.lf (.str p_s))] [] 10 (YN p_s) fun r0=>
 .sb Tryz.f92 0 [1,0,0] 7 5 1 [(0,.lf (.str p_s))] [] 10 15 r0 (YO p_s r0) fun r1=>
 .iB (r1) (.ret (aY 1) (false))<|
 .l2 Tryz.f92 0 [1,1,0,1,0] 0 (fun(v0)=>⟨[(0,.lf (.str p_s)),(17,.i_ (p_s.size:Int)),(18,.i_ v0)],[]⟩) .ret (fun _=>⟨[(2,.b_ false)],[]⟩) (.exit 0) (fun _=>⟨[],[]⟩) (PV p_s) (0) (fun o0=>
 .ret (aY 1) (false)) fun o1=>
 .ret (aY 1) (true)
def Q93(p_s:ByteArray):Option (Bool):=Mo.den (aqQ p_s)
theorem atd(p_s:ByteArray):FV (Q93 p_s) 92 [.lf (.str p_s)] .b_:=cO Tryz.func92
def vP(p_s:ByteArray):(Int)→Mo ((Int)⊕(Unit⊕Unit)):=fun(v0)=>
 .iB (decide ((v0:Int)<(p_s.size:Int))) (.sf Tryz.f140 0 [1,1,0,1,0,0,1,1,0,0,1,0] 0 10 6 [(0,.lf (.str p_s)),(3,.i_ v0),(18,.i_ (p_s.size:Int)),(19,.i_ v0)] [] 31 (kF p_s v0) fun r0=>
 .sk Tryz.f140 0 [1,1,0,1,0,0,1,1,0,0,1,0] 10 6 6 (fun r_=>⟨[(0,.lf (.str p_s)),(18,.i_ (p_s.size:Int)),(19,.i_ v0),(37,.b_ r_)],[]⟩) ⟨[(0,.lf (.str p_s)),(3,.i_ v0),(18,.i_ (p_s.size:Int)),(19,.i_ v0),(31,.b_ r0)],[]⟩ (kG p_s r0 v0) fun r1=>
 .iB (r1) (.rt [2] 0 (.inr (.inl ())))<|
 .rt [0,18,19] 0 (.inl (IntKind.wrap .i64 (v0+1))))<|
 .rt [] 0 (.inr (.inr (())))
def YP(p_s:ByteArray)(v0:Int):Option (Unit⊕Unit):=bQ (fun v_=>(vP p_s v_).den) FU (v0)
def akK(p_s:ByteArray):Mo (Bool):=
 .sf Tryz.f140 0 [1,0,0] 0 8 1 [(0,.lf (.str p_s))] [] 11 (kD p_s) fun r0=>
 .sb Tryz.f140 0 [1,0,0] 8 5 1 [(0,.lf (.str p_s))] [] 11 16 r0 (kE p_s r0) fun r1=>
 .iB (r1) (.ret (aY 1) (true))<|
 .l2m [] Tryz.f140 0 [1,1,0,1,0] 0 (fun(v0)=>⟨[(0,.lf (.str p_s)),(18,.i_ (p_s.size:Int)),(19,.i_ v0)],[]⟩) .ret (fun _=>⟨[(2,.b_ true)],[]⟩) (.exit 0) (fun _=>⟨[],[]⟩) (YP p_s 0) (vP p_s) (0) (fun o0=>
 .ret (aY 1) (true)) fun o1=>
 .ret (aY 1) (false)
def ate(p_s:ByteArray):Option (Bool):=Mo.den (akK p_s)
theorem aoH(p_s:ByteArray):FV (ate p_s) 140 [.lf (.str p_s)] .b_:=cO Tryz.func140
def zV(p_s:List ByteArray):(Int)→Mo ((Int)⊕(Int)⊕Unit):=fun(v0)=>
 .iB (decide ((v0:Int)<(p_s.length:Int))) (.gx lS_ p_s v0 fun x0 _=>
 .cl (aoH x0) fun r0 _=>
 .iB (r0) (.rt [4] 0 (.inr (.inl (v0))))<|
 .rt [0,1,7,8] 0 (.inl (IntKind.wrap .i64 (v0+1))))<|
 .rt [] 0 (.inr (.inr (())))
def afy(p_s:List ByteArray)(v0:Int):Option ((Int)⊕Unit):=bQ (fun v_=>(zV p_s v_).den) FU (v0)
def akL(p_s:List ByteArray):Mo (Int):=
 .nu p_s lfS<|
 .l2m [] Tryz.f186 0 [1,0,1,0] 0 (fun(v0)=>⟨[(0,.lf (.rows 1 (p_s.map lfS))),(1,.raw (.func (.func 140) #[] #[])),(7,.i_ (p_s.length:Int)),(8,.i_ v0)],[]⟩) .ret (fun o_=>⟨[(4,.i_ o_)],[]⟩) (.exit 0) (fun _=>⟨[],[]⟩) (afy p_s 0) (zV p_s) (0) (fun o0=>
 .rt [0] 0 (o0)) fun o1=>
 .rt [0] 0 ((-1))
def avt(p_s:List ByteArray):Option (Int):=Mo.den (akL p_s)
theorem aoI(p_s:List ByteArray):FH (avt p_s) 186 [.lf (.rows 1 (p_s.map lfS)),.raw (.func (.func 140) #[] #[])] [] .i_ (fun _=>[]):=ig Tryz.func186
def akM(p_s:List ByteArray):Mo (Bool):=
 .cH [] (aoI p_s) fun r0 _=>
 .rt [0] 0 (decide ((0:Int)≤r0))
def atf(p_s:List ByteArray):Option (Bool):=Mo.den (akM p_s)
theorem aoJ(p_s:List ByteArray):FH (atf p_s) 139 [.lf (.rows 1 (p_s.map lfS)),.raw (.func (.func 140) #[] #[])] [] .b_ (fun _=>[]):=ig Tryz.func139
def PW(p_p:List ByteArray):Mo (Bool):=
 .nu p_p lfS<|
 .iG 4003 (decide ((1:Int)≤(p_p.length:Int))) (.nu p_p lfS<|
 .rt [0,2,10] 0 (decide (((p_p.length:Int):Int)≤16)))<|
 .rt [0,2,10] 0 (false)
def PX(p_p:List ByteArray)(r0:Bool):Mo (Bool):=
 .iG 4008 (r0) (.cH [] (aoJ p_p) fun r1 _=>
 .rt [2,15] 0 (!r1))<|
 .rt [2,15] 0 (false)
def vS(r0:Bool):Mo (Unit):=
 .rt [2] 0 ()
def akN(p_p:List ByteArray):Mo (Bool):=
 .sf Tryz.f95 0 [1,0] 0 8 1 [(0,.lf (.rows 1 (p_p.map lfS))),(2,.b_ false)] [] 10 (PW p_p) fun r0=>
 .sk Tryz.f95 0 [1,0] 8 5 1 (fun r_=>⟨[(2,.b_ false),(15,.b_ r_)],[]⟩) ⟨[(0,.lf (.rows 1 (p_p.map lfS))),(2,.b_ false),(10,.b_ r0)],[]⟩ (PX p_p r0) fun r1=>
 .sk Tryz.f95 0 [1,0] 13 1 1 (fun r_=>⟨[(2,.b_ r1)],[]⟩) ⟨[(2,.b_ false),(15,.b_ r1)],[]⟩ (vS r1) fun r2=>
 .ret (aY 1) (r1)
def aoK(p_p:List ByteArray):Option (Bool):=Mo.den (akN p_p)
theorem DL(p_p:List ByteArray):FV (aoK p_p) 95 [.lf (.rows 1 (p_p.map lfS))] .b_:=cO Tryz.func95
def uD(p_s1:List ByteArray)(p_s2:List ByteArray):(Int)→Mo ((Int)⊕(Unit⊕Unit)):=fun(v0)=>
 .iB (decide ((v0:Int)<(p_s1.length:Int))) (.say [.order [(true,0),(true,1),(true,2),(true,3),(true,4),(true,5),(true,6),(true,7),(true,8)] none []] ok0<|
 .gx lS_ p_s1 v0 fun x0 _=>
 .gx lS_ p_s2 v0 fun x1 _=>
 .iB (!decide ((x0:ByteArray)=(x1:ByteArray))) (.rt [4] 0 (.inr (.inl ())))<|
 .rt [0,1,12,13] 0 (.inl (IntKind.wrap .i64 (v0+1))))<|
 .rt [] 0 (.inr (.inr (())))
def aoL(p_s1:List ByteArray)(p_s2:List ByteArray)(v0:Int):Option (Unit⊕Unit):=bQ (fun v_=>(uD p_s1 p_s2 v_).den) FU (v0)
def acL(p_s1:List ByteArray)(p_s2:List ByteArray):Mo (Bool):=
 .nu p_s1 lfS<|
 .nu p_s2 lfS<|
 .iB ((p_s1.length:Int) != (p_s2.length:Int)) (.ret (aY 1) (false))<|
 .nu p_s1 lfS<|
 .l2 Tryz.f141 0 [1,1,0,1,0] 0 (fun(v0)=>⟨[(0,.lf (.rows 1 (p_s1.map lfS))),(1,.lf (.rows 1 (p_s2.map lfS))),(12,.i_ (p_s1.length:Int)),(13,.i_ v0)],[]⟩) .ret (fun _=>⟨[(4,.b_ false)],[]⟩) (.exit 0) (fun _=>⟨[],[]⟩) (uD p_s1 p_s2) (0) (fun o0=>
 .ret (aY 1) (false)) fun o1=>
 .ret (aY 1) (true)
def aoM(p_s1:List ByteArray)(p_s2:List ByteArray):Option (Bool):=Mo.den (acL p_s1 p_s2)
theorem aoN(p_s1:List ByteArray)(p_s2:List ByteArray):FV (aoM p_s1 p_s2) 141 [.lf (.rows 1 (p_s1.map lfS)),.lf (.rows 1 (p_s2.map lfS))] .b_:=cO Tryz.func141
def yj(p_l:List bf)(v0:Int)(x0:bf):(Int)→Mo ((Int)⊕(Unit⊕Unit)):=fun(v1)=>
 .iB (decide ((v1:Int)<((p_l.take v0.toNat).length:Int))) (.gx bf.aX (p_l.take v0.toNat) v1 fun x1 _=>
 .cl (aoN x1.cZ x0.cZ) fun r0 _=>
 .iB (r0) (.ret ⟨[.kill 0],[2],[],1⟩ (.inr (.inl ())))<|
 .rt [0,4,10,11,12,23,24,25] 1 (.inl (IntKind.wrap .i64 (v1+1))))<|
 .ret ⟨[.kill 0],[0,10,11,12],[],1⟩ (.inr (.inr (())))
def acM(p_l:List bf)(v0:Int)(x0:bf)(v1:Int):Option (Unit⊕Unit):=bQ (fun v_=>(yj p_l v0 x0 v_).den) FU (v1)
def yt(p_l:List bf):(Int)→Mo ((Int)⊕(Int)⊕Unit):=fun(v0)=>
 .iB (decide ((v0:Int)<(p_l.length:Int))) (.gx bf.aX p_l v0 fun x0 _=>
 .cl (DL x0.cZ) fun r0 _=>
 .iB (!r0) (.rt [2] 0 (.inr (.inl (10))))<|
 .say [.rows ((p_l.take v0.toNat).map bf.lf),.num (p_l.take v0.toNat).length] (ok1 (by first|(simp[bf.aX];done)|exact qQ _ _ _:(p_l.take v0.toNat).map bf.lf=((p_l.map bf.lf).take v0.toNat).drop (0:Int).toNat))<|
 .grd ((0:Int)≤0∧0≤v0∧v0≤(p_l.length:Int)) fun h0=>
 .say [] (okc (by simpa using h0:(0:Int)≤0∧0≤v0∧v0≤((p_l.map bf.lf).length:Int)) (ok1 (ln_ (p_l.take v0.toNat) bf.lf)))<|
 .l2m [] Tryz.f96 0 [1,1,0,1,0,0,1,1,0,0,1,1,1,0] 0 (fun(v1)=>⟨[(0,.lf (.rows 2 (p_l.map bf.lf))),(4,.ptr 0 0),(10,.lf (.rows 2 (p_l.map bf.lf))),(11,.i_ (p_l.length:Int)),(12,.i_ v0),(23,.lf (.rows 2 ((p_l.take v0.toNat).map bf.lf))),(24,.i_ ((p_l.take v0.toNat).length:Int)),(25,.i_ v1)],[.box 129 (.agg [.lf (.rows 1 (x0.cZ.map lfS)),.b_ x0.Il])]⟩) .ret (fun _=>⟨[(2,.i_ 12)],[.dead]⟩) (.exit 2) (fun _=>⟨[(0,.lf (.rows 2 (p_l.map bf.lf))),(10,.lf (.rows 2 (p_l.map bf.lf))),(11,.i_ (p_l.length:Int)),(12,.i_ v0)],[.dead]⟩) (acM p_l v0 x0 0) (yj p_l v0 x0) (0) (fun o0=>
 .rt [2] 0 (.inr (.inl (12)))) fun o1=>
 .rt [0,10,11,12] 0 (.inl (IntKind.wrap .i64 (v0+1))))<|
 .rt [] 0 (.inr (.inr (())))
def atg(p_l:List bf)(v0:Int):Option ((Int)⊕Unit):=bQ (fun v_=>(yt p_l v_).den) FU (v0)
def akO(p_l:List bf):Mo (Int):=
 .nu p_l bf.lf<|
 .iB (decide ((8:Int)<(p_l.length:Int))) (.ret (aY 1) (2))<|
 .nu p_l bf.lf<|
 .l2 Tryz.f96 0 [1,1,0,1,0] 0 (fun(v0)=>⟨[(0,.lf (.rows 2 (p_l.map bf.lf))),(10,.lf (.rows 2 (p_l.map bf.lf))),(11,.i_ (p_l.length:Int)),(12,.i_ v0)],[]⟩) .ret (fun o_=>⟨[(2,.i_ o_)],[]⟩) (.exit 0) (fun _=>⟨[],[]⟩) (yt p_l) (0) (fun o0=>
 .ret (aY 1) (o0)) fun o1=>
 .ret (aY 1) (0)
def Q96(p_l:List bf):Option (Int):=Mo.den (akO p_l)
theorem ath(p_l:List bf):FV (Q96 p_l) 96 [.lf (.rows 2 (p_l.map bf.lf))] .i_:=cO Tryz.func96
abbrev Vq(m:aP→Int→Int→Option (Bool×Int)):Prop:=∀p_p p_level p_b0,FH (m p_p p_level p_b0) 142 [.dat (aP.lf1 p_p),.i_ p_level,.ptr 0 0] [.box 3 (.dat [(.int .i64 p_b0)])] (fun r=>.b_ r.1) (fun r=>[.box 3 (.dat [(.int .i64 r.2)])])
structure ahj where
 m1:(p_p:aP)→(p_level:Int)→(p_b0:Int)→Option (Bool×Int)
 ok1:Vq m1
def DN(R_:ahj)(p_b0:Int)(p_level:Int)(p_p:aP):Mo (Bool):=
 .oV 4002 (decide ((16:Int)<p_level)) [1,2,3,16] 2 (p_b0==256)
def yu(R_:ahj)(p_level:Int)(p_p:aP):(Int×Int)→Mo ((Int×Int)⊕(Int)⊕(Int)):=fun(v0,v1)=>
 .iB (decide ((v0:Int)<(p_p.bJ.length:Int))) (.gx aP.aX p_p.bJ v0 fun x0 _=>
 .say [.at_ 16 4,.tod 29] ok0<|
 .cH [0] (R_.ok1 x0 (IntKind.wrap .i64 (p_level+1)) v1) fun r0 _=>
 .iB (!r0.1) (.rt [6] 2 (.inr (.inl (r0.2))))<|
 .rt [1,2,23,24,25] 2 (.inl (IntKind.wrap .i64 (v0+1),r0.2)))<|
 .rt [] 2 (.inr (.inr (v1)))
def ati(R_:ahj)(p_level:Int)(p_p:aP)(v0:Int)(v1:Int):Option ((Int)⊕(Int)):=bQ (fun v_=>(yu R_ p_level p_p v_).den) FU (v0,v1)
def KP(R_:ahj)(p_p:aP)(p_level:Int)(p_b0:Int):Mo (Bool×Int):=
 .jk Tryz.f142 1 [1,0,0] 9 (fun r_=>⟨[(1,.i_ p_level),(2,.ptr 0 0),(3,.ptr 1 0),(16,.b_ r_)],[.box 3 (.dat [(.int .i64 p_b0)]),dB p_p]⟩) ⟨[(1,.i_ p_level),(2,.ptr 0 0),(3,.ptr 1 0)],[.box 3 (.dat [(.int .i64 p_b0)]),dB p_p]⟩ (DN R_ p_b0 p_level p_p) fun r0=>
 .iB (r0) (.ret ⟨[.kill 1],[0],[],1⟩ (false,p_b0))<|
 .nu p_p.bJ aP.lf<|
 .l2y [.kill 1] Tryz.f142 1 [1,1,1,0,1,0] 0 (fun(v0,v1)=>⟨[(1,.i_ p_level),(2,.ptr 0 0),(23,.lf (.rows 25 (p_p.bJ.map aP.lf))),(24,.i_ (p_p.bJ.length:Int)),(25,.i_ v0)],[.box 3 (.dat [(.int .i64 v1)]),.dead]⟩) .ret (fun o_=>⟨[(6,.b_ false)],[.box 3 (.dat [(.int .i64 o_)]),.dead]⟩) (.exit 0) (fun o_=>⟨[],[.box 3 (.dat [(.int .i64 o_)]),.dead]⟩) (yu R_ p_level p_p) (0,(IntKind.wrap .i64 (p_b0+1))) (fun o0=>
 .rt [0] 1 (false,o0)) fun o1=>
 .rt [0] 1 (true,o1)
theorem aoO(R_:ahj):Vq fun p_p p_level p_b0=>Mo.den (KP R_ p_p p_level p_b0):=fun _ _ _=>ig Tryz.func142
def qV:Nat→ahj
 |0=>{ m1:=fun p_p p_level p_b0=>none,ok1:=fun _ _ _ _ h=>(by cases h) }
 |n_+1=>{ m1:=fun p_p p_level p_b0=>Mo.den (KP (qV n_) p_p p_level p_b0),ok1:=aoO (qV n_) }
def Q69(p_p:aP)(p_level:Int)(p_b0:Int):Option (Bool×Int):=(qV FU).m1 p_p p_level p_b0
theorem atj:Vq Q69:=(qV FU).ok1
def PY(p_n:Int)(p_op:Int):Mo (Bool):=
 .iB (p_op==15) (.rt [1,5,6] 0 (p_op==15))<|
 .rt [1,5,6] 0 (p_op==23)
def PZ(p_n:Int)(p_op:Int):Mo (Bool):=
 .iB (p_op==20) (.rt [1,11] 0 (p_op==20))<|
 .iB (p_op==21) (.rt [1,11] 0 (p_op==21))<|
 .rt [1,11] 0 (p_op==22)
def acN(p_op:Int)(p_n:Int):Mo (Bool):=
 .jk Tryz.f235 0 [1,0,1,0,0,1] 1 (fun r_=>⟨[(1,.i_ p_n),(5,.i_ p_op),(6,.b_ r_)],[]⟩) ⟨[(1,.i_ p_n),(5,.i_ p_op),(6,.lf (.bool (p_op==15)))],[]⟩ (PY p_n p_op) fun r0=>
 .iB (r0) (.ret (aY 1) (p_n==1))<|
 .jk Tryz.f235 0 [1,0,1,0,1,1,0,1] 1 (fun r_=>⟨[(1,.i_ p_n),(11,.b_ r_)],[]⟩) ⟨[(1,.i_ p_n),(5,.i_ p_op),(11,.lf (.bool (p_op==20)))],[]⟩ (PZ p_n p_op) fun r1=>
 .iB (r1) (.ret (aY 1) (decide ((1:Int)≤p_n)))<|
 .ret (aY 1) (p_n==0)
def akP(p_op:Int)(p_n:Int):Option (Bool):=Mo.den (acN p_op p_n)
theorem aoP(p_op:Int)(p_n:Int):FV (akP p_op p_n) 235 [.i_ p_op,.i_ p_n] .b_:=cO Tryz.func235
def Vr(p_op:Int):Mo (Bool):=
 .iG 4002 (p_op==8) (.ret (aY 1) (true))<|
 .iG 4006 (p_op==9) (.ret (aY 1) (true))<|
 .ret (aY 1) (p_op==14)
def KQ(p_op:Int):Option (Bool):=Mo.den (Vr p_op)
theorem Vs(p_op:Int):FV (KQ p_op) 236 [.i_ p_op] .b_:=cO Tryz.func236
def DR(p_p:aP):Mo (Bool):=
 .iG 8003 (p_p.fN==0) (.ret ⟨[.kill 0],[2],[],1⟩ (true))<|
 .ret ⟨[.kill 0],[2],[],1⟩ (p_p.fN==1)
def DT(p_p:aP):Mo (Bool):=
 .iG 12003 (decide ((1:Int)≤p_p.fN)) (.ret ⟨[.kill 0],[2],[],1⟩ (decide ((p_p.fN:Int)≤11)))<|
 .ret ⟨[.kill 0],[2],[],1⟩ (false)
def zW(p_p:aP):Mo (Bool):=
 .aV 16003 (decide ((1:Int)≤p_p.fN)) [1,2,34] 1 (decide ((0:Int)≤p_p.fM))
def zX(p_p:aP)(r0:Bool):Mo (Bool):=
 .iG 16008 (r0) (.ret ⟨[.kill 0],[2,41],[],1⟩ (decide ((p_p.fM:Int)<p_p.fN)))<|
 .ret ⟨[.kill 0],[2,41],[],1⟩ (false)
def akQ(p_p:aP):Mo (Bool):=
 .iB (p_p.fOp==10) (.jk Tryz.f237 0 [1,0,1,0,1,0,0] 13 (fun r_=>⟨[(2,.b_ r_)],[.dead]⟩) ⟨[(1,.ptr 0 0)],[dB p_p]⟩ (DR p_p) fun r0=>
 .ret (aY 1) (r0))<|
 .iB (p_p.fOp==11) (.jk Tryz.f237 0 [1,0,1,0,1,1,1,0,0] 17 (fun r_=>⟨[(2,.b_ r_)],[.dead]⟩) ⟨[(1,.ptr 0 0)],[dB p_p]⟩ (DT p_p) fun r1=>
 .ret (aY 1) (r1))<|
 .iB (p_p.fOp==12) (.sf Tryz.f237 0 [1,0,1,0,1,1,1,1,1,0,0] 0 8 7 [(1,.ptr 0 0),(2,.b_ false)] [dB p_p] 34 (zW p_p) fun r2=>
 .sk Tryz.f237 0 [1,0,1,0,1,1,1,1,1,0,0] 8 7 7 (fun r_=>⟨[(2,.b_ false),(41,.b_ r_)],[.dead]⟩) ⟨[(1,.ptr 0 0),(2,.b_ false),(34,.b_ r2)],[dB p_p]⟩ (zX p_p r2) fun r3=>
 .sk Tryz.f237 0 [1,0,1,0,1,1,1,1,1,0,0] 15 1 7 (fun r_=>⟨[(2,.b_ r3)],[.dead]⟩) ⟨[(2,.b_ false),(41,.b_ r3)],[.dead]⟩ (dG r3) fun r4=>
 .ret (aY 1) (r3))<|
 .iB (p_p.fOp==13) (.ret (aY 1) (decide ((0:Int)≤p_p.fN)))<|
 .ret (aY 1) (true)
def Q44(p_p:aP):Option (Bool):=Mo.den (akQ p_p)
theorem atl(p_p:aP):FV (Q44 p_p) 237 [.dat (aP.lf1 p_p)] .b_:=cO Tryz.func237
def Vt(p_op:Int):Mo (Bool):=
 .iG 4002 (decide ((2:Int)≤p_op)) (.ret (aY 1) (decide ((p_op:Int)≤19)))<|
 .ret (aY 1) (false)
def N8(p_op:Int):Option (Bool):=Mo.den (Vt p_op)
theorem afz(p_op:Int):FV (N8 p_op) 238 [.i_ p_op] .b_:=cO Tryz.func238
def Vu(p_op:Int):Mo (Bool):=
 .iG 4002 (p_op==16) (.ret (aY 1) (true))<|
 .iG 4006 (p_op==17) (.ret (aY 1) (true))<|
 .ret (aY 1) (p_op==19)
def YQ(p_op:Int):Option (Bool):=Mo.den (Vu p_op)
theorem Vw(p_op:Int):FV (YQ p_op) 240 [.i_ p_op] .b_:=cO Tryz.func240
def Vx(p_op:Int):Mo (Bool):=
 .iG 4002 (decide ((2:Int)≤p_op)) (.iG 4006 (decide ((p_op:Int)≤7)) (.ret (aY 1) (true))<|
 .cl (Vw p_op) fun r0 _=>
 .ret (aY 1) (r0))<|
 .cl (Vw p_op) fun r1 _=>
 .ret (aY 1) (r1)
def YR(p_op:Int):Option (Bool):=Mo.den (Vx p_op)
theorem afA(p_op:Int):FV (YR p_op) 239 [.i_ p_op] .b_:=cO Tryz.func239
def KR(p_n:Int):Mo (Bool):=
 .iG 4002 (decide ((0:Int)≤p_n)) (.ret (aY 1) (decide ((p_n:Int)<65536)))<|
 .ret (aY 1) (false)
def Vy(p_n:Int):Option (Bool):=Mo.den (KR p_n)
theorem Vz(p_n:Int):FV (Vy p_n) 277 [.i_ p_n] .b_:=cO Tryz.func277
def VA(p_p:dO):Mo (Bool):=
 .cl (Vz p_p.fX) fun r0 _=>
 .iG 4003 (r0) (.cl (Vz p_p.fY) fun r1 _=>
 .ret (aY 1) (r1))<|
 .ret (aY 1) (false)
def ahk(p_p:dO):Option (Bool):=Mo.den (VA p_p)
theorem aoQ(p_p:dO):FV (ahk p_p) 278 [.dat (dO.lf1 p_p)] .b_:=cO Tryz.func278
def GN(p_s:dP):Mo (Bool):=
 .iB (p_s.aK==1) (.aV 12002 ((p_s.bK.length:Int)==2) [1,4] 1 (p_s.fR==0))<|
 .iB (p_s.aK==2) (.aC 16002 ((p_s.bK.length:Int)==1) [1,4] 1 (Vz p_s.fR))<|
 .iB (p_s.aK==3) (.iG 20002 (decide ((3:Int)≤(p_s.bK.length:Int))) (.aV 20006 (decide (((p_s.bK.length:Int):Int)≤64)) [1,4] 1 (p_s.fR==0))<|
 .rt [1,4] 1 (false))<|
 .rt [1,4] 1 (false)
def VB(p_s:dP):Option (Bool):=Mo.den (GN p_s)
def uF(p_s:dP):(Int)→Mo ((Int)⊕(Unit⊕Unit)):=fun(v0)=>
 .iB (decide ((v0:Int)<(p_s.bK.length:Int))) (.gx dO.aX p_s.bK v0 fun x0 _=>
 .cl (aoQ x0) fun r0 _=>
 .iB (!r0) (.rt [2] 1 (.inr (.inl ())))<|
 .rt [46,47,48] 1 (.inl (IntKind.wrap .i64 (v0+1))))<|
 .rt [] 1 (.inr (.inr (())))
def VD(p_s:dP)(v0:Int):Option (Unit⊕Unit):=bQ (fun v_=>(uF p_s v_).den) FU (v0)
def acO(p_s:dP):Mo (Int):=
 .nu p_s.bK dO.lf<|
 .jp Tryz.f241 0 [1,1,1,0,1] 6 [1,3,4,11] 1 (.normal) (fun r_=>⟨[(1,.ptr 0 0),(4,.b_ r_)],[wR p_s]⟩) ⟨[(1,.ptr 0 0),(3,.i_ (p_s.bK.length:Int)),(4,.b_ false),(11,.i_ p_s.aK)],[wR p_s]⟩ (VB p_s) (jW (by kernel_rfl)) fun r0 _=>
 .iB (!r0) (.ret (aY 1) (18))<|
 .nu p_s.bK dO.lf<|
 .l2m [.kill 0] Tryz.f241 0 [1,1,1,1,1,0,1,0] 0 (fun(v0)=>⟨[(46,.lf (.rows 2 (p_s.bK.map dO.lf))),(47,.i_ (p_s.bK.length:Int)),(48,.i_ v0)],[.dead]⟩) .ret (fun _=>⟨[(2,.i_ 18)],[.dead]⟩) (.exit 1) (fun _=>⟨[],[.dead]⟩) (VD p_s 0) (uF p_s) (0) (fun o0=>
 .ret (aY 1) (18)) fun o1=>
 .ret (aY 1) (0)
def aoR(p_s:dP):Option (Int):=Mo.den (acO p_s)
theorem aoS(p_s:dP):FV (aoR p_s) 241 [.dat (dP.lf1 p_s)] .i_:=cO Tryz.func241
def acP(p_v:ah):Mo (Bool):=
 .sf Tryz.f279 0 [1,0] 0 8 1 [(1,.ptr 0 0),(2,.b_ false)] [bG p_v] 10 (nI p_v) fun r0=>
 .sb Tryz.f279 0 [1,0] 8 5 1 [(1,.ptr 0 0),(2,.b_ false)] [bG p_v] 10 15 r0 (nJ p_v r0) fun r1=>
 .sb Tryz.f279 0 [1,0] 13 6 1 [(1,.ptr 0 0),(2,.b_ false)] [bG p_v] 15 21 r1 (lq p_v r1) fun r2=>
 .sk Tryz.f279 0 [1,0] 19 6 1 (fun r_=>⟨[(2,.b_ false),(27,.b_ r_)],[.dead]⟩) ⟨[(1,.ptr 0 0),(2,.b_ false),(21,.b_ r2)],[bG p_v]⟩ (lu p_v r2) fun r3=>
 .sk Tryz.f279 0 [1,0] 25 1 1 (fun r_=>⟨[(2,.b_ r3)],[.dead]⟩) ⟨[(2,.b_ false),(27,.b_ r3)],[.dead]⟩ (dG r3) fun r4=>
 .ret (aY 1) (r3)
def aoT(p_v:ah):Option (Bool):=Mo.den (acP p_v)
theorem afB(p_v:ah):FV (aoT p_v) 279 [.dat (ah.lf1 p_v)] .b_:=cO Tryz.func279
def P5(p_op:Int):Mo (Bool):=
 .oV 4002 (p_op==10) [0,2,8] 0 (p_op==11)
def P6(p_op:Int)(r0:Bool):Mo (Bool):=
 .oV 4006 (r0) [0,2,12] 0 (p_op==12)
def KT(p_op:Int)(r0:Bool):Mo (Bool):=
 .oV 4010 (r0) [2,16] 0 (p_op==13)
def acQ(p_op:Int):Mo (Bool):=
 .sf Tryz.f280 0 [1,0] 0 6 1 [(0,.i_ p_op),(2,.b_ false)] [] 8 (P5 p_op) fun r0=>
 .sb Tryz.f280 0 [1,0] 6 4 1 [(0,.i_ p_op),(2,.b_ false)] [] 8 12 r0 (P6 p_op r0) fun r1=>
 .sk Tryz.f280 0 [1,0] 10 4 1 (fun r_=>⟨[(2,.b_ false),(16,.b_ r_)],[]⟩) ⟨[(0,.i_ p_op),(2,.b_ false),(12,.b_ r1)],[]⟩ (KT p_op r1) fun r2=>
 .sk Tryz.f280 0 [1,0] 14 1 1 (fun r_=>⟨[(2,.b_ r2)],[]⟩) ⟨[(2,.b_ false),(16,.b_ r2)],[]⟩ (vS r2) fun r3=>
 .ret (aY 1) (r2)
def atm(p_op:Int):Option (Bool):=Mo.den (acQ p_op)
theorem aoU(p_op:Int):FV (atm p_op) 280 [.i_ p_op] .b_:=cO Tryz.func280
def BZ(p_e:aT)(r0:Bool):Mo (Bool):=
 .aC 4020 (r0) [1,2,27] 1 (afB p_e.fArg)
def VE(p_e:aT):Mo (Bool):=
 .sf Tryz.f281 0 [1,0] 0 9 1 [(1,.ptr 0 0),(2,.b_ false)] [dJ p_e] 11 (oG p_e) fun r0=>
 .sb Tryz.f281 0 [1,0] 9 5 1 [(1,.ptr 0 0),(2,.b_ false)] [dJ p_e] 11 16 r0 (oH p_e r0) fun r1=>
 .sb Tryz.f281 0 [1,0] 14 6 1 [(1,.ptr 0 0),(2,.b_ false)] [dJ p_e] 16 22 r1 (mP p_e r1) fun r2=>
 .sb Tryz.f281 0 [1,0] 20 5 1 [(1,.ptr 0 0),(2,.b_ false)] [dJ p_e] 22 27 r2 (BZ p_e r2) fun r3=>
 .sb Tryz.f281 0 [1,0] 25 5 1 [(1,.ptr 0 0),(2,.b_ false)] [dJ p_e] 27 32 r3 (mQ p_e r3) fun r4=>
 .sk Tryz.f281 0 [1,0] 30 6 1 (fun r_=>⟨[(2,.b_ false),(38,.b_ r_)],[.dead]⟩) ⟨[(1,.ptr 0 0),(2,.b_ false),(32,.b_ r4)],[dJ p_e]⟩ (mV p_e r4) fun r5=>
 .sk Tryz.f281 0 [1,0] 36 1 1 (fun r_=>⟨[(2,.b_ r5)],[.dead]⟩) ⟨[(2,.b_ false),(38,.b_ r5)],[.dead]⟩ (dG r5) fun r6=>
 .ret (aY 1) (r5)
def ahl(p_e:aT):Option (Bool):=Mo.den (VE p_e)
theorem aoV(p_e:aT):FV (ahl p_e) 281 [.dat (aT.lf1 p_e)] .b_:=cO Tryz.func281
def YS(p_p:aP):Mo (Bool):=
 .cl (afz p_p.fOp) fun r0 _=>
 .iG 6004 (!r0) (.nu p_p.cZ lfS<|
 .rt [1,3] 1 (decide ((0:Int)<(p_p.cZ.length:Int))))<|
 .rt [1,3] 1 (false)
def YT(p_p:aP):Mo (Bool):=
 .cl (afA p_p.fOp) fun r0 _=>
 .iG 8004 (!r0) (.cl (afB p_p.fArg) fun r1 _=>
 .rt [1,14] 1 (!r1))<|
 .rt [1,14] 1 (false)
def P7(p_p:aP):Mo (Bool):=
 .cl (Vs p_p.fOp) fun r0 _=>
 .iG 10004 (!r0) (.nu p_p.fArgs ah.lf<|
 .rt [1,25] 1 (decide ((0:Int)<(p_p.fArgs.length:Int))))<|
 .rt [1,25] 1 (false)
def P8(p_p:aP):Mo (Bool):=
 .cl (aoU p_p.fOp) fun r0 _=>
 .aV 12004 (!r0) [1,36] 1 (p_p.fN != 0)
def P9(p_p:aP):Mo (Bool):=
 .aV 14003 (p_p.fOp != 12) [1,46] 1 (p_p.fM != 0)
def Qa(p_p:aP):Mo (Bool):=
 .iG 16003 (p_p.fOp != 18) (.iG 16008 (p_p.eF.aK != 0) (.rt [1,77] 1 (true))<|
 .nu p_p.eF.bK dO.lf<|
 .oV 16015 (decide ((0:Int)<(p_p.eF.bK.length:Int))) [1,77] 1 (p_p.eF.fR != 0))<|
 .rt [1,77] 1 (false)
def Qb(p_p:aP)(r0:Bool):Mo (Unit):=
 .rt [1,55] 1 ()
def Qc(p_p:aP):Mo (Bool):=
 .iG 18003 (p_p.fOp != 24) (.cl (aoV p_p.fExpr) fun r0 _=>
 .ret ⟨[.kill 0],[78],[],1⟩ (!r0))<|
 .ret ⟨[.kill 0],[78],[],1⟩ (false)
def GU(p_p:aP):Mo (Unit⊕Unit):=
 .jk Tryz.f242 0 [1,0,0,0] 11 (fun r_=>⟨[(1,.ptr 0 0),(3,.b_ r_)],[dB p_p]⟩) ⟨[(1,.ptr 0 0)],[dB p_p]⟩ (YS p_p) fun r0=>
 .iB (r0) (.ret ⟨[.kill 0],[],[],1⟩ (.inl ()))<|
 .jk Tryz.f242 0 [1,0,0,1,1,0] 13 (fun r_=>⟨[(1,.ptr 0 0),(14,.b_ r_)],[dB p_p]⟩) ⟨[(1,.ptr 0 0)],[dB p_p]⟩ (YT p_p) fun r1=>
 .iB (r1) (.ret ⟨[.kill 0],[],[],1⟩ (.inl ()))<|
 .jk Tryz.f242 0 [1,0,0,1,1,1,1,0] 15 (fun r_=>⟨[(1,.ptr 0 0),(25,.b_ r_)],[dB p_p]⟩) ⟨[(1,.ptr 0 0)],[dB p_p]⟩ (P7 p_p) fun r2=>
 .iB (r2) (.ret ⟨[.kill 0],[],[],1⟩ (.inl ()))<|
 .jk Tryz.f242 0 [1,0,0,1,1,1,1,1,1,0] 17 (fun r_=>⟨[(1,.ptr 0 0),(36,.b_ r_)],[dB p_p]⟩) ⟨[(1,.ptr 0 0)],[dB p_p]⟩ (P8 p_p) fun r3=>
 .iB (r3) (.ret ⟨[.kill 0],[],[],1⟩ (.inl ()))<|
 .jk Tryz.f242 0 [1,0,0,1,1,1,1,1,1,1,1,0] 19 (fun r_=>⟨[(1,.ptr 0 0),(46,.b_ r_)],[dB p_p]⟩) ⟨[(1,.ptr 0 0)],[dB p_p]⟩ (P9 p_p) fun r4=>
 .iB (r4) (.ret ⟨[.kill 0],[],[],1⟩ (.inl ()))<|
 .sf Tryz.f242 0 [1,0,0,1,1,1,1,1,1,1,1,1,1,0] 0 22 7 [(1,.ptr 0 0)] [dB p_p] 77 (Qa p_p) fun r5=>
 .sk Tryz.f242 0 [1,0,0,1,1,1,1,1,1,1,1,1,1,0] 22 1 7 (fun r_=>⟨[(1,.ptr 0 0),(55,.b_ r5)],[dB p_p]⟩) ⟨[(1,.ptr 0 0),(77,.b_ r5)],[dB p_p]⟩ (Qb p_p r5) fun r6=>
 .iB (r5) (.ret ⟨[.kill 0],[],[],1⟩ (.inl ()))<|
 .jk Tryz.f242 0 [1,0,0,1,1,1,1,1,1,1,1,1,1,1,1,0] 23 (fun r_=>⟨[(78,.b_ r_)],[.dead]⟩) ⟨[(1,.ptr 0 0)],[dB p_p]⟩ (Qc p_p) fun r7=>
 .iB (r7) (.rt [] 1 (.inl ()))<|
 .rt [2] 1 (.inr (()))
def Jk(p_p:aP):Option (Unit⊕Unit):=Mo.den (GU p_p)
def zY(r_:Unit⊕Unit):Exit:=match r_ with
 |.inl o_=>.normal
 |.inr (o_)=>.ret
def zZ  (r_:Unit⊕Unit):St:=match r_ with
 |.inl o_=>⟨[],[.dead]⟩
 |.inr (o_)=>⟨[(2,.b_ true)],[.dead]⟩
theorem Qd{p_p:aP}{r_:Unit⊕Unit}(h:Jk p_p=some r_):X4 Tryz.f242 0 [1,0] (zY r_) (zZ r_) ⟨[(1,.ptr 0 0)],[dB p_p]⟩:=
 JO BD (GU p_p) zY zZ (by kernel_rfl) h
def akR(p_p:aP):Mo (Bool):=
 .lD (Jk p_p) (fun o0 h0=>
 .say [.pt_ 6 [1] 1 (zY (.inl o0)) (zZ (.inl o0))] (ok1 (Qd h0))<|
 .ret (aY 1) (false)) fun o1 h0=>
 .say [.pt_ 6 [1] 1 (zY (.inr (o1))) (zZ (.inr (o1)))] (ok1 (Qd h0))<|
 .ret (aY 1) (true)
def Q19(p_p:aP):Option (Bool):=Mo.den (akR p_p)
theorem atn(p_p:aP):FV (Q19 p_p) 242 [.dat (aP.lf1 p_p)] .b_:=cO Tryz.func242
def DU(p_op:Int):Mo (Bool):=
 .iB (p_op==1) (.rt [3,4] 0 (p_op==1))<|
 .iB (p_op==2) (.rt [3,4] 0 (p_op==2))<|
 .rt [3,4] 0 (p_op==3)
def DV(p_op:Int):Mo (Bool):=
 .iB (p_op==18) (.rt [3,8] 0 (p_op==18))<|
 .iB (p_op==22) (.rt [3,8] 0 (p_op==22))<|
 .iB (p_op==23) (.rt [3,8] 0 (p_op==23))<|
 .iB (p_op==24) (.rt [3,8] 0 (p_op==24))<|
 .iB (p_op==26) (.rt [3,8] 0 (p_op==26))<|
 .iB (p_op==30) (.rt [3,8] 0 (p_op==30))<|
 .iB (p_op==31) (.rt [3,8] 0 (p_op==31))<|
 .rt [3,8] 0 (p_op==36)
def Qe(p_op:Int):Mo (Bool):=
 .iB (p_op==32) (.rt [3,17] 0 (p_op==32))<|
 .rt [3,17] 0 (p_op==33)
def Qg(p_op:Int):Mo (Bool):=
 .iB (p_op==19) (.rt [3,20] 0 (p_op==19))<|
 .rt [3,20] 0 (p_op==25)
def Qh(p_op:Int):Mo (Bool):=
 .iB (p_op==4) (.rt [3,23] 0 (p_op==4))<|
 .iB (p_op==6) (.rt [3,23] 0 (p_op==6))<|
 .iB (p_op==16) (.rt [3,23] 0 (p_op==16))<|
 .iB (p_op==17) (.rt [3,23] 0 (p_op==17))<|
 .iB (p_op==21) (.rt [3,23] 0 (p_op==21))<|
 .iB (p_op==29) (.rt [3,23] 0 (p_op==29))<|
 .rt [3,23] 0 (p_op==37)
def akS(p_op:Int):Mo (Int):=
 .jk Tryz.f291 0 [1,0,1,0,0,1] 1 (fun r_=>⟨[(3,.i_ p_op),(4,.b_ r_)],[]⟩) ⟨[(3,.i_ p_op),(4,.lf (.bool (p_op==1)))],[]⟩ (DU p_op) fun r0=>
 .iB (r0) (.ret (aY 1) (0))<|
 .jk Tryz.f291 0 [1,0,1,0,1,1,0,1] 1 (fun r_=>⟨[(3,.i_ p_op),(8,.b_ r_)],[]⟩) ⟨[(3,.i_ p_op),(8,.lf (.bool (p_op==18)))],[]⟩ (DV p_op) fun r1=>
 .iB (r1) (.ret (aY 1) (1))<|
 .jk Tryz.f291 0 [1,0,1,0,1,1,1,1,0,1] 1 (fun r_=>⟨[(3,.i_ p_op),(17,.b_ r_)],[]⟩) ⟨[(3,.i_ p_op),(17,.lf (.bool (p_op==32)))],[]⟩ (Qe p_op) fun r2=>
 .iB (r2) (.ret (aY 1) (3))<|
 .jk Tryz.f291 0 [1,0,1,0,1,1,1,1,1,1,0,1] 1 (fun r_=>⟨[(3,.i_ p_op),(20,.b_ r_)],[]⟩) ⟨[(3,.i_ p_op),(20,.lf (.bool (p_op==19)))],[]⟩ (Qg p_op) fun r3=>
 .iB (r3) (.ret (aY 1) (4))<|
 .jk Tryz.f291 0 [1,0,1,0,1,1,1,1,1,1,1,1,0,1] 1 (fun r_=>⟨[(3,.i_ p_op),(23,.b_ r_)],[]⟩) ⟨[(3,.i_ p_op),(23,.lf (.bool (p_op==4)))],[]⟩ (Qh p_op) fun r4=>
 .iB (r4) (.ret (aY 1) (5))<|
 .iB (p_op==35) (.ret (aY 1) (6))<|
 .iB (p_op==34) (.ret (aY 1) (7))<|
 .ret (aY 1) (2)
def Q85(p_op:Int):Option (Int):=Mo.den (akS p_op)
theorem akT(p_op:Int):FV (Q85 p_op) 291 [.i_ p_op] .i_:=cO Tryz.func291
def Qi(p_n:Int)(p_shape:Int):Mo (Bool):=
 .iB (p_shape==2) (.rt [1,5,14] 0 (p_shape==2))<|
 .rt [1,5,14] 0 (p_shape==3)
def acR(p_shape:Int)(p_n:Int):Mo (Bool):=
 .iB (p_shape==0) (.ret (aY 1) (p_n==0))<|
 .iB (p_shape==1) (.ret (aY 1) (p_n==1))<|
 .jk Tryz.f290 0 [1,0,1,0,1,1,1,1,0,1] 1 (fun r_=>⟨[(1,.i_ p_n),(5,.i_ p_shape),(14,.b_ r_)],[]⟩) ⟨[(1,.i_ p_n),(5,.i_ p_shape),(14,.lf (.bool (p_shape==2)))],[]⟩ (Qi p_n p_shape) fun r0=>
 .iB (r0) (.ret (aY 1) (p_n==2))<|
 .iB (p_shape==4) (.ret (aY 1) (p_n==3))<|
 .iB (p_shape==7) (.ret (aY 1) (decide ((1:Int)≤p_n)))<|
 .ret (aY 1) (true)
def aoW(p_shape:Int)(p_n:Int):Option (Bool):=Mo.den (acR p_shape p_n)
theorem aoX(p_shape:Int)(p_n:Int):FV (aoW p_shape p_n) 290 [.i_ p_shape,.i_ p_n] .b_:=cO Tryz.func290
def acS(p_s:ByteArray):Mo (Bool):=
 .say [.at_ 4 2,.NP 0 ([p_s].map lfS)] (ok1 (by simp[lfS]:[p_s].map lfS=[(lfS p_s)]))<|
 .cl (DL [p_s]) fun r0 _=>
 .ret (aY 1) (r0)
def aoY(p_s:ByteArray):Option (Bool):=Mo.den (acS p_s)
theorem afC(p_s:ByteArray):FV (aoY p_s) 292 [.lf (.str p_s)] .b_:=cO Tryz.func292
def KU(m6980:List (ByteArray×Bool))(p_l:List ByteArray)(v0:Int)(x0:ByteArray):Mo (Bool):=
 .cl (afC x0) fun r0 _=>
 .iG 12003 (!r0) (.rt [3,5,7,8,9,20] 1 (true))<|
 .say [.row [.bool (xZ m6980 x0 false)]] (okc (rfl:Tryz.prog=Tryz.prog) (ok1 (JU _ _ _:oq (m6980.map mvB) x0 (.bool false)=(.bool (xZ m6980 x0 false)))))<|
 .rt [3,5,7,8,9,20] 1 (xZ m6980 x0 false)
def yw(p_l:List ByteArray):(Int×(List (ByteArray×Bool)))→Mo ((Int×(List (ByteArray×Bool)))⊕(Unit⊕Unit)):=fun(v0,m6980)=>
 .iB (decide ((v0:Int)<(p_l.length:Int))) (.gx lS_ p_l v0 fun x0 _=>
 .jk Tryz.f293 0 [1,1,0,1,0,0,1,1,0,0,1,0,0] 17 (fun r_=>⟨[(3,.mp 0),(5,.lf (.str x0)),(7,.lf (.rows 1 (p_l.map lfS))),(8,.i_ (p_l.length:Int)),(9,.i_ v0),(20,.b_ r_)],[.map Tryz.prog 9 4 (m6980.map mvB)]⟩) ⟨[(3,.mp 0),(5,.lf (.str x0)),(7,.lf (.rows 1 (p_l.map lfS))),(8,.i_ (p_l.length:Int)),(9,.i_ v0)],[.map Tryz.prog 9 4 (m6980.map mvB)]⟩ (KU m6980 p_l v0 x0) fun r0=>
 .iB (r0) (.ret ⟨[.kill 0],[2],[],1⟩ (.inr (.inl ())))<|
 .say [] (ok1 (rfl:Tryz.prog=Tryz.prog))<|
 .grd (m6980.length<maxLen) fun h0=>
 .say [] (ok1 (by simpa using h0:(m6980.map mvB).length<maxLen))<|
 .rt [3,7,8,9] 1 (.inl (IntKind.wrap .i64 (v0+1),(x0,true)::m6980)))<|
 .ret ⟨[.kill 0],[],[],1⟩ (.inr (.inr (())))
def ato(p_l:List ByteArray)(v0:Int)(m6980:List (ByteArray×Bool)):Option (Unit⊕Unit):=bQ (fun v_=>(yw p_l v_).den) FU (v0,m6980)
def akU(p_l:List ByteArray):Mo (Bool):=
 .nu p_l lfS<|
 .l2 Tryz.f293 0 [1,1,0,1,0] 0 (fun(v0,m6980)=>⟨[(3,.mp 0),(7,.lf (.rows 1 (p_l.map lfS))),(8,.i_ (p_l.length:Int)),(9,.i_ v0)],[.map Tryz.prog 9 4 (m6980.map mvB)]⟩) .ret (fun _=>⟨[(2,.b_ false)],[.dead]⟩) (.exit 0) (fun _=>⟨[],[.dead]⟩) (yw p_l) (0,([]:List (ByteArray×Bool))) (fun o0=>
 .ret (aY 1) (false)) fun o1=>
 .ret (aY 1) (true)
def Q75(p_l:List ByteArray):Option (Bool):=Mo.den (akU p_l)
theorem atp(p_l:List ByteArray):FV (Q75 p_l) 293 [.lf (.rows 1 (p_l.map lfS))] .b_:=cO Tryz.func293
def acT(p_v:ah):Mo (Bool):=
 .sf Tryz.f294 0 [1,0] 0 8 1 [(1,.ptr 0 0),(2,.b_ false)] [bG p_v] 10 (nI p_v) fun r0=>
 .sb Tryz.f294 0 [1,0] 8 5 1 [(1,.ptr 0 0),(2,.b_ false)] [bG p_v] 10 15 r0 (nJ p_v r0) fun r1=>
 .sb Tryz.f294 0 [1,0] 13 6 1 [(1,.ptr 0 0),(2,.b_ false)] [bG p_v] 15 21 r1 (lq p_v r1) fun r2=>
 .sk Tryz.f294 0 [1,0] 19 6 1 (fun r_=>⟨[(2,.b_ false),(27,.b_ r_)],[.dead]⟩) ⟨[(1,.ptr 0 0),(2,.b_ false),(21,.b_ r2)],[bG p_v]⟩ (lu p_v r2) fun r3=>
 .sk Tryz.f294 0 [1,0] 25 1 1 (fun r_=>⟨[(2,.b_ r3)],[.dead]⟩) ⟨[(2,.b_ false),(27,.b_ r3)],[.dead]⟩ (dG r3) fun r4=>
 .ret (aY 1) (r3)
def aoZ(p_v:ah):Option (Bool):=Mo.den (acT p_v)
theorem ao0(p_v:ah):FV (aoZ p_v) 294 [.dat (ah.lf1 p_v)] .b_:=cO Tryz.func294
def YU(p_e:aT):Mo (Bool):=
 .ite (decide ((p_e.fOp:Int)<1)) (fun c0=>
 .say [.gY (.q 0 (.q 1 (.q 2 (.q 3 (.q 4 (.q 5 (.q 6 (.q 7 (.q 8 (.q 9 (.q 10 (.q 12 (.q 13 (.q 14 (.l 11 (.l 15 (.q 16 (.q 17 .fin)))))))))))))))))) (some 15) [] [.gd 4003 true] [1,22] 1 [(1,.ptr 0 0),(22,.b_ true)] [dJ p_e]] (okc c0 (ok1 (rf_ ⟨[(1,.ptr 0 0),(22,.b_ true)],[dJ p_e]⟩)))<|
 .rt [1,22] 1 (true)) fun c0=>
 .say [] (ok1 c0)<|
 .ite (decide ((37:Int)<p_e.fOp)) (fun c1=>
 .say [.gY (.q 0 (.q 1 (.q 2 (.q 3 (.q 4 (.q 5 (.q 6 (.q 7 (.q 8 (.q 9 (.q 10 (.q 12 (.q 13 (.q 14 (.l 11 (.l 15 (.q 16 (.q 17 .fin)))))))))))))))))) (some 15) [] [.gd 4003 false,.gd 4008 true] [1,22] 1 [(1,.ptr 0 0),(22,.b_ true)] [dJ p_e]] (okc c1 (ok1 (rf_ ⟨[(1,.ptr 0 0),(22,.b_ true)],[dJ p_e]⟩)))<|
 .rt [1,22] 1 (true)) fun c1=>
 .say [] (okc c1 (ok1 (ln_ p_e.bJ aT.lf)))<|
 .ask (Q85 p_e.fOp) fun r0 h0=>
 .say [] (ok1 (akT _ _ h0))<|
 .ask (aoW r0 (p_e.bJ.length:Int)) fun r1 h1=>
 .say [.gY (.q 0 (.q 1 (.q 2 (.q 3 (.q 4 (.q 5 (.q 6 (.q 7 (.q 8 (.q 9 (.q 10 (.q 12 (.q 13 (.q 14 (.l 11 (.l 15 (.q 16 (.q 17 .fin)))))))))))))))))) (some 15) [] [.gd 4003 false,.gd 4008 false,.num p_e.bJ.length,.res (.i_ r0),.res (.b_ r1)] [1,22] 1 [(1,.ptr 0 0),(22,.lf (.bool (!r1)))] [dJ p_e]] (okc (aoX _ _ _ h1) (ok1 (rf_ ⟨[(1,.ptr 0 0),(22,.lf (.bool (!r1)))],[dJ p_e]⟩)))<|
 .rt [1,22] 1 (!r1)
def YV(p_e:aT):Mo (Bool):=
 .iG 8003 (p_e.fOp==34) (.nu p_e.bJ aT.lf<|
 .nu p_e.eH lfS<|
 .rt [1,34] 1 ((p_e.bJ.length:Int) != (p_e.eH.length:Int)))<|
 .rt [1,34] 1 (false)
def Qj(p_e:aT):Mo (Bool):=
 .oV 12003 (p_e.fOp==2) [1,3] 1 (p_e.fOp==3)
def Qk(p_e:aT)(r0:Bool):Mo (Bool):=
 .iG 14003 (p_e.fOp==3) (.rt [1,3,4] 1 (true))<|
 .cl (akT p_e.fOp) fun r1 _=>
 .rt [1,3,4] 1 (r1==3)
def Ql(p_e:aT)(r0:Bool)(r1:Bool):Mo (Bool):=
 .iG 16001 (r0) (.cl (DL p_e.cZ) fun r2 _=>
 .rt [1,3,4,58] 1 (!r2))<|
 .rt [1,3,4,58] 1 (false)
def Qm(p_e:aT)(r0:Bool)(r1:Bool)(r2:Bool):Mo (Bool):=
 .iG 16007 (r2) (.iG 16011 (p_e.fOp==2) (.rt [1,3,4,69] 1 (true))<|
 .nu p_e.cZ lfS<|
 .rt [1,3,4,69] 1 (decide ((0:Int)<(p_e.cZ.length:Int))))<|
 .rt [1,3,4,69] 1 (false)
def Qn(p_e:aT)(r0:Bool)(r1:Bool):Mo (Bool):=
 .iG 20001 (r1) (.cl (afC p_e.fName) fun r2 _=>
 .rt [1,3,4,76] 1 (!r2))<|
 .rt [1,3,4,76] 1 (false)
def Qo(p_e:aT)(r0:Bool)(r1:Bool)(r2:Bool):Mo (Bool):=
 .iG 20007 (r2) (.rt [1,3,4,87] 1 (true))<|
 .iG 20011 (p_e.fOp==34) (.cl (atp p_e.eH) fun r3 _=>
 .rt [1,3,4,87] 1 (!r3))<|
 .rt [1,3,4,87] 1 (false)
def Qp(p_e:aT)(r0:Bool)(r1:Bool):Mo (Bool):=
 .iG 24003 (p_e.fOp==1) (.cl (rZ p_e.fArg) fun r2 _=>
 .rt [1,3,4,96] 1 (!r2))<|
 .rt [1,3,4,96] 1 (false)
def Qq(p_e:aT)(r0:Bool)(r1:Bool):Mo (Bool):=
 .iG 28002 (!r0) (.nu p_e.cZ lfS<|
 .rt [1,4,104] 1 (decide ((0:Int)<(p_e.cZ.length:Int))))<|
 .rt [1,4,104] 1 (false)
def Qr(p_e:aT)(r0:Bool)(r1:Bool):Mo (Bool):=
 .iG 28008 (r1) (.rt [1,113] 1 (true))<|
 .aV 28011 (!r0) [1,113] 1 (!decide ((p_e.fName:ByteArray)=(⟨#[]⟩:ByteArray)))
def Qs(p_e:aT)(r0:Bool):Mo (Bool):=
 .iG 28017 (r0) (.rt [1,124] 1 (true))<|
 .iG 28021 (p_e.fOp != 34) (.nu p_e.eH lfS<|
 .rt [1,124] 1 (decide ((0:Int)<(p_e.eH.length:Int))))<|
 .rt [1,124] 1 (false)
def Qu(p_e:aT):Mo (Bool):=
 .iG 32003 (p_e.fOp != 1) (.cl (ao0 p_e.fArg) fun r0 _=>
 .rt [1,133] 1 (!r0))<|
 .rt [1,133] 1 (false)
def Qv(p_e:aT)(r0:Bool):Mo (Bool):=
 .iG 32009 (r0) (.ret ⟨[.kill 0],[138],[],1⟩ (true))<|
 .ret ⟨[.kill 0],[138],[],1⟩ (p_e.fN != 0)
def akV(p_e:aT):Mo (Int):=
 .jk Tryz.f287 0 [1,0,0] 9 (fun r_=>⟨[(1,.ptr 0 0),(22,.b_ r_)],[dJ p_e]⟩) ⟨[(1,.ptr 0 0)],[dJ p_e]⟩ (YU p_e) fun r0=>
 .iB (r0) (.ret (aY 1) (11))<|
 .jk Tryz.f287 0 [1,1,0,0] 13 (fun r_=>⟨[(1,.ptr 0 0),(34,.b_ r_)],[dJ p_e]⟩) ⟨[(1,.ptr 0 0)],[dJ p_e]⟩ (YV p_e) fun r1=>
 .iB (r1) (.ret (aY 1) (11))<|
 .jk Tryz.f287 0 [1,1,1,0] 17 (fun r_=>⟨[(1,.ptr 0 0),(3,.b_ r_)],[dJ p_e]⟩) ⟨[(1,.ptr 0 0)],[dJ p_e]⟩ (Qj p_e) fun r2=>
 .jk Tryz.f287 0 [1,1,1,1,0] 19 (fun r_=>⟨[(1,.ptr 0 0),(3,.b_ r2),(4,.b_ r_)],[dJ p_e]⟩) ⟨[(1,.ptr 0 0),(3,.b_ r2)],[dJ p_e]⟩ (Qk p_e r2) fun r3=>
 .sf Tryz.f287 0 [1,1,1,1,1,0,0] 0 7 7 [(1,.ptr 0 0),(3,.b_ r2),(4,.b_ r3)] [dJ p_e] 58 (Ql p_e r2 r3) fun r4=>
 .sb Tryz.f287 0 [1,1,1,1,1,0,0] 7 11 7 [(1,.ptr 0 0),(3,.b_ r2),(4,.b_ r3)] [dJ p_e] 58 69 r4 (Qm p_e r2 r3 r4) fun r5=>
 .iB (r5) (.ret (aY 1) (10))<|
 .sf Tryz.f287 0 [1,1,1,1,1,1,0,0] 0 7 9 [(1,.ptr 0 0),(3,.b_ r2),(4,.b_ r3)] [dJ p_e] 76 (Qn p_e r2 r3) fun r6=>
 .sb Tryz.f287 0 [1,1,1,1,1,1,0,0] 7 11 9 [(1,.ptr 0 0),(3,.b_ r2),(4,.b_ r3)] [dJ p_e] 76 87 r6 (Qo p_e r2 r3 r6) fun r7=>
 .iB (r7) (.ret (aY 1) (9))<|
 .jk Tryz.f287 0 [1,1,1,1,1,1,1,0,0] 29 (fun r_=>⟨[(1,.ptr 0 0),(3,.b_ r2),(4,.b_ r3),(96,.b_ r_)],[dJ p_e]⟩) ⟨[(1,.ptr 0 0),(3,.b_ r2),(4,.b_ r3)],[dJ p_e]⟩ (Qp p_e r2 r3) fun r8=>
 .iB (r8) (.ret (aY 1) (8))<|
 .sk Tryz.f287 0 [1,1,1,1,1,1,1,1,0,0] 0 8 13 (fun r_=>⟨[(1,.ptr 0 0),(4,.b_ r3),(104,.b_ r_)],[dJ p_e]⟩) ⟨[(1,.ptr 0 0),(3,.b_ r2),(4,.b_ r3)],[dJ p_e]⟩ (Qq p_e r2 r3) fun r9=>
 .sk Tryz.f287 0 [1,1,1,1,1,1,1,1,0,0] 8 9 13 (fun r_=>⟨[(1,.ptr 0 0),(113,.b_ r_)],[dJ p_e]⟩) ⟨[(1,.ptr 0 0),(4,.b_ r3),(104,.b_ r9)],[dJ p_e]⟩ (Qr p_e r3 r9) fun r10=>
 .sb Tryz.f287 0 [1,1,1,1,1,1,1,1,0,0] 17 11 13 [(1,.ptr 0 0)] [dJ p_e] 113 124 r10 (Qs p_e r10) fun r11=>
 .iB (r11) (.ret (aY 1) (4))<|
 .sf Tryz.f287 0 [1,1,1,1,1,1,1,1,1,0,0] 0 9 15 [(1,.ptr 0 0)] [dJ p_e] 133 (Qu p_e) fun r12=>
 .sk Tryz.f287 0 [1,1,1,1,1,1,1,1,1,0,0] 9 5 15 (fun r_=>⟨[(138,.b_ r_)],[.dead]⟩) ⟨[(1,.ptr 0 0),(133,.b_ r12)],[dJ p_e]⟩ (Qv p_e r12) fun r13=>
 .iB (r13) (.ret (aY 1) (4))<|
 .ret (aY 1) (0)
def Q21(p_e:aT):Option (Int):=Mo.den (akV p_e)
theorem atq(p_e:aT):FV (Q21 p_e) 287 [.dat (aT.lf1 p_e)] .i_:=cO Tryz.func287
abbrev VF(m:aT→Int→Int→Option (Int×Int)):Prop:=∀p_e p_level p_b0,FH (m p_e p_level p_b0) 282 [.dat (aT.lf1 p_e),.i_ p_level,.ptr 0 0] [.box 3 (.dat [(.int .i64 p_b0)])] (fun r=>.i_ r.1) (fun r=>[.box 3 (.dat [(.int .i64 r.2)])])
structure ahm where
 m1:(p_e:aT)→(p_level:Int)→(p_b0:Int)→Option (Int×Int)
 ok1:VF m1
def Aa(R_:ahm)(p_b0:Int)(p_e:aT)(p_level:Int):Mo (Bool):=
 .oV 4002 (decide ((16:Int)<p_level)) [1,2,3,18] 2 (p_b0==256)
def uG(R_:ahm)(p_e:aT)(p_level:Int):(Int×Int)→Mo ((Int×Int)⊕(Int×Int)⊕(Int)):=fun(v0,v1)=>
 .iB (decide ((v0:Int)<(p_e.bJ.length:Int))) (.gx aT.aX p_e.bJ v0 fun x0 _=>
 .say [.at_ 22 4,.tod 36] ok0<|
 .cH [0] (R_.ok1 x0 (IntKind.wrap .i64 (p_level+1)) v1) fun r0 _=>
 .iB (r0.1 != 0) (.rt [6] 2 (.inr (.inl (r0.1,r0.2))))<|
 .rt [1,2,30,31,32] 2 (.inl (IntKind.wrap .i64 (v0+1),r0.2)))<|
 .rt [] 2 (.inr (.inr (v1)))
def ao1(R_:ahm)(p_e:aT)(p_level:Int)(v0:Int)(v1:Int):Option ((Int×Int)⊕(Int)):=bQ (fun v_=>(uG R_ p_e p_level v_).den) FU (v0,v1)
def Cb(R_:ahm)(p_e:aT)(p_level:Int)(p_b0:Int):Mo (Int×Int):=
 .jk Tryz.f282 1 [1,0,0] 9 (fun r_=>⟨[(1,.i_ p_level),(2,.ptr 0 0),(3,.ptr 1 0),(18,.b_ r_)],[.box 3 (.dat [(.int .i64 p_b0)]),dJ p_e]⟩) ⟨[(1,.i_ p_level),(2,.ptr 0 0),(3,.ptr 1 0)],[.box 3 (.dat [(.int .i64 p_b0)]),dJ p_e]⟩ (Aa R_ p_b0 p_e p_level) fun r0=>
 .iB (r0) (.ret ⟨[.kill 1],[0],[],1⟩ (2,p_b0))<|
 .cl (atq p_e) fun r1 _=>
 .iB (r1 != 0) (.ret ⟨[.kill 1],[0],[],1⟩ (r1,IntKind.wrap .i64 (p_b0+1)))<|
 .nu p_e.bJ aT.lf<|
 .l2y [.kill 1] Tryz.f282 1 [1,1,1,1,0,1,0] 0 (fun(v0,v1)=>⟨[(1,.i_ p_level),(2,.ptr 0 0),(30,.lf (.rows 11 (p_e.bJ.map aT.lf))),(31,.i_ (p_e.bJ.length:Int)),(32,.i_ v0)],[.box 3 (.dat [(.int .i64 v1)]),.dead]⟩) .ret (fun o_=>⟨[(6,.i_ o_.1)],[.box 3 (.dat [(.int .i64 o_.2)]),.dead]⟩) (.exit 0) (fun o_=>⟨[],[.box 3 (.dat [(.int .i64 o_)]),.dead]⟩) (uG R_ p_e p_level) (0,(IntKind.wrap .i64 (p_b0+1))) (fun o0=>
 .rt [0] 1 (o0.1,o0.2)) fun o1=>
 .rt [0] 1 (0,o1)
theorem akW(R_:ahm):VF fun p_e p_level p_b0=>Mo.den (Cb R_ p_e p_level p_b0):=fun _ _ _=>ig Tryz.func282
def qW:Nat→ahm
 |0=>{ m1:=fun p_e p_level p_b0=>none,ok1:=fun _ _ _ _ h=>(by cases h) }
 |n_+1=>{ m1:=fun p_e p_level p_b0=>Mo.den (Cb (qW n_) p_e p_level p_b0),ok1:=akW (qW n_) }
def atr(p_e:aT)(p_level:Int)(p_b0:Int):Option (Int×Int):=(qW FU).m1 p_e p_level p_b0
theorem ao2:VF atr:=(qW FU).ok1
def acU(p_e:aT):Mo (Int):=
 .cH [1] (ao2 p_e 1 0) fun r0 _=>
 .ret (aY 1) (r0.1)
def ao3(p_e:aT):Option (Int):=Mo.den (acU p_e)
theorem ao4(p_e:aT):FV (ao3 p_e) 243 [.dat (aT.lf1 p_e)] .i_:=cO Tryz.func243
def VG(p_inside:Bool)(p_p:aP):Mo (Bool):=
 .oV 4003 (decide ((p_p.fOp:Int)<1)) [1,2,15] 1 (decide ((24:Int)<p_p.fOp))
def VH(p_inside:Bool)(p_p:aP)(r0:Bool):Mo (Bool):=
 .iG 4008 (r0) (.rt [1,2,24] 1 (true))<|
 .nu p_p.bJ aP.lf<|
 .cl (aoP p_p.fOp (p_p.bJ.length:Int)) fun r1 _=>
 .rt [1,2,24] 1 (!r1)
def KW(p_inside:Bool)(p_p:aP):Mo (Bool):=
 .cl (Vs p_p.fOp) fun r0 _=>
 .iG 8003 (r0) (.nu p_p.fArgs ah.lf<|
 .rt [1,2,33] 1 ((p_p.fArgs.length:Int)==0))<|
 .rt [1,2,33] 1 (false)
def KX(p_inside:Bool)(p_p:aP)(r0:Bool):Mo (Bool):=
 .iG 8009 (r0) (.rt [1,2,38] 1 (true))<|
 .cl (atl p_p) fun r1 _=>
 .rt [1,2,38] 1 (!r1)
def KY(p_inside:Bool)(p_p:aP):Mo (Bool):=
 .cl (afz p_p.fOp) fun r0 _=>
 .iG 12003 (r0) (.cl (DL p_p.cZ) fun r1 _=>
 .rt [1,2,47] 1 (!r1))<|
 .rt [1,2,47] 1 (false)
def KZ(p_inside:Bool)(p_p:aP)(r0:Bool):Mo (Bool):=
 .iG 12009 (r0) (.iG 12012 (!p_inside) (.rt [2,57] 1 (true))<|
 .nu p_p.cZ lfS<|
 .rt [2,57] 1 (decide ((0:Int)<(p_p.cZ.length:Int))))<|
 .rt [2,57] 1 (false)
def La(p_p:aP):Mo (Bool):=
 .cl (afA p_p.fOp) fun r0 _=>
 .iG 16003 (r0) (.cl (rZ p_p.fArg) fun r1 _=>
 .rt [2,66] 1 (!r1))<|
 .rt [2,66] 1 (false)
def Lc(p_p:aP)(r0:Bool):Mo (Bool):=
 .iG 16009 (r0) (.rt [2,77] 1 (true))<|
 .cl (Vw p_p.fOp) fun r1 _=>
 .aV 16013 (r1) [2,77] 1 (p_p.fArg.aK != 4)
def yx(p_p:aP):(Int)→Mo ((Int)⊕(Unit⊕Unit)):=fun(v0)=>
 .iB (decide ((v0:Int)<(p_p.fArgs.length:Int))) (.gx ah.aX p_p.fArgs v0 fun x0 _=>
 .cl (rZ x0) fun r0 _=>
 .iB (!r0) (.ret ⟨[.kill 0],[4],[],1⟩ (.inr (.inl ())))<|
 .rt [2,82,83,84] 1 (.inl (IntKind.wrap .i64 (v0+1))))<|
 .rt [2] 1 (.inr (.inr (())))
def acV(p_p:aP)(v0:Int):Option (Unit⊕Unit):=bQ (fun v_=>(yx p_p v_).den) FU (v0)
def Ld(p_p:aP)(r0:Bool):Mo (Unit⊕Unit):=
 .iB (r0) (.nu p_p.fArgs ah.lf<|
 .l2m [] Tryz.f187 0 [1,1,1,1,1,0,1,0,1,0] 0 (fun(v0)=>⟨[(2,.ptr 0 0),(82,.lf (.rows 5 (p_p.fArgs.map ah.lf))),(83,.i_ (p_p.fArgs.length:Int)),(84,.i_ v0)],[dB p_p]⟩) .ret (fun _=>⟨[(4,.i_ 8)],[.dead]⟩) (.exit 0) (fun _=>⟨[(2,.ptr 0 0)],[dB p_p]⟩) (acV p_p 0) (yx p_p) (0) (fun o0=>
 .rt [4] 1 (.inl ())) fun o1=>
 .rt [2] 1 (.inr (())))<|
 .rt [2] 1 (.inr (()))
def Lh(p_p:aP):Mo ((Int)⊕Unit):=
 .iB (p_p.fOp==18) (.cl (aoS p_p.eF) fun r0 _=>
 .iB (r0 != 0) (.ret ⟨[.kill 0],[4],[],1⟩ (.inl (r0)))<|
 .rt [2] 1 (.inr (())))<|
 .rt [2] 1 (.inr (()))
def att(p_p:aP)(p_inside:Bool):Mo (Int):=
 .sf Tryz.f187 0 [1,0,0] 0 8 1 [(1,.b_ p_inside),(2,.ptr 0 0)] [dB p_p] 15 (VG p_inside p_p) fun r0=>
 .sb Tryz.f187 0 [1,0,0] 8 9 1 [(1,.b_ p_inside),(2,.ptr 0 0)] [dB p_p] 15 24 r0 (VH p_inside p_p r0) fun r1=>
 .iB (r1) (.ret (aY 1) (11))<|
 .sf Tryz.f187 0 [1,1,0,0] 0 9 3 [(1,.b_ p_inside),(2,.ptr 0 0)] [dB p_p] 33 (KW p_inside p_p) fun r2=>
 .sb Tryz.f187 0 [1,1,0,0] 9 5 3 [(1,.b_ p_inside),(2,.ptr 0 0)] [dB p_p] 33 38 r2 (KX p_inside p_p r2) fun r3=>
 .iB (r3) (.ret (aY 1) (11))<|
 .sf Tryz.f187 0 [1,1,1,0,0] 0 9 5 [(1,.b_ p_inside),(2,.ptr 0 0)] [dB p_p] 47 (KY p_inside p_p) fun r4=>
 .sk Tryz.f187 0 [1,1,1,0,0] 9 10 5 (fun r_=>⟨[(2,.ptr 0 0),(57,.b_ r_)],[dB p_p]⟩) ⟨[(1,.b_ p_inside),(2,.ptr 0 0),(47,.b_ r4)],[dB p_p]⟩ (KZ p_inside p_p r4) fun r5=>
 .iB (r5) (.ret (aY 1) (10))<|
 .sf Tryz.f187 0 [1,1,1,1,0,0] 0 9 7 [(2,.ptr 0 0)] [dB p_p] 66 (La p_p) fun r6=>
 .sb Tryz.f187 0 [1,1,1,1,0,0] 9 11 7 [(2,.ptr 0 0)] [dB p_p] 66 77 r6 (Lc p_p r6) fun r7=>
 .iB (r7) (.ret (aY 1) (8))<|
 .cl (Vs p_p.fOp) fun r8 _=>
 .j2 [] Tryz.f187 0 [1,1,1,1,1,0,1] 1 .ret (fun _=>⟨[(4,.i_ 8)],[.dead]⟩) .normal (fun _=>⟨[(2,.ptr 0 0)],[dB p_p]⟩) ⟨[(2,.ptr 0 0),(80,.b_ r8)],[dB p_p]⟩ (Ld p_p r8) (fun o0=>
 .ret (aY 1) (8)) fun o1=>
 .j2 [] Tryz.f187 0 [1,1,1,1,1,1,0,1] 1 .ret (fun o_=>⟨[(4,.i_ o_)],[.dead]⟩) .normal (fun _=>⟨[(2,.ptr 0 0)],[dB p_p]⟩) ⟨[(2,.ptr 0 0),(94,.lf (.bool (p_p.fOp==18)))],[dB p_p]⟩ (Lh p_p) (fun o2=>
 .ret (aY 1) (o2)) fun o3=>
 .cl (atn p_p) fun r9 _=>
 .iB (!r9) (.ret (aY 1) (4))<|
 .iB (p_p.fOp==24) (.cl (ao4 p_p.fExpr) fun r10 _=>
 .ret (aY 1) (r10))<|
 .ret (aY 1) (0)
def Q6(p_p:aP)(p_inside:Bool):Option (Int):=Mo.den (att p_p p_inside)
theorem avu(p_p:aP)(p_inside:Bool):FV (Q6 p_p p_inside) 187 [.dat (aP.lf1 p_p),.b_ p_inside] .i_:=cO Tryz.func187
abbrev VI(m:aP→Bool→Option (Int)):Prop:=∀p_p p_inside,FV (m p_p p_inside) 143 [.dat (aP.lf1 p_p),.b_ p_inside] .i_
structure acW where
 m1:(p_p:aP)→(p_inside:Bool)→Option (Int)
 ok1:VI m1
def Lj(R_:acW)(p_inside:Bool)(p_p:aP)(v0:Int)(x0:aP):Mo (Int):=
 .iG 16002 (p_inside) (.cl (R_.ok1 x0 true) fun r0 _=>
 .ret ⟨[.kill 1],[1,2,8,16,17,18],[],2⟩ (r0))<|
 .cl (R_.ok1 x0 (p_p.fOp==15)) fun r1 _=>
 .ret ⟨[.kill 1],[1,2,8,16,17,18],[],2⟩ (r1)
def acX(R_:acW)(p_inside:Bool)(p_p:aP)(v0:Int)(x0:aP):Option (Int):=Mo.den (Lj R_ p_inside p_p v0 x0)
def yA(R_:acW)(p_inside:Bool)(p_p:aP):(Int)→Mo ((Int)⊕(Int)⊕Unit):=fun(v0)=>
 .iB (decide ((v0:Int)<(p_p.bJ.length:Int))) (.gx aP.aX p_p.bJ v0 fun x0 _=>
 .jp Tryz.f143 0 [1,1,0,1,0,0,1,1,0,0,1,0] 21 [1,2,7,16,17,18] 2 (.normal) (fun r_=>⟨[(1,.b_ p_inside),(2,.ptr 0 0),(8,.i_ r_),(16,.lf (.rows 25 (p_p.bJ.map aP.lf))),(17,.i_ (p_p.bJ.length:Int)),(18,.i_ v0)],[dB p_p,.dead]⟩) ⟨[(1,.b_ p_inside),(2,.ptr 0 0),(7,.ptr 1 0),(16,.lf (.rows 25 (p_p.bJ.map aP.lf))),(17,.i_ (p_p.bJ.length:Int)),(18,.i_ v0)],[dB p_p,.box 47 (.agg ((aP.lf1 x0).map AV.lf))]⟩ (acX R_ p_inside p_p v0 x0) (jW (by kernel_rfl)) fun r0 _=>
 .iB (r0 != 0) (.ret ⟨[.kill 0],[4],[],1⟩ (.inr (.inl (r0))))<|
 .rt [1,2,16,17,18] 1 (.inl (IntKind.wrap .i64 (v0+1))))<|
 .ret ⟨[.kill 0],[],[],1⟩ (.inr (.inr (())))
def acY(R_:acW)(p_inside:Bool)(p_p:aP)(v0:Int):Option ((Int)⊕Unit):=bQ (fun v_=>(yA R_ p_inside p_p v_).den) FU (v0)
def YW(R_:acW)(p_p:aP)(p_inside:Bool):Mo (Int):=
 .cl (avu p_p p_inside) fun r0 _=>
 .iB (r0 != 0) (.ret (aY 1) (r0))<|
 .nu p_p.bJ aP.lf<|
 .l2m [] Tryz.f143 0 [1,1,0,1,0] 0 (fun(v0)=>⟨[(1,.b_ p_inside),(2,.ptr 0 0),(16,.lf (.rows 25 (p_p.bJ.map aP.lf))),(17,.i_ (p_p.bJ.length:Int)),(18,.i_ v0)],[dB p_p]⟩) .ret (fun o_=>⟨[(4,.i_ o_)],[.dead]⟩) (.exit 0) (fun _=>⟨[],[.dead]⟩) (acY R_ p_inside p_p 0) (yA R_ p_inside p_p) (0) (fun o0=>
 .ret (aY 1) (o0)) fun o1=>
 .ret (aY 1) (0)
theorem ao5(R_:acW):VI fun p_p p_inside=>Mo.den (YW R_ p_p p_inside):=fun _ _=>cO Tryz.func143
def kH:Nat→acW
 |0=>{ m1:=fun p_p p_inside=>none,ok1:=fun _ _ _ h=>(by cases h) }
 |n_+1=>{ m1:=fun p_p p_inside=>Mo.den (YW (kH n_) p_p p_inside),ok1:=ao5 (kH n_) }
def Q50(p_p:aP)(p_inside:Bool):Option (Int):=(kH FU).m1 p_p p_inside
theorem atu:VI Q50:=(kH FU).ok1
def acZ(p_p:aP):Mo (Int):=
 .cH [1] (atj p_p 1 0) fun r0 _=>
 .iB (!r0.1) (.ret (aY 1) (2))<|
 .cl (atu p_p false) fun r1 _=>
 .ret (aY 1) (r1)
def ao6(p_p:aP):Option (Int):=Mo.den (acZ p_p)
theorem ao7(p_p:aP):FV (ao6 p_p) 97 [.dat (aP.lf1 p_p)] .i_:=cO Tryz.func97
def ac0(p_v:ah):Mo (Bool):=
 .sf Tryz.f144 0 [1,0] 0 8 1 [(1,.ptr 0 0),(2,.b_ false)] [bG p_v] 10 (nI p_v) fun r0=>
 .sb Tryz.f144 0 [1,0] 8 5 1 [(1,.ptr 0 0),(2,.b_ false)] [bG p_v] 10 15 r0 (nJ p_v r0) fun r1=>
 .sb Tryz.f144 0 [1,0] 13 6 1 [(1,.ptr 0 0),(2,.b_ false)] [bG p_v] 15 21 r1 (lq p_v r1) fun r2=>
 .sk Tryz.f144 0 [1,0] 19 6 1 (fun r_=>⟨[(2,.b_ false),(27,.b_ r_)],[.dead]⟩) ⟨[(1,.ptr 0 0),(2,.b_ false),(21,.b_ r2)],[bG p_v]⟩ (lu p_v r2) fun r3=>
 .sk Tryz.f144 0 [1,0] 25 1 1 (fun r_=>⟨[(2,.b_ r3)],[.dead]⟩) ⟨[(2,.b_ false),(27,.b_ r3)],[.dead]⟩ (dG r3) fun r4=>
 .ret (aY 1) (r3)
def ao8(p_v:ah):Option (Bool):=Mo.den (ac0 p_v)
theorem afD(p_v:ah):FV (ao8 p_v) 144 [.dat (ah.lf1 p_v)] .b_:=cO Tryz.func144
def Ll(p_x:aT)(r0:Bool):Mo (Bool):=
 .aC 4020 (r0) [1,2,27] 1 (afD p_x.fArg)
def ac1(p_x:aT):Mo (Bool):=
 .sf Tryz.f145 0 [1,0] 0 9 1 [(1,.ptr 0 0),(2,.b_ false)] [dJ p_x] 11 (oG p_x) fun r0=>
 .sb Tryz.f145 0 [1,0] 9 5 1 [(1,.ptr 0 0),(2,.b_ false)] [dJ p_x] 11 16 r0 (oH p_x r0) fun r1=>
 .sb Tryz.f145 0 [1,0] 14 6 1 [(1,.ptr 0 0),(2,.b_ false)] [dJ p_x] 16 22 r1 (mP p_x r1) fun r2=>
 .sb Tryz.f145 0 [1,0] 20 5 1 [(1,.ptr 0 0),(2,.b_ false)] [dJ p_x] 22 27 r2 (Ll p_x r2) fun r3=>
 .sb Tryz.f145 0 [1,0] 25 5 1 [(1,.ptr 0 0),(2,.b_ false)] [dJ p_x] 27 32 r3 (mQ p_x r3) fun r4=>
 .sk Tryz.f145 0 [1,0] 30 6 1 (fun r_=>⟨[(2,.b_ false),(38,.b_ r_)],[.dead]⟩) ⟨[(1,.ptr 0 0),(2,.b_ false),(32,.b_ r4)],[dJ p_x]⟩ (mV p_x r4) fun r5=>
 .sk Tryz.f145 0 [1,0] 36 1 1 (fun r_=>⟨[(2,.b_ r5)],[.dead]⟩) ⟨[(2,.b_ false),(38,.b_ r5)],[.dead]⟩ (dG r5) fun r6=>
 .ret (aY 1) (r5)
def ao9(p_x:aT):Option (Bool):=Mo.den (ac1 p_x)
theorem apa(p_x:aT):FV (ao9 p_x) 145 [.dat (aT.lf1 p_x)] .b_:=cO Tryz.func145
end
end Go.Proofs.YtbdcaeahocbkbaaGreatDoor
