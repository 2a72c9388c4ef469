/- Printed by dec.py. -/
import Derived.Test.YtflpefkohpjjpaaGreatDoorQY6
import Derived.Test.YtflpefkohpjjpaaGreatDoorQY4
import Derived.Test.YtflpefkohpjjpaaGreatDoorQYName
import Derived.Test.YtflpefkohpjjpaaGreatDoorQY3
import Derived.Test.YtflpefkohpjjpaaGreatDoorQYNumP
set_option linter.unusedSimpArgs false
set_option linter.unusedVariables false
namespace Go.Proofs.YtflpefkohpjjpaaGreatDoor
open Go.RowKit
set_option maxRecDepth 20000
set_option maxHeartbeats 4000000
noncomputable section
abbrev NV(m:aI→ak→Option (ak)):Prop:=∀p_s p_b0,FH (m p_s p_b0) 135 [.ptr 0 0,.dat (aI.lf1 p_s)] [.box 75 (.agg [.own 1,.b_ p_b0.cu]),.row 5 1 (p_b0.bg.map (lfK .u8))] (fun _=>.tup []) (fun r=>[.box 75 (.agg [.own 2,.b_ r.cu]),.dead,.row 5 1 (r.bg.map (lfK .u8))])
abbrev XC(m:(List bH)→ak→Option (ak)):Prop:=∀p_l p_b0,FH (m p_l p_b0) 210 [.ptr 0 0,.lf (.rows 22 (p_l.map bH.lf)),.raw (.func (.func 211) #[] #[])] [.box 75 (.agg [.own 1,.b_ p_b0.cu]),.row 5 1 (p_b0.bg.map (lfK .u8))] (fun _=>.tup []) (fun r=>[.box 75 (.agg [.own 2,.b_ r.cu]),.dead,.row 5 1 (r.bg.map (lfK .u8))])
abbrev XD(m:(List aI)→ak→Option (ak)):Prop:=∀p_l p_b0,FH (m p_l p_b0) 212 [.ptr 0 0,.lf (.rows 21 (p_l.map aI.lf)),.raw (.func (.func 135) #[] #[])] [.box 75 (.agg [.own 1,.b_ p_b0.cu]),.row 5 1 (p_b0.bg.map (lfK .u8))] (fun _=>.tup []) (fun r=>[.box 75 (.agg [.own 2,.b_ r.cu]),.dead,.row 5 1 (r.bg.map (lfK .u8))])
abbrev XE(m:bH→ak→Option (ak)):Prop:=∀p_p p_b0,FH (m p_p p_b0) 211 [.ptr 0 0,.dat (bH.lf1 p_p)] [.box 75 (.agg [.own 1,.b_ p_b0.cu]),.row 5 1 (p_b0.bg.map (lfK .u8))] (fun _=>.tup []) (fun r=>[.box 75 (.agg [.own 2,.b_ r.cu]),.dead,.row 5 1 (r.bg.map (lfK .u8))])
structure GL where
 m1:(p_s:aI)→(p_b0:ak)→Option (ak)
 ok1:NV m1
 m2:(p_l:List bH)→(p_b0:ak)→Option (ak)
 ok2:XC m2
 m3:(p_l:List aI)→(p_b0:ak)→Option (ak)
 ok3:XD m3
 m4:(p_p:bH)→(p_b0:ak)→Option (ak)
 ok4:XE m4
def NW(R_:GL)(p_s:aI)(p_b0:ak):Mo (ak):=
 .cH [0,1] (je p_s.jF p_b0) fun r0 _=>
 .cH [0,3] (qg p_s.iQ r0) fun r1 _=>
 .cH [0,4] (vg p_s.kE r1) fun r2 _=>
 .cH [0,5] (qg p_s.iR r2) fun r3 _=>
 .cH [0,6] (vg p_s.kF r3) fun r4 _=>
 .cH [0,7] (adh p_s.jL r4) fun r5 _=>
 .cH [0,8] (je p_s.iU r5) fun r6 _=>
 .cH [0,9] (je p_s.iV r6) fun r7 _=>
 .cH [0,10] (Gx p_s.dK r7) fun r8 _=>
 .cH [0,11] (R_.ok2 p_s.dN r8) fun r9 _=>
 .cH [0,12] (qg p_s.jD r9) fun r10 _=>
 .cH [0,13] (R_.ok3 p_s.dP r10) fun r11 _=>
 .cH [0,14] (qg p_s.dY r11) fun r12 _=>
 .ret ⟨[.kill 2,.mvn 15],[],[(16,2)],3⟩ (r12)
theorem adq(R_:GL):NV fun p_s p_b0=>Mo.den (NW R_ p_s p_b0):=fun _ _=>dQ Tryz.func135
def CS(R_:GL)(p_l:List bH):(Int×Bool×(List Int))→Mo ((Int×Bool×(List Int))⊕(Bool×(List Int))):=fun(v0,v1,l0)=>
 .iB (decide ((v0:Int)<(p_l.length:Int))) (.gx bH.aW p_l v0 fun x0 _=>
 .say [.at_ 10 3,.tod 20] ok0<|
 .cH [0,2] (R_.ok4 x0 (ak.mk l0 v1)) fun r0 _=>
 .ret ⟨[],[0,2,12,13,14],[(4,2)],3⟩ (.inl (IntKind.wrap .i64 (v0+1),r0.cu,r0.bg)))<|
 .rt [] 3 (.inr (v1,l0))
def NY(R_:GL)(p_l:List bH)(p_b0:ak):Mo (ak):=
 .nu p_l bH.lf<|
 .ask (Q7 (p_l.length:Int) p_b0) fun r0 h0=>
 .say [.gy [0,1] (.tup []) [.box 75 (.agg [.own 2,.b_ r0.cu]),.dead,.row 5 1 (r0.bg.map (lfK .u8))],.num p_l.length] (okc (je _ _ _ h0) (ok1 (ln_ p_l bH.lf)))<|
 .l1 Tryz.f210 2 [1,1,0] 0 (.exit 0) (fun(v0,v1,l0)=>⟨[(0,.ptr 0 0),(2,.raw (.func (.func 211) #[] #[])),(12,.lf (.rows 22 (p_l.map bH.lf))),(13,.i_ (p_l.length:Int)),(14,.i_ v0)],[.box 75 (.agg [.own 2,.b_ v1]),.dead,.row 5 1 (l0.map (lfK .u8))]⟩) (fun r_=>⟨[],[.box 75 (.agg [.own 2,.b_ r_.1]),.dead,.row 5 1 (r_.2.map (lfK .u8))]⟩) (CS R_ p_l) (0,r0.cu,r0.bg) fun r1=>
 .ret ⟨[.mvn 2],[],[(3,2)],3⟩ (ak.mk r1.2 r1.1)
theorem adr(R_:GL):XC fun p_l p_b0=>Mo.den (NY R_ p_l p_b0):=fun _ _=>dQ Tryz.func210
def GN(R_:GL)(p_l:List aI):(Int×Bool×(List Int))→Mo ((Int×Bool×(List Int))⊕(Bool×(List Int))):=fun(v0,v1,l0)=>
 .iB (decide ((v0:Int)<(p_l.length:Int))) (.gx aI.aW p_l v0 fun x0 _=>
 .say [.at_ 10 3,.tod 20] ok0<|
 .cH [0,2] (R_.ok1 x0 (ak.mk l0 v1)) fun r0 _=>
 .ret ⟨[],[0,2,12,13,14],[(4,2)],3⟩ (.inl (IntKind.wrap .i64 (v0+1),r0.cu,r0.bg)))<|
 .rt [] 3 (.inr (v1,l0))
def XF(R_:GL)(p_l:List aI)(p_b0:ak):Mo (ak):=
 .nu p_l aI.lf<|
 .ask (Q7 (p_l.length:Int) p_b0) fun r0 h0=>
 .say [.gy [0,1] (.tup []) [.box 75 (.agg [.own 2,.b_ r0.cu]),.dead,.row 5 1 (r0.bg.map (lfK .u8))],.num p_l.length] (okc (je _ _ _ h0) (ok1 (ln_ p_l aI.lf)))<|
 .l1 Tryz.f212 2 [1,1,0] 0 (.exit 0) (fun(v0,v1,l0)=>⟨[(0,.ptr 0 0),(2,.raw (.func (.func 135) #[] #[])),(12,.lf (.rows 21 (p_l.map aI.lf))),(13,.i_ (p_l.length:Int)),(14,.i_ v0)],[.box 75 (.agg [.own 2,.b_ v1]),.dead,.row 5 1 (l0.map (lfK .u8))]⟩) (fun r_=>⟨[],[.box 75 (.agg [.own 2,.b_ r_.1]),.dead,.row 5 1 (r_.2.map (lfK .u8))]⟩) (GN R_ p_l) (0,r0.cu,r0.bg) fun r1=>
 .ret ⟨[.mvn 2],[],[(3,2)],3⟩ (ak.mk r1.2 r1.1)
theorem ahy(R_:GL):XD fun p_l p_b0=>Mo.den (XF R_ p_l p_b0):=fun _ _=>dQ Tryz.func212
def NZ(R_:GL)(p_p:bH)(p_b0:ak):Mo (ak):=
 .cH [0,1] (uY p_p.fName p_b0) fun r0 _=>
 .cH [0,3] (R_.ok1 p_p.aZ r0) fun r1 _=>
 .ret ⟨[.kill 2,.mvn 4],[],[(5,2)],3⟩ (r1)
theorem ads(R_:GL):XE fun p_p p_b0=>Mo.den (NZ R_ p_p p_b0):=fun _ _=>dQ Tryz.func211
def jG:Nat→GL
 |0=>{ m1:=fun p_s p_b0=>none,ok1:=fun _ _ _ h=>(by cases h),m2:=fun p_l p_b0=>none,ok2:=fun _ _ _ h=>(by cases h),m3:=fun p_l p_b0=>none,ok3:=fun _ _ _ h=>(by cases h),m4:=fun p_p p_b0=>none,ok4:=fun _ _ _ h=>(by cases h) }
 |n_+1=>{ m1:=fun p_s p_b0=>Mo.den (NW (jG n_) p_s p_b0),ok1:=adq (jG n_),m2:=fun p_l p_b0=>Mo.den (NY (jG n_) p_l p_b0),ok2:=adr (jG n_),m3:=fun p_l p_b0=>Mo.den (XF (jG n_) p_l p_b0),ok3:=ahy (jG n_),m4:=fun p_p p_b0=>Mo.den (NZ (jG n_) p_p p_b0),ok4:=ads (jG n_) }
def amY(p_s:aI)(p_b0:ak):Option (ak):=(jG FU).m1 p_s p_b0
theorem ahz:NV amY:=(jG FU).ok1
def adt(p_d:bY)(p_b0:ak):Mo (ak):=
 .cH [0,1] (uY p_d.fName p_b0) fun r0 _=>
 .cH [0,3] (alh p_d.bZ r0) fun r1 _=>
 .cH [0,4] (ahz p_d.aZ r1) fun r2 _=>
 .cH [0,5] (je p_d.kG r2) fun r3 _=>
 .cH [0,6] (je p_d.iJ r3) fun r4 _=>
 .ret ⟨[.kill 2,.mvn 7],[],[(8,2)],3⟩ (r4)
def ali(p_d:bY)(p_b0:ak):Option (ak):=Mo.den (adt p_d p_b0)
theorem ahA(p_d:bY)(p_b0:ak):FH (ali p_d p_b0) 77 [.ptr 0 0,.dat (bY.lf1 p_d)] [.box 75 (.agg [.own 1,.b_ p_b0.cu]),.row 5 1 (p_b0.bg.map (lfK .u8))] (fun _=>.tup []) (fun r=>[.box 75 (.agg [.own 2,.b_ r.cu]),.dead,.row 5 1 (r.bg.map (lfK .u8))]):=dQ Tryz.func77
def adu(p_n:Int)(p_b0:ak):Mo (ak):=
 .cH [0,1] (je p_n p_b0) fun r0 _=>
 .ret ⟨[.mvn 2],[],[(3,2)],3⟩ (r0)
def alj(p_n:Int)(p_b0:ak):Option (ak):=Mo.den (adu p_n p_b0)
theorem ahB(p_n:Int)(p_b0:ak):FH (alj p_n p_b0) 81 [.ptr 0 0,.i_ p_n] [.box 75 (.agg [.own 1,.b_ p_b0.cu]),.row 5 1 (p_b0.bg.map (lfK .u8))] (fun _=>.tup []) (fun r=>[.box 75 (.agg [.own 2,.b_ r.cu]),.dead,.row 5 1 (r.bg.map (lfK .u8))]):=dQ Tryz.func81
def CU(p_l:List Int):(Int×Bool×(List Int))→Mo ((Int×Bool×(List Int))⊕(Bool×(List Int))):=fun(v0,v1,l0)=>
 .iB (decide ((v0:Int)<(p_l.length:Int))) (.gx lI_ p_l v0 fun x0 _=>
 .cH [0,2] (ahB x0 (ak.mk l0 v1)) fun r0 _=>
 .ret ⟨[],[0,2,12,13,14],[(3,2)],3⟩ (.inl (IntKind.wrap .i64 (v0+1),r0.cu,r0.bg)))<|
 .rt [] 3 (.inr (v1,l0))
def adv(p_l:List Int)(p_b0:ak):Mo (ak):=
 .nu p_l lfI<|
 .ask (Q7 (p_l.length:Int) p_b0) fun r0 h0=>
 .say [.gy [0,1] (.tup []) [.box 75 (.agg [.own 2,.b_ r0.cu]),.dead,.row 5 1 (r0.bg.map (lfK .u8))],.num p_l.length] (okc (je _ _ _ h0) (ok1 (ln_ p_l lfI)))<|
 .l1 Tryz.f80 2 [1,1,0] 0 (.exit 0) (fun(v0,v1,l0)=>⟨[(0,.ptr 0 0),(2,.raw (.func (.func 81) #[] #[])),(12,.lf (.rows 1 (p_l.map lfI))),(13,.i_ (p_l.length:Int)),(14,.i_ v0)],[.box 75 (.agg [.own 2,.b_ v1]),.dead,.row 5 1 (l0.map (lfK .u8))]⟩) (fun r_=>⟨[],[.box 75 (.agg [.own 2,.b_ r_.1]),.dead,.row 5 1 (r_.2.map (lfK .u8))]⟩) (CU p_l) (0,r0.cu,r0.bg) fun r1=>
 .ret ⟨[.mvn 2],[],[(3,2)],3⟩ (ak.mk r1.2 r1.1)
def alk(p_l:List Int)(p_b0:ak):Option (ak):=Mo.den (adv p_l p_b0)
theorem ahC(p_l:List Int)(p_b0:ak):FH (alk p_l p_b0) 80 [.ptr 0 0,.lf (.rows 1 (p_l.map lfI)),.raw (.func (.func 81) #[] #[])] [.box 75 (.agg [.own 1,.b_ p_b0.cu]),.row 5 1 (p_b0.bg.map (lfK .u8))] (fun _=>.tup []) (fun r=>[.box 75 (.agg [.own 2,.b_ r.cu]),.dead,.row 5 1 (r.bg.map (lfK .u8))]):=dQ Tryz.func80
abbrev N7(m:au→ak→Option (ak)):Prop:=∀p_x p_b0,FH (m p_x p_b0) 36 [.ptr 0 0,.dat (au.lf1 p_x)] [.box 75 (.agg [.own 1,.b_ p_b0.cu]),.row 5 1 (p_b0.bg.map (lfK .u8))] (fun _=>.tup []) (fun r=>[.box 75 (.agg [.own 2,.b_ r.cu]),.dead,.row 5 1 (r.bg.map (lfK .u8))])
abbrev XG(m:(List au)→ak→Option (ak)):Prop:=∀p_l p_b0,FH (m p_l p_b0) 79 [.ptr 0 0,.lf (.rows 78 (p_l.map au.lf)),.raw (.func (.func 36) #[] #[])] [.box 75 (.agg [.own 1,.b_ p_b0.cu]),.row 5 1 (p_b0.bg.map (lfK .u8))] (fun _=>.tup []) (fun r=>[.box 75 (.agg [.own 2,.b_ r.cu]),.dead,.row 5 1 (r.bg.map (lfK .u8))])
structure Zo where
 m1:(p_x:au)→(p_b0:ak)→Option (ak)
 ok1:N7 m1
 m2:(p_l:List au)→(p_b0:ak)→Option (ak)
 ok2:XG m2
def N8(R_:Zo)(p_x:au)(p_b0:ak):Mo (ak):=
 .cH [0,1] (je p_x.ay p_b0) fun r0 _=>
 .cH [0,3] (uY p_x.fE r0) fun r1 _=>
 .cH [0,4] (vg p_x.ig r1) fun r2 _=>
 .cH [0,5] (vg p_x.aY r2) fun r3 _=>
 .cH [0,6] (vg p_x.dF r3) fun r4 _=>
 .cH [0,7] (ahA p_x.dB r4) fun r5 _=>
 .cH [0,8] (XB p_x.aX r5) fun r6 _=>
 .cH [0,9] (uY p_x.kX r6) fun r7 _=>
 .cH [0,10] (je p_x.dO r7) fun r8 _=>
 .cH [0,11] (R_.ok2 p_x.bQ r8) fun r9 _=>
 .cH [0,12] (ahC p_x.dI r9) fun r10 _=>
 .cH [0,13] (qg p_x.fB r10) fun r11 _=>
 .ret ⟨[.kill 2,.mvn 14],[],[(15,2)],3⟩ (r11)
theorem adw(R_:Zo):N7 fun p_x p_b0=>Mo.den (N8 R_ p_x p_b0):=fun _ _=>dQ Tryz.func36
def GU(R_:Zo)(p_l:List au):(Int×Bool×(List Int))→Mo ((Int×Bool×(List Int))⊕(Bool×(List Int))):=fun(v0,v1,l0)=>
 .iB (decide ((v0:Int)<(p_l.length:Int))) (.gx au.aW p_l v0 fun x0 _=>
 .say [.at_ 10 3,.tod 20] ok0<|
 .cH [0,2] (R_.ok1 x0 (ak.mk l0 v1)) fun r0 _=>
 .ret ⟨[],[0,2,12,13,14],[(4,2)],3⟩ (.inl (IntKind.wrap .i64 (v0+1),r0.cu,r0.bg)))<|
 .rt [] 3 (.inr (v1,l0))
def XH(R_:Zo)(p_l:List au)(p_b0:ak):Mo (ak):=
 .nu p_l au.lf<|
 .ask (Q7 (p_l.length:Int) p_b0) fun r0 h0=>
 .say [.gy [0,1] (.tup []) [.box 75 (.agg [.own 2,.b_ r0.cu]),.dead,.row 5 1 (r0.bg.map (lfK .u8))],.num p_l.length] (okc (je _ _ _ h0) (ok1 (ln_ p_l au.lf)))<|
 .l1 Tryz.f79 2 [1,1,0] 0 (.exit 0) (fun(v0,v1,l0)=>⟨[(0,.ptr 0 0),(2,.raw (.func (.func 36) #[] #[])),(12,.lf (.rows 78 (p_l.map au.lf))),(13,.i_ (p_l.length:Int)),(14,.i_ v0)],[.box 75 (.agg [.own 2,.b_ v1]),.dead,.row 5 1 (l0.map (lfK .u8))]⟩) (fun r_=>⟨[],[.box 75 (.agg [.own 2,.b_ r_.1]),.dead,.row 5 1 (r_.2.map (lfK .u8))]⟩) (GU R_ p_l) (0,r0.cu,r0.bg) fun r1=>
 .ret ⟨[.mvn 2],[],[(3,2)],3⟩ (ak.mk r1.2 r1.1)
theorem ahD(R_:Zo):XG fun p_l p_b0=>Mo.den (XH R_ p_l p_b0):=fun _ _=>dQ Tryz.func79
def oP:Nat→Zo
 |0=>{ m1:=fun p_x p_b0=>none,ok1:=fun _ _ _ h=>(by cases h),m2:=fun p_l p_b0=>none,ok2:=fun _ _ _ h=>(by cases h) }
 |n_+1=>{ m1:=fun p_x p_b0=>Mo.den (N8 (oP n_) p_x p_b0),ok1:=adw (oP n_),m2:=fun p_l p_b0=>Mo.den (XH (oP n_) p_l p_b0),ok2:=ahD (oP n_) }
def ahE(p_x:au)(p_b0:ak):Option (ak):=(oP FU).m1 p_x p_b0
theorem ahF:N7 ahE:=(oP FU).ok1
def adx(p_e:bW):Mo (ByteArray×Int):=
 .cl (NI p_e) fun r0 _=>
 .iB (r0 != 0) (.ret (bn 2) (⟨#[]⟩,r0))<|
 .say [.at_ 12 3,.afL 1 0 5,.kU 2 (([]:List Int).map (lfK .u8))] (ok1 (by simp[lfI,lfK]:(([]:List Int).map (lfK .u8))=[]))<|
 .cH [1,2] (je p_e.nM (ak.mk ([]:List Int) false)) fun r1 _=>
 .cH [1,3] (je p_e.dO r1) fun r2 _=>
 .cH [1,4] (uY p_e.jq r2) fun r3 _=>
 .cH [1,5] (je p_e.lM r3) fun r4 _=>
 .cH [1,6] (ahF p_e.fG r4) fun r5 _=>
 .iB (r5.cu) (.ret (bn 2) (⟨#[]⟩,8))<|
 .say [.nums r5.bg] (ok1 (by simp[lfI,lfK]:(r5.bg.map (lfK .u8))=r5.bg.map fun n=>[Lf.int .u8 n]))<|
 .ret (bn 2) (strOfNums r5.bg,0)
def ady(p_e:bW):Option (ByteArray×Int):=Mo.den (adx p_e)
theorem EK(p_e:bW):FV (ady p_e) 14 [.dat (bW.lf1 p_e)] (fun r=>.tup [.lf (.str r.1),.i_ r.2]):=dL Tryz.func14
theorem ahG(p_s:ByteArray)(p_at:Int):FV (Q20 p_s p_at) 86 [.lf (.str p_s),.i_ p_at] (fun r=>.tup [.i_ r.1,.i_ r.2.1,.i_ r.2.2]):=dL Tryz.func86
def ajw(p_b0:aj):Mo (Int×aj):=
 .iB (p_b0.cu) (.rt [0] 1 (0,p_b0))<|
 .ask (Q20 p_b0.fJ p_b0.fat) fun r0 h0=>
 .say [.kC (.q 0 (.q 1 (.q 2 (.q 3 (.q 4 (.q 5 (.q 6 (.q 7 (.l 8 (.q 9 (.q 10 (.q 11 (.q 12 (.q 13 (.q 14 (.q 15 .fin)))))))))))))))) (some 8) [] [.res (.tup [.i_ r0.1,.i_ r0.2.1,.i_ r0.2.2])] [0,3,4,5] 1 [(0,.ptr 0 0),(3,.i_ r0.1),(4,.i_ r0.2.1),(5,.i_ r0.2.2)] [bG p_b0]] (okc (ahG _ _ _ h0) (ok1 (rf_ ⟨[(0,.ptr 0 0),(3,.i_ r0.1),(4,.i_ r0.2.1),(5,.i_ r0.2.2)],[bG p_b0]⟩)))<|
 .iB (r0.2.2 != 0) (.rt [0] 1 (0,aj.mk p_b0.fJ p_b0.fat p_b0.dS true))<|
 .rt [0] 1 (r0.1,aj.mk p_b0.fJ r0.2.1 p_b0.dS p_b0.cu)
def Q18(p_b0:aj):Option (Int×aj):=Mo.den (ajw p_b0)
theorem fV(p_b0:aj):FH (Q18 p_b0) 38 [.ptr 0 0] [bG p_b0] (fun r=>.i_ r.1) (fun r=>[bG r.2]):=dQ Tryz.func38
def SC(r0:Int×aj):Mo (Bool):=
 .say [.order [(true,0),(true,1),(true,2),(true,3),(true,4),(true,5),(true,6),(true,7),(true,8),(true,9),(true,10),(true,11),(true,12),(true,13),(true,14),(true,15),(true,16),(true,17),(true,18),(true,19),(true,20),(true,21)] none []] ok0<|
 .iG 6004 (r0.2.cu) (.rt [0,3,27] 1 (true))<|
 .oV 6008 (decide ((r0.1:Int)<0)) [0,3,27] 1 (decide ((IntKind.wrap .i64 ((r0.2.fJ.size:Int)-r0.2.fat):Int)<r0.1))
def ajx(p_b0:aj):Mo (ByteArray×aj):=
 .cH [0] (fV p_b0) fun r0 _=>
 .jk Tryz.f39 1 [1,1,0,0] 11 (fun r_=>⟨[(0,.ptr 0 0),(3,.i_ r0.1),(27,.b_ r_)],[bG r0.2]⟩) ⟨[(0,.ptr 0 0),(3,.i_ r0.1)],[bG r0.2]⟩ (SC r0) fun r1=>
 .iB (r1) (.rt [0] 1 (⟨#[]⟩,aj.mk r0.2.fJ r0.2.fat r0.2.dS true))<|
 .say [.order [(true,0),(true,1),(true,2),(true,3),(true,4),(true,5),(true,6),(true,7),(true,8),(true,9),(true,10),(true,11),(true,12),(true,13),(true,14),(true,15)] none []] ok0<|
 .grd ((0:Int)≤(IntKind.wrap .i64 ((IntKind.wrap .i64 (r0.2.fat+r0.1))-r0.1))∧(IntKind.wrap .i64 ((IntKind.wrap .i64 (r0.2.fat+r0.1))-r0.1))≤(IntKind.wrap .i64 (r0.2.fat+r0.1))∧(IntKind.wrap .i64 (r0.2.fat+r0.1))≤(r0.2.fJ.size:Int)) fun h0=>
 .say [] (ok1 h0)<|
 .rt [0] 1 (r0.2.fJ.extract (IntKind.wrap .i64 ((IntKind.wrap .i64 (r0.2.fat+r0.1))-r0.1)).toNat (IntKind.wrap .i64 (r0.2.fat+r0.1)).toNat,aj.mk r0.2.fJ (IntKind.wrap .i64 (r0.2.fat+r0.1)) r0.2.dS r0.2.cu)
def Q57(p_b0:aj):Option (ByteArray×aj):=Mo.den (ajx p_b0)
theorem vk(p_b0:aj):FH (Q57 p_b0) 39 [.ptr 0 0] [bG p_b0] (fun r=>.lf (.str r.1)) (fun r=>[bG r.2]):=dQ Tryz.func39
theorem anN:YH (opsOf (Code.sub (bodyC Tryz.f93) [1,0,0])) [(true,0),(true,1),(true,2),(true,3),(true,4),(true,5),(true,6),(true,7),(true,8),(true,9),(true,10),(true,11),(true,12),(true,13),(true,14),(true,15),(true,16),(true,17),(true,18),(true,19),(true,20),(true,21),(true,22),(true,23),(true,24),(true,25),(true,26),(true,27)] none=true:=by kernel_rfl
def SE(p_b0:aj):Mo (Bool):=
 .say [.LW [(true,0),(true,1),(true,2),(true,3),(true,4),(true,5),(true,6),(true,7),(true,8),(true,9),(true,10),(true,11),(true,12),(true,13),(true,14),(true,15),(true,16),(true,17),(true,18),(true,19),(true,20),(true,21),(true,22),(true,23),(true,24),(true,25),(true,26),(true,27)] none []] (ok1 anN)<|
 .iG 4004 (p_b0.cu) (.rt [0,30] 1 (true))<|
 .iG 4016 (decide (((p_b0.fJ.size:Int):Int)≤p_b0.fat)) (.rt [0,30] 1 (true))<|
 .ask (jK p_b0.fJ p_b0.fat) fun b0 h0=>
 .say [.byt b0] (ok1 (fC h0))<|
 .rt [0,30] 1 (decide ((1:Int)<(b0.toNat:Int)))
def ajy(p_b0:aj):Mo (Bool×aj):=
 .jk Tryz.f93 1 [1,0,0] 9 (fun r_=>⟨[(0,.ptr 0 0),(30,.b_ r_)],[bG p_b0]⟩) ⟨[(0,.ptr 0 0)],[bG p_b0]⟩ (SE p_b0) fun r0=>
 .iB (r0) (.rt [0] 1 (false,aj.mk p_b0.fJ p_b0.fat p_b0.dS true))<|
 .say [.order [(true,0),(true,1),(true,2),(true,3),(true,4),(true,5),(true,6),(true,7),(true,8),(true,9),(true,10),(true,11)] none []] ok0<|
 .ask (jK p_b0.fJ (IntKind.wrap .i64 ((IntKind.wrap .i64 (p_b0.fat+1))-1))) fun b0 h0=>
 .say [.byt b0] (ok1 (fC h0))<|
 .rt [0] 1 ((b0.toNat:Int)==1,aj.mk p_b0.fJ (IntKind.wrap .i64 (p_b0.fat+1)) p_b0.dS p_b0.cu)
def Q51(p_b0:aj):Option (Bool×aj):=Mo.den (ajy p_b0)
theorem qZ(p_b0:aj):FH (Q51 p_b0) 93 [.ptr 0 0] [bG p_b0] (fun r=>.b_ r.1) (fun r=>[bG r.2]):=dQ Tryz.func93
def adz(p_b0:aj):Mo (ah×aj):=
 .cH [0] (qZ p_b0) fun r0 _=>
 .iB (!r0.1) (.ret ⟨[.kill 1],[0],[],1⟩ (ah.mk 0 0 ⟨#[]⟩ [] [],r0.2))<|
 .ask (Q32 r0.2.fJ r0.2.fat) fun r1 h0=>
 .say [.kC (.q 0 (.q 1 (.q 2 (.q 3 (.q 4 (.q 5 (.q 6 (.q 7 (.alt 8 (.q 9 (.q 10 (.q 11 (.q 12 (.l 13 (.l 14 (.q 15 (.q 16 .fin)))))))) (.l 13 (.l 8 (.q 9 (.q 10 (.q 11 (.q 12 (.l 14 (.q 15 (.q 16 .fin)))))))))))))))))) none [2] [.both [.at_ 8 8,.resv 1,.res (.tup [.dat (ah.lf1 r1.1),.i_ r1.2.1,.i_ r1.2.2]),.slot 2] [.at_ 8 13,.resv 1,.slot 2,.res (.tup [.dat (ah.lf1 r1.1),.i_ r1.2.1,.i_ r1.2.2])]] [0,2,3,4,5] 3 [(0,.ptr 0 0),(2,.ptr 1 0),(3,.ptr 2 0),(4,.i_ r1.2.1),(5,.i_ r1.2.2)] [bG r0.2,.box 25 (.agg [.i_ 0,.i_ 0,.lf (.str ⟨#[]⟩),.bU 5,.bU 6]),.box 25 (.agg [.i_ r1.1.ay,.i_ r1.1.dG,.lf (.str r1.1.fText),.lf (.rows 5 (r1.1.aU.map ah.lf)),.lf (.rows 6 (r1.1.aY.map aJ.lf))])]] (okc (abR _ _ _ h0) (okc (rf_ ⟨[(0,.ptr 0 0),(2,.ptr 1 0),(3,.ptr 2 0),(4,.i_ r1.2.1),(5,.i_ r1.2.2)],[bG r0.2,.box 25 (.agg [.i_ 0,.i_ 0,.lf (.str ⟨#[]⟩),.bU 5,.bU 6]),.box 25 (.agg [.i_ r1.1.ay,.i_ r1.1.dG,.lf (.str r1.1.fText),.lf (.rows 5 (r1.1.aU.map ah.lf)),.lf (.rows 6 (r1.1.aY.map aJ.lf))])]⟩) (okc (abR _ _ _ h0) (ok1 (rf_ ⟨[(0,.ptr 0 0),(2,.ptr 1 0),(3,.ptr 2 0),(4,.i_ r1.2.1),(5,.i_ r1.2.2)],[bG r0.2,.box 25 (.agg [.i_ 0,.i_ 0,.lf (.str ⟨#[]⟩),.bU 5,.bU 6]),.box 25 (.agg [.i_ r1.1.ay,.i_ r1.1.dG,.lf (.str r1.1.fText),.lf (.rows 5 (r1.1.aU.map ah.lf)),.lf (.rows 6 (r1.1.aY.map aJ.lf))])]⟩)))))<|
 .iB (r1.2.2 != 0) (.ret ⟨[.kill 1,.kill 2],[0],[],1⟩ (ah.mk 0 0 ⟨#[]⟩ [] [],aj.mk r0.2.fJ r0.2.fat r0.2.dS true))<|
 .ret ⟨[.kill 1,.kill 2],[0],[],1⟩ (r1.1,aj.mk r0.2.fJ r1.2.1 r0.2.dS r0.2.cu)
def Q81(p_b0:aj):Option (ah×aj):=Mo.den (adz p_b0)
theorem vw(p_b0:aj):FH (Q81 p_b0) 87 [.ptr 0 0] [bG p_b0] (fun r=>.dat (ah.lf1 r.1)) (fun r=>[bG r.2]):=dQ Tryz.func87
def adA(p_b0:aj):Mo (ByteArray×aj):=
 .cH [0] (vk p_b0) fun r0 _=>
 .rt [0] 1 (r0.1,r0.2)
def ahH(p_b0:aj):Option (ByteArray×aj):=Mo.den (adA p_b0)
theorem ahI(p_b0:aj):FH (ahH p_b0) 226 [.ptr 0 0] [bG p_b0] (fun r=>.lf (.str r.1)) (fun r=>[bG r.2]):=dQ Tryz.func226
def lZ(r0:Int×aj):Mo (Bool):=
 .oV 6002 (decide ((r0.1:Int)<0)) [0,1,5,18] 1 (decide ((64:Int)≤r0.2.dS))
def l7(r0:Int×aj)(r1:Bool):Mo (aj):=
 .iB (r1) (.rt [0,1,5] 1 (aj.mk r0.2.fJ r0.2.fat r0.2.dS true))<|
 .rt [0,1,5] 1 (r0.2)
def SG(l0:List ByteArray)(r0:Int×aj)(s6548:aj)(v0:Int):Mo (Bool):=
 .aV 16003 (decide ((v0:Int)<r0.1)) [0,1,5,6,7,38] 2 (!s6548.cu)
def SH(r0:Int×aj):(Int×aj×(List ByteArray))→Mo ((Int×aj×(List ByteArray))⊕(aj×(List ByteArray))):=fun(v0,s6548,l0)=>
 .jk Tryz.f225 1 [1,1,1,1,1,0,1,0,0,0,0] 21 (fun r_=>⟨[(0,.ptr 0 0),(1,.raw (.func (.func 226) #[] #[])),(5,.i_ r0.1),(6,.own 1),(7,.i_ v0),(38,.b_ r_)],[bG s6548,.row 9 1 (l0.map lfS)]⟩) ⟨[(0,.ptr 0 0),(1,.raw (.func (.func 226) #[] #[])),(5,.i_ r0.1),(6,.own 1),(7,.i_ v0)],[bG s6548,.row 9 1 (l0.map lfS)]⟩ (SG l0 r0 s6548 v0) fun r1=>
 .iB (r1) (.ask (ahH s6548) fun r2 h0=>
 .say [.gy [0] (.lf (.str r2.1)) [bG r2.2],.rows ((l0++[r2.1]).map lfS)] (okc (ahI _ _ h0) (ok1 (by simp[lfS]:(l0++[r2.1]).map lfS=(l0.map lfS)++[(lfS r2.1)])))<|
 .grd ((l0.length+[r2.1].length)*16≤140737488355328) fun h1=>
 .say [] (ok1 (cp_ lfS h1))<|
 .ret ⟨[],[0,1,5,6,7],[(3,1)],2⟩ (.inl (IntKind.wrap .i64 (v0+1),r2.2,l0++[r2.1])))<|
 .rt [0,6] 2 (.inr (s6548,l0))
def aow(r0:Int×aj)(v0:Int)(s6548:aj)(l0:List ByteArray):Option ((aj×(List ByteArray))):=dM (fun v_=>(SH r0 v_).den) FU (v0,s6548,l0)
def amZ(p_b0:aj):Mo ((List ByteArray)×aj):=
 .cH [0] (fV p_b0) fun r0 _=>
 .jk Tryz.f225 1 [1,1,0,0] 11 (fun r_=>⟨[(0,.ptr 0 0),(1,.raw (.func (.func 226) #[] #[])),(5,.i_ r0.1),(18,.b_ r_)],[bG r0.2]⟩) ⟨[(0,.ptr 0 0),(1,.raw (.func (.func 226) #[] #[])),(5,.i_ r0.1)],[bG r0.2]⟩ (lZ r0) fun r1=>
 .jk Tryz.f225 1 [1,1,0,1] 1 (fun r_=>⟨[(0,.ptr 0 0),(1,.raw (.func (.func 226) #[] #[])),(5,.i_ r0.1)],[bG r_]⟩) ⟨[(0,.ptr 0 0),(1,.raw (.func (.func 226) #[] #[])),(5,.i_ r0.1),(18,.b_ r1)],[bG r0.2]⟩ (l7 r0 r1) fun r2=>
 .say [] (ok1 (by simp[lfS]:(([]:List ByteArray).map lfS)=[]))<|
 .l1y [.rG 6 9 1,.kU 1 (([]:List ByteArray).map lfS)] Tryz.f225 1 [1,1,1,1,1,0,1,0] 0 (.exit 0) (fun(v0,s6548,l0)=>⟨[(0,.ptr 0 0),(1,.raw (.func (.func 226) #[] #[])),(5,.i_ r0.1),(6,.own 1),(7,.i_ v0)],[bG s6548,.row 9 1 (l0.map lfS)]⟩) (fun r_=>⟨[(0,.ptr 0 0),(6,.own 1)],[bG r_.1,.row 9 1 (r_.2.map lfS)]⟩) (SH r0) (0,(aj.mk r2.fJ r2.fat (IntKind.wrap .i64 (r2.dS+1)) r2.cu),([]:List ByteArray)) fun r3=>
 .ret ⟨[.mvn 1],[0],[(2,1)],2⟩ (r3.2,aj.mk r3.1.fJ r3.1.fat (IntKind.wrap .i64 (r3.1.dS-1)) r3.1.cu)
def Q6(p_b0:aj):Option ((List ByteArray)×aj):=Mo.den (amZ p_b0)
theorem SI(p_b0:aj):FH (Q6 p_b0) 225 [.ptr 0 0,.raw (.func (.func 226) #[] #[])] [bG p_b0] (fun _=>.own 1) (fun r=>[bG r.2,.row 9 1 (r.1.map lfS)]):=dQ Tryz.func225
def adB(p_b0:aj):Mo (bf×aj):=
 .cH [0] (SI p_b0) fun r0 _=>
 .cH [0] (qZ r0.2) fun r1 _=>
 .ret ⟨[.kill 1,.mvn 2],[0],[(3,1)],2⟩ (bf.mk r0.1 r1.1,r1.2)
def adC(p_b0:aj):Option (bf×aj):=Mo.den (adB p_b0)
theorem ahJ(p_b0:aj):FH (adC p_b0) 148 [.ptr 0 0] [bG p_b0] (fun r=>.agg [.own 1,.b_ r.1.rO]) (fun r=>[bG r.2,.row 9 1 (r.1.cZ.map lfS)]):=dQ Tryz.func148
def KE(l0:List bf)(r0:Int×aj)(s6639:aj)(v0:Int):Mo (Bool):=
 .aV 16003 (decide ((v0:Int)<r0.1)) [0,1,5,6,7,38] 2 (!s6639.cu)
def KF(r0:Int×aj):(Int×aj×(List bf))→Mo ((Int×aj×(List bf))⊕(aj×(List bf))):=fun(v0,s6639,l0)=>
 .jk Tryz.f147 1 [1,1,1,1,1,0,1,0,0,0,0] 21 (fun r_=>⟨[(0,.ptr 0 0),(1,.raw (.func (.func 148) #[] #[])),(5,.i_ r0.1),(6,.own 1),(7,.i_ v0),(38,.b_ r_)],[bG s6639,.row 149 2 (l0.map bf.lf)]⟩) ⟨[(0,.ptr 0 0),(1,.raw (.func (.func 148) #[] #[])),(5,.i_ r0.1),(6,.own 1),(7,.i_ v0)],[bG s6639,.row 149 2 (l0.map bf.lf)]⟩ (KE l0 r0 s6639 v0) fun r1=>
 .iB (r1) (.ask (adC s6639) fun r2 h0=>
 .say [.gy [0] (.agg [.own 1,.b_ r2.1.rO]) [bG r2.2,.row 9 1 (r2.1.cZ.map lfS)],.at_ 20 4,.frz 2,.rows ((l0++[r2.1]).map bf.lf)] (okc (ahJ _ _ h0) (ok1 (ap_ bf.aW l0 r2.1)))<|
 .grd ((l0.length+[r2.1].length)*32≤140737488355328) fun h1=>
 .say [] (ok1 (cp_ bf.lf h1))<|
 .ret ⟨[],[0,1,5,6,7],[(4,1)],2⟩ (.inl (IntKind.wrap .i64 (v0+1),r2.2,l0++[r2.1])))<|
 .rt [0,6] 2 (.inr (s6639,l0))
def aom(r0:Int×aj)(v0:Int)(s6639:aj)(l0:List bf):Option ((aj×(List bf))):=dM (fun v_=>(KF r0 v_).den) FU (v0,s6639,l0)
def ajz(p_b0:aj):Mo ((List bf)×aj):=
 .cH [0] (fV p_b0) fun r0 _=>
 .jk Tryz.f147 1 [1,1,0,0] 11 (fun r_=>⟨[(0,.ptr 0 0),(1,.raw (.func (.func 148) #[] #[])),(5,.i_ r0.1),(18,.b_ r_)],[bG r0.2]⟩) ⟨[(0,.ptr 0 0),(1,.raw (.func (.func 148) #[] #[])),(5,.i_ r0.1)],[bG r0.2]⟩ (lZ r0) fun r1=>
 .jk Tryz.f147 1 [1,1,0,1] 1 (fun r_=>⟨[(0,.ptr 0 0),(1,.raw (.func (.func 148) #[] #[])),(5,.i_ r0.1)],[bG r_]⟩) ⟨[(0,.ptr 0 0),(1,.raw (.func (.func 148) #[] #[])),(5,.i_ r0.1),(18,.b_ r1)],[bG r0.2]⟩ (l7 r0 r1) fun r2=>
 .say [] (ok1 (by simp[bf.aW]:(([]:List bf).map bf.lf)=[]))<|
 .l1y [.rG 6 149 2,.kU 1 (([]:List bf).map bf.lf)] Tryz.f147 1 [1,1,1,1,1,0,1,0] 0 (.exit 0) (fun(v0,s6639,l0)=>⟨[(0,.ptr 0 0),(1,.raw (.func (.func 148) #[] #[])),(5,.i_ r0.1),(6,.own 1),(7,.i_ v0)],[bG s6639,.row 149 2 (l0.map bf.lf)]⟩) (fun r_=>⟨[(0,.ptr 0 0),(6,.own 1)],[bG r_.1,.row 149 2 (r_.2.map bf.lf)]⟩) (KF r0) (0,(aj.mk r2.fJ r2.fat (IntKind.wrap .i64 (r2.dS+1)) r2.cu),([]:List bf)) fun r3=>
 .ret ⟨[.mvn 1],[0],[(2,1)],2⟩ (r3.2,aj.mk r3.1.fJ r3.1.fat (IntKind.wrap .i64 (r3.1.dS-1)) r3.1.cu)
def Q64(p_b0:aj):Option ((List bf)×aj):=Mo.den (ajz p_b0)
theorem alm(p_b0:aj):FH (Q64 p_b0) 147 [.ptr 0 0,.raw (.func (.func 148) #[] #[])] [bG p_b0] (fun _=>.own 1) (fun r=>[bG r.2,.row 149 2 (r.1.map bf.lf)]):=dQ Tryz.func147
def KG(l0:List ah)(r0:Int×aj)(s6771:aj)(v0:Int):Mo (Bool):=
 .aV 16003 (decide ((v0:Int)<r0.1)) [0,1,5,6,7,38] 2 (!s6771.cu)
def KH(r0:Int×aj):(Int×aj×(List ah))→Mo ((Int×aj×(List ah))⊕(aj×(List ah))):=fun(v0,s6771,l0)=>
 .jk Tryz.f224 1 [1,1,1,1,1,0,1,0,0,0,0] 21 (fun r_=>⟨[(0,.ptr 0 0),(1,.raw (.func (.func 87) #[] #[])),(5,.i_ r0.1),(6,.own 1),(7,.i_ v0),(38,.b_ r_)],[bG s6771,.row 25 5 (l0.map ah.lf)]⟩) ⟨[(0,.ptr 0 0),(1,.raw (.func (.func 87) #[] #[])),(5,.i_ r0.1),(6,.own 1),(7,.i_ v0)],[bG s6771,.row 25 5 (l0.map ah.lf)]⟩ (KG l0 r0 s6771 v0) fun r1=>
 .iB (r1) (.ask (Q81 s6771) fun r2 h0=>
 .say [.gy [0] (.dat (ah.lf1 r2.1)) [bG r2.2],.rows ((l0++[r2.1]).map ah.lf)] (okc (vw _ _ h0) (ok1 (ap_ ah.aW l0 r2.1)))<|
 .grd ((l0.length+[r2.1].length)*80≤140737488355328) fun h1=>
 .say [] (ok1 (cp_ ah.lf h1))<|
 .ret ⟨[],[0,1,5,6,7],[(3,1)],2⟩ (.inl (IntKind.wrap .i64 (v0+1),r2.2,l0++[r2.1])))<|
 .rt [0,6] 2 (.inr (s6771,l0))
def aon(r0:Int×aj)(v0:Int)(s6771:aj)(l0:List ah):Option ((aj×(List ah))):=dM (fun v_=>(KH r0 v_).den) FU (v0,s6771,l0)
def ajA(p_b0:aj):Mo ((List ah)×aj):=
 .cH [0] (fV p_b0) fun r0 _=>
 .jk Tryz.f224 1 [1,1,0,0] 11 (fun r_=>⟨[(0,.ptr 0 0),(1,.raw (.func (.func 87) #[] #[])),(5,.i_ r0.1),(18,.b_ r_)],[bG r0.2]⟩) ⟨[(0,.ptr 0 0),(1,.raw (.func (.func 87) #[] #[])),(5,.i_ r0.1)],[bG r0.2]⟩ (lZ r0) fun r1=>
 .jk Tryz.f224 1 [1,1,0,1] 1 (fun r_=>⟨[(0,.ptr 0 0),(1,.raw (.func (.func 87) #[] #[])),(5,.i_ r0.1)],[bG r_]⟩) ⟨[(0,.ptr 0 0),(1,.raw (.func (.func 87) #[] #[])),(5,.i_ r0.1),(18,.b_ r1)],[bG r0.2]⟩ (l7 r0 r1) fun r2=>
 .say [] (ok1 (by simp[ah.aW]:(([]:List ah).map ah.lf)=[]))<|
 .l1y [.rG 6 25 5,.kU 1 (([]:List ah).map ah.lf)] Tryz.f224 1 [1,1,1,1,1,0,1,0] 0 (.exit 0) (fun(v0,s6771,l0)=>⟨[(0,.ptr 0 0),(1,.raw (.func (.func 87) #[] #[])),(5,.i_ r0.1),(6,.own 1),(7,.i_ v0)],[bG s6771,.row 25 5 (l0.map ah.lf)]⟩) (fun r_=>⟨[(0,.ptr 0 0),(6,.own 1)],[bG r_.1,.row 25 5 (r_.2.map ah.lf)]⟩) (KH r0) (0,(aj.mk r2.fJ r2.fat (IntKind.wrap .i64 (r2.dS+1)) r2.cu),([]:List ah)) fun r3=>
 .ret ⟨[.mvn 1],[0],[(2,1)],2⟩ (r3.2,aj.mk r3.1.fJ r3.1.fat (IntKind.wrap .i64 (r3.1.dS-1)) r3.1.cu)
def Q59(p_b0:aj):Option ((List ah)×aj):=Mo.den (ajA p_b0)
theorem adD(p_b0:aj):FH (Q59 p_b0) 224 [.ptr 0 0,.raw (.func (.func 87) #[] #[])] [bG p_b0] (fun _=>.own 1) (fun r=>[bG r.2,.row 25 5 (r.1.map ah.lf)]):=dQ Tryz.func224
def adE(p_b0:aj):Mo (bM×aj):=
 .cH [0] (fV p_b0) fun r0 _=>
 .cH [0] (fV r0.2) fun r1 _=>
 .ret ⟨[.kill 1],[0],[],1⟩ (bM.mk r0.1 r1.1,r1.2)
def adF(p_b0:aj):Option (bM×aj):=Mo.den (adE p_b0)
theorem ahK(p_b0:aj):FH (adF p_b0) 231 [.ptr 0 0] [bG p_b0] (fun r=>.dat (bM.lf1 r.1)) (fun r=>[bG r.2]):=dQ Tryz.func231
def KI(l0:List bM)(r0:Int×aj)(s6897:aj)(v0:Int):Mo (Bool):=
 .aV 16003 (decide ((v0:Int)<r0.1)) [0,1,5,6,7,38] 2 (!s6897.cu)
def KJ(r0:Int×aj):(Int×aj×(List bM))→Mo ((Int×aj×(List bM))⊕(aj×(List bM))):=fun(v0,s6897,l0)=>
 .jk Tryz.f230 1 [1,1,1,1,1,0,1,0,0,0,0] 21 (fun r_=>⟨[(0,.ptr 0 0),(1,.raw (.func (.func 231) #[] #[])),(5,.i_ r0.1),(6,.own 1),(7,.i_ v0),(38,.b_ r_)],[bG s6897,.row 229 2 (l0.map bM.lf)]⟩) ⟨[(0,.ptr 0 0),(1,.raw (.func (.func 231) #[] #[])),(5,.i_ r0.1),(6,.own 1),(7,.i_ v0)],[bG s6897,.row 229 2 (l0.map bM.lf)]⟩ (KI l0 r0 s6897 v0) fun r1=>
 .iB (r1) (.ask (adF s6897) fun r2 h0=>
 .say [.gy [0] (.dat (bM.lf1 r2.1)) [bG r2.2],.rows ((l0++[r2.1]).map bM.lf)] (okc (ahK _ _ h0) (ok1 (ap_ bM.aW l0 r2.1)))<|
 .grd ((l0.length+[r2.1].length)*16≤140737488355328) fun h1=>
 .say [] (ok1 (cp_ bM.lf h1))<|
 .ret ⟨[],[0,1,5,6,7],[(3,1)],2⟩ (.inl (IntKind.wrap .i64 (v0+1),r2.2,l0++[r2.1])))<|
 .rt [0,6] 2 (.inr (s6897,l0))
def aoo(r0:Int×aj)(v0:Int)(s6897:aj)(l0:List bM):Option ((aj×(List bM))):=dM (fun v_=>(KJ r0 v_).den) FU (v0,s6897,l0)
def ajB(p_b0:aj):Mo ((List bM)×aj):=
 .cH [0] (fV p_b0) fun r0 _=>
 .jk Tryz.f230 1 [1,1,0,0] 11 (fun r_=>⟨[(0,.ptr 0 0),(1,.raw (.func (.func 231) #[] #[])),(5,.i_ r0.1),(18,.b_ r_)],[bG r0.2]⟩) ⟨[(0,.ptr 0 0),(1,.raw (.func (.func 231) #[] #[])),(5,.i_ r0.1)],[bG r0.2]⟩ (lZ r0) fun r1=>
 .jk Tryz.f230 1 [1,1,0,1] 1 (fun r_=>⟨[(0,.ptr 0 0),(1,.raw (.func (.func 231) #[] #[])),(5,.i_ r0.1)],[bG r_]⟩) ⟨[(0,.ptr 0 0),(1,.raw (.func (.func 231) #[] #[])),(5,.i_ r0.1),(18,.b_ r1)],[bG r0.2]⟩ (l7 r0 r1) fun r2=>
 .say [] (ok1 (by simp[bM.aW]:(([]:List bM).map bM.lf)=[]))<|
 .l1y [.rG 6 229 2,.kU 1 (([]:List bM).map bM.lf)] Tryz.f230 1 [1,1,1,1,1,0,1,0] 0 (.exit 0) (fun(v0,s6897,l0)=>⟨[(0,.ptr 0 0),(1,.raw (.func (.func 231) #[] #[])),(5,.i_ r0.1),(6,.own 1),(7,.i_ v0)],[bG s6897,.row 229 2 (l0.map bM.lf)]⟩) (fun r_=>⟨[(0,.ptr 0 0),(6,.own 1)],[bG r_.1,.row 229 2 (r_.2.map bM.lf)]⟩) (KJ r0) (0,(aj.mk r2.fJ r2.fat (IntKind.wrap .i64 (r2.dS+1)) r2.cu),([]:List bM)) fun r3=>
 .ret ⟨[.mvn 1],[0],[(2,1)],2⟩ (r3.2,aj.mk r3.1.fJ r3.1.fat (IntKind.wrap .i64 (r3.1.dS-1)) r3.1.cu)
def Q65(p_b0:aj):Option ((List bM)×aj):=Mo.den (ajB p_b0)
theorem aln(p_b0:aj):FH (Q65 p_b0) 230 [.ptr 0 0,.raw (.func (.func 231) #[] #[])] [bG p_b0] (fun _=>.own 1) (fun r=>[bG r.2,.row 229 2 (r.1.map bM.lf)]):=dQ Tryz.func230
abbrev N9(m:aj→Option (aS×aj)):Prop:=∀p_b0,FH (m p_b0) 232 [.ptr 0 0] [bG p_b0] (fun r=>.dat (aS.lf1 r.1)) (fun r=>[bG r.2])
abbrev XI(m:aj→Option ((List aS)×aj)):Prop:=∀p_b0,FH (m p_b0) 289 [.ptr 0 0,.raw (.func (.func 232) #[] #[])] [bG p_b0] (fun r=>.lf (.rows 11 (r.1.map aS.lf))) (fun r=>[bG r.2])
structure Oa where
 m1:(p_b0:aj)→Option (aS×aj)
 ok1:N9 m1
 m2:(p_b0:aj)→Option ((List aS)×aj)
 ok2:XI m2
def Oc(R_:Oa)(p_b0:aj):Mo (aS×aj):=
 .cH [0] (fV p_b0) fun r0 _=>
 .cH [0] (SI r0.2) fun r1 _=>
 .cH [0] (vk r1.2) fun r2 _=>
 .cH [0] (SI r2.2) fun r3 _=>
 .cH [0] (vw r3.2) fun r4 _=>
 .cH [0] (fV r4.2) fun r5 _=>
 .cH [0] (R_.ok2 r5.2) fun r6 _=>
 .ret ⟨[.frz 2,.frz 3,.tod 0,.kill 1],[0],[],1⟩ (aS.mk r0.1 r1.1 r2.1 r3.1 r4.1 r5.1 r6.1,r6.2)
theorem adG(R_:Oa):N9 fun p_b0=>Mo.den (Oc R_ p_b0):=fun _=>dQ Tryz.func232
def SK(R_:Oa)(r0:Int×aj):Mo (Bool):=
 .oV 6002 (decide ((r0.1:Int)<0)) [0,1,5,18] 1 (decide ((64:Int)≤r0.2.dS))
def SL(R_:Oa)(r0:Int×aj)(r1:Bool):Mo (aj):=
 .iB (r1) (.rt [0,1,5] 1 (aj.mk r0.2.fJ r0.2.fat r0.2.dS true))<|
 .rt [0,1,5] 1 (r0.2)
def KL(R_:Oa)(l0:List aS)(r0:Int×aj)(s7037:aj)(v0:Int):Mo (Bool):=
 .aV 16003 (decide ((v0:Int)<r0.1)) [0,1,5,6,7,38] 2 (!s7037.cu)
def KN(R_:Oa)(r0:Int×aj):(Int×aj×(List aS))→Mo ((Int×aj×(List aS))⊕(aj×(List aS))):=fun(v0,s7037,l0)=>
 .jk Tryz.f289 1 [1,1,1,1,1,0,1,0,0,0,0] 21 (fun r_=>⟨[(0,.ptr 0 0),(1,.raw (.func (.func 232) #[] #[])),(5,.i_ r0.1),(6,.own 1),(7,.i_ v0),(38,.b_ r_)],[bG s7037,.row 40 11 (l0.map aS.lf)]⟩) ⟨[(0,.ptr 0 0),(1,.raw (.func (.func 232) #[] #[])),(5,.i_ r0.1),(6,.own 1),(7,.i_ v0)],[bG s7037,.row 40 11 (l0.map aS.lf)]⟩ (KL R_ l0 r0 s7037 v0) fun r1=>
 .iB (r1) (.ask (R_.m1 s7037) fun r2 h0=>
 .say [.gy [0] (.dat (aS.lf1 r2.1)) [bG r2.2],.rows ((l0++[r2.1]).map aS.lf)] (okc (R_.ok1 _ _ h0) (ok1 (ap_ aS.aW l0 r2.1)))<|
 .grd ((l0.length+[r2.1].length)*184≤140737488355328) fun h1=>
 .say [] (ok1 (cp_ aS.lf h1))<|
 .ret ⟨[],[0,1,5,6,7],[(3,1)],2⟩ (.inl (IntKind.wrap .i64 (v0+1),r2.2,l0++[r2.1])))<|
 .rt [0,6] 2 (.inr (s7037,l0))
def aop(R_:Oa)(r0:Int×aj)(v0:Int)(s7037:aj)(l0:List aS):Option ((aj×(List aS))):=dM (fun v_=>(KN R_ r0 v_).den) FU (v0,s7037,l0)
def XJ(R_:Oa)(p_b0:aj):Mo ((List aS)×aj):=
 .cH [0] (fV p_b0) fun r0 _=>
 .jk Tryz.f289 1 [1,1,0,0] 11 (fun r_=>⟨[(0,.ptr 0 0),(1,.raw (.func (.func 232) #[] #[])),(5,.i_ r0.1),(18,.b_ r_)],[bG r0.2]⟩) ⟨[(0,.ptr 0 0),(1,.raw (.func (.func 232) #[] #[])),(5,.i_ r0.1)],[bG r0.2]⟩ (SK R_ r0) fun r1=>
 .jk Tryz.f289 1 [1,1,0,1] 1 (fun r_=>⟨[(0,.ptr 0 0),(1,.raw (.func (.func 232) #[] #[])),(5,.i_ r0.1)],[bG r_]⟩) ⟨[(0,.ptr 0 0),(1,.raw (.func (.func 232) #[] #[])),(5,.i_ r0.1),(18,.b_ r1)],[bG r0.2]⟩ (SL R_ r0 r1) fun r2=>
 .say [] (ok1 (by simp[aS.aW]:(([]:List aS).map aS.lf)=[]))<|
 .l1y [.rG 6 40 11,.kU 1 (([]:List aS).map aS.lf)] Tryz.f289 1 [1,1,1,1,1,0,1,0] 0 (.exit 0) (fun(v0,s7037,l0)=>⟨[(0,.ptr 0 0),(1,.raw (.func (.func 232) #[] #[])),(5,.i_ r0.1),(6,.own 1),(7,.i_ v0)],[bG s7037,.row 40 11 (l0.map aS.lf)]⟩) (fun r_=>⟨[(0,.ptr 0 0),(6,.own 1)],[bG r_.1,.row 40 11 (r_.2.map aS.lf)]⟩) (KN R_ r0) (0,(aj.mk r2.fJ r2.fat (IntKind.wrap .i64 (r2.dS+1)) r2.cu),([]:List aS)) fun r3=>
 .ret ⟨[.frz 1],[0],[],1⟩ (r3.2,aj.mk r3.1.fJ r3.1.fat (IntKind.wrap .i64 (r3.1.dS-1)) r3.1.cu)
theorem ahL(R_:Oa):XI fun p_b0=>Mo.den (XJ R_ p_b0):=fun _=>dQ Tryz.func289
def qj:Nat→Oa
 |0=>{ m1:=fun p_b0=>none,ok1:=fun _ _ h=>(by cases h),m2:=fun p_b0=>none,ok2:=fun _ _ h=>(by cases h) }
 |n_+1=>{ m1:=fun p_b0=>Mo.den (Oc (qj n_) p_b0),ok1:=adG (qj n_),m2:=fun p_b0=>Mo.den (XJ (qj n_) p_b0),ok2:=ahL (qj n_) }
def am0(p_b0:aj):Option (aS×aj):=(qj FU).m1 p_b0
theorem ahM:N9 am0:=(qj FU).ok1
abbrev Oe(m:aj→Option (aO×aj)):Prop:=∀p_b0,FH (m p_b0) 149 [.ptr 0 0] [bG p_b0] (fun r=>.dat (aO.lf1 r.1)) (fun r=>[bG r.2])
abbrev XK(m:aj→Option ((List aO)×aj)):Prop:=∀p_b0,FH (m p_b0) 233 [.ptr 0 0,.raw (.func (.func 149) #[] #[])] [bG p_b0] (fun r=>.lf (.rows 25 (r.1.map aO.lf))) (fun r=>[bG r.2])
structure Og where
 m1:(p_b0:aj)→Option (aO×aj)
 ok1:Oe m1
 m2:(p_b0:aj)→Option ((List aO)×aj)
 ok2:XK m2
def Oh(R_:Og)(p_b0:aj):Mo (aO×aj):=
 .cH [0] (fV p_b0) fun r0 _=>
 .cH [0] (SI r0.2) fun r1 _=>
 .cH [0] (vw r1.2) fun r2 _=>
 .cH [0] (adD r2.2) fun r3 _=>
 .cH [0] (fV r3.2) fun r4 _=>
 .cH [0] (fV r4.2) fun r5 _=>
 .cH [0] (fV r5.2) fun r6 _=>
 .cH [0] (aln r6.2) fun r7 _=>
 .cH [0] (fV r7.2) fun r8 _=>
 .cH [0] (ahM r8.2) fun r9 _=>
 .cH [0] (R_.ok2 r9.2) fun r10 _=>
 .ret ⟨[.frz 2,.frz 3,.frz 4,.tod 0,.kill 1],[0],[],1⟩ (aO.mk r0.1 r1.1 r2.1 r3.1 r4.1 r5.1 (dZ.mk r6.1 r7.1 r8.1) r9.1 r10.1,r10.2)
theorem adH(R_:Og):Oe fun p_b0=>Mo.den (Oh R_ p_b0):=fun _=>dQ Tryz.func149
def SN(R_:Og)(r0:Int×aj):Mo (Bool):=
 .oV 6002 (decide ((r0.1:Int)<0)) [0,1,5,18] 1 (decide ((64:Int)≤r0.2.dS))
def SQ(R_:Og)(r0:Int×aj)(r1:Bool):Mo (aj):=
 .iB (r1) (.rt [0,1,5] 1 (aj.mk r0.2.fJ r0.2.fat r0.2.dS true))<|
 .rt [0,1,5] 1 (r0.2)
def KO(R_:Og)(l0:List aO)(r0:Int×aj)(s7149:aj)(v0:Int):Mo (Bool):=
 .aV 16003 (decide ((v0:Int)<r0.1)) [0,1,5,6,7,38] 2 (!s7149.cu)
def KP(R_:Og)(r0:Int×aj):(Int×aj×(List aO))→Mo ((Int×aj×(List aO))⊕(aj×(List aO))):=fun(v0,s7149,l0)=>
 .jk Tryz.f233 1 [1,1,1,1,1,0,1,0,0,0,0] 21 (fun r_=>⟨[(0,.ptr 0 0),(1,.raw (.func (.func 149) #[] #[])),(5,.i_ r0.1),(6,.own 1),(7,.i_ v0),(38,.b_ r_)],[bG s7149,.row 43 25 (l0.map aO.lf)]⟩) ⟨[(0,.ptr 0 0),(1,.raw (.func (.func 149) #[] #[])),(5,.i_ r0.1),(6,.own 1),(7,.i_ v0)],[bG s7149,.row 43 25 (l0.map aO.lf)]⟩ (KO R_ l0 r0 s7149 v0) fun r1=>
 .iB (r1) (.ask (R_.m1 s7149) fun r2 h0=>
 .say [.gy [0] (.dat (aO.lf1 r2.1)) [bG r2.2],.rows ((l0++[r2.1]).map aO.lf)] (okc (R_.ok1 _ _ h0) (ok1 (ap_ aO.aW l0 r2.1)))<|
 .grd ((l0.length+[r2.1].length)*400≤140737488355328) fun h1=>
 .say [] (ok1 (cp_ aO.lf h1))<|
 .ret ⟨[],[0,1,5,6,7],[(3,1)],2⟩ (.inl (IntKind.wrap .i64 (v0+1),r2.2,l0++[r2.1])))<|
 .rt [0,6] 2 (.inr (s7149,l0))
def aoq(R_:Og)(r0:Int×aj)(v0:Int)(s7149:aj)(l0:List aO):Option ((aj×(List aO))):=dM (fun v_=>(KP R_ r0 v_).den) FU (v0,s7149,l0)
def XL(R_:Og)(p_b0:aj):Mo ((List aO)×aj):=
 .cH [0] (fV p_b0) fun r0 _=>
 .jk Tryz.f233 1 [1,1,0,0] 11 (fun r_=>⟨[(0,.ptr 0 0),(1,.raw (.func (.func 149) #[] #[])),(5,.i_ r0.1),(18,.b_ r_)],[bG r0.2]⟩) ⟨[(0,.ptr 0 0),(1,.raw (.func (.func 149) #[] #[])),(5,.i_ r0.1)],[bG r0.2]⟩ (SN R_ r0) fun r1=>
 .jk Tryz.f233 1 [1,1,0,1] 1 (fun r_=>⟨[(0,.ptr 0 0),(1,.raw (.func (.func 149) #[] #[])),(5,.i_ r0.1)],[bG r_]⟩) ⟨[(0,.ptr 0 0),(1,.raw (.func (.func 149) #[] #[])),(5,.i_ r0.1),(18,.b_ r1)],[bG r0.2]⟩ (SQ R_ r0 r1) fun r2=>
 .say [] (ok1 (by simp[aO.aW]:(([]:List aO).map aO.lf)=[]))<|
 .l1y [.rG 6 43 25,.kU 1 (([]:List aO).map aO.lf)] Tryz.f233 1 [1,1,1,1,1,0,1,0] 0 (.exit 0) (fun(v0,s7149,l0)=>⟨[(0,.ptr 0 0),(1,.raw (.func (.func 149) #[] #[])),(5,.i_ r0.1),(6,.own 1),(7,.i_ v0)],[bG s7149,.row 43 25 (l0.map aO.lf)]⟩) (fun r_=>⟨[(0,.ptr 0 0),(6,.own 1)],[bG r_.1,.row 43 25 (r_.2.map aO.lf)]⟩) (KP R_ r0) (0,(aj.mk r2.fJ r2.fat (IntKind.wrap .i64 (r2.dS+1)) r2.cu),([]:List aO)) fun r3=>
 .ret ⟨[.frz 1],[0],[],1⟩ (r3.2,aj.mk r3.1.fJ r3.1.fat (IntKind.wrap .i64 (r3.1.dS-1)) r3.1.cu)
theorem ahN(R_:Og):XK fun p_b0=>Mo.den (XL R_ p_b0):=fun _=>dQ Tryz.func233
def ql:Nat→Og
 |0=>{ m1:=fun p_b0=>none,ok1:=fun _ _ h=>(by cases h),m2:=fun p_b0=>none,ok2:=fun _ _ h=>(by cases h) }
 |n_+1=>{ m1:=fun p_b0=>Mo.den (Oh (ql n_) p_b0),ok1:=adH (ql n_),m2:=fun p_b0=>Mo.den (XL (ql n_) p_b0),ok2:=ahN (ql n_) }
def am1(p_b0:aj):Option (aO×aj):=(ql FU).m1 p_b0
theorem ahO:Oe am1:=(ql FU).ok1
def adI(p_b0:aj):Mo (aQ×aj):=
 .cH [0] (vk p_b0) fun r0 _=>
 .cH [0] (fV r0.2) fun r1 _=>
 .cH [0] (alm r1.2) fun r2 _=>
 .cH [0] (qZ r2.2) fun r3 _=>
 .cH [0] (qZ r3.2) fun r4 _=>
 .cH [0] (qZ r4.2) fun r5 _=>
 .cH [0] (ahO r5.2) fun r6 _=>
 .ret ⟨[.kill 1,.mvn 2],[0],[(3,1)],2⟩ (aQ.mk r0.1 r1.1 r2.1 r3.1 r4.1 r5.1 r6.1,r6.2)
def adJ(p_b0:aj):Option (aQ×aj):=Mo.den (adI p_b0)
theorem XM(p_b0:aj):FH (adJ p_b0) 89 [.ptr 0 0] [bG p_b0] (fun r=>Uo (.agg ((aQ.lf1 r.1).map AV.lf)) [(2,.own 1)]) (fun r=>[bG r.2,.row 149 2 (r.1.fQ.map bf.lf)]):=dQ Tryz.func89
def KQ(l0:List aQ)(r0:Int×aj)(s7236:aj)(v0:Int):Mo (Bool):=
 .aV 16003 (decide ((v0:Int)<r0.1)) [0,1,5,6,7,38] 2 (!s7236.cu)
def KR(r0:Int×aj):(Int×aj×(List aQ))→Mo ((Int×aj×(List aQ))⊕(aj×(List aQ))):=fun(v0,s7236,l0)=>
 .jk Tryz.f145 1 [1,1,1,1,1,0,1,0,0,0,0] 21 (fun r_=>⟨[(0,.ptr 0 0),(1,.raw (.func (.func 89) #[] #[])),(5,.i_ r0.1),(6,.own 1),(7,.i_ v0),(38,.b_ r_)],[bG s7236,.row 45 31 (l0.map aQ.lf)]⟩) ⟨[(0,.ptr 0 0),(1,.raw (.func (.func 89) #[] #[])),(5,.i_ r0.1),(6,.own 1),(7,.i_ v0)],[bG s7236,.row 45 31 (l0.map aQ.lf)]⟩ (KQ l0 r0 s7236 v0) fun r1=>
 .iB (r1) (.ask (adJ s7236) fun r2 h0=>
 .say [.gy [0] (ag_ (aQ.lf1 r2.1) [(2,.own 1)]) [bG r2.2,.row 149 2 (r2.1.fQ.map bf.lf)],.at_ 20 4,.frz 2,.rows ((l0++[r2.1]).map aQ.lf)] (okc (XM _ _ h0) (ok1 (ap_ aQ.aW l0 r2.1)))<|
 .grd ((l0.length+[r2.1].length)*456≤140737488355328) fun h1=>
 .say [] (ok1 (cp_ aQ.lf h1))<|
 .ret ⟨[],[0,1,5,6,7],[(4,1)],2⟩ (.inl (IntKind.wrap .i64 (v0+1),r2.2,l0++[r2.1])))<|
 .rt [0,6] 2 (.inr (s7236,l0))
def aor(r0:Int×aj)(v0:Int)(s7236:aj)(l0:List aQ):Option ((aj×(List aQ))):=dM (fun v_=>(KR r0 v_).den) FU (v0,s7236,l0)
def ajC(p_b0:aj):Mo ((List aQ)×aj):=
 .cH [0] (fV p_b0) fun r0 _=>
 .jk Tryz.f145 1 [1,1,0,0] 11 (fun r_=>⟨[(0,.ptr 0 0),(1,.raw (.func (.func 89) #[] #[])),(5,.i_ r0.1),(18,.b_ r_)],[bG r0.2]⟩) ⟨[(0,.ptr 0 0),(1,.raw (.func (.func 89) #[] #[])),(5,.i_ r0.1)],[bG r0.2]⟩ (lZ r0) fun r1=>
 .jk Tryz.f145 1 [1,1,0,1] 1 (fun r_=>⟨[(0,.ptr 0 0),(1,.raw (.func (.func 89) #[] #[])),(5,.i_ r0.1)],[bG r_]⟩) ⟨[(0,.ptr 0 0),(1,.raw (.func (.func 89) #[] #[])),(5,.i_ r0.1),(18,.b_ r1)],[bG r0.2]⟩ (l7 r0 r1) fun r2=>
 .say [] (ok1 (by simp[aQ.aW]:(([]:List aQ).map aQ.lf)=[]))<|
 .l1y [.rG 6 45 31,.kU 1 (([]:List aQ).map aQ.lf)] Tryz.f145 1 [1,1,1,1,1,0,1,0] 0 (.exit 0) (fun(v0,s7236,l0)=>⟨[(0,.ptr 0 0),(1,.raw (.func (.func 89) #[] #[])),(5,.i_ r0.1),(6,.own 1),(7,.i_ v0)],[bG s7236,.row 45 31 (l0.map aQ.lf)]⟩) (fun r_=>⟨[(0,.ptr 0 0),(6,.own 1)],[bG r_.1,.row 45 31 (r_.2.map aQ.lf)]⟩) (KR r0) (0,(aj.mk r2.fJ r2.fat (IntKind.wrap .i64 (r2.dS+1)) r2.cu),([]:List aQ)) fun r3=>
 .ret ⟨[.mvn 1],[0],[(2,1)],2⟩ (r3.2,aj.mk r3.1.fJ r3.1.fat (IntKind.wrap .i64 (r3.1.dS-1)) r3.1.cu)
def Q66(p_b0:aj):Option ((List aQ)×aj):=Mo.den (ajC p_b0)
theorem alo(p_b0:aj):FH (Q66 p_b0) 145 [.ptr 0 0,.raw (.func (.func 89) #[] #[])] [bG p_b0] (fun _=>.own 1) (fun r=>[bG r.2,.row 45 31 (r.1.map aQ.lf)]):=dQ Tryz.func145
abbrev Oi(m:aj→Option (aI×aj)):Prop:=∀p_b0,FH (m p_b0) 146 [.ptr 0 0] [bG p_b0] (fun r=>.dat (aI.lf1 r.1)) (fun r=>[bG r.2])
abbrev XO(m:aj→Option ((List bH)×aj)):Prop:=∀p_b0,FH (m p_b0) 227 [.ptr 0 0,.raw (.func (.func 228) #[] #[])] [bG p_b0] (fun r=>.lf (.rows 22 (r.1.map bH.lf))) (fun r=>[bG r.2])
abbrev XP(m:aj→Option ((List aI)×aj)):Prop:=∀p_b0,FH (m p_b0) 229 [.ptr 0 0,.raw (.func (.func 146) #[] #[])] [bG p_b0] (fun r=>.lf (.rows 21 (r.1.map aI.lf))) (fun r=>[bG r.2])
abbrev XQ(m:aj→Option (bH×aj)):Prop:=∀p_b0,FH (m p_b0) 228 [.ptr 0 0] [bG p_b0] (fun r=>.dat (bH.lf1 r.1)) (fun r=>[bG r.2])
structure yG where
 m1:(p_b0:aj)→Option (aI×aj)
 ok1:Oi m1
 m2:(p_b0:aj)→Option ((List bH)×aj)
 ok2:XO m2
 m3:(p_b0:aj)→Option ((List aI)×aj)
 ok3:XP m3
 m4:(p_b0:aj)→Option (bH×aj)
 ok4:XQ m4
def Oj(R_:yG)(p_b0:aj):Mo (aI×aj):=
 .cH [0] (fV p_b0) fun r0 _=>
 .cH [0] (qZ r0.2) fun r1 _=>
 .cH [0] (vw r1.2) fun r2 _=>
 .cH [0] (qZ r2.2) fun r3 _=>
 .cH [0] (vw r3.2) fun r4 _=>
 .cH [0] (adD r4.2) fun r5 _=>
 .cH [0] (fV r5.2) fun r6 _=>
 .cH [0] (fV r6.2) fun r7 _=>
 .cH [0] (SI r7.2) fun r8 _=>
 .cH [0] (R_.ok2 r8.2) fun r9 _=>
 .cH [0] (qZ r9.2) fun r10 _=>
 .cH [0] (R_.ok3 r10.2) fun r11 _=>
 .cH [0] (qZ r11.2) fun r12 _=>
 .ret ⟨[.frz 2,.frz 3,.tod 0,.kill 1],[0],[],1⟩ (aI.mk r0.1 r1.1 r2.1 r3.1 r4.1 r5.1 r6.1 r7.1 r8.1 r9.1 r10.1 r11.1 r12.1,r12.2)
theorem adK(R_:yG):Oi fun p_b0=>Mo.den (Oj R_ p_b0):=fun _=>dQ Tryz.func146
def Ae(R_:yG)(r0:Int×aj):Mo (Bool):=
 .oV 6002 (decide ((r0.1:Int)<0)) [0,1,5,18] 1 (decide ((64:Int)≤r0.2.dS))
def Af(R_:yG)(r0:Int×aj)(r1:Bool):Mo (aj):=
 .iB (r1) (.rt [0,1,5] 1 (aj.mk r0.2.fJ r0.2.fat r0.2.dS true))<|
 .rt [0,1,5] 1 (r0.2)
def KT(R_:yG)(l0:List bH)(r0:Int×aj)(s7396:aj)(v0:Int):Mo (Bool):=
 .aV 16003 (decide ((v0:Int)<r0.1)) [0,1,5,6,7,38] 2 (!s7396.cu)
def KU(R_:yG)(r0:Int×aj):(Int×aj×(List bH))→Mo ((Int×aj×(List bH))⊕(aj×(List bH))):=fun(v0,s7396,l0)=>
 .jk Tryz.f227 1 [1,1,1,1,1,0,1,0,0,0,0] 21 (fun r_=>⟨[(0,.ptr 0 0),(1,.raw (.func (.func 228) #[] #[])),(5,.i_ r0.1),(6,.own 1),(7,.i_ v0),(38,.b_ r_)],[bG s7396,.row 224 22 (l0.map bH.lf)]⟩) ⟨[(0,.ptr 0 0),(1,.raw (.func (.func 228) #[] #[])),(5,.i_ r0.1),(6,.own 1),(7,.i_ v0)],[bG s7396,.row 224 22 (l0.map bH.lf)]⟩ (KT R_ l0 r0 s7396 v0) fun r1=>
 .iB (r1) (.ask (R_.m4 s7396) fun r2 h0=>
 .say [.gy [0] (.dat (bH.lf1 r2.1)) [bG r2.2],.rows ((l0++[r2.1]).map bH.lf)] (okc (R_.ok4 _ _ h0) (ok1 (ap_ bH.aW l0 r2.1)))<|
 .grd ((l0.length+[r2.1].length)*328≤140737488355328) fun h1=>
 .say [] (ok1 (cp_ bH.lf h1))<|
 .ret ⟨[],[0,1,5,6,7],[(3,1)],2⟩ (.inl (IntKind.wrap .i64 (v0+1),r2.2,l0++[r2.1])))<|
 .rt [0,6] 2 (.inr (s7396,l0))
def aos(R_:yG)(r0:Int×aj)(v0:Int)(s7396:aj)(l0:List bH):Option ((aj×(List bH))):=dM (fun v_=>(KU R_ r0 v_).den) FU (v0,s7396,l0)
def XR(R_:yG)(p_b0:aj):Mo ((List bH)×aj):=
 .cH [0] (fV p_b0) fun r0 _=>
 .jk Tryz.f227 1 [1,1,0,0] 11 (fun r_=>⟨[(0,.ptr 0 0),(1,.raw (.func (.func 228) #[] #[])),(5,.i_ r0.1),(18,.b_ r_)],[bG r0.2]⟩) ⟨[(0,.ptr 0 0),(1,.raw (.func (.func 228) #[] #[])),(5,.i_ r0.1)],[bG r0.2]⟩ (Ae R_ r0) fun r1=>
 .jk Tryz.f227 1 [1,1,0,1] 1 (fun r_=>⟨[(0,.ptr 0 0),(1,.raw (.func (.func 228) #[] #[])),(5,.i_ r0.1)],[bG r_]⟩) ⟨[(0,.ptr 0 0),(1,.raw (.func (.func 228) #[] #[])),(5,.i_ r0.1),(18,.b_ r1)],[bG r0.2]⟩ (Af R_ r0 r1) fun r2=>
 .say [] (ok1 (by simp[bH.aW]:(([]:List bH).map bH.lf)=[]))<|
 .l1y [.rG 6 224 22,.kU 1 (([]:List bH).map bH.lf)] Tryz.f227 1 [1,1,1,1,1,0,1,0] 0 (.exit 0) (fun(v0,s7396,l0)=>⟨[(0,.ptr 0 0),(1,.raw (.func (.func 228) #[] #[])),(5,.i_ r0.1),(6,.own 1),(7,.i_ v0)],[bG s7396,.row 224 22 (l0.map bH.lf)]⟩) (fun r_=>⟨[(0,.ptr 0 0),(6,.own 1)],[bG r_.1,.row 224 22 (r_.2.map bH.lf)]⟩) (KU R_ r0) (0,(aj.mk r2.fJ r2.fat (IntKind.wrap .i64 (r2.dS+1)) r2.cu),([]:List bH)) fun r3=>
 .ret ⟨[.frz 1],[0],[],1⟩ (r3.2,aj.mk r3.1.fJ r3.1.fat (IntKind.wrap .i64 (r3.1.dS-1)) r3.1.cu)
theorem ahP(R_:yG):XO fun p_b0=>Mo.den (XR R_ p_b0):=fun _=>dQ Tryz.func227
def KW(R_:yG)(l0:List aI)(r0:Int×aj)(s7500:aj)(v0:Int):Mo (Bool):=
 .aV 16003 (decide ((v0:Int)<r0.1)) [0,1,5,6,7,38] 2 (!s7500.cu)
def KX(R_:yG)(r0:Int×aj):(Int×aj×(List aI))→Mo ((Int×aj×(List aI))⊕(aj×(List aI))):=fun(v0,s7500,l0)=>
 .jk Tryz.f229 1 [1,1,1,1,1,0,1,0,0,0,0] 21 (fun r_=>⟨[(0,.ptr 0 0),(1,.raw (.func (.func 146) #[] #[])),(5,.i_ r0.1),(6,.own 1),(7,.i_ v0),(38,.b_ r_)],[bG s7500,.row 31 21 (l0.map aI.lf)]⟩) ⟨[(0,.ptr 0 0),(1,.raw (.func (.func 146) #[] #[])),(5,.i_ r0.1),(6,.own 1),(7,.i_ v0)],[bG s7500,.row 31 21 (l0.map aI.lf)]⟩ (KW R_ l0 r0 s7500 v0) fun r1=>
 .iB (r1) (.ask (R_.m1 s7500) fun r2 h0=>
 .say [.gy [0] (.dat (aI.lf1 r2.1)) [bG r2.2],.rows ((l0++[r2.1]).map aI.lf)] (okc (R_.ok1 _ _ h0) (ok1 (ap_ aI.aW l0 r2.1)))<|
 .grd ((l0.length+[r2.1].length)*312≤140737488355328) fun h1=>
 .say [] (ok1 (cp_ aI.lf h1))<|
 .ret ⟨[],[0,1,5,6,7],[(3,1)],2⟩ (.inl (IntKind.wrap .i64 (v0+1),r2.2,l0++[r2.1])))<|
 .rt [0,6] 2 (.inr (s7500,l0))
def aot(R_:yG)(r0:Int×aj)(v0:Int)(s7500:aj)(l0:List aI):Option ((aj×(List aI))):=dM (fun v_=>(KX R_ r0 v_).den) FU (v0,s7500,l0)
def XT(R_:yG)(p_b0:aj):Mo ((List aI)×aj):=
 .cH [0] (fV p_b0) fun r0 _=>
 .jk Tryz.f229 1 [1,1,0,0] 11 (fun r_=>⟨[(0,.ptr 0 0),(1,.raw (.func (.func 146) #[] #[])),(5,.i_ r0.1),(18,.b_ r_)],[bG r0.2]⟩) ⟨[(0,.ptr 0 0),(1,.raw (.func (.func 146) #[] #[])),(5,.i_ r0.1)],[bG r0.2]⟩ (Ae R_ r0) fun r1=>
 .jk Tryz.f229 1 [1,1,0,1] 1 (fun r_=>⟨[(0,.ptr 0 0),(1,.raw (.func (.func 146) #[] #[])),(5,.i_ r0.1)],[bG r_]⟩) ⟨[(0,.ptr 0 0),(1,.raw (.func (.func 146) #[] #[])),(5,.i_ r0.1),(18,.b_ r1)],[bG r0.2]⟩ (Af R_ r0 r1) fun r2=>
 .say [] (ok1 (by simp[aI.aW]:(([]:List aI).map aI.lf)=[]))<|
 .l1y [.rG 6 31 21,.kU 1 (([]:List aI).map aI.lf)] Tryz.f229 1 [1,1,1,1,1,0,1,0] 0 (.exit 0) (fun(v0,s7500,l0)=>⟨[(0,.ptr 0 0),(1,.raw (.func (.func 146) #[] #[])),(5,.i_ r0.1),(6,.own 1),(7,.i_ v0)],[bG s7500,.row 31 21 (l0.map aI.lf)]⟩) (fun r_=>⟨[(0,.ptr 0 0),(6,.own 1)],[bG r_.1,.row 31 21 (r_.2.map aI.lf)]⟩) (KX R_ r0) (0,(aj.mk r2.fJ r2.fat (IntKind.wrap .i64 (r2.dS+1)) r2.cu),([]:List aI)) fun r3=>
 .ret ⟨[.frz 1],[0],[],1⟩ (r3.2,aj.mk r3.1.fJ r3.1.fat (IntKind.wrap .i64 (r3.1.dS-1)) r3.1.cu)
theorem ahQ(R_:yG):XP fun p_b0=>Mo.den (XT R_ p_b0):=fun _=>dQ Tryz.func229
def Ol(R_:yG)(p_b0:aj):Mo (bH×aj):=
 .cH [0] (vk p_b0) fun r0 _=>
 .cH [0] (R_.ok1 r0.2) fun r1 _=>
 .ret ⟨[.kill 1],[0],[],1⟩ (bH.mk r0.1 r1.1,r1.2)
theorem adL(R_:yG):XQ fun p_b0=>Mo.den (Ol R_ p_b0):=fun _=>dQ Tryz.func228
def kH:Nat→yG
 |0=>{ m1:=fun p_b0=>none,ok1:=fun _ _ h=>(by cases h),m2:=fun p_b0=>none,ok2:=fun _ _ h=>(by cases h),m3:=fun p_b0=>none,ok3:=fun _ _ h=>(by cases h),m4:=fun p_b0=>none,ok4:=fun _ _ h=>(by cases h) }
 |n_+1=>{ m1:=fun p_b0=>Mo.den (Oj (kH n_) p_b0),ok1:=adK (kH n_),m2:=fun p_b0=>Mo.den (XR (kH n_) p_b0),ok2:=ahP (kH n_),m3:=fun p_b0=>Mo.den (XT (kH n_) p_b0),ok3:=ahQ (kH n_),m4:=fun p_b0=>Mo.den (Ol (kH n_) p_b0),ok4:=adL (kH n_) }
def am2(p_b0:aj):Option (aI×aj):=(kH FU).m1 p_b0
theorem ahR:Oi am2:=(kH FU).ok1
def adM(p_b0:aj):Mo (bY×aj):=
 .cH [0] (vk p_b0) fun r0 _=>
 .cH [0] (alo r0.2) fun r1 _=>
 .cH [0] (ahR r1.2) fun r2 _=>
 .cH [0] (fV r2.2) fun r3 _=>
 .cH [0] (fV r3.2) fun r4 _=>
 .ret ⟨[.kill 1,.mvn 2],[0],[(3,1)],2⟩ (bY.mk r0.1 r1.1 r2.1 r3.1 r4.1,r4.2)
def alp(p_b0:aj):Option (bY×aj):=Mo.den (adM p_b0)
theorem ahS(p_b0:aj):FH (alp p_b0) 88 [.ptr 0 0] [bG p_b0] (fun r=>Uo (.agg ((bY.lf1 r.1).map AV.lf)) [(1,.own 1)]) (fun r=>[bG r.2,.row 45 31 (r.1.bZ.map aQ.lf)]):=dQ Tryz.func88
def adN(p_b0:aj):Mo (Int×aj):=
 .cH [0] (fV p_b0) fun r0 _=>
 .rt [0] 1 (r0.1,r0.2)
def ahT(p_b0:aj):Option (Int×aj):=Mo.den (adN p_b0)
theorem ahU(p_b0:aj):FH (ahT p_b0) 92 [.ptr 0 0] [bG p_b0] (fun r=>.i_ r.1) (fun r=>[bG r.2]):=dQ Tryz.func92
def KY(l0:List Int)(r0:Int×aj)(s7646:aj)(v0:Int):Mo (Bool):=
 .aV 16003 (decide ((v0:Int)<r0.1)) [0,1,5,6,7,38] 2 (!s7646.cu)
def KZ(r0:Int×aj):(Int×aj×(List Int))→Mo ((Int×aj×(List Int))⊕(aj×(List Int))):=fun(v0,s7646,l0)=>
 .jk Tryz.f91 1 [1,1,1,1,1,0,1,0,0,0,0] 21 (fun r_=>⟨[(0,.ptr 0 0),(1,.raw (.func (.func 92) #[] #[])),(5,.i_ r0.1),(6,.own 1),(7,.i_ v0),(38,.b_ r_)],[bG s7646,.row 3 1 (l0.map lfI)]⟩) ⟨[(0,.ptr 0 0),(1,.raw (.func (.func 92) #[] #[])),(5,.i_ r0.1),(6,.own 1),(7,.i_ v0)],[bG s7646,.row 3 1 (l0.map lfI)]⟩ (KY l0 r0 s7646 v0) fun r1=>
 .iB (r1) (.ask (ahT s7646) fun r2 h0=>
 .say [.gy [0] (.i_ r2.1) [bG r2.2],.rows ((l0++[r2.1]).map lfI)] (okc (ahU _ _ h0) (ok1 (ap_ lI_ l0 r2.1)))<|
 .grd ((l0.length+[r2.1].length)*8≤140737488355328) fun h1=>
 .say [] (ok1 (cp_ lfI h1))<|
 .ret ⟨[],[0,1,5,6,7],[(3,1)],2⟩ (.inl (IntKind.wrap .i64 (v0+1),r2.2,l0++[r2.1])))<|
 .rt [0,6] 2 (.inr (s7646,l0))
def aou(r0:Int×aj)(v0:Int)(s7646:aj)(l0:List Int):Option ((aj×(List Int))):=dM (fun v_=>(KZ r0 v_).den) FU (v0,s7646,l0)
def ajD(p_b0:aj):Mo ((List Int)×aj):=
 .cH [0] (fV p_b0) fun r0 _=>
 .jk Tryz.f91 1 [1,1,0,0] 11 (fun r_=>⟨[(0,.ptr 0 0),(1,.raw (.func (.func 92) #[] #[])),(5,.i_ r0.1),(18,.b_ r_)],[bG r0.2]⟩) ⟨[(0,.ptr 0 0),(1,.raw (.func (.func 92) #[] #[])),(5,.i_ r0.1)],[bG r0.2]⟩ (lZ r0) fun r1=>
 .jk Tryz.f91 1 [1,1,0,1] 1 (fun r_=>⟨[(0,.ptr 0 0),(1,.raw (.func (.func 92) #[] #[])),(5,.i_ r0.1)],[bG r_]⟩) ⟨[(0,.ptr 0 0),(1,.raw (.func (.func 92) #[] #[])),(5,.i_ r0.1),(18,.b_ r1)],[bG r0.2]⟩ (l7 r0 r1) fun r2=>
 .say [] (ok1 (by simp[lfI,lfK]:(([]:List Int).map lfI)=[]))<|
 .l1y [.rG 6 3 1,.kU 1 (([]:List Int).map lfI)] Tryz.f91 1 [1,1,1,1,1,0,1,0] 0 (.exit 0) (fun(v0,s7646,l0)=>⟨[(0,.ptr 0 0),(1,.raw (.func (.func 92) #[] #[])),(5,.i_ r0.1),(6,.own 1),(7,.i_ v0)],[bG s7646,.row 3 1 (l0.map lfI)]⟩) (fun r_=>⟨[(0,.ptr 0 0),(6,.own 1)],[bG r_.1,.row 3 1 (r_.2.map lfI)]⟩) (KZ r0) (0,(aj.mk r2.fJ r2.fat (IntKind.wrap .i64 (r2.dS+1)) r2.cu),([]:List Int)) fun r3=>
 .ret ⟨[.mvn 1],[0],[(2,1)],2⟩ (r3.2,aj.mk r3.1.fJ r3.1.fat (IntKind.wrap .i64 (r3.1.dS-1)) r3.1.cu)
def Q89(p_b0:aj):Option ((List Int)×aj):=Mo.den (ajD p_b0)
theorem alq(p_b0:aj):FH (Q89 p_b0) 91 [.ptr 0 0,.raw (.func (.func 92) #[] #[])] [bG p_b0] (fun _=>.own 1) (fun r=>[bG r.2,.row 3 1 (r.1.map lfI)]):=dQ Tryz.func91
abbrev Om(m:aj→Option (au×aj)):Prop:=∀p_b0,FH (m p_b0) 40 [.ptr 0 0] [bG p_b0] (fun r=>.dat (au.lf1 r.1)) (fun r=>[bG r.2])
abbrev XU(m:aj→Option ((List au)×aj)):Prop:=∀p_b0,FH (m p_b0) 90 [.ptr 0 0,.raw (.func (.func 40) #[] #[])] [bG p_b0] (fun r=>.lf (.rows 78 (r.1.map au.lf))) (fun r=>[bG r.2])
structure Oo where
 m1:(p_b0:aj)→Option (au×aj)
 ok1:Om m1
 m2:(p_b0:aj)→Option ((List au)×aj)
 ok2:XU m2
def Oq(R_:Oo)(p_b0:aj):Mo (au×aj):=
 .cH [0] (fV p_b0) fun r0 _=>
 .cH [0] (vk r0.2) fun r1 _=>
 .cH [0] (vw r1.2) fun r2 _=>
 .cH [0] (vw r2.2) fun r3 _=>
 .cH [0] (vw r3.2) fun r4 _=>
 .cH [0] (ahS r4.2) fun r5 _=>
 .cH [0] (XM r5.2) fun r6 _=>
 .cH [0] (vk r6.2) fun r7 _=>
 .cH [0] (fV r7.2) fun r8 _=>
 .cH [0] (R_.ok2 r8.2) fun r9 _=>
 .cH [0] (alq r9.2) fun r10 _=>
 .cH [0] (qZ r10.2) fun r11 _=>
 .ret ⟨[.frz 2,.frz 3,.frz 4,.tod 0,.kill 1],[0],[],1⟩ (au.mk r0.1 r1.1 r2.1 r3.1 r4.1 r5.1 r6.1 r7.1 r8.1 r9.1 r10.1 r11.1,r11.2)
theorem adO(R_:Oo):Om fun p_b0=>Mo.den (Oq R_ p_b0):=fun _=>dQ Tryz.func40
def SS(R_:Oo)(r0:Int×aj):Mo (Bool):=
 .oV 6002 (decide ((r0.1:Int)<0)) [0,1,5,18] 1 (decide ((64:Int)≤r0.2.dS))
def SV(R_:Oo)(r0:Int×aj)(r1:Bool):Mo (aj):=
 .iB (r1) (.rt [0,1,5] 1 (aj.mk r0.2.fJ r0.2.fat r0.2.dS true))<|
 .rt [0,1,5] 1 (r0.2)
def La(R_:Oo)(l0:List au)(r0:Int×aj)(s7758:aj)(v0:Int):Mo (Bool):=
 .aV 16003 (decide ((v0:Int)<r0.1)) [0,1,5,6,7,38] 2 (!s7758.cu)
def Lc(R_:Oo)(r0:Int×aj):(Int×aj×(List au))→Mo ((Int×aj×(List au))⊕(aj×(List au))):=fun(v0,s7758,l0)=>
 .jk Tryz.f90 1 [1,1,1,1,1,0,1,0,0,0,0] 21 (fun r_=>⟨[(0,.ptr 0 0),(1,.raw (.func (.func 40) #[] #[])),(5,.i_ r0.1),(6,.own 1),(7,.i_ v0),(38,.b_ r_)],[bG s7758,.row 49 78 (l0.map au.lf)]⟩) ⟨[(0,.ptr 0 0),(1,.raw (.func (.func 40) #[] #[])),(5,.i_ r0.1),(6,.own 1),(7,.i_ v0)],[bG s7758,.row 49 78 (l0.map au.lf)]⟩ (La R_ l0 r0 s7758 v0) fun r1=>
 .iB (r1) (.ask (R_.m1 s7758) fun r2 h0=>
 .say [.gy [0] (.dat (au.lf1 r2.1)) [bG r2.2],.rows ((l0++[r2.1]).map au.lf)] (okc (R_.ok1 _ _ h0) (ok1 (ap_ au.aW l0 r2.1)))<|
 .grd ((l0.length+[r2.1].length)*1168≤140737488355328) fun h1=>
 .say [] (ok1 (cp_ au.lf h1))<|
 .ret ⟨[],[0,1,5,6,7],[(3,1)],2⟩ (.inl (IntKind.wrap .i64 (v0+1),r2.2,l0++[r2.1])))<|
 .rt [0,6] 2 (.inr (s7758,l0))
def aov(R_:Oo)(r0:Int×aj)(v0:Int)(s7758:aj)(l0:List au):Option ((aj×(List au))):=dM (fun v_=>(Lc R_ r0 v_).den) FU (v0,s7758,l0)
def XV(R_:Oo)(p_b0:aj):Mo ((List au)×aj):=
 .cH [0] (fV p_b0) fun r0 _=>
 .jk Tryz.f90 1 [1,1,0,0] 11 (fun r_=>⟨[(0,.ptr 0 0),(1,.raw (.func (.func 40) #[] #[])),(5,.i_ r0.1),(18,.b_ r_)],[bG r0.2]⟩) ⟨[(0,.ptr 0 0),(1,.raw (.func (.func 40) #[] #[])),(5,.i_ r0.1)],[bG r0.2]⟩ (SS R_ r0) fun r1=>
 .jk Tryz.f90 1 [1,1,0,1] 1 (fun r_=>⟨[(0,.ptr 0 0),(1,.raw (.func (.func 40) #[] #[])),(5,.i_ r0.1)],[bG r_]⟩) ⟨[(0,.ptr 0 0),(1,.raw (.func (.func 40) #[] #[])),(5,.i_ r0.1),(18,.b_ r1)],[bG r0.2]⟩ (SV R_ r0 r1) fun r2=>
 .say [] (ok1 (by simp[au.aW]:(([]:List au).map au.lf)=[]))<|
 .l1y [.rG 6 49 78,.kU 1 (([]:List au).map au.lf)] Tryz.f90 1 [1,1,1,1,1,0,1,0] 0 (.exit 0) (fun(v0,s7758,l0)=>⟨[(0,.ptr 0 0),(1,.raw (.func (.func 40) #[] #[])),(5,.i_ r0.1),(6,.own 1),(7,.i_ v0)],[bG s7758,.row 49 78 (l0.map au.lf)]⟩) (fun r_=>⟨[(0,.ptr 0 0),(6,.own 1)],[bG r_.1,.row 49 78 (r_.2.map au.lf)]⟩) (Lc R_ r0) (0,(aj.mk r2.fJ r2.fat (IntKind.wrap .i64 (r2.dS+1)) r2.cu),([]:List au)) fun r3=>
 .ret ⟨[.frz 1],[0],[],1⟩ (r3.2,aj.mk r3.1.fJ r3.1.fat (IntKind.wrap .i64 (r3.1.dS-1)) r3.1.cu)
theorem ahV(R_:Oo):XU fun p_b0=>Mo.den (XV R_ p_b0):=fun _=>dQ Tryz.func90
def qm:Nat→Oo
 |0=>{ m1:=fun p_b0=>none,ok1:=fun _ _ h=>(by cases h),m2:=fun p_b0=>none,ok2:=fun _ _ h=>(by cases h) }
 |n_+1=>{ m1:=fun p_b0=>Mo.den (Oq (qm n_) p_b0),ok1:=adO (qm n_),m2:=fun p_b0=>Mo.den (XV (qm n_) p_b0),ok2:=ahV (qm n_) }
def am3(p_b0:aj):Option (au×aj):=(qm FU).m1 p_b0
theorem ahW:Om am3:=(qm FU).ok1
def Ld(p_s:ByteArray)(r0:Int×aj)(r1:Int×aj)(r2:ByteArray×aj)(r3:Int×aj)(r4:au×aj):Mo (Bool):=
 .iG 10004 (r4.2.cu) (.ret ⟨[.kill 1],[0,2,5,35],[],3⟩ (true))<|
 .ret ⟨[.kill 1],[0,2,5,35],[],3⟩ (r4.2.fat != (p_s.size:Int))
def Lh(p_s:ByteArray)(r0:Int×aj)(r1:Int×aj)(r2:ByteArray×aj)(r3:Int×aj)(r4:au×aj)(r5:ByteArray×Int):Mo (Bool):=
 .oV 16002 (r5.2 != 0) [2,5,48] 3 (!decide ((r5.1:ByteArray)=(p_s:ByteArray)))
def adP(p_s:ByteArray):Mo (bW×Int):=
 .say [.at_ 6 1,.norm 1] ok0<|
 .cH [1] (fV (aj.mk p_s 0 0 false)) fun r0 _=>
 .cH [1] (fV r0.2) fun r1 _=>
 .cH [1] (vk r1.2) fun r2 _=>
 .cH [1] (fV r2.2) fun r3 _=>
 .cH [1] (ahW r3.2) fun r4 _=>
 .jk Tryz.f16 0 [1,1,1,1,0,0] 15 (fun r_=>⟨[(0,.lf (.str p_s)),(2,.ptr 0 0),(5,.ptr 2 0),(35,.b_ r_)],[.box 51 (Z51),.dead,.box 51 (.agg (.i_ r0.1::.i_ r1.1::.lf (.str r2.1)::.i_ r3.1::.i_ r4.1.ay::.lf (.str r4.1.fE)::.i_ r4.1.ig.ay::.i_ r4.1.ig.dG::.lf (.str r4.1.ig.fText)::.lf (.rows 5 (r4.1.ig.aU.map ah.lf))::.lf (.rows 6 (r4.1.ig.aY.map aJ.lf))::.i_ r4.1.aY.ay::.i_ r4.1.aY.dG::.lf (.str r4.1.aY.fText)::.lf (.rows 5 (r4.1.aY.aU.map ah.lf))::.lf (.rows 6 (r4.1.aY.aY.map aJ.lf))::.i_ r4.1.dF.ay::.i_ r4.1.dF.dG::.lf (.str r4.1.dF.fText)::.lf (.rows 5 (r4.1.dF.aU.map ah.lf))::.lf (.rows 6 (r4.1.dF.aY.map aJ.lf))::.lf (.str r4.1.dB.fName)::.lf (.rows 31 (r4.1.dB.bZ.map aQ.lf))::.i_ r4.1.dB.aZ.jF::.b_ r4.1.dB.aZ.iQ::.i_ r4.1.dB.aZ.kE.ay::.i_ r4.1.dB.aZ.kE.dG::.lf (.str r4.1.dB.aZ.kE.fText)::.lf (.rows 5 (r4.1.dB.aZ.kE.aU.map ah.lf))::.lf (.rows 6 (r4.1.dB.aZ.kE.aY.map aJ.lf))::.b_ r4.1.dB.aZ.iR::.i_ r4.1.dB.aZ.kF.ay::.i_ r4.1.dB.aZ.kF.dG::.lf (.str r4.1.dB.aZ.kF.fText)::.lf (.rows 5 (r4.1.dB.aZ.kF.aU.map ah.lf))::.lf (.rows 6 (r4.1.dB.aZ.kF.aY.map aJ.lf))::.lf (.rows 5 (r4.1.dB.aZ.jL.map ah.lf))::.i_ r4.1.dB.aZ.iU::.i_ r4.1.dB.aZ.iV::.lf (.rows 1 (r4.1.dB.aZ.dK.map lfS))::.lf (.rows 22 (r4.1.dB.aZ.dN.map bH.lf))::.b_ r4.1.dB.aZ.jD::.lf (.rows 21 (r4.1.dB.aZ.dP.map aI.lf))::.b_ r4.1.dB.aZ.dY::.i_ r4.1.dB.kG::.i_ r4.1.dB.iJ::.lf (.str r4.1.aX.fName)::.i_ r4.1.aX.ay::.lf (.rows 2 (r4.1.aX.fQ.map bf.lf))::.b_ r4.1.aX.dY::.b_ r4.1.aX.jl::.b_ r4.1.aX.gB::.i_ r4.1.aX.bF.fOp::.lf (.rows 1 (r4.1.aX.bF.cZ.map lfS))::.i_ r4.1.aX.bF.fArg.ay::.i_ r4.1.aX.bF.fArg.dG::.lf (.str r4.1.aX.bF.fArg.fText)::.lf (.rows 5 (r4.1.aX.bF.fArg.aU.map ah.lf))::.lf (.rows 6 (r4.1.aX.bF.fArg.aY.map aJ.lf))::.lf (.rows 5 (r4.1.aX.bF.fArgs.map ah.lf))::.i_ r4.1.aX.bF.fN::.i_ r4.1.aX.bF.fM::.i_ r4.1.aX.bF.dH.ay::.lf (.rows 2 (r4.1.aX.bF.dH.dD.map bM.lf))::.i_ r4.1.aX.bF.dH.fR::.i_ r4.1.aX.bF.fExpr.fOp::.lf (.rows 1 (r4.1.aX.bF.fExpr.cZ.map lfS))::.lf (.str r4.1.aX.bF.fExpr.fName)::.lf (.rows 1 (r4.1.aX.bF.fExpr.fK.map lfS))::.i_ r4.1.aX.bF.fExpr.fArg.ay::.i_ r4.1.aX.bF.fExpr.fArg.dG::.lf (.str r4.1.aX.bF.fExpr.fArg.fText)::.lf (.rows 5 (r4.1.aX.bF.fExpr.fArg.aU.map ah.lf))::.lf (.rows 6 (r4.1.aX.bF.fExpr.fArg.aY.map aJ.lf))::.i_ r4.1.aX.bF.fExpr.fN::.lf (.rows 11 (r4.1.aX.bF.fExpr.bV.map aS.lf))::.lf (.rows 25 (r4.1.aX.bF.bV.map aO.lf))::.lf (.str r4.1.kX)::.i_ r4.1.dO::.lf (.rows 78 (r4.1.bQ.map au.lf))::.lf (.rows 1 (r4.1.dI.map lfI))::.b_ r4.1.fB::[]))]⟩) ⟨[(0,.lf (.str p_s)),(2,.ptr 0 0),(4,.ptr 1 0),(5,.ptr 2 0)],[.box 51 (Z51),bG r4.2,.box 51 (.agg (.i_ r0.1::.i_ r1.1::.lf (.str r2.1)::.i_ r3.1::.i_ r4.1.ay::.lf (.str r4.1.fE)::.i_ r4.1.ig.ay::.i_ r4.1.ig.dG::.lf (.str r4.1.ig.fText)::.lf (.rows 5 (r4.1.ig.aU.map ah.lf))::.lf (.rows 6 (r4.1.ig.aY.map aJ.lf))::.i_ r4.1.aY.ay::.i_ r4.1.aY.dG::.lf (.str r4.1.aY.fText)::.lf (.rows 5 (r4.1.aY.aU.map ah.lf))::.lf (.rows 6 (r4.1.aY.aY.map aJ.lf))::.i_ r4.1.dF.ay::.i_ r4.1.dF.dG::.lf (.str r4.1.dF.fText)::.lf (.rows 5 (r4.1.dF.aU.map ah.lf))::.lf (.rows 6 (r4.1.dF.aY.map aJ.lf))::.lf (.str r4.1.dB.fName)::.lf (.rows 31 (r4.1.dB.bZ.map aQ.lf))::.i_ r4.1.dB.aZ.jF::.b_ r4.1.dB.aZ.iQ::.i_ r4.1.dB.aZ.kE.ay::.i_ r4.1.dB.aZ.kE.dG::.lf (.str r4.1.dB.aZ.kE.fText)::.lf (.rows 5 (r4.1.dB.aZ.kE.aU.map ah.lf))::.lf (.rows 6 (r4.1.dB.aZ.kE.aY.map aJ.lf))::.b_ r4.1.dB.aZ.iR::.i_ r4.1.dB.aZ.kF.ay::.i_ r4.1.dB.aZ.kF.dG::.lf (.str r4.1.dB.aZ.kF.fText)::.lf (.rows 5 (r4.1.dB.aZ.kF.aU.map ah.lf))::.lf (.rows 6 (r4.1.dB.aZ.kF.aY.map aJ.lf))::.lf (.rows 5 (r4.1.dB.aZ.jL.map ah.lf))::.i_ r4.1.dB.aZ.iU::.i_ r4.1.dB.aZ.iV::.lf (.rows 1 (r4.1.dB.aZ.dK.map lfS))::.lf (.rows 22 (r4.1.dB.aZ.dN.map bH.lf))::.b_ r4.1.dB.aZ.jD::.lf (.rows 21 (r4.1.dB.aZ.dP.map aI.lf))::.b_ r4.1.dB.aZ.dY::.i_ r4.1.dB.kG::.i_ r4.1.dB.iJ::.lf (.str r4.1.aX.fName)::.i_ r4.1.aX.ay::.lf (.rows 2 (r4.1.aX.fQ.map bf.lf))::.b_ r4.1.aX.dY::.b_ r4.1.aX.jl::.b_ r4.1.aX.gB::.i_ r4.1.aX.bF.fOp::.lf (.rows 1 (r4.1.aX.bF.cZ.map lfS))::.i_ r4.1.aX.bF.fArg.ay::.i_ r4.1.aX.bF.fArg.dG::.lf (.str r4.1.aX.bF.fArg.fText)::.lf (.rows 5 (r4.1.aX.bF.fArg.aU.map ah.lf))::.lf (.rows 6 (r4.1.aX.bF.fArg.aY.map aJ.lf))::.lf (.rows 5 (r4.1.aX.bF.fArgs.map ah.lf))::.i_ r4.1.aX.bF.fN::.i_ r4.1.aX.bF.fM::.i_ r4.1.aX.bF.dH.ay::.lf (.rows 2 (r4.1.aX.bF.dH.dD.map bM.lf))::.i_ r4.1.aX.bF.dH.fR::.i_ r4.1.aX.bF.fExpr.fOp::.lf (.rows 1 (r4.1.aX.bF.fExpr.cZ.map lfS))::.lf (.str r4.1.aX.bF.fExpr.fName)::.lf (.rows 1 (r4.1.aX.bF.fExpr.fK.map lfS))::.i_ r4.1.aX.bF.fExpr.fArg.ay::.i_ r4.1.aX.bF.fExpr.fArg.dG::.lf (.str r4.1.aX.bF.fExpr.fArg.fText)::.lf (.rows 5 (r4.1.aX.bF.fExpr.fArg.aU.map ah.lf))::.lf (.rows 6 (r4.1.aX.bF.fExpr.fArg.aY.map aJ.lf))::.i_ r4.1.aX.bF.fExpr.fN::.lf (.rows 11 (r4.1.aX.bF.fExpr.bV.map aS.lf))::.lf (.rows 25 (r4.1.aX.bF.bV.map aO.lf))::.lf (.str r4.1.kX)::.i_ r4.1.dO::.lf (.rows 78 (r4.1.bQ.map au.lf))::.lf (.rows 1 (r4.1.dI.map lfI))::.b_ r4.1.fB::[]))]⟩ (Ld p_s r0 r1 r2 r3 r4) fun r5=>
 .iB (r5) (.ret (bn 2) (bW.mk 0 0 ⟨#[]⟩ 0 au.z,4))<|
 .cl (EK (bW.mk r0.1 r1.1 r2.1 r3.1 r4.1)) fun r6 _=>
 .jk Tryz.f16 0 [1,1,1,1,1,1,0,0] 21 (fun r_=>⟨[(2,.ptr 0 0),(5,.ptr 2 0),(48,.b_ r_)],[.box 51 (Z51),.dead,.box 51 (.agg (.i_ r0.1::.i_ r1.1::.lf (.str r2.1)::.i_ r3.1::.i_ r4.1.ay::.lf (.str r4.1.fE)::.i_ r4.1.ig.ay::.i_ r4.1.ig.dG::.lf (.str r4.1.ig.fText)::.lf (.rows 5 (r4.1.ig.aU.map ah.lf))::.lf (.rows 6 (r4.1.ig.aY.map aJ.lf))::.i_ r4.1.aY.ay::.i_ r4.1.aY.dG::.lf (.str r4.1.aY.fText)::.lf (.rows 5 (r4.1.aY.aU.map ah.lf))::.lf (.rows 6 (r4.1.aY.aY.map aJ.lf))::.i_ r4.1.dF.ay::.i_ r4.1.dF.dG::.lf (.str r4.1.dF.fText)::.lf (.rows 5 (r4.1.dF.aU.map ah.lf))::.lf (.rows 6 (r4.1.dF.aY.map aJ.lf))::.lf (.str r4.1.dB.fName)::.lf (.rows 31 (r4.1.dB.bZ.map aQ.lf))::.i_ r4.1.dB.aZ.jF::.b_ r4.1.dB.aZ.iQ::.i_ r4.1.dB.aZ.kE.ay::.i_ r4.1.dB.aZ.kE.dG::.lf (.str r4.1.dB.aZ.kE.fText)::.lf (.rows 5 (r4.1.dB.aZ.kE.aU.map ah.lf))::.lf (.rows 6 (r4.1.dB.aZ.kE.aY.map aJ.lf))::.b_ r4.1.dB.aZ.iR::.i_ r4.1.dB.aZ.kF.ay::.i_ r4.1.dB.aZ.kF.dG::.lf (.str r4.1.dB.aZ.kF.fText)::.lf (.rows 5 (r4.1.dB.aZ.kF.aU.map ah.lf))::.lf (.rows 6 (r4.1.dB.aZ.kF.aY.map aJ.lf))::.lf (.rows 5 (r4.1.dB.aZ.jL.map ah.lf))::.i_ r4.1.dB.aZ.iU::.i_ r4.1.dB.aZ.iV::.lf (.rows 1 (r4.1.dB.aZ.dK.map lfS))::.lf (.rows 22 (r4.1.dB.aZ.dN.map bH.lf))::.b_ r4.1.dB.aZ.jD::.lf (.rows 21 (r4.1.dB.aZ.dP.map aI.lf))::.b_ r4.1.dB.aZ.dY::.i_ r4.1.dB.kG::.i_ r4.1.dB.iJ::.lf (.str r4.1.aX.fName)::.i_ r4.1.aX.ay::.lf (.rows 2 (r4.1.aX.fQ.map bf.lf))::.b_ r4.1.aX.dY::.b_ r4.1.aX.jl::.b_ r4.1.aX.gB::.i_ r4.1.aX.bF.fOp::.lf (.rows 1 (r4.1.aX.bF.cZ.map lfS))::.i_ r4.1.aX.bF.fArg.ay::.i_ r4.1.aX.bF.fArg.dG::.lf (.str r4.1.aX.bF.fArg.fText)::.lf (.rows 5 (r4.1.aX.bF.fArg.aU.map ah.lf))::.lf (.rows 6 (r4.1.aX.bF.fArg.aY.map aJ.lf))::.lf (.rows 5 (r4.1.aX.bF.fArgs.map ah.lf))::.i_ r4.1.aX.bF.fN::.i_ r4.1.aX.bF.fM::.i_ r4.1.aX.bF.dH.ay::.lf (.rows 2 (r4.1.aX.bF.dH.dD.map bM.lf))::.i_ r4.1.aX.bF.dH.fR::.i_ r4.1.aX.bF.fExpr.fOp::.lf (.rows 1 (r4.1.aX.bF.fExpr.cZ.map lfS))::.lf (.str r4.1.aX.bF.fExpr.fName)::.lf (.rows 1 (r4.1.aX.bF.fExpr.fK.map lfS))::.i_ r4.1.aX.bF.fExpr.fArg.ay::.i_ r4.1.aX.bF.fExpr.fArg.dG::.lf (.str r4.1.aX.bF.fExpr.fArg.fText)::.lf (.rows 5 (r4.1.aX.bF.fExpr.fArg.aU.map ah.lf))::.lf (.rows 6 (r4.1.aX.bF.fExpr.fArg.aY.map aJ.lf))::.i_ r4.1.aX.bF.fExpr.fN::.lf (.rows 11 (r4.1.aX.bF.fExpr.bV.map aS.lf))::.lf (.rows 25 (r4.1.aX.bF.bV.map aO.lf))::.lf (.str r4.1.kX)::.i_ r4.1.dO::.lf (.rows 78 (r4.1.bQ.map au.lf))::.lf (.rows 1 (r4.1.dI.map lfI))::.b_ r4.1.fB::[]))]⟩) ⟨[(0,.lf (.str p_s)),(2,.ptr 0 0),(5,.ptr 2 0),(6,.lf (.str r6.1)),(7,.i_ r6.2)],[.box 51 (Z51),.dead,.box 51 (.agg (.i_ r0.1::.i_ r1.1::.lf (.str r2.1)::.i_ r3.1::.i_ r4.1.ay::.lf (.str r4.1.fE)::.i_ r4.1.ig.ay::.i_ r4.1.ig.dG::.lf (.str r4.1.ig.fText)::.lf (.rows 5 (r4.1.ig.aU.map ah.lf))::.lf (.rows 6 (r4.1.ig.aY.map aJ.lf))::.i_ r4.1.aY.ay::.i_ r4.1.aY.dG::.lf (.str r4.1.aY.fText)::.lf (.rows 5 (r4.1.aY.aU.map ah.lf))::.lf (.rows 6 (r4.1.aY.aY.map aJ.lf))::.i_ r4.1.dF.ay::.i_ r4.1.dF.dG::.lf (.str r4.1.dF.fText)::.lf (.rows 5 (r4.1.dF.aU.map ah.lf))::.lf (.rows 6 (r4.1.dF.aY.map aJ.lf))::.lf (.str r4.1.dB.fName)::.lf (.rows 31 (r4.1.dB.bZ.map aQ.lf))::.i_ r4.1.dB.aZ.jF::.b_ r4.1.dB.aZ.iQ::.i_ r4.1.dB.aZ.kE.ay::.i_ r4.1.dB.aZ.kE.dG::.lf (.str r4.1.dB.aZ.kE.fText)::.lf (.rows 5 (r4.1.dB.aZ.kE.aU.map ah.lf))::.lf (.rows 6 (r4.1.dB.aZ.kE.aY.map aJ.lf))::.b_ r4.1.dB.aZ.iR::.i_ r4.1.dB.aZ.kF.ay::.i_ r4.1.dB.aZ.kF.dG::.lf (.str r4.1.dB.aZ.kF.fText)::.lf (.rows 5 (r4.1.dB.aZ.kF.aU.map ah.lf))::.lf (.rows 6 (r4.1.dB.aZ.kF.aY.map aJ.lf))::.lf (.rows 5 (r4.1.dB.aZ.jL.map ah.lf))::.i_ r4.1.dB.aZ.iU::.i_ r4.1.dB.aZ.iV::.lf (.rows 1 (r4.1.dB.aZ.dK.map lfS))::.lf (.rows 22 (r4.1.dB.aZ.dN.map bH.lf))::.b_ r4.1.dB.aZ.jD::.lf (.rows 21 (r4.1.dB.aZ.dP.map aI.lf))::.b_ r4.1.dB.aZ.dY::.i_ r4.1.dB.kG::.i_ r4.1.dB.iJ::.lf (.str r4.1.aX.fName)::.i_ r4.1.aX.ay::.lf (.rows 2 (r4.1.aX.fQ.map bf.lf))::.b_ r4.1.aX.dY::.b_ r4.1.aX.jl::.b_ r4.1.aX.gB::.i_ r4.1.aX.bF.fOp::.lf (.rows 1 (r4.1.aX.bF.cZ.map lfS))::.i_ r4.1.aX.bF.fArg.ay::.i_ r4.1.aX.bF.fArg.dG::.lf (.str r4.1.aX.bF.fArg.fText)::.lf (.rows 5 (r4.1.aX.bF.fArg.aU.map ah.lf))::.lf (.rows 6 (r4.1.aX.bF.fArg.aY.map aJ.lf))::.lf (.rows 5 (r4.1.aX.bF.fArgs.map ah.lf))::.i_ r4.1.aX.bF.fN::.i_ r4.1.aX.bF.fM::.i_ r4.1.aX.bF.dH.ay::.lf (.rows 2 (r4.1.aX.bF.dH.dD.map bM.lf))::.i_ r4.1.aX.bF.dH.fR::.i_ r4.1.aX.bF.fExpr.fOp::.lf (.rows 1 (r4.1.aX.bF.fExpr.cZ.map lfS))::.lf (.str r4.1.aX.bF.fExpr.fName)::.lf (.rows 1 (r4.1.aX.bF.fExpr.fK.map lfS))::.i_ r4.1.aX.bF.fExpr.fArg.ay::.i_ r4.1.aX.bF.fExpr.fArg.dG::.lf (.str r4.1.aX.bF.fExpr.fArg.fText)::.lf (.rows 5 (r4.1.aX.bF.fExpr.fArg.aU.map ah.lf))::.lf (.rows 6 (r4.1.aX.bF.fExpr.fArg.aY.map aJ.lf))::.i_ r4.1.aX.bF.fExpr.fN::.lf (.rows 11 (r4.1.aX.bF.fExpr.bV.map aS.lf))::.lf (.rows 25 (r4.1.aX.bF.bV.map aO.lf))::.lf (.str r4.1.kX)::.i_ r4.1.dO::.lf (.rows 78 (r4.1.bQ.map au.lf))::.lf (.rows 1 (r4.1.dI.map lfI))::.b_ r4.1.fB::[]))]⟩ (Lh p_s r0 r1 r2 r3 r4 r6) fun r7=>
 .iB (r7) (.ret (bn 2) (bW.mk 0 0 ⟨#[]⟩ 0 au.z,4))<|
 .ret (bn 2) (bW.mk r0.1 r1.1 r2.1 r3.1 r4.1,0)
def alr(p_s:ByteArray):Option (bW×Int):=Mo.den (adP p_s)
theorem Ot(p_s:ByteArray):FV (alr p_s) 16 [.lf (.str p_s)] (fun r=>.tup [.dat (bW.lf1 r.1),.i_ r.2]):=dL Tryz.func16
def SX(p_n:Int):Mo (Int):=
 .iB (decide ((p_n:Int)<0)) (.rt [3] 0 (dU .xor .u64 (IntKind.max .u64) (zf .u64 (IntKind.wrap .u64 p_n) 1)))<|
 .rt [3] 0 (zf .u64 (IntKind.wrap .u64 p_n) 1)
def SY(v0:Int)(v1:ByteArray)(v2:Int):Mo (Bool):=
 .aV 14002 (decide ((v2:Int)<10)) [3,4,5,18] 0 (decide ((128:Int)≤v0))
def Lj :(Int×ByteArray×Int)→Mo ((Int×ByteArray×Int)⊕(Int×ByteArray)):=fun(v0,v1,v2)=>
 .jk Tryz.f139 0 [1,1,1,1,0,1,0,0,0,0] 19 (fun r_=>⟨[(3,.lf (.int .u64 v0)),(4,.lf (.str v1)),(5,.i_ v2),(18,.b_ r_)],[]⟩) ⟨[(3,.lf (.int .u64 v0)),(4,.lf (.str v1)),(5,.i_ v2)],[]⟩ (SY v0 v1 v2) fun r0=>
 .iB (r0) (.say [.nums [dU .or .u8 (IntKind.wrap .u8 (Int.tmod v0 128)) 128]] (okc (by decide:(128:Int)≠0) (ok1 (by simp[lfI,lfK]:[((lfK .u8) (dU .or .u8 (IntKind.wrap .u8 (Int.tmod v0 128)) 128))]=[dU .or .u8 (IntKind.wrap .u8 (Int.tmod v0 128)) 128].map fun n=>[Lf.int .u8 n])))<|
 .grd (v1.size+(strOfNums [dU .or .u8 (IntKind.wrap .u8 (Int.tmod v0 128)) 128]).size≤9223372036854775807) fun h0=>
 .say [] (okc h0 (ok1 (by decide:(128:Int)≠0)))<|
 .rt [3,4,5] 0 (.inl (IntKind.wrap .u64 (Int.tdiv v0 128),v1++(strOfNums [dU .or .u8 (IntKind.wrap .u8 (Int.tmod v0 128)) 128]),IntKind.wrap .i64 (v2+1))))<|
 .rt [3,4] 0 (.inr (v0,v1))
def ajE(p_n:Int):Mo (ByteArray):=
 .say [] (ok1 (by decide:(0:Int)≤1))<|
 .jk Tryz.f139 0 [1,1,0,1] 1 (fun r_=>⟨[(3,.lf (.int .u64 r_))],[]⟩) ⟨[(3,.lf (.int .u64 (zf .u64 (IntKind.wrap .u64 p_n) 1))),(10,.lf (.bool (decide ((p_n:Int)<0))))],[]⟩ (SX p_n) fun r0=>
 .l1 Tryz.f139 0 [1,1,1,1,0,1,0] 0 (.exit 0) (fun(v0,v1,v2)=>⟨[(3,.lf (.int .u64 v0)),(4,.lf (.str v1)),(5,.i_ v2)],[]⟩) (fun r_=>⟨[(3,.lf (.int .u64 r_.1)),(4,.lf (.str r_.2))],[]⟩) (Lj ) (r0,⟨#[]⟩,0) fun r1=>
 .say [.nums [IntKind.wrap .u8 r1.1]] (ok1 (by simp[lfI,lfK]:[((lfK .u8) (IntKind.wrap .u8 r1.1))]=[IntKind.wrap .u8 r1.1].map fun n=>[Lf.int .u8 n]))<|
 .grd (r1.2.size+(strOfNums [IntKind.wrap .u8 r1.1]).size≤9223372036854775807) fun h0=>
 .say [] (ok1 h0)<|
 .ret (bn 1) (r1.2++(strOfNums [IntKind.wrap .u8 r1.1]))
def Q40(p_n:Int):Option (ByteArray):=Mo.den (ajE p_n)
theorem CV(p_n:Int):FV (Q40 p_n) 139 [.i_ p_n] (fun r=>.lf (.str r)):=dL Tryz.func139
def am4(p_n:Int)(p_b0:aK):Mo (aK):=
 .say [.order [(true,0),(true,1),(true,2),(true,3),(true,4),(false,5),(true,6),(true,7),(true,8),(false,9)] (some 9) []] ok0<|
 .cl (CV p_n) fun r0 _=>
 .grd (p_b0.fS.size+r0.size≤9223372036854775807) fun h0=>
 .say [] (ok1 h0)<|
 .rt [] 1 (aK.mk (p_b0.fS++r0) p_b0.zB p_b0.uf)
def Q2(p_n:Int)(p_b0:aK):Option (aK):=Mo.den (am4 p_n p_b0)
theorem iI(p_n:Int)(p_b0:aK):FH (Q2 p_n p_b0) 83 [.ptr 0 0,.i_ p_n] [dV p_b0] (fun _=>.tup []) (fun r=>[dV r]):=dQ Tryz.func83
end
end Go.Proofs.YtflpefkohpjjpaaGreatDoor
set_option linter.unusedSimpArgs false
set_option linter.unusedVariables false
namespace Go.Proofs.YtflpefkohpjjpaaGreatDoor
open Go.RowKit
set_option maxRecDepth 20000
set_option maxHeartbeats 4000000
noncomputable section
def ajF(p_s:ByteArray)(p_b0:aK):Mo (aK):=
 .cH [0] (iI (p_s.size:Int) p_b0) fun r0 _=>
 .grd (r0.fS.size+p_s.size≤9223372036854775807) fun h0=>
 .say [] (ok1 h0)<|
 .rt [] 1 (aK.mk (r0.fS++p_s) r0.zB r0.uf)
def Q42(p_s:ByteArray)(p_b0:aK):Option (aK):=Mo.den (ajF p_s p_b0)
theorem ru(p_s:ByteArray)(p_b0:aK):FH (Q42 p_s p_b0) 84 [.ptr 0 0,.lf (.str p_s)] [dV p_b0] (fun _=>.tup []) (fun r=>[dV r]):=dQ Tryz.func84
def als(p_v:ah):Mo (Bool):=
 .sf Tryz.f71 0 [1,0] 0 8 1 [(1,.ptr 0 0),(2,.b_ false)] [bK p_v] 10 (o9 p_v) fun r0=>
 .sb Tryz.f71 0 [1,0] 8 5 1 [(1,.ptr 0 0),(2,.b_ false)] [bK p_v] 10 15 r0 (pq p_v r0) fun r1=>
 .sb Tryz.f71 0 [1,0] 13 6 1 [(1,.ptr 0 0),(2,.b_ false)] [bK p_v] 15 21 r1 (ng p_v r1) fun r2=>
 .sk Tryz.f71 0 [1,0] 19 6 1 (fun r_=>⟨[(2,.b_ false),(27,.b_ r_)],[.dead]⟩) ⟨[(1,.ptr 0 0),(2,.b_ false),(21,.b_ r2)],[bK p_v]⟩ (ni p_v r2) fun r3=>
 .sk Tryz.f71 0 [1,0] 25 1 1 (fun r_=>⟨[(2,.b_ r3)],[.dead]⟩) ⟨[(2,.b_ false),(27,.b_ r3)],[.dead]⟩ (eX r3) fun r4=>
 .ret (bn 1) (r3)
def anO(p_v:ah):Option (Bool):=Mo.den (als p_v)
theorem ahX(p_v:ah):FV (anO p_v) 71 [.dat (ah.lf1 p_v)] .b_:=dL Tryz.func71
def adQ(p_v:ah):(Int×(List ah))→Mo ((Int×(List ah))⊕((List ah))):=fun(v0,l0)=>
 .nu p_v.aU ah.lf<|
 .iB (decide ((v0:Int)<(p_v.aU.length:Int))) (.gx ah.aW p_v.aU v0 fun x0 _=>
 .say [.rows ((l0++[x0]).map ah.lf)] (ok1 (ap_ ah.aW l0 x0))<|
 .grd ((l0.length+[x0].length)*80≤140737488355328) fun h0=>
 .say [] (ok1 (cp_ ah.lf h0))<|
 .ret ⟨[],[1,3,4],[(3,1)],2⟩ (.inl (IntKind.wrap .i64 (v0+1),l0++[x0])))<|
 .rt [1,3] 2 (.inr (l0))
def adR(p_v:ah):Mo (((List ah))):=
 .iB (p_v.ay==6) (.say [] (ok1 (by simp[ah.aW]:(([]:List ah).map ah.lf)=[]))<|
 .l1y [.kU 1 (([]:List ah).map ah.lf)] Tryz.f312 0 [1,1,0,1,0,1,0] 0 (.exit 0) (fun(v0,l0)=>⟨[(1,.ptr 0 0),(3,.own 1),(4,.i_ v0)],[bK p_v,.row 25 5 (l0.map ah.lf)]⟩) (fun r_=>⟨[(1,.ptr 0 0),(3,.own 1)],[bK p_v,.row 25 5 (r_.map ah.lf)]⟩) (adQ p_v) (0,([]:List ah)) fun r0=>
 .rt [1,3] 2 (r0))<|
 .say [] (ok1 (by simp[ah.aW]:(([]:List ah).map ah.lf)=[]))<|
 .ret ⟨[.kU 1 (([]:List ah).map ah.lf)],[1,3],[],2⟩ (([]:List ah))
def Zp(p_v:ah):(Int×(List ah))→Mo ((Int×(List ah))⊕((List ah))):=fun(v0,l0)=>
 .nu p_v.aY aJ.lf<|
 .iB (decide ((v0:Int)<(p_v.aY.length:Int))) (.gx aJ.aW p_v.aY v0 fun x0 _=>
 .say [.rows ((l0++[x0.fValue]).map ah.lf)] (ok1 (ap_ ah.aW l0 x0.fValue))<|
 .grd ((l0.length+[x0.fValue].length)*80≤140737488355328) fun h0=>
 .say [] (ok1 (cp_ ah.lf h0))<|
 .ret ⟨[],[1,3,5],[(3,1)],2⟩ (.inl (IntKind.wrap .i64 (v0+1),l0++[x0.fValue])))<|
 .ret ⟨[.kill 0],[3],[],2⟩ (.inr (l0))
def Zq(p_v:ah)(r0:((List ah))):Mo (((List ah))):=
 .iB (p_v.ay==5) (.l1 Tryz.f312 0 [1,1,1,0,1,0,1,0] 0 (.exit 2) (fun(v0,l0)=>⟨[(1,.ptr 0 0),(3,.own 1),(5,.i_ v0)],[bK p_v,.row 25 5 (l0.map ah.lf)]⟩) (fun r_=>⟨[(3,.own 1)],[.dead,.row 25 5 (r_.map ah.lf)]⟩) (Zp p_v) (0,r0) fun r1=>
 .rt [3] 2 (r1))<|
 .ret ⟨[.kill 0],[3],[],2⟩ (r0)
def am5(p_v:ah):Mo (List ah):=
 .jy [.rG 3 25 5] Tryz.f312 0 [1,1,0,1] 1 (.normal) (fun r_=>⟨[(1,.ptr 0 0),(3,.own 1)],[bK p_v,.row 25 5 (r_.map ah.lf)]⟩) ⟨[(1,.ptr 0 0),(3,.own 1),(8,.lf (.bool (p_v.ay==6)))],[bK p_v,.row 25 5 []]⟩ (adR p_v) fun r0=>
 .jk Tryz.f312 0 [1,1,1,0,1] 1 (fun r_=>⟨[(3,.own 1)],[.dead,.row 25 5 (r_.map ah.lf)]⟩) ⟨[(1,.ptr 0 0),(3,.own 1),(26,.lf (.bool (p_v.ay==5)))],[bK p_v,.row 25 5 (r0.map ah.lf)]⟩ (Zq p_v r0) fun r1=>
 .say [.at_ 0 0,.frz 1] ok0<|
 .ret (bn 1) (r1)
def Q83(p_v:ah):Option (List ah):=Mo.den (am5 p_v)
theorem adS(p_v:ah):FV (Q83 p_v) 312 [.dat (ah.lf1 p_v)] (fun r=>.lf (.rows 5 (r.map ah.lf))):=dL Tryz.func312
abbrev Ou(m:ah→Int→Option (Int)):Prop:=∀p_v p_most,FV (m p_v p_most) 259 [.dat (ah.lf1 p_v),.i_ p_most] .i_
structure adT where
 m1:(p_v:ah)→(p_most:Int)→Option (Int)
 ok1:Ou m1
def Zr(R_:adT)(p_most:Int)(r0:List ah):Mo (Bool):=
 .iG 6002 (decide ((p_most:Int)<2)) (.rt [1,5,16] 1 (true))<|
 .nu r0 ah.lf<|
 .rt [1,5,16] 1 ((r0.length:Int)==0)
def Zt(R_:adT)(p_most:Int)(r0:List ah):(Int×Int)→Mo ((Int×Int)⊕(Int)):=fun(v0,v1)=>
 .nu r0 ah.lf<|
 .iB (decide ((v1:Int)<(r0.length:Int))) (.gx ah.aW r0 v1 fun x0 _=>
 .cl (R_.ok1 x0 (IntKind.wrap .i64 (p_most-1))) fun r1 _=>
 .rt [1,5,6,7] 1 (.inl ((if r1 > v0 then r1 else v0),IntKind.wrap .i64 (v1+1))))<|
 .rt [6] 1 (.inr (v0))
def adU(R_:adT)(p_v:ah)(p_most:Int):Mo (Int):=
 .cl (adS p_v) fun r0 _=>
 .jy [.kill 0] Tryz.f259 0 [1,1,0,0] 11 (.normal) (fun r_=>⟨[(1,.i_ p_most),(5,.lf (.rows 5 (r0.map ah.lf))),(16,.b_ r_)],[.dead]⟩) ⟨[(1,.i_ p_most),(5,.lf (.rows 5 (r0.map ah.lf)))],[.dead]⟩ (Zr R_ p_most r0) fun r1=>
 .iB (r1) (.ret (bn 1) (1))<|
 .l1 Tryz.f259 0 [1,1,1,1,0,1,0] 0 (.exit 0) (fun(v0,v1)=>⟨[(1,.i_ p_most),(5,.lf (.rows 5 (r0.map ah.lf))),(6,.i_ v0),(7,.i_ v1)],[.dead]⟩) (fun r_=>⟨[(6,.i_ r_)],[.dead]⟩) (Zt R_ p_most r0) (0,0) fun r2=>
 .ret (bn 1) (IntKind.wrap .i64 (r2+1))
theorem adV(R_:adT):Ou fun p_v p_most=>Mo.den (adU R_ p_v p_most):=fun _ _=>dL Tryz.func259
def Ov:Nat→adT
 |0=>{ m1:=fun p_v p_most=>none,ok1:=fun _ _ _ h=>(by cases h) }
 |n_+1=>{ m1:=fun p_v p_most=>Mo.den (adU (Ov n_) p_v p_most),ok1:=adV (Ov n_) }
def anP(p_v:ah)(p_most:Int):Option (Int):=(Ov FU).m1 p_v p_most
theorem ahY:Ou anP:=(Ov FU).ok1
def alu(p_v:ah):Mo (Int):=
 .cl (ahY p_v 17) fun r0 _=>
 .ret (bn 1) (r0)
def anQ(p_v:ah):Option (Int):=Mo.den (alu p_v)
theorem ahZ(p_v:ah):FV (anQ p_v) 189 [.dat (ah.lf1 p_v)] .i_:=dL Tryz.func189
abbrev Ox(m:ah→Int→Option (Int)):Prop:=∀p_v p_most,FV (m p_v p_most) 260 [.dat (ah.lf1 p_v),.i_ p_most] .i_
structure adW where
 m1:(p_v:ah)→(p_most:Int)→Option (Int)
 ok1:Ox m1
def Zu(R_:adW)(p_most:Int)(r0:List ah)(v0:Int)(v1:Int):Mo (Bool):=
 .nu r0 ah.lf<|
 .aV 10004 (decide ((v1:Int)<(r0.length:Int))) [1,5,6,7,18] 1 (decide ((v0:Int)<p_most))
def Zv(R_:adW)(p_most:Int)(r0:List ah):(Int×Int)→Mo ((Int×Int)⊕(Int)):=fun(v0,v1)=>
 .jk Tryz.f260 0 [1,1,1,0,1,0,0,0,0] 15 (fun r_=>⟨[(1,.i_ p_most),(5,.i_ v0),(6,.lf (.rows 5 (r0.map ah.lf))),(7,.i_ v1),(18,.b_ r_)],[.dead]⟩) ⟨[(1,.i_ p_most),(5,.i_ v0),(6,.lf (.rows 5 (r0.map ah.lf))),(7,.i_ v1)],[.dead]⟩ (Zu R_ p_most r0 v0 v1) fun r1=>
 .iB (r1) (.gx ah.aW r0 v1 fun x0 _=>
 .cl (R_.ok1 x0 (IntKind.wrap .i64 (p_most-v0))) fun r2 _=>
 .rt [1,5,6,7] 1 (.inl (IntKind.wrap .i64 (v0+r2),IntKind.wrap .i64 (v1+1))))<|
 .rt [5] 1 (.inr (v0))
def adX(R_:adW)(p_v:ah)(p_most:Int):Mo (Int):=
 .cl (adS p_v) fun r0 _=>
 .l1y [.kill 0] Tryz.f260 0 [1,1,1,0,1,0] 0 (.exit 0) (fun(v0,v1)=>⟨[(1,.i_ p_most),(5,.i_ v0),(6,.lf (.rows 5 (r0.map ah.lf))),(7,.i_ v1)],[.dead]⟩) (fun r_=>⟨[(5,.i_ r_)],[.dead]⟩) (Zv R_ p_most r0) (1,0) fun r1=>
 .ret (bn 1) (r1)
theorem adY(R_:adW):Ox fun p_v p_most=>Mo.den (adX R_ p_v p_most):=fun _ _=>dL Tryz.func260
def Oy:Nat→adW
 |0=>{ m1:=fun p_v p_most=>none,ok1:=fun _ _ _ h=>(by cases h) }
 |n_+1=>{ m1:=fun p_v p_most=>Mo.den (adX (Oy n_) p_v p_most),ok1:=adY (Oy n_) }
def anR(p_v:ah)(p_most:Int):Option (Int):=(Oy FU).m1 p_v p_most
theorem ah0:Ox anR:=(Oy FU).ok1
def alv(p_v:ah):Mo (Int):=
 .cl (ah0 p_v 1025) fun r0 _=>
 .ret (bn 1) (r0)
def anS(p_v:ah):Option (Int):=Mo.den (alv p_v)
theorem ah1(p_v:ah):FV (anS p_v) 190 [.dat (ah.lf1 p_v)] .i_:=dL Tryz.func190
def Zw(p_i:Int)(p_n:Int)(p_s:ByteArray)(v0:Int):Mo (Bool):=
 .ask (jK p_s (IntKind.wrap .i64 (p_i+v0))) fun b0 h0=>
 .say [.byt b0] (ok1 (fC h0))<|
 .iG 14006 (decide (((b0.toNat:Int):Int)<128)) (.rt [0,1,2,7,32] 0 (true))<|
 .ask (jK p_s (IntKind.wrap .i64 (p_i+v0))) fun b1 h1=>
 .say [.byt b1] (ok1 (fC h1))<|
 .rt [0,1,2,7,32] 0 (decide ((191:Int)<(b1.toNat:Int)))
def Zx(p_i:Int)(p_n:Int)(p_s:ByteArray):(Int)→Mo ((Int)⊕(Unit⊕Unit)):=fun(v0)=>
 .iB (decide ((v0:Int)<p_n)) (.jk Tryz.f313 0 [1,1,0,1,0,0,1,0,0,0] 19 (fun r_=>⟨[(0,.lf (.str p_s)),(1,.i_ p_i),(2,.i_ p_n),(7,.i_ v0),(32,.b_ r_)],[]⟩) ⟨[(0,.lf (.str p_s)),(1,.i_ p_i),(2,.i_ p_n),(7,.i_ v0)],[]⟩ (Zw p_i p_n p_s v0) fun r0=>
 .iB (r0) (.rt [6] 0 (.inr (.inl ())))<|
 .rt [0,1,2,7] 0 (.inl (IntKind.wrap .i64 (v0+1))))<|
 .rt [] 0 (.inr (.inr (())))
def alx(p_s:ByteArray)(p_i:Int)(p_n:Int):Mo (Bool):=
 .iB (decide (((p_s.size:Int):Int)<(IntKind.wrap .i64 (p_i+p_n)))) (.ret (bn 1) (false))<|
 .l2 Tryz.f313 0 [1,1,0,1,0] 0 (fun(v0)=>⟨[(0,.lf (.str p_s)),(1,.i_ p_i),(2,.i_ p_n),(7,.i_ v0)],[]⟩) .ret (fun _=>⟨[(6,.b_ false)],[]⟩) (.exit 0) (fun _=>⟨[],[]⟩) (Zx p_i p_n p_s) (0) (fun o0=>
 .ret (bn 1) (false)) fun o1=>
 .ret (bn 1) (true)
def anT(p_s:ByteArray)(p_i:Int)(p_n:Int):Option (Bool):=Mo.den (alx p_s p_i p_n)
theorem ah2(p_s:ByteArray)(p_i:Int)(p_n:Int):FV (anT p_s p_i p_n) 313 [.lf (.str p_s),.i_ p_i,.i_ p_n] .b_:=dL Tryz.func313
def adZ(b0:UInt8)(p_s:ByteArray)(v0:Int):Mo (Bool):=
 .aV 16002 (decide ((194:Int)≤(b0.toNat:Int))) [0,3,4,16] 0 (decide (((b0.toNat:Int):Int)≤223))
def ad1(b0:UInt8)(p_s:ByteArray)(v0:Int):Mo (Bool):=
 .aV 20002 (decide ((224:Int)≤(b0.toNat:Int))) [0,3,4,23] 0 (decide (((b0.toNat:Int):Int)≤239))
def Zy(b0:UInt8)(p_s:ByteArray)(v0:Int):Mo (Bool):=
 .aV 24002 (decide ((240:Int)≤(b0.toNat:Int))) [0,3,4,30] 0 (decide (((b0.toNat:Int):Int)≤244))
def Zz(b0:UInt8)(p_s:ByteArray)(v0:Int):Mo ((Int)⊕Unit):=
 .iB (decide (((b0.toNat:Int):Int)<128)) (.rt [0,3,4,5] 0 (.inl (0)))<|
 .jk Tryz.f261 0 [1,0,1,0,0,1,0,1,1,0,0,1,1,0] 21 (fun r_=>⟨[(0,.lf (.str p_s)),(3,.i_ v0),(4,.lf (.int .u8 (b0.toNat:Int))),(16,.b_ r_)],[]⟩) ⟨[(0,.lf (.str p_s)),(3,.i_ v0),(4,.lf (.int .u8 (b0.toNat:Int)))],[]⟩ (adZ b0 p_s v0) fun r0=>
 .iB (r0) (.rt [0,3,4,5] 0 (.inl (1)))<|
 .jk Tryz.f261 0 [1,0,1,0,0,1,0,1,1,0,0,1,1,1,1,0] 25 (fun r_=>⟨[(0,.lf (.str p_s)),(3,.i_ v0),(4,.lf (.int .u8 (b0.toNat:Int))),(23,.b_ r_)],[]⟩) ⟨[(0,.lf (.str p_s)),(3,.i_ v0),(4,.lf (.int .u8 (b0.toNat:Int)))],[]⟩ (ad1 b0 p_s v0) fun r1=>
 .iB (r1) (.rt [0,3,4,5] 0 (.inl (2)))<|
 .jk Tryz.f261 0 [1,0,1,0,0,1,0,1,1,0,0,1,1,1,1,1,1,0] 29 (fun r_=>⟨[(0,.lf (.str p_s)),(3,.i_ v0),(4,.lf (.int .u8 (b0.toNat:Int))),(30,.b_ r_)],[]⟩) ⟨[(0,.lf (.str p_s)),(3,.i_ v0),(4,.lf (.int .u8 (b0.toNat:Int)))],[]⟩ (Zy b0 p_s v0) fun r2=>
 .iB (r2) (.rt [0,3,4,5] 0 (.inl (3)))<|
 .rt [2] 0 (.inr (()))
def ZA(b0:UInt8)(o0:Int)(p_s:ByteArray)(v0:Int):Mo (Bool):=
 .iG 32002 ((b0.toNat:Int)==224) (.ask (jK p_s (IntKind.wrap .i64 (v0+1))) fun b1 h0=>
 .say [.byt b1] (ok1 (fC h0))<|
 .rt [0,3,4,5,51] 0 (decide (((b1.toNat:Int):Int)<160)))<|
 .rt [0,3,4,5,51] 0 (false)
def ZB(b0:UInt8)(o0:Int)(p_s:ByteArray)(r0:Bool)(v0:Int):Mo (Bool):=
 .iG 32009 (r0) (.rt [0,3,4,5,62] 0 (true))<|
 .iG 32012 ((b0.toNat:Int)==237) (.ask (jK p_s (IntKind.wrap .i64 (v0+1))) fun b1 h0=>
 .say [.byt b1] (ok1 (fC h0))<|
 .rt [0,3,4,5,62] 0 (decide ((159:Int)<(b1.toNat:Int))))<|
 .rt [0,3,4,5,62] 0 (false)
def ZC(b0:UInt8)(o0:Int)(p_s:ByteArray)(r0:Bool)(v0:Int):Mo (Bool):=
 .iG 32020 (r0) (.rt [0,3,4,5,73] 0 (true))<|
 .iG 32023 ((b0.toNat:Int)==240) (.ask (jK p_s (IntKind.wrap .i64 (v0+1))) fun b1 h0=>
 .say [.byt b1] (ok1 (fC h0))<|
 .rt [0,3,4,5,73] 0 (decide (((b1.toNat:Int):Int)<144)))<|
 .rt [0,3,4,5,73] 0 (false)
def ZE(b0:UInt8)(o0:Int)(p_s:ByteArray)(r0:Bool)(v0:Int):Mo (Bool):=
 .iG 32031 (r0) (.rt [0,3,5,84] 0 (true))<|
 .iG 32034 ((b0.toNat:Int)==244) (.ask (jK p_s (IntKind.wrap .i64 (v0+1))) fun b1 h0=>
 .say [.byt b1] (ok1 (fC h0))<|
 .rt [0,3,5,84] 0 (decide ((143:Int)<(b1.toNat:Int))))<|
 .rt [0,3,5,84] 0 (false)
def ZF(p_s:ByteArray):(Int)→Mo ((Int)⊕(Unit⊕Unit)):=fun(v0)=>
 .iB (decide ((v0:Int)<(p_s.size:Int))) (.ask (jK p_s v0) fun b0 h0=>
 .say [.byt b0] (ok1 (fC h0))<|
 .j2 [] Tryz.f261 0 [1,0,1,0,0,1,0,1,1,0] 10 .normal (fun o_=>⟨[(0,.lf (.str p_s)),(3,.i_ v0),(4,.lf (.int .u8 (b0.toNat:Int))),(5,.i_ o_)],[]⟩) .ret (fun _=>⟨[(2,.b_ false)],[]⟩) ⟨[(0,.lf (.str p_s)),(3,.i_ v0),(4,.lf (.int .u8 (b0.toNat:Int))),(5,.i_ 0)],[]⟩ (Zz b0 p_s v0) (fun o0=>
 .cl (ah2 p_s (IntKind.wrap .i64 (v0+1)) o0) fun r0 _=>
 .iB (!r0) (.rt [2] 0 (.inr (.inl ())))<|
 .sf Tryz.f261 0 [1,0,1,0,0,1,0,1,1,1,1,0,0] 0 9 15 [(0,.lf (.str p_s)),(3,.i_ v0),(4,.lf (.int .u8 (b0.toNat:Int))),(5,.i_ o0)] [] 51 (ZA b0 o0 p_s v0) fun r1=>
 .sb Tryz.f261 0 [1,0,1,0,0,1,0,1,1,1,1,0,0] 9 11 15 [(0,.lf (.str p_s)),(3,.i_ v0),(4,.lf (.int .u8 (b0.toNat:Int))),(5,.i_ o0)] [] 51 62 r1 (ZB b0 o0 p_s r1 v0) fun r2=>
 .sb Tryz.f261 0 [1,0,1,0,0,1,0,1,1,1,1,0,0] 20 11 15 [(0,.lf (.str p_s)),(3,.i_ v0),(4,.lf (.int .u8 (b0.toNat:Int))),(5,.i_ o0)] [] 62 73 r2 (ZC b0 o0 p_s r2 v0) fun r3=>
 .sk Tryz.f261 0 [1,0,1,0,0,1,0,1,1,1,1,0,0] 31 11 15 (fun r_=>⟨[(0,.lf (.str p_s)),(3,.i_ v0),(5,.i_ o0),(84,.b_ r_)],[]⟩) ⟨[(0,.lf (.str p_s)),(3,.i_ v0),(4,.lf (.int .u8 (b0.toNat:Int))),(5,.i_ o0),(73,.b_ r3)],[]⟩ (ZE b0 o0 p_s r3 v0) fun r4=>
 .iB (r4) (.rt [2] 0 (.inr (.inl ())))<|
 .rt [0,3] 0 (.inl (IntKind.wrap .i64 ((IntKind.wrap .i64 (v0+o0))+1)))) fun o1=>
 .rt [2] 0 (.inr (.inl ())))<|
 .rt [] 0 (.inr (.inr (())))
def am6(p_s:ByteArray):Mo (Bool):=
 .l2 Tryz.f261 0 [1,0,1,0] 0 (fun(v0)=>⟨[(0,.lf (.str p_s)),(3,.i_ v0)],[]⟩) .ret (fun _=>⟨[(2,.b_ false)],[]⟩) (.exit 0) (fun _=>⟨[],[]⟩) (ZF p_s) (0) (fun o0=>
 .ret (bn 1) (false)) fun o1=>
 .ret (bn 1) (true)
def Q33(p_s:ByteArray):Option (Bool):=Mo.den (am6 p_s)
theorem aly(p_s:ByteArray):FV (Q33 p_s) 261 [.lf (.str p_s)] .b_:=dL Tryz.func261
def Va(p_s:ByteArray)(v0:Int):Mo (Bool):=
 .ask (jK p_s v0) fun b0 h0=>
 .say [.byt b0] (ok1 (fC h0))<|
 .iG 14004 (decide (((b0.toNat:Int):Int)<33)) (.rt [0,3,32] 0 (true))<|
 .ask (jK p_s v0) fun b1 h1=>
 .say [.byt b1] (ok1 (fC h1))<|
 .rt [0,3,32] 0 (decide ((126:Int)<(b1.toNat:Int)))
def Vb(p_s:ByteArray)(r0:Bool)(v0:Int):Mo (Bool):=
 .iG 14010 (r0) (.rt [0,3,38] 0 (true))<|
 .ask (jK p_s v0) fun b0 h0=>
 .say [.byt b0] (ok1 (fC h0))<|
 .rt [0,3,38] 0 ((b0.toNat:Int)==46)
def Vd(p_s:ByteArray):(Int)→Mo ((Int)⊕(Unit⊕Unit)):=fun(v0)=>
 .iB (decide ((v0:Int)<(p_s.size:Int))) (.sf Tryz.f120 0 [1,1,0,1,0,0,1,0,0,0] 0 10 6 [(0,.lf (.str p_s)),(3,.i_ v0)] [] 32 (Va p_s v0) fun r0=>
 .sb Tryz.f120 0 [1,1,0,1,0,0,1,0,0,0] 10 6 6 [(0,.lf (.str p_s)),(3,.i_ v0)] [] 32 38 r0 (Vb p_s r0 v0) fun r1=>
 .iB (r1) (.rt [2] 0 (.inr (.inl ())))<|
 .rt [0,3] 0 (.inl (IntKind.wrap .i64 (v0+1))))<|
 .rt [] 0 (.inr (.inr (())))
def alz(p_s:ByteArray):Mo (Bool):=
 .sf Tryz.f120 0 [1,0,0] 0 8 1 [(0,.lf (.str p_s))] [] 11 (lX p_s) fun r0=>
 .sb Tryz.f120 0 [1,0,0] 8 5 1 [(0,.lf (.str p_s))] [] 11 16 r0 (lY p_s r0) fun r1=>
 .iB (r1) (.ret (bn 1) (false))<|
 .l2 Tryz.f120 0 [1,1,0,1,0] 0 (fun(v0)=>⟨[(0,.lf (.str p_s)),(3,.i_ v0)],[]⟩) .ret (fun _=>⟨[(2,.b_ false)],[]⟩) (.exit 0) (fun _=>⟨[],[]⟩) (Vd p_s) (0) (fun o0=>
 .ret (bn 1) (false)) fun o1=>
 .ret (bn 1) (true)
def anU(p_s:ByteArray):Option (Bool):=Mo.den (alz p_s)
theorem ah3(p_s:ByteArray):FV (anU p_s) 120 [.lf (.str p_s)] .b_:=dL Tryz.func120
def ZG(p_s:ByteArray):Mo (Bool):=
 .oV 4003 (decide (((p_s.size:Int):Int)<1)) [0,11] 0 (decide ((128:Int)<(p_s.size:Int)))
def ZH(p_s:ByteArray)(v0:Int):Mo (Bool):=
 .ask (jK p_s v0) fun b0 h0=>
 .say [.byt b0] (ok1 (fC h0))<|
 .iG 14004 (decide (((b0.toNat:Int):Int)<32)) (.rt [0,3,27] 0 (true))<|
 .ask (jK p_s v0) fun b1 h1=>
 .say [.byt b1] (ok1 (fC h1))<|
 .rt [0,3,27] 0 (decide ((126:Int)<(b1.toNat:Int)))
def Ve(p_s:ByteArray):(Int)→Mo ((Int)⊕(Unit⊕Unit)):=fun(v0)=>
 .iB (decide ((v0:Int)<(p_s.size:Int))) (.jk Tryz.f314 0 [1,1,0,1,0,0,1,0,0,0] 19 (fun r_=>⟨[(0,.lf (.str p_s)),(3,.i_ v0),(27,.b_ r_)],[]⟩) ⟨[(0,.lf (.str p_s)),(3,.i_ v0)],[]⟩ (ZH p_s v0) fun r0=>
 .iB (r0) (.rt [2] 0 (.inr (.inl ())))<|
 .rt [0,3] 0 (.inl (IntKind.wrap .i64 (v0+1))))<|
 .rt [] 0 (.inr (.inr (())))
def alA(p_s:ByteArray):Mo (Bool):=
 .jk Tryz.f314 0 [1,0,0] 9 (fun r_=>⟨[(0,.lf (.str p_s)),(11,.b_ r_)],[]⟩) ⟨[(0,.lf (.str p_s))],[]⟩ (ZG p_s) fun r0=>
 .iB (r0) (.ret (bn 1) (false))<|
 .l2 Tryz.f314 0 [1,1,0,1,0] 0 (fun(v0)=>⟨[(0,.lf (.str p_s)),(3,.i_ v0)],[]⟩) .ret (fun _=>⟨[(2,.b_ false)],[]⟩) (.exit 0) (fun _=>⟨[],[]⟩) (Ve p_s) (0) (fun o0=>
 .ret (bn 1) (false)) fun o1=>
 .ret (bn 1) (true)
def anV(p_s:ByteArray):Option (Bool):=Mo.den (alA p_s)
theorem ah4(p_s:ByteArray):FV (anV p_s) 314 [.lf (.str p_s)] .b_:=dL Tryz.func314
abbrev Oz(m:ah→Bool→Option (Bool)):Prop:=∀p_v p_names,FV (m p_v p_names) 191 [.dat (ah.lf1 p_v),.b_ p_names] .b_
abbrev XW(m:ah→Bool→Option (Bool)):Prop:=∀p_v p_names,FV (m p_v p_names) 262 [.dat (ah.lf1 p_v),.b_ p_names] .b_
structure oQ where
 m1:(p_v:ah)→(p_names:Bool)→Option (Bool)
 ok1:Oz m1
 m2:(p_v:ah)→(p_names:Bool)→Option (Bool)
 ok2:XW m2
def ad2(R_:oQ)(p_names:Bool)(p_v:ah):Mo (Bool):=
 .iG 4003 (p_v.ay != 6) (.nu p_v.aU ah.lf<|
 .rt [1,2,16] 1 (decide ((0:Int)<(p_v.aU.length:Int))))<|
 .rt [1,2,16] 1 (false)
def ad3(R_:oQ)(p_names:Bool)(p_v:ah)(r0:Bool):Mo (Bool):=
 .iG 4009 (r0) (.rt [1,2,27] 1 (true))<|
 .iG 4013 (p_v.ay != 5) (.nu p_v.aY aJ.lf<|
 .rt [1,2,27] 1 (decide ((0:Int)<(p_v.aY.length:Int))))<|
 .rt [1,2,27] 1 (false)
def ZI(R_:oQ)(p_names:Bool)(p_v:ah):Mo (Bool):=
 .oV 8003 (p_v.ay==4) [1,2,35] 1 (p_v.ay==7)
def ZJ(R_:oQ)(p_names:Bool)(p_v:ah)(r0:Bool):Mo (Bool):=
 .oV 8008 (r0) [1,2,40] 1 (p_v.ay==8)
def ZK(R_:oQ)(p_names:Bool)(p_v:ah)(r0:Bool):Mo (Unit):=
 .rt [1,2,5] 1 ()
def ZL(R_:oQ)(p_names:Bool)(p_v:ah)(r0:Bool):Mo (Bool):=
 .oV 10003 (p_v.ay==3) [1,2,5,48] 1 (p_v.ay==9)
def ZM(R_:oQ)(p_names:Bool)(p_v:ah)(r0:Bool)(r1:Bool):Mo (Bool):=
 .oV 10008 (r1) [1,2,5,53] 1 (p_v.ay==10)
def ZN(R_:oQ)(p_names:Bool)(p_v:ah)(r0:Bool)(r1:Bool):Mo (Unit):=
 .rt [1,2,5,6] 1 ()
def ZO(R_:oQ)(p_names:Bool)(p_v:ah)(r0:Bool)(r1:Bool):Mo (Bool):=
 .aV 12002 (!r0) [1,2,6,60] 1 (!decide ((p_v.fText:ByteArray)=(⟨#[]⟩:ByteArray)))
def ZP(R_:oQ)(p_names:Bool)(p_v:ah)(r0:Bool)(r1:Bool):Mo (Bool):=
 .iG 12007 (r1) (.rt [1,2,69] 1 (true))<|
 .aV 12010 (!r0) [1,2,69] 1 (p_v.dG != 0)
def ZQ(R_:oQ)(p_names:Bool)(p_v:ah)(r0:Bool):Mo (Bool):=
 .oV 12016 (r0) [1,2,74] 1 (decide ((p_v.ay:Int)<1))
def ZR(R_:oQ)(p_names:Bool)(p_v:ah)(r0:Bool):Mo (Bool):=
 .oV 12021 (r0) [1,2,79] 1 (decide ((11:Int)<p_v.ay))
def ZT(R_:oQ)(p_v:ah):Mo (Bool):=
 .iG 20003 (p_v.dG==0) (.ret ⟨[.kill 0],[4],[],1⟩ (true))<|
 .ret ⟨[.kill 0],[4],[],1⟩ (p_v.dG==1)
def ZU(R_:oQ)(p_v:ah):Mo (Bool):=
 .iG 28004 (decide (((p_v.fText.size:Int):Int)≤4096)) (.cl (aly p_v.fText) fun r0 _=>
 .ret ⟨[.kill 0],[4],[],1⟩ (r0))<|
 .ret ⟨[.kill 0],[4],[],1⟩ (false)
def ZV(R_:oQ)(p_names:Bool)(p_v:ah):(Int)→Mo ((Int)⊕(Unit⊕Unit)):=fun(v0)=>
 .nu p_v.aU ah.lf<|
 .iB (decide ((v0:Int)<(p_v.aU.length:Int))) (.gx ah.aW p_v.aU v0 fun x0 _=>
 .cl (R_.ok1 x0 p_names) fun r0 _=>
 .iB (!r0) (.ret ⟨[.kill 0],[4],[],1⟩ (.inr (.inl ())))<|
 .rt [1,2,7] 1 (.inl (IntKind.wrap .i64 (v0+1))))<|
 .rt [1,2] 1 (.inr (.inr (())))
def ajG(R_:oQ)(p_v:ah)(p_names:Bool):Mo (Bool):=
 .sf Tryz.f191 0 [1,0,0] 0 9 1 [(1,.b_ p_names),(2,.ptr 0 0)] [bK p_v] 16 (ad2 R_ p_names p_v) fun r0=>
 .sb Tryz.f191 0 [1,0,0] 9 11 1 [(1,.b_ p_names),(2,.ptr 0 0)] [bK p_v] 16 27 r0 (ad3 R_ p_names p_v r0) fun r1=>
 .iB (r1) (.ret (bn 1) (false))<|
 .sf Tryz.f191 0 [1,1,0] 0 8 3 [(1,.b_ p_names),(2,.ptr 0 0)] [bK p_v] 35 (ZI R_ p_names p_v) fun r2=>
 .sb Tryz.f191 0 [1,1,0] 8 5 3 [(1,.b_ p_names),(2,.ptr 0 0)] [bK p_v] 35 40 r2 (ZJ R_ p_names p_v r2) fun r3=>
 .sk Tryz.f191 0 [1,1,0] 13 1 3 (fun r_=>⟨[(1,.b_ p_names),(2,.ptr 0 0),(5,.b_ r3)],[bK p_v]⟩) ⟨[(1,.b_ p_names),(2,.ptr 0 0),(40,.b_ r3)],[bK p_v]⟩ (ZK R_ p_names p_v r3) fun r4=>
 .sf Tryz.f191 0 [1,1,1,0] 0 8 4 [(1,.b_ p_names),(2,.ptr 0 0),(5,.b_ r3)] [bK p_v] 48 (ZL R_ p_names p_v r3) fun r5=>
 .sb Tryz.f191 0 [1,1,1,0] 8 5 4 [(1,.b_ p_names),(2,.ptr 0 0),(5,.b_ r3)] [bK p_v] 48 53 r5 (ZM R_ p_names p_v r3 r5) fun r6=>
 .sk Tryz.f191 0 [1,1,1,0] 13 1 4 (fun r_=>⟨[(1,.b_ p_names),(2,.ptr 0 0),(5,.b_ r3),(6,.b_ r6)],[bK p_v]⟩) ⟨[(1,.b_ p_names),(2,.ptr 0 0),(5,.b_ r3),(53,.b_ r6)],[bK p_v]⟩ (ZN R_ p_names p_v r3 r6) fun r7=>
 .sk Tryz.f191 0 [1,1,1,1,0,0] 0 7 5 (fun r_=>⟨[(1,.b_ p_names),(2,.ptr 0 0),(6,.b_ r6),(60,.b_ r_)],[bK p_v]⟩) ⟨[(1,.b_ p_names),(2,.ptr 0 0),(5,.b_ r3),(6,.b_ r6)],[bK p_v]⟩ (ZO R_ p_names p_v r3 r6) fun r8=>
 .sk Tryz.f191 0 [1,1,1,1,0,0] 7 9 5 (fun r_=>⟨[(1,.b_ p_names),(2,.ptr 0 0),(69,.b_ r_)],[bK p_v]⟩) ⟨[(1,.b_ p_names),(2,.ptr 0 0),(6,.b_ r6),(60,.b_ r8)],[bK p_v]⟩ (ZP R_ p_names p_v r6 r8) fun r9=>
 .sb Tryz.f191 0 [1,1,1,1,0,0] 16 5 5 [(1,.b_ p_names),(2,.ptr 0 0)] [bK p_v] 69 74 r9 (ZQ R_ p_names p_v r9) fun r10=>
 .sb Tryz.f191 0 [1,1,1,1,0,0] 21 5 5 [(1,.b_ p_names),(2,.ptr 0 0)] [bK p_v] 74 79 r10 (ZR R_ p_names p_v r10) fun r11=>
 .iB (r11) (.ret (bn 1) (false))<|
 .iB (p_v.ay==9) (.jk Tryz.f191 0 [1,1,1,1,1,0,1,0,1,0,0] 25 (fun r_=>⟨[(4,.b_ r_)],[.dead]⟩) ⟨[(2,.ptr 0 0)],[bK p_v]⟩ (ZT R_ p_v) fun r12=>
 .ret (bn 1) (r12))<|
 .iB (p_v.ay==10) (.ret (bn 1) (decide ((0:Int)≤p_v.dG)))<|
 .iB (p_v.ay==4) (.jk Tryz.f191 0 [1,1,1,1,1,0,1,0,1,1,1,1,1,0,0] 33 (fun r_=>⟨[(4,.b_ r_)],[.dead]⟩) ⟨[(2,.ptr 0 0)],[bK p_v]⟩ (ZU R_ p_v) fun r13=>
 .ret (bn 1) (r13))<|
 .iB (p_v.ay==7) (.ret (bn 1) (decide (((p_v.fText.size:Int):Int)≤4096)))<|
 .iB (p_v.ay==8) (.ret (bn 1) ((p_v.fText.size:Int)==12))<|
 .l2 Tryz.f191 0 [1,1,1,1,1,1,0,1,0] 0 (fun(v0)=>⟨[(1,.b_ p_names),(2,.ptr 0 0),(7,.i_ v0)],[bK p_v]⟩) .ret (fun _=>⟨[(4,.b_ false)],[.dead]⟩) (.exit 1) (fun _=>⟨[(1,.b_ p_names),(2,.ptr 0 0)],[bK p_v]⟩) (ZV R_ p_names p_v) (0) (fun o0=>
 .ret (bn 1) (false)) fun o1=>
 .cl (R_.ok2 p_v p_names) fun r14 _=>
 .ret (bn 1) (r14)
theorem ah5(R_:oQ):Oz fun p_v p_names=>Mo.den (ajG R_ p_v p_names):=fun _ _=>dL Tryz.func191
def ad4(R_:oQ)(p_names:Bool)(p_v:ah)(v0:Int)(x0:aJ):Mo (Bool):=
 .iG 12001 (p_names) (.cl (ah3 x0.fName) fun r0 _=>
 .rt [1,2,5,6,26] 2 (!r0))<|
 .rt [1,2,5,6,26] 2 (false)
def ad5(R_:oQ)(p_names:Bool)(p_v:ah)(r0:Bool)(v0:Int)(x0:aJ):Mo (Bool):=
 .iG 12007 (r0) (.rt [1,2,5,6,36] 2 (true))<|
 .iG 12010 (!p_names) (.cl (ah4 x0.fName) fun r1 _=>
 .rt [1,2,5,6,36] 2 (!r1))<|
 .rt [1,2,5,6,36] 2 (false)
def ZW(R_:oQ)(p_names:Bool)(p_v:ah)(r0:Bool)(v0:Int)(x0:aJ):Mo (Bool):=
 .iG 12017 (r0) (.rt [1,2,5,6,43] 2 (true))<|
 .cl (R_.ok1 x0.fValue p_names) fun r1 _=>
 .rt [1,2,5,6,43] 2 (!r1)
def ZX(R_:oQ)(p_names:Bool)(p_v:ah)(v0:Int)(x0:aJ):(Int)→Mo ((Int)⊕(Unit⊕Unit)):=fun(v1)=>
 .iB (decide ((v1:Int)<v0)) (.say [.order [(true,0),(true,1),(true,2),(true,3),(true,4),(true,5),(true,6),(true,7),(true,8)] none []] ok0<|
 .gx aJ.aW p_v.aY v1 fun x1 _=>
 .iB (decide ((x1.fName:ByteArray)=(x0.fName:ByteArray))) (.ret ⟨[.kill 0,.kill 1],[4],[],2⟩ (.inr (.inl ())))<|
 .rt [1,2,5,6,7] 2 (.inl (IntKind.wrap .i64 (v1+1))))<|
 .ret ⟨[.kill 1],[1,2,5],[],2⟩ (.inr (.inr (())))
def ZY(R_:oQ)(p_names:Bool)(p_v:ah):(Int)→Mo ((Int)⊕(Unit⊕Unit)):=fun(v0)=>
 .nu p_v.aY aJ.lf<|
 .iB (decide ((v0:Int)<(p_v.aY.length:Int))) (.gx aJ.aW p_v.aY v0 fun x0 _=>
 .sf Tryz.f262 0 [1,0,1,0,0,1,0,0,1,0,0] 0 7 5 [(1,.b_ p_names),(2,.ptr 0 0),(5,.i_ v0),(6,.ptr 1 0)] [bK p_v,.box 115 (.agg ((aJ.lf1 x0).map AV.lf))] 26 (ad4 R_ p_names p_v v0 x0) fun r0=>
 .sb Tryz.f262 0 [1,0,1,0,0,1,0,0,1,0,0] 7 10 5 [(1,.b_ p_names),(2,.ptr 0 0),(5,.i_ v0),(6,.ptr 1 0)] [bK p_v,.box 115 (.agg ((aJ.lf1 x0).map AV.lf))] 26 36 r0 (ad5 R_ p_names p_v r0 v0 x0) fun r1=>
 .sb Tryz.f262 0 [1,0,1,0,0,1,0,0,1,0,0] 17 7 5 [(1,.b_ p_names),(2,.ptr 0 0),(5,.i_ v0),(6,.ptr 1 0)] [bK p_v,.box 115 (.agg ((aJ.lf1 x0).map AV.lf))] 36 43 r1 (ZW R_ p_names p_v r1 v0 x0) fun r2=>
 .iB (r2) (.ret ⟨[.kill 0],[4],[],1⟩ (.inr (.inl ())))<|
 .l2 Tryz.f262 0 [1,0,1,0,0,1,0,0,1,1,1,0] 0 (fun(v1)=>⟨[(1,.b_ p_names),(2,.ptr 0 0),(5,.i_ v0),(6,.ptr 1 0),(7,.i_ v1)],[bK p_v,.box 115 (.agg ((aJ.lf1 x0).map AV.lf))]⟩) .ret (fun _=>⟨[(4,.b_ false)],[.dead,.dead]⟩) (.exit 2) (fun _=>⟨[(1,.b_ p_names),(2,.ptr 0 0),(5,.i_ v0)],[bK p_v,.dead]⟩) (ZX R_ p_names p_v v0 x0) (0) (fun o0=>
 .rt [4] 1 (.inr (.inl ()))) fun o1=>
 .rt [1,2,5] 1 (.inl (IntKind.wrap .i64 (v0+1))))<|
 .ret ⟨[.kill 0],[],[],1⟩ (.inr (.inr (())))
def ajH(R_:oQ)(p_v:ah)(p_names:Bool):Mo (Bool):=
 .l2 Tryz.f262 0 [1,0,1,0] 0 (fun(v0)=>⟨[(1,.b_ p_names),(2,.ptr 0 0),(5,.i_ v0)],[bK p_v]⟩) .ret (fun _=>⟨[(4,.b_ false)],[.dead]⟩) (.exit 0) (fun _=>⟨[],[.dead]⟩) (ZY R_ p_names p_v) (0) (fun o0=>
 .ret (bn 1) (false)) fun o1=>
 .ret (bn 1) (true)
theorem ah6(R_:oQ):XW fun p_v p_names=>Mo.den (ajH R_ p_v p_names):=fun _ _=>dL Tryz.func262
def CW:Nat→oQ
 |0=>{ m1:=fun p_v p_names=>none,ok1:=fun _ _ _ h=>(by cases h),m2:=fun p_v p_names=>none,ok2:=fun _ _ _ h=>(by cases h) }
 |n_+1=>{ m1:=fun p_v p_names=>Mo.den (ajG (CW n_) p_v p_names),ok1:=ah5 (CW n_),m2:=fun p_v p_names=>Mo.den (ajH (CW n_) p_v p_names),ok2:=ah6 (CW n_) }
def Q15(p_v:ah)(p_names:Bool):Option (Bool):=(CW FU).m1 p_v p_names
theorem alB:Oz Q15:=(CW FU).ok1
def alC(p_v:ah):Mo (Bool):=
 .cl (ahZ p_v) fun r0 _=>
 .iG 4003 (decide ((r0:Int)≤16)) (.cl (ah1 p_v) fun r1 _=>
 .iG 4008 (decide ((r1:Int)≤1024)) (.cl (alB p_v true) fun r2 _=>
 .ret (bn 1) (r2))<|
 .ret (bn 1) (false))<|
 .ret (bn 1) (false)
def anW(p_v:ah):Option (Bool):=Mo.den (alC p_v)
theorem ah7(p_v:ah):FV (anW p_v) 123 [.dat (ah.lf1 p_v)] .b_:=dL Tryz.func123
abbrev OA(m:ah→Option (ByteArray)):Prop:=∀p_v,FV (m p_v) 280 [.dat (ah.lf1 p_v)] (fun r=>.lf (.str r))
structure S9 where
 m1:(p_v:ah)→Option (ByteArray)
 ok1:OA m1
def ad6(R_:S9)(p_v:ah):Mo (Bool):=
 .iB (p_v.ay==3) (.rt [1,3,12,13] 2 (p_v.ay==3))<|
 .rt [1,3,12,13] 2 (p_v.ay==10)
def ad7(R_:S9)(p_v:ah):Mo (Bool):=
 .iB (p_v.ay==4) (.rt [1,3,12,30] 2 (p_v.ay==4))<|
 .rt [1,3,12,30] 2 (p_v.ay==7)
def Z4(R_:S9)(p_v:ah):(ByteArray×Int)→Mo ((ByteArray×Int)⊕(ByteArray)):=fun(v0,v1)=>
 .nu p_v.aU ah.lf<|
 .iB (decide ((v1:Int)<(p_v.aU.length:Int))) (.gx ah.aW p_v.aU v1 fun x0 _=>
 .cl (R_.ok1 x0) fun r0 _=>
 .grd (v0.size+r0.size≤9223372036854775807) fun h0=>
 .say [] (ok1 h0)<|
 .rt [1,3,4] 2 (.inl (v0++r0,IntKind.wrap .i64 (v1+1))))<|
 .ret ⟨[.kill 0],[3],[],2⟩ (.inr (v0))
theorem anX:YH (opsOf (Code.sub (bodyC Tryz.f280) [1,1,0,1,0,1,1,1,1,1,1,1,1,1,1,1,0,1,1,0,0,1,0,0])) [(true,0),(true,1),(true,2),(true,3),(true,4),(true,5),(true,6),(true,7),(true,10),(true,11),(true,12),(true,13),(true,14),(true,15),(true,17),(true,18),(true,19),(true,20),(true,21),(true,22),(false,8),(true,9),(true,16),(false,23),(true,24),(true,25)] none=true:=by kernel_rfl
def Z5(R_:S9)(p_v:ah):(ByteArray×Int)→Mo ((ByteArray×Int)⊕(ByteArray)):=fun(v0,v1)=>
 .nu p_v.aY aJ.lf<|
 .iB (decide ((v1:Int)<(p_v.aY.length:Int))) (.say [.LW [(true,0),(true,1),(true,2),(true,3),(true,4),(true,5),(true,6),(true,7),(true,10),(true,11),(true,12),(true,13),(true,14),(true,15),(true,17),(true,18),(true,19),(true,20),(true,21),(true,22),(false,8),(true,9),(true,16),(false,23),(true,24),(true,25)] none []] (ok1 anX)<|
 .gx aJ.aW p_v.aY v1 fun x0 _=>
 .gx aJ.aW p_v.aY v1 fun x1 _=>
 .gx aJ.aW p_v.aY v1 fun x2 _=>
 .cl (CV (x0.fName.size:Int)) fun r0 _=>
 .grd (v0.size+r0.size≤9223372036854775807) fun h0=>
 .say [] (ok1 h0)<|
 .grd ((v0++r0).size+x1.fName.size≤9223372036854775807) fun h1=>
 .say [] (ok1 h1)<|
 .cl (R_.ok1 x2.fValue) fun r1 _=>
 .grd (((v0++r0)++x1.fName).size+r1.size≤9223372036854775807) fun h2=>
 .say [] (ok1 h2)<|
 .rt [1,3,5] 2 (.inl (((v0++r0)++x1.fName)++r1,IntKind.wrap .i64 (v1+1))))<|
 .ret ⟨[.kill 0],[3],[],2⟩ (.inr (v0))
def Z7(R_:S9)(p_v:ah):Mo (ByteArray):=
 .jk Tryz.f280 0 [1,1,0,1,0,0,1] 1 (fun r_=>⟨[(1,.ptr 0 0),(3,.lf (.str (strOfNums [IntKind.wrap .u8 p_v.ay]))),(12,.i_ p_v.ay),(13,.b_ r_)],[bK p_v,.dead]⟩) ⟨[(1,.ptr 0 0),(3,.lf (.str (strOfNums [IntKind.wrap .u8 p_v.ay]))),(12,.i_ p_v.ay),(13,.lf (.bool (p_v.ay==3)))],[bK p_v,.dead]⟩ (ad6 R_ p_v) fun r0=>
 .iB (r0) (.cl (CV p_v.dG) fun r1 _=>
 .grd ((strOfNums [IntKind.wrap .u8 p_v.ay]).size+r1.size≤9223372036854775807) fun h0=>
 .say [] (ok1 h0)<|
 .ret ⟨[.kill 0],[3],[],2⟩ ((strOfNums [IntKind.wrap .u8 p_v.ay])++r1))<|
 .iB (p_v.ay==9) (.say [.nums [IntKind.wrap .u8 p_v.dG]] (ok1 (by simp[lfI,lfK]:[((lfK .u8) (IntKind.wrap .u8 p_v.dG))]=[IntKind.wrap .u8 p_v.dG].map fun n=>[Lf.int .u8 n]))<|
 .grd ((strOfNums [IntKind.wrap .u8 p_v.ay]).size+(strOfNums [IntKind.wrap .u8 p_v.dG]).size≤9223372036854775807) fun h1=>
 .say [] (ok1 h1)<|
 .ret ⟨[.kill 0],[3],[],2⟩ ((strOfNums [IntKind.wrap .u8 p_v.ay])++(strOfNums [IntKind.wrap .u8 p_v.dG])))<|
 .jk Tryz.f280 0 [1,1,0,1,0,1,1,1,1,0,1] 1 (fun r_=>⟨[(1,.ptr 0 0),(3,.lf (.str (strOfNums [IntKind.wrap .u8 p_v.ay]))),(12,.i_ p_v.ay),(30,.b_ r_)],[bK p_v,.dead]⟩) ⟨[(1,.ptr 0 0),(3,.lf (.str (strOfNums [IntKind.wrap .u8 p_v.ay]))),(12,.i_ p_v.ay),(30,.lf (.bool (p_v.ay==4)))],[bK p_v,.dead]⟩ (ad7 R_ p_v) fun r2=>
 .iB (r2) (.say [.order [(true,0),(true,1),(true,2),(true,3),(true,6),(true,7),(false,4),(true,5),(true,8),(true,9)] none []] ok0<|
 .cl (CV (p_v.fText.size:Int)) fun r3 _=>
 .grd ((strOfNums [IntKind.wrap .u8 p_v.ay]).size+r3.size≤9223372036854775807) fun h2=>
 .say [] (ok1 h2)<|
 .grd (((strOfNums [IntKind.wrap .u8 p_v.ay])++r3).size+p_v.fText.size≤9223372036854775807) fun h3=>
 .say [] (ok1 h3)<|
 .ret ⟨[.kill 0],[3],[],2⟩ (((strOfNums [IntKind.wrap .u8 p_v.ay])++r3)++p_v.fText))<|
 .iB (p_v.ay==8) (.grd ((strOfNums [IntKind.wrap .u8 p_v.ay]).size+p_v.fText.size≤9223372036854775807) fun h4=>
 .say [] (ok1 h4)<|
 .ret ⟨[.kill 0],[3],[],2⟩ ((strOfNums [IntKind.wrap .u8 p_v.ay])++p_v.fText))<|
 .iB (p_v.ay==6) (.nu p_v.aU ah.lf<|
 .cl (CV (p_v.aU.length:Int)) fun r4 _=>
 .grd ((strOfNums [IntKind.wrap .u8 p_v.ay]).size+r4.size≤9223372036854775807) fun h5=>
 .say [] (ok1 h5)<|
 .l1 Tryz.f280 0 [1,1,0,1,0,1,1,1,1,1,1,1,1,1,0,1,1,0] 0 (.exit 1) (fun(v0,v1)=>⟨[(1,.ptr 0 0),(3,.lf (.str v0)),(4,.i_ v1)],[bK p_v,.dead]⟩) (fun r_=>⟨[(3,.lf (.str r_))],[.dead,.dead]⟩) (Z4 R_ p_v) (((strOfNums [IntKind.wrap .u8 p_v.ay])++r4),0) fun r5=>
 .rt [3] 2 (r5))<|
 .iB (p_v.ay==5) (.nu p_v.aY aJ.lf<|
 .cl (CV (p_v.aY.length:Int)) fun r6 _=>
 .grd ((strOfNums [IntKind.wrap .u8 p_v.ay]).size+r6.size≤9223372036854775807) fun h6=>
 .say [] (ok1 h6)<|
 .l1 Tryz.f280 0 [1,1,0,1,0,1,1,1,1,1,1,1,1,1,1,1,0,1,1,0] 0 (.exit 3) (fun(v2,v3)=>⟨[(1,.ptr 0 0),(3,.lf (.str v2)),(5,.i_ v3)],[bK p_v,.dead]⟩) (fun r_=>⟨[(3,.lf (.str r_))],[.dead,.dead]⟩) (Z5 R_ p_v) (((strOfNums [IntKind.wrap .u8 p_v.ay])++r6),0) fun r7=>
 .rt [3] 2 (r7))<|
 .ret ⟨[.kill 0],[3],[],2⟩ (strOfNums [IntKind.wrap .u8 p_v.ay])
def ajI(R_:S9)(p_v:ah):Mo (ByteArray):=
 .say [.nums [IntKind.wrap .u8 p_v.ay]] (ok1 (by simp[lfI,lfK]:[((lfK .u8) (IntKind.wrap .u8 p_v.ay))]=[IntKind.wrap .u8 p_v.ay].map fun n=>[Lf.int .u8 n]))<|
 .jy [.kill 1] Tryz.f280 0 [1,1,0,1] 6 (.normal) (fun r_=>⟨[(3,.lf (.str r_))],[.dead,.dead]⟩) ⟨[(1,.ptr 0 0),(3,.lf (.str (strOfNums [IntKind.wrap .u8 p_v.ay]))),(12,.i_ p_v.ay)],[bK p_v,.dead]⟩ (Z7 R_ p_v) fun r0=>
 .ret (bn 1) (r0)
theorem ah8(R_:S9):OA fun p_v=>Mo.den (ajI R_ p_v):=fun _=>dL Tryz.func280
def OB:Nat→S9
 |0=>{ m1:=fun p_v=>none,ok1:=fun _ _ h=>(by cases h) }
 |n_+1=>{ m1:=fun p_v=>Mo.den (ajI (OB n_) p_v),ok1:=ah8 (OB n_) }
def Q54(p_v:ah):Option (ByteArray):=(OB FU).m1 p_v
theorem alD:OA Q54:=(OB FU).ok1
def alE(p_v:ah):Mo (ByteArray×Int):=
 .cl (ah7 p_v) fun r0 _=>
 .iB (!r0) (.ret (bn 2) (⟨#[]⟩,8))<|
 .cl (alD p_v) fun r1 _=>
 .ret (bn 2) (r1,0)
def anY(p_v:ah):Option (ByteArray×Int):=Mo.den (alE p_v)
theorem ah9(p_v:ah):FV (anY p_v) 218 [.dat (ah.lf1 p_v)] (fun r=>.tup [.lf (.str r.1),.i_ r.2]):=dL Tryz.func218
abbrev OC(m:ah→aK→Option (aK)):Prop:=∀p_v p_b0,FH (m p_v p_b0) 140 [.ptr 0 0,.dat (ah.lf1 p_v)] [dV p_b0] (fun _=>.tup []) (fun r=>[dV r])
abbrev OD(m:(List ah)→aK→Option (aK)):Prop:=∀p_l p_b0,FH (m p_l p_b0) 217 [.ptr 0 0,.lf (.rows 5 (p_l.map ah.lf))] [dV p_b0] (fun _=>.tup []) (fun r=>[dV r])
structure Ik where
 m1:(p_v:ah)→(p_b0:aK)→Option (aK)
 ok1:OC m1
 m2:(p_l:List ah)→(p_b0:aK)→Option (aK)
 ok2:OD m2
def Ag(R_:Ik)(p_v:ah):(Int×aK)→Mo ((Int×aK)⊕(aK)):=fun(v0,s8009)=>
 .nu p_v.aY aJ.lf<|
 .iB (decide ((v0:Int)<(p_v.aY.length:Int))) (.gx aJ.aW p_v.aY v0 fun x0 _=>
 .cH [0] (ru x0.fName s8009) fun r0 _=>
 .gx aJ.aW p_v.aY v0 fun x1 _=>
 .cH [0] (R_.ok1 x1.fValue r0) fun r1 _=>
 .rt [0,3,4] 2 (.inl (IntKind.wrap .i64 (v0+1),r1)))<|
 .ret ⟨[.kill 1],[],[],2⟩ (.inr (s8009))
def Vf(R_:Ik)(p_v:ah)(v0:Int)(s8009:aK):Option (aK):=dM (fun v_=>(Ag R_ p_v v_).den) FU (v0,s8009)
def ad8(R_:Ik)(p_b0:aK)(r0:ByteArray×Int):Mo (aK):=
 .iG 32005 (p_b0.zB) (.rt [0,5] 2 (aK.mk p_b0.fS true p_b0.uf))<|
 .rt [0,5] 2 (aK.mk p_b0.fS (r0.2 != 0) p_b0.uf)
def ad9(R_:Ik)(p_v:ah)(p_b0:aK):Mo (aK):=
 .iB (p_b0.uf) (.cH [0] (iI p_v.ay p_b0) fun r0 _=>
 .cH [0] (iI p_v.dG r0) fun r1 _=>
 .cH [0] (ru p_v.fText r1) fun r2 _=>
 .ask (R_.m2 p_v.aU r2) fun r3 h0=>
 .say [.gy [0] (.tup []) [dV r3],.num p_v.aY.length] (okc (R_.ok2 _ _ _ h0) (ok1 (ln_ p_v.aY aJ.lf)))<|
 .cH [0] (iI (p_v.aY.length:Int) r3) fun r4 _=>
 .l1m [] Tryz.f140 1 [1,0,1,0,1,1,1,1,1,0,1,0] 0 (.exit 0) (fun(v0,s8009)=>⟨[(0,.ptr 0 0),(3,.ptr 1 0),(4,.i_ v0)],[dV s8009,bK p_v]⟩) (fun r_=>⟨[],[dV r_,.dead]⟩) (Vf R_ p_v 0 r4) (Ag R_ p_v) (0,r4) fun r5=>
 .rt [] 1 (r5))<|
 .cl (ahX p_v) fun r6 _=>
 .iB (r6) (.grd (p_b0.fS.size+(⟨#[0]⟩:ByteArray).size≤9223372036854775807) fun h1=>
 .say [] (ok1 h1)<|
 .ret ⟨[.kill 1],[],[],1⟩ (aK.mk (p_b0.fS++⟨#[0]⟩) p_b0.zB p_b0.uf))<|
 .cl (ah9 p_v) fun r7 _=>
 .jy [.kill 1] Tryz.f140 1 [1,1,1,1,0] 37 (.normal) (fun r_=>⟨[(0,.ptr 0 0),(5,.lf (.str r7.1))],[dV r_,.dead]⟩) ⟨[(0,.ptr 0 0),(5,.lf (.str r7.1)),(6,.i_ r7.2)],[dV p_b0,.dead]⟩ (ad8 R_ p_b0 r7) fun r8=>
 .grd ((⟨#[1]⟩:ByteArray).size+r7.1.size≤9223372036854775807) fun h2=>
 .say [] (ok1 h2)<|
 .grd (r8.fS.size+((⟨#[1]⟩:ByteArray)++r7.1).size≤9223372036854775807) fun h3=>
 .say [] (ok1 h3)<|
 .rt [] 1 (aK.mk (r8.fS++((⟨#[1]⟩:ByteArray)++r7.1)) r8.zB r8.uf)
theorem aia(R_:Ik):OC fun p_v p_b0=>Mo.den (ad9 R_ p_v p_b0):=fun _ _=>dQ Tryz.func140
def Ah(R_:Ik)(p_l:List ah):(Int×aK)→Mo ((Int×aK)⊕(aK)):=fun(v0,s9581)=>
 .nu p_l ah.lf<|
 .iB (decide ((v0:Int)<(p_l.length:Int))) (.gx ah.aW p_l v0 fun x0 _=>
 .cH [0] (R_.ok1 x0 s9581) fun r0 _=>
 .rt [0,1,4] 1 (.inl (IntKind.wrap .i64 (v0+1),r0)))<|
 .rt [] 1 (.inr (s9581))
def Vg(R_:Ik)(p_l:List ah)(v0:Int)(s9581:aK):Option (aK):=dM (fun v_=>(Ah R_ p_l v_).den) FU (v0,s9581)
def aea(R_:Ik)(p_l:List ah)(p_b0:aK):Mo (aK):=
 .nu p_l ah.lf<|
 .cH [0] (iI (p_l.length:Int) p_b0) fun r0 _=>
 .l1m [] Tryz.f217 1 [1,1,0] 0 (.exit 0) (fun(v0,s9581)=>⟨[(0,.ptr 0 0),(1,.lf (.rows 5 (p_l.map ah.lf))),(4,.i_ v0)],[dV s9581]⟩) (fun r_=>⟨[],[dV r_]⟩) (Vg R_ p_l 0 r0) (Ah R_ p_l) (0,r0) fun r1=>
 .rt [] 1 (r1)
theorem aib(R_:Ik):OD fun p_l p_b0=>Mo.den (aea R_ p_l p_b0):=fun _ _=>dQ Tryz.func217
def lU:Nat→Ik
 |0=>{ m1:=fun p_v p_b0=>none,ok1:=fun _ _ _ h=>(by cases h),m2:=fun p_l p_b0=>none,ok2:=fun _ _ _ h=>(by cases h) }
 |n_+1=>{ m1:=fun p_v p_b0=>Mo.den (ad9 (lU n_) p_v p_b0),ok1:=aia (lU n_),m2:=fun p_l p_b0=>Mo.den (aea (lU n_) p_l p_b0),ok2:=aib (lU n_) }
def Q24(p_v:ah)(p_b0:aK):Option (aK):=(lU FU).m1 p_v p_b0
theorem yH:OC Q24:=(lU FU).ok1
def Q31(p_l:List ah)(p_b0:aK):Option (aK):=(lU FU).m2 p_l p_b0
theorem aeb:OD Q31:=(lU FU).ok2
def Ai(p_l:List ByteArray):(Int×aK)→Mo ((Int×aK)⊕(aK)):=fun(v0,s9649)=>
 .nu p_l lfS<|
 .iB (decide ((v0:Int)<(p_l.length:Int))) (.gx lS_ p_l v0 fun x0 _=>
 .cH [0] (ru x0 s9649) fun r0 _=>
 .rt [0,1,4] 1 (.inl (IntKind.wrap .i64 (v0+1),r0)))<|
 .rt [] 1 (.inr (s9649))
def Vh(p_l:List ByteArray)(v0:Int)(s9649:aK):Option (aK):=dM (fun v_=>(Ai p_l v_).den) FU (v0,s9649)
def ajJ(p_l:List ByteArray)(p_b0:aK):Mo (aK):=
 .nu p_l lfS<|
 .cH [0] (iI (p_l.length:Int) p_b0) fun r0 _=>
 .l1m [] Tryz.f220 1 [1,1,0] 0 (.exit 0) (fun(v0,s9649)=>⟨[(0,.ptr 0 0),(1,.lf (.rows 1 (p_l.map lfS))),(4,.i_ v0)],[dV s9649]⟩) (fun r_=>⟨[],[dV r_]⟩) (Vh p_l 0 r0) (Ai p_l) (0,r0) fun r1=>
 .rt [] 1 (r1)
def Q29(p_l:List ByteArray)(p_b0:aK):Option (aK):=Mo.den (ajJ p_l p_b0)
theorem GV(p_l:List ByteArray)(p_b0:aK):FH (Q29 p_l p_b0) 220 [.ptr 0 0,.lf (.rows 1 (p_l.map lfS))] [dV p_b0] (fun _=>.tup []) (fun r=>[dV r]):=dQ Tryz.func220
def ajK(p_b:Bool)(p_b0:aK):Mo (aK):=
 .iB (p_b) (.grd (p_b0.fS.size+(⟨#[1]⟩:ByteArray).size≤9223372036854775807) fun h0=>
 .say [] (ok1 h0)<|
 .rt [] 1 (aK.mk (p_b0.fS++⟨#[1]⟩) p_b0.zB p_b0.uf))<|
 .grd (p_b0.fS.size+(⟨#[0]⟩:ByteArray).size≤9223372036854775807) fun h1=>
 .say [] (ok1 h1)<|
 .rt [] 1 (aK.mk (p_b0.fS++⟨#[0]⟩) p_b0.zB p_b0.uf)
def Q50(p_b:Bool)(p_b0:aK):Option (aK):=Mo.den (ajK p_b p_b0)
theorem sS(p_b:Bool)(p_b0:aK):FH (Q50 p_b p_b0) 143 [.ptr 0 0,.b_ p_b] [dV p_b0] (fun _=>.tup []) (fun r=>[dV r]):=dQ Tryz.func143
def Aj(p_s:dZ):(Int×aK)→Mo ((Int×aK)⊕(aK)):=fun(v0,s9814)=>
 .nu p_s.dD bM.lf<|
 .iB (decide ((v0:Int)<(p_s.dD.length:Int))) (.gx bM.aW p_s.dD v0 fun x0 _=>
 .cH [0] (iI x0.fX s9814) fun r0 _=>
 .gx bM.aW p_s.dD v0 fun x1 _=>
 .cH [0] (iI x1.fY r0) fun r1 _=>
 .rt [0,3,4] 2 (.inl (IntKind.wrap .i64 (v0+1),r1)))<|
 .rt [0,3] 2 (.inr (s9814))
def Vj(p_s:dZ)(v0:Int)(s9814:aK):Option (aK):=dM (fun v_=>(Aj p_s v_).den) FU (v0,s9814)
def ajL(p_s:dZ)(p_b0:aK):Mo (aK):=
 .ask (Q2 p_s.ay p_b0) fun r0 h0=>
 .say [.gy [0] (.tup []) [dV r0],.num p_s.dD.length] (okc (iI _ _ _ h0) (ok1 (ln_ p_s.dD bM.lf)))<|
 .cH [0] (iI (p_s.dD.length:Int) r0) fun r1 _=>
 .l1m [] Tryz.f281 1 [1,1,1,0,1,0] 0 (.exit 0) (fun(v0,s9814)=>⟨[(0,.ptr 0 0),(3,.ptr 1 0),(4,.i_ v0)],[dV s9814,WT p_s]⟩) (fun r_=>⟨[(0,.ptr 0 0),(3,.ptr 1 0)],[dV r_,WT p_s]⟩) (Vj p_s 0 r1) (Aj p_s) (0,r1) fun r2=>
 .cH [0] (iI p_s.fR r2) fun r3 _=>
 .ret ⟨[.kill 1],[],[],1⟩ (r3)
def Q48(p_s:dZ)(p_b0:aK):Option (aK):=Mo.den (ajL p_s p_b0)
theorem alF(p_s:dZ)(p_b0:aK):FH (Q48 p_s p_b0) 281 [.ptr 0 0,.dat (dZ.lf1 p_s)] [dV p_b0] (fun _=>.tup []) (fun r=>[dV r]):=dQ Tryz.func281
abbrev OE(m:aS→aK→Option (aK)):Prop:=∀p_e p_b0,FH (m p_e p_b0) 282 [.ptr 0 0,.dat (aS.lf1 p_e)] [dV p_b0] (fun _=>.tup []) (fun r=>[dV r])
structure aec where
 m1:(p_e:aS)→(p_b0:aK)→Option (aK)
 ok1:OE m1
def Ak(R_:aec)(p_e:aS):(Int×aK)→Mo ((Int×aK)⊕(aK)):=fun(v0,s9876)=>
 .nu p_e.bV aS.lf<|
 .iB (decide ((v0:Int)<(p_e.bV.length:Int))) (.gx aS.aW p_e.bV v0 fun x0 _=>
 .cH [0] (R_.ok1 x0 s9876) fun r0 _=>
 .rt [0,3,4] 2 (.inl (IntKind.wrap .i64 (v0+1),r0)))<|
 .ret ⟨[.kill 1],[],[],2⟩ (.inr (s9876))
def Vk(R_:aec)(p_e:aS)(v0:Int)(s9876:aK):Option (aK):=dM (fun v_=>(Ak R_ p_e v_).den) FU (v0,s9876)
def aed(R_:aec)(p_e:aS)(p_b0:aK):Mo (aK):=
 .cH [0] (iI p_e.fOp p_b0) fun r0 _=>
 .cH [0] (GV p_e.cZ r0) fun r1 _=>
 .cH [0] (ru p_e.fName r1) fun r2 _=>
 .cH [0] (GV p_e.fK r2) fun r3 _=>
 .cH [0] (yH p_e.fArg r3) fun r4 _=>
 .ask (Q2 p_e.fN r4) fun r5 h0=>
 .say [.gy [0] (.tup []) [dV r5],.num p_e.bV.length] (okc (iI _ _ _ h0) (ok1 (ln_ p_e.bV aS.lf)))<|
 .cH [0] (iI (p_e.bV.length:Int) r5) fun r6 _=>
 .l1m [] Tryz.f282 1 [1,1,1,1,1,1,1,1,1,0] 0 (.exit 0) (fun(v0,s9876)=>⟨[(0,.ptr 0 0),(3,.ptr 1 0),(4,.i_ v0)],[dV s9876,fP p_e]⟩) (fun r_=>⟨[],[dV r_,.dead]⟩) (Vk R_ p_e 0 r6) (Ak R_ p_e) (0,r6) fun r7=>
 .rt [] 1 (r7)
theorem aic(R_:aec):OE fun p_e p_b0=>Mo.den (aed R_ p_e p_b0):=fun _ _=>dQ Tryz.func282
def vC:Nat→aec
 |0=>{ m1:=fun p_e p_b0=>none,ok1:=fun _ _ _ h=>(by cases h) }
 |n_+1=>{ m1:=fun p_e p_b0=>Mo.den (aed (vC n_) p_e p_b0),ok1:=aic (vC n_) }
def Q35(p_e:aS)(p_b0:aK):Option (aK):=(vC FU).m1 p_e p_b0
theorem alG:OE Q35:=(vC FU).ok1
abbrev OG(m:aO→aK→Option (aK)):Prop:=∀p_p p_b0,FH (m p_p p_b0) 221 [.ptr 0 0,.dat (aO.lf1 p_p)] [dV p_b0] (fun _=>.tup []) (fun r=>[dV r])
structure aee where
 m1:(p_p:aO)→(p_b0:aK)→Option (aK)
 ok1:OG m1
def Am(R_:aee)(p_p:aO):(Int×aK)→Mo ((Int×aK)⊕(aK)):=fun(v0,s9909)=>
 .nu p_p.bV aO.lf<|
 .iB (decide ((v0:Int)<(p_p.bV.length:Int))) (.gx aO.aW p_p.bV v0 fun x0 _=>
 .cH [0] (R_.ok1 x0 s9909) fun r0 _=>
 .rt [0,3,4] 2 (.inl (IntKind.wrap .i64 (v0+1),r0)))<|
 .ret ⟨[.kill 1],[],[],2⟩ (.inr (s9909))
def Vl(R_:aee)(p_p:aO)(v0:Int)(s9909:aK):Option (aK):=dM (fun v_=>(Am R_ p_p v_).den) FU (v0,s9909)
def aef(R_:aee)(p_p:aO)(p_b0:aK):Mo (aK):=
 .cH [0] (iI p_p.fOp p_b0) fun r0 _=>
 .cH [0] (GV p_p.cZ r0) fun r1 _=>
 .cH [0] (yH p_p.fArg r1) fun r2 _=>
 .cH [0] (aeb p_p.fArgs r2) fun r3 _=>
 .cH [0] (iI p_p.fN r3) fun r4 _=>
 .cH [0] (iI p_p.fM r4) fun r5 _=>
 .cH [0] (alF p_p.dH r5) fun r6 _=>
 .ask (Q35 p_p.fExpr r6) fun r7 h0=>
 .say [.gy [0] (.tup []) [dV r7],.num p_p.bV.length] (okc (alG _ _ _ h0) (ok1 (ln_ p_p.bV aO.lf)))<|
 .cH [0] (iI (p_p.bV.length:Int) r7) fun r8 _=>
 .l1m [] Tryz.f221 1 [1,1,1,1,1,1,1,1,1,1,1,0] 0 (.exit 0) (fun(v0,s9909)=>⟨[(0,.ptr 0 0),(3,.ptr 1 0),(4,.i_ v0)],[dV s9909,eG p_p]⟩) (fun r_=>⟨[],[dV r_,.dead]⟩) (Vl R_ p_p 0 r8) (Am R_ p_p) (0,r8) fun r9=>
 .rt [] 1 (r9)
theorem aie(R_:aee):OG fun p_p p_b0=>Mo.den (aef R_ p_p p_b0):=fun _ _=>dQ Tryz.func221
def vF:Nat→aee
 |0=>{ m1:=fun p_p p_b0=>none,ok1:=fun _ _ _ h=>(by cases h) }
 |n_+1=>{ m1:=fun p_p p_b0=>Mo.den (aef (vF n_) p_p p_b0),ok1:=aie (vF n_) }
def Q43(p_p:aO)(p_b0:aK):Option (aK):=(vF FU).m1 p_p p_b0
theorem alH:OG Q43:=(vF FU).ok1
def Aq(p_x:aQ):(Int×aK)→Mo ((Int×aK)⊕(aK)):=fun(v0,s9707)=>
 .nu p_x.fQ bf.lf<|
 .iB (decide ((v0:Int)<(p_x.fQ.length:Int))) (.gx bf.aW p_x.fQ v0 fun x0 _=>
 .cH [0] (GV x0.cZ s9707) fun r0 _=>
 .gx bf.aW p_x.fQ v0 fun x1 _=>
 .cH [0] (sS x1.rO r0) fun r1 _=>
 .rt [0,3,4] 2 (.inl (IntKind.wrap .i64 (v0+1),r1)))<|
 .rt [0,3] 2 (.inr (s9707))
def Vm(p_x:aQ)(v0:Int)(s9707:aK):Option (aK):=dM (fun v_=>(Aq p_x v_).den) FU (v0,s9707)
def ajM(p_x:aQ)(p_b0:aK):Mo (aK):=
 .cH [0] (ru p_x.fName p_b0) fun r0 _=>
 .ask (Q2 p_x.ay r0) fun r1 h0=>
 .say [.gy [0] (.tup []) [dV r1],.num p_x.fQ.length] (okc (iI _ _ _ h0) (ok1 (ln_ p_x.fQ bf.lf)))<|
 .cH [0] (iI (p_x.fQ.length:Int) r1) fun r2 _=>
 .l1m [] Tryz.f142 1 [1,1,1,1,0,1,0] 0 (.exit 0) (fun(v0,s9707)=>⟨[(0,.ptr 0 0),(3,.ptr 1 0),(4,.i_ v0)],[dV s9707,tN p_x]⟩) (fun r_=>⟨[(0,.ptr 0 0),(3,.ptr 1 0)],[dV r_,tN p_x]⟩) (Vm p_x 0 r2) (Aq p_x) (0,r2) fun r3=>
 .cH [0] (sS p_x.dY r3) fun r4 _=>
 .cH [0] (sS p_x.jl r4) fun r5 _=>
 .cH [0] (sS p_x.gB r5) fun r6 _=>
 .cH [0] (alH p_x.bF r6) fun r7 _=>
 .ret ⟨[.kill 1],[],[],1⟩ (r7)
def Q39(p_x:aQ)(p_b0:aK):Option (aK):=Mo.den (ajM p_x p_b0)
theorem aeg(p_x:aQ)(p_b0:aK):FH (Q39 p_x p_b0) 142 [.ptr 0 0,.dat (aQ.lf1 p_x)] [dV p_b0] (fun _=>.tup []) (fun r=>[dV r]):=dQ Tryz.func142
abbrev OH(m:aI→aK→Option (aK)):Prop:=∀p_s p_b0,FH (m p_s p_b0) 219 [.ptr 0 0,.dat (aI.lf1 p_s)] [dV p_b0] (fun _=>.tup []) (fun r=>[dV r])
structure Vo where
 m1:(p_s:aI)→(p_b0:aK)→Option (aK)
 ok1:OH m1
def Ar(R_:Vo)(p_s:aI):(Int×aK)→Mo ((Int×aK)⊕(aK)):=fun(v0,s10046)=>
 .nu p_s.dN bH.lf<|
 .iB (decide ((v0:Int)<(p_s.dN.length:Int))) (.gx bH.aW p_s.dN v0 fun x0 _=>
 .cH [0] (ru x0.fName s10046) fun r0 _=>
 .gx bH.aW p_s.dN v0 fun x1 _=>
 .cH [0] (R_.ok1 x1.aZ r0) fun r1 _=>
 .rt [0,3,4] 2 (.inl (IntKind.wrap .i64 (v0+1),r1)))<|
 .rt [0,3] 2 (.inr (s10046))
def Vp(R_:Vo)(p_s:aI)(v0:Int)(s10046:aK):Option (aK):=dM (fun v_=>(Ar R_ p_s v_).den) FU (v0,s10046)
def Au(R_:Vo)(p_s:aI):(Int×aK)→Mo ((Int×aK)⊕(aK)):=fun(v0,s10097)=>
 .nu p_s.dP aI.lf<|
 .iB (decide ((v0:Int)<(p_s.dP.length:Int))) (.gx aI.aW p_s.dP v0 fun x0 _=>
 .cH [0] (R_.ok1 x0 s10097) fun r0 _=>
 .rt [0,3,5] 2 (.inl (IntKind.wrap .i64 (v0+1),r0)))<|
 .rt [0,3] 2 (.inr (s10097))
def Vq(R_:Vo)(p_s:aI)(v0:Int)(s10097:aK):Option (aK):=dM (fun v_=>(Au R_ p_s v_).den) FU (v0,s10097)
def aeh(R_:Vo)(p_s:aI)(p_b0:aK):Mo (aK):=
 .cH [0] (iI p_s.jF p_b0) fun r0 _=>
 .cH [0] (sS p_s.iQ r0) fun r1 _=>
 .cH [0] (yH p_s.kE r1) fun r2 _=>
 .cH [0] (sS p_s.iR r2) fun r3 _=>
 .cH [0] (yH p_s.kF r3) fun r4 _=>
 .cH [0] (aeb p_s.jL r4) fun r5 _=>
 .cH [0] (iI p_s.iU r5) fun r6 _=>
 .cH [0] (iI p_s.iV r6) fun r7 _=>
 .ask (Q29 p_s.dK r7) fun r8 h0=>
 .say [.gy [0] (.tup []) [dV r8],.num p_s.dN.length] (okc (GV _ _ _ h0) (ok1 (ln_ p_s.dN bH.lf)))<|
 .cH [0] (iI (p_s.dN.length:Int) r8) fun r9 _=>
 .l1m [] Tryz.f219 1 [1,1,1,1,1,1,1,1,1,1,1,0,1,0] 0 (.exit 0) (fun(v0,s10046)=>⟨[(0,.ptr 0 0),(3,.ptr 1 0),(4,.i_ v0)],[dV s10046,jd p_s]⟩) (fun r_=>⟨[(0,.ptr 0 0),(3,.ptr 1 0)],[dV r_,jd p_s]⟩) (Vp R_ p_s 0 r9) (Ar R_ p_s) (0,r9) fun r10=>
 .ask (Q50 p_s.jD r10) fun r11 h1=>
 .say [.gy [0] (.tup []) [dV r11],.num p_s.dP.length] (okc (sS _ _ _ h1) (ok1 (ln_ p_s.dP aI.lf)))<|
 .cH [0] (iI (p_s.dP.length:Int) r11) fun r12 _=>
 .l1m [] Tryz.f219 1 [1,1,1,1,1,1,1,1,1,1,1,1,1,1,0,1,0] 0 (.exit 2) (fun(v1,s10097)=>⟨[(0,.ptr 0 0),(3,.ptr 1 0),(5,.i_ v1)],[dV s10097,jd p_s]⟩) (fun r_=>⟨[(0,.ptr 0 0),(3,.ptr 1 0)],[dV r_,jd p_s]⟩) (Vq R_ p_s 0 r12) (Au R_ p_s) (0,r12) fun r13=>
 .cH [0] (sS p_s.dY r13) fun r14 _=>
 .ret ⟨[.kill 1],[],[],1⟩ (r14)
theorem aif(R_:Vo):OH fun p_s p_b0=>Mo.den (aeh R_ p_s p_b0):=fun _ _=>dQ Tryz.func219
def rC:Nat→Vo
 |0=>{ m1:=fun p_s p_b0=>none,ok1:=fun _ _ _ h=>(by cases h) }
 |n_+1=>{ m1:=fun p_s p_b0=>Mo.den (aeh (rC n_) p_s p_b0),ok1:=aif (rC n_) }
def Q19(p_s:aI)(p_b0:aK):Option (aK):=(rC FU).m1 p_s p_b0
theorem alI:OH Q19:=(rC FU).ok1
def Aw(p_d:bY):(Int×aK)→Mo ((Int×aK)⊕(aK)):=fun(v0,s9947)=>
 .nu p_d.bZ aQ.lf<|
 .iB (decide ((v0:Int)<(p_d.bZ.length:Int))) (.gx aQ.aW p_d.bZ v0 fun x0 _=>
 .cH [0] (aeg x0 s9947) fun r0 _=>
 .rt [0,3,4] 2 (.inl (IntKind.wrap .i64 (v0+1),r0)))<|
 .rt [0,3] 2 (.inr (s9947))
def Vr(p_d:bY)(v0:Int)(s9947:aK):Option (aK):=dM (fun v_=>(Aw p_d v_).den) FU (v0,s9947)
def ajN(p_d:bY)(p_b0:aK):Mo (aK):=
 .ask (Q42 p_d.fName p_b0) fun r0 h0=>
 .say [.gy [0] (.tup []) [dV r0],.num p_d.bZ.length] (okc (ru _ _ _ h0) (ok1 (ln_ p_d.bZ aQ.lf)))<|
 .cH [0] (iI (p_d.bZ.length:Int) r0) fun r1 _=>
 .l1m [] Tryz.f141 1 [1,1,1,0,1,0] 0 (.exit 0) (fun(v0,s9947)=>⟨[(0,.ptr 0 0),(3,.ptr 1 0),(4,.i_ v0)],[dV s9947,qI p_d]⟩) (fun r_=>⟨[(0,.ptr 0 0),(3,.ptr 1 0)],[dV r_,qI p_d]⟩) (Vr p_d 0 r1) (Aw p_d) (0,r1) fun r2=>
 .cH [0] (alI p_d.aZ r2) fun r3 _=>
 .cH [0] (iI p_d.kG r3) fun r4 _=>
 .cH [0] (iI p_d.iJ r4) fun r5 _=>
 .ret ⟨[.kill 1],[],[],1⟩ (r5)
def Q49(p_d:bY)(p_b0:aK):Option (aK):=Mo.den (ajN p_d p_b0)
theorem alJ(p_d:bY)(p_b0:aK):FH (Q49 p_d p_b0) 141 [.ptr 0 0,.dat (bY.lf1 p_d)] [dV p_b0] (fun _=>.tup []) (fun r=>[dV r]):=dQ Tryz.func141
abbrev OI(m:au→aK→Option (aK)):Prop:=∀p_x p_b0,FH (m p_x p_b0) 85 [.ptr 0 0,.dat (au.lf1 p_x)] [dV p_b0] (fun _=>.tup []) (fun r=>[dV r])
structure Vs where
 m1:(p_x:au)→(p_b0:aK)→Option (aK)
 ok1:OI m1
def Az(R_:Vs)(p_x:au):(Int×aK)→Mo ((Int×aK)⊕(aK)):=fun(v0,s10168)=>
 .nu p_x.bQ au.lf<|
 .iB (decide ((v0:Int)<(p_x.bQ.length:Int))) (.gx au.aW p_x.bQ v0 fun x0 _=>
 .cH [0] (R_.ok1 x0 s10168) fun r0 _=>
 .rt [0,3,4] 2 (.inl (IntKind.wrap .i64 (v0+1),r0)))<|
 .rt [0,3] 2 (.inr (s10168))
def Vt(R_:Vs)(p_x:au)(v0:Int)(s10168:aK):Option (aK):=dM (fun v_=>(Az R_ p_x v_).den) FU (v0,s10168)
def AA(R_:Vs)(p_x:au):(Int×aK)→Mo ((Int×aK)⊕(aK)):=fun(v0,s10211)=>
 .nu p_x.dI lfI<|
 .iB (decide ((v0:Int)<(p_x.dI.length:Int))) (.gx lI_ p_x.dI v0 fun x0 _=>
 .cH [0] (iI x0 s10211) fun r0 _=>
 .rt [0,3,5] 2 (.inl (IntKind.wrap .i64 (v0+1),r0)))<|
 .rt [0,3] 2 (.inr (s10211))
def Vu(R_:Vs)(p_x:au)(v0:Int)(s10211:aK):Option (aK):=dM (fun v_=>(AA R_ p_x v_).den) FU (v0,s10211)
def aei(R_:Vs)(p_x:au)(p_b0:aK):Mo (aK):=
 .cH [0] (iI p_x.ay p_b0) fun r0 _=>
 .cH [0] (ru p_x.fE r0) fun r1 _=>
 .cH [0] (yH p_x.ig r1) fun r2 _=>
 .cH [0] (yH p_x.aY r2) fun r3 _=>
 .cH [0] (yH p_x.dF r3) fun r4 _=>
 .cH [0] (alJ p_x.dB r4) fun r5 _=>
 .cH [0] (aeg p_x.aX r5) fun r6 _=>
 .cH [0] (ru p_x.kX r6) fun r7 _=>
 .ask (Q2 p_x.dO r7) fun r8 h0=>
 .say [.gy [0] (.tup []) [dV r8],.num p_x.bQ.length] (okc (iI _ _ _ h0) (ok1 (ln_ p_x.bQ au.lf)))<|
 .cH [0] (iI (p_x.bQ.length:Int) r8) fun r9 _=>
 .l1m [] Tryz.f85 1 [1,1,1,1,1,1,1,1,1,1,1,0,1,0] 0 (.exit 0) (fun(v0,s10168)=>⟨[(0,.ptr 0 0),(3,.ptr 1 0),(4,.i_ v0)],[dV s10168,fA p_x]⟩) (fun r_=>⟨[(0,.ptr 0 0),(3,.ptr 1 0)],[dV r_,fA p_x]⟩) (Vt R_ p_x 0 r9) (Az R_ p_x) (0,r9) fun r10=>
 .nu p_x.dI lfI<|
 .cH [0] (iI (p_x.dI.length:Int) r10) fun r11 _=>
 .l1m [] Tryz.f85 1 [1,1,1,1,1,1,1,1,1,1,1,1,1,0,1,0] 0 (.exit 2) (fun(v1,s10211)=>⟨[(0,.ptr 0 0),(3,.ptr 1 0),(5,.i_ v1)],[dV s10211,fA p_x]⟩) (fun r_=>⟨[(0,.ptr 0 0),(3,.ptr 1 0)],[dV r_,fA p_x]⟩) (Vu R_ p_x 0 r11) (AA R_ p_x) (0,r11) fun r12=>
 .cH [0] (sS p_x.fB r12) fun r13 _=>
 .ret ⟨[.kill 1],[],[],1⟩ (r13)
theorem aii(R_:Vs):OI fun p_x p_b0=>Mo.den (aei R_ p_x p_b0):=fun _ _=>dQ Tryz.func85
def sU:Nat→Vs
 |0=>{ m1:=fun p_x p_b0=>none,ok1:=fun _ _ _ h=>(by cases h) }
 |n_+1=>{ m1:=fun p_x p_b0=>Mo.den (aei (sU n_) p_x p_b0),ok1:=aii (sU n_) }
def Q23(p_x:au)(p_b0:aK):Option (aK):=(sU FU).m1 p_x p_b0
theorem alK:OI Q23:=(sU FU).ok1
def aej(p_e:bW)(p_b0:aK):Mo (aK):=
 .cH [0] (iI p_e.nM p_b0) fun r0 _=>
 .cH [0] (iI p_e.dO r0) fun r1 _=>
 .cH [0] (ru p_e.jq r1) fun r2 _=>
 .cH [0] (iI p_e.lM r2) fun r3 _=>
 .cH [0] (alK p_e.fG r3) fun r4 _=>
 .ret ⟨[.kill 1],[],[],1⟩ (r4)
def alL(p_e:bW)(p_b0:aK):Option (aK):=Mo.den (aej p_e p_b0)
theorem aij(p_e:bW)(p_b0:aK):FH (alL p_e p_b0) 37 [.ptr 0 0,.dat (bW.lf1 p_e)] [dV p_b0] (fun _=>.tup []) (fun r=>[dV r]):=dQ Tryz.func37
def aek(p_e:bW):Mo (ByteArray):=
 .say [.at_ 6 1,.norm 1] ok0<|
 .cH [1] (aij p_e (aK.mk ⟨#[]⟩ false true)) fun r0 _=>
 .ret (bn 1) (r0.fS)
def ael(p_e:bW):Option (ByteArray):=Mo.den (aek p_e)
theorem XY(p_e:bW):FV (ael p_e) 44 [.dat (bW.lf1 p_e)] (fun r=>.lf (.str r)):=dL Tryz.func44
def aem(p_a:bW)(p_b:bW):Mo (Bool):=
 .ask (ael p_a) fun r0 h0=>
 .say [] (ok1 (XY _ _ h0))<|
 .ask (ael p_b) fun r1 h1=>
 .say [.kC (.q 0 (.q 2 (.l 1 (.l 3 (.q 4 (.q 5 .fin)))))) (some 3) [] [.res (.lf (.str r0)),.res (.lf (.str r1))] [4] 2 [(4,.lf (.bool (decide ((r0:ByteArray)=(r1:ByteArray)))))] [xR p_a,xR p_b]] (okc (XY _ _ h1) (ok1 (rf_ ⟨[(4,.lf (.bool (decide ((r0:ByteArray)=(r1:ByteArray)))))],[xR p_a,xR p_b]⟩)))<|
 .ret (bn 1) (decide ((r0:ByteArray)=(r1:ByteArray)))
def am7(p_a:bW)(p_b:bW):Option (Bool):=Mo.den (aem p_a p_b)
theorem XZ(p_a:bW)(p_b:bW):FV (am7 p_a p_b) 18 [.dat (bW.lf1 p_a),.dat (bW.lf1 p_b)] .b_:=dL Tryz.func18
abbrev OJ(m:ah→Option (ah)):Prop:=∀p_v,FV (m p_v) 101 [.dat (ah.lf1 p_v)] (fun r=>.dat (ah.lf1 r))
abbrev OL(m:(List ah)→Option (List ah)):Prop:=∀p_l,FH (m p_l) 154 [.lf (.rows 5 (p_l.map ah.lf)),.raw (.func (.func 101) #[] #[])] [] (fun r=>.lf (.rows 5 (r.map ah.lf))) (fun _=>[])
abbrev X0(m:(List aJ)→Option (List aJ)):Prop:=∀p_l,FH (m p_l) 155 [.lf (.rows 6 (p_l.map aJ.lf)),.raw (.func (.func 156) #[] #[])] [] (fun r=>.lf (.rows 6 (r.map aJ.lf))) (fun _=>[])
abbrev X3(m:aJ→Option (aJ)):Prop:=∀p_f,FV (m p_f) 156 [.dat (aJ.lf1 p_f)] (fun r=>.dat (aJ.lf1 r))
structure Il where
 m1:(p_v:ah)→Option (ah)
 ok1:OJ m1
 m2:(p_l:List ah)→Option (List ah)
 ok2:OL m2
 m3:(p_l:List aJ)→Option (List aJ)
 ok3:X0 m3
 m4:(p_f:aJ)→Option (aJ)
 ok4:X3 m4
def aen(R_:Il)(p_v:ah):Mo (ah):=
 .cH [] (R_.ok2 p_v.aU) fun r0 _=>
 .cH [] (R_.ok3 p_v.aY) fun r1 _=>
 .ret (bn 1) (ah.mk p_v.ay p_v.dG p_v.fText r0 r1)
theorem aeo(R_:Il):OJ fun p_v=>Mo.den (aen R_ p_v):=fun _=>dL Tryz.func101
def aep(R_:Il)(p_l:List ah):Mo (List ah):=
 .nu p_l ah.lf<|
 .iB ((p_l.length:Int)==0) (.ret ⟨[.nil 0 5,.tod 0],[0],[],0⟩ ([]))<|
 .stop
theorem aer(R_:Il):OL fun p_l=>Mo.den (aep R_ p_l):=fun _=>dQ Tryz.func154
def Z8(R_:Il)(p_l:List aJ):(Int×(List aJ))→Mo ((Int×(List aJ))⊕((List aJ))):=fun(v0,l0)=>
 .iB (decide ((v0:Int)<(p_l.length:Int))) (.gx aJ.aW p_l v0 fun x0 _=>
 .cl (R_.ok4 x0) fun r0 _=>
 .ask (qc l0 v0) fun x1 h0=>
 .say [.row (aJ.lf1 x1),.rows ((l0.set v0.toNat r0).map aJ.lf)] (okc (aga aJ.aW h0) (okc (st_ aJ.aW l0 v0.toNat r0) (ok1 ((lS aJ.aW h0).2))))<|
 .rt [1,5,14,15,16] 1 (.inl (IntKind.wrap .i64 (v0+1),l0.set v0.toNat r0)))<|
 .rt [5] 1 (.inr (l0))
def aes(R_:Il)(p_l:List aJ):Mo (List aJ):=
 .nu p_l aJ.lf<|
 .iB ((p_l.length:Int)==0) (.ret ⟨[.nil 0 6,.tod 0],[0],[],0⟩ ([]))<|
 .say [.num p_l.length,.rows ((List.replicate (p_l.length:Int).toNat (aJ.mk ⟨#[]⟩ (ah.mk 0 0 ⟨#[]⟩ [] []))).map aJ.lf),.num p_l.length] (okc (ln_ p_l aJ.lf) (ok1 (rp_ aJ.aW (p_l.length:Int).toNat (aJ.mk ⟨#[]⟩ (ah.mk 0 0 ⟨#[]⟩ [] [])))))<|
 .grd ((0:Int)≤(p_l.length:Int)∧96*(p_l.length:Int).toNat≤281474976710656∧(p_l.length:Int).toNat≤maxLen) fun h0=>
 .say [] (okc (mk_ (p_l.length:Int) h0) (ok1 (ln_ p_l aJ.lf)))<|
 .l1 Tryz.f155 0 [1,1,1,0,1,0] 0 (.exit 0) (fun(v0,l0)=>⟨[(1,.raw (.func (.func 156) #[] #[])),(5,.own 0),(14,.lf (.rows 6 (p_l.map aJ.lf))),(15,.i_ (p_l.length:Int)),(16,.i_ v0)],[.row 115 6 (l0.map aJ.lf)]⟩) (fun r_=>⟨[(5,.own 0)],[.row 115 6 (r_.map aJ.lf)]⟩) (Z8 R_ p_l) (0,(List.replicate (p_l.length:Int).toNat (aJ.mk ⟨#[]⟩ (ah.mk 0 0 ⟨#[]⟩ [] [])))) fun r0=>
 .ret ⟨[.frz 0],[0],[],0⟩ (r0)
theorem aeu(R_:Il):X0 fun p_l=>Mo.den (aes R_ p_l):=fun _=>dQ Tryz.func155
def aev(R_:Il)(p_f:aJ):Mo (aJ):=
 .say [.order [(true,0),(true,1),(true,2),(true,3),(false,4),(true,5),(false,6)] (some 6) []] ok0<|
 .cl (R_.ok1 p_f.fValue) fun r0 _=>
 .ret (bn 1) (aJ.mk p_f.fName r0)
theorem aew(R_:Il):X3 fun p_f=>Mo.den (aev R_ p_f):=fun _=>dL Tryz.func156
def oU:Nat→Il
 |0=>{ m1:=fun p_v=>none,ok1:=fun _ _ h=>(by cases h),m2:=fun p_l=>none,ok2:=fun _ _ h=>(by cases h),m3:=fun p_l=>none,ok3:=fun _ _ h=>(by cases h),m4:=fun p_f=>none,ok4:=fun _ _ h=>(by cases h) }
 |n_+1=>{ m1:=fun p_v=>Mo.den (aen (oU n_) p_v),ok1:=aeo (oU n_),m2:=fun p_l=>Mo.den (aep (oU n_) p_l),ok2:=aer (oU n_),m3:=fun p_l=>Mo.den (aes (oU n_) p_l),ok3:=aeu (oU n_),m4:=fun p_f=>Mo.den (aev (oU n_) p_f),ok4:=aew (oU n_) }
def anZ(p_v:ah):Option (ah):=(oU FU).m1 p_v
theorem sV:OJ anZ:=(oU FU).ok1
def am8(p_l:List ah):Option (List ah):=(oU FU).m2 p_l
theorem X4:OL am8:=(oU FU).ok2
def alM(p_l:List ByteArray):Mo (List ByteArray):=
 .say [.rows (p_l.map lfS),.at_ 0 0,.frz 0] (ok1 (by simp[lfS]:p_l.map lfS=[]++(p_l.map lfS)))<|
 .grd ((([]:List ByteArray).length+p_l.length)*16≤140737488355328) fun h0=>
 .say [] (ok1 (cq_ lfS h0))<|
 .ret (bn 1) (p_l)
def an0(p_l:List ByteArray):Option (List ByteArray):=Mo.den (alM p_l)
theorem EL(p_l:List ByteArray):FV (an0 p_l) 238 [.lf (.rows 1 (p_l.map lfS))] (fun r=>.lf (.rows 1 (r.map lfS))):=dL Tryz.func238
def alN(p_l:List bf):Mo (List bf):=
 .nu p_l bf.lf<|
 .iB ((p_l.length:Int)==0) (.say [] (ok1 (by simp[bf.aW]:(([]:List bf).map bf.lf)=[]))<|
 .ret ⟨[.rG 0 149 2,.kU 0 (([]:List bf).map bf.lf),.mvn 0],[0],[(1,0)],1⟩ (([]:List bf)))<|
 .stop
def an1(p_l:List bf):Option (List bf):=Mo.den (alN p_l)
theorem aik(p_l:List bf):FH (an1 p_l) 159 [.lf (.rows 2 (p_l.map bf.lf)),.raw (.func (.func 160) #[] #[])] [] (fun _=>.own 0) (fun r=>[.row 149 2 (r.map bf.lf)]):=dQ Tryz.func159
abbrev OM(m:aS→Option (aS)):Prop:=∀p_e,FV (m p_e) 242 [.dat (aS.lf1 p_e)] (fun r=>.dat (aS.lf1 r))
abbrev X5(m:(List aS)→Option (List aS)):Prop:=∀p_l,FH (m p_l) 295 [.lf (.rows 11 (p_l.map aS.lf)),.raw (.func (.func 242) #[] #[])] [] (fun r=>.lf (.rows 11 (r.map aS.lf))) (fun _=>[])
structure aex where
 m1:(p_e:aS)→Option (aS)
 ok1:OM m1
 m2:(p_l:List aS)→Option (List aS)
 ok2:X5 m2
def aey(R_:aex)(p_e:aS):Mo (aS):=
 .cl (EL p_e.cZ) fun r0 _=>
 .cl (EL p_e.fK) fun r1 _=>
 .cl (sV p_e.fArg) fun r2 _=>
 .cH [] (R_.ok2 p_e.bV) fun r3 _=>
 .ret (bn 1) (aS.mk p_e.fOp r0 p_e.fName r1 r2 p_e.fN r3)
theorem aez(R_:aex):OM fun p_e=>Mo.den (aey R_ p_e):=fun _=>dL Tryz.func242
def aeA(R_:aex)(p_l:List aS):Mo (List aS):=
 .nu p_l aS.lf<|
 .iB ((p_l.length:Int)==0) (.ret ⟨[.nil 0 11,.tod 0],[0],[],0⟩ ([]))<|
 .stop
theorem aeB(R_:aex):X5 fun p_l=>Mo.den (aeA R_ p_l):=fun _=>dQ Tryz.func295
def CX:Nat→aex
 |0=>{ m1:=fun p_e=>none,ok1:=fun _ _ h=>(by cases h),m2:=fun p_l=>none,ok2:=fun _ _ h=>(by cases h) }
 |n_+1=>{ m1:=fun p_e=>Mo.den (aey (CX n_) p_e),ok1:=aez (CX n_),m2:=fun p_l=>Mo.den (aeA (CX n_) p_l),ok2:=aeB (CX n_) }
def an2(p_e:aS):Option (aS):=(CX FU).m1 p_e
theorem ail:OM an2:=(CX FU).ok1
end
end Go.Proofs.YtflpefkohpjjpaaGreatDoor
set_option linter.unusedSimpArgs false
set_option linter.unusedVariables false
namespace Go.Proofs.YtflpefkohpjjpaaGreatDoor
open Go.RowKit
set_option maxRecDepth 20000
set_option maxHeartbeats 4000000
noncomputable section
abbrev OO(m:aO→Option (aO)):Prop:=∀p_p,FV (m p_p) 161 [.dat (aO.lf1 p_p)] (fun r=>.dat (aO.lf1 r))
abbrev X6(m:(List aO)→Option (List aO)):Prop:=∀p_l,FH (m p_l) 243 [.lf (.rows 25 (p_l.map aO.lf)),.raw (.func (.func 161) #[] #[])] [] (fun r=>.lf (.rows 25 (r.map aO.lf))) (fun _=>[])
structure aeC where
 m1:(p_p:aO)→Option (aO)
 ok1:OO m1
 m2:(p_l:List aO)→Option (List aO)
 ok2:X6 m2
def aeD(R_:aeC)(p_p:aO):Mo (aO):=
 .cl (EL p_p.cZ) fun r0 _=>
 .cl (sV p_p.fArg) fun r1 _=>
 .ask (am8 p_p.fArgs) fun r2 h0=>
 .say [.gy [] (.lf (.rows 5 (r2.map ah.lf))) [],.rows (p_p.dH.dD.map bM.lf)] (okc (X4 _ _ h0) (ok1 (by simp[bM.aW]:p_p.dH.dD.map bM.lf=[]++(p_p.dH.dD.map bM.lf))))<|
 .grd ((([]:List bM).length+p_p.dH.dD.length)*16≤140737488355328) fun h1=>
 .say [] (ok1 (cq_ bM.lf h1))<|
 .cl (ail p_p.fExpr) fun r3 _=>
 .ask (R_.m2 p_p.bV) fun r4 h2=>
 .say [.gy [] (.lf (.rows 25 (r4.map aO.lf))) [],.at_ 0 0,.frz 2] (ok1 (R_.ok2 _ _ h2))<|
 .ret (bn 1) (aO.mk p_p.fOp r0 r1 r2 p_p.fN p_p.fM p_p.dH r3 r4)
theorem aeE(R_:aeC):OO fun p_p=>Mo.den (aeD R_ p_p):=fun _=>dL Tryz.func161
def aeF(R_:aeC)(p_l:List aO):Mo (List aO):=
 .nu p_l aO.lf<|
 .iB ((p_l.length:Int)==0) (.ret ⟨[.nil 0 25,.tod 0],[0],[],0⟩ ([]))<|
 .stop
theorem aeG(R_:aeC):X6 fun p_l=>Mo.den (aeF R_ p_l):=fun _=>dQ Tryz.func243
def CY:Nat→aeC
 |0=>{ m1:=fun p_p=>none,ok1:=fun _ _ h=>(by cases h),m2:=fun p_l=>none,ok2:=fun _ _ h=>(by cases h) }
 |n_+1=>{ m1:=fun p_p=>Mo.den (aeD (CY n_) p_p),ok1:=aeE (CY n_),m2:=fun p_l=>Mo.den (aeF (CY n_) p_l),ok2:=aeG (CY n_) }
def am9(p_p:aO):Option (aO):=(CY FU).m1 p_p
theorem ain:OO am9:=(CY FU).ok1
def alO(p_x:aQ):Mo (aQ):=
 .cH [] (aik p_x.fQ) fun r0 _=>
 .ask (am9 p_x.bF) fun r1 h0=>
 .say [.res (.dat (aO.lf1 r1)),.at_ 0 0,.frz 2] (ok1 (ain _ _ h0))<|
 .ret (bn 1) (aQ.akf (aQ.aml p_x r0) r1)
def an3(p_x:aQ):Option (aQ):=Mo.den (alO p_x)
theorem aio(p_x:aQ):FV (an3 p_x) 103 [.dat (aQ.lf1 p_x)] (fun r=>.dat (aQ.lf1 r)):=dL Tryz.func103
def alP(p_l:List aQ):Mo (List aQ):=
 .nu p_l aQ.lf<|
 .iB ((p_l.length:Int)==0) (.say [] (ok1 (by simp[aQ.aW]:(([]:List aQ).map aQ.lf)=[]))<|
 .ret ⟨[.rG 0 45 31,.kU 0 (([]:List aQ).map aQ.lf),.mvn 0],[0],[(1,0)],1⟩ (([]:List aQ)))<|
 .stop
def an4(p_l:List aQ):Option (List aQ):=Mo.den (alP p_l)
theorem aip(p_l:List aQ):FH (an4 p_l) 157 [.lf (.rows 31 (p_l.map aQ.lf)),.raw (.func (.func 103) #[] #[])] [] (fun _=>.own 0) (fun r=>[.row 45 31 (r.map aQ.lf)]):=dQ Tryz.func157
abbrev OQ(m:aI→Option (aI)):Prop:=∀p_s,FV (m p_s) 158 [.dat (aI.lf1 p_s)] (fun r=>.dat (aI.lf1 r))
abbrev X7(m:(List bH)→Option (List bH)):Prop:=∀p_l,FH (m p_l) 239 [.lf (.rows 22 (p_l.map bH.lf)),.raw (.func (.func 240) #[] #[])] [] (fun r=>.lf (.rows 22 (r.map bH.lf))) (fun _=>[])
abbrev X8(m:(List aI)→Option (List aI)):Prop:=∀p_l,FH (m p_l) 241 [.lf (.rows 21 (p_l.map aI.lf)),.raw (.func (.func 158) #[] #[])] [] (fun r=>.lf (.rows 21 (r.map aI.lf))) (fun _=>[])
abbrev X9(m:bH→Option (bH)):Prop:=∀p_p,FV (m p_p) 240 [.dat (bH.lf1 p_p)] (fun r=>.dat (bH.lf1 r))
structure OT where
 m1:(p_s:aI)→Option (aI)
 ok1:OQ m1
 m2:(p_l:List bH)→Option (List bH)
 ok2:X7 m2
 m3:(p_l:List aI)→Option (List aI)
 ok3:X8 m3
 m4:(p_p:bH)→Option (bH)
 ok4:X9 m4
def aeH(R_:OT)(p_s:aI):Mo (aI):=
 .cl (sV p_s.kE) fun r0 _=>
 .cl (sV p_s.kF) fun r1 _=>
 .cH [] (X4 p_s.jL) fun r2 _=>
 .cl (EL p_s.dK) fun r3 _=>
 .cH [] (R_.ok2 p_s.dN) fun r4 _=>
 .cH [] (R_.ok3 p_s.dP) fun r5 _=>
 .ret (bn 1) (aI.mk p_s.jF p_s.iQ r0 p_s.iR r1 r2 p_s.iU p_s.iV r3 r4 p_s.jD r5 p_s.dY)
theorem aeI(R_:OT):OQ fun p_s=>Mo.den (aeH R_ p_s):=fun _=>dL Tryz.func158
def aeJ(R_:OT)(p_l:List bH):Mo (List bH):=
 .nu p_l bH.lf<|
 .iB ((p_l.length:Int)==0) (.ret ⟨[.nil 0 22,.tod 0],[0],[],0⟩ ([]))<|
 .stop
theorem aeK(R_:OT):X7 fun p_l=>Mo.den (aeJ R_ p_l):=fun _=>dQ Tryz.func239
def aeL(R_:OT)(p_l:List aI):Mo (List aI):=
 .nu p_l aI.lf<|
 .iB ((p_l.length:Int)==0) (.ret ⟨[.nil 0 21,.tod 0],[0],[],0⟩ ([]))<|
 .stop
theorem aeM(R_:OT):X8 fun p_l=>Mo.den (aeL R_ p_l):=fun _=>dQ Tryz.func241
def aeN(R_:OT)(p_p:bH):Mo (bH):=
 .say [.order [(true,0),(true,1),(true,2),(true,3),(false,4),(true,5),(false,6)] (some 6) []] ok0<|
 .cl (R_.ok1 p_p.aZ) fun r0 _=>
 .ret (bn 1) (bH.mk p_p.fName r0)
theorem aeO(R_:OT):X9 fun p_p=>Mo.den (aeN R_ p_p):=fun _=>dL Tryz.func240
def rD:Nat→OT
 |0=>{ m1:=fun p_s=>none,ok1:=fun _ _ h=>(by cases h),m2:=fun p_l=>none,ok2:=fun _ _ h=>(by cases h),m3:=fun p_l=>none,ok3:=fun _ _ h=>(by cases h),m4:=fun p_p=>none,ok4:=fun _ _ h=>(by cases h) }
 |n_+1=>{ m1:=fun p_s=>Mo.den (aeH (rD n_) p_s),ok1:=aeI (rD n_),m2:=fun p_l=>Mo.den (aeJ (rD n_) p_l),ok2:=aeK (rD n_),m3:=fun p_l=>Mo.den (aeL (rD n_) p_l),ok3:=aeM (rD n_),m4:=fun p_p=>Mo.den (aeN (rD n_) p_p),ok4:=aeO (rD n_) }
def ana(p_s:aI):Option (aI):=(rD FU).m1 p_s
theorem aiq:OQ ana:=(rD FU).ok1
def alQ(p_d:bY):Mo (bY):=
 .cH [] (aip p_d.bZ) fun r0 _=>
 .ask (ana p_d.aZ) fun r1 h0=>
 .say [.res (.dat (aI.lf1 r1)),.at_ 0 0,.frz 2] (ok1 (aiq _ _ h0))<|
 .ret (bn 1) (bY.mk p_d.fName r0 r1 p_d.kG p_d.iJ)
def an5(p_d:bY):Option (bY):=Mo.den (alQ p_d)
theorem air(p_d:bY):FV (an5 p_d) 102 [.dat (bY.lf1 p_d)] (fun r=>.dat (bY.lf1 r)):=dL Tryz.func102
abbrev OU(m:au→Option (au)):Prop:=∀p_w,FV (m p_w) 48 [.dat (au.lf1 p_w)] (fun r=>.dat (au.lf1 r))
abbrev Ya(m:(List au)→Option (List au)):Prop:=∀p_l,FH (m p_l) 47 [.lf (.rows 78 (p_l.map au.lf)),.raw (.func (.func 48) #[] #[])] [] (fun r=>.lf (.rows 78 (r.map au.lf))) (fun _=>[])
structure aeP where
 m1:(p_w:au)→Option (au)
 ok1:OU m1
 m2:(p_l:List au)→Option (List au)
 ok2:Ya m2
def aeQ(R_:aeP)(p_w:au):Mo (au):=
 .cl (sV p_w.ig) fun r0 _=>
 .cl (sV p_w.aY) fun r1 _=>
 .cl (sV p_w.dF) fun r2 _=>
 .cl (air p_w.dB) fun r3 _=>
 .cl (aio p_w.aX) fun r4 _=>
 .ask (R_.m2 p_w.bQ) fun r5 h0=>
 .say [.gy [] (.lf (.rows 78 (r5.map au.lf))) [],.rows (p_w.dI.map lfI),.at_ 0 0,.frz 2] (okc (R_.ok2 _ _ h0) (ok1 (by simp[lfI,lfK]:p_w.dI.map lfI=[]++(p_w.dI.map lfI))))<|
 .grd ((([]:List Int).length+p_w.dI.length)*8≤140737488355328) fun h1=>
 .say [] (ok1 (cq_ lfI h1))<|
 .ret (bn 1) (au.mk p_w.ay p_w.fE r0 r1 r2 r3 r4 p_w.kX p_w.dO r5 p_w.dI p_w.fB)
theorem aeR(R_:aeP):OU fun p_w=>Mo.den (aeQ R_ p_w):=fun _=>dL Tryz.func48
def aeS(R_:aeP)(p_l:List au):Mo (List au):=
 .nu p_l au.lf<|
 .iB ((p_l.length:Int)==0) (.ret ⟨[.nil 0 78,.tod 0],[0],[],0⟩ ([]))<|
 .stop
theorem aeT(R_:aeP):Ya fun p_l=>Mo.den (aeS R_ p_l):=fun _=>dQ Tryz.func47
def CZ:Nat→aeP
 |0=>{ m1:=fun p_w=>none,ok1:=fun _ _ h=>(by cases h),m2:=fun p_l=>none,ok2:=fun _ _ h=>(by cases h) }
 |n_+1=>{ m1:=fun p_w=>Mo.den (aeQ (CZ n_) p_w),ok1:=aeR (CZ n_),m2:=fun p_l=>Mo.den (aeS (CZ n_) p_l),ok2:=aeT (CZ n_) }
def anb(p_w:au):Option (au):=(CZ FU).m1 p_w
theorem ais:OU anb:=(CZ FU).ok1
def Z9(p_w:au):Mo (Bool):=
 .iG 8003 (decide ((2:Int)≤p_w.ay)) (.rt [1,16] 1 (decide ((p_w.ay:Int)≤7)))<|
 .stop
def alR(p_w:au):Mo (List au):=
 .iB (p_w.ay==8) (.stop)<|
 .jk Tryz.f21 0 [1,1,0,0] 13 (fun r_=>⟨[(1,.ptr 0 0),(16,.b_ r_)],[fA p_w]⟩) ⟨[(1,.ptr 0 0)],[fA p_w]⟩ (Z9 p_w) fun r0=>
 .iB (r0) (.ask (anb p_w) fun r1 h0=>
 .say [.res (.dat (au.lf1 r1)),.at_ 0 0,.uy 1 ([r1].map au.lf)] (okc (ais _ _ h0) (ok1 (by simp[au.aW]:[r1].map au.lf=[(au.lf1 r1)])))<|
 .ret (bn 1) ([r1]))<|
 .stop
def anc(p_w:au):Option (List au):=Mo.den (alR p_w)
theorem ait(p_w:au):FV (anc p_w) 21 [.dat (au.lf1 p_w)] (fun r=>.lf (.rows 78 (r.map au.lf))):=dL Tryz.func21
def alS(p_v:ah):Mo (Bool):=
 .iB (p_v.ay==0) (.stop)<|
 .cl (ny p_v) fun r0 _=>
 .ret (bn 1) (r0)
def an6(p_v:ah):Option (Bool):=Mo.den (alS p_v)
theorem aiu(p_v:ah):FV (an6 p_v) 104 [.dat (ah.lf1 p_v)] .b_:=dL Tryz.func104
abbrev Yb(m:ah→Option (List Int)):Prop:=∀p_v,FH (m p_v) 105 [.raw (.slice none 0 0),.dat (ah.lf1 p_v)] [] (fun _=>.own 0) (fun r=>[.row 5 1 (r.map (lfK .u8))])
abbrev OV(m:ah→(List Int)→Option (List Int)):Prop:=∀p_v p_s0,FH (m p_v p_s0) 105 [.own 0,.dat (ah.lf1 p_v)] [.row 5 1 (p_s0.map (lfK .u8))] (fun _=>.own 1) (fun r=>[.dead,.row 5 1 (r.map (lfK .u8))])
structure Ei where
 m1:(p_v:ah)→Option (List Int)
 ok1:Yb m1
 m2:(p_v:ah)→(p_s0:List Int)→Option (List Int)
 ok2:OV m2
def Vw(R_:Ei)(p_v:ah):Mo (((List Int))):=
 .stop
def aeU(R_:Ei)(p_v:ah):Mo (List Int):=
 .say [.rows ([IntKind.wrap .u8 p_v.ay].map (lfK .u8))] (ok1 (by simp[lfI,lfK]:[IntKind.wrap .u8 p_v.ay].map (lfK .u8)=[]++[((lfK .u8) (IntKind.wrap .u8 p_v.ay))]))<|
 .grd ((([]:List Int).length+[IntKind.wrap .u8 p_v.ay].length)*1≤140737488355328) fun h0=>
 .say [] (ok1 (by first|(simp;done)|simpa using h0:(([]:List (List Lf)).length+[((lfK .u8) (IntKind.wrap .u8 p_v.ay))].length)*1≤140737488355328))<|
 .jy [.kill 1] Tryz.f105 0 [1,1,0,1] 6 (.normal) (fun r_=>⟨[(0,.own 2)],[.dead,.dead,.row 5 1 (r_.map (lfK .u8))]⟩) ⟨[(0,.own 2),(3,.ptr 0 0),(19,.i_ p_v.ay)],[bK p_v,.dead,.row 5 1 ([IntKind.wrap .u8 p_v.ay].map (lfK .u8))]⟩ (Vw R_ p_v) fun r0=>
 .ret ⟨[.mvn 2],[0],[(3,0)],1⟩ (r0)
theorem aeV(R_:Ei):Yb fun p_v=>Mo.den (aeU R_ p_v):=fun _=>dQ Tryz.func105
def aeW(R_:Ei)(p_s0:List Int)(p_v:ah):Mo (Bool):=
 .iB (p_v.ay==3) (.rt [0,3,19,20] 4 (p_v.ay==3))<|
 .iB (p_v.ay==9) (.stop)<|
 .rt [0,3,19,20] 4 (p_v.ay==10)
def aeX(R_:Ei)(p_v:ah):(Int×(List Int))→Mo ((Int×(List Int))⊕((List Int))):=fun(v0,l0)=>
 .iB (decide ((0:Int)≤v0)) (.say [.rows ((l0++[IntKind.wrap .u8 (tX .u64 (dU .xor .u64 (IntKind.wrap .u64 p_v.dG) 9223372036854775808) v0)]).map (lfK .u8))] ok0<|
 .grd ((0:Int)≤v0) fun h0=>
 .say [] (okc h0 (ok1 (by simp[lfI,lfK]:(l0++[IntKind.wrap .u8 (tX .u64 (dU .xor .u64 (IntKind.wrap .u64 p_v.dG) 9223372036854775808) v0)]).map (lfK .u8)=(l0.map (lfK .u8))++[((lfK .u8) (IntKind.wrap .u8 (tX .u64 (dU .xor .u64 (IntKind.wrap .u64 p_v.dG) 9223372036854775808) v0)))])))<|
 .grd ((l0.length+[IntKind.wrap .u8 (tX .u64 (dU .xor .u64 (IntKind.wrap .u64 p_v.dG) 9223372036854775808) v0)].length)*1≤140737488355328) fun h1=>
 .say [] (ok1 (by simpa using h1:((l0.map (lfK .u8)).length+[((lfK .u8) (IntKind.wrap .u8 (tX .u64 (dU .xor .u64 (IntKind.wrap .u64 p_v.dG) 9223372036854775808) v0)))].length)*1≤140737488355328))<|
 .ret ⟨[],[0,5,6],[(5,3)],4⟩ (.inl (IntKind.wrap .i64 (v0-8),l0++[IntKind.wrap .u8 (tX .u64 (dU .xor .u64 (IntKind.wrap .u64 p_v.dG) 9223372036854775808) v0)])))<|
 .rt [0] 4 (.inr (l0))
def aac(R_:Ei)(p_s0:List Int)(p_v:ah):Mo (Bool):=
 .iB (p_v.ay==4) (.rt [0,3,19,39] 4 (p_v.ay==4))<|
 .stop
def aad(R_:Ei)(l0:List Int)(p_v:ah)(v0:Int):Mo (((List Int))):=
 .ask (jK p_v.fText v0) fun b0 h0=>
 .say [.byt b0,.rows ((l0++[(b0.toNat:Int)]).map (lfK .u8))] (okc (fC h0) (ok1 (by simp[lfI,lfK]:(l0++[(b0.toNat:Int)]).map (lfK .u8)=(l0.map (lfK .u8))++[((lfK .u8) (b0.toNat:Int))])))<|
 .grd ((l0.length+[(b0.toNat:Int)].length)*1≤140737488355328) fun h1=>
 .say [] (ok1 (by simpa using h1:((l0.map (lfK .u8)).length+[((lfK .u8) (b0.toNat:Int))].length)*1≤140737488355328))<|
 .ask (jK p_v.fText v0) fun b1 h2=>
 .say [.byt b1] (ok1 (fC h2))<|
 .iB ((b1.toNat:Int)==0) (.stop)<|
 .ret ⟨[],[0,3,45,46],[(5,3)],4⟩ (l0++[(b0.toNat:Int)])
def aae(R_:Ei)(p_v:ah):(Int×(List Int))→Mo ((Int×(List Int))⊕((List Int))):=fun(v0,l0)=>
 .iB (decide ((v0:Int)<(p_v.fText.size:Int))) (.jk Tryz.f105 1 [1,1,0,1,0,1,1,1,0,0,1,0,0,1,1,0] 14 (fun r_=>⟨[(0,.own 3),(3,.ptr 1 0),(45,.i_ (p_v.fText.size:Int)),(46,.i_ v0)],[.dead,bK p_v,.dead,.row 5 1 (r_.map (lfK .u8))]⟩) ⟨[(0,.own 3),(3,.ptr 1 0),(45,.i_ (p_v.fText.size:Int)),(46,.i_ v0)],[.dead,bK p_v,.dead,.row 5 1 (l0.map (lfK .u8))]⟩ (aad R_ l0 p_v v0) fun r0=>
 .rt [0,3,45,46] 4 (.inl (IntKind.wrap .i64 (v0+1),r0)))<|
 .ret ⟨[.kill 1],[0],[],4⟩ (.inr (l0))
def aaf(R_:Ei)(p_s0:List Int)(p_v:ah):Mo (((List Int))):=
 .jk Tryz.f105 1 [1,1,0,1,0,0,1] 1 (fun r_=>⟨[(0,.own 3),(3,.ptr 1 0),(19,.i_ p_v.ay),(20,.b_ r_)],[.dead,bK p_v,.dead,.row 5 1 ((p_s0++[IntKind.wrap .u8 p_v.ay]).map (lfK .u8))]⟩) ⟨[(0,.own 3),(3,.ptr 1 0),(19,.i_ p_v.ay),(20,.lf (.bool (p_v.ay==3)))],[.dead,bK p_v,.dead,.row 5 1 ((p_s0++[IntKind.wrap .u8 p_v.ay]).map (lfK .u8))]⟩ (aeW R_ p_s0 p_v) fun r0=>
 .iB (r0) (.l1y [.kill 1] Tryz.f105 1 [1,1,0,1,0,1,0,1,1,0] 0 (.exit 1) (fun(v0,l0)=>⟨[(0,.own 3),(5,.lf (.int .u64 (dU .xor .u64 (IntKind.wrap .u64 p_v.dG) 9223372036854775808))),(6,.i_ v0)],[.dead,.dead,.dead,.row 5 1 (l0.map (lfK .u8))]⟩) (fun r_=>⟨[(0,.own 3)],[.dead,.dead,.dead,.row 5 1 (r_.map (lfK .u8))]⟩) (aeX R_ p_v) (56,(p_s0++[IntKind.wrap .u8 p_v.ay])) fun r1=>
 .rt [0] 4 (r1))<|
 .jk Tryz.f105 1 [1,1,0,1,0,1,1,0,1] 1 (fun r_=>⟨[(0,.own 3),(3,.ptr 1 0),(19,.i_ p_v.ay),(39,.b_ r_)],[.dead,bK p_v,.dead,.row 5 1 ((p_s0++[IntKind.wrap .u8 p_v.ay]).map (lfK .u8))]⟩) ⟨[(0,.own 3),(3,.ptr 1 0),(19,.i_ p_v.ay),(39,.lf (.bool (p_v.ay==4)))],[.dead,bK p_v,.dead,.row 5 1 ((p_s0++[IntKind.wrap .u8 p_v.ay]).map (lfK .u8))]⟩ (aac R_ p_s0 p_v) fun r2=>
 .iB (r2) (.l1 Tryz.f105 1 [1,1,0,1,0,1,1,1,0,0,1,0] 0 (.exit 3) (fun(v1,l2)=>⟨[(0,.own 3),(3,.ptr 1 0),(45,.i_ (p_v.fText.size:Int)),(46,.i_ v1)],[.dead,bK p_v,.dead,.row 5 1 (l2.map (lfK .u8))]⟩) (fun r_=>⟨[(0,.own 3)],[.dead,.dead,.dead,.row 5 1 (r_.map (lfK .u8))]⟩) (aae R_ p_v) (0,(p_s0++[IntKind.wrap .u8 p_v.ay])) fun r3=>
 .say [.rows ((r3++[(0:Int),(0:Int)]).map (lfK .u8))] (ok1 (by simp[lfI,lfK]:(r3++[(0:Int),(0:Int)]).map (lfK .u8)=(r3.map (lfK .u8))++[((lfK .u8) (0:Int)),((lfK .u8) (0:Int))]))<|
 .grd ((r3.length+[(0:Int),(0:Int)].length)*1≤140737488355328) fun h0=>
 .say [] (ok1 (by simpa using h0:((r3.map (lfK .u8)).length+[((lfK .u8) (0:Int)),((lfK .u8) (0:Int))].length)*1≤140737488355328))<|
 .ret ⟨[],[0],[(5,3)],4⟩ (r3++[(0:Int),(0:Int)]))<|
 .stop
def ajO(R_:Ei)(p_v:ah)(p_s0:List Int):Mo (List Int):=
 .say [.rows ((p_s0++[IntKind.wrap .u8 p_v.ay]).map (lfK .u8))] (ok1 (by simp[lfI,lfK]:(p_s0++[IntKind.wrap .u8 p_v.ay]).map (lfK .u8)=(p_s0.map (lfK .u8))++[((lfK .u8) (IntKind.wrap .u8 p_v.ay))]))<|
 .grd ((p_s0.length+[IntKind.wrap .u8 p_v.ay].length)*1≤140737488355328) fun h0=>
 .say [] (ok1 (by simpa using h0:((p_s0.map (lfK .u8)).length+[((lfK .u8) (IntKind.wrap .u8 p_v.ay))].length)*1≤140737488355328))<|
 .jy [.kill 2] Tryz.f105 1 [1,1,0,1] 6 (.normal) (fun r_=>⟨[(0,.own 3)],[.dead,.dead,.dead,.row 5 1 (r_.map (lfK .u8))]⟩) ⟨[(0,.own 3),(3,.ptr 1 0),(19,.i_ p_v.ay)],[.dead,bK p_v,.dead,.row 5 1 ((p_s0++[IntKind.wrap .u8 p_v.ay]).map (lfK .u8))]⟩ (aaf R_ p_s0 p_v) fun r0=>
 .ret ⟨[.mvn 3],[0],[(4,1)],2⟩ (r0)
theorem aiv(R_:Ei):OV fun p_v p_s0=>Mo.den (ajO R_ p_v p_s0):=fun _ _=>dQ Tryz.func105
def C9:Nat→Ei
 |0=>{ m1:=fun p_v=>none,ok1:=fun _ _ h=>(by cases h),m2:=fun p_v p_s0=>none,ok2:=fun _ _ _ h=>(by cases h) }
 |n_+1=>{ m1:=fun p_v=>Mo.den (aeU (C9 n_) p_v),ok1:=aeV (C9 n_),m2:=fun p_v p_s0=>Mo.den (ajO (C9 n_) p_v p_s0),ok2:=aiv (C9 n_) }
def Q41(p_v:ah)(p_s0:List Int):Option (List Int):=(C9 FU).m2 p_v p_s0
theorem alT:OV Q41:=(C9 FU).ok2
def Tc(l0:List Int)(p_desc:List Bool)(p_l:List ah)(v0:Int):Mo (Unit⊕((List Int))):=
 .gx ah.aW p_l v0 fun x0 _=>
 .cl (aiu x0) fun r0 _=>
 .iB (!r0) (.stop)<|
 .say [.num l0.length,.at_ 22 2,.tod 29] (ok1 (by simp:l0.length=(l0.map (lfK .u8)).length))<|
 .cH [0] (alT x0 l0) fun r1 _=>
 .ask (qc p_desc v0) fun x1 h0=>
 .say [.row (lfB x1)] (ok1 (lS (fun _=>rfl) h0:(0:Int)≤v0∧(p_desc.map lfB)[v0.toNat]?=some (lfB x1)))<|
 .iB (x1) (.stop)<|
 .ret ⟨[.kill 1],[1,6,16,17,18],[(2,0)],3⟩ (.inr (r1))
def aeY(l0:List Int)(p_desc:List Bool)(p_l:List ah)(v0:Int):Option (Unit⊕((List Int))):=Mo.den (Tc l0 p_desc p_l v0)
def GX(r_:Unit⊕((List Int))):Exit:=match r_ with
 |.inl o_=>.ret
 |.inr (o_)=>.normal
def GY(p_desc:List Bool)(p_l:List ah)(v0:Int)(r_:Unit⊕((List Int))):St:=match r_ with
 |.inl o_=>⟨[(4,.lf (.str ⟨#[]⟩)),(5,.i_ 8)],[.dead]⟩
 |.inr (o_)=>⟨[(1,.lf (.rows 1 (p_desc.map lfB))),(6,.own 0),(16,.lf (.rows 5 (p_l.map ah.lf))),(17,.i_ (p_l.length:Int)),(18,.i_ v0)],[.row 5 1 (o_.map (lfK .u8)),.dead,.dead]⟩
theorem aeZ{l0:List Int}{p_desc:List Bool}{p_l:List ah}{v0:Int}{r_:Unit⊕((List Int))}(h:aeY l0 p_desc p_l v0=some r_):Ql Tryz.f50 0 [1,1,1,0,1,0,0,1,1,0] (GX r_) (GY p_desc p_l v0 r_) ⟨[(1,.lf (.rows 1 (p_desc.map lfB))),(6,.own 0),(16,.lf (.rows 5 (p_l.map ah.lf))),(17,.i_ (p_l.length:Int)),(18,.i_ v0)],[.row 5 1 (l0.map (lfK .u8))]⟩:=
 BN nN (Tc l0 p_desc p_l v0) GX (GY p_desc p_l v0) (by kernel_rfl) h
def Ll(p_desc:List Bool)(p_l:List ah):(Int×(List Int))→Mo ((Int×(List Int))⊕(Unit⊕((List Int)))):=fun(v0,l0)=>
 .iB (decide ((v0:Int)<(p_l.length:Int))) (.kL (aeY l0 p_desc p_l v0) (fun _ _=>
 .stop) fun o0 h0=>
 .say [.pt_ 8 [1,6,16,17,18] 1 (GX (.inr (o0))) (GY p_desc p_l v0 (.inr (o0)))] (ok1 (aeZ h0))<|
 .rt [1,6,16,17,18] 1 (.inl (IntKind.wrap .i64 (v0+1),o0)))<|
 .rt [6] 1 (.inr (.inr (l0)))
def Yc(p_desc:List Bool)(p_l:List ah)(v0:Int)(l0:List Int):Option (Unit⊕((List Int))):=dM (fun v_=>(Ll p_desc p_l v_).den) FU (v0,l0)
def Lm(p_desc:List Bool)(p_l:List ah):(Int×(List Int))→St:=fun(v0,l0)=>⟨[(1,.lf (.rows 1 (p_desc.map lfB))),(6,.own 0),(16,.lf (.rows 5 (p_l.map ah.lf))),(17,.i_ (p_l.length:Int)),(18,.i_ v0)],[.row 5 1 (l0.map (lfK .u8))]⟩
def Dc(r_:Unit⊕((List Int))):Exit:=match r_ with
 |.inl o_=>.ret
 |.inr (o_)=>.exit 0
def wR  (r_:Unit⊕((List Int))):St:=match r_ with
 |.inl o_=>⟨[(4,.lf (.str ⟨#[]⟩)),(5,.i_ 8)],[.dead]⟩
 |.inr (o_)=>⟨[(6,.own 0)],[.row 5 1 (o_.map (lfK .u8))]⟩
theorem aag{p_desc:List Bool}{p_l:List ah}{v0:Int}{l0:List Int}{r_:Unit⊕((List Int))}(h:Yc p_desc p_l v0 l0=some r_):Ql Tryz.f50 0 [1,1,1,0,1,0] (Dc r_) (wR r_) (Lm p_desc p_l (v0,l0)):=
 Uw nN (body:=(Code.sub (bodyC Tryz.f50) [1,1,1,0,1,0,0])) (by kernel_rfl) (Ll p_desc p_l) (Lm p_desc p_l) Dc wR (fun r_=>by rcases r_ with _|_<;>rfl) (fun v_=>by kernel_rfl) h
def ane(p_l:List ah)(p_desc:List Bool):Mo (ByteArray×Int):=
 .nu p_l ah.lf<|
 .nu p_desc lfB<|
 .iB ((p_l.length:Int) != (p_desc.length:Int)) (.stop)<|
 .say [.num p_l.length] (okc (ln_ p_l ah.lf) (ok1 (by simp[lfI,lfK]:(([]:List Int).map (lfK .u8))=[])))<|
 .kL (Yc p_desc p_l 0 ([]:List Int)) (fun _ _=>
 .stop) fun o0 h0=>
 .say [.part [.rG 6 5 1,.kU 0 (([]:List Int).map (lfK .u8))] 0 [1,6,16,17,18] 1 (Dc (.inr (o0))) (wR (.inr (o0))).T (wR (.inr (o0))).H,.nums o0] (okc (aag h0) (ok1 (by simp[lfI,lfK]:(o0.map (lfK .u8))=o0.map fun n=>[Lf.int .u8 n])))<|
 .ret (bn 2) (strOfNums o0,0)
def Q22(p_l:List ah)(p_desc:List Bool):Option (ByteArray×Int):=Mo.den (ane p_l p_desc)
theorem alU(p_l:List ah)(p_desc:List Bool):FV (Q22 p_l p_desc) 50 [.lf (.rows 5 (p_l.map ah.lf)),.lf (.rows 1 (p_desc.map lfB))] (fun r=>.tup [.lf (.str r.1),.i_ r.2]):=dL Tryz.func50
def aah(p_w:au):Mo (Bool):=
 .iG 6003 (p_w.ay==8) (.stop)<|
 .rt [1,3,19] 2 (p_w.ay==9)
def aai(p_w:au)(r0:Bool):Mo (((List au))):=
 .iB (r0) (.stop)<|
 .say [] (ok1 (by simp[au.aW]:[p_w].map au.lf=[(au.lf1 p_w)]))<|
 .ret ⟨[.uy 1 ([p_w].map au.lf),.kill 0],[3],[],2⟩ ([p_w])
def Vx(l0:List ByteArray)(r0:((List au)))(v0:Int)(x0:au):Mo (Bool):=
 .iG 18003 (x0.ay != 2) (.stop)<|
 .rt [4,6,22,23,24,35] 4 (false)
def Vy(l0:List ByteArray)(r0:((List au)))(v0:Int):Mo (((List ByteArray))):=
 .gx au.aW r0 v0 fun x0 _=>
 .jk Tryz.f24 0 [1,1,1,1,0,1,0,0,1,1,0,0,1,0,0] 23 (fun r_=>⟨[(4,.own 2),(6,.ptr 3 0),(22,.lf (.rows 78 (r0.map au.lf))),(23,.i_ (r0.length:Int)),(24,.i_ v0),(35,.b_ r_)],[.dead,.dead,.row 9 1 (l0.map lfS),.box 49 (.agg ((au.lf1 x0).map AV.lf))]⟩) ⟨[(4,.own 2),(6,.ptr 3 0),(22,.lf (.rows 78 (r0.map au.lf))),(23,.i_ (r0.length:Int)),(24,.i_ v0)],[.dead,.dead,.row 9 1 (l0.map lfS),.box 49 (.agg ((au.lf1 x0).map AV.lf))]⟩ (Vx l0 r0 v0 x0) fun r1=>
 .iB (r1) (.stop)<|
 .say [.at_ 22 5,.uy 5 ([ah.mk 4 0 x0.fE [] [],x0.ig].map ah.lf),.uy 6 ([false,false].map lfB)] (okc (by simp[ah.aW]:[ah.mk 4 0 x0.fE [] [],x0.ig].map ah.lf=[(ah.lf1 (ah.mk 4 0 x0.fE [] [])),(ah.lf1 x0.ig)]) (ok1 (by simp[lfB]:[false,false].map lfB=[(lfB false),(lfB false)])))<|
 .cl (alU [ah.mk 4 0 x0.fE [] [],x0.ig] [false,false]) fun r2 _=>
 .iB (r2.2==0) (.say [.rows ((l0++[r2.1]).map lfS)] (ok1 (by simp[lfS]:(l0++[r2.1]).map lfS=(l0.map lfS)++[(lfS r2.1)]))<|
 .grd ((l0.length+[r2.1].length)*16≤140737488355328) fun h0=>
 .say [] (ok1 (cp_ lfS h0))<|
 .ret ⟨[],[4,22,23,24],[(8,2)],3⟩ (l0++[r2.1]))<|
 .stop
def Vz(r0:((List au))):(Int×(List ByteArray))→Mo ((Int×(List ByteArray))⊕((List ByteArray))):=fun(v0,l0)=>
 .iB (decide ((v0:Int)<(r0.length:Int))) (.jk Tryz.f24 0 [1,1,1,1,0,1,0,0,1,1,0] 8 (fun r_=>⟨[(4,.own 2),(22,.lf (.rows 78 (r0.map au.lf))),(23,.i_ (r0.length:Int)),(24,.i_ v0)],[.dead,.dead,.row 9 1 (r_.map lfS)]⟩) ⟨[(4,.own 2),(22,.lf (.rows 78 (r0.map au.lf))),(23,.i_ (r0.length:Int)),(24,.i_ v0)],[.dead,.dead,.row 9 1 (l0.map lfS)]⟩ (Vy l0 r0 v0) fun r1=>
 .rt [4,22,23,24] 3 (.inl (IntKind.wrap .i64 (v0+1),r1)))<|
 .rt [4] 3 (.inr (l0))
def alV(p_w:au):Mo (List ByteArray):=
 .jk Tryz.f24 0 [1,1,0,0] 11 (fun r_=>⟨[(1,.ptr 0 0),(3,.own 1),(19,.b_ r_)],[fA p_w,.row 49 78 [(au.lf1 p_w)]]⟩) ⟨[(1,.ptr 0 0),(3,.own 1)],[fA p_w,.row 49 78 [(au.lf1 p_w)]]⟩ (aah p_w) fun r0=>
 .jk Tryz.f24 0 [1,1,0,1] 1 (fun r_=>⟨[(3,.lf (.rows 78 (r_.map au.lf)))],[.dead,.dead]⟩) ⟨[(1,.ptr 0 0),(3,.own 1),(19,.b_ r0)],[fA p_w,.row 49 78 [(au.lf1 p_w)]]⟩ (aai p_w r0) fun r1=>
 .say [.num r1.length] (okc (ln_ r1 au.lf) (ok1 (by simp[lfS]:(([]:List ByteArray).map lfS)=[])))<|
 .l1y [.rG 4 9 1,.kU 2 (([]:List ByteArray).map lfS)] Tryz.f24 0 [1,1,1,1,0,1,0] 0 (.exit 0) (fun(v0,l0)=>⟨[(4,.own 2),(22,.lf (.rows 78 (r1.map au.lf))),(23,.i_ (r1.length:Int)),(24,.i_ v0)],[.dead,.dead,.row 9 1 (l0.map lfS)]⟩) (fun r_=>⟨[(4,.own 2)],[.dead,.dead,.row 9 1 (r_.map lfS)]⟩) (Vz r1) (0,([]:List ByteArray)) fun r2=>
 .cH [2] (agn r2) fun r3 _=>
 .ask (amu r3) fun r4 h0=>
 .say [.gy [2] (.own 1) [.dead,.row 9 1 (r4.map lfS)],.at_ 0 0,.frz 3] (ok1 (agp _ _ h0))<|
 .ret (bn 1) (r4)
def anf(p_w:au):Option (List ByteArray):=Mo.den (alV p_w)
theorem aiw(p_w:au):FV (anf p_w) 24 [.dat (au.lf1 p_w)] (fun r=>.lf (.rows 1 (r.map lfS))):=dL Tryz.func24
def aaj(p_a:bW)(p_b:bW):Mo (Bool):=
 .iG 4005 (decide ((p_b.nM:Int)<p_a.nM)) (.stop)<|
 .iG 4011 (p_a.nM==p_b.nM) (.ret ⟨[.kill 0,.kill 1],[4,23],[],2⟩ (decide ((p_b.dO:Int)≤p_a.dO)))<|
 .stop
def aak(r0:Bool):Mo (Unit):=
 .rt [4] 2 ()
def alW(p_a:bW)(p_b:bW):Mo (Bool):=
 .sk Tryz.f19 0 [1,0] 0 19 1 (fun r_=>⟨[(4,.b_ false),(23,.b_ r_)],[.dead,.dead]⟩) ⟨[(2,.ptr 0 0),(3,.ptr 1 0),(4,.b_ false)],[xR p_a,xR p_b]⟩ (aaj p_a p_b) fun r0=>
 .sk Tryz.f19 0 [1,0] 19 1 1 (fun r_=>⟨[(4,.b_ r0)],[.dead,.dead]⟩) ⟨[(4,.b_ false),(23,.b_ r0)],[.dead,.dead]⟩ (aak r0) fun r1=>
 .ret (bn 1) (r0)
def an7(p_a:bW)(p_b:bW):Option (Bool):=Mo.den (alW p_a p_b)
theorem Yd(p_a:bW)(p_b:bW):FV (an7 p_a p_b) 19 [.dat (bW.lf1 p_a),.dat (bW.lf1 p_b)] .b_:=dL Tryz.func19
theorem an8:YH (opsOf (Code.sub (bodyC Tryz.f13) [1,1,1,1,1,1,0])) [(true,0),(false,1),(true,2),(true,3),(false,4),(false,5),(true,6),(true,7),(true,8),(true,9),(false,10),(true,11),(true,12),(true,13),(true,14),(true,15),(true,16),(true,17),(true,18),(true,19),(true,20),(true,21),(true,22),(true,23),(true,24),(true,25),(true,26),(true,27),(false,28),(true,29),(true,30),(true,31),(true,32),(true,33),(true,34),(true,35),(true,36),(true,37),(true,38),(true,39),(true,40),(false,41),(true,42),(true,43),(true,44),(true,45),(true,46),(false,47),(true,48),(true,49),(true,50),(true,51),(true,52),(true,53),(false,54),(true,55),(true,56),(true,57),(true,58),(true,59),(true,60),(false,61),(true,62),(true,63),(true,65),(false,64),(false,66),(true,67),(true,68),(true,69)] none=true:=by kernel_rfl
def alX :Mo (Bool):=
 .cl (Np 5 1 1) fun r0 _=>
 .cl (EK r0) fun r1 _=>
 .cl (Ot r1.1) fun r2 _=>
 .cl (Ot ⟨#[]⟩) fun r3 _=>
 .ask (ady (bW.mk 1 5 ⟨#[]⟩ 0 (au.DJ au.z 1))) fun r4 h0=>
 .say [.res (.tup [.lf (.str r4.1),.i_ r4.2]),.LW [(true,0),(false,1),(true,2),(true,3),(false,4),(false,5),(true,6),(true,7),(true,8),(true,9),(false,10),(true,11),(true,12),(true,13),(true,14),(true,15),(true,16),(true,17),(true,18),(true,19),(true,20),(true,21),(true,22),(true,23),(true,24),(true,25),(true,26),(true,27),(false,28),(true,29),(true,30),(true,31),(true,32),(true,33),(true,34),(true,35),(true,36),(true,37),(true,38),(true,39),(true,40),(false,41),(true,42),(true,43),(true,44),(true,45),(true,46),(false,47),(true,48),(true,49),(true,50),(true,51),(true,52),(true,53),(false,54),(true,55),(true,56),(true,57),(true,58),(true,59),(true,60),(false,61),(true,62),(true,63),(true,65),(false,64),(false,66),(true,67),(true,68),(true,69)] none []] (okc (EK _ _ h0) (ok1 an8))<|
 .cl (NI r0) fun r5 _=>
 .iG 14003 (r5==0) (.cl (Np 5 2 1) fun r6 _=>
 .cl (NI r6) fun r7 _=>
 .iG 14008 (r7==8) (.cl (NI (bW.mk (-1) 0 ⟨#[]⟩ 0 au.z)) fun r8 _=>
 .iG 14013 (r8==24) (.iG 14017 (r1.2==0) (.iG 14021 (r2.2==0) (.iG 14025 (r3.2==4) (.cl (XZ r2.1 r0) fun r9 _=>
 .iG 14030 (r9) (.iG 14034 (r4.2==0) (.iG 14039 (decide ((5:Int)<(r4.1.size:Int))) (.grd ((0:Int)≤0∧(0:Int)≤5∧5≤(r4.1.size:Int)) fun h1=>
 .say [] (ok1 h1)<|
 .iG 14044 (decide ((r4.1.extract (0:Int).toNat (5:Int).toNat:ByteArray)=(⟨#[2,10,0,0,2]⟩:ByteArray))) (.ask (anc r0.fG) fun r10 h2=>
 .say [.res (.lf (.rows 78 (r10.map au.lf))),.num r10.length] (okc (ait _ _ h2) (ok1 (ln_ r10 au.lf)))<|
 .iG 14051 ((r10.length:Int)==1) (.ask (anf r0.fG) fun r11 h3=>
 .say [.res (.lf (.rows 1 (r11.map lfS))),.num r11.length] (okc (aiw _ _ h3) (ok1 (ln_ r11 lfS)))<|
 .iG 14058 ((r11.length:Int)==1) (.cl (Yd r0 r0) fun r12 _=>
 .iG 14063 (r12) (.cl (Np 4 1 1) fun r13 _=>
 .cl (Yd r13 r0) fun r14 _=>
 .ret (bn 1) (!r14))<|
 .stop)<|
 .stop)<|
 .stop)<|
 .stop)<|
 .stop)<|
 .stop)<|
 .stop)<|
 .stop)<|
 .stop)<|
 .stop)<|
 .stop)<|
 .stop)<|
 .stop
def ang :Option (Bool):=Mo.den (alX )
theorem OW:FV (ang ) 13 [] .b_:=dL Tryz.func13
def ae0(p_w:au):Mo (Bool):=
 .nu p_w.bQ au.lf<|
 .ret (bn 1) (decide ((300:Int)<(p_w.bQ.length:Int)))
def anh(p_w:au):Option (Bool):=Mo.den (ae0 p_w)
theorem aix(p_w:au):FV (anh p_w) 28 [.dat (au.lf1 p_w)] .b_:=dL Tryz.func28
def AB(p_s:List au):(Int)→Mo ((Int)⊕(Int)⊕Unit):=fun(v0)=>
 .iB (decide ((v0:Int)<(p_s.length:Int))) (.gx au.aW p_s v0 fun x0 _=>
 .cl (aix x0) fun r0 _=>
 .iB (r0) (.rt [4] 0 (.inr (.inl (v0))))<|
 .rt [0,1,7,8] 0 (.inl (IntKind.wrap .i64 (v0+1))))<|
 .rt [] 0 (.inr (.inr (())))
def VA(p_s:List au)(v0:Int):Option ((Int)⊕Unit):=dM (fun v_=>(AB p_s v_).den) FU (v0)
def ajP(p_s:List au):Mo (Int):=
 .nu p_s au.lf<|
 .l2m [] Tryz.f55 0 [1,0,1,0] 0 (fun(v0)=>⟨[(0,.lf (.rows 78 (p_s.map au.lf))),(1,.raw (.func (.func 28) #[] #[])),(7,.i_ (p_s.length:Int)),(8,.i_ v0)],[]⟩) .ret (fun o_=>⟨[(4,.i_ o_)],[]⟩) (.exit 0) (fun _=>⟨[],[]⟩) (VA p_s 0) (AB p_s) (0) (fun o0=>
 .rt [0] 0 (o0)) fun o1=>
 .rt [0] 0 ((-1))
def Q38(p_s:List au):Option (Int):=Mo.den (ajP p_s)
theorem alY(p_s:List au):FH (Q38 p_s) 55 [.lf (.rows 78 (p_s.map au.lf)),.raw (.func (.func 28) #[] #[])] [] .i_ (fun _=>[]):=dQ Tryz.func55
def ae1(p_s:List au):Mo (Bool):=
 .cH [] (alY p_s) fun r0 _=>
 .rt [0] 0 (decide ((0:Int)≤r0))
def ani(p_s:List au):Option (Bool):=Mo.den (ae1 p_s)
theorem aiy(p_s:List au):FH (ani p_s) 27 [.lf (.rows 78 (p_s.map au.lf)),.raw (.func (.func 28) #[] #[])] [] .b_ (fun _=>[]):=dQ Tryz.func27
def ae2(p_e:bW):Mo (Bool):=
 .nu p_e.fG.bQ au.lf<|
 .iG 4005 (decide (((p_e.fG.bQ.length:Int):Int)≤300)) (.cH [] (aiy p_e.fG.bQ) fun r0 _=>
 .ret (bn 1) (!r0))<|
 .ret (bn 1) (false)
def alZ(p_e:bW):Option (Bool):=Mo.den (ae2 p_e)
theorem aiz(p_e:bW):FV (alZ p_e) 10 [.dat (bW.lf1 p_e)] .b_:=dL Tryz.func10
def Lp(r0:ByteArray×Int):Mo (Bool):=
 .aC 12002 (decide ((r0.1:ByteArray)=(⟨#[]⟩:ByteArray))) [2] 1 (OW)
def ae3(p_e:bW):Mo (Bool):=
 .cl (aiz p_e) fun r0 _=>
 .iB (!r0) (.cl (OW) fun r1 _=>
 .ret (bn 1) (r1))<|
 .cl (EK p_e) fun r2 _=>
 .iB (r2.2 != 0) (.jy [.kill 0] Tryz.f6 0 [1,1,1,0,1,0,0] 17 (.normal) (fun r_=>⟨[(2,.b_ r_)],[.dead]⟩) ⟨[(3,.lf (.str r2.1))],[.dead]⟩ (Lp r2) fun r3=>
 .ret (bn 1) (r3))<|
 .cl (Ot r2.1) fun r4 _=>
 .iG 16002 (r4.2==0) (.cl (XZ p_e r4.1) fun r5 _=>
 .iG 16007 (r5) (.cl (OW) fun r6 _=>
 .ret (bn 1) (r6))<|
 .ret (bn 1) (false))<|
 .ret (bn 1) (false)
def al0(p_e:bW):Option (Bool):=Mo.den (ae3 p_e)
theorem aiA(p_e:bW):FV (al0 p_e) 6 [.dat (bW.lf1 p_e)] .b_:=dL Tryz.func6
end
end Go.Proofs.YtflpefkohpjjpaaGreatDoor
set_option linter.unusedSimpArgs false
set_option linter.unusedVariables false
namespace Go.Proofs.YtflpefkohpjjpaaGreatDoor
open Go.RowKit
set_option maxRecDepth 20000
set_option maxHeartbeats 4000000
noncomputable section
abbrev aiB(m:ah→ah→Option (Int)):Prop:=∀p_a p_b,FV (m p_a p_b) 125 [.dat (ah.lf1 p_a),.dat (ah.lf1 p_b)] .i_
structure aoe where
 m1:(p_a:ah)→(p_b:ah)→Option (Int)
 ok1:aiB m1
abbrev aiC(m:aO→Int→Int→Option (Int)):Prop:=∀p_p p_levels p_left,FV (m p_p p_levels p_left) 198 [.dat (aO.lf1 p_p),.i_ p_levels,.i_ p_left] .i_
structure aof where
 m1:(p_p:aO)→(p_levels:Int)→(p_left:Int)→Option (Int)
 ok1:aiC m1
abbrev aiD(m:ah→ah→Option (Bool)):Prop:=∀p_a p_b,FV (m p_a p_b) 200 [.dat (ah.lf1 p_a),.dat (ah.lf1 p_b)] .b_
structure aog where
 m1:(p_a:ah)→(p_b:ah)→Option (Bool)
 ok1:aiD m1
abbrev aiE(m:aS→Int→Int→Option (Int×Int)):Prop:=∀p_e p_number p_level,FV (m p_e p_number p_level) 321 [.dat (aS.lf1 p_e),.i_ p_number,.i_ p_level] (fun r=>.tup [.i_ r.1,.i_ r.2])
structure aoh where
 m1:(p_e:aS)→(p_number:Int)→(p_level:Int)→Option (Int×Int)
 ok1:aiE m1
abbrev aiF(m:aO→Bool→Option (Int)):Prop:=∀p_p p_elem,FV (m p_p p_elem) 199 [.dat (aO.lf1 p_p),.b_ p_elem] .i_
structure aoi where
 m1:(p_p:aO)→(p_elem:Bool)→Option (Int)
 ok1:aiF m1
abbrev aiG(m:aS→aS→Option (Bool)):Prop:=∀p_a p_b,FV (m p_a p_b) 201 [.dat (aS.lf1 p_a),.dat (aS.lf1 p_b)] .b_
structure aoj where
 m1:(p_a:aS)→(p_b:aS)→Option (Bool)
 ok1:aiG m1
end
end Go.Proofs.YtflpefkohpjjpaaGreatDoor
set_option linter.unusedSimpArgs false
set_option linter.unusedVariables false
namespace Go.Proofs.YtflpefkohpjjpaaGreatDoor
open Go.RowKit
set_option maxRecDepth 20000
set_option maxHeartbeats 4000000
noncomputable section
abbrev aiH(m:aI→Int→Int→Option (Int×Int)):Prop:=∀p_s p_number p_level,FV (m p_s p_number p_level) 196 [.dat (aI.lf1 p_s),.i_ p_number,.i_ p_level] (fun r=>.tup [.i_ r.1,.i_ r.2])
structure aok where
 m1:(p_s:aI)→(p_number:Int)→(p_level:Int)→Option (Int×Int)
 ok1:aiH m1
end
end Go.Proofs.YtflpefkohpjjpaaGreatDoor
set_option linter.unusedSimpArgs false
set_option linter.unusedVariables false
namespace Go.Proofs.YtflpefkohpjjpaaGreatDoor
open Go.RowKit
theorem qM(s:ByteArray)(k:Nat)(h:k<s.size):jK s (k:Int)=some s[k]:=by
 unfold jK;rw[if_pos (by omega),Int.toNat_natCast];exact getElem?_pos s k h
theorem dA{α:Type}(f:α→List Lf){x:α}:∀{l:List α},x∈l→aP (f x)≤bP (l.map f)
 |y::r,h=>by
  simp only[List.map_cons,bP]
  rcases List.mem_cons.1 h with rfl|h
  ·omega
  ·have:=dA f h;omega
theorem iH{α:Type}(f:α→List Lf)(hf:∀x,1≤aP (f x)):∀l:List α,l.length≤bP (l.map f)
 |[]=>by simp
 |x::r=>by have:=iH f hf r;have:=hf x;simp only[List.map_cons,List.length_cons,bP];omega
theorem dh(v:ah):aP v.lf1=5+v.fText.size+bP (v.aU.map ah.lf)+bP (v.aY.map aJ.lf):=by simp only[ah.lf1,aP,Lf.bulk];omega
theorem eF(v:aJ):aP v.lf1=1+v.fName.size+aP v.fValue.lf1:=by simp only[aJ.lf1,gI,aP,Lf.bulk];omega
theorem lu(v:bf):aP v.lf1=2+bP (v.cZ.map lfS):=by simp only[bf.lf1,aP,Lf.bulk];omega
theorem qo(v:bM):aP v.lf1=2:=by simp only[bM.lf1,aP,Lf.bulk]
theorem nV(v:dZ):aP v.lf1=3+bP (v.dD.map bM.lf):=by simp only[dZ.lf1,aP,Lf.bulk];omega
theorem jU(v:aS):aP v.lf1=6+bP (v.cZ.map lfS)+v.fName.size+bP (v.fK.map lfS)+aP v.fArg.lf1+bP (v.bV.map aS.lf):=by simp only[aS.lf1,gI,aP,Lf.bulk];omega
theorem gZ(v:aO):aP v.lf1=6+bP (v.cZ.map lfS)+aP v.fArg.lf1+bP (v.fArgs.map ah.lf)+aP v.dH.lf1+aP v.fExpr.lf1+bP (v.bV.map aO.lf):=by simp only[aO.lf1,gI,aP,Lf.bulk];omega
theorem jr(v:aQ):aP v.lf1=6+v.fName.size+bP (v.fQ.map bf.lf)+aP v.bF.lf1:=by simp only[aQ.lf1,gI,aP,Lf.bulk];omega
theorem mP(v:bH):aP v.lf1=1+v.fName.size+aP v.aZ.lf1:=by simp only[bH.lf1,gI,aP,Lf.bulk];omega
theorem iq(v:aI):aP v.lf1=11+aP v.kE.lf1+aP v.kF.lf1+bP (v.jL.map ah.lf)+bP (v.dK.map lfS)+bP (v.dN.map bH.lf)+bP (v.dP.map aI.lf):=by simp only[aI.lf1,gI,aP,Lf.bulk];omega
theorem mF(v:bY):aP v.lf1=4+v.fName.size+bP (v.bZ.map aQ.lf)+aP v.aZ.lf1:=by simp only[bY.lf1,gI,aP,Lf.bulk];omega
theorem jv(v:au):aP v.lf1=7+v.fE.size+aP v.ig.lf1+aP v.aY.lf1+aP v.dF.lf1+aP v.dB.lf1+aP v.aX.lf1+v.kX.size+bP (v.bQ.map au.lf)+bP (v.dI.map lfI):=by simp only[au.lf1,gI,aP,Lf.bulk];omega
theorem mG(v:bW):aP v.lf1=4+v.jq.size+aP v.fG.lf1:=by simp only[bW.lf1,gI,aP,Lf.bulk];omega
theorem VB(s:ByteArray):aP (lfS s)=s.size+1:=by simp only[lfS,aP,Lf.bulk,Nat.add_zero]
theorem ae4(n:Int):aP (lfI n)=1:=by simp only[lfI,aP,Lf.bulk]
theorem gV(l:List ah):l.length≤bP (l.map ah.lf):=iH _ (fun x=>by rw[ah.aW,dh];omega) l
theorem fZ(l:List aJ):l.length≤bP (l.map aJ.lf):=iH _ (fun x=>by rw[aJ.aW,eF];omega) l
theorem mJ(l:List bf):l.length≤bP (l.map bf.lf):=iH _ (fun x=>by rw[bf.aW,lu];omega) l
theorem sZ(l:List bM):l.length≤bP (l.map bM.lf):=iH _ (fun x=>by have:=qo x;rw[bM.aW];omega) l
theorem pX(l:List aS):l.length≤bP (l.map aS.lf):=iH _ (fun x=>by rw[aS.aW,jU];omega) l
theorem mQ(l:List aO):l.length≤bP (l.map aO.lf):=iH _ (fun x=>by rw[aO.aW,gZ];omega) l
theorem jZ(l:List aQ):l.length≤bP (l.map aQ.lf):=iH _ (fun x=>by rw[aQ.aW,jr];omega) l
theorem pY(l:List bH):l.length≤bP (l.map bH.lf):=iH _ (fun x=>by rw[bH.aW,mP];omega) l
theorem mV(l:List aI):l.length≤bP (l.map aI.lf):=iH _ (fun x=>by rw[aI.aW,iq];omega) l
theorem nX(l:List au):l.length≤bP (l.map au.lf):=iH _ (fun x=>by rw[au.aW,jv];omega) l
theorem gJ(l:List ByteArray):l.length≤bP (l.map lfS):=iH _ (fun x=>by rw[VB];omega) l
theorem vG(l:List Int):l.length≤bP (l.map lfI):=iH _ (fun x=>by rw[ae4];omega) l
theorem jm{x:ah}{l:List ah}(h:x∈l):aP x.lf1≤bP (l.map ah.lf):=by rw[←ah.aW];exact dA _ h
theorem gq{x:aJ}{l:List aJ}(h:x∈l):aP x.lf1≤bP (l.map aJ.lf):=by rw[←aJ.aW];exact dA _ h
theorem wS{x:bf}{l:List bf}(h:x∈l):aP x.lf1≤bP (l.map bf.lf):=dA _ h
theorem GZ{x:aS}{l:List aS}(h:x∈l):aP x.lf1≤bP (l.map aS.lf):=by rw[←aS.aW];exact dA _ h
theorem vH{x:aO}{l:List aO}(h:x∈l):aP x.lf1≤bP (l.map aO.lf):=by rw[←aO.aW];exact dA _ h
theorem wU{x:aQ}{l:List aQ}(h:x∈l):aP x.lf1≤bP (l.map aQ.lf):=dA _ h
theorem AO{x:bH}{l:List bH}(h:x∈l):aP x.lf1≤bP (l.map bH.lf):=by rw[←bH.aW];exact dA _ h
theorem yI{x:aI}{l:List aI}(h:x∈l):aP x.lf1≤bP (l.map aI.lf):=by rw[←aI.aW];exact dA _ h
theorem Df{x:au}{l:List au}(h:x∈l):aP x.lf1≤bP (l.map au.lf):=by rw[←au.aW];exact dA _ h
theorem EM{x:ByteArray}{l:List ByteArray}(h:x∈l):x.size+1≤bP (l.map lfS):=by rw[←VB];exact dA _ h
theorem tq(x:Int):(strOfNums [x]).size=1:=by rw[BD];rfl
theorem Ye(n:Int):∃r,Q40 n=some r∧r.size≤11:=by
 unfold Q40 ajE SX Lj SY
 simp only[Mo.den,aA,aG,aF,aH]
 have key:∀a:Int,∃r,((dM (fun v_:Int×ByteArray×Int=>(bif decide ((v_.2.2:Int)<10) then some (decide ((128:Int)≤v_.1)) else some false).bind fun a_1=>bif a_1 then if v_.2.1.size+(strOfNums [dU .or .u8 (IntKind.wrap .u8 (Int.tmod v_.1 128)) 128]).size≤9223372036854775807 then some (.inl (IntKind.wrap .u64 (Int.tdiv v_.1 128),v_.2.1++strOfNums [dU .or .u8 (IntKind.wrap .u8 (Int.tmod v_.1 128)) 128],IntKind.wrap .i64 (v_.2.2+1))) else none else some (.inr (v_.1,v_.2.1))) FU (a,⟨#[]⟩,0))=some r)∧(r:Int×ByteArray).2.size≤10:=by
  intro a
  refine Qn 10 (by omega) (fun(k:Nat) (v:Int×ByteArray×Int)=>v.2.2=(k:Int)∧v.2.1.size=k) (fun(r:Int×ByteArray)=>r.2.size≤10) ⟨rfl,rfl⟩ ?_ ?_
  ·rintro k ⟨u,s,i⟩ hk ⟨h1,h2⟩
   simp only at h1 h2
   subst h1
   simp only[decide_eq_true (show(k:Int)<10 by omega),cond_true,Option.bind_some]
   cases decide ((128:Int)≤u) with
   |true=>
    left
    simp only[cond_true,tq,h2]
    rw[if_pos (by omega)]
    exact⟨_,rfl,inc k (by omega),by rw[ByteArray.size_append,tq,h2]⟩
   |false=>right;exact⟨_,rfl,by simp only;omega⟩
  ·rintro⟨u,s,i⟩ ⟨h1,h2⟩
   simp only at h1 h2
   subst h1
   exact⟨_,rfl,by simp only;omega⟩
 have fin:∀a:Int,∃r,(Option.bind (dM (fun v_:Int×ByteArray×Int=>(bif decide ((v_.2.2:Int)<10) then some (decide ((128:Int)≤v_.1)) else some false).bind fun a_1=>bif a_1 then if v_.2.1.size+(strOfNums [dU .or .u8 (IntKind.wrap .u8 (Int.tmod v_.1 128)) 128]).size≤9223372036854775807 then some (.inl (IntKind.wrap .u64 (Int.tdiv v_.1 128),v_.2.1++strOfNums [dU .or .u8 (IntKind.wrap .u8 (Int.tmod v_.1 128)) 128],IntKind.wrap .i64 (v_.2.2+1))) else none else some (.inr (v_.1,v_.2.1))) FU (a,⟨#[]⟩,0)) (fun r:Int×ByteArray=>if r.2.size+(strOfNums [IntKind.wrap .u8 r.1]).size≤9223372036854775807 then some (r.2++strOfNums [IntKind.wrap .u8 r.1]) else none))=some r∧r.size≤11:=by
  intro a
  obtain⟨r,h1,h2⟩:=key a
  rw[h1]
  simp only[Option.bind_some,tq]
  rw[if_pos (by omega)]
  exact⟨_,rfl,by rw[ByteArray.size_append,tq];omega⟩
 cases decide (n<0)
 ·exact fin _
 ·exact fin _
noncomputable def OX(n:Int):ByteArray:=(Q40 n).getD ⟨#[]⟩
theorem aiI(n:Int):Q40 n=some (OX n):=by
 obtain⟨r,h,_⟩:=Ye n
 unfold OX;rw[h];rfl
theorem Dh(n:Int):(OX n).size≤11:=by
 obtain⟨r,h,h2⟩:=Ye n
 unfold OX;rw[h];exact h2
end Go.Proofs.YtflpefkohpjjpaaGreatDoor
set_option linter.unusedSimpArgs false
set_option linter.unusedVariables false
namespace Go.Proofs.YtflpefkohpjjpaaGreatDoor
open Go.RowKit
mutual
noncomputable def wrF:Lf→ByteArray
 |.int _ n=>OX n
 |.str s=>OX (s.size:Int)++s
 |.bool b=>if b then⟨#[1]⟩ else⟨#[0]⟩
 |.rows _ l=>OX (l.length:Int)++wrQ l
noncomputable def wrQ:List (List Lf)→ByteArray
 |[]=>ByteArray.empty
 |r::q=>wrL r++wrQ q
noncomputable def wrL:List Lf→ByteArray
 |[]=>ByteArray.empty
 |x::r=>wrF x++wrL r
end
theorem pz(r s:List Lf):wrL (r++s)=wrL r++wrL s:=by
 induction r with
 |nil=>simp[wrL]
 |cons x r ih=>simp only[List.cons_append,wrL,ih,ByteArray.append_assoc]
theorem Yf(b:UInt8):(⟨#[b]⟩:ByteArray).size=1:=rfl
mutual
theorem al1:∀x:Lf,(wrF x).size≤12*x.bulk
 |.int _ n=>by have:=Dh n;simp only[wrF,Lf.bulk];omega
 |.str s=>by have:=Dh (s.size:Int);simp only[wrF,Lf.bulk,ByteArray.size_append];omega
 |.bool b=>by cases b<;>simp[wrF,Lf.bulk,Yf]
 |.rows _ l=>by have:=Dh (l.length:Int);have:=ae5 l;simp only[wrF,Lf.bulk,ByteArray.size_append];omega
theorem ae5:∀l:List (List Lf),(wrQ l).size≤12*bP l
 |[]=>by simp[wrQ,bP]
 |r::q=>by have:=VD r;have:=ae5 q;simp only[wrQ,bP,ByteArray.size_append];omega
theorem VD:∀l:List Lf,(wrL l).size≤12*aP l
 |[]=>by simp[wrL,aP]
 |x::r=>by have:=al1 x;have:=VD r;simp only[wrL,aP,ByteArray.size_append];omega
end
def Ap(m:aK→Option aK)(s:ByteArray):Prop:=∀b,b.uf=true→b.fS.size+s.size≤4611686018427387904→m b=some ⟨b.fS++s,b.zB,b.uf⟩
theorem Ap.bind{m k:aK→Option aK}{s t:ByteArray}(h:Ap m s)(h2:Ap k t):Ap (fun b=>(m b).bind k) (s++t):=by
 intro b hb hs
 rw[ByteArray.size_append] at hs
 show(m b).bind k=_
 rw[h b hb (by omega),Option.bind_some]
 refine(h2 ⟨b.fS++s,b.zB,b.uf⟩ hb (by simp only[ByteArray.size_append];omega)).trans ?_
 simp only[ByteArray.append_assoc]
theorem Ap.to{m:aK→Option aK}{s t:ByteArray}(h:Ap m s)(e:s=t):Ap m t:=e▸h
theorem Ap.nil:Ap some ByteArray.empty:=fun b _ _=>by rw[ByteArray.append_empty]
theorem Ap.of{m k:aK→Option aK}{s:ByteArray}(h:Ap k s)(e:∀b,b.uf=true→m b=k b):Ap m s:=fun b hb hs=>by rw[e b hb];exact h b hb hs
theorem Ap.loop{α:Type}(f:α→List Lf)(l:List α)(g:α→aK→Option aK)(T:Int×aK→Option ((Int×aK)⊕aK))(hl:l.length≤1000000000)
 (hg:∀x∈l,Ap (g x) (wrL (f x)))
 (hT:∀(k:Nat) s,(∀x,l[k]?=some x→T ((k:Int),s)=(g x s).bind fun r=>some (.inl (IntKind.wrap .i64 ((k:Int)+1),r)))∧(l[k]?=none→T ((k:Int),s)=some (.inr s))):
 Ap (fun b=>dM T FU (0,b)) (wrQ (l.map f)):=by
 intro b hb hs
 have key:∀(m:List α) (k:Nat) (b:aK) (n:Nat),l.drop k=m→m.length<n→b.uf=true→b.fS.size+(wrQ (m.map f)).size≤4611686018427387904→
  dM T n ((k:Int),b)=some ⟨b.fS++wrQ (m.map f),b.zB,b.uf⟩:=by
  intro m
  induction m with
  |nil=>
   intro k b n hd hn hb hs
   obtain⟨n,rfl⟩:∃j,n=j+1:=⟨n-1,by simp at hn;omega⟩
   have h1:l[k]?=none:=by
    have:=congrArg List.length hd
    simp only[List.length_drop,List.length_nil] at this
    rw[List.getElem?_eq_none];omega
   unfold dM
   rw[(hT k b).2 h1]
   simp only[List.map_nil,wrQ,ByteArray.append_empty,Option.bind_some]
  |cons x m ih=>
   intro k b n hd hn hb hs
   obtain⟨n,rfl⟩:∃j,n=j+1:=⟨n-1,by simp at hn;omega⟩
   have h1:l[k]?=some x:=by rw[←List.head?_drop,hd];rfl
   have h2:l.drop (k+1)=m:=by rw[←List.tail_drop,hd];rfl
   have hk:k<l.length:=(List.getElem?_eq_some_iff.1 h1).1
   simp only[List.map_cons,wrQ,ByteArray.size_append] at hs
   unfold dM
   rw[(hT k b).1 x h1,hg x (List.mem_of_getElem? h1) b hb (by omega)]
   simp only[Option.bind_some]
   rw[inc k (by omega)]
   refine(ih (k+1) ⟨b.fS++wrL (f x),b.zB,b.uf⟩ n h2 (by simp at hn;omega) hb (by simp only[ByteArray.size_append];omega)).trans ?_
   simp only[List.map_cons,wrQ,ByteArray.append_assoc]
 exact key l 0 b FU rfl (DK (by omega)) hb hs
theorem fO(n:Int):Ap (Q2 n) (OX n):=by
 intro b _ hs
 unfold Q2 am4
 simp only[Mo.den,aF,aH,aiI,Option.bind_some]
 rw[if_pos (by omega)]
theorem rE(s:ByteArray):Ap (Q42 s) (OX (s.size:Int)++s):=by
 intro b hb hs
 rw[ByteArray.size_append] at hs
 unfold Q42 ajF
 simp only[Mo.den,aF,aH]
 rw[fO _ b hb (by omega)]
 simp only[Option.bind_some,ByteArray.size_append]
 rw[if_pos (by omega)]
 simp only[ByteArray.append_assoc]
theorem pF(c:Bool):Ap (Q50 c) (wrF (.bool c)):=by
 intro b hb hs
 unfold Q50 ajK
 simp only[Mo.den,aF,aG,aH,Yf]
 cases c
 ·simp only[wrF,cond_false,Bool.false_eq_true,if_false,Yf] at hs ⊢;rw[if_pos (by omega)]
 ·simp only[wrF,cond_true,if_true,Yf] at hs ⊢;rw[if_pos (by omega)]
theorem eY{α:Type}(l:List α)(k:Nat):(∀x,l[k]?=some x→decide ((k:Int)<(l.length:Int))=true∧qc l (k:Int)=some x)∧(l[k]?=none→decide ((k:Int)<(l.length:Int))=false):=by
 refine⟨fun x h=>?_,fun h=>?_⟩
 ·have:=(List.getElem?_eq_some_iff.1 h).1
  exact⟨iLt this,by rw[Qm,h]⟩
 ·rw[List.getElem?_eq_none_iff] at h
  exact amr (by omega)
theorem Ap.of'{m k:aK→Option aK}{s t:ByteArray}(e:∀b,b.uf=true→m b=k b)(h:Ap k s)(hs:s=t):Ap m t:=hs▸Ap.of h e
theorem AP(l:List ByteArray)(hl:l.length≤1000000000):Ap (Q29 l) (wrF (.rows 1 (l.map lfS))):=by
 have hL:Ap (Vh l 0) (wrQ (l.map lfS)):=by
  refine Ap.of' (fun b hb=>by unfold Vh;rfl) (Ap.loop lfS l Q42 _ hl (fun x _=>(rE x).to (by simp only[lfS,wrL,wrF,ByteArray.append_empty])) fun k s=>⟨fun x h=>?_,fun h=>?_⟩) rfl
  ·obtain⟨h1,h2⟩:=(eY l k).1 x h
   simp only[Ai,Mo.den,aF,aG,h1,h2,cond_true,Option.bind_some]
  ·simp only[Ai,Mo.den,aF,aG,(eY l k).2 h,cond_false]
 refine Ap.of' (fun b hb=>?_) (Ap.bind (fO (l.length:Int)) (Ap.bind hL Ap.nil)) ?_
 ·simp only[Q29,ajJ,Mo.den,aF]
 ·simp only[wrF,List.length_map,ByteArray.append_empty]
end Go.Proofs.YtflpefkohpjjpaaGreatDoor
set_option linter.unusedSimpArgs false
set_option linter.unusedVariables false
namespace Go.Proofs.YtflpefkohpjjpaaGreatDoor
open Go.RowKit
theorem ae6(x:dZ)(hb:aP x.lf1≤100000000):Ap (Q48 x) (wrL x.lf1):=by
 have hl:=sZ x.dD
 rw[nV] at hb
 have hL:Ap (Vj x 0) (wrQ (x.dD.map bM.lf)):=by
  refine Ap.of' (fun b hb=>by unfold Vj;rfl) (Ap.loop bM.lf x.dD (fun p b=>(Q2 p.fX b).bind fun r=>Q2 p.fY r) _ (by omega) (fun x hx=>(Ap.bind (fO _) (fO _)).to (by simp only[bM.lf,bM.lf1,wrL,wrF,ByteArray.append_empty])) fun k s=>⟨fun y h=>?_,fun h=>?_⟩) rfl
  ·obtain⟨h1,h2⟩:=(eY x.dD k).1 y h
   simp only[Aj,Mo.den,aF,aG,h1,h2,cond_true,Option.bind_some,Option.bind_assoc]
  ·simp only[Aj,Mo.den,aF,aG,(eY x.dD k).2 h,cond_false]
 refine Ap.of' (fun b hb=>?_) (Ap.bind (fO (x.ay)) (Ap.bind (fO ((x.dD.length:Int))) (Ap.bind hL (Ap.bind (fO (x.fR)) Ap.nil)))) ?_
 ·simp only[Q48,ajL,Mo.den,aF,aG]
 ·simp only[dZ.lf1,wrL,wrF,List.length_map,ByteArray.append_empty,ByteArray.append_assoc]
theorem OY:∀n,(∀v:ah,2*aP v.lf1<n→aP v.lf1≤100000000→Ap ((lU n).m1 v) (wrL v.lf1))∧∀l:List ah,2*bP (l.map ah.lf)+1<n→bP (l.map ah.lf)≤100000000→Ap ((lU n).m2 l) (wrF (.rows 5 (l.map ah.lf)))
 |0=>⟨fun v h=>by omega,fun l h=>by omega⟩
 |n+1=>by
  have ih:=OY n
  refine⟨fun x h hb=>?_,fun l h hb=>?_⟩
  ·have hl:=fZ x.aY
   rw[dh] at h hb
   have hL:Ap (Vf (lU n) x 0) (wrQ (x.aY.map aJ.lf)):=by
    refine Ap.of' (fun b hb=>by unfold Vf;rfl) (Ap.loop aJ.lf x.aY (fun p b=>(Q42 p.fName b).bind fun r=>(lU n).m1 p.fValue r) _ (by omega) (fun x hx=>by have h1:=gq hx;rw[eF] at h1;exact(Ap.bind (rE _) (ih.1 _ (by omega) (by omega))).to (by rw[aJ.aW];simp only[aJ.lf1,pz,wrL,wrF,ByteArray.append_empty])) fun k s=>⟨fun y h=>?_,fun h=>?_⟩) rfl
    ·obtain⟨h1,h2⟩:=(eY x.aY k).1 y h
     simp only[Ag,Mo.den,aF,aG,h1,h2,cond_true,Option.bind_some,Option.bind_assoc]
    ·simp only[Ag,Mo.den,aF,aG,(eY x.aY k).2 h,cond_false]
   refine Ap.of' (fun b hr=>?_) (Ap.bind (fO (x.ay)) (Ap.bind (fO (x.dG)) (Ap.bind (rE (x.fText)) (Ap.bind (ih.2 x.aU (by omega) (by omega)) (Ap.bind (fO ((x.aY.length:Int))) (Ap.bind hL Ap.nil)))))) ?_
   ·simp only[lU,ad9,Mo.den,aF,aG,hr,cond_true]
   ·simp only[ah.lf1,wrL,wrF,List.length_map,ByteArray.append_empty,ByteArray.append_assoc]
  ·have hl:=gV l
   have hL:Ap (Vg (lU n) l 0) (wrQ (l.map ah.lf)):=by
    refine Ap.of' (fun b hb=>by unfold Vg;rfl) (Ap.loop ah.lf l (fun p b=>(lU n).m1 p b) _ (by omega) (fun x hx=>by have h1:=jm hx;exact(ih.1 _ (by omega) (by omega)).to (by rw[ah.aW])) fun k s=>⟨fun y h=>?_,fun h=>?_⟩) rfl
    ·obtain⟨h1,h2⟩:=(eY l k).1 y h
     simp only[Ah,Mo.den,aF,aG,h1,h2,cond_true,Option.bind_some,Option.bind_assoc]
    ·simp only[Ah,Mo.den,aF,aG,(eY l k).2 h,cond_false]
   refine Ap.of' (fun b hr=>?_) (Ap.bind (fO ((l.length:Int))) (Ap.bind hL Ap.nil)) ?_
   ·simp only[lU,aea,Mo.den,aF,aG]
   ·simp only[wrF,List.length_map,ByteArray.append_empty]
theorem qp(v:ah)(hb:aP v.lf1≤100000000):Ap (Q24 v) (wrL v.lf1):=(OY FU).1 v (DK (by omega)) hb
theorem Lr(l:List ah)(hb:bP (l.map ah.lf)≤100000000):Ap (Q31 l) (wrF (.rows 5 (l.map ah.lf))):=(OY FU).2 l (DK (by omega)) hb
theorem ae7(n:Nat):∀x:aS,aP x.lf1<n→aP x.lf1≤100000000→Ap ((vC n).m1 x) (wrL x.lf1):=by
 induction n with
 |zero=>intro x h _;omega
 |succ n ih=>
  intro x h hb
  have hl:=pX x.bV
  have hl1:=gJ x.cZ
  have hl2:=gJ x.fK
  rw[jU] at h hb
  have hL:Ap (Vk (vC n) x 0) (wrQ (x.bV.map aS.lf)):=by
   refine Ap.of' (fun b hb=>by unfold Vk;rfl) (Ap.loop aS.lf x.bV (fun p b=>(vC n).m1 p b) _ (by omega) (fun x hx=>by have h1:=GZ hx;exact(ih _ (by omega) (by omega)).to (by rw[aS.aW])) fun k s=>⟨fun y h=>?_,fun h=>?_⟩) rfl
   ·obtain⟨h1,h2⟩:=(eY x.bV k).1 y h
    simp only[Ak,Mo.den,aF,aG,h1,h2,cond_true,Option.bind_some,Option.bind_assoc]
   ·simp only[Ak,Mo.den,aF,aG,(eY x.bV k).2 h,cond_false]
  refine Ap.of' (fun b hr=>?_) (Ap.bind (fO (x.fOp)) (Ap.bind (AP (x.cZ) (by omega)) (Ap.bind (rE (x.fName)) (Ap.bind (AP (x.fK) (by omega)) (Ap.bind (qp (x.fArg) (by omega)) (Ap.bind (fO (x.fN)) (Ap.bind (fO ((x.bV.length:Int))) (Ap.bind hL Ap.nil)))))))) ?_
  ·simp only[vC,aed,Mo.den,aF,aG]
  ·simp only[aS.lf1,pz,wrL,wrF,List.length_map,ByteArray.append_empty,ByteArray.append_assoc]
theorem aiJ(v:aS)(hb:aP v.lf1≤100000000):Ap (Q35 v) (wrL v.lf1):=ae7 FU v (DK (by omega)) hb
theorem ae8(n:Nat):∀x:aO,aP x.lf1<n→aP x.lf1≤100000000→Ap ((vF n).m1 x) (wrL x.lf1):=by
 induction n with
 |zero=>intro x h _;omega
 |succ n ih=>
  intro x h hb
  have hl:=mQ x.bV
  have hl1:=gJ x.cZ
  rw[gZ] at h hb
  have hL:Ap (Vl (vF n) x 0) (wrQ (x.bV.map aO.lf)):=by
   refine Ap.of' (fun b hb=>by unfold Vl;rfl) (Ap.loop aO.lf x.bV (fun p b=>(vF n).m1 p b) _ (by omega) (fun x hx=>by have h1:=vH hx;exact(ih _ (by omega) (by omega)).to (by rw[aO.aW])) fun k s=>⟨fun y h=>?_,fun h=>?_⟩) rfl
   ·obtain⟨h1,h2⟩:=(eY x.bV k).1 y h
    simp only[Am,Mo.den,aF,aG,h1,h2,cond_true,Option.bind_some,Option.bind_assoc]
   ·simp only[Am,Mo.den,aF,aG,(eY x.bV k).2 h,cond_false]
  refine Ap.of' (fun b hr=>?_) (Ap.bind (fO (x.fOp)) (Ap.bind (AP (x.cZ) (by omega)) (Ap.bind (qp (x.fArg) (by omega)) (Ap.bind (Lr (x.fArgs) (by omega)) (Ap.bind (fO (x.fN)) (Ap.bind (fO (x.fM)) (Ap.bind (ae6 (x.dH) (by omega)) (Ap.bind (aiJ (x.fExpr) (by omega)) (Ap.bind (fO ((x.bV.length:Int))) (Ap.bind hL Ap.nil)))))))))) ?_
  ·simp only[vF,aef,Mo.den,aF,aG]
  ·simp only[aO.lf1,pz,wrL,wrF,List.length_map,ByteArray.append_empty,ByteArray.append_assoc]
theorem aiK(v:aO)(hb:aP v.lf1≤100000000):Ap (Q43 v) (wrL v.lf1):=ae8 FU v (DK (by omega)) hb
theorem Td(x:aQ)(hb:aP x.lf1≤100000000):Ap (Q39 x) (wrL x.lf1):=by
 have hl:=mJ x.fQ
 rw[jr] at hb
 have hL:Ap (Vm x 0) (wrQ (x.fQ.map bf.lf)):=by
  refine Ap.of' (fun b hb=>by unfold Vm;rfl) (Ap.loop bf.lf x.fQ (fun p b=>(Q29 p.cZ b).bind fun r=>Q50 p.rO r) _ (by omega) (fun x hx=>by have h1:=wS hx;rw[lu] at h1;have h2:=gJ x.cZ;exact(Ap.bind (AP _ (by omega)) (pF _)).to (by simp only[bf.lf,bf.lf1,wrL,ByteArray.append_empty])) fun k s=>⟨fun y h=>?_,fun h=>?_⟩) rfl
  ·obtain⟨h1,h2⟩:=(eY x.fQ k).1 y h
   simp only[Aq,Mo.den,aF,aG,h1,h2,cond_true,Option.bind_some,Option.bind_assoc]
  ·simp only[Aq,Mo.den,aF,aG,(eY x.fQ k).2 h,cond_false]
 refine Ap.of' (fun b hb=>?_) (Ap.bind (rE (x.fName)) (Ap.bind (fO (x.ay)) (Ap.bind (fO ((x.fQ.length:Int))) (Ap.bind hL (Ap.bind (pF (x.dY)) (Ap.bind (pF (x.jl)) (Ap.bind (pF (x.gB)) (Ap.bind (aiK (x.bF) (by omega)) Ap.nil)))))))) ?_
 ·simp only[Q39,ajM,Mo.den,aF,aG]
 ·simp only[aQ.lf1,pz,wrL,wrF,List.length_map,ByteArray.append_empty,ByteArray.append_assoc]
theorem VE(n:Nat):∀x:aI,aP x.lf1<n→aP x.lf1≤100000000→Ap ((rC n).m1 x) (wrL x.lf1):=by
 induction n with
 |zero=>intro x h _;omega
 |succ n ih=>
  intro x h hb
  have hl:=pY x.dN
  have hl1:=mV x.dP
  have hl2:=gJ x.dK
  rw[iq] at h hb
  have hL:Ap (Vp (rC n) x 0) (wrQ (x.dN.map bH.lf)):=by
   refine Ap.of' (fun b hb=>by unfold Vp;rfl) (Ap.loop bH.lf x.dN (fun p b=>(Q42 p.fName b).bind fun r=>(rC n).m1 p.aZ r) _ (by omega) (fun x hx=>by have h1:=AO hx;rw[mP] at h1;exact(Ap.bind (rE _) (ih _ (by omega) (by omega))).to (by rw[bH.aW];simp only[bH.lf1,pz,wrL,wrF,ByteArray.append_empty])) fun k s=>⟨fun y h=>?_,fun h=>?_⟩) rfl
   ·obtain⟨h1,h2⟩:=(eY x.dN k).1 y h
    simp only[Ar,Mo.den,aF,aG,h1,h2,cond_true,Option.bind_some,Option.bind_assoc]
   ·simp only[Ar,Mo.den,aF,aG,(eY x.dN k).2 h,cond_false]
  have hL2:Ap (Vq (rC n) x 0) (wrQ (x.dP.map aI.lf)):=by
   refine Ap.of' (fun b hb=>by unfold Vq;rfl) (Ap.loop aI.lf x.dP (fun p b=>(rC n).m1 p b) _ (by omega) (fun x hx=>by have h1:=yI hx;exact(ih _ (by omega) (by omega)).to (by rw[aI.aW])) fun k s=>⟨fun y h=>?_,fun h=>?_⟩) rfl
   ·obtain⟨h1,h2⟩:=(eY x.dP k).1 y h
    simp only[Au,Mo.den,aF,aG,h1,h2,cond_true,Option.bind_some,Option.bind_assoc]
   ·simp only[Au,Mo.den,aF,aG,(eY x.dP k).2 h,cond_false]
  refine Ap.of' (fun b hr=>?_) (Ap.bind (fO (x.jF)) (Ap.bind (pF (x.iQ)) (Ap.bind (qp (x.kE) (by omega)) (Ap.bind (pF (x.iR)) (Ap.bind (qp (x.kF) (by omega)) (Ap.bind (Lr (x.jL) (by omega)) (Ap.bind (fO (x.iU)) (Ap.bind (fO (x.iV)) (Ap.bind (AP (x.dK) (by omega)) (Ap.bind (fO ((x.dN.length:Int))) (Ap.bind hL (Ap.bind (pF (x.jD)) (Ap.bind (fO ((x.dP.length:Int))) (Ap.bind hL2 (Ap.bind (pF (x.dY)) Ap.nil))))))))))))))) ?_
  ·simp only[rC,aeh,Mo.den,aF,aG]
  ·simp only[aI.lf1,pz,wrL,wrF,List.length_map,ByteArray.append_empty,ByteArray.append_assoc]
theorem aal(v:aI)(hb:aP v.lf1≤100000000):Ap (Q19 v) (wrL v.lf1):=VE FU v (DK (by omega)) hb
theorem ae9(x:bY)(hb:aP x.lf1≤100000000):Ap (Q49 x) (wrL x.lf1):=by
 have hl:=jZ x.bZ
 rw[mF] at hb
 have hL:Ap (Vr x 0) (wrQ (x.bZ.map aQ.lf)):=by
  refine Ap.of' (fun b hb=>by unfold Vr;rfl) (Ap.loop aQ.lf x.bZ (fun p b=>Q39 p b) _ (by omega) (fun x hx=>by have h1:=wU hx;exact Td _ (by omega)) fun k s=>⟨fun y h=>?_,fun h=>?_⟩) rfl
  ·obtain⟨h1,h2⟩:=(eY x.bZ k).1 y h
   simp only[Aw,Mo.den,aF,aG,h1,h2,cond_true,Option.bind_some,Option.bind_assoc]
  ·simp only[Aw,Mo.den,aF,aG,(eY x.bZ k).2 h,cond_false]
 refine Ap.of' (fun b hb=>?_) (Ap.bind (rE (x.fName)) (Ap.bind (fO ((x.bZ.length:Int))) (Ap.bind hL (Ap.bind (aal (x.aZ) (by omega)) (Ap.bind (fO (x.kG)) (Ap.bind (fO (x.iJ)) Ap.nil)))))) ?_
 ·simp only[Q49,ajN,Mo.den,aF,aG]
 ·simp only[bY.lf1,pz,wrL,wrF,List.length_map,ByteArray.append_empty,ByteArray.append_assoc]
end Go.Proofs.YtflpefkohpjjpaaGreatDoor
set_option linter.unusedSimpArgs false
set_option linter.unusedVariables false
namespace Go.Proofs.YtflpefkohpjjpaaGreatDoor
open Go.RowKit
theorem iZ:1152921504606846975<FU:=by unfold FU;omega
def Tot{ρ:Type}(m:Option ρ)(Q:ρ→Prop):Prop:=∃r,m=some r∧Q r
def LP{σ ρ:Type}(P:σ→Prop)(Q:ρ→Prop):σ⊕ρ→Prop
 |.inl s=>P s
 |.inr r=>Q r
def Any{ρ:Type}:ρ→Prop:=fun _=>True
namespace T
variable {ρ α σ:Type}
theorem ret{Q:ρ→Prop}{r:ρ}(h:Q r):Tot (some r) Q:=⟨r,rfl,h⟩
theorem any{r:ρ}:Tot (some r) Any:=⟨r,rfl,trivial⟩
theorem bind{m:Option α}{R:α→Prop}{k:α→Option ρ}{Q:ρ→Prop}(h:Tot m R)(h2:∀a,R a→Tot (k a) Q):Tot (m.bind k) Q:=by
 obtain⟨a,rfl,ha⟩:=h
 exact h2 a ha
theorem ite{b:Bool}{x y:Option ρ}{Q:ρ→Prop}(h1:b=true→Tot x Q)(h2:b=false→Tot y Q):Tot (bif b then x else y) Q:=by
 cases b
 ·exact h2 rfl
 ·exact h1 rfl
theorem grd{p:Prop}[Decidable p]{x:Option ρ}{Q:ρ→Prop}(h:p)(h2:Tot x Q):Tot (if p then x else none) Q:=by
 rw[if_pos h];exact h2
theorem mono{m:Option ρ}{Q R:ρ→Prop}(h:Tot m Q)(h2:∀r,Q r→R r):Tot m R:=by
 obtain⟨r,h1,h3⟩:=h;exact⟨r,h1,h2 r h3⟩
theorem wk{m:Option ρ}{Q:ρ→Prop}(h:Tot m Q):Tot m Any:=mono h fun _ _=>trivial
theorem val{m:Option ρ}{r:ρ}(h:m=some r):Tot m (fun x=>x=r):=⟨r,h,rfl⟩
theorem qw{T:σ→Option (σ⊕ρ)}{s0:σ}(n:Nat)(hn:n≤1000000000)(P:Nat→σ→Prop)(Q:ρ→Prop)(h0:P 0 s0)(step:∀k s,k<n→P k s→Tot (T s) (LP (P (k+1)) Q))(fin:∀s,P n s→Tot (T s) (LP (fun _=>False) Q)):Tot (dM T FU s0) Q:=by
 refine Qn n hn P Q h0 ?_ ?_
 ·intro k s hk hP
  obtain⟨r,h1,h2⟩:=step k s hk hP
  rcases r with v|r
  ·exact .inl ⟨v,h1,h2⟩
  ·exact .inr ⟨r,h1,h2⟩
 ·intro s hP
  obtain⟨r,h1,h2⟩:=fin s hP
  rcases r with v|r
  ·exact h2.elim
  ·exact⟨r,h1,h2⟩
end T
theorem ltt{α:Type}{l:List α}{k:Nat}{x:α}(h:l[k]?=some x):decide ((k:Int)<(l.length:Int))=true:=iLt (List.getElem?_eq_some_iff.1 h).1
theorem ltn(n:Nat):decide ((n:Int)<(n:Int))=false:=amr (Nat.lt_irrefl _)
theorem gid{α:Type}{l:List α}{k:Nat}{x:α}(h:l[k]?=some x):qc l (k:Int)=some x:=by rw[Qm,h]
theorem oW{α:Type}{l:List α}{k:Nat}{x:α}(h:l[k]?=some x):x∈l:=List.mem_of_getElem? h
theorem oZ{α:Type}{l:List α}{k:Nat}{x:α}(h:l[k]?=some x):k<l.length:=(List.getElem?_eq_some_iff.1 h).1
theorem Ls(l m:List (List Lf)):bP (l++m)=bP l+bP m:=by
 induction l with
 |nil=>simp[bP]
 |cons x l ih=>simp only[List.cons_append,bP,ih];omega
theorem tu{α:Type}(f:α→List Lf){l:List α}{k:Nat}{x:α}(h:l[k]?=some x):bP ((l.take (k+1)).map f)=bP ((l.take k).map f)+aP (f x):=by
 have hk:=oZ h
 rw[List.take_succ_eq_append_getElem hk,List.map_append,Ls]
 have:l[k]=x:=by rw[List.getElem?_eq_getElem hk] at h;injection h
 simp only[this,List.map_cons,List.map_nil,bP];omega
theorem iK{α:Type}(f:α→List Lf)(l:List α)(k:Nat):bP ((l.take k).map f)≤bP (l.map f):=by
 have:=Ls ((l.take k).map f) ((l.drop k).map f)
 rw[←List.map_append,List.take_append_drop] at this;omega
def MT{ρ:Type}(t:Mo ρ)(Q:ρ→Prop):Prop:=Tot t.den Q
namespace MT
variable {ρ α β γ:Type}
theorem ret{f:Fit}{r:ρ}{Q:ρ→Prop}(h:Q r):MT (.ret f r) Q:=⟨r,rfl,h⟩
theorem any{f:Fit}{r:ρ}:MT (.ret f r) Any:=⟨r,rfl,trivial⟩
theorem say{qs:List Ans}{Φ:List Prop}{ok:dR Φ}{k:Mo ρ}{Q:ρ→Prop}(h:MT k Q):MT (.say qs ok k) Q:=h
theorem ite{b:Bool}{t:b=true→Mo ρ}{e:b=false→Mo ρ}{Q:ρ→Prop}(h1:∀h,MT (t h) Q)(h2:∀h,MT (e h) Q):MT (.ite b t e) Q:=by
 cases b
 ·exact h2 rfl
 ·exact h1 rfl
theorem grd{p:Prop}[d:Decidable p]{k:p→Mo ρ}{Q:ρ→Prop}(h:p)(h2:∀h,MT (k h) Q):MT (.grd p k) Q:=by
 unfold MT Tot
 show ∃r,IW p _=some r∧Q r
 unfold IW
 cases d with
 |isTrue hh=>exact h2 hh
 |isFalse hh=>exact absurd h hh
theorem ask{m:Option α}{k:(a:α)→m=some a→Mo ρ}{R:α→Prop}{Q:ρ→Prop}(h:Tot m R)(h2:∀a h,R a→MT (k a h) Q):MT (.ask m k) Q:=by
 obtain⟨a,rfl,ha⟩:=h
 exact h2 a rfl ha
theorem kL{m:Option (α⊕β)}{k1:(a:α)→m=some (.inl a)→Mo ρ}{k2:(b:β)→m=some (.inr b)→Mo ρ}{R:α⊕β→Prop}{Q:ρ→Prop}(h:Tot m R)(h1:∀a h,R (.inl a)→MT (k1 a h) Q)(h2:∀b h,R (.inr b)→MT (k2 b h) Q):MT (.kL m k1 k2) Q:=by
 obtain⟨a,rfl,ha⟩:=h
 rcases a with a|a
 ·exact h1 a rfl ha
 ·exact h2 a rfl ha
theorem YL{m:Option (α⊕β⊕γ)}{k1:(a:α)→m=some (.inl a)→Mo ρ}{k2:(b:β)→m=some (.inr (.inl b))→Mo ρ}{k3:(c:γ)→m=some (.inr (.inr c))→Mo ρ}{R:α⊕β⊕γ→Prop}{Q:ρ→Prop}(h:Tot m R)(h1:∀a h,R (.inl a)→MT (k1 a h) Q)(h2:∀b h,R (.inr (.inl b))→MT (k2 b h) Q)(h3:∀b h,R (.inr (.inr b))→MT (k3 b h) Q):MT (.YL m k1 k2 k3) Q:=by
 obtain⟨a,rfl,ha⟩:=h
 rcases a with a|a|a
 ·exact h1 a rfl ha
 ·exact h2 a rfl ha
 ·exact h3 a rfl ha
end MT
structure Clo {ρ:Type} (m:Option ρ):Prop where
 h:Tot m Any
namespace MT
variable {ρ α β γ:Type}
theorem lC{m:Option α}{k:(a:α)→m=some a→Mo ρ}{Q:ρ→Prop}(h:Clo m)(h2:∀a h,MT (k a h) Q):MT (.ask m k) Q:=ask h.h fun a h _=>h2 a h
theorem ajQ{m:Option (α⊕β)}{k1:(a:α)→m=some (.inl a)→Mo ρ}{k2:(b:β)→m=some (.inr b)→Mo ρ}{Q:ρ→Prop}(h:Clo m)(h1:∀a h,MT (k1 a h) Q)(h2:∀b h,MT (k2 b h) Q):MT (.kL m k1 k2) Q:=kL h.h (fun a h _=>h1 a h) (fun a h _=>h2 a h)
end MT
theorem dW{α:Type}(l:List α)(i:Int)(h0:0≤i)(h1:i<l.length):Tot (qc l i) (fun x=>x∈l):=by
 obtain⟨x,h2,h3⟩:=agb h0 h1
 exact⟨x,h2,List.mem_of_getElem? h3⟩
namespace T
variable {ρ σ:Type}
theorem aiL{T:σ→Option (σ⊕ρ)}{s0:σ}(c:σ→Int)(P:σ→Prop)(Q:ρ→Prop)(h0:c s0=0)(hP:P s0)(step:∀(k:Nat) s,k≤100000000→c s=k→P s→Tot (T s) (LP (fun v=>c v=IntKind.wrap .i64 ((k:Int)+1)∧P v∧k<100000000) Q)):Tot (dM T FU s0) Q:=by
 refine yD (fun s=>0≤c s∧c s≤100000000∧P s) (fun s=>100000000-(c s).toNat) Q ?_ FU s0 ⟨by omega,by omega,hP⟩ (by have:=iZ;omega)
 rintro s ⟨h1,h2,h3⟩
 obtain⟨r,h4,h5⟩:=step (c s).toNat s (by omega) (by omega) h3
 rcases r with v|r
 ·have h5:c v=IntKind.wrap .i64 (((c s).toNat:Int)+1)∧P v∧(c s).toNat<100000000:=h5
  have h6:=h5.1
  rw[inc _ (by omega)] at h6
  exact .inl ⟨v,h4,⟨by omega,by omega,h5.2.1⟩,by omega⟩
 ·exact .inr ⟨r,h4,h5⟩
theorem cnt{T:Int→Option (Int⊕ρ)}(Q:ρ→Prop)(step:∀k:Nat,k≤100000000→Tot (T (k:Int)) (LP (fun v=>v=IntKind.wrap .i64 ((k:Int)+1)∧k<100000000) Q)):Tot (dM T FU 0) Q:=
 aiL (fun v=>v) (fun _=>True) Q rfl trivial fun k s hk hs _=>by
  obtain rfl:s=(k:Int):=hs
  refine mono (step k hk) ?_
  rintro(v|r) h
  ·exact⟨h.1,trivial,h.2⟩
  ·exact h
theorem anj{α:Type}{T:α×Int→Option ((α×Int)⊕ρ)}{a:α}(Q:ρ→Prop)(step:∀(a:α) (k:Nat),k≤100000000→Tot (T (a,(k:Int))) (LP (fun v=>v.2=IntKind.wrap .i64 ((k:Int)+1)∧k<100000000) Q)):Tot (dM T FU (a,0)) Q:=
 aiL (fun v=>v.2) (fun _=>True) Q rfl trivial fun k s hk hs _=>by
  obtain⟨a,i⟩:=s
  obtain rfl:i=(k:Int):=hs
  refine mono (step a k hk) ?_
  rintro(v|r) h
  ·exact⟨h.1,trivial,h.2⟩
  ·exact h
theorem Ih{α:Type}{T:Int×α→Option ((Int×α)⊕ρ)}{a:α}(Q:ρ→Prop)(step:∀(k:Nat) (a:α),k≤100000000→Tot (T ((k:Int),a)) (LP (fun v=>v.1=IntKind.wrap .i64 ((k:Int)+1)∧k<100000000) Q)):Tot (dM T FU (0,a)) Q:=
 aiL (fun v=>v.1) (fun _=>True) Q rfl trivial fun k s hk hs _=>by
  obtain⟨i,a⟩:=s
  obtain rfl:i=(k:Int):=hs
  refine mono (step k a hk) ?_
  rintro(v|r) h
  ·exact⟨h.1,trivial,h.2⟩
  ·exact h
end T
end Go.Proofs.YtflpefkohpjjpaaGreatDoor
set_option linter.unusedSimpArgs false
set_option linter.unusedVariables false
namespace Go.Proofs.YtflpefkohpjjpaaGreatDoor
open Go.RowKit
def ajR(p:List ByteArray):Bool:=decide (1≤p.length)&&decide (p.length≤16)&&p.all nameB
theorem Tf{α:Type}(f:α→Bool){l:List α}{k:Nat}{x:α}(h:l[k]?=some x):(l.take (k+1)).all f=((l.take k).all f&&f x):=by
 have hk:=oZ h
 have:l[k]=x:=by rw[List.getElem?_eq_getElem hk] at h;injection h
 rw[List.take_succ_eq_append_getElem hk,List.all_append,this];simp
theorem afa{α:Type}(f:α→Bool){l:List α}{k:Nat}{x:α}(h:l[k]?=some x)(hf:f x=false):l.all f=false:=by
 rw[List.all_eq_false];exact⟨x,oW h,by simp[hf]⟩
def kS(v:ah):Bool:=v.ay==0&&v.dG==0&&decide (v.fText=⟨#[]⟩)&&(v.aU.length:Int)==0&&(v.aY.length:Int)==0
def parts(v:ah):List ah:=(if v.ay=6 then v.aU else [])++(if v.ay=5 then v.aY.map aJ.fValue else [])
theorem G5{v x:ah}(h:x∈parts v):aP x.lf1<aP v.lf1:=by
 rw[dh v]
 unfold parts at h
 rcases List.mem_append.1 h with h|h
 ·split at h
  ·have:=jm h;omega
  ·simp at h
 ·split at h
  ·obtain⟨f,hf,rfl⟩:=List.mem_map.1 h
   have:=gq hf;rw[eF] at this;omega
  ·simp at h
end Go.Proofs.YtflpefkohpjjpaaGreatDoor
set_option linter.unusedSimpArgs false
set_option linter.unusedVariables false
namespace Go.Proofs.YtflpefkohpjjpaaGreatDoor
open Go.RowKit
def jw(f:ah→Nat→Nat)(lim:Nat):List ah→Nat→Nat
 |[],n=>n
 |p::r,n=>if f p n<lim then jw f lim r (f p n) else f p n
theorem tC(f:ah→Nat→Nat)(lim:Nat)(p:ah)(r:List ah)(n:Nat):jw f lim (p::r) n=if f p n<lim then jw f lim r (f p n) else f p n:=rfl
mutual
def ah.cnt:ah→Nat
 |.mk k _ _ l d=>1+((if k=6 then ah.cnts l else 0)+(if k=5 then aJ.cnts d else 0))
def ah.cnts:List ah→Nat
 |[]=>0
 |x::r=>x.cnt+ah.cnts r
def aJ.cnts:List aJ→Nat
 |[]=>0
 |.mk _ x::r=>x.cnt+aJ.cnts r
end
mutual
def ah.dep:ah→Nat
 |.mk k _ _ l d=>1+max (if k=6 then ah.deps l else 0) (if k=5 then aJ.deps d else 0)
def ah.deps:List ah→Nat
 |[]=>0
 |x::r=>max x.dep (ah.deps r)
def aJ.deps:List aJ→Nat
 |[]=>0
 |.mk _ x::r=>max x.dep (aJ.deps r)
end
def jM:List Nat→Nat
 |[]=>0
 |x::r=>x+jM r
def nY:List Nat→Nat
 |[]=>0
 |x::r=>max x (nY r)
theorem AQ:∀l m:List Nat,jM (l++m)=jM l+jM m
 |[],m=>(Nat.zero_add _).symm
 |x::r,m=>by show x+jM (r++m)=(x+jM r)+jM m;rw[AQ r m];omega
theorem Ti:∀l m:List Nat,nY (l++m)=max (nY l) (nY m)
 |[],m=>by show nY m=max 0 (nY m);omega
 |x::r,m=>by show max x (nY (r++m))=max (max x (nY r)) (nY m);rw[Ti r m];omega
theorem Yg:∀l:List ah,ah.cnts l=jM (l.map ah.cnt)
 |[]=>by simp[ah.cnts,jM]
 |x::r=>by simp[ah.cnts,jM,Yg r]
theorem Tj:∀l:List aJ,aJ.cnts l=jM ((l.map aJ.fValue).map ah.cnt)
 |[]=>by simp[aJ.cnts,jM]
 |.mk n x::r=>by simp[aJ.cnts,jM,Tj r,aJ.fValue]
theorem Yh:∀l:List ah,ah.deps l=nY (l.map ah.dep)
 |[]=>by simp[ah.deps,nY]
 |x::r=>by simp[ah.deps,nY,Yh r]
theorem Tn:∀l:List aJ,aJ.deps l=nY ((l.map aJ.fValue).map ah.dep)
 |[]=>by simp[aJ.deps,nY]
 |.mk n x::r=>by simp[aJ.deps,nY,Tn r,aJ.fValue]
theorem Di(v:ah):v.cnt=1+jM ((parts v).map ah.cnt):=by
 cases v with
 |mk k i s l d=>
  unfold parts
  rw[List.map_append,AQ]
  unfold ah.cnt
  rw[Yg,Tj]
  simp only[ah.ay,ah.aU,ah.aY]
  by_cases h6:k=6
  ·subst h6;simp[jM]
  ·by_cases h5:k=5
   ·subst h5;simp[jM]
   ·simp[h6,h5,jM]
theorem Dj(v:ah):v.dep=1+nY ((parts v).map ah.dep):=by
 cases v with
 |mk k i s l d=>
  unfold parts
  rw[List.map_append,Ti]
  unfold ah.dep
  rw[Yh,Tn]
  simp only[ah.ay,ah.aU,ah.aY]
  by_cases h6:k=6
  ·subst h6;simp[nY]
  ·by_cases h5:k=5
   ·subst h5;simp[nY]
   ·simp[h6,h5,nY]
theorem MS(v:ah):1≤v.cnt:=by rw[Di];omega
theorem MV(v:ah):1≤v.dep:=by rw[Dj];omega
theorem Lu(most:Nat):∀(l:List ah) (n:Nat),n<most→jw (fun p n=>n+min p.cnt (most-n)) most l n=min (n+jM (l.map ah.cnt)) most
 |[],n,h=>by unfold jw;simp only[List.map_nil,jM];omega
 |p::r,n,h=>by
  unfold jw
  simp only[List.map_cons,jM]
  split
  ·rename_i hc
   rw[Lu most r _ hc]
   omega
  ·omega
theorem LC(most:Nat)(hm:1≤most):∀(l:List ah) (n:Nat),n≤most-1→(l=[]∨n<most-1→jw (fun p n=>max n (min p.dep (most-1))) (most-1) l n=min (max n (nY (l.map ah.dep))) (most-1))
 |[],n,h,_=>by unfold jw;simp only[List.map_nil,nY];omega
 |p::r,n,h,hh=>by
  have hn:n<most-1:=hh.resolve_left (by simp)
  unfold jw
  simp only[List.map_cons,nY]
  split
  ·rename_i hc
   rw[LC most hm r _ (by omega) (.inr hc)]
   omega
  ·omega

theorem aam(R:RB2)(v:ah)(f:ah→Nat→Nat)(lim:Nat)(b1:Int)(I:Nat→Prop)(hb:aP v.lf1≤100000000)
 (h3:∀p∈parts v,∀n:Nat,I n→R.m3 p n b1=some (decide (f p n<lim),(f p n:Int),b1)∧(f p n<lim→I (f p n))) (n:Nat) (hn:I n):
 Mo.den (QL R v n b1)=some (((jw f lim (parts v) n:Nat):Int),b1):=by
 have hl:=gV v.aU
 have hd:=fZ v.aY
 rw[dh] at hb
 unfold QL
 simp only[Mo.den,aF,aA,aB,aG,aH]
 by_cases h6:v.ay=6
 ·have e6:(v.ay==6)=true:=by simpa using h6
  have hp:parts v=v.aU:=by unfold parts;rw[if_pos h6,if_neg (by omega),List.append_nil]
  rw[e6,hp]
  simp only[cond_true]
  have key:Tot (ab3 R v 0 n b1) (fun r=>match r with|.inl o=>o=(((jw f lim v.aU n:Nat):Int),b1)|.inr o=>o=(((jw f lim v.aU n:Nat):Int),b1)):=by
   refine T.qw v.aU.length (by omega) (fun k s=>∃m:Nat,s=((k:Int),(m:Int),b1)∧I m∧jw f lim v.aU n=jw f lim (v.aU.drop k) m) _ ⟨n,rfl,hn,rfl⟩ ?_ ?_
   ·rintro k s hk ⟨m,rfl,hm,he⟩
    have hx:=List.getElem?_eq_getElem hk
    have hdr:v.aU.drop k=v.aU[k]::v.aU.drop (k+1):=List.drop_eq_getElem_cons hk
    obtain⟨q1,q2⟩:=h3 v.aU[k] (by rw[hp];exact List.getElem_mem hk) m hm
    simp only[zV,Mo.den,aF,aA,aB,aG,aH,ltt hx,gid hx,cond_true,Option.bind_some,q1]
    rw[hdr,tC] at he
    by_cases hc:f v.aU[k] m<lim
    ·rw[if_pos hc] at he
     rw[decide_eq_true hc]
     exact T.ret ⟨_,by rw[inc k (by omega)],q2 hc,he⟩
    ·rw[if_neg hc] at he
     rw[decide_eq_false hc]
     exact T.ret (show _=_ by rw[he])
   ·rintro s ⟨m,rfl,hm,he⟩
    rw[List.drop_length] at he
    have he:jw f lim v.aU n=m:=he
    simp only[zV,Mo.den,aF,aA,aB,aG,aH,ltn,cond_false]
    exact T.ret (show _=_ by rw[he])
  obtain⟨r,h,hr⟩:=key
  rw[h]
  rcases r with r|r
  ·have hr:r=_:=hr
   subst hr;rfl
  ·have hr:r=_:=hr
   subst hr;rfl
 ·have e6:(v.ay==6)=false:=by simpa using h6
  by_cases h5:v.ay=5
  ·have e5:(v.ay==5)=true:=by simpa using h5
   have hp:parts v=v.aY.map aJ.fValue:=by unfold parts;rw[if_neg h6,if_pos h5,List.nil_append]
   rw[e6,e5,hp]
   simp only[cond_true,cond_false]
   have key:Tot (ab4 R v 0 n b1) (fun r=>match r with|.inl o=>o=(((jw f lim (v.aY.map aJ.fValue) n:Nat):Int),b1)|.inr o=>o=(((jw f lim (v.aY.map aJ.fValue) n:Nat):Int),b1)):=by
    refine T.qw v.aY.length (by omega) (fun k s=>∃m:Nat,s=((k:Int),(m:Int),b1)∧I m∧jw f lim (v.aY.map aJ.fValue) n=jw f lim ((v.aY.drop k).map aJ.fValue) m) _ ⟨n,rfl,hn,rfl⟩ ?_ ?_
    ·rintro k s hk ⟨m,rfl,hm,he⟩
     have hx:=List.getElem?_eq_getElem hk
     have hdr:v.aY.drop k=v.aY[k]::v.aY.drop (k+1):=List.drop_eq_getElem_cons hk
     obtain⟨q1,q2⟩:=h3 v.aY[k].fValue (by rw[hp];exact List.mem_map.2 ⟨_,List.getElem_mem hk,rfl⟩) m hm
     simp only[zW,Mo.den,aF,aA,aB,aG,aH,ltt hx,gid hx,cond_true,Option.bind_some,q1]
     rw[hdr,List.map_cons,tC] at he
     by_cases hc:f v.aY[k].fValue m<lim
     ·rw[if_pos hc] at he
      rw[decide_eq_true hc]
      exact T.ret ⟨_,by rw[inc k (by omega)],q2 hc,he⟩
     ·rw[if_neg hc] at he
      rw[decide_eq_false hc]
      exact T.ret (show _=_ by rw[he])
    ·rintro s ⟨m,rfl,hm,he⟩
     rw[List.drop_length,List.map_nil] at he
     have he:jw f lim (v.aY.map aJ.fValue) n=m:=he
     simp only[zW,Mo.den,aF,aA,aB,aG,aH,ltn,cond_false]
     exact T.ret (show _=_ by rw[he])
   obtain⟨r,h,hr⟩:=key
   rw[h]
   rcases r with r|r
   ·have hr:r=_:=hr
    subst hr;rfl
   ·have hr:r=_:=hr
    subst hr;rfl
  ·have e5:(v.ay==5)=false:=by simpa using h5
   have hp:parts v=[]:=by unfold parts;rw[if_neg h6,if_neg h5];rfl
   rw[e6,e5,hp]
   rfl

theorem aan(R:RB3)(v:ah)(f:ah→Nat→Nat)(lim:Nat)(b1:Int)(I:Nat→Prop)(hb:aP v.lf1≤100000000)
 (h3:∀p∈parts v,∀n:Nat,I n→R.m3 p n b1=some (decide (f p n<lim),(f p n:Int),b1)∧(f p n<lim→I (f p n))) (n:Nat) (hn:I n):
 Mo.den (QM R v n b1)=some (((jw f lim (parts v) n:Nat):Int),b1):=by
 have hl:=gV v.aU
 have hd:=fZ v.aY
 rw[dh] at hb
 unfold QM
 simp only[Mo.den,aF,aA,aB,aG,aH]
 by_cases h6:v.ay=6
 ·have e6:(v.ay==6)=true:=by simpa using h6
  have hp:parts v=v.aU:=by unfold parts;rw[if_pos h6,if_neg (by omega),List.append_nil]
  rw[e6,hp]
  simp only[cond_true]
  have key:Tot (acd R v 0 n b1) (fun r=>match r with|.inl o=>o=(((jw f lim v.aU n:Nat):Int),b1)|.inr o=>o=(((jw f lim v.aU n:Nat):Int),b1)):=by
   refine T.qw v.aU.length (by omega) (fun k s=>∃m:Nat,s=((k:Int),(m:Int),b1)∧I m∧jw f lim v.aU n=jw f lim (v.aU.drop k) m) _ ⟨n,rfl,hn,rfl⟩ ?_ ?_
   ·rintro k s hk ⟨m,rfl,hm,he⟩
    have hx:=List.getElem?_eq_getElem hk
    have hdr:v.aU.drop k=v.aU[k]::v.aU.drop (k+1):=List.drop_eq_getElem_cons hk
    obtain⟨q1,q2⟩:=h3 v.aU[k] (by rw[hp];exact List.getElem_mem hk) m hm
    simp only[zX,Mo.den,aF,aA,aB,aG,aH,ltt hx,gid hx,cond_true,Option.bind_some,q1]
    rw[hdr,tC] at he
    by_cases hc:f v.aU[k] m<lim
    ·rw[if_pos hc] at he
     rw[decide_eq_true hc]
     exact T.ret ⟨_,by rw[inc k (by omega)],q2 hc,he⟩
    ·rw[if_neg hc] at he
     rw[decide_eq_false hc]
     exact T.ret (show _=_ by rw[he])
   ·rintro s ⟨m,rfl,hm,he⟩
    rw[List.drop_length] at he
    have he:jw f lim v.aU n=m:=he
    simp only[zX,Mo.den,aF,aA,aB,aG,aH,ltn,cond_false]
    exact T.ret (show _=_ by rw[he])
  obtain⟨r,h,hr⟩:=key
  rw[h]
  rcases r with r|r
  ·have hr:r=_:=hr
   subst hr;rfl
  ·have hr:r=_:=hr
   subst hr;rfl
 ·have e6:(v.ay==6)=false:=by simpa using h6
  by_cases h5:v.ay=5
  ·have e5:(v.ay==5)=true:=by simpa using h5
   have hp:parts v=v.aY.map aJ.fValue:=by unfold parts;rw[if_neg h6,if_pos h5,List.nil_append]
   rw[e6,e5,hp]
   simp only[cond_true,cond_false]
   have key:Tot (ace R v 0 n b1) (fun r=>match r with|.inl o=>o=(((jw f lim (v.aY.map aJ.fValue) n:Nat):Int),b1)|.inr o=>o=(((jw f lim (v.aY.map aJ.fValue) n:Nat):Int),b1)):=by
    refine T.qw v.aY.length (by omega) (fun k s=>∃m:Nat,s=((k:Int),(m:Int),b1)∧I m∧jw f lim (v.aY.map aJ.fValue) n=jw f lim ((v.aY.drop k).map aJ.fValue) m) _ ⟨n,rfl,hn,rfl⟩ ?_ ?_
    ·rintro k s hk ⟨m,rfl,hm,he⟩
     have hx:=List.getElem?_eq_getElem hk
     have hdr:v.aY.drop k=v.aY[k]::v.aY.drop (k+1):=List.drop_eq_getElem_cons hk
     obtain⟨q1,q2⟩:=h3 v.aY[k].fValue (by rw[hp];exact List.mem_map.2 ⟨_,List.getElem_mem hk,rfl⟩) m hm
     simp only[zY,Mo.den,aF,aA,aB,aG,aH,ltt hx,gid hx,cond_true,Option.bind_some,q1]
     rw[hdr,List.map_cons,tC] at he
     by_cases hc:f v.aY[k].fValue m<lim
     ·rw[if_pos hc] at he
      rw[decide_eq_true hc]
      exact T.ret ⟨_,by rw[inc k (by omega)],q2 hc,he⟩
     ·rw[if_neg hc] at he
      rw[decide_eq_false hc]
      exact T.ret (show _=_ by rw[he])
    ·rintro s ⟨m,rfl,hm,he⟩
     rw[List.drop_length,List.map_nil] at he
     have he:jw f lim (v.aY.map aJ.fValue) n=m:=he
     simp only[zY,Mo.den,aF,aA,aB,aG,aH,ltn,cond_false]
     exact T.ret (show _=_ by rw[he])
   obtain⟨r,h,hr⟩:=key
   rw[h]
   rcases r with r|r
   ·have hr:r=_:=hr
    subst hr;rfl
   ·have hr:r=_:=hr
    subst hr;rfl
  ·have e5:(v.ay==5)=false:=by simpa using h5
   have hp:parts v=[]:=by unfold parts;rw[if_neg h6,if_neg h5];rfl
   rw[e6,e5,hp]
   rfl

theorem VF:∀(F:Nat) (v:ah) (most:Nat),3*aP v.lf1≤F→aP v.lf1≤100000000→1≤most→most≤2000→(qK F).m1 v most=some ((min v.cnt most:Nat):Int):=by
 intro F
 induction F using Nat.strongRecOn with
 |_ F ih=>
 intro v most hF hb h1 h2
 have hp:=dh v
 obtain⟨F,rfl⟩:∃G,F=G+3:=⟨F-3,by omega⟩
 show Mo.den (Nq (qK (F+2)) v most)=_
 unfold Nq
 simp only[Mo.den,aF,aA,aB,aG,aH]
 by_cases hm:most=1
 ·subst hm
  have:=MS v
  rw[show min v.cnt 1=1 by omega]
  rfl
 ·rw[show((1:Int)==(most:Int))=false by rw[beq_eq_false_iff_ne];omega]
  have he:(qK (F+2)).m2 v 1 most=some (((min v.cnt most:Nat):Int),(most:Int)):=by
   show Mo.den (QL (qK (F+1)) v 1 most)=_
   have:=aam (qK (F+1)) v (fun p n=>n+min p.cnt (most-n)) most most (fun n=>n<most) hb (fun p hq n hn=>?_) 1 (show 1<most by omega)
   ·rw[show((1:Int))=((1:Nat):Int) from rfl,this,Lu most _ 1 (by omega),←Di]
   ·refine⟨?_,fun h=>h⟩
    have hlt:=G5 hq
    show Mo.den (Nr (qK F) p n most)=_
    unfold Nr
    have hsub:IntKind.wrap .i64 ((most:Int)-(n:Int))=((most-n:Nat):Int):=by rw[w64 (by omega) (by omega)];omega
    simp only[Mo.den,aF,aA,aB,aG,aH,hsub,ih F (by omega) p (most-n) (by omega) (by omega) (by omega) (by omega),Option.bind_some]
    rw[w64 (by omega) (by omega),show(n:Int)+((min p.cnt (most-n):Nat):Int)=((n+min p.cnt (most-n):Nat):Int) by omega]
    congr 2
    rw[Bool.eq_iff_iff];simp only[decide_eq_true_iff];omega
  simp only[cond_false,he,Option.bind_some]
theorem aao(v:ah)(hb:aP v.lf1≤100000000):akI v=some ((min v.cnt 1025:Nat):Int):=by
 simp only[akI,ab6,Mo.den,aF,aA,aB,aG,aH]
 have:amA v 1025=some ((min v.cnt 1025:Nat):Int):=VF FU v 1025 (by have:=iZ;omega) hb (by omega) (by omega)
 rw[this];rfl
theorem VG:∀(F:Nat) (v:ah) (most:Nat),3*aP v.lf1≤F→aP v.lf1≤100000000→1≤most→most≤2000→(qL F).m1 v most=some ((min v.dep most:Nat):Int):=by
 intro F
 induction F using Nat.strongRecOn with
 |_ F ih=>
 intro v most hF hb h1 h2
 have hp:=dh v
 obtain⟨F,rfl⟩:∃G,F=G+3:=⟨F-3,by omega⟩
 show Mo.den (Ns (qL (F+2)) v most)=_
 unfold Ns
 simp only[Mo.den,aF,aA,aB,aG,aH]
 have hpos:=MV v
 by_cases hm:most=1
 ·subst hm
  rw[show min v.dep 1=1 by omega]
  rfl
 ·rw[show((most:Int)==(1:Int))=false by rw[beq_eq_false_iff_ne];omega]
  have he:(qL (F+2)).m2 v 0 most=some (((min v.dep most-1:Nat):Int),(most:Int)):=by
   show Mo.den (QM (qL (F+1)) v 0 most)=_
   have:=aan (qL (F+1)) v (fun p n=>max n (min p.dep (most-1))) (most-1) most (fun n=>n<most-1) hb (fun p hq n hn=>?_) 0 (show 0<most-1 by omega)
   ·rw[show((0:Int))=((0:Nat):Int) from rfl, this, LC most h1 _ 0 (by omega) (.inr (by omega))]
    have e:=Dj v
    rw[show min (max 0 (nY ((parts v).map ah.dep))) (most-1)=min v.dep most-1 by omega]
   ·refine⟨?_,fun h=>h⟩
    have hlt:=G5 hq
    show Mo.den (Nu (qL F) p n most)=_
    unfold Nu
    have hsub:IntKind.wrap .i64 ((most:Int)-1)=((most-1:Nat):Int):=by rw[w64 (by omega) (by omega)];omega
    simp only[Mo.den,aF,aA,aB,aG,aH,hsub,ih F (by omega) p (most-1) (by omega) (by omega) (by omega) (by omega),Option.bind_some]
    rw[show(if((min p.dep (most-1):Nat):Int) > (n:Int) then((min p.dep (most-1):Nat):Int) else(n:Int))=((max n (min p.dep (most-1)):Nat):Int) by split<;>omega]
    congr 2
    rw[Bool.eq_iff_iff];simp only[decide_eq_true_iff];omega
  simp only[cond_false,he,Option.bind_some]
  rw[w64 (by omega) (by omega)]
  congr 1
  omega
theorem aap(v:ah)(hb:aP v.lf1≤100000000):akJ v=some ((min v.dep 17:Nat):Int):=by
 simp only[akJ,acg,Mo.den,aF,aA,aB,aG,aH]
 have:amB v 17=some ((min v.dep 17:Nat):Int):=VG FU v 17 (by have:=iZ;omega) hb (by omega) (by omega)
 rw[this];rfl
end Go.Proofs.YtflpefkohpjjpaaGreatDoor
set_option linter.unusedSimpArgs false
set_option linter.unusedVariables false
namespace Go.Proofs.YtflpefkohpjjpaaGreatDoor
open Go.RowKit
theorem size_nil{s:ByteArray}(h:s.size<1):s=⟨#[]⟩:=by
 cases s with
 |mk d=>
  have h:d.size<1:=h
  have:d=#[]:=Array.eq_empty_of_size_eq_zero (by omega)
  rw[this]
theorem Yi{s:ByteArray}(h:¬s.size<1):¬s=⟨#[]⟩:=fun e=>h (by rw[e];exact Nat.zero_lt_one)


theorem wV(s:ByteArray):Q46 s=some (nameB s):=by
 have key:s.size≤32→Tot (zZ s 0) (fun r=>match r with|.inl _=>s.data.toList.all (fun c=>uG c.toNat)=false|.inr _=>s.data.toList.all (fun c=>uG c.toNat)=true):=by
  intro h2
  refine T.qw s.size (by omega) (fun k v=>v=(k:Int)∧∀i (hi:i<s.size),i<k→uG s[i].toNat=true) _ ⟨rfl,fun i _ h=>absurd h (by omega)⟩ ?_ ?_
  ·rintro k v hk ⟨rfl,hv⟩
   have hc:uG s[k].toNat=(decide (33≤s[k].toNat)&&decide (s[k].toNat≤126)&&!(s[k].toNat==46)):=rfl
   have e46:((s[k].toNat:Int)==46)=(s[k].toNat==46):=by rw[Bool.eq_iff_iff];simp;omega
   simp only[nT,lg,lq,Mo.den,aF,aA,aB,aG,aH,iLt hk,cond_true,qM s k hk,Option.bind_some]
   by_cases a1:s[k].toNat<33
   ·rw[decide_eq_true (show(s[k].toNat:Int)<33 by omega)]
    simp only[cond_true,Option.bind_some]
    exact T.ret (BQ s _ k hk (by rw[hc,decide_eq_false (show ¬33≤s[k].toNat by omega)];rfl))
   rw[decide_eq_false (show ¬(s[k].toNat:Int)<33 by omega)];simp only[cond_false,Option.bind_some]
   by_cases a2:126<s[k].toNat
   ·rw[decide_eq_true (show(126:Int)<(s[k].toNat:Int) by omega)]
    simp only[cond_true,Option.bind_some]
    exact T.ret (BQ s _ k hk (by rw[hc,decide_eq_false (show ¬s[k].toNat≤126 by omega),Bool.and_false];rfl))
   rw[decide_eq_false (show ¬(126:Int)<(s[k].toNat:Int) by omega),e46];simp only[cond_false,Option.bind_some]
   cases a3:s[k].toNat==46 with
   |true=>
    simp only[cond_true]
    exact T.ret (BQ s _ k hk (by rw[hc,a3,Bool.not_true,Bool.and_false]))
   |false=>
    simp only[cond_false]
    refine T.ret ⟨inc k (by omega),fun i hi hl=>?_⟩
    rcases Nat.lt_succ_iff_lt_or_eq.1 hl with h3|rfl
    ·exact hv i hi h3
    ·rw[hc,a3,decide_eq_true (show 33≤s[i].toNat by omega),decide_eq_true (show s[i].toNat≤126 by omega)];rfl
  ·rintro v ⟨rfl,hv⟩
   simp only[nT,Mo.den,aF,aA,aB,aG,aH,ltn,cond_false]
   exact T.ret (WH s _ fun i hi=>hv i hi hi)
 unfold Q46 QN lX lY
 simp only[Mo.den,aF,aA,aB,aG,aH]
 by_cases h0:s.size<1
 ·rw[decide_eq_true (show(s.size:Int)<1 by omega)]
  rw[BP s (by omega)];rfl
 rw[decide_eq_false (show ¬(s.size:Int)<1 by omega)];simp only[cond_false]
 by_cases h1:32<s.size
 ·rw[decide_eq_true (show(32:Int)<(s.size:Int) by omega),BO s h1];rfl
 rw[decide_eq_false (show ¬(32:Int)<(s.size:Int) by omega)];simp only[Option.bind_some,cond_false]
 have hz:jK s 0=some s[0]:=qM s 0 (by omega)
 rw[hz,yC s (by omega) (by omega)]
 simp only[Option.bind_some]
 have e36:((s[0].toNat:Int)==36)=(s[0].toNat==36):=by rw[Bool.eq_iff_iff];simp;omega
 rw[e36]
 cases hq:s[0].toNat==36 with
 |true=>rfl
 |false=>
  obtain⟨r,h,hr⟩:=key (by omega)
  simp only[cond_false,Bool.not_false,Bool.true_and,h,Option.bind_some]
  rcases r with r|r
  ·have hr:_=false:=hr
   rw[hr];all_goals rfl
  ·have hr:_=true:=hr
   rw[hr];all_goals rfl

theorem wW(s:ByteArray):Q4 s=some (nameB s):=(show Q4 s=Q46 s by simp only[Q4,amw,Qz,lq,lg,lY,lX,Mo.den,aF,aA,aB,aG,aH,Q46,QN,zZ,nT,lq,lg,lY,lX,Mo.den,aF,aA,aB,aG,aH]).trans (wV s)
theorem LD(s:ByteArray):ahk s=some (nameB s):=(show ahk s=Q46 s by simp only[ahk,acZ,Gl,lq,lg,lY,lX,Mo.den,aF,aA,aB,aG,aH,Q46,QN,zZ,nT,lq,lg,lY,lX,Mo.den,aF,aA,aB,aG,aH]).trans (wV s)
theorem aaq(s:ByteArray):Q53 s=some (nameB s):=by
 rw[←wV s]
 have e:decide (s=(⟨#[]⟩:ByteArray))=decide ((s.size:Int)<1):=by
  by_cases h:s.size<1
  ·rw[decide_eq_true (size_nil h),decide_eq_true (by omega)]
  ·rw[decide_eq_false (Yi h),decide_eq_false (by omega)]
 simp only[Q53,ajh,JW,JV,JU,Ri,Rh,Mo.den,aF,aA,aB,aG,aH,Q46,QN,zZ,nT,lq,lg,lY,lX,Mo.den,aF,aA,aB,aG,aH,e]

theorem aar(s:ByteArray):akQ s=some (!nameB s):=by
 have key:s.size≤32→Tot (Rj s 0) (fun r=>match r with|.inl _=>s.data.toList.all (fun c=>uG c.toNat)=false|.inr _=>s.data.toList.all (fun c=>uG c.toNat)=true):=by
  intro h2
  refine T.qw s.size (by omega) (fun k v=>v=(k:Int)∧∀i (hi:i<s.size),i<k→uG s[i].toNat=true) _ ⟨rfl,fun i _ h=>absurd h (by omega)⟩ ?_ ?_
  ·rintro k v hk ⟨rfl,hv⟩
   have hc:uG s[k].toNat=(decide (33≤s[k].toNat)&&decide (s[k].toNat≤126)&&!(s[k].toNat==46)):=rfl
   have e46:((s[k].toNat:Int)==46)=(s[k].toNat==46):=by rw[Bool.eq_iff_iff];simp;omega
   simp only[sQ,lg,lq,Mo.den,aF,aA,aB,aG,aH,iLt hk,cond_true,qM s k hk,Option.bind_some]
   by_cases a1:s[k].toNat<33
   ·rw[decide_eq_true (show(s[k].toNat:Int)<33 by omega)]
    simp only[cond_true,Option.bind_some]
    exact T.ret (BQ s _ k hk (by rw[hc,decide_eq_false (show ¬33≤s[k].toNat by omega)];rfl))
   rw[decide_eq_false (show ¬(s[k].toNat:Int)<33 by omega)];simp only[cond_false,Option.bind_some]
   by_cases a2:126<s[k].toNat
   ·rw[decide_eq_true (show(126:Int)<(s[k].toNat:Int) by omega)]
    simp only[cond_true,Option.bind_some]
    exact T.ret (BQ s _ k hk (by rw[hc,decide_eq_false (show ¬s[k].toNat≤126 by omega),Bool.and_false];rfl))
   rw[decide_eq_false (show ¬(126:Int)<(s[k].toNat:Int) by omega),e46];simp only[cond_false,Option.bind_some]
   cases a3:s[k].toNat==46 with
   |true=>
    simp only[cond_true]
    exact T.ret (BQ s _ k hk (by rw[hc,a3,Bool.not_true,Bool.and_false]))
   |false=>
    simp only[cond_false]
    refine T.ret ⟨inc k (by omega),fun i hi hl=>?_⟩
    rcases Nat.lt_succ_iff_lt_or_eq.1 hl with h3|rfl
    ·exact hv i hi h3
    ·rw[hc,a3,decide_eq_true (show 33≤s[i].toNat by omega),decide_eq_true (show s[i].toNat≤126 by omega)];rfl
  ·rintro v ⟨rfl,hv⟩
   simp only[sQ,Mo.den,aF,aA,aB,aG,aH,ltn,cond_false]
   exact T.ret (WH s _ fun i hi=>hv i hi hi)
 unfold akQ acy lX lY
 simp only[Mo.den,aF,aA,aB,aG,aH]
 by_cases h0:s.size<1
 ·rw[decide_eq_true (show(s.size:Int)<1 by omega)]
  rw[BP s (by omega)];rfl
 rw[decide_eq_false (show ¬(s.size:Int)<1 by omega)];simp only[cond_false]
 by_cases h1:32<s.size
 ·rw[decide_eq_true (show(32:Int)<(s.size:Int) by omega),BO s h1];rfl
 rw[decide_eq_false (show ¬(32:Int)<(s.size:Int) by omega)];simp only[Option.bind_some,cond_false]
 have hz:jK s 0=some s[0]:=qM s 0 (by omega)
 rw[hz,yC s (by omega) (by omega)]
 simp only[Option.bind_some]
 have e36:((s[0].toNat:Int)==36)=(s[0].toNat==36):=by rw[Bool.eq_iff_iff];simp;omega
 rw[e36]
 cases hq:s[0].toNat==36 with
 |true=>rfl
 |false=>
  obtain⟨r,h,hr⟩:=key (by omega)
  simp only[cond_false,Bool.not_false,Bool.true_and,h,Option.bind_some]
  rcases r with r|r
  ·have hr:_=false:=hr
   rw[hr];all_goals rfl
  ·have hr:_=true:=hr
   rw[hr];all_goals rfl


def hasB(n:ByteArray)(l:List ByteArray):Bool:=l.any fun m=>decide (n=m)
mutual
def ah.snd:ah→Bool
 |.mk k i s l d=>(Fz k i s l.length d.length&&BR k i s)&&(ah.mM l&&aJ.mM [] d)
def ah.mM:List ah→Bool
 |[]=>true
 |x::r=>x.snd&&ah.mM r
def aJ.mM:List ByteArray→List aJ→Bool
 |_,[]=>true
 |seen,.mk n x::r=>(nameB n&&!hasB n seen)&&(x.snd&&aJ.mM (n::seen) r)
end
theorem G6:∀l:List ah,ah.mM l=l.all ah.snd
 |[]=>by unfold ah.mM;rfl
 |x::r=>by unfold ah.mM;rw[G6 r];rfl
def Dk(l:List ByteArray):List (ByteArray×Bool):=l.map fun n=>(n,true)
theorem Dl(n:ByteArray):∀l:List ByteArray,rP (Dk l) n false=hasB n l
 |[]=>rfl
 |x::r=>by
  show(if n=x then true else rP (Dk r) n false)=(decide (n=x)||hasB n r)
  rw[Dl n r]
  by_cases h:n=x
  ·rw[if_pos h,decide_eq_true h];rfl
  ·rw[if_neg h,decide_eq_false h];rfl
theorem G7(seen:List ByteArray)(n:ByteArray)(x:ah)(r:List aJ):aJ.mM seen (.mk n x::r)=((nameB n&&!hasB n seen)&&(x.snd&&aJ.mM (n::seen) r)):=by rw[aJ.mM]
theorem aas(seen:List ByteArray):aJ.mM seen []=true:=by rw[aJ.mM]
theorem afb(v:ah):v.snd=((Fz v.ay v.dG v.fText v.aU.length v.aY.length&&BR v.ay v.dG v.fText)&&(ah.mM v.aU&&aJ.mM [] v.aY)):=by
 cases v with
 |mk k i s l d=>rw[ah.snd];rfl
theorem Tq(R:RB4)(l:List aJ)(hl:l.length≤100000000)(h1:∀x∈l,R.m1 x.fValue=some x.fValue.snd):Mo.den (Xe R l)=some (aJ.mM [] l):=by
 unfold Xe
 simp only[Mo.den,aF,aA,aB,aG,aH]
 have key:Tot (Xd R l 0 []) (fun r=>match r with|.inl _=>aJ.mM [] l=false|.inr _=>aJ.mM [] l=true):=by
  refine T.qw l.length (by omega) (fun k s=>∃m:List ByteArray,m.length=k∧s=((k:Int),Dk m)∧aJ.mM [] l=aJ.mM m (l.drop k)) _ ⟨[],rfl,rfl,rfl⟩ ?_ ?_
  ·rintro k s hk ⟨m,hm,rfl,he⟩
   have hx:=List.getElem?_eq_getElem hk
   have hdr:l.drop k=l[k]::l.drop (k+1):=List.drop_eq_getElem_cons hk
   have q1:=h1 l[k] (List.getElem_mem hk)
   rw[hdr] at he
   obtain⟨n,x⟩:∃n x,l[k]=aJ.mk n x:=by cases l[k] with|mk n x=>exact⟨n,x,rfl⟩
   obtain⟨x,e⟩:=x
   rw[e] at q1 he
   rw[G7] at he
   unfold wP
   simp only[QT,QU,Mo.den,aF,aA,aB,aG,aH,ltt hx,gid hx,cond_true,Option.bind_some,e,aJ.fName,aJ.fValue,wV,Dl]
   simp only[aJ.fValue] at q1
   rw[q1]
   cases a:nameB n with
   |false=>rw[a] at he;exact T.ret (show _=false by rw[he];rfl)
   |true=>
    cases b:hasB n m with
    |true=>rw[a,b] at he;exact T.ret (show _=false by rw[he];rfl)
    |false=>
     cases c:x.snd with
     |false=>rw[a,b,c] at he;exact T.ret (show _=false by rw[he];rfl)
     |true=>
      rw[a,b,c] at he
      refine T.grd (by rw[Dk,List.length_map];unfold maxLen;omega) (T.ret ⟨n::m,by simp[hm],by rw[inc k (by omega)];rfl,by rw[he];rfl⟩)
  ·rintro s ⟨m,hm,rfl,he⟩
   rw[List.drop_length,aas] at he
   unfold wP
   simp only[Mo.den,aF,aA,aB,aG,aH,ltn,cond_false]
   exact T.ret he
 obtain⟨r,h,hr⟩:=key
 rw[h]
 rcases r with r|r
 ·have hr:_=false:=hr
  rw[hr];all_goals rfl
 ·have hr:_=true:=hr
  rw[hr];all_goals rfl
theorem aat(R:RB4)(v:ah)(hl:v.aU.length≤100000000)(h1:∀x∈v.aU,R.m1 x=some x.snd):Tot (Xb R v 0) (fun r=>match r with|.inl _=>ah.mM v.aU=false|.inr _=>ah.mM v.aU=true):=by
 rw[G6]
 refine T.qw v.aU.length (by omega) (fun k s=>s=(k:Int)∧(v.aU.take k).all ah.snd=true) _ ⟨rfl,by simp⟩ ?_ ?_
 ·rintro k s hk ⟨rfl,he⟩
  have hx:=List.getElem?_eq_getElem hk
  simp only[wO,Mo.den,aF,aA,aB,aG,aH,ltt hx,gid hx,cond_true,Option.bind_some,h1 _ (List.getElem_mem hk)]
  cases c:v.aU[k].snd with
  |false=>exact T.ret (afa _ hx c)
  |true=>exact T.ret ⟨inc k (by omega),by rw[Tf _ hx,he,c];rfl⟩
 ·rintro s ⟨rfl,he⟩
  simp only[wO,Mo.den,aF,aA,aB,aG,aH,ltn,cond_false]
  rw[List.take_length] at he
  exact T.ret he
theorem VH:∀(F:Nat) (v:ah),2*aP v.lf1≤F→aP v.lf1≤100000000→(uK F).m1 v=some v.snd:=by
 intro F
 induction F using Nat.strongRecOn with
 |_ F ih=>
 intro v hF hb
 have hp:=dh v
 have hl:=gV v.aU
 have hd:=fZ v.aY
 obtain⟨F,rfl⟩:∃G,F=G+2:=⟨F-2,by omega⟩
 show Mo.den (Xc (uK (F+1)) v)=_
 have hL:=aat (uK (F+1)) v (by omega) fun x hx=>ih (F+1) (by omega) x (by have:=jm hx;omega) (by have:=jm hx;omega)
 have hD:(uK (F+1)).m2 v.aY=some (aJ.mM [] v.aY):=Tq (uK F) v.aY (by omega) fun x hx=>ih F (by omega) x.fValue (by have:=gq hx;rw[eF] at this;omega) (by have:=gq hx;rw[eF] at this;omega)
 obtain⟨r0,hL,hr0⟩:=hL
 clear ih hF hb hp hl hd
 rw[afb]
 unfold Xc
 simp only[QO,QS,Jz,JA,JB,JC,JD,JE,JF,JG,JH,JI,JJ,Mo.den,aF,aA,aB,aG,aH,hL,hD,agq]
 clear hL hD
 generalize v.ay=k at *
 generalize v.dG=i at *
 generalize v.fText=s at *
 generalize v.aU=l at *
 generalize v.aY=d at *
 unfold Fz BR
 have ei:(i != 0)=!(i==0):=rfl
 have es:∀dd:Decidable (s=(⟨#[]⟩:ByteArray)),@decide _ dd=decide (s.size=0):=fun dd=>by
  by_cases h:s.size=0
  ·rw[decide_eq_true h,decide_eq_true (size_nil (by omega))]
  ·rw[decide_eq_false h,decide_eq_false (Yi (by omega))]
 have el:decide ((0:Int)<(l.length:Int))=!(l.length==0):=by
  cases l with
  |nil=>rfl
  |cons x r=>rw[decide_eq_true (show(0:Int)<((x::r).length:Int) by rw[List.length_cons];omega)];rfl
 have ed:decide ((0:Int)<(d.length:Int))=!(d.length==0):=by
  cases d with
  |nil=>rfl
  |cons x r=>rw[decide_eq_true (show(0:Int)<((x::r).length:Int) by rw[List.length_cons];omega)];rfl
 simp only[ei,es,el,ed]
 have e4:decide ((s.size:Int)≤4096)=decide (s.size≤4096):=by rw[Bool.eq_iff_iff];simp;omega
 have e12:((s.size:Int)==12)=decide (s.size=12):=by rw[Bool.eq_iff_iff];simp;omega
 simp only[e4,e12]
 have hl0:(l.length==0)=true→ah.mM l=true:=fun h=>by
  have:l=[]:=List.eq_nil_of_length_eq_zero (by simpa using h)
  rw[this];unfold ah.mM;rfl
 have hd0:(d.length==0)=true→aJ.mM [] d=true:=fun h=>by
  have:d=[]:=List.eq_nil_of_length_eq_zero (by simpa using h)
  rw[this];unfold aJ.mM;rfl
 clear ei es el ed e4 e12
 generalize ah.mM l=A at *
 generalize aJ.mM [] d=B at *
 generalize (l.length==0)=nl at *
 generalize (d.length==0)=nd at *
 generalize Qk s=u at *
 generalize decide (s.size≤4096)=c1 at *
 generalize decide (s.size=12)=c2 at *
 generalize decide (s.size=0)=c3 at *
 have hk:k=1∨k=2∨k=3∨k=4∨k=5∨k=6∨k=7∨k=8∨k=9∨k=10∨k=11∨(k≠1∧k≠2∧k≠3∧k≠4∧k≠5∧k≠6∧k≠7∧k≠8∧k≠9∧k≠10∧k≠11):=by omega
 rcases hk with rfl|rfl|rfl|rfl|rfl|rfl|rfl|rfl|rfl|rfl|rfl|⟨n1,n2,n3,n4,n5,n6,n7,n8,n9,n10,n11⟩
 case inr.inr.inr.inr.inr.inr.inr.inr.inr.inr.inr=>
  have f:∀c:Int,k≠c→(k==c)=false:=fun c h=>by simpa using h
  simp only[bne,f _ n1,f _ n2,f _ n3,f _ n4,f _ n5,f _ n6,f _ n7,f _ n8,f _ n9,f _ n10,f _ n11]
  simp only[n1,n2,n3,n4,n5,n6,n7,n8,n9,n10,n11,or_self,if_false,decide_false]
  cases nl<;>cases nd<;>cases c3<;>cases (i==0)<;>rfl
 all_goals (rcases r0 with r0|r0<;>(have hr0:A=_:=hr0;subst hr0))
 all_goals simp(decide:=true) only[if_true,if_false]
 all_goals (cases nl<;>cases nd<;>cases c3<;>cases (i==0)<;>first|rfl|skip)
 all_goals (first|(cases B<;>first|rfl|(exact absurd (hl0 rfl) (by decide))|(exact absurd (hd0 rfl) (by decide))|skip)|skip)
 all_goals (cases u<;>cases c1<;>cases c2<;>first|rfl|(cases (i==1)<;>rfl)|(cases decide (0≤i)<;>rfl))
theorem aau(v:ah)(hb:aP v.lf1≤100000000):Q13 v=some v.snd:=VH FU v (by have:=iZ;omega) hb
def Ej(v:ah):Bool:=decide (v.cnt≤1024)&&(decide (v.dep≤16)&&v.snd)
theorem wX(v:ah)(hb:aP v.lf1≤100000000):agM v=some (Ej v):=by
 simp only[agM,aci,Mo.den,aF,aA,aB,aG,aH,aao v hb,aap v hb,aau v hb,Option.bind_some,Ej]
 rw[show decide (((min v.cnt 1025:Nat):Int)≤1024)=decide (v.cnt≤1024) by rw[Bool.eq_iff_iff];simp;omega,show decide (((min v.dep 17:Nat):Int)≤16)=decide (v.dep≤16) by rw[Bool.eq_iff_iff];simp;omega]
 cases decide (v.cnt≤1024)<;>cases decide (v.dep≤16)<;>rfl
end Go.Proofs.YtflpefkohpjjpaaGreatDoor
set_option linter.unusedSimpArgs false
set_option linter.unusedVariables false
namespace Go.Proofs.YtflpefkohpjjpaaGreatDoor
open Go.RowKit
def muR(r:aj):Nat:=if r.cu=true then 0 else((r.fJ.size:Int)-r.fat).toNat+1
structure RdI (s:ByteArray) (r:aj):Prop where
 tx:r.fJ=s
 a0:0≤r.fat
 a1:r.fat≤s.size
 l0:0≤r.dS
 l1:r.dS≤64
structure RC (s:ByteArray) (r r':aj) (z c:Nat):Prop where
 i:RdI s r'
 l:r'.dS=r.dS
 m0:muR r=0→muR r'=0∧z≤c
 m1:1≤muR r→muR r'<muR r∧z+100≤100*(muR r-muR r')+c
theorem RC.seq{s:ByteArray}{r r1 r2:aj}{z1 c1 z2 c2:Nat}(h:RC s r r1 z1 c1)(k:RC s r1 r2 z2 c2)(hc:c2≤100):RC s r r2 (z1+z2) (c1+c2):=by
 refine⟨k.i,k.l.trans h.l,fun h0=>?_,fun h1=>?_⟩
 ·obtain⟨a1,a2⟩:=h.m0 h0
  obtain⟨b1,b2⟩:=k.m0 a1
  exact⟨b1,by omega⟩
 ·obtain⟨a1,a2⟩:=h.m1 h1
  rcases Nat.eq_zero_or_pos (muR r1) with h0|h0
  ·obtain⟨b1,b2⟩:=k.m0 h0
   exact⟨by omega,by omega⟩
  ·obtain⟨b1,b2⟩:=k.m1 h0
   exact⟨by omega,by omega⟩
theorem RC.z{s:ByteArray}{r r':aj}{z c z' c':Nat}(h:RC s r r' z c)(hz:z'≤z)(hc:c≤c'):RC s r r' z' c':=
 ⟨h.i,h.l,fun h0=>⟨(h.m0 h0).1,by have:=(h.m0 h0).2;omega⟩,fun h1=>⟨(h.m1 h1).1,by have:=(h.m1 h1).2;omega⟩⟩
end Go.Proofs.YtflpefkohpjjpaaGreatDoor
set_option linter.unusedSimpArgs false
set_option linter.unusedVariables false
namespace Go.Proofs.YtflpefkohpjjpaaGreatDoor
open Go.RowKit
theorem T.al2{α ρ:Type}{F:Int×List α→Option ((Int×List α)⊕ρ)}(Q:ρ→Prop)(step:∀(k:Nat) (m:List α),k≤100000000→m.length≤k→Tot (F ((k:Int),m)) (LP (fun v=>v.1=IntKind.wrap .i64 ((k:Int)+1)∧v.2.length≤k+1∧k<100000000) Q)):Tot (dM F FU (0,[])) Q:=
 T.aiL (fun v=>v.1) (fun v=>(v.2.length:Int)≤v.1) Q rfl (Int.le_refl _) fun k s hk hs hP=>by
  obtain⟨i,m⟩:=s
  obtain rfl:i=(k:Int):=hs
  have hP:(m.length:Int)≤(k:Int):=hP
  refine T.mono (step k m hk (by omega)) ?_
  rintro(v|r) h
  ·refine⟨h.1,?_,h.2.2⟩
   have h1:=h.1
   have h2:=h.2.1
   show(v.2.length:Int)≤v.1
   rw[h1,inc k (by omega)];omega
  ·exact h
theorem iw(v:ah)(h:aP v.lf1≤100000000):Tot (agM v) Any:=⟨_,wX v h,trivial⟩
theorem Tt(a b:ByteArray):aks a b=some (UA a b):=rfl
theorem OZ(p:List ByteArray)(h:p.length≤100000000):akS p=some (!(p.all nameB)):=by
 have key:Tot (acz p 0) (fun r=>match r with|.inl k=>0≤k∧p.all nameB=false|.inr _=>p.all nameB=true):=by
  refine T.qw p.length (by omega) (fun k s=>s=(k:Int)∧(p.take k).all nameB=true) _ ⟨rfl,by simp⟩ ?_ ?_
  ·rintro k s hk ⟨rfl,hv⟩
   have hx:=List.getElem?_eq_getElem hk
   simp only[Aa,Mo.den,aF,aA,aB,aG,aH,ltt hx,gid hx,cond_true,Option.bind_some,aar]
   cases hb:nameB p[k] with
   |false=>exact T.ret ⟨by omega,afa _ hx hb⟩
   |true=>exact T.ret ⟨inc k (by omega),by rw[Tf _ hx,hv,hb];rfl⟩
  ·rintro s ⟨rfl,hv⟩
   simp only[Aa,Mo.den,aF,aA,aB,aG,aH,ltn,cond_false]
   exact T.ret (show p.all nameB=true by rw[List.take_length] at hv;exact hv)
 obtain⟨r,h1,hr⟩:=key
 simp only[akS,acA,Q62,aji,Mo.den,aF,aA,aB,aG,aH,h1,Option.bind_some]
 rcases r with r|r
 ·have hr:0≤r∧p.all nameB=false:=hr
  rw[hr.2]
  show some (decide (0≤r))=_
  rw[decide_eq_true hr.1];rfl
 ·have hr:p.all nameB=true:=hr
  rw[hr];rfl
theorem rW(p:List ByteArray):Q82 p=some (ajR p):=by
 unfold Q82 ajj Rk Rl wQ ajR
 simp only[Mo.den,aF,aA,aB,aG,aH]
 by_cases h0:1≤p.length
 ·rw[decide_eq_true (show(1:Int)≤(p.length:Int) by omega), decide_eq_true h0]
  by_cases h1:p.length≤16
  ·rw[decide_eq_true (show(p.length:Int)≤16 by omega), decide_eq_true h1]
   simp only[cond_true,Option.bind_some,OZ p (by omega),Bool.not_not,Bool.true_and]
  ·rw[decide_eq_false (show ¬(p.length:Int)≤16 by omega),decide_eq_false h1];rfl
 ·rw[decide_eq_false (show ¬(1:Int)≤(p.length:Int) by omega),decide_eq_false h0];rfl
theorem G8(x:Int):0≤IntKind.wrap .u64 x∧IntKind.wrap .u64 x<18446744073709551616:=by
 rw[kY];omega
theorem ank{v:Int}(h:0≤v):tX .u64 v 7=((v.toNat/128:Nat):Int):=by
 obtain⟨a,rfl⟩:=Int.eq_ofNat_of_zero_le h
 rw[Int.toNat_natCast]
 show Int.fdiv (a:Int) (2^min (7:Int).toNat (IntKind.u64).bits)=_
 rw[show(2:Int)^min (7:Int).toNat (IntKind.u64).bits=((128:Nat):Int) from rfl,Int.fdiv_eq_ediv_of_nonneg _ (by omega)]
 omega
def grp(k:Nat)(v:Int):Prop:=0≤v∧v.toNat*128^k<18446744073709551616
theorem grp.next{k:Nat}{v:Int}(h:grp k v):grp (k+1) (tX .u64 v 7):=by
 rw[ank h.1]
 refine⟨by omega,?_⟩
 rw[Int.toNat_natCast,Nat.pow_succ,Nat.mul_comm (128^k) 128,←Nat.mul_assoc]
 exact Nat.lt_of_le_of_lt (Nat.mul_le_mul_right _ (Nat.div_mul_le_self _ _)) h.2
theorem grp.last{v:Int}(h:grp 10 v):decide ((128:Int)≤v)=false:=by
 have h1:=h.1
 have h2:=h.2
 refine decide_eq_false ?_
 have:(128:Nat)^10=1180591620717411303424:=by decide
 rw[this] at h2
 omega
theorem O1(n:Int):∃u,YV n=some u∧grp 0 u:=by
 simp only[YV,UM,Mo.den,aF,aA,aB,aG,aH]
 refine⟨_,rfl,?_⟩
 have h:∀a b:Int,0≤dU .xor .u64 a b∧dU .xor .u64 a b<18446744073709551616:=fun a b=>G8 _
 have:=h (zf .u64 (IntKind.wrap .u64 n) 1) (IntKind.wrap .u64 (tX .i64 n 63))
 exact⟨this.1,by rw[Nat.pow_zero];omega⟩
theorem jf(n:Int):Tot (Q84 n) Any:=by
 obtain⟨u,hu,hg⟩:=O1 n
 unfold Q84 ajf
 simp only[Mo.den,aF,aA,aB,aG,aH,hu,Option.bind_some]
 refine T.bind (R:=Any) (T.qw 10 (by omega) (fun k s=>grp k s.2) _ hg ?_ ?_) fun _ _=>T.any
 ·rintro k ⟨c,v⟩ hk hv
  simp only[F5,Mo.den,aF,aA,aB,aG,aH]
  exact T.ite (fun _=>T.ret hv.next) fun _=>T.ret trivial
 ·rintro⟨c,v⟩ hv
  have hv:grp 10 v:=hv
  simp only[F5,Mo.den,aF,aA,aB,aG,aH,hv.last,cond_false]
  exact T.ret trivial
theorem fH(n:Int)(l:List Int)(hl:l.length≤100000000000):Tot (Q27 n l) (fun r=>r.length≤l.length+11):=by
 obtain⟨u,hu,hg⟩:=O1 n
 unfold Q27 ada
 simp only[Mo.den,aF,aA,aB,aG,aH,hu,Option.bind_some]
 refine T.bind (R:=fun r=>r.2.length≤l.length+10) (T.qw 10 (by omega) (fun k s=>grp k s.1∧s.2.length=l.length+k) _ ⟨hg,rfl⟩ ?_ ?_) fun r hr=>T.grd (by simp only[List.length_cons,List.length_nil];omega) (T.ret ?_)
 ·rintro k ⟨v,m⟩ hk ⟨hv,hm⟩
  have hm:m.length=l.length+k:=hm
  simp only[uZ,Mo.den,aF,aA,aB,aG,aH]
  refine T.ite (fun _=>T.grd (by simp only[List.length_cons,List.length_nil];omega) (T.ret ⟨hv.next,?_⟩)) fun _=>T.ret ?_
  ·rw[List.length_append,List.length_cons,List.length_nil];omega
  ·show m.length≤_;omega
 ·rintro⟨v,m⟩ ⟨hv,hm⟩
  have hv:grp 10 v:=hv
  have hm:m.length=l.length+10:=hm
  simp only[uZ,Mo.den,aF,aA,aB,aG,aH,hv.last,cond_false]
  exact T.ret (by show m.length≤_;omega)
 ·rw[List.length_append,List.length_cons,List.length_nil];omega
end Go.Proofs.YtflpefkohpjjpaaGreatDoor
