/- Printed by dec.py. -/
import Derived.Test.YtflpefkohpjjpaaGreatDoorQP5
set_option linter.unusedSimpArgs false
set_option linter.unusedVariables false
namespace Go.Proofs.YtflpefkohpjjpaaGreatDoor
open Go.RowKit
set_option maxRecDepth 20000
set_option maxHeartbeats 4000000
noncomputable section
abbrev UE(m:aI→aH→Option (aH)):Prop:=∀p_s p_b0,FH (m p_s p_b0) 135 [.ptr 0 0,.dat (aI.lf1 p_s)] [.box 75 (.agg [.own 1,.b_ p_b0.eH]),.row 5 1 (p_b0.bJ.map (lfK .u8))] (fun _=>.tup []) (fun r=>[.box 75 (.agg [.own 2,.b_ r.eH]),.dead,.row 5 1 (r.bJ.map (lfK .u8))])
abbrev ad7(m:(List bH)→aH→Option (aH)):Prop:=∀p_l p_b0,FH (m p_l p_b0) 210 [.ptr 0 0,.lf (.rows 22 (p_l.map bH.lf)),.raw (.func (.func 211) #[] #[])] [.box 75 (.agg [.own 1,.b_ p_b0.eH]),.row 5 1 (p_b0.bJ.map (lfK .u8))] (fun _=>.tup []) (fun r=>[.box 75 (.agg [.own 2,.b_ r.eH]),.dead,.row 5 1 (r.bJ.map (lfK .u8))])
abbrev ad8(m:(List aI)→aH→Option (aH)):Prop:=∀p_l p_b0,FH (m p_l p_b0) 212 [.ptr 0 0,.lf (.rows 21 (p_l.map aI.lf)),.raw (.func (.func 135) #[] #[])] [.box 75 (.agg [.own 1,.b_ p_b0.eH]),.row 5 1 (p_b0.bJ.map (lfK .u8))] (fun _=>.tup []) (fun r=>[.box 75 (.agg [.own 2,.b_ r.eH]),.dead,.row 5 1 (r.bJ.map (lfK .u8))])
abbrev ad9(m:bH→aH→Option (aH)):Prop:=∀p_p p_b0,FH (m p_p p_b0) 211 [.ptr 0 0,.dat (bH.lf1 p_p)] [.box 75 (.agg [.own 1,.b_ p_b0.eH]),.row 5 1 (p_b0.bJ.map (lfK .u8))] (fun _=>.tup []) (fun r=>[.box 75 (.agg [.own 2,.b_ r.eH]),.dead,.row 5 1 (r.bJ.map (lfK .u8))])
structure KL where
 m1:(p_s:aI)→(p_b0:aH)→Option (aH)
 ok1:UE m1
 m2:(p_l:List bH)→(p_b0:aH)→Option (aH)
 ok2:ad7 m2
 m3:(p_l:List aI)→(p_b0:aH)→Option (aH)
 ok3:ad8 m3
 m4:(p_p:bH)→(p_b0:aH)→Option (aH)
 ok4:ad9 m4
def ajj(R_:KL)(p_s:aI)(p_b0:aH):Mo (aH):=
 .cH [0,1] (iF p_s.iZ p_b0) fun r0 _=>
 .cH [0,3] (o9 p_s.jE r0) fun r1 _=>
 .cH [0,4] (vC p_s.kT r1) fun r2 _=>
 .cH [0,5] (o9 p_s.jF r2) fun r3 _=>
 .cH [0,6] (vC p_s.kU r3) fun r4 _=>
 .cH [0,7] (ad4 p_s.iV r4) fun r5 _=>
 .cH [0,8] (iF p_s.jQ r5) fun r6 _=>
 .cH [0,9] (iF p_s.jR r6) fun r7 _=>
 .cH [0,10] (Ir p_s.dZ r7) fun r8 _=>
 .cH [0,11] (R_.ok2 p_s.dD r8) fun r9 _=>
 .cH [0,12] (o9 p_s.lX r9) fun r10 _=>
 .cH [0,13] (R_.ok3 p_s.eU r10) fun r11 _=>
 .cH [0,14] (o9 p_s.gB r11) fun r12 _=>
 .ret ⟨[.kill 2,.mvn 15],[],[(16,2)],3⟩ (r12)
theorem ajk(R_:KL):UE fun p_s p_b0=>Mo.den (ajj R_ p_s p_b0):=fun _ _=>fH Tryz.func135
def af9(R_:KL)(p_l:List bH):(Int×Bool×(List Int))→Mo ((Int×Bool×(List Int))⊕(Bool×(List Int))):=fun(v0,v1,l0)=>
 .iB (decide ((v0:Int)<(p_l.length:Int))) (.stop)<|
 .rt [] 3 (.inr (v1,l0))
def ajl(R_:KL)(p_l:List bH)(p_b0:aH):Mo (aH):=
 .nu p_l bH.lf<|
 .ask (Q26 (p_l.length:Int) p_b0) fun r0 h0=>
 .say [.kZ [0,1] (.tup []) [.box 75 (.agg [.own 2,.b_ r0.eH]),.dead,.row 5 1 (r0.bJ.map (lfK .u8))],.num p_l.length] (okc (iF _ _ _ h0) (ok1 (ln_ p_l bH.lf)))<|
 .l1 Tryz.f210 2 [1,1,0] 0 (.exit 0) (fun(v0,v1,l0)=>⟨[(0,.ptr 0 0),(2,.raw (.func (.func 211) #[] #[])),(12,.lf (.rows 22 (p_l.map bH.lf))),(13,.i_ (p_l.length:Int)),(14,.i_ v0)],[.box 75 (.agg [.own 2,.b_ v1]),.dead,.row 5 1 (l0.map (lfK .u8))]⟩) (fun r_=>⟨[],[.box 75 (.agg [.own 2,.b_ r_.1]),.dead,.row 5 1 (r_.2.map (lfK .u8))]⟩) (af9 R_ p_l) (0,r0.eH,r0.bJ) fun r1=>
 .ret ⟨[.mvn 2],[],[(3,2)],3⟩ (aH.mk r1.2 r1.1)
theorem ajm(R_:KL):ad7 fun p_l p_b0=>Mo.den (ajl R_ p_l p_b0):=fun _ _=>fH Tryz.func210
def aga(R_:KL)(p_l:List aI):(Int×Bool×(List Int))→Mo ((Int×Bool×(List Int))⊕(Bool×(List Int))):=fun(v0,v1,l0)=>
 .iB (decide ((v0:Int)<(p_l.length:Int))) (.stop)<|
 .rt [] 3 (.inr (v1,l0))
def ajn(R_:KL)(p_l:List aI)(p_b0:aH):Mo (aH):=
 .nu p_l aI.lf<|
 .ask (Q26 (p_l.length:Int) p_b0) fun r0 h0=>
 .say [.kZ [0,1] (.tup []) [.box 75 (.agg [.own 2,.b_ r0.eH]),.dead,.row 5 1 (r0.bJ.map (lfK .u8))],.num p_l.length] (okc (iF _ _ _ h0) (ok1 (ln_ p_l aI.lf)))<|
 .l1 Tryz.f212 2 [1,1,0] 0 (.exit 0) (fun(v0,v1,l0)=>⟨[(0,.ptr 0 0),(2,.raw (.func (.func 135) #[] #[])),(12,.lf (.rows 21 (p_l.map aI.lf))),(13,.i_ (p_l.length:Int)),(14,.i_ v0)],[.box 75 (.agg [.own 2,.b_ v1]),.dead,.row 5 1 (l0.map (lfK .u8))]⟩) (fun r_=>⟨[],[.box 75 (.agg [.own 2,.b_ r_.1]),.dead,.row 5 1 (r_.2.map (lfK .u8))]⟩) (aga R_ p_l) (0,r0.eH,r0.bJ) fun r1=>
 .ret ⟨[.mvn 2],[],[(3,2)],3⟩ (aH.mk r1.2 r1.1)
theorem ajo(R_:KL):ad8 fun p_l p_b0=>Mo.den (ajn R_ p_l p_b0):=fun _ _=>fH Tryz.func212
def ajp(R_:KL)(p_p:bH)(p_b0:aH):Mo (aH):=
 .cH [0,1] (vw p_p.fName p_b0) fun r0 _=>
 .cH [0,3] (R_.ok1 p_p.aZ r0) fun r1 _=>
 .ret ⟨[.kill 2,.mvn 4],[],[(5,2)],3⟩ (r1)
theorem ajq(R_:KL):ad9 fun p_p p_b0=>Mo.den (ajp R_ p_p p_b0):=fun _ _=>fH Tryz.func211
def rZ:Nat→KL
 |0=>{ m1:=fun p_s p_b0=>none,ok1:=fun _ _ _ h=>(by cases h),m2:=fun p_l p_b0=>none,ok2:=fun _ _ _ h=>(by cases h),m3:=fun p_l p_b0=>none,ok3:=fun _ _ _ h=>(by cases h),m4:=fun p_p p_b0=>none,ok4:=fun _ _ _ h=>(by cases h) }
 |n_+1=>{ m1:=fun p_s p_b0=>Mo.den (ajj (rZ n_) p_s p_b0),ok1:=ajk (rZ n_),m2:=fun p_l p_b0=>Mo.den (ajl (rZ n_) p_l p_b0),ok2:=ajm (rZ n_),m3:=fun p_l p_b0=>Mo.den (ajn (rZ n_) p_l p_b0),ok3:=ajo (rZ n_),m4:=fun p_p p_b0=>Mo.den (ajp (rZ n_) p_p p_b0),ok4:=ajq (rZ n_) }
def avl(p_s:aI)(p_b0:aH):Option (aH):=(rZ FU).m1 p_s p_b0
theorem anY:UE avl:=(rZ FU).ok1
def ar7(p_d:bU)(p_b0:aH):Mo (aH):=
 .cH [0,1] (vw p_d.fName p_b0) fun r0 _=>
 .cH [0,3] (anX p_d.bM r0) fun r1 _=>
 .cH [0,4] (anY p_d.aZ r1) fun r2 _=>
 .cH [0,5] (iF p_d.lg r2) fun r3 _=>
 .cH [0,6] (iF p_d.jo r3) fun r4 _=>
 .ret ⟨[.kill 2,.mvn 7],[],[(8,2)],3⟩ (r4)
def avm(p_d:bU)(p_b0:aH):Option (aH):=Mo.den (ar7 p_d p_b0)
theorem anZ(p_d:bU)(p_b0:aH):FH (avm p_d p_b0) 77 [.ptr 0 0,.dat (bU.lf1 p_d)] [.box 75 (.agg [.own 1,.b_ p_b0.eH]),.row 5 1 (p_b0.bJ.map (lfK .u8))] (fun _=>.tup []) (fun r=>[.box 75 (.agg [.own 2,.b_ r.eH]),.dead,.row 5 1 (r.bJ.map (lfK .u8))]):=fH Tryz.func77
def agb(p_l:List Int):(Int×Bool×(List Int))→Mo ((Int×Bool×(List Int))⊕(Bool×(List Int))):=fun(v0,v1,l0)=>
 .iB (decide ((v0:Int)<(p_l.length:Int))) (.stop)<|
 .rt [] 3 (.inr (v1,l0))
def ar8(p_l:List Int)(p_b0:aH):Mo (aH):=
 .nu p_l lfI<|
 .ask (Q26 (p_l.length:Int) p_b0) fun r0 h0=>
 .say [.kZ [0,1] (.tup []) [.box 75 (.agg [.own 2,.b_ r0.eH]),.dead,.row 5 1 (r0.bJ.map (lfK .u8))],.num p_l.length] (okc (iF _ _ _ h0) (ok1 (ln_ p_l lfI)))<|
 .l1 Tryz.f80 2 [1,1,0] 0 (.exit 0) (fun(v0,v1,l0)=>⟨[(0,.ptr 0 0),(2,.raw (.func (.func 81) #[] #[])),(12,.lf (.rows 1 (p_l.map lfI))),(13,.i_ (p_l.length:Int)),(14,.i_ v0)],[.box 75 (.agg [.own 2,.b_ v1]),.dead,.row 5 1 (l0.map (lfK .u8))]⟩) (fun r_=>⟨[],[.box 75 (.agg [.own 2,.b_ r_.1]),.dead,.row 5 1 (r_.2.map (lfK .u8))]⟩) (agb p_l) (0,r0.eH,r0.bJ) fun r1=>
 .ret ⟨[.mvn 2],[],[(3,2)],3⟩ (aH.mk r1.2 r1.1)
def avn(p_l:List Int)(p_b0:aH):Option (aH):=Mo.den (ar8 p_l p_b0)
theorem an0(p_l:List Int)(p_b0:aH):FH (avn p_l p_b0) 80 [.ptr 0 0,.lf (.rows 1 (p_l.map lfI)),.raw (.func (.func 81) #[] #[])] [.box 75 (.agg [.own 1,.b_ p_b0.eH]),.row 5 1 (p_b0.bJ.map (lfK .u8))] (fun _=>.tup []) (fun r=>[.box 75 (.agg [.own 2,.b_ r.eH]),.dead,.row 5 1 (r.bJ.map (lfK .u8))]):=fH Tryz.func80
abbrev UF(m:aG→aH→Option (aH)):Prop:=∀p_x p_b0,FH (m p_x p_b0) 36 [.ptr 0 0,.dat (aG.lf1 p_x)] [.box 75 (.agg [.own 1,.b_ p_b0.eH]),.row 5 1 (p_b0.bJ.map (lfK .u8))] (fun _=>.tup []) (fun r=>[.box 75 (.agg [.own 2,.b_ r.eH]),.dead,.row 5 1 (r.bJ.map (lfK .u8))])
abbrev aea(m:(List aG)→aH→Option (aH)):Prop:=∀p_l p_b0,FH (m p_l p_b0) 79 [.ptr 0 0,.lf (.rows 78 (p_l.map aG.lf)),.raw (.func (.func 36) #[] #[])] [.box 75 (.agg [.own 1,.b_ p_b0.eH]),.row 5 1 (p_b0.bJ.map (lfK .u8))] (fun _=>.tup []) (fun r=>[.box 75 (.agg [.own 2,.b_ r.eH]),.dead,.row 5 1 (r.bJ.map (lfK .u8))])
structure agc where
 m1:(p_x:aG)→(p_b0:aH)→Option (aH)
 ok1:UF m1
 m2:(p_l:List aG)→(p_b0:aH)→Option (aH)
 ok2:aea m2
def ajr(R_:agc)(p_x:aG)(p_b0:aH):Mo (aH):=
 .cH [0,1] (iF p_x.aF p_b0) fun r0 _=>
 .cH [0,3] (vw p_x.gu r0) fun r1 _=>
 .cH [0,4] (vC p_x.fU r1) fun r2 _=>
 .cH [0,5] (vC p_x.aU r2) fun r3 _=>
 .cH [0,6] (vC p_x.dK r3) fun r4 _=>
 .cH [0,7] (anZ p_x.dS r4) fun r5 _=>
 .cH [0,8] (anW p_x.aY r5) fun r6 _=>
 .cH [0,9] (vw p_x.mM r6) fun r7 _=>
 .cH [0,10] (iF p_x.eu r7) fun r8 _=>
 .cH [0,11] (R_.ok2 p_x.bQ r8) fun r9 _=>
 .cH [0,12] (an0 p_x.eG r9) fun r10 _=>
 .cH [0,13] (o9 p_x.gQ r10) fun r11 _=>
 .ret ⟨[.kill 2,.mvn 14],[],[(15,2)],3⟩ (r11)
theorem ajs(R_:agc):UF fun p_x p_b0=>Mo.den (ajr R_ p_x p_b0):=fun _ _=>fH Tryz.func36
def agd(R_:agc)(p_l:List aG):(Int×Bool×(List Int))→Mo ((Int×Bool×(List Int))⊕(Bool×(List Int))):=fun(v0,v1,l0)=>
 .iB (decide ((v0:Int)<(p_l.length:Int))) (.stop)<|
 .rt [] 3 (.inr (v1,l0))
def ajt(R_:agc)(p_l:List aG)(p_b0:aH):Mo (aH):=
 .nu p_l aG.lf<|
 .ask (Q26 (p_l.length:Int) p_b0) fun r0 h0=>
 .say [.kZ [0,1] (.tup []) [.box 75 (.agg [.own 2,.b_ r0.eH]),.dead,.row 5 1 (r0.bJ.map (lfK .u8))],.num p_l.length] (okc (iF _ _ _ h0) (ok1 (ln_ p_l aG.lf)))<|
 .l1 Tryz.f79 2 [1,1,0] 0 (.exit 0) (fun(v0,v1,l0)=>⟨[(0,.ptr 0 0),(2,.raw (.func (.func 36) #[] #[])),(12,.lf (.rows 78 (p_l.map aG.lf))),(13,.i_ (p_l.length:Int)),(14,.i_ v0)],[.box 75 (.agg [.own 2,.b_ v1]),.dead,.row 5 1 (l0.map (lfK .u8))]⟩) (fun r_=>⟨[],[.box 75 (.agg [.own 2,.b_ r_.1]),.dead,.row 5 1 (r_.2.map (lfK .u8))]⟩) (agd R_ p_l) (0,r0.eH,r0.bJ) fun r1=>
 .ret ⟨[.mvn 2],[],[(3,2)],3⟩ (aH.mk r1.2 r1.1)
theorem aju(R_:agc):aea fun p_l p_b0=>Mo.den (ajt R_ p_l p_b0):=fun _ _=>fH Tryz.func79
def Fz:Nat→agc
 |0=>{ m1:=fun p_x p_b0=>none,ok1:=fun _ _ _ h=>(by cases h),m2:=fun p_l p_b0=>none,ok2:=fun _ _ _ h=>(by cases h) }
 |n_+1=>{ m1:=fun p_x p_b0=>Mo.den (ajr (Fz n_) p_x p_b0),ok1:=ajs (Fz n_),m2:=fun p_l p_b0=>Mo.den (ajt (Fz n_) p_l p_b0),ok2:=aju (Fz n_) }
def avo(p_x:aG)(p_b0:aH):Option (aH):=(Fz FU).m1 p_x p_b0
theorem an1:UF avo:=(Fz FU).ok1
def ar9(p_e:bY):Mo (ByteArray×Int):=
 .cl (vk p_e) fun r0 _=>
 .iB (r0 != 0) (.stop)<|
 .say [.at_ 12 3,.aqa 1 0 5,.mg 2 (([]:List Int).map (lfK .u8))] (ok1 (by simp[lfI,lfK]:(([]:List Int).map (lfK .u8))=[]))<|
 .cH [1,2] (iF p_e.BQ (aH.mk ([]:List Int) false)) fun r1 _=>
 .cH [1,3] (iF p_e.eu r1) fun r2 _=>
 .cH [1,4] (vw p_e.pJ r2) fun r3 _=>
 .cH [1,5] (iF p_e.BR r3) fun r4 _=>
 .cH [1,6] (an1 p_e.dI r4) fun r5 _=>
 .iB (r5.eH) (.stop)<|
 .say [.nums r5.bJ] (ok1 (by simp[lfI,lfK]:(r5.bJ.map (lfK .u8))=r5.bJ.map fun n=>[Lf.int .u8 n]))<|
 .ret (aS 2) (strOfNums r5.bJ,0)
def auq(p_e:bY):Option (ByteArray×Int):=Mo.den (ar9 p_e)
theorem UG(p_e:bY):FV (auq p_e) 14 [.dat (bY.lf1 p_e)] (fun r=>.tup [.lf (.str r.1),.i_ r.2]):=dA Tryz.func14
def agf(p_at:Int)(p_s:ByteArray):Mo (Bool):=
 .iG 4002 (decide ((p_at:Int)<0)) (.stop)<|
 .rt [0,1,17] 0 (decide (((p_s.size:Int):Int)<p_at))
def agh(b0:UInt8)(p_at:Int)(p_s:ByteArray)(v0:Int)(v1:Int):Mo (Bool):=
 .iG 20002 (v1==9) (.stop)<|
 .rt [0,1,7,8,9,36] 0 (false)
def abB(b0:UInt8)(p_at:Int)(p_s:ByteArray)(r0:Bool)(v0:Int)(v1:Int):Mo (Bool):=
 .iG 20006 (r0) (.stop)<|
 .iG 20009 (decide ((0:Int)<v1)) (.stop)<|
 .rt [0,1,7,8,9,44] 0 (false)
def abC(p_at:Int)(p_s:ByteArray):(Int×Int)→Mo ((Int×Int)⊕(Int×Int×Int)):=fun(v0,v1)=>
 .iB ((IntKind.wrap .i64 (p_at+v1))==(p_s.size:Int)) (.rt [4,5,6] 0 (.inr (0,0,5)))<|
 .ask (kN p_s (IntKind.wrap .i64 (p_at+v1))) fun b0 h0=>
 .say [.byt b0] (ok1 (fQ h0))<|
 .sf Tryz.f86 0 [1,1,1,1,0,0,0,0,1,1,0,0] 0 6 9 [(0,.lf (.str p_s)),(1,.i_ p_at),(7,.lf (.int .u64 v0)),(8,.i_ v1),(9,.lf (.int .u8 (b0.toNat:Int)))] [] 36 (agh b0 p_at p_s v0 v1) fun r0=>
 .sb Tryz.f86 0 [1,1,1,1,0,0,0,0,1,1,0,0] 6 8 9 [(0,.lf (.str p_s)),(1,.i_ p_at),(7,.lf (.int .u64 v0)),(8,.i_ v1),(9,.lf (.int .u8 (b0.toNat:Int)))] [] 36 44 r0 (abB b0 p_at p_s r0 v0 v1) fun r1=>
 .iB (r1) (.stop)<|
 .grd ((0:Int)≤(IntKind.wrap .i64 (7*v1))) fun h1=>
 .say [] (ok1 h1)<|
 .iB (decide (((b0.toNat:Int):Int)<128)) (.say [] (ok1 (by decide:(0:Int)≤1))<|
 .rt [4,5,6] 0 (.inr (gX .xor .i64 (IntKind.wrap .i64 (Ah .u64 (gX .or .u64 v0 (ML .u64 (IntKind.wrap .u64 (gX .and .u8 (b0.toNat:Int) 127)) (IntKind.wrap .i64 (7*v1)))) 1)) (IntKind.wrap .i64 (0-(IntKind.wrap .i64 (gX .and .u64 (gX .or .u64 v0 (ML .u64 (IntKind.wrap .u64 (gX .and .u8 (b0.toNat:Int) 127)) (IntKind.wrap .i64 (7*v1)))) 1)))),IntKind.wrap .i64 ((IntKind.wrap .i64 (p_at+v1))+1),0)))<|
 .stop
def asa(p_s:ByteArray)(p_at:Int):Mo (Int×Int×Int):=
 .jk Tryz.f86 0 [1,0,0] 9 (fun r_=>⟨[(0,.lf (.str p_s)),(1,.i_ p_at),(17,.b_ r_)],[]⟩) ⟨[(0,.lf (.str p_s)),(1,.i_ p_at)],[]⟩ (agf p_at p_s) fun r0=>
 .iB (r0) (.stop)<|
 .l1 Tryz.f86 0 [1,1,1,1,0] 0 .ret (fun(v0,v1)=>⟨[(0,.lf (.str p_s)),(1,.i_ p_at),(7,.lf (.int .u64 v0)),(8,.i_ v1)],[]⟩) (fun r_=>⟨[(4,.i_ r_.1),(5,.i_ r_.2.1),(6,.i_ r_.2.2)],[]⟩) (abC p_at p_s) (0,0) fun r1=>
 .ret (aS 3) (r1.1,r1.2.1,r1.2.2)
def aur(p_s:ByteArray)(p_at:Int):Option (Int×Int×Int):=Mo.den (asa p_s p_at)
theorem an2(p_s:ByteArray)(p_at:Int):FV (aur p_s p_at) 86 [.lf (.str p_s),.i_ p_at] (fun r=>.tup [.i_ r.1,.i_ r.2.1,.i_ r.2.2]):=dA Tryz.func86
def aus(p_b0:aj):Mo (Int×aj):=
 .iB (p_b0.eH) (.rt [0] 1 (0,p_b0))<|
 .ask (aur p_b0.iI p_b0.fat) fun r0 h0=>
 .say [.iY (.q 0 (.q 1 (.q 2 (.q 3 (.q 4 (.q 5 (.q 6 (.q 7 (.l 8 (.q 9 (.q 10 (.q 11 (.q 12 (.q 13 (.q 14 (.q 15 .fin)))))))))))))))) (some 8) [] [.res (.tup [.i_ r0.1,.i_ r0.2.1,.i_ r0.2.2])] [0,3,4,5] 1 [(0,.ptr 0 0),(3,.i_ r0.1),(4,.i_ r0.2.1),(5,.i_ r0.2.2)] [bP p_b0]] (okc (an2 _ _ _ h0) (ok1 (rf_ ⟨[(0,.ptr 0 0),(3,.i_ r0.1),(4,.i_ r0.2.1),(5,.i_ r0.2.2)],[bP p_b0]⟩)))<|
 .iB (r0.2.2 != 0) (.rt [0] 1 (0,aj.mk p_b0.iI p_b0.fat p_b0.fK true))<|
 .rt [0] 1 (r0.1,aj.mk p_b0.iI r0.2.1 p_b0.fK p_b0.eH)
def Q42(p_b0:aj):Option (Int×aj):=Mo.den (aus p_b0)
theorem iH(p_b0:aj):FH (Q42 p_b0) 38 [.ptr 0 0] [bP p_b0] (fun r=>.i_ r.1) (fun r=>[bP r.2]):=fH Tryz.func38
def agi(r0:Int×aj):Mo (Bool):=
 .say [.order [(true,0),(true,1),(true,2),(true,3),(true,4),(true,5),(true,6),(true,7),(true,8),(true,9),(true,10),(true,11),(true,12),(true,13),(true,14),(true,15),(true,16),(true,17),(true,18),(true,19),(true,20),(true,21)] none []] ok0<|
 .iG 6004 (r0.2.eH) (.rt [0,3,27] 1 (true))<|
 .iG 6008 (decide ((r0.1:Int)<0)) (.stop)<|
 .rt [0,3,27] 1 (decide ((IntKind.wrap .i64 ((r0.2.iI.size:Int)-r0.2.fat):Int)<r0.1))
def asb(p_b0:aj):Mo (ByteArray×aj):=
 .cH [0] (iH p_b0) fun r0 _=>
 .jk Tryz.f39 1 [1,1,0,0] 11 (fun r_=>⟨[(0,.ptr 0 0),(3,.i_ r0.1),(27,.b_ r_)],[bP r0.2]⟩) ⟨[(0,.ptr 0 0),(3,.i_ r0.1)],[bP r0.2]⟩ (agi r0) fun r1=>
 .iB (r1) (.rt [0] 1 (⟨#[]⟩,aj.mk r0.2.iI r0.2.fat r0.2.fK true))<|
 .say [.order [(true,0),(true,1),(true,2),(true,3),(true,4),(true,5),(true,6),(true,7),(true,8),(true,9),(true,10),(true,11),(true,12),(true,13),(true,14),(true,15)] none []] ok0<|
 .grd ((0:Int)≤(IntKind.wrap .i64 ((IntKind.wrap .i64 (r0.2.fat+r0.1))-r0.1))∧(IntKind.wrap .i64 ((IntKind.wrap .i64 (r0.2.fat+r0.1))-r0.1))≤(IntKind.wrap .i64 (r0.2.fat+r0.1))∧(IntKind.wrap .i64 (r0.2.fat+r0.1))≤(r0.2.iI.size:Int)) fun h0=>
 .say [] (ok1 h0)<|
 .rt [0] 1 (r0.2.iI.extract (IntKind.wrap .i64 ((IntKind.wrap .i64 (r0.2.fat+r0.1))-r0.1)).toNat (IntKind.wrap .i64 (r0.2.fat+r0.1)).toNat,aj.mk r0.2.iI (IntKind.wrap .i64 (r0.2.fat+r0.1)) r0.2.fK r0.2.eH)
def avp(p_b0:aj):Option (ByteArray×aj):=Mo.den (asb p_b0)
theorem vF(p_b0:aj):FH (avp p_b0) 39 [.ptr 0 0] [bP p_b0] (fun r=>.lf (.str r.1)) (fun r=>[bP r.2]):=fH Tryz.func39
theorem avq:Tc (opsOf (Code.sub (bodyC Tryz.f93) [1,0,0])) [(true,0),(true,1),(true,2),(true,3),(true,4),(true,5),(true,6),(true,7),(true,8),(true,9),(true,10),(true,11),(true,12),(true,13),(true,14),(true,15),(true,16),(true,17),(true,18),(true,19),(true,20),(true,21),(true,22),(true,23),(true,24),(true,25),(true,26),(true,27)] none=true:=by kernel_rfl
def agj(p_b0:aj):Mo (Bool):=
 .say [.Ag [(true,0),(true,1),(true,2),(true,3),(true,4),(true,5),(true,6),(true,7),(true,8),(true,9),(true,10),(true,11),(true,12),(true,13),(true,14),(true,15),(true,16),(true,17),(true,18),(true,19),(true,20),(true,21),(true,22),(true,23),(true,24),(true,25),(true,26),(true,27)] none []] (ok1 avq)<|
 .iG 4004 (p_b0.eH) (.rt [0,30] 1 (true))<|
 .iG 4016 (decide (((p_b0.iI.size:Int):Int)≤p_b0.fat)) (.stop)<|
 .ask (kN p_b0.iI p_b0.fat) fun b0 h0=>
 .say [.byt b0] (ok1 (fQ h0))<|
 .rt [0,30] 1 (decide ((1:Int)<(b0.toNat:Int)))
def asc(p_b0:aj):Mo (Bool×aj):=
 .jk Tryz.f93 1 [1,0,0] 9 (fun r_=>⟨[(0,.ptr 0 0),(30,.b_ r_)],[bP p_b0]⟩) ⟨[(0,.ptr 0 0)],[bP p_b0]⟩ (agj p_b0) fun r0=>
 .iB (r0) (.rt [0] 1 (false,aj.mk p_b0.iI p_b0.fat p_b0.fK true))<|
 .say [.order [(true,0),(true,1),(true,2),(true,3),(true,4),(true,5),(true,6),(true,7),(true,8),(true,9),(true,10),(true,11)] none []] ok0<|
 .ask (kN p_b0.iI (IntKind.wrap .i64 ((IntKind.wrap .i64 (p_b0.fat+1))-1))) fun b0 h0=>
 .say [.byt b0] (ok1 (fQ h0))<|
 .rt [0] 1 ((b0.toNat:Int)==1,aj.mk p_b0.iI (IntKind.wrap .i64 (p_b0.fat+1)) p_b0.fK p_b0.eH)
def avr(p_b0:aj):Option (Bool×aj):=Mo.den (asc p_b0)
theorem qy(p_b0:aj):FH (avr p_b0) 93 [.ptr 0 0] [bP p_b0] (fun r=>.b_ r.1) (fun r=>[bP r.2]):=fH Tryz.func93
def ase(p_b0:aj):Mo (ah×aj):=
 .cH [0] (qy p_b0) fun r0 _=>
 .iB (!r0.1) (.ret ⟨[.kill 1],[0],[],1⟩ (ah.mk 0 0 ⟨#[]⟩ [] [],r0.2))<|
 .ask (aqV r0.2.iI r0.2.fat) fun r1 h0=>
 .say [.iY (.q 0 (.q 1 (.q 2 (.q 3 (.q 4 (.q 5 (.q 6 (.q 7 (.alt 8 (.q 9 (.q 10 (.q 11 (.q 12 (.l 13 (.l 14 (.q 15 (.q 16 .fin)))))))) (.l 13 (.l 8 (.q 9 (.q 10 (.q 11 (.q 12 (.l 14 (.q 15 (.q 16 .fin)))))))))))))))))) none [2] [.both [.at_ 8 8,.resv 1,.res (.tup [.dat (ah.lf1 r1.1),.i_ r1.2.1,.i_ r1.2.2]),.slot 2] [.at_ 8 13,.resv 1,.slot 2,.res (.tup [.dat (ah.lf1 r1.1),.i_ r1.2.1,.i_ r1.2.2])]] [0,2,3,4,5] 3 [(0,.ptr 0 0),(2,.ptr 1 0),(3,.ptr 2 0),(4,.i_ r1.2.1),(5,.i_ r1.2.2)] [bP r0.2,.box 25 (.agg [.i_ 0,.i_ 0,.lf (.str ⟨#[]⟩),.cZ 5,.cZ 6]),.box 25 (.agg [.i_ r1.1.aF,.i_ r1.1.fA,.lf (.str r1.1.fText),.lf (.rows 5 (r1.1.aW.map ah.lf)),.lf (.rows 6 (r1.1.aU.map aJ.lf))])]] (okc (adH _ _ _ h0) (okc (rf_ ⟨[(0,.ptr 0 0),(2,.ptr 1 0),(3,.ptr 2 0),(4,.i_ r1.2.1),(5,.i_ r1.2.2)],[bP r0.2,.box 25 (.agg [.i_ 0,.i_ 0,.lf (.str ⟨#[]⟩),.cZ 5,.cZ 6]),.box 25 (.agg [.i_ r1.1.aF,.i_ r1.1.fA,.lf (.str r1.1.fText),.lf (.rows 5 (r1.1.aW.map ah.lf)),.lf (.rows 6 (r1.1.aU.map aJ.lf))])]⟩) (okc (adH _ _ _ h0) (ok1 (rf_ ⟨[(0,.ptr 0 0),(2,.ptr 1 0),(3,.ptr 2 0),(4,.i_ r1.2.1),(5,.i_ r1.2.2)],[bP r0.2,.box 25 (.agg [.i_ 0,.i_ 0,.lf (.str ⟨#[]⟩),.cZ 5,.cZ 6]),.box 25 (.agg [.i_ r1.1.aF,.i_ r1.1.fA,.lf (.str r1.1.fText),.lf (.rows 5 (r1.1.aW.map ah.lf)),.lf (.rows 6 (r1.1.aU.map aJ.lf))])]⟩)))))<|
 .iB (r1.2.2 != 0) (.stop)<|
 .ret ⟨[.kill 1,.kill 2],[0],[],1⟩ (r1.1,aj.mk r0.2.iI r1.2.1 r0.2.fK r0.2.eH)
def avs(p_b0:aj):Option (ah×aj):=Mo.den (ase p_b0)
theorem vG(p_b0:aj):FH (avs p_b0) 87 [.ptr 0 0] [bP p_b0] (fun r=>.dat (ah.lf1 r.1)) (fun r=>[bP r.2]):=fH Tryz.func87
def tY(r0:Int×aj):Mo (Bool):=
 .iG 6002 (decide ((r0.1:Int)<0)) (.stop)<|
 .rt [0,1,5,18] 1 (decide ((64:Int)≤r0.2.fK))
def tZ(r0:Int×aj)(r1:Bool):Mo (aj):=
 .iB (r1) (.stop)<|
 .rt [0,1,5] 1 (r0.2)
def agk(l0:List ByteArray)(r0:Int×aj)(s6548:aj)(v0:Int):Mo (Bool):=
 .iG 16003 (decide ((v0:Int)<r0.1)) (.stop)<|
 .rt [0,1,5,6,7,38] 2 (false)
def agl(r0:Int×aj):(Int×aj×(List ByteArray))→Mo ((Int×aj×(List ByteArray))⊕(aj×(List ByteArray))):=fun(v0,s6548,l0)=>
 .jk Tryz.f225 1 [1,1,1,1,1,0,1,0,0,0,0] 21 (fun r_=>⟨[(0,.ptr 0 0),(1,.raw (.func (.func 226) #[] #[])),(5,.i_ r0.1),(6,.own 1),(7,.i_ v0),(38,.b_ r_)],[bP s6548,.row 9 1 (l0.map lfS)]⟩) ⟨[(0,.ptr 0 0),(1,.raw (.func (.func 226) #[] #[])),(5,.i_ r0.1),(6,.own 1),(7,.i_ v0)],[bP s6548,.row 9 1 (l0.map lfS)]⟩ (agk l0 r0 s6548 v0) fun r1=>
 .iB (r1) (.stop)<|
 .rt [0,6] 2 (.inr (s6548,l0))
def aut(p_b0:aj):Mo ((List ByteArray)×aj):=
 .cH [0] (iH p_b0) fun r0 _=>
 .jk Tryz.f225 1 [1,1,0,0] 11 (fun r_=>⟨[(0,.ptr 0 0),(1,.raw (.func (.func 226) #[] #[])),(5,.i_ r0.1),(18,.b_ r_)],[bP r0.2]⟩) ⟨[(0,.ptr 0 0),(1,.raw (.func (.func 226) #[] #[])),(5,.i_ r0.1)],[bP r0.2]⟩ (tY r0) fun r1=>
 .jk Tryz.f225 1 [1,1,0,1] 1 (fun r_=>⟨[(0,.ptr 0 0),(1,.raw (.func (.func 226) #[] #[])),(5,.i_ r0.1)],[bP r_]⟩) ⟨[(0,.ptr 0 0),(1,.raw (.func (.func 226) #[] #[])),(5,.i_ r0.1),(18,.b_ r1)],[bP r0.2]⟩ (tZ r0 r1) fun r2=>
 .say [] (ok1 (by simp[lfS]:(([]:List ByteArray).map lfS)=[]))<|
 .l1y [.sQ 6 9 1,.mg 1 (([]:List ByteArray).map lfS)] Tryz.f225 1 [1,1,1,1,1,0,1,0] 0 (.exit 0) (fun(v0,s6548,l0)=>⟨[(0,.ptr 0 0),(1,.raw (.func (.func 226) #[] #[])),(5,.i_ r0.1),(6,.own 1),(7,.i_ v0)],[bP s6548,.row 9 1 (l0.map lfS)]⟩) (fun r_=>⟨[(0,.ptr 0 0),(6,.own 1)],[bP r_.1,.row 9 1 (r_.2.map lfS)]⟩) (agl r0) (0,(aj.mk r2.iI r2.fat (IntKind.wrap .i64 (r2.fK+1)) r2.eH),([]:List ByteArray)) fun r3=>
 .ret ⟨[.mvn 1],[0],[(2,1)],2⟩ (r3.2,aj.mk r3.1.iI r3.1.fat (IntKind.wrap .i64 (r3.1.fK-1)) r3.1.eH)
def Q40(p_b0:aj):Option ((List ByteArray)×aj):=Mo.den (aut p_b0)
theorem UH(p_b0:aj):FH (Q40 p_b0) 225 [.ptr 0 0,.raw (.func (.func 226) #[] #[])] [bP p_b0] (fun _=>.own 1) (fun r=>[bP r.2,.row 9 1 (r.1.map lfS)]):=fH Tryz.func225
def abD(l0:List bn)(r0:Int×aj)(s6639:aj)(v0:Int):Mo (Bool):=
 .iG 16003 (decide ((v0:Int)<r0.1)) (.stop)<|
 .rt [0,1,5,6,7,38] 2 (false)
def abE(r0:Int×aj):(Int×aj×(List bn))→Mo ((Int×aj×(List bn))⊕(aj×(List bn))):=fun(v0,s6639,l0)=>
 .jk Tryz.f147 1 [1,1,1,1,1,0,1,0,0,0,0] 21 (fun r_=>⟨[(0,.ptr 0 0),(1,.raw (.func (.func 148) #[] #[])),(5,.i_ r0.1),(6,.own 1),(7,.i_ v0),(38,.b_ r_)],[bP s6639,.row 149 2 (l0.map bn.lf)]⟩) ⟨[(0,.ptr 0 0),(1,.raw (.func (.func 148) #[] #[])),(5,.i_ r0.1),(6,.own 1),(7,.i_ v0)],[bP s6639,.row 149 2 (l0.map bn.lf)]⟩ (abD l0 r0 s6639 v0) fun r1=>
 .iB (r1) (.stop)<|
 .rt [0,6] 2 (.inr (s6639,l0))
def asf(p_b0:aj):Mo ((List bn)×aj):=
 .cH [0] (iH p_b0) fun r0 _=>
 .jk Tryz.f147 1 [1,1,0,0] 11 (fun r_=>⟨[(0,.ptr 0 0),(1,.raw (.func (.func 148) #[] #[])),(5,.i_ r0.1),(18,.b_ r_)],[bP r0.2]⟩) ⟨[(0,.ptr 0 0),(1,.raw (.func (.func 148) #[] #[])),(5,.i_ r0.1)],[bP r0.2]⟩ (tY r0) fun r1=>
 .jk Tryz.f147 1 [1,1,0,1] 1 (fun r_=>⟨[(0,.ptr 0 0),(1,.raw (.func (.func 148) #[] #[])),(5,.i_ r0.1)],[bP r_]⟩) ⟨[(0,.ptr 0 0),(1,.raw (.func (.func 148) #[] #[])),(5,.i_ r0.1),(18,.b_ r1)],[bP r0.2]⟩ (tZ r0 r1) fun r2=>
 .say [] (ok1 (by simp[bn.bf]:(([]:List bn).map bn.lf)=[]))<|
 .l1y [.sQ 6 149 2,.mg 1 (([]:List bn).map bn.lf)] Tryz.f147 1 [1,1,1,1,1,0,1,0] 0 (.exit 0) (fun(v0,s6639,l0)=>⟨[(0,.ptr 0 0),(1,.raw (.func (.func 148) #[] #[])),(5,.i_ r0.1),(6,.own 1),(7,.i_ v0)],[bP s6639,.row 149 2 (l0.map bn.lf)]⟩) (fun r_=>⟨[(0,.ptr 0 0),(6,.own 1)],[bP r_.1,.row 149 2 (r_.2.map bn.lf)]⟩) (abE r0) (0,(aj.mk r2.iI r2.fat (IntKind.wrap .i64 (r2.fK+1)) r2.eH),([]:List bn)) fun r3=>
 .ret ⟨[.mvn 1],[0],[(2,1)],2⟩ (r3.2,aj.mk r3.1.iI r3.1.fat (IntKind.wrap .i64 (r3.1.fK-1)) r3.1.eH)
def avt(p_b0:aj):Option ((List bn)×aj):=Mo.den (asf p_b0)
theorem an3(p_b0:aj):FH (avt p_b0) 147 [.ptr 0 0,.raw (.func (.func 148) #[] #[])] [bP p_b0] (fun _=>.own 1) (fun r=>[bP r.2,.row 149 2 (r.1.map bn.lf)]):=fH Tryz.func147
def abG(l0:List ah)(r0:Int×aj)(s6771:aj)(v0:Int):Mo (Bool):=
 .iG 16003 (decide ((v0:Int)<r0.1)) (.stop)<|
 .rt [0,1,5,6,7,38] 2 (false)
def abH(r0:Int×aj):(Int×aj×(List ah))→Mo ((Int×aj×(List ah))⊕(aj×(List ah))):=fun(v0,s6771,l0)=>
 .jk Tryz.f224 1 [1,1,1,1,1,0,1,0,0,0,0] 21 (fun r_=>⟨[(0,.ptr 0 0),(1,.raw (.func (.func 87) #[] #[])),(5,.i_ r0.1),(6,.own 1),(7,.i_ v0),(38,.b_ r_)],[bP s6771,.row 25 5 (l0.map ah.lf)]⟩) ⟨[(0,.ptr 0 0),(1,.raw (.func (.func 87) #[] #[])),(5,.i_ r0.1),(6,.own 1),(7,.i_ v0)],[bP s6771,.row 25 5 (l0.map ah.lf)]⟩ (abG l0 r0 s6771 v0) fun r1=>
 .iB (r1) (.stop)<|
 .rt [0,6] 2 (.inr (s6771,l0))
def asg(p_b0:aj):Mo ((List ah)×aj):=
 .cH [0] (iH p_b0) fun r0 _=>
 .jk Tryz.f224 1 [1,1,0,0] 11 (fun r_=>⟨[(0,.ptr 0 0),(1,.raw (.func (.func 87) #[] #[])),(5,.i_ r0.1),(18,.b_ r_)],[bP r0.2]⟩) ⟨[(0,.ptr 0 0),(1,.raw (.func (.func 87) #[] #[])),(5,.i_ r0.1)],[bP r0.2]⟩ (tY r0) fun r1=>
 .jk Tryz.f224 1 [1,1,0,1] 1 (fun r_=>⟨[(0,.ptr 0 0),(1,.raw (.func (.func 87) #[] #[])),(5,.i_ r0.1)],[bP r_]⟩) ⟨[(0,.ptr 0 0),(1,.raw (.func (.func 87) #[] #[])),(5,.i_ r0.1),(18,.b_ r1)],[bP r0.2]⟩ (tZ r0 r1) fun r2=>
 .say [] (ok1 (by simp[ah.bf]:(([]:List ah).map ah.lf)=[]))<|
 .l1y [.sQ 6 25 5,.mg 1 (([]:List ah).map ah.lf)] Tryz.f224 1 [1,1,1,1,1,0,1,0] 0 (.exit 0) (fun(v0,s6771,l0)=>⟨[(0,.ptr 0 0),(1,.raw (.func (.func 87) #[] #[])),(5,.i_ r0.1),(6,.own 1),(7,.i_ v0)],[bP s6771,.row 25 5 (l0.map ah.lf)]⟩) (fun r_=>⟨[(0,.ptr 0 0),(6,.own 1)],[bP r_.1,.row 25 5 (r_.2.map ah.lf)]⟩) (abH r0) (0,(aj.mk r2.iI r2.fat (IntKind.wrap .i64 (r2.fK+1)) r2.eH),([]:List ah)) fun r3=>
 .ret ⟨[.mvn 1],[0],[(2,1)],2⟩ (r3.2,aj.mk r3.1.iI r3.1.fat (IntKind.wrap .i64 (r3.1.fK-1)) r3.1.eH)
def avu(p_b0:aj):Option ((List ah)×aj):=Mo.den (asg p_b0)
theorem aeb(p_b0:aj):FH (avu p_b0) 224 [.ptr 0 0,.raw (.func (.func 87) #[] #[])] [bP p_b0] (fun _=>.own 1) (fun r=>[bP r.2,.row 25 5 (r.1.map ah.lf)]):=fH Tryz.func224
def abI(l0:List cu)(r0:Int×aj)(s6897:aj)(v0:Int):Mo (Bool):=
 .iG 16003 (decide ((v0:Int)<r0.1)) (.stop)<|
 .rt [0,1,5,6,7,38] 2 (false)
def abJ(r0:Int×aj):(Int×aj×(List cu))→Mo ((Int×aj×(List cu))⊕(aj×(List cu))):=fun(v0,s6897,l0)=>
 .jk Tryz.f230 1 [1,1,1,1,1,0,1,0,0,0,0] 21 (fun r_=>⟨[(0,.ptr 0 0),(1,.raw (.func (.func 231) #[] #[])),(5,.i_ r0.1),(6,.own 1),(7,.i_ v0),(38,.b_ r_)],[bP s6897,.row 229 2 (l0.map cu.lf)]⟩) ⟨[(0,.ptr 0 0),(1,.raw (.func (.func 231) #[] #[])),(5,.i_ r0.1),(6,.own 1),(7,.i_ v0)],[bP s6897,.row 229 2 (l0.map cu.lf)]⟩ (abI l0 r0 s6897 v0) fun r1=>
 .iB (r1) (.stop)<|
 .rt [0,6] 2 (.inr (s6897,l0))
def ash(p_b0:aj):Mo ((List cu)×aj):=
 .cH [0] (iH p_b0) fun r0 _=>
 .jk Tryz.f230 1 [1,1,0,0] 11 (fun r_=>⟨[(0,.ptr 0 0),(1,.raw (.func (.func 231) #[] #[])),(5,.i_ r0.1),(18,.b_ r_)],[bP r0.2]⟩) ⟨[(0,.ptr 0 0),(1,.raw (.func (.func 231) #[] #[])),(5,.i_ r0.1)],[bP r0.2]⟩ (tY r0) fun r1=>
 .jk Tryz.f230 1 [1,1,0,1] 1 (fun r_=>⟨[(0,.ptr 0 0),(1,.raw (.func (.func 231) #[] #[])),(5,.i_ r0.1)],[bP r_]⟩) ⟨[(0,.ptr 0 0),(1,.raw (.func (.func 231) #[] #[])),(5,.i_ r0.1),(18,.b_ r1)],[bP r0.2]⟩ (tZ r0 r1) fun r2=>
 .say [] (ok1 (by simp[cu.bf]:(([]:List cu).map cu.lf)=[]))<|
 .l1y [.sQ 6 229 2,.mg 1 (([]:List cu).map cu.lf)] Tryz.f230 1 [1,1,1,1,1,0,1,0] 0 (.exit 0) (fun(v0,s6897,l0)=>⟨[(0,.ptr 0 0),(1,.raw (.func (.func 231) #[] #[])),(5,.i_ r0.1),(6,.own 1),(7,.i_ v0)],[bP s6897,.row 229 2 (l0.map cu.lf)]⟩) (fun r_=>⟨[(0,.ptr 0 0),(6,.own 1)],[bP r_.1,.row 229 2 (r_.2.map cu.lf)]⟩) (abJ r0) (0,(aj.mk r2.iI r2.fat (IntKind.wrap .i64 (r2.fK+1)) r2.eH),([]:List cu)) fun r3=>
 .ret ⟨[.mvn 1],[0],[(2,1)],2⟩ (r3.2,aj.mk r3.1.iI r3.1.fat (IntKind.wrap .i64 (r3.1.fK-1)) r3.1.eH)
def avv(p_b0:aj):Option ((List cu)×aj):=Mo.den (ash p_b0)
theorem an4(p_b0:aj):FH (avv p_b0) 230 [.ptr 0 0,.raw (.func (.func 231) #[] #[])] [bP p_b0] (fun _=>.own 1) (fun r=>[bP r.2,.row 229 2 (r.1.map cu.lf)]):=fH Tryz.func230
abbrev UJ(m:aj→Option (aP×aj)):Prop:=∀p_b0,FH (m p_b0) 232 [.ptr 0 0] [bP p_b0] (fun r=>.dat (aP.lf1 r.1)) (fun r=>[bP r.2])
abbrev aec(m:aj→Option ((List aP)×aj)):Prop:=∀p_b0,FH (m p_b0) 289 [.ptr 0 0,.raw (.func (.func 232) #[] #[])] [bP p_b0] (fun r=>.lf (.rows 11 (r.1.map aP.lf))) (fun r=>[bP r.2])
structure UK where
 m1:(p_b0:aj)→Option (aP×aj)
 ok1:UJ m1
 m2:(p_b0:aj)→Option ((List aP)×aj)
 ok2:aec m2
def ajv(R_:UK)(p_b0:aj):Mo (aP×aj):=
 .cH [0] (iH p_b0) fun r0 _=>
 .cH [0] (UH r0.2) fun r1 _=>
 .cH [0] (vF r1.2) fun r2 _=>
 .cH [0] (UH r2.2) fun r3 _=>
 .cH [0] (vG r3.2) fun r4 _=>
 .cH [0] (iH r4.2) fun r5 _=>
 .cH [0] (R_.ok2 r5.2) fun r6 _=>
 .ret ⟨[.frz 2,.frz 3,.tod 0,.kill 1],[0],[],1⟩ (aP.mk r0.1 r1.1 r2.1 r3.1 r4.1 r5.1 r6.1,r6.2)
theorem ajw(R_:UK):UJ fun p_b0=>Mo.den (ajv R_ p_b0):=fun _=>fH Tryz.func232
def agm(R_:UK)(r0:Int×aj):Mo (Bool):=
 .iG 6002 (decide ((r0.1:Int)<0)) (.stop)<|
 .rt [0,1,5,18] 1 (decide ((64:Int)≤r0.2.fK))
def agn(R_:UK)(r0:Int×aj)(r1:Bool):Mo (aj):=
 .iB (r1) (.stop)<|
 .rt [0,1,5] 1 (r0.2)
def abK(R_:UK)(l0:List aP)(r0:Int×aj)(s7037:aj)(v0:Int):Mo (Bool):=
 .iG 16003 (decide ((v0:Int)<r0.1)) (.stop)<|
 .rt [0,1,5,6,7,38] 2 (false)
def abL(R_:UK)(r0:Int×aj):(Int×aj×(List aP))→Mo ((Int×aj×(List aP))⊕(aj×(List aP))):=fun(v0,s7037,l0)=>
 .jk Tryz.f289 1 [1,1,1,1,1,0,1,0,0,0,0] 21 (fun r_=>⟨[(0,.ptr 0 0),(1,.raw (.func (.func 232) #[] #[])),(5,.i_ r0.1),(6,.own 1),(7,.i_ v0),(38,.b_ r_)],[bP s7037,.row 40 11 (l0.map aP.lf)]⟩) ⟨[(0,.ptr 0 0),(1,.raw (.func (.func 232) #[] #[])),(5,.i_ r0.1),(6,.own 1),(7,.i_ v0)],[bP s7037,.row 40 11 (l0.map aP.lf)]⟩ (abK R_ l0 r0 s7037 v0) fun r1=>
 .iB (r1) (.stop)<|
 .rt [0,6] 2 (.inr (s7037,l0))
def ajx(R_:UK)(p_b0:aj):Mo ((List aP)×aj):=
 .cH [0] (iH p_b0) fun r0 _=>
 .jk Tryz.f289 1 [1,1,0,0] 11 (fun r_=>⟨[(0,.ptr 0 0),(1,.raw (.func (.func 232) #[] #[])),(5,.i_ r0.1),(18,.b_ r_)],[bP r0.2]⟩) ⟨[(0,.ptr 0 0),(1,.raw (.func (.func 232) #[] #[])),(5,.i_ r0.1)],[bP r0.2]⟩ (agm R_ r0) fun r1=>
 .jk Tryz.f289 1 [1,1,0,1] 1 (fun r_=>⟨[(0,.ptr 0 0),(1,.raw (.func (.func 232) #[] #[])),(5,.i_ r0.1)],[bP r_]⟩) ⟨[(0,.ptr 0 0),(1,.raw (.func (.func 232) #[] #[])),(5,.i_ r0.1),(18,.b_ r1)],[bP r0.2]⟩ (agn R_ r0 r1) fun r2=>
 .say [] (ok1 (by simp[aP.bf]:(([]:List aP).map aP.lf)=[]))<|
 .l1y [.sQ 6 40 11,.mg 1 (([]:List aP).map aP.lf)] Tryz.f289 1 [1,1,1,1,1,0,1,0] 0 (.exit 0) (fun(v0,s7037,l0)=>⟨[(0,.ptr 0 0),(1,.raw (.func (.func 232) #[] #[])),(5,.i_ r0.1),(6,.own 1),(7,.i_ v0)],[bP s7037,.row 40 11 (l0.map aP.lf)]⟩) (fun r_=>⟨[(0,.ptr 0 0),(6,.own 1)],[bP r_.1,.row 40 11 (r_.2.map aP.lf)]⟩) (abL R_ r0) (0,(aj.mk r2.iI r2.fat (IntKind.wrap .i64 (r2.fK+1)) r2.eH),([]:List aP)) fun r3=>
 .ret ⟨[.frz 1],[0],[],1⟩ (r3.2,aj.mk r3.1.iI r3.1.fat (IntKind.wrap .i64 (r3.1.fK-1)) r3.1.eH)
theorem ajy(R_:UK):aec fun p_b0=>Mo.den (ajx R_ p_b0):=fun _=>fH Tryz.func289
def FB:Nat→UK
 |0=>{ m1:=fun p_b0=>none,ok1:=fun _ _ h=>(by cases h),m2:=fun p_b0=>none,ok2:=fun _ _ h=>(by cases h) }
 |n_+1=>{ m1:=fun p_b0=>Mo.den (ajv (FB n_) p_b0),ok1:=ajw (FB n_),m2:=fun p_b0=>Mo.den (ajx (FB n_) p_b0),ok2:=ajy (FB n_) }
def avw(p_b0:aj):Option (aP×aj):=(FB FU).m1 p_b0
theorem an5:UJ avw:=(FB FU).ok1
abbrev UL(m:aj→Option (aO×aj)):Prop:=∀p_b0,FH (m p_b0) 149 [.ptr 0 0] [bP p_b0] (fun r=>.dat (aO.lf1 r.1)) (fun r=>[bP r.2])
abbrev aed(m:aj→Option ((List aO)×aj)):Prop:=∀p_b0,FH (m p_b0) 233 [.ptr 0 0,.raw (.func (.func 149) #[] #[])] [bP p_b0] (fun r=>.lf (.rows 25 (r.1.map aO.lf))) (fun r=>[bP r.2])
structure UM where
 m1:(p_b0:aj)→Option (aO×aj)
 ok1:UL m1
 m2:(p_b0:aj)→Option ((List aO)×aj)
 ok2:aed m2
def ajz(R_:UM)(p_b0:aj):Mo (aO×aj):=
 .cH [0] (iH p_b0) fun r0 _=>
 .cH [0] (UH r0.2) fun r1 _=>
 .cH [0] (vG r1.2) fun r2 _=>
 .cH [0] (aeb r2.2) fun r3 _=>
 .cH [0] (iH r3.2) fun r4 _=>
 .cH [0] (iH r4.2) fun r5 _=>
 .cH [0] (iH r5.2) fun r6 _=>
 .cH [0] (an4 r6.2) fun r7 _=>
 .cH [0] (iH r7.2) fun r8 _=>
 .cH [0] (an5 r8.2) fun r9 _=>
 .cH [0] (R_.ok2 r9.2) fun r10 _=>
 .ret ⟨[.frz 2,.frz 3,.frz 4,.tod 0,.kill 1],[0],[],1⟩ (aO.mk r0.1 r1.1 r2.1 r3.1 r4.1 r5.1 (dQ.mk r6.1 r7.1 r8.1) r9.1 r10.1,r10.2)
theorem ajA(R_:UM):UL fun p_b0=>Mo.den (ajz R_ p_b0):=fun _=>fH Tryz.func149
def agp(R_:UM)(r0:Int×aj):Mo (Bool):=
 .iG 6002 (decide ((r0.1:Int)<0)) (.stop)<|
 .rt [0,1,5,18] 1 (decide ((64:Int)≤r0.2.fK))
def agq(R_:UM)(r0:Int×aj)(r1:Bool):Mo (aj):=
 .iB (r1) (.stop)<|
 .rt [0,1,5] 1 (r0.2)
def abM(R_:UM)(l0:List aO)(r0:Int×aj)(s7149:aj)(v0:Int):Mo (Bool):=
 .iG 16003 (decide ((v0:Int)<r0.1)) (.stop)<|
 .rt [0,1,5,6,7,38] 2 (false)
def abN(R_:UM)(r0:Int×aj):(Int×aj×(List aO))→Mo ((Int×aj×(List aO))⊕(aj×(List aO))):=fun(v0,s7149,l0)=>
 .jk Tryz.f233 1 [1,1,1,1,1,0,1,0,0,0,0] 21 (fun r_=>⟨[(0,.ptr 0 0),(1,.raw (.func (.func 149) #[] #[])),(5,.i_ r0.1),(6,.own 1),(7,.i_ v0),(38,.b_ r_)],[bP s7149,.row 43 25 (l0.map aO.lf)]⟩) ⟨[(0,.ptr 0 0),(1,.raw (.func (.func 149) #[] #[])),(5,.i_ r0.1),(6,.own 1),(7,.i_ v0)],[bP s7149,.row 43 25 (l0.map aO.lf)]⟩ (abM R_ l0 r0 s7149 v0) fun r1=>
 .iB (r1) (.stop)<|
 .rt [0,6] 2 (.inr (s7149,l0))
def ajB(R_:UM)(p_b0:aj):Mo ((List aO)×aj):=
 .cH [0] (iH p_b0) fun r0 _=>
 .jk Tryz.f233 1 [1,1,0,0] 11 (fun r_=>⟨[(0,.ptr 0 0),(1,.raw (.func (.func 149) #[] #[])),(5,.i_ r0.1),(18,.b_ r_)],[bP r0.2]⟩) ⟨[(0,.ptr 0 0),(1,.raw (.func (.func 149) #[] #[])),(5,.i_ r0.1)],[bP r0.2]⟩ (agp R_ r0) fun r1=>
 .jk Tryz.f233 1 [1,1,0,1] 1 (fun r_=>⟨[(0,.ptr 0 0),(1,.raw (.func (.func 149) #[] #[])),(5,.i_ r0.1)],[bP r_]⟩) ⟨[(0,.ptr 0 0),(1,.raw (.func (.func 149) #[] #[])),(5,.i_ r0.1),(18,.b_ r1)],[bP r0.2]⟩ (agq R_ r0 r1) fun r2=>
 .say [] (ok1 (by simp[aO.bf]:(([]:List aO).map aO.lf)=[]))<|
 .l1y [.sQ 6 43 25,.mg 1 (([]:List aO).map aO.lf)] Tryz.f233 1 [1,1,1,1,1,0,1,0] 0 (.exit 0) (fun(v0,s7149,l0)=>⟨[(0,.ptr 0 0),(1,.raw (.func (.func 149) #[] #[])),(5,.i_ r0.1),(6,.own 1),(7,.i_ v0)],[bP s7149,.row 43 25 (l0.map aO.lf)]⟩) (fun r_=>⟨[(0,.ptr 0 0),(6,.own 1)],[bP r_.1,.row 43 25 (r_.2.map aO.lf)]⟩) (abN R_ r0) (0,(aj.mk r2.iI r2.fat (IntKind.wrap .i64 (r2.fK+1)) r2.eH),([]:List aO)) fun r3=>
 .ret ⟨[.frz 1],[0],[],1⟩ (r3.2,aj.mk r3.1.iI r3.1.fat (IntKind.wrap .i64 (r3.1.fK-1)) r3.1.eH)
theorem ajC(R_:UM):aed fun p_b0=>Mo.den (ajB R_ p_b0):=fun _=>fH Tryz.func233
def FC:Nat→UM
 |0=>{ m1:=fun p_b0=>none,ok1:=fun _ _ h=>(by cases h),m2:=fun p_b0=>none,ok2:=fun _ _ h=>(by cases h) }
 |n_+1=>{ m1:=fun p_b0=>Mo.den (ajz (FC n_) p_b0),ok1:=ajA (FC n_),m2:=fun p_b0=>Mo.den (ajB (FC n_) p_b0),ok2:=ajC (FC n_) }
def avx(p_b0:aj):Option (aO×aj):=(FC FU).m1 p_b0
theorem an6:UL avx:=(FC FU).ok1
def asi(p_b0:aj):Mo (aQ×aj):=
 .cH [0] (vF p_b0) fun r0 _=>
 .cH [0] (iH r0.2) fun r1 _=>
 .cH [0] (an3 r1.2) fun r2 _=>
 .cH [0] (qy r2.2) fun r3 _=>
 .cH [0] (qy r3.2) fun r4 _=>
 .cH [0] (qy r4.2) fun r5 _=>
 .cH [0] (an6 r5.2) fun r6 _=>
 .ret ⟨[.kill 1,.mvn 2],[0],[(3,1)],2⟩ (aQ.mk r0.1 r1.1 r2.1 r3.1 r4.1 r5.1 r6.1,r6.2)
def avy(p_b0:aj):Option (aQ×aj):=Mo.den (asi p_b0)
theorem an7(p_b0:aj):FH (avy p_b0) 89 [.ptr 0 0] [bP p_b0] (fun r=>afC (.agg ((aQ.lf1 r.1).map AV.lf)) [(2,.own 1)]) (fun r=>[bP r.2,.row 149 2 (r.1.gq.map bn.lf)]):=fH Tryz.func89
def abO(l0:List aQ)(r0:Int×aj)(s7236:aj)(v0:Int):Mo (Bool):=
 .iG 16003 (decide ((v0:Int)<r0.1)) (.stop)<|
 .rt [0,1,5,6,7,38] 2 (false)
def abP(r0:Int×aj):(Int×aj×(List aQ))→Mo ((Int×aj×(List aQ))⊕(aj×(List aQ))):=fun(v0,s7236,l0)=>
 .jk Tryz.f145 1 [1,1,1,1,1,0,1,0,0,0,0] 21 (fun r_=>⟨[(0,.ptr 0 0),(1,.raw (.func (.func 89) #[] #[])),(5,.i_ r0.1),(6,.own 1),(7,.i_ v0),(38,.b_ r_)],[bP s7236,.row 45 31 (l0.map aQ.lf)]⟩) ⟨[(0,.ptr 0 0),(1,.raw (.func (.func 89) #[] #[])),(5,.i_ r0.1),(6,.own 1),(7,.i_ v0)],[bP s7236,.row 45 31 (l0.map aQ.lf)]⟩ (abO l0 r0 s7236 v0) fun r1=>
 .iB (r1) (.stop)<|
 .rt [0,6] 2 (.inr (s7236,l0))
def asj(p_b0:aj):Mo ((List aQ)×aj):=
 .cH [0] (iH p_b0) fun r0 _=>
 .jk Tryz.f145 1 [1,1,0,0] 11 (fun r_=>⟨[(0,.ptr 0 0),(1,.raw (.func (.func 89) #[] #[])),(5,.i_ r0.1),(18,.b_ r_)],[bP r0.2]⟩) ⟨[(0,.ptr 0 0),(1,.raw (.func (.func 89) #[] #[])),(5,.i_ r0.1)],[bP r0.2]⟩ (tY r0) fun r1=>
 .jk Tryz.f145 1 [1,1,0,1] 1 (fun r_=>⟨[(0,.ptr 0 0),(1,.raw (.func (.func 89) #[] #[])),(5,.i_ r0.1)],[bP r_]⟩) ⟨[(0,.ptr 0 0),(1,.raw (.func (.func 89) #[] #[])),(5,.i_ r0.1),(18,.b_ r1)],[bP r0.2]⟩ (tZ r0 r1) fun r2=>
 .say [] (ok1 (by simp[aQ.bf]:(([]:List aQ).map aQ.lf)=[]))<|
 .l1y [.sQ 6 45 31,.mg 1 (([]:List aQ).map aQ.lf)] Tryz.f145 1 [1,1,1,1,1,0,1,0] 0 (.exit 0) (fun(v0,s7236,l0)=>⟨[(0,.ptr 0 0),(1,.raw (.func (.func 89) #[] #[])),(5,.i_ r0.1),(6,.own 1),(7,.i_ v0)],[bP s7236,.row 45 31 (l0.map aQ.lf)]⟩) (fun r_=>⟨[(0,.ptr 0 0),(6,.own 1)],[bP r_.1,.row 45 31 (r_.2.map aQ.lf)]⟩) (abP r0) (0,(aj.mk r2.iI r2.fat (IntKind.wrap .i64 (r2.fK+1)) r2.eH),([]:List aQ)) fun r3=>
 .ret ⟨[.mvn 1],[0],[(2,1)],2⟩ (r3.2,aj.mk r3.1.iI r3.1.fat (IntKind.wrap .i64 (r3.1.fK-1)) r3.1.eH)
def avz(p_b0:aj):Option ((List aQ)×aj):=Mo.den (asj p_b0)
theorem an8(p_b0:aj):FH (avz p_b0) 145 [.ptr 0 0,.raw (.func (.func 89) #[] #[])] [bP p_b0] (fun _=>.own 1) (fun r=>[bP r.2,.row 45 31 (r.1.map aQ.lf)]):=fH Tryz.func145
abbrev UN(m:aj→Option (aI×aj)):Prop:=∀p_b0,FH (m p_b0) 146 [.ptr 0 0] [bP p_b0] (fun r=>.dat (aI.lf1 r.1)) (fun r=>[bP r.2])
abbrev aee(m:aj→Option ((List bH)×aj)):Prop:=∀p_b0,FH (m p_b0) 227 [.ptr 0 0,.raw (.func (.func 228) #[] #[])] [bP p_b0] (fun r=>.lf (.rows 22 (r.1.map bH.lf))) (fun r=>[bP r.2])
abbrev aef(m:aj→Option ((List aI)×aj)):Prop:=∀p_b0,FH (m p_b0) 229 [.ptr 0 0,.raw (.func (.func 146) #[] #[])] [bP p_b0] (fun r=>.lf (.rows 21 (r.1.map aI.lf))) (fun r=>[bP r.2])
abbrev aeg(m:aj→Option (bH×aj)):Prop:=∀p_b0,FH (m p_b0) 228 [.ptr 0 0] [bP p_b0] (fun r=>.dat (bH.lf1 r.1)) (fun r=>[bP r.2])
structure AP where
 m1:(p_b0:aj)→Option (aI×aj)
 ok1:UN m1
 m2:(p_b0:aj)→Option ((List bH)×aj)
 ok2:aee m2
 m3:(p_b0:aj)→Option ((List aI)×aj)
 ok3:aef m3
 m4:(p_b0:aj)→Option (bH×aj)
 ok4:aeg m4
def ajD(R_:AP)(p_b0:aj):Mo (aI×aj):=
 .cH [0] (iH p_b0) fun r0 _=>
 .cH [0] (qy r0.2) fun r1 _=>
 .cH [0] (vG r1.2) fun r2 _=>
 .cH [0] (qy r2.2) fun r3 _=>
 .cH [0] (vG r3.2) fun r4 _=>
 .cH [0] (aeb r4.2) fun r5 _=>
 .cH [0] (iH r5.2) fun r6 _=>
 .cH [0] (iH r6.2) fun r7 _=>
 .cH [0] (UH r7.2) fun r8 _=>
 .cH [0] (R_.ok2 r8.2) fun r9 _=>
 .cH [0] (qy r9.2) fun r10 _=>
 .cH [0] (R_.ok3 r10.2) fun r11 _=>
 .cH [0] (qy r11.2) fun r12 _=>
 .ret ⟨[.frz 2,.frz 3,.tod 0,.kill 1],[0],[],1⟩ (aI.mk r0.1 r1.1 r2.1 r3.1 r4.1 r5.1 r6.1 r7.1 r8.1 r9.1 r10.1 r11.1 r12.1,r12.2)
theorem ajE(R_:AP):UN fun p_b0=>Mo.den (ajD R_ p_b0):=fun _=>fH Tryz.func146
def X4(R_:AP)(r0:Int×aj):Mo (Bool):=
 .iG 6002 (decide ((r0.1:Int)<0)) (.stop)<|
 .rt [0,1,5,18] 1 (decide ((64:Int)≤r0.2.fK))
def X5(R_:AP)(r0:Int×aj)(r1:Bool):Mo (aj):=
 .iB (r1) (.stop)<|
 .rt [0,1,5] 1 (r0.2)
def agr(R_:AP)(l0:List bH)(r0:Int×aj)(s7396:aj)(v0:Int):Mo (Bool):=
 .iG 16003 (decide ((v0:Int)<r0.1)) (.stop)<|
 .rt [0,1,5,6,7,38] 2 (false)
def ags(R_:AP)(r0:Int×aj):(Int×aj×(List bH))→Mo ((Int×aj×(List bH))⊕(aj×(List bH))):=fun(v0,s7396,l0)=>
 .jk Tryz.f227 1 [1,1,1,1,1,0,1,0,0,0,0] 21 (fun r_=>⟨[(0,.ptr 0 0),(1,.raw (.func (.func 228) #[] #[])),(5,.i_ r0.1),(6,.own 1),(7,.i_ v0),(38,.b_ r_)],[bP s7396,.row 224 22 (l0.map bH.lf)]⟩) ⟨[(0,.ptr 0 0),(1,.raw (.func (.func 228) #[] #[])),(5,.i_ r0.1),(6,.own 1),(7,.i_ v0)],[bP s7396,.row 224 22 (l0.map bH.lf)]⟩ (agr R_ l0 r0 s7396 v0) fun r1=>
 .iB (r1) (.stop)<|
 .rt [0,6] 2 (.inr (s7396,l0))
def apA(R_:AP)(p_b0:aj):Mo ((List bH)×aj):=
 .cH [0] (iH p_b0) fun r0 _=>
 .jk Tryz.f227 1 [1,1,0,0] 11 (fun r_=>⟨[(0,.ptr 0 0),(1,.raw (.func (.func 228) #[] #[])),(5,.i_ r0.1),(18,.b_ r_)],[bP r0.2]⟩) ⟨[(0,.ptr 0 0),(1,.raw (.func (.func 228) #[] #[])),(5,.i_ r0.1)],[bP r0.2]⟩ (X4 R_ r0) fun r1=>
 .jk Tryz.f227 1 [1,1,0,1] 1 (fun r_=>⟨[(0,.ptr 0 0),(1,.raw (.func (.func 228) #[] #[])),(5,.i_ r0.1)],[bP r_]⟩) ⟨[(0,.ptr 0 0),(1,.raw (.func (.func 228) #[] #[])),(5,.i_ r0.1),(18,.b_ r1)],[bP r0.2]⟩ (X5 R_ r0 r1) fun r2=>
 .say [] (ok1 (by simp[bH.bf]:(([]:List bH).map bH.lf)=[]))<|
 .l1y [.sQ 6 224 22,.mg 1 (([]:List bH).map bH.lf)] Tryz.f227 1 [1,1,1,1,1,0,1,0] 0 (.exit 0) (fun(v0,s7396,l0)=>⟨[(0,.ptr 0 0),(1,.raw (.func (.func 228) #[] #[])),(5,.i_ r0.1),(6,.own 1),(7,.i_ v0)],[bP s7396,.row 224 22 (l0.map bH.lf)]⟩) (fun r_=>⟨[(0,.ptr 0 0),(6,.own 1)],[bP r_.1,.row 224 22 (r_.2.map bH.lf)]⟩) (ags R_ r0) (0,(aj.mk r2.iI r2.fat (IntKind.wrap .i64 (r2.fK+1)) r2.eH),([]:List bH)) fun r3=>
 .ret ⟨[.frz 1],[0],[],1⟩ (r3.2,aj.mk r3.1.iI r3.1.fat (IntKind.wrap .i64 (r3.1.fK-1)) r3.1.eH)
theorem an9(R_:AP):aee fun p_b0=>Mo.den (apA R_ p_b0):=fun _=>fH Tryz.func227
def abQ(R_:AP)(l0:List aI)(r0:Int×aj)(s7500:aj)(v0:Int):Mo (Bool):=
 .iG 16003 (decide ((v0:Int)<r0.1)) (.stop)<|
 .rt [0,1,5,6,7,38] 2 (false)
def abR(R_:AP)(r0:Int×aj):(Int×aj×(List aI))→Mo ((Int×aj×(List aI))⊕(aj×(List aI))):=fun(v0,s7500,l0)=>
 .jk Tryz.f229 1 [1,1,1,1,1,0,1,0,0,0,0] 21 (fun r_=>⟨[(0,.ptr 0 0),(1,.raw (.func (.func 146) #[] #[])),(5,.i_ r0.1),(6,.own 1),(7,.i_ v0),(38,.b_ r_)],[bP s7500,.row 31 21 (l0.map aI.lf)]⟩) ⟨[(0,.ptr 0 0),(1,.raw (.func (.func 146) #[] #[])),(5,.i_ r0.1),(6,.own 1),(7,.i_ v0)],[bP s7500,.row 31 21 (l0.map aI.lf)]⟩ (abQ R_ l0 r0 s7500 v0) fun r1=>
 .iB (r1) (.stop)<|
 .rt [0,6] 2 (.inr (s7500,l0))
def ajF(R_:AP)(p_b0:aj):Mo ((List aI)×aj):=
 .cH [0] (iH p_b0) fun r0 _=>
 .jk Tryz.f229 1 [1,1,0,0] 11 (fun r_=>⟨[(0,.ptr 0 0),(1,.raw (.func (.func 146) #[] #[])),(5,.i_ r0.1),(18,.b_ r_)],[bP r0.2]⟩) ⟨[(0,.ptr 0 0),(1,.raw (.func (.func 146) #[] #[])),(5,.i_ r0.1)],[bP r0.2]⟩ (X4 R_ r0) fun r1=>
 .jk Tryz.f229 1 [1,1,0,1] 1 (fun r_=>⟨[(0,.ptr 0 0),(1,.raw (.func (.func 146) #[] #[])),(5,.i_ r0.1)],[bP r_]⟩) ⟨[(0,.ptr 0 0),(1,.raw (.func (.func 146) #[] #[])),(5,.i_ r0.1),(18,.b_ r1)],[bP r0.2]⟩ (X5 R_ r0 r1) fun r2=>
 .say [] (ok1 (by simp[aI.bf]:(([]:List aI).map aI.lf)=[]))<|
 .l1y [.sQ 6 31 21,.mg 1 (([]:List aI).map aI.lf)] Tryz.f229 1 [1,1,1,1,1,0,1,0] 0 (.exit 0) (fun(v0,s7500,l0)=>⟨[(0,.ptr 0 0),(1,.raw (.func (.func 146) #[] #[])),(5,.i_ r0.1),(6,.own 1),(7,.i_ v0)],[bP s7500,.row 31 21 (l0.map aI.lf)]⟩) (fun r_=>⟨[(0,.ptr 0 0),(6,.own 1)],[bP r_.1,.row 31 21 (r_.2.map aI.lf)]⟩) (abR R_ r0) (0,(aj.mk r2.iI r2.fat (IntKind.wrap .i64 (r2.fK+1)) r2.eH),([]:List aI)) fun r3=>
 .ret ⟨[.frz 1],[0],[],1⟩ (r3.2,aj.mk r3.1.iI r3.1.fat (IntKind.wrap .i64 (r3.1.fK-1)) r3.1.eH)
theorem ajG(R_:AP):aef fun p_b0=>Mo.den (ajF R_ p_b0):=fun _=>fH Tryz.func229
def ajH(R_:AP)(p_b0:aj):Mo (bH×aj):=
 .cH [0] (vF p_b0) fun r0 _=>
 .cH [0] (R_.ok1 r0.2) fun r1 _=>
 .ret ⟨[.kill 1],[0],[],1⟩ (bH.mk r0.1 r1.1,r1.2)
theorem ajI(R_:AP):aeg fun p_b0=>Mo.den (ajH R_ p_b0):=fun _=>fH Tryz.func228
def su:Nat→AP
 |0=>{ m1:=fun p_b0=>none,ok1:=fun _ _ h=>(by cases h),m2:=fun p_b0=>none,ok2:=fun _ _ h=>(by cases h),m3:=fun p_b0=>none,ok3:=fun _ _ h=>(by cases h),m4:=fun p_b0=>none,ok4:=fun _ _ h=>(by cases h) }
 |n_+1=>{ m1:=fun p_b0=>Mo.den (ajD (su n_) p_b0),ok1:=ajE (su n_),m2:=fun p_b0=>Mo.den (apA (su n_) p_b0),ok2:=an9 (su n_),m3:=fun p_b0=>Mo.den (ajF (su n_) p_b0),ok3:=ajG (su n_),m4:=fun p_b0=>Mo.den (ajH (su n_) p_b0),ok4:=ajI (su n_) }
def avA(p_b0:aj):Option (aI×aj):=(su FU).m1 p_b0
theorem aoa:UN avA:=(su FU).ok1
def asl(p_b0:aj):Mo (bU×aj):=
 .cH [0] (vF p_b0) fun r0 _=>
 .cH [0] (an8 r0.2) fun r1 _=>
 .cH [0] (aoa r1.2) fun r2 _=>
 .cH [0] (iH r2.2) fun r3 _=>
 .cH [0] (iH r3.2) fun r4 _=>
 .ret ⟨[.kill 1,.mvn 2],[0],[(3,1)],2⟩ (bU.mk r0.1 r1.1 r2.1 r3.1 r4.1,r4.2)
def avC(p_b0:aj):Option (bU×aj):=Mo.den (asl p_b0)
theorem aob(p_b0:aj):FH (avC p_b0) 88 [.ptr 0 0] [bP p_b0] (fun r=>afC (.agg ((bU.lf1 r.1).map AV.lf)) [(1,.own 1)]) (fun r=>[bP r.2,.row 45 31 (r.1.bM.map aQ.lf)]):=fH Tryz.func88
def abS(l0:List Int)(r0:Int×aj)(s7646:aj)(v0:Int):Mo (Bool):=
 .iG 16003 (decide ((v0:Int)<r0.1)) (.stop)<|
 .rt [0,1,5,6,7,38] 2 (false)
def abT(r0:Int×aj):(Int×aj×(List Int))→Mo ((Int×aj×(List Int))⊕(aj×(List Int))):=fun(v0,s7646,l0)=>
 .jk Tryz.f91 1 [1,1,1,1,1,0,1,0,0,0,0] 21 (fun r_=>⟨[(0,.ptr 0 0),(1,.raw (.func (.func 92) #[] #[])),(5,.i_ r0.1),(6,.own 1),(7,.i_ v0),(38,.b_ r_)],[bP s7646,.row 3 1 (l0.map lfI)]⟩) ⟨[(0,.ptr 0 0),(1,.raw (.func (.func 92) #[] #[])),(5,.i_ r0.1),(6,.own 1),(7,.i_ v0)],[bP s7646,.row 3 1 (l0.map lfI)]⟩ (abS l0 r0 s7646 v0) fun r1=>
 .iB (r1) (.stop)<|
 .rt [0,6] 2 (.inr (s7646,l0))
def asn(p_b0:aj):Mo ((List Int)×aj):=
 .cH [0] (iH p_b0) fun r0 _=>
 .jk Tryz.f91 1 [1,1,0,0] 11 (fun r_=>⟨[(0,.ptr 0 0),(1,.raw (.func (.func 92) #[] #[])),(5,.i_ r0.1),(18,.b_ r_)],[bP r0.2]⟩) ⟨[(0,.ptr 0 0),(1,.raw (.func (.func 92) #[] #[])),(5,.i_ r0.1)],[bP r0.2]⟩ (tY r0) fun r1=>
 .jk Tryz.f91 1 [1,1,0,1] 1 (fun r_=>⟨[(0,.ptr 0 0),(1,.raw (.func (.func 92) #[] #[])),(5,.i_ r0.1)],[bP r_]⟩) ⟨[(0,.ptr 0 0),(1,.raw (.func (.func 92) #[] #[])),(5,.i_ r0.1),(18,.b_ r1)],[bP r0.2]⟩ (tZ r0 r1) fun r2=>
 .say [] (ok1 (by simp[lfI,lfK]:(([]:List Int).map lfI)=[]))<|
 .l1y [.sQ 6 3 1,.mg 1 (([]:List Int).map lfI)] Tryz.f91 1 [1,1,1,1,1,0,1,0] 0 (.exit 0) (fun(v0,s7646,l0)=>⟨[(0,.ptr 0 0),(1,.raw (.func (.func 92) #[] #[])),(5,.i_ r0.1),(6,.own 1),(7,.i_ v0)],[bP s7646,.row 3 1 (l0.map lfI)]⟩) (fun r_=>⟨[(0,.ptr 0 0),(6,.own 1)],[bP r_.1,.row 3 1 (r_.2.map lfI)]⟩) (abT r0) (0,(aj.mk r2.iI r2.fat (IntKind.wrap .i64 (r2.fK+1)) r2.eH),([]:List Int)) fun r3=>
 .ret ⟨[.mvn 1],[0],[(2,1)],2⟩ (r3.2,aj.mk r3.1.iI r3.1.fat (IntKind.wrap .i64 (r3.1.fK-1)) r3.1.eH)
def avD(p_b0:aj):Option ((List Int)×aj):=Mo.den (asn p_b0)
theorem aoc(p_b0:aj):FH (avD p_b0) 91 [.ptr 0 0,.raw (.func (.func 92) #[] #[])] [bP p_b0] (fun _=>.own 1) (fun r=>[bP r.2,.row 3 1 (r.1.map lfI)]):=fH Tryz.func91
abbrev UO(m:aj→Option (aG×aj)):Prop:=∀p_b0,FH (m p_b0) 40 [.ptr 0 0] [bP p_b0] (fun r=>.dat (aG.lf1 r.1)) (fun r=>[bP r.2])
abbrev aeh(m:aj→Option ((List aG)×aj)):Prop:=∀p_b0,FH (m p_b0) 90 [.ptr 0 0,.raw (.func (.func 40) #[] #[])] [bP p_b0] (fun r=>.lf (.rows 78 (r.1.map aG.lf))) (fun r=>[bP r.2])
structure UQ where
 m1:(p_b0:aj)→Option (aG×aj)
 ok1:UO m1
 m2:(p_b0:aj)→Option ((List aG)×aj)
 ok2:aeh m2
def ajJ(R_:UQ)(p_b0:aj):Mo (aG×aj):=
 .cH [0] (iH p_b0) fun r0 _=>
 .cH [0] (vF r0.2) fun r1 _=>
 .cH [0] (vG r1.2) fun r2 _=>
 .cH [0] (vG r2.2) fun r3 _=>
 .cH [0] (vG r3.2) fun r4 _=>
 .cH [0] (aob r4.2) fun r5 _=>
 .cH [0] (an7 r5.2) fun r6 _=>
 .cH [0] (vF r6.2) fun r7 _=>
 .cH [0] (iH r7.2) fun r8 _=>
 .cH [0] (R_.ok2 r8.2) fun r9 _=>
 .cH [0] (aoc r9.2) fun r10 _=>
 .cH [0] (qy r10.2) fun r11 _=>
 .ret ⟨[.frz 2,.frz 3,.frz 4,.tod 0,.kill 1],[0],[],1⟩ (aG.mk r0.1 r1.1 r2.1 r3.1 r4.1 r5.1 r6.1 r7.1 r8.1 r9.1 r10.1 r11.1,r11.2)
theorem ajK(R_:UQ):UO fun p_b0=>Mo.den (ajJ R_ p_b0):=fun _=>fH Tryz.func40
def ajL(R_:UQ)(r0:Int×aj):Mo (Bool):=
 .iG 6002 (decide ((r0.1:Int)<0)) (.stop)<|
 .rt [0,1,5,18] 1 (decide ((64:Int)≤r0.2.fK))
def ajM(R_:UQ)(r0:Int×aj)(r1:Bool):Mo (aj):=
 .iB (r1) (.stop)<|
 .rt [0,1,5] 1 (r0.2)
def agt(R_:UQ)(l0:List aG)(r0:Int×aj)(s7758:aj)(v0:Int):Mo (Bool):=
 .iG 16003 (decide ((v0:Int)<r0.1)) (.stop)<|
 .rt [0,1,5,6,7,38] 2 (false)
def agu(R_:UQ)(r0:Int×aj):(Int×aj×(List aG))→Mo ((Int×aj×(List aG))⊕(aj×(List aG))):=fun(v0,s7758,l0)=>
 .jk Tryz.f90 1 [1,1,1,1,1,0,1,0,0,0,0] 21 (fun r_=>⟨[(0,.ptr 0 0),(1,.raw (.func (.func 40) #[] #[])),(5,.i_ r0.1),(6,.own 1),(7,.i_ v0),(38,.b_ r_)],[bP s7758,.row 49 78 (l0.map aG.lf)]⟩) ⟨[(0,.ptr 0 0),(1,.raw (.func (.func 40) #[] #[])),(5,.i_ r0.1),(6,.own 1),(7,.i_ v0)],[bP s7758,.row 49 78 (l0.map aG.lf)]⟩ (agt R_ l0 r0 s7758 v0) fun r1=>
 .iB (r1) (.stop)<|
 .rt [0,6] 2 (.inr (s7758,l0))
def apB(R_:UQ)(p_b0:aj):Mo ((List aG)×aj):=
 .cH [0] (iH p_b0) fun r0 _=>
 .jk Tryz.f90 1 [1,1,0,0] 11 (fun r_=>⟨[(0,.ptr 0 0),(1,.raw (.func (.func 40) #[] #[])),(5,.i_ r0.1),(18,.b_ r_)],[bP r0.2]⟩) ⟨[(0,.ptr 0 0),(1,.raw (.func (.func 40) #[] #[])),(5,.i_ r0.1)],[bP r0.2]⟩ (ajL R_ r0) fun r1=>
 .jk Tryz.f90 1 [1,1,0,1] 1 (fun r_=>⟨[(0,.ptr 0 0),(1,.raw (.func (.func 40) #[] #[])),(5,.i_ r0.1)],[bP r_]⟩) ⟨[(0,.ptr 0 0),(1,.raw (.func (.func 40) #[] #[])),(5,.i_ r0.1),(18,.b_ r1)],[bP r0.2]⟩ (ajM R_ r0 r1) fun r2=>
 .say [] (ok1 (by simp[aG.bf]:(([]:List aG).map aG.lf)=[]))<|
 .l1y [.sQ 6 49 78,.mg 1 (([]:List aG).map aG.lf)] Tryz.f90 1 [1,1,1,1,1,0,1,0] 0 (.exit 0) (fun(v0,s7758,l0)=>⟨[(0,.ptr 0 0),(1,.raw (.func (.func 40) #[] #[])),(5,.i_ r0.1),(6,.own 1),(7,.i_ v0)],[bP s7758,.row 49 78 (l0.map aG.lf)]⟩) (fun r_=>⟨[(0,.ptr 0 0),(6,.own 1)],[bP r_.1,.row 49 78 (r_.2.map aG.lf)]⟩) (agu R_ r0) (0,(aj.mk r2.iI r2.fat (IntKind.wrap .i64 (r2.fK+1)) r2.eH),([]:List aG)) fun r3=>
 .ret ⟨[.frz 1],[0],[],1⟩ (r3.2,aj.mk r3.1.iI r3.1.fat (IntKind.wrap .i64 (r3.1.fK-1)) r3.1.eH)
theorem aod(R_:UQ):aeh fun p_b0=>Mo.den (apB R_ p_b0):=fun _=>fH Tryz.func90
def FD:Nat→UQ
 |0=>{ m1:=fun p_b0=>none,ok1:=fun _ _ h=>(by cases h),m2:=fun p_b0=>none,ok2:=fun _ _ h=>(by cases h) }
 |n_+1=>{ m1:=fun p_b0=>Mo.den (ajJ (FD n_) p_b0),ok1:=ajK (FD n_),m2:=fun p_b0=>Mo.den (apB (FD n_) p_b0),ok2:=aod (FD n_) }
def avE(p_b0:aj):Option (aG×aj):=(FD FU).m1 p_b0
theorem aoe:UO avE:=(FD FU).ok1
def agv(p_s:ByteArray)(r0:Int×aj)(r1:Int×aj)(r2:ByteArray×aj)(r3:Int×aj)(r4:aG×aj):Mo (Bool):=
 .iG 10004 (r4.2.eH) (.ret ⟨[.kill 1],[0,2,5,35],[],3⟩ (true))<|
 .ret ⟨[.kill 1],[0,2,5,35],[],3⟩ (r4.2.fat != (p_s.size:Int))
def agw(p_s:ByteArray)(r0:Int×aj)(r1:Int×aj)(r2:ByteArray×aj)(r3:Int×aj)(r4:aG×aj)(r5:ByteArray×Int):Mo (Bool):=
 .iG 16002 (r5.2 != 0) (.stop)<|
 .rt [2,5,48] 3 (!decide ((r5.1:ByteArray)=(p_s:ByteArray)))
def aso(p_s:ByteArray):Mo (bY×Int):=
 .say [.at_ 6 1,.norm 1] ok0<|
 .cH [1] (iH (aj.mk p_s 0 0 false)) fun r0 _=>
 .cH [1] (iH r0.2) fun r1 _=>
 .cH [1] (vF r1.2) fun r2 _=>
 .cH [1] (iH r2.2) fun r3 _=>
 .cH [1] (aoe r3.2) fun r4 _=>
 .jk Tryz.f16 0 [1,1,1,1,0,0] 15 (fun r_=>⟨[(0,.lf (.str p_s)),(2,.ptr 0 0),(5,.ptr 2 0),(35,.b_ r_)],[.box 51 (Z51),.dead,.box 51 (.agg (.i_ r0.1::.i_ r1.1::.lf (.str r2.1)::.i_ r3.1::.i_ r4.1.aF::.lf (.str r4.1.gu)::.i_ r4.1.fU.aF::.i_ r4.1.fU.fA::.lf (.str r4.1.fU.fText)::.lf (.rows 5 (r4.1.fU.aW.map ah.lf))::.lf (.rows 6 (r4.1.fU.aU.map aJ.lf))::.i_ r4.1.aU.aF::.i_ r4.1.aU.fA::.lf (.str r4.1.aU.fText)::.lf (.rows 5 (r4.1.aU.aW.map ah.lf))::.lf (.rows 6 (r4.1.aU.aU.map aJ.lf))::.i_ r4.1.dK.aF::.i_ r4.1.dK.fA::.lf (.str r4.1.dK.fText)::.lf (.rows 5 (r4.1.dK.aW.map ah.lf))::.lf (.rows 6 (r4.1.dK.aU.map aJ.lf))::.lf (.str r4.1.dS.fName)::.lf (.rows 31 (r4.1.dS.bM.map aQ.lf))::.i_ r4.1.dS.aZ.iZ::.b_ r4.1.dS.aZ.jE::.i_ r4.1.dS.aZ.kT.aF::.i_ r4.1.dS.aZ.kT.fA::.lf (.str r4.1.dS.aZ.kT.fText)::.lf (.rows 5 (r4.1.dS.aZ.kT.aW.map ah.lf))::.lf (.rows 6 (r4.1.dS.aZ.kT.aU.map aJ.lf))::.b_ r4.1.dS.aZ.jF::.i_ r4.1.dS.aZ.kU.aF::.i_ r4.1.dS.aZ.kU.fA::.lf (.str r4.1.dS.aZ.kU.fText)::.lf (.rows 5 (r4.1.dS.aZ.kU.aW.map ah.lf))::.lf (.rows 6 (r4.1.dS.aZ.kU.aU.map aJ.lf))::.lf (.rows 5 (r4.1.dS.aZ.iV.map ah.lf))::.i_ r4.1.dS.aZ.jQ::.i_ r4.1.dS.aZ.jR::.lf (.rows 1 (r4.1.dS.aZ.dZ.map lfS))::.lf (.rows 22 (r4.1.dS.aZ.dD.map bH.lf))::.b_ r4.1.dS.aZ.lX::.lf (.rows 21 (r4.1.dS.aZ.eU.map aI.lf))::.b_ r4.1.dS.aZ.gB::.i_ r4.1.dS.lg::.i_ r4.1.dS.jo::.lf (.str r4.1.aY.fName)::.i_ r4.1.aY.aF::.lf (.rows 2 (r4.1.aY.gq.map bn.lf))::.b_ r4.1.aY.gB::.b_ r4.1.aY.lF::.b_ r4.1.aY.jr::.i_ r4.1.aY.bG.fOp::.lf (.rows 1 (r4.1.aY.bG.cO.map lfS))::.i_ r4.1.aY.bG.fArg.aF::.i_ r4.1.aY.bG.fArg.fA::.lf (.str r4.1.aY.bG.fArg.fText)::.lf (.rows 5 (r4.1.aY.bG.fArg.aW.map ah.lf))::.lf (.rows 6 (r4.1.aY.bG.fArg.aU.map aJ.lf))::.lf (.rows 5 (r4.1.aY.bG.fArgs.map ah.lf))::.i_ r4.1.aY.bG.fN::.i_ r4.1.aY.bG.fM::.i_ r4.1.aY.bG.dY.aF::.lf (.rows 2 (r4.1.aY.bG.dY.bF.map cu.lf))::.i_ r4.1.aY.bG.dY.fR::.i_ r4.1.aY.bG.fExpr.fOp::.lf (.rows 1 (r4.1.aY.bG.fExpr.cO.map lfS))::.lf (.str r4.1.aY.bG.fExpr.fName)::.lf (.rows 1 (r4.1.aY.bG.fExpr.eP.map lfS))::.i_ r4.1.aY.bG.fExpr.fArg.aF::.i_ r4.1.aY.bG.fExpr.fArg.fA::.lf (.str r4.1.aY.bG.fExpr.fArg.fText)::.lf (.rows 5 (r4.1.aY.bG.fExpr.fArg.aW.map ah.lf))::.lf (.rows 6 (r4.1.aY.bG.fExpr.fArg.aU.map aJ.lf))::.i_ r4.1.aY.bG.fExpr.fN::.lf (.rows 11 (r4.1.aY.bG.fExpr.bC.map aP.lf))::.lf (.rows 25 (r4.1.aY.bG.bC.map aO.lf))::.lf (.str r4.1.mM)::.i_ r4.1.eu::.lf (.rows 78 (r4.1.bQ.map aG.lf))::.lf (.rows 1 (r4.1.eG.map lfI))::.b_ r4.1.gQ::[]))]⟩) ⟨[(0,.lf (.str p_s)),(2,.ptr 0 0),(4,.ptr 1 0),(5,.ptr 2 0)],[.box 51 (Z51),bP r4.2,.box 51 (.agg (.i_ r0.1::.i_ r1.1::.lf (.str r2.1)::.i_ r3.1::.i_ r4.1.aF::.lf (.str r4.1.gu)::.i_ r4.1.fU.aF::.i_ r4.1.fU.fA::.lf (.str r4.1.fU.fText)::.lf (.rows 5 (r4.1.fU.aW.map ah.lf))::.lf (.rows 6 (r4.1.fU.aU.map aJ.lf))::.i_ r4.1.aU.aF::.i_ r4.1.aU.fA::.lf (.str r4.1.aU.fText)::.lf (.rows 5 (r4.1.aU.aW.map ah.lf))::.lf (.rows 6 (r4.1.aU.aU.map aJ.lf))::.i_ r4.1.dK.aF::.i_ r4.1.dK.fA::.lf (.str r4.1.dK.fText)::.lf (.rows 5 (r4.1.dK.aW.map ah.lf))::.lf (.rows 6 (r4.1.dK.aU.map aJ.lf))::.lf (.str r4.1.dS.fName)::.lf (.rows 31 (r4.1.dS.bM.map aQ.lf))::.i_ r4.1.dS.aZ.iZ::.b_ r4.1.dS.aZ.jE::.i_ r4.1.dS.aZ.kT.aF::.i_ r4.1.dS.aZ.kT.fA::.lf (.str r4.1.dS.aZ.kT.fText)::.lf (.rows 5 (r4.1.dS.aZ.kT.aW.map ah.lf))::.lf (.rows 6 (r4.1.dS.aZ.kT.aU.map aJ.lf))::.b_ r4.1.dS.aZ.jF::.i_ r4.1.dS.aZ.kU.aF::.i_ r4.1.dS.aZ.kU.fA::.lf (.str r4.1.dS.aZ.kU.fText)::.lf (.rows 5 (r4.1.dS.aZ.kU.aW.map ah.lf))::.lf (.rows 6 (r4.1.dS.aZ.kU.aU.map aJ.lf))::.lf (.rows 5 (r4.1.dS.aZ.iV.map ah.lf))::.i_ r4.1.dS.aZ.jQ::.i_ r4.1.dS.aZ.jR::.lf (.rows 1 (r4.1.dS.aZ.dZ.map lfS))::.lf (.rows 22 (r4.1.dS.aZ.dD.map bH.lf))::.b_ r4.1.dS.aZ.lX::.lf (.rows 21 (r4.1.dS.aZ.eU.map aI.lf))::.b_ r4.1.dS.aZ.gB::.i_ r4.1.dS.lg::.i_ r4.1.dS.jo::.lf (.str r4.1.aY.fName)::.i_ r4.1.aY.aF::.lf (.rows 2 (r4.1.aY.gq.map bn.lf))::.b_ r4.1.aY.gB::.b_ r4.1.aY.lF::.b_ r4.1.aY.jr::.i_ r4.1.aY.bG.fOp::.lf (.rows 1 (r4.1.aY.bG.cO.map lfS))::.i_ r4.1.aY.bG.fArg.aF::.i_ r4.1.aY.bG.fArg.fA::.lf (.str r4.1.aY.bG.fArg.fText)::.lf (.rows 5 (r4.1.aY.bG.fArg.aW.map ah.lf))::.lf (.rows 6 (r4.1.aY.bG.fArg.aU.map aJ.lf))::.lf (.rows 5 (r4.1.aY.bG.fArgs.map ah.lf))::.i_ r4.1.aY.bG.fN::.i_ r4.1.aY.bG.fM::.i_ r4.1.aY.bG.dY.aF::.lf (.rows 2 (r4.1.aY.bG.dY.bF.map cu.lf))::.i_ r4.1.aY.bG.dY.fR::.i_ r4.1.aY.bG.fExpr.fOp::.lf (.rows 1 (r4.1.aY.bG.fExpr.cO.map lfS))::.lf (.str r4.1.aY.bG.fExpr.fName)::.lf (.rows 1 (r4.1.aY.bG.fExpr.eP.map lfS))::.i_ r4.1.aY.bG.fExpr.fArg.aF::.i_ r4.1.aY.bG.fExpr.fArg.fA::.lf (.str r4.1.aY.bG.fExpr.fArg.fText)::.lf (.rows 5 (r4.1.aY.bG.fExpr.fArg.aW.map ah.lf))::.lf (.rows 6 (r4.1.aY.bG.fExpr.fArg.aU.map aJ.lf))::.i_ r4.1.aY.bG.fExpr.fN::.lf (.rows 11 (r4.1.aY.bG.fExpr.bC.map aP.lf))::.lf (.rows 25 (r4.1.aY.bG.bC.map aO.lf))::.lf (.str r4.1.mM)::.i_ r4.1.eu::.lf (.rows 78 (r4.1.bQ.map aG.lf))::.lf (.rows 1 (r4.1.eG.map lfI))::.b_ r4.1.gQ::[]))]⟩ (agv p_s r0 r1 r2 r3 r4) fun r5=>
 .iB (r5) (.ret (aS 2) (bY.mk 0 0 ⟨#[]⟩ 0 aG.z,4))<|
 .cl (UG (bY.mk r0.1 r1.1 r2.1 r3.1 r4.1)) fun r6 _=>
 .jk Tryz.f16 0 [1,1,1,1,1,1,0,0] 21 (fun r_=>⟨[(2,.ptr 0 0),(5,.ptr 2 0),(48,.b_ r_)],[.box 51 (Z51),.dead,.box 51 (.agg (.i_ r0.1::.i_ r1.1::.lf (.str r2.1)::.i_ r3.1::.i_ r4.1.aF::.lf (.str r4.1.gu)::.i_ r4.1.fU.aF::.i_ r4.1.fU.fA::.lf (.str r4.1.fU.fText)::.lf (.rows 5 (r4.1.fU.aW.map ah.lf))::.lf (.rows 6 (r4.1.fU.aU.map aJ.lf))::.i_ r4.1.aU.aF::.i_ r4.1.aU.fA::.lf (.str r4.1.aU.fText)::.lf (.rows 5 (r4.1.aU.aW.map ah.lf))::.lf (.rows 6 (r4.1.aU.aU.map aJ.lf))::.i_ r4.1.dK.aF::.i_ r4.1.dK.fA::.lf (.str r4.1.dK.fText)::.lf (.rows 5 (r4.1.dK.aW.map ah.lf))::.lf (.rows 6 (r4.1.dK.aU.map aJ.lf))::.lf (.str r4.1.dS.fName)::.lf (.rows 31 (r4.1.dS.bM.map aQ.lf))::.i_ r4.1.dS.aZ.iZ::.b_ r4.1.dS.aZ.jE::.i_ r4.1.dS.aZ.kT.aF::.i_ r4.1.dS.aZ.kT.fA::.lf (.str r4.1.dS.aZ.kT.fText)::.lf (.rows 5 (r4.1.dS.aZ.kT.aW.map ah.lf))::.lf (.rows 6 (r4.1.dS.aZ.kT.aU.map aJ.lf))::.b_ r4.1.dS.aZ.jF::.i_ r4.1.dS.aZ.kU.aF::.i_ r4.1.dS.aZ.kU.fA::.lf (.str r4.1.dS.aZ.kU.fText)::.lf (.rows 5 (r4.1.dS.aZ.kU.aW.map ah.lf))::.lf (.rows 6 (r4.1.dS.aZ.kU.aU.map aJ.lf))::.lf (.rows 5 (r4.1.dS.aZ.iV.map ah.lf))::.i_ r4.1.dS.aZ.jQ::.i_ r4.1.dS.aZ.jR::.lf (.rows 1 (r4.1.dS.aZ.dZ.map lfS))::.lf (.rows 22 (r4.1.dS.aZ.dD.map bH.lf))::.b_ r4.1.dS.aZ.lX::.lf (.rows 21 (r4.1.dS.aZ.eU.map aI.lf))::.b_ r4.1.dS.aZ.gB::.i_ r4.1.dS.lg::.i_ r4.1.dS.jo::.lf (.str r4.1.aY.fName)::.i_ r4.1.aY.aF::.lf (.rows 2 (r4.1.aY.gq.map bn.lf))::.b_ r4.1.aY.gB::.b_ r4.1.aY.lF::.b_ r4.1.aY.jr::.i_ r4.1.aY.bG.fOp::.lf (.rows 1 (r4.1.aY.bG.cO.map lfS))::.i_ r4.1.aY.bG.fArg.aF::.i_ r4.1.aY.bG.fArg.fA::.lf (.str r4.1.aY.bG.fArg.fText)::.lf (.rows 5 (r4.1.aY.bG.fArg.aW.map ah.lf))::.lf (.rows 6 (r4.1.aY.bG.fArg.aU.map aJ.lf))::.lf (.rows 5 (r4.1.aY.bG.fArgs.map ah.lf))::.i_ r4.1.aY.bG.fN::.i_ r4.1.aY.bG.fM::.i_ r4.1.aY.bG.dY.aF::.lf (.rows 2 (r4.1.aY.bG.dY.bF.map cu.lf))::.i_ r4.1.aY.bG.dY.fR::.i_ r4.1.aY.bG.fExpr.fOp::.lf (.rows 1 (r4.1.aY.bG.fExpr.cO.map lfS))::.lf (.str r4.1.aY.bG.fExpr.fName)::.lf (.rows 1 (r4.1.aY.bG.fExpr.eP.map lfS))::.i_ r4.1.aY.bG.fExpr.fArg.aF::.i_ r4.1.aY.bG.fExpr.fArg.fA::.lf (.str r4.1.aY.bG.fExpr.fArg.fText)::.lf (.rows 5 (r4.1.aY.bG.fExpr.fArg.aW.map ah.lf))::.lf (.rows 6 (r4.1.aY.bG.fExpr.fArg.aU.map aJ.lf))::.i_ r4.1.aY.bG.fExpr.fN::.lf (.rows 11 (r4.1.aY.bG.fExpr.bC.map aP.lf))::.lf (.rows 25 (r4.1.aY.bG.bC.map aO.lf))::.lf (.str r4.1.mM)::.i_ r4.1.eu::.lf (.rows 78 (r4.1.bQ.map aG.lf))::.lf (.rows 1 (r4.1.eG.map lfI))::.b_ r4.1.gQ::[]))]⟩) ⟨[(0,.lf (.str p_s)),(2,.ptr 0 0),(5,.ptr 2 0),(6,.lf (.str r6.1)),(7,.i_ r6.2)],[.box 51 (Z51),.dead,.box 51 (.agg (.i_ r0.1::.i_ r1.1::.lf (.str r2.1)::.i_ r3.1::.i_ r4.1.aF::.lf (.str r4.1.gu)::.i_ r4.1.fU.aF::.i_ r4.1.fU.fA::.lf (.str r4.1.fU.fText)::.lf (.rows 5 (r4.1.fU.aW.map ah.lf))::.lf (.rows 6 (r4.1.fU.aU.map aJ.lf))::.i_ r4.1.aU.aF::.i_ r4.1.aU.fA::.lf (.str r4.1.aU.fText)::.lf (.rows 5 (r4.1.aU.aW.map ah.lf))::.lf (.rows 6 (r4.1.aU.aU.map aJ.lf))::.i_ r4.1.dK.aF::.i_ r4.1.dK.fA::.lf (.str r4.1.dK.fText)::.lf (.rows 5 (r4.1.dK.aW.map ah.lf))::.lf (.rows 6 (r4.1.dK.aU.map aJ.lf))::.lf (.str r4.1.dS.fName)::.lf (.rows 31 (r4.1.dS.bM.map aQ.lf))::.i_ r4.1.dS.aZ.iZ::.b_ r4.1.dS.aZ.jE::.i_ r4.1.dS.aZ.kT.aF::.i_ r4.1.dS.aZ.kT.fA::.lf (.str r4.1.dS.aZ.kT.fText)::.lf (.rows 5 (r4.1.dS.aZ.kT.aW.map ah.lf))::.lf (.rows 6 (r4.1.dS.aZ.kT.aU.map aJ.lf))::.b_ r4.1.dS.aZ.jF::.i_ r4.1.dS.aZ.kU.aF::.i_ r4.1.dS.aZ.kU.fA::.lf (.str r4.1.dS.aZ.kU.fText)::.lf (.rows 5 (r4.1.dS.aZ.kU.aW.map ah.lf))::.lf (.rows 6 (r4.1.dS.aZ.kU.aU.map aJ.lf))::.lf (.rows 5 (r4.1.dS.aZ.iV.map ah.lf))::.i_ r4.1.dS.aZ.jQ::.i_ r4.1.dS.aZ.jR::.lf (.rows 1 (r4.1.dS.aZ.dZ.map lfS))::.lf (.rows 22 (r4.1.dS.aZ.dD.map bH.lf))::.b_ r4.1.dS.aZ.lX::.lf (.rows 21 (r4.1.dS.aZ.eU.map aI.lf))::.b_ r4.1.dS.aZ.gB::.i_ r4.1.dS.lg::.i_ r4.1.dS.jo::.lf (.str r4.1.aY.fName)::.i_ r4.1.aY.aF::.lf (.rows 2 (r4.1.aY.gq.map bn.lf))::.b_ r4.1.aY.gB::.b_ r4.1.aY.lF::.b_ r4.1.aY.jr::.i_ r4.1.aY.bG.fOp::.lf (.rows 1 (r4.1.aY.bG.cO.map lfS))::.i_ r4.1.aY.bG.fArg.aF::.i_ r4.1.aY.bG.fArg.fA::.lf (.str r4.1.aY.bG.fArg.fText)::.lf (.rows 5 (r4.1.aY.bG.fArg.aW.map ah.lf))::.lf (.rows 6 (r4.1.aY.bG.fArg.aU.map aJ.lf))::.lf (.rows 5 (r4.1.aY.bG.fArgs.map ah.lf))::.i_ r4.1.aY.bG.fN::.i_ r4.1.aY.bG.fM::.i_ r4.1.aY.bG.dY.aF::.lf (.rows 2 (r4.1.aY.bG.dY.bF.map cu.lf))::.i_ r4.1.aY.bG.dY.fR::.i_ r4.1.aY.bG.fExpr.fOp::.lf (.rows 1 (r4.1.aY.bG.fExpr.cO.map lfS))::.lf (.str r4.1.aY.bG.fExpr.fName)::.lf (.rows 1 (r4.1.aY.bG.fExpr.eP.map lfS))::.i_ r4.1.aY.bG.fExpr.fArg.aF::.i_ r4.1.aY.bG.fExpr.fArg.fA::.lf (.str r4.1.aY.bG.fExpr.fArg.fText)::.lf (.rows 5 (r4.1.aY.bG.fExpr.fArg.aW.map ah.lf))::.lf (.rows 6 (r4.1.aY.bG.fExpr.fArg.aU.map aJ.lf))::.i_ r4.1.aY.bG.fExpr.fN::.lf (.rows 11 (r4.1.aY.bG.fExpr.bC.map aP.lf))::.lf (.rows 25 (r4.1.aY.bG.bC.map aO.lf))::.lf (.str r4.1.mM)::.i_ r4.1.eu::.lf (.rows 78 (r4.1.bQ.map aG.lf))::.lf (.rows 1 (r4.1.eG.map lfI))::.b_ r4.1.gQ::[]))]⟩ (agw p_s r0 r1 r2 r3 r4 r6) fun r7=>
 .iB (r7) (.stop)<|
 .ret (aS 2) (bY.mk r0.1 r1.1 r2.1 r3.1 r4.1,0)
def avF(p_s:ByteArray):Option (bY×Int):=Mo.den (aso p_s)
theorem aei(p_s:ByteArray):FV (avF p_s) 16 [.lf (.str p_s)] (fun r=>.tup [.dat (bY.lf1 r.1),.i_ r.2]):=dA Tryz.func16
def KN(p_n:Int):Mo (Int):=
 .iB (decide ((p_n:Int)<0)) (.rt [3] 0 (gX .xor .u64 (IntKind.max .u64) (ML .u64 (IntKind.wrap .u64 p_n) 1)))<|
 .rt [3] 0 (ML .u64 (IntKind.wrap .u64 p_n) 1)
def UR(p_n:Int):Option (Int):=Mo.den (KN p_n)
def KO(v0:Int)(v1:ByteArray)(v2:Int):Mo (Bool):=
 .aV 14002 (decide ((v2:Int)<10)) [3,4,5,18] 0 (decide ((128:Int)≤v0))
def yR :(Int×ByteArray×Int)→Mo ((Int×ByteArray×Int)⊕(Int×ByteArray)):=fun(v0,v1,v2)=>
 .jk Tryz.f139 0 [1,1,1,1,0,1,0,0,0,0] 19 (fun r_=>⟨[(3,.lf (.int .u64 v0)),(4,.lf (.str v1)),(5,.i_ v2),(18,.b_ r_)],[]⟩) ⟨[(3,.lf (.int .u64 v0)),(4,.lf (.str v1)),(5,.i_ v2)],[]⟩ (KO v0 v1 v2) fun r0=>
 .iB (r0) (.say [.nums [gX .or .u8 (IntKind.wrap .u8 (Int.tmod v0 128)) 128]] (okc (by decide:(128:Int)≠0) (ok1 (by simp[lfI,lfK]:[((lfK .u8) (gX .or .u8 (IntKind.wrap .u8 (Int.tmod v0 128)) 128))]=[gX .or .u8 (IntKind.wrap .u8 (Int.tmod v0 128)) 128].map fun n=>[Lf.int .u8 n])))<|
 .grd (v1.size+(strOfNums [gX .or .u8 (IntKind.wrap .u8 (Int.tmod v0 128)) 128]).size≤9223372036854775807) fun h0=>
 .say [] (okc h0 (ok1 (by decide:(128:Int)≠0)))<|
 .rt [3,4,5] 0 (.inl (IntKind.wrap .u64 (Int.tdiv v0 128),v1++(strOfNums [gX .or .u8 (IntKind.wrap .u8 (Int.tmod v0 128)) 128]),IntKind.wrap .i64 (v2+1))))<|
 .rt [3,4] 0 (.inr (v0,v1))
def UU(v0:Int)(v1:ByteArray)(v2:Int):Option ((Int×ByteArray)):=bW (fun v_=>(yR  v_).den) FU (v0,v1,v2)
def ajN(p_n:Int):Mo (ByteArray):=
 .say [] (ok1 (by decide:(0:Int)≤1))<|
 .jp Tryz.f139 0 [1,1,0,1] 1 [3,10] 0 (.normal) (fun r_=>⟨[(3,.lf (.int .u64 r_))],[]⟩) ⟨[(3,.lf (.int .u64 (ML .u64 (IntKind.wrap .u64 p_n) 1))),(10,.lf (.bool (decide ((p_n:Int)<0))))],[]⟩ (UR p_n) (jW (by kernel_rfl)) fun r0 _=>
 .l1m [] Tryz.f139 0 [1,1,1,1,0,1,0] 0 (.exit 0) (fun(v0,v1,v2)=>⟨[(3,.lf (.int .u64 v0)),(4,.lf (.str v1)),(5,.i_ v2)],[]⟩) (fun r_=>⟨[(3,.lf (.int .u64 r_.1)),(4,.lf (.str r_.2))],[]⟩) (UU r0 ⟨#[]⟩ 0) (yR ) (r0,⟨#[]⟩,0) fun r1=>
 .say [.nums [IntKind.wrap .u8 r1.1]] (ok1 (by simp[lfI,lfK]:[((lfK .u8) (IntKind.wrap .u8 r1.1))]=[IntKind.wrap .u8 r1.1].map fun n=>[Lf.int .u8 n]))<|
 .grd (r1.2.size+(strOfNums [IntKind.wrap .u8 r1.1]).size≤9223372036854775807) fun h0=>
 .say [] (ok1 h0)<|
 .ret (aS 1) (r1.2++(strOfNums [IntKind.wrap .u8 r1.1]))
def Q28(p_n:Int):Option (ByteArray):=Mo.den (ajN p_n)
theorem FI(p_n:Int):FV (Q28 p_n) 139 [.i_ p_n] (fun r=>.lf (.str r)):=dA Tryz.func139
def apC(p_n:Int)(p_b0:aN):Mo (aN):=
 .say [.order [(true,0),(true,1),(true,2),(true,3),(true,4),(false,5),(true,6),(true,7),(true,8),(false,9)] (some 9) []] ok0<|
 .cl (FI p_n) fun r0 _=>
 .grd (p_b0.fS.size+r0.size≤9223372036854775807) fun h0=>
 .say [] (ok1 h0)<|
 .rt [] 1 (aN.mk (p_b0.fS++r0) p_b0.BX p_b0.wF)
def Q16(p_n:Int)(p_b0:aN):Option (aN):=Mo.den (apC p_n p_b0)
theorem gJ(p_n:Int)(p_b0:aN):FH (Q16 p_n p_b0) 83 [.ptr 0 0,.i_ p_n] [fD p_b0] (fun _=>.tup []) (fun r=>[fD r]):=fH Tryz.func83
end
end Go.Proofs.YtflpefkohpjjpaaGreatDoor
set_option linter.unusedSimpArgs false
set_option linter.unusedVariables false
namespace Go.Proofs.YtflpefkohpjjpaaGreatDoor
open Go.RowKit
set_option maxRecDepth 20000
set_option maxHeartbeats 4000000
noncomputable section
def apD(p_s:ByteArray)(p_b0:aN):Mo (aN):=
 .cH [0] (gJ (p_s.size:Int) p_b0) fun r0 _=>
 .grd (r0.fS.size+p_s.size≤9223372036854775807) fun h0=>
 .say [] (ok1 h0)<|
 .rt [] 1 (aN.mk (r0.fS++p_s) r0.BX r0.wF)
def Q66(p_s:ByteArray)(p_b0:aN):Option (aN):=Mo.den (apD p_s p_b0)
theorem sD(p_s:ByteArray)(p_b0:aN):FH (Q66 p_s p_b0) 84 [.ptr 0 0,.lf (.str p_s)] [fD p_b0] (fun _=>.tup []) (fun r=>[fD r]):=fH Tryz.func84
def ajO(p_v:ah):Mo (Bool):=
 .sf Tryz.f71 0 [1,0] 0 8 1 [(1,.ptr 0 0),(2,.b_ false)] [aX p_v] 10 (o7 p_v) fun r0=>
 .sb Tryz.f71 0 [1,0] 8 5 1 [(1,.ptr 0 0),(2,.b_ false)] [aX p_v] 10 15 r0 (o8 p_v r0) fun r1=>
 .sb Tryz.f71 0 [1,0] 13 6 1 [(1,.ptr 0 0),(2,.b_ false)] [aX p_v] 15 21 r1 (mV p_v r1) fun r2=>
 .sk Tryz.f71 0 [1,0] 19 6 1 (fun r_=>⟨[(2,.b_ false),(27,.b_ r_)],[.dead]⟩) ⟨[(1,.ptr 0 0),(2,.b_ false),(21,.b_ r2)],[aX p_v]⟩ (mW p_v r2) fun r3=>
 .sk Tryz.f71 0 [1,0] 25 1 1 (fun r_=>⟨[(2,.b_ r3)],[.dead]⟩) ⟨[(2,.b_ false),(27,.b_ r3)],[.dead]⟩ (dR r3) fun r4=>
 .ret (aS 1) (r3)
def asq(p_v:ah):Option (Bool):=Mo.den (ajO p_v)
theorem vH(p_v:ah):FV (asq p_v) 71 [.dat (ah.lf1 p_v)] .b_:=dA Tryz.func71
def C9(p_v:ah):(Int×(List ah))→Mo ((Int×(List ah))⊕((List ah))):=fun(v0,l0)=>
 .nu p_v.aW ah.lf<|
 .iB (decide ((v0:Int)<(p_v.aW.length:Int))) (.gx ah.bf p_v.aW v0 fun x0 _=>
 .say [.rows ((l0++[x0]).map ah.lf)] (ok1 (ap_ ah.bf l0 x0))<|
 .grd ((l0.length+[x0].length)*80≤140737488355328) fun h0=>
 .say [] (ok1 (cp_ ah.lf h0))<|
 .ret ⟨[],[1,3,4],[(3,1)],2⟩ (.inl (IntKind.wrap .i64 (v0+1),l0++[x0])))<|
 .rt [1,3] 2 (.inr (l0))
def abU(p_v:ah)(v0:Int)(l0:List ah):Option (((List ah))):=bW (fun v_=>(C9 p_v v_).den) FU (v0,l0)
def X6(p_v:ah):Mo (((List ah))):=
 .iB (p_v.aF==6) (.say [] (ok1 (by simp[ah.bf]:(([]:List ah).map ah.lf)=[]))<|
 .l1m [.mg 1 (([]:List ah).map ah.lf)] Tryz.f312 0 [1,1,0,1,0,1,0] 0 (.exit 0) (fun(v0,l0)=>⟨[(1,.ptr 0 0),(3,.own 1),(4,.i_ v0)],[aX p_v,.row 25 5 (l0.map ah.lf)]⟩) (fun r_=>⟨[(1,.ptr 0 0),(3,.own 1)],[aX p_v,.row 25 5 (r_.map ah.lf)]⟩) (abU p_v 0 ([]:List ah)) (C9 p_v) (0,([]:List ah)) fun r0=>
 .rt [1,3] 2 (r0))<|
 .say [] (ok1 (by simp[ah.bf]:(([]:List ah).map ah.lf)=[]))<|
 .ret ⟨[.mg 1 (([]:List ah).map ah.lf)],[1,3],[],2⟩ (([]:List ah))
def yS(p_v:ah):(Int×(List ah))→Mo ((Int×(List ah))⊕((List ah))):=fun(v0,l0)=>
 .nu p_v.aU aJ.lf<|
 .iB (decide ((v0:Int)<(p_v.aU.length:Int))) (.gx aJ.bf p_v.aU v0 fun x0 _=>
 .say [.rows ((l0++[x0.fValue]).map ah.lf)] (ok1 (ap_ ah.bf l0 x0.fValue))<|
 .grd ((l0.length+[x0.fValue].length)*80≤140737488355328) fun h0=>
 .say [] (ok1 (cp_ ah.lf h0))<|
 .ret ⟨[],[1,3,5],[(3,1)],2⟩ (.inl (IntKind.wrap .i64 (v0+1),l0++[x0.fValue])))<|
 .ret ⟨[.kill 0],[3],[],2⟩ (.inr (l0))
def UW(p_v:ah)(v0:Int)(l0:List ah):Option (((List ah))):=bW (fun v_=>(yS p_v v_).den) FU (v0,l0)
def P7(p_v:ah)(r0:((List ah))):Mo (((List ah))):=
 .iB (p_v.aF==5) (.l1m [] Tryz.f312 0 [1,1,1,0,1,0,1,0] 0 (.exit 2) (fun(v0,l0)=>⟨[(1,.ptr 0 0),(3,.own 1),(5,.i_ v0)],[aX p_v,.row 25 5 (l0.map ah.lf)]⟩) (fun r_=>⟨[(3,.own 1)],[.dead,.row 25 5 (r_.map ah.lf)]⟩) (UW p_v 0 r0) (yS p_v) (0,r0) fun r1=>
 .rt [3] 2 (r1))<|
 .ret ⟨[.kill 0],[3],[],2⟩ (r0)
def apE(p_v:ah):Mo (List ah):=
 .jy [.sQ 3 25 5] Tryz.f312 0 [1,1,0,1] 1 (.normal) (fun r_=>⟨[(1,.ptr 0 0),(3,.own 1)],[aX p_v,.row 25 5 (r_.map ah.lf)]⟩) ⟨[(1,.ptr 0 0),(3,.own 1),(8,.lf (.bool (p_v.aF==6)))],[aX p_v,.row 25 5 []]⟩ (X6 p_v) fun r0=>
 .jk Tryz.f312 0 [1,1,1,0,1] 1 (fun r_=>⟨[(3,.own 1)],[.dead,.row 25 5 (r_.map ah.lf)]⟩) ⟨[(1,.ptr 0 0),(3,.own 1),(26,.lf (.bool (p_v.aF==5)))],[aX p_v,.row 25 5 (r0.map ah.lf)]⟩ (P7 p_v r0) fun r1=>
 .say [.at_ 0 0,.frz 1] ok0<|
 .ret (aS 1) (r1)
def Q34(p_v:ah):Option (List ah):=Mo.den (apE p_v)
theorem ajP(p_v:ah):FV (Q34 p_v) 312 [.dat (ah.lf1 p_v)] (fun r=>.lf (.rows 5 (r.map ah.lf))):=dA Tryz.func312
abbrev UY(m:ah→Int→Option (Int)):Prop:=∀p_v p_most,FV (m p_v p_most) 259 [.dat (ah.lf1 p_v),.i_ p_most] .i_
structure agx where
 m1:(p_v:ah)→(p_most:Int)→Option (Int)
 ok1:UY m1
def X7(R_:agx)(p_most:Int)(r0:List ah):Mo (Bool):=
 .iG 6002 (decide ((p_most:Int)<2)) (.rt [1,5,16] 1 (true))<|
 .nu r0 ah.lf<|
 .rt [1,5,16] 1 ((r0.length:Int)==0)
def Dc(R_:agx)(p_most:Int)(r0:List ah):(Int×Int)→Mo ((Int×Int)⊕(Int)):=fun(v0,v1)=>
 .nu r0 ah.lf<|
 .iB (decide ((v1:Int)<(r0.length:Int))) (.gx ah.bf r0 v1 fun x0 _=>
 .cl (R_.ok1 x0 (IntKind.wrap .i64 (p_most-1))) fun r1 _=>
 .rt [1,5,6,7] 1 (.inl ((if r1 > v0 then r1 else v0),IntKind.wrap .i64 (v1+1))))<|
 .rt [6] 1 (.inr (v0))
def ajQ(R_:agx)(p_most:Int)(r0:List ah)(v0:Int)(v1:Int):Option (Int):=bW (fun v_=>(Dc R_ p_most r0 v_).den) FU (v0,v1)
def ajR(R_:agx)(p_v:ah)(p_most:Int):Mo (Int):=
 .cl (ajP p_v) fun r0 _=>
 .jy [.kill 0] Tryz.f259 0 [1,1,0,0] 11 (.normal) (fun r_=>⟨[(1,.i_ p_most),(5,.lf (.rows 5 (r0.map ah.lf))),(16,.b_ r_)],[.dead]⟩) ⟨[(1,.i_ p_most),(5,.lf (.rows 5 (r0.map ah.lf)))],[.dead]⟩ (X7 R_ p_most r0) fun r1=>
 .iB (r1) (.ret (aS 1) (1))<|
 .l1m [] Tryz.f259 0 [1,1,1,1,0,1,0] 0 (.exit 0) (fun(v0,v1)=>⟨[(1,.i_ p_most),(5,.lf (.rows 5 (r0.map ah.lf))),(6,.i_ v0),(7,.i_ v1)],[.dead]⟩) (fun r_=>⟨[(6,.i_ r_)],[.dead]⟩) (ajQ R_ p_most r0 0 0) (Dc R_ p_most r0) (0,0) fun r2=>
 .ret (aS 1) (IntKind.wrap .i64 (r2+1))
theorem aof(R_:agx):UY fun p_v p_most=>Mo.den (ajR R_ p_v p_most):=fun _ _=>dA Tryz.func259
def AQ:Nat→agx
 |0=>{ m1:=fun p_v p_most=>none,ok1:=fun _ _ _ h=>(by cases h) }
 |n_+1=>{ m1:=fun p_v p_most=>Mo.den (ajR (AQ n_) p_v p_most),ok1:=aof (AQ n_) }
def Q63(p_v:ah)(p_most:Int):Option (Int):=(AQ FU).m1 p_v p_most
theorem asr:UY Q63:=(AQ FU).ok1
def ajS(p_v:ah):Mo (Int):=
 .cl (asr p_v 17) fun r0 _=>
 .ret (aS 1) (r0)
def asu(p_v:ah):Option (Int):=Mo.den (ajS p_v)
theorem aog(p_v:ah):FV (asu p_v) 189 [.dat (ah.lf1 p_v)] .i_:=dA Tryz.func189
abbrev UZ(m:ah→Int→Option (Int)):Prop:=∀p_v p_most,FV (m p_v p_most) 260 [.dat (ah.lf1 p_v),.i_ p_most] .i_
structure agy where
 m1:(p_v:ah)→(p_most:Int)→Option (Int)
 ok1:UZ m1
def KP(R_:agy)(p_most:Int)(r0:List ah)(v0:Int)(v1:Int):Mo (Bool):=
 .nu r0 ah.lf<|
 .aV 10004 (decide ((v1:Int)<(r0.length:Int))) [1,5,6,7,18] 1 (decide ((v0:Int)<p_most))
def Df(R_:agy)(p_most:Int)(r0:List ah):(Int×Int)→Mo ((Int×Int)⊕(Int)):=fun(v0,v1)=>
 .jk Tryz.f260 0 [1,1,1,0,1,0,0,0,0] 15 (fun r_=>⟨[(1,.i_ p_most),(5,.i_ v0),(6,.lf (.rows 5 (r0.map ah.lf))),(7,.i_ v1),(18,.b_ r_)],[.dead]⟩) ⟨[(1,.i_ p_most),(5,.i_ v0),(6,.lf (.rows 5 (r0.map ah.lf))),(7,.i_ v1)],[.dead]⟩ (KP R_ p_most r0 v0 v1) fun r1=>
 .iB (r1) (.gx ah.bf r0 v1 fun x0 _=>
 .cl (R_.ok1 x0 (IntKind.wrap .i64 (p_most-v0))) fun r2 _=>
 .rt [1,5,6,7] 1 (.inl (IntKind.wrap .i64 (v0+r2),IntKind.wrap .i64 (v1+1))))<|
 .rt [5] 1 (.inr (v0))
def ajT(R_:agy)(p_most:Int)(r0:List ah)(v0:Int)(v1:Int):Option (Int):=bW (fun v_=>(Df R_ p_most r0 v_).den) FU (v0,v1)
def ajU(R_:agy)(p_v:ah)(p_most:Int):Mo (Int):=
 .cl (ajP p_v) fun r0 _=>
 .l1m [.kill 0] Tryz.f260 0 [1,1,1,0,1,0] 0 (.exit 0) (fun(v0,v1)=>⟨[(1,.i_ p_most),(5,.i_ v0),(6,.lf (.rows 5 (r0.map ah.lf))),(7,.i_ v1)],[.dead]⟩) (fun r_=>⟨[(5,.i_ r_)],[.dead]⟩) (ajT R_ p_most r0 1 0) (Df R_ p_most r0) (1,0) fun r1=>
 .ret (aS 1) (r1)
theorem aoh(R_:agy):UZ fun p_v p_most=>Mo.den (ajU R_ p_v p_most):=fun _ _=>dA Tryz.func260
def AU:Nat→agy
 |0=>{ m1:=fun p_v p_most=>none,ok1:=fun _ _ _ h=>(by cases h) }
 |n_+1=>{ m1:=fun p_v p_most=>Mo.den (ajU (AU n_) p_v p_most),ok1:=aoh (AU n_) }
def Q61(p_v:ah)(p_most:Int):Option (Int):=(AU FU).m1 p_v p_most
theorem asv:UZ Q61:=(AU FU).ok1
def ajV(p_v:ah):Mo (Int):=
 .cl (asv p_v 1025) fun r0 _=>
 .ret (aS 1) (r0)
def asw(p_v:ah):Option (Int):=Mo.den (ajV p_v)
theorem aoi(p_v:ah):FV (asw p_v) 190 [.dat (ah.lf1 p_v)] .i_:=dA Tryz.func190
def X8(p_i:Int)(p_n:Int)(p_s:ByteArray)(v0:Int):Mo (Bool):=
 .ask (kN p_s (IntKind.wrap .i64 (p_i+v0))) fun b0 h0=>
 .say [.byt b0] (ok1 (fQ h0))<|
 .iG 14006 (decide (((b0.toNat:Int):Int)<128)) (.rt [0,1,2,7,32] 0 (true))<|
 .ask (kN p_s (IntKind.wrap .i64 (p_i+v0))) fun b1 h1=>
 .say [.byt b1] (ok1 (fQ h1))<|
 .rt [0,1,2,7,32] 0 (decide ((191:Int)<(b1.toNat:Int)))
def Dh(p_i:Int)(p_n:Int)(p_s:ByteArray):(Int)→Mo ((Int)⊕(Unit⊕Unit)):=fun(v0)=>
 .iB (decide ((v0:Int)<p_n)) (.jk Tryz.f313 0 [1,1,0,1,0,0,1,0,0,0] 19 (fun r_=>⟨[(0,.lf (.str p_s)),(1,.i_ p_i),(2,.i_ p_n),(7,.i_ v0),(32,.b_ r_)],[]⟩) ⟨[(0,.lf (.str p_s)),(1,.i_ p_i),(2,.i_ p_n),(7,.i_ v0)],[]⟩ (X8 p_i p_n p_s v0) fun r0=>
 .iB (r0) (.rt [6] 0 (.inr (.inl ())))<|
 .rt [0,1,2,7] 0 (.inl (IntKind.wrap .i64 (v0+1))))<|
 .rt [] 0 (.inr (.inr (())))
def ajW(p_i:Int)(p_n:Int)(p_s:ByteArray)(v0:Int):Option (Unit⊕Unit):=bW (fun v_=>(Dh p_i p_n p_s v_).den) FU (v0)
def apF(p_s:ByteArray)(p_i:Int)(p_n:Int):Mo (Bool):=
 .iB (decide (((p_s.size:Int):Int)<(IntKind.wrap .i64 (p_i+p_n)))) (.ret (aS 1) (false))<|
 .l2m [] Tryz.f313 0 [1,1,0,1,0] 0 (fun(v0)=>⟨[(0,.lf (.str p_s)),(1,.i_ p_i),(2,.i_ p_n),(7,.i_ v0)],[]⟩) .ret (fun _=>⟨[(6,.b_ false)],[]⟩) (.exit 0) (fun _=>⟨[],[]⟩) (ajW p_i p_n p_s 0) (Dh p_i p_n p_s) (0) (fun o0=>
 .ret (aS 1) (false)) fun o1=>
 .ret (aS 1) (true)
def Q84(p_s:ByteArray)(p_i:Int)(p_n:Int):Option (Bool):=Mo.den (apF p_s p_i p_n)
theorem asx(p_s:ByteArray)(p_i:Int)(p_n:Int):FV (Q84 p_s p_i p_n) 313 [.lf (.str p_s),.i_ p_i,.i_ p_n] .b_:=dA Tryz.func313
def aej(b0:UInt8)(p_s:ByteArray)(v0:Int):Mo (Bool):=
 .aV 16002 (decide ((194:Int)≤(b0.toNat:Int))) [0,3,4,16] 0 (decide (((b0.toNat:Int):Int)≤223))
def aek(b0:UInt8)(p_s:ByteArray)(v0:Int):Mo (Bool):=
 .aV 20002 (decide ((224:Int)≤(b0.toNat:Int))) [0,3,4,23] 0 (decide (((b0.toNat:Int):Int)≤239))
def X9(b0:UInt8)(p_s:ByteArray)(v0:Int):Mo (Bool):=
 .aV 24002 (decide ((240:Int)≤(b0.toNat:Int))) [0,3,4,30] 0 (decide (((b0.toNat:Int):Int)≤244))
def KQ(b0:UInt8)(p_s:ByteArray)(v0:Int):Mo ((Int)⊕Unit):=
 .iB (decide (((b0.toNat:Int):Int)<128)) (.rt [0,3,4,5] 0 (.inl (0)))<|
 .jk Tryz.f261 0 [1,0,1,0,0,1,0,1,1,0,0,1,1,0] 21 (fun r_=>⟨[(0,.lf (.str p_s)),(3,.i_ v0),(4,.lf (.int .u8 (b0.toNat:Int))),(16,.b_ r_)],[]⟩) ⟨[(0,.lf (.str p_s)),(3,.i_ v0),(4,.lf (.int .u8 (b0.toNat:Int)))],[]⟩ (aej b0 p_s v0) fun r0=>
 .iB (r0) (.rt [0,3,4,5] 0 (.inl (1)))<|
 .jk Tryz.f261 0 [1,0,1,0,0,1,0,1,1,0,0,1,1,1,1,0] 25 (fun r_=>⟨[(0,.lf (.str p_s)),(3,.i_ v0),(4,.lf (.int .u8 (b0.toNat:Int))),(23,.b_ r_)],[]⟩) ⟨[(0,.lf (.str p_s)),(3,.i_ v0),(4,.lf (.int .u8 (b0.toNat:Int)))],[]⟩ (aek b0 p_s v0) fun r1=>
 .iB (r1) (.rt [0,3,4,5] 0 (.inl (2)))<|
 .jk Tryz.f261 0 [1,0,1,0,0,1,0,1,1,0,0,1,1,1,1,1,1,0] 29 (fun r_=>⟨[(0,.lf (.str p_s)),(3,.i_ v0),(4,.lf (.int .u8 (b0.toNat:Int))),(30,.b_ r_)],[]⟩) ⟨[(0,.lf (.str p_s)),(3,.i_ v0),(4,.lf (.int .u8 (b0.toNat:Int)))],[]⟩ (X9 b0 p_s v0) fun r2=>
 .iB (r2) (.rt [0,3,4,5] 0 (.inl (3)))<|
 .rt [2] 0 (.inr (()))
def U0(b0:UInt8)(p_s:ByteArray)(v0:Int):Option ((Int)⊕Unit):=Mo.den (KQ b0 p_s v0)
def Di(r_:(Int)⊕Unit):Exit:=match r_ with
 |.inl o_=>.normal
 |.inr (o_)=>.ret
def Dj(b0:UInt8)(p_s:ByteArray)(v0:Int)(r_:(Int)⊕Unit):St:=match r_ with
 |.inl o_=>⟨[(0,.lf (.str p_s)),(3,.i_ v0),(4,.lf (.int .u8 (b0.toNat:Int))),(5,.i_ o_)],[]⟩
 |.inr (o_)=>⟨[(2,.b_ false)],[]⟩
theorem Ya{b0:UInt8}{p_s:ByteArray}{v0:Int}{r_:(Int)⊕Unit}(h:U0 b0 p_s v0=some r_):MW Tryz.f261 0 [1,0,1,0,0,1,0,1,1,0] (Di r_) (Dj b0 p_s v0 r_) ⟨[(0,.lf (.str p_s)),(3,.i_ v0),(4,.lf (.int .u8 (b0.toNat:Int))),(5,.i_ 0)],[]⟩:=
 EJ wo (KQ b0 p_s v0) Di (Dj b0 p_s v0) (by kernel_rfl) h
def Yb(b0:UInt8)(o0:Int)(p_s:ByteArray)(v0:Int):Mo (Bool):=
 .iG 32002 ((b0.toNat:Int)==224) (.ask (kN p_s (IntKind.wrap .i64 (v0+1))) fun b1 h0=>
 .say [.byt b1] (ok1 (fQ h0))<|
 .rt [0,3,4,5,51] 0 (decide (((b1.toNat:Int):Int)<160)))<|
 .rt [0,3,4,5,51] 0 (false)
def abV(b0:UInt8)(o0:Int)(p_s:ByteArray)(v0:Int):Option (Bool):=Mo.den (Yb b0 o0 p_s v0)
def Yc(b0:UInt8)(o0:Int)(p_s:ByteArray)(r0:Bool)(v0:Int):Mo (Bool):=
 .iG 32009 (r0) (.rt [0,3,4,5,62] 0 (true))<|
 .iG 32012 ((b0.toNat:Int)==237) (.ask (kN p_s (IntKind.wrap .i64 (v0+1))) fun b1 h0=>
 .say [.byt b1] (ok1 (fQ h0))<|
 .rt [0,3,4,5,62] 0 (decide ((159:Int)<(b1.toNat:Int))))<|
 .rt [0,3,4,5,62] 0 (false)
def abW(b0:UInt8)(o0:Int)(p_s:ByteArray)(r0:Bool)(v0:Int):Option (Bool):=Mo.den (Yc b0 o0 p_s r0 v0)
def Yd(b0:UInt8)(o0:Int)(p_s:ByteArray)(r0:Bool)(v0:Int):Mo (Bool):=
 .iG 32020 (r0) (.rt [0,3,4,5,73] 0 (true))<|
 .iG 32023 ((b0.toNat:Int)==240) (.ask (kN p_s (IntKind.wrap .i64 (v0+1))) fun b1 h0=>
 .say [.byt b1] (ok1 (fQ h0))<|
 .rt [0,3,4,5,73] 0 (decide (((b1.toNat:Int):Int)<144)))<|
 .rt [0,3,4,5,73] 0 (false)
def abX(b0:UInt8)(o0:Int)(p_s:ByteArray)(r0:Bool)(v0:Int):Option (Bool):=Mo.den (Yd b0 o0 p_s r0 v0)
def Ye(b0:UInt8)(o0:Int)(p_s:ByteArray)(r0:Bool)(v0:Int):Mo (Bool):=
 .iG 32031 (r0) (.rt [0,3,5,84] 0 (true))<|
 .iG 32034 ((b0.toNat:Int)==244) (.ask (kN p_s (IntKind.wrap .i64 (v0+1))) fun b1 h0=>
 .say [.byt b1] (ok1 (fQ h0))<|
 .rt [0,3,5,84] 0 (decide ((143:Int)<(b1.toNat:Int))))<|
 .rt [0,3,5,84] 0 (false)
def abY(b0:UInt8)(o0:Int)(p_s:ByteArray)(r0:Bool)(v0:Int):Option (Bool):=Mo.den (Ye b0 o0 p_s r0 v0)
def uf(p_s:ByteArray):(Int)→Mo ((Int)⊕(Unit⊕Unit)):=fun(v0)=>
 .iB (decide ((v0:Int)<(p_s.size:Int))) (.ask (kN p_s v0) fun b0 h0=>
 .say [.byt b0] (ok1 (fQ h0))<|
 .kM (U0 b0 p_s v0) (fun o0 h1=>
 .say [.pt_ 10 [0,3,4,5] 0 (Di (.inl o0)) (Dj b0 p_s v0 (.inl o0))] (ok1 (Ya h1))<|
 .cl (asx p_s (IntKind.wrap .i64 (v0+1)) o0) fun r0 _=>
 .iB (!r0) (.rt [2] 0 (.inr (.inl ())))<|
 .sj Tryz.f261 0 [1,0,1,0,0,1,0,1,1,1,1,0,0] [0,1,2,3,4,5,6,7,8] 15 9 [0,3,4,5] 0 (fun r_=>⟨[(0,.lf (.str p_s)),(3,.i_ v0),(4,.lf (.int .u8 (b0.toNat:Int))),(5,.i_ o0),(51,.b_ r_)],[]⟩) ⟨[(0,.lf (.str p_s)),(3,.i_ v0),(4,.lf (.int .u8 (b0.toNat:Int))),(5,.i_ o0)],[]⟩ (abV b0 o0 p_s v0) (sW (by kernel_rfl)) fun r1 _=>
 .sj Tryz.f261 0 [1,0,1,0,0,1,0,1,1,1,1,0,0] [9,10,11,12,13,14,15,16,17,18,19] 15 11 [0,3,4,5,51] 0 (fun r_=>⟨[(0,.lf (.str p_s)),(3,.i_ v0),(4,.lf (.int .u8 (b0.toNat:Int))),(5,.i_ o0),(62,.b_ r_)],[]⟩) ⟨[(0,.lf (.str p_s)),(3,.i_ v0),(4,.lf (.int .u8 (b0.toNat:Int))),(5,.i_ o0),(51,.b_ r1)],[]⟩ (abW b0 o0 p_s r1 v0) (sW (by kernel_rfl)) fun r2 _=>
 .sj Tryz.f261 0 [1,0,1,0,0,1,0,1,1,1,1,0,0] [20,21,22,23,24,25,26,27,28,29,30] 15 11 [0,3,4,5,62] 0 (fun r_=>⟨[(0,.lf (.str p_s)),(3,.i_ v0),(4,.lf (.int .u8 (b0.toNat:Int))),(5,.i_ o0),(73,.b_ r_)],[]⟩) ⟨[(0,.lf (.str p_s)),(3,.i_ v0),(4,.lf (.int .u8 (b0.toNat:Int))),(5,.i_ o0),(62,.b_ r2)],[]⟩ (abX b0 o0 p_s r2 v0) (sW (by kernel_rfl)) fun r3 _=>
 .sj Tryz.f261 0 [1,0,1,0,0,1,0,1,1,1,1,0,0] [31,32,33,34,35,36,37,38,39,40,41] 15 11 [0,3,4,5,73] 0 (fun r_=>⟨[(0,.lf (.str p_s)),(3,.i_ v0),(5,.i_ o0),(84,.b_ r_)],[]⟩) ⟨[(0,.lf (.str p_s)),(3,.i_ v0),(4,.lf (.int .u8 (b0.toNat:Int))),(5,.i_ o0),(73,.b_ r3)],[]⟩ (abY b0 o0 p_s r3 v0) (sW (by kernel_rfl)) fun r4 _=>
 .iB (r4) (.rt [2] 0 (.inr (.inl ())))<|
 .rt [0,3] 0 (.inl (IntKind.wrap .i64 ((IntKind.wrap .i64 (v0+o0))+1)))) fun o1 h1=>
 .say [.pt_ 10 [0,3,4,5] 0 (Di (.inr (o1))) (Dj b0 p_s v0 (.inr (o1)))] (ok1 (Ya h1))<|
 .rt [2] 0 (.inr (.inl ())))<|
 .rt [] 0 (.inr (.inr (())))
def ajX(p_s:ByteArray)(v0:Int):Option (Unit⊕Unit):=bW (fun v_=>(uf p_s v_).den) FU (v0)
def auu(p_s:ByteArray):Mo (Bool):=
 .l2m [] Tryz.f261 0 [1,0,1,0] 0 (fun(v0)=>⟨[(0,.lf (.str p_s)),(3,.i_ v0)],[]⟩) .ret (fun _=>⟨[(2,.b_ false)],[]⟩) (.exit 0) (fun _=>⟨[],[]⟩) (ajX p_s 0) (uf p_s) (0) (fun o0=>
 .ret (aS 1) (false)) fun o1=>
 .ret (aS 1) (true)
def Q1(p_s:ByteArray):Option (Bool):=Mo.den (auu p_s)
theorem auv(p_s:ByteArray):FV (Q1 p_s) 261 [.lf (.str p_s)] .b_:=dA Tryz.func261
def P8(p_s:ByteArray)(v0:Int):Mo (Bool):=
 .ask (kN p_s v0) fun b0 h0=>
 .say [.byt b0] (ok1 (fQ h0))<|
 .iG 14004 (decide (((b0.toNat:Int):Int)<33)) (.rt [0,3,32] 0 (true))<|
 .ask (kN p_s v0) fun b1 h1=>
 .say [.byt b1] (ok1 (fQ h1))<|
 .rt [0,3,32] 0 (decide ((126:Int)<(b1.toNat:Int)))
def P9(p_s:ByteArray)(r0:Bool)(v0:Int):Mo (Bool):=
 .iG 14010 (r0) (.rt [0,3,38] 0 (true))<|
 .ask (kN p_s v0) fun b0 h0=>
 .say [.byt b0] (ok1 (fQ h0))<|
 .rt [0,3,38] 0 ((b0.toNat:Int)==46)
def Qa(p_s:ByteArray):(Int)→Mo ((Int)⊕(Unit⊕Unit)):=fun(v0)=>
 .iB (decide ((v0:Int)<(p_s.size:Int))) (.sf Tryz.f120 0 [1,1,0,1,0,0,1,0,0,0] 0 10 6 [(0,.lf (.str p_s)),(3,.i_ v0)] [] 32 (P8 p_s v0) fun r0=>
 .sb Tryz.f120 0 [1,1,0,1,0,0,1,0,0,0] 10 6 6 [(0,.lf (.str p_s)),(3,.i_ v0)] [] 32 38 r0 (P9 p_s r0 v0) fun r1=>
 .iB (r1) (.rt [2] 0 (.inr (.inl ())))<|
 .rt [0,3] 0 (.inl (IntKind.wrap .i64 (v0+1))))<|
 .rt [] 0 (.inr (.inr (())))
def apG(p_s:ByteArray):Mo (Bool):=
 .sf Tryz.f120 0 [1,0,0] 0 8 1 [(0,.lf (.str p_s))] [] 11 (kC p_s) fun r0=>
 .sb Tryz.f120 0 [1,0,0] 8 5 1 [(0,.lf (.str p_s))] [] 11 16 r0 (kD p_s r0) fun r1=>
 .iB (r1) (.ret (aS 1) (false))<|
 .l2 Tryz.f120 0 [1,1,0,1,0] 0 (fun(v0)=>⟨[(0,.lf (.str p_s)),(3,.i_ v0)],[]⟩) .ret (fun _=>⟨[(2,.b_ false)],[]⟩) (.exit 0) (fun _=>⟨[],[]⟩) (Qa p_s) (0) (fun o0=>
 .ret (aS 1) (false)) fun o1=>
 .ret (aS 1) (true)
def Q59(p_s:ByteArray):Option (Bool):=Mo.den (apG p_s)
theorem AX(p_s:ByteArray):FV (Q59 p_s) 120 [.lf (.str p_s)] .b_:=dA Tryz.func120
def agz(p_s:ByteArray):Mo (Bool):=
 .oV 4003 (decide (((p_s.size:Int):Int)<1)) [0,11] 0 (decide ((128:Int)<(p_s.size:Int)))
def agA(p_s:ByteArray)(v0:Int):Mo (Bool):=
 .ask (kN p_s v0) fun b0 h0=>
 .say [.byt b0] (ok1 (fQ h0))<|
 .iG 14004 (decide (((b0.toNat:Int):Int)<32)) (.rt [0,3,27] 0 (true))<|
 .ask (kN p_s v0) fun b1 h1=>
 .say [.byt b1] (ok1 (fQ h1))<|
 .rt [0,3,27] 0 (decide ((126:Int)<(b1.toNat:Int)))
def abZ(p_s:ByteArray):(Int)→Mo ((Int)⊕(Unit⊕Unit)):=fun(v0)=>
 .iB (decide ((v0:Int)<(p_s.size:Int))) (.jk Tryz.f314 0 [1,1,0,1,0,0,1,0,0,0] 19 (fun r_=>⟨[(0,.lf (.str p_s)),(3,.i_ v0),(27,.b_ r_)],[]⟩) ⟨[(0,.lf (.str p_s)),(3,.i_ v0)],[]⟩ (agA p_s v0) fun r0=>
 .iB (r0) (.rt [2] 0 (.inr (.inl ())))<|
 .rt [0,3] 0 (.inl (IntKind.wrap .i64 (v0+1))))<|
 .rt [] 0 (.inr (.inr (())))
def asy(p_s:ByteArray):Mo (Bool):=
 .jk Tryz.f314 0 [1,0,0] 9 (fun r_=>⟨[(0,.lf (.str p_s)),(11,.b_ r_)],[]⟩) ⟨[(0,.lf (.str p_s))],[]⟩ (agz p_s) fun r0=>
 .iB (r0) (.ret (aS 1) (false))<|
 .l2 Tryz.f314 0 [1,1,0,1,0] 0 (fun(v0)=>⟨[(0,.lf (.str p_s)),(3,.i_ v0)],[]⟩) .ret (fun _=>⟨[(2,.b_ false)],[]⟩) (.exit 0) (fun _=>⟨[],[]⟩) (abZ p_s) (0) (fun o0=>
 .ret (aS 1) (false)) fun o1=>
 .ret (aS 1) (true)
def avG(p_s:ByteArray):Option (Bool):=Mo.den (asy p_s)
theorem aoj(p_s:ByteArray):FV (avG p_s) 314 [.lf (.str p_s)] .b_:=dA Tryz.func314
abbrev U1(m:ah→Bool→Option (Bool)):Prop:=∀p_v p_names,FV (m p_v p_names) 191 [.dat (ah.lf1 p_v),.b_ p_names] .b_
abbrev ael(m:ah→Bool→Option (Bool)):Prop:=∀p_v p_names,FV (m p_v p_names) 262 [.dat (ah.lf1 p_v),.b_ p_names] .b_
structure nP where
 m1:(p_v:ah)→(p_names:Bool)→Option (Bool)
 ok1:U1 m1
 m2:(p_v:ah)→(p_names:Bool)→Option (Bool)
 ok2:ael m2
def aem(R_:nP)(p_names:Bool)(p_v:ah):Mo (Bool):=
 .iG 4003 (p_v.aF != 6) (.nu p_v.aW ah.lf<|
 .rt [1,2,16] 1 (decide ((0:Int)<(p_v.aW.length:Int))))<|
 .rt [1,2,16] 1 (false)
def aen(R_:nP)(p_names:Bool)(p_v:ah)(r0:Bool):Mo (Bool):=
 .iG 4009 (r0) (.rt [1,2,27] 1 (true))<|
 .iG 4013 (p_v.aF != 5) (.nu p_v.aU aJ.lf<|
 .rt [1,2,27] 1 (decide ((0:Int)<(p_v.aU.length:Int))))<|
 .rt [1,2,27] 1 (false)
def Yf(R_:nP)(p_names:Bool)(p_v:ah):Mo (Bool):=
 .oV 8003 (p_v.aF==4) [1,2,35] 1 (p_v.aF==7)
def Yg(R_:nP)(p_names:Bool)(p_v:ah)(r0:Bool):Mo (Bool):=
 .oV 8008 (r0) [1,2,40] 1 (p_v.aF==8)
def Yh(R_:nP)(p_names:Bool)(p_v:ah)(r0:Bool):Mo (Unit):=
 .rt [1,2,5] 1 ()
def Yi(R_:nP)(p_names:Bool)(p_v:ah)(r0:Bool):Mo (Bool):=
 .oV 10003 (p_v.aF==3) [1,2,5,48] 1 (p_v.aF==9)
def Yj(R_:nP)(p_names:Bool)(p_v:ah)(r0:Bool)(r1:Bool):Mo (Bool):=
 .oV 10008 (r1) [1,2,5,53] 1 (p_v.aF==10)
def Yk(R_:nP)(p_names:Bool)(p_v:ah)(r0:Bool)(r1:Bool):Mo (Unit):=
 .rt [1,2,5,6] 1 ()
def Yl(R_:nP)(p_names:Bool)(p_v:ah)(r0:Bool)(r1:Bool):Mo (Bool):=
 .aV 12002 (!r0) [1,2,6,60] 1 (!decide ((p_v.fText:ByteArray)=(⟨#[]⟩:ByteArray)))
def Ym(R_:nP)(p_names:Bool)(p_v:ah)(r0:Bool)(r1:Bool):Mo (Bool):=
 .iG 12007 (r1) (.rt [1,2,69] 1 (true))<|
 .aV 12010 (!r0) [1,2,69] 1 (p_v.fA != 0)
def Yn(R_:nP)(p_names:Bool)(p_v:ah)(r0:Bool):Mo (Bool):=
 .oV 12016 (r0) [1,2,74] 1 (decide ((p_v.aF:Int)<1))
def Yo(R_:nP)(p_names:Bool)(p_v:ah)(r0:Bool):Mo (Bool):=
 .oV 12021 (r0) [1,2,79] 1 (decide ((11:Int)<p_v.aF))
def Yp(R_:nP)(p_v:ah):Mo (Bool):=
 .iG 20003 (p_v.fA==0) (.ret ⟨[.kill 0],[4],[],1⟩ (true))<|
 .ret ⟨[.kill 0],[4],[],1⟩ (p_v.fA==1)
def Yq(R_:nP)(p_v:ah):Mo (Bool):=
 .iG 28004 (decide (((p_v.fText.size:Int):Int)≤4096)) (.cl (auv p_v.fText) fun r0 _=>
 .ret ⟨[.kill 0],[4],[],1⟩ (r0))<|
 .ret ⟨[.kill 0],[4],[],1⟩ (false)
def Dk(R_:nP)(p_names:Bool)(p_v:ah):(Int)→Mo ((Int)⊕(Unit⊕Unit)):=fun(v0)=>
 .nu p_v.aW ah.lf<|
 .iB (decide ((v0:Int)<(p_v.aW.length:Int))) (.gx ah.bf p_v.aW v0 fun x0 _=>
 .cl (R_.ok1 x0 p_names) fun r0 _=>
 .iB (!r0) (.ret ⟨[.kill 0],[4],[],1⟩ (.inr (.inl ())))<|
 .rt [1,2,7] 1 (.inl (IntKind.wrap .i64 (v0+1))))<|
 .rt [1,2] 1 (.inr (.inr (())))
def ajY(R_:nP)(p_names:Bool)(p_v:ah)(v0:Int):Option (Unit⊕Unit):=bW (fun v_=>(Dk R_ p_names p_v v_).den) FU (v0)
def aok(R_:nP)(p_v:ah)(p_names:Bool):Mo (Bool):=
 .sf Tryz.f191 0 [1,0,0] 0 9 1 [(1,.b_ p_names),(2,.ptr 0 0)] [aX p_v] 16 (aem R_ p_names p_v) fun r0=>
 .sb Tryz.f191 0 [1,0,0] 9 11 1 [(1,.b_ p_names),(2,.ptr 0 0)] [aX p_v] 16 27 r0 (aen R_ p_names p_v r0) fun r1=>
 .iB (r1) (.ret (aS 1) (false))<|
 .sf Tryz.f191 0 [1,1,0] 0 8 3 [(1,.b_ p_names),(2,.ptr 0 0)] [aX p_v] 35 (Yf R_ p_names p_v) fun r2=>
 .sb Tryz.f191 0 [1,1,0] 8 5 3 [(1,.b_ p_names),(2,.ptr 0 0)] [aX p_v] 35 40 r2 (Yg R_ p_names p_v r2) fun r3=>
 .sk Tryz.f191 0 [1,1,0] 13 1 3 (fun r_=>⟨[(1,.b_ p_names),(2,.ptr 0 0),(5,.b_ r3)],[aX p_v]⟩) ⟨[(1,.b_ p_names),(2,.ptr 0 0),(40,.b_ r3)],[aX p_v]⟩ (Yh R_ p_names p_v r3) fun r4=>
 .sf Tryz.f191 0 [1,1,1,0] 0 8 4 [(1,.b_ p_names),(2,.ptr 0 0),(5,.b_ r3)] [aX p_v] 48 (Yi R_ p_names p_v r3) fun r5=>
 .sb Tryz.f191 0 [1,1,1,0] 8 5 4 [(1,.b_ p_names),(2,.ptr 0 0),(5,.b_ r3)] [aX p_v] 48 53 r5 (Yj R_ p_names p_v r3 r5) fun r6=>
 .sk Tryz.f191 0 [1,1,1,0] 13 1 4 (fun r_=>⟨[(1,.b_ p_names),(2,.ptr 0 0),(5,.b_ r3),(6,.b_ r6)],[aX p_v]⟩) ⟨[(1,.b_ p_names),(2,.ptr 0 0),(5,.b_ r3),(53,.b_ r6)],[aX p_v]⟩ (Yk R_ p_names p_v r3 r6) fun r7=>
 .sk Tryz.f191 0 [1,1,1,1,0,0] 0 7 5 (fun r_=>⟨[(1,.b_ p_names),(2,.ptr 0 0),(6,.b_ r6),(60,.b_ r_)],[aX p_v]⟩) ⟨[(1,.b_ p_names),(2,.ptr 0 0),(5,.b_ r3),(6,.b_ r6)],[aX p_v]⟩ (Yl R_ p_names p_v r3 r6) fun r8=>
 .sk Tryz.f191 0 [1,1,1,1,0,0] 7 9 5 (fun r_=>⟨[(1,.b_ p_names),(2,.ptr 0 0),(69,.b_ r_)],[aX p_v]⟩) ⟨[(1,.b_ p_names),(2,.ptr 0 0),(6,.b_ r6),(60,.b_ r8)],[aX p_v]⟩ (Ym R_ p_names p_v r6 r8) fun r9=>
 .sb Tryz.f191 0 [1,1,1,1,0,0] 16 5 5 [(1,.b_ p_names),(2,.ptr 0 0)] [aX p_v] 69 74 r9 (Yn R_ p_names p_v r9) fun r10=>
 .sb Tryz.f191 0 [1,1,1,1,0,0] 21 5 5 [(1,.b_ p_names),(2,.ptr 0 0)] [aX p_v] 74 79 r10 (Yo R_ p_names p_v r10) fun r11=>
 .iB (r11) (.ret (aS 1) (false))<|
 .iB (p_v.aF==9) (.jk Tryz.f191 0 [1,1,1,1,1,0,1,0,1,0,0] 25 (fun r_=>⟨[(4,.b_ r_)],[.dead]⟩) ⟨[(2,.ptr 0 0)],[aX p_v]⟩ (Yp R_ p_v) fun r12=>
 .ret (aS 1) (r12))<|
 .iB (p_v.aF==10) (.ret (aS 1) (decide ((0:Int)≤p_v.fA)))<|
 .iB (p_v.aF==4) (.jk Tryz.f191 0 [1,1,1,1,1,0,1,0,1,1,1,1,1,0,0] 33 (fun r_=>⟨[(4,.b_ r_)],[.dead]⟩) ⟨[(2,.ptr 0 0)],[aX p_v]⟩ (Yq R_ p_v) fun r13=>
 .ret (aS 1) (r13))<|
 .iB (p_v.aF==7) (.ret (aS 1) (decide (((p_v.fText.size:Int):Int)≤4096)))<|
 .iB (p_v.aF==8) (.ret (aS 1) ((p_v.fText.size:Int)==12))<|
 .l2m [] Tryz.f191 0 [1,1,1,1,1,1,0,1,0] 0 (fun(v0)=>⟨[(1,.b_ p_names),(2,.ptr 0 0),(7,.i_ v0)],[aX p_v]⟩) .ret (fun _=>⟨[(4,.b_ false)],[.dead]⟩) (.exit 1) (fun _=>⟨[(1,.b_ p_names),(2,.ptr 0 0)],[aX p_v]⟩) (ajY R_ p_names p_v 0) (Dk R_ p_names p_v) (0) (fun o0=>
 .ret (aS 1) (false)) fun o1=>
 .cl (R_.ok2 p_v p_names) fun r14 _=>
 .ret (aS 1) (r14)
theorem asz(R_:nP):U1 fun p_v p_names=>Mo.den (aok R_ p_v p_names):=fun _ _=>dA Tryz.func191
def Yr(R_:nP)(p_names:Bool)(p_v:ah)(v0:Int)(x0:aJ):Mo (Bool):=
 .iG 12001 (p_names) (.cl (AX x0.fName) fun r0 _=>
 .rt [1,2,5,6,26] 2 (!r0))<|
 .rt [1,2,5,6,26] 2 (false)
def Yt(R_:nP)(p_names:Bool)(p_v:ah)(r0:Bool)(v0:Int)(x0:aJ):Mo (Bool):=
 .iG 12007 (r0) (.rt [1,2,5,6,36] 2 (true))<|
 .iG 12010 (!p_names) (.cl (aoj x0.fName) fun r1 _=>
 .rt [1,2,5,6,36] 2 (!r1))<|
 .rt [1,2,5,6,36] 2 (false)
def Qb(R_:nP)(p_names:Bool)(p_v:ah)(r0:Bool)(v0:Int)(x0:aJ):Mo (Bool):=
 .iG 12017 (r0) (.rt [1,2,5,6,43] 2 (true))<|
 .cl (R_.ok1 x0.fValue p_names) fun r1 _=>
 .rt [1,2,5,6,43] 2 (!r1)
def yT(R_:nP)(p_names:Bool)(p_v:ah)(v0:Int)(x0:aJ):(Int)→Mo ((Int)⊕(Unit⊕Unit)):=fun(v1)=>
 .iB (decide ((v1:Int)<v0)) (.say [.order [(true,0),(true,1),(true,2),(true,3),(true,4),(true,5),(true,6),(true,7),(true,8)] none []] ok0<|
 .gx aJ.bf p_v.aU v1 fun x1 _=>
 .iB (decide ((x1.fName:ByteArray)=(x0.fName:ByteArray))) (.ret ⟨[.kill 0,.kill 1],[4],[],2⟩ (.inr (.inl ())))<|
 .rt [1,2,5,6,7] 2 (.inl (IntKind.wrap .i64 (v1+1))))<|
 .ret ⟨[.kill 1],[1,2,5],[],2⟩ (.inr (.inr (())))
def aeo(R_:nP)(p_names:Bool)(p_v:ah)(v0:Int)(x0:aJ)(v1:Int):Option (Unit⊕Unit):=bW (fun v_=>(yT R_ p_names p_v v0 x0 v_).den) FU (v1)
def yU(R_:nP)(p_names:Bool)(p_v:ah):(Int)→Mo ((Int)⊕(Unit⊕Unit)):=fun(v0)=>
 .nu p_v.aU aJ.lf<|
 .iB (decide ((v0:Int)<(p_v.aU.length:Int))) (.gx aJ.bf p_v.aU v0 fun x0 _=>
 .sf Tryz.f262 0 [1,0,1,0,0,1,0,0,1,0,0] 0 7 5 [(1,.b_ p_names),(2,.ptr 0 0),(5,.i_ v0),(6,.ptr 1 0)] [aX p_v,.box 115 (.agg ((aJ.lf1 x0).map AV.lf))] 26 (Yr R_ p_names p_v v0 x0) fun r0=>
 .sb Tryz.f262 0 [1,0,1,0,0,1,0,0,1,0,0] 7 10 5 [(1,.b_ p_names),(2,.ptr 0 0),(5,.i_ v0),(6,.ptr 1 0)] [aX p_v,.box 115 (.agg ((aJ.lf1 x0).map AV.lf))] 26 36 r0 (Yt R_ p_names p_v r0 v0 x0) fun r1=>
 .sb Tryz.f262 0 [1,0,1,0,0,1,0,0,1,0,0] 17 7 5 [(1,.b_ p_names),(2,.ptr 0 0),(5,.i_ v0),(6,.ptr 1 0)] [aX p_v,.box 115 (.agg ((aJ.lf1 x0).map AV.lf))] 36 43 r1 (Qb R_ p_names p_v r1 v0 x0) fun r2=>
 .iB (r2) (.ret ⟨[.kill 0],[4],[],1⟩ (.inr (.inl ())))<|
 .l2m [] Tryz.f262 0 [1,0,1,0,0,1,0,0,1,1,1,0] 0 (fun(v1)=>⟨[(1,.b_ p_names),(2,.ptr 0 0),(5,.i_ v0),(6,.ptr 1 0),(7,.i_ v1)],[aX p_v,.box 115 (.agg ((aJ.lf1 x0).map AV.lf))]⟩) .ret (fun _=>⟨[(4,.b_ false)],[.dead,.dead]⟩) (.exit 2) (fun _=>⟨[(1,.b_ p_names),(2,.ptr 0 0),(5,.i_ v0)],[aX p_v,.dead]⟩) (aeo R_ p_names p_v v0 x0 0) (yT R_ p_names p_v v0 x0) (0) (fun o0=>
 .rt [4] 1 (.inr (.inl ()))) fun o1=>
 .rt [1,2,5] 1 (.inl (IntKind.wrap .i64 (v0+1))))<|
 .ret ⟨[.kill 0],[],[],1⟩ (.inr (.inr (())))
def aep(R_:nP)(p_names:Bool)(p_v:ah)(v0:Int):Option (Unit⊕Unit):=bW (fun v_=>(yU R_ p_names p_v v_).den) FU (v0)
def aer(R_:nP)(p_v:ah)(p_names:Bool):Mo (Bool):=
 .l2m [] Tryz.f262 0 [1,0,1,0] 0 (fun(v0)=>⟨[(1,.b_ p_names),(2,.ptr 0 0),(5,.i_ v0)],[aX p_v]⟩) .ret (fun _=>⟨[(4,.b_ false)],[.dead]⟩) (.exit 0) (fun _=>⟨[],[.dead]⟩) (aep R_ p_names p_v 0) (yU R_ p_names p_v) (0) (fun o0=>
 .ret (aS 1) (false)) fun o1=>
 .ret (aS 1) (true)
theorem aol(R_:nP):ael fun p_v p_names=>Mo.den (aer R_ p_v p_names):=fun _ _=>dA Tryz.func262
def qJ:Nat→nP
 |0=>{ m1:=fun p_v p_names=>none,ok1:=fun _ _ _ h=>(by cases h),m2:=fun p_v p_names=>none,ok2:=fun _ _ _ h=>(by cases h) }
 |n_+1=>{ m1:=fun p_v p_names=>Mo.den (aok (qJ n_) p_v p_names),ok1:=asz (qJ n_),m2:=fun p_v p_names=>Mo.den (aer (qJ n_) p_v p_names),ok2:=aol (qJ n_) }
def Q5(p_v:ah)(p_names:Bool):Option (Bool):=(qJ FU).m1 p_v p_names
theorem auw:U1 Q5:=(qJ FU).ok1
def ajZ(p_v:ah):Mo (Bool):=
 .cl (aog p_v) fun r0 _=>
 .iG 4003 (decide ((r0:Int)≤16)) (.cl (aoi p_v) fun r1 _=>
 .iG 4008 (decide ((r1:Int)≤1024)) (.cl (auw p_v true) fun r2 _=>
 .ret (aS 1) (r2))<|
 .ret (aS 1) (false))<|
 .ret (aS 1) (false)
def asA(p_v:ah):Option (Bool):=Mo.den (ajZ p_v)
theorem rD(p_v:ah):FV (asA p_v) 123 [.dat (ah.lf1 p_v)] .b_:=dA Tryz.func123
abbrev U2(m:ah→Option (ByteArray)):Prop:=∀p_v,FV (m p_v) 280 [.dat (ah.lf1 p_v)] (fun r=>.lf (.str r))
structure Ho where
 m1:(p_v:ah)→Option (ByteArray)
 ok1:U2 m1
def Yu(R_:Ho)(p_v:ah):Mo (Bool):=
 .iB (p_v.aF==3) (.rt [1,3,12,13] 2 (p_v.aF==3))<|
 .rt [1,3,12,13] 2 (p_v.aF==10)
def Yv(R_:Ho)(p_v:ah):Mo (Bool):=
 .iB (p_v.aF==4) (.rt [1,3,12,30] 2 (p_v.aF==4))<|
 .rt [1,3,12,30] 2 (p_v.aF==7)
def yV(R_:Ho)(p_v:ah):(ByteArray×Int)→Mo ((ByteArray×Int)⊕(ByteArray)):=fun(v0,v1)=>
 .nu p_v.aW ah.lf<|
 .iB (decide ((v1:Int)<(p_v.aW.length:Int))) (.gx ah.bf p_v.aW v1 fun x0 _=>
 .cl (R_.ok1 x0) fun r0 _=>
 .grd (v0.size+r0.size≤9223372036854775807) fun h0=>
 .say [] (ok1 h0)<|
 .rt [1,3,4] 2 (.inl (v0++r0,IntKind.wrap .i64 (v1+1))))<|
 .ret ⟨[.kill 0],[3],[],2⟩ (.inr (v0))
def aes(R_:Ho)(p_v:ah)(v0:ByteArray)(v1:Int):Option (ByteArray):=bW (fun v_=>(yV R_ p_v v_).den) FU (v0,v1)
theorem avH:Tc (opsOf (Code.sub (bodyC Tryz.f280) [1,1,0,1,0,1,1,1,1,1,1,1,1,1,1,1,0,1,1,0,0,1,0,0])) [(true,0),(true,1),(true,2),(true,3),(true,4),(true,5),(true,6),(true,7),(true,10),(true,11),(true,12),(true,13),(true,14),(true,15),(true,17),(true,18),(true,19),(true,20),(true,21),(true,22),(false,8),(true,9),(true,16),(false,23),(true,24),(true,25)] none=true:=by kernel_rfl
def yX(R_:Ho)(p_v:ah):(ByteArray×Int)→Mo ((ByteArray×Int)⊕(ByteArray)):=fun(v0,v1)=>
 .nu p_v.aU aJ.lf<|
 .iB (decide ((v1:Int)<(p_v.aU.length:Int))) (.say [.Ag [(true,0),(true,1),(true,2),(true,3),(true,4),(true,5),(true,6),(true,7),(true,10),(true,11),(true,12),(true,13),(true,14),(true,15),(true,17),(true,18),(true,19),(true,20),(true,21),(true,22),(false,8),(true,9),(true,16),(false,23),(true,24),(true,25)] none []] (ok1 avH)<|
 .gx aJ.bf p_v.aU v1 fun x0 _=>
 .gx aJ.bf p_v.aU v1 fun x1 _=>
 .gx aJ.bf p_v.aU v1 fun x2 _=>
 .cl (FI (x0.fName.size:Int)) fun r0 _=>
 .grd (v0.size+r0.size≤9223372036854775807) fun h0=>
 .say [] (ok1 h0)<|
 .grd ((v0++r0).size+x1.fName.size≤9223372036854775807) fun h1=>
 .say [] (ok1 h1)<|
 .cl (R_.ok1 x2.fValue) fun r1 _=>
 .grd (((v0++r0)++x1.fName).size+r1.size≤9223372036854775807) fun h2=>
 .say [] (ok1 h2)<|
 .rt [1,3,5] 2 (.inl (((v0++r0)++x1.fName)++r1,IntKind.wrap .i64 (v1+1))))<|
 .ret ⟨[.kill 0],[3],[],2⟩ (.inr (v0))
def aeu(R_:Ho)(p_v:ah)(v0:ByteArray)(v1:Int):Option (ByteArray):=bW (fun v_=>(yX R_ p_v v_).den) FU (v0,v1)
def FK(R_:Ho)(p_v:ah):Mo (ByteArray):=
 .jk Tryz.f280 0 [1,1,0,1,0,0,1] 1 (fun r_=>⟨[(1,.ptr 0 0),(3,.lf (.str (strOfNums [IntKind.wrap .u8 p_v.aF]))),(12,.i_ p_v.aF),(13,.b_ r_)],[aX p_v,.dead]⟩) ⟨[(1,.ptr 0 0),(3,.lf (.str (strOfNums [IntKind.wrap .u8 p_v.aF]))),(12,.i_ p_v.aF),(13,.lf (.bool (p_v.aF==3)))],[aX p_v,.dead]⟩ (Yu R_ p_v) fun r0=>
 .iB (r0) (.cl (FI p_v.fA) fun r1 _=>
 .grd ((strOfNums [IntKind.wrap .u8 p_v.aF]).size+r1.size≤9223372036854775807) fun h0=>
 .say [] (ok1 h0)<|
 .ret ⟨[.kill 0],[3],[],2⟩ ((strOfNums [IntKind.wrap .u8 p_v.aF])++r1))<|
 .iB (p_v.aF==9) (.say [.nums [IntKind.wrap .u8 p_v.fA]] (ok1 (by simp[lfI,lfK]:[((lfK .u8) (IntKind.wrap .u8 p_v.fA))]=[IntKind.wrap .u8 p_v.fA].map fun n=>[Lf.int .u8 n]))<|
 .grd ((strOfNums [IntKind.wrap .u8 p_v.aF]).size+(strOfNums [IntKind.wrap .u8 p_v.fA]).size≤9223372036854775807) fun h1=>
 .say [] (ok1 h1)<|
 .ret ⟨[.kill 0],[3],[],2⟩ ((strOfNums [IntKind.wrap .u8 p_v.aF])++(strOfNums [IntKind.wrap .u8 p_v.fA])))<|
 .jk Tryz.f280 0 [1,1,0,1,0,1,1,1,1,0,1] 1 (fun r_=>⟨[(1,.ptr 0 0),(3,.lf (.str (strOfNums [IntKind.wrap .u8 p_v.aF]))),(12,.i_ p_v.aF),(30,.b_ r_)],[aX p_v,.dead]⟩) ⟨[(1,.ptr 0 0),(3,.lf (.str (strOfNums [IntKind.wrap .u8 p_v.aF]))),(12,.i_ p_v.aF),(30,.lf (.bool (p_v.aF==4)))],[aX p_v,.dead]⟩ (Yv R_ p_v) fun r2=>
 .iB (r2) (.say [.order [(true,0),(true,1),(true,2),(true,3),(true,6),(true,7),(false,4),(true,5),(true,8),(true,9)] none []] ok0<|
 .cl (FI (p_v.fText.size:Int)) fun r3 _=>
 .grd ((strOfNums [IntKind.wrap .u8 p_v.aF]).size+r3.size≤9223372036854775807) fun h2=>
 .say [] (ok1 h2)<|
 .grd (((strOfNums [IntKind.wrap .u8 p_v.aF])++r3).size+p_v.fText.size≤9223372036854775807) fun h3=>
 .say [] (ok1 h3)<|
 .ret ⟨[.kill 0],[3],[],2⟩ (((strOfNums [IntKind.wrap .u8 p_v.aF])++r3)++p_v.fText))<|
 .iB (p_v.aF==8) (.grd ((strOfNums [IntKind.wrap .u8 p_v.aF]).size+p_v.fText.size≤9223372036854775807) fun h4=>
 .say [] (ok1 h4)<|
 .ret ⟨[.kill 0],[3],[],2⟩ ((strOfNums [IntKind.wrap .u8 p_v.aF])++p_v.fText))<|
 .iB (p_v.aF==6) (.nu p_v.aW ah.lf<|
 .cl (FI (p_v.aW.length:Int)) fun r4 _=>
 .grd ((strOfNums [IntKind.wrap .u8 p_v.aF]).size+r4.size≤9223372036854775807) fun h5=>
 .say [] (ok1 h5)<|
 .l1m [] Tryz.f280 0 [1,1,0,1,0,1,1,1,1,1,1,1,1,1,0,1,1,0] 0 (.exit 1) (fun(v0,v1)=>⟨[(1,.ptr 0 0),(3,.lf (.str v0)),(4,.i_ v1)],[aX p_v,.dead]⟩) (fun r_=>⟨[(3,.lf (.str r_))],[.dead,.dead]⟩) (aes R_ p_v ((strOfNums [IntKind.wrap .u8 p_v.aF])++r4) 0) (yV R_ p_v) (((strOfNums [IntKind.wrap .u8 p_v.aF])++r4),0) fun r5=>
 .rt [3] 2 (r5))<|
 .iB (p_v.aF==5) (.nu p_v.aU aJ.lf<|
 .cl (FI (p_v.aU.length:Int)) fun r6 _=>
 .grd ((strOfNums [IntKind.wrap .u8 p_v.aF]).size+r6.size≤9223372036854775807) fun h6=>
 .say [] (ok1 h6)<|
 .l1m [] Tryz.f280 0 [1,1,0,1,0,1,1,1,1,1,1,1,1,1,1,1,0,1,1,0] 0 (.exit 3) (fun(v2,v3)=>⟨[(1,.ptr 0 0),(3,.lf (.str v2)),(5,.i_ v3)],[aX p_v,.dead]⟩) (fun r_=>⟨[(3,.lf (.str r_))],[.dead,.dead]⟩) (aeu R_ p_v ((strOfNums [IntKind.wrap .u8 p_v.aF])++r6) 0) (yX R_ p_v) (((strOfNums [IntKind.wrap .u8 p_v.aF])++r6),0) fun r7=>
 .rt [3] 2 (r7))<|
 .ret ⟨[.kill 0],[3],[],2⟩ (strOfNums [IntKind.wrap .u8 p_v.aF])
def Iu(R_:Ho)(p_v:ah):Option (ByteArray):=Mo.den (FK R_ p_v)
def yY  (r_:ByteArray):St:=⟨[(3,.lf (.str r_))],[.dead,.dead]⟩
theorem agB{R_:Ho}{p_v:ah}{r_:ByteArray}(h:Iu R_ p_v=some r_):MW Tryz.f280 0 [1,1,0,1] (.normal) (yY r_) ⟨[(1,.ptr 0 0),(3,.lf (.str (strOfNums [IntKind.wrap .u8 p_v.aF]))),(12,.i_ p_v.aF)],[aX p_v,.dead]⟩:=
 EJ wo (FK R_ p_v) (fun _=>.normal) yY (by kernel_rfl) h
def aev(R_:Ho)(p_v:ah):Mo (ByteArray):=
 .say [.nums [IntKind.wrap .u8 p_v.aF]] (ok1 (by simp[lfI,lfK]:[((lfK .u8) (IntKind.wrap .u8 p_v.aF))]=[IntKind.wrap .u8 p_v.aF].map fun n=>[Lf.int .u8 n]))<|
 .ask (Iu R_ p_v) fun r0 h0=>
 .say [.part [.kill 1] 6 [1,3,12] 2 (.normal) (yY r0).T (yY r0).H] (ok1 (agB h0))<|
 .ret (aS 1) (r0)
theorem aom(R_:Ho):U2 fun p_v=>Mo.den (aev R_ p_v):=fun _=>dA Tryz.func280
def vI:Nat→Ho
 |0=>{ m1:=fun p_v=>none,ok1:=fun _ _ h=>(by cases h) }
 |n_+1=>{ m1:=fun p_v=>Mo.den (aev (vI n_) p_v),ok1:=aom (vI n_) }
def Q13(p_v:ah):Option (ByteArray):=(vI FU).m1 p_v
theorem asB:U2 Q13:=(vI FU).ok1
def aj0(p_v:ah):Mo (ByteArray×Int):=
 .cl (rD p_v) fun r0 _=>
 .iB (!r0) (.ret (aS 2) (⟨#[]⟩,8))<|
 .cl (asB p_v) fun r1 _=>
 .ret (aS 2) (r1,0)
def auy(p_v:ah):Option (ByteArray×Int):=Mo.den (aj0 p_v)
theorem aew(p_v:ah):FV (auy p_v) 218 [.dat (ah.lf1 p_v)] (fun r=>.tup [.lf (.str r.1),.i_ r.2]):=dA Tryz.func218
abbrev U3(m:ah→aN→Option (aN)):Prop:=∀p_v p_b0,FH (m p_v p_b0) 140 [.ptr 0 0,.dat (ah.lf1 p_v)] [fD p_b0] (fun _=>.tup []) (fun r=>[fD r])
abbrev U4(m:(List ah)→aN→Option (aN)):Prop:=∀p_l p_b0,FH (m p_l p_b0) 217 [.ptr 0 0,.lf (.rows 5 (p_l.map ah.lf))] [fD p_b0] (fun _=>.tup []) (fun r=>[fD r])
structure Nh where
 m1:(p_v:ah)→(p_b0:aN)→Option (aN)
 ok1:U3 m1
 m2:(p_l:List ah)→(p_b0:aN)→Option (aN)
 ok2:U4 m2
def Dl(R_:Nh)(p_v:ah):(Int×aN)→Mo ((Int×aN)⊕(aN)):=fun(v0,s8009)=>
 .nu p_v.aU aJ.lf<|
 .iB (decide ((v0:Int)<(p_v.aU.length:Int))) (.gx aJ.bf p_v.aU v0 fun x0 _=>
 .cH [0] (sD x0.fName s8009) fun r0 _=>
 .gx aJ.bf p_v.aU v0 fun x1 _=>
 .cH [0] (R_.ok1 x1.fValue r0) fun r1 _=>
 .rt [0,3,4] 2 (.inl (IntKind.wrap .i64 (v0+1),r1)))<|
 .ret ⟨[.kill 1],[],[],2⟩ (.inr (s8009))
def ab1(R_:Nh)(p_v:ah)(v0:Int)(s8009:aN):Option (aN):=bW (fun v_=>(Dl R_ p_v v_).den) FU (v0,s8009)
def aj1(R_:Nh)(p_b0:aN)(r0:ByteArray×Int):Mo (aN):=
 .iG 32005 (p_b0.BX) (.rt [0,5] 2 (aN.mk p_b0.fS true p_b0.wF))<|
 .rt [0,5] 2 (aN.mk p_b0.fS (r0.2 != 0) p_b0.wF)
def aj2(R_:Nh)(p_v:ah)(p_b0:aN):Mo (aN):=
 .iB (p_b0.wF) (.cH [0] (gJ p_v.aF p_b0) fun r0 _=>
 .cH [0] (gJ p_v.fA r0) fun r1 _=>
 .cH [0] (sD p_v.fText r1) fun r2 _=>
 .ask (R_.m2 p_v.aW r2) fun r3 h0=>
 .say [.kZ [0] (.tup []) [fD r3],.num p_v.aU.length] (okc (R_.ok2 _ _ _ h0) (ok1 (ln_ p_v.aU aJ.lf)))<|
 .cH [0] (gJ (p_v.aU.length:Int) r3) fun r4 _=>
 .l1m [] Tryz.f140 1 [1,0,1,0,1,1,1,1,1,0,1,0] 0 (.exit 0) (fun(v0,s8009)=>⟨[(0,.ptr 0 0),(3,.ptr 1 0),(4,.i_ v0)],[fD s8009,aX p_v]⟩) (fun r_=>⟨[],[fD r_,.dead]⟩) (ab1 R_ p_v 0 r4) (Dl R_ p_v) (0,r4) fun r5=>
 .rt [] 1 (r5))<|
 .cl (vH p_v) fun r6 _=>
 .iB (r6) (.grd (p_b0.fS.size+(⟨#[0]⟩:ByteArray).size≤9223372036854775807) fun h1=>
 .say [] (ok1 h1)<|
 .ret ⟨[.kill 1],[],[],1⟩ (aN.mk (p_b0.fS++⟨#[0]⟩) p_b0.BX p_b0.wF))<|
 .cl (aew p_v) fun r7 _=>
 .jy [.kill 1] Tryz.f140 1 [1,1,1,1,0] 37 (.normal) (fun r_=>⟨[(0,.ptr 0 0),(5,.lf (.str r7.1))],[fD r_,.dead]⟩) ⟨[(0,.ptr 0 0),(5,.lf (.str r7.1)),(6,.i_ r7.2)],[fD p_b0,.dead]⟩ (aj1 R_ p_b0 r7) fun r8=>
 .grd ((⟨#[1]⟩:ByteArray).size+r7.1.size≤9223372036854775807) fun h2=>
 .say [] (ok1 h2)<|
 .grd (r8.fS.size+((⟨#[1]⟩:ByteArray)++r7.1).size≤9223372036854775807) fun h3=>
 .say [] (ok1 h3)<|
 .rt [] 1 (aN.mk (r8.fS++((⟨#[1]⟩:ByteArray)++r7.1)) r8.BX r8.wF)
theorem aon(R_:Nh):U3 fun p_v p_b0=>Mo.den (aj2 R_ p_v p_b0):=fun _ _=>fH Tryz.func140
def Dn(R_:Nh)(p_l:List ah):(Int×aN)→Mo ((Int×aN)⊕(aN)):=fun(v0,s9581)=>
 .nu p_l ah.lf<|
 .iB (decide ((v0:Int)<(p_l.length:Int))) (.gx ah.bf p_l v0 fun x0 _=>
 .cH [0] (R_.ok1 x0 s9581) fun r0 _=>
 .rt [0,1,4] 1 (.inl (IntKind.wrap .i64 (v0+1),r0)))<|
 .rt [] 1 (.inr (s9581))
def ab2(R_:Nh)(p_l:List ah)(v0:Int)(s9581:aN):Option (aN):=bW (fun v_=>(Dn R_ p_l v_).den) FU (v0,s9581)
def aj3(R_:Nh)(p_l:List ah)(p_b0:aN):Mo (aN):=
 .nu p_l ah.lf<|
 .cH [0] (gJ (p_l.length:Int) p_b0) fun r0 _=>
 .l1m [] Tryz.f217 1 [1,1,0] 0 (.exit 0) (fun(v0,s9581)=>⟨[(0,.ptr 0 0),(1,.lf (.rows 5 (p_l.map ah.lf))),(4,.i_ v0)],[fD s9581]⟩) (fun r_=>⟨[],[fD r_]⟩) (ab2 R_ p_l 0 r0) (Dn R_ p_l) (0,r0) fun r1=>
 .rt [] 1 (r1)
theorem aoo(R_:Nh):U4 fun p_l p_b0=>Mo.den (aj3 R_ p_l p_b0):=fun _ _=>fH Tryz.func217
def mJ:Nat→Nh
 |0=>{ m1:=fun p_v p_b0=>none,ok1:=fun _ _ _ h=>(by cases h),m2:=fun p_l p_b0=>none,ok2:=fun _ _ _ h=>(by cases h) }
 |n_+1=>{ m1:=fun p_v p_b0=>Mo.den (aj2 (mJ n_) p_v p_b0),ok1:=aon (mJ n_),m2:=fun p_l p_b0=>Mo.den (aj3 (mJ n_) p_l p_b0),ok2:=aoo (mJ n_) }
def Q37(p_v:ah)(p_b0:aN):Option (aN):=(mJ FU).m1 p_v p_b0
theorem AY:U3 Q37:=(mJ FU).ok1
def Q53(p_l:List ah)(p_b0:aN):Option (aN):=(mJ FU).m2 p_l p_b0
theorem aj6:U4 Q53:=(mJ FU).ok2
def Dp(p_l:List ByteArray):(Int×aN)→Mo ((Int×aN)⊕(aN)):=fun(v0,s9649)=>
 .nu p_l lfS<|
 .iB (decide ((v0:Int)<(p_l.length:Int))) (.gx lS_ p_l v0 fun x0 _=>
 .cH [0] (sD x0 s9649) fun r0 _=>
 .rt [0,1,4] 1 (.inl (IntKind.wrap .i64 (v0+1),r0)))<|
 .rt [] 1 (.inr (s9649))
def ab3(p_l:List ByteArray)(v0:Int)(s9649:aN):Option (aN):=bW (fun v_=>(Dp p_l v_).den) FU (v0,s9649)
def apH(p_l:List ByteArray)(p_b0:aN):Mo (aN):=
 .nu p_l lfS<|
 .cH [0] (gJ (p_l.length:Int) p_b0) fun r0 _=>
 .l1m [] Tryz.f220 1 [1,1,0] 0 (.exit 0) (fun(v0,s9649)=>⟨[(0,.ptr 0 0),(1,.lf (.rows 1 (p_l.map lfS))),(4,.i_ v0)],[fD s9649]⟩) (fun r_=>⟨[],[fD r_]⟩) (ab3 p_l 0 r0) (Dp p_l) (0,r0) fun r1=>
 .rt [] 1 (r1)
def Q48(p_l:List ByteArray)(p_b0:aN):Option (aN):=Mo.den (apH p_l p_b0)
theorem KR(p_l:List ByteArray)(p_b0:aN):FH (Q48 p_l p_b0) 220 [.ptr 0 0,.lf (.rows 1 (p_l.map lfS))] [fD p_b0] (fun _=>.tup []) (fun r=>[fD r]):=fH Tryz.func220
def apI(p_b:Bool)(p_b0:aN):Mo (aN):=
 .iB (p_b) (.grd (p_b0.fS.size+(⟨#[1]⟩:ByteArray).size≤9223372036854775807) fun h0=>
 .say [] (ok1 h0)<|
 .rt [] 1 (aN.mk (p_b0.fS++⟨#[1]⟩) p_b0.BX p_b0.wF))<|
 .grd (p_b0.fS.size+(⟨#[0]⟩:ByteArray).size≤9223372036854775807) fun h1=>
 .say [] (ok1 h1)<|
 .rt [] 1 (aN.mk (p_b0.fS++⟨#[0]⟩) p_b0.BX p_b0.wF)
def Q76(p_b:Bool)(p_b0:aN):Option (aN):=Mo.den (apI p_b p_b0)
theorem vJ(p_b:Bool)(p_b0:aN):FH (Q76 p_b p_b0) 143 [.ptr 0 0,.b_ p_b] [fD p_b0] (fun _=>.tup []) (fun r=>[fD r]):=fH Tryz.func143
def Dq(p_s:dQ):(Int×aN)→Mo ((Int×aN)⊕(aN)):=fun(v0,s9814)=>
 .nu p_s.bF cu.lf<|
 .iB (decide ((v0:Int)<(p_s.bF.length:Int))) (.gx cu.bf p_s.bF v0 fun x0 _=>
 .cH [0] (gJ x0.fX s9814) fun r0 _=>
 .gx cu.bf p_s.bF v0 fun x1 _=>
 .cH [0] (gJ x1.fY r0) fun r1 _=>
 .rt [0,3,4] 2 (.inl (IntKind.wrap .i64 (v0+1),r1)))<|
 .rt [0,3] 2 (.inr (s9814))
def ab4(p_s:dQ)(v0:Int)(s9814:aN):Option (aN):=bW (fun v_=>(Dq p_s v_).den) FU (v0,s9814)
def apJ(p_s:dQ)(p_b0:aN):Mo (aN):=
 .ask (Q16 p_s.aF p_b0) fun r0 h0=>
 .say [.kZ [0] (.tup []) [fD r0],.num p_s.bF.length] (okc (gJ _ _ _ h0) (ok1 (ln_ p_s.bF cu.lf)))<|
 .cH [0] (gJ (p_s.bF.length:Int) r0) fun r1 _=>
 .l1m [] Tryz.f281 1 [1,1,1,0,1,0] 0 (.exit 0) (fun(v0,s9814)=>⟨[(0,.ptr 0 0),(3,.ptr 1 0),(4,.i_ v0)],[fD s9814,wB p_s]⟩) (fun r_=>⟨[(0,.ptr 0 0),(3,.ptr 1 0)],[fD r_,wB p_s]⟩) (ab4 p_s 0 r1) (Dq p_s) (0,r1) fun r2=>
 .cH [0] (gJ p_s.fR r2) fun r3 _=>
 .ret ⟨[.kill 1],[],[],1⟩ (r3)
def Q73(p_s:dQ)(p_b0:aN):Option (aN):=Mo.den (apJ p_s p_b0)
theorem asC(p_s:dQ)(p_b0:aN):FH (Q73 p_s p_b0) 281 [.ptr 0 0,.dat (dQ.lf1 p_s)] [fD p_b0] (fun _=>.tup []) (fun r=>[fD r]):=fH Tryz.func281
abbrev U5(m:aP→aN→Option (aN)):Prop:=∀p_e p_b0,FH (m p_e p_b0) 282 [.ptr 0 0,.dat (aP.lf1 p_e)] [fD p_b0] (fun _=>.tup []) (fun r=>[fD r])
structure aj7 where
 m1:(p_e:aP)→(p_b0:aN)→Option (aN)
 ok1:U5 m1
def Dt(R_:aj7)(p_e:aP):(Int×aN)→Mo ((Int×aN)⊕(aN)):=fun(v0,s9876)=>
 .nu p_e.bC aP.lf<|
 .iB (decide ((v0:Int)<(p_e.bC.length:Int))) (.gx aP.bf p_e.bC v0 fun x0 _=>
 .cH [0] (R_.ok1 x0 s9876) fun r0 _=>
 .rt [0,3,4] 2 (.inl (IntKind.wrap .i64 (v0+1),r0)))<|
 .ret ⟨[.kill 1],[],[],2⟩ (.inr (s9876))
def ab5(R_:aj7)(p_e:aP)(v0:Int)(s9876:aN):Option (aN):=bW (fun v_=>(Dt R_ p_e v_).den) FU (v0,s9876)
def aj8(R_:aj7)(p_e:aP)(p_b0:aN):Mo (aN):=
 .cH [0] (gJ p_e.fOp p_b0) fun r0 _=>
 .cH [0] (KR p_e.cO r0) fun r1 _=>
 .cH [0] (sD p_e.fName r1) fun r2 _=>
 .cH [0] (KR p_e.eP r2) fun r3 _=>
 .cH [0] (AY p_e.fArg r3) fun r4 _=>
 .ask (Q16 p_e.fN r4) fun r5 h0=>
 .say [.kZ [0] (.tup []) [fD r5],.num p_e.bC.length] (okc (gJ _ _ _ h0) (ok1 (ln_ p_e.bC aP.lf)))<|
 .cH [0] (gJ (p_e.bC.length:Int) r5) fun r6 _=>
 .l1m [] Tryz.f282 1 [1,1,1,1,1,1,1,1,1,0] 0 (.exit 0) (fun(v0,s9876)=>⟨[(0,.ptr 0 0),(3,.ptr 1 0),(4,.i_ v0)],[fD s9876,dL p_e]⟩) (fun r_=>⟨[],[fD r_,.dead]⟩) (ab5 R_ p_e 0 r6) (Dt R_ p_e) (0,r6) fun r7=>
 .rt [] 1 (r7)
theorem aop(R_:aj7):U5 fun p_e p_b0=>Mo.den (aj8 R_ p_e p_b0):=fun _ _=>fH Tryz.func282
def xH:Nat→aj7
 |0=>{ m1:=fun p_e p_b0=>none,ok1:=fun _ _ _ h=>(by cases h) }
 |n_+1=>{ m1:=fun p_e p_b0=>Mo.den (aj8 (xH n_) p_e p_b0),ok1:=aop (xH n_) }
def Q60(p_e:aP)(p_b0:aN):Option (aN):=(xH FU).m1 p_e p_b0
theorem asE:U5 Q60:=(xH FU).ok1
abbrev U6(m:aO→aN→Option (aN)):Prop:=∀p_p p_b0,FH (m p_p p_b0) 221 [.ptr 0 0,.dat (aO.lf1 p_p)] [fD p_b0] (fun _=>.tup []) (fun r=>[fD r])
structure aj9 where
 m1:(p_p:aO)→(p_b0:aN)→Option (aN)
 ok1:U6 m1
def Du(R_:aj9)(p_p:aO):(Int×aN)→Mo ((Int×aN)⊕(aN)):=fun(v0,s9909)=>
 .nu p_p.bC aO.lf<|
 .iB (decide ((v0:Int)<(p_p.bC.length:Int))) (.gx aO.bf p_p.bC v0 fun x0 _=>
 .cH [0] (R_.ok1 x0 s9909) fun r0 _=>
 .rt [0,3,4] 2 (.inl (IntKind.wrap .i64 (v0+1),r0)))<|
 .ret ⟨[.kill 1],[],[],2⟩ (.inr (s9909))
def ab6(R_:aj9)(p_p:aO)(v0:Int)(s9909:aN):Option (aN):=bW (fun v_=>(Du R_ p_p v_).den) FU (v0,s9909)
def akb(R_:aj9)(p_p:aO)(p_b0:aN):Mo (aN):=
 .cH [0] (gJ p_p.fOp p_b0) fun r0 _=>
 .cH [0] (KR p_p.cO r0) fun r1 _=>
 .cH [0] (AY p_p.fArg r1) fun r2 _=>
 .cH [0] (aj6 p_p.fArgs r2) fun r3 _=>
 .cH [0] (gJ p_p.fN r3) fun r4 _=>
 .cH [0] (gJ p_p.fM r4) fun r5 _=>
 .cH [0] (asC p_p.dY r5) fun r6 _=>
 .ask (Q60 p_p.fExpr r6) fun r7 h0=>
 .say [.kZ [0] (.tup []) [fD r7],.num p_p.bC.length] (okc (asE _ _ _ h0) (ok1 (ln_ p_p.bC aO.lf)))<|
 .cH [0] (gJ (p_p.bC.length:Int) r7) fun r8 _=>
 .l1m [] Tryz.f221 1 [1,1,1,1,1,1,1,1,1,1,1,0] 0 (.exit 0) (fun(v0,s9909)=>⟨[(0,.ptr 0 0),(3,.ptr 1 0),(4,.i_ v0)],[fD s9909,dw p_p]⟩) (fun r_=>⟨[],[fD r_,.dead]⟩) (ab6 R_ p_p 0 r8) (Du R_ p_p) (0,r8) fun r9=>
 .rt [] 1 (r9)
theorem aoq(R_:aj9):U6 fun p_p p_b0=>Mo.den (akb R_ p_p p_b0):=fun _ _=>fH Tryz.func221
def xI:Nat→aj9
 |0=>{ m1:=fun p_p p_b0=>none,ok1:=fun _ _ _ h=>(by cases h) }
 |n_+1=>{ m1:=fun p_p p_b0=>Mo.den (akb (xI n_) p_p p_b0),ok1:=aoq (xI n_) }
def Q67(p_p:aO)(p_b0:aN):Option (aN):=(xI FU).m1 p_p p_b0
theorem asF:U6 Q67:=(xI FU).ok1
def Dv(p_x:aQ):(Int×aN)→Mo ((Int×aN)⊕(aN)):=fun(v0,s9707)=>
 .nu p_x.gq bn.lf<|
 .iB (decide ((v0:Int)<(p_x.gq.length:Int))) (.gx bn.bf p_x.gq v0 fun x0 _=>
 .cH [0] (KR x0.cO s9707) fun r0 _=>
 .gx bn.bf p_x.gq v0 fun x1 _=>
 .cH [0] (vJ x1.NI r0) fun r1 _=>
 .rt [0,3,4] 2 (.inl (IntKind.wrap .i64 (v0+1),r1)))<|
 .rt [0,3] 2 (.inr (s9707))
def ab7(p_x:aQ)(v0:Int)(s9707:aN):Option (aN):=bW (fun v_=>(Dv p_x v_).den) FU (v0,s9707)
def apK(p_x:aQ)(p_b0:aN):Mo (aN):=
 .cH [0] (sD p_x.fName p_b0) fun r0 _=>
 .ask (Q16 p_x.aF r0) fun r1 h0=>
 .say [.kZ [0] (.tup []) [fD r1],.num p_x.gq.length] (okc (gJ _ _ _ h0) (ok1 (ln_ p_x.gq bn.lf)))<|
 .cH [0] (gJ (p_x.gq.length:Int) r1) fun r2 _=>
 .l1m [] Tryz.f142 1 [1,1,1,1,0,1,0] 0 (.exit 0) (fun(v0,s9707)=>⟨[(0,.ptr 0 0),(3,.ptr 1 0),(4,.i_ v0)],[fD s9707,mF p_x]⟩) (fun r_=>⟨[(0,.ptr 0 0),(3,.ptr 1 0)],[fD r_,mF p_x]⟩) (ab7 p_x 0 r2) (Dv p_x) (0,r2) fun r3=>
 .cH [0] (vJ p_x.gB r3) fun r4 _=>
 .cH [0] (vJ p_x.lF r4) fun r5 _=>
 .cH [0] (vJ p_x.jr r5) fun r6 _=>
 .cH [0] (asF p_x.bG r6) fun r7 _=>
 .ret ⟨[.kill 1],[],[],1⟩ (r7)
def Q49(p_x:aQ)(p_b0:aN):Option (aN):=Mo.den (apK p_x p_b0)
theorem U7(p_x:aQ)(p_b0:aN):FH (Q49 p_x p_b0) 142 [.ptr 0 0,.dat (aQ.lf1 p_x)] [fD p_b0] (fun _=>.tup []) (fun r=>[fD r]):=fH Tryz.func142
abbrev U8(m:aI→aN→Option (aN)):Prop:=∀p_s p_b0,FH (m p_s p_b0) 219 [.ptr 0 0,.dat (aI.lf1 p_s)] [fD p_b0] (fun _=>.tup []) (fun r=>[fD r])
structure ab8 where
 m1:(p_s:aI)→(p_b0:aN)→Option (aN)
 ok1:U8 m1
def Dw(R_:ab8)(p_s:aI):(Int×aN)→Mo ((Int×aN)⊕(aN)):=fun(v0,s10046)=>
 .nu p_s.dD bH.lf<|
 .iB (decide ((v0:Int)<(p_s.dD.length:Int))) (.gx bH.bf p_s.dD v0 fun x0 _=>
 .cH [0] (sD x0.fName s10046) fun r0 _=>
 .gx bH.bf p_s.dD v0 fun x1 _=>
 .cH [0] (R_.ok1 x1.aZ r0) fun r1 _=>
 .rt [0,3,4] 2 (.inl (IntKind.wrap .i64 (v0+1),r1)))<|
 .rt [0,3] 2 (.inr (s10046))
def ab9(R_:ab8)(p_s:aI)(v0:Int)(s10046:aN):Option (aN):=bW (fun v_=>(Dw R_ p_s v_).den) FU (v0,s10046)
def Dx(R_:ab8)(p_s:aI):(Int×aN)→Mo ((Int×aN)⊕(aN)):=fun(v0,s10097)=>
 .nu p_s.eU aI.lf<|
 .iB (decide ((v0:Int)<(p_s.eU.length:Int))) (.gx aI.bf p_s.eU v0 fun x0 _=>
 .cH [0] (R_.ok1 x0 s10097) fun r0 _=>
 .rt [0,3,5] 2 (.inl (IntKind.wrap .i64 (v0+1),r0)))<|
 .rt [0,3] 2 (.inr (s10097))
def acd(R_:ab8)(p_s:aI)(v0:Int)(s10097:aN):Option (aN):=bW (fun v_=>(Dx R_ p_s v_).den) FU (v0,s10097)
def akc(R_:ab8)(p_s:aI)(p_b0:aN):Mo (aN):=
 .cH [0] (gJ p_s.iZ p_b0) fun r0 _=>
 .cH [0] (vJ p_s.jE r0) fun r1 _=>
 .cH [0] (AY p_s.kT r1) fun r2 _=>
 .cH [0] (vJ p_s.jF r2) fun r3 _=>
 .cH [0] (AY p_s.kU r3) fun r4 _=>
 .cH [0] (aj6 p_s.iV r4) fun r5 _=>
 .cH [0] (gJ p_s.jQ r5) fun r6 _=>
 .cH [0] (gJ p_s.jR r6) fun r7 _=>
 .ask (Q48 p_s.dZ r7) fun r8 h0=>
 .say [.kZ [0] (.tup []) [fD r8],.num p_s.dD.length] (okc (KR _ _ _ h0) (ok1 (ln_ p_s.dD bH.lf)))<|
 .cH [0] (gJ (p_s.dD.length:Int) r8) fun r9 _=>
 .l1m [] Tryz.f219 1 [1,1,1,1,1,1,1,1,1,1,1,0,1,0] 0 (.exit 0) (fun(v0,s10046)=>⟨[(0,.ptr 0 0),(3,.ptr 1 0),(4,.i_ v0)],[fD s10046,fP p_s]⟩) (fun r_=>⟨[(0,.ptr 0 0),(3,.ptr 1 0)],[fD r_,fP p_s]⟩) (ab9 R_ p_s 0 r9) (Dw R_ p_s) (0,r9) fun r10=>
 .ask (Q76 p_s.lX r10) fun r11 h1=>
 .say [.kZ [0] (.tup []) [fD r11],.num p_s.eU.length] (okc (vJ _ _ _ h1) (ok1 (ln_ p_s.eU aI.lf)))<|
 .cH [0] (gJ (p_s.eU.length:Int) r11) fun r12 _=>
 .l1m [] Tryz.f219 1 [1,1,1,1,1,1,1,1,1,1,1,1,1,1,0,1,0] 0 (.exit 2) (fun(v1,s10097)=>⟨[(0,.ptr 0 0),(3,.ptr 1 0),(5,.i_ v1)],[fD s10097,fP p_s]⟩) (fun r_=>⟨[(0,.ptr 0 0),(3,.ptr 1 0)],[fD r_,fP p_s]⟩) (acd R_ p_s 0 r12) (Dx R_ p_s) (0,r12) fun r13=>
 .cH [0] (vJ p_s.gB r13) fun r14 _=>
 .ret ⟨[.kill 1],[],[],1⟩ (r14)
theorem aor(R_:ab8):U8 fun p_s p_b0=>Mo.den (akc R_ p_s p_b0):=fun _ _=>fH Tryz.func219
def sF:Nat→ab8
 |0=>{ m1:=fun p_s p_b0=>none,ok1:=fun _ _ _ h=>(by cases h) }
 |n_+1=>{ m1:=fun p_s p_b0=>Mo.den (akc (sF n_) p_s p_b0),ok1:=aor (sF n_) }
def Q32(p_s:aI)(p_b0:aN):Option (aN):=(sF FU).m1 p_s p_b0
theorem asG:U8 Q32:=(sF FU).ok1
def Dy(p_d:bU):(Int×aN)→Mo ((Int×aN)⊕(aN)):=fun(v0,s9947)=>
 .nu p_d.bM aQ.lf<|
 .iB (decide ((v0:Int)<(p_d.bM.length:Int))) (.gx aQ.bf p_d.bM v0 fun x0 _=>
 .cH [0] (U7 x0 s9947) fun r0 _=>
 .rt [0,3,4] 2 (.inl (IntKind.wrap .i64 (v0+1),r0)))<|
 .rt [0,3] 2 (.inr (s9947))
def ace(p_d:bU)(v0:Int)(s9947:aN):Option (aN):=bW (fun v_=>(Dy p_d v_).den) FU (v0,s9947)
def apL(p_d:bU)(p_b0:aN):Mo (aN):=
 .ask (Q66 p_d.fName p_b0) fun r0 h0=>
 .say [.kZ [0] (.tup []) [fD r0],.num p_d.bM.length] (okc (sD _ _ _ h0) (ok1 (ln_ p_d.bM aQ.lf)))<|
 .cH [0] (gJ (p_d.bM.length:Int) r0) fun r1 _=>
 .l1m [] Tryz.f141 1 [1,1,1,0,1,0] 0 (.exit 0) (fun(v0,s9947)=>⟨[(0,.ptr 0 0),(3,.ptr 1 0),(4,.i_ v0)],[fD s9947,nH p_d]⟩) (fun r_=>⟨[(0,.ptr 0 0),(3,.ptr 1 0)],[fD r_,nH p_d]⟩) (ace p_d 0 r1) (Dy p_d) (0,r1) fun r2=>
 .cH [0] (asG p_d.aZ r2) fun r3 _=>
 .cH [0] (gJ p_d.lg r3) fun r4 _=>
 .cH [0] (gJ p_d.jo r4) fun r5 _=>
 .ret ⟨[.kill 1],[],[],1⟩ (r5)
def Q56(p_d:bU)(p_b0:aN):Option (aN):=Mo.den (apL p_d p_b0)
theorem acf(p_d:bU)(p_b0:aN):FH (Q56 p_d p_b0) 141 [.ptr 0 0,.dat (bU.lf1 p_d)] [fD p_b0] (fun _=>.tup []) (fun r=>[fD r]):=fH Tryz.func141
abbrev U9(m:aG→aN→Option (aN)):Prop:=∀p_x p_b0,FH (m p_x p_b0) 85 [.ptr 0 0,.dat (aG.lf1 p_x)] [fD p_b0] (fun _=>.tup []) (fun r=>[fD r])
structure akd where
 m1:(p_x:aG)→(p_b0:aN)→Option (aN)
 ok1:U9 m1
def agC(R_:akd)(p_x:aG):(Int×aN)→Mo ((Int×aN)⊕(aN)):=fun(v0,s10168)=>
 .nu p_x.bQ aG.lf<|
 .iB (decide ((v0:Int)<(p_x.bQ.length:Int))) (.stop)<|
 .rt [0,3] 2 (.inr (s10168))
def agD(R_:akd)(p_x:aG):(Int×aN)→Mo ((Int×aN)⊕(aN)):=fun(v0,s10211)=>
 .nu p_x.eG lfI<|
 .iB (decide ((v0:Int)<(p_x.eG.length:Int))) (.stop)<|
 .rt [0,3] 2 (.inr (s10211))
def ake(R_:akd)(p_x:aG)(p_b0:aN):Mo (aN):=
 .cH [0] (gJ p_x.aF p_b0) fun r0 _=>
 .cH [0] (sD p_x.gu r0) fun r1 _=>
 .cH [0] (AY p_x.fU r1) fun r2 _=>
 .cH [0] (AY p_x.aU r2) fun r3 _=>
 .cH [0] (AY p_x.dK r3) fun r4 _=>
 .cH [0] (acf p_x.dS r4) fun r5 _=>
 .cH [0] (U7 p_x.aY r5) fun r6 _=>
 .cH [0] (sD p_x.mM r6) fun r7 _=>
 .ask (Q16 p_x.eu r7) fun r8 h0=>
 .say [.kZ [0] (.tup []) [fD r8],.num p_x.bQ.length] (okc (gJ _ _ _ h0) (ok1 (ln_ p_x.bQ aG.lf)))<|
 .cH [0] (gJ (p_x.bQ.length:Int) r8) fun r9 _=>
 .l1 Tryz.f85 1 [1,1,1,1,1,1,1,1,1,1,1,0,1,0] 0 (.exit 0) (fun(v0,s10168)=>⟨[(0,.ptr 0 0),(3,.ptr 1 0),(4,.i_ v0)],[fD s10168,dO p_x]⟩) (fun r_=>⟨[(0,.ptr 0 0),(3,.ptr 1 0)],[fD r_,dO p_x]⟩) (agC R_ p_x) (0,r9) fun r10=>
 .nu p_x.eG lfI<|
 .cH [0] (gJ (p_x.eG.length:Int) r10) fun r11 _=>
 .l1 Tryz.f85 1 [1,1,1,1,1,1,1,1,1,1,1,1,1,0,1,0] 0 (.exit 2) (fun(v1,s10211)=>⟨[(0,.ptr 0 0),(3,.ptr 1 0),(5,.i_ v1)],[fD s10211,dO p_x]⟩) (fun r_=>⟨[(0,.ptr 0 0),(3,.ptr 1 0)],[fD r_,dO p_x]⟩) (agD R_ p_x) (0,r11) fun r12=>
 .cH [0] (vJ p_x.gQ r12) fun r13 _=>
 .ret ⟨[.kill 1],[],[],1⟩ (r13)
theorem akf(R_:akd):U9 fun p_x p_b0=>Mo.den (ake R_ p_x p_b0):=fun _ _=>fH Tryz.func85
def Va:Nat→akd
 |0=>{ m1:=fun p_x p_b0=>none,ok1:=fun _ _ _ h=>(by cases h) }
 |n_+1=>{ m1:=fun p_x p_b0=>Mo.den (ake (Va n_) p_x p_b0),ok1:=akf (Va n_) }
def avI(p_x:aG)(p_b0:aN):Option (aN):=(Va FU).m1 p_x p_b0
theorem aos:U9 avI:=(Va FU).ok1
def asH(p_e:bY)(p_b0:aN):Mo (aN):=
 .cH [0] (gJ p_e.BQ p_b0) fun r0 _=>
 .cH [0] (gJ p_e.eu r0) fun r1 _=>
 .cH [0] (sD p_e.pJ r1) fun r2 _=>
 .cH [0] (gJ p_e.BR r2) fun r3 _=>
 .cH [0] (aos p_e.dI r3) fun r4 _=>
 .ret ⟨[.kill 1],[],[],1⟩ (r4)
def avJ(p_e:bY)(p_b0:aN):Option (aN):=Mo.den (asH p_e p_b0)
theorem aot(p_e:bY)(p_b0:aN):FH (avJ p_e p_b0) 37 [.ptr 0 0,.dat (bY.lf1 p_e)] [fD p_b0] (fun _=>.tup []) (fun r=>[fD r]):=fH Tryz.func37
def asI(p_e:bY):Mo (ByteArray):=
 .say [.at_ 6 1,.norm 1] ok0<|
 .cH [1] (aot p_e (aN.mk ⟨#[]⟩ false true)) fun r0 _=>
 .ret (aS 1) (r0.fS)
def asJ(p_e:bY):Option (ByteArray):=Mo.den (asI p_e)
theorem aex(p_e:bY):FV (asJ p_e) 44 [.dat (bY.lf1 p_e)] (fun r=>.lf (.str r)):=dA Tryz.func44
def asK(p_a:bY)(p_b:bY):Mo (Bool):=
 .ask (asJ p_a) fun r0 h0=>
 .say [] (ok1 (aex _ _ h0))<|
 .ask (asJ p_b) fun r1 h1=>
 .say [.iY (.q 0 (.q 2 (.l 1 (.l 3 (.q 4 (.q 5 .fin)))))) (some 3) [] [.res (.lf (.str r0)),.res (.lf (.str r1))] [4] 2 [(4,.lf (.bool (decide ((r0:ByteArray)=(r1:ByteArray)))))] [jI p_a,jI p_b]] (okc (aex _ _ h1) (ok1 (rf_ ⟨[(4,.lf (.bool (decide ((r0:ByteArray)=(r1:ByteArray)))))],[jI p_a,jI p_b]⟩)))<|
 .ret (aS 1) (decide ((r0:ByteArray)=(r1:ByteArray)))
def avK(p_a:bY)(p_b:bY):Option (Bool):=Mo.den (asK p_a p_b)
theorem aou(p_a:bY)(p_b:bY):FV (avK p_a p_b) 18 [.dat (bY.lf1 p_a),.dat (bY.lf1 p_b)] .b_:=dA Tryz.func18
abbrev Vb(m:ah→Option (ah)):Prop:=∀p_v,FV (m p_v) 101 [.dat (ah.lf1 p_v)] (fun r=>.dat (ah.lf1 r))
abbrev Vd(m:(List ah)→Option (List ah)):Prop:=∀p_l,FH (m p_l) 154 [.lf (.rows 5 (p_l.map ah.lf)),.raw (.func (.func 101) #[] #[])] [] (fun r=>.lf (.rows 5 (r.map ah.lf))) (fun _=>[])
abbrev aey(m:(List aJ)→Option (List aJ)):Prop:=∀p_l,FH (m p_l) 155 [.lf (.rows 6 (p_l.map aJ.lf)),.raw (.func (.func 156) #[] #[])] [] (fun r=>.lf (.rows 6 (r.map aJ.lf))) (fun _=>[])
abbrev aez(m:aJ→Option (aJ)):Prop:=∀p_f,FV (m p_f) 156 [.dat (aJ.lf1 p_f)] (fun r=>.dat (aJ.lf1 r))
structure Nj where
 m1:(p_v:ah)→Option (ah)
 ok1:Vb m1
 m2:(p_l:List ah)→Option (List ah)
 ok2:Vd m2
 m3:(p_l:List aJ)→Option (List aJ)
 ok3:aey m3
 m4:(p_f:aJ)→Option (aJ)
 ok4:aez m4
def akg(R_:Nj)(p_v:ah):Mo (ah):=
 .cH [] (R_.ok2 p_v.aW) fun r0 _=>
 .cH [] (R_.ok3 p_v.aU) fun r1 _=>
 .ret (aS 1) (ah.mk p_v.aF p_v.fA p_v.fText r0 r1)
theorem akh(R_:Nj):Vb fun p_v=>Mo.den (akg R_ p_v):=fun _=>dA Tryz.func101
def aki(R_:Nj)(p_l:List ah):Mo (List ah):=
 .nu p_l ah.lf<|
 .iB ((p_l.length:Int)==0) (.ret ⟨[.nil 0 5,.tod 0],[0],[],0⟩ ([]))<|
 .stop
theorem akj(R_:Nj):Vd fun p_l=>Mo.den (aki R_ p_l):=fun _=>fH Tryz.func154
def agE(R_:Nj)(p_l:List aJ):(Int×(List aJ))→Mo ((Int×(List aJ))⊕((List aJ))):=fun(v0,l0)=>
 .iB (decide ((v0:Int)<(p_l.length:Int))) (.gx aJ.bf p_l v0 fun x0 _=>
 .cl (R_.ok4 x0) fun r0 _=>
 .ask (lG l0 v0) fun x1 h0=>
 .say [.row (aJ.lf1 x1),.rows ((l0.set v0.toNat r0).map aJ.lf)] (okc (amm aJ.bf h0) (okc (st_ aJ.bf l0 v0.toNat r0) (ok1 ((gZ aJ.bf h0).2))))<|
 .rt [1,5,14,15,16] 1 (.inl (IntKind.wrap .i64 (v0+1),l0.set v0.toNat r0)))<|
 .rt [5] 1 (.inr (l0))
def akk(R_:Nj)(p_l:List aJ):Mo (List aJ):=
 .nu p_l aJ.lf<|
 .iB ((p_l.length:Int)==0) (.ret ⟨[.nil 0 6,.tod 0],[0],[],0⟩ ([]))<|
 .say [.num p_l.length,.rows ((List.replicate (p_l.length:Int).toNat (aJ.mk ⟨#[]⟩ (ah.mk 0 0 ⟨#[]⟩ [] []))).map aJ.lf),.num p_l.length] (okc (ln_ p_l aJ.lf) (ok1 (rp_ aJ.bf (p_l.length:Int).toNat (aJ.mk ⟨#[]⟩ (ah.mk 0 0 ⟨#[]⟩ [] [])))))<|
 .grd ((0:Int)≤(p_l.length:Int)∧96*(p_l.length:Int).toNat≤281474976710656∧(p_l.length:Int).toNat≤maxLen) fun h0=>
 .say [] (okc (mk_ (p_l.length:Int) h0) (ok1 (ln_ p_l aJ.lf)))<|
 .l1 Tryz.f155 0 [1,1,1,0,1,0] 0 (.exit 0) (fun(v0,l0)=>⟨[(1,.raw (.func (.func 156) #[] #[])),(5,.own 0),(14,.lf (.rows 6 (p_l.map aJ.lf))),(15,.i_ (p_l.length:Int)),(16,.i_ v0)],[.row 115 6 (l0.map aJ.lf)]⟩) (fun r_=>⟨[(5,.own 0)],[.row 115 6 (r_.map aJ.lf)]⟩) (agE R_ p_l) (0,(List.replicate (p_l.length:Int).toNat (aJ.mk ⟨#[]⟩ (ah.mk 0 0 ⟨#[]⟩ [] [])))) fun r0=>
 .ret ⟨[.frz 0],[0],[],0⟩ (r0)
theorem akl(R_:Nj):aey fun p_l=>Mo.den (akk R_ p_l):=fun _=>fH Tryz.func155
def akm(R_:Nj)(p_f:aJ):Mo (aJ):=
 .say [.order [(true,0),(true,1),(true,2),(true,3),(false,4),(true,5),(false,6)] (some 6) []] ok0<|
 .cl (R_.ok1 p_f.fValue) fun r0 _=>
 .ret (aS 1) (aJ.mk p_f.fName r0)
theorem akn(R_:Nj):aez fun p_f=>Mo.den (akm R_ p_f):=fun _=>dA Tryz.func156
def pX:Nat→Nj
 |0=>{ m1:=fun p_v=>none,ok1:=fun _ _ h=>(by cases h),m2:=fun p_l=>none,ok2:=fun _ _ h=>(by cases h),m3:=fun p_l=>none,ok3:=fun _ _ h=>(by cases h),m4:=fun p_f=>none,ok4:=fun _ _ h=>(by cases h) }
 |n_+1=>{ m1:=fun p_v=>Mo.den (akg (pX n_) p_v),ok1:=akh (pX n_),m2:=fun p_l=>Mo.den (aki (pX n_) p_l),ok2:=akj (pX n_),m3:=fun p_l=>Mo.den (akk (pX n_) p_l),ok3:=akl (pX n_),m4:=fun p_f=>Mo.den (akm (pX n_) p_f),ok4:=akn (pX n_) }
def avL(p_v:ah):Option (ah):=(pX FU).m1 p_v
theorem vK:Vb avL:=(pX FU).ok1
def auz(p_l:List ah):Option (List ah):=(pX FU).m2 p_l
theorem aeA:Vd auz:=(pX FU).ok2
def asL(p_l:List ByteArray):Mo (List ByteArray):=
 .say [.rows (p_l.map lfS),.at_ 0 0,.frz 0] (ok1 (by simp[lfS]:p_l.map lfS=[]++(p_l.map lfS)))<|
 .grd ((([]:List ByteArray).length+p_l.length)*16≤140737488355328) fun h0=>
 .say [] (ok1 (cq_ lfS h0))<|
 .ret (aS 1) (p_l)
def avM(p_l:List ByteArray):Option (List ByteArray):=Mo.den (asL p_l)
theorem Iw(p_l:List ByteArray):FV (avM p_l) 238 [.lf (.rows 1 (p_l.map lfS))] (fun r=>.lf (.rows 1 (r.map lfS))):=dA Tryz.func238
def asM(p_l:List bn):Mo (List bn):=
 .nu p_l bn.lf<|
 .iB ((p_l.length:Int)==0) (.say [] (ok1 (by simp[bn.bf]:(([]:List bn).map bn.lf)=[]))<|
 .ret ⟨[.sQ 0 149 2,.mg 0 (([]:List bn).map bn.lf),.mvn 0],[0],[(1,0)],1⟩ (([]:List bn)))<|
 .stop
def avN(p_l:List bn):Option (List bn):=Mo.den (asM p_l)
theorem aov(p_l:List bn):FH (avN p_l) 159 [.lf (.rows 2 (p_l.map bn.lf)),.raw (.func (.func 160) #[] #[])] [] (fun _=>.own 0) (fun r=>[.row 149 2 (r.map bn.lf)]):=fH Tryz.func159
abbrev Ve(m:aP→Option (aP)):Prop:=∀p_e,FV (m p_e) 242 [.dat (aP.lf1 p_e)] (fun r=>.dat (aP.lf1 r))
abbrev aeB(m:(List aP)→Option (List aP)):Prop:=∀p_l,FH (m p_l) 295 [.lf (.rows 11 (p_l.map aP.lf)),.raw (.func (.func 242) #[] #[])] [] (fun r=>.lf (.rows 11 (r.map aP.lf))) (fun _=>[])
structure ako where
 m1:(p_e:aP)→Option (aP)
 ok1:Ve m1
 m2:(p_l:List aP)→Option (List aP)
 ok2:aeB m2
def akp(R_:ako)(p_e:aP):Mo (aP):=
 .cl (Iw p_e.cO) fun r0 _=>
 .cl (Iw p_e.eP) fun r1 _=>
 .cl (vK p_e.fArg) fun r2 _=>
 .cH [] (R_.ok2 p_e.bC) fun r3 _=>
 .ret (aS 1) (aP.mk p_e.fOp r0 p_e.fName r1 r2 p_e.fN r3)
theorem akq(R_:ako):Ve fun p_e=>Mo.den (akp R_ p_e):=fun _=>dA Tryz.func242
def akr(R_:ako)(p_l:List aP):Mo (List aP):=
 .nu p_l aP.lf<|
 .iB ((p_l.length:Int)==0) (.ret ⟨[.nil 0 11,.tod 0],[0],[],0⟩ ([]))<|
 .stop
theorem aks(R_:ako):aeB fun p_l=>Mo.den (akr R_ p_l):=fun _=>fH Tryz.func295
def FM:Nat→ako
 |0=>{ m1:=fun p_e=>none,ok1:=fun _ _ h=>(by cases h),m2:=fun p_l=>none,ok2:=fun _ _ h=>(by cases h) }
 |n_+1=>{ m1:=fun p_e=>Mo.den (akp (FM n_) p_e),ok1:=akq (FM n_),m2:=fun p_l=>Mo.den (akr (FM n_) p_l),ok2:=aks (FM n_) }
def avO(p_e:aP):Option (aP):=(FM FU).m1 p_e
theorem aow:Ve avO:=(FM FU).ok1
end
end Go.Proofs.YtflpefkohpjjpaaGreatDoor
set_option linter.unusedSimpArgs false
set_option linter.unusedVariables false
namespace Go.Proofs.YtflpefkohpjjpaaGreatDoor
open Go.RowKit
set_option maxRecDepth 20000
set_option maxHeartbeats 4000000
noncomputable section
abbrev Vf(m:aO→Option (aO)):Prop:=∀p_p,FV (m p_p) 161 [.dat (aO.lf1 p_p)] (fun r=>.dat (aO.lf1 r))
abbrev aeC(m:(List aO)→Option (List aO)):Prop:=∀p_l,FH (m p_l) 243 [.lf (.rows 25 (p_l.map aO.lf)),.raw (.func (.func 161) #[] #[])] [] (fun r=>.lf (.rows 25 (r.map aO.lf))) (fun _=>[])
structure akt where
 m1:(p_p:aO)→Option (aO)
 ok1:Vf m1
 m2:(p_l:List aO)→Option (List aO)
 ok2:aeC m2
def aku(R_:akt)(p_p:aO):Mo (aO):=
 .cl (Iw p_p.cO) fun r0 _=>
 .cl (vK p_p.fArg) fun r1 _=>
 .ask (auz p_p.fArgs) fun r2 h0=>
 .say [.kZ [] (.lf (.rows 5 (r2.map ah.lf))) [],.rows (p_p.dY.bF.map cu.lf)] (okc (aeA _ _ h0) (ok1 (by simp[cu.bf]:p_p.dY.bF.map cu.lf=[]++(p_p.dY.bF.map cu.lf))))<|
 .grd ((([]:List cu).length+p_p.dY.bF.length)*16≤140737488355328) fun h1=>
 .say [] (ok1 (cq_ cu.lf h1))<|
 .cl (aow p_p.fExpr) fun r3 _=>
 .ask (R_.m2 p_p.bC) fun r4 h2=>
 .say [.kZ [] (.lf (.rows 25 (r4.map aO.lf))) [],.at_ 0 0,.frz 2] (ok1 (R_.ok2 _ _ h2))<|
 .ret (aS 1) (aO.mk p_p.fOp r0 r1 r2 p_p.fN p_p.fM p_p.dY r3 r4)
theorem akv(R_:akt):Vf fun p_p=>Mo.den (aku R_ p_p):=fun _=>dA Tryz.func161
def akw(R_:akt)(p_l:List aO):Mo (List aO):=
 .nu p_l aO.lf<|
 .iB ((p_l.length:Int)==0) (.ret ⟨[.nil 0 25,.tod 0],[0],[],0⟩ ([]))<|
 .stop
theorem akx(R_:akt):aeC fun p_l=>Mo.den (akw R_ p_l):=fun _=>fH Tryz.func243
def FN:Nat→akt
 |0=>{ m1:=fun p_p=>none,ok1:=fun _ _ h=>(by cases h),m2:=fun p_l=>none,ok2:=fun _ _ h=>(by cases h) }
 |n_+1=>{ m1:=fun p_p=>Mo.den (aku (FN n_) p_p),ok1:=akv (FN n_),m2:=fun p_l=>Mo.den (akw (FN n_) p_l),ok2:=akx (FN n_) }
def auA(p_p:aO):Option (aO):=(FN FU).m1 p_p
theorem aox:Vf auA:=(FN FU).ok1
def asN(p_x:aQ):Mo (aQ):=
 .cH [] (aov p_x.gq) fun r0 _=>
 .ask (auA p_x.bG) fun r1 h0=>
 .say [.res (.dat (aO.lf1 r1)),.at_ 0 0,.frz 2] (ok1 (aox _ _ h0))<|
 .ret (aS 1) (aQ.aqv (aQ.atY p_x r0) r1)
def avP(p_x:aQ):Option (aQ):=Mo.den (asN p_x)
theorem aoy(p_x:aQ):FV (avP p_x) 103 [.dat (aQ.lf1 p_x)] (fun r=>.dat (aQ.lf1 r)):=dA Tryz.func103
def asO(p_l:List aQ):Mo (List aQ):=
 .nu p_l aQ.lf<|
 .iB ((p_l.length:Int)==0) (.say [] (ok1 (by simp[aQ.bf]:(([]:List aQ).map aQ.lf)=[]))<|
 .ret ⟨[.sQ 0 45 31,.mg 0 (([]:List aQ).map aQ.lf),.mvn 0],[0],[(1,0)],1⟩ (([]:List aQ)))<|
 .stop
def avQ(p_l:List aQ):Option (List aQ):=Mo.den (asO p_l)
theorem aoz(p_l:List aQ):FH (avQ p_l) 157 [.lf (.rows 31 (p_l.map aQ.lf)),.raw (.func (.func 103) #[] #[])] [] (fun _=>.own 0) (fun r=>[.row 45 31 (r.map aQ.lf)]):=fH Tryz.func157
abbrev Vg(m:aI→Option (aI)):Prop:=∀p_s,FV (m p_s) 158 [.dat (aI.lf1 p_s)] (fun r=>.dat (aI.lf1 r))
abbrev aeD(m:(List bH)→Option (List bH)):Prop:=∀p_l,FH (m p_l) 239 [.lf (.rows 22 (p_l.map bH.lf)),.raw (.func (.func 240) #[] #[])] [] (fun r=>.lf (.rows 22 (r.map bH.lf))) (fun _=>[])
abbrev aeE(m:(List aI)→Option (List aI)):Prop:=∀p_l,FH (m p_l) 241 [.lf (.rows 21 (p_l.map aI.lf)),.raw (.func (.func 158) #[] #[])] [] (fun r=>.lf (.rows 21 (r.map aI.lf))) (fun _=>[])
abbrev aeF(m:bH→Option (bH)):Prop:=∀p_p,FV (m p_p) 240 [.dat (bH.lf1 p_p)] (fun r=>.dat (bH.lf1 r))
structure Vh where
 m1:(p_s:aI)→Option (aI)
 ok1:Vg m1
 m2:(p_l:List bH)→Option (List bH)
 ok2:aeD m2
 m3:(p_l:List aI)→Option (List aI)
 ok3:aeE m3
 m4:(p_p:bH)→Option (bH)
 ok4:aeF m4
def aky(R_:Vh)(p_s:aI):Mo (aI):=
 .cl (vK p_s.kT) fun r0 _=>
 .cl (vK p_s.kU) fun r1 _=>
 .cH [] (aeA p_s.iV) fun r2 _=>
 .cl (Iw p_s.dZ) fun r3 _=>
 .cH [] (R_.ok2 p_s.dD) fun r4 _=>
 .cH [] (R_.ok3 p_s.eU) fun r5 _=>
 .ret (aS 1) (aI.mk p_s.iZ p_s.jE r0 p_s.jF r1 r2 p_s.jQ p_s.jR r3 r4 p_s.lX r5 p_s.gB)
theorem akz(R_:Vh):Vg fun p_s=>Mo.den (aky R_ p_s):=fun _=>dA Tryz.func158
def akA(R_:Vh)(p_l:List bH):Mo (List bH):=
 .nu p_l bH.lf<|
 .iB ((p_l.length:Int)==0) (.ret ⟨[.nil 0 22,.tod 0],[0],[],0⟩ ([]))<|
 .stop
theorem akB(R_:Vh):aeD fun p_l=>Mo.den (akA R_ p_l):=fun _=>fH Tryz.func239
def akC(R_:Vh)(p_l:List aI):Mo (List aI):=
 .nu p_l aI.lf<|
 .iB ((p_l.length:Int)==0) (.ret ⟨[.nil 0 21,.tod 0],[0],[],0⟩ ([]))<|
 .stop
theorem akD(R_:Vh):aeE fun p_l=>Mo.den (akC R_ p_l):=fun _=>fH Tryz.func241
def akE(R_:Vh)(p_p:bH):Mo (bH):=
 .say [.order [(true,0),(true,1),(true,2),(true,3),(false,4),(true,5),(false,6)] (some 6) []] ok0<|
 .cl (R_.ok1 p_p.aZ) fun r0 _=>
 .ret (aS 1) (bH.mk p_p.fName r0)
theorem akF(R_:Vh):aeF fun p_p=>Mo.den (akE R_ p_p):=fun _=>dA Tryz.func240
def sG:Nat→Vh
 |0=>{ m1:=fun p_s=>none,ok1:=fun _ _ h=>(by cases h),m2:=fun p_l=>none,ok2:=fun _ _ h=>(by cases h),m3:=fun p_l=>none,ok3:=fun _ _ h=>(by cases h),m4:=fun p_p=>none,ok4:=fun _ _ h=>(by cases h) }
 |n_+1=>{ m1:=fun p_s=>Mo.den (aky (sG n_) p_s),ok1:=akz (sG n_),m2:=fun p_l=>Mo.den (akA (sG n_) p_l),ok2:=akB (sG n_),m3:=fun p_l=>Mo.den (akC (sG n_) p_l),ok3:=akD (sG n_),m4:=fun p_p=>Mo.den (akE (sG n_) p_p),ok4:=akF (sG n_) }
def auB(p_s:aI):Option (aI):=(sG FU).m1 p_s
theorem aoA:Vg auB:=(sG FU).ok1
def asP(p_d:bU):Mo (bU):=
 .cH [] (aoz p_d.bM) fun r0 _=>
 .ask (auB p_d.aZ) fun r1 h0=>
 .say [.res (.dat (aI.lf1 r1)),.at_ 0 0,.frz 2] (ok1 (aoA _ _ h0))<|
 .ret (aS 1) (bU.mk p_d.fName r0 r1 p_d.lg p_d.jo)
def avR(p_d:bU):Option (bU):=Mo.den (asP p_d)
theorem aoB(p_d:bU):FV (avR p_d) 102 [.dat (bU.lf1 p_d)] (fun r=>.dat (bU.lf1 r)):=dA Tryz.func102
abbrev Vj(m:aG→Option (aG)):Prop:=∀p_w,FV (m p_w) 48 [.dat (aG.lf1 p_w)] (fun r=>.dat (aG.lf1 r))
abbrev aeG(m:(List aG)→Option (List aG)):Prop:=∀p_l,FH (m p_l) 47 [.lf (.rows 78 (p_l.map aG.lf)),.raw (.func (.func 48) #[] #[])] [] (fun r=>.lf (.rows 78 (r.map aG.lf))) (fun _=>[])
structure akG where
 m1:(p_w:aG)→Option (aG)
 ok1:Vj m1
 m2:(p_l:List aG)→Option (List aG)
 ok2:aeG m2
def akH(R_:akG)(p_w:aG):Mo (aG):=
 .cl (vK p_w.fU) fun r0 _=>
 .cl (vK p_w.aU) fun r1 _=>
 .cl (vK p_w.dK) fun r2 _=>
 .cl (aoB p_w.dS) fun r3 _=>
 .cl (aoy p_w.aY) fun r4 _=>
 .ask (R_.m2 p_w.bQ) fun r5 h0=>
 .say [.kZ [] (.lf (.rows 78 (r5.map aG.lf))) [],.rows (p_w.eG.map lfI),.at_ 0 0,.frz 2] (okc (R_.ok2 _ _ h0) (ok1 (by simp[lfI,lfK]:p_w.eG.map lfI=[]++(p_w.eG.map lfI))))<|
 .grd ((([]:List Int).length+p_w.eG.length)*8≤140737488355328) fun h1=>
 .say [] (ok1 (cq_ lfI h1))<|
 .ret (aS 1) (aG.mk p_w.aF p_w.gu r0 r1 r2 r3 r4 p_w.mM p_w.eu r5 p_w.eG p_w.gQ)
theorem akI(R_:akG):Vj fun p_w=>Mo.den (akH R_ p_w):=fun _=>dA Tryz.func48
def akJ(R_:akG)(p_l:List aG):Mo (List aG):=
 .nu p_l aG.lf<|
 .iB ((p_l.length:Int)==0) (.ret ⟨[.nil 0 78,.tod 0],[0],[],0⟩ ([]))<|
 .stop
theorem akK(R_:akG):aeG fun p_l=>Mo.den (akJ R_ p_l):=fun _=>fH Tryz.func47
def FP:Nat→akG
 |0=>{ m1:=fun p_w=>none,ok1:=fun _ _ h=>(by cases h),m2:=fun p_l=>none,ok2:=fun _ _ h=>(by cases h) }
 |n_+1=>{ m1:=fun p_w=>Mo.den (akH (FP n_) p_w),ok1:=akI (FP n_),m2:=fun p_l=>Mo.den (akJ (FP n_) p_l),ok2:=akK (FP n_) }
def auC(p_w:aG):Option (aG):=(FP FU).m1 p_w
theorem aoC:Vj auC:=(FP FU).ok1
def agF(p_w:aG):Mo (Bool):=
 .iG 8003 (decide ((2:Int)≤p_w.aF)) (.rt [1,16] 1 (decide ((p_w.aF:Int)≤7)))<|
 .stop
def asQ(p_w:aG):Mo (List aG):=
 .iB (p_w.aF==8) (.stop)<|
 .jk Tryz.f21 0 [1,1,0,0] 13 (fun r_=>⟨[(1,.ptr 0 0),(16,.b_ r_)],[dO p_w]⟩) ⟨[(1,.ptr 0 0)],[dO p_w]⟩ (agF p_w) fun r0=>
 .iB (r0) (.ask (auC p_w) fun r1 h0=>
 .say [.res (.dat (aG.lf1 r1)),.at_ 0 0,.MK 1 ([r1].map aG.lf)] (okc (aoC _ _ h0) (ok1 (by simp[aG.bf]:[r1].map aG.lf=[(aG.lf1 r1)])))<|
 .ret (aS 1) ([r1]))<|
 .stop
def auD(p_w:aG):Option (List aG):=Mo.den (asQ p_w)
theorem aoD(p_w:aG):FV (auD p_w) 21 [.dat (aG.lf1 p_w)] (fun r=>.lf (.rows 78 (r.map aG.lf))):=dA Tryz.func21
def asR(p_v:ah):Mo (Bool):=
 .iB (p_v.aF==0) (.stop)<|
 .cl (nY p_v) fun r0 _=>
 .ret (aS 1) (r0)
def avS(p_v:ah):Option (Bool):=Mo.den (asR p_v)
theorem aoE(p_v:ah):FV (avS p_v) 104 [.dat (ah.lf1 p_v)] .b_:=dA Tryz.func104
abbrev aeH(m:ah→Option (List Int)):Prop:=∀p_v,FH (m p_v) 105 [.raw (.slice none 0 0),.dat (ah.lf1 p_v)] [] (fun _=>.own 0) (fun r=>[.row 5 1 (r.map (lfK .u8))])
abbrev Vk(m:ah→(List Int)→Option (List Int)):Prop:=∀p_v p_s0,FH (m p_v p_s0) 105 [.own 0,.dat (ah.lf1 p_v)] [.row 5 1 (p_s0.map (lfK .u8))] (fun _=>.own 1) (fun r=>[.dead,.row 5 1 (r.map (lfK .u8))])
structure Hq where
 m1:(p_v:ah)→Option (List Int)
 ok1:aeH m1
 m2:(p_v:ah)→(p_s0:List Int)→Option (List Int)
 ok2:Vk m2
def acg(R_:Hq)(p_v:ah):Mo (((List Int))):=
 .stop
def akL(R_:Hq)(p_v:ah):Mo (List Int):=
 .say [.rows ([IntKind.wrap .u8 p_v.aF].map (lfK .u8))] (ok1 (by simp[lfI,lfK]:[IntKind.wrap .u8 p_v.aF].map (lfK .u8)=[]++[((lfK .u8) (IntKind.wrap .u8 p_v.aF))]))<|
 .grd ((([]:List Int).length+[IntKind.wrap .u8 p_v.aF].length)*1≤140737488355328) fun h0=>
 .say [] (ok1 (by first|(simp;done)|simpa using h0:(([]:List (List Lf)).length+[((lfK .u8) (IntKind.wrap .u8 p_v.aF))].length)*1≤140737488355328))<|
 .jy [.kill 1] Tryz.f105 0 [1,1,0,1] 6 (.normal) (fun r_=>⟨[(0,.own 2)],[.dead,.dead,.row 5 1 (r_.map (lfK .u8))]⟩) ⟨[(0,.own 2),(3,.ptr 0 0),(19,.i_ p_v.aF)],[aX p_v,.dead,.row 5 1 ([IntKind.wrap .u8 p_v.aF].map (lfK .u8))]⟩ (acg R_ p_v) fun r0=>
 .ret ⟨[.mvn 2],[0],[(3,0)],1⟩ (r0)
theorem akM(R_:Hq):aeH fun p_v=>Mo.den (akL R_ p_v):=fun _=>fH Tryz.func105
def akN(R_:Hq)(p_s0:List Int)(p_v:ah):Mo (Bool):=
 .iB (p_v.aF==3) (.rt [0,3,19,20] 4 (p_v.aF==3))<|
 .iB (p_v.aF==9) (.stop)<|
 .rt [0,3,19,20] 4 (p_v.aF==10)
def akO(R_:Hq)(p_v:ah):(Int×(List Int))→Mo ((Int×(List Int))⊕((List Int))):=fun(v0,l0)=>
 .iB (decide ((0:Int)≤v0)) (.say [.rows ((l0++[IntKind.wrap .u8 (Ah .u64 (gX .xor .u64 (IntKind.wrap .u64 p_v.fA) 9223372036854775808) v0)]).map (lfK .u8))] ok0<|
 .grd ((0:Int)≤v0) fun h0=>
 .say [] (okc h0 (ok1 (by simp[lfI,lfK]:(l0++[IntKind.wrap .u8 (Ah .u64 (gX .xor .u64 (IntKind.wrap .u64 p_v.fA) 9223372036854775808) v0)]).map (lfK .u8)=(l0.map (lfK .u8))++[((lfK .u8) (IntKind.wrap .u8 (Ah .u64 (gX .xor .u64 (IntKind.wrap .u64 p_v.fA) 9223372036854775808) v0)))])))<|
 .grd ((l0.length+[IntKind.wrap .u8 (Ah .u64 (gX .xor .u64 (IntKind.wrap .u64 p_v.fA) 9223372036854775808) v0)].length)*1≤140737488355328) fun h1=>
 .say [] (ok1 (by simpa using h1:((l0.map (lfK .u8)).length+[((lfK .u8) (IntKind.wrap .u8 (Ah .u64 (gX .xor .u64 (IntKind.wrap .u64 p_v.fA) 9223372036854775808) v0)))].length)*1≤140737488355328))<|
 .ret ⟨[],[0,5,6],[(5,3)],4⟩ (.inl (IntKind.wrap .i64 (v0-8),l0++[IntKind.wrap .u8 (Ah .u64 (gX .xor .u64 (IntKind.wrap .u64 p_v.fA) 9223372036854775808) v0)])))<|
 .rt [0] 4 (.inr (l0))
def agG(R_:Hq)(p_s0:List Int)(p_v:ah):Mo (Bool):=
 .iB (p_v.aF==4) (.rt [0,3,19,39] 4 (p_v.aF==4))<|
 .stop
def agH(R_:Hq)(l0:List Int)(p_v:ah)(v0:Int):Mo (((List Int))):=
 .ask (kN p_v.fText v0) fun b0 h0=>
 .say [.byt b0,.rows ((l0++[(b0.toNat:Int)]).map (lfK .u8))] (okc (fQ h0) (ok1 (by simp[lfI,lfK]:(l0++[(b0.toNat:Int)]).map (lfK .u8)=(l0.map (lfK .u8))++[((lfK .u8) (b0.toNat:Int))])))<|
 .grd ((l0.length+[(b0.toNat:Int)].length)*1≤140737488355328) fun h1=>
 .say [] (ok1 (by simpa using h1:((l0.map (lfK .u8)).length+[((lfK .u8) (b0.toNat:Int))].length)*1≤140737488355328))<|
 .ask (kN p_v.fText v0) fun b1 h2=>
 .say [.byt b1] (ok1 (fQ h2))<|
 .iB ((b1.toNat:Int)==0) (.stop)<|
 .ret ⟨[],[0,3,45,46],[(5,3)],4⟩ (l0++[(b0.toNat:Int)])
def agI(R_:Hq)(p_v:ah):(Int×(List Int))→Mo ((Int×(List Int))⊕((List Int))):=fun(v0,l0)=>
 .iB (decide ((v0:Int)<(p_v.fText.size:Int))) (.jk Tryz.f105 1 [1,1,0,1,0,1,1,1,0,0,1,0,0,1,1,0] 14 (fun r_=>⟨[(0,.own 3),(3,.ptr 1 0),(45,.i_ (p_v.fText.size:Int)),(46,.i_ v0)],[.dead,aX p_v,.dead,.row 5 1 (r_.map (lfK .u8))]⟩) ⟨[(0,.own 3),(3,.ptr 1 0),(45,.i_ (p_v.fText.size:Int)),(46,.i_ v0)],[.dead,aX p_v,.dead,.row 5 1 (l0.map (lfK .u8))]⟩ (agH R_ l0 p_v v0) fun r0=>
 .rt [0,3,45,46] 4 (.inl (IntKind.wrap .i64 (v0+1),r0)))<|
 .ret ⟨[.kill 1],[0],[],4⟩ (.inr (l0))
def agJ(R_:Hq)(p_s0:List Int)(p_v:ah):Mo (((List Int))):=
 .jk Tryz.f105 1 [1,1,0,1,0,0,1] 1 (fun r_=>⟨[(0,.own 3),(3,.ptr 1 0),(19,.i_ p_v.aF),(20,.b_ r_)],[.dead,aX p_v,.dead,.row 5 1 ((p_s0++[IntKind.wrap .u8 p_v.aF]).map (lfK .u8))]⟩) ⟨[(0,.own 3),(3,.ptr 1 0),(19,.i_ p_v.aF),(20,.lf (.bool (p_v.aF==3)))],[.dead,aX p_v,.dead,.row 5 1 ((p_s0++[IntKind.wrap .u8 p_v.aF]).map (lfK .u8))]⟩ (akN R_ p_s0 p_v) fun r0=>
 .iB (r0) (.l1y [.kill 1] Tryz.f105 1 [1,1,0,1,0,1,0,1,1,0] 0 (.exit 1) (fun(v0,l0)=>⟨[(0,.own 3),(5,.lf (.int .u64 (gX .xor .u64 (IntKind.wrap .u64 p_v.fA) 9223372036854775808))),(6,.i_ v0)],[.dead,.dead,.dead,.row 5 1 (l0.map (lfK .u8))]⟩) (fun r_=>⟨[(0,.own 3)],[.dead,.dead,.dead,.row 5 1 (r_.map (lfK .u8))]⟩) (akO R_ p_v) (56,(p_s0++[IntKind.wrap .u8 p_v.aF])) fun r1=>
 .rt [0] 4 (r1))<|
 .jk Tryz.f105 1 [1,1,0,1,0,1,1,0,1] 1 (fun r_=>⟨[(0,.own 3),(3,.ptr 1 0),(19,.i_ p_v.aF),(39,.b_ r_)],[.dead,aX p_v,.dead,.row 5 1 ((p_s0++[IntKind.wrap .u8 p_v.aF]).map (lfK .u8))]⟩) ⟨[(0,.own 3),(3,.ptr 1 0),(19,.i_ p_v.aF),(39,.lf (.bool (p_v.aF==4)))],[.dead,aX p_v,.dead,.row 5 1 ((p_s0++[IntKind.wrap .u8 p_v.aF]).map (lfK .u8))]⟩ (agG R_ p_s0 p_v) fun r2=>
 .iB (r2) (.l1 Tryz.f105 1 [1,1,0,1,0,1,1,1,0,0,1,0] 0 (.exit 3) (fun(v1,l2)=>⟨[(0,.own 3),(3,.ptr 1 0),(45,.i_ (p_v.fText.size:Int)),(46,.i_ v1)],[.dead,aX p_v,.dead,.row 5 1 (l2.map (lfK .u8))]⟩) (fun r_=>⟨[(0,.own 3)],[.dead,.dead,.dead,.row 5 1 (r_.map (lfK .u8))]⟩) (agI R_ p_v) (0,(p_s0++[IntKind.wrap .u8 p_v.aF])) fun r3=>
 .say [.rows ((r3++[(0:Int),(0:Int)]).map (lfK .u8))] (ok1 (by simp[lfI,lfK]:(r3++[(0:Int),(0:Int)]).map (lfK .u8)=(r3.map (lfK .u8))++[((lfK .u8) (0:Int)),((lfK .u8) (0:Int))]))<|
 .grd ((r3.length+[(0:Int),(0:Int)].length)*1≤140737488355328) fun h0=>
 .say [] (ok1 (by simpa using h0:((r3.map (lfK .u8)).length+[((lfK .u8) (0:Int)),((lfK .u8) (0:Int))].length)*1≤140737488355328))<|
 .ret ⟨[],[0],[(5,3)],4⟩ (r3++[(0:Int),(0:Int)]))<|
 .stop
def apM(R_:Hq)(p_v:ah)(p_s0:List Int):Mo (List Int):=
 .say [.rows ((p_s0++[IntKind.wrap .u8 p_v.aF]).map (lfK .u8))] (ok1 (by simp[lfI,lfK]:(p_s0++[IntKind.wrap .u8 p_v.aF]).map (lfK .u8)=(p_s0.map (lfK .u8))++[((lfK .u8) (IntKind.wrap .u8 p_v.aF))]))<|
 .grd ((p_s0.length+[IntKind.wrap .u8 p_v.aF].length)*1≤140737488355328) fun h0=>
 .say [] (ok1 (by simpa using h0:((p_s0.map (lfK .u8)).length+[((lfK .u8) (IntKind.wrap .u8 p_v.aF))].length)*1≤140737488355328))<|
 .jy [.kill 2] Tryz.f105 1 [1,1,0,1] 6 (.normal) (fun r_=>⟨[(0,.own 3)],[.dead,.dead,.dead,.row 5 1 (r_.map (lfK .u8))]⟩) ⟨[(0,.own 3),(3,.ptr 1 0),(19,.i_ p_v.aF)],[.dead,aX p_v,.dead,.row 5 1 ((p_s0++[IntKind.wrap .u8 p_v.aF]).map (lfK .u8))]⟩ (agJ R_ p_s0 p_v) fun r0=>
 .ret ⟨[.mvn 3],[0],[(4,1)],2⟩ (r0)
theorem aoF(R_:Hq):Vk fun p_v p_s0=>Mo.den (apM R_ p_v p_s0):=fun _ _=>fH Tryz.func105
def FQ:Nat→Hq
 |0=>{ m1:=fun p_v=>none,ok1:=fun _ _ h=>(by cases h),m2:=fun p_v p_s0=>none,ok2:=fun _ _ _ h=>(by cases h) }
 |n_+1=>{ m1:=fun p_v=>Mo.den (akL (FQ n_) p_v),ok1:=akM (FQ n_),m2:=fun p_v p_s0=>Mo.den (apM (FQ n_) p_v p_s0),ok2:=aoF (FQ n_) }
def Q65(p_v:ah)(p_s0:List Int):Option (List Int):=(FQ FU).m2 p_v p_s0
theorem asU:Vk Q65:=(FQ FU).ok2
def Yw(l0:List Int)(p_desc:List Bool)(p_l:List ah)(v0:Int):Mo (Unit⊕((List Int))):=
 .gx ah.bf p_l v0 fun x0 _=>
 .cl (aoE x0) fun r0 _=>
 .iB (!r0) (.stop)<|
 .say [.num l0.length,.at_ 22 2,.tod 29] (ok1 (by simp:l0.length=(l0.map (lfK .u8)).length))<|
 .cH [0] (asU x0 l0) fun r1 _=>
 .ask (lG p_desc v0) fun x1 h0=>
 .say [.row (lfB x1)] (ok1 (gZ (fun _=>rfl) h0:(0:Int)≤v0∧(p_desc.map lfB)[v0.toNat]?=some (lfB x1)))<|
 .iB (x1) (.stop)<|
 .ret ⟨[.kill 1],[1,6,16,17,18],[(2,0)],3⟩ (.inr (r1))
def akP(l0:List Int)(p_desc:List Bool)(p_l:List ah)(v0:Int):Option (Unit⊕((List Int))):=Mo.den (Yw l0 p_desc p_l v0)
def KT(r_:Unit⊕((List Int))):Exit:=match r_ with
 |.inl o_=>.ret
 |.inr (o_)=>.normal
def KU(p_desc:List Bool)(p_l:List ah)(v0:Int)(r_:Unit⊕((List Int))):St:=match r_ with
 |.inl o_=>⟨[(4,.lf (.str ⟨#[]⟩)),(5,.i_ 8)],[.dead]⟩
 |.inr (o_)=>⟨[(1,.lf (.rows 1 (p_desc.map lfB))),(6,.own 0),(16,.lf (.rows 5 (p_l.map ah.lf))),(17,.i_ (p_l.length:Int)),(18,.i_ v0)],[.row 5 1 (o_.map (lfK .u8)),.dead,.dead]⟩
theorem akQ{l0:List Int}{p_desc:List Bool}{p_l:List ah}{v0:Int}{r_:Unit⊕((List Int))}(h:akP l0 p_desc p_l v0=some r_):MW Tryz.f50 0 [1,1,1,0,1,0,0,1,1,0] (KT r_) (KU p_desc p_l v0 r_) ⟨[(1,.lf (.rows 1 (p_desc.map lfB))),(6,.own 0),(16,.lf (.rows 5 (p_l.map ah.lf))),(17,.i_ (p_l.length:Int)),(18,.i_ v0)],[.row 5 1 (l0.map (lfK .u8))]⟩:=
 EJ wo (Yw l0 p_desc p_l v0) KT (KU p_desc p_l v0) (by kernel_rfl) h
def Qc(p_desc:List Bool)(p_l:List ah):(Int×(List Int))→Mo ((Int×(List Int))⊕(Unit⊕((List Int)))):=fun(v0,l0)=>
 .iB (decide ((v0:Int)<(p_l.length:Int))) (.kM (akP l0 p_desc p_l v0) (fun _ _=>
 .stop) fun o0 h0=>
 .say [.pt_ 8 [1,6,16,17,18] 1 (KT (.inr (o0))) (KU p_desc p_l v0 (.inr (o0)))] (ok1 (akQ h0))<|
 .rt [1,6,16,17,18] 1 (.inl (IntKind.wrap .i64 (v0+1),o0)))<|
 .rt [6] 1 (.inr (.inr (l0)))
def aeI(p_desc:List Bool)(p_l:List ah)(v0:Int)(l0:List Int):Option (Unit⊕((List Int))):=bW (fun v_=>(Qc p_desc p_l v_).den) FU (v0,l0)
def Qd(p_desc:List Bool)(p_l:List ah):(Int×(List Int))→St:=fun(v0,l0)=>⟨[(1,.lf (.rows 1 (p_desc.map lfB))),(6,.own 0),(16,.lf (.rows 5 (p_l.map ah.lf))),(17,.i_ (p_l.length:Int)),(18,.i_ v0)],[.row 5 1 (l0.map (lfK .u8))]⟩
def FT(r_:Unit⊕((List Int))):Exit:=match r_ with
 |.inl o_=>.ret
 |.inr (o_)=>.exit 0
def yZ  (r_:Unit⊕((List Int))):St:=match r_ with
 |.inl o_=>⟨[(4,.lf (.str ⟨#[]⟩)),(5,.i_ 8)],[.dead]⟩
 |.inr (o_)=>⟨[(6,.own 0)],[.row 5 1 (o_.map (lfK .u8))]⟩
theorem agK{p_desc:List Bool}{p_l:List ah}{v0:Int}{l0:List Int}{r_:Unit⊕((List Int))}(h:aeI p_desc p_l v0 l0=some r_):MW Tryz.f50 0 [1,1,1,0,1,0] (FT r_) (yZ r_) (Qd p_desc p_l (v0,l0)):=
 aaz wo (body:=(Code.sub (bodyC Tryz.f50) [1,1,1,0,1,0,0])) (by kernel_rfl) (Qc p_desc p_l) (Qd p_desc p_l) FT yZ (fun r_=>by rcases r_ with _|_<;>rfl) (fun v_=>by kernel_rfl) h
def auE(p_l:List ah)(p_desc:List Bool):Mo (ByteArray×Int):=
 .nu p_l ah.lf<|
 .nu p_desc lfB<|
 .iB ((p_l.length:Int) != (p_desc.length:Int)) (.stop)<|
 .say [.num p_l.length] (okc (ln_ p_l ah.lf) (ok1 (by simp[lfI,lfK]:(([]:List Int).map (lfK .u8))=[])))<|
 .kM (aeI p_desc p_l 0 ([]:List Int)) (fun _ _=>
 .stop) fun o0 h0=>
 .say [.part [.sQ 6 5 1,.mg 0 (([]:List Int).map (lfK .u8))] 0 [1,6,16,17,18] 1 (FT (.inr (o0))) (yZ (.inr (o0))).T (yZ (.inr (o0))).H,.nums o0] (okc (agK h0) (ok1 (by simp[lfI,lfK]:(o0.map (lfK .u8))=o0.map fun n=>[Lf.int .u8 n])))<|
 .ret (aS 2) (strOfNums o0,0)
def Q36(p_l:List ah)(p_desc:List Bool):Option (ByteArray×Int):=Mo.den (auE p_l p_desc)
theorem asW(p_l:List ah)(p_desc:List Bool):FV (Q36 p_l p_desc) 50 [.lf (.rows 5 (p_l.map ah.lf)),.lf (.rows 1 (p_desc.map lfB))] (fun r=>.tup [.lf (.str r.1),.i_ r.2]):=dA Tryz.func50
def agL(p_w:aG):Mo (Bool):=
 .iG 6003 (p_w.aF==8) (.stop)<|
 .rt [1,3,19] 2 (p_w.aF==9)
def agM(p_w:aG)(r0:Bool):Mo (((List aG))):=
 .iB (r0) (.stop)<|
 .say [] (ok1 (by simp[aG.bf]:[p_w].map aG.lf=[(aG.lf1 p_w)]))<|
 .ret ⟨[.MK 1 ([p_w].map aG.lf),.kill 0],[3],[],2⟩ ([p_w])
def ach(l0:List ByteArray)(r0:((List aG)))(v0:Int)(x0:aG):Mo (Bool):=
 .iG 18003 (x0.aF != 2) (.stop)<|
 .rt [4,6,22,23,24,35] 4 (false)
def aci(l0:List ByteArray)(r0:((List aG)))(v0:Int):Mo (((List ByteArray))):=
 .gx aG.bf r0 v0 fun x0 _=>
 .jk Tryz.f24 0 [1,1,1,1,0,1,0,0,1,1,0,0,1,0,0] 23 (fun r_=>⟨[(4,.own 2),(6,.ptr 3 0),(22,.lf (.rows 78 (r0.map aG.lf))),(23,.i_ (r0.length:Int)),(24,.i_ v0),(35,.b_ r_)],[.dead,.dead,.row 9 1 (l0.map lfS),.box 49 (.agg ((aG.lf1 x0).map AV.lf))]⟩) ⟨[(4,.own 2),(6,.ptr 3 0),(22,.lf (.rows 78 (r0.map aG.lf))),(23,.i_ (r0.length:Int)),(24,.i_ v0)],[.dead,.dead,.row 9 1 (l0.map lfS),.box 49 (.agg ((aG.lf1 x0).map AV.lf))]⟩ (ach l0 r0 v0 x0) fun r1=>
 .iB (r1) (.stop)<|
 .say [.at_ 22 5,.MK 5 ([ah.mk 4 0 x0.gu [] [],x0.fU].map ah.lf),.MK 6 ([false,false].map lfB)] (okc (by simp[ah.bf]:[ah.mk 4 0 x0.gu [] [],x0.fU].map ah.lf=[(ah.lf1 (ah.mk 4 0 x0.gu [] [])),(ah.lf1 x0.fU)]) (ok1 (by simp[lfB]:[false,false].map lfB=[(lfB false),(lfB false)])))<|
 .cl (asW [ah.mk 4 0 x0.gu [] [],x0.fU] [false,false]) fun r2 _=>
 .iB (r2.2==0) (.say [.rows ((l0++[r2.1]).map lfS)] (ok1 (by simp[lfS]:(l0++[r2.1]).map lfS=(l0.map lfS)++[(lfS r2.1)]))<|
 .grd ((l0.length+[r2.1].length)*16≤140737488355328) fun h0=>
 .say [] (ok1 (cp_ lfS h0))<|
 .ret ⟨[],[4,22,23,24],[(8,2)],3⟩ (l0++[r2.1]))<|
 .stop
def acj(r0:((List aG))):(Int×(List ByteArray))→Mo ((Int×(List ByteArray))⊕((List ByteArray))):=fun(v0,l0)=>
 .iB (decide ((v0:Int)<(r0.length:Int))) (.jk Tryz.f24 0 [1,1,1,1,0,1,0,0,1,1,0] 8 (fun r_=>⟨[(4,.own 2),(22,.lf (.rows 78 (r0.map aG.lf))),(23,.i_ (r0.length:Int)),(24,.i_ v0)],[.dead,.dead,.row 9 1 (r_.map lfS)]⟩) ⟨[(4,.own 2),(22,.lf (.rows 78 (r0.map aG.lf))),(23,.i_ (r0.length:Int)),(24,.i_ v0)],[.dead,.dead,.row 9 1 (l0.map lfS)]⟩ (aci l0 r0 v0) fun r1=>
 .rt [4,22,23,24] 3 (.inl (IntKind.wrap .i64 (v0+1),r1)))<|
 .rt [4] 3 (.inr (l0))
def asX(p_w:aG):Mo (List ByteArray):=
 .jk Tryz.f24 0 [1,1,0,0] 11 (fun r_=>⟨[(1,.ptr 0 0),(3,.own 1),(19,.b_ r_)],[dO p_w,.row 49 78 [(aG.lf1 p_w)]]⟩) ⟨[(1,.ptr 0 0),(3,.own 1)],[dO p_w,.row 49 78 [(aG.lf1 p_w)]]⟩ (agL p_w) fun r0=>
 .jk Tryz.f24 0 [1,1,0,1] 1 (fun r_=>⟨[(3,.lf (.rows 78 (r_.map aG.lf)))],[.dead,.dead]⟩) ⟨[(1,.ptr 0 0),(3,.own 1),(19,.b_ r0)],[dO p_w,.row 49 78 [(aG.lf1 p_w)]]⟩ (agM p_w r0) fun r1=>
 .say [.num r1.length] (okc (ln_ r1 aG.lf) (ok1 (by simp[lfS]:(([]:List ByteArray).map lfS)=[])))<|
 .l1y [.sQ 4 9 1,.mg 2 (([]:List ByteArray).map lfS)] Tryz.f24 0 [1,1,1,1,0,1,0] 0 (.exit 0) (fun(v0,l0)=>⟨[(4,.own 2),(22,.lf (.rows 78 (r1.map aG.lf))),(23,.i_ (r1.length:Int)),(24,.i_ v0)],[.dead,.dead,.row 9 1 (l0.map lfS)]⟩) (fun r_=>⟨[(4,.own 2)],[.dead,.dead,.row 9 1 (r_.map lfS)]⟩) (acj r1) (0,([]:List ByteArray)) fun r2=>
 .cH [2] (ams r2) fun r3 _=>
 .ask (aua r3) fun r4 h0=>
 .say [.kZ [2] (.own 1) [.dead,.row 9 1 (r4.map lfS)],.at_ 0 0,.frz 3] (ok1 (amu _ _ h0))<|
 .ret (aS 1) (r4)
def auF(p_w:aG):Option (List ByteArray):=Mo.den (asX p_w)
theorem aoG(p_w:aG):FV (auF p_w) 24 [.dat (aG.lf1 p_w)] (fun r=>.lf (.rows 1 (r.map lfS))):=dA Tryz.func24
def agN(p_a:bY)(p_b:bY):Mo (Bool):=
 .iG 4005 (decide ((p_b.BQ:Int)<p_a.BQ)) (.stop)<|
 .iG 4011 (p_a.BQ==p_b.BQ) (.ret ⟨[.kill 0,.kill 1],[4,23],[],2⟩ (decide ((p_b.eu:Int)≤p_a.eu)))<|
 .stop
def agO(r0:Bool):Mo (Unit):=
 .rt [4] 2 ()
def asY(p_a:bY)(p_b:bY):Mo (Bool):=
 .sk Tryz.f19 0 [1,0] 0 19 1 (fun r_=>⟨[(4,.b_ false),(23,.b_ r_)],[.dead,.dead]⟩) ⟨[(2,.ptr 0 0),(3,.ptr 1 0),(4,.b_ false)],[jI p_a,jI p_b]⟩ (agN p_a p_b) fun r0=>
 .sk Tryz.f19 0 [1,0] 19 1 1 (fun r_=>⟨[(4,.b_ r0)],[.dead,.dead]⟩) ⟨[(4,.b_ false),(23,.b_ r0)],[.dead,.dead]⟩ (agO r0) fun r1=>
 .ret (aS 1) (r0)
def avT(p_a:bY)(p_b:bY):Option (Bool):=Mo.den (asY p_a p_b)
theorem aeJ(p_a:bY)(p_b:bY):FV (avT p_a p_b) 19 [.dat (bY.lf1 p_a),.dat (bY.lf1 p_b)] .b_:=dA Tryz.func19
theorem avU:Tc (opsOf (Code.sub (bodyC Tryz.f13) [1,1,1,1,1,1,0])) [(true,0),(false,1),(true,2),(true,3),(false,4),(false,5),(true,6),(true,7),(true,8),(true,9),(false,10),(true,11),(true,12),(true,13),(true,14),(true,15),(true,16),(true,17),(true,18),(true,19),(true,20),(true,21),(true,22),(true,23),(true,24),(true,25),(true,26),(true,27),(false,28),(true,29),(true,30),(true,31),(true,32),(true,33),(true,34),(true,35),(true,36),(true,37),(true,38),(true,39),(true,40),(false,41),(true,42),(true,43),(true,44),(true,45),(true,46),(false,47),(true,48),(true,49),(true,50),(true,51),(true,52),(true,53),(false,54),(true,55),(true,56),(true,57),(true,58),(true,59),(true,60),(false,61),(true,62),(true,63),(true,65),(false,64),(false,66),(true,67),(true,68),(true,69)] none=true:=by kernel_rfl
def asZ :Mo (Bool):=
 .cl (TW 5 1 1) fun r0 _=>
 .cl (UG r0) fun r1 _=>
 .cl (aei r1.1) fun r2 _=>
 .cl (aei ⟨#[]⟩) fun r3 _=>
 .ask (auq (bY.mk 1 5 ⟨#[]⟩ 0 (aG.GL aG.z 1))) fun r4 h0=>
 .say [.res (.tup [.lf (.str r4.1),.i_ r4.2]),.Ag [(true,0),(false,1),(true,2),(true,3),(false,4),(false,5),(true,6),(true,7),(true,8),(true,9),(false,10),(true,11),(true,12),(true,13),(true,14),(true,15),(true,16),(true,17),(true,18),(true,19),(true,20),(true,21),(true,22),(true,23),(true,24),(true,25),(true,26),(true,27),(false,28),(true,29),(true,30),(true,31),(true,32),(true,33),(true,34),(true,35),(true,36),(true,37),(true,38),(true,39),(true,40),(false,41),(true,42),(true,43),(true,44),(true,45),(true,46),(false,47),(true,48),(true,49),(true,50),(true,51),(true,52),(true,53),(false,54),(true,55),(true,56),(true,57),(true,58),(true,59),(true,60),(false,61),(true,62),(true,63),(true,65),(false,64),(false,66),(true,67),(true,68),(true,69)] none []] (okc (UG _ _ h0) (ok1 avU))<|
 .cl (vk r0) fun r5 _=>
 .iG 14003 (r5==0) (.cl (TW 5 2 1) fun r6 _=>
 .cl (vk r6) fun r7 _=>
 .iG 14008 (r7==8) (.cl (vk (bY.mk (-1) 0 ⟨#[]⟩ 0 aG.z)) fun r8 _=>
 .iG 14013 (r8==24) (.iG 14017 (r1.2==0) (.iG 14021 (r2.2==0) (.iG 14025 (r3.2==4) (.cl (aou r2.1 r0) fun r9 _=>
 .iG 14030 (r9) (.iG 14034 (r4.2==0) (.iG 14039 (decide ((5:Int)<(r4.1.size:Int))) (.grd ((0:Int)≤0∧(0:Int)≤5∧5≤(r4.1.size:Int)) fun h1=>
 .say [] (ok1 h1)<|
 .iG 14044 (decide ((r4.1.extract (0:Int).toNat (5:Int).toNat:ByteArray)=(⟨#[2,10,0,0,2]⟩:ByteArray))) (.ask (auD r0.dI) fun r10 h2=>
 .say [.res (.lf (.rows 78 (r10.map aG.lf))),.num r10.length] (okc (aoD _ _ h2) (ok1 (ln_ r10 aG.lf)))<|
 .iG 14051 ((r10.length:Int)==1) (.ask (auF r0.dI) fun r11 h3=>
 .say [.res (.lf (.rows 1 (r11.map lfS))),.num r11.length] (okc (aoG _ _ h3) (ok1 (ln_ r11 lfS)))<|
 .iG 14058 ((r11.length:Int)==1) (.cl (aeJ r0 r0) fun r12 _=>
 .iG 14063 (r12) (.cl (TW 4 1 1) fun r13 _=>
 .cl (aeJ r13 r0) fun r14 _=>
 .ret (aS 1) (!r14))<|
 .stop)<|
 .stop)<|
 .stop)<|
 .stop)<|
 .stop)<|
 .stop)<|
 .stop)<|
 .stop)<|
 .stop)<|
 .stop)<|
 .stop)<|
 .stop)<|
 .stop
def as1 :Option (Bool):=Mo.den (asZ )
theorem Vl:FV (as1 ) 13 [] .b_:=dA Tryz.func13
def akR(p_w:aG):Mo (Bool):=
 .nu p_w.bQ aG.lf<|
 .ret (aS 1) (decide ((300:Int)<(p_w.bQ.length:Int)))
def auG(p_w:aG):Option (Bool):=Mo.den (akR p_w)
theorem aoH(p_w:aG):FV (auG p_w) 28 [.dat (aG.lf1 p_w)] .b_:=dA Tryz.func28
def Dz(p_s:List aG):(Int)→Mo ((Int)⊕(Int)⊕Unit):=fun(v0)=>
 .iB (decide ((v0:Int)<(p_s.length:Int))) (.gx aG.bf p_s v0 fun x0 _=>
 .cl (aoH x0) fun r0 _=>
 .iB (r0) (.rt [4] 0 (.inr (.inl (v0))))<|
 .rt [0,1,7,8] 0 (.inl (IntKind.wrap .i64 (v0+1))))<|
 .rt [] 0 (.inr (.inr (())))
def acn(p_s:List aG)(v0:Int):Option ((Int)⊕Unit):=bW (fun v_=>(Dz p_s v_).den) FU (v0)
def apN(p_s:List aG):Mo (Int):=
 .nu p_s aG.lf<|
 .l2m [] Tryz.f55 0 [1,0,1,0] 0 (fun(v0)=>⟨[(0,.lf (.rows 78 (p_s.map aG.lf))),(1,.raw (.func (.func 28) #[] #[])),(7,.i_ (p_s.length:Int)),(8,.i_ v0)],[]⟩) .ret (fun o_=>⟨[(4,.i_ o_)],[]⟩) (.exit 0) (fun _=>⟨[],[]⟩) (acn p_s 0) (Dz p_s) (0) (fun o0=>
 .rt [0] 0 (o0)) fun o1=>
 .rt [0] 0 ((-1))
def Q64(p_s:List aG):Option (Int):=Mo.den (apN p_s)
theorem as2(p_s:List aG):FH (Q64 p_s) 55 [.lf (.rows 78 (p_s.map aG.lf)),.raw (.func (.func 28) #[] #[])] [] .i_ (fun _=>[]):=fH Tryz.func55
def akS(p_s:List aG):Mo (Bool):=
 .cH [] (as2 p_s) fun r0 _=>
 .rt [0] 0 (decide ((0:Int)≤r0))
def auH(p_s:List aG):Option (Bool):=Mo.den (akS p_s)
theorem aoI(p_s:List aG):FH (auH p_s) 27 [.lf (.rows 78 (p_s.map aG.lf)),.raw (.func (.func 28) #[] #[])] [] .b_ (fun _=>[]):=fH Tryz.func27
def akT(p_e:bY):Mo (Bool):=
 .nu p_e.dI.bQ aG.lf<|
 .iG 4005 (decide (((p_e.dI.bQ.length:Int):Int)≤300)) (.cH [] (aoI p_e.dI.bQ) fun r0 _=>
 .ret (aS 1) (!r0))<|
 .ret (aS 1) (false)
def aoJ(p_e:bY):Option (Bool):=Mo.den (akT p_e)
theorem aoK(p_e:bY):FV (aoJ p_e) 10 [.dat (bY.lf1 p_e)] .b_:=dA Tryz.func10
def Yx(p_p:List ByteArray):Mo (Bool):=
 .nu p_p lfS<|
 .iG 4003 (decide (((p_p.length:Int):Int)<1)) (.rt [0,11] 0 (true))<|
 .nu p_p lfS<|
 .rt [0,11] 0 (decide ((16:Int)<(p_p.length:Int)))
def Yy(p_p:List ByteArray):(Int)→Mo ((Int)⊕(Unit⊕Unit)):=fun(v0)=>
 .nu p_p lfS<|
 .iB (decide ((v0:Int)<(p_p.length:Int))) (.gx lS_ p_p v0 fun x0 _=>
 .cl (AX x0) fun r0 _=>
 .iB (!r0) (.rt [2] 0 (.inr (.inl ())))<|
 .rt [0,3] 0 (.inl (IntKind.wrap .i64 (v0+1))))<|
 .rt [] 0 (.inr (.inr (())))
def apO(p_p:List ByteArray):Mo (Bool):=
 .jk Tryz.f63 0 [1,0,0] 9 (fun r_=>⟨[(0,.lf (.rows 1 (p_p.map lfS))),(11,.b_ r_)],[]⟩) ⟨[(0,.lf (.rows 1 (p_p.map lfS)))],[]⟩ (Yx p_p) fun r0=>
 .iB (r0) (.ret (aS 1) (false))<|
 .l2 Tryz.f63 0 [1,1,0,1,0] 0 (fun(v0)=>⟨[(0,.lf (.rows 1 (p_p.map lfS))),(3,.i_ v0)],[]⟩) .ret (fun _=>⟨[(2,.b_ false)],[]⟩) (.exit 0) (fun _=>⟨[],[]⟩) (Yy p_p) (0) (fun o0=>
 .ret (aS 1) (false)) fun o1=>
 .ret (aS 1) (true)
def Q86(p_p:List ByteArray):Option (Bool):=Mo.den (apO p_p)
theorem KW(p_p:List ByteArray):FV (Q86 p_p) 63 [.lf (.rows 1 (p_p.map lfS))] .b_:=dA Tryz.func63
def akU(p_s:ByteArray):Mo (Bool):=
 .say [.at_ 4 2,.MK 0 ([p_s].map lfS)] (ok1 (by simp[lfS]:[p_s].map lfS=[(lfS p_s)]))<|
 .cl (KW [p_s]) fun r0 _=>
 .ret (aS 1) (r0)
def as3(p_s:ByteArray):Option (Bool):=Mo.den (akU p_s)
theorem Iy(p_s:ByteArray):FV (as3 p_s) 31 [.lf (.str p_s)] .b_:=dA Tryz.func31
def Vm(p_kind:Int):Mo (Bool):=
 .iG 4002 (decide ((2:Int)≤p_kind)) (.ret (aS 1) (decide ((p_kind:Int)≤7)))<|
 .ret (aS 1) (false)
def aoL(p_kind:Int):Option (Bool):=Mo.den (Vm p_kind)
theorem aoM(p_kind:Int):FV (aoL p_kind) 49 [.i_ p_kind] .b_:=dA Tryz.func49
def Vo(p_kind:Int):Mo (Bool):=
 .cl (aoM p_kind) fun r0 _=>
 .iG 4002 (r0) (.ret (aS 1) (p_kind != 4))<|
 .ret (aS 1) (false)
def aoN(p_kind:Int):Option (Bool):=Mo.den (Vo p_kind)
theorem aeK(p_kind:Int):FV (aoN p_kind) 66 [.i_ p_kind] .b_:=dA Tryz.func66
def Vp(p_kind:Int):Mo (Bool):=
 .iG 4002 (p_kind==2) (.ret (aS 1) (true))<|
 .ret (aS 1) (p_kind==3)
def aoO(p_kind:Int):Option (Bool):=Mo.den (Vp p_kind)
theorem Vq(p_kind:Int):FV (aoO p_kind) 53 [.i_ p_kind] .b_:=dA Tryz.func53
def Qe(p_d:bU):Mo (Bool):=
 .iG 4003 (!decide ((p_d.fName:ByteArray)=(⟨#[]⟩:ByteArray))) (.rt [1,13] 1 (true))<|
 .nu p_d.bM aQ.lf<|
 .rt [1,13] 1 (decide ((0:Int)<(p_d.bM.length:Int)))
def akV(p_d:bU):Mo (Bool):=
 .jk Tryz.f121 0 [1,0,0] 9 (fun r_=>⟨[(1,.ptr 0 0),(13,.b_ r_)],[nH p_d]⟩) ⟨[(1,.ptr 0 0)],[nH p_d]⟩ (Qe p_d) fun r0=>
 .iB (r0) (.ret (aS 1) (false))<|
 .say [.at_ 10 1,.norm 1] ok0<|
 .ask (Q56 p_d (aN.mk ⟨#[]⟩ false true)) fun r1 h0=>
 .say [.kZ [1] (.tup []) [fD r1],.at_ 12 1,.tod 18,.norm 2] (ok1 (acf _ _ _ h0))<|
 .cH [2] (acf (bU.mk ⟨#[]⟩ [] aI.z 0 0) (aN.mk ⟨#[]⟩ false true)) fun r2 _=>
 .ret (aS 1) (decide ((r1.fS:ByteArray)=(r2.fS:ByteArray)))
def as4(p_d:bU):Option (Bool):=Mo.den (akV p_d)
theorem aoP(p_d:bU):FV (as4 p_d) 121 [.dat (bU.lf1 p_d)] .b_:=dA Tryz.func121
def akW(p_x:aQ):Mo (Bool):=
 .say [.at_ 6 1,.norm 1] ok0<|
 .ask (Q49 p_x (aN.mk ⟨#[]⟩ false true)) fun r0 h0=>
 .say [.kZ [1] (.tup []) [fD r0],.at_ 8 1,.tod 9,.norm 2] (ok1 (U7 _ _ _ h0))<|
 .cH [2] (U7 aQ.z (aN.mk ⟨#[]⟩ false true)) fun r1 _=>
 .ret (aS 1) (decide ((r0.fS:ByteArray)=(r1.fS:ByteArray)))
def as5(p_x:aQ):Option (Bool):=Mo.den (akW p_x)
theorem aoQ(p_x:aQ):FV (as5 p_x) 122 [.dat (aQ.lf1 p_x)] .b_:=dA Tryz.func122
def Vr(p_kind:Int):Mo (Bool):=
 .iG 4002 (decide ((9:Int)≤p_kind)) (.ret (aS 1) (decide ((p_kind:Int)≤12)))<|
 .ret (aS 1) (false)
def aoR(p_kind:Int):Option (Bool):=Mo.den (Vr p_kind)
theorem aeL(p_kind:Int):FV (aoR p_kind) 67 [.i_ p_kind] .b_:=dA Tryz.func67
def KX(p_kind:Int):Mo (Bool):=
 .iG 4002 (p_kind==8) (.ret (aS 1) (true))<|
 .ret (aS 1) (p_kind==9)
def akX(p_kind:Int):Option (Bool):=Mo.den (KX p_kind)
theorem aeM(p_kind:Int):FV (akX p_kind) 65 [.i_ p_kind] .b_:=dA Tryz.func65
def Yz(p_w:aG):Mo (aQ):=
 .iB (p_w.aF==7) (.ret ⟨[.norm 1],[1,3,4],[],2⟩ (aQ.NJ p_w.aY ⟨#[]⟩))<|
 .ret ⟨[.norm 1],[1,3,4],[],2⟩ (p_w.aY)
def YA(p_w:aG)(r0:aQ):Mo (Bool):=
 .cl (aeK p_w.aF) fun r1 _=>
 .oV 12002 (r1) [1,3,4,18] 2 (decide ((p_w.gu:ByteArray)=(⟨#[]⟩:ByteArray)))
def Qg(p_w:aG)(r0:aQ)(r1:Bool):Mo (Bool):=
 .iG 12007 (r1) (.cl (Vq p_w.aF) fun r2 _=>
 .iG 12010 (r2) (.rt [1,3,4,37] 2 (true))<|
 .cl (vH p_w.fU) fun r3 _=>
 .iG 12014 (r3) (.cl (vH p_w.dK) fun r4 _=>
 .aV 12019 (r4) [1,3,4,37] 2 (!p_w.gQ))<|
 .rt [1,3,4,37] 2 (false))<|
 .rt [1,3,4,37] 2 (false)
def Qh(p_w:aG)(r0:aQ)(r1:Bool):Mo (Bool):=
 .iG 12026 (r1) (.iG 12029 (p_w.aF==2) (.rt [1,3,4,46] 2 (true))<|
 .cl (vH p_w.aU) fun r2 _=>
 .rt [1,3,4,46] 2 (r2))<|
 .rt [1,3,4,46] 2 (false)
def Qi(p_w:aG)(r0:aQ)(r1:Bool):Mo (Bool):=
 .iG 12035 (r1) (.iG 12038 (p_w.aF==4) (.rt [1,3,4,55] 2 (true))<|
 .cl (aoP p_w.dS) fun r2 _=>
 .rt [1,3,4,55] 2 (r2))<|
 .rt [1,3,4,55] 2 (false)
def Qj(p_w:aG)(r0:aQ)(r1:Bool):Mo (Bool):=
 .iG 12044 (r1) (.iG 12047 (p_w.aF==6) (.ret ⟨[.kill 1],[1,3,63],[],2⟩ (true))<|
 .cl (aoQ r0) fun r2 _=>
 .ret ⟨[.kill 1],[1,3,63],[],2⟩ (r2))<|
 .ret ⟨[.kill 1],[1,3,63],[],2⟩ (false)
def Qk(p_w:aG)(r0:Bool):Mo (Bool):=
 .iG 12052 (r0) (.cl (aeL p_w.aF) fun r1 _=>
 .oV 12055 (r1) [1,3,72] 2 (decide ((p_w.mM:ByteArray)=(⟨#[]⟩:ByteArray))))<|
 .rt [1,3,72] 2 (false)
def FW(p_w:aG)(r0:Bool):Mo (Bool):=
 .iG 12061 (r0) (.iG 12064 (p_w.aF==10) (.rt [1,3,85] 2 (true))<|
 .oV 12068 (p_w.aF==12) [1,3,85] 2 (p_w.eu==0))<|
 .rt [1,3,85] 2 (false)
def FX(p_w:aG)(r0:Bool):Mo (Bool):=
 .iG 12074 (r0) (.cl (aeM p_w.aF) fun r1 _=>
 .iG 12077 (r1) (.rt [1,3,95] 2 (true))<|
 .nu p_w.bQ aG.lf<|
 .rt [1,3,95] 2 ((p_w.bQ.length:Int)==0))<|
 .rt [1,3,95] 2 (false)
def FY(p_w:aG)(r0:Bool):Mo (Bool):=
 .iG 12084 (r0) (.iG 12087 (p_w.aF==12) (.ret ⟨[.kill 0],[105],[],2⟩ (true))<|
 .nu p_w.eG lfI<|
 .ret ⟨[.kill 0],[105],[],2⟩ ((p_w.eG.length:Int)==0))<|
 .ret ⟨[.kill 0],[105],[],2⟩ (false)
def Ql(r0:Bool):Mo (Unit):=
 .rt [2] 2 ()
def akY(p_w:aG):Mo (Bool):=
 .jk Tryz.f64 0 [1,1,1,0,1] 1 (fun r_=>⟨[(1,.ptr 0 0),(3,.i_ p_w.aF),(4,.ptr 1 0)],[dO p_w,mF r_]⟩) ⟨[(1,.ptr 0 0),(3,.i_ p_w.aF),(4,.ptr 1 0),(10,.lf (.bool (p_w.aF==7)))],[dO p_w,.box 45 (.agg ((aQ.lf1 p_w.aY).map AV.lf))]⟩ (Yz p_w) fun r0=>
 .sf Tryz.f64 0 [1,1,1,1,0] 0 7 5 [(1,.ptr 0 0),(3,.i_ p_w.aF),(4,.ptr 1 0)] [dO p_w,mF r0] 18 (YA p_w r0) fun r1=>
 .sb Tryz.f64 0 [1,1,1,1,0] 7 19 5 [(1,.ptr 0 0),(3,.i_ p_w.aF),(4,.ptr 1 0)] [dO p_w,mF r0] 18 37 r1 (Qg p_w r0 r1) fun r2=>
 .sb Tryz.f64 0 [1,1,1,1,0] 26 9 5 [(1,.ptr 0 0),(3,.i_ p_w.aF),(4,.ptr 1 0)] [dO p_w,mF r0] 37 46 r2 (Qh p_w r0 r2) fun r3=>
 .sb Tryz.f64 0 [1,1,1,1,0] 35 9 5 [(1,.ptr 0 0),(3,.i_ p_w.aF),(4,.ptr 1 0)] [dO p_w,mF r0] 46 55 r3 (Qi p_w r0 r3) fun r4=>
 .sk Tryz.f64 0 [1,1,1,1,0] 44 8 5 (fun r_=>⟨[(1,.ptr 0 0),(3,.i_ p_w.aF),(63,.b_ r_)],[dO p_w,.dead]⟩) ⟨[(1,.ptr 0 0),(3,.i_ p_w.aF),(4,.ptr 1 0),(55,.b_ r4)],[dO p_w,mF r0]⟩ (Qj p_w r0 r4) fun r5=>
 .sb Tryz.f64 0 [1,1,1,1,0] 52 9 5 [(1,.ptr 0 0),(3,.i_ p_w.aF)] [dO p_w,.dead] 63 72 r5 (Qk p_w r5) fun r6=>
 .sb Tryz.f64 0 [1,1,1,1,0] 61 13 5 [(1,.ptr 0 0),(3,.i_ p_w.aF)] [dO p_w,.dead] 72 85 r6 (FW p_w r6) fun r7=>
 .sb Tryz.f64 0 [1,1,1,1,0] 74 10 5 [(1,.ptr 0 0),(3,.i_ p_w.aF)] [dO p_w,.dead] 85 95 r7 (FX p_w r7) fun r8=>
 .sk Tryz.f64 0 [1,1,1,1,0] 84 10 5 (fun r_=>⟨[(105,.b_ r_)],[.dead,.dead]⟩) ⟨[(1,.ptr 0 0),(3,.i_ p_w.aF),(95,.b_ r8)],[dO p_w,.dead]⟩ (FY p_w r8) fun r9=>
 .sk Tryz.f64 0 [1,1,1,1,0] 94 1 5 (fun r_=>⟨[(2,.b_ r9)],[.dead,.dead]⟩) ⟨[(105,.b_ r9)],[.dead,.dead]⟩ (Ql r9) fun r10=>
 .ret (aS 1) (r9)
def Q11(p_w:aG):Option (Bool):=Mo.den (akY p_w)
theorem as6(p_w:aG):FV (Q11 p_w) 64 [.dat (aG.lf1 p_w)] .b_:=dA Tryz.func64
theorem avV:Tc (opsOf (Code.sub (bodyC Tryz.f68) [1,0,1,0,0,1,0,0,0])) [(true,0),(true,1),(true,2),(true,3),(true,4),(true,5),(true,6),(true,7),(true,8),(true,9),(true,10),(true,11),(true,12),(true,13),(true,14),(true,15),(true,16),(true,17),(true,18),(true,19),(true,20),(true,21),(true,22),(true,23),(true,24),(true,25),(true,26),(true,27)] none=true:=by kernel_rfl
def YB(p_l:List Int)(v0:Int):Mo (Bool):=
 .say [.Ag [(true,0),(true,1),(true,2),(true,3),(true,4),(true,5),(true,6),(true,7),(true,8),(true,9),(true,10),(true,11),(true,12),(true,13),(true,14),(true,15),(true,16),(true,17),(true,18),(true,19),(true,20),(true,21),(true,22),(true,23),(true,24),(true,25),(true,26),(true,27)] none []] (ok1 avV)<|
 .gx lI_ p_l v0 fun x0 _=>
 .iG 10005 (decide ((x0:Int)<0)) (.rt [0,3,37] 0 (true))<|
 .gx lI_ p_l v0 fun x1 _=>
 .iG 10012 (decide ((8:Int)≤x1)) (.rt [0,3,37] 0 (true))<|
 .iG 10015 (decide ((0:Int)<v0)) (.gx lI_ p_l (IntKind.wrap .i64 (v0-1)) fun x2 _=>
 .gx lI_ p_l v0 fun x3 _=>
 .rt [0,3,37] 0 (decide ((x3:Int)≤x2)))<|
 .rt [0,3,37] 0 (false)
def DC(p_l:List Int):(Int)→Mo ((Int)⊕(Unit⊕Unit)):=fun(v0)=>
 .nu p_l lfI<|
 .iB (decide ((v0:Int)<(p_l.length:Int))) (.jk Tryz.f68 0 [1,0,1,0,0,1,0,0,0] 15 (fun r_=>⟨[(0,.lf (.rows 1 (p_l.map lfI))),(3,.i_ v0),(37,.b_ r_)],[]⟩) ⟨[(0,.lf (.rows 1 (p_l.map lfI))),(3,.i_ v0)],[]⟩ (YB p_l v0) fun r0=>
 .iB (r0) (.rt [2] 0 (.inr (.inl ())))<|
 .rt [0,3] 0 (.inl (IntKind.wrap .i64 (v0+1))))<|
 .rt [0] 0 (.inr (.inr (())))
def aco(p_l:List Int)(v0:Int):Option (Unit⊕Unit):=bW (fun v_=>(DC p_l v_).den) FU (v0)
def apP(p_l:List Int):Mo (Bool):=
 .l2m [] Tryz.f68 0 [1,0,1,0] 0 (fun(v0)=>⟨[(0,.lf (.rows 1 (p_l.map lfI))),(3,.i_ v0)],[]⟩) .ret (fun _=>⟨[(2,.b_ false)],[]⟩) (.exit 0) (fun _=>⟨[(0,.lf (.rows 1 (p_l.map lfI)))],[]⟩) (aco p_l 0) (DC p_l) (0) (fun o0=>
 .ret (aS 1) (false)) fun o1=>
 .nu p_l lfI<|
 .ret (aS 1) (decide ((0:Int)<(p_l.length:Int)))
def Q70(p_l:List Int):Option (Bool):=Mo.den (apP p_l)
theorem as7(p_l:List Int):FV (Q70 p_l) 68 [.lf (.rows 1 (p_l.map lfI))] .b_:=dA Tryz.func68
def YC(p_v:ah):Mo (Bool):=
 .cl (rD p_v) fun r0 _=>
 .aV 4002 (r0) [1,2,9] 1 (p_v.aF != 6)
def YD(p_v:ah)(r0:Bool):Mo (Bool):=
 .aV 4007 (r0) [1,2,14] 1 (p_v.aF != 1)
def Qm(p_v:ah)(r0:Bool):Mo (Bool):=
 .iG 4012 (r0) (.ret ⟨[.kill 0],[2,19],[],1⟩ (p_v.aF != 11))<|
 .ret ⟨[.kill 0],[2,19],[],1⟩ (false)
def apQ(p_v:ah):Mo (Bool):=
 .sf Tryz.f69 0 [1,0] 0 7 1 [(1,.ptr 0 0),(2,.b_ false)] [aX p_v] 9 (YC p_v) fun r0=>
 .sb Tryz.f69 0 [1,0] 7 5 1 [(1,.ptr 0 0),(2,.b_ false)] [aX p_v] 9 14 r0 (YD p_v r0) fun r1=>
 .sk Tryz.f69 0 [1,0] 12 5 1 (fun r_=>⟨[(2,.b_ false),(19,.b_ r_)],[.dead]⟩) ⟨[(1,.ptr 0 0),(2,.b_ false),(14,.b_ r1)],[aX p_v]⟩ (Qm p_v r1) fun r2=>
 .sk Tryz.f69 0 [1,0] 17 1 1 (fun r_=>⟨[(2,.b_ r2)],[.dead]⟩) ⟨[(2,.b_ false),(19,.b_ r2)],[.dead]⟩ (dR r2) fun r3=>
 .ret (aS 1) (r2)
def Q69(p_v:ah):Option (Bool):=Mo.den (apQ p_v)
theorem as8(p_v:ah):FV (Q69 p_v) 69 [.dat (ah.lf1 p_v)] .b_:=dA Tryz.func69
def YE(p_doc:ah):Mo (Bool):=
 .cl (rD p_doc) fun r0 _=>
 .iG 4003 (!r0) (.rt [1,2,13] 2 (true))<|
 .nu p_doc.aU aJ.lf<|
 .rt [1,2,13] 2 ((p_doc.aU.length:Int)==0)
def YF(p_doc:ah)(r0:Bool):Mo (Bool):=
 .iG 4009 (r0) (.rt [1,2,21] 2 (true))<|
 .gx aJ.bf p_doc.aU 0 fun x0 _=>
 .rt [1,2,21] 2 (!decide ((x0.fName:ByteArray)=(⟨#[95,105,100]⟩:ByteArray)))
def Qn(x0:aJ):Mo (Bool):=
 .oV 10003 (x0.fValue.aF==6) [2,4,35] 3 (x0.fValue.aF==1)
def Qo(r0:Bool)(x0:aJ):Mo (Bool):=
 .oV 10008 (r0) [2,4,40] 3 (x0.fValue.aF==11)
def apR(p_doc:ah):Mo (ah×Bool):=
 .sf Tryz.f192 0 [1,0,0] 0 9 1 [(1,.ptr 0 0),(2,.ptr 1 0)] [aX p_doc,.box 25 (.agg [.i_ 0,.i_ 0,.lf (.str ⟨#[]⟩),.cZ 5,.cZ 6])] 13 (YE p_doc) fun r0=>
 .sb Tryz.f192 0 [1,0,0] 9 8 1 [(1,.ptr 0 0),(2,.ptr 1 0)] [aX p_doc,.box 25 (.agg [.i_ 0,.i_ 0,.lf (.str ⟨#[]⟩),.cZ 5,.cZ 6])] 13 21 r0 (YF p_doc r0) fun r1=>
 .iB (r1) (.ret (aS 2) (ah.mk 0 0 ⟨#[]⟩ [] [],false))<|
 .gx aJ.bf p_doc.aU 0 fun x0 _=>
 .sy [.kill 0] Tryz.f192 0 [1,1,1,0,0] 0 8 4 (fun r_=>⟨[(2,.ptr 1 0),(4,.ptr 2 0),(35,.b_ r_)],[.dead,.box 25 (.agg [.i_ 0,.i_ 0,.lf (.str ⟨#[]⟩),.cZ 5,.cZ 6]),.box 25 (.agg [.i_ x0.fValue.aF,.i_ x0.fValue.fA,.lf (.str x0.fValue.fText),.lf (.rows 5 (x0.fValue.aW.map ah.lf)),.lf (.rows 6 (x0.fValue.aU.map aJ.lf))])]⟩) ⟨[(2,.ptr 1 0),(4,.ptr 2 0)],[.dead,.box 25 (.agg [.i_ 0,.i_ 0,.lf (.str ⟨#[]⟩),.cZ 5,.cZ 6]),.box 25 (.agg [.i_ x0.fValue.aF,.i_ x0.fValue.fA,.lf (.str x0.fValue.fText),.lf (.rows 5 (x0.fValue.aW.map ah.lf)),.lf (.rows 6 (x0.fValue.aU.map aJ.lf))])]⟩ (Qn x0) fun r2=>
 .sb Tryz.f192 0 [1,1,1,0,0] 8 5 4 [(2,.ptr 1 0),(4,.ptr 2 0)] [.dead,.box 25 (.agg [.i_ 0,.i_ 0,.lf (.str ⟨#[]⟩),.cZ 5,.cZ 6]),.box 25 (.agg [.i_ x0.fValue.aF,.i_ x0.fValue.fA,.lf (.str x0.fValue.fText),.lf (.rows 5 (x0.fValue.aW.map ah.lf)),.lf (.rows 6 (x0.fValue.aU.map aJ.lf))])] 35 40 r2 (Qo r2 x0) fun r3=>
 .iB (r3) (.ret (aS 2) (ah.mk 0 0 ⟨#[]⟩ [] [],false))<|
 .ret (aS 2) (x0.fValue,true)
def Q92(p_doc:ah):Option (ah×Bool):=Mo.den (apR p_doc)
theorem as9(p_doc:ah):FV (Q92 p_doc) 192 [.dat (ah.lf1 p_doc)] (fun r=>.tup [.dat (ah.lf1 r.1),.b_ r.2]):=dA Tryz.func192
def akZ(p_v:ah):Mo (Int×Int):=
 .cl (aew p_v) fun r0 _=>
 .ret (aS 2) ((r0.1.size:Int),r0.2)
def ata(p_v:ah):Option (Int×Int):=Mo.den (akZ p_v)
theorem aoS(p_v:ah):FV (ata p_v) 193 [.dat (ah.lf1 p_v)] (fun r=>.tup [.i_ r.1,.i_ r.2]):=dA Tryz.func193
def ak0(p_doc:ah):Mo (Int):=
 .cl (as9 p_doc) fun r0 _=>
 .iB (!r0.2) (.ret (aS 1) (8))<|
 .cl (aoS p_doc) fun r1 _=>
 .iB (r1.2 != 0) (.ret (aS 1) (r1.2))<|
 .iB (decide ((16384:Int)<r1.1)) (.ret (aS 1) (2))<|
 .ret (aS 1) (0)
def auI(p_doc:ah):Option (Int):=Mo.den (ak0 p_doc)
theorem aeN(p_doc:ah):FV (auI p_doc) 124 [.dat (ah.lf1 p_doc)] .i_:=dA Tryz.func124
def ak1(p_a:Int)(p_b:Int):Mo (Int):=
 .iB (decide ((p_a:Int)<p_b)) (.ret (aS 1) ((-1)))<|
 .iB (decide ((p_b:Int)<p_a)) (.ret (aS 1) (1))<|
 .ret (aS 1) (0)
def aoT(p_a:Int)(p_b:Int):Option (Int):=Mo.den (ak1 p_a p_b)
theorem zf(p_a:Int)(p_b:Int):FV (aoT p_a p_b) 194 [.i_ p_a,.i_ p_b] .i_:=dA Tryz.func194
def KY(p_a:ByteArray)(p_b:ByteArray)(v0:Int):Mo (Bool):=
 .aV 6004 (decide ((v0:Int)<(p_a.size:Int))) [0,1,5,15] 0 (decide ((v0:Int)<(p_b.size:Int)))
def DF(p_a:ByteArray)(p_b:ByteArray):(Int)→Mo ((Int)⊕(Int)⊕Unit):=fun(v0)=>
 .jk Tryz.f195 0 [1,0,1,0,0,0,0] 11 (fun r_=>⟨[(0,.lf (.str p_a)),(1,.lf (.str p_b)),(5,.i_ v0),(15,.b_ r_)],[]⟩) ⟨[(0,.lf (.str p_a)),(1,.lf (.str p_b)),(5,.i_ v0)],[]⟩ (KY p_a p_b v0) fun r0=>
 .iB (r0) (.say [.order [(true,0),(true,1),(true,2),(true,3),(true,4),(true,5),(true,6)] none []] ok0<|
 .ask (kN p_a v0) fun b0 h0=>
 .say [.byt b0] (ok1 (fQ h0))<|
 .ask (kN p_b v0) fun b1 h1=>
 .say [.byt b1] (ok1 (fQ h1))<|
 .iB ((b0.toNat:Int) != (b1.toNat:Int)) (.ask (kN p_a v0) fun b2 h2=>
 .say [] (ok1 (fQ h2))<|
 .ask (kN p_b v0) fun b3 h3=>
 .say [] (ok1 (fQ h3))<|
 .ask (aoT (IntKind.wrap .i64 (b2.toNat:Int)) (IntKind.wrap .i64 (b3.toNat:Int))) fun r1 h4=>
 .say [.iY (.q 0 (.q 1 (.q 2 (.q 3 (.q 4 (.q 5 (.q 6 (.q 7 (.l 8 (.q 9 .fin)))))))))) (some 8) [] [.byt b2,.byt b3,.res (.i_ r1)] [4] 0 [(4,.i_ r1)] []] (okc (zf _ _ _ h4) (ok1 (rf_ ⟨[(4,.i_ r1)],[]⟩)))<|
 .rt [4] 0 (.inr (.inl (r1))))<|
 .rt [0,1,5] 0 (.inl (IntKind.wrap .i64 (v0+1))))<|
 .rt [0,1] 0 (.inr (.inr (())))
def acp(p_a:ByteArray)(p_b:ByteArray)(v0:Int):Option ((Int)⊕Unit):=bW (fun v_=>(DF p_a p_b v_).den) FU (v0)
def apS(p_a:ByteArray)(p_b:ByteArray):Mo (Int):=
 .l2m [] Tryz.f195 0 [1,0,1,0] 0 (fun(v0)=>⟨[(0,.lf (.str p_a)),(1,.lf (.str p_b)),(5,.i_ v0)],[]⟩) .ret (fun o_=>⟨[(4,.i_ o_)],[]⟩) (.exit 0) (fun _=>⟨[(0,.lf (.str p_a)),(1,.lf (.str p_b))],[]⟩) (acp p_a p_b 0) (DF p_a p_b) (0) (fun o0=>
 .ret (aS 1) (o0)) fun o1=>
 .cl (zf (p_a.size:Int) (p_b.size:Int)) fun r0 _=>
 .ret (aS 1) (r0)
def Q57(p_a:ByteArray)(p_b:ByteArray):Option (Int):=Mo.den (apS p_a p_b)
theorem ak2(p_a:ByteArray)(p_b:ByteArray):FV (Q57 p_a p_b) 195 [.lf (.str p_a),.lf (.str p_b)] .i_:=dA Tryz.func195
end
end Go.Proofs.YtflpefkohpjjpaaGreatDoor
set_option linter.unusedSimpArgs false
set_option linter.unusedVariables false
namespace Go.Proofs.YtflpefkohpjjpaaGreatDoor
open Go.RowKit
set_option maxRecDepth 20000
set_option maxHeartbeats 4000000
noncomputable section
abbrev Vs(m:ah→ah→Option (Int)):Prop:=∀p_a p_b,FV (m p_a p_b) 125 [.dat (ah.lf1 p_a),.dat (ah.lf1 p_b)] .i_
structure Hr where
 m1:(p_a:ah)→(p_b:ah)→Option (Int)
 ok1:Vs m1
def YG(R_:Hr)(p_a:ah)(p_b:ah):Mo (Bool):=
 .iB (p_a.aF==3) (.rt [2,3,20,21] 2 (p_a.aF==3))<|
 .iB (p_a.aF==9) (.rt [2,3,20,21] 2 (p_a.aF==9))<|
 .rt [2,3,20,21] 2 (p_a.aF==10)
def YH(R_:Hr)(p_a:ah)(p_b:ah):Mo (Bool):=
 .iB (p_a.aF==4) (.rt [2,3,20,30] 2 (p_a.aF==4))<|
 .iB (p_a.aF==7) (.rt [2,3,20,30] 2 (p_a.aF==7))<|
 .rt [2,3,20,30] 2 (p_a.aF==8)
def FZ(R_:Hr)(p_a:ah)(p_b:ah)(v0:Int):Mo (Bool):=
 .nu p_a.aW ah.lf<|
 .iG 30005 (decide ((v0:Int)<(p_a.aW.length:Int))) (.nu p_b.aW ah.lf<|
 .rt [2,3,5,52] 2 (decide ((v0:Int)<(p_b.aW.length:Int))))<|
 .rt [2,3,5,52] 2 (false)
def zh(R_:Hr)(p_a:ah)(p_b:ah):(Int)→Mo ((Int)⊕(Int)⊕Unit):=fun(v0)=>
 .jk Tryz.f125 0 [1,1,0,1,0,1,1,1,1,1,0,0,1,0,0,0,0] 35 (fun r_=>⟨[(2,.ptr 0 0),(3,.ptr 1 0),(5,.i_ v0),(52,.b_ r_)],[aX p_a,aX p_b]⟩) ⟨[(2,.ptr 0 0),(3,.ptr 1 0),(5,.i_ v0)],[aX p_a,aX p_b]⟩ (FZ R_ p_a p_b v0) fun r0=>
 .iB (r0) (.ask (lG p_a.aW v0) fun x0 h0=>
 .say [] (ok1 (gZ ah.bf h0))<|
 .ask (lG p_b.aW v0) fun x1 h1=>
 .say [] (ok1 (gZ ah.bf h1))<|
 .ask (R_.m1 x0 x1) fun r1 h2=>
 .say [.iY (.q 0 (.q 1 (.q 2 (.q 3 (.q 4 (.q 5 (.q 6 (.q 7 (.q 8 (.q 9 (.l 10 (.q 11 .fin)))))))))))) (some 10) [] [.row (ah.lf1 x0),.row (ah.lf1 x1),.res (.i_ r1)] [2,3,5,6] 2 [(2,.ptr 0 0),(3,.ptr 1 0),(5,.i_ v0),(6,.i_ r1)] [aX p_a,aX p_b]] (okc (R_.ok1 _ _ _ h2) (ok1 (rf_ ⟨[(2,.ptr 0 0),(3,.ptr 1 0),(5,.i_ v0),(6,.i_ r1)],[aX p_a,aX p_b]⟩)))<|
 .iB (r1 != 0) (.ret ⟨[.kill 0,.kill 1],[4],[],2⟩ (.inr (.inl (r1))))<|
 .rt [2,3,5] 2 (.inl (IntKind.wrap .i64 (v0+1))))<|
 .rt [2,3] 2 (.inr (.inr (())))
def Vt(R_:Hr)(p_a:ah)(p_b:ah)(v0:Int):Option ((Int)⊕Unit):=bW (fun v_=>(zh R_ p_a p_b v_).den) FU (v0)
def F5(R_:Hr)(p_a:ah)(p_b:ah)(v0:Int):Mo (Bool):=
 .nu p_a.aU aJ.lf<|
 .iG 46005 (decide ((v0:Int)<(p_a.aU.length:Int))) (.nu p_b.aU aJ.lf<|
 .rt [2,3,7,89] 2 (decide ((v0:Int)<(p_b.aU.length:Int))))<|
 .rt [2,3,7,89] 2 (false)
def Qp(R_:Hr)(p_a:ah)(p_b:ah)(r0:Int)(v0:Int):Mo (Int):=
 .iB (r0==0) (.ask (lG p_a.aU v0) fun x0 h0=>
 .say [] (ok1 (gZ aJ.bf h0))<|
 .ask (lG p_b.aU v0) fun x1 h1=>
 .say [] (ok1 (gZ aJ.bf h1))<|
 .ask (R_.m1 x0.fValue x1.fValue) fun r1 h2=>
 .say [.iY (.q 0 (.q 1 (.q 2 (.q 3 (.q 4 (.q 5 (.q 6 (.q 7 (.q 8 (.q 9 (.q 10 (.q 11 (.l 12 (.q 13 .fin)))))))))))))) (some 12) [] [.row (aJ.lf1 x0),.row (aJ.lf1 x1),.res (.i_ r1)] [2,3,7,8] 2 [(2,.ptr 0 0),(3,.ptr 1 0),(7,.i_ v0),(8,.i_ r1)] [aX p_a,aX p_b]] (okc (R_.ok1 _ _ _ h2) (ok1 (rf_ ⟨[(2,.ptr 0 0),(3,.ptr 1 0),(7,.i_ v0),(8,.i_ r1)],[aX p_a,aX p_b]⟩)))<|
 .rt [2,3,7,8] 2 (r1))<|
 .rt [2,3,7,8] 2 (r0)
def zi(R_:Hr)(p_a:ah)(p_b:ah):(Int)→Mo ((Int)⊕(Int)⊕Unit):=fun(v0)=>
 .jk Tryz.f125 0 [1,1,0,1,0,1,1,1,1,1,1,1,0,0,1,0,0,0,0] 51 (fun r_=>⟨[(2,.ptr 0 0),(3,.ptr 1 0),(7,.i_ v0),(89,.b_ r_)],[aX p_a,aX p_b]⟩) ⟨[(2,.ptr 0 0),(3,.ptr 1 0),(7,.i_ v0)],[aX p_a,aX p_b]⟩ (F5 R_ p_a p_b v0) fun r0=>
 .iB (r0) (.ask (lG p_a.aU v0) fun x0 h0=>
 .say [] (ok1 (gZ aJ.bf h0))<|
 .ask (lG p_b.aU v0) fun x1 h1=>
 .say [] (ok1 (gZ aJ.bf h1))<|
 .ask (Q57 x0.fName x1.fName) fun r1 h2=>
 .say [.iY (.q 0 (.q 1 (.q 2 (.q 3 (.q 4 (.q 5 (.q 6 (.q 7 (.q 8 (.q 9 (.q 10 (.q 11 (.l 12 (.q 13 .fin)))))))))))))) (some 12) [] [.row (aJ.lf1 x0),.row (aJ.lf1 x1),.res (.i_ r1)] [2,3,7,8] 2 [(2,.ptr 0 0),(3,.ptr 1 0),(7,.i_ v0),(8,.i_ r1)] [aX p_a,aX p_b]] (okc (ak2 _ _ _ h2) (ok1 (rf_ ⟨[(2,.ptr 0 0),(3,.ptr 1 0),(7,.i_ v0),(8,.i_ r1)],[aX p_a,aX p_b]⟩)))<|
 .jk Tryz.f125 0 [1,1,0,1,0,1,1,1,1,1,1,1,0,0,1,0,0,1,0,0,1,0,1] 1 (fun r_=>⟨[(2,.ptr 0 0),(3,.ptr 1 0),(7,.i_ v0),(8,.i_ r_)],[aX p_a,aX p_b]⟩) ⟨[(2,.ptr 0 0),(3,.ptr 1 0),(7,.i_ v0),(8,.i_ r1),(106,.lf (.bool (r1==0)))],[aX p_a,aX p_b]⟩ (Qp R_ p_a p_b r1 v0) fun r2=>
 .iB (r2 != 0) (.ret ⟨[.kill 0,.kill 1],[4],[],2⟩ (.inr (.inl (r2))))<|
 .rt [2,3,7] 2 (.inl (IntKind.wrap .i64 (v0+1))))<|
 .rt [2,3] 2 (.inr (.inr (())))
def Vu(R_:Hr)(p_a:ah)(p_b:ah)(v0:Int):Option ((Int)⊕Unit):=bW (fun v_=>(zi R_ p_a p_b v_).den) FU (v0)
def aeO(R_:Hr)(p_a:ah)(p_b:ah):Mo (Int):=
 .iB (p_a.aF != p_b.aF) (.cl (zf p_a.aF p_b.aF) fun r0 _=>
 .ret (aS 1) (r0))<|
 .jk Tryz.f125 0 [1,1,0,1,0,0,1] 1 (fun r_=>⟨[(2,.ptr 0 0),(3,.ptr 1 0),(20,.i_ p_a.aF),(21,.b_ r_)],[aX p_a,aX p_b]⟩) ⟨[(2,.ptr 0 0),(3,.ptr 1 0),(20,.i_ p_a.aF),(21,.lf (.bool (p_a.aF==3)))],[aX p_a,aX p_b]⟩ (YG R_ p_a p_b) fun r1=>
 .iB (r1) (.cl (zf p_a.fA p_b.fA) fun r2 _=>
 .ret (aS 1) (r2))<|
 .jk Tryz.f125 0 [1,1,0,1,0,1,1,0,1] 1 (fun r_=>⟨[(2,.ptr 0 0),(3,.ptr 1 0),(20,.i_ p_a.aF),(30,.b_ r_)],[aX p_a,aX p_b]⟩) ⟨[(2,.ptr 0 0),(3,.ptr 1 0),(20,.i_ p_a.aF),(30,.lf (.bool (p_a.aF==4)))],[aX p_a,aX p_b]⟩ (YH R_ p_a p_b) fun r3=>
 .iB (r3) (.cl (ak2 p_a.fText p_b.fText) fun r4 _=>
 .ret (aS 1) (r4))<|
 .iB (p_a.aF==6) (.l2m [] Tryz.f125 0 [1,1,0,1,0,1,1,1,1,1,0,0,1,0] 0 (fun(v0)=>⟨[(2,.ptr 0 0),(3,.ptr 1 0),(5,.i_ v0)],[aX p_a,aX p_b]⟩) .ret (fun o_=>⟨[(4,.i_ o_)],[.dead,.dead]⟩) (.exit 1) (fun _=>⟨[(2,.ptr 0 0),(3,.ptr 1 0)],[aX p_a,aX p_b]⟩) (Vt R_ p_a p_b 0) (zh R_ p_a p_b) (0) (fun o0=>
 .ret (aS 1) (o0)) fun o1=>
 .nu p_a.aW ah.lf<|
 .nu p_b.aW ah.lf<|
 .cl (zf (p_a.aW.length:Int) (p_b.aW.length:Int)) fun r5 _=>
 .ret (aS 1) (r5))<|
 .iB (p_a.aF==5) (.l2m [] Tryz.f125 0 [1,1,0,1,0,1,1,1,1,1,1,1,0,0,1,0] 0 (fun(v1)=>⟨[(2,.ptr 0 0),(3,.ptr 1 0),(7,.i_ v1)],[aX p_a,aX p_b]⟩) .ret (fun o_=>⟨[(4,.i_ o_)],[.dead,.dead]⟩) (.exit 3) (fun _=>⟨[(2,.ptr 0 0),(3,.ptr 1 0)],[aX p_a,aX p_b]⟩) (Vu R_ p_a p_b 0) (zi R_ p_a p_b) (0) (fun o2=>
 .ret (aS 1) (o2)) fun o3=>
 .nu p_a.aU aJ.lf<|
 .nu p_b.aU aJ.lf<|
 .cl (zf (p_a.aU.length:Int) (p_b.aU.length:Int)) fun r6 _=>
 .ret (aS 1) (r6))<|
 .ret (aS 1) (0)
theorem aoU(R_:Hr):Vs fun p_a p_b=>Mo.den (aeO R_ p_a p_b):=fun _ _=>dA Tryz.func125
def qK:Nat→Hr
 |0=>{ m1:=fun p_a p_b=>none,ok1:=fun _ _ _ h=>(by cases h) }
 |n_+1=>{ m1:=fun p_a p_b=>Mo.den (aeO (qK n_) p_a p_b),ok1:=aoU (qK n_) }
def Q10(p_a:ah)(p_b:ah):Option (Int):=(qK FU).m1 p_a p_b
theorem atb:Vs Q10:=(qK FU).ok1
def YI(p_doc:ah)(p_key:ah)(r0:Int):Mo (Bool):=
 .aV 6002 (r0 != 0) [2,3,5,13] 2 (r0 != 2)
def apT(p_doc:ah)(p_key:ah):Mo (Int):=
 .cl (aeN p_doc) fun r0 _=>
 .jk Tryz.f70 0 [1,0,1,0] 11 (fun r_=>⟨[(2,.ptr 0 0),(3,.ptr 1 0),(5,.i_ r0),(13,.b_ r_)],[aX p_doc,aX p_key]⟩) ⟨[(2,.ptr 0 0),(3,.ptr 1 0),(5,.i_ r0)],[aX p_doc,aX p_key]⟩ (YI p_doc p_key r0) fun r1=>
 .iB (r1) (.ret (aS 1) (r0))<|
 .ask (lG p_doc.aU 0) fun x0 h0=>
 .say [] (ok1 (gZ aJ.bf h0))<|
 .ask (Q10 x0.fValue p_key) fun r2 h1=>
 .say [.iY (.q 0 (.q 1 (.q 2 (.q 3 (.q 4 (.q 5 (.l 6 (.q 7 .fin)))))))) (some 6) [] [.row (aJ.lf1 x0),.res (.i_ r2)] [2,22] 2 [(2,.ptr 0 0),(22,.lf (.bool (r2 != 0)))] [aX p_doc,aX p_key]] (okc (atb _ _ _ h1) (ok1 (rf_ ⟨[(2,.ptr 0 0),(22,.lf (.bool (r2 != 0)))],[aX p_doc,aX p_key]⟩)))<|
 .iB (r2 != 0) (.ret (aS 1) (8))<|
 .cl (aeN p_doc) fun r3 _=>
 .ret (aS 1) (r3)
def Q97(p_doc:ah)(p_key:ah):Option (Int):=Mo.den (apT p_doc p_key)
theorem ak3(p_doc:ah)(p_key:ah):FV (Q97 p_doc p_key) 70 [.dat (ah.lf1 p_doc),.dat (ah.lf1 p_key)] .i_:=dA Tryz.func70
def ug(p_a:List ByteArray)(p_b:List ByteArray):(Int)→Mo ((Int)⊕(Unit⊕Unit)):=fun(v0)=>
 .nu p_a lfS<|
 .iB (decide ((v0:Int)<(p_a.length:Int))) (.say [.order [(true,0),(true,1),(true,2),(true,3),(true,4),(true,5),(true,6),(true,7),(true,8)] none []] ok0<|
 .gx lS_ p_a v0 fun x0 _=>
 .gx lS_ p_b v0 fun x1 _=>
 .iB (!decide ((x0:ByteArray)=(x1:ByteArray))) (.rt [4] 0 (.inr (.inl ())))<|
 .rt [0,1,5] 0 (.inl (IntKind.wrap .i64 (v0+1))))<|
 .rt [] 0 (.inr (.inr (())))
def acr(p_a:List ByteArray)(p_b:List ByteArray)(v0:Int):Option (Unit⊕Unit):=bW (fun v_=>(ug p_a p_b v_).den) FU (v0)
def apU(p_a:List ByteArray)(p_b:List ByteArray):Mo (Bool):=
 .nu p_a lfS<|
 .nu p_b lfS<|
 .iB ((p_a.length:Int) != (p_b.length:Int)) (.ret (aS 1) (false))<|
 .l2 Tryz.f197 0 [1,1,0,1,0] 0 (fun(v0)=>⟨[(0,.lf (.rows 1 (p_a.map lfS))),(1,.lf (.rows 1 (p_b.map lfS))),(5,.i_ v0)],[]⟩) .ret (fun _=>⟨[(4,.b_ false)],[]⟩) (.exit 0) (fun _=>⟨[],[]⟩) (ug p_a p_b) (0) (fun o0=>
 .ret (aS 1) (false)) fun o1=>
 .ret (aS 1) (true)
def Q85(p_a:List ByteArray)(p_b:List ByteArray):Option (Bool):=Mo.den (apU p_a p_b)
theorem atc(p_a:List ByteArray)(p_b:List ByteArray):FV (Q85 p_a p_b) 197 [.lf (.rows 1 (p_a.map lfS)),.lf (.rows 1 (p_b.map lfS))] .b_:=dA Tryz.func197
def DI(p_l:List bn)(v0:Int):(Int)→Mo ((Int)⊕(Unit⊕Unit)):=fun(v1)=>
 .iB (decide ((v1:Int)<v0)) (.say [.order [(true,0),(true,1),(true,2),(true,3),(true,4),(true,5),(true,6),(true,7),(true,8),(true,9),(false,10)] (some 10) []] ok0<|
 .gx bn.bf p_l v0 fun x0 _=>
 .gx bn.bf p_l v1 fun x1 _=>
 .cl (atc x0.cO x1.cO) fun r0 _=>
 .iB (r0) (.rt [2] 0 (.inr (.inl ())))<|
 .rt [0,3,4] 0 (.inl (IntKind.wrap .i64 (v1+1))))<|
 .rt [0,3] 0 (.inr (.inr (())))
def acs(p_l:List bn)(v0:Int)(v1:Int):Option (Unit⊕Unit):=bW (fun v_=>(DI p_l v0 v_).den) FU (v1)
def DJ(p_l:List bn):(Int)→Mo ((Int)⊕(Int)⊕Unit):=fun(v0)=>
 .nu p_l bn.lf<|
 .iB (decide ((v0:Int)<(p_l.length:Int))) (.gx bn.bf p_l v0 fun x0 _=>
 .cl (KW x0.cO) fun r0 _=>
 .iB (!r0) (.rt [2] 0 (.inr (.inl (10))))<|
 .l2m [] Tryz.f128 0 [1,1,0,1,0,0,1,0,0,1,1,0] 0 (fun(v1)=>⟨[(0,.lf (.rows 2 (p_l.map bn.lf))),(3,.i_ v0),(4,.i_ v1)],[]⟩) .ret (fun _=>⟨[(2,.i_ 12)],[]⟩) (.exit 2) (fun _=>⟨[(0,.lf (.rows 2 (p_l.map bn.lf))),(3,.i_ v0)],[]⟩) (acs p_l v0 0) (DI p_l v0) (0) (fun o0=>
 .rt [2] 0 (.inr (.inl (12)))) fun o1=>
 .rt [0,3] 0 (.inl (IntKind.wrap .i64 (v0+1))))<|
 .rt [] 0 (.inr (.inr (())))
def atd(p_l:List bn)(v0:Int):Option ((Int)⊕Unit):=bW (fun v_=>(DJ p_l v_).den) FU (v0)
def apV(p_l:List bn):Mo (Int):=
 .nu p_l bn.lf<|
 .iB (decide ((8:Int)<(p_l.length:Int))) (.ret (aS 1) (2))<|
 .l2 Tryz.f128 0 [1,1,0,1,0] 0 (fun(v0)=>⟨[(0,.lf (.rows 2 (p_l.map bn.lf))),(3,.i_ v0)],[]⟩) .ret (fun o_=>⟨[(2,.i_ o_)],[]⟩) (.exit 0) (fun _=>⟨[],[]⟩) (DJ p_l) (0) (fun o0=>
 .ret (aS 1) (o0)) fun o1=>
 .ret (aS 1) (0)
def Q54(p_l:List bn):Option (Int):=Mo.den (apV p_l)
theorem ate(p_l:List bn):FV (Q54 p_l) 128 [.lf (.rows 2 (p_l.map bn.lf))] .i_:=dA Tryz.func128
abbrev Vw(m:aO→Int→Int→Option (Int)):Prop:=∀p_p p_levels p_left,FV (m p_p p_levels p_left) 198 [.dat (aO.lf1 p_p),.i_ p_levels,.i_ p_left] .i_
structure acu where
 m1:(p_p:aO)→(p_levels:Int)→(p_left:Int)→Option (Int)
 ok1:Vw m1
def YJ(R_:acu)(p_left:Int)(p_levels:Int)(p_p:aO):Mo (Bool):=
 .oV 4002 (p_levels==0) [1,2,3,13] 1 (decide ((p_left:Int)≤0))
def DK(R_:acu)(p_levels:Int)(p_p:aO)(v0:Int)(v1:Int):Mo (Bool):=
 .nu p_p.bC aO.lf<|
 .aV 12005 (decide ((v1:Int)<(p_p.bC.length:Int))) [1,2,3,7,24] 1 (decide ((0:Int)≤v0))
def uh(R_:acu)(p_levels:Int)(p_p:aO):(Int×Int)→Mo ((Int×Int)⊕(Int)):=fun(v0,v1)=>
 .jk Tryz.f198 0 [1,1,1,0,1,0,0,0,0] 17 (fun r_=>⟨[(1,.i_ p_levels),(2,.i_ v0),(3,.ptr 0 0),(7,.i_ v1),(24,.b_ r_)],[dw p_p]⟩) ⟨[(1,.i_ p_levels),(2,.i_ v0),(3,.ptr 0 0),(7,.i_ v1)],[dw p_p]⟩ (DK R_ p_levels p_p v0 v1) fun r0=>
 .iB (r0) (.gx aO.bf p_p.bC v1 fun x0 _=>
 .cl (R_.ok1 x0 (IntKind.wrap .i64 (p_levels-1)) v0) fun r1 _=>
 .rt [1,2,3,7] 1 (.inl (r1,IntKind.wrap .i64 (v1+1))))<|
 .ret ⟨[.kill 0],[2],[],1⟩ (.inr (v0))
def aoV(R_:acu)(p_levels:Int)(p_p:aO)(v0:Int)(v1:Int):Option (Int):=bW (fun v_=>(uh R_ p_levels p_p v_).den) FU (v0,v1)
def aeP(R_:acu)(p_p:aO)(p_levels:Int)(p_left:Int):Mo (Int):=
 .jk Tryz.f198 0 [1,0,0] 9 (fun r_=>⟨[(1,.i_ p_levels),(2,.i_ p_left),(3,.ptr 0 0),(13,.b_ r_)],[dw p_p]⟩) ⟨[(1,.i_ p_levels),(2,.i_ p_left),(3,.ptr 0 0)],[dw p_p]⟩ (YJ R_ p_left p_levels p_p) fun r0=>
 .iB (r0) (.ret (aS 1) ((-1)))<|
 .l1 Tryz.f198 0 [1,1,1,0,1,0] 0 (.exit 0) (fun(v0,v1)=>⟨[(1,.i_ p_levels),(2,.i_ v0),(3,.ptr 0 0),(7,.i_ v1)],[dw p_p]⟩) (fun r_=>⟨[(2,.i_ r_)],[.dead]⟩) (uh R_ p_levels p_p) ((IntKind.wrap .i64 (p_left-1)),0) fun r1=>
 .ret (aS 1) (r1)
theorem aoW(R_:acu):Vw fun p_p p_levels p_left=>Mo.den (aeP R_ p_p p_levels p_left):=fun _ _ _=>dA Tryz.func198
def F6:Nat→acu
 |0=>{ m1:=fun p_p p_levels p_left=>none,ok1:=fun _ _ _ _ h=>(by cases h) }
 |n_+1=>{ m1:=fun p_p p_levels p_left=>Mo.den (aeP (F6 n_) p_p p_levels p_left),ok1:=aoW (F6 n_) }
def Q44(p_p:aO)(p_levels:Int)(p_left:Int):Option (Int):=(F6 FU).m1 p_p p_levels p_left
theorem atf:Vw Q44:=(F6 FU).ok1
def Qq(p_p:aO):Mo (Bool):=
 .iB (p_p.fOp==15) (.rt [1,4,5] 1 (p_p.fOp==15))<|
 .rt [1,4,5] 1 (p_p.fOp==23)
def Qr(p_p:aO):Mo (Bool):=
 .iB (p_p.fOp==20) (.rt [1,12] 1 (p_p.fOp==20))<|
 .iB (p_p.fOp==21) (.rt [1,12] 1 (p_p.fOp==21))<|
 .rt [1,12] 1 (p_p.fOp==22)
def ak4(p_p:aO):Mo (Bool):=
 .jk Tryz.f264 0 [1,0,1,0,0,1] 1 (fun r_=>⟨[(1,.ptr 0 0),(4,.i_ p_p.fOp),(5,.b_ r_)],[dw p_p]⟩) ⟨[(1,.ptr 0 0),(4,.i_ p_p.fOp),(5,.lf (.bool (p_p.fOp==15)))],[dw p_p]⟩ (Qq p_p) fun r0=>
 .iB (r0) (.nu p_p.bC aO.lf<|
 .ret (aS 1) ((p_p.bC.length:Int)==1))<|
 .jk Tryz.f264 0 [1,0,1,0,1,1,0,1] 1 (fun r_=>⟨[(1,.ptr 0 0),(12,.b_ r_)],[dw p_p]⟩) ⟨[(1,.ptr 0 0),(4,.i_ p_p.fOp),(12,.lf (.bool (p_p.fOp==20)))],[dw p_p]⟩ (Qr p_p) fun r1=>
 .iB (r1) (.nu p_p.bC aO.lf<|
 .ret (aS 1) (decide ((0:Int)<(p_p.bC.length:Int))))<|
 .nu p_p.bC aO.lf<|
 .ret (aS 1) ((p_p.bC.length:Int)==0)
def atg(p_p:aO):Option (Bool):=Mo.den (ak4 p_p)
theorem aoX(p_p:aO):FV (atg p_p) 264 [.dat (aO.lf1 p_p)] .b_:=dA Tryz.func264
theorem Vx(p_op:Int):FV (Q90 p_op) 265 [.i_ p_op] .b_:=dA Tryz.func265
def ak5(p_p:aO):Mo (Bool):=
 .iB (p_p.fOp==10) (.jk Tryz.f266 0 [1,0,1,0,1,0,0] 13 (fun r_=>⟨[(2,.b_ r_)],[.dead]⟩) ⟨[(1,.ptr 0 0)],[dw p_p]⟩ (CS p_p) fun r0=>
 .ret (aS 1) (r0))<|
 .iB (p_p.fOp==11) (.jk Tryz.f266 0 [1,0,1,0,1,1,1,0,0] 17 (fun r_=>⟨[(2,.b_ r_)],[.dead]⟩) ⟨[(1,.ptr 0 0)],[dw p_p]⟩ (CU p_p) fun r1=>
 .ret (aS 1) (r1))<|
 .iB (p_p.fOp==12) (.sf Tryz.f266 0 [1,0,1,0,1,1,1,1,1,0,0] 0 8 7 [(1,.ptr 0 0),(2,.b_ false)] [dw p_p] 34 (yM p_p) fun r2=>
 .sk Tryz.f266 0 [1,0,1,0,1,1,1,1,1,0,0] 8 7 7 (fun r_=>⟨[(2,.b_ false),(41,.b_ r_)],[.dead]⟩) ⟨[(1,.ptr 0 0),(2,.b_ false),(34,.b_ r2)],[dw p_p]⟩ (yN p_p r2) fun r3=>
 .sk Tryz.f266 0 [1,0,1,0,1,1,1,1,1,0,0] 15 1 7 (fun r_=>⟨[(2,.b_ r3)],[.dead]⟩) ⟨[(2,.b_ false),(41,.b_ r3)],[.dead]⟩ (dR r3) fun r4=>
 .ret (aS 1) (r3))<|
 .iB (p_p.fOp==13) (.ret (aS 1) (decide ((0:Int)≤p_p.fN)))<|
 .ret (aS 1) (true)
def ath(p_p:aO):Option (Bool):=Mo.den (ak5 p_p)
theorem aoY(p_p:aO):FV (ath p_p) 266 [.dat (aO.lf1 p_p)] .b_:=dA Tryz.func266
theorem aeQ(p_op:Int):FV (Nc p_op) 267 [.i_ p_op] .b_:=dA Tryz.func267
theorem Vy(p_op:Int):FV (XM p_op) 269 [.i_ p_op] .b_:=dA Tryz.func269
def ak6(p_op:Int):Mo (Bool):=
 .iG 4002 (decide ((2:Int)≤p_op)) (.iG 4006 (decide ((p_op:Int)≤7)) (.ret (aS 1) (true))<|
 .cl (Vy p_op) fun r0 _=>
 .ret (aS 1) (r0))<|
 .cl (Vy p_op) fun r1 _=>
 .ret (aS 1) (r1)
def ati(p_op:Int):Option (Bool):=Mo.den (ak6 p_op)
theorem aeR(p_op:Int):FV (ati p_op) 268 [.i_ p_op] .b_:=dA Tryz.func268
theorem Vz(p_n:Int):FV (Un p_n) 318 [.i_ p_n] .b_:=dA Tryz.func318
def ak7(p_p:cu):Mo (Bool):=
 .cl (Vz p_p.fX) fun r0 _=>
 .iG 4003 (r0) (.cl (Vz p_p.fY) fun r1 _=>
 .ret (aS 1) (r1))<|
 .ret (aS 1) (false)
def atj(p_p:cu):Option (Bool):=Mo.den (ak7 p_p)
theorem aoZ(p_p:cu):FV (atj p_p) 317 [.dat (cu.lf1 p_p)] .b_:=dA Tryz.func317
def DL(p_s:dQ):(Int)→Mo ((Int)⊕(Unit⊕Unit)):=fun(v0)=>
 .iB (decide ((v0:Int)<(p_s.bF.length:Int))) (.gx cu.bf p_s.bF v0 fun x0 _=>
 .cl (aoZ x0) fun r0 _=>
 .iB (!r0) (.ret ⟨[.kill 0],[2],[],1⟩ (.inr (.inl ())))<|
 .rt [1,3,4] 1 (.inl (IntKind.wrap .i64 (v0+1))))<|
 .rt [1,3] 1 (.inr (.inr (())))
def acv(p_s:dQ)(v0:Int):Option (Unit⊕Unit):=bW (fun v_=>(DL p_s v_).den) FU (v0)
def YK(p_s:dQ):Mo (Bool):=
 .aV 20003 (p_s.aF==1) [1,3,28] 1 ((p_s.bF.length:Int)==2)
def Qs(p_s:dQ)(r0:Bool):Mo (Bool):=
 .aV 20007 (r0) [1,3,33] 1 (p_s.fR==0)
def Qu(p_s:dQ)(r0:Bool):Mo (Bool):=
 .iG 20012 (r0) (.rt [1,3,47] 1 (true))<|
 .iG 20016 (p_s.aF==2) (.aC 20020 ((p_s.bF.length:Int)==1) [1,3,47] 1 (Vz p_s.fR))<|
 .rt [1,3,47] 1 (false)
def Qv(p_s:dQ)(r0:Bool):Mo (Bool):=
 .iG 20026 (r0) (.ret ⟨[.kill 0],[61],[],1⟩ (true))<|
 .iG 20030 (p_s.aF==3) (.iG 20034 (decide ((3:Int)≤(p_s.bF.length:Int))) (.ret ⟨[.kill 0],[61],[],1⟩ (p_s.fR==0))<|
 .ret ⟨[.kill 0],[61],[],1⟩ (false))<|
 .ret ⟨[.kill 0],[61],[],1⟩ (false)
def apW(p_s:dQ):Mo (Int):=
 .nu p_s.bF cu.lf<|
 .iB (decide ((64:Int)<(p_s.bF.length:Int))) (.ret (aS 1) (18))<|
 .l2m [] Tryz.f270 0 [1,1,1,0,1,0] 0 (fun(v0)=>⟨[(1,.ptr 0 0),(3,.i_ (p_s.bF.length:Int)),(4,.i_ v0)],[wB p_s]⟩) .ret (fun _=>⟨[(2,.i_ 18)],[.dead]⟩) (.exit 0) (fun _=>⟨[(1,.ptr 0 0),(3,.i_ (p_s.bF.length:Int))],[wB p_s]⟩) (acv p_s 0) (DL p_s) (0) (fun o0=>
 .ret (aS 1) (18)) fun o1=>
 .sf Tryz.f270 0 [1,1,1,1,0,0] 0 7 9 [(1,.ptr 0 0),(3,.i_ (p_s.bF.length:Int))] [wB p_s] 28 (YK p_s) fun r0=>
 .sb Tryz.f270 0 [1,1,1,1,0,0] 7 5 9 [(1,.ptr 0 0),(3,.i_ (p_s.bF.length:Int))] [wB p_s] 28 33 r0 (Qs p_s r0) fun r1=>
 .sb Tryz.f270 0 [1,1,1,1,0,0] 12 14 9 [(1,.ptr 0 0),(3,.i_ (p_s.bF.length:Int))] [wB p_s] 33 47 r1 (Qu p_s r1) fun r2=>
 .sk Tryz.f270 0 [1,1,1,1,0,0] 26 14 9 (fun r_=>⟨[(61,.b_ r_)],[.dead]⟩) ⟨[(1,.ptr 0 0),(3,.i_ (p_s.bF.length:Int)),(47,.b_ r2)],[wB p_s]⟩ (Qv p_s r2) fun r3=>
 .iB (r3) (.ret (aS 1) (0))<|
 .ret (aS 1) (18)
def Q39(p_s:dQ):Option (Int):=Mo.den (apW p_s)
theorem atl(p_s:dQ):FV (Q39 p_s) 270 [.dat (dQ.lf1 p_s)] .i_:=dA Tryz.func270
def Qw(p_s:dQ):Mo (Bool):=
 .iG 4003 (p_s.aF==0) (.nu p_s.bF cu.lf<|
 .rt [1,2,11] 1 ((p_s.bF.length:Int)==0))<|
 .rt [1,2,11] 1 (false)
def Qx(p_s:dQ)(r0:Bool):Mo (Bool):=
 .iG 4009 (r0) (.ret ⟨[.kill 0],[2,16],[],1⟩ (p_s.fR==0))<|
 .ret ⟨[.kill 0],[2,16],[],1⟩ (false)
def ak8(p_s:dQ):Mo (Bool):=
 .sf Tryz.f319 0 [1,0] 0 9 1 [(1,.ptr 0 0),(2,.b_ false)] [wB p_s] 11 (Qw p_s) fun r0=>
 .sk Tryz.f319 0 [1,0] 9 5 1 (fun r_=>⟨[(2,.b_ false),(16,.b_ r_)],[.dead]⟩) ⟨[(1,.ptr 0 0),(2,.b_ false),(11,.b_ r0)],[wB p_s]⟩ (Qx p_s r0) fun r1=>
 .sk Tryz.f319 0 [1,0] 14 1 1 (fun r_=>⟨[(2,.b_ r1)],[.dead]⟩) ⟨[(2,.b_ false),(16,.b_ r1)],[.dead]⟩ (dR r1) fun r2=>
 .ret (aS 1) (r1)
def auJ(p_s:dQ):Option (Bool):=Mo.den (ak8 p_s)
theorem ao0(p_s:dQ):FV (auJ p_s) 319 [.dat (dQ.lf1 p_s)] .b_:=dA Tryz.func319
def KZ(p_e:aP)(r0:Bool):Mo (Bool):=
 .aC 4020 (r0) [1,2,27] 1 (vH p_e.fArg)
def ak9(p_e:aP):Mo (Bool):=
 .sf Tryz.f320 0 [1,0] 0 9 1 [(1,.ptr 0 0),(2,.b_ false)] [dL p_e] 11 (qw p_e) fun r0=>
 .sb Tryz.f320 0 [1,0] 9 5 1 [(1,.ptr 0 0),(2,.b_ false)] [dL p_e] 11 16 r0 (qx p_e r0) fun r1=>
 .sb Tryz.f320 0 [1,0] 14 6 1 [(1,.ptr 0 0),(2,.b_ false)] [dL p_e] 16 22 r1 (nU p_e r1) fun r2=>
 .sb Tryz.f320 0 [1,0] 20 5 1 [(1,.ptr 0 0),(2,.b_ false)] [dL p_e] 22 27 r2 (KZ p_e r2) fun r3=>
 .sb Tryz.f320 0 [1,0] 25 5 1 [(1,.ptr 0 0),(2,.b_ false)] [dL p_e] 27 32 r3 (nV p_e r3) fun r4=>
 .sk Tryz.f320 0 [1,0] 30 6 1 (fun r_=>⟨[(2,.b_ false),(38,.b_ r_)],[.dead]⟩) ⟨[(1,.ptr 0 0),(2,.b_ false),(32,.b_ r4)],[dL p_e]⟩ (nX p_e r4) fun r5=>
 .sk Tryz.f320 0 [1,0] 36 1 1 (fun r_=>⟨[(2,.b_ r5)],[.dead]⟩) ⟨[(2,.b_ false),(38,.b_ r5)],[.dead]⟩ (dR r5) fun r6=>
 .ret (aS 1) (r5)
def atm(p_e:aP):Option (Bool):=Mo.den (ak9 p_e)
theorem ao1(p_e:aP):FV (atm p_e) 320 [.dat (aP.lf1 p_e)] .b_:=dA Tryz.func320
def YL(p_p:aO):Mo (Bool):=
 .cl (aeQ p_p.fOp) fun r0 _=>
 .iG 4004 (!r0) (.nu p_p.cO lfS<|
 .rt [1,12] 1 (decide ((0:Int)<(p_p.cO.length:Int))))<|
 .rt [1,12] 1 (false)
def YM(p_p:aO)(r0:Bool):Mo (Bool):=
 .iG 4010 (r0) (.rt [1,24] 1 (true))<|
 .cl (aeR p_p.fOp) fun r1 _=>
 .iG 4015 (!r1) (.cl (vH p_p.fArg) fun r2 _=>
 .rt [1,24] 1 (!r2))<|
 .rt [1,24] 1 (false)
def Qy(p_p:aO)(r0:Bool):Mo (Bool):=
 .iG 4022 (r0) (.rt [1,36] 1 (true))<|
 .cl (Vx p_p.fOp) fun r1 _=>
 .iG 4027 (!r1) (.nu p_p.fArgs ah.lf<|
 .rt [1,36] 1 (decide ((0:Int)<(p_p.fArgs.length:Int))))<|
 .rt [1,36] 1 (false)
def Qz(p_p:aO):Mo (Bool):=
 .aV 8003 (p_p.fOp != 10) [1,44] 1 (p_p.fOp != 11)
def QA(p_p:aO)(r0:Bool):Mo (Bool):=
 .aV 8008 (r0) [1,49] 1 (p_p.fOp != 12)
def QB(p_p:aO)(r0:Bool):Mo (Bool):=
 .aV 8013 (r0) [1,54] 1 (p_p.fOp != 13)
def QC(p_p:aO)(r0:Bool):Mo (Bool):=
 .aV 8018 (r0) [1,59] 1 (p_p.fN != 0)
def QD(p_p:aO)(r0:Bool):Mo (Bool):=
 .iG 8023 (r0) (.rt [1,69] 1 (true))<|
 .aV 8027 (p_p.fOp != 12) [1,69] 1 (p_p.fM != 0)
def QE(p_p:aO):Mo (Bool):=
 .iG 12003 (p_p.fOp==18) (.rt [1,77] 1 (true))<|
 .cl (ao0 p_p.dY) fun r0 _=>
 .rt [1,77] 1 (r0)
def QF(p_p:aO)(r0:Bool):Mo (Bool):=
 .iG 12008 (r0) (.iG 12012 (p_p.fOp==24) (.ret ⟨[.kill 0],[87],[],1⟩ (true))<|
 .cl (ao1 p_p.fExpr) fun r1 _=>
 .ret ⟨[.kill 0],[87],[],1⟩ (r1))<|
 .ret ⟨[.kill 0],[87],[],1⟩ (false)
def apX(p_p:aO):Mo (Bool):=
 .sf Tryz.f271 0 [1,0,0] 0 10 1 [(1,.ptr 0 0)] [dw p_p] 12 (YL p_p) fun r0=>
 .sb Tryz.f271 0 [1,0,0] 10 12 1 [(1,.ptr 0 0)] [dw p_p] 12 24 r0 (YM p_p r0) fun r1=>
 .sb Tryz.f271 0 [1,0,0] 22 12 1 [(1,.ptr 0 0)] [dw p_p] 24 36 r1 (Qy p_p r1) fun r2=>
 .iB (r2) (.ret (aS 1) (false))<|
 .sf Tryz.f271 0 [1,1,0,0] 0 8 3 [(1,.ptr 0 0)] [dw p_p] 44 (Qz p_p) fun r3=>
 .sb Tryz.f271 0 [1,1,0,0] 8 5 3 [(1,.ptr 0 0)] [dw p_p] 44 49 r3 (QA p_p r3) fun r4=>
 .sb Tryz.f271 0 [1,1,0,0] 13 5 3 [(1,.ptr 0 0)] [dw p_p] 49 54 r4 (QB p_p r4) fun r5=>
 .sb Tryz.f271 0 [1,1,0,0] 18 5 3 [(1,.ptr 0 0)] [dw p_p] 54 59 r5 (QC p_p r5) fun r6=>
 .sb Tryz.f271 0 [1,1,0,0] 23 10 3 [(1,.ptr 0 0)] [dw p_p] 59 69 r6 (QD p_p r6) fun r7=>
 .iB (r7) (.ret (aS 1) (false))<|
 .sf Tryz.f271 0 [1,1,1,0] 0 8 5 [(1,.ptr 0 0)] [dw p_p] 77 (QE p_p) fun r8=>
 .sk Tryz.f271 0 [1,1,1,0] 8 10 5 (fun r_=>⟨[(87,.b_ r_)],[.dead]⟩) ⟨[(1,.ptr 0 0),(77,.b_ r8)],[dw p_p]⟩ (QF p_p r8) fun r9=>
 .sk Tryz.f271 0 [1,1,1,0] 18 1 5 (fun r_=>⟨[(2,.b_ r9)],[.dead]⟩) ⟨[(87,.b_ r9)],[.dead]⟩ (dR r9) fun r10=>
 .ret (aS 1) (r9)
def Q24(p_p:aO):Option (Bool):=Mo.den (apX p_p)
theorem atn(p_p:aO):FV (Q24 p_p) 271 [.dat (aO.lf1 p_p)] .b_:=dA Tryz.func271
def La(p_op:Int):Mo (Bool):=
 .iB (p_op==19) (.rt [3,17] 0 (p_op==19))<|
 .rt [3,17] 0 (p_op==25)
def Lc(p_op:Int):Mo (Bool):=
 .iB (p_op==4) (.rt [20] 0 (p_op==4))<|
 .iB (p_op==6) (.rt [20] 0 (p_op==6))<|
 .iB (p_op==16) (.rt [20] 0 (p_op==16))<|
 .iB (p_op==17) (.rt [20] 0 (p_op==17))<|
 .iB (p_op==21) (.rt [20] 0 (p_op==21))<|
 .iB (p_op==29) (.rt [20] 0 (p_op==29))<|
 .iB (p_op==37) (.rt [20] 0 (p_op==37))<|
 .iB (p_op==35) (.rt [20] 0 (p_op==35))<|
 .rt [20] 0 (p_op==34)
def ala(p_op:Int):Mo (Int):=
 .jk Tryz.f340 0 [1,0,1,0,0,1] 1 (fun r_=>⟨[(3,.i_ p_op),(4,.b_ r_)],[]⟩) ⟨[(3,.i_ p_op),(4,.lf (.bool (p_op==1)))],[]⟩ (CV p_op) fun r0=>
 .iB (r0) (.ret (aS 1) (0))<|
 .jk Tryz.f340 0 [1,0,1,0,1,1,0,1] 1 (fun r_=>⟨[(3,.i_ p_op),(8,.b_ r_)],[]⟩) ⟨[(3,.i_ p_op),(8,.lf (.bool (p_op==18)))],[]⟩ (CW p_op) fun r1=>
 .iB (r1) (.ret (aS 1) (1))<|
 .jk Tryz.f340 0 [1,0,1,0,1,1,1,1,0,1] 1 (fun r_=>⟨[(3,.i_ p_op),(17,.b_ r_)],[]⟩) ⟨[(3,.i_ p_op),(17,.lf (.bool (p_op==19)))],[]⟩ (La p_op) fun r2=>
 .iB (r2) (.ret (aS 1) (3))<|
 .jk Tryz.f340 0 [1,0,1,0,1,1,1,1,1,1,0,1] 1 (fun r_=>⟨[(20,.b_ r_)],[]⟩) ⟨[(3,.i_ p_op),(20,.lf (.bool (p_op==4)))],[]⟩ (Lc p_op) fun r3=>
 .iB (r3) (.ret (aS 1) ((-1)))<|
 .ret (aS 1) (2)
def auK(p_op:Int):Option (Int):=Mo.den (ala p_op)
theorem aeS(p_op:Int):FV (auK p_op) 340 [.i_ p_op] .i_:=dA Tryz.func340
def qL(p_l:List ByteArray)(v0:Int):(Int)→Mo ((Int)⊕(Unit⊕Unit)):=fun(v1)=>
 .iB (decide ((v1:Int)<v0)) (.say [.order [(true,0),(true,1),(true,2),(true,3),(true,4),(true,5),(true,6),(true,7),(true,8)] none []] ok0<|
 .gx lS_ p_l v1 fun x0 _=>
 .gx lS_ p_l v0 fun x1 _=>
 .iB (decide ((x0:ByteArray)=(x1:ByteArray))) (.rt [2] 0 (.inr (.inl ())))<|
 .rt [0,3,4] 0 (.inl (IntKind.wrap .i64 (v1+1))))<|
 .rt [0,3] 0 (.inr (.inr (())))
def F7(p_l:List ByteArray)(v0:Int)(v1:Int):Option (Unit⊕Unit):=bW (fun v_=>(qL p_l v0 v_).den) FU (v1)
def DN(p_l:List ByteArray):(Int)→Mo ((Int)⊕(Unit⊕Unit)):=fun(v0)=>
 .nu p_l lfS<|
 .iB (decide ((v0:Int)<(p_l.length:Int))) (.gx lS_ p_l v0 fun x0 _=>
 .cl (AX x0) fun r0 _=>
 .iB (!r0) (.rt [2] 0 (.inr (.inl ())))<|
 .l2m [] Tryz.f341 0 [1,0,1,0,0,1,0,0,1,1,0] 0 (fun(v1)=>⟨[(0,.lf (.rows 1 (p_l.map lfS))),(3,.i_ v0),(4,.i_ v1)],[]⟩) .ret (fun _=>⟨[(2,.b_ false)],[]⟩) (.exit 2) (fun _=>⟨[(0,.lf (.rows 1 (p_l.map lfS))),(3,.i_ v0)],[]⟩) (F7 p_l v0 0) (qL p_l v0) (0) (fun o0=>
 .rt [2] 0 (.inr (.inl ()))) fun o1=>
 .rt [0,3] 0 (.inl (IntKind.wrap .i64 (v0+1))))<|
 .rt [] 0 (.inr (.inr (())))
def ato(p_l:List ByteArray)(v0:Int):Option (Unit⊕Unit):=bW (fun v_=>(DN p_l v_).den) FU (v0)
def apY(p_l:List ByteArray):Mo (Bool):=
 .l2 Tryz.f341 0 [1,0,1,0] 0 (fun(v0)=>⟨[(0,.lf (.rows 1 (p_l.map lfS))),(3,.i_ v0)],[]⟩) .ret (fun _=>⟨[(2,.b_ false)],[]⟩) (.exit 0) (fun _=>⟨[],[]⟩) (DN p_l) (0) (fun o0=>
 .ret (aS 1) (false)) fun o1=>
 .ret (aS 1) (true)
def Q38(p_l:List ByteArray):Option (Bool):=Mo.den (apY p_l)
theorem atp(p_l:List ByteArray):FV (Q38 p_l) 341 [.lf (.rows 1 (p_l.map lfS))] .b_:=dA Tryz.func341
abbrev VA(m:ah→ah→Option (Bool)):Prop:=∀p_a p_b,FV (m p_a p_b) 200 [.dat (ah.lf1 p_a),.dat (ah.lf1 p_b)] .b_
structure Ht where
 m1:(p_a:ah)→(p_b:ah)→Option (Bool)
 ok1:VA m1
def YN(R_:Ht)(p_a:ah)(p_b:ah):Mo (Bool):=
 .oV 4005 (p_a.aF != p_b.aF) [2,3,18] 2 (p_a.fA != p_b.fA)
def YO(R_:Ht)(p_a:ah)(p_b:ah)(r0:Bool):Mo (Bool):=
 .oV 4012 (r0) [2,3,25] 2 (!decide ((p_a.fText:ByteArray)=(p_b.fText:ByteArray)))
def QG(R_:Ht)(p_a:ah)(p_b:ah)(r0:Bool):Mo (Bool):=
 .iG 4019 (r0) (.rt [2,3,34] 2 (true))<|
 .nu p_a.aW ah.lf<|
 .nu p_b.aW ah.lf<|
 .rt [2,3,34] 2 ((p_a.aW.length:Int) != (p_b.aW.length:Int))
def QH(R_:Ht)(p_a:ah)(p_b:ah)(r0:Bool):Mo (Bool):=
 .iG 4028 (r0) (.rt [2,3,43] 2 (true))<|
 .nu p_a.aU aJ.lf<|
 .nu p_b.aU aJ.lf<|
 .rt [2,3,43] 2 ((p_a.aU.length:Int) != (p_b.aU.length:Int))
def F8(R_:Ht)(p_a:ah)(p_b:ah):(Int)→Mo ((Int)⊕(Unit⊕Unit)):=fun(v0)=>
 .nu p_a.aW ah.lf<|
 .iB (decide ((v0:Int)<(p_a.aW.length:Int))) (.ask (lG p_a.aW v0) fun x0 h0=>
 .say [] (ok1 (gZ ah.bf h0))<|
 .ask (lG p_b.aW v0) fun x1 h1=>
 .say [] (ok1 (gZ ah.bf h1))<|
 .ask (R_.m1 x0 x1) fun r0 h2=>
 .say [.iY (.q 0 (.q 1 (.q 2 (.q 3 (.q 4 (.q 5 (.q 6 (.q 7 (.q 8 (.q 9 (.l 10 (.q 11 .fin)))))))))))) (some 10) [] [.row (ah.lf1 x0),.row (ah.lf1 x1),.res (.b_ r0)] [2,3,5,62] 2 [(2,.ptr 0 0),(3,.ptr 1 0),(5,.i_ v0),(62,.lf (.bool (!r0)))] [aX p_a,aX p_b]] (okc (R_.ok1 _ _ _ h2) (ok1 (rf_ ⟨[(2,.ptr 0 0),(3,.ptr 1 0),(5,.i_ v0),(62,.lf (.bool (!r0)))],[aX p_a,aX p_b]⟩)))<|
 .iB (!r0) (.ret ⟨[.kill 0,.kill 1],[4],[],2⟩ (.inr (.inl ())))<|
 .rt [2,3,5] 2 (.inl (IntKind.wrap .i64 (v0+1))))<|
 .rt [2,3] 2 (.inr (.inr (())))
def aeT(R_:Ht)(p_a:ah)(p_b:ah)(v0:Int):Option (Unit⊕Unit):=bW (fun v_=>(F8 R_ p_a p_b v_).den) FU (v0)
theorem avW:Tc (opsOf (Code.sub (bodyC Tryz.f200) [1,1,1,0,1,0,0,1,0,0,0])) [(true,0),(true,1),(true,2),(true,3),(true,4),(true,5),(true,6),(true,7),(true,8),(true,9),(true,10),(true,11),(true,12),(true,13),(true,14),(true,15),(true,16),(true,17),(true,18),(true,19),(true,20),(true,21),(true,22),(true,23),(true,24),(true,25),(false,26),(true,27),(true,28)] none=true:=by kernel_rfl
def agP(R_:Ht)(p_a:ah)(p_b:ah)(v0:Int):Mo (Bool):=
 .say [.Ag [(true,0),(true,1),(true,2),(true,3),(true,4),(true,5),(true,6),(true,7),(true,8),(true,9),(true,10),(true,11),(true,12),(true,13),(true,14),(true,15),(true,16),(true,17),(true,18),(true,19),(true,20),(true,21),(true,22),(true,23),(true,24),(true,25),(false,26),(true,27),(true,28)] none []] (ok1 avW)<|
 .gx aJ.bf p_a.aU v0 fun x0 _=>
 .gx aJ.bf p_b.aU v0 fun x1 _=>
 .iG 24013 (!decide ((x0.fName:ByteArray)=(x1.fName:ByteArray))) (.rt [2,3,6,98] 2 (true))<|
 .gx aJ.bf p_a.aU v0 fun x2 _=>
 .gx aJ.bf p_b.aU v0 fun x3 _=>
 .cl (R_.ok1 x2.fValue x3.fValue) fun r0 _=>
 .rt [2,3,6,98] 2 (!r0)
def F9(R_:Ht)(p_a:ah)(p_b:ah):(Int)→Mo ((Int)⊕(Unit⊕Unit)):=fun(v0)=>
 .nu p_a.aU aJ.lf<|
 .iB (decide ((v0:Int)<(p_a.aU.length:Int))) (.jk Tryz.f200 0 [1,1,1,0,1,0,0,1,0,0,0] 29 (fun r_=>⟨[(2,.ptr 0 0),(3,.ptr 1 0),(6,.i_ v0),(98,.b_ r_)],[aX p_a,aX p_b]⟩) ⟨[(2,.ptr 0 0),(3,.ptr 1 0),(6,.i_ v0)],[aX p_a,aX p_b]⟩ (agP R_ p_a p_b v0) fun r0=>
 .iB (r0) (.ret ⟨[.kill 0,.kill 1],[4],[],2⟩ (.inr (.inl ())))<|
 .rt [2,3,6] 2 (.inl (IntKind.wrap .i64 (v0+1))))<|
 .ret ⟨[.kill 0,.kill 1],[],[],2⟩ (.inr (.inr (())))
def aeU(R_:Ht)(p_a:ah)(p_b:ah)(v0:Int):Option (Unit⊕Unit):=bW (fun v_=>(F9 R_ p_a p_b v_).den) FU (v0)
def aeV(R_:Ht)(p_a:ah)(p_b:ah):Mo (Bool):=
 .sf Tryz.f200 0 [1,0,0] 0 12 1 [(2,.ptr 0 0),(3,.ptr 1 0)] [aX p_a,aX p_b] 18 (YN R_ p_a p_b) fun r0=>
 .sb Tryz.f200 0 [1,0,0] 12 7 1 [(2,.ptr 0 0),(3,.ptr 1 0)] [aX p_a,aX p_b] 18 25 r0 (YO R_ p_a p_b r0) fun r1=>
 .sb Tryz.f200 0 [1,0,0] 19 9 1 [(2,.ptr 0 0),(3,.ptr 1 0)] [aX p_a,aX p_b] 25 34 r1 (QG R_ p_a p_b r1) fun r2=>
 .sb Tryz.f200 0 [1,0,0] 28 9 1 [(2,.ptr 0 0),(3,.ptr 1 0)] [aX p_a,aX p_b] 34 43 r2 (QH R_ p_a p_b r2) fun r3=>
 .iB (r3) (.ret (aS 1) (false))<|
 .l2m [] Tryz.f200 0 [1,1,0,1,0] 0 (fun(v0)=>⟨[(2,.ptr 0 0),(3,.ptr 1 0),(5,.i_ v0)],[aX p_a,aX p_b]⟩) .ret (fun _=>⟨[(4,.b_ false)],[.dead,.dead]⟩) (.exit 0) (fun _=>⟨[(2,.ptr 0 0),(3,.ptr 1 0)],[aX p_a,aX p_b]⟩) (aeT R_ p_a p_b 0) (F8 R_ p_a p_b) (0) (fun o0=>
 .ret (aS 1) (false)) fun o1=>
 .l2m [] Tryz.f200 0 [1,1,1,0,1,0] 0 (fun(v1)=>⟨[(2,.ptr 0 0),(3,.ptr 1 0),(6,.i_ v1)],[aX p_a,aX p_b]⟩) .ret (fun _=>⟨[(4,.b_ false)],[.dead,.dead]⟩) (.exit 2) (fun _=>⟨[],[.dead,.dead]⟩) (aeU R_ p_a p_b 0) (F9 R_ p_a p_b) (0) (fun o2=>
 .ret (aS 1) (false)) fun o3=>
 .ret (aS 1) (true)
theorem ao2(R_:Ht):VA fun p_a p_b=>Mo.den (aeV R_ p_a p_b):=fun _ _=>dA Tryz.func200
def AZ:Nat→Ht
 |0=>{ m1:=fun p_a p_b=>none,ok1:=fun _ _ _ h=>(by cases h) }
 |n_+1=>{ m1:=fun p_a p_b=>Mo.den (aeV (AZ n_) p_a p_b),ok1:=ao2 (AZ n_) }
def Q20(p_a:ah)(p_b:ah):Option (Bool):=(AZ FU).m1 p_a p_b
theorem VB:VA Q20:=(AZ FU).ok1
theorem avX:Tc (opsOf (Code.sub (bodyC Tryz.f337) [1,0,0])) [(true,0),(true,1),(true,2),(true,3),(true,4),(true,5),(true,6),(true,7),(true,8),(true,9),(true,10),(false,11),(true,12),(true,13),(true,14),(true,15),(true,16),(true,17),(true,18),(false,19),(true,20),(true,21),(true,22),(true,23),(true,24),(true,25),(true,26),(true,27),(true,28),(true,29),(true,30),(true,31),(true,32),(true,33),(true,34),(true,35),(true,36),(true,37),(true,38),(true,39),(true,40),(true,41),(true,42)] none=true:=by kernel_rfl
def aeW(p_e:aP):Mo (Bool):=
 .say [.Ag [(true,0),(true,1),(true,2),(true,3),(true,4),(true,5),(true,6),(true,7),(true,8),(true,9),(true,10),(false,11),(true,12),(true,13),(true,14),(true,15),(true,16),(true,17),(true,18),(false,19),(true,20),(true,21),(true,22),(true,23),(true,24),(true,25),(true,26),(true,27),(true,28),(true,29),(true,30),(true,31),(true,32),(true,33),(true,34),(true,35),(true,36),(true,37),(true,38),(true,39),(true,40),(true,41),(true,42)] none []] (ok1 avX)<|
 .iG 4003 (decide ((p_e.fOp:Int)<1)) (.rt [1,46] 1 (true))<|
 .iG 4008 (decide ((37:Int)<p_e.fOp)) (.rt [1,46] 1 (true))<|
 .cl (aeS p_e.fOp) fun r0 _=>
 .iG 4013 (decide ((0:Int)≤r0)) (.nu p_e.bC aP.lf<|
 .cl (aeS p_e.fOp) fun r1 _=>
 .iG 4023 ((p_e.bC.length:Int) != r1) (.rt [1,46] 1 (true))<|
 .iG 4027 (p_e.fOp==34) (.nu p_e.bC aP.lf<|
 .nu p_e.eP lfS<|
 .iG 4035 ((p_e.bC.length:Int) != (p_e.eP.length:Int)) (.rt [1,46] 1 (true))<|
 .nu p_e.bC aP.lf<|
 .rt [1,46] 1 ((p_e.bC.length:Int)==0))<|
 .rt [1,46] 1 (false))<|
 .iG 4027 (p_e.fOp==34) (.nu p_e.bC aP.lf<|
 .nu p_e.eP lfS<|
 .iG 4035 ((p_e.bC.length:Int) != (p_e.eP.length:Int)) (.rt [1,46] 1 (true))<|
 .nu p_e.bC aP.lf<|
 .rt [1,46] 1 ((p_e.bC.length:Int)==0))<|
 .rt [1,46] 1 (false)
def aeX(p_e:aP):Mo (Bool):=
 .iG 8003 (p_e.fOp==2) (.cl (KW p_e.cO) fun r0 _=>
 .rt [1,55] 1 (!r0))<|
 .rt [1,55] 1 (false)
def YP(p_e:aP)(r0:Bool):Mo (Bool):=
 .iG 8009 (r0) (.rt [1,72] 1 (true))<|
 .iG 8013 (p_e.fOp==3) (.nu p_e.cO lfS<|
 .iG 8019 (decide ((0:Int)<(p_e.cO.length:Int))) (.cl (KW p_e.cO) fun r1 _=>
 .rt [1,72] 1 (!r1))<|
 .rt [1,72] 1 (false))<|
 .rt [1,72] 1 (false)
def YQ(p_e:aP):Mo (Bool):=
 .oV 12003 (p_e.fOp==3) [1,80] 1 (p_e.fOp==32)
def YR(p_e:aP)(r0:Bool):Mo (Bool):=
 .oV 12008 (r0) [1,85] 1 (p_e.fOp==33)
def YS(p_e:aP)(r0:Bool):Mo (Unit):=
 .rt [1,3] 1 ()
def YT(p_e:aP)(r0:Bool):Mo (Bool):=
 .iG 14001 (r0) (.cl (AX p_e.fName) fun r1 _=>
 .rt [1,3,92] 1 (!r1))<|
 .rt [1,3,92] 1 (false)
def YU(p_e:aP)(r0:Bool)(r1:Bool):Mo (Bool):=
 .iG 14007 (r1) (.rt [1,3,103] 1 (true))<|
 .iG 14011 (p_e.fOp==34) (.cl (atp p_e.eP) fun r2 _=>
 .rt [1,3,103] 1 (!r2))<|
 .rt [1,3,103] 1 (false)
def YV(p_e:aP)(r0:Bool):Mo (Bool):=
 .iG 18003 (p_e.fOp==1) (.cl (rD p_e.fArg) fun r1 _=>
 .rt [1,3,112] 1 (!r1))<|
 .rt [1,3,112] 1 (false)
def YW(p_e:aP)(r0:Bool):Mo (Bool):=
 .aV 22003 (p_e.fOp != 2) [1,3,120] 1 (p_e.fOp != 3)
def YX(p_e:aP)(r0:Bool)(r1:Bool):Mo (Bool):=
 .iG 22008 (r1) (.nu p_e.cO lfS<|
 .rt [1,3,126] 1 (decide ((0:Int)<(p_e.cO.length:Int))))<|
 .rt [1,3,126] 1 (false)
def YZ(p_e:aP)(r0:Bool)(r1:Bool):Mo (Bool):=
 .iG 22014 (r1) (.rt [1,135] 1 (true))<|
 .aV 22017 (!r0) [1,135] 1 (!decide ((p_e.fName:ByteArray)=(⟨#[]⟩:ByteArray)))
def Y0(p_e:aP)(r0:Bool):Mo (Bool):=
 .iG 22023 (r0) (.rt [1,146] 1 (true))<|
 .iG 22027 (p_e.fOp != 34) (.nu p_e.eP lfS<|
 .rt [1,146] 1 (decide ((0:Int)<(p_e.eP.length:Int))))<|
 .rt [1,146] 1 (false)
def Y1(p_e:aP)(r0:Bool):Mo (Bool):=
 .iG 22034 (r0) (.rt [1,158] 1 (true))<|
 .iG 22038 (p_e.fOp != 1) (.cl (VB p_e.fArg (ah.mk 0 0 ⟨#[]⟩ [] [])) fun r1 _=>
 .rt [1,158] 1 (!r1))<|
 .rt [1,158] 1 (false)
def Y2(p_e:aP)(r0:Bool):Mo (Bool):=
 .iG 22046 (r0) (.ret ⟨[.kill 0],[163],[],1⟩ (true))<|
 .ret ⟨[.kill 0],[163],[],1⟩ (p_e.fN != 0)
def auL(p_e:aP):Mo (Int):=
 .jk Tryz.f337 0 [1,0,0] 9 (fun r_=>⟨[(1,.ptr 0 0),(46,.b_ r_)],[dL p_e]⟩) ⟨[(1,.ptr 0 0)],[dL p_e]⟩ (aeW p_e) fun r0=>
 .iB (r0) (.ret (aS 1) (11))<|
 .sf Tryz.f337 0 [1,1,0,0] 0 9 3 [(1,.ptr 0 0)] [dL p_e] 55 (aeX p_e) fun r1=>
 .sb Tryz.f337 0 [1,1,0,0] 9 17 3 [(1,.ptr 0 0)] [dL p_e] 55 72 r1 (YP p_e r1) fun r2=>
 .iB (r2) (.ret (aS 1) (10))<|
 .sf Tryz.f337 0 [1,1,1,0] 0 8 5 [(1,.ptr 0 0)] [dL p_e] 80 (YQ p_e) fun r3=>
 .sb Tryz.f337 0 [1,1,1,0] 8 5 5 [(1,.ptr 0 0)] [dL p_e] 80 85 r3 (YR p_e r3) fun r4=>
 .sk Tryz.f337 0 [1,1,1,0] 13 1 5 (fun r_=>⟨[(1,.ptr 0 0),(3,.b_ r4)],[dL p_e]⟩) ⟨[(1,.ptr 0 0),(85,.b_ r4)],[dL p_e]⟩ (YS p_e r4) fun r5=>
 .sf Tryz.f337 0 [1,1,1,1,0,0] 0 7 6 [(1,.ptr 0 0),(3,.b_ r4)] [dL p_e] 92 (YT p_e r4) fun r6=>
 .sb Tryz.f337 0 [1,1,1,1,0,0] 7 11 6 [(1,.ptr 0 0),(3,.b_ r4)] [dL p_e] 92 103 r6 (YU p_e r4 r6) fun r7=>
 .iB (r7) (.ret (aS 1) (9))<|
 .jk Tryz.f337 0 [1,1,1,1,1,0,0] 23 (fun r_=>⟨[(1,.ptr 0 0),(3,.b_ r4),(112,.b_ r_)],[dL p_e]⟩) ⟨[(1,.ptr 0 0),(3,.b_ r4)],[dL p_e]⟩ (YV p_e r4) fun r8=>
 .iB (r8) (.ret (aS 1) (8))<|
 .sf Tryz.f337 0 [1,1,1,1,1,1,0,0] 0 8 10 [(1,.ptr 0 0),(3,.b_ r4)] [dL p_e] 120 (YW p_e r4) fun r9=>
 .sb Tryz.f337 0 [1,1,1,1,1,1,0,0] 8 6 10 [(1,.ptr 0 0),(3,.b_ r4)] [dL p_e] 120 126 r9 (YX p_e r4 r9) fun r10=>
 .sk Tryz.f337 0 [1,1,1,1,1,1,0,0] 14 9 10 (fun r_=>⟨[(1,.ptr 0 0),(135,.b_ r_)],[dL p_e]⟩) ⟨[(1,.ptr 0 0),(3,.b_ r4),(126,.b_ r10)],[dL p_e]⟩ (YZ p_e r4 r10) fun r11=>
 .sb Tryz.f337 0 [1,1,1,1,1,1,0,0] 23 11 10 [(1,.ptr 0 0)] [dL p_e] 135 146 r11 (Y0 p_e r11) fun r12=>
 .sb Tryz.f337 0 [1,1,1,1,1,1,0,0] 34 12 10 [(1,.ptr 0 0)] [dL p_e] 146 158 r12 (Y1 p_e r12) fun r13=>
 .sk Tryz.f337 0 [1,1,1,1,1,1,0,0] 46 5 10 (fun r_=>⟨[(163,.b_ r_)],[.dead]⟩) ⟨[(1,.ptr 0 0),(158,.b_ r13)],[dL p_e]⟩ (Y2 p_e r13) fun r14=>
 .iB (r14) (.ret (aS 1) (4))<|
 .ret (aS 1) (0)
def Q8(p_e:aP):Option (Int):=Mo.den (auL p_e)
theorem auM(p_e:aP):FV (Q8 p_e) 337 [.dat (aP.lf1 p_e)] .i_:=dA Tryz.func337
abbrev VD(m:aP→Int→Int→Option (Int×Int)):Prop:=∀p_e p_number p_level,FV (m p_e p_number p_level) 321 [.dat (aP.lf1 p_e),.i_ p_number,.i_ p_level] (fun r=>.tup [.i_ r.1,.i_ r.2])
structure agQ where
 m1:(p_e:aP)→(p_number:Int)→(p_level:Int)→Option (Int×Int)
 ok1:VD m1
def Ld(R_:agQ)(p_e:aP)(p_level:Int)(p_number:Int):Mo (Bool):=
 .oV 4002 (decide ((16:Int)<p_level)) [1,2,3,17] 1 (decide ((256:Int)<p_number))
def xJ(R_:agQ)(p_e:aP)(p_level:Int):(Int×Int)→Mo ((Int×Int)⊕(Int×Int)⊕(Int)):=fun(v0,v1)=>
 .nu p_e.bC aP.lf<|
 .iB (decide ((v1:Int)<(p_e.bC.length:Int))) (.gx aP.bf p_e.bC v1 fun x0 _=>
 .cl (R_.ok1 x0 (IntKind.wrap .i64 (v0+1)) (IntKind.wrap .i64 (p_level+1))) fun r0 _=>
 .iB (r0.2 != 0) (.ret ⟨[.kill 0],[6,7],[],1⟩ (.inr (.inl (r0.1,r0.2))))<|
 .rt [1,2,3,9] 1 (.inl (r0.1,IntKind.wrap .i64 (v1+1))))<|
 .ret ⟨[.kill 0],[1],[],1⟩ (.inr (.inr (v0)))
def alb(R_:agQ)(p_e:aP)(p_level:Int)(v0:Int)(v1:Int):Option ((Int×Int)⊕(Int)):=bW (fun v_=>(xJ R_ p_e p_level v_).den) FU (v0,v1)
def QI(R_:agQ)(p_e:aP)(p_number:Int)(p_level:Int):Mo (Int×Int):=
 .jk Tryz.f321 0 [1,0,0] 9 (fun r_=>⟨[(1,.i_ p_number),(2,.i_ p_level),(3,.ptr 0 0),(17,.b_ r_)],[dL p_e]⟩) ⟨[(1,.i_ p_number),(2,.i_ p_level),(3,.ptr 0 0)],[dL p_e]⟩ (Ld R_ p_e p_level p_number) fun r0=>
 .iB (r0) (.ret (aS 2) (p_number,2))<|
 .cl (auM p_e) fun r1 _=>
 .iB (r1 != 0) (.ret (aS 2) (p_number,r1))<|
 .l2m [] Tryz.f321 0 [1,1,1,0,1,0] 0 (fun(v0,v1)=>⟨[(1,.i_ v0),(2,.i_ p_level),(3,.ptr 0 0),(9,.i_ v1)],[dL p_e]⟩) .ret (fun o_=>⟨[(6,.i_ o_.1),(7,.i_ o_.2)],[.dead]⟩) (.exit 0) (fun o_=>⟨[(1,.i_ o_)],[.dead]⟩) (alb R_ p_e p_level p_number 0) (xJ R_ p_e p_level) (p_number,0) (fun o0=>
 .ret (aS 2) (o0.1,o0.2)) fun o1=>
 .ret (aS 2) (o1,0)
theorem ao3(R_:agQ):VD fun p_e p_number p_level=>Mo.den (QI R_ p_e p_number p_level):=fun _ _ _=>dA Tryz.func321
def vM:Nat→agQ
 |0=>{ m1:=fun p_e p_number p_level=>none,ok1:=fun _ _ _ _ h=>(by cases h) }
 |n_+1=>{ m1:=fun p_e p_number p_level=>Mo.den (QI (vM n_) p_e p_number p_level),ok1:=ao3 (vM n_) }
def Q46(p_e:aP)(p_number:Int)(p_level:Int):Option (Int×Int):=(vM FU).m1 p_e p_number p_level
theorem atq:VD Q46:=(vM FU).ok1
def alc(p_e:aP):Mo (Int):=
 .cl (atq p_e 1 1) fun r0 _=>
 .ret (aS 1) (r0.2)
def atr(p_e:aP):Option (Int):=Mo.den (alc p_e)
theorem ao4(p_e:aP):FV (atr p_e) 272 [.dat (aP.lf1 p_e)] .i_:=dA Tryz.func272
abbrev VE(m:aO→Bool→Option (Int)):Prop:=∀p_p p_elem,FV (m p_p p_elem) 199 [.dat (aO.lf1 p_p),.b_ p_elem] .i_
structure uj where
 m1:(p_p:aO)→(p_elem:Bool)→Option (Int)
 ok1:VE m1
def aeY(R_:uj)(p_elem:Bool)(p_p:aO):Mo (Bool):=
 .oV 4003 (decide ((p_p.fOp:Int)<1)) [1,2,16] 1 (decide ((24:Int)<p_p.fOp))
def aeZ(R_:uj)(p_elem:Bool)(p_p:aO)(r0:Bool):Mo (Bool):=
 .iG 4008 (r0) (.rt [1,2,21] 1 (true))<|
 .cl (aoX p_p) fun r1 _=>
 .rt [1,2,21] 1 (!r1)
def Y3(R_:uj)(p_elem:Bool)(p_p:aO)(r0:Bool):Mo (Bool):=
 .iG 4013 (r0) (.rt [1,2,32] 1 (true))<|
 .cl (Vx p_p.fOp) fun r1 _=>
 .iG 4017 (r1) (.nu p_p.fArgs ah.lf<|
 .rt [1,2,32] 1 ((p_p.fArgs.length:Int)==0))<|
 .rt [1,2,32] 1 (false)
def Y4(R_:uj)(p_elem:Bool)(p_p:aO)(r0:Bool):Mo (Bool):=
 .iG 4024 (r0) (.rt [1,2,37] 1 (true))<|
 .cl (aoY p_p) fun r1 _=>
 .rt [1,2,37] 1 (!r1)
def Y5(R_:uj)(p_elem:Bool)(p_p:aO):Mo (Bool):=
 .cl (aeQ p_p.fOp) fun r0 _=>
 .iG 8003 (r0) (.cl (KW p_p.cO) fun r1 _=>
 .rt [1,2,46] 1 (!r1))<|
 .rt [1,2,46] 1 (false)
def Y6(R_:uj)(p_elem:Bool)(p_p:aO)(r0:Bool):Mo (Bool):=
 .iG 8009 (r0) (.iG 8011 (p_elem) (.nu p_p.cO lfS<|
 .rt [1,2,56] 1 (!((p_p.cO.length:Int)==0)))<|
 .rt [1,2,56] 1 (true))<|
 .rt [1,2,56] 1 (false)
def Y7(R_:uj)(p_elem:Bool)(p_p:aO):Mo (Bool):=
 .cl (aeR p_p.fOp) fun r0 _=>
 .iG 12003 (r0) (.cl (rD p_p.fArg) fun r1 _=>
 .iG 12008 (!r1) (.rt [1,2,76] 1 (true))<|
 .cl (Vy p_p.fOp) fun r2 _=>
 .aV 12012 (r2) [1,2,76] 1 (p_p.fArg.aF != 4))<|
 .rt [1,2,76] 1 (false)
def DR(R_:uj)(p_elem:Bool)(p_p:aO)(v0:Int):Mo (Bool):=
 .nu p_p.fArgs ah.lf<|
 .aC 18005 (decide ((v0:Int)<(p_p.fArgs.length:Int))) [1,2,5,86] 1 (Vx p_p.fOp)
def xK(R_:uj)(p_elem:Bool)(p_p:aO):(Int)→Mo ((Int)⊕(Unit⊕Unit)):=fun(v0)=>
 .jk Tryz.f199 0 [1,1,1,1,0,1,0,0,0,0] 23 (fun r_=>⟨[(1,.b_ p_elem),(2,.ptr 0 0),(5,.i_ v0),(86,.b_ r_)],[dw p_p]⟩) ⟨[(1,.b_ p_elem),(2,.ptr 0 0),(5,.i_ v0)],[dw p_p]⟩ (DR R_ p_elem p_p v0) fun r0=>
 .iB (r0) (.gx ah.bf p_p.fArgs v0 fun x0 _=>
 .cl (rD x0) fun r1 _=>
 .iB (!r1) (.ret ⟨[.kill 0],[4],[],1⟩ (.inr (.inl ())))<|
 .rt [1,2,5] 1 (.inl (IntKind.wrap .i64 (v0+1))))<|
 .rt [1,2] 1 (.inr (.inr (())))
def acw(R_:uj)(p_elem:Bool)(p_p:aO)(v0:Int):Option (Unit⊕Unit):=bW (fun v_=>(xK R_ p_elem p_p v_).den) FU (v0)
def Y8(R_:uj)(p_elem:Bool)(p_p:aO):Mo ((Int)⊕Unit):=
 .iB (p_p.fOp==18) (.cl (atl p_p.dY) fun r0 _=>
 .iB (r0 != 0) (.ret ⟨[.kill 0],[4],[],1⟩ (.inl (r0)))<|
 .rt [1,2] 1 (.inr (())))<|
 .rt [1,2] 1 (.inr (()))
def Y9(R_:uj)(p_elem:Bool)(p_p:aO)(v0:Int):Mo (Int):=
 .ask (lG p_p.bC v0) fun x0 h0=>
 .say [] (ok1 (gZ aO.bf h0))<|
 .ite (p_elem) (fun c0=>
 .say [] (ok1 c0)<|
 .ask (R_.m1 x0 true) fun r0 h1=>
 .say [.iY (.q 0 (.q 1 (.q 2 (.q 3 (.q 4 (.q 5 (.q 6 (.q 7 (.q 8 (.q 9 (.q 10 (.l 11 (.q 12 .fin))))))))))))) (some 11) [] [.row (aO.lf1 x0),.gd 48006 true,.res (.i_ r0)] [1,2,7,8] 1 [(1,.b_ p_elem),(2,.ptr 0 0),(7,.i_ v0),(8,.i_ r0)] [dw p_p]] (okc (R_.ok1 _ _ _ h1) (ok1 (rf_ ⟨[(1,.b_ p_elem),(2,.ptr 0 0),(7,.i_ v0),(8,.i_ r0)],[dw p_p]⟩)))<|
 .rt [1,2,7,8] 1 (r0)) fun c0=>
 .say [] (ok1 c0)<|
 .ask (R_.m1 x0 (p_p.fOp==15)) fun r1 h2=>
 .say [.iY (.q 0 (.q 1 (.q 2 (.q 3 (.q 4 (.q 5 (.q 6 (.q 7 (.q 8 (.q 9 (.q 10 (.l 11 (.q 12 .fin))))))))))))) (some 11) [] [.row (aO.lf1 x0),.gd 48006 false,.res (.i_ r1)] [1,2,7,8] 1 [(1,.b_ p_elem),(2,.ptr 0 0),(7,.i_ v0),(8,.i_ r1)] [dw p_p]] (okc (R_.ok1 _ _ _ h2) (ok1 (rf_ ⟨[(1,.b_ p_elem),(2,.ptr 0 0),(7,.i_ v0),(8,.i_ r1)],[dw p_p]⟩)))<|
 .rt [1,2,7,8] 1 (r1)
def acy(R_:uj)(p_elem:Bool)(p_p:aO)(v0:Int):Option (Int):=Mo.den (Y9 R_ p_elem p_p v0)
def xM(R_:uj)(p_elem:Bool)(p_p:aO):(Int)→Mo ((Int)⊕(Int)⊕Unit):=fun(v0)=>
 .nu p_p.bC aO.lf<|
 .iB (decide ((v0:Int)<(p_p.bC.length:Int))) (.jp Tryz.f199 0 [1,1,1,1,1,1,1,1,0,1,0,0,1,0,0,0] 53 [1,2,7] 1 (.normal) (fun r_=>⟨[(1,.b_ p_elem),(2,.ptr 0 0),(7,.i_ v0),(8,.i_ r_)],[dw p_p]⟩) ⟨[(1,.b_ p_elem),(2,.ptr 0 0),(7,.i_ v0)],[dw p_p]⟩ (acy R_ p_elem p_p v0) (jW (by kernel_rfl)) fun r0 _=>
 .iB (r0 != 0) (.ret ⟨[.kill 0],[4],[],1⟩ (.inr (.inl (r0))))<|
 .rt [1,2,7] 1 (.inl (IntKind.wrap .i64 (v0+1))))<|
 .ret ⟨[.kill 0],[],[],1⟩ (.inr (.inr (())))
def vN(R_:uj)(p_elem:Bool)(p_p:aO)(v0:Int):Option ((Int)⊕Unit):=bW (fun v_=>(xM R_ p_elem p_p v_).den) FU (v0)
def ao5(R_:uj)(p_p:aO)(p_elem:Bool):Mo (Int):=
 .sf Tryz.f199 0 [1,0,0] 0 8 1 [(1,.b_ p_elem),(2,.ptr 0 0)] [dw p_p] 16 (aeY R_ p_elem p_p) fun r0=>
 .sb Tryz.f199 0 [1,0,0] 8 5 1 [(1,.b_ p_elem),(2,.ptr 0 0)] [dw p_p] 16 21 r0 (aeZ R_ p_elem p_p r0) fun r1=>
 .sb Tryz.f199 0 [1,0,0] 13 11 1 [(1,.b_ p_elem),(2,.ptr 0 0)] [dw p_p] 21 32 r1 (Y3 R_ p_elem p_p r1) fun r2=>
 .sb Tryz.f199 0 [1,0,0] 24 5 1 [(1,.b_ p_elem),(2,.ptr 0 0)] [dw p_p] 32 37 r2 (Y4 R_ p_elem p_p r2) fun r3=>
 .iB (r3) (.ret (aS 1) (11))<|
 .sf Tryz.f199 0 [1,1,0,0] 0 9 3 [(1,.b_ p_elem),(2,.ptr 0 0)] [dw p_p] 46 (Y5 R_ p_elem p_p) fun r4=>
 .sb Tryz.f199 0 [1,1,0,0] 9 10 3 [(1,.b_ p_elem),(2,.ptr 0 0)] [dw p_p] 46 56 r4 (Y6 R_ p_elem p_p r4) fun r5=>
 .iB (r5) (.ret (aS 1) (10))<|
 .jk Tryz.f199 0 [1,1,1,0,0] 17 (fun r_=>⟨[(1,.b_ p_elem),(2,.ptr 0 0),(76,.b_ r_)],[dw p_p]⟩) ⟨[(1,.b_ p_elem),(2,.ptr 0 0)],[dw p_p]⟩ (Y7 R_ p_elem p_p) fun r6=>
 .iB (r6) (.ret (aS 1) (8))<|
 .l2m [] Tryz.f199 0 [1,1,1,1,0,1,0] 0 (fun(v0)=>⟨[(1,.b_ p_elem),(2,.ptr 0 0),(5,.i_ v0)],[dw p_p]⟩) .ret (fun _=>⟨[(4,.i_ 8)],[.dead]⟩) (.exit 0) (fun _=>⟨[(1,.b_ p_elem),(2,.ptr 0 0)],[dw p_p]⟩) (acw R_ p_elem p_p 0) (xK R_ p_elem p_p) (0) (fun o0=>
 .ret (aS 1) (8)) fun o1=>
 .j2 [] Tryz.f199 0 [1,1,1,1,1,0,1] 1 .ret (fun o_=>⟨[(4,.i_ o_)],[.dead]⟩) .normal (fun _=>⟨[(1,.b_ p_elem),(2,.ptr 0 0)],[dw p_p]⟩) ⟨[(1,.b_ p_elem),(2,.ptr 0 0),(98,.lf (.bool (p_p.fOp==18)))],[dw p_p]⟩ (Y8 R_ p_elem p_p) (fun o2=>
 .ret (aS 1) (o2)) fun o3=>
 .cl (atn p_p) fun r7 _=>
 .iB (!r7) (.ret (aS 1) (4))<|
 .iB (p_p.fOp==24) (.cl (ao4 p_p.fExpr) fun r8 _=>
 .ret (aS 1) (r8))<|
 .l2m [] Tryz.f199 0 [1,1,1,1,1,1,1,1,0,1,0] 0 (fun(v1)=>⟨[(1,.b_ p_elem),(2,.ptr 0 0),(7,.i_ v1)],[dw p_p]⟩) .ret (fun o_=>⟨[(4,.i_ o_)],[.dead]⟩) (.exit 2) (fun _=>⟨[],[.dead]⟩) (vN R_ p_elem p_p 0) (xM R_ p_elem p_p) (0) (fun o4=>
 .ret (aS 1) (o4)) fun o5=>
 .ret (aS 1) (0)
theorem att(R_:uj):VE fun p_p p_elem=>Mo.den (ao5 R_ p_p p_elem):=fun _ _=>dA Tryz.func199
def pY:Nat→uj
 |0=>{ m1:=fun p_p p_elem=>none,ok1:=fun _ _ _ h=>(by cases h) }
 |n_+1=>{ m1:=fun p_p p_elem=>Mo.den (ao5 (pY n_) p_p p_elem),ok1:=att (pY n_) }
def Q2(p_p:aO)(p_elem:Bool):Option (Int):=(pY FU).m1 p_p p_elem
theorem auN:VE Q2:=(pY FU).ok1
def ald(p_p:aO):Mo (Int):=
 .cl (atf p_p 16 256) fun r0 _=>
 .iB (decide ((r0:Int)<0)) (.ret (aS 1) (2))<|
 .cl (auN p_p false) fun r1 _=>
 .ret (aS 1) (r1)
def atu(p_p:aO):Option (Int):=Mo.den (ald p_p)
theorem ao6(p_p:aO):FV (atu p_p) 129 [.dat (aO.lf1 p_p)] .i_:=dA Tryz.func129
def ale(p_a:List ByteArray)(p_b:List ByteArray):Mo (Bool):=
 .nu p_a lfS<|
 .nu p_b lfS<|
 .iB (decide (((p_b.length:Int):Int)<(p_a.length:Int))) (.ret (aS 1) (false))<|
 .l2m [] Tryz.f322 0 [1,1,0,1,0] 0 (fun(v0)=>⟨[(0,.lf (.rows 1 (p_a.map lfS))),(1,.lf (.rows 1 (p_b.map lfS))),(5,.i_ v0)],[]⟩) .ret (fun _=>⟨[(4,.b_ false)],[]⟩) (.exit 0) (fun _=>⟨[],[]⟩) (acr p_a p_b 0) (ug p_a p_b) (0) (fun o0=>
 .ret (aS 1) (false)) fun o1=>
 .ret (aS 1) (true)
def auO(p_a:List ByteArray)(p_b:List ByteArray):Option (Bool):=Mo.den (ale p_a p_b)
theorem ao7(p_a:List ByteArray)(p_b:List ByteArray):FV (auO p_a p_b) 322 [.lf (.rows 1 (p_a.map lfS)),.lf (.rows 1 (p_b.map lfS))] .b_:=dA Tryz.func322
def alf(p_a:List ByteArray)(p_b:List ByteArray):Mo (Bool):=
 .nu p_a lfS<|
 .nu p_b lfS<|
 .iG 4005 ((p_a.length:Int)==(p_b.length:Int)) (.cl (ao7 p_a p_b) fun r0 _=>
 .ret (aS 1) (r0))<|
 .ret (aS 1) (false)
def atv(p_a:List ByteArray)(p_b:List ByteArray):Option (Bool):=Mo.den (alf p_a p_b)
theorem ae0(p_a:List ByteArray)(p_b:List ByteArray):FV (atv p_a p_b) 273 [.lf (.rows 1 (p_a.map lfS)),.lf (.rows 1 (p_b.map lfS))] .b_:=dA Tryz.func273
abbrev VF(m:aP→aP→Option (Bool)):Prop:=∀p_a p_b,FV (m p_a p_b) 201 [.dat (aP.lf1 p_a),.dat (aP.lf1 p_b)] .b_
structure Lh where
 m1:(p_a:aP)→(p_b:aP)→Option (Bool)
 ok1:VF m1
def Za(R_:Lh)(p_a:aP)(p_b:aP):Mo (Bool):=
 .iG 4005 (p_a.fOp != p_b.fOp) (.rt [2,3,18] 2 (true))<|
 .cl (ae0 p_a.cO p_b.cO) fun r0 _=>
 .rt [2,3,18] 2 (!r0)
def Zb(R_:Lh)(p_a:aP)(p_b:aP)(r0:Bool):Mo (Bool):=
 .oV 4013 (r0) [2,3,25] 2 (!decide ((p_a.fName:ByteArray)=(p_b.fName:ByteArray)))
def QJ(R_:Lh)(p_a:aP)(p_b:aP)(r0:Bool):Mo (Bool):=
 .iG 4020 (r0) (.rt [2,3,33] 2 (true))<|
 .cl (ae0 p_a.eP p_b.eP) fun r1 _=>
 .rt [2,3,33] 2 (!r1)
def QK(R_:Lh)(p_a:aP)(p_b:aP)(r0:Bool):Mo (Bool):=
 .iG 4028 (r0) (.rt [2,3,41] 2 (true))<|
 .cl (VB p_a.fArg p_b.fArg) fun r1 _=>
 .rt [2,3,41] 2 (!r1)
def QL(R_:Lh)(p_a:aP)(p_b:aP)(r0:Bool):Mo (Bool):=
 .oV 4036 (r0) [2,3,48] 2 (p_a.fN != p_b.fN)
def QM(R_:Lh)(p_a:aP)(p_b:aP)(r0:Bool):Mo (Bool):=
 .iG 4043 (r0) (.rt [2,3,57] 2 (true))<|
 .nu p_a.bC aP.lf<|
 .nu p_b.bC aP.lf<|
 .rt [2,3,57] 2 ((p_a.bC.length:Int) != (p_b.bC.length:Int))
def Gf(R_:Lh)(p_a:aP)(p_b:aP):(Int)→Mo ((Int)⊕(Unit⊕Unit)):=fun(v0)=>
 .nu p_a.bC aP.lf<|
 .iB (decide ((v0:Int)<(p_a.bC.length:Int))) (.ask (lG p_a.bC v0) fun x0 h0=>
 .say [] (ok1 (gZ aP.bf h0))<|
 .ask (lG p_b.bC v0) fun x1 h1=>
 .say [] (ok1 (gZ aP.bf h1))<|
 .ask (R_.m1 x0 x1) fun r0 h2=>
 .say [.iY (.q 0 (.q 1 (.q 2 (.q 3 (.q 4 (.q 5 (.q 6 (.q 7 (.q 8 (.q 9 (.l 10 (.q 11 .fin)))))))))))) (some 10) [] [.row (aP.lf1 x0),.row (aP.lf1 x1),.res (.b_ r0)] [2,3,5,76] 2 [(2,.ptr 0 0),(3,.ptr 1 0),(5,.i_ v0),(76,.lf (.bool (!r0)))] [dL p_a,dL p_b]] (okc (R_.ok1 _ _ _ h2) (ok1 (rf_ ⟨[(2,.ptr 0 0),(3,.ptr 1 0),(5,.i_ v0),(76,.lf (.bool (!r0)))],[dL p_a,dL p_b]⟩)))<|
 .iB (!r0) (.ret ⟨[.kill 0,.kill 1],[4],[],2⟩ (.inr (.inl ())))<|
 .rt [2,3,5] 2 (.inl (IntKind.wrap .i64 (v0+1))))<|
 .ret ⟨[.kill 0,.kill 1],[],[],2⟩ (.inr (.inr (())))
def ae1(R_:Lh)(p_a:aP)(p_b:aP)(v0:Int):Option (Unit⊕Unit):=bW (fun v_=>(Gf R_ p_a p_b v_).den) FU (v0)
def ae2(R_:Lh)(p_a:aP)(p_b:aP):Mo (Bool):=
 .sf Tryz.f201 0 [1,0,0] 0 13 1 [(2,.ptr 0 0),(3,.ptr 1 0)] [dL p_a,dL p_b] 18 (Za R_ p_a p_b) fun r0=>
 .sb Tryz.f201 0 [1,0,0] 13 7 1 [(2,.ptr 0 0),(3,.ptr 1 0)] [dL p_a,dL p_b] 18 25 r0 (Zb R_ p_a p_b r0) fun r1=>
 .sb Tryz.f201 0 [1,0,0] 20 8 1 [(2,.ptr 0 0),(3,.ptr 1 0)] [dL p_a,dL p_b] 25 33 r1 (QJ R_ p_a p_b r1) fun r2=>
 .sb Tryz.f201 0 [1,0,0] 28 8 1 [(2,.ptr 0 0),(3,.ptr 1 0)] [dL p_a,dL p_b] 33 41 r2 (QK R_ p_a p_b r2) fun r3=>
 .sb Tryz.f201 0 [1,0,0] 36 7 1 [(2,.ptr 0 0),(3,.ptr 1 0)] [dL p_a,dL p_b] 41 48 r3 (QL R_ p_a p_b r3) fun r4=>
 .sb Tryz.f201 0 [1,0,0] 43 9 1 [(2,.ptr 0 0),(3,.ptr 1 0)] [dL p_a,dL p_b] 48 57 r4 (QM R_ p_a p_b r4) fun r5=>
 .iB (r5) (.ret (aS 1) (false))<|
 .l2m [] Tryz.f201 0 [1,1,0,1,0] 0 (fun(v0)=>⟨[(2,.ptr 0 0),(3,.ptr 1 0),(5,.i_ v0)],[dL p_a,dL p_b]⟩) .ret (fun _=>⟨[(4,.b_ false)],[.dead,.dead]⟩) (.exit 0) (fun _=>⟨[],[.dead,.dead]⟩) (ae1 R_ p_a p_b 0) (Gf R_ p_a p_b) (0) (fun o0=>
 .ret (aS 1) (false)) fun o1=>
 .ret (aS 1) (true)
theorem ao8(R_:Lh):VF fun p_a p_b=>Mo.den (ae2 R_ p_a p_b):=fun _ _=>dA Tryz.func201
def Gg:Nat→Lh
 |0=>{ m1:=fun p_a p_b=>none,ok1:=fun _ _ _ h=>(by cases h) }
 |n_+1=>{ m1:=fun p_a p_b=>Mo.den (ae2 (Gg n_) p_a p_b),ok1:=ao8 (Gg n_) }
def Q27(p_a:aP)(p_b:aP):Option (Bool):=(Gg FU).m1 p_a p_b
theorem atw:VF Q27:=(Gg FU).ok1
end
end Go.Proofs.YtflpefkohpjjpaaGreatDoor
