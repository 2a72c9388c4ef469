/- Printed by dec.py. -/
import Derived.Test.YtflpefkohpjjpaaGreatDoorQO7
set_option linter.unusedSimpArgs false
set_option linter.unusedVariables false
namespace Go.Proofs.YtflpefkohpjjpaaGreatDoor
open Go.RowKit
set_option maxRecDepth 20000
set_option maxHeartbeats 4000000
noncomputable section
def aeR (p_x:aG) : Mo (Bool) :=
 .ite (p_x.fOp == 0) (fun c0 =>
 .say [.gd 4003 true,.num p_x.dh.length] (okc c0 (ok1 (ln_ p_x.dh lfS))) <|
 .rt [1,2,11] 1 ((p_x.dh.length:Int) == 0)) fun c0 =>
 .say [.gd 4003 false] (ok1 c0) <|
 .rt [1,2,11] 1 (false)
def aeS (p_x:aG) (r0:Bool) : Mo (Bool) :=
 .iG 4009 (r0) (.rt [1,2,16] 1 (decide ((p_x.fName:ByteArray) = (⟨#[]⟩ : ByteArray)))) <|
 .rt [1,2,16] 1 (false)
def abo (p_x:aG) (r0:Bool) : Mo (Bool) :=
 .ite (r0) (fun c0 =>
 .say [.gd 4014 true,.num p_x.fB.length] (okc c0 (ok1 (ln_ p_x.fB lfS))) <|
 .rt [1,2,22] 1 ((p_x.fB.length:Int) == 0)) fun c0 =>
 .say [.gd 4014 false] (ok1 c0) <|
 .rt [1,2,22] 1 (false)
def abp (p_x:aG) (r0:Bool) : Mo (Bool) :=
 .iG 4020 (r0) (.cl (aeQ p_x.fArg) fun r1 _ =>
 .rt [1,2,27] 1 (r1)) <|
 .rt [1,2,27] 1 (false)
def abq (p_x:aG) (r0:Bool) : Mo (Bool) :=
 .iG 4025 (r0) (.rt [1,2,32] 1 (p_x.fN == 0)) <|
 .rt [1,2,32] 1 (false)
def abr (p_x:aG) (r0:Bool) : Mo (Bool) :=
 .ite (r0) (fun c0 =>
 .say [.gd 4030 true,.num p_x.bW.length] (okc c0 (ok1 (ln_ p_x.bW aG.lf))) <|
 .ret ⟨[.kill 0],[2,38],[],1⟩ ((p_x.bW.length:Int) == 0)) fun c0 =>
 .say [.gd 4030 false] (ok1 c0) <|
 .ret ⟨[.kill 0],[2,38],[],1⟩ (false)
def abt (r0:Bool) : Mo (Unit) :=
 .rt [2] 1 ()
def akW (p_x:aG) : Mo (Bool) :=
 .sj Tryz.f188 0 [1,0] [0,1,2,3,4,5,6,7,8] 1 9 [1,2] 1 (fun r_=>⟨[(1,.ptr 0 0),(2,.b_ false),(11,.b_ r_)],[.box 40 (.dat (aG.lf1 p_x))]⟩) ⟨[(1,.ptr 0 0),(2,.b_ false)],[.box 40 (.dat (aG.lf1 p_x))]⟩ (aeR p_x).den (sW (by kernel_rfl)) fun r0 _ =>
 .sj Tryz.f188 0 [1,0] [9,10,11,12,13] 1 5 [1,2,11] 1 (fun r_=>⟨[(1,.ptr 0 0),(2,.b_ false),(16,.b_ r_)],[.box 40 (.dat (aG.lf1 p_x))]⟩) ⟨[(1,.ptr 0 0),(2,.b_ false),(11,.b_ r0)],[.box 40 (.dat (aG.lf1 p_x))]⟩ (aeS p_x r0).den (sW (by kernel_rfl)) fun r1 _ =>
 .sj Tryz.f188 0 [1,0] [14,15,16,17,18,19] 1 6 [1,2,16] 1 (fun r_=>⟨[(1,.ptr 0 0),(2,.b_ false),(22,.b_ r_)],[.box 40 (.dat (aG.lf1 p_x))]⟩) ⟨[(1,.ptr 0 0),(2,.b_ false),(16,.b_ r1)],[.box 40 (.dat (aG.lf1 p_x))]⟩ (abo p_x r1).den (sW (by kernel_rfl)) fun r2 _ =>
 .sj Tryz.f188 0 [1,0] [20,21,22,23,24] 1 5 [1,2,22] 1 (fun r_=>⟨[(1,.ptr 0 0),(2,.b_ false),(27,.b_ r_)],[.box 40 (.dat (aG.lf1 p_x))]⟩) ⟨[(1,.ptr 0 0),(2,.b_ false),(22,.b_ r2)],[.box 40 (.dat (aG.lf1 p_x))]⟩ (abp p_x r2).den (sW (by kernel_rfl)) fun r3 _ =>
 .sj Tryz.f188 0 [1,0] [25,26,27,28,29] 1 5 [1,2,27] 1 (fun r_=>⟨[(1,.ptr 0 0),(2,.b_ false),(32,.b_ r_)],[.box 40 (.dat (aG.lf1 p_x))]⟩) ⟨[(1,.ptr 0 0),(2,.b_ false),(27,.b_ r3)],[.box 40 (.dat (aG.lf1 p_x))]⟩ (abq p_x r3).den (sW (by kernel_rfl)) fun r4 _ =>
 .sj Tryz.f188 0 [1,0] [30,31,32,33,34,35] 1 6 [1,2,32] 1 (fun r_=>⟨[(2,.b_ false),(38,.b_ r_)],[.dead]⟩) ⟨[(1,.ptr 0 0),(2,.b_ false),(32,.b_ r4)],[.box 40 (.dat (aG.lf1 p_x))]⟩ (abr p_x r4).den (sW (by kernel_rfl)) fun r5 _ =>
 .sj Tryz.f188 0 [1,0] [36] 1 1 [2,38] 1 (fun r_=>⟨[(2,.b_ r5)],[.dead]⟩) ⟨[(2,.b_ false),(38,.b_ r5)],[.dead]⟩ (abt r5).den (sW (by kernel_rfl)) fun r6 _ =>
 .ret (bf 1) (r5)
def Q70 (p_x:aG) : Option (Bool) := Mo.den (akW p_x)
theorem amZ (p_x:aG) : FV (Q70 p_x) 188 [.dat (aG.lf1 p_x)] (fun r=>.b_ r) := dU Tryz.func188 (by kernel_rfl) (fun _=>rfl) (by kernel_rfl)
def aeT (p_p:aC) : Mo (Bool) :=
 .ite (p_p.fOp == 0) (fun c0 =>
 .say [.gd 4003 true,.num p_p.dh.length] (okc c0 (ok1 (ln_ p_p.dh lfS))) <|
 .rt [1,2,11] 1 ((p_p.dh.length:Int) == 0)) fun c0 =>
 .say [.gd 4003 false] (ok1 c0) <|
 .rt [1,2,11] 1 (false)
def aeU (p_p:aC) (r0:Bool) : Mo (Bool) :=
 .iG 4009 (r0) (.cl (aeQ p_p.fArg) fun r1 _ =>
 .rt [1,2,16] 1 (r1)) <|
 .rt [1,2,16] 1 (false)
def abu (p_p:aC) (r0:Bool) : Mo (Bool) :=
 .ite (r0) (fun c0 =>
 .say [.gd 4014 true,.num p_p.fArgs.length] (okc c0 (ok1 (ln_ p_p.fArgs aj.lf))) <|
 .rt [1,2,22] 1 ((p_p.fArgs.length:Int) == 0)) fun c0 =>
 .say [.gd 4014 false] (ok1 c0) <|
 .rt [1,2,22] 1 (false)
def abv (p_p:aC) (r0:Bool) : Mo (Bool) :=
 .iG 4020 (r0) (.rt [1,2,27] 1 (p_p.fN == 0)) <|
 .rt [1,2,27] 1 (false)
def abw (p_p:aC) (r0:Bool) : Mo (Bool) :=
 .iG 4025 (r0) (.rt [1,2,32] 1 (p_p.fM == 0)) <|
 .rt [1,2,32] 1 (false)
def abx (p_p:aC) (r0:Bool) : Mo (Bool) :=
 .iG 4030 (r0) (.rt [1,2,38] 1 (p_p.dH.aF == 0)) <|
 .rt [1,2,38] 1 (false)
def aby (p_p:aC) (r0:Bool) : Mo (Bool) :=
 .ite (r0) (fun c0 =>
 .say [.gd 4036 true,.num p_p.dH.dB.length] (okc c0 (ok1 (ln_ p_p.dH.dB bG.lf))) <|
 .rt [1,2,45] 1 ((p_p.dH.dB.length:Int) == 0)) fun c0 =>
 .say [.gd 4036 false] (ok1 c0) <|
 .rt [1,2,45] 1 (false)
def abz (p_p:aC) (r0:Bool) : Mo (Bool) :=
 .iG 4043 (r0) (.rt [1,2,51] 1 (p_p.dH.fR == 0)) <|
 .rt [1,2,51] 1 (false)
def abA (p_p:aC) (r0:Bool) : Mo (Bool) :=
 .iG 4049 (r0) (.cl (amZ p_p.fExpr) fun r1 _ =>
 .rt [1,2,56] 1 (r1)) <|
 .rt [1,2,56] 1 (false)
def abB (p_p:aC) (r0:Bool) : Mo (Bool) :=
 .ite (r0) (fun c0 =>
 .say [.gd 4054 true,.num p_p.bW.length] (okc c0 (ok1 (ln_ p_p.bW aC.lf))) <|
 .ret ⟨[.kill 0],[2,62],[],1⟩ ((p_p.bW.length:Int) == 0)) fun c0 =>
 .say [.gd 4054 false] (ok1 c0) <|
 .ret ⟨[.kill 0],[2,62],[],1⟩ (false)
def abC (r0:Bool) : Mo (Unit) :=
 .rt [2] 1 ()
def akX (p_p:aC) : Mo (Bool) :=
 .sj Tryz.f119 0 [1,0] [0,1,2,3,4,5,6,7,8] 1 9 [1,2] 1 (fun r_=>⟨[(1,.ptr 0 0),(2,.b_ false),(11,.b_ r_)],[.box 43 (.dat (aC.lf1 p_p))]⟩) ⟨[(1,.ptr 0 0),(2,.b_ false)],[.box 43 (.dat (aC.lf1 p_p))]⟩ (aeT p_p).den (sW (by kernel_rfl)) fun r0 _ =>
 .sj Tryz.f119 0 [1,0] [9,10,11,12,13] 1 5 [1,2,11] 1 (fun r_=>⟨[(1,.ptr 0 0),(2,.b_ false),(16,.b_ r_)],[.box 43 (.dat (aC.lf1 p_p))]⟩) ⟨[(1,.ptr 0 0),(2,.b_ false),(11,.b_ r0)],[.box 43 (.dat (aC.lf1 p_p))]⟩ (aeU p_p r0).den (sW (by kernel_rfl)) fun r1 _ =>
 .sj Tryz.f119 0 [1,0] [14,15,16,17,18,19] 1 6 [1,2,16] 1 (fun r_=>⟨[(1,.ptr 0 0),(2,.b_ false),(22,.b_ r_)],[.box 43 (.dat (aC.lf1 p_p))]⟩) ⟨[(1,.ptr 0 0),(2,.b_ false),(16,.b_ r1)],[.box 43 (.dat (aC.lf1 p_p))]⟩ (abu p_p r1).den (sW (by kernel_rfl)) fun r2 _ =>
 .sj Tryz.f119 0 [1,0] [20,21,22,23,24] 1 5 [1,2,22] 1 (fun r_=>⟨[(1,.ptr 0 0),(2,.b_ false),(27,.b_ r_)],[.box 43 (.dat (aC.lf1 p_p))]⟩) ⟨[(1,.ptr 0 0),(2,.b_ false),(22,.b_ r2)],[.box 43 (.dat (aC.lf1 p_p))]⟩ (abv p_p r2).den (sW (by kernel_rfl)) fun r3 _ =>
 .sj Tryz.f119 0 [1,0] [25,26,27,28,29] 1 5 [1,2,27] 1 (fun r_=>⟨[(1,.ptr 0 0),(2,.b_ false),(32,.b_ r_)],[.box 43 (.dat (aC.lf1 p_p))]⟩) ⟨[(1,.ptr 0 0),(2,.b_ false),(27,.b_ r3)],[.box 43 (.dat (aC.lf1 p_p))]⟩ (abw p_p r3).den (sW (by kernel_rfl)) fun r4 _ =>
 .sj Tryz.f119 0 [1,0] [30,31,32,33,34,35] 1 6 [1,2,32] 1 (fun r_=>⟨[(1,.ptr 0 0),(2,.b_ false),(38,.b_ r_)],[.box 43 (.dat (aC.lf1 p_p))]⟩) ⟨[(1,.ptr 0 0),(2,.b_ false),(32,.b_ r4)],[.box 43 (.dat (aC.lf1 p_p))]⟩ (abx p_p r4).den (sW (by kernel_rfl)) fun r5 _ =>
 .sj Tryz.f119 0 [1,0] [36,37,38,39,40,41,42] 1 7 [1,2,38] 1 (fun r_=>⟨[(1,.ptr 0 0),(2,.b_ false),(45,.b_ r_)],[.box 43 (.dat (aC.lf1 p_p))]⟩) ⟨[(1,.ptr 0 0),(2,.b_ false),(38,.b_ r5)],[.box 43 (.dat (aC.lf1 p_p))]⟩ (aby p_p r5).den (sW (by kernel_rfl)) fun r6 _ =>
 .sj Tryz.f119 0 [1,0] [43,44,45,46,47,48] 1 6 [1,2,45] 1 (fun r_=>⟨[(1,.ptr 0 0),(2,.b_ false),(51,.b_ r_)],[.box 43 (.dat (aC.lf1 p_p))]⟩) ⟨[(1,.ptr 0 0),(2,.b_ false),(45,.b_ r6)],[.box 43 (.dat (aC.lf1 p_p))]⟩ (abz p_p r6).den (sW (by kernel_rfl)) fun r7 _ =>
 .sj Tryz.f119 0 [1,0] [49,50,51,52,53] 1 5 [1,2,51] 1 (fun r_=>⟨[(1,.ptr 0 0),(2,.b_ false),(56,.b_ r_)],[.box 43 (.dat (aC.lf1 p_p))]⟩) ⟨[(1,.ptr 0 0),(2,.b_ false),(51,.b_ r7)],[.box 43 (.dat (aC.lf1 p_p))]⟩ (abA p_p r7).den (sW (by kernel_rfl)) fun r8 _ =>
 .sj Tryz.f119 0 [1,0] [54,55,56,57,58,59] 1 6 [1,2,56] 1 (fun r_=>⟨[(2,.b_ false),(62,.b_ r_)],[.dead]⟩) ⟨[(1,.ptr 0 0),(2,.b_ false),(56,.b_ r8)],[.box 43 (.dat (aC.lf1 p_p))]⟩ (abB p_p r8).den (sW (by kernel_rfl)) fun r9 _ =>
 .sj Tryz.f119 0 [1,0] [60] 1 1 [2,62] 1 (fun r_=>⟨[(2,.b_ r9)],[.dead]⟩) ⟨[(2,.b_ false),(62,.b_ r9)],[.dead]⟩ (abC r9).den (sW (by kernel_rfl)) fun r10 _ =>
 .ret (bf 1) (r9)
def Q52 (p_p:aC) : Option (Bool) := Mo.den (akX p_p)
theorem am0 (p_p:aC) : FV (Q52 p_p) 119 [.dat (aC.lf1 p_p)] (fun r=>.b_ r) := dU Tryz.func119 (by kernel_rfl) (fun _=>rfl) (by kernel_rfl)
def Lc (p_x:aK) : Mo (Bool) :=
 .iG 8003 (decide ((p_x.aF:Int) < 1)) (.rt [1,16] 2 (true)) <|
 .rt [1,16] 2 (decide ((3:Int) < p_x.aF))
def Ld (p_x:aK) : Mo (Bool) :=
 .say [.num p_x.gG.length] (ok1 (ln_ p_x.gG aV.lf)) <|
 .iG 18004 ((p_x.gG.length:Int) == 0) (.rt [1,48] 2 (true)) <|
 .ite (p_x.aF != 1) (fun c0 =>
 .say [.gd 18008 true,.num p_x.gG.length] (okc c0 (ok1 (ln_ p_x.gG aV.lf))) <|
 .iG 18013 (decide ((1:Int) < (p_x.gG.length:Int))) (.rt [1,48] 2 (true)) <|
 .ask (fO p_x.gG 0) fun x0 h0 =>
 .say [.row (aV.lf1 x0)] (ok1 (bY aV.bD h0)) <|
 .iG 18020 (x0.yP) (.rt [1,48] 2 (true)) <|
 .rt [1,48] 2 (p_x.eP)) fun c0 =>
 .say [.gd 18008 false] (ok1 c0) <|
 .rt [1,48] 2 (false)
def aeV (p_x:aK) : Mo (Int) :=
 .say [.at_ 4 3,.MZ 1 ([p_x.fName].map lfS)] (ok1 (by simp [lfS] : [p_x.fName].map lfS = [(lfS p_x.fName)])) <|
 .cl (F7 [p_x.fName]) fun r0 _ =>
 .iB (!r0) (.ret (bf 1) (9)) <|
 .jp Tryz.f62 0 [1,1,0,0] 13 [1] 2 (.normal) (fun r_=>⟨[(1,.ptr 0 0),(16,.b_ r_)],[.box 45 (.dat (aK.lf1 p_x)),.dead]⟩) ⟨[(1,.ptr 0 0)],[.box 45 (.dat (aK.lf1 p_x)),.dead]⟩ (Lc p_x).den (jW (by kernel_rfl)) fun r1 _ =>
 .iB (r1) (.ret (bf 1) (8)) <|
 .cl (amN p_x.gG) fun r2 _ =>
 .iB (r2 != 0) (.ret (bf 1) (r2)) <|
 .jp Tryz.f62 0 [1,1,1,1,0,0] 23 [1] 2 (.normal) (fun r_=>⟨[(1,.ptr 0 0),(48,.b_ r_)],[.box 45 (.dat (aK.lf1 p_x)),.dead]⟩) ⟨[(1,.ptr 0 0)],[.box 45 (.dat (aK.lf1 p_x)),.dead]⟩ (Ld p_x).den (jW (by kernel_rfl)) fun r3 _ =>
 .iB (r3) (.ret (bf 1) (11)) <|
 .iB (p_x.iq) (.cl (ai4 p_x.bn) fun r4 _ =>
 .ret (bf 1) (r4)) <|
 .cl (am0 p_x.bn) fun r5 _ =>
 .iB (!r5) (.ret (bf 1) (4)) <|
 .ret (bf 1) (0)
def aoM (p_x:aK) : Option (Int) := Mo.den (aeV p_x)
theorem Yv (p_x:aK) : FV (aoM p_x) 62 [.dat (aK.lf1 p_x)] (fun r=>.i_ r) := dU Tryz.func62 (by kernel_rfl) (fun _=>rfl) (by kernel_rfl)
def aeW (p_x:aK) (p_b0:ByteArray) : Mo (Bool) :=
 .ret ⟨[.kill 1],[0],[],1⟩ (decide ((p_x.fName:ByteArray) = (p_b0:ByteArray)))
def aoN (p_x:aK) (p_b0:ByteArray) : Option (Bool) := Mo.den (aeW p_x p_b0)
theorem ai5 (p_x:aK) (p_b0:ByteArray) : FH (aoN p_x p_b0) 181 [.dat (aK.lf1 p_x),.ptr 0 0] [.box 9 (.dat [(.str p_b0)])] (fun r=>.b_ r) (fun _=>[.box 9 (.dat [(.str p_b0)])]) := dW Tryz.func181 (by kernel_rfl) (fun _=>rfl) (by kernel_rfl)
def Gs (p_b0:ByteArray) (p_s:List aK) : (Int) → Mo ((Int) ⊕ (Int) ⊕ Unit) := fun (v0) =>
 .iB (decide ((v0:Int) < (p_s.length:Int))) (.ask (fO p_s v0) fun x0 h0 =>
 .say [.row (aK.lf1 x0)] (ok1 (bY aK.bD h0)) <|
 .cH [0] (ai5 x0 p_b0) fun r0 _ =>
 .iB (r0) (.rt [4] 1 (.inr (.inl (v0)))) <|
 .rt [0,1,7,8] 1 (.inl (IntKind.wrap .i64 (v0 + 1)))) <|
 .rt [] 1 (.inr (.inr (())))
def aeX (p_b0:ByteArray) (p_s:List aK) (v0:Int) : Option ((Int) ⊕ Unit) := bT (fun v_=>(Gs p_b0 p_s v_).den) FU (v0)
def SV (p_b0:ByteArray) (p_s:List aK) : (Int) → St := fun (v0)=>⟨[(0,.lf (.rows 31 (p_s.map aK.lf))),(1,.clo 181 [.ptr 0 0]),(7,.i_ (p_s.length:Int)),(8,.i_ v0)],[.box 9 (.dat [(.str p_b0)])]⟩
def zO (r_:(Int) ⊕ Unit) : Exit := match r_ with
 | .inl o_=>.ret
 | .inr (o_)=>.exit 0
def zQ (p_b0:ByteArray) (r_:(Int) ⊕ Unit) : St := match r_ with
 | .inl o_=>⟨[(4,.i_ o_)],[.box 9 (.dat [(.str p_b0)])]⟩
 | .inr (o_)=>⟨[],[.box 9 (.dat [(.str p_b0)])]⟩
theorem SX {p_b0:ByteArray} {p_s:List aK} {v0:Int} {r_:(Int) ⊕ Unit} (h:aeX p_b0 p_s v0 = some r_) : eF Tryz.f180 1 [1,0,1,0] (zO r_) (zQ p_b0 r_) (SV p_b0 p_s (v0)) :=
 dK dA (body := (Code.sub (bodyC Tryz.f180) [1,0,1,0,0])) (by kernel_rfl) (Gs p_b0 p_s) (SV p_b0 p_s) zO (zQ p_b0) (fun r_=>by rcases r_ with _ | _ <;> rfl) (fun v_=>by kernel_rfl) h
def akY (p_s:List aK) (p_b0:ByteArray) : Mo (Int) :=
 .say [.num p_s.length] (ok1 (ln_ p_s aK.lf)) <|
 .fG (aeX p_b0 p_s 0) (fun o0 h0 =>
 .say [.pt_ 0 [0,1,7,8] 1 (zO (.inl o0)) (zQ p_b0 (.inl o0))] (ok1 (SX h0)) <|
 .rt [0] 1 (o0)) fun o1 h0 =>
 .say [.pt_ 0 [0,1,7,8] 1 (zO (.inr (o1))) (zQ p_b0 (.inr (o1)))] (ok1 (SX h0)) <|
 .rt [0] 1 ((-1))
def Q27 (p_s:List aK) (p_b0:ByteArray) : Option (Int) := Mo.den (akY p_s p_b0)
theorem am1 (p_s:List aK) (p_b0:ByteArray) : FH (Q27 p_s p_b0) 180 [.lf (.rows 31 (p_s.map aK.lf)),.clo 181 [.ptr 0 0]] [.box 9 (.dat [(.str p_b0)])] (fun r=>.i_ r) (fun _=>[.box 9 (.dat [(.str p_b0)])]) := dW Tryz.func180 (by kernel_rfl) (fun _=>rfl) (by kernel_rfl)
def aeY (p_l:List aK) (p_name:ByteArray) : Mo (Int) :=
 .cH [0] (am1 p_l p_name) fun r0 _ =>
 .ret (bf 1) (r0)
def am2 (p_l:List aK) (p_name:ByteArray) : Option (Int) := Mo.den (aeY p_l p_name)
theorem ai6 (p_l:List aK) (p_name:ByteArray) : FV (am2 p_l p_name) 114 [.lf (.rows 31 (p_l.map aK.lf)),.lf (.str p_name)] (fun r=>.i_ r) := dU Tryz.func114 (by kernel_rfl) (fun _=>rfl) (by kernel_rfl)
def aeZ (p_s:ByteArray) : Mo (Bool) :=
 .iG 4003 (decide (((p_s.size:Int) : Int) < 1)) (.rt [0,11] 0 (true)) <|
 .rt [0,11] 0 (decide ((32:Int) < (p_s.size:Int)))
def ae0 (p_s:ByteArray) (r0:Bool) : Mo (Bool) :=
 .iG 4008 (r0) (.rt [0,16] 0 (true)) <|
 .ask (lF p_s 0) fun b0 h0 =>
 .say [.byt b0] (ok1 (gB h0)) <|
 .rt [0,16] 0 ((b0.toNat:Int) == 36)
def abD (p_s:ByteArray) (v0:Int) : Mo (Bool) :=
 .ask (lF p_s v0) fun b0 h0 =>
 .say [.byt b0] (ok1 (gB h0)) <|
 .iG 14004 (decide (((b0.toNat:Int) : Int) < 33)) (.rt [0,3,18,19,31] 0 (true)) <|
 .ask (lF p_s v0) fun b1 h1 =>
 .say [.byt b1] (ok1 (gB h1)) <|
 .rt [0,3,18,19,31] 0 (decide ((126:Int) < (b1.toNat:Int)))
def abE (p_s:ByteArray) (r0:Bool) (v0:Int) : Mo (Bool) :=
 .iG 14010 (r0) (.rt [0,18,19,37] 0 (true)) <|
 .ask (lF p_s v0) fun b0 h0 =>
 .say [.byt b0] (ok1 (gB h0)) <|
 .rt [0,18,19,37] 0 ((b0.toNat:Int) == 46)
def Lh (p_s:ByteArray) : (Int) → Mo ((Int) ⊕ (Unit ⊕ Unit)) := fun (v0) =>
 .iB (decide ((v0:Int) < (p_s.size:Int))) (.sj Tryz.f301 0 [1,1,0,1,0,0,1,1,0,0,1,0] [0,1,2,3,4,5,6,7,8,9] 6 10 [0,3,18,19] 0 (fun r_=>⟨[(0,.lf (.str p_s)),(3,.i_ v0),(18,.i_ (p_s.size:Int)),(19,.i_ v0),(31,.b_ r_)],[]⟩) ⟨[(0,.lf (.str p_s)),(3,.i_ v0),(18,.i_ (p_s.size:Int)),(19,.i_ v0)],[]⟩ (abD p_s v0).den (sW (by kernel_rfl)) fun r0 _ =>
 .sj Tryz.f301 0 [1,1,0,1,0,0,1,1,0,0,1,0] [10,11,12,13,14,15] 6 6 [0,3,18,19,31] 0 (fun r_=>⟨[(0,.lf (.str p_s)),(18,.i_ (p_s.size:Int)),(19,.i_ v0),(37,.b_ r_)],[]⟩) ⟨[(0,.lf (.str p_s)),(3,.i_ v0),(18,.i_ (p_s.size:Int)),(19,.i_ v0),(31,.b_ r0)],[]⟩ (abE p_s r0 v0).den (sW (by kernel_rfl)) fun r1 _ =>
 .iB (r1) (.rt [2] 0 (.inr (.inl ()))) <|
 .rt [0,18,19] 0 (.inl (IntKind.wrap .i64 (v0 + 1)))) <|
 .rt [] 0 (.inr (.inr (())))
def Yw (p_s:ByteArray) (v0:Int) : Option (Unit ⊕ Unit) := bT (fun v_=>(Lh p_s v_).den) FU (v0)
def Lj (p_s:ByteArray) : (Int) → St := fun (v0)=>⟨[(0,.lf (.str p_s)),(18,.i_ (p_s.size:Int)),(19,.i_ v0)],[]⟩
def vX (r_:Unit ⊕ Unit) : Exit := match r_ with
 | .inl o_=>.ret
 | .inr (o_)=>.exit 0
def vY  (r_:Unit ⊕ Unit) : St := match r_ with
 | .inl o_=>⟨[(2,.b_ false)],[]⟩
 | .inr (o_)=>⟨[],[]⟩
theorem Ll {p_s:ByteArray} {v0:Int} {r_:Unit ⊕ Unit} (h:Yw p_s v0 = some r_) : eF Tryz.f301 0 [1,1,0,1,0] (vX r_) (vY r_) (Lj p_s (v0)) :=
 dK dA (body := (Code.sub (bodyC Tryz.f301) [1,1,0,1,0,0])) (by kernel_rfl) (Lh p_s) (Lj p_s) vX vY (fun r_=>by rcases r_ with _ | _ <;> rfl) (fun v_=>by kernel_rfl) h
def aoO (p_s:ByteArray) : Mo (Bool) :=
 .sj Tryz.f301 0 [1,0,0] [0,1,2,3,4,5,6,7] 1 8 [0] 0 (fun r_=>⟨[(0,.lf (.str p_s)),(11,.b_ r_)],[]⟩) ⟨[(0,.lf (.str p_s))],[]⟩ (aeZ p_s).den (sW (by kernel_rfl)) fun r0 _ =>
 .sj Tryz.f301 0 [1,0,0] [8,9,10,11,12] 1 5 [0,11] 0 (fun r_=>⟨[(0,.lf (.str p_s)),(16,.b_ r_)],[]⟩) ⟨[(0,.lf (.str p_s)),(11,.b_ r0)],[]⟩ (ae0 p_s r0).den (sW (by kernel_rfl)) fun r1 _ =>
 .iB (r1) (.ret (bf 1) (false)) <|
 .fG (Yw p_s 0) (fun o0 h0 =>
 .say [.pt_ 0 [0,18,19] 0 (vX (.inl o0)) (vY (.inl o0))] (ok1 (Ll h0)) <|
 .ret (bf 1) (false)) fun o1 h0 =>
 .say [.pt_ 0 [0,18,19] 0 (vX (.inr (o1))) (vY (.inr (o1)))] (ok1 (Ll h0)) <|
 .ret (bf 1) (true)
def Q44 (p_s:ByteArray) : Option (Bool) := Mo.den (aoO p_s)
theorem ae1 (p_s:ByteArray) : FV (Q44 p_s) 301 [.lf (.str p_s)] (fun r=>.b_ r) := dU Tryz.func301 (by kernel_rfl) (fun _=>rfl) (by kernel_rfl)
def ae2 (p_v:aj) : Mo (Bool) :=
 .iG 8003 (p_v.aF == 0) (.rt [3,4,15] 1 (p_v.eU == 0)) <|
 .rt [3,4,15] 1 (false)
def ae3 (p_v:aj) (r0:Bool) : Mo (Bool) :=
 .iG 8008 (r0) (.rt [3,4,20] 1 (decide ((p_v.fText:ByteArray) = (⟨#[]⟩ : ByteArray)))) <|
 .rt [3,4,20] 1 (false)
def abG (p_v:aj) (r0:Bool) : Mo (Bool) :=
 .ite (r0) (fun c0 =>
 .say [.gd 8013 true,.num p_v.aU.length] (okc c0 (ok1 (ln_ p_v.aU aj.lf))) <|
 .rt [3,4,26] 1 ((p_v.aU.length:Int) == 0)) fun c0 =>
 .say [.gd 8013 false] (ok1 c0) <|
 .rt [3,4,26] 1 (false)
def abH (p_v:aj) (r0:Bool) : Mo (Bool) :=
 .ite (r0) (fun c0 =>
 .say [.gd 8019 true,.num p_v.aX.length] (okc c0 (ok1 (ln_ p_v.aX aB.lf))) <|
 .ret ⟨[.kill 0],[4,32],[],1⟩ ((p_v.aX.length:Int) == 0)) fun c0 =>
 .say [.gd 8019 false] (ok1 c0) <|
 .ret ⟨[.kill 0],[4,32],[],1⟩ (false)
def abI (r0:Bool) : Mo (Unit) :=
 .rt [4] 1 ()
def akZ (p_has:Bool) (p_v:aj) : Mo (Bool) :=
 .iB (p_has) (.cl (lT p_v) fun r0 _ =>
 .ret (bf 1) (r0)) <|
 .sj Tryz.f302 0 [1,1,0] [0,1,2,3,4,5,6,7] 3 8 [3,4] 1 (fun r_=>⟨[(3,.ptr 0 0),(4,.b_ false),(15,.b_ r_)],[.box 25 (.dat (aj.lf1 p_v))]⟩) ⟨[(3,.ptr 0 0),(4,.b_ false)],[.box 25 (.dat (aj.lf1 p_v))]⟩ (ae2 p_v).den (sW (by kernel_rfl)) fun r1 _ =>
 .sj Tryz.f302 0 [1,1,0] [8,9,10,11,12] 3 5 [3,4,15] 1 (fun r_=>⟨[(3,.ptr 0 0),(4,.b_ false),(20,.b_ r_)],[.box 25 (.dat (aj.lf1 p_v))]⟩) ⟨[(3,.ptr 0 0),(4,.b_ false),(15,.b_ r1)],[.box 25 (.dat (aj.lf1 p_v))]⟩ (ae3 p_v r1).den (sW (by kernel_rfl)) fun r2 _ =>
 .sj Tryz.f302 0 [1,1,0] [13,14,15,16,17,18] 3 6 [3,4,20] 1 (fun r_=>⟨[(3,.ptr 0 0),(4,.b_ false),(26,.b_ r_)],[.box 25 (.dat (aj.lf1 p_v))]⟩) ⟨[(3,.ptr 0 0),(4,.b_ false),(20,.b_ r2)],[.box 25 (.dat (aj.lf1 p_v))]⟩ (abG p_v r2).den (sW (by kernel_rfl)) fun r3 _ =>
 .sj Tryz.f302 0 [1,1,0] [19,20,21,22,23,24] 3 6 [3,4,26] 1 (fun r_=>⟨[(4,.b_ false),(32,.b_ r_)],[.dead]⟩) ⟨[(3,.ptr 0 0),(4,.b_ false),(26,.b_ r3)],[.box 25 (.dat (aj.lf1 p_v))]⟩ (abH p_v r3).den (sW (by kernel_rfl)) fun r4 _ =>
 .sj Tryz.f302 0 [1,1,0] [25] 3 1 [4,32] 1 (fun r_=>⟨[(4,.b_ r4)],[.dead]⟩) ⟨[(4,.b_ false),(32,.b_ r4)],[.dead]⟩ (abI r4).den (sW (by kernel_rfl)) fun r5 _ =>
 .ret (bf 1) (r4)
def Q98 (p_has:Bool) (p_v:aj) : Option (Bool) := Mo.den (akZ p_has p_v)
theorem ae4 (p_has:Bool) (p_v:aj) : FV (Q98 p_has p_v) 302 [.b_ p_has,.dat (aj.lf1 p_v)] (fun r=>.b_ r) := dU Tryz.func302 (by kernel_rfl) (fun _=>rfl) (by kernel_rfl)
def Yx (m4820:List (ByteArray × Bool)) (p_s:aA) (v0:Int) (x0:ByteArray) : Mo (Bool) :=
 .cl (ae1 x0) fun r0 _ =>
 .ite (!r0) (fun c0 =>
 .say [.gd 12003 true] (ok1 c0) <|
 .rt [1,3,5,13,14,15,26] 2 (true)) fun c0 =>
 .say [.gd 12003 false,.row [.bool (sO m4820 x0 false)]] (okc c0 (okc (rfl:Tryz.prog = Tryz.prog) (ok1 (Fj _ _ _:lN (m4820.map mvB) x0 (.bool false) = (.bool (sO m4820 x0 false)))))) <|
 .rt [1,3,5,13,14,15,26] 2 (sO m4820 x0 false)
def Ol (p_s:aA) : (Int × (List (ByteArray × Bool))) → Mo ((Int × (List (ByteArray × Bool))) ⊕ (Unit ⊕ Unit)) := fun (v0,m4820) =>
 .iB (decide ((v0:Int) < (p_s.dN.length:Int))) (.ask (fO p_s.dN v0) fun x0 h0 =>
 .say [.row (lfS x0)] (ok1 (bY lS_ h0)) <|
 .jp Tryz.f256 0 [1,1,0,1,0,0,1,1,0,0,1,0,0] 17 [1,3,5,13,14,15] 2 (.normal) (fun r_=>⟨[(1,.ptr 0 0),(3,.mp 1),(5,.lf (.str x0)),(13,.lf (.rows 1 (p_s.dN.map lfS))),(14,.i_ (p_s.dN.length:Int)),(15,.i_ v0),(26,.b_ r_)],[.box 31 (.dat (aA.lf1 p_s)),.map Tryz.prog 9 4 (m4820.map mvB)]⟩) ⟨[(1,.ptr 0 0),(3,.mp 1),(5,.lf (.str x0)),(13,.lf (.rows 1 (p_s.dN.map lfS))),(14,.i_ (p_s.dN.length:Int)),(15,.i_ v0)],[.box 31 (.dat (aA.lf1 p_s)),.map Tryz.prog 9 4 (m4820.map mvB)]⟩ (Yx m4820 p_s v0 x0).den (jW (by kernel_rfl)) fun r0 _ =>
 .ite (r0) (fun c0 =>
 .say [.br true] (ok1 c0) <|
 .ret ⟨[.kill 0,.kill 1],[2],[],2⟩ (.inr (.inl ()))) fun c0 =>
 .say [.br false] (okc c0 (ok1 (rfl:Tryz.prog = Tryz.prog))) <|
 .grd (m4820.length < maxLen) fun h1 =>
 .say [] (ok1 (by simpa using h1:(m4820.map mvB).length < maxLen)) <|
 .rt [1,3,13,14,15] 2 (.inl (IntKind.wrap .i64 (v0 + 1),(x0,true) :: m4820))) <|
 .ret ⟨[.kill 1],[1],[],2⟩ (.inr (.inr (())))
def ak0 (p_s:aA) (v0:Int) (m4820:List (ByteArray × Bool)) : Option (Unit ⊕ Unit) := bT (fun v_=>(Ol p_s v_).den) FU (v0,m4820)
def Yy (p_s:aA) : (Int × (List (ByteArray × Bool))) → St := fun (v0,m4820)=>⟨[(1,.ptr 0 0),(3,.mp 1),(13,.lf (.rows 1 (p_s.dN.map lfS))),(14,.i_ (p_s.dN.length:Int)),(15,.i_ v0)],[.box 31 (.dat (aA.lf1 p_s)),.map Tryz.prog 9 4 (m4820.map mvB)]⟩
def EG (r_:Unit ⊕ Unit) : Exit := match r_ with
 | .inl o_=>.ret
 | .inr (o_)=>.exit 0
def EH (p_s:aA) (r_:Unit ⊕ Unit) : St := match r_ with
 | .inl o_=>⟨[(2,.i_ 9)],[.dead,.dead]⟩
 | .inr (o_)=>⟨[(1,.ptr 0 0)],[.box 31 (.dat (aA.lf1 p_s)),.dead]⟩
theorem Yz {p_s:aA} {v0:Int} {m4820:List (ByteArray × Bool)} {r_:Unit ⊕ Unit} (h:ak0 p_s v0 m4820 = some r_) : eF Tryz.f256 0 [1,1,0,1,0] (EG r_) (EH p_s r_) (Yy p_s (v0,m4820)) :=
 dK dA (body := (Code.sub (bodyC Tryz.f256) [1,1,0,1,0,0])) (by kernel_rfl) (Ol p_s) (Yy p_s) EG (EH p_s) (fun r_=>by rcases r_ with _ | _ <;> rfl) (fun v_=>by kernel_rfl) h
def SY (m4894:List (ByteArray × Bool)) (p_s:aA) (v0:Int) (x0:bC) : Mo (Bool) :=
 .cl (ae1 x0.fName) fun r0 _ =>
 .ite (!r0) (fun c0 =>
 .say [.gd 28004 true] (ok1 c0) <|
 .rt [1,6,8,32,33,34,47] 4 (true)) fun c0 =>
 .say [.gd 28004 false,.row [.bool (sO m4894 x0.fName false)]] (okc c0 (okc (rfl:Tryz.prog = Tryz.prog) (ok1 (Fj _ _ _:lN (m4894.map mvB) x0.fName (.bool false) = (.bool (sO m4894 x0.fName false)))))) <|
 .rt [1,6,8,32,33,34,47] 4 (sO m4894 x0.fName false)
def Gt (p_s:aA) : (Int × (List (ByteArray × Bool))) → Mo ((Int × (List (ByteArray × Bool))) ⊕ (Unit ⊕ Unit)) := fun (v0,m4894) =>
 .iB (decide ((v0:Int) < (p_s.dX.length:Int))) (.ask (fO p_s.dX v0) fun x0 h0 =>
 .say [.row (bC.lf1 x0)] (ok1 (bY bC.bD h0)) <|
 .jp Tryz.f256 0 [1,1,1,1,0,1,0,0,1,1,0,0,1,0,0] 33 [1,6,8,32,33,34] 4 (.normal) (fun r_=>⟨[(1,.ptr 0 0),(6,.mp 2),(8,.ptr 3 0),(32,.lf (.rows 22 (p_s.dX.map bC.lf))),(33,.i_ (p_s.dX.length:Int)),(34,.i_ v0),(47,.b_ r_)],[.box 31 (.dat (aA.lf1 p_s)),.dead,.map Tryz.prog 9 4 (m4894.map mvB),.box 224 (.agg ((bC.lf1 x0).map AV.lf))]⟩) ⟨[(1,.ptr 0 0),(6,.mp 2),(8,.ptr 3 0),(32,.lf (.rows 22 (p_s.dX.map bC.lf))),(33,.i_ (p_s.dX.length:Int)),(34,.i_ v0)],[.box 31 (.dat (aA.lf1 p_s)),.dead,.map Tryz.prog 9 4 (m4894.map mvB),.box 224 (.agg ((bC.lf1 x0).map AV.lf))]⟩ (SY m4894 p_s v0 x0).den (jW (by kernel_rfl)) fun r0 _ =>
 .ite (r0) (fun c0 =>
 .say [.br true] (ok1 c0) <|
 .ret ⟨[.kill 0,.kill 2],[2],[],3⟩ (.inr (.inl ()))) fun c0 =>
 .say [.br false] (okc c0 (ok1 (rfl:Tryz.prog = Tryz.prog))) <|
 .grd (m4894.length < maxLen) fun h1 =>
 .say [] (ok1 (by simpa using h1:(m4894.map mvB).length < maxLen)) <|
 .rt [1,6,32,33,34] 3 (.inl (IntKind.wrap .i64 (v0 + 1),(x0.fName,true) :: m4894))) <|
 .ret ⟨[.kill 2],[1],[],3⟩ (.inr (.inr (())))
def ae5 (p_s:aA) (v0:Int) (m4894:List (ByteArray × Bool)) : Option (Unit ⊕ Unit) := bT (fun v_=>(Gt p_s v_).den) FU (v0,m4894)
def S9 (p_s:aA) : (Int × (List (ByteArray × Bool))) → St := fun (v0,m4894)=>⟨[(1,.ptr 0 0),(6,.mp 2),(32,.lf (.rows 22 (p_s.dX.map bC.lf))),(33,.i_ (p_s.dX.length:Int)),(34,.i_ v0)],[.box 31 (.dat (aA.lf1 p_s)),.dead,.map Tryz.prog 9 4 (m4894.map mvB)]⟩
def zS (r_:Unit ⊕ Unit) : Exit := match r_ with
 | .inl o_=>.ret
 | .inr (o_)=>.exit 2
def zT (p_s:aA) (r_:Unit ⊕ Unit) : St := match r_ with
 | .inl o_=>⟨[(2,.i_ 9)],[.dead,.dead,.dead]⟩
 | .inr (o_)=>⟨[(1,.ptr 0 0)],[.box 31 (.dat (aA.lf1 p_s)),.dead,.dead]⟩
theorem Tc {p_s:aA} {v0:Int} {m4894:List (ByteArray × Bool)} {r_:Unit ⊕ Unit} (h:ae5 p_s v0 m4894 = some r_) : eF Tryz.f256 0 [1,1,1,1,0,1,0] (zS r_) (zT p_s r_) (S9 p_s (v0,m4894)) :=
 dK dA (body := (Code.sub (bodyC Tryz.f256) [1,1,1,1,0,1,0,0])) (by kernel_rfl) (Gt p_s) (S9 p_s) zS (zT p_s) (fun r_=>by rcases r_ with _ | _ <;> rfl) (fun v_=>by kernel_rfl) h
def Td (p_s:aA) : Mo (Bool) :=
 .iG 36004 ((eH .andNot .i64 p_s.jw 4094) != 0) (.rt [1,60] 3 (true)) <|
 .rt [1,60] 3 (decide ((p_s.iU:Int) < 0))
def Tf (p_s:aA) (r0:Bool) : Mo (Bool) :=
 .iG 36009 (r0) (.rt [1,65] 3 (true)) <|
 .rt [1,65] 3 (decide ((p_s.iV:Int) < (-1)))
def Ti (p_s:aA) (r0:Bool) : Mo (Bool) :=
 .ite (r0) (fun c0 =>
 .say [.gd 36014 true] (ok1 c0) <|
 .rt [1,71] 3 (true)) fun c0 =>
 .say [.gd 36014 false,.num p_s.fC.length] (okc c0 (ok1 (ln_ p_s.fC aA.lf))) <|
 .rt [1,71] 3 (decide ((1:Int) < (p_s.fC.length:Int)))
def Tj (p_s:aA) : Mo (Bool) :=
 .cl (ae4 p_s.iR p_s.jO) fun r0 _ =>
 .iG 40006 (!r0) (.rt [1,85] 3 (true)) <|
 .cl (ae4 p_s.iT p_s.jP) fun r1 _ =>
 .rt [1,85] 3 (!r1)
def Gu (p_s:aA) : (Int) → Mo ((Int) ⊕ (Unit ⊕ Unit)) := fun (v0) =>
 .iB (decide ((v0:Int) < (p_s.jl.length:Int))) (.ask (fO p_s.jl v0) fun x0 h0 =>
 .say [.row (aj.lf1 x0)] (ok1 (bY aj.bD h0)) <|
 .cl (lT x0) fun r0 _ =>
 .iB (!r0) (.rt [2] 3 (.inr (.inl ()))) <|
 .rt [87,88,89] 3 (.inl (IntKind.wrap .i64 (v0 + 1)))) <|
 .rt [] 3 (.inr (.inr (())))
def ae6 (p_s:aA) (v0:Int) : Option (Unit ⊕ Unit) := bT (fun v_=>(Gu p_s v_).den) FU (v0)
def Tn (p_s:aA) : (Int) → St := fun (v0)=>⟨[(87,.lf (.rows 5 (p_s.jl.map aj.lf))),(88,.i_ (p_s.jl.length:Int)),(89,.i_ v0)],[.dead,.dead,.dead]⟩
def zU (r_:Unit ⊕ Unit) : Exit := match r_ with
 | .inl o_=>.ret
 | .inr (o_)=>.exit 4
def qw  (r_:Unit ⊕ Unit) : St := match r_ with
 | .inl o_=>⟨[(2,.i_ 8)],[.dead,.dead,.dead]⟩
 | .inr (o_)=>⟨[],[.dead,.dead,.dead]⟩
theorem Tq {p_s:aA} {v0:Int} {r_:Unit ⊕ Unit} (h:ae6 p_s v0 = some r_) : eF Tryz.f256 0 [1,1,1,1,1,1,1,0,1,0] (zU r_) (qw r_) (Tn p_s (v0)) :=
 dK dA (body := (Code.sub (bodyC Tryz.f256) [1,1,1,1,1,1,1,0,1,0,0])) (by kernel_rfl) (Gu p_s) (Tn p_s) zU qw (fun r_=>by rcases r_ with _ | _ <;> rfl) (fun v_=>by kernel_rfl) h
def aoP (p_s:aA) : Mo (Int) :=
 .say [.num p_s.dN.length] (ok1 (ln_ p_s.dN lfS)) <|
 .fG (ak0 p_s 0 ([] : List (ByteArray × Bool))) (fun o0 h0 =>
 .say [.pt_ 0 [1,3,13,14,15] 2 (EG (.inl o0)) (EH p_s (.inl o0))] (ok1 (Yz h0)) <|
 .ret (bf 1) (9)) fun o1 h0 =>
 .say [.pt_ 0 [1,3,13,14,15] 2 (EG (.inr (o1))) (EH p_s (.inr (o1))),.num p_s.dX.length] (okc (Yz h0) (ok1 (ln_ p_s.dX bC.lf))) <|
 .fG (ae5 p_s 0 ([] : List (ByteArray × Bool))) (fun o2 h1 =>
 .say [.pt_ 0 [1,6,32,33,34] 3 (zS (.inl o2)) (zT p_s (.inl o2))] (ok1 (Tc h1)) <|
 .ret (bf 1) (9)) fun o3 h1 =>
 .say [.pt_ 0 [1,6,32,33,34] 3 (zS (.inr (o3))) (zT p_s (.inr (o3)))] (ok1 (Tc h1)) <|
 .sj Tryz.f256 0 [1,1,1,1,1,0,0] [0,1,2,3,4,5,6,7,8] 17 9 [1] 3 (fun r_=>⟨[(1,.ptr 0 0),(60,.b_ r_)],[.box 31 (.dat (aA.lf1 p_s)),.dead,.dead]⟩) ⟨[(1,.ptr 0 0)],[.box 31 (.dat (aA.lf1 p_s)),.dead,.dead]⟩ (Td p_s).den (sW (by kernel_rfl)) fun r0 _ =>
 .sj Tryz.f256 0 [1,1,1,1,1,0,0] [9,10,11,12,13] 17 5 [1,60] 3 (fun r_=>⟨[(1,.ptr 0 0),(65,.b_ r_)],[.box 31 (.dat (aA.lf1 p_s)),.dead,.dead]⟩) ⟨[(1,.ptr 0 0),(60,.b_ r0)],[.box 31 (.dat (aA.lf1 p_s)),.dead,.dead]⟩ (Tf p_s r0).den (sW (by kernel_rfl)) fun r1 _ =>
 .sj Tryz.f256 0 [1,1,1,1,1,0,0] [14,15,16,17,18,19] 17 6 [1,65] 3 (fun r_=>⟨[(1,.ptr 0 0),(71,.b_ r_)],[.box 31 (.dat (aA.lf1 p_s)),.dead,.dead]⟩) ⟨[(1,.ptr 0 0),(65,.b_ r1)],[.box 31 (.dat (aA.lf1 p_s)),.dead,.dead]⟩ (Ti p_s r1).den (sW (by kernel_rfl)) fun r2 _ =>
 .iB (r2) (.ret (bf 1) (1)) <|
 .jp Tryz.f256 0 [1,1,1,1,1,1,0,0] 45 [1] 3 (.normal) (fun r_=>⟨[(1,.ptr 0 0),(85,.b_ r_)],[.box 31 (.dat (aA.lf1 p_s)),.dead,.dead]⟩) ⟨[(1,.ptr 0 0)],[.box 31 (.dat (aA.lf1 p_s)),.dead,.dead]⟩ (Tj p_s).den (jW (by kernel_rfl)) fun r3 _ =>
 .ite (r3) (fun c0 =>
 .say [.br true] (ok1 c0) <|
 .ret (bf 1) (8)) fun c0 =>
 .say [.br false,.num p_s.jl.length] (okc c0 (ok1 (ln_ p_s.jl aj.lf))) <|
 .fG (ae6 p_s 0) (fun o4 h2 =>
 .say [.part [.kill 0] 0 [87,88,89] 3 (zU (.inl o4)) (qw (.inl o4)).T (qw (.inl o4)).H] (ok1 (Tq h2)) <|
 .ret (bf 1) (8)) fun o5 h2 =>
 .say [.part [.kill 0] 0 [87,88,89] 3 (zU (.inr (o5))) (qw (.inr (o5))).T (qw (.inr (o5))).H] (ok1 (Tq h2)) <|
 .ret (bf 1) (0)
def Q2 (p_s:aA) : Option (Int) := Mo.den (aoP p_s)
theorem aoQ (p_s:aA) : FV (Q2 p_s) 256 [.dat (aA.lf1 p_s)] (fun r=>.i_ r) := dU Tryz.func256 (by kernel_rfl) (fun _=>rfl) (by kernel_rfl)
structure Ef where
 m1:(p_s:aA) → (p_level:Int) → (p_b0:Int) → Option (Int × Int)
 ok1:∀ p_s p_level p_b0,FH (m1 p_s p_level p_b0) 182 [.dat (aA.lf1 p_s),.i_ p_level,.ptr 0 0] [.box 3 (.dat [(.int .i64 p_b0)])] (fun r=>.i_ r.1) (fun r=>[.box 3 (.dat [(.int .i64 r.2)])])
def Tt (R_:Ef) (p_b0:Int) (p_level:Int) (p_s:aA) : Mo (Bool) :=
 .iG 4002 (decide ((16:Int) < p_level)) (.rt [1,2,3,21] 2 (true)) <|
 .rt [1,2,3,21] 2 (p_b0 == 64)
def Gv (R_:Ef) (p_level:Int) (p_s:aA) : (Int × Int) → Mo ((Int × Int) ⊕ (Int × Int) ⊕ (Int)) := fun (v0,v1) =>
 .iB (decide ((v0:Int) < (p_s.dX.length:Int))) (.ask (fO p_s.dX v0) fun x0 h0 =>
 .say [.row (bC.lf1 x0),.at_ 22 5,.tod 40] (ok1 (bY bC.bD h0)) <|
 .cH [0] (R_.ok1 x0.aW (IntKind.wrap .i64 (p_level + 1)) v1) fun r0 _ =>
 .iB (r0.1 != 0) (.ret ⟨[.kill 1],[6],[],2⟩ (.inr (.inl (r0.1,r0.2)))) <|
 .rt [1,2,3,33,34,35] 2 (.inl (IntKind.wrap .i64 (v0 + 1),r0.2))) <|
 .rt [1,2,3] 2 (.inr (.inr (v1)))
def ae7 (R_:Ef) (p_level:Int) (p_s:aA) (v0:Int) (v1:Int) : Option ((Int × Int) ⊕ (Int)) := bT (fun v_=>(Gv R_ p_level p_s v_).den) FU (v0,v1)
def Tv (R_:Ef) (p_level:Int) (p_s:aA) : (Int × Int) → St := fun (v0,v1)=>⟨[(1,.i_ p_level),(2,.ptr 0 0),(3,.ptr 1 0),(33,.lf (.rows 22 (p_s.dX.map bC.lf))),(34,.i_ (p_s.dX.length:Int)),(35,.i_ v0)],[.box 3 (.dat [(.int .i64 v1)]),.box 31 (.dat (aA.lf1 p_s))]⟩
def zV (r_:(Int × Int) ⊕ (Int)) : Exit := match r_ with
 | .inl o_=>.ret
 | .inr (o_)=>.exit 0
def zW (p_level:Int) (p_s:aA) (r_:(Int × Int) ⊕ (Int)) : St := match r_ with
 | .inl o_=>⟨[(6,.i_ o_.1)],[.box 3 (.dat [(.int .i64 o_.2)]),.dead]⟩
 | .inr (o_)=>⟨[(1,.i_ p_level),(2,.ptr 0 0),(3,.ptr 1 0)],[.box 3 (.dat [(.int .i64 o_)]),.box 31 (.dat (aA.lf1 p_s))]⟩
theorem Tz {R_:Ef} {p_level:Int} {p_s:aA} {v0:Int} {v1:Int} {r_:(Int × Int) ⊕ (Int)} (h:ae7 R_ p_level p_s v0 v1 = some r_) : eF Tryz.f182 1 [1,1,1,1,0,1,0] (zV r_) (zW p_level p_s r_) (Tv R_ p_level p_s (v0,v1)) :=
 dK dA (body := (Code.sub (bodyC Tryz.f182) [1,1,1,1,0,1,0,0])) (by kernel_rfl) (Gv R_ p_level p_s) (Tv R_ p_level p_s) zV (zW p_level p_s) (fun r_=>by rcases r_ with _ | _ <;> rfl) (fun v_=>by kernel_rfl) h
def Cj (R_:Ef) (p_level:Int) (p_s:aA) : (Int × Int) → Mo ((Int × Int) ⊕ (Int × Int) ⊕ (Int)) := fun (v0,v1) =>
 .iB (decide ((v0:Int) < (p_s.fC.length:Int))) (.ask (fO p_s.fC v0) fun x0 h0 =>
 .say [.row (aA.lf1 x0),.at_ 36 4,.tod 56] (ok1 (bY aA.bD h0)) <|
 .cH [0] (R_.ok1 x0 (IntKind.wrap .i64 (p_level + 1)) v1) fun r0 _ =>
 .iB (r0.1 != 0) (.rt [6] 2 (.inr (.inl (r0.1,r0.2)))) <|
 .rt [1,2,50,51,52] 2 (.inl (IntKind.wrap .i64 (v0 + 1),r0.2))) <|
 .rt [] 2 (.inr (.inr (v1)))
def YA (R_:Ef) (p_level:Int) (p_s:aA) (v0:Int) (v1:Int) : Option ((Int × Int) ⊕ (Int)) := bT (fun v_=>(Cj R_ p_level p_s v_).den) FU (v0,v1)
def Lm (R_:Ef) (p_level:Int) (p_s:aA) : (Int × Int) → St := fun (v0,v1)=>⟨[(1,.i_ p_level),(2,.ptr 0 0),(50,.lf (.rows 21 (p_s.fC.map aA.lf))),(51,.i_ (p_s.fC.length:Int)),(52,.i_ v0)],[.box 3 (.dat [(.int .i64 v1)]),.dead]⟩
def vZ (r_:(Int × Int) ⊕ (Int)) : Exit := match r_ with
 | .inl o_=>.ret
 | .inr (o_)=>.exit 2
def og  (r_:(Int × Int) ⊕ (Int)) : St := match r_ with
 | .inl o_=>⟨[(6,.i_ o_.1)],[.box 3 (.dat [(.int .i64 o_.2)]),.dead]⟩
 | .inr (o_)=>⟨[],[.box 3 (.dat [(.int .i64 o_)]),.dead]⟩
theorem Lp {R_:Ef} {p_level:Int} {p_s:aA} {v0:Int} {v1:Int} {r_:(Int × Int) ⊕ (Int)} (h:YA R_ p_level p_s v0 v1 = some r_) : eF Tryz.f182 1 [1,1,1,1,1,0,1,0] (vZ r_) (og r_) (Lm R_ p_level p_s (v0,v1)) :=
 dK dA (body := (Code.sub (bodyC Tryz.f182) [1,1,1,1,1,0,1,0,0])) (by kernel_rfl) (Cj R_ p_level p_s) (Lm R_ p_level p_s) vZ og (fun r_=>by rcases r_ with _ | _ <;> rfl) (fun v_=>by kernel_rfl) h
def ae8 (R_:Ef) (p_s:aA) (p_level:Int) (p_b0:Int) : Mo (Int × Int) :=
 .jp Tryz.f182 1 [1,0,0] 9 [1,2,3] 2 (.normal) (fun r_=>⟨[(1,.i_ p_level),(2,.ptr 0 0),(3,.ptr 1 0),(21,.b_ r_)],[.box 3 (.dat [(.int .i64 p_b0)]),.box 31 (.dat (aA.lf1 p_s))]⟩) ⟨[(1,.i_ p_level),(2,.ptr 0 0),(3,.ptr 1 0)],[.box 3 (.dat [(.int .i64 p_b0)]),.box 31 (.dat (aA.lf1 p_s))]⟩ (Tt R_ p_b0 p_level p_s).den (jW (by kernel_rfl)) fun r0 _ =>
 .iB (r0) (.ret ⟨[.kill 1],[0],[],1⟩ (2,p_b0)) <|
 .cl (aoQ p_s) fun r1 _ =>
 .ite (r1 != 0) (fun c0 =>
 .say [.br true] (ok1 c0) <|
 .ret ⟨[.kill 1],[0],[],1⟩ (r1,IntKind.wrap .i64 (p_b0 + 1))) fun c0 =>
 .say [.br false,.num p_s.dX.length] (okc c0 (ok1 (ln_ p_s.dX bC.lf))) <|
 .fG (ae7 R_ p_level p_s 0 (IntKind.wrap .i64 (p_b0 + 1))) (fun o0 h0 =>
 .say [.pt_ 0 [1,2,3,33,34,35] 2 (zV (.inl o0)) (zW p_level p_s (.inl o0))] (ok1 (Tz h0)) <|
 .rt [0] 1 (o0.1,o0.2)) fun o1 h0 =>
 .say [.pt_ 0 [1,2,3,33,34,35] 2 (zV (.inr (o1))) (zW p_level p_s (.inr (o1))),.num p_s.fC.length] (okc (Tz h0) (ok1 (ln_ p_s.fC aA.lf))) <|
 .fG (YA R_ p_level p_s 0 o1) (fun o2 h1 =>
 .say [.part [.kill 1] 0 [1,2,50,51,52] 2 (vZ (.inl o2)) (og (.inl o2)).T (og (.inl o2)).H] (ok1 (Lp h1)) <|
 .rt [0] 1 (o2.1,o2.2)) fun o3 h1 =>
 .say [.part [.kill 1] 0 [1,2,50,51,52] 2 (vZ (.inr (o3))) (og (.inr (o3))).T (og (.inr (o3))).H] (ok1 (Lp h1)) <|
 .rt [0] 1 (0,o3)
theorem ai7 (R_:Ef) (p_s:aA) (p_level:Int) (p_b0:Int) : FH (Mo.den (ae8 R_ p_s p_level p_b0)) 182 [.dat (aA.lf1 p_s),.i_ p_level,.ptr 0 0] [.box 3 (.dat [(.int .i64 p_b0)])] (fun r=>.i_ r.1) (fun r=>[.box 3 (.dat [(.int .i64 r.2)])]) := dW Tryz.func182 (by kernel_rfl) (fun _=>rfl) (by kernel_rfl)
def qY:Nat → Ef
 | 0=>{ m1 := fun p_s p_level p_b0=>none,ok1 := fun _ _ _ _ h=>(by cases h) }
 | n_ + 1=>{ m1 := fun p_s p_level p_b0=>Mo.den (ae8 (qY n_) p_s p_level p_b0),ok1 := ai7 (qY n_) }
def Q19 (p_s:aA) (p_level:Int) (p_b0:Int) : Option (Int × Int) := (qY FU).m1 p_s p_level p_b0
theorem am3 (p_s:aA) (p_level:Int) (p_b0:Int) : FH (Q19 p_s p_level p_b0) 182 [.dat (aA.lf1 p_s),.i_ p_level,.ptr 0 0] [.box 3 (.dat [(.int .i64 p_b0)])] (fun r=>.i_ r.1) (fun r=>[.box 3 (.dat [(.int .i64 r.2)])]) := (qY FU).ok1 p_s p_level p_b0
def ae9 (p_s:aA) : Mo (Int) :=
 .cH [1] (am3 p_s 1 0) fun r0 _ =>
 .ret (bf 1) (r0.1)
def aoR (p_s:aA) : Option (Int) := Mo.den (ae9 p_s)
theorem ai8 (p_s:aA) : FV (aoR p_s) 115 [.dat (aA.lf1 p_s)] (fun r=>.i_ r) := dU Tryz.func115 (by kernel_rfl) (fun _=>rfl) (by kernel_rfl)
def Gw (p_d:bV) : (Int) → Mo ((Int) ⊕ (Int) ⊕ Unit) := fun (v0) =>
 .iB (decide ((v0:Int) < (p_d.cu.length:Int))) (.ask (fO p_d.cu v0) fun x0 h0 =>
 .say [.row (aK.lf1 x0)] (ok1 (bY aK.bD h0)) <|
 .cl (Yv x0) fun r0 _ =>
 .ite (r0 != 0) (fun c0 =>
 .say [.br true] (ok1 c0) <|
 .ret ⟨[.kill 0],[2],[],1⟩ (.inr (.inl (r0)))) fun c0 =>
 .say [.br false] (okc c0 (ok1 (by first | (simp [aK.bD]; done) | exact Fp _ _ _:(p_d.cu.take v0.toNat).map aK.lf = ((p_d.cu.map aK.lf).take v0.toNat).drop (0:Int).toNat))) <|
 .grd ((0:Int) ≤ 0 ∧ 0 ≤ v0 ∧ v0 ≤ (p_d.cu.length:Int)) fun h1 =>
 .say [] (ok1 (by simpa using h1:(0:Int) ≤ 0 ∧ 0 ≤ v0 ∧ v0 ≤ ((p_d.cu.map aK.lf).length:Int))) <|
 .ask (am2 (p_d.cu.take v0.toNat) x0.fName) fun r1 h2 =>
 .say [.jX (.q 0 (.q 1 (.q 2 (.q 3 (.q 4 (.q 5 (.l 6 (.q 7 .fin)))))))) (some 6) [] [.rows ((p_d.cu.take v0.toNat).map aK.lf),.res (.i_ r1)] [1,15,16,17,34] 2 [(1,.ptr 0 0),(15,.lf (.rows 31 (p_d.cu.map aK.lf))),(16,.i_ (p_d.cu.length:Int)),(17,.i_ v0),(34,.lf (.bool (decide ((0:Int) ≤ r1))))] [.box 33 (.dat (bV.lf1 p_d)),.box 45 (.agg ((aK.lf1 x0).map AV.lf))]] (okc (ai6 _ _ _ h2) (ok1 (rf_ ⟨[(1,.ptr 0 0),(15,.lf (.rows 31 (p_d.cu.map aK.lf))),(16,.i_ (p_d.cu.length:Int)),(17,.i_ v0),(34,.lf (.bool (decide ((0:Int) ≤ r1))))],[.box 33 (.dat (bV.lf1 p_d)),.box 45 (.agg ((aK.lf1 x0).map AV.lf))]⟩))) <|
 .iB (decide ((0:Int) ≤ r1)) (.ret ⟨[.kill 0],[2],[],1⟩ (.inr (.inl (16)))) <|
 .rt [1,15,16,17] 1 (.inl (IntKind.wrap .i64 (v0 + 1)))) <|
 .rt [1] 1 (.inr (.inr (())))
def afa (p_d:bV) (v0:Int) : Option ((Int) ⊕ Unit) := bT (fun v_=>(Gw p_d v_).den) FU (v0)
def TA (p_d:bV) : (Int) → St := fun (v0)=>⟨[(1,.ptr 0 0),(15,.lf (.rows 31 (p_d.cu.map aK.lf))),(16,.i_ (p_d.cu.length:Int)),(17,.i_ v0)],[.box 33 (.dat (bV.lf1 p_d))]⟩
def zX (r_:(Int) ⊕ Unit) : Exit := match r_ with
 | .inl o_=>.ret
 | .inr (o_)=>.exit 0
def zY (p_d:bV) (r_:(Int) ⊕ Unit) : St := match r_ with
 | .inl o_=>⟨[(2,.i_ o_)],[.dead]⟩
 | .inr (o_)=>⟨[(1,.ptr 0 0)],[.box 33 (.dat (bV.lf1 p_d))]⟩
theorem TB {p_d:bV} {v0:Int} {r_:(Int) ⊕ Unit} (h:afa p_d v0 = some r_) : eF Tryz.f61 0 [1,1,1,0,1,0] (zX r_) (zY p_d r_) (TA p_d (v0)) :=
 dK dA (body := (Code.sub (bodyC Tryz.f61) [1,1,1,0,1,0,0])) (by kernel_rfl) (Gw p_d) (TA p_d) zX (zY p_d) (fun r_=>by rcases r_ with _ | _ <;> rfl) (fun v_=>by kernel_rfl) h
def TF (p_d:bV) : Mo (Bool) :=
 .iG 30003 (decide ((p_d.kX:Int) < 0)) (.rt [1,43] 1 (true)) <|
 .rt [1,43] 1 (decide ((2:Int) < p_d.kX))
def Lr (p_d:bV) : Mo (Bool) :=
 .iG 34003 (p_d.iW != 0) (.rt [1,51] 1 (p_d.iW != 1)) <|
 .rt [1,51] 1 (false)
def ak1 (p_d:bV) : Mo (Int) :=
 .cl (amI p_d.fName) fun r0 _ =>
 .ite (!r0) (fun c0 =>
 .say [.br true] (ok1 c0) <|
 .ret (bf 1) (9)) fun c0 =>
 .say [.br false,.num p_d.cu.length] (okc c0 (ok1 (ln_ p_d.cu aK.lf))) <|
 .ite (decide ((16:Int) < (p_d.cu.length:Int))) (fun c1 =>
 .say [.br true] (ok1 c1) <|
 .ret (bf 1) (2)) fun c1 =>
 .say [.br false,.num p_d.cu.length] (okc c1 (ok1 (ln_ p_d.cu aK.lf))) <|
 .fG (afa p_d 0) (fun o0 h0 =>
 .say [.pt_ 0 [1,15,16,17] 1 (zX (.inl o0)) (zY p_d (.inl o0))] (ok1 (TB h0)) <|
 .ret (bf 1) (o0)) fun o1 h0 =>
 .say [.pt_ 0 [1,15,16,17] 1 (zX (.inr (o1))) (zY p_d (.inr (o1)))] (ok1 (TB h0)) <|
 .jp Tryz.f61 0 [1,1,1,1,0,0] 35 [1] 1 (.normal) (fun r_=>⟨[(1,.ptr 0 0),(43,.b_ r_)],[.box 33 (.dat (bV.lf1 p_d))]⟩) ⟨[(1,.ptr 0 0)],[.box 33 (.dat (bV.lf1 p_d))]⟩ (TF p_d).den (jW (by kernel_rfl)) fun r1 _ =>
 .iB (r1) (.ret (bf 1) (1)) <|
 .jp Tryz.f61 0 [1,1,1,1,1,0,0] 39 [1] 1 (.normal) (fun r_=>⟨[(1,.ptr 0 0),(51,.b_ r_)],[.box 33 (.dat (bV.lf1 p_d))]⟩) ⟨[(1,.ptr 0 0)],[.box 33 (.dat (bV.lf1 p_d))]⟩ (Lr p_d).den (jW (by kernel_rfl)) fun r2 _ =>
 .iB (r2) (.ret (bf 1) (1)) <|
 .cl (ai8 p_d.aW) fun r3 _ =>
 .ret (bf 1) (r3)
def Q48 (p_d:bV) : Option (Int) := Mo.den (ak1 p_d)
theorem am4 (p_d:bV) : FV (Q48 p_d) 61 [.dat (bV.lf1 p_d)] (fun r=>.i_ r) := dU Tryz.func61 (by kernel_rfl) (fun _=>rfl) (by kernel_rfl)
structure RB1 where
 m1:(p_w:ak) → (p_least:Int) → (p_greatest:Int) → Option (Int)
 ok1:∀ p_w p_least p_greatest,FV (m1 p_w p_least p_greatest) 30 [.dat (ak.lf1 p_w),.i_ p_least,.i_ p_greatest] (fun r=>.i_ r)
def YB (R_:RB1) (p_greatest:Int) (p_least:Int) (p_w:ak) (r0:aH) : Mo (Bool) :=
 .iG 6004 (decide ((p_w.aF:Int) < p_least)) (.rt [2,3,7,24] 2 (true)) <|
 .rt [2,3,7,24] 2 (decide ((p_greatest:Int) < p_w.aF))
def YC (R_:RB1) (p_greatest:Int) (p_w:ak) (r0:aH) (r1:Bool) : Mo (Bool) :=
 .iG 6010 (r1) (.rt [2,3,7,29] 2 (true)) <|
 .cl (amv p_w) fun r2 _ =>
 .rt [2,3,7,29] 2 (!r2)
def TG (R_:RB1) (p_greatest:Int) (p_w:ak) (r0:aH) (r1:Bool) : Mo (Bool) :=
 .iG 6015 (r1) (.rt [2,3,7,39] 2 (true)) <|
 .ite (r0.kS) (fun c0 =>
 .say [.gd 6018 true,.num p_w.dG.length] (okc c0 (ok1 (ln_ p_w.dG ak.lf))) <|
 .rt [2,3,7,39] 2 ((p_w.dG.length:Int) == 0)) fun c0 =>
 .say [.gd 6018 false] (ok1 c0) <|
 .rt [2,3,7,39] 2 (false)
def TJ (R_:RB1) (p_greatest:Int) (p_w:ak) (r0:aH) : Mo (Bool) :=
 .iG 14002 (r0.mF) (.cl (NW p_w.fQ) fun r1 _ =>
 .rt [2,3,7,51] 2 (!r1)) <|
 .rt [2,3,7,51] 2 (false)
def TK (R_:RB1) (p_greatest:Int) (p_w:ak) (r0:aH) (r1:Bool) : Mo (Bool) :=
 .iG 14008 (r1) (.rt [2,3,7,61] 2 (true)) <|
 .iG 14011 (r0.BK) (.cl (NW p_w.lQ) fun r2 _ =>
 .rt [2,3,7,61] 2 (!r2)) <|
 .rt [2,3,7,61] 2 (false)
def TL (R_:RB1) (p_greatest:Int) (p_w:ak) (r0:aH) (r1:Bool) : Mo (Bool) :=
 .iG 14018 (r1) (.rt [2,3,7,72] 2 (true)) <|
 .iG 14021 (r0.gW) (.cl (NW p_w.aT.fName) fun r2 _ =>
 .rt [2,3,7,72] 2 (!r2)) <|
 .rt [2,3,7,72] 2 (false)
def TM (R_:RB1) (p_greatest:Int) (p_w:ak) (r0:aH) : Mo (Bool) :=
 .iG 18002 (r0.mG) (.cl (aiF p_w) fun r1 _ =>
 .rt [2,3,7,79] 2 (!r1)) <|
 .rt [2,3,7,79] 2 (false)
def TN (R_:RB1) (p_greatest:Int) (p_w:ak) (r0:aH) (r1:Bool) : Mo (Bool) :=
 .iG 18007 (r1) (.rt [2,3,7,89] 2 (true)) <|
 .iG 18010 (r0.kT) (.cl (amw p_w.dO) fun r2 _ =>
 .rt [2,3,7,89] 2 (!r2)) <|
 .rt [2,3,7,89] 2 (false)
def Gx (R_:RB1) (p_greatest:Int) (p_w:ak) (r0:aH) : Mo ((Int) ⊕ Unit) :=
 .iB (r0.yQ) (.cl (amH p_w) fun r1 _ =>
 .iB (r1 != 0) (.ret ⟨[.kill 0],[6],[],2⟩ (.inl (r1))) <|
 .rt [2,3] 2 (.inr (()))) <|
 .rt [2,3] 2 (.inr (()))
def afb (R_:RB1) (p_greatest:Int) (p_w:ak) (r0:aH) : Option ((Int) ⊕ Unit) := Mo.den (Gx R_ p_greatest p_w r0)
def zZ (r_:(Int) ⊕ Unit) : Exit := match r_ with
 | .inl o_=>.ret
 | .inr (o_)=>.normal
def qx (p_greatest:Int) (p_w:ak) (r_:(Int) ⊕ Unit) : St := match r_ with
 | .inl o_=>⟨[(6,.i_ o_)],[.dead,.dead]⟩
 | .inr (o_)=>⟨[(2,.i_ p_greatest),(3,.ptr 0 0)],[.box 49 (.dat (ak.lf1 p_w)),.dead]⟩
theorem TP {R_:RB1} {p_greatest:Int} {p_w:ak} {r0:aH} {r_:(Int) ⊕ Unit} (h:afb R_ p_greatest p_w r0 = some r_) : eF Tryz.f30 0 [1,1,1,1,1,1,0,1] (zZ r_) (qx p_greatest p_w r_) ⟨[(2,.i_ p_greatest),(3,.ptr 0 0),(91,.b_ r0.yQ)],[.box 49 (.dat (ak.lf1 p_w)),.dead]⟩ :=
 iE dA (Gx R_ p_greatest p_w r0) zZ (qx p_greatest p_w) (by kernel_rfl) h
def Gy (R_:RB1) (p_greatest:Int) (p_w:ak) : Mo ((Int) ⊕ (Int)) :=
 .iB (p_w.aF == 4) (.cl (am4 p_w.dD) fun r0 _ =>
 .ret ⟨[.kill 0],[6],[],2⟩ (.inl (r0))) <|
 .iB (p_w.aF == 6) (.cl (Yv p_w.aT) fun r1 _ =>
 .ret ⟨[.kill 0],[6],[],2⟩ (.inl (r1))) <|
 .iB (p_w.aF == 8) (.rt [2,3] 2 (.inr (7))) <|
 .iB (p_w.aF == 9) (.rt [2,3] 2 (.inr (3))) <|
 .rt [2,3] 2 (.inr (p_greatest))
def afc (R_:RB1) (p_greatest:Int) (p_w:ak) : Option ((Int) ⊕ (Int)) := Mo.den (Gy R_ p_greatest p_w)
def Aa (r_:(Int) ⊕ (Int)) : Exit := match r_ with
 | .inl o_=>.ret
 | .inr (o_)=>.normal
def Ac (p_w:ak) (r_:(Int) ⊕ (Int)) : St := match r_ with
 | .inl o_=>⟨[(6,.i_ o_)],[.dead,.dead]⟩
 | .inr (o_)=>⟨[(2,.i_ o_),(3,.ptr 0 0)],[.box 49 (.dat (ak.lf1 p_w)),.dead]⟩
theorem TQ {R_:RB1} {p_greatest:Int} {p_w:ak} {r_:(Int) ⊕ (Int)} (h:afc R_ p_greatest p_w = some r_) : eF Tryz.f30 0 [1,1,1,1,1,1,1,0,1] (Aa r_) (Ac p_w r_) ⟨[(2,.i_ p_greatest),(3,.ptr 0 0),(98,.i_ p_w.aF)],[.box 49 (.dat (ak.lf1 p_w)),.dead]⟩ :=
 iE dA (Gy R_ p_greatest p_w) Aa (Ac p_w) (by kernel_rfl) h
def Gz (R_:RB1) (o0:Int) (p_w:ak) : (Int) → Mo ((Int) ⊕ (Int) ⊕ Unit) := fun (v0) =>
 .iB (decide ((v0:Int) < (p_w.dG.length:Int))) (.ask (fO p_w.dG v0) fun x0 h0 =>
 .say [.row (ak.lf1 x0)] (ok1 (bY ak.bD h0)) <|
 .cl (R_.ok1 x0 2 o0) fun r0 _ =>
 .iB (r0 != 0) (.rt [6] 2 (.inr (.inl (r0)))) <|
 .rt [2,114,115,116] 2 (.inl (IntKind.wrap .i64 (v0 + 1)))) <|
 .rt [] 2 (.inr (.inr (())))
def afd (R_:RB1) (o0:Int) (p_w:ak) (v0:Int) : Option ((Int) ⊕ Unit) := bT (fun v_=>(Gz R_ o0 p_w v_).den) FU (v0)
def TR (R_:RB1) (o0:Int) (p_w:ak) : (Int) → St := fun (v0)=>⟨[(2,.i_ o0),(114,.lf (.rows 78 (p_w.dG.map ak.lf))),(115,.i_ (p_w.dG.length:Int)),(116,.i_ v0)],[.dead,.dead]⟩
def Ad (r_:(Int) ⊕ Unit) : Exit := match r_ with
 | .inl o_=>.ret
 | .inr (o_)=>.exit 1
def qy  (r_:(Int) ⊕ Unit) : St := match r_ with
 | .inl o_=>⟨[(6,.i_ o_)],[.dead,.dead]⟩
 | .inr (o_)=>⟨[],[.dead,.dead]⟩
theorem TS {R_:RB1} {o0:Int} {p_w:ak} {v0:Int} {r_:(Int) ⊕ Unit} (h:afd R_ o0 p_w v0 = some r_) : eF Tryz.f30 0 [1,1,1,1,1,1,1,1,0,1,0] (Ad r_) (qy r_) (TR R_ o0 p_w (v0)) :=
 dK dA (body := (Code.sub (bodyC Tryz.f30) [1,1,1,1,1,1,1,1,0,1,0,0])) (by kernel_rfl) (Gz R_ o0 p_w) (TR R_ o0 p_w) Ad qy (fun r_=>by rcases r_ with _ | _ <;> rfl) (fun v_=>by kernel_rfl) h
def am5 (R_:RB1) (p_w:ak) (p_least:Int) (p_greatest:Int) : Mo (Int) :=
 .cl (Yd p_w.aF) fun r0 _ =>
 .sj Tryz.f30 0 [1,1,0,0] [0,1,2,3,4,5,6,7,8,9] 2 10 [1,2,3,7] 2 (fun r_=>⟨[(2,.i_ p_greatest),(3,.ptr 0 0),(7,.ptr 1 0),(24,.b_ r_)],[.box 49 (.dat (ak.lf1 p_w)),.box 104 (.agg ((aH.lf1 r0).map AV.lf))]⟩) ⟨[(1,.i_ p_least),(2,.i_ p_greatest),(3,.ptr 0 0),(7,.ptr 1 0)],[.box 49 (.dat (ak.lf1 p_w)),.box 104 (.agg ((aH.lf1 r0).map AV.lf))]⟩ (YB R_ p_greatest p_least p_w r0).den (sW (by kernel_rfl)) fun r1 _ =>
 .sj Tryz.f30 0 [1,1,0,0] [10,11,12,13,14] 2 5 [2,3,7,24] 2 (fun r_=>⟨[(2,.i_ p_greatest),(3,.ptr 0 0),(7,.ptr 1 0),(29,.b_ r_)],[.box 49 (.dat (ak.lf1 p_w)),.box 104 (.agg ((aH.lf1 r0).map AV.lf))]⟩) ⟨[(2,.i_ p_greatest),(3,.ptr 0 0),(7,.ptr 1 0),(24,.b_ r1)],[.box 49 (.dat (ak.lf1 p_w)),.box 104 (.agg ((aH.lf1 r0).map AV.lf))]⟩ (YC R_ p_greatest p_w r0 r1).den (sW (by kernel_rfl)) fun r2 _ =>
 .sj Tryz.f30 0 [1,1,0,0] [15,16,17,18,19,20,21,22,23,24] 2 10 [2,3,7,29] 2 (fun r_=>⟨[(2,.i_ p_greatest),(3,.ptr 0 0),(7,.ptr 1 0),(39,.b_ r_)],[.box 49 (.dat (ak.lf1 p_w)),.box 104 (.agg ((aH.lf1 r0).map AV.lf))]⟩) ⟨[(2,.i_ p_greatest),(3,.ptr 0 0),(7,.ptr 1 0),(29,.b_ r2)],[.box 49 (.dat (ak.lf1 p_w)),.box 104 (.agg ((aH.lf1 r0).map AV.lf))]⟩ (TG R_ p_greatest p_w r0 r2).den (sW (by kernel_rfl)) fun r3 _ =>
 .ite (r3) (fun c0 =>
 .say [.br true] (ok1 c0) <|
 .ret (bf 1) (11)) fun c0 =>
 .say [.br false,.num p_w.dG.length] (okc c0 (ok1 (ln_ p_w.dG ak.lf))) <|
 .iB (decide ((256:Int) < (p_w.dG.length:Int))) (.ret (bf 1) (2)) <|
 .sj Tryz.f30 0 [1,1,1,1,0,0] [0,1,2,3,4,5,6,7] 6 8 [2,3,7] 2 (fun r_=>⟨[(2,.i_ p_greatest),(3,.ptr 0 0),(7,.ptr 1 0),(51,.b_ r_)],[.box 49 (.dat (ak.lf1 p_w)),.box 104 (.agg ((aH.lf1 r0).map AV.lf))]⟩) ⟨[(2,.i_ p_greatest),(3,.ptr 0 0),(7,.ptr 1 0)],[.box 49 (.dat (ak.lf1 p_w)),.box 104 (.agg ((aH.lf1 r0).map AV.lf))]⟩ (TJ R_ p_greatest p_w r0).den (sW (by kernel_rfl)) fun r4 _ =>
 .sj Tryz.f30 0 [1,1,1,1,0,0] [8,9,10,11,12,13,14,15,16,17] 6 10 [2,3,7,51] 2 (fun r_=>⟨[(2,.i_ p_greatest),(3,.ptr 0 0),(7,.ptr 1 0),(61,.b_ r_)],[.box 49 (.dat (ak.lf1 p_w)),.box 104 (.agg ((aH.lf1 r0).map AV.lf))]⟩) ⟨[(2,.i_ p_greatest),(3,.ptr 0 0),(7,.ptr 1 0),(51,.b_ r4)],[.box 49 (.dat (ak.lf1 p_w)),.box 104 (.agg ((aH.lf1 r0).map AV.lf))]⟩ (TK R_ p_greatest p_w r0 r4).den (sW (by kernel_rfl)) fun r5 _ =>
 .sj Tryz.f30 0 [1,1,1,1,0,0] [18,19,20,21,22,23,24,25,26,27,28] 6 11 [2,3,7,61] 2 (fun r_=>⟨[(2,.i_ p_greatest),(3,.ptr 0 0),(7,.ptr 1 0),(72,.b_ r_)],[.box 49 (.dat (ak.lf1 p_w)),.box 104 (.agg ((aH.lf1 r0).map AV.lf))]⟩) ⟨[(2,.i_ p_greatest),(3,.ptr 0 0),(7,.ptr 1 0),(61,.b_ r5)],[.box 49 (.dat (ak.lf1 p_w)),.box 104 (.agg ((aH.lf1 r0).map AV.lf))]⟩ (TL R_ p_greatest p_w r0 r5).den (sW (by kernel_rfl)) fun r6 _ =>
 .iB (r6) (.ret (bf 1) (9)) <|
 .sj Tryz.f30 0 [1,1,1,1,1,0,0] [0,1,2,3,4,5,6] 8 7 [2,3,7] 2 (fun r_=>⟨[(2,.i_ p_greatest),(3,.ptr 0 0),(7,.ptr 1 0),(79,.b_ r_)],[.box 49 (.dat (ak.lf1 p_w)),.box 104 (.agg ((aH.lf1 r0).map AV.lf))]⟩) ⟨[(2,.i_ p_greatest),(3,.ptr 0 0),(7,.ptr 1 0)],[.box 49 (.dat (ak.lf1 p_w)),.box 104 (.agg ((aH.lf1 r0).map AV.lf))]⟩ (TM R_ p_greatest p_w r0).den (sW (by kernel_rfl)) fun r7 _ =>
 .sj Tryz.f30 0 [1,1,1,1,1,0,0] [7,8,9,10,11,12,13,14,15,16] 8 10 [2,3,7,79] 2 (fun r_=>⟨[(2,.i_ p_greatest),(3,.ptr 0 0),(7,.ptr 1 0),(89,.b_ r_)],[.box 49 (.dat (ak.lf1 p_w)),.box 104 (.agg ((aH.lf1 r0).map AV.lf))]⟩) ⟨[(2,.i_ p_greatest),(3,.ptr 0 0),(7,.ptr 1 0),(79,.b_ r7)],[.box 49 (.dat (ak.lf1 p_w)),.box 104 (.agg ((aH.lf1 r0).map AV.lf))]⟩ (TN R_ p_greatest p_w r0 r7).den (sW (by kernel_rfl)) fun r8 _ =>
 .iB (r8) (.ret (bf 1) (1)) <|
 .fG (afb R_ p_greatest p_w r0) (fun o0 h0 =>
 .say [.part [.kill 1] 1 [2,3,91] 2 (zZ (.inl o0)) (qx p_greatest p_w (.inl o0)).T (qx p_greatest p_w (.inl o0)).H] (ok1 (TP h0)) <|
 .ret (bf 1) (o0)) fun o1 h0 =>
 .say [.part [.kill 1] 1 [2,3,91] 2 (zZ (.inr (o1))) (qx p_greatest p_w (.inr (o1))).T (qx p_greatest p_w (.inr (o1))).H] (ok1 (TP h0)) <|
 .fG (afc R_ p_greatest p_w) (fun o2 h1 =>
 .say [.pt_ 6 [2,3,98] 2 (Aa (.inl o2)) (Ac p_w (.inl o2))] (ok1 (TQ h1)) <|
 .ret (bf 1) (o2)) fun o3 h1 =>
 .say [.pt_ 6 [2,3,98] 2 (Aa (.inr (o3))) (Ac p_w (.inr (o3))),.num p_w.dG.length] (okc (TQ h1) (ok1 (ln_ p_w.dG ak.lf))) <|
 .fG (afd R_ o3 p_w 0) (fun o4 h2 =>
 .say [.part [.kill 0] 0 [2,114,115,116] 2 (Ad (.inl o4)) (qy (.inl o4)).T (qy (.inl o4)).H] (ok1 (TS h2)) <|
 .ret (bf 1) (o4)) fun o5 h2 =>
 .say [.part [.kill 0] 0 [2,114,115,116] 2 (Ad (.inr (o5))) (qy (.inr (o5))).T (qy (.inr (o5))).H] (ok1 (TS h2)) <|
 .ret (bf 1) (0)
theorem am6 (R_:RB1) (p_w:ak) (p_least:Int) (p_greatest:Int) : FV (Mo.den (am5 R_ p_w p_least p_greatest)) 30 [.dat (ak.lf1 p_w),.i_ p_least,.i_ p_greatest] (fun r=>.i_ r) := dU Tryz.func30 (by kernel_rfl) (fun _=>rfl) (by kernel_rfl)
def nC:Nat → RB1
 | 0=>{ m1 := fun p_w p_least p_greatest=>none,ok1 := fun _ _ _ _ h=>(by cases h) }
 | n_ + 1=>{ m1 := fun p_w p_least p_greatest=>Mo.den (am5 (nC n_) p_w p_least p_greatest),ok1 := am6 (nC n_) }
def Q1 (p_w:ak) (p_least:Int) (p_greatest:Int) : Option (Int) := (nC FU).m1 p_w p_least p_greatest
theorem aoS (p_w:ak) (p_least:Int) (p_greatest:Int) : FV (Q1 p_w p_least p_greatest) 30 [.dat (ak.lf1 p_w),.i_ p_least,.i_ p_greatest] (fun r=>.i_ r) := (nC FU).ok1 p_w p_least p_greatest
def afe (p_e:bM) : Mo (Bool) :=
 .iG 8003 (decide ((p_e.eG:Int) < 1)) (.rt [1,13] 1 (true)) <|
 .rt [1,13] 1 (decide ((1099511627776:Int) < p_e.eG))
def aff (p_e:bM) (r0:Bool) : Mo (Bool) :=
 .iG 8008 (r0) (.rt [1,18] 1 (true)) <|
 .rt [1,18] 1 (decide ((p_e.nX:Int) < 0))
def abJ (p_e:bM) : Mo (Bool) :=
 .iG 12003 (!decide ((p_e.kC:ByteArray) = (⟨#[]⟩ : ByteArray))) (.cl (NW p_e.kC) fun r0 _ =>
 .rt [1,27] 1 (!r0)) <|
 .rt [1,27] 1 (false)
def ak2 (p_e:bM) : Mo (Int) :=
 .iB (decide ((p_e.pY:Int) < 0)) (.ret (bf 1) (24)) <|
 .sj Tryz.f11 0 [1,1,0,0] [0,1,2,3,4,5,6,7] 3 8 [1] 1 (fun r_=>⟨[(1,.ptr 0 0),(13,.b_ r_)],[.box 51 (.dat (bM.lf1 p_e))]⟩) ⟨[(1,.ptr 0 0)],[.box 51 (.dat (bM.lf1 p_e))]⟩ (afe p_e).den (sW (by kernel_rfl)) fun r0 _ =>
 .sj Tryz.f11 0 [1,1,0,0] [8,9,10,11,12] 3 5 [1,13] 1 (fun r_=>⟨[(1,.ptr 0 0),(18,.b_ r_)],[.box 51 (.dat (bM.lf1 p_e))]⟩) ⟨[(1,.ptr 0 0),(13,.b_ r0)],[.box 51 (.dat (bM.lf1 p_e))]⟩ (aff p_e r0).den (sW (by kernel_rfl)) fun r1 _ =>
 .iB (r1) (.ret (bf 1) (1)) <|
 .jp Tryz.f11 0 [1,1,1,0,0] 17 [1] 1 (.normal) (fun r_=>⟨[(1,.ptr 0 0),(27,.b_ r_)],[.box 51 (.dat (bM.lf1 p_e))]⟩) ⟨[(1,.ptr 0 0)],[.box 51 (.dat (bM.lf1 p_e))]⟩ (abJ p_e).den (jW (by kernel_rfl)) fun r2 _ =>
 .iB (r2) (.ret (bf 1) (9)) <|
 .cl (aoS p_e.kD 1 12) fun r3 _ =>
 .ret (bf 1) (r3)
def Q95 (p_e:bM) : Option (Int) := Mo.den (ak2 p_e)
theorem GH (p_e:bM) : FV (Q95 p_e) 11 [.dat (bM.lf1 p_e)] (fun r=>.i_ r) := dU Tryz.func11 (by kernel_rfl) (fun _=>rfl) (by kernel_rfl)
def Ae  : (Int × (List Int)) → Mo ((Int × (List Int)) ⊕ (Int × (List Int))) := fun (v0,l0) =>
 .ite (decide ((128:Int) ≤ v0)) (fun c0 =>
 .say [.br true,.rows ((l0 ++ [eH .or .u8 (IntKind.wrap .u8 v0) 128]).map (lfK .u8))] (okc c0 (ok1 (by simp [lfI,lfK] : (l0 ++ [eH .or .u8 (IntKind.wrap .u8 v0) 128]).map (lfK .u8) = (l0.map (lfK .u8)) ++ [((lfK .u8) (eH .or .u8 (IntKind.wrap .u8 v0) 128))]))) <|
 .grd ((l0.length + [eH .or .u8 (IntKind.wrap .u8 v0) 128].length) * 1 ≤ 140737488355328) fun h0 =>
 .say [] (okc (by simpa using h0:((l0.map (lfK .u8)).length + [((lfK .u8) (eH .or .u8 (IntKind.wrap .u8 v0) 128))].length) * 1 ≤ 140737488355328) (ok1 (by decide:(0:Int) ≤ 7))) <|
 .ret ⟨[],[0,5],[(2,0)],1⟩ (.inl (wM .u64 v0 7,l0 ++ [eH .or .u8 (IntKind.wrap .u8 v0) 128]))) fun c0 =>
 .say [.br false] (ok1 c0) <|
 .rt [0,5] 1 (.inr (v0,l0))
def afg (v0:Int) (l0:List Int) : Option ((Int × (List Int))) := bT (fun v_=>(Ae  v_).den) FU (v0,l0)
def TU  : (Int × (List Int)) → St := fun (v0,l0)=>⟨[(0,.own 0),(5,.lf (.int .u64 v0))],[.row 5 1 (l0.map (lfK .u8))]⟩
def Af  (r_:(Int × (List Int))) : St := ⟨[(0,.own 0),(5,.lf (.int .u64 r_.1))],[.row 5 1 (r_.2.map (lfK .u8))]⟩
theorem afh {v0:Int} {l0:List Int} {r_:(Int × (List Int))} (h:afg v0 l0 = some r_) : eF Tryz.f131 0 [1,1,0,0] (.exit 0) (Af r_) (TU  (v0,l0)) :=
 dK dA (body := (Code.sub (bodyC Tryz.f131) [1,1,0,0,0])) (by kernel_rfl) (Ae ) (TU ) (fun _=>.exit 0) Af (fun r_=>rfl) (fun v_=>by kernel_rfl) h
def ak3 (p_n:Int) : Mo (List Int) :=
 .ask (aiR p_n) fun r0 h0 =>
 .say [.res (.lf (.int .u64 r0))] (okc (Oc _ _ h0) (ok1 (by simp [lfI,lfK] : (([] : List Int).map (lfK .u8)) = []))) <|
 .ask (afg r0 ([] : List Int)) fun r1 h1 =>
 .say [.part [.rW 0 5 1,.lM 0 (([] : List Int).map (lfK .u8))] 0 [0,5] 1 (.exit 0) (Af r1).T (Af r1).H,.rows ((r1.2 ++ [IntKind.wrap .u8 r1.1]).map (lfK .u8))] (okc (afh h1) (ok1 (by simp [lfI,lfK] : (r1.2 ++ [IntKind.wrap .u8 r1.1]).map (lfK .u8) = (r1.2.map (lfK .u8)) ++ [((lfK .u8) (IntKind.wrap .u8 r1.1))]))) <|
 .grd ((r1.2.length + [IntKind.wrap .u8 r1.1].length) * 1 ≤ 140737488355328) fun h2 =>
 .say [] (ok1 (by simpa using h2:((r1.2.map (lfK .u8)).length + [((lfK .u8) (IntKind.wrap .u8 r1.1))].length) * 1 ≤ 140737488355328)) <|
 .ret ⟨[.kill 1,.mvn 2],[0],[(3,0)],1⟩ (r1.2 ++ [IntKind.wrap .u8 r1.1])
def Q57 (p_n:Int) : Option (List Int) := Mo.den (ak3 p_n)
theorem am7 (p_n:Int) : FH (Q57 p_n) 131 [.raw (.slice none 0 0),.i_ p_n] [] (fun _=>.own 0) (fun r=>[.row 5 1 (r.map (lfK .u8))]) := dW Tryz.func131 (by kernel_rfl) (fun _=>rfl) (by kernel_rfl)
def afi (p_n:Int) : Mo (ByteArray) :=
 .ask (Q57 p_n) fun r0 h0 =>
 .say [.iD [] (.own 0) [.row 5 1 (r0.map (lfK .u8))],.nums r0] (okc (am7 _ _ h0) (ok1 (by simp [lfI,lfK] : (r0.map (lfK .u8)) = r0.map fun n=>[Lf.int .u8 n]))) <|
 .ret (bf 1) (strOfNums r0)
def abK (p_n:Int) : Option (ByteArray) := Mo.den (afi p_n)
theorem YD (p_n:Int) : FV (abK p_n) 75 [.i_ p_n] (fun r=>.lf (.str r)) := dU Tryz.func75 (by kernel_rfl) (fun _=>rfl) (by kernel_rfl)
def ak4 (p_n:Int) (p_b0:au) : Mo (au) :=
 .ask (abK p_n) fun r0 h0 =>
 .say [.jX (.q 0 (.q 1 (.q 2 (.q 3 (.q 5 (.alt 4 (.l 6 (.l 7 (.q 8 (.q 9 (.l 10 .fin))))) (.l 6 (.l 4 (.l 7 (.q 8 (.q 9 (.l 10 .fin)))))))))))) (some 10) [1,2] [.both [.at_ 2 4,.resv 1,.res (.lf (.str r0)),.rows ((p_b0.aS ++ (numsOf (r0:ByteArray))).map (lfK .u8)),.slot 2] [.at_ 2 6,.resv 1,.res (.lf (.str r0)),.rows ((p_b0.aS ++ (numsOf (r0:ByteArray))).map (lfK .u8)),.slot 2]] [] 3 [] [.box 75 (.agg [.own 2,.b_ p_b0.bH]),.dead,.row 5 1 ((p_b0.aS ++ (numsOf (r0:ByteArray))).map (lfK .u8))]] (okc (YD _ _ h0) (ok1 (by first | (rw [List.map_append,gy]; done) | (rw [gy,List.nil_append]; done) | simp [lfI,lfK,gy] : (p_b0.aS ++ (numsOf (r0:ByteArray))).map (lfK .u8) = (p_b0.aS.map (lfK .u8)) ++ rY (r0:ByteArray)))) <|
 .grd (p_b0.aS.length + (r0:ByteArray).size ≤ 140737488355328) fun h1 =>
 .say [] (okc (by simpa using h1:(p_b0.aS.map (lfK .u8)).length + (r0:ByteArray).size ≤ 140737488355328) (okc (rf_ ⟨[],[.box 75 (.agg [.own 2,.b_ p_b0.bH]),.dead,.row 5 1 ((p_b0.aS ++ (numsOf (r0:ByteArray))).map (lfK .u8))]⟩) (okc (YD _ _ h0) (okc (by first | (rw [List.map_append,gy]; done) | (rw [gy,List.nil_append]; done) | simp [lfI,lfK,gy] : (p_b0.aS ++ (numsOf (r0:ByteArray))).map (lfK .u8) = (p_b0.aS.map (lfK .u8)) ++ rY (r0:ByteArray)) (okc (by simpa using h1:(p_b0.aS.map (lfK .u8)).length + (r0:ByteArray).size ≤ 140737488355328) (ok1 (rf_ ⟨[],[.box 75 (.agg [.own 2,.b_ p_b0.bH]),.dead,.row 5 1 ((p_b0.aS ++ (numsOf (r0:ByteArray))).map (lfK .u8))]⟩))))))) <|
 .ret ⟨[.mvn 2],[],[(3,2)],3⟩ (au.mk (p_b0.aS ++ (numsOf (r0:ByteArray))) p_b0.bH)
def Q18 (p_n:Int) (p_b0:au) : Option (au) := Mo.den (ak4 p_n p_b0)
theorem fU (p_n:Int) (p_b0:au) : FH (Q18 p_n p_b0) 34 [.ptr 0 0,.i_ p_n] [.box 75 (.agg [.own 1,.b_ p_b0.bH]),.row 5 1 (p_b0.aS.map (lfK .u8))] (fun _=>.tup []) (fun r=>[.box 75 (.agg [.own 2,.b_ r.bH]),.dead,.row 5 1 (r.aS.map (lfK .u8))]) := dW Tryz.func34 (by kernel_rfl) (fun _=>rfl) (by kernel_rfl)
def ak5 (p_s:ByteArray) (p_b0:au) : Mo (au) :=
 .ask (Q18 (p_s.size:Int) p_b0) fun r0 h0 =>
 .say [.iD [0,1] (.tup []) [.box 75 (.agg [.own 2,.b_ r0.bH]),.dead,.row 5 1 (r0.aS.map (lfK .u8))],.rows ((r0.aS ++ (numsOf (p_s:ByteArray))).map (lfK .u8))] (okc (fU _ _ _ h0) (ok1 (by first | (rw [List.map_append,gy]; done) | (rw [gy,List.nil_append]; done) | simp [lfI,lfK,gy] : (r0.aS ++ (numsOf (p_s:ByteArray))).map (lfK .u8) = (r0.aS.map (lfK .u8)) ++ rY (p_s:ByteArray)))) <|
 .grd (r0.aS.length + (p_s:ByteArray).size ≤ 140737488355328) fun h1 =>
 .say [] (ok1 (by simpa using h1:(r0.aS.map (lfK .u8)).length + (p_s:ByteArray).size ≤ 140737488355328)) <|
 .ret ⟨[.mvn 3],[],[(4,2)],3⟩ (au.mk (r0.aS ++ (numsOf (p_s:ByteArray))) r0.bH)
def Q87 (p_s:ByteArray) (p_b0:au) : Option (au) := Mo.den (ak5 p_s p_b0)
theorem tH (p_s:ByteArray) (p_b0:au) : FH (Q87 p_s p_b0) 35 [.ptr 0 0,.lf (.str p_s)] [.box 75 (.agg [.own 1,.b_ p_b0.bH]),.row 5 1 (p_b0.aS.map (lfK .u8))] (fun _=>.tup []) (fun r=>[.box 75 (.agg [.own 2,.b_ r.bH]),.dead,.row 5 1 (r.aS.map (lfK .u8))]) := dW Tryz.func35 (by kernel_rfl) (fun _=>rfl) (by kernel_rfl)
def afj (p_b:Bool) (p_b0:au) : Mo (au) :=
 .ite (p_b) (fun c0 =>
 .say [.br true,.rows ((p_b0.aS ++ [(1:Int)]).map (lfK .u8))] (okc c0 (ok1 (by simp [lfI,lfK] : (p_b0.aS ++ [(1:Int)]).map (lfK .u8) = (p_b0.aS.map (lfK .u8)) ++ [((lfK .u8) (1:Int))]))) <|
 .grd ((p_b0.aS.length + [(1:Int)].length) * 1 ≤ 140737488355328) fun h0 =>
 .say [] (ok1 (by simpa using h0:((p_b0.aS.map (lfK .u8)).length + [((lfK .u8) (1:Int))].length) * 1 ≤ 140737488355328)) <|
 .ret ⟨[.kill 2,.mvn 3],[],[(4,2)],3⟩ (au.mk (p_b0.aS ++ [(1:Int)]) p_b0.bH)) fun c0 =>
 .say [.br false,.rows ((p_b0.aS ++ [(0:Int)]).map (lfK .u8))] (okc c0 (ok1 (by simp [lfI,lfK] : (p_b0.aS ++ [(0:Int)]).map (lfK .u8) = (p_b0.aS.map (lfK .u8)) ++ [((lfK .u8) (0:Int))]))) <|
 .grd ((p_b0.aS.length + [(0:Int)].length) * 1 ≤ 140737488355328) fun h1 =>
 .say [] (ok1 (by simpa using h1:((p_b0.aS.map (lfK .u8)).length + [((lfK .u8) (0:Int))].length) * 1 ≤ 140737488355328)) <|
 .ret ⟨[.kill 2,.mvn 3],[],[(4,2)],3⟩ (au.mk (p_b0.aS ++ [(0:Int)]) p_b0.bH)
def Q71 (p_b:Bool) (p_b0:au) : Option (au) := Mo.den (afj p_b p_b0)
theorem ou (p_b:Bool) (p_b0:au) : FH (Q71 p_b p_b0) 82 [.ptr 0 0,.b_ p_b] [.box 75 (.agg [.own 1,.b_ p_b0.bH]),.row 5 1 (p_b0.aS.map (lfK .u8))] (fun _=>.tup []) (fun r=>[.box 75 (.agg [.own 2,.b_ r.bH]),.dead,.row 5 1 (r.aS.map (lfK .u8))]) := dW Tryz.func82 (by kernel_rfl) (fun _=>rfl) (by kernel_rfl)
def Ag  : (Int × (List Int)) → Mo ((Int × (List Int)) ⊕ (Int × (List Int))) := fun (v0,l0) =>
 .ite (decide ((128:Int) ≤ v0)) (fun c0 =>
 .say [.br true,.rows ((l0 ++ [eH .or .u8 (IntKind.wrap .u8 v0) 128]).map (lfK .u8))] (okc c0 (ok1 (by simp [lfI,lfK] : (l0 ++ [eH .or .u8 (IntKind.wrap .u8 v0) 128]).map (lfK .u8) = (l0.map (lfK .u8)) ++ [((lfK .u8) (eH .or .u8 (IntKind.wrap .u8 v0) 128))]))) <|
 .grd ((l0.length + [eH .or .u8 (IntKind.wrap .u8 v0) 128].length) * 1 ≤ 140737488355328) fun h0 =>
 .say [] (okc (by simpa using h0:((l0.map (lfK .u8)).length + [((lfK .u8) (eH .or .u8 (IntKind.wrap .u8 v0) 128))].length) * 1 ≤ 140737488355328) (ok1 (by decide:(0:Int) ≤ 7))) <|
 .ret ⟨[],[0,5],[(3,1)],2⟩ (.inl (wM .u64 v0 7,l0 ++ [eH .or .u8 (IntKind.wrap .u8 v0) 128]))) fun c0 =>
 .say [.br false] (ok1 c0) <|
 .rt [0,5] 2 (.inr (v0,l0))
def afk (v0:Int) (l0:List Int) : Option ((Int × (List Int))) := bT (fun v_=>(Ag  v_).den) FU (v0,l0)
def TV  : (Int × (List Int)) → St := fun (v0,l0)=>⟨[(0,.own 1),(5,.lf (.int .u64 v0))],[.dead,.row 5 1 (l0.map (lfK .u8))]⟩
def Ah  (r_:(Int × (List Int))) : St := ⟨[(0,.own 1),(5,.lf (.int .u64 r_.1))],[.dead,.row 5 1 (r_.2.map (lfK .u8))]⟩
theorem afl {v0:Int} {l0:List Int} {r_:(Int × (List Int))} (h:afk v0 l0 = some r_) : eF Tryz.f131 1 [1,1,0,0] (.exit 0) (Ah r_) (TV  (v0,l0)) :=
 dK dA (body := (Code.sub (bodyC Tryz.f131) [1,1,0,0,0])) (by kernel_rfl) (Ag ) (TV ) (fun _=>.exit 0) Ah (fun r_=>rfl) (fun v_=>by kernel_rfl) h
def ak6 (p_n:Int) (p_s0:List Int) : Mo (List Int) :=
 .cl (Oc p_n) fun r0 _ =>
 .ask (afk r0 p_s0) fun r1 h0 =>
 .say [.part [.mvn 0] 0 [0,5] 2 (.exit 0) (Ah r1).T (Ah r1).H,.rows ((r1.2 ++ [IntKind.wrap .u8 r1.1]).map (lfK .u8))] (okc (afl h0) (ok1 (by simp [lfI,lfK] : (r1.2 ++ [IntKind.wrap .u8 r1.1]).map (lfK .u8) = (r1.2.map (lfK .u8)) ++ [((lfK .u8) (IntKind.wrap .u8 r1.1))]))) <|
 .grd ((r1.2.length + [IntKind.wrap .u8 r1.1].length) * 1 ≤ 140737488355328) fun h1 =>
 .say [] (ok1 (by simpa using h1:((r1.2.map (lfK .u8)).length + [((lfK .u8) (IntKind.wrap .u8 r1.1))].length) * 1 ≤ 140737488355328)) <|
 .ret ⟨[.kill 2,.mvn 3],[0],[(4,1)],2⟩ (r1.2 ++ [IntKind.wrap .u8 r1.1])
def Q36 (p_n:Int) (p_s0:List Int) : Option (List Int) := Mo.den (ak6 p_n p_s0)
theorem yh (p_n:Int) (p_s0:List Int) : FH (Q36 p_n p_s0) 131 [.own 0,.i_ p_n] [.row 5 1 (p_s0.map (lfK .u8))] (fun _=>.own 1) (fun r=>[.dead,.row 5 1 (r.map (lfK .u8))]) := dW Tryz.func131 (by kernel_rfl) (fun _=>rfl) (by kernel_rfl)
def afm (p_s:ByteArray) (p_s0:List Int) : Mo (List Int) :=
 .ask (Q36 (p_s.size:Int) p_s0) fun r0 h0 =>
 .say [.iD [0] (.own 1) [.dead,.row 5 1 (r0.map (lfK .u8))],.rows ((r0 ++ (numsOf (p_s:ByteArray))).map (lfK .u8))] (okc (yh _ _ _ h0) (ok1 (by first | (rw [List.map_append,gy]; done) | (rw [gy,List.nil_append]; done) | simp [lfI,lfK,gy] : (r0 ++ (numsOf (p_s:ByteArray))).map (lfK .u8) = (r0.map (lfK .u8)) ++ rY (p_s:ByteArray)))) <|
 .grd (r0.length + (p_s:ByteArray).size ≤ 140737488355328) fun h1 =>
 .say [] (ok1 (by simpa using h1:(r0.map (lfK .u8)).length + (p_s:ByteArray).size ≤ 140737488355328)) <|
 .ret ⟨[.mvn 2],[0],[(3,1)],2⟩ (r0 ++ (numsOf (p_s:ByteArray)))
def afn (p_s:ByteArray) (p_s0:List Int) : Option (List Int) := Mo.den (afm p_s p_s0)
theorem EI (p_s:ByteArray) (p_s0:List Int) : FH (afn p_s p_s0) 278 [.own 0,.lf (.str p_s)] [.row 5 1 (p_s0.map (lfK .u8))] (fun _=>.own 1) (fun r=>[.dead,.row 5 1 (r.map (lfK .u8))]) := dW Tryz.func278 (by kernel_rfl) (fun _=>rfl) (by kernel_rfl)
structure kH where
 m1:(p_v:aj) → Option (List Int)
 ok1:∀ p_v,FH (m1 p_v) 206 [.raw (.slice none 0 0),.dat (aj.lf1 p_v)] [] (fun _=>.own 0) (fun r=>[.row 5 1 (r.map (lfK .u8))])
 m2:(p_v:aj) → (p_s0:List Int) → Option (List Int)
 ok2:∀ p_v p_s0,FH (m2 p_v p_s0) 206 [.own 0,.dat (aj.lf1 p_v)] [.row 5 1 (p_s0.map (lfK .u8))] (fun _=>.own 1) (fun r=>[.dead,.row 5 1 (r.map (lfK .u8))])
def YE (R_:kH) (p_v:aj) : Mo (Bool) :=
 .iB (p_v.aF == 3) (.rt [0,3,16,17] 3 (p_v.aF == 3)) <|
 .rt [0,3,16,17] 3 (p_v.aF == 10)
def YF (R_:kH) (p_v:aj) : Mo (Bool) :=
 .iB (p_v.aF == 4) (.rt [0,3,16,32] 3 (p_v.aF == 4)) <|
 .rt [0,3,16,32] 3 (p_v.aF == 7)
def Ai (R_:kH) (p_v:aj) : (Int × (List Int)) → Mo ((Int × (List Int)) ⊕ ((List Int))) := fun (v0,l0) =>
 .iB (decide ((v0:Int) < (p_v.aU.length:Int))) (.ask (fO p_v.aU v0) fun x0 h0 =>
 .say [.row (aj.lf1 x0),.at_ 38 2,.tod 60] (ok1 (bY aj.bD h0)) <|
 .cH [3] (R_.ok2 x0 l0) fun r0 _ =>
 .ret ⟨[],[0,53,54,55],[(5,3)],4⟩ (.inl (IntKind.wrap .i64 (v0 + 1),r0))) <|
 .rt [0] 4 (.inr (l0))
def WB (R_:kH) (p_v:aj) (v0:Int) (l0:List Int) : Option (((List Int))) := bT (fun v_=>(Ai R_ p_v v_).den) FU (v0,l0)
def TW (R_:kH) (p_v:aj) : (Int × (List Int)) → St := fun (v0,l0)=>⟨[(0,.own 3),(53,.lf (.rows 5 (p_v.aU.map aj.lf))),(54,.i_ (p_v.aU.length:Int)),(55,.i_ v0)],[.dead,.dead,.dead,.row 5 1 (l0.map (lfK .u8))]⟩
def Aj  (r_:((List Int))) : St := ⟨[(0,.own 3)],[.dead,.dead,.dead,.row 5 1 (r_.map (lfK .u8))]⟩
theorem afo {R_:kH} {p_v:aj} {v0:Int} {l0:List Int} {r_:((List Int))} (h:WB R_ p_v v0 l0 = some r_) : eF Tryz.f206 0 [1,1,0,1,0,1,1,1,1,1,1,1,1,1,0,1,1,0] (.exit 1) (Aj r_) (TW R_ p_v (v0,l0)) :=
 dK dA (body := (Code.sub (bodyC Tryz.f206) [1,1,0,1,0,1,1,1,1,1,1,1,1,1,0,1,1,0,0])) (by kernel_rfl) (Ai R_ p_v) (TW R_ p_v) (fun _=>.exit 1) Aj (fun r_=>rfl) (fun v_=>by kernel_rfl) h
def Ak (R_:kH) (p_v:aj) : (Int × (List Int)) → Mo ((Int × (List Int)) ⊕ ((List Int))) := fun (v0,l0) =>
 .iB (decide ((v0:Int) < (p_v.aX.length:Int))) (.ask (fO p_v.aX v0) fun x0 h0 =>
 .say [.row (aB.lf1 x0)] (ok1 (bY aB.bD h0)) <|
 .ask (afn x0.fName l0) fun r0 h1 =>
 .say [] (ok1 (EI _ _ _ h1)) <|
 .ask (R_.m2 x0.fValue r0) fun r1 h2 =>
 .say [.jX (.q 0 (.q 1 (.q 2 (.q 4 (.q 5 (.l 3 (.l 6 (.q 7 .fin)))))))) (some 6) [3] [.iD [3] (.own 1) [.dead,.row 5 1 (r0.map (lfK .u8))],.at_ 52 6,.tod 82,.iD [5] (.own 1) [.dead,.row 5 1 (r1.map (lfK .u8))]] [0,71,72,73] 7 [(0,.own 6),(71,.lf (.rows 6 (p_v.aX.map aB.lf))),(72,.i_ (p_v.aX.length:Int)),(73,.i_ v0)] [.dead,.dead,.dead,.dead,.box 115 (.agg ((aB.lf1 x0).map AV.lf)),.dead,.row 5 1 (r1.map (lfK .u8))]] (okc (R_.ok2 _ _ _ h2) (ok1 (rf_ ⟨[(0,.own 6),(71,.lf (.rows 6 (p_v.aX.map aB.lf))),(72,.i_ (p_v.aX.length:Int)),(73,.i_ v0)],[.dead,.dead,.dead,.dead,.box 115 (.agg ((aB.lf1 x0).map AV.lf)),.dead,.row 5 1 (r1.map (lfK .u8))]⟩))) <|
 .ret ⟨[],[0,71,72,73],[(6,3)],4⟩ (.inl (IntKind.wrap .i64 (v0 + 1),r1))) <|
 .rt [0] 4 (.inr (l0))
def WC (R_:kH) (p_v:aj) (v0:Int) (l0:List Int) : Option (((List Int))) := bT (fun v_=>(Ak R_ p_v v_).den) FU (v0,l0)
def TY (R_:kH) (p_v:aj) : (Int × (List Int)) → St := fun (v0,l0)=>⟨[(0,.own 3),(71,.lf (.rows 6 (p_v.aX.map aB.lf))),(72,.i_ (p_v.aX.length:Int)),(73,.i_ v0)],[.dead,.dead,.dead,.row 5 1 (l0.map (lfK .u8))]⟩
def Am  (r_:((List Int))) : St := ⟨[(0,.own 3)],[.dead,.dead,.dead,.row 5 1 (r_.map (lfK .u8))]⟩
theorem afp {R_:kH} {p_v:aj} {v0:Int} {l0:List Int} {r_:((List Int))} (h:WC R_ p_v v0 l0 = some r_) : eF Tryz.f206 0 [1,1,0,1,0,1,1,1,1,1,1,1,1,1,1,1,0,1,1,0] (.exit 3) (Am r_) (TY R_ p_v (v0,l0)) :=
 dK dA (body := (Code.sub (bodyC Tryz.f206) [1,1,0,1,0,1,1,1,1,1,1,1,1,1,1,1,0,1,1,0,0])) (by kernel_rfl) (Ak R_ p_v) (TY R_ p_v) (fun _=>.exit 3) Am (fun r_=>rfl) (fun v_=>by kernel_rfl) h
def GK (R_:kH) (p_v:aj) : Mo (((List Int))) :=
 .jp Tryz.f206 0 [1,1,0,1,0,0,1] 1 [0,3,16,17] 3 (.normal) (fun r_=>⟨[(0,.own 2),(3,.ptr 0 0),(16,.i_ p_v.aF),(17,.b_ r_)],[.box 25 (.dat (aj.lf1 p_v)),.dead,.row 5 1 ([IntKind.wrap .u8 p_v.aF].map (lfK .u8))]⟩) ⟨[(0,.own 2),(3,.ptr 0 0),(16,.i_ p_v.aF),(17,.lf (.bool (p_v.aF == 3)))],[.box 25 (.dat (aj.lf1 p_v)),.dead,.row 5 1 ([IntKind.wrap .u8 p_v.aF].map (lfK .u8))]⟩ (YE R_ p_v).den (jW (by kernel_rfl)) fun r0 _ =>
 .iB (r0) (.cH [2] (yh p_v.eU [IntKind.wrap .u8 p_v.aF]) fun r1 _ =>
 .ret ⟨[.kill 0],[0],[(3,2)],3⟩ (r1)) <|
 .ite (p_v.aF == 9) (fun c0 =>
 .say [.br true,.rows (([IntKind.wrap .u8 p_v.aF] ++ [IntKind.wrap .u8 p_v.eU]).map (lfK .u8))] (okc c0 (ok1 (by simp [lfI,lfK] : ([IntKind.wrap .u8 p_v.aF] ++ [IntKind.wrap .u8 p_v.eU]).map (lfK .u8) = ([IntKind.wrap .u8 p_v.aF].map (lfK .u8)) ++ [((lfK .u8) (IntKind.wrap .u8 p_v.eU))]))) <|
 .grd (([IntKind.wrap .u8 p_v.aF].length + [IntKind.wrap .u8 p_v.eU].length) * 1 ≤ 140737488355328) fun h0 =>
 .say [] (ok1 (by first | (simp; done) | simpa using h0:(([IntKind.wrap .u8 p_v.aF].map (lfK .u8)).length + [((lfK .u8) (IntKind.wrap .u8 p_v.eU))].length) * 1 ≤ 140737488355328)) <|
 .ret ⟨[.kill 0],[0],[(4,2)],3⟩ ([IntKind.wrap .u8 p_v.aF] ++ [IntKind.wrap .u8 p_v.eU])) fun c0 =>
 .say [.br false] (ok1 c0) <|
 .jp Tryz.f206 0 [1,1,0,1,0,1,1,1,1,0,1] 1 [0,3,16,32] 3 (.normal) (fun r_=>⟨[(0,.own 2),(3,.ptr 0 0),(16,.i_ p_v.aF),(32,.b_ r_)],[.box 25 (.dat (aj.lf1 p_v)),.dead,.row 5 1 ([IntKind.wrap .u8 p_v.aF].map (lfK .u8))]⟩) ⟨[(0,.own 2),(3,.ptr 0 0),(16,.i_ p_v.aF),(32,.lf (.bool (p_v.aF == 4)))],[.box 25 (.dat (aj.lf1 p_v)),.dead,.row 5 1 ([IntKind.wrap .u8 p_v.aF].map (lfK .u8))]⟩ (YF R_ p_v).den (jW (by kernel_rfl)) fun r2 _ =>
 .iB (r2) (.cH [2] (EI p_v.fText [IntKind.wrap .u8 p_v.aF]) fun r3 _ =>
 .ret ⟨[.kill 0],[0],[(3,2)],3⟩ (r3)) <|
 .ite (p_v.aF == 8) (fun c1 =>
 .say [.br true,.rows (([IntKind.wrap .u8 p_v.aF] ++ (numsOf (p_v.fText:ByteArray))).map (lfK .u8))] (okc c1 (ok1 (by first | (rw [List.map_append,gy]; done) | (rw [gy,List.nil_append]; done) | simp [lfI,lfK,gy] : ([IntKind.wrap .u8 p_v.aF] ++ (numsOf (p_v.fText:ByteArray))).map (lfK .u8) = ([IntKind.wrap .u8 p_v.aF].map (lfK .u8)) ++ rY (p_v.fText:ByteArray)))) <|
 .grd ([IntKind.wrap .u8 p_v.aF].length + (p_v.fText:ByteArray).size ≤ 140737488355328) fun h1 =>
 .say [] (ok1 (by simpa using h1:([IntKind.wrap .u8 p_v.aF].map (lfK .u8)).length + (p_v.fText:ByteArray).size ≤ 140737488355328)) <|
 .ret ⟨[.kill 0],[0],[(3,2)],3⟩ ([IntKind.wrap .u8 p_v.aF] ++ (numsOf (p_v.fText:ByteArray)))) fun c1 =>
 .say [.br false] (ok1 c1) <|
 .ite (p_v.aF == 6) (fun c2 =>
 .say [.br true,.num p_v.aU.length] (okc c2 (ok1 (ln_ p_v.aU aj.lf))) <|
 .ask (Q36 (p_v.aU.length:Int) [IntKind.wrap .u8 p_v.aF]) fun r4 h2 =>
 .say [.iD [2] (.own 1) [.dead,.row 5 1 (r4.map (lfK .u8))],.num p_v.aU.length] (okc (yh _ _ _ h2) (ok1 (ln_ p_v.aU aj.lf))) <|
 .ask (WB R_ p_v 0 r4) fun r5 h3 =>
 .say [.part [.kill 0] 0 [0,53,54,55] 4 (.exit 1) (Aj r5).T (Aj r5).H] (ok1 (afo h3)) <|
 .ret ⟨[],[0],[(3,2)],3⟩ (r5)) fun c2 =>
 .say [.br false] (ok1 c2) <|
 .ite (p_v.aF == 5) (fun c3 =>
 .say [.br true,.num p_v.aX.length] (okc c3 (ok1 (ln_ p_v.aX aB.lf))) <|
 .ask (Q36 (p_v.aX.length:Int) [IntKind.wrap .u8 p_v.aF]) fun r6 h4 =>
 .say [.iD [2] (.own 1) [.dead,.row 5 1 (r6.map (lfK .u8))],.num p_v.aX.length] (okc (yh _ _ _ h4) (ok1 (ln_ p_v.aX aB.lf))) <|
 .ask (WC R_ p_v 0 r6) fun r7 h5 =>
 .say [.part [.kill 0] 0 [0,71,72,73] 4 (.exit 3) (Am r7).T (Am r7).H] (ok1 (afp h5)) <|
 .ret ⟨[],[0],[(3,2)],3⟩ (r7)) fun c3 =>
 .say [.br false] (ok1 c3) <|
 .ret ⟨[.kill 0],[0],[],3⟩ ([IntKind.wrap .u8 p_v.aF])
def WE (R_:kH) (p_v:aj) : Option (((List Int))) := Mo.den (GK R_ p_v)
def Aq  (r_:((List Int))) : St := ⟨[(0,.own 2)],[.dead,.dead,.row 5 1 (r_.map (lfK .u8))]⟩
theorem afq {R_:kH} {p_v:aj} {r_:((List Int))} (h:WE R_ p_v = some r_) : eF Tryz.f206 0 [1,1,0,1] (.normal) (Aq r_) ⟨[(0,.own 2),(3,.ptr 0 0),(16,.i_ p_v.aF)],[.box 25 (.dat (aj.lf1 p_v)),.dead,.row 5 1 ([IntKind.wrap .u8 p_v.aF].map (lfK .u8))]⟩ :=
 iE dA (GK R_ p_v) (fun _=>.normal) Aq (by kernel_rfl) h
def ai9 (R_:kH) (p_v:aj) : Mo (List Int) :=
 .say [.rows ([IntKind.wrap .u8 p_v.aF].map (lfK .u8))] (ok1 (by simp [lfI,lfK] : [IntKind.wrap .u8 p_v.aF].map (lfK .u8) = [] ++ [((lfK .u8) (IntKind.wrap .u8 p_v.aF))])) <|
 .grd ((([] : List Int).length + [IntKind.wrap .u8 p_v.aF].length) * 1 ≤ 140737488355328) fun h0 =>
 .say [] (ok1 (by first | (simp; done) | simpa using h0:(([] : List (List Lf)).length + [((lfK .u8) (IntKind.wrap .u8 p_v.aF))].length) * 1 ≤ 140737488355328)) <|
 .ask (WE R_ p_v) fun r0 h1 =>
 .say [.part [.kill 1] 6 [0,3,16] 3 (.normal) (Aq r0).T (Aq r0).H] (ok1 (afq h1)) <|
 .ret ⟨[.mvn 2],[0],[(3,0)],1⟩ (r0)
theorem am8 (R_:kH) (p_v:aj) : FH (Mo.den (ai9 R_ p_v)) 206 [.raw (.slice none 0 0),.dat (aj.lf1 p_v)] [] (fun _=>.own 0) (fun r=>[.row 5 1 (r.map (lfK .u8))]) := dW Tryz.func206 (by kernel_rfl) (fun _=>rfl) (by kernel_rfl)
def YG (R_:kH) (p_s0:List Int) (p_v:aj) : Mo (Bool) :=
 .iB (p_v.aF == 3) (.rt [0,3,16,17] 4 (p_v.aF == 3)) <|
 .rt [0,3,16,17] 4 (p_v.aF == 10)
def YH (R_:kH) (p_s0:List Int) (p_v:aj) : Mo (Bool) :=
 .iB (p_v.aF == 4) (.rt [0,3,16,32] 4 (p_v.aF == 4)) <|
 .rt [0,3,16,32] 4 (p_v.aF == 7)
def Ar (R_:kH) (p_v:aj) : (Int × (List Int)) → Mo ((Int × (List Int)) ⊕ ((List Int))) := fun (v0,l0) =>
 .iB (decide ((v0:Int) < (p_v.aU.length:Int))) (.ask (fO p_v.aU v0) fun x0 h0 =>
 .say [.row (aj.lf1 x0),.at_ 38 2,.tod 60] (ok1 (bY aj.bD h0)) <|
 .cH [4] (R_.ok2 x0 l0) fun r0 _ =>
 .ret ⟨[],[0,53,54,55],[(6,4)],5⟩ (.inl (IntKind.wrap .i64 (v0 + 1),r0))) <|
 .rt [0] 5 (.inr (l0))
def WG (R_:kH) (p_v:aj) (v0:Int) (l0:List Int) : Option (((List Int))) := bT (fun v_=>(Ar R_ p_v v_).den) FU (v0,l0)
def Ua (R_:kH) (p_v:aj) : (Int × (List Int)) → St := fun (v0,l0)=>⟨[(0,.own 4),(53,.lf (.rows 5 (p_v.aU.map aj.lf))),(54,.i_ (p_v.aU.length:Int)),(55,.i_ v0)],[.dead,.dead,.dead,.dead,.row 5 1 (l0.map (lfK .u8))]⟩
def Au  (r_:((List Int))) : St := ⟨[(0,.own 4)],[.dead,.dead,.dead,.dead,.row 5 1 (r_.map (lfK .u8))]⟩
theorem afr {R_:kH} {p_v:aj} {v0:Int} {l0:List Int} {r_:((List Int))} (h:WG R_ p_v v0 l0 = some r_) : eF Tryz.f206 1 [1,1,0,1,0,1,1,1,1,1,1,1,1,1,0,1,1,0] (.exit 1) (Au r_) (Ua R_ p_v (v0,l0)) :=
 dK dA (body := (Code.sub (bodyC Tryz.f206) [1,1,0,1,0,1,1,1,1,1,1,1,1,1,0,1,1,0,0])) (by kernel_rfl) (Ar R_ p_v) (Ua R_ p_v) (fun _=>.exit 1) Au (fun r_=>rfl) (fun v_=>by kernel_rfl) h
def Aw (R_:kH) (p_v:aj) : (Int × (List Int)) → Mo ((Int × (List Int)) ⊕ ((List Int))) := fun (v0,l0) =>
 .iB (decide ((v0:Int) < (p_v.aX.length:Int))) (.ask (fO p_v.aX v0) fun x0 h0 =>
 .say [.row (aB.lf1 x0)] (ok1 (bY aB.bD h0)) <|
 .ask (afn x0.fName l0) fun r0 h1 =>
 .say [] (ok1 (EI _ _ _ h1)) <|
 .ask (R_.m2 x0.fValue r0) fun r1 h2 =>
 .say [.jX (.q 0 (.q 1 (.q 2 (.q 4 (.q 5 (.l 3 (.l 6 (.q 7 .fin)))))))) (some 6) [4] [.iD [4] (.own 1) [.dead,.row 5 1 (r0.map (lfK .u8))],.at_ 52 6,.tod 82,.iD [6] (.own 1) [.dead,.row 5 1 (r1.map (lfK .u8))]] [0,71,72,73] 8 [(0,.own 7),(71,.lf (.rows 6 (p_v.aX.map aB.lf))),(72,.i_ (p_v.aX.length:Int)),(73,.i_ v0)] [.dead,.dead,.dead,.dead,.dead,.box 115 (.agg ((aB.lf1 x0).map AV.lf)),.dead,.row 5 1 (r1.map (lfK .u8))]] (okc (R_.ok2 _ _ _ h2) (ok1 (rf_ ⟨[(0,.own 7),(71,.lf (.rows 6 (p_v.aX.map aB.lf))),(72,.i_ (p_v.aX.length:Int)),(73,.i_ v0)],[.dead,.dead,.dead,.dead,.dead,.box 115 (.agg ((aB.lf1 x0).map AV.lf)),.dead,.row 5 1 (r1.map (lfK .u8))]⟩))) <|
 .ret ⟨[],[0,71,72,73],[(7,4)],5⟩ (.inl (IntKind.wrap .i64 (v0 + 1),r1))) <|
 .rt [0] 5 (.inr (l0))
def WH (R_:kH) (p_v:aj) (v0:Int) (l0:List Int) : Option (((List Int))) := bT (fun v_=>(Aw R_ p_v v_).den) FU (v0,l0)
def Ub (R_:kH) (p_v:aj) : (Int × (List Int)) → St := fun (v0,l0)=>⟨[(0,.own 4),(71,.lf (.rows 6 (p_v.aX.map aB.lf))),(72,.i_ (p_v.aX.length:Int)),(73,.i_ v0)],[.dead,.dead,.dead,.dead,.row 5 1 (l0.map (lfK .u8))]⟩
def Az  (r_:((List Int))) : St := ⟨[(0,.own 4)],[.dead,.dead,.dead,.dead,.row 5 1 (r_.map (lfK .u8))]⟩
theorem afs {R_:kH} {p_v:aj} {v0:Int} {l0:List Int} {r_:((List Int))} (h:WH R_ p_v v0 l0 = some r_) : eF Tryz.f206 1 [1,1,0,1,0,1,1,1,1,1,1,1,1,1,1,1,0,1,1,0] (.exit 3) (Az r_) (Ub R_ p_v (v0,l0)) :=
 dK dA (body := (Code.sub (bodyC Tryz.f206) [1,1,0,1,0,1,1,1,1,1,1,1,1,1,1,1,0,1,1,0,0])) (by kernel_rfl) (Aw R_ p_v) (Ub R_ p_v) (fun _=>.exit 3) Az (fun r_=>rfl) (fun v_=>by kernel_rfl) h
def GL (R_:kH) (p_s0:List Int) (p_v:aj) : Mo (((List Int))) :=
 .jp Tryz.f206 1 [1,1,0,1,0,0,1] 1 [0,3,16,17] 4 (.normal) (fun r_=>⟨[(0,.own 3),(3,.ptr 1 0),(16,.i_ p_v.aF),(17,.b_ r_)],[.dead,.box 25 (.dat (aj.lf1 p_v)),.dead,.row 5 1 ((p_s0 ++ [IntKind.wrap .u8 p_v.aF]).map (lfK .u8))]⟩) ⟨[(0,.own 3),(3,.ptr 1 0),(16,.i_ p_v.aF),(17,.lf (.bool (p_v.aF == 3)))],[.dead,.box 25 (.dat (aj.lf1 p_v)),.dead,.row 5 1 ((p_s0 ++ [IntKind.wrap .u8 p_v.aF]).map (lfK .u8))]⟩ (YG R_ p_s0 p_v).den (jW (by kernel_rfl)) fun r0 _ =>
 .iB (r0) (.cH [3] (yh p_v.eU (p_s0 ++ [IntKind.wrap .u8 p_v.aF])) fun r1 _ =>
 .ret ⟨[.kill 1],[0],[(4,3)],4⟩ (r1)) <|
 .ite (p_v.aF == 9) (fun c0 =>
 .say [.br true,.rows (((p_s0 ++ [IntKind.wrap .u8 p_v.aF]) ++ [IntKind.wrap .u8 p_v.eU]).map (lfK .u8))] (okc c0 (ok1 (by simp [lfI,lfK] : ((p_s0 ++ [IntKind.wrap .u8 p_v.aF]) ++ [IntKind.wrap .u8 p_v.eU]).map (lfK .u8) = ((p_s0 ++ [IntKind.wrap .u8 p_v.aF]).map (lfK .u8)) ++ [((lfK .u8) (IntKind.wrap .u8 p_v.eU))]))) <|
 .grd (((p_s0 ++ [IntKind.wrap .u8 p_v.aF]).length + [IntKind.wrap .u8 p_v.eU].length) * 1 ≤ 140737488355328) fun h0 =>
 .say [] (ok1 (by simpa using h0:(((p_s0 ++ [IntKind.wrap .u8 p_v.aF]).map (lfK .u8)).length + [((lfK .u8) (IntKind.wrap .u8 p_v.eU))].length) * 1 ≤ 140737488355328)) <|
 .ret ⟨[.kill 1],[0],[(5,3)],4⟩ ((p_s0 ++ [IntKind.wrap .u8 p_v.aF]) ++ [IntKind.wrap .u8 p_v.eU])) fun c0 =>
 .say [.br false] (ok1 c0) <|
 .jp Tryz.f206 1 [1,1,0,1,0,1,1,1,1,0,1] 1 [0,3,16,32] 4 (.normal) (fun r_=>⟨[(0,.own 3),(3,.ptr 1 0),(16,.i_ p_v.aF),(32,.b_ r_)],[.dead,.box 25 (.dat (aj.lf1 p_v)),.dead,.row 5 1 ((p_s0 ++ [IntKind.wrap .u8 p_v.aF]).map (lfK .u8))]⟩) ⟨[(0,.own 3),(3,.ptr 1 0),(16,.i_ p_v.aF),(32,.lf (.bool (p_v.aF == 4)))],[.dead,.box 25 (.dat (aj.lf1 p_v)),.dead,.row 5 1 ((p_s0 ++ [IntKind.wrap .u8 p_v.aF]).map (lfK .u8))]⟩ (YH R_ p_s0 p_v).den (jW (by kernel_rfl)) fun r2 _ =>
 .iB (r2) (.cH [3] (EI p_v.fText (p_s0 ++ [IntKind.wrap .u8 p_v.aF])) fun r3 _ =>
 .ret ⟨[.kill 1],[0],[(4,3)],4⟩ (r3)) <|
 .ite (p_v.aF == 8) (fun c1 =>
 .say [.br true,.rows (((p_s0 ++ [IntKind.wrap .u8 p_v.aF]) ++ (numsOf (p_v.fText:ByteArray))).map (lfK .u8))] (okc c1 (ok1 (by first | (rw [List.map_append,gy]; done) | (rw [gy,List.nil_append]; done) | simp [lfI,lfK,gy] : ((p_s0 ++ [IntKind.wrap .u8 p_v.aF]) ++ (numsOf (p_v.fText:ByteArray))).map (lfK .u8) = ((p_s0 ++ [IntKind.wrap .u8 p_v.aF]).map (lfK .u8)) ++ rY (p_v.fText:ByteArray)))) <|
 .grd ((p_s0 ++ [IntKind.wrap .u8 p_v.aF]).length + (p_v.fText:ByteArray).size ≤ 140737488355328) fun h1 =>
 .say [] (ok1 (by simpa using h1:((p_s0 ++ [IntKind.wrap .u8 p_v.aF]).map (lfK .u8)).length + (p_v.fText:ByteArray).size ≤ 140737488355328)) <|
 .ret ⟨[.kill 1],[0],[(4,3)],4⟩ ((p_s0 ++ [IntKind.wrap .u8 p_v.aF]) ++ (numsOf (p_v.fText:ByteArray)))) fun c1 =>
 .say [.br false] (ok1 c1) <|
 .ite (p_v.aF == 6) (fun c2 =>
 .say [.br true,.num p_v.aU.length] (okc c2 (ok1 (ln_ p_v.aU aj.lf))) <|
 .ask (Q36 (p_v.aU.length:Int) (p_s0 ++ [IntKind.wrap .u8 p_v.aF])) fun r4 h2 =>
 .say [.iD [3] (.own 1) [.dead,.row 5 1 (r4.map (lfK .u8))],.num p_v.aU.length] (okc (yh _ _ _ h2) (ok1 (ln_ p_v.aU aj.lf))) <|
 .ask (WG R_ p_v 0 r4) fun r5 h3 =>
 .say [.part [.kill 1] 0 [0,53,54,55] 5 (.exit 1) (Au r5).T (Au r5).H] (ok1 (afr h3)) <|
 .ret ⟨[],[0],[(4,3)],4⟩ (r5)) fun c2 =>
 .say [.br false] (ok1 c2) <|
 .ite (p_v.aF == 5) (fun c3 =>
 .say [.br true,.num p_v.aX.length] (okc c3 (ok1 (ln_ p_v.aX aB.lf))) <|
 .ask (Q36 (p_v.aX.length:Int) (p_s0 ++ [IntKind.wrap .u8 p_v.aF])) fun r6 h4 =>
 .say [.iD [3] (.own 1) [.dead,.row 5 1 (r6.map (lfK .u8))],.num p_v.aX.length] (okc (yh _ _ _ h4) (ok1 (ln_ p_v.aX aB.lf))) <|
 .ask (WH R_ p_v 0 r6) fun r7 h5 =>
 .say [.part [.kill 1] 0 [0,71,72,73] 5 (.exit 3) (Az r7).T (Az r7).H] (ok1 (afs h5)) <|
 .ret ⟨[],[0],[(4,3)],4⟩ (r7)) fun c3 =>
 .say [.br false] (ok1 c3) <|
 .ret ⟨[.kill 1],[0],[],4⟩ (p_s0 ++ [IntKind.wrap .u8 p_v.aF])
def WI (R_:kH) (p_s0:List Int) (p_v:aj) : Option (((List Int))) := Mo.den (GL R_ p_s0 p_v)
def AA  (r_:((List Int))) : St := ⟨[(0,.own 3)],[.dead,.dead,.dead,.row 5 1 (r_.map (lfK .u8))]⟩
theorem aft {R_:kH} {p_s0:List Int} {p_v:aj} {r_:((List Int))} (h:WI R_ p_s0 p_v = some r_) : eF Tryz.f206 1 [1,1,0,1] (.normal) (AA r_) ⟨[(0,.own 3),(3,.ptr 1 0),(16,.i_ p_v.aF)],[.dead,.box 25 (.dat (aj.lf1 p_v)),.dead,.row 5 1 ((p_s0 ++ [IntKind.wrap .u8 p_v.aF]).map (lfK .u8))]⟩ :=
 iE dA (GL R_ p_s0 p_v) (fun _=>.normal) AA (by kernel_rfl) h
def aja (R_:kH) (p_v:aj) (p_s0:List Int) : Mo (List Int) :=
 .say [.rows ((p_s0 ++ [IntKind.wrap .u8 p_v.aF]).map (lfK .u8))] (ok1 (by simp [lfI,lfK] : (p_s0 ++ [IntKind.wrap .u8 p_v.aF]).map (lfK .u8) = (p_s0.map (lfK .u8)) ++ [((lfK .u8) (IntKind.wrap .u8 p_v.aF))])) <|
 .grd ((p_s0.length + [IntKind.wrap .u8 p_v.aF].length) * 1 ≤ 140737488355328) fun h0 =>
 .say [] (ok1 (by simpa using h0:((p_s0.map (lfK .u8)).length + [((lfK .u8) (IntKind.wrap .u8 p_v.aF))].length) * 1 ≤ 140737488355328)) <|
 .ask (WI R_ p_s0 p_v) fun r0 h1 =>
 .say [.part [.kill 2] 6 [0,3,16] 4 (.normal) (AA r0).T (AA r0).H] (ok1 (aft h1)) <|
 .ret ⟨[.mvn 3],[0],[(4,1)],2⟩ (r0)
theorem am9 (R_:kH) (p_v:aj) (p_s0:List Int) : FH (Mo.den (aja R_ p_v p_s0)) 206 [.own 0,.dat (aj.lf1 p_v)] [.row 5 1 (p_s0.map (lfK .u8))] (fun _=>.own 1) (fun r=>[.dead,.row 5 1 (r.map (lfK .u8))]) := dW Tryz.func206 (by kernel_rfl) (fun _=>rfl) (by kernel_rfl)
def lU:Nat → kH
 | 0=>{ m1 := fun p_v=>none,ok1 := fun _ _ h=>(by cases h),m2 := fun p_v p_s0=>none,ok2 := fun _ _ _ h=>(by cases h) }
 | n_ + 1=>{ m1 := fun p_v=>Mo.den (ai9 (lU n_) p_v),ok1 := fun p_v r h=>am8 (lU n_) p_v r h,m2 := fun p_v p_s0=>Mo.den (aja (lU n_) p_v p_s0),ok2 := am9 (lU n_) }
def Q4 (p_v:aj) : Option (List Int) := (lU FU).m1 p_v
theorem aoT (p_v:aj) : FH (Q4 p_v) 206 [.raw (.slice none 0 0),.dat (aj.lf1 p_v)] [] (fun _=>.own 0) (fun r=>[.row 5 1 (r.map (lfK .u8))]) := (lU FU).ok1 p_v
def afu (p_v:aj) : Mo (ByteArray × Int) :=
 .cl (lT p_v) fun r0 _ =>
 .iB (!r0) (.ret (bf 2) (⟨#[]⟩,8)) <|
 .ask (Q4 p_v) fun r1 h0 =>
 .say [.iD [] (.own 0) [.row 5 1 (r1.map (lfK .u8))],.nums r1] (okc (aoT _ _ h0) (ok1 (by simp [lfI,lfK] : (r1.map (lfK .u8)) = r1.map fun n=>[Lf.int .u8 n]))) <|
 .ret (bf 2) (strOfNums r1,0)
def ajb (p_v:aj) : Option (ByteArray × Int) := Mo.den (afu p_v)
theorem ajc (p_v:aj) : FV (ajb p_v) 133 [.dat (aj.lf1 p_v)] (fun r=>.tup [.lf (.str r.1),.i_ r.2]) := dU Tryz.func133 (by kernel_rfl) (fun _=>rfl) (by kernel_rfl)
def ak7 (p_v:aj) (p_b0:au) : Mo (au) :=
 .cl (qX p_v) fun r0 _ =>
 .iB (r0) (.cH [0,1] (ou false p_b0) fun r1 _ =>
 .ret ⟨[.kill 2,.mvn 3],[],[(4,2)],3⟩ (r1)) <|
 .cl (lT p_v) fun r2 _ =>
 .iB (!r2) (.ret ⟨[.kill 2,.mvn 1],[],[(3,2)],3⟩ (au.mk p_b0.aS true)) <|
 .cl (ajc p_v) fun r3 _ =>
 .iB (r3.2 != 0) (.ret ⟨[.kill 2,.mvn 1],[],[(3,2)],3⟩ (au.mk p_b0.aS true)) <|
 .ask (Q71 true p_b0) fun r4 h0 =>
 .say [.iD [0,1] (.tup []) [.box 75 (.agg [.own 2,.b_ r4.bH]),.dead,.row 5 1 (r4.aS.map (lfK .u8))],.rows ((r4.aS ++ (numsOf (r3.1:ByteArray))).map (lfK .u8))] (okc (ou _ _ _ h0) (ok1 (by first | (rw [List.map_append,gy]; done) | (rw [gy,List.nil_append]; done) | simp [lfI,lfK,gy] : (r4.aS ++ (numsOf (r3.1:ByteArray))).map (lfK .u8) = (r4.aS.map (lfK .u8)) ++ rY (r3.1:ByteArray)))) <|
 .grd (r4.aS.length + (r3.1:ByteArray).size ≤ 140737488355328) fun h1 =>
 .say [] (ok1 (by simpa using h1:(r4.aS.map (lfK .u8)).length + (r3.1:ByteArray).size ≤ 140737488355328)) <|
 .ret ⟨[.kill 2,.mvn 4],[],[(5,2)],3⟩ (au.mk (r4.aS ++ (numsOf (r3.1:ByteArray))) r4.bH)
def Q96 (p_v:aj) (p_b0:au) : Option (au) := Mo.den (ak7 p_v p_b0)
theorem tJ (p_v:aj) (p_b0:au) : FH (Q96 p_v p_b0) 76 [.ptr 0 0,.dat (aj.lf1 p_v)] [.box 75 (.agg [.own 1,.b_ p_b0.bH]),.row 5 1 (p_b0.aS.map (lfK .u8))] (fun _=>.tup []) (fun r=>[.box 75 (.agg [.own 2,.b_ r.bH]),.dead,.row 5 1 (r.aS.map (lfK .u8))]) := dW Tryz.func76 (by kernel_rfl) (fun _=>rfl) (by kernel_rfl)
def afv (p_s:ByteArray) (p_b0:au) : Mo (au) :=
 .cH [0,1] (tH p_s p_b0) fun r0 _ =>
 .ret ⟨[.mvn 2],[],[(3,2)],3⟩ (r0)
def ana (p_s:ByteArray) (p_b0:au) : Option (au) := Mo.den (afv p_s p_b0)
theorem ajd (p_s:ByteArray) (p_b0:au) : FH (ana p_s p_b0) 209 [.ptr 0 0,.lf (.str p_s)] [.box 75 (.agg [.own 1,.b_ p_b0.bH]),.row 5 1 (p_b0.aS.map (lfK .u8))] (fun _=>.tup []) (fun r=>[.box 75 (.agg [.own 2,.b_ r.bH]),.dead,.row 5 1 (r.aS.map (lfK .u8))]) := dW Tryz.func209 (by kernel_rfl) (fun _=>rfl) (by kernel_rfl)
def GN (p_l:List ByteArray) : (Int × Bool × (List Int)) → Mo ((Int × Bool × (List Int)) ⊕ (Bool × (List Int))) := fun (v0,v1,l0) =>
 .iB (decide ((v0:Int) < (p_l.length:Int))) (.ask (fO p_l v0) fun x0 h0 =>
 .say [.row (lfS x0)] (ok1 (bY lS_ h0)) <|
 .cH [0,2] (ajd x0 (au.mk l0 v1)) fun r0 _ =>
 .ret ⟨[],[0,2,12,13,14],[(3,2)],3⟩ (.inl (IntKind.wrap .i64 (v0 + 1),r0.bH,r0.aS))) <|
 .rt [] 3 (.inr (v1,l0))
def afw (p_l:List ByteArray) (v0:Int) (v1:Bool) (l0:List Int) : Option ((Bool × (List Int))) := bT (fun v_=>(GN p_l v_).den) FU (v0,v1,l0)
def ak8 (p_l:List ByteArray) (p_b0:au) : Mo (au) :=
 .say [.num p_l.length] (ok1 (ln_ p_l lfS)) <|
 .ask (Q18 (p_l.length:Int) p_b0) fun r0 h0 =>
 .say [.iD [0,1] (.tup []) [.box 75 (.agg [.own 2,.b_ r0.bH]),.dead,.row 5 1 (r0.aS.map (lfK .u8))],.num p_l.length] (okc (fU _ _ _ h0) (ok1 (ln_ p_l lfS))) <|
 .lp Tryz.f208 2 [1,1,0] 0 [0,2,12,13,14] 3 (.exit 0) (fun r_=>⟨[],[.box 75 (.agg [.own 2,.b_ r_.1]),.dead,.row 5 1 (r_.2.map (lfK .u8))]⟩) (afw p_l 0 r0.bH r0.aS) (lW (fun (v0,v1,l0)=>⟨[(0,.ptr 0 0),(2,.raw (.func (.func 209) #[] #[])),(12,.lf (.rows 1 (p_l.map lfS))),(13,.i_ (p_l.length:Int)),(14,.i_ v0)],[.box 75 (.agg [.own 2,.b_ v1]),.dead,.row 5 1 (l0.map (lfK .u8))]⟩) (by kernel_rfl) rfl fun v_=>by kernel_rfl) fun r1 _ =>
 .ret ⟨[.mvn 2],[],[(3,2)],3⟩ (au.mk r1.2 r1.1)
def Q61 (p_l:List ByteArray) (p_b0:au) : Option (au) := Mo.den (ak8 p_l p_b0)
theorem GU (p_l:List ByteArray) (p_b0:au) : FH (Q61 p_l p_b0) 208 [.ptr 0 0,.lf (.rows 1 (p_l.map lfS)),.raw (.func (.func 209) #[] #[])] [.box 75 (.agg [.own 1,.b_ p_b0.bH]),.row 5 1 (p_b0.aS.map (lfK .u8))] (fun _=>.tup []) (fun r=>[.box 75 (.agg [.own 2,.b_ r.bH]),.dead,.row 5 1 (r.aS.map (lfK .u8))]) := dW Tryz.func208 (by kernel_rfl) (fun _=>rfl) (by kernel_rfl)
def afx (p_o:aV) (p_b0:au) : Mo (au) :=
 .cH [0,1] (GU p_o.dh p_b0) fun r0 _ =>
 .cH [0,3] (ou p_o.yP r0) fun r1 _ =>
 .ret ⟨[.kill 2,.mvn 4],[],[(5,2)],3⟩ (r1)
def aje (p_o:aV) (p_b0:au) : Option (au) := Mo.den (afx p_o p_b0)
theorem ajf (p_o:aV) (p_b0:au) : FH (aje p_o p_b0) 137 [.ptr 0 0,.dat (aV.lf1 p_o)] [.box 75 (.agg [.own 1,.b_ p_b0.bH]),.row 5 1 (p_b0.aS.map (lfK .u8))] (fun _=>.tup []) (fun r=>[.box 75 (.agg [.own 2,.b_ r.bH]),.dead,.row 5 1 (r.aS.map (lfK .u8))]) := dW Tryz.func137 (by kernel_rfl) (fun _=>rfl) (by kernel_rfl)
def GV (p_l:List aV) : (Int × Bool × (List Int)) → Mo ((Int × Bool × (List Int)) ⊕ (Bool × (List Int))) := fun (v0,v1,l0) =>
 .iB (decide ((v0:Int) < (p_l.length:Int))) (.ask (fO p_l v0) fun x0 h0 =>
 .say [.row (aV.lf1 x0),.at_ 10 3,.tod 20] (ok1 (bY aV.bD h0)) <|
 .cH [0,2] (ajf x0 (au.mk l0 v1)) fun r0 _ =>
 .ret ⟨[],[0,2,12,13,14],[(4,2)],3⟩ (.inl (IntKind.wrap .i64 (v0 + 1),r0.bH,r0.aS))) <|
 .rt [] 3 (.inr (v1,l0))
def afy (p_l:List aV) (v0:Int) (v1:Bool) (l0:List Int) : Option ((Bool × (List Int))) := bT (fun v_=>(GV p_l v_).den) FU (v0,v1,l0)
def ak9 (p_l:List aV) (p_b0:au) : Mo (au) :=
 .say [.num p_l.length] (ok1 (ln_ p_l aV.lf)) <|
 .ask (Q18 (p_l.length:Int) p_b0) fun r0 h0 =>
 .say [.iD [0,1] (.tup []) [.box 75 (.agg [.own 2,.b_ r0.bH]),.dead,.row 5 1 (r0.aS.map (lfK .u8))],.num p_l.length] (okc (fU _ _ _ h0) (ok1 (ln_ p_l aV.lf))) <|
 .lp Tryz.f136 2 [1,1,0] 0 [0,2,12,13,14] 3 (.exit 0) (fun r_=>⟨[],[.box 75 (.agg [.own 2,.b_ r_.1]),.dead,.row 5 1 (r_.2.map (lfK .u8))]⟩) (afy p_l 0 r0.bH r0.aS) (lW (fun (v0,v1,l0)=>⟨[(0,.ptr 0 0),(2,.raw (.func (.func 137) #[] #[])),(12,.lf (.rows 2 (p_l.map aV.lf))),(13,.i_ (p_l.length:Int)),(14,.i_ v0)],[.box 75 (.agg [.own 2,.b_ v1]),.dead,.row 5 1 (l0.map (lfK .u8))]⟩) (by kernel_rfl) rfl fun v_=>by kernel_rfl) fun r1 _ =>
 .ret ⟨[.mvn 2],[],[(3,2)],3⟩ (au.mk r1.2 r1.1)
def Q66 (p_l:List aV) (p_b0:au) : Option (au) := Mo.den (ak9 p_l p_b0)
theorem anb (p_l:List aV) (p_b0:au) : FH (Q66 p_l p_b0) 136 [.ptr 0 0,.lf (.rows 2 (p_l.map aV.lf)),.raw (.func (.func 137) #[] #[])] [.box 75 (.agg [.own 1,.b_ p_b0.bH]),.row 5 1 (p_b0.aS.map (lfK .u8))] (fun _=>.tup []) (fun r=>[.box 75 (.agg [.own 2,.b_ r.bH]),.dead,.row 5 1 (r.aS.map (lfK .u8))]) := dW Tryz.func136 (by kernel_rfl) (fun _=>rfl) (by kernel_rfl)
def GX (p_l:List aj) : (Int × Bool × (List Int)) → Mo ((Int × Bool × (List Int)) ⊕ (Bool × (List Int))) := fun (v0,v1,l0) =>
 .iB (decide ((v0:Int) < (p_l.length:Int))) (.ask (fO p_l v0) fun x0 h0 =>
 .say [.row (aj.lf1 x0),.at_ 10 3,.tod 20] (ok1 (bY aj.bD h0)) <|
 .cH [0,2] (tJ x0 (au.mk l0 v1)) fun r0 _ =>
 .ret ⟨[],[0,2,12,13,14],[(4,2)],3⟩ (.inl (IntKind.wrap .i64 (v0 + 1),r0.bH,r0.aS))) <|
 .rt [] 3 (.inr (v1,l0))
def afz (p_l:List aj) (v0:Int) (v1:Bool) (l0:List Int) : Option ((Bool × (List Int))) := bT (fun v_=>(GX p_l v_).den) FU (v0,v1,l0)
def ala (p_l:List aj) (p_b0:au) : Mo (au) :=
 .say [.num p_l.length] (ok1 (ln_ p_l aj.lf)) <|
 .ask (Q18 (p_l.length:Int) p_b0) fun r0 h0 =>
 .say [.iD [0,1] (.tup []) [.box 75 (.agg [.own 2,.b_ r0.bH]),.dead,.row 5 1 (r0.aS.map (lfK .u8))],.num p_l.length] (okc (fU _ _ _ h0) (ok1 (ln_ p_l aj.lf))) <|
 .lp Tryz.f207 2 [1,1,0] 0 [0,2,12,13,14] 3 (.exit 0) (fun r_=>⟨[],[.box 75 (.agg [.own 2,.b_ r_.1]),.dead,.row 5 1 (r_.2.map (lfK .u8))]⟩) (afz p_l 0 r0.bH r0.aS) (lW (fun (v0,v1,l0)=>⟨[(0,.ptr 0 0),(2,.raw (.func (.func 76) #[] #[])),(12,.lf (.rows 5 (p_l.map aj.lf))),(13,.i_ (p_l.length:Int)),(14,.i_ v0)],[.box 75 (.agg [.own 2,.b_ v1]),.dead,.row 5 1 (l0.map (lfK .u8))]⟩) (by kernel_rfl) rfl fun v_=>by kernel_rfl) fun r1 _ =>
 .ret ⟨[.mvn 2],[],[(3,2)],3⟩ (au.mk r1.2 r1.1)
def Q63 (p_l:List aj) (p_b0:au) : Option (au) := Mo.den (ala p_l p_b0)
theorem afA (p_l:List aj) (p_b0:au) : FH (Q63 p_l p_b0) 207 [.ptr 0 0,.lf (.rows 5 (p_l.map aj.lf)),.raw (.func (.func 76) #[] #[])] [.box 75 (.agg [.own 1,.b_ p_b0.bH]),.row 5 1 (p_b0.aS.map (lfK .u8))] (fun _=>.tup []) (fun r=>[.box 75 (.agg [.own 2,.b_ r.bH]),.dead,.row 5 1 (r.aS.map (lfK .u8))]) := dW Tryz.func207 (by kernel_rfl) (fun _=>rfl) (by kernel_rfl)
def afB (p_p:bG) (p_b0:au) : Mo (au) :=
 .cH [0,1] (fU p_p.fX p_b0) fun r0 _ =>
 .cH [0,3] (fU p_p.fY r0) fun r1 _ =>
 .ret ⟨[.kill 2,.mvn 4],[],[(5,2)],3⟩ (r1)
def ajg (p_p:bG) (p_b0:au) : Option (au) := Mo.den (afB p_p p_b0)
theorem ajh (p_p:bG) (p_b0:au) : FH (ajg p_p p_b0) 214 [.ptr 0 0,.dat (bG.lf1 p_p)] [.box 75 (.agg [.own 1,.b_ p_b0.bH]),.row 5 1 (p_b0.aS.map (lfK .u8))] (fun _=>.tup []) (fun r=>[.box 75 (.agg [.own 2,.b_ r.bH]),.dead,.row 5 1 (r.aS.map (lfK .u8))]) := dW Tryz.func214 (by kernel_rfl) (fun _=>rfl) (by kernel_rfl)
def GY (p_l:List bG) : (Int × Bool × (List Int)) → Mo ((Int × Bool × (List Int)) ⊕ (Bool × (List Int))) := fun (v0,v1,l0) =>
 .iB (decide ((v0:Int) < (p_l.length:Int))) (.ask (fO p_l v0) fun x0 h0 =>
 .say [.row (bG.lf1 x0),.at_ 10 3,.tod 20] (ok1 (bY bG.bD h0)) <|
 .cH [0,2] (ajh x0 (au.mk l0 v1)) fun r0 _ =>
 .ret ⟨[],[0,2,12,13,14],[(4,2)],3⟩ (.inl (IntKind.wrap .i64 (v0 + 1),r0.bH,r0.aS))) <|
 .rt [] 3 (.inr (v1,l0))
def afC (p_l:List bG) (v0:Int) (v1:Bool) (l0:List Int) : Option ((Bool × (List Int))) := bT (fun v_=>(GY p_l v_).den) FU (v0,v1,l0)
def alb (p_l:List bG) (p_b0:au) : Mo (au) :=
 .say [.num p_l.length] (ok1 (ln_ p_l bG.lf)) <|
 .ask (Q18 (p_l.length:Int) p_b0) fun r0 h0 =>
 .say [.iD [0,1] (.tup []) [.box 75 (.agg [.own 2,.b_ r0.bH]),.dead,.row 5 1 (r0.aS.map (lfK .u8))],.num p_l.length] (okc (fU _ _ _ h0) (ok1 (ln_ p_l bG.lf))) <|
 .lp Tryz.f213 2 [1,1,0] 0 [0,2,12,13,14] 3 (.exit 0) (fun r_=>⟨[],[.box 75 (.agg [.own 2,.b_ r_.1]),.dead,.row 5 1 (r_.2.map (lfK .u8))]⟩) (afC p_l 0 r0.bH r0.aS) (lW (fun (v0,v1,l0)=>⟨[(0,.ptr 0 0),(2,.raw (.func (.func 214) #[] #[])),(12,.lf (.rows 2 (p_l.map bG.lf))),(13,.i_ (p_l.length:Int)),(14,.i_ v0)],[.box 75 (.agg [.own 2,.b_ v1]),.dead,.row 5 1 (l0.map (lfK .u8))]⟩) (by kernel_rfl) rfl fun v_=>by kernel_rfl) fun r1 _ =>
 .ret ⟨[.mvn 2],[],[(3,2)],3⟩ (au.mk r1.2 r1.1)
def Q67 (p_l:List bG) (p_b0:au) : Option (au) := Mo.den (alb p_l p_b0)
theorem anc (p_l:List bG) (p_b0:au) : FH (Q67 p_l p_b0) 213 [.ptr 0 0,.lf (.rows 2 (p_l.map bG.lf)),.raw (.func (.func 214) #[] #[])] [.box 75 (.agg [.own 1,.b_ p_b0.bH]),.row 5 1 (p_b0.aS.map (lfK .u8))] (fun _=>.tup []) (fun r=>[.box 75 (.agg [.own 2,.b_ r.bH]),.dead,.row 5 1 (r.aS.map (lfK .u8))]) := dW Tryz.func213 (by kernel_rfl) (fun _=>rfl) (by kernel_rfl)
structure WJ where
 m1:(p_e:aG) → (p_b0:au) → Option (au)
 ok1:∀ p_e p_b0,FH (m1 p_e p_b0) 215 [.ptr 0 0,.dat (aG.lf1 p_e)] [.box 75 (.agg [.own 1,.b_ p_b0.bH]),.row 5 1 (p_b0.aS.map (lfK .u8))] (fun _=>.tup []) (fun r=>[.box 75 (.agg [.own 2,.b_ r.bH]),.dead,.row 5 1 (r.aS.map (lfK .u8))])
 m2:(p_l:List aG) → (p_b0:au) → Option (au)
 ok2:∀ p_l p_b0,FH (m2 p_l p_b0) 279 [.ptr 0 0,.lf (.rows 11 (p_l.map aG.lf)),.raw (.func (.func 215) #[] #[])] [.box 75 (.agg [.own 1,.b_ p_b0.bH]),.row 5 1 (p_b0.aS.map (lfK .u8))] (fun _=>.tup []) (fun r=>[.box 75 (.agg [.own 2,.b_ r.bH]),.dead,.row 5 1 (r.aS.map (lfK .u8))])
def Om (R_:WJ) (p_e:aG) (p_b0:au) : Mo (au) :=
 .cH [0,1] (fU p_e.fOp p_b0) fun r0 _ =>
 .cH [0,3] (GU p_e.dh r0) fun r1 _ =>
 .cH [0,4] (tH p_e.fName r1) fun r2 _ =>
 .cH [0,5] (GU p_e.fB r2) fun r3 _ =>
 .cH [0,6] (tJ p_e.fArg r3) fun r4 _ =>
 .cH [0,7] (fU p_e.fN r4) fun r5 _ =>
 .cH [0,8] (R_.ok2 p_e.bW r5) fun r6 _ =>
 .ret ⟨[.kill 2,.mvn 9],[],[(10,2)],3⟩ (r6)
theorem afD (R_:WJ) (p_e:aG) (p_b0:au) : FH (Mo.den (Om R_ p_e p_b0)) 215 [.ptr 0 0,.dat (aG.lf1 p_e)] [.box 75 (.agg [.own 1,.b_ p_b0.bH]),.row 5 1 (p_b0.aS.map (lfK .u8))] (fun _=>.tup []) (fun r=>[.box 75 (.agg [.own 2,.b_ r.bH]),.dead,.row 5 1 (r.aS.map (lfK .u8))]) := dW Tryz.func215 (by kernel_rfl) (fun _=>rfl) (by kernel_rfl)
def GZ (R_:WJ) (p_l:List aG) : (Int × Bool × (List Int)) → Mo ((Int × Bool × (List Int)) ⊕ (Bool × (List Int))) := fun (v0,v1,l0) =>
 .iB (decide ((v0:Int) < (p_l.length:Int))) (.ask (fO p_l v0) fun x0 h0 =>
 .say [.row (aG.lf1 x0),.at_ 10 3,.tod 20] (ok1 (bY aG.bD h0)) <|
 .cH [0,2] (R_.ok1 x0 (au.mk l0 v1)) fun r0 _ =>
 .ret ⟨[],[0,2,12,13,14],[(4,2)],3⟩ (.inl (IntKind.wrap .i64 (v0 + 1),r0.bH,r0.aS))) <|
 .rt [] 3 (.inr (v1,l0))
def afE (R_:WJ) (p_l:List aG) (v0:Int) (v1:Bool) (l0:List Int) : Option ((Bool × (List Int))) := bT (fun v_=>(GZ R_ p_l v_).den) FU (v0,v1,l0)
def YI (R_:WJ) (p_l:List aG) (p_b0:au) : Mo (au) :=
 .say [.num p_l.length] (ok1 (ln_ p_l aG.lf)) <|
 .ask (Q18 (p_l.length:Int) p_b0) fun r0 h0 =>
 .say [.iD [0,1] (.tup []) [.box 75 (.agg [.own 2,.b_ r0.bH]),.dead,.row 5 1 (r0.aS.map (lfK .u8))],.num p_l.length] (okc (fU _ _ _ h0) (ok1 (ln_ p_l aG.lf))) <|
 .lp Tryz.f279 2 [1,1,0] 0 [0,2,12,13,14] 3 (.exit 0) (fun r_=>⟨[],[.box 75 (.agg [.own 2,.b_ r_.1]),.dead,.row 5 1 (r_.2.map (lfK .u8))]⟩) (afE R_ p_l 0 r0.bH r0.aS) (lW (fun (v0,v1,l0)=>⟨[(0,.ptr 0 0),(2,.raw (.func (.func 215) #[] #[])),(12,.lf (.rows 11 (p_l.map aG.lf))),(13,.i_ (p_l.length:Int)),(14,.i_ v0)],[.box 75 (.agg [.own 2,.b_ v1]),.dead,.row 5 1 (l0.map (lfK .u8))]⟩) (by kernel_rfl) rfl fun v_=>by kernel_rfl) fun r1 _ =>
 .ret ⟨[.mvn 2],[],[(3,2)],3⟩ (au.mk r1.2 r1.1)
theorem aji (R_:WJ) (p_l:List aG) (p_b0:au) : FH (Mo.den (YI R_ p_l p_b0)) 279 [.ptr 0 0,.lf (.rows 11 (p_l.map aG.lf)),.raw (.func (.func 215) #[] #[])] [.box 75 (.agg [.own 1,.b_ p_b0.bH]),.row 5 1 (p_b0.aS.map (lfK .u8))] (fun _=>.tup []) (fun r=>[.box 75 (.agg [.own 2,.b_ r.bH]),.dead,.row 5 1 (r.aS.map (lfK .u8))]) := dW Tryz.func279 (by kernel_rfl) (fun _=>rfl) (by kernel_rfl)
def nO:Nat → WJ
 | 0=>{ m1 := fun p_e p_b0=>none,ok1 := fun _ _ _ h=>(by cases h),m2 := fun p_l p_b0=>none,ok2 := fun _ _ _ h=>(by cases h) }
 | n_ + 1=>{ m1 := fun p_e p_b0=>Mo.den (Om (nO n_) p_e p_b0),ok1 := fun p_e p_b0 r h=>afD (nO n_) p_e p_b0 r h,m2 := fun p_l p_b0=>Mo.den (YI (nO n_) p_l p_b0),ok2 := aji (nO n_) }
def aoU (p_e:aG) (p_b0:au) : Option (au) := (nO FU).m1 p_e p_b0
theorem ajj (p_e:aG) (p_b0:au) : FH (aoU p_e p_b0) 215 [.ptr 0 0,.dat (aG.lf1 p_e)] [.box 75 (.agg [.own 1,.b_ p_b0.bH]),.row 5 1 (p_b0.aS.map (lfK .u8))] (fun _=>.tup []) (fun r=>[.box 75 (.agg [.own 2,.b_ r.bH]),.dead,.row 5 1 (r.aS.map (lfK .u8))]) := (nO FU).ok1 p_e p_b0
structure WL where
 m1:(p_p:aC) → (p_b0:au) → Option (au)
 ok1:∀ p_p p_b0,FH (m1 p_p p_b0) 138 [.ptr 0 0,.dat (aC.lf1 p_p)] [.box 75 (.agg [.own 1,.b_ p_b0.bH]),.row 5 1 (p_b0.aS.map (lfK .u8))] (fun _=>.tup []) (fun r=>[.box 75 (.agg [.own 2,.b_ r.bH]),.dead,.row 5 1 (r.aS.map (lfK .u8))])
 m2:(p_l:List aC) → (p_b0:au) → Option (au)
 ok2:∀ p_l p_b0,FH (m2 p_l p_b0) 216 [.ptr 0 0,.lf (.rows 25 (p_l.map aC.lf)),.raw (.func (.func 138) #[] #[])] [.box 75 (.agg [.own 1,.b_ p_b0.bH]),.row 5 1 (p_b0.aS.map (lfK .u8))] (fun _=>.tup []) (fun r=>[.box 75 (.agg [.own 2,.b_ r.bH]),.dead,.row 5 1 (r.aS.map (lfK .u8))])
def Oo (R_:WL) (p_p:aC) (p_b0:au) : Mo (au) :=
 .cH [0,1] (fU p_p.fOp p_b0) fun r0 _ =>
 .cH [0,3] (GU p_p.dh r0) fun r1 _ =>
 .cH [0,4] (tJ p_p.fArg r1) fun r2 _ =>
 .cH [0,5] (afA p_p.fArgs r2) fun r3 _ =>
 .cH [0,6] (fU p_p.fN r3) fun r4 _ =>
 .cH [0,7] (fU p_p.fM r4) fun r5 _ =>
 .cH [0,8] (fU p_p.dH.aF r5) fun r6 _ =>
 .cH [0,9] (anc p_p.dH.dB r6) fun r7 _ =>
 .cH [0,10] (fU p_p.dH.fR r7) fun r8 _ =>
 .cH [0,11] (ajj p_p.fExpr r8) fun r9 _ =>
 .cH [0,12] (R_.ok2 p_p.bW r9) fun r10 _ =>
 .ret ⟨[.kill 2,.mvn 13],[],[(14,2)],3⟩ (r10)
theorem afF (R_:WL) (p_p:aC) (p_b0:au) : FH (Mo.den (Oo R_ p_p p_b0)) 138 [.ptr 0 0,.dat (aC.lf1 p_p)] [.box 75 (.agg [.own 1,.b_ p_b0.bH]),.row 5 1 (p_b0.aS.map (lfK .u8))] (fun _=>.tup []) (fun r=>[.box 75 (.agg [.own 2,.b_ r.bH]),.dead,.row 5 1 (r.aS.map (lfK .u8))]) := dW Tryz.func138 (by kernel_rfl) (fun _=>rfl) (by kernel_rfl)
def G5 (R_:WL) (p_l:List aC) : (Int × Bool × (List Int)) → Mo ((Int × Bool × (List Int)) ⊕ (Bool × (List Int))) := fun (v0,v1,l0) =>
 .iB (decide ((v0:Int) < (p_l.length:Int))) (.ask (fO p_l v0) fun x0 h0 =>
 .say [.row (aC.lf1 x0),.at_ 10 3,.tod 20] (ok1 (bY aC.bD h0)) <|
 .cH [0,2] (R_.ok1 x0 (au.mk l0 v1)) fun r0 _ =>
 .ret ⟨[],[0,2,12,13,14],[(4,2)],3⟩ (.inl (IntKind.wrap .i64 (v0 + 1),r0.bH,r0.aS))) <|
 .rt [] 3 (.inr (v1,l0))
def afG (R_:WL) (p_l:List aC) (v0:Int) (v1:Bool) (l0:List Int) : Option ((Bool × (List Int))) := bT (fun v_=>(G5 R_ p_l v_).den) FU (v0,v1,l0)
def YJ (R_:WL) (p_l:List aC) (p_b0:au) : Mo (au) :=
 .say [.num p_l.length] (ok1 (ln_ p_l aC.lf)) <|
 .ask (Q18 (p_l.length:Int) p_b0) fun r0 h0 =>
 .say [.iD [0,1] (.tup []) [.box 75 (.agg [.own 2,.b_ r0.bH]),.dead,.row 5 1 (r0.aS.map (lfK .u8))],.num p_l.length] (okc (fU _ _ _ h0) (ok1 (ln_ p_l aC.lf))) <|
 .lp Tryz.f216 2 [1,1,0] 0 [0,2,12,13,14] 3 (.exit 0) (fun r_=>⟨[],[.box 75 (.agg [.own 2,.b_ r_.1]),.dead,.row 5 1 (r_.2.map (lfK .u8))]⟩) (afG R_ p_l 0 r0.bH r0.aS) (lW (fun (v0,v1,l0)=>⟨[(0,.ptr 0 0),(2,.raw (.func (.func 138) #[] #[])),(12,.lf (.rows 25 (p_l.map aC.lf))),(13,.i_ (p_l.length:Int)),(14,.i_ v0)],[.box 75 (.agg [.own 2,.b_ v1]),.dead,.row 5 1 (l0.map (lfK .u8))]⟩) (by kernel_rfl) rfl fun v_=>by kernel_rfl) fun r1 _ =>
 .ret ⟨[.mvn 2],[],[(3,2)],3⟩ (au.mk r1.2 r1.1)
theorem ajk (R_:WL) (p_l:List aC) (p_b0:au) : FH (Mo.den (YJ R_ p_l p_b0)) 216 [.ptr 0 0,.lf (.rows 25 (p_l.map aC.lf)),.raw (.func (.func 138) #[] #[])] [.box 75 (.agg [.own 1,.b_ p_b0.bH]),.row 5 1 (p_b0.aS.map (lfK .u8))] (fun _=>.tup []) (fun r=>[.box 75 (.agg [.own 2,.b_ r.bH]),.dead,.row 5 1 (r.aS.map (lfK .u8))]) := dW Tryz.func216 (by kernel_rfl) (fun _=>rfl) (by kernel_rfl)
def nP:Nat → WL
 | 0=>{ m1 := fun p_p p_b0=>none,ok1 := fun _ _ _ h=>(by cases h),m2 := fun p_l p_b0=>none,ok2 := fun _ _ _ h=>(by cases h) }
 | n_ + 1=>{ m1 := fun p_p p_b0=>Mo.den (Oo (nP n_) p_p p_b0),ok1 := fun p_p p_b0 r h=>afF (nP n_) p_p p_b0 r h,m2 := fun p_l p_b0=>Mo.den (YJ (nP n_) p_l p_b0),ok2 := ajk (nP n_) }
def aoV (p_p:aC) (p_b0:au) : Option (au) := (nP FU).m1 p_p p_b0
theorem ajl (p_p:aC) (p_b0:au) : FH (aoV p_p p_b0) 138 [.ptr 0 0,.dat (aC.lf1 p_p)] [.box 75 (.agg [.own 1,.b_ p_b0.bH]),.row 5 1 (p_b0.aS.map (lfK .u8))] (fun _=>.tup []) (fun r=>[.box 75 (.agg [.own 2,.b_ r.bH]),.dead,.row 5 1 (r.aS.map (lfK .u8))]) := (nP FU).ok1 p_p p_b0
def afH (p_x:aK) (p_b0:au) : Mo (au) :=
 .cH [0,1] (tH p_x.fName p_b0) fun r0 _ =>
 .cH [0,3] (fU p_x.aF r0) fun r1 _ =>
 .cH [0,4] (anb p_x.gG r1) fun r2 _ =>
 .cH [0,5] (ou p_x.eP r2) fun r3 _ =>
 .cH [0,6] (ou p_x.jm r3) fun r4 _ =>
 .cH [0,7] (ou p_x.iq r4) fun r5 _ =>
 .cH [0,8] (ajl p_x.bn r5) fun r6 _ =>
 .ret ⟨[.kill 2,.mvn 9],[],[(10,2)],3⟩ (r6)
def ajm (p_x:aK) (p_b0:au) : Option (au) := Mo.den (afH p_x p_b0)
theorem YK (p_x:aK) (p_b0:au) : FH (ajm p_x p_b0) 78 [.ptr 0 0,.dat (aK.lf1 p_x)] [.box 75 (.agg [.own 1,.b_ p_b0.bH]),.row 5 1 (p_b0.aS.map (lfK .u8))] (fun _=>.tup []) (fun r=>[.box 75 (.agg [.own 2,.b_ r.bH]),.dead,.row 5 1 (r.aS.map (lfK .u8))]) := dW Tryz.func78 (by kernel_rfl) (fun _=>rfl) (by kernel_rfl)
def G6 (p_l:List aK) : (Int × Bool × (List Int)) → Mo ((Int × Bool × (List Int)) ⊕ (Bool × (List Int))) := fun (v0,v1,l0) =>
 .iB (decide ((v0:Int) < (p_l.length:Int))) (.ask (fO p_l v0) fun x0 h0 =>
 .say [.row (aK.lf1 x0),.at_ 10 3,.tod 20] (ok1 (bY aK.bD h0)) <|
 .cH [0,2] (YK x0 (au.mk l0 v1)) fun r0 _ =>
 .ret ⟨[],[0,2,12,13,14],[(4,2)],3⟩ (.inl (IntKind.wrap .i64 (v0 + 1),r0.bH,r0.aS))) <|
 .rt [] 3 (.inr (v1,l0))
def afI (p_l:List aK) (v0:Int) (v1:Bool) (l0:List Int) : Option ((Bool × (List Int))) := bT (fun v_=>(G6 p_l v_).den) FU (v0,v1,l0)
def alc (p_l:List aK) (p_b0:au) : Mo (au) :=
 .say [.num p_l.length] (ok1 (ln_ p_l aK.lf)) <|
 .ask (Q18 (p_l.length:Int) p_b0) fun r0 h0 =>
 .say [.iD [0,1] (.tup []) [.box 75 (.agg [.own 2,.b_ r0.bH]),.dead,.row 5 1 (r0.aS.map (lfK .u8))],.num p_l.length] (okc (fU _ _ _ h0) (ok1 (ln_ p_l aK.lf))) <|
 .lp Tryz.f134 2 [1,1,0] 0 [0,2,12,13,14] 3 (.exit 0) (fun r_=>⟨[],[.box 75 (.agg [.own 2,.b_ r_.1]),.dead,.row 5 1 (r_.2.map (lfK .u8))]⟩) (afI p_l 0 r0.bH r0.aS) (lW (fun (v0,v1,l0)=>⟨[(0,.ptr 0 0),(2,.raw (.func (.func 78) #[] #[])),(12,.lf (.rows 31 (p_l.map aK.lf))),(13,.i_ (p_l.length:Int)),(14,.i_ v0)],[.box 75 (.agg [.own 2,.b_ v1]),.dead,.row 5 1 (l0.map (lfK .u8))]⟩) (by kernel_rfl) rfl fun v_=>by kernel_rfl) fun r1 _ =>
 .ret ⟨[.mvn 2],[],[(3,2)],3⟩ (au.mk r1.2 r1.1)
def Q68 (p_l:List aK) (p_b0:au) : Option (au) := Mo.den (alc p_l p_b0)
theorem ane (p_l:List aK) (p_b0:au) : FH (Q68 p_l p_b0) 134 [.ptr 0 0,.lf (.rows 31 (p_l.map aK.lf)),.raw (.func (.func 78) #[] #[])] [.box 75 (.agg [.own 1,.b_ p_b0.bH]),.row 5 1 (p_b0.aS.map (lfK .u8))] (fun _=>.tup []) (fun r=>[.box 75 (.agg [.own 2,.b_ r.bH]),.dead,.row 5 1 (r.aS.map (lfK .u8))]) := dW Tryz.func134 (by kernel_rfl) (fun _=>rfl) (by kernel_rfl)
end
end Go.Proofs.YtflpefkohpjjpaaGreatDoor
set_option linter.unusedSimpArgs false
set_option linter.unusedVariables false
namespace Go.Proofs.YtflpefkohpjjpaaGreatDoor
open Go.RowKit
set_option maxRecDepth 20000
set_option maxHeartbeats 4000000
noncomputable section
structure Cm where
 m1:(p_s:aA) → (p_b0:au) → Option (au)
 ok1:∀ p_s p_b0,FH (m1 p_s p_b0) 135 [.ptr 0 0,.dat (aA.lf1 p_s)] [.box 75 (.agg [.own 1,.b_ p_b0.bH]),.row 5 1 (p_b0.aS.map (lfK .u8))] (fun _=>.tup []) (fun r=>[.box 75 (.agg [.own 2,.b_ r.bH]),.dead,.row 5 1 (r.aS.map (lfK .u8))])
 m2:(p_l:List bC) → (p_b0:au) → Option (au)
 ok2:∀ p_l p_b0,FH (m2 p_l p_b0) 210 [.ptr 0 0,.lf (.rows 22 (p_l.map bC.lf)),.raw (.func (.func 211) #[] #[])] [.box 75 (.agg [.own 1,.b_ p_b0.bH]),.row 5 1 (p_b0.aS.map (lfK .u8))] (fun _=>.tup []) (fun r=>[.box 75 (.agg [.own 2,.b_ r.bH]),.dead,.row 5 1 (r.aS.map (lfK .u8))])
 m3:(p_l:List aA) → (p_b0:au) → Option (au)
 ok3:∀ p_l p_b0,FH (m3 p_l p_b0) 212 [.ptr 0 0,.lf (.rows 21 (p_l.map aA.lf)),.raw (.func (.func 135) #[] #[])] [.box 75 (.agg [.own 1,.b_ p_b0.bH]),.row 5 1 (p_b0.aS.map (lfK .u8))] (fun _=>.tup []) (fun r=>[.box 75 (.agg [.own 2,.b_ r.bH]),.dead,.row 5 1 (r.aS.map (lfK .u8))])
 m4:(p_p:bC) → (p_b0:au) → Option (au)
 ok4:∀ p_p p_b0,FH (m4 p_p p_b0) 211 [.ptr 0 0,.dat (bC.lf1 p_p)] [.box 75 (.agg [.own 1,.b_ p_b0.bH]),.row 5 1 (p_b0.aS.map (lfK .u8))] (fun _=>.tup []) (fun r=>[.box 75 (.agg [.own 2,.b_ r.bH]),.dead,.row 5 1 (r.aS.map (lfK .u8))])
def Oq (R_:Cm) (p_s:aA) (p_b0:au) : Mo (au) :=
 .cH [0,1] (fU p_s.jw p_b0) fun r0 _ =>
 .cH [0,3] (ou p_s.iR r0) fun r1 _ =>
 .cH [0,4] (tJ p_s.jO r1) fun r2 _ =>
 .cH [0,5] (ou p_s.iT r2) fun r3 _ =>
 .cH [0,6] (tJ p_s.jP r3) fun r4 _ =>
 .cH [0,7] (afA p_s.jl r4) fun r5 _ =>
 .cH [0,8] (fU p_s.iU r5) fun r6 _ =>
 .cH [0,9] (fU p_s.iV r6) fun r7 _ =>
 .cH [0,10] (GU p_s.dN r7) fun r8 _ =>
 .cH [0,11] (R_.ok2 p_s.dX r8) fun r9 _ =>
 .cH [0,12] (ou p_s.jo r9) fun r10 _ =>
 .cH [0,13] (R_.ok3 p_s.fC r10) fun r11 _ =>
 .cH [0,14] (ou p_s.eP r11) fun r12 _ =>
 .ret ⟨[.kill 2,.mvn 15],[],[(16,2)],3⟩ (r12)
theorem afJ (R_:Cm) (p_s:aA) (p_b0:au) : FH (Mo.den (Oq R_ p_s p_b0)) 135 [.ptr 0 0,.dat (aA.lf1 p_s)] [.box 75 (.agg [.own 1,.b_ p_b0.bH]),.row 5 1 (p_b0.aS.map (lfK .u8))] (fun _=>.tup []) (fun r=>[.box 75 (.agg [.own 2,.b_ r.bH]),.dead,.row 5 1 (r.aS.map (lfK .u8))]) := dW Tryz.func135 (by kernel_rfl) (fun _=>rfl) (by kernel_rfl)
def G7 (R_:Cm) (p_l:List bC) : (Int × Bool × (List Int)) → Mo ((Int × Bool × (List Int)) ⊕ (Bool × (List Int))) := fun (v0,v1,l0) =>
 .iB (decide ((v0:Int) < (p_l.length:Int))) (.ask (fO p_l v0) fun x0 h0 =>
 .say [.row (bC.lf1 x0),.at_ 10 3,.tod 20] (ok1 (bY bC.bD h0)) <|
 .cH [0,2] (R_.ok4 x0 (au.mk l0 v1)) fun r0 _ =>
 .ret ⟨[],[0,2,12,13,14],[(4,2)],3⟩ (.inl (IntKind.wrap .i64 (v0 + 1),r0.bH,r0.aS))) <|
 .rt [] 3 (.inr (v1,l0))
def afK (R_:Cm) (p_l:List bC) (v0:Int) (v1:Bool) (l0:List Int) : Option ((Bool × (List Int))) := bT (fun v_=>(G7 R_ p_l v_).den) FU (v0,v1,l0)
def YL (R_:Cm) (p_l:List bC) (p_b0:au) : Mo (au) :=
 .say [.num p_l.length] (ok1 (ln_ p_l bC.lf)) <|
 .ask (Q18 (p_l.length:Int) p_b0) fun r0 h0 =>
 .say [.iD [0,1] (.tup []) [.box 75 (.agg [.own 2,.b_ r0.bH]),.dead,.row 5 1 (r0.aS.map (lfK .u8))],.num p_l.length] (okc (fU _ _ _ h0) (ok1 (ln_ p_l bC.lf))) <|
 .lp Tryz.f210 2 [1,1,0] 0 [0,2,12,13,14] 3 (.exit 0) (fun r_=>⟨[],[.box 75 (.agg [.own 2,.b_ r_.1]),.dead,.row 5 1 (r_.2.map (lfK .u8))]⟩) (afK R_ p_l 0 r0.bH r0.aS) (lW (fun (v0,v1,l0)=>⟨[(0,.ptr 0 0),(2,.raw (.func (.func 211) #[] #[])),(12,.lf (.rows 22 (p_l.map bC.lf))),(13,.i_ (p_l.length:Int)),(14,.i_ v0)],[.box 75 (.agg [.own 2,.b_ v1]),.dead,.row 5 1 (l0.map (lfK .u8))]⟩) (by kernel_rfl) rfl fun v_=>by kernel_rfl) fun r1 _ =>
 .ret ⟨[.mvn 2],[],[(3,2)],3⟩ (au.mk r1.2 r1.1)
theorem ajn (R_:Cm) (p_l:List bC) (p_b0:au) : FH (Mo.den (YL R_ p_l p_b0)) 210 [.ptr 0 0,.lf (.rows 22 (p_l.map bC.lf)),.raw (.func (.func 211) #[] #[])] [.box 75 (.agg [.own 1,.b_ p_b0.bH]),.row 5 1 (p_b0.aS.map (lfK .u8))] (fun _=>.tup []) (fun r=>[.box 75 (.agg [.own 2,.b_ r.bH]),.dead,.row 5 1 (r.aS.map (lfK .u8))]) := dW Tryz.func210 (by kernel_rfl) (fun _=>rfl) (by kernel_rfl)
def G8 (R_:Cm) (p_l:List aA) : (Int × Bool × (List Int)) → Mo ((Int × Bool × (List Int)) ⊕ (Bool × (List Int))) := fun (v0,v1,l0) =>
 .iB (decide ((v0:Int) < (p_l.length:Int))) (.ask (fO p_l v0) fun x0 h0 =>
 .say [.row (aA.lf1 x0),.at_ 10 3,.tod 20] (ok1 (bY aA.bD h0)) <|
 .cH [0,2] (R_.ok1 x0 (au.mk l0 v1)) fun r0 _ =>
 .ret ⟨[],[0,2,12,13,14],[(4,2)],3⟩ (.inl (IntKind.wrap .i64 (v0 + 1),r0.bH,r0.aS))) <|
 .rt [] 3 (.inr (v1,l0))
def afL (R_:Cm) (p_l:List aA) (v0:Int) (v1:Bool) (l0:List Int) : Option ((Bool × (List Int))) := bT (fun v_=>(G8 R_ p_l v_).den) FU (v0,v1,l0)
def YM (R_:Cm) (p_l:List aA) (p_b0:au) : Mo (au) :=
 .say [.num p_l.length] (ok1 (ln_ p_l aA.lf)) <|
 .ask (Q18 (p_l.length:Int) p_b0) fun r0 h0 =>
 .say [.iD [0,1] (.tup []) [.box 75 (.agg [.own 2,.b_ r0.bH]),.dead,.row 5 1 (r0.aS.map (lfK .u8))],.num p_l.length] (okc (fU _ _ _ h0) (ok1 (ln_ p_l aA.lf))) <|
 .lp Tryz.f212 2 [1,1,0] 0 [0,2,12,13,14] 3 (.exit 0) (fun r_=>⟨[],[.box 75 (.agg [.own 2,.b_ r_.1]),.dead,.row 5 1 (r_.2.map (lfK .u8))]⟩) (afL R_ p_l 0 r0.bH r0.aS) (lW (fun (v0,v1,l0)=>⟨[(0,.ptr 0 0),(2,.raw (.func (.func 135) #[] #[])),(12,.lf (.rows 21 (p_l.map aA.lf))),(13,.i_ (p_l.length:Int)),(14,.i_ v0)],[.box 75 (.agg [.own 2,.b_ v1]),.dead,.row 5 1 (l0.map (lfK .u8))]⟩) (by kernel_rfl) rfl fun v_=>by kernel_rfl) fun r1 _ =>
 .ret ⟨[.mvn 2],[],[(3,2)],3⟩ (au.mk r1.2 r1.1)
theorem ajo (R_:Cm) (p_l:List aA) (p_b0:au) : FH (Mo.den (YM R_ p_l p_b0)) 212 [.ptr 0 0,.lf (.rows 21 (p_l.map aA.lf)),.raw (.func (.func 135) #[] #[])] [.box 75 (.agg [.own 1,.b_ p_b0.bH]),.row 5 1 (p_b0.aS.map (lfK .u8))] (fun _=>.tup []) (fun r=>[.box 75 (.agg [.own 2,.b_ r.bH]),.dead,.row 5 1 (r.aS.map (lfK .u8))]) := dW Tryz.func212 (by kernel_rfl) (fun _=>rfl) (by kernel_rfl)
def Ot (R_:Cm) (p_p:bC) (p_b0:au) : Mo (au) :=
 .cH [0,1] (tH p_p.fName p_b0) fun r0 _ =>
 .cH [0,3] (R_.ok1 p_p.aW r0) fun r1 _ =>
 .ret ⟨[.kill 2,.mvn 4],[],[(5,2)],3⟩ (r1)
theorem afM (R_:Cm) (p_p:bC) (p_b0:au) : FH (Mo.den (Ot R_ p_p p_b0)) 211 [.ptr 0 0,.dat (bC.lf1 p_p)] [.box 75 (.agg [.own 1,.b_ p_b0.bH]),.row 5 1 (p_b0.aS.map (lfK .u8))] (fun _=>.tup []) (fun r=>[.box 75 (.agg [.own 2,.b_ r.bH]),.dead,.row 5 1 (r.aS.map (lfK .u8))]) := dW Tryz.func211 (by kernel_rfl) (fun _=>rfl) (by kernel_rfl)
def iZ:Nat → Cm
 | 0=>{ m1 := fun p_s p_b0=>none,ok1 := fun _ _ _ h=>(by cases h),m2 := fun p_l p_b0=>none,ok2 := fun _ _ _ h=>(by cases h),m3 := fun p_l p_b0=>none,ok3 := fun _ _ _ h=>(by cases h),m4 := fun p_p p_b0=>none,ok4 := fun _ _ _ h=>(by cases h) }
 | n_ + 1=>{ m1 := fun p_s p_b0=>Mo.den (Oq (iZ n_) p_s p_b0),ok1 := fun p_s p_b0 r h=>afJ (iZ n_) p_s p_b0 r h,m2 := fun p_l p_b0=>Mo.den (YL (iZ n_) p_l p_b0),ok2 := fun p_l p_b0 r h=>ajn (iZ n_) p_l p_b0 r h,m3 := fun p_l p_b0=>Mo.den (YM (iZ n_) p_l p_b0),ok3 := fun p_l p_b0 r h=>ajo (iZ n_) p_l p_b0 r h,m4 := fun p_p p_b0=>Mo.den (Ot (iZ n_) p_p p_b0),ok4 := afM (iZ n_) }
def aoW (p_s:aA) (p_b0:au) : Option (au) := (iZ FU).m1 p_s p_b0
theorem ajp (p_s:aA) (p_b0:au) : FH (aoW p_s p_b0) 135 [.ptr 0 0,.dat (aA.lf1 p_s)] [.box 75 (.agg [.own 1,.b_ p_b0.bH]),.row 5 1 (p_b0.aS.map (lfK .u8))] (fun _=>.tup []) (fun r=>[.box 75 (.agg [.own 2,.b_ r.bH]),.dead,.row 5 1 (r.aS.map (lfK .u8))]) := (iZ FU).ok1 p_s p_b0
def afN (p_d:bV) (p_b0:au) : Mo (au) :=
 .cH [0,1] (tH p_d.fName p_b0) fun r0 _ =>
 .cH [0,3] (ane p_d.cu r0) fun r1 _ =>
 .cH [0,4] (ajp p_d.aW r1) fun r2 _ =>
 .cH [0,5] (fU p_d.kX r2) fun r3 _ =>
 .cH [0,6] (fU p_d.iW r3) fun r4 _ =>
 .ret ⟨[.kill 2,.mvn 7],[],[(8,2)],3⟩ (r4)
def anf (p_d:bV) (p_b0:au) : Option (au) := Mo.den (afN p_d p_b0)
theorem ajq (p_d:bV) (p_b0:au) : FH (anf p_d p_b0) 77 [.ptr 0 0,.dat (bV.lf1 p_d)] [.box 75 (.agg [.own 1,.b_ p_b0.bH]),.row 5 1 (p_b0.aS.map (lfK .u8))] (fun _=>.tup []) (fun r=>[.box 75 (.agg [.own 2,.b_ r.bH]),.dead,.row 5 1 (r.aS.map (lfK .u8))]) := dW Tryz.func77 (by kernel_rfl) (fun _=>rfl) (by kernel_rfl)
def afO (p_n:Int) (p_b0:au) : Mo (au) :=
 .cH [0,1] (fU p_n p_b0) fun r0 _ =>
 .ret ⟨[.mvn 2],[],[(3,2)],3⟩ (r0)
def ang (p_n:Int) (p_b0:au) : Option (au) := Mo.den (afO p_n p_b0)
theorem ajr (p_n:Int) (p_b0:au) : FH (ang p_n p_b0) 81 [.ptr 0 0,.i_ p_n] [.box 75 (.agg [.own 1,.b_ p_b0.bH]),.row 5 1 (p_b0.aS.map (lfK .u8))] (fun _=>.tup []) (fun r=>[.box 75 (.agg [.own 2,.b_ r.bH]),.dead,.row 5 1 (r.aS.map (lfK .u8))]) := dW Tryz.func81 (by kernel_rfl) (fun _=>rfl) (by kernel_rfl)
def G9 (p_l:List Int) : (Int × Bool × (List Int)) → Mo ((Int × Bool × (List Int)) ⊕ (Bool × (List Int))) := fun (v0,v1,l0) =>
 .iB (decide ((v0:Int) < (p_l.length:Int))) (.ask (fO p_l v0) fun x0 h0 =>
 .say [.row (lfI x0)] (ok1 (bY lI_ h0)) <|
 .cH [0,2] (ajr x0 (au.mk l0 v1)) fun r0 _ =>
 .ret ⟨[],[0,2,12,13,14],[(3,2)],3⟩ (.inl (IntKind.wrap .i64 (v0 + 1),r0.bH,r0.aS))) <|
 .rt [] 3 (.inr (v1,l0))
def afP (p_l:List Int) (v0:Int) (v1:Bool) (l0:List Int) : Option ((Bool × (List Int))) := bT (fun v_=>(G9 p_l v_).den) FU (v0,v1,l0)
def ald (p_l:List Int) (p_b0:au) : Mo (au) :=
 .say [.num p_l.length] (ok1 (ln_ p_l lfI)) <|
 .ask (Q18 (p_l.length:Int) p_b0) fun r0 h0 =>
 .say [.iD [0,1] (.tup []) [.box 75 (.agg [.own 2,.b_ r0.bH]),.dead,.row 5 1 (r0.aS.map (lfK .u8))],.num p_l.length] (okc (fU _ _ _ h0) (ok1 (ln_ p_l lfI))) <|
 .lp Tryz.f80 2 [1,1,0] 0 [0,2,12,13,14] 3 (.exit 0) (fun r_=>⟨[],[.box 75 (.agg [.own 2,.b_ r_.1]),.dead,.row 5 1 (r_.2.map (lfK .u8))]⟩) (afP p_l 0 r0.bH r0.aS) (lW (fun (v0,v1,l0)=>⟨[(0,.ptr 0 0),(2,.raw (.func (.func 81) #[] #[])),(12,.lf (.rows 1 (p_l.map lfI))),(13,.i_ (p_l.length:Int)),(14,.i_ v0)],[.box 75 (.agg [.own 2,.b_ v1]),.dead,.row 5 1 (l0.map (lfK .u8))]⟩) (by kernel_rfl) rfl fun v_=>by kernel_rfl) fun r1 _ =>
 .ret ⟨[.mvn 2],[],[(3,2)],3⟩ (au.mk r1.2 r1.1)
def Q85 (p_l:List Int) (p_b0:au) : Option (au) := Mo.den (ald p_l p_b0)
theorem anh (p_l:List Int) (p_b0:au) : FH (Q85 p_l p_b0) 80 [.ptr 0 0,.lf (.rows 1 (p_l.map lfI)),.raw (.func (.func 81) #[] #[])] [.box 75 (.agg [.own 1,.b_ p_b0.bH]),.row 5 1 (p_b0.aS.map (lfK .u8))] (fun _=>.tup []) (fun r=>[.box 75 (.agg [.own 2,.b_ r.bH]),.dead,.row 5 1 (r.aS.map (lfK .u8))]) := dW Tryz.func80 (by kernel_rfl) (fun _=>rfl) (by kernel_rfl)
structure WM where
 m1:(p_x:ak) → (p_b0:au) → Option (au)
 ok1:∀ p_x p_b0,FH (m1 p_x p_b0) 36 [.ptr 0 0,.dat (ak.lf1 p_x)] [.box 75 (.agg [.own 1,.b_ p_b0.bH]),.row 5 1 (p_b0.aS.map (lfK .u8))] (fun _=>.tup []) (fun r=>[.box 75 (.agg [.own 2,.b_ r.bH]),.dead,.row 5 1 (r.aS.map (lfK .u8))])
 m2:(p_l:List ak) → (p_b0:au) → Option (au)
 ok2:∀ p_l p_b0,FH (m2 p_l p_b0) 79 [.ptr 0 0,.lf (.rows 78 (p_l.map ak.lf)),.raw (.func (.func 36) #[] #[])] [.box 75 (.agg [.own 1,.b_ p_b0.bH]),.row 5 1 (p_b0.aS.map (lfK .u8))] (fun _=>.tup []) (fun r=>[.box 75 (.agg [.own 2,.b_ r.bH]),.dead,.row 5 1 (r.aS.map (lfK .u8))])
def Ou (R_:WM) (p_x:ak) (p_b0:au) : Mo (au) :=
 .cH [0,1] (fU p_x.aF p_b0) fun r0 _ =>
 .cH [0,3] (tH p_x.fQ r0) fun r1 _ =>
 .cH [0,4] (tJ p_x.iy r1) fun r2 _ =>
 .cH [0,5] (tJ p_x.aX r2) fun r3 _ =>
 .cH [0,6] (tJ p_x.dJ r3) fun r4 _ =>
 .cH [0,7] (ajq p_x.dD r4) fun r5 _ =>
 .cH [0,8] (YK p_x.aT r5) fun r6 _ =>
 .cH [0,9] (tH p_x.lQ r6) fun r7 _ =>
 .cH [0,10] (fU p_x.eG r7) fun r8 _ =>
 .cH [0,11] (R_.ok2 p_x.dG r8) fun r9 _ =>
 .cH [0,12] (anh p_x.dO r9) fun r10 _ =>
 .cH [0,13] (ou p_x.gq r10) fun r11 _ =>
 .ret ⟨[.kill 2,.mvn 14],[],[(15,2)],3⟩ (r11)
theorem afQ (R_:WM) (p_x:ak) (p_b0:au) : FH (Mo.den (Ou R_ p_x p_b0)) 36 [.ptr 0 0,.dat (ak.lf1 p_x)] [.box 75 (.agg [.own 1,.b_ p_b0.bH]),.row 5 1 (p_b0.aS.map (lfK .u8))] (fun _=>.tup []) (fun r=>[.box 75 (.agg [.own 2,.b_ r.bH]),.dead,.row 5 1 (r.aS.map (lfK .u8))]) := dW Tryz.func36 (by kernel_rfl) (fun _=>rfl) (by kernel_rfl)
def He (R_:WM) (p_l:List ak) : (Int × Bool × (List Int)) → Mo ((Int × Bool × (List Int)) ⊕ (Bool × (List Int))) := fun (v0,v1,l0) =>
 .iB (decide ((v0:Int) < (p_l.length:Int))) (.ask (fO p_l v0) fun x0 h0 =>
 .say [.row (ak.lf1 x0),.at_ 10 3,.tod 20] (ok1 (bY ak.bD h0)) <|
 .cH [0,2] (R_.ok1 x0 (au.mk l0 v1)) fun r0 _ =>
 .ret ⟨[],[0,2,12,13,14],[(4,2)],3⟩ (.inl (IntKind.wrap .i64 (v0 + 1),r0.bH,r0.aS))) <|
 .rt [] 3 (.inr (v1,l0))
def afR (R_:WM) (p_l:List ak) (v0:Int) (v1:Bool) (l0:List Int) : Option ((Bool × (List Int))) := bT (fun v_=>(He R_ p_l v_).den) FU (v0,v1,l0)
def YN (R_:WM) (p_l:List ak) (p_b0:au) : Mo (au) :=
 .say [.num p_l.length] (ok1 (ln_ p_l ak.lf)) <|
 .ask (Q18 (p_l.length:Int) p_b0) fun r0 h0 =>
 .say [.iD [0,1] (.tup []) [.box 75 (.agg [.own 2,.b_ r0.bH]),.dead,.row 5 1 (r0.aS.map (lfK .u8))],.num p_l.length] (okc (fU _ _ _ h0) (ok1 (ln_ p_l ak.lf))) <|
 .lp Tryz.f79 2 [1,1,0] 0 [0,2,12,13,14] 3 (.exit 0) (fun r_=>⟨[],[.box 75 (.agg [.own 2,.b_ r_.1]),.dead,.row 5 1 (r_.2.map (lfK .u8))]⟩) (afR R_ p_l 0 r0.bH r0.aS) (lW (fun (v0,v1,l0)=>⟨[(0,.ptr 0 0),(2,.raw (.func (.func 36) #[] #[])),(12,.lf (.rows 78 (p_l.map ak.lf))),(13,.i_ (p_l.length:Int)),(14,.i_ v0)],[.box 75 (.agg [.own 2,.b_ v1]),.dead,.row 5 1 (l0.map (lfK .u8))]⟩) (by kernel_rfl) rfl fun v_=>by kernel_rfl) fun r1 _ =>
 .ret ⟨[.mvn 2],[],[(3,2)],3⟩ (au.mk r1.2 r1.1)
theorem ajs (R_:WM) (p_l:List ak) (p_b0:au) : FH (Mo.den (YN R_ p_l p_b0)) 79 [.ptr 0 0,.lf (.rows 78 (p_l.map ak.lf)),.raw (.func (.func 36) #[] #[])] [.box 75 (.agg [.own 1,.b_ p_b0.bH]),.row 5 1 (p_b0.aS.map (lfK .u8))] (fun _=>.tup []) (fun r=>[.box 75 (.agg [.own 2,.b_ r.bH]),.dead,.row 5 1 (r.aS.map (lfK .u8))]) := dW Tryz.func79 (by kernel_rfl) (fun _=>rfl) (by kernel_rfl)
def nR:Nat → WM
 | 0=>{ m1 := fun p_x p_b0=>none,ok1 := fun _ _ _ h=>(by cases h),m2 := fun p_l p_b0=>none,ok2 := fun _ _ _ h=>(by cases h) }
 | n_ + 1=>{ m1 := fun p_x p_b0=>Mo.den (Ou (nR n_) p_x p_b0),ok1 := fun p_x p_b0 r h=>afQ (nR n_) p_x p_b0 r h,m2 := fun p_l p_b0=>Mo.den (YN (nR n_) p_l p_b0),ok2 := ajs (nR n_) }
def ajt (p_x:ak) (p_b0:au) : Option (au) := (nR FU).m1 p_x p_b0
theorem aju (p_x:ak) (p_b0:au) : FH (ajt p_x p_b0) 36 [.ptr 0 0,.dat (ak.lf1 p_x)] [.box 75 (.agg [.own 1,.b_ p_b0.bH]),.row 5 1 (p_b0.aS.map (lfK .u8))] (fun _=>.tup []) (fun r=>[.box 75 (.agg [.own 2,.b_ r.bH]),.dead,.row 5 1 (r.aS.map (lfK .u8))]) := (nR FU).ok1 p_x p_b0
def afS (p_e:bM) : Mo (ByteArray × Int) :=
 .cl (GH p_e) fun r0 _ =>
 .ite (r0 != 0) (fun c0 =>
 .say [.br true] (ok1 c0) <|
 .ret (bf 2) (⟨#[]⟩,r0)) fun c0 =>
 .say [.br false,.at_ 12 3,.alC 1 0 5,.lM 2 (([] : List Int).map (lfK .u8))] (okc c0 (ok1 (by simp [lfI,lfK] : (([] : List Int).map (lfK .u8)) = []))) <|
 .cH [1,2] (fU p_e.pY (au.mk ([] : List Int) false)) fun r1 _ =>
 .cH [1,3] (fU p_e.eG r1) fun r2 _ =>
 .cH [1,4] (tH p_e.kC r2) fun r3 _ =>
 .cH [1,5] (fU p_e.nX r3) fun r4 _ =>
 .cH [1,6] (aju p_e.kD r4) fun r5 _ =>
 .ite (r5.bH) (fun c1 =>
 .say [.br true] (ok1 c1) <|
 .ret (bf 2) (⟨#[]⟩,8)) fun c1 =>
 .say [.br false,.nums r5.aS] (okc c1 (ok1 (by simp [lfI,lfK] : (r5.aS.map (lfK .u8)) = r5.aS.map fun n=>[Lf.int .u8 n]))) <|
 .ret (bf 2) (strOfNums r5.aS,0)
def abL (p_e:bM) : Option (ByteArray × Int) := Mo.den (afS p_e)
theorem EJ (p_e:bM) : FV (abL p_e) 14 [.dat (bM.lf1 p_e)] (fun r=>.tup [.lf (.str r.1),.i_ r.2]) := dU Tryz.func14 (by kernel_rfl) (fun _=>rfl) (by kernel_rfl)
def Uc (p_at:Int) (p_s:ByteArray) : Mo (Bool) :=
 .iG 4002 (decide ((p_at:Int) < 0)) (.rt [0,1,17] 0 (true)) <|
 .rt [0,1,17] 0 (decide (((p_s.size:Int) : Int) < p_at))
def Ud (b0:UInt8) (p_at:Int) (p_s:ByteArray) (v0:Int) (v1:Int) : Mo (Bool) :=
 .iG 20002 (v1 == 9) (.rt [0,1,7,8,9,36] 0 (decide ((1:Int) < (b0.toNat:Int)))) <|
 .rt [0,1,7,8,9,36] 0 (false)
def Ls (b0:UInt8) (p_at:Int) (p_s:ByteArray) (r0:Bool) (v0:Int) (v1:Int) : Mo (Bool) :=
 .iG 20006 (r0) (.rt [0,1,7,8,9,44] 0 (true)) <|
 .iG 20009 (decide ((0:Int) < v1)) (.rt [0,1,7,8,9,44] 0 ((b0.toNat:Int) == 0)) <|
 .rt [0,1,7,8,9,44] 0 (false)
def CB (p_at:Int) (p_s:ByteArray) : (Int × Int) → Mo ((Int × Int) ⊕ (Int × Int × Int)) := fun (v0,v1) =>
 .iB ((IntKind.wrap .i64 (p_at + v1)) == (p_s.size:Int)) (.rt [4,5,6] 0 (.inr (0,0,5))) <|
 .ask (lF p_s (IntKind.wrap .i64 (p_at + v1))) fun b0 h0 =>
 .say [.byt b0] (ok1 (gB h0)) <|
 .sj Tryz.f86 0 [1,1,1,1,0,0,0,0,1,1,0,0] [0,1,2,3,4,5] 9 6 [0,1,7,8,9] 0 (fun r_=>⟨[(0,.lf (.str p_s)),(1,.i_ p_at),(7,.lf (.int .u64 v0)),(8,.i_ v1),(9,.lf (.int .u8 (b0.toNat:Int))),(36,.b_ r_)],[]⟩) ⟨[(0,.lf (.str p_s)),(1,.i_ p_at),(7,.lf (.int .u64 v0)),(8,.i_ v1),(9,.lf (.int .u8 (b0.toNat:Int)))],[]⟩ (Ud b0 p_at p_s v0 v1).den (sW (by kernel_rfl)) fun r0 _ =>
 .sj Tryz.f86 0 [1,1,1,1,0,0,0,0,1,1,0,0] [6,7,8,9,10,11,12,13] 9 8 [0,1,7,8,9,36] 0 (fun r_=>⟨[(0,.lf (.str p_s)),(1,.i_ p_at),(7,.lf (.int .u64 v0)),(8,.i_ v1),(9,.lf (.int .u8 (b0.toNat:Int))),(44,.b_ r_)],[]⟩) ⟨[(0,.lf (.str p_s)),(1,.i_ p_at),(7,.lf (.int .u64 v0)),(8,.i_ v1),(9,.lf (.int .u8 (b0.toNat:Int))),(36,.b_ r0)],[]⟩ (Ls b0 p_at p_s r0 v0 v1).den (sW (by kernel_rfl)) fun r1 _ =>
 .iB (r1) (.rt [4,5,6] 0 (.inr (0,0,4))) <|
 .grd ((0:Int) ≤ (IntKind.wrap .i64 (7 * v1))) fun h1 =>
 .say [] (ok1 h1) <|
 .ite (decide (((b0.toNat:Int) : Int) < 128)) (fun c0 =>
 .say [.br true] (okc c0 (ok1 (by decide:(0:Int) ≤ 1))) <|
 .rt [4,5,6] 0 (.inr (eH .xor .i64 (IntKind.wrap .i64 (wM .u64 (eH .or .u64 v0 (IX .u64 (IntKind.wrap .u64 (eH .and .u8 (b0.toNat:Int) 127)) (IntKind.wrap .i64 (7 * v1)))) 1)) (IntKind.wrap .i64 (0 - (IntKind.wrap .i64 (eH .and .u64 (eH .or .u64 v0 (IX .u64 (IntKind.wrap .u64 (eH .and .u8 (b0.toNat:Int) 127)) (IntKind.wrap .i64 (7 * v1)))) 1)))),IntKind.wrap .i64 ((IntKind.wrap .i64 (p_at + v1)) + 1),0))) fun c0 =>
 .say [.br false] (ok1 c0) <|
 .rt [0,1,7,8] 0 (.inl (eH .or .u64 v0 (IX .u64 (IntKind.wrap .u64 (eH .and .u8 (b0.toNat:Int) 127)) (IntKind.wrap .i64 (7 * v1))),IntKind.wrap .i64 (v1 + 1)))
def YO (p_at:Int) (p_s:ByteArray) (v0:Int) (v1:Int) : Option ((Int × Int × Int)) := bT (fun v_=>(CB p_at p_s v_).den) FU (v0,v1)
def ale (p_s:ByteArray) (p_at:Int) : Mo (Int × Int × Int) :=
 .jp Tryz.f86 0 [1,0,0] 9 [0,1] 0 (.normal) (fun r_=>⟨[(0,.lf (.str p_s)),(1,.i_ p_at),(17,.b_ r_)],[]⟩) ⟨[(0,.lf (.str p_s)),(1,.i_ p_at)],[]⟩ (Uc p_at p_s).den (jW (by kernel_rfl)) fun r0 _ =>
 .iB (r0) (.ret (bf 3) (0,0,1)) <|
 .lp Tryz.f86 0 [1,1,1,1,0] 0 [0,1,7,8] 0 (.ret) (fun r_=>⟨[(4,.i_ r_.1),(5,.i_ r_.2.1),(6,.i_ r_.2.2)],[]⟩) (YO p_at p_s 0 0) (lW (fun (v0,v1)=>⟨[(0,.lf (.str p_s)),(1,.i_ p_at),(7,.lf (.int .u64 v0)),(8,.i_ v1)],[]⟩) (by kernel_rfl) rfl fun v_=>by kernel_rfl) fun r1 _ =>
 .ret (bf 3) (r1.1,r1.2.1,r1.2.2)
def Q65 (p_s:ByteArray) (p_at:Int) : Option (Int × Int × Int) := Mo.den (ale p_s p_at)
theorem ani (p_s:ByteArray) (p_at:Int) : FV (Q65 p_s p_at) 86 [.lf (.str p_s),.i_ p_at] (fun r=>.tup [.i_ r.1,.i_ r.2.1,.i_ r.2.2]) := dU Tryz.func86 (by kernel_rfl) (fun _=>rfl) (by kernel_rfl)
def alf (p_b0:ah) : Mo (Int × ah) :=
 .iB (p_b0.bH) (.rt [0] 1 (0,p_b0)) <|
 .ask (Q65 p_b0.dP p_b0.fat) fun r0 h0 =>
 .say [.jX (.q 0 (.q 1 (.q 2 (.q 3 (.q 4 (.q 5 (.q 6 (.q 7 (.l 8 (.q 9 (.q 10 (.q 11 (.q 12 (.q 13 (.q 14 (.q 15 .fin)))))))))))))))) (some 8) [] [.res (.tup [.i_ r0.1,.i_ r0.2.1,.i_ r0.2.2])] [0,3,4,5] 1 [(0,.ptr 0 0),(3,.i_ r0.1),(4,.i_ r0.2.1),(5,.i_ r0.2.2)] [.box 84 (.dat (ah.lf1 p_b0))]] (okc (ani _ _ _ h0) (ok1 (rf_ ⟨[(0,.ptr 0 0),(3,.i_ r0.1),(4,.i_ r0.2.1),(5,.i_ r0.2.2)],[.box 84 (.dat (ah.lf1 p_b0))]⟩))) <|
 .iB (r0.2.2 != 0) (.rt [0] 1 (0,ah.mk p_b0.dP p_b0.fat p_b0.aY true)) <|
 .rt [0] 1 (r0.1,ah.mk p_b0.dP r0.2.1 p_b0.aY p_b0.bH)
def Q35 (p_b0:ah) : Option (Int × ah) := Mo.den (alf p_b0)
theorem fV (p_b0:ah) : FH (Q35 p_b0) 38 [.ptr 0 0] [.box 84 (.dat (ah.lf1 p_b0))] (fun r=>.i_ r.1) (fun r=>[.box 84 (.dat (ah.lf1 r.2))]) := dW Tryz.func38 (by kernel_rfl) (fun _=>rfl) (by kernel_rfl)
def Ue (r0:Int × ah) : Mo (Bool) :=
 .say [.order [(true,0),(true,1),(true,2),(true,3),(true,4),(true,5),(true,6),(true,7),(true,8),(true,9),(true,10),(true,11),(true,12),(true,13),(true,14),(true,15),(true,16),(true,17),(true,18),(true,19),(true,20),(true,21)] none []] ok0 <|
 .iG 6004 (r0.2.bH) (.rt [0,3,27] 1 (true)) <|
 .iG 6008 (decide ((r0.1:Int) < 0)) (.rt [0,3,27] 1 (true)) <|
 .rt [0,3,27] 1 (decide ((IntKind.wrap .i64 ((r0.2.dP.size:Int) - r0.2.fat) : Int) < r0.1))
def alg (p_b0:ah) : Mo (ByteArray × ah) :=
 .cH [0] (fV p_b0) fun r0 _ =>
 .jp Tryz.f39 1 [1,1,0,0] 11 [0,3] 1 (.normal) (fun r_=>⟨[(0,.ptr 0 0),(3,.i_ r0.1),(27,.b_ r_)],[.box 84 (.dat (ah.lf1 r0.2))]⟩) ⟨[(0,.ptr 0 0),(3,.i_ r0.1)],[.box 84 (.dat (ah.lf1 r0.2))]⟩ (Ue r0).den (jW (by kernel_rfl)) fun r1 _ =>
 .ite (r1) (fun c0 =>
 .say [.br true] (ok1 c0) <|
 .rt [0] 1 (⟨#[]⟩,ah.mk r0.2.dP r0.2.fat r0.2.aY true)) fun c0 =>
 .say [.br false,.order [(true,0),(true,1),(true,2),(true,3),(true,4),(true,5),(true,6),(true,7),(true,8),(true,9),(true,10),(true,11),(true,12),(true,13),(true,14),(true,15)] none []] (ok1 c0) <|
 .grd ((0:Int) ≤ (IntKind.wrap .i64 ((IntKind.wrap .i64 (r0.2.fat + r0.1)) - r0.1)) ∧ (IntKind.wrap .i64 ((IntKind.wrap .i64 (r0.2.fat + r0.1)) - r0.1)) ≤ (IntKind.wrap .i64 (r0.2.fat + r0.1)) ∧ (IntKind.wrap .i64 (r0.2.fat + r0.1)) ≤ (r0.2.dP.size:Int)) fun h0 =>
 .say [] (ok1 h0) <|
 .rt [0] 1 (r0.2.dP.extract (IntKind.wrap .i64 ((IntKind.wrap .i64 (r0.2.fat + r0.1)) - r0.1)).toNat (IntKind.wrap .i64 (r0.2.fat + r0.1)).toNat,ah.mk r0.2.dP (IntKind.wrap .i64 (r0.2.fat + r0.1)) r0.2.aY r0.2.bH)
def Q72 (p_b0:ah) : Option (ByteArray × ah) := Mo.den (alg p_b0)
theorem tK (p_b0:ah) : FH (Q72 p_b0) 39 [.ptr 0 0] [.box 84 (.dat (ah.lf1 p_b0))] (fun r=>.lf (.str r.1)) (fun r=>[.box 84 (.dat (ah.lf1 r.2))]) := dW Tryz.func39 (by kernel_rfl) (fun _=>rfl) (by kernel_rfl)
theorem apN:acZ (opsOf (Code.sub (bodyC Tryz.f93) [1,0,0])) [(true,0),(true,1),(true,2),(true,3),(true,4),(true,5),(true,6),(true,7),(true,8),(true,9),(true,10),(true,11),(true,12),(true,13),(true,14),(true,15),(true,16),(true,17),(true,18),(true,19),(true,20),(true,21),(true,22),(true,23),(true,24),(true,25),(true,26),(true,27)] none = true := by kernel_rfl
def Hf (p_b0:ah) : Mo (Bool) :=
 .say [.Vl [(true,0),(true,1),(true,2),(true,3),(true,4),(true,5),(true,6),(true,7),(true,8),(true,9),(true,10),(true,11),(true,12),(true,13),(true,14),(true,15),(true,16),(true,17),(true,18),(true,19),(true,20),(true,21),(true,22),(true,23),(true,24),(true,25),(true,26),(true,27)] none []] (ok1 apN) <|
 .iG 4004 (p_b0.bH) (.rt [0,30] 1 (true)) <|
 .iG 4016 (decide (((p_b0.dP.size:Int) : Int) ≤ p_b0.fat)) (.rt [0,30] 1 (true)) <|
 .ask (lF p_b0.dP p_b0.fat) fun b0 h0 =>
 .say [.byt b0] (ok1 (gB h0)) <|
 .rt [0,30] 1 (decide ((1:Int) < (b0.toNat:Int)))
def afT (p_b0:ah) : Mo (Bool × ah) :=
 .jp Tryz.f93 1 [1,0,0] 9 [0] 1 (.normal) (fun r_=>⟨[(0,.ptr 0 0),(30,.b_ r_)],[.box 84 (.dat (ah.lf1 p_b0))]⟩) ⟨[(0,.ptr 0 0)],[.box 84 (.dat (ah.lf1 p_b0))]⟩ (Hf p_b0).den (jW (by kernel_rfl)) fun r0 _ =>
 .ite (r0) (fun c0 =>
 .say [.br true] (ok1 c0) <|
 .rt [0] 1 (false,ah.mk p_b0.dP p_b0.fat p_b0.aY true)) fun c0 =>
 .say [.br false,.order [(true,0),(true,1),(true,2),(true,3),(true,4),(true,5),(true,6),(true,7),(true,8),(true,9),(true,10),(true,11)] none []] (ok1 c0) <|
 .ask (lF p_b0.dP (IntKind.wrap .i64 ((IntKind.wrap .i64 (p_b0.fat + 1)) - 1))) fun b0 h0 =>
 .say [.byt b0] (ok1 (gB h0)) <|
 .rt [0] 1 ((b0.toNat:Int) == 1,ah.mk p_b0.dP (IntKind.wrap .i64 (p_b0.fat + 1)) p_b0.aY p_b0.bH)
def Q60 (p_b0:ah) : Option (Bool × ah) := Mo.den (afT p_b0)
theorem pO (p_b0:ah) : FH (Q60 p_b0) 93 [.ptr 0 0] [.box 84 (.dat (ah.lf1 p_b0))] (fun r=>.b_ r.1) (fun r=>[.box 84 (.dat (ah.lf1 r.2))]) := dW Tryz.func93 (by kernel_rfl) (fun _=>rfl) (by kernel_rfl)
def alh (p_b0:ah) : Mo (aj × ah) :=
 .cH [0] (pO p_b0) fun r0 _ =>
 .iB (!r0.1) (.ret ⟨[.kill 1],[0],[],1⟩ (aj.mk 0 0 ⟨#[]⟩ [] [],r0.2)) <|
 .ask (adw r0.2.dP r0.2.fat) fun r1 h0 =>
 .say [.jX (.q 0 (.q 1 (.q 2 (.q 3 (.q 4 (.q 5 (.q 6 (.q 7 (.alt 8 (.q 9 (.q 10 (.q 11 (.q 12 (.l 13 (.l 14 (.q 15 (.q 16 .fin)))))))) (.l 13 (.l 8 (.q 9 (.q 10 (.q 11 (.q 12 (.l 14 (.q 15 (.q 16 .fin)))))))))))))))))) none [2] [.both [.at_ 8 8,.resv 1,.res (.tup [.dat (aj.lf1 r1.1),.i_ r1.2.1,.i_ r1.2.2]),.slot 2] [.at_ 8 13,.resv 1,.slot 2,.res (.tup [.dat (aj.lf1 r1.1),.i_ r1.2.1,.i_ r1.2.2])]] [0,2,3,4,5] 3 [(0,.ptr 0 0),(2,.ptr 1 0),(3,.ptr 2 0),(4,.i_ r1.2.1),(5,.i_ r1.2.2)] [.box 84 (.dat (ah.lf1 r0.2)),.box 25 (.agg [.i_ 0,.i_ 0,.lf (.str ⟨#[]⟩),.bU 5,.bU 6]),.box 25 (.agg [.i_ r1.1.aF,.i_ r1.1.eU,.lf (.str r1.1.fText),.lf (.rows 5 (r1.1.aU.map aj.lf)),.lf (.rows 6 (r1.1.aX.map aB.lf))])]] (okc (Yb _ _ _ h0) (okc (rf_ ⟨[(0,.ptr 0 0),(2,.ptr 1 0),(3,.ptr 2 0),(4,.i_ r1.2.1),(5,.i_ r1.2.2)],[.box 84 (.dat (ah.lf1 r0.2)),.box 25 (.agg [.i_ 0,.i_ 0,.lf (.str ⟨#[]⟩),.bU 5,.bU 6]),.box 25 (.agg [.i_ r1.1.aF,.i_ r1.1.eU,.lf (.str r1.1.fText),.lf (.rows 5 (r1.1.aU.map aj.lf)),.lf (.rows 6 (r1.1.aX.map aB.lf))])]⟩) (okc (Yb _ _ _ h0) (ok1 (rf_ ⟨[(0,.ptr 0 0),(2,.ptr 1 0),(3,.ptr 2 0),(4,.i_ r1.2.1),(5,.i_ r1.2.2)],[.box 84 (.dat (ah.lf1 r0.2)),.box 25 (.agg [.i_ 0,.i_ 0,.lf (.str ⟨#[]⟩),.bU 5,.bU 6]),.box 25 (.agg [.i_ r1.1.aF,.i_ r1.1.eU,.lf (.str r1.1.fText),.lf (.rows 5 (r1.1.aU.map aj.lf)),.lf (.rows 6 (r1.1.aX.map aB.lf))])]⟩))))) <|
 .iB (r1.2.2 != 0) (.ret ⟨[.kill 1,.kill 2],[0],[],1⟩ (aj.mk 0 0 ⟨#[]⟩ [] [],ah.mk r0.2.dP r0.2.fat r0.2.aY true)) <|
 .ret ⟨[.kill 1,.kill 2],[0],[],1⟩ (r1.1,ah.mk r0.2.dP r1.2.1 r0.2.aY r0.2.bH)
def Q97 (p_b0:ah) : Option (aj × ah) := Mo.den (alh p_b0)
theorem tN (p_b0:ah) : FH (Q97 p_b0) 87 [.ptr 0 0] [.box 84 (.dat (ah.lf1 p_b0))] (fun r=>.dat (aj.lf1 r.1)) (fun r=>[.box 84 (.dat (ah.lf1 r.2))]) := dW Tryz.func87 (by kernel_rfl) (fun _=>rfl) (by kernel_rfl)
def afU (p_b0:ah) : Mo (ByteArray × ah) :=
 .cH [0] (tK p_b0) fun r0 _ =>
 .rt [0] 1 (r0.1,r0.2)
def ajv (p_b0:ah) : Option (ByteArray × ah) := Mo.den (afU p_b0)
theorem ajw (p_b0:ah) : FH (ajv p_b0) 226 [.ptr 0 0] [.box 84 (.dat (ah.lf1 p_b0))] (fun r=>.lf (.str r.1)) (fun r=>[.box 84 (.dat (ah.lf1 r.2))]) := dW Tryz.func226 (by kernel_rfl) (fun _=>rfl) (by kernel_rfl)
def Uf (r0:Int × ah) : Mo (Bool) :=
 .iG 6002 (decide ((r0.1:Int) < 0)) (.rt [0,1,5,18] 1 (true)) <|
 .rt [0,1,5,18] 1 (decide ((64:Int) ≤ r0.2.aY))
def Hg (r0:Int × ah) (r1:Bool) : Mo (ah) :=
 .iB (r1) (.rt [0,1,5] 1 (ah.mk r0.2.dP r0.2.fat r0.2.aY true)) <|
 .rt [0,1,5] 1 (r0.2)
def WO (r0:Int × ah) (r1:Bool) : Option (ah) := Mo.den (Hg r0 r1)
def Ho (r0:Int × ah) (r_:ah) : St := ⟨[(0,.ptr 0 0),(1,.raw (.func (.func 226) #[] #[])),(5,.i_ r0.1)],[.box 84 (.dat (ah.lf1 r_))]⟩
theorem afV {r0:Int × ah} {r1:Bool} {r_:ah} (h:WO r0 r1 = some r_) : eF Tryz.f225 1 [1,1,0,1] (.normal) (Ho r0 r_) ⟨[(0,.ptr 0 0),(1,.raw (.func (.func 226) #[] #[])),(5,.i_ r0.1),(18,.b_ r1)],[.box 84 (.dat (ah.lf1 r0.2))]⟩ :=
 iE dA (Hg r0 r1) (fun _=>.normal) (Ho r0) (by kernel_rfl) h
def Lu (l0:List ByteArray) (r0:Int × ah) (s6548:ah) (v0:Int) : Mo (Bool) :=
 .iG 16003 (decide ((v0:Int) < r0.1)) (.rt [0,1,5,6,7,38] 2 (!s6548.bH)) <|
 .rt [0,1,5,6,7,38] 2 (false)
def CG (r0:Int × ah) : (Int × ah × (List ByteArray)) → Mo ((Int × ah × (List ByteArray)) ⊕ (ah × (List ByteArray))) := fun (v0,s6548,l0) =>
 .jp Tryz.f225 1 [1,1,1,1,1,0,1,0,0,0,0] 21 [0,1,5,6,7] 2 (.normal) (fun r_=>⟨[(0,.ptr 0 0),(1,.raw (.func (.func 226) #[] #[])),(5,.i_ r0.1),(6,.own 1),(7,.i_ v0),(38,.b_ r_)],[.box 84 (.dat (ah.lf1 s6548)),.row 9 1 (l0.map lfS)]⟩) ⟨[(0,.ptr 0 0),(1,.raw (.func (.func 226) #[] #[])),(5,.i_ r0.1),(6,.own 1),(7,.i_ v0)],[.box 84 (.dat (ah.lf1 s6548)),.row 9 1 (l0.map lfS)]⟩ (Lu l0 r0 s6548 v0).den (jW (by kernel_rfl)) fun r1 _ =>
 .iB (r1) (.ask (ajv s6548) fun r2 h0 =>
 .say [.iD [0] (.lf (.str r2.1)) [.box 84 (.dat (ah.lf1 r2.2))],.rows ((l0 ++ [r2.1]).map lfS)] (okc (ajw _ _ h0) (ok1 (by simp [lfS] : (l0 ++ [r2.1]).map lfS = (l0.map lfS) ++ [(lfS r2.1)]))) <|
 .grd ((l0.length + [r2.1].length) * 16 ≤ 140737488355328) fun h1 =>
 .say [] (ok1 (cp_ lfS h1)) <|
 .ret ⟨[],[0,1,5,6,7],[(3,1)],2⟩ (.inl (IntKind.wrap .i64 (v0 + 1),r2.2,l0 ++ [r2.1]))) <|
 .rt [0,6] 2 (.inr (s6548,l0))
def Ov (r0:Int × ah) (v0:Int) (s6548:ah) (l0:List ByteArray) : Option ((ah × (List ByteArray))) := bT (fun v_=>(CG r0 v_).den) FU (v0,s6548,l0)
def LC (r0:Int × ah) : (Int × ah × (List ByteArray)) → St := fun (v0,s6548,l0)=>⟨[(0,.ptr 0 0),(1,.raw (.func (.func 226) #[] #[])),(5,.i_ r0.1),(6,.own 1),(7,.i_ v0)],[.box 84 (.dat (ah.lf1 s6548)),.row 9 1 (l0.map lfS)]⟩
def wo  (r_:(ah × (List ByteArray))) : St := ⟨[(0,.ptr 0 0),(6,.own 1)],[.box 84 (.dat (ah.lf1 r_.1)),.row 9 1 (r_.2.map lfS)]⟩
theorem abM {r0:Int × ah} {v0:Int} {s6548:ah} {l0:List ByteArray} {r_:(ah × (List ByteArray))} (h:Ov r0 v0 s6548 l0 = some r_) : eF Tryz.f225 1 [1,1,1,1,1,0,1,0] (.exit 0) (wo r_) (LC r0 (v0,s6548,l0)) :=
 dK dA (body := (Code.sub (bodyC Tryz.f225) [1,1,1,1,1,0,1,0,0])) (by kernel_rfl) (CG r0) (LC r0) (fun _=>.exit 0) wo (fun r_=>rfl) (fun v_=>by kernel_rfl) h
def ali (p_b0:ah) : Mo ((List ByteArray) × ah) :=
 .cH [0] (fV p_b0) fun r0 _ =>
 .jp Tryz.f225 1 [1,1,0,0] 11 [0,1,5] 1 (.normal) (fun r_=>⟨[(0,.ptr 0 0),(1,.raw (.func (.func 226) #[] #[])),(5,.i_ r0.1),(18,.b_ r_)],[.box 84 (.dat (ah.lf1 r0.2))]⟩) ⟨[(0,.ptr 0 0),(1,.raw (.func (.func 226) #[] #[])),(5,.i_ r0.1)],[.box 84 (.dat (ah.lf1 r0.2))]⟩ (Uf r0).den (jW (by kernel_rfl)) fun r1 _ =>
 .ask (WO r0 r1) fun r2 h0 =>
 .say [.pt_ 1 [0,1,5,18] 1 (.normal) (Ho r0 r2)] (okc (afV h0) (ok1 (by simp [lfS] : (([] : List ByteArray).map lfS) = []))) <|
 .ask (Ov r0 0 (ah.mk r2.dP r2.fat (IntKind.wrap .i64 (r2.aY + 1)) r2.bH) ([] : List ByteArray)) fun r3 h1 =>
 .say [.part [.rW 6 9 1,.lM 1 (([] : List ByteArray).map lfS)] 0 [0,1,5,6,7] 2 (.exit 0) (wo r3).T (wo r3).H] (ok1 (abM h1)) <|
 .ret ⟨[.mvn 1],[0],[(2,1)],2⟩ (r3.2,ah.mk r3.1.dP r3.1.fat (IntKind.wrap .i64 (r3.1.aY - 1)) r3.1.bH)
def Q12 (p_b0:ah) : Option ((List ByteArray) × ah) := Mo.den (ali p_b0)
theorem Hq (p_b0:ah) : FH (Q12 p_b0) 225 [.ptr 0 0,.raw (.func (.func 226) #[] #[])] [.box 84 (.dat (ah.lf1 p_b0))] (fun _=>.own 1) (fun r=>[.box 84 (.dat (ah.lf1 r.2)),.row 9 1 (r.1.map lfS)]) := dW Tryz.func225 (by kernel_rfl) (fun _=>rfl) (by kernel_rfl)
def afW (p_b0:ah) : Mo (aV × ah) :=
 .cH [0] (Hq p_b0) fun r0 _ =>
 .cH [0] (pO r0.2) fun r1 _ =>
 .ret ⟨[.kill 1,.mvn 2],[0],[(3,1)],2⟩ (aV.mk r0.1 r1.1,r1.2)
def afX (p_b0:ah) : Option (aV × ah) := Mo.den (afW p_b0)
theorem ajx (p_b0:ah) : FH (afX p_b0) 148 [.ptr 0 0] [.box 84 (.dat (ah.lf1 p_b0))] (fun r=>.agg [.own 1,.b_ r.1.yP]) (fun r=>[.box 84 (.dat (ah.lf1 r.2)),.row 9 1 (r.1.dh.map lfS)]) := dW Tryz.func148 (by kernel_rfl) (fun _=>rfl) (by kernel_rfl)
def YP (r0:Int × ah) : Mo (Bool) :=
 .iG 6002 (decide ((r0.1:Int) < 0)) (.rt [0,1,5,18] 1 (true)) <|
 .rt [0,1,5,18] 1 (decide ((64:Int) ≤ r0.2.aY))
def Ox (r0:Int × ah) (r1:Bool) : Mo (ah) :=
 .iB (r1) (.rt [0,1,5] 1 (ah.mk r0.2.dP r0.2.fat r0.2.aY true)) <|
 .rt [0,1,5] 1 (r0.2)
def afY (r0:Int × ah) (r1:Bool) : Option (ah) := Mo.den (Ox r0 r1)
def Oy (r0:Int × ah) (r_:ah) : St := ⟨[(0,.ptr 0 0),(1,.raw (.func (.func 148) #[] #[])),(5,.i_ r0.1)],[.box 84 (.dat (ah.lf1 r_))]⟩
theorem ajy {r0:Int × ah} {r1:Bool} {r_:ah} (h:afY r0 r1 = some r_) : eF Tryz.f147 1 [1,1,0,1] (.normal) (Oy r0 r_) ⟨[(0,.ptr 0 0),(1,.raw (.func (.func 148) #[] #[])),(5,.i_ r0.1),(18,.b_ r1)],[.box 84 (.dat (ah.lf1 r0.2))]⟩ :=
 iE dA (Ox r0 r1) (fun _=>.normal) (Oy r0) (by kernel_rfl) h
def Ug (l0:List aV) (r0:Int × ah) (s6639:ah) (v0:Int) : Mo (Bool) :=
 .iG 16003 (decide ((v0:Int) < r0.1)) (.rt [0,1,5,6,7,38] 2 (!s6639.bH)) <|
 .rt [0,1,5,6,7,38] 2 (false)
def Hr (r0:Int × ah) : (Int × ah × (List aV)) → Mo ((Int × ah × (List aV)) ⊕ (ah × (List aV))) := fun (v0,s6639,l0) =>
 .jp Tryz.f147 1 [1,1,1,1,1,0,1,0,0,0,0] 21 [0,1,5,6,7] 2 (.normal) (fun r_=>⟨[(0,.ptr 0 0),(1,.raw (.func (.func 148) #[] #[])),(5,.i_ r0.1),(6,.own 1),(7,.i_ v0),(38,.b_ r_)],[.box 84 (.dat (ah.lf1 s6639)),.row 149 2 (l0.map aV.lf)]⟩) ⟨[(0,.ptr 0 0),(1,.raw (.func (.func 148) #[] #[])),(5,.i_ r0.1),(6,.own 1),(7,.i_ v0)],[.box 84 (.dat (ah.lf1 s6639)),.row 149 2 (l0.map aV.lf)]⟩ (Ug l0 r0 s6639 v0).den (jW (by kernel_rfl)) fun r1 _ =>
 .iB (r1) (.ask (afX s6639) fun r2 h0 =>
 .say [.iD [0] (.agg [.own 1,.b_ r2.1.yP]) [.box 84 (.dat (ah.lf1 r2.2)),.row 9 1 (r2.1.dh.map lfS)],.at_ 20 4,.frz 2,.rows ((l0 ++ [r2.1]).map aV.lf)] (okc (ajx _ _ h0) (ok1 (ap_ aV.bD l0 r2.1))) <|
 .grd ((l0.length + [r2.1].length) * 32 ≤ 140737488355328) fun h1 =>
 .say [] (ok1 (cp_ aV.lf h1)) <|
 .ret ⟨[],[0,1,5,6,7],[(4,1)],2⟩ (.inl (IntKind.wrap .i64 (v0 + 1),r2.2,l0 ++ [r2.1]))) <|
 .rt [0,6] 2 (.inr (s6639,l0))
def WQ (r0:Int × ah) (v0:Int) (s6639:ah) (l0:List aV) : Option ((ah × (List aV))) := bT (fun v_=>(Hr r0 v_).den) FU (v0,s6639,l0)
def Uh (r0:Int × ah) : (Int × ah × (List aV)) → St := fun (v0,s6639,l0)=>⟨[(0,.ptr 0 0),(1,.raw (.func (.func 148) #[] #[])),(5,.i_ r0.1),(6,.own 1),(7,.i_ v0)],[.box 84 (.dat (ah.lf1 s6639)),.row 149 2 (l0.map aV.lf)]⟩
def AB  (r_:(ah × (List aV))) : St := ⟨[(0,.ptr 0 0),(6,.own 1)],[.box 84 (.dat (ah.lf1 r_.1)),.row 149 2 (r_.2.map aV.lf)]⟩
theorem afZ {r0:Int × ah} {v0:Int} {s6639:ah} {l0:List aV} {r_:(ah × (List aV))} (h:WQ r0 v0 s6639 l0 = some r_) : eF Tryz.f147 1 [1,1,1,1,1,0,1,0] (.exit 0) (AB r_) (Uh r0 (v0,s6639,l0)) :=
 dK dA (body := (Code.sub (bodyC Tryz.f147) [1,1,1,1,1,0,1,0,0])) (by kernel_rfl) (Hr r0) (Uh r0) (fun _=>.exit 0) AB (fun r_=>rfl) (fun v_=>by kernel_rfl) h
def aoX (p_b0:ah) : Mo ((List aV) × ah) :=
 .cH [0] (fV p_b0) fun r0 _ =>
 .jp Tryz.f147 1 [1,1,0,0] 11 [0,1,5] 1 (.normal) (fun r_=>⟨[(0,.ptr 0 0),(1,.raw (.func (.func 148) #[] #[])),(5,.i_ r0.1),(18,.b_ r_)],[.box 84 (.dat (ah.lf1 r0.2))]⟩) ⟨[(0,.ptr 0 0),(1,.raw (.func (.func 148) #[] #[])),(5,.i_ r0.1)],[.box 84 (.dat (ah.lf1 r0.2))]⟩ (YP r0).den (jW (by kernel_rfl)) fun r1 _ =>
 .ask (afY r0 r1) fun r2 h0 =>
 .say [.pt_ 1 [0,1,5,18] 1 (.normal) (Oy r0 r2)] (okc (ajy h0) (ok1 (by simp [aV.bD] : (([] : List aV).map aV.lf) = []))) <|
 .ask (WQ r0 0 (ah.mk r2.dP r2.fat (IntKind.wrap .i64 (r2.aY + 1)) r2.bH) ([] : List aV)) fun r3 h1 =>
 .say [.part [.rW 6 149 2,.lM 1 (([] : List aV).map aV.lf)] 0 [0,1,5,6,7] 2 (.exit 0) (AB r3).T (AB r3).H] (ok1 (afZ h1)) <|
 .ret ⟨[.mvn 1],[0],[(2,1)],2⟩ (r3.2,ah.mk r3.1.dP r3.1.fat (IntKind.wrap .i64 (r3.1.aY - 1)) r3.1.bH)
def Q7 (p_b0:ah) : Option ((List aV) × ah) := Mo.den (aoX p_b0)
theorem aoY (p_b0:ah) : FH (Q7 p_b0) 147 [.ptr 0 0,.raw (.func (.func 148) #[] #[])] [.box 84 (.dat (ah.lf1 p_b0))] (fun _=>.own 1) (fun r=>[.box 84 (.dat (ah.lf1 r.2)),.row 149 2 (r.1.map aV.lf)]) := dW Tryz.func147 (by kernel_rfl) (fun _=>rfl) (by kernel_rfl)
def YQ (r0:Int × ah) : Mo (Bool) :=
 .iG 6002 (decide ((r0.1:Int) < 0)) (.rt [0,1,5,18] 1 (true)) <|
 .rt [0,1,5,18] 1 (decide ((64:Int) ≤ r0.2.aY))
def Oz (r0:Int × ah) (r1:Bool) : Mo (ah) :=
 .iB (r1) (.rt [0,1,5] 1 (ah.mk r0.2.dP r0.2.fat r0.2.aY true)) <|
 .rt [0,1,5] 1 (r0.2)
def af0 (r0:Int × ah) (r1:Bool) : Option (ah) := Mo.den (Oz r0 r1)
def OA (r0:Int × ah) (r_:ah) : St := ⟨[(0,.ptr 0 0),(1,.raw (.func (.func 87) #[] #[])),(5,.i_ r0.1)],[.box 84 (.dat (ah.lf1 r_))]⟩
theorem ajz {r0:Int × ah} {r1:Bool} {r_:ah} (h:af0 r0 r1 = some r_) : eF Tryz.f224 1 [1,1,0,1] (.normal) (OA r0 r_) ⟨[(0,.ptr 0 0),(1,.raw (.func (.func 87) #[] #[])),(5,.i_ r0.1),(18,.b_ r1)],[.box 84 (.dat (ah.lf1 r0.2))]⟩ :=
 iE dA (Oz r0 r1) (fun _=>.normal) (OA r0) (by kernel_rfl) h
def Ui (l0:List aj) (r0:Int × ah) (s6771:ah) (v0:Int) : Mo (Bool) :=
 .iG 16003 (decide ((v0:Int) < r0.1)) (.rt [0,1,5,6,7,38] 2 (!s6771.bH)) <|
 .rt [0,1,5,6,7,38] 2 (false)
def Ht (r0:Int × ah) : (Int × ah × (List aj)) → Mo ((Int × ah × (List aj)) ⊕ (ah × (List aj))) := fun (v0,s6771,l0) =>
 .jp Tryz.f224 1 [1,1,1,1,1,0,1,0,0,0,0] 21 [0,1,5,6,7] 2 (.normal) (fun r_=>⟨[(0,.ptr 0 0),(1,.raw (.func (.func 87) #[] #[])),(5,.i_ r0.1),(6,.own 1),(7,.i_ v0),(38,.b_ r_)],[.box 84 (.dat (ah.lf1 s6771)),.row 25 5 (l0.map aj.lf)]⟩) ⟨[(0,.ptr 0 0),(1,.raw (.func (.func 87) #[] #[])),(5,.i_ r0.1),(6,.own 1),(7,.i_ v0)],[.box 84 (.dat (ah.lf1 s6771)),.row 25 5 (l0.map aj.lf)]⟩ (Ui l0 r0 s6771 v0).den (jW (by kernel_rfl)) fun r1 _ =>
 .iB (r1) (.ask (Q97 s6771) fun r2 h0 =>
 .say [.iD [0] (.dat (aj.lf1 r2.1)) [.box 84 (.dat (ah.lf1 r2.2))],.rows ((l0 ++ [r2.1]).map aj.lf)] (okc (tN _ _ h0) (ok1 (ap_ aj.bD l0 r2.1))) <|
 .grd ((l0.length + [r2.1].length) * 80 ≤ 140737488355328) fun h1 =>
 .say [] (ok1 (cp_ aj.lf h1)) <|
 .ret ⟨[],[0,1,5,6,7],[(3,1)],2⟩ (.inl (IntKind.wrap .i64 (v0 + 1),r2.2,l0 ++ [r2.1]))) <|
 .rt [0,6] 2 (.inr (s6771,l0))
def WR (r0:Int × ah) (v0:Int) (s6771:ah) (l0:List aj) : Option ((ah × (List aj))) := bT (fun v_=>(Ht r0 v_).den) FU (v0,s6771,l0)
def Uj (r0:Int × ah) : (Int × ah × (List aj)) → St := fun (v0,s6771,l0)=>⟨[(0,.ptr 0 0),(1,.raw (.func (.func 87) #[] #[])),(5,.i_ r0.1),(6,.own 1),(7,.i_ v0)],[.box 84 (.dat (ah.lf1 s6771)),.row 25 5 (l0.map aj.lf)]⟩
def AO  (r_:(ah × (List aj))) : St := ⟨[(0,.ptr 0 0),(6,.own 1)],[.box 84 (.dat (ah.lf1 r_.1)),.row 25 5 (r_.2.map aj.lf)]⟩
theorem af2 {r0:Int × ah} {v0:Int} {s6771:ah} {l0:List aj} {r_:(ah × (List aj))} (h:WR r0 v0 s6771 l0 = some r_) : eF Tryz.f224 1 [1,1,1,1,1,0,1,0] (.exit 0) (AO r_) (Uj r0 (v0,s6771,l0)) :=
 dK dA (body := (Code.sub (bodyC Tryz.f224) [1,1,1,1,1,0,1,0,0])) (by kernel_rfl) (Ht r0) (Uj r0) (fun _=>.exit 0) AO (fun r_=>rfl) (fun v_=>by kernel_rfl) h
def aoZ (p_b0:ah) : Mo ((List aj) × ah) :=
 .cH [0] (fV p_b0) fun r0 _ =>
 .jp Tryz.f224 1 [1,1,0,0] 11 [0,1,5] 1 (.normal) (fun r_=>⟨[(0,.ptr 0 0),(1,.raw (.func (.func 87) #[] #[])),(5,.i_ r0.1),(18,.b_ r_)],[.box 84 (.dat (ah.lf1 r0.2))]⟩) ⟨[(0,.ptr 0 0),(1,.raw (.func (.func 87) #[] #[])),(5,.i_ r0.1)],[.box 84 (.dat (ah.lf1 r0.2))]⟩ (YQ r0).den (jW (by kernel_rfl)) fun r1 _ =>
 .ask (af0 r0 r1) fun r2 h0 =>
 .say [.pt_ 1 [0,1,5,18] 1 (.normal) (OA r0 r2)] (okc (ajz h0) (ok1 (by simp [aj.bD] : (([] : List aj).map aj.lf) = []))) <|
 .ask (WR r0 0 (ah.mk r2.dP r2.fat (IntKind.wrap .i64 (r2.aY + 1)) r2.bH) ([] : List aj)) fun r3 h1 =>
 .say [.part [.rW 6 25 5,.lM 1 (([] : List aj).map aj.lf)] 0 [0,1,5,6,7] 2 (.exit 0) (AO r3).T (AO r3).H] (ok1 (af2 h1)) <|
 .ret ⟨[.mvn 1],[0],[(2,1)],2⟩ (r3.2,ah.mk r3.1.dP r3.1.fat (IntKind.wrap .i64 (r3.1.aY - 1)) r3.1.bH)
def Q6 (p_b0:ah) : Option ((List aj) × ah) := Mo.den (aoZ p_b0)
theorem alj (p_b0:ah) : FH (Q6 p_b0) 224 [.ptr 0 0,.raw (.func (.func 87) #[] #[])] [.box 84 (.dat (ah.lf1 p_b0))] (fun _=>.own 1) (fun r=>[.box 84 (.dat (ah.lf1 r.2)),.row 25 5 (r.1.map aj.lf)]) := dW Tryz.func224 (by kernel_rfl) (fun _=>rfl) (by kernel_rfl)
def af4 (p_b0:ah) : Mo (bG × ah) :=
 .cH [0] (fV p_b0) fun r0 _ =>
 .cH [0] (fV r0.2) fun r1 _ =>
 .ret ⟨[.kill 1],[0],[],1⟩ (bG.mk r0.1 r1.1,r1.2)
def af5 (p_b0:ah) : Option (bG × ah) := Mo.den (af4 p_b0)
theorem ajA (p_b0:ah) : FH (af5 p_b0) 231 [.ptr 0 0] [.box 84 (.dat (ah.lf1 p_b0))] (fun r=>.dat (bG.lf1 r.1)) (fun r=>[.box 84 (.dat (ah.lf1 r.2))]) := dW Tryz.func231 (by kernel_rfl) (fun _=>rfl) (by kernel_rfl)
def YR (r0:Int × ah) : Mo (Bool) :=
 .iG 6002 (decide ((r0.1:Int) < 0)) (.rt [0,1,5,18] 1 (true)) <|
 .rt [0,1,5,18] 1 (decide ((64:Int) ≤ r0.2.aY))
def OB (r0:Int × ah) (r1:Bool) : Mo (ah) :=
 .iB (r1) (.rt [0,1,5] 1 (ah.mk r0.2.dP r0.2.fat r0.2.aY true)) <|
 .rt [0,1,5] 1 (r0.2)
def af6 (r0:Int × ah) (r1:Bool) : Option (ah) := Mo.den (OB r0 r1)
def OC (r0:Int × ah) (r_:ah) : St := ⟨[(0,.ptr 0 0),(1,.raw (.func (.func 231) #[] #[])),(5,.i_ r0.1)],[.box 84 (.dat (ah.lf1 r_))]⟩
theorem ajB {r0:Int × ah} {r1:Bool} {r_:ah} (h:af6 r0 r1 = some r_) : eF Tryz.f230 1 [1,1,0,1] (.normal) (OC r0 r_) ⟨[(0,.ptr 0 0),(1,.raw (.func (.func 231) #[] #[])),(5,.i_ r0.1),(18,.b_ r1)],[.box 84 (.dat (ah.lf1 r0.2))]⟩ :=
 iE dA (OB r0 r1) (fun _=>.normal) (OC r0) (by kernel_rfl) h
def Uk (l0:List bG) (r0:Int × ah) (s6897:ah) (v0:Int) : Mo (Bool) :=
 .iG 16003 (decide ((v0:Int) < r0.1)) (.rt [0,1,5,6,7,38] 2 (!s6897.bH)) <|
 .rt [0,1,5,6,7,38] 2 (false)
def Hu (r0:Int × ah) : (Int × ah × (List bG)) → Mo ((Int × ah × (List bG)) ⊕ (ah × (List bG))) := fun (v0,s6897,l0) =>
 .jp Tryz.f230 1 [1,1,1,1,1,0,1,0,0,0,0] 21 [0,1,5,6,7] 2 (.normal) (fun r_=>⟨[(0,.ptr 0 0),(1,.raw (.func (.func 231) #[] #[])),(5,.i_ r0.1),(6,.own 1),(7,.i_ v0),(38,.b_ r_)],[.box 84 (.dat (ah.lf1 s6897)),.row 229 2 (l0.map bG.lf)]⟩) ⟨[(0,.ptr 0 0),(1,.raw (.func (.func 231) #[] #[])),(5,.i_ r0.1),(6,.own 1),(7,.i_ v0)],[.box 84 (.dat (ah.lf1 s6897)),.row 229 2 (l0.map bG.lf)]⟩ (Uk l0 r0 s6897 v0).den (jW (by kernel_rfl)) fun r1 _ =>
 .iB (r1) (.ask (af5 s6897) fun r2 h0 =>
 .say [.iD [0] (.dat (bG.lf1 r2.1)) [.box 84 (.dat (ah.lf1 r2.2))],.rows ((l0 ++ [r2.1]).map bG.lf)] (okc (ajA _ _ h0) (ok1 (ap_ bG.bD l0 r2.1))) <|
 .grd ((l0.length + [r2.1].length) * 16 ≤ 140737488355328) fun h1 =>
 .say [] (ok1 (cp_ bG.lf h1)) <|
 .ret ⟨[],[0,1,5,6,7],[(3,1)],2⟩ (.inl (IntKind.wrap .i64 (v0 + 1),r2.2,l0 ++ [r2.1]))) <|
 .rt [0,6] 2 (.inr (s6897,l0))
def WS (r0:Int × ah) (v0:Int) (s6897:ah) (l0:List bG) : Option ((ah × (List bG))) := bT (fun v_=>(Hu r0 v_).den) FU (v0,s6897,l0)
def Ul (r0:Int × ah) : (Int × ah × (List bG)) → St := fun (v0,s6897,l0)=>⟨[(0,.ptr 0 0),(1,.raw (.func (.func 231) #[] #[])),(5,.i_ r0.1),(6,.own 1),(7,.i_ v0)],[.box 84 (.dat (ah.lf1 s6897)),.row 229 2 (l0.map bG.lf)]⟩
def AP  (r_:(ah × (List bG))) : St := ⟨[(0,.ptr 0 0),(6,.own 1)],[.box 84 (.dat (ah.lf1 r_.1)),.row 229 2 (r_.2.map bG.lf)]⟩
theorem af7 {r0:Int × ah} {v0:Int} {s6897:ah} {l0:List bG} {r_:(ah × (List bG))} (h:WS r0 v0 s6897 l0 = some r_) : eF Tryz.f230 1 [1,1,1,1,1,0,1,0] (.exit 0) (AP r_) (Ul r0 (v0,s6897,l0)) :=
 dK dA (body := (Code.sub (bodyC Tryz.f230) [1,1,1,1,1,0,1,0,0])) (by kernel_rfl) (Hu r0) (Ul r0) (fun _=>.exit 0) AP (fun r_=>rfl) (fun v_=>by kernel_rfl) h
def ao0 (p_b0:ah) : Mo ((List bG) × ah) :=
 .cH [0] (fV p_b0) fun r0 _ =>
 .jp Tryz.f230 1 [1,1,0,0] 11 [0,1,5] 1 (.normal) (fun r_=>⟨[(0,.ptr 0 0),(1,.raw (.func (.func 231) #[] #[])),(5,.i_ r0.1),(18,.b_ r_)],[.box 84 (.dat (ah.lf1 r0.2))]⟩) ⟨[(0,.ptr 0 0),(1,.raw (.func (.func 231) #[] #[])),(5,.i_ r0.1)],[.box 84 (.dat (ah.lf1 r0.2))]⟩ (YR r0).den (jW (by kernel_rfl)) fun r1 _ =>
 .ask (af6 r0 r1) fun r2 h0 =>
 .say [.pt_ 1 [0,1,5,18] 1 (.normal) (OC r0 r2)] (okc (ajB h0) (ok1 (by simp [bG.bD] : (([] : List bG).map bG.lf) = []))) <|
 .ask (WS r0 0 (ah.mk r2.dP r2.fat (IntKind.wrap .i64 (r2.aY + 1)) r2.bH) ([] : List bG)) fun r3 h1 =>
 .say [.part [.rW 6 229 2,.lM 1 (([] : List bG).map bG.lf)] 0 [0,1,5,6,7] 2 (.exit 0) (AP r3).T (AP r3).H] (ok1 (af7 h1)) <|
 .ret ⟨[.mvn 1],[0],[(2,1)],2⟩ (r3.2,ah.mk r3.1.dP r3.1.fat (IntKind.wrap .i64 (r3.1.aY - 1)) r3.1.bH)
def Q8 (p_b0:ah) : Option ((List bG) × ah) := Mo.den (ao0 p_b0)
theorem ao1 (p_b0:ah) : FH (Q8 p_b0) 230 [.ptr 0 0,.raw (.func (.func 231) #[] #[])] [.box 84 (.dat (ah.lf1 p_b0))] (fun _=>.own 1) (fun r=>[.box 84 (.dat (ah.lf1 r.2)),.row 229 2 (r.1.map bG.lf)]) := dW Tryz.func230 (by kernel_rfl) (fun _=>rfl) (by kernel_rfl)
structure AQ where
 m1:(p_b0:ah) → Option (aG × ah)
 ok1:∀ p_b0,FH (m1 p_b0) 232 [.ptr 0 0] [.box 84 (.dat (ah.lf1 p_b0))] (fun r=>.dat (aG.lf1 r.1)) (fun r=>[.box 84 (.dat (ah.lf1 r.2))])
 m2:(p_b0:ah) → Option ((List aG) × ah)
 ok2:∀ p_b0,FH (m2 p_b0) 289 [.ptr 0 0,.raw (.func (.func 232) #[] #[])] [.box 84 (.dat (ah.lf1 p_b0))] (fun r=>.lf (.rows 11 (r.1.map aG.lf))) (fun r=>[.box 84 (.dat (ah.lf1 r.2))])
def OD (R_:AQ) (p_b0:ah) : Mo (aG × ah) :=
 .cH [0] (fV p_b0) fun r0 _ =>
 .cH [0] (Hq r0.2) fun r1 _ =>
 .cH [0] (tK r1.2) fun r2 _ =>
 .cH [0] (Hq r2.2) fun r3 _ =>
 .cH [0] (tN r3.2) fun r4 _ =>
 .cH [0] (fV r4.2) fun r5 _ =>
 .cH [0] (R_.ok2 r5.2) fun r6 _ =>
 .ret ⟨[.frz 2,.frz 3,.tod 0,.kill 1],[0],[],1⟩ (aG.mk r0.1 r1.1 r2.1 r3.1 r4.1 r5.1 r6.1,r6.2)
theorem af8 (R_:AQ) (p_b0:ah) : FH (Mo.den (OD R_ p_b0)) 232 [.ptr 0 0] [.box 84 (.dat (ah.lf1 p_b0))] (fun r=>.dat (aG.lf1 r.1)) (fun r=>[.box 84 (.dat (ah.lf1 r.2))]) := dW Tryz.func232 (by kernel_rfl) (fun _=>rfl) (by kernel_rfl)
def Um (R_:AQ) (r0:Int × ah) : Mo (Bool) :=
 .iG 6002 (decide ((r0.1:Int) < 0)) (.rt [0,1,5,18] 1 (true)) <|
 .rt [0,1,5,18] 1 (decide ((64:Int) ≤ r0.2.aY))
def Hw (R_:AQ) (r0:Int × ah) (r1:Bool) : Mo (ah) :=
 .iB (r1) (.rt [0,1,5] 1 (ah.mk r0.2.dP r0.2.fat r0.2.aY true)) <|
 .rt [0,1,5] 1 (r0.2)
def WT (R_:AQ) (r0:Int × ah) (r1:Bool) : Option (ah) := Mo.den (Hw R_ r0 r1)
def Hy (r0:Int × ah) (r_:ah) : St := ⟨[(0,.ptr 0 0),(1,.raw (.func (.func 232) #[] #[])),(5,.i_ r0.1)],[.box 84 (.dat (ah.lf1 r_))]⟩
theorem af9 {R_:AQ} {r0:Int × ah} {r1:Bool} {r_:ah} (h:WT R_ r0 r1 = some r_) : eF Tryz.f289 1 [1,1,0,1] (.normal) (Hy r0 r_) ⟨[(0,.ptr 0 0),(1,.raw (.func (.func 232) #[] #[])),(5,.i_ r0.1),(18,.b_ r1)],[.box 84 (.dat (ah.lf1 r0.2))]⟩ :=
 iE dA (Hw R_ r0 r1) (fun _=>.normal) (Hy r0) (by kernel_rfl) h
def LD (R_:AQ) (l0:List aG) (r0:Int × ah) (s7037:ah) (v0:Int) : Mo (Bool) :=
 .iG 16003 (decide ((v0:Int) < r0.1)) (.rt [0,1,5,6,7,38] 2 (!s7037.bH)) <|
 .rt [0,1,5,6,7,38] 2 (false)
def CJ (R_:AQ) (r0:Int × ah) : (Int × ah × (List aG)) → Mo ((Int × ah × (List aG)) ⊕ (ah × (List aG))) := fun (v0,s7037,l0) =>
 .jp Tryz.f289 1 [1,1,1,1,1,0,1,0,0,0,0] 21 [0,1,5,6,7] 2 (.normal) (fun r_=>⟨[(0,.ptr 0 0),(1,.raw (.func (.func 232) #[] #[])),(5,.i_ r0.1),(6,.own 1),(7,.i_ v0),(38,.b_ r_)],[.box 84 (.dat (ah.lf1 s7037)),.row 40 11 (l0.map aG.lf)]⟩) ⟨[(0,.ptr 0 0),(1,.raw (.func (.func 232) #[] #[])),(5,.i_ r0.1),(6,.own 1),(7,.i_ v0)],[.box 84 (.dat (ah.lf1 s7037)),.row 40 11 (l0.map aG.lf)]⟩ (LD R_ l0 r0 s7037 v0).den (jW (by kernel_rfl)) fun r1 _ =>
 .iB (r1) (.ask (R_.m1 s7037) fun r2 h0 =>
 .say [.iD [0] (.dat (aG.lf1 r2.1)) [.box 84 (.dat (ah.lf1 r2.2))],.rows ((l0 ++ [r2.1]).map aG.lf)] (okc (R_.ok1 _ _ h0) (ok1 (ap_ aG.bD l0 r2.1))) <|
 .grd ((l0.length + [r2.1].length) * 184 ≤ 140737488355328) fun h1 =>
 .say [] (ok1 (cp_ aG.lf h1)) <|
 .ret ⟨[],[0,1,5,6,7],[(3,1)],2⟩ (.inl (IntKind.wrap .i64 (v0 + 1),r2.2,l0 ++ [r2.1]))) <|
 .rt [0,6] 2 (.inr (s7037,l0))
def OE (R_:AQ) (r0:Int × ah) (v0:Int) (s7037:ah) (l0:List aG) : Option ((ah × (List aG))) := bT (fun v_=>(CJ R_ r0 v_).den) FU (v0,s7037,l0)
def LG (R_:AQ) (r0:Int × ah) : (Int × ah × (List aG)) → St := fun (v0,s7037,l0)=>⟨[(0,.ptr 0 0),(1,.raw (.func (.func 232) #[] #[])),(5,.i_ r0.1),(6,.own 1),(7,.i_ v0)],[.box 84 (.dat (ah.lf1 s7037)),.row 40 11 (l0.map aG.lf)]⟩
def wu  (r_:(ah × (List aG))) : St := ⟨[(0,.ptr 0 0),(6,.own 1)],[.box 84 (.dat (ah.lf1 r_.1)),.row 40 11 (r_.2.map aG.lf)]⟩
theorem abN {R_:AQ} {r0:Int × ah} {v0:Int} {s7037:ah} {l0:List aG} {r_:(ah × (List aG))} (h:OE R_ r0 v0 s7037 l0 = some r_) : eF Tryz.f289 1 [1,1,1,1,1,0,1,0] (.exit 0) (wu r_) (LG R_ r0 (v0,s7037,l0)) :=
 dK dA (body := (Code.sub (bodyC Tryz.f289) [1,1,1,1,1,0,1,0,0])) (by kernel_rfl) (CJ R_ r0) (LG R_ r0) (fun _=>.exit 0) wu (fun r_=>rfl) (fun v_=>by kernel_rfl) h
def YS (R_:AQ) (p_b0:ah) : Mo ((List aG) × ah) :=
 .cH [0] (fV p_b0) fun r0 _ =>
 .jp Tryz.f289 1 [1,1,0,0] 11 [0,1,5] 1 (.normal) (fun r_=>⟨[(0,.ptr 0 0),(1,.raw (.func (.func 232) #[] #[])),(5,.i_ r0.1),(18,.b_ r_)],[.box 84 (.dat (ah.lf1 r0.2))]⟩) ⟨[(0,.ptr 0 0),(1,.raw (.func (.func 232) #[] #[])),(5,.i_ r0.1)],[.box 84 (.dat (ah.lf1 r0.2))]⟩ (Um R_ r0).den (jW (by kernel_rfl)) fun r1 _ =>
 .ask (WT R_ r0 r1) fun r2 h0 =>
 .say [.pt_ 1 [0,1,5,18] 1 (.normal) (Hy r0 r2)] (okc (af9 h0) (ok1 (by simp [aG.bD] : (([] : List aG).map aG.lf) = []))) <|
 .ask (OE R_ r0 0 (ah.mk r2.dP r2.fat (IntKind.wrap .i64 (r2.aY + 1)) r2.bH) ([] : List aG)) fun r3 h1 =>
 .say [.part [.rW 6 40 11,.lM 1 (([] : List aG).map aG.lf)] 0 [0,1,5,6,7] 2 (.exit 0) (wu r3).T (wu r3).H] (ok1 (abN h1)) <|
 .ret ⟨[.frz 1],[0],[],1⟩ (r3.2,ah.mk r3.1.dP r3.1.fat (IntKind.wrap .i64 (r3.1.aY - 1)) r3.1.bH)
theorem ajC (R_:AQ) (p_b0:ah) : FH (Mo.den (YS R_ p_b0)) 289 [.ptr 0 0,.raw (.func (.func 232) #[] #[])] [.box 84 (.dat (ah.lf1 p_b0))] (fun r=>.lf (.rows 11 (r.1.map aG.lf))) (fun r=>[.box 84 (.dat (ah.lf1 r.2))]) := dW Tryz.func289 (by kernel_rfl) (fun _=>rfl) (by kernel_rfl)
def oz:Nat → AQ
 | 0=>{ m1 := fun p_b0=>none,ok1 := fun _ _ h=>(by cases h),m2 := fun p_b0=>none,ok2 := fun _ _ h=>(by cases h) }
 | n_ + 1=>{ m1 := fun p_b0=>Mo.den (OD (oz n_) p_b0),ok1 := fun p_b0 r h=>af8 (oz n_) p_b0 r h,m2 := fun p_b0=>Mo.den (YS (oz n_) p_b0),ok2 := ajC (oz n_) }
def ao2 (p_b0:ah) : Option (aG × ah) := (oz FU).m1 p_b0
theorem ajD (p_b0:ah) : FH (ao2 p_b0) 232 [.ptr 0 0] [.box 84 (.dat (ah.lf1 p_b0))] (fun r=>.dat (aG.lf1 r.1)) (fun r=>[.box 84 (.dat (ah.lf1 r.2))]) := (oz FU).ok1 p_b0
structure AU where
 m1:(p_b0:ah) → Option (aC × ah)
 ok1:∀ p_b0,FH (m1 p_b0) 149 [.ptr 0 0] [.box 84 (.dat (ah.lf1 p_b0))] (fun r=>.dat (aC.lf1 r.1)) (fun r=>[.box 84 (.dat (ah.lf1 r.2))])
 m2:(p_b0:ah) → Option ((List aC) × ah)
 ok2:∀ p_b0,FH (m2 p_b0) 233 [.ptr 0 0,.raw (.func (.func 149) #[] #[])] [.box 84 (.dat (ah.lf1 p_b0))] (fun r=>.lf (.rows 25 (r.1.map aC.lf))) (fun r=>[.box 84 (.dat (ah.lf1 r.2))])
def OG (R_:AU) (p_b0:ah) : Mo (aC × ah) :=
 .cH [0] (fV p_b0) fun r0 _ =>
 .cH [0] (Hq r0.2) fun r1 _ =>
 .cH [0] (tN r1.2) fun r2 _ =>
 .cH [0] (alj r2.2) fun r3 _ =>
 .cH [0] (fV r3.2) fun r4 _ =>
 .cH [0] (fV r4.2) fun r5 _ =>
 .cH [0] (fV r5.2) fun r6 _ =>
 .cH [0] (ao1 r6.2) fun r7 _ =>
 .cH [0] (fV r7.2) fun r8 _ =>
 .cH [0] (ajD r8.2) fun r9 _ =>
 .cH [0] (R_.ok2 r9.2) fun r10 _ =>
 .ret ⟨[.frz 2,.frz 3,.frz 4,.tod 0,.kill 1],[0],[],1⟩ (aC.mk r0.1 r1.1 r2.1 r3.1 r4.1 r5.1 (fA.mk r6.1 r7.1 r8.1) r9.1 r10.1,r10.2)
theorem aga (R_:AU) (p_b0:ah) : FH (Mo.den (OG R_ p_b0)) 149 [.ptr 0 0] [.box 84 (.dat (ah.lf1 p_b0))] (fun r=>.dat (aC.lf1 r.1)) (fun r=>[.box 84 (.dat (ah.lf1 r.2))]) := dW Tryz.func149 (by kernel_rfl) (fun _=>rfl) (by kernel_rfl)
def Un (R_:AU) (r0:Int × ah) : Mo (Bool) :=
 .iG 6002 (decide ((r0.1:Int) < 0)) (.rt [0,1,5,18] 1 (true)) <|
 .rt [0,1,5,18] 1 (decide ((64:Int) ≤ r0.2.aY))
def Hz (R_:AU) (r0:Int × ah) (r1:Bool) : Mo (ah) :=
 .iB (r1) (.rt [0,1,5] 1 (ah.mk r0.2.dP r0.2.fat r0.2.aY true)) <|
 .rt [0,1,5] 1 (r0.2)
def WU (R_:AU) (r0:Int × ah) (r1:Bool) : Option (ah) := Mo.den (Hz R_ r0 r1)
def H6 (r0:Int × ah) (r_:ah) : St := ⟨[(0,.ptr 0 0),(1,.raw (.func (.func 149) #[] #[])),(5,.i_ r0.1)],[.box 84 (.dat (ah.lf1 r_))]⟩
theorem agb {R_:AU} {r0:Int × ah} {r1:Bool} {r_:ah} (h:WU R_ r0 r1 = some r_) : eF Tryz.f233 1 [1,1,0,1] (.normal) (H6 r0 r_) ⟨[(0,.ptr 0 0),(1,.raw (.func (.func 149) #[] #[])),(5,.i_ r0.1),(18,.b_ r1)],[.box 84 (.dat (ah.lf1 r0.2))]⟩ :=
 iE dA (Hz R_ r0 r1) (fun _=>.normal) (H6 r0) (by kernel_rfl) h
def LH (R_:AU) (l0:List aC) (r0:Int × ah) (s7149:ah) (v0:Int) : Mo (Bool) :=
 .iG 16003 (decide ((v0:Int) < r0.1)) (.rt [0,1,5,6,7,38] 2 (!s7149.bH)) <|
 .rt [0,1,5,6,7,38] 2 (false)
def CO (R_:AU) (r0:Int × ah) : (Int × ah × (List aC)) → Mo ((Int × ah × (List aC)) ⊕ (ah × (List aC))) := fun (v0,s7149,l0) =>
 .jp Tryz.f233 1 [1,1,1,1,1,0,1,0,0,0,0] 21 [0,1,5,6,7] 2 (.normal) (fun r_=>⟨[(0,.ptr 0 0),(1,.raw (.func (.func 149) #[] #[])),(5,.i_ r0.1),(6,.own 1),(7,.i_ v0),(38,.b_ r_)],[.box 84 (.dat (ah.lf1 s7149)),.row 43 25 (l0.map aC.lf)]⟩) ⟨[(0,.ptr 0 0),(1,.raw (.func (.func 149) #[] #[])),(5,.i_ r0.1),(6,.own 1),(7,.i_ v0)],[.box 84 (.dat (ah.lf1 s7149)),.row 43 25 (l0.map aC.lf)]⟩ (LH R_ l0 r0 s7149 v0).den (jW (by kernel_rfl)) fun r1 _ =>
 .iB (r1) (.ask (R_.m1 s7149) fun r2 h0 =>
 .say [.iD [0] (.dat (aC.lf1 r2.1)) [.box 84 (.dat (ah.lf1 r2.2))],.rows ((l0 ++ [r2.1]).map aC.lf)] (okc (R_.ok1 _ _ h0) (ok1 (ap_ aC.bD l0 r2.1))) <|
 .grd ((l0.length + [r2.1].length) * 400 ≤ 140737488355328) fun h1 =>
 .say [] (ok1 (cp_ aC.lf h1)) <|
 .ret ⟨[],[0,1,5,6,7],[(3,1)],2⟩ (.inl (IntKind.wrap .i64 (v0 + 1),r2.2,l0 ++ [r2.1]))) <|
 .rt [0,6] 2 (.inr (s7149,l0))
def OH (R_:AU) (r0:Int × ah) (v0:Int) (s7149:ah) (l0:List aC) : Option ((ah × (List aC))) := bT (fun v_=>(CO R_ r0 v_).den) FU (v0,s7149,l0)
def LJ (R_:AU) (r0:Int × ah) : (Int × ah × (List aC)) → St := fun (v0,s7149,l0)=>⟨[(0,.ptr 0 0),(1,.raw (.func (.func 149) #[] #[])),(5,.i_ r0.1),(6,.own 1),(7,.i_ v0)],[.box 84 (.dat (ah.lf1 s7149)),.row 43 25 (l0.map aC.lf)]⟩
def wz  (r_:(ah × (List aC))) : St := ⟨[(0,.ptr 0 0),(6,.own 1)],[.box 84 (.dat (ah.lf1 r_.1)),.row 43 25 (r_.2.map aC.lf)]⟩
theorem abO {R_:AU} {r0:Int × ah} {v0:Int} {s7149:ah} {l0:List aC} {r_:(ah × (List aC))} (h:OH R_ r0 v0 s7149 l0 = some r_) : eF Tryz.f233 1 [1,1,1,1,1,0,1,0] (.exit 0) (wz r_) (LJ R_ r0 (v0,s7149,l0)) :=
 dK dA (body := (Code.sub (bodyC Tryz.f233) [1,1,1,1,1,0,1,0,0])) (by kernel_rfl) (CO R_ r0) (LJ R_ r0) (fun _=>.exit 0) wz (fun r_=>rfl) (fun v_=>by kernel_rfl) h
def YT (R_:AU) (p_b0:ah) : Mo ((List aC) × ah) :=
 .cH [0] (fV p_b0) fun r0 _ =>
 .jp Tryz.f233 1 [1,1,0,0] 11 [0,1,5] 1 (.normal) (fun r_=>⟨[(0,.ptr 0 0),(1,.raw (.func (.func 149) #[] #[])),(5,.i_ r0.1),(18,.b_ r_)],[.box 84 (.dat (ah.lf1 r0.2))]⟩) ⟨[(0,.ptr 0 0),(1,.raw (.func (.func 149) #[] #[])),(5,.i_ r0.1)],[.box 84 (.dat (ah.lf1 r0.2))]⟩ (Un R_ r0).den (jW (by kernel_rfl)) fun r1 _ =>
 .ask (WU R_ r0 r1) fun r2 h0 =>
 .say [.pt_ 1 [0,1,5,18] 1 (.normal) (H6 r0 r2)] (okc (agb h0) (ok1 (by simp [aC.bD] : (([] : List aC).map aC.lf) = []))) <|
 .ask (OH R_ r0 0 (ah.mk r2.dP r2.fat (IntKind.wrap .i64 (r2.aY + 1)) r2.bH) ([] : List aC)) fun r3 h1 =>
 .say [.part [.rW 6 43 25,.lM 1 (([] : List aC).map aC.lf)] 0 [0,1,5,6,7] 2 (.exit 0) (wz r3).T (wz r3).H] (ok1 (abO h1)) <|
 .ret ⟨[.frz 1],[0],[],1⟩ (r3.2,ah.mk r3.1.dP r3.1.fat (IntKind.wrap .i64 (r3.1.aY - 1)) r3.1.bH)
theorem ajE (R_:AU) (p_b0:ah) : FH (Mo.den (YT R_ p_b0)) 233 [.ptr 0 0,.raw (.func (.func 149) #[] #[])] [.box 84 (.dat (ah.lf1 p_b0))] (fun r=>.lf (.rows 25 (r.1.map aC.lf))) (fun r=>[.box 84 (.dat (ah.lf1 r.2))]) := dW Tryz.func233 (by kernel_rfl) (fun _=>rfl) (by kernel_rfl)
def oC:Nat → AU
 | 0=>{ m1 := fun p_b0=>none,ok1 := fun _ _ h=>(by cases h),m2 := fun p_b0=>none,ok2 := fun _ _ h=>(by cases h) }
 | n_ + 1=>{ m1 := fun p_b0=>Mo.den (OG (oC n_) p_b0),ok1 := fun p_b0 r h=>aga (oC n_) p_b0 r h,m2 := fun p_b0=>Mo.den (YT (oC n_) p_b0),ok2 := ajE (oC n_) }
def ao3 (p_b0:ah) : Option (aC × ah) := (oC FU).m1 p_b0
theorem ajF (p_b0:ah) : FH (ao3 p_b0) 149 [.ptr 0 0] [.box 84 (.dat (ah.lf1 p_b0))] (fun r=>.dat (aC.lf1 r.1)) (fun r=>[.box 84 (.dat (ah.lf1 r.2))]) := (oC FU).ok1 p_b0
def agc (p_b0:ah) : Mo (aK × ah) :=
 .cH [0] (tK p_b0) fun r0 _ =>
 .cH [0] (fV r0.2) fun r1 _ =>
 .cH [0] (aoY r1.2) fun r2 _ =>
 .cH [0] (pO r2.2) fun r3 _ =>
 .cH [0] (pO r3.2) fun r4 _ =>
 .cH [0] (pO r4.2) fun r5 _ =>
 .cH [0] (ajF r5.2) fun r6 _ =>
 .ret ⟨[.kill 1,.mvn 2],[0],[(3,1)],2⟩ (aK.mk r0.1 r1.1 r2.1 r3.1 r4.1 r5.1 r6.1,r6.2)
def agd (p_b0:ah) : Option (aK × ah) := Mo.den (agc p_b0)
theorem YU (p_b0:ah) : FH (agd p_b0) 89 [.ptr 0 0] [.box 84 (.dat (ah.lf1 p_b0))] (fun r=>VH (.agg ((aK.lf1 r.1).map AV.lf)) [(2,.own 1)]) (fun r=>[.box 84 (.dat (ah.lf1 r.2)),.row 149 2 (r.1.gG.map aV.lf)]) := dW Tryz.func89 (by kernel_rfl) (fun _=>rfl) (by kernel_rfl)
def YV (r0:Int × ah) : Mo (Bool) :=
 .iG 6002 (decide ((r0.1:Int) < 0)) (.rt [0,1,5,18] 1 (true)) <|
 .rt [0,1,5,18] 1 (decide ((64:Int) ≤ r0.2.aY))
def OI (r0:Int × ah) (r1:Bool) : Mo (ah) :=
 .iB (r1) (.rt [0,1,5] 1 (ah.mk r0.2.dP r0.2.fat r0.2.aY true)) <|
 .rt [0,1,5] 1 (r0.2)
def agf (r0:Int × ah) (r1:Bool) : Option (ah) := Mo.den (OI r0 r1)
def OJ (r0:Int × ah) (r_:ah) : St := ⟨[(0,.ptr 0 0),(1,.raw (.func (.func 89) #[] #[])),(5,.i_ r0.1)],[.box 84 (.dat (ah.lf1 r_))]⟩
theorem ajG {r0:Int × ah} {r1:Bool} {r_:ah} (h:agf r0 r1 = some r_) : eF Tryz.f145 1 [1,1,0,1] (.normal) (OJ r0 r_) ⟨[(0,.ptr 0 0),(1,.raw (.func (.func 89) #[] #[])),(5,.i_ r0.1),(18,.b_ r1)],[.box 84 (.dat (ah.lf1 r0.2))]⟩ :=
 iE dA (OI r0 r1) (fun _=>.normal) (OJ r0) (by kernel_rfl) h
def Uo (l0:List aK) (r0:Int × ah) (s7236:ah) (v0:Int) : Mo (Bool) :=
 .iG 16003 (decide ((v0:Int) < r0.1)) (.rt [0,1,5,6,7,38] 2 (!s7236.bH)) <|
 .rt [0,1,5,6,7,38] 2 (false)
def H7 (r0:Int × ah) : (Int × ah × (List aK)) → Mo ((Int × ah × (List aK)) ⊕ (ah × (List aK))) := fun (v0,s7236,l0) =>
 .jp Tryz.f145 1 [1,1,1,1,1,0,1,0,0,0,0] 21 [0,1,5,6,7] 2 (.normal) (fun r_=>⟨[(0,.ptr 0 0),(1,.raw (.func (.func 89) #[] #[])),(5,.i_ r0.1),(6,.own 1),(7,.i_ v0),(38,.b_ r_)],[.box 84 (.dat (ah.lf1 s7236)),.row 45 31 (l0.map aK.lf)]⟩) ⟨[(0,.ptr 0 0),(1,.raw (.func (.func 89) #[] #[])),(5,.i_ r0.1),(6,.own 1),(7,.i_ v0)],[.box 84 (.dat (ah.lf1 s7236)),.row 45 31 (l0.map aK.lf)]⟩ (Uo l0 r0 s7236 v0).den (jW (by kernel_rfl)) fun r1 _ =>
 .iB (r1) (.ask (agd s7236) fun r2 h0 =>
 .say [.iD [0] (ag_ (aK.lf1 r2.1) [(2,.own 1)]) [.box 84 (.dat (ah.lf1 r2.2)),.row 149 2 (r2.1.gG.map aV.lf)],.at_ 20 4,.frz 2,.rows ((l0 ++ [r2.1]).map aK.lf)] (okc (YU _ _ h0) (ok1 (ap_ aK.bD l0 r2.1))) <|
 .grd ((l0.length + [r2.1].length) * 456 ≤ 140737488355328) fun h1 =>
 .say [] (ok1 (cp_ aK.lf h1)) <|
 .ret ⟨[],[0,1,5,6,7],[(4,1)],2⟩ (.inl (IntKind.wrap .i64 (v0 + 1),r2.2,l0 ++ [r2.1]))) <|
 .rt [0,6] 2 (.inr (s7236,l0))
def WV (r0:Int × ah) (v0:Int) (s7236:ah) (l0:List aK) : Option ((ah × (List aK))) := bT (fun v_=>(H7 r0 v_).den) FU (v0,s7236,l0)
def Ur (r0:Int × ah) : (Int × ah × (List aK)) → St := fun (v0,s7236,l0)=>⟨[(0,.ptr 0 0),(1,.raw (.func (.func 89) #[] #[])),(5,.i_ r0.1),(6,.own 1),(7,.i_ v0)],[.box 84 (.dat (ah.lf1 s7236)),.row 45 31 (l0.map aK.lf)]⟩
def AX  (r_:(ah × (List aK))) : St := ⟨[(0,.ptr 0 0),(6,.own 1)],[.box 84 (.dat (ah.lf1 r_.1)),.row 45 31 (r_.2.map aK.lf)]⟩
theorem agh {r0:Int × ah} {v0:Int} {s7236:ah} {l0:List aK} {r_:(ah × (List aK))} (h:WV r0 v0 s7236 l0 = some r_) : eF Tryz.f145 1 [1,1,1,1,1,0,1,0] (.exit 0) (AX r_) (Ur r0 (v0,s7236,l0)) :=
 dK dA (body := (Code.sub (bodyC Tryz.f145) [1,1,1,1,1,0,1,0,0])) (by kernel_rfl) (H7 r0) (Ur r0) (fun _=>.exit 0) AX (fun r_=>rfl) (fun v_=>by kernel_rfl) h
def ao4 (p_b0:ah) : Mo ((List aK) × ah) :=
 .cH [0] (fV p_b0) fun r0 _ =>
 .jp Tryz.f145 1 [1,1,0,0] 11 [0,1,5] 1 (.normal) (fun r_=>⟨[(0,.ptr 0 0),(1,.raw (.func (.func 89) #[] #[])),(5,.i_ r0.1),(18,.b_ r_)],[.box 84 (.dat (ah.lf1 r0.2))]⟩) ⟨[(0,.ptr 0 0),(1,.raw (.func (.func 89) #[] #[])),(5,.i_ r0.1)],[.box 84 (.dat (ah.lf1 r0.2))]⟩ (YV r0).den (jW (by kernel_rfl)) fun r1 _ =>
 .ask (agf r0 r1) fun r2 h0 =>
 .say [.pt_ 1 [0,1,5,18] 1 (.normal) (OJ r0 r2)] (okc (ajG h0) (ok1 (by simp [aK.bD] : (([] : List aK).map aK.lf) = []))) <|
 .ask (WV r0 0 (ah.mk r2.dP r2.fat (IntKind.wrap .i64 (r2.aY + 1)) r2.bH) ([] : List aK)) fun r3 h1 =>
 .say [.part [.rW 6 45 31,.lM 1 (([] : List aK).map aK.lf)] 0 [0,1,5,6,7] 2 (.exit 0) (AX r3).T (AX r3).H] (ok1 (agh h1)) <|
 .ret ⟨[.mvn 1],[0],[(2,1)],2⟩ (r3.2,ah.mk r3.1.dP r3.1.fat (IntKind.wrap .i64 (r3.1.aY - 1)) r3.1.bH)
def Q9 (p_b0:ah) : Option ((List aK) × ah) := Mo.den (ao4 p_b0)
theorem ao5 (p_b0:ah) : FH (Q9 p_b0) 145 [.ptr 0 0,.raw (.func (.func 89) #[] #[])] [.box 84 (.dat (ah.lf1 p_b0))] (fun _=>.own 1) (fun r=>[.box 84 (.dat (ah.lf1 r.2)),.row 45 31 (r.1.map aK.lf)]) := dW Tryz.func145 (by kernel_rfl) (fun _=>rfl) (by kernel_rfl)
structure mJ where
 m1:(p_b0:ah) → Option (aA × ah)
 ok1:∀ p_b0,FH (m1 p_b0) 146 [.ptr 0 0] [.box 84 (.dat (ah.lf1 p_b0))] (fun r=>.dat (aA.lf1 r.1)) (fun r=>[.box 84 (.dat (ah.lf1 r.2))])
 m2:(p_b0:ah) → Option ((List bC) × ah)
 ok2:∀ p_b0,FH (m2 p_b0) 227 [.ptr 0 0,.raw (.func (.func 228) #[] #[])] [.box 84 (.dat (ah.lf1 p_b0))] (fun r=>.lf (.rows 22 (r.1.map bC.lf))) (fun r=>[.box 84 (.dat (ah.lf1 r.2))])
 m3:(p_b0:ah) → Option ((List aA) × ah)
 ok3:∀ p_b0,FH (m3 p_b0) 229 [.ptr 0 0,.raw (.func (.func 146) #[] #[])] [.box 84 (.dat (ah.lf1 p_b0))] (fun r=>.lf (.rows 21 (r.1.map aA.lf))) (fun r=>[.box 84 (.dat (ah.lf1 r.2))])
 m4:(p_b0:ah) → Option (bC × ah)
 ok4:∀ p_b0,FH (m4 p_b0) 228 [.ptr 0 0] [.box 84 (.dat (ah.lf1 p_b0))] (fun r=>.dat (bC.lf1 r.1)) (fun r=>[.box 84 (.dat (ah.lf1 r.2))])
def OL (R_:mJ) (p_b0:ah) : Mo (aA × ah) :=
 .cH [0] (fV p_b0) fun r0 _ =>
 .cH [0] (pO r0.2) fun r1 _ =>
 .cH [0] (tN r1.2) fun r2 _ =>
 .cH [0] (pO r2.2) fun r3 _ =>
 .cH [0] (tN r3.2) fun r4 _ =>
 .cH [0] (alj r4.2) fun r5 _ =>
 .cH [0] (fV r5.2) fun r6 _ =>
 .cH [0] (fV r6.2) fun r7 _ =>
 .cH [0] (Hq r7.2) fun r8 _ =>
 .cH [0] (R_.ok2 r8.2) fun r9 _ =>
 .cH [0] (pO r9.2) fun r10 _ =>
 .cH [0] (R_.ok3 r10.2) fun r11 _ =>
 .cH [0] (pO r11.2) fun r12 _ =>
 .ret ⟨[.frz 2,.frz 3,.tod 0,.kill 1],[0],[],1⟩ (aA.mk r0.1 r1.1 r2.1 r3.1 r4.1 r5.1 r6.1 r7.1 r8.1 r9.1 r10.1 r11.1 r12.1,r12.2)
theorem agi (R_:mJ) (p_b0:ah) : FH (Mo.den (OL R_ p_b0)) 146 [.ptr 0 0] [.box 84 (.dat (ah.lf1 p_b0))] (fun r=>.dat (aA.lf1 r.1)) (fun r=>[.box 84 (.dat (ah.lf1 r.2))]) := dW Tryz.func146 (by kernel_rfl) (fun _=>rfl) (by kernel_rfl)
def Us (R_:mJ) (r0:Int × ah) : Mo (Bool) :=
 .iG 6002 (decide ((r0.1:Int) < 0)) (.rt [0,1,5,18] 1 (true)) <|
 .rt [0,1,5,18] 1 (decide ((64:Int) ≤ r0.2.aY))
def H8 (R_:mJ) (r0:Int × ah) (r1:Bool) : Mo (ah) :=
 .iB (r1) (.rt [0,1,5] 1 (ah.mk r0.2.dP r0.2.fat r0.2.aY true)) <|
 .rt [0,1,5] 1 (r0.2)
def WW (R_:mJ) (r0:Int × ah) (r1:Bool) : Option (ah) := Mo.den (H8 R_ r0 r1)
def H9 (r0:Int × ah) (r_:ah) : St := ⟨[(0,.ptr 0 0),(1,.raw (.func (.func 228) #[] #[])),(5,.i_ r0.1)],[.box 84 (.dat (ah.lf1 r_))]⟩
theorem agj {R_:mJ} {r0:Int × ah} {r1:Bool} {r_:ah} (h:WW R_ r0 r1 = some r_) : eF Tryz.f227 1 [1,1,0,1] (.normal) (H9 r0 r_) ⟨[(0,.ptr 0 0),(1,.raw (.func (.func 228) #[] #[])),(5,.i_ r0.1),(18,.b_ r1)],[.box 84 (.dat (ah.lf1 r0.2))]⟩ :=
 iE dA (H8 R_ r0 r1) (fun _=>.normal) (H9 r0) (by kernel_rfl) h
def LK (R_:mJ) (l0:List bC) (r0:Int × ah) (s7396:ah) (v0:Int) : Mo (Bool) :=
 .iG 16003 (decide ((v0:Int) < r0.1)) (.rt [0,1,5,6,7,38] 2 (!s7396.bH)) <|
 .rt [0,1,5,6,7,38] 2 (false)
def CP (R_:mJ) (r0:Int × ah) : (Int × ah × (List bC)) → Mo ((Int × ah × (List bC)) ⊕ (ah × (List bC))) := fun (v0,s7396,l0) =>
 .jp Tryz.f227 1 [1,1,1,1,1,0,1,0,0,0,0] 21 [0,1,5,6,7] 2 (.normal) (fun r_=>⟨[(0,.ptr 0 0),(1,.raw (.func (.func 228) #[] #[])),(5,.i_ r0.1),(6,.own 1),(7,.i_ v0),(38,.b_ r_)],[.box 84 (.dat (ah.lf1 s7396)),.row 224 22 (l0.map bC.lf)]⟩) ⟨[(0,.ptr 0 0),(1,.raw (.func (.func 228) #[] #[])),(5,.i_ r0.1),(6,.own 1),(7,.i_ v0)],[.box 84 (.dat (ah.lf1 s7396)),.row 224 22 (l0.map bC.lf)]⟩ (LK R_ l0 r0 s7396 v0).den (jW (by kernel_rfl)) fun r1 _ =>
 .iB (r1) (.ask (R_.m4 s7396) fun r2 h0 =>
 .say [.iD [0] (.dat (bC.lf1 r2.1)) [.box 84 (.dat (ah.lf1 r2.2))],.rows ((l0 ++ [r2.1]).map bC.lf)] (okc (R_.ok4 _ _ h0) (ok1 (ap_ bC.bD l0 r2.1))) <|
 .grd ((l0.length + [r2.1].length) * 328 ≤ 140737488355328) fun h1 =>
 .say [] (ok1 (cp_ bC.lf h1)) <|
 .ret ⟨[],[0,1,5,6,7],[(3,1)],2⟩ (.inl (IntKind.wrap .i64 (v0 + 1),r2.2,l0 ++ [r2.1]))) <|
 .rt [0,6] 2 (.inr (s7396,l0))
def OM (R_:mJ) (r0:Int × ah) (v0:Int) (s7396:ah) (l0:List bC) : Option ((ah × (List bC))) := bT (fun v_=>(CP R_ r0 v_).den) FU (v0,s7396,l0)
def LM (R_:mJ) (r0:Int × ah) : (Int × ah × (List bC)) → St := fun (v0,s7396,l0)=>⟨[(0,.ptr 0 0),(1,.raw (.func (.func 228) #[] #[])),(5,.i_ r0.1),(6,.own 1),(7,.i_ v0)],[.box 84 (.dat (ah.lf1 s7396)),.row 224 22 (l0.map bC.lf)]⟩
def wB  (r_:(ah × (List bC))) : St := ⟨[(0,.ptr 0 0),(6,.own 1)],[.box 84 (.dat (ah.lf1 r_.1)),.row 224 22 (r_.2.map bC.lf)]⟩
theorem abP {R_:mJ} {r0:Int × ah} {v0:Int} {s7396:ah} {l0:List bC} {r_:(ah × (List bC))} (h:OM R_ r0 v0 s7396 l0 = some r_) : eF Tryz.f227 1 [1,1,1,1,1,0,1,0] (.exit 0) (wB r_) (LM R_ r0 (v0,s7396,l0)) :=
 dK dA (body := (Code.sub (bodyC Tryz.f227) [1,1,1,1,1,0,1,0,0])) (by kernel_rfl) (CP R_ r0) (LM R_ r0) (fun _=>.exit 0) wB (fun r_=>rfl) (fun v_=>by kernel_rfl) h
def YW (R_:mJ) (p_b0:ah) : Mo ((List bC) × ah) :=
 .cH [0] (fV p_b0) fun r0 _ =>
 .jp Tryz.f227 1 [1,1,0,0] 11 [0,1,5] 1 (.normal) (fun r_=>⟨[(0,.ptr 0 0),(1,.raw (.func (.func 228) #[] #[])),(5,.i_ r0.1),(18,.b_ r_)],[.box 84 (.dat (ah.lf1 r0.2))]⟩) ⟨[(0,.ptr 0 0),(1,.raw (.func (.func 228) #[] #[])),(5,.i_ r0.1)],[.box 84 (.dat (ah.lf1 r0.2))]⟩ (Us R_ r0).den (jW (by kernel_rfl)) fun r1 _ =>
 .ask (WW R_ r0 r1) fun r2 h0 =>
 .say [.pt_ 1 [0,1,5,18] 1 (.normal) (H9 r0 r2)] (okc (agj h0) (ok1 (by simp [bC.bD] : (([] : List bC).map bC.lf) = []))) <|
 .ask (OM R_ r0 0 (ah.mk r2.dP r2.fat (IntKind.wrap .i64 (r2.aY + 1)) r2.bH) ([] : List bC)) fun r3 h1 =>
 .say [.part [.rW 6 224 22,.lM 1 (([] : List bC).map bC.lf)] 0 [0,1,5,6,7] 2 (.exit 0) (wB r3).T (wB r3).H] (ok1 (abP h1)) <|
 .ret ⟨[.frz 1],[0],[],1⟩ (r3.2,ah.mk r3.1.dP r3.1.fat (IntKind.wrap .i64 (r3.1.aY - 1)) r3.1.bH)
theorem ajH (R_:mJ) (p_b0:ah) : FH (Mo.den (YW R_ p_b0)) 227 [.ptr 0 0,.raw (.func (.func 228) #[] #[])] [.box 84 (.dat (ah.lf1 p_b0))] (fun r=>.lf (.rows 22 (r.1.map bC.lf))) (fun r=>[.box 84 (.dat (ah.lf1 r.2))]) := dW Tryz.func227 (by kernel_rfl) (fun _=>rfl) (by kernel_rfl)
def Ut (R_:mJ) (r0:Int × ah) : Mo (Bool) :=
 .iG 6002 (decide ((r0.1:Int) < 0)) (.rt [0,1,5,18] 1 (true)) <|
 .rt [0,1,5,18] 1 (decide ((64:Int) ≤ r0.2.aY))
def Ia (R_:mJ) (r0:Int × ah) (r1:Bool) : Mo (ah) :=
 .iB (r1) (.rt [0,1,5] 1 (ah.mk r0.2.dP r0.2.fat r0.2.aY true)) <|
 .rt [0,1,5] 1 (r0.2)
def WX (R_:mJ) (r0:Int × ah) (r1:Bool) : Option (ah) := Mo.den (Ia R_ r0 r1)
def Ib (r0:Int × ah) (r_:ah) : St := ⟨[(0,.ptr 0 0),(1,.raw (.func (.func 146) #[] #[])),(5,.i_ r0.1)],[.box 84 (.dat (ah.lf1 r_))]⟩
theorem agk {R_:mJ} {r0:Int × ah} {r1:Bool} {r_:ah} (h:WX R_ r0 r1 = some r_) : eF Tryz.f229 1 [1,1,0,1] (.normal) (Ib r0 r_) ⟨[(0,.ptr 0 0),(1,.raw (.func (.func 146) #[] #[])),(5,.i_ r0.1),(18,.b_ r1)],[.box 84 (.dat (ah.lf1 r0.2))]⟩ :=
 iE dA (Ia R_ r0 r1) (fun _=>.normal) (Ib r0) (by kernel_rfl) h
def LQ (R_:mJ) (l0:List aA) (r0:Int × ah) (s7500:ah) (v0:Int) : Mo (Bool) :=
 .iG 16003 (decide ((v0:Int) < r0.1)) (.rt [0,1,5,6,7,38] 2 (!s7500.bH)) <|
 .rt [0,1,5,6,7,38] 2 (false)
def CQ (R_:mJ) (r0:Int × ah) : (Int × ah × (List aA)) → Mo ((Int × ah × (List aA)) ⊕ (ah × (List aA))) := fun (v0,s7500,l0) =>
 .jp Tryz.f229 1 [1,1,1,1,1,0,1,0,0,0,0] 21 [0,1,5,6,7] 2 (.normal) (fun r_=>⟨[(0,.ptr 0 0),(1,.raw (.func (.func 146) #[] #[])),(5,.i_ r0.1),(6,.own 1),(7,.i_ v0),(38,.b_ r_)],[.box 84 (.dat (ah.lf1 s7500)),.row 31 21 (l0.map aA.lf)]⟩) ⟨[(0,.ptr 0 0),(1,.raw (.func (.func 146) #[] #[])),(5,.i_ r0.1),(6,.own 1),(7,.i_ v0)],[.box 84 (.dat (ah.lf1 s7500)),.row 31 21 (l0.map aA.lf)]⟩ (LQ R_ l0 r0 s7500 v0).den (jW (by kernel_rfl)) fun r1 _ =>
 .iB (r1) (.ask (R_.m1 s7500) fun r2 h0 =>
 .say [.iD [0] (.dat (aA.lf1 r2.1)) [.box 84 (.dat (ah.lf1 r2.2))],.rows ((l0 ++ [r2.1]).map aA.lf)] (okc (R_.ok1 _ _ h0) (ok1 (ap_ aA.bD l0 r2.1))) <|
 .grd ((l0.length + [r2.1].length) * 312 ≤ 140737488355328) fun h1 =>
 .say [] (ok1 (cp_ aA.lf h1)) <|
 .ret ⟨[],[0,1,5,6,7],[(3,1)],2⟩ (.inl (IntKind.wrap .i64 (v0 + 1),r2.2,l0 ++ [r2.1]))) <|
 .rt [0,6] 2 (.inr (s7500,l0))
def OO (R_:mJ) (r0:Int × ah) (v0:Int) (s7500:ah) (l0:List aA) : Option ((ah × (List aA))) := bT (fun v_=>(CQ R_ r0 v_).den) FU (v0,s7500,l0)
def LU (R_:mJ) (r0:Int × ah) : (Int × ah × (List aA)) → St := fun (v0,s7500,l0)=>⟨[(0,.ptr 0 0),(1,.raw (.func (.func 146) #[] #[])),(5,.i_ r0.1),(6,.own 1),(7,.i_ v0)],[.box 84 (.dat (ah.lf1 s7500)),.row 31 21 (l0.map aA.lf)]⟩
def wC  (r_:(ah × (List aA))) : St := ⟨[(0,.ptr 0 0),(6,.own 1)],[.box 84 (.dat (ah.lf1 r_.1)),.row 31 21 (r_.2.map aA.lf)]⟩
theorem abQ {R_:mJ} {r0:Int × ah} {v0:Int} {s7500:ah} {l0:List aA} {r_:(ah × (List aA))} (h:OO R_ r0 v0 s7500 l0 = some r_) : eF Tryz.f229 1 [1,1,1,1,1,0,1,0] (.exit 0) (wC r_) (LU R_ r0 (v0,s7500,l0)) :=
 dK dA (body := (Code.sub (bodyC Tryz.f229) [1,1,1,1,1,0,1,0,0])) (by kernel_rfl) (CQ R_ r0) (LU R_ r0) (fun _=>.exit 0) wC (fun r_=>rfl) (fun v_=>by kernel_rfl) h
def YX (R_:mJ) (p_b0:ah) : Mo ((List aA) × ah) :=
 .cH [0] (fV p_b0) fun r0 _ =>
 .jp Tryz.f229 1 [1,1,0,0] 11 [0,1,5] 1 (.normal) (fun r_=>⟨[(0,.ptr 0 0),(1,.raw (.func (.func 146) #[] #[])),(5,.i_ r0.1),(18,.b_ r_)],[.box 84 (.dat (ah.lf1 r0.2))]⟩) ⟨[(0,.ptr 0 0),(1,.raw (.func (.func 146) #[] #[])),(5,.i_ r0.1)],[.box 84 (.dat (ah.lf1 r0.2))]⟩ (Ut R_ r0).den (jW (by kernel_rfl)) fun r1 _ =>
 .ask (WX R_ r0 r1) fun r2 h0 =>
 .say [.pt_ 1 [0,1,5,18] 1 (.normal) (Ib r0 r2)] (okc (agk h0) (ok1 (by simp [aA.bD] : (([] : List aA).map aA.lf) = []))) <|
 .ask (OO R_ r0 0 (ah.mk r2.dP r2.fat (IntKind.wrap .i64 (r2.aY + 1)) r2.bH) ([] : List aA)) fun r3 h1 =>
 .say [.part [.rW 6 31 21,.lM 1 (([] : List aA).map aA.lf)] 0 [0,1,5,6,7] 2 (.exit 0) (wC r3).T (wC r3).H] (ok1 (abQ h1)) <|
 .ret ⟨[.frz 1],[0],[],1⟩ (r3.2,ah.mk r3.1.dP r3.1.fat (IntKind.wrap .i64 (r3.1.aY - 1)) r3.1.bH)
theorem ajI (R_:mJ) (p_b0:ah) : FH (Mo.den (YX R_ p_b0)) 229 [.ptr 0 0,.raw (.func (.func 146) #[] #[])] [.box 84 (.dat (ah.lf1 p_b0))] (fun r=>.lf (.rows 21 (r.1.map aA.lf))) (fun r=>[.box 84 (.dat (ah.lf1 r.2))]) := dW Tryz.func229 (by kernel_rfl) (fun _=>rfl) (by kernel_rfl)
def OQ (R_:mJ) (p_b0:ah) : Mo (bC × ah) :=
 .cH [0] (tK p_b0) fun r0 _ =>
 .cH [0] (R_.ok1 r0.2) fun r1 _ =>
 .ret ⟨[.kill 1],[0],[],1⟩ (bC.mk r0.1 r1.1,r1.2)
theorem agl (R_:mJ) (p_b0:ah) : FH (Mo.den (OQ R_ p_b0)) 228 [.ptr 0 0] [.box 84 (.dat (ah.lf1 p_b0))] (fun r=>.dat (bC.lf1 r.1)) (fun r=>[.box 84 (.dat (ah.lf1 r.2))]) := dW Tryz.func228 (by kernel_rfl) (fun _=>rfl) (by kernel_rfl)
def jA:Nat → mJ
 | 0=>{ m1 := fun p_b0=>none,ok1 := fun _ _ h=>(by cases h),m2 := fun p_b0=>none,ok2 := fun _ _ h=>(by cases h),m3 := fun p_b0=>none,ok3 := fun _ _ h=>(by cases h),m4 := fun p_b0=>none,ok4 := fun _ _ h=>(by cases h) }
 | n_ + 1=>{ m1 := fun p_b0=>Mo.den (OL (jA n_) p_b0),ok1 := fun p_b0 r h=>agi (jA n_) p_b0 r h,m2 := fun p_b0=>Mo.den (YW (jA n_) p_b0),ok2 := fun p_b0 r h=>ajH (jA n_) p_b0 r h,m3 := fun p_b0=>Mo.den (YX (jA n_) p_b0),ok3 := fun p_b0 r h=>ajI (jA n_) p_b0 r h,m4 := fun p_b0=>Mo.den (OQ (jA n_) p_b0),ok4 := agl (jA n_) }
def ao6 (p_b0:ah) : Option (aA × ah) := (jA FU).m1 p_b0
theorem ajJ (p_b0:ah) : FH (ao6 p_b0) 146 [.ptr 0 0] [.box 84 (.dat (ah.lf1 p_b0))] (fun r=>.dat (aA.lf1 r.1)) (fun r=>[.box 84 (.dat (ah.lf1 r.2))]) := (jA FU).ok1 p_b0
def agm (p_b0:ah) : Mo (bV × ah) :=
 .cH [0] (tK p_b0) fun r0 _ =>
 .cH [0] (ao5 r0.2) fun r1 _ =>
 .cH [0] (ajJ r1.2) fun r2 _ =>
 .cH [0] (fV r2.2) fun r3 _ =>
 .cH [0] (fV r3.2) fun r4 _ =>
 .ret ⟨[.kill 1,.mvn 2],[0],[(3,1)],2⟩ (bV.mk r0.1 r1.1 r2.1 r3.1 r4.1,r4.2)
def anj (p_b0:ah) : Option (bV × ah) := Mo.den (agm p_b0)
theorem ajK (p_b0:ah) : FH (anj p_b0) 88 [.ptr 0 0] [.box 84 (.dat (ah.lf1 p_b0))] (fun r=>VH (.agg ((bV.lf1 r.1).map AV.lf)) [(1,.own 1)]) (fun r=>[.box 84 (.dat (ah.lf1 r.2)),.row 45 31 (r.1.cu.map aK.lf)]) := dW Tryz.func88 (by kernel_rfl) (fun _=>rfl) (by kernel_rfl)
def agn (p_b0:ah) : Mo (Int × ah) :=
 .cH [0] (fV p_b0) fun r0 _ =>
 .rt [0] 1 (r0.1,r0.2)
def ajL (p_b0:ah) : Option (Int × ah) := Mo.den (agn p_b0)
theorem ajM (p_b0:ah) : FH (ajL p_b0) 92 [.ptr 0 0] [.box 84 (.dat (ah.lf1 p_b0))] (fun r=>.i_ r.1) (fun r=>[.box 84 (.dat (ah.lf1 r.2))]) := dW Tryz.func92 (by kernel_rfl) (fun _=>rfl) (by kernel_rfl)
def Uu (r0:Int × ah) : Mo (Bool) :=
 .iG 6002 (decide ((r0.1:Int) < 0)) (.rt [0,1,5,18] 1 (true)) <|
 .rt [0,1,5,18] 1 (decide ((64:Int) ≤ r0.2.aY))
def Ic (r0:Int × ah) (r1:Bool) : Mo (ah) :=
 .iB (r1) (.rt [0,1,5] 1 (ah.mk r0.2.dP r0.2.fat r0.2.aY true)) <|
 .rt [0,1,5] 1 (r0.2)
def WY (r0:Int × ah) (r1:Bool) : Option (ah) := Mo.den (Ic r0 r1)
def Ie (r0:Int × ah) (r_:ah) : St := ⟨[(0,.ptr 0 0),(1,.raw (.func (.func 92) #[] #[])),(5,.i_ r0.1)],[.box 84 (.dat (ah.lf1 r_))]⟩
theorem agp {r0:Int × ah} {r1:Bool} {r_:ah} (h:WY r0 r1 = some r_) : eF Tryz.f91 1 [1,1,0,1] (.normal) (Ie r0 r_) ⟨[(0,.ptr 0 0),(1,.raw (.func (.func 92) #[] #[])),(5,.i_ r0.1),(18,.b_ r1)],[.box 84 (.dat (ah.lf1 r0.2))]⟩ :=
 iE dA (Ic r0 r1) (fun _=>.normal) (Ie r0) (by kernel_rfl) h
def LV (l0:List Int) (r0:Int × ah) (s7646:ah) (v0:Int) : Mo (Bool) :=
 .iG 16003 (decide ((v0:Int) < r0.1)) (.rt [0,1,5,6,7,38] 2 (!s7646.bH)) <|
 .rt [0,1,5,6,7,38] 2 (false)
def CS (r0:Int × ah) : (Int × ah × (List Int)) → Mo ((Int × ah × (List Int)) ⊕ (ah × (List Int))) := fun (v0,s7646,l0) =>
 .jp Tryz.f91 1 [1,1,1,1,1,0,1,0,0,0,0] 21 [0,1,5,6,7] 2 (.normal) (fun r_=>⟨[(0,.ptr 0 0),(1,.raw (.func (.func 92) #[] #[])),(5,.i_ r0.1),(6,.own 1),(7,.i_ v0),(38,.b_ r_)],[.box 84 (.dat (ah.lf1 s7646)),.row 3 1 (l0.map lfI)]⟩) ⟨[(0,.ptr 0 0),(1,.raw (.func (.func 92) #[] #[])),(5,.i_ r0.1),(6,.own 1),(7,.i_ v0)],[.box 84 (.dat (ah.lf1 s7646)),.row 3 1 (l0.map lfI)]⟩ (LV l0 r0 s7646 v0).den (jW (by kernel_rfl)) fun r1 _ =>
 .iB (r1) (.ask (ajL s7646) fun r2 h0 =>
 .say [.iD [0] (.i_ r2.1) [.box 84 (.dat (ah.lf1 r2.2))],.rows ((l0 ++ [r2.1]).map lfI)] (okc (ajM _ _ h0) (ok1 (ap_ lI_ l0 r2.1))) <|
 .grd ((l0.length + [r2.1].length) * 8 ≤ 140737488355328) fun h1 =>
 .say [] (ok1 (cp_ lfI h1)) <|
 .ret ⟨[],[0,1,5,6,7],[(3,1)],2⟩ (.inl (IntKind.wrap .i64 (v0 + 1),r2.2,l0 ++ [r2.1]))) <|
 .rt [0,6] 2 (.inr (s7646,l0))
def OT (r0:Int × ah) (v0:Int) (s7646:ah) (l0:List Int) : Option ((ah × (List Int))) := bT (fun v_=>(CS r0 v_).den) FU (v0,s7646,l0)
def LW (r0:Int × ah) : (Int × ah × (List Int)) → St := fun (v0,s7646,l0)=>⟨[(0,.ptr 0 0),(1,.raw (.func (.func 92) #[] #[])),(5,.i_ r0.1),(6,.own 1),(7,.i_ v0)],[.box 84 (.dat (ah.lf1 s7646)),.row 3 1 (l0.map lfI)]⟩
def wE  (r_:(ah × (List Int))) : St := ⟨[(0,.ptr 0 0),(6,.own 1)],[.box 84 (.dat (ah.lf1 r_.1)),.row 3 1 (r_.2.map lfI)]⟩
theorem abR {r0:Int × ah} {v0:Int} {s7646:ah} {l0:List Int} {r_:(ah × (List Int))} (h:OT r0 v0 s7646 l0 = some r_) : eF Tryz.f91 1 [1,1,1,1,1,0,1,0] (.exit 0) (wE r_) (LW r0 (v0,s7646,l0)) :=
 dK dA (body := (Code.sub (bodyC Tryz.f91) [1,1,1,1,1,0,1,0,0])) (by kernel_rfl) (CS r0) (LW r0) (fun _=>.exit 0) wE (fun r_=>rfl) (fun v_=>by kernel_rfl) h
def alk (p_b0:ah) : Mo ((List Int) × ah) :=
 .cH [0] (fV p_b0) fun r0 _ =>
 .jp Tryz.f91 1 [1,1,0,0] 11 [0,1,5] 1 (.normal) (fun r_=>⟨[(0,.ptr 0 0),(1,.raw (.func (.func 92) #[] #[])),(5,.i_ r0.1),(18,.b_ r_)],[.box 84 (.dat (ah.lf1 r0.2))]⟩) ⟨[(0,.ptr 0 0),(1,.raw (.func (.func 92) #[] #[])),(5,.i_ r0.1)],[.box 84 (.dat (ah.lf1 r0.2))]⟩ (Uu r0).den (jW (by kernel_rfl)) fun r1 _ =>
 .ask (WY r0 r1) fun r2 h0 =>
 .say [.pt_ 1 [0,1,5,18] 1 (.normal) (Ie r0 r2)] (okc (agp h0) (ok1 (by simp [lfI,lfK] : (([] : List Int).map lfI) = []))) <|
 .ask (OT r0 0 (ah.mk r2.dP r2.fat (IntKind.wrap .i64 (r2.aY + 1)) r2.bH) ([] : List Int)) fun r3 h1 =>
 .say [.part [.rW 6 3 1,.lM 1 (([] : List Int).map lfI)] 0 [0,1,5,6,7] 2 (.exit 0) (wE r3).T (wE r3).H] (ok1 (abR h1)) <|
 .ret ⟨[.mvn 1],[0],[(2,1)],2⟩ (r3.2,ah.mk r3.1.dP r3.1.fat (IntKind.wrap .i64 (r3.1.aY - 1)) r3.1.bH)
def Q20 (p_b0:ah) : Option ((List Int) × ah) := Mo.den (alk p_b0)
theorem ank (p_b0:ah) : FH (Q20 p_b0) 91 [.ptr 0 0,.raw (.func (.func 92) #[] #[])] [.box 84 (.dat (ah.lf1 p_b0))] (fun _=>.own 1) (fun r=>[.box 84 (.dat (ah.lf1 r.2)),.row 3 1 (r.1.map lfI)]) := dW Tryz.func91 (by kernel_rfl) (fun _=>rfl) (by kernel_rfl)
structure AY where
 m1:(p_b0:ah) → Option (ak × ah)
 ok1:∀ p_b0,FH (m1 p_b0) 40 [.ptr 0 0] [.box 84 (.dat (ah.lf1 p_b0))] (fun r=>.dat (ak.lf1 r.1)) (fun r=>[.box 84 (.dat (ah.lf1 r.2))])
 m2:(p_b0:ah) → Option ((List ak) × ah)
 ok2:∀ p_b0,FH (m2 p_b0) 90 [.ptr 0 0,.raw (.func (.func 40) #[] #[])] [.box 84 (.dat (ah.lf1 p_b0))] (fun r=>.lf (.rows 78 (r.1.map ak.lf))) (fun r=>[.box 84 (.dat (ah.lf1 r.2))])
def OU (R_:AY) (p_b0:ah) : Mo (ak × ah) :=
 .cH [0] (fV p_b0) fun r0 _ =>
 .cH [0] (tK r0.2) fun r1 _ =>
 .cH [0] (tN r1.2) fun r2 _ =>
 .cH [0] (tN r2.2) fun r3 _ =>
 .cH [0] (tN r3.2) fun r4 _ =>
 .cH [0] (ajK r4.2) fun r5 _ =>
 .cH [0] (YU r5.2) fun r6 _ =>
 .cH [0] (tK r6.2) fun r7 _ =>
 .cH [0] (fV r7.2) fun r8 _ =>
 .cH [0] (R_.ok2 r8.2) fun r9 _ =>
 .cH [0] (ank r9.2) fun r10 _ =>
 .cH [0] (pO r10.2) fun r11 _ =>
 .ret ⟨[.frz 2,.frz 3,.frz 4,.tod 0,.kill 1],[0],[],1⟩ (ak.mk r0.1 r1.1 r2.1 r3.1 r4.1 r5.1 r6.1 r7.1 r8.1 r9.1 r10.1 r11.1,r11.2)
theorem agq (R_:AY) (p_b0:ah) : FH (Mo.den (OU R_ p_b0)) 40 [.ptr 0 0] [.box 84 (.dat (ah.lf1 p_b0))] (fun r=>.dat (ak.lf1 r.1)) (fun r=>[.box 84 (.dat (ah.lf1 r.2))]) := dW Tryz.func40 (by kernel_rfl) (fun _=>rfl) (by kernel_rfl)
def Uw (R_:AY) (r0:Int × ah) : Mo (Bool) :=
 .iG 6002 (decide ((r0.1:Int) < 0)) (.rt [0,1,5,18] 1 (true)) <|
 .rt [0,1,5,18] 1 (decide ((64:Int) ≤ r0.2.aY))
def Ig (R_:AY) (r0:Int × ah) (r1:Bool) : Mo (ah) :=
 .iB (r1) (.rt [0,1,5] 1 (ah.mk r0.2.dP r0.2.fat r0.2.aY true)) <|
 .rt [0,1,5] 1 (r0.2)
def WZ (R_:AY) (r0:Int × ah) (r1:Bool) : Option (ah) := Mo.den (Ig R_ r0 r1)
def Ih (r0:Int × ah) (r_:ah) : St := ⟨[(0,.ptr 0 0),(1,.raw (.func (.func 40) #[] #[])),(5,.i_ r0.1)],[.box 84 (.dat (ah.lf1 r_))]⟩
theorem agr {R_:AY} {r0:Int × ah} {r1:Bool} {r_:ah} (h:WZ R_ r0 r1 = some r_) : eF Tryz.f90 1 [1,1,0,1] (.normal) (Ih r0 r_) ⟨[(0,.ptr 0 0),(1,.raw (.func (.func 40) #[] #[])),(5,.i_ r0.1),(18,.b_ r1)],[.box 84 (.dat (ah.lf1 r0.2))]⟩ :=
 iE dA (Ig R_ r0 r1) (fun _=>.normal) (Ih r0) (by kernel_rfl) h
def LX (R_:AY) (l0:List ak) (r0:Int × ah) (s7758:ah) (v0:Int) : Mo (Bool) :=
 .iG 16003 (decide ((v0:Int) < r0.1)) (.rt [0,1,5,6,7,38] 2 (!s7758.bH)) <|
 .rt [0,1,5,6,7,38] 2 (false)
def CU (R_:AY) (r0:Int × ah) : (Int × ah × (List ak)) → Mo ((Int × ah × (List ak)) ⊕ (ah × (List ak))) := fun (v0,s7758,l0) =>
 .jp Tryz.f90 1 [1,1,1,1,1,0,1,0,0,0,0] 21 [0,1,5,6,7] 2 (.normal) (fun r_=>⟨[(0,.ptr 0 0),(1,.raw (.func (.func 40) #[] #[])),(5,.i_ r0.1),(6,.own 1),(7,.i_ v0),(38,.b_ r_)],[.box 84 (.dat (ah.lf1 s7758)),.row 49 78 (l0.map ak.lf)]⟩) ⟨[(0,.ptr 0 0),(1,.raw (.func (.func 40) #[] #[])),(5,.i_ r0.1),(6,.own 1),(7,.i_ v0)],[.box 84 (.dat (ah.lf1 s7758)),.row 49 78 (l0.map ak.lf)]⟩ (LX R_ l0 r0 s7758 v0).den (jW (by kernel_rfl)) fun r1 _ =>
 .iB (r1) (.ask (R_.m1 s7758) fun r2 h0 =>
 .say [.iD [0] (.dat (ak.lf1 r2.1)) [.box 84 (.dat (ah.lf1 r2.2))],.rows ((l0 ++ [r2.1]).map ak.lf)] (okc (R_.ok1 _ _ h0) (ok1 (ap_ ak.bD l0 r2.1))) <|
 .grd ((l0.length + [r2.1].length) * 1168 ≤ 140737488355328) fun h1 =>
 .say [] (ok1 (cp_ ak.lf h1)) <|
 .ret ⟨[],[0,1,5,6,7],[(3,1)],2⟩ (.inl (IntKind.wrap .i64 (v0 + 1),r2.2,l0 ++ [r2.1]))) <|
 .rt [0,6] 2 (.inr (s7758,l0))
def OV (R_:AY) (r0:Int × ah) (v0:Int) (s7758:ah) (l0:List ak) : Option ((ah × (List ak))) := bT (fun v_=>(CU R_ r0 v_).den) FU (v0,s7758,l0)
def LY (R_:AY) (r0:Int × ah) : (Int × ah × (List ak)) → St := fun (v0,s7758,l0)=>⟨[(0,.ptr 0 0),(1,.raw (.func (.func 40) #[] #[])),(5,.i_ r0.1),(6,.own 1),(7,.i_ v0)],[.box 84 (.dat (ah.lf1 s7758)),.row 49 78 (l0.map ak.lf)]⟩
def wF  (r_:(ah × (List ak))) : St := ⟨[(0,.ptr 0 0),(6,.own 1)],[.box 84 (.dat (ah.lf1 r_.1)),.row 49 78 (r_.2.map ak.lf)]⟩
theorem abS {R_:AY} {r0:Int × ah} {v0:Int} {s7758:ah} {l0:List ak} {r_:(ah × (List ak))} (h:OV R_ r0 v0 s7758 l0 = some r_) : eF Tryz.f90 1 [1,1,1,1,1,0,1,0] (.exit 0) (wF r_) (LY R_ r0 (v0,s7758,l0)) :=
 dK dA (body := (Code.sub (bodyC Tryz.f90) [1,1,1,1,1,0,1,0,0])) (by kernel_rfl) (CU R_ r0) (LY R_ r0) (fun _=>.exit 0) wF (fun r_=>rfl) (fun v_=>by kernel_rfl) h
def YZ (R_:AY) (p_b0:ah) : Mo ((List ak) × ah) :=
 .cH [0] (fV p_b0) fun r0 _ =>
 .jp Tryz.f90 1 [1,1,0,0] 11 [0,1,5] 1 (.normal) (fun r_=>⟨[(0,.ptr 0 0),(1,.raw (.func (.func 40) #[] #[])),(5,.i_ r0.1),(18,.b_ r_)],[.box 84 (.dat (ah.lf1 r0.2))]⟩) ⟨[(0,.ptr 0 0),(1,.raw (.func (.func 40) #[] #[])),(5,.i_ r0.1)],[.box 84 (.dat (ah.lf1 r0.2))]⟩ (Uw R_ r0).den (jW (by kernel_rfl)) fun r1 _ =>
 .ask (WZ R_ r0 r1) fun r2 h0 =>
 .say [.pt_ 1 [0,1,5,18] 1 (.normal) (Ih r0 r2)] (okc (agr h0) (ok1 (by simp [ak.bD] : (([] : List ak).map ak.lf) = []))) <|
 .ask (OV R_ r0 0 (ah.mk r2.dP r2.fat (IntKind.wrap .i64 (r2.aY + 1)) r2.bH) ([] : List ak)) fun r3 h1 =>
 .say [.part [.rW 6 49 78,.lM 1 (([] : List ak).map ak.lf)] 0 [0,1,5,6,7] 2 (.exit 0) (wF r3).T (wF r3).H] (ok1 (abS h1)) <|
 .ret ⟨[.frz 1],[0],[],1⟩ (r3.2,ah.mk r3.1.dP r3.1.fat (IntKind.wrap .i64 (r3.1.aY - 1)) r3.1.bH)
theorem ajN (R_:AY) (p_b0:ah) : FH (Mo.den (YZ R_ p_b0)) 90 [.ptr 0 0,.raw (.func (.func 40) #[] #[])] [.box 84 (.dat (ah.lf1 p_b0))] (fun r=>.lf (.rows 78 (r.1.map ak.lf))) (fun r=>[.box 84 (.dat (ah.lf1 r.2))]) := dW Tryz.func90 (by kernel_rfl) (fun _=>rfl) (by kernel_rfl)
def oD:Nat → AY
 | 0=>{ m1 := fun p_b0=>none,ok1 := fun _ _ h=>(by cases h),m2 := fun p_b0=>none,ok2 := fun _ _ h=>(by cases h) }
 | n_ + 1=>{ m1 := fun p_b0=>Mo.den (OU (oD n_) p_b0),ok1 := fun p_b0 r h=>agq (oD n_) p_b0 r h,m2 := fun p_b0=>Mo.den (YZ (oD n_) p_b0),ok2 := ajN (oD n_) }
def ao7 (p_b0:ah) : Option (ak × ah) := (oD FU).m1 p_b0
theorem ajO (p_b0:ah) : FH (ao7 p_b0) 40 [.ptr 0 0] [.box 84 (.dat (ah.lf1 p_b0))] (fun r=>.dat (ak.lf1 r.1)) (fun r=>[.box 84 (.dat (ah.lf1 r.2))]) := (oD FU).ok1 p_b0
def LZ (p_s:ByteArray) (r0:Int × ah) (r1:Int × ah) (r2:ByteArray × ah) (r3:Int × ah) (r4:ak × ah) : Mo (Bool) :=
 .iG 10004 (r4.2.bH) (.ret ⟨[.kill 1],[0,2,5,35],[],3⟩ (true)) <|
 .ret ⟨[.kill 1],[0,2,5,35],[],3⟩ (r4.2.fat != (p_s.size:Int))
def L6 (p_s:ByteArray) (r0:Int × ah) (r1:Int × ah) (r2:ByteArray × ah) (r3:Int × ah) (r4:ak × ah) (r5:ByteArray × Int) : Mo (Bool) :=
 .iG 16002 (r5.2 != 0) (.rt [2,5,48] 3 (true)) <|
 .rt [2,5,48] 3 (!decide ((r5.1:ByteArray) = (p_s:ByteArray)))
def ags (p_s:ByteArray) : Mo (bM × Int) :=
 .say [.at_ 6 1,.norm 1] ok0 <|
 .cH [1] (fV (ah.mk p_s 0 0 false)) fun r0 _ =>
 .cH [1] (fV r0.2) fun r1 _ =>
 .cH [1] (tK r1.2) fun r2 _ =>
 .cH [1] (fV r2.2) fun r3 _ =>
 .cH [1] (ajO r3.2) fun r4 _ =>
 .jp Tryz.f16 0 [1,1,1,1,0,0] 15 [0,2,4,5] 3 (.normal) (fun r_=>⟨[(0,.lf (.str p_s)),(2,.ptr 0 0),(5,.ptr 2 0),(35,.b_ r_)],[.box 51 (Z51),.dead,.box 51 (.agg (.i_ r0.1 :: .i_ r1.1 :: .lf (.str r2.1) :: .i_ r3.1 :: .i_ r4.1.aF :: .lf (.str r4.1.fQ) :: .i_ r4.1.iy.aF :: .i_ r4.1.iy.eU :: .lf (.str r4.1.iy.fText) :: .lf (.rows 5 (r4.1.iy.aU.map aj.lf)) :: .lf (.rows 6 (r4.1.iy.aX.map aB.lf)) :: .i_ r4.1.aX.aF :: .i_ r4.1.aX.eU :: .lf (.str r4.1.aX.fText) :: .lf (.rows 5 (r4.1.aX.aU.map aj.lf)) :: .lf (.rows 6 (r4.1.aX.aX.map aB.lf)) :: .i_ r4.1.dJ.aF :: .i_ r4.1.dJ.eU :: .lf (.str r4.1.dJ.fText) :: .lf (.rows 5 (r4.1.dJ.aU.map aj.lf)) :: .lf (.rows 6 (r4.1.dJ.aX.map aB.lf)) :: .lf (.str r4.1.dD.fName) :: .lf (.rows 31 (r4.1.dD.cu.map aK.lf)) :: .i_ r4.1.dD.aW.jw :: .b_ r4.1.dD.aW.iR :: .i_ r4.1.dD.aW.jO.aF :: .i_ r4.1.dD.aW.jO.eU :: .lf (.str r4.1.dD.aW.jO.fText) :: .lf (.rows 5 (r4.1.dD.aW.jO.aU.map aj.lf)) :: .lf (.rows 6 (r4.1.dD.aW.jO.aX.map aB.lf)) :: .b_ r4.1.dD.aW.iT :: .i_ r4.1.dD.aW.jP.aF :: .i_ r4.1.dD.aW.jP.eU :: .lf (.str r4.1.dD.aW.jP.fText) :: .lf (.rows 5 (r4.1.dD.aW.jP.aU.map aj.lf)) :: .lf (.rows 6 (r4.1.dD.aW.jP.aX.map aB.lf)) :: .lf (.rows 5 (r4.1.dD.aW.jl.map aj.lf)) :: .i_ r4.1.dD.aW.iU :: .i_ r4.1.dD.aW.iV :: .lf (.rows 1 (r4.1.dD.aW.dN.map lfS)) :: .lf (.rows 22 (r4.1.dD.aW.dX.map bC.lf)) :: .b_ r4.1.dD.aW.jo :: .lf (.rows 21 (r4.1.dD.aW.fC.map aA.lf)) :: .b_ r4.1.dD.aW.eP :: .i_ r4.1.dD.kX :: .i_ r4.1.dD.iW :: .lf (.str r4.1.aT.fName) :: .i_ r4.1.aT.aF :: .lf (.rows 2 (r4.1.aT.gG.map aV.lf)) :: .b_ r4.1.aT.eP :: .b_ r4.1.aT.jm :: .b_ r4.1.aT.iq :: .i_ r4.1.aT.bn.fOp :: .lf (.rows 1 (r4.1.aT.bn.dh.map lfS)) :: .i_ r4.1.aT.bn.fArg.aF :: .i_ r4.1.aT.bn.fArg.eU :: .lf (.str r4.1.aT.bn.fArg.fText) :: .lf (.rows 5 (r4.1.aT.bn.fArg.aU.map aj.lf)) :: .lf (.rows 6 (r4.1.aT.bn.fArg.aX.map aB.lf)) :: .lf (.rows 5 (r4.1.aT.bn.fArgs.map aj.lf)) :: .i_ r4.1.aT.bn.fN :: .i_ r4.1.aT.bn.fM :: .i_ r4.1.aT.bn.dH.aF :: .lf (.rows 2 (r4.1.aT.bn.dH.dB.map bG.lf)) :: .i_ r4.1.aT.bn.dH.fR :: .i_ r4.1.aT.bn.fExpr.fOp :: .lf (.rows 1 (r4.1.aT.bn.fExpr.dh.map lfS)) :: .lf (.str r4.1.aT.bn.fExpr.fName) :: .lf (.rows 1 (r4.1.aT.bn.fExpr.fB.map lfS)) :: .i_ r4.1.aT.bn.fExpr.fArg.aF :: .i_ r4.1.aT.bn.fExpr.fArg.eU :: .lf (.str r4.1.aT.bn.fExpr.fArg.fText) :: .lf (.rows 5 (r4.1.aT.bn.fExpr.fArg.aU.map aj.lf)) :: .lf (.rows 6 (r4.1.aT.bn.fExpr.fArg.aX.map aB.lf)) :: .i_ r4.1.aT.bn.fExpr.fN :: .lf (.rows 11 (r4.1.aT.bn.fExpr.bW.map aG.lf)) :: .lf (.rows 25 (r4.1.aT.bn.bW.map aC.lf)) :: .lf (.str r4.1.lQ) :: .i_ r4.1.eG :: .lf (.rows 78 (r4.1.dG.map ak.lf)) :: .lf (.rows 1 (r4.1.dO.map lfI)) :: .b_ r4.1.gq :: []))]⟩) ⟨[(0,.lf (.str p_s)),(2,.ptr 0 0),(4,.ptr 1 0),(5,.ptr 2 0)],[.box 51 (Z51),.box 84 (.dat (ah.lf1 r4.2)),.box 51 (.agg (.i_ r0.1 :: .i_ r1.1 :: .lf (.str r2.1) :: .i_ r3.1 :: .i_ r4.1.aF :: .lf (.str r4.1.fQ) :: .i_ r4.1.iy.aF :: .i_ r4.1.iy.eU :: .lf (.str r4.1.iy.fText) :: .lf (.rows 5 (r4.1.iy.aU.map aj.lf)) :: .lf (.rows 6 (r4.1.iy.aX.map aB.lf)) :: .i_ r4.1.aX.aF :: .i_ r4.1.aX.eU :: .lf (.str r4.1.aX.fText) :: .lf (.rows 5 (r4.1.aX.aU.map aj.lf)) :: .lf (.rows 6 (r4.1.aX.aX.map aB.lf)) :: .i_ r4.1.dJ.aF :: .i_ r4.1.dJ.eU :: .lf (.str r4.1.dJ.fText) :: .lf (.rows 5 (r4.1.dJ.aU.map aj.lf)) :: .lf (.rows 6 (r4.1.dJ.aX.map aB.lf)) :: .lf (.str r4.1.dD.fName) :: .lf (.rows 31 (r4.1.dD.cu.map aK.lf)) :: .i_ r4.1.dD.aW.jw :: .b_ r4.1.dD.aW.iR :: .i_ r4.1.dD.aW.jO.aF :: .i_ r4.1.dD.aW.jO.eU :: .lf (.str r4.1.dD.aW.jO.fText) :: .lf (.rows 5 (r4.1.dD.aW.jO.aU.map aj.lf)) :: .lf (.rows 6 (r4.1.dD.aW.jO.aX.map aB.lf)) :: .b_ r4.1.dD.aW.iT :: .i_ r4.1.dD.aW.jP.aF :: .i_ r4.1.dD.aW.jP.eU :: .lf (.str r4.1.dD.aW.jP.fText) :: .lf (.rows 5 (r4.1.dD.aW.jP.aU.map aj.lf)) :: .lf (.rows 6 (r4.1.dD.aW.jP.aX.map aB.lf)) :: .lf (.rows 5 (r4.1.dD.aW.jl.map aj.lf)) :: .i_ r4.1.dD.aW.iU :: .i_ r4.1.dD.aW.iV :: .lf (.rows 1 (r4.1.dD.aW.dN.map lfS)) :: .lf (.rows 22 (r4.1.dD.aW.dX.map bC.lf)) :: .b_ r4.1.dD.aW.jo :: .lf (.rows 21 (r4.1.dD.aW.fC.map aA.lf)) :: .b_ r4.1.dD.aW.eP :: .i_ r4.1.dD.kX :: .i_ r4.1.dD.iW :: .lf (.str r4.1.aT.fName) :: .i_ r4.1.aT.aF :: .lf (.rows 2 (r4.1.aT.gG.map aV.lf)) :: .b_ r4.1.aT.eP :: .b_ r4.1.aT.jm :: .b_ r4.1.aT.iq :: .i_ r4.1.aT.bn.fOp :: .lf (.rows 1 (r4.1.aT.bn.dh.map lfS)) :: .i_ r4.1.aT.bn.fArg.aF :: .i_ r4.1.aT.bn.fArg.eU :: .lf (.str r4.1.aT.bn.fArg.fText) :: .lf (.rows 5 (r4.1.aT.bn.fArg.aU.map aj.lf)) :: .lf (.rows 6 (r4.1.aT.bn.fArg.aX.map aB.lf)) :: .lf (.rows 5 (r4.1.aT.bn.fArgs.map aj.lf)) :: .i_ r4.1.aT.bn.fN :: .i_ r4.1.aT.bn.fM :: .i_ r4.1.aT.bn.dH.aF :: .lf (.rows 2 (r4.1.aT.bn.dH.dB.map bG.lf)) :: .i_ r4.1.aT.bn.dH.fR :: .i_ r4.1.aT.bn.fExpr.fOp :: .lf (.rows 1 (r4.1.aT.bn.fExpr.dh.map lfS)) :: .lf (.str r4.1.aT.bn.fExpr.fName) :: .lf (.rows 1 (r4.1.aT.bn.fExpr.fB.map lfS)) :: .i_ r4.1.aT.bn.fExpr.fArg.aF :: .i_ r4.1.aT.bn.fExpr.fArg.eU :: .lf (.str r4.1.aT.bn.fExpr.fArg.fText) :: .lf (.rows 5 (r4.1.aT.bn.fExpr.fArg.aU.map aj.lf)) :: .lf (.rows 6 (r4.1.aT.bn.fExpr.fArg.aX.map aB.lf)) :: .i_ r4.1.aT.bn.fExpr.fN :: .lf (.rows 11 (r4.1.aT.bn.fExpr.bW.map aG.lf)) :: .lf (.rows 25 (r4.1.aT.bn.bW.map aC.lf)) :: .lf (.str r4.1.lQ) :: .i_ r4.1.eG :: .lf (.rows 78 (r4.1.dG.map ak.lf)) :: .lf (.rows 1 (r4.1.dO.map lfI)) :: .b_ r4.1.gq :: []))]⟩ (LZ p_s r0 r1 r2 r3 r4).den (jW (by kernel_rfl)) fun r5 _ =>
 .iB (r5) (.ret (bf 2) (bM.mk 0 0 ⟨#[]⟩ 0 ak.z,4)) <|
 .cl (EJ (bM.mk r0.1 r1.1 r2.1 r3.1 r4.1)) fun r6 _ =>
 .jp Tryz.f16 0 [1,1,1,1,1,1,0,0] 21 [0,2,5,6,7] 3 (.normal) (fun r_=>⟨[(2,.ptr 0 0),(5,.ptr 2 0),(48,.b_ r_)],[.box 51 (Z51),.dead,.box 51 (.agg (.i_ r0.1 :: .i_ r1.1 :: .lf (.str r2.1) :: .i_ r3.1 :: .i_ r4.1.aF :: .lf (.str r4.1.fQ) :: .i_ r4.1.iy.aF :: .i_ r4.1.iy.eU :: .lf (.str r4.1.iy.fText) :: .lf (.rows 5 (r4.1.iy.aU.map aj.lf)) :: .lf (.rows 6 (r4.1.iy.aX.map aB.lf)) :: .i_ r4.1.aX.aF :: .i_ r4.1.aX.eU :: .lf (.str r4.1.aX.fText) :: .lf (.rows 5 (r4.1.aX.aU.map aj.lf)) :: .lf (.rows 6 (r4.1.aX.aX.map aB.lf)) :: .i_ r4.1.dJ.aF :: .i_ r4.1.dJ.eU :: .lf (.str r4.1.dJ.fText) :: .lf (.rows 5 (r4.1.dJ.aU.map aj.lf)) :: .lf (.rows 6 (r4.1.dJ.aX.map aB.lf)) :: .lf (.str r4.1.dD.fName) :: .lf (.rows 31 (r4.1.dD.cu.map aK.lf)) :: .i_ r4.1.dD.aW.jw :: .b_ r4.1.dD.aW.iR :: .i_ r4.1.dD.aW.jO.aF :: .i_ r4.1.dD.aW.jO.eU :: .lf (.str r4.1.dD.aW.jO.fText) :: .lf (.rows 5 (r4.1.dD.aW.jO.aU.map aj.lf)) :: .lf (.rows 6 (r4.1.dD.aW.jO.aX.map aB.lf)) :: .b_ r4.1.dD.aW.iT :: .i_ r4.1.dD.aW.jP.aF :: .i_ r4.1.dD.aW.jP.eU :: .lf (.str r4.1.dD.aW.jP.fText) :: .lf (.rows 5 (r4.1.dD.aW.jP.aU.map aj.lf)) :: .lf (.rows 6 (r4.1.dD.aW.jP.aX.map aB.lf)) :: .lf (.rows 5 (r4.1.dD.aW.jl.map aj.lf)) :: .i_ r4.1.dD.aW.iU :: .i_ r4.1.dD.aW.iV :: .lf (.rows 1 (r4.1.dD.aW.dN.map lfS)) :: .lf (.rows 22 (r4.1.dD.aW.dX.map bC.lf)) :: .b_ r4.1.dD.aW.jo :: .lf (.rows 21 (r4.1.dD.aW.fC.map aA.lf)) :: .b_ r4.1.dD.aW.eP :: .i_ r4.1.dD.kX :: .i_ r4.1.dD.iW :: .lf (.str r4.1.aT.fName) :: .i_ r4.1.aT.aF :: .lf (.rows 2 (r4.1.aT.gG.map aV.lf)) :: .b_ r4.1.aT.eP :: .b_ r4.1.aT.jm :: .b_ r4.1.aT.iq :: .i_ r4.1.aT.bn.fOp :: .lf (.rows 1 (r4.1.aT.bn.dh.map lfS)) :: .i_ r4.1.aT.bn.fArg.aF :: .i_ r4.1.aT.bn.fArg.eU :: .lf (.str r4.1.aT.bn.fArg.fText) :: .lf (.rows 5 (r4.1.aT.bn.fArg.aU.map aj.lf)) :: .lf (.rows 6 (r4.1.aT.bn.fArg.aX.map aB.lf)) :: .lf (.rows 5 (r4.1.aT.bn.fArgs.map aj.lf)) :: .i_ r4.1.aT.bn.fN :: .i_ r4.1.aT.bn.fM :: .i_ r4.1.aT.bn.dH.aF :: .lf (.rows 2 (r4.1.aT.bn.dH.dB.map bG.lf)) :: .i_ r4.1.aT.bn.dH.fR :: .i_ r4.1.aT.bn.fExpr.fOp :: .lf (.rows 1 (r4.1.aT.bn.fExpr.dh.map lfS)) :: .lf (.str r4.1.aT.bn.fExpr.fName) :: .lf (.rows 1 (r4.1.aT.bn.fExpr.fB.map lfS)) :: .i_ r4.1.aT.bn.fExpr.fArg.aF :: .i_ r4.1.aT.bn.fExpr.fArg.eU :: .lf (.str r4.1.aT.bn.fExpr.fArg.fText) :: .lf (.rows 5 (r4.1.aT.bn.fExpr.fArg.aU.map aj.lf)) :: .lf (.rows 6 (r4.1.aT.bn.fExpr.fArg.aX.map aB.lf)) :: .i_ r4.1.aT.bn.fExpr.fN :: .lf (.rows 11 (r4.1.aT.bn.fExpr.bW.map aG.lf)) :: .lf (.rows 25 (r4.1.aT.bn.bW.map aC.lf)) :: .lf (.str r4.1.lQ) :: .i_ r4.1.eG :: .lf (.rows 78 (r4.1.dG.map ak.lf)) :: .lf (.rows 1 (r4.1.dO.map lfI)) :: .b_ r4.1.gq :: []))]⟩) ⟨[(0,.lf (.str p_s)),(2,.ptr 0 0),(5,.ptr 2 0),(6,.lf (.str r6.1)),(7,.i_ r6.2)],[.box 51 (Z51),.dead,.box 51 (.agg (.i_ r0.1 :: .i_ r1.1 :: .lf (.str r2.1) :: .i_ r3.1 :: .i_ r4.1.aF :: .lf (.str r4.1.fQ) :: .i_ r4.1.iy.aF :: .i_ r4.1.iy.eU :: .lf (.str r4.1.iy.fText) :: .lf (.rows 5 (r4.1.iy.aU.map aj.lf)) :: .lf (.rows 6 (r4.1.iy.aX.map aB.lf)) :: .i_ r4.1.aX.aF :: .i_ r4.1.aX.eU :: .lf (.str r4.1.aX.fText) :: .lf (.rows 5 (r4.1.aX.aU.map aj.lf)) :: .lf (.rows 6 (r4.1.aX.aX.map aB.lf)) :: .i_ r4.1.dJ.aF :: .i_ r4.1.dJ.eU :: .lf (.str r4.1.dJ.fText) :: .lf (.rows 5 (r4.1.dJ.aU.map aj.lf)) :: .lf (.rows 6 (r4.1.dJ.aX.map aB.lf)) :: .lf (.str r4.1.dD.fName) :: .lf (.rows 31 (r4.1.dD.cu.map aK.lf)) :: .i_ r4.1.dD.aW.jw :: .b_ r4.1.dD.aW.iR :: .i_ r4.1.dD.aW.jO.aF :: .i_ r4.1.dD.aW.jO.eU :: .lf (.str r4.1.dD.aW.jO.fText) :: .lf (.rows 5 (r4.1.dD.aW.jO.aU.map aj.lf)) :: .lf (.rows 6 (r4.1.dD.aW.jO.aX.map aB.lf)) :: .b_ r4.1.dD.aW.iT :: .i_ r4.1.dD.aW.jP.aF :: .i_ r4.1.dD.aW.jP.eU :: .lf (.str r4.1.dD.aW.jP.fText) :: .lf (.rows 5 (r4.1.dD.aW.jP.aU.map aj.lf)) :: .lf (.rows 6 (r4.1.dD.aW.jP.aX.map aB.lf)) :: .lf (.rows 5 (r4.1.dD.aW.jl.map aj.lf)) :: .i_ r4.1.dD.aW.iU :: .i_ r4.1.dD.aW.iV :: .lf (.rows 1 (r4.1.dD.aW.dN.map lfS)) :: .lf (.rows 22 (r4.1.dD.aW.dX.map bC.lf)) :: .b_ r4.1.dD.aW.jo :: .lf (.rows 21 (r4.1.dD.aW.fC.map aA.lf)) :: .b_ r4.1.dD.aW.eP :: .i_ r4.1.dD.kX :: .i_ r4.1.dD.iW :: .lf (.str r4.1.aT.fName) :: .i_ r4.1.aT.aF :: .lf (.rows 2 (r4.1.aT.gG.map aV.lf)) :: .b_ r4.1.aT.eP :: .b_ r4.1.aT.jm :: .b_ r4.1.aT.iq :: .i_ r4.1.aT.bn.fOp :: .lf (.rows 1 (r4.1.aT.bn.dh.map lfS)) :: .i_ r4.1.aT.bn.fArg.aF :: .i_ r4.1.aT.bn.fArg.eU :: .lf (.str r4.1.aT.bn.fArg.fText) :: .lf (.rows 5 (r4.1.aT.bn.fArg.aU.map aj.lf)) :: .lf (.rows 6 (r4.1.aT.bn.fArg.aX.map aB.lf)) :: .lf (.rows 5 (r4.1.aT.bn.fArgs.map aj.lf)) :: .i_ r4.1.aT.bn.fN :: .i_ r4.1.aT.bn.fM :: .i_ r4.1.aT.bn.dH.aF :: .lf (.rows 2 (r4.1.aT.bn.dH.dB.map bG.lf)) :: .i_ r4.1.aT.bn.dH.fR :: .i_ r4.1.aT.bn.fExpr.fOp :: .lf (.rows 1 (r4.1.aT.bn.fExpr.dh.map lfS)) :: .lf (.str r4.1.aT.bn.fExpr.fName) :: .lf (.rows 1 (r4.1.aT.bn.fExpr.fB.map lfS)) :: .i_ r4.1.aT.bn.fExpr.fArg.aF :: .i_ r4.1.aT.bn.fExpr.fArg.eU :: .lf (.str r4.1.aT.bn.fExpr.fArg.fText) :: .lf (.rows 5 (r4.1.aT.bn.fExpr.fArg.aU.map aj.lf)) :: .lf (.rows 6 (r4.1.aT.bn.fExpr.fArg.aX.map aB.lf)) :: .i_ r4.1.aT.bn.fExpr.fN :: .lf (.rows 11 (r4.1.aT.bn.fExpr.bW.map aG.lf)) :: .lf (.rows 25 (r4.1.aT.bn.bW.map aC.lf)) :: .lf (.str r4.1.lQ) :: .i_ r4.1.eG :: .lf (.rows 78 (r4.1.dG.map ak.lf)) :: .lf (.rows 1 (r4.1.dO.map lfI)) :: .b_ r4.1.gq :: []))]⟩ (L6 p_s r0 r1 r2 r3 r4 r6).den (jW (by kernel_rfl)) fun r7 _ =>
 .iB (r7) (.ret (bf 2) (bM.mk 0 0 ⟨#[]⟩ 0 ak.z,4)) <|
 .ret (bf 2) (bM.mk r0.1 r1.1 r2.1 r3.1 r4.1,0)
def anl (p_s:ByteArray) : Option (bM × Int) := Mo.den (ags p_s)
theorem OW (p_s:ByteArray) : FV (anl p_s) 16 [.lf (.str p_s)] (fun r=>.tup [.dat (bM.lf1 r.1),.i_ r.2]) := dU Tryz.func16 (by kernel_rfl) (fun _=>rfl) (by kernel_rfl)
def Ux (p_n:Int) : Mo (Int) :=
 .iB (decide ((p_n:Int) < 0)) (.rt [3] 0 (eH .xor .u64 (IntKind.max .u64) (IX .u64 (IntKind.wrap .u64 p_n) 1))) <|
 .rt [3] 0 (IX .u64 (IntKind.wrap .u64 p_n) 1)
def Uy (v0:Int) (v1:ByteArray) (v2:Int) : Mo (Bool) :=
 .iG 14002 (decide ((v2:Int) < 10)) (.rt [3,4,5,18] 0 (decide ((128:Int) ≤ v0))) <|
 .rt [3,4,5,18] 0 (false)
def CV  : (Int × ByteArray × Int) → Mo ((Int × ByteArray × Int) ⊕ (Int × ByteArray)) := fun (v0,v1,v2) =>
 .jp Tryz.f139 0 [1,1,1,1,0,1,0,0,0,0] 19 [3,4,5] 0 (.normal) (fun r_=>⟨[(3,.lf (.int .u64 v0)),(4,.lf (.str v1)),(5,.i_ v2),(18,.b_ r_)],[]⟩) ⟨[(3,.lf (.int .u64 v0)),(4,.lf (.str v1)),(5,.i_ v2)],[]⟩ (Uy v0 v1 v2).den (jW (by kernel_rfl)) fun r0 _ =>
 .ite (r0) (fun c0 =>
 .say [.br true,.nums [eH .or .u8 (IntKind.wrap .u8 (Int.tmod v0 128)) 128]] (okc c0 (okc (by decide:(128:Int) ≠ 0) (ok1 (by simp [lfI,lfK] : [((lfK .u8) (eH .or .u8 (IntKind.wrap .u8 (Int.tmod v0 128)) 128))] = [eH .or .u8 (IntKind.wrap .u8 (Int.tmod v0 128)) 128].map fun n=>[Lf.int .u8 n])))) <|
 .grd (v1.size + (strOfNums [eH .or .u8 (IntKind.wrap .u8 (Int.tmod v0 128)) 128]).size ≤ 9223372036854775807) fun h0 =>
 .say [] (okc h0 (ok1 (by decide:(128:Int) ≠ 0))) <|
 .rt [3,4,5] 0 (.inl (IntKind.wrap .u64 (Int.tdiv v0 128),v1 ++ (strOfNums [eH .or .u8 (IntKind.wrap .u8 (Int.tmod v0 128)) 128]),IntKind.wrap .i64 (v2 + 1)))) fun c0 =>
 .say [.br false] (ok1 c0) <|
 .rt [3,4] 0 (.inr (v0,v1))
def OX (v0:Int) (v1:ByteArray) (v2:Int) : Option ((Int × ByteArray)) := bT (fun v_=>(CV  v_).den) FU (v0,v1,v2)
def L8  : (Int × ByteArray × Int) → St := fun (v0,v1,v2)=>⟨[(3,.lf (.int .u64 v0)),(4,.lf (.str v1)),(5,.i_ v2)],[]⟩
def CW  (r_:(Int × ByteArray)) : St := ⟨[(3,.lf (.int .u64 r_.1)),(4,.lf (.str r_.2))],[]⟩
theorem abT {v0:Int} {v1:ByteArray} {v2:Int} {r_:(Int × ByteArray)} (h:OX v0 v1 v2 = some r_) : eF Tryz.f139 0 [1,1,1,1,0,1,0] (.exit 0) (CW r_) (L8  (v0,v1,v2)) :=
 dK dA (body := (Code.sub (bodyC Tryz.f139) [1,1,1,1,0,1,0,0])) (by kernel_rfl) (CV ) (L8 ) (fun _=>.exit 0) CW (fun r_=>rfl) (fun v_=>by kernel_rfl) h
def alm (p_n:Int) : Mo (ByteArray) :=
 .say [] (ok1 (by decide:(0:Int) ≤ 1)) <|
 .jp Tryz.f139 0 [1,1,0,1] 1 [3,10] 0 (.normal) (fun r_=>⟨[(3,.lf (.int .u64 r_))],[]⟩) ⟨[(3,.lf (.int .u64 (IX .u64 (IntKind.wrap .u64 p_n) 1))),(10,.lf (.bool (decide ((p_n:Int) < 0))))],[]⟩ (Ux p_n).den (jW (by kernel_rfl)) fun r0 _ =>
 .ask (OX r0 ⟨#[]⟩ 0) fun r1 h0 =>
 .say [.pt_ 0 [3,4,5] 0 (.exit 0) (CW r1),.nums [IntKind.wrap .u8 r1.1]] (okc (abT h0) (ok1 (by simp [lfI,lfK] : [((lfK .u8) (IntKind.wrap .u8 r1.1))] = [IntKind.wrap .u8 r1.1].map fun n=>[Lf.int .u8 n]))) <|
 .grd (r1.2.size + (strOfNums [IntKind.wrap .u8 r1.1]).size ≤ 9223372036854775807) fun h1 =>
 .say [] (ok1 h1) <|
 .ret (bf 1) (r1.2 ++ (strOfNums [IntKind.wrap .u8 r1.1]))
def Q46 (p_n:Int) : Option (ByteArray) := Mo.den (alm p_n)
theorem anm (p_n:Int) : FV (Q46 p_n) 139 [.i_ p_n] (fun r=>.lf (.str r)) := dU Tryz.func139 (by kernel_rfl) (fun _=>rfl) (by kernel_rfl)
def ao8 (p_n:Int) (p_b0:ay) : Mo (ay) :=
 .say [.order [(true,0),(true,1),(true,2),(true,3),(true,4),(false,5),(true,6),(true,7),(true,8),(false,9)] (some 9) []] ok0 <|
 .cl (anm p_n) fun r0 _ =>
 .grd (p_b0.fS.size + r0.size ≤ 9223372036854775807) fun h0 =>
 .say [] (ok1 h0) <|
 .rt [] 1 (ay.mk (p_b0.fS ++ r0) p_b0.I9 p_b0.Ed)
def Q22 (p_n:Int) (p_b0:ay) : Option (ay) := Mo.den (ao8 p_n p_b0)
theorem fZ (p_n:Int) (p_b0:ay) : FH (Q22 p_n p_b0) 83 [.ptr 0 0,.i_ p_n] [.box 80 (.dat (ay.lf1 p_b0))] (fun _=>.tup []) (fun r=>[.box 80 (.dat (ay.lf1 r))]) := dW Tryz.func83 (by kernel_rfl) (fun _=>rfl) (by kernel_rfl)
end
end Go.Proofs.YtflpefkohpjjpaaGreatDoor
