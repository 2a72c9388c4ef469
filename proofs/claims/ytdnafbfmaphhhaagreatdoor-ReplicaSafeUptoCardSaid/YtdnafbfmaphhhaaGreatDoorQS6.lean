/- Printed by dec.py. -/
import Derived.Test.YtdnafbfmaphhhaaGreatDoorQS5
import Derived.Test.YtdnafbfmaphhhaaGreatDoorQS4
import Derived.Test.YtdnafbfmaphhhaaGreatDoorQSSlC
set_option linter.unusedSimpArgs false
set_option linter.unusedVariables false
namespace Go.Proofs.YtdnafbfmaphhhaaGreatDoor
open Go.RowKit
set_option maxRecDepth 20000
set_option maxHeartbeats 4000000
noncomputable section
def Qu (p_x:aV) : Mo (Bool) :=
 .iG 4003 (decide ((p_x.fName:ByteArray) = (⟨#[]⟩ : ByteArray))) (.rt [1,2,10] 1 (p_x.bT == 0)) <|
 .rt [1,2,10] 1 (false)
def Qv (p_x:aV) (r0:Bool) : Mo (Bool) :=
 .ite (r0) (fun c0 =>
 .say [.gd 4008 true,.num p_x.kX.length] (okc c0 (ok1 (ln_ p_x.kX bC.lf))) <|
 .rt [1,2,16] 1 ((p_x.kX.length:Int) == 0)) fun c0 =>
 .say [.gd 4008 false] (ok1 c0) <|
 .rt [1,2,16] 1 (false)
def Lm (p_x:aV) (r0:Bool) : Mo (Bool) :=
 .iG 4014 (r0) (.rt [1,2,21] 1 (!p_x.iV)) <|
 .rt [1,2,21] 1 (false)
def Lp (p_x:aV) (r0:Bool) : Mo (Bool) :=
 .iG 4019 (r0) (.rt [1,2,26] 1 (!p_x.lQ)) <|
 .rt [1,2,26] 1 (false)
def Lr (p_x:aV) (r0:Bool) : Mo (Bool) :=
 .iG 4024 (r0) (.rt [1,2,31] 1 (!p_x.kD)) <|
 .rt [1,2,31] 1 (false)
def Ls (p_x:aV) (r0:Bool) : Mo (Bool) :=
 .iG 4029 (r0) (.cl (XW p_x.kE) fun r1 _ =>
 .ret ⟨[.kill 0],[2,36],[],1⟩ (r1)) <|
 .ret ⟨[.kill 0],[2,36],[],1⟩ (false)
def Lu (r0:Bool) : Mo (Unit) :=
 .rt [2] 1 ()
def Y0 (p_x:aV) : Mo (Bool) :=
 .sj Tryz.f172 0 [1,0] [0,1,2,3,4,5,6,7] 1 8 [1,2] 1 (fun r_=>⟨[(1,.ptr 0 0),(2,.b_ false),(10,.b_ r_)],[.box 49 (.dat (aV.lf1 p_x))]⟩) ⟨[(1,.ptr 0 0),(2,.b_ false)],[.box 49 (.dat (aV.lf1 p_x))]⟩ (Qu p_x).den (sW (by kernel_rfl)) fun r0 _ =>
 .sj Tryz.f172 0 [1,0] [8,9,10,11,12,13] 1 6 [1,2,10] 1 (fun r_=>⟨[(1,.ptr 0 0),(2,.b_ false),(16,.b_ r_)],[.box 49 (.dat (aV.lf1 p_x))]⟩) ⟨[(1,.ptr 0 0),(2,.b_ false),(10,.b_ r0)],[.box 49 (.dat (aV.lf1 p_x))]⟩ (Qv p_x r0).den (sW (by kernel_rfl)) fun r1 _ =>
 .sj Tryz.f172 0 [1,0] [14,15,16,17,18] 1 5 [1,2,16] 1 (fun r_=>⟨[(1,.ptr 0 0),(2,.b_ false),(21,.b_ r_)],[.box 49 (.dat (aV.lf1 p_x))]⟩) ⟨[(1,.ptr 0 0),(2,.b_ false),(16,.b_ r1)],[.box 49 (.dat (aV.lf1 p_x))]⟩ (Lm p_x r1).den (sW (by kernel_rfl)) fun r2 _ =>
 .sj Tryz.f172 0 [1,0] [19,20,21,22,23] 1 5 [1,2,21] 1 (fun r_=>⟨[(1,.ptr 0 0),(2,.b_ false),(26,.b_ r_)],[.box 49 (.dat (aV.lf1 p_x))]⟩) ⟨[(1,.ptr 0 0),(2,.b_ false),(21,.b_ r2)],[.box 49 (.dat (aV.lf1 p_x))]⟩ (Lp p_x r2).den (sW (by kernel_rfl)) fun r3 _ =>
 .sj Tryz.f172 0 [1,0] [24,25,26,27,28] 1 5 [1,2,26] 1 (fun r_=>⟨[(1,.ptr 0 0),(2,.b_ false),(31,.b_ r_)],[.box 49 (.dat (aV.lf1 p_x))]⟩) ⟨[(1,.ptr 0 0),(2,.b_ false),(26,.b_ r3)],[.box 49 (.dat (aV.lf1 p_x))]⟩ (Lr p_x r3).den (sW (by kernel_rfl)) fun r4 _ =>
 .sj Tryz.f172 0 [1,0] [29,30,31,32,33] 1 5 [1,2,31] 1 (fun r_=>⟨[(2,.b_ false),(36,.b_ r_)],[.dead]⟩) ⟨[(1,.ptr 0 0),(2,.b_ false),(31,.b_ r4)],[.box 49 (.dat (aV.lf1 p_x))]⟩ (Ls p_x r4).den (sW (by kernel_rfl)) fun r5 _ =>
 .sj Tryz.f172 0 [1,0] [34] 1 1 [2,36] 1 (fun r_=>⟨[(2,.b_ r5)],[.dead]⟩) ⟨[(2,.b_ false),(36,.b_ r5)],[.dead]⟩ (Lu r5).den (sW (by kernel_rfl)) fun r6 _ =>
 .ret (cZ 1) (r5)
def Q36 (p_x:aV) : Option (Bool) := Mo.den (Y0 p_x)
theorem XY (p_x:aV) : FV (Q36 p_x) 172 [.dat (aV.lf1 p_x)] (fun r=>.b_ r) := eG Tryz.func172 (by kernel_rfl) (fun _=>rfl) (by kernel_rfl)
def Qw (p_w:ay) : Mo (Bool) :=
 .iG 4003 (p_w.bT == 0) (.rt [1,2,10] 1 (decide ((p_w.iI:ByteArray) = (⟨#[]⟩ : ByteArray)))) <|
 .rt [1,2,10] 1 (false)
def Qx (p_w:ay) (r0:Bool) : Mo (Bool) :=
 .iG 4008 (r0) (.cl (qw p_w.kY) fun r1 _ =>
 .rt [1,2,15] 1 (r1)) <|
 .rt [1,2,15] 1 (false)
def LC (p_w:ay) (r0:Bool) : Mo (Bool) :=
 .iG 4013 (r0) (.cl (qw p_w.jh) fun r1 _ =>
 .rt [1,2,20] 1 (r1)) <|
 .rt [1,2,20] 1 (false)
def LD (p_w:ay) (r0:Bool) : Mo (Bool) :=
 .iG 4018 (r0) (.cl (qw p_w.fO) fun r1 _ =>
 .rt [1,2,25] 1 (r1)) <|
 .rt [1,2,25] 1 (false)
def LG (p_w:ay) (r0:Bool) : Mo (Bool) :=
 .iG 4023 (r0) (.cl (XU p_w.kZ) fun r1 _ =>
 .rt [1,2,30] 1 (r1)) <|
 .rt [1,2,30] 1 (false)
def LH (p_w:ay) (r0:Bool) : Mo (Bool) :=
 .iG 4028 (r0) (.cl (XY p_w.aY) fun r1 _ =>
 .rt [1,2,35] 1 (r1)) <|
 .rt [1,2,35] 1 (false)
def LJ (p_w:ay) (r0:Bool) : Mo (Bool) :=
 .iG 4033 (r0) (.rt [1,2,40] 1 (decide ((p_w.ng:ByteArray) = (⟨#[]⟩ : ByteArray)))) <|
 .rt [1,2,40] 1 (false)
def LK (p_w:ay) (r0:Bool) : Mo (Bool) :=
 .iG 4038 (r0) (.rt [1,2,45] 1 (p_w.dS == 0)) <|
 .rt [1,2,45] 1 (false)
def LM (p_w:ay) (r0:Bool) : Mo (Bool) :=
 .ite (r0) (fun c0 =>
 .say [.gd 4043 true,.num p_w.dH.length] (okc c0 (ok1 (ln_ p_w.dH ay.lf))) <|
 .rt [1,2,51] 1 ((p_w.dH.length:Int) == 0)) fun c0 =>
 .say [.gd 4043 false] (ok1 c0) <|
 .rt [1,2,51] 1 (false)
def LQ (p_w:ay) (r0:Bool) : Mo (Bool) :=
 .ite (r0) (fun c0 =>
 .say [.gd 4049 true,.num p_w.fD.length] (okc c0 (ok1 (ln_ p_w.fD lfI))) <|
 .rt [1,2,57] 1 ((p_w.fD.length:Int) == 0)) fun c0 =>
 .say [.gd 4049 false] (ok1 c0) <|
 .rt [1,2,57] 1 (false)
def LU (p_w:ay) (r0:Bool) : Mo (Bool) :=
 .iG 4055 (r0) (.ret ⟨[.kill 0],[2,62],[],1⟩ (!p_w.gK)) <|
 .ret ⟨[.kill 0],[2,62],[],1⟩ (false)
def LV (r0:Bool) : Mo (Unit) :=
 .rt [2] 1 ()
def Y1 (p_w:ay) : Mo (Bool) :=
 .sj Tryz.f126 0 [1,0] [0,1,2,3,4,5,6,7] 1 8 [1,2] 1 (fun r_=>⟨[(1,.ptr 0 0),(2,.b_ false),(10,.b_ r_)],[.box 52 (.dat (ay.lf1 p_w))]⟩) ⟨[(1,.ptr 0 0),(2,.b_ false)],[.box 52 (.dat (ay.lf1 p_w))]⟩ (Qw p_w).den (sW (by kernel_rfl)) fun r0 _ =>
 .sj Tryz.f126 0 [1,0] [8,9,10,11,12] 1 5 [1,2,10] 1 (fun r_=>⟨[(1,.ptr 0 0),(2,.b_ false),(15,.b_ r_)],[.box 52 (.dat (ay.lf1 p_w))]⟩) ⟨[(1,.ptr 0 0),(2,.b_ false),(10,.b_ r0)],[.box 52 (.dat (ay.lf1 p_w))]⟩ (Qx p_w r0).den (sW (by kernel_rfl)) fun r1 _ =>
 .sj Tryz.f126 0 [1,0] [13,14,15,16,17] 1 5 [1,2,15] 1 (fun r_=>⟨[(1,.ptr 0 0),(2,.b_ false),(20,.b_ r_)],[.box 52 (.dat (ay.lf1 p_w))]⟩) ⟨[(1,.ptr 0 0),(2,.b_ false),(15,.b_ r1)],[.box 52 (.dat (ay.lf1 p_w))]⟩ (LC p_w r1).den (sW (by kernel_rfl)) fun r2 _ =>
 .sj Tryz.f126 0 [1,0] [18,19,20,21,22] 1 5 [1,2,20] 1 (fun r_=>⟨[(1,.ptr 0 0),(2,.b_ false),(25,.b_ r_)],[.box 52 (.dat (ay.lf1 p_w))]⟩) ⟨[(1,.ptr 0 0),(2,.b_ false),(20,.b_ r2)],[.box 52 (.dat (ay.lf1 p_w))]⟩ (LD p_w r2).den (sW (by kernel_rfl)) fun r3 _ =>
 .sj Tryz.f126 0 [1,0] [23,24,25,26,27] 1 5 [1,2,25] 1 (fun r_=>⟨[(1,.ptr 0 0),(2,.b_ false),(30,.b_ r_)],[.box 52 (.dat (ay.lf1 p_w))]⟩) ⟨[(1,.ptr 0 0),(2,.b_ false),(25,.b_ r3)],[.box 52 (.dat (ay.lf1 p_w))]⟩ (LG p_w r3).den (sW (by kernel_rfl)) fun r4 _ =>
 .sj Tryz.f126 0 [1,0] [28,29,30,31,32] 1 5 [1,2,30] 1 (fun r_=>⟨[(1,.ptr 0 0),(2,.b_ false),(35,.b_ r_)],[.box 52 (.dat (ay.lf1 p_w))]⟩) ⟨[(1,.ptr 0 0),(2,.b_ false),(30,.b_ r4)],[.box 52 (.dat (ay.lf1 p_w))]⟩ (LH p_w r4).den (sW (by kernel_rfl)) fun r5 _ =>
 .sj Tryz.f126 0 [1,0] [33,34,35,36,37] 1 5 [1,2,35] 1 (fun r_=>⟨[(1,.ptr 0 0),(2,.b_ false),(40,.b_ r_)],[.box 52 (.dat (ay.lf1 p_w))]⟩) ⟨[(1,.ptr 0 0),(2,.b_ false),(35,.b_ r5)],[.box 52 (.dat (ay.lf1 p_w))]⟩ (LJ p_w r5).den (sW (by kernel_rfl)) fun r6 _ =>
 .sj Tryz.f126 0 [1,0] [38,39,40,41,42] 1 5 [1,2,40] 1 (fun r_=>⟨[(1,.ptr 0 0),(2,.b_ false),(45,.b_ r_)],[.box 52 (.dat (ay.lf1 p_w))]⟩) ⟨[(1,.ptr 0 0),(2,.b_ false),(40,.b_ r6)],[.box 52 (.dat (ay.lf1 p_w))]⟩ (LK p_w r6).den (sW (by kernel_rfl)) fun r7 _ =>
 .sj Tryz.f126 0 [1,0] [43,44,45,46,47,48] 1 6 [1,2,45] 1 (fun r_=>⟨[(1,.ptr 0 0),(2,.b_ false),(51,.b_ r_)],[.box 52 (.dat (ay.lf1 p_w))]⟩) ⟨[(1,.ptr 0 0),(2,.b_ false),(45,.b_ r7)],[.box 52 (.dat (ay.lf1 p_w))]⟩ (LM p_w r7).den (sW (by kernel_rfl)) fun r8 _ =>
 .sj Tryz.f126 0 [1,0] [49,50,51,52,53,54] 1 6 [1,2,51] 1 (fun r_=>⟨[(1,.ptr 0 0),(2,.b_ false),(57,.b_ r_)],[.box 52 (.dat (ay.lf1 p_w))]⟩) ⟨[(1,.ptr 0 0),(2,.b_ false),(51,.b_ r8)],[.box 52 (.dat (ay.lf1 p_w))]⟩ (LQ p_w r8).den (sW (by kernel_rfl)) fun r9 _ =>
 .sj Tryz.f126 0 [1,0] [55,56,57,58,59] 1 5 [1,2,57] 1 (fun r_=>⟨[(2,.b_ false),(62,.b_ r_)],[.dead]⟩) ⟨[(1,.ptr 0 0),(2,.b_ false),(57,.b_ r9)],[.box 52 (.dat (ay.lf1 p_w))]⟩ (LU p_w r9).den (sW (by kernel_rfl)) fun r10 _ =>
 .sj Tryz.f126 0 [1,0] [60] 1 1 [2,62] 1 (fun r_=>⟨[(2,.b_ r10)],[.dead]⟩) ⟨[(2,.b_ false),(62,.b_ r10)],[.dead]⟩ (LV r10).den (sW (by kernel_rfl)) fun r11 _ =>
 .ret (cZ 1) (r10)
def Q21 (p_w:ay) : Option (Bool) := Mo.den (Y1 p_w)
theorem XZ (p_w:ay) : FV (Q21 p_w) 126 [.dat (ay.lf1 p_w)] (fun r=>.b_ r) := eG Tryz.func126 (by kernel_rfl) (fun _=>rfl) (by kernel_rfl)
def Qy (p_w:ay) (r0:aH) : Mo (ay) :=
 .iB (r0.jH) (.rt [1,3] 2 (ay.WU (ay.dX p_w 0) ⟨#[]⟩)) <|
 .rt [1,3] 2 (ay.dX p_w 0)
def Qz (r0:aH) (r1:ay) : Mo (ay) :=
 .iB (r0.tJ) (.ret ⟨[.norm 0],[1,3],[],2⟩ (ay.Tv (ay.Tn (ay.Zk r1 (aF.mk 0 0 ⟨#[]⟩ [] [])) (aF.mk 0 0 ⟨#[]⟩ [] [])) false)) <|
 .rt [1,3] 2 (r1)
def LW (r0:aH) (r1:ay) : Mo (ay) :=
 .iB (r0.vH) (.ret ⟨[.norm 0],[1,3],[],2⟩ (ay.Zl r1 (aF.mk 0 0 ⟨#[]⟩ [] []))) <|
 .rt [1,3] 2 (r1)
def LX (r0:aH) (r1:ay) : Mo (ay) :=
 .iB (r0.vI) (.ret ⟨[.norm 0],[1,3],[],2⟩ (ay.Zm r1 (bZ.mk ⟨#[]⟩ [] aC.z 0 0))) <|
 .rt [1,3] 2 (r1)
def LY (r0:aH) (r1:ay) : Mo (ay) :=
 .iB (r0.jU) (.ret ⟨[.norm 0],[1,3],[],2⟩ (ay.iD r1 aV.z)) <|
 .rt [1,3] 2 (r1)
def LZ (r0:aH) (r1:ay) : Mo (ay) :=
 .iB (r0.fF) (.rt [1,3] 2 (ay.iD r1 (aV.Ve r1.aY ⟨#[]⟩))) <|
 .rt [1,3] 2 (r1)
def L6 (r0:aH) (r1:ay) : Mo (ay) :=
 .iB (r0.tN) (.rt [1,3] 2 (ay.Zn r1 ⟨#[]⟩)) <|
 .rt [1,3] 2 (r1)
def L8 (r0:aH) (r1:ay) : Mo (ay) :=
 .iB (r0.jI) (.rt [1,3] 2 (ay.WV r1 0)) <|
 .rt [1,3] 2 (r1)
def L9 (r0:aH) (r1:ay) : Mo (ay) :=
 .iB (r0.iW) (.ret ⟨[.norm 0],[1,3],[],2⟩ (ay.Tq r1 [])) <|
 .rt [1,3] 2 (r1)
def Ak (r0:aH) (r1:ay) : Mo (ay) :=
 .iB (r0.iY) (.ret ⟨[.norm 0],[1],[],2⟩ (ay.Tt r1 [])) <|
 .rt [1] 2 (r1)
def Js (r0:aH) (r1:ay) : Option (ay) := Mo.den (Ak r0 r1)
def oV  (r_:ay) : St := ⟨[(1,.ptr 0 0)],[.box 52 (.dat (ay.lf1 r_)),.dead]⟩
theorem Mc {r0:aH} {r1:ay} {r_:ay} (h:Js r0 r1 = some r_) : jq Tryz.f94 0 [1,1,1,1,1,1,1,1,1,1,1,1,0,1] (.normal) (oV r_) ⟨[(1,.ptr 0 0),(44,.b_ r0.iY)],[.box 52 (.dat (ay.lf1 r1)),.dead]⟩ :=
 jw fJ (Ak r0 r1) (fun _=>.normal) oV (by kernel_rfl) h
def Y2 (p_w:ay) : Mo (Bool) :=
 .cl (Jr p_w.bT) fun r0 _ =>
 .jp Tryz.f94 0 [1,1,1,0,1] 1 [1,3,9] 2 (.normal) (fun r_=>⟨[(1,.ptr 0 0),(3,.ptr 1 0)],[.box 52 (.dat (ay.lf1 r_)),.box 127 (.agg ((aH.lf1 r0).map AV.lf))]⟩) ⟨[(1,.ptr 0 0),(3,.ptr 1 0),(9,.b_ r0.jH)],[.box 52 (.dat (ay.lf1 (ay.dX p_w 0))),.box 127 (.agg ((aH.lf1 r0).map AV.lf))]⟩ (Qy p_w r0).den (jW (by kernel_rfl)) fun r1 _ =>
 .jp Tryz.f94 0 [1,1,1,1,0,1] 1 [1,3,12] 2 (.normal) (fun r_=>⟨[(1,.ptr 0 0),(3,.ptr 1 0)],[.box 52 (.dat (ay.lf1 r_)),.box 127 (.agg ((aH.lf1 r0).map AV.lf))]⟩) ⟨[(1,.ptr 0 0),(3,.ptr 1 0),(12,.b_ r0.tJ)],[.box 52 (.dat (ay.lf1 r1)),.box 127 (.agg ((aH.lf1 r0).map AV.lf))]⟩ (Qz r0 r1).den (jW (by kernel_rfl)) fun r2 _ =>
 .jp Tryz.f94 0 [1,1,1,1,1,0,1] 1 [1,3,19] 2 (.normal) (fun r_=>⟨[(1,.ptr 0 0),(3,.ptr 1 0)],[.box 52 (.dat (ay.lf1 r_)),.box 127 (.agg ((aH.lf1 r0).map AV.lf))]⟩) ⟨[(1,.ptr 0 0),(3,.ptr 1 0),(19,.b_ r0.vH)],[.box 52 (.dat (ay.lf1 r2)),.box 127 (.agg ((aH.lf1 r0).map AV.lf))]⟩ (LW r0 r2).den (jW (by kernel_rfl)) fun r3 _ =>
 .jp Tryz.f94 0 [1,1,1,1,1,1,0,1] 1 [1,3,23] 2 (.normal) (fun r_=>⟨[(1,.ptr 0 0),(3,.ptr 1 0)],[.box 52 (.dat (ay.lf1 r_)),.box 127 (.agg ((aH.lf1 r0).map AV.lf))]⟩) ⟨[(1,.ptr 0 0),(3,.ptr 1 0),(23,.b_ r0.vI)],[.box 52 (.dat (ay.lf1 r3)),.box 127 (.agg ((aH.lf1 r0).map AV.lf))]⟩ (LX r0 r3).den (jW (by kernel_rfl)) fun r4 _ =>
 .jp Tryz.f94 0 [1,1,1,1,1,1,1,0,1] 1 [1,3,27] 2 (.normal) (fun r_=>⟨[(1,.ptr 0 0),(3,.ptr 1 0)],[.box 52 (.dat (ay.lf1 r_)),.box 127 (.agg ((aH.lf1 r0).map AV.lf))]⟩) ⟨[(1,.ptr 0 0),(3,.ptr 1 0),(27,.b_ r0.jU)],[.box 52 (.dat (ay.lf1 r4)),.box 127 (.agg ((aH.lf1 r0).map AV.lf))]⟩ (LY r0 r4).den (jW (by kernel_rfl)) fun r5 _ =>
 .jp Tryz.f94 0 [1,1,1,1,1,1,1,1,0,1] 1 [1,3,31] 2 (.normal) (fun r_=>⟨[(1,.ptr 0 0),(3,.ptr 1 0)],[.box 52 (.dat (ay.lf1 r_)),.box 127 (.agg ((aH.lf1 r0).map AV.lf))]⟩) ⟨[(1,.ptr 0 0),(3,.ptr 1 0),(31,.b_ r0.fF)],[.box 52 (.dat (ay.lf1 r5)),.box 127 (.agg ((aH.lf1 r0).map AV.lf))]⟩ (LZ r0 r5).den (jW (by kernel_rfl)) fun r6 _ =>
 .jp Tryz.f94 0 [1,1,1,1,1,1,1,1,1,0,1] 1 [1,3,35] 2 (.normal) (fun r_=>⟨[(1,.ptr 0 0),(3,.ptr 1 0)],[.box 52 (.dat (ay.lf1 r_)),.box 127 (.agg ((aH.lf1 r0).map AV.lf))]⟩) ⟨[(1,.ptr 0 0),(3,.ptr 1 0),(35,.b_ r0.tN)],[.box 52 (.dat (ay.lf1 r6)),.box 127 (.agg ((aH.lf1 r0).map AV.lf))]⟩ (L6 r0 r6).den (jW (by kernel_rfl)) fun r7 _ =>
 .jp Tryz.f94 0 [1,1,1,1,1,1,1,1,1,1,0,1] 1 [1,3,38] 2 (.normal) (fun r_=>⟨[(1,.ptr 0 0),(3,.ptr 1 0)],[.box 52 (.dat (ay.lf1 r_)),.box 127 (.agg ((aH.lf1 r0).map AV.lf))]⟩) ⟨[(1,.ptr 0 0),(3,.ptr 1 0),(38,.b_ r0.jI)],[.box 52 (.dat (ay.lf1 r7)),.box 127 (.agg ((aH.lf1 r0).map AV.lf))]⟩ (L8 r0 r7).den (jW (by kernel_rfl)) fun r8 _ =>
 .jp Tryz.f94 0 [1,1,1,1,1,1,1,1,1,1,1,0,1] 1 [1,3,41] 2 (.normal) (fun r_=>⟨[(1,.ptr 0 0),(3,.ptr 1 0)],[.box 52 (.dat (ay.lf1 r_)),.box 127 (.agg ((aH.lf1 r0).map AV.lf))]⟩) ⟨[(1,.ptr 0 0),(3,.ptr 1 0),(41,.b_ r0.iW)],[.box 52 (.dat (ay.lf1 r8)),.box 127 (.agg ((aH.lf1 r0).map AV.lf))]⟩ (L9 r0 r8).den (jW (by kernel_rfl)) fun r9 _ =>
 .ask (Js r0 r9) fun r10 h0 =>
 .say [.part [.kill 1] 1 [1,44] 2 (.normal) (oV r10).T (oV r10).H] (ok1 (Mc h0)) <|
 .cl (XZ r10) fun r11 _ =>
 .ret (cZ 1) (r11)
def Q13 (p_w:ay) : Option (Bool) := Mo.den (Y2 p_w)
theorem X0 (p_w:ay) : FV (Q13 p_w) 94 [.dat (ay.lf1 p_w)] (fun r=>.b_ r) := eG Tryz.func94 (by kernel_rfl) (fun _=>rfl) (by kernel_rfl)
structure kH where
 m1:(p_w:ay) → (p_least:Int) → (p_greatest:Int) → Option (Int)
 ok1:∀ p_w p_least p_greatest,FV (m1 p_w p_least p_greatest) 71 [.dat (ay.lf1 p_w),.i_ p_least,.i_ p_greatest] (fun r=>.i_ r)
def UD (R_:kH) (p_greatest:Int) (p_least:Int) (p_w:ay) (r0:aH) : Mo (Bool) :=
 .iG 6004 (decide ((p_w.bT:Int) < p_least)) (.rt [2,3,7,24] 2 (true)) <|
 .rt [2,3,7,24] 2 (decide ((p_greatest:Int) < p_w.bT))
def UE (R_:kH) (p_greatest:Int) (p_w:ay) (r0:aH) (r1:Bool) : Mo (Bool) :=
 .iG 6010 (r1) (.rt [2,3,7,29] 2 (true)) <|
 .cl (X0 p_w) fun r2 _ =>
 .rt [2,3,7,29] 2 (!r2)
def QA (R_:kH) (p_greatest:Int) (p_w:ay) (r0:aH) (r1:Bool) : Mo (Bool) :=
 .iG 6015 (r1) (.rt [2,3,7,39] 2 (true)) <|
 .ite (r0.iW) (fun c0 =>
 .say [.gd 6018 true,.num p_w.dH.length] (okc c0 (ok1 (ln_ p_w.dH ay.lf))) <|
 .rt [2,3,7,39] 2 ((p_w.dH.length:Int) == 0)) fun c0 =>
 .say [.gd 6018 false] (ok1 c0) <|
 .rt [2,3,7,39] 2 (false)
def QB (R_:kH) (p_greatest:Int) (p_w:ay) (r0:aH) : Mo (Unit) :=
 .say [.gd 14002 false] ok0 <|
 .ite (r0.jH) (fun c0 =>
 .stop) fun c0 =>
 .say [] (ok1 c0) <|
 .rt [2,3,7,51] 2 ()
def QC (R_:kH) (p_greatest:Int) (p_w:ay) (r0:aH) : Mo (Unit) :=
 .say [.gd 14011 false] ok0 <|
 .ite (r0.tN) (fun c0 =>
 .stop) fun c0 =>
 .say [] (ok1 c0) <|
 .rt [2,3,7,61] 2 ()
def EJ (R_:kH) (p_greatest:Int) (p_w:ay) (r0:aH) : Mo (Unit) :=
 .say [.gd 14021 false] ok0 <|
 .ite (r0.fF) (fun c0 =>
 .stop) fun c0 =>
 .say [] (ok1 c0) <|
 .rt [2,3,7,72] 2 ()
def QD (R_:kH) (p_greatest:Int) (p_w:ay) (r0:aH) : Option (Unit) := Mo.den (EJ R_ p_greatest p_w r0)
def yu (p_greatest:Int) (p_w:ay) (r0:aH) (r_:Unit) : St := ⟨[(2,.i_ p_greatest),(3,.ptr 0 0),(7,.ptr 1 0),(72,.b_ false)],[.box 52 (.dat (ay.lf1 p_w)),.box 127 (.agg ((aH.lf1 r0).map AV.lf))]⟩
theorem QE {R_:kH} {p_greatest:Int} {p_w:ay} {r0:aH} {r_:Unit} (h:QD R_ p_greatest p_w r0 = some r_) : DJ Tryz.f71 0 [1,1,1,1,0,0] [18,19,20,21,22,23,24,25,26,27,28] (yu p_greatest p_w r0 r_) ⟨[(2,.i_ p_greatest),(3,.ptr 0 0),(7,.ptr 1 0),(61,.b_ false)],[.box 52 (.dat (ay.lf1 p_w)),.box 127 (.agg ((aH.lf1 r0).map AV.lf))]⟩ :=
 I8 fJ (EJ R_ p_greatest p_w r0) (yu p_greatest p_w r0) (by kernel_rfl) h
def QF (R_:kH) (p_greatest:Int) (p_w:ay) (r0:aH) : Mo (Unit) :=
 .say [.gd 18002 false] ok0 <|
 .ite (r0.jI) (fun c0 =>
 .stop) fun c0 =>
 .say [] (ok1 c0) <|
 .rt [2,3,7,79] 2 ()
def EK (R_:kH) (p_greatest:Int) (p_w:ay) (r0:aH) : Mo (Unit) :=
 .say [.gd 18010 false] ok0 <|
 .ite (r0.iY) (fun c0 =>
 .stop) fun c0 =>
 .say [] (ok1 c0) <|
 .rt [2,3,7,89] 2 ()
def QG (R_:kH) (p_greatest:Int) (p_w:ay) (r0:aH) : Option (Unit) := Mo.den (EK R_ p_greatest p_w r0)
def yw (p_greatest:Int) (p_w:ay) (r0:aH) (r_:Unit) : St := ⟨[(2,.i_ p_greatest),(3,.ptr 0 0),(7,.ptr 1 0),(89,.b_ false)],[.box 52 (.dat (ay.lf1 p_w)),.box 127 (.agg ((aH.lf1 r0).map AV.lf))]⟩
theorem QH {R_:kH} {p_greatest:Int} {p_w:ay} {r0:aH} {r_:Unit} (h:QG R_ p_greatest p_w r0 = some r_) : DJ Tryz.f71 0 [1,1,1,1,1,0,0] [7,8,9,10,11,12,13,14,15,16] (yw p_greatest p_w r0 r_) ⟨[(2,.i_ p_greatest),(3,.ptr 0 0),(7,.ptr 1 0),(79,.b_ false)],[.box 52 (.dat (ay.lf1 p_w)),.box 127 (.agg ((aH.lf1 r0).map AV.lf))]⟩ :=
 I8 fJ (EK R_ p_greatest p_w r0) (yw p_greatest p_w r0) (by kernel_rfl) h
def EL (R_:kH) (p_greatest:Int) (p_w:ay) : Mo (Int) :=
 .say [.br false,.br false] ok0 <|
 .ite (p_w.bT == 4) (fun c0 =>
 .stop) fun c0 =>
 .say [] (ok1 c0) <|
 .ite (p_w.bT == 6) (fun c1 =>
 .stop) fun c1 =>
 .say [] (ok1 c1) <|
 .iB (p_w.bT == 8) (.rt [2,3] 2 (7)) <|
 .iB (p_w.bT == 9) (.rt [2,3] 2 (3)) <|
 .rt [2,3] 2 (p_greatest)
def QI (R_:kH) (p_greatest:Int) (p_w:ay) : Option (Int) := Mo.den (EL R_ p_greatest p_w)
def qY (p_w:ay) (r_:Int) : St := ⟨[(2,.i_ r_),(3,.ptr 0 0)],[.box 52 (.dat (ay.lf1 p_w)),.dead]⟩
theorem QJ {R_:kH} {p_greatest:Int} {p_w:ay} {r_:Int} (h:QI R_ p_greatest p_w = some r_) : jq Tryz.f71 0 [1,1,1,1,1,1,1,0,1] (.normal) (qY p_w r_) ⟨[(2,.i_ p_greatest),(3,.ptr 0 0),(98,.i_ p_w.bT)],[.box 52 (.dat (ay.lf1 p_w)),.dead]⟩ :=
 jw fJ (EL R_ p_greatest p_w) (fun _=>.normal) (qY p_w) (by kernel_rfl) h
def EM (R_:kH) (p_w:ay) (r0:Int) : (Int) → Mo ((Int) ⊕ (Int) ⊕ Unit) := fun (v0) =>
 .iB (decide ((v0:Int) < (p_w.dH.length:Int))) (.ask (cO p_w.dH v0) fun x0 h0 =>
 .say [.row (ay.lf1 x0)] (ok1 (bf ay.aT h0)) <|
 .cl (R_.ok1 x0 2 r0) fun r1 _ =>
 .iB (r1 != 0) (.rt [6] 2 (.inr (.inl (r1)))) <|
 .rt [2,114,115,116] 2 (.inl (IntKind.wrap .i64 (v0 + 1)))) <|
 .rt [] 2 (.inr (.inr (())))
def QK (R_:kH) (p_w:ay) (r0:Int) (v0:Int) : Option ((Int) ⊕ Unit) := dF (fun v_=>(EM R_ p_w r0 v_).den) FU (v0)
def EN (R_:kH) (p_w:ay) (r0:Int) : (Int) → St := fun (v0)=>⟨[(2,.i_ r0),(114,.lf (.rows 78 (p_w.dH.map ay.lf))),(115,.i_ (p_w.dH.length:Int)),(116,.i_ v0)],[.dead,.dead]⟩
def qZ (r_:(Int) ⊕ Unit) : Exit := match r_ with
 | .inl o_=>.ret
 | .inr (o_)=>.exit 1
def lC  (r_:(Int) ⊕ Unit) : St := match r_ with
 | .inl o_=>⟨[(6,.i_ o_)],[.dead,.dead]⟩
 | .inr (o_)=>⟨[],[.dead,.dead]⟩
theorem EO {R_:kH} {p_w:ay} {r0:Int} {v0:Int} {r_:(Int) ⊕ Unit} (h:QK R_ p_w r0 v0 = some r_) : jq Tryz.f71 0 [1,1,1,1,1,1,1,1,0,1,0] (qZ r_) (lC r_) (EN R_ p_w r0 (v0)) :=
 jo fJ (body := (Code.sub (bodyC Tryz.f71) [1,1,1,1,1,1,1,1,0,1,0,0])) (by kernel_rfl) (EM R_ p_w r0) (EN R_ p_w r0) qZ lC (fun r_=>by rcases r_ with _ | _ <;> rfl) (fun v_=>by kernel_rfl) h
def Y3 (R_:kH) (p_w:ay) (p_least:Int) (p_greatest:Int) : Mo (Int) :=
 .cl (Jr p_w.bT) fun r0 _ =>
 .sj Tryz.f71 0 [1,1,0,0] [0,1,2,3,4,5,6,7,8,9] 2 10 [1,2,3,7] 2 (fun r_=>⟨[(2,.i_ p_greatest),(3,.ptr 0 0),(7,.ptr 1 0),(24,.b_ r_)],[.box 52 (.dat (ay.lf1 p_w)),.box 127 (.agg ((aH.lf1 r0).map AV.lf))]⟩) ⟨[(1,.i_ p_least),(2,.i_ p_greatest),(3,.ptr 0 0),(7,.ptr 1 0)],[.box 52 (.dat (ay.lf1 p_w)),.box 127 (.agg ((aH.lf1 r0).map AV.lf))]⟩ (UD R_ p_greatest p_least p_w r0).den (sW (by kernel_rfl)) fun r1 _ =>
 .sj Tryz.f71 0 [1,1,0,0] [10,11,12,13,14] 2 5 [2,3,7,24] 2 (fun r_=>⟨[(2,.i_ p_greatest),(3,.ptr 0 0),(7,.ptr 1 0),(29,.b_ r_)],[.box 52 (.dat (ay.lf1 p_w)),.box 127 (.agg ((aH.lf1 r0).map AV.lf))]⟩) ⟨[(2,.i_ p_greatest),(3,.ptr 0 0),(7,.ptr 1 0),(24,.b_ r1)],[.box 52 (.dat (ay.lf1 p_w)),.box 127 (.agg ((aH.lf1 r0).map AV.lf))]⟩ (UE R_ p_greatest p_w r0 r1).den (sW (by kernel_rfl)) fun r2 _ =>
 .sj Tryz.f71 0 [1,1,0,0] [15,16,17,18,19,20,21,22,23,24] 2 10 [2,3,7,29] 2 (fun r_=>⟨[(2,.i_ p_greatest),(3,.ptr 0 0),(7,.ptr 1 0),(39,.b_ r_)],[.box 52 (.dat (ay.lf1 p_w)),.box 127 (.agg ((aH.lf1 r0).map AV.lf))]⟩) ⟨[(2,.i_ p_greatest),(3,.ptr 0 0),(7,.ptr 1 0),(29,.b_ r2)],[.box 52 (.dat (ay.lf1 p_w)),.box 127 (.agg ((aH.lf1 r0).map AV.lf))]⟩ (QA R_ p_greatest p_w r0 r2).den (sW (by kernel_rfl)) fun r3 _ =>
 .ite (r3) (fun c0 =>
 .say [.br true] (ok1 c0) <|
 .ret (cZ 1) (11)) fun c0 =>
 .say [.br false,.num p_w.dH.length] (okc c0 (ok1 (ln_ p_w.dH ay.lf))) <|
 .iB (decide ((256:Int) < (p_w.dH.length:Int))) (.ret (cZ 1) (2)) <|
 .sj Tryz.f71 0 [1,1,1,1,0,0] [0,1,2,3,4,5,6,7] 6 8 [2,3,7] 2 (fun r_=>⟨[(2,.i_ p_greatest),(3,.ptr 0 0),(7,.ptr 1 0),(51,.b_ false)],[.box 52 (.dat (ay.lf1 p_w)),.box 127 (.agg ((aH.lf1 r0).map AV.lf))]⟩) ⟨[(2,.i_ p_greatest),(3,.ptr 0 0),(7,.ptr 1 0)],[.box 52 (.dat (ay.lf1 p_w)),.box 127 (.agg ((aH.lf1 r0).map AV.lf))]⟩ (QB R_ p_greatest p_w r0).den (sW (by kernel_rfl)) fun r4 _ =>
 .sj Tryz.f71 0 [1,1,1,1,0,0] [8,9,10,11,12,13,14,15,16,17] 6 10 [2,3,7,51] 2 (fun r_=>⟨[(2,.i_ p_greatest),(3,.ptr 0 0),(7,.ptr 1 0),(61,.b_ false)],[.box 52 (.dat (ay.lf1 p_w)),.box 127 (.agg ((aH.lf1 r0).map AV.lf))]⟩) ⟨[(2,.i_ p_greatest),(3,.ptr 0 0),(7,.ptr 1 0),(51,.b_ false)],[.box 52 (.dat (ay.lf1 p_w)),.box 127 (.agg ((aH.lf1 r0).map AV.lf))]⟩ (QC R_ p_greatest p_w r0).den (sW (by kernel_rfl)) fun r5 _ =>
 .ask (QD R_ p_greatest p_w r0) fun r6 h0 =>
 .say [.sg_ 6 11 [2,3,7,61] 2 (yu p_greatest p_w r0 r6),.br false] (okc (QE h0) (ok1 (rfl:false = false))) <|
 .sj Tryz.f71 0 [1,1,1,1,1,0,0] [0,1,2,3,4,5,6] 8 7 [2,3,7] 2 (fun r_=>⟨[(2,.i_ p_greatest),(3,.ptr 0 0),(7,.ptr 1 0),(79,.b_ false)],[.box 52 (.dat (ay.lf1 p_w)),.box 127 (.agg ((aH.lf1 r0).map AV.lf))]⟩) ⟨[(2,.i_ p_greatest),(3,.ptr 0 0),(7,.ptr 1 0)],[.box 52 (.dat (ay.lf1 p_w)),.box 127 (.agg ((aH.lf1 r0).map AV.lf))]⟩ (QF R_ p_greatest p_w r0).den (sW (by kernel_rfl)) fun r7 _ =>
 .ask (QG R_ p_greatest p_w r0) fun r8 h1 =>
 .say [.sg_ 8 10 [2,3,7,79] 2 (yw p_greatest p_w r0 r8),.br false,.br false] (okc (QH h1) (ok1 (rfl:false = false))) <|
 .ite (r0.tJ) (fun c1 =>
 .stop) fun c1 =>
 .say [] (ok1 c1) <|
 .ask (QI R_ p_greatest p_w) fun r9 h2 =>
 .say [.part [.kill 1] 6 [2,3,98] 2 (.normal) (qY p_w r9).T (qY p_w r9).H,.num p_w.dH.length] (okc (QJ h2) (ok1 (ln_ p_w.dH ay.lf))) <|
 .qR (QK R_ p_w r9 0) (fun o0 h3 =>
 .say [.part [.kill 0] 0 [2,114,115,116] 2 (qZ (.inl o0)) (lC (.inl o0)).T (lC (.inl o0)).H] (ok1 (EO h3)) <|
 .ret (cZ 1) (o0)) fun o1 h3 =>
 .say [.part [.kill 0] 0 [2,114,115,116] 2 (qZ (.inr (o1))) (lC (.inr (o1))).T (lC (.inr (o1))).H] (ok1 (EO h3)) <|
 .ret (cZ 1) (0)
theorem X3 (R_:kH) (p_w:ay) (p_least:Int) (p_greatest:Int) : FV (Mo.den (Y3 R_ p_w p_least p_greatest)) 71 [.dat (ay.lf1 p_w),.i_ p_least,.i_ p_greatest] (fun r=>.i_ r) := eG Tryz.func71 (by kernel_rfl) (fun _=>rfl) (by kernel_rfl)
def BR:Nat → kH
 | 0=>{ m1 := fun p_w p_least p_greatest=>none,ok1 := fun _ _ _ _ h=>(by cases h) }
 | n_ + 1=>{ m1 := fun p_w p_least p_greatest=>Mo.den (Y3 (BR n_) p_w p_least p_greatest),ok1 := X3 (BR n_) }
def Q3 (p_w:ay) (p_least:Int) (p_greatest:Int) : Option (Int) := (BR FU).m1 p_w p_least p_greatest
theorem Y4 (p_w:ay) (p_least:Int) (p_greatest:Int) : FV (Q3 p_w p_least p_greatest) 71 [.dat (ay.lf1 p_w),.i_ p_least,.i_ p_greatest] (fun r=>.i_ r) := (BR FU).ok1 p_w p_least p_greatest
def EP (p_e:ak) : Mo (Bool) :=
 .iG 8003 (decide ((p_e.dS:Int) < 1)) (.rt [1,13] 1 (true)) <|
 .rt [1,13] 1 (decide ((1099511627776:Int) < p_e.dS))
def ER (p_e:ak) (r0:Bool) : Mo (Bool) :=
 .iG 8008 (r0) (.rt [1,18] 1 (true)) <|
 .rt [1,18] 1 (decide ((p_e.vZ:Int) < 0))
def VZ (p_e:ak) : Mo (Int) :=
 .iB (decide ((p_e.aJ:Int) < 0)) (.ret (cZ 1) (24)) <|
 .sj Tryz.f35 0 [1,1,0,0] [0,1,2,3,4,5,6,7] 3 8 [1] 1 (fun r_=>⟨[(1,.ptr 0 0),(13,.b_ r_)],[.box 54 (.dat (ak.lf1 p_e))]⟩) ⟨[(1,.ptr 0 0)],[.box 54 (.dat (ak.lf1 p_e))]⟩ (EP p_e).den (sW (by kernel_rfl)) fun r0 _ =>
 .sj Tryz.f35 0 [1,1,0,0] [8,9,10,11,12] 3 5 [1,13] 1 (fun r_=>⟨[(1,.ptr 0 0),(18,.b_ r_)],[.box 54 (.dat (ak.lf1 p_e))]⟩) ⟨[(1,.ptr 0 0),(13,.b_ r0)],[.box 54 (.dat (ak.lf1 p_e))]⟩ (ER p_e r0).den (sW (by kernel_rfl)) fun r1 _ =>
 .ite (r1) (fun c0 =>
 .say [.br true] (ok1 c0) <|
 .ret (cZ 1) (1)) fun c0 =>
 .say [.br false,.gd 12003 false,.br false] (ok1 c0) <|
 .ite (!decide ((p_e.nY:ByteArray) = (⟨#[]⟩ : ByteArray))) (fun c1 =>
 .stop) fun c1 =>
 .say [] (okc c1 (ok1 (rfl:false = false))) <|
 .cl (Y4 p_e.qm 1 12) fun r2 _ =>
 .ret (cZ 1) (r2)
def Q80 (p_e:ak) : Option (Int) := Mo.den (VZ p_e)
theorem X4 (p_e:ak) : FV (Q80 p_e) 35 [.dat (ak.lf1 p_e)] (fun r=>.i_ r) := eG Tryz.func35 (by kernel_rfl) (fun _=>rfl) (by kernel_rfl)
def ES (p_e:ak) (p_m:aj) : Mo (Bool) :=
 .say [.order [(true,0),(true,1),(true,2),(true,3),(true,4),(true,5),(true,6),(true,7),(true,8),(true,9),(true,10),(true,11),(true,12),(true,13)] none []] ok0 <|
 .iG 20002 (decide ((0:Int) < (p_m.aB.length:Int))) (.ask (cO p_m.aB (IntKind.wrap .i64 ((p_m.aB.length:Int) - 1))) fun x0 h0 =>
 .say [.row (ak.lf1 x0)] (ok1 (bf ak.aT h0)) <|
 .rt [2,3,4,40] 3 (decide ((p_e.dS:Int) ≤ x0.dS))) <|
 .rt [2,3,4,40] 3 (false)
def yx (r0:aj) (r1:List ak) : Mo (Bool) :=
 .ite (decide ((0:Int) ≤ r0.fID)) (fun c0 =>
 .say [.gd 32003 true,.num r0.aS.length] (okc c0 (ok1 (ln_ r0.aS lfI))) <|
 .rt [2,4,66] 9 (decide ((r0.fID:Int) < (r0.aS.length:Int)))) fun c0 =>
 .say [.gd 32003 false] (ok1 c0) <|
 .rt [2,4,66] 9 (false)
def HY (r0:aj) (r1:List ak) : Option (Bool) := Mo.den (yx r0 r1)
def ru (r0:aj) (r1:List ak) (r_:Bool) : St := ⟨[(2,.ptr 0 0),(4,.ptr 2 0),(66,.b_ r_)],[.box 25 (ag_ (aj.lf1 r0) [(8,.own 7),(10,.own 4),(11,.own 5)]),.dead,.box 25 (Z25),.dead,.row 3 1 (r0.fNext.map lfI),.row 3 1 (r0.aS.map lfI),.dead,.row 54 82 ((r0.aB ++ r1).map ak.lf),.dead]⟩
theorem QL {r0:aj} {r1:List ak} {r_:Bool} (h:HY r0 r1 = some r_) : jq Tryz.f12 0 [1,1,1,1,1,1,1,1,0,0] (.normal) (ru r0 r1 r_) ⟨[(2,.ptr 0 0),(4,.ptr 2 0)],[.box 25 (ag_ (aj.lf1 r0) [(8,.own 7),(10,.own 4),(11,.own 5)]),.dead,.box 25 (Z25),.dead,.row 3 1 (r0.fNext.map lfI),.row 3 1 (r0.aS.map lfI),.dead,.row 54 82 ((r0.aB ++ r1).map ak.lf),.dead]⟩ :=
 jw fJ (yx r0 r1) (fun _=>.normal) (ru r0 r1) (by kernel_rfl) h
def Am (r0:aj) (r1:List ak) (r2:Bool) : Mo (((List Int))) :=
 .ite (r2) (fun c0 =>
 .say [.br true,.num (r0.aB ++ r1).length] (okc c0 (ok1 (ln_ (r0.aB ++ r1) ak.lf))) <|
 .ask (cO r0.aS r0.fID) fun x0 h0 =>
 .say [.row (lfI x0),.rows ((r0.aS.set r0.fID.toNat ((r0.aB ++ r1).length:Int)).map lfI)] (okc (bM lI_ h0) (okc (st_ lI_ r0.aS r0.fID.toNat ((r0.aB ++ r1).length:Int)) (ok1 ((bf lI_ h0).2)))) <|
 .rt [2,4] 9 (r0.aS.set r0.fID.toNat ((r0.aB ++ r1).length:Int))) fun c0 =>
 .say [.br false] (ok1 c0) <|
 .rt [2,4] 9 (r0.aS)
def V3 (p_m:aj) (p_e:ak) : Mo (aj × Int) :=
 .iB (p_m.bQ != 2) (.ret (cZ 2) (aj.z,25)) <|
 .cl (X4 p_e) fun r0 _ =>
 .iB (r0 != 0) (.ret (cZ 2) (aj.z,r0)) <|
 .ite (p_e.aJ != p_m.aJ) (fun c0 =>
 .say [.br true] (ok1 c0) <|
 .ret (cZ 2) (aj.z,24)) fun c0 =>
 .say [.br false,.num p_m.aB.length] (okc c0 (ok1 (ln_ p_m.aB ak.lf))) <|
 .jp Tryz.f12 0 [1,1,1,1,0,1,0] 25 [2,3,4,7] 3 (.normal) (fun r_=>⟨[(2,.ptr 0 0),(3,.ptr 1 0),(4,.ptr 2 0),(40,.b_ r_)],[.box 25 (.dat (aj.lf1 p_m)),.box 54 (.dat (ak.lf1 p_e)),.box 25 (Z25)]⟩) ⟨[(2,.ptr 0 0),(3,.ptr 1 0),(4,.ptr 2 0),(7,.i_ (p_m.aB.length:Int))],[.box 25 (.dat (aj.lf1 p_m)),.box 54 (.dat (ak.lf1 p_e)),.box 25 (Z25)]⟩ (ES p_e p_m).den (jW (by kernel_rfl)) fun r1 _ =>
 .ite (r1) (fun c1 =>
 .say [.br true] (ok1 c1) <|
 .ret (cZ 2) (aj.z,23)) fun c1 =>
 .say [.br false,.num p_m.aB.length] (okc c1 (ok1 (ln_ p_m.aB ak.lf))) <|
 .iB (decide ((16384:Int) ≤ (p_m.aB.length:Int))) (.ret (cZ 2) (aj.z,2)) <|
 .ask (Q38 p_m) fun r2 h0 =>
 .say [.iU [] (ag_ (aj.lf1 r2) [(8,.own 0),(10,.own 1),(11,.own 2)]) [.row 54 82 (r2.aB.map ak.lf),.row 3 1 (r2.fNext.map lfI),.row 3 1 (r2.aS.map lfI)]] (okc (mg _ _ h0) (ok1 (by simp [ak.aT] : [p_e].map ak.lf = [(ak.lf1 p_e)]))) <|
 .ask (Q42 [p_e]) fun r3 h1 =>
 .say [.fQ (.q 0 (.q 2 (.alt 1 (.l 3 (.l 4 (.l 5 (.q 6 (.l 7 .fin))))) (.l 3 (.alt 1 (.l 4 (.l 5 (.q 6 (.l 7 .fin)))) (.l 4 (.l 1 (.l 5 (.q 6 (.l 7 .fin)))))))))) (some 7) [3,6,7] [.both [.at_ 30 1,.resv 2,.slot 6,.at_ 30 4,.Gg 6 ([p_e].map ak.lf),.iU [] (.own 0) [.row 54 82 (r3.map ak.lf)],.rows ((r2.aB ++ r3).map ak.lf),.slot 7] [.at_ 30 3,.resv 2,.slot 6,.both [.at_ 30 4,.Gg 6 ([p_e].map ak.lf),.iU [] (.own 0) [.row 54 82 (r3.map ak.lf)],.rows ((r2.aB ++ r3).map ak.lf),.slot 7] [.at_ 30 4,.Gg 6 ([p_e].map ak.lf),.iU [] (.own 0) [.row 54 82 (r3.map ak.lf)],.rows ((r2.aB ++ r3).map ak.lf),.slot 7]]] [2,4] 9 [(2,.ptr 0 0),(4,.ptr 2 0)] [.box 25 (ag_ (aj.lf1 r2) [(8,.own 7),(10,.own 4),(11,.own 5)]),.box 54 (.dat (ak.lf1 p_e)),.box 25 (Z25),.dead,.row 3 1 (r2.fNext.map lfI),.row 3 1 (r2.aS.map lfI),.dead,.row 54 82 ((r2.aB ++ r3).map ak.lf),.row 54 82 (r3.map ak.lf)]] (okc (um _ _ h1) (ok1 (by simp [ak.aT] : (r2.aB ++ r3).map ak.lf = (r2.aB.map ak.lf) ++ (r3.map ak.lf)))) <|
 .grd ((r2.aB.length + r3.length) * 1208 ≤ 140737488355328) fun h2 =>
 .say [] (okc (by simpa using h2:((r2.aB.map ak.lf).length + (r3.map ak.lf).length) * 1208 ≤ 140737488355328) (okc (rf_ ⟨[(2,.ptr 0 0),(4,.ptr 2 0)],[.box 25 (ag_ (aj.lf1 r2) [(8,.own 7),(10,.own 4),(11,.own 5)]),.box 54 (.dat (ak.lf1 p_e)),.box 25 (Z25),.dead,.row 3 1 (r2.fNext.map lfI),.row 3 1 (r2.aS.map lfI),.dead,.row 54 82 ((r2.aB ++ r3).map ak.lf),.row 54 82 (r3.map ak.lf)]⟩) (okc (by simp [ak.aT] : [p_e].map ak.lf = [(ak.lf1 p_e)]) (okc (um _ _ h1) (okc (by simp [ak.aT] : (r2.aB ++ r3).map ak.lf = (r2.aB.map ak.lf) ++ (r3.map ak.lf)) (okc (by simpa using h2:((r2.aB.map ak.lf).length + (r3.map ak.lf).length) * 1208 ≤ 140737488355328) (okc (rf_ ⟨[(2,.ptr 0 0),(4,.ptr 2 0)],[.box 25 (ag_ (aj.lf1 r2) [(8,.own 7),(10,.own 4),(11,.own 5)]),.box 54 (.dat (ak.lf1 p_e)),.box 25 (Z25),.dead,.row 3 1 (r2.fNext.map lfI),.row 3 1 (r2.aS.map lfI),.dead,.row 54 82 ((r2.aB ++ r3).map ak.lf),.row 54 82 (r3.map ak.lf)]⟩) (okc (by simp [ak.aT] : [p_e].map ak.lf = [(ak.lf1 p_e)]) (okc (um _ _ h1) (okc (by simp [ak.aT] : (r2.aB ++ r3).map ak.lf = (r2.aB.map ak.lf) ++ (r3.map ak.lf)) (okc (by simpa using h2:((r2.aB.map ak.lf).length + (r3.map ak.lf).length) * 1208 ≤ 140737488355328) (ok1 (rf_ ⟨[(2,.ptr 0 0),(4,.ptr 2 0)],[.box 25 (ag_ (aj.lf1 r2) [(8,.own 7),(10,.own 4),(11,.own 5)]),.box 54 (.dat (ak.lf1 p_e)),.box 25 (Z25),.dead,.row 3 1 (r2.fNext.map lfI),.row 3 1 (r2.aS.map lfI),.dead,.row 54 82 ((r2.aB ++ r3).map ak.lf),.row 54 82 (r3.map ak.lf)]⟩))))))))))))) <|
 .ask (HY r2 r3) fun r4 h3 =>
 .say [.part [.kill 1,.kill 8] 37 [2,4] 9 (.normal) (ru r2 r3 r4).T (ru r2 r3 r4).H] (ok1 (QL h3)) <|
 .jp Tryz.f12 0 [1,1,1,1,1,1,1,1,0,1] 1 [2,4,66] 9 (.normal) (fun r_=>⟨[(2,.ptr 0 0),(4,.ptr 2 0)],[.box 25 (ag_ (aj.lf1 r2) [(8,.own 7),(10,.own 4),(11,.own 5)]),.dead,.box 25 (Z25),.dead,.row 3 1 (r2.fNext.map lfI),.row 3 1 (r_.map lfI),.dead,.row 54 82 ((r2.aB ++ r3).map ak.lf),.dead]⟩) ⟨[(2,.ptr 0 0),(4,.ptr 2 0),(66,.b_ r4)],[.box 25 (ag_ (aj.lf1 r2) [(8,.own 7),(10,.own 4),(11,.own 5)]),.dead,.box 25 (Z25),.dead,.row 3 1 (r2.fNext.map lfI),.row 3 1 (r2.aS.map lfI),.dead,.row 54 82 ((r2.aB ++ r3).map ak.lf),.dead]⟩ (Am r2 r3 r4).den (jW (by kernel_rfl)) fun r5 _ =>
 .ask (Q10 (aj.l7 (aj.jY r2 (r2.aB ++ r3)) r5)) fun r6 h4 =>
 .say [.iU [7,4,5] (ag_ (aj.lf1 r6) [(8,.own 3),(10,.own 4)]) [.dead,.dead,.dead,.row 54 82 (r6.aB.map ak.lf),.row 3 1 (r6.fNext.map lfI)],.at_ 0 0,.frz 9,.frz 10] (ok1 (Qi _ _ h4)) <|
 .ret (cZ 2) (r6,0)
def Q16 (p_m:aj) (p_e:ak) : Option (aj × Int) := Mo.den (V3 p_m p_e)
theorem uy (p_m:aj) (p_e:ak) : FV (Q16 p_m p_e) 12 [.dat (aj.lf1 p_m),.dat (ak.lf1 p_e)] (fun r=>.tup [.dat (aj.lf1 r.1),.i_ r.2]) := eG Tryz.func12 (by kernel_rfl) (fun _=>rfl) (by kernel_rfl)
def ET (l0:List ah) (r0:aj) (r1:Int) (v0:Int) : Mo (((List ah))) :=
 .ite (v0 != r0.fID) (fun c0 =>
 .say [.br true] (okc c0 (ok1 (ln_ r0.aB ak.lf))) <|
 .ask (Q86 r0.aB) fun r2 h0 =>
 .say [.fQ (.q 0 (.q 1 (.q 2 (.q 3 (.q 4 (.q 5 (.q 6 (.q 7 (.q 8 (.q 9 (.q 10 (.l 11 (.q 12 (.l 13 (.l 14 (.q 15 .fin)))))))))))))))) (some 14) [6] [.num r0.aB.length,.at_ 32 11,.resv 2,.res (.i_ r2),.slot 6,.rows ((l0 ++ [ah.pJ (ah.iD (ah.gY (ah.dX (ah.sTo (ah.iH ah.z r0.fID) v0) 1) (IntKind.wrap .i64 (r0.aJ + 1))) (r0.aB.length:Int)) r2]).map ah.lf),.slot 7] [1,2,4,37,38] 8 [(1,.ptr 0 0),(2,.ptr 1 0),(4,.own 7),(37,.i_ r0.bI),(38,.i_ v0)] [.box 25 (ag_ (aj.lf1 r0) [(2,.i_ (IntKind.wrap .i64 (r0.aJ + 1))),(3,.i_ r0.fID),(4,.i_ 1),(5,.i_ (-1)),(6,.i_ r1),(7,.i_ (jf .i64 1 r0.fID)),(10,.bJ 1),(11,.bJ 1)]),.box 25 (Z25),.dead,.dead,.dead,.dead,.row 63 9 [(ah.lf1 (ah.pJ (ah.iD (ah.gY (ah.dX (ah.sTo (ah.iH ah.z r0.fID) v0) 1) (IntKind.wrap .i64 (r0.aJ + 1))) (r0.aB.length:Int)) r2))],.row 63 9 ((l0 ++ [ah.pJ (ah.iD (ah.gY (ah.dX (ah.sTo (ah.iH ah.z r0.fID) v0) 1) (IntKind.wrap .i64 (r0.aJ + 1))) (r0.aB.length:Int)) r2]).map ah.lf)]] (okc (OX _ _ h0) (ok1 (by simp [ah.aT] : (l0 ++ [ah.pJ (ah.iD (ah.gY (ah.dX (ah.sTo (ah.iH ah.z r0.fID) v0) 1) (IntKind.wrap .i64 (r0.aJ + 1))) (r0.aB.length:Int)) r2]).map ah.lf = (l0.map ah.lf) ++ [(ah.lf1 (ah.pJ (ah.iD (ah.gY (ah.dX (ah.sTo (ah.iH ah.z r0.fID) v0) 1) (IntKind.wrap .i64 (r0.aJ + 1))) (r0.aB.length:Int)) r2))]))) <|
 .grd ((l0.length + [ah.pJ (ah.iD (ah.gY (ah.dX (ah.sTo (ah.iH ah.z r0.fID) v0) 1) (IntKind.wrap .i64 (r0.aJ + 1))) (r0.aB.length:Int)) r2].length) * 88 ≤ 140737488355328) fun h1 =>
 .say [] (okc (cp_ ah.lf h1) (ok1 (rf_ ⟨[(1,.ptr 0 0),(2,.ptr 1 0),(4,.own 7),(37,.i_ r0.bI),(38,.i_ v0)],[.box 25 (ag_ (aj.lf1 r0) [(2,.i_ (IntKind.wrap .i64 (r0.aJ + 1))),(3,.i_ r0.fID),(4,.i_ 1),(5,.i_ (-1)),(6,.i_ r1),(7,.i_ (jf .i64 1 r0.fID)),(10,.bJ 1),(11,.bJ 1)]),.box 25 (Z25),.dead,.dead,.dead,.dead,.row 63 9 [(ah.lf1 (ah.pJ (ah.iD (ah.gY (ah.dX (ah.sTo (ah.iH ah.z r0.fID) v0) 1) (IntKind.wrap .i64 (r0.aJ + 1))) (r0.aB.length:Int)) r2))],.row 63 9 ((l0 ++ [ah.pJ (ah.iD (ah.gY (ah.dX (ah.sTo (ah.iH ah.z r0.fID) v0) 1) (IntKind.wrap .i64 (r0.aJ + 1))) (r0.aB.length:Int)) r2]).map ah.lf)]⟩))) <|
 .ret ⟨[],[1,2,4,37,38],[(7,5)],6⟩ (l0 ++ [ah.pJ (ah.iD (ah.gY (ah.dX (ah.sTo (ah.iH ah.z r0.fID) v0) 1) (IntKind.wrap .i64 (r0.aJ + 1))) (r0.aB.length:Int)) r2])) fun c0 =>
 .say [.br false] (ok1 c0) <|
 .rt [1,2,4,37,38] 6 (l0)
def rC (r0:aj) (r1:Int) : (Int × (List ah)) → Mo ((Int × (List ah)) ⊕ ((List ah))) := fun (v0,l0) =>
 .iB (decide ((v0:Int) < r0.bI)) (.jp Tryz.f51 0 [1,1,1,1,1,1,1,1,1,0,1,0,0,1,1,0] 8 [1,2,4,37,38] 6 (.normal) (fun r_=>⟨[(1,.ptr 0 0),(2,.ptr 1 0),(4,.own 5),(37,.i_ r0.bI),(38,.i_ v0)],[.box 25 (ag_ (aj.lf1 r0) [(2,.i_ (IntKind.wrap .i64 (r0.aJ + 1))),(3,.i_ r0.fID),(4,.i_ 1),(5,.i_ (-1)),(6,.i_ r1),(7,.i_ (jf .i64 1 r0.fID)),(10,.bJ 1),(11,.bJ 1)]),.box 25 (Z25),.dead,.dead,.dead,.row 63 9 (r_.map ah.lf)]⟩) ⟨[(1,.ptr 0 0),(2,.ptr 1 0),(4,.own 5),(37,.i_ r0.bI),(38,.i_ v0)],[.box 25 (ag_ (aj.lf1 r0) [(2,.i_ (IntKind.wrap .i64 (r0.aJ + 1))),(3,.i_ r0.fID),(4,.i_ 1),(5,.i_ (-1)),(6,.i_ r1),(7,.i_ (jf .i64 1 r0.fID)),(10,.bJ 1),(11,.bJ 1)]),.box 25 (Z25),.dead,.dead,.dead,.row 63 9 (l0.map ah.lf)]⟩ (ET l0 r0 r1 v0).den (jW (by kernel_rfl)) fun r2 _ =>
 .rt [1,2,4,37,38] 6 (.inl (IntKind.wrap .i64 (v0 + 1),r2))) <|
 .rt [1,2,4] 6 (.inr (l0))
def H6 (r0:aj) (r1:Int) (v0:Int) (l0:List ah) : Option (((List ah))) := dF (fun v_=>(rC r0 r1 v_).den) FU (v0,l0)
def EU (r0:aj) (r1:Int) : (Int × (List ah)) → St := fun (v0,l0)=>⟨[(1,.ptr 0 0),(2,.ptr 1 0),(4,.own 5),(37,.i_ r0.bI),(38,.i_ v0)],[.box 25 (ag_ (aj.lf1 r0) [(2,.i_ (IntKind.wrap .i64 (r0.aJ + 1))),(3,.i_ r0.fID),(4,.i_ 1),(5,.i_ (-1)),(6,.i_ r1),(7,.i_ (jf .i64 1 r0.fID)),(10,.bJ 1),(11,.bJ 1)]),.box 25 (Z25),.dead,.dead,.dead,.row 63 9 (l0.map ah.lf)]⟩
def rD (r0:aj) (r1:Int) (r_:((List ah))) : St := ⟨[(1,.ptr 0 0),(2,.ptr 1 0),(4,.own 5)],[.box 25 (ag_ (aj.lf1 r0) [(2,.i_ (IntKind.wrap .i64 (r0.aJ + 1))),(3,.i_ r0.fID),(4,.i_ 1),(5,.i_ (-1)),(6,.i_ r1),(7,.i_ (jf .i64 1 r0.fID)),(10,.bJ 1),(11,.bJ 1)]),.box 25 (Z25),.dead,.dead,.dead,.row 63 9 (r_.map ah.lf)]⟩
theorem QM {r0:aj} {r1:Int} {v0:Int} {l0:List ah} {r_:((List ah))} (h:H6 r0 r1 v0 l0 = some r_) : jq Tryz.f51 0 [1,1,1,1,1,1,1,1,1,0,1,0] (.exit 0) (rD r0 r1 r_) (EU r0 r1 (v0,l0)) :=
 jo fJ (body := (Code.sub (bodyC Tryz.f51) [1,1,1,1,1,1,1,1,1,0,1,0,0])) (by kernel_rfl) (rC r0 r1) (EU r0 r1) (fun _=>.exit 0) (rD r0 r1) (fun r_=>rfl) (fun v_=>by kernel_rfl) h
def V4 (p_m:aj) : Mo (aj × List ah) :=
 .ask (Q65 p_m) fun r0 h0 =>
 .say [.iU [] (ag_ (aj.lf1 r0) [(8,.own 0),(10,.own 1),(11,.own 2)]) [.row 54 82 (r0.aB.map ak.lf),.row 3 1 (r0.fNext.map lfI),.row 3 1 (r0.aS.map lfI)],.at_ 6 1,.frz 2,.frz 3,.frz 4] (ok1 (BL _ _ h0)) <|
 .cl (OZ r0) fun r1 _ =>
 .ite (!r1) (fun c0 =>
 .say [.br true] (ok1 c0) <|
 .ret ⟨[.nil 1 9,.tod 1],[0,1],[],0⟩ (r0,[])) fun c0 =>
 .say [.br false,.fQ (.q 0 (.q 2 (.alt 1 (.l 3 (.q 4 (.q 5 (.l 6 (.q 7 (.l 8 (.q 9 (.l 10 (.q 11 (.l 12 .fin)))))))))) (.l 3 (.q 4 (.l 1 (.q 5 (.l 6 (.q 7 (.l 8 (.q 9 (.l 10 (.q 11 (.l 12 .fin)))))))))))))) (some 12) [0] [.both [] []] [1,2] 5 [(1,.ptr 0 0),(2,.ptr 1 0)] [.box 25 (ag_ (aj.lf1 r0) [(2,.i_ (IntKind.wrap .i64 (r0.aJ + 1))),(3,.i_ r0.fID),(4,.i_ 1),(5,.i_ (-1)),(7,.i_ (jf .i64 1 r0.fID))]),.box 25 (Z25),.dead,.dead,.dead]] (ok1 c0) <|
 .grd ((0:Int) ≤ r0.fID) fun h1 =>
 .say [] (okc h1 (okc (rf_ ⟨[(1,.ptr 0 0),(2,.ptr 1 0)],[.box 25 (ag_ (aj.lf1 r0) [(2,.i_ (IntKind.wrap .i64 (r0.aJ + 1))),(3,.i_ r0.fID),(4,.i_ 1),(5,.i_ (-1)),(7,.i_ (jf .i64 1 r0.fID))]),.box 25 (Z25),.dead,.dead,.dead]⟩) (okc h1 (ok1 (rf_ ⟨[(1,.ptr 0 0),(2,.ptr 1 0)],[.box 25 (ag_ (aj.lf1 r0) [(2,.i_ (IntKind.wrap .i64 (r0.aJ + 1))),(3,.i_ r0.fID),(4,.i_ 1),(5,.i_ (-1)),(7,.i_ (jf .i64 1 r0.fID))]),.box 25 (Z25),.dead,.dead,.dead]⟩))))) <|
 .cl (BM r0.fID) fun r2 _ =>
 .ite (r0.bI == 1) (fun c1 =>
 .say [.br true] (ok1 c1) <|
 .cl (O6 (aj.mk r0.fID r0.bI (IntKind.wrap .i64 (r0.aJ + 1)) r0.fID 1 (-1) r2 (jf .i64 1 r0.fID) r0.aB r0.au [] [])) fun r3 _ =>
 .ret ⟨[.nil 1 9,.tod 1],[0,1],[],0⟩ (r3,[])) fun c1 =>
 .say [.br false] (okc c1 (ok1 (by simp [ah.aT] : (([] : List ah).map ah.lf) = []))) <|
 .ask (H6 r0 r2 0 ([] : List ah)) fun r4 h2 =>
 .say [.part [.zo 4 63 9,.iZ 5 (([] : List ah).map ah.lf)] 0 [1,2,4,37,38] 6 (.exit 0) (rD r0 r2 r4).T (rD r0 r2 r4).H,.at_ 0 0,.frz 5] (ok1 (QM h2)) <|
 .ret (cZ 2) (aj.mk r0.fID r0.bI (IntKind.wrap .i64 (r0.aJ + 1)) r0.fID 1 (-1) r2 (jf .i64 1 r0.fID) r0.aB r0.au [] [],r4)
def Q18 (p_m:aj) : Option (aj × List ah) := Mo.den (V4 p_m)
theorem X5 (p_m:aj) : FV (Q18 p_m) 51 [.dat (aj.lf1 p_m)] (fun r=>.tup [.dat (aj.lf1 r.1),.lf (.rows 9 (r.2.map ah.lf))]) := eG Tryz.func51 (by kernel_rfl) (fun _=>rfl) (by kernel_rfl)
def EW (p_l:List ak) (p_n:Int) : Mo (Bool) :=
 .ite (decide ((p_n:Int) < 1)) (fun c0 =>
 .say [.gd 4002 true] (ok1 c0) <|
 .rt [0,1,12] 0 (true)) fun c0 =>
 .say [.gd 4002 false,.num p_l.length] (okc c0 (ok1 (ln_ p_l ak.lf))) <|
 .rt [0,1,12] 0 (decide (((p_l.length:Int) : Int) < p_n))
def V5 (p_l:List ak) (p_n:Int) : Mo (Int) :=
 .jp Tryz.f53 0 [1,0,0] 9 [0,1] 0 (.normal) (fun r_=>⟨[(0,.lf (.rows 82 (p_l.map ak.lf))),(1,.i_ p_n),(12,.b_ r_)],[]⟩) ⟨[(0,.lf (.rows 82 (p_l.map ak.lf))),(1,.i_ p_n)],[]⟩ (EW p_l p_n).den (jW (by kernel_rfl)) fun r0 _ =>
 .iB (r0) (.ret (cZ 1) (0)) <|
 .ask (cO p_l (IntKind.wrap .i64 (p_n - 1))) fun x0 h0 =>
 .say [.row (ak.lf1 x0)] (ok1 (bf ak.aT h0)) <|
 .ret (cZ 1) (x0.aJ)
def Q60 (p_l:List ak) (p_n:Int) : Option (Int) := Mo.den (V5 p_l p_n)
theorem X6 (p_l:List ak) (p_n:Int) : FV (Q60 p_l p_n) 53 [.lf (.rows 82 (p_l.map ak.lf)),.i_ p_n] (fun r=>.i_ r) := eG Tryz.func53 (by kernel_rfl) (fun _=>rfl) (by kernel_rfl)
def yA (l0:List ah) (p_m:aj) (v0:Int) : Mo (Bool) :=
 .ite (decide ((v0:Int) < p_m.bI)) (fun c0 =>
 .say [.gd 12004 true,.num p_m.fNext.length] (okc c0 (ok1 (ln_ p_m.fNext lfI))) <|
 .rt [1,3,4,20] 2 (decide ((v0:Int) < (p_m.fNext.length:Int)))) fun c0 =>
 .say [.gd 12004 false] (ok1 c0) <|
 .rt [1,3,4,20] 2 (false)
def EX (l0:List ah) (p_m:aj) (v0:Int) : Mo (((List ah))) :=
 .ite (v0 == p_m.fID) (fun c0 =>
 .say [.br true] (ok1 c0) <|
 .rt [1,3,4] 2 (l0)) fun c0 =>
 .say [.br false,.order [(true,0),(true,1),(true,2),(true,3),(true,4),(true,5),(true,6),(true,7),(true,8),(true,9),(true,10)] none []] (ok1 c0) <|
 .ask (cO p_m.fNext v0) fun x0 h0 =>
 .say [.row (lfI x0),.num p_m.aB.length,.num p_m.aB.length] (okc (bf lI_ h0) (okc (ln_ p_m.aB ak.lf) (ok1 (ln_ p_m.aB ak.lf)))) <|
 .ask (cO p_m.fNext v0) fun x1 h1 =>
 .say [] (ok1 (bf lI_ h1)) <|
 .ask (cO p_m.fNext v0) fun x2 h2 =>
 .say [] (okc (bf lI_ h2) (ok1 (by first | (simp [ak.aT]; done) | exact l9 _ _ _:((p_m.aB.take (if (p_m.aB.length:Int) < (IntKind.wrap .i64 ((if (if (p_m.aB.length:Int) < x0 then (p_m.aB.length:Int) else x0) > 0 then (if (p_m.aB.length:Int) < x0 then (p_m.aB.length:Int) else x0) else 0) + 16)) then (p_m.aB.length:Int) else (IntKind.wrap .i64 ((if (if (p_m.aB.length:Int) < x0 then (p_m.aB.length:Int) else x0) > 0 then (if (p_m.aB.length:Int) < x0 then (p_m.aB.length:Int) else x0) else 0) + 16))).toNat).drop (if (if (p_m.aB.length:Int) < x0 then (p_m.aB.length:Int) else x0) > 0 then (if (p_m.aB.length:Int) < x0 then (p_m.aB.length:Int) else x0) else 0).toNat).map ak.lf = ((p_m.aB.map ak.lf).take (if (p_m.aB.length:Int) < (IntKind.wrap .i64 ((if (if (p_m.aB.length:Int) < x0 then (p_m.aB.length:Int) else x0) > 0 then (if (p_m.aB.length:Int) < x0 then (p_m.aB.length:Int) else x0) else 0) + 16)) then (p_m.aB.length:Int) else (IntKind.wrap .i64 ((if (if (p_m.aB.length:Int) < x0 then (p_m.aB.length:Int) else x0) > 0 then (if (p_m.aB.length:Int) < x0 then (p_m.aB.length:Int) else x0) else 0) + 16))).toNat).drop (if (if (p_m.aB.length:Int) < x0 then (p_m.aB.length:Int) else x0) > 0 then (if (p_m.aB.length:Int) < x0 then (p_m.aB.length:Int) else x0) else 0).toNat))) <|
 .grd ((0:Int) ≤ (if (if (p_m.aB.length:Int) < x0 then (p_m.aB.length:Int) else x0) > 0 then (if (p_m.aB.length:Int) < x0 then (p_m.aB.length:Int) else x0) else 0) ∧ (if (if (p_m.aB.length:Int) < x0 then (p_m.aB.length:Int) else x0) > 0 then (if (p_m.aB.length:Int) < x0 then (p_m.aB.length:Int) else x0) else 0) ≤ (if (p_m.aB.length:Int) < (IntKind.wrap .i64 ((if (if (p_m.aB.length:Int) < x0 then (p_m.aB.length:Int) else x0) > 0 then (if (p_m.aB.length:Int) < x0 then (p_m.aB.length:Int) else x0) else 0) + 16)) then (p_m.aB.length:Int) else (IntKind.wrap .i64 ((if (if (p_m.aB.length:Int) < x0 then (p_m.aB.length:Int) else x0) > 0 then (if (p_m.aB.length:Int) < x0 then (p_m.aB.length:Int) else x0) else 0) + 16))) ∧ (if (p_m.aB.length:Int) < (IntKind.wrap .i64 ((if (if (p_m.aB.length:Int) < x0 then (p_m.aB.length:Int) else x0) > 0 then (if (p_m.aB.length:Int) < x0 then (p_m.aB.length:Int) else x0) else 0) + 16)) then (p_m.aB.length:Int) else (IntKind.wrap .i64 ((if (if (p_m.aB.length:Int) < x0 then (p_m.aB.length:Int) else x0) > 0 then (if (p_m.aB.length:Int) < x0 then (p_m.aB.length:Int) else x0) else 0) + 16))) ≤ (p_m.aB.length:Int)) fun h3 =>
 .say [] (ok1 (by simpa using h3:(0:Int) ≤ (if (if (p_m.aB.length:Int) < x0 then (p_m.aB.length:Int) else x0) > 0 then (if (p_m.aB.length:Int) < x0 then (p_m.aB.length:Int) else x0) else 0) ∧ (if (if (p_m.aB.length:Int) < x0 then (p_m.aB.length:Int) else x0) > 0 then (if (p_m.aB.length:Int) < x0 then (p_m.aB.length:Int) else x0) else 0) ≤ (if (p_m.aB.length:Int) < (IntKind.wrap .i64 ((if (if (p_m.aB.length:Int) < x0 then (p_m.aB.length:Int) else x0) > 0 then (if (p_m.aB.length:Int) < x0 then (p_m.aB.length:Int) else x0) else 0) + 16)) then (p_m.aB.length:Int) else (IntKind.wrap .i64 ((if (if (p_m.aB.length:Int) < x0 then (p_m.aB.length:Int) else x0) > 0 then (if (p_m.aB.length:Int) < x0 then (p_m.aB.length:Int) else x0) else 0) + 16))) ∧ (if (p_m.aB.length:Int) < (IntKind.wrap .i64 ((if (if (p_m.aB.length:Int) < x0 then (p_m.aB.length:Int) else x0) > 0 then (if (p_m.aB.length:Int) < x0 then (p_m.aB.length:Int) else x0) else 0) + 16)) then (p_m.aB.length:Int) else (IntKind.wrap .i64 ((if (if (p_m.aB.length:Int) < x0 then (p_m.aB.length:Int) else x0) > 0 then (if (p_m.aB.length:Int) < x0 then (p_m.aB.length:Int) else x0) else 0) + 16))) ≤ ((p_m.aB.map ak.lf).length:Int))) <|
 .ask (Q60 p_m.aB x2) fun r0 h4 =>
 .say [] (ok1 (X6 _ _ _ h4)) <|
 .ask (Q42 ((p_m.aB.take (if (p_m.aB.length:Int) < (IntKind.wrap .i64 ((if (if (p_m.aB.length:Int) < x0 then (p_m.aB.length:Int) else x0) > 0 then (if (p_m.aB.length:Int) < x0 then (p_m.aB.length:Int) else x0) else 0) + 16)) then (p_m.aB.length:Int) else (IntKind.wrap .i64 ((if (if (p_m.aB.length:Int) < x0 then (p_m.aB.length:Int) else x0) > 0 then (if (p_m.aB.length:Int) < x0 then (p_m.aB.length:Int) else x0) else 0) + 16))).toNat).drop (if (if (p_m.aB.length:Int) < x0 then (p_m.aB.length:Int) else x0) > 0 then (if (p_m.aB.length:Int) < x0 then (p_m.aB.length:Int) else x0) else 0).toNat)) fun r1 h5 =>
 .say [.fQ (.q 0 (.q 1 (.q 2 (.q 3 (.q 4 (.q 5 (.q 6 (.q 7 (.q 8 (.q 9 (.q 10 (.q 11 (.q 12 (.q 13 (.q 14 (.q 15 (.q 16 (.q 17 (.q 19 (.q 20 (.q 21 (.q 22 (.q 23 (.q 24 (.q 25 (.l 18 (.l 26 (.q 27 (.l 28 (.l 29 (.q 30 .fin))))))))))))))))))))))))))))))) (some 29) [2,4] [.row (lfI x1),.row (lfI x2),.rows (((p_m.aB.take (if (p_m.aB.length:Int) < (IntKind.wrap .i64 ((if (if (p_m.aB.length:Int) < x0 then (p_m.aB.length:Int) else x0) > 0 then (if (p_m.aB.length:Int) < x0 then (p_m.aB.length:Int) else x0) else 0) + 16)) then (p_m.aB.length:Int) else (IntKind.wrap .i64 ((if (if (p_m.aB.length:Int) < x0 then (p_m.aB.length:Int) else x0) > 0 then (if (p_m.aB.length:Int) < x0 then (p_m.aB.length:Int) else x0) else 0) + 16))).toNat).drop (if (if (p_m.aB.length:Int) < x0 then (p_m.aB.length:Int) else x0) > 0 then (if (p_m.aB.length:Int) < x0 then (p_m.aB.length:Int) else x0) else 0).toNat).map ak.lf),.at_ 22 18,.resv 2,.res (.i_ r0),.iU [] (.own 0) [.row 54 82 (r1.map ak.lf)],.at_ 22 28,.frz 4,.slot 2,.rows ((l0 ++ [ah.mk p_m.fID v0 3 p_m.aJ x1 r0 p_m.au r1 false]).map ah.lf),.slot 3] [1,3,4] 5 [(1,.ptr 0 0),(3,.own 3),(4,.i_ v0)] [.box 25 (.dat (aj.lf1 p_m)),.dead,.row 63 9 [(ah.lf1 (ah.mk p_m.fID v0 3 p_m.aJ x1 r0 p_m.au r1 false))],.row 63 9 ((l0 ++ [ah.mk p_m.fID v0 3 p_m.aJ x1 r0 p_m.au r1 false]).map ah.lf),.dead]] (okc (um _ _ h5) (ok1 (by simp [ah.aT] : (l0 ++ [ah.mk p_m.fID v0 3 p_m.aJ x1 r0 p_m.au r1 false]).map ah.lf = (l0.map ah.lf) ++ [(ah.lf1 (ah.mk p_m.fID v0 3 p_m.aJ x1 r0 p_m.au r1 false))]))) <|
 .grd ((l0.length + [ah.mk p_m.fID v0 3 p_m.aJ x1 r0 p_m.au r1 false].length) * 88 ≤ 140737488355328) fun h6 =>
 .say [] (okc (cp_ ah.lf h6) (ok1 (rf_ ⟨[(1,.ptr 0 0),(3,.own 3),(4,.i_ v0)],[.box 25 (.dat (aj.lf1 p_m)),.dead,.row 63 9 [(ah.lf1 (ah.mk p_m.fID v0 3 p_m.aJ x1 r0 p_m.au r1 false))],.row 63 9 ((l0 ++ [ah.mk p_m.fID v0 3 p_m.aJ x1 r0 p_m.au r1 false]).map ah.lf),.dead]⟩))) <|
 .ret ⟨[],[1,3,4],[(3,1)],2⟩ (l0 ++ [ah.mk p_m.fID v0 3 p_m.aJ x1 r0 p_m.au r1 false])
def oW (p_m:aj) : (Int × (List ah)) → Mo ((Int × (List ah)) ⊕ ((List ah))) := fun (v0,l0) =>
 .jp Tryz.f22 0 [1,1,1,0,1,0,0,0,0] 17 [1,3,4] 2 (.normal) (fun r_=>⟨[(1,.ptr 0 0),(3,.own 1),(4,.i_ v0),(20,.b_ r_)],[.box 25 (.dat (aj.lf1 p_m)),.row 63 9 (l0.map ah.lf)]⟩) ⟨[(1,.ptr 0 0),(3,.own 1),(4,.i_ v0)],[.box 25 (.dat (aj.lf1 p_m)),.row 63 9 (l0.map ah.lf)]⟩ (yA l0 p_m v0).den (jW (by kernel_rfl)) fun r0 _ =>
 .iB (r0) (.jp Tryz.f22 0 [1,1,1,0,1,0,0,1,0] 8 [1,3,4] 2 (.normal) (fun r_=>⟨[(1,.ptr 0 0),(3,.own 1),(4,.i_ v0)],[.box 25 (.dat (aj.lf1 p_m)),.row 63 9 (r_.map ah.lf)]⟩) ⟨[(1,.ptr 0 0),(3,.own 1),(4,.i_ v0)],[.box 25 (.dat (aj.lf1 p_m)),.row 63 9 (l0.map ah.lf)]⟩ (EX l0 p_m v0).den (jW (by kernel_rfl)) fun r1 _ =>
 .rt [1,3,4] 2 (.inl (IntKind.wrap .i64 (v0 + 1),r1))) <|
 .ret ⟨[.kill 0],[3],[],2⟩ (.inr (l0))
def BU (p_m:aj) (v0:Int) (l0:List ah) : Option (((List ah))) := dF (fun v_=>(oW p_m v_).den) FU (v0,l0)
def Ap (p_m:aj) : (Int × (List ah)) → St := fun (v0,l0)=>⟨[(1,.ptr 0 0),(3,.own 1),(4,.i_ v0)],[.box 25 (.dat (aj.lf1 p_m)),.row 63 9 (l0.map ah.lf)]⟩
def oZ  (r_:((List ah))) : St := ⟨[(3,.own 1)],[.dead,.row 63 9 (r_.map ah.lf)]⟩
theorem Md {p_m:aj} {v0:Int} {l0:List ah} {r_:((List ah))} (h:BU p_m v0 l0 = some r_) : jq Tryz.f22 0 [1,1,1,0,1,0] (.exit 0) (oZ r_) (Ap p_m (v0,l0)) :=
 jo fJ (body := (Code.sub (bodyC Tryz.f22) [1,1,1,0,1,0,0])) (by kernel_rfl) (oW p_m) (Ap p_m) (fun _=>.exit 0) oZ (fun r_=>rfl) (fun v_=>by kernel_rfl) h
def V6 (p_m:aj) : Mo (List ah) :=
 .ite (p_m.bQ != 2) (fun c0 =>
 .say [.br true] (ok1 c0) <|
 .ret ⟨[.nil 0 9,.tod 0],[0],[],0⟩ ([])) fun c0 =>
 .say [.br false] (okc c0 (ok1 (by simp [ah.aT] : (([] : List ah).map ah.lf) = []))) <|
 .ask (BU p_m 0 ([] : List ah)) fun r0 h0 =>
 .say [.part [.zo 3 63 9,.iZ 1 (([] : List ah).map ah.lf)] 0 [1,3,4] 2 (.exit 0) (oZ r0).T (oZ r0).H,.at_ 0 0,.frz 1] (ok1 (Md h0)) <|
 .ret (cZ 1) (r0)
def Q20 (p_m:aj) : Option (List ah) := Mo.den (V6 p_m)
theorem H7 (p_m:aj) : FV (Q20 p_m) 22 [.dat (aj.lf1 p_m)] (fun r=>.lf (.rows 9 (r.map ah.lf))) := eG Tryz.func22 (by kernel_rfl) (fun _=>rfl) (by kernel_rfl)
def V7 (p_m:aj) : Mo (aj × List ah) :=
 .iB (decide ((1:Int) < p_m.dU)) (.ask (Q38 p_m) fun r0 h0 =>
 .say [.iU [] (ag_ (aj.lf1 r0) [(8,.own 0),(10,.own 1),(11,.own 2)]) [.row 54 82 (r0.aB.map ak.lf),.row 3 1 (r0.fNext.map lfI),.row 3 1 (r0.aS.map lfI)],.at_ 0 0,.frz 2,.frz 3,.frz 4] (ok1 (mg _ _ h0)) <|
 .ret ⟨[.nil 1 9,.tod 1],[0,1],[],0⟩ (aj.fH r0 (IntKind.wrap .i64 (r0.dU - 1)),[])) <|
 .iB (p_m.bQ != 2) (.cl (X5 p_m) fun r1 _ =>
 .ret (cZ 2) (r1.1,r1.2)) <|
 .cH [] (mg p_m) fun r2 _ =>
 .ask (Q20 (aj.fH r2 2)) fun r3 h1 =>
 .say [.fQ (.alt 0 (.l 1 (.l 2 (.l 3 (.q 4 .fin)))) (.l 1 (.alt 0 (.l 2 (.l 3 (.q 4 .fin))) (.l 2 (.l 0 (.l 3 (.q 4 .fin))))))) (some 3) [0,2,3,4] [.both [.at_ 20 2,.frz 2,.frz 3,.frz 4,.res (.lf (.rows 9 (r3.map ah.lf)))] [.both [.at_ 20 2,.frz 2,.frz 3,.frz 4,.res (.lf (.rows 9 (r3.map ah.lf)))] [.at_ 20 2,.frz 2,.frz 3,.frz 4,.res (.lf (.rows 9 (r3.map ah.lf)))]]] [2,3] 5 [(2,.ptr 1 0),(3,.lf (.rows 9 (r3.map ah.lf)))] [.box 25 (ag_ (aj.lf1 r2) [(6,.i_ 2)]),.box 25 (ag_ (aj.lf1 r2) [(6,.i_ 2)]),.dead,.dead,.dead]] (okc (H7 _ _ h1) (okc (rf_ ⟨[(2,.ptr 1 0),(3,.lf (.rows 9 (r3.map ah.lf)))],[.box 25 (ag_ (aj.lf1 r2) [(6,.i_ 2)]),.box 25 (ag_ (aj.lf1 r2) [(6,.i_ 2)]),.dead,.dead,.dead]⟩) (okc (H7 _ _ h1) (okc (rf_ ⟨[(2,.ptr 1 0),(3,.lf (.rows 9 (r3.map ah.lf)))],[.box 25 (ag_ (aj.lf1 r2) [(6,.i_ 2)]),.box 25 (ag_ (aj.lf1 r2) [(6,.i_ 2)]),.dead,.dead,.dead]⟩) (okc (H7 _ _ h1) (ok1 (rf_ ⟨[(2,.ptr 1 0),(3,.lf (.rows 9 (r3.map ah.lf)))],[.box 25 (ag_ (aj.lf1 r2) [(6,.i_ 2)]),.box 25 (ag_ (aj.lf1 r2) [(6,.i_ 2)]),.dead,.dead,.dead]⟩))))))) <|
 .ret (cZ 2) (aj.fH r2 2,r3)
def Q99 (p_m:aj) : Option (aj × List ah) := Mo.den (V7 p_m)
theorem QN (p_m:aj) : FV (Q99 p_m) 20 [.dat (aj.lf1 p_m)] (fun r=>.tup [.dat (aj.lf1 r.1),.lf (.rows 9 (r.2.map ah.lf))]) := eG Tryz.func20 (by kernel_rfl) (fun _=>rfl) (by kernel_rfl)
def Jt (r0:aj × (List ah) × bU) (r1:aj × Int) (r2:aj × List ah) : Mo (Bool) :=
 .say [.num r0.1.aB.length] (ok1 (ln_ r0.1.aB ak.lf)) <|
 .iG 18004 ((r0.1.aB.length:Int) == 1) (.ret ⟨[.kill 3],[5,6,8,9,10,46],[],7⟩ (r0.1.au == 1)) <|
 .ret ⟨[.kill 3],[5,6,8,9,10,46],[],7⟩ (false)
def V8 (r0:aj × (List ah) × bU) (r1:aj × Int) (r2:aj × List ah) : Option (Bool) := Mo.den (Jt r0 r1 r2)
def wJ (r0:aj × (List ah) × bU) (r1:aj × Int) (r2:aj × List ah) (r_:Bool) : St := ⟨[(5,.lf (.rows 9 (r0.2.1.map ah.lf))),(6,.ptr 4 0),(8,.i_ r1.2),(9,.ptr 6 0),(10,.lf (.rows 9 (r2.2.map ah.lf))),(46,.b_ r_)],[.dead,.dead,.dead,.dead,.box 67 (.agg [.i_ r0.2.2.dZ,.i_ r0.2.2.aJ,.i_ r0.2.2.fAt,.lf (.rows 82 (r0.2.2.aQ.map ak.lf))]),.dead,.box 25 (.agg ((aj.lf1 r2.1).map AV.lf))]⟩
theorem UF {r0:aj × (List ah) × bU} {r1:aj × Int} {r2:aj × List ah} {r_:Bool} (h:V8 r0 r1 r2 = some r_) : DJ Tryz.f11 0 [1,1,1,1,1,1,1,0] [0,1,2,3,4,5,6,7,8] (wJ r0 r1 r2 r_) ⟨[(4,.ptr 3 0),(5,.lf (.rows 9 (r0.2.1.map ah.lf))),(6,.ptr 4 0),(8,.i_ r1.2),(9,.ptr 6 0),(10,.lf (.rows 9 (r2.2.map ah.lf)))],[.dead,.dead,.dead,.box 25 (.agg ((aj.lf1 r0.1).map AV.lf)),.box 67 (.agg [.i_ r0.2.2.dZ,.i_ r0.2.2.aJ,.i_ r0.2.2.fAt,.lf (.rows 82 (r0.2.2.aQ.map ak.lf))]),.dead,.box 25 (.agg ((aj.lf1 r2.1).map AV.lf))]⟩ :=
 I8 fJ (Jt r0 r1 r2) (wJ r0 r1 r2) (by kernel_rfl) h
def UG (r0:aj × (List ah) × bU) (r1:aj × Int) (r2:aj × List ah) (r3:Bool) : Mo (Bool) :=
 .ite (r3) (fun c0 =>
 .say [.gd 18009 true,.num r0.2.1.length] (okc c0 (ok1 (ln_ r0.2.1 ah.lf))) <|
 .rt [5,6,8,9,10,51] 7 ((r0.2.1.length:Int) == 1)) fun c0 =>
 .say [.gd 18009 false] (ok1 c0) <|
 .rt [5,6,8,9,10,51] 7 (false)
def QO (r0:aj × (List ah) × bU) (r1:aj × Int) (r2:aj × List ah) (r3:Bool) : Mo (Bool) :=
 .iG 18014 (r3) (.ask (cO r0.2.1 0) fun x0 h0 =>
 .say [.row (ah.lf1 x0)] (ok1 (bf ah.aT h0)) <|
 .rt [5,6,8,9,10,57] 7 (x0.fOK)) <|
 .rt [5,6,8,9,10,57] 7 (false)
def QS (r0:aj × (List ah) × bU) (r1:aj × Int) (r2:aj × List ah) (r3:Bool) : Mo (Bool) :=
 .iG 18020 (r3) (.ask (cO r0.2.1 0) fun x0 h0 =>
 .say [.row (ah.lf1 x0)] (ok1 (bf ah.aT h0)) <|
 .rt [6,8,9,10,64] 7 (x0.aY == 1)) <|
 .rt [6,8,9,10,64] 7 (false)
def QT (r0:aj × (List ah) × bU) (r1:aj × Int) (r2:aj × List ah) (r3:Bool) : Mo (Bool) :=
 .iG 18027 (r3) (.ret ⟨[.kill 4],[8,9,10,69],[],7⟩ (r0.2.2.dZ == (-1))) <|
 .ret ⟨[.kill 4],[8,9,10,69],[],7⟩ (false)
def QU (r0:aj × Int) (r1:aj × List ah) (r2:Bool) : Mo (Bool) :=
 .iG 18032 (r2) (.rt [9,10,73] 7 (r0.2 == 25)) <|
 .rt [9,10,73] 7 (false)
def QV (r0:aj × List ah) (r1:Bool) : Mo (Bool) :=
 .iG 18036 (r1) (.ret ⟨[.kill 6],[10,78],[],7⟩ (r0.1.dU == 12)) <|
 .ret ⟨[.kill 6],[10,78],[],7⟩ (false)
def QW (r0:aj × List ah) (r1:Bool) : Mo (Bool) :=
 .ite (r1) (fun c0 =>
 .say [.gd 18041 true,.num r0.2.length] (okc c0 (ok1 (ln_ r0.2 ah.lf))) <|
 .rt [83] 7 ((r0.2.length:Int) == 0)) fun c0 =>
 .say [.gd 18041 false] (ok1 c0) <|
 .rt [83] 7 (false)
def QX (r0:Bool) : Mo (Unit) :=
 .rt [0] 7 ()
def ZE  : Mo (Bool) :=
 .cl (Xh 1 3) fun r0 _ =>
 .iB (r0.2 != 0) (.ret (cZ 1) (false)) <|
 .ask (Q59 1 1) fun r1 h0 =>
 .say [.res (.dat (ak.lf1 r1)),.at_ 12 2,.Gg 1 ([r1].map ak.lf)] (okc (xQ _ _ _ h0) (ok1 (by simp [ak.aT] : [r1].map ak.lf = [(ak.lf1 r1)]))) <|
 .cl (uw r0.1 (ah.NS (ah.lZ (ah.gY (ah.dX (ah.sTo ah.z 1) 3) 1) 1) [r1])) fun r2 _ =>
 .ask (Q59 0 1) fun r3 h1 =>
 .say [] (ok1 (xQ _ _ _ h1)) <|
 .ask (Q16 r0.1 r3) fun r4 h2 =>
 .say [.fQ (.q 0 (.alt 1 (.alt 2 (.q 3 (.q 4 (.q 5 (.l 6 (.l 7 (.q 8 .fin)))))) (.l 6 (.l 2 (.q 3 (.q 4 (.q 5 (.l 7 (.q 8 .fin)))))))) (.l 6 (.l 1 (.l 2 (.q 3 (.q 4 (.q 5 (.l 7 (.q 8 .fin)))))))))) none [5] [.both [.at_ 14 1,.resv 1,.res (.dat (ak.lf1 r3)),.both [.res (.tup [.dat (aj.lf1 r4.1),.i_ r4.2]),.slot 5] [.slot 5,.res (.tup [.dat (aj.lf1 r4.1),.i_ r4.2])]] [.at_ 14 6,.resv 1,.slot 5,.res (.dat (ak.lf1 r3)),.res (.tup [.dat (aj.lf1 r4.1),.i_ r4.2])]] [1,4,5,6,8] 6 [(1,.ptr 0 0),(4,.ptr 3 0),(5,.lf (.rows 9 (r2.2.1.map ah.lf))),(6,.ptr 4 0),(8,.i_ r4.2)] [.box 25 (.agg ((aj.lf1 r0.1).map AV.lf)),.dead,.box 63 (.agg [.i_ 0,.i_ 1,.i_ 3,.i_ 1,.i_ 0,.i_ 0,.i_ 1,.lf (.rows 82 ([r1].map ak.lf)),.b_ false]),.box 25 (.agg ((aj.lf1 r2.1).map AV.lf)),.box 67 (.agg [.i_ r2.2.2.dZ,.i_ r2.2.2.aJ,.i_ r2.2.2.fAt,.lf (.rows 82 (r2.2.2.aQ.map ak.lf))]),.box 25 (.agg ((aj.lf1 r4.1).map AV.lf))]] (okc (uy _ _ _ h2) (okc (rf_ ⟨[(1,.ptr 0 0),(4,.ptr 3 0),(5,.lf (.rows 9 (r2.2.1.map ah.lf))),(6,.ptr 4 0),(8,.i_ r4.2)],[.box 25 (.agg ((aj.lf1 r0.1).map AV.lf)),.dead,.box 63 (.agg [.i_ 0,.i_ 1,.i_ 3,.i_ 1,.i_ 0,.i_ 0,.i_ 1,.lf (.rows 82 ([r1].map ak.lf)),.b_ false]),.box 25 (.agg ((aj.lf1 r2.1).map AV.lf)),.box 67 (.agg [.i_ r2.2.2.dZ,.i_ r2.2.2.aJ,.i_ r2.2.2.fAt,.lf (.rows 82 (r2.2.2.aQ.map ak.lf))]),.box 25 (.agg ((aj.lf1 r4.1).map AV.lf))]⟩) (okc (uy _ _ _ h2) (okc (rf_ ⟨[(1,.ptr 0 0),(4,.ptr 3 0),(5,.lf (.rows 9 (r2.2.1.map ah.lf))),(6,.ptr 4 0),(8,.i_ r4.2)],[.box 25 (.agg ((aj.lf1 r0.1).map AV.lf)),.dead,.box 63 (.agg [.i_ 0,.i_ 1,.i_ 3,.i_ 1,.i_ 0,.i_ 0,.i_ 1,.lf (.rows 82 ([r1].map ak.lf)),.b_ false]),.box 25 (.agg ((aj.lf1 r2.1).map AV.lf)),.box 67 (.agg [.i_ r2.2.2.dZ,.i_ r2.2.2.aJ,.i_ r2.2.2.fAt,.lf (.rows 82 (r2.2.2.aQ.map ak.lf))]),.box 25 (.agg ((aj.lf1 r4.1).map AV.lf))]⟩) (okc (xQ _ _ _ h1) (okc (uy _ _ _ h2) (ok1 (rf_ ⟨[(1,.ptr 0 0),(4,.ptr 3 0),(5,.lf (.rows 9 (r2.2.1.map ah.lf))),(6,.ptr 4 0),(8,.i_ r4.2)],[.box 25 (.agg ((aj.lf1 r0.1).map AV.lf)),.dead,.box 63 (.agg [.i_ 0,.i_ 1,.i_ 3,.i_ 1,.i_ 0,.i_ 0,.i_ 1,.lf (.rows 82 ([r1].map ak.lf)),.b_ false]),.box 25 (.agg ((aj.lf1 r2.1).map AV.lf)),.box 67 (.agg [.i_ r2.2.2.dZ,.i_ r2.2.2.aJ,.i_ r2.2.2.fAt,.lf (.rows 82 (r2.2.2.aQ.map ak.lf))]),.box 25 (.agg ((aj.lf1 r4.1).map AV.lf))]⟩)))))))) <|
 .cl (QN r0.1) fun r5 _ =>
 .ask (V8 r2 r4 r5) fun r6 h3 =>
 .say [.seg 8 [.kill 0,.kill 2,.kill 5] 9 [4,5,6,8,9,10] 7 (wJ r2 r4 r5 r6).T (wJ r2 r4 r5 r6).H] (ok1 (UF h3)) <|
 .sj Tryz.f11 0 [1,1,1,1,1,1,1,0] [9,10,11,12,13] 8 5 [5,6,8,9,10,46] 7 (fun r_=>⟨[(5,.lf (.rows 9 (r2.2.1.map ah.lf))),(6,.ptr 4 0),(8,.i_ r4.2),(9,.ptr 6 0),(10,.lf (.rows 9 (r5.2.map ah.lf))),(51,.b_ r_)],[.dead,.dead,.dead,.dead,.box 67 (.agg [.i_ r2.2.2.dZ,.i_ r2.2.2.aJ,.i_ r2.2.2.fAt,.lf (.rows 82 (r2.2.2.aQ.map ak.lf))]),.dead,.box 25 (.agg ((aj.lf1 r5.1).map AV.lf))]⟩) ⟨[(5,.lf (.rows 9 (r2.2.1.map ah.lf))),(6,.ptr 4 0),(8,.i_ r4.2),(9,.ptr 6 0),(10,.lf (.rows 9 (r5.2.map ah.lf))),(46,.b_ r6)],[.dead,.dead,.dead,.dead,.box 67 (.agg [.i_ r2.2.2.dZ,.i_ r2.2.2.aJ,.i_ r2.2.2.fAt,.lf (.rows 82 (r2.2.2.aQ.map ak.lf))]),.dead,.box 25 (.agg ((aj.lf1 r5.1).map AV.lf))]⟩ (UG r2 r4 r5 r6).den (sW (by kernel_rfl)) fun r7 _ =>
 .sj Tryz.f11 0 [1,1,1,1,1,1,1,0] [14,15,16,17,18,19] 8 6 [5,6,8,9,10,51] 7 (fun r_=>⟨[(5,.lf (.rows 9 (r2.2.1.map ah.lf))),(6,.ptr 4 0),(8,.i_ r4.2),(9,.ptr 6 0),(10,.lf (.rows 9 (r5.2.map ah.lf))),(57,.b_ r_)],[.dead,.dead,.dead,.dead,.box 67 (.agg [.i_ r2.2.2.dZ,.i_ r2.2.2.aJ,.i_ r2.2.2.fAt,.lf (.rows 82 (r2.2.2.aQ.map ak.lf))]),.dead,.box 25 (.agg ((aj.lf1 r5.1).map AV.lf))]⟩) ⟨[(5,.lf (.rows 9 (r2.2.1.map ah.lf))),(6,.ptr 4 0),(8,.i_ r4.2),(9,.ptr 6 0),(10,.lf (.rows 9 (r5.2.map ah.lf))),(51,.b_ r7)],[.dead,.dead,.dead,.dead,.box 67 (.agg [.i_ r2.2.2.dZ,.i_ r2.2.2.aJ,.i_ r2.2.2.fAt,.lf (.rows 82 (r2.2.2.aQ.map ak.lf))]),.dead,.box 25 (.agg ((aj.lf1 r5.1).map AV.lf))]⟩ (QO r2 r4 r5 r7).den (sW (by kernel_rfl)) fun r8 _ =>
 .sj Tryz.f11 0 [1,1,1,1,1,1,1,0] [20,21,22,23,24,25,26] 8 7 [5,6,8,9,10,57] 7 (fun r_=>⟨[(6,.ptr 4 0),(8,.i_ r4.2),(9,.ptr 6 0),(10,.lf (.rows 9 (r5.2.map ah.lf))),(64,.b_ r_)],[.dead,.dead,.dead,.dead,.box 67 (.agg [.i_ r2.2.2.dZ,.i_ r2.2.2.aJ,.i_ r2.2.2.fAt,.lf (.rows 82 (r2.2.2.aQ.map ak.lf))]),.dead,.box 25 (.agg ((aj.lf1 r5.1).map AV.lf))]⟩) ⟨[(5,.lf (.rows 9 (r2.2.1.map ah.lf))),(6,.ptr 4 0),(8,.i_ r4.2),(9,.ptr 6 0),(10,.lf (.rows 9 (r5.2.map ah.lf))),(57,.b_ r8)],[.dead,.dead,.dead,.dead,.box 67 (.agg [.i_ r2.2.2.dZ,.i_ r2.2.2.aJ,.i_ r2.2.2.fAt,.lf (.rows 82 (r2.2.2.aQ.map ak.lf))]),.dead,.box 25 (.agg ((aj.lf1 r5.1).map AV.lf))]⟩ (QS r2 r4 r5 r8).den (sW (by kernel_rfl)) fun r9 _ =>
 .sj Tryz.f11 0 [1,1,1,1,1,1,1,0] [27,28,29,30,31] 8 5 [6,8,9,10,64] 7 (fun r_=>⟨[(8,.i_ r4.2),(9,.ptr 6 0),(10,.lf (.rows 9 (r5.2.map ah.lf))),(69,.b_ r_)],[.dead,.dead,.dead,.dead,.dead,.dead,.box 25 (.agg ((aj.lf1 r5.1).map AV.lf))]⟩) ⟨[(6,.ptr 4 0),(8,.i_ r4.2),(9,.ptr 6 0),(10,.lf (.rows 9 (r5.2.map ah.lf))),(64,.b_ r9)],[.dead,.dead,.dead,.dead,.box 67 (.agg [.i_ r2.2.2.dZ,.i_ r2.2.2.aJ,.i_ r2.2.2.fAt,.lf (.rows 82 (r2.2.2.aQ.map ak.lf))]),.dead,.box 25 (.agg ((aj.lf1 r5.1).map AV.lf))]⟩ (QT r2 r4 r5 r9).den (sW (by kernel_rfl)) fun r10 _ =>
 .sj Tryz.f11 0 [1,1,1,1,1,1,1,0] [32,33,34,35] 8 4 [8,9,10,69] 7 (fun r_=>⟨[(9,.ptr 6 0),(10,.lf (.rows 9 (r5.2.map ah.lf))),(73,.b_ r_)],[.dead,.dead,.dead,.dead,.dead,.dead,.box 25 (.agg ((aj.lf1 r5.1).map AV.lf))]⟩) ⟨[(8,.i_ r4.2),(9,.ptr 6 0),(10,.lf (.rows 9 (r5.2.map ah.lf))),(69,.b_ r10)],[.dead,.dead,.dead,.dead,.dead,.dead,.box 25 (.agg ((aj.lf1 r5.1).map AV.lf))]⟩ (QU r4 r5 r10).den (sW (by kernel_rfl)) fun r11 _ =>
 .sj Tryz.f11 0 [1,1,1,1,1,1,1,0] [36,37,38,39,40] 8 5 [9,10,73] 7 (fun r_=>⟨[(10,.lf (.rows 9 (r5.2.map ah.lf))),(78,.b_ r_)],[.dead,.dead,.dead,.dead,.dead,.dead,.dead]⟩) ⟨[(9,.ptr 6 0),(10,.lf (.rows 9 (r5.2.map ah.lf))),(73,.b_ r11)],[.dead,.dead,.dead,.dead,.dead,.dead,.box 25 (.agg ((aj.lf1 r5.1).map AV.lf))]⟩ (QV r5 r11).den (sW (by kernel_rfl)) fun r12 _ =>
 .sj Tryz.f11 0 [1,1,1,1,1,1,1,0] [41,42,43,44,45] 8 5 [10,78] 7 (fun r_=>⟨[(83,.b_ r_)],[.dead,.dead,.dead,.dead,.dead,.dead,.dead]⟩) ⟨[(10,.lf (.rows 9 (r5.2.map ah.lf))),(78,.b_ r12)],[.dead,.dead,.dead,.dead,.dead,.dead,.dead]⟩ (QW r5 r12).den (sW (by kernel_rfl)) fun r13 _ =>
 .sj Tryz.f11 0 [1,1,1,1,1,1,1,0] [46] 8 1 [83] 7 (fun r_=>⟨[(0,.b_ r13)],[.dead,.dead,.dead,.dead,.dead,.dead,.dead]⟩) ⟨[(83,.b_ r13)],[.dead,.dead,.dead,.dead,.dead,.dead,.dead]⟩ (QX r13).den (sW (by kernel_rfl)) fun r14 _ =>
 .ret (cZ 1) (r13)
def Q7  : Option (Bool) := Mo.den (ZE )
theorem V9:FV (Q7 ) 11 [] (fun r=>.b_ r) := eG Tryz.func11 (by kernel_rfl) (fun _=>rfl) (by kernel_rfl)
def EY (p_id:Int) (p_size:Int) : Mo (Bool) :=
 .iG 4002 (decide ((p_size:Int) < 1)) (.rt [0,1,4,11] 1 (true)) <|
 .rt [0,1,4,11] 1 (decide ((7:Int) < p_size))
def EZ (p_id:Int) (p_size:Int) (r0:Bool) : Mo (Bool) :=
 .iG 4006 (r0) (.rt [0,1,4,15] 1 (true)) <|
 .rt [0,1,4,15] 1 (decide ((p_id:Int) < 0))
def Aq (p_id:Int) (p_size:Int) (r0:Bool) : Mo (Bool) :=
 .iG 4010 (r0) (.rt [0,1,4,20] 1 (true)) <|
 .rt [0,1,4,20] 1 (decide ((p_size:Int) ≤ p_id))
def Wh (p_id:Int) (p_size:Int) : Mo (aj × Int) :=
 .sj Tryz.f29 0 [1,0,0] [0,1,2,3,4,5] 1 6 [0,1,4] 1 (fun r_=>⟨[(0,.i_ p_id),(1,.i_ p_size),(4,.ptr 0 0),(11,.b_ r_)],[.box 25 (Z25)]⟩) ⟨[(0,.i_ p_id),(1,.i_ p_size),(4,.ptr 0 0)],[.box 25 (Z25)]⟩ (EY p_id p_size).den (sW (by kernel_rfl)) fun r0 _ =>
 .sj Tryz.f29 0 [1,0,0] [6,7,8,9] 1 4 [0,1,4,11] 1 (fun r_=>⟨[(0,.i_ p_id),(1,.i_ p_size),(4,.ptr 0 0),(15,.b_ r_)],[.box 25 (Z25)]⟩) ⟨[(0,.i_ p_id),(1,.i_ p_size),(4,.ptr 0 0),(11,.b_ r0)],[.box 25 (Z25)]⟩ (EZ p_id p_size r0).den (sW (by kernel_rfl)) fun r1 _ =>
 .sj Tryz.f29 0 [1,0,0] [10,11,12,13,14] 1 5 [0,1,4,15] 1 (fun r_=>⟨[(0,.i_ p_id),(1,.i_ p_size),(4,.ptr 0 0),(20,.b_ r_)],[.box 25 (Z25)]⟩) ⟨[(0,.i_ p_id),(1,.i_ p_size),(4,.ptr 0 0),(15,.b_ r1)],[.box 25 (Z25)]⟩ (Aq p_id p_size r1).den (sW (by kernel_rfl)) fun r2 _ =>
 .iB (r2) (.ret (cZ 2) (aj.z,1)) <|
 .cl (BM p_id) fun r3 _ =>
 .ret (cZ 2) (aj.fH (aj.lY (aj.zV (aj.NQ (aj.sID aj.z p_id) p_size) (-1)) (-1)) r3,0)
def Q61 (p_id:Int) (p_size:Int) : Option (aj × Int) := Mo.den (Wh p_id p_size)
theorem X7 (p_id:Int) (p_size:Int) : FV (Q61 p_id p_size) 29 [.i_ p_id,.i_ p_size] (fun r=>.tup [.dat (aj.lf1 r.1),.i_ r.2]) := eG Tryz.func29 (by kernel_rfl) (fun _=>rfl) (by kernel_rfl)
def BX (l0:List ah) (p_b0:aK) (p_i:Int) (p_l:List ah) (p_m:aj) (v0:Int) : Mo (Bool) :=
 .say [.num p_l.length] (ok1 (ln_ p_l ah.lf)) <|
 .ite (decide ((v0:Int) < (p_l.length:Int))) (fun c0 =>
 .say [.gd 8004 true,.num l0.length] (okc c0 (ok1 (ln_ l0 ah.lf))) <|
 .rt [0,1,3,6,9,28] 6 (decide (((l0.length:Int) : Int) < 2000))) fun c0 =>
 .say [.gd 8004 false] (ok1 c0) <|
 .rt [0,1,3,6,9,28] 6 (false)
def wM (p_b0:aK) (p_i:Int) (p_l:List ah) (p_m:aj) : (Int × (List ah)) → Mo ((Int × (List ah)) ⊕ ((List ah))) := fun (v0,l0) =>
 .jp Tryz.f63 4 [1,1,0,1,0,0,0,0] 13 [0,1,3,6,9] 6 (.normal) (fun r_=>⟨[(0,.ptr 0 0),(1,.i_ p_i),(3,.lf (.rows 9 (p_l.map ah.lf))),(6,.ptr 4 0),(9,.i_ v0),(28,.b_ r_)],[.box 81 (.agg [.own 1,.own 5,.own 3,.i_ p_b0.dh]),.row 25 12 ((p_b0.fm.set p_i.toNat p_m).map aj.lf),.dead,.row 3 1 (p_b0.dw.map lfI),.box 25 (.dat (aj.lf1 p_m)),.row 63 9 (l0.map ah.lf)]⟩) ⟨[(0,.ptr 0 0),(1,.i_ p_i),(3,.lf (.rows 9 (p_l.map ah.lf))),(6,.ptr 4 0),(9,.i_ v0)],[.box 81 (.agg [.own 1,.own 5,.own 3,.i_ p_b0.dh]),.row 25 12 ((p_b0.fm.set p_i.toNat p_m).map aj.lf),.dead,.row 3 1 (p_b0.dw.map lfI),.box 25 (.dat (aj.lf1 p_m)),.row 63 9 (l0.map ah.lf)]⟩ (BX l0 p_b0 p_i p_l p_m v0).den (jW (by kernel_rfl)) fun r0 _ =>
 .ite (r0) (fun c0 =>
 .say [.br true,.order [(true,0),(true,1),(true,2),(true,3),(true,4),(true,5),(true,6),(true,7),(true,8),(false,9),(false,10),(true,11),(true,12),(false,13)] (some 13) [5,6,7]] (ok1 c0) <|
 .ask (cO p_l v0) fun x0 h0 =>
 .say [.row (ah.lf1 x0),.rows ((l0 ++ [x0]).map ah.lf)] (okc (bf ah.aT h0) (ok1 (ap_ ah.aT l0 x0))) <|
 .grd ((l0.length + [x0].length) * 88 ≤ 140737488355328) fun h1 =>
 .say [] (ok1 (cp_ ah.lf h1)) <|
 .ret ⟨[],[0,1,3,6,9],[(7,5)],6⟩ (.inl (IntKind.wrap .i64 (v0 + 1),l0 ++ [x0]))) fun c0 =>
 .say [.br false] (ok1 c0) <|
 .rt [0,1,6] 6 (.inr (l0))
def Ar (p_b0:aK) (p_i:Int) (p_l:List ah) (p_m:aj) (v0:Int) (l0:List ah) : Option (((List ah))) := dF (fun v_=>(wM p_b0 p_i p_l p_m v_).den) FU (v0,l0)
def Ju (p_b0:aK) (p_i:Int) (p_l:List ah) (p_m:aj) : (Int × (List ah)) → St := fun (v0,l0)=>⟨[(0,.ptr 0 0),(1,.i_ p_i),(3,.lf (.rows 9 (p_l.map ah.lf))),(6,.ptr 4 0),(9,.i_ v0)],[.box 81 (.agg [.own 1,.own 5,.own 3,.i_ p_b0.dh]),.row 25 12 ((p_b0.fm.set p_i.toNat p_m).map aj.lf),.dead,.row 3 1 (p_b0.dw.map lfI),.box 25 (.dat (aj.lf1 p_m)),.row 63 9 (l0.map ah.lf)]⟩
def wO (p_b0:aK) (p_i:Int) (p_m:aj) (r_:((List ah))) : St := ⟨[(0,.ptr 0 0),(1,.i_ p_i),(6,.ptr 4 0)],[.box 81 (.agg [.own 1,.own 5,.own 3,.i_ p_b0.dh]),.row 25 12 ((p_b0.fm.set p_i.toNat p_m).map aj.lf),.dead,.row 3 1 (p_b0.dw.map lfI),.box 25 (.dat (aj.lf1 p_m)),.row 63 9 (r_.map ah.lf)]⟩
theorem UH {p_b0:aK} {p_i:Int} {p_l:List ah} {p_m:aj} {v0:Int} {l0:List ah} {r_:((List ah))} (h:Ar p_b0 p_i p_l p_m v0 l0 = some r_) : jq Tryz.f63 4 [1,1,0,1,0] (.exit 0) (wO p_b0 p_i p_m r_) (Ju p_b0 p_i p_l p_m (v0,l0)) :=
 jo fJ (body := (Code.sub (bodyC Tryz.f63) [1,1,0,1,0,0])) (by kernel_rfl) (wM p_b0 p_i p_l p_m) (Ju p_b0 p_i p_l p_m) (fun _=>.exit 0) (wO p_b0 p_i p_m) (fun r_=>rfl) (fun v_=>by kernel_rfl) h
def rE (p_b0:aK) (p_i:Int) (p_m:aj) (r0:((List ah))) : Mo (Bool) :=
 .iG 14003 (p_m.bQ != 2) (.rt [0,1,6,51] 6 (true)) <|
 .rt [0,1,6,51] 6 (decide ((p_m.aJ:Int) < 0))
def rF (p_b0:aK) (p_i:Int) (p_m:aj) (r0:((List ah))) (r1:Bool) : Mo (Bool) :=
 .iG 14008 (r1) (.rt [0,1,6,56] 6 (true)) <|
 .rt [0,1,6,56] 6 (decide ((1000:Int) < p_m.aJ))
def rG (p_b0:aK) (p_i:Int) (p_m:aj) (r0:((List ah))) : ((List Int)) → Mo (((List Int)) ⊕ ((List Int))) := fun (l0) =>
 .say [.order [(true,0),(true,1),(true,2),(true,3),(true,4),(true,5),(true,6),(true,7)] none [],.num l0.length] (ok1 (ln_ l0 lfI)) <|
 .ite (decide (((l0.length:Int) : Int) ≤ p_m.aJ)) (fun c0 =>
 .say [.br true,.rows ((l0 ++ [(-1)]).map lfI)] (okc c0 (ok1 (ap_ lI_ l0 (-1)))) <|
 .grd ((l0.length + [(-1)].length) * 8 ≤ 140737488355328) fun h0 =>
 .say [] (ok1 (cp_ lfI h0)) <|
 .ret ⟨[],[0,1,6],[(8,6)],7⟩ (.inl (l0 ++ [(-1)]))) fun c0 =>
 .say [.br false] (ok1 c0) <|
 .rt [0,1,6] 7 (.inr (l0))
def uz (p_b0:aK) (p_i:Int) (p_m:aj) (r0:((List ah))) (l0:List Int) : Option (((List Int))) := dF (fun v_=>(rG p_b0 p_i p_m r0 v_).den) FU (l0)
def E5 (p_b0:aK) (p_i:Int) (p_m:aj) (r0:((List ah))) : ((List Int)) → St := fun (l0)=>⟨[(0,.ptr 0 0),(1,.i_ p_i),(6,.ptr 4 0)],[.box 81 (.agg [.own 1,.own 5,.own 6,.i_ p_b0.dh]),.row 25 12 ((p_b0.fm.set p_i.toNat p_m).map aj.lf),.dead,.dead,.box 25 (.dat (aj.lf1 p_m)),.row 63 9 (r0.map ah.lf),.row 3 1 (l0.map lfI)]⟩
def rH (p_b0:aK) (p_i:Int) (p_m:aj) (r0:((List ah))) (r_:((List Int))) : St := ⟨[(0,.ptr 0 0),(1,.i_ p_i),(6,.ptr 4 0)],[.box 81 (.agg [.own 1,.own 5,.own 6,.i_ p_b0.dh]),.row 25 12 ((p_b0.fm.set p_i.toNat p_m).map aj.lf),.dead,.dead,.box 25 (.dat (aj.lf1 p_m)),.row 63 9 (r0.map ah.lf),.row 3 1 (r_.map lfI)]⟩
theorem QY {p_b0:aK} {p_i:Int} {p_m:aj} {r0:((List ah))} {l0:List Int} {r_:((List Int))} (h:uz p_b0 p_i p_m r0 l0 = some r_) : jq Tryz.f63 4 [1,1,1,1,0,0] (.exit 2) (rH p_b0 p_i p_m r0 r_) (E5 p_b0 p_i p_m r0 (l0)) :=
 jo fJ (body := (Code.sub (bodyC Tryz.f63) [1,1,1,1,0,0,0])) (by kernel_rfl) (rG p_b0 p_i p_m r0) (E5 p_b0 p_i p_m r0) (fun _=>.exit 2) (rH p_b0 p_i p_m r0) (fun r_=>rfl) (fun v_=>by kernel_rfl) h
def oq (p_b0:aK) (p_i:Int) (p_m:aj) (r0:((List ah))) (r1:((List Int))) (x0:Int) : Mo (((List Int))) :=
 .ite (x0 == (-1)) (fun c0 =>
 .say [.br true,.order [(true,0),(true,1),(true,2),(true,3),(true,4),(true,5),(true,6),(true,7),(false,8)] (some 8) []] (ok1 c0) <|
 .ask (cO r1 p_m.aJ) fun x1 h0 =>
 .say [.row (lfI x1),.rows ((r1.set p_m.aJ.toNat p_i).map lfI)] (okc (bM lI_ h0) (okc (st_ lI_ r1 p_m.aJ.toNat p_i) (ok1 ((bf lI_ h0).2)))) <|
 .rt [0,1,6] 7 (r1.set p_m.aJ.toNat p_i)) fun c0 =>
 .say [.br false] (ok1 c0) <|
 .rt [0,1,6] 7 (r1)
def yB (p_b0:aK) (p_i:Int) (p_m:aj) (r0:((List ah))) (r1:((List Int))) (x0:Int) : Option (((List Int))) := Mo.den (oq p_b0 p_i p_m r0 r1 x0)
def yC (p_b0:aK) (p_i:Int) (p_m:aj) (r0:((List ah))) (r_:((List Int))) : St := ⟨[(0,.ptr 0 0),(1,.i_ p_i),(6,.ptr 4 0)],[.box 81 (.agg [.own 1,.own 5,.own 6,.i_ p_b0.dh]),.row 25 12 ((p_b0.fm.set p_i.toNat p_m).map aj.lf),.dead,.dead,.box 25 (.dat (aj.lf1 p_m)),.row 63 9 (r0.map ah.lf),.row 3 1 (r_.map lfI)]⟩
theorem QZ {p_b0:aK} {p_i:Int} {p_m:aj} {r0:((List ah))} {r1:((List Int))} {x0:Int} {r_:((List Int))} (h:yB p_b0 p_i p_m r0 r1 x0 = some r_) : jq Tryz.f63 4 [1,1,1,1,1,0,1] (.normal) (yC p_b0 p_i p_m r0 r_) ⟨[(0,.ptr 0 0),(1,.i_ p_i),(6,.ptr 4 0),(85,.lf (.bool (x0 == (-1))))],[.box 81 (.agg [.own 1,.own 5,.own 6,.i_ p_b0.dh]),.row 25 12 ((p_b0.fm.set p_i.toNat p_m).map aj.lf),.dead,.dead,.box 25 (.dat (aj.lf1 p_m)),.row 63 9 (r0.map ah.lf),.row 3 1 (r1.map lfI)]⟩ :=
 jw fJ (oq p_b0 p_i p_m r0 r1 x0) (fun _=>.normal) (yC p_b0 p_i p_m r0) (by kernel_rfl) h
def UJ (p_i:Int) (p_m:aj) (p_l:List ah) (p_b0:aK) : Mo (Bool × aK) :=
 .say [.order [(true,0),(true,1),(true,2),(true,3),(true,4),(true,5),(true,6),(false,7)] (some 7) []] ok0 <|
 .ask (cO p_b0.fm p_i) fun x0 h0 =>
 .say [.row (aj.lf1 x0),.rows ((p_b0.fm.set p_i.toNat p_m).map aj.lf)] (okc (bM aj.aT h0) (okc (st_ aj.aT p_b0.fm p_i.toNat p_m) (ok1 ((bf aj.aT h0).2)))) <|
 .ask (Ar p_b0 p_i p_l p_m 0 p_b0.bD) fun r0 h1 =>
 .say [.part [.mvn 2] 0 [0,1,3,6,9] 6 (.exit 0) (wO p_b0 p_i p_m r0).T (wO p_b0 p_i p_m r0).H] (ok1 (UH h1)) <|
 .sj Tryz.f63 4 [1,1,1,0,0] [0,1,2,3,4,5,6,7] 6 8 [0,1,6] 6 (fun r_=>⟨[(0,.ptr 0 0),(1,.i_ p_i),(6,.ptr 4 0),(51,.b_ r_)],[.box 81 (.agg [.own 1,.own 5,.own 3,.i_ p_b0.dh]),.row 25 12 ((p_b0.fm.set p_i.toNat p_m).map aj.lf),.dead,.row 3 1 (p_b0.dw.map lfI),.box 25 (.dat (aj.lf1 p_m)),.row 63 9 (r0.map ah.lf)]⟩) ⟨[(0,.ptr 0 0),(1,.i_ p_i),(6,.ptr 4 0)],[.box 81 (.agg [.own 1,.own 5,.own 3,.i_ p_b0.dh]),.row 25 12 ((p_b0.fm.set p_i.toNat p_m).map aj.lf),.dead,.row 3 1 (p_b0.dw.map lfI),.box 25 (.dat (aj.lf1 p_m)),.row 63 9 (r0.map ah.lf)]⟩ (rE p_b0 p_i p_m r0).den (sW (by kernel_rfl)) fun r1 _ =>
 .sj Tryz.f63 4 [1,1,1,0,0] [8,9,10,11,12] 6 5 [0,1,6,51] 6 (fun r_=>⟨[(0,.ptr 0 0),(1,.i_ p_i),(6,.ptr 4 0),(56,.b_ r_)],[.box 81 (.agg [.own 1,.own 5,.own 3,.i_ p_b0.dh]),.row 25 12 ((p_b0.fm.set p_i.toNat p_m).map aj.lf),.dead,.row 3 1 (p_b0.dw.map lfI),.box 25 (.dat (aj.lf1 p_m)),.row 63 9 (r0.map ah.lf)]⟩) ⟨[(0,.ptr 0 0),(1,.i_ p_i),(6,.ptr 4 0),(51,.b_ r1)],[.box 81 (.agg [.own 1,.own 5,.own 3,.i_ p_b0.dh]),.row 25 12 ((p_b0.fm.set p_i.toNat p_m).map aj.lf),.dead,.row 3 1 (p_b0.dw.map lfI),.box 25 (.dat (aj.lf1 p_m)),.row 63 9 (r0.map ah.lf)]⟩ (rF p_b0 p_i p_m r0 r1).den (sW (by kernel_rfl)) fun r2 _ =>
 .iB (r2) (.ret ⟨[.kill 4,.mvn 1,.mvn 5,.mvn 3],[0],[(6,4),(7,5),(8,6)],7⟩ (decide ((0:Int) ≤ p_m.aJ),aK.mk (p_b0.fm.set p_i.toNat p_m) r0 p_b0.dw p_b0.dh)) <|
 .ask (uz p_b0 p_i p_m r0 p_b0.dw) fun r3 h2 =>
 .say [.part [.mvn 3] 0 [0,1,6] 7 (.exit 2) (rH p_b0 p_i p_m r0 r3).T (rH p_b0 p_i p_m r0 r3).H,.order [(true,0),(true,1),(true,2),(true,3),(true,4),(true,5),(true,6),(true,7),(true,8)] none []] (ok1 (QY h2)) <|
 .ask (cO r3 p_m.aJ) fun x1 h3 =>
 .say [.row (lfI x1)] (okc (bM lI_ h3) (ok1 ((bf lI_ h3).2))) <|
 .ask (yB p_b0 p_i p_m r0 r3 x1) fun r4 h4 =>
 .say [.pt_ 1 [0,1,6,85] 7 (.normal) (yC p_b0 p_i p_m r0 r4),.order [(true,0),(true,1),(true,2),(true,3),(true,4),(true,5),(true,6),(true,7),(true,8),(true,9),(true,10)] none []] (ok1 (QZ h4)) <|
 .ask (cO r4 p_m.aJ) fun x2 h5 =>
 .say [.row (lfI x2)] (okc (bM lI_ h5) (ok1 ((bf lI_ h5).2))) <|
 .ret ⟨[.kill 4,.mvn 1,.mvn 5,.mvn 6],[0],[(7,4),(8,5),(9,6)],7⟩ (x2 == p_i,aK.mk (p_b0.fm.set p_i.toNat p_m) r0 r4 p_b0.dh)
def Q1 (p_i:Int) (p_m:aj) (p_l:List ah) (p_b0:aK) : Option (Bool × aK) := Mo.den (UJ p_i p_m p_l p_b0)
theorem Wi (p_i:Int) (p_m:aj) (p_l:List ah) (p_b0:aK) : FH (Q1 p_i p_m p_l p_b0) 63 [.ptr 0 0,.i_ p_i,.dat (aj.lf1 p_m),.lf (.rows 9 (p_l.map ah.lf))] [.box 81 (.agg [.own 1,.own 2,.own 3,.i_ p_b0.dh]),.row 25 12 (p_b0.fm.map aj.lf),.row 63 9 (p_b0.bD.map ah.lf),.row 3 1 (p_b0.dw.map lfI)] (fun r=>.b_ r.1) (fun r=>[.box 81 (.agg [.own 4,.own 5,.own 6,.i_ r.2.dh]),.dead,.dead,.dead,.row 25 12 (r.2.fm.map aj.lf),.row 63 9 (r.2.bD.map ah.lf),.row 3 1 (r.2.dw.map lfI)]) := gy Tryz.func63 (by kernel_rfl) (fun _=>rfl) (by kernel_rfl)
def Jv (p_b0:aK) (p_i:Int) (p_m:aj) : Mo (Bool) :=
 .ite (decide ((0:Int) < 0)) (fun c0 =>
 .say [.gd 8004 true,.num p_b0.bD.length] (okc c0 (ok1 (ln_ p_b0.bD ah.lf))) <|
 .rt [0,1,3,6,9,28] 5 (decide (((p_b0.bD.length:Int) : Int) < 2000))) fun c0 =>
 .say [.gd 8004 false] (ok1 c0) <|
 .rt [0,1,3,6,9,28] 5 (false)
def Wj (p_b0:aK) (p_i:Int) (p_m:aj) : Option (Bool) := Mo.den (Jv p_b0 p_i p_m)
def BZ (p_b0:aK) (p_i:Int) (p_m:aj) (r_:Bool) : St := ⟨[(0,.ptr 0 0),(1,.i_ p_i),(3,.raw (.slice none 0 0)),(6,.ptr 4 0),(9,.i_ 0),(28,.b_ r_)],[.box 81 (.agg [.own 1,.own 2,.own 3,.i_ p_b0.dh]),.row 25 12 ((p_b0.fm.set p_i.toNat p_m).map aj.lf),.row 63 9 (p_b0.bD.map ah.lf),.row 3 1 (p_b0.dw.map lfI),.box 25 (.dat (aj.lf1 p_m))]⟩
theorem UK {p_b0:aK} {p_i:Int} {p_m:aj} {r_:Bool} (h:Wj p_b0 p_i p_m = some r_) : jq Tryz.f63 4 [1,1,0,1,0,0,0,0] (.normal) (BZ p_b0 p_i p_m r_) ⟨[(0,.ptr 0 0),(1,.i_ p_i),(3,.raw (.slice none 0 0)),(6,.ptr 4 0),(9,.i_ 0)],[.box 81 (.agg [.own 1,.own 2,.own 3,.i_ p_b0.dh]),.row 25 12 ((p_b0.fm.set p_i.toNat p_m).map aj.lf),.row 63 9 (p_b0.bD.map ah.lf),.row 3 1 (p_b0.dw.map lfI),.box 25 (.dat (aj.lf1 p_m))]⟩ :=
 jw fJ (Jv p_b0 p_i p_m) (fun _=>.normal) (BZ p_b0 p_i p_m) (by kernel_rfl) h
def UL (p_b0:aK) (p_i:Int) (p_m:aj) : Unit → Mo (Unit ⊕ Unit) := fun _ =>
 .ask (Wj p_b0 p_i p_m) fun r0 h0 =>
 .say [.pt_ 13 [0,1,3,6,9] 5 (.normal) (BZ p_b0 p_i p_m r0),.br false] (ok1 (UK h0)) <|
 .ite (r0) (fun c0 =>
 .stop) fun c0 =>
 .say [] (ok1 c0) <|
 .rt [0,1,6] 5 (.inr ())
def Jw (p_b0:aK) (p_i:Int) (p_m:aj) : Option (Unit) := dF (fun v_=>(UL p_b0 p_i p_m v_).den) FU ()
def E8 (p_b0:aK) (p_i:Int) (p_m:aj) : Mo (Bool) :=
 .iG 14003 (p_m.bQ != 2) (.rt [0,1,6,51] 5 (true)) <|
 .rt [0,1,6,51] 5 (decide ((p_m.aJ:Int) < 0))
def Fa (p_b0:aK) (p_i:Int) (p_m:aj) (r0:Bool) : Mo (Bool) :=
 .iG 14008 (r0) (.rt [0,1,6,56] 5 (true)) <|
 .rt [0,1,6,56] 5 (decide ((1000:Int) < p_m.aJ))
def Fb (p_b0:aK) (p_i:Int) (p_m:aj) : ((List Int)) → Mo (((List Int)) ⊕ ((List Int))) := fun (l0) =>
 .say [.order [(true,0),(true,1),(true,2),(true,3),(true,4),(true,5),(true,6),(true,7)] none [],.num l0.length] (ok1 (ln_ l0 lfI)) <|
 .ite (decide (((l0.length:Int) : Int) ≤ p_m.aJ)) (fun c0 =>
 .say [.br true,.rows ((l0 ++ [(-1)]).map lfI)] (okc c0 (ok1 (ap_ lI_ l0 (-1)))) <|
 .grd ((l0.length + [(-1)].length) * 8 ≤ 140737488355328) fun h0 =>
 .say [] (ok1 (cp_ lfI h0)) <|
 .ret ⟨[],[0,1,6],[(7,5)],6⟩ (.inl (l0 ++ [(-1)]))) fun c0 =>
 .say [.br false] (ok1 c0) <|
 .rt [0,1,6] 6 (.inr (l0))
def H8 (p_b0:aK) (p_i:Int) (p_m:aj) (l0:List Int) : Option (((List Int))) := dF (fun v_=>(Fb p_b0 p_i p_m v_).den) FU (l0)
def Fe (p_b0:aK) (p_i:Int) (p_m:aj) : ((List Int)) → St := fun (l0)=>⟨[(0,.ptr 0 0),(1,.i_ p_i),(6,.ptr 4 0)],[.box 81 (.agg [.own 1,.own 2,.own 5,.i_ p_b0.dh]),.row 25 12 ((p_b0.fm.set p_i.toNat p_m).map aj.lf),.row 63 9 (p_b0.bD.map ah.lf),.dead,.box 25 (.dat (aj.lf1 p_m)),.row 3 1 (l0.map lfI)]⟩
def rJ (p_b0:aK) (p_i:Int) (p_m:aj) (r_:((List Int))) : St := ⟨[(0,.ptr 0 0),(1,.i_ p_i),(6,.ptr 4 0)],[.box 81 (.agg [.own 1,.own 2,.own 5,.i_ p_b0.dh]),.row 25 12 ((p_b0.fm.set p_i.toNat p_m).map aj.lf),.row 63 9 (p_b0.bD.map ah.lf),.dead,.box 25 (.dat (aj.lf1 p_m)),.row 3 1 (r_.map lfI)]⟩
theorem Rf {p_b0:aK} {p_i:Int} {p_m:aj} {l0:List Int} {r_:((List Int))} (h:H8 p_b0 p_i p_m l0 = some r_) : jq Tryz.f63 4 [1,1,1,1,0,0] (.exit 2) (rJ p_b0 p_i p_m r_) (Fe p_b0 p_i p_m (l0)) :=
 jo fJ (body := (Code.sub (bodyC Tryz.f63) [1,1,1,1,0,0,0])) (by kernel_rfl) (Fb p_b0 p_i p_m) (Fe p_b0 p_i p_m) (fun _=>.exit 2) (rJ p_b0 p_i p_m) (fun r_=>rfl) (fun v_=>by kernel_rfl) h
def yD (p_b0:aK) (p_i:Int) (p_m:aj) (r0:((List Int))) (x0:Int) : Mo (((List Int))) :=
 .ite (x0 == (-1)) (fun c0 =>
 .say [.br true,.order [(true,0),(true,1),(true,2),(true,3),(true,4),(true,5),(true,6),(true,7),(false,8)] (some 8) []] (ok1 c0) <|
 .ask (cO r0 p_m.aJ) fun x1 h0 =>
 .say [.row (lfI x1),.rows ((r0.set p_m.aJ.toNat p_i).map lfI)] (okc (bM lI_ h0) (okc (st_ lI_ r0 p_m.aJ.toNat p_i) (ok1 ((bf lI_ h0).2)))) <|
 .rt [0,1,6] 6 (r0.set p_m.aJ.toNat p_i)) fun c0 =>
 .say [.br false] (ok1 c0) <|
 .rt [0,1,6] 6 (r0)
def H9 (p_b0:aK) (p_i:Int) (p_m:aj) (r0:((List Int))) (x0:Int) : Option (((List Int))) := Mo.den (yD p_b0 p_i p_m r0 x0)
def yE (p_b0:aK) (p_i:Int) (p_m:aj) (r_:((List Int))) : St := ⟨[(0,.ptr 0 0),(1,.i_ p_i),(6,.ptr 4 0)],[.box 81 (.agg [.own 1,.own 2,.own 5,.i_ p_b0.dh]),.row 25 12 ((p_b0.fm.set p_i.toNat p_m).map aj.lf),.row 63 9 (p_b0.bD.map ah.lf),.dead,.box 25 (.dat (aj.lf1 p_m)),.row 3 1 (r_.map lfI)]⟩
theorem Rh {p_b0:aK} {p_i:Int} {p_m:aj} {r0:((List Int))} {x0:Int} {r_:((List Int))} (h:H9 p_b0 p_i p_m r0 x0 = some r_) : jq Tryz.f63 4 [1,1,1,1,1,0,1] (.normal) (yE p_b0 p_i p_m r_) ⟨[(0,.ptr 0 0),(1,.i_ p_i),(6,.ptr 4 0),(85,.lf (.bool (x0 == (-1))))],[.box 81 (.agg [.own 1,.own 2,.own 5,.i_ p_b0.dh]),.row 25 12 ((p_b0.fm.set p_i.toNat p_m).map aj.lf),.row 63 9 (p_b0.bD.map ah.lf),.dead,.box 25 (.dat (aj.lf1 p_m)),.row 3 1 (r0.map lfI)]⟩ :=
 jw fJ (yD p_b0 p_i p_m r0 x0) (fun _=>.normal) (yE p_b0 p_i p_m) (by kernel_rfl) h
def Y5 (p_i:Int) (p_m:aj) (p_b0:aK) : Mo (Bool × aK) :=
 .say [.order [(true,0),(true,1),(true,2),(true,3),(true,4),(true,5),(true,6),(false,7)] (some 7) []] ok0 <|
 .ask (cO p_b0.fm p_i) fun x0 h0 =>
 .say [.row (aj.lf1 x0),.rows ((p_b0.fm.set p_i.toNat p_m).map aj.lf)] (okc (bM aj.aT h0) (okc (st_ aj.aT p_b0.fm p_i.toNat p_m) (ok1 ((bf aj.aT h0).2)))) <|
 .lp Tryz.f63 4 [1,1,0,1,0] 0 [0,1,3,6,9] 5 (.exit 0) (fun r_=>⟨[(0,.ptr 0 0),(1,.i_ p_i),(6,.ptr 4 0)],[.box 81 (.agg [.own 1,.own 2,.own 3,.i_ p_b0.dh]),.row 25 12 ((p_b0.fm.set p_i.toNat p_m).map aj.lf),.row 63 9 (p_b0.bD.map ah.lf),.row 3 1 (p_b0.dw.map lfI),.box 25 (.dat (aj.lf1 p_m))]⟩) (Jw p_b0 p_i p_m) (lW (fun _=>⟨[(0,.ptr 0 0),(1,.i_ p_i),(3,.raw (.slice none 0 0)),(6,.ptr 4 0),(9,.i_ 0)],[.box 81 (.agg [.own 1,.own 2,.own 3,.i_ p_b0.dh]),.row 25 12 ((p_b0.fm.set p_i.toNat p_m).map aj.lf),.row 63 9 (p_b0.bD.map ah.lf),.row 3 1 (p_b0.dw.map lfI),.box 25 (.dat (aj.lf1 p_m))]⟩) (by kernel_rfl) rfl fun v_=>by kernel_rfl) fun r0 _ =>
 .sj Tryz.f63 4 [1,1,1,0,0] [0,1,2,3,4,5,6,7] 6 8 [0,1,6] 5 (fun r_=>⟨[(0,.ptr 0 0),(1,.i_ p_i),(6,.ptr 4 0),(51,.b_ r_)],[.box 81 (.agg [.own 1,.own 2,.own 3,.i_ p_b0.dh]),.row 25 12 ((p_b0.fm.set p_i.toNat p_m).map aj.lf),.row 63 9 (p_b0.bD.map ah.lf),.row 3 1 (p_b0.dw.map lfI),.box 25 (.dat (aj.lf1 p_m))]⟩) ⟨[(0,.ptr 0 0),(1,.i_ p_i),(6,.ptr 4 0)],[.box 81 (.agg [.own 1,.own 2,.own 3,.i_ p_b0.dh]),.row 25 12 ((p_b0.fm.set p_i.toNat p_m).map aj.lf),.row 63 9 (p_b0.bD.map ah.lf),.row 3 1 (p_b0.dw.map lfI),.box 25 (.dat (aj.lf1 p_m))]⟩ (E8 p_b0 p_i p_m).den (sW (by kernel_rfl)) fun r1 _ =>
 .sj Tryz.f63 4 [1,1,1,0,0] [8,9,10,11,12] 6 5 [0,1,6,51] 5 (fun r_=>⟨[(0,.ptr 0 0),(1,.i_ p_i),(6,.ptr 4 0),(56,.b_ r_)],[.box 81 (.agg [.own 1,.own 2,.own 3,.i_ p_b0.dh]),.row 25 12 ((p_b0.fm.set p_i.toNat p_m).map aj.lf),.row 63 9 (p_b0.bD.map ah.lf),.row 3 1 (p_b0.dw.map lfI),.box 25 (.dat (aj.lf1 p_m))]⟩) ⟨[(0,.ptr 0 0),(1,.i_ p_i),(6,.ptr 4 0),(51,.b_ r1)],[.box 81 (.agg [.own 1,.own 2,.own 3,.i_ p_b0.dh]),.row 25 12 ((p_b0.fm.set p_i.toNat p_m).map aj.lf),.row 63 9 (p_b0.bD.map ah.lf),.row 3 1 (p_b0.dw.map lfI),.box 25 (.dat (aj.lf1 p_m))]⟩ (Fa p_b0 p_i p_m r1).den (sW (by kernel_rfl)) fun r2 _ =>
 .iB (r2) (.ret ⟨[.kill 4,.mvn 1,.mvn 2,.mvn 3],[0],[(5,4),(6,5),(7,6)],7⟩ (decide ((0:Int) ≤ p_m.aJ),aK.mk (p_b0.fm.set p_i.toNat p_m) p_b0.bD p_b0.dw p_b0.dh)) <|
 .ask (H8 p_b0 p_i p_m p_b0.dw) fun r3 h1 =>
 .say [.part [.mvn 3] 0 [0,1,6] 6 (.exit 2) (rJ p_b0 p_i p_m r3).T (rJ p_b0 p_i p_m r3).H,.order [(true,0),(true,1),(true,2),(true,3),(true,4),(true,5),(true,6),(true,7),(true,8)] none []] (ok1 (Rf h1)) <|
 .ask (cO r3 p_m.aJ) fun x1 h2 =>
 .say [.row (lfI x1)] (okc (bM lI_ h2) (ok1 ((bf lI_ h2).2))) <|
 .ask (H9 p_b0 p_i p_m r3 x1) fun r4 h3 =>
 .say [.pt_ 1 [0,1,6,85] 6 (.normal) (yE p_b0 p_i p_m r4),.order [(true,0),(true,1),(true,2),(true,3),(true,4),(true,5),(true,6),(true,7),(true,8),(true,9),(true,10)] none []] (ok1 (Rh h3)) <|
 .ask (cO r4 p_m.aJ) fun x2 h4 =>
 .say [.row (lfI x2)] (okc (bM lI_ h4) (ok1 ((bf lI_ h4).2))) <|
 .ret ⟨[.kill 4,.mvn 1,.mvn 2,.mvn 5],[0],[(6,4),(7,5),(8,6)],7⟩ (x2 == p_i,aK.mk (p_b0.fm.set p_i.toNat p_m) p_b0.bD r4 p_b0.dh)
def Q2 (p_i:Int) (p_m:aj) (p_b0:aK) : Option (Bool × aK) := Mo.den (Y5 p_i p_m p_b0)
theorem Y6 (p_i:Int) (p_m:aj) (p_b0:aK) : FH (Q2 p_i p_m p_b0) 63 [.ptr 0 0,.i_ p_i,.dat (aj.lf1 p_m),.raw (.slice none 0 0)] [.box 81 (.agg [.own 1,.own 2,.own 3,.i_ p_b0.dh]),.row 25 12 (p_b0.fm.map aj.lf),.row 63 9 (p_b0.bD.map ah.lf),.row 3 1 (p_b0.dw.map lfI)] (fun r=>.b_ r.1) (fun r=>[.box 81 (.agg [.own 4,.own 5,.own 6,.i_ r.2.dh]),.dead,.dead,.dead,.row 25 12 (r.2.fm.map aj.lf),.row 63 9 (r.2.bD.map ah.lf),.row 3 1 (r.2.dw.map lfI)]) := gy Tryz.func63 (by kernel_rfl) (fun _=>rfl) (by kernel_rfl)
def yF (p_b0:aK) (x0:ah) : Mo (Bool) :=
 .say [.order [(true,0),(true,1),(true,2),(true,3),(true,4),(true,5),(true,6),(true,7),(true,8),(true,9),(true,10),(true,11),(true,12)] none []] ok0 <|
 .ite (decide ((x0.fTo:Int) < 0)) (fun c0 =>
 .say [.gd 14003 true] (ok1 c0) <|
 .rt [0,5,51] 6 (true)) fun c0 =>
 .say [.gd 14003 false,.num p_b0.fm.length] (okc c0 (ok1 (ln_ p_b0.fm aj.lf))) <|
 .rt [0,5,51] 6 (decide (((p_b0.fm.length:Int) : Int) ≤ x0.fTo))
def Ia (p_b0:aK) (x0:ah) : Option (Bool) := Mo.den (yF p_b0 x0)
def rM (p_b0:aK) (x0:ah) (r_:Bool) : St := ⟨[(0,.ptr 0 0),(5,.ptr 5 0),(51,.b_ r_)],[.box 81 (.agg [.own 1,.own 2,.own 3,.i_ p_b0.dh]),.row 25 12 (p_b0.fm.map aj.lf),.row 63 9 (p_b0.bD.map ah.lf),.row 3 1 (p_b0.dw.map lfI),.dead,.box 63 (.agg ((ah.lf1 x0).map AV.lf))]⟩
theorem Ri {p_b0:aK} {x0:ah} {r_:Bool} (h:Ia p_b0 x0 = some r_) : jq Tryz.f30 4 [1,0,1,0,1,0,1,1,0,0] (.normal) (rM p_b0 x0 r_) ⟨[(0,.ptr 0 0),(5,.ptr 5 0)],[.box 81 (.agg [.own 1,.own 2,.own 3,.i_ p_b0.dh]),.row 25 12 (p_b0.fm.map aj.lf),.row 63 9 (p_b0.bD.map ah.lf),.row 3 1 (p_b0.dw.map lfI),.dead,.box 63 (.agg ((ah.lf1 x0).map AV.lf))]⟩ :=
 jw fJ (yF p_b0 x0) (fun _=>.normal) (rM p_b0 x0) (by kernel_rfl) h
def Wp (p_s:aZ) (p_b0:aK) : Mo (Bool × aK) :=
 .ite (p_s.bT == 1) (fun c0 =>
 .say [.br true,.num p_b0.bD.length] (okc c0 (ok1 (ln_ p_b0.bD ah.lf))) <|
 .ite ((p_b0.bD.length:Int) == 0) (fun c1 =>
 .say [.br true] (ok1 c1) <|
 .ret ⟨[.kill 4,.mvn 1,.mvn 2,.mvn 3],[0],[(5,4),(6,5),(7,6)],7⟩ (true,p_b0)) fun c1 =>
 .say [.br false,.order [(true,0),(true,1),(true,2),(true,3),(true,4),(true,5),(true,6),(true,7),(true,8),(true,9),(true,10),(true,11),(true,12),(true,13),(false,14),(false,15)] (some 15) [5],.num p_b0.bD.length] (okc c1 (ok1 (ln_ p_b0.bD ah.lf))) <|
 .grd ((p_b0.bD.length:Int) ≠ 0) fun h0 =>
 .say [] (ok1 h0) <|
 .ask (cO p_b0.bD (Int.tmod p_s.fA (p_b0.bD.length:Int))) fun x0 h1 =>
 .say [.row (ah.lf1 x0)] (okc (bM ah.aT h1) (ok1 ((bf ah.aT h1).2))) <|
 .ask (Ia p_b0 x0) fun r0 h2 =>
 .say [.part [.kill 4] 19 [0,5] 6 (.normal) (rM p_b0 x0 r0).T (rM p_b0 x0 r0).H] (ok1 (Ri h2)) <|
 .iB (r0) (.ret ⟨[.kill 5,.mvn 1,.mvn 2,.mvn 3],[0],[(6,4),(7,5),(8,6)],7⟩ (false,p_b0)) <|
 .ask (cO p_b0.fm x0.fTo) fun x1 h3 =>
 .say [] (okc (bM aj.aT h3) (ok1 ((bf aj.aT h3).2))) <|
 .ask (Q11 x1 x0) fun r1 h4 =>
 .say [.fQ (.q 0 (.q 1 (.q 2 (.q 3 (.q 4 (.q 5 (.q 6 (.q 7 (.q 8 (.alt 9 (.q 10 (.q 11 (.q 12 (.q 13 (.alt 14 (.l 15 (.l 16 (.q 17 (.l 18 .fin)))) (.l 15 (.l 14 (.l 16 (.q 17 (.l 18 .fin)))))))))) (.alt 14 (.alt 9 (.q 10 (.q 11 (.q 12 (.q 13 (.l 15 (.l 16 (.q 17 (.l 18 .fin)))))))) (.l 15 (.l 9 (.q 10 (.q 11 (.q 12 (.q 13 (.l 16 (.q 17 (.l 18 .fin)))))))))) (.l 15 (.alt 9 (.q 10 (.q 11 (.q 12 (.q 13 (.l 14 (.l 16 (.q 17 (.l 18 .fin)))))))) (.l 14 (.l 9 (.q 10 (.q 11 (.q 12 (.q 13 (.l 16 (.q 17 (.l 18 .fin)))))))))))))))))))))) (some 18) [6,7] [.row (aj.lf1 x1),.both [.at_ 18 9,.resv 2,.res (.tup [.dat (aj.lf1 r1.1),.lf (.rows 9 (r1.2.1.map ah.lf)),.dat (bU.lf1 r1.2.2)]),.both [.slot 6,.slot 7] [.slot 7,.slot 6]] [.both [.at_ 18 14,.resv 2,.slot 6,.both [.res (.tup [.dat (aj.lf1 r1.1),.lf (.rows 9 (r1.2.1.map ah.lf)),.dat (bU.lf1 r1.2.2)]),.slot 7] [.slot 7,.res (.tup [.dat (aj.lf1 r1.1),.lf (.rows 9 (r1.2.1.map ah.lf)),.dat (bU.lf1 r1.2.2)])]] [.at_ 18 15,.resv 2,.slot 7,.both [.res (.tup [.dat (aj.lf1 r1.1),.lf (.rows 9 (r1.2.1.map ah.lf)),.dat (bU.lf1 r1.2.2)]),.slot 6] [.slot 6,.res (.tup [.dat (aj.lf1 r1.1),.lf (.rows 9 (r1.2.1.map ah.lf)),.dat (bU.lf1 r1.2.2)])]]]] [0,5,6,7] 8 [(0,.ptr 0 0),(5,.ptr 5 0),(6,.ptr 6 0),(7,.lf (.rows 9 (r1.2.1.map ah.lf)))] [.box 81 (.agg [.own 1,.own 2,.own 3,.i_ p_b0.dh]),.row 25 12 (p_b0.fm.map aj.lf),.row 63 9 (p_b0.bD.map ah.lf),.row 3 1 (p_b0.dw.map lfI),.dead,.box 63 (.agg ((ah.lf1 x0).map AV.lf)),.box 25 (.agg ((aj.lf1 r1.1).map AV.lf)),.box 67 (.agg [.i_ r1.2.2.dZ,.i_ r1.2.2.aJ,.i_ r1.2.2.fAt,.lf (.rows 82 (r1.2.2.aQ.map ak.lf))])],.at_ 20 5,.tod 69] (okc (uw _ _ _ h4) (okc (rf_ ⟨[(0,.ptr 0 0),(5,.ptr 5 0),(6,.ptr 6 0),(7,.lf (.rows 9 (r1.2.1.map ah.lf)))],[.box 81 (.agg [.own 1,.own 2,.own 3,.i_ p_b0.dh]),.row 25 12 (p_b0.fm.map aj.lf),.row 63 9 (p_b0.bD.map ah.lf),.row 3 1 (p_b0.dw.map lfI),.dead,.box 63 (.agg ((ah.lf1 x0).map AV.lf)),.box 25 (.agg ((aj.lf1 r1.1).map AV.lf)),.box 67 (.agg [.i_ r1.2.2.dZ,.i_ r1.2.2.aJ,.i_ r1.2.2.fAt,.lf (.rows 82 (r1.2.2.aQ.map ak.lf))])]⟩) (okc (rf_ ⟨[(0,.ptr 0 0),(5,.ptr 5 0),(6,.ptr 6 0),(7,.lf (.rows 9 (r1.2.1.map ah.lf)))],[.box 81 (.agg [.own 1,.own 2,.own 3,.i_ p_b0.dh]),.row 25 12 (p_b0.fm.map aj.lf),.row 63 9 (p_b0.bD.map ah.lf),.row 3 1 (p_b0.dw.map lfI),.dead,.box 63 (.agg ((ah.lf1 x0).map AV.lf)),.box 25 (.agg ((aj.lf1 r1.1).map AV.lf)),.box 67 (.agg [.i_ r1.2.2.dZ,.i_ r1.2.2.aJ,.i_ r1.2.2.fAt,.lf (.rows 82 (r1.2.2.aQ.map ak.lf))])]⟩) (okc (uw _ _ _ h4) (okc (rf_ ⟨[(0,.ptr 0 0),(5,.ptr 5 0),(6,.ptr 6 0),(7,.lf (.rows 9 (r1.2.1.map ah.lf)))],[.box 81 (.agg [.own 1,.own 2,.own 3,.i_ p_b0.dh]),.row 25 12 (p_b0.fm.map aj.lf),.row 63 9 (p_b0.bD.map ah.lf),.row 3 1 (p_b0.dw.map lfI),.dead,.box 63 (.agg ((ah.lf1 x0).map AV.lf)),.box 25 (.agg ((aj.lf1 r1.1).map AV.lf)),.box 67 (.agg [.i_ r1.2.2.dZ,.i_ r1.2.2.aJ,.i_ r1.2.2.fAt,.lf (.rows 82 (r1.2.2.aQ.map ak.lf))])]⟩) (okc (uw _ _ _ h4) (okc (rf_ ⟨[(0,.ptr 0 0),(5,.ptr 5 0),(6,.ptr 6 0),(7,.lf (.rows 9 (r1.2.1.map ah.lf)))],[.box 81 (.agg [.own 1,.own 2,.own 3,.i_ p_b0.dh]),.row 25 12 (p_b0.fm.map aj.lf),.row 63 9 (p_b0.bD.map ah.lf),.row 3 1 (p_b0.dw.map lfI),.dead,.box 63 (.agg ((ah.lf1 x0).map AV.lf)),.box 25 (.agg ((aj.lf1 r1.1).map AV.lf)),.box 67 (.agg [.i_ r1.2.2.dZ,.i_ r1.2.2.aJ,.i_ r1.2.2.fAt,.lf (.rows 82 (r1.2.2.aQ.map ak.lf))])]⟩) (okc (uw _ _ _ h4) (okc (rf_ ⟨[(0,.ptr 0 0),(5,.ptr 5 0),(6,.ptr 6 0),(7,.lf (.rows 9 (r1.2.1.map ah.lf)))],[.box 81 (.agg [.own 1,.own 2,.own 3,.i_ p_b0.dh]),.row 25 12 (p_b0.fm.map aj.lf),.row 63 9 (p_b0.bD.map ah.lf),.row 3 1 (p_b0.dw.map lfI),.dead,.box 63 (.agg ((ah.lf1 x0).map AV.lf)),.box 25 (.agg ((aj.lf1 r1.1).map AV.lf)),.box 67 (.agg [.i_ r1.2.2.dZ,.i_ r1.2.2.aJ,.i_ r1.2.2.fAt,.lf (.rows 82 (r1.2.2.aQ.map ak.lf))])]⟩) (okc (uw _ _ _ h4) (ok1 (rf_ ⟨[(0,.ptr 0 0),(5,.ptr 5 0),(6,.ptr 6 0),(7,.lf (.rows 9 (r1.2.1.map ah.lf)))],[.box 81 (.agg [.own 1,.own 2,.own 3,.i_ p_b0.dh]),.row 25 12 (p_b0.fm.map aj.lf),.row 63 9 (p_b0.bD.map ah.lf),.row 3 1 (p_b0.dw.map lfI),.dead,.box 63 (.agg ((ah.lf1 x0).map AV.lf)),.box 25 (.agg ((aj.lf1 r1.1).map AV.lf)),.box 67 (.agg [.i_ r1.2.2.dZ,.i_ r1.2.2.aJ,.i_ r1.2.2.fAt,.lf (.rows 82 (r1.2.2.aQ.map ak.lf))])]⟩)))))))))))) <|
 .cH [0,1,2,3] (Wi x0.fTo r1.1 r1.2.1 p_b0) fun r2 _ =>
 .ret ⟨[.kill 5,.kill 6,.kill 7,.mvn 8,.mvn 9,.mvn 10],[0],[(11,4),(12,5),(13,6)],7⟩ (r2.1,r2.2)) fun c0 =>
 .say [.br false] (ok1 c0) <|
 .ite (p_s.bT == 2) (fun c2 =>
 .say [.br true,.order [(true,0),(true,1),(true,2),(true,3),(true,4),(true,5),(true,6),(true,7),(true,8)] none [],.num p_b0.fm.length] (okc c2 (ok1 (ln_ p_b0.fm aj.lf))) <|
 .grd ((p_b0.fm.length:Int) ≠ 0) fun h5 =>
 .say [] (ok1 h5) <|
 .ask (cO p_b0.fm (Int.tmod p_s.fA (p_b0.fm.length:Int))) fun x2 h6 =>
 .say [.row (aj.lf1 x2)] (okc (bM aj.aT h6) (ok1 ((bf aj.aT h6).2))) <|
 .ask (Q99 x2) fun r3 h7 =>
 .say [.res (.tup [.dat (aj.lf1 r3.1),.lf (.rows 9 (r3.2.map ah.lf))]),.at_ 28 4,.tod 95] (ok1 (QN _ _ h7)) <|
 .cH [0,1,2,3] (Wi (Int.tmod p_s.fA (p_b0.fm.length:Int)) r3.1 r3.2 p_b0) fun r4 _ =>
 .ret ⟨[.kill 4,.kill 5,.mvn 6,.mvn 7,.mvn 8],[0],[(9,4),(10,5),(11,6)],7⟩ (r4.1,r4.2)) fun c2 =>
 .say [.br false] (ok1 c2) <|
 .ite (p_s.bT == 3) (fun c3 =>
 .say [.br true,.order [(true,0),(true,1),(true,2),(true,3),(true,4),(true,5),(true,6),(true,7),(true,8)] none [],.num p_b0.fm.length] (okc c3 (ok1 (ln_ p_b0.fm aj.lf))) <|
 .grd ((p_b0.fm.length:Int) ≠ 0) fun h8 =>
 .say [] (ok1 h8) <|
 .ask (cO p_b0.fm (Int.tmod p_s.fA (p_b0.fm.length:Int))) fun x3 h9 =>
 .say [] (okc (bM aj.aT h9) (ok1 ((bf aj.aT h9).2))) <|
 .ask (cO p_b0.fm (Int.tmod p_s.fA (p_b0.fm.length:Int))) fun x4 h10 =>
 .say [] (okc (bM aj.aT h10) (ok1 ((bf aj.aT h10).2))) <|
 .ask (Q59 x4.aJ (IntKind.wrap .i64 (p_b0.dh + 1))) fun r5 h11 =>
 .say [] (ok1 (xQ _ _ _ h11)) <|
 .ask (Q16 x3 r5) fun r6 h12 =>
 .say [.fQ (.q 0 (.q 1 (.q 2 (.q 3 (.q 4 (.q 5 (.q 6 (.q 7 (.q 8 (.q 9 (.q 10 (.q 11 (.q 12 (.q 13 (.q 14 (.q 15 (.q 16 (.q 17 (.q 18 (.alt 19 (.alt 20 (.q 21 (.q 22 (.q 23 (.l 24 (.l 25 (.q 26 .fin)))))) (.l 24 (.l 20 (.q 21 (.q 22 (.q 23 (.l 25 (.q 26 .fin)))))))) (.l 24 (.l 19 (.l 20 (.q 21 (.q 22 (.q 23 (.l 25 (.q 26 .fin)))))))))))))))))))))))))))) none [5] [.row (aj.lf1 x3),.row (aj.lf1 x4),.both [.at_ 36 19,.resv 1,.res (.dat (ak.lf1 r5)),.both [.res (.tup [.dat (aj.lf1 r6.1),.i_ r6.2]),.slot 5] [.slot 5,.res (.tup [.dat (aj.lf1 r6.1),.i_ r6.2])]] [.at_ 36 24,.resv 1,.slot 5,.res (.dat (ak.lf1 r5)),.res (.tup [.dat (aj.lf1 r6.1),.i_ r6.2])]] [0,12,13,14] 6 [(0,.ptr 0 0),(12,.i_ (Int.tmod p_s.fA (p_b0.fm.length:Int))),(13,.ptr 5 0),(14,.i_ r6.2)] [.box 81 (.agg [.own 1,.own 2,.own 3,.i_ (IntKind.wrap .i64 (p_b0.dh + 1))]),.row 25 12 (p_b0.fm.map aj.lf),.row 63 9 (p_b0.bD.map ah.lf),.row 3 1 (p_b0.dw.map lfI),.box 84 (.dat (aZ.lf1 p_s)),.box 25 (.agg ((aj.lf1 r6.1).map AV.lf))]] (okc (uy _ _ _ h12) (okc (rf_ ⟨[(0,.ptr 0 0),(12,.i_ (Int.tmod p_s.fA (p_b0.fm.length:Int))),(13,.ptr 5 0),(14,.i_ r6.2)],[.box 81 (.agg [.own 1,.own 2,.own 3,.i_ (IntKind.wrap .i64 (p_b0.dh + 1))]),.row 25 12 (p_b0.fm.map aj.lf),.row 63 9 (p_b0.bD.map ah.lf),.row 3 1 (p_b0.dw.map lfI),.box 84 (.dat (aZ.lf1 p_s)),.box 25 (.agg ((aj.lf1 r6.1).map AV.lf))]⟩) (okc (uy _ _ _ h12) (okc (rf_ ⟨[(0,.ptr 0 0),(12,.i_ (Int.tmod p_s.fA (p_b0.fm.length:Int))),(13,.ptr 5 0),(14,.i_ r6.2)],[.box 81 (.agg [.own 1,.own 2,.own 3,.i_ (IntKind.wrap .i64 (p_b0.dh + 1))]),.row 25 12 (p_b0.fm.map aj.lf),.row 63 9 (p_b0.bD.map ah.lf),.row 3 1 (p_b0.dw.map lfI),.box 84 (.dat (aZ.lf1 p_s)),.box 25 (.agg ((aj.lf1 r6.1).map AV.lf))]⟩) (okc (xQ _ _ _ h11) (okc (uy _ _ _ h12) (ok1 (rf_ ⟨[(0,.ptr 0 0),(12,.i_ (Int.tmod p_s.fA (p_b0.fm.length:Int))),(13,.ptr 5 0),(14,.i_ r6.2)],[.box 81 (.agg [.own 1,.own 2,.own 3,.i_ (IntKind.wrap .i64 (p_b0.dh + 1))]),.row 25 12 (p_b0.fm.map aj.lf),.row 63 9 (p_b0.bD.map ah.lf),.row 3 1 (p_b0.dw.map lfI),.box 84 (.dat (aZ.lf1 p_s)),.box 25 (.agg ((aj.lf1 r6.1).map AV.lf))]⟩)))))))) <|
 .ite (r6.2 != 0) (fun c4 =>
 .say [.br true] (ok1 c4) <|
 .ret ⟨[.kill 4,.kill 5,.mvn 1,.mvn 2,.mvn 3],[0],[(6,4),(7,5),(8,6)],7⟩ (true,aK.mk p_b0.fm p_b0.bD p_b0.dw (IntKind.wrap .i64 (p_b0.dh + 1)))) fun c4 =>
 .say [.br false,.at_ 42 3,.tod 143] (ok1 c4) <|
 .cH [0,1,2,3] (Y6 (Int.tmod p_s.fA (p_b0.fm.length:Int)) r6.1 (aK.mk p_b0.fm p_b0.bD p_b0.dw (IntKind.wrap .i64 (p_b0.dh + 1)))) fun r7 _ =>
 .ret ⟨[.kill 4,.kill 5,.mvn 6,.mvn 7,.mvn 8],[0],[(9,4),(10,5),(11,6)],7⟩ (r7.1,r7.2)) fun c3 =>
 .say [.br false] (ok1 c3) <|
 .ret ⟨[.kill 4,.mvn 1,.mvn 2,.mvn 3],[0],[(5,4),(6,5),(7,6)],7⟩ (true,p_b0)
def Q17 (p_s:aZ) (p_b0:aK) : Option (Bool × aK) := Mo.den (Wp p_s p_b0)
theorem X8 (p_s:aZ) (p_b0:aK) : FH (Q17 p_s p_b0) 30 [.ptr 0 0,.dat (aZ.lf1 p_s)] [.box 81 (.agg [.own 1,.own 2,.own 3,.i_ p_b0.dh]),.row 25 12 (p_b0.fm.map aj.lf),.row 63 9 (p_b0.bD.map ah.lf),.row 3 1 (p_b0.dw.map lfI)] (fun r=>.b_ r.1) (fun r=>[.box 81 (.agg [.own 4,.own 5,.own 6,.i_ r.2.dh]),.dead,.dead,.dead,.row 25 12 (r.2.fm.map aj.lf),.row 63 9 (r.2.bD.map ah.lf),.row 3 1 (r.2.dw.map lfI)]) := gy Tryz.func30 (by kernel_rfl) (fun _=>rfl) (by kernel_rfl)
def Wq (p_a:ak) (p_b:ak) : Mo (Bool) :=
 .iG 4005 (p_a.aJ == p_b.aJ) (.ret (cZ 1) (p_a.dS == p_b.dS)) <|
 .ret (cZ 1) (false)
def Q83 (p_a:ak) (p_b:ak) : Option (Bool) := Mo.den (Wq p_a p_b)
theorem Rj (p_a:ak) (p_b:ak) : FV (Q83 p_a p_b) 65 [.dat (ak.lf1 p_a),.dat (ak.lf1 p_b)] (fun r=>.b_ r) := eG Tryz.func65 (by kernel_rfl) (fun _=>rfl) (by kernel_rfl)
def Fg (p_a:List ak) (p_b:List ak) (v0:Int) : Mo (Bool) :=
 .say [] (ok1 (ln_ p_a ak.lf)) <|
 .ite (decide ((v0:Int) < (p_a.length:Int))) (fun c0 =>
 .say [] (okc c0 (ok1 (ln_ p_b ak.lf))) <|
 .ite (decide ((v0:Int) < (p_b.length:Int))) (fun c1 =>
 .say [] (ok1 c1) <|
 .ask (cO p_a v0) fun x0 h0 =>
 .say [] (ok1 (bf ak.aT h0)) <|
 .ask (cO p_b v0) fun x1 h1 =>
 .say [] (ok1 (bf ak.aT h1)) <|
 .ask (Q83 x0 x1) fun r0 h2 =>
 .say [.fQ (.q 0 (.q 1 (.q 2 (.q 3 (.q 4 (.q 5 (.q 6 (.q 7 (.q 8 (.q 9 (.q 10 (.q 11 (.q 12 (.q 13 (.q 14 (.q 15 (.q 16 (.q 17 (.q 18 (.l 19 (.q 20 .fin))))))))))))))))))))) (some 19) [] [.num p_a.length,.gd 6004 true,.num p_b.length,.gd 6010 true,.row (ak.lf1 x0),.row (ak.lf1 x1),.res (.b_ r0)] [0,1,5,26] 0 [(0,.lf (.rows 82 (p_a.map ak.lf))),(1,.lf (.rows 82 (p_b.map ak.lf))),(5,.i_ v0),(26,.b_ r0)] []] (okc (Rj _ _ _ h2) (ok1 (rf_ ⟨[(0,.lf (.rows 82 (p_a.map ak.lf))),(1,.lf (.rows 82 (p_b.map ak.lf))),(5,.i_ v0),(26,.b_ r0)],[]⟩))) <|
 .rt [0,1,5,26] 0 (r0)) fun c1 =>
 .say [.fQ (.q 0 (.q 1 (.q 2 (.q 3 (.q 4 (.q 5 (.q 6 (.q 7 (.q 8 (.q 9 (.q 10 (.q 11 (.q 12 (.q 13 (.q 14 (.q 15 (.q 16 (.q 17 (.q 18 (.l 19 (.q 20 .fin))))))))))))))))))))) (some 19) [] [.num p_a.length,.gd 6004 true,.num p_b.length,.gd 6010 false] [0,1,5,26] 0 [(0,.lf (.rows 82 (p_a.map ak.lf))),(1,.lf (.rows 82 (p_b.map ak.lf))),(5,.i_ v0),(26,.b_ false)] []] (okc c1 (ok1 (rf_ ⟨[(0,.lf (.rows 82 (p_a.map ak.lf))),(1,.lf (.rows 82 (p_b.map ak.lf))),(5,.i_ v0),(26,.b_ false)],[]⟩))) <|
 .rt [0,1,5,26] 0 (false)) fun c0 =>
 .say [.fQ (.q 0 (.q 1 (.q 2 (.q 3 (.q 4 (.q 5 (.q 6 (.q 7 (.q 8 (.q 9 (.q 10 (.q 11 (.q 12 (.q 13 (.q 14 (.q 15 (.q 16 (.q 17 (.q 18 (.l 19 (.q 20 .fin))))))))))))))))))))) (some 19) [] [.num p_a.length,.gd 6004 false] [0,1,5,26] 0 [(0,.lf (.rows 82 (p_a.map ak.lf))),(1,.lf (.rows 82 (p_b.map ak.lf))),(5,.i_ v0),(26,.b_ false)] []] (okc c0 (ok1 (rf_ ⟨[(0,.lf (.rows 82 (p_a.map ak.lf))),(1,.lf (.rows 82 (p_b.map ak.lf))),(5,.i_ v0),(26,.b_ false)],[]⟩))) <|
 .rt [0,1,5,26] 0 (false)
def Fh (p_a:List ak) (p_b:List ak) : (Int) → Mo ((Int) ⊕ (Int)) := fun (v0) =>
 .jp Tryz.f64 0 [1,1,0,0,0,0,0] 11 [0,1,5] 0 (.normal) (fun r_=>⟨[(0,.lf (.rows 82 (p_a.map ak.lf))),(1,.lf (.rows 82 (p_b.map ak.lf))),(5,.i_ v0),(26,.b_ r_)],[]⟩) ⟨[(0,.lf (.rows 82 (p_a.map ak.lf))),(1,.lf (.rows 82 (p_b.map ak.lf))),(5,.i_ v0)],[]⟩ (Fg p_a p_b v0).den (jW (by kernel_rfl)) fun r0 _ =>
 .iB (r0) (.rt [0,1,5] 0 (.inl (IntKind.wrap .i64 (v0 + 1)))) <|
 .rt [5] 0 (.inr (v0))
def Ib (p_a:List ak) (p_b:List ak) (v0:Int) : Option (Int) := dF (fun v_=>(Fh p_a p_b v_).den) FU (v0)
def Ws (p_a:List ak) (p_b:List ak) : Mo (Int) :=
 .lp Tryz.f64 0 [1,1,0,0] 0 [0,1,5] 0 (.exit 0) (fun r_=>⟨[(5,.i_ r_)],[]⟩) (Ib p_a p_b 0) (lW (fun (v0)=>⟨[(0,.lf (.rows 82 (p_a.map ak.lf))),(1,.lf (.rows 82 (p_b.map ak.lf))),(5,.i_ v0)],[]⟩) (by kernel_rfl) rfl fun v_=>by kernel_rfl) fun r0 _ =>
 .ret (cZ 1) (r0)
def Q29 (p_a:List ak) (p_b:List ak) : Option (Int) := Mo.den (Ws p_a p_b)
theorem X9 (p_a:List ak) (p_b:List ak) : FV (Q29 p_a p_b) 64 [.lf (.rows 82 (p_a.map ak.lf)),.lf (.rows 82 (p_b.map ak.lf))] (fun r=>.i_ r) := eG Tryz.func64 (by kernel_rfl) (fun _=>rfl) (by kernel_rfl)
def Jy (p_a:aj) (p_b:aj) (r0:Int) : Mo (Bool) :=
 .ite (decide ((r0:Int) < (if p_b.au < p_a.au then p_b.au else p_a.au))) (fun c0 =>
 .say [.gd 6007 true] (ok1 c0) <|
 .rt [2,3,5,26] 2 (true)) fun c0 =>
 .say [.gd 6007 false,.num p_a.aB.length] (okc c0 (ok1 (ln_ p_a.aB ak.lf))) <|
 .rt [2,3,5,26] 2 (decide (((p_a.aB.length:Int) : Int) < p_a.au))
def Jz (p_a:aj) (p_b:aj) (v0:Int) : Mo (Bool) :=
 .say [.num p_a.aB.length] (ok1 (ln_ p_a.aB ak.lf)) <|
 .ite (decide ((v0:Int) < (p_a.aB.length:Int))) (fun c0 =>
 .say [.gd 12005 true,.num p_b.aB.length] (okc c0 (ok1 (ln_ p_b.aB ak.lf))) <|
 .rt [2,3,6,39] 2 (decide ((v0:Int) < (p_b.aB.length:Int)))) fun c0 =>
 .say [.gd 12005 false] (ok1 c0) <|
 .rt [2,3,6,39] 2 (false)
def yG (p_a:aj) (p_b:aj) : (Int) → Mo ((Int) ⊕ (Unit ⊕ Unit)) := fun (v0) =>
 .jp Tryz.f31 0 [1,1,1,0,1,0,0,0,0] 17 [2,3,6] 2 (.normal) (fun r_=>⟨[(2,.ptr 0 0),(3,.ptr 1 0),(6,.i_ v0),(39,.b_ r_)],[.box 25 (.dat (aj.lf1 p_a)),.box 25 (.dat (aj.lf1 p_b))]⟩) ⟨[(2,.ptr 0 0),(3,.ptr 1 0),(6,.i_ v0)],[.box 25 (.dat (aj.lf1 p_a)),.box 25 (.dat (aj.lf1 p_b))]⟩ (Jz p_a p_b v0).den (jW (by kernel_rfl)) fun r0 _ =>
 .ite (r0) (fun c0 =>
 .say [.br true,.order [(true,0),(true,1),(true,2),(true,3),(true,4),(true,5),(true,6),(true,7),(true,8),(true,9),(false,10)] (some 10) []] (ok1 c0) <|
 .ask (cO p_a.aB v0) fun x0 h0 =>
 .say [.row (ak.lf1 x0)] (ok1 (bf ak.aT h0)) <|
 .ask (cO p_b.aB v0) fun x1 h1 =>
 .say [.row (ak.lf1 x1)] (ok1 (bf ak.aT h1)) <|
 .cl (Rj x0 x1) fun r1 _ =>
 .iB (r1) (.ret ⟨[.kill 0,.kill 1],[4],[],2⟩ (.inr (.inl ()))) <|
 .rt [2,3,6] 2 (.inl (IntKind.wrap .i64 (v0 + 1)))) fun c0 =>
 .say [.br false] (ok1 c0) <|
 .ret ⟨[.kill 0,.kill 1],[],[],2⟩ (.inr (.inr (())))
def Cb (p_a:aj) (p_b:aj) (v0:Int) : Option (Unit ⊕ Unit) := dF (fun v_=>(yG p_a p_b v_).den) FU (v0)
def Fj (p_a:aj) (p_b:aj) : (Int) → St := fun (v0)=>⟨[(2,.ptr 0 0),(3,.ptr 1 0),(6,.i_ v0)],[.box 25 (.dat (aj.lf1 p_a)),.box 25 (.dat (aj.lf1 p_b))]⟩
def rO (r_:Unit ⊕ Unit) : Exit := match r_ with
 | .inl o_=>.ret
 | .inr (o_)=>.exit 0
def rP  (r_:Unit ⊕ Unit) : St := match r_ with
 | .inl o_=>⟨[(4,.b_ false)],[.dead,.dead]⟩
 | .inr (o_)=>⟨[],[.dead,.dead]⟩
theorem Fp {p_a:aj} {p_b:aj} {v0:Int} {r_:Unit ⊕ Unit} (h:Cb p_a p_b v0 = some r_) : jq Tryz.f31 0 [1,1,1,0,1,0] (rO r_) (rP r_) (Fj p_a p_b (v0)) :=
 jo fJ (body := (Code.sub (bodyC Tryz.f31) [1,1,1,0,1,0,0])) (by kernel_rfl) (yG p_a p_b) (Fj p_a p_b) rO rP (fun r_=>by rcases r_ with _ | _ <;> rfl) (fun v_=>by kernel_rfl) h
def Y7 (p_a:aj) (p_b:aj) : Mo (Bool) :=
 .cl (X9 p_a.aB p_b.aB) fun r0 _ =>
 .jp Tryz.f31 0 [1,1,0,0] 11 [2,3,5] 2 (.normal) (fun r_=>⟨[(2,.ptr 0 0),(3,.ptr 1 0),(5,.i_ r0),(26,.b_ r_)],[.box 25 (.dat (aj.lf1 p_a)),.box 25 (.dat (aj.lf1 p_b))]⟩) ⟨[(2,.ptr 0 0),(3,.ptr 1 0),(5,.i_ r0)],[.box 25 (.dat (aj.lf1 p_a)),.box 25 (.dat (aj.lf1 p_b))]⟩ (Jy p_a p_b r0).den (jW (by kernel_rfl)) fun r1 _ =>
 .iB (r1) (.ret (cZ 1) (false)) <|
 .qR (Cb p_a p_b r0) (fun o0 h0 =>
 .say [.pt_ 0 [2,3,6] 2 (rO (.inl o0)) (rP (.inl o0))] (ok1 (Fp h0)) <|
 .ret (cZ 1) (false)) fun o1 h0 =>
 .say [.pt_ 0 [2,3,6] 2 (rO (.inr (o1))) (rP (.inr (o1)))] (ok1 (Fp h0)) <|
 .ret (cZ 1) (true)
def Q5 (p_a:aj) (p_b:aj) : Option (Bool) := Mo.den (Y7 p_a p_b)
theorem Y8 (p_a:aj) (p_b:aj) : FV (Q5 p_a p_b) 31 [.dat (aj.lf1 p_a),.dat (aj.lf1 p_b)] (fun r=>.b_ r) := eG Tryz.func31 (by kernel_rfl) (fun _=>rfl) (by kernel_rfl)
end
end Go.Proofs.YtdnafbfmaphhhaaGreatDoor
set_option linter.unusedSimpArgs false
set_option linter.unusedVariables false
namespace Go.Proofs.YtdnafbfmaphhhaaGreatDoor
open Go.RowKit
set_option maxRecDepth 20000
set_option maxHeartbeats 4000000
noncomputable section
def JA (p_size:Int) (p_steps:List aZ) : Mo (Bool) :=
 .iG 4002 (decide ((p_size:Int) < 1)) (.rt [0,1,22] 0 (true)) <|
 .ite (decide ((5:Int) < p_size)) (fun c4 =>
 .say [.gd 4006 true] (ok1 c4) <|
 .rt [0,1,22] 0 (true)) fun c4 =>
 .say [.gd 4006 false,.num p_steps.length] (okc c4 (ok1 (ln_ p_steps aZ.lf))) <|
 .rt [0,1,22] 0 (decide ((400:Int) < (p_steps.length:Int)))
def Cc (p_size:Int) (p_steps:List aZ) : (Int × (List aj)) → Mo ((Int × (List aj)) ⊕ (Unit ⊕ ((List aj)))) := fun (v0,l0) =>
 .iB (decide ((v0:Int) < p_size)) (.cl (X7 v0 p_size) fun r0 _ =>
 .ite (r0.2 != 0) (fun c0 =>
 .say [.br true] (ok1 c0) <|
 .ret ⟨[.kill 0,.kill 1],[4],[],2⟩ (.inr (.inl ()))) fun c0 =>
 .say [.br false,.order [(true,0),(true,1),(true,2),(true,3),(true,4),(true,5),(false,6),(false,7),(true,8),(true,9),(false,10)] (some 10) [1,3,4],.rows ((l0 ++ [r0.1]).map aj.lf)] (okc c0 (ok1 (ap_ aj.aT l0 r0.1))) <|
 .grd ((l0.length + [r0.1].length) * 144 ≤ 140737488355328) fun h0 =>
 .say [] (ok1 (cp_ aj.lf h0)) <|
 .ret ⟨[],[0,1,5,26,27],[(4,1)],2⟩ (.inl (IntKind.wrap .i64 (v0 + 1),l0 ++ [r0.1]))) <|
 .rt [1,5] 2 (.inr (.inr (l0)))
def JB (p_size:Int) (p_steps:List aZ) (v0:Int) (l0:List aj) : Option (Unit ⊕ ((List aj))) := dF (fun v_=>(Cc p_size p_steps v_).den) FU (v0,l0)
def JC (p_size:Int) (p_steps:List aZ) : (Int × (List aj)) → St := fun (v0,l0)=>⟨[(0,.i_ p_size),(1,.lf (.rows 2 (p_steps.map aZ.lf))),(5,.ptr 0 0),(26,.i_ p_size),(27,.i_ v0)],[.box 81 (.agg [.own 1,.bJ 9,.bJ 1,.i_ 0]),.row 25 12 (l0.map aj.lf)]⟩
def wP (r_:Unit ⊕ ((List aj))) : Exit := match r_ with
 | .inl o_=>.ret
 | .inr (o_)=>.exit 0
def o7 (p_steps:List aZ) (r_:Unit ⊕ ((List aj))) : St := match r_ with
 | .inl o_=>⟨[(4,.b_ false)],[.dead,.dead]⟩
 | .inr (o_)=>⟨[(1,.lf (.rows 2 (p_steps.map aZ.lf))),(5,.ptr 0 0)],[.box 81 (.agg [.own 1,.bJ 9,.bJ 1,.i_ 0]),.row 25 12 (o_.map aj.lf)]⟩
theorem JD {p_size:Int} {p_steps:List aZ} {v0:Int} {l0:List aj} {r_:Unit ⊕ ((List aj))} (h:JB p_size p_steps v0 l0 = some r_) : jq Tryz.f9 0 [1,1,1,0,1,0] (wP r_) (o7 p_steps r_) (JC p_size p_steps (v0,l0)) :=
 jo fJ (body := (Code.sub (bodyC Tryz.f9) [1,1,1,0,1,0,0])) (by kernel_rfl) (Cc p_size p_steps) (JC p_size p_steps) wP (o7 p_steps) (fun r_=>by rcases r_ with _ | _ <;> rfl) (fun v_=>by kernel_rfl) h
def yH (p_steps:List aZ) (r0:Bool × aK) (v0:Int) (v1:Int) : (Int) → Mo ((Int) ⊕ (Unit ⊕ Unit)) := fun (v2) =>
 .iB (decide ((v2:Int) < (r0.2.fm.length:Int))) (.ask (cO r0.2.fm v1) fun x0 h0 =>
 .say [] (okc (bM aj.aT h0) (ok1 ((bf aj.aT h0).2))) <|
 .ask (cO r0.2.fm v2) fun x1 h1 =>
 .say [] (okc (bM aj.aT h1) (ok1 ((bf aj.aT h1).2))) <|
 .ask (Q5 x0 x1) fun r1 h2 =>
 .say [.fQ (.q 0 (.q 1 (.q 2 (.q 3 (.q 4 (.q 5 (.q 6 (.q 7 (.q 8 (.q 9 (.q 10 (.q 11 (.q 12 (.q 13 (.l 14 (.q 15 .fin)))))))))))))))) (some 14) [] [.row (aj.lf1 x0),.row (aj.lf1 x1),.res (.b_ r1)] [1,5,10,50,51,71,72,79,80,98] 7 [(1,.lf (.rows 2 (p_steps.map aZ.lf))),(5,.ptr 0 0),(10,.i_ v1),(50,.i_ (p_steps.length:Int)),(51,.i_ v0),(71,.i_ (r0.2.fm.length:Int)),(72,.i_ v1),(79,.i_ (r0.2.fm.length:Int)),(80,.i_ v2),(98,.lf (.bool (!r1)))] [.box 81 (.agg [.own 4,.own 5,.own 6,.i_ r0.2.dh]),.dead,.dead,.dead,.row 25 12 (r0.2.fm.map aj.lf),.row 63 9 (r0.2.bD.map ah.lf),.row 3 1 (r0.2.dw.map lfI)]] (okc (Y8 _ _ _ h2) (ok1 (rf_ ⟨[(1,.lf (.rows 2 (p_steps.map aZ.lf))),(5,.ptr 0 0),(10,.i_ v1),(50,.i_ (p_steps.length:Int)),(51,.i_ v0),(71,.i_ (r0.2.fm.length:Int)),(72,.i_ v1),(79,.i_ (r0.2.fm.length:Int)),(80,.i_ v2),(98,.lf (.bool (!r1)))],[.box 81 (.agg [.own 4,.own 5,.own 6,.i_ r0.2.dh]),.dead,.dead,.dead,.row 25 12 (r0.2.fm.map aj.lf),.row 63 9 (r0.2.bD.map ah.lf),.row 3 1 (r0.2.dw.map lfI)]⟩))) <|
 .iB (!r1) (.ret ⟨[.kill 0,.kill 4,.kill 5,.kill 6],[4],[],7⟩ (.inr (.inl ()))) <|
 .rt [1,5,10,50,51,71,72,79,80] 7 (.inl (IntKind.wrap .i64 (v2 + 1)))) <|
 .rt [1,5,50,51,71,72] 7 (.inr (.inr (())))
def Ce (p_steps:List aZ) (r0:Bool × aK) (v0:Int) (v1:Int) (v2:Int) : Option (Unit ⊕ Unit) := dF (fun v_=>(yH p_steps r0 v0 v1 v_).den) FU (v2)
def Fq (p_steps:List aZ) (r0:Bool × aK) (v0:Int) (v1:Int) : (Int) → St := fun (v2)=>⟨[(1,.lf (.rows 2 (p_steps.map aZ.lf))),(5,.ptr 0 0),(10,.i_ v1),(50,.i_ (p_steps.length:Int)),(51,.i_ v0),(71,.i_ (r0.2.fm.length:Int)),(72,.i_ v1),(79,.i_ (r0.2.fm.length:Int)),(80,.i_ v2)],[.box 81 (.agg [.own 4,.own 5,.own 6,.i_ r0.2.dh]),.dead,.dead,.dead,.row 25 12 (r0.2.fm.map aj.lf),.row 63 9 (r0.2.bD.map ah.lf),.row 3 1 (r0.2.dw.map lfI)]⟩
def rQ (r_:Unit ⊕ Unit) : Exit := match r_ with
 | .inl o_=>.ret
 | .inr (o_)=>.exit 6
def rU (p_steps:List aZ) (r0:Bool × aK) (v0:Int) (v1:Int) (r_:Unit ⊕ Unit) : St := match r_ with
 | .inl o_=>⟨[(4,.b_ false)],[.dead,.dead,.dead,.dead,.dead,.dead,.dead]⟩
 | .inr (o_)=>⟨[(1,.lf (.rows 2 (p_steps.map aZ.lf))),(5,.ptr 0 0),(50,.i_ (p_steps.length:Int)),(51,.i_ v0),(71,.i_ (r0.2.fm.length:Int)),(72,.i_ v1)],[.box 81 (.agg [.own 4,.own 5,.own 6,.i_ r0.2.dh]),.dead,.dead,.dead,.row 25 12 (r0.2.fm.map aj.lf),.row 63 9 (r0.2.bD.map ah.lf),.row 3 1 (r0.2.dw.map lfI)]⟩
theorem Fv {p_steps:List aZ} {r0:Bool × aK} {v0:Int} {v1:Int} {v2:Int} {r_:Unit ⊕ Unit} (h:Ce p_steps r0 v0 v1 v2 = some r_) : jq Tryz.f9 0 [1,1,1,1,0,1,0,0,1,1,0,0,1,1,1,1,0,0,1,1,0,0,1,1,0] (rQ r_) (rU p_steps r0 v0 v1 r_) (Fq p_steps r0 v0 v1 (v2)) :=
 jo fJ (body := (Code.sub (bodyC Tryz.f9) [1,1,1,1,0,1,0,0,1,1,0,0,1,1,1,1,0,0,1,1,0,0,1,1,0,0])) (by kernel_rfl) (yH p_steps r0 v0 v1) (Fq p_steps r0 v0 v1) rQ (rU p_steps r0 v0 v1) (fun r_=>by rcases r_ with _ | _ <;> rfl) (fun v_=>by kernel_rfl) h
def yI (p_steps:List aZ) (r0:Bool × aK) (v0:Int) : (Int) → Mo ((Int) ⊕ (Unit ⊕ Unit)) := fun (v1) =>
 .ite (decide ((v1:Int) < (r0.2.fm.length:Int))) (fun c0 =>
 .say [.br true,.num r0.2.fm.length] (okc c0 (ok1 (ln_ r0.2.fm aj.lf))) <|
 .qR (Ce p_steps r0 v0 v1 0) (fun o0 h0 =>
 .say [.pt_ 0 [1,5,10,50,51,71,72,79,80] 7 (rQ (.inl o0)) (rU p_steps r0 v0 v1 (.inl o0))] (ok1 (Fv h0)) <|
 .rt [4] 7 (.inr (.inl ()))) fun o1 h0 =>
 .say [.pt_ 0 [1,5,10,50,51,71,72,79,80] 7 (rQ (.inr (o1))) (rU p_steps r0 v0 v1 (.inr (o1)))] (ok1 (Fv h0)) <|
 .rt [1,5,50,51,71,72] 7 (.inl (IntKind.wrap .i64 (v1 + 1)))) fun c0 =>
 .say [.br false] (ok1 c0) <|
 .rt [1,5,50,51] 7 (.inr (.inr (())))
def Ci (p_steps:List aZ) (r0:Bool × aK) (v0:Int) (v1:Int) : Option (Unit ⊕ Unit) := dF (fun v_=>(yI p_steps r0 v0 v_).den) FU (v1)
def Fz (p_steps:List aZ) (r0:Bool × aK) (v0:Int) : (Int) → St := fun (v1)=>⟨[(1,.lf (.rows 2 (p_steps.map aZ.lf))),(5,.ptr 0 0),(50,.i_ (p_steps.length:Int)),(51,.i_ v0),(71,.i_ (r0.2.fm.length:Int)),(72,.i_ v1)],[.box 81 (.agg [.own 4,.own 5,.own 6,.i_ r0.2.dh]),.dead,.dead,.dead,.row 25 12 (r0.2.fm.map aj.lf),.row 63 9 (r0.2.bD.map ah.lf),.row 3 1 (r0.2.dw.map lfI)]⟩
def rV (r_:Unit ⊕ Unit) : Exit := match r_ with
 | .inl o_=>.ret
 | .inr (o_)=>.exit 4
def rW (p_steps:List aZ) (r0:Bool × aK) (v0:Int) (r_:Unit ⊕ Unit) : St := match r_ with
 | .inl o_=>⟨[(4,.b_ false)],[.dead,.dead,.dead,.dead,.dead,.dead,.dead]⟩
 | .inr (o_)=>⟨[(1,.lf (.rows 2 (p_steps.map aZ.lf))),(5,.ptr 0 0),(50,.i_ (p_steps.length:Int)),(51,.i_ v0)],[.box 81 (.agg [.own 4,.own 5,.own 6,.i_ r0.2.dh]),.dead,.dead,.dead,.row 25 12 (r0.2.fm.map aj.lf),.row 63 9 (r0.2.bD.map ah.lf),.row 3 1 (r0.2.dw.map lfI)]⟩
theorem FB {p_steps:List aZ} {r0:Bool × aK} {v0:Int} {v1:Int} {r_:Unit ⊕ Unit} (h:Ci p_steps r0 v0 v1 = some r_) : jq Tryz.f9 0 [1,1,1,1,0,1,0,0,1,1,0,0,1,1,1,1,0] (rV r_) (rW p_steps r0 v0 r_) (Fz p_steps r0 v0 (v1)) :=
 jo fJ (body := (Code.sub (bodyC Tryz.f9) [1,1,1,1,0,1,0,0,1,1,0,0,1,1,1,1,0,0])) (by kernel_rfl) (yI p_steps r0 v0) (Fz p_steps r0 v0) rV (rW p_steps r0 v0) (fun r_=>by rcases r_ with _ | _ <;> rfl) (fun v_=>by kernel_rfl) h
def yJ (l0:List aj) (l1:List ah) (l2:List Int) (p_steps:List aZ) (v0:Int) (v1:Int) : Mo ((Int × (List aj) × (List ah) × (List Int)) ⊕ Unit) :=
 .ask (cO p_steps v0) fun x0 h0 =>
 .say [.row (aZ.lf1 x0)] (ok1 (bf aZ.aT h0)) <|
 .iB (decide ((x0.fA:Int) < 0)) (.rt [1,5,50,51] 4 (.inl (v1,l0,l1,l2))) <|
 .ask (cO p_steps v0) fun x1 h1 =>
 .say [.row (aZ.lf1 x1)] (ok1 (bf aZ.aT h1)) <|
 .cH [0,1,2,3] (X8 x1 (aK.mk l0 l1 l2 v1)) fun r0 _ =>
 .ite (!r0.1) (fun c0 =>
 .say [.br true] (ok1 c0) <|
 .ret ⟨[.kill 0],[4],[],4⟩ (.inr (()))) fun c0 =>
 .say [.br false,.num r0.2.fm.length] (okc c0 (ok1 (ln_ r0.2.fm aj.lf))) <|
 .qR (Ci p_steps r0 v0 0) (fun o0 h2 =>
 .say [.pt_ 0 [1,5,50,51,71,72] 7 (rV (.inl o0)) (rW p_steps r0 v0 (.inl o0))] (ok1 (FB h2)) <|
 .rt [4] 4 (.inr (()))) fun o1 h2 =>
 .say [.pt_ 0 [1,5,50,51,71,72] 7 (rV (.inr (o1))) (rW p_steps r0 v0 (.inr (o1)))] (ok1 (FB h2)) <|
 .ret ⟨[],[1,5,50,51],[(4,1),(5,2),(6,3)],4⟩ (.inl (r0.2.dh,r0.2.fm,r0.2.bD,r0.2.dw))
def yK (l0:List aj) (l1:List ah) (l2:List Int) (p_steps:List aZ) (v0:Int) (v1:Int) : Option ((Int × (List aj) × (List ah) × (List Int)) ⊕ Unit) := Mo.den (yJ l0 l1 l2 p_steps v0 v1)
def rX (r_:(Int × (List aj) × (List ah) × (List Int)) ⊕ Unit) : Exit := match r_ with
 | .inl o_=>.normal
 | .inr (o_)=>.ret
def rY (p_steps:List aZ) (v0:Int) (r_:(Int × (List aj) × (List ah) × (List Int)) ⊕ Unit) : St := match r_ with
 | .inl o_=>⟨[(1,.lf (.rows 2 (p_steps.map aZ.lf))),(5,.ptr 0 0),(50,.i_ (p_steps.length:Int)),(51,.i_ v0)],[.box 81 (.agg [.own 1,.own 2,.own 3,.i_ o_.1]),.row 25 12 (o_.2.1.map aj.lf),.row 63 9 (o_.2.2.1.map ah.lf),.row 3 1 (o_.2.2.2.map lfI)]⟩
 | .inr (o_)=>⟨[(4,.b_ false)],[.dead,.dead,.dead,.dead]⟩
theorem FC {l0:List aj} {l1:List ah} {l2:List Int} {p_steps:List aZ} {v0:Int} {v1:Int} {r_:(Int × (List aj) × (List ah) × (List Int)) ⊕ Unit} (h:yK l0 l1 l2 p_steps v0 v1 = some r_) : jq Tryz.f9 0 [1,1,1,1,0,1,0,0,1,1,0] (rX r_) (rY p_steps v0 r_) ⟨[(1,.lf (.rows 2 (p_steps.map aZ.lf))),(5,.ptr 0 0),(50,.i_ (p_steps.length:Int)),(51,.i_ v0)],[.box 81 (.agg [.own 1,.own 2,.own 3,.i_ v1]),.row 25 12 (l0.map aj.lf),.row 63 9 (l1.map ah.lf),.row 3 1 (l2.map lfI)]⟩ :=
 jw fJ (yJ l0 l1 l2 p_steps v0 v1) rX (rY p_steps v0) (by kernel_rfl) h
def yL (p_steps:List aZ) : (Int × Int × (List aj) × (List ah) × (List Int)) → Mo ((Int × Int × (List aj) × (List ah) × (List Int)) ⊕ (Unit ⊕ Unit)) := fun (v0,v1,l0,l1,l2) =>
 .iB (decide ((v0:Int) < (p_steps.length:Int))) (.qR (yK l0 l1 l2 p_steps v0 v1) (fun o0 h0 =>
 .say [.pt_ 12 [1,5,50,51] 4 (rX (.inl o0)) (rY p_steps v0 (.inl o0))] (ok1 (FC h0)) <|
 .rt [1,5,50,51] 4 (.inl (IntKind.wrap .i64 (v0 + 1),o0.1,o0.2.1,o0.2.2.1,o0.2.2.2))) fun o1 h0 =>
 .say [.pt_ 12 [1,5,50,51] 4 (rX (.inr (o1))) (rY p_steps v0 (.inr (o1)))] (ok1 (FC h0)) <|
 .rt [4] 4 (.inr (.inl ()))) <|
 .ret ⟨[.kill 0,.kill 1,.kill 2,.kill 3],[],[],4⟩ (.inr (.inr (())))
def Cj (p_steps:List aZ) (v0:Int) (v1:Int) (l0:List aj) (l1:List ah) (l2:List Int) : Option (Unit ⊕ Unit) := dF (fun v_=>(yL p_steps v_).den) FU (v0,v1,l0,l1,l2)
def FD (p_steps:List aZ) : (Int × Int × (List aj) × (List ah) × (List Int)) → St := fun (v0,v1,l0,l1,l2)=>⟨[(1,.lf (.rows 2 (p_steps.map aZ.lf))),(5,.ptr 0 0),(50,.i_ (p_steps.length:Int)),(51,.i_ v0)],[.box 81 (.agg [.own 1,.own 2,.own 3,.i_ v1]),.row 25 12 (l0.map aj.lf),.row 63 9 (l1.map ah.lf),.row 3 1 (l2.map lfI)]⟩
def rZ (r_:Unit ⊕ Unit) : Exit := match r_ with
 | .inl o_=>.ret
 | .inr (o_)=>.exit 2
def lD  (r_:Unit ⊕ Unit) : St := match r_ with
 | .inl o_=>⟨[(4,.b_ false)],[.dead,.dead,.dead,.dead]⟩
 | .inr (o_)=>⟨[],[.dead,.dead,.dead,.dead]⟩
theorem FI {p_steps:List aZ} {v0:Int} {v1:Int} {l0:List aj} {l1:List ah} {l2:List Int} {r_:Unit ⊕ Unit} (h:Cj p_steps v0 v1 l0 l1 l2 = some r_) : jq Tryz.f9 0 [1,1,1,1,0,1,0] (rZ r_) (lD r_) (FD p_steps (v0,v1,l0,l1,l2)) :=
 jo fJ (body := (Code.sub (bodyC Tryz.f9) [1,1,1,1,0,1,0,0])) (by kernel_rfl) (yL p_steps) (FD p_steps) rZ lD (fun r_=>by rcases r_ with _ | _ <;> rfl) (fun v_=>by kernel_rfl) h
def Y9 (p_size:Int) (p_steps:List aZ) : Mo (Bool) :=
 .jp Tryz.f9 0 [1,0,0] 9 [0,1] 0 (.normal) (fun r_=>⟨[(0,.i_ p_size),(1,.lf (.rows 2 (p_steps.map aZ.lf))),(22,.b_ r_)],[]⟩) ⟨[(0,.i_ p_size),(1,.lf (.rows 2 (p_steps.map aZ.lf)))],[]⟩ (JA p_size p_steps).den (jW (by kernel_rfl)) fun r6 _ =>
 .ite (r6) (fun c0 =>
 .say [.br true] (ok1 c0) <|
 .cl (V9) fun r0 _ =>
 .ret (cZ 1) (r0)) fun c0 =>
 .say [.br false] (okc c0 (ok1 (by simp [aj.aT] : (([] : List aj).map aj.lf) = []))) <|
 .qR (JB p_size p_steps 0 ([] : List aj)) (fun o0 h0 =>
 .say [.part [.vC 0 0 25,.iZ 1 (([] : List aj).map aj.lf)] 0 [0,1,5,26,27] 2 (wP (.inl o0)) (o7 p_steps (.inl o0)).T (o7 p_steps (.inl o0)).H] (ok1 (JD h0)) <|
 .ret (cZ 1) (false)) fun o1 h0 =>
 .say [.part [.vC 0 0 25,.iZ 1 (([] : List aj).map aj.lf)] 0 [0,1,5,26,27] 2 (wP (.inr (o1))) (o7 p_steps (.inr (o1))).T (o7 p_steps (.inr (o1))).H,.num p_steps.length] (okc (JD h0) (okc (ln_ p_steps aZ.lf) (okc (by simp [ah.aT] : (([] : List ah).map ah.lf) = []) (ok1 (by simp [lfI,lfK] : (([] : List Int).map lfI) = []))))) <|
 .qR (Cj p_steps 0 0 o1 ([] : List ah) ([] : List Int)) (fun o2 h1 =>
 .say [.part [.vC 0 1 63,.vC 0 2 3,.iZ 2 (([] : List ah).map ah.lf),.iZ 3 (([] : List Int).map lfI)] 0 [1,5,50,51] 4 (rZ (.inl o2)) (lD (.inl o2)).T (lD (.inl o2)).H] (ok1 (FI h1)) <|
 .ret (cZ 1) (false)) fun o3 h1 =>
 .say [.part [.vC 0 1 63,.vC 0 2 3,.iZ 2 (([] : List ah).map ah.lf),.iZ 3 (([] : List Int).map lfI)] 0 [1,5,50,51] 4 (rZ (.inr (o3))) (lD (.inr (o3))).T (lD (.inr (o3))).H] (ok1 (FI h1)) <|
 .cl (V9) fun r1 _ =>
 .ret (cZ 1) (r1)
def Q0 (p_size:Int) (p_steps:List aZ) : Option (Bool) := Mo.den (Y9 p_size p_steps)
theorem Za (p_size:Int) (p_steps:List aZ) : FV (Q0 p_size p_steps) 9 [.i_ p_size,.lf (.rows 2 (p_steps.map aZ.lf))] (fun r=>.b_ r) := eG Tryz.func9 (by kernel_rfl) (fun _=>rfl) (by kernel_rfl)
end
end Go.Proofs.YtdnafbfmaphhhaaGreatDoor
set_option linter.unusedSimpArgs false
set_option linter.unusedVariables false
namespace Go.Proofs.YtdnafbfmaphhhaaGreatDoor
open Go.RowKit
theorem gZ {α:Type} (f : α → List Lf) {x : α} : ∀ {l:List α},x ∈ l → bn (f x) ≤ bH (l.map f)
  | y :: r,h=>by
    simp only [List.map_cons,bH]
    rcases List.mem_cons.1 h with rfl | h
    · omega
    · have := gZ f h; omega
theorem eY {α:Type} (f : α → List Lf) (hf:∀ x,1 ≤ bn (f x)) : ∀ l:List α,l.length ≤ bH (l.map f)
  | []=>by simp
  | x :: r=>by have := eY f hf r; have := hf x; simp only [List.map_cons,List.length_cons,bH]; omega
theorem yM (v:aF) : bn v.lf1 = 5 + v.fText.size + bH (v.nX.map aF.lf) + bH (v.jh.map aX.lf) := by simp only [aF.lf1,bn,Lf.bulk]; omega
theorem qx (v:aX) : bn v.lf1 = 1 + v.fName.size + bn v.fValue.lf1 := by simp only [aX.lf1,dL,bn,Lf.bulk]; omega
theorem qy (v:bC) : bn v.lf1 = 2 + bH (v.eU.map lfS) := by simp only [bC.lf1,bn,Lf.bulk]; omega
theorem Ic (v:dM) : bn v.lf1 = 2 := by simp only [dM.lf1,bn,Lf.bulk]
theorem yN (v:fP) : bn v.lf1 = 3 + bH (v.iC.map dM.lf) := by simp only [fP.lf1,bn,Lf.bulk]; omega
theorem uD (v:aW) : bn v.lf1 = 6 + bH (v.eU.map lfS) + v.fName.size + bH (v.iQ.map lfS) + bn v.fArg.lf1 + bH (v.fV.map aW.lf) := by simp only [aW.lf1,dL,bn,Lf.bulk]; omega
theorem uF (v:aU) : bn v.lf1 = 6 + bH (v.eU.map lfS) + bn v.fArg.lf1 + bH (v.fArgs.map aF.lf) + bn v.fC.lf1 + bn v.fExpr.lf1 + bH (v.fV.map aU.lf) := by simp only [aU.lf1,dL,bn,Lf.bulk]; omega
theorem qA (v:aV) : bn v.lf1 = 6 + v.fName.size + bH (v.kX.map bC.lf) + bn v.kE.lf1 := by simp only [aV.lf1,dL,bn,Lf.bulk]; omega
theorem uG (v:bF) : bn v.lf1 = 1 + v.fName.size + bn v.gV.lf1 := by simp only [bF.lf1,dL,bn,Lf.bulk]; omega
theorem ou (v:aC) : bn v.lf1 = 11 + bn v.zD.lf1 + bn v.zF.lf1 + bH (v.mO.map aF.lf) + bH (v.gI.map lfS) + bH (v.jS.map bF.lf) + bH (v.jT.map aC.lf) := by simp only [aC.lf1,dL,bn,Lf.bulk]; omega
theorem yO (v:bZ) : bn v.lf1 = 4 + v.fName.size + bH (v.jv.map aV.lf) + bn v.gV.lf1 := by simp only [bZ.lf1,dL,bn,Lf.bulk]; omega
theorem qB (v:ay) : bn v.lf1 = 7 + v.iI.size + bn v.kY.lf1 + bn v.jh.lf1 + bn v.fO.lf1 + bn v.kZ.lf1 + bn v.aY.lf1 + v.ng.size + bH (v.dH.map ay.lf) + bH (v.fD.map lfI) := by simp only [ay.lf1,dL,bn,Lf.bulk]; omega
theorem qC (v:ak) : bn v.lf1 = 4 + v.nY.size + bn v.qm.lf1 := by simp only [ak.lf1,dL,bn,Lf.bulk]; omega
theorem Ya (s:ByteArray) : bn (lfS s) = s.size + 1 := by simp only [lfS,bn,Lf.bulk,Nat.add_zero]
theorem Yb (n:Int) : bn (lfI n) = 1 := by simp only [lfI,bn,Lf.bulk]
theorem FK (l:List aF) : l.length ≤ bH (l.map aF.lf) := eY _ (fun x=>by rw [aF.aT,yM]; omega) l
theorem yP (l:List aX) : l.length ≤ bH (l.map aX.lf) := eY _ (fun x=>by rw [aX.aT,qx]; omega) l
theorem yQ (l:List bC) : l.length ≤ bH (l.map bC.lf) := eY _ (fun x=>by rw [bC.aT,qy]; omega) l
theorem yR (l:List dM) : l.length ≤ bH (l.map dM.lf) := eY _ (fun x=>by have := Ic x; rw [dM.aT]; omega) l
theorem Au (l:List aW) : l.length ≤ bH (l.map aW.lf) := eY _ (fun x=>by rw [aW.aT,uD]; omega) l
theorem Aw (l:List aU) : l.length ≤ bH (l.map aU.lf) := eY _ (fun x=>by rw [aU.aT,uF]; omega) l
theorem uV (l:List aV) : l.length ≤ bH (l.map aV.lf) := eY _ (fun x=>by rw [aV.aT,qA]; omega) l
theorem Az (l:List bF) : l.length ≤ bH (l.map bF.lf) := eY _ (fun x=>by rw [bF.aT,uG]; omega) l
theorem uX (l:List aC) : l.length ≤ bH (l.map aC.lf) := eY _ (fun x=>by rw [aC.aT,ou]; omega) l
theorem yS (l:List ay) : l.length ≤ bH (l.map ay.lf) := eY _ (fun x=>by rw [ay.aT,qB]; omega) l
theorem uY (l:List ak) : l.length ≤ bH (l.map ak.lf) := eY _ (fun x=>by rw [ak.aT,qC]; omega) l
theorem FM (l:List ByteArray) : l.length ≤ bH (l.map lfS) := eY _ (fun x=>by rw [Ya]; omega) l
theorem FN (l:List Int) : l.length ≤ bH (l.map lfI) := eY _ (fun x=>by rw [Yb]; omega) l
theorem wQ {x:aF} {l:List aF} (h:x ∈ l) : bn x.lf1 ≤ bH (l.map aF.lf) := by rw [← aF.aT]; exact gZ _ h
theorem o8 {x:aX} {l:List aX} (h:x ∈ l) : bn x.lf1 ≤ bH (l.map aX.lf) := by rw [← aX.aT]; exact gZ _ h
theorem AA {x:bC} {l:List bC} (h:x ∈ l) : bn x.lf1 ≤ bH (l.map bC.lf) := gZ _ h
theorem su {x:aW} {l:List aW} (h:x ∈ l) : bn x.lf1 ≤ bH (l.map aW.lf) := by rw [← aW.aT]; exact gZ _ h
theorem sD {x:aU} {l:List aU} (h:x ∈ l) : bn x.lf1 ≤ bH (l.map aU.lf) := by rw [← aU.aT]; exact gZ _ h
theorem AB {x:aV} {l:List aV} (h:x ∈ l) : bn x.lf1 ≤ bH (l.map aV.lf) := gZ _ h
theorem sF {x:bF} {l:List bF} (h:x ∈ l) : bn x.lf1 ≤ bH (l.map bF.lf) := by rw [← bF.aT]; exact gZ _ h
theorem mD {x:aC} {l:List aC} (h:x ∈ l) : bn x.lf1 ≤ bH (l.map aC.lf) := by rw [← aC.aT]; exact gZ _ h
theorem o9 {x:ay} {l:List ay} (h:x ∈ l) : bn x.lf1 ≤ bH (l.map ay.lf) := by rw [← ay.aT]; exact gZ _ h
theorem AO {x:ak} {l:List ak} (h:x ∈ l) : bn x.lf1 ≤ bH (l.map ak.lf) := gZ _ h
end Go.Proofs.YtdnafbfmaphhhaaGreatDoor
set_option linter.unusedSimpArgs false
set_option linter.unusedVariables false
namespace Go.Proofs.YtdnafbfmaphhhaaGreatDoor
open Go.RowKit
theorem Yc : 1152921504606846975 < FU := by unfold FU; omega
def Tot {ρ:Type} (m:Option ρ) (Q : ρ → Prop) : Prop := ∃ r,m = some r ∧ Q r
def LP {σ ρ:Type} (P : σ → Prop) (Q : ρ → Prop) : σ ⊕ ρ → Prop
  | .inl s=>P s
  | .inr r=>Q r
def Any {ρ:Type} : ρ → Prop := fun _=>True
namespace T
variable {ρ α σ:Type}
theorem ret {Q : ρ → Prop} {r : ρ} (h:Q r) : Tot (some r) Q := ⟨r,rfl,h⟩
theorem any {r : ρ} : Tot (some r) Any := ⟨r,rfl,trivial⟩
theorem bind {m:Option α} {R : α → Prop} {k : α → Option ρ} {Q : ρ → Prop} (h:Tot m R) (h2:∀ a,R a → Tot (k a) Q) : Tot (m.bind k) Q := by
  obtain ⟨a,rfl,ha⟩ := h
  exact h2 a ha
theorem ite {b:Bool} {x y:Option ρ} {Q : ρ → Prop} (h1:b = true → Tot x Q) (h2:b = false → Tot y Q) : Tot (bif b then x else y) Q := by
  cases b
  · exact h2 rfl
  · exact h1 rfl
theorem grd {p:Prop} [Decidable p] {x:Option ρ} {Q : ρ → Prop} (h:p) (h2:Tot x Q) : Tot (if p then x else none) Q := by
  rw [if_pos h]; exact h2
theorem mono {m:Option ρ} {Q R : ρ → Prop} (h:Tot m Q) (h2:∀ r,Q r → R r) : Tot m R := by
  obtain ⟨r,h1,h3⟩ := h; exact ⟨r,h1,h2 r h3⟩
theorem val {m:Option ρ} {r : ρ} (h:m = some r) : Tot m (fun x=>x = r) := ⟨r,h,rfl⟩
theorem Rk {T : σ → Option (σ ⊕ ρ)} {s0 : σ} (n:Nat) (hn:n ≤ 1000000000) (P:Nat → σ → Prop) (Q : ρ → Prop) (h0:P 0 s0) (step:∀ k s,k < n → P k s → Tot (T s) (LP (P (k + 1)) Q)) (fin:∀ s,P n s → Tot (T s) (LP (fun _=>False) Q)) : Tot (dF T FU s0) Q := by
  refine NZ n hn P Q h0 ?_ ?_
  · intro k s hk hP
    obtain ⟨r,h1,h2⟩ := step k s hk hP
    rcases r with v | r
    · exact .inl ⟨v,h1,h2⟩
    · exact .inr ⟨r,h1,h2⟩
  · intro s hP
    obtain ⟨r,h1,h2⟩ := fin s hP
    rcases r with v | r
    · exact h2.elim
    · exact ⟨r,h1,h2⟩
end T
theorem ltt {α:Type} {l:List α} {k:Nat} {x : α} (h:l[k]? = some x) : decide ((k:Int) < (l.length:Int)) = true := iLt (List.getElem?_eq_some_iff.1 h).1
theorem ltn (n:Nat) : decide ((n:Int) < (n:Int)) = false := zG (Nat.lt_irrefl _)
theorem gid {α:Type} {l:List α} {k:Nat} {x : α} (h:l[k]? = some x) : cO l (k:Int) = some x := by rw [DK,h]
theorem CB {α:Type} {l:List α} {k:Nat} {x : α} (h:l[k]? = some x) : x ∈ l := List.mem_of_getElem? h
theorem AP (l m:List (List Lf)) : bH (l ++ m) = bH l + bH m := by
  induction l with
  | nil=>simp [bH]
  | cons x l ih=>simp only [List.cons_append,bH,ih]; omega
theorem pR {α:Type} (f : α → List Lf) (l:List α) (k:Nat) : bH ((l.take k).map f) ≤ bH (l.map f) := by
  have := AP ((l.take k).map f) ((l.drop k).map f)
  rw [← List.map_append,List.take_append_drop] at this; omega
/-- for the printed proofs -/
def MT {ρ:Type} (t:Mo ρ) (Q : ρ → Prop) : Prop := Tot t.den Q
namespace MT
variable {ρ α β γ:Type}
theorem ret {f:Fit} {r : ρ} {Q : ρ → Prop} (h:Q r) : MT (.ret f r) Q := ⟨r,rfl,h⟩
theorem any {f:Fit} {r : ρ} : MT (.ret f r) Any := ⟨r,rfl,trivial⟩
theorem say {qs:List Ans} {Φ:List Prop} {ok:dA Φ} {k:Mo ρ} {Q : ρ → Prop} (h:MT k Q) : MT (.say qs ok k) Q := h
theorem ite {b:Bool} {t:b = true → Mo ρ} {e:b = false → Mo ρ} {Q : ρ → Prop} (h1:∀ h,MT (t h) Q) (h2:∀ h,MT (e h) Q) : MT (.ite b t e) Q := by
  cases b
  · exact h2 rfl
  · exact h1 rfl
theorem grd {p:Prop} [d:Decidable p] {k:p → Mo ρ} {Q : ρ → Prop} (h:p) (h2:∀ h,MT (k h) Q) : MT (.grd p k) Q := by
  unfold MT Tot
  show ∃ r,zW p _ = some r ∧ Q r
  unfold zW
  cases d with
  | isTrue hh=>exact h2 hh
  | isFalse hh=>exact absurd h hh
theorem ask {m:Option α} {k:(a : α) → m = some a → Mo ρ} {R : α → Prop} {Q : ρ → Prop} (h:Tot m R) (h2:∀ a h,R a → MT (k a h) Q) : MT (.ask m k) Q := by
  obtain ⟨a,rfl,ha⟩ := h
  exact h2 a rfl ha
theorem qR {m:Option (α ⊕ β)} {k1:(a : α) → m = some (.inl a) → Mo ρ} {k2:(b : β) → m = some (.inr b) → Mo ρ} {R : α ⊕ β → Prop} {Q : ρ → Prop} (h:Tot m R) (h1:∀ a h,R (.inl a) → MT (k1 a h) Q) (h2:∀ b h,R (.inr b) → MT (k2 b h) Q) : MT (.qR m k1 k2) Q := by
  obtain ⟨a,rfl,ha⟩ := h
  rcases a with a | a
  · exact h1 a rfl ha
  · exact h2 a rfl ha
theorem J8 {m:Option (α ⊕ β ⊕ γ)} {k1:(a : α) → m = some (.inl a) → Mo ρ} {k2:(b : β) → m = some (.inr (.inl b)) → Mo ρ} {k3:(c : γ) → m = some (.inr (.inr c)) → Mo ρ} {R : α ⊕ β ⊕ γ → Prop} {Q : ρ → Prop} (h:Tot m R) (h1:∀ a h,R (.inl a) → MT (k1 a h) Q) (h2:∀ b h,R (.inr (.inl b)) → MT (k2 b h) Q) (h3:∀ b h,R (.inr (.inr b)) → MT (k3 b h) Q) : MT (.J8 m k1 k2 k3) Q := by
  obtain ⟨a,rfl,ha⟩ := h
  rcases a with a | a | a
  · exact h1 a rfl ha
  · exact h2 a rfl ha
  · exact h3 a rfl ha
end MT
/-- a call, shut -/
structure Clo {ρ:Type} (m:Option ρ) : Prop where
  h:Tot m Any
namespace MT
variable {ρ α β γ:Type}
end MT
namespace T
variable {ρ σ:Type}
theorem Zb {T : σ → Option (σ ⊕ ρ)} {s0 : σ} (c : σ → Int) (P : σ → Prop) (Q : ρ → Prop) (h0:c s0 = 0) (hP:P s0) (step:∀ (k:Nat) s,k ≤ 100000000 → c s = k → P s → Tot (T s) (LP (fun v=>c v = IntKind.wrap .i64 ((k:Int) + 1) ∧ P v ∧ k < 100000000) Q)) : Tot (dF T FU s0) Q := by
  refine eX (fun s=>0 ≤ c s ∧ c s ≤ 100000000 ∧ P s) (fun s=>100000000 - (c s).toNat) Q ?_ FU s0 ⟨by omega,by omega,hP⟩ (by have := Yc; omega)
  rintro s ⟨h1,h2,h3⟩
  obtain ⟨r,h4,h5⟩ := step (c s).toNat s (by omega) (by omega) h3
  rcases r with v | r
  · have h5:c v = IntKind.wrap .i64 (((c s).toNat:Int) + 1) ∧ P v ∧ (c s).toNat < 100000000 := h5
    have h6 := h5.1
    rw [inc _ (by omega)] at h6
    exact .inl ⟨v,h4,⟨by omega,by omega,h5.2.1⟩,by omega⟩
  · exact .inr ⟨r,h4,h5⟩
theorem cnt {T:Int → Option (Int ⊕ ρ)} (Q : ρ → Prop) (step:∀ k:Nat,k ≤ 100000000 → Tot (T (k:Int)) (LP (fun v=>v = IntKind.wrap .i64 ((k:Int) + 1) ∧ k < 100000000) Q)) : Tot (dF T FU 0) Q :=
  Zb (fun v=>v) (fun _=>True) Q rfl trivial fun k s hk hs _=>by
    obtain rfl:s = (k:Int) := hs
    refine mono (step k hk) ?_
    rintro (v | r) h
    · exact ⟨h.1,trivial,h.2⟩
    · exact h
theorem TB {α:Type} {T:Int × α → Option ((Int × α) ⊕ ρ)} {a : α} (Q : ρ → Prop) (step:∀ (k:Nat) (a : α),k ≤ 100000000 → Tot (T ((k:Int),a)) (LP (fun v=>v.1 = IntKind.wrap .i64 ((k:Int) + 1) ∧ k < 100000000) Q)) : Tot (dF T FU (0,a)) Q :=
  Zb (fun v=>v.1) (fun _=>True) Q rfl trivial fun k s hk hs _=>by
    obtain ⟨i,a⟩ := s
    obtain rfl:i = (k:Int) := hs
    refine mono (step k a hk) ?_
    rintro (v | r) h
    · exact ⟨h.1,trivial,h.2⟩
    · exact h
end T
end Go.Proofs.YtdnafbfmaphhhaaGreatDoor
set_option linter.unusedSimpArgs false
set_option linter.unusedVariables false
namespace Go.Proofs.YtdnafbfmaphhhaaGreatDoor
open Go.RowKit
theorem gq (v:aj) : bn v.lf1 = 12 + bH (v.aB.map ak.lf) + bH (v.fNext.map lfI) + bH (v.aS.map lfI) := by simp only [aj.lf1,dL,bn,Lf.bulk]; omega
theorem dV {α:Type} (l:List α) (c : α → Option α) (z:List α) (T0:Int × List α → Option ((Int × List α) ⊕ List α)) (hz:z.length = l.length) (hl:l.length ≤ 1000000000) (hc:∀ x ∈ l,c x = some x)
    (hT:∀ (k:Nat) (s:List α),T0 ((k:Int),s) = bif decide ((k:Int) < (l.length:Int)) then (cO l (k:Int)).bind fun x=>(c x).bind fun r=>(cO s (k:Int)).bind fun _=>some (.inl (IntKind.wrap .i64 ((k:Int) + 1),s.set (k:Int).toNat r)) else some (.inr s)) :
    dF T0 FU (0,z) = some l := by
  have:Tot (dF T0 FU (0,z)) (fun r=>r = l) := by
    refine T.Rk l.length hl (fun k s=>s.1 = (k:Int) ∧ s.2.length = l.length ∧ ∀ j,j < k → s.2[j]? = l[j]?) _ ⟨rfl,hz,fun j h=>by omega⟩ ?_ ?_
    · rintro k ⟨i,s⟩ hk ⟨h1,h2,h3⟩
      obtain rfl:i = (k:Int) := h1
      have h2:s.length = l.length := h2
      have hx := List.getElem?_eq_getElem hk
      have hy := List.getElem?_eq_getElem (show k < s.length by omega)
      rw [hT]
      simp only [ltt hx,gid hx,gid hy,cond_true,Option.bind_some,hc _ (CB hx),Int.toNat_natCast]
      refine T.ret ⟨inc k (by omega),by simp [h2],fun j hj=>?_⟩
      show (s.set k l[k])[j]? = l[j]?
      rcases Nat.lt_succ_iff_lt_or_eq.1 hj with h | rfl
      · rw [List.getElem?_set_ne (by omega)]; exact h3 j h
      · rw [List.getElem?_set_self (by omega),hx]
    · rintro ⟨i,s⟩ ⟨h1,h2,h3⟩
      obtain rfl:i = (l.length:Int) := h1
      have h2:s.length = l.length := h2
      rw [hT]
      simp only [ltn,cond_false]
      refine T.ret (show s = l from List.ext_getElem? fun j=>?_)
      by_cases hj:j < l.length
      · exact h3 j hj
      · rw [List.getElem?_eq_none (by omega),List.getElem?_eq_none (by omega)]
  obtain ⟨r,h,rfl⟩ := this
  exact h
theorem dB {α:Type} (l:List α) (p:Prop) [Decidable p] (hp:p) : (bif ((l.length:Int) == 0) then some [] else if p then (some l).bind (fun a=>some a) else none) = some l := by
  rw [if_pos hp]
  cases l with
  | nil=>rfl
  | cons x r =>
    rw [show (((x :: r).length:Int) == 0) = false by simp; omega]
    rfl
end Go.Proofs.YtdnafbfmaphhhaaGreatDoor
set_option linter.unusedSimpArgs false
set_option linter.unusedVariables false
namespace Go.Proofs.YtdnafbfmaphhhaaGreatDoor
open Go.RowKit
theorem jB (n_:Nat) : (∀ p_v:aF,4 * bn p_v.lf1 + 0 < n_ → bn p_v.lf1 ≤ 100000000 → (iL n_).m1 p_v = some p_v) ∧ (∀ p_l:List aF,4 * bH (p_l.map aF.lf) + 1 < n_ → bH (p_l.map aF.lf) ≤ 100000000 → (iL n_).m2 p_l = some p_l) ∧ (∀ p_l:List aX,4 * bH (p_l.map aX.lf) + 2 < n_ → bH (p_l.map aX.lf) ≤ 100000000 → (iL n_).m3 p_l = some p_l) ∧ (∀ p_f:aX,4 * bn p_f.lf1 + 1 < n_ → bn p_f.lf1 ≤ 100000000 → (iL n_).m4 p_f = some p_f) := by
  induction n_ with
  | zero=>exact ⟨fun _ h=>by omega,fun _ h=>by omega,fun _ h=>by omega,fun _ h=>by omega⟩
  | succ n_ ih =>
    refine ⟨?_,?_,?_,?_⟩
    · intro p_v h_ h2_
      have hbv := yM p_v
      have e0 := (ih.2.1 p_v.nX (by omega) (by omega))
      have e1 := (ih.2.2.1 p_v.jh (by omega) (by omega))
      simp only [iL,Oj,Mo.den,aP,aI,aN,aO,e0,e1,Option.bind_some,List.length_nil]
      all_goals (cases p_v; rfl)
    · intro p_l h_ h2_
      have hl := FK p_l
      have h1:Ol (iL n_) p_l 0 (List.replicate (p_l.length:Int).toNat (aF.mk 0 0 ⟨#[]⟩ [] [])) = some p_l := dV p_l (fun x=>(iL n_).m1 x) _ _ (by simp) (by omega) (fun x hx=>ih.1 x (by have := wQ hx; omega) (by have := wQ hx; omega)) (fun k s=>by simp only [DU,Mo.den,aP,aI,aN,aO])
      simp only [iL,Om,Mo.den,aP,aI,aN,aO,h1]
      exact dB p_l _ ⟨by omega,by omega,by unfold maxLen; omega⟩
    · intro p_l h_ h2_
      have hl := yP p_l
      have h1:Oo (iL n_) p_l 0 (List.replicate (p_l.length:Int).toNat (aX.mk ⟨#[]⟩ (aF.mk 0 0 ⟨#[]⟩ [] []))) = some p_l := dV p_l (fun x=>(iL n_).m4 x) _ _ (by simp) (by omega) (fun x hx=>ih.2.2.2 x (by have := o8 hx; omega) (by have := o8 hx; omega)) (fun k s=>by simp only [DV,Mo.den,aP,aI,aN,aO])
      simp only [iL,Oq,Mo.den,aP,aI,aN,aO,h1]
      exact dB p_l _ ⟨by omega,by omega,by unfold maxLen; omega⟩
    · intro p_f h_ h2_
      have hbv := qx p_f
      have e0 := (ih.1 p_f.fValue (by omega) (by omega))
      simp only [iL,He,Mo.den,aP,aI,aN,aO,e0,Option.bind_some,List.length_nil]
      all_goals (cases p_f; rfl)
theorem dQ (p_v:aF) (h_:bn p_v.lf1 ≤ 100000000) : Q43 p_v = some p_v := (jB FU).1 p_v (iq (by omega)) h_
theorem iw (p_l:List aF) (h_:bH (p_l.map aF.lf) ≤ 100000000) : Q23 p_l = some p_l := (jB FU).2.1 p_l (iq (by omega)) h_
theorem eH (p_l:List ByteArray) (h_:bH (p_l.map lfS) ≤ 100000000) : Q62 p_l = some p_l := by
  have hl := FM p_l
  simp only [Q62,Vh,Mo.den,aP,aI,aN,aO,Option.bind_some,List.length_nil]
  rw [if_pos (by omega)]
  try rfl
theorem ni (p_o:bC) (h_:bn p_o.lf1 ≤ 100000000) : Q88 p_o = some p_o := by
  have hbv := qy p_o
  have e0 := (eH p_o.eU (by omega))
  simp only [Q88,Vj,Mo.den,aP,aI,aN,aO,e0,Option.bind_some,List.length_nil]
  all_goals (cases p_o; rfl)
theorem jM (p_l:List bC) (h_:bH (p_l.map bC.lf) ≤ 100000000) : Q31 p_l = some p_l := by
  have hl := yQ p_l
  have h1:Ov p_l 0 (List.replicate (p_l.length:Int).toNat (bC.mk [] false)) = some p_l := dV p_l (fun x=>Q88 x) _ _ (by simp) (by omega) (fun x hx=>ni x (by have := AA hx; omega)) (fun k s=>by simp only [DW,Mo.den,aP,aI,aN,aO])
  simp only [Q31,Vk,Mo.den,aP,aI,aN,aO,h1]
  exact dB p_l _ ⟨by omega,by omega,by unfold maxLen; omega⟩
theorem ny (n_:Nat) : (∀ p_e:aW,4 * bn p_e.lf1 + 0 < n_ → bn p_e.lf1 ≤ 100000000 → (mP n_).m1 p_e = some p_e) ∧ (∀ p_l:List aW,4 * bH (p_l.map aW.lf) + 1 < n_ → bH (p_l.map aW.lf) ≤ 100000000 → (mP n_).m2 p_l = some p_l) := by
  induction n_ with
  | zero=>exact ⟨fun _ h=>by omega,fun _ h=>by omega⟩
  | succ n_ ih =>
    refine ⟨?_,?_⟩
    · intro p_e h_ h2_
      have hbv := uD p_e
      have e0 := (eH p_e.eU (by omega))
      have e1 := (eH p_e.iQ (by omega))
      have e2 := (dQ p_e.fArg (by omega))
      have e3 := (ih.2 p_e.fV (by omega) (by omega))
      simp only [mP,Ox,Mo.den,aP,aI,aN,aO,e0,e1,e2,e3,Option.bind_some,List.length_nil]
      all_goals (cases p_e; rfl)
    · intro p_l h_ h2_
      have hl := Au p_l
      have h1:Oy (mP n_) p_l 0 (List.replicate (p_l.length:Int).toNat aW.z) = some p_l := dV p_l (fun x=>(mP n_).m1 x) _ _ (by simp) (by omega) (fun x hx=>ih.1 x (by have := su hx; omega) (by have := su hx; omega)) (fun k s=>by simp only [DX,Mo.den,aP,aI,aN,aO])
      simp only [mP,Oz,Mo.den,aP,aI,aN,aO,h1]
      exact dB p_l _ ⟨by omega,by omega,by unfold maxLen; omega⟩
theorem oz (p_e:aW) (h_:bn p_e.lf1 ≤ 100000000) : Q84 p_e = some p_e := (ny FU).1 p_e (iq (by omega)) h_
theorem nC (n_:Nat) : (∀ p_p:aU,4 * bn p_p.lf1 + 0 < n_ → bn p_p.lf1 ≤ 100000000 → (mQ n_).m1 p_p = some p_p) ∧ (∀ p_l:List aU,4 * bH (p_l.map aU.lf) + 1 < n_ → bH (p_l.map aU.lf) ≤ 100000000 → (mQ n_).m2 p_l = some p_l) := by
  induction n_ with
  | zero=>exact ⟨fun _ h=>by omega,fun _ h=>by omega⟩
  | succ n_ ih =>
    refine ⟨?_,?_⟩
    · intro p_p h_ h2_
      have hbv := uF p_p
      have hbs := yN p_p.fC
      have hbp := yR p_p.fC.iC
      have e0 := (eH p_p.eU (by omega))
      have e1 := (dQ p_p.fArg (by omega))
      have e2 := (iw p_p.fArgs (by omega))
      have e3 := (oz p_p.fExpr (by omega))
      have e4 := (ih.2 p_p.fV (by omega) (by omega))
      simp only [mQ,OA,Mo.den,aP,aI,aN,aO,e0,e1,e2,e3,e4,Option.bind_some,List.length_nil]
      rw [if_pos (by omega)]
      all_goals (cases p_p; rfl)
    · intro p_l h_ h2_
      have hl := Aw p_l
      have h1:OB (mQ n_) p_l 0 (List.replicate (p_l.length:Int).toNat aU.z) = some p_l := dV p_l (fun x=>(mQ n_).m1 x) _ _ (by simp) (by omega) (fun x hx=>ih.1 x (by have := sD hx; omega) (by have := sD hx; omega)) (fun k s=>by simp only [DY,Mo.den,aP,aI,aN,aO])
      simp only [mQ,OC,Mo.den,aP,aI,aN,aO,h1]
      exact dB p_l _ ⟨by omega,by omega,by unfold maxLen; omega⟩
theorem oC (p_p:aU) (h_:bn p_p.lf1 ≤ 100000000) : Q71 p_p = some p_p := (nC FU).1 p_p (iq (by omega)) h_
theorem jF (p_x:aV) (h_:bn p_x.lf1 ≤ 100000000) : Q81 p_x = some p_x := by
  have hbv := qA p_x
  have e0 := (jM p_x.kX (by omega))
  have e1 := (oC p_x.kE (by omega))
  simp only [Q81,Vl,Mo.den,aP,aI,aN,aO,e0,e1,Option.bind_some,List.length_nil]
  all_goals (cases p_x; rfl)
theorem jO (p_l:List aV) (h_:bH (p_l.map aV.lf) ≤ 100000000) : Q32 p_l = some p_l := by
  have hl := uV p_l
  have h1:OE p_l 0 (List.replicate (p_l.length:Int).toNat aV.z) = some p_l := dV p_l (fun x=>Q81 x) _ _ (by simp) (by omega) (fun x hx=>jF x (by have := AB hx; omega)) (fun k s=>by simp only [DZ,Mo.den,aP,aI,aN,aO])
  simp only [Q32,Vm,Mo.den,aP,aI,aN,aO,h1]
  exact dB p_l _ ⟨by omega,by omega,by unfold maxLen; omega⟩
theorem lF (n_:Nat) : (∀ p_s:aC,4 * bn p_s.lf1 + 0 < n_ → bn p_s.lf1 ≤ 100000000 → (jc n_).m1 p_s = some p_s) ∧ (∀ p_l:List bF,4 * bH (p_l.map bF.lf) + 2 < n_ → bH (p_l.map bF.lf) ≤ 100000000 → (jc n_).m2 p_l = some p_l) ∧ (∀ p_l:List aC,4 * bH (p_l.map aC.lf) + 1 < n_ → bH (p_l.map aC.lf) ≤ 100000000 → (jc n_).m3 p_l = some p_l) ∧ (∀ p_p:bF,4 * bn p_p.lf1 + 1 < n_ → bn p_p.lf1 ≤ 100000000 → (jc n_).m4 p_p = some p_p) := by
  induction n_ with
  | zero=>exact ⟨fun _ h=>by omega,fun _ h=>by omega,fun _ h=>by omega,fun _ h=>by omega⟩
  | succ n_ ih =>
    refine ⟨?_,?_,?_,?_⟩
    · intro p_s h_ h2_
      have hbv := ou p_s
      have e0 := (dQ p_s.zD (by omega))
      have e1 := (dQ p_s.zF (by omega))
      have e2 := (iw p_s.mO (by omega))
      have e3 := (eH p_s.gI (by omega))
      have e4 := (ih.2.1 p_s.jS (by omega) (by omega))
      have e5 := (ih.2.2.1 p_s.jT (by omega) (by omega))
      simp only [jc,OG,Mo.den,aP,aI,aN,aO,e0,e1,e2,e3,e4,e5,Option.bind_some,List.length_nil]
      all_goals (cases p_s; rfl)
    · intro p_l h_ h2_
      have hl := Az p_l
      have h1:OH (jc n_) p_l 0 (List.replicate (p_l.length:Int).toNat (bF.mk ⟨#[]⟩ aC.z)) = some p_l := dV p_l (fun x=>(jc n_).m4 x) _ _ (by simp) (by omega) (fun x hx=>ih.2.2.2 x (by have := sF hx; omega) (by have := sF hx; omega)) (fun k s=>by simp only [D5,Mo.den,aP,aI,aN,aO])
      simp only [jc,OI,Mo.den,aP,aI,aN,aO,h1]
      exact dB p_l _ ⟨by omega,by omega,by unfold maxLen; omega⟩
    · intro p_l h_ h2_
      have hl := uX p_l
      have h1:OJ (jc n_) p_l 0 (List.replicate (p_l.length:Int).toNat aC.z) = some p_l := dV p_l (fun x=>(jc n_).m1 x) _ _ (by simp) (by omega) (fun x hx=>ih.1 x (by have := mD hx; omega) (by have := mD hx; omega)) (fun k s=>by simp only [D6,Mo.den,aP,aI,aN,aO])
      simp only [jc,OL,Mo.den,aP,aI,aN,aO,h1]
      exact dB p_l _ ⟨by omega,by omega,by unfold maxLen; omega⟩
    · intro p_p h_ h2_
      have hbv := uG p_p
      have e0 := (ih.1 p_p.gV (by omega) (by omega))
      simp only [jc,Hf,Mo.den,aP,aI,aN,aO,e0,Option.bind_some,List.length_nil]
      all_goals (cases p_p; rfl)
theorem mF (p_s:aC) (h_:bn p_s.lf1 ≤ 100000000) : Q67 p_s = some p_s := (lF FU).1 p_s (iq (by omega)) h_
theorem nG (p_d:bZ) (h_:bn p_d.lf1 ≤ 100000000) : Q94 p_d = some p_d := by
  have hbv := yO p_d
  have e0 := (jO p_d.jv (by omega))
  have e1 := (mF p_d.gV (by omega))
  simp only [Q94,Vo,Mo.den,aP,aI,aN,aO,e0,e1,Option.bind_some,List.length_nil]
  all_goals (cases p_d; rfl)
theorem iR (p_l:List Int) (h_:bH (p_l.map lfI) ≤ 100000000) : Q73 p_l = some p_l := by
  have hl := FN p_l
  simp only [Q73,Vp,Mo.den,aP,aI,aN,aO,Option.bind_some,List.length_nil]
  rw [if_pos (by omega)]
  try rfl
theorem mG (n_:Nat) : (∀ p_w:ay,4 * bn p_w.lf1 + 0 < n_ → bn p_w.lf1 ≤ 100000000 → (mV n_).m1 p_w = some p_w) ∧ (∀ p_l:List ay,4 * bH (p_l.map ay.lf) + 1 < n_ → bH (p_l.map ay.lf) ≤ 100000000 → (mV n_).m2 p_l = some p_l) := by
  induction n_ with
  | zero=>exact ⟨fun _ h=>by omega,fun _ h=>by omega⟩
  | succ n_ ih =>
    refine ⟨?_,?_⟩
    · intro p_w h_ h2_
      have hbv := qB p_w
      have e0 := (dQ p_w.kY (by omega))
      have e1 := (dQ p_w.jh (by omega))
      have e2 := (dQ p_w.fO (by omega))
      have e3 := (nG p_w.kZ (by omega))
      have e4 := (jF p_w.aY (by omega))
      have e5 := (ih.2 p_w.dH (by omega) (by omega))
      have e6 := (iR p_w.fD (by omega))
      simp only [mV,OO,Mo.den,aP,aI,aN,aO,e0,e1,e2,e3,e4,e5,e6,Option.bind_some,List.length_nil]
      all_goals (cases p_w; rfl)
    · intro p_l h_ h2_
      have hl := yS p_l
      have h1:OQ (mV n_) p_l 0 (List.replicate (p_l.length:Int).toNat ay.z) = some p_l := dV p_l (fun x=>(mV n_).m1 x) _ _ (by simp) (by omega) (fun x hx=>ih.1 x (by have := o9 hx; omega) (by have := o9 hx; omega)) (fun k s=>by simp only [D7,Mo.den,aP,aI,aN,aO])
      simp only [mV,OT,Mo.den,aP,aI,aN,aO,h1]
      exact dB p_l _ ⟨by omega,by omega,by unfold maxLen; omega⟩
theorem nH (p_w:ay) (h_:bn p_w.lf1 ≤ 100000000) : Q77 p_w = some p_w := (mG FU).1 p_w (iq (by omega)) h_
theorem nI (p_e:ak) (h_:bn p_e.lf1 ≤ 100000000) : Q89 p_e = some p_e := by
  have hbv := qC p_e
  have e0 := (nH p_e.qm (by omega))
  simp only [Q89,Vq,Mo.den,aP,aI,aN,aO,e0,Option.bind_some,List.length_nil]
  all_goals (cases p_e; rfl)
theorem jP (p_l:List ak) (h_:bH (p_l.map ak.lf) ≤ 100000000) : Q33 p_l = some p_l := by
  have hl := uY p_l
  have h1:OU p_l 0 (List.replicate (p_l.length:Int).toNat (ak.mk 0 0 ⟨#[]⟩ 0 ay.z)) = some p_l := dV p_l (fun x=>Q89 x) _ _ (by simp) (by omega) (fun x hx=>nI x (by have := AO hx; omega)) (fun k s=>by simp only [D8,Mo.den,aP,aI,aN,aO])
  simp only [Q33,Vr,Mo.den,aP,aI,aN,aO,h1]
  exact dB p_l _ ⟨by omega,by omega,by unfold maxLen; omega⟩
theorem fB (p_m:aj) (h_:bn p_m.lf1 ≤ 100000000) : Q65 p_m = some p_m := by
  have hbv := gq p_m
  have e0 := (jP p_m.aB (by omega))
  have e1 := (iR p_m.fNext (by omega))
  have e2 := (iR p_m.aS (by omega))
  simp only [Q65,Vs,Mo.den,aP,aI,aN,aO,e0,e1,e2,Option.bind_some,List.length_nil]
  all_goals (cases p_m; rfl)
theorem jC (n_:Nat) : (∀ p_v:aF,4 * bn p_v.lf1 + 0 < n_ → bn p_v.lf1 ≤ 100000000 → (iM n_).m1 p_v = some p_v) ∧ (∀ p_l:List aF,4 * bH (p_l.map aF.lf) + 1 < n_ → bH (p_l.map aF.lf) ≤ 100000000 → (iM n_).m2 p_l = some p_l) ∧ (∀ p_l:List aX,4 * bH (p_l.map aX.lf) + 2 < n_ → bH (p_l.map aX.lf) ≤ 100000000 → (iM n_).m3 p_l = some p_l) ∧ (∀ p_f:aX,4 * bn p_f.lf1 + 1 < n_ → bn p_f.lf1 ≤ 100000000 → (iM n_).m4 p_f = some p_f) := by
  induction n_ with
  | zero=>exact ⟨fun _ h=>by omega,fun _ h=>by omega,fun _ h=>by omega,fun _ h=>by omega⟩
  | succ n_ ih =>
    refine ⟨?_,?_,?_,?_⟩
    · intro p_v h_ h2_
      have hbv := yM p_v
      have e0 := (ih.2.1 p_v.nX (by omega) (by omega))
      have e1 := (ih.2.2.1 p_v.jh (by omega) (by omega))
      simp only [iM,O9,Mo.den,aP,aI,aN,aO,e0,e1,Option.bind_some,List.length_nil]
      all_goals (cases p_v; rfl)
    · intro p_l h_ h2_
      have hl := FK p_l
      have h1:Pe (iM n_) p_l 0 (List.replicate (p_l.length:Int).toNat (aF.mk 0 0 ⟨#[]⟩ [] [])) = some p_l := dV p_l (fun x=>(iM n_).m1 x) _ _ (by simp) (by omega) (fun x hx=>ih.1 x (by have := wQ hx; omega) (by have := wQ hx; omega)) (fun k s=>by simp only [Ej,Mo.den,aP,aI,aN,aO])
      simp only [iM,Pg,Mo.den,aP,aI,aN,aO,h1]
      exact dB p_l _ ⟨by omega,by omega,by unfold maxLen; omega⟩
    · intro p_l h_ h2_
      have hl := yP p_l
      have h1:Ph (iM n_) p_l 0 (List.replicate (p_l.length:Int).toNat (aX.mk ⟨#[]⟩ (aF.mk 0 0 ⟨#[]⟩ [] []))) = some p_l := dV p_l (fun x=>(iM n_).m4 x) _ _ (by simp) (by omega) (fun x hx=>ih.2.2.2 x (by have := o8 hx; omega) (by have := o8 hx; omega)) (fun k s=>by simp only [Em,Mo.den,aP,aI,aN,aO])
      simp only [iM,Pj,Mo.den,aP,aI,aN,aO,h1]
      exact dB p_l _ ⟨by omega,by omega,by unfold maxLen; omega⟩
    · intro p_f h_ h2_
      have hbv := qx p_f
      have e0 := (ih.1 p_f.fValue (by omega) (by omega))
      simp only [iM,Ht,Mo.den,aP,aI,aN,aO,e0,Option.bind_some,List.length_nil]
      all_goals (cases p_f; rfl)
theorem dR (p_v:aF) (h_:bn p_v.lf1 ≤ 100000000) : Q44 p_v = some p_v := (jC FU).1 p_v (iq (by omega)) h_
theorem iy (p_l:List aF) (h_:bH (p_l.map aF.lf) ≤ 100000000) : Q24 p_l = some p_l := (jC FU).2.1 p_l (iq (by omega)) h_
theorem eP (p_l:List ByteArray) (h_:bH (p_l.map lfS) ≤ 100000000) : Q63 p_l = some p_l := by
  have hl := FM p_l
  simp only [Q63,VF,Mo.den,aP,aI,aN,aO,Option.bind_some,List.length_nil]
  rw [if_pos (by omega)]
  try rfl
theorem nJ (p_o:bC) (h_:bn p_o.lf1 ≤ 100000000) : Q90 p_o = some p_o := by
  have hbv := qy p_o
  have e0 := (eP p_o.eU (by omega))
  simp only [Q90,VG,Mo.den,aP,aI,aN,aO,e0,Option.bind_some,List.length_nil]
  all_goals (cases p_o; rfl)
theorem jQ (p_l:List bC) (h_:bH (p_l.map bC.lf) ≤ 100000000) : Q34 p_l = some p_l := by
  have hl := yQ p_l
  have h1:Po p_l 0 (List.replicate (p_l.length:Int).toNat (bC.mk [] false)) = some p_l := dV p_l (fun x=>Q90 x) _ _ (by simp) (by omega) (fun x hx=>nJ x (by have := AA hx; omega)) (fun k s=>by simp only [En,Mo.den,aP,aI,aN,aO])
  simp only [Q34,VH,Mo.den,aP,aI,aN,aO,h1]
  exact dB p_l _ ⟨by omega,by omega,by unfold maxLen; omega⟩
theorem nK (n_:Nat) : (∀ p_e:aW,4 * bn p_e.lf1 + 0 < n_ → bn p_e.lf1 ≤ 100000000 → (mW n_).m1 p_e = some p_e) ∧ (∀ p_l:List aW,4 * bH (p_l.map aW.lf) + 1 < n_ → bH (p_l.map aW.lf) ≤ 100000000 → (mW n_).m2 p_l = some p_l) := by
  induction n_ with
  | zero=>exact ⟨fun _ h=>by omega,fun _ h=>by omega⟩
  | succ n_ ih =>
    refine ⟨?_,?_⟩
    · intro p_e h_ h2_
      have hbv := uD p_e
      have e0 := (eP p_e.eU (by omega))
      have e1 := (eP p_e.iQ (by omega))
      have e2 := (dR p_e.fArg (by omega))
      have e3 := (ih.2 p_e.fV (by omega) (by omega))
      simp only [mW,Pq,Mo.den,aP,aI,aN,aO,e0,e1,e2,e3,Option.bind_some,List.length_nil]
      all_goals (cases p_e; rfl)
    · intro p_l h_ h2_
      have hl := Au p_l
      have h1:Pv (mW n_) p_l 0 (List.replicate (p_l.length:Int).toNat aW.z) = some p_l := dV p_l (fun x=>(mW n_).m1 x) _ _ (by simp) (by omega) (fun x hx=>ih.1 x (by have := su hx; omega) (by have := su hx; omega)) (fun k s=>by simp only [Eo,Mo.den,aP,aI,aN,aO])
      simp only [mW,Px,Mo.den,aP,aI,aN,aO,h1]
      exact dB p_l _ ⟨by omega,by omega,by unfold maxLen; omega⟩
theorem oD (p_e:aW) (h_:bn p_e.lf1 ≤ 100000000) : Q85 p_e = some p_e := (nK FU).1 p_e (iq (by omega)) h_
theorem nM (n_:Nat) : (∀ p_p:aU,4 * bn p_p.lf1 + 0 < n_ → bn p_p.lf1 ≤ 100000000 → (mX n_).m1 p_p = some p_p) ∧ (∀ p_l:List aU,4 * bH (p_l.map aU.lf) + 1 < n_ → bH (p_l.map aU.lf) ≤ 100000000 → (mX n_).m2 p_l = some p_l) := by
  induction n_ with
  | zero=>exact ⟨fun _ h=>by omega,fun _ h=>by omega⟩
  | succ n_ ih =>
    refine ⟨?_,?_⟩
    · intro p_p h_ h2_
      have hbv := uF p_p
      have hbs := yN p_p.fC
      have hbp := yR p_p.fC.iC
      have e0 := (eP p_p.eU (by omega))
      have e1 := (dR p_p.fArg (by omega))
      have e2 := (iy p_p.fArgs (by omega))
      have e3 := (oD p_p.fExpr (by omega))
      have e4 := (ih.2 p_p.fV (by omega) (by omega))
      simp only [mX,Py,Mo.den,aP,aI,aN,aO,e0,e1,e2,e3,e4,Option.bind_some,List.length_nil]
      rw [if_pos (by omega)]
      all_goals (cases p_p; rfl)
    · intro p_l h_ h2_
      have hl := Aw p_l
      have h1:Pz (mX n_) p_l 0 (List.replicate (p_l.length:Int).toNat aU.z) = some p_l := dV p_l (fun x=>(mX n_).m1 x) _ _ (by simp) (by omega) (fun x hx=>ih.1 x (by have := sD hx; omega) (by have := sD hx; omega)) (fun k s=>by simp only [Ep,Mo.den,aP,aI,aN,aO])
      simp only [mX,PD,Mo.den,aP,aI,aN,aO,h1]
      exact dB p_l _ ⟨by omega,by omega,by unfold maxLen; omega⟩
theorem oG (p_p:aU) (h_:bn p_p.lf1 ≤ 100000000) : Q72 p_p = some p_p := (nM FU).1 p_p (iq (by omega)) h_
theorem jG (p_x:aV) (h_:bn p_x.lf1 ≤ 100000000) : Q82 p_x = some p_x := by
  have hbv := qA p_x
  have e0 := (jQ p_x.kX (by omega))
  have e1 := (oG p_x.kE (by omega))
  simp only [Q82,VI,Mo.den,aP,aI,aN,aO,e0,e1,Option.bind_some,List.length_nil]
  all_goals (cases p_x; rfl)
theorem jR (p_l:List aV) (h_:bH (p_l.map aV.lf) ≤ 100000000) : Q35 p_l = some p_l := by
  have hl := uV p_l
  have h1:PG p_l 0 (List.replicate (p_l.length:Int).toNat aV.z) = some p_l := dV p_l (fun x=>Q82 x) _ _ (by simp) (by omega) (fun x hx=>jG x (by have := AB hx; omega)) (fun k s=>by simp only [Es,Mo.den,aP,aI,aN,aO])
  simp only [Q35,VJ,Mo.den,aP,aI,aN,aO,h1]
  exact dB p_l _ ⟨by omega,by omega,by unfold maxLen; omega⟩
theorem lG (n_:Nat) : (∀ p_s:aC,4 * bn p_s.lf1 + 0 < n_ → bn p_s.lf1 ≤ 100000000 → (gG n_).m1 p_s = some p_s) ∧ (∀ p_l:List bF,4 * bH (p_l.map bF.lf) + 2 < n_ → bH (p_l.map bF.lf) ≤ 100000000 → (gG n_).m2 p_l = some p_l) ∧ (∀ p_l:List aC,4 * bH (p_l.map aC.lf) + 1 < n_ → bH (p_l.map aC.lf) ≤ 100000000 → (gG n_).m3 p_l = some p_l) ∧ (∀ p_p:bF,4 * bn p_p.lf1 + 1 < n_ → bn p_p.lf1 ≤ 100000000 → (gG n_).m4 p_p = some p_p) := by
  induction n_ with
  | zero=>exact ⟨fun _ h=>by omega,fun _ h=>by omega,fun _ h=>by omega,fun _ h=>by omega⟩
  | succ n_ ih =>
    refine ⟨?_,?_,?_,?_⟩
    · intro p_s h_ h2_
      have hbv := ou p_s
      have e0 := (dR p_s.zD (by omega))
      have e1 := (dR p_s.zF (by omega))
      have e2 := (iy p_s.mO (by omega))
      have e3 := (eP p_s.gI (by omega))
      have e4 := (ih.2.1 p_s.jS (by omega) (by omega))
      have e5 := (ih.2.2.1 p_s.jT (by omega) (by omega))
      simp only [gG,PI,Mo.den,aP,aI,aN,aO,e0,e1,e2,e3,e4,e5,Option.bind_some,List.length_nil]
      all_goals (cases p_s; rfl)
    · intro p_l h_ h2_
      have hl := Az p_l
      have h1:PK (gG n_) p_l 0 (List.replicate (p_l.length:Int).toNat (bF.mk ⟨#[]⟩ aC.z)) = some p_l := dV p_l (fun x=>(gG n_).m4 x) _ _ (by simp) (by omega) (fun x hx=>ih.2.2.2 x (by have := sF hx; omega) (by have := sF hx; omega)) (fun k s=>by simp only [Et,Mo.den,aP,aI,aN,aO])
      simp only [gG,PL,Mo.den,aP,aI,aN,aO,h1]
      exact dB p_l _ ⟨by omega,by omega,by unfold maxLen; omega⟩
    · intro p_l h_ h2_
      have hl := uX p_l
      have h1:PN (gG n_) p_l 0 (List.replicate (p_l.length:Int).toNat aC.z) = some p_l := dV p_l (fun x=>(gG n_).m1 x) _ _ (by simp) (by omega) (fun x hx=>ih.1 x (by have := mD hx; omega) (by have := mD hx; omega)) (fun k s=>by simp only [Eu,Mo.den,aP,aI,aN,aO])
      simp only [gG,PO,Mo.den,aP,aI,aN,aO,h1]
      exact dB p_l _ ⟨by omega,by omega,by unfold maxLen; omega⟩
    · intro p_p h_ h2_
      have hbv := uG p_p
      have e0 := (ih.1 p_p.gV (by omega) (by omega))
      simp only [gG,Hu,Mo.den,aP,aI,aN,aO,e0,Option.bind_some,List.length_nil]
      all_goals (cases p_p; rfl)
theorem mJ (p_s:aC) (h_:bn p_s.lf1 ≤ 100000000) : Q68 p_s = some p_s := (lG FU).1 p_s (iq (by omega)) h_
theorem nN (p_d:bZ) (h_:bn p_d.lf1 ≤ 100000000) : Q96 p_d = some p_d := by
  have hbv := yO p_d
  have e0 := (jR p_d.jv (by omega))
  have e1 := (mJ p_d.gV (by omega))
  simp only [Q96,VK,Mo.den,aP,aI,aN,aO,e0,e1,Option.bind_some,List.length_nil]
  all_goals (cases p_d; rfl)
theorem iT (p_l:List Int) (h_:bH (p_l.map lfI) ≤ 100000000) : Q74 p_l = some p_l := by
  have hl := FN p_l
  simp only [Q74,VL,Mo.den,aP,aI,aN,aO,Option.bind_some,List.length_nil]
  rw [if_pos (by omega)]
  try rfl
theorem mM (n_:Nat) : (∀ p_w:ay,4 * bn p_w.lf1 + 0 < n_ → bn p_w.lf1 ≤ 100000000 → (mY n_).m1 p_w = some p_w) ∧ (∀ p_l:List ay,4 * bH (p_l.map ay.lf) + 1 < n_ → bH (p_l.map ay.lf) ≤ 100000000 → (mY n_).m2 p_l = some p_l) := by
  induction n_ with
  | zero=>exact ⟨fun _ h=>by omega,fun _ h=>by omega⟩
  | succ n_ ih =>
    refine ⟨?_,?_⟩
    · intro p_w h_ h2_
      have hbv := qB p_w
      have e0 := (dR p_w.kY (by omega))
      have e1 := (dR p_w.jh (by omega))
      have e2 := (dR p_w.fO (by omega))
      have e3 := (nN p_w.kZ (by omega))
      have e4 := (jG p_w.aY (by omega))
      have e5 := (ih.2 p_w.dH (by omega) (by omega))
      have e6 := (iT p_w.fD (by omega))
      simp only [mY,PU,Mo.den,aP,aI,aN,aO,e0,e1,e2,e3,e4,e5,e6,Option.bind_some,List.length_nil]
      all_goals (cases p_w; rfl)
    · intro p_l h_ h2_
      have hl := yS p_l
      have h1:PV (mY n_) p_l 0 (List.replicate (p_l.length:Int).toNat ay.z) = some p_l := dV p_l (fun x=>(mY n_).m1 x) _ _ (by simp) (by omega) (fun x hx=>ih.1 x (by have := o9 hx; omega) (by have := o9 hx; omega)) (fun k s=>by simp only [Ew,Mo.den,aP,aI,aN,aO])
      simp only [mY,PW,Mo.den,aP,aI,aN,aO,h1]
      exact dB p_l _ ⟨by omega,by omega,by unfold maxLen; omega⟩
theorem nO (p_w:ay) (h_:bn p_w.lf1 ≤ 100000000) : Q78 p_w = some p_w := (mM FU).1 p_w (iq (by omega)) h_
theorem nP (p_e:ak) (h_:bn p_e.lf1 ≤ 100000000) : Q91 p_e = some p_e := by
  have hbv := qC p_e
  have e0 := (nO p_e.qm (by omega))
  simp only [Q91,VN,Mo.den,aP,aI,aN,aO,e0,Option.bind_some,List.length_nil]
  all_goals (cases p_e; rfl)
theorem fK (p_l:List ak) (h_:bH (p_l.map ak.lf) ≤ 100000000) : Q26 p_l = some p_l := by
  have hl := uY p_l
  have h1:PX p_l 0 (List.replicate (p_l.length:Int).toNat (ak.mk 0 0 ⟨#[]⟩ 0 ay.z)) = some p_l := dV p_l (fun x=>Q91 x) _ _ (by simp) (by omega) (fun x hx=>nP x (by have := AO hx; omega)) (fun k s=>by simp only [Ey,Mo.den,aP,aI,aN,aO])
  simp only [Q26,VO,Mo.den,aP,aI,aN,aO,h1]
  exact dB p_l _ ⟨by omega,by omega,by unfold maxLen; omega⟩
theorem jD (p_m:aj) (h_:bn p_m.lf1 ≤ 100000000) : Q75 p_m = some p_m := by
  have hbv := gq p_m
  have e0 := (fK p_m.aB (by omega))
  have e1 := (iT p_m.fNext (by omega))
  have e2 := (iT p_m.aS (by omega))
  simp only [Q75,VQ,Mo.den,aP,aI,aN,aO,e0,e1,e2,Option.bind_some,List.length_nil]
  all_goals (cases p_m; rfl)
end Go.Proofs.YtdnafbfmaphhhaaGreatDoor
set_option linter.unusedSimpArgs false
set_option linter.unusedVariables false
namespace Go.Proofs.YtdnafbfmaphhhaaGreatDoor
open Go.RowKit
def maj (n:Int) : Int := if n < 1 ∨ 7 < n then 0 else n / 2 + 1
theorem sG (n:Int) : Q64 n = some (maj n) := by
  simp only [Q64,Vy,Eb,Mo.den,aP,aI,bg,aN,aO,maj]
  by_cases h1:n < 1
  · rw [decide_eq_true h1,if_pos (.inl h1)]; rfl
  rw [decide_eq_false h1]
  by_cases h2 : 7 < n
  · rw [decide_eq_true h2,if_pos (.inr h2)]; rfl
  rw [decide_eq_false h2,if_neg (by omega)]
  simp only [cond_false,Option.bind_some]
  obtain ⟨k,rfl⟩ := Int.eq_ofNat_of_zero_le (show 0 ≤ n by omega)
  rw [show Int.tdiv (k:Int) 2 = (k:Int) / 2 from Int.tdiv_eq_ediv_of_nonneg (by omega),w64 (x := (k:Int) / 2) (by omega) (by omega),w64 (by omega) (by omega)]
/-- what is known of a member that is examined -/
structure Good (m:aj) : Prop where
  s1 : 1 ≤ m.bI
  s7:m.bI ≤ 7
  i0 : 0 ≤ m.fID
  i1:m.fID < m.bI
  t0 : 0 ≤ m.aJ
  tm : 0 ≤ m.dU
  lg:m.aB.length ≤ 1000
  c0 : 0 ≤ m.au
  c1:m.au ≤ m.aB.length
  v0 : 0 ≤ m.eF
  v1:m.eF < jf .i64 1 m.bI
  pr:m.bQ = 2 → (m.fNext.length:Int) = m.bI ∧ (m.aS.length:Int) = m.bI ∧ (∀ x ∈ m.fNext,0 ≤ x ∧ x ≤ m.aB.length) ∧ ∀ x ∈ m.aS,0 ≤ x ∧ x ≤ m.aB.length
theorem qE:∀ l:List Int,bH (l.map lfI) = l.length
  | []=>rfl
  | x :: r=>by simp only [List.map_cons,bH,qE r,lfI,bn,Lf.bulk,List.length_cons]; omega
theorem kU {α:Type} (f : α → List Lf) (l:List α) (k:Nat) : bH ((l.drop k).map f) ≤ bH (l.map f) := by
  have := AP ((l.take k).map f) ((l.drop k).map f)
  rw [← List.map_append,List.take_append_drop] at this; omega
theorem kF (m:aj) (hb:bn m.lf1 ≤ 100000000) : Q38 m = some m := by
  simp only [Q38,Vt,Mo.den,aP,aI,bg,aN,aO,Q87,OW,Mo.den,aP,aI,bg,aN,aO,Q19,Jg,xU,oh,Mo.den,aP,aI,bg,aN,aO,fB m hb,Option.bind_some,decide_eq_true (show m.aJ ≤ m.aJ by omega),cond_true]
theorem jV (l:List ak) (hb:bH (l.map ak.lf) ≤ 10000000) : Q42 l = some l := by
  have h0:¬ ((l.length:Int) < 0) := by omega
  have e1:(aj.jY aj.z l).aB = l := rfl
  have e2:(aj.jY aj.z l).au = 0 := rfl
  have e3 := fK l (by omega)
  have hz:bn ((aj.jY aj.z l).jY []).lf1 = 12 := by kernel_rfl
  have e4 := jD ((aj.jY aj.z l).jY []) (by omega)
  simp only [Q42,VT,Mo.den,aP,aI,bg,aN,aO,Q97,PZ,Mo.den,aP,aI,bg,aN,aO,e1,e2,gt_iff_lt,Int.lt_irrefl,if_false,h0,Int.toNat_zero,List.drop_zero,List.take_zero,e3,e4,Option.bind_some]
  rw [if_pos (by omega),if_pos (by omega)]; rfl
def vJ (l:List ak) (n:Int) : Int := if 1 ≤ n then (match l[(n - 1).toNat]? with | some e=>e.aJ | none=>0) else 0
theorem yT (l:List ak) (n:Int) (hl:l.length ≤ 1000000) : Q70 n l = some (vJ l n) := by
  simp only [Q70,VD,Eh,Mo.den,aP,aI,bg,aN,aO,vJ]
  by_cases h1:n < 1
  · rw [decide_eq_true h1,if_neg (by omega)]; rfl
  rw [decide_eq_false h1,if_pos (by omega)]
  simp only [cond_false,Option.bind_some]
  by_cases h2:(l.length:Int) < n
  · rw [decide_eq_true h2,List.getElem?_eq_none (by omega)]; rfl
  · rw [decide_eq_false h2, w64 (by omega) (by omega)]
    obtain ⟨x,h3,h4⟩ := Ja (l := l) (i := n - 1) (by omega) (by omega)
    simp only [cond_false,h3,h4,Option.bind_some]
/-- a proper message -/
structure Rl (m:aj) (x:ah) : Prop where
  t0 : 0 ≤ x.aJ
  i0 : 0 ≤ x.aY
  i1:x.aY ≤ 16384
  c0 : 0 ≤ x.au
  c1:x.au ≤ 16384
  es:x.aQ.length ≤ 16
/-- what a member becomes at a later term -/
def tim (n:Int) : Int := IntKind.wrap .i64 (10 + IntKind.wrap .i64 (3 * n))
def stepS (m:aj) (t:Int) : aj := if t ≤ m.aJ then m else ⟨m.fID,m.bI,t,-1,0,-1,if m.bQ = 2 then tim m.fID else m.dU,0,m.aB,m.au,[],[]⟩
theorem FP (m:aj) (t:Int) (hb:bn m.lf1 ≤ 100000000) : Q87 m t = some (stepS m t) := by
  simp only [Q87,OW,Mo.den,aP,aI,bg,aN,aO,Q19,Jg,xU,oh,Mo.den,aP,aI,bg,aN,aO,Q57,zY,Mo.den,aP,aI,bg,aN,aO,fB m hb,Option.bind_some,stepS]
  by_cases h:t ≤ m.aJ
  · rw [decide_eq_true h,if_pos h]; rfl
  · rw [decide_eq_false h,if_neg h]
    by_cases hr:m.bQ = 2
    · rw [show (m.bQ == 2) = true by simp [hr],if_pos hr]; rfl
    · rw [show (m.bQ == 2) = false by simp [hr],if_neg hr]; rfl
def jg (m:aj) (x:ah) : aj :=
  let n := if m.aJ < x.aJ then stepS m x.aJ else if m.bQ = 1 then aj.nZ (aj.NR m 0) 0 else m
  aj.fH (aj.lY n x.bP) (tim n.fID)
theorem FQ (m:aj) (x:ah) : (jg m x).aB = m.aB ∧ (jg m x).au = m.au ∧ (jg m x).fID = m.fID := by
  unfold jg stepS
  split
  · rw [if_neg (by omega)]; exact ⟨rfl,rfl,rfl⟩
  · split <;> exact ⟨rfl,rfl,rfl⟩
theorem Me (m:aj) (x:ah) : bn (jg m x).lf1 ≤ bn m.lf1 := by
  rw [gq,gq,(FQ m x).1]
  have:bH ((jg m x).fNext.map lfI) ≤ bH (m.fNext.map lfI) ∧ bH ((jg m x).aS.map lfI) ≤ bH (m.aS.map lfI) := by
    unfold jg stepS
    split
    · rw [if_neg (by omega)]; exact ⟨Nat.zero_le _,Nat.zero_le _⟩
    · split <;> exact ⟨Nat.le_refl _,Nat.le_refl _⟩
  omega
/-- the first place at which the entries are not the log's -/
def ji (a b:ak) : Bool := a.aJ == b.aJ && a.dS == b.dS
theorem Ie (a b:ak) : ji a b = ji b a := by unfold ji; rw [BEq.comm (a := a.aJ),BEq.comm (a := a.dS)]
theorem Rn (a b:ak) : Uf a b = some (ji a b) := by
  simp only [Uf,O7,Mo.den,aP,aI,bg,aN,aO,ji]
  cases a.aJ == b.aJ <;> rfl
theorem AQ (a b:ak) : Q83 a b = some (ji a b) := by
  simp only [Q83,Wq,Mo.den,aP,aI,bg,aN,aO,ji]
  cases a.aJ == b.aJ <;> rfl
def dif (l:List ak) : List ak → Nat → Option Nat
  | [],_=>none
  | e :: r,i=>match l[i]? with
    | none=>none
    | some a=>if ji a e then dif l r (i + 1) else some i
theorem JE {l:List ak} {e:ak} {r:List ak} {i:Nat} (hx:l[i]? = none) : dif l (e :: r) i = none := by unfold dif; rw [hx]
theorem wR {l:List ak} {e a:ak} {r:List ak} {i:Nat} (hx:l[i]? = some a) (hs:ji a e = true) : dif l (e :: r) i = dif l r (i + 1) := by
  show (match l[i]? with | none=>none | some a=>if ji a e then dif l r (i + 1) else some i) = _
  rw [hx]; exact if_pos hs
theorem sH {l:List ak} {e a:ak} {r:List ak} {i:Nat} (hx:l[i]? = some a) (hs:ji a e = false) : dif l (e :: r) i = some i := by
  show (match l[i]? with | none=>none | some a=>if ji a e then dif l r (i + 1) else some i) = _
  rw [hx]; exact if_neg (by rw [hs]; simp)
theorem uH {l:List ak} : ∀ {es:List ak} {i p:Nat},dif l es i = some p → i ≤ p ∧ p < l.length
  | [],_,_,h=>by cases h
  | e :: r,i,p,h=>by
    cases hx:l[i]? with
    | none=>rw [JE hx] at h; cases h
    | some a =>
      have hi := (List.getElem?_eq_some_iff.1 hx).1
      cases hs:ji a e with
      | true =>
        rw [wR hx hs] at h
        have := uH h; omega
      | false =>
        rw [sH hx hs] at h
        cases h; omega
theorem drop_at {es:List ak} {k:Nat} {e:ak} (hx:es[k]? = some e) : es.drop k = e :: es.drop (k + 1) := by
  have hk := (List.getElem?_eq_some_iff.1 hx)
  rw [List.drop_eq_getElem_cons hk.1,hk.2]
def UM (o:Option Nat) (d:Int) : Int := match o with | some p=>(p:Int) | none=>d
theorem uZ (x:ah) (n:aA) (i:Nat) (hi:x.aY = i) (hi2:i ≤ 20000) (he:x.aQ.length ≤ 1000) : Q6 x n = some (UM (dif n.aG.aB x.aQ i) (n.aG.aB.length:Int)) := by
  have h1:Tot (O8 n x 0) (fun r=>r = (match dif n.aG.aB x.aQ i with | some p=>.inr (p:Int) | none=>.inl ())) := by
    refine T.Rk x.aQ.length (by omega) (fun k s=>s = (k:Int) ∧ dif n.aG.aB (x.aQ.drop k) (i + k) = dif n.aG.aB x.aQ i) _ ⟨rfl,rfl⟩ ?_ ?_
    · rintro k s hk ⟨rfl,hs⟩
      have hx := List.getElem?_eq_getElem hk
      have ew:IntKind.wrap .i64 ((i:Int) + (k:Int)) = ((i + k:Nat) : Int) := by rw [w64 (by omega) (by omega)]; omega
      rw [drop_at hx] at hs
      simp only [wz,Mo.den,aP,aI,bg,aN,aO,ltt hx,gid hx,cond_true,Option.bind_some,hi,ew]
      by_cases hq:i + k < n.aG.aB.length
      · have hy := List.getElem?_eq_getElem hq
        rw [decide_eq_false (show ¬ (n.aG.aB.length:Int) ≤ ((i + k:Nat) : Int) by omega),gid hy]
        simp only [cond_false,Option.bind_some,Rn]
        rw [Ie]
        cases hse:ji n.aG.aB[i + k] x.aQ[k] with
        | true =>
          rw [wR hy hse] at hs
          exact ⟨_,rfl,inc k (by omega),hs⟩
        | false =>
          rw [sH hy hse] at hs
          exact ⟨_,rfl,by rw [← hs]; rfl⟩
      · rw [JE (List.getElem?_eq_none (by omega))] at hs
        rw [decide_eq_true (show (n.aG.aB.length:Int) ≤ ((i + k:Nat) : Int) by omega)]
        exact ⟨_,rfl,by rw [← hs]; rfl⟩
    · rintro s ⟨rfl,hs⟩
      rw [List.drop_eq_nil_of_le (Nat.le_refl _)] at hs
      have hs:none = _ := hs
      simp only [wz,Mo.den,aP,aI,bg,aN,aO,ltn,cond_false]
      exact ⟨_,rfl,by rw [← hs]; rfl⟩
  obtain ⟨r,h1,h2⟩ := h1
  simp only [Q6,YL,Mo.den,aP,aI,bg,aN,aO,h1]
  rw [h2]
  cases dif n.aG.aB x.aQ i <;> rfl
theorem AU (d:Int) : UM none d = d := rfl
theorem AX (p:Nat) (d:Int) : UM (some p) d = (p:Int) := rfl
theorem UN (m:aj) (p:Nat) (c0 : 0 ≤ m.au) (hc:m.au ≤ p) (hp:p ≤ m.aB.length) (hl:m.aB.length ≤ 1000000) (hb:bn m.lf1 ≤ 100000000) : Q97 m (p:Int) = some (aj.jY m (m.aB.take p),⟨m.fID,m.aJ,(p:Int),m.aB.drop p⟩) := by
  have h1:(if m.au > (p:Int) then m.au else (p:Int)) = (p:Int) := if_neg (by omega)
  have h2:(if (0:Int) > (p:Int) then (0:Int) else (p:Int)) = (p:Int) := if_neg (by omega)
  have h3:(if (m.aB.length:Int) < (p:Int) then (m.aB.length:Int) else (p:Int)) = (p:Int) := if_neg (by omega)
  have hbm := gq m
  have hd := kU ak.lf m.aB p
  have e1 := fK (m.aB.drop p) (by omega)
  have e2 := jD (aj.jY m (m.aB.take p)) (by
    have ht := pR ak.lf m.aB p
    rw [gq]
    show 12 + bH ((m.aB.take p).map ak.lf) + bH (m.fNext.map lfI) + bH (m.aS.map lfI) ≤ _
    omega)
  simp only [Q97,PZ,Mo.den,aP,aI,bg,aN,aO,h1,h2,h3,Int.toNat_natCast,e1,e2,Option.bind_some]
  rw [if_pos (by omega),if_pos (by omega)]
def noR:bU := ⟨-1,0,0,[]⟩
def Ig (m:aj) (x:ah) (ok:Bool) (n:Int) : ah := ah.sOK (ah.iD (ah.gY (ah.dX (ah.sTo (ah.iH ah.z m.fID) x.bP) 4) m.aJ) n) ok
theorem uI (x:ah) (ok:Bool) (n:Int) (b:aA) (h:b.bD.length ≤ 1000) : Q79 x ok n b = some ⟨b.aG,b.bD ++ [Ig b.aG x ok n],b.dP⟩ := by
  simp only [Q79,VB,Mo.den,aP,aI,bg,aN,aO]
  rw [if_pos (by simp only [List.length_cons,List.length_nil]; omega)]; rfl
theorem jE:Q55 = some noR := rfl
def yU (x:ah) : Int := IntKind.wrap .i64 (x.aY + (x.aQ.length:Int))
/-- are the entries refused -/
def FT (m:aj) (x:ah) (i:Nat) : Bool :=
  decide ((m.aB.length:Int) < x.aY) || (vJ m.aB x.aY != x.iF) || (match dif m.aB x.aQ i with | some p=>decide ((p:Int) < m.au) | none=>false) || decide (16384 < yU x)
theorem FW (x:ah) (b:aA) (i:Nat) (hi:x.aY = i) (hi2:i ≤ 20000) (he:x.aQ.length ≤ 1000) (hl:b.aG.aB.length ≤ 1000000) (c1:b.aG.au ≤ b.aG.aB.length) : Q66 x b = some (FT b.aG x i) := by
  have h0:decide (x.aY < 0) = false := decide_eq_false (by omega)
  simp only [Q66,VE,Ei,Mo.den,aP,aI,bg,aN,aO,h0,cond_false,yT _ _ hl,Option.bind_some,uZ x b i hi hi2 he,FT]
  by_cases h1:(b.aG.aB.length:Int) < x.aY
  · rw [decide_eq_true h1]; simp
  rw [decide_eq_false h1]
  simp only [cond_false,Option.bind_some,Bool.false_or]
  cases vJ b.aG.aB x.aY != x.iF with
  | true=>simp
  | false =>
    cases hd:dif b.aG.aB x.aQ i with
    | none =>
      have h2:¬ (b.aG.aB.length:Int) < b.aG.au := by omega
      rw [AU,decide_eq_false h2]; rfl
    | some p =>
      rw [AX]
      simp only [cond_false,Option.bind_some,Bool.false_or]
      by_cases h2:(p:Int) < b.aG.au
      · rw [decide_eq_true h2]; rfl
      · rw [decide_eq_false h2]; rfl
/-- what is taken -/
def ctS (m:aj) : Option Nat → aj × bU
  | none=>(m,noR)
  | some p=>(aj.jY m (m.aB.take p),⟨m.fID,m.aJ,(p:Int),m.aB.drop p⟩)
def Ih (m:aj) (x:ah) : Int := if (if yU x < x.au then yU x else x.au) > m.au then (if yU x < x.au then yU x else x.au) else m.au
def UO (m:aj) (x:ah) (i:Nat) : aj := aj.lZ (aj.jY m (m.aB ++ x.aQ.drop (m.aB.length - i))) (Ih m x)
def mZ (m:aj) (x:ah) (i:Nat) : aj × List ah × bU :=
  let c := ctS m (dif m.aB x.aQ i)
  (UO c.1 x i,[Ig (UO c.1 x i) x true (yU x)],c.2)
theorem UQ (m:aj) (l:List ak) (i:Nat) (hi:i ≤ m.aB.length) : i ≤ (ctS m (dif m.aB l i)).1.aB.length ∧ (ctS m (dif m.aB l i)).1.aB.length ≤ m.aB.length := by
  cases h:dif m.aB l i with
  | none=>exact ⟨hi,Nat.le_refl _⟩
  | some p =>
    have := uH h
    show i ≤ (m.aB.take p).length ∧ (m.aB.take p).length ≤ _
    rw [List.length_take]; omega
theorem Ro (x:ah) (b:aA) (i:Nat) (hs:b.bD = []) (hr:b.dP = noR) (hi:x.aY = i) (hi2:i ≤ 20000) (he:x.aQ.length ≤ 1000) (hl:b.aG.aB.length ≤ 1000000) (hil:i ≤ b.aG.aB.length) (c0 : 0 ≤ b.aG.au) (hc:∀ p,dif b.aG.aB x.aQ i = some p → b.aG.au ≤ p) (hb:bn b.aG.lf1 ≤ 10000000) (hx:bH (x.aQ.map ak.lf) ≤ 10000000) : Q12 x b = some ⟨(mZ b.aG x i).1,(mZ b.aG x i).2.1,(mZ b.aG x i).2.2⟩ := by
  obtain ⟨m,s,r⟩ := b
  obtain rfl:s = [] := hs
  obtain rfl:r = noR := hr
  have hl:m.aB.length ≤ 1000000 := hl
  have hil:i ≤ m.aB.length := hil
  have hb:bn m.lf1 ≤ 10000000 := hb
  have hcl := UQ m x.aQ i hil
  have j0:BO ⟨m,[],noR⟩ x (UM (dif m.aB x.aQ i) (m.aB.length:Int)) = some (let c := ctS m (dif m.aB x.aQ i); (c.1.fID,c.1.bI,c.1.aJ,c.1.fZ,c.1.bQ,c.1.gQ,c.1.dU,c.1.eF,c.1.au,c.2.dZ,c.2.aJ,c.2.fAt,c.2.aQ,c.1.aB,c.1.fNext,c.1.aS)) := by
    unfold BO yg
    simp only [Mo.den,aP,aI,bg,aN,aO]
    cases h:dif m.aB x.aQ i with
    | none =>
      rw [AU]
      rw [decide_eq_false (show ¬ (m.aB.length:Int) < (m.aB.length:Int) by omega)]; rfl
    | some p =>
      have hp := uH h
      rw [AX]
      rw [decide_eq_true (show (p:Int) < (m.aB.length:Int) by omega),UN m p c0 (hc p h) (by omega) hl (by omega)]; rfl
  simp only [Q12,VU,Mo.den,aP,aI,bg,aN,aO,uZ x ⟨m,[],noR⟩ i hi hi2 he,Option.bind_some,j0]
  generalize hcc:ctS m (dif m.aB x.aQ i) = c at hcl
  have j5:∀ r:(Int × Int × Int × Int × Int × Int × Int × Int × Int × Int × Int × Int × List ak × List ak × List Int × List Int),r.2.2.2.2.2.2.2.2.2.2.2.2.2.1 = c.1.aB → BP ⟨m,[],noR⟩ x r = some (c.1.aB ++ x.aQ.drop (c.1.aB.length - i)) := by
    intro r hr
    have hw:IntKind.wrap .i64 ((c.1.aB.length:Int) - (i:Int)) = ((c.1.aB.length - i:Nat) : Int) := by rw [w64 (by omega) (by omega)]; omega
    have hm:(if ((c.1.aB.length - i:Nat) : Int) > 0 then ((c.1.aB.length - i:Nat) : Int) else 0) = ((c.1.aB.length - i:Nat) : Int) := by split <;> omega
    unfold BP yj
    simp only [Mo.den,aP,aI,bg,aN,aO,hr,hi,hw,hm,Int.toNat_natCast]
    by_cases h:c.1.aB.length - i < x.aQ.length
    · have hd := kU ak.lf x.aQ (c.1.aB.length - i)
      rw [iLt h]
      simp only [cond_true,jV _ (Nat.le_trans hd hx),Option.bind_some]
      rw [if_pos (by omega),if_pos (by rw [List.length_drop]; omega)]
    · rw [zG h,List.drop_eq_nil_of_le (by omega),List.append_nil]; rfl
  rw [j5 _ rfl]
  simp only [Option.bind_some]
  rw [uI _ _ _ _ (by simp)]
  simp only [mZ,hcc]
  rfl
/-- what Entries answers -/
def Rq (m:aj) (x:ah) : Int :=
  let a := if IntKind.wrap .i64 (x.aY - 1) < (m.aB.length:Int) then IntKind.wrap .i64 (x.aY - 1) else (m.aB.length:Int)
  if a > 0 then a else 0
def sJ (m:aj) (x:ah) (i:Nat) : aj × List ah × bU :=
  if x.aJ < m.aJ then (m,[Ig m x false 0],noR)
  else if x.aJ = m.aJ ∧ m.bQ = 2 then (m,[],noR)
  else if FT (jg m x) x i = true then (jg m x,[Ig (jg m x) x false (Rq (jg m x) x)],noR)
  else mZ (jg m x) x i
theorem yV {m:aj} {x:ah} {i:Nat} (h:FT m x i = false) : x.aY ≤ m.aB.length ∧ (∀ p,dif m.aB x.aQ i = some p → m.au ≤ p) ∧ yU x ≤ 16384 := by
  unfold FT at h
  simp only [Bool.or_eq_false_iff,decide_eq_false_iff_not] at h
  obtain ⟨⟨⟨h1,_⟩,h2⟩,h3⟩ := h
  refine ⟨by omega,fun p hp=>?_,by omega⟩
  rw [hp] at h2
  have := of_decide_eq_false h2
  omega
theorem Rt (m:aj) (x:ah) : (bif x.aJ == m.aJ then some (m.bQ == 2) else some false) = some (decide (x.aJ = m.aJ ∧ m.bQ = 2)) := by
  by_cases h1:x.aJ = m.aJ
  · rw [show (x.aJ == m.aJ) = true by simp [h1]]
    by_cases h2:m.bQ = 2
    · rw [show (m.bQ == 2) = true by simp [h2],decide_eq_true ⟨h1,h2⟩]; rfl
    · rw [show (m.bQ == 2) = false by simp [h2],decide_eq_false (fun h=>h2 h.2)]; rfl
  · rw [show (x.aJ == m.aJ) = false by simp [h1],decide_eq_false (fun h=>h1 h.1)]; rfl
theorem FX (m:aj) (x:ah) (i:Nat) (g:Good m) (px:Rl m x) (hi:x.aY = i) (hb:bn m.lf1 ≤ 10000000) (hx:bH (x.aQ.map ak.lf) ≤ 10000000) : Q8 x ⟨m,[],noR⟩ = some ⟨(sJ m x i).1,(sJ m x i).2.1,(sJ m x i).2.2⟩ := by
  have lg := g.lg
  have c0 := g.c0
  have c1 := g.c1
  have i1 := px.i1
  have he := px.es
  obtain ⟨fl,fc,fi⟩ := FQ m x
  have hfb := Me m x
  have hj:∃ r j,Jl ⟨m,[],noR⟩ x = some r ∧ Hz ⟨m,[],noR⟩ x r = some j ∧ aj.mk r.1 r.2.1 r.2.2.1 r.2.2.2.1 j.1 x.bP (IntKind.wrap .i64 (10 + (IntKind.wrap .i64 (3 * r.1)))) j.2 r.2.2.2.2.2.2.2.2.2.1 r.2.2.2.2.2.2.2.2.1 r.2.2.2.2.2.2.2.2.2.2.1 r.2.2.2.2.2.2.2.2.2.2.2 = jg m x := by
    unfold Jl BQ Hz Ez jg
    simp only [Mo.den,aP,aI,bg,aN,aO]
    by_cases h:m.aJ < x.aJ
    · have hs : stepS m x.aJ = ⟨m.fID, m.bI, x.aJ, -1, 0, -1, if m.bQ = 2 then tim m.fID else m.dU, 0, m.aB, m.au, [], []⟩ := if_neg (by omega)
      rw [decide_eq_true h,if_pos h,FP m _ (by omega),hs]
      exact ⟨_,(0,0),rfl,rfl,rfl⟩
    · rw [decide_eq_false h,if_neg h]
      by_cases hr:m.bQ = 1
      · refine ⟨_, (0, 0), rfl, ?_, by rw [if_pos hr]; rfl⟩
        show (bif m.bQ == 1 then some ((0:Int),(0:Int)) else some (m.bQ,m.eF)) = _
        rw [show (m.bQ == 1) = true by simp [hr]]; rfl
      · refine ⟨_, (m.bQ, m.eF), rfl, ?_, by rw [if_neg hr]; rfl⟩
        show (bif m.bQ == 1 then some ((0:Int),(0:Int)) else some (m.bQ,m.eF)) = _
        rw [show (m.bQ == 1) = false by simp [hr]]; rfl
  obtain ⟨r,j,hr,hjj,hm⟩ := hj
  have hlog:r.2.2.2.2.2.2.2.2.2.1 = (jg m x).aB := by rw [← hm]
  unfold Q8 YM Jk
  simp only [Mo.den,aP,aI,bg,aN,aO,Rt,Option.bind_some,hr,hjj,hm,sJ]
  by_cases h1:x.aJ < m.aJ
  · rw [decide_eq_true h1,if_pos h1]
    simp only [cond_true]
    rw [uI _ _ _ _ (by simp)]; rfl
  rw [decide_eq_false h1,if_neg h1]
  simp only [cond_false]
  by_cases h2:x.aJ = m.aJ ∧ m.bQ = 2
  · rw [decide_eq_true h2,if_pos h2]; rfl
  rw [decide_eq_false h2,if_neg h2]
  simp only [cond_false]
  rw [FW x ⟨jg m x,[],noR⟩ i hi (by omega) (by omega) (by show (jg m x).aB.length ≤ _; rw [fl]; omega) (by show (jg m x).au ≤ ((jg m x).aB.length:Int); rw [fl,fc]; exact c1)]
  simp only [Option.bind_some]
  cases hq:FT (jg m x) x i with
  | true =>
    simp only [cond_true,if_true,hlog]
    rw [uI _ _ _ _ (by simp)]; rfl
  | false =>
    obtain ⟨k1,k2,k3⟩ := yV hq
    simp only [cond_false]
    rw [Ro x ⟨jg m x,[],noR⟩ i rfl rfl hi (by omega) (by omega) (by show (jg m x).aB.length ≤ _; rw [fl]; omega) (by show i ≤ (jg m x).aB.length; omega) (by show 0 ≤ (jg m x).au; rw [fc]; exact c0) k2 (by show bn (jg m x).lf1 ≤ _; omega) hx]
    rfl
/-- an element, 0 behind the end -/
def ia (l:List Int) (k:Nat) : Int := l[k]?.getD 0
theorem jJ {l:List Int} {k:Nat} (h:k < l.length) : cO l (k:Int) = some (ia l k) := by
  rw [DK,ia,List.getElem?_eq_getElem h]; rfl
theorem oH (l:List Int) (k:Nat) (v:Int) (p:Nat) (h:k < l.length) : ia (l.set k v) p = if p = k then v else ia l p := by
  unfold ia
  by_cases e:p = k
  · subst e; rw [if_pos rfl,List.getElem?_set_self h]; rfl
  · rw [if_neg e,List.getElem?_set_ne (fun x=>e x.symm)]
theorem yX {l:List Int} {k:Nat} (h:k < l.length) : l[k] = ia l k := by
  unfold ia; rw [List.getElem?_eq_getElem h]; rfl
/-- sorted up to i, but for place j -/
def Srt (l:List Int) (i j:Nat) : Prop := ∀ p q,p < q → q < i → q ≠ j → ia l p ≤ ia l q
theorem Ru (x y:Int) : Q58 x y = some (decide (x < y)) := by
  simp only [Q58,VW,Ag,ED,EC,Mo.den,aP,aI,bg,aN,aO,YR,Qa,Mo.den,aP,aI,bg,aN,aO]
  simp
theorem swap_perm (l:List Int) (j:Nat) (h:j + 1 < l.length) : ((l.set (j + 1) (ia l j)).set j (ia l (j + 1))).Perm l := by
  have := List.set_set_perm (show j + 1 < l.length from h) (show j < l.length by omega)
  rwa [yX,yX] at this
theorem Rw (l:List Int) (i j:Nat) (hi:i < l.length) (hj:j + 1 ≤ i) (hs:Srt l (i + 1) (j + 1)) (h:ia l (j + 1) < ia l j) : Srt ((l.set (j + 1) (ia l j)).set j (ia l (j + 1))) (i + 1) j := by
  intro p q h1 h2 h3
  have hl1:j < (l.set (j + 1) (ia l j)).length := by rw [List.length_set]; omega
  rw [oH _ j _ p hl1,oH _ j _ q hl1,oH l (j + 1) _ p (by omega),oH l (j + 1) _ q (by omega),if_neg h3]
  by_cases e1:q = j + 1
  · rw [if_pos e1]
    by_cases e2:p = j
    · rw [if_pos e2]; omega
    · rw [if_neg e2, if_neg (by omega)]
      exact hs p j (by omega) (by omega) (by omega)
  · rw [if_neg e1]
    by_cases e2:p = j
    · rw [if_pos e2]; exact hs (j + 1) q (by omega) (by omega) (by omega)
    · rw [if_neg e2]
      by_cases e3:p = j + 1
      · rw [if_pos e3]; exact hs j q (by omega) (by omega) (by omega)
      · rw [if_neg e3]; exact hs p q h1 h2 e1
theorem MB (l:List Int) (b i:Int) (j:Nat) (h:j < l.length) (hl:l.length ≤ 1000) : Qb l 0 b i (j:Int) = some (decide (0 < j ∧ ia l j < ia l (j - 1))) := by
  unfold Qb Jo
  simp only [Mo.den,aP,aI,bg,aN,aO]
  by_cases h0 : 0 < j
  · have e : IntKind.wrap .i64 ((j : Int) - 1) = ((j - 1 : Nat) : Int) := by rw [w64 (by omega) (by omega)]; omega
    rw [decide_eq_true (show (0:Int) < (j:Int) by omega),e,jJ h,jJ (by omega)]
    simp only [cond_true,Option.bind_some,Ru,h0,true_and]
  · rw [decide_eq_false (show ¬ (0:Int) < (j:Int) by omega),decide_eq_false (by omega)]; rfl
theorem UR (l0:List Int) (i:Nat) (b:Int) (hi:i < l0.length) (hl:l0.length ≤ 1000) (hs:Srt l0 i i) : Tot (Qc 0 b (i:Int) (i:Int) l0) (fun r=>r.Perm l0 ∧ Srt r (i + 1) (i + 1)) := by
  unfold Qc
  refine eX (fun v=>∃ j:Nat,v.1 = (j:Int) ∧ j ≤ i ∧ v.2.Perm l0 ∧ Srt v.2 (i + 1) j) (fun v=>v.1.toNat) _ ?_ FU _ ⟨i,rfl,Nat.le_refl _,List.Perm.refl _,fun p q h1 h2 h3=>hs p q h1 (by omega) h3⟩ (iq (by show (i:Int).toNat ≤ _; omega))
  rintro ⟨jj,l⟩ ⟨j,h1,h2,h3,h4⟩
  obtain rfl:jj = (j:Int) := h1
  have h3:l.Perm l0 := h3
  have h4:Srt l (i + 1) j := h4
  have hlen := h3.length_eq
  unfold Jp
  simp only [Mo.den,aP,aI,bg,aN,aO]
  rw [MB l b i j (by omega) (by omega)]
  simp only [Option.bind_some]
  by_cases hc : 0 < j ∧ ia l j < ia l (j - 1)
  · obtain ⟨k, rfl⟩ : ∃ k, j = k + 1 := ⟨j - 1, by omega⟩
    have hc2:ia l (k + 1) < ia l k := hc.2
    have e:IntKind.wrap .i64 (((k + 1:Nat) : Int) - 1) = (k:Int) := by rw [w64 (by omega) (by omega)]; omega
    have e2:((k + 1:Nat) : Int).toNat = k + 1 := by omega
    have e3:(k:Int).toNat = k := by omega
    rw [decide_eq_true hc,e,jJ (l := l) (by omega),jJ (l := l) (by omega)]
    simp only [cond_true,Option.bind_some,e2,e3]
    rw [jJ (by simp; omega)]
    exact .inl ⟨_,rfl,⟨k,rfl,by omega,(swap_perm l k (by omega)).trans h3,Rw l i k (by omega) (by omega) h4 hc2⟩,by show (k:Int).toNat < ((k + 1:Nat) : Int).toNat; omega⟩
  · rw [decide_eq_false hc]
    refine .inr ⟨l,rfl,h3,fun p q k1 k2 k3=>?_⟩
    by_cases e:q = j
    · subst e
      have h5:ia l (q - 1) ≤ ia l q := by have:¬ ia l q < ia l (q - 1) := fun x=>hc ⟨by omega,x⟩; omega
      by_cases e:p = q - 1
      · rw [e]; exact h5
      · exact Int.le_trans (h4 p (q - 1) (by omega) (by omega) (by omega)) h5
    · exact h4 p q k1 k2 e
theorem Rx (l0:List Int) (hl:l0.length ≤ 1000) : Tot (Q4 0 (l0.length:Int) l0) (fun r=>r.Perm l0 ∧ Srt r l0.length l0.length) := by
  unfold Q4 YS
  simp only [Mo.den,aP,aI,bg,aN,aO]
  refine T.bind (R := fun r=>r.Perm l0 ∧ Srt r l0.length l0.length) ?_ fun r h=>T.ret h
  unfold Qd
  have e1:IntKind.wrap .i64 ((0:Int) + 1) = 1 := by decide
  rw [e1]
  refine eX (fun v=>∃ i:Nat,v.1 = (i:Int) ∧ 1 ≤ i ∧ i ≤ l0.length + 1 ∧ v.2.Perm l0 ∧ Srt v.2 i i) (fun v=>2000 - v.1.toNat) _ ?_ FU _ ⟨1,rfl,by omega,by omega,List.Perm.refl _,fun p q h1 h2 h3=>by omega⟩ (iq (by omega))
  rintro ⟨ii,l⟩ ⟨i,h1,h1',h2,h3,h4⟩
  obtain rfl:ii = (i:Int) := h1
  have h3:l.Perm l0 := h3
  have h4:Srt l i i := h4
  have hlen := h3.length_eq
  unfold EF
  simp only [Mo.den,aP,aI,bg,aN,aO]
  by_cases hc:i < l0.length
  · obtain ⟨r, k1, k2, k3⟩ := UR l i (l0.length : Int) (by omega) (by omega) h4
    rw [iLt hc,k1]
    simp only [cond_true,Option.bind_some]
    rw [inc i (by omega)]
    exact .inl ⟨_,rfl,⟨i + 1,rfl,by omega,by omega,k2.trans h3,k3⟩,by show 2000 - ((i + 1:Nat) : Int).toNat < 2000 - (i:Int).toNat; omega⟩
  · rw [zG hc]
    exact .inr ⟨l,rfl,h3,fun p q k1 k2 k3=>h4 p q k1 (by omega) (by omega)⟩
theorem UU (n:Nat) (h:n ≤ 7) : Tot (YQ (IntKind.wrap .u64 (n:Int))) Any := by
  have:n = 0 ∨ n = 1 ∨ n = 2 ∨ n = 3 ∨ n = 4 ∨ n = 5 ∨ n = 6 ∨ n = 7 := by omega
  rcases this with rfl | rfl | rfl | rfl | rfl | rfl | rfl | rfl
  · exact ⟨0,by kernel_rfl,trivial⟩
  · exact ⟨1,by kernel_rfl,trivial⟩
  · exact ⟨2,by kernel_rfl,trivial⟩
  · exact ⟨2,by kernel_rfl,trivial⟩
  · exact ⟨3,by kernel_rfl,trivial⟩
  · exact ⟨3,by kernel_rfl,trivial⟩
  · exact ⟨3,by kernel_rfl,trivial⟩
  · exact ⟨3,by kernel_rfl,trivial⟩
theorem UW (l:List Int) (hl:l.length ≤ 12) (lim:Int) (n:Nat) (hn : 0 < n) : Tot ((uo n).m1 0 (l.length:Int) lim l) (fun r=>r.Perm l ∧ Srt r l.length l.length) := by
  obtain ⟨k,rfl⟩ : ∃ k,n = k + 1 := ⟨n - 1,by omega⟩
  show Tot (Mo.den (Jq (uo k) 0 (l.length:Int) lim l)) _
  unfold Jq
  simp only [Mo.den,aP,aI,bg,aN,aO]
  refine T.bind (R := fun r=>r.Perm l ∧ Srt r l.length l.length) ?_ fun r h=>T.ret h
  unfold Qg
  refine T.Rk 0 (by omega) (fun _ _=>True) _ trivial (fun k s h=>by omega) fun s _=>?_
  unfold EG
  simp only [Mo.den,aP,aI,bg,aN,aO]
  rw [w64 (by omega) (by omega),decide_eq_true (show (l.length:Int) - 0 ≤ 12 by omega)]
  simp only [cond_true]
  exact T.bind (Rx l (by omega)) fun r h=>T.ret h
theorem Ry (l:List Int) (hl:l.length ≤ 7) : Tot (UA l) (fun r=>r.Perm l ∧ Srt r l.length l.length) := by
  unfold UA Qh
  simp only [Mo.den,aP,aI,bg,aN,aO]
  refine T.bind (UU l.length hl) fun b _=>?_
  refine T.bind (R := fun r=>r.Perm l ∧ Srt r l.length l.length) ?_ fun r h=>T.ret h
  unfold Q28
  exact UW l (by omega) b FU (iq (by omega))
/-- how many have come to v -/
def cnt (l:List Int) (v:Int) : Nat := l.countP (fun x=>decide (v ≤ x))
theorem Ii (s:List Int) (k:Nat) (v:Int) (hk:k < s.length) (hs:Srt s s.length s.length) : v ≤ ia s k ↔ s.length - k ≤ cnt s v := by
  have hmem:∀ {p:Nat} {a:Int},s[p]? = some a → ia s p = a := fun h=>by unfold ia; rw [h]; rfl
  constructor
  · intro h
    have h1:cnt s v = cnt (s.take k) v + cnt (s.drop k) v := by unfold cnt; rw [← List.countP_append,List.take_append_drop]
    have h2:cnt (s.drop k) v = (s.drop k).length := by
      unfold cnt
      rw [List.countP_eq_length]
      intro a ha
      obtain ⟨i,hi⟩ := List.mem_iff_getElem?.1 ha
      rw [List.getElem?_drop] at hi
      have hlt := (List.getElem?_eq_some_iff.1 hi).1
      have h3 := hmem hi
      have h4:ia s k ≤ ia s (k + i) := by
        by_cases e:i = 0
        · subst e; exact Int.le_refl _
        · exact hs k (k + i) (by omega) hlt (by omega)
      exact decide_eq_true (by omega)
    rw [h1,h2,List.length_drop]; omega
  · intro h
    apply Decidable.byContradiction
    intro hn
    have h1:cnt s v = cnt (s.take (k + 1)) v + cnt (s.drop (k + 1)) v := by unfold cnt; rw [← List.countP_append,List.take_append_drop]
    have h2:cnt (s.take (k + 1)) v = 0 := by
      unfold cnt
      rw [List.countP_eq_zero]
      intro a ha
      obtain ⟨i,hi⟩ := List.mem_iff_getElem?.1 ha
      rw [List.getElem?_take] at hi
      split at hi
      · rename_i hik
        have h3 := hmem hi
        have h4:ia s i ≤ ia s k := by
          by_cases e:i = k
          · subst e; exact Int.le_refl _
          · exact hs i k (by omega) hk (by omega)
        simp only [decide_eq_true_eq]; omega
      · cases hi
    have h3:cnt (s.drop (k + 1)) v ≤ s.length - (k + 1) := by
      have := List.countP_le_length (p := fun x=>decide (v ≤ x)) (l := s.drop (k + 1))
      rwa [List.length_drop] at this
    omega
/-- the new commit point, seen from k downwards -/
def trm (m:aj) (k:Nat) : Int := match m.aB[k]? with | some e=>e.aJ | none=>0
def vK (m:aj) (med:Int) : Nat → Int
  | 0=>m.au
  | k + 1=>if m.au < ((k + 1:Nat) : Int) then (if ((k + 1:Nat) : Int) ≤ med ∧ trm m k = m.aJ then ((k + 1:Nat) : Int) else vK m med k) else m.au
theorem uJ (m:aj) (med:Int) (k:Nat) : vK m med (k + 1) = if m.au < ((k + 1:Nat) : Int) then (if ((k + 1:Nat) : Int) ≤ med ∧ trm m k = m.aJ then ((k + 1:Nat) : Int) else vK m med k) else m.au := rfl
theorem Rz (m:aj) (med:Int) : ∀ k:Nat,(k:Int) ≤ m.au → vK m med k = m.au
  | 0,_=>rfl
  | k + 1,h=>by rw [uJ,if_neg (by omega)]
theorem RD (m:aj) (med:Int) (K:Nat) (hK:(K:Int) ≤ med) (hl:K ≤ m.aB.length) (hb:m.aB.length ≤ 100000) (h0 : 0 ≤ m.au) : Tot (wI m (K:Int)) (fun r=>(if m.au > r then m.au else r) = vK m med K) := by
  unfold wI
  refine eX (fun v=>∃ k:Nat,v = (k:Int) ∧ k ≤ K ∧ vK m med k = vK m med K) (fun v=>v.toNat) _ ?_ FU _ ⟨K,rfl,Nat.le_refl _,rfl⟩ (iq (by omega))
  rintro v ⟨k,rfl,h1,h2⟩
  unfold uq Ah
  simp only [Mo.den,aP,aI,bg,aN,aO]
  by_cases hc:m.au < (k:Int)
  · obtain ⟨j, rfl⟩ : ∃ j, k = j + 1 := ⟨k - 1, by omega⟩
    have e:IntKind.wrap .i64 (((j + 1:Nat) : Int) - 1) = (j:Int) := by rw [w64 (by omega) (by omega)]; omega
    have hx := List.getElem?_eq_getElem (l := m.aB) (i := j) (by omega)
    have ht:trm m j = (m.aB[j]'(by omega)).aJ := by unfold trm; rw [hx]
    rw [decide_eq_true hc,decide_eq_true (show (0:Int) < ((j + 1:Nat) : Int) by omega),e,gid hx]
    simp only [cond_true,Option.bind_some]
    rw [uJ] at h2
    rw [if_pos hc] at h2
    by_cases he:(m.aB[j]'(by omega)).aJ = m.aJ
    · rw [if_pos ⟨by omega, ht.trans he⟩] at h2
      have hne:((m.aB[j]'(by omega)).aJ != m.aJ) = false := by simp [he]
      rw [hne]
      exact .inr ⟨_,rfl,by rw [if_neg (by omega)]; exact h2⟩
    · rw [if_neg (fun x=>he (ht.symm.trans x.2))] at h2
      have hne:((m.aB[j]'(by omega)).aJ != m.aJ) = true := by simp [he]
      rw [hne]
      exact .inl ⟨_,rfl,⟨j,rfl,by omega,h2⟩,by omega⟩
  · rw [decide_eq_false hc]
    refine .inr ⟨(k:Int),rfl,?_⟩
    rw [← h2,Rz m med k (by omega)]
    split <;> omega
/-- what the reference comes to -/
def Zc (m:aj) (med:Int) : Prop := ∀ v:Int,v ≤ med ↔ maj m.bI ≤ (cnt m.aS v:Int)
end Go.Proofs.YtdnafbfmaphhhaaGreatDoor
set_option linter.unusedSimpArgs false
set_option linter.unusedVariables false
namespace Go.Proofs.YtdnafbfmaphhhaaGreatDoor
open Go.RowKit
theorem orb (r c:Bool) : (bif r then some true else some c) = some (r || c) := by cases r <;> rfl
theorem orm (r:Bool) (m:Option Bool) (c:Bool) (h:m = some c) : (bif r then some true else m) = some (r || c) := by cases r <;> simp [h]
theorem sK (s:Nat) (hs:s < 8) : jf .i64 1 (s:Int) = ((2 ^ s:Nat) : Int) := by
  have:s = 0 ∨ s = 1 ∨ s = 2 ∨ s = 3 ∨ s = 4 ∨ s = 5 ∨ s = 6 ∨ s = 7 := by omega
  rcases this with rfl | rfl | rfl | rfl | rfl | rfl | rfl | rfl <;> decide
/-- a new primary -/
def MC (m:aj) : aj := aj.l7 (aj.qQ (aj.fH (aj.lY (aj.NR m 2) m.fID) 1) (List.replicate m.bI.toNat (m.aB.length:Int))) ((List.replicate m.bI.toNat 0).set m.fID.toNat (m.aB.length:Int))
theorem pairs {s i:Int} (h1 : 1 ≤ s) (h2:s ≤ 7) (h3 : 0 ≤ i) (h4:i < s) : ∃ a b:Nat,s = a ∧ i = b ∧ a < 8 ∧ b < a := ⟨s.toNat,i.toNat,by omega,by omega,by omega,by omega⟩
theorem JF (m:aj) (s1 : 1 ≤ m.bI) (s7:m.bI ≤ 7) (i0 : 0 ≤ m.fID) (i1:m.fID < m.bI) : Q37 m = some (MC m) := by
  obtain ⟨a,b,c,d,e,f,g,h,l,k,n,o⟩ := m
  have s1 : 1 ≤ b := s1
  have s7:b ≤ 7 := s7
  have i0 : 0 ≤ a := i0
  have i1:a < b := i1
  have hb:b = 1 ∨ b = 2 ∨ b = 3 ∨ b = 4 ∨ b = 5 ∨ b = 6 ∨ b = 7 := by omega
  have ha:a = 0 ∨ a = 1 ∨ a = 2 ∨ a = 3 ∨ a = 4 ∨ a = 5 ∨ a = 6 := by omega
  rcases hb with rfl | rfl | rfl | rfl | rfl | rfl | rfl <;> rcases ha with rfl | rfl | rfl | rfl | rfl | rfl | rfl <;> first | (exfalso; omega) | exact (And.intro (by kernel_rfl) trivial:Q37 _ = some (MC _) ∧ True).1
theorem yY (m:aj) (t:Int) : Q19 m t = some (stepS m t) := by
  simp only [Q19,Jg,xU,oh,Mo.den,aP,aI,bg,aN,aO,Q57,zY,Mo.den,aP,aI,bg,aN,aO,stepS]
  by_cases h:t ≤ m.aJ
  · rw [decide_eq_true h,if_pos h]; rfl
  · rw [decide_eq_false h,if_neg h]
    by_cases hr:m.bQ = 2
    · rw [show (m.bQ == 2) = true by simp [hr],if_pos hr]; rfl
    · rw [show (m.bQ == 2) = false by simp [hr],if_neg hr]; rfl
/-- a member of the same log and no longer lists -/
structure UY (m n:aj) : Prop where
  lg:n.aB = m.aB
  nx:n.fNext.length ≤ m.fNext.length + 7
  mt:n.aS.length ≤ m.aS.length + 7
theorem UY.refl (m:aj) : UY m m := ⟨rfl,by omega,by omega⟩
theorem MF (m:aj) (t:Int) : UY m (stepS m t) := by
  unfold stepS
  split
  · exact .refl m
  · exact ⟨rfl,by show 0 ≤ _; omega,by show 0 ≤ _; omega⟩
def oI (l:List ak) : Int := if l.length = 0 then 0 else (match l[l.length - 1]? with | some e=>e.aJ | none=>0)
theorem sO (l:List ak) (hl:l.length ≤ 1000000) : Q86 l = some (oI l) := by
  simp only [Q86,Vu,Mo.den,aP,aI,bg,aN,aO,oI]
  by_cases h:l.length = 0
  · rw [show ((l.length:Int) == 0) = true from beq_iff_eq.2 (by omega),if_pos h]; rfl
  · have hx := List.getElem?_eq_getElem (l := l) (i := l.length - 1) (by omega)
    rw [show ((l.length:Int) == 0) = false from beq_eq_false_iff_ne.2 (by omega),if_neg h,w64 (by omega) (by omega),show (l.length:Int) - 1 = ((l.length - 1:Nat) : Int) by omega,gid hx,hx]; rfl
def CG (m:aj) (x:ah) : Bool := (x.aJ == m.aJ && (m.fZ == -1 || m.fZ == x.bP)) && (decide (oI m.aB < x.iF) || x.iF == oI m.aB && decide ((m.aB.length:Int) ≤ x.aY))
def sQ (m:aj) (x:ah) : aj × List ah :=
  let n := stepS m x.aJ
  let g := CG n x
  (if g then aj.fH (aj.zV n x.bP) (tim n.fID) else n,[ah.sOK (ah.gY (ah.dX (ah.sTo (ah.iH ah.z n.fID) x.bP) 2) n.aJ) g])
theorem Yd (m:aj) : aj.fH (aj.zV m m.fZ) m.dU = m := by cases m; rfl
theorem RF (m:aj) (x:ah) (hk:x.bT = 1) (hl:m.aB.length ≤ 1000000) (hb:bn m.lf1 ≤ 100000000) : Q14 m x = some (sQ m x) := by
  have e1:(x.bT != 1) = false := by simp [hk]
  have hl2:(stepS m x.aJ).aB.length ≤ 1000000 := by rw [(MF m x.aJ).lg]; exact hl
  simp only [Q14,Vw,BN,tZ,Ac,Aa,zZ,Ea,D9,Mo.den,aP,aI,bg,aN,aO,fB m hb,Option.bind_some,e1,cond_false,yY,sO _ hl2,Q57,zY,Mo.den,aP,aI,bg,aN,aO,sQ]
  generalize stepS m x.aJ = n
  unfold CG
  cases decide (oI n.aB < x.iF) <;> cases x.iF == oI n.aB <;> cases x.aJ == n.aJ <;> cases n.fZ == -1 <;> cases n.fZ == x.bP <;> cases decide ((n.aB.length:Int) ≤ x.aY) <;> first | rfl | (simp only [cond_true,cond_false,Option.bind_some,Yd]; rfl)
theorem MG (m:aj) (g:Good m) : Q25 m = some true := by
  have s1 := g.s1
  have s7 := g.s7
  have i0 := g.i0
  have i1 := g.i1
  simp only [Q25,OY,uh,ug,xY,xX,Mo.den,aP,aI,bg,aN,aO,decide_eq_true s1,decide_eq_true s7,decide_eq_true i0,decide_eq_true i1,cond_true,Option.bind_some]
/-- a member after an answer -/
def jr (m:aj) (x:ah) (k:Nat) : aj :=
  if x.fOK then
    let a := if x.aY > ia m.aS k then x.aY else ia m.aS k
    aj.l7 (aj.qQ m (m.fNext.set k (if a > ia m.fNext k then a else ia m.fNext k))) (m.aS.set k a)
  else
    let a := if x.aY < ia m.fNext k then x.aY else ia m.fNext k
    aj.qQ m (m.fNext.set k (if ia m.aS k > a then ia m.aS k else a))
theorem UZ {l:List Int} {k:Nat} (v:Int) (h:k < l.length) : ia (l.set k v) k = v := by rw [oH l k v k h,if_pos rfl]
theorem Ye (m:aj) (l:List Int) : aj.l7 (aj.qQ m l) m.aS = aj.qQ m l := by cases m; rfl
theorem CJ (m:aj) (x:ah) (k:Nat) (hr:m.bQ = 2) (ht:¬ m.aJ < x.aJ) (ht2:¬ x.aJ < m.aJ) (hf:x.bP = (k:Int)) (h1:k < m.fNext.length) (h2:k < m.aS.length) (ho:x.fOK = true → x.aY ≤ (m.aB.length:Int)) : Q9 m x = some (jr m x k) := by
  have e1:(m.bQ != 2) = false := by simp [hr]
  simp only [Q9,Ux,qX,qW,qV,wH,wF,Mo.den,aP,aI,bg,aN,aO,e1,hf,decide_eq_false ht,decide_eq_false ht2,cond_false,Option.bind_some,orb,decide_eq_false (show ¬ (k:Int) < 0 by omega),decide_eq_false (show ¬ (m.fNext.length:Int) ≤ (k:Int) by omega),decide_eq_false (show ¬ (m.aS.length:Int) ≤ (k:Int) by omega),Bool.or_false,jJ h1,jJ h2,Int.toNat_natCast,jr]
  cases hx:x.fOK with
  | true =>
    rw [decide_eq_false (show ¬ (m.aB.length:Int) < x.aY by have := ho hx; omega)]
    simp only [cond_true,cond_false,Option.bind_some,if_true]
    rw [jJ (by rw [List.length_set]; exact h2),UZ _ h2]
    rfl
  | false =>
    simp only [cond_true,cond_false,Option.bind_some,Ye]
    rfl
theorem Ij (m:aj) (x:ah) (k:Nat) (g:Good m) (i0 : 0 ≤ x.aY) (ho:x.fOK = true → x.aY ≤ (m.aB.length:Int)) (hr:m.bQ = 2) (h1:k < m.fNext.length) (h2:k < m.aS.length) : Good (jr m x k) ∧ UY m (jr m x k) := by
  obtain ⟨n1,n2,n3,n4⟩ := g.pr hr
  have hmem:∀ {l:List Int} {k:Nat},k < l.length → ia l k ∈ l := fun h=>by rw [← yX h]; exact List.getElem_mem _
  have b1 := n3 _ (hmem h1)
  have b2 := n4 _ (hmem h2)
  have hset:∀ (l:List Int) (v:Int),(∀ y ∈ l,0 ≤ y ∧ y ≤ (m.aB.length:Int)) → 0 ≤ v ∧ v ≤ (m.aB.length:Int) → ∀ y ∈ l.set k v,0 ≤ y ∧ y ≤ (m.aB.length:Int) := fun l v h hv y hy=>by
    rcases List.mem_or_eq_of_mem_set hy with h3 | rfl
    · exact h y h3
    · exact hv
  unfold jr
  split
  · rename_i hx
    have ho := ho hx
    refine ⟨⟨g.s1,g.s7,g.i0,g.i1,g.t0,g.tm,g.lg,g.c0,g.c1,g.v0,g.v1,fun _=>⟨?_,?_,?_,?_⟩⟩,rfl,?_,?_⟩
    · show ((m.fNext.set k _).length:Int) = m.bI
      rw [List.length_set]; exact n1
    · show ((m.aS.set k _).length:Int) = m.bI
      rw [List.length_set]; exact n2
    · exact hset m.fNext _ n3 (by split <;> split <;> omega)
    · exact hset m.aS _ n4 (by split <;> omega)
    · show (m.fNext.set k _).length ≤ _
      rw [List.length_set]; omega
    · show (m.aS.set k _).length ≤ _
      rw [List.length_set]; omega
  · refine ⟨⟨g.s1,g.s7,g.i0,g.i1,g.t0,g.tm,g.lg,g.c0,g.c1,g.v0,g.v1,fun _=>⟨?_,n2,?_,n4⟩⟩,rfl,?_,?_⟩
    · show ((m.fNext.set k _).length:Int) = m.bI
      rw [List.length_set]; exact n1
    · exact hset m.fNext _ n3 (by split <;> split <;> omega)
    · show (m.fNext.set k _).length ≤ _
      rw [List.length_set]; omega
    · show m.aS.length ≤ _
      omega
/-- a beat's messages -/
def nxt (m:aj) (i:Nat) : Int := m.fNext[i]?.getD 0
def iJ (l:List ak) (n:Int) : List ak := (l.take (if (l.length:Int) < n + 16 then (l.length:Int) else n + 16).toNat).drop n.toNat
def Yf (m:aj) (i:Nat) : ah := ⟨m.fID,(i:Int),3,m.aJ,nxt m i,vJ m.aB (nxt m i),m.au,iJ m.aB (nxt m i),false⟩
def kL (m:aj) : Nat → List ah
  | 0=>[]
  | k + 1=>kL m k ++ (if (k:Int) = m.fID then [] else [Yf m k])
theorem uK (m:aj) : ∀ k,(kL m k).length ≤ k
  | 0=>by simp [kL]
  | k + 1=>by
    have := uK m k
    simp only [kL,List.length_append]
    split <;> simp <;> omega
theorem MH (l:List ak) (n:Int) : bH ((iJ l n).map ak.lf) ≤ bH (l.map ak.lf) := by
  unfold iJ
  exact Nat.le_trans (kU _ _ _) (pR _ _ _)
theorem vM (l:List ak) (n:Int) (hl:l.length ≤ 1000000) : Q60 l n = some (vJ l n) := by
  simp only [Q60,V5,EW,Mo.den,aP,aI,bg,aN,aO,vJ]
  by_cases h1:n < 1
  · rw [decide_eq_true h1,if_neg (by omega)]; rfl
  rw [decide_eq_false h1,if_pos (by omega)]
  simp only [cond_false,Option.bind_some]
  by_cases h2:(l.length:Int) < n
  · rw [decide_eq_true h2,List.getElem?_eq_none (by omega)]; rfl
  · rw [decide_eq_false h2, w64 (by omega) (by omega)]
    obtain ⟨x,h3,h4⟩ := Ja (l := l) (i := n - 1) (by omega) (by omega)
    simp only [cond_false,h3,h4,Option.bind_some]
def yZ (m:aj) : List ah := if m.bQ = 2 then kL m m.bI.toNat else []
theorem RG (m:aj) (g:Good m) (hb:bn m.lf1 ≤ 10000000) : Q20 m = some (yZ m) := by
  rw [gq] at hb
  have g1 := g.s1; have g7 := g.s7; have gl := g.lg
  unfold Q20 V6 yZ
  simp only [Mo.den,aP,aI,bg,aN,aO]
  by_cases hr:m.bQ = 2
  · obtain ⟨hn,_,hp,_⟩ := g.pr hr
    rw [show (m.bQ != 2) = false by simpa using hr,if_pos hr]
    simp only [cond_false]
    have:Tot (BU m 0 []) (fun r=>r = kL m m.bI.toNat) := by
      refine T.Rk m.bI.toNat (by omega) (fun k s=>s = ((k:Int),kL m k)) _ rfl ?_ ?_
      · rintro k s hk rfl
        have hx := List.getElem?_eq_getElem (show k < m.fNext.length by omega)
        obtain ⟨h0,h1⟩ := hp _ (CB hx)
        have hbl := uK m k
        have en:nxt m k = m.fNext[k] := by unfold nxt; rw [hx]; rfl
        simp only [oW,yA,EX,Mo.den,aP,aI,bg,aN,aO,decide_eq_true (show (k:Int) < m.bI by omega),decide_eq_true (show (k:Int) < (m.fNext.length:Int) by omega),cond_true,Option.bind_some,gid hx]
        rw [inc k (by omega)]
        by_cases hi:(k:Int) = m.fID
        · rw [show ((k : Int) == m.fID) = true by simpa using hi]
          exact T.ret (show _ = _ by simp only [kL,if_pos hi,List.append_nil])
        · rw [show ((k : Int) == m.fID) = false by simpa using hi]
          simp only [cond_false]
          have e1:(if (if (m.aB.length:Int) < m.fNext[k] then (m.aB.length:Int) else m.fNext[k]) > 0 then (if (m.aB.length:Int) < m.fNext[k] then (m.aB.length:Int) else m.fNext[k]) else 0) = m.fNext[k] := by
            rw [if_neg (show ¬ (m.aB.length:Int) < m.fNext[k] by omega)]; split <;> omega
          simp only [e1]
          rw [w64 (x := m.fNext[k] + 16) (by omega) (by omega)]
          have e2 := jV (iJ m.aB m.fNext[k]) (by have := MH m.aB m.fNext[k]; omega)
          unfold iJ at e2
          rw [if_pos (by split <;> omega)]
          simp only [vM m.aB _ (by omega),e2,Option.bind_some,List.length_cons,List.length_nil]
          rw [if_pos (by omega)]
          refine T.ret (show _ = _ from ?_)
          simp only [kL,if_neg hi,Yf,en]; rfl
      · rintro s rfl
        simp only [oW,yA,Mo.den,aP,aI,bg,aN,aO,decide_eq_false (show ¬ ((m.bI.toNat:Nat) : Int) < m.bI by omega),cond_false,Option.bind_some]
        exact T.ret rfl
    obtain ⟨_,h,rfl⟩ := this
    simp only [h,Option.bind_some]
  · rw [show (m.bQ != 2) = true by simpa using hr,if_neg hr]; rfl
def CO (m:aj) : aj := ⟨m.fID,m.bI,IntKind.wrap .i64 (m.aJ + 1),m.fID,1,-1,IntKind.wrap .i64 (10 + IntKind.wrap .i64 (3 * m.fID)),jf .i64 1 m.fID,m.aB,m.au,[],[]⟩
def Yg (m:aj) (i:Nat) : ah := ah.pJ (ah.iD (ah.gY (ah.dX (ah.sTo (ah.iH ah.z m.fID) (i:Int)) 1) (IntKind.wrap .i64 (m.aJ + 1))) (m.aB.length:Int)) (oI m.aB)
def asks (m:aj) : Nat → List ah
  | 0=>[]
  | k + 1=>asks m k ++ (if (k:Int) = m.fID then [] else [Yg m k])
theorem zf (m:aj) : ∀ k,(asks m k).length ≤ k
  | 0=>by simp [asks]
  | k + 1=>by
    have := zf m k
    simp only [asks,List.length_append]
    split <;> simp <;> omega
def RH (m:aj) : aj × List ah := if m.bI = 1 then (MC (CO m),[]) else (CO m,asks m m.bI.toNat)
theorem CP (m:aj) (g:Good m) (hb:bn m.lf1 ≤ 10000000) : Q18 m = some (RH m) := by
  have g1 := g.s1; have g7 := g.s7; have gl := g.lg; have gi := g.i0; have gj := g.i1
  have ek:Q25 m = some true := by
    simp only [Q25,OY,uh,ug,xY,xX,Mo.den,aP,aI,bg,aN,aO,decide_eq_true g1,decide_eq_true g7,decide_eq_true gi,decide_eq_true gj,cond_true,Option.bind_some]
  unfold Q18 V4 RH
  simp only [Mo.den,aP,aI,bg,aN,aO,fB m (by omega),ek,Option.bind_some,Bool.not_true,cond_false,Q57,zY,Mo.den,aP,aI,bg,aN,aO]
  rw [if_pos gi]
  by_cases h1:m.bI = 1
  · rw [show (m.bI == 1) = true by simpa using h1, if_pos h1]
    have ew := JF (CO m) (by show 1 ≤ m.bI; omega) (by show m.bI ≤ 7; omega) (by show 0 ≤ m.fID; omega) (by show m.fID < m.bI; omega)
    unfold CO at ew ⊢
    simp only [cond_true,ew,Option.bind_some]
  · rw [show (m.bI == 1) = false by simpa using h1, if_neg h1]
    simp only [cond_false]
    have:Tot (H6 m (IntKind.wrap .i64 (10 + IntKind.wrap .i64 (3 * m.fID))) 0 []) (fun r=>r = asks m m.bI.toNat) := by
      refine T.Rk m.bI.toNat (by omega) (fun k s=>s = ((k:Int),asks m k)) _ rfl ?_ ?_
      · rintro k s hk rfl
        have hbl := zf m k
        simp only [rC,ET,Mo.den,aP,aI,bg,aN,aO,decide_eq_true (show (k:Int) < m.bI by omega),cond_true,sO m.aB (by omega),Option.bind_some,List.length_cons,List.length_nil]
        rw [inc k (by omega),if_pos (by omega)]
        by_cases hi:(k:Int) = m.fID
        · rw [show ((k : Int) != m.fID) = false by simpa using hi]
          exact T.ret (show _ = _ by simp only [asks,if_pos hi,List.append_nil])
        · rw [show ((k : Int) != m.fID) = true by simpa using hi]
          exact T.ret (show _ = _ by simp only [asks,if_neg hi]; rfl)
      · rintro s rfl
        simp only [rC,Mo.den,aP,aI,bg,aN,aO,decide_eq_false (show ¬ ((m.bI.toNat:Nat) : Int) < m.bI by omega),cond_false]
        exact T.ret rfl
    obtain ⟨_,h,rfl⟩ := this
    simp only [h,Option.bind_some]; rfl
theorem Good.timer {m:aj} (g:Good m) (t:Int) (h : 0 ≤ t) : Good (aj.fH m t) := ⟨g.s1,g.s7,g.i0,g.i1,g.t0,h,g.lg,g.c0,g.c1,g.v0,g.v1,g.pr⟩
noncomputable def FY (m:aj) : aj × List ah := if 1 < m.dU then (aj.fH m (m.dU - 1),[]) else if m.bQ = 2 then (aj.fH m 2,yZ (aj.fH m 2)) else RH m
theorem Ik (m:aj) (t:Int) : bn (aj.fH m t).lf1 = bn m.lf1 := by rw [gq,gq]; rfl
theorem FZ (m:aj) (g:Good m) (hb:bn m.lf1 ≤ 10000000) (ht:m.dU ≤ 9223372036854775807) : Q99 m = some (FY m) := by
  have gt := g.tm
  unfold Q99 V7 FY
  simp only [Mo.den,aP,aI,bg,aN,aO,kF m (by omega),Option.bind_some]
  by_cases h1 : 1 < m.dU
  · rw [decide_eq_true h1,if_pos h1,w64 (by omega) (by omega)]; rfl
  rw [decide_eq_false h1,if_neg h1]
  simp only [cond_false]
  by_cases hr:m.bQ = 2
  · rw [show (m.bQ != 2) = false by simpa using hr, if_pos hr]
    simp only [cond_false,RG (aj.fH m 2) (g.timer 2 (by omega)) (by rw [Ik]; omega),Option.bind_some]
  · rw [show (m.bQ != 2) = true by simpa using hr, if_neg hr]
    simp only [cond_true,CP m g hb,Option.bind_some]
end Go.Proofs.YtdnafbfmaphhhaaGreatDoor
set_option linter.unusedSimpArgs false
set_option linter.unusedVariables false
namespace Go.Proofs.YtdnafbfmaphhhaaGreatDoor
open Go.RowKit
def ent (e:ak) : Raft.E := (e.aJ,e.dS)
def oJ (v:Int) : Option Nat := if v < 0 then none else some v.toNat
def ab (m:aj) : Raft.AM := ⟨m.aJ,oJ m.fZ,m.bQ,m.aB.map ent,m.au.toNat,fun j=>(ia m.aS j).toNat,fun j=>Nat.testBit m.eF.toNat j⟩
/-- message y is x -/
def Is (y:ah) : Raft.Msg → Prop
  | .fG f t T n last=>y.bT = 1 ∧ y.bP = f ∧ y.fTo = t ∧ y.aJ = T ∧ y.aY = n ∧ y.iF = last
  | .lH f t T=>y.bT = 2 ∧ y.fOK = true ∧ y.bP = f ∧ y.fTo = t ∧ y.aJ = T
  | .app f t T n last com es=>y.bT = 3 ∧ y.bP = f ∧ y.fTo = t ∧ y.aJ = T ∧ y.aY = n ∧ y.iF = last ∧ y.au = com ∧ y.aQ.map ent = es
  | .vN f t T n=>y.bT = 4 ∧ y.fOK = true ∧ y.bP = f ∧ y.fTo = t ∧ y.aJ = T ∧ y.aY = n
def Snt (sent:List ah) : Raft.Msg → Prop := fun x=>∃ y ∈ sent,Is y x
theorem Snt.app {s l:List ah} {x:Raft.Msg} (h:Snt (s ++ l) x) : Snt s x ∨ ∃ y ∈ l,Is y x := by
  obtain ⟨y,hy,hx⟩ := h
  rcases List.mem_append.1 hy with h | h
  · exact .inl ⟨y,h,hx⟩
  · exact .inr ⟨y,h,hx⟩
/-- an entry without a change -/
def Wn (e:ak) : Prop := e = ak.mk e.aJ e.dS ⟨#[]⟩ 0 (ay.dX ay.z 1)
theorem JH {e:ak} (h:Wn e) : bn e.lf ≤ 1000 := by
  rw [h]
  generalize e.aJ = a; generalize e.dS = b
  have:Nat.ble (bn (ak.mk a b ⟨#[]⟩ 0 (ay.dX ay.z 1)).lf) 1000 = true := by kernel_rfl
  exact Nat.le_of_ble_eq_true this
theorem zk:∀ l:List ak,(∀ e ∈ l,Wn e) → bH (l.map ak.lf) ≤ 1000 * l.length
  | [],_=>Nat.zero_le _
  | e :: r,h=>by
    have h1 := JH (h e (List.mem_cons_self ..))
    have h2 := zk r fun x hx=>h x (List.mem_cons_of_mem _ hx)
    rw [List.map_cons,bH,List.length_cons]; omega
structure Mok (N K i:Nat) (m:aj) : Prop where
  g:Good m
  id:m.fID = i
  sz:m.bI = N
  tk:m.aJ ≤ K
  lk:m.aB.length ≤ K
  tm:m.dU ≤ 1000
  nx:m.fNext.length ≤ 7
  mt:m.aS.length ≤ 7
  en:∀ e ∈ m.aB,Wn e
structure Xok (N K:Nat) (x:ah) : Prop where
  f0 : 0 ≤ x.bP
  f1:x.bP < N
  t0 : 0 ≤ x.fTo
  t1:x.fTo < N
  ne:x.bP ≠ x.fTo
  T0 : 0 ≤ x.aJ
  T1:x.aJ ≤ K
  i0 : 0 ≤ x.aY
  i1:x.aY + x.aQ.length ≤ K
  c0 : 0 ≤ x.au
  c1:x.au ≤ K
  es:x.aQ.length ≤ 16
  en:∀ e ∈ x.aQ,Wn e
theorem Mok.up {N K L i:Nat} {m:aj} (h:Mok N K i m) (hk:K ≤ L) : Mok N L i m := ⟨h.g,h.id,h.sz,by have := h.tk; omega,by have := h.lk; omega,h.tm,h.nx,h.mt,h.en⟩
theorem Xok.up {N K L:Nat} {x:ah} (h:Xok N K x) (hk:K ≤ L) : Xok N L x := ⟨h.f0,h.f1,h.t0,h.t1,h.ne,h.T0,by have := h.T1; omega,h.i0,by have := h.i1; omega,h.c0,by have := h.c1; omega,h.es,h.en⟩
theorem Mok.bulk {N K i:Nat} {m:aj} (h:Mok N K i m) (hk:K ≤ 1000) : bn m.lf1 ≤ 1100000 := by
  have h1 := zk _ h.en
  have h2 := h.lk
  have h3 := h.nx
  have h4 := h.mt
  rw [gq,qE,qE]; omega
theorem Xok.bulk {N K:Nat} {x:ah} (h:Xok N K x) : bH (x.aQ.map ak.lf) ≤ 16000 := by
  have h1 := zk _ h.en
  have h2 := h.es
  omega
theorem Xok.prop {N K:Nat} {x:ah} (h:Xok N K x) (hk:K ≤ 1000) (m:aj) : Rl m x := ⟨h.T0,h.i0,by have := h.i1; omega,h.c0,by have := h.c1; omega,h.es⟩
theorem Iu (l:List ak) (n:Nat) : vJ l (n:Int) = Raft.bef (l.map ent) n := by
  unfold vJ Raft.bef
  rcases Nat.eq_zero_or_pos n with e | e
  · rw [if_neg (by omega),if_pos e]
  · rw [if_pos (by omega), if_neg (by omega), List.getElem?_map, show ((n : Int) - 1).toNat = n - 1 by omega]
    cases l[n - 1]? <;> rfl
theorem JI (l:List ak) : oI l = Raft.bef (l.map ent) (l.map ent).length := by
  rw [List.length_map,← Iu]
  unfold oI vJ
  rcases Nat.eq_zero_or_pos l.length with e | e
  · rw [if_pos e,if_neg (by omega)]
  · rw [if_neg (by omega), if_pos (by omega), show ((l.length : Int) - 1).toNat = l.length - 1 by omega]
    first | done | (cases l[l.length - 1]? <;> rfl)
theorem lI (a b:ak) : ji a b = true ↔ ent a = ent b := by
  unfold ji ent
  simp only [Bool.and_eq_true,beq_iff_eq,Prod.mk.injEq]
theorem RQ {l:List ak} : ∀ {es:List ak} {i:Nat},dif l es i = none → ∀ k,k < es.length → i + k < l.length → (l.map ent)[i + k]? = (es.map ent)[k]?
  | [],_,_,k,hk,_=>by simp at hk
  | e :: r,i,h,k,hk,hl=>by
    have hx := List.getElem?_eq_getElem (show i < l.length by omega)
    cases hs:ji l[i] e with
    | false=>rw [sH hx hs] at h; cases h
    | true =>
      rw [wR hx hs] at h
      cases k with
      | zero =>
        have := (lI _ _).1 hs
        rw [Nat.add_zero,List.getElem?_map,hx,List.map_cons,List.getElem?_cons_zero,Option.map_some,this]
      | succ k =>
        have := RQ h k (by simpa using hk) (by omega)
        rw [show i + (k + 1) = i + 1 + k by omega,this,List.map_cons,List.getElem?_cons_succ]
theorem RS {l:List ak} : ∀ {es:List ak} {i p:Nat},dif l es i = some p → p < i + es.length ∧ (∀ k,i ≤ k → k < p → (l.map ent)[k]? = (es.map ent)[k - i]?) ∧ (l.map ent)[p]? ≠ (es.map ent)[p - i]?
  | [],i,p,h=>by unfold dif at h; cases h
  | e :: r,i,p,h=>by
    have hp := uH h
    have hx := List.getElem?_eq_getElem (show i < l.length by omega)
    cases hs:ji l[i] e with
    | false =>
      rw [sH hx hs] at h
      injection h with h; subst h
      refine ⟨by rw [List.length_cons]; omega,fun k h1 h2=>by omega,?_⟩
      rw [Nat.sub_self,List.getElem?_map,hx,List.map_cons,List.getElem?_cons_zero,Option.map_some]
      intro hq
      injection hq with hq
      rw [(lI _ _).2 hq] at hs; cases hs
    | true =>
      rw [wR hx hs] at h
      have hi := uH h
      obtain ⟨h1,h2,h3⟩ := RS h
      refine ⟨by rw [List.length_cons]; omega,fun k k1 k2=>?_,?_⟩
      · by_cases e0:k = i
        · subst e0
          rw [Nat.sub_self,List.getElem?_map,hx,List.map_cons,List.getElem?_cons_zero,Option.map_some,(lI _ _).1 hs]
        · rw [h2 k (by omega) k2,List.map_cons,show k - i = k - (i + 1) + 1 by omega,List.getElem?_cons_succ]
      · rw [List.map_cons,show p - i = p - (i + 1) + 1 by omega,List.getElem?_cons_succ]; exact h3
theorem pq {n N:Int} (h0 : 0 ≤ n) (h1:n < N) (h5:N ≤ 5) : tim n = 10 + 3 * n := by
  unfold tim; rw [w64 (x := 3 * n) (by omega) (by omega),w64 (by omega) (by omega)]
section
variable {N K i:Nat} {A:Nat → Raft.AM} {g0:Raft.Gh} {s:List ah} {m:aj} {x:ah}
theorem Mok.size (h:Mok N K i m) (hi:i < N) (hN:N ≤ 5) : (0:Int) < jf .i64 1 m.bI := by
  rw [h.sz,sK N (by omega)]
  have := Nat.two_pow_pos N
  omega
theorem step_ok (hi:i < N) (hN:N ≤ 5) (h:Mok N K i m) (p:Raft.Pr N A i g0 (Snt s) (ab m)) (t:Int) (ht:t ≤ K) : Mok N K i (stepS m t) ∧ Raft.Pr N A i g0 (Snt s) (ab (stepS m t)) := by
  unfold stepS
  by_cases hq:t ≤ m.aJ
  · rw [if_pos hq]; exact ⟨h,p⟩
  · rw [if_neg hq]
    have g := h.g
    have hs := h.size hi hN
    have h1 := h.id
    have h2 := h.sz
    have ht2 := pq (n := m.fID) (N := (N:Int)) (by omega) (by omega) (by omega)
    have t0 := g.t0
    have tm := g.tm
    have htm := h.tm
    refine ⟨⟨⟨g.s1,g.s7,g.i0,g.i1,by show 0 ≤ t; omega,?_,g.lg,g.c0,g.c1,Int.le_refl 0,hs,fun q=>?_⟩,h.id,h.sz,ht,h.lk,?_,Nat.zero_le _,Nat.zero_le _,h.en⟩,?_⟩
    · show 0 ≤ if m.bQ = 2 then tim m.fID else m.dU
      split <;> omega
    · have q:(0:Int) = 2 := q
      omega
    · show (if m.bQ = 2 then tim m.fID else m.dU) ≤ 1000
      split <;> omega
    · exact p.follow hi (by show m.aJ < t; omega) rfl rfl rfl (by show oJ (-1) = none; rfl)
theorem U1 (hi:i < N) (hN:N ≤ 5) (h:Mok N K i m) (p:Raft.Pr N A i g0 (Snt s) (ab m)) (hx:x ∈ s) (xo:Xok N K x) (hk:x.bT = 1) (hto:x.fTo = i) : Mok N K i (sQ m x).1 ∧ (∀ z ∈ (sQ m x).2,Xok N K z) ∧ Raft.Pr N A i g0 (Snt (s ++ (sQ m x).2)) (ab (sQ m x).1) := by
  obtain ⟨k1,k2⟩ := step_ok hi hN h p x.aJ xo.T1
  unfold sQ
  generalize stepS m x.aJ = n at *
  simp only
  have f0 := xo.f0
  have f1 := xo.f1
  have g := k1.g
  have h1 := k1.id
  have h2 := k1.sz
  have ne := xo.ne
  have t0 := g.t0
  have tk := k1.tk
  have ht2 := pq (n := n.fID) (N := (N:Int)) (by omega) (by omega) (by omega)
  have hX:∀ b,∀ z ∈ [ah.sOK (ah.gY (ah.dX (ah.sTo (ah.iH ah.z n.fID) x.bP) 2) n.aJ) b],Xok N K z := fun b z hz=>by
    obtain rfl := List.mem_singleton.1 hz
    exact ⟨by show 0 ≤ n.fID; omega,by show n.fID < N; omega,f0,f1,by show n.fID ≠ x.bP; omega,t0,tk,Int.le_refl 0,by show (0:Int) + ((0:Nat) : Int) ≤ K; omega,Int.le_refl 0,by show (0:Int) ≤ K; omega,Nat.zero_le _,fun e he=>by cases he⟩
  cases hg:CG n x with
  | false =>
    refine ⟨k1,hX false,k2.less fun y hy=>?_⟩
    rcases Snt.app hy with q | ⟨z,hz,q⟩
    · exact q
    · obtain rfl := List.mem_singleton.1 hz
      cases y with
      | fG=>have q:(2:Int) = 1 ∧ _ := q; omega
      | lH=>have q:(2:Int) = 2 ∧ false = true ∧ _ := q; cases q.2.1
      | app=>have q:(2:Int) = 3 ∧ _ := q; omega
      | vN=>have q:(2:Int) = 4 ∧ _ := q; omega
  | true =>
    simp only [if_true]
    unfold CG at hg
    simp only [Bool.and_eq_true,Bool.or_eq_true,beq_iff_eq,decide_eq_true_eq] at hg
    obtain ⟨⟨q1,q2⟩,q3⟩ := hg
    refine ⟨⟨⟨g.s1,g.s7,g.i0,g.i1,g.t0,by show 0 ≤ tim n.fID; omega,g.lg,g.c0,g.c1,g.v0,g.v1,g.pr⟩,k1.id,k1.sz,k1.tk,k1.lk,by show tim n.fID ≤ 1000; omega,k1.nx,k1.mt,k1.en⟩,hX true,?_⟩
    obtain ⟨c,hc⟩ := Int.eq_ofNat_of_zero_le f0
    obtain ⟨j,hj⟩ := Int.eq_ofNat_of_zero_le xo.i0
    refine k2.grant hi rfl rfl rfl rfl rfl rfl (c := c) (t := i) (n := j) (last := x.iF) ?_ ?_ ⟨x,hx,hk,hc,hto,q1,hj,rfl⟩ ?_ fun y hy=>?_
    · show oJ x.bP = some c
      unfold oJ; rw [if_neg (by omega),hc]; rfl
    · show oJ n.fZ = none ∨ oJ n.fZ = some c
      rcases q2 with q | q
      · left; rw [q]; rfl
      · right; unfold oJ; rw [if_neg (by omega),q,hc]; rfl
    · show Raft.bef (n.aB.map ent) (n.aB.map ent).length < x.iF ∨ x.iF = Raft.bef (n.aB.map ent) (n.aB.map ent).length ∧ (n.aB.map ent).length ≤ j
      rw [← JI,List.length_map]
      rcases q3 with q | q
      · exact .inl q
      · exact .inr ⟨q.1,by have := q.2; omega⟩
    · rcases Snt.app hy with q | ⟨z,hz,q⟩
      · exact .inl q
      · obtain rfl := List.mem_singleton.1 hz
        right
        cases y with
        | fG=>have q:(2:Int) = 1 ∧ _ := q; omega
        | lH f t T =>
          obtain ⟨_,_,e1,e2,e3⟩ := q
          have e1:n.fID = (f:Int) := e1
          have e2:x.bP = (t:Int) := e2
          have e3:n.aJ = T := e3
          obtain rfl:f = i := by omega
          obtain rfl:t = c := by omega
          subst e3; rfl
        | app=>have q:(2:Int) = 3 ∧ _ := q; omega
        | vN=>have q:(2:Int) = 4 ∧ _ := q; omega
end
end Go.Proofs.YtdnafbfmaphhhaaGreatDoor
set_option linter.unusedSimpArgs false
set_option linter.unusedVariables false
namespace Go.Proofs.YtdnafbfmaphhhaaGreatDoor
open Go.RowKit
noncomputable def Wu (s v f:Nat) : Bool :=
  let w := bK .or .i64 (v:Int) (jf .i64 1 (f:Int))
  (w == ((v ||| 2 ^ f:Nat) : Int)) && Nat.ble ((v ||| 2 ^ f) + 1) (2 ^ s) && match Q93 (IntKind.wrap .u64 w) with
    | some a=>a == (((List.range s).countP fun j=>Nat.testBit (v ||| 2 ^ f) j:Nat) : Int)
    | none=>false
theorem MI:((List.range 6).all fun s=>(List.range (2 ^ s)).all fun v=>(List.range s).all fun f=>Wu s v f) = true := by kernel_rfl
theorem U2 (s v f:Nat) (hs:s < 6) (hv:v < 2 ^ s) (hf:f < s) : bK .or .i64 (v:Int) (jf .i64 1 (f:Int)) = ((v ||| 2 ^ f:Nat) : Int) ∧ (v ||| 2 ^ f) < 2 ^ s ∧ Q93 (IntKind.wrap .u64 ((v ||| 2 ^ f:Nat) : Int)) = some (((List.range s).countP fun j=>Nat.testBit (v ||| 2 ^ f) j:Nat) : Int) := by
  have h := MI
  rw [List.all_eq_true] at h
  have h := h s (List.mem_range.2 hs)
  rw [List.all_eq_true] at h
  have h := h v (List.mem_range.2 hv)
  rw [List.all_eq_true] at h
  have h := h f (List.mem_range.2 hf)
  unfold Wu at h
  simp only [Bool.and_eq_true,beq_iff_eq] at h
  obtain ⟨⟨h1,h2⟩,h3⟩ := h
  refine ⟨h1,Nat.le_of_ble_eq_true h2,?_⟩
  rw [h1] at h3
  split at h3
  · rename_i a ha
    rw [ha]
    simp only [beq_iff_eq] at h3
    rw [h3]
  · cases h3
/-- the member after a fG -/
theorem MJ (m:aj) (x:ah) (g:Good m) (hk:x.bT = 2) (f0 : 0 ≤ x.bP) (f1:x.bP < m.bI) (h5:m.bI ≤ 5) (hb:bn m.lf1 ≤ 10000000) :
    Q27 m x = some (stepS m x.aJ) ∧ m.aJ < x.aJ ∨ Q27 m x = some m ∨
    (m.bQ = 1 ∧ x.aJ = m.aJ ∧ x.fOK = true ∧ ∃ w:Nat,(∀ j,Nat.testBit w j = true → Nat.testBit m.eF.toNat j = true ∨ (j:Int) = x.bP) ∧ (w:Int) < jf .i64 1 m.bI ∧ (Q27 m x = some (aj.nZ m w) ∨ Q27 m x = some (MC (aj.nZ m w)) ∧ maj m.bI ≤ (((List.range m.bI.toNat).countP fun j=>Nat.testBit w j:Nat) : Int))) := by
  have s1 := g.s1
  have e1:(x.bT != 2) = false := by simp [hk]
  simp only [Q27,Vz,Af,Ae,Ad,Ef,Ee,Mo.den,aP,aI,bg,aN,aO,fB m (by omega),Option.bind_some,e1,cond_false,yY,MG m g,Bool.not_true,decide_eq_false (show ¬ x.bP < 0 by omega),decide_eq_false (show ¬ m.bI ≤ x.bP by omega),orb,Bool.or_false]
  by_cases ht:m.aJ < x.aJ
  · rw [decide_eq_true ht]
    exact .inl ⟨rfl,ht⟩
  · rw [decide_eq_false ht]
    simp only [cond_false]
    cases hc:((m.bQ != 1 || x.aJ != m.aJ) || !x.fOK) with
    | true=>exact .inr (.inl rfl)
    | false =>
      right; right
      simp only [Bool.or_eq_false_iff,bne_eq_false_iff_eq,Bool.not_eq_false'] at hc
      obtain ⟨⟨c1,c2⟩,c3⟩ := hc
      refine ⟨c1,c2,c3,?_⟩
      obtain ⟨s,f,hs,hf,h1,h2⟩ := pairs s1 (by omega) f0 f1
      have v0 := g.v0
      have v1 := g.v1
      rw [hs,sK s h1] at v1
      obtain ⟨v,hv⟩ := Int.eq_ofNat_of_zero_le v0
      obtain ⟨k0,k1,k2⟩ := U2 s v f (by omega) (by omega) h2
      have e3:bK .or .i64 m.eF (jf .i64 1 x.bP) = ((v ||| 2 ^ f:Nat) : Int) := by rw [hv,hf]; exact k0
      refine ⟨v ||| 2 ^ f,fun j hj=>?_,by rw [hs,sK s h1]; omega,?_⟩
      · rw [Nat.testBit_or,Bool.or_eq_true] at hj
        rcases hj with hj | hj
        · left; rw [hv]; exact hj
        · right
          rw [Nat.testBit_two_pow,decide_eq_true_eq] at hj
          rw [hf,hj]
      rw [if_pos f0]
      simp only [cond_false,e3,k2,Option.bind_some,sG]
      have gw := JF (aj.nZ m ((v ||| 2 ^ f:Nat) : Int)) g.s1 g.s7 g.i0 g.i1
      rw [gw,hs]
      by_cases hq:maj (s:Int) ≤ (((List.range s).countP fun j=>Nat.testBit (v ||| 2 ^ f) j:Nat) : Int)
      · rw [decide_eq_true hq]
        exact .inr ⟨rfl,hq⟩
      · rw [decide_eq_false hq]
        exact .inl rfl
theorem Yi (n:Nat) (v:Int) (j:Nat) : ia (List.replicate n v) j = if j < n then v else 0 := by
  unfold ia
  rw [List.getElem?_replicate]
  split <;> rfl
theorem JJ {N:Nat} (h1 : 1 ≤ N) (h5:N ≤ 5) {p:Nat → Bool} (h:maj (N:Int) ≤ ((List.range N).countP p:Nat)) : Raft.quo N p := by
  unfold maj at h
  rw [if_neg (by omega)] at h
  unfold Raft.quo
  omega
section
variable {N K i:Nat} {A:Nat → Raft.AM} {g0:Raft.Gh} {s:List ah} {m:aj} {x:ah}
theorem uM {a:Raft.AM} (p:Raft.Pr N A i g0 (Snt s) a) : Raft.Pr N A i g0 (Snt (s ++ [])) a := by rw [List.append_nil]; exact p
theorem RU (hi:i < N) (hN:N ≤ 5) (h:Mok N K i m) (p:Raft.Pr N A i g0 (Snt s) (ab m)) (hr:m.bQ = 1) (hq:maj m.bI ≤ (((List.range m.bI.toNat).countP fun j=>Nat.testBit m.eF.toNat j:Nat) : Int)) : Mok N K i (MC m) ∧ Raft.Pr N A i g0 (Snt s) (ab (MC m)) := by
  have g := h.g
  have h1 := h.id
  have h2 := h.sz
  have hz:m.bI.toNat = N := by omega
  have hid:m.fID.toNat = i := by omega
  refine ⟨⟨⟨g.s1,g.s7,g.i0,g.i1,g.t0,by show (0:Int) ≤ 1; omega,g.lg,g.c0,g.c1,g.v0,g.v1,fun _=>⟨?_,?_,fun y hy=>?_,fun y hy=>?_⟩⟩,h.id,h.sz,h.tk,h.lk,by show (1:Int) ≤ 1000; omega,?_,?_,h.en⟩,?_⟩
  · show ((List.replicate m.bI.toNat (m.aB.length:Int)).length:Int) = m.bI
    rw [List.length_replicate]; omega
  · show ((((List.replicate m.bI.toNat (0:Int)).set m.fID.toNat (m.aB.length:Int)).length:Nat) : Int) = m.bI
    rw [List.length_set,List.length_replicate]; omega
  · have hy:y ∈ List.replicate m.bI.toNat (m.aB.length:Int) := hy
    obtain ⟨_,rfl⟩ := List.mem_replicate.1 hy
    show (0:Int) ≤ _ ∧ _ ≤ (m.aB.length:Int)
    omega
  · have hy:y ∈ (List.replicate m.bI.toNat (0:Int)).set m.fID.toNat (m.aB.length:Int) := hy
    show (0:Int) ≤ _ ∧ _ ≤ (m.aB.length:Int)
    rcases List.mem_or_eq_of_mem_set hy with q | rfl
    · obtain ⟨_,rfl⟩ := List.mem_replicate.1 q; omega
    · omega
  · show (List.replicate m.bI.toNat (m.aB.length:Int)).length ≤ 7
    rw [List.length_replicate]; omega
  · show ((List.replicate m.bI.toNat (0:Int)).set m.fID.toNat (m.aB.length:Int)).length ≤ 7
    rw [List.length_set,List.length_replicate]; omega
  · refine p.win hi rfl rfl rfl rfl hr rfl ?_ fun j hj=>?_
    · rw [hz] at hq
      rw [h2] at hq
      exact JJ (by omega) hN hq
    · show (ia ((List.replicate m.bI.toNat (0:Int)).set m.fID.toNat (m.aB.length:Int)) j).toNat ≤ if j = i then (m.aB.map ent).length else 0
      rw [oH _ _ _ _ (by rw [List.length_replicate]; omega),Yi,hid,List.length_map]
      split
      · omega
      · split <;> omega
theorem RV (hi:i < N) (hN:N ≤ 5) (hK:K ≤ 1000) (h:Mok N K i m) (p:Raft.Pr N A i g0 (Snt s) (ab m)) (hx:x ∈ s) (xo:Xok N K x) (hk:x.bT = 2) (hto:x.fTo = i) : ∃ n,Q27 m x = some n ∧ Mok N K i n ∧ Raft.Pr N A i g0 (Snt s) (ab n) := by
  have f0 := xo.f0
  have f1 := xo.f1
  have h2 := h.sz
  have g := h.g
  have hb := h.bulk hK
  rcases MJ m x g hk f0 (by omega) (by omega) (by omega) with ⟨e,_⟩ | e | ⟨c1,c2,c3,w,w1,w2,e⟩
  · have := step_ok hi hN h p x.aJ xo.T1
    exact ⟨_,e,this.1,this.2⟩
  · exact ⟨_,e,h,p⟩
  · have hm : Mok N K i (aj.nZ m w) := ⟨⟨g.s1, g.s7, g.i0, g.i1, g.t0, g.tm, g.lg, g.c0, g.c1, by show (0 : Int) ≤ (w : Int); omega, w2, g.pr⟩, h.id, h.sz, h.tk, h.lk, h.tm, h.nx, h.mt, h.en⟩
    obtain ⟨f,hf⟩ := Int.eq_ofNat_of_zero_le f0
    have hp:Raft.Pr N A i g0 (Snt s) (ab (aj.nZ m w)) := by
      refine p.record hi rfl rfl rfl c1 c1 rfl (f := f) ⟨x,hx,hk,c3,hf,hto,c2⟩ fun j hj=>?_
      have hj:Nat.testBit w j = true := hj
      rcases w1 j hj with q | q
      · exact .inl q
      · right; omega
    rcases e with e | ⟨e,hq⟩
    · exact ⟨_,e,hm,hp⟩
    · have := RU hi hN hm hp c1 hq
      exact ⟨_,e,this.1,this.2⟩
theorem Iw (h:Mok N K i m) (xo:Xok N K x) (hto:x.fTo = i) (hi:i < N) {b:Bool} {n:Int} (hn : 0 ≤ n) (hn2:n ≤ K) : Xok N K (Ig m x b n) := by
  have h1 := h.id
  have ne := xo.ne
  exact ⟨by show 0 ≤ m.fID; omega,by show m.fID < N; omega,xo.f0,xo.f1,by show m.fID ≠ x.bP; omega,h.g.t0,h.tk,hn,by show n + ((0:Nat) : Int) ≤ K; omega,Int.le_refl 0,by show (0:Int) ≤ K; omega,Nat.zero_le _,fun e he=>by cases he⟩
theorem RX {a:Raft.AM} {n:Int} (p:Raft.Pr N A i g0 (Snt s) a) : Raft.Pr N A i g0 (Snt (s ++ [Ig m x false n])) a := p.less fun y hy=>by
  rcases Snt.app hy with q | ⟨z,hz,q⟩
  · exact q
  · obtain rfl := List.mem_singleton.1 hz
    cases y with
    | fG=>have q:(4:Int) = 1 ∧ _ := q; omega
    | lH=>have q:(4:Int) = 2 ∧ _ := q; omega
    | app=>have q:(4:Int) = 3 ∧ _ := q; omega
    | vN=>have q:(4:Int) = 4 ∧ false = true ∧ _ := q; cases q.2.1
theorem Yj (hi:i < N) (hN:N ≤ 5) (h:Mok N K i m) (p:Raft.Pr N A i g0 (Snt s) (ab m)) (xo:Xok N K x) (ht:¬ x.aJ < m.aJ) (hr:¬ (x.aJ = m.aJ ∧ m.bQ = 2)) : Mok N K i (jg m x) ∧ Raft.Pr N A i g0 (Snt s) (ab (jg m x)) ∧ (jg m x).aJ = x.aJ ∧ (jg m x).bQ ≠ 2 ∧ ((jg m x).bQ = 1 → False) := by
  have key:∃ n,jg m x = aj.fH (aj.lY n x.bP) (tim n.fID) ∧ Mok N K i n ∧ Raft.Pr N A i g0 (Snt s) (ab n) ∧ n.aJ = x.aJ ∧ n.bQ ≠ 2 ∧ (n.bQ = 1 → False) := by
    unfold jg
    by_cases h1:m.aJ < x.aJ
    · rw [if_pos h1]
      obtain ⟨k1,k2⟩ := step_ok hi hN h p x.aJ xo.T1
      refine ⟨_,rfl,k1,k2,?_⟩
      unfold stepS
      rw [if_neg (by omega)]
      exact ⟨rfl,by show (0:Int) ≠ 2; omega,by show (0:Int) = 1 → False; omega⟩
    · rw [if_neg h1]
      by_cases h2:m.bQ = 1
      · rw [if_pos h2]
        have g := h.g
        exact ⟨_,rfl,⟨⟨g.s1,g.s7,g.i0,g.i1,g.t0,g.tm,g.lg,g.c0,g.c1,Int.le_refl 0,h.size hi hN,fun q=>by have q:(0:Int) = 2 := q; omega⟩,h.id,h.sz,h.tk,h.lk,h.tm,h.nx,h.mt,h.en⟩,p.demote hi rfl rfl rfl rfl (by show m.bQ ≠ 2; omega) rfl,by show m.aJ = x.aJ; omega,by show (0:Int) ≠ 2; omega,by show (0:Int) = 1 → False; omega⟩
      · rw [if_neg h2]
        have he:x.aJ = m.aJ := by omega
        exact ⟨_,rfl,h,p,he.symm,fun q=>hr ⟨he,q⟩,h2⟩
  obtain ⟨n,e,h,p,q1,q2,q3⟩ := key
  rw [e]
  have g := h.g
  have h1 := h.id
  have h2 := h.sz
  have ht2 := pq (n := n.fID) (N := (N:Int)) (by omega) (by omega) (by omega)
  exact ⟨⟨⟨g.s1,g.s7,g.i0,g.i1,g.t0,by show 0 ≤ tim n.fID; omega,g.lg,g.c0,g.c1,g.v0,g.v1,g.pr⟩,h.id,h.sz,h.tk,h.lk,by show tim n.fID ≤ 1000; omega,h.nx,h.mt,h.en⟩,p,q1,q2,q3⟩
end
end Go.Proofs.YtdnafbfmaphhhaaGreatDoor
