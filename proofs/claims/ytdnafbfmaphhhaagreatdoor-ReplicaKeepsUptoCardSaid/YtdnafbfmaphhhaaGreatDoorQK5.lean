/- Printed by dec.py. -/
import Derived.Test.YtdnafbfmaphhhaaGreatDoorQKManR
set_option linter.unusedSimpArgs false
set_option linter.unusedVariables false
namespace Go.Proofs.YtdnafbfmaphhhaaGreatDoor
open Go.RowKit
set_option maxRecDepth 20000
set_option maxHeartbeats 4000000
noncomputable section
def Aq (p_m:ak) (v0:Int) (v1:Int) (v2:Int) (x0:au) : Mo (Bool) :=
 .iG 18004 (decide ((x0.bC:Int) < v0)) (.rt [1,4,5,6,33] 2 (true)) <|
 .rt [1,4,5,6,33] 2 (decide ((p_m.bC:Int) < x0.bC))
def Ar (p_m:ak) (r0:Bool) (v0:Int) (v1:Int) (x0:au) : Mo (Bool) :=
 .iG 18011 (r0) (.rt [1,5,6,39] 2 (true)) <|
 .rt [1,5,6,39] 2 (decide ((x0.fO:Int) ≤ v0))
def uH (p_m:ak) (r0:Bool) (v0:Int) (x0:au) : Mo (Bool) :=
 .iG 18017 (r0) (.rt [1,5,6,44] 2 (true)) <|
 .rt [1,5,6,44] 2 (decide ((1099511627776:Int) < x0.fO))
def qg (p_m:ak) : (Int × Int × Int) → Mo ((Int × Int × Int) ⊕ (Unit ⊕ Unit)) := fun (v0,v1,v2) =>
 .say [.num p_m.aP.length] (ok1 (ln_ p_m.aP au.lf)) <|
 .iB (decide ((v2:Int) < (p_m.aP.length:Int))) (.ask (bT p_m.aP v2) fun x0 h0 =>
 .say [.row (au.lf1 x0)] (ok1 (aX au.aU h0)) <|
 .sj Tryz.f66 0 [1,1,1,0,1,0,0,1,0,0,1,0,0] [0,1,2,3,4,5,6,7,8,9,10] 8 11 [1,3,4,5,6] 2 (fun r_=>⟨[(1,.ptr 0 0),(4,.i_ v1),(5,.i_ v2),(6,.ptr 1 0),(33,.b_ r_)],[.box 25 (.dat (ak.lf1 p_m)),.box 54 (.agg ((au.lf1 x0).map AV.lf))]⟩) ⟨[(1,.ptr 0 0),(3,.i_ v0),(4,.i_ v1),(5,.i_ v2),(6,.ptr 1 0)],[.box 25 (.dat (ak.lf1 p_m)),.box 54 (.agg ((au.lf1 x0).map AV.lf))]⟩ (Aq p_m v0 v1 v2 x0).den (sW (by kernel_rfl)) fun r0 _ =>
 .sj Tryz.f66 0 [1,1,1,0,1,0,0,1,0,0,1,0,0] [11,12,13,14,15,16] 8 6 [1,4,5,6,33] 2 (fun r_=>⟨[(1,.ptr 0 0),(5,.i_ v2),(6,.ptr 1 0),(39,.b_ r_)],[.box 25 (.dat (ak.lf1 p_m)),.box 54 (.agg ((au.lf1 x0).map AV.lf))]⟩) ⟨[(1,.ptr 0 0),(4,.i_ v1),(5,.i_ v2),(6,.ptr 1 0),(33,.b_ r0)],[.box 25 (.dat (ak.lf1 p_m)),.box 54 (.agg ((au.lf1 x0).map AV.lf))]⟩ (Ar p_m r0 v1 v2 x0).den (sW (by kernel_rfl)) fun r1 _ =>
 .sj Tryz.f66 0 [1,1,1,0,1,0,0,1,0,0,1,0,0] [17,18,19,20,21] 8 5 [1,5,6,39] 2 (fun r_=>⟨[(1,.ptr 0 0),(5,.i_ v2),(6,.ptr 1 0),(44,.b_ r_)],[.box 25 (.dat (ak.lf1 p_m)),.box 54 (.agg ((au.lf1 x0).map AV.lf))]⟩) ⟨[(1,.ptr 0 0),(5,.i_ v2),(6,.ptr 1 0),(39,.b_ r1)],[.box 25 (.dat (ak.lf1 p_m)),.box 54 (.agg ((au.lf1 x0).map AV.lf))]⟩ (uH p_m r1 v2 x0).den (sW (by kernel_rfl)) fun r2 _ =>
 .iB (r2) (.ret ⟨[.kill 0],[2],[],1⟩ (.inr (.inl ()))) <|
 .rt [1,3,4,5] 1 (.inl (x0.bC,x0.fO,IntKind.wrap .i64 (v2 + 1)))) <|
 .rt [1] 1 (.inr (.inr (())))
def BH (p_m:ak) (v0:Int) (v1:Int) (v2:Int) : Option (Unit ⊕ Unit) := bJ (fun v_=>(qg p_m v_).den) FU (v0,v1,v2)
def KR (p_m:ak) : (Int × Int × Int) → St := fun (v0,v1,v2)=>⟨[(1,.ptr 0 0),(3,.i_ v0),(4,.i_ v1),(5,.i_ v2)],[.box 25 (.dat (ak.lf1 p_m))]⟩
def uI (r_:Unit ⊕ Unit) : Exit := match r_ with
 | .inl o_=>.ret
 | .inr (o_)=>.exit 0
def uJ (p_m:ak) (r_:Unit ⊕ Unit) : St := match r_ with
 | .inl o_=>⟨[(2,.b_ false)],[.dead]⟩
 | .inr (o_)=>⟨[(1,.ptr 0 0)],[.box 25 (.dat (ak.lf1 p_m))]⟩
theorem KT {p_m:ak} {v0:Int} {v1:Int} {v2:Int} {r_:Unit ⊕ Unit} (h:BH p_m v0 v1 v2 = some r_) : gq Tryz.f66 0 [1,1,1,0,1,0] (uI r_) (uJ p_m r_) (KR p_m (v0,v1,v2)) :=
 dR dL (body := (Code.sub (bodyC Tryz.f66) [1,1,1,0,1,0,0])) (by kernel_rfl) (qg p_m) (KR p_m) uI (uJ p_m) (fun r_=>by rcases r_ with _ | _ <;> rfl) (fun v_=>by kernel_rfl) h
def uK (p_m:ak) : Mo (Bool) :=
 .ite (decide ((0:Int) ≤ p_m.aA)) (fun c0 =>
 .say [.gd 26003 true,.num p_m.aP.length] (okc c0 (ok1 (ln_ p_m.aP au.lf))) <|
 .ret ⟨[.kill 0],[59],[],1⟩ (decide ((p_m.aA:Int) ≤ (p_m.aP.length:Int)))) fun c0 =>
 .say [.gd 26003 false] (ok1 c0) <|
 .ret ⟨[.kill 0],[59],[],1⟩ (false)
def uM (r0:Bool) : Mo (Unit) :=
 .rt [2] 1 ()
def YU (p_m:ak) : Mo (Bool) :=
 .say [.num p_m.aP.length] (ok1 (ln_ p_m.aP au.lf)) <|
 .iB (decide ((16384:Int) < (p_m.aP.length:Int))) (.ret (bn 1) (false)) <|
 .eY (BH p_m 0 0 0) (fun o0 h0 =>
 .say [.pt_ 0 [1,3,4,5] 1 (uI (.inl o0)) (uJ p_m (.inl o0))] (ok1 (KT h0)) <|
 .ret (bn 1) (false)) fun o1 h0 =>
 .say [.pt_ 0 [1,3,4,5] 1 (uI (.inr (o1))) (uJ p_m (.inr (o1)))] (ok1 (KT h0)) <|
 .sj Tryz.f66 0 [1,1,1,1,0] [0,1,2,3,4,5,6,7,8,9,10] 12 11 [1] 1 (fun r_=>⟨[(59,.b_ r_)],[.dead]⟩) ⟨[(1,.ptr 0 0)],[.box 25 (.dat (ak.lf1 p_m))]⟩ (uK p_m).den (sW (by kernel_rfl)) fun r0 _ =>
 .sj Tryz.f66 0 [1,1,1,1,0] [11] 12 1 [59] 1 (fun r_=>⟨[(2,.b_ r0)],[.dead]⟩) ⟨[(59,.b_ r0)],[.dead]⟩ (uM r0).den (sW (by kernel_rfl)) fun r1 _ =>
 .ret (bn 1) (r0)
def Q9 (p_m:ak) : Option (Bool) := Mo.den (YU p_m)
theorem aiJ (p_m:ak) : FV (Q9 p_m) 66 [.dat (ak.lf1 p_m)] (fun r=>.b_ r) := dw Tryz.func66 (by kernel_rfl) (fun _=>rfl) (by kernel_rfl)
def Fz (p_set:Int) (p_size:Int) : (Int × Int) → Mo ((Int × Int) ⊕ (Int)) := fun (v0,v1) =>
 .iB (decide ((v1:Int) < p_size)) (.grd ((0:Int) ≤ v1) fun h0 =>
 .say [] (okc h0 (ok1 (by decide:(2:Int) ≠ 0))) <|
 .rt [0,1,5,6] 0 (.inl (IntKind.wrap .i64 (v0 + (Int.tmod (fK .i64 p_set v1) 2)),IntKind.wrap .i64 (v1 + 1)))) <|
 .rt [5] 0 (.inr (v0))
def adh (p_set:Int) (p_size:Int) (v0:Int) (v1:Int) : Option (Int) := bJ (fun v_=>(Fz p_set p_size v_).den) FU (v0,v1)
def YV (p_set:Int) (p_size:Int) : Mo (Int) :=
 .lp Tryz.f67 0 [1,1,0,1,0] 0 [0,1,5,6] 0 (.exit 0) (fun r_=>⟨[(5,.i_ r_)],[]⟩) (adh p_set p_size 0 0) (lW (fun (v0,v1)=>⟨[(0,.i_ p_set),(1,.i_ p_size),(5,.i_ v0),(6,.i_ v1)],[]⟩) (by kernel_rfl) rfl fun v_=>by kernel_rfl) fun r0 _ =>
 .ret (bn 1) (r0)
def adi (p_set:Int) (p_size:Int) : Option (Int) := Mo.den (YV p_set p_size)
theorem adk (p_set:Int) (p_size:Int) : FV (adi p_set p_size) 67 [.i_ p_set,.i_ p_size] (fun r=>.i_ r) := dw Tryz.func67 (by kernel_rfl) (fun _=>rfl) (by kernel_rfl)
def FB (p_size:Int) : Mo (Bool) :=
 .iG 4002 (decide ((p_size:Int) < 1)) (.rt [0,8] 0 (true)) <|
 .rt [0,8] 0 (decide ((7:Int) < p_size))
def YW (p_size:Int) : Mo (Int) :=
 .jp Tryz.f56 0 [1,0,0] 9 [0] 0 (.normal) (fun r_=>⟨[(0,.i_ p_size),(8,.b_ r_)],[]⟩) ⟨[(0,.i_ p_size)],[]⟩ (FB p_size).den (jW (by kernel_rfl)) fun r0 _ =>
 .ite (r0) (fun c0 =>
 .say [.br true] (ok1 c0) <|
 .ret (bn 1) (0)) fun c0 =>
 .say [.br false] (okc c0 (ok1 (by decide:(2:Int) ≠ 0))) <|
 .ret (bn 1) (IntKind.wrap .i64 ((IntKind.wrap .i64 (Int.tdiv p_size 2)) + 1))
def adl (p_size:Int) : Option (Int) := Mo.den (YW p_size)
theorem adn (p_size:Int) : FV (adl p_size) 56 [.i_ p_size] (fun r=>.i_ r) := dw Tryz.func56 (by kernel_rfl) (fun _=>rfl) (by kernel_rfl)
def KU (p_l:List Int) (p_most:Int) (v0:Int) : Mo (Bool) :=
 .ask (bT p_l v0) fun x0 h0 =>
 .say [.row (lfI x0)] (ok1 (aX lI_ h0)) <|
 .iG 10005 (decide ((x0:Int) < 0)) (.rt [0,1,5,24] 0 (true)) <|
 .ask (bT p_l v0) fun x1 h1 =>
 .say [.row (lfI x1)] (ok1 (aX lI_ h1)) <|
 .rt [0,1,5,24] 0 (decide ((p_most:Int) < x1))
def uN (p_l:List Int) (p_most:Int) : (Int) → Mo ((Int) ⊕ (Unit ⊕ Unit)) := fun (v0) =>
 .say [.num p_l.length] (ok1 (ln_ p_l lfI)) <|
 .iB (decide ((v0:Int) < (p_l.length:Int))) (.jp Tryz.f68 0 [1,0,1,0,0,1,0,0,0] 15 [0,1,5] 0 (.normal) (fun r_=>⟨[(0,.lf (.rows 1 (p_l.map lfI))),(1,.i_ p_most),(5,.i_ v0),(24,.b_ r_)],[]⟩) ⟨[(0,.lf (.rows 1 (p_l.map lfI))),(1,.i_ p_most),(5,.i_ v0)],[]⟩ (KU p_l p_most v0).den (jW (by kernel_rfl)) fun r0 _ =>
 .iB (r0) (.rt [4] 0 (.inr (.inl ()))) <|
 .rt [0,1,5] 0 (.inl (IntKind.wrap .i64 (v0 + 1)))) <|
 .rt [] 0 (.inr (.inr (())))
def Ry (p_l:List Int) (p_most:Int) (v0:Int) : Option (Unit ⊕ Unit) := bJ (fun v_=>(uN p_l p_most v_).den) FU (v0)
def KW (p_l:List Int) (p_most:Int) : (Int) → St := fun (v0)=>⟨[(0,.lf (.rows 1 (p_l.map lfI))),(1,.i_ p_most),(5,.i_ v0)],[]⟩
def uO (r_:Unit ⊕ Unit) : Exit := match r_ with
 | .inl o_=>.ret
 | .inr (o_)=>.exit 0
def uP  (r_:Unit ⊕ Unit) : St := match r_ with
 | .inl o_=>⟨[(4,.b_ false)],[]⟩
 | .inr (o_)=>⟨[],[]⟩
theorem KX {p_l:List Int} {p_most:Int} {v0:Int} {r_:Unit ⊕ Unit} (h:Ry p_l p_most v0 = some r_) : gq Tryz.f68 0 [1,0,1,0] (uO r_) (uP r_) (KW p_l p_most (v0)) :=
 dR dL (body := (Code.sub (bodyC Tryz.f68) [1,0,1,0,0])) (by kernel_rfl) (uN p_l p_most) (KW p_l p_most) uO uP (fun r_=>by rcases r_ with _ | _ <;> rfl) (fun v_=>by kernel_rfl) h
def afg (p_l:List Int) (p_most:Int) : Mo (Bool) :=
 .eY (Ry p_l p_most 0) (fun o0 h0 =>
 .say [.pt_ 0 [0,1,5] 0 (uO (.inl o0)) (uP (.inl o0))] (ok1 (KX h0)) <|
 .ret (bn 1) (false)) fun o1 h0 =>
 .say [.pt_ 0 [0,1,5] 0 (uO (.inr (o1))) (uP (.inr (o1)))] (ok1 (KX h0)) <|
 .ret (bn 1) (true)
def Q29 (p_l:List Int) (p_most:Int) : Option (Bool) := Mo.den (afg p_l p_most)
theorem YX (p_l:List Int) (p_most:Int) : FV (Q29 p_l p_most) 68 [.lf (.rows 1 (p_l.map lfI)),.i_ p_most] (fun r=>.b_ r) := dw Tryz.func68 (by kernel_rfl) (fun _=>rfl) (by kernel_rfl)
def UK (p_m:ak) : Mo (Bool) :=
 .iG 4003 (decide ((p_m.dJ:Int) < 1)) (.rt [1,11] 1 (true)) <|
 .rt [1,11] 1 (decide ((7:Int) < p_m.dJ))
def UL (p_m:ak) (r0:Bool) : Mo (Bool) :=
 .iG 4008 (r0) (.rt [1,16] 1 (true)) <|
 .rt [1,16] 1 (decide ((p_m.fID:Int) < 0))
def KY (p_m:ak) (r0:Bool) : Mo (Bool) :=
 .iG 4013 (r0) (.rt [1,23] 1 (true)) <|
 .rt [1,23] 1 (decide ((p_m.dJ:Int) ≤ p_m.fID))
def KZ (p_m:ak) (r0:Bool) : Mo (Bool) :=
 .iG 4020 (r0) (.rt [1,28] 1 (true)) <|
 .rt [1,28] 1 (decide ((p_m.bC:Int) < 0))
def La (p_m:ak) (r0:Bool) : Mo (Bool) :=
 .iG 4025 (r0) (.rt [1,33] 1 (true)) <|
 .rt [1,33] 1 (decide ((p_m.jm:Int) < (-1)))
def Lc (p_m:ak) (r0:Bool) : Mo (Bool) :=
 .iG 4030 (r0) (.rt [1,40] 1 (true)) <|
 .rt [1,40] 1 (decide ((p_m.dJ:Int) ≤ p_m.jm))
def Ld (p_m:ak) (r0:Bool) : Mo (Bool) :=
 .iG 4037 (r0) (.rt [1,45] 1 (true)) <|
 .rt [1,45] 1 (decide ((p_m.iq:Int) < (-1)))
def Lh (p_m:ak) (r0:Bool) : Mo (Bool) :=
 .iG 4042 (r0) (.rt [1,52] 1 (true)) <|
 .rt [1,52] 1 (decide ((p_m.dJ:Int) ≤ p_m.iq))
def Lj (p_m:ak) : Mo (Bool) :=
 .ite (decide ((p_m.dV:Int) < 0)) (fun c0 =>
 .say [.dM (.q 0 (.q 1 (.q 2 (.q 3 (.q 4 (.q 5 (.q 6 (.q 7 (.q 8 (.q 9 (.q 10 (.q 11 (.q 12 (.q 13 (.q 14 (.q 15 (.q 16 (.q 17 (.q 18 (.q 19 (.q 20 (.q 21 (.q 22 (.q 23 (.q 24 (.q 25 (.q 26 (.q 27 (.l 28 (.q 29 (.q 30 .fin))))))))))))))))))))))))))))))) (some 28) [] [.gd 8003 true] [1,83] 1 [(1,.ptr 0 0),(83,.b_ true)] [.box 25 (.dat (ak.lf1 p_m))]] (okc c0 (ok1 (rf_ ⟨[(1,.ptr 0 0),(83,.b_ true)],[.box 25 (.dat (ak.lf1 p_m))]⟩))) <|
 .rt [1,83] 1 (true)) fun c0 =>
 .say [] (ok1 c0) <|
 .ite (decide ((2:Int) < p_m.dV)) (fun c1 =>
 .say [.dM (.q 0 (.q 1 (.q 2 (.q 3 (.q 4 (.q 5 (.q 6 (.q 7 (.q 8 (.q 9 (.q 10 (.q 11 (.q 12 (.q 13 (.q 14 (.q 15 (.q 16 (.q 17 (.q 18 (.q 19 (.q 20 (.q 21 (.q 22 (.q 23 (.q 24 (.q 25 (.q 26 (.q 27 (.l 28 (.q 29 (.q 30 .fin))))))))))))))))))))))))))))))) (some 28) [] [.gd 8003 false,.gd 8008 true] [1,83] 1 [(1,.ptr 0 0),(83,.b_ true)] [.box 25 (.dat (ak.lf1 p_m))]] (okc c1 (ok1 (rf_ ⟨[(1,.ptr 0 0),(83,.b_ true)],[.box 25 (.dat (ak.lf1 p_m))]⟩))) <|
 .rt [1,83] 1 (true)) fun c1 =>
 .say [] (ok1 c1) <|
 .ite (decide ((p_m.gX:Int) < 0)) (fun c2 =>
 .say [.dM (.q 0 (.q 1 (.q 2 (.q 3 (.q 4 (.q 5 (.q 6 (.q 7 (.q 8 (.q 9 (.q 10 (.q 11 (.q 12 (.q 13 (.q 14 (.q 15 (.q 16 (.q 17 (.q 18 (.q 19 (.q 20 (.q 21 (.q 22 (.q 23 (.q 24 (.q 25 (.q 26 (.q 27 (.l 28 (.q 29 (.q 30 .fin))))))))))))))))))))))))))))))) (some 28) [] [.gd 8003 false,.gd 8008 false,.gd 8013 true] [1,83] 1 [(1,.ptr 0 0),(83,.b_ true)] [.box 25 (.dat (ak.lf1 p_m))]] (okc c2 (ok1 (rf_ ⟨[(1,.ptr 0 0),(83,.b_ true)],[.box 25 (.dat (ak.lf1 p_m))]⟩))) <|
 .rt [1,83] 1 (true)) fun c2 =>
 .say [] (ok1 c2) <|
 .ite (decide ((p_m.fQ:Int) < 0)) (fun c3 =>
 .say [.dM (.q 0 (.q 1 (.q 2 (.q 3 (.q 4 (.q 5 (.q 6 (.q 7 (.q 8 (.q 9 (.q 10 (.q 11 (.q 12 (.q 13 (.q 14 (.q 15 (.q 16 (.q 17 (.q 18 (.q 19 (.q 20 (.q 21 (.q 22 (.q 23 (.q 24 (.q 25 (.q 26 (.q 27 (.l 28 (.q 29 (.q 30 .fin))))))))))))))))))))))))))))))) (some 28) [] [.gd 8003 false,.gd 8008 false,.gd 8013 false,.gd 8018 true] [1,83] 1 [(1,.ptr 0 0),(83,.b_ true)] [.box 25 (.dat (ak.lf1 p_m))]] (okc c3 (ok1 (rf_ ⟨[(1,.ptr 0 0),(83,.b_ true)],[.box 25 (.dat (ak.lf1 p_m))]⟩))) <|
 .rt [1,83] 1 (true)) fun c3 =>
 .say [] (ok1 c3) <|
 .grd ((0:Int) ≤ p_m.dJ) fun h0 =>
 .say [] (ok1 h0) <|
 .ite (decide ((yD .i64 1 p_m.dJ:Int) ≤ p_m.fQ)) (fun c4 =>
 .say [.dM (.q 0 (.q 1 (.q 2 (.q 3 (.q 4 (.q 5 (.q 6 (.q 7 (.q 8 (.q 9 (.q 10 (.q 11 (.q 12 (.q 13 (.q 14 (.q 15 (.q 16 (.q 17 (.q 18 (.q 19 (.q 20 (.q 21 (.q 22 (.q 23 (.q 24 (.q 25 (.q 26 (.q 27 (.l 28 (.q 29 (.q 30 .fin))))))))))))))))))))))))))))))) (some 28) [] [.gd 8003 false,.gd 8008 false,.gd 8013 false,.gd 8018 false,.gd 8026 true] [1,83] 1 [(1,.ptr 0 0),(83,.b_ true)] [.box 25 (.dat (ak.lf1 p_m))]] (okc c4 (ok1 (rf_ ⟨[(1,.ptr 0 0),(83,.b_ true)],[.box 25 (.dat (ak.lf1 p_m))]⟩))) <|
 .rt [1,83] 1 (true)) fun c4 =>
 .say [] (ok1 c4) <|
 .ask (Q9 p_m) fun r0 h1 =>
 .say [.dM (.q 0 (.q 1 (.q 2 (.q 3 (.q 4 (.q 5 (.q 6 (.q 7 (.q 8 (.q 9 (.q 10 (.q 11 (.q 12 (.q 13 (.q 14 (.q 15 (.q 16 (.q 17 (.q 18 (.q 19 (.q 20 (.q 21 (.q 22 (.q 23 (.q 24 (.q 25 (.q 26 (.q 27 (.l 28 (.q 29 (.q 30 .fin))))))))))))))))))))))))))))))) (some 28) [] [.gd 8003 false,.gd 8008 false,.gd 8013 false,.gd 8018 false,.gd 8026 false,.res (.b_ r0)] [1,83] 1 [(1,.ptr 0 0),(83,.lf (.bool (!r0)))] [.box 25 (.dat (ak.lf1 p_m))]] (okc (aiJ _ _ h1) (ok1 (rf_ ⟨[(1,.ptr 0 0),(83,.lf (.bool (!r0)))],[.box 25 (.dat (ak.lf1 p_m))]⟩))) <|
 .rt [1,83] 1 (!r0)
def Ll (p_m:ak) : Mo (Bool) :=
 .iG 12003 (p_m.dV != 0) (.iG 12007 (decide ((p_m.bC:Int) < 1)) (.rt [1,107] 1 (true)) <|
 .iG 12014 (p_m.jm != p_m.fID) (.rt [1,107] 1 (true)) <|
 .grd ((0:Int) ≤ p_m.fID) fun h0 =>
 .say [] (okc h0 (ok1 (by decide:(2:Int) ≠ 0))) <|
 .rt [1,107] 1 ((Int.tmod (fK .i64 p_m.fQ p_m.fID) 2) == 0)) <|
 .rt [1,107] 1 (false)
def Lm (p_m:ak) (r0:Int) (r1:Int) : Mo (Bool) :=
 .iG 22003 (p_m.iq != (-1)) (.rt [1,126] 1 (true)) <|
 .rt [1,126] 1 (decide ((r1:Int) ≤ r0))
def Lp (p_m:ak) (r0:Int) (r1:Int) : Mo (Bool) :=
 .iG 28005 (p_m.iq == p_m.fID) (.rt [1,136] 1 (decide ((r1:Int) ≤ r0))) <|
 .rt [1,136] 1 (false)
def Lr (p_m:ak) (r0:Bool) : Mo (Bool) :=
 .ite (r0) (fun c0 =>
 .say [.gd 28008 true,.num p_m.fNext.length] (okc c0 (ok1 (ln_ p_m.fNext lfI))) <|
 .rt [1,144] 1 ((p_m.fNext.length:Int) == p_m.dJ)) fun c0 =>
 .say [.gd 28008 false] (ok1 c0) <|
 .rt [1,144] 1 (false)
def Ls (p_m:ak) (r0:Bool) : Mo (Bool) :=
 .ite (r0) (fun c0 =>
 .say [.gd 28016 true,.num p_m.bg.length] (okc c0 (ok1 (ln_ p_m.bg lfI))) <|
 .rt [1,152] 1 ((p_m.bg.length:Int) == p_m.dJ)) fun c0 =>
 .say [.gd 28016 false] (ok1 c0) <|
 .rt [1,152] 1 (false)
def Lu (p_m:ak) (r0:Bool) : Mo (Bool) :=
 .ite (r0) (fun c0 =>
 .say [.gd 28024 true,.num p_m.aP.length] (okc c0 (ok1 (ln_ p_m.aP au.lf))) <|
 .cl (YX p_m.fNext (p_m.aP.length:Int)) fun r1 _ =>
 .rt [1,160] 1 (r1)) fun c0 =>
 .say [.gd 28024 false] (ok1 c0) <|
 .rt [1,160] 1 (false)
def LC (p_m:ak) (r0:Bool) : Mo (Bool) :=
 .ite (r0) (fun c0 =>
 .say [.gd 28032 true,.num p_m.aP.length] (okc c0 (ok1 (ln_ p_m.aP au.lf))) <|
 .cl (YX p_m.bg (p_m.aP.length:Int)) fun r1 _ =>
 .ret ⟨[.kill 0],[168],[],1⟩ (r1)) fun c0 =>
 .say [.gd 28032 false] (ok1 c0) <|
 .ret ⟨[.kill 0],[168],[],1⟩ (false)
def LD (r0:Bool) : Mo (Unit) :=
 .rt [2] 1 ()
def BI (p_m:ak) (r0:Int) (r1:Int) : Mo ((Bool) ⊕ Unit) :=
 .iB (p_m.dV == 1) (.jp Tryz.f32 0 [1,1,1,1,1,0,1,0,1,0,0] 27 [1,3] 1 (.normal) (fun r_=>⟨[(1,.ptr 0 0),(126,.b_ r_)],[.box 25 (.dat (ak.lf1 p_m))]⟩) ⟨[(1,.ptr 0 0),(3,.lf (.bool (decide ((r1:Int) ≤ r0))))],[.box 25 (.dat (ak.lf1 p_m))]⟩ (Lm p_m r0 r1).den (jW (by kernel_rfl)) fun r2 _ =>
 .iB (r2) (.ret ⟨[.kill 0],[2],[],1⟩ (.inl (false))) <|
 .rt [1] 1 (.inr (()))) <|
 .iB (p_m.dV == 2) (.sj Tryz.f32 0 [1,1,1,1,1,0,1,0,1,1,1,0,0] [0,1,2,3,4,5,6,7] 13 8 [1,3] 1 (fun r_=>⟨[(1,.ptr 0 0),(136,.b_ r_)],[.box 25 (.dat (ak.lf1 p_m))]⟩) ⟨[(1,.ptr 0 0),(3,.lf (.bool (decide ((r1:Int) ≤ r0))))],[.box 25 (.dat (ak.lf1 p_m))]⟩ (Lp p_m r0 r1).den (sW (by kernel_rfl)) fun r3 _ =>
 .sj Tryz.f32 0 [1,1,1,1,1,0,1,0,1,1,1,0,0] [8,9,10,11,12,13,14,15] 13 8 [1,136] 1 (fun r_=>⟨[(1,.ptr 0 0),(144,.b_ r_)],[.box 25 (.dat (ak.lf1 p_m))]⟩) ⟨[(1,.ptr 0 0),(136,.b_ r3)],[.box 25 (.dat (ak.lf1 p_m))]⟩ (Lr p_m r3).den (sW (by kernel_rfl)) fun r4 _ =>
 .sj Tryz.f32 0 [1,1,1,1,1,0,1,0,1,1,1,0,0] [16,17,18,19,20,21,22,23] 13 8 [1,144] 1 (fun r_=>⟨[(1,.ptr 0 0),(152,.b_ r_)],[.box 25 (.dat (ak.lf1 p_m))]⟩) ⟨[(1,.ptr 0 0),(144,.b_ r4)],[.box 25 (.dat (ak.lf1 p_m))]⟩ (Ls p_m r4).den (sW (by kernel_rfl)) fun r5 _ =>
 .sj Tryz.f32 0 [1,1,1,1,1,0,1,0,1,1,1,0,0] [24,25,26,27,28,29,30,31] 13 8 [1,152] 1 (fun r_=>⟨[(1,.ptr 0 0),(160,.b_ r_)],[.box 25 (.dat (ak.lf1 p_m))]⟩) ⟨[(1,.ptr 0 0),(152,.b_ r5)],[.box 25 (.dat (ak.lf1 p_m))]⟩ (Lu p_m r5).den (sW (by kernel_rfl)) fun r6 _ =>
 .sj Tryz.f32 0 [1,1,1,1,1,0,1,0,1,1,1,0,0] [32,33,34,35,36,37,38,39] 13 8 [1,160] 1 (fun r_=>⟨[(168,.b_ r_)],[.dead]⟩) ⟨[(1,.ptr 0 0),(160,.b_ r6)],[.box 25 (.dat (ak.lf1 p_m))]⟩ (LC p_m r6).den (sW (by kernel_rfl)) fun r7 _ =>
 .sj Tryz.f32 0 [1,1,1,1,1,0,1,0,1,1,1,0,0] [40] 13 1 [168] 1 (fun r_=>⟨[(2,.b_ r7)],[.dead]⟩) ⟨[(168,.b_ r7)],[.dead]⟩ (LD r7).den (sW (by kernel_rfl)) fun r8 _ =>
 .rt [2] 1 (.inl (r7))) <|
 .rt [1] 1 (.inr (()))
def Rz (p_m:ak) (r0:Int) (r1:Int) : Option ((Bool) ⊕ Unit) := Mo.den (BI p_m r0 r1)
def uQ (r_:(Bool) ⊕ Unit) : Exit := match r_ with
 | .inl o_=>.ret
 | .inr (o_)=>.normal
def uS (p_m:ak) (r_:(Bool) ⊕ Unit) : St := match r_ with
 | .inl o_=>⟨[(2,.b_ o_)],[.dead]⟩
 | .inr (o_)=>⟨[(1,.ptr 0 0)],[.box 25 (.dat (ak.lf1 p_m))]⟩
theorem LG {p_m:ak} {r0:Int} {r1:Int} {r_:(Bool) ⊕ Unit} (h:Rz p_m r0 r1 = some r_) : gq Tryz.f32 0 [1,1,1,1,1,0,1] (uQ r_) (uS p_m r_) ⟨[(1,.ptr 0 0),(3,.lf (.bool (decide ((r1:Int) ≤ r0)))),(118,.i_ p_m.dV)],[.box 25 (.dat (ak.lf1 p_m))]⟩ :=
 jq dL (BI p_m r0 r1) uQ (uS p_m) (by kernel_rfl) h
def aiK (p_m:ak) : Mo (Bool) :=
 .sj Tryz.f32 0 [1,0,0] [0,1,2,3,4,5,6,7] 1 8 [1] 1 (fun r_=>⟨[(1,.ptr 0 0),(11,.b_ r_)],[.box 25 (.dat (ak.lf1 p_m))]⟩) ⟨[(1,.ptr 0 0)],[.box 25 (.dat (ak.lf1 p_m))]⟩ (UK p_m).den (sW (by kernel_rfl)) fun r0 _ =>
 .sj Tryz.f32 0 [1,0,0] [8,9,10,11,12] 1 5 [1,11] 1 (fun r_=>⟨[(1,.ptr 0 0),(16,.b_ r_)],[.box 25 (.dat (ak.lf1 p_m))]⟩) ⟨[(1,.ptr 0 0),(11,.b_ r0)],[.box 25 (.dat (ak.lf1 p_m))]⟩ (UL p_m r0).den (sW (by kernel_rfl)) fun r1 _ =>
 .sj Tryz.f32 0 [1,0,0] [13,14,15,16,17,18,19] 1 7 [1,16] 1 (fun r_=>⟨[(1,.ptr 0 0),(23,.b_ r_)],[.box 25 (.dat (ak.lf1 p_m))]⟩) ⟨[(1,.ptr 0 0),(16,.b_ r1)],[.box 25 (.dat (ak.lf1 p_m))]⟩ (KY p_m r1).den (sW (by kernel_rfl)) fun r2 _ =>
 .sj Tryz.f32 0 [1,0,0] [20,21,22,23,24] 1 5 [1,23] 1 (fun r_=>⟨[(1,.ptr 0 0),(28,.b_ r_)],[.box 25 (.dat (ak.lf1 p_m))]⟩) ⟨[(1,.ptr 0 0),(23,.b_ r2)],[.box 25 (.dat (ak.lf1 p_m))]⟩ (KZ p_m r2).den (sW (by kernel_rfl)) fun r3 _ =>
 .sj Tryz.f32 0 [1,0,0] [25,26,27,28,29] 1 5 [1,28] 1 (fun r_=>⟨[(1,.ptr 0 0),(33,.b_ r_)],[.box 25 (.dat (ak.lf1 p_m))]⟩) ⟨[(1,.ptr 0 0),(28,.b_ r3)],[.box 25 (.dat (ak.lf1 p_m))]⟩ (La p_m r3).den (sW (by kernel_rfl)) fun r4 _ =>
 .sj Tryz.f32 0 [1,0,0] [30,31,32,33,34,35,36] 1 7 [1,33] 1 (fun r_=>⟨[(1,.ptr 0 0),(40,.b_ r_)],[.box 25 (.dat (ak.lf1 p_m))]⟩) ⟨[(1,.ptr 0 0),(33,.b_ r4)],[.box 25 (.dat (ak.lf1 p_m))]⟩ (Lc p_m r4).den (sW (by kernel_rfl)) fun r5 _ =>
 .sj Tryz.f32 0 [1,0,0] [37,38,39,40,41] 1 5 [1,40] 1 (fun r_=>⟨[(1,.ptr 0 0),(45,.b_ r_)],[.box 25 (.dat (ak.lf1 p_m))]⟩) ⟨[(1,.ptr 0 0),(40,.b_ r5)],[.box 25 (.dat (ak.lf1 p_m))]⟩ (Ld p_m r5).den (sW (by kernel_rfl)) fun r6 _ =>
 .sj Tryz.f32 0 [1,0,0] [42,43,44,45,46,47,48] 1 7 [1,45] 1 (fun r_=>⟨[(1,.ptr 0 0),(52,.b_ r_)],[.box 25 (.dat (ak.lf1 p_m))]⟩) ⟨[(1,.ptr 0 0),(45,.b_ r6)],[.box 25 (.dat (ak.lf1 p_m))]⟩ (Lh p_m r6).den (sW (by kernel_rfl)) fun r7 _ =>
 .iB (r7) (.ret (bn 1) (false)) <|
 .jp Tryz.f32 0 [1,1,0,0] 13 [1] 1 (.normal) (fun r_=>⟨[(1,.ptr 0 0),(83,.b_ r_)],[.box 25 (.dat (ak.lf1 p_m))]⟩) ⟨[(1,.ptr 0 0)],[.box 25 (.dat (ak.lf1 p_m))]⟩ (Lj p_m).den (jW (by kernel_rfl)) fun r8 _ =>
 .iB (r8) (.ret (bn 1) (false)) <|
 .jp Tryz.f32 0 [1,1,1,0,0] 17 [1] 1 (.normal) (fun r_=>⟨[(1,.ptr 0 0),(107,.b_ r_)],[.box 25 (.dat (ak.lf1 p_m))]⟩) ⟨[(1,.ptr 0 0)],[.box 25 (.dat (ak.lf1 p_m))]⟩ (Ll p_m).den (jW (by kernel_rfl)) fun r9 _ =>
 .iB (r9) (.ret (bn 1) (false)) <|
 .ask (adi p_m.fQ p_m.dJ) fun r10 h0 =>
 .say [] (ok1 (adk _ _ _ h0)) <|
 .ask (adl p_m.dJ) fun r11 h1 =>
 .say [.dM (.q 0 (.q 1 (.q 2 (.q 3 (.q 5 (.q 6 (.l 4 (.l 7 (.q 8 (.q 9 .fin)))))))))) (some 7) [] [.res (.i_ r10),.res (.i_ r11)] [1,3] 1 [(1,.ptr 0 0),(3,.lf (.bool (decide ((r11:Int) ≤ r10))))] [.box 25 (.dat (ak.lf1 p_m))]] (okc (adn _ _ h1) (ok1 (rf_ ⟨[(1,.ptr 0 0),(3,.lf (.bool (decide ((r11:Int) ≤ r10))))],[.box 25 (.dat (ak.lf1 p_m))]⟩))) <|
 .eY (Rz p_m r10 r11) (fun o0 h2 =>
 .say [.pt_ 6 [1,3,118] 1 (uQ (.inl o0)) (uS p_m (.inl o0))] (ok1 (LG h2)) <|
 .ret (bn 1) (o0)) fun o1 h2 =>
 .say [.pt_ 6 [1,3,118] 1 (uQ (.inr (o1))) (uS p_m (.inr (o1))),.num p_m.fNext.length] (okc (LG h2) (ok1 (ln_ p_m.fNext lfI))) <|
 .ite ((p_m.fNext.length:Int) == 0) (fun c0 =>
 .say [.gd 30004 true,.num p_m.bg.length] (okc c0 (ok1 (ln_ p_m.bg lfI))) <|
 .ret (bn 1) ((p_m.bg.length:Int) == 0)) fun c0 =>
 .say [.gd 30004 false] (ok1 c0) <|
 .ret (bn 1) (false)
def Q5 (p_m:ak) : Option (Bool) := Mo.den (aiK p_m)
theorem aiL (p_m:ak) : FV (Q5 p_m) 32 [.dat (ak.lf1 p_m)] (fun r=>.b_ r) := dw Tryz.func32 (by kernel_rfl) (fun _=>rfl) (by kernel_rfl)
def YZ (p_m:ak) : Mo (Bool) :=
 .say [.num p_m.aP.length] (ok1 (ln_ p_m.aP au.lf)) <|
 .iG 4004 (decide (((p_m.aP.length:Int) : Int) ≤ 200)) (.cl (aiL p_m) fun r0 _ =>
 .ret (bn 1) (r0)) <|
 .ret (bn 1) (false)
def agF (p_m:ak) : Option (Bool) := Mo.den (YZ p_m)
theorem ado (p_m:ak) : FV (agF p_m) 10 [.dat (ak.lf1 p_m)] (fun r=>.b_ r) := dw Tryz.func10 (by kernel_rfl) (fun _=>rfl) (by kernel_rfl)
def LH (p_s:ByteArray) : Mo (Bool) :=
 .iG 4003 (decide (((p_s.size:Int) : Int) < 1)) (.rt [0,11] 0 (true)) <|
 .rt [0,11] 0 (decide ((32:Int) < (p_s.size:Int)))
def LJ (p_s:ByteArray) (r0:Bool) : Mo (Bool) :=
 .iG 4008 (r0) (.rt [0,16] 0 (true)) <|
 .ask (lH p_s 0) fun b0 h0 =>
 .say [.byt b0] (ok1 (iF h0)) <|
 .rt [0,16] 0 ((b0.toNat:Int) == 36)
def FC (p_s:ByteArray) (v0:Int) : Mo (Bool) :=
 .ask (lH p_s v0) fun b0 h0 =>
 .say [.byt b0] (ok1 (iF h0)) <|
 .iG 14004 (decide (((b0.toNat:Int) : Int) < 33)) (.rt [0,3,32] 0 (true)) <|
 .ask (lH p_s v0) fun b1 h1 =>
 .say [.byt b1] (ok1 (iF h1)) <|
 .rt [0,3,32] 0 (decide ((126:Int) < (b1.toNat:Int)))
def FD (p_s:ByteArray) (r0:Bool) (v0:Int) : Mo (Bool) :=
 .iG 14010 (r0) (.rt [0,3,38] 0 (true)) <|
 .ask (lH p_s v0) fun b0 h0 =>
 .say [.byt b0] (ok1 (iF h0)) <|
 .rt [0,3,38] 0 ((b0.toNat:Int) == 46)
def yO (p_s:ByteArray) : (Int) → Mo ((Int) ⊕ (Unit ⊕ Unit)) := fun (v0) =>
 .iB (decide ((v0:Int) < (p_s.size:Int))) (.sj Tryz.f150 0 [1,1,0,1,0,0,1,0,0,0] [0,1,2,3,4,5,6,7,8,9] 6 10 [0,3] 0 (fun r_=>⟨[(0,.lf (.str p_s)),(3,.i_ v0),(32,.b_ r_)],[]⟩) ⟨[(0,.lf (.str p_s)),(3,.i_ v0)],[]⟩ (FC p_s v0).den (sW (by kernel_rfl)) fun r0 _ =>
 .sj Tryz.f150 0 [1,1,0,1,0,0,1,0,0,0] [10,11,12,13,14,15] 6 6 [0,3,32] 0 (fun r_=>⟨[(0,.lf (.str p_s)),(3,.i_ v0),(38,.b_ r_)],[]⟩) ⟨[(0,.lf (.str p_s)),(3,.i_ v0),(32,.b_ r0)],[]⟩ (FD p_s r0 v0).den (sW (by kernel_rfl)) fun r1 _ =>
 .iB (r1) (.rt [2] 0 (.inr (.inl ()))) <|
 .rt [0,3] 0 (.inl (IntKind.wrap .i64 (v0 + 1)))) <|
 .rt [] 0 (.inr (.inr (())))
def IW (p_s:ByteArray) (v0:Int) : Option (Unit ⊕ Unit) := bJ (fun v_=>(yO p_s v_).den) FU (v0)
def FI (p_s:ByteArray) : (Int) → St := fun (v0)=>⟨[(0,.lf (.str p_s)),(3,.i_ v0)],[]⟩
def qM (r_:Unit ⊕ Unit) : Exit := match r_ with
 | .inl o_=>.ret
 | .inr (o_)=>.exit 0
def qN  (r_:Unit ⊕ Unit) : St := match r_ with
 | .inl o_=>⟨[(2,.b_ false)],[]⟩
 | .inr (o_)=>⟨[],[]⟩
theorem FK {p_s:ByteArray} {v0:Int} {r_:Unit ⊕ Unit} (h:IW p_s v0 = some r_) : gq Tryz.f150 0 [1,1,0,1,0] (qM r_) (qN r_) (FI p_s (v0)) :=
 dR dL (body := (Code.sub (bodyC Tryz.f150) [1,1,0,1,0,0])) (by kernel_rfl) (yO p_s) (FI p_s) qM qN (fun r_=>by rcases r_ with _ | _ <;> rfl) (fun v_=>by kernel_rfl) h
def afh (p_s:ByteArray) : Mo (Bool) :=
 .sj Tryz.f150 0 [1,0,0] [0,1,2,3,4,5,6,7] 1 8 [0] 0 (fun r_=>⟨[(0,.lf (.str p_s)),(11,.b_ r_)],[]⟩) ⟨[(0,.lf (.str p_s))],[]⟩ (LH p_s).den (sW (by kernel_rfl)) fun r0 _ =>
 .sj Tryz.f150 0 [1,0,0] [8,9,10,11,12] 1 5 [0,11] 0 (fun r_=>⟨[(0,.lf (.str p_s)),(16,.b_ r_)],[]⟩) ⟨[(0,.lf (.str p_s)),(11,.b_ r0)],[]⟩ (LJ p_s r0).den (sW (by kernel_rfl)) fun r1 _ =>
 .iB (r1) (.ret (bn 1) (false)) <|
 .eY (IW p_s 0) (fun o0 h0 =>
 .say [.pt_ 0 [0,3] 0 (qM (.inl o0)) (qN (.inl o0))] (ok1 (FK h0)) <|
 .ret (bn 1) (false)) fun o1 h0 =>
 .say [.pt_ 0 [0,3] 0 (qM (.inr (o1))) (qN (.inr (o1)))] (ok1 (FK h0)) <|
 .ret (bn 1) (true)
def Q18 (p_s:ByteArray) : Option (Bool) := Mo.den (afh p_s)
theorem tH (p_s:ByteArray) : FV (Q18 p_s) 150 [.lf (.str p_s)] (fun r=>.b_ r) := dw Tryz.func150 (by kernel_rfl) (fun _=>rfl) (by kernel_rfl)
def LK (p_p:List ByteArray) : Mo (Bool) :=
 .say [.num p_p.length] (ok1 (ln_ p_p lfS)) <|
 .ite (decide (((p_p.length:Int) : Int) < 1)) (fun c0 =>
 .say [.gd 4003 true] (ok1 c0) <|
 .rt [0,11] 0 (true)) fun c0 =>
 .say [.gd 4003 false,.num p_p.length] (okc c0 (ok1 (ln_ p_p lfS))) <|
 .rt [0,11] 0 (decide ((16:Int) < (p_p.length:Int)))
def BJ (p_p:List ByteArray) : (Int) → Mo ((Int) ⊕ (Unit ⊕ Unit)) := fun (v0) =>
 .say [.num p_p.length] (ok1 (ln_ p_p lfS)) <|
 .iB (decide ((v0:Int) < (p_p.length:Int))) (.ask (bT p_p v0) fun x0 h0 =>
 .say [.row (lfS x0)] (ok1 (aX lS_ h0)) <|
 .cl (tH x0) fun r0 _ =>
 .iB (!r0) (.rt [2] 0 (.inr (.inl ()))) <|
 .rt [0,3] 0 (.inl (IntKind.wrap .i64 (v0 + 1)))) <|
 .rt [] 0 (.inr (.inr (())))
def RD (p_p:List ByteArray) (v0:Int) : Option (Unit ⊕ Unit) := bJ (fun v_=>(BJ p_p v_).den) FU (v0)
def LM (p_p:List ByteArray) : (Int) → St := fun (v0)=>⟨[(0,.lf (.rows 1 (p_p.map lfS))),(3,.i_ v0)],[]⟩
def uT (r_:Unit ⊕ Unit) : Exit := match r_ with
 | .inl o_=>.ret
 | .inr (o_)=>.exit 0
def uU  (r_:Unit ⊕ Unit) : St := match r_ with
 | .inl o_=>⟨[(2,.b_ false)],[]⟩
 | .inr (o_)=>⟨[],[]⟩
theorem LQ {p_p:List ByteArray} {v0:Int} {r_:Unit ⊕ Unit} (h:RD p_p v0 = some r_) : gq Tryz.f106 0 [1,1,0,1,0] (uT r_) (uU r_) (LM p_p (v0)) :=
 dR dL (body := (Code.sub (bodyC Tryz.f106) [1,1,0,1,0,0])) (by kernel_rfl) (BJ p_p) (LM p_p) uT uU (fun r_=>by rcases r_ with _ | _ <;> rfl) (fun v_=>by kernel_rfl) h
def afi (p_p:List ByteArray) : Mo (Bool) :=
 .jp Tryz.f106 0 [1,0,0] 9 [0] 0 (.normal) (fun r_=>⟨[(0,.lf (.rows 1 (p_p.map lfS))),(11,.b_ r_)],[]⟩) ⟨[(0,.lf (.rows 1 (p_p.map lfS)))],[]⟩ (LK p_p).den (jW (by kernel_rfl)) fun r0 _ =>
 .iB (r0) (.ret (bn 1) (false)) <|
 .eY (RD p_p 0) (fun o0 h0 =>
 .say [.pt_ 0 [0,3] 0 (uT (.inl o0)) (uU (.inl o0))] (ok1 (LQ h0)) <|
 .ret (bn 1) (false)) fun o1 h0 =>
 .say [.pt_ 0 [0,3] 0 (uT (.inr (o1))) (uU (.inr (o1)))] (ok1 (LQ h0)) <|
 .ret (bn 1) (true)
def Q28 (p_p:List ByteArray) : Option (Bool) := Mo.den (afi p_p)
theorem BK (p_p:List ByteArray) : FV (Q28 p_p) 106 [.lf (.rows 1 (p_p.map lfS))] (fun r=>.b_ r) := dw Tryz.func106 (by kernel_rfl) (fun _=>rfl) (by kernel_rfl)
def Y0 (p_s:ByteArray) : Mo (Bool) :=
 .say [.at_ 4 2,.Yk 0 ([p_s].map lfS)] (ok1 (by simp [lfS] : [p_s].map lfS = [(lfS p_s)])) <|
 .cl (BK [p_s]) fun r0 _ =>
 .ret (bn 1) (r0)
def agG (p_s:ByteArray) : Option (Bool) := Mo.den (Y0 p_s)
theorem Au (p_s:ByteArray) : FV (agG p_s) 77 [.lf (.str p_s)] (fun r=>.b_ r) := dw Tryz.func77 (by kernel_rfl) (fun _=>rfl) (by kernel_rfl)
def Y1 (p_kind:Int) : Mo (Bool) :=
 .iG 4002 (decide ((2:Int) ≤ p_kind)) (.ret (bn 1) (decide ((p_kind:Int) ≤ 7))) <|
 .ret (bn 1) (false)
def aiM (p_kind:Int) : Option (Bool) := Mo.den (Y1 p_kind)
theorem adp (p_kind:Int) : FV (aiM p_kind) 153 [.i_ p_kind] (fun r=>.b_ r) := dw Tryz.func153 (by kernel_rfl) (fun _=>rfl) (by kernel_rfl)
def Y2 (p_kind:Int) : Mo (Bool) :=
 .cl (adp p_kind) fun r0 _ =>
 .iG 4002 (r0) (.ret (bn 1) (p_kind != 4)) <|
 .ret (bn 1) (false)
def aiN (p_kind:Int) : Option (Bool) := Mo.den (Y2 p_kind)
theorem UM (p_kind:Int) : FV (aiN p_kind) 109 [.i_ p_kind] (fun r=>.b_ r) := dw Tryz.func109 (by kernel_rfl) (fun _=>rfl) (by kernel_rfl)
def Y3 (p_kind:Int) : Mo (Bool) :=
 .iG 4002 (p_kind == 2) (.ret (bn 1) (true)) <|
 .ret (bn 1) (p_kind == 3)
def aiO (p_kind:Int) : Option (Bool) := Mo.den (Y3 p_kind)
theorem IX (p_kind:Int) : FV (aiO p_kind) 112 [.i_ p_kind] (fun r=>.b_ r) := dw Tryz.func112 (by kernel_rfl) (fun _=>rfl) (by kernel_rfl)
def LU (p_v:ah) : Mo (Bool) :=
 .iG 4003 (p_v.aT == 0) (.rt [1,2,10] 1 (p_v.jK == 0)) <|
 .rt [1,2,10] 1 (false)
def LV (p_v:ah) (r0:Bool) : Mo (Bool) :=
 .iG 4008 (r0) (.rt [1,2,15] 1 (decide ((p_v.fText:ByteArray) = (⟨#[]⟩ : ByteArray)))) <|
 .rt [1,2,15] 1 (false)
def FM (p_v:ah) (r0:Bool) : Mo (Bool) :=
 .ite (r0) (fun c0 =>
 .say [.gd 4013 true,.num p_v.bV.length] (okc c0 (ok1 (ln_ p_v.bV ah.lf))) <|
 .rt [1,2,21] 1 ((p_v.bV.length:Int) == 0)) fun c0 =>
 .say [.gd 4013 false] (ok1 c0) <|
 .rt [1,2,21] 1 (false)
def FN (p_v:ah) (r0:Bool) : Mo (Bool) :=
 .ite (r0) (fun c0 =>
 .say [.gd 4019 true,.num p_v.bU.length] (okc c0 (ok1 (ln_ p_v.bU aO.lf))) <|
 .ret ⟨[.kill 0],[2,27],[],1⟩ ((p_v.bU.length:Int) == 0)) fun c0 =>
 .say [.gd 4019 false] (ok1 c0) <|
 .ret ⟨[.kill 0],[2,27],[],1⟩ (false)
def FP (r0:Bool) : Mo (Unit) :=
 .rt [2] 1 ()
def afj (p_v:ah) : Mo (Bool) :=
 .sj Tryz.f115 0 [1,0] [0,1,2,3,4,5,6,7] 1 8 [1,2] 1 (fun r_=>⟨[(1,.ptr 0 0),(2,.b_ false),(10,.b_ r_)],[.box 29 (.dat (ah.lf1 p_v))]⟩) ⟨[(1,.ptr 0 0),(2,.b_ false)],[.box 29 (.dat (ah.lf1 p_v))]⟩ (LU p_v).den (sW (by kernel_rfl)) fun r0 _ =>
 .sj Tryz.f115 0 [1,0] [8,9,10,11,12] 1 5 [1,2,10] 1 (fun r_=>⟨[(1,.ptr 0 0),(2,.b_ false),(15,.b_ r_)],[.box 29 (.dat (ah.lf1 p_v))]⟩) ⟨[(1,.ptr 0 0),(2,.b_ false),(10,.b_ r0)],[.box 29 (.dat (ah.lf1 p_v))]⟩ (LV p_v r0).den (sW (by kernel_rfl)) fun r1 _ =>
 .sj Tryz.f115 0 [1,0] [13,14,15,16,17,18] 1 6 [1,2,15] 1 (fun r_=>⟨[(1,.ptr 0 0),(2,.b_ false),(21,.b_ r_)],[.box 29 (.dat (ah.lf1 p_v))]⟩) ⟨[(1,.ptr 0 0),(2,.b_ false),(15,.b_ r1)],[.box 29 (.dat (ah.lf1 p_v))]⟩ (FM p_v r1).den (sW (by kernel_rfl)) fun r2 _ =>
 .sj Tryz.f115 0 [1,0] [19,20,21,22,23,24] 1 6 [1,2,21] 1 (fun r_=>⟨[(2,.b_ false),(27,.b_ r_)],[.dead]⟩) ⟨[(1,.ptr 0 0),(2,.b_ false),(21,.b_ r2)],[.box 29 (.dat (ah.lf1 p_v))]⟩ (FN p_v r2).den (sW (by kernel_rfl)) fun r3 _ =>
 .sj Tryz.f115 0 [1,0] [25] 1 1 [2,27] 1 (fun r_=>⟨[(2,.b_ r3)],[.dead]⟩) ⟨[(2,.b_ false),(27,.b_ r3)],[.dead]⟩ (FP r3).den (sW (by kernel_rfl)) fun r4 _ =>
 .ret (bn 1) (r3)
def Q42 (p_v:ah) : Option (Bool) := Mo.den (afj p_v)
theorem tJ (p_v:ah) : FV (Q42 p_v) 115 [.dat (ah.lf1 p_v)] (fun r=>.b_ r) := dw Tryz.func115 (by kernel_rfl) (fun _=>rfl) (by kernel_rfl)
def LW (p_n:Int) : Mo (Int) :=
 .iB (decide ((p_n:Int) < 0)) (.rt [3] 0 (bI .xor .u64 (IntKind.max .u64) (yD .u64 (IntKind.wrap .u64 p_n) 1))) <|
 .rt [3] 0 (yD .u64 (IntKind.wrap .u64 p_n) 1)
def LX (v0:Int) (v1:ByteArray) (v2:Int) : Mo (Bool) :=
 .iG 14002 (decide ((v2:Int) < 10)) (.rt [3,4,5,18] 0 (decide ((128:Int) ≤ v0))) <|
 .rt [3,4,5,18] 0 (false)
def yP  : (Int × ByteArray × Int) → Mo ((Int × ByteArray × Int) ⊕ (Int × ByteArray)) := fun (v0,v1,v2) =>
 .jp Tryz.f166 0 [1,1,1,1,0,1,0,0,0,0] 19 [3,4,5] 0 (.normal) (fun r_=>⟨[(3,.lf (.int .u64 v0)),(4,.lf (.str v1)),(5,.i_ v2),(18,.b_ r_)],[]⟩) ⟨[(3,.lf (.int .u64 v0)),(4,.lf (.str v1)),(5,.i_ v2)],[]⟩ (LX v0 v1 v2).den (jW (by kernel_rfl)) fun r0 _ =>
 .ite (r0) (fun c0 =>
 .say [.br true,.nums [bI .or .u8 (IntKind.wrap .u8 (Int.tmod v0 128)) 128]] (okc c0 (okc (by decide:(128:Int) ≠ 0) (ok1 (by simp [lfI,lfK] : [(lfK .u8 (bI .or .u8 (IntKind.wrap .u8 (Int.tmod v0 128)) 128))] = [bI .or .u8 (IntKind.wrap .u8 (Int.tmod v0 128)) 128].map fun n=>[Lf.int .u8 n])))) <|
 .grd (v1.size + (strOfNums [bI .or .u8 (IntKind.wrap .u8 (Int.tmod v0 128)) 128]).size ≤ 9223372036854775807) fun h0 =>
 .say [] (okc h0 (ok1 (by decide:(128:Int) ≠ 0))) <|
 .rt [3,4,5] 0 (.inl (IntKind.wrap .u64 (Int.tdiv v0 128),v1 ++ (strOfNums [bI .or .u8 (IntKind.wrap .u8 (Int.tmod v0 128)) 128]),IntKind.wrap .i64 (v2 + 1)))) fun c0 =>
 .say [.br false] (ok1 c0) <|
 .rt [3,4] 0 (.inr (v0,v1))
def IY (v0:Int) (v1:ByteArray) (v2:Int) : Option ((Int × ByteArray)) := bJ (fun v_=>(yP  v_).den) FU (v0,v1,v2)
def FQ  : (Int × ByteArray × Int) → St := fun (v0,v1,v2)=>⟨[(3,.lf (.int .u64 v0)),(4,.lf (.str v1)),(5,.i_ v2)],[]⟩
def yQ  (r_:(Int × ByteArray)) : St := ⟨[(3,.lf (.int .u64 r_.1)),(4,.lf (.str r_.2))],[]⟩
theorem V7 {v0:Int} {v1:ByteArray} {v2:Int} {r_:(Int × ByteArray)} (h:IY v0 v1 v2 = some r_) : gq Tryz.f166 0 [1,1,1,1,0,1,0] (.exit 0) (yQ r_) (FQ  (v0,v1,v2)) :=
 dR dL (body := (Code.sub (bodyC Tryz.f166) [1,1,1,1,0,1,0,0])) (by kernel_rfl) (yP ) (FQ ) (fun _=>.exit 0) yQ (fun r_=>rfl) (fun v_=>by kernel_rfl) h
def afk (p_n:Int) : Mo (ByteArray) :=
 .say [] (ok1 (by decide:(0:Int) ≤ 1)) <|
 .jp Tryz.f166 0 [1,1,0,1] 1 [3,10] 0 (.normal) (fun r_=>⟨[(3,.lf (.int .u64 r_))],[]⟩) ⟨[(3,.lf (.int .u64 (yD .u64 (IntKind.wrap .u64 p_n) 1))),(10,.lf (.bool (decide ((p_n:Int) < 0))))],[]⟩ (LW p_n).den (jW (by kernel_rfl)) fun r0 _ =>
 .ask (IY r0 ⟨#[]⟩ 0) fun r1 h0 =>
 .say [.pt_ 0 [3,4,5] 0 (.exit 0) (yQ r1),.nums [IntKind.wrap .u8 r1.1]] (okc (V7 h0) (ok1 (by simp [lfI,lfK] : [(lfK .u8 (IntKind.wrap .u8 r1.1))] = [IntKind.wrap .u8 r1.1].map fun n=>[Lf.int .u8 n]))) <|
 .grd (r1.2.size + (strOfNums [IntKind.wrap .u8 r1.1]).size ≤ 9223372036854775807) fun h1 =>
 .say [] (ok1 h1) <|
 .ret (bn 1) (r1.2 ++ (strOfNums [IntKind.wrap .u8 r1.1]))
def Q36 (p_n:Int) : Option (ByteArray) := Mo.den (afk p_n)
theorem yR (p_n:Int) : FV (Q36 p_n) 166 [.i_ p_n] (fun r=>.lf (.str r)) := dw Tryz.func166 (by kernel_rfl) (fun _=>rfl) (by kernel_rfl)
def afl (p_n:Int) (p_b0:ay) : Mo (ay) :=
 .say [.order [(true,0),(true,1),(true,2),(true,3),(true,4),(false,5),(true,6),(true,7),(true,8),(false,9)] (some 9) []] ok0 <|
 .cl (yR p_n) fun r0 _ =>
 .grd (p_b0.fS.size + r0.size ≤ 9223372036854775807) fun h0 =>
 .say [] (ok1 h0) <|
 .rt [] 1 (ay.mk (p_b0.fS ++ r0) p_b0.zW p_b0.oZ)
def Q17 (p_n:Int) (p_b0:ay) : Option (ay) := Mo.den (afl p_n p_b0)
theorem fB (p_n:Int) (p_b0:ay) : FH (Q17 p_n p_b0) 123 [.ptr 0 0,.i_ p_n] [.box 124 (.dat (ay.lf1 p_b0))] (fun _=>.tup []) (fun r=>[.box 124 (.dat (ay.lf1 r))]) := gV Tryz.func123 (by kernel_rfl) (fun _=>rfl) (by kernel_rfl)
def afm (p_s:ByteArray) (p_b0:ay) : Mo (ay) :=
 .cH [0] (fB (p_s.size:Int) p_b0) fun r0 _ =>
 .grd (r0.fS.size + p_s.size ≤ 9223372036854775807) fun h0 =>
 .say [] (ok1 h0) <|
 .rt [] 1 (ay.mk (r0.fS ++ p_s) r0.zW r0.oZ)
def Q64 (p_s:ByteArray) (p_b0:ay) : Option (ay) := Mo.den (afm p_s p_b0)
theorem nR (p_s:ByteArray) (p_b0:ay) : FH (Q64 p_s p_b0) 124 [.ptr 0 0,.lf (.str p_s)] [.box 124 (.dat (ay.lf1 p_b0))] (fun _=>.tup []) (fun r=>[.box 124 (.dat (ay.lf1 r))]) := gV Tryz.func124 (by kernel_rfl) (fun _=>rfl) (by kernel_rfl)
def BL (p_l:List ByteArray) : (Int × ay) → Mo ((Int × ay) ⊕ (ay)) := fun (v0,s957) =>
 .say [.num p_l.length] (ok1 (ln_ p_l lfS)) <|
 .iB (decide ((v0:Int) < (p_l.length:Int))) (.ask (bT p_l v0) fun x0 h0 =>
 .say [.row (lfS x0)] (ok1 (aX lS_ h0)) <|
 .cH [0] (nR x0 s957) fun r0 _ =>
 .rt [0,1,4] 1 (.inl (IntKind.wrap .i64 (v0 + 1),r0))) <|
 .rt [] 1 (.inr (s957))
def RF (p_l:List ByteArray) (v0:Int) (s957:ay) : Option (ay) := bJ (fun v_=>(BL p_l v_).den) FU (v0,s957)
def afn (p_l:List ByteArray) (p_b0:ay) : Mo (ay) :=
 .say [.num p_l.length] (ok1 (ln_ p_l lfS)) <|
 .cH [0] (fB (p_l.length:Int) p_b0) fun r0 _ =>
 .lp Tryz.f216 1 [1,1,0] 0 [0,1,4] 1 (.exit 0) (fun r_=>⟨[],[.box 124 (.dat (ay.lf1 r_))]⟩) (RF p_l 0 r0) (lW (fun (v0,s957)=>⟨[(0,.ptr 0 0),(1,.lf (.rows 1 (p_l.map lfS))),(4,.i_ v0)],[.box 124 (.dat (ay.lf1 s957))]⟩) (by kernel_rfl) rfl fun v_=>by kernel_rfl) fun r1 _ =>
 .rt [] 1 (r1)
def Q53 (p_l:List ByteArray) (p_b0:ay) : Option (ay) := Mo.den (afn p_l p_b0)
theorem BM (p_l:List ByteArray) (p_b0:ay) : FH (Q53 p_l p_b0) 216 [.ptr 0 0,.lf (.rows 1 (p_l.map lfS))] [.box 124 (.dat (ay.lf1 p_b0))] (fun _=>.tup []) (fun r=>[.box 124 (.dat (ay.lf1 r))]) := gV Tryz.func216 (by kernel_rfl) (fun _=>rfl) (by kernel_rfl)
def afo (p_b:Bool) (p_b0:ay) : Mo (ay) :=
 .iB (p_b) (.grd (p_b0.fS.size + (⟨#[1]⟩ : ByteArray).size ≤ 9223372036854775807) fun h0 =>
 .say [] (ok1 h0) <|
 .rt [] 1 (ay.mk (p_b0.fS ++ ⟨#[1]⟩) p_b0.zW p_b0.oZ)) <|
 .grd (p_b0.fS.size + (⟨#[0]⟩ : ByteArray).size ≤ 9223372036854775807) fun h1 =>
 .say [] (ok1 h1) <|
 .rt [] 1 (ay.mk (p_b0.fS ++ ⟨#[0]⟩) p_b0.zW p_b0.oZ)
def Q68 (p_b:Bool) (p_b0:ay) : Option (ay) := Mo.den (afo p_b p_b0)
theorem oJ (p_b:Bool) (p_b0:ay) : FH (Q68 p_b p_b0) 170 [.ptr 0 0,.b_ p_b] [.box 124 (.dat (ay.lf1 p_b0))] (fun _=>.tup []) (fun r=>[.box 124 (.dat (ay.lf1 r))]) := gV Tryz.func170 (by kernel_rfl) (fun _=>rfl) (by kernel_rfl)
def uV (p_v:ah) : (Int × (List ah)) → Mo ((Int × (List ah)) ⊕ ((List ah))) := fun (v0,l0) =>
 .say [.num p_v.bV.length] (ok1 (ln_ p_v.bV ah.lf)) <|
 .iB (decide ((v0:Int) < (p_v.bV.length:Int))) (.ask (bT p_v.bV v0) fun x0 h0 =>
 .say [.row (ah.lf1 x0),.rows ((l0 ++ [x0]).map ah.lf)] (okc (aX ah.aU h0) (ok1 (ap_ ah.aU l0 x0))) <|
 .grd ((l0.length + [x0].length) * 80 ≤ 140737488355328) fun h1 =>
 .say [] (ok1 (cp_ ah.lf h1)) <|
 .ret ⟨[],[1,3,4],[(3,1)],2⟩ (.inl (IntKind.wrap .i64 (v0 + 1),l0 ++ [x0]))) <|
 .rt [1,3] 2 (.inr (l0))
def IZ (p_v:ah) (v0:Int) (l0:List ah) : Option (((List ah))) := bJ (fun v_=>(uV p_v v_).den) FU (v0,l0)
def LY (p_v:ah) : (Int × (List ah)) → St := fun (v0,l0)=>⟨[(1,.ptr 0 0),(3,.own 1),(4,.i_ v0)],[.box 29 (.dat (ah.lf1 p_v)),.row 29 5 (l0.map ah.lf)]⟩
def uX (p_v:ah) (r_:((List ah))) : St := ⟨[(1,.ptr 0 0),(3,.own 1)],[.box 29 (.dat (ah.lf1 p_v)),.row 29 5 (r_.map ah.lf)]⟩
theorem Y4 {p_v:ah} {v0:Int} {l0:List ah} {r_:((List ah))} (h:IZ p_v v0 l0 = some r_) : gq Tryz.f288 0 [1,1,0,1,0,1,0] (.exit 0) (uX p_v r_) (LY p_v (v0,l0)) :=
 dR dL (body := (Code.sub (bodyC Tryz.f288) [1,1,0,1,0,1,0,0])) (by kernel_rfl) (uV p_v) (LY p_v) (fun _=>.exit 0) (uX p_v) (fun r_=>rfl) (fun v_=>by kernel_rfl) h
def BN (p_v:ah) : Mo (((List ah))) :=
 .ite (p_v.aT == 6) (fun c0 =>
 .say [.br true] (okc c0 (ok1 (by simp [ah.aU] : (([] : List ah).map ah.lf) = []))) <|
 .ask (IZ p_v 0 ([] : List ah)) fun r0 h0 =>
 .say [.part [.kF 1 (([] : List ah).map ah.lf)] 0 [1,3,4] 2 (.exit 0) (uX p_v r0).T (uX p_v r0).H] (ok1 (Y4 h0)) <|
 .rt [1,3] 2 (r0)) fun c0 =>
 .say [.br false] (okc c0 (ok1 (by simp [ah.aU] : (([] : List ah).map ah.lf) = []))) <|
 .ret ⟨[.kF 1 (([] : List ah).map ah.lf)],[1,3],[],2⟩ (([] : List ah))
def RG (p_v:ah) : Option (((List ah))) := Mo.den (BN p_v)
def uY (p_v:ah) (r_:((List ah))) : St := ⟨[(1,.ptr 0 0),(3,.own 1)],[.box 29 (.dat (ah.lf1 p_v)),.row 29 5 (r_.map ah.lf)]⟩
theorem Y5 {p_v:ah} {r_:((List ah))} (h:RG p_v = some r_) : gq Tryz.f288 0 [1,1,0,1] (.normal) (uY p_v r_) ⟨[(1,.ptr 0 0),(3,.own 1),(8,.lf (.bool (p_v.aT == 6)))],[.box 29 (.dat (ah.lf1 p_v)),.row 29 5 []]⟩ :=
 jq dL (BN p_v) (fun _=>.normal) (uY p_v) (by kernel_rfl) h
def yS (p_v:ah) : (Int × (List ah)) → Mo ((Int × (List ah)) ⊕ ((List ah))) := fun (v0,l0) =>
 .say [.num p_v.bU.length] (ok1 (ln_ p_v.bU aO.lf)) <|
 .iB (decide ((v0:Int) < (p_v.bU.length:Int))) (.ask (bT p_v.bU v0) fun x0 h0 =>
 .say [.row (aO.lf1 x0),.rows ((l0 ++ [x0.fValue]).map ah.lf)] (okc (aX aO.aU h0) (ok1 (ap_ ah.aU l0 x0.fValue))) <|
 .grd ((l0.length + [x0.fValue].length) * 80 ≤ 140737488355328) fun h1 =>
 .say [] (ok1 (cp_ ah.lf h1)) <|
 .ret ⟨[],[1,3,5],[(3,1)],2⟩ (.inl (IntKind.wrap .i64 (v0 + 1),l0 ++ [x0.fValue]))) <|
 .ret ⟨[.kill 0],[3],[],2⟩ (.inr (l0))
def I4 (p_v:ah) (v0:Int) (l0:List ah) : Option (((List ah))) := bJ (fun v_=>(yS p_v v_).den) FU (v0,l0)
def yT (p_v:ah) (r0:((List ah))) : Mo (((List ah))) :=
 .iB (p_v.aT == 5) (.lp Tryz.f288 0 [1,1,1,0,1,0,1,0] 0 [1,3,5] 2 (.exit 2) (fun r_=>⟨[(3,.own 1)],[.dead,.row 29 5 (r_.map ah.lf)]⟩) (I4 p_v 0 r0) (lW (fun (v0,l0)=>⟨[(1,.ptr 0 0),(3,.own 1),(5,.i_ v0)],[.box 29 (.dat (ah.lf1 p_v)),.row 29 5 (l0.map ah.lf)]⟩) (by kernel_rfl) rfl fun v_=>by kernel_rfl) fun r1 _ =>
 .rt [3] 2 (r1)) <|
 .ret ⟨[.kill 0],[3],[],2⟩ (r0)
def I5 (p_v:ah) (r0:((List ah))) : Option (((List ah))) := Mo.den (yT p_v r0)
def yU  (r_:((List ah))) : St := ⟨[(3,.own 1)],[.dead,.row 29 5 (r_.map ah.lf)]⟩
theorem V8 {p_v:ah} {r0:((List ah))} {r_:((List ah))} (h:I5 p_v r0 = some r_) : gq Tryz.f288 0 [1,1,1,0,1] (.normal) (yU r_) ⟨[(1,.ptr 0 0),(3,.own 1),(26,.lf (.bool (p_v.aT == 5)))],[.box 29 (.dat (ah.lf1 p_v)),.row 29 5 (r0.map ah.lf)]⟩ :=
 jq dL (yT p_v r0) (fun _=>.normal) yU (by kernel_rfl) h
def afp (p_v:ah) : Mo (List ah) :=
 .ask (RG p_v) fun r0 h0 =>
 .say [.part [.Ep 3 29 5] 1 [1,3,8] 2 (.normal) (uY p_v r0).T (uY p_v r0).H] (ok1 (Y5 h0)) <|
 .ask (I5 p_v r0) fun r1 h1 =>
 .say [.pt_ 1 [1,3,26] 2 (.normal) (yU r1),.at_ 0 0,.frz 1] (ok1 (V8 h1)) <|
 .ret (bn 1) (r1)
def Q12 (p_v:ah) : Option (List ah) := Mo.den (afp p_v)
theorem Y6 (p_v:ah) : FV (Q12 p_v) 288 [.dat (ah.lf1 p_v)] (fun r=>.lf (.rows 5 (r.map ah.lf))) := dw Tryz.func288 (by kernel_rfl) (fun _=>rfl) (by kernel_rfl)
structure RB3 where
 m1:(p_v:ah) → (p_most:Int) → Option (Int)
 ok1:∀ p_v p_most,FV (m1 p_v p_most) 237 [.dat (ah.lf1 p_v),.i_ p_most] (fun r=>.i_ r)
def BO (R_:RB3) (p_most:Int) (r0:List ah) : Mo (Bool) :=
 .ite (decide ((p_most:Int) < 2)) (fun c0 =>
 .say [.gd 6002 true] (ok1 c0) <|
 .rt [1,5,16] 1 (true)) fun c0 =>
 .say [.gd 6002 false,.num r0.length] (okc c0 (ok1 (ln_ r0 ah.lf))) <|
 .rt [1,5,16] 1 ((r0.length:Int) == 0)
def RH (R_:RB3) (p_most:Int) (r0:List ah) : Option (Bool) := Mo.den (BO R_ p_most r0)
def uZ (p_most:Int) (r0:List ah) (r_:Bool) : St := ⟨[(1,.i_ p_most),(5,.lf (.rows 5 (r0.map ah.lf))),(16,.b_ r_)],[.dead]⟩
theorem Y7 {R_:RB3} {p_most:Int} {r0:List ah} {r_:Bool} (h:RH R_ p_most r0 = some r_) : gq Tryz.f237 0 [1,1,0,0] (.normal) (uZ p_most r0 r_) ⟨[(1,.i_ p_most),(5,.lf (.rows 5 (r0.map ah.lf)))],[.dead]⟩ :=
 jq dL (BO R_ p_most r0) (fun _=>.normal) (uZ p_most r0) (by kernel_rfl) h
def BP (R_:RB3) (p_most:Int) (r0:List ah) : (Int × Int) → Mo ((Int × Int) ⊕ (Int)) := fun (v0,v1) =>
 .say [.num r0.length] (ok1 (ln_ r0 ah.lf)) <|
 .iB (decide ((v1:Int) < (r0.length:Int))) (.ask (bT r0 v1) fun x0 h0 =>
 .say [.row (ah.lf1 x0)] (ok1 (aX ah.aU h0)) <|
 .cl (R_.ok1 x0 (IntKind.wrap .i64 (p_most - 1))) fun r1 _ =>
 .rt [1,5,6,7] 1 (.inl ((if r1 > v0 then r1 else v0),IntKind.wrap .i64 (v1 + 1)))) <|
 .rt [6] 1 (.inr (v0))
def agH (R_:RB3) (p_most:Int) (r0:List ah) (v0:Int) (v1:Int) : Option (Int) := bJ (fun v_=>(BP R_ p_most r0 v_).den) FU (v0,v1)
def Y8 (R_:RB3) (p_v:ah) (p_most:Int) : Mo (Int) :=
 .cl (Y6 p_v) fun r0 _ =>
 .ask (RH R_ p_most r0) fun r1 h0 =>
 .say [.part [.kill 0] 11 [1,5] 1 (.normal) (uZ p_most r0 r1).T (uZ p_most r0 r1).H] (ok1 (Y7 h0)) <|
 .iB (r1) (.ret (bn 1) (1)) <|
 .lp Tryz.f237 0 [1,1,1,1,0,1,0] 0 [1,5,6,7] 1 (.exit 0) (fun r_=>⟨[(6,.i_ r_)],[.dead]⟩) (agH R_ p_most r0 0 0) (lW (fun (v0,v1)=>⟨[(1,.i_ p_most),(5,.lf (.rows 5 (r0.map ah.lf))),(6,.i_ v0),(7,.i_ v1)],[.dead]⟩) (by kernel_rfl) rfl fun v_=>by kernel_rfl) fun r2 _ =>
 .ret (bn 1) (IntKind.wrap .i64 (r2 + 1))
theorem adq (R_:RB3) (p_v:ah) (p_most:Int) : FV (Mo.den (Y8 R_ p_v p_most)) 237 [.dat (ah.lf1 p_v),.i_ p_most] (fun r=>.i_ r) := dw Tryz.func237 (by kernel_rfl) (fun _=>rfl) (by kernel_rfl)
def FT:Nat → RB3
 | 0=>{ m1 := fun p_v p_most=>none,ok1 := fun _ _ _ h=>(by cases h) }
 | n_ + 1=>{ m1 := fun p_v p_most=>Mo.den (Y8 (FT n_) p_v p_most),ok1 := adq (FT n_) }
def Q40 (p_v:ah) (p_most:Int) : Option (Int) := (FT FU).m1 p_v p_most
theorem agI (p_v:ah) (p_most:Int) : FV (Q40 p_v p_most) 237 [.dat (ah.lf1 p_v),.i_ p_most] (fun r=>.i_ r) := (FT FU).ok1 p_v p_most
def Y9 (p_v:ah) : Mo (Int) :=
 .cl (agI p_v 17) fun r0 _ =>
 .ret (bn 1) (r0)
def agJ (p_v:ah) : Option (Int) := Mo.den (Y9 p_v)
theorem adr (p_v:ah) : FV (agJ p_v) 196 [.dat (ah.lf1 p_v)] (fun r=>.i_ r) := dw Tryz.func196 (by kernel_rfl) (fun _=>rfl) (by kernel_rfl)
structure RB4 where
 m1:(p_v:ah) → (p_most:Int) → Option (Int)
 ok1:∀ p_v p_most,FV (m1 p_v p_most) 238 [.dat (ah.lf1 p_v),.i_ p_most] (fun r=>.i_ r)
def BQ (R_:RB4) (p_most:Int) (r0:List ah) (v0:Int) (v1:Int) : Mo (Bool) :=
 .say [.num r0.length] (ok1 (ln_ r0 ah.lf)) <|
 .iG 10004 (decide ((v1:Int) < (r0.length:Int))) (.rt [1,5,6,7,18] 1 (decide ((v0:Int) < p_most))) <|
 .rt [1,5,6,7,18] 1 (false)
def vg (R_:RB4) (p_most:Int) (r0:List ah) : (Int × Int) → Mo ((Int × Int) ⊕ (Int)) := fun (v0,v1) =>
 .jp Tryz.f238 0 [1,1,1,0,1,0,0,0,0] 15 [1,5,6,7] 1 (.normal) (fun r_=>⟨[(1,.i_ p_most),(5,.i_ v0),(6,.lf (.rows 5 (r0.map ah.lf))),(7,.i_ v1),(18,.b_ r_)],[.dead]⟩) ⟨[(1,.i_ p_most),(5,.i_ v0),(6,.lf (.rows 5 (r0.map ah.lf))),(7,.i_ v1)],[.dead]⟩ (BQ R_ p_most r0 v0 v1).den (jW (by kernel_rfl)) fun r1 _ =>
 .iB (r1) (.ask (bT r0 v1) fun x0 h0 =>
 .say [.row (ah.lf1 x0)] (ok1 (aX ah.aU h0)) <|
 .cl (R_.ok1 x0 (IntKind.wrap .i64 (p_most - v0))) fun r2 _ =>
 .rt [1,5,6,7] 1 (.inl (IntKind.wrap .i64 (v0 + r2),IntKind.wrap .i64 (v1 + 1)))) <|
 .rt [5] 1 (.inr (v0))
def Za (R_:RB4) (p_most:Int) (r0:List ah) (v0:Int) (v1:Int) : Option (Int) := bJ (fun v_=>(vg R_ p_most r0 v_).den) FU (v0,v1)
def LZ (R_:RB4) (p_most:Int) (r0:List ah) : (Int × Int) → St := fun (v0,v1)=>⟨[(1,.i_ p_most),(5,.i_ v0),(6,.lf (.rows 5 (r0.map ah.lf))),(7,.i_ v1)],[.dead]⟩
def vk  (r_:Int) : St := ⟨[(5,.i_ r_)],[.dead]⟩
theorem Zb {R_:RB4} {p_most:Int} {r0:List ah} {v0:Int} {v1:Int} {r_:Int} (h:Za R_ p_most r0 v0 v1 = some r_) : gq Tryz.f238 0 [1,1,1,0,1,0] (.exit 0) (vk r_) (LZ R_ p_most r0 (v0,v1)) :=
 dR dL (body := (Code.sub (bodyC Tryz.f238) [1,1,1,0,1,0,0])) (by kernel_rfl) (vg R_ p_most r0) (LZ R_ p_most r0) (fun _=>.exit 0) vk (fun r_=>rfl) (fun v_=>by kernel_rfl) h
def Zc (R_:RB4) (p_v:ah) (p_most:Int) : Mo (Int) :=
 .cl (Y6 p_v) fun r0 _ =>
 .ask (Za R_ p_most r0 1 0) fun r1 h0 =>
 .say [.part [.kill 0] 0 [1,5,6,7] 1 (.exit 0) (vk r1).T (vk r1).H] (ok1 (Zb h0)) <|
 .ret (bn 1) (r1)
theorem ads (R_:RB4) (p_v:ah) (p_most:Int) : FV (Mo.den (Zc R_ p_v p_most)) 238 [.dat (ah.lf1 p_v),.i_ p_most] (fun r=>.i_ r) := dw Tryz.func238 (by kernel_rfl) (fun _=>rfl) (by kernel_rfl)
def FW:Nat → RB4
 | 0=>{ m1 := fun p_v p_most=>none,ok1 := fun _ _ _ h=>(by cases h) }
 | n_ + 1=>{ m1 := fun p_v p_most=>Mo.den (Zc (FW n_) p_v p_most),ok1 := ads (FW n_) }
def Q41 (p_v:ah) (p_most:Int) : Option (Int) := (FW FU).m1 p_v p_most
theorem agK (p_v:ah) (p_most:Int) : FV (Q41 p_v p_most) 238 [.dat (ah.lf1 p_v),.i_ p_most] (fun r=>.i_ r) := (FW FU).ok1 p_v p_most
def Zd (p_v:ah) : Mo (Int) :=
 .cl (agK p_v 1025) fun r0 _ =>
 .ret (bn 1) (r0)
def agL (p_v:ah) : Option (Int) := Mo.den (Zd p_v)
theorem adt (p_v:ah) : FV (agL p_v) 197 [.dat (ah.lf1 p_v)] (fun r=>.i_ r) := dw Tryz.func197 (by kernel_rfl) (fun _=>rfl) (by kernel_rfl)
def L6 (p_i:Int) (p_n:Int) (p_s:ByteArray) (v0:Int) : Mo (Bool) :=
 .ask (lH p_s (IntKind.wrap .i64 (p_i + v0))) fun b0 h0 =>
 .say [.byt b0] (ok1 (iF h0)) <|
 .iG 14006 (decide (((b0.toNat:Int) : Int) < 128)) (.rt [0,1,2,7,32] 0 (true)) <|
 .ask (lH p_s (IntKind.wrap .i64 (p_i + v0))) fun b1 h1 =>
 .say [.byt b1] (ok1 (iF h1)) <|
 .rt [0,1,2,7,32] 0 (decide ((191:Int) < (b1.toNat:Int)))
def vw (p_i:Int) (p_n:Int) (p_s:ByteArray) : (Int) → Mo ((Int) ⊕ (Unit ⊕ Unit)) := fun (v0) =>
 .iB (decide ((v0:Int) < p_n)) (.jp Tryz.f289 0 [1,1,0,1,0,0,1,0,0,0] 19 [0,1,2,7] 0 (.normal) (fun r_=>⟨[(0,.lf (.str p_s)),(1,.i_ p_i),(2,.i_ p_n),(7,.i_ v0),(32,.b_ r_)],[]⟩) ⟨[(0,.lf (.str p_s)),(1,.i_ p_i),(2,.i_ p_n),(7,.i_ v0)],[]⟩ (L6 p_i p_n p_s v0).den (jW (by kernel_rfl)) fun r0 _ =>
 .iB (r0) (.rt [6] 0 (.inr (.inl ()))) <|
 .rt [0,1,2,7] 0 (.inl (IntKind.wrap .i64 (v0 + 1)))) <|
 .rt [] 0 (.inr (.inr (())))
def Ze (p_i:Int) (p_n:Int) (p_s:ByteArray) (v0:Int) : Option (Unit ⊕ Unit) := bJ (fun v_=>(vw p_i p_n p_s v_).den) FU (v0)
def L8 (p_i:Int) (p_n:Int) (p_s:ByteArray) : (Int) → St := fun (v0)=>⟨[(0,.lf (.str p_s)),(1,.i_ p_i),(2,.i_ p_n),(7,.i_ v0)],[]⟩
def vC (r_:Unit ⊕ Unit) : Exit := match r_ with
 | .inl o_=>.ret
 | .inr (o_)=>.exit 0
def vF  (r_:Unit ⊕ Unit) : St := match r_ with
 | .inl o_=>⟨[(6,.b_ false)],[]⟩
 | .inr (o_)=>⟨[],[]⟩
theorem L9 {p_i:Int} {p_n:Int} {p_s:ByteArray} {v0:Int} {r_:Unit ⊕ Unit} (h:Ze p_i p_n p_s v0 = some r_) : gq Tryz.f289 0 [1,1,0,1,0] (vC r_) (vF r_) (L8 p_i p_n p_s (v0)) :=
 dR dL (body := (Code.sub (bodyC Tryz.f289) [1,1,0,1,0,0])) (by kernel_rfl) (vw p_i p_n p_s) (L8 p_i p_n p_s) vC vF (fun r_=>by rcases r_ with _ | _ <;> rfl) (fun v_=>by kernel_rfl) h
def afq (p_s:ByteArray) (p_i:Int) (p_n:Int) : Mo (Bool) :=
 .iB (decide (((p_s.size:Int) : Int) < (IntKind.wrap .i64 (p_i + p_n)))) (.ret (bn 1) (false)) <|
 .eY (Ze p_i p_n p_s 0) (fun o0 h0 =>
 .say [.pt_ 0 [0,1,2,7] 0 (vC (.inl o0)) (vF (.inl o0))] (ok1 (L9 h0)) <|
 .ret (bn 1) (false)) fun o1 h0 =>
 .say [.pt_ 0 [0,1,2,7] 0 (vC (.inr (o1))) (vF (.inr (o1)))] (ok1 (L9 h0)) <|
 .ret (bn 1) (true)
def Q39 (p_s:ByteArray) (p_i:Int) (p_n:Int) : Option (Bool) := Mo.den (afq p_s p_i p_n)
theorem agM (p_s:ByteArray) (p_i:Int) (p_n:Int) : FV (Q39 p_s p_i p_n) 289 [.lf (.str p_s),.i_ p_i,.i_ p_n] (fun r=>.b_ r) := dw Tryz.func289 (by kernel_rfl) (fun _=>rfl) (by kernel_rfl)
def I7 (b0:UInt8) (p_s:ByteArray) (v0:Int) : Mo (Bool) :=
 .iG 16002 (decide ((194:Int) ≤ (b0.toNat:Int))) (.rt [0,3,4,16] 0 (decide (((b0.toNat:Int) : Int) ≤ 223))) <|
 .rt [0,3,4,16] 0 (false)
def I8 (b0:UInt8) (p_s:ByteArray) (v0:Int) : Mo (Bool) :=
 .iG 20002 (decide ((224:Int) ≤ (b0.toNat:Int))) (.rt [0,3,4,23] 0 (decide (((b0.toNat:Int) : Int) ≤ 239))) <|
 .rt [0,3,4,23] 0 (false)
def BR (b0:UInt8) (p_s:ByteArray) (v0:Int) : Mo (Bool) :=
 .iG 24002 (decide ((240:Int) ≤ (b0.toNat:Int))) (.rt [0,3,4,30] 0 (decide (((b0.toNat:Int) : Int) ≤ 244))) <|
 .rt [0,3,4,30] 0 (false)
def vG (b0:UInt8) (p_s:ByteArray) (v0:Int) : Mo ((Int) ⊕ Unit) :=
 .iB (decide (((b0.toNat:Int) : Int) < 128)) (.rt [0,3,4,5] 0 (.inl (0))) <|
 .jp Tryz.f239 0 [1,0,1,0,0,1,0,1,1,0,0,1,1,0] 21 [0,3,4] 0 (.normal) (fun r_=>⟨[(0,.lf (.str p_s)),(3,.i_ v0),(4,.lf (.int .u8 (b0.toNat:Int))),(16,.b_ r_)],[]⟩) ⟨[(0,.lf (.str p_s)),(3,.i_ v0),(4,.lf (.int .u8 (b0.toNat:Int)))],[]⟩ (I7 b0 p_s v0).den (jW (by kernel_rfl)) fun r0 _ =>
 .iB (r0) (.rt [0,3,4,5] 0 (.inl (1))) <|
 .jp Tryz.f239 0 [1,0,1,0,0,1,0,1,1,0,0,1,1,1,1,0] 25 [0,3,4] 0 (.normal) (fun r_=>⟨[(0,.lf (.str p_s)),(3,.i_ v0),(4,.lf (.int .u8 (b0.toNat:Int))),(23,.b_ r_)],[]⟩) ⟨[(0,.lf (.str p_s)),(3,.i_ v0),(4,.lf (.int .u8 (b0.toNat:Int)))],[]⟩ (I8 b0 p_s v0).den (jW (by kernel_rfl)) fun r1 _ =>
 .iB (r1) (.rt [0,3,4,5] 0 (.inl (2))) <|
 .jp Tryz.f239 0 [1,0,1,0,0,1,0,1,1,0,0,1,1,1,1,1,1,0] 29 [0,3,4] 0 (.normal) (fun r_=>⟨[(0,.lf (.str p_s)),(3,.i_ v0),(4,.lf (.int .u8 (b0.toNat:Int))),(30,.b_ r_)],[]⟩) ⟨[(0,.lf (.str p_s)),(3,.i_ v0),(4,.lf (.int .u8 (b0.toNat:Int)))],[]⟩ (BR b0 p_s v0).den (jW (by kernel_rfl)) fun r2 _ =>
 .iB (r2) (.rt [0,3,4,5] 0 (.inl (3))) <|
 .rt [2] 0 (.inr (()))
def I9 (b0:UInt8) (p_s:ByteArray) (v0:Int) : Option ((Int) ⊕ Unit) := Mo.den (vG b0 p_s v0)
def vH (r_:(Int) ⊕ Unit) : Exit := match r_ with
 | .inl o_=>.normal
 | .inr (o_)=>.ret
def vI (b0:UInt8) (p_s:ByteArray) (v0:Int) (r_:(Int) ⊕ Unit) : St := match r_ with
 | .inl o_=>⟨[(0,.lf (.str p_s)),(3,.i_ v0),(4,.lf (.int .u8 (b0.toNat:Int))),(5,.i_ o_)],[]⟩
 | .inr (o_)=>⟨[(2,.b_ false)],[]⟩
theorem Mc {b0:UInt8} {p_s:ByteArray} {v0:Int} {r_:(Int) ⊕ Unit} (h:I9 b0 p_s v0 = some r_) : gq Tryz.f239 0 [1,0,1,0,0,1,0,1,1,0] (vH r_) (vI b0 p_s v0 r_) ⟨[(0,.lf (.str p_s)),(3,.i_ v0),(4,.lf (.int .u8 (b0.toNat:Int))),(5,.i_ 0)],[]⟩ :=
 jq dL (vG b0 p_s v0) vH (vI b0 p_s v0) (by kernel_rfl) h
def BU (b0:UInt8) (o0:Int) (p_s:ByteArray) (v0:Int) : Mo (Bool) :=
 .iG 32002 ((b0.toNat:Int) == 224) (.ask (lH p_s (IntKind.wrap .i64 (v0 + 1))) fun b1 h0 =>
 .say [.byt b1] (ok1 (iF h0)) <|
 .rt [0,3,4,5,51] 0 (decide (((b1.toNat:Int) : Int) < 160))) <|
 .rt [0,3,4,5,51] 0 (false)
def BX (b0:UInt8) (o0:Int) (p_s:ByteArray) (r0:Bool) (v0:Int) : Mo (Bool) :=
 .iG 32009 (r0) (.rt [0,3,4,5,62] 0 (true)) <|
 .iG 32012 ((b0.toNat:Int) == 237) (.ask (lH p_s (IntKind.wrap .i64 (v0 + 1))) fun b1 h0 =>
 .say [.byt b1] (ok1 (iF h0)) <|
 .rt [0,3,4,5,62] 0 (decide ((159:Int) < (b1.toNat:Int)))) <|
 .rt [0,3,4,5,62] 0 (false)
def BZ (b0:UInt8) (o0:Int) (p_s:ByteArray) (r0:Bool) (v0:Int) : Mo (Bool) :=
 .iG 32020 (r0) (.rt [0,3,4,5,73] 0 (true)) <|
 .iG 32023 ((b0.toNat:Int) == 240) (.ask (lH p_s (IntKind.wrap .i64 (v0 + 1))) fun b1 h0 =>
 .say [.byt b1] (ok1 (iF h0)) <|
 .rt [0,3,4,5,73] 0 (decide (((b1.toNat:Int) : Int) < 144))) <|
 .rt [0,3,4,5,73] 0 (false)
def Cb (b0:UInt8) (o0:Int) (p_s:ByteArray) (r0:Bool) (v0:Int) : Mo (Bool) :=
 .iG 32031 (r0) (.rt [0,3,5,84] 0 (true)) <|
 .iG 32034 ((b0.toNat:Int) == 244) (.ask (lH p_s (IntKind.wrap .i64 (v0 + 1))) fun b1 h0 =>
 .say [.byt b1] (ok1 (iF h0)) <|
 .rt [0,3,5,84] 0 (decide ((143:Int) < (b1.toNat:Int)))) <|
 .rt [0,3,5,84] 0 (false)
def mQ (p_s:ByteArray) : (Int) → Mo ((Int) ⊕ (Unit ⊕ Unit)) := fun (v0) =>
 .iB (decide ((v0:Int) < (p_s.size:Int))) (.ask (lH p_s v0) fun b0 h0 =>
 .say [.byt b0] (ok1 (iF h0)) <|
 .eY (I9 b0 p_s v0) (fun o0 h1 =>
 .say [.pt_ 10 [0,3,4,5] 0 (vH (.inl o0)) (vI b0 p_s v0 (.inl o0))] (ok1 (Mc h1)) <|
 .cl (agM p_s (IntKind.wrap .i64 (v0 + 1)) o0) fun r0 _ =>
 .iB (!r0) (.rt [2] 0 (.inr (.inl ()))) <|
 .sj Tryz.f239 0 [1,0,1,0,0,1,0,1,1,1,1,0,0] [0,1,2,3,4,5,6,7,8] 15 9 [0,3,4,5] 0 (fun r_=>⟨[(0,.lf (.str p_s)),(3,.i_ v0),(4,.lf (.int .u8 (b0.toNat:Int))),(5,.i_ o0),(51,.b_ r_)],[]⟩) ⟨[(0,.lf (.str p_s)),(3,.i_ v0),(4,.lf (.int .u8 (b0.toNat:Int))),(5,.i_ o0)],[]⟩ (BU b0 o0 p_s v0).den (sW (by kernel_rfl)) fun r1 _ =>
 .sj Tryz.f239 0 [1,0,1,0,0,1,0,1,1,1,1,0,0] [9,10,11,12,13,14,15,16,17,18,19] 15 11 [0,3,4,5,51] 0 (fun r_=>⟨[(0,.lf (.str p_s)),(3,.i_ v0),(4,.lf (.int .u8 (b0.toNat:Int))),(5,.i_ o0),(62,.b_ r_)],[]⟩) ⟨[(0,.lf (.str p_s)),(3,.i_ v0),(4,.lf (.int .u8 (b0.toNat:Int))),(5,.i_ o0),(51,.b_ r1)],[]⟩ (BX b0 o0 p_s r1 v0).den (sW (by kernel_rfl)) fun r2 _ =>
 .sj Tryz.f239 0 [1,0,1,0,0,1,0,1,1,1,1,0,0] [20,21,22,23,24,25,26,27,28,29,30] 15 11 [0,3,4,5,62] 0 (fun r_=>⟨[(0,.lf (.str p_s)),(3,.i_ v0),(4,.lf (.int .u8 (b0.toNat:Int))),(5,.i_ o0),(73,.b_ r_)],[]⟩) ⟨[(0,.lf (.str p_s)),(3,.i_ v0),(4,.lf (.int .u8 (b0.toNat:Int))),(5,.i_ o0),(62,.b_ r2)],[]⟩ (BZ b0 o0 p_s r2 v0).den (sW (by kernel_rfl)) fun r3 _ =>
 .sj Tryz.f239 0 [1,0,1,0,0,1,0,1,1,1,1,0,0] [31,32,33,34,35,36,37,38,39,40,41] 15 11 [0,3,4,5,73] 0 (fun r_=>⟨[(0,.lf (.str p_s)),(3,.i_ v0),(5,.i_ o0),(84,.b_ r_)],[]⟩) ⟨[(0,.lf (.str p_s)),(3,.i_ v0),(4,.lf (.int .u8 (b0.toNat:Int))),(5,.i_ o0),(73,.b_ r3)],[]⟩ (Cb b0 o0 p_s r3 v0).den (sW (by kernel_rfl)) fun r4 _ =>
 .iB (r4) (.rt [2] 0 (.inr (.inl ()))) <|
 .rt [0,3] 0 (.inl (IntKind.wrap .i64 ((IntKind.wrap .i64 (v0 + o0)) + 1)))) fun o1 h1 =>
 .say [.pt_ 10 [0,3,4,5] 0 (vH (.inr (o1))) (vI b0 p_s v0 (.inr (o1)))] (ok1 (Mc h1)) <|
 .rt [2] 0 (.inr (.inl ()))) <|
 .rt [] 0 (.inr (.inr (())))
def Ja (p_s:ByteArray) (v0:Int) : Option (Unit ⊕ Unit) := bJ (fun v_=>(mQ p_s v_).den) FU (v0)
def Md (p_s:ByteArray) : (Int) → St := fun (v0)=>⟨[(0,.lf (.str p_s)),(3,.i_ v0)],[]⟩
def vJ (r_:Unit ⊕ Unit) : Exit := match r_ with
 | .inl o_=>.ret
 | .inr (o_)=>.exit 0
def vK  (r_:Unit ⊕ Unit) : St := match r_ with
 | .inl o_=>⟨[(2,.b_ false)],[]⟩
 | .inr (o_)=>⟨[],[]⟩
theorem Me {p_s:ByteArray} {v0:Int} {r_:Unit ⊕ Unit} (h:Ja p_s v0 = some r_) : gq Tryz.f239 0 [1,0,1,0] (vJ r_) (vK r_) (Md p_s (v0)) :=
 dR dL (body := (Code.sub (bodyC Tryz.f239) [1,0,1,0,0])) (by kernel_rfl) (mQ p_s) (Md p_s) vJ vK (fun r_=>by rcases r_ with _ | _ <;> rfl) (fun v_=>by kernel_rfl) h
def adu (p_s:ByteArray) : Mo (Bool) :=
 .eY (Ja p_s 0) (fun o0 h0 =>
 .say [.pt_ 0 [0,3] 0 (vJ (.inl o0)) (vK (.inl o0))] (ok1 (Me h0)) <|
 .ret (bn 1) (false)) fun o1 h0 =>
 .say [.pt_ 0 [0,3] 0 (vJ (.inr (o1))) (vK (.inr (o1)))] (ok1 (Me h0)) <|
 .ret (bn 1) (true)
def Q1 (p_s:ByteArray) : Option (Bool) := Mo.den (adu p_s)
theorem aiP (p_s:ByteArray) : FV (Q1 p_s) 239 [.lf (.str p_s)] (fun r=>.b_ r) := dw Tryz.func239 (by kernel_rfl) (fun _=>rfl) (by kernel_rfl)
def Zf (p_s:ByteArray) : Mo (Bool) :=
 .iG 4003 (decide (((p_s.size:Int) : Int) < 1)) (.rt [0,11] 0 (true)) <|
 .rt [0,11] 0 (decide ((128:Int) < (p_s.size:Int)))
def Zg (p_s:ByteArray) (v0:Int) : Mo (Bool) :=
 .ask (lH p_s v0) fun b0 h0 =>
 .say [.byt b0] (ok1 (iF h0)) <|
 .iG 14004 (decide (((b0.toNat:Int) : Int) < 32)) (.rt [0,3,27] 0 (true)) <|
 .ask (lH p_s v0) fun b1 h1 =>
 .say [.byt b1] (ok1 (iF h1)) <|
 .rt [0,3,27] 0 (decide ((126:Int) < (b1.toNat:Int)))
def FX (p_s:ByteArray) : (Int) → Mo ((Int) ⊕ (Unit ⊕ Unit)) := fun (v0) =>
 .iB (decide ((v0:Int) < (p_s.size:Int))) (.jp Tryz.f290 0 [1,1,0,1,0,0,1,0,0,0] 19 [0,3] 0 (.normal) (fun r_=>⟨[(0,.lf (.str p_s)),(3,.i_ v0),(27,.b_ r_)],[]⟩) ⟨[(0,.lf (.str p_s)),(3,.i_ v0)],[]⟩ (Zg p_s v0).den (jW (by kernel_rfl)) fun r0 _ =>
 .iB (r0) (.rt [2] 0 (.inr (.inl ()))) <|
 .rt [0,3] 0 (.inl (IntKind.wrap .i64 (v0 + 1)))) <|
 .rt [] 0 (.inr (.inr (())))
def UN (p_s:ByteArray) (v0:Int) : Option (Unit ⊕ Unit) := bJ (fun v_=>(FX p_s v_).den) FU (v0)
def FY (p_s:ByteArray) : (Int) → St := fun (v0)=>⟨[(0,.lf (.str p_s)),(3,.i_ v0)],[]⟩
def qO (r_:Unit ⊕ Unit) : Exit := match r_ with
 | .inl o_=>.ret
 | .inr (o_)=>.exit 0
def qP  (r_:Unit ⊕ Unit) : St := match r_ with
 | .inl o_=>⟨[(2,.b_ false)],[]⟩
 | .inr (o_)=>⟨[],[]⟩
theorem FZ {p_s:ByteArray} {v0:Int} {r_:Unit ⊕ Unit} (h:UN p_s v0 = some r_) : gq Tryz.f290 0 [1,1,0,1,0] (qO r_) (qP r_) (FY p_s (v0)) :=
 dR dL (body := (Code.sub (bodyC Tryz.f290) [1,1,0,1,0,0])) (by kernel_rfl) (FX p_s) (FY p_s) qO qP (fun r_=>by rcases r_ with _ | _ <;> rfl) (fun v_=>by kernel_rfl) h
def aiQ (p_s:ByteArray) : Mo (Bool) :=
 .jp Tryz.f290 0 [1,0,0] 9 [0] 0 (.normal) (fun r_=>⟨[(0,.lf (.str p_s)),(11,.b_ r_)],[]⟩) ⟨[(0,.lf (.str p_s))],[]⟩ (Zf p_s).den (jW (by kernel_rfl)) fun r0 _ =>
 .iB (r0) (.ret (bn 1) (false)) <|
 .eY (UN p_s 0) (fun o0 h0 =>
 .say [.pt_ 0 [0,3] 0 (qO (.inl o0)) (qP (.inl o0))] (ok1 (FZ h0)) <|
 .ret (bn 1) (false)) fun o1 h0 =>
 .say [.pt_ 0 [0,3] 0 (qO (.inr (o1))) (qP (.inr (o1)))] (ok1 (FZ h0)) <|
 .ret (bn 1) (true)
def Q45 (p_s:ByteArray) : Option (Bool) := Mo.den (aiQ p_s)
theorem agN (p_s:ByteArray) : FV (Q45 p_s) 290 [.lf (.str p_s)] (fun r=>.b_ r) := dw Tryz.func290 (by kernel_rfl) (fun _=>rfl) (by kernel_rfl)
structure RB5 where
 m1:(p_v:ah) → (p_names:Bool) → Option (Bool)
 ok1:∀ p_v p_names,FV (m1 p_v p_names) 198 [.dat (ah.lf1 p_v),.b_ p_names] (fun r=>.b_ r)
 m2:(p_v:ah) → (p_names:Bool) → Option (Bool)
 ok2:∀ p_v p_names,FV (m2 p_v p_names) 240 [.dat (ah.lf1 p_v),.b_ p_names] (fun r=>.b_ r)
def UO (R_:RB5) (p_names:Bool) (p_v:ah) : Mo (Bool) :=
 .ite (p_v.aT != 6) (fun c0 =>
 .say [.gd 4003 true,.num p_v.bV.length] (okc c0 (ok1 (ln_ p_v.bV ah.lf))) <|
 .rt [1,2,16] 1 (decide ((0:Int) < (p_v.bV.length:Int)))) fun c0 =>
 .say [.gd 4003 false] (ok1 c0) <|
 .rt [1,2,16] 1 (false)
def UQ (R_:RB5) (p_names:Bool) (p_v:ah) (r0:Bool) : Mo (Bool) :=
 .iG 4009 (r0) (.rt [1,2,27] 1 (true)) <|
 .ite (p_v.aT != 5) (fun c0 =>
 .say [.gd 4013 true,.num p_v.bU.length] (okc c0 (ok1 (ln_ p_v.bU aO.lf))) <|
 .rt [1,2,27] 1 (decide ((0:Int) < (p_v.bU.length:Int)))) fun c0 =>
 .say [.gd 4013 false] (ok1 c0) <|
 .rt [1,2,27] 1 (false)
def MB (R_:RB5) (p_names:Bool) (p_v:ah) : Mo (Bool) :=
 .iG 8003 (p_v.aT == 4) (.rt [1,2,35] 1 (true)) <|
 .rt [1,2,35] 1 (p_v.aT == 7)
def MC (R_:RB5) (p_names:Bool) (p_v:ah) (r0:Bool) : Mo (Bool) :=
 .iG 8008 (r0) (.rt [1,2,40] 1 (true)) <|
 .rt [1,2,40] 1 (p_v.aT == 8)
def MF (R_:RB5) (p_names:Bool) (p_v:ah) (r0:Bool) : Mo (Unit) :=
 .rt [1,2,5] 1 ()
def MG (R_:RB5) (p_names:Bool) (p_v:ah) (r0:Bool) : Mo (Bool) :=
 .iG 10003 (p_v.aT == 3) (.rt [1,2,5,48] 1 (true)) <|
 .rt [1,2,5,48] 1 (p_v.aT == 9)
def MH (R_:RB5) (p_names:Bool) (p_v:ah) (r0:Bool) (r1:Bool) : Mo (Bool) :=
 .iG 10008 (r1) (.rt [1,2,5,53] 1 (true)) <|
 .rt [1,2,5,53] 1 (p_v.aT == 10)
def MI (R_:RB5) (p_names:Bool) (p_v:ah) (r0:Bool) (r1:Bool) : Mo (Unit) :=
 .rt [1,2,5,6] 1 ()
def MJ (R_:RB5) (p_names:Bool) (p_v:ah) (r0:Bool) (r1:Bool) : Mo (Bool) :=
 .iG 12002 (!r0) (.rt [1,2,6,60] 1 (!decide ((p_v.fText:ByteArray) = (⟨#[]⟩ : ByteArray)))) <|
 .rt [1,2,6,60] 1 (false)
def MK (R_:RB5) (p_names:Bool) (p_v:ah) (r0:Bool) (r1:Bool) : Mo (Bool) :=
 .iG 12007 (r1) (.rt [1,2,69] 1 (true)) <|
 .iG 12010 (!r0) (.rt [1,2,69] 1 (p_v.jK != 0)) <|
 .rt [1,2,69] 1 (false)
def ML (R_:RB5) (p_names:Bool) (p_v:ah) (r0:Bool) : Mo (Bool) :=
 .iG 12016 (r0) (.rt [1,2,74] 1 (true)) <|
 .rt [1,2,74] 1 (decide ((p_v.aT:Int) < 1))
def MN (R_:RB5) (p_names:Bool) (p_v:ah) (r0:Bool) : Mo (Bool) :=
 .iG 12021 (r0) (.rt [1,2,79] 1 (true)) <|
 .rt [1,2,79] 1 (decide ((11:Int) < p_v.aT))
def MO (R_:RB5) (p_v:ah) : Mo (Bool) :=
 .iG 20003 (p_v.jK == 0) (.ret ⟨[.kill 0],[4],[],1⟩ (true)) <|
 .ret ⟨[.kill 0],[4],[],1⟩ (p_v.jK == 1)
def MP (R_:RB5) (p_v:ah) : Mo (Bool) :=
 .iG 28004 (decide (((p_v.fText.size:Int) : Int) ≤ 4096)) (.cl (aiP p_v.fText) fun r0 _ =>
 .ret ⟨[.kill 0],[4],[],1⟩ (r0)) <|
 .ret ⟨[.kill 0],[4],[],1⟩ (false)
def Cc (R_:RB5) (p_names:Bool) (p_v:ah) : (Int) → Mo ((Int) ⊕ (Unit ⊕ Unit)) := fun (v0) =>
 .say [.num p_v.bV.length] (ok1 (ln_ p_v.bV ah.lf)) <|
 .iB (decide ((v0:Int) < (p_v.bV.length:Int))) (.ask (bT p_v.bV v0) fun x0 h0 =>
 .say [.row (ah.lf1 x0)] (ok1 (aX ah.aU h0)) <|
 .cl (R_.ok1 x0 p_names) fun r0 _ =>
 .iB (!r0) (.ret ⟨[.kill 0],[4],[],1⟩ (.inr (.inl ()))) <|
 .rt [1,2,7] 1 (.inl (IntKind.wrap .i64 (v0 + 1)))) <|
 .rt [1,2] 1 (.inr (.inr (())))
def RI (R_:RB5) (p_names:Bool) (p_v:ah) (v0:Int) : Option (Unit ⊕ Unit) := bJ (fun v_=>(Cc R_ p_names p_v v_).den) FU (v0)
def MQ (R_:RB5) (p_names:Bool) (p_v:ah) : (Int) → St := fun (v0)=>⟨[(1,.b_ p_names),(2,.ptr 0 0),(7,.i_ v0)],[.box 29 (.dat (ah.lf1 p_v))]⟩
def vM (r_:Unit ⊕ Unit) : Exit := match r_ with
 | .inl o_=>.ret
 | .inr (o_)=>.exit 1
def vN (p_names:Bool) (p_v:ah) (r_:Unit ⊕ Unit) : St := match r_ with
 | .inl o_=>⟨[(4,.b_ false)],[.dead]⟩
 | .inr (o_)=>⟨[(1,.b_ p_names),(2,.ptr 0 0)],[.box 29 (.dat (ah.lf1 p_v))]⟩
theorem MR {R_:RB5} {p_names:Bool} {p_v:ah} {v0:Int} {r_:Unit ⊕ Unit} (h:RI R_ p_names p_v v0 = some r_) : gq Tryz.f198 0 [1,1,1,1,1,1,0,1,0] (vM r_) (vN p_names p_v r_) (MQ R_ p_names p_v (v0)) :=
 dR dL (body := (Code.sub (bodyC Tryz.f198) [1,1,1,1,1,1,0,1,0,0])) (by kernel_rfl) (Cc R_ p_names p_v) (MQ R_ p_names p_v) vM (vN p_names p_v) (fun r_=>by rcases r_ with _ | _ <;> rfl) (fun v_=>by kernel_rfl) h
def agO (R_:RB5) (p_v:ah) (p_names:Bool) : Mo (Bool) :=
 .sj Tryz.f198 0 [1,0,0] [0,1,2,3,4,5,6,7,8] 1 9 [1,2] 1 (fun r_=>⟨[(1,.b_ p_names),(2,.ptr 0 0),(16,.b_ r_)],[.box 29 (.dat (ah.lf1 p_v))]⟩) ⟨[(1,.b_ p_names),(2,.ptr 0 0)],[.box 29 (.dat (ah.lf1 p_v))]⟩ (UO R_ p_names p_v).den (sW (by kernel_rfl)) fun r0 _ =>
 .sj Tryz.f198 0 [1,0,0] [9,10,11,12,13,14,15,16,17,18,19] 1 11 [1,2,16] 1 (fun r_=>⟨[(1,.b_ p_names),(2,.ptr 0 0),(27,.b_ r_)],[.box 29 (.dat (ah.lf1 p_v))]⟩) ⟨[(1,.b_ p_names),(2,.ptr 0 0),(16,.b_ r0)],[.box 29 (.dat (ah.lf1 p_v))]⟩ (UQ R_ p_names p_v r0).den (sW (by kernel_rfl)) fun r1 _ =>
 .iB (r1) (.ret (bn 1) (false)) <|
 .sj Tryz.f198 0 [1,1,0] [0,1,2,3,4,5,6,7] 3 8 [1,2] 1 (fun r_=>⟨[(1,.b_ p_names),(2,.ptr 0 0),(35,.b_ r_)],[.box 29 (.dat (ah.lf1 p_v))]⟩) ⟨[(1,.b_ p_names),(2,.ptr 0 0)],[.box 29 (.dat (ah.lf1 p_v))]⟩ (MB R_ p_names p_v).den (sW (by kernel_rfl)) fun r2 _ =>
 .sj Tryz.f198 0 [1,1,0] [8,9,10,11,12] 3 5 [1,2,35] 1 (fun r_=>⟨[(1,.b_ p_names),(2,.ptr 0 0),(40,.b_ r_)],[.box 29 (.dat (ah.lf1 p_v))]⟩) ⟨[(1,.b_ p_names),(2,.ptr 0 0),(35,.b_ r2)],[.box 29 (.dat (ah.lf1 p_v))]⟩ (MC R_ p_names p_v r2).den (sW (by kernel_rfl)) fun r3 _ =>
 .sj Tryz.f198 0 [1,1,0] [13] 3 1 [1,2,40] 1 (fun r_=>⟨[(1,.b_ p_names),(2,.ptr 0 0),(5,.b_ r3)],[.box 29 (.dat (ah.lf1 p_v))]⟩) ⟨[(1,.b_ p_names),(2,.ptr 0 0),(40,.b_ r3)],[.box 29 (.dat (ah.lf1 p_v))]⟩ (MF R_ p_names p_v r3).den (sW (by kernel_rfl)) fun r4 _ =>
 .sj Tryz.f198 0 [1,1,1,0] [0,1,2,3,4,5,6,7] 4 8 [1,2,5] 1 (fun r_=>⟨[(1,.b_ p_names),(2,.ptr 0 0),(5,.b_ r3),(48,.b_ r_)],[.box 29 (.dat (ah.lf1 p_v))]⟩) ⟨[(1,.b_ p_names),(2,.ptr 0 0),(5,.b_ r3)],[.box 29 (.dat (ah.lf1 p_v))]⟩ (MG R_ p_names p_v r3).den (sW (by kernel_rfl)) fun r5 _ =>
 .sj Tryz.f198 0 [1,1,1,0] [8,9,10,11,12] 4 5 [1,2,5,48] 1 (fun r_=>⟨[(1,.b_ p_names),(2,.ptr 0 0),(5,.b_ r3),(53,.b_ r_)],[.box 29 (.dat (ah.lf1 p_v))]⟩) ⟨[(1,.b_ p_names),(2,.ptr 0 0),(5,.b_ r3),(48,.b_ r5)],[.box 29 (.dat (ah.lf1 p_v))]⟩ (MH R_ p_names p_v r3 r5).den (sW (by kernel_rfl)) fun r6 _ =>
 .sj Tryz.f198 0 [1,1,1,0] [13] 4 1 [1,2,5,53] 1 (fun r_=>⟨[(1,.b_ p_names),(2,.ptr 0 0),(5,.b_ r3),(6,.b_ r6)],[.box 29 (.dat (ah.lf1 p_v))]⟩) ⟨[(1,.b_ p_names),(2,.ptr 0 0),(5,.b_ r3),(53,.b_ r6)],[.box 29 (.dat (ah.lf1 p_v))]⟩ (MI R_ p_names p_v r3 r6).den (sW (by kernel_rfl)) fun r7 _ =>
 .sj Tryz.f198 0 [1,1,1,1,0,0] [0,1,2,3,4,5,6] 5 7 [1,2,5,6] 1 (fun r_=>⟨[(1,.b_ p_names),(2,.ptr 0 0),(6,.b_ r6),(60,.b_ r_)],[.box 29 (.dat (ah.lf1 p_v))]⟩) ⟨[(1,.b_ p_names),(2,.ptr 0 0),(5,.b_ r3),(6,.b_ r6)],[.box 29 (.dat (ah.lf1 p_v))]⟩ (MJ R_ p_names p_v r3 r6).den (sW (by kernel_rfl)) fun r8 _ =>
 .sj Tryz.f198 0 [1,1,1,1,0,0] [7,8,9,10,11,12,13,14,15] 5 9 [1,2,6,60] 1 (fun r_=>⟨[(1,.b_ p_names),(2,.ptr 0 0),(69,.b_ r_)],[.box 29 (.dat (ah.lf1 p_v))]⟩) ⟨[(1,.b_ p_names),(2,.ptr 0 0),(6,.b_ r6),(60,.b_ r8)],[.box 29 (.dat (ah.lf1 p_v))]⟩ (MK R_ p_names p_v r6 r8).den (sW (by kernel_rfl)) fun r9 _ =>
 .sj Tryz.f198 0 [1,1,1,1,0,0] [16,17,18,19,20] 5 5 [1,2,69] 1 (fun r_=>⟨[(1,.b_ p_names),(2,.ptr 0 0),(74,.b_ r_)],[.box 29 (.dat (ah.lf1 p_v))]⟩) ⟨[(1,.b_ p_names),(2,.ptr 0 0),(69,.b_ r9)],[.box 29 (.dat (ah.lf1 p_v))]⟩ (ML R_ p_names p_v r9).den (sW (by kernel_rfl)) fun r10 _ =>
 .sj Tryz.f198 0 [1,1,1,1,0,0] [21,22,23,24,25] 5 5 [1,2,74] 1 (fun r_=>⟨[(1,.b_ p_names),(2,.ptr 0 0),(79,.b_ r_)],[.box 29 (.dat (ah.lf1 p_v))]⟩) ⟨[(1,.b_ p_names),(2,.ptr 0 0),(74,.b_ r10)],[.box 29 (.dat (ah.lf1 p_v))]⟩ (MN R_ p_names p_v r10).den (sW (by kernel_rfl)) fun r11 _ =>
 .iB (r11) (.ret (bn 1) (false)) <|
 .iB (p_v.aT == 9) (.jp Tryz.f198 0 [1,1,1,1,1,0,1,0,1,0,0] 25 [2] 1 (.normal) (fun r_=>⟨[(4,.b_ r_)],[.dead]⟩) ⟨[(2,.ptr 0 0)],[.box 29 (.dat (ah.lf1 p_v))]⟩ (MO R_ p_v).den (jW (by kernel_rfl)) fun r12 _ =>
 .ret (bn 1) (r12)) <|
 .iB (p_v.aT == 10) (.ret (bn 1) (decide ((0:Int) ≤ p_v.jK))) <|
 .iB (p_v.aT == 4) (.jp Tryz.f198 0 [1,1,1,1,1,0,1,0,1,1,1,1,1,0,0] 33 [2] 1 (.normal) (fun r_=>⟨[(4,.b_ r_)],[.dead]⟩) ⟨[(2,.ptr 0 0)],[.box 29 (.dat (ah.lf1 p_v))]⟩ (MP R_ p_v).den (jW (by kernel_rfl)) fun r13 _ =>
 .ret (bn 1) (r13)) <|
 .iB (p_v.aT == 7) (.ret (bn 1) (decide (((p_v.fText.size:Int) : Int) ≤ 4096))) <|
 .iB (p_v.aT == 8) (.ret (bn 1) ((p_v.fText.size:Int) == 12)) <|
 .eY (RI R_ p_names p_v 0) (fun o0 h0 =>
 .say [.pt_ 0 [1,2,7] 1 (vM (.inl o0)) (vN p_names p_v (.inl o0))] (ok1 (MR h0)) <|
 .ret (bn 1) (false)) fun o1 h0 =>
 .say [.pt_ 0 [1,2,7] 1 (vM (.inr (o1))) (vN p_names p_v (.inr (o1)))] (ok1 (MR h0)) <|
 .cl (R_.ok2 p_v p_names) fun r14 _ =>
 .ret (bn 1) (r14)
theorem agP (R_:RB5) (p_v:ah) (p_names:Bool) : FV (Mo.den (agO R_ p_v p_names)) 198 [.dat (ah.lf1 p_v),.b_ p_names] (fun r=>.b_ r) := dw Tryz.func198 (by kernel_rfl) (fun _=>rfl) (by kernel_rfl)
def MS (R_:RB5) (p_names:Bool) (p_v:ah) (v0:Int) (x0:aO) : Mo (Bool) :=
 .iG 12001 (p_names) (.cl (tH x0.fName) fun r0 _ =>
 .rt [1,2,5,6,26] 2 (!r0)) <|
 .rt [1,2,5,6,26] 2 (false)
def MV (R_:RB5) (p_names:Bool) (p_v:ah) (r0:Bool) (v0:Int) (x0:aO) : Mo (Bool) :=
 .iG 12007 (r0) (.rt [1,2,5,6,36] 2 (true)) <|
 .iG 12010 (!p_names) (.cl (agN x0.fName) fun r1 _ =>
 .rt [1,2,5,6,36] 2 (!r1)) <|
 .rt [1,2,5,6,36] 2 (false)
def F5 (R_:RB5) (p_names:Bool) (p_v:ah) (r0:Bool) (v0:Int) (x0:aO) : Mo (Bool) :=
 .iG 12017 (r0) (.rt [1,2,5,6,43] 2 (true)) <|
 .cl (R_.ok1 x0.fValue p_names) fun r1 _ =>
 .rt [1,2,5,6,43] 2 (!r1)
def yV (R_:RB5) (p_names:Bool) (p_v:ah) (v0:Int) (x0:aO) : (Int) → Mo ((Int) ⊕ (Unit ⊕ Unit)) := fun (v1) =>
 .ite (decide ((v1:Int) < v0)) (fun c0 =>
 .say [.br true,.order [(true,0),(true,1),(true,2),(true,3),(true,4),(true,5),(true,6),(true,7),(true,8)] none []] (ok1 c0) <|
 .ask (bT p_v.bU v1) fun x1 h0 =>
 .say [.row (aO.lf1 x1)] (ok1 (aX aO.aU h0)) <|
 .iB (decide ((x1.fName:ByteArray) = (x0.fName:ByteArray))) (.ret ⟨[.kill 0,.kill 1],[4],[],2⟩ (.inr (.inl ()))) <|
 .rt [1,2,5,6,7] 2 (.inl (IntKind.wrap .i64 (v1 + 1)))) fun c0 =>
 .say [.br false] (ok1 c0) <|
 .ret ⟨[.kill 1],[1,2,5],[],2⟩ (.inr (.inr (())))
def Jb (R_:RB5) (p_names:Bool) (p_v:ah) (v0:Int) (x0:aO) (v1:Int) : Option (Unit ⊕ Unit) := bJ (fun v_=>(yV R_ p_names p_v v0 x0 v_).den) FU (v1)
def F6 (R_:RB5) (p_names:Bool) (p_v:ah) (v0:Int) (x0:aO) : (Int) → St := fun (v1)=>⟨[(1,.b_ p_names),(2,.ptr 0 0),(5,.i_ v0),(6,.ptr 1 0),(7,.i_ v1)],[.box 29 (.dat (ah.lf1 p_v)),.box 174 (.agg ((aO.lf1 x0).map AV.lf))]⟩
def qQ (r_:Unit ⊕ Unit) : Exit := match r_ with
 | .inl o_=>.ret
 | .inr (o_)=>.exit 2
def qR (p_names:Bool) (p_v:ah) (v0:Int) (r_:Unit ⊕ Unit) : St := match r_ with
 | .inl o_=>⟨[(4,.b_ false)],[.dead,.dead]⟩
 | .inr (o_)=>⟨[(1,.b_ p_names),(2,.ptr 0 0),(5,.i_ v0)],[.box 29 (.dat (ah.lf1 p_v)),.dead]⟩
theorem F7 {R_:RB5} {p_names:Bool} {p_v:ah} {v0:Int} {x0:aO} {v1:Int} {r_:Unit ⊕ Unit} (h:Jb R_ p_names p_v v0 x0 v1 = some r_) : gq Tryz.f240 0 [1,0,1,0,0,1,0,0,1,1,1,0] (qQ r_) (qR p_names p_v v0 r_) (F6 R_ p_names p_v v0 x0 (v1)) :=
 dR dL (body := (Code.sub (bodyC Tryz.f240) [1,0,1,0,0,1,0,0,1,1,1,0,0])) (by kernel_rfl) (yV R_ p_names p_v v0 x0) (F6 R_ p_names p_v v0 x0) qQ (qR p_names p_v v0) (fun r_=>by rcases r_ with _ | _ <;> rfl) (fun v_=>by kernel_rfl) h
def yX (R_:RB5) (p_names:Bool) (p_v:ah) : (Int) → Mo ((Int) ⊕ (Unit ⊕ Unit)) := fun (v0) =>
 .say [.num p_v.bU.length] (ok1 (ln_ p_v.bU aO.lf)) <|
 .iB (decide ((v0:Int) < (p_v.bU.length:Int))) (.ask (bT p_v.bU v0) fun x0 h0 =>
 .say [.row (aO.lf1 x0)] (ok1 (aX aO.aU h0)) <|
 .sj Tryz.f240 0 [1,0,1,0,0,1,0,0,1,0,0] [0,1,2,3,4,5,6] 5 7 [1,2,5,6] 2 (fun r_=>⟨[(1,.b_ p_names),(2,.ptr 0 0),(5,.i_ v0),(6,.ptr 1 0),(26,.b_ r_)],[.box 29 (.dat (ah.lf1 p_v)),.box 174 (.agg ((aO.lf1 x0).map AV.lf))]⟩) ⟨[(1,.b_ p_names),(2,.ptr 0 0),(5,.i_ v0),(6,.ptr 1 0)],[.box 29 (.dat (ah.lf1 p_v)),.box 174 (.agg ((aO.lf1 x0).map AV.lf))]⟩ (MS R_ p_names p_v v0 x0).den (sW (by kernel_rfl)) fun r0 _ =>
 .sj Tryz.f240 0 [1,0,1,0,0,1,0,0,1,0,0] [7,8,9,10,11,12,13,14,15,16] 5 10 [1,2,5,6,26] 2 (fun r_=>⟨[(1,.b_ p_names),(2,.ptr 0 0),(5,.i_ v0),(6,.ptr 1 0),(36,.b_ r_)],[.box 29 (.dat (ah.lf1 p_v)),.box 174 (.agg ((aO.lf1 x0).map AV.lf))]⟩) ⟨[(1,.b_ p_names),(2,.ptr 0 0),(5,.i_ v0),(6,.ptr 1 0),(26,.b_ r0)],[.box 29 (.dat (ah.lf1 p_v)),.box 174 (.agg ((aO.lf1 x0).map AV.lf))]⟩ (MV R_ p_names p_v r0 v0 x0).den (sW (by kernel_rfl)) fun r1 _ =>
 .sj Tryz.f240 0 [1,0,1,0,0,1,0,0,1,0,0] [17,18,19,20,21,22,23] 5 7 [1,2,5,6,36] 2 (fun r_=>⟨[(1,.b_ p_names),(2,.ptr 0 0),(5,.i_ v0),(6,.ptr 1 0),(43,.b_ r_)],[.box 29 (.dat (ah.lf1 p_v)),.box 174 (.agg ((aO.lf1 x0).map AV.lf))]⟩) ⟨[(1,.b_ p_names),(2,.ptr 0 0),(5,.i_ v0),(6,.ptr 1 0),(36,.b_ r1)],[.box 29 (.dat (ah.lf1 p_v)),.box 174 (.agg ((aO.lf1 x0).map AV.lf))]⟩ (F5 R_ p_names p_v r1 v0 x0).den (sW (by kernel_rfl)) fun r2 _ =>
 .iB (r2) (.ret ⟨[.kill 0],[4],[],1⟩ (.inr (.inl ()))) <|
 .eY (Jb R_ p_names p_v v0 x0 0) (fun o0 h1 =>
 .say [.pt_ 0 [1,2,5,6,7] 2 (qQ (.inl o0)) (qR p_names p_v v0 (.inl o0))] (ok1 (F7 h1)) <|
 .rt [4] 1 (.inr (.inl ()))) fun o1 h1 =>
 .say [.pt_ 0 [1,2,5,6,7] 2 (qQ (.inr (o1))) (qR p_names p_v v0 (.inr (o1)))] (ok1 (F7 h1)) <|
 .rt [1,2,5] 1 (.inl (IntKind.wrap .i64 (v0 + 1)))) <|
 .ret ⟨[.kill 0],[],[],1⟩ (.inr (.inr (())))
def Jc (R_:RB5) (p_names:Bool) (p_v:ah) (v0:Int) : Option (Unit ⊕ Unit) := bJ (fun v_=>(yX R_ p_names p_v v_).den) FU (v0)
def F8 (R_:RB5) (p_names:Bool) (p_v:ah) : (Int) → St := fun (v0)=>⟨[(1,.b_ p_names),(2,.ptr 0 0),(5,.i_ v0)],[.box 29 (.dat (ah.lf1 p_v))]⟩
def qU (r_:Unit ⊕ Unit) : Exit := match r_ with
 | .inl o_=>.ret
 | .inr (o_)=>.exit 0
def qV  (r_:Unit ⊕ Unit) : St := match r_ with
 | .inl o_=>⟨[(4,.b_ false)],[.dead]⟩
 | .inr (o_)=>⟨[],[.dead]⟩
theorem F9 {R_:RB5} {p_names:Bool} {p_v:ah} {v0:Int} {r_:Unit ⊕ Unit} (h:Jc R_ p_names p_v v0 = some r_) : gq Tryz.f240 0 [1,0,1,0] (qU r_) (qV r_) (F8 R_ p_names p_v (v0)) :=
 dR dL (body := (Code.sub (bodyC Tryz.f240) [1,0,1,0,0])) (by kernel_rfl) (yX R_ p_names p_v) (F8 R_ p_names p_v) qU qV (fun r_=>by rcases r_ with _ | _ <;> rfl) (fun v_=>by kernel_rfl) h
def Zh (R_:RB5) (p_v:ah) (p_names:Bool) : Mo (Bool) :=
 .eY (Jc R_ p_names p_v 0) (fun o0 h0 =>
 .say [.pt_ 0 [1,2,5] 1 (qU (.inl o0)) (qV (.inl o0))] (ok1 (F9 h0)) <|
 .ret (bn 1) (false)) fun o1 h0 =>
 .say [.pt_ 0 [1,2,5] 1 (qU (.inr (o1))) (qV (.inr (o1)))] (ok1 (F9 h0)) <|
 .ret (bn 1) (true)
theorem adv (R_:RB5) (p_v:ah) (p_names:Bool) : FV (Mo.den (Zh R_ p_v p_names)) 240 [.dat (ah.lf1 p_v),.b_ p_names] (fun r=>.b_ r) := dw Tryz.func240 (by kernel_rfl) (fun _=>rfl) (by kernel_rfl)
def qh:Nat → RB5
 | 0=>{ m1 := fun p_v p_names=>none,ok1 := fun _ _ _ h=>(by cases h),m2 := fun p_v p_names=>none,ok2 := fun _ _ _ h=>(by cases h) }
 | n_ + 1=>{ m1 := fun p_v p_names=>Mo.den (agO (qh n_) p_v p_names),ok1 := fun p_v p_names r h=>agP (qh n_) p_v p_names r h,m2 := fun p_v p_names=>Mo.den (Zh (qh n_) p_v p_names),ok2 := adv (qh n_) }
def Q4 (p_v:ah) (p_names:Bool) : Option (Bool) := (qh FU).m1 p_v p_names
theorem aiR (p_v:ah) (p_names:Bool) : FV (Q4 p_v p_names) 198 [.dat (ah.lf1 p_v),.b_ p_names] (fun r=>.b_ r) := (qh FU).ok1 p_v p_names
def Q11 (p_v:ah) (p_names:Bool) : Option (Bool) := (qh FU).m2 p_v p_names
def afr (p_v:ah) : Mo (Bool) :=
 .cl (adr p_v) fun r0 _ =>
 .iG 4003 (decide ((r0:Int) ≤ 16)) (.cl (adt p_v) fun r1 _ =>
 .iG 4008 (decide ((r1:Int) ≤ 1024)) (.cl (aiR p_v true) fun r2 _ =>
 .ret (bn 1) (r2)) <|
 .ret (bn 1) (false)) <|
 .ret (bn 1) (false)
def Q90 (p_v:ah) : Option (Bool) := Mo.den (afr p_v)
theorem qj (p_v:ah) : FV (Q90 p_v) 154 [.dat (ah.lf1 p_v)] (fun r=>.b_ r) := dw Tryz.func154 (by kernel_rfl) (fun _=>rfl) (by kernel_rfl)
structure RB6 where
 m1:(p_v:ah) → Option (ByteArray)
 ok1:∀ p_v,FV (m1 p_v) 260 [.dat (ah.lf1 p_v)] (fun r=>.lf (.str r))
def MW (R_:RB6) (p_v:ah) : Mo (Bool) :=
 .iB (p_v.aT == 3) (.rt [1,3,12,13] 2 (p_v.aT == 3)) <|
 .rt [1,3,12,13] 2 (p_v.aT == 10)
def MX (R_:RB6) (p_v:ah) : Mo (Bool) :=
 .iB (p_v.aT == 4) (.rt [1,3,12,30] 2 (p_v.aT == 4)) <|
 .rt [1,3,12,30] 2 (p_v.aT == 7)
def yY (R_:RB6) (p_v:ah) : (ByteArray × Int) → Mo ((ByteArray × Int) ⊕ (ByteArray)) := fun (v0,v1) =>
 .say [.num p_v.bV.length] (ok1 (ln_ p_v.bV ah.lf)) <|
 .iB (decide ((v1:Int) < (p_v.bV.length:Int))) (.ask (bT p_v.bV v1) fun x0 h0 =>
 .say [.row (ah.lf1 x0)] (ok1 (aX ah.aU h0)) <|
 .cl (R_.ok1 x0) fun r0 _ =>
 .grd (v0.size + r0.size ≤ 9223372036854775807) fun h1 =>
 .say [] (ok1 h1) <|
 .rt [1,3,4] 2 (.inl (v0 ++ r0,IntKind.wrap .i64 (v1 + 1)))) <|
 .ret ⟨[.kill 0],[3],[],2⟩ (.inr (v0))
def UR (R_:RB6) (p_v:ah) (v0:ByteArray) (v1:Int) : Option (ByteArray) := bJ (fun v_=>(yY R_ p_v v_).den) FU (v0,v1)
def yZ (R_:RB6) (p_v:ah) : (ByteArray × Int) → Mo ((ByteArray × Int) ⊕ (ByteArray)) := fun (v0,v1) =>
 .say [.num p_v.bU.length] (ok1 (ln_ p_v.bU aO.lf)) <|
 .ite (decide ((v1:Int) < (p_v.bU.length:Int))) (fun c0 =>
 .say [.br true,.order [(true,0),(true,1),(true,2),(true,3),(true,4),(true,5),(true,6),(true,7),(true,10),(true,11),(true,12),(true,13),(true,14),(true,15),(true,17),(true,18),(true,19),(true,20),(true,21),(true,22),(false,8),(true,9),(true,16),(false,23),(true,24),(true,25)] none []] (ok1 c0) <|
 .ask (bT p_v.bU v1) fun x0 h0 =>
 .say [.row (aO.lf1 x0)] (ok1 (aX aO.aU h0)) <|
 .ask (bT p_v.bU v1) fun x1 h1 =>
 .say [.row (aO.lf1 x1)] (ok1 (aX aO.aU h1)) <|
 .ask (bT p_v.bU v1) fun x2 h2 =>
 .say [.row (aO.lf1 x2)] (ok1 (aX aO.aU h2)) <|
 .cl (yR (x0.fName.size:Int)) fun r0 _ =>
 .grd (v0.size + r0.size ≤ 9223372036854775807) fun h3 =>
 .say [] (ok1 h3) <|
 .grd ((v0 ++ r0).size + x1.fName.size ≤ 9223372036854775807) fun h4 =>
 .say [] (ok1 h4) <|
 .cl (R_.ok1 x2.fValue) fun r1 _ =>
 .grd (((v0 ++ r0) ++ x1.fName).size + r1.size ≤ 9223372036854775807) fun h5 =>
 .say [] (ok1 h5) <|
 .rt [1,3,5] 2 (.inl (((v0 ++ r0) ++ x1.fName) ++ r1,IntKind.wrap .i64 (v1 + 1)))) fun c0 =>
 .say [.br false] (ok1 c0) <|
 .ret ⟨[.kill 0],[3],[],2⟩ (.inr (v0))
def UU (R_:RB6) (p_v:ah) (v0:ByteArray) (v1:Int) : Option (ByteArray) := bJ (fun v_=>(yZ R_ p_v v_).den) FU (v0,v1)
def zf (R_:RB6) (p_v:ah) : Mo (ByteArray) :=
 .jp Tryz.f260 0 [1,1,0,1,0,0,1] 1 [1,3,12,13] 2 (.normal) (fun r_=>⟨[(1,.ptr 0 0),(3,.lf (.str (strOfNums [IntKind.wrap .u8 p_v.aT]))),(12,.i_ p_v.aT),(13,.b_ r_)],[.box 29 (.dat (ah.lf1 p_v)),.dead]⟩) ⟨[(1,.ptr 0 0),(3,.lf (.str (strOfNums [IntKind.wrap .u8 p_v.aT]))),(12,.i_ p_v.aT),(13,.lf (.bool (p_v.aT == 3)))],[.box 29 (.dat (ah.lf1 p_v)),.dead]⟩ (MW R_ p_v).den (jW (by kernel_rfl)) fun r0 _ =>
 .iB (r0) (.cl (yR p_v.jK) fun r1 _ =>
 .grd ((strOfNums [IntKind.wrap .u8 p_v.aT]).size + r1.size ≤ 9223372036854775807) fun h0 =>
 .say [] (ok1 h0) <|
 .ret ⟨[.kill 0],[3],[],2⟩ ((strOfNums [IntKind.wrap .u8 p_v.aT]) ++ r1)) <|
 .ite (p_v.aT == 9) (fun c0 =>
 .say [.br true,.nums [IntKind.wrap .u8 p_v.jK]] (okc c0 (ok1 (by simp [lfI,lfK] : [(lfK .u8 (IntKind.wrap .u8 p_v.jK))] = [IntKind.wrap .u8 p_v.jK].map fun n=>[Lf.int .u8 n]))) <|
 .grd ((strOfNums [IntKind.wrap .u8 p_v.aT]).size + (strOfNums [IntKind.wrap .u8 p_v.jK]).size ≤ 9223372036854775807) fun h1 =>
 .say [] (ok1 h1) <|
 .ret ⟨[.kill 0],[3],[],2⟩ ((strOfNums [IntKind.wrap .u8 p_v.aT]) ++ (strOfNums [IntKind.wrap .u8 p_v.jK]))) fun c0 =>
 .say [.br false] (ok1 c0) <|
 .jp Tryz.f260 0 [1,1,0,1,0,1,1,1,1,0,1] 1 [1,3,12,30] 2 (.normal) (fun r_=>⟨[(1,.ptr 0 0),(3,.lf (.str (strOfNums [IntKind.wrap .u8 p_v.aT]))),(12,.i_ p_v.aT),(30,.b_ r_)],[.box 29 (.dat (ah.lf1 p_v)),.dead]⟩) ⟨[(1,.ptr 0 0),(3,.lf (.str (strOfNums [IntKind.wrap .u8 p_v.aT]))),(12,.i_ p_v.aT),(30,.lf (.bool (p_v.aT == 4)))],[.box 29 (.dat (ah.lf1 p_v)),.dead]⟩ (MX R_ p_v).den (jW (by kernel_rfl)) fun r2 _ =>
 .ite (r2) (fun c1 =>
 .say [.br true,.order [(true,0),(true,1),(true,2),(true,3),(true,6),(true,7),(false,4),(true,5),(true,8),(true,9)] none []] (ok1 c1) <|
 .cl (yR (p_v.fText.size:Int)) fun r3 _ =>
 .grd ((strOfNums [IntKind.wrap .u8 p_v.aT]).size + r3.size ≤ 9223372036854775807) fun h2 =>
 .say [] (ok1 h2) <|
 .grd (((strOfNums [IntKind.wrap .u8 p_v.aT]) ++ r3).size + p_v.fText.size ≤ 9223372036854775807) fun h3 =>
 .say [] (ok1 h3) <|
 .ret ⟨[.kill 0],[3],[],2⟩ (((strOfNums [IntKind.wrap .u8 p_v.aT]) ++ r3) ++ p_v.fText)) fun c1 =>
 .say [.br false] (ok1 c1) <|
 .iB (p_v.aT == 8) (.grd ((strOfNums [IntKind.wrap .u8 p_v.aT]).size + p_v.fText.size ≤ 9223372036854775807) fun h4 =>
 .say [] (ok1 h4) <|
 .ret ⟨[.kill 0],[3],[],2⟩ ((strOfNums [IntKind.wrap .u8 p_v.aT]) ++ p_v.fText)) <|
 .ite (p_v.aT == 6) (fun c2 =>
 .say [.br true,.num p_v.bV.length] (okc c2 (ok1 (ln_ p_v.bV ah.lf))) <|
 .cl (yR (p_v.bV.length:Int)) fun r4 _ =>
 .grd ((strOfNums [IntKind.wrap .u8 p_v.aT]).size + r4.size ≤ 9223372036854775807) fun h5 =>
 .say [] (ok1 h5) <|
 .lp Tryz.f260 0 [1,1,0,1,0,1,1,1,1,1,1,1,1,1,0,1,1,0] 0 [1,3,4] 2 (.exit 1) (fun r_=>⟨[(3,.lf (.str r_))],[.dead,.dead]⟩) (UR R_ p_v ((strOfNums [IntKind.wrap .u8 p_v.aT]) ++ r4) 0) (lW (fun (v0,v1)=>⟨[(1,.ptr 0 0),(3,.lf (.str v0)),(4,.i_ v1)],[.box 29 (.dat (ah.lf1 p_v)),.dead]⟩) (by kernel_rfl) rfl fun v_=>by kernel_rfl) fun r5 _ =>
 .rt [3] 2 (r5)) fun c2 =>
 .say [.br false] (ok1 c2) <|
 .ite (p_v.aT == 5) (fun c3 =>
 .say [.br true,.num p_v.bU.length] (okc c3 (ok1 (ln_ p_v.bU aO.lf))) <|
 .cl (yR (p_v.bU.length:Int)) fun r6 _ =>
 .grd ((strOfNums [IntKind.wrap .u8 p_v.aT]).size + r6.size ≤ 9223372036854775807) fun h6 =>
 .say [] (ok1 h6) <|
 .lp Tryz.f260 0 [1,1,0,1,0,1,1,1,1,1,1,1,1,1,1,1,0,1,1,0] 0 [1,3,5] 2 (.exit 3) (fun r_=>⟨[(3,.lf (.str r_))],[.dead,.dead]⟩) (UU R_ p_v ((strOfNums [IntKind.wrap .u8 p_v.aT]) ++ r6) 0) (lW (fun (v2,v3)=>⟨[(1,.ptr 0 0),(3,.lf (.str v2)),(5,.i_ v3)],[.box 29 (.dat (ah.lf1 p_v)),.dead]⟩) (by kernel_rfl) rfl fun v_=>by kernel_rfl) fun r7 _ =>
 .rt [3] 2 (r7)) fun c3 =>
 .say [.br false] (ok1 c3) <|
 .ret ⟨[.kill 0],[3],[],2⟩ (strOfNums [IntKind.wrap .u8 p_v.aT])
def Jd (R_:RB6) (p_v:ah) : Option (ByteArray) := Mo.den (zf R_ p_v)
def qW  (r_:ByteArray) : St := ⟨[(3,.lf (.str r_))],[.dead,.dead]⟩
theorem V9 {R_:RB6} {p_v:ah} {r_:ByteArray} (h:Jd R_ p_v = some r_) : gq Tryz.f260 0 [1,1,0,1] (.normal) (qW r_) ⟨[(1,.ptr 0 0),(3,.lf (.str (strOfNums [IntKind.wrap .u8 p_v.aT]))),(12,.i_ p_v.aT)],[.box 29 (.dat (ah.lf1 p_v)),.dead]⟩ :=
 jq dL (zf R_ p_v) (fun _=>.normal) qW (by kernel_rfl) h
def Zi (R_:RB6) (p_v:ah) : Mo (ByteArray) :=
 .say [.nums [IntKind.wrap .u8 p_v.aT]] (ok1 (by simp [lfI,lfK] : [(lfK .u8 (IntKind.wrap .u8 p_v.aT))] = [IntKind.wrap .u8 p_v.aT].map fun n=>[Lf.int .u8 n])) <|
 .ask (Jd R_ p_v) fun r0 h0 =>
 .say [.part [.kill 1] 6 [1,3,12] 2 (.normal) (qW r0).T (qW r0).H] (ok1 (V9 h0)) <|
 .ret (bn 1) (r0)
theorem adw (R_:RB6) (p_v:ah) : FV (Mo.den (Zi R_ p_v)) 260 [.dat (ah.lf1 p_v)] (fun r=>.lf (.str r)) := dw Tryz.func260 (by kernel_rfl) (fun _=>rfl) (by kernel_rfl)
def zL:Nat → RB6
 | 0=>{ m1 := fun p_v=>none,ok1 := fun _ _ h=>(by cases h) }
 | n_ + 1=>{ m1 := fun p_v=>Mo.den (Zi (zL n_) p_v),ok1 := adw (zL n_) }
def Q20 (p_v:ah) : Option (ByteArray) := (zL FU).m1 p_v
theorem agQ (p_v:ah) : FV (Q20 p_v) 260 [.dat (ah.lf1 p_v)] (fun r=>.lf (.str r)) := (zL FU).ok1 p_v
def Zj (p_v:ah) : Mo (ByteArray × Int) :=
 .cl (qj p_v) fun r0 _ =>
 .iB (!r0) (.ret (bn 2) (⟨#[]⟩,8)) <|
 .cl (agQ p_v) fun r1 _ =>
 .ret (bn 2) (r1,0)
def agR (p_v:ah) : Option (ByteArray × Int) := Mo.den (Zj p_v)
theorem UW (p_v:ah) : FV (agR p_v) 214 [.dat (ah.lf1 p_v)] (fun r=>.tup [.lf (.str r.1),.i_ r.2]) := dw Tryz.func214 (by kernel_rfl) (fun _=>rfl) (by kernel_rfl)
structure RB2 where
 m1:(p_v:ah) → (p_b0:ay) → Option (ay)
 ok1:∀ p_v p_b0,FH (m1 p_v p_b0) 167 [.ptr 0 0,.dat (ah.lf1 p_v)] [.box 124 (.dat (ay.lf1 p_b0))] (fun _=>.tup []) (fun r=>[.box 124 (.dat (ay.lf1 r))])
 m2:(p_l:List ah) → (p_b0:ay) → Option (ay)
 ok2:∀ p_l p_b0,FH (m2 p_l p_b0) 213 [.ptr 0 0,.lf (.rows 5 (p_l.map ah.lf))] [.box 124 (.dat (ay.lf1 p_b0))] (fun _=>.tup []) (fun r=>[.box 124 (.dat (ay.lf1 r))])
def Ce (R_:RB2) (p_v:ah) : (Int × ay) → Mo ((Int × ay) ⊕ (ay)) := fun (v0,s1155) =>
 .say [.num p_v.bU.length] (ok1 (ln_ p_v.bU aO.lf)) <|
 .iB (decide ((v0:Int) < (p_v.bU.length:Int))) (.ask (bT p_v.bU v0) fun x0 h0 =>
 .say [.row (aO.lf1 x0)] (ok1 (aX aO.aU h0)) <|
 .cH [0] (nR x0.fName s1155) fun r0 _ =>
 .ask (bT p_v.bU v0) fun x1 h1 =>
 .say [.row (aO.lf1 x1)] (ok1 (aX aO.aU h1)) <|
 .cH [0] (R_.ok1 x1.fValue r0) fun r1 _ =>
 .rt [0,3,4] 2 (.inl (IntKind.wrap .i64 (v0 + 1),r1))) <|
 .ret ⟨[.kill 1],[],[],2⟩ (.inr (s1155))
def RJ (R_:RB2) (p_v:ah) (v0:Int) (s1155:ay) : Option (ay) := bJ (fun v_=>(Ce R_ p_v v_).den) FU (v0,s1155)
def MZ (R_:RB2) (p_b0:ay) (r0:ByteArray × Int) : Mo (ay) :=
 .iG 32005 (p_b0.zW) (.rt [0,5] 2 (ay.mk p_b0.fS true p_b0.oZ)) <|
 .rt [0,5] 2 (ay.mk p_b0.fS (r0.2 != 0) p_b0.oZ)
def Zk (R_:RB2) (p_b0:ay) (r0:ByteArray × Int) : Option (ay) := Mo.den (MZ R_ p_b0 r0)
def vO (r0:ByteArray × Int) (r_:ay) : St := ⟨[(0,.ptr 0 0),(5,.lf (.str r0.1))],[.box 124 (.dat (ay.lf1 r_)),.dead]⟩
theorem Zl {R_:RB2} {p_b0:ay} {r0:ByteArray × Int} {r_:ay} (h:Zk R_ p_b0 r0 = some r_) : gq Tryz.f167 1 [1,1,1,1,0] (.normal) (vO r0 r_) ⟨[(0,.ptr 0 0),(5,.lf (.str r0.1)),(6,.i_ r0.2)],[.box 124 (.dat (ay.lf1 p_b0)),.dead]⟩ :=
 jq dL (MZ R_ p_b0 r0) (fun _=>.normal) (vO r0) (by kernel_rfl) h
def Zm (R_:RB2) (p_v:ah) (p_b0:ay) : Mo (ay) :=
 .iB (p_b0.oZ) (.cH [0] (fB p_v.aT p_b0) fun r0 _ =>
 .cH [0] (fB p_v.jK r0) fun r1 _ =>
 .cH [0] (nR p_v.fText r1) fun r2 _ =>
 .ask (R_.m2 p_v.bV r2) fun r3 h0 =>
 .say [.jd [0] (.tup []) [.box 124 (.dat (ay.lf1 r3))],.num p_v.bU.length] (okc (R_.ok2 _ _ _ h0) (ok1 (ln_ p_v.bU aO.lf))) <|
 .cH [0] (fB (p_v.bU.length:Int) r3) fun r4 _ =>
 .lp Tryz.f167 1 [1,0,1,0,1,1,1,1,1,0,1,0] 0 [0,3,4] 2 (.exit 0) (fun r_=>⟨[],[.box 124 (.dat (ay.lf1 r_)),.dead]⟩) (RJ R_ p_v 0 r4) (lW (fun (v0,s1155)=>⟨[(0,.ptr 0 0),(3,.ptr 1 0),(4,.i_ v0)],[.box 124 (.dat (ay.lf1 s1155)),.box 29 (.dat (ah.lf1 p_v))]⟩) (by kernel_rfl) rfl fun v_=>by kernel_rfl) fun r5 _ =>
 .rt [] 1 (r5)) <|
 .cl (tJ p_v) fun r6 _ =>
 .iB (r6) (.grd (p_b0.fS.size + (⟨#[0]⟩ : ByteArray).size ≤ 9223372036854775807) fun h1 =>
 .say [] (ok1 h1) <|
 .ret ⟨[.kill 1],[],[],1⟩ (ay.mk (p_b0.fS ++ ⟨#[0]⟩) p_b0.zW p_b0.oZ)) <|
 .cl (UW p_v) fun r7 _ =>
 .ask (Zk R_ p_b0 r7) fun r8 h2 =>
 .say [.part [.kill 1] 37 [0,5,6] 2 (.normal) (vO r7 r8).T (vO r7 r8).H] (ok1 (Zl h2)) <|
 .grd ((⟨#[1]⟩ : ByteArray).size + r7.1.size ≤ 9223372036854775807) fun h3 =>
 .say [] (ok1 h3) <|
 .grd (r8.fS.size + ((⟨#[1]⟩ : ByteArray) ++ r7.1).size ≤ 9223372036854775807) fun h4 =>
 .say [] (ok1 h4) <|
 .rt [] 1 (ay.mk (r8.fS ++ ((⟨#[1]⟩ : ByteArray) ++ r7.1)) r8.zW r8.oZ)
theorem adx (R_:RB2) (p_v:ah) (p_b0:ay) : FH (Mo.den (Zm R_ p_v p_b0)) 167 [.ptr 0 0,.dat (ah.lf1 p_v)] [.box 124 (.dat (ay.lf1 p_b0))] (fun _=>.tup []) (fun r=>[.box 124 (.dat (ay.lf1 r))]) := gV Tryz.func167 (by kernel_rfl) (fun _=>rfl) (by kernel_rfl)
def Ci (R_:RB2) (p_l:List ah) : (Int × ay) → Mo ((Int × ay) ⊕ (ay)) := fun (v0,s2580) =>
 .say [.num p_l.length] (ok1 (ln_ p_l ah.lf)) <|
 .iB (decide ((v0:Int) < (p_l.length:Int))) (.ask (bT p_l v0) fun x0 h0 =>
 .say [.row (ah.lf1 x0)] (ok1 (aX ah.aU h0)) <|
 .cH [0] (R_.ok1 x0 s2580) fun r0 _ =>
 .rt [0,1,4] 1 (.inl (IntKind.wrap .i64 (v0 + 1),r0))) <|
 .rt [] 1 (.inr (s2580))
def RN (R_:RB2) (p_l:List ah) (v0:Int) (s2580:ay) : Option (ay) := bJ (fun v_=>(Ci R_ p_l v_).den) FU (v0,s2580)
def Zn (R_:RB2) (p_l:List ah) (p_b0:ay) : Mo (ay) :=
 .say [.num p_l.length] (ok1 (ln_ p_l ah.lf)) <|
 .cH [0] (fB (p_l.length:Int) p_b0) fun r0 _ =>
 .lp Tryz.f213 1 [1,1,0] 0 [0,1,4] 1 (.exit 0) (fun r_=>⟨[],[.box 124 (.dat (ay.lf1 r_))]⟩) (RN R_ p_l 0 r0) (lW (fun (v0,s2580)=>⟨[(0,.ptr 0 0),(1,.lf (.rows 5 (p_l.map ah.lf))),(4,.i_ v0)],[.box 124 (.dat (ay.lf1 s2580))]⟩) (by kernel_rfl) rfl fun v_=>by kernel_rfl) fun r1 _ =>
 .rt [] 1 (r1)
theorem ady (R_:RB2) (p_l:List ah) (p_b0:ay) : FH (Mo.den (Zn R_ p_l p_b0)) 213 [.ptr 0 0,.lf (.rows 5 (p_l.map ah.lf))] [.box 124 (.dat (ay.lf1 p_b0))] (fun _=>.tup []) (fun r=>[.box 124 (.dat (ay.lf1 r))]) := gV Tryz.func213 (by kernel_rfl) (fun _=>rfl) (by kernel_rfl)
def lT:Nat → RB2
 | 0=>{ m1 := fun p_v p_b0=>none,ok1 := fun _ _ _ h=>(by cases h),m2 := fun p_l p_b0=>none,ok2 := fun _ _ _ h=>(by cases h) }
 | n_ + 1=>{ m1 := fun p_v p_b0=>Mo.den (Zm (lT n_) p_v p_b0),ok1 := fun p_v p_b0 r h=>adx (lT n_) p_v p_b0 r h,m2 := fun p_l p_b0=>Mo.den (Zn (lT n_) p_l p_b0),ok2 := ady (lT n_) }
def Q25 (p_v:ah) (p_b0:ay) : Option (ay) := (lT FU).m1 p_v p_b0
theorem tK (p_v:ah) (p_b0:ay) : FH (Q25 p_v p_b0) 167 [.ptr 0 0,.dat (ah.lf1 p_v)] [.box 124 (.dat (ay.lf1 p_b0))] (fun _=>.tup []) (fun r=>[.box 124 (.dat (ay.lf1 r))]) := (lT FU).ok1 p_v p_b0
def Q59 (p_l:List ah) (p_b0:ay) : Option (ay) := (lT FU).m2 p_l p_b0
theorem Zo (p_l:List ah) (p_b0:ay) : FH (Q59 p_l p_b0) 213 [.ptr 0 0,.lf (.rows 5 (p_l.map ah.lf))] [.box 124 (.dat (ay.lf1 p_b0))] (fun _=>.tup []) (fun r=>[.box 124 (.dat (ay.lf1 r))]) := (lT FU).ok2 p_l p_b0
def Cj (p_s:bY) : (Int × ay) → Mo ((Int × ay) ⊕ (ay)) := fun (v0,s2663) =>
 .say [.num p_s.bW.length] (ok1 (ln_ p_s.bW dF.lf)) <|
 .iB (decide ((v0:Int) < (p_s.bW.length:Int))) (.ask (bT p_s.bW v0) fun x0 h0 =>
 .say [.row (dF.lf1 x0)] (ok1 (aX dF.aU h0)) <|
 .cH [0] (fB x0.fX s2663) fun r0 _ =>
 .ask (bT p_s.bW v0) fun x1 h1 =>
 .say [.row (dF.lf1 x1)] (ok1 (aX dF.aU h1)) <|
 .cH [0] (fB x1.fY r0) fun r1 _ =>
 .rt [0,3,4] 2 (.inl (IntKind.wrap .i64 (v0 + 1),r1))) <|
 .rt [0,3] 2 (.inr (s2663))
def RP (p_s:bY) (v0:Int) (s2663:ay) : Option (ay) := bJ (fun v_=>(Cj p_s v_).den) FU (v0,s2663)
def afs (p_s:bY) (p_b0:ay) : Mo (ay) :=
 .ask (Q17 p_s.aT p_b0) fun r0 h0 =>
 .say [.jd [0] (.tup []) [.box 124 (.dat (ay.lf1 r0))],.num p_s.bW.length] (okc (fB _ _ _ h0) (ok1 (ln_ p_s.bW dF.lf))) <|
 .cH [0] (fB (p_s.bW.length:Int) r0) fun r1 _ =>
 .lp Tryz.f261 1 [1,1,1,0,1,0] 0 [0,3,4] 2 (.exit 0) (fun r_=>⟨[(0,.ptr 0 0),(3,.ptr 1 0)],[.box 124 (.dat (ay.lf1 r_)),.box 41 (.dat (bY.lf1 p_s))]⟩) (RP p_s 0 r1) (lW (fun (v0,s2663)=>⟨[(0,.ptr 0 0),(3,.ptr 1 0),(4,.i_ v0)],[.box 124 (.dat (ay.lf1 s2663)),.box 41 (.dat (bY.lf1 p_s))]⟩) (by kernel_rfl) rfl fun v_=>by kernel_rfl) fun r2 _ =>
 .cH [0] (fB p_s.fR r2) fun r3 _ =>
 .ret ⟨[.kill 1],[],[],1⟩ (r3)
def Q71 (p_s:bY) (p_b0:ay) : Option (ay) := Mo.den (afs p_s p_b0)
theorem agS (p_s:bY) (p_b0:ay) : FH (Q71 p_s p_b0) 261 [.ptr 0 0,.dat (bY.lf1 p_s)] [.box 124 (.dat (ay.lf1 p_b0))] (fun _=>.tup []) (fun r=>[.box 124 (.dat (ay.lf1 r))]) := gV Tryz.func261 (by kernel_rfl) (fun _=>rfl) (by kernel_rfl)
end
end Go.Proofs.YtdnafbfmaphhhaaGreatDoor
set_option linter.unusedSimpArgs false
set_option linter.unusedVariables false
namespace Go.Proofs.YtdnafbfmaphhhaaGreatDoor
open Go.RowKit
set_option maxRecDepth 20000
set_option maxHeartbeats 4000000
noncomputable section
structure RB7 where
 m1:(p_e:aC) → (p_b0:ay) → Option (ay)
 ok1:∀ p_e p_b0,FH (m1 p_e p_b0) 262 [.ptr 0 0,.dat (aC.lf1 p_e)] [.box 124 (.dat (ay.lf1 p_b0))] (fun _=>.tup []) (fun r=>[.box 124 (.dat (ay.lf1 r))])
def Cm (R_:RB7) (p_e:aC) : (Int × ay) → Mo ((Int × ay) ⊕ (ay)) := fun (v0,s2725) =>
 .say [.num p_e.aZ.length] (ok1 (ln_ p_e.aZ aC.lf)) <|
 .iB (decide ((v0:Int) < (p_e.aZ.length:Int))) (.ask (bT p_e.aZ v0) fun x0 h0 =>
 .say [.row (aC.lf1 x0)] (ok1 (aX aC.aU h0)) <|
 .cH [0] (R_.ok1 x0 s2725) fun r0 _ =>
 .rt [0,3,4] 2 (.inl (IntKind.wrap .i64 (v0 + 1),r0))) <|
 .ret ⟨[.kill 1],[],[],2⟩ (.inr (s2725))
def RQ (R_:RB7) (p_e:aC) (v0:Int) (s2725:ay) : Option (ay) := bJ (fun v_=>(Cm R_ p_e v_).den) FU (v0,s2725)
def Zp (R_:RB7) (p_e:aC) (p_b0:ay) : Mo (ay) :=
 .cH [0] (fB p_e.fOp p_b0) fun r0 _ =>
 .cH [0] (BM p_e.cO r0) fun r1 _ =>
 .cH [0] (nR p_e.fName r1) fun r2 _ =>
 .cH [0] (BM p_e.bP r2) fun r3 _ =>
 .cH [0] (tK p_e.fArg r3) fun r4 _ =>
 .ask (Q17 p_e.fN r4) fun r5 h0 =>
 .say [.jd [0] (.tup []) [.box 124 (.dat (ay.lf1 r5))],.num p_e.aZ.length] (okc (fB _ _ _ h0) (ok1 (ln_ p_e.aZ aC.lf))) <|
 .cH [0] (fB (p_e.aZ.length:Int) r5) fun r6 _ =>
 .lp Tryz.f262 1 [1,1,1,1,1,1,1,1,1,0] 0 [0,3,4] 2 (.exit 0) (fun r_=>⟨[],[.box 124 (.dat (ay.lf1 r_)),.dead]⟩) (RQ R_ p_e 0 r6) (lW (fun (v0,s2725)=>⟨[(0,.ptr 0 0),(3,.ptr 1 0),(4,.i_ v0)],[.box 124 (.dat (ay.lf1 s2725)),.box 44 (.dat (aC.lf1 p_e))]⟩) (by kernel_rfl) rfl fun v_=>by kernel_rfl) fun r7 _ =>
 .rt [] 1 (r7)
theorem adz (R_:RB7) (p_e:aC) (p_b0:ay) : FH (Mo.den (Zp R_ p_e p_b0)) 262 [.ptr 0 0,.dat (aC.lf1 p_e)] [.box 124 (.dat (ay.lf1 p_b0))] (fun _=>.tup []) (fun r=>[.box 124 (.dat (ay.lf1 r))]) := gV Tryz.func262 (by kernel_rfl) (fun _=>rfl) (by kernel_rfl)
def zM:Nat → RB7
 | 0=>{ m1 := fun p_e p_b0=>none,ok1 := fun _ _ _ h=>(by cases h) }
 | n_ + 1=>{ m1 := fun p_e p_b0=>Mo.den (Zp (zM n_) p_e p_b0),ok1 := adz (zM n_) }
def Q66 (p_e:aC) (p_b0:ay) : Option (ay) := (zM FU).m1 p_e p_b0
theorem agT (p_e:aC) (p_b0:ay) : FH (Q66 p_e p_b0) 262 [.ptr 0 0,.dat (aC.lf1 p_e)] [.box 124 (.dat (ay.lf1 p_b0))] (fun _=>.tup []) (fun r=>[.box 124 (.dat (ay.lf1 r))]) := (zM FU).ok1 p_e p_b0
structure RB1 where
 m1:(p_p:aH) → (p_b0:ay) → Option (ay)
 ok1:∀ p_p p_b0,FH (m1 p_p p_b0) 217 [.ptr 0 0,.dat (aH.lf1 p_p)] [.box 124 (.dat (ay.lf1 p_b0))] (fun _=>.tup []) (fun r=>[.box 124 (.dat (ay.lf1 r))])
def CB (R_:RB1) (p_p:aH) : (Int × ay) → Mo ((Int × ay) ⊕ (ay)) := fun (v0,s2758) =>
 .say [.num p_p.aZ.length] (ok1 (ln_ p_p.aZ aH.lf)) <|
 .iB (decide ((v0:Int) < (p_p.aZ.length:Int))) (.ask (bT p_p.aZ v0) fun x0 h0 =>
 .say [.row (aH.lf1 x0)] (ok1 (aX aH.aU h0)) <|
 .cH [0] (R_.ok1 x0 s2758) fun r0 _ =>
 .rt [0,3,4] 2 (.inl (IntKind.wrap .i64 (v0 + 1),r0))) <|
 .ret ⟨[.kill 1],[],[],2⟩ (.inr (s2758))
def RS (R_:RB1) (p_p:aH) (v0:Int) (s2758:ay) : Option (ay) := bJ (fun v_=>(CB R_ p_p v_).den) FU (v0,s2758)
def Zq (R_:RB1) (p_p:aH) (p_b0:ay) : Mo (ay) :=
 .cH [0] (fB p_p.fOp p_b0) fun r0 _ =>
 .cH [0] (BM p_p.cO r0) fun r1 _ =>
 .cH [0] (tK p_p.fArg r1) fun r2 _ =>
 .cH [0] (Zo p_p.fArgs r2) fun r3 _ =>
 .cH [0] (fB p_p.fN r3) fun r4 _ =>
 .cH [0] (fB p_p.fM r4) fun r5 _ =>
 .cH [0] (agS p_p.eF r5) fun r6 _ =>
 .ask (Q66 p_p.fExpr r6) fun r7 h0 =>
 .say [.jd [0] (.tup []) [.box 124 (.dat (ay.lf1 r7))],.num p_p.aZ.length] (okc (agT _ _ _ h0) (ok1 (ln_ p_p.aZ aH.lf))) <|
 .cH [0] (fB (p_p.aZ.length:Int) r7) fun r8 _ =>
 .lp Tryz.f217 1 [1,1,1,1,1,1,1,1,1,1,1,0] 0 [0,3,4] 2 (.exit 0) (fun r_=>⟨[],[.box 124 (.dat (ay.lf1 r_)),.dead]⟩) (RS R_ p_p 0 r8) (lW (fun (v0,s2758)=>⟨[(0,.ptr 0 0),(3,.ptr 1 0),(4,.i_ v0)],[.box 124 (.dat (ay.lf1 s2758)),.box 47 (.dat (aH.lf1 p_p))]⟩) (by kernel_rfl) rfl fun v_=>by kernel_rfl) fun r9 _ =>
 .rt [] 1 (r9)
theorem adA (R_:RB1) (p_p:aH) (p_b0:ay) : FH (Mo.den (Zq R_ p_p p_b0)) 217 [.ptr 0 0,.dat (aH.lf1 p_p)] [.box 124 (.dat (ay.lf1 p_b0))] (fun _=>.tup []) (fun r=>[.box 124 (.dat (ay.lf1 r))]) := gV Tryz.func217 (by kernel_rfl) (fun _=>rfl) (by kernel_rfl)
def zN:Nat → RB1
 | 0=>{ m1 := fun p_p p_b0=>none,ok1 := fun _ _ _ h=>(by cases h) }
 | n_ + 1=>{ m1 := fun p_p p_b0=>Mo.den (Zq (zN n_) p_p p_b0),ok1 := adA (zN n_) }
def Q67 (p_p:aH) (p_b0:ay) : Option (ay) := (zN FU).m1 p_p p_b0
theorem agU (p_p:aH) (p_b0:ay) : FH (Q67 p_p p_b0) 217 [.ptr 0 0,.dat (aH.lf1 p_p)] [.box 124 (.dat (ay.lf1 p_b0))] (fun _=>.tup []) (fun r=>[.box 124 (.dat (ay.lf1 r))]) := (zN FU).ok1 p_p p_b0
def CG (p_x:aS) : (Int × ay) → Mo ((Int × ay) ⊕ (ay)) := fun (v0,s1015) =>
 .say [.num p_x.gy.length] (ok1 (ln_ p_x.gy aY.lf)) <|
 .iB (decide ((v0:Int) < (p_x.gy.length:Int))) (.ask (bT p_x.gy v0) fun x0 h0 =>
 .say [.row (aY.lf1 x0)] (ok1 (aX aY.aU h0)) <|
 .cH [0] (BM x0.cO s1015) fun r0 _ =>
 .ask (bT p_x.gy v0) fun x1 h1 =>
 .say [.row (aY.lf1 x1)] (ok1 (aX aY.aU h1)) <|
 .cH [0] (oJ x1.Fj r0) fun r1 _ =>
 .rt [0,3,4] 2 (.inl (IntKind.wrap .i64 (v0 + 1),r1))) <|
 .rt [0,3] 2 (.inr (s1015))
def RU (p_x:aS) (v0:Int) (s1015:ay) : Option (ay) := bJ (fun v_=>(CG p_x v_).den) FU (v0,s1015)
def aft (p_x:aS) (p_b0:ay) : Mo (ay) :=
 .cH [0] (nR p_x.fName p_b0) fun r0 _ =>
 .ask (Q17 p_x.aT r0) fun r1 h0 =>
 .say [.jd [0] (.tup []) [.box 124 (.dat (ay.lf1 r1))],.num p_x.gy.length] (okc (fB _ _ _ h0) (ok1 (ln_ p_x.gy aY.lf))) <|
 .cH [0] (fB (p_x.gy.length:Int) r1) fun r2 _ =>
 .lp Tryz.f169 1 [1,1,1,1,0,1,0] 0 [0,3,4] 2 (.exit 0) (fun r_=>⟨[(0,.ptr 0 0),(3,.ptr 1 0)],[.box 124 (.dat (ay.lf1 r_)),.box 49 (.dat (aS.lf1 p_x))]⟩) (RU p_x 0 r2) (lW (fun (v0,s1015)=>⟨[(0,.ptr 0 0),(3,.ptr 1 0),(4,.i_ v0)],[.box 124 (.dat (ay.lf1 s1015)),.box 49 (.dat (aS.lf1 p_x))]⟩) (by kernel_rfl) rfl fun v_=>by kernel_rfl) fun r3 _ =>
 .cH [0] (oJ p_x.iQ r3) fun r4 _ =>
 .cH [0] (oJ p_x.nD r4) fun r5 _ =>
 .cH [0] (oJ p_x.jS r5) fun r6 _ =>
 .cH [0] (agU p_x.iU r6) fun r7 _ =>
 .ret ⟨[.kill 1],[],[],1⟩ (r7)
def Q54 (p_x:aS) (p_b0:ay) : Option (ay) := Mo.den (aft p_x p_b0)
theorem Je (p_x:aS) (p_b0:ay) : FH (Q54 p_x p_b0) 169 [.ptr 0 0,.dat (aS.lf1 p_x)] [.box 124 (.dat (ay.lf1 p_b0))] (fun _=>.tup []) (fun r=>[.box 124 (.dat (ay.lf1 r))]) := gV Tryz.func169 (by kernel_rfl) (fun _=>rfl) (by kernel_rfl)
structure RB8 where
 m1:(p_s:aB) → (p_b0:ay) → Option (ay)
 ok1:∀ p_s p_b0,FH (m1 p_s p_b0) 215 [.ptr 0 0,.dat (aB.lf1 p_s)] [.box 124 (.dat (ay.lf1 p_b0))] (fun _=>.tup []) (fun r=>[.box 124 (.dat (ay.lf1 r))])
def CJ (R_:RB8) (p_s:aB) : (Int × ay) → Mo ((Int × ay) ⊕ (ay)) := fun (v0,s2895) =>
 .say [.num p_s.dN.length] (ok1 (ln_ p_s.dN bF.lf)) <|
 .iB (decide ((v0:Int) < (p_s.dN.length:Int))) (.ask (bT p_s.dN v0) fun x0 h0 =>
 .say [.row (bF.lf1 x0)] (ok1 (aX bF.aU h0)) <|
 .cH [0] (nR x0.fName s2895) fun r0 _ =>
 .ask (bT p_s.dN v0) fun x1 h1 =>
 .say [.row (bF.lf1 x1)] (ok1 (aX bF.aU h1)) <|
 .cH [0] (R_.ok1 x1.fF r0) fun r1 _ =>
 .rt [0,3,4] 2 (.inl (IntKind.wrap .i64 (v0 + 1),r1))) <|
 .rt [0,3] 2 (.inr (s2895))
def RV (R_:RB8) (p_s:aB) (v0:Int) (s2895:ay) : Option (ay) := bJ (fun v_=>(CJ R_ p_s v_).den) FU (v0,s2895)
def CO (R_:RB8) (p_s:aB) : (Int × ay) → Mo ((Int × ay) ⊕ (ay)) := fun (v0,s2946) =>
 .say [.num p_s.fG.length] (ok1 (ln_ p_s.fG aB.lf)) <|
 .iB (decide ((v0:Int) < (p_s.fG.length:Int))) (.ask (bT p_s.fG v0) fun x0 h0 =>
 .say [.row (aB.lf1 x0)] (ok1 (aX aB.aU h0)) <|
 .cH [0] (R_.ok1 x0 s2946) fun r0 _ =>
 .rt [0,3,5] 2 (.inl (IntKind.wrap .i64 (v0 + 1),r0))) <|
 .rt [0,3] 2 (.inr (s2946))
def RX (R_:RB8) (p_s:aB) (v0:Int) (s2946:ay) : Option (ay) := bJ (fun v_=>(CO R_ p_s v_).den) FU (v0,s2946)
def Zr (R_:RB8) (p_s:aB) (p_b0:ay) : Mo (ay) :=
 .cH [0] (fB p_s.jT p_b0) fun r0 _ =>
 .cH [0] (oJ p_s.kR r0) fun r1 _ =>
 .cH [0] (tK p_s.rU r1) fun r2 _ =>
 .cH [0] (oJ p_s.kS r2) fun r3 _ =>
 .cH [0] (tK p_s.rV r3) fun r4 _ =>
 .cH [0] (Zo p_s.jU r4) fun r5 _ =>
 .cH [0] (fB p_s.kT r5) fun r6 _ =>
 .cH [0] (fB p_s.kU r6) fun r7 _ =>
 .ask (Q53 p_s.gB r7) fun r8 h0 =>
 .say [.jd [0] (.tup []) [.box 124 (.dat (ay.lf1 r8))],.num p_s.dN.length] (okc (BM _ _ _ h0) (ok1 (ln_ p_s.dN bF.lf))) <|
 .cH [0] (fB (p_s.dN.length:Int) r8) fun r9 _ =>
 .lp Tryz.f215 1 [1,1,1,1,1,1,1,1,1,1,1,0,1,0] 0 [0,3,4] 2 (.exit 0) (fun r_=>⟨[(0,.ptr 0 0),(3,.ptr 1 0)],[.box 124 (.dat (ay.lf1 r_)),.box 35 (.dat (aB.lf1 p_s))]⟩) (RV R_ p_s 0 r9) (lW (fun (v0,s2895)=>⟨[(0,.ptr 0 0),(3,.ptr 1 0),(4,.i_ v0)],[.box 124 (.dat (ay.lf1 s2895)),.box 35 (.dat (aB.lf1 p_s))]⟩) (by kernel_rfl) rfl fun v_=>by kernel_rfl) fun r10 _ =>
 .ask (Q68 p_s.nG r10) fun r11 h1 =>
 .say [.jd [0] (.tup []) [.box 124 (.dat (ay.lf1 r11))],.num p_s.fG.length] (okc (oJ _ _ _ h1) (ok1 (ln_ p_s.fG aB.lf))) <|
 .cH [0] (fB (p_s.fG.length:Int) r11) fun r12 _ =>
 .lp Tryz.f215 1 [1,1,1,1,1,1,1,1,1,1,1,1,1,1,0,1,0] 0 [0,3,5] 2 (.exit 2) (fun r_=>⟨[(0,.ptr 0 0),(3,.ptr 1 0)],[.box 124 (.dat (ay.lf1 r_)),.box 35 (.dat (aB.lf1 p_s))]⟩) (RX R_ p_s 0 r12) (lW (fun (v1,s2946)=>⟨[(0,.ptr 0 0),(3,.ptr 1 0),(5,.i_ v1)],[.box 124 (.dat (ay.lf1 s2946)),.box 35 (.dat (aB.lf1 p_s))]⟩) (by kernel_rfl) rfl fun v_=>by kernel_rfl) fun r13 _ =>
 .cH [0] (oJ p_s.iQ r13) fun r14 _ =>
 .ret ⟨[.kill 1],[],[],1⟩ (r14)
theorem adB (R_:RB8) (p_s:aB) (p_b0:ay) : FH (Mo.den (Zr R_ p_s p_b0)) 215 [.ptr 0 0,.dat (aB.lf1 p_s)] [.box 124 (.dat (ay.lf1 p_b0))] (fun _=>.tup []) (fun r=>[.box 124 (.dat (ay.lf1 r))]) := gV Tryz.func215 (by kernel_rfl) (fun _=>rfl) (by kernel_rfl)
def sF:Nat → RB8
 | 0=>{ m1 := fun p_s p_b0=>none,ok1 := fun _ _ _ h=>(by cases h) }
 | n_ + 1=>{ m1 := fun p_s p_b0=>Mo.den (Zr (sF n_) p_s p_b0),ok1 := adB (sF n_) }
def Q46 (p_s:aB) (p_b0:ay) : Option (ay) := (sF FU).m1 p_s p_b0
theorem agV (p_s:aB) (p_b0:ay) : FH (Q46 p_s p_b0) 215 [.ptr 0 0,.dat (aB.lf1 p_s)] [.box 124 (.dat (ay.lf1 p_b0))] (fun _=>.tup []) (fun r=>[.box 124 (.dat (ay.lf1 r))]) := (sF FU).ok1 p_s p_b0
def CP (p_d:bK) : (Int × ay) → Mo ((Int × ay) ⊕ (ay)) := fun (v0,s2796) =>
 .say [.num p_d.dH.length] (ok1 (ln_ p_d.dH aS.lf)) <|
 .iB (decide ((v0:Int) < (p_d.dH.length:Int))) (.ask (bT p_d.dH v0) fun x0 h0 =>
 .say [.row (aS.lf1 x0)] (ok1 (aX aS.aU h0)) <|
 .cH [0] (Je x0 s2796) fun r0 _ =>
 .rt [0,3,4] 2 (.inl (IntKind.wrap .i64 (v0 + 1),r0))) <|
 .rt [0,3] 2 (.inr (s2796))
def RY (p_d:bK) (v0:Int) (s2796:ay) : Option (ay) := bJ (fun v_=>(CP p_d v_).den) FU (v0,s2796)
def afu (p_d:bK) (p_b0:ay) : Mo (ay) :=
 .ask (Q64 p_d.fName p_b0) fun r0 h0 =>
 .say [.jd [0] (.tup []) [.box 124 (.dat (ay.lf1 r0))],.num p_d.dH.length] (okc (nR _ _ _ h0) (ok1 (ln_ p_d.dH aS.lf))) <|
 .cH [0] (fB (p_d.dH.length:Int) r0) fun r1 _ =>
 .lp Tryz.f168 1 [1,1,1,0,1,0] 0 [0,3,4] 2 (.exit 0) (fun r_=>⟨[(0,.ptr 0 0),(3,.ptr 1 0)],[.box 124 (.dat (ay.lf1 r_)),.box 37 (.dat (bK.lf1 p_d))]⟩) (RY p_d 0 r1) (lW (fun (v0,s2796)=>⟨[(0,.ptr 0 0),(3,.ptr 1 0),(4,.i_ v0)],[.box 124 (.dat (ay.lf1 s2796)),.box 37 (.dat (bK.lf1 p_d))]⟩) (by kernel_rfl) rfl fun v_=>by kernel_rfl) fun r2 _ =>
 .cH [0] (agV p_d.fF r2) fun r3 _ =>
 .cH [0] (fB p_d.oH r3) fun r4 _ =>
 .cH [0] (fB p_d.lX r4) fun r5 _ =>
 .ret ⟨[.kill 1],[],[],1⟩ (r5)
def Q62 (p_d:bK) (p_b0:ay) : Option (ay) := Mo.den (afu p_d p_b0)
theorem RZ (p_d:bK) (p_b0:ay) : FH (Q62 p_d p_b0) 168 [.ptr 0 0,.dat (bK.lf1 p_d)] [.box 124 (.dat (ay.lf1 p_b0))] (fun _=>.tup []) (fun r=>[.box 124 (.dat (ay.lf1 r))]) := gV Tryz.func168 (by kernel_rfl) (fun _=>rfl) (by kernel_rfl)
def Gf (p_d:bK) : Mo (Bool) :=
 .ite (!decide ((p_d.fName:ByteArray) = (⟨#[]⟩ : ByteArray))) (fun c0 =>
 .say [.gd 4003 true] (ok1 c0) <|
 .rt [1,13] 1 (true)) fun c0 =>
 .say [.gd 4003 false,.num p_d.dH.length] (okc c0 (ok1 (ln_ p_d.dH aS.lf))) <|
 .rt [1,13] 1 (decide ((0:Int) < (p_d.dH.length:Int)))
def Zt (p_d:bK) : Mo (Bool) :=
 .jp Tryz.f151 0 [1,0,0] 9 [1] 1 (.normal) (fun r_=>⟨[(1,.ptr 0 0),(13,.b_ r_)],[.box 37 (.dat (bK.lf1 p_d))]⟩) ⟨[(1,.ptr 0 0)],[.box 37 (.dat (bK.lf1 p_d))]⟩ (Gf p_d).den (jW (by kernel_rfl)) fun r0 _ =>
 .ite (r0) (fun c0 =>
 .say [.br true] (ok1 c0) <|
 .ret (bn 1) (false)) fun c0 =>
 .say [.br false,.at_ 10 1,.norm 1] (ok1 c0) <|
 .ask (Q62 p_d (ay.mk ⟨#[]⟩ false true)) fun r1 h0 =>
 .say [.jd [1] (.tup []) [.box 124 (.dat (ay.lf1 r1))],.at_ 12 1,.tod 18,.norm 2] (ok1 (RZ _ _ _ h0)) <|
 .cH [2] (RZ (bK.mk ⟨#[]⟩ [] aB.z 0 0) (ay.mk ⟨#[]⟩ false true)) fun r2 _ =>
 .ret (bn 1) (decide ((r1.fS:ByteArray) = (r2.fS:ByteArray)))
def agW (p_d:bK) : Option (Bool) := Mo.den (Zt p_d)
theorem adC (p_d:bK) : FV (agW p_d) 151 [.dat (bK.lf1 p_d)] (fun r=>.b_ r) := dw Tryz.func151 (by kernel_rfl) (fun _=>rfl) (by kernel_rfl)
def Zu (p_x:aS) : Mo (Bool) :=
 .say [.at_ 6 1,.norm 1] ok0 <|
 .ask (Q54 p_x (ay.mk ⟨#[]⟩ false true)) fun r0 h0 =>
 .say [.jd [1] (.tup []) [.box 124 (.dat (ay.lf1 r0))],.at_ 8 1,.tod 9,.norm 2] (ok1 (Je _ _ _ h0)) <|
 .cH [2] (Je aS.z (ay.mk ⟨#[]⟩ false true)) fun r1 _ =>
 .ret (bn 1) (decide ((r0.fS:ByteArray) = (r1.fS:ByteArray)))
def agX (p_x:aS) : Option (Bool) := Mo.den (Zu p_x)
theorem adD (p_x:aS) : FV (agX p_x) 152 [.dat (aS.lf1 p_x)] (fun r=>.b_ r) := dw Tryz.func152 (by kernel_rfl) (fun _=>rfl) (by kernel_rfl)
def Zv (p_kind:Int) : Mo (Bool) :=
 .iG 4002 (decide ((9:Int) ≤ p_kind)) (.ret (bn 1) (decide ((p_kind:Int) ≤ 12))) <|
 .ret (bn 1) (false)
def aiS (p_kind:Int) : Option (Bool) := Mo.den (Zv p_kind)
theorem UY (p_kind:Int) : FV (aiS p_kind) 110 [.i_ p_kind] (fun r=>.b_ r) := dw Tryz.func110 (by kernel_rfl) (fun _=>rfl) (by kernel_rfl)
def Zw (p_kind:Int) : Mo (Bool) :=
 .iG 4002 (p_kind == 8) (.ret (bn 1) (true)) <|
 .ret (bn 1) (p_kind == 9)
def aiT (p_kind:Int) : Option (Bool) := Mo.den (Zw p_kind)
theorem UZ (p_kind:Int) : FV (aiT p_kind) 108 [.i_ p_kind] (fun r=>.b_ r) := dw Tryz.func108 (by kernel_rfl) (fun _=>rfl) (by kernel_rfl)
def Na (p_w:aG) : Mo (aS) :=
 .iB (p_w.aT == 7) (.ret ⟨[.norm 1],[1,3,4],[],2⟩ (aS.YH p_w.bG ⟨#[]⟩)) <|
 .ret ⟨[.norm 1],[1,3,4],[],2⟩ (p_w.bG)
def Nb (p_w:aG) (r0:aS) : Mo (Bool) :=
 .cl (UM p_w.aT) fun r1 _ =>
 .iG 12002 (r1) (.rt [1,3,4,18] 2 (true)) <|
 .rt [1,3,4,18] 2 (decide ((p_w.kJ:ByteArray) = (⟨#[]⟩ : ByteArray)))
def Gg (p_w:aG) (r0:aS) (r1:Bool) : Mo (Bool) :=
 .iG 12007 (r1) (.cl (IX p_w.aT) fun r2 _ =>
 .iG 12010 (r2) (.rt [1,3,4,37] 2 (true)) <|
 .cl (tJ p_w.lY) fun r3 _ =>
 .iG 12014 (r3) (.cl (tJ p_w.gW) fun r4 _ =>
 .iG 12019 (r4) (.rt [1,3,4,37] 2 (!p_w.kV)) <|
 .rt [1,3,4,37] 2 (false)) <|
 .rt [1,3,4,37] 2 (false)) <|
 .rt [1,3,4,37] 2 (false)
def Gi (p_w:aG) (r0:aS) (r1:Bool) : Mo (Bool) :=
 .iG 12026 (r1) (.iG 12029 (p_w.aT == 2) (.rt [1,3,4,46] 2 (true)) <|
 .cl (tJ p_w.bU) fun r2 _ =>
 .rt [1,3,4,46] 2 (r2)) <|
 .rt [1,3,4,46] 2 (false)
def Gj (p_w:aG) (r0:aS) (r1:Bool) : Mo (Bool) :=
 .iG 12035 (r1) (.iG 12038 (p_w.aT == 4) (.rt [1,3,4,55] 2 (true)) <|
 .cl (adC p_w.nY) fun r2 _ =>
 .rt [1,3,4,55] 2 (r2)) <|
 .rt [1,3,4,55] 2 (false)
def Gl (p_w:aG) (r0:Bool) (r1:aS) : Mo (Bool) :=
 .iG 12044 (r0) (.iG 12047 (p_w.aT == 6) (.ret ⟨[.kill 1],[1,3,63],[],2⟩ (true)) <|
 .cl (adD r1) fun r2 _ =>
 .ret ⟨[.kill 1],[1,3,63],[],2⟩ (r2)) <|
 .ret ⟨[.kill 1],[1,3,63],[],2⟩ (false)
def Gm (p_w:aG) (r0:Bool) : Mo (Bool) :=
 .iG 12052 (r0) (.cl (UY p_w.aT) fun r1 _ =>
 .iG 12055 (r1) (.rt [1,3,72] 2 (true)) <|
 .rt [1,3,72] 2 (decide ((p_w.yL:ByteArray) = (⟨#[]⟩ : ByteArray)))) <|
 .rt [1,3,72] 2 (false)
def Gn (p_w:aG) (r0:Bool) : Mo (Bool) :=
 .iG 12061 (r0) (.iG 12064 (p_w.aT == 10) (.rt [1,3,85] 2 (true)) <|
 .iG 12068 (p_w.aT == 12) (.rt [1,3,85] 2 (true)) <|
 .rt [1,3,85] 2 (p_w.fO == 0)) <|
 .rt [1,3,85] 2 (false)
def Gp (p_w:aG) (r0:Bool) : Mo (Bool) :=
 .iG 12074 (r0) (.cl (UZ p_w.aT) fun r1 _ =>
 .ite (r1) (fun c0 =>
 .say [.gd 12077 true] (ok1 c0) <|
 .rt [1,3,95] 2 (true)) fun c0 =>
 .say [.gd 12077 false,.num p_w.dK.length] (okc c0 (ok1 (ln_ p_w.dK aG.lf))) <|
 .rt [1,3,95] 2 ((p_w.dK.length:Int) == 0)) <|
 .rt [1,3,95] 2 (false)
def Gq (p_w:aG) (r0:Bool) : Mo (Bool) :=
 .iG 12084 (r0) (.ite (p_w.aT == 12) (fun c0 =>
 .say [.gd 12087 true] (ok1 c0) <|
 .ret ⟨[.kill 0],[105],[],2⟩ (true)) fun c0 =>
 .say [.gd 12087 false,.num p_w.eu.length] (okc c0 (ok1 (ln_ p_w.eu lfI))) <|
 .ret ⟨[.kill 0],[105],[],2⟩ ((p_w.eu.length:Int) == 0)) <|
 .ret ⟨[.kill 0],[105],[],2⟩ (false)
def Gs (r0:Bool) : Mo (Unit) :=
 .rt [2] 2 ()
def afv (p_w:aG) : Mo (Bool) :=
 .jp Tryz.f107 0 [1,1,1,0,1] 1 [1,3,4,10] 2 (.normal) (fun r_=>⟨[(1,.ptr 0 0),(3,.i_ p_w.aT),(4,.ptr 1 0)],[.box 52 (.dat (aG.lf1 p_w)),.box 49 (.dat (aS.lf1 r_))]⟩) ⟨[(1,.ptr 0 0),(3,.i_ p_w.aT),(4,.ptr 1 0),(10,.lf (.bool (p_w.aT == 7)))],[.box 52 (.dat (aG.lf1 p_w)),.box 49 (.agg ((aS.lf1 p_w.bG).map AV.lf))]⟩ (Na p_w).den (jW (by kernel_rfl)) fun r0 _ =>
 .sj Tryz.f107 0 [1,1,1,1,0] [0,1,2,3,4,5,6] 5 7 [1,3,4] 2 (fun r_=>⟨[(1,.ptr 0 0),(3,.i_ p_w.aT),(4,.ptr 1 0),(18,.b_ r_)],[.box 52 (.dat (aG.lf1 p_w)),.box 49 (.dat (aS.lf1 r0))]⟩) ⟨[(1,.ptr 0 0),(3,.i_ p_w.aT),(4,.ptr 1 0)],[.box 52 (.dat (aG.lf1 p_w)),.box 49 (.dat (aS.lf1 r0))]⟩ (Nb p_w r0).den (sW (by kernel_rfl)) fun r1 _ =>
 .sj Tryz.f107 0 [1,1,1,1,0] [7,8,9,10,11,12,13,14,15,16,17,18,19,20,21,22,23,24,25] 5 19 [1,3,4,18] 2 (fun r_=>⟨[(1,.ptr 0 0),(3,.i_ p_w.aT),(4,.ptr 1 0),(37,.b_ r_)],[.box 52 (.dat (aG.lf1 p_w)),.box 49 (.dat (aS.lf1 r0))]⟩) ⟨[(1,.ptr 0 0),(3,.i_ p_w.aT),(4,.ptr 1 0),(18,.b_ r1)],[.box 52 (.dat (aG.lf1 p_w)),.box 49 (.dat (aS.lf1 r0))]⟩ (Gg p_w r0 r1).den (sW (by kernel_rfl)) fun r2 _ =>
 .sj Tryz.f107 0 [1,1,1,1,0] [26,27,28,29,30,31,32,33,34] 5 9 [1,3,4,37] 2 (fun r_=>⟨[(1,.ptr 0 0),(3,.i_ p_w.aT),(4,.ptr 1 0),(46,.b_ r_)],[.box 52 (.dat (aG.lf1 p_w)),.box 49 (.dat (aS.lf1 r0))]⟩) ⟨[(1,.ptr 0 0),(3,.i_ p_w.aT),(4,.ptr 1 0),(37,.b_ r2)],[.box 52 (.dat (aG.lf1 p_w)),.box 49 (.dat (aS.lf1 r0))]⟩ (Gi p_w r0 r2).den (sW (by kernel_rfl)) fun r3 _ =>
 .sj Tryz.f107 0 [1,1,1,1,0] [35,36,37,38,39,40,41,42,43] 5 9 [1,3,4,46] 2 (fun r_=>⟨[(1,.ptr 0 0),(3,.i_ p_w.aT),(4,.ptr 1 0),(55,.b_ r_)],[.box 52 (.dat (aG.lf1 p_w)),.box 49 (.dat (aS.lf1 r0))]⟩) ⟨[(1,.ptr 0 0),(3,.i_ p_w.aT),(4,.ptr 1 0),(46,.b_ r3)],[.box 52 (.dat (aG.lf1 p_w)),.box 49 (.dat (aS.lf1 r0))]⟩ (Gj p_w r0 r3).den (sW (by kernel_rfl)) fun r4 _ =>
 .sj Tryz.f107 0 [1,1,1,1,0] [44,45,46,47,48,49,50,51] 5 8 [1,3,4,55] 2 (fun r_=>⟨[(1,.ptr 0 0),(3,.i_ p_w.aT),(63,.b_ r_)],[.box 52 (.dat (aG.lf1 p_w)),.dead]⟩) ⟨[(1,.ptr 0 0),(3,.i_ p_w.aT),(4,.ptr 1 0),(55,.b_ r4)],[.box 52 (.dat (aG.lf1 p_w)),.box 49 (.dat (aS.lf1 r0))]⟩ (Gl p_w r4 r0).den (sW (by kernel_rfl)) fun r5 _ =>
 .sj Tryz.f107 0 [1,1,1,1,0] [52,53,54,55,56,57,58,59,60] 5 9 [1,3,63] 2 (fun r_=>⟨[(1,.ptr 0 0),(3,.i_ p_w.aT),(72,.b_ r_)],[.box 52 (.dat (aG.lf1 p_w)),.dead]⟩) ⟨[(1,.ptr 0 0),(3,.i_ p_w.aT),(63,.b_ r5)],[.box 52 (.dat (aG.lf1 p_w)),.dead]⟩ (Gm p_w r5).den (sW (by kernel_rfl)) fun r6 _ =>
 .sj Tryz.f107 0 [1,1,1,1,0] [61,62,63,64,65,66,67,68,69,70,71,72,73] 5 13 [1,3,72] 2 (fun r_=>⟨[(1,.ptr 0 0),(3,.i_ p_w.aT),(85,.b_ r_)],[.box 52 (.dat (aG.lf1 p_w)),.dead]⟩) ⟨[(1,.ptr 0 0),(3,.i_ p_w.aT),(72,.b_ r6)],[.box 52 (.dat (aG.lf1 p_w)),.dead]⟩ (Gn p_w r6).den (sW (by kernel_rfl)) fun r7 _ =>
 .sj Tryz.f107 0 [1,1,1,1,0] [74,75,76,77,78,79,80,81,82,83] 5 10 [1,3,85] 2 (fun r_=>⟨[(1,.ptr 0 0),(3,.i_ p_w.aT),(95,.b_ r_)],[.box 52 (.dat (aG.lf1 p_w)),.dead]⟩) ⟨[(1,.ptr 0 0),(3,.i_ p_w.aT),(85,.b_ r7)],[.box 52 (.dat (aG.lf1 p_w)),.dead]⟩ (Gp p_w r7).den (sW (by kernel_rfl)) fun r8 _ =>
 .sj Tryz.f107 0 [1,1,1,1,0] [84,85,86,87,88,89,90,91,92,93] 5 10 [1,3,95] 2 (fun r_=>⟨[(105,.b_ r_)],[.dead,.dead]⟩) ⟨[(1,.ptr 0 0),(3,.i_ p_w.aT),(95,.b_ r8)],[.box 52 (.dat (aG.lf1 p_w)),.dead]⟩ (Gq p_w r8).den (sW (by kernel_rfl)) fun r9 _ =>
 .sj Tryz.f107 0 [1,1,1,1,0] [94] 5 1 [105] 2 (fun r_=>⟨[(2,.b_ r9)],[.dead,.dead]⟩) ⟨[(105,.b_ r9)],[.dead,.dead]⟩ (Gs r9).den (sW (by kernel_rfl)) fun r10 _ =>
 .ret (bn 1) (r9)
def Q22 (p_w:aG) : Option (Bool) := Mo.den (afv p_w)
theorem agY (p_w:aG) : FV (Q22 p_w) 107 [.dat (aG.lf1 p_w)] (fun r=>.b_ r) := dw Tryz.func107 (by kernel_rfl) (fun _=>rfl) (by kernel_rfl)
def Nc (p_l:List Int) (v0:Int) : Mo (Bool) :=
 .say [.order [(true,0),(true,1),(true,2),(true,3),(true,4),(true,5),(true,6),(true,7),(true,8),(true,9),(true,10),(true,11),(true,12),(true,13),(true,14),(true,15),(true,16),(true,17),(true,18),(true,19),(true,20),(true,21),(true,22),(true,23),(true,24),(true,25),(true,26),(true,27)] none []] ok0 <|
 .ask (bT p_l v0) fun x0 h0 =>
 .say [.row (lfI x0)] (ok1 (aX lI_ h0)) <|
 .iG 10005 (decide ((x0:Int) < 0)) (.rt [0,3,37] 0 (true)) <|
 .ask (bT p_l v0) fun x1 h1 =>
 .say [.row (lfI x1)] (ok1 (aX lI_ h1)) <|
 .iG 10012 (decide ((8:Int) ≤ x1)) (.rt [0,3,37] 0 (true)) <|
 .iG 10015 (decide ((0:Int) < v0)) (.ask (bT p_l (IntKind.wrap .i64 (v0 - 1))) fun x2 h2 =>
 .say [.row (lfI x2)] (ok1 (aX lI_ h2)) <|
 .ask (bT p_l v0) fun x3 h3 =>
 .say [.row (lfI x3)] (ok1 (aX lI_ h3)) <|
 .rt [0,3,37] 0 (decide ((x3:Int) ≤ x2))) <|
 .rt [0,3,37] 0 (false)
def CQ (p_l:List Int) : (Int) → Mo ((Int) ⊕ (Unit ⊕ Unit)) := fun (v0) =>
 .say [.num p_l.length] (ok1 (ln_ p_l lfI)) <|
 .iB (decide ((v0:Int) < (p_l.length:Int))) (.jp Tryz.f111 0 [1,0,1,0,0,1,0,0,0] 15 [0,3] 0 (.normal) (fun r_=>⟨[(0,.lf (.rows 1 (p_l.map lfI))),(3,.i_ v0),(37,.b_ r_)],[]⟩) ⟨[(0,.lf (.rows 1 (p_l.map lfI))),(3,.i_ v0)],[]⟩ (Nc p_l v0).den (jW (by kernel_rfl)) fun r0 _ =>
 .iB (r0) (.rt [2] 0 (.inr (.inl ()))) <|
 .rt [0,3] 0 (.inl (IntKind.wrap .i64 (v0 + 1)))) <|
 .rt [0] 0 (.inr (.inr (())))
def Zx (p_l:List Int) (v0:Int) : Option (Unit ⊕ Unit) := bJ (fun v_=>(CQ p_l v_).den) FU (v0)
def Nh (p_l:List Int) : (Int) → St := fun (v0)=>⟨[(0,.lf (.rows 1 (p_l.map lfI))),(3,.i_ v0)],[]⟩
def vP (r_:Unit ⊕ Unit) : Exit := match r_ with
 | .inl o_=>.ret
 | .inr (o_)=>.exit 0
def vS (p_l:List Int) (r_:Unit ⊕ Unit) : St := match r_ with
 | .inl o_=>⟨[(2,.b_ false)],[]⟩
 | .inr (o_)=>⟨[(0,.lf (.rows 1 (p_l.map lfI)))],[]⟩
theorem Nj {p_l:List Int} {v0:Int} {r_:Unit ⊕ Unit} (h:Zx p_l v0 = some r_) : gq Tryz.f111 0 [1,0,1,0] (vP r_) (vS p_l r_) (Nh p_l (v0)) :=
 dR dL (body := (Code.sub (bodyC Tryz.f111) [1,0,1,0,0])) (by kernel_rfl) (CQ p_l) (Nh p_l) vP (vS p_l) (fun r_=>by rcases r_ with _ | _ <;> rfl) (fun v_=>by kernel_rfl) h
def afw (p_l:List Int) : Mo (Bool) :=
 .eY (Zx p_l 0) (fun o0 h0 =>
 .say [.pt_ 0 [0,3] 0 (vP (.inl o0)) (vS p_l (.inl o0))] (ok1 (Nj h0)) <|
 .ret (bn 1) (false)) fun o1 h0 =>
 .say [.pt_ 0 [0,3] 0 (vP (.inr (o1))) (vS p_l (.inr (o1))),.num p_l.length] (okc (Nj h0) (ok1 (ln_ p_l lfI))) <|
 .ret (bn 1) (decide ((0:Int) < (p_l.length:Int)))
def Q37 (p_l:List Int) : Option (Bool) := Mo.den (afw p_l)
theorem agZ (p_l:List Int) : FV (Q37 p_l) 111 [.lf (.rows 1 (p_l.map lfI))] (fun r=>.b_ r) := dw Tryz.func111 (by kernel_rfl) (fun _=>rfl) (by kernel_rfl)
def Zy (p_v:ah) : Mo (Bool) :=
 .cl (qj p_v) fun r0 _ =>
 .iG 4002 (r0) (.rt [1,2,9] 1 (p_v.aT != 6)) <|
 .rt [1,2,9] 1 (false)
def Zz (p_v:ah) (r0:Bool) : Mo (Bool) :=
 .iG 4007 (r0) (.rt [1,2,14] 1 (p_v.aT != 1)) <|
 .rt [1,2,14] 1 (false)
def Wh (p_v:ah) (r0:Bool) : Mo (Bool) :=
 .iG 4012 (r0) (.ret ⟨[.kill 0],[2,19],[],1⟩ (p_v.aT != 11)) <|
 .ret ⟨[.kill 0],[2,19],[],1⟩ (false)
def Wi (r0:Bool) : Mo (Unit) :=
 .rt [2] 1 ()
def afx (p_v:ah) : Mo (Bool) :=
 .sj Tryz.f113 0 [1,0] [0,1,2,3,4,5,6] 1 7 [1,2] 1 (fun r_=>⟨[(1,.ptr 0 0),(2,.b_ false),(9,.b_ r_)],[.box 29 (.dat (ah.lf1 p_v))]⟩) ⟨[(1,.ptr 0 0),(2,.b_ false)],[.box 29 (.dat (ah.lf1 p_v))]⟩ (Zy p_v).den (sW (by kernel_rfl)) fun r0 _ =>
 .sj Tryz.f113 0 [1,0] [7,8,9,10,11] 1 5 [1,2,9] 1 (fun r_=>⟨[(1,.ptr 0 0),(2,.b_ false),(14,.b_ r_)],[.box 29 (.dat (ah.lf1 p_v))]⟩) ⟨[(1,.ptr 0 0),(2,.b_ false),(9,.b_ r0)],[.box 29 (.dat (ah.lf1 p_v))]⟩ (Zz p_v r0).den (sW (by kernel_rfl)) fun r1 _ =>
 .sj Tryz.f113 0 [1,0] [12,13,14,15,16] 1 5 [1,2,14] 1 (fun r_=>⟨[(2,.b_ false),(19,.b_ r_)],[.dead]⟩) ⟨[(1,.ptr 0 0),(2,.b_ false),(14,.b_ r1)],[.box 29 (.dat (ah.lf1 p_v))]⟩ (Wh p_v r1).den (sW (by kernel_rfl)) fun r2 _ =>
 .sj Tryz.f113 0 [1,0] [17] 1 1 [2,19] 1 (fun r_=>⟨[(2,.b_ r2)],[.dead]⟩) ⟨[(2,.b_ false),(19,.b_ r2)],[.dead]⟩ (Wi r2).den (sW (by kernel_rfl)) fun r3 _ =>
 .ret (bn 1) (r2)
def Q70 (p_v:ah) : Option (Bool) := Mo.den (afx p_v)
theorem ag0 (p_v:ah) : FV (Q70 p_v) 113 [.dat (ah.lf1 p_v)] (fun r=>.b_ r) := dw Tryz.func113 (by kernel_rfl) (fun _=>rfl) (by kernel_rfl)
def Nk (p_doc:ah) : Mo (Bool) :=
 .cl (qj p_doc) fun r0 _ =>
 .ite (!r0) (fun c0 =>
 .say [.gd 4003 true] (ok1 c0) <|
 .rt [1,2,13] 2 (true)) fun c0 =>
 .say [.gd 4003 false,.num p_doc.bU.length] (okc c0 (ok1 (ln_ p_doc.bU aO.lf))) <|
 .rt [1,2,13] 2 ((p_doc.bU.length:Int) == 0)
def Nl (p_doc:ah) (r0:Bool) : Mo (Bool) :=
 .iG 4009 (r0) (.rt [1,2,21] 2 (true)) <|
 .ask (bT p_doc.bU 0) fun x0 h0 =>
 .say [.row (aO.lf1 x0)] (ok1 (aX aO.aU h0)) <|
 .rt [1,2,21] 2 (!decide ((x0.fName:ByteArray) = (⟨#[95,105,100]⟩ : ByteArray)))
def zh (x0:aO) : Mo (Bool) :=
 .iG 10003 (x0.fValue.aT == 6) (.rt [2,4,35] 3 (true)) <|
 .rt [2,4,35] 3 (x0.fValue.aT == 1)
def Jf (x0:aO) : Option (Bool) := Mo.den (zh x0)
def qX (x0:aO) (r_:Bool) : St := ⟨[(2,.ptr 1 0),(4,.ptr 2 0),(35,.b_ r_)],[.dead,.box 29 (.agg [.i_ 0,.i_ 0,.lf (.str ⟨#[]⟩),.bH 5,.bH 6]),.box 29 (.agg [.i_ x0.fValue.aT,.i_ x0.fValue.jK,.lf (.str x0.fValue.fText),.lf (.rows 5 (x0.fValue.bV.map ah.lf)),.lf (.rows 6 (x0.fValue.bU.map aO.lf))])]⟩
theorem Wj {x0:aO} {r_:Bool} (h:Jf x0 = some r_) : KJ Tryz.f199 0 [1,1,1,0,0] [0,1,2,3,4,5,6,7] (qX x0 r_) ⟨[(2,.ptr 1 0),(4,.ptr 2 0)],[.dead,.box 29 (.agg [.i_ 0,.i_ 0,.lf (.str ⟨#[]⟩),.bH 5,.bH 6]),.box 29 (.agg [.i_ x0.fValue.aT,.i_ x0.fValue.jK,.lf (.str x0.fValue.fText),.lf (.rows 5 (x0.fValue.bV.map ah.lf)),.lf (.rows 6 (x0.fValue.bU.map aO.lf))])]⟩ :=
 Uz dL (zh x0) (qX x0) (by kernel_rfl) h
def Gt (r0:Bool) (x0:aO) : Mo (Bool) :=
 .iG 10008 (r0) (.rt [2,4,40] 3 (true)) <|
 .rt [2,4,40] 3 (x0.fValue.aT == 11)
def afy (p_doc:ah) : Mo (ah × Bool) :=
 .sj Tryz.f199 0 [1,0,0] [0,1,2,3,4,5,6,7,8] 1 9 [1,2] 2 (fun r_=>⟨[(1,.ptr 0 0),(2,.ptr 1 0),(13,.b_ r_)],[.box 29 (.dat (ah.lf1 p_doc)),.box 29 (.agg [.i_ 0,.i_ 0,.lf (.str ⟨#[]⟩),.bH 5,.bH 6])]⟩) ⟨[(1,.ptr 0 0),(2,.ptr 1 0)],[.box 29 (.dat (ah.lf1 p_doc)),.box 29 (.agg [.i_ 0,.i_ 0,.lf (.str ⟨#[]⟩),.bH 5,.bH 6])]⟩ (Nk p_doc).den (sW (by kernel_rfl)) fun r0 _ =>
 .sj Tryz.f199 0 [1,0,0] [9,10,11,12,13,14,15,16] 1 8 [1,2,13] 2 (fun r_=>⟨[(1,.ptr 0 0),(2,.ptr 1 0),(21,.b_ r_)],[.box 29 (.dat (ah.lf1 p_doc)),.box 29 (.agg [.i_ 0,.i_ 0,.lf (.str ⟨#[]⟩),.bH 5,.bH 6])]⟩) ⟨[(1,.ptr 0 0),(2,.ptr 1 0),(13,.b_ r0)],[.box 29 (.dat (ah.lf1 p_doc)),.box 29 (.agg [.i_ 0,.i_ 0,.lf (.str ⟨#[]⟩),.bH 5,.bH 6])]⟩ (Nl p_doc r0).den (sW (by kernel_rfl)) fun r1 _ =>
 .iB (r1) (.ret (bn 2) (ah.mk 0 0 ⟨#[]⟩ [] [],false)) <|
 .ask (bT p_doc.bU 0) fun x0 h0 =>
 .say [.row (aO.lf1 x0)] (ok1 (aX aO.aU h0)) <|
 .ask (Jf x0) fun r2 h1 =>
 .say [.seg 4 [.kill 0] 8 [2,4] 3 (qX x0 r2).T (qX x0 r2).H] (ok1 (Wj h1)) <|
 .sj Tryz.f199 0 [1,1,1,0,0] [8,9,10,11,12] 4 5 [2,4,35] 3 (fun r_=>⟨[(2,.ptr 1 0),(4,.ptr 2 0),(40,.b_ r_)],[.dead,.box 29 (.agg [.i_ 0,.i_ 0,.lf (.str ⟨#[]⟩),.bH 5,.bH 6]),.box 29 (.agg [.i_ x0.fValue.aT,.i_ x0.fValue.jK,.lf (.str x0.fValue.fText),.lf (.rows 5 (x0.fValue.bV.map ah.lf)),.lf (.rows 6 (x0.fValue.bU.map aO.lf))])]⟩) ⟨[(2,.ptr 1 0),(4,.ptr 2 0),(35,.b_ r2)],[.dead,.box 29 (.agg [.i_ 0,.i_ 0,.lf (.str ⟨#[]⟩),.bH 5,.bH 6]),.box 29 (.agg [.i_ x0.fValue.aT,.i_ x0.fValue.jK,.lf (.str x0.fValue.fText),.lf (.rows 5 (x0.fValue.bV.map ah.lf)),.lf (.rows 6 (x0.fValue.bU.map aO.lf))])]⟩ (Gt r2 x0).den (sW (by kernel_rfl)) fun r3 _ =>
 .iB (r3) (.ret (bn 2) (ah.mk 0 0 ⟨#[]⟩ [] [],false)) <|
 .ret (bn 2) (x0.fValue,true)
def Q49 (p_doc:ah) : Option (ah × Bool) := Mo.den (afy p_doc)
theorem ag1 (p_doc:ah) : FV (Q49 p_doc) 199 [.dat (ah.lf1 p_doc)] (fun r=>.tup [.dat (ah.lf1 r.1),.b_ r.2]) := dw Tryz.func199 (by kernel_rfl) (fun _=>rfl) (by kernel_rfl)
def ZA (p_v:ah) : Mo (Int × Int) :=
 .cl (UW p_v) fun r0 _ =>
 .ret (bn 2) ((r0.1.size:Int),r0.2)
def ag2 (p_v:ah) : Option (Int × Int) := Mo.den (ZA p_v)
theorem adE (p_v:ah) : FV (ag2 p_v) 200 [.dat (ah.lf1 p_v)] (fun r=>.tup [.i_ r.1,.i_ r.2]) := dw Tryz.func200 (by kernel_rfl) (fun _=>rfl) (by kernel_rfl)
def ZB (p_doc:ah) : Mo (Int) :=
 .cl (ag1 p_doc) fun r0 _ =>
 .iB (!r0.2) (.ret (bn 1) (8)) <|
 .cl (adE p_doc) fun r1 _ =>
 .iB (r1.2 != 0) (.ret (bn 1) (r1.2)) <|
 .iB (decide ((16384:Int) < r1.1)) (.ret (bn 1) (2)) <|
 .ret (bn 1) (0)
def adF (p_doc:ah) : Option (Int) := Mo.den (ZB p_doc)
theorem U0 (p_doc:ah) : FV (adF p_doc) 155 [.dat (ah.lf1 p_doc)] (fun r=>.i_ r) := dw Tryz.func155 (by kernel_rfl) (fun _=>rfl) (by kernel_rfl)
def ZC (p_a:Int) (p_b:Int) : Mo (Int) :=
 .iB (decide ((p_a:Int) < p_b)) (.ret (bn 1) ((-1))) <|
 .iB (decide ((p_b:Int) < p_a)) (.ret (bn 1) (1)) <|
 .ret (bn 1) (0)
def adG (p_a:Int) (p_b:Int) : Option (Int) := Mo.den (ZC p_a p_b)
theorem qY (p_a:Int) (p_b:Int) : FV (adG p_a p_b) 201 [.i_ p_a,.i_ p_b] (fun r=>.i_ r) := dw Tryz.func201 (by kernel_rfl) (fun _=>rfl) (by kernel_rfl)
def Np (p_a:ByteArray) (p_b:ByteArray) (v0:Int) : Mo (Bool) :=
 .iG 6004 (decide ((v0:Int) < (p_a.size:Int))) (.rt [0,1,5,15] 0 (decide ((v0:Int) < (p_b.size:Int)))) <|
 .rt [0,1,5,15] 0 (false)
def CS (p_a:ByteArray) (p_b:ByteArray) : (Int) → Mo ((Int) ⊕ (Int) ⊕ Unit) := fun (v0) =>
 .jp Tryz.f202 0 [1,0,1,0,0,0,0] 11 [0,1,5] 0 (.normal) (fun r_=>⟨[(0,.lf (.str p_a)),(1,.lf (.str p_b)),(5,.i_ v0),(15,.b_ r_)],[]⟩) ⟨[(0,.lf (.str p_a)),(1,.lf (.str p_b)),(5,.i_ v0)],[]⟩ (Np p_a p_b v0).den (jW (by kernel_rfl)) fun r0 _ =>
 .ite (r0) (fun c0 =>
 .say [.br true,.order [(true,0),(true,1),(true,2),(true,3),(true,4),(true,5),(true,6)] none []] (ok1 c0) <|
 .ask (lH p_a v0) fun b0 h0 =>
 .say [.byt b0] (ok1 (iF h0)) <|
 .ask (lH p_b v0) fun b1 h1 =>
 .say [.byt b1] (ok1 (iF h1)) <|
 .iB ((b0.toNat:Int) != (b1.toNat:Int)) (.ask (lH p_a v0) fun b2 h2 =>
 .say [] (ok1 (iF h2)) <|
 .ask (lH p_b v0) fun b3 h3 =>
 .say [] (ok1 (iF h3)) <|
 .ask (adG (IntKind.wrap .i64 (b2.toNat:Int)) (IntKind.wrap .i64 (b3.toNat:Int))) fun r1 h4 =>
 .say [.dM (.q 0 (.q 1 (.q 2 (.q 3 (.q 4 (.q 5 (.q 6 (.q 7 (.l 8 (.q 9 .fin)))))))))) (some 8) [] [.byt b2,.byt b3,.res (.i_ r1)] [4] 0 [(4,.i_ r1)] []] (okc (qY _ _ _ h4) (ok1 (rf_ ⟨[(4,.i_ r1)],[]⟩))) <|
 .rt [4] 0 (.inr (.inl (r1)))) <|
 .rt [0,1,5] 0 (.inl (IntKind.wrap .i64 (v0 + 1)))) fun c0 =>
 .say [.br false] (ok1 c0) <|
 .rt [0,1] 0 (.inr (.inr (())))
def Si (p_a:ByteArray) (p_b:ByteArray) (v0:Int) : Option ((Int) ⊕ Unit) := bJ (fun v_=>(CS p_a p_b v_).den) FU (v0)
def Nq (p_a:ByteArray) (p_b:ByteArray) : (Int) → St := fun (v0)=>⟨[(0,.lf (.str p_a)),(1,.lf (.str p_b)),(5,.i_ v0)],[]⟩
def vT (r_:(Int) ⊕ Unit) : Exit := match r_ with
 | .inl o_=>.ret
 | .inr (o_)=>.exit 0
def vU (p_a:ByteArray) (p_b:ByteArray) (r_:(Int) ⊕ Unit) : St := match r_ with
 | .inl o_=>⟨[(4,.i_ o_)],[]⟩
 | .inr (o_)=>⟨[(0,.lf (.str p_a)),(1,.lf (.str p_b))],[]⟩
theorem Nr {p_a:ByteArray} {p_b:ByteArray} {v0:Int} {r_:(Int) ⊕ Unit} (h:Si p_a p_b v0 = some r_) : gq Tryz.f202 0 [1,0,1,0] (vT r_) (vU p_a p_b r_) (Nq p_a p_b (v0)) :=
 dR dL (body := (Code.sub (bodyC Tryz.f202) [1,0,1,0,0])) (by kernel_rfl) (CS p_a p_b) (Nq p_a p_b) vT (vU p_a p_b) (fun r_=>by rcases r_ with _ | _ <;> rfl) (fun v_=>by kernel_rfl) h
def afz (p_a:ByteArray) (p_b:ByteArray) : Mo (Int) :=
 .eY (Si p_a p_b 0) (fun o0 h0 =>
 .say [.pt_ 0 [0,1,5] 0 (vT (.inl o0)) (vU p_a p_b (.inl o0))] (ok1 (Nr h0)) <|
 .ret (bn 1) (o0)) fun o1 h0 =>
 .say [.pt_ 0 [0,1,5] 0 (vT (.inr (o1))) (vU p_a p_b (.inr (o1)))] (ok1 (Nr h0)) <|
 .cl (qY (p_a.size:Int) (p_b.size:Int)) fun r0 _ =>
 .ret (bn 1) (r0)
def Q33 (p_a:ByteArray) (p_b:ByteArray) : Option (Int) := Mo.den (afz p_a p_b)
theorem ZE (p_a:ByteArray) (p_b:ByteArray) : FV (Q33 p_a p_b) 202 [.lf (.str p_a),.lf (.str p_b)] (fun r=>.i_ r) := dw Tryz.func202 (by kernel_rfl) (fun _=>rfl) (by kernel_rfl)
structure RB9 where
 m1:(p_a:ah) → (p_b:ah) → Option (Int)
 ok1:∀ p_a p_b,FV (m1 p_a p_b) 156 [.dat (ah.lf1 p_a),.dat (ah.lf1 p_b)] (fun r=>.i_ r)
def U1 (R_:RB9) (p_a:ah) (p_b:ah) : Mo (Bool) :=
 .iB (p_a.aT == 3) (.rt [2,3,20,21] 2 (p_a.aT == 3)) <|
 .iB (p_a.aT == 9) (.rt [2,3,20,21] 2 (p_a.aT == 9)) <|
 .rt [2,3,20,21] 2 (p_a.aT == 10)
def U2 (R_:RB9) (p_a:ah) (p_b:ah) : Mo (Bool) :=
 .iB (p_a.aT == 4) (.rt [2,3,20,30] 2 (p_a.aT == 4)) <|
 .iB (p_a.aT == 7) (.rt [2,3,20,30] 2 (p_a.aT == 7)) <|
 .rt [2,3,20,30] 2 (p_a.aT == 8)
def Ns (R_:RB9) (p_a:ah) (p_b:ah) (v0:Int) : Mo (Bool) :=
 .say [.num p_a.bV.length] (ok1 (ln_ p_a.bV ah.lf)) <|
 .ite (decide ((v0:Int) < (p_a.bV.length:Int))) (fun c0 =>
 .say [.gd 30005 true,.num p_b.bV.length] (okc c0 (ok1 (ln_ p_b.bV ah.lf))) <|
 .rt [2,3,5,52] 2 (decide ((v0:Int) < (p_b.bV.length:Int)))) fun c0 =>
 .say [.gd 30005 false] (ok1 c0) <|
 .rt [2,3,5,52] 2 (false)
def CU (R_:RB9) (p_a:ah) (p_b:ah) : (Int) → Mo ((Int) ⊕ (Int) ⊕ Unit) := fun (v0) =>
 .jp Tryz.f156 0 [1,1,0,1,0,1,1,1,1,1,0,0,1,0,0,0,0] 35 [2,3,5] 2 (.normal) (fun r_=>⟨[(2,.ptr 0 0),(3,.ptr 1 0),(5,.i_ v0),(52,.b_ r_)],[.box 29 (.dat (ah.lf1 p_a)),.box 29 (.dat (ah.lf1 p_b))]⟩) ⟨[(2,.ptr 0 0),(3,.ptr 1 0),(5,.i_ v0)],[.box 29 (.dat (ah.lf1 p_a)),.box 29 (.dat (ah.lf1 p_b))]⟩ (Ns R_ p_a p_b v0).den (jW (by kernel_rfl)) fun r0 _ =>
 .iB (r0) (.ask (bT p_a.bV v0) fun x0 h0 =>
 .say [] (ok1 (aX ah.aU h0)) <|
 .ask (bT p_b.bV v0) fun x1 h1 =>
 .say [] (ok1 (aX ah.aU h1)) <|
 .ask (R_.m1 x0 x1) fun r1 h2 =>
 .say [.dM (.q 0 (.q 1 (.q 2 (.q 3 (.q 4 (.q 5 (.q 6 (.q 7 (.q 8 (.q 9 (.l 10 (.q 11 .fin)))))))))))) (some 10) [] [.row (ah.lf1 x0),.row (ah.lf1 x1),.res (.i_ r1)] [2,3,5,6] 2 [(2,.ptr 0 0),(3,.ptr 1 0),(5,.i_ v0),(6,.i_ r1)] [.box 29 (.dat (ah.lf1 p_a)),.box 29 (.dat (ah.lf1 p_b))]] (okc (R_.ok1 _ _ _ h2) (ok1 (rf_ ⟨[(2,.ptr 0 0),(3,.ptr 1 0),(5,.i_ v0),(6,.i_ r1)],[.box 29 (.dat (ah.lf1 p_a)),.box 29 (.dat (ah.lf1 p_b))]⟩))) <|
 .iB (r1 != 0) (.ret ⟨[.kill 0,.kill 1],[4],[],2⟩ (.inr (.inl (r1)))) <|
 .rt [2,3,5] 2 (.inl (IntKind.wrap .i64 (v0 + 1)))) <|
 .rt [2,3] 2 (.inr (.inr (())))
def Sj (R_:RB9) (p_a:ah) (p_b:ah) (v0:Int) : Option ((Int) ⊕ Unit) := bJ (fun v_=>(CU R_ p_a p_b v_).den) FU (v0)
def Nu (R_:RB9) (p_a:ah) (p_b:ah) : (Int) → St := fun (v0)=>⟨[(2,.ptr 0 0),(3,.ptr 1 0),(5,.i_ v0)],[.box 29 (.dat (ah.lf1 p_a)),.box 29 (.dat (ah.lf1 p_b))]⟩
def vV (r_:(Int) ⊕ Unit) : Exit := match r_ with
 | .inl o_=>.ret
 | .inr (o_)=>.exit 1
def vW (p_a:ah) (p_b:ah) (r_:(Int) ⊕ Unit) : St := match r_ with
 | .inl o_=>⟨[(4,.i_ o_)],[.dead,.dead]⟩
 | .inr (o_)=>⟨[(2,.ptr 0 0),(3,.ptr 1 0)],[.box 29 (.dat (ah.lf1 p_a)),.box 29 (.dat (ah.lf1 p_b))]⟩
theorem Nv {R_:RB9} {p_a:ah} {p_b:ah} {v0:Int} {r_:(Int) ⊕ Unit} (h:Sj R_ p_a p_b v0 = some r_) : gq Tryz.f156 0 [1,1,0,1,0,1,1,1,1,1,0,0,1,0] (vV r_) (vW p_a p_b r_) (Nu R_ p_a p_b (v0)) :=
 dR dL (body := (Code.sub (bodyC Tryz.f156) [1,1,0,1,0,1,1,1,1,1,0,0,1,0,0])) (by kernel_rfl) (CU R_ p_a p_b) (Nu R_ p_a p_b) vV (vW p_a p_b) (fun r_=>by rcases r_ with _ | _ <;> rfl) (fun v_=>by kernel_rfl) h
def Nw (R_:RB9) (p_a:ah) (p_b:ah) (v0:Int) : Mo (Bool) :=
 .say [.num p_a.bU.length] (ok1 (ln_ p_a.bU aO.lf)) <|
 .ite (decide ((v0:Int) < (p_a.bU.length:Int))) (fun c0 =>
 .say [.gd 46005 true,.num p_b.bU.length] (okc c0 (ok1 (ln_ p_b.bU aO.lf))) <|
 .rt [2,3,7,89] 2 (decide ((v0:Int) < (p_b.bU.length:Int)))) fun c0 =>
 .say [.gd 46005 false] (ok1 c0) <|
 .rt [2,3,7,89] 2 (false)
def Ny (R_:RB9) (p_a:ah) (p_b:ah) (r0:Int) (v0:Int) : Mo (Int) :=
 .iB (r0 == 0) (.ask (bT p_a.bU v0) fun x0 h0 =>
 .say [] (ok1 (aX aO.aU h0)) <|
 .ask (bT p_b.bU v0) fun x1 h1 =>
 .say [] (ok1 (aX aO.aU h1)) <|
 .ask (R_.m1 x0.fValue x1.fValue) fun r1 h2 =>
 .say [.dM (.q 0 (.q 1 (.q 2 (.q 3 (.q 4 (.q 5 (.q 6 (.q 7 (.q 8 (.q 9 (.q 10 (.q 11 (.l 12 (.q 13 .fin)))))))))))))) (some 12) [] [.row (aO.lf1 x0),.row (aO.lf1 x1),.res (.i_ r1)] [2,3,7,8] 2 [(2,.ptr 0 0),(3,.ptr 1 0),(7,.i_ v0),(8,.i_ r1)] [.box 29 (.dat (ah.lf1 p_a)),.box 29 (.dat (ah.lf1 p_b))]] (okc (R_.ok1 _ _ _ h2) (ok1 (rf_ ⟨[(2,.ptr 0 0),(3,.ptr 1 0),(7,.i_ v0),(8,.i_ r1)],[.box 29 (.dat (ah.lf1 p_a)),.box 29 (.dat (ah.lf1 p_b))]⟩))) <|
 .rt [2,3,7,8] 2 (r1)) <|
 .rt [2,3,7,8] 2 (r0)
def CV (R_:RB9) (p_a:ah) (p_b:ah) : (Int) → Mo ((Int) ⊕ (Int) ⊕ Unit) := fun (v0) =>
 .jp Tryz.f156 0 [1,1,0,1,0,1,1,1,1,1,1,1,0,0,1,0,0,0,0] 51 [2,3,7] 2 (.normal) (fun r_=>⟨[(2,.ptr 0 0),(3,.ptr 1 0),(7,.i_ v0),(89,.b_ r_)],[.box 29 (.dat (ah.lf1 p_a)),.box 29 (.dat (ah.lf1 p_b))]⟩) ⟨[(2,.ptr 0 0),(3,.ptr 1 0),(7,.i_ v0)],[.box 29 (.dat (ah.lf1 p_a)),.box 29 (.dat (ah.lf1 p_b))]⟩ (Nw R_ p_a p_b v0).den (jW (by kernel_rfl)) fun r0 _ =>
 .iB (r0) (.ask (bT p_a.bU v0) fun x0 h0 =>
 .say [] (ok1 (aX aO.aU h0)) <|
 .ask (bT p_b.bU v0) fun x1 h1 =>
 .say [] (ok1 (aX aO.aU h1)) <|
 .ask (Q33 x0.fName x1.fName) fun r1 h2 =>
 .say [.dM (.q 0 (.q 1 (.q 2 (.q 3 (.q 4 (.q 5 (.q 6 (.q 7 (.q 8 (.q 9 (.q 10 (.q 11 (.l 12 (.q 13 .fin)))))))))))))) (some 12) [] [.row (aO.lf1 x0),.row (aO.lf1 x1),.res (.i_ r1)] [2,3,7,8] 2 [(2,.ptr 0 0),(3,.ptr 1 0),(7,.i_ v0),(8,.i_ r1)] [.box 29 (.dat (ah.lf1 p_a)),.box 29 (.dat (ah.lf1 p_b))]] (okc (ZE _ _ _ h2) (ok1 (rf_ ⟨[(2,.ptr 0 0),(3,.ptr 1 0),(7,.i_ v0),(8,.i_ r1)],[.box 29 (.dat (ah.lf1 p_a)),.box 29 (.dat (ah.lf1 p_b))]⟩))) <|
 .jp Tryz.f156 0 [1,1,0,1,0,1,1,1,1,1,1,1,0,0,1,0,0,1,0,0,1,0,1] 1 [2,3,7,8,106] 2 (.normal) (fun r_=>⟨[(2,.ptr 0 0),(3,.ptr 1 0),(7,.i_ v0),(8,.i_ r_)],[.box 29 (.dat (ah.lf1 p_a)),.box 29 (.dat (ah.lf1 p_b))]⟩) ⟨[(2,.ptr 0 0),(3,.ptr 1 0),(7,.i_ v0),(8,.i_ r1),(106,.lf (.bool (r1 == 0)))],[.box 29 (.dat (ah.lf1 p_a)),.box 29 (.dat (ah.lf1 p_b))]⟩ (Ny R_ p_a p_b r1 v0).den (jW (by kernel_rfl)) fun r2 _ =>
 .iB (r2 != 0) (.ret ⟨[.kill 0,.kill 1],[4],[],2⟩ (.inr (.inl (r2)))) <|
 .rt [2,3,7] 2 (.inl (IntKind.wrap .i64 (v0 + 1)))) <|
 .rt [2,3] 2 (.inr (.inr (())))
def Sm (R_:RB9) (p_a:ah) (p_b:ah) (v0:Int) : Option ((Int) ⊕ Unit) := bJ (fun v_=>(CV R_ p_a p_b v_).den) FU (v0)
def Nz (R_:RB9) (p_a:ah) (p_b:ah) : (Int) → St := fun (v0)=>⟨[(2,.ptr 0 0),(3,.ptr 1 0),(7,.i_ v0)],[.box 29 (.dat (ah.lf1 p_a)),.box 29 (.dat (ah.lf1 p_b))]⟩
def vX (r_:(Int) ⊕ Unit) : Exit := match r_ with
 | .inl o_=>.ret
 | .inr (o_)=>.exit 3
def vY (p_a:ah) (p_b:ah) (r_:(Int) ⊕ Unit) : St := match r_ with
 | .inl o_=>⟨[(4,.i_ o_)],[.dead,.dead]⟩
 | .inr (o_)=>⟨[(2,.ptr 0 0),(3,.ptr 1 0)],[.box 29 (.dat (ah.lf1 p_a)),.box 29 (.dat (ah.lf1 p_b))]⟩
theorem NC {R_:RB9} {p_a:ah} {p_b:ah} {v0:Int} {r_:(Int) ⊕ Unit} (h:Sm R_ p_a p_b v0 = some r_) : gq Tryz.f156 0 [1,1,0,1,0,1,1,1,1,1,1,1,0,0,1,0] (vX r_) (vY p_a p_b r_) (Nz R_ p_a p_b (v0)) :=
 dR dL (body := (Code.sub (bodyC Tryz.f156) [1,1,0,1,0,1,1,1,1,1,1,1,0,0,1,0,0])) (by kernel_rfl) (CV R_ p_a p_b) (Nz R_ p_a p_b) vX (vY p_a p_b) (fun r_=>by rcases r_ with _ | _ <;> rfl) (fun v_=>by kernel_rfl) h
def ag3 (R_:RB9) (p_a:ah) (p_b:ah) : Mo (Int) :=
 .iB (p_a.aT != p_b.aT) (.cl (qY p_a.aT p_b.aT) fun r0 _ =>
 .ret (bn 1) (r0)) <|
 .jp Tryz.f156 0 [1,1,0,1,0,0,1] 1 [2,3,20,21] 2 (.normal) (fun r_=>⟨[(2,.ptr 0 0),(3,.ptr 1 0),(20,.i_ p_a.aT),(21,.b_ r_)],[.box 29 (.dat (ah.lf1 p_a)),.box 29 (.dat (ah.lf1 p_b))]⟩) ⟨[(2,.ptr 0 0),(3,.ptr 1 0),(20,.i_ p_a.aT),(21,.lf (.bool (p_a.aT == 3)))],[.box 29 (.dat (ah.lf1 p_a)),.box 29 (.dat (ah.lf1 p_b))]⟩ (U1 R_ p_a p_b).den (jW (by kernel_rfl)) fun r1 _ =>
 .iB (r1) (.cl (qY p_a.jK p_b.jK) fun r2 _ =>
 .ret (bn 1) (r2)) <|
 .jp Tryz.f156 0 [1,1,0,1,0,1,1,0,1] 1 [2,3,20,30] 2 (.normal) (fun r_=>⟨[(2,.ptr 0 0),(3,.ptr 1 0),(20,.i_ p_a.aT),(30,.b_ r_)],[.box 29 (.dat (ah.lf1 p_a)),.box 29 (.dat (ah.lf1 p_b))]⟩) ⟨[(2,.ptr 0 0),(3,.ptr 1 0),(20,.i_ p_a.aT),(30,.lf (.bool (p_a.aT == 4)))],[.box 29 (.dat (ah.lf1 p_a)),.box 29 (.dat (ah.lf1 p_b))]⟩ (U2 R_ p_a p_b).den (jW (by kernel_rfl)) fun r3 _ =>
 .iB (r3) (.cl (ZE p_a.fText p_b.fText) fun r4 _ =>
 .ret (bn 1) (r4)) <|
 .iB (p_a.aT == 6) (.eY (Sj R_ p_a p_b 0) (fun o0 h0 =>
 .say [.pt_ 0 [2,3,5] 2 (vV (.inl o0)) (vW p_a p_b (.inl o0))] (ok1 (Nv h0)) <|
 .ret (bn 1) (o0)) fun o1 h0 =>
 .say [.pt_ 0 [2,3,5] 2 (vV (.inr (o1))) (vW p_a p_b (.inr (o1))),.num p_a.bV.length,.num p_b.bV.length] (okc (Nv h0) (okc (ln_ p_a.bV ah.lf) (ok1 (ln_ p_b.bV ah.lf)))) <|
 .cl (qY (p_a.bV.length:Int) (p_b.bV.length:Int)) fun r5 _ =>
 .ret (bn 1) (r5)) <|
 .iB (p_a.aT == 5) (.eY (Sm R_ p_a p_b 0) (fun o2 h1 =>
 .say [.pt_ 0 [2,3,7] 2 (vX (.inl o2)) (vY p_a p_b (.inl o2))] (ok1 (NC h1)) <|
 .ret (bn 1) (o2)) fun o3 h1 =>
 .say [.pt_ 0 [2,3,7] 2 (vX (.inr (o3))) (vY p_a p_b (.inr (o3))),.num p_a.bU.length,.num p_b.bU.length] (okc (NC h1) (okc (ln_ p_a.bU aO.lf) (ok1 (ln_ p_b.bU aO.lf)))) <|
 .cl (qY (p_a.bU.length:Int) (p_b.bU.length:Int)) fun r6 _ =>
 .ret (bn 1) (r6)) <|
 .ret (bn 1) (0)
theorem ag4 (R_:RB9) (p_a:ah) (p_b:ah) : FV (Mo.den (ag3 R_ p_a p_b)) 156 [.dat (ah.lf1 p_a),.dat (ah.lf1 p_b)] (fun r=>.i_ r) := dw Tryz.func156 (by kernel_rfl) (fun _=>rfl) (by kernel_rfl)
def Gu:Nat → RB9
 | 0=>{ m1 := fun p_a p_b=>none,ok1 := fun _ _ _ h=>(by cases h) }
 | n_ + 1=>{ m1 := fun p_a p_b=>Mo.den (ag3 (Gu n_) p_a p_b),ok1 := ag4 (Gu n_) }
def Q3 (p_a:ah) (p_b:ah) : Option (Int) := (Gu FU).m1 p_a p_b
theorem aiU (p_a:ah) (p_b:ah) : FV (Q3 p_a p_b) 156 [.dat (ah.lf1 p_a),.dat (ah.lf1 p_b)] (fun r=>.i_ r) := (Gu FU).ok1 p_a p_b
def Gv (p_doc:ah) (p_key:ah) (r0:Int) : Mo (Bool) :=
 .iG 6002 (r0 != 0) (.rt [2,3,5,13] 2 (r0 != 2)) <|
 .rt [2,3,5,13] 2 (false)
def ZF (p_doc:ah) (p_key:ah) : Mo (Int) :=
 .cl (U0 p_doc) fun r0 _ =>
 .jp Tryz.f114 0 [1,0,1,0] 11 [2,3,5] 2 (.normal) (fun r_=>⟨[(2,.ptr 0 0),(3,.ptr 1 0),(5,.i_ r0),(13,.b_ r_)],[.box 29 (.dat (ah.lf1 p_doc)),.box 29 (.dat (ah.lf1 p_key))]⟩) ⟨[(2,.ptr 0 0),(3,.ptr 1 0),(5,.i_ r0)],[.box 29 (.dat (ah.lf1 p_doc)),.box 29 (.dat (ah.lf1 p_key))]⟩ (Gv p_doc p_key r0).den (jW (by kernel_rfl)) fun r1 _ =>
 .iB (r1) (.ret (bn 1) (r0)) <|
 .ask (bT p_doc.bU 0) fun x0 h0 =>
 .say [] (ok1 (aX aO.aU h0)) <|
 .ask (Q3 x0.fValue p_key) fun r2 h1 =>
 .say [.dM (.q 0 (.q 1 (.q 2 (.q 3 (.q 4 (.q 5 (.l 6 (.q 7 .fin)))))))) (some 6) [] [.row (aO.lf1 x0),.res (.i_ r2)] [2,22] 2 [(2,.ptr 0 0),(22,.lf (.bool (r2 != 0)))] [.box 29 (.dat (ah.lf1 p_doc)),.box 29 (.dat (ah.lf1 p_key))]] (okc (aiU _ _ _ h1) (ok1 (rf_ ⟨[(2,.ptr 0 0),(22,.lf (.bool (r2 != 0)))],[.box 29 (.dat (ah.lf1 p_doc)),.box 29 (.dat (ah.lf1 p_key))]⟩))) <|
 .iB (r2 != 0) (.ret (bn 1) (8)) <|
 .cl (U0 p_doc) fun r3 _ =>
 .ret (bn 1) (r3)
def ag5 (p_doc:ah) (p_key:ah) : Option (Int) := Mo.den (ZF p_doc p_key)
theorem U3 (p_doc:ah) (p_key:ah) : FV (ag5 p_doc p_key) 114 [.dat (ah.lf1 p_doc),.dat (ah.lf1 p_key)] (fun r=>.i_ r) := dw Tryz.func114 (by kernel_rfl) (fun _=>rfl) (by kernel_rfl)
def CW (p_a:List ByteArray) (p_b:List ByteArray) : (Int) → Mo ((Int) ⊕ (Unit ⊕ Unit)) := fun (v0) =>
 .say [.num p_a.length] (ok1 (ln_ p_a lfS)) <|
 .ite (decide ((v0:Int) < (p_a.length:Int))) (fun c0 =>
 .say [.br true,.order [(true,0),(true,1),(true,2),(true,3),(true,4),(true,5),(true,6),(true,7),(true,8)] none []] (ok1 c0) <|
 .ask (bT p_a v0) fun x0 h0 =>
 .say [.row (lfS x0)] (ok1 (aX lS_ h0)) <|
 .ask (bT p_b v0) fun x1 h1 =>
 .say [.row (lfS x1)] (ok1 (aX lS_ h1)) <|
 .iB (!decide ((x0:ByteArray) = (x1:ByteArray))) (.rt [4] 0 (.inr (.inl ()))) <|
 .rt [0,1,5] 0 (.inl (IntKind.wrap .i64 (v0 + 1)))) fun c0 =>
 .say [.br false] (ok1 c0) <|
 .rt [] 0 (.inr (.inr (())))
def ZG (p_a:List ByteArray) (p_b:List ByteArray) (v0:Int) : Option (Unit ⊕ Unit) := bJ (fun v_=>(CW p_a p_b v_).den) FU (v0)
def ND (p_a:List ByteArray) (p_b:List ByteArray) : (Int) → St := fun (v0)=>⟨[(0,.lf (.rows 1 (p_a.map lfS))),(1,.lf (.rows 1 (p_b.map lfS))),(5,.i_ v0)],[]⟩
def vZ (r_:Unit ⊕ Unit) : Exit := match r_ with
 | .inl o_=>.ret
 | .inr (o_)=>.exit 0
def wo  (r_:Unit ⊕ Unit) : St := match r_ with
 | .inl o_=>⟨[(4,.b_ false)],[]⟩
 | .inr (o_)=>⟨[],[]⟩
theorem NG {p_a:List ByteArray} {p_b:List ByteArray} {v0:Int} {r_:Unit ⊕ Unit} (h:ZG p_a p_b v0 = some r_) : gq Tryz.f204 0 [1,1,0,1,0] (vZ r_) (wo r_) (ND p_a p_b (v0)) :=
 dR dL (body := (Code.sub (bodyC Tryz.f204) [1,1,0,1,0,0])) (by kernel_rfl) (CW p_a p_b) (ND p_a p_b) vZ wo (fun r_=>by rcases r_ with _ | _ <;> rfl) (fun v_=>by kernel_rfl) h
def afA (p_a:List ByteArray) (p_b:List ByteArray) : Mo (Bool) :=
 .say [.num p_a.length,.num p_b.length] (okc (ln_ p_a lfS) (ok1 (ln_ p_b lfS))) <|
 .iB ((p_a.length:Int) != (p_b.length:Int)) (.ret (bn 1) (false)) <|
 .eY (ZG p_a p_b 0) (fun o0 h0 =>
 .say [.pt_ 0 [0,1,5] 0 (vZ (.inl o0)) (wo (.inl o0))] (ok1 (NG h0)) <|
 .ret (bn 1) (false)) fun o1 h0 =>
 .say [.pt_ 0 [0,1,5] 0 (vZ (.inr (o1))) (wo (.inr (o1)))] (ok1 (NG h0)) <|
 .ret (bn 1) (true)
def Q47 (p_a:List ByteArray) (p_b:List ByteArray) : Option (Bool) := Mo.den (afA p_a p_b)
theorem ag6 (p_a:List ByteArray) (p_b:List ByteArray) : FV (Q47 p_a p_b) 204 [.lf (.rows 1 (p_a.map lfS)),.lf (.rows 1 (p_b.map lfS))] (fun r=>.b_ r) := dw Tryz.func204 (by kernel_rfl) (fun _=>rfl) (by kernel_rfl)
def CX (p_l:List aY) (v0:Int) : (Int) → Mo ((Int) ⊕ (Unit ⊕ Unit)) := fun (v1) =>
 .ite (decide ((v1:Int) < v0)) (fun c0 =>
 .say [.br true,.order [(true,0),(true,1),(true,2),(true,3),(true,4),(true,5),(true,6),(true,7),(true,8),(true,9),(false,10)] (some 10) []] (ok1 c0) <|
 .ask (bT p_l v0) fun x0 h0 =>
 .say [.row (aY.lf1 x0)] (ok1 (aX aY.aU h0)) <|
 .ask (bT p_l v1) fun x1 h1 =>
 .say [.row (aY.lf1 x1)] (ok1 (aX aY.aU h1)) <|
 .cl (ag6 x0.cO x1.cO) fun r0 _ =>
 .iB (r0) (.rt [2] 0 (.inr (.inl ()))) <|
 .rt [0,3,4] 0 (.inl (IntKind.wrap .i64 (v1 + 1)))) fun c0 =>
 .say [.br false] (ok1 c0) <|
 .rt [0,3] 0 (.inr (.inr (())))
def ZH (p_l:List aY) (v0:Int) (v1:Int) : Option (Unit ⊕ Unit) := bJ (fun v_=>(CX p_l v0 v_).den) FU (v1)
def NH (p_l:List aY) (v0:Int) : (Int) → St := fun (v1)=>⟨[(0,.lf (.rows 2 (p_l.map aY.lf))),(3,.i_ v0),(4,.i_ v1)],[]⟩
def wu (r_:Unit ⊕ Unit) : Exit := match r_ with
 | .inl o_=>.ret
 | .inr (o_)=>.exit 2
def wz (p_l:List aY) (v0:Int) (r_:Unit ⊕ Unit) : St := match r_ with
 | .inl o_=>⟨[(2,.i_ 12)],[]⟩
 | .inr (o_)=>⟨[(0,.lf (.rows 2 (p_l.map aY.lf))),(3,.i_ v0)],[]⟩
theorem NI {p_l:List aY} {v0:Int} {v1:Int} {r_:Unit ⊕ Unit} (h:ZH p_l v0 v1 = some r_) : gq Tryz.f159 0 [1,1,0,1,0,0,1,0,0,1,1,0] (wu r_) (wz p_l v0 r_) (NH p_l v0 (v1)) :=
 dR dL (body := (Code.sub (bodyC Tryz.f159) [1,1,0,1,0,0,1,0,0,1,1,0,0])) (by kernel_rfl) (CX p_l v0) (NH p_l v0) wu (wz p_l v0) (fun r_=>by rcases r_ with _ | _ <;> rfl) (fun v_=>by kernel_rfl) h
def CY (p_l:List aY) : (Int) → Mo ((Int) ⊕ (Int) ⊕ Unit) := fun (v0) =>
 .say [.num p_l.length] (ok1 (ln_ p_l aY.lf)) <|
 .iB (decide ((v0:Int) < (p_l.length:Int))) (.ask (bT p_l v0) fun x0 h0 =>
 .say [.row (aY.lf1 x0)] (ok1 (aX aY.aU h0)) <|
 .cl (BK x0.cO) fun r0 _ =>
 .iB (!r0) (.rt [2] 0 (.inr (.inl (10)))) <|
 .eY (ZH p_l v0 0) (fun o0 h1 =>
 .say [.pt_ 0 [0,3,4] 0 (wu (.inl o0)) (wz p_l v0 (.inl o0))] (ok1 (NI h1)) <|
 .rt [2] 0 (.inr (.inl (12)))) fun o1 h1 =>
 .say [.pt_ 0 [0,3,4] 0 (wu (.inr (o1))) (wz p_l v0 (.inr (o1)))] (ok1 (NI h1)) <|
 .rt [0,3] 0 (.inl (IntKind.wrap .i64 (v0 + 1)))) <|
 .rt [] 0 (.inr (.inr (())))
def ZI (p_l:List aY) (v0:Int) : Option ((Int) ⊕ Unit) := bJ (fun v_=>(CY p_l v_).den) FU (v0)
def NJ (p_l:List aY) : (Int) → St := fun (v0)=>⟨[(0,.lf (.rows 2 (p_l.map aY.lf))),(3,.i_ v0)],[]⟩
def wB (r_:(Int) ⊕ Unit) : Exit := match r_ with
 | .inl o_=>.ret
 | .inr (o_)=>.exit 0
def wC  (r_:(Int) ⊕ Unit) : St := match r_ with
 | .inl o_=>⟨[(2,.i_ o_)],[]⟩
 | .inr (o_)=>⟨[],[]⟩
theorem NK {p_l:List aY} {v0:Int} {r_:(Int) ⊕ Unit} (h:ZI p_l v0 = some r_) : gq Tryz.f159 0 [1,1,0,1,0] (wB r_) (wC r_) (NJ p_l (v0)) :=
 dR dL (body := (Code.sub (bodyC Tryz.f159) [1,1,0,1,0,0])) (by kernel_rfl) (CY p_l) (NJ p_l) wB wC (fun r_=>by rcases r_ with _ | _ <;> rfl) (fun v_=>by kernel_rfl) h
def afB (p_l:List aY) : Mo (Int) :=
 .say [.num p_l.length] (ok1 (ln_ p_l aY.lf)) <|
 .iB (decide ((8:Int) < (p_l.length:Int))) (.ret (bn 1) (2)) <|
 .eY (ZI p_l 0) (fun o0 h0 =>
 .say [.pt_ 0 [0,3] 0 (wB (.inl o0)) (wC (.inl o0))] (ok1 (NK h0)) <|
 .ret (bn 1) (o0)) fun o1 h0 =>
 .say [.pt_ 0 [0,3] 0 (wB (.inr (o1))) (wC (.inr (o1)))] (ok1 (NK h0)) <|
 .ret (bn 1) (0)
def Q14 (p_l:List aY) : Option (Int) := Mo.den (afB p_l)
theorem ag7 (p_l:List aY) : FV (Q14 p_l) 159 [.lf (.rows 2 (p_l.map aY.lf))] (fun r=>.i_ r) := dw Tryz.func159 (by kernel_rfl) (fun _=>rfl) (by kernel_rfl)
structure Sr where
 m1:(p_p:aH) → (p_levels:Int) → (p_left:Int) → Option (Int)
 ok1:∀ p_p p_levels p_left,FV (m1 p_p p_levels p_left) 205 [.dat (aH.lf1 p_p),.i_ p_levels,.i_ p_left] (fun r=>.i_ r)
def NM (R_:Sr) (p_left:Int) (p_levels:Int) (p_p:aH) : Mo (Bool) :=
 .iG 4002 (p_levels == 0) (.rt [1,2,3,13] 1 (true)) <|
 .rt [1,2,3,13] 1 (decide ((p_left:Int) ≤ 0))
def NP (R_:Sr) (p_levels:Int) (p_p:aH) (v0:Int) (v1:Int) : Mo (Bool) :=
 .say [.num p_p.aZ.length] (ok1 (ln_ p_p.aZ aH.lf)) <|
 .iG 12005 (decide ((v1:Int) < (p_p.aZ.length:Int))) (.rt [1,2,3,7,24] 1 (decide ((0:Int) ≤ v0))) <|
 .rt [1,2,3,7,24] 1 (false)
def Gw (R_:Sr) (p_levels:Int) (p_p:aH) : (Int × Int) → Mo ((Int × Int) ⊕ (Int)) := fun (v0,v1) =>
 .jp Tryz.f205 0 [1,1,1,0,1,0,0,0,0] 17 [1,2,3,7] 1 (.normal) (fun r_=>⟨[(1,.i_ p_levels),(2,.i_ v0),(3,.ptr 0 0),(7,.i_ v1),(24,.b_ r_)],[.box 47 (.dat (aH.lf1 p_p))]⟩) ⟨[(1,.i_ p_levels),(2,.i_ v0),(3,.ptr 0 0),(7,.i_ v1)],[.box 47 (.dat (aH.lf1 p_p))]⟩ (NP R_ p_levels p_p v0 v1).den (jW (by kernel_rfl)) fun r0 _ =>
 .iB (r0) (.ask (bT p_p.aZ v1) fun x0 h0 =>
 .say [.row (aH.lf1 x0)] (ok1 (aX aH.aU h0)) <|
 .cl (R_.ok1 x0 (IntKind.wrap .i64 (p_levels - 1)) v0) fun r1 _ =>
 .rt [1,2,3,7] 1 (.inl (r1,IntKind.wrap .i64 (v1 + 1)))) <|
 .ret ⟨[.kill 0],[2],[],1⟩ (.inr (v0))
def adH (R_:Sr) (p_levels:Int) (p_p:aH) (v0:Int) (v1:Int) : Option (Int) := bJ (fun v_=>(Gw R_ p_levels p_p v_).den) FU (v0,v1)
def ZJ (R_:Sr) (p_p:aH) (p_levels:Int) (p_left:Int) : Mo (Int) :=
 .jp Tryz.f205 0 [1,0,0] 9 [1,2,3] 1 (.normal) (fun r_=>⟨[(1,.i_ p_levels),(2,.i_ p_left),(3,.ptr 0 0),(13,.b_ r_)],[.box 47 (.dat (aH.lf1 p_p))]⟩) ⟨[(1,.i_ p_levels),(2,.i_ p_left),(3,.ptr 0 0)],[.box 47 (.dat (aH.lf1 p_p))]⟩ (NM R_ p_left p_levels p_p).den (jW (by kernel_rfl)) fun r0 _ =>
 .iB (r0) (.ret (bn 1) ((-1))) <|
 .lp Tryz.f205 0 [1,1,1,0,1,0] 0 [1,2,3,7] 1 (.exit 0) (fun r_=>⟨[(2,.i_ r_)],[.dead]⟩) (adH R_ p_levels p_p (IntKind.wrap .i64 (p_left - 1)) 0) (lW (fun (v0,v1)=>⟨[(1,.i_ p_levels),(2,.i_ v0),(3,.ptr 0 0),(7,.i_ v1)],[.box 47 (.dat (aH.lf1 p_p))]⟩) (by kernel_rfl) rfl fun v_=>by kernel_rfl) fun r1 _ =>
 .ret (bn 1) (r1)
theorem adI (R_:Sr) (p_p:aH) (p_levels:Int) (p_left:Int) : FV (Mo.den (ZJ R_ p_p p_levels p_left)) 205 [.dat (aH.lf1 p_p),.i_ p_levels,.i_ p_left] (fun r=>.i_ r) := dw Tryz.func205 (by kernel_rfl) (fun _=>rfl) (by kernel_rfl)
def oK:Nat → Sr
 | 0=>{ m1 := fun p_p p_levels p_left=>none,ok1 := fun _ _ _ _ h=>(by cases h) }
 | n_ + 1=>{ m1 := fun p_p p_levels p_left=>Mo.den (ZJ (oK n_) p_p p_levels p_left),ok1 := adI (oK n_) }
def Q65 (p_p:aH) (p_levels:Int) (p_left:Int) : Option (Int) := (oK FU).m1 p_p p_levels p_left
theorem ag8 (p_p:aH) (p_levels:Int) (p_left:Int) : FV (Q65 p_p p_levels p_left) 205 [.dat (aH.lf1 p_p),.i_ p_levels,.i_ p_left] (fun r=>.i_ r) := (oK FU).ok1 p_p p_levels p_left
def Wn (p_p:aH) : Mo (Bool) :=
 .iB (p_p.fOp == 15) (.rt [1,4,5] 1 (p_p.fOp == 15)) <|
 .rt [1,4,5] 1 (p_p.fOp == 23)
def Wp (p_p:aH) : Mo (Bool) :=
 .iB (p_p.fOp == 20) (.rt [1,12] 1 (p_p.fOp == 20)) <|
 .iB (p_p.fOp == 21) (.rt [1,12] 1 (p_p.fOp == 21)) <|
 .rt [1,12] 1 (p_p.fOp == 22)
def ZK (p_p:aH) : Mo (Bool) :=
 .jp Tryz.f242 0 [1,0,1,0,0,1] 1 [1,4,5] 1 (.normal) (fun r_=>⟨[(1,.ptr 0 0),(4,.i_ p_p.fOp),(5,.b_ r_)],[.box 47 (.dat (aH.lf1 p_p))]⟩) ⟨[(1,.ptr 0 0),(4,.i_ p_p.fOp),(5,.lf (.bool (p_p.fOp == 15)))],[.box 47 (.dat (aH.lf1 p_p))]⟩ (Wn p_p).den (jW (by kernel_rfl)) fun r0 _ =>
 .ite (r0) (fun c0 =>
 .say [.br true,.num p_p.aZ.length] (okc c0 (ok1 (ln_ p_p.aZ aH.lf))) <|
 .ret (bn 1) ((p_p.aZ.length:Int) == 1)) fun c0 =>
 .say [.br false] (ok1 c0) <|
 .jp Tryz.f242 0 [1,0,1,0,1,1,0,1] 1 [1,4,12] 1 (.normal) (fun r_=>⟨[(1,.ptr 0 0),(12,.b_ r_)],[.box 47 (.dat (aH.lf1 p_p))]⟩) ⟨[(1,.ptr 0 0),(4,.i_ p_p.fOp),(12,.lf (.bool (p_p.fOp == 20)))],[.box 47 (.dat (aH.lf1 p_p))]⟩ (Wp p_p).den (jW (by kernel_rfl)) fun r1 _ =>
 .ite (r1) (fun c1 =>
 .say [.br true,.num p_p.aZ.length] (okc c1 (ok1 (ln_ p_p.aZ aH.lf))) <|
 .ret (bn 1) (decide ((0:Int) < (p_p.aZ.length:Int)))) fun c1 =>
 .say [.br false,.num p_p.aZ.length] (okc c1 (ok1 (ln_ p_p.aZ aH.lf))) <|
 .ret (bn 1) ((p_p.aZ.length:Int) == 0)
def aiV (p_p:aH) : Option (Bool) := Mo.den (ZK p_p)
theorem adJ (p_p:aH) : FV (aiV p_p) 242 [.dat (aH.lf1 p_p)] (fun r=>.b_ r) := dw Tryz.func242 (by kernel_rfl) (fun _=>rfl) (by kernel_rfl)
def ZL (p_op:Int) : Mo (Bool) :=
 .iG 4002 (p_op == 8) (.ret (bn 1) (true)) <|
 .iG 4006 (p_op == 9) (.ret (bn 1) (true)) <|
 .ret (bn 1) (p_op == 14)
def aiW (p_op:Int) : Option (Bool) := Mo.den (ZL p_op)
theorem Jg (p_op:Int) : FV (aiW p_op) 243 [.i_ p_op] (fun r=>.b_ r) := dw Tryz.func243 (by kernel_rfl) (fun _=>rfl) (by kernel_rfl)
def ZM (p_p:aH) : Mo (Bool) :=
 .iG 8003 (p_p.fN == 0) (.ret ⟨[.kill 0],[2],[],1⟩ (true)) <|
 .ret ⟨[.kill 0],[2],[],1⟩ (p_p.fN == 1)
def ZN (p_p:aH) : Mo (Bool) :=
 .iG 12003 (decide ((1:Int) ≤ p_p.fN)) (.ret ⟨[.kill 0],[2],[],1⟩ (decide ((p_p.fN:Int) ≤ 11))) <|
 .ret ⟨[.kill 0],[2],[],1⟩ (false)
def Wq (p_p:aH) : Mo (Bool) :=
 .iG 16003 (decide ((1:Int) ≤ p_p.fN)) (.rt [1,2,34] 1 (decide ((0:Int) ≤ p_p.fM))) <|
 .rt [1,2,34] 1 (false)
def Ws (p_p:aH) (r0:Bool) : Mo (Bool) :=
 .iG 16008 (r0) (.ret ⟨[.kill 0],[2,41],[],1⟩ (decide ((p_p.fM:Int) < p_p.fN))) <|
 .ret ⟨[.kill 0],[2,41],[],1⟩ (false)
def Wu (r0:Bool) : Mo (Unit) :=
 .rt [2] 1 ()
def afC (p_p:aH) : Mo (Bool) :=
 .iB (p_p.fOp == 10) (.jp Tryz.f244 0 [1,0,1,0,1,0,0] 13 [1] 1 (.normal) (fun r_=>⟨[(2,.b_ r_)],[.dead]⟩) ⟨[(1,.ptr 0 0)],[.box 47 (.dat (aH.lf1 p_p))]⟩ (ZM p_p).den (jW (by kernel_rfl)) fun r0 _ =>
 .ret (bn 1) (r0)) <|
 .iB (p_p.fOp == 11) (.jp Tryz.f244 0 [1,0,1,0,1,1,1,0,0] 17 [1] 1 (.normal) (fun r_=>⟨[(2,.b_ r_)],[.dead]⟩) ⟨[(1,.ptr 0 0)],[.box 47 (.dat (aH.lf1 p_p))]⟩ (ZN p_p).den (jW (by kernel_rfl)) fun r1 _ =>
 .ret (bn 1) (r1)) <|
 .iB (p_p.fOp == 12) (.sj Tryz.f244 0 [1,0,1,0,1,1,1,1,1,0,0] [0,1,2,3,4,5,6,7] 7 8 [1,2] 1 (fun r_=>⟨[(1,.ptr 0 0),(2,.b_ false),(34,.b_ r_)],[.box 47 (.dat (aH.lf1 p_p))]⟩) ⟨[(1,.ptr 0 0),(2,.b_ false)],[.box 47 (.dat (aH.lf1 p_p))]⟩ (Wq p_p).den (sW (by kernel_rfl)) fun r2 _ =>
 .sj Tryz.f244 0 [1,0,1,0,1,1,1,1,1,0,0] [8,9,10,11,12,13,14] 7 7 [1,2,34] 1 (fun r_=>⟨[(2,.b_ false),(41,.b_ r_)],[.dead]⟩) ⟨[(1,.ptr 0 0),(2,.b_ false),(34,.b_ r2)],[.box 47 (.dat (aH.lf1 p_p))]⟩ (Ws p_p r2).den (sW (by kernel_rfl)) fun r3 _ =>
 .sj Tryz.f244 0 [1,0,1,0,1,1,1,1,1,0,0] [15] 7 1 [2,41] 1 (fun r_=>⟨[(2,.b_ r3)],[.dead]⟩) ⟨[(2,.b_ false),(41,.b_ r3)],[.dead]⟩ (Wu r3).den (sW (by kernel_rfl)) fun r4 _ =>
 .ret (bn 1) (r3)) <|
 .iB (p_p.fOp == 13) (.ret (bn 1) (decide ((0:Int) ≤ p_p.fN))) <|
 .ret (bn 1) (true)
def Q69 (p_p:aH) : Option (Bool) := Mo.den (afC p_p)
theorem ag9 (p_p:aH) : FV (Q69 p_p) 244 [.dat (aH.lf1 p_p)] (fun r=>.b_ r) := dw Tryz.func244 (by kernel_rfl) (fun _=>rfl) (by kernel_rfl)
def ZO (p_op:Int) : Mo (Bool) :=
 .iG 4002 (decide ((2:Int) ≤ p_op)) (.ret (bn 1) (decide ((p_op:Int) ≤ 19))) <|
 .ret (bn 1) (false)
def aiX (p_op:Int) : Option (Bool) := Mo.den (ZO p_op)
theorem U4 (p_op:Int) : FV (aiX p_op) 245 [.i_ p_op] (fun r=>.b_ r) := dw Tryz.func245 (by kernel_rfl) (fun _=>rfl) (by kernel_rfl)
def ZP (p_op:Int) : Mo (Bool) :=
 .iG 4002 (p_op == 16) (.ret (bn 1) (true)) <|
 .iG 4006 (p_op == 17) (.ret (bn 1) (true)) <|
 .ret (bn 1) (p_op == 19)
def aiY (p_op:Int) : Option (Bool) := Mo.den (ZP p_op)
theorem Jh (p_op:Int) : FV (aiY p_op) 247 [.i_ p_op] (fun r=>.b_ r) := dw Tryz.func247 (by kernel_rfl) (fun _=>rfl) (by kernel_rfl)
def ZQ (p_op:Int) : Mo (Bool) :=
 .iG 4002 (decide ((2:Int) ≤ p_op)) (.iG 4006 (decide ((p_op:Int) ≤ 7)) (.ret (bn 1) (true)) <|
 .cl (Jh p_op) fun r0 _ =>
 .ret (bn 1) (r0)) <|
 .cl (Jh p_op) fun r1 _ =>
 .ret (bn 1) (r1)
def aiZ (p_op:Int) : Option (Bool) := Mo.den (ZQ p_op)
theorem U5 (p_op:Int) : FV (aiZ p_op) 246 [.i_ p_op] (fun r=>.b_ r) := dw Tryz.func246 (by kernel_rfl) (fun _=>rfl) (by kernel_rfl)
def ZR (p_n:Int) : Mo (Bool) :=
 .iG 4002 (decide ((0:Int) ≤ p_n)) (.ret (bn 1) (decide ((p_n:Int) < 65536))) <|
 .ret (bn 1) (false)
def ai0 (p_n:Int) : Option (Bool) := Mo.den (ZR p_n)
theorem Ji (p_n:Int) : FV (ai0 p_n) 294 [.i_ p_n] (fun r=>.b_ r) := dw Tryz.func294 (by kernel_rfl) (fun _=>rfl) (by kernel_rfl)
def ZT (p_p:dF) : Mo (Bool) :=
 .cl (Ji p_p.fX) fun r0 _ =>
 .iG 4003 (r0) (.cl (Ji p_p.fY) fun r1 _ =>
 .ret (bn 1) (r1)) <|
 .ret (bn 1) (false)
def ai1 (p_p:dF) : Option (Bool) := Mo.den (ZT p_p)
theorem adK (p_p:dF) : FV (ai1 p_p) 293 [.dat (dF.lf1 p_p)] (fun r=>.b_ r) := dw Tryz.func293 (by kernel_rfl) (fun _=>rfl) (by kernel_rfl)
def CZ (p_s:bY) : (Int) → Mo ((Int) ⊕ (Unit ⊕ Unit)) := fun (v0) =>
 .iB (decide ((v0:Int) < (p_s.bW.length:Int))) (.ask (bT p_s.bW v0) fun x0 h0 =>
 .say [.row (dF.lf1 x0)] (ok1 (aX dF.aU h0)) <|
 .cl (adK x0) fun r0 _ =>
 .iB (!r0) (.ret ⟨[.kill 0],[2],[],1⟩ (.inr (.inl ()))) <|
 .rt [1,3,4] 1 (.inl (IntKind.wrap .i64 (v0 + 1)))) <|
 .rt [1,3] 1 (.inr (.inr (())))
def ZU (p_s:bY) (v0:Int) : Option (Unit ⊕ Unit) := bJ (fun v_=>(CZ p_s v_).den) FU (v0)
def NQ (p_s:bY) : (Int) → St := fun (v0)=>⟨[(1,.ptr 0 0),(3,.i_ (p_s.bW.length:Int)),(4,.i_ v0)],[.box 41 (.dat (bY.lf1 p_s))]⟩
def wE (r_:Unit ⊕ Unit) : Exit := match r_ with
 | .inl o_=>.ret
 | .inr (o_)=>.exit 0
def wF (p_s:bY) (r_:Unit ⊕ Unit) : St := match r_ with
 | .inl o_=>⟨[(2,.i_ 18)],[.dead]⟩
 | .inr (o_)=>⟨[(1,.ptr 0 0),(3,.i_ (p_s.bW.length:Int))],[.box 41 (.dat (bY.lf1 p_s))]⟩
theorem NR {p_s:bY} {v0:Int} {r_:Unit ⊕ Unit} (h:ZU p_s v0 = some r_) : gq Tryz.f248 0 [1,1,1,0,1,0] (wE r_) (wF p_s r_) (NQ p_s (v0)) :=
 dR dL (body := (Code.sub (bodyC Tryz.f248) [1,1,1,0,1,0,0])) (by kernel_rfl) (CZ p_s) (NQ p_s) wE (wF p_s) (fun r_=>by rcases r_ with _ | _ <;> rfl) (fun v_=>by kernel_rfl) h
def NS (p_s:bY) : Mo (Bool) :=
 .iG 20003 (p_s.aT == 1) (.rt [1,3,28] 1 ((p_s.bW.length:Int) == 2)) <|
 .rt [1,3,28] 1 (false)
def Gx (p_s:bY) (r0:Bool) : Mo (Bool) :=
 .iG 20007 (r0) (.rt [1,3,33] 1 (p_s.fR == 0)) <|
 .rt [1,3,33] 1 (false)
def Gy (p_s:bY) (r0:Bool) : Mo (Bool) :=
 .iG 20012 (r0) (.rt [1,3,47] 1 (true)) <|
 .iG 20016 (p_s.aT == 2) (.iG 20020 ((p_s.bW.length:Int) == 1) (.cl (Ji p_s.fR) fun r1 _ =>
 .rt [1,3,47] 1 (r1)) <|
 .rt [1,3,47] 1 (false)) <|
 .rt [1,3,47] 1 (false)
def Gz (p_s:bY) (r0:Bool) : Mo (Bool) :=
 .iG 20026 (r0) (.ret ⟨[.kill 0],[61],[],1⟩ (true)) <|
 .iG 20030 (p_s.aT == 3) (.iG 20034 (decide ((3:Int) ≤ (p_s.bW.length:Int))) (.ret ⟨[.kill 0],[61],[],1⟩ (p_s.fR == 0)) <|
 .ret ⟨[.kill 0],[61],[],1⟩ (false)) <|
 .ret ⟨[.kill 0],[61],[],1⟩ (false)
def afD (p_s:bY) : Mo (Int) :=
 .say [.num p_s.bW.length] (ok1 (ln_ p_s.bW dF.lf)) <|
 .iB (decide ((64:Int) < (p_s.bW.length:Int))) (.ret (bn 1) (18)) <|
 .eY (ZU p_s 0) (fun o0 h0 =>
 .say [.pt_ 0 [1,3,4] 1 (wE (.inl o0)) (wF p_s (.inl o0))] (ok1 (NR h0)) <|
 .ret (bn 1) (18)) fun o1 h0 =>
 .say [.pt_ 0 [1,3,4] 1 (wE (.inr (o1))) (wF p_s (.inr (o1)))] (ok1 (NR h0)) <|
 .sj Tryz.f248 0 [1,1,1,1,0,0] [0,1,2,3,4,5,6] 9 7 [1,3] 1 (fun r_=>⟨[(1,.ptr 0 0),(3,.i_ (p_s.bW.length:Int)),(28,.b_ r_)],[.box 41 (.dat (bY.lf1 p_s))]⟩) ⟨[(1,.ptr 0 0),(3,.i_ (p_s.bW.length:Int))],[.box 41 (.dat (bY.lf1 p_s))]⟩ (NS p_s).den (sW (by kernel_rfl)) fun r0 _ =>
 .sj Tryz.f248 0 [1,1,1,1,0,0] [7,8,9,10,11] 9 5 [1,3,28] 1 (fun r_=>⟨[(1,.ptr 0 0),(3,.i_ (p_s.bW.length:Int)),(33,.b_ r_)],[.box 41 (.dat (bY.lf1 p_s))]⟩) ⟨[(1,.ptr 0 0),(3,.i_ (p_s.bW.length:Int)),(28,.b_ r0)],[.box 41 (.dat (bY.lf1 p_s))]⟩ (Gx p_s r0).den (sW (by kernel_rfl)) fun r1 _ =>
 .sj Tryz.f248 0 [1,1,1,1,0,0] [12,13,14,15,16,17,18,19,20,21,22,23,24,25] 9 14 [1,3,33] 1 (fun r_=>⟨[(1,.ptr 0 0),(3,.i_ (p_s.bW.length:Int)),(47,.b_ r_)],[.box 41 (.dat (bY.lf1 p_s))]⟩) ⟨[(1,.ptr 0 0),(3,.i_ (p_s.bW.length:Int)),(33,.b_ r1)],[.box 41 (.dat (bY.lf1 p_s))]⟩ (Gy p_s r1).den (sW (by kernel_rfl)) fun r2 _ =>
 .sj Tryz.f248 0 [1,1,1,1,0,0] [26,27,28,29,30,31,32,33,34,35,36,37,38,39] 9 14 [1,3,47] 1 (fun r_=>⟨[(61,.b_ r_)],[.dead]⟩) ⟨[(1,.ptr 0 0),(3,.i_ (p_s.bW.length:Int)),(47,.b_ r2)],[.box 41 (.dat (bY.lf1 p_s))]⟩ (Gz p_s r2).den (sW (by kernel_rfl)) fun r3 _ =>
 .iB (r3) (.ret (bn 1) (0)) <|
 .ret (bn 1) (18)
def Q23 (p_s:bY) : Option (Int) := Mo.den (afD p_s)
theorem aha (p_s:bY) : FV (Q23 p_s) 248 [.dat (bY.lf1 p_s)] (fun r=>.i_ r) := dw Tryz.func248 (by kernel_rfl) (fun _=>rfl) (by kernel_rfl)
def ZV (p_s:bY) : Mo (Bool) :=
 .ite (p_s.aT == 0) (fun c0 =>
 .say [.gd 4003 true,.num p_s.bW.length] (okc c0 (ok1 (ln_ p_s.bW dF.lf))) <|
 .rt [1,2,11] 1 ((p_s.bW.length:Int) == 0)) fun c0 =>
 .say [.gd 4003 false] (ok1 c0) <|
 .rt [1,2,11] 1 (false)
def ZW (p_s:bY) (r0:Bool) : Mo (Bool) :=
 .iG 4009 (r0) (.ret ⟨[.kill 0],[2,16],[],1⟩ (p_s.fR == 0)) <|
 .ret ⟨[.kill 0],[2,16],[],1⟩ (false)
def Wv (r0:Bool) : Mo (Unit) :=
 .rt [2] 1 ()
def afE (p_s:bY) : Mo (Bool) :=
 .sj Tryz.f295 0 [1,0] [0,1,2,3,4,5,6,7,8] 1 9 [1,2] 1 (fun r_=>⟨[(1,.ptr 0 0),(2,.b_ false),(11,.b_ r_)],[.box 41 (.dat (bY.lf1 p_s))]⟩) ⟨[(1,.ptr 0 0),(2,.b_ false)],[.box 41 (.dat (bY.lf1 p_s))]⟩ (ZV p_s).den (sW (by kernel_rfl)) fun r0 _ =>
 .sj Tryz.f295 0 [1,0] [9,10,11,12,13] 1 5 [1,2,11] 1 (fun r_=>⟨[(2,.b_ false),(16,.b_ r_)],[.dead]⟩) ⟨[(1,.ptr 0 0),(2,.b_ false),(11,.b_ r0)],[.box 41 (.dat (bY.lf1 p_s))]⟩ (ZW p_s r0).den (sW (by kernel_rfl)) fun r1 _ =>
 .sj Tryz.f295 0 [1,0] [14] 1 1 [2,16] 1 (fun r_=>⟨[(2,.b_ r1)],[.dead]⟩) ⟨[(2,.b_ false),(16,.b_ r1)],[.dead]⟩ (Wv r1).den (sW (by kernel_rfl)) fun r2 _ =>
 .ret (bn 1) (r1)
def Q91 (p_s:bY) : Option (Bool) := Mo.den (afE p_s)
theorem ahb (p_s:bY) : FV (Q91 p_s) 295 [.dat (bY.lf1 p_s)] (fun r=>.b_ r) := dw Tryz.func295 (by kernel_rfl) (fun _=>rfl) (by kernel_rfl)
def ZX (p_e:aC) : Mo (Bool) :=
 .ite (p_e.fOp == 0) (fun c0 =>
 .say [.gd 4003 true,.num p_e.cO.length] (okc c0 (ok1 (ln_ p_e.cO lfS))) <|
 .rt [1,2,11] 1 ((p_e.cO.length:Int) == 0)) fun c0 =>
 .say [.gd 4003 false] (ok1 c0) <|
 .rt [1,2,11] 1 (false)
def ZY (p_e:aC) (r0:Bool) : Mo (Bool) :=
 .iG 4009 (r0) (.rt [1,2,16] 1 (decide ((p_e.fName:ByteArray) = (⟨#[]⟩ : ByteArray)))) <|
 .rt [1,2,16] 1 (false)
def Wx (p_e:aC) (r0:Bool) : Mo (Bool) :=
 .ite (r0) (fun c0 =>
 .say [.gd 4014 true,.num p_e.bP.length] (okc c0 (ok1 (ln_ p_e.bP lfS))) <|
 .rt [1,2,22] 1 ((p_e.bP.length:Int) == 0)) fun c0 =>
 .say [.gd 4014 false] (ok1 c0) <|
 .rt [1,2,22] 1 (false)
def Wy (p_e:aC) (r0:Bool) : Mo (Bool) :=
 .iG 4020 (r0) (.cl (tJ p_e.fArg) fun r1 _ =>
 .rt [1,2,27] 1 (r1)) <|
 .rt [1,2,27] 1 (false)
def WA (p_e:aC) (r0:Bool) : Mo (Bool) :=
 .iG 4025 (r0) (.rt [1,2,32] 1 (p_e.fN == 0)) <|
 .rt [1,2,32] 1 (false)
def WB (p_e:aC) (r0:Bool) : Mo (Bool) :=
 .ite (r0) (fun c0 =>
 .say [.gd 4030 true,.num p_e.aZ.length] (okc c0 (ok1 (ln_ p_e.aZ aC.lf))) <|
 .ret ⟨[.kill 0],[2,38],[],1⟩ ((p_e.aZ.length:Int) == 0)) fun c0 =>
 .say [.gd 4030 false] (ok1 c0) <|
 .ret ⟨[.kill 0],[2,38],[],1⟩ (false)
def WC (r0:Bool) : Mo (Unit) :=
 .rt [2] 1 ()
def afF (p_e:aC) : Mo (Bool) :=
 .sj Tryz.f296 0 [1,0] [0,1,2,3,4,5,6,7,8] 1 9 [1,2] 1 (fun r_=>⟨[(1,.ptr 0 0),(2,.b_ false),(11,.b_ r_)],[.box 44 (.dat (aC.lf1 p_e))]⟩) ⟨[(1,.ptr 0 0),(2,.b_ false)],[.box 44 (.dat (aC.lf1 p_e))]⟩ (ZX p_e).den (sW (by kernel_rfl)) fun r0 _ =>
 .sj Tryz.f296 0 [1,0] [9,10,11,12,13] 1 5 [1,2,11] 1 (fun r_=>⟨[(1,.ptr 0 0),(2,.b_ false),(16,.b_ r_)],[.box 44 (.dat (aC.lf1 p_e))]⟩) ⟨[(1,.ptr 0 0),(2,.b_ false),(11,.b_ r0)],[.box 44 (.dat (aC.lf1 p_e))]⟩ (ZY p_e r0).den (sW (by kernel_rfl)) fun r1 _ =>
 .sj Tryz.f296 0 [1,0] [14,15,16,17,18,19] 1 6 [1,2,16] 1 (fun r_=>⟨[(1,.ptr 0 0),(2,.b_ false),(22,.b_ r_)],[.box 44 (.dat (aC.lf1 p_e))]⟩) ⟨[(1,.ptr 0 0),(2,.b_ false),(16,.b_ r1)],[.box 44 (.dat (aC.lf1 p_e))]⟩ (Wx p_e r1).den (sW (by kernel_rfl)) fun r2 _ =>
 .sj Tryz.f296 0 [1,0] [20,21,22,23,24] 1 5 [1,2,22] 1 (fun r_=>⟨[(1,.ptr 0 0),(2,.b_ false),(27,.b_ r_)],[.box 44 (.dat (aC.lf1 p_e))]⟩) ⟨[(1,.ptr 0 0),(2,.b_ false),(22,.b_ r2)],[.box 44 (.dat (aC.lf1 p_e))]⟩ (Wy p_e r2).den (sW (by kernel_rfl)) fun r3 _ =>
 .sj Tryz.f296 0 [1,0] [25,26,27,28,29] 1 5 [1,2,27] 1 (fun r_=>⟨[(1,.ptr 0 0),(2,.b_ false),(32,.b_ r_)],[.box 44 (.dat (aC.lf1 p_e))]⟩) ⟨[(1,.ptr 0 0),(2,.b_ false),(27,.b_ r3)],[.box 44 (.dat (aC.lf1 p_e))]⟩ (WA p_e r3).den (sW (by kernel_rfl)) fun r4 _ =>
 .sj Tryz.f296 0 [1,0] [30,31,32,33,34,35] 1 6 [1,2,32] 1 (fun r_=>⟨[(2,.b_ false),(38,.b_ r_)],[.dead]⟩) ⟨[(1,.ptr 0 0),(2,.b_ false),(32,.b_ r4)],[.box 44 (.dat (aC.lf1 p_e))]⟩ (WB p_e r4).den (sW (by kernel_rfl)) fun r5 _ =>
 .sj Tryz.f296 0 [1,0] [36] 1 1 [2,38] 1 (fun r_=>⟨[(2,.b_ r5)],[.dead]⟩) ⟨[(2,.b_ false),(38,.b_ r5)],[.dead]⟩ (WC r5).den (sW (by kernel_rfl)) fun r6 _ =>
 .ret (bn 1) (r5)
def Q60 (p_e:aC) : Option (Bool) := Mo.den (afF p_e)
theorem ahc (p_e:aC) : FV (Q60 p_e) 296 [.dat (aC.lf1 p_e)] (fun r=>.b_ r) := dw Tryz.func296 (by kernel_rfl) (fun _=>rfl) (by kernel_rfl)
def Z4 (p_p:aH) : Mo (Bool) :=
 .cl (U4 p_p.fOp) fun r0 _ =>
 .ite (!r0) (fun c0 =>
 .say [.gd 4004 true,.num p_p.cO.length] (okc c0 (ok1 (ln_ p_p.cO lfS))) <|
 .rt [1,12] 1 (decide ((0:Int) < (p_p.cO.length:Int)))) fun c0 =>
 .say [.gd 4004 false] (ok1 c0) <|
 .rt [1,12] 1 (false)
def Z5 (p_p:aH) (r0:Bool) : Mo (Bool) :=
 .iG 4010 (r0) (.rt [1,24] 1 (true)) <|
 .cl (U5 p_p.fOp) fun r1 _ =>
 .iG 4015 (!r1) (.cl (tJ p_p.fArg) fun r2 _ =>
 .rt [1,24] 1 (!r2)) <|
 .rt [1,24] 1 (false)
def WE (p_p:aH) (r0:Bool) : Mo (Bool) :=
 .iG 4022 (r0) (.rt [1,36] 1 (true)) <|
 .cl (Jg p_p.fOp) fun r1 _ =>
 .ite (!r1) (fun c0 =>
 .say [.gd 4027 true,.num p_p.fArgs.length] (okc c0 (ok1 (ln_ p_p.fArgs ah.lf))) <|
 .rt [1,36] 1 (decide ((0:Int) < (p_p.fArgs.length:Int)))) fun c0 =>
 .say [.gd 4027 false] (ok1 c0) <|
 .rt [1,36] 1 (false)
def WG (p_p:aH) : Mo (Bool) :=
 .iG 8003 (p_p.fOp != 10) (.rt [1,44] 1 (p_p.fOp != 11)) <|
 .rt [1,44] 1 (false)
def WH (p_p:aH) (r0:Bool) : Mo (Bool) :=
 .iG 8008 (r0) (.rt [1,49] 1 (p_p.fOp != 12)) <|
 .rt [1,49] 1 (false)
def WI (p_p:aH) (r0:Bool) : Mo (Bool) :=
 .iG 8013 (r0) (.rt [1,54] 1 (p_p.fOp != 13)) <|
 .rt [1,54] 1 (false)
def WJ (p_p:aH) (r0:Bool) : Mo (Bool) :=
 .iG 8018 (r0) (.rt [1,59] 1 (p_p.fN != 0)) <|
 .rt [1,59] 1 (false)
def WL (p_p:aH) (r0:Bool) : Mo (Bool) :=
 .iG 8023 (r0) (.rt [1,69] 1 (true)) <|
 .iG 8027 (p_p.fOp != 12) (.rt [1,69] 1 (p_p.fM != 0)) <|
 .rt [1,69] 1 (false)
def WM (p_p:aH) : Mo (Bool) :=
 .iG 12003 (p_p.fOp == 18) (.rt [1,77] 1 (true)) <|
 .cl (ahb p_p.eF) fun r0 _ =>
 .rt [1,77] 1 (r0)
def WO (p_p:aH) (r0:Bool) : Mo (Bool) :=
 .iG 12008 (r0) (.iG 12012 (p_p.fOp == 24) (.ret ⟨[.kill 0],[87],[],1⟩ (true)) <|
 .cl (ahc p_p.fExpr) fun r1 _ =>
 .ret ⟨[.kill 0],[87],[],1⟩ (r1)) <|
 .ret ⟨[.kill 0],[87],[],1⟩ (false)
def WQ (r0:Bool) : Mo (Unit) :=
 .rt [2] 1 ()
def afG (p_p:aH) : Mo (Bool) :=
 .sj Tryz.f249 0 [1,0,0] [0,1,2,3,4,5,6,7,8,9] 1 10 [1] 1 (fun r_=>⟨[(1,.ptr 0 0),(12,.b_ r_)],[.box 47 (.dat (aH.lf1 p_p))]⟩) ⟨[(1,.ptr 0 0)],[.box 47 (.dat (aH.lf1 p_p))]⟩ (Z4 p_p).den (sW (by kernel_rfl)) fun r0 _ =>
 .sj Tryz.f249 0 [1,0,0] [10,11,12,13,14,15,16,17,18,19,20,21] 1 12 [1,12] 1 (fun r_=>⟨[(1,.ptr 0 0),(24,.b_ r_)],[.box 47 (.dat (aH.lf1 p_p))]⟩) ⟨[(1,.ptr 0 0),(12,.b_ r0)],[.box 47 (.dat (aH.lf1 p_p))]⟩ (Z5 p_p r0).den (sW (by kernel_rfl)) fun r1 _ =>
 .sj Tryz.f249 0 [1,0,0] [22,23,24,25,26,27,28,29,30,31,32,33] 1 12 [1,24] 1 (fun r_=>⟨[(1,.ptr 0 0),(36,.b_ r_)],[.box 47 (.dat (aH.lf1 p_p))]⟩) ⟨[(1,.ptr 0 0),(24,.b_ r1)],[.box 47 (.dat (aH.lf1 p_p))]⟩ (WE p_p r1).den (sW (by kernel_rfl)) fun r2 _ =>
 .iB (r2) (.ret (bn 1) (false)) <|
 .sj Tryz.f249 0 [1,1,0,0] [0,1,2,3,4,5,6,7] 3 8 [1] 1 (fun r_=>⟨[(1,.ptr 0 0),(44,.b_ r_)],[.box 47 (.dat (aH.lf1 p_p))]⟩) ⟨[(1,.ptr 0 0)],[.box 47 (.dat (aH.lf1 p_p))]⟩ (WG p_p).den (sW (by kernel_rfl)) fun r3 _ =>
 .sj Tryz.f249 0 [1,1,0,0] [8,9,10,11,12] 3 5 [1,44] 1 (fun r_=>⟨[(1,.ptr 0 0),(49,.b_ r_)],[.box 47 (.dat (aH.lf1 p_p))]⟩) ⟨[(1,.ptr 0 0),(44,.b_ r3)],[.box 47 (.dat (aH.lf1 p_p))]⟩ (WH p_p r3).den (sW (by kernel_rfl)) fun r4 _ =>
 .sj Tryz.f249 0 [1,1,0,0] [13,14,15,16,17] 3 5 [1,49] 1 (fun r_=>⟨[(1,.ptr 0 0),(54,.b_ r_)],[.box 47 (.dat (aH.lf1 p_p))]⟩) ⟨[(1,.ptr 0 0),(49,.b_ r4)],[.box 47 (.dat (aH.lf1 p_p))]⟩ (WI p_p r4).den (sW (by kernel_rfl)) fun r5 _ =>
 .sj Tryz.f249 0 [1,1,0,0] [18,19,20,21,22] 3 5 [1,54] 1 (fun r_=>⟨[(1,.ptr 0 0),(59,.b_ r_)],[.box 47 (.dat (aH.lf1 p_p))]⟩) ⟨[(1,.ptr 0 0),(54,.b_ r5)],[.box 47 (.dat (aH.lf1 p_p))]⟩ (WJ p_p r5).den (sW (by kernel_rfl)) fun r6 _ =>
 .sj Tryz.f249 0 [1,1,0,0] [23,24,25,26,27,28,29,30,31,32] 3 10 [1,59] 1 (fun r_=>⟨[(1,.ptr 0 0),(69,.b_ r_)],[.box 47 (.dat (aH.lf1 p_p))]⟩) ⟨[(1,.ptr 0 0),(59,.b_ r6)],[.box 47 (.dat (aH.lf1 p_p))]⟩ (WL p_p r6).den (sW (by kernel_rfl)) fun r7 _ =>
 .iB (r7) (.ret (bn 1) (false)) <|
 .sj Tryz.f249 0 [1,1,1,0] [0,1,2,3,4,5,6,7] 5 8 [1] 1 (fun r_=>⟨[(1,.ptr 0 0),(77,.b_ r_)],[.box 47 (.dat (aH.lf1 p_p))]⟩) ⟨[(1,.ptr 0 0)],[.box 47 (.dat (aH.lf1 p_p))]⟩ (WM p_p).den (sW (by kernel_rfl)) fun r8 _ =>
 .sj Tryz.f249 0 [1,1,1,0] [8,9,10,11,12,13,14,15,16,17] 5 10 [1,77] 1 (fun r_=>⟨[(87,.b_ r_)],[.dead]⟩) ⟨[(1,.ptr 0 0),(77,.b_ r8)],[.box 47 (.dat (aH.lf1 p_p))]⟩ (WO p_p r8).den (sW (by kernel_rfl)) fun r9 _ =>
 .sj Tryz.f249 0 [1,1,1,0] [18] 5 1 [87] 1 (fun r_=>⟨[(2,.b_ r9)],[.dead]⟩) ⟨[(87,.b_ r9)],[.dead]⟩ (WQ r9).den (sW (by kernel_rfl)) fun r10 _ =>
 .ret (bn 1) (r9)
def Q44 (p_p:aH) : Option (Bool) := Mo.den (afG p_p)
theorem ahd (p_p:aH) : FV (Q44 p_p) 249 [.dat (aH.lf1 p_p)] (fun r=>.b_ r) := dw Tryz.func249 (by kernel_rfl) (fun _=>rfl) (by kernel_rfl)
def Z7 (p_op:Int) : Mo (Bool) :=
 .iB (p_op == 1) (.rt [3,4] 0 (p_op == 1)) <|
 .iB (p_op == 2) (.rt [3,4] 0 (p_op == 2)) <|
 .rt [3,4] 0 (p_op == 3)
def Z8 (p_op:Int) : Mo (Bool) :=
 .iB (p_op == 18) (.rt [3,8] 0 (p_op == 18)) <|
 .iB (p_op == 22) (.rt [3,8] 0 (p_op == 22)) <|
 .iB (p_op == 23) (.rt [3,8] 0 (p_op == 23)) <|
 .iB (p_op == 24) (.rt [3,8] 0 (p_op == 24)) <|
 .iB (p_op == 26) (.rt [3,8] 0 (p_op == 26)) <|
 .iB (p_op == 30) (.rt [3,8] 0 (p_op == 30)) <|
 .iB (p_op == 31) (.rt [3,8] 0 (p_op == 31)) <|
 .rt [3,8] 0 (p_op == 36)
def WR (p_op:Int) : Mo (Bool) :=
 .iB (p_op == 19) (.rt [3,17] 0 (p_op == 19)) <|
 .rt [3,17] 0 (p_op == 25)
def WS (p_op:Int) : Mo (Bool) :=
 .iB (p_op == 4) (.rt [20] 0 (p_op == 4)) <|
 .iB (p_op == 6) (.rt [20] 0 (p_op == 6)) <|
 .iB (p_op == 16) (.rt [20] 0 (p_op == 16)) <|
 .iB (p_op == 17) (.rt [20] 0 (p_op == 17)) <|
 .iB (p_op == 21) (.rt [20] 0 (p_op == 21)) <|
 .iB (p_op == 29) (.rt [20] 0 (p_op == 29)) <|
 .iB (p_op == 37) (.rt [20] 0 (p_op == 37)) <|
 .iB (p_op == 35) (.rt [20] 0 (p_op == 35)) <|
 .rt [20] 0 (p_op == 34)
def afH (p_op:Int) : Mo (Int) :=
 .jp Tryz.f323 0 [1,0,1,0,0,1] 1 [3,4] 0 (.normal) (fun r_=>⟨[(3,.i_ p_op),(4,.b_ r_)],[]⟩) ⟨[(3,.i_ p_op),(4,.lf (.bool (p_op == 1)))],[]⟩ (Z7 p_op).den (jW (by kernel_rfl)) fun r0 _ =>
 .iB (r0) (.ret (bn 1) (0)) <|
 .jp Tryz.f323 0 [1,0,1,0,1,1,0,1] 1 [3,8] 0 (.normal) (fun r_=>⟨[(3,.i_ p_op),(8,.b_ r_)],[]⟩) ⟨[(3,.i_ p_op),(8,.lf (.bool (p_op == 18)))],[]⟩ (Z8 p_op).den (jW (by kernel_rfl)) fun r1 _ =>
 .iB (r1) (.ret (bn 1) (1)) <|
 .jp Tryz.f323 0 [1,0,1,0,1,1,1,1,0,1] 1 [3,17] 0 (.normal) (fun r_=>⟨[(3,.i_ p_op),(17,.b_ r_)],[]⟩) ⟨[(3,.i_ p_op),(17,.lf (.bool (p_op == 19)))],[]⟩ (WR p_op).den (jW (by kernel_rfl)) fun r2 _ =>
 .iB (r2) (.ret (bn 1) (3)) <|
 .jp Tryz.f323 0 [1,0,1,0,1,1,1,1,1,1,0,1] 1 [3,20] 0 (.normal) (fun r_=>⟨[(20,.b_ r_)],[]⟩) ⟨[(3,.i_ p_op),(20,.lf (.bool (p_op == 4)))],[]⟩ (WS p_op).den (jW (by kernel_rfl)) fun r3 _ =>
 .iB (r3) (.ret (bn 1) ((-1))) <|
 .ret (bn 1) (2)
def Q52 (p_op:Int) : Option (Int) := Mo.den (afH p_op)
theorem nS (p_op:Int) : FV (Q52 p_op) 323 [.i_ p_op] (fun r=>.i_ r) := dw Tryz.func323 (by kernel_rfl) (fun _=>rfl) (by kernel_rfl)
def C9 (p_l:List ByteArray) (v0:Int) : (Int) → Mo ((Int) ⊕ (Unit ⊕ Unit)) := fun (v1) =>
 .ite (decide ((v1:Int) < v0)) (fun c0 =>
 .say [.br true,.order [(true,0),(true,1),(true,2),(true,3),(true,4),(true,5),(true,6),(true,7),(true,8)] none []] (ok1 c0) <|
 .ask (bT p_l v1) fun x0 h0 =>
 .say [.row (lfS x0)] (ok1 (aX lS_ h0)) <|
 .ask (bT p_l v0) fun x1 h1 =>
 .say [.row (lfS x1)] (ok1 (aX lS_ h1)) <|
 .iB (decide ((x0:ByteArray) = (x1:ByteArray))) (.rt [2] 0 (.inr (.inl ()))) <|
 .rt [0,3,4] 0 (.inl (IntKind.wrap .i64 (v1 + 1)))) fun c0 =>
 .say [.br false] (ok1 c0) <|
 .rt [0,3] 0 (.inr (.inr (())))
def Z9 (p_l:List ByteArray) (v0:Int) (v1:Int) : Option (Unit ⊕ Unit) := bJ (fun v_=>(C9 p_l v0 v_).den) FU (v1)
def NT (p_l:List ByteArray) (v0:Int) : (Int) → St := fun (v1)=>⟨[(0,.lf (.rows 1 (p_l.map lfS))),(3,.i_ v0),(4,.i_ v1)],[]⟩
def wG (r_:Unit ⊕ Unit) : Exit := match r_ with
 | .inl o_=>.ret
 | .inr (o_)=>.exit 2
def wH (p_l:List ByteArray) (v0:Int) (r_:Unit ⊕ Unit) : St := match r_ with
 | .inl o_=>⟨[(2,.b_ false)],[]⟩
 | .inr (o_)=>⟨[(0,.lf (.rows 1 (p_l.map lfS))),(3,.i_ v0)],[]⟩
theorem NU {p_l:List ByteArray} {v0:Int} {v1:Int} {r_:Unit ⊕ Unit} (h:Z9 p_l v0 v1 = some r_) : gq Tryz.f324 0 [1,0,1,0,0,1,0,0,1,1,0] (wG r_) (wH p_l v0 r_) (NT p_l v0 (v1)) :=
 dR dL (body := (Code.sub (bodyC Tryz.f324) [1,0,1,0,0,1,0,0,1,1,0,0])) (by kernel_rfl) (C9 p_l v0) (NT p_l v0) wG (wH p_l v0) (fun r_=>by rcases r_ with _ | _ <;> rfl) (fun v_=>by kernel_rfl) h
def Dc (p_l:List ByteArray) : (Int) → Mo ((Int) ⊕ (Unit ⊕ Unit)) := fun (v0) =>
 .say [.num p_l.length] (ok1 (ln_ p_l lfS)) <|
 .iB (decide ((v0:Int) < (p_l.length:Int))) (.ask (bT p_l v0) fun x0 h0 =>
 .say [.row (lfS x0)] (ok1 (aX lS_ h0)) <|
 .cl (tH x0) fun r0 _ =>
 .iB (!r0) (.rt [2] 0 (.inr (.inl ()))) <|
 .eY (Z9 p_l v0 0) (fun o0 h1 =>
 .say [.pt_ 0 [0,3,4] 0 (wG (.inl o0)) (wH p_l v0 (.inl o0))] (ok1 (NU h1)) <|
 .rt [2] 0 (.inr (.inl ()))) fun o1 h1 =>
 .say [.pt_ 0 [0,3,4] 0 (wG (.inr (o1))) (wH p_l v0 (.inr (o1)))] (ok1 (NU h1)) <|
 .rt [0,3] 0 (.inl (IntKind.wrap .i64 (v0 + 1)))) <|
 .rt [] 0 (.inr (.inr (())))
def aac (p_l:List ByteArray) (v0:Int) : Option (Unit ⊕ Unit) := bJ (fun v_=>(Dc p_l v_).den) FU (v0)
def NV (p_l:List ByteArray) : (Int) → St := fun (v0)=>⟨[(0,.lf (.rows 1 (p_l.map lfS))),(3,.i_ v0)],[]⟩
def wI (r_:Unit ⊕ Unit) : Exit := match r_ with
 | .inl o_=>.ret
 | .inr (o_)=>.exit 0
def wJ  (r_:Unit ⊕ Unit) : St := match r_ with
 | .inl o_=>⟨[(2,.b_ false)],[]⟩
 | .inr (o_)=>⟨[],[]⟩
theorem NW {p_l:List ByteArray} {v0:Int} {r_:Unit ⊕ Unit} (h:aac p_l v0 = some r_) : gq Tryz.f324 0 [1,0,1,0] (wI r_) (wJ r_) (NV p_l (v0)) :=
 dR dL (body := (Code.sub (bodyC Tryz.f324) [1,0,1,0,0])) (by kernel_rfl) (Dc p_l) (NV p_l) wI wJ (fun r_=>by rcases r_ with _ | _ <;> rfl) (fun v_=>by kernel_rfl) h
def afI (p_l:List ByteArray) : Mo (Bool) :=
 .eY (aac p_l 0) (fun o0 h0 =>
 .say [.pt_ 0 [0,3] 0 (wI (.inl o0)) (wJ (.inl o0))] (ok1 (NW h0)) <|
 .ret (bn 1) (false)) fun o1 h0 =>
 .say [.pt_ 0 [0,3] 0 (wI (.inr (o1))) (wJ (.inr (o1)))] (ok1 (NW h0)) <|
 .ret (bn 1) (true)
def Q15 (p_l:List ByteArray) : Option (Bool) := Mo.den (afI p_l)
theorem ahe (p_l:List ByteArray) : FV (Q15 p_l) 324 [.lf (.rows 1 (p_l.map lfS))] (fun r=>.b_ r) := dw Tryz.func324 (by kernel_rfl) (fun _=>rfl) (by kernel_rfl)
structure rX where
 m1:(p_a:ah) → (p_b:ah) → Option (Bool)
 ok1:∀ p_a p_b,FV (m1 p_a p_b) 207 [.dat (ah.lf1 p_a),.dat (ah.lf1 p_b)] (fun r=>.b_ r)
def U6 (R_:rX) (p_a:ah) (p_b:ah) : Mo (Bool) :=
 .iG 4005 (p_a.aT != p_b.aT) (.rt [2,3,18] 2 (true)) <|
 .rt [2,3,18] 2 (p_a.jK != p_b.jK)
def U7 (R_:rX) (p_a:ah) (p_b:ah) (r0:Bool) : Mo (Bool) :=
 .iG 4012 (r0) (.rt [2,3,25] 2 (true)) <|
 .rt [2,3,25] 2 (!decide ((p_a.fText:ByteArray) = (p_b.fText:ByteArray)))
def NY (R_:rX) (p_a:ah) (p_b:ah) (r0:Bool) : Mo (Bool) :=
 .ite (r0) (fun c0 =>
 .say [.gd 4019 true] (ok1 c0) <|
 .rt [2,3,34] 2 (true)) fun c0 =>
 .say [.gd 4019 false,.num p_a.bV.length,.num p_b.bV.length] (okc c0 (okc (ln_ p_a.bV ah.lf) (ok1 (ln_ p_b.bV ah.lf)))) <|
 .rt [2,3,34] 2 ((p_a.bV.length:Int) != (p_b.bV.length:Int))
def NZ (R_:rX) (p_a:ah) (p_b:ah) (r0:Bool) : Mo (Bool) :=
 .ite (r0) (fun c0 =>
 .say [.gd 4028 true] (ok1 c0) <|
 .rt [2,3,43] 2 (true)) fun c0 =>
 .say [.gd 4028 false,.num p_a.bU.length,.num p_b.bU.length] (okc c0 (okc (ln_ p_a.bU aO.lf) (ok1 (ln_ p_b.bU aO.lf)))) <|
 .rt [2,3,43] 2 ((p_a.bU.length:Int) != (p_b.bU.length:Int))
def Df (R_:rX) (p_a:ah) (p_b:ah) : (Int) → Mo ((Int) ⊕ (Unit ⊕ Unit)) := fun (v0) =>
 .say [.num p_a.bV.length] (ok1 (ln_ p_a.bV ah.lf)) <|
 .iB (decide ((v0:Int) < (p_a.bV.length:Int))) (.ask (bT p_a.bV v0) fun x0 h0 =>
 .say [] (ok1 (aX ah.aU h0)) <|
 .ask (bT p_b.bV v0) fun x1 h1 =>
 .say [] (ok1 (aX ah.aU h1)) <|
 .ask (R_.m1 x0 x1) fun r0 h2 =>
 .say [.dM (.q 0 (.q 1 (.q 2 (.q 3 (.q 4 (.q 5 (.q 6 (.q 7 (.q 8 (.q 9 (.l 10 (.q 11 .fin)))))))))))) (some 10) [] [.row (ah.lf1 x0),.row (ah.lf1 x1),.res (.b_ r0)] [2,3,5,62] 2 [(2,.ptr 0 0),(3,.ptr 1 0),(5,.i_ v0),(62,.lf (.bool (!r0)))] [.box 29 (.dat (ah.lf1 p_a)),.box 29 (.dat (ah.lf1 p_b))]] (okc (R_.ok1 _ _ _ h2) (ok1 (rf_ ⟨[(2,.ptr 0 0),(3,.ptr 1 0),(5,.i_ v0),(62,.lf (.bool (!r0)))],[.box 29 (.dat (ah.lf1 p_a)),.box 29 (.dat (ah.lf1 p_b))]⟩))) <|
 .iB (!r0) (.ret ⟨[.kill 0,.kill 1],[4],[],2⟩ (.inr (.inl ()))) <|
 .rt [2,3,5] 2 (.inl (IntKind.wrap .i64 (v0 + 1)))) <|
 .rt [2,3] 2 (.inr (.inr (())))
def aad (R_:rX) (p_a:ah) (p_b:ah) (v0:Int) : Option (Unit ⊕ Unit) := bJ (fun v_=>(Df R_ p_a p_b v_).den) FU (v0)
def N7 (R_:rX) (p_a:ah) (p_b:ah) : (Int) → St := fun (v0)=>⟨[(2,.ptr 0 0),(3,.ptr 1 0),(5,.i_ v0)],[.box 29 (.dat (ah.lf1 p_a)),.box 29 (.dat (ah.lf1 p_b))]⟩
def wK (r_:Unit ⊕ Unit) : Exit := match r_ with
 | .inl o_=>.ret
 | .inr (o_)=>.exit 0
def wL (p_a:ah) (p_b:ah) (r_:Unit ⊕ Unit) : St := match r_ with
 | .inl o_=>⟨[(4,.b_ false)],[.dead,.dead]⟩
 | .inr (o_)=>⟨[(2,.ptr 0 0),(3,.ptr 1 0)],[.box 29 (.dat (ah.lf1 p_a)),.box 29 (.dat (ah.lf1 p_b))]⟩
theorem N8 {R_:rX} {p_a:ah} {p_b:ah} {v0:Int} {r_:Unit ⊕ Unit} (h:aad R_ p_a p_b v0 = some r_) : gq Tryz.f207 0 [1,1,0,1,0] (wK r_) (wL p_a p_b r_) (N7 R_ p_a p_b (v0)) :=
 dR dL (body := (Code.sub (bodyC Tryz.f207) [1,1,0,1,0,0])) (by kernel_rfl) (Df R_ p_a p_b) (N7 R_ p_a p_b) wK (wL p_a p_b) (fun r_=>by rcases r_ with _ | _ <;> rfl) (fun v_=>by kernel_rfl) h
def N9 (R_:rX) (p_a:ah) (p_b:ah) (v0:Int) : Mo (Bool) :=
 .ask (bT p_a.bU v0) fun x0 h0 =>
 .say [] (ok1 (aX aO.aU h0)) <|
 .ask (bT p_b.bU v0) fun x1 h1 =>
 .say [] (ok1 (aX aO.aU h1)) <|
 .ite (!decide ((x0.fName:ByteArray) = (x1.fName:ByteArray))) (fun c0 =>
 .say [.dM (.q 0 (.q 1 (.q 2 (.q 3 (.q 4 (.q 5 (.q 6 (.q 7 (.q 8 (.q 9 (.q 10 (.q 11 (.q 12 (.q 13 (.q 14 (.q 15 (.q 16 (.q 17 (.q 18 (.q 19 (.q 20 (.q 21 (.q 22 (.q 23 (.q 24 (.q 25 (.l 26 (.q 27 (.q 28 .fin))))))))))))))))))))))))))))) (some 26) [] [.row (aO.lf1 x0),.row (aO.lf1 x1),.gd 24013 true] [2,3,6,98] 2 [(2,.ptr 0 0),(3,.ptr 1 0),(6,.i_ v0),(98,.b_ true)] [.box 29 (.dat (ah.lf1 p_a)),.box 29 (.dat (ah.lf1 p_b))]] (okc c0 (ok1 (rf_ ⟨[(2,.ptr 0 0),(3,.ptr 1 0),(6,.i_ v0),(98,.b_ true)],[.box 29 (.dat (ah.lf1 p_a)),.box 29 (.dat (ah.lf1 p_b))]⟩))) <|
 .rt [2,3,6,98] 2 (true)) fun c0 =>
 .say [] (ok1 c0) <|
 .ask (bT p_a.bU v0) fun x2 h2 =>
 .say [] (ok1 (aX aO.aU h2)) <|
 .ask (bT p_b.bU v0) fun x3 h3 =>
 .say [] (ok1 (aX aO.aU h3)) <|
 .ask (R_.m1 x2.fValue x3.fValue) fun r0 h4 =>
 .say [.dM (.q 0 (.q 1 (.q 2 (.q 3 (.q 4 (.q 5 (.q 6 (.q 7 (.q 8 (.q 9 (.q 10 (.q 11 (.q 12 (.q 13 (.q 14 (.q 15 (.q 16 (.q 17 (.q 18 (.q 19 (.q 20 (.q 21 (.q 22 (.q 23 (.q 24 (.q 25 (.l 26 (.q 27 (.q 28 .fin))))))))))))))))))))))))))))) (some 26) [] [.row (aO.lf1 x0),.row (aO.lf1 x1),.gd 24013 false,.row (aO.lf1 x2),.row (aO.lf1 x3),.res (.b_ r0)] [2,3,6,98] 2 [(2,.ptr 0 0),(3,.ptr 1 0),(6,.i_ v0),(98,.lf (.bool (!r0)))] [.box 29 (.dat (ah.lf1 p_a)),.box 29 (.dat (ah.lf1 p_b))]] (okc (R_.ok1 _ _ _ h4) (ok1 (rf_ ⟨[(2,.ptr 0 0),(3,.ptr 1 0),(6,.i_ v0),(98,.lf (.bool (!r0)))],[.box 29 (.dat (ah.lf1 p_a)),.box 29 (.dat (ah.lf1 p_b))]⟩))) <|
 .rt [2,3,6,98] 2 (!r0)
def Dh (R_:rX) (p_a:ah) (p_b:ah) : (Int) → Mo ((Int) ⊕ (Unit ⊕ Unit)) := fun (v0) =>
 .say [.num p_a.bU.length] (ok1 (ln_ p_a.bU aO.lf)) <|
 .iB (decide ((v0:Int) < (p_a.bU.length:Int))) (.jp Tryz.f207 0 [1,1,1,0,1,0,0,1,0,0,0] 29 [2,3,6] 2 (.normal) (fun r_=>⟨[(2,.ptr 0 0),(3,.ptr 1 0),(6,.i_ v0),(98,.b_ r_)],[.box 29 (.dat (ah.lf1 p_a)),.box 29 (.dat (ah.lf1 p_b))]⟩) ⟨[(2,.ptr 0 0),(3,.ptr 1 0),(6,.i_ v0)],[.box 29 (.dat (ah.lf1 p_a)),.box 29 (.dat (ah.lf1 p_b))]⟩ (N9 R_ p_a p_b v0).den (jW (by kernel_rfl)) fun r0 _ =>
 .iB (r0) (.ret ⟨[.kill 0,.kill 1],[4],[],2⟩ (.inr (.inl ()))) <|
 .rt [2,3,6] 2 (.inl (IntKind.wrap .i64 (v0 + 1)))) <|
 .ret ⟨[.kill 0,.kill 1],[],[],2⟩ (.inr (.inr (())))
def aae (R_:rX) (p_a:ah) (p_b:ah) (v0:Int) : Option (Unit ⊕ Unit) := bJ (fun v_=>(Dh R_ p_a p_b v_).den) FU (v0)
def Oa (R_:rX) (p_a:ah) (p_b:ah) : (Int) → St := fun (v0)=>⟨[(2,.ptr 0 0),(3,.ptr 1 0),(6,.i_ v0)],[.box 29 (.dat (ah.lf1 p_a)),.box 29 (.dat (ah.lf1 p_b))]⟩
def wM (r_:Unit ⊕ Unit) : Exit := match r_ with
 | .inl o_=>.ret
 | .inr (o_)=>.exit 2
def wO  (r_:Unit ⊕ Unit) : St := match r_ with
 | .inl o_=>⟨[(4,.b_ false)],[.dead,.dead]⟩
 | .inr (o_)=>⟨[],[.dead,.dead]⟩
theorem Oc {R_:rX} {p_a:ah} {p_b:ah} {v0:Int} {r_:Unit ⊕ Unit} (h:aae R_ p_a p_b v0 = some r_) : gq Tryz.f207 0 [1,1,1,0,1,0] (wM r_) (wO r_) (Oa R_ p_a p_b (v0)) :=
 dR dL (body := (Code.sub (bodyC Tryz.f207) [1,1,1,0,1,0,0])) (by kernel_rfl) (Dh R_ p_a p_b) (Oa R_ p_a p_b) wM wO (fun r_=>by rcases r_ with _ | _ <;> rfl) (fun v_=>by kernel_rfl) h
def ahf (R_:rX) (p_a:ah) (p_b:ah) : Mo (Bool) :=
 .sj Tryz.f207 0 [1,0,0] [0,1,2,3,4,5,6,7,8,9,10,11] 1 12 [2,3] 2 (fun r_=>⟨[(2,.ptr 0 0),(3,.ptr 1 0),(18,.b_ r_)],[.box 29 (.dat (ah.lf1 p_a)),.box 29 (.dat (ah.lf1 p_b))]⟩) ⟨[(2,.ptr 0 0),(3,.ptr 1 0)],[.box 29 (.dat (ah.lf1 p_a)),.box 29 (.dat (ah.lf1 p_b))]⟩ (U6 R_ p_a p_b).den (sW (by kernel_rfl)) fun r0 _ =>
 .sj Tryz.f207 0 [1,0,0] [12,13,14,15,16,17,18] 1 7 [2,3,18] 2 (fun r_=>⟨[(2,.ptr 0 0),(3,.ptr 1 0),(25,.b_ r_)],[.box 29 (.dat (ah.lf1 p_a)),.box 29 (.dat (ah.lf1 p_b))]⟩) ⟨[(2,.ptr 0 0),(3,.ptr 1 0),(18,.b_ r0)],[.box 29 (.dat (ah.lf1 p_a)),.box 29 (.dat (ah.lf1 p_b))]⟩ (U7 R_ p_a p_b r0).den (sW (by kernel_rfl)) fun r1 _ =>
 .sj Tryz.f207 0 [1,0,0] [19,20,21,22,23,24,25,26,27] 1 9 [2,3,25] 2 (fun r_=>⟨[(2,.ptr 0 0),(3,.ptr 1 0),(34,.b_ r_)],[.box 29 (.dat (ah.lf1 p_a)),.box 29 (.dat (ah.lf1 p_b))]⟩) ⟨[(2,.ptr 0 0),(3,.ptr 1 0),(25,.b_ r1)],[.box 29 (.dat (ah.lf1 p_a)),.box 29 (.dat (ah.lf1 p_b))]⟩ (NY R_ p_a p_b r1).den (sW (by kernel_rfl)) fun r2 _ =>
 .sj Tryz.f207 0 [1,0,0] [28,29,30,31,32,33,34,35,36] 1 9 [2,3,34] 2 (fun r_=>⟨[(2,.ptr 0 0),(3,.ptr 1 0),(43,.b_ r_)],[.box 29 (.dat (ah.lf1 p_a)),.box 29 (.dat (ah.lf1 p_b))]⟩) ⟨[(2,.ptr 0 0),(3,.ptr 1 0),(34,.b_ r2)],[.box 29 (.dat (ah.lf1 p_a)),.box 29 (.dat (ah.lf1 p_b))]⟩ (NZ R_ p_a p_b r2).den (sW (by kernel_rfl)) fun r3 _ =>
 .iB (r3) (.ret (bn 1) (false)) <|
 .eY (aad R_ p_a p_b 0) (fun o0 h0 =>
 .say [.pt_ 0 [2,3,5] 2 (wK (.inl o0)) (wL p_a p_b (.inl o0))] (ok1 (N8 h0)) <|
 .ret (bn 1) (false)) fun o1 h0 =>
 .say [.pt_ 0 [2,3,5] 2 (wK (.inr (o1))) (wL p_a p_b (.inr (o1)))] (ok1 (N8 h0)) <|
 .eY (aae R_ p_a p_b 0) (fun o2 h1 =>
 .say [.pt_ 0 [2,3,6] 2 (wM (.inl o2)) (wO (.inl o2))] (ok1 (Oc h1)) <|
 .ret (bn 1) (false)) fun o3 h1 =>
 .say [.pt_ 0 [2,3,6] 2 (wM (.inr (o3))) (wO (.inr (o3)))] (ok1 (Oc h1)) <|
 .ret (bn 1) (true)
theorem ahg (R_:rX) (p_a:ah) (p_b:ah) : FV (Mo.den (ahf R_ p_a p_b)) 207 [.dat (ah.lf1 p_a),.dat (ah.lf1 p_b)] (fun r=>.b_ r) := dw Tryz.func207 (by kernel_rfl) (fun _=>rfl) (by kernel_rfl)
def kL:Nat → rX
 | 0=>{ m1 := fun p_a p_b=>none,ok1 := fun _ _ _ h=>(by cases h) }
 | n_ + 1=>{ m1 := fun p_a p_b=>Mo.den (ahf (kL n_) p_a p_b),ok1 := ahg (kL n_) }
def Q7 (p_a:ah) (p_b:ah) : Option (Bool) := (kL FU).m1 p_a p_b
theorem U8 (p_a:ah) (p_b:ah) : FV (Q7 p_a p_b) 207 [.dat (ah.lf1 p_a),.dat (ah.lf1 p_b)] (fun r=>.b_ r) := (kL FU).ok1 p_a p_b
end
end Go.Proofs.YtdnafbfmaphhhaaGreatDoor
